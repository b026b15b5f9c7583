/- Contracts of functions that TopQuiet reaches, under the conditions that each states. -/
import Derived.Test.YtfjkpigldogkeaaGreatDoorQay
import Derived.Deep.MidRow
import Derived.Shelf.Spec.SlicesInsert
set_option linter.all false
set_option maxRecDepth 100000
set_option maxHeartbeats 4000000
namespace Go.Proofs.YtfjkpigldogkeaaGreatDoor
open Go.RowKit Go.ChangeShapes Go.WideShapes Go.ChangeAt Go.Proofs.Tryz
def iI(size:Nat)(A:Option Addr)(n:Nat)(xs:List Value):ay:=
 ⟨fun w F=>ai w w.heap.size size A n xs/\∀b,F b↔0<n/\bH A b,fun {w w' F} h hs hk=>⟨⟨h.1.1,fun hn=>by
  obtain⟨ad,e,hb,hc⟩:=h.1.2 hn;refine⟨ad,e,by omega,fun j u hu=>?_⟩;have hq:=hk ad.block ((h.2 _).2 ⟨hn,ad,e,rfl⟩);exact(World.cell?_of_block (a:=ad.add j) (by rw[dw];exact hq)).trans (hc j u hu)⟩,h.2⟩,fun {w F b} h hb=>by
  obtain⟨hn,a,ha,rfl⟩:=(h.2 b).1 hb;obtain⟨ad,e,hb,_⟩:=h.1.2 hn;rw[ha]at e;injection e with e
  subst e;exact hb⟩
section
variable{w w' w0:World}{l:List ay}{e:TypeId}{size:Nat}{A A':Option Addr}{n c N c':Nat}{xs ys:List Value}
theorem ae.uG(h:ae w0 (aA e size A n c xs::l) w)(h2:w'.ownsRow 0 e size (.slice A' N c') N ys)(h3:w.grownBy w' (Value.slice A n c).ownBlock)(h4:(Value.slice A' N c').ownBlock=(Value.slice A n c).ownBlock\/(Value.slice A' N c').ownBlock=some w.heap.size):
  ae w0 (aA e size A' N c' ys::l) w':=by
 obtain⟨F1,h1,hcl⟩:=h.step1;refine hcl w' (aA e size A' N c' ys) (bH A') ⟨h2,fun _=>Iff.rfl⟩ ⟨⟨h3.os,h3.tape,h3.output,h3.size,fun b hb hf=>h3.block b hb fun e=>hf ((h1.2 b).2 (aN.1 e.symm))⟩,fun b hb=>?_⟩;have hb':=(aN (n:=N) (c:=c')).2 hb;rcases h4 with h4|h4
 ·rw[h4]at hb';exact .inl ((h1.2 b).2 (aN.1 hb'))
 ·rw[h4]at hb';injection hb' with hb'
  exact .inr (Nat.le_of_eq hb')
theorem ae.rd(h:ae w0 (iI size A n xs::l) w):ai w w.heap.size size A n xs:=by
 obtain⟨F1,h1,_⟩:=h.get;exact h1.1
theorem ae.zK(h:ae w0 (aA e size A n c xs::l) w):ae w0 (iI size A n xs::l) w:=by
 obtain⟨F,⟨F1,F2,h1,h2,h3,h4⟩,h5⟩:=h;refine⟨fun b=>(0<n/\bH A b)\/F2 b,⟨fun b=>0<n/\bH A b,F2,⟨ai.uA h1.1,fun _=>Iff.rfl⟩,h2,fun b hb=>h3 b ((h1.2 b).2 hb.2),fun _=>Iff.rfl⟩,fun b hb=>h5.1 b ((h4 b).2 (hb.imp (fun h9=>(h1.2 b).2 h9.2) id)),h5.2⟩
theorem ae.own(h:ae w0 (aA e size A n c xs::l) w):w.ownsRow 0 e size (.slice A n c) n xs:=by
 obtain⟨F1,h1,_⟩:=h.get;exact h1.1
theorem ae.vJ(h:ae w0 l w)(hb:Below w.heap.size w w')(ho:w'.ownsRow w.heap.size e size (.slice A n c) n xs):ae w0 (aA e size A n c xs::l) w':=
 h.push hb (C:=aA e size A n c xs) (F1:=bH A) ⟨bh ho (Nat.zero_le _),fun _=>Iff.rfl⟩ fun b hb=>(ho.lt b (aN.2 hb)).1
theorem ae.uX(h:ae w0 l w)(e:TypeId)(size:Nat):ae w0 (aA e size none 0 0 []::l) w:=
 h.vJ (Below.refl _ _) ⟨by simp,.inl ⟨rfl,rfl⟩⟩
theorem ae.aQo{g:Nat}(h:ae w0 (aj g e xs::l) w)(hl:xs.length=n*size)(hm:n<=maxLen):ae w0 (aA e size (some (tZ g 0)) n n xs::l) w:=by
 obtain⟨F1,h1,hcl⟩:=h.step1;exact hcl w (aA e size (some (tZ g 0)) n n xs) F1 ⟨⟨hl,.inr ⟨g,n,xs.toArray,rfl,Nat.zero_le _,h1.1,Nat.le_refl _,hm,by simpa using hl,by rw[<-hl];simp⟩⟩,fun b=>(h1.2 b).trans ⟨fun hb=>⟨_,rfl,hb.symm⟩,fun⟨a,ha,hb⟩=>by injection ha with ha;subst ha;exact hb.symm⟩⟩ (bZ.refl _ _)
theorem ae.aQb{g:Nat}(h:ae w0 (aA e size (some (tZ g 0)) n c xs::l) w)(zs:List Value)(hz:zs.length=n*size):ae w0 (aA e size (some (tZ g 0)) 0 c []::l) (w.setCells g 0 zs):=by
 obtain⟨F1,h1,hcl⟩:=h.step1;have ho:=h1.1;rcases ho.2 with⟨h0,_⟩|⟨g',cap,cur,hv,_,hh,hnc,hcm,hs,_⟩
 ·cases h0
 ·injection hv with e1 e2 e3
  injection e1 with e1
  injection e1 with e1
  subst e1;subst e3;have hb:ak w g e cur.toList:=by unfold ak;rw[Array.toArray_toList];exact hh
  have hcl2:cur.toList.length=c*size:=by rw[Array.length_toList];exact hs
  have hle:zs.length<=cur.toList.length:=by rw[hcl2,hz];exact Nat.mul_le_mul_right _ hnc
  have hb2:=ak.setCells zs 0 cur.toList w hb (by omega);have hk:=gB g zs 0 w;refine hcl _ (aA e size (some (tZ g 0)) 0 c []) F1 ⟨⟨by simp,.inr ⟨g,c,_,rfl,Nat.zero_le _,hb2,Nat.zero_le _,hcm,?_,by simp⟩⟩,h1.2⟩ ⟨⟨hk.1,hk.2.1,hk.2.2.1,Nat.le_of_eq hk.2.2.2.1.symm,fun k hk1 hF=>hk.2.2.2.2 k fun e9=>hF ((h1.2 k).2 ⟨_,rfl,e9.symm⟩)⟩,fun _ h9=>.inl h9⟩;rw[List.size_toArray,List.length_append,List.length_append,List.take_zero,List.length_nil,List.length_drop];omega
theorem ae.setCells{g:Nat}{T:TypeId}{cs:List Value}(h:ae w0 (aj g T cs::l) w)(vs:List Value)(o:Nat)(hl:o+vs.length<=cs.length):ae w0 (aj g T (cs.take o++vs++cs.drop (o+vs.length))::l) (w.setCells g o vs):=by
 obtain⟨F1,h1,hcl⟩:=h.step1;have hb:ak w g T cs/\_:=h1;refine hcl _ (aj g T (cs.take o++vs++cs.drop (o+vs.length))) F1 ⟨ak.setCells vs o cs w hb.1 hl,hb.2⟩ ⟨?_,fun _ h9=>.inl h9⟩;have hk:=gB g vs o w;exact⟨hk.1,hk.2.1,hk.2.2.1,Nat.le_of_eq hk.2.2.2.1.symm,fun k hk1 hF=>hk.2.2.2.2 k fun e=>hF ((hb.2 k).2 e)⟩
end
section
variable{P:Program}(w:World)
theorem ed{ops:Array Oper}{o:Oper}{a:Act}{K:Act->World->Prop}{Q:Exit->Act->World->Prop}{E:Prop}(hgd:o.guard=none)(s x:Operand)(t:TypeId)
(ho:o.op=.call {callee:=.builtin .append,args:= #[s,x],argTypes:= #[t,t]})
(e:TypeId)(i:TypeInfo)(z:Value)(size bytes:Nat)(ht:P.underlying t=some (.slice e))(hi:P.info? e=some i)(hz:i.zero=some z)
(hsize:i.size=size)(hby:i.bytes=bytes)(hzs:z.cells.size=size)(hsz:0<size)
(v:Value)(n:Nat)(xs:List Value)(hs:a.eval s=v)(hown:w.ownsRow 0 e size v n xs)
(B:Nat)(A:Option Addr)(m c:Nat)(news:List Value)(hx:a.eval x=.slice A m c)(hr:ai w B size A m news)(h1:∀u∈news,u.oneCell'=true)
(h63:n+m<=maxLen)(hbytes:(n+m)*bytes<=140737488355328)(N:Nat)(hN:n+m=N)
(h:∀A' c' w',w'.ownsRow 0 e size (.slice A' N c') N (xs++news)->w.grownBy w' v.ownBlock->((Value.slice A' N c').ownBlock=v.ownBlock\/(Value.slice A' N c').ownBlock=some w.heap.size)->K (a.put o.dst (.slice A' N c')) w'):
  if Region.wanted o (yielded ops a.tmps)=true then Oper.wp P o a w K Q else E:=by
 have hw:Region.wanted o (yielded ops a.tmps)=true:=by simp[Region.wanted,hgd]
 rw[if_pos hw];subst hN;exact Jw w s x t ho 0 e i z size bytes ht hi hz hsize hby hzs hsz v n xs hs hown B A m c news hx hr h1 h63 hbytes (Nat.zero_le _) fun A' c' w' h2 h3 h4=>h A' c' w' h2 h3 h4
theorem aAI{ops:Array Oper}{op:Oper}{a:Act}{w:World}{K:Act->World->Prop}{Q:Exit->Act->World->Prop}{E:Prop}(hgd:op.guard=none)(ty:TypeId)(x y:Operand)(ho:op.op=.store ty x y)
(b o:Nat)(cells:Array Value)(hx:a.eval x=.pointer (some (tZ b o)))(hy:a.eval y=.agg cells)
(ht:w.there b o cells.size)(hi:(P.info? ty).map (·.size)=some cells.size)(h1:cells.all (·.oneCell')=true)
(h:K (a.put op.dst undef) (w.setCells b o cells.toList)):if Region.wanted op (yielded ops a.tmps)=true then Oper.wp P op a w K Q else E:=by
 have hw:Region.wanted op (yielded ops a.tmps)=true:=by simp[Region.wanted,hgd]
 rw[if_pos hw];exact wp_store_mid ty x y ho b o cells hx hy ht hi h1 h
end
theorem ij{P:Program}{ops:Array Oper}{Q:Exit->Act->World->Prop}{md:Region.Mode}{S:World->Prop}(i d:Nat){oi:Oper}{v:Value}{fuel:Nat}{listed:Array Bool}{a:Act}{w:World}(hi:ops[i]? =some oi)(hd:oi.dst=some d)
(hs:Region.noSelect ops=true)(hf:Region.free md ops listed i=true)(hr:(Region.ready md ops listed).contains i=true)
(hQ:∀c a w,Q (.panic c) (a.put oi.dst v) w->Q (.panic c) a w)(hy:YieldsIf P ops S oi v a)(hS:S w)
(h:wpAnyH P md ops Q S fuel (listed.setIfInBounds i true) (a.put (some d) v) w):wpAnyH P md ops Q S (fuel+1) listed a w:=
 wpAnyH_take hi hs hf hr hQ hy hS (by rw[hd];exact h)
theorem ak.range{w:World}{g:Nat}{T:TypeId}{cs:List Value}(h:ak w g T cs)(o:Nat)(xs:List Value)(hx:∀j v,xs[j]? =some v->cs[o+j]? =some v):w.rangeAt g o xs:=fun j v hv=>(h.cell (o+j)).trans (hx j v hv)
theorem ak.all{w:World}{g:Nat}{T:TypeId}{cs:List Value}(h:ak w g T cs):w.rangeAt g 0 cs:=h.range 0 cs fun j v hv=>by rw[Nat.zero_add];exact hv
theorem ak.there{w:World}{g:Nat}{T:TypeId}{cs:List Value}(h:ak w g T cs)(o n:Nat)(hn:o+n<=cs.length):w.there g o n:=fun j hj=>⟨by rw[h.cell,List.getElem?_eq_getElem (by omega)];rfl,h.frozen _⟩
def iF(x:Nat×List UInt8):List Value:=iV (x.1:Int)::x.2.map bV
def aT(x:List UInt8):List Value:=x.map bV
structure J7 where
 gl:Nat
 A:Option Addr
 c:Nat
def pX(d:Nat)(s:ja)(a:J7):ay:=aj d 173 [.slice (some (tZ a.gl 0)) s.laid.length s.laid.length,.slice a.A s.waits.length a.c,iV s.yu,.bool s.down]
def qO(s:ja)(a:J7):ay:=aj a.gl 280 (s.laid.flatMap aT)
def rE(s:ja)(a:J7):ay:=aA 282 65 a.A s.waits.length a.c (s.waits.flatMap iF)
def dU(d:Nat)(s:ja):ay:=ay.ex fun a:J7=>ay.all [pX d s a,qO s a,rE s a]
section
variable{w w' w0:World}{d:Nat}{s s':ja}{l:List ay}{a:J7}
theorem ae.xK(h:ae w0 (dU d s::l) w):∃a,ae w0 (pX d s a::qO s a::rE s a::l) w:=by
 obtain⟨a,h⟩:=h.aRJ;exact⟨a,h.xI⟩
theorem ae.vT(h:ae w0 (pX d s a::qO s a::rE s a::l) w):ae w0 (dU d s::l) w:=ae.ex a (ae.all (L:=[pX d s a,qO s a,rE s a]) h)
theorem ae.uN(h:ae w0 (pX d s a::l) w):w.cell? (tZ d 0)=some (.slice (some (tZ a.gl 0)) s.laid.length s.laid.length)/\w.cell? (tZ d 1)=some (.slice a.A s.waits.length a.c)/\w.cell? (tZ d 2)=some (iV s.yu)/\w.cell? (tZ d 3)=some (.bool s.down)/\∀k,w.frozen? (tZ d k)=false:=by
 have hb:=ae.blk h;exact⟨hb.cellAt rfl,hb.cellAt rfl,hb.cellAt rfl,hb.cellAt rfl,hb.frozen⟩
theorem ae.aQJ(h:ae w0 (pX d s a::qO s a::rE s a::l) w)(M:Int):ae w0 (dU d {s with yu:=M}::l) (w.setCell (tZ d 2) (iV M)):=by
 have h1:ae w0 (aj d 173 [.slice (some (tZ a.gl 0)) s.laid.length s.laid.length,.slice a.A s.waits.length a.c,iV s.yu,.bool s.down]::qO s a::rE s a::l) w:=h;exact ae.vT (s:={s with yu:=M}) (a:=a) (h1.store 2 (iV M))
theorem ae.aRQ(h:ae w0 (pX d s a::qO s a::rE s a::l) w)(b:Bool):ae w0 (dU d {s with down:=b}::l) (w.setCell (tZ d 3) (.bool b)):=by
 have h1:ae w0 (aj d 173 [.slice (some (tZ a.gl 0)) s.laid.length s.laid.length,.slice a.A s.waits.length a.c,iV s.yu,.bool s.down]::qO s a::rE s a::l) w:=h;exact ae.vT (s:={s with down:=b}) (a:=a) (h1.store 3 (.bool b))
theorem aCi(h:ae w0 (dU d s::l) w)(k:Int):Calls prog 254 #[.pointer (some (tZ d 0)),iV k] w fun e w'=>e=.returned (iV (if k<0\/(s.laid.length:Int)<=k then 3 else 0))/\w=w':=by
 obtain⟨a,h⟩:=h.xK;obtain⟨c0,_⟩:=h.uN;clear h;by_cases h1:k<0
 ·have g1:decide (k<0)=true:=decide_eq_true h1;rw[if_pos (.inl h1)];clear h1;go_enter func254,ntmps254;go_wp2_with fail;go_ret;exact⟨rfl,rfl⟩
 ·have g1:decide (k<0)=false:=decide_eq_false h1;by_cases h2:(s.laid.length:Int)<=k
  ·have g2:decide ((s.laid.length:Int)<=k)=true:=decide_eq_true h2;rw[if_pos (.inr h2)];clear h1 h2;go_enter func254,ntmps254;go_wp2_with fail;go_ret;exact⟨rfl,rfl⟩
  ·have g2:decide ((s.laid.length:Int)<=k)=false:=decide_eq_false h2;rw[if_neg (by omega)];clear h1 h2;go_enter func254,ntmps254;go_wp2_with fail;go_ret;exact⟨rfl,rfl⟩
theorem aBa(h:ae w0 (dU d s::l) w)(hs:eX s):Calls prog 372 #[.pointer (some (tZ d 0))] w fun e w'=>e=.returned (.bool (!s.off))/\ae w0 (dU d s.um::l) w':=by
 obtain⟨a,h⟩:=h.xK;obtain⟨_,_,c2,c3,cf⟩:=h.uN;have H:=hid h;have FN:=hs.f1;have hf2:=hs.f2;clear h hs;obtain⟨ly,wt,fu,dn⟩:=s;simp only at c2 c3 FN hf2;by_cases h0:fu=0
 ·subst h0;have hoff:Hid ((⟨ly,wt,0,dn⟩:ja).off=true):=hid (by simp[ja.off]);clear FN hf2;go_enter func372,ntmps372;go_wp2_with fail;go_ret;refine⟨by rw[hoff.out];rfl,?_⟩;rw[show(⟨ly,wt,0,dn⟩:ja).um=⟨ly,wt,0,true⟩from by unfold ja.um;rw[if_pos hoff.out]];exact H.out.aRQ true
 ·have g0:(fu==0)=false:=by simpa using h0
  cases dn with
  |true=>
   have hoff:Hid ((⟨ly,wt,fu,true⟩:ja).off=true):=hid (by simp[ja.off]);clear FN hf2 h0;go_enter func372,ntmps372;go_wp2_with fail;go_ret;refine⟨by rw[hoff.out];rfl,?_⟩;rw[show(⟨ly,wt,fu,true⟩:ja).um=⟨ly,wt,fu,true⟩from by unfold ja.um;rw[if_pos hoff.out]];exact H.out.vT
  |false=>
   have hoff:Hid ((⟨ly,wt,fu,false⟩:ja).off=false):=hid (by simp[ja.off,h0]);have q1:IntKind.i64.wrap (fu-1)=fu-1:=IntWalk.i64_in _ (by omega);clear FN hf2 h0;go_enter func372,ntmps372;go_wp2_with fail;go_ret;refine⟨by rw[hoff.out];rfl,?_⟩;rw[show(⟨ly,wt,fu,false⟩:ja).um=⟨ly,wt,max (fu-1) (-1),false⟩from by unfold ja.um;rw[if_neg (by rw[hoff.out];decide)]];exact H.out.aQJ _
theorem aHz(h:ae w0 (dU d s::l) w)(n:Int):Calls prog 111 #[.pointer (some (tZ d 0)),iV n] w fun e w'=>e=.returned (.tuple #[])/\ae w0 (dU d (s.yY n)::l) w':=by
 obtain⟨a,h⟩:=h.xK;obtain⟨_,_,c2,c3,cf⟩:=h.uN;have H:=hid h;clear h;obtain⟨ly,wt,fu,dn⟩:=s;simp only at c2 c3;cases dn with
 |true=>
  go_enter func111,ntmps111;go_wp2_with fail;refine bodyPost_end (v:=.tuple #[]) (by simp[results,results111,go_sem]) rfl ?_;exact⟨rfl,H.out.vT⟩
 |false=>
  go_enter func111,ntmps111;go_wp2_with fail;refine bodyPost_end (v:=.tuple #[]) (by simp[results,results111,go_sem]) rfl ?_;refine⟨rfl,?_⟩;rw[show(⟨ly,wt,fu,false⟩:ja).yY n=⟨ly,wt,max n (-1),false⟩from by unfold ja.yY;rw[if_neg (by simp)]];exact H.out.aQJ _
end
theorem aJl:(prog.info? 282).map (fun i=>(i.zero,i.size,i.bytes))=some (some (.agg zeroCells282),65,72):=by kernel_rfl
theorem aEf:∀(l:List Value)(n:Nat)(Z:Array Value),n+l.length<=Z.size->((l.zipIdx n).foldl (fun(cs:Array Value) (p:Value×Nat)=>cs.setIfInBounds (0+p.2) p.1) Z).toList=Z.toList.take n++l++Z.toList.drop (n+l.length)
 |[],n,Z,_=>by simp
 |v::l,n,Z,h=>by
  rw[List.length_cons]at h;rw[List.zipIdx_cons,List.foldl_cons];have h1:=aEf l (n+1) (Z.setIfInBounds (0+n) v) (by rw[Array.size_setIfInBounds];omega);have hz:Z.toList.length=Z.size:=Array.length_toList;have e1:(Z.toList.set n v).take (n+1)=Z.toList.take n++[v]:=by
   rw[List.take_add_one,List.take_set_of_le (Nat.le_refl _),List.getElem?_set_self (by omega)];rfl
  have e2:(Z.toList.set n v).drop (n+1+l.length)=Z.toList.drop (n+(l.length+1)):=by
   rw[List.drop_set_of_lt (by omega)];congr 1
   omega
  rw[h1,Array.toList_setIfInBounds,Nat.zero_add,e1,e2,List.length_cons];simp only[List.append_assoc,List.cons_append,List.nil_append]
theorem aJK(X Z:Array Value)(h:Z.size=X.size):X.zipIdx.foldl (fun(cs:Array Value) (p:Value×Nat)=>cs.setIfInBounds (0+p.2) p.1) Z=X:=by
 apply Array.toList_inj.1
 rw[<-Array.foldl_toList,Array.toList_zipIdx];have hl:X.toList.length=X.size:=Array.length_toList;have hz:Z.toList.length=Z.size:=Array.length_toList;rw[aEf X.toList 0 Z (by omega),List.take_zero,List.nil_append,List.drop_eq_nil_of_le (by omega),List.append_nil]
section
variable{P:Program}
theorem aBb(w:World)(t elem:TypeId)(i:TypeInfo)(z:Value)(size:Nat)(ht:P.underlying t=some (.slice elem))(hi:P.info? elem=some i)(hz:i.zero=some z)(hsize:i.size=size)(hzs:z.cells.size=size)(h0:0<size)(h24:size<=2^24)
(X:Array Value)(hX:X.size=size):(Instr.buildSlice t 1 #[(0,.agg X)]).run P w=.ok (.slice (some (tZ w.heap.size 0)) 1 1) (w.alloc (.cells X elem)):=by
 have hu:=run_underlying ht w;have hs:(sizeOf elem).run P w=.ok size w:=by simp[sizeOf,typeInfo,hi,hsize]
 have hzv:(zeroValue elem).run P w=.ok z w:=by simp[zeroValue,typeInfo,hi,hz]
 have hne:¬(1*size=0):=by omega
 have hgt:¬(1*size>2^24):=by omega
 have aSK:Instr.fill (fun i=>some (i*size,size)) ((Array.range (1*size)).map fun k=>z.cells[k%z.cells.size]!) [(0,.agg X)]=some X:=by
  unfold Instr.fill;have hc:(Value.agg X).cells=X:=rfl;simp only[hc,Nat.zero_mul];rw[if_neg (by simp[hX])];unfold Instr.fill;congr 1
  exact aJK X _ (by simp[hX])
 unfold Instr.buildSlice;simp only[Sem.run_bind,hu,Result.andThen_ok,hs];rw[if_neg hgt];try simp only[Sem.run_pure,Sem.run_bind,Result.andThen_ok]
 rw[if_neg hne];simp only[Sem.run_pure,Sem.run_bind,Result.andThen_ok,hzv,aSK];rfl
theorem aAD{ops:Array Oper}{op:Oper}{a:Act}{w:World}{K:Act->World->Prop}{Q:Exit->Act->World->Prop}{E:Prop}(hgd:op.guard=none)(t:TypeId)(x:Operand)(ho:op.op=.buildSlice t 1 #[(0,x)])
(elem:TypeId)(i:TypeInfo)(z:Value)(size:Nat)(ht:P.underlying t=some (.slice elem))(hi:P.info? elem=some i)(hz:i.zero=some z)(hsize:i.size=size)(hzs:z.cells.size=size)(h0:0<size)(h24:size<=2^24)
(X:Array Value)(hX:X.size=size)(hx:a.eval x=.agg X)(h:K (a.put op.dst (.slice (some (tZ w.heap.size 0)) 1 1)) (w.alloc (.cells X elem))):
  if Region.wanted op (yielded ops a.tmps)=true then Oper.wp P op a w K Q else E:=by
 have hw:Region.wanted op (yielded ops a.tmps)=true:=by simp[Region.wanted,hgd]
 rw[if_pos hw];have hr:=aBb (P:=P) w t elem i z size ht hi hz hsize hzs h0 h24 X hX;unfold Oper.wp execOp;simp only[ho,List.map_toArray,List.map_cons,List.map_nil,hx,Sem.run_bind,Sem.run_pure,hr,Result.andThen_ok];exact h
end
section
variable{w w' w0:World}{d:Nat}{s s':ja}{l:List ay}{a:J7}
theorem aAY{g:Nat}{T:TypeId}{xs:List Value}{A:Option Addr}{B n m o dc c:Nat}{bs:List UInt8}(hk:ak w g T xs)(ho:o+min m n<=xs.length)(hr:ai w B 1 A m (bs.map bV))(hm:0<m):
  (Builtin.copy_ #[37,37] 3 #[.slice (some (tZ g o)) n dc,.slice A m c]).run prog w=.ok (goInt (((bs.take (min m n)).map bV).length:Nat)) (w.setCells g o ((bs.take (min m n)).map bV)):=by
 obtain⟨ad,rfl,_,hc⟩:=hr.form hm;have hl:bs.length=m:=by have:=hr.len;simpa using this
 have hl2:((bs.take (min m n)).map bV).length=min m n:=by rw[List.length_map,List.length_take];omega
 refine run_copy_cells w _ _ _ 5 g o n dc ad m c _ underlying37 (by kernel_rfl) (by rw[hl2]) ?_ ?_ ?_ (iG _)
 ·intro j v hj;refine hc j v ?_;rw[List.map_take,List.getElem?_take]at hj;split at hj
  ·exact hj
  ·cases hj
 ·intro j hj;rw[hl2]at hj;rw[hk.cell (o+j),List.getElem?_eq_getElem (by omega)];rfl
 ·intro j _;exact hk.frozen _
theorem aFA(g o:Nat):∀w,(Instr.sliceAt 280 (.pointer (some (tZ g o))) none none none).run prog w=.ok (.slice (some (tZ g o)) 64 64) w:=by
 intro w;have hlen:prog.arrayLen 280=64:=by kernel_rfl
 have hun:prog.underlying 280=some (.array (prog.arrayLen 280) (prog.elem 280)):=by kernel_rfl
 have JG:∀w,(sizeOf (prog.elem 280)).run prog w=.ok 1 w:=fun w=>by kernel_rfl
 rw[run_sliceAt_array_all w 280 ⟨g,o,none⟩ hun,JG,hlen];simp only[Result.andThen_ok,slicedAt];rw[if_neg (by decide)];rfl
theorem aNn(h:ae w0 (dU d s::l) w)(hs:eX s)(k:Nat)(hk:k<s.laid.length)(A:Option Addr)(c:Nat)(hoff:s.off=true):
  Calls prog 307 #[.pointer (some (tZ d 0)),iV (k:Int),.slice A 64 c] w fun e w'=>e=.returned (iV 8)/\ae w0 (dU d s.um::l) w':=by
 have i1:=hid (aCi h k);rw[if_neg (by omega)]at i1;have i2:=hid (aBa h hs);rw[hoff]at i2;clear h hs hk hoff;go_enter func307,ntmps307;go_wp2_with fail;refine i1.out.mono ?_;rintro e w1⟨rfl,rfl⟩;go_wp2_with fail;refine i2.out.mono ?_;rintro e w1⟨rfl,hA⟩;have HA:=hid hA;clear hA;go_wp2_with fail;go_ret;exact⟨rfl,HA.out⟩
theorem aGD(A:Option Addr)(c:Nat)(b:List UInt8)(h:ae w0 (dU d s::iI 1 A 64 (b.map bV)::l) w)(hs:eX s)(k:Nat)(hk:k<s.laid.length)(hoff:s.off=false):
  Calls prog 307 #[.pointer (some (tZ d 0)),iV (k:Int),.slice A 64 c] w fun e w'=>e=.returned (iV 0)/\ae w0 (dU d (s.um.put k b)::iI 1 A 64 (b.map bV)::l) w':=by
 have i1:=hid (aCi h k);rw[if_neg (by omega)]at i1;have i2:=hid (aBa h hs);rw[hoff]at i2;clear h hoff;go_enter func307,ntmps307;go_wp2_with fail;refine i1.out.mono ?_;rintro e w1⟨rfl,rfl⟩;go_wp2_with fail;refine i2.out.mono ?_;rintro e w1⟨rfl,hA⟩;have HA:=hid hA;clear hA;have hcut:=aFA;obtain⟨V,hV⟩:∃V,zeroCells282.setIfInBounds 0 (iV (k:Int))=V:=⟨_,rfl⟩;have J8:V.toList=iV (k:Int)::List.replicate 64 (.int .u8 0):=by rw[<-hV];rfl
 have hVs:V.size=65:=by rw[<-Array.length_toList,J8];rfl
 have hV1:V.all (·.oneCell')=true:=by
  rw[<-Array.toArray_toList (xs:=V),J8];refine all_oneCell_toArray fun v hv=>?_
  rcases List.mem_cons.1 hv with rfl|hv
  ·rfl
  ·rw[(List.mem_replicate.1 hv).2];rfl
 have hVi:(prog.info? 282).map (·.size)=some V.size:=by rw[hVs];kernel_rfl
 obtain⟨w2,hw2,vN,hb2⟩:∃W:World,w1.alloc (.cells V 282)=W/\ae w0 (aj w1.heap.size 282 V.toList::dU d s.um::iI 1 A 64 (b.map bV)::l) W/\Below w1.heap.size w1 W:=⟨_,rfl,HA.out.made (xs:=V.toList),ah _ _⟩;have hbl:b.length=64:=by have:=(ae.rd (vN.at_ 2 rfl)).len;simpa using this
 have AQ:=aAY (o:=1) (n:=64) (dc:=64) (c:=c) (bs:=b) vN.blk (by rw[J8];simp) (ae.rd (vN.at_ 2 rfl)) (by omega);rw[show min 64 64=64 from rfl,List.take_of_length_le (by omega),List.length_map,hbl]at AQ;have Ah:=vN.setCells (b.map bV) 1 (by rw[J8,List.length_map,hbl];simp);have e3:V.toList.take 1++b.map bV++V.toList.drop (1+(b.map bV).length)=iF (k,b):=by
  rw[J8,List.length_map,hbl];show[Value.int .i64 (k:Int)]++b.map bV++[]=_
  rw[List.append_nil];rfl
 rw[e3]at Ah;obtain⟨w3,hw3⟩:∃W,w2.setCells w1.heap.size 1 (b.map bV)=W:=⟨_,rfl⟩;rw[hw3]at AQ Ah;have Hg:=hid hw2;have vS:=hid Ah;clear hw2 vN Ah hw3 e3;go_wp2_with (refine wpList_store_row rfl 282 _ _ rfl w1.heap.size V rfl (by first|exact congrArg Value.agg hV|rfl) 282 zeroCells282 (heap_alloc_new w1 _) hVi (by rw[hVs];rfl) hV1 ?_;rw[World.setRow_alloc_new,Hg.out])
 rename_i Qx Kx ax
 clear AQ hcut hV J8 hVs hV1 hVi Hg hb2;generalize w1.heap.size=g1 at*
 obtain⟨a,hD⟩:=ae.xK (vS.out.perm (List.Perm.swap _ _ _));obtain⟨_,c1,_,_,cf⟩:=hD.uN;obtain⟨X,hX⟩:∃X,iF (k,b)=X:=⟨_,rfl⟩;have Ed:X.length=65:=by rw[<-hX];simp[iF,hbl]
 have hX1:∀u∈X,u.oneCell'=true:=by
  rw[<-hX];intro u hu;rcases List.mem_cons.1 hu with rfl|hu
  ·rfl
  ·exact iG _ u hu
 rw[hX]at hD;have EN:=(ae.blk (hD.at_ 3 rfl)).all;have F8:(prog.info? 282).map (·.size)=some X.length:=by rw[Ed];kernel_rfl
 have HD:=hid hD;have HX:=hid hX;have J9:=hid Ed;have yj:=hid hX1;clear hD vS hX Ed hX1;have MN:∀o,(w3.drew.alloc o).cell? (tZ d 1)=some (.slice a.A s.um.waits.length a.c):=fun o=>((HD.out.drew.alloc o).uN).2.1
 have IX:=hid (show s.um.waits.length+1<=1000001 from by have:=hs.um.w1;omega);obtain⟨L,hL⟩:∃L,s.um.waits.length=L:=⟨_,rfl⟩;have HL:=hid hL;rw[hL]at c1 MN IX;clear hL;have hI:=aJl;obtain⟨i0,hi0,hz0,hz1,hz2⟩:=info_parts hI;have Bo:(Value.agg zeroCells282).cells.size=65:=by rfl
 have HD5:=hid (show ae w0 (pX d s.um a::qO s.um a::aA 282 65 a.A L a.c (s.um.waits.flatMap iF)::aj g1 282 X::iI 1 A 64 (b.map bV)::l) w3 from by rw[<-HL.out];exact HD.out);have HD6:=hid ((HD5.out.drew.made (T:=282) (xs:=X)));have HOW:Hid ((w3.drew.alloc (.cells X.toArray 282)).ownsRow 0 282 65 (.slice a.A L a.c) L (s.um.waits.flatMap iF)):=hid (ae.own (HD6.out.at_ 3 rfl));have HRX:Hid (ai (w3.drew.alloc (.cells X.toArray 282)) (w3.heap.size+1) 65 (some (tZ w3.heap.size 0)) 1 X):=hid (by
  have:=ai.lit (size:=65) (n:=1) (heap_alloc_new w3.drew (.cells X.toArray 282)) (by simp[J9.out]);simpa using this)
 have DL:Hid (∀w4 A4 c4,(w4.ownsRow 0 282 65 (.slice A4 (L+1) c4) (L+1) (s.um.waits.flatMap iF++X)/\(w3.drew.alloc (.cells X.toArray 282)).grownBy w4 (Value.slice a.A L a.c).ownBlock/\((Value.slice A4 (L+1) c4).ownBlock=(Value.slice a.A L a.c).ownBlock\/(Value.slice A4 (L+1) c4).ownBlock=some (w3.drew.alloc (.cells X.toArray 282)).heap.size))->
   ae w0 (pX d s.um a::qO s.um a::aA 282 65 A4 (L+1) c4 (s.um.waits.flatMap iF++X)::aj w3.heap.size 282 X::aj g1 282 X::iI 1 A 64 (b.map bV)::l) w4):=hid (fun w4 A4 c4 h=>by
  have h9:=ae.uG (HD6.out.at_ 3 rfl) h.1 h.2.1 h.2.2;have h8:ae w0 (aA 282 65 A4 (L+1) c4 (s.um.waits.flatMap iF++X)::aj w3.heap.size 282 X::pX d s.um a::qO s.um a::aj g1 282 X::iI 1 A 64 (b.map bV)::l) w4:=h9;exact(((h8.at_ 3 rfl).at_ 3 rfl)).perm ((List.Perm.refl _)))
 have HR4:=hid (fun w4 A4 c4 h=>(ae.blk ((DL.out w4 A4 c4 h).at_ 4 rfl)).all);have MO:=hid (fun w4 A4 c4 h=>((DL.out w4 A4 c4 h).uN).2.1);have HF4:=hid (fun w4 A4 c4 h=>((DL.out w4 A4 c4 h).uN).2.2.2.2);have aRR:=hid (fun w4 A4 c4 h v=>ae.store (show ae w0 (aj d 173 [.slice (some (tZ a.gl 0)) s.um.laid.length s.um.laid.length,.slice a.A s.um.waits.length a.c,iV s.um.yu,.bool s.um.down]::_) w4 from DL.out w4 A4 c4 h) 1 v);have GK:=hid (fun w4 A4 c4 h v=>(ae.blk ((aRR.out w4 A4 c4 h v).at_ 4 rfl)).all);have c1b:∀o,(w3.alloc o).cell? (tZ d 1)=some (.slice a.A L a.c):=fun o=>by rw[<-HL.out];exact((HD.out.alloc o).uN).2.1
 refine wp_region_held_drew (S:=fun w'=>w'.rangeAt g1 0 X) (by kernel_rfl) (fun j v hv=>EN j v hv) (fun hHeld=>?_);refine bJ 4 [(0,27),(1,28),(2,29),(3,30)] rfl (by kernel_rfl) (by kernel_rfl) (fun _ _ _ _ _ h=>h) (by assumption) ?_;iterate 4 (refine aI rfl rfl rfl (v:=?_) ?_ ?_;rotate_left 1;focus(intro wS hSw;(try dsimp only at hSw);go_simp;try with_reducible rfl);try simp only[Act.put,aY,aZ,aU])
 refine au ?_;refine ij 5 32 rfl rfl (v:=.agg X.toArray) (by kernel_rfl) (by kernel_rfl) (by kernel_rfl) (fun _ _ _ h=>h) (yieldsIf_load_mid (by rfl) _ _ rfl g1 0 rfl X _ (fun w hS=>hS) underlying282 rfl F8) (by assumption) ?_;try simp only[Act.put,aY,aZ,aU]
 refine wpAnyH_ready (rs:=[4,6]) (by kernel_rfl) (by simp) ?_;refine AllReadyH.cons (i:=4) (o:=_) rfl (fun K hK=>?_) (AllReadyH.cons (i:=6) (o:=_) rfl (fun K hK=>?_) AllReadyH.nil)
 ·go_simp;refine hK.out _ _ (fun j v hv=>EN j v hv) (fun hHeld=>?_);clear hK K;try simp only[Act.put,aY,aZ,aU]
  refine dO 6 rfl (by kernel_rfl) fun K hK=>?_
  refine aAD rfl _ (.tmp 32) (by rfl) 282 i0 _ 65 underlying171 hi0 hz0 hz1 (by rw[Bo]) (by decide) (by decide) X.toArray (by simp[J9.out]) (by rfl) ?_;refine hK.out _ _ (World.rangeAt_alloc (w:=w3.drew) (fun j v hv=>EN j v hv) _) (fun hHeld=>?_);clear hK K;try simp only[Act.put,aY,aZ,aU]
  refine dO 7 rfl (by kernel_rfl) fun K hK=>?_
  refine ed _ rfl (.tmp 31) (.tmp 33) 171 (by rfl) 282 i0 _ 65 72 underlying171 hi0 hz0 hz1 hz2 (by rw[Bo]) (by decide) (.slice a.A L a.c) L (s.um.waits.flatMap iF) (by rfl) HOW.out _ (some (tZ w3.heap.size 0)) 1 1 X (by rfl) HRX.out yj.out (by have:=IX.out;simp[maxLen];omega) (by have:=IX.out;omega) (L+1) rfl ?_;intro A4 c4 w4 wI hg4 hb4;have EO:=hid (And.intro wI (And.intro hg4 hb4));clear wI hg4 hb4;refine hK.out _ _ (HR4.out w4 A4 c4 EO.out) (fun hHeld=>?_);clear hK K;try simp only[Act.put,aY,aZ,aU]
  refine bJ 2 [(8,35),(9,36)] rfl (by kernel_rfl) (by kernel_rfl) (fun _ _ _ _ _ h=>h) (by assumption) ?_;iterate 2 (refine aI rfl rfl rfl (v:=?_) ?_ ?_;rotate_left 1;focus(intro wS hSw;(try dsimp only at hSw);go_simp;try with_reducible rfl);try simp only[Act.put,aY,aZ,aU])
  refine au ?_;refine dO 10 rfl (by kernel_rfl) fun K hK=>?_
  have FO:=MO.out w4 A4 c4 EO.out;have hf4:=HF4.out w4 A4 c4 EO.out;clear c1 MN c1b;go_simp;refine hK.out _ _ (GK.out w4 A4 c4 EO.out _) (fun hHeld=>?_);clear hK K;try simp only[Act.put,aY,aZ,aU]
  refine wpAnyH_done (by kernel_rfl) ?_ _;have hfin:=hid (aRR.out w4 A4 c4 EO.out (.slice A4 (L+1) c4));refine ax _ _ ?_;clear ax Kx;go_wp2_with fail;go_ret;refine⟨rfl,ae.vT (s:=s.um.put k b) (a:=⟨a.gl,A4,c4⟩) ?_⟩;have e1:(s.um.put k b).waits.length=L+1:=by rw[<-HL.out];simp[ja.put]
  have e2:(s.um.put k b).waits.flatMap iF=s.um.waits.flatMap iF++X:=by simp[ja.put,HX.out]
  unfold pX rE;rw[e1,e2];exact hfin.out.sub (List.Sublist.cons_cons _ (List.Sublist.cons_cons _ (List.Sublist.cons_cons _ (List.Sublist.cons _ (List.Sublist.cons _ (List.Sublist.refl _))))))
 ·refine aAD rfl _ (.tmp 32) (by rfl) 282 i0 _ 65 underlying171 hi0 hz0 hz1 (by rw[Bo]) (by decide) (by decide) X.toArray (by simp[J9.out]) (by rfl) ?_;refine hK.out _ _ (World.rangeAt_alloc (w:=w3.drew) (fun j v hv=>EN j v hv) _) (fun hHeld=>?_);clear hK K;try simp only[Act.put,aY,aZ,aU]
  refine dO 4 rfl (by kernel_rfl) fun K hK=>?_
  go_simp;refine hK.out _ _ (World.rangeAt_alloc (w:=w3.drew) (fun j v hv=>EN j v hv) _) (fun hHeld=>?_);clear hK K;try simp only[Act.put,aY,aZ,aU]
  refine dO 7 rfl (by kernel_rfl) fun K hK=>?_
  refine ed _ rfl (.tmp 31) (.tmp 33) 171 (by rfl) 282 i0 _ 65 72 underlying171 hi0 hz0 hz1 hz2 (by rw[Bo]) (by decide) (.slice a.A L a.c) L (s.um.waits.flatMap iF) (by rfl) HOW.out _ (some (tZ w3.heap.size 0)) 1 1 X (by rfl) HRX.out yj.out (by have:=IX.out;simp[maxLen];omega) (by have:=IX.out;omega) (L+1) rfl ?_;intro A4 c4 w4 wI hg4 hb4;have EO:=hid (And.intro wI (And.intro hg4 hb4));clear wI hg4 hb4;refine hK.out _ _ (HR4.out w4 A4 c4 EO.out) (fun hHeld=>?_);clear hK K;try simp only[Act.put,aY,aZ,aU]
  refine bJ 2 [(8,35),(9,36)] rfl (by kernel_rfl) (by kernel_rfl) (fun _ _ _ _ _ h=>h) (by assumption) ?_;iterate 2 (refine aI rfl rfl rfl (v:=?_) ?_ ?_;rotate_left 1;focus(intro wS hSw;(try dsimp only at hSw);go_simp;try with_reducible rfl);try simp only[Act.put,aY,aZ,aU])
  refine au ?_;refine dO 10 rfl (by kernel_rfl) fun K hK=>?_
  have FO:=MO.out w4 A4 c4 EO.out;have hf4:=HF4.out w4 A4 c4 EO.out;clear c1 MN c1b;go_simp;refine hK.out _ _ (GK.out w4 A4 c4 EO.out _) (fun hHeld=>?_);clear hK K;try simp only[Act.put,aY,aZ,aU]
  refine wpAnyH_done (by kernel_rfl) ?_ _;have hfin:=hid (aRR.out w4 A4 c4 EO.out (.slice A4 (L+1) c4));refine ax _ _ ?_;clear ax Kx;go_wp2_with fail;go_ret;refine⟨rfl,ae.vT (s:=s.um.put k b) (a:=⟨a.gl,A4,c4⟩) ?_⟩;have e1:(s.um.put k b).waits.length=L+1:=by rw[<-HL.out];simp[ja.put]
  have e2:(s.um.put k b).waits.flatMap iF=s.um.waits.flatMap iF++X:=by simp[ja.put,HX.out]
  unfold pX rE;rw[e1,e2];exact hfin.out.sub (List.Sublist.cons_cons _ (List.Sublist.cons_cons _ (List.Sublist.cons_cons _ (List.Sublist.cons _ (List.Sublist.cons _ (List.Sublist.refl _))))))
end
theorem aCF(is:Nat->Bool):∀(l:List (Nat×List UInt8))(i:Nat)(x:Nat×List UInt8)(L:List (List UInt8)),lY is i (l++[x]) L=if is (i+l.length)=true then(lY is i l L).set x.1 x.2 else lY is i l L
 |[],i,x,L=>by simp[lY]
 |y::l,i,x,L=>by
  rw[List.cons_append,lY,aCF is l (i+1) x,lY,List.length_cons,show i+1+l.length=i+(l.length+1) by omega]
theorem aCH(x:Nat×List UInt8)(h:x.2.length=64):(iF x).length=65:=by simp[iF,h]
theorem MP:∀(l:List (Nat×List UInt8))(k j:Nat)(x:Nat×List UInt8)(v:Value),(∀x∈l,x.2.length=64)->l[k]? =some x->(iF x)[j]? =some v->(l.flatMap iF)[k*65+j]? =some v
 |[],k,j,x,v,_,h,_=>by simp at h
 |y::l,0,j,x,v,hl,h,hj=>by
  simp at h;subst h;rw[List.flatMap_cons,List.getElem?_append_left (by have:=(List.getElem?_eq_some_iff.1 hj).1;omega)];rw[<-hj];congr 1
  omega
 |y::l,k+1,j,x,v,hl,h,hj=>by
  have hy:=aCH y (hl y (List.mem_cons_self ..));rw[List.flatMap_cons,List.getElem?_append_right (by omega),hy,show(k+1)*65+j-65=k*65+j by omega];exact MP l k j x v (fun x hx=>hl x (List.mem_cons_of_mem _ hx)) (by simpa using h) hj
theorem aGy:∀(l:List (List UInt8))(k j:Nat)(x:List UInt8),(∀x∈l,x.length=64)->l[k]? =some x->j<64->(l.flatMap aT)[k*64+j]? =(aT x)[j]?
 |[],k,j,x,_,h,_=>by simp at h
 |y::l,0,j,x,hl,h,hj=>by
  simp at h;subst h;have hy:=hl y (List.mem_cons_self ..);rw[List.flatMap_cons,List.getElem?_append_left (by simp[aT,hy];omega)];congr 1
  omega
 |y::l,k+1,j,x,hl,h,hj=>by
  have hy:=hl y (List.mem_cons_self ..);have e:(aT y).length=64:=by simp[aT,hy]
  rw[List.flatMap_cons,List.getElem?_append_right (by omega),e,show(k+1)*64+j-64=k*64+j by omega];exact aGy l k j x (fun x hx=>hl x (List.mem_cons_of_mem _ hx)) (by simpa using h) hj
theorem aDe:∀l:List (List UInt8),(∀x∈l,x.length=64)->(l.flatMap aT).length=l.length*64
 |[],_=>rfl
 |y::l,h=>by
  rw[List.flatMap_cons,List.length_append,aDe l fun x hx=>h x (List.mem_cons_of_mem _ hx),List.length_cons,show(aT y).length=64 by simp[aT,h y (List.mem_cons_self ..)]];omega
theorem aD4:∀(l:List (List UInt8))(k:Nat)(v:List UInt8),(∀x∈l,x.length=64)->v.length=64->k<l.length->(l.set k v).flatMap aT=(l.flatMap aT).take (k*64)++aT v++(l.flatMap aT).drop (k*64+(aT v).length)
 |[],k,v,_,_,h=>by simp at h
 |y::l,0,v,hl,hv,_=>by
  have e:(aT y).length=64:=by simp[aT,hl y (List.mem_cons_self ..)]
  have ev:(aT v).length=64:=by simp[aT,hv]
  rw[List.set_cons_zero,List.flatMap_cons,List.flatMap_cons,ev,Nat.zero_mul,List.take_zero,List.nil_append,Nat.zero_add,List.drop_left' e]
 |y::l,k+1,v,hl,hv,h=>by
  have e:(aT y).length=64:=by simp[aT,hl y (List.mem_cons_self ..)]
  have ev:(aT v).length=64:=by simp[aT,hv]
  have ih:=aD4 l k v (fun x hx=>hl x (List.mem_cons_of_mem _ hx)) hv (by simpa using h);rw[List.set_cons_succ,List.flatMap_cons,List.flatMap_cons,ih,ev,List.take_append,List.drop_append,e,List.take_of_length_le (l:=aT y) (by omega),show(aT y).drop ((k+1)*64+64)=[]from List.drop_eq_nil_of_le (by omega),List.nil_append,
   show(k+1)*64-64=k*64 by omega,show(k+1)*64+64-64=k*64+64 by omega]
  simp only[List.append_assoc]
end Go.Proofs.YtfjkpigldogkeaaGreatDoor
