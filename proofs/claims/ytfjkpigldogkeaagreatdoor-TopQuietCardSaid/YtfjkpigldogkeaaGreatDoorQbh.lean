/- Contracts of functions that TopQuiet reaches, under the conditions that each states. -/
import Derived.Test.YtfjkpigldogkeaaGreatDoorQaz
import Derived.Test.YtfjkpigldogkeaaGreatDoorQbg
import Derived.Maps.Own
set_option linter.all false
set_option maxRecDepth 100000
set_option maxHeartbeats 4000000
namespace Go.Proofs.YtfjkpigldogkeaaGreatDoor
open Go.RowKit Go.ChangeShapes Go.WideShapes Go.ChangeAt Go.Proofs.Tryz
section
open Go.MapKept
def jO(w:World)(b:Nat)(l:List (Value×Value)):Prop:=∃es c,w.heap[b]? =some (.map es c)/\es.toList.map (fun x=>(x.key,x.val))=l
def kL(d:TypeDesc)(k:Value):List (Value×Value)->Option (Option Value)
 |[]=>some none
 |x::l=>match Instr.sameNow d k x.1 with
  |some true=>some (some x.2)
  |some false=>kL d k l
  |none=>none
theorem aBw{d:TypeDesc}{k:Value}:∀(l:List MapEntry)(i:Nat)(r:Option Value),kL d k (l.map fun x=>(x.key,x.val))=some r->∃r',Instr.findNow d k l i=some r'/\r'.map Prod.snd=r
 |[],_,r,h=>by
  simp only[List.map_nil,kL,Option.some.injEq]at h;subst h;exact⟨none,rfl,rfl⟩
 |x::l,i,r,h=>by
  simp only[List.map_cons,kL]at h;unfold Instr.findNow;cases hs:Instr.sameNow d k x.key with
  |none=>simp[hs]at h
  |some s=>
   cases s with
   |true=>
    simp only[hs,Option.some.injEq]at h;subst h;exact⟨_,rfl,rfl⟩
   |false=>
    simp only[hs]at h;exact aBw l (i+1) r h
variable{P:Program}{w:World}{b:Nat}{l:List (Value×Value)}{d:TypeDesc}{t k e:TypeId}{key v:Value}
theorem jO.lt(h:jO w b l):b<w.heap.size:=by
 obtain⟨es,c,hb,_⟩:=h;exact(Array.getElem?_eq_some_iff.1 hb).1
theorem jO.keep{w':World}(h:jO w b l)(hk:w'.heap[b]? =w.heap[b]?):jO w' b l:=by
 obtain⟨es,c,hb,h1⟩:=h;exact⟨es,c,hk.trans hb,h1⟩
theorem jO.new(w:World):jO (w.alloc (.map #[] 0)) w.heap.size []:=⟨#[],0,(heap_alloc w _).1,rfl⟩
theorem aBG(ht:P.underlying t=some (.map k e))(hd:P.underlying k=some d)(hk:IsKey d key)(h:jO w b l)(hf:kL d key l=some (some v)):(Instr.lookup t (.map (some b)) key true).run P w=.ok (.tuple #[v,.bool true]) w:=by
 obtain⟨es,c,hb,rfl⟩:=h;obtain⟨r',h1,h2⟩:=aBw es.toList 0 _ hf;cases r' with
 |none=>simp at h2
 |some r=>
  simp at h2;simp[Instr.lookup,run_underlying ht,MapKept.run_getObj_map hb,run_checkKey hd hk,run_findKey hd h1,Result.andThen,h2]
theorem aDD{z:Value}(ht:P.underlying t=some (.map k e))(hd:P.underlying k=some d)(hk:IsKey d key)(h:jO w b l)(hf:kL d key l=some none)(hz:(zeroValue e).run P w=.ok z w):(Instr.lookup t (.map (some b)) key true).run P w=.ok (.tuple #[z,.bool false]) w:=by
 obtain⟨es,c,hb,rfl⟩:=h;obtain⟨r',h1,h2⟩:=aBw es.toList 0 _ hf;cases r' with
 |some r=>simp at h2
 |none=>simp[Instr.lookup,run_underlying ht,MapKept.run_getObj_map hb,run_checkKey hd hk,run_findKey hd h1,Result.andThen,hz]
theorem aCr(ht:P.underlying t=some (.map k e))(hd:P.underlying k=some d)(hk:IsKey d key)(h:jO w b l)(hf:kL d key l=some none):∃w',(Instr.mapUpdate t (.map (some b)) key v).run P w=.ok () w'/\jO w' b (l++[(key,v)])/\w.grownBy w' (some b):=by
 obtain⟨es,c,hb,rfl⟩:=h;obtain⟨r',h1,h2⟩:=aBw es.toList 0 _ hf;cases r' with
 |some r=>simp at h2
 |none=>
  refine⟨{w with heap:=w.heap.setIfInBounds b (.map (es.push {key,val:=v,born:=c}) (c+1))},?_,⟨es.push {key,val:=v,born:=c},c+1,(heap_set hb).1,by simp⟩,⟨rfl,rfl,rfl,by simp,fun i _ hi=>(heap_set hb).2 i (fun e=>hi (by rw[e]))⟩⟩;simp[Instr.mapUpdate,run_underlying ht,MapKept.run_getObj_map hb,run_checkKey hd hk,run_findKey hd h1,run_setObj_map _ hb,Result.andThen]
theorem aAh(w:World){ops:Array Oper}{rest:List Oper}{o:Oper}{a:Act}{Q:Exit->Act->World->Prop}
(hg:o.guard=none)(m x y:Operand)(t:TypeId)(hop:o.op=Op.insert t m x y)(ht:P.underlying t=some (.map k e))(hd:P.underlying k=some d)
(hm:a.eval m=.map (some b))(h:jO w b l)(key v:Value)(hx:a.eval x=key)(hv:a.eval y=v)(hk:IsKey d key)(hf:kL d key l=some none)
(hK:∀w',jO w' b (l++[(key,v)])->w.grownBy w' (some b)->wpList P ops Q rest (a.put o.dst undef) w'):
  wpList P ops Q (o::rest) a w:=by
 refine wpList_plain hg fun K' hK'=>?_
 obtain⟨w',hrun,r1,r2⟩:=aCr (v:=v) ht hd hk h hf;unfold Oper.wp;simp[execOp,hop,hm,hx,hv,hrun,Result.andThen];exact hK' _ _ (hK w' r1 r2)
end
def pM(b:Nat)(l:List (Value×Value)):ay:=⟨fun w F=>jO w b l/\∀x,F x↔x=b,fun h _ hk=>⟨h.1.keep (hk b ((h.2 b).2 rfl)),h.2⟩,fun h hb=>by rw[(h.2 _).1 hb];exact h.1.lt⟩
section
variable{w w' w0:World}{b:Nat}{m m':List (Value×Value)}{l:List ay}
theorem ae.map(h:ae w0 (pM b m::l) w):jO w b m:=by
 obtain⟨F1,h1,_⟩:=h.get;exact h1.1
theorem ae.aQp(h:ae w0 l w):ae w0 (pM w.heap.size []::l) (w.alloc (.map #[] 0)):=
 h.push (ah w _) (C:=pM w.heap.size []) (F1:=fun b=>b=w.heap.size) ⟨jO.new w,fun _=>Iff.rfl⟩ fun b hb=>Nat.le_of_eq hb.symm
theorem ae.aQq(h:ae w0 (pM b m::l) w)(hM:jO w' b m')(hg:w.grownBy w' (some b)):ae w0 (pM b m'::l) w':=by
 obtain⟨F1,h1,hcl⟩:=h.step1;refine hcl w' (pM b m') F1 ⟨hM,h1.2⟩ ⟨⟨hg.os,hg.tape,hg.output,hg.size,fun x hx hf=>hg.block x hx fun e=>hf ((h1.2 x).2 ?_)⟩,fun x hx=>.inl hx⟩;injection e
end
theorem aM3{P:Program}{ops:Array Oper}{Q:Exit->Act->World->Prop}{rest:List Oper}{d:_}{t:_}{m:_}{x:_}{y:_}{T:_}{p:_}{af:_}{g:_}{a:Act}{w:World}(h:wpList P ops Q (Oper.mk d (Op.insert t m x y) T p af g::rest) a w):wpList P ops Q (Oper.mk d (Op.insert t m x y) T p af g::rest) a w:=h
theorem aN0(t:aG)(a:bM)(w:World):∃w1:World,w.alloc (.cells #[iV t.frame,.slice a.A1 t.parts.length a.c1,.slice a.A2 t.wins.length a.c2,.slice a.A3 t.chans.length a.c3,iV t.trial] 26)=w1/\Below w.heap.size w w1/\ak w1 w.heap.size 26 (bI t a):=
 ⟨_,rfl,(Below.refl _ _).alloc (Nat.le_refl _) _,ak.new w _ (bI t a)⟩
def jy(w:World)(g:Nat)(bs:List UInt8):Prop:=∃A c,ak w g 37 [.slice A bs.length c]/\w.ownsRow (g+1) 5 1 (.slice A bs.length c) bs.length (bs.map bV)
section
variable{w w':World}{g:Nat}{bs cs:List UInt8}
theorem jy.lt(h:jy w g bs):g<w.heap.size:=by obtain⟨_,_,h,_⟩:=h;exact h.lt
theorem jy.belowS(h:jy w g bs)(hb:Below w.heap.size w w'):jy w' g bs:=by
 obtain⟨A,c,h1,h2⟩:=h;exact⟨A,c,h1.belowS hb,kG h2 hb⟩
theorem jy.store(h:jy w g bs)(hb:Below w.heap.size w w'){N:Nat}(hN:cs.length=N){A:Option Addr}{c:Nat}(ho:w'.ownsRow w.heap.size 5 1 (.slice A N c) N (cs.map bV)):
  jy (w'.setCell (tZ g 0) (.slice A N c)) g cs/\w.grownBy (w'.setCell (tZ g 0) (.slice A N c)) (some g):=by
 subst hN;have hl:=h.lt;obtain⟨A1,c1,h1,h2⟩:=h;refine⟨⟨A,c,(h1.belowS hb).uh 0 _,bu (bh ho (by omega)) fun b hb2=>Below.heap_setCell _ _ _ _ (fun e=>by have:=(aH ho hb2).1;simp at e;omega)⟩,hb.os,hb.tape,hb.output,by simpa[World.setCell]using hb.size,fun k hk hne=>(Below.heap_setCell _ _ _ _ (fun e=>hne (by simp at e;rw[e]))).trans (hb.block k hk)⟩
end
def kS(l:List Int):List UInt8:=l.flatMap fun x=>aV x 1
theorem aKn(l:List Int)(x:Int):kS (l++[x])=kS l++aV x 1:=by simp[kS]
theorem aGr(l:List Int):(kS l).length=l.length:=by
 induction l with
 |nil=>rfl
 |cons x l ih=>simp only[kS,List.flatMap_cons,List.length_append,aX,List.length_cons]at ih ⊢;omega
theorem aPp(W:Nat)(ww:Int)(hW:mf ww=W)(A:Option Addr)(n c:Nat)(bs:List UInt8)(x:Int)(w:World)(h:ai w w.heap.size 1 A n (bs.map bV))(hn:n<=100000000):
  Calls prog 174 #[.slice A n c,iV x,iV ww] w fun e w'=>∃A' c',e=.returned (.slice A' (n+W) c')/\w'.ownsRow w.heap.size 5 1 (.slice A' (n+W) c') (n+W) ((bs++aV x W).map bV)/\Below w.heap.size w w':=by
 subst hW;exact Me A n c bs x ww w h hn
theorem aEO{a b c:World}{g:Nat}(h:a.grownBy b (some g))(k:b.grownBy c (some g)):a.grownBy c (some g):=
 ⟨k.os.trans h.os,k.tape.trans h.tape,k.output.trans h.output,Nat.le_trans h.size k.size,fun i hi hne=>(k.block i (Nat.lt_of_lt_of_le hi h.size) hne).trans (h.block i hi hne)⟩
theorem aBh(g:Nat)(bs:List UInt8)(l:List Int)(AL:Option Addr)(cl:Nat)(w:World)(h:jy w g bs)(hl:ai w w.heap.size 1 AL l.length (l.map iV))(hne:∀ad,AL=some ad->ad.block≠g)(hn:bs.length+l.length<=100000):
  Calls prog 252 #[.slice AL l.length cl,.pointer (some (tZ g 0))] w fun e w'=>e=.returned (.tuple #[])/\jy w' g (bs++kS l)/\w.grownBy w' (some g):=by
 obtain⟨n,NS⟩:∃n,l.length=n:=⟨_,rfl⟩;have DW:=hid NS;rw[NS]at hl hn ⊢;have HLC:Hid (∀wr,w.grownBy wr (some g)->∀k,k<n->∃ad x,AL=some ad/\l[k]? =some x/\wr.cell? (ad.add k)=some (iV x)):=hid (fun wr hg k hk=>by
  obtain⟨ad,x,h1,h2,h3,h4⟩:=hl.He hk;exact⟨ad,x,h1,h3,(World.cell?_of_block (hg.block _ (by rw[dw];exact h2) (fun e=>by injection e with e;rw[dw]at e;exact hne ad h1 e))).trans h4⟩)
 have HB:=hid h;clear h hl hne NS;go_enter func252,ntmps252;go_wp2_with fail;go_loopw [7] (fun v7 wr=>∃k:Nat,k<=n/\v7=iV (k:Int)/\jy wr g (bs++kS (l.take k))/\w.grownBy wr (some g)) (fun v7 _=>n-(intOf v7).toNat)
 case atStart=>exact⟨0,by omega,rfl,by simpa[kS]using HB.out,⟨rfl,rfl,rfl,Nat.le_refl _,fun _ _ _=>rfl⟩⟩
 case round=>
  obtain⟨k,hk,rfl,yF,hgr⟩:=hrel;by_cases hkn:k<n
  ·have y0:decide ((k:Int)<(n:Int))=true:=decide_eq_true (by omega);obtain⟨ad,x,rfl,hx,hc⟩:=HLC.out wr hgr k hkn;have xX:=hid (show bs++kS (l.take (k+1))=(bs++kS (l.take k))++aV x 1 by rw[List.take_add_one,hx];show bs++kS (l.take k++[x])=_;rw[aKn,List.append_assoc]);have HCL:=hid (show(bs++kS (l.take k)).length<=100000 by rw[List.length_append,aGr,List.length_take];have:=DW.out;omega);have HBU:=hid yF;have HG:=hid hgr;generalize bs++kS (l.take k)=cs at*
   obtain⟨A,c,hblk,hown⟩:=yF;have c0:wr.cell? (tZ g 0)=some (.slice A cs.length c):=hblk.cellAt rfl;have i1:=hid (aPp 1 1 (by decide) A cs.length c cs x wr (ai.uA hown) (by have:=HCL.out;omega));have yh:=hid hblk;clear hx hgr hblk hown;go_wp2_with fail;refine i1.out.mono ?_;rintro e w1⟨A',c',rfl,ho,hb⟩;have f0:=(yh.out.belowS hb).frozen 0;have c1:w1.cell? (tZ g 0)=some (.slice A cs.length c):=(yh.out.belowS hb).cellAt rfl;have hst:=hid (HBU.out.store hb (cs:=cs++aV x 1) (N:=cs.length+1) (by rw[List.length_append,aX]) ho);clear ho hb c0 hc i1;go_wp2_with fail;go_roundw;case rel=>exact⟨k+1,by omega,by go_num,by rw[xX.out];exact hst.out.1,aEO HG.out hst.out.2⟩
   case measure=>simp[intOf];omega
  ·obtain rfl:k=n:=by omega
   have HBU:=hid (show jy wr g (bs++kS l) by rw[List.take_of_length_le (by rw[DW.out];exact Nat.le_refl _)]at yF;exact yF);have HG:=hid hgr;clear yF hgr;go_wp2_with fail;go_end0
   exact⟨rfl,HBU.out,HG.out⟩
theorem aHG(t:aG):kS [t.frame,t.trial,(t.parts.length:Int),(t.wins.length:Int),(t.chans.length:Int)]=oN t:=by simp[kS,oN]
theorem aHk(m f h:Int):kS [m,f]++aV h 2=fF ⟨m,f,h⟩:=by simp[kS,fF]
theorem aGE(m f h:Int):kS [m,f,h]=iy ⟨m,f,h⟩:=by simp[kS,iy]
theorem aFv(m f h:Int):kS [m,f,h]=iq ⟨m,f,h⟩:=by simp[kS,iq]
theorem aBH{α:Type}(g:α->List UInt8)(l:List α)(k:Nat)(x:α)(h:l[k]? =some x)(bs:List UInt8):bs++(l.take (k+1)).flatMap g=(bs++(l.take k).flatMap g)++g x:=by
 rw[List.take_add_one,h];show bs++(l.take k++[x]).flatMap g=_
 rw[List.flatMap_append,List.append_assoc];simp
theorem aP7(t:aG)(a:bM)(w:World)(h:dM w t a)(hr:aS t=true):
  Calls prog 184 #[.agg #[iV t.frame,.slice a.A1 t.parts.length a.c1,.slice a.A2 t.wins.length a.c2,.slice a.A3 t.chans.length a.c3,iV t.trial]] w fun e w'=>∃A' c',e=.returned (.tuple #[.slice A' (mM t).length c',iV 0])/\w'.ownsRow w.heap.size 5 1 (.slice A' (mM t).length c') (mM t).length ((mM t).map bV)/\Below w.heap.size w w':=by
 obtain⟨w1,hw1,hb1,hX1⟩:=aN0 t a w;obtain⟨c0,c1,c2,c3,c4⟩:=bi hX1;have iR:=hid (jq t a w1 (h.belowS hb1));rw[hr]at iR;have KN:=hid ((bK t).1 hr);have HTB:Hid (mM t=oN t++t.parts.flatMap fF++t.wins.flatMap iy++t.chans.flatMap iq):=hid rfl;have Gs:=hid h.zn;have yj:=hid hX1;have HHT:=hid (aHG t);have HHL:=hid (aEw t);have hlp:=KN.out.p2;have hlw:=KN.out.w8;have hlc:=KN.out.c4;obtain⟨HT,hHT⟩:∃x,oN t=x:=⟨_,rfl⟩;rw[hHT]at HTB HHT HHL;obtain⟨TBS,aTt⟩:∃x,mM t=x:=⟨_,rfl⟩;rw[aTt]at HTB ⊢;clear h hr hX1 hHT aTt;obtain⟨fr,parts,wins,chans,tr⟩:=t;obtain⟨A1,k1,A2,k2,A3,k3⟩:=a;simp only at*
 go_enter func184,ntmps184;go_wp2_with fail;refine iR.out.mono ?_;rintro e w2⟨rfl,hb2⟩;have vV:=hid (yj.out.belowS hb2);have uz:=hid (ag hb1 hb2);have aS3:=hid (Gs.out.belowS uz.out);have xW:w.heap.size<w2.heap.size:=vV.out.lt;clear c0 c1 c2 c3 c4 iR hb2 hb1 hw1 yj Gs;obtain⟨c0,c1,c2,c3,c4⟩:=bi vV.out;simp only at c0 c1 c2 c3 c4;obtain⟨w3,hw3,GU,hb3⟩:∃W:World,w2.alloc (.cells #[.slice none 0 0] 37)=W/\jy W w2.heap.size []/\Below w2.heap.size w2 W:=⟨_,rfl,⟨none,0,ak.new w2 _ [.slice none 0 0],World.ownsRow_nil _ _ _ _⟩,(Below.refl _ _).alloc (Nat.le_refl _) _⟩;obtain⟨g,hg⟩:∃g,w2.heap.size=g:=⟨_,rfl⟩;rw[hg]at xW;have wW:=hb3;rw[hg]at GU wW;have d0:w3.cell? (tZ w.heap.size 0)=_:=(wW.cell (p:=⟨w.heap.size,0,none⟩) xW).trans c0;have d1:w3.cell? (tZ w.heap.size 1)=_:=(wW.cell (p:=⟨w.heap.size,1,none⟩) xW).trans c1;have d2:w3.cell? (tZ w.heap.size 2)=_:=(wW.cell (p:=⟨w.heap.size,2,none⟩) xW).trans c2;have d3:w3.cell? (tZ w.heap.size 3)=_:=(wW.cell (p:=⟨w.heap.size,3,none⟩) xW).trans c3;have d4:w3.cell? (tZ w.heap.size 4)=_:=(wW.cell (p:=⟨w.heap.size,4,none⟩) xW).trans c4;have vk:=hid wW;have NT:=hid GU;go_wp2_with fail;clear hw3 c0 c1 c2 c3 c4 d0 d1 d2 d3 d4 hb3 wW GU;have hal:=(Below.refl w3.heap.size w3).alloc (Nat.le_refl _) (.cells #[iV fr,iV tr,iV (parts.length:Int),iV (wins.length:Int),iV (chans.length:Int)] 3)
 have i1:=hid (aBh g [] [fr,tr,(parts.length:Int),(wins.length:Int),(chans.length:Int)] (some (tZ w3.heap.size 0)) 5 _ (NT.out.belowS hal) (ai.lit (n:=5) (size:=1) (heap_alloc_new w3 (.cells #[iV fr,iV tr,iV (parts.length:Int),iV (wins.length:Int),iV (chans.length:Int)] 3)) rfl) (fun ad h=>by injection h with h;subst h;have:=NT.out.lt;simp only;omega) (by simp));rw[List.nil_append,HHT.out]at i1;have Ek:=hid hal;clear hal;refine i1.out.mono ?_;rintro e w4⟨rfl,hF4,hg4⟩;have vI:Hid (Below g w2 w4):=hid (vk.out.trans ((Ek.out.mono (Nat.le_of_lt NT.out.lt)).grown hg4 (by have:=NT.out.lt;simp;omega) (fun k hk=>by injection hk with hk;omega)));have HF4:=hid hF4;clear hF4 hg4 i1 Ek NT vk;have c1:w4.cell? (tZ w.heap.size 1)=some (.slice A1 parts.length k1):=(vV.out.below vI.out xW).cellAt rfl;go_wp2_with fail;clear c1;go_loopw [35] (fun vC wr=>∃k:Nat,k<=parts.length/\vC=iV (k:Int)/\jy wr g (HT++(parts.take k).flatMap fF)/\Below g w2 wr) (fun vC _=>parts.length-(intOf vC).toNat)
 case atStart=>exact⟨0,by omega,rfl,by simpa using HF4.out,vI.out⟩
 case round=>
  obtain⟨k,hk,rfl,yF,ui⟩:=hrel;have yG:=hid yF;have yE:=hid ui;clear yF;by_cases hkn:k<parts.length
  ·have y0:decide ((k:Int)<(parts.length:Int))=true:=decide_eq_true (by omega);have BZ:decide (k<parts.length)=true:=decide_eq_true hkn;have z0:(0:Int)<=(k:Int):=Int.natCast_nonneg _;have z1:(k:Int)<(parts.length:Int):=by omega
   have Ij:=aS3.out.1.below (B:=w2.heap.size) (by rw[hg];exact ui);obtain⟨ad,x,NU,had,hx,q0,qq⟩:=Ij.at_ hkn;have u0:=q0 _ rfl;have u1:=qq 0 _ rfl;have u2:=qq 1 _ rfl;have xX:=hid (aBH fF parts k x hx HT);have DW:=hid (show(HT++(parts.take k).flatMap fF).length<=5000 from by rw[List.length_append,HHL.out,fC fF 4 aAU,List.length_take];omega);clear q0 qq Ij hx;obtain⟨e1,e2,e3⟩:=x;simp only at u0 u1 u2;subst NU;generalize HT++(parts.take k).flatMap fF=cs at*
   have hgr:=yG.out.lt;obtain⟨wp,Ik,yt,DY⟩:∃W:World,wr.alloc (.cells #[iV e1,iV e2,iV e3] 164)=W/\ak W wr.heap.size 164 [iV e1,iV e2,iV e3]/\Below wr.heap.size wr W:=⟨_,rfl,ak.new wr _ [iV e1,iV e2,iV e3],(Below.refl _ _).alloc (Nat.le_refl _) _⟩;have m0:wp.cell? (tZ wr.heap.size 0)=some (iV e1):=yt.cellAt rfl;have m1:wp.cell? (tZ wr.heap.size 1)=some (iV e2):=yt.cellAt rfl;have m2:wp.cell? (tZ wr.heap.size 2)=some (iV e3):=yt.cellAt rfl;have F7:=hid yt;have Il:=hid DY;have aS4:wr.heap.size<wp.heap.size:=yt.lt;clear yt DY ui;go_wp2_with fail;clear Ik u0 u1 u2 m0 m1 m2;have hal:=(Below.refl wp.heap.size wp).alloc (Nat.le_refl _) (.cells #[iV e1,iV e2] 3);have i1:=hid (aBh g cs [e1,e2] (some (tZ wp.heap.size 0)) 2 _ ((yG.out.belowS Il.out).belowS hal) (ai.lit (n:=2) (size:=1) (heap_alloc_new wp (.cells #[iV e1,iV e2] 3)) rfl) (fun ad h=>by injection h with h;subst h;simp only;omega) (by have:=DW.out;simp;omega));have Ek:=hid hal;clear hal;refine i1.out.mono ?_;rintro e w5⟨rfl,Io,uZ⟩;have wP:Hid (Below g wr w5):=hid ((Il.out.mono (Nat.le_of_lt hgr)).trans ((Ek.out.mono (show g<=wp.heap.size by omega)).grown uZ (by simp;omega) (fun k hk=>by injection hk with hk;omega)))
   have aTu:w5.heap[wr.heap.size]? =_:=(uZ.block wr.heap.size (by simp;omega) (fun e=>by injection e with e;omega)).trans ((Ek.out.block _ aS4).trans F7.out);have m2:w5.cell? (tZ wr.heap.size 2)=some (iV e3):=ak.cellAt (w:=w5) (t:=164) (cs:=[iV e1,iV e2,iV e3]) aTu (i:=2) rfl;have NV:=hid Io;have HLN2:=hid (show(cs++kS [e1,e2]).length<=6000 by rw[List.length_append,aGr];have:=DW.out;simp;omega);have HNX2:=hid (show HT++(parts.take (k+1)).flatMap fF=(cs++kS [e1,e2])++aV e3 2 by rw[xX.out,List.append_assoc,aHk]);clear aTu uZ i1 Ek;generalize cs++kS [e1,e2]=Jj at*
   obtain⟨A,c,hblk,hown⟩:=Io;have n0:w5.cell? (tZ g 0)=some (.slice A Jj.length c):=hblk.cellAt rfl;have Ib:=hid hblk;have i2:=hid (aPp 2 2 (by decide) A Jj.length c Jj e3 w5 (ai.uA hown) (by have:=HLN2.out;omega));clear hblk hown;go_wp2_with fail;refine i2.out.mono ?_;rintro e w6⟨A',c',rfl,ho,uS⟩;have f0:=(Ib.out.belowS uS).frozen 0;have p0:w6.cell? (tZ g 0)=some (.slice A Jj.length c):=(Ib.out.belowS uS).cellAt rfl;have hst:=hid (NV.out.store uS (cs:=Jj++aV e3 2) (N:=Jj.length+2) (by rw[List.length_append,aX]) ho);have Fa:Hid (Below g wr (w6.setCell (tZ g 0) (.slice A' (Jj.length+2) c'))):=hid (wP.out.grown hst.out.2 (by have:=wP.out.size;omega) (fun k hk=>by injection hk with hk;omega));clear ho uS n0 m2 i2;go_wp2_with fail;go_roundw;case rel=>exact⟨k+1,by omega,by go_num,by rw[HNX2.out];exact hst.out.1,yE.out.trans Fa.out⟩
   case measure=>simp[intOf];omega
  ·obtain rfl:k=parts.length:=by omega
   have HF6:=hid (show jy wr g (HT++parts.flatMap fF) by have h9:=yG.out;rw[List.take_length]at h9;exact h9);have aTv:=hid yE.out;clear yG yE ui hkn hk;have c1:wr.cell? (tZ w.heap.size 2)=some (.slice A2 wins.length k2):=(vV.out.below aTv.out xW).cellAt rfl;obtain⟨wq1,Bz⟩:∃W:World,wr=W:=⟨_,rfl⟩;subst Bz;go_wp2_with fail;clear c1;go_loopw [54] (fun vC wr=>∃k:Nat,k<=wins.length/\vC=iV (k:Int)/\jy wr g ((HT++parts.flatMap fF)++(wins.take k).flatMap iy)/\Below g w2 wr) (fun vC _=>wins.length-(intOf vC).toNat)
   case atStart=>exact⟨0,by omega,rfl,by simpa using HF6.out,aTv.out⟩
   case round=>
    obtain⟨k,hk,rfl,yF,ui⟩:=hrel;have yG:=hid yF;have yE:=hid ui;clear yF;by_cases hkn:k<wins.length
    ·have y0:decide ((k:Int)<(wins.length:Int))=true:=decide_eq_true (by omega);have BZ:decide (k<wins.length)=true:=decide_eq_true hkn;have z0:(0:Int)<=(k:Int):=Int.natCast_nonneg _;have z1:(k:Int)<(wins.length:Int):=by omega
     have Ij:=aS3.out.2.1.below (B:=w2.heap.size) (by rw[hg];exact ui);obtain⟨ad,x,NU,had,hx,q0,qq⟩:=Ij.at_ hkn;have u0:=q0 _ rfl;have u1:=qq 0 _ rfl;have u2:=qq 1 _ rfl;have xX:=hid (aBH iy wins k x hx (HT++parts.flatMap fF));have DW:=hid (show((HT++parts.flatMap fF)++(wins.take k).flatMap iy).length<=5000 from by rw[List.length_append,List.length_append,HHL.out,fC fF 4 aAU,fC iy 3 aBY,List.length_take];omega);clear q0 qq Ij hx;obtain⟨e1,e2,e3⟩:=x;simp only at u0 u1 u2;subst NU;generalize (HT++parts.flatMap fF)++(wins.take k).flatMap iy=cs at*
     have hgr:=yG.out.lt;obtain⟨wp,Ik,yt,DY⟩:∃W:World,wr.alloc (.cells #[iV e1,iV e2,iV e3] 89)=W/\ak W wr.heap.size 89 [iV e1,iV e2,iV e3]/\Below wr.heap.size wr W:=⟨_,rfl,ak.new wr _ [iV e1,iV e2,iV e3],(Below.refl _ _).alloc (Nat.le_refl _) _⟩;have m0:wp.cell? (tZ wr.heap.size 0)=some (iV e1):=yt.cellAt rfl;have m1:wp.cell? (tZ wr.heap.size 1)=some (iV e2):=yt.cellAt rfl;have m2:wp.cell? (tZ wr.heap.size 2)=some (iV e3):=yt.cellAt rfl;have F7:=hid yt;have Il:=hid DY;have aS4:wr.heap.size<wp.heap.size:=yt.lt;clear yt DY ui;go_wp2_with fail;clear Ik u0 u1 u2 m0 m1 m2;have hal:=(Below.refl wp.heap.size wp).alloc (Nat.le_refl _) (.cells #[iV e1,iV e2,iV e3] 3);have i1:=hid (aBh g cs [e1,e2,e3] (some (tZ wp.heap.size 0)) 3 _ ((yG.out.belowS Il.out).belowS hal) (ai.lit (n:=3) (size:=1) (heap_alloc_new wp (.cells #[iV e1,iV e2,iV e3] 3)) rfl) (fun ad h=>by injection h with h;subst h;simp only;omega) (by have:=DW.out;simp;omega));have Ek:=hid hal;clear hal;refine i1.out.mono ?_;rintro e w5⟨rfl,Io,uZ⟩;have wP:Hid (Below g wr w5):=hid ((Il.out.mono (Nat.le_of_lt hgr)).trans ((Ek.out.mono (show g<=wp.heap.size by omega)).grown uZ (by simp;omega) (fun k hk=>by injection hk with hk;omega)));have NV:=hid (show jy w5 g ((HT++parts.flatMap fF)++(wins.take (k+1)).flatMap iy) by rw[xX.out,<-aGE];exact Io)
     clear Io uZ i1 Ek;go_wp2_with fail;go_roundw;case rel=>exact⟨k+1,by omega,by go_num,NV.out,yE.out.trans wP.out⟩
     case measure=>simp[intOf];omega
    ·obtain rfl:k=wins.length:=by omega
     have HF7:=hid (show jy wr g ((HT++parts.flatMap fF)++wins.flatMap iy) by have h9:=yG.out;rw[List.take_length]at h9;exact h9);have aTw:=hid yE.out;clear yG yE ui hkn hk;have c1:wr.cell? (tZ w.heap.size 3)=some (.slice A3 chans.length k3):=(vV.out.below aTw.out xW).cellAt rfl;obtain⟨wq2,Bz⟩:∃W:World,wr=W:=⟨_,rfl⟩;subst Bz;go_wp2_with fail;clear c1;go_loopw [71] (fun vC wr=>∃k:Nat,k<=chans.length/\vC=iV (k:Int)/\jy wr g ((HT++parts.flatMap fF++wins.flatMap iy)++(chans.take k).flatMap iq)/\Below g w2 wr) (fun vC _=>chans.length-(intOf vC).toNat)
     case atStart=>exact⟨0,by omega,rfl,by simpa using HF7.out,aTw.out⟩
     case round=>
      obtain⟨k,hk,rfl,yF,ui⟩:=hrel;have yG:=hid yF;have yE:=hid ui;clear yF;by_cases hkn:k<chans.length
      ·have y0:decide ((k:Int)<(chans.length:Int))=true:=decide_eq_true (by omega);have BZ:decide (k<chans.length)=true:=decide_eq_true hkn;have z0:(0:Int)<=(k:Int):=Int.natCast_nonneg _;have z1:(k:Int)<(chans.length:Int):=by omega
       have Ij:=aS3.out.2.2.below (B:=w2.heap.size) (by rw[hg];exact ui);obtain⟨ad,x,NU,had,hx,q0,qq⟩:=Ij.at_ hkn;have u0:=q0 _ rfl;have u1:=qq 0 _ rfl;have u2:=qq 1 _ rfl;have xX:=hid (aBH iq chans k x hx (HT++parts.flatMap fF++wins.flatMap iy));have DW:=hid (show((HT++parts.flatMap fF++wins.flatMap iy)++(chans.take k).flatMap iq).length<=5000 from by rw[List.length_append,List.length_append,List.length_append,HHL.out,fC fF 4 aAU,fC iy 3 aBY,fC iq 3 aCQ,List.length_take];omega);clear q0 qq Ij hx;obtain⟨e1,e2,e3⟩:=x;simp only at u0 u1 u2;subst NU;generalize (HT++parts.flatMap fF++wins.flatMap iy)++(chans.take k).flatMap iq=cs at*
       have hgr:=yG.out.lt;obtain⟨wp,Ik,yt,DY⟩:∃W:World,wr.alloc (.cells #[iV e1,iV e2,iV e3] 75)=W/\ak W wr.heap.size 75 [iV e1,iV e2,iV e3]/\Below wr.heap.size wr W:=⟨_,rfl,ak.new wr _ [iV e1,iV e2,iV e3],(Below.refl _ _).alloc (Nat.le_refl _) _⟩;have m0:wp.cell? (tZ wr.heap.size 0)=some (iV e1):=yt.cellAt rfl;have m1:wp.cell? (tZ wr.heap.size 1)=some (iV e2):=yt.cellAt rfl;have m2:wp.cell? (tZ wr.heap.size 2)=some (iV e3):=yt.cellAt rfl;have F7:=hid yt;have Il:=hid DY;have aS4:wr.heap.size<wp.heap.size:=yt.lt;clear yt DY ui;go_wp2_with fail;clear Ik u0 u1 u2 m0 m1 m2;have hal:=(Below.refl wp.heap.size wp).alloc (Nat.le_refl _) (.cells #[iV e1,iV e2,iV e3] 3);have i1:=hid (aBh g cs [e1,e2,e3] (some (tZ wp.heap.size 0)) 3 _ ((yG.out.belowS Il.out).belowS hal) (ai.lit (n:=3) (size:=1) (heap_alloc_new wp (.cells #[iV e1,iV e2,iV e3] 3)) rfl) (fun ad h=>by injection h with h;subst h;simp only;omega) (by have:=DW.out;simp;omega));have Ek:=hid hal;clear hal;refine i1.out.mono ?_;rintro e w5⟨rfl,Io,uZ⟩;have wP:Hid (Below g wr w5):=hid ((Il.out.mono (Nat.le_of_lt hgr)).trans ((Ek.out.mono (show g<=wp.heap.size by omega)).grown uZ (by simp;omega) (fun k hk=>by injection hk with hk;omega)))
       have NV:=hid (show jy w5 g ((HT++parts.flatMap fF++wins.flatMap iy)++(chans.take (k+1)).flatMap iq) by rw[xX.out,<-aFv];exact Io);clear Io uZ i1 Ek;go_wp2_with fail;go_roundw;case rel=>exact⟨k+1,by omega,by go_num,NV.out,yE.out.trans wP.out⟩
       case measure=>simp[intOf];omega
      ·obtain rfl:k=chans.length:=by omega
       have HF8:=hid (show jy wr g ((HT++parts.flatMap fF++wins.flatMap iy)++chans.flatMap iq) by have h9:=yG.out;rw[List.take_length]at h9;exact h9);have HB8f:=hid yE.out;clear yG yE ui hkn hk;have HFIN:Hid (jy wr g TBS):=hid (by rw[HTB.out];exact HF8.out);obtain⟨A,c,hblk,hown⟩:=HFIN.out;have n0:wr.cell? (tZ g 0)=some (.slice A TBS.length c):=hblk.cellAt rfl;have HO:=hid (bh hown (show w.heap.size<=g+1 by omega));have HBE:Hid (Below w.heap.size w wr):=hid (uz.out.trans (HB8f.out.mono (by omega)));clear hblk hown;go_wp2_with fail;go_ret2;exact⟨A,c,rfl,HO.out,HBE.out⟩
def sV(mv:Value):List Value:=[.slice none 0 0,mv]
def tu(s tm:Nat)(now:Int)(mv:Value):List Value:=[.pointer (some (tZ s 0)),.pointer (some (tZ tm 0)),iV now,iV 0,iV 0,iV 0,iV 0,iV 0,mv]
theorem size_alloc(w:World)(o:Obj):(w.alloc o).heap.size=w.heap.size+1:=by
 show(w.heap.push o).size=_
 simp
section
variable{w w' w0:World}{s tm lg:Nat}{now:Int}{mv:Value}{l:List ay}
theorem aPs(h:ae w0 l w):Calls prog 192 #[] w fun e w'=>∃tm mv,e=.returned (.pointer (some (tZ tm 0)))/\ae w0 (aj tm 397 (sV mv)::l) w':=by
 have hmm:= @run_makeMap prog;have h0:=(h.alloc (.map #[] 0)).made (T:=397) (xs:=sV (.map (some w.heap.size)));rw[size_alloc]at h0;have h1:=hid h0;clear h0;clear h;go_enter func192,ntmps192;go_wp2_with fail;go_ret;exact⟨_,_,rfl,h1.out⟩
theorem aOO(h:ak w tm 397 (sV mv)):Calls prog 274 #[.pointer (some (tZ tm 0))] w fun e w'=>e=.returned (.tuple #[iV 0,.bool false])/\w=w':=by
 have c0:w.cell? (tZ tm 0)=some (.slice none 0 0):=h.cellAt rfl;clear h;go_enter func274,ntmps274;go_wp2_with fail;go_ret2;exact⟨rfl,rfl⟩
theorem aPx(x:Int)(h:ak w tm 397 (sV mv)):Calls prog 205 #[.pointer (some (tZ tm 0)),iV x] w fun e w'=>e=.returned (.slice none 0 0)/\w'=w:=by
 have i1:=hid (aOO h);clear h;go_enter func205,ntmps205;go_wp2_with fail;refine i1.out.mono ?_;rintro e w1⟨rfl,h9⟩;rw[<-h9];clear h9;go_wp2_with fail;refine wp_loop_rounds (0+1) ?_;rw[rounds_succ];go_wp2_with fail;go_ret;exact⟨rfl,rfl⟩
theorem aN6(h:ak w lg 299 (tu s tm now mv)):Calls prog 204 #[.pointer (some (tZ lg 0))] w fun e w'=>e=.returned (.bool true)/\w=w':=by
 have c0:w.cell? (tZ lg 0)=some (.pointer (some (tZ s 0))):=h.cellAt rfl;clear h;go_enter func204,ntmps204;go_wp2_with fail;go_ret;exact⟨rfl,rfl⟩
theorem aOi(x:Int){mt:Value}(h:ae w0 (aj lg 299 (tu s tm now mv)::aj tm 397 (sV mt)::l) w):
  Calls prog 132 #[.pointer (some (tZ lg 0)),iV x] w fun e w'=>e=.returned (.bool false)/\∃zW,ae w0 (aj lg 299 (tu s tm zW mv)::aj tm 397 (sV mt)::l) w':=by
 have i1:=hid (aN6 h.blk);have c2:w.cell? (tZ lg 2)=some (iV now):=h.blk.cellAt rfl;have fz:=h.blk.frozen 2;have h2:=h.store 2 (iV (max now x));have hb2:ak (w.setCell (tZ lg 2) (iV (max now x))) lg 299 (tu s tm (max now x) mv):=h2.blk;have d1:(w.setCell (tZ lg 2) (iV (max now x))).cell? (tZ lg 1)=some (.pointer (some (tZ tm 0))):=hb2.cellAt rfl;have d2:(w.setCell (tZ lg 2) (iV (max now x))).cell? (tZ lg 2)=some (iV (max now x)):=hb2.cellAt rfl;have i2:=hid (fun n=>aPx (max now x) ((h2.drewN n).at_ 1 rfl).blk);have H:=hid h2.drewN;clear h h2 hb2;go_enter func132,ntmps132;go_wp2_with fail;refine i1.out.mono ?_;rintro e w1⟨rfl,h9⟩;rw[<-h9];clear h9;go_wp2_with fail;go_quiet ((go_at_call 205;exact Calls.quiet_of_same (i2.out _)))
 all_goals(
  go_wp2_with fail;go_ret;exact⟨rfl,_,H.out _⟩)
theorem aPF(h:ae w0 l w):Calls prog 124 #[.pointer (some (tZ s 0))] w fun e w'=>∃lg tm mv mt,e=.returned (.pointer (some (tZ lg 0)))/\ae w0 (aj lg 299 (tu s tm 0 mv)::aj tm 397 (sV mt)::l) w':=by
 have hmm:= @run_makeMap prog;have i1:=hid (aPs h);clear h;go_enter func124,ntmps124;go_wp2_with fail;refine i1.out.mono ?_;rintro e w1⟨tm,mt,rfl,h1⟩;have h2:=(h1.made (T:=299) (xs:=tu s tm 0 (.map none))).aQp;rw[size_alloc]at h2;have H1:=hid h2;clear h1 i1 h2;go_wp2_with (first|((with_reducible refine aM3 ?_);go_loud (refine aAh _ rfl _ _ _ _ rfl (k:=3) underlying297 underlying3 rfl H1.out.map ?_ ?_ ?_ ?_ ?_ ?_ ?_;rotate_left 2;(focus(simp[go_sem]<;>rfl));(focus(simp[go_sem]<;>rfl));(focus rfl);(focus rfl);intro w2 Bg hg2;replace H1:=hid (H1.out.aQq Bg hg2);simp only[List.nil_append,List.cons_append]at H1;have q8:w2.cell? (tZ w1.heap.size 8)=some (.map none):=(H1.out.at_ 1 rfl).blk.cellAt rfl;have q9:=(H1.out.at_ 1 rfl).blk.frozen 8;clear Bg hg2))|fail)
 go_ret;exact⟨_,_,_,_,rfl,(H1.out.at_ 1 rfl).store 8 _|>.at_ 0 rfl|>.sub (List.Sublist.cons_cons _ (List.sublist_cons_self _ _))⟩
end
end Go.Proofs.YtfjkpigldogkeaaGreatDoor
