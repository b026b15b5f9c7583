/- Contracts of functions that TopQuiet reaches, under the conditions that each states. -/
import Derived.Test.YtfjkpigldogkeaaGreatDoorProg
import Derived.WalkKit
import Derived.WalkSpells
import Derived.WalkLawsBesides
import Derived.Handy
import Derived.Maps.AppendAt
import Derived.Deep.AppendLies
import Derived.Deep.QuietTactic
import Derived.Deep.Draws
import Derived.BigQuiet
import Derived.Lib.Hide
import Derived.Lib.SlBytesConst
import Derived.Deep.DeepCutAuto
import Derived.Deep.LoopGhost
import Derived.Deep.DeepMust
import Derived.Deep.RegionWith
set_option linter.all false
namespace Go.Proofs.YtfjkpigldogkeaaGreatDoor
open Go.RowKit Go.ChangeShapes Go.WideShapes Go.ChangeAt
abbrev tZ (b i:Nat):Addr:=⟨b,i,none⟩
abbrev bV(b:UInt8):Value:=.int .u8 (b.toNat:Int)
abbrev iV(n:Int):Value:=.int .i64 n
theorem hid{p:Prop}(h:p):Hid p:=h
theorem nz{k:IntKind}{a b:Int}(h:a=b):Ending.returned (.int k a)=.returned (.int k b):=by rw[h]
theorem cZ{a b:Bool}(h:a=b):Ending.returned (.bool a)=.returned (.bool b):=by rw[h]
theorem dw(a:Addr)(n:Nat):(a.add n).block=a.block:=by unfold Addr.add;split<;>rfl
theorem aBs(a:Addr)(i j:Nat):(a.add i).add j=a.add (i+j):=by
 unfold Addr.add;by_cases hi:i=0<;>by_cases hj:j=0<;>simp[hi,hj,Nat.add_assoc]
theorem lT(b o i:Nat):(⟨b,o,none⟩:Addr).add i=⟨b,o+i,none⟩:=by unfold Addr.add;split<;>simp_all
/-! ### A slice that reads as a list of cells, nil let in; it lies below block B. -/
def ai(w:World)(B size:Nat)(A:Option Addr)(n:Nat)(xs:List Value):Prop:=
 xs.length=n*size/\(0<n->∃ad,A=some ad/\ad.block<B/\∀j u,xs[j]? =some u->w.cell? (ad.add j)=some u)
section
variable{w w':World}{B B' size n:Nat}{A:Option Addr}{xs:List Value}
theorem ai.len(h:ai w B size A n xs):xs.length=n*size:=h.1
theorem ai.empty:ai w B size A 0 []:=⟨by simp,fun h=>absurd h (by omega)⟩
theorem ai.form(h:ai w B size A n xs)(hn:0<n):∃ad,A=some ad/\ad.block<B/\∀j u,xs[j]? =some u->w.cell? (ad.add j)=some u:=h.2 hn
theorem ai.at_{k:Nat}(h:ai w B 1 A n xs)(hk:k<n):∃ad u,A=some ad/\ad.block<B/\xs[k]? =some u/\w.cell? (ad.add k)=some u:=by
 obtain⟨ad,e,hb,hc⟩:=h.2 (by omega);have hl:k<xs.length:=by have:=h.1;omega
 exact⟨ad,xs[k],e,hb,List.getElem?_eq_getElem hl,hc k _ (List.getElem?_eq_getElem hl)⟩
theorem ai.He{α:Type}{f:α->Value}{l:List α}{k:Nat}(h:ai w B 1 A n (l.map f))(hk:k<n):∃ad x,A=some ad/\ad.block<B/\l[k]? =some x/\w.cell? (ad.add k)=some (f x):=by
 obtain⟨ad,u,e,hb,hu,hc⟩:=h.at_ hk;rw[List.getElem?_map]at hu;cases hx:l[k]? with
 |none=>rw[hx]at hu;simp at hu
 |some x=>rw[hx]at hu;simp at hu;exact⟨ad,x,e,hb,rfl,by rw[hc,hu]⟩
theorem ai.keep(h:ai w B size A n xs)(hk:∀p:Addr,p.block<B->w'.cell? p=w.cell? p):ai w' B size A n xs:=
 ⟨h.1,fun hn=>by
  obtain⟨ad,e,hb,hc⟩:=h.2 hn;exact⟨ad,e,hb,fun j u hu=>(hk _ (by rw[dw];exact hb)).trans (hc j u hu)⟩⟩
theorem ai.more(h:ai w B size A n xs)(hB:B<=B'):ai w B' size A n xs:=
 ⟨h.1,fun hn=>by
  obtain⟨ad,e,hb,hc⟩:=h.2 hn;exact⟨ad,e,by omega,hc⟩⟩
theorem ai.below(h:ai w B size A n xs)(hb:Below B w w'):ai w' B size A n xs:=h.keep fun _ hp=>hb.cell hp
theorem ai.alloc(h:ai w B size A n xs)(hB:B<=w.heap.size)(o:Obj):ai (w.alloc o) B size A n xs:=h.keep fun p hp=>World.cell?_alloc_lt w o p (by omega)
theorem ai.setCell(h:ai w B size A n xs){p:Addr}(hB:B<=p.block)(u:Value):ai (w.setCell p u) B size A n xs:=
 h.keep fun q hq=>World.cell?_setCell_other w p q u (fun e=>by subst e;omega)
theorem ai.grown(h:ai w B size A n xs){row:Option Nat}(hg:w.grownBy w' row)(hB:B<=w.heap.size)(hr:∀g,row=some g->B<=g):ai w' B size A n xs:=
 h.keep fun p hp=>World.cell?_of_block (hg.block p.block (by omega) (fun e=>by have:=hr _ e.symm;omega))
theorem ai.front(h:ai w B size A n xs){k:Nat}(hk:k<=n):ai w B size A k (xs.take (k*size)):=by
 have hks:k*size<=n*size:=Nat.mul_le_mul_right _ hk;refine⟨by rw[List.length_take,h.1];omega,fun hp=>?_⟩;obtain⟨ad,rfl,hb,hc⟩:=h.2 (by omega);refine⟨ad,rfl,hb,fun j u hu=>hc j u ?_⟩;rw[List.getElem?_take]at hu;split at hu
 ·exact hu
 ·cases hu
theorem ai.cut(h:ai w B size A n xs){k cap:Nat}(hk:k<=n)(hc:n<=cap):
  ai w B size (if cap=k then A else A.map (·.add (k*size))) (n-k) (xs.drop (k*size)):=by
 refine⟨by rw[List.length_drop,h.1,Nat.sub_mul],fun hn=>?_⟩;obtain⟨ad,rfl,hb,hcell⟩:=h.2 (by omega);rw[if_neg (by omega)];refine⟨ad.add (k*size),rfl,by rw[dw];exact hb,fun j u hu=>?_⟩;rw[aBs];exact hcell _ u (by rw[<-hu,List.getElem?_drop])
theorem ai.uA{base:Nat}{e:TypeId}{c:Nat}(h:w.ownsRow base e size (.slice A n c) n xs):ai w w.heap.size size A n xs:=by
 refine⟨h.1,fun hn=>?_⟩;obtain⟨g,cap,hv,_,hlt⟩:=h.form hn;have hA:A=some (tZ g 0):=by injection hv
 subst hA;exact⟨_,rfl,hlt,h.cells (g:=g) rfl⟩
theorem ai.lit{cs:Array Value}{e:TypeId}{g:Nat}(h:w.heap[g]? =some (.cells cs e (0,0)))(hs:cs.size=n*size):ai w w.heap.size size (some (tZ g 0)) n cs.toList:=by
 refine⟨by simpa using hs,fun _=>⟨_,rfl,(Array.getElem?_eq_some_iff.1 h).1,fun j u hu=>?_⟩⟩;rw[lT,cell_of_row w g _ cs e (0,0) h];simpa using hu
end
def lh{α:Type}(w:World)(B size:Nat)(A:Option Addr)(n:Nat)(cells:α->List Value)(l:List α):Prop:=
 l.length=n/\∀k x,l[k]? =some x->∃ad,A=some ad/\ad.block<B/\∀j u,(cells x)[j]? =some u->w.cell? (ad.add (k*size+j))=some u
section
variable{α:Type}{w w':World}{B B' size n:Nat}{A:Option Addr}{cells:α->List Value}{l:List α}
theorem lh.len(h:lh w B size A n cells l):l.length=n:=h.1
theorem lh.nil:lh w B size none 0 cells ([]:List α):=⟨rfl,fun k x hk=>by simp at hk⟩
theorem lh.at_{k:Nat}(h:lh w B size A n cells l)(hk:k<n):∃ad x,A=some ad/\ad.block<B/\l[k]? =some x/\(∀u,(cells x)[0]? =some u->w.cell? (ad.add (k*size))=some u)/\
  (∀j u,(cells x)[j+1]? =some u->w.cell? (tZ ((ad.add (k*size)).block) ((ad.add (k*size)).off+(j+1)))=some u):=by
 have hl:k<l.length:=by rw[h.1];exact hk
 obtain⟨ad,e,hb,hc⟩:=h.2 k l[k] (List.getElem?_eq_getElem hl);refine⟨ad,l[k],e,hb,List.getElem?_eq_getElem hl,fun u hu=>hc 0 u hu,fun j u hu=>?_⟩;have:=hc (j+1) u hu;rw[<-aBs]at this;exact this
theorem lh.keep(h:lh w B size A n cells l)(hk:∀p:Addr,p.block<B->w'.cell? p=w.cell? p):lh w' B size A n cells l:=
 ⟨h.1,fun k x hx=>by
  obtain⟨ad,e,hb,hc⟩:=h.2 k x hx;exact⟨ad,e,hb,fun j u hu=>(hk _ (by rw[dw];exact hb)).trans (hc j u hu)⟩⟩
theorem lh.more(h:lh w B size A n cells l)(hB:B<=B'):lh w B' size A n cells l:=
 ⟨h.1,fun k x hx=>by
  obtain⟨ad,e,hb,hc⟩:=h.2 k x hx;exact⟨ad,e,by omega,hc⟩⟩
theorem lh.below(h:lh w B size A n cells l)(hb:Below B w w'):lh w' B size A n cells l:=h.keep fun _ hp=>hb.cell hp
theorem lh.belowS(h:lh w w.heap.size size A n cells l)(hb:Below w.heap.size w w'):lh w' w'.heap.size size A n cells l:=(h.below hb).more hb.size
end
/-! ### A block that is known whole. -/
def ak(w:World)(g:Nat)(t:TypeId)(cs:List Value):Prop:=w.heap[g]? =some (.cells cs.toArray t (0,0))
section
variable{w w':World}{g:Nat}{t:TypeId}{cs:List Value}
theorem ak.lt(h:ak w g t cs):g<w.heap.size:=(Array.getElem?_eq_some_iff.1 h).1
theorem ak.cell(h:ak w g t cs)(i:Nat):w.cell? (tZ g i)=cs[i]? :=by
 rw[cell_of_row w g i cs.toArray t (0,0) h];simp
theorem ak.cellAt(h:ak w g t cs){i:Nat}{v:Value}(hi:cs[i]? =some v):w.cell? (tZ g i)=some v:=(h.cell i).trans hi
theorem ak.frozen(h:ak w g t cs)(i:Nat):w.frozen? (tZ g i)=false:=frozen_of_row w g i cs.toArray t h
theorem ak.new(w:World)(t:TypeId)(cs:List Value):ak (w.alloc (.cells cs.toArray t)) w.heap.size t cs:=heap_alloc_new w _
theorem ak.drew(h:ak w g t cs):ak w.drew g t cs:=h
theorem ak.drewN(h:ak w g t cs)(n:Nat):ak (w.drewN n) g t cs:=h
theorem ak.alloc(h:ak w g t cs)(o:Obj):ak (w.alloc o) g t cs:=(Below.heap_alloc w o g h.lt).trans h
theorem ak.uh(h:ak w g t cs)(i:Nat)(u:Value):ak (w.setCell (tZ g i) u) g t (cs.set i u):=by
 have:=heap_setCell_same w g i cs.toArray t u h;unfold ak;rw[this];simp
theorem ak.far(h:ak w g t cs){p:Addr}(hp:g≠p.block)(u:Value):ak (w.setCell p u) g t cs:=(Below.heap_setCell w p u g hp).trans h
theorem ak.below{B:Nat}(h:ak w g t cs)(hb:Below B w w')(hg:g<B):ak w' g t cs:=(hb.block g hg).trans h
theorem ak.belowS(h:ak w g t cs)(hb:Below w.heap.size w w'):ak w' g t cs:=h.below hb h.lt
theorem ak.grown{row:Option Nat}(h:ak w g t cs)(hb:w.grownBy w' row)(hg:some g≠row):ak w' g t cs:=(hb.block g h.lt hg).trans h
end
/-! ### What the call made. -/
theorem aMd{w:World}{base:Nat}{e:TypeId}{size:Nat}{v:Value}{n:Nat}{xs:List Value}(h:w.ownsRow base e size v n xs):∃A c,v=.slice A n c:=by
 rcases h.2 with⟨rfl,rfl⟩|⟨g,cap,_,rfl,_⟩
 ·exact⟨_,_,rfl⟩
 ·exact⟨_,_,rfl⟩
theorem dG{w:World}{base:Nat}{e:TypeId}{size:Nat}{A:Option Addr}{n c:Nat}{xs:List Value}(h:w.ownsRow base e size (.slice A n c) n xs)(hn:0<n):∃g,A=some (tZ g 0)/\base<=g/\g<w.heap.size:=by
 obtain⟨g,cap,hv,hg,hlt⟩:=h.form hn;injection hv with hv _ _
 exact⟨g,hv,hg,hlt⟩
theorem nB{w:World}{base:Nat}{e:TypeId}{size:Nat}{A:Option Addr}{n c:Nat}{xs:List Value}(h:w.ownsRow base e size (.slice A n c) n xs):n<=c/\c<=maxLen:=by
 rcases h.2 with⟨hv,rfl⟩|⟨g,cap,_,hv,_,_,hc,hm,_⟩
 ·injection hv with _ _ hv
  subst hv;exact⟨Nat.le_refl _,by simp[maxLen]⟩
 ·injection hv with _ _ hv
  subst hv;exact⟨hc,hm⟩
theorem aIx{w:World}{base:Nat}{e:TypeId}{size:Nat}{v:Value}{n:Nat}{xs:List Value}(h:w.ownsRow base e size v n xs):xs.length=n*size:=h.1
theorem bh{w:World}{base base':Nat}{e:TypeId}{size:Nat}{v:Value}{n:Nat}{xs:List Value}(h:w.ownsRow base e size v n xs)(hb:base'<=base):w.ownsRow base' e size v n xs:=by
 refine⟨h.1,?_⟩;rcases h.2 with h2|⟨g,cap,cur,hv,hg,r⟩
 ·exact .inl h2
 ·exact .inr ⟨g,cap,cur,hv,by omega,r⟩
theorem kG{w w':World}{base:Nat}{e:TypeId}{size:Nat}{v:Value}{n:Nat}{xs:List Value}(h:w.ownsRow base e size v n xs)(hb:Below w.heap.size w w'):w'.ownsRow base e size v n xs:=by
 refine⟨h.1,?_⟩;rcases h.2 with h2|⟨g,cap,cur,hv,hg,hh,r⟩
 ·exact .inl h2
 ·exact .inr ⟨g,cap,cur,hv,hg,(hb.block g (Array.getElem?_eq_some_iff.1 hh).1).trans hh,r⟩
theorem dW{α:Type}{f:α->Value}{l:List α}{w:World}{base:Nat}{e:TypeId}{g n cap k:Nat}(h:w.ownsRow base e 1 (.slice (some (tZ g 0)) n cap) n (l.map f))(hk:k<n):
  ∃x,l[k]? =some x/\w.cell? (tZ g k)=some (f x)/\w.frozen? (tZ g k)=false:=by
 have h1:=h.cellAt k (by omega);have hl:l.length=n:=by simpa using h.1
 refine⟨l[k],List.getElem?_eq_getElem (by omega),?_,h.frozenAt k⟩;rw[h1,List.getElem?_map,List.getElem?_eq_getElem (by omega)];rfl
theorem aHD{α:Type}{f:α->Value}{l:List α}{w:World}{base:Nat}{e:TypeId}{g n cap:Nat}(h:w.ownsRow base e 1 (.slice (some (tZ g 0)) n cap) n (l.map f))(k:Nat)(x:α):
  (w.setCell (tZ g k) (f x)).ownsRow base e 1 (.slice (some (tZ g 0)) n cap) n ((l.set k x).map f)/\Below base w (w.setCell (tZ g k) (f x)):=by
 refine⟨by rw[List.map_set];exact(h.stored k (f x)).1,(Below.refl _ _).setCell ?_ _⟩;exact(h.lt g rfl).1
theorem ag{a b c:World}(h:Below a.heap.size a b)(k:Below b.heap.size b c):Below a.heap.size a c:=h.trans (k.mono h.size)
theorem aC{a b:World}(h:Below a.heap.size a b)(o:Obj):Below a.heap.size a (b.alloc o):=h.alloc h.size o
theorem ai.belowS{w w':World}{size n:Nat}{A:Option Addr}{xs:List Value}(h:ai w w.heap.size size A n xs)(hb:Below w.heap.size w w'):ai w' w'.heap.size size A n xs:=(h.below hb).more hb.size
theorem bW{B:Nat}{a w:World}(h:Below B a w)(n:Nat):Below B a (w.drewN n):=⟨h.os,h.tape,h.output,h.size,h.block⟩
theorem Jv{B base:Nat}{a w w':World}{e:TypeId}{size:Nat}{v:Value}{n:Nat}{xs:List Value}(h:Below B a w)(hown:w.ownsRow base e size v n xs)(hg:w.grownBy w' v.ownBlock)(hB:B<=base)(hs:B<=w.heap.size):Below B a w':=
 h.grown hg hs (fun k hk=>Nat.le_trans hB (hown.lt k hk).1)
section
variable{P:Program}(w:World)
theorem aDg(base:Nat)(t ty e:TypeId)(i:TypeInfo)(z:Value)(size bytes:Nat)(ht:P.underlying t=some (.slice e))(hi:P.info? e=some i)(hz:i.zero=some z)
(hsize:i.size=size)(hby:i.bytes=bytes)(hzs:z.cells.size=size)(hsz:0<size)
(v:Value)(n:Nat)(xs:List Value)(hown:w.ownsRow base e size v n xs)
(B:Nat)(A:Option Addr)(m c:Nat)(news:List Value)(hr:ai w B size A m news)(h1:∀u∈news,u.oneCell'=true)
(h63:n+m<=maxLen)(hbytes:(n+m)*bytes<=140737488355328)(hbase:base<=w.heap.size):
  ∃v' w',(Builtin.append_ #[t,t] ty #[v,.slice A m c]).run P w=.ok v' w'/\w'.ownsRow base e size v' (n+m) (xs++news)/\w.grownBy w' v.ownBlock/\
   (v'.ownBlock=v.ownBlock\/v'.ownBlock=some w.heap.size):=by
 by_cases hm:m=0
 ·subst hm;have hn:news=[]:=List.eq_nil_of_length_eq_zero (by simpa using hr.1);subst hn;have hrun:∃w',(Builtin.append_ #[t,t] ty #[v,.slice A 0 c]).run P w=.ok v w'/\w'=w:=by
   rcases hown.2 with⟨rfl,rfl⟩|⟨g,cap,cur,rfl,_,_,hnc,_⟩
   ·cases A<;>simp[Builtin.append_,run_underlying ht,sizeOf,typeInfo,hi,Builtin.lenOf,Builtin.firstCells,loadCells,loadCellsFrom]
   ·cases A<;>simp[Builtin.append_,run_underlying ht,sizeOf,typeInfo,hi,Builtin.lenOf,Builtin.firstCells,hnc,storeCells,loadCells,loadCellsFrom]
  obtain⟨w',hrun,rfl⟩:=hrun;exact⟨v,w',hrun,by simpa using hown,⟨rfl,rfl,rfl,Nat.le_refl _,fun _ _ _=>rfl⟩,.inl rfl⟩
 ·obtain⟨ad,rfl,_,hcells⟩:=hr.2 (by omega);obtain⟨v',w',hrun,h2,h3,_,h5⟩:=run_append_own_at (P:=P) w base t ty e i z size bytes ht hi hz hsize hby hzs hsz v n xs hown ad m c news hr.1 hcells h1 h63 hbytes hbase;exact⟨v',w',hrun,h2,h3,h5⟩
theorem Jw{o:Oper}{a:Act}{K:Act->World->Prop}{Q:Exit->Act->World->Prop}(s x:Operand)(t:TypeId)
(ho:o.op=.call {callee:=.builtin .append,args:= #[s,x],argTypes:= #[t,t]})
(base:Nat)(e:TypeId)(i:TypeInfo)(z:Value)(size bytes:Nat)(ht:P.underlying t=some (.slice e))(hi:P.info? e=some i)(hz:i.zero=some z)
(hsize:i.size=size)(hby:i.bytes=bytes)(hzs:z.cells.size=size)(hsz:0<size)
(v:Value)(n:Nat)(xs:List Value)(hs:a.eval s=v)(hown:w.ownsRow base e size v n xs)
(B:Nat)(A:Option Addr)(m c:Nat)(news:List Value)(hx:a.eval x=.slice A m c)(hr:ai w B size A m news)(h1:∀u∈news,u.oneCell'=true)
(h63:n+m<=maxLen)(hbytes:(n+m)*bytes<=140737488355328)(hbase:base<=w.heap.size)
(h:∀A' c' w',w'.ownsRow base e size (.slice A' (n+m) c') (n+m) (xs++news)->w.grownBy w' v.ownBlock->((Value.slice A' (n+m) c').ownBlock=v.ownBlock\/(Value.slice A' (n+m) c').ownBlock=some w.heap.size)->K (a.put o.dst (.slice A' (n+m) c')) w'):o.wp P a w K Q:=by
 obtain⟨v',w',hrun,h2,h3,h4⟩:=aDg (P:=P) w base t o.type e i z size bytes ht hi hz hsize hby hzs hsz v n xs hown B A m c news hr h1 h63 hbytes hbase;unfold Oper.wp execOp;simp only[ho,resolve,invoke,builtin,Sem.run_bind,Sem.run_pure,Result.andThen_ok,List.map_toArray,List.map_cons,List.map_nil,hs,hx,hrun];obtain⟨A',c',rfl⟩:=aMd h2;exact h A' c' w' h2 h3 h4
theorem aAA{ops:Array Oper}{rest:List Oper}{o:Oper}{a:Act}{Q:Exit->Act->World->Prop}(hgd:o.guard=none)(s x:Operand)(t:TypeId)
(ho:o.op=.call {callee:=.builtin .append,args:= #[s,x],argTypes:= #[t,t]})
(base:Nat)(e:TypeId)(i:TypeInfo)(z:Value)(size bytes:Nat)(ht:P.underlying t=some (.slice e))(hi:P.info? e=some i)(hz:i.zero=some z)
(hsize:i.size=size)(hby:i.bytes=bytes)(hzs:z.cells.size=size)(hsz:0<size)
(v:Value)(n:Nat)(xs:List Value)(hs:a.eval s=v)(hown:w.ownsRow base e size v n xs)
(B:Nat)(A:Option Addr)(m c:Nat)(news:List Value)(hx:a.eval x=.slice A m c)(hr:ai w B size A m news)(h1:∀u∈news,u.oneCell'=true)
(h63:n+m<=maxLen)(hbytes:(n+m)*bytes<=140737488355328)(hbase:base<=w.heap.size)
(h:∀A' c' w',w'.ownsRow base e size (.slice A' (n+m) c') (n+m) (xs++news)->w.grownBy w' v.ownBlock->((Value.slice A' (n+m) c').ownBlock=v.ownBlock\/(Value.slice A' (n+m) c').ownBlock=some w.heap.size)->wpList P ops Q rest (a.put o.dst (.slice A' (n+m) c')) w'):wpList P ops Q (o::rest) a w:=
 wpList_plain hgd fun _ hK=>Jw w s x t ho base e i z size bytes ht hi hz hsize hby hzs hsz v n xs hs hown B A m c news hx hr h1 h63 hbytes hbase fun A' c' w' h2 h3 h4=>hK _ _ (h A' c' w' h2 h3 h4)
end
theorem ai.new(w:World)(cs:Array Value)(e:TypeId)(n:Nat)(hn:cs.size=n):ai (w.alloc (.cells cs e)) (w.heap.size+1) 1 (some (tZ w.heap.size 0)) n cs.toList:=
 (ai.lit (heap_alloc_new w _) (by omega)).more (by simp)
theorem iG(l:List UInt8):∀u∈l.map bV,u.oneCell'=true:=by intro u hu;obtain⟨b,_,rfl⟩:=List.mem_map.1 hu;rfl
theorem aIM(l:List Int):∀u∈l.map iV,u.oneCell'=true:=by intro u hu;obtain⟨b,_,rfl⟩:=List.mem_map.1 hu;rfl
theorem aY{α:Type}(l:List α)(i:Nat)(a:α):l.toArray.setIfInBounds i a=(l.set i a).toArray:=by simp
theorem aZ{α:Type}(x:α)(xs:List α)(a:α):(x::xs).set 0 a=a::xs:=rfl
theorem aU{α:Type}(x:α)(xs:List α)(n:Nat)(a:α):(x::xs).set (n+1) a=x::xs.set n a:=rfl
class eY (B:Nat) (w w':World):Prop where
 out:Below B w w'
instance (B:Nat) (w:World):eY B w w:=⟨Below.refl B w⟩
instance {B:Nat} {w w':World} [h:eY B w w']:eY B w w'.drew:=⟨h.out.drew⟩
instance {w w':World} [h:eY w.heap.size w w'] (o:Obj):eY w.heap.size w (w'.alloc o):=⟨h.out.alloc h.out.size o⟩
structure gW where
 mem:Int
 fuel:Int
 uw:Int
structure ik where
 part:Int
 at_:Int
 long:Int
structure aB where
 src:Int
 dst:Int
 depth:Int
structure aG where
 frame:Int
 parts:List gW
 wins:List ik
 chans:List aB
 trial:Int
def lW{α:Type}(p:α->Bool)(l:List α):Int:=match l.findIdx? p with|some i=>(i:Int)|none=> -1
theorem aFh{α:Type}(p:α->Bool)(l:List α)(k:Nat)(x:α)(hx:l[k]? =some x)(hp:p x=true)(h:∀y∈l.take k,p y=false):lW p l=k:=by
 have hkl:=(List.getElem?_eq_some_iff.1 hx).1;have:l.findIdx? p=some k:=by
  rw[List.findIdx?_eq_some_iff_getElem];refine⟨hkl,?_,fun j hj=>?_⟩
  ·have:l[k]=x:=by rw[List.getElem?_eq_getElem hkl]at hx;injection hx
   rw[this];exact hp
  ·have:=h l[j] (by rw[List.mem_iff_getElem];exact⟨j,by rw[List.length_take];omega,by rw[List.getElem_take]⟩);simp[this]
 unfold lW;rw[this]
theorem aBT{α:Type}(p:α->Bool)(l:List α)(h:∀y∈l,p y=false):lW p l= -1:=by
 have:l.findIdx? p=none:=by
  rw[List.findIdx?_eq_none_iff];exact h
 unfold lW;rw[this]
theorem Ls{α:Type}(p:α->Bool)(l:List α)(k:Nat)(x:α)(hx:l[k]? =some x)(hp:p x=false)(h:∀y∈l.take k,p y=false):∀y∈l.take (k+1),p y=false:=by
 rw[List.take_add_one,hx];intro y hy;rcases List.mem_append.1 hy with h1|h1
 ·exact h y h1
 ·rw[List.mem_singleton.1 h1];exact hp
theorem aCn{α:Type}(p:α->Bool)(l:List α):decide (0<=lW p l)=l.any p:=by
 unfold lW;cases h:l.findIdx? p with
 |none=>
  have:=List.findIdx?_eq_none_iff.1 h;have h2:l.any p=false:=by simpa using this
  rw[h2];rfl
 |some i=>
  obtain⟨hi,hp,_⟩:=List.findIdx?_eq_some_iff_getElem.1 h;have h2:l.any p=true:=List.any_eq_true.2 ⟨l[i],List.getElem_mem hi,hp⟩;rw[h2];simp
def mG(n least most:Int):Bool:=decide (least<=n)&&decide (n<=most)
def jP(p:gW):Bool:= !(mG p.mem 1 16)|| !(mG p.fuel 1 32)|| !(mG p.uw 0 65535)
def gG(t:aG)(p:Int):Bool:=mG p 0 ((t.parts.length:Int)-1)
def kQ(t:aG)(e:Int)(w:ik):Bool:= !(gG t w.part)||decide (w.at_<e)||decide (t.frame<w.at_)||decide (w.long<1)||decide (t.frame-w.at_<w.long)
def eu(t:aG):Int->List ik->Bool
 |_,[]=>true
 |e,w::l=> !(kQ t e w)&&eu t (w.at_+w.long) l
def jg(l:List ik):Bool:=l.any fun w=>w.part==0
def mQ(t:aG):Bool:=eu t 0 t.wins&&(jg t.wins&&decide (t.wins.length<=8))
def df(t:aG)(c:aB):Bool:= !(gG t c.src)|| !(gG t c.dst)||(c.src==c.dst)|| !(mG c.depth 0 4)
def aS(t:aG):Bool:=
 mG t.frame 1 64&&mG t.trial 1 7&&mG (t.parts.length:Int) 2 4&& !(t.parts.any jP)&&mQ t&&decide (t.chans.length<=4)&& !(t.chans.any (df t))
theorem mZ(n a b:Int):mG n a b=true↔a<=n/\n<=b:=by simp[mG]
structure mD (t:aG):Prop where
 f1:1<=t.frame
 f2:t.frame<=64
 r1:1<=t.trial
 r2:t.trial<=7
 p1:2<=t.parts.length
 p2:t.parts.length<=4
 ps:∀p∈t.parts,1<=p.mem/\p.mem<=16/\1<=p.fuel/\p.fuel<=32/\0<=p.uw/\p.uw<=65535
 ws:eu t 0 t.wins=true
 Ba:jg t.wins=true
 w8:t.wins.length<=8
 c4:t.chans.length<=4
 cs:∀c∈t.chans,0<=c.src/\c.src<t.parts.length/\0<=c.dst/\c.dst<t.parts.length/\c.src≠c.dst/\0<=c.depth/\c.depth<=4
theorem bK(t:aG):aS t=true↔mD t:=by
 have hc:∀c,df t c=false↔(0<=c.src/\c.src<t.parts.length/\0<=c.dst/\c.dst<t.parts.length/\c.src≠c.dst/\0<=c.depth/\c.depth<=4):=by
  intro c;simp only[df,gG,Bool.or_eq_false_iff,Bool.not_eq_false',mZ,beq_eq_false_iff_ne];constructor
  ·rintro⟨⟨⟨⟨h1,h2⟩,h3,h4⟩,h5⟩,h6,h7⟩;exact⟨h1,by omega,h3,by omega,h5,h6,h7⟩
  ·rintro⟨h1,h2,h3,h4,h5,h6,h7⟩;exact⟨⟨⟨⟨h1,by omega⟩,h3,by omega⟩,h5⟩,h6,h7⟩
 have hp:∀p,jP p=false↔(1<=p.mem/\p.mem<=16/\1<=p.fuel/\p.fuel<=32/\0<=p.uw/\p.uw<=65535):=by
  intro p;simp only[jP,Bool.or_eq_false_iff,Bool.not_eq_false',mZ];constructor
  ·rintro⟨⟨⟨h1,h2⟩,h3,h4⟩,h5,h6⟩;exact⟨h1,h2,h3,h4,h5,h6⟩
  ·rintro⟨h1,h2,h3,h4,h5,h6⟩;exact⟨⟨⟨h1,h2⟩,h3,h4⟩,h5,h6⟩
 unfold aS mQ;simp only[Bool.and_eq_true,mZ,decide_eq_true_eq,Bool.not_eq_true',List.any_eq_false,Bool.not_eq_true];constructor
 ·rintro⟨⟨⟨⟨⟨⟨⟨h1,h2⟩,h3,h4⟩,h5,h6⟩,h7⟩,h8,h9,h10⟩,h11⟩,h12⟩;exact⟨h1,h2,h3,h4,by omega,by omega,fun p zt=>(hp p).1 (h7 p zt),h8,h9,h10,h11,fun c hcm=>(hc c).1 (h12 c hcm)⟩
 ·intro r;exact⟨⟨⟨⟨⟨⟨⟨r.f1,r.f2⟩,r.r1,r.r2⟩,by have:=r.p1;omega,by have:=r.p2;omega⟩,fun p zt=>(hp p).2 (r.ps p zt)⟩,r.ws,r.Ba,r.w8⟩,r.c4⟩,fun c hcm=>(hc c).2 (r.cs c hcm)⟩
def Lt(t:aG)(e:Int)(w:ik):Prop:=0<=w.part/\w.part<t.parts.length/\e<=w.at_/\1<=w.long/\w.at_+w.long<=t.frame
theorem aHo(t:aG)(e:Int)(w:ik):kQ t e w=false↔Lt t e w:=by
 simp only[kQ,gG,Bool.or_eq_false_iff,Bool.not_eq_false',mZ,decide_eq_false_iff_not,Lt];constructor
 ·rintro⟨⟨⟨⟨⟨h1,h2⟩,h3⟩,h4⟩,h5⟩,h6⟩;exact⟨h1,by omega,by omega,by omega,by omega⟩
 ·rintro⟨h1,h2,h3,h4,h5⟩;exact⟨⟨⟨⟨⟨h1,by omega⟩,by omega⟩,by omega⟩,by omega⟩,by omega⟩
theorem aG9(t:aG)(e:Int)(w:ik)(l:List ik):eu t e (w::l)=true↔Lt t e w/\eu t (w.at_+w.long) l=true:=by
 rw[<-aHo];simp[eu]
theorem aDh(t:aG):∀(l:List ik)(e:Int),eu t e l=true->∀w∈l,Lt t e w
 |[],_,_=>by simp
 |w::l,e,h=>by
  obtain⟨h1,h2⟩:=(aG9 t e w l).1 h;intro x hx;rcases List.mem_cons.1 hx with rfl|hx
  ·exact h1
  ·have h3:=aDh t l _ h2 x hx;have a1:=h1.2.2.1;have a2:=h1.2.2.2.1;obtain⟨b1,b2,b3,b4,b5⟩:=h3;exact⟨b1,b2,by omega,b4,b5⟩
theorem mD.win{t:aG}(h:mD t)(w:ik)(hw:w∈t.wins):Lt t 0 w:=aDh t t.wins 0 h.ws w hw
def kE(pos:Int)(w:ik):Bool:=decide (w.at_<=pos)&&decide (pos<w.at_+w.long)
def Jy(t:aG)(pos:Int):Int:=if aS t then lW (kE pos) t.wins else-1
def oH:Int->List ik->Int
 |e,[]=>e
 |_,w::l=>oH (w.at_+w.long) l
theorem aE2(w:ik):∀(l:List ik)(e:Int),oH e (l++[w])=w.at_+w.long
 |[],e=>rfl
 |x::l,e=>by
  show oH (x.at_+x.long) (l++[w])=_
  exact aE2 w l _
theorem aAk(t:aG)(m:List ik):∀(l:List ik)(e:Int),eu t e (l++m)=(eu t e l&&eu t (oH e l) m)
 |[],e=>by simp[eu,oH]
 |x::l,e=>by
  simp only[List.cons_append,eu,oH];rw[aAk t m l];rw[Bool.and_assoc]
theorem aJo(t:aG)(k:Nat)(x:ik)(hx:t.wins[k]? =some x)(h:eu t 0 t.wins=true):kQ t (oH 0 (t.wins.take k)) x=false:=by
 have hk:=(List.getElem?_eq_some_iff.1 hx).1;have hs:t.wins=t.wins.take k++(x::t.wins.drop (k+1)):=by
  conv=>lhs;rw[<-List.take_append_drop k t.wins]
  congr 1
  rw[List.drop_eq_getElem_cons hk];congr 1
  exact(List.getElem?_eq_some_iff.1 hx).2
 rw[hs,aAk,Bool.and_eq_true]at h;obtain⟨_,h2⟩:=h;simp only[eu,Bool.and_eq_true,Bool.not_eq_true']at h2;exact h2.1
theorem aFK(t:aG)(k:Nat)(x:ik)(hx:t.wins[k]? =some x)(h:eu t 0 (t.wins.take k)=true)(hb:kQ t (oH 0 (t.wins.take k)) x=false):eu t 0 (t.wins.take (k+1))=true:=by
 rw[List.take_add_one,hx];show eu t 0 (t.wins.take k++[x])=true
 rw[aAk,h];simp[eu,hb]
theorem aKs(t:aG)(k:Nat)(x:ik)(hx:t.wins[k]? =some x):oH 0 (t.wins.take (k+1))=x.at_+x.long:=by
 rw[List.take_add_one,hx];exact aE2 x _ _
theorem aIX(t:aG)(k:Nat)(x:ik)(hx:t.wins[k]? =some x):jg (t.wins.take (k+1))=(jg (t.wins.take k)||x.part==0):=by
 rw[List.take_add_one,hx];simp[jg]
theorem aDT(t:aG)(k:Nat)(x:ik)(hx:t.wins[k]? =some x)(hb:kQ t (oH 0 (t.wins.take k)) x=true):aS t=false:=by
 cases hr:aS t with
 |false=>rfl
 |true=>
  have:=aJo t k x hx ((bK t).1 hr).ws;rw[this]at hb;cases hb
structure JE (t:aG) (F:Nat) (DC e:Int) (u:List Bool):Prop where
 len:u.length=F
 e0:0<=e
 eF:e<=F
 l1: -1<=DC
 l2:(0<=DC/\DC<e)\/(DC= -1/\e=0)
 yes:∀p:Nat,DC<=p->(p:Int)<e->0<=DC->u[p]? =some true
 no:∀p:Nat,e<=p->p<F->u[p]? =some false
theorem aJv(t:aG)(F:Nat):JE t F (-1) 0 (List.replicate F false):=
 ⟨by simp,by omega,by omega,by omega,.inr ⟨rfl,rfl⟩,fun p _ h _=>by omega,fun p _ h=>by rw[List.getElem?_replicate,if_pos h]⟩
structure tj (F s q:Nat) (u:List Bool):Prop where
 len:u.length=F
 yes:∀p:Nat,s<=p->p<q->u[p]? =some true
 no:∀p:Nat,q<=p->p<F->u[p]? =some false
theorem JE.mid{t:aG}{F:Nat}{DC e:Int}{u:List Bool}(h:JE t F DC e u){s:Nat}(hs:e<=s):tj F s s u:=
 ⟨h.len,fun p h1 h2=>by omega,fun p h1 h2=>h.no p (by omega) h2⟩
theorem tj.next{F s q:Nat}{u:List Bool}(h:tj F s q u)(hq:q<F):tj F s (q+1) (u.set q true):=by
 refine⟨by rw[List.length_set];exact h.len,fun p h1 h2=>?_,fun p h1 h2=>?_⟩
 ·by_cases hp:p=q
  ·subst hp;rw[List.getElem?_set_self (by rw[h.len];exact hq)]
  ·rw[List.getElem?_set_ne (by omega)];exact h.yes p h1 (by omega)
 ·rw[List.getElem?_set_ne (by omega)];exact h.no p (by omega) h2
theorem tj.used{t:aG}{F s q:Nat}{u:List Bool}(h:tj F s q u)(hsq:s<q)(hq:q<=F):JE t F s q u:=
 ⟨h.len,by omega,by omega,by omega,.inl ⟨by omega,by omega⟩,fun p h1 h2 _=>h.yes p (by omega) (by omega),fun p h1 h2=>h.no p (by omega) h2⟩
theorem aIS(t:aG)(h1:1<=t.frame)(h2:t.frame<=64)(h3:1<=t.trial)(h4:t.trial<=7)(h5:2<=(t.parts.length:Int))(h6:(t.parts.length:Int)<=4)(h7:(t.wins.length:Int)<=8)(h8:(t.chans.length:Int)<=4)
(hp:∀p∈t.parts,jP p=false)(hw:eu t 0 t.wins=true)(hc:∀c∈t.chans,df t c=false):aS t=jg t.wins:=by
 have e1:mG t.frame 1 64=true:=(mZ _ _ _).2 ⟨h1,h2⟩;have e2:mG t.trial 1 7=true:=(mZ _ _ _).2 ⟨h3,h4⟩;have e3:mG (t.parts.length:Int) 2 4=true:=(mZ _ _ _).2 ⟨h5,h6⟩;have e4:t.parts.any jP=false:=by rw[List.any_eq_false];intro p h;simp[hp p h]
 have e5:t.chans.any (df t)=false:=by rw[List.any_eq_false];intro c h;simp[hc c h]
 have e6:decide (t.wins.length<=8)=true:=by simp;omega
 have e7:decide (t.chans.length<=4)=true:=by simp;omega
 unfold aS mQ;rw[e1,e2,e3,e4,e5,e6,e7,hw];simp
theorem aDq(t:aG)(c:aB)(hc:c∈t.chans)(hb:df t c=true):aS t=false:=by
 cases hr:aS t with
 |false=>rfl
 |true=>
  exfalso
  have:=((bK t).1 hr).cs c hc;simp only[df,gG,mG,Bool.or_eq_true,Bool.not_eq_true',Bool.and_eq_false_iff,decide_eq_false_iff_not,beq_iff_eq]at hb;omega
end Go.Proofs.YtfjkpigldogkeaaGreatDoor
