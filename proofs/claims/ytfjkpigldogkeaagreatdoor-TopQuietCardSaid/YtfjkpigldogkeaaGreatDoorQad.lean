/- Contracts of functions that TopQuiet reaches, under the conditions that each states. -/
import Derived.Test.YtfjkpigldogkeaaGreatDoorQac
set_option linter.all false
set_option maxRecDepth 100000
set_option maxHeartbeats 2000000
namespace Go.Proofs.YtfjkpigldogkeaaGreatDoor
open Go.RowKit Go.ChangeShapes Go.WideShapes Go.ChangeAt Go.Proofs.Tryz
inductive bP where
 |last (m:Int) (is:Bool)
 |row (l:List Int) (d:Nat)
structure o6 where
 g:Nat
 A:Option Addr
 c:Nat
def nG(w:World)(p:o6):bP->Prop
 | .last m is=>mL w p.g m is/\p.A=none
 | .row l d=>jH w p.g p.A p.c l d
def lU(p:o6)(b:Nat):Prop:=b=p.g\/bH p.A b
def kW(p:o6):bP->Value
 | .last _ _=>.iface 302 (.pointer (some (tZ p.g 0)))
 | .row _ _=>.iface 305 (.pointer (some (tZ p.g 0)))
def kF{α:Type}(f:Nat->α)(k:Nat)(x:α):Nat->α:=fun j=>if j=k then x else f j
theorem dV{α:Type}(f:Nat->α)(k:Nat)(x:α):kF f k x k=x:=by simp[kF]
theorem eP{α:Type}(f:Nat->α)(k j:Nat)(x:α)(h:j≠k):kF f k x j=f j:=by simp[kF,h]
theorem aC7{α:Type}(f:Nat->α)(k:Nat):kF f k (f k)=f:=by funext j;by_cases h:j=k<;>simp[kF,h]
section
variable{w w':World}{p:o6}{s:bP}
theorem nG.lt(h:nG w p s){b:Nat}(hb:lU p b):b<w.heap.size:=by
 cases s with
 |last m is=>
  rcases hb with rfl|hb
  ·exact ak.lt h.1
  ·obtain⟨a,ha,_⟩:=hb;rw[h.2]at ha;cases ha
 |row l d=>
  rcases hb with rfl|hb
  ·exact jH.blk h|>.lt
  ·exact(jH.row h).lt hb
theorem nG.keep(h:nG w p s)(hk:∀b,lU p b->w'.heap[b]? =w.heap[b]?):nG w' p s:=by
 cases s with
 |last m is=>exact⟨(hk p.g (.inl rfl)).trans h.1,h.2⟩
 |row l d=>exact⟨(hk p.g (.inl rfl)).trans (jH.blk h),(jH.row h).keep fun b hb=>hk b (.inr hb),jH.off h⟩
end
def qA(g:Nat)(uB uy:Option Addr)(b:Nat):Prop:=b=g\/bH uB b\/bH uy b
structure jC (w:World) (g:Nat) (cs:List aB) (uB:Option Addr) (cE:Nat) (uy:Option Addr) (cW:Nat) (ps:Nat->o6) (ss:Nat->bP):Prop where
 blk:ku w g uB cE uy cs.length cW
 ends:lh w w.heap.size 3 uB cs.length fQ cs
 ways:∀k,k<cs.length->∃ad,uy=some ad/\ad.block<w.heap.size/\w.cell? (ad.add k)=some (kW (ps k) (ss k))
 way:∀k,k<cs.length->nG w (ps k) (ss k)
 ap:∀j k,j<cs.length->k<cs.length->j≠k->∀b,lU (ps j) b->¬lU (ps k) b
 off:∀k,k<cs.length->∀b,lU (ps k) b->¬qA g uB uy b
 fl:∀b,qA g uB uy b->b<w.heap.size
def og(n g:Nat)(uB uy:Option Addr)(ps:Nat->o6)(b:Nat):Prop:=qA g uB uy b\/∃k,k<n/\lU (ps k) b
def eG(w:World)(F:Nat->Prop)(g:Nat)(cs:List aB)(ss:Nat->bP):Prop:=∃uB cE uy cW ps,jC w g cs uB cE uy cW ps ss/\∀b,F b↔og cs.length g uB uy ps b
structure bZ (F:Nat->Prop) (w:World) (F':Nat->Prop) (w':World):Prop where
 apart:bD F w w'
 foot:∀b,F' b->F b\/w.heap.size<=b
theorem bZ.refl(F:Nat->Prop)(w:World):bZ F w F w:=⟨bD.refl _ _,fun _ h=>.inl h⟩
theorem bZ.trans{F F' F'':Nat->Prop}{w w' w'':World}(h:bZ F w F' w')(k:bZ F' w' F'' w''):bZ F w F'' w'':=
 ⟨h.apart.trans k.apart (fun b hb hf=>(h.foot b hf).resolve_right (by omega)),fun b hb=>(k.foot b hb).elim (h.foot b) (fun hs=>.inr (Nat.le_trans h.apart.size hs))⟩
theorem bZ.of_below{F:Nat->Prop}{w w':World}(h:Below w.heap.size w w'):bZ F w F w':=⟨bD.of_below h,fun _ h=>.inl h⟩
theorem bZ.below{F F':Nat->Prop}{w w':World}{B:Nat}(h:bZ F w F' w')(hB:B<=w.heap.size)(hF:∀b,F b->B<=b):Below B w w'/\∀b,F' b->B<=b:=
 ⟨h.apart.below hB hF,fun b hb=>(h.foot b hb).elim (hF b) (fun hs=>by omega)⟩
theorem bZ.bel{F F':Nat->Prop}{a w w':World}{B:Nat}(h0:Below B a w)(hB:B<=a.heap.size)(hF:∀b,F b->B<=b)(h:bZ F w F' w'):Below B a w'/\∀b,F' b->B<=b:=
 have hx:=h.below (Nat.le_trans hB h0.size) hF;⟨h0.trans hx.1,hx.2⟩
section
variable{w w':World}{g:Nat}{cs:List aB}{uB:Option Addr}{cE:Nat}{uy:Option Addr}{cW:Nat}{ps:Nat->o6}{ss:Nat->bP}{F:Nat->Prop}
theorem jC.lt(h:jC w g cs uB cE uy cW ps ss){b:Nat}(hb:og cs.length g uB uy ps b):b<w.heap.size:=by
 rcases hb with hb|⟨k,hk,hb⟩
 ·exact h.fl b hb
 ·exact(h.way k hk).lt hb
theorem JB{w w':World}{p:Addr}(h:w'.heap[p.block]? =w.heap[p.block]?):w'.cell? p=w.cell? p:=World.cell?_of_block h
theorem jC.keep(h:jC w g cs uB cE uy cW ps ss)(hs:w.heap.size<=w'.heap.size)(hk:∀b,og cs.length g uB uy ps b->w'.heap[b]? =w.heap[b]?):jC w' g cs uB cE uy cW ps ss:=by
 have h0:∀b,qA g uB uy b->w'.heap[b]? =w.heap[b]? :=fun b hb=>hk b (.inl hb)
 refine⟨(h0 g (.inl rfl)).trans h.blk,⟨h.ends.1,fun k x hx=>?_⟩,fun k hkn=>?_,fun k hkn=>(h.way k hkn).keep fun b hb=>hk b (.inr ⟨k,hkn,hb⟩),h.ap,h.off,fun b hb=>Nat.lt_of_lt_of_le (h.fl b hb) hs⟩
 ·obtain⟨ad,e,hb,hc⟩:=h.ends.2 k x hx;refine⟨ad,e,by omega,fun j u hu=>(JB ?_).trans (hc j u hu)⟩;rw[dw];exact h0 _ (.inr (.inl ⟨ad,e,rfl⟩))
 ·obtain⟨ad,e,hb,hc⟩:=h.ways k hkn;refine⟨ad,e,by omega,(JB ?_).trans hc⟩;rw[dw];exact h0 _ (.inr (.inr ⟨ad,e,rfl⟩))
theorem jC.step(h:jC w g cs uB cE uy cW ps ss){k:Nat}(hk:k<cs.length){p':o6}{s':bP}(ha:bD (lU (ps k)) w w')(hi:nG w' p' s')(hv:kW p' s'=kW (ps k) (ss k))(hf:∀b,lU p' b->lU (ps k) b\/w.heap.size<=b):
  jC w' g cs uB cE uy cW (kF ps k p') (kF ss k s'):=by
 have h0:∀b,qA g uB uy b->w'.heap[b]? =w.heap[b]? :=fun b hb=>ha.block b (h.fl b hb) (fun hw=>h.off k hk b hw hb)
 refine⟨(h0 g (.inl rfl)).trans h.blk,⟨h.ends.1,fun j x hx=>?_⟩,fun j hj=>?_,fun j hj=>?_,fun i j hi' hj hij b hb=>?_,fun j hj b hb=>?_,fun b hb=>Nat.lt_of_lt_of_le (h.fl b hb) ha.size⟩
 ·obtain⟨ad,e,hb,hc⟩:=h.ends.2 j x hx;refine⟨ad,e,Nat.lt_of_lt_of_le hb ha.size,fun i u hu=>(JB ?_).trans (hc i u hu)⟩;rw[dw];exact h0 _ (.inr (.inl ⟨ad,e,rfl⟩))
 ·obtain⟨ad,e,hb,hc⟩:=h.ways j hj;refine⟨ad,e,Nat.lt_of_lt_of_le hb ha.size,?_⟩;have e2:kW (kF ps k p' j) (kF ss k s' j)=kW (ps j) (ss j):=by
   by_cases hjk:j=k
   ·subst hjk;rw[dV,dV];exact hv
   ·rw[eP _ _ _ _ hjk,eP _ _ _ _ hjk]
  rw[e2];refine(JB ?_).trans hc;rw[dw];exact h0 _ (.inr (.inr ⟨ad,e,rfl⟩))
 ·by_cases hjk:j=k
  ·subst hjk;rw[dV,dV];exact hi
  ·rw[eP _ _ _ _ hjk,eP _ _ _ _ hjk];exact(h.way j hj).keep fun b hb=>ha.block b ((h.way j hj).lt hb) (h.ap j k hj hk hjk b hb)
 ·by_cases hik:i=k
  ·subst hik;rw[dV]at hb;rw[eP _ _ _ _ (fun e=>hij e.symm)];intro hb2;rcases hf b hb with h1|h1
   ·exact h.ap i j hi' hj hij b h1 hb2
   ·have:=(h.way j hj).lt hb2;omega
  ·rw[eP _ _ _ _ hik]at hb;by_cases hjk:j=k
   ·subst hjk;rw[dV];intro hb2;rcases hf b hb2 with h1|h1
    ·exact h.ap i j hi' hj hij b hb h1
    ·have:=(h.way i hi').lt hb;omega
   ·rw[eP _ _ _ _ hjk];exact h.ap i j hi' hj hij b hb
 ·by_cases hjk:j=k
  ·subst hjk;rw[dV]at hb;intro hb0;rcases hf b hb with h1|h1
   ·exact h.off j hj b h1 hb0
   ·have:=h.fl b hb0;omega
  ·rw[eP _ _ _ _ hjk]at hb;exact h.off j hj b hb
theorem jC.goes(h:jC w g cs uB cE uy cW ps ss){k:Nat}(hk:k<cs.length){p':o6}(ha:bD (lU (ps k)) w w')(hf:∀b,lU p' b->lU (ps k) b\/w.heap.size<=b):
  bZ (og cs.length g uB uy ps) w (og cs.length g uB uy (kF ps k p')) w':=by
 refine⟨⟨ha.os,ha.tape,ha.output,ha.size,fun b hb hF=>ha.block b hb (fun hw=>hF (.inr ⟨k,hk,hw⟩))⟩,fun b hb=>?_⟩;rcases hb with hb|⟨j,hj,hb⟩
 ·exact .inl (.inl hb)
 ·by_cases hjk:j=k
  ·subst hjk;rw[dV]at hb;exact(hf b hb).imp_left fun h1=>.inr ⟨j,hj,h1⟩
  ·rw[eP _ _ _ _ hjk]at hb;exact .inl (.inr ⟨j,hj,hb⟩)
theorem eG.lt(h:eG w F g cs ss){b:Nat}(hb:F b):b<w.heap.size:=by
 obtain⟨uB,cE,uy,cW,ps,h1,h2⟩:=h;exact h1.lt ((h2 b).1 hb)
theorem eG.keep(h:eG w F g cs ss)(hs:w.heap.size<=w'.heap.size)(hk:∀b,F b->w'.heap[b]? =w.heap[b]?):eG w' F g cs ss:=by
 obtain⟨uB,cE,uy,cW,ps,h1,h2⟩:=h;exact⟨uB,cE,uy,cW,ps,h1.keep hs fun b hb=>hk b ((h2 b).2 hb),h2⟩
theorem eG.belowS(h:eG w F g cs ss)(hb:Below w.heap.size w w'):eG w' F g cs ss:=h.keep hb.size fun b hf=>hb.block b (h.lt hf)
theorem eG.apart{G:Nat->Prop}(h:eG w F g cs ss)(hb:bD G w w')(hG:∀b,F b->¬G b):eG w' F g cs ss:=h.keep hb.size fun b hf=>hb.block b (h.lt hf) (hG b hf)
end
def kU(F:Nat->Prop)(w:World)(g:Nat)(cs:List aB)(e0:Ending)(ss':Nat->bP)(e:Ending)(w':World):Prop:=∃F',e=e0/\eG w' F' g cs ss'/\bZ F w F' w'
theorem kU.same{F:Nat->Prop}{w w':World}{g:Nat}{cs:List aB}{e e0:Ending}{ss:Nat->bP}(h:eG w F g cs ss)(he:e=e0)(hb:Below w.heap.size w w'):kU F w g cs e0 ss e w':=⟨F,he,h.belowS hb,bZ.of_below hb⟩
theorem aP{w:World}(n:Nat):Below w.heap.size w (w.drewN n):=⟨rfl,rfl,rfl,Nat.le_refl _,fun _ _=>rfl⟩
/-! ### Acts on the set. -/
def aIl:bP->Bool
 | .last _ _=>true
 | .row l d=>decide (l.length≠d)
def rB(v:Int):bP->bP
 | .last _ _=>.last v true
 | .row l d=>if l.length=d then .row l d else .row (l++[v]) d
def aPt:bP->Int
 | .last m _=>m
 | .row [] _=>0
 | .row (x::_) _=>x
def aPy:bP->Bool
 | .last _ is=>is
 | .row [] _=>false
 | .row (_::_) _=>true
def LG:bP->bP
 | .last m is=>.last m is
 | .row [] d=>.row [] d
 | .row (_::l) d=>.row l d
def aPW:bP->List Int
 | .last m is=>aPE m is
 | .row l _=>l
def aFF:bP->Prop
 | .last _ _=>True
 | .row l _=>l.length<=100000
theorem LH{w:World}{g:Nat}{cs:List aB}{uB:Option Addr}{cE:Nat}{uy:Option Addr}{cW:Nat}{ps:Nat->o6}{ss:Nat->bP}(h:jC w g cs uB cE uy cW ps ss){k:Nat}{x:aB}(hx:cs[k]? =some x):
  ∃ad,uB=some ad/\w.cell? (ad.add (k*3))=some (iV x.src)/\w.cell? (tZ ((ad.add (k*3)).block) ((ad.add (k*3)).off+1))=some (iV x.dst):=by
 obtain⟨ad,y,e,_,hy,h0,h1⟩:=h.ends.at_ (List.getElem?_eq_some_iff.1 hx).1;rw[hx]at hy;injection hy with hy
 subst hy;exact⟨ad,e,h0 _ rfl,h1 0 _ rfl⟩
theorem aNL{w:World}{F:Nat->Prop}{g:Nat}{cs:List aB}{ss:Nat->bP}(h:eG w F g cs ss){k:Nat}{x:aB}(hx:cs[k]? =some x)(hsm:aFF (ss k))(v:Int)(hv0:0<=v)(hv1:v<=65535):
  Calls prog 445 #[.pointer (some (tZ g 0)),iV x.src,iV (k:Int),iV v] w (kU F w g cs (.returned (.tuple #[.bool (aIl (ss k)),iV 0])) (kF ss k (rB v (ss k)))):=by
 have h0:=h;obtain⟨uB,cE,uy,cW,ps,h1,h2⟩:=h;have hk:=(List.getElem?_eq_some_iff.1 hx).1;obtain⟨aE,rfl,Gq,Dy⟩:=LH h1 hx;obtain⟨aW,rfl,_,hw⟩:=h1.ways k hk;have hi:=h1.way k hk;cases hs:ss k with
 |last m is=>
  rw[hs]at hi hw;refine(aFo g aE aW cs.length cE cW k x.src v (ps k).g m is w h1.blk hk Gq hw hi.1 hv0 hv1).mono ?_;rintro e w'⟨rfl,hl,hap⟩;have ha:bD (lU (ps k)) w w':=⟨hap.os,hap.tape,hap.output,hap.size,fun b hb hF=>hap.block b hb (fun e=>hF (.inl e))⟩;have hst:=h1.step (p':=ps k) (s':=.last v true) hk ha ⟨hl,hi.2⟩ (by rw[hs];rfl) (fun b hb=>.inl hb);have hgo:=h1.goes (p':=ps k) hk ha (fun b hb=>.inl hb);exact⟨_,rfl,⟨_,_,_,_,_,hst,fun b=>Iff.rfl⟩,⟨⟨hgo.apart.os,hgo.apart.tape,hgo.apart.output,hgo.apart.size,fun b hb hF=>hgo.apart.block b hb (fun hf=>hF ((h2 b).2 hf))⟩,fun b hb=>(hgo.foot b hb).imp_left (h2 b).2⟩⟩
 |row l d=>
  rw[hs]at hi hw hsm;by_cases Hj:l.length=d
  ·refine(aER g aE aW cs.length cE cW k x.src v (ps k).g (ps k).A (ps k).c l d w h1.blk hk Gq hw hi Hj hv0 hv1).mono ?_;rintro e w'⟨rfl,q,rfl⟩;have e1:rB v (.row l d)=.row l d:=if_pos Hj;rw[e1,<-hs,aC7];refine kU.same h0 ?_ (aP q);simp[hs,aIl,Hj]
  ·refine(aHU g aE aW cs.length cE cW k x.src v (ps k).g (ps k).A (ps k).c l d w h1.blk hk Gq hw hi Hj hsm hv0 hv1).mono ?_;rintro e w'⟨rfl,A',c',hl,hap,hfo⟩;have e1:rB v (.row l d)=.row (l++[v]) d:=if_neg Hj;rw[e1];have ha:bD (lU (ps k)) w w':=hap;have hf:∀b,lU ⟨(ps k).g,A',c'⟩ b->lU (ps k) b\/w.heap.size<=b:=fun b hb=>by
    rcases hb with hb|hb
    ·exact .inl (.inl hb)
    ·exact(hfo b hb).imp_left .inr
   have hst:=h1.step (p':=⟨(ps k).g,A',c'⟩) (s':=.row (l++[v]) d) hk ha hl (by rw[hs];rfl) hf;have hgo:=h1.goes (p':=⟨(ps k).g,A',c'⟩) hk ha hf;refine⟨_,by simp[aIl,Hj],⟨_,_,_,_,_,hst,fun b=>Iff.rfl⟩,⟨⟨hgo.apart.os,hgo.apart.tape,hgo.apart.output,hgo.apart.size,fun b hb hF=>hgo.apart.block b hb (fun hf=>hF ((h2 b).2 hf))⟩,fun b hb=>(hgo.foot b hb).imp_left (h2 b).2⟩⟩
theorem aOk{w:World}{F:Nat->Prop}{g:Nat}{cs:List aB}{ss:Nat->bP}(h:eG w F g cs ss){k:Nat}{x:aB}(hx:cs[k]? =some x):
  Calls prog 443 #[.pointer (some (tZ g 0)),iV x.dst,iV (k:Int)] w (kU F w g cs (.returned (.tuple #[iV (aPt (ss k)),.bool (aPy (ss k)),iV 0])) (kF ss k (LG (ss k)))):=by
 have h0:=h;obtain⟨uB,cE,uy,cW,ps,h1,h2⟩:=h;have hk:=(List.getElem?_eq_some_iff.1 hx).1;obtain⟨aE,rfl,Gq,Dy⟩:=LH h1 hx;obtain⟨aW,rfl,_,hw⟩:=h1.ways k hk;have hi:=h1.way k hk;cases hs:ss k with
 |last m is=>
  rw[hs]at hi hw;refine(aFy g aE aW cs.length cE cW k x.dst (ps k).g m is w h1.blk hk Dy hw hi.1).mono ?_;rintro e w'⟨rfl,q,rfl⟩;have e1:LG (.last m is)=ss k:=hs.symm;rw[e1,aC7];exact kU.same h0 rfl (aP q)
 |row l d=>
  rw[hs]at hi hw;cases l with
  |nil=>
   refine(aKx g aE aW cs.length cE cW k x.dst (ps k).g (ps k).A (ps k).c d w h1.blk hk Dy hw hi).mono ?_;rintro e w'⟨rfl,rfl⟩;have e1:LG (.row [] d)=ss k:=hs.symm;rw[e1,aC7];exact kU.same h0 rfl (Below.refl _ _)
  |cons y l=>
   refine(aHh g aE aW cs.length cE cW k x.dst (ps k).g (ps k).A (ps k).c y l d w h1.blk hk Dy hw hi).mono ?_;rintro e w'⟨rfl,hl,hap⟩;have ha:bD (lU (ps k)) w w':=hap;have hst:=h1.step (p':=ps k) (s':=.row l d) hk ha hl (by rw[hs];rfl) (fun b hb=>.inl hb);have hgo:=h1.goes (p':=ps k) hk ha (fun b hb=>.inl hb);exact⟨_,rfl,⟨_,_,_,_,_,hst,fun b=>Iff.rfl⟩,⟨⟨hgo.apart.os,hgo.apart.tape,hgo.apart.output,hgo.apart.size,fun b hb hF=>hgo.apart.block b hb (fun hf=>hF ((h2 b).2 hf))⟩,fun b hb=>(hgo.foot b hb).imp_left (h2 b).2⟩⟩
theorem aC9{w:World}{F:Nat->Prop}{g:Nat}{cs:List aB}{ss:Nat->bP}(h:eG w F g cs ss)(p k v:Int)(hk:¬(0<=k/\k<cs.length)\/∃x,cs[k.toNat]? =some x/\0<=k/\x.src≠p):
  Calls prog 445 #[.pointer (some (tZ g 0)),iV p,iV k,iV v] w fun e w'=>e=.returned (.tuple #[.bool false,iV 15])/\w'=w:=by
 obtain⟨uB,cE,uy,cW,ps,h1,h2⟩:=h;rcases hk with hk|⟨x,hx,h0,hp⟩
 ·exact aKK g uB uy cs.length cE cW p k v w h1.blk hk
 ·obtain⟨j,rfl⟩:∃j:Nat,k=(j:Int):=⟨k.toNat,by omega⟩;rw[Int.toNat_natCast]at hx;have hk:=(List.getElem?_eq_some_iff.1 hx).1;obtain⟨aE,rfl,Gq,Dy⟩:=LH h1 hx;obtain⟨aW,rfl,_,hw⟩:=h1.ways j hk;exact aMD g aE aW cs.length cE cW j x.src p v w h1.blk hk Gq hp
theorem aCz{w:World}{F:Nat->Prop}{g:Nat}{cs:List aB}{ss:Nat->bP}(h:eG w F g cs ss)(p k:Int)(hk:¬(0<=k/\k<cs.length)\/∃x,cs[k.toNat]? =some x/\0<=k/\x.dst≠p):
  Calls prog 443 #[.pointer (some (tZ g 0)),iV p,iV k] w fun e w'=>e=.returned (.tuple #[iV 0,.bool false,iV 15])/\w'=w:=by
 obtain⟨uB,cE,uy,cW,ps,h1,h2⟩:=h;rcases hk with hk|⟨x,hx,h0,hp⟩
 ·exact aNp g uB uy cs.length cE cW p k w h1.blk hk
 ·obtain⟨j,rfl⟩:∃j:Nat,k=(j:Int):=⟨k.toNat,by omega⟩;rw[Int.toNat_natCast]at hx;have hk:=(List.getElem?_eq_some_iff.1 hx).1;obtain⟨aE,rfl,Gq,Dy⟩:=LH h1 hx;obtain⟨aW,rfl,_,hw⟩:=h1.ways j hk;exact aNN g aE aW cs.length cE cW j x.dst p w h1.blk hk Dy hp
theorem aJV{w:World}{F:Nat->Prop}{g:Nat}{cs:List aB}{ss:Nat->bP}(h:eG w F g cs ss){k:Nat}{x:aB}(hx:cs[k]? =some x)(v:Int)(hv:v<0\/65535<v):
  Calls prog 445 #[.pointer (some (tZ g 0)),iV x.src,iV (k:Int),iV v] w fun e w'=>e=.returned (.tuple #[.bool false,iV 3])/\w'=w:=by
 obtain⟨uB,cE,uy,cW,ps,h1,h2⟩:=h;have hk:=(List.getElem?_eq_some_iff.1 hx).1;obtain⟨aE,rfl,Gq,Dy⟩:=LH h1 hx;obtain⟨aW,rfl,_,hw⟩:=h1.ways k hk;exact aHO g aE aW cs.length cE cW k x.src v w h1.blk hk Gq hv
structure ay where
 p:World->(Nat->Prop)->Prop
 keep:∀{w w':World}{F:Nat->Prop},p w F->w.heap.size<=w'.heap.size->(∀b,F b->w'.heap[b]? =w.heap[b]?)->p w' F
 lt:∀{w:World}{F:Nat->Prop}{b:Nat},p w F->F b->b<w.heap.size
def dX:List ay->World->(Nat->Prop)->Prop
 |[],_,F=>∀b,¬F b
 |C::l,w,F=>∃F1 F2,C.p w F1/\dX l w F2/\(∀b,F1 b->¬F2 b)/\∀b,F b↔F1 b\/F2 b
section
variable{w w' w0:World}{F F' G:Nat->Prop}{C:ay}{l l' l1 l2:List ay}
theorem dX.Dz(h:dX l w F)(hF:∀b,G b↔F b):dX l w G:=by
 cases l with
 |nil=>exact fun b hb=>h b ((hF b).1 hb)
 |cons C l=>
  obtain⟨F1,F2,h1,h2,h3,h4⟩:=h;exact⟨F1,F2,h1,h2,h3,fun b=>(hF b).trans (h4 b)⟩
theorem dX.lt:∀{l:List ay}{F:Nat->Prop}(_:dX l w F){b:Nat}(_:F b),b<w.heap.size
 |[],_,h,b,hb=>absurd hb (h b)
 |C::l,_,⟨F1,F2,h1,h2,_,h4⟩,b,hb=>((h4 b).1 hb).elim (fun h9=>C.lt h1 h9) (fun h9=>dX.lt h2 h9)
theorem dX.keep:∀{l:List ay}{F:Nat->Prop}(_:dX l w F)(_:w.heap.size<=w'.heap.size)(_:∀b,F b->w'.heap[b]? =w.heap[b]?),dX l w' F
 |[],_,h,_,_=>h
 |C::l,_,⟨F1,F2,h1,h2,h3,h4⟩,hs,hk=>⟨F1,F2,C.keep h1 hs fun b hb=>hk b ((h4 b).2 (.inl hb)),dX.keep h2 hs fun b hb=>hk b ((h4 b).2 (.inr hb)),h3,h4⟩
theorem dX.belowS(h:dX l w F)(hb:Below w.heap.size w w'):dX l w' F:=h.keep hb.size fun b hf=>hb.block b (h.lt hf)
theorem dX.perm(hp:l.Perm l'):∀{F:Nat->Prop},dX l w F->dX l' w F:=by
 induction hp with
 |nil=>exact fun h=>h
 |cons C _ ih=>
  rintro F⟨F1,F2,h1,h2,h3,h4⟩;exact⟨F1,F2,h1,ih h2,h3,h4⟩
 |swap C D l=>
  rintro F⟨F1,F2,h1,⟨F3,F4,h5,h6,h7,h8⟩,h3,h4⟩;refine⟨F3,fun b=>F1 b\/F4 b,h5,⟨F1,F4,h1,h6,fun b hb hc=>h3 b hb ((h8 b).2 (.inr hc)),fun b=>Iff.rfl⟩,fun b hb hc=>?_,fun b=>?_⟩
  ·rcases hc with hc|hc
   ·exact h3 b hc ((h8 b).2 (.inl hb))
   ·exact h7 b hb hc
  ·rw[h4,h8];exact⟨fun h=>h.elim (fun h=>.inr (.inl h)) (fun h=>h.elim .inl (fun h=>.inr (.inr h))),fun h=>h.elim (fun h=>.inr (.inl h)) (fun h=>h.elim .inl (fun h=>.inr (.inr h)))⟩
 |trans _ _ ih1 ih2=>exact fun h=>ih2 (ih1 h)
theorem dX.step:∀{l1:List ay}{F:Nat->Prop}(_:dX (l1++l2) w F),∃F1 F2,dX l1 w F1/\dX l2 w F2/\(∀b,F1 b->¬F2 b)/\∀b,F b↔F1 b\/F2 b
 |[],F,h=>⟨fun _=>False,F,fun _ h=>h,h,fun _ h=>h.elim,fun b=>⟨.inr,fun h=>h.elim (fun h=>h.elim) id⟩⟩
 |C::l1,F,⟨F1,F2,h1,h2,h3,h4⟩=>by
  obtain⟨G1,G2,g1,g2,g3,g4⟩:=dX.step h2;refine⟨fun b=>F1 b\/G1 b,G2,⟨F1,G1,h1,g1,fun b hb hc=>h3 b hb ((g4 b).2 (.inl hc)),fun b=>Iff.rfl⟩,g2,fun b hb hc=>?_,fun b=>?_⟩
  ·rcases hb with hb|hb
   ·exact h3 b hb ((g4 b).2 (.inr hc))
   ·exact g3 b hb hc
  ·rw[h4,g4];exact⟨fun h=>h.elim (fun h=>.inl (.inl h)) (fun h=>h.elim (fun h=>.inl (.inr h)) .inr),fun h=>h.elim (fun h=>h.elim .inl (fun h=>.inr (.inl h))) (fun h=>.inr (.inr h))⟩
theorem dX.app:∀{l1:List ay}{F1 F2:Nat->Prop}(_:dX l1 w F1)(_:dX l2 w F2)(_:∀b,F1 b->¬F2 b),dX (l1++l2) w (fun b=>F1 b\/F2 b)
 |[],F1,F2,h1,h2,_=>h2.Dz fun b=>⟨fun h=>h.elim (fun h=>absurd h (h1 b)) id,.inr⟩
 |C::l1,F1,F2,⟨G1,G2,g1,g2,g3,g4⟩,h2,hd=>
  ⟨G1,fun b=>G2 b\/F2 b,g1,dX.app g2 h2 fun b hb=>hd b ((g4 b).2 (.inr hb)),fun b hb hc=>hc.elim (g3 b hb) (hd b ((g4 b).2 (.inl hb))),fun b=>by
   show F1 b\/F2 b↔G1 b\/(G2 b\/F2 b)
   rw[g4];exact⟨fun h=>h.elim (fun h=>h.elim .inl (fun h=>.inr (.inl h))) (fun h=>.inr (.inr h)),fun h=>h.elim (fun h=>.inl (.inl h)) (fun h=>h.elim (fun h=>.inl (.inr h)) .inr)⟩⟩
theorem dX.one{F1:Nat->Prop}(h:C.p w F1):dX [C] w F1:=⟨F1,fun _=>False,h,fun _ h=>h,fun _ _ h=>h,fun b=>⟨.inl,fun h=>h.elim id (fun h=>h.elim)⟩⟩
theorem dX.two{C D:ay}{F1 F2:Nat->Prop}(h:C.p w F1)(h2:D.p w F2)(hd:∀b,F1 b->¬F2 b):dX [C,D] w (fun b=>F1 b\/F2 b):=⟨F1,F2,h,dX.one h2,hd,fun _=>Iff.rfl⟩
theorem dX.one'(h:dX [C] w F):∃F1,C.p w F1/\∀b,F b↔F1 b:=by
 obtain⟨F1,F2,h1,h2,_,h4⟩:=h;exact⟨F1,h1,fun b=>(h4 b).trans ⟨fun h=>h.elim id (fun h=>absurd h (h2 b)),.inl⟩⟩
theorem dX.two'{C D:ay}(h:dX [C,D] w F):∃F1 F2,C.p w F1/\D.p w F2/\(∀b,F1 b->¬F2 b)/\∀b,F b↔F1 b\/F2 b:=by
 obtain⟨F1,F2,h1,h2,h3,h4⟩:=h;obtain⟨F3,h5,h6⟩:=h2.one';exact⟨F1,F3,h1,h5,fun b hb hc=>h3 b hb ((h6 b).2 hc),fun b=>(h4 b).trans (by rw[h6])⟩
def ae(w0:World)(l:List ay)(w:World):Prop:=∃F,dX l w F/\(∀b,F b->w0.heap.size<=b)/\Below w0.heap.size w0 w
theorem ae.bel(h:ae w0 l w):Below w0.heap.size w0 w:=by obtain⟨F,_,_,h⟩:=h;exact h
theorem ae.nil(hb:Below w0.heap.size w0 w):ae w0 [] w:=⟨fun _=>False,fun _ h=>h,fun _ h=>h.elim,hb⟩
theorem ae.belowS(h:ae w0 l w)(hb:Below w.heap.size w w'):ae w0 l w':=by
 obtain⟨F,h1,h2,h3⟩:=h;exact⟨F,h1.belowS hb,h2,ag h3 hb⟩
theorem ae.perm(h:ae w0 l w)(hp:l.Perm l'):ae w0 l' w:=by
 obtain⟨F,h1,h2⟩:=h;exact⟨F,h1.perm hp,h2⟩
theorem ae.push{F1:Nat->Prop}(h:ae w0 l w)(hb:Below w.heap.size w w')(hC:C.p w' F1)(hF:∀b,F1 b->w.heap.size<=b):ae w0 (C::l) w':=by
 obtain⟨F,h1,h2,h3⟩:=h;have hs:=h3.size;exact⟨fun b=>F1 b\/F b,⟨F1,F,hC,h1.belowS hb,fun b hb hc=>by have:=hF b hb;have:=h1.lt hc;omega,fun _=>Iff.rfl⟩,fun b hb=>hb.elim (fun h=>Nat.le_trans hs (hF b h)) (h2 b),ag h3 hb⟩
theorem ae.drop(h:ae w0 (C::l) w):ae w0 l w:=by
 obtain⟨F,⟨F1,F2,h1,h2,h3,h4⟩,h5,h6⟩:=h;exact⟨F2,h2,fun b hb=>h5 b ((h4 b).2 (.inr hb)),h6⟩
theorem ae.get(h:ae w0 (C::l) w):∃F1,C.p w F1/\∀b,F1 b->w0.heap.size<=b:=by
 obtain⟨F,⟨F1,F2,h1,h2,h3,h4⟩,h5,h6⟩:=h;exact⟨F1,h1,fun b hb=>h5 b ((h4 b).2 (.inl hb))⟩
theorem dX.sub(hs:l'.Sublist l):∀{F:Nat->Prop},dX l w F->∃F',dX l' w F'/\∀b,F' b->F b:=by
 induction hs with
 |slnil=>exact fun h=>⟨_,h,fun _ h=>h⟩
 |cons C _ ih=>
  rintro F⟨F1,F2,h1,h2,h3,h4⟩;obtain⟨F',h5,h6⟩:=ih h2;exact⟨F',h5,fun b hb=>(h4 b).2 (.inr (h6 b hb))⟩
 |cons_cons C _ ih=>
  rintro F⟨F1,F2,h1,h2,h3,h4⟩;obtain⟨F',h5,h6⟩:=ih h2;exact⟨fun b=>F1 b\/F' b,⟨F1,F',h1,h5,fun b hb hc=>h3 b hb (h6 b hc),fun _=>Iff.rfl⟩,fun b hb=>(h4 b).2 (hb.imp_right (h6 b))⟩
theorem ae.sub(h:ae w0 l w)(hs:l'.Sublist l):ae w0 l' w:=by
 obtain⟨F,h1,h2,h3⟩:=h;obtain⟨F',h4,h5⟩:=h1.sub hs;exact⟨F',h4,fun b hb=>h2 b (h5 b hb),h3⟩
theorem ae.step(h:ae w0 (l1++l2) w):∃F1,dX l1 w F1/\∀w' l1' BW,dX l1' w' BW->bZ F1 w BW w'->ae w0 (l1'++l2) w':=by
 obtain⟨F,h1,h2,h3⟩:=h;obtain⟨F1,F2,g1,g2,g3,g4⟩:=h1.step;refine⟨F1,g1,fun w' l1' BW h' hG=>⟨_,dX.app h' (g2.keep hG.apart.size fun b hb=>hG.apart.block b (g2.lt hb) fun h9=>g3 b h9 hb) fun b hb hc=>?_,fun b hb=>?_,?_⟩⟩
 ·rcases hG.foot b hb with h9|h9
  ·exact g3 b h9 hc
  ·have:=g2.lt hc;omega
 ·rcases hb with hb|hb
  ·rcases hG.foot b hb with h9|h9
   ·exact h2 b ((g4 b).2 (.inl h9))
   ·exact Nat.le_trans h3.size h9
  ·exact h2 b ((g4 b).2 (.inr hb))
 ·exact⟨hG.apart.os.trans h3.os,hG.apart.tape.trans h3.tape,hG.apart.output.trans h3.output,Nat.le_trans h3.size hG.apart.size,fun b hb=>(hG.apart.block b (Nat.lt_of_lt_of_le hb h3.size) fun h9=>by have:=h2 b ((g4 b).2 (.inl h9));omega).trans (h3.block b hb)⟩
theorem ae.step1(h:ae w0 (C::l) w):∃F1,C.p w F1/\∀w' (C':ay) BW,C'.p w' BW->bZ F1 w BW w'->ae w0 (C'::l) w':=by
 obtain⟨F,h1,h2⟩:=ae.step (l1:=[C]) (l2:=l) h;obtain⟨F1,h3,h4⟩:=h1.one';refine⟨F1,h3,fun w' C' BW h5 hG=>h2 w' [C'] BW (dX.one h5) ⟨⟨hG.apart.os,hG.apart.tape,hG.apart.output,hG.apart.size,fun b hb hf=>hG.apart.block b hb fun h9=>hf ((h4 b).2 h9)⟩,fun b hb=>(hG.foot b hb).imp_left (h4 b).2⟩⟩
theorem ae.step2{C D:ay}(h:ae w0 (C::D::l) w):∃F1 F2,C.p w F1/\D.p w F2/\(∀b,F1 b->¬F2 b)/\∀w' l' F',dX l' w' F'->bZ (fun b=>F1 b\/F2 b) w F' w'->ae w0 (l'++l) w':=by
 obtain⟨F,h1,h2⟩:=ae.step (l1:=[C,D]) (l2:=l) h;obtain⟨F1,F2,h3,h4,h5,h6⟩:=h1.two';refine⟨F1,F2,h3,h4,h5,fun w' l' F' h7 hG=>h2 w' l' F' h7 ⟨⟨hG.apart.os,hG.apart.tape,hG.apart.output,hG.apart.size,fun b hb hf=>hG.apart.block b hb fun h9=>hf ((h6 b).2 h9)⟩,fun b hb=>(hG.foot b hb).imp_left (h6 b).2⟩⟩
end
def aj(b:Nat)(T:TypeId)(cs:List Value):ay:=⟨fun w F=>ak w b T cs/\∀x,F x↔x=b,fun h _ hk=>⟨(hk b ((h.2 b).2 rfl)).trans h.1,h.2⟩,fun h hb=>by rw[(h.2 _).1 hb];exact h.1.lt⟩
def qZ(d:Int):bP:=if 0<d then .row [] d.toNat else .last 0 false
def ju(cs:List aB)(j:Nat):Int:=(cs.getD j ⟨0,0,0⟩).depth
def gJ(cs:List aB)(j:Nat):bP:=qZ (ju cs j)
theorem aAO{cs:List aB}{j:Nat}{x:aB}(h:cs[j]? =some x):ju cs j=x.depth:=by unfold ju;rw[List.getD_eq_getElem?_getD,h];rfl
def P0(gs:Nat->Nat)(j:Nat):o6:=⟨gs j,none,0⟩
structure kT (w:World) (g B:Nat) (cs:List aB) (k:Nat) (uB:Option Addr) (cE:Nat) (uy:Option Addr) (cW:Nat) (gs:Nat->Nat):Prop where
 blk:ak w g 236 [.slice uB cs.length cE,.slice uy k cW]
 ends:lh w w.heap.size 3 uB cs.length fQ cs
 row:jb w 233 uy k cW ((List.range k).map fun j=>kW (P0 gs j) (gJ cs j))
 ways:∀j,j<k->nG w (P0 gs j) (gJ cs j)
 ap:∀i j,i<k->j<k->i≠j->gs i≠gs j
 off:∀j,j<k->¬qA g uB uy (gs j)
 lo:(∀j,j<k->B<=gs j)/\∀b,qA g uB uy b->B<=b
 fl:∀b,qA g uB uy b->b<w.heap.size
 ne1:¬bH uB g
 ne2:¬bH uy g
 ne3:∀b,bH uB b->¬bH uy b
theorem aCv(gs:Nat->Nat)(j b:Nat):lU (P0 gs j) b↔b=gs j:=by
 constructor
 ·rintro(h|⟨a,h,_⟩)
  ·exact h
  ·cases h
 ·exact .inl
section
variable{w w':World}{g B:Nat}{cs:List aB}{k:Nat}{uB:Option Addr}{cE:Nat}{uy:Option Addr}{cW:Nat}{gs:Nat->Nat}
theorem kT.step(h:kT w g B cs k uB cE uy cW gs)(hB:B<=w.heap.size){A':Option Addr}{c' gk:Nat}(ha:bD (fun b=>b=g\/bH uy b) w w')
(hblk:ak w' g 236 [.slice uB cs.length cE,.slice A' (k+1) c'])
(hrow:jb w' 233 A' (k+1) c' (((List.range k).map fun j=>kW (P0 gs j) (gJ cs j))++[kW ⟨gk,none,0⟩ (gJ cs k)]))
(hA:∀b,bH A' b->bH uy b\/(w.heap.size<=b/\b≠gk))(hw:nG w' ⟨gk,none,0⟩ (gJ cs k))(hk:w.heap.size<=gk)(hg:g<w.heap.size):
  kT w' g B cs (k+1) uB cE A' c' (kF gs k gk):=by
 have hE:∀b,bH uB b->b<w.heap.size:=fun b hb=>h.fl b (.inr (.inl hb))
 have hEo:∀b,bH uB b->¬(b=g\/bH uy b):=fun b hb Et=>by
  rcases Et with rfl|h1
  ·exact h.ne1 hb
  ·exact h.ne3 b hb h1
 have hEA:∀b,bH uB b->¬bH A' b:=fun b hb hb2=>by
  rcases hA b hb2 with h1|⟨h1,_⟩
  ·exact h.ne3 b hb h1
  ·have:=hE b hb;omega
 have hlt:∀j,j<k->gs j<w.heap.size:=fun j hj=>(h.ways j hj).lt (.inl rfl)
 have hold:∀j,j<k->kF gs k gk j=gs j:=fun j hj=>eP _ _ _ _ (by omega)
 refine⟨hblk,⟨h.ends.1,fun j x hx=>?_⟩,?_,fun j hj=>?_,fun i j hi hj hij=>?_,fun j hj=>?_,⟨fun j hj=>?_,fun b hb=>?_⟩,fun b hb=>?_,h.ne1,fun hf=>?_,hEA⟩
 ·obtain⟨ad,e,hb,hc⟩:=h.ends.2 j x hx;refine⟨ad,e,Nat.lt_of_lt_of_le hb ha.size,fun i u hu=>(JB ?_).trans (hc i u hu)⟩;rw[dw];exact ha.block _ hb (hEo _ ⟨ad,e,rfl⟩)
 ·have e:((List.range (k+1)).map fun j=>kW (P0 (kF gs k gk) j) (gJ cs j))=((List.range k).map fun j=>kW (P0 gs j) (gJ cs j))++[kW ⟨gk,none,0⟩ (gJ cs k)]:=by
   rw[List.range_succ,List.map_append];congr 1
   ·apply List.map_congr_left
    intro j hj;unfold P0;rw[hold j (List.mem_range.1 hj)]
   ·simp[P0,dV]
  rw[e];exact hrow
 ·by_cases hjk:j=k
  ·subst hjk;unfold P0;rw[dV];exact hw
  ·have D7:j<k:=by omega
   unfold P0;rw[hold j D7];refine(h.ways j D7).keep fun b hb=>ha.block b ((h.ways j D7).lt hb) fun Et=>?_
   rw[(aCv gs j b).1 hb]at Et;exact h.off j D7 (Et.elim .inl fun h1=>.inr (.inr h1))
 ·by_cases hik:i=k
  ·subst hik;rw[dV,hold j (by omega)];have:=hlt j (by omega);omega
  ·rw[hold i (by omega)];by_cases hjk:j=k
   ·subst hjk;rw[dV];have:=hlt i (by omega);omega
   ·rw[hold j (by omega)];exact h.ap i j (by omega) (by omega) hij
 ·by_cases hjk:j=k
  ·subst hjk;rw[dV];rintro(h1|h1|h1)
   ·omega
   ·have:=hE _ h1;omega
   ·rcases hA _ h1 with h2|⟨_,h2⟩
    ·have:=h.fl _ (.inr (.inr h2));omega
    ·exact h2 rfl
  ·rw[hold j (by omega)];have D7:j<k:=by omega
   rintro(h1|h1|h1)
   ·exact h.off j D7 (.inl h1)
   ·exact h.off j D7 (.inr (.inl h1))
   ·rcases hA _ h1 with h2|⟨h2,_⟩
    ·exact h.off j D7 (.inr (.inr h2))
    ·have:=hlt j D7;omega
 ·by_cases hjk:j=k
  ·subst hjk;rw[dV];omega
  ·rw[hold j (by omega)];exact h.lo.1 j (by omega)
 ·rcases hb with hb|hb|hb
  ·exact h.lo.2 b (.inl hb)
  ·exact h.lo.2 b (.inr (.inl hb))
  ·rcases hA b hb with h2|⟨h2,_⟩
   ·exact h.lo.2 b (.inr (.inr h2))
   ·omega
 ·rcases hb with hb|hb|hb
  ·subst hb;exact hblk.lt
  ·exact Nat.lt_of_lt_of_le (hE b hb) ha.size
  ·exact hrow.lt hb
 ·rcases hA g hf with h1|⟨h1,_⟩
  ·exact h.ne2 h1
  ·omega
theorem kT.done(h:kT w g B cs cs.length uB cE uy cW gs):∃F,eG w F g cs (gJ cs)/\∀b,F b->B<=b:=by
 refine⟨og cs.length g uB uy (P0 gs),⟨uB,cE,uy,cW,P0 gs,⟨h.blk,h.ends,fun k hk=>?_,h.ways,fun i j hi hj hij b h1 h2=>?_,fun k hk b hb hb0=>?_,h.fl⟩,fun b=>Iff.rfl⟩,fun b hb=>?_⟩
 ·obtain⟨ad,e,hb,hc⟩:=h.row.reads.2 (by omega);refine⟨ad,e,hb,hc k _ ?_⟩;rw[List.getElem?_map,List.getElem?_range hk];rfl
 ·rw[aCv]at h1 h2;exact h.ap i j hi hj hij (h1.symm.trans h2)
 ·rw[aCv]at hb;subst hb;exact h.off k hk hb0
 ·rcases hb with hb|⟨k,hk,hb⟩
  ·exact h.lo.2 b hb
  ·rw[aCv]at hb;subst hb;exact h.lo.1 k hk
end
theorem aLt:(prog.info? 233).map (fun i=>(i.zero,i.size,i.bytes))=some (some .nilIface,1,16):=by kernel_rfl
theorem aBI{d:Int}(h:0<d):qZ d=.row [] d.toNat:=if_pos h
theorem aC1{d:Int}(h:¬0<d):qZ d=.last 0 false:=if_neg h
theorem kT.start{w3:World}{n:Nat}{cs:List aB}{AE:Option Addr}{cE B:Nat}(hown:w3.ownsRow B 75 3 (.slice AE n cE) n (cs.flatMap fQ))(hn:cs.length=n)(hB:B<=w3.heap.size):
  kT (w3.alloc (.cells #[.slice AE n cE,.slice none 0 0] 236)) w3.heap.size B cs 0 AE cE none 0 (fun _=>0):=by
 subst hn;have hlt:∀b,bH AE b->B<=b/\b<w3.heap.size:=fun b hb=>by
  obtain⟨a,rfl,rfl⟩:=hb;exact hown.lt _ rfl
 have hno:∀b,¬bH none b:=fun b hb=>by obtain⟨a,ha,_⟩:=hb;cases ha
 have hb1:Below w3.heap.size w3 (w3.alloc (.cells #[.slice AE cs.length cE,.slice none 0 0] 236)):=(Below.refl _ _).alloc (Nat.le_refl _) _;refine⟨ak.new _ _ _,((ai.uA hown).Es (fun _=>rfl)).belowS hb1,jb.nil _ _,fun j hj=>by omega,fun i j hi=>by omega,fun j hj=>by omega,⟨fun j hj=>by omega,fun b hb=>?_⟩,fun b hb=>?_,fun h=>?_,hno _,fun b _=>hno b⟩
 ·rcases hb with rfl|hb|hb
  ·exact hB
  ·exact(hlt b hb).1
  ·exact absurd hb (hno b)
 ·rcases hb with rfl|hb|hb
  ·simp
  ·have:=(hlt b hb).2;simp;omega
  ·exact absurd hb (hno b)
 ·have:=(hlt _ h).2;omega
section
variable{wr w4 w5:World}{g B:Nat}{cs:List aB}{k:Nat}{AE:Option Addr}{cE:Nat}{uy:Option Addr}{cW:Nat}{gs:Nat->Nat}
theorem kT.own(hN:kT wr g B cs k AE cE uy cW gs):some g≠(Value.slice uy k cW).ownBlock:=by
 cases uy with
 |none=>simp[Value.ownBlock]
 |some a=>
  intro e;injection e with e
  exact hN.ne2 ⟨a,rfl,e.symm⟩
theorem kT.pre(hN:kT wr g B cs k AE cE uy cW gs)(hb:Below wr.heap.size wr w4)(hg:w4.grownBy w5 (Value.slice uy k cW).ownBlock):ak w5 g 236 [.slice AE cs.length cE,.slice uy k cW]:=
 (hg.block g (Nat.lt_of_lt_of_le hN.blk.lt hb.size) hN.own).trans ((hb.block g hN.blk.lt).trans hN.blk)
theorem kT.post(hN:kT wr g B cs k AE cE uy cW gs)(hB:B<=wr.heap.size)(hb:Below wr.heap.size wr w4){gk:Nat}(hgk:wr.heap.size<=gk)(hgl:gk<w4.heap.size)(hw:nG w4 ⟨gk,none,0⟩ (gJ cs k)){A':Option Addr}{c':Nat}{v:Value}
(hg:w4.grownBy w5 (Value.slice uy k cW).ownBlock)(hrow:jb w5 233 A' (k+1) c' (((List.range k).map fun j=>kW (P0 gs j) (gJ cs j))++[v]))(hv:v=kW ⟨gk,none,0⟩ (gJ cs k))(hA:A'=uy\/A'=some (tZ w4.heap.size 0)):
  kT (w5.setCell (tZ g 1) (.slice A' (k+1) c')) g B cs (k+1) AE cE A' c' (kF gs k gk)/\Below B wr (w5.setCell (tZ g 1) (.slice A' (k+1) c')):=by
 subst hv;have hWl:∀b,bH uy b->b<wr.heap.size:=fun b hb=>hN.fl b (.inr (.inr hb))
 have BC:∀b,bH A' b->bH uy b\/(wr.heap.size<=b/\b≠gk):=by
  intro b hb1;rcases hA with e|e
  ·rw[e]at hb1;exact .inl hb1
  ·rw[e]at hb1;obtain⟨a,ha,rfl⟩:=hb1;injection ha with ha
   subst ha;right;have:=hb.size;simp only;omega
 have hgA:¬bH A' g:=fun hf=>by
  rcases BC g hf with h|⟨h,_⟩
  ·exact hN.ne2 h
  ·have:=hN.blk.lt;omega
 have zy:bD (fun b=>b=g\/bH uy b) wr w5:=(bD.of_below hb).grown hg (fun j hj=>by
  cases uy with
  |none=>simp[Value.ownBlock]at hj
  |some a=>
   injection hj with hj
   exact .inl (.inr ⟨a,rfl,hj⟩))
 have hap:bD (fun b=>b=g\/bH uy b) wr (w5.setCell (tZ g 1) (.slice A' (k+1) c')):=zy.setCell (p:=⟨g,1,none⟩) (.inl (.inl rfl)) _;refine⟨hN.step hB hap ((hN.pre hb hg).uh 1 (.slice A' (k+1) c')) (hrow.far (p:=⟨g,1,none⟩) hgA _) BC (hw.keep fun b hb1=>?_) hgk hN.blk.lt,hap.below hB fun b hb1=>?_⟩
 ·have e:b=gk:=by
   rcases hb1 with h|⟨a,h,_⟩
   ·exact h
   ·cases h
  subst e;refine(Below.heap_setCell _ _ _ _ (fun e=>?_)).trans (hg.block b hgl fun e=>?_)
  ·have:=hN.blk.lt;simp only at e;omega
  ·cases uy with
   |none=>simp[Value.ownBlock]at e
   |some a=>
    injection e with e
    have:=hWl b ⟨a,rfl,e.symm⟩;omega
 ·rcases hb1 with rfl|hb1
  ·exact hN.lo.2 b (.inl rfl)
  ·exact hN.lo.2 b (.inr (.inr hb1))
theorem rd2(w:World)(o1 o2:Obj)(v:Value):ai (((w.alloc o1).alloc o2).alloc (.cells #[v] 233)) (w.heap.size+1+1+1) 1 (some (tZ (w.heap.size+1+1) 0)) 1 [v]:=by
 have h:=ai.new ((w.alloc o1).alloc o2) #[v] 233 1 rfl;simpa using h
theorem rd3(w:World)(o1 o2 o3:Obj)(v:Value):ai ((((w.alloc o1).alloc o2).alloc o3).alloc (.cells #[v] 233)) (w.heap.size+1+1+1+1) 1 (some (tZ (w.heap.size+1+1+1) 0)) 1 [v]:=by
 have h:=ai.new (((w.alloc o1).alloc o2).alloc o3) #[v] 233 1 rfl;simpa using h
theorem aQ0(w:World)(o1 o3:Obj)(d:Int)(h:¬0<d):nG (((w.alloc o1).alloc (.cells #[iV 0,.bool false] 304)).alloc o3) ⟨w.heap.size+1,none,0⟩ (qZ d):=by
 rw[aC1 h];have h1:=(ak.new (w.alloc o1) 304 [iV 0,.bool false]).alloc o3;exact⟨by unfold mL;simpa using h1,rfl⟩
theorem aPV(w:World)(o1 o2 o4:Obj)(d:Int)(h:0<d):nG ((((w.alloc o1).alloc o2).alloc (.cells #[.slice none 0 0,iV d] 307)).alloc o4) ⟨w.heap.size+1+1,none,0⟩ (qZ d):=by
 rw[aBI h];have h1:=(ak.new ((w.alloc o1).alloc o2) 307 [.slice none 0 0,iV d]).alloc o4;have e:((d.toNat:Nat):Int)=d:=by omega
 exact⟨by rw[e];simpa using h1,jb.nil _ _,fun h=>by obtain⟨a,ha,_⟩:=h;cases ha⟩
theorem aPj(w:World)(o1 o2 o3:Obj):Below w.heap.size w (((w.alloc o1).alloc o2).alloc o3):=(((Below.refl _ _).alloc (Nat.le_refl _) o1).alloc (by simp) o2).alloc (by simp;omega) o3
theorem aPo(w:World)(o1 o2 o3 o4:Obj):Below w.heap.size w ((((w.alloc o1).alloc o2).alloc o3).alloc o4):=(aPj w o1 o2 o3).alloc (by simp;omega) o4
end
theorem aOM(t:aG)(a:bM)(w:World)(h:dM w t a)(hR:aS t=true):
  Calls prog 125 #[.agg #[iV t.frame,.slice a.A1 t.parts.length a.c1,.slice a.A2 t.wins.length a.c2,.slice a.A3 t.chans.length a.c3,iV t.trial]] w fun e w'=>∃F g,e=.returned (.tuple #[.pointer (some (tZ g 0)),iV 0])/\eG w' F g t.chans (gJ t.chans)/\Below w.heap.size w w'/\∀b,F b->w.heap.size<=b:=by
 obtain⟨A1,k1,A2,k2,A3,k3⟩:=a;simp only;obtain⟨w1,hw1,hb1,ub,hs1⟩:=aNK t ⟨A1,k1,A2,k2,A3,k3⟩ w;simp only at hw1 ub;have i1:=hid (jq t ⟨A1,k1,A2,k2,A3,k3⟩ w1 (h.belowS hb1));rw[hR]at i1;simp only at i1;obtain⟨c0,c1,c2,c3,c4⟩:_/\_/\_/\_/\_:=⟨ub.cellAt (i:=0) rfl,ub.cellAt (i:=1) rfl,ub.cellAt (i:=2) rfl,ub.cellAt (i:=3) rfl,ub.cellAt (i:=4) rfl⟩;clear hR;have LD:=h.n3;have Gs:=hid (fun w' (hb:Below w.heap.size w w')=>(h.zn.belowS hb).2.2);clear h;obtain⟨i0,hi0,hz0,hz1,hz2⟩:=info_parts aLt;go_enter func125,ntmps125;go_wp2_with fail;clear hw1 hs1;refine i1.out.mono ?_;rintro e w2⟨rfl,hb2⟩;have uo:=ub.belowS hb2;have wB:=ag hb1 hb2;clear c0 c1 c2 c3 c4 i1 ub;obtain⟨c0,c1,c2,c3,c4⟩:_/\_/\_/\_/\_:=⟨uo.cellAt (i:=0) rfl,uo.cellAt (i:=1) rfl,uo.cellAt (i:=2) rfl,uo.cellAt (i:=3) rfl,uo.cellAt (i:=4) rfl⟩;go_wp2_with fail;refine(aI4 A3 t.chans.length k3 t.chans w2 ((Gs.out _ wB).reads (fun _=>rfl)) (by omega)).mono ?_;rintro e w3⟨AE,cE,rfl,aRr,hb3⟩;have vp:=ag wB hb3;have uO:=uo.belowS hb3;clear c0 c1 c2 c3 c4 uo;have d3:∀o,(w3.alloc o).cell? (tZ w.heap.size 3)=some (.slice A3 t.chans.length k3):=fun o=>(uO.alloc o).cellAt (i:=3) rfl
 have LI:=hid (kT.start aRr rfl hb3.size);have xU:=hid (aC vp (.cells #[.slice AE t.chans.length cE,.slice none 0 0] 236));have hsz:w.heap.size<=w2.heap.size:=wB.size;go_wp2_with fail;generalize w3.alloc (.cells #[.slice AE t.chans.length cE,.slice none 0 0] 236)=w4 at LI xU ⊢;clear d3 uO hb3 vp aRr;generalize w3.heap.size=g at LI ⊢;go_loopw [6,7,19] (fun v6 v7 v19 wr=>∃(k:Nat) (uy:Option Addr) (cW:Nat) (gs:Nat->Nat),k<=t.chans.length/\v19=iV (k:Int)/\kT wr g w2.heap.size t.chans k AE cE uy cW gs/\Below w.heap.size w wr) (fun _ _ v19 _=>t.chans.length-(intOf v19).toNat)
 case atStart=>exact⟨0,none,0,_,by omega,rfl,LI.out,xU.out⟩
 case round=>
  clear LI xU;obtain⟨k,uy,cW,gs,hk,rfl,hN,ui⟩:=hrel;by_cases hkn:k<t.chans.length
  ·obtain⟨ad,x,rfl,had,hx,hc0,hc⟩:=(Gs.out wr ui).at_ hkn;have c0:=hc0 _ rfl;have c1:=hc 0 _ rfl;have c2:=hc 1 _ rfl;clear hc hc0;obtain⟨src,dst,dep⟩:=x;simp only at c0 c1 c2;have hz:Hid (gJ t.chans k=qZ dep):=hid (by unfold gJ;rw[aAO hx]);clear hx;have hgl:=hN.blk.lt;have q1:∀o1 o2,((wr.alloc o1).alloc o2).cell? (tZ g 1)=some (.slice uy k cW):=fun o1 o2=>((hN.blk.alloc o1).alloc o2).cellAt (i:=1) rfl
   have q2:∀o1 o2 o3,(((wr.alloc o1).alloc o2).alloc o3).cell? (tZ g 1)=some (.slice uy k cW):=fun o1 o2 o3=>(((hN.blk.alloc o1).alloc o2).alloc o3).cellAt (i:=1) rfl
   have q3:∀o2,((wr.alloc (.cells #[iV src,iV dst,iV dep] 75)).alloc o2).cell? (tZ wr.heap.size 2)=some (iV dep):=fun o2=>((ak.new wr 75 [iV src,iV dst,iV dep]).alloc o2).cellAt (i:=2) rfl
   have FP:=hid hN;clear hN;by_cases hd:0<dep
   ·have y0:decide (0<dep)=true:=decide_eq_true hd;have hdd:=hid hd;clear hd;go_wp2_with (at_builtin;refine aAy _ rfl (.tmp 38) (.tmp 40) _ rfl 233 i0 _ 16 underlying234 hi0 hz0 hz1 hz2 rfl uy k cW _ rfl ((((FP.out.row.alloc _).alloc _).alloc _).alloc _) (wr.heap.size+1+1+1+1) (some (tZ (wr.heap.size+1+1+1) 0)) 1 1 [_] rfl (rd3 _ _ _ _ _) (by simp[Value.oneCell']) (by simp[maxLen];omega) (by omega) (k+1) rfl ?_;intro A' c' w5 aQB uZ wZ;have hpre:=FP.out.pre (aPo wr _ _ _ _) uZ;have x1:w5.cell? (tZ g 1)=some (.slice uy k cW):=hpre.cellAt rfl;have y1:=hpre.frozen 1)
    have hp:=FP.out.post (gk:=wr.heap.size+1+1) (Nat.le_of_lt (Nat.lt_of_le_of_lt (FP.out.lo.2 g (.inl rfl)) FP.out.blk.lt)) (aPo wr _ _ _ _) (by omega) (by simp) (by rw[hz.out];exact aPV wr _ _ _ dep hdd.out) uZ aQB (by rw[hz.out,aBI hdd.out];rfl) wZ;go_roundw;case rel=>exact⟨k+1,A',c',_,by omega,by go_num,hp.1,ui.trans (hp.2.mono hsz)⟩
    case measure=>simp[intOf];omega
   ·have y0:decide (0<dep)=false:=decide_eq_false hd;have hdd:=hid hd;clear hd;go_wp2_with (at_builtin;refine aAy _ rfl (.tmp 38) (.tmp 40) _ rfl 233 i0 _ 16 underlying234 hi0 hz0 hz1 hz2 rfl uy k cW _ rfl (((FP.out.row.alloc _).alloc _).alloc _) (wr.heap.size+1+1+1) (some (tZ (wr.heap.size+1+1) 0)) 1 1 [_] rfl (rd2 _ _ _ _) (by simp[Value.oneCell']) (by simp[maxLen];omega) (by omega) (k+1) rfl ?_;intro A' c' w5 aQB uZ wZ;have hpre:=FP.out.pre (aPj wr _ _ _) uZ;have x1:w5.cell? (tZ g 1)=some (.slice uy k cW):=hpre.cellAt rfl;have y1:=hpre.frozen 1)
    have hp:=FP.out.post (gk:=wr.heap.size+1) (Nat.le_of_lt (Nat.lt_of_le_of_lt (FP.out.lo.2 g (.inl rfl)) FP.out.blk.lt)) (aPj wr _ _ _) (by omega) (by simp) (by rw[hz.out];exact aQ0 wr _ _ dep hdd.out) uZ aQB (by rw[hz.out,aC1 hdd.out];rfl) wZ;go_roundw;case rel=>exact⟨k+1,A',c',_,by omega,by go_num,hp.1,ui.trans (hp.2.mono hsz)⟩
    case measure=>simp[intOf];omega
  ·obtain rfl:k=t.chans.length:=by omega
   obtain⟨F,hS,hF⟩:=hN.done;go_wp2_with fail;go_ret2;exact⟨F,g,rfl,hS,ui,fun b hb=>Nat.le_trans hsz (hF b hb)⟩
def aM9:bP->bP
 | .last _ _=>.last 0 false
 | .row _ d=>.row [] d
theorem aGm{w:World}{g:Nat}{cs:List aB}{uB:Option Addr}{cE:Nat}{uy:Option Addr}{cW:Nat}{ps:Nat->o6}{ss:Nat->bP}(h:jC w g cs uB cE uy cW ps ss){k:Nat}(hk:k<cs.length){s:bP}(hs:ss k=s):
  (∀m is,s=.last m is->Calls prog 448 #[.pointer (some (tZ ((ps k).g) 0))] w fun e w'=>e=.returned (.tuple #[])/\∃p',jC w' g cs uB cE uy cW (kF ps k p') (kF ss k (.last 0 false))/\bZ (og cs.length g uB uy ps) w (og cs.length g uB uy (kF ps k p')) w')/\
  (∀l d,s=.row l d->Calls prog 452 #[.pointer (some (tZ ((ps k).g) 0))] w fun e w'=>e=.returned (.tuple #[])/\∃p',jC w' g cs uB cE uy cW (kF ps k p') (kF ss k (.row [] d))/\bZ (og cs.length g uB uy ps) w (og cs.length g uB uy (kF ps k p')) w'):=by
 have hi:=h.way k hk;rw[hs]at hi;constructor
 ·rintro m is rfl;refine(aDR (ps k).g m is w hi.1).mono ?_;rintro e w'⟨rfl,hl,hap⟩;have ha:bD (lU (ps k)) w w':=⟨hap.os,hap.tape,hap.output,hap.size,fun b hb hF=>hap.block b hb (fun e=>hF (.inl e))⟩;exact⟨rfl,ps k,h.step (p':=ps k) (s':=.last 0 false) hk ha ⟨hl,hi.2⟩ (by rw[hs];rfl) (fun b hb=>.inl hb),h.goes (p':=ps k) hk ha (fun b hb=>.inl hb)⟩
 ·rintro l d rfl;refine(aF9 (ps k).g (ps k).A (ps k).c l d w hi).mono ?_;rintro e w'⟨rfl,hl,hap⟩;have ha:bD (lU (ps k)) w w':=⟨hap.os,hap.tape,hap.output,hap.size,fun b hb hF=>hap.block b hb (fun e=>hF (.inl e))⟩;have hf:∀b,lU ⟨(ps k).g,none,0⟩ b->lU (ps k) b\/w.heap.size<=b:=fun b hb=>by
   rcases hb with hb|⟨a,hb,_⟩
   ·exact .inl (.inl hb)
   ·cases hb
  exact⟨rfl,⟨(ps k).g,none,0⟩,h.step (p':=⟨(ps k).g,none,0⟩) (s':=.row [] d) hk ha hl (by rw[hs];rfl) hf,h.goes (p':=⟨(ps k).g,none,0⟩) hk ha hf⟩
def fZ(cs:List aB)(p:Int)(k:Nat)(ss:Nat->bP)(j:Nat):bP:=if j<k/\(cs.getD j ⟨0,0,0⟩).dst=p then aM9 (ss j)else ss j
theorem aG5(cs:List aB)(p:Int)(ss:Nat->bP):fZ cs p 0 ss=ss:=by funext j;simp[fZ]
theorem aD3(cs:List aB)(p:Int)(k:Nat)(ss:Nat->bP)(h:(cs.getD k ⟨0,0,0⟩).dst=p):kF (fZ cs p k ss) k (aM9 (fZ cs p k ss k))=fZ cs p (k+1) ss:=by
 funext j
 by_cases hjk:j=k
 ·subst hjk;rw[dV];simp only[fZ,Nat.lt_irrefl,false_and,if_false,Nat.lt_succ_self,true_and,h,if_true]
 ·rw[eP _ _ _ _ hjk];unfold fZ;have:(j<k)=(j<k+1):=by apply propext;omega
  simp only[this]
theorem aIU(cs:List aB)(p:Int)(k:Nat)(ss:Nat->bP)(h:(cs.getD k ⟨0,0,0⟩).dst≠p):fZ cs p k ss=fZ cs p (k+1) ss:=by
 funext j
 unfold fZ;by_cases hjk:j=k
 ·subst hjk;rw[if_neg (fun e=>absurd e.1 (Nat.lt_irrefl _)),if_neg (fun e=>h e.2)]
 ·have:(j<k)=(j<k+1):=by apply propext;omega
  simp only[this]
theorem jC.at_{w:World}{g:Nat}{cs:List aB}{uB:Option Addr}{cE:Nat}{uy:Option Addr}{cW:Nat}{ps:Nat->o6}{ss:Nat->bP}(h:jC w g cs uB cE uy cW ps ss):eG w (og cs.length g uB uy ps) g cs ss:=⟨uB,cE,uy,cW,ps,h,fun _=>Iff.rfl⟩
theorem aLi{w:World}{g:Nat}{cs:List aB}{uB:Option Addr}{cE:Nat}{uy:Option Addr}{cW:Nat}{ps:Nat->o6}{ss:Nat->bP}(h:jC w g cs uB cE uy cW ps ss)(hn:cs.length<=1000000)(p:Int):
  Calls prog 129 #[.pointer (some (tZ g 0)),iV p] w fun e w'=>e=.returned (.tuple #[])/\∃ps',jC w' g cs uB cE uy cW ps' (fZ cs p cs.length ss)/\bZ (og cs.length g uB uy ps) w (og cs.length g uB uy ps') w':=by
 have c0:w.cell? (tZ g 0)=some (.slice uB cs.length cE):=h.blk.cellAt rfl;have H:=hid h;clear h;go_enter func129,ntmps129;go_wp2_with fail;clear c0;go_loopw [4,5,13] (fun v4 v5 v13 wr=>∃(k:Nat) (ps':Nat->o6),k<=cs.length/\v13=iV (k:Int)/\jC wr g cs uB cE uy cW ps' (fZ cs p k ss)/\bZ (og cs.length g uB uy ps) w (og cs.length g uB uy ps') wr) (fun _ _ v13 _=>cs.length-(intOf v13).toNat)
 case atStart=>exact⟨0,ps,by omega,rfl,by rw[aG5];exact H.out,bZ.refl _ _⟩
 case round=>
  obtain⟨k,ps',hk,rfl,hS,hG⟩:=hrel;by_cases hkn:k<cs.length
  ·obtain⟨ad,x,rfl,had,hx,hc0,hc⟩:=hS.ends.at_ hkn;have c0:=hc0 _ rfl;have c1:=hc 0 _ rfl;have c2:=hc 1 _ rfl;clear hc hc0;obtain⟨src,dst,dep⟩:=x;simp only at c0 c1 c2;have hD:Hid ((cs.getD k ⟨0,0,0⟩).dst=dst):=hid (by rw[List.getD_eq_getElem?_getD,hx];rfl);clear hx;have hgl:=hS.blk.lt;have hS1:∀o,jC (wr.alloc o) g cs (some ad) cE uy cW ps' (fZ cs p k ss):=fun o=>hS.keep (by simp) fun b hb=>Below.heap_alloc _ _ _ (hS.lt hb)
   obtain⟨aW,rfl,haw,_⟩:=hS.ways k hkn;have q1:∀o,(wr.alloc o).cell? (tZ g 1)=some (.slice (some aW) cs.length cW):=fun o=>(hS1 o).blk.cellAt rfl
   have q2:∀o,(wr.alloc o).cell? (aW.add k)=some (kW (ps' k) (fZ cs p k ss k)):=fun o=>by
    obtain⟨a,e,_,hh⟩:=(hS1 o).ways k hkn;injection e with e
    rw[e];exact hh
   have q3:∀o,(wr.alloc o).heap.size=wr.heap.size+1:=fun o=>by simp
   have JC:∀o,bZ (og cs.length g (some ad) (some aW) ps) w (og cs.length g (some ad) (some aW) ps') (wr.alloc o):=fun o=>hG.trans (bZ.of_below ((Below.refl _ _).alloc (Nat.le_refl _) _))
   have zA:=hid hS1;have zg:=hid JC;clear hS hG hS1 JC q3;by_cases JD:dst=p
   ·have y0:((dst:Int)==p)=true:=by simp[JD]
    have HP:=hid JD;clear JD;cases hs:fZ cs p k ss k with
    |last m is=>
     rw[hs]at q2;have i1:=hid (fun o=>(aGm (zA.out o) hkn hs).1 m is rfl);have HE:=hid hs;clear hs;unfold kW at q2;go_wp2_with fail;refine(i1.out _).mono ?_;rintro e w2⟨rfl,p',yS,Eu⟩;go_wp2_with fail;go_roundw;case rel=>
      refine⟨k+1,_,by omega,by go_num,?_,(zg.out _).trans Eu⟩;have e:=aD3 cs p k ss (hD.out.trans HP.out);rw[HE.out]at e;rw[<-e];exact yS
     case measure=>simp[intOf];omega
    |row l d=>
     rw[hs]at q2;have i1:=hid (fun o=>(aGm (zA.out o) hkn hs).2 l d rfl);have HE:=hid hs;clear hs;unfold kW at q2;go_wp2_with fail;refine(i1.out _).mono ?_;rintro e w2⟨rfl,p',yS,Eu⟩;go_wp2_with fail;go_roundw;case rel=>
      refine⟨k+1,_,by omega,by go_num,?_,(zg.out _).trans Eu⟩;have e:=aD3 cs p k ss (hD.out.trans HP.out);rw[HE.out]at e;rw[<-e];exact yS
     case measure=>simp[intOf];omega
   ·have y0:((dst:Int)==p)=false:=by simp[JD]
    have HP:=hid JD;clear JD;go_wp2_with fail;go_roundw;case rel=>
     refine⟨k+1,_,by omega,by go_num,?_,zg.out _⟩;rw[<-aIU cs p k ss (by rw[hD.out];exact HP.out)];exact zA.out _
    case measure=>simp[intOf];omega
  ·obtain rfl:k=cs.length:=by omega
   go_wp2_with fail;refine bodyPost_end (v:=.tuple #[]) (by simp[results,results129,go_sem]) rfl ?_;exact⟨rfl,ps',hS,hG⟩
theorem aLv{w:World}{F:Nat->Prop}{g:Nat}{cs:List aB}{ss:Nat->bP}(h:eG w F g cs ss)(hn:cs.length<=1000000)(p:Int):
  Calls prog 129 #[.pointer (some (tZ g 0)),iV p] w (kU F w g cs (.returned (.tuple #[])) (fZ cs p cs.length ss)):=by
 obtain⟨uB,cE,uy,cW,ps,h1,h2⟩:=h;refine(aLi h1 hn p).mono ?_;rintro e w'⟨rfl,ps',hS,hG⟩;exact⟨_,rfl,hS.at_,⟨⟨hG.apart.os,hG.apart.tape,hG.apart.output,hG.apart.size,fun b hb hF=>hG.apart.block b hb (fun hf=>hF ((h2 b).2 hf))⟩,fun b hb=>(hG.foot b hb).imp_left (h2 b).2⟩⟩
end Go.Proofs.YtfjkpigldogkeaaGreatDoor
