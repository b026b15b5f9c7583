/- Contracts of functions that TopQuiet reaches, under the conditions that each states. -/
import Derived.Test.YtfjkpigldogkeaaGreatDoorQan
import Derived.Test.YtfjkpigldogkeaaGreatDoorQbe
import Derived.Laws.EntriesVeiled
set_option linter.all false
set_option maxRecDepth 100000
set_option maxHeartbeats 8000000
namespace Go.Proofs.YtfjkpigldogkeaaGreatDoor
open Go.RowKit Go.ChangeShapes Go.WideShapes Go.ChangeAt Go.Proofs.Tryz
def gu:List (Bool×Int)->Int
 |[]=>0
 |(b,e)::l=>if b then gu l else e
def aLG(t:aG)(p:Int)(i:aO)(v:Int):List (Bool×Int):=[(pO t (fA t p) p i,12),(mY (fA t p) i,14),(jU t p i,15),(decide (v<i.ver),13)]
theorem aGZ(t:aG)(p:Int)(i:aO)(v:Int)(h1:aS t=true)(h2:gG t p=true)(h3:uu i=true):fG t p i v=gu (aLG t p i v):=by
 unfold fG aLG gu gu gu gu gu;rw[h1,h2,h3];cases pO t (fA t p) p i<;>cases mY (fA t p) i<;>cases jU t p i<;>cases decide (v<i.ver)<;>rfl
def aIt(i:aO)(A:Option Addr)(c:Nat):List Value:=[iV i.part,iV i.ver,iV i.uw,iV i.mem,iV i.fuel,iV i.sends,iV i.uj,.slice A i.code.length c]
theorem aIg(t:aG)(a:bM)(i:aO)(A:Option Addr)(c:Nat)(w:World):∃w1:World,(w.alloc (.cells #[iV t.frame,.slice a.A1 t.parts.length a.c1,.slice a.A2 t.wins.length a.c2,.slice a.A3 t.chans.length a.c3,iV t.trial] 26)).alloc (.cells #[iV i.part,iV i.ver,iV i.uw,iV i.mem,iV i.fuel,iV i.sends,iV i.uj,.slice A i.code.length c] 39)=w1/\Below w.heap.size w w1/\ak w1 w.heap.size 26 (bI t a)/\ak w1 (w.heap.size+1) 39 (aIt i A c):=by
 refine⟨_,rfl,((Below.refl _ _).alloc (Nat.le_refl _) _).alloc (by simp) _,(ak.new w _ (bI t a)).alloc _,?_⟩;have:=ak.new (w.alloc (.cells #[iV t.frame,.slice a.A1 t.parts.length a.c1,.slice a.A2 t.wins.length a.c2,.slice a.A3 t.chans.length a.c3,iV t.trial] 26)) 39 (aIt i A c);rw[World.size_alloc]at this;exact this
abbrev aNl:Value:=.agg #[.func (Fn.func 236) #[] #[],iV 12,.func (Fn.func 237) #[] #[],iV 14,.func (Fn.func 238) #[] #[],iV 15,.func (Fn.func 239) #[] #[],iV 13]
theorem aPN(w:World):(Instr.index 363 aNl (iV 0)).run prog w=.ok (.agg #[.func (Fn.func 236) #[] #[],iV 12]) w:=by kernel_rfl
theorem aPT(w:World):(Instr.index 363 aNl (iV 1)).run prog w=.ok (.agg #[.func (Fn.func 237) #[] #[],iV 14]) w:=by kernel_rfl
theorem aQ2(w:World):(Instr.index 363 aNl (iV 2)).run prog w=.ok (.agg #[.func (Fn.func 238) #[] #[],iV 15]) w:=by kernel_rfl
theorem aPY(w:World):(Instr.index 363 aNl (iV 3)).run prog w=.ok (.agg #[.func (Fn.func 239) #[] #[],iV 13]) w:=by kernel_rfl
theorem aEg(t:aG)(a:bM)(p:Int)(i:aO)(A:Option Addr)(c:Nat)(v:Int)(w:World)(h:dM w t a)(hl:i.code.length<=9223372036854775807):
  Calls prog 168 #[gU t a,iV p,eM i A c,iV v] w fun e w'=>e=.returned (iV (fG t p i v))/\Below w.heap.size w w':=by
 obtain⟨w1,hw1,hb1,hT,hI⟩:=aIg t a i A c w;have HE:Hid (fG t p i v=if aS t=false then 9 else if gG t p=false\/uu i=false then 3 else if pO t (fA t p) p i=false then 12
 else if mY (fA t p) i=false then 14 else if jU t p i=false then 15 else if decide (v<i.ver)=false then 13 else 0):=hid rfl
 have HF:=hid (fun a b c=>(aGZ t p i v a b c).trans (show gu (aLG t p i v)=gu [(pO t (fA t p) p i,12),(mY (fA t p) i,14),(jU t p i,15),(decide (v<i.ver),13)]from rfl));have Ja:=hid (fun w' (hb:Below w.heap.size w w')=>h.belowS hb);have BV:=h.n1;have j1:=hid (jq t a w1 (h.belowS hb1));have j2:=hid (fun w=>aAP t a p w BV);have j3:=hid (fun w=>LU i A c w hl);have k1:=hid (fun w' (hb:Below w.heap.size w w') (hp:gG t p=true)=>aLp t a p i A c v w' (h.belowS hb) hp);have k2:=hid (fun w' (hb:Below w.heap.size w w') (hp:gG t p=true)=>aJr t a p i A c v w' (h.belowS hb) hp);have k3:=hid (fun w' (hb:Below w.heap.size w w') (hp:gG t p=true) (hi:uu i=true)=>aK3 t a p i A c v w' (h.belowS hb) hp ((eQ i).1 hi).2.2.2.2.2.1.1 ((eQ i).1 hi).2.2.2.2.2.1.2 ((eQ i).1 hi).2.2.2.2.2.2.1.1 ((eQ i).1 hi).2.2.2.2.2.2.1.2);have k4:=hid (fun w'=>aK9 t a p i A c v w');have em:pO t (fA t p) p i=((i.part==p)&&(i.uw==(fA t p).uw)):=rfl;have es:mY (fA t p) i=(decide (i.mem<=(fA t p).mem)&&decide (i.fuel<=(fA t p).fuel)):=rfl;rw[<-em]at k1;rw[<-es]at k2;clear h em es;obtain⟨A1,q1,A2,q2,A3,q3⟩:=a;obtain⟨i0,i1,i2,i3,i4,i5,i6,code⟩:=i;simp only[gU,eM,rK]at hw1 j1 j2 j3 k1 k2 k3 k4 hl ⊢;generalize fG t p ⟨i0,i1,i2,i3,i4,i5,i6,code⟩ v=R at*
 generalize aS t=r1 at*
 generalize gG t p=r2 at*
 generalize uu ⟨i0,i1,i2,i3,i4,i5,i6,code⟩=r3 at*
 generalize pO t (fA t p) p ⟨i0,i1,i2,i3,i4,i5,i6,code⟩=b1 at*
 generalize mY (fA t p) ⟨i0,i1,i2,i3,i4,i5,i6,code⟩=b2 at*
 generalize jU t p ⟨i0,i1,i2,i3,i4,i5,i6,code⟩=b3 at*
 generalize hb4:decide (v<i1)=b4 at*
 clear hb4;simp only[bI]at hT;simp only[aIt]at hI;generalize code.length=n at*
 obtain⟨c0,c1,c2,c3,c4⟩:_/\_/\_/\_/\_:=⟨hT.cellAt (i:=0) rfl,hT.cellAt (i:=1) rfl,hT.cellAt (i:=2) rfl,hT.cellAt (i:=3) rfl,hT.cellAt (i:=4) rfl⟩;go_enter func168,ntmps168;go_wp2_with fail;clear hw1;refine j1.out.mono ?_;rintro e w2⟨rfl,hb2⟩;have CV:=hT.belowS hb2;have Ei:=hI.belowS hb2;have wB:=ag hb1 hb2;clear c0 c1 c2 c3 c4 hT hI hb1 hb2 j1;cases r1 with
 |false=>
  have hR:R=9:=by rw[HE.out];rfl
  subst hR;clear CV Ei;go_wp2_with fail;go_ret;exact⟨rfl,wB⟩
 |true=>
  obtain⟨c0,c1,c2,c3,c4⟩:_/\_/\_/\_/\_:=⟨CV.cellAt (i:=0) rfl,CV.cellAt (i:=1) rfl,CV.cellAt (i:=2) rfl,CV.cellAt (i:=3) rfl,CV.cellAt (i:=4) rfl⟩;go_wp2_with fail;refine(j2.out _).mono ?_;rintro e w3⟨rfl,hb3⟩;have DJ:=CV.belowS hb3;have Ar:=Ei.belowS hb3;have vp:=ag wB hb3;clear c0 c1 c2 c3 c4 CV Ei wB hb3 j2;cases r2 with
  |false=>
   have hR:R=3:=by rw[HE.out];rfl
   subst hR;clear DJ Ar;go_wp2_with fail;go_ret;exact⟨rfl,vp⟩
  |true=>
   obtain⟨d0,d1,d2,d3,d4,d5,d6,d7⟩:_/\_/\_/\_/\_/\_/\_/\_:=⟨Ar.cellAt (i:=0) rfl,Ar.cellAt (i:=1) rfl,Ar.cellAt (i:=2) rfl,Ar.cellAt (i:=3) rfl,Ar.cellAt (i:=4) rfl,Ar.cellAt (i:=5) rfl,Ar.cellAt (i:=6) rfl,Ar.cellAt (i:=7) rfl⟩;go_wp2_with fail;refine(j3.out _).mono ?_;rintro e w4⟨rfl,hb4⟩;have Jb:=DJ.belowS hb4;have CW:=Ar.belowS hb4;have xU:=ag vp hb4;clear d0 d1 d2 d3 d4 d5 d6 d7 DJ Ar vp hb4 j3;cases r3 with
   |false=>
    have hR:R=3:=by rw[HE.out];rfl
    subst hR;clear Jb CW;go_wp2_with fail;go_ret;exact⟨rfl,xU⟩
   |true=>
    have HR:=hid (HF.out (by first|trivial|rfl) (by first|trivial|rfl) (by first|trivial|rfl));clear HE HF;go_wp2_with fail;have vI:=hid xU;have HT4:=hid Jb;have HI4:=hid CW;clear xU Jb CW;go_loopw [8,10,30] (fun _ _ v30 wr=>∃k:Nat,k<=4/\v30=iV (k:Int)/\Hid (R=gu (List.drop k [(b1,12),(b2,14),(b3,15),(b4,13)]))/\Below w.heap.size w wr/\ak wr w.heap.size 26 [iV t.frame,.slice A1 t.parts.length q1,.slice A2 t.wins.length q2,.slice A3 t.chans.length q3,iV t.trial]/\ak wr (w.heap.size+1) 39 [iV i0,iV i1,iV i2,iV i3,iV i4,iV i5,iV i6,.slice A n c]) (fun _ _ v30 _=>4-(intOf v30).toNat)
    case atStart=>exact⟨0,by omega,rfl,HR,vI.out,HT4.out,HI4.out⟩
    case round=>
     clear vI HT4 HI4 HR;obtain⟨k,hk,rfl,HR,ui,hT,hI⟩:=hrel;have FU:k=0\/k=1\/k=2\/k=3\/k=4:=by omega
     rcases FU with rfl|rfl|rfl|rfl|rfl
     ·have a0:=aPN;have xR:=fun o=>hT.alloc (w:=wr) o
      have wM:=fun o=>hI.alloc (w:=wr) o
      have c0:=fun o=>(xR o).cellAt (i:=0) rfl
      have c1:=fun o=>(xR o).cellAt (i:=1) rfl
      have c2:=fun o=>(xR o).cellAt (i:=2) rfl
      have c3:=fun o=>(xR o).cellAt (i:=3) rfl
      have c4:=fun o=>(xR o).cellAt (i:=4) rfl
      have d0:=fun o=>(wM o).cellAt (i:=0) rfl
      have d1:=fun o=>(wM o).cellAt (i:=1) rfl
      have d2:=fun o=>(wM o).cellAt (i:=2) rfl
      have d3:=fun o=>(wM o).cellAt (i:=3) rfl
      have d4:=fun o=>(wM o).cellAt (i:=4) rfl
      have d5:=fun o=>(wM o).cellAt (i:=5) rfl
      have d6:=fun o=>(wM o).cellAt (i:=6) rfl
      have d7:=fun o=>(wM o).cellAt (i:=7) rfl
      go_wp2_with fail;refine(k1.out _ (aC ui _) trivial).mono ?_;rintro e wz⟨rfl,hbz⟩;have HZ:=hid (ag (aC ui _) hbz);have Jc:=hid ((xR _).belowS hbz);have Jd:=hid ((wM _).belowS hbz);have e1:wz.cell? (tZ wr.heap.size 1)=some (iV 12):=(ak.new wr 362 [.func (Fn.func 236) #[] #[],iV 12]).belowS hbz|>.cellAt rfl
      clear c0 c1 c2 c3 c4 d0 d1 d2 d3 d4 d5 d6 d7 xR wM;cases b1 with
      |false=>
       have hR:R=12:=by rw[HR.out];rfl
       subst hR;go_wp2_with fail;go_ret;exact⟨rfl,HZ.out⟩
      |true=>
       have Dn:Hid (R=gu (List.drop 1 [(true,12),(b2,14),(b3,15),(b4,13)])):=hid (by rw[HR.out];rfl);go_wp2_with fail;go_roundw;case rel=>exact⟨1,by omega,by go_num,Dn,HZ.out,Jc.out,Jd.out⟩
       case measure=>simp[intOf]
     ·have a1:=aPT;have xR:=fun o=>hT.alloc (w:=wr) o
      have wM:=fun o=>hI.alloc (w:=wr) o
      have c0:=fun o=>(xR o).cellAt (i:=0) rfl
      have c1:=fun o=>(xR o).cellAt (i:=1) rfl
      have c2:=fun o=>(xR o).cellAt (i:=2) rfl
      have c3:=fun o=>(xR o).cellAt (i:=3) rfl
      have c4:=fun o=>(xR o).cellAt (i:=4) rfl
      have d0:=fun o=>(wM o).cellAt (i:=0) rfl
      have d1:=fun o=>(wM o).cellAt (i:=1) rfl
      have d2:=fun o=>(wM o).cellAt (i:=2) rfl
      have d3:=fun o=>(wM o).cellAt (i:=3) rfl
      have d4:=fun o=>(wM o).cellAt (i:=4) rfl
      have d5:=fun o=>(wM o).cellAt (i:=5) rfl
      have d6:=fun o=>(wM o).cellAt (i:=6) rfl
      have d7:=fun o=>(wM o).cellAt (i:=7) rfl
      go_wp2_with fail;refine(k2.out _ (aC ui _) trivial).mono ?_;rintro e wz⟨rfl,hbz⟩;have HZ:=hid (ag (aC ui _) hbz);have Jc:=hid ((xR _).belowS hbz);have Jd:=hid ((wM _).belowS hbz);have e1:wz.cell? (tZ wr.heap.size 1)=some (iV 14):=(ak.new wr 362 [.func (Fn.func 237) #[] #[],iV 14]).belowS hbz|>.cellAt rfl
      clear c0 c1 c2 c3 c4 d0 d1 d2 d3 d4 d5 d6 d7 xR wM;cases b2 with
      |false=>
       have hR:R=14:=by rw[HR.out];rfl
       subst hR;go_wp2_with fail;go_ret;exact⟨rfl,HZ.out⟩
      |true=>
       have Dn:Hid (R=gu (List.drop 2 [(b1,12),(true,14),(b3,15),(b4,13)])):=hid (by rw[HR.out];rfl);go_wp2_with fail;go_roundw;case rel=>exact⟨2,by omega,by go_num,Dn,HZ.out,Jc.out,Jd.out⟩
       case measure=>simp[intOf]
     ·have a2:=aQ2;have xR:=fun o=>hT.alloc (w:=wr) o
      have wM:=fun o=>hI.alloc (w:=wr) o
      have c0:=fun o=>(xR o).cellAt (i:=0) rfl
      have c1:=fun o=>(xR o).cellAt (i:=1) rfl
      have c2:=fun o=>(xR o).cellAt (i:=2) rfl
      have c3:=fun o=>(xR o).cellAt (i:=3) rfl
      have c4:=fun o=>(xR o).cellAt (i:=4) rfl
      have d0:=fun o=>(wM o).cellAt (i:=0) rfl
      have d1:=fun o=>(wM o).cellAt (i:=1) rfl
      have d2:=fun o=>(wM o).cellAt (i:=2) rfl
      have d3:=fun o=>(wM o).cellAt (i:=3) rfl
      have d4:=fun o=>(wM o).cellAt (i:=4) rfl
      have d5:=fun o=>(wM o).cellAt (i:=5) rfl
      have d6:=fun o=>(wM o).cellAt (i:=6) rfl
      have d7:=fun o=>(wM o).cellAt (i:=7) rfl
      go_wp2_with fail;refine(k3.out _ (aC ui _) trivial trivial).mono ?_;rintro e wz⟨rfl,hbz⟩;have HZ:=hid (ag (aC ui _) hbz);have Jc:=hid ((xR _).belowS hbz);have Jd:=hid ((wM _).belowS hbz);have e1:wz.cell? (tZ wr.heap.size 1)=some (iV 15):=(ak.new wr 362 [.func (Fn.func 238) #[] #[],iV 15]).belowS hbz|>.cellAt rfl
      clear c0 c1 c2 c3 c4 d0 d1 d2 d3 d4 d5 d6 d7 xR wM;cases b3 with
      |false=>
       have hR:R=15:=by rw[HR.out];rfl
       subst hR;go_wp2_with fail;go_ret;exact⟨rfl,HZ.out⟩
      |true=>
       have Dn:Hid (R=gu (List.drop 3 [(b1,12),(b2,14),(true,15),(b4,13)])):=hid (by rw[HR.out];rfl);go_wp2_with fail;go_roundw;case rel=>exact⟨3,by omega,by go_num,Dn,HZ.out,Jc.out,Jd.out⟩
       case measure=>simp[intOf]
     ·have a3:=aPY;have xR:=fun o=>hT.alloc (w:=wr) o
      have wM:=fun o=>hI.alloc (w:=wr) o
      have c0:=fun o=>(xR o).cellAt (i:=0) rfl
      have c1:=fun o=>(xR o).cellAt (i:=1) rfl
      have c2:=fun o=>(xR o).cellAt (i:=2) rfl
      have c3:=fun o=>(xR o).cellAt (i:=3) rfl
      have c4:=fun o=>(xR o).cellAt (i:=4) rfl
      have d0:=fun o=>(wM o).cellAt (i:=0) rfl
      have d1:=fun o=>(wM o).cellAt (i:=1) rfl
      have d2:=fun o=>(wM o).cellAt (i:=2) rfl
      have d3:=fun o=>(wM o).cellAt (i:=3) rfl
      have d4:=fun o=>(wM o).cellAt (i:=4) rfl
      have d5:=fun o=>(wM o).cellAt (i:=5) rfl
      have d6:=fun o=>(wM o).cellAt (i:=6) rfl
      have d7:=fun o=>(wM o).cellAt (i:=7) rfl
      go_wp2_with fail;refine(k4.out _).mono ?_;rintro e wz⟨rfl,hbz⟩;have HZ:=hid (ag (aC ui _) hbz);have Jc:=hid ((xR _).belowS hbz);have Jd:=hid ((wM _).belowS hbz);have e1:wz.cell? (tZ wr.heap.size 1)=some (iV 13):=(ak.new wr 362 [.func (Fn.func 239) #[] #[],iV 13]).belowS hbz|>.cellAt rfl
      clear c0 c1 c2 c3 c4 d0 d1 d2 d3 d4 d5 d6 d7 xR wM;cases b4 with
      |false=>
       have hR:R=13:=by rw[HR.out];rfl
       subst hR;go_wp2_with fail;go_ret;exact⟨rfl,HZ.out⟩
      |true=>
       have Dn:Hid (R=gu (List.drop 4 [(b1,12),(b2,14),(b3,15),(true,13)])):=hid (by rw[HR.out];rfl);go_wp2_with fail;go_roundw;case rel=>exact⟨4,by omega,by go_num,Dn,HZ.out,Jc.out,Jd.out⟩
       case measure=>simp[intOf]
     ·have hR:R=0:=by rw[HR.out];rfl
      subst hR;go_wp2_with fail;go_ret;exact⟨rfl,ui⟩
theorem aIN(t:aG)(p:Int)(i:aO)(k:Nat)(hk:k<4)(hR:aS t=true)(hp:gG t p=true)
(h:(jM i.sends.toNat k=true/\(t.chans[k]?.map fun c=>c.src==p).getD false=false)\/(jM i.uj.toNat k=true/\(t.chans[k]?.map fun c=>c.dst==p).getD false=false)):jU t p i=false:=by
 rw[<-aAz aB.src t p k hR hp,<-aAz aB.dst t p k hR hp]at h;unfold jU sG;have h4:k=0\/k=1\/k=2\/k=3:=by omega
 rcases h4 with rfl|rfl|rfl|rfl<;>rcases h with⟨h1,h2⟩|⟨h1,h2⟩<;>simp[h1,h2]
theorem aH8(t:aG)(p:Int)(i:aO)(hR:aS t=true)(hp:gG t p=true)
(h:∀k,k<4->(jM i.sends.toNat k=true->(t.chans[k]?.map fun c=>c.src==p).getD false=true)/\(jM i.uj.toNat k=true->(t.chans[k]?.map fun c=>c.dst==p).getD false=true)):jU t p i=true:=by
 have key:∀(k:Nat),k<4->(!jM i.sends.toNat k||jM (fV aB.src t p) k)=true/\(!jM i.uj.toNat k||jM (fV aB.dst t p) k)=true:=by
  intro k hk;rw[aAz aB.src t p k hR hp,aAz aB.dst t p k hR hp];obtain⟨h1,h2⟩:=h k hk;constructor
  ·cases hb:jM i.sends.toNat k
   ·rfl
   ·rw[h1 hb];rfl
  ·cases hb:jM i.uj.toNat k
   ·rfl
   ·rw[h2 hb];rfl
 unfold jU sG;rw[(key 0 (by omega)).1,(key 1 (by omega)).1,(key 2 (by omega)).1,(key 3 (by omega)).1,(key 0 (by omega)).2,(key 1 (by omega)).2,(key 2 (by omega)).2,(key 3 (by omega)).2];rfl
theorem aEV(t:aG)(a:bM)(p:Int)(i:aO)(A:Option Addr)(c:Nat)(v:Int)(w:World)(h:dM w t a)(hl:i.code.length<=9223372036854775807):
  Calls prog 33 #[gU t a,iV p,eM i A c,iV v] w fun e w'=>e=.returned (iV (fG t p i v))/\Below w.heap.size w w':=by
 obtain⟨w1,hw1,hb1,hT,hI⟩:=aIg t a i A c w;have HE:Hid (fG t p i v=if aS t=false then 9 else if gG t p=false\/uu i=false then 3 else if pO t (fA t p) p i=false then 12
 else if mY (fA t p) i=false then 14 else if jU t p i=false then 15 else if decide (v<i.ver)=false then 13 else 0):=hid rfl
 have Ja:=hid (fun w' (hb:Below w.heap.size w w')=>h.belowS hb);have BV:=h.n1;have LD:=h.n3;have MO:=hid (fun hR=>((bK t).1 hR).c4);have aSk:=hid (fun k hk hR hp hh=>aIN t p i k hk hR hp hh);have aQV:=hid (fun hR hp hh=>aH8 t p i hR hp hh);have HHP:=hid (aF5 t p);have HQ:=hid (aGh t);have Cc:=hid (fun hi=>(eQ i).1 hi);have j1:=hid (aBz t a w1 (h.belowS hb1));have j3:=hid (fun w=>aDC i A c w hl);have em:pO t (fA t p) p i=((i.part==p)&&(i.uw==(fA t p).uw)):=rfl;have es:mY (fA t p) i=(decide (i.mem<=(fA t p).mem)&&decide (i.fuel<=(fA t p).fuel)):=rfl;rw[em,es]at HE;clear h em es;obtain⟨A1,q1,A2,q2,A3,q3⟩:=a;obtain⟨i0,i1,i2,i3,i4,i5,i6,code⟩:=i;simp only[gU,eM,eU]at hw1 j1 j3 hl HE Cc aSk aQV ⊢;generalize fG t p ⟨i0,i1,i2,i3,i4,i5,i6,code⟩ v=R at*
 generalize uu ⟨i0,i1,i2,i3,i4,i5,i6,code⟩=r3 at*
 generalize jU t p ⟨i0,i1,i2,i3,i4,i5,i6,code⟩=b3 at*
 generalize aS t=r1 at*
 generalize gG t p=r2 at*
 simp only[bI]at hT;simp only[aIt]at hI;generalize code.length=n at*
 have TC:=hid (fun w' (b:ak w' w.heap.size 26 [iV t.frame,.slice A1 t.parts.length q1,.slice A2 t.wins.length q2,.slice A3 t.chans.length q3,iV t.trial])=>(⟨b.cellAt (i:=0) rfl,b.cellAt (i:=1) rfl,b.cellAt (i:=2) rfl,b.cellAt (i:=3) rfl,b.cellAt (i:=4) rfl⟩:_/\_/\_/\_/\_));have IC:=hid (fun w' (b:ak w' (w.heap.size+1) 39 [iV i0,iV i1,iV i2,iV i3,iV i4,iV i5,iV i6,.slice A n c])=>(⟨b.cellAt (i:=0) rfl,b.cellAt (i:=1) rfl,b.cellAt (i:=2) rfl,b.cellAt (i:=3) rfl,b.cellAt (i:=4) rfl,b.cellAt (i:=5) rfl,b.cellAt (i:=6) rfl,b.cellAt (i:=7) rfl⟩:_/\_/\_/\_/\_/\_/\_/\_));obtain⟨c0,c1,c2,c3,c4⟩:=TC.out _ hT;go_enter func33,ntmps33;go_wp2_with fail;clear hw1;refine j1.out.mono ?_;rintro e w2⟨rfl,hb2⟩;have CV:=hT.belowS hb2;have Ei:=hI.belowS hb2;have wB:=ag hb1 hb2;clear c0 c1 c2 c3 c4 hT hI hb1 hb2 j1;cases r1 with
 |false=>
  have hR:R=9:=by rw[HE.out];rfl
  subst hR;clear CV Ei;go_wp2_with fail;go_ret;exact⟨rfl,wB⟩
 |true=>
  have FO:=MO.out (by first|trivial|rfl);clear MO;obtain⟨c0,c1,c2,c3,c4⟩:=TC.out _ CV;obtain⟨d0,d1,d2,d3,d4,d5,d6,d7⟩:=IC.out _ Ei;by_cases h0:p<0
  ·have y0:decide (p<0)=true:=decide_eq_true h0;have hr2:r2=false:=by rw[HHP.out,Bool.and_eq_false_iff,decide_eq_false_iff_not];left;omega
   subst hr2;have hR:R=3:=by rw[HE.out];rfl
   subst hR;clear CV Ei h0;go_wp2_with fail;go_ret;exact⟨rfl,wB⟩
  ·have y0:decide (p<0)=false:=decide_eq_false h0;obtain⟨pk,rfl⟩:∃k:Nat,p=(k:Int):=⟨p.toNat,by omega⟩;by_cases h1:t.parts.length<=pk
   ·have y1:decide ((t.parts.length:Int)<=(pk:Int))=true:=by simp;omega
    have y2:decide (t.parts.length<=pk)=true:=by simp;omega
    have hr2:r2=false:=by rw[HHP.out,Bool.and_eq_false_iff,decide_eq_false_iff_not,decide_eq_false_iff_not];right;omega
    subst hr2;have hR:R=3:=by rw[HE.out];rfl
    subst hR;clear CV Ei h0;go_wp2_with fail;go_ret;exact⟨rfl,wB⟩
   ·have y1:decide ((t.parts.length:Int)<=(pk:Int))=false:=by simp;omega
    have y2:decide (t.parts.length<=pk)=false:=by simp;omega
    have hr2:r2=true:=by rw[HHP.out,Bool.and_eq_true,decide_eq_true_eq,decide_eq_true_eq];omega
    subst hr2;go_wp2_with fail;refine(j3.out _).mono ?_;rintro e w3⟨rfl,hb3⟩;have DJ:=CV.belowS hb3;have Ar:=Ei.belowS hb3;have vp:=ag wB hb3;clear c0 c1 c2 c3 c4 d0 d1 d2 d3 d4 d5 d6 d7 CV Ei wB hb3 j3;cases r3 with
    |false=>
     have hR:R=3:=by rw[HE.out];rfl
     subst hR;clear DJ Ar;go_wp2_with fail;go_ret;exact⟨rfl,vp⟩
    |true=>
     obtain⟨_,_,_,_,_,hs,hr,_⟩:=Cc.out (by first|trivial|rfl);have hpk:pk<t.parts.length:=by omega
     obtain⟨ad,x,hA,had,hx,hx0,Hz⟩:=((Ja.out _ vp).zn.1).at_ hpk;simp only at hA;subst hA;have eq:=HQ.out pk x hx;rw[eq]at HE;have p0:=hx0 _ rfl;have p1:=Hz 0 _ rfl;have p2:=Hz 1 _ rfl;clear hx0 Hz hx eq HQ Cc HHP;obtain⟨x0,x1,x2⟩:=x;simp only at HE p0 p1 p2;obtain⟨c0,c1,c2,c3,c4⟩:=TC.out _ DJ;obtain⟨d0,d1,d2,d3,d4,d5,d6,d7⟩:=IC.out _ Ar;have z0:(0:Int)<=(pk:Int):=Int.natCast_nonneg _;have z1:(pk:Int)<(t.parts.length:Int):=by omega
     clear y0 y1 y2 h0 h1;by_cases g1:i0=(pk:Int)
     ·by_cases g2:i2=x2
      ·have y0:(i0 !=(pk:Int))=false:=by simpa using g1
       have y1:(i2 !=x2)=false:=by simpa using g2
       have v0:(i0==(pk:Int))=true:=by simpa using g1
       have v1:(i2==x2)=true:=by simpa using g2
       rw[v0,v1]at HE;clear g1 g2 v0 v1;go_wp2_with fail;go_quiet (fail)
       go_wp2_with fail;obtain⟨w4,Bz,Jb,CW,xU,r0,r1,r2⟩:∃W,w3.drewN nq=W/\ak W w.heap.size 26 [iV t.frame,.slice (some ad) t.parts.length q1,.slice A2 t.wins.length q2,.slice A3 t.chans.length q3,iV t.trial]/\ak W (w.heap.size+1) 39 [iV i0,iV i1,iV i2,iV i3,iV i4,iV i5,iV i6,.slice A n c]/\Below w.heap.size w W/\W.cell? (ad.add (pk*3))=some (iV x0)/\W.cell? (tZ ((ad.add (pk*3)).block) ((ad.add (pk*3)).off+1))=some (iV x1)/\W.cell? (tZ ((ad.add (pk*3)).block) ((ad.add (pk*3)).off+2))=some (iV x2):=
        ⟨_,rfl,DJ.drewN nq,Ar.drewN nq,bW vp nq,p0,p1,p2⟩
       rw[Bz];clear Bz c0 c1 c2 c3 c4 d0 d1 d2 d3 d4 d5 d6 d7 p0 p1 p2 DJ Ar vp;obtain⟨c0,c1,c2,c3,c4⟩:=TC.out _ Jb;obtain⟨d0,d1,d2,d3,d4,d5,d6,d7⟩:=IC.out _ CW;have p0:=r0;have p1:=r1;have p2:=r2;clear r0 r1 r2;have D6:Hid (R=if(decide (i3<=x0)&&decide (i4<=x1))=false then 14 else if b3=false then 15 else if decide (v<i1)=false then 13 else 0):=hid (by rw[HE.out];simp);clear HE y0 y1;by_cases g3:x0<i3
       ·have y0:decide (x0<i3)=true:=decide_eq_true g3;have HR:R=14:=by
         rw[D6.out,decide_eq_false (show ¬i3<=x0 by omega)];rfl
        subst HR;go_quiet (fail)
        go_wp2_with fail;go_ret;exact⟨rfl,bW xU _⟩
       ·have y0:decide (x0<i3)=false:=decide_eq_false g3;by_cases g4:x1<i4
        ·have y1:decide (x1<i4)=true:=decide_eq_true g4;have HR:R=14:=by
          rw[D6.out,decide_eq_false (show ¬i4<=x1 by omega),Bool.and_false];rfl
         subst HR;go_quiet (fail)
         go_wp2_with fail;go_ret;exact⟨rfl,bW xU _⟩
        ·have y1:decide (x1<i4)=false:=decide_eq_false g4;have HR:Hid (R=if b3=false then 15 else if decide (v<i1)=false then 13 else 0):=hid (by
          rw[D6.out,decide_eq_true (show i3<=x0 by omega),decide_eq_true (show i4<=x1 by omega)];simp)
         clear D6 g3 g4;go_quiet (fail)
         go_wp2_with fail;obtain⟨w5,Bz,CY,Jm,zV,r0,r1,r2⟩:∃W,w4.drewN nq=W/\ak W w.heap.size 26 [iV t.frame,.slice (some ad) t.parts.length q1,.slice A2 t.wins.length q2,.slice A3 t.chans.length q3,iV t.trial]/\ak W (w.heap.size+1) 39 [iV i0,iV i1,iV i2,iV i3,iV i4,iV i5,iV i6,.slice A n c]/\Below w.heap.size w W/\W.cell? (ad.add (pk*3))=some (iV x0)/\W.cell? (tZ ((ad.add (pk*3)).block) ((ad.add (pk*3)).off+1))=some (iV x1)/\W.cell? (tZ ((ad.add (pk*3)).block) ((ad.add (pk*3)).off+2))=some (iV x2):=
          ⟨_,rfl,Jb.drewN nq,CW.drewN nq,bW xU nq,p0,p1,p2⟩
         rw[Bz];clear Bz c0 c1 c2 c3 c4 d0 d1 d2 d3 d4 d5 d6 d7 p0 p1 p2 Jb CW xU;obtain⟨c0,c1,c2,c3,c4⟩:=TC.out _ CY;obtain⟨d0,d1,d2,d3,d4,d5,d6,d7⟩:=IC.out _ Jm;clear r0 r1 r2;have xq:=hid zV;have HTT:=hid CY;have HII:=hid Jm;have aTN:=hid ((Ja.out _ zV).zn.2.2);simp only at aTN;clear CY Jm zV Ja y0 y1;go_loop [9] (fun v9=>∃k:Nat,k<=4/\v9=iV (k:Int)/\Hid (∀j,j<k->(jM i5.toNat j=true->(t.chans[j]?.map fun c=>c.src==(pk:Int)).getD false=true)/\(jM i6.toNat j=true->(t.chans[j]?.map fun c=>c.dst==(pk:Int)).getD false=true))) (fun v9=>4-(intOf v9).toNat)
         case atStart=>exact⟨0,by omega,rfl,hid (fun j hj=>absurd hj (by omega))⟩
         case round=>
          obtain⟨k,hk,rfl,HK⟩:=hrel;by_cases hk4:k<4
          ·have xA:=hid (aSk.out k hk4 (by first|trivial|rfl) (by first|trivial|rfl));have xB:=hid (fun(hh:(jM i5.toNat k=true->(t.chans[k]?.map fun c=>c.src==(pk:Int)).getD false=true)/\(jM i6.toNat k=true->(t.chans[k]?.map fun c=>c.dst==(pk:Int)).getD false=true)) j (hj:j<k+1)=>(by
            rcases Nat.lt_or_ge j k with h'|h'
            ·exact HK.out j h'
            ·obtain rfl:j=k:=by omega
             exact hh:(jM i5.toNat j=true->(t.chans[j]?.map fun c=>c.src==(pk:Int)).getD false=true)/\(jM i6.toNat j=true->(t.chans[j]?.map fun c=>c.dst==(pk:Int)).getD false=true)))
           obtain⟨m5,rfl⟩:∃m:Nat,i5=(m:Int):=⟨i5.toNat,by omega⟩;obtain⟨m6,rfl⟩:∃m:Nat,i6=(m:Int):=⟨i6.toNat,by omega⟩;simp only[Int.toNat_natCast]at xA xB;have u5:=hid (aDt m5 k w5 (by omega) (by omega));have u6:=hid (aDt m6 k w5 (by omega) (by omega));generalize jM m5 k=e5 at*
           generalize jM m6 k=e6 at*
           by_cases hkn:k<t.chans.length
           ·obtain⟨ac,y,hA,_,hy,hy0,AX⟩:=aTN.out.at_ hkn;subst hA;have s0:=hy0 _ rfl;have s1:=AX 0 _ rfl;rw[hy]at xA xB;simp only[Option.map_some,Option.getD_some]at xA xB;clear hy0 AX hy;obtain⟨sr,ds,dp⟩:=y;simp only at s0 s1 xA xB;have z2:decide ((t.chans.length:Int)<=(k:Int))=false:=by simp;omega
            have z3:decide (t.chans.length<=k)=false:=by simp;omega
            have z4:(0:Int)<=(k:Int):=Int.natCast_nonneg _;have z5:(k:Int)<(t.chans.length:Int):=by omega
            have hbs:(sr !=(pk:Int))= !(sr==(pk:Int)):=rfl;have CO:(ds !=(pk:Int))= !(ds==(pk:Int)):=rfl;generalize (sr==(pk:Int))=f5 at*
            generalize (ds==(pk:Int))=f6 at*
            cases e5<;>cases f5<;>cases e6<;>cases f6<;>simp only[Bool.not_true,Bool.not_false]at hbs CO
            ·have HN:=hid (xB.out (by simp));clear xA xB;go_wp2_with fail;refine u5.out.mono ?_;rintro e w6⟨rfl,rfl⟩;go_wp2_with fail;refine u6.out.mono ?_;rintro e w7⟨rfl,rfl⟩;go_wp2_with fail;go_round;case rel=>exact⟨k+1,by omega,by go_num,HN⟩
             case measure=>simp[intOf];omega
            ·have HN:=hid (xB.out (by simp));clear xA xB;go_wp2_with fail;refine u5.out.mono ?_;rintro e w6⟨rfl,rfl⟩;go_wp2_with fail;refine u6.out.mono ?_;rintro e w7⟨rfl,rfl⟩;go_wp2_with fail;go_round;case rel=>exact⟨k+1,by omega,by go_num,HN⟩
             case measure=>simp[intOf];omega
            ·have hb3:b3=false:=xA.out (by simp);have hR:R=15:=by rw[HR.out,hb3];rfl
             subst hR;clear hb3 xA xB;go_wp2_with fail;refine u5.out.mono ?_;rintro e w6⟨rfl,rfl⟩;go_wp2_with fail;refine u6.out.mono ?_;rintro e w7⟨rfl,rfl⟩;go_wp2_with fail;go_ret;exact⟨rfl,xq.out⟩
            ·have HN:=hid (xB.out (by simp));clear xA xB;go_wp2_with fail;refine u5.out.mono ?_;rintro e w6⟨rfl,rfl⟩;go_wp2_with fail;refine u6.out.mono ?_;rintro e w7⟨rfl,rfl⟩;go_wp2_with fail;go_round;case rel=>exact⟨k+1,by omega,by go_num,HN⟩
             case measure=>simp[intOf];omega
            ·have HN:=hid (xB.out (by simp));clear xA xB;go_wp2_with fail;refine u5.out.mono ?_;rintro e w6⟨rfl,rfl⟩;go_wp2_with fail;refine u6.out.mono ?_;rintro e w7⟨rfl,rfl⟩;go_wp2_with fail;go_round;case rel=>exact⟨k+1,by omega,by go_num,HN⟩
             case measure=>simp[intOf];omega
            ·have HN:=hid (xB.out (by simp));clear xA xB;go_wp2_with fail;refine u5.out.mono ?_;rintro e w6⟨rfl,rfl⟩;go_wp2_with fail;refine u6.out.mono ?_;rintro e w7⟨rfl,rfl⟩;go_wp2_with fail;go_round;case rel=>exact⟨k+1,by omega,by go_num,HN⟩
             case measure=>simp[intOf];omega
            ·have hb3:b3=false:=xA.out (by simp);have hR:R=15:=by rw[HR.out,hb3];rfl
             subst hR;clear hb3 xA xB;go_wp2_with fail;refine u5.out.mono ?_;rintro e w6⟨rfl,rfl⟩;go_wp2_with fail;refine u6.out.mono ?_;rintro e w7⟨rfl,rfl⟩;go_wp2_with fail;go_ret;exact⟨rfl,xq.out⟩
            ·have HN:=hid (xB.out (by simp));clear xA xB;go_wp2_with fail;refine u5.out.mono ?_;rintro e w6⟨rfl,rfl⟩;go_wp2_with fail;refine u6.out.mono ?_;rintro e w7⟨rfl,rfl⟩;go_wp2_with fail;go_round;case rel=>exact⟨k+1,by omega,by go_num,HN⟩
             case measure=>simp[intOf];omega
            ·have hb3:b3=false:=xA.out (by simp);have hR:R=15:=by rw[HR.out,hb3];rfl
             subst hR;clear hb3 xA xB;go_wp2_with fail;refine u5.out.mono ?_;rintro e w6⟨rfl,rfl⟩;go_wp2_with fail;go_ret;exact⟨rfl,xq.out⟩
            ·have hb3:b3=false:=xA.out (by simp);have hR:R=15:=by rw[HR.out,hb3];rfl
             subst hR;clear hb3 xA xB;go_wp2_with fail;refine u5.out.mono ?_;rintro e w6⟨rfl,rfl⟩;go_wp2_with fail;go_ret;exact⟨rfl,xq.out⟩
            ·have hb3:b3=false:=xA.out (by simp);have hR:R=15:=by rw[HR.out,hb3];rfl
             subst hR;clear hb3 xA xB;go_wp2_with fail;refine u5.out.mono ?_;rintro e w6⟨rfl,rfl⟩;go_wp2_with fail;go_ret;exact⟨rfl,xq.out⟩
            ·have hb3:b3=false:=xA.out (by simp);have hR:R=15:=by rw[HR.out,hb3];rfl
             subst hR;clear hb3 xA xB;go_wp2_with fail;refine u5.out.mono ?_;rintro e w6⟨rfl,rfl⟩;go_wp2_with fail;go_ret;exact⟨rfl,xq.out⟩
            ·have HN:=hid (xB.out (by simp));clear xA xB;go_wp2_with fail;refine u5.out.mono ?_;rintro e w6⟨rfl,rfl⟩;go_wp2_with fail;refine u6.out.mono ?_;rintro e w7⟨rfl,rfl⟩;go_wp2_with fail;go_round;case rel=>exact⟨k+1,by omega,by go_num,HN⟩
             case measure=>simp[intOf];omega
            ·have HN:=hid (xB.out (by simp));clear xA xB;go_wp2_with fail;refine u5.out.mono ?_;rintro e w6⟨rfl,rfl⟩;go_wp2_with fail;refine u6.out.mono ?_;rintro e w7⟨rfl,rfl⟩;go_wp2_with fail;go_round;case rel=>exact⟨k+1,by omega,by go_num,HN⟩
             case measure=>simp[intOf];omega
            ·have hb3:b3=false:=xA.out (by simp);have hR:R=15:=by rw[HR.out,hb3];rfl
             subst hR;clear hb3 xA xB;go_wp2_with fail;refine u5.out.mono ?_;rintro e w6⟨rfl,rfl⟩;go_wp2_with fail;refine u6.out.mono ?_;rintro e w7⟨rfl,rfl⟩;go_wp2_with fail;go_ret;exact⟨rfl,xq.out⟩
            ·have HN:=hid (xB.out (by simp));clear xA xB;go_wp2_with fail;refine u5.out.mono ?_;rintro e w6⟨rfl,rfl⟩;go_wp2_with fail;refine u6.out.mono ?_;rintro e w7⟨rfl,rfl⟩;go_wp2_with fail;go_round;case rel=>exact⟨k+1,by omega,by go_num,HN⟩
             case measure=>simp[intOf];omega
           ·rw[List.getElem?_eq_none (by omega)]at xA xB;simp only[Option.map_none,Option.getD_none]at xA xB;have z2:decide ((t.chans.length:Int)<=(k:Int))=true:=by simp;omega
            have z3:decide (t.chans.length<=k)=true:=by simp;omega
            cases e5<;>cases e6
            ·have HN:=hid (xB.out (by simp));clear xA xB;go_wp2_with fail;refine u5.out.mono ?_;rintro e w6⟨rfl,rfl⟩;go_wp2_with fail;refine u6.out.mono ?_;rintro e w7⟨rfl,rfl⟩;go_wp2_with fail;go_round;case rel=>exact⟨k+1,by omega,by go_num,HN⟩
             case measure=>simp[intOf];omega
            ·have hb3:b3=false:=xA.out (by simp);have hR:R=15:=by rw[HR.out,hb3];rfl
             subst hR;clear hb3 xA xB;go_wp2_with fail;refine u5.out.mono ?_;rintro e w6⟨rfl,rfl⟩;go_wp2_with fail;refine u6.out.mono ?_;rintro e w7⟨rfl,rfl⟩;go_wp2_with fail;go_ret;exact⟨rfl,xq.out⟩
            ·have hb3:b3=false:=xA.out (by simp);have hR:R=15:=by rw[HR.out,hb3];rfl
             subst hR;clear hb3 xA xB;go_wp2_with fail;refine u5.out.mono ?_;rintro e w6⟨rfl,rfl⟩;go_wp2_with fail;go_ret;exact⟨rfl,xq.out⟩
            ·have hb3:b3=false:=xA.out (by simp);have hR:R=15:=by rw[HR.out,hb3];rfl
             subst hR;clear hb3 xA xB;go_wp2_with fail;refine u5.out.mono ?_;rintro e w6⟨rfl,rfl⟩;go_wp2_with fail;go_ret;exact⟨rfl,xq.out⟩
          ·obtain rfl:k=4:=by omega
           have hb3:b3=true:=aQV.out (by first|trivial|rfl) (by first|trivial|rfl) HK.out;have BH:Hid (R=if decide (v<i1)=false then 13 else 0):=hid (by rw[HR.out,hb3];rfl);clear HR hb3 aQV aSk HK;by_cases hv:i1<=v
           ·have y0:decide (i1<=v)=true:=decide_eq_true hv;have hR:R=13:=by rw[BH.out,decide_eq_false (show ¬v<i1 by omega)];rfl
            subst hR;clear hv;go_wp2_with fail;go_ret;exact⟨rfl,xq.out⟩
           ·have y0:decide (i1<=v)=false:=decide_eq_false hv;have hR:R=0:=by rw[BH.out,decide_eq_true (show v<i1 by omega)];rfl
            subst hR;clear hv;go_wp2_with fail;go_ret;exact⟨rfl,xq.out⟩
      ·have y0:(i0 !=(pk:Int))=false:=by simpa using g1
       have y1:(i2 !=x2)=true:=by simpa using g2
       have HR:R=12:=by
        rw[HE.out];have:(i2==x2)=false:=by simpa using g2
        rw[this];simp
       subst HR;go_wp2_with fail;go_quiet (fail)
       go_wp2_with fail;go_ret;exact⟨rfl,bW vp _⟩
     ·have y0:(i0 !=(pk:Int))=true:=by simpa using g1
      have HR:R=12:=by
       rw[HE.out];have:(i0==(pk:Int))=false:=by simpa using g1
       rw[this];simp
      subst HR;go_wp2_with fail;go_quiet (fail)
      go_wp2_with fail;go_ret;exact⟨rfl,bW vp _⟩
end Go.Proofs.YtfjkpigldogkeaaGreatDoor
