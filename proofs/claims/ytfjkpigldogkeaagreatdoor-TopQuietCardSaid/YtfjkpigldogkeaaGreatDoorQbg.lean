/- Contracts of functions that TopQuiet reaches, under the conditions that each states. -/
import Derived.Test.YtfjkpigldogkeaaGreatDoorQbe
set_option linter.all false
set_option maxRecDepth 100000
set_option maxHeartbeats 4000000
namespace Go.Proofs.YtfjkpigldogkeaaGreatDoor
open Go.RowKit Go.ChangeShapes Go.WideShapes Go.ChangeAt Go.Proofs.Tryz
theorem aJX(A:Option Addr)(D c:Nat)(bs:List UInt8)(w:World)(h:ai w w.heap.size 1 A (D+36) (bs.map bV))(hD:D<=1000000)(hc:D+36<=c)(hcm:c<=maxLen)(hd:aNm (bs.take (D+32))=bs.drop (D+32))(hde:pR (bs.take D)=(bs.take (D+32)).drop D)(p:aO)(hp:∀(ad:Addr) w',ai w' w'.heap.size 1 (some ad) D ((bs.take D).map bV)->Calls prog 264 #[.slice (some ad) D c] w' fun e w''=>∃A' c',e=.returned (.tuple #[eM p A' c',iV 0])/\w''.ownsRow w'.heap.size 5 1 (.slice A' p.code.length c') p.code.length (p.code.map bV)/\Below w'.heap.size w' w''):
  Calls prog 191 #[.slice A (D+36) c] w fun e w'=>∃A' c',e=.returned (.tuple #[eM p A' c',iV 0])/\w'.ownsRow w.heap.size 5 1 (.slice A' p.code.length c') p.code.length (p.code.map bV)/\Below w.heap.size w w':=by
 obtain⟨w1,hw1,hb1,hr1⟩:∃w1:World,w.alloc (.cells #[iV 0,iV 0,iV 0,iV 0,iV 0,iV 0,iV 0,.slice none 0 0] 39)=w1/\Below w.heap.size w w1/\ak w1 w.heap.size 39 [iV 0,iV 0,iV 0,iV 0,iV 0,iV 0,iV 0,.slice none 0 0]:=⟨_,rfl,(Below.refl _ _).alloc (Nat.le_refl _) _,ak.new _ _ _⟩;have HW:=hid hw1;clear hw1;obtain⟨ad,rfl,had,-⟩:=h.form (by omega);have hbl:bs.length=D+36:=by simpa using h.len
 have hf:=(h.front (k:=D+32) (by omega)).belowS hb1;have hk:=(h.cut (k:=D+32) (cap:=c) (by omega) hc).belowS hb1;rw[Nat.mul_one,<-List.map_take]at hf;rw[Nat.mul_one,<-List.map_drop]at hk;have hcM:c≠D+32:=by omega
 have hcD:c≠D:=by omega
 rw[if_neg hcM]at hk;have NF:=((h.front (k:=D+32) (by omega)).cut (k:=D) (cap:=c) (by omega) (by omega)).belowS hb1;have CO:=(h.front (k:=D) (by omega)).belowS hb1;rw[Nat.mul_one,Nat.mul_one,<-List.map_take,<-List.map_drop]at NF;rw[Nat.mul_one,<-List.map_take]at CO;rw[if_neg hcD]at NF;simp only[Option.map_some]at NF;have HDG:=hid NF;have HBD:=hid CO;clear NF CO;simp only[Option.map_some,Nat.mul_one]at hk;have HF:=hid hf;have HK:=hid hk;clear h had hf hk;unfold maxLen at hcm;have HP:=hid hp;clear hp;have HD:=hid hd;have HDE:=hid hde;clear hde;obtain⟨M,hM⟩:∃M,D+32=M:=⟨_,rfl⟩;obtain⟨N,hN⟩:∃N,D+36=N:=⟨_,rfl⟩;rw[hM]at HF HK HD HDG HDE hcM;rw[hN]at hbl hc HK ⊢;clear hd;have q0:decide ((N:Int)<36)=false:=decide_eq_false (by omega);have q1:IntKind.i64.wrap ((N:Int)-36)=(D:Int):=by rw[IntWalk.i64_in _ (by omega)];omega
 have q2:IntKind.i64.wrap ((N:Int)-4)=(M:Int):=by rw[IntWalk.i64_in _ (by omega)];omega
 have q3:(0:Int)<=(D:Int):=Int.natCast_nonneg _;have q4:(D:Int)<=(c:Int):=by omega
 have q5:(D:Int)<=(M:Int):=by omega
 have q6:(M:Int)<=(c:Int):=by omega
 have q7:(0:Int)<=(M:Int):=Int.natCast_nonneg _;have q8:(M:Int)<=(N:Int):=by omega
 have q9:(N:Int)<=(c:Int):=by omega
 have q10:(D:Int)<=(N:Int):=by omega
 have HN4:Hid (N=M+4):=hid (by omega);have HM:Hid (M<=1000000000):=hid (by omega);have HDB:Hid (D<=1000000000):=hid (by omega);clear hM hN;go_enter func191,ntmps191;go_wp2_with fail;first|rw[HW.out]|skip
 go_quiet (fail)
 go_wp2_with fail;have Gu:Hid (ai (w1.drewN nq) (w1.drewN nq).heap.size 1 (some ad) M ((bs.take M).map bV)):=hid HF.out;have HDG2:Hid (ai (w1.drewN nq) (w1.drewN nq).heap.size 1 (some (ad.add D)) (M-D) (((bs.take M).drop D).map bV)):=hid HDG.out;have aTi:Hid (ai (w1.drewN nq) (w1.drewN nq).heap.size 1 (some ad) D ((bs.take D).map bV)):=hid HBD.out;have LP:Hid (ai (w1.drewN nq) (w1.drewN nq).heap.size 1 (some (ad.add M)) (N-M) ((bs.drop M).map bV)):=hid HK.out;have aTj:=bW hb1 nq;have Hr:Hid (ak (w1.drewN nq) w.heap.size 39 [iV 0,iV 0,iV 0,iV 0,iV 0,iV 0,iV 0,.slice none 0 0]):=hid hr1;have vw:=hid aTj;clear hr1 hb1 aTj HF HK HW HDG HBD;generalize w1.drewN nq=w2 at*
 have hne:decide (aNm (bs.take M)=bs.drop M)=true:=decide_eq_true HD.out;have HNE:=hid hne;have DF:decide (pR (bs.take D)=(bs.take M).drop D)=true:=decide_eq_true HDE.out;have HNE2:=hid DF;clear hne DF;go_region_held3 (fun _=>True) (trivial)
  (first
   |(go_at_call 115;refine(aDr (some ad) M c (bs.take M) _ ?_ HM.out).mono ?_;(first|exact Gu.out|exact Gu.out.drew);rintro e wa ⟨Aa,ca,rfl,aTk,uK⟩;have yK:Below w2.heap.size w2 wa:=⟨uK.os,uK.tape,uK.output,uK.size,uK.block⟩;clear uK)
   |(go_at_call_of 263 (Value.slice Aa 4 ca);refine(aC0 _ _ _ _ _ _ (aNm (bs.take M)) (bs.drop M) _ (ai.uA aTk) (LP.out.below yK)).mono ?_;rw[HNE.out];rintro e wb ⟨rfl,aTl⟩;have hbb:=ag yK aTl;clear aTl)
   |(go_at_call 114;refine(aDn (some ad) D c (bs.take D) _ ?_ HDB.out).mono ?_;(first|exact aTi.out.belowS hbb);rintro e wc ⟨gd,rfl,aQZ,Be⟩;have hbc:=ag hbb Be;clear Be)
   |(go_at_call 263;refine(aC0 _ _ _ _ _ _ (pR (bs.take D)) ((bs.take M).drop D) _ aQZ (HDG2.out.below hbc)).mono ?_;rw[HNE2.out];rintro e wd ⟨rfl,aTm⟩;have CO:=ag hbc aTm;clear aTm))
 all_goals(
  have hp:=hid (HP.out ad wd (aTi.out.belowS CO));unfold eM at hp;have Ff:=Hr.out.belowS CO;have aRy:=hid (vw.out.trans (CO.mono vw.out.size));have hrf:=hid Ff;have Eg:=vw.out.size;clear Ff;go_wp2_with fail;refine hp.out.mono ?_;rintro e wz⟨A9,c9,rfl,aRz,hbz⟩;have Bh:=hrf.out.lt;have HOZ:=hid aRz;clear aRz;have uQ:=hrf.out.belowS hbz;have aTn:=hid (aRy.out.trans (hbz.mono aRy.out.size));obtain⟨f0,f1,f2,f3,f4,f5,f6,f7⟩:_/\_/\_/\_/\_/\_/\_/\_:=⟨uQ.frozen 0,uQ.frozen 1,uQ.frozen 2,uQ.frozen 3,uQ.frozen 4,uQ.frozen 5,uQ.frozen 6,uQ.frozen 7⟩;obtain⟨e0,e1,e2,e3,e4,e5,e6,e7⟩:_/\_/\_/\_/\_/\_/\_/\_:=⟨uQ.cellAt (i:=0) rfl,uQ.cellAt (i:=1) rfl,uQ.cellAt (i:=2) rfl,uQ.cellAt (i:=3) rfl,uQ.cellAt (i:=4) rfl,uQ.cellAt (i:=5) rfl,uQ.cellAt (i:=6) rfl,uQ.cellAt (i:=7) rfl⟩;have Fe:=hid uQ;clear uQ;go_wp2_with fail;have zN:=aJ (aJ (aJ (aJ (aJ (aJ (aJ (aJ (HOZ.out) (a:=⟨w.heap.size,0,none⟩) Bh (iV p.part)) (a:=⟨w.heap.size,1,none⟩) Bh (iV p.ver)) (a:=⟨w.heap.size,2,none⟩) Bh (iV p.uw)) (a:=⟨w.heap.size,3,none⟩) Bh (iV p.mem)) (a:=⟨w.heap.size,4,none⟩) Bh (iV p.fuel)) (a:=⟨w.heap.size,5,none⟩) Bh (iV p.sends)) (a:=⟨w.heap.size,6,none⟩) Bh (iV p.uj)) (a:=⟨w.heap.size,7,none⟩) Bh (.slice A9 p.code.length c9)
  obtain⟨w8,Gt,Ee,yR⟩:=aI6 Fe.out rfl (iV p.part) (iV p.ver) (iV p.uw) (iV p.mem) (iV p.fuel) (iV p.sends) (iV p.uj) (.slice A9 p.code.length c9);rw[Gt]at zN ⊢;clear Gt f0 f1 f2 f3 f4 f5 f6 f7 e0 e1 e2 e3 e4 e5 e6 e7;obtain⟨r0,r1,r2,r3,r4,r5,r6,r7⟩:_/\_/\_/\_/\_/\_/\_/\_:=⟨yR.cellAt (i:=0) rfl,yR.cellAt (i:=1) rfl,yR.cellAt (i:=2) rfl,yR.cellAt (i:=3) rfl,yR.cellAt (i:=4) rfl,yR.cellAt (i:=5) rfl,yR.cellAt (i:=6) rfl,yR.cellAt (i:=7) rfl⟩;have hfin:=hid (aTn.out.trans Ee);refine bodyPost_ret (v:=.tuple #[eM p A9 c9,iV 0]) (by simp[results,results191,go_sem,r0,r1,r2,r3,r4,r5,r6,r7,eM]) rfl ?_;exact⟨A9,c9,rfl,bh zN (Nat.le_of_lt Bh),hfin.out⟩)
theorem jS(x W:Nat)(rest:List UInt8)(h1:1<=W)(h6:W<=6)(hx:x<256^W):bT ⟨aV (x:Int) W++rest,0⟩ (W:Int)=(x,⟨rest,0⟩):=by
 rw[aKR _ W h1 h6,if_neg (by rw[List.length_append,aX];omega),List.take_left' (aX _ _),List.drop_left' (aX _ _),aCP _ _ h6];congr 1
 unfold ry;rw[Int.toNat_natCast];omega
theorem aJY(t:List UInt8)(h:t.length<=65535):jR ⟨oU t,0⟩ 65535=(t,⟨[],0⟩):=by
 have hN:bT ⟨oU t,0⟩ 2=(t.length,⟨t,0⟩):=by
  rw[aCt t h];exact jS t.length 2 t (by omega) (by omega) (by have h256:(256:Nat)^2=65536:=rfl;omega)
 unfold jR;rw[if_neg (by simp),hN];have e1:dL ⟨t,0⟩ (t.length:Int)=(t,⟨[],0⟩):=by
  unfold dL;by_cases h0:t=[]
  ·subst h0;simp
  ·have hp:0<t.length:=List.length_pos_iff.2 h0;rw[if_neg (by simp;exact h0),if_neg (by simp)];simp
 have e2:(if(⟨t,0⟩:RS).e=0/\(65535:Int)<((t.length,(⟨t,0⟩:RS)).1:Int)then(⟨t,4⟩:RS)else⟨t,0⟩)=⟨t,0⟩:=if_neg (by intro h2;have:=h2.2;simp only at this;omega);simp only at e2 ⊢;rw[e2,e1];rfl
theorem aGU(p0 p1 p2 p3 p4 p5 p6:Int)(code:List UInt8):jD ⟨p0,p1,p2,p3,p4,p5,p6,code⟩=aV 19529 2++(aV p0 1++(aV p1 2++(aV p2 2++(aV p3 1++(aV p4 1++(aV p5 1++(aV p6 1++oU code))))))):=by
 unfold jD mV Nq qW;simp only[List.take,List.flatMap_cons,List.flatMap_nil,List.append_assoc,List.append_nil]
theorem aI2(i:aO)(h:i.code.length<=65535):(jD i).length=13+i.code.length:=by
 unfold jD;rw[List.length_append,aJi i 4 (by omega),aCt _ h,List.length_append,aX];omega
theorem aHe(p0 p1 p2 p3 p4 p5 p6:Nat)(code:List UInt8)(hr:eU ⟨p0,p1,p2,p3,p4,p5,p6,code⟩)(A:Option Addr)(n c:Nat)(w:World)(hn:n=13+code.length)(h:ai w w.heap.size 1 A n ((jD ⟨p0,p1,p2,p3,p4,p5,p6,code⟩).map bV)):
  Calls prog 264 #[.slice A n c] w fun e w'=>∃A' c',e=.returned (.tuple #[eM ⟨p0,p1,p2,p3,p4,p5,p6,code⟩ A' c',iV 0])/\w'.ownsRow w.heap.size 5 1 (.slice A' code.length c') code.length (code.map bV)/\Below w.heap.size w w':=by
 have KH:=(eQ _).2 hr;obtain⟨⟨_,h0⟩,⟨_,h1⟩,⟨_,h2⟩,⟨_,h3⟩,⟨_,h4⟩,⟨_,h5⟩,⟨_,h6⟩,_,h7⟩:=hr;simp only at h0 h1 h2 h3 h4 h5 h6 h7;rw[aGU]at h;have k1:(256:Nat)^1=256:=by decide
 have k2:(256:Nat)^2=65536:=by decide
 have e1:=fun r=>jS 19529 2 r (by omega) (by omega) (by omega)
 have e2:=fun r=>jS p0 1 r (by omega) (by omega) (by omega)
 have e3:=fun r=>jS p1 2 r (by omega) (by omega) (by omega)
 have e4:=fun r=>jS p2 2 r (by omega) (by omega) (by omega)
 have e5:=fun r=>jS p3 1 r (by omega) (by omega) (by omega)
 have e6:=fun r=>jS p4 1 r (by omega) (by omega) (by omega)
 have e7:=fun r=>jS p5 1 r (by omega) (by omega) (by omega)
 have e8:=fun r=>jS p6 1 r (by omega) (by omega) (by omega)
 have et:=aJY code (by omega);exact aLA A n c _ w h (by omega) p0 p1 p2 p3 p4 p5 p6 _ _ _ _ _ _ _ _ _ code (e1 _) (e2 _) (e3 _) (e4 _) (e5 _) (e6 _) (e7 _) (e8 _) et rfl KH
theorem aFB(p0 p1 p2 p3 p4 p5 p6:Nat)(code:List UInt8)(hr:eU ⟨p0,p1,p2,p3,p4,p5,p6,code⟩)(A:Option Addr)(n c:Nat)(w:World)(hn:n=49+code.length)(hc:n<=c)(hcm:c<=maxLen)(h:ai w w.heap.size 1 A n ((pI ⟨p0,p1,p2,p3,p4,p5,p6,code⟩).map bV)):
  Calls prog 191 #[.slice A n c] w fun e w'=>∃A' c',e=.returned (.tuple #[eM ⟨p0,p1,p2,p3,p4,p5,p6,code⟩ A' c',iV 0])/\w'.ownsRow w.heap.size 5 1 (.slice A' code.length c') code.length (code.map bV)/\Below w.heap.size w w':=by
 have h7:(code.length:Int)<=96:=hr.2.2.2.2.2.2.2.2;obtain⟨D,hD⟩:∃D,13+code.length=D:=⟨_,rfl⟩;obtain rfl:n=D+36:=by omega
 have hl:(jD ⟨p0,p1,p2,p3,p4,p5,p6,code⟩).length=D:=by rw[aI2 _ (by simp only;omega)];exact hD
 have hsl:(pR (jD ⟨p0,p1,p2,p3,p4,p5,p6,code⟩)).length=32:=rfl;have hb1:(pI ⟨p0,p1,p2,p3,p4,p5,p6,code⟩).take (D+32)=pg (jD ⟨p0,p1,p2,p3,p4,p5,p6,code⟩):=List.take_left' (by unfold pg;rw[List.length_append,hl,hsl]);have hb2:(pI ⟨p0,p1,p2,p3,p4,p5,p6,code⟩).drop (D+32)=aNm (pg (jD ⟨p0,p1,p2,p3,p4,p5,p6,code⟩)):=List.drop_left' (by unfold pg;rw[List.length_append,hl,hsl]);have hb3:(pI ⟨p0,p1,p2,p3,p4,p5,p6,code⟩).take D=jD ⟨p0,p1,p2,p3,p4,p5,p6,code⟩:=by
  unfold pI pg;rw[List.append_assoc];exact List.take_left' hl
 refine aJX A D c _ w h (by omega) hc hcm (by rw[hb1,hb2]) ?_ _ ?_
 ·rw[hb3,hb1];unfold pg;exact(List.drop_left' hl).symm
 ·intro ad w' h';rw[hb3]at h';exact aHe p0 p1 p2 p3 p4 p5 p6 code hr (some ad) D c w' hD.symm h'
def iz(A:Option Addr)(b:Nat):Prop:=∃a,A=some a/\a.block=b
theorem dP{A:Option Addr}{n c:Nat}{b:Nat}:(Value.slice A n c).ownBlock=some b↔iz A b:=by
 unfold Value.ownBlock iz;cases A<;>simp
section
variable{w w':World}{base:Nat}{e:TypeId}{size n c:Nat}{A:Option Addr}{xs:List Value}
theorem bu(h:w.ownsRow base e size (.slice A n c) n xs)(hk:∀b,iz A b->w'.heap[b]? =w.heap[b]?):w'.ownsRow base e size (.slice A n c) n xs:=by
 refine⟨h.1,?_⟩;rcases h.2 with h2|⟨g,cap,cur,hv,hg,hh,r⟩
 ·exact .inl h2
 ·exact .inr ⟨g,cap,cur,hv,hg,(hk g (by injection hv with hv;exact⟨_,hv,rfl⟩)).trans hh,r⟩
theorem aH(h:w.ownsRow base e size (.slice A n c) n xs){b:Nat}(hb:iz A b):base<=b/\b<w.heap.size:=h.lt b (dP.2 hb)
end
theorem jk.low{w w':World}{g:Nat}{s:RS}(h:jk w g s)(hb:Below (g+1) w w'):jk w' g s:=by
 obtain⟨A,n,c,h1,h2,h3⟩:=h;exact⟨A,n,c,h1.below hb (by omega),h2.below (hb.mono (by omega)),h3⟩
structure bQ (Rd:World->Nat->RS->Prop) (w0:World) (g T:Nat) (t:aG) (a:bM) (s:RS) (w:World):Prop where
 bel:Below w0.heap.size w0 w
 hR:ak w w0.heap.size 26 (bI lD ⟨none,0,none,0,none,0⟩)
 hg:Rd w g s
 lo:∀s w w',Rd w g s->Below (g+1) w w'->Rd w' g s
 hT:ak w T 26 (bI t a)
 Ej:w0.heap.size<g
 Fg:g<T
 o1:w.ownsRow (T+1) 164 3 (.slice a.A1 t.parts.length a.c1) t.parts.length (t.parts.flatMap dK)
 o2:w.ownsRow (T+1) 89 3 (.slice a.A2 t.wins.length a.c2) t.wins.length (t.wins.flatMap iP)
 o3:w.ownsRow (T+1) 75 3 (.slice a.A3 t.chans.length a.c3) t.chans.length (t.chans.flatMap fQ)
 d12:∀b,iz a.A1 b->¬iz a.A2 b
 d13:∀b,iz a.A1 b->¬iz a.A3 b
 d23:∀b,iz a.A2 b->¬iz a.A3 b
section
variable{Rd:World->Nat->RS->Prop}{w0 w w':World}{g T:Nat}{t:aG}{a:bM}{s s':RS}
theorem bQ.size(h:bQ Rd w0 g T t a s w):T+1<=w.heap.size:=h.hT.lt
theorem bQ.num(h:bQ Rd w0 g T t a s w)(hg:w.grownBy w' (some g))(hr:Rd w' g s'):bQ Rd w0 g T t a s' w':=by
 have h1:=h.Ej;have h2:=h.Fg;have hs:=h.size;have hk:∀b,b<w.heap.size->b≠g->w'.heap[b]? =w.heap[b]? :=fun b hb hne=>hg.block b hb (fun e=>by injection e with e;exact hne e)
 exact⟨h.bel.grown hg h.bel.size (fun k hk=>by injection hk with hk;omega),(hk _ h.hR.lt (by omega)).trans h.hR,hr,h.lo,(hk _ h.hT.lt (by omega)).trans h.hT,h1,h2,
  bu h.o1 fun b hb=>hk b (aH h.o1 hb).2 (by have:=(aH h.o1 hb).1;omega),
  bu h.o2 fun b hb=>hk b (aH h.o2 hb).2 (by have:=(aH h.o2 hb).1;omega),
  bu h.o3 fun b hb=>hk b (aH h.o3 hb).2 (by have:=(aH h.o3 hb).1;omega),h.d12,h.d13,h.d23⟩
theorem bQ.belowS(h:bQ Rd w0 g T t a s w)(hb:Below w.heap.size w w'):bQ Rd w0 g T t a s w':=by
 have hk:∀b,b<w.heap.size->w'.heap[b]? =w.heap[b]? :=fun b h1=>hb.block b h1
 exact⟨ag h.bel hb,h.hR.belowS hb,h.lo _ _ _ h.hg (hb.mono (by have:=h.size;have:=h.Fg;omega)),h.lo,h.hT.belowS hb,h.Ej,h.Fg,
  bu h.o1 fun b hb=>hk b (aH h.o1 hb).2,bu h.o2 fun b hb=>hk b (aH h.o2 hb).2,bu h.o3 fun b hb=>hk b (aH h.o3 hb).2,h.d12,h.d13,h.d23⟩
theorem bQ.drew(h:bQ Rd w0 g T t a s w):bQ Rd w0 g T t a s w.drew:=h.belowS ⟨rfl,rfl,rfl,Nat.le_refl _,fun _ _=>rfl⟩
theorem bQ.uh(h:bQ Rd w0 g T t a s w)(k:Nat)(u:Value):Below (g+1) w (w.setCell (tZ T k) u)/\Below w0.heap.size w0 (w.setCell (tZ T k) u)/\ak (w.setCell (tZ T k) u) w0.heap.size 26 (bI lD ⟨none,0,none,0,none,0⟩)/\ak (w.setCell (tZ T k) u) T 26 ((bI t a).set k u):=by
 have h1:=h.Ej;have h2:=h.Fg;exact⟨(Below.refl _ _).setCell (p:=⟨T,k,none⟩) (by simp only;omega) _,h.bel.setCell (p:=⟨T,k,none⟩) (by simp only;omega) _,h.hR.far (p:=⟨T,k,none⟩) (by simp only;omega) _,h.hT.uh k u⟩
theorem NI(w:World)(T k:Nat)(u:Value)(b:Nat)(h:b≠T):(w.setCell (tZ T k) u).heap[b]? =w.heap[b]? :=Below.heap_setCell _ _ _ _ (by simpa using h)
theorem bQ.frame(h:bQ Rd w0 g T t a s w)(f:Int):bQ Rd w0 g T {t with frame:=f} a s (w.setCell (tZ T 0) (iV f)):=by
 obtain⟨a1,a2,a3,a4⟩:=h.uh 0 (iV f);have hk:=NI w T 0 (iV f);exact⟨a2,a3,h.lo _ _ _ h.hg a1,h.lo,a4,h.Ej,h.Fg,bu h.o1 fun b hb=>hk b (by have:=(aH h.o1 hb).1;omega),bu h.o2 fun b hb=>hk b (by have:=(aH h.o2 hb).1;omega),bu h.o3 fun b hb=>hk b (by have:=(aH h.o3 hb).1;omega),h.d12,h.d13,h.d23⟩
theorem bQ.trial(h:bQ Rd w0 g T t a s w)(f:Int):bQ Rd w0 g T {t with trial:=f} a s (w.setCell (tZ T 4) (iV f)):=by
 obtain⟨a1,a2,a3,a4⟩:=h.uh 4 (iV f);have hk:=NI w T 4 (iV f);exact⟨a2,a3,h.lo _ _ _ h.hg a1,h.lo,a4,h.Ej,h.Fg,bu h.o1 fun b hb=>hk b (by have:=(aH h.o1 hb).1;omega),bu h.o2 fun b hb=>hk b (by have:=(aH h.o2 hb).1;omega),bu h.o3 fun b hb=>hk b (by have:=(aH h.o3 hb).1;omega),h.d12,h.d13,h.d23⟩
theorem KJ{A A':Option Addr}{n c n' c':Nat}{b S:Nat}(h:(Value.slice A' n' c').ownBlock=(Value.slice A n c).ownBlock\/(Value.slice A' n' c').ownBlock=some S)(hb:iz A' b):iz A b\/b=S:=by
 have h1:=(dP (n:=n') (c:=c')).2 hb;rcases h with h|h
 ·rw[h]at h1;exact .inl (dP.1 h1)
 ·rw[h]at h1;injection h1 with h1;exact .inr h1.symm
theorem bQ.part(h:bQ Rd w0 g T t a s w)(p:gW)(S:Nat)(hS:w.heap.size=S){A':Option Addr}{c':Nat}(ho:w'.ownsRow (T+1) 164 3 (.slice A' (t.parts.length+1) c') (t.parts.length+1) (t.parts.flatMap dK++dK p))(hg:w.grownBy w' (Value.slice a.A1 t.parts.length a.c1).ownBlock)
(hn:(Value.slice A' (t.parts.length+1) c').ownBlock=(Value.slice a.A1 t.parts.length a.c1).ownBlock\/(Value.slice A' (t.parts.length+1) c').ownBlock=some S):
  bQ Rd w0 g T {t with parts:=t.parts++[p]} {a with A1:=A',c1:=c'} s (w'.setCell (tZ T 1) (.slice A' (t.parts.length+1) c')):=by
 subst hS;have h1:=h.Ej;have h2:=h.Fg;have hs:=h.size;have hk:∀b,b<w.heap.size->¬iz a.A1 b->w'.heap[b]? =w.heap[b]? :=fun b hb hne=>hg.block b hb (fun e=>hne (dP.1 e.symm))
 have hf:∀b,iz a.A1 b->T+1<=b:=fun b hb=>(aH h.o1 hb).1
 have hkl:∀b,b<T+1->w'.heap[b]? =w.heap[b]? :=fun b hb=>hk b (by omega) (fun hb'=>by have:=hf b hb';omega)
 have hbl:Below (T+1) w w':=⟨hg.os,hg.tape,hg.output,hg.size,hkl⟩;have hst:=NI w' T 1 (.slice A' (t.parts.length+1) c');have hT:=(h.hT.below hbl (by omega)).uh 1 (.slice A' (t.parts.length+1) c');refine⟨(h.bel.trans (hbl.mono (by omega))).setCell (p:=⟨T,1,none⟩) (by simp only;omega) _,(h.hR.below hbl (by omega)).far (p:=⟨T,1,none⟩) (by simp only;omega) _,?_,h.lo,?_,h1,h2,?_,?_,?_,?_,?_,h.d23⟩
 ·exact h.lo _ _ _ (h.lo _ _ _ h.hg (hbl.mono (by omega))) ((Below.refl _ _).setCell (p:=⟨T,1,none⟩) (by simp only;omega) _)
 ·have e:(t.parts++[p]).length=t.parts.length+1:=by simp
  unfold bI;simp only[e];exact hT
 ·simp only[List.length_append,List.length_singleton,List.flatMap_append,List.flatMap_cons,List.flatMap_nil,List.append_nil];exact bu ho fun b hb=>hst b (by have:=(aH ho hb).1;omega)
 ·exact bu h.o2 fun b hb=>(hst b (by have:=(aH h.o2 hb).1;omega)).trans (hk b (aH h.o2 hb).2 fun h9=>h.d12 b h9 hb)
 ·exact bu h.o3 fun b hb=>(hst b (by have:=(aH h.o3 hb).1;omega)).trans (hk b (aH h.o3 hb).2 fun h9=>h.d13 b h9 hb)
 ·intro b hb hb2;rcases KJ hn hb with h9|h9
  ·exact h.d12 b h9 hb2
  ·have:=(aH h.o2 hb2).2;omega
 ·intro b hb hb2;rcases KJ hn hb with h9|h9
  ·exact h.d13 b h9 hb2
  ·have:=(aH h.o3 hb2).2;omega
theorem bQ.win(h:bQ Rd w0 g T t a s w)(p:ik)(S:Nat)(hS:w.heap.size=S){A':Option Addr}{c':Nat}(ho:w'.ownsRow (T+1) 89 3 (.slice A' (t.wins.length+1) c') (t.wins.length+1) (t.wins.flatMap iP++iP p))(hg:w.grownBy w' (Value.slice a.A2 t.wins.length a.c2).ownBlock)
(hn:(Value.slice A' (t.wins.length+1) c').ownBlock=(Value.slice a.A2 t.wins.length a.c2).ownBlock\/(Value.slice A' (t.wins.length+1) c').ownBlock=some S):
  bQ Rd w0 g T {t with wins:=t.wins++[p]} {a with A2:=A',c2:=c'} s (w'.setCell (tZ T 2) (.slice A' (t.wins.length+1) c')):=by
 subst hS;have h1:=h.Ej;have h2:=h.Fg;have hs:=h.size;have hk:∀b,b<w.heap.size->¬iz a.A2 b->w'.heap[b]? =w.heap[b]? :=fun b hb hne=>hg.block b hb (fun e=>hne (dP.1 e.symm))
 have hf:∀b,iz a.A2 b->T+1<=b:=fun b hb=>(aH h.o2 hb).1
 have hkl:∀b,b<T+1->w'.heap[b]? =w.heap[b]? :=fun b hb=>hk b (by omega) (fun hb'=>by have:=hf b hb';omega)
 have hbl:Below (T+1) w w':=⟨hg.os,hg.tape,hg.output,hg.size,hkl⟩;have hst:=NI w' T 2 (.slice A' (t.wins.length+1) c');have hT:=(h.hT.below hbl (by omega)).uh 2 (.slice A' (t.wins.length+1) c');refine⟨(h.bel.trans (hbl.mono (by omega))).setCell (p:=⟨T,2,none⟩) (by simp only;omega) _,(h.hR.below hbl (by omega)).far (p:=⟨T,2,none⟩) (by simp only;omega) _,?_,h.lo,?_,h1,h2,?_,?_,?_,?_,h.d13,?_⟩
 ·exact h.lo _ _ _ (h.lo _ _ _ h.hg (hbl.mono (by omega))) ((Below.refl _ _).setCell (p:=⟨T,2,none⟩) (by simp only;omega) _)
 ·have e:(t.wins++[p]).length=t.wins.length+1:=by simp
  unfold bI;simp only[e];exact hT
 ·exact bu h.o1 fun b hb=>(hst b (by have:=(aH h.o1 hb).1;omega)).trans (hk b (aH h.o1 hb).2 fun h9=>h.d12 b hb h9)
 ·simp only[List.length_append,List.length_singleton,List.flatMap_append,List.flatMap_cons,List.flatMap_nil,List.append_nil];exact bu ho fun b hb=>hst b (by have:=(aH ho hb).1;omega)
 ·exact bu h.o3 fun b hb=>(hst b (by have:=(aH h.o3 hb).1;omega)).trans (hk b (aH h.o3 hb).2 fun h9=>h.d23 b h9 hb)
 ·intro b hb hb2;rcases KJ hn hb2 with h9|h9
  ·exact h.d12 b hb h9
  ·have:=(aH h.o1 hb).2;omega
 ·intro b hb hb2;rcases KJ hn hb with h9|h9
  ·exact h.d23 b h9 hb2
  ·have:=(aH h.o3 hb2).2;omega
theorem bQ.chan(h:bQ Rd w0 g T t a s w)(p:aB)(S:Nat)(hS:w.heap.size=S){A':Option Addr}{c':Nat}(ho:w'.ownsRow (T+1) 75 3 (.slice A' (t.chans.length+1) c') (t.chans.length+1) (t.chans.flatMap fQ++fQ p))(hg:w.grownBy w' (Value.slice a.A3 t.chans.length a.c3).ownBlock)
(hn:(Value.slice A' (t.chans.length+1) c').ownBlock=(Value.slice a.A3 t.chans.length a.c3).ownBlock\/(Value.slice A' (t.chans.length+1) c').ownBlock=some S):
  bQ Rd w0 g T {t with chans:=t.chans++[p]} {a with A3:=A',c3:=c'} s (w'.setCell (tZ T 3) (.slice A' (t.chans.length+1) c')):=by
 subst hS;have h1:=h.Ej;have h2:=h.Fg;have hs:=h.size;have hk:∀b,b<w.heap.size->¬iz a.A3 b->w'.heap[b]? =w.heap[b]? :=fun b hb hne=>hg.block b hb (fun e=>hne (dP.1 e.symm))
 have hf:∀b,iz a.A3 b->T+1<=b:=fun b hb=>(aH h.o3 hb).1
 have hkl:∀b,b<T+1->w'.heap[b]? =w.heap[b]? :=fun b hb=>hk b (by omega) (fun hb'=>by have:=hf b hb';omega)
 have hbl:Below (T+1) w w':=⟨hg.os,hg.tape,hg.output,hg.size,hkl⟩;have hst:=NI w' T 3 (.slice A' (t.chans.length+1) c');have hT:=(h.hT.below hbl (by omega)).uh 3 (.slice A' (t.chans.length+1) c');refine⟨(h.bel.trans (hbl.mono (by omega))).setCell (p:=⟨T,3,none⟩) (by simp only;omega) _,(h.hR.below hbl (by omega)).far (p:=⟨T,3,none⟩) (by simp only;omega) _,?_,h.lo,?_,h1,h2,?_,?_,?_,h.d12,?_,?_⟩
 ·exact h.lo _ _ _ (h.lo _ _ _ h.hg (hbl.mono (by omega))) ((Below.refl _ _).setCell (p:=⟨T,3,none⟩) (by simp only;omega) _)
 ·have e:(t.chans++[p]).length=t.chans.length+1:=by simp
  unfold bI;simp only[e];exact hT
 ·exact bu h.o1 fun b hb=>(hst b (by have:=(aH h.o1 hb).1;omega)).trans (hk b (aH h.o1 hb).2 fun h9=>h.d13 b hb h9)
 ·exact bu h.o2 fun b hb=>(hst b (by have:=(aH h.o2 hb).1;omega)).trans (hk b (aH h.o2 hb).2 fun h9=>h.d23 b hb h9)
 ·simp only[List.length_append,List.length_singleton,List.flatMap_append,List.flatMap_cons,List.flatMap_nil,List.append_nil];exact bu ho fun b hb=>hst b (by have:=(aH ho hb).1;omega)
 ·intro b hb hb2;rcases KJ hn hb2 with h9|h9
  ·exact h.d13 b hb h9
  ·have:=(aH h.o1 hb).2;omega
 ·intro b hb hb2;rcases KJ hn hb2 with h9|h9
  ·exact h.d23 b hb h9
  ·have:=(aH h.o2 hb).2;omega
end
end Go.Proofs.YtfjkpigldogkeaaGreatDoor
