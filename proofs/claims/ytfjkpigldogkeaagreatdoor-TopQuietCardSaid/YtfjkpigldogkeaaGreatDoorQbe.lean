/- Contracts of functions that TopQuiet reaches, under the conditions that each states. -/
import Derived.Test.YtfjkpigldogkeaaGreatDoorQaw
set_option linter.all false
set_option maxRecDepth 100000
set_option maxHeartbeats 4000000
namespace Go.Proofs.YtfjkpigldogkeaaGreatDoor
open Go.RowKit Go.ChangeShapes Go.WideShapes Go.ChangeAt Go.Proofs.Tryz
theorem aLA(A:Option Addr)(n c:Nat)(bs:List UInt8)(w:World)(h:ai w w.heap.size 1 A n (bs.map bV))(hn:n<=100000000)(v2 v3 v4 v5 v6 v7 v8:Nat)(s1 s2 s3 s4 s5 s6 s7 s8 s9:RS)(t:List UInt8)(e1:bT ⟨bs,0⟩ 2=(19529,s1))(e2:bT s1 1=(v2,s2))(e3:bT s2 2=(v3,s3))(e4:bT s3 2=(v4,s4))(e5:bT s4 1=(v5,s5))(e6:bT s5 1=(v6,s6))(e7:bT s6 1=(v7,s7))(e8:bT s7 1=(v8,s8))(et:jR s8 65535=(t,s9))(hx:nP s9=0)(KH:uu ⟨v2,v3,v4,v5,v6,v7,v8,t⟩=true):
  Calls prog 264 #[.slice A n c] w fun e w'=>∃A' c',e=.returned (.tuple #[eM ⟨v2,v3,v4,v5,v6,v7,v8,t⟩ A' c',iV 0])/\w'.ownsRow w.heap.size 5 1 (.slice A' t.length c') t.length (t.map bV)/\Below w.heap.size w w':=by
 obtain⟨w1,hw1,hb1,hs1,hr1⟩:∃w1:World,w.alloc (.cells #[iV 0,iV 0,iV 0,iV 0,iV 0,iV 0,iV 0,.slice none 0 0] 39)=w1/\Below w.heap.size w w1/\w1.heap.size=w.heap.size+1/\ak w1 w.heap.size 39 [iV 0,iV 0,iV 0,iV 0,iV 0,iV 0,iV 0,.slice none 0 0]:=⟨_,rfl,(Below.refl _ _).alloc (Nat.le_refl _) _,by simp,ak.new _ _ _⟩;have hbl:bs.length=n:=by simpa using h.len
 have HR:=hid (h.belowS hb1);have Hr:=hid hr1;have vw:=hid hb1;have l0:(⟨bs,0⟩:RS).b.length<=100000000:=by show bs.length<=_;omega
 have l1:=nS e1 l0;have l2:=nS e2 l1;have l3:=nS e3 l2;have l4:=nS e4 l3;have l5:=nS e5 l4;have l6:=nS e6 l5;have l7:=nS e7 l6;have l8:=nS e8 l7;have l9:=aML et l8;have E1:=hid e1;have E2:=hid e2;have E3:=hid e3;have E4:=hid e4;have E5:=hid e5;have E6:=hid e6;have E7:=hid e7;have E8:=hid e8;have ET:=hid et;have L0:=hid l0;have L1:=hid l1;have L2:=hid l2;have L3:=hid l3;have L4:=hid l4;have L5:=hid l5;have L6:=hid l6;have L7:=hid l7;have L8:=hid l8;have L9:=hid l9;have zA:=hid hs1;clear h hr1 hbl hb1 hs1 e1 e2 e3 e4 e5 e6 e7 e8 et l0 l1 l2 l3 l4 l5 l6 l7 l8 l9;go_enter func264,ntmps264;go_wp2_with fail;clear hw1;refine(aCN A n c bs w1 HR.out hn).mono ?_;rintro e w2⟨g,rfl,hg,CM,hb2⟩;have Eu:=hid (hb2);go_wp2_with fail;refine(oq g ⟨bs,0⟩ 2 19529 s1 E1.out w2 CM L0.out).mono ?_;rintro e w3⟨rfl,xJ,hg3⟩;have hc3:Below w1.heap.size w1 w3:=hb2.grown hg3 hb2.size (fun k hk=>by injection hk with hk;omega);clear CM hg3 hb2;go_wp2_with fail;refine(oq g s1 1 v2 s2 E2.out w3 xJ L1.out).mono ?_;rintro e w4⟨rfl,aT5,hg4⟩;have FO:Below w1.heap.size w1 w4:=hc3.grown hg4 hc3.size (fun k hk=>by injection hk with hk;omega);clear xJ hg4 hc3;go_wp2_with fail;refine(oq g s2 2 v3 s3 E3.out w4 aT5 L2.out).mono ?_;rintro e w5⟨rfl,EM,uZ⟩;have G6:Below w1.heap.size w1 w5:=FO.grown uZ FO.size (fun k hk=>by injection hk with hk;omega);clear aT5 uZ FO;go_wp2_with fail
 refine(oq g s3 2 v4 s4 E4.out w5 EM L3.out).mono ?_;rintro e w6⟨rfl,aT6,zF⟩;have hc6:Below w1.heap.size w1 w6:=G6.grown zF G6.size (fun k hk=>by injection hk with hk;omega);clear EM zF G6;go_wp2_with fail;refine(oq g s4 1 v5 s5 E5.out w6 aT6 L4.out).mono ?_;rintro e w7⟨rfl,aT7,BO⟩;have hc7:Below w1.heap.size w1 w7:=hc6.grown BO hc6.size (fun k hk=>by injection hk with hk;omega);clear aT6 BO hc6;go_wp2_with fail;refine(oq g s5 1 v6 s6 E6.out w7 aT7 L5.out).mono ?_;rintro e w8⟨rfl,aT8,NC⟩;have hc8:Below w1.heap.size w1 w8:=hc7.grown NC hc7.size (fun k hk=>by injection hk with hk;omega);clear aT7 NC hc7;go_wp2_with fail;refine(oq g s6 1 v7 s7 E7.out w8 aT8 L6.out).mono ?_;rintro e w9⟨rfl,aT9,wG⟩;have ND:Below w1.heap.size w1 w9:=hc8.grown wG hc8.size (fun k hk=>by injection hk with hk;omega);clear aT8 wG hc8;go_wp2_with fail;refine(oq g s7 1 v8 s8 E8.out w9 aT9 L7.out).mono ?_;rintro e xZ⟨rfl,aQL,aTa⟩;have aRZ:Below w1.heap.size w1 xZ:=ND.grown aTa ND.size (fun k hk=>by injection hk with hk;omega);clear aT9 aTa ND
 obtain⟨wa,KC,hsa,yK,aRv⟩:∃wa:World,xZ.alloc (.cells #[iV (v2:Int),iV (v3:Int),iV (v4:Int),iV (v5:Int),iV (v6:Int),iV (v7:Int),iV (v8:Int),.slice none 0 0] 39)=wa/\wa.heap.size=xZ.heap.size+1/\Below xZ.heap.size xZ wa/\ak wa xZ.heap.size 39 [iV (v2:Int),iV (v3:Int),iV (v4:Int),iV (v5:Int),iV (v6:Int),iV (v7:Int),iV (v8:Int),.slice none 0 0]:=⟨_,rfl,by simp,(Below.refl _ _).alloc (Nat.le_refl _) _,ak.new _ _ _⟩;have aTb:=aQL.below yK;have GM:=ag aRZ yK;have HWA:=hid KC;have hgl:=aQL.lt;have hc10s:=aRZ.size;clear aQL aRZ yK KC;go_wp2_with fail;first|rw[HWA.out]|skip
 refine(aMV g s8 65535 t s9 ET.out wa aTb L8.out).mono ?_;rintro e w11⟨A7,m7,c7,rfl,hown,aRw,aRc⟩;have aTc:Below w1.heap.size w1 w11:=GM.grown aRc GM.size (fun k hk=>by injection hk with hk;omega);have aQd:=aEW aRv aRc (by omega);have f7:=aQd.frozen 7;have d7:=aQd.cellAt (i:=7) rfl;have hz11:=aRc.size;have aQM:=aJ hown (a:=⟨xZ.heap.size,7,none⟩) (by show xZ.heap.size<wa.heap.size;omega) (.slice A7 m7 c7);have aQN:=aQd.uh 7 (.slice A7 m7 c7);have aTd:Below w1.heap.size w1 (w11.setCell (tZ xZ.heap.size 7) (.slice A7 m7 c7)):=aTc.setCell (by omega) _;have aRx:jk (w11.setCell (tZ xZ.heap.size 7) (.slice A7 m7 c7)) g s9:=by
  obtain⟨A0,n0,c0,q1,q2,q3,q4⟩:=aRw;exact⟨A0,n0,c0,q1.far (p:=⟨xZ.heap.size,7,none⟩) (by show g≠xZ.heap.size;omega) _,q2.setCell (by show g<=xZ.heap.size;omega) _,q3,q4⟩
 have HO:=hid aQM;have aS0:=hid aQN;have aTe:=hid aTd;have GZ:=hid aRx;clear hown aQM aQd aQN aTc aTd aRw aRx aRc aTb GM aRv;go_wp2_with fail;generalize hw12:w11.setCell (tZ xZ.heap.size 7) (.slice A7 m7 c7)=w12 at*
 clear hw12 f7 d7;refine(aLz g s9 w12 GZ.out L9.out).mono ?_;rintro e w13⟨rfl,rfl⟩;have aTf:=Hr.out.below aTe.out (by have:=zA.out;omega);rw[hx];have Ig:=hid (vw.out.trans (aTe.out.mono vw.out.size));have htl:t.length=m7:=by have:=HO.out.1;simpa using this
 subst htl;have hblk:=aS0.out;obtain⟨d0,d1,d2,d3,d4,d5,d6,d7⟩:_/\_/\_/\_/\_/\_/\_/\_:=⟨hblk.cellAt (i:=0) rfl,hblk.cellAt (i:=1) rfl,hblk.cellAt (i:=2) rfl,hblk.cellAt (i:=3) rfl,hblk.cellAt (i:=4) rfl,hblk.cellAt (i:=5) rfl,hblk.cellAt (i:=6) rfl,hblk.cellAt (i:=7) rfl⟩;have aTg:=hid aTf;have AQ:=nB HO.out;have aTh:=hblk;clear aTf hblk hx;go_wp2_with fail;clear d0 d1 d2 d3 d4 d5 d6 d7;unfold maxLen at AQ;refine(LU ⟨v2,v3,v4,v5,v6,v7,v8,t⟩ A7 c7 _ (by show t.length<=_;omega)).mono ?_;rw[KH];rintro e w14⟨rfl,zi⟩;have hblk:=aTh.belowS zi;have xu:=aTg.out.belowS zi;have HO14:=hid (kG HO.out zi);have aRd:=hid (Ig.out.trans (zi.mono Ig.out.size));have hws:=Ig.out.size;have hne:w.heap.size≠xZ.heap.size:=by have:=zA.out;omega
 clear zi aTh aTg;obtain⟨d0,d1,d2,d3,d4,d5,d6,d7⟩:_/\_/\_/\_/\_/\_/\_/\_:=⟨hblk.cellAt (i:=0) rfl,hblk.cellAt (i:=1) rfl,hblk.cellAt (i:=2) rfl,hblk.cellAt (i:=3) rfl,hblk.cellAt (i:=4) rfl,hblk.cellAt (i:=5) rfl,hblk.cellAt (i:=6) rfl,hblk.cellAt (i:=7) rfl⟩;obtain⟨f0,f1,f2,f3,f4,f5,f6,f7⟩:_/\_/\_/\_/\_/\_/\_/\_:=⟨xu.frozen 0,xu.frozen 1,xu.frozen 2,xu.frozen 3,xu.frozen 4,xu.frozen 5,xu.frozen 6,xu.frozen 7⟩;obtain⟨k0,k1,k2,k3,k4,k5,k6,k7⟩:_/\_/\_/\_/\_/\_/\_/\_:=⟨xu.cellAt (i:=0) rfl,xu.cellAt (i:=1) rfl,xu.cellAt (i:=2) rfl,xu.cellAt (i:=3) rfl,xu.cellAt (i:=4) rfl,xu.cellAt (i:=5) rfl,xu.cellAt (i:=6) rfl,xu.cellAt (i:=7) rfl⟩;have Fe:=hid xu;clear xu hblk;go_wp2_with fail;have hlt:w.heap.size<wa.heap.size:=by have:=zA.out;omega
 have zN:=aJ (aJ (aJ (aJ (aJ (aJ (aJ (aJ (HO14.out) (a:=⟨w.heap.size,0,none⟩) hlt (iV (v2:Int))) (a:=⟨w.heap.size,1,none⟩) hlt (iV (v3:Int))) (a:=⟨w.heap.size,2,none⟩) hlt (iV (v4:Int))) (a:=⟨w.heap.size,3,none⟩) hlt (iV (v5:Int))) (a:=⟨w.heap.size,4,none⟩) hlt (iV (v6:Int))) (a:=⟨w.heap.size,5,none⟩) hlt (iV (v7:Int))) (a:=⟨w.heap.size,6,none⟩) hlt (iV (v8:Int))) (a:=⟨w.heap.size,7,none⟩) hlt (.slice A7 t.length c7);obtain⟨w8',Gt,Ee,yR⟩:=aI6 Fe.out rfl (iV (v2:Int)) (iV (v3:Int)) (iV (v4:Int)) (iV (v5:Int)) (iV (v6:Int)) (iV (v7:Int)) (iV (v8:Int)) (.slice A7 t.length c7);rw[Gt]at zN ⊢;clear Gt f0 d0 f1 d1 f2 d2 f3 d3 f4 d4 f5 d5 f6 d6 f7 d7 k0 k1 k2 k3 k4 k5 k6 k7;obtain⟨r0,r1,r2,r3,r4,r5,r6,r7⟩:_/\_/\_/\_/\_/\_/\_/\_:=⟨yR.cellAt (i:=0) rfl,yR.cellAt (i:=1) rfl,yR.cellAt (i:=2) rfl,yR.cellAt (i:=3) rfl,yR.cellAt (i:=4) rfl,yR.cellAt (i:=5) rfl,yR.cellAt (i:=6) rfl,yR.cellAt (i:=7) rfl⟩;have hfin:=hid (aRd.out.trans Ee);refine bodyPost_ret (v:=.tuple #[eM ⟨v2,v3,v4,v5,v6,v7,v8,t⟩ A7 c7,iV 0]) (by simp[results,results264,go_sem,r0,r1,r2,r3,r4,r5,r6,r7,eM]) rfl ?_;exact⟨A7,c7,rfl,bh zN (Nat.le_of_lt hlt),hfin.out⟩
theorem kK{n:Int}{w:Nat}(rest:List UInt8)(hw:1<=w/\w<=6)(h0:0<=n)(h1:n<(256:Int)^w):((bT ⟨aV n w++rest,0⟩ (w:Int)).1:Int)=n/\(bT ⟨aV n w++rest,0⟩ (w:Int)).2=⟨rest,0⟩:=by
 have hwid:mf (w:Int)=w:=by unfold mf;split<;>(try split)<;>omega
 have hl:=aX n w;have hb:dL ⟨aV n w++rest,0⟩ (w:Int)=(aV n w,⟨rest,0⟩):=by
  unfold dL;simp only;rw[if_neg (by omega),if_neg (by rw[List.length_append,hl];omega),Int.toNat_natCast,List.take_left' hl,List.drop_left' hl]
 unfold bT;rw[hwid,hb];refine⟨?_,rfl⟩;show((lL (aV n w):Nat):Int)=n
 rw[aCP n w hw.2];have e:((256^w:Nat):Int)=(256:Int)^w:=by simp
 unfold ry;have:=aB0 w hw.2;omega
theorem aLb(s:RS)(w:Int):(bT s w).2.b.length<=s.b.length:=kC s w
theorem aNR(s:RS)(w:Int):(bT s w).1<256^mf w:=by
 have h:=aDw s (mf w) (by omega);unfold bT;simp only;exact Nat.lt_of_lt_of_le (aGb _) (Nat.pow_le_pow_right (by omega) (by omega))
theorem aBv(s:RS):(bT s 1).1<256:=aNR s 1
def bF{α:Type}(f:RS->α×RS):Nat->RS->List α×RS
 |0,s=>([],s)
 |n+1,s=>((bF f n s).1++[(f (bF f n s).2).1],(f (bF f n s).2).2)
theorem jG{α:Type}(f:RS->α×RS)(s:RS):∀n,(bF f n s).1.length=n
 |0=>rfl
 |n+1=>by simp[bF,jG f s n]
theorem jh{α:Type}(f:RS->α×RS)(hf:∀s,(f s).2.b.length<=s.b.length)(s:RS):∀n,(bF f n s).2.b.length<=s.b.length
 |0=>Nat.le_refl _
 |n+1=>Nat.le_trans (hf _) (jh f hf s n)
def qN{α:Type}(mk:Int->Int->Int->α)(w:Nat)(s:RS):α×RS:=
 (mk (bT s 1).1 (bT (bT s 1).2 1).1 (bT (bT (bT s 1).2 1).2 w).1,(bT (bT (bT s 1).2 1).2 w).2)
abbrev fN:RS->gW×RS:=qN gW.mk 2
abbrev jw:RS->ik×RS:=qN ik.mk 1
abbrev gz:RS->aB×RS:=qN aB.mk 1
theorem KI{α:Type}(mk:Int->Int->Int->α)(w:Nat)(s:RS):(qN mk w s).2.b.length<=s.b.length:=
 Nat.le_trans (kC _ _) (Nat.le_trans (kC _ _) (kC _ _))
def fF(p:gW):List UInt8:=aV p.mem 1++aV p.fuel 1++aV p.uw 2
def iy(x:ik):List UInt8:=aV x.part 1++aV x.at_ 1++aV x.long 1
def iq(x:aB):List UInt8:=aV x.src 1++aV x.dst 1++aV x.depth 1
def oN(t:aG):List UInt8:=aV t.frame 1++aV t.trial 1++aV (t.parts.length:Int) 1++aV (t.wins.length:Int) 1++aV (t.chans.length:Int) 1
def mM(t:aG):List UInt8:=oN t++t.parts.flatMap fF++t.wins.flatMap iy++t.chans.flatMap iq
def lD:aG:=⟨0,[],[],[],0⟩
structure aPq where
 f:Nat
 t:Nat
 p:Nat
 w:Nat
 c:Nat
def iJ(s:RS):aPq×RS:=
 (⟨(bT s 1).1,(bT (bT s 1).2 1).1,(bT (bT (bT s 1).2 1).2 1).1,(bT (bT (bT (bT s 1).2 1).2 1).2 1).1,(bT (bT (bT (bT (bT s 1).2 1).2 1).2 1).2 1).1⟩,(bT (bT (bT (bT (bT s 1).2 1).2 1).2 1).2 1).2)
def rZ(b:List UInt8):aG×RS:=
 (⟨(iJ ⟨b,0⟩).1.f,(bF fN (iJ ⟨b,0⟩).1.p (iJ ⟨b,0⟩).2).1,(bF jw (iJ ⟨b,0⟩).1.w (bF fN (iJ ⟨b,0⟩).1.p (iJ ⟨b,0⟩).2).2).1,
  (bF gz (iJ ⟨b,0⟩).1.c (bF jw (iJ ⟨b,0⟩).1.w (bF fN (iJ ⟨b,0⟩).1.p (iJ ⟨b,0⟩).2).2).2).1,(iJ ⟨b,0⟩).1.t⟩,
  (bF gz (iJ ⟨b,0⟩).1.c (bF jw (iJ ⟨b,0⟩).1.w (bF fN (iJ ⟨b,0⟩).1.p (iJ ⟨b,0⟩).2).2).2).2)
def lJ(b:List UInt8):aG×Int:=if nP (rZ b).2≠0 then(lD,nP (rZ b).2)else if aS (rZ b).1=true then((rZ b).1,0)else(lD,9)
/-! ### What is put is got. -/
theorem aCV{α:Type}(mk:Int->Int->Int->α)(w:Nat)(hw:1<=w/\w<=6)(a b c:Int)(ha:0<=a/\a<256)(hb:0<=b/\b<256)(hc:0<=c/\c<(256:Int)^w)(rest:List UInt8):
  qN mk w ⟨(aV a 1++aV b 1++aV c w)++rest,0⟩=(mk a b c,⟨rest,0⟩):=by
 have h1:=kK (n:=a) (w:=1) (aV b 1++(aV c w++rest)) (by omega) ha.1 (by simpa using ha.2);have h2:=kK (n:=b) (w:=1) (aV c w++rest) (by omega) hb.1 (by simpa using hb.2);have h3:=kK (n:=c) (w:=w) rest hw hc.1 hc.2;simp only[Int.cast_ofNat_Int]at h1 h2 h3;unfold qN;simp only[List.append_assoc];rw[h1.2,h2.2,h3.2,h1.1,h2.1,h3.1]
theorem aH5{α:Type}(f:RS->α×RS)(g:α->List UInt8):∀(l:List α)(rest:List UInt8),(∀x∈l,∀r,f ⟨g x++r,0⟩=(x,⟨r,0⟩))->∀k,k<=l.length->bF f k ⟨l.flatMap g++rest,0⟩=(l.take k,⟨(l.drop k).flatMap g++rest,0⟩):=by
 intro l rest h k hk;induction k with
 |zero=>rfl
 |succ k ih=>
  have hlt:k<l.length:=by omega
  unfold bF;rw[ih (by omega),List.drop_eq_getElem_cons hlt];simp only[List.flatMap_cons,List.append_assoc];rw[h _ (List.getElem_mem hlt),List.take_succ_eq_append_getElem hlt]
theorem aAe{α:Type}(f:RS->α×RS)(g:α->List UInt8)(l:List α)(rest:List UInt8)(h:∀x∈l,∀r,f ⟨g x++r,0⟩=(x,⟨r,0⟩)):bF f l.length ⟨l.flatMap g++rest,0⟩=(l,⟨rest,0⟩):=by
 rw[aH5 f g l rest h l.length (Nat.le_refl _)];simp
theorem aHf(t:aG)(h:mD t)(rest:List UInt8):iJ ⟨oN t++rest,0⟩=(⟨t.frame.toNat,t.trial.toNat,t.parts.length,t.wins.length,t.chans.length⟩,⟨rest,0⟩):=by
 have f1:=h.f1;have f2:=h.f2;have r1:=h.r1;have r2:=h.r2;have p2:=h.p2;have w8:=h.w8;have c4:=h.c4;have h1:=kK (n:=t.frame) (w:=1) (aV t.trial 1++(aV (t.parts.length:Int) 1++(aV (t.wins.length:Int) 1++(aV (t.chans.length:Int) 1++rest)))) (by omega) (by omega) (by simp;omega);have h2:=kK (n:=t.trial) (w:=1) (aV (t.parts.length:Int) 1++(aV (t.wins.length:Int) 1++(aV (t.chans.length:Int) 1++rest))) (by omega) (by omega) (by simp;omega);have h3:=kK (n:=(t.parts.length:Int)) (w:=1) (aV (t.wins.length:Int) 1++(aV (t.chans.length:Int) 1++rest)) (by omega) (by omega) (by simp;omega);have h4:=kK (n:=(t.wins.length:Int)) (w:=1) (aV (t.chans.length:Int) 1++rest) (by omega) (by omega) (by simp;omega);have h5:=kK (n:=(t.chans.length:Int)) (w:=1) rest (by omega) (by omega) (by simp;omega);simp only[Int.cast_ofNat_Int]at h1 h2 h3 h4 h5;unfold iJ oN;simp only[List.append_assoc];rw[h1.2,h2.2,h3.2,h4.2,h5.2];have e1:=h1.1;have e2:=h2.1;have e3:=h3.1;have e4:=h4.1;have e5:=h5.1;congr 1
 congr 1<;>omega
theorem aLI(t:aG)(h:mD t):rZ (mM t)=(t,⟨[],0⟩):=by
 have hp:=aAe fN fF t.parts (t.wins.flatMap iy++(t.chans.flatMap iq++[])) (fun x hx r=>by
  obtain⟨a1,a2,a3,a4,a5,a6⟩:=h.ps x hx;exact aCV gW.mk 2 (by omega) x.mem x.fuel x.uw (by omega) (by omega) ⟨a5,by simp;omega⟩ r)
 have hw:=aAe jw iy t.wins (t.chans.flatMap iq++[]) (fun x hx r=>by
  obtain⟨a1,a2,a3,a4,a5⟩:=h.win x hx;have:=h.f2;have:=h.p2;exact aCV ik.mk 1 (by omega) x.part x.at_ x.long (by omega) (by omega) (by simp;omega) r)
 have hc:=aAe gz iq t.chans [] (fun x hx r=>by
  obtain⟨a1,a2,a3,a4,a5,a6,a7⟩:=h.cs x hx;have:=h.p2;exact aCV aB.mk 1 (by omega) x.src x.dst x.depth (by omega) (by omega) (by simp;omega) r)
 have hh:=aHf t h (t.parts.flatMap fF++(t.wins.flatMap iy++(t.chans.flatMap iq++[])));have e:mM t=oN t++(t.parts.flatMap fF++(t.wins.flatMap iy++(t.chans.flatMap iq++[]))):=by unfold mM;simp
 unfold rZ;rw[e,hh];simp only;rw[hp];simp only;rw[hw];simp only;rw[hc];have f1:=h.f1;have r1:=h.r1;obtain⟨f,ps,ws,cs,tr⟩:=t;simp only at f1 r1 ⊢;congr 2<;>omega
theorem aK7(t:aG)(h:aS t=true):lJ (mM t)=(t,0):=by
 unfold lJ;rw[aLI t ((bK t).1 h)];simp only;rw[if_neg (by simp[nP]),if_pos h]
/-! ### What was got, put again, is the very bytes. -/
theorem fC{α:Type}(g:α->List UInt8)(n:Nat)(h:∀x,(g x).length=n):∀l:List α,(l.flatMap g).length=l.length*n
 |[]=>by simp
 |x::l=>by rw[List.flatMap_cons,List.length_append,h,fC g n h l,List.length_cons,Nat.add_mul];omega
theorem aAU(p:gW):(fF p).length=4:=by simp[fF,aX]
theorem aBY(p:ik):(iy p).length=3:=by simp[iy,aX]
theorem aCQ(p:aB):(iq p).length=3:=by simp[iq,aX]
theorem aEw(t:aG):(oN t).length=5:=by simp[oN,aX]
theorem aDC(i:aO)(A:Option Addr)(c:Nat)(w:World)(hl:i.code.length<=9223372036854775807):
  Calls prog 100 #[eM i A c] w fun e w'=>e=.returned (.bool (uu i))/\Below w.heap.size w w':=by
 have HI:=hid (eQ i);unfold eU at HI;obtain⟨i0,i1,i2,i3,i4,i5,i6,code⟩:=i;simp only[eM]at HI hl ⊢;generalize uu ⟨i0,i1,i2,i3,i4,i5,i6,code⟩=R at*
 generalize code.length=n at*
 obtain⟨w1,hw1,hb1,hblk⟩:∃w1:World,w.alloc (.cells #[iV i0,iV i1,iV i2,iV i3,iV i4,iV i5,iV i6,.slice A n c] 39)=w1/\Below w.heap.size w w1/\ak w1 w.heap.size 39 [iV i0,iV i1,iV i2,iV i3,iV i4,iV i5,iV i6,.slice A n c]:=
  ⟨_,rfl,(Below.refl _ _).alloc (Nat.le_refl _) _,ak.new w _ [iV i0,iV i1,iV i2,iV i3,iV i4,iV i5,iV i6,.slice A n c]⟩
 have c0:=hblk.cellAt (i:=0) rfl;have c1:=hblk.cellAt (i:=1) rfl;have c2:=hblk.cellAt (i:=2) rfl;have c3:=hblk.cellAt (i:=3) rfl;have c4:=hblk.cellAt (i:=4) rfl;have c5:=hblk.cellAt (i:=5) rfl;have c6:=hblk.cellAt (i:=6) rfl;have c7:=hblk.cellAt (i:=7) rfl;clear hblk;by_cases h0:i0<0
 ·have hR:R=false:=Bool.eq_false_iff.2 (fun h=>by have:=HI.out.1 h;omega);subst hR;have y0:decide (i0<0)=true:=by simp;omega
  clear h0 HI;go_enter func100,ntmps100;go_wp2_with fail;go_ret;exact⟨cZ (by first|rfl|(simp;omega)),hb1⟩
 ·
  by_cases h1:3<i0
  ·have hR:R=false:=Bool.eq_false_iff.2 (fun h=>by have:=HI.out.1 h;omega);subst hR;have y0:decide (i0<0)=false:=by simp;omega
   have y1:decide (3<i0)=true:=by simp;omega
   clear h0 h1 HI;go_enter func100,ntmps100;go_wp2_with fail;go_ret;exact⟨cZ (by first|rfl|(simp;omega)),hb1⟩
  ·
   by_cases h2:i1<1
   ·have hR:R=false:=Bool.eq_false_iff.2 (fun h=>by have:=HI.out.1 h;omega);subst hR;have y0:decide (i0<0)=false:=by simp;omega
    have y1:decide (3<i0)=false:=by simp;omega
    have y2:decide (i1<1)=true:=by simp;omega
    clear h0 h1 h2 HI;go_enter func100,ntmps100;go_wp2_with fail;go_ret;exact⟨cZ (by first|rfl|(simp;omega)),hb1⟩
   ·
    by_cases h3:65535<i1
    ·have hR:R=false:=Bool.eq_false_iff.2 (fun h=>by have:=HI.out.1 h;omega);subst hR;have y0:decide (i0<0)=false:=by simp;omega
     have y1:decide (3<i0)=false:=by simp;omega
     have y2:decide (i1<1)=false:=by simp;omega
     have y3:decide (65535<i1)=true:=by simp;omega
     clear h0 h1 h2 h3 HI;go_enter func100,ntmps100;go_wp2_with fail;go_ret;exact⟨cZ (by first|rfl|(simp;omega)),hb1⟩
    ·
     by_cases h4:i2<0
     ·have hR:R=false:=Bool.eq_false_iff.2 (fun h=>by have:=HI.out.1 h;omega);subst hR;have y0:decide (i0<0)=false:=by simp;omega
      have y1:decide (3<i0)=false:=by simp;omega
      have y2:decide (i1<1)=false:=by simp;omega
      have y3:decide (65535<i1)=false:=by simp;omega
      have y4:decide (i2<0)=true:=by simp;omega
      clear h0 h1 h2 h3 h4 HI;go_enter func100,ntmps100;go_wp2_with fail;go_ret;exact⟨cZ (by first|rfl|(simp;omega)),hb1⟩
     ·
      by_cases h5:65535<i2
      ·have hR:R=false:=Bool.eq_false_iff.2 (fun h=>by have:=HI.out.1 h;omega);subst hR;have y0:decide (i0<0)=false:=by simp;omega
       have y1:decide (3<i0)=false:=by simp;omega
       have y2:decide (i1<1)=false:=by simp;omega
       have y3:decide (65535<i1)=false:=by simp;omega
       have y4:decide (i2<0)=false:=by simp;omega
       have y5:decide (65535<i2)=true:=by simp;omega
       clear h0 h1 h2 h3 h4 h5 HI;go_enter func100,ntmps100;go_wp2_with fail;go_ret;exact⟨cZ (by first|rfl|(simp;omega)),hb1⟩
      ·
       by_cases h6:i3<1
       ·have hR:R=false:=Bool.eq_false_iff.2 (fun h=>by have:=HI.out.1 h;omega);subst hR;have y0:decide (i0<0)=false:=by simp;omega
        have y1:decide (3<i0)=false:=by simp;omega
        have y2:decide (i1<1)=false:=by simp;omega
        have y3:decide (65535<i1)=false:=by simp;omega
        have y4:decide (i2<0)=false:=by simp;omega
        have y5:decide (65535<i2)=false:=by simp;omega
        have y6:decide (i3<1)=true:=by simp;omega
        clear h0 h1 h2 h3 h4 h5 h6 HI;go_enter func100,ntmps100;go_wp2_with fail;go_ret;exact⟨cZ (by first|rfl|(simp;omega)),hb1⟩
       ·
        by_cases h7:16<i3
        ·have hR:R=false:=Bool.eq_false_iff.2 (fun h=>by have:=HI.out.1 h;omega);subst hR;have y0:decide (i0<0)=false:=by simp;omega
         have y1:decide (3<i0)=false:=by simp;omega
         have y2:decide (i1<1)=false:=by simp;omega
         have y3:decide (65535<i1)=false:=by simp;omega
         have y4:decide (i2<0)=false:=by simp;omega
         have y5:decide (65535<i2)=false:=by simp;omega
         have y6:decide (i3<1)=false:=by simp;omega
         have y7:decide (16<i3)=true:=by simp;omega
         clear h0 h1 h2 h3 h4 h5 h6 h7 HI;go_enter func100,ntmps100;go_wp2_with fail;go_ret;exact⟨cZ (by first|rfl|(simp;omega)),hb1⟩
        ·
         by_cases h8:i4<1
         ·have hR:R=false:=Bool.eq_false_iff.2 (fun h=>by have:=HI.out.1 h;omega);subst hR;have y0:decide (i0<0)=false:=by simp;omega
          have y1:decide (3<i0)=false:=by simp;omega
          have y2:decide (i1<1)=false:=by simp;omega
          have y3:decide (65535<i1)=false:=by simp;omega
          have y4:decide (i2<0)=false:=by simp;omega
          have y5:decide (65535<i2)=false:=by simp;omega
          have y6:decide (i3<1)=false:=by simp;omega
          have y7:decide (16<i3)=false:=by simp;omega
          have y8:decide (i4<1)=true:=by simp;omega
          clear h0 h1 h2 h3 h4 h5 h6 h7 h8 HI;go_enter func100,ntmps100;go_wp2_with fail;go_ret;exact⟨cZ (by first|rfl|(simp;omega)),hb1⟩
         ·
          by_cases h9:32<i4
          ·have hR:R=false:=Bool.eq_false_iff.2 (fun h=>by have:=HI.out.1 h;omega);subst hR;have y0:decide (i0<0)=false:=by simp;omega
           have y1:decide (3<i0)=false:=by simp;omega
           have y2:decide (i1<1)=false:=by simp;omega
           have y3:decide (65535<i1)=false:=by simp;omega
           have y4:decide (i2<0)=false:=by simp;omega
           have y5:decide (65535<i2)=false:=by simp;omega
           have y6:decide (i3<1)=false:=by simp;omega
           have y7:decide (16<i3)=false:=by simp;omega
           have y8:decide (i4<1)=false:=by simp;omega
           have y9:decide (32<i4)=true:=by simp;omega
           clear h0 h1 h2 h3 h4 h5 h6 h7 h8 h9 HI;go_enter func100,ntmps100;go_wp2_with fail;go_ret;exact⟨cZ (by first|rfl|(simp;omega)),hb1⟩
          ·
           by_cases h10:i5<0
           ·have hR:R=false:=Bool.eq_false_iff.2 (fun h=>by have:=HI.out.1 h;omega);subst hR;have y0:decide (i0<0)=false:=by simp;omega
            have y1:decide (3<i0)=false:=by simp;omega
            have y2:decide (i1<1)=false:=by simp;omega
            have y3:decide (65535<i1)=false:=by simp;omega
            have y4:decide (i2<0)=false:=by simp;omega
            have y5:decide (65535<i2)=false:=by simp;omega
            have y6:decide (i3<1)=false:=by simp;omega
            have y7:decide (16<i3)=false:=by simp;omega
            have y8:decide (i4<1)=false:=by simp;omega
            have y9:decide (32<i4)=false:=by simp;omega
            have Ha:decide (i5<0)=true:=by simp;omega
            clear h0 h1 h2 h3 h4 h5 h6 h7 h8 h9 h10 HI;go_enter func100,ntmps100;go_wp2_with fail;go_ret;exact⟨cZ (by first|rfl|(simp;omega)),hb1⟩
           ·
            by_cases h11:15<i5
            ·have hR:R=false:=Bool.eq_false_iff.2 (fun h=>by have:=HI.out.1 h;omega);subst hR;have y0:decide (i0<0)=false:=by simp;omega
             have y1:decide (3<i0)=false:=by simp;omega
             have y2:decide (i1<1)=false:=by simp;omega
             have y3:decide (65535<i1)=false:=by simp;omega
             have y4:decide (i2<0)=false:=by simp;omega
             have y5:decide (65535<i2)=false:=by simp;omega
             have y6:decide (i3<1)=false:=by simp;omega
             have y7:decide (16<i3)=false:=by simp;omega
             have y8:decide (i4<1)=false:=by simp;omega
             have y9:decide (32<i4)=false:=by simp;omega
             have Ha:decide (i5<0)=false:=by simp;omega
             have Oo:decide (15<i5)=true:=by simp;omega
             clear h0 h1 h2 h3 h4 h5 h6 h7 h8 h9 h10 h11 HI;go_enter func100,ntmps100;go_wp2_with fail;go_ret;exact⟨cZ (by first|rfl|(simp;omega)),hb1⟩
            ·
             by_cases h12:i6<0
             ·have hR:R=false:=Bool.eq_false_iff.2 (fun h=>by have:=HI.out.1 h;omega);subst hR;have y0:decide (i0<0)=false:=by simp;omega
              have y1:decide (3<i0)=false:=by simp;omega
              have y2:decide (i1<1)=false:=by simp;omega
              have y3:decide (65535<i1)=false:=by simp;omega
              have y4:decide (i2<0)=false:=by simp;omega
              have y5:decide (65535<i2)=false:=by simp;omega
              have y6:decide (i3<1)=false:=by simp;omega
              have y7:decide (16<i3)=false:=by simp;omega
              have y8:decide (i4<1)=false:=by simp;omega
              have y9:decide (32<i4)=false:=by simp;omega
              have Ha:decide (i5<0)=false:=by simp;omega
              have Oo:decide (15<i5)=false:=by simp;omega
              have y12:decide (i6<0)=true:=by simp;omega
              clear h0 h1 h2 h3 h4 h5 h6 h7 h8 h9 h10 h11 h12 HI;go_enter func100,ntmps100;go_wp2_with fail;go_ret;exact⟨cZ (by first|rfl|(simp;omega)),hb1⟩
             ·
              by_cases Lr:15<i6
              ·have hR:R=false:=Bool.eq_false_iff.2 (fun h=>by have:=HI.out.1 h;omega);subst hR;have y0:decide (i0<0)=false:=by simp;omega
               have y1:decide (3<i0)=false:=by simp;omega
               have y2:decide (i1<1)=false:=by simp;omega
               have y3:decide (65535<i1)=false:=by simp;omega
               have y4:decide (i2<0)=false:=by simp;omega
               have y5:decide (65535<i2)=false:=by simp;omega
               have y6:decide (i3<1)=false:=by simp;omega
               have y7:decide (16<i3)=false:=by simp;omega
               have y8:decide (i4<1)=false:=by simp;omega
               have y9:decide (32<i4)=false:=by simp;omega
               have Ha:decide (i5<0)=false:=by simp;omega
               have Oo:decide (15<i5)=false:=by simp;omega
               have y12:decide (i6<0)=false:=by simp;omega
               have y13:decide (15<i6)=true:=by simp;omega
               clear h0 h1 h2 h3 h4 h5 h6 h7 h8 h9 h10 h11 h12 Lr HI;go_enter func100,ntmps100;go_wp2_with fail;go_ret;exact⟨cZ (by first|rfl|(simp;omega)),hb1⟩
              ·
               by_cases zk:1<=(n:Int)
               ·
                by_cases Ie:(n:Int)<=96
                ·
                 have hR:R=true:=HI.out.2 (by omega);subst hR;have y0:decide (i0<0)=false:=by simp;omega
                 have y1:decide (3<i0)=false:=by simp;omega
                 have y2:decide (i1<1)=false:=by simp;omega
                 have y3:decide (65535<i1)=false:=by simp;omega
                 have y4:decide (i2<0)=false:=by simp;omega
                 have y5:decide (65535<i2)=false:=by simp;omega
                 have y6:decide (i3<1)=false:=by simp;omega
                 have y7:decide (16<i3)=false:=by simp;omega
                 have y8:decide (i4<1)=false:=by simp;omega
                 have y9:decide (32<i4)=false:=by simp;omega
                 have Ha:decide (i5<0)=false:=by simp;omega
                 have Oo:decide (15<i5)=false:=by simp;omega
                 have y12:decide (i6<0)=false:=by simp;omega
                 have y13:decide (15<i6)=false:=by simp;omega
                 have y14:decide (1<=(n:Int))=true:=by simp;omega
                 have y15:decide ((n:Int)<=96)=true:=by simp;omega
                 clear h0 h1 h2 h3 h4 h5 h6 h7 h8 h9 h10 h11 h12 Lr zk Ie HI;go_enter func100,ntmps100;go_wp2_with fail;go_ret;exact⟨cZ (by first|rfl|(simp;omega)),hb1⟩
                ·have hR:R=false:=Bool.eq_false_iff.2 (fun h=>by have:=HI.out.1 h;omega);subst hR;have y0:decide (i0<0)=false:=by simp;omega
                 have y1:decide (3<i0)=false:=by simp;omega
                 have y2:decide (i1<1)=false:=by simp;omega
                 have y3:decide (65535<i1)=false:=by simp;omega
                 have y4:decide (i2<0)=false:=by simp;omega
                 have y5:decide (65535<i2)=false:=by simp;omega
                 have y6:decide (i3<1)=false:=by simp;omega
                 have y7:decide (16<i3)=false:=by simp;omega
                 have y8:decide (i4<1)=false:=by simp;omega
                 have y9:decide (32<i4)=false:=by simp;omega
                 have Ha:decide (i5<0)=false:=by simp;omega
                 have Oo:decide (15<i5)=false:=by simp;omega
                 have y12:decide (i6<0)=false:=by simp;omega
                 have y13:decide (15<i6)=false:=by simp;omega
                 have y14:decide (1<=(n:Int))=true:=by simp;omega
                 have y15:decide ((n:Int)<=96)=false:=by simp;omega
                 clear h0 h1 h2 h3 h4 h5 h6 h7 h8 h9 h10 h11 h12 Lr zk Ie HI;go_enter func100,ntmps100;go_wp2_with fail;go_ret;exact⟨cZ (by first|rfl|(simp;omega)),hb1⟩
               ·have hR:R=false:=Bool.eq_false_iff.2 (fun h=>by have:=HI.out.1 h;omega);subst hR;have y0:decide (i0<0)=false:=by simp;omega
                have y1:decide (3<i0)=false:=by simp;omega
                have y2:decide (i1<1)=false:=by simp;omega
                have y3:decide (65535<i1)=false:=by simp;omega
                have y4:decide (i2<0)=false:=by simp;omega
                have y5:decide (65535<i2)=false:=by simp;omega
                have y6:decide (i3<1)=false:=by simp;omega
                have y7:decide (16<i3)=false:=by simp;omega
                have y8:decide (i4<1)=false:=by simp;omega
                have y9:decide (32<i4)=false:=by simp;omega
                have Ha:decide (i5<0)=false:=by simp;omega
                have Oo:decide (15<i5)=false:=by simp;omega
                have y12:decide (i6<0)=false:=by simp;omega
                have y13:decide (15<i6)=false:=by simp;omega
                have y14:decide (1<=(n:Int))=false:=by simp;omega
                clear h0 h1 h2 h3 h4 h5 h6 h7 h8 h9 h10 h11 h12 Lr zk HI;go_enter func100,ntmps100;go_wp2_with fail;go_ret;exact⟨cZ (by first|rfl|(simp;omega)),hb1⟩
end Go.Proofs.YtfjkpigldogkeaaGreatDoor
