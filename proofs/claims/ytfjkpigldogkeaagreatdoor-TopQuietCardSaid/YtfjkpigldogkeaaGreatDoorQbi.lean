/- Contracts of functions that TopQuiet reaches, under the conditions that each states. -/
import Derived.Test.YtfjkpigldogkeaaGreatDoorQbd
import Derived.Test.YtfjkpigldogkeaaGreatDoorQbf
import Derived.Test.YtfjkpigldogkeaaGreatDoorQbg
set_option linter.all false
set_option maxRecDepth 100000
set_option maxHeartbeats 8000000
namespace Go.Proofs.YtfjkpigldogkeaaGreatDoor
open Go.RowKit Go.ChangeShapes Go.WideShapes Go.ChangeAt Go.Proofs.Tryz
structure qy where
 own:Nat
 lg:Nat
 s0:Nat
 s1:Nat
structure Kw (w:World) (d p:Nat) (a:qy) (n:Nat):Prop where
 own:ak w a.own 196 [.pointer (some (tZ a.lg 0)),.pointer (some (tZ a.s0 0)),.pointer (some (tZ a.s1 0))]
 log:ak w a.lg 287 (qJ d p (10*p) (10*p+1) 0 (aQ p))
 s0:ak w a.s0 390 (iU d p 0 true 1 n (fP ((n-1)/16+1)))
 s1:ak w a.s1 390 (iU d p 1 false 0 0 0)
theorem Kw.belowS{w w':World}{d p:Nat}{a:qy}{n:Nat}(h:Kw w d p a n)(hb:Below w.heap.size w w'):Kw w' d p a n:=⟨h.own.belowS hb,h.log.belowS hb,h.s0.belowS hb,h.s1.belowS hb⟩
def dR(b:Nat):Value:=.pointer (some (tZ b 0))
structure nN (w:World) (b d:Nat) (t:aG) (ta:bM) (Al:Option Addr) (cl:Nat) (ps:List qy) (ns:List Nat):Prop where
 blk:ak w b 188 (bI t ta++[.slice Al ps.length cl])
 tab:dM w t ta
 l:ai w w.heap.size 1 Al ps.length (ps.map fun a=>dR a.own)
 pa:∀(p:Nat)(a:qy)(n:Nat),ps[p]? =some a->ns[p]? =some n->Kw w d p a n
theorem nN.belowS{w w':World}{b d:Nat}{t:aG}{ta:bM}{Al:Option Addr}{cl:Nat}{ps:List qy}{ns:List Nat}(h:nN w b d t ta Al cl ps ns)(hb:Below w.heap.size w w'):nN w' b d t ta Al cl ps ns:=
 ⟨h.blk.belowS hb,h.tab.belowS hb,h.l.belowS hb,fun p a n ha hn=>(h.pa p a n ha hn).belowS hb⟩
theorem aDf(v0 v1 v2 v3 v4 v5:Value)(w:World):(Instr.field 68 (.agg #[v0,v1,v2,v3,v4,v5]) 2).run prog w=.ok v2 w:=by kernel_rfl
theorem aCX(v0 v1 v2 v3 v4 v5:Value)(w:World):(Instr.field 68 (.agg #[v0,v1,v2,v3,v4,v5]) 3).run prog w=.ok v3 w:=by kernel_rfl
section
variable{w w' w0:World}{d gl ca sl p k b n:Nat}{A:Option Addr}{L:List (List UInt8)}{fu:Int}{l:List ay}{a:qy}
theorem aBE{lg a0 a1:Nat}{held:Int}{r:lq}(h:ak w lg 287 (qJ d p a0 a1 held r)):
  Calls prog 122 #[.pointer (some (tZ lg 0))] w fun e w'=>e=.returned (lC r)/\Below w.heap.size w w':=by
 obtain⟨W,hW,hX,hY,hb⟩:∃W,w.alloc (.cells #[iV 0,iV 0,iV 0,iV 0,iV 0,iV 0] 68)=W/\ak W w.heap.size 68 [iV 0,iV 0,iV 0,iV 0,iV 0,iV 0]/\ak W lg 287 (qJ d p a0 a1 held r)/\Below w.heap.size w W:=
  ⟨_,rfl,ak.new w _ [iV 0,iV 0,iV 0,iV 0,iV 0,iV 0],h.alloc _,ah _ _⟩
 obtain⟨r0,r1,r2,r3,r4,r5⟩:=r;have z5:W.cell? (tZ lg 5)=some (iV r0):=hY.cellAt rfl;have z6:W.cell? (tZ lg 6)=some (iV r1):=hY.cellAt rfl;have z7:W.cell? (tZ lg 7)=some (iV r2):=hY.cellAt rfl;have z8:W.cell? (tZ lg 8)=some (iV r3):=hY.cellAt rfl;have z9:W.cell? (tZ lg 9)=some (iV r4):=hY.cellAt rfl;have AU:W.cell? (tZ lg 10)=some (iV r5):=hY.cellAt rfl;have x0:W.cell? (tZ w.heap.size 0)=some (iV 0):=hX.cellAt rfl;have x1:W.cell? (tZ w.heap.size 1)=some (iV 0):=hX.cellAt rfl;have x2:W.cell? (tZ w.heap.size 2)=some (iV 0):=hX.cellAt rfl;have x3:W.cell? (tZ w.heap.size 3)=some (iV 0):=hX.cellAt rfl;have x4:W.cell? (tZ w.heap.size 4)=some (iV 0):=hX.cellAt rfl;have x5:W.cell? (tZ w.heap.size 5)=some (iV 0):=hX.cellAt rfl;have xf:=hX.frozen;have HX:=hid hX;have HB:=hid hb;clear h hX hY hb;unfold lC;dsimp only;go_enter func122,ntmps122;go_wp2_with fail;clear hW;obtain⟨w6,vU,uS,GF,uQ⟩:=aCw HX.out rfl (iV r0) (iV r1) (iV r2) (iV r3) (iV r4) (iV r5);rw[vU];clear vU xf x0 x1 x2 x3 x4 x5 z5 z6 z7 z8 z9 AU;have q0:w6.cell? (tZ w.heap.size 0)=some (iV r0):=uQ.cellAt rfl;have q1:w6.cell? (tZ w.heap.size 1)=some (iV r1):=uQ.cellAt rfl;have q2:w6.cell? (tZ w.heap.size 2)=some (iV r2):=uQ.cellAt rfl;have q3:w6.cell? (tZ w.heap.size 3)=some (iV r3):=uQ.cellAt rfl
 have q4:w6.cell? (tZ w.heap.size 4)=some (iV r4):=uQ.cellAt rfl;have q5:w6.cell? (tZ w.heap.size 5)=some (iV r5):=uQ.cellAt rfl;refine bodyPost_ret (v:=.agg #[iV r0,iV r1,iV r2,iV r3,iV r4,iV r5]) (by simp[results,results122,go_sem,q0,q1,q2,q3,q4,q5]) rfl ?_;exact⟨rfl,HB.out.trans uS⟩
theorem aNI(h:Kw w d p a n):
  Calls prog 201 #[.pointer (some (tZ a.own 0))] w fun e w'=>e=.returned (.bool false)/\Below w.heap.size w w':=by
 obtain⟨ow,lg,s0,s1⟩:=a;have c0:w.cell? (tZ ow 0)=some (.pointer (some (tZ lg 0))):=h.own.cellAt rfl;have i1:=hid (fun W (hb:Below w.heap.size w W)=>aBE (h.log.belowS hb));have HO:=hid h.own;have f2:=aDf;have f3:=aCX;unfold lC aQ at i1;dsimp only at i1 HO ⊢;clear h;go_enter func201,ntmps201;go_wp2_with fail;go_region_held3 (fun w'=>w'.cell? (tZ ow 0)=some (.pointer (some (tZ lg 0)))) (go_keep)
  (first|(go_at_call 122;refine(i1.out _ ?_).mono ?_;(first|exact uz.out|exact(Below.refl _ _).drew);(first|(rintro e w2 ⟨rfl,hb2⟩;have yQ:=ag uz.out hb2)|(rintro e w2 ⟨rfl,hb2⟩;have yQ:Below w.heap.size w w2:=⟨hb2.os,hb2.tape,hb2.output,hb2.size,hb2.block⟩));have z0:w2.cell? (tZ ow 0)=some (.pointer (some (tZ lg 0))):=(HO.out.belowS yQ).cellAt rfl;have uz:=hid yQ;clear hb2 yQ))
 all_goals(
  go_wp2_with fail;go_ret;exact⟨rfl,uz.out⟩)
end
section
variable{w w' w0:World}{d gl ca sl p k b n:Nat}{A:Option Addr}{L:List (List UInt8)}{fu:Int}{l:List ay}{a:qy}{t:aG}{ta:bM}{Al:Option Addr}{cl:Nat}{ps:List qy}{ns:List Nat}
theorem nN.cells(h:nN w b d t ta Al cl ps ns)(hp:ps[p]? =some a):w.cell? (tZ b 5)=some (.slice Al ps.length cl)/\p<ps.length/\∃ad,Al=some ad/\ad.block<w.heap.size/\w.cell? (ad.add p)=some (.pointer (some (tZ a.own 0))):=by
 have hlt:=(List.getElem?_eq_some_iff.1 hp).1;obtain⟨ad,x,e,hb,hx,hc⟩:=h.l.He hlt;rw[hp]at hx;injection hx with hx
 subst hx;exact⟨h.blk.cellAt rfl,hlt,ad,e,hb,hc⟩
theorem aLa(h:nN w b d t ta Al cl ps ns)(hp:ps[p]? =some a):
  Calls prog 142 #[.pointer (some (tZ b 0)),iV (p:Int)] w fun e w'=>e=.returned (.tuple #[.pointer (some (tZ a.own 0)),iV 0])/\w=w':=by
 obtain⟨c5,hlt,ad,rfl,_,hc⟩:=h.cells hp;obtain⟨ow,lg,s0,s1⟩:=a;dsimp only at hc ⊢;generalize ps.length=N at c5 hlt;have g1:decide ((p:Int)<0)=false:=decide_eq_false (by omega);have g2:decide ((N:Int)<=(p:Int))=false:=decide_eq_false (by omega);have g2':decide (N<=p)=false:=decide_eq_false (by omega);have q1:(0:Int)<=(p:Int):=Int.natCast_nonneg _;have q2:(p:Int)<(N:Int):=by omega
 clear h hp hlt;go_enter func142,ntmps142;go_wp2_with fail;go_ret2;exact⟨rfl,rfl⟩
theorem aLk(h:nN w b d t ta Al cl ps ns)(hp:ps[p]? =some a)(hn:ns[p]? =some n):
  Calls prog 71 #[.pointer (some (tZ b 0)),iV (p:Int)] w fun e w'=>e=.returned (lC (aQ p))/\Below w.heap.size w w':=by
 obtain⟨W,hW,hX,hb⟩:∃W,w.alloc (.cells #[iV 0,iV 0,iV 0,iV 0,iV 0,iV 0] 68)=W/\ak W w.heap.size 68 [iV 0,iV 0,iV 0,iV 0,iV 0,iV 0]/\Below w.heap.size w W:=
  ⟨_,rfl,ak.new w _ [iV 0,iV 0,iV 0,iV 0,iV 0,iV 0],ah _ _⟩
 have hS:=h.belowS hb;have i1:=hid (aLa hS hp);have Au:=hS.pa p a n hp hn;have i2:=hid (aBE Au.log);obtain⟨ow,lg,s0,s1⟩:=a;have c0:W.cell? (tZ ow 0)=some (.pointer (some (tZ lg 0))):=Au.own.cellAt rfl;unfold lC aQ at i2;dsimp only at i1 i2;have HX:=hid hX;have HB:=hid hb;clear h hX hb hS Au hp hn;unfold lC aQ;dsimp only;go_enter func71,ntmps71;go_wp2_with fail;clear hW;refine i1.out.mono ?_;rintro e w1⟨rfl,rfl⟩;go_wp2_with fail;refine i2.out.mono ?_;rintro e w2⟨rfl,hb2⟩;have hx2:=HX.out.belowS hb2;have x0:w2.cell? (tZ w.heap.size 0)=some (iV 0):=hx2.cellAt rfl;have x1:w2.cell? (tZ w.heap.size 1)=some (iV 0):=hx2.cellAt rfl;have x2:w2.cell? (tZ w.heap.size 2)=some (iV 0):=hx2.cellAt rfl;have x3:w2.cell? (tZ w.heap.size 3)=some (iV 0):=hx2.cellAt rfl;have x4:w2.cell? (tZ w.heap.size 4)=some (iV 0):=hx2.cellAt rfl;have x5:w2.cell? (tZ w.heap.size 5)=some (iV 0):=hx2.cellAt rfl;have xf:=hx2.frozen;have vV:=hid hx2;have uz:=hid (ag HB.out hb2);clear hx2 hb2 c0 i1 i2;go_wp2_with fail;obtain⟨w6,vU,uS,GF,uQ⟩:=aCw vV.out rfl (iV (p:Int)) (iV 1) (iV 0) (iV 0) (iV 0) (iV 0);rw[vU];clear vU xf x0 x1 x2 x3 x4 x5;have q0:w6.cell? (tZ w.heap.size 0)=some (iV (p:Int)):=uQ.cellAt rfl;have q1:w6.cell? (tZ w.heap.size 1)=some (iV 1):=uQ.cellAt rfl;have q2:w6.cell? (tZ w.heap.size 2)=some (iV 0):=uQ.cellAt rfl
 have q3:w6.cell? (tZ w.heap.size 3)=some (iV 0):=uQ.cellAt rfl;have q4:w6.cell? (tZ w.heap.size 4)=some (iV 0):=uQ.cellAt rfl;have q5:w6.cell? (tZ w.heap.size 5)=some (iV 0):=uQ.cellAt rfl;refine bodyPost_ret (v:=.agg #[iV (p:Int),iV 1,iV 0,iV 0,iV 0,iV 0]) (by simp[results,results71,go_sem,q0,q1,q2,q3,q4,q5]) rfl ?_;exact⟨rfl,uz.out.trans uS⟩
end
structure oO (L:List (List UInt8)) (p:Nat) (i:aO):Prop where
 r0:L[10*p]? =some (iM (aQ p))
 r1:L[10*p+1]? =some (List.replicate 64 (0:UInt8))
 s0:L[10*p+2]? =some (je (jV 1 (49+i.code.length) (fP ((49+i.code.length-1)/16+1))))
 s1:L[10*p+6]? =some (List.replicate 64 (0:UInt8))
 dt:kX L (10*p+3) (49+i.code.length)=pI i
theorem aGL(i:aO)(hr:eU i)(A:Option Addr)(c:Nat)(w:World)(hc:49+i.code.length<=c)(hcm:c<=maxLen)(h:ai w w.heap.size 1 A (49+i.code.length) ((pI i).map bV)):
  Calls prog 191 #[.slice A (49+i.code.length) c] w fun e w'=>∃A' c',e=.returned (.tuple #[eM i A' c',iV 0])/\w'.ownsRow w.heap.size 5 1 (.slice A' i.code.length c') i.code.length (i.code.map bV)/\Below w.heap.size w w':=by
 obtain⟨p0,p1,p2,p3,p4,p5,p6,code⟩:=i;obtain⟨⟨h0,_⟩,⟨h1,_⟩,⟨h2,_⟩,⟨h3,_⟩,⟨h4,_⟩,⟨h5,_⟩,⟨h6,_⟩,_,_⟩:=id hr;simp only at h0 h1 h2 h3 h4 h5 h6;obtain⟨n0,rfl⟩:=Int.eq_ofNat_of_zero_le h0;obtain⟨n1,rfl⟩:=Int.eq_ofNat_of_zero_le (show 0<=p1 by omega);obtain⟨n2,rfl⟩:=Int.eq_ofNat_of_zero_le h2;obtain⟨n3,rfl⟩:=Int.eq_ofNat_of_zero_le (show 0<=p3 by omega);obtain⟨n4,rfl⟩:=Int.eq_ofNat_of_zero_le (show 0<=p4 by omega);obtain⟨n5,rfl⟩:=Int.eq_ofNat_of_zero_le h5;obtain⟨n6,rfl⟩:=Int.eq_ofNat_of_zero_le h6;exact aFB n0 n1 n2 n3 n4 n5 n6 code hr A _ c w rfl hc hcm h
section
variable{w w' w0:World}{d gl ca sl p k b n:Nat}{A:Option Addr}{L:List (List UInt8)}{fu:Int}{l:List ay}{a:qy}{t:aG}{ta:bM}{Al:Option Addr}{cl:Nat}{ps:List qy}{ns:List Nat}
theorem aIH(i:aO)(h:nN w b d t ta Al cl ps ns)(hro:nI w d gl A ca L fu)(h64:∀x∈L,x.length=64)(hp:ps[p]? =some a)(hn:ns[p]? =some (49+i.code.length))(FQ:p<4)(hL:10*p+9<L.length)(hd:oO L p i)(hI:eU i)(hE:fG t p i 0=0):
  Calls prog 123 #[.pointer (some (tZ b 0)),iV (p:Int),iV 0] w fun e w'=>∃A' c',e=.returned (.tuple #[eM i A' c',iV 0])/\w'.ownsRow w.heap.size 5 1 (.slice A' i.code.length c') i.code.length (i.code.map bV)/\Below w.heap.size w w':=by
 have hcl:=hI.2.2.2.2.2.2.2.2;obtain⟨W,hW,hX,hb⟩:∃W,w.alloc (.cells #[iV 0,iV 0,iV 0,iV 0,iV 0,iV 0,iV 0,.slice none 0 0] 39)=W/\ak W w.heap.size 39 [iV 0,iV 0,iV 0,iV 0,iV 0,iV 0,iV 0,.slice none 0 0]/\Below w.heap.size w W:=
  ⟨_,rfl,ak.new w _ [iV 0,iV 0,iV 0,iV 0,iV 0,iV 0,iV 0,.slice none 0 0],ah _ _⟩
 have hS:=h.belowS hb;have hR:=hro.belowS hb;obtain⟨c5,hlt,ad,rfl,_,hc⟩:=hS.cells hp;have Au:=hS.pa p a _ hp hn;have i1:=aKt 1 (49+i.code.length) Au.s0 hR h64 FQ (by omega) (by omega) (by omega);rw[show 10*p+(2+0*4+1)=10*p+3 by omega,hd.dt]at i1;have I1:=hid i1;have i2:=hid (fun A W h=>aGL i hI A (49+i.code.length) W (Nat.le_refl _) (by unfold maxLen;omega) h);have i3:=hid (fun A c W (hbW:Below w.heap.size w W)=>aEg t ta p i A c 0 W (h.tab.belowS hbW) (by omega));rw[hE]at i3;obtain⟨ow,lg,s0,s1⟩:=a;have o1:W.cell? (tZ ow 1)=some (.pointer (some (tZ s0 0))):=Au.own.cellAt rfl;dsimp only at hc I1;have HX:=hid hX;have HB:=hid hb;have NG:=hid hS.blk;generalize ps.length=N at c5 hlt NG;have q1:(0:Int)<=(p:Int):=Int.natCast_nonneg _;have q2:(p:Int)<(N:Int):=by omega
 generalize 49+i.code.length=M at I1 i2;clear h hro h64 hp hn hd hE hX hb hS hR Au i1 hlt hL FQ hI hcl;go_enter func123,ntmps123;go_wp2_with fail;clear hW;refine I1.out.mono ?_;rintro e w1⟨A1,rfl,vW,hb1⟩;have vw:=hid (ag HB.out hb1);have Hr:=hid vW;have yj:=hid (HX.out.belowS hb1);have aTo:=hid (NG.out.belowS hb1);clear hb1 vW c5 hc o1 I1;go_wp2_with fail;refine(i2.out _ _ Hr.out).mono ?_;rintro e w2⟨A2,c2,rfl,hown,hb2⟩;have aTp:=hid yj.out.lt;have uz:=hid (ag vw.out hb2);have vV:=hid (yj.out.belowS hb2);have aTq:=hid (aTo.out.belowS hb2);have HOW:=hid hown;clear hb2 hown Hr yj aTo HB HX NG vw;unfold eM;obtain⟨p0,p1,p2,p3,p4,p5,p6,code⟩:=i;go_wp2_with fail;obtain⟨w3,hw3,Ar,hb3⟩:∃w3,w2.alloc (.cells #[iV p0,iV p1,iV p2,iV p3,iV p4,iV p5,iV p6,.slice A2 code.length c2] 39)=w3/\ak w3 w2.heap.size 39 [iV p0,iV p1,iV p2,iV p3,iV p4,iV p5,iV p6,.slice A2 code.length c2]/\Below w2.heap.size w2 w3:=
  ⟨_,rfl,ak.new w2 _ [iV p0,iV p1,iV p2,iV p3,iV p4,iV p5,iV p6,.slice A2 code.length c2],ah _ _⟩
 rw[hw3];have vk:=hid (ag uz.out hb3);have yl:=hid (vV.out.belowS hb3);have aS1:=aTq.out.belowS hb3;have hbs:w2.heap.size<w3.heap.size:=Ar.lt;have hxs:w.heap.size<w2.heap.size:=vV.out.lt;have uU:=hid (dS HOW.out fun x hx=>hb3.block x (HOW.out.lt x (aN.2 hx)).2);clear hw3 hb3 vV aTq HOW uz;obtain⟨t0,t1,t2,t3,t4⟩:=t;have HQ:Hid (∀w',Below w3.heap.size w3 w'->w'.cell? (tZ b 0)=some (iV t0)/\w'.cell? (tZ b 1)=some (.slice ta.A1 t1.length ta.c1)/\w'.cell? (tZ b 2)=some (.slice ta.A2 t2.length ta.c2)/\w'.cell? (tZ b 3)=some (.slice ta.A3 t3.length ta.c3)/\w'.cell? (tZ b 4)=some (iV t4)/\w'.cell? (tZ w2.heap.size 0)=some (iV p0)/\w'.cell? (tZ w2.heap.size 1)=some (iV p1)/\w'.cell? (tZ w2.heap.size 2)=some (iV p2)/\w'.cell? (tZ w2.heap.size 3)=some (iV p3)/\w'.cell? (tZ w2.heap.size 4)=some (iV p4)/\w'.cell? (tZ w2.heap.size 5)=some (iV p5)/\w'.cell? (tZ w2.heap.size 6)=some (iV p6)/\w'.cell? (tZ w2.heap.size 7)=some (.slice A2 code.length c2)):=hid fun w' hb=>(by and_intros<;>first|exact(aS1.belowS hb).cellAt rfl|exact(Ar.belowS hb).cellAt rfl)
 obtain⟨e0,e1,e2,e3,e4,g0,g1,g2,g3,g4,g5,g6,g7⟩:=HQ.out w3 (Below.refl _ _);have HI3:=hid Ar;have Fb:=hid aS1.lt;have i4:=hid (i3.out A2 c2 w3.drew (dD vk.out));unfold gU eM at i4;clear Ar aS1 i3 i2;go_region_held3 (fun w'=>w'.cell? (tZ b 0)=some (iV t0)/\w'.cell? (tZ b 1)=some (.slice ta.A1 t1.length ta.c1)/\w'.cell? (tZ b 2)=some (.slice ta.A2 t2.length ta.c2)/\w'.cell? (tZ b 3)=some (.slice ta.A3 t3.length ta.c3)/\w'.cell? (tZ b 4)=some (iV t4)/\w'.cell? (tZ w2.heap.size 0)=some (iV p0)/\w'.cell? (tZ w2.heap.size 1)=some (iV p1)/\w'.cell? (tZ w2.heap.size 2)=some (iV p2)/\w'.cell? (tZ w2.heap.size 3)=some (iV p3)/\w'.cell? (tZ w2.heap.size 4)=some (iV p4)/\w'.cell? (tZ w2.heap.size 5)=some (iV p5)/\w'.cell? (tZ w2.heap.size 6)=some (iV p6)/\w'.cell? (tZ w2.heap.size 7)=some (.slice A2 code.length c2)) (go_keep)
  (first|(go_at_call 168;refine i4.out.mono ?_;rintro e w4 ⟨rfl,hb4⟩;have vI:=hid (show Below w3.heap.size w3 w4 from ag (dD (Below.refl _ _)) hb4);clear hb4;obtain⟨x0,x1,x2,x3,x4,y0,y1,y2,y3,y4,y5,y6,y7⟩:=HQ.out _ vI.out))
 have wX:=hid (yl.out.belowS vI.out);have wP:=hid (ag vk.out vI.out);have wI:=hid (dS uU.out fun x hx=>vI.out.block x (uU.out.lt x (aN.2 hx)).2);have z0:w4.cell? (tZ w.heap.size 0)=some (iV 0):=wX.out.cellAt rfl;have z1:w4.cell? (tZ w.heap.size 1)=some (iV 0):=wX.out.cellAt rfl;have z2:w4.cell? (tZ w.heap.size 2)=some (iV 0):=wX.out.cellAt rfl;have z3:w4.cell? (tZ w.heap.size 3)=some (iV 0):=wX.out.cellAt rfl;have z4:w4.cell? (tZ w.heap.size 4)=some (iV 0):=wX.out.cellAt rfl;have z5:w4.cell? (tZ w.heap.size 5)=some (iV 0):=wX.out.cellAt rfl;have z6:w4.cell? (tZ w.heap.size 6)=some (iV 0):=wX.out.cellAt rfl;have z7:w4.cell? (tZ w.heap.size 7)=some (.slice none 0 0):=wX.out.cellAt rfl;have zf:=wX.out.frozen;clear HQ e0 e1 e2 e3 e4 g0 g1 g2 g3 g4 g5 g6 g7 x0 x1 x2 x3 x4 HI3 uU vk yl i4;go_wp2_with fail;obtain⟨w5,zo,uP,FU,Ff⟩:=LV wX.out rfl (iV p0) (iV p1) (iV p2) (iV p3) (iV p4) (iV p5) (iV p6) (.slice A2 code.length c2);rw[zo];clear zo z0 z1 z2 z3 z4 z5 z6 z7 zf;obtain⟨r0,r1,r2,r3,r4,r5,r6,r7⟩:_/\_/\_/\_/\_/\_/\_/\_:=⟨Ff.cellAt (i:=0) rfl,Ff.cellAt (i:=1) rfl,Ff.cellAt (i:=2) rfl,Ff.cellAt (i:=3) rfl,Ff.cellAt (i:=4) rfl,Ff.cellAt (i:=5) rfl,Ff.cellAt (i:=6) rfl,Ff.cellAt (i:=7) rfl⟩
 refine bodyPost_ret (v:=.tuple #[.agg #[iV p0,iV p1,iV p2,iV p3,iV p4,iV p5,iV p6,.slice A2 code.length c2],iV 0]) (by simp[results,results123,go_sem,r0,r1,r2,r3,r4,r5,r6,r7]) rfl ?_;exact⟨A2,c2,rfl,bh (dS wI.out fun x hx=>FU x (by have:=(wI.out.lt x (aN.2 hx)).1;have:=aTp.out;omega)) (by have:=aTp.out;omega),wP.out.trans (uP.mono (Nat.le_refl _))⟩
end
section
variable{w w' w0:World}{d gl ca sl p k b n:Nat}{A:Option Addr}{L:List (List UInt8)}{fu:Int}{l:List ay}{a:qy}{t:aG}{ta:bM}{Al:Option Addr}{cl:Nat}{ps:List qy}{ns:List Nat}
theorem aON(i:aO)(h:nN w b d t ta Al cl ps ns)(hro:nI w d gl A ca L fu)(h64:∀x∈L,x.length=64)(hp:ps[p]? =some a)(hn:ns[p]? =some (49+i.code.length))(FQ:p<4)(hL:10*p+9<L.length)(hd:oO L p i)(hI:eU i)(hE:fG t p i 0=0):
  Calls prog 130 #[.pointer (some (tZ b 0)),iV (p:Int)] w fun e w'=>∃A' c',e=.returned (.tuple #[eM i A' c',iV 0])/\w'.ownsRow w.heap.size 5 1 (.slice A' i.code.length c') i.code.length (i.code.map bV)/\Below w.heap.size w w':=by
 obtain⟨W,hW,hX,hb⟩:∃W,w.alloc (.cells #[iV 0,iV 0,iV 0,iV 0,iV 0,iV 0,iV 0,.slice none 0 0] 39)=W/\ak W w.heap.size 39 [iV 0,iV 0,iV 0,iV 0,iV 0,iV 0,iV 0,.slice none 0 0]/\Below w.heap.size w W:=
  ⟨_,rfl,ak.new w _ [iV 0,iV 0,iV 0,iV 0,iV 0,iV 0,iV 0,.slice none 0 0],ah _ _⟩
 have hS:=h.belowS hb;have i1:=hid (aLa hS hp);have Au:=hS.pa p a _ hp hn;have i2:=hid (aBE Au.log);have i3:=hid (fun W' (hb:Below W.heap.size W W')=>aNI (Au.belowS hb));have i4:=hid (fun W' (hb:Below w.heap.size w W')=>aIH i (h.belowS hb) (hro.belowS hb) h64 hp hn FQ hL hd hI hE);obtain⟨ow,lg,s0,s1⟩:=a;have c0:W.cell? (tZ ow 0)=some (.pointer (some (tZ lg 0))):=Au.own.cellAt rfl;unfold lC aQ at i2;dsimp only at i1 i2 i3;have HX:=hid hX;have HB:=hid hb;clear h hro h64 hX hb hS Au hp hn FQ hL hd hI hE;go_enter func130,ntmps130;go_wp2_with fail;clear hW;refine i1.out.mono ?_;rintro e w1⟨rfl,rfl⟩;go_wp2_with fail;refine i2.out.mono ?_;rintro e w2⟨rfl,hb2⟩;go_wp2_with fail;obtain⟨w3,hw3,LY,hb3⟩:∃w3,w2.alloc (.cells #[iV (p:Int),iV 1,iV 0,iV 0,iV 0,iV 0] 68)=w3/\ak w3 w2.heap.size 68 [iV (p:Int),iV 1,iV 0,iV 0,iV 0,iV 0]/\Below w2.heap.size w2 w3:=
  ⟨_,rfl,ak.new w2 _ [iV (p:Int),iV 1,iV 0,iV 0,iV 0,iV 0],ah _ _⟩
 rw[hw3];clear hw3;have vp:=ag hb2 hb3;refine(i3.out _ vp).mono ?_;rintro e w4⟨rfl,hb4⟩;have zV:=ag HB.out (ag vp hb4);have e2:w4.cell? (tZ w2.heap.size 2)=some (iV 0):=(LY.belowS hb4).cellAt rfl;have wX:=hid (HX.out.belowS (ag vp hb4));have i5:=hid (i4.out _ zV);have vI:=hid zV;clear LY hb3 vp hb4 zV hb2 i1 i2 i3 i4 c0 HX HB;go_wp2_with fail;refine i5.out.mono ?_;rintro e w5⟨A5,c5,rfl,hown,uP⟩;have xy:=hid (wX.out.belowS uP);have wP:=hid (ag vI.out uP);have hlt:=hid wX.out.lt;have HOW:=hid hown;obtain⟨p0,p1,p2,p3,p4,p5,p6,code⟩:=i;have z0:w5.cell? (tZ w.heap.size 0)=some (iV 0):=xy.out.cellAt rfl;have z1:w5.cell? (tZ w.heap.size 1)=some (iV 0):=xy.out.cellAt rfl;have z2:w5.cell? (tZ w.heap.size 2)=some (iV 0):=xy.out.cellAt rfl;have z3:w5.cell? (tZ w.heap.size 3)=some (iV 0):=xy.out.cellAt rfl;have z4:w5.cell? (tZ w.heap.size 4)=some (iV 0):=xy.out.cellAt rfl;have z5:w5.cell? (tZ w.heap.size 5)=some (iV 0):=xy.out.cellAt rfl;have z6:w5.cell? (tZ w.heap.size 6)=some (iV 0):=xy.out.cellAt rfl;have z7:w5.cell? (tZ w.heap.size 7)=some (.slice none 0 0):=xy.out.cellAt rfl;have zf:=xy.out.frozen;unfold eM;clear hown uP i5 wX vI;go_wp2_with fail;obtain⟨w6,vU,uS,GF,uQ⟩:=LV xy.out rfl (iV p0) (iV p1) (iV p2) (iV p3) (iV p4) (iV p5) (iV p6) (.slice A5 code.length c5);rw[vU]
 clear vU z0 z1 z2 z3 z4 z5 z6 z7 zf;obtain⟨r0,r1,r2,r3,r4,r5,r6,r7⟩:_/\_/\_/\_/\_/\_/\_/\_:=⟨uQ.cellAt (i:=0) rfl,uQ.cellAt (i:=1) rfl,uQ.cellAt (i:=2) rfl,uQ.cellAt (i:=3) rfl,uQ.cellAt (i:=4) rfl,uQ.cellAt (i:=5) rfl,uQ.cellAt (i:=6) rfl,uQ.cellAt (i:=7) rfl⟩;refine bodyPost_ret (v:=.tuple #[.agg #[iV p0,iV p1,iV p2,iV p3,iV p4,iV p5,iV p6,.slice A5 code.length c5],iV 0]) (by simp[results,results130,go_sem,r0,r1,r2,r3,r4,r5,r6,r7]) rfl ?_;exact⟨A5,c5,rfl,bh (dS HOW.out fun x hx=>GF x (by have:=(HOW.out.lt x (aN.2 hx)).1;have:=hlt.out;omega)) (by have:=hlt.out;omega),wP.out.trans (uS.mono (Nat.le_refl _))⟩
end
section
variable{w w' w0:World}{d gl ca sl p k b n:Nat}{A:Option Addr}{L:List (List UInt8)}{fu:Int}{l:List ay}{t:aG}{ta:bM}
theorem aCY(hro:nI w d gl A ca L fu)(hT:dM w t ta)(hr:aS t=true)(h1:1<=t.parts.length)(h4:t.parts.length<=4)(hL:10*t.parts.length<=L.length):
  Calls prog 118 #[.pointer (some (tZ d 0)),gU t ta] w fun e w'=>e=.returned (iV 0)/\Below w.heap.size w w':=by
 obtain⟨W,hW,hX,hb⟩:∃W,w.alloc (.cells (bI t ta).toArray 26)=W/\ak W w.heap.size 26 (bI t ta)/\Below w.heap.size w W:=⟨_,rfl,ak.new w _ _,ah _ _⟩;have i1:=hid (jq t ta W (hT.belowS hb));have i2:=hid (fun W' (Ho:Below W.heap.size W W')=>(aAV (hro.belowS (ag hb Ho))));have i3:=hid (fun W'=>aJQ t.parts.length h1 h4 W');rw[hr]at i1;obtain⟨t0,t1,t2,t3,t4⟩:=t;have c0:W.cell? (tZ w.heap.size 0)=some (iV t0):=hX.cellAt rfl;have c1:W.cell? (tZ w.heap.size 1)=some (.slice ta.A1 t1.length ta.c1):=hX.cellAt rfl;have c2:W.cell? (tZ w.heap.size 2)=some (.slice ta.A2 t2.length ta.c2):=hX.cellAt rfl;have c3:W.cell? (tZ w.heap.size 3)=some (.slice ta.A3 t3.length ta.c3):=hX.cellAt rfl;have c4:W.cell? (tZ w.heap.size 4)=some (iV t4):=hX.cellAt rfl;have HB:=hid hb;unfold gU;simp only[bI,iV]at hW hX;have HX:=hid hX;dsimp only at i1 i2 i3 h1 h4 hL ⊢;have g:decide ((L.length:Int)<10*(t1.length:Int))=false:=decide_eq_false (by omega);have g':decide (L.length<10*t1.length)=false:=decide_eq_false (by omega);clear hro hT hr hX hb h1 h4 hL;generalize t1.length=n1 at*
 generalize L.length=NL at*
 go_enter func118,ntmps118;go_wp2_with fail;clear hW;refine i1.out.mono ?_;rintro e w1⟨rfl,hb1⟩;have d1:w1.cell? (tZ w.heap.size 1)=some (.slice ta.A1 n1 ta.c1):=(HX.out.belowS hb1).cellAt rfl;have vw:=hid (ag HB.out hb1);have i4:=hid (fun n=>(i2.out (w1.drewN n) (bW hb1 n)).mono (R':=fun e w'=>e=.returned (iV (NL:Int))/\w'=w1.drewN n) fun e w' h=>⟨h.1,h.2.symm⟩);clear c0 c1 c2 c3 c4 hb1 i1 i2;go_wp2_with fail;go_quiet ((first|(go_at_call 182;exact Calls.quiet_of_same (i4.out _))|(go_at_call 183;exact Calls.quiet_of_same (i3.out _))))
 go_wp2_with fail;go_ret;exact⟨rfl,bW vw.out _⟩
end
def aL4(d p k:Nat)(S:List Value)(W:World):Prop:=Calls prog 189 #[.pointer (some (tZ d 0)),iV (p:Int),iV (k:Int)] W fun e w'=>∃sl,e=.returned (.tuple #[.pointer (some (tZ sl 0)),iV 0])/\W.heap.size<=sl/\ak w' sl 390 S/\Below W.heap.size W w'
def qR(lg:Value)(s0 s1:Value):List Value:=[lg,s0,s1]
section
variable{w w' w0:World}{d p ow:Nat}{l:List ay}{lg v1 v2:Value}{S0 S1:List Value}
theorem aE9(h:ae w0 (aj ow 196 (qR lg v1 v2)::l) w)(h0:∀W,ae w0 l W->aL4 d p 0 S0 W)(h1:∀W,ae w0 l W->aL4 d p 1 S1 W):
  Calls prog 121 #[.pointer (some (tZ ow 0)),.pointer (some (tZ d 0)),iV (p:Int)] w fun e w'=>∃yZ Aw,e=.returned (iV 0)/\ae w0 (aj ow 196 (qR lg (.pointer (some (tZ yZ 0))) (.pointer (some (tZ Aw 0))))::aj yZ 390 S0::aj Aw 390 S1::l) w':=by
 have i1:=hid (h0 w h.drop);have H:=hid h;have H1:=hid h1;unfold aL4 at i1 H1;clear h h0 h1;go_enter func121,ntmps121;go_wp2_with fail;refine wp_loop_rounds 3 ?_;rw[rounds_succ];go_wp2_with fail;refine i1.out.mono ?_;rintro e w1⟨yZ,rfl,hs0,zG,hb1⟩;have HA:=hid ((H.out.push hb1 (C:=aj yZ 390 S0) (F1:=fun b=>b=yZ) ⟨zG,fun _=>Iff.rfl⟩ (fun b hb=>by rw[hb];exact hs0)).at_ 1 rfl);have c1:w1.cell? (tZ ow 1)=some v1:=HA.out.blk.cellAt rfl;have f1:=HA.out.blk.frozen 1;have vY:=HA.out.store 1 (.pointer (some (tZ yZ 0)));have i2:=hid (H1.out _ (vY.drop.drop));have HB:=hid vY;clear vY HA H hb1 zG hs0 i1 H1;go_wp2_with fail;rw[rounds_succ];go_wp2_with fail;refine i2.out.mono ?_;rintro e w2⟨Aw,rfl,hs1,xO,hb2⟩;have HC:=hid ((HB.out.push hb2 (C:=aj Aw 390 S1) (F1:=fun b=>b=Aw) ⟨xO,fun _=>Iff.rfl⟩ (fun b hb=>by rw[hb];exact hs1)).at_ 1 rfl);have c2:w2.cell? (tZ ow 2)=some v2:=HC.out.blk.cellAt rfl;have f2:=HC.out.blk.frozen 2;have HD:=hid (HC.out.store 2 (.pointer (some (tZ Aw 0))));clear HC HB hb2 xO hs1 i2 c1 f1;go_wp2_with fail;rw[rounds_succ];go_wp2_with fail;go_ret;exact⟨yZ,Aw,rfl,HD.out.perm (by
  refine List.Perm.cons _ (List.Perm.swap _ _ _))⟩
end
structure jr (L0 L:List (List UInt8)) (p size m:Nat) (b:List UInt8):Prop where
 ok:eX (dH L (-1))
 len:L.length=L0.length
 st:L[10*p+2]? =some (je (jV 1 size (fP m)))
 dat:∀j,j<16*m->mW L (10*p+3) j=b.getD j 0
 far:∀k,k<10*p+2\/10*p+6<=k->L[k]? =L0[k]?
def aG2(L:List (List UInt8))(p size m:Nat)(b:List UInt8):List (List UInt8):=
 (L.set (10*p+(2+0*4+1+m/4)) (pY (L.getD (10*p+3+m/4) []) (m%4*16) (rX b m))).set (10*p+(2+0*4)) (je (jV 1 size (fP (m+1))))
theorem jr.first{L0:List (List UInt8)}{p size:Nat}(b:List UInt8)(h:eX (dH L0 (-1)))(hL:10*p+9<L0.length):jr L0 (sQ L0 p 0 (je (jV 1 size 0))) p size 0 b:=by
 refine⟨gZ h (aBp _),by unfold sQ;rw[List.length_set],?_,fun j hj=>by omega,fun k hk=>?_⟩
 ·unfold sQ;rw[show 10*p+(2+0*4)=10*p+2 by omega,List.getElem?_set_self (by omega)];rfl
 ·unfold sQ;rw[List.getElem?_set_ne (by omega)]
theorem jr.aQO{L0 L:List (List UInt8)}{p size m:Nat}{b:List UInt8}(h:jr L0 L p size m b){k:Nat}(hk:k<L0.length):(L.getD k []).length=64/\L[k]? =some (L.getD k []):=by
 have hk':k<L.length:=by rw[h.len];exact hk
 have e:L[k]? =some (L.getD k []):=by rw[List.getD_eq_getElem?_getD,List.getElem?_eq_getElem hk'];rfl
 exact⟨h.ok.laid _ (List.mem_of_getElem? e),e⟩
theorem jr.step{L0 L:List (List UInt8)}{p size m:Nat}{b:List UInt8}(h:jr L0 L p size m b)(hL:10*p+9<L0.length)(hm:m<12):jr L0 (aG2 L p size m b) p size (m+1) b:=by
 have hq:10*p+3+m/4<L.length:=by rw[h.len];omega
 have hl:=(h.aQO (k:=10*p+3+m/4) (by omega)).1;unfold aG2;rw[show 10*p+(2+0*4+1+m/4)=10*p+3+m/4 by omega,show 10*p+(2+0*4)=10*p+2 by omega];refine⟨gZ (gZ h.ok ?_) (aBp _),by rw[List.length_set,List.length_set];exact h.len,?_,fun j hj=>?_,fun k hk=>?_⟩
 ·rw[aGo (by rw[aCS,hl];omega),hl]
 ·rw[List.getElem?_set_self (by rw[List.length_set];omega)]
 ·rw[aJ5 _ 3 (.inl (by omega)) j (by omega),aIZ (aCS b m) hq hl];by_cases h1:16*m<=j/\j<16*m+16
  ·rw[if_pos h1,aMJ (by omega),show m*16+(j-16*m)=j by omega]
  ·rw[if_neg h1];exact h.dat j (by omega)
 ·rw[List.getElem?_set_ne (by omega),List.getElem?_set_ne (by omega)];exact h.far k hk
theorem aGS(b:List UInt8)(m:Nat):(List.replicate 16 (Value.int .u8 0)).take 0++((b.drop (m*16)).take 16).map bV++(List.replicate 16 (Value.int .u8 0)).drop (0+(((b.drop (m*16)).take 16).map bV).length)=(rX b m).map bV:=by
 unfold rX;simp[List.map_append,List.drop_replicate,List.map_replicate,bV];show List.drop _ (List.replicate 16 _)=_
 rw[List.drop_replicate]
theorem jr.all{L0 L:List (List UInt8)}{p size m:Nat}{b:List UInt8}(h:jr L0 L p size m b)(hb:b.length=size)(hm:size<=16*m):kX L (10*p+3) size=b:=by
 rw[<-hb];exact aJd (by omega) h.dat
end Go.Proofs.YtfjkpigldogkeaaGreatDoor
