/- Contracts of functions that TopQuiet reaches, under the conditions that each states. -/
import Derived.Test.YtfjkpigldogkeaaGreatDoorQay
set_option linter.all false
set_option maxRecDepth 100000
set_option maxHeartbeats 4000000
namespace Go.Proofs.YtfjkpigldogkeaaGreatDoor
open Go.RowKit Go.ChangeShapes Go.WideShapes Go.ChangeAt Go.Proofs.Tryz
theorem aCw{w:World}{b:Nat}{T:TypeId}{cs:List Value}(h:ak w b T cs)(hl:cs.length=6)(v0 v1 v2 v3 v4 v5:Value):
  ∃w':World,((((((w.setCell (tZ b 0) v0).setCell (tZ b 1) v1).setCell (tZ b 2) v2).setCell (tZ b 3) v3).setCell (tZ b 4) v4).setCell (tZ b 5) v5)=w'/\Below b w w'/\(∀k,k≠b->w'.heap[k]? =w.heap[k]?)/\ak w' b T [v0,v1,v2,v3,v4,v5]:=by
 refine⟨_,rfl,(((((((Below.refl _ _).setCell (p:=⟨b,0,none⟩) (Nat.le_refl _) _).setCell (p:=⟨b,1,none⟩) (Nat.le_refl _) _).setCell (p:=⟨b,2,none⟩) (Nat.le_refl _) _).setCell (p:=⟨b,3,none⟩) (Nat.le_refl _) _).setCell (p:=⟨b,4,none⟩) (Nat.le_refl _) _).setCell (p:=⟨b,5,none⟩) (Nat.le_refl _) _),fun k hk=>((Below.heap_setCell _ _ _ _ hk).trans ((Below.heap_setCell _ _ _ _ hk).trans ((Below.heap_setCell _ _ _ _ hk).trans ((Below.heap_setCell _ _ _ _ hk).trans ((Below.heap_setCell _ _ _ _ hk).trans (Below.heap_setCell _ _ _ _ hk)))))),?_⟩;have:=((((((h.uh 0 v0).uh 1 v1).uh 2 v2).uh 3 v3).uh 4 v4).uh 5 v5);match cs,hl with
 |[_,_,_,_,_,_],_=>exact this
theorem aIq{w:World}{b:Nat}{T:TypeId}{cs:List Value}(h:ak w b T cs)(hl:cs.length=3)(v0 v1 v2:Value):
  ∃w':World,(((w.setCell (tZ b 0) v0).setCell (tZ b 1) v1).setCell (tZ b 2) v2)=w'/\Below b w w'/\(∀k,k≠b->w'.heap[k]? =w.heap[k]?)/\ak w' b T [v0,v1,v2]:=by
 refine⟨_,rfl,((((Below.refl _ _).setCell (p:=⟨b,0,none⟩) (Nat.le_refl _) _).setCell (p:=⟨b,1,none⟩) (Nat.le_refl _) _).setCell (p:=⟨b,2,none⟩) (Nat.le_refl _) _),fun k hk=>((Below.heap_setCell _ _ _ _ hk).trans ((Below.heap_setCell _ _ _ _ hk).trans (Below.heap_setCell _ _ _ _ hk))),?_⟩;have:=(((h.uh 0 v0).uh 1 v1).uh 2 v2);match cs,hl with
 |[_,_,_],_=>exact this
theorem aJB{r:lq}(h:jT r=true):jX 19523 (iM r) 11=0:=by
 have h1:=aCg h;unfold aFb at h1;split at h1
 ·rename_i h2
  obtain⟨h2,_⟩:=h2;unfold aEE at h2;simp only[Bool.and_eq_true,decide_eq_true_eq]at h2;obtain⟨⟨a,b⟩,c⟩:=h2;unfold jX;rw[if_pos ⟨by rw[a];rfl,b⟩,if_pos c]
 ·cases h1
theorem aGR{s:oG}(h:ji s=true):jX 19539 (je s) 8=0:=by
 have h1:=aCm h;unfold aED at h1;split at h1
 ·rename_i h2
  obtain⟨h2,_⟩:=h2;unfold aEJ at h2;simp only[Bool.and_eq_true,decide_eq_true_eq]at h2;obtain⟨⟨a,b⟩,c⟩:=h2;unfold jX;rw[if_pos ⟨by rw[a];rfl,b⟩,if_pos c]
 ·cases h1
theorem aJy{r:lq}(h:jT r=true):J0 (iM r)=r:=by
 have h1:=aCg h;unfold aFb at h1;split at h1
 ·injection h1
 ·cases h1
theorem aJc{s:oG}(h:ji s=true):qj (je s)=s:=by
 have h1:=aCm h;unfold aED at h1;split at h1
 ·injection h1
 ·cases h1
theorem aCG(mark:Int)(N:Nat)(hm:(0:Int)≠mark):jX mark (List.replicate 64 (0:UInt8)) N=2:=by
 unfold jX;rw[if_neg];rintro⟨h,_⟩;rw[show fv (List.replicate 64 (0:UInt8)) 0 2=0 from by decide]at h;exact hm h
theorem aJ4(b:List UInt8):oh b [1,4,1,1,1,1] 6=oJ (J0 b):=rfl
theorem aKu(b:List UInt8):oh b [2,2,2] 3=[iV (qj b).uq,iV (qj b).size,iV (qj b).uF]:=rfl
theorem aM4{r:lq}(h:jT r=true):oh (iM r) [1,4,1,1,1,1] 6=oJ r:=by rw[aJ4,aJy h]
theorem aCc(p:Nat)(hp:p<4):jT (aQ p)=true:=by
 have h1:qK (p:Int) 0 3=true:=lX.2 (by omega);unfold jT aQ;simp only[h1];rfl
theorem aE4(uq size uF:Nat)(h1:1<=uq/\uq<=65535)(h2:1<=size/\size<=160)(h3:uF<2^((size-1)/16+1)):ji (jV uq size uF)=true:=by
 have e:ng (size:Int)=(size-1)/16+1:=by
  unfold ng;rw[if_neg (by omega)];omega
 unfold ji jV;simp only[Bool.and_eq_true,lX,e];generalize 2^((size-1)/16+1)=M at h3 ⊢;omega
theorem aKe{uq size uF:Nat}(h:ji (jV uq size uF)=true):jX 19539 (je (jV uq size uF)) 8=0:=aGR h
theorem aKM{uq size uF:Nat}(h:ji (jV uq size uF)=true):oh (je (jV uq size uF)) [2,2,2] 3=nH uq size uF:=by rw[aKu,aJc h];rfl
theorem aKC{w:World}{b g:Nat}(hb:ak w b 445 (aIe g)):J4 w b g [1,4,1,1,1,1]:=by
 refine⟨hb.lt,fun k W hk=>?_⟩;have h6:k<6:=(List.getElem?_eq_some_iff.1 hk).1;have hc:k=0\/k=1\/k=2\/k=3\/k=4\/k=5:=by omega
 rcases hc with rfl|rfl|rfl|rfl|rfl|rfl
 all_goals(
  cases hk;exact⟨hb.cellAt rfl,hb.cellAt rfl⟩)
theorem aLC{w:World}{b g:Nat}(hb:ak w b 489 (aIu g)):J4 w b g [2,2,2]:=by
 refine⟨hb.lt,fun k W hk=>?_⟩;have h6:k<3:=(List.getElem?_eq_some_iff.1 hk).1;have hc:k=0\/k=1\/k=2:=by omega
 rcases hc with rfl|rfl|rfl
 all_goals(
  cases hk;exact⟨hb.cellAt rfl,hb.cellAt rfl⟩)
section
variable{w w' w0:World}
theorem aFe(p:Nat)(hp:p<4)(A:Option Addr)(c:Nat)(w:World)(h:ai w w.heap.size 1 A 64 ((iM (aQ p)).map bV))(hc:64<=c):
  Calls prog 188 #[.slice A 64 c] w fun e w'=>e=.returned (.tuple #[lC (aQ p),iV 0])/\Below w.heap.size w w':=by
 have HO:=hid (aJB (aCc p hp));have HV:=hid (aM4 (aCc p hp));have i4:=hid (fun w=>aCq p hp w);generalize iM (aQ p)=bs at h HO HV;obtain⟨W,hW,hX1,vh,hb2,hs2⟩:∃W,(w.alloc (.cells #[iV 0,iV 0,iV 0,iV 0,iV 0,iV 0] 68)).alloc (.cells #[iV 0,iV 0,iV 0,iV 0,iV 0,iV 0] 68)=W/\ak W w.heap.size 68 [iV 0,iV 0,iV 0,iV 0,iV 0,iV 0]/\ak W (w.heap.size+1) 68 [iV 0,iV 0,iV 0,iV 0,iV 0,iV 0]/\Below w.heap.size w W/\W.heap.size=w.heap.size+2:=
  ⟨_,rfl,(ak.new w 68 [iV 0,iV 0,iV 0,iV 0,iV 0,iV 0]).alloc _,by have:=ak.new (w.alloc (.cells #[iV 0,iV 0,iV 0,iV 0,iV 0,iV 0] 68)) 68 [iV 0,iV 0,iV 0,iV 0,iV 0,iV 0];simpa using this,((Below.refl _ _).alloc (Nat.le_refl _) _).alloc (by simp) _,by simp⟩
 have i2:=hid (aBd (w.heap.size+1) W vh.lt);have yj:=hid hX1;have vV:=hid vh;have uz:=hid hb2;have yX:=hid hs2;have HR:=hid h;clear hX1 vh hb2 hs2 h;go_enter func188,ntmps188;go_wp2_with fail;clear hW;refine i2.out.mono ?_;rintro e w3⟨b,rfl,hb3,hbb,hblk⟩;have zO:b≠w.heap.size+1:=by have:=yX.out;omega
 have i3:=aAB 19523 b (w.heap.size+1) 6 68 [1,4,1,1,1,1] [iV 0,iV 0,iV 0,iV 0,iV 0,iV 0] A c 6 bs w3 ((HR.out.below (uz.out.trans (hb3.mono (by have:=yX.out;omega)))).more (Nat.le_succ _)) hc (aKC hblk) zO (vV.out.belowS hb3) rfl rfl (by omega) (by intro W hW;simp only[List.mem_cons,List.not_mem_nil,or_false]at hW;rcases hW with rfl|rfl|rfl|rfl|rfl|rfl<;>exact⟨by decide,by omega,by omega⟩) 11 (by rfl) (by omega) (fun u hu=>⟨0,by simpa using hu⟩);rw[HO.out]at i3;rw[HV.out]at i3;have I3:=hid i3;have vk:=hid (uz.out.trans (hb3.mono (by have:=yX.out;omega)));have yl:=hid (yj.out.belowS hb3);clear i3 hb3 hbb hblk zO i2;go_wp2_with fail;refine I3.out.mono ?_;rintro e w4⟨rfl,hB4,hg4⟩;have wX:=hid (yl.out.grown hg4 (by intro e;injection e with e;omega));have vI:=hid (vk.out.grown hg4 (vk.out.size) (by intro k e;injection e with e;omega));have Cb:=hid hB4;clear I3 hB4 hg4;have y0:w4.cell? (tZ (w.heap.size+1) 0)=some (iV (p:Int)):=Cb.out.cellAt rfl;have y1:w4.cell? (tZ (w.heap.size+1) 1)=some (iV 1):=Cb.out.cellAt rfl;have y2:w4.cell? (tZ (w.heap.size+1) 2)=some (iV 0):=Cb.out.cellAt rfl;have y3:w4.cell? (tZ (w.heap.size+1) 3)=some (iV 0):=Cb.out.cellAt rfl;have y4:w4.cell? (tZ (w.heap.size+1) 4)=some (iV 0):=Cb.out.cellAt rfl;have y5:w4.cell? (tZ (w.heap.size+1) 5)=some (iV 0):=Cb.out.cellAt rfl;unfold lC aQ at i4;dsimp only at i4;go_wp2_with fail
 refine(i4.out w4).mono ?_;rintro e w5⟨rfl,uP⟩;have xy:=hid (wX.out.belowS uP);have wP:=hid (vI.out.trans (uP.mono vI.out.size));have Ea:=hid (Cb.out.belowS uP);clear y0 y1 y2 y3 y4 y5 uP i4;have y0:w5.cell? (tZ (w.heap.size+1) 0)=some (iV (p:Int)):=Ea.out.cellAt rfl;have y1:w5.cell? (tZ (w.heap.size+1) 1)=some (iV 1):=Ea.out.cellAt rfl;have y2:w5.cell? (tZ (w.heap.size+1) 2)=some (iV 0):=Ea.out.cellAt rfl;have y3:w5.cell? (tZ (w.heap.size+1) 3)=some (iV 0):=Ea.out.cellAt rfl;have y4:w5.cell? (tZ (w.heap.size+1) 4)=some (iV 0):=Ea.out.cellAt rfl;have y5:w5.cell? (tZ (w.heap.size+1) 5)=some (iV 0):=Ea.out.cellAt rfl;have x0:w5.cell? (tZ w.heap.size 0)=some (iV 0):=xy.out.cellAt rfl;have x1:w5.cell? (tZ w.heap.size 1)=some (iV 0):=xy.out.cellAt rfl;have x2:w5.cell? (tZ w.heap.size 2)=some (iV 0):=xy.out.cellAt rfl;have x3:w5.cell? (tZ w.heap.size 3)=some (iV 0):=xy.out.cellAt rfl;have x4:w5.cell? (tZ w.heap.size 4)=some (iV 0):=xy.out.cellAt rfl;have x5:w5.cell? (tZ w.heap.size 5)=some (iV 0):=xy.out.cellAt rfl;have xf:=xy.out.frozen;go_wp2_with fail;obtain⟨w6,vU,uS,GF,uQ⟩:=aCw xy.out rfl (iV (p:Int)) (iV 1) (iV 0) (iV 0) (iV 0) (iV 0);rw[vU];clear vU xf x0 y0 x1 y1 x2 y2 x3 y3 x4 y4 x5 y5;have r0:w6.cell? (tZ w.heap.size 0)=some (iV (p:Int)):=uQ.cellAt rfl
 have r1:w6.cell? (tZ w.heap.size 1)=some (iV 1):=uQ.cellAt rfl;have r2:w6.cell? (tZ w.heap.size 2)=some (iV 0):=uQ.cellAt rfl;have r3:w6.cell? (tZ w.heap.size 3)=some (iV 0):=uQ.cellAt rfl;have r4:w6.cell? (tZ w.heap.size 4)=some (iV 0):=uQ.cellAt rfl;have r5:w6.cell? (tZ w.heap.size 5)=some (iV 0):=uQ.cellAt rfl;refine bodyPost_ret (v:=.tuple #[.agg #[iV (p:Int),iV 1,iV 0,iV 0,iV 0,iV 0],iV 0]) (by simp[results,results188,go_sem,r0,r1,r2,r3,r4,r5]) rfl ?_;exact⟨rfl,wP.out.trans uS⟩
theorem aEN(A:Option Addr)(c:Nat)(w:World)(h:ai w w.heap.size 1 A 64 ((List.replicate 64 (0:UInt8)).map bV))(hc:64<=c):
  Calls prog 188 #[.slice A 64 c] w fun e w'=>e=.returned (.tuple #[.agg #[iV 0,iV 0,iV 0,iV 0,iV 0,iV 0],iV 2])/\Below w.heap.size w w':=by
 have HO:Hid (jX 19523 (List.replicate 64 (0:UInt8)) 11=2):=hid (aCG 19523 11 (by decide));generalize List.replicate 64 (0:UInt8)=bs at h HO;obtain⟨W,hW,hX1,vh,hb2,hs2⟩:∃W,(w.alloc (.cells #[iV 0,iV 0,iV 0,iV 0,iV 0,iV 0] 68)).alloc (.cells #[iV 0,iV 0,iV 0,iV 0,iV 0,iV 0] 68)=W/\ak W w.heap.size 68 [iV 0,iV 0,iV 0,iV 0,iV 0,iV 0]/\ak W (w.heap.size+1) 68 [iV 0,iV 0,iV 0,iV 0,iV 0,iV 0]/\Below w.heap.size w W/\W.heap.size=w.heap.size+2:=
  ⟨_,rfl,(ak.new w 68 [iV 0,iV 0,iV 0,iV 0,iV 0,iV 0]).alloc _,by have:=ak.new (w.alloc (.cells #[iV 0,iV 0,iV 0,iV 0,iV 0,iV 0] 68)) 68 [iV 0,iV 0,iV 0,iV 0,iV 0,iV 0];simpa using this,((Below.refl _ _).alloc (Nat.le_refl _) _).alloc (by simp) _,by simp⟩
 have i2:=hid (aBd (w.heap.size+1) W vh.lt);have yj:=hid hX1;have vV:=hid vh;have uz:=hid hb2;have yX:=hid hs2;have HR:=hid h;clear hX1 vh hb2 hs2 h;go_enter func188,ntmps188;go_wp2_with fail;clear hW;refine i2.out.mono ?_;rintro e w3⟨b,rfl,hb3,hbb,hblk⟩;have zO:b≠w.heap.size+1:=by have:=yX.out;omega
 have i3:=aAB 19523 b (w.heap.size+1) 6 68 [1,4,1,1,1,1] [iV 0,iV 0,iV 0,iV 0,iV 0,iV 0] A c 6 bs w3 ((HR.out.below (uz.out.trans (hb3.mono (by have:=yX.out;omega)))).more (Nat.le_succ _)) hc (aKC hblk) zO (vV.out.belowS hb3) rfl rfl (by omega) (by intro W hW;simp only[List.mem_cons,List.not_mem_nil,or_false]at hW;rcases hW with rfl|rfl|rfl|rfl|rfl|rfl<;>exact⟨by decide,by omega,by omega⟩) 11 (by rfl) (by omega) (fun u hu=>⟨0,by simpa using hu⟩);rw[HO.out]at i3;have I3:=hid i3;have vk:=hid (uz.out.trans (hb3.mono (by have:=yX.out;omega)));have yl:=hid (yj.out.belowS hb3);clear i3 hb3 hbb hblk zO i2;go_wp2_with fail;refine I3.out.mono ?_;rintro e w4⟨rfl,hB4,hg4⟩;have wX:=hid (yl.out.grown hg4 (by intro e;injection e with e;omega));have vI:=hid (vk.out.grown hg4 (vk.out.size) (by intro k e;injection e with e;omega));have Cb:=hid hB4;clear I3 hB4 hg4;have x0:w4.cell? (tZ w.heap.size 0)=some (iV 0):=wX.out.cellAt rfl;have x1:w4.cell? (tZ w.heap.size 1)=some (iV 0):=wX.out.cellAt rfl;have x2:w4.cell? (tZ w.heap.size 2)=some (iV 0):=wX.out.cellAt rfl;have x3:w4.cell? (tZ w.heap.size 3)=some (iV 0):=wX.out.cellAt rfl;have x4:w4.cell? (tZ w.heap.size 4)=some (iV 0):=wX.out.cellAt rfl;have x5:w4.cell? (tZ w.heap.size 5)=some (iV 0):=wX.out.cellAt rfl;have xf:=wX.out.frozen;go_wp2_with fail
 obtain⟨w6,vU,uS,GF,uQ⟩:=aCw wX.out rfl (iV 0) (iV 0) (iV 0) (iV 0) (iV 0) (iV 0);rw[vU];clear vU xf x0 x1 x2 x3 x4 x5;have r0:w6.cell? (tZ w.heap.size 0)=some (iV 0):=uQ.cellAt rfl;have r1:w6.cell? (tZ w.heap.size 1)=some (iV 0):=uQ.cellAt rfl;have r2:w6.cell? (tZ w.heap.size 2)=some (iV 0):=uQ.cellAt rfl;have r3:w6.cell? (tZ w.heap.size 3)=some (iV 0):=uQ.cellAt rfl;have r4:w6.cell? (tZ w.heap.size 4)=some (iV 0):=uQ.cellAt rfl;have r5:w6.cell? (tZ w.heap.size 5)=some (iV 0):=uQ.cellAt rfl;refine bodyPost_ret (v:=.tuple #[.agg #[iV 0,iV 0,iV 0,iV 0,iV 0,iV 0],iV 2]) (by simp[results,results188,go_sem,r0,r1,r2,r3,r4,r5]) rfl ?_;exact⟨rfl,vI.out.trans uS⟩
theorem aKJ(uq size uF:Nat)(h1:1<=uq/\uq<=65535)(h2:1<=size/\size<=160)(h3:uF<2^((size-1)/16+1))(A:Option Addr)(c:Nat)(w:World)(h:ai w w.heap.size 1 A 64 ((je (jV uq size uF)).map bV))(hc:64<=c):
  Calls prog 260 #[.slice A 64 c] w fun e w'=>e=.returned (.tuple #[sS uq size uF,iV 0])/\Below w.heap.size w w':=by
 have HO:=hid (aKe (aE4 uq size uF h1 h2 h3));have HV:=hid (aKM (aE4 uq size uF h1 h2 h3));have i4:=hid (fun w=>aDm uq size uF h1 h2 h3 w);generalize je (jV uq size uF)=bs at h HO HV;obtain⟨W,hW,hX1,vh,hb2,hs2⟩:∃W,(w.alloc (.cells #[iV 0,iV 0,iV 0] 388)).alloc (.cells #[iV 0,iV 0,iV 0] 388)=W/\ak W w.heap.size 388 [iV 0,iV 0,iV 0]/\ak W (w.heap.size+1) 388 [iV 0,iV 0,iV 0]/\Below w.heap.size w W/\W.heap.size=w.heap.size+2:=
  ⟨_,rfl,(ak.new w 388 [iV 0,iV 0,iV 0]).alloc _,by have:=ak.new (w.alloc (.cells #[iV 0,iV 0,iV 0] 388)) 388 [iV 0,iV 0,iV 0];simpa using this,((Below.refl _ _).alloc (Nat.le_refl _) _).alloc (by simp) _,by simp⟩
 have i2:=hid (aAj (w.heap.size+1) W vh.lt);have yj:=hid hX1;have vV:=hid vh;have uz:=hid hb2;have yX:=hid hs2;have HR:=hid h;clear hX1 vh hb2 hs2 h;go_enter func260,ntmps260;go_wp2_with fail;clear hW;refine i2.out.mono ?_;rintro e w3⟨b,rfl,hb3,hbb,hblk⟩;have zO:b≠w.heap.size+1:=by have:=yX.out;omega
 have i3:=aAB 19539 b (w.heap.size+1) 3 388 [2,2,2] [iV 0,iV 0,iV 0] A c 3 bs w3 ((HR.out.below (uz.out.trans (hb3.mono (by have:=yX.out;omega)))).more (Nat.le_succ _)) hc (aLC hblk) zO (vV.out.belowS hb3) rfl rfl (by omega) (by intro W hW;simp only[List.mem_cons,List.not_mem_nil,or_false]at hW;rcases hW with rfl|rfl|rfl<;>exact⟨by decide,by omega,by omega⟩) 8 (by rfl) (by omega) (fun u hu=>⟨0,by simpa using hu⟩);rw[HO.out]at i3;rw[HV.out]at i3;have I3:=hid i3;have vk:=hid (uz.out.trans (hb3.mono (by have:=yX.out;omega)));have yl:=hid (yj.out.belowS hb3);clear i3 hb3 hbb hblk zO i2;go_wp2_with fail;refine I3.out.mono ?_;rintro e w4⟨rfl,hB4,hg4⟩;have wX:=hid (yl.out.grown hg4 (by intro e;injection e with e;omega));have vI:=hid (vk.out.grown hg4 (vk.out.size) (by intro k e;injection e with e;omega));have Cb:=hid hB4;clear I3 hB4 hg4;have y0:w4.cell? (tZ (w.heap.size+1) 0)=some (iV (uq:Int)):=Cb.out.cellAt rfl;have y1:w4.cell? (tZ (w.heap.size+1) 1)=some (iV (size:Int)):=Cb.out.cellAt rfl;have y2:w4.cell? (tZ (w.heap.size+1) 2)=some (iV (uF:Int)):=Cb.out.cellAt rfl;unfold sS at i4;skip;go_wp2_with fail;refine(i4.out w4).mono ?_;rintro e w5⟨rfl,uP⟩;have xy:=hid (wX.out.belowS uP);have wP:=hid (vI.out.trans (uP.mono vI.out.size));have Ea:=hid (Cb.out.belowS uP);clear y0 y1 y2 uP i4;have y0:w5.cell? (tZ (w.heap.size+1) 0)=some (iV (uq:Int)):=Ea.out.cellAt rfl
 have y1:w5.cell? (tZ (w.heap.size+1) 1)=some (iV (size:Int)):=Ea.out.cellAt rfl;have y2:w5.cell? (tZ (w.heap.size+1) 2)=some (iV (uF:Int)):=Ea.out.cellAt rfl;have x0:w5.cell? (tZ w.heap.size 0)=some (iV 0):=xy.out.cellAt rfl;have x1:w5.cell? (tZ w.heap.size 1)=some (iV 0):=xy.out.cellAt rfl;have x2:w5.cell? (tZ w.heap.size 2)=some (iV 0):=xy.out.cellAt rfl;have xf:=xy.out.frozen;go_wp2_with fail;obtain⟨w6,vU,uS,GF,uQ⟩:=aIq xy.out rfl (iV (uq:Int)) (iV (size:Int)) (iV (uF:Int));rw[vU];clear vU xf x0 y0 x1 y1 x2 y2;have r0:w6.cell? (tZ w.heap.size 0)=some (iV (uq:Int)):=uQ.cellAt rfl;have r1:w6.cell? (tZ w.heap.size 1)=some (iV (size:Int)):=uQ.cellAt rfl;have r2:w6.cell? (tZ w.heap.size 2)=some (iV (uF:Int)):=uQ.cellAt rfl;refine bodyPost_ret (v:=.tuple #[.agg #[iV (uq:Int),iV (size:Int),iV (uF:Int)],iV 0]) (by simp[results,results260,go_sem,r0,r1,r2]) rfl ?_;exact⟨rfl,wP.out.trans uS⟩
theorem aF4(A:Option Addr)(c:Nat)(w:World)(h:ai w w.heap.size 1 A 64 ((List.replicate 64 (0:UInt8)).map bV))(hc:64<=c):
  Calls prog 260 #[.slice A 64 c] w fun e w'=>e=.returned (.tuple #[.agg #[iV 0,iV 0,iV 0],iV 2])/\Below w.heap.size w w':=by
 have HO:Hid (jX 19539 (List.replicate 64 (0:UInt8)) 8=2):=hid (aCG 19539 8 (by decide));generalize List.replicate 64 (0:UInt8)=bs at h HO;obtain⟨W,hW,hX1,vh,hb2,hs2⟩:∃W,(w.alloc (.cells #[iV 0,iV 0,iV 0] 388)).alloc (.cells #[iV 0,iV 0,iV 0] 388)=W/\ak W w.heap.size 388 [iV 0,iV 0,iV 0]/\ak W (w.heap.size+1) 388 [iV 0,iV 0,iV 0]/\Below w.heap.size w W/\W.heap.size=w.heap.size+2:=
  ⟨_,rfl,(ak.new w 388 [iV 0,iV 0,iV 0]).alloc _,by have:=ak.new (w.alloc (.cells #[iV 0,iV 0,iV 0] 388)) 388 [iV 0,iV 0,iV 0];simpa using this,((Below.refl _ _).alloc (Nat.le_refl _) _).alloc (by simp) _,by simp⟩
 have i2:=hid (aAj (w.heap.size+1) W vh.lt);have yj:=hid hX1;have vV:=hid vh;have uz:=hid hb2;have yX:=hid hs2;have HR:=hid h;clear hX1 vh hb2 hs2 h;go_enter func260,ntmps260;go_wp2_with fail;clear hW;refine i2.out.mono ?_;rintro e w3⟨b,rfl,hb3,hbb,hblk⟩;have zO:b≠w.heap.size+1:=by have:=yX.out;omega
 have i3:=aAB 19539 b (w.heap.size+1) 3 388 [2,2,2] [iV 0,iV 0,iV 0] A c 3 bs w3 ((HR.out.below (uz.out.trans (hb3.mono (by have:=yX.out;omega)))).more (Nat.le_succ _)) hc (aLC hblk) zO (vV.out.belowS hb3) rfl rfl (by omega) (by intro W hW;simp only[List.mem_cons,List.not_mem_nil,or_false]at hW;rcases hW with rfl|rfl|rfl<;>exact⟨by decide,by omega,by omega⟩) 8 (by rfl) (by omega) (fun u hu=>⟨0,by simpa using hu⟩);rw[HO.out]at i3;have I3:=hid i3;have vk:=hid (uz.out.trans (hb3.mono (by have:=yX.out;omega)));have yl:=hid (yj.out.belowS hb3);clear i3 hb3 hbb hblk zO i2;go_wp2_with fail;refine I3.out.mono ?_;rintro e w4⟨rfl,hB4,hg4⟩;have wX:=hid (yl.out.grown hg4 (by intro e;injection e with e;omega));have vI:=hid (vk.out.grown hg4 (vk.out.size) (by intro k e;injection e with e;omega));have Cb:=hid hB4;clear I3 hB4 hg4;have x0:w4.cell? (tZ w.heap.size 0)=some (iV 0):=wX.out.cellAt rfl;have x1:w4.cell? (tZ w.heap.size 1)=some (iV 0):=wX.out.cellAt rfl;have x2:w4.cell? (tZ w.heap.size 2)=some (iV 0):=wX.out.cellAt rfl;have xf:=wX.out.frozen;go_wp2_with fail;obtain⟨w6,vU,uS,GF,uQ⟩:=aIq wX.out rfl (iV 0) (iV 0) (iV 0);rw[vU];clear vU xf x0 x1 x2;have r0:w6.cell? (tZ w.heap.size 0)=some (iV 0):=uQ.cellAt rfl;have r1:w6.cell? (tZ w.heap.size 1)=some (iV 0):=uQ.cellAt rfl;have r2:w6.cell? (tZ w.heap.size 2)=some (iV 0):=uQ.cellAt rfl
 refine bodyPost_ret (v:=.tuple #[.agg #[iV 0,iV 0,iV 0],iV 2]) (by simp[results,results260,go_sem,r0,r1,r2]) rfl ?_;exact⟨rfl,vI.out.trans uS⟩
end
def aOu:ay:=⟨fun _ F=>∀b,¬F b,fun h _ _=>h,fun h hb=>absurd hb (h _)⟩
def sO(l:List ay)(ix:List Nat):List ay:=ix.map fun n=>l.getD n aOu
theorem aKc(l:List ay):sO l (List.range l.length)=l:=by
 unfold sO;apply List.ext_getElem
 ·simp
 ·intro n h1 h2;simp at h1;simp[List.getD,h1]
def aIy(N:Nat)(ix:List Nat):List Nat:=(List.range N).filter fun n=> !ix.contains n
theorem ae.pn{w w0:World}{L:List ay}(h:ae w0 L w)(N:Nat)(ix:List Nat)(hp:(List.range N).Perm (ix++aIy N ix):=by decide)(hN:N<=L.length:=by simp):ae w0 (sO L ix++L.drop N) w:=by
 have hl:(L.take N).length=N:=by rw[List.length_take];omega
 have h2:(sO L (List.range N)).Perm (sO L (ix++aIy N ix)):=hp.map _;have e:sO L (List.range N)=L.take N:=by
  have e2:sO L (List.range N)=sO (L.take N) (List.range N):=by
   unfold sO;apply List.map_congr_left
   intro n hn;have BB:n<N:=List.mem_range.1 hn;rw[List.getD_eq_getElem?_getD,List.getD_eq_getElem?_getD,List.getElem?_take,if_pos BB]
  rw[e2];have:=aKc (L.take N);rwa[hl]at this
 rw[e]at h2;have h0:ae w0 (L.take N++L.drop N) w:=by rw[List.take_append_drop];exact h
 have h3:=h0.perm (h2.append_right (L.drop N));have h4:sO L (ix++aIy N ix)=sO L ix++sO L (aIy N ix):=by simp[sO]
 rw[h4]at h3;exact h3.sub (List.Sublist.append_right (List.sublist_append_left _ _) _)
def mW(laid:List (List UInt8))(base j:Nat):UInt8:=(laid.getD (base+j/64) []).getD (j%64) 0
def kX(laid:List (List UInt8))(base n:Nat):List UInt8:=(List.range n).map (mW laid base)
def pY(l:List UInt8)(k:Nat)(v:List UInt8):List UInt8:=l.take k++v++l.drop (k+v.length)
theorem aGo{l v:List UInt8}{k:Nat}(h:k+v.length<=l.length):(pY l k v).length=l.length:=by
 unfold pY;simp only[List.length_append,List.length_take,List.length_drop];omega
theorem aNc{l v:List UInt8}{k j:Nat}(h:k+v.length<=l.length)(h1:k<=j)(h2:j<k+v.length):(pY l k v).getD j 0=v.getD (j-k) 0:=by
 unfold pY;rw[List.getD_eq_getElem?_getD,List.getD_eq_getElem?_getD,List.append_assoc,List.getElem?_append_right (by rw[List.length_take];omega),List.length_take,List.getElem?_append_left (by omega)];congr 2
 omega
theorem aLh{l v:List UInt8}{k j:Nat}(h:k+v.length<=l.length)(h1:j<k\/k+v.length<=j):(pY l k v).getD j 0=l.getD j 0:=by
 unfold pY;rw[List.getD_eq_getElem?_getD,List.getD_eq_getElem?_getD];rcases h1 with h1|h1
 ·rw[List.append_assoc,List.getElem?_append_left (by rw[List.length_take];omega),List.getElem?_take,if_pos h1]
 ·rw[List.getElem?_append_right (by rw[List.length_append,List.length_take];omega),List.getElem?_drop,List.length_append,List.length_take];congr 2
  omega
theorem aDO{l:List (List UInt8)}{i:Nat}(h:i<l.length)(v:List UInt8):(l.set i v).getD i []=v:=by
 rw[List.getD_eq_getElem?_getD,List.getElem?_set_self h];rfl
theorem dY{l:List (List UInt8)}{i k:Nat}(h:i≠k)(v:List UInt8):(l.set i v).getD k []=l.getD k []:=by
 rw[List.getD_eq_getElem?_getD,List.getElem?_set_ne h,<-List.getD_eq_getElem?_getD]
theorem aIZ{laid:List (List UInt8)}{base no:Nat}{data:List UInt8}(hd:data.length=16)(hb:base+no/4<laid.length)(hl:(laid.getD (base+no/4) []).length=64)(j:Nat):
  mW (laid.set (base+no/4) (pY (laid.getD (base+no/4) []) (no%4*16) data)) base j=if 16*no<=j/\j<16*no+16 then data.getD (j-16*no) 0 else mW laid base j:=by
 unfold mW;by_cases hj:j/64=no/4
 ·rw[hj,aDO hb];by_cases h1:16*no<=j/\j<16*no+16
  ·rw[if_pos h1,aNc (by omega) (by omega) (by omega)];congr 1
   omega
  ·rw[if_neg h1,aLh (by omega) (by omega)]
 ·rw[dY (by omega),if_neg (by omega)]
theorem aJ5{laid:List (List UInt8)}{base k:Nat}(v:List UInt8)(n:Nat)(hk:k<base\/base+n<=k)(j:Nat)(hj:j<64*n):mW (laid.set k v) base j=mW laid base j:=by
 unfold mW;rw[dY (by omega)]
theorem aHH{laid:List (List UInt8)}{base i:Nat}(hl:(laid.getD (base+i) []).length=64):kX laid base (64*i)++laid.getD (base+i) []=kX laid base (64*(i+1)):=by
 unfold kX;refine List.ext_getElem? fun j=>?_
 by_cases h1:j<64*i
 ·rw[List.getElem?_append_left (by simpa using h1),List.getElem?_map,List.getElem?_map,List.getElem?_range h1,List.getElem?_range (by omega)]
 ·rw[List.getElem?_append_right (by simpa using(by omega:64*i<=j)),List.length_map,List.length_range];by_cases h2:j<64*(i+1)
  ·rw[List.getElem?_map,List.getElem?_range h2];show _=some (mW laid base j)
   unfold mW;rw[show j/64=i by omega,List.getD_eq_getElem?_getD (i:=j%64),show j-64*i=j%64 by omega,List.getElem?_eq_getElem (by omega)];rfl
  ·rw[List.getElem?_eq_none (by omega),List.getElem?_eq_none (by simp;omega)]
def rX(b:List UInt8)(no:Nat):List UInt8:=((b.drop (no*16)).take 16)++List.replicate (16-((b.drop (no*16)).take 16).length) 0
theorem aCS(b:List UInt8)(no:Nat):(rX b no).length=16:=by
 unfold rX;simp only[List.length_append,List.length_take,List.length_drop,List.length_replicate];omega
theorem aMJ{b:List UInt8}{no j:Nat}(h:j<16):(rX b no).getD j 0=b.getD (no*16+j) 0:=by
 unfold rX;rw[List.getD_eq_getElem?_getD,List.getD_eq_getElem?_getD];by_cases h1:no*16+j<b.length
 ·rw[List.getElem?_append_left (by simp;omega),List.getElem?_take,if_pos h,List.getElem?_drop]
 ·rw[List.getElem?_append_right (by simp;omega),List.getElem?_replicate,List.getElem?_eq_none (by omega)];split<;>rfl
theorem aJd{laid:List (List UInt8)}{base:Nat}{b:List UInt8}{nb:Nat}(hn:b.length<=16*nb)(h:∀j,j<16*nb->mW laid base j=b.getD j 0):kX laid base b.length=b:=by
 unfold kX;refine List.ext_getElem? fun j=>?_
 by_cases hj:j<b.length
 ·rw[List.getElem?_map,List.getElem?_range hj,List.getElem?_eq_getElem hj];show some (mW laid base j)=_
  rw[h j (by omega),List.getD_eq_getElem?_getD,List.getElem?_eq_getElem hj];rfl
 ·rw[List.getElem?_eq_none (by simp;omega),List.getElem?_eq_none (by omega)]
def kD(A1:Option Addr)(n1 c1:Nat)(x1:List Value)(A2:Option Addr)(n2 c2:Nat)(x2:List Value):ay:=
 ⟨fun w F=>w.ownsRow 0 3 1 (.slice A1 n1 c1) n1 x1/\w.ownsRow 0 3 1 (.slice A2 n2 c2) n2 x2/\∀b,F b↔bH A1 b\/bH A2 b,
  fun h _ hk=>⟨dS h.1 fun b hb=>hk b ((h.2.2 b).2 (.inl hb)),dS h.2.1 fun b hb=>hk b ((h.2.2 b).2 (.inr hb)),h.2.2⟩,
  fun h hb=>((h.2.2 _).1 hb).elim (pq h.1) (pq h.2.1)⟩
section
variable{w w' w0:World}{p g gs:Nat}{i:aO}{cs:List aB}{s:nM}{ss:Nat->bP}{l:List ay}{b:Int}{m:Option Nat}{T:TypeId}
theorem ae.aTz{A1 A2:Option Addr}{n1 c1 n2 c2:Nat}{x1 x2:List Value}(h:ae w0 (kD A1 n1 c1 x1 A2 n2 c2 x2::l) w):ai w w.heap.size 1 A1 n1 x1/\ai w w.heap.size 1 A2 n2 x2:=by
 obtain⟨F,⟨h1,h2,_⟩,_⟩:=h.get;exact⟨ai.uA h1,ai.uA h2⟩
def aFG(w0:World)(p g gs:Nat)(b:Int)(i:aO)(cs:List aB)(l:List ay)(r:nM×(Nat->bP)×List (Int×Int)×Bool)(e:Ending)(w':World):Prop:=
 ∃A c A1 c1 A2 c2,e=.returned (.tuple #[qV A r.2.2.1.length c r.2.2.2 r.1 A1 c1 A2 c2,.bool true])/\
  ae w0 (kD A1 r.1.stack.length c1 (r.1.stack.map iV) A2 r.1.mem.length c2 (r.1.mem.map iV)::aA 77 2 A r.2.2.1.length c (r.2.2.1.flatMap gq)::ou p (some g) b::qo g i r.1::kZ gs cs r.2.1::l) w'
theorem aIJ(h:ae w0 (ou p (some g) b::qo g i s::kZ gs cs ss::l) w)(hI:eU i)(hs:lM i s)(hK:jA cs ss)(hd:∀k,k<cs.length->ju cs k<=4)(hf:s.fault=0)(ht0:0<=s.ticks)(ht1:s.ticks<=1000000000):
  Calls prog 137 #[.pointer (some (tZ p 0)),.iface 121 (.pointer (some (tZ gs 0)))] w (aFG w0 p g gs b i cs l (gp i cs s ss)):=by
 have i1:=hid (fun W (hb:Below w.heap.size w W)=>aDo (h.belowS hb) hI hs);rw[show(s.fault==0)=true by simpa using hf]at i1;obtain⟨w1,hw1,hX1,hb1,vH⟩:∃W,w.alloc (.cells #[.slice none 0 0,.bool false,iV 0,.slice none 0 0,.slice none 0 0,iV 0,iV 0] 219)=W/\Hid (ak W w.heap.size 219 [.slice none 0 0,.bool false,iV 0,.slice none 0 0,.slice none 0 0,iV 0,iV 0])/\Hid (Below w.heap.size w W)/\Hid (ae w0 (aj w.heap.size 219 [.slice none 0 0,.bool false,iV 0,.slice none 0 0,.slice none 0 0,iV 0,iV 0]::ou p (some g) b::qo g i s::kZ gs cs ss::l) W):=⟨_,rfl,hid (ak.new w _ [.slice none 0 0,.bool false,iV 0,.slice none 0 0,.slice none 0 0,iV 0,iV 0]),hid (ah _ _),hid (h.made (T:=219) (xs:=[.slice none 0 0,.bool false,iV 0,.slice none 0 0,.slice none 0 0,iV 0,iV 0]))⟩;have iT:=hid (fun W l' (hA:ae w0 (qo g i s::kZ gs cs ss::l') W)=>hA.aSD hI hs hK hd ht0 ht1);have hkk:=aCs (cs:=cs) hs hK;obtain⟨r,hr⟩:∃r,gp i cs s ss=r:=⟨_,rfl⟩;simp only[hr]at iT;rw[hr]at hkk ⊢;obtain⟨s',ss',sent,cf⟩:=r;simp only at iT hkk;have HI:=hid hI;have HF':=hid hkk.1;unfold qg at iT;clear h hf hs hK hd hr hkk hI;go_enter func137,ntmps137;go_wp2_with fail;refine(i1.out _ hb1.out).mono ?_;rintro e w2⟨rfl,hb2⟩;have vY:=hid (vH.out.belowS hb2);obtain⟨q0,_,_⟩:=vY.out.drop.xP;simp only[Option.map_some]at q0
 have iT2:=hid (iT.out w2 _ (vY.out.perm (List.Perm.append_right l (List.perm_append_comm (l₁:=[aj w.heap.size 219 [.slice none 0 0,.bool false,iV 0,.slice none 0 0,.slice none 0 0,iV 0,iV 0],ou p (some g) b]) (l₂:=[qo g i s,kZ gs cs ss])))));clear iT i1 hb2 hw1 hX1 hb1 vH;go_wp2_with fail;refine iT2.out.mono ?_;rintro e w3⟨A,c,rfl,Ah⟩;have vS:=hid Ah;obtain⟨N,hN⟩:∃N,sent.length=N:=⟨_,rfl⟩;have HN:=hid hN;rw[hN];clear Ah iT2 q0 hN;go_wp2_with fail;obtain⟨w4,hw4,hO4,wQ,hb4⟩:∃W,w3.alloc (.cells #[.slice A N c,.bool cf] 332)=W/\ak W w3.heap.size 332 [.slice A N c,.bool cf]/\ae w0 (qo g i s'::kZ gs cs ss'::aA 77 2 A sent.length c (sent.flatMap gq)::aj w.heap.size 219 [.slice none 0 0,.bool false,iV 0,.slice none 0 0,.slice none 0 0,iV 0,iV 0]::ou p (some g) b::l) W/\Below w3.heap.size w3 W:=⟨_,rfl,ak.new w3 _ [.slice A N c,.bool cf],vS.out.belowS (ah _ _),ah _ _⟩;rw[hw4];have Dv:=wQ.perm (List.Perm.append_right l (List.perm_append_comm (l₁:=[qo g i s',kZ gs cs ss',aA 77 2 A sent.length c (sent.flatMap gq)]) (l₂:=[aj w.heap.size 219 [.slice none 0 0,.bool false,iV 0,.slice none 0 0,.slice none 0 0,iV 0,iV 0],ou p (some g) b])));obtain⟨q0,_,_⟩:=Dv.drop.xP;simp only[Option.map_some]at q0;have Aj:ak w3 w.heap.size 219 [.slice none 0 0,.bool false,iV 0,.slice none 0 0,.slice none 0 0,iV 0,iV 0]:=by
  have h9:=vS.out.perm (List.Perm.append_right l (List.perm_append_comm (l₁:=[qo g i s',kZ gs cs ss',aA 77 2 A sent.length c (sent.flatMap gq)]) (l₂:=[aj w.heap.size 219 [.slice none 0 0,.bool false,iV 0,.slice none 0 0,.slice none 0 0,iV 0,iV 0],ou p (some g) b])));exact h9.blk
 have hpl:p<w4.heap.size:=World.block_lt_of_cell? w4 _ q0;have hbl:w.heap.size<w3.heap.size:=Aj.lt;have n1:w.heap.size≠w3.heap.size:=by omega
 have n2:w3.heap.size≠w.heap.size:=by omega
 have n3:p≠w.heap.size:=fun e=>by
  have h9:ak w4 p 227 _:=Dv.drop.blk;exact h9.ty.yA Dv.blk.ty (by decide) e
 have n4:w.heap.size≠p:=n3.symm;have o0:w4.cell? (tZ w3.heap.size 0)=some (.slice A N c):=hO4.cellAt rfl;have o1:w4.cell? (tZ w3.heap.size 1)=some (.bool cf):=hO4.cellAt rfl;have hol:w3.heap.size<w4.heap.size:=hO4.lt;have iS:=hid (fun W (hb:Below w4.heap.size w4 W)=>(wQ.belowS hb).aQF HI.out HF'.out);obtain⟨pc,st,me,tk,fa⟩:=s';unfold JO at iS;simp only at iS;obtain⟨N1,hN1⟩:∃N1,st.length=N1:=⟨_,rfl⟩;obtain⟨M1,FT⟩:∃M1,me.length=M1:=⟨_,rfl⟩;simp only[hN1,FT]at iS;have HN1:=hid hN1;have HM1:=hid FT;have EY:=hid wQ;have G5:=hid Dv;have NG:=hid Dv.blk;clear hw4 hO4 wQ hb4 Dv Aj hN1 FT vS vY;go_region_held3 (fun w'=>w'.cell? (tZ w3.heap.size 0)=some (.slice A N c)/\w'.cell? (tZ w3.heap.size 1)=some (.bool cf)/\w'.cell? (tZ p 0)=some (.pointer (some (tZ g 0)))) (go_keep) (first
  |(go_at_call 218;refine(iS.out _ ?_).mono ?_;(first|exact Below.refl _ _|exact dD (Below.refl _ _));rintro e w6 ⟨A1,c1,A2,c2,rfl,yw,Hy,uS⟩;have DZ:Below w4.heap.size w4 w6:=(by first|exact uS|exact ag (dD (Below.refl w4.heap.size w4)) uS);have v0:w6.cell? (tZ w3.heap.size 0)=some (.slice A N c):=(DZ.cell (p:=⟨w3.heap.size,0,none⟩) hol).trans o0;have v1:w6.cell? (tZ w3.heap.size 1)=some (.bool cf):=(DZ.cell (p:=⟨w3.heap.size,1,none⟩) hol).trans o1;have v2:w6.cell? (tZ p 0)=some (.pointer (some (tZ g 0))):=(DZ.cell (p:=⟨p,0,none⟩) hpl).trans q0;have Gj:=NG.out.belowS DZ;have z0:w6.cell? (tZ w.heap.size 0)=some (.slice none 0 0):=Gj.cellAt rfl;have z1:w6.cell? (tZ w.heap.size 1)=some (.bool false):=Gj.cellAt rfl;have z2:w6.cell? (tZ w.heap.size 2)=some (iV 0):=Gj.cellAt rfl;have z3:w6.cell? (tZ w.heap.size 3)=some (.slice none 0 0):=Gj.cellAt rfl;have z4:w6.cell? (tZ w.heap.size 4)=some (.slice none 0 0):=Gj.cellAt rfl;have z5:w6.cell? (tZ w.heap.size 5)=some (iV 0):=Gj.cellAt rfl;have z6:w6.cell? (tZ w.heap.size 6)=some (iV 0):=Gj.cellAt rfl;have zf:=Gj.frozen;have DT:=hid Gj;have D8:=hid yw;have Iw:=hid Hy;have aTA:=hid DZ;clear Gj yw Hy uS DZ))
 all_goals
  have h6:=(G5.out.push aTA.out (C:=kD A1 N1 c1 (st.map iV) A2 M1 c2 (me.map iV)) ⟨bh D8.out (Nat.zero_le _),bh Iw.out (Nat.zero_le _),fun x=>Iff.rfl⟩ (fun x hx=>hx.elim (fun h9=>(D8.out.lt x (aN.2 h9)).1) (fun h9=>(Iw.out.lt x (aN.2 h9)).1))).perm (List.Perm.swap _ _ _);have h7:=((((((h6.store 0 (.slice A N c)).store 1 (.bool cf)).store 2 (iV pc)).store 3 (.slice A1 N1 c1)).store 4 (.slice A2 M1 c2)).store 5 (iV tk)).store 6 (iV fa);have hs6:w4.heap.size<=w6.heap.size:=aTA.out.size;obtain⟨w7,Jl,xQ,hk7,Fe⟩:=aET DT.out rfl (.slice A N c) (.bool cf) (iV pc) (.slice A1 N1 c1) (.slice A2 M1 c2) (iV tk) (iV fa);rw[Jl]at h7 ⊢;have h8:=(h7.drop.perm (List.Perm.append_right l (List.perm_append_comm (l₁:=[kD A1 N1 c1 (st.map iV) A2 M1 c2 (me.map iV),ou p (some g) b,qo g i ⟨pc,st,me,tk,fa⟩,kZ gs cs ss']) (l₂:=[aA 77 2 A sent.length c (sent.flatMap gq)])))).perm (List.Perm.swap _ _ _);have H8:=hid h8;obtain⟨r0,r1,r2,r3,r4,r5,r6⟩:_/\_/\_/\_/\_/\_/\_:=⟨Fe.cellAt (i:=0) rfl,Fe.cellAt (i:=1) rfl,Fe.cellAt (i:=2) rfl,Fe.cellAt (i:=3) rfl,Fe.cellAt (i:=4) rfl,Fe.cellAt (i:=5) rfl,Fe.cellAt (i:=6) rfl⟩;clear Jl z0 z1 z2 z3 z4 z5 z6 zf v0 v1 v2 o0 o1 q0 iS h6 h7 h8;go_wp2_with fail
  refine bodyPost_ret (v:=.tuple #[.agg #[.slice A N c,.bool cf,iV pc,.slice A1 N1 c1,.slice A2 M1 c2,iV tk,iV fa],.bool true]) (by simp[results,results137,go_sem,r0,r1,r2,r3,r4,r5,r6]) rfl ?_;refine⟨A,c,A1,c1,A2,c2,?_,?_⟩
  ·unfold qV;simp only;rw[HN.out,HN1.out,HM1.out]
  ·simp only;rw[HN1.out,HM1.out];exact H8.out
end
end Go.Proofs.YtfjkpigldogkeaaGreatDoor
