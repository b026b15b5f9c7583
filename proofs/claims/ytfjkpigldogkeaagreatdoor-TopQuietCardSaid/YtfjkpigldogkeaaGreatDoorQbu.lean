/- Contracts of functions that TopQuiet reaches, under the conditions that each states. -/
import Derived.Test.YtfjkpigldogkeaaGreatDoorQbt
set_option linter.all false
set_option maxRecDepth 100000
set_option maxHeartbeats 8000000
namespace Go.Proofs.YtfjkpigldogkeaaGreatDoor
open Go.RowKit Go.ChangeShapes Go.WideShapes Go.ChangeAt Go.Proofs.Tryz
section
open Go.Shelf
attribute [local go_sem] Oper.semAt_some
structure YR where
 tick:Int
 bt:Bool
 ran:Bool
 ver:Int
 A1:Option Addr
 n1:Nat
 c1:Nat
 pc:Int
 A2:Option Addr
 n2:Nat
 c2:Nat
 A3:Option Addr
 n3:Nat
 c3:Nat
 tk:Int
 fa:Int
def yL(x:YR):List Value:=[iV x.tick,.bool x.bt,.bool x.ran,iV x.ver,iV 0,.slice x.A1 x.n1 x.c1,iV x.pc,.slice x.A2 x.n2 x.c2,.slice x.A3 x.n3 x.c3,iV x.tk,iV x.fa]
def yV(x:YR):Value:=.agg (yL x).toArray
def KpR(n₀ Bp:Nat)(W W':World):Prop:=Below n₀ W W'/\∀v,W.cell? (tZ Bp 0)=some v->W'.cell? (tZ Bp 0)=some v
theorem aPn{n₀ Bp:Nat}{A B C:World}(h:KpR n₀ Bp A B)(k:KpR n₀ Bp B C):KpR n₀ Bp A C:=⟨h.1.trans k.1,fun v hv=>k.2 v (h.2 v hv)⟩
theorem aPr{n₀ Bp:Nat}{w:World}(hn:n₀<=w.heap.size)(hB:Bp<w.heap.size)(W:World)(l:Nat)(o o':Obj)(hl:w.heap.size<=l)(h:W.heap[l]? =some o)(h1:o.isCells=false)(h2:o.isWalk=false):KpR n₀ Bp W (W.putObj l o'):=
 ⟨belowK_b hn W l o o' hl h h1 h2,fun v hv=>((belowK_b (n₀:=Bp+1) (w:=w) (by omega) W l o o' hl h h1 h2).cell (p:=⟨Bp,0,none⟩) (Nat.lt_succ_self Bp)).trans hv⟩
structure oK (wr:World) (vb rb:Nat) (e:kJ) (xs:List Value) (W:World):Prop where
 bel:Below wr.heap.size wr W
 v:ak W vb 57 (lj e)
 r:ak W rb 152 xs
 lv:wr.heap.size<=vb
 lr:wr.heap.size<=rb
 ne:vb≠rb
section
variable{w w' w0 wr W:World}{vb rb:Nat}{e:kJ}{xs:List Value}
theorem oK.belowS(h:oK wr vb rb e xs W)(hb:Below W.heap.size W w'):oK wr vb rb e xs w':=⟨ag h.bel hb,h.v.belowS hb,h.r.belowS hb,h.lv,h.lr,h.ne⟩
theorem oK.alloc(h:oK wr vb rb e xs W)(o:Obj):oK wr vb rb e xs (W.alloc o):=h.belowS (ah _ _)
theorem oK.drew(h:oK wr vb rb e xs W):oK wr vb rb e xs W.drew:=⟨h.bel.drew,h.v,h.r,h.lv,h.lr,h.ne⟩
theorem oK.set(h:oK wr vb rb e xs W)(i:Nat)(u:Value):oK wr vb rb e (xs.set i u) (W.setCell (tZ rb i) u):=⟨h.bel.setCell (p:=⟨rb,i,none⟩) h.lr u,h.v.far (by exact h.ne) u,h.r.uh i u,h.lv,h.lr,h.ne⟩
end
section
variable{w w0:World}{A:Option Addr}{n c:Nat}{es:List kJ}{l:List ay}{p:Int}
theorem aGT(h:ae w0 (aA 57 11 A n c (es.flatMap lj)::(es.map lu++l)) w)(hn:n<=100000)(hb:∀e∈es,sW e){Bl Bp:Nat}{W0:World}(zG:Below w.heap.size w W0)(hBl:Bl<W0.heap.size)(hBp:Bp<W0.heap.size)(cl:W0.cell? (tZ Bl 0)=some (.slice A n c))(cp:W0.cell? (tZ Bp 0)=some (iV p)):
  SeqStopsK Fence.wide 2 prog 141 #[.pointer (some (tZ Bl 0)),.pointer (some (tZ Bp 0))] (fun x:YR=> #[yV x]) (KpR w.heap.size Bp) (fun _=>True) (fun _=>True) n W0:=fun ly J Jx W hW hJ hJx hY h0=>by
 have HB:=hid hb;have HN:Hid (es.length=n):=hid (by
  have h1:=aIx h.own;rw[aA7 lj 11 Oh]at h1;omega)
 have HA:Hid (∀W,Below w.heap.size w W->ae w0 (aA 57 11 A n c (es.flatMap lj)::(es.map lu++l)) W):=hid fun W hW=>h.belowS hW
 have GZ:Hid (∀W,Below w.heap.size w W->∀e∈es,lh W W.heap.size 3 e.A1 e.bo.length iY e.bo):=hid fun W hW e he=>by
  obtain⟨i,hi⟩:=List.getElem?_of_mem he;have h9:ae w0 ([aA 57 11 A n c (es.flatMap lj)]++(es.map lu++l)) W:=h.belowS hW;exact(h9.aQa hi).1.Es fun _=>rfl
 have MM:Hid (∀W,Below w.heap.size w W->∀e∈es,ai W W.heap.size 2 e.r.A2 e.r.sn.length (e.r.sn.flatMap gq)/\ai W W.heap.size 1 e.r.A3 e.r.st.length (e.r.st.map iV)/\ai W W.heap.size 1 e.r.A4 e.r.me.length (e.r.me.map iV)):=hid fun W hW e he=>by
  obtain⟨i,hi⟩:=List.getElem?_of_mem he;have h9:ae w0 ([aA 57 11 A n c (es.flatMap lj)]++(es.map lu++l)) W:=h.belowS hW;exact(h9.aQa hi).2
 have IZ:Hid (Below w.heap.size w W):=hid (zG.trans (hW.mono zG.size));have d1:W.cell? (tZ Bl 0)=some (.slice A n c):=(hW.cell (p:=⟨Bl,0,none⟩) hBl).trans cl;have d2:W.cell? (tZ Bp 0)=some (iV p):=(hW.cell (p:=⟨Bp,0,none⟩) hBp).trans cp;have Kq:Bp<W.heap.size:=Nat.lt_of_lt_of_le hBp hW.size;have HJ:=hid hJ;have HY:=hid hY;clear h hb cl cp hW zG hBl hBp hJ hJx hY;refine callsIn_of_wp func141 rfl trivial ?_ rfl;simp only[ntmps141,List.size_toArray,List.length_cons,List.length_nil,Nat.reduceAdd,Nat.reduceSub,Array.replicate_succ,Array.replicate_zero,List.push_toArray,List.append_toArray,List.nil_append,List.cons_append];gi_wp2
 gi_loopw [11] (fun v11 wr=>∃(k:Nat) (pre:List YR),k<=n/\pre.length<=k/\v11=iV (k:Int)/\Bp<wr.heap.size/\Hid (J pre wr/\Below w.heap.size w wr/\wr.cell? (tZ Bp 0)=some (iV p))) (fun v11 _=>n-(Lib.intOf v11).toNat)
 case atStart=>exact⟨0,[],by omega,by simp,rfl,Kq,hid ⟨h0,IZ.out,d2⟩⟩
 case round=>
  clear d1 d2 h0 IZ Kq;obtain⟨k,pre,hk,hpre,rfl,zZ,HJ0⟩:=hrel;by_cases hkn:k<n
  ·obtain⟨ev,hev⟩:∃ev,es[k]? =some ev:=⟨_,List.getElem?_eq_getElem (by rw[HN.out];exact hkn)⟩;obtain⟨Om,Ho,hp0⟩:=HJ0.out;have hA:=HA.out wr Ho;have Jq:=HB.out ev (List.mem_of_getElem? hev);obtain⟨g,hg,_,_⟩:=dG hA.own (by omega);subst hg;have Iq:=hid hev;have Js:=hid Jq;obtain⟨wY,A1,c1,bo,⟨pa,A2,c2,sn,cf,pc,A3,c3,st,A4,c4,me,tk,fa⟩⟩:=ev;have e0:=(gI hA hev 0 _ rfl).1;have e1:=(gI hA hev 1 _ rfl).1;have e2:=(gI hA hev 2 _ rfl).1;have e3:=(gI hA hev 3 _ rfl).1;have e4:=(gI hA hev 4 _ rfl).1;have e5:=(gI hA hev 5 _ rfl).1;have e6:=(gI hA hev 6 _ rfl).1;have e7:=(gI hA hev 7 _ rfl).1;have e8:=(gI hA hev 8 _ rfl).1;have e9:=(gI hA hev 9 _ rfl).1;have e10:=(gI hA hev 10 _ rfl).1;rw[Nat.add_zero]at e0;have q1:(0:Int)<=(k:Int):=Int.natCast_nonneg _;have q2:(k:Int)<(n:Int):=by omega
   have BN:=hid Ho;have Lp:=hid Om;clear hA hev Jq Ho Om HJ0;refine wpIn_wide.2 ?_;go_wp2_with fail;obtain⟨wo,rfl⟩:∃wo:World,wo=wr:=⟨_,rfl⟩;have zq:Hid (oK wo wo.heap.size (wo.heap.size+1) ⟨wY,A1,c1,bo,⟨pa,A2,c2,sn,cf,pc,A3,c3,st,A4,c4,me,tk,fa⟩⟩ [iV wY,.bool false,.bool false,iV 0,iV 0,.slice none 0 0,iV 0,.slice none 0 0,.slice none 0 0,iV 0,iV 0] ((wo.alloc (.cells (lj ⟨wY,A1,c1,bo,⟨pa,A2,c2,sn,cf,pc,A3,c3,st,A4,c4,me,tk,fa⟩⟩).toArray 57)).alloc (.cells ([iV wY,.bool false,.bool false,iV 0,iV 0,.slice none 0 0,iV 0,.slice none 0 0,.slice none 0 0,iV 0,iV 0]:List Value).toArray 152))):=hid ⟨ag (ah _ _) (ah _ _),(ak.new _ _ _).alloc _,(by have:=ak.new (wo.alloc (.cells (lj ⟨wY,A1,c1,bo,⟨pa,A2,c2,sn,cf,pc,A3,c3,st,A4,c4,me,tk,fa⟩⟩).toArray 57)) 152 [iV wY,.bool false,.bool false,iV 0,iV 0,.slice none 0 0,iV 0,.slice none 0 0,.slice none 0 0,iV 0,iV 0];rw[World.size_alloc]at this;exact this),Nat.le_refl _,Nat.le_succ _,by omega⟩;simp only[lj,lG]at zq;obtain⟨gv,hgv⟩:∃gv,wo.heap.size=gv:=⟨_,rfl⟩;obtain⟨gr,hgr⟩:∃gr,gv+1=gr:=⟨_,rfl⟩;rw[hgv,hgr]at zq ⊢;clear hgv hgr e0 e1 e2 e3 e4 e5 e6 e7 e8 e9 e10 q1 q2;have hbl:bo.length<100:=by have:=Js.out.bo;simp only at this;omega
   obtain⟨bn,hbn⟩:∃bn,bo.length=bn:=⟨_,rfl⟩;have HBN:=hid hbn;rw[hbn]at hbl zq ⊢;clear hbn;go_loopw [21] (fun v21 wr=>∃(j:Nat) (bt:Bool) (ver:Int),j<=bn/\v21=iV (j:Int)/\Hid (oK wo gv gr ⟨wY,A1,c1,bo,⟨pa,A2,c2,sn,cf,pc,A3,c3,st,A4,c4,me,tk,fa⟩⟩ [iV wY,.bool bt,.bool false,iV ver,iV 0,.slice none 0 0,iV 0,.slice none 0 0,.slice none 0 0,iV 0,iV 0] wr)) (fun v21 _=>bn-(Lib.intOf v21).toNat)
   case atStart=>exact⟨0,false,0,by omega,rfl,zq⟩
   clear zq;obtain⟨j,bt,ver,hj,rfl,HS⟩:=hrel;by_cases hjn:j<bn
   ·have JR:=(GZ.out wo BN.out ⟨wY,A1,c1,bo,⟨pa,A2,c2,sn,cf,pc,A3,c3,st,A4,c4,me,tk,fa⟩⟩ (List.mem_of_getElem? Iq.out)).belowS HS.out.bel;rw[HBN.out]at JR;obtain⟨ad,⟨bp,bv⟩,vH,_,hx,hc0,hc⟩:=JR.at_ hjn;dsimp only at vH;subst vH;have f0:wr.cell? (ad.add (j*3))=some (iV bp):=hc0 _ rfl;have f1:wr.cell? (tZ ((ad.add (j*3)).block) ((ad.add (j*3)).off+1))=some (iV bv):=hc 0 _ rfl;have f2:wr.cell? (tZ ((ad.add (j*3)).block) ((ad.add (j*3)).off+2))=some (iV 0):=hc 1 _ rfl;have q1:(0:Int)<=(j:Int):=Int.natCast_nonneg _;have q2:(j:Int)<(bn:Int):=by omega
    have hp1:wr.cell? (tZ Bp 0)=some (iV p):=(HS.out.bel.cell (p:=⟨Bp,0,none⟩) zZ).trans hp0;have hp2:∀o,(wr.alloc o).cell? (tZ Bp 0)=some (iV p):=fun o=>((ah wr o).cell (p:=⟨Bp,0,none⟩) (Nat.lt_of_lt_of_le zZ HS.out.bel.size)).trans hp1
    clear JR hc0 hc hx;by_cases DY:bp=p
    ·have hq:(bp==p)=true:=by simpa using DY
     have Eh:=hid hp0;clear hp0 DY;go_wp2_with fail;have HT:=hid (ak.new wr 73 [iV bp,iV bv,iV 0]);have zA:=hid (HS.out.alloc (.cells #[iV bp,iV bv,iV 0] 73));have hne:wr.heap.size≠gr:=fun h9=>Nat.lt_irrefl _ (h9▸HS.out.r.lt)
     simp only[List.toArray]at HT;generalize wr.heap.size=gb at HT hne ⊢;generalize wr.alloc (.cells #[iV bp,iV bv,iV 0] 73)=u0 at HT zA ⊢;clear f0 f1 f2 hp1 hp2 HS;have uC:=hid zA.out.drew;have En:=hid HT.out.drew;clear zA HT;refine wp_region_held_drew (S:=(fun w'=>w'.cell? (tZ gb 1)=some (iV bv)/\w'.cell? (tZ gb 2)=some (iV 0))) (by kernel_rfl) ⟨En.out.cellAt (i:=1) rfl,En.out.cellAt (i:=2) rfl⟩ (fun hHeld=>?_);generalize u0.drew=u1 at hHeld uC En ⊢;refine bJ 5 [(0,29),(1,30),(2,31),(3,32),(4,33)] rfl (by kernel_rfl) (by kernel_rfl) (fun _ _ _ _ _ h=>h) (by assumption) ?_;iterate 5 (refine aI rfl rfl rfl (v:=?_) ?_ ?_;rotate_left 1;focus(intro wS hSw;(try dsimp only at hSw);go_simp;try with_reducible rfl);try simp only[Act.put,aY,aZ,aU])
     refine au ?_;have x1:=uC.out.r.cellAt (i:=1) rfl;have xf:=uC.out.r.frozen;refine dO 5 rfl (by kernel_rfl) fun K hK=>?_
     go_simp;have wu:=hid (uC.out.set 1 (.bool true));have xg:=hid (En.out.far (p:=⟨gr,1,none⟩) hne (.bool true));generalize u1.setCell (tZ gr 1) (.bool true)=u2 at wu xg ⊢;refine hK.out _ _ ⟨xg.out.cellAt (i:=1) rfl,xg.out.cellAt (i:=2) rfl⟩ (fun hHeld=>?_);clear hK K x1 xf uC;have uC:=wu;clear wu;try simp only[Act.put,aY,aZ,aU]
     clear En;have En:=xg;clear xg;refine bJ 1 [(6,34)] rfl (by kernel_rfl) (by kernel_rfl) (fun _ _ _ _ _ h=>h) (by assumption) ?_;(refine aI rfl rfl rfl (v:=?_) ?_ ?_;rotate_left 1;focus(intro wS hSw;(try dsimp only at hSw);go_simp;try with_reducible rfl);try simp only[Act.put,aY,aZ,aU])
     refine au ?_;have x3:=uC.out.r.cellAt (i:=3) rfl;have xf:=uC.out.r.frozen;refine dO 7 rfl (by kernel_rfl) fun K hK=>?_
     go_simp;have wu:=hid (uC.out.set 3 (iV bv));have xg:=hid (En.out.far (p:=⟨gr,3,none⟩) hne (iV bv));generalize u2.setCell (tZ gr 3) (iV bv)=u3 at wu xg ⊢;refine hK.out _ _ ⟨xg.out.cellAt (i:=1) rfl,xg.out.cellAt (i:=2) rfl⟩ (fun hHeld=>?_);clear hK K x3 xf uC;have uC:=wu;clear wu;try simp only[Act.put,aY,aZ,aU]
     clear En;have En:=xg;clear xg;refine bJ 1 [(8,35)] rfl (by kernel_rfl) (by kernel_rfl) (fun _ _ _ _ _ h=>h) (by assumption) ?_;(refine aI rfl rfl rfl (v:=?_) ?_ ?_;rotate_left 1;focus(intro wS hSw;(try dsimp only at hSw);go_simp;try with_reducible rfl);try simp only[Act.put,aY,aZ,aU])
     refine au ?_;have x4:=uC.out.r.cellAt (i:=4) rfl;have xf:=uC.out.r.frozen;refine dO 9 rfl (by kernel_rfl) fun K hK=>?_
     go_simp;have wu:=hid (uC.out.set 4 (iV 0));have xg:=hid (En.out.far (p:=⟨gr,4,none⟩) hne (iV 0));generalize u3.setCell (tZ gr 4) (iV 0)=u4 at wu xg ⊢;refine hK.out _ _ ⟨xg.out.cellAt (i:=1) rfl,xg.out.cellAt (i:=2) rfl⟩ (fun hHeld=>?_);clear hK K x4 xf uC;have uC:=wu;clear wu;try simp only[Act.put,aY,aZ,aU]
     clear En;have En:=xg;clear xg;refine wpAnyH_done (by kernel_rfl) ?_ _;go_wp2_with fail;go_roundw;case rel=>exact⟨j+1,true,bv,by omega,rfl,uC⟩
     case measure=>simp[Lib.intOf];omega
    ·have hq:(bp==p)=false:=by simpa using DY
     have Eh:=hid hp0;clear hp0 DY;go_wp2_with fail;go_roundw;case rel=>exact⟨j+1,bt,ver,by omega,rfl,hid (HS.out.alloc _)⟩
     case measure=>simp[Lib.intOf];omega
   ·have i5:=hid (fun W (hW:Below w.heap.size w W)=>aEm (c:=c2) (MM.out W hW _ (List.mem_of_getElem? Iq.out)).1 (aB9 _) (Nat.le_trans Js.out.r.sn (by decide)));have i7:=hid (fun W (hW:Below w.heap.size w W)=>aBx (c:=c3) (MM.out W hW _ (List.mem_of_getElem? Iq.out)).2.1 (aAi _) (Nat.le_trans Js.out.r.st (by decide)));have i8:=hid (fun W (hW:Below w.heap.size w W)=>aBx (c:=c4) (MM.out W hW _ (List.mem_of_getElem? Iq.out)).2.2 (aAi _) (Nat.le_trans Js.out.r.me (by decide)));dsimp only at i5 i7 i8;obtain rfl:j=bn:=by omega
    have hp1:wr.cell? (tZ Bp 0)=some (iV p):=(HS.out.bel.cell (p:=⟨Bp,0,none⟩) zZ).trans hp0;have v2:wr.cell? (tZ gv 2)=some (iV pa):=HS.out.v.cellAt rfl;have r2:wr.cell? (tZ gr 2)=some (.bool false):=HS.out.r.cellAt rfl;have rf:=HS.out.r.frozen;have Eh:=hid hp0;clear hp0 hbl HBN;by_cases hpp:pa=p
    ·have hq:(pa==p)=true:=by simpa using hpp
     clear hpp;go_wp2_with fail;have uC:Hid (oK wo gv gr ⟨wY,A1,c1,bo,⟨pa,A2,c2,sn,cf,pc,A3,c3,st,A4,c4,me,tk,fa⟩⟩ [iV wY,.bool bt,.bool true,iV ver,iV 0,.slice none 0 0,iV 0,.slice none 0 0,.slice none 0 0,iV 0,iV 0] (wr.setCell (tZ gr 2) (.bool true)).drew):=hid (HS.out.set 2 (.bool true)).drew;generalize (wr.setCell (tZ gr 2) (.bool true))=u0 at uC ⊢;clear v2 r2 rf hp1 hq HS;refine wp_region_held_drew (S:=(fun w'=>w'.cell? (tZ gv 3)=some (.slice A2 sn.length c2)/\w'.cell? (tZ gv 5)=some (iV pc)/\w'.cell? (tZ gv 6)=some (.slice A3 st.length c3)/\w'.cell? (tZ gv 7)=some (.slice A4 me.length c4)/\w'.cell? (tZ gv 8)=some (iV tk)/\w'.cell? (tZ gv 9)=some (iV fa))) (by kernel_rfl) (by and_intros<;>exact uC.out.v.cellAt rfl) (fun hHeld=>?_);generalize u0.drew=u1 at hHeld uC ⊢;refine bJ 4 [(0,44),(1,45),(3,47),(4,48)] rfl (by kernel_rfl) (by kernel_rfl) (fun _ _ _ _ _ h=>h) (by assumption) ?_;iterate 4 (refine aI rfl rfl rfl (v:=?_) ?_ ?_;rotate_left 1;focus(intro wS hSw;(try dsimp only at hSw);go_simp;try with_reducible rfl);try simp only[Act.put,aY,aZ,aU])
     refine au ?_;refine dO 2 rfl (by kernel_rfl) fun K hK=>?_
     go_simp;(go_at_call 68;refine(i5.out _ (BN.out.trans (uC.out.bel.mono BN.out.size))).mono ?_;rintro e u2 ⟨B2,d2,rfl,ho,hb⟩;have Ae:=hid (uC.out.belowS hb);clear ho hb)
     refine hK.out _ _ (by and_intros<;>exact Ae.out.v.cellAt rfl) (fun hHeld=>?_);clear hK K;try simp only[Act.put,aY,aZ,aU]
     clear uC i5;refine bJ 1 [(5,49)] rfl (by kernel_rfl) (by kernel_rfl) (fun _ _ _ _ _ h=>h) (by assumption) ?_;(refine aI rfl rfl rfl (v:=?_) ?_ ?_;rotate_left 1;focus(intro wS hSw;(try dsimp only at hSw);go_simp;try with_reducible rfl);try simp only[Act.put,aY,aZ,aU])
     refine au ?_;have x5:=Ae.out.r.cellAt (i:=5) rfl;have xf:=Ae.out.r.frozen;refine dO 6 rfl (by kernel_rfl) fun K hK=>?_
     go_simp;have Bj:=hid (Ae.out.set 5 (.slice B2 sn.length d2));generalize u2.setCell (tZ gr 5) (.slice B2 sn.length d2)=u3 at Bj ⊢;refine hK.out _ _ (by and_intros<;>exact Bj.out.v.cellAt rfl) (fun hHeld=>?_);clear hK K x5 xf Ae;have Ae:=Bj;clear Bj;try simp only[Act.put,aY,aZ,aU]
     refine bJ 1 [(7,50)] rfl (by kernel_rfl) (by kernel_rfl) (fun _ _ _ _ _ h=>h) (by assumption) ?_;(refine aI rfl rfl rfl (v:=?_) ?_ ?_;rotate_left 1;focus(intro wS hSw;(try dsimp only at hSw);go_simp;try with_reducible rfl);try simp only[Act.put,aY,aZ,aU])
     refine au ?_;have x6:=Ae.out.r.cellAt (i:=6) rfl;have x7:=Ae.out.r.cellAt (i:=7) rfl;have x8:=Ae.out.r.cellAt (i:=8) rfl;have x9:=Ae.out.r.cellAt (i:=9) rfl;have x10:=Ae.out.r.cellAt (i:=10) rfl;have xf:=Ae.out.r.frozen;refine dO 8 rfl (by kernel_rfl) fun K hK=>?_
     go_simp;have Bj:=hid (((((Ae.out.set 6 (iV pc)).set 7 (.slice A3 st.length c3)).set 8 (.slice A4 me.length c4)).set 9 (iV tk)).set 10 (iV fa));generalize ((((u3.setCell (tZ gr 6) (iV pc)).setCell (tZ gr 7) (.slice A3 st.length c3)).setCell (tZ gr 8) (.slice A4 me.length c4)).setCell (tZ gr 9) (iV tk)).setCell (tZ gr 10) (iV fa)=u4 at Bj ⊢;refine hK.out _ _ (by and_intros<;>exact Bj.out.v.cellAt rfl) (fun hHeld=>?_);clear hK K x6 x7 x8 x9 x10 xf Ae;have Ae:=Bj;clear Bj;try simp only[Act.put,aY,aZ,aU]
     refine wpAnyH_done (by kernel_rfl) ?_ _;have uC:=hid Ae.out.drew;clear hHeld Ae;go_wp2_with fail;refine wp_region_held_drew (S:=(fun w'=>w'.cell? (tZ gv 6)=some (.slice A3 st.length c3)/\w'.cell? (tZ gv 7)=some (.slice A4 me.length c4))) (by kernel_rfl) ⟨uC.out.v.cellAt rfl,uC.out.v.cellAt rfl⟩ (fun hHeld=>?_);generalize u4.drew=u5 at hHeld uC ⊢;refine bJ 6 [(0,51),(1,52),(2,53),(4,55),(5,56),(6,57)] rfl (by kernel_rfl) (by kernel_rfl) (fun _ _ _ _ _ h=>h) (by assumption) ?_;iterate 6 (refine aI rfl rfl rfl (v:=?_) ?_ ?_;rotate_left 1;focus(intro wS hSw;(try dsimp only at hSw);go_simp;try with_reducible rfl);try simp only[Act.put,aY,aZ,aU])
     refine au ?_;refine dO 3 rfl (by kernel_rfl) fun K hK=>?_
     go_simp;(go_at_call 69;refine(i7.out _ (BN.out.trans (uC.out.bel.mono BN.out.size))).mono ?_;rintro e u6 ⟨B3,d3,rfl,ho,hb⟩;have Ae:=hid (uC.out.belowS hb);clear ho hb)
     refine hK.out _ _ ⟨Ae.out.v.cellAt rfl,Ae.out.v.cellAt rfl⟩ (fun hHeld=>?_);clear hK K;try simp only[Act.put,aY,aZ,aU]
     clear uC i7;refine bJ 2 [(8,59),(9,60)] rfl (by kernel_rfl) (by kernel_rfl) (fun _ _ _ _ _ h=>h) (by assumption) ?_;iterate 2 (refine aI rfl rfl rfl (v:=?_) ?_ ?_;rotate_left 1;focus(intro wS hSw;(try dsimp only at hSw);go_simp;try with_reducible rfl);try simp only[Act.put,aY,aZ,aU])
     refine au ?_;refine dO 7 rfl (by kernel_rfl) fun K hK=>?_
     go_simp;(go_at_call 69;refine(i8.out _ (BN.out.trans (Ae.out.bel.mono BN.out.size))).mono ?_;rintro e u7 ⟨B4,d4,rfl,ho,hb⟩;have uC:=hid (Ae.out.belowS hb);clear ho hb)
     refine hK.out _ _ ⟨uC.out.v.cellAt rfl,uC.out.v.cellAt rfl⟩ (fun hHeld=>?_);clear hK K;try simp only[Act.put,aY,aZ,aU]
     clear Ae i8;have x7:=uC.out.r.cellAt (i:=7) rfl;have xf:=uC.out.r.frozen;refine dO 10 rfl (by kernel_rfl) fun K hK=>?_
     go_simp;have wu:=hid (uC.out.set 7 (.slice B3 st.length d3));generalize u7.setCell (tZ gr 7) (.slice B3 st.length d3)=u8 at wu ⊢;refine hK.out _ _ ⟨wu.out.v.cellAt rfl,wu.out.v.cellAt rfl⟩ (fun hHeld=>?_);clear hK K x7 xf uC;have uC:=wu;clear wu;try simp only[Act.put,aY,aZ,aU]
     refine bJ 2 [(11,61),(12,62)] rfl (by kernel_rfl) (by kernel_rfl) (fun _ _ _ _ _ h=>h) (by assumption) ?_;iterate 2 (refine aI rfl rfl rfl (v:=?_) ?_ ?_;rotate_left 1;focus(intro wS hSw;(try dsimp only at hSw);go_simp;try with_reducible rfl);try simp only[Act.put,aY,aZ,aU])
     refine au ?_;have x8:=uC.out.r.cellAt (i:=8) rfl;have xf:=uC.out.r.frozen;refine dO 13 rfl (by kernel_rfl) fun K hK=>?_
     go_simp;have wu:=hid (uC.out.set 8 (.slice B4 me.length d4));generalize u8.setCell (tZ gr 8) (.slice B4 me.length d4)=u9 at wu ⊢;refine hK.out _ _ ⟨wu.out.v.cellAt rfl,wu.out.v.cellAt rfl⟩ (fun hHeld=>?_);clear hK K x8 xf uC;have uC:=wu;clear wu;try simp only[Act.put,aY,aZ,aU]
     refine wpAnyH_done (by kernel_rfl) ?_ _;clear hHeld;go_upto_region 14 with fail
     cases bt with
     |true=>
      have FK:J pre u9:=HJ.out pre wo u9 none Lp.out ⟨uC.out.bel.os,uC.out.bel.tape,uC.out.bel.output,uC.out.bel.size,fun k hk _=>uC.out.bel.block k hk⟩ (fun r e=>by cases e);have r0:=uC.out.r.cellAt (i:=0) rfl;have r1:=uC.out.r.cellAt (i:=1) rfl;have r2:=uC.out.r.cellAt (i:=2) rfl;have r3:=uC.out.r.cellAt (i:=3) rfl;have r4:=uC.out.r.cellAt (i:=4) rfl;have r5:=uC.out.r.cellAt (i:=5) rfl;have r6:=uC.out.r.cellAt (i:=6) rfl;have r7:=uC.out.r.cellAt (i:=7) rfl;have r8:=uC.out.r.cellAt (i:=8) rfl;have r9:=uC.out.r.cellAt (i:=9) rfl;have r10:=uC.out.r.cellAt (i:=10) rfl;have h5:u9.cell? (tZ Bp 0)=some (iV p):=(uC.out.bel.cell (p:=⟨Bp,0,none⟩) zZ).trans Eh.out;have Gi:pre.length<n:=by omega
      obtain⟨fn,tmps,assign,body,hy,hR⟩:=HY.out pre ⟨wY,true,true,ver,B2,sn.length,d2,pc,B3,st.length,d3,B4,me.length,d4,tk,fa⟩ u9 FK Gi;simp only[yV,yL]at hy;have HR:=hid hR;have Gm:=hid h5;clear hR FK h5;rename_i aK
      have HK:=hid aK;clear aK;refine(wpIn_wide (n:=2)).1 ?_;gi_wp2
      refine HR.out.mono ?_;rintro e W3 (⟨rfl,hJ3,hk3⟩|⟨rfl,CS⟩)
      ·gi_wp2
       refine HK.out _ _ ?_;go_wp2_with fail;go_roundw;case rel=>exact⟨k+1,pre++[⟨wY,true,true,ver,B2,sn.length,d2,pc,B3,st.length,d3,B4,me.length,d4,tk,fa⟩],by omega,by rw[List.length_append,List.length_singleton];omega,rfl,Nat.lt_of_lt_of_le zZ (Nat.le_trans uC.out.bel.size hk3.1.size),hid ⟨hJ3,(BN.out.trans (uC.out.bel.mono BN.out.size)).trans hk3.1,hk3.2 _ Gm.out⟩⟩
       case measure=>simp[Lib.intOf];omega
      ·gi_wp2
       refine HK.out _ _ ?_;go_wp2_with fail;refine bodyPost_ret (results_none rfl _ _ _) rfl ?_;exact⟨⟨_,rfl⟩,.inr ⟨_,trivial,CS⟩⟩
     |false=>
      have FK:J pre u9:=HJ.out pre wo u9 none Lp.out ⟨uC.out.bel.os,uC.out.bel.tape,uC.out.bel.output,uC.out.bel.size,fun k hk _=>uC.out.bel.block k hk⟩ (fun r e=>by cases e);have r0:=uC.out.r.cellAt (i:=0) rfl;have r1:=uC.out.r.cellAt (i:=1) rfl;have r2:=uC.out.r.cellAt (i:=2) rfl;have r3:=uC.out.r.cellAt (i:=3) rfl;have r4:=uC.out.r.cellAt (i:=4) rfl;have r5:=uC.out.r.cellAt (i:=5) rfl;have r6:=uC.out.r.cellAt (i:=6) rfl;have r7:=uC.out.r.cellAt (i:=7) rfl;have r8:=uC.out.r.cellAt (i:=8) rfl;have r9:=uC.out.r.cellAt (i:=9) rfl;have r10:=uC.out.r.cellAt (i:=10) rfl;have h5:u9.cell? (tZ Bp 0)=some (iV p):=(uC.out.bel.cell (p:=⟨Bp,0,none⟩) zZ).trans Eh.out;have Gi:pre.length<n:=by omega
      obtain⟨fn,tmps,assign,body,hy,hR⟩:=HY.out pre ⟨wY,false,true,ver,B2,sn.length,d2,pc,B3,st.length,d3,B4,me.length,d4,tk,fa⟩ u9 FK Gi;simp only[yV,yL]at hy;have HR:=hid hR;have Gm:=hid h5;clear hR FK h5;rename_i aK
      have HK:=hid aK;clear aK;refine(wpIn_wide (n:=2)).1 ?_;gi_wp2
      refine HR.out.mono ?_;rintro e W3 (⟨rfl,hJ3,hk3⟩|⟨rfl,CS⟩)
      ·gi_wp2
       refine HK.out _ _ ?_;go_wp2_with fail;go_roundw;case rel=>exact⟨k+1,pre++[⟨wY,false,true,ver,B2,sn.length,d2,pc,B3,st.length,d3,B4,me.length,d4,tk,fa⟩],by omega,by rw[List.length_append,List.length_singleton];omega,rfl,Nat.lt_of_lt_of_le zZ (Nat.le_trans uC.out.bel.size hk3.1.size),hid ⟨hJ3,(BN.out.trans (uC.out.bel.mono BN.out.size)).trans hk3.1,hk3.2 _ Gm.out⟩⟩
       case measure=>simp[Lib.intOf];omega
      ·gi_wp2
       refine HK.out _ _ ?_;go_wp2_with fail;refine bodyPost_ret (results_none rfl _ _ _) rfl ?_;exact⟨⟨_,rfl⟩,.inr ⟨_,trivial,CS⟩⟩
    ·have hq:(pa==p)=false:=by simpa using hpp
     clear hpp i5 i7 i8;go_upto_region 14 with fail
     have uC:Hid (oK wo gv gr ⟨wY,A1,c1,bo,⟨pa,A2,c2,sn,cf,pc,A3,c3,st,A4,c4,me,tk,fa⟩⟩ [iV wY,.bool bt,.bool false,iV ver,iV 0,.slice none 0 0,iV 0,.slice none 0 0,.slice none 0 0,iV 0,iV 0] (wr.setCell (tZ gr 2) (.bool false))):=hid (HS.out.set 2 (.bool false));generalize (wr.setCell (tZ gr 2) (.bool false))=u0 at uC ⊢;clear v2 r2 rf hp1 hq HS;cases bt with
     |false=>
      have FK:J pre u0:=HJ.out pre wo u0 none Lp.out ⟨uC.out.bel.os,uC.out.bel.tape,uC.out.bel.output,uC.out.bel.size,fun k hk _=>uC.out.bel.block k hk⟩ (fun r e=>by cases e);have r1:=uC.out.r.cellAt (i:=1) rfl;have r2:=uC.out.r.cellAt (i:=2) rfl;have h5:u0.cell? (tZ Bp 0)=some (iV p):=(uC.out.bel.cell (p:=⟨Bp,0,none⟩) zZ).trans Eh.out;have HJ5:=hid FK;clear FK;go_wp2_with fail;go_roundw;case rel=>exact⟨k+1,pre,by omega,by omega,rfl,Nat.lt_of_lt_of_le zZ uC.out.bel.size,hid ⟨HJ5.out,(BN.out.trans (uC.out.bel.mono BN.out.size)),h5⟩⟩
      case measure=>simp[Lib.intOf];omega
     |true=>
      have FK:J pre u0:=HJ.out pre wo u0 none Lp.out ⟨uC.out.bel.os,uC.out.bel.tape,uC.out.bel.output,uC.out.bel.size,fun k hk _=>uC.out.bel.block k hk⟩ (fun r e=>by cases e);have r0:=uC.out.r.cellAt (i:=0) rfl;have r1:=uC.out.r.cellAt (i:=1) rfl;have r2:=uC.out.r.cellAt (i:=2) rfl;have r3:=uC.out.r.cellAt (i:=3) rfl;have r4:=uC.out.r.cellAt (i:=4) rfl;have r5:=uC.out.r.cellAt (i:=5) rfl;have r6:=uC.out.r.cellAt (i:=6) rfl;have r7:=uC.out.r.cellAt (i:=7) rfl;have r8:=uC.out.r.cellAt (i:=8) rfl;have r9:=uC.out.r.cellAt (i:=9) rfl;have r10:=uC.out.r.cellAt (i:=10) rfl;have h5:u0.cell? (tZ Bp 0)=some (iV p):=(uC.out.bel.cell (p:=⟨Bp,0,none⟩) zZ).trans Eh.out;have Gi:pre.length<n:=by omega
      obtain⟨fn,tmps,assign,body,hy,hR⟩:=HY.out pre ⟨wY,true,false,ver,none,0,0,0,none,0,0,none,0,0,0,0⟩ u0 FK Gi;simp only[yV,yL]at hy;have HR:=hid hR;have Gm:=hid h5;clear hR FK h5;rename_i aK
      have HK:=hid aK;clear aK;refine(wpIn_wide (n:=2)).1 ?_;gi_wp2
      refine HR.out.mono ?_;rintro e W3 (⟨rfl,hJ3,hk3⟩|⟨rfl,CS⟩)
      ·gi_wp2
       refine HK.out _ _ ?_;go_wp2_with fail;go_roundw;case rel=>exact⟨k+1,pre++[⟨wY,true,false,ver,none,0,0,0,none,0,0,none,0,0,0,0⟩],by omega,by rw[List.length_append,List.length_singleton];omega,rfl,Nat.lt_of_lt_of_le zZ (Nat.le_trans uC.out.bel.size hk3.1.size),hid ⟨hJ3,(BN.out.trans (uC.out.bel.mono BN.out.size)).trans hk3.1,hk3.2 _ Gm.out⟩⟩
       case measure=>simp[Lib.intOf];omega
      ·gi_wp2
       refine HK.out _ _ ?_;go_wp2_with fail;refine bodyPost_ret (results_none rfl _ _ _) rfl ?_;exact⟨⟨_,rfl⟩,.inr ⟨_,trivial,CS⟩⟩
  ·obtain rfl:k=n:=by omega
   obtain⟨Om,Ho,hp0⟩:=HJ0.out;have Lp:=hid Om;clear Om HJ0;gi_wp2
   go_end0
   exact⟨⟨_,rfl⟩,.inl ⟨_,trivial,Lp.out⟩⟩
end
end
section
open Go.Shelf
attribute [local go_sem] Oper.semAt_some
theorem aHd(A:Option Addr)(n c:Nat)(p:Int)(w:World):Calls prog 70 #[.slice A n c,iV p] w fun e w'=>e=.returned (.func (Fn.func 141) #[] #[.pointer (some (tZ w.heap.size 0)),.pointer (some (tZ (w.heap.size+1) 0))])/\w'=(w.alloc (.cells #[.slice A n c] 64)).alloc (.cells #[iV p] 3):=by
 go_enter func70,ntmps70;go_wp2_with fail;go_ret;exact⟨rfl,rfl⟩
theorem aEU{β:Type}(B:Nat)(t:TypeId)(f:β->List Value):Own (fun s W=>ak W B t (f s)):=fun s X Y row hs hg hrow=>
 (hg.block B (ak.lt hs) (fun e'=>by obtain⟨o,ho,hc⟩:=hrow B e'.symm;rw[show X.heap[B]? =_ from hs]at ho;cases ho;cases hc)).trans hs
section
variable{w w0:World}{A:Option Addr}{n c:Nat}{es:List kJ}{l:List ay}
theorem aHy(h:ae w0 (aA 57 11 A n c (es.flatMap lj)::(es.map lu++l)) w)(hn:n<=100000)(hb:∀e∈es,sW e)(p:Nat):
  Calls prog 23 #[.slice A n c,iV (p:Int)] w fun e w'=>e=.returned (.slice none 0 0)/\Below w.heap.size w w':=by
 have i1:=hid (aHd A n c p);have HRS:=hid (fun(Bl Bp:Nat) (W0:World)=>aGT (p:=(p:Int)) (Bl:=Bl) (Bp:=Bp) (W0:=W0) h hn hb);clear h hn hb;refine(callsIn_wide (n:=3)).1 ?_;refine callsIn_of_wp_marks func23 rfl trivial ?_ rfl;simp only[ntmps23,List.size_toArray,List.length_cons,List.length_nil,Nat.reduceAdd,Nat.reduceSub,Array.replicate_succ,Array.replicate_zero,List.push_toArray,List.append_toArray,List.nil_append,List.cons_append];gi_wp2_with (refine⟨trivial,?_⟩;gi_at_call 70;refine(callsIn_wide.2 (i1.out _)).mono ?_;rintro e w' ⟨rfl,rfl⟩)
 obtain⟨W0,hW,bO,bL,c2,c3,zG,hsz⟩:∃W,(((w.alloc (.cells #[.slice none 0 0] 53)).alloc (.cells #[iV (-1)] 3)).alloc (.cells #[.slice A n c] 64)).alloc (.cells #[iV (p:Int)] 3)=W/\
   ak W w.heap.size 53 [.slice none 0 0]/\ak W (w.heap.size+1) 3 [iV (-1)]/\
   W.cell? (tZ (w.heap.size+1+1) 0)=some (.slice A n c)/\W.cell? (tZ (w.heap.size+1+1+1) 0)=some (iV (p:Int))/\Below w.heap.size w W/\W.heap.size=w.heap.size+4:=by
  have h0:=(((ak.new w 53 [.slice none 0 0]).alloc (.cells #[iV (-1)] 3)).alloc (.cells #[.slice A n c] 64)).alloc (.cells #[iV (p:Int)] 3);have h1:=((ak.new (w.alloc (.cells #[.slice none 0 0] 53)) 3 [iV (-1)]).alloc (.cells #[.slice A n c] 64)).alloc (.cells #[iV (p:Int)] 3);have h2:=(ak.new ((w.alloc (.cells #[.slice none 0 0] 53)).alloc (.cells #[iV (-1)] 3)) 64 [.slice A n c]).alloc (.cells #[iV (p:Int)] 3);have h3:=ak.new (((w.alloc (.cells #[.slice none 0 0] 53)).alloc (.cells #[iV (-1)] 3)).alloc (.cells #[.slice A n c] 64)) 3 [iV (p:Int)];simp only[World.size_alloc]at h1 h2 h3;refine⟨_,rfl,h0,h1,h2.cellAt rfl,h3.cellAt rfl,((((Below.refl _ w).alloc (Nat.le_refl _) _).alloc (by simp) _).alloc (by simp;omega) _).alloc (by simp;omega) _,by simp⟩
 rw[hW];clear hW i1;have hst:=HRS.out (w.heap.size+1+1) (w.heap.size+1+1+1) W0 zG (by omega) (by omega) c2 c3;clear HRS;refine wpIn_rangeFunc_ownH rfl (by omega) (gf:=141) (lb:= #[.pointer (some (tZ (w.heap.size+1+1) 0)),.pointer (some (tZ (w.heap.size+1+1+1) 0))]) rfl trivial (enters_of func141 (by kernel_rfl) rfl)
  hst aPn (aPr (w:=W0) (by omega) (by omega)) (Below.refl _ _) (fun _=>rfl)
  (fun pre W'=>(ak W' w.heap.size 53 [.slice none 0 0]/\ak W' (w.heap.size+1) 3 [iV (if pre.any YR.bt then 0 else-1)])/\Below w.heap.size w W')
  (fun _ _ _=>False)
  (OwnFrom.and (OwnFrom.and (Own.from (aEU _ _ _) _) (Own.from (aEU _ _ _) _)) (ownFrom_below (Nat.le_refl _) (by omega)))
  (fun _ _ _ _ _ hs _ _=>hs)
  ⟨⟨bO,bL⟩,zG⟩
  (fun x a' W'=>∃Bx,w.heap.size+1<Bx/\ak W' Bx 152 (yL x)/\a'={tmps:= #[.slice A n c,iV (p:Int),undef,undef,.slice none 0 0,.pointer (some (tZ w.heap.size 0)),.pointer (some (tZ (w.heap.size+1) 0)),.pointer (some (tZ Bx 0)),.slice A n c,iV (p:Int),.func (.func 141) #[] #[.pointer (some (tZ (w.heap.size+1+1) 0)),.pointer (some (tZ (w.heap.size+1+1+1) 0))],yV x,undef,undef,undef,undef,undef,undef,undef,undef,undef,undef,undef,undef,undef,undef,undef,undef,undef,undef,undef],defers:=[]})
  (fun x a' _ X Y row hs hg hr=>by obtain⟨Bx,h1,h2,h3⟩:=hs;exact⟨Bx,h1,aEU Bx 152 (fun(_:Unit)=>yL x) () X Y row h2 hg (fun r e=>(hr r e).2),h3⟩)
  ?assign ?body ?done ?stop
 case assign=>
  rintro l pre x W K⟨⟨Ju,Gn⟩,xO⟩ hK;obtain⟨tick,bt,ran,ver,A1,n1,c1,pc,A2,n2,c2,A3,n3,c3,tk,fa⟩:=x;simp only[yV,yL]at hK ⊢;gi_wp2
  have hs1:=xO.size;refine hK _ _ ((KeepsOthers.alloc _ _).from _) ⟨(Below.refl _ W).alloc hs1 _,fun v hv=>((ah W _).cell (p:=⟨w.heap.size+1+1+1,0,none⟩) (World.block_lt_of_cell? _ _ hv)).trans hv⟩ ⟨⟨Ju.alloc _,Gn.alloc _⟩,xO.alloc hs1 _⟩ ⟨W.heap.size,Gn.lt,ak.new W _ (yL ⟨tick,bt,ran,ver,A1,n1,c1,pc,A2,n2,c2,A3,n3,c3,tk,fa⟩),rfl⟩
 case body=>
  rintro l pre x a' W hl⟨r,hr⟩⟨⟨Ju,Gn⟩,xO⟩⟨Bx,hBx,bX,rfl⟩ hlt;obtain⟨tick,bt,ran,ver,A1,n1,c1,pc,A2,n2,c2,A3,n3,c3,tk,fa⟩:=x;simp only[yV,yL]at bX ⊢;have x1:W.cell? (tZ Bx 1)=some (.bool bt):=bX.cellAt rfl;have x4:W.cell? (tZ Bx 4)=some (iV 0):=bX.cellAt rfl;have hnx:w.heap.size+1≠Bx:=by omega
  have hno:w.heap.size≠w.heap.size+1:=by omega
  have hs1:=xO.size;obtain⟨z,hz⟩:∃z:Int,(if pre.any YR.bt then 0 else-1)=z:=⟨_,rfl⟩;rw[hz]at Gn;have hz':z=0\/z= -1:=by
   rw[<-hz];split
   ·exact .inl rfl
   ·exact .inr rfl
  have y0:W.cell? (tZ (w.heap.size+1) 0)=some (iV z):=Gn.cellAt rfl;have yf:=Gn.frozen 0;cases bt with
  |false=>
   gi_wp2
   refine⟨KeepsFrom.refl _ _,⟨Below.refl _ _,fun v hv=>hv⟩,⟨Ju,?_⟩,xO⟩;rw[show(if(pre++[(⟨tick,false,ran,ver,A1,n1,c1,pc,A2,n2,c2,A3,n3,c3,tk,fa⟩:YR)]).any YR.bt then(0:Int)else-1)=z from by rw[<-hz];simp];exact Gn
  |true=>
   have hfin:KeepsFrom W0.heap.size W (W.setCell (tZ (w.heap.size+1) 0) (iV 0))/\KpR w.heap.size (w.heap.size+1+1+1) W (W.setCell (tZ (w.heap.size+1) 0) (iV 0))/\(ak (W.setCell (tZ (w.heap.size+1) 0) (iV 0)) w.heap.size 53 [.slice none 0 0]/\ak (W.setCell (tZ (w.heap.size+1) 0) (iV 0)) (w.heap.size+1) 3 [iV (if(pre++[(⟨tick,true,ran,ver,A1,n1,c1,pc,A2,n2,c2,A3,n3,c3,tk,fa⟩:YR)]).any YR.bt then 0 else-1)])/\Below w.heap.size w (W.setCell (tZ (w.heap.size+1) 0) (iV 0)):=by
    refine⟨(KeepsOthers.setCell _ _ _).from _,⟨(Below.refl _ W).setCell (p:=⟨w.heap.size+1,0,none⟩) (by simp) _,fun v hv=>(World.cell?_setCell_other _ _ _ _ (by simp)).trans hv⟩,⟨Ju.far (by exact hno) _,?_⟩,xO.setCell (p:=⟨w.heap.size+1,0,none⟩) (by simp) _⟩;have h9:=Gn.uh 0 (iV 0);rw[show(if(pre++[(⟨tick,true,ran,ver,A1,n1,c1,pc,A2,n2,c2,A3,n3,c3,tk,fa⟩:YR)]).any YR.bt then(0:Int)else-1)=0 from by simp];exact h9
   have HF:=hid hfin;clear hfin Ju Gn xO bX hr hst;rcases hz' with rfl|rfl
   ·gi_wp2
    exact HF.out
   ·gi_wp2
    exact HF.out
 case done=>
  rintro D ys W hD _⟨⟨Ju,Gn⟩,xO⟩ hK;have y0:W.cell? (tZ w.heap.size 0)=some (.slice none 0 0):=Ju.cellAt rfl;gi_wp2
  refine⟨by simp,.inl ⟨_,_,rfl,run_takeDeferred hK,?_⟩⟩;exact⟨_,results_tmp rfl _ _ _,rfl,xO.trans (belowK_b (w:=w) (Nat.le_refl _) W D _ _ (by omega) hK rfl rfl)⟩
 case stop=>
  rintro D c pre W _ _ h _;exact h.elim
end
end
section
variable{w w' w0:World}{A:Option Addr}{n c:Nat}{ds:List rY}
theorem aP2(h:lh w w.heap.size 7 A n pU ds)(hn:n<=9223372036854775807):
  Calls prog 12 #[.slice A n c] w fun e w'=>∃b,e=.returned (.bool b)/\(b=false->n<=300)/\Below w.heap.size w w':=by
 have H:=hid h;clear h;go_enter func12,ntmps12;go_wp2_with fail;go_loopw [7] (fun v7 wr=>∃(k:Nat),k<=n/\v7=iV (k:Int)/\Hid (Below w.heap.size w wr)) (fun v7 _=>n-(Lib.intOf v7).toNat)
 case atStart=>exact⟨0,by omega,rfl,hid (Below.refl _ _)⟩
 obtain⟨k,hk,rfl,HB⟩:=hrel;by_cases hkn:k<n
 ·obtain⟨ad,x,hA,_,hx,hc0,hc⟩:=(H.out.belowS HB.out).at_ hkn;subst hA;have e0:wr.cell? (ad.add (k*7))=some (iV x.k):=hc0 _ rfl;have e1:wr.cell? (tZ ((ad.add (k*7)).block) ((ad.add (k*7)).off+1))=some (iV x.a):=hc 0 _ rfl;have e2:wr.cell? (tZ ((ad.add (k*7)).block) ((ad.add (k*7)).off+2))=some (iV x.b):=hc 1 _ rfl;have e3:wr.cell? (tZ ((ad.add (k*7)).block) ((ad.add (k*7)).off+3))=some (iV x.c):=hc 2 _ rfl;have e4:wr.cell? (tZ ((ad.add (k*7)).block) ((ad.add (k*7)).off+4))=some (iV x.d):=hc 3 _ rfl;have e5:wr.cell? (tZ ((ad.add (k*7)).block) ((ad.add (k*7)).off+5))=some (.int .u64 x.keep):=hc 4 _ rfl;have e6:wr.cell? (tZ ((ad.add (k*7)).block) ((ad.add (k*7)).off+6))=some (.slice x.A x.n x.cc):=hc 5 _ rfl;have q1:(0:Int)<=(k:Int):=Int.natCast_nonneg _;have q2:(k:Int)<(n:Int):=by omega
  have uz:Hid (∀o,Below w.heap.size w (wr.alloc o)):=hid fun o=>HB.out.alloc HB.out.size o
  clear hc0 hc hx;go_wp2_with fail
  ·go_ret;exact⟨true,rfl,fun h=>(by cases h),uz.out _⟩
  ·go_roundw;case rel=>exact⟨k+1,by omega,rfl,hid (uz.out _)⟩
   case measure=>simp[Lib.intOf];omega
 ·obtain rfl:k=n:=by omega
  go_wp2_with fail;go_ret;exact⟨_,rfl,fun h=>by simp at h;omega,HB.out⟩
end
end Go.Proofs.YtfjkpigldogkeaaGreatDoor
