/- Contracts of functions that TopQuiet reaches, under the conditions that each states. -/
import Derived.Test.YtfjkpigldogkeaaGreatDoorQaz
set_option linter.all false
set_option maxRecDepth 100000
set_option maxHeartbeats 4000000
namespace Go.Proofs.YtfjkpigldogkeaaGreatDoor
open Go.RowKit Go.ChangeShapes Go.WideShapes Go.ChangeAt Go.Proofs.Tryz
theorem aC4:(prog.info? 280).map (·.size)=some 64:=by kernel_rfl
theorem aJW(i:Int)(w:World):Calls prog 373 #[iV i] w fun e w'=>e=.returned (.bool true)/\w'=w:=by
 go_enter func373,ntmps373;go_wp2_with fail;go_ret;exact⟨rfl,rfl⟩
theorem aAx(k:Nat):(Builtin.zeroCells (Value.agg zeroCells282).cells k).toList.length=k*65:=by
 rw[Array.length_toList];unfold Builtin.zeroCells;rw[Array.size_map,Array.size_range];rfl
theorem aFf(k:Nat):∀v∈(Builtin.zeroCells (Value.agg zeroCells282).cells k).toList,v.oneCell'=true:=by
 intro v hv;unfold Builtin.zeroCells at hv;rw[Array.toList_map,List.mem_map]at hv;obtain⟨i,_,rfl⟩:=hv;have hz:∀j,j<65->((Value.agg zeroCells282).cells[j]!).oneCell'=true:=by decide+kernel
 have hs:(Value.agg zeroCells282).cells.size=65:=rfl;refine hz _ ?_;rw[hs];exact Nat.mod_lt _ (by decide)
theorem aAF(A:Option Addr)(c:Nat)(ty:TypeId)(w:World):(Builtin.clear_ #[171] ty #[.slice A 0 c]).run prog w=.ok (.tuple #[]) w:=by
 unfold Builtin.clear_;cases A<;>simp[Sem.run_bind,run_underlying underlying171]
theorem aB8{w:World}{base g n c:Nat}{xs:List Value}{ty:TypeId}(h:w.ownsRow base 282 65 (.slice (some (tZ g 0)) n c) n xs)(hn:0<n):
  (Builtin.clear_ #[171] ty #[.slice (some (tZ g 0)) n c]).run prog w=.ok (.tuple #[]) (w.setCells g 0 (Builtin.zeroCells (Value.agg zeroCells282).cells n).toList):=by
 rcases h.2 with⟨h0,_⟩|⟨g',cap,cur,hv,_,hh,hnc,_,hs,_⟩
 ·cases h0
 ·injection hv with h1 h2 h3
  injection h1 with h1
  injection h1 with h1
  subst h1;subst h3;have hb:ak w g 282 cur.toList:=by unfold ak;rw[Array.toArray_toList];exact hh
  have hst:=run_storeCells_cells (P:=prog) g 0 (Builtin.zeroCells (Value.agg zeroCells282).cells n).toList 0 w (fun j hj=>by
    rw[aAx]at hj;rw[hb.cell,List.getElem?_eq_getElem (by rw[Array.length_toList,hs];have:=Nat.mul_le_mul_right 65 hnc;omega)];rfl) (fun j _=>hb.frozen _) (aFf n)
  have hz:(zeroValue 282).run prog w=.ok (.agg zeroCells282) w:=by kernel_rfl
  obtain⟨m,rfl⟩:∃m,n=m+1:=⟨n-1,by omega⟩;have hu:=run_underlying underlying171 w;unfold Builtin.clear_;simp only[List.getElem?_toArray,List.getElem?_cons_zero,Sem.run_bind,hu,Result.andThen_ok,hz,hst,Sem.run_pure]
def iZ(s:ja)(is:Nat->Bool)(k:Nat):ja:={s with laid:=lY is 0 (s.waits.take k) s.laid}
theorem aEy(s:ja)(is:Nat->Bool):iZ s is 0=s:=by simp[iZ,lY]
theorem aFu(s:ja)(is:Nat->Bool)(k:Nat):(iZ s is k).laid.length=s.laid.length:=aB2 ..
theorem aC2{s:ja}{is:Nat->Bool}{k:Nat}{x:Nat×List UInt8}(h:s.waits[k]? =some x):iZ s is (k+1)=if is k=true then {s with laid:=(iZ s is k).laid.set x.1 x.2} else iZ s is k:=by
 have hk:=(List.getElem?_eq_some_iff.1 h).1;have e:s.waits.take (k+1)=s.waits.take k++[x]:=by rw[List.take_add_one,h];rfl
 unfold iZ;rw[e,aCF,List.length_take,Nat.zero_add,Nat.min_eq_left (by omega)];split<;>rfl
theorem aII{s:ja}(hs:eX s)(is:Nat->Bool)(k:Nat):∀x∈(iZ s is k).laid,x.length=64:=aDi is 0 _ _ hs.laid fun x hx=>(hs.waits x (List.mem_of_mem_take hx)).2
theorem aKr{w w0:World}{d:Nat}{s:ja}{l:List ay}(h:ae w0 (dU d s::l) w)(hs:eX s):
  Calls prog 116 #[.pointer (some (tZ d 0)),.func (.func 373) #[] #[]] w fun e w'=>e=.returned (.tuple #[])/\ae w0 (dU d (s.lay (fun _=>true))::l) w':=by
 obtain⟨⟨gl,A,ca⟩,h⟩:=h.xK;obtain⟨_,c1,_,_,cf⟩:=h.uN;obtain⟨L,hL⟩:∃L,s.waits.length=L:=⟨_,rfl⟩;rw[hL]at c1;have hL9:L<=1000000:=by rw[<-hL];exact hs.w1
 have H:=hid h;have HL:=hid hL;have HS:=hid hs;clear h hL hs;go_enter func116,ntmps116;go_wp2_with fail;go_loopw [4,5,11] (fun v4 v5 v11 wr=>∃k:Nat,k<=L/\v11=iV (k:Int)/\ae w0 (pX d (iZ s (fun _=>true) k) ⟨gl,A,ca⟩::qO (iZ s (fun _=>true) k) ⟨gl,A,ca⟩::rE s ⟨gl,A,ca⟩::l) wr) (fun v4 v5 v11 _=>L-(Lib.intOf v11).toNat)
 case atStart=>exact⟨0,by omega,rfl,by rw[aEy];exact H.out⟩
 case round=>
  obtain⟨k,hk,rfl,hA⟩:=hrel;by_cases hkn:k<L
  ·obtain⟨x,hx⟩:∃x,s.waits[k]? =some x:=⟨_,List.getElem?_eq_getElem (by rw[HL.out];exact hkn)⟩;have hx2:=HS.out.waits x (List.mem_of_getElem? hx);have HXK:=hid hx;obtain⟨gw,Ia,aRS⟩:∃gw,A=some (tZ gw 0)/\gw<wr.heap.size:=by
    have:=ae.own (hA.at_ 2 rfl);obtain⟨g,cap,hv,_,hlt⟩:=this.form (by rw[HL.out];omega);injection hv with hv
    exact⟨g,hv,hlt⟩
   subst Ia;have vW:=ai.uA (ae.own (hA.at_ 2 rfl));obtain⟨ad,IY,_,hcl⟩:=vW.form (by rw[HL.out];omega);injection IY with IY
   subst IY;have hrg:∀o,(wr.alloc o).rangeAt gw (k*65) (iF x):=fun o=>World.rangeAt_alloc (fun j v hv=>by
    have:=hcl (k*65+j) v (MP _ k j x v (fun y hy=>(HS.out.waits y hy).2) hx hv);rw[Addr.add_mid,Nat.zero_add]at this;exact this) o
   have hrg0:wr.rangeAt gw (k*65) (iF x):=fun j v hv=>by
    have:=hcl (k*65+j) v (MP _ k j x v (fun y hy=>(HS.out.waits y hy).2) hx hv);rw[Addr.add_mid,Nat.zero_add]at this;exact this
   obtain⟨X,hX⟩:∃X,iF x=X:=⟨_,rfl⟩;have Ed:X.length=65:=by rw[<-hX];exact aCH x hx2.2
   have hX1:X.toArray.all (·.oneCell')=true:=by
    rw[<-hX];refine all_oneCell_toArray fun v hv=>?_
    rcases List.mem_cons.1 hv with rfl|hv
    ·rfl
    ·exact iG _ v hv
   rw[hX]at hrg hrg0;have F8:(prog.info? 282).map (·.size)=some X.length:=by rw[Ed];kernel_rfl
   have DN:(prog.info? 282).map (·.size)=some X.toArray.size:=by rw[List.size_toArray];exact F8
   have hzs:zeroCells282.size=X.toArray.size:=by
    have e:X.toArray.size=65:=by simp[Ed]
    rw[e];rfl
   have g1:decide ((k:Int)<(L:Int))=true:=decide_eq_true (by omega);have g2:decide (k<L)=true:=decide_eq_true hkn;have q1:(0:Int)<=(k:Int):=Int.natCast_nonneg _;have q2:(k:Int)<(L:Int):=by omega
   have HA:=hid hA;have MQ:=hid hX;have vV:=hid hx2;clear hA hx vW hcl h hX hx2;go_wp2_with (first
    |(refine wpList_load_mid rfl 282 _ rfl gw (k*65) rfl X _ (by first|exact hrg0|exact hrg _) underlying282 rfl F8 ?_)
    |(refine wpList_store_row rfl 282 _ _ rfl wr.heap.size X.toArray rfl rfl 282 zeroCells282 (heap_alloc_new wr _) DN hzs hX1 ?_;rw[World.setRow_alloc_new])
    |(go_at_call 373;refine(aJW _ _).mono ?_;rintro e w9 ⟨rfl,rfl⟩))
   rename_i Kx ax
   have hM:=HA.out.made (T:=282) (xs:=X);generalize wr.heap.size=g5 at*
   clear hrg hrg0 F8 DN hzs hX1 q1 q2 g1 g2;have hx2:=vV.out;have aRT:=HXK.out;obtain⟨N,hN⟩:∃N,(iZ s (fun _=>true) k).laid.length=N:=⟨_,rfl⟩;have hxN:x.1<N:=by rw[<-hN,aFu];exact hx2.1
   have c5:X[0]? =some (iV (x.1:Int)):=by rw[<-MQ.out];rfl
   have MR:∀(W:World),ae w0 (aj g5 282 X::pX d (iZ s (fun _=>true) k) ⟨gl,some (tZ gw 0),ca⟩::l) W->W.cell? (tZ d 0)=some (.slice (some (tZ gl 0)) N N)/\W.cell? (tZ g5 0)=some (iV (x.1:Int))/\W.rangeAt g5 1 (aT x.2):=fun W h=>by
    refine⟨?_,(ae.blk h).cellAt c5,(ae.blk h).range 1 _ fun j v hv=>?_⟩
    ·have:=((h.at_ 1 rfl).uN).1;rw[hN]at this;exact this
    ·rw[<-MQ.out,Nat.add_comm];exact hv
   have HM:=hid hM;have uC:=hid MR;have HN:=hid hN;clear hM MR c5 hN;generalize wr.alloc (.cells X.toArray 282)=W1 at*
   have q3:(0:Int)<=(x.1:Int):=Int.natCast_nonneg _;have q4:(x.1:Int)<(N:Int):=by omega
   have hsl:(aT x.2).length=64:=by simp[aT,hx2.2]
   have GL:(prog.info? 280).map (·.size)=some (aT x.2).length:=by rw[hsl];exact aC4
   have DR:(prog.info? 280).map (·.size)=some (aT x.2).toArray.size:=by rw[List.size_toArray];exact GL
   have hs1:(aT x.2).toArray.all (·.oneCell')=true:=all_oneCell_toArray (iG _);have EP:=aII HS.out (fun _=>true) k;have ES:((iZ s (fun _=>true) k).laid.flatMap aT).length=N*64:=by rw[aDe _ EP,HN.out]
   have MS:=hid ((HM.out.drew.at_ 2 rfl).setCells (aT x.2) (x.1*64) (by rw[hsl];show _<=((iZ s (fun _=>true) k).laid.flatMap aT).length;rw[ES];omega));have HTH:Hid (W1.drew.there gl (x.1*64) (aT x.2).toArray.size):=hid ((ae.blk (HM.out.drew.at_ 2 rfl)).there _ _ (by rw[List.size_toArray,hsl];show _<=((iZ s (fun _=>true) k).laid.flatMap aT).length;rw[ES];omega));have zq:=hid (uC.out W1.drew (HM.out.drew.sub (List.Sublist.cons_cons _ (List.Sublist.cons_cons _ (List.Sublist.cons _ (List.Sublist.cons _ (List.Sublist.refl _)))))));have HS9:=hid (uC.out _ ((show ae w0 (aj gl 280 _::aj g5 282 X::pX d (iZ s (fun _=>true) k) ⟨gl,some (tZ gw 0),ca⟩::rE s ⟨gl,some (tZ gw 0),ca⟩::l) _ from MS.out).sub (List.Sublist.cons _ (List.Sublist.cons_cons _ (List.Sublist.cons_cons _ (List.Sublist.cons _ (List.Sublist.refl _)))))));refine wp_region_held_drew (S:=fun w'=>w'.cell? (tZ d 0)=some (.slice (some (tZ gl 0)) N N)/\w'.cell? (tZ g5 0)=some (iV (x.1:Int))/\w'.rangeAt g5 1 (aT x.2)) (by kernel_rfl) zq.out (fun hHeld=>?_);refine ij 0 19 rfl rfl (v:=?_) (by kernel_rfl) (by kernel_rfl) (by kernel_rfl) (fun _ _ _ h=>h) (Or.inl ⟨by rfl,?_⟩) (by assumption) ?_;rotate_left 1;focus(intro wS hSw;(try dsimp only at hSw);obtain⟨hS1,yS,Aj⟩:=hSw;go_simp;try with_reducible rfl)
   try simp only[Act.put,aY,aZ,aU]
   refine ij 1 20 rfl rfl (v:=?_) (by kernel_rfl) (by kernel_rfl) (by kernel_rfl) (fun _ _ _ h=>h) (Or.inl ⟨by rfl,?_⟩) (by assumption) ?_;rotate_left 1;focus(intro wS hSw;(try dsimp only at hSw);obtain⟨hS1,yS,Aj⟩:=hSw;go_simp;try with_reducible rfl)
   try simp only[Act.put,aY,aZ,aU]
   refine ij 2 21 rfl rfl (v:=?_) (by kernel_rfl) (by kernel_rfl) (by kernel_rfl) (fun _ _ _ h=>h) (Or.inl ⟨by rfl,?_⟩) (by assumption) ?_;rotate_left 1;focus(intro wS hSw;(try dsimp only at hSw);obtain⟨hS1,yS,Aj⟩:=hSw;go_simp;try with_reducible rfl)
   try simp only[Act.put,aY,aZ,aU]
   refine ij 3 22 rfl rfl (v:=?_) (by kernel_rfl) (by kernel_rfl) (by kernel_rfl) (fun _ _ _ h=>h) (Or.inl ⟨by rfl,?_⟩) (by assumption) ?_;rotate_left 1;focus(intro wS hSw;(try dsimp only at hSw);obtain⟨hS1,yS,Aj⟩:=hSw;go_simp;try with_reducible rfl)
   try simp only[Act.put,aY,aZ,aU]
   refine ij 4 23 rfl rfl (v:=?_) (by kernel_rfl) (by kernel_rfl) (by kernel_rfl) (fun _ _ _ h=>h) (Or.inl ⟨by rfl,?_⟩) (by assumption) ?_;rotate_left 1;focus(intro wS hSw;(try dsimp only at hSw);obtain⟨hS1,yS,Aj⟩:=hSw;go_simp;try with_reducible rfl)
   try simp only[Act.put,aY,aZ,aU]
   refine ij 5 24 rfl rfl (v:=?_) (by kernel_rfl) (by kernel_rfl) (by kernel_rfl) (fun _ _ _ h=>h) (Or.inl ⟨by rfl,?_⟩) (by assumption) ?_;rotate_left 1;focus(intro wS hSw;(try dsimp only at hSw);obtain⟨hS1,yS,Aj⟩:=hSw;go_simp;try with_reducible rfl)
   try simp only[Act.put,aY,aZ,aU]
   refine ij 6 25 rfl rfl (v:=?_) (by kernel_rfl) (by kernel_rfl) (by kernel_rfl) (fun _ _ _ h=>h) (Or.inl ⟨by rfl,?_⟩) (by assumption) ?_;rotate_left 1;focus(intro wS hSw;(try dsimp only at hSw);obtain⟨hS1,yS,Aj⟩:=hSw;go_simp;try with_reducible rfl)
   try simp only[Act.put,aY,aZ,aU]
   refine ij 7 26 rfl rfl (v:=.agg (aT x.2).toArray) (by kernel_rfl) (by kernel_rfl) (by kernel_rfl) (fun _ _ _ h=>h) (yieldsIf_load_mid (by rfl) _ _ rfl g5 1 rfl (aT x.2) _ (fun w hS=>hS.2.2) underlying280 rfl GL) (by assumption) ?_;try simp only[Act.put,aY,aZ,aU]
   refine ij 8 27 rfl rfl (v:=?_) (by kernel_rfl) (by kernel_rfl) (by kernel_rfl) (fun _ _ _ h=>h) (Or.inl ⟨by rfl,?_⟩) (by assumption) ?_;rotate_left 1;focus(intro wS hSw;(try dsimp only at hSw);obtain⟨hS1,yS,Aj⟩:=hSw;go_simp;try with_reducible rfl)
   try simp only[Act.put,aY,aZ,aU]
   refine dO 9 rfl (by kernel_rfl) fun K hK=>?_
   refine aAI rfl 280 (.tmp 27) (.tmp 26) (by rfl) gl (x.1*64) (aT x.2).toArray (by rfl) (by rfl) HTH.out DR hs1 ?_;refine hK.out _ _ HS9.out (fun hHeld=>?_);clear hK K;try simp only[Act.put,aY,aZ,aU]
   refine wpAnyH_done (by kernel_rfl) ?_ _;have EU:Hid (ae w0 (pX d (iZ s (fun _=>true) (k+1)) ⟨gl,some (tZ gw 0),ca⟩::qO (iZ s (fun _=>true) (k+1)) ⟨gl,some (tZ gw 0),ca⟩::rE s ⟨gl,some (tZ gw 0),ca⟩::l) (W1.drew.setCells gl (x.1*64) (aT x.2))):=hid (by
    have e1:=aC2 (is:=(fun _=>true)) aRT;rw[if_pos rfl]at e1;have e2:=aD4 (iZ s (fun _=>true) k).laid x.1 x.2 EP hx2.2 (by rw[HN.out];exact hxN);have h9:=MS.out;have h8:=h9.perm (List.Perm.swap _ _ _);have h7:=h8.drop.perm (List.Perm.swap _ _ _);unfold pX qO;rw[e1];simp only[List.length_set];rw[e2];exact h7)
   refine ax _ _ ?_;go_wp2_with fail;exact⟨⟨k+1,by omega,by simp,EU.out⟩,by simp[Lib.intOf];omega⟩
  ·obtain rfl:k=L:=by omega
   have g1:decide ((k:Int)<(k:Int))=false:=decide_eq_false (by omega);have hfull:iZ s (fun _=>true) k={s with laid:=(s.lay (fun _=>true)).laid}:=by
    unfold iZ ja.lay;rw[List.take_of_length_le (by rw[HL.out];exact Nat.le_refl _)]
   rw[hfull]at hA;obtain⟨q0,q1,_,_,qf⟩:=hA.uN;have HA:=hid hA;clear hA hfull h;rcases Nat.eq_zero_or_pos k with rfl|Dt
   ·have hw0:s.waits=[]:=List.eq_nil_of_length_eq_zero HL.out;have hq1:wr.cell? (tZ d 1)=some (.slice A 0 ca):=by rw[<-HL.out];exact q1
    have hcl:=aAF A ca 0 wr;have H7:=hid (show ae w0 (pX d {s with laid:=(s.lay (fun _=>true)).laid} ⟨gl,A,ca⟩::qO {s with laid:=(s.lay (fun _=>true)).laid} ⟨gl,A,ca⟩::aA 282 65 A 0 ca []::l) wr from by
     have h:=HA.out;have e:rE s ⟨gl,A,ca⟩=aA 282 65 A 0 ca []:=by unfold rE;rw[hw0];rfl
     rw[e]at h;exact h)
    have GM:=(ae.own (H7.out.at_ 2 rfl));have hform:(A=none/\ca=0)\/∃gw,A=some (tZ gw 0):=by
     rcases GM.2 with⟨h0,_⟩|⟨g',cap,cur,hv,_⟩
     ·injection h0 with h1 _ h3
      exact .inl ⟨h1,h3⟩
     ·injection hv with h1
      exact .inr ⟨g',h1⟩
    clear q0 q1 HA GM;rcases hform with⟨rfl,rfl⟩|⟨gw,rfl⟩
    all_goals
     go_wp2_with fail;refine bodyPost_end (v:=.tuple #[]) (by simp[results,results116,go_sem]) rfl ?_;refine⟨rfl,?_⟩;exact ae.vT (s:=s.lay (fun _=>true)) (ae.store (show ae w0 (aj d 173 _::_) wr from H7.out) 1 _)
   ·obtain⟨gw,Ia,aRS⟩:∃gw,A=some (tZ gw 0)/\gw<wr.heap.size:=by
     have:=ae.own (HA.out.at_ 2 rfl);obtain⟨g,cap,hv,_,hlt⟩:=this.form (by rw[HL.out];omega);injection hv with hv
     exact⟨g,hv,hlt⟩
    subst Ia;have hq1:wr.cell? (tZ d 1)=some (.slice (some (tZ gw 0)) k ca):=by rw[<-HL.out];exact q1
    have hown:=ae.own (HA.out.at_ 2 rfl);rw[HL.out]at hown;have hcl:=aB8 (ty:=0) hown Dt;obtain⟨W2,hW2⟩:∃W2,wr.setCells gw 0 (Builtin.zeroCells (Value.agg zeroCells282).cells k).toList=W2:=⟨_,rfl⟩;have vN:=ae.aQb (HA.out.at_ 2 rfl) (Builtin.zeroCells (Value.agg zeroCells282).cells k).toList (by rw[HL.out,aAx]);rw[hW2]at hcl vN;have h8:ae w0 (aA 282 65 (some (tZ gw 0)) 0 ca []::pX d {s with laid:=(s.lay (fun _=>true)).laid} ⟨gl,some (tZ gw 0),ca⟩::qO {s with laid:=(s.lay (fun _=>true)).laid} ⟨gl,some (tZ gw 0),ca⟩::l) W2:=vN;have h7:=h8.at_ 1 rfl;obtain⟨_,r1,_,_,rf⟩:=ae.uN h7;have hr1:W2.cell? (tZ d 1)=some (.slice (some (tZ gw 0)) k ca):=by rw[<-HL.out];exact r1
    have H7:=hid h7;clear q0 q1 r1 hW2 vN h8 h7 hown HA;go_wp2_with fail;refine bodyPost_end (v:=.tuple #[]) (by simp[results,results116,go_sem]) rfl ?_;refine⟨rfl,?_⟩;have h9:=ae.store (show ae w0 (aj d 173 _::_) W2 from H7.out) 1 (.slice (some (tZ gw 0)) 0 ca);have h10:=(show ae w0 (_::aA 282 65 (some (tZ gw 0)) 0 ca []::qO {s with laid:=(s.lay (fun _=>true)).laid} ⟨gl,some (tZ gw 0),ca⟩::l) _ from h9).perm ((List.Perm.swap _ _ _).cons _);exact ae.vT (s:=s.lay (fun _=>true)) (a:=⟨gl,some (tZ gw 0),ca⟩) h10
section
variable{w w' w0:World}{d:Nat}{s s':ja}{l:List ay}
theorem aGF(h:ae w0 (dU d s::l) w)(hs:eX s)(hoff:s.off=false):
  Calls prog 308 #[.pointer (some (tZ d 0))] w fun e w'=>e=.returned (iV 0)/\ae w0 (dU d (s.um.lay fun _=>true)::l) w':=by
 have i2:=hid (aBa h hs);have i3:=hid (fun W (h:ae w0 (dU d s.um::l) W)=>aKr h hs.um);rw[hoff]at i2;clear h hs hoff;go_enter func308,ntmps308;go_wp2_with fail;refine i2.out.mono ?_;rintro e w1⟨rfl,hA⟩;have HA:=hid hA;clear hA;go_wp2_with fail;refine(i3.out _ HA.out).mono ?_;rintro e w2⟨rfl,hA⟩;have vY:=hid hA;clear hA;go_wp2_with fail;go_ret;exact⟨rfl,vY.out⟩
end
def dA:Array Value:=(List.replicate 64 (Value.int .u8 0)).toArray
theorem aA5:dA.size=64:=by simp[dA]
theorem aFd(w:World):(zeroValue 280).run prog w=.ok (.agg dA) w:=by kernel_rfl
theorem aEt:(prog.info? 5).map (fun i=>(i.zero,i.size,i.bytes))=some (some (.int .u8 0),1,1):=by kernel_rfl
theorem aBf(w:World):(Instr.makeSlice 37 (iV 64) (iV 64)).run prog w=.ok (.slice (some (tZ w.heap.size 0)) 64 64) (w.alloc (.cells dA 5)):=by
 have e:madeCells #[Value.int .u8 0] 64=dA:=by kernel_rfl
 rw[<-e];exact run_make_row' (P:=prog) 37 5 (.int .u8 0) 1 underlying37 aEt rfl .i64 .i64 64 (by decide) (by decide) w
def dI(keep:Int)(i:Nat):Bool:=decide (i<64)&&(bits BinOp.and IntKind.u64 (keep/2^min i 64) 1 !=0)
theorem aGI(gk i:Nat)(keep:Int)(w:World)(hc:w.cell? (tZ gk 0)=some (.int .u64 keep))(hi:i<=1000000):
  Calls prog 117 #[iV (i:Int),.pointer (some (tZ gk 0))] w fun e w'=>e=.returned (.bool (dI keep i))/\w'=w:=by
 have q0:(0:Int)<=(i:Int):=Int.natCast_nonneg _;by_cases h:i<64
 ·have g1:decide ((i:Int)<64)=true:=decide_eq_true (by omega);have g2:decide (i<64)=true:=decide_eq_true h;have hk:dI keep i=(bits BinOp.and IntKind.u64 (keep/2^min i 64) 1 !=0):=by unfold dI;rw[g2,Bool.true_and]
  rw[hk];clear h hk;go_enter func117,ntmps117;go_wp2_with fail;go_ret;exact⟨rfl,rfl⟩
 ·have g1:decide ((i:Int)<64)=false:=decide_eq_false (by omega);have g2:decide (i<64)=false:=decide_eq_false h;have hk:dI keep i=false:=by unfold dI;rw[g2,Bool.false_and]
  rw[hk];clear h hk;go_enter func117,ntmps117;go_wp2_with fail;go_ret;exact⟨rfl,rfl⟩
theorem aGN{w w0:World}{d:Nat}{s:ja}{l:List ay}(gk:Nat)(keep:Int)(h:ae w0 (dU d s::aj gk 31 [.int .u64 keep]::l) w)(hs:eX s):
  Calls prog 116 #[.pointer (some (tZ d 0)),.func (.func 117) #[] #[.pointer (some (tZ gk 0))]] w fun e w'=>e=.returned (.tuple #[])/\ae w0 (dU d (s.lay (dI keep))::aj gk 31 [.int .u64 keep]::l) w':=by
 obtain⟨⟨gl,A,ca⟩,h⟩:=h.xK;obtain⟨_,c1,_,_,cf⟩:=h.uN;obtain⟨L,hL⟩:∃L,s.waits.length=L:=⟨_,rfl⟩;rw[hL]at c1;have hL9:L<=1000000:=by rw[<-hL];exact hs.w1
 have H:=hid h;have HL:=hid hL;have HS:=hid hs;clear h hL hs;go_enter func116,ntmps116;go_wp2_with fail;go_loopw [4,5,11] (fun v4 v5 v11 wr=>∃k:Nat,k<=L/\v11=iV (k:Int)/\ae w0 (pX d (iZ s (dI keep) k) ⟨gl,A,ca⟩::qO (iZ s (dI keep) k) ⟨gl,A,ca⟩::rE s ⟨gl,A,ca⟩::aj gk 31 [.int .u64 keep]::l) wr) (fun v4 v5 v11 _=>L-(Lib.intOf v11).toNat)
 case atStart=>exact⟨0,by omega,rfl,by rw[aEy];exact H.out⟩
 case round=>
  obtain⟨k,hk,rfl,hA⟩:=hrel;by_cases hkn:k<L
  ·obtain⟨x,hx⟩:∃x,s.waits[k]? =some x:=⟨_,List.getElem?_eq_getElem (by rw[HL.out];exact hkn)⟩;have hx2:=HS.out.waits x (List.mem_of_getElem? hx);have HXK:=hid hx;obtain⟨gw,Ia,aRS⟩:∃gw,A=some (tZ gw 0)/\gw<wr.heap.size:=by
    have:=ae.own (hA.at_ 2 rfl);obtain⟨g,cap,hv,_,hlt⟩:=this.form (by rw[HL.out];omega);injection hv with hv
    exact⟨g,hv,hlt⟩
   subst Ia;have vW:=ai.uA (ae.own (hA.at_ 2 rfl));obtain⟨ad,IY,_,hcl⟩:=vW.form (by rw[HL.out];omega);injection IY with IY
   subst IY;have hrg:∀o,(wr.alloc o).rangeAt gw (k*65) (iF x):=fun o=>World.rangeAt_alloc (fun j v hv=>by
    have:=hcl (k*65+j) v (MP _ k j x v (fun y hy=>(HS.out.waits y hy).2) hx hv);rw[Addr.add_mid,Nat.zero_add]at this;exact this) o
   have hrg0:wr.rangeAt gw (k*65) (iF x):=fun j v hv=>by
    have:=hcl (k*65+j) v (MP _ k j x v (fun y hy=>(HS.out.waits y hy).2) hx hv);rw[Addr.add_mid,Nat.zero_add]at this;exact this
   obtain⟨X,hX⟩:∃X,iF x=X:=⟨_,rfl⟩;have Ed:X.length=65:=by rw[<-hX];exact aCH x hx2.2
   have hX1:X.toArray.all (·.oneCell')=true:=by
    rw[<-hX];refine all_oneCell_toArray fun v hv=>?_
    rcases List.mem_cons.1 hv with rfl|hv
    ·rfl
    ·exact iG _ v hv
   rw[hX]at hrg hrg0;have F8:(prog.info? 282).map (·.size)=some X.length:=by rw[Ed];kernel_rfl
   have DN:(prog.info? 282).map (·.size)=some X.toArray.size:=by rw[List.size_toArray];exact F8
   have hzs:zeroCells282.size=X.toArray.size:=by
    have e:X.toArray.size=65:=by simp[Ed]
    rw[e];rfl
   have g1:decide ((k:Int)<(L:Int))=true:=decide_eq_true (by omega);have g2:decide (k<L)=true:=decide_eq_true hkn;have q1:(0:Int)<=(k:Int):=Int.natCast_nonneg _;have q2:(k:Int)<(L:Int):=by omega
   have HA:=hid hA;have MQ:=hid hX;have vV:=hid hx2;clear hA hx vW hcl h hX hx2;have CH:(wr.alloc (.cells X.toArray 282)).cell? (tZ gk 0)=some (.int .u64 keep):=(ae.blk ((HA.out.alloc (.cells X.toArray 282)).at_ 3 rfl)).cellAt rfl;have hq:=fun W hc=>aGI gk k keep W hc (by omega)
   by_cases hkk:dI keep k=true;case neg=>
    have LZ:dI keep k=false:=by simpa using hkk
    have EU:Hid (ae w0 (pX d (iZ s (dI keep) (k+1)) ⟨gl,some (tZ gw 0),ca⟩::qO (iZ s (dI keep) (k+1)) ⟨gl,some (tZ gw 0),ca⟩::rE s ⟨gl,some (tZ gw 0),ca⟩::aj gk 31 [.int .u64 keep]::l) (wr.alloc (.cells X.toArray 282))):=hid (by
     rw[aC2 HXK.out,if_neg hkk];exact HA.out.alloc _)
    rw[LZ]at hq;clear hkk LZ;go_wp2_with (first
     |(refine wpList_load_mid rfl 282 _ rfl gw (k*65) rfl X _ (by first|exact hrg0|exact hrg _) underlying282 rfl F8 ?_)
     |(refine wpList_store_row rfl 282 _ _ rfl wr.heap.size X.toArray rfl rfl 282 zeroCells282 (heap_alloc_new wr _) DN hzs hX1 ?_;rw[World.setRow_alloc_new])
     |(go_at_call 117;refine(hq _ CH).mono ?_;rintro e w9 ⟨rfl,rfl⟩))
    exact⟨⟨k+1,by omega,by simp,EU.out⟩,by simp[Lib.intOf];omega⟩
   rw[hkk]at hq;go_wp2_with (first
    |(refine wpList_load_mid rfl 282 _ rfl gw (k*65) rfl X _ (by first|exact hrg0|exact hrg _) underlying282 rfl F8 ?_)
    |(refine wpList_store_row rfl 282 _ _ rfl wr.heap.size X.toArray rfl rfl 282 zeroCells282 (heap_alloc_new wr _) DN hzs hX1 ?_;rw[World.setRow_alloc_new])
    |(go_at_call 117;refine(hq _ CH).mono ?_;rintro e w9 ⟨rfl,rfl⟩))
   rename_i Kx ax
   clear hq CH;have hM:=HA.out.made (T:=282) (xs:=X);generalize wr.heap.size=g5 at*
   clear hrg hrg0 F8 DN hzs hX1 q1 q2 g1 g2;have hx2:=vV.out;have aRT:=HXK.out;obtain⟨N,hN⟩:∃N,(iZ s (dI keep) k).laid.length=N:=⟨_,rfl⟩;have hxN:x.1<N:=by rw[<-hN,aFu];exact hx2.1
   have c5:X[0]? =some (iV (x.1:Int)):=by rw[<-MQ.out];rfl
   have MR:∀(W:World),ae w0 (aj g5 282 X::pX d (iZ s (dI keep) k) ⟨gl,some (tZ gw 0),ca⟩::aj gk 31 [.int .u64 keep]::l) W->W.cell? (tZ d 0)=some (.slice (some (tZ gl 0)) N N)/\W.cell? (tZ g5 0)=some (iV (x.1:Int))/\W.rangeAt g5 1 (aT x.2):=fun W h=>by
    refine⟨?_,(ae.blk h).cellAt c5,(ae.blk h).range 1 _ fun j v hv=>?_⟩
    ·have:=((h.at_ 1 rfl).uN).1;rw[hN]at this;exact this
    ·rw[<-MQ.out,Nat.add_comm];exact hv
   have HM:=hid hM;have uC:=hid MR;have HN:=hid hN;clear hM MR c5 hN;generalize wr.alloc (.cells X.toArray 282)=W1 at*
   have q3:(0:Int)<=(x.1:Int):=Int.natCast_nonneg _;have q4:(x.1:Int)<(N:Int):=by omega
   have hsl:(aT x.2).length=64:=by simp[aT,hx2.2]
   have GL:(prog.info? 280).map (·.size)=some (aT x.2).length:=by rw[hsl];exact aC4
   have DR:(prog.info? 280).map (·.size)=some (aT x.2).toArray.size:=by rw[List.size_toArray];exact GL
   have hs1:(aT x.2).toArray.all (·.oneCell')=true:=all_oneCell_toArray (iG _);have EP:=aII HS.out (dI keep) k;have ES:((iZ s (dI keep) k).laid.flatMap aT).length=N*64:=by rw[aDe _ EP,HN.out]
   have MS:=hid ((HM.out.drew.at_ 2 rfl).setCells (aT x.2) (x.1*64) (by rw[hsl];show _<=((iZ s (dI keep) k).laid.flatMap aT).length;rw[ES];omega));have HTH:Hid (W1.drew.there gl (x.1*64) (aT x.2).toArray.size):=hid ((ae.blk (HM.out.drew.at_ 2 rfl)).there _ _ (by rw[List.size_toArray,hsl];show _<=((iZ s (dI keep) k).laid.flatMap aT).length;rw[ES];omega));have zq:=hid (uC.out W1.drew (HM.out.drew.sub (List.Sublist.cons_cons _ (List.Sublist.cons_cons _ (List.Sublist.cons _ (List.Sublist.cons _ (List.Sublist.refl _)))))));have HS9:=hid (uC.out _ ((show ae w0 (aj gl 280 _::aj g5 282 X::pX d (iZ s (dI keep) k) ⟨gl,some (tZ gw 0),ca⟩::rE s ⟨gl,some (tZ gw 0),ca⟩::aj gk 31 [.int .u64 keep]::l) _ from MS.out).sub (List.Sublist.cons _ (List.Sublist.cons_cons _ (List.Sublist.cons_cons _ (List.Sublist.cons _ (List.Sublist.refl _)))))));refine wp_region_held_drew (S:=fun w'=>w'.cell? (tZ d 0)=some (.slice (some (tZ gl 0)) N N)/\w'.cell? (tZ g5 0)=some (iV (x.1:Int))/\w'.rangeAt g5 1 (aT x.2)) (by kernel_rfl) zq.out (fun hHeld=>?_);refine ij 0 19 rfl rfl (v:=?_) (by kernel_rfl) (by kernel_rfl) (by kernel_rfl) (fun _ _ _ h=>h) (Or.inl ⟨by rfl,?_⟩) (by assumption) ?_;rotate_left 1;focus(intro wS hSw;(try dsimp only at hSw);obtain⟨hS1,yS,Aj⟩:=hSw;go_simp;try with_reducible rfl)
   try simp only[Act.put,aY,aZ,aU]
   refine ij 1 20 rfl rfl (v:=?_) (by kernel_rfl) (by kernel_rfl) (by kernel_rfl) (fun _ _ _ h=>h) (Or.inl ⟨by rfl,?_⟩) (by assumption) ?_;rotate_left 1;focus(intro wS hSw;(try dsimp only at hSw);obtain⟨hS1,yS,Aj⟩:=hSw;go_simp;try with_reducible rfl)
   try simp only[Act.put,aY,aZ,aU]
   refine ij 2 21 rfl rfl (v:=?_) (by kernel_rfl) (by kernel_rfl) (by kernel_rfl) (fun _ _ _ h=>h) (Or.inl ⟨by rfl,?_⟩) (by assumption) ?_;rotate_left 1;focus(intro wS hSw;(try dsimp only at hSw);obtain⟨hS1,yS,Aj⟩:=hSw;go_simp;try with_reducible rfl)
   try simp only[Act.put,aY,aZ,aU]
   refine ij 3 22 rfl rfl (v:=?_) (by kernel_rfl) (by kernel_rfl) (by kernel_rfl) (fun _ _ _ h=>h) (Or.inl ⟨by rfl,?_⟩) (by assumption) ?_;rotate_left 1;focus(intro wS hSw;(try dsimp only at hSw);obtain⟨hS1,yS,Aj⟩:=hSw;go_simp;try with_reducible rfl)
   try simp only[Act.put,aY,aZ,aU]
   refine ij 4 23 rfl rfl (v:=?_) (by kernel_rfl) (by kernel_rfl) (by kernel_rfl) (fun _ _ _ h=>h) (Or.inl ⟨by rfl,?_⟩) (by assumption) ?_;rotate_left 1;focus(intro wS hSw;(try dsimp only at hSw);obtain⟨hS1,yS,Aj⟩:=hSw;go_simp;try with_reducible rfl)
   try simp only[Act.put,aY,aZ,aU]
   refine ij 5 24 rfl rfl (v:=?_) (by kernel_rfl) (by kernel_rfl) (by kernel_rfl) (fun _ _ _ h=>h) (Or.inl ⟨by rfl,?_⟩) (by assumption) ?_;rotate_left 1;focus(intro wS hSw;(try dsimp only at hSw);obtain⟨hS1,yS,Aj⟩:=hSw;go_simp;try with_reducible rfl)
   try simp only[Act.put,aY,aZ,aU]
   refine ij 6 25 rfl rfl (v:=?_) (by kernel_rfl) (by kernel_rfl) (by kernel_rfl) (fun _ _ _ h=>h) (Or.inl ⟨by rfl,?_⟩) (by assumption) ?_;rotate_left 1;focus(intro wS hSw;(try dsimp only at hSw);obtain⟨hS1,yS,Aj⟩:=hSw;go_simp;try with_reducible rfl)
   try simp only[Act.put,aY,aZ,aU]
   refine ij 7 26 rfl rfl (v:=.agg (aT x.2).toArray) (by kernel_rfl) (by kernel_rfl) (by kernel_rfl) (fun _ _ _ h=>h) (yieldsIf_load_mid (by rfl) _ _ rfl g5 1 rfl (aT x.2) _ (fun w hS=>hS.2.2) underlying280 rfl GL) (by assumption) ?_;try simp only[Act.put,aY,aZ,aU]
   refine ij 8 27 rfl rfl (v:=?_) (by kernel_rfl) (by kernel_rfl) (by kernel_rfl) (fun _ _ _ h=>h) (Or.inl ⟨by rfl,?_⟩) (by assumption) ?_;rotate_left 1;focus(intro wS hSw;(try dsimp only at hSw);obtain⟨hS1,yS,Aj⟩:=hSw;go_simp;try with_reducible rfl)
   try simp only[Act.put,aY,aZ,aU]
   refine dO 9 rfl (by kernel_rfl) fun K hK=>?_
   refine aAI rfl 280 (.tmp 27) (.tmp 26) (by rfl) gl (x.1*64) (aT x.2).toArray (by rfl) (by rfl) HTH.out DR hs1 ?_;refine hK.out _ _ HS9.out (fun hHeld=>?_);clear hK K;try simp only[Act.put,aY,aZ,aU]
   refine wpAnyH_done (by kernel_rfl) ?_ _;have EU:Hid (ae w0 (pX d (iZ s (dI keep) (k+1)) ⟨gl,some (tZ gw 0),ca⟩::qO (iZ s (dI keep) (k+1)) ⟨gl,some (tZ gw 0),ca⟩::rE s ⟨gl,some (tZ gw 0),ca⟩::aj gk 31 [.int .u64 keep]::l) (W1.drew.setCells gl (x.1*64) (aT x.2))):=hid (by
    have e1:=aC2 (is:=(dI keep)) aRT;rw[if_pos hkk]at e1;have e2:=aD4 (iZ s (dI keep) k).laid x.1 x.2 EP hx2.2 (by rw[HN.out];exact hxN);have h9:=MS.out;have h8:=h9.perm (List.Perm.swap _ _ _);have h7:=h8.drop.perm (List.Perm.swap _ _ _);unfold pX qO;rw[e1];simp only[List.length_set];rw[e2];exact h7)
   refine ax _ _ ?_;go_wp2_with fail;exact⟨⟨k+1,by omega,by simp,EU.out⟩,by simp[Lib.intOf];omega⟩
  ·obtain rfl:k=L:=by omega
   have g1:decide ((k:Int)<(k:Int))=false:=decide_eq_false (by omega);have hfull:iZ s (dI keep) k={s with laid:=(s.lay (dI keep)).laid}:=by
    unfold iZ ja.lay;rw[List.take_of_length_le (by rw[HL.out];exact Nat.le_refl _)]
   rw[hfull]at hA;obtain⟨q0,q1,_,_,qf⟩:=hA.uN;have HA:=hid hA;clear hA hfull h;rcases Nat.eq_zero_or_pos k with rfl|Dt
   ·have hw0:s.waits=[]:=List.eq_nil_of_length_eq_zero HL.out;have hq1:wr.cell? (tZ d 1)=some (.slice A 0 ca):=by rw[<-HL.out];exact q1
    have hcl:=aAF A ca 0 wr;have H7:=hid (show ae w0 (pX d {s with laid:=(s.lay (dI keep)).laid} ⟨gl,A,ca⟩::qO {s with laid:=(s.lay (dI keep)).laid} ⟨gl,A,ca⟩::aA 282 65 A 0 ca []::aj gk 31 [.int .u64 keep]::l) wr from by
     have h:=HA.out;have e:rE s ⟨gl,A,ca⟩=aA 282 65 A 0 ca []:=by unfold rE;rw[hw0];rfl
     rw[e]at h;exact h)
    have GM:=(ae.own (H7.out.at_ 2 rfl));have hform:(A=none/\ca=0)\/∃gw,A=some (tZ gw 0):=by
     rcases GM.2 with⟨h0,_⟩|⟨g',cap,cur,hv,_⟩
     ·injection h0 with h1 _ h3
      exact .inl ⟨h1,h3⟩
     ·injection hv with h1
      exact .inr ⟨g',h1⟩
    clear q0 q1 HA GM;rcases hform with⟨rfl,rfl⟩|⟨gw,rfl⟩
    all_goals
     go_wp2_with fail;refine bodyPost_end (v:=.tuple #[]) (by simp[results,results116,go_sem]) rfl ?_;refine⟨rfl,?_⟩;exact ae.vT (s:=s.lay (dI keep)) (ae.store (show ae w0 (aj d 173 _::_) wr from H7.out) 1 _)
   ·obtain⟨gw,Ia,aRS⟩:∃gw,A=some (tZ gw 0)/\gw<wr.heap.size:=by
     have:=ae.own (HA.out.at_ 2 rfl);obtain⟨g,cap,hv,_,hlt⟩:=this.form (by rw[HL.out];omega);injection hv with hv
     exact⟨g,hv,hlt⟩
    subst Ia;have hq1:wr.cell? (tZ d 1)=some (.slice (some (tZ gw 0)) k ca):=by rw[<-HL.out];exact q1
    have hown:=ae.own (HA.out.at_ 2 rfl);rw[HL.out]at hown;have hcl:=aB8 (ty:=0) hown Dt;obtain⟨W2,hW2⟩:∃W2,wr.setCells gw 0 (Builtin.zeroCells (Value.agg zeroCells282).cells k).toList=W2:=⟨_,rfl⟩;have vN:=ae.aQb (HA.out.at_ 2 rfl) (Builtin.zeroCells (Value.agg zeroCells282).cells k).toList (by rw[HL.out,aAx]);rw[hW2]at hcl vN;have h8:ae w0 (aA 282 65 (some (tZ gw 0)) 0 ca []::pX d {s with laid:=(s.lay (dI keep)).laid} ⟨gl,some (tZ gw 0),ca⟩::qO {s with laid:=(s.lay (dI keep)).laid} ⟨gl,some (tZ gw 0),ca⟩::aj gk 31 [.int .u64 keep]::l) W2:=vN;have h7:=h8.at_ 1 rfl;obtain⟨_,r1,_,_,rf⟩:=ae.uN h7;have hr1:W2.cell? (tZ d 1)=some (.slice (some (tZ gw 0)) k ca):=by rw[<-HL.out];exact r1
    have H7:=hid h7;clear q0 q1 r1 hW2 vN h8 h7 hown HA;go_wp2_with fail;refine bodyPost_end (v:=.tuple #[]) (by simp[results,results116,go_sem]) rfl ?_;refine⟨rfl,?_⟩;have h9:=ae.store (show ae w0 (aj d 173 _::_) W2 from H7.out) 1 (.slice (some (tZ gw 0)) 0 ca);have h10:=(show ae w0 (_::aA 282 65 (some (tZ gw 0)) 0 ca []::qO {s with laid:=(s.lay (dI keep)).laid} ⟨gl,some (tZ gw 0),ca⟩::aj gk 31 [.int .u64 keep]::l) _ from h9).perm ((List.Perm.swap _ _ _).cons _);exact ae.vT (s:=s.lay (dI keep)) (a:=⟨gl,some (tZ gw 0),ca⟩) h10
end Go.Proofs.YtfjkpigldogkeaaGreatDoor
