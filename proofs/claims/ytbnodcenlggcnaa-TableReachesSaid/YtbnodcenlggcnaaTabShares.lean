/-
  Law 05: the shares of all partitions (TableShares): the walk.
-/
import Derived.Test.YtbnodcenlggcnaaTabEx
import Derived.Test.YtbnodcenlggcnaaTabSum
import Derived.Test.YtbnodcenlggcnaaOpenTab
import Derived.Test.YtbnodcenlggcnaaRows
namespace Go.Proofs.Ytbnodcenlggcnaa
open Go.RowKit Go.ChangeShapes Go.WideShapes Go.ChangeAt

theorem TabCame.ok {W w : World} {t : TabS} {a : TabA} (h : TabCame W t a) (hl : longB t = false) (hb : Below W.heap.size W w) : TabOk w t a := by
  unfold longB at hl
  simp only [Bool.or_eq_false_iff, decide_eq_false_iff_not] at hl
  exact ⟨h.inn.belowS hb, by omega, by omega, by omega, h.f1, h.f2⟩
theorem sumS_nonneg (l : List WinS) (h : ∀ w ∈ l, 1 ≤ w.long) : ∀ k, 0 ≤ sumS l k
  | 0 => by simp [sumS]
  | k + 1 => by
    have := sumS_nonneg l h k
    have := share_nonneg (k : Int) l h
    simp only [sumS]
    omega
set_option maxHeartbeats 2000000 in
theorem shares_any (t : TabS) (a : TabA) (w : World) (hT : TabCame w t a) :
    Calls Try.prog 4 #[.agg #[.int .i64 t.frame, .slice a.A1 t.parts.length a.c1, .slice a.A2 t.wins.length a.c2, .slice a.A3 t.chans.length a.c3, .int .i64 t.trial]] w fun e w' => e = .returned (.bool true) ∧ Below w.heap.size w w' := by
  obtain ⟨A1, k1, A2, k2, A3, k3⟩ := a
  simp only
  have hb0 : Below w.heap.size w (w.alloc (.cells (tabC t ⟨A1, k1, A2, k2, A3, k3⟩).toArray 26)) := (Below.refl _ _).alloc (Nat.le_refl _) _
  have hblk0 : Blk (w.alloc (.cells (tabC t ⟨A1, k1, A2, k2, A3, k3⟩).toArray 26)) w.heap.size 26 (tabC t ⟨A1, k1, A2, k2, A3, k3⟩) := Blk.new w _ _
  have iL := hid (fun w' => long_any t ⟨A1, k1, A2, k2, A3, k3⟩ w' hT.l1 hT.l2 hT.l3)
  have HC := hid hT
  clear hT
  simp only at iL
  by_cases hl : longB t = true
  · rw [hl] at iL
    clear hl
    go_enter Try.func4, Try.ntmps4
    go_wp2_with fail
    refine (wakes_any _).mono ?_
    rintro e w1 ⟨rfl, hb1⟩
    have hb01 := bel_trans hb0 hb1
    obtain ⟨c0, c1, c2, c3, c4⟩ := tab_cells (hblk0.belowS hb1)
    clear hblk0
    go_wp2_with fail
    refine (iL.out _).mono ?_
    rintro e w2 ⟨rfl, hb2⟩
    clear c0 c1 c2 c3 c4
    go_wp2_with fail
    go_ret
    exact ⟨rfl, bel_trans hb01 hb2⟩
  · have hl' : longB t = false := by simpa using hl
    have HO : Hid (∀ w', Below w.heap.size w w' → TabOk w' t ⟨A1, k1, A2, k2, A3, k3⟩) := hid (fun w' hb => HC.out.ok hl' hb)
    rw [hl'] at iL
    clear hl hl' HC
    by_cases hr : rightB t = true
    · have hR := (rightB_iff t).1 hr
      have hfr := hR.f2
      have HW := hid (fun (w : WinS) hw => (hR.win w hw).2.2.2.1)
      have HB : Hid (∀ k, 0 ≤ sumS t.wins k ∧ sumS t.wins k ≤ t.frame) := hid (fun k => ⟨sumS_nonneg _ HW.out k, by have := sumS_le t k t.wins 0 (by have := hR.f1; omega) hR.ws; omega⟩)
      have HS : Hid (∀ p, shareB t p = shareL p t.wins) := hid (fun p => by unfold shareB; rw [if_pos hr])
      have HF := hid (shares_law hR)
      have HR := hid hr
      have hn := hR.p2
      clear hR hr
      go_enter Try.func4, Try.ntmps4
      go_wp2_with fail
      refine (wakes_any _).mono ?_
      rintro e w1 ⟨rfl, hb1⟩
      have hb01 := bel_trans hb0 hb1
      have hblk1 := hblk0.belowS hb1
      obtain ⟨c0, c1, c2, c3, c4⟩ := tab_cells hblk1
      clear hblk0 hb0 hb1
      go_wp2_with fail
      refine (iL.out _).mono ?_
      rintro e w2 ⟨rfl, hb2⟩
      have hb02 := bel_trans hb01 hb2
      have hblk2 := hblk1.belowS hb2
      clear c0 c1 c2 c3 c4 hblk1 hb01 hb2
      obtain ⟨c0, c1, c2, c3, c4⟩ := tab_cells hblk2
      go_wp2_with fail
      refine (right_any t ⟨A1, k1, A2, k2, A3, k3⟩ _ (HO.out _ hb02)).mono ?_
      rintro e w3 ⟨he, hb3⟩
      rw [HR.out] at he
      subst he
      have hb03 := bel_trans hb02 hb3
      have hblk3 := hblk2.belowS hb3
      clear c0 c1 c2 c3 c4 hblk2 hb02 hb3
      obtain ⟨c0, c1, c2, c3, c4⟩ := tab_cells hblk3
      go_wp2_with fail
      clear c0 c1 c2 c3 c4
      go_loopw [3, 17] (fun v3 v17 wr => ∃ (k : Nat), k ≤ t.parts.length ∧ v17 = .int .i64 (k : Int) ∧ v3 = .int .i64 (sumS t.wins k) ∧ Below w3.heap.size w3 wr) (fun _ v17 _ => t.parts.length - (intOf v17).toNat)
      case atStart => exact ⟨0, by omega, rfl, rfl, Below.refl _ _⟩
      case round =>
        obtain ⟨k, hk, rfl, rfl, hbel⟩ := hrel
        have hb04 := bel_trans hb03 hbel
        have hblk4 := hblk3.belowS hbel
        obtain ⟨c0, c1, c2, c3, c4⟩ := tab_cells hblk4
        have hbk := HB.out k
        by_cases hkn : k < t.parts.length
        · have hbk1 := HB.out (k + 1)
          have hsk : Hid (sumS t.wins (k + 1) = sumS t.wins k + shareB t (k : Int)) := hid (by rw [HS.out]; rfl)
          have iS := hid (share_any t ⟨A1, k1, A2, k2, A3, k3⟩ (k : Int) wr (HO.out _ hb04))
          simp only at iS
          generalize hq : sumS t.wins (k + 1) = s1 at hbk1 hsk
          have HQ := hid hq
          clear hq
          generalize sumS t.wins k = s0 at hbk hsk ⊢
          generalize shareB t (k : Int) = d at hsk iS
          have hd : s1 = s0 + d := hsk.out
          have hd1 : 0 ≤ s0 + d := by omega
          have hd2 : s0 + d ≤ t.frame := by omega
          have HD := hid hd
          clear hd hsk
          go_wp2_with fail
          refine iS.out.mono ?_
          rintro e w5 ⟨rfl, hb5⟩
          clear c0 c1 c2 c3 c4 hblk4 iS
          go_wp2_with fail
          go_roundw
          case rel => exact ⟨k + 1, by omega, by go_num, by rw [HQ.out, HD.out], bel_trans hbel hb5⟩
          case measure => simp [intOf]; omega
        · obtain rfl : k = t.parts.length := by omega
          have hs : decide (sumS t.wins t.parts.length ≤ t.frame) = true := by simp; omega
          have i0 := hid (fun w' hw' => share_any t ⟨A1, k1, A2, k2, A3, k3⟩ 0 w' (HO.out w' hw'))
          have i1 := hid (fun w' hw' => share_any t ⟨A1, k1, A2, k2, A3, k3⟩ (-1) w' (HO.out w' hw'))
          have hp0 : decide (0 < shareB t 0) = true := by rw [HS.out]; simpa using HF.out.2.1
          have hp1 : Hid (shareB t (-1) = 0) := hid (by rw [HS.out]; exact HF.out.2.2)
          simp only at i0 i1
          rw [hp1.out] at i1
          generalize shareB t 0 = d at i0 hp0
          generalize sumS t.wins t.parts.length = s0 at hbk hs ⊢
          go_wp2_with fail
          refine (i0.out _ hb04).mono ?_
          rintro e w5 ⟨rfl, hb5⟩
          have hb05 := bel_trans hb04 hb5
          have hblk5 := hblk4.belowS hb5
          clear c0 c1 c2 c3 c4 hblk4
          obtain ⟨c0, c1, c2, c3, c4⟩ := tab_cells hblk5
          go_wp2_with fail
          refine (i1.out _ hb05).mono ?_
          rintro e w6 ⟨rfl, hb6⟩
          go_wp2_with fail
          go_ret
          exact ⟨rfl, bel_trans hb05 hb6⟩
    · have hr' : rightB t = false := by simpa using hr
      have HR := hid hr'
      clear hr hr'
      go_enter Try.func4, Try.ntmps4
      go_wp2_with fail
      refine (wakes_any _).mono ?_
      rintro e w1 ⟨rfl, hb1⟩
      have hb01 := bel_trans hb0 hb1
      have hblk1 := hblk0.belowS hb1
      obtain ⟨c0, c1, c2, c3, c4⟩ := tab_cells hblk1
      clear hblk0
      go_wp2_with fail
      refine (iL.out _).mono ?_
      rintro e w2 ⟨rfl, hb2⟩
      have hb02 := bel_trans hb01 hb2
      clear c0 c1 c2 c3 c4
      obtain ⟨c0, c1, c2, c3, c4⟩ := tab_cells (hblk1.belowS hb2)
      go_wp2_with fail
      refine (right_any t ⟨A1, k1, A2, k2, A3, k3⟩ _ (HO.out _ hb02)).mono ?_
      rintro e w3 ⟨he, hb3⟩
      rw [HR.out] at he
      subst he
      clear c0 c1 c2 c3 c4
      go_wp2_with fail
      go_ret
      exact ⟨rfl, bel_trans hb02 hb3⟩
/-! ### TableShares: from the walk to the given statement -/
namespace lawTableShares
theorem own : ownKnob Try.prog.godebug = none := by kernel_rfl
theorem laidOut : laidOutB Try.prog = true := by kernel_rfl
set_option maxRecDepth 100000 in
theorem lifted (os : Os) (started : os.Started) (H : Type) (enc : TypeId × Value → H) :
    ReturnsInHanded {} Try.checked os 4 .any (Rows.tableSharesSpec.pre6 enc Try.prog Try.f4 Rows.tableSharesRow.domain false) (Rows.tableSharesSpec.post enc Try.prog Try.f4 false true false false) := by
  refine returnsInHanded_of_change (C := Try.checked) own started (by kernel_rfl) Try.func4
    (ChangeSpec.witness6 (enc := enc) (C := Try.checked) false ⟨#[], #[.agg #[.int .i64 0, .slice none 0 0, .slice none 0 0, .slice none 0 0, .int .i64 0]], []⟩ 8 (by kernel_rfl) (by kernel_rfl) (by kernel_rfl) (by kernel_rfl)) ?_
  intro W base args ds gs before hval0 hW hcnd _
  have hval : ∀ (j : Nat) t v, Try.f4.params[j]? = some t → args[j]? = some v → Value.okWide Try.prog W .any base t v := hval0
  have hW' := hW
  obtain ⟨p, q, hA0, hV, rfl, hfz, hnd⟩ := hW
  have hA : DataW.TrodAll enc Try.prog W 0 (fun _ => true) true Try.f4.params.toList args.toList ds p := hA0
  rw [Try.params4] at hA hval
  obtain ⟨v0, vs0, d0, ds0, p0, q0, hargs, rfl, rfl, h0, r0⟩ := trodAll_cons hA
  obtain ⟨rfl, rfl, rfl⟩ := trodAll_nil r0
  obtain rfl : args = #[v0] := by cases args; simp_all
  obtain ⟨rfl, rfl⟩ := trodVars_none hV
  have k0 := h0
  have lt0 : ∀ x ∈ p0, x.block < W.heap.size := by obtain ⟨m, hm⟩ := k0; exact DataW.trod_lt m _ _ _ hm
  obtain ⟨t0, a0, rfl, w0⟩ := open_tab (hval 0 26 v0 rfl rfl) h0
  clear hA0 hval0
  refine (shares_any t0 a0 W w0).mono fun e W' ⟨he, bel⟩ => ?_
  subst he
  exact ⟨_, rfl, _, _, _, [], _, [], hW', trodAll_mk1 (shut_bool Try.underlying4 _), (trodAll_cons_mk (Below.trod laidOut (by kernel_rfl) (of_decide_eq_true (by kernel_rfl)) k0 bel lt0) trodAll_mk0), rfl, bel.frame _, fun h => by cases h⟩
theorem over : Rows.tableSharesRow.holds Try.pinned (OpenSpec.ofChange Rows.tableSharesSpec) :=
  OpenClaim.holds_of_wide 4 Try.f4 rfl rfl rfl rfl rfl rfl rfl ⟨rfl, rfl, rfl, rfl, rfl⟩ rfl rfl rfl rfl rfl (by kernel_rfl) Try.func4 (by kernel_rfl)
    (of_decide_eq_true (by kernel_rfl)) (by unfold Func.isWrapper; first | (rw [if_pos (by decide +kernel)]; kernel_rfl) | (rw [if_neg (by decide +kernel)]; exact ⟨rfl, rfl⟩))
    (fun os started H enc _ => lifted os started H enc)
theorem proved : Rows.TableSharesSaid := over
#print axioms proved
end lawTableShares

end Go.Proofs.Ytbnodcenlggcnaa
