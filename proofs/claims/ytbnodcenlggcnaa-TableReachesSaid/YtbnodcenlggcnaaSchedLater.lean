/-
  Law 22: the example; a frame later all is the same (SchedLater).
-/
import Derived.Test.YtbnodcenlggcnaaSched
import Derived.Test.YtbnodcenlggcnaaOpenTab
import Derived.Test.YtbnodcenlggcnaaRows
namespace Go.Proofs.Ytbnodcenlggcnaa
open Go.RowKit Go.ChangeShapes Go.WideShapes Go.ChangeAt

def exS : TabS := ⟨10, [⟨1, 1, 0⟩, ⟨1, 1, 0⟩], [⟨0, 0, 1⟩, ⟨1, 5, 5⟩], [], 1⟩
theorem exampleS_any (w : World) :
    Calls Try.prog 51 #[] w fun e w' => (∃ A1 c1 A2 c2, e = .returned (.agg #[.int .i64 10, .slice A1 2 c1, .slice A2 2 c2, .slice none 0 0, .int .i64 1]) ∧ TabOk w' exS ⟨A1, c1, A2, c2, none, 0⟩) ∧ Below w.heap.size w w' := by
  go_enter Try.func51, Try.ntmps51
  go_wp2_with fail
  go_returns
  refine ⟨⟨_, _, _, _, rfl, ⟨⟨?_, ?_, RdS.nil⟩, by simp [exS], by simp [exS], by simp [exS], by simp [exS], by simp [exS]⟩⟩, ((((Below.refl _ _).alloc (Nat.le_refl _) _).alloc (by first | (simp; done) | (simp; omega)) _).alloc (by first | (simp; done) | (simp; omega)) _).alloc (by first | (simp; done) | (simp; omega)) _⟩
  · refine rds_two (T := 77) (Blk.alloc ?_ _) rfl
    have := Blk.new ((w.alloc (.cells #[.int .i64 10, .slice (some ⟨w.heap.size + 1 + 1, 0, none⟩) 2 2, .slice (some ⟨w.heap.size + 1 + 1 + 1, 0, none⟩) 2 2, .slice none 0 0, .int .i64 1] 26)).alloc (.cells #[.int .i64 1, .int .i64 1, .int .i64 0] 77)) 77 (partC ⟨1, 1, 0⟩ ++ partC ⟨1, 1, 0⟩)
    simpa [partC, iV] using this
  · refine rds_two (T := 30) ?_ rfl
    have := Blk.new (((w.alloc (.cells #[.int .i64 10, .slice (some ⟨w.heap.size + 1 + 1, 0, none⟩) 2 2, .slice (some ⟨w.heap.size + 1 + 1 + 1, 0, none⟩) 2 2, .slice none 0 0, .int .i64 1] 26)).alloc (.cells #[.int .i64 1, .int .i64 1, .int .i64 0] 77)).alloc (.cells (partC ⟨1, 1, 0⟩ ++ partC ⟨1, 1, 0⟩).toArray 77)) 30 (winC ⟨0, 0, 1⟩ ++ winC ⟨1, 5, 5⟩)
    simpa [partC, winC, iV] using this
theorem longS_any (t : TabS) (a : TabA) (w : World) (l1 : t.parts.length ≤ 9223372036854775807) (l2 : t.wins.length ≤ 9223372036854775807) (l3 : t.chans.length ≤ 9223372036854775807) :
    Calls Try.prog 27 #[.agg #[.int .i64 t.frame, .slice a.A1 t.parts.length a.c1, .slice a.A2 t.wins.length a.c2, .slice a.A3 t.chans.length a.c3, .int .i64 t.trial]] w fun e w' => e = .returned (.bool (longB t)) ∧ Below w.heap.size w w' := by
  obtain ⟨frame, parts, wins, chans, trial⟩ := t
  obtain ⟨A1, c1, A2, c2, A3, c3⟩ := a
  simp only at l1 l2 l3 ⊢
  unfold longB
  simp only
  generalize parts.length = n1 at l1 ⊢
  generalize wins.length = n2 at l2 ⊢
  generalize chans.length = n3 at l3 ⊢
  have hb : Below w.heap.size w (w.alloc (.cells #[.int .i64 frame, .slice A1 n1 c1, .slice A2 n2 c2, .slice A3 n3 c3, .int .i64 trial] 26)) := (Below.refl _ _).alloc (Nat.le_refl _) _
  by_cases h1 : 20 < n1
  · have hr : (decide (20 < n1) || decide (40 < n2) || decide (20 < n3)) = true := by simp [h1]
    rw [hr]
    clear hr
    go_enter Try.func27, Try.ntmps27
    go_wp2_with fail
    go_ret
    exact ⟨rfl, hb⟩
  · by_cases h2 : 40 < n2
    · have hr : (decide (20 < n1) || decide (40 < n2) || decide (20 < n3)) = true := by simp [h2]
      rw [hr]
      clear hr
      go_enter Try.func27, Try.ntmps27
      go_wp2_with fail
      go_ret
      exact ⟨rfl, hb⟩
    · by_cases h3 : 20 < n3
      · have hr : (decide (20 < n1) || decide (40 < n2) || decide (20 < n3)) = true := by simp [h3]
        rw [hr]
        clear hr
        go_enter Try.func27, Try.ntmps27
        go_wp2_with fail
        go_ret
        exact ⟨ret_bool (by simp; omega), hb⟩
      · have hr : (decide (20 < n1) || decide (40 < n2) || decide (20 < n3)) = false := by simp; omega
        rw [hr]
        clear hr
        go_enter Try.func27, Try.ntmps27
        go_wp2_with fail
        go_ret
        exact ⟨ret_bool (by simp; omega), hb⟩
theorem rightS : rightB exS = true := by decide
theorem shareS : shareB exS 1 ≠ 0 := by decide
theorem nextS {n : Nat} (h : NextOk exS.wins 10 1 11 n) : n = 15 := by
  obtain ⟨h1, h2, h3, h4⟩ := h
  by_cases h5 : n < 15
  · exfalso
    have : n = 11 ∨ n = 12 ∨ n = 13 ∨ n = 14 := by omega
    rcases this with rfl | rfl | rfl | rfl <;> revert h3 <;> decide
  · by_cases h6 : 15 < n
    · exact absurd (by decide) (h4 15 (by omega) h6)
    · omega
set_option maxRecDepth 100000 in
set_option maxHeartbeats 1000000 in
theorem wakesS_any (w : World) : Calls Try.prog 26 #[] w fun e w' => e = .returned (.bool true) ∧ Below w.heap.size w w' := by
  go_enter Try.func26, Try.ntmps26
  go_wp2_with fail
  refine (exampleS_any _).mono ?_
  rintro e w1 ⟨⟨A1, c1, A2, c2, rfl, hT⟩, hb1⟩
  have i1 := hid (Next_yes exS ⟨A1, c1, A2, c2, none, 0⟩ 1 10 11 rfl (by omega) w1 hT ((rightB_iff _).1 rightS) shareS)
  clear hT
  go_wp2_with fail
  refine i1.out.mono ?_
  rintro e w2 ⟨n, hn, rfl, hb2⟩
  obtain rfl := nextS hn
  clear i1 hn
  go_wp2_with fail
  go_ret
  exact ⟨rfl, bel_trans hb1 hb2⟩
set_option maxRecDepth 100000 in
set_option maxHeartbeats 1000000 in
theorem later_any (w : World) (t : TabS) (a : TabA) (hT : TabCame w t a) (T : Nat) (hT32 : T < 4294967296) :
    Calls Try.prog 9 #[.agg #[.int .i64 t.frame, .slice a.A1 t.parts.length a.c1, .slice a.A2 t.wins.length a.c2, .slice a.A3 t.chans.length a.c3, .int .i64 t.trial], .int .u32 (T : Int)] w fun e w' => e = .returned (.bool true) ∧ Below w.heap.size w w' := by
  obtain ⟨A1, k1, A2, k2, A3, k3⟩ := a
  simp only
  obtain ⟨w1, hw1, hb0, hblk0, hs1⟩ := tab_in t ⟨A1, k1, A2, k2, A3, k3⟩ w
  simp only at hw1
  have iL := hid (fun w' => longS_any t ⟨A1, k1, A2, k2, A3, k3⟩ w' hT.l1 hT.l2 hT.l3)
  have HC := hid hT
  clear hT
  simp only at iL
  go_enter Try.func9, Try.ntmps9
  go_wp2_with fail
  clear hw1 hs1
  refine (wakesS_any _).mono ?_
  rintro e w2 ⟨rfl, hb2⟩
  have hb02 := bel_trans hb0 hb2
  have hblk2 := hblk0.belowS hb2
  obtain ⟨c0, c1, c2, c3, c4⟩ := tab_cells hblk2
  simp only at c0 c1 c2 c3 c4
  clear hblk0 hb2
  go_wp2_with fail
  refine (iL.out _).mono ?_
  rintro e w3 ⟨he, hb3⟩
  have hb03 := bel_trans hb02 hb3
  have hblk3 := hblk2.belowS hb3
  clear c0 c1 c2 c3 c4 hblk2 hb3 iL
  obtain ⟨c0, c1, c2, c3, c4⟩ := tab_cells hblk3
  simp only at c0 c1 c2 c3 c4
  by_cases hl : longB t = true
  · rw [hl] at he
    subst he
    clear hl hblk3
    go_wp2_with fail
    go_ret
    exact ⟨rfl, hb03⟩
  · have hl' : longB t = false := by simpa using hl
    rw [hl'] at he
    subst he
    have HO : Hid (∀ w', Below w.heap.size w w' → TabOk w' t ⟨A1, k1, A2, k2, A3, k3⟩) := hid (fun w' hb => HC.out.ok hl' hb)
    clear hl hl' HC
    have i1 := hid (refRight_any t ⟨A1, k1, A2, k2, A3, k3⟩ w3 (HO.out _ hb03))
    simp only at i1
    go_wp2_with fail
    refine i1.out.mono ?_
    rintro e w4 ⟨he, hb4⟩
    have hb04 := bel_trans hb03 hb4
    have hblk4 := hblk3.belowS hb4
    clear c0 c1 c2 c3 c4 hblk3 hb4 i1
    obtain ⟨c0, c1, c2, c3, c4⟩ := tab_cells hblk4
    simp only at c0 c1 c2 c3 c4
    by_cases hr : rightB t = true
    · rw [hr] at he
      subst he
      have hR := (rightB_iff t).1 hr
      obtain ⟨F, hF⟩ : ∃ F : Nat, t.frame = (F : Int) := ⟨t.frame.toNat, by have := hR.f1; omega⟩
      have hf1 := hR.f1
      have hf2 := hR.f2
      have hF1 : 1 ≤ F := by omega
      have hF2 : F ≤ 64 := by omega
      have i1 := hid (fun w' hb => At_ok t ⟨A1, k1, A2, k2, A3, k3⟩ F T hF (by omega) w' (HO.out w' hb) hR)
      have i2 := hid (fun w' hb => At_ok t ⟨A1, k1, A2, k2, A3, k3⟩ F (T + F) hF (by omega) w' (HO.out w' hb) hR)
      simp only at i1 i2
      unfold atV at i1 i2
      rw [Nat.add_mod_right, Nat.add_div_right _ (by omega)] at i2
      rw [show ((T + F : Nat) : Int) = (T : Int) + (F : Int) by omega] at i2
      rw [hF] at i1 i2 c0
      have hDT : T / F ≤ T := Nat.div_le_self _ _
      generalize T / F = D at *
      generalize T % F = M at *
      generalize idxB (posB (M : Int)) t.wins = I at *
      generalize partL t.wins (M : Int) = pa at *
      generalize startL t.wins (M : Int) = st at *
      have HF := hid hF
      clear hr hR hf1 hf2 hF
      go_wp2_with fail
      refine (i1.out _ hb04).mono ?_
      rintro e w5 ⟨rfl, hb5⟩
      have hb05 := bel_trans hb04 hb5
      have hblk5 := hblk4.belowS hb5
      clear c0 c1 c2 c3 c4 hblk4 hb5 i1
      obtain ⟨w6, hw6, hb6, hx6, hs6⟩ : ∃ w6 : World, w5.alloc (.cells #[.int .i64 (D : Int), .int .i64 (M : Int), .int .i64 I, .int .i64 pa, .bool ((M : Int) == 0), .bool st] 43) = w6 ∧ Below w5.heap.size w5 w6 ∧ Blk w6 w5.heap.size 43 (whenC D M I pa ((M : Int) == 0) st) ∧ w6.heap.size = w5.heap.size + 1 := ⟨_, rfl, (Below.refl _ _).alloc (Nat.le_refl _) _, Blk.new _ _ (whenC D M I pa ((M : Int) == 0) st), by simp⟩
      have hblk6 := hblk5.belowS hb6
      obtain ⟨c0, c1, c2, c3, c4⟩ := tab_cells hblk6
      simp only at c0 c1 c2 c3 c4
      rw [HF.out] at c0
      have hb06 := bel_trans hb05 hb6
      go_wp2_with fail
      clear hw6
      refine (i2.out _ hb06).mono ?_
      rintro e w7 ⟨rfl, hb7⟩
      have hb07 := bel_trans hb06 hb7
      have hx7 := hx6.belowS hb7
      clear c0 c1 c2 c3 c4 hs6 hb6 hx6 hblk6 hblk5
      have hlt7 := hx7.lt
      have hge : w.heap.size ≤ w5.heap.size := hb05.size
      generalize w5.heap.size = xb at *
      obtain ⟨w8, hw8, hb8, hy8, hs8⟩ : ∃ w8 : World, w7.alloc (.cells #[.int .i64 ((D : Int) + 1), .int .i64 (M : Int), .int .i64 I, .int .i64 pa, .bool ((M : Int) == 0), .bool st] 43) = w8 ∧ Below w7.heap.size w7 w8 ∧ Blk w8 w7.heap.size 43 (whenC ((D : Int) + 1) M I pa ((M : Int) == 0) st) ∧ w8.heap.size = w7.heap.size + 1 := ⟨_, rfl, (Below.refl _ _).alloc (Nat.le_refl _) _, Blk.new _ _ (whenC ((D : Int) + 1) M I pa ((M : Int) == 0) st), by simp⟩
      have hx8 := hx7.belowS hb8
      have d0 : w8.cell? ⟨xb, 0, none⟩ = some (.int .i64 (D : Int)) := hx8.cellAt rfl
      have f0 : w8.frozen? ⟨xb, 0, none⟩ = false := hx8.frozen 0
      have hx9 := hid (hx8.set_ 0 (.int .i64 ((D : Int) + 1)))
      have hy9 := hid (hy8.far (p := ⟨xb, 0, none⟩) (by simp only; omega) (.int .i64 ((D : Int) + 1)))
      have hb09 := hid ((bel_trans hb07 hb8).setCell (p := ⟨xb, 0, none⟩) hge (.int .i64 ((D : Int) + 1)))
      clear hx7 hx8 hy8 hs8 hb8 hb7
      obtain ⟨w9, hw9⟩ : ∃ w9 : World, w8.setCell ⟨xb, 0, none⟩ (.int .i64 ((D : Int) + 1)) = w9 := ⟨_, rfl⟩
      rw [hw9] at hx9 hy9 hb09
      have ex := hx9.out
      have ey := hy9.out
      obtain ⟨e0, e1, e2, e3, e4, e5⟩ : _ ∧ _ ∧ _ ∧ _ ∧ _ ∧ _ := ⟨ex.cellAt (i := 0) rfl, ex.cellAt (i := 1) rfl, ex.cellAt (i := 2) rfl, ex.cellAt (i := 3) rfl, ex.cellAt (i := 4) rfl, ex.cellAt (i := 5) rfl⟩
      obtain ⟨y0, y1, y2, y3, y4, y5⟩ : _ ∧ _ ∧ _ ∧ _ ∧ _ ∧ _ := ⟨ey.cellAt (i := 0) rfl, ey.cellAt (i := 1) rfl, ey.cellAt (i := 2) rfl, ey.cellAt (i := 3) rfl, ey.cellAt (i := 4) rfl, ey.cellAt (i := 5) rfl⟩
      clear ex ey
      go_wp2_with fail
      go_ret
      exact ⟨rfl, hb09.out⟩
    · have hr' : rightB t = false := by simpa using hr
      rw [hr'] at he
      subst he
      clear hr hr' hblk4
      go_wp2_with fail
      go_ret
      exact ⟨rfl, hb04⟩
theorem later_law (w : World) (t : TabS) (a : TabA) (hT : TabCame w t a) (d : Int) (hd : (Lit.int .u32 d).wf = true) :
    Calls Try.prog 9 #[.agg #[.int .i64 t.frame, .slice a.A1 t.parts.length a.c1, .slice a.A2 t.wins.length a.c2, .slice a.A3 t.chans.length a.c3, .int .i64 t.trial], .int .u32 d] w fun e w' => e = .returned (.bool true) ∧ Below w.heap.size w w' := by
  obtain ⟨h1, h2⟩ := bounds_u32 hd
  obtain ⟨m, rfl⟩ : ∃ m : Nat, d = m := ⟨d.toNat, by omega⟩
  exact later_any w t a hT m (by omega)
/-! ### SchedLater: from the walk to the given statement -/
namespace lawSchedLater
theorem own : ownKnob Try.prog.godebug = none := by kernel_rfl
theorem laidOut : laidOutB Try.prog = true := by kernel_rfl
set_option maxRecDepth 100000 in
theorem lifted (os : Os) (started : os.Started) (H : Type) (enc : TypeId × Value → H) :
    ReturnsInHanded {} Try.checked os 9 .any (Rows.schedLaterSpec.pre6 enc Try.prog Try.f9 Rows.schedLaterRow.domain false) (Rows.schedLaterSpec.post enc Try.prog Try.f9 false true false false) := by
  refine returnsInHanded_of_change (C := Try.checked) own started (by kernel_rfl) Try.func9
    (ChangeSpec.witness6 (enc := enc) (C := Try.checked) false ⟨#[], #[.agg #[.int .i64 0, .slice none 0 0, .slice none 0 0, .slice none 0 0, .int .i64 0], .int .u32 0], []⟩ 8 (by kernel_rfl) (by kernel_rfl) (by kernel_rfl) (by kernel_rfl)) ?_
  intro W base args ds gs before hval0 hW hcnd _
  have hval : ∀ (j : Nat) t v, Try.f9.params[j]? = some t → args[j]? = some v → Value.okWide Try.prog W .any base t v := hval0
  have hW' := hW
  obtain ⟨p, q, hA0, hV, rfl, hfz, hnd⟩ := hW
  have hA : DataW.TrodAll enc Try.prog W 0 (fun _ => true) true Try.f9.params.toList args.toList ds p := hA0
  rw [Try.params9] at hA hval
  obtain ⟨v0, vs0, d0, ds0, p0, q0, hargs, rfl, rfl, h0, r0⟩ := trodAll_cons hA
  obtain ⟨v1, vs1, d1, ds1, p1, q1, rfl, rfl, rfl, h1, r1⟩ := trodAll_cons r0
  obtain ⟨rfl, rfl, rfl⟩ := trodAll_nil r1
  obtain rfl : args = #[v0, v1] := by cases args; simp_all
  obtain ⟨rfl, rfl⟩ := trodVars_none hV
  have k0 := h0
  have lt0 : ∀ x ∈ p0, x.block < W.heap.size := by obtain ⟨m, hm⟩ := k0; exact DataW.trod_lt m _ _ _ hm
  have k1 := h1
  have lt1 : ∀ x ∈ p1, x.block < W.heap.size := by obtain ⟨m, hm⟩ := k1; exact DataW.trod_lt m _ _ _ hm
  obtain ⟨t0, a0, rfl, w0⟩ := open_tab (hval 0 26 v0 rfl rfl) h0
  obtain ⟨a1, rfl, rfl, rfl, w1⟩ := open_int Try.underlying50 (hval 1 50 v1 rfl rfl) h1
  clear hA0 hval0
  refine (later_law W t0 a0 w0 a1 w1).mono fun e W' ⟨he, bel⟩ => ?_
  subst he
  exact ⟨_, rfl, _, _, _, [], _, [], hW', trodAll_mk1 (shut_bool Try.underlying4 _), (trodAll_cons_mk (Below.trod laidOut (by kernel_rfl) (of_decide_eq_true (by kernel_rfl)) k0 bel lt0) (trodAll_cons_mk (Below.trod laidOut (by kernel_rfl) (of_decide_eq_true (by kernel_rfl)) k1 bel lt1) trodAll_mk0)), rfl, bel.frame _, fun h => by cases h⟩
theorem over : Rows.schedLaterRow.holds Try.pinned (OpenSpec.ofChange Rows.schedLaterSpec) :=
  OpenClaim.holds_of_wide 9 Try.f9 rfl rfl rfl rfl rfl rfl rfl ⟨rfl, rfl, rfl, rfl, rfl⟩ rfl rfl rfl rfl rfl (by kernel_rfl) Try.func9 (by kernel_rfl)
    (of_decide_eq_true (by kernel_rfl)) (by unfold Func.isWrapper; first | (rw [if_pos (by decide +kernel)]; kernel_rfl) | (rw [if_neg (by decide +kernel)]; exact ⟨rfl, rfl⟩))
    (fun os started H enc _ => lifted os started H enc)
theorem proved : Rows.SchedLaterSaid := over
#print axioms proved
end lawSchedLater
end Go.Proofs.Ytbnodcenlggcnaa
