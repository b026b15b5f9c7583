/-
  What may run behind a version may run behind each smaller one; an image that fits runs behind the version below its own, and not behind its own. No condition.
-/
import Derived.Test.YthnifgcoikmihaaCompEx
import Derived.Test.YthnifgcoikmihaaOpenImg
import Derived.Test.YthnifgcoikmihaaOpenTab
import Derived.Test.YthnifgcoikmihaaRows
namespace Go.Proofs.Ythnifgcoikmihaa
open Go.RowKit Go.ChangeShapes Go.WideShapes Go.ChangeAt Go.Deep Go.Joins

/-- The checks ahead of the version. -/
def baseE (t : TabS) (p : Int) (i : ImgS) : Int :=
  if rightB t = false then 9 else if hasB t p = false ∨ rightI i = false then 3 else if mineB t (partQ t p) p i = false then 12
  else if smallB (partQ t p) i = false then 14 else if wiredB t p i = false then 15 else 0
theorem checkE_split (t : TabS) (p : Int) (i : ImgS) (v : Int) : checkE t p i v = if baseE t p i = 0 then (if v < i.ver then 0 else 13) else baseE t p i := by
  unfold checkE baseE
  cases rightB t
  · simp
  · by_cases h : hasB t p = false ∨ rightI i = false
    · simp [h]
    · simp only [h, if_false]
      cases mineB t (partQ t p) p i
      · simp
      · cases smallB (partQ t p) i
        · simp
        · cases wiredB t p i
          · simp
          · by_cases hv : v < i.ver <;> simp [hv]
theorem newer_one (t : TabS) (i : ImgS) (v : Int) (h : checkE t i.part i v = 0) : checkE t i.part i (v - 1) = 0 := by
  rw [checkE_split] at h ⊢
  by_cases hb : baseE t i.part i = 0
  · rw [if_pos hb] at h ⊢
    by_cases hv : v < i.ver
    · rw [if_pos (by omega)]
    · rw [if_neg hv] at h
      cases h
  · rw [if_neg hb] at h
    exact absurd h hb
theorem newer_two (t : TabS) (i : ImgS) (h : checkE t i.part i 0 = 0) : checkE t i.part i (i.ver - 1) = 0 ∧ checkE t i.part i i.ver = 13 ∧ 0 < i.ver := by
  rw [checkE_split] at h
  rw [checkE_split, checkE_split]
  by_cases hb : baseE t i.part i = 0
  · rw [if_pos hb] at h
    rw [if_pos hb, if_pos hb, if_pos (by omega), if_neg (by omega)]
    by_cases hv : 0 < i.ver
    · exact ⟨rfl, rfl, hv⟩
    · rw [if_neg hv] at h
      cases h
  · rw [if_neg hb] at h
    exact absurd h hb
set_option maxRecDepth 100000 in
set_option maxHeartbeats 8000000 in
theorem compatNewer_any (w : World) (t : TabS) (a : TabA) (ht : TabCame w t a) (i : ImgS) (A : Option Addr) (c : Nat) (hi : ImgCame w i A c) (v : Int) (wv : (Lit.int .i64 v).wf = true) :
    Calls Try.prog 11 #[tabV t a, imgV i A c, .int .i64 v] w fun e w' => e = .returned (.bool true) ∧ Below w.heap.size w w' := by
  have bv := bounds_i64 wv
  have HO := hid (fun (l1 : t.parts.length ≤ 100000) (l2 : t.wins.length ≤ 100000) (l3 : t.chans.length ≤ 100000) w' (hb : Below w.heap.size w w') => (⟨ht.inn.belowS hb, l1, l2, l3, ht.f1, ht.f2⟩ : TabOk w' t a))
  have iL := hid (fun w => longC_any t a w ht.l1 ht.l2 ht.l3)
  have HL : Hid (longC t = (decide (20 < t.parts.length) || decide (40 < t.wins.length) || decide (20 < t.chans.length))) := hid rfl
  have hl : i.code.length ≤ 9223372036854775807 := by have h1 := hi.hc; have h2 := hi.hm; unfold maxLen at h2; omega
  have bver := bounds_i64 hi.w_ver
  have bpart := bounds_i64 hi.w_part
  have HN1 := hid (newer_one t i v)
  have HN2 := hid (newer_two t i)
  have j1 := hid (fun w' h => check_any t a i.part i A c v w' h hl)
  have j2 := hid (fun w' h => check_any t a i.part i A c (v - 1) w' h hl)
  have j3 := hid (fun w' h => fits_any t a i.part i A c w' h hl)
  have j4 := hid (fun w' h => check_any t a i.part i A c (i.ver - 1) w' h hl)
  have j5 := hid (fun w' h => check_any t a i.part i A c i.ver w' h hl)
  generalize checkE t i.part i v = E1 at *
  generalize checkE t i.part i (v - 1) = E2 at *
  generalize checkE t i.part i 0 = E3 at *
  generalize checkE t i.part i (i.ver - 1) = E4 at *
  generalize checkE t i.part i i.ver = E5 at *
  obtain ⟨A1, q1, A2, q2, A3, q3⟩ := a
  obtain ⟨i0, i1, i2, i3, i4, i5, i6, code⟩ := i
  clear hi ht
  simp only [tabV, imgV] at *
  generalize longC t = L at *
  generalize code.length = n at *
  obtain ⟨w1, hw1, hb1, hT1, hI1⟩ : ∃ w1, ((w.alloc (.cells #[.int .i64 t.frame, .slice A1 t.parts.length q1, .slice A2 t.wins.length q2, .slice A3 t.chans.length q3, .int .i64 t.trial] 55)).alloc (.cells #[.int .i64 i0, .int .i64 i1, .int .i64 i2, .int .i64 i3, .int .i64 i4, .int .i64 i5, .int .i64 i6, .slice A n c] 63)) = w1 ∧ Below w.heap.size w w1 ∧ Blk w1 w.heap.size 55 [.int .i64 t.frame, .slice A1 t.parts.length q1, .slice A2 t.wins.length q2, .slice A3 t.chans.length q3, .int .i64 t.trial] ∧ Blk w1 (w.heap.size + 1) 63 [.int .i64 i0, .int .i64 i1, .int .i64 i2, .int .i64 i3, .int .i64 i4, .int .i64 i5, .int .i64 i6, .slice A n c] :=
    ⟨_, rfl, ((Below.refl _ _).alloc (Nat.le_refl _) _).alloc (by simp) _, (Blk.new w _ [.int .i64 t.frame, .slice A1 t.parts.length q1, .slice A2 t.wins.length q2, .slice A3 t.chans.length q3, .int .i64 t.trial]).alloc _, new_at (w.alloc _) _ [.int .i64 i0, .int .i64 i1, .int .i64 i2, .int .i64 i3, .int .i64 i4, .int .i64 i5, .int .i64 i6, .slice A n c] _ (by simp)⟩
  have HT := hid (fun w' (b : Blk w' w.heap.size 55 [.int .i64 t.frame, .slice A1 t.parts.length q1, .slice A2 t.wins.length q2, .slice A3 t.chans.length q3, .int .i64 t.trial]) => (⟨b.cellAt (i := 0) rfl, b.cellAt (i := 1) rfl, b.cellAt (i := 2) rfl, b.cellAt (i := 3) rfl, b.cellAt (i := 4) rfl⟩ : _ ∧ _ ∧ _ ∧ _ ∧ _))
  have HI := hid (fun w' (b : Blk w' (w.heap.size + 1) 63 [.int .i64 i0, .int .i64 i1, .int .i64 i2, .int .i64 i3, .int .i64 i4, .int .i64 i5, .int .i64 i6, .slice A n c]) => (⟨b.cellAt (i := 0) rfl, b.cellAt (i := 1) rfl, b.cellAt (i := 2) rfl, b.cellAt (i := 3) rfl, b.cellAt (i := 4) rfl, b.cellAt (i := 5) rfl, b.cellAt (i := 6) rfl, b.cellAt (i := 7) rfl⟩ : _ ∧ _ ∧ _ ∧ _ ∧ _ ∧ _ ∧ _ ∧ _))
  obtain ⟨c0, c1, c2, c3, c4⟩ := HT.out _ hT1
  obtain ⟨d0, d1, d2, d3, d4, d5, d6, d7⟩ := HI.out _ hI1
  go_enter Try.func11, Try.ntmps11
  go_wp2_with fail
  refine (wakesC_any _).mono ?_
  rintro e w2 ⟨rfl, hbz⟩
  clear hw1
  have hT2 := hT1.belowS hbz
  have hI2 := hI1.belowS hbz
  have hb2 := bel_trans hb1 hbz
  clear c0 c1 c2 c3 c4 d0 d1 d2 d3 d4 d5 d6 d7 hT1 hI1 hb1 hbz
  obtain ⟨c0, c1, c2, c3, c4⟩ := HT.out _ hT2
  obtain ⟨d0, d1, d2, d3, d4, d5, d6, d7⟩ := HI.out _ hI2
  go_wp2_with fail
  refine (iL.out _).mono ?_
  rintro e w3 ⟨rfl, hbz⟩
  have hT3 := hT2.belowS hbz
  have hI3 := hI2.belowS hbz
  have hb3 := bel_trans hb2 hbz
  clear c0 c1 c2 c3 c4 d0 d1 d2 d3 d4 d5 d6 d7 hT2 hI2 hb2 hbz
  obtain ⟨c0, c1, c2, c3, c4⟩ := HT.out _ hT3
  obtain ⟨d0, d1, d2, d3, d4, d5, d6, d7⟩ := HI.out _ hI3
  cases L with
  | true =>
    go_wp2_with fail
    go_ret
    exact ⟨rfl, hb3⟩
  | false =>
    have hl3 := HL.out
    have hl1 : t.parts.length ≤ 100000 ∧ t.wins.length ≤ 100000 ∧ t.chans.length ≤ 100000 := by
      have h4 := hl3.symm
      rw [Bool.or_eq_false_iff, Bool.or_eq_false_iff, decide_eq_false_iff_not, decide_eq_false_iff_not, decide_eq_false_iff_not] at h4
      omega
    clear hl3
    have HOK := hid (HO.out hl1.1 hl1.2.1 hl1.2.2)
    clear hl1 HO HL iL
    by_cases h5 : 500 < n
    · have y5 : decide ((500 : Int) < (n : Int)) = true := by simp; omega
      clear h5
      go_wp2_with fail
      go_ret
      exact ⟨rfl, hb3⟩
    · have y5 : decide ((500 : Int) < (n : Int)) = false := by simp; omega
      clear h5
      by_cases h6 : i0 < 0
      · have y6 : decide (i0 < 0) = true := decide_eq_true h6
        clear h6
        go_wp2_with fail
        go_ret
        exact ⟨rfl, hb3⟩
      · have y6 : decide (i0 < 0) = false := decide_eq_false h6
        clear h6
        by_cases z1 : E1 = 0
        · have z2 := HN1.out z1
          rw [z1] at j1
          rw [z2] at j2
          clear z1 z2 HN1
          by_cases z3 : -4611686018427387904 < v
          · have y7 : decide ((-4611686018427387904 : Int) < v) = true := decide_eq_true z3
            go_wp2_with fail
            refine (j1.out _ (HOK.out _ hb3)).mono ?_
            rintro e w4 ⟨rfl, hbz⟩
            have hT4 := hT3.belowS hbz
            have hI4 := hI3.belowS hbz
            have hb4 := bel_trans hb3 hbz
            clear c0 c1 c2 c3 c4 d0 d1 d2 d3 d4 d5 d6 d7 hT3 hI3 hb3 hbz
            obtain ⟨c0, c1, c2, c3, c4⟩ := HT.out _ hT4
            obtain ⟨d0, d1, d2, d3, d4, d5, d6, d7⟩ := HI.out _ hI4
            go_wp2_with fail
            refine (j2.out _ (HOK.out _ hb4)).mono ?_
            rintro e w5 ⟨rfl, hbz⟩
            have hT5 := hT4.belowS hbz
            have hI5 := hI4.belowS hbz
            have hb5 := bel_trans hb4 hbz
            clear c0 c1 c2 c3 c4 d0 d1 d2 d3 d4 d5 d6 d7 hT4 hI4 hb4 hbz
            obtain ⟨c0, c1, c2, c3, c4⟩ := HT.out _ hT5
            obtain ⟨d0, d1, d2, d3, d4, d5, d6, d7⟩ := HI.out _ hI5
            clear y7 z3
            by_cases z3 : E3 = 0
            · obtain ⟨e4, e5, e6⟩ := HN2.out z3
              rw [z3] at j3
              rw [e4] at j4
              rw [e5] at j5
              clear z3 e4 e5 HN2
              go_wp2_with fail
              refine (j3.out _ (HOK.out _ hb5)).mono ?_
              rintro e w6 ⟨rfl, hbz⟩
              have hT6 := hT5.belowS hbz
              have hI6 := hI5.belowS hbz
              have hb6 := bel_trans hb5 hbz
              clear c0 c1 c2 c3 c4 d0 d1 d2 d3 d4 d5 d6 d7 hT5 hI5 hb5 hbz
              obtain ⟨c0, c1, c2, c3, c4⟩ := HT.out _ hT6
              obtain ⟨d0, d1, d2, d3, d4, d5, d6, d7⟩ := HI.out _ hI6
              go_wp2_with fail
              refine (j4.out _ (HOK.out _ hb6)).mono ?_
              rintro e w7 ⟨rfl, hbz⟩
              have hT7 := hT6.belowS hbz
              have hI7 := hI6.belowS hbz
              have hb7 := bel_trans hb6 hbz
              clear c0 c1 c2 c3 c4 d0 d1 d2 d3 d4 d5 d6 d7 hT6 hI6 hb6 hbz
              obtain ⟨c0, c1, c2, c3, c4⟩ := HT.out _ hT7
              obtain ⟨d0, d1, d2, d3, d4, d5, d6, d7⟩ := HI.out _ hI7
              go_wp2_with fail
              refine (j5.out _ (HOK.out _ hb7)).mono ?_
              rintro e w8 ⟨rfl, hbz⟩
              have hT8 := hT7.belowS hbz
              have hI8 := hI7.belowS hbz
              have hb8 := bel_trans hb7 hbz
              clear c0 c1 c2 c3 c4 d0 d1 d2 d3 d4 d5 d6 d7 hT7 hI7 hb7 hbz
              obtain ⟨c0, c1, c2, c3, c4⟩ := HT.out _ hT8
              obtain ⟨d0, d1, d2, d3, d4, d5, d6, d7⟩ := HI.out _ hI8
              go_wp2_with fail
              go_ret
              exact ⟨rfl, hb8⟩
            · have z4 : (E3 == 0) = false := by simpa using z3
              rw [z4] at j3
              clear z3 z4 HN2
              go_wp2_with fail
              refine (j3.out _ (HOK.out _ hb5)).mono ?_
              rintro e w6 ⟨rfl, hbz⟩
              have hT6 := hT5.belowS hbz
              have hI6 := hI5.belowS hbz
              have hb6 := bel_trans hb5 hbz
              clear c0 c1 c2 c3 c4 d0 d1 d2 d3 d4 d5 d6 d7 hT5 hI5 hb5 hbz
              obtain ⟨c0, c1, c2, c3, c4⟩ := HT.out _ hT6
              obtain ⟨d0, d1, d2, d3, d4, d5, d6, d7⟩ := HI.out _ hI6
              go_wp2_with fail
              go_ret
              exact ⟨rfl, hb6⟩
          · have y7 : decide ((-4611686018427387904 : Int) < v) = false := decide_eq_false z3
            go_wp2_with fail
            refine (j1.out _ (HOK.out _ hb3)).mono ?_
            rintro e w4 ⟨rfl, hbz⟩
            have hT4 := hT3.belowS hbz
            have hI4 := hI3.belowS hbz
            have hb4 := bel_trans hb3 hbz
            clear c0 c1 c2 c3 c4 d0 d1 d2 d3 d4 d5 d6 d7 hT3 hI3 hb3 hbz
            obtain ⟨c0, c1, c2, c3, c4⟩ := HT.out _ hT4
            obtain ⟨d0, d1, d2, d3, d4, d5, d6, d7⟩ := HI.out _ hI4
            clear z3
            by_cases z3 : E3 = 0
            · obtain ⟨e4, e5, e6⟩ := HN2.out z3
              rw [z3] at j3
              rw [e4] at j4
              rw [e5] at j5
              clear z3 e4 e5 HN2
              go_wp2_with fail
              refine (j3.out _ (HOK.out _ hb4)).mono ?_
              rintro e w5 ⟨rfl, hbz⟩
              have hT5 := hT4.belowS hbz
              have hI5 := hI4.belowS hbz
              have hb5 := bel_trans hb4 hbz
              clear c0 c1 c2 c3 c4 d0 d1 d2 d3 d4 d5 d6 d7 hT4 hI4 hb4 hbz
              obtain ⟨c0, c1, c2, c3, c4⟩ := HT.out _ hT5
              obtain ⟨d0, d1, d2, d3, d4, d5, d6, d7⟩ := HI.out _ hI5
              go_wp2_with fail
              refine (j4.out _ (HOK.out _ hb5)).mono ?_
              rintro e w6 ⟨rfl, hbz⟩
              have hT6 := hT5.belowS hbz
              have hI6 := hI5.belowS hbz
              have hb6 := bel_trans hb5 hbz
              clear c0 c1 c2 c3 c4 d0 d1 d2 d3 d4 d5 d6 d7 hT5 hI5 hb5 hbz
              obtain ⟨c0, c1, c2, c3, c4⟩ := HT.out _ hT6
              obtain ⟨d0, d1, d2, d3, d4, d5, d6, d7⟩ := HI.out _ hI6
              go_wp2_with fail
              refine (j5.out _ (HOK.out _ hb6)).mono ?_
              rintro e w7 ⟨rfl, hbz⟩
              have hT7 := hT6.belowS hbz
              have hI7 := hI6.belowS hbz
              have hb7 := bel_trans hb6 hbz
              clear c0 c1 c2 c3 c4 d0 d1 d2 d3 d4 d5 d6 d7 hT6 hI6 hb6 hbz
              obtain ⟨c0, c1, c2, c3, c4⟩ := HT.out _ hT7
              obtain ⟨d0, d1, d2, d3, d4, d5, d6, d7⟩ := HI.out _ hI7
              go_wp2_with fail
              go_ret
              exact ⟨rfl, hb7⟩
            · have z4 : (E3 == 0) = false := by simpa using z3
              rw [z4] at j3
              clear z3 z4 HN2
              go_wp2_with fail
              refine (j3.out _ (HOK.out _ hb4)).mono ?_
              rintro e w5 ⟨rfl, hbz⟩
              have hT5 := hT4.belowS hbz
              have hI5 := hI4.belowS hbz
              have hb5 := bel_trans hb4 hbz
              clear c0 c1 c2 c3 c4 d0 d1 d2 d3 d4 d5 d6 d7 hT4 hI4 hb4 hbz
              obtain ⟨c0, c1, c2, c3, c4⟩ := HT.out _ hT5
              obtain ⟨d0, d1, d2, d3, d4, d5, d6, d7⟩ := HI.out _ hI5
              go_wp2_with fail
              go_ret
              exact ⟨rfl, hb5⟩
        · have z2 : (E1 == 0) = false := by simpa using z1
          clear z1
          go_wp2_with fail
          refine (j1.out _ (HOK.out _ hb3)).mono ?_
          rintro e w4 ⟨rfl, hbz⟩
          have hT4 := hT3.belowS hbz
          have hI4 := hI3.belowS hbz
          have hb4 := bel_trans hb3 hbz
          clear c0 c1 c2 c3 c4 d0 d1 d2 d3 d4 d5 d6 d7 hT3 hI3 hb3 hbz
          obtain ⟨c0, c1, c2, c3, c4⟩ := HT.out _ hT4
          obtain ⟨d0, d1, d2, d3, d4, d5, d6, d7⟩ := HI.out _ hI4
          by_cases z3 : E3 = 0
          · obtain ⟨e4, e5, e6⟩ := HN2.out z3
            rw [z3] at j3
            rw [e4] at j4
            rw [e5] at j5
            clear z3 e4 e5 HN2
            go_wp2_with fail
            refine (j3.out _ (HOK.out _ hb4)).mono ?_
            rintro e w5 ⟨rfl, hbz⟩
            have hT5 := hT4.belowS hbz
            have hI5 := hI4.belowS hbz
            have hb5 := bel_trans hb4 hbz
            clear c0 c1 c2 c3 c4 d0 d1 d2 d3 d4 d5 d6 d7 hT4 hI4 hb4 hbz
            obtain ⟨c0, c1, c2, c3, c4⟩ := HT.out _ hT5
            obtain ⟨d0, d1, d2, d3, d4, d5, d6, d7⟩ := HI.out _ hI5
            go_wp2_with fail
            refine (j4.out _ (HOK.out _ hb5)).mono ?_
            rintro e w6 ⟨rfl, hbz⟩
            have hT6 := hT5.belowS hbz
            have hI6 := hI5.belowS hbz
            have hb6 := bel_trans hb5 hbz
            clear c0 c1 c2 c3 c4 d0 d1 d2 d3 d4 d5 d6 d7 hT5 hI5 hb5 hbz
            obtain ⟨c0, c1, c2, c3, c4⟩ := HT.out _ hT6
            obtain ⟨d0, d1, d2, d3, d4, d5, d6, d7⟩ := HI.out _ hI6
            go_wp2_with fail
            refine (j5.out _ (HOK.out _ hb6)).mono ?_
            rintro e w7 ⟨rfl, hbz⟩
            have hT7 := hT6.belowS hbz
            have hI7 := hI6.belowS hbz
            have hb7 := bel_trans hb6 hbz
            clear c0 c1 c2 c3 c4 d0 d1 d2 d3 d4 d5 d6 d7 hT6 hI6 hb6 hbz
            obtain ⟨c0, c1, c2, c3, c4⟩ := HT.out _ hT7
            obtain ⟨d0, d1, d2, d3, d4, d5, d6, d7⟩ := HI.out _ hI7
            go_wp2_with fail
            go_ret
            exact ⟨rfl, hb7⟩
          · have z4 : (E3 == 0) = false := by simpa using z3
            rw [z4] at j3
            clear z3 z4 HN2
            go_wp2_with fail
            refine (j3.out _ (HOK.out _ hb4)).mono ?_
            rintro e w5 ⟨rfl, hbz⟩
            have hT5 := hT4.belowS hbz
            have hI5 := hI4.belowS hbz
            have hb5 := bel_trans hb4 hbz
            clear c0 c1 c2 c3 c4 d0 d1 d2 d3 d4 d5 d6 d7 hT4 hI4 hb4 hbz
            obtain ⟨c0, c1, c2, c3, c4⟩ := HT.out _ hT5
            obtain ⟨d0, d1, d2, d3, d4, d5, d6, d7⟩ := HI.out _ hI5
            go_wp2_with fail
            go_ret
            exact ⟨rfl, hb5⟩
/-! ### CompatNewer: from the walk to the given statement -/
namespace lawCompatNewer
theorem own : ownKnob Try.prog.godebug = none := by kernel_rfl
theorem laidOut : laidOutB Try.prog = true := by kernel_rfl
set_option maxRecDepth 100000 in
theorem lifted (os : Os) (started : os.Started) (H : Type) (enc : TypeId × Value → H) :
    ReturnsInHanded {} Try.checked os 11 .any (Rows.compatNewerSpec.pre6 enc Try.prog Try.f11 Rows.compatNewerRow.domain false) (Rows.compatNewerSpec.post enc Try.prog Try.f11 false true false false) := by
  refine returnsInHanded_of_change (C := Try.checked) own started (by kernel_rfl) Try.func11
    (ChangeSpec.witness6 (enc := enc) (C := Try.checked) false ⟨#[], #[.agg #[.int .i64 0, .slice none 0 0, .slice none 0 0, .slice none 0 0, .int .i64 0], .agg #[.int .i64 0, .int .i64 0, .int .i64 0, .int .i64 0, .int .i64 0, .int .i64 0, .int .i64 0, .slice none 0 0], .int .i64 0], []⟩ 8 (by kernel_rfl) (by kernel_rfl) (by kernel_rfl) (by kernel_rfl)) ?_
  intro W base args ds gs before hval0 hW hcnd _
  have hval : ∀ (j : Nat) t v, Try.f11.params[j]? = some t → args[j]? = some v → Value.okWide Try.prog W .any base t v := hval0
  have hW' := hW
  obtain ⟨p, q, hA0, hV, rfl, hfz, hnd⟩ := hW
  have hA : DataW.TrodAll enc Try.prog W 0 (fun _ => true) true Try.f11.params.toList args.toList ds p := hA0
  rw [Try.params11] at hA hval
  obtain ⟨v0, vs0, d0, ds0, p0, q0, hargs, rfl, rfl, h0, r0⟩ := trodAll_cons hA
  obtain ⟨v1, vs1, d1, ds1, p1, q1, rfl, rfl, rfl, h1, r1⟩ := trodAll_cons r0
  obtain ⟨v2, vs2, d2, ds2, p2, q2, rfl, rfl, rfl, h2, r2⟩ := trodAll_cons r1
  obtain ⟨rfl, rfl, rfl⟩ := trodAll_nil r2
  obtain rfl : args = #[v0, v1, v2] := by cases args; simp_all
  obtain ⟨rfl, rfl⟩ := trodVars_none hV
  have k0 := h0
  have lt0 : ∀ x ∈ p0, x.block < W.heap.size := by obtain ⟨m, hm⟩ := k0; exact DataW.trod_lt m _ _ _ hm
  have k1 := h1
  have lt1 : ∀ x ∈ p1, x.block < W.heap.size := by obtain ⟨m, hm⟩ := k1; exact DataW.trod_lt m _ _ _ hm
  have k2 := h2
  have lt2 : ∀ x ∈ p2, x.block < W.heap.size := by obtain ⟨m, hm⟩ := k2; exact DataW.trod_lt m _ _ _ hm
  obtain ⟨t0, a0, rfl, w0⟩ := open_tab (hval 0 55 v0 rfl rfl) h0
  obtain ⟨i1, A1, c1, rfl, w1⟩ := open_img (hval 1 63 v1 rfl rfl) h1
  obtain ⟨a2, rfl, rfl, rfl, w2⟩ := open_int Try.underlying3 (hval 2 3 v2 rfl rfl) h2
  clear hA0 hval0
  refine (compatNewer_any W t0 a0 w0 i1 A1 c1 w1 a2 w2).mono fun e W' ⟨he, bel⟩ => ?_
  subst he
  exact ⟨_, rfl, _, _, _, [], _, [], hW', trodAll_mk1 (shut_bool Try.underlying4 _), (trodAll_cons_mk (Below.trod laidOut (by kernel_rfl) (of_decide_eq_true (by kernel_rfl)) k0 bel lt0) (trodAll_cons_mk (Below.trod laidOut (by kernel_rfl) (of_decide_eq_true (by kernel_rfl)) k1 bel lt1) (trodAll_cons_mk (Below.trod laidOut (by kernel_rfl) (of_decide_eq_true (by kernel_rfl)) k2 bel lt2) trodAll_mk0))), rfl, bel.frame _, fun h => by cases h⟩
theorem over : Rows.compatNewerRow.holds Try.pinned (OpenSpec.ofChange Rows.compatNewerSpec) :=
  OpenClaim.holds_of_wide 11 Try.f11 rfl rfl rfl rfl rfl rfl rfl ⟨rfl, rfl, rfl, rfl, rfl⟩ rfl rfl rfl rfl rfl (by kernel_rfl) Try.func11 (by kernel_rfl)
    (of_decide_eq_true (by kernel_rfl)) (by unfold Func.isWrapper; first | (rw [if_pos (by decide +kernel)]; kernel_rfl) | (rw [if_neg (by decide +kernel)]; exact ⟨rfl, rfl⟩))
    (fun os started H enc _ => lifted os started H enc)
theorem proved : Rows.CompatNewerSaid := over
#print axioms proved
end lawCompatNewer

end Go.Proofs.Ythnifgcoikmihaa
