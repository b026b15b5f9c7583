/-
  Package table: whether all windows may be; whether a table is right.
-/
import Derived.Test.YtbnodcenlggcnaaTab
namespace Go.Proofs.Ytbnodcenlggcnaa
open Go.RowKit

set_option maxHeartbeats 2000000 in
theorem windows_any (t : TabS) (a : TabA) (w : World) (hn1 : t.parts.length ≤ 100000) (hn2 : t.wins.length ≤ 100000) (h : RdS w w.heap.size 3 a.A2 t.wins.length winC t.wins) (hf1 : -9223372036854775808 ≤ t.frame) (hf2 : t.frame ≤ 9223372036854775807) :
    Calls Try.prog 45 #[.agg #[.int .i64 t.frame, .slice a.A1 t.parts.length a.c1, .slice a.A2 t.wins.length a.c2, .slice a.A3 t.chans.length a.c3, .int .i64 t.trial]] w fun e w' => e = .returned (.bool (winsB t)) ∧ Below w.heap.size w w' := by
  obtain ⟨A1, k1, A2, k2, A3, k3⟩ := a
  simp only at h ⊢
  have hb0 : Below w.heap.size w (w.alloc (.cells (tabC t ⟨A1, k1, A2, k2, A3, k3⟩).toArray 26)) := (Below.refl _ _).alloc (Nat.le_refl _) _
  have hblk : Blk (w.alloc (.cells (tabC t ⟨A1, k1, A2, k2, A3, k3⟩).toArray 26)) w.heap.size 26 (tabC t ⟨A1, k1, A2, k2, A3, k3⟩) := Blk.new w _ _
  go_enter Try.func45, Try.ntmps45
  go_wp2_with fail
  go_loopw [3, 4, 10] (fun v3 v4 v10 wr => ∃ (k : Nat) (E : Int) (care : Bool), k ≤ t.wins.length ∧ v10 = .int .i64 (k : Int) ∧ v3 = .int .i64 E ∧ v4 = .bool care ∧ 0 ≤ E ∧ E ≤ 9223372036854775807 ∧ Hid (winsOk t 0 t.wins = winsOk t E (t.wins.drop k)) ∧ Hid (careB t.wins = (care || careB (t.wins.drop k))) ∧ Below w.heap.size w wr ∧ Blk wr w.heap.size 26 (tabC t ⟨A1, k1, A2, k2, A3, k3⟩)) (fun _ _ v10 _ => t.wins.length - (intOf v10).toNat)
  case atStart => exact ⟨0, 0, false, by omega, rfl, rfl, rfl, by omega, by omega, rfl, by refine hid ?_; simp, hb0, hblk⟩
  case round =>
    clear hblk hb0
    obtain ⟨k, E, care, hk, rfl, rfl, rfl, hE1, hE2, HW, HC, hbel, hblk⟩ := hrel
    obtain ⟨q0, q1, q2, q3, q4⟩ := tab_cells hblk
    by_cases hkn : k < t.wins.length
    · obtain ⟨ad, x, rfl, had, hx, hc0, hc⟩ := (h.belowS hbel).at_ hkn
      have c0 := hc0 _ rfl
      have c1 := hc 0 _ rfl
      have c2 := hc 1 _ rfl
      clear hc hc0
      obtain ⟨p, f, lg⟩ := x
      simp only at c0 c1 c2
      have hdk : t.wins.drop k = ⟨p, f, lg⟩ :: t.wins.drop (k + 1) := by
        obtain ⟨hlt, hv⟩ := List.getElem?_eq_some_iff.1 hx
        rw [List.drop_eq_getElem_cons hlt, hv]
      have HBad : Hid (winBad t E ⟨p, f, lg⟩ = (!(hasB t p) || decide (f < E) || decide (t.frame < f) || decide (lg < 1) || decide (t.frame - f < lg))) := rfl
      have HW2 : Hid (winsOk t 0 t.wins = (!(winBad t E ⟨p, f, lg⟩) && winsOk t (f + lg) (t.wins.drop (k + 1)))) := by
        refine hid ?_
        rw [HW.out, hdk]
        rfl
      have HC2 : Hid (careB t.wins = ((care || p == 0) || careB (t.wins.drop (k + 1)))) := by
        refine hid ?_
        rw [HC.out, hdk]
        unfold careB
        rw [List.any_cons, Bool.or_assoc]
      have i1 := hid (fun w => has_any t ⟨A1, k1, some ad, k2, A3, k3⟩ p w hn1)
      simp only at i1
      generalize hasB t p = b1 at HBad i1
      have hno : winBad t E ⟨p, f, lg⟩ = true → winsB t = false := fun h => by unfold winsB; rw [HW2.out, h]; rfl
      have HNo := hid hno
      clear hno hdk hx HW HC
      have hblk1 := hblk.alloc (.cells #[.int .i64 p, .int .i64 f, .int .i64 lg] 30)
      have hsrc : Blk (wr.alloc (.cells #[.int .i64 p, .int .i64 f, .int .i64 lg] 30)) wr.heap.size 30 [.int .i64 p, .int .i64 f, .int .i64 lg] := Blk.new wr _ _
      have hbel1 := bel_alloc hbel (.cells #[.int .i64 p, .int .i64 f, .int .i64 lg] 30)
      clear q0 q1 q2 q3 q4
      obtain ⟨q0, q1, q2, q3, q4⟩ := tab_cells hblk1
      go_wp2_with fail
      refine (i1.out _).mono ?_
      rintro e w1 ⟨rfl, hb1⟩
      have hblk2 := hblk1.belowS hb1
      have hsrc2 := hsrc.belowS hb1
      have hbel2 := bel_trans hbel1 hb1
      clear q0 q1 q2 q3 q4 hblk hblk1 hsrc hbel1 hbel hb1 c0 c1 c2
      obtain ⟨q0, q1, q2, q3, q4⟩ := tab_cells hblk2
      have s0 := hsrc2.cellAt (i := 0) rfl
      have s1 := hsrc2.cellAt (i := 1) rfl
      have s2 := hsrc2.cellAt (i := 2) rfl
      cases b1
      · have hw := HNo.out (by rw [HBad.out]; rfl)
        have HWF := hid hw
        clear hw
        go_wp2_with fail
        go_ret
        exact ⟨by rw [HWF.out]; rfl, hbel2⟩
      · by_cases d1 : f < E
        · have HWF := hid (HNo.out (by rw [HBad.out]; simp [d1]))
          go_wp2_with fail
          go_ret
          exact ⟨by rw [HWF.out]; rfl, hbel2⟩
        · have e1 : decide (f < E) = false := by simp; omega
          by_cases d2 : t.frame < f
          · have HWF := hid (HNo.out (by rw [HBad.out]; simp [d2]))
            go_wp2_with fail
            go_ret
            exact ⟨by rw [HWF.out]; rfl, hbel2⟩
          · have e2 : decide (t.frame < f) = false := by simp; omega
            by_cases d3 : lg < 1
            · have HWF := hid (HNo.out (by rw [HBad.out]; simp [d3]))
              go_wp2_with fail
              go_ret
              exact ⟨by rw [HWF.out]; rfl, hbel2⟩
            · have e3 : decide (lg < 1) = false := by simp; omega
              by_cases d4 : t.frame - f < lg
              · have HWF := hid (HNo.out (by rw [HBad.out]; simp [d4]))
                go_wp2_with fail
                go_ret
                exact ⟨by rw [HWF.out]; rfl, hbel2⟩
              · have e4 : decide (t.frame - f < lg) = false := by simp; omega
                have HOk : Hid (winsOk t 0 t.wins = winsOk t (f + lg) (t.wins.drop (k + 1))) := by
                  refine hid ?_
                  rw [HW2.out, HBad.out, e1, e2, e3, e4]
                  rfl
                cases care
                · have HC3 : Hid (careB t.wins = ((p == 0) || careB (t.wins.drop (k + 1)))) := by refine hid ?_; rw [HC2.out]; simp
                  go_wp2_with fail
                  go_roundw
                  case rel => exact ⟨k + 1, f + lg, (p == 0), by omega, by go_num, rfl, rfl, by omega, by omega, HOk, HC3, hbel2, hblk2⟩
                  case measure => simp [intOf]; omega
                · have HC3 : Hid (careB t.wins = (true || careB (t.wins.drop (k + 1)))) := by refine hid ?_; rw [HC2.out]; simp
                  go_wp2_with fail
                  go_roundw
                  case rel => exact ⟨k + 1, f + lg, true, by omega, by go_num, rfl, rfl, by omega, by omega, HOk, HC3, hbel2, hblk2⟩
                  case measure => simp [intOf]; omega
    · obtain rfl : k = t.wins.length := by omega
      have HE : Hid (winsB t = (care && decide (t.wins.length ≤ 8))) := by
        refine hid ?_
        unfold winsB
        rw [HW.out, HC.out, List.drop_length]
        simp [winsOk, careB]
      cases care
      · have HE2 : Hid (winsB t = false) := by refine hid ?_; rw [HE.out]; rfl
        go_wp2_with fail
        go_ret
        exact ⟨by rw [HE2.out]; rfl, hbel⟩
      · by_cases h8 : t.wins.length ≤ 8
        · have HE2 : Hid (winsB t = true) := by refine hid ?_; rw [HE.out]; simp [h8]
          go_wp2_with fail
          go_ret
          exact ⟨by rw [HE2.out]; simp; omega, hbel⟩
        · have HE2 : Hid (winsB t = false) := by refine hid ?_; rw [HE.out]; simp [h8]
          go_wp2_with fail
          go_ret
          exact ⟨by rw [HE2.out]; simp; omega, hbel⟩

/-- What is known of a table that is asked about. -/
structure TabOk (w : World) (t : TabS) (a : TabA) : Prop where
  inn : TabIn w t a
  n1 : t.parts.length ≤ 100000
  n2 : t.wins.length ≤ 100000
  n3 : t.chans.length ≤ 100000
  f1 : -9223372036854775808 ≤ t.frame
  f2 : t.frame ≤ 9223372036854775807
theorem TabOk.belowS {w w' : World} {t : TabS} {a : TabA} (h : TabOk w t a) (hb : Below w.heap.size w w') : TabOk w' t a := ⟨h.inn.belowS hb, h.n1, h.n2, h.n3, h.f1, h.f2⟩
set_option maxHeartbeats 1000000 in
theorem right_any (t : TabS) (a : TabA) (w : World) (h : TabOk w t a) :
    Calls Try.prog 17 #[.agg #[.int .i64 t.frame, .slice a.A1 t.parts.length a.c1, .slice a.A2 t.wins.length a.c2, .slice a.A3 t.chans.length a.c3, .int .i64 t.trial]] w fun e w' => e = .returned (.bool (rightB t)) ∧ Below w.heap.size w w' := by
  have HB : Hid (rightB t = (inB t.frame 1 64 && inB t.trial 1 7 && inB (t.parts.length : Int) 2 4 && !(t.parts.any badB) && winsB t && decide (t.chans.length ≤ 4) && !(t.chans.any (chanBad t)))) := rfl
  have hb0 : Below w.heap.size w (w.alloc (.cells (tabC t a).toArray 26)) := (Below.refl _ _).alloc (Nat.le_refl _) _
  have hblk0 : Blk (w.alloc (.cells (tabC t a).toArray 26)) w.heap.size 26 (tabC t a) := Blk.new w _ _
  have h1 := h.belowS hb0
  have i1 := hid (fun w => in_any t.frame 1 64 w)
  have i2 := hid (fun w => in_any t.trial 1 7 w)
  have i3 := hid (fun w => in_any (t.parts.length : Int) 2 4 w)
  have i4 := hid (fun w (h : TabOk w t a) => containsPart_any a.A1 t.parts.length a.c1 t.parts w h.inn.1 h.n1)
  have i5 := hid (fun w (h : TabOk w t a) => windows_any t a w h.n1 h.n2 h.inn.2.1 h.f1 h.f2)
  have i7 := hid (fun w (h : TabOk w t a) (g : Nat) (hblk : Blk w g 26 (tabC t a)) => containsChan_any a.A3 t.chans.length a.c3 t.chans t a g w h.inn.2.2 h.n3 hblk h.n1)
  have hn3 := h.n3
  generalize rightB t = r at HB ⊢
  generalize inB t.frame 1 64 = b1 at HB i1
  generalize inB t.trial 1 7 = b2 at HB i2
  generalize inB (t.parts.length : Int) 2 4 = b3 at HB i3
  generalize t.parts.any badB = b4 at HB i4
  generalize winsB t = b5 at HB i5
  generalize t.chans.any (chanBad t) = b7 at HB i7
  obtain ⟨c0, c1, c2, c3, c4⟩ := tab_cells hblk0
  have hr := HB.out
  clear HB
  cases b1
  · simp only [Bool.false_and] at hr
    subst hr
    clear hblk0
    go_enter Try.func17, Try.ntmps17
    go_wp2_with fail
    refine (i1.out _).mono ?_
    rintro e w' ⟨rfl, rfl⟩
    go_wp2_with fail
    go_ret
    exact ⟨rfl, hb0⟩
  · cases b2
    · simp only [Bool.false_and, Bool.and_false] at hr
      subst hr
      go_enter Try.func17, Try.ntmps17
      go_wp2_with fail
      refine (i1.out _).mono ?_
      rintro e w' ⟨rfl, rfl⟩
      go_wp2_with fail
      refine (i2.out _).mono ?_
      rintro e w' ⟨rfl, rfl⟩
      go_wp2_with fail
      go_ret
      exact ⟨rfl, hb0⟩
    · go_enter Try.func17, Try.ntmps17
      go_wp2_with fail
      refine (i1.out _).mono ?_
      rintro e w' ⟨rfl, rfl⟩
      go_wp2_with fail
      refine (i2.out _).mono ?_
      rintro e w' ⟨rfl, rfl⟩
      go_wp2_with fail
      refine (i3.out _).mono ?_
      rintro e w' ⟨rfl, rfl⟩
      cases b3
      · simp only [Bool.false_and, Bool.and_false] at hr
        subst hr
        go_wp2_with fail
        go_ret
        exact ⟨rfl, hb0⟩
      · simp only [Bool.true_and] at hr
        have HR := hid hr
        clear hr
        go_wp2_with fail
        refine (i4.out _ h1).mono ?_
        rintro e w2 ⟨rfl, hb2⟩
        have hblk2 := hblk0.belowS hb2
        have h2 := h1.belowS hb2
        have hb02 := bel_trans hb0 hb2
        clear c0 c1 c2 c3 c4
        obtain ⟨c0, c1, c2, c3, c4⟩ := tab_cells hblk2
        cases b4
        · have HR2 : Hid (r = (b5 && decide (t.chans.length ≤ 4) && !b7)) := by refine hid ?_; rw [HR.out]; simp
          go_wp2_with fail
          refine (i5.out _ h2).mono ?_
          rintro e w3 ⟨rfl, hb3⟩
          have hblk3 := hblk2.belowS hb3
          have h3 := h2.belowS hb3
          have hb03 := bel_trans hb02 hb3
          clear c0 c1 c2 c3 c4
          obtain ⟨c0, c1, c2, c3, c4⟩ := tab_cells hblk3
          cases b5
          · have hf : r = false := by rw [HR2.out]; rfl
            subst hf
            go_wp2_with fail
            go_ret
            exact ⟨rfl, hb03⟩
          · by_cases hc4 : t.chans.length ≤ 4
            · have hf : r = !b7 := by rw [HR2.out]; simp [hc4]
              have hd : decide (4 < (t.chans.length : Int)) = false := by simp; omega
              subst hf
              go_wp2_with fail
              refine (i7.out _ h3 _ hblk3).mono ?_
              rintro e w4 ⟨rfl, hb4⟩
              go_wp2_with fail
              go_ret
              exact ⟨rfl, bel_trans hb03 hb4⟩
            · have hf : r = false := by rw [HR2.out]; simp [hc4]
              have hd : decide (4 < (t.chans.length : Int)) = true := by simp; omega
              subst hf
              go_wp2_with fail
              go_ret
              exact ⟨rfl, hb03⟩
        · have hf : r = false := by rw [HR.out]; simp
          subst hf
          go_wp2_with fail
          go_ret
          exact ⟨rfl, hb02⟩
end Go.Proofs.Ytbnodcenlggcnaa
