/-
  Package longeronlaw13: the example, wakes, long; compat.Fits.
-/
import Derived.Test.YthnifgcoikmihaaCompCheck
import Derived.Handy
namespace Go.Proofs.Ythnifgcoikmihaa
open Go.RowKit

theorem fits_any (t : TabS) (a : TabA) (p : Int) (i : ImgS) (A : Option Addr) (c : Nat) (w : World) (h : TabOk w t a) (hl : i.code.length ≤ 9223372036854775807) :
    Calls Try.prog 35 #[tabV t a, .int .i64 p, imgV i A c] w fun e w' => e = .returned (.bool (checkE t p i 0 == 0)) ∧ Below w.heap.size w w' := by
  obtain ⟨w1, hw1, hb1, hT, hI⟩ := two_box t a i A c w
  have j1 := hid (check_any t a p i A c 0 w1 (h.belowS hb1) hl)
  generalize checkE t p i 0 = R at *
  obtain ⟨c0, c1, c2, c3, c4⟩ := tab_cells hT
  obtain ⟨d0, d1, d2, d3, d4, d5, d6, d7⟩ := img_cellsC hI
  simp only [tabV, imgV] at j1 hw1 ⊢
  clear h hl hT hI
  go_enter Try.func35, Try.ntmps35
  go_wp2_with fail
  refine j1.out.mono ?_
  rintro e w2 ⟨rfl, hb2⟩
  go_wp2_with fail
  go_ret
  exact ⟨rfl, bel_trans hb1 hb2⟩
def longC (t : TabS) : Bool := decide (20 < t.parts.length) || decide (40 < t.wins.length) || decide (20 < t.chans.length)
theorem longC_any (t : TabS) (a : TabA) (w : World) (l1 : t.parts.length ≤ 9223372036854775807) (l2 : t.wins.length ≤ 9223372036854775807) (l3 : t.chans.length ≤ 9223372036854775807) :
    Calls Try.prog 28 #[.agg #[.int .i64 t.frame, .slice a.A1 t.parts.length a.c1, .slice a.A2 t.wins.length a.c2, .slice a.A3 t.chans.length a.c3, .int .i64 t.trial]] w fun e w' => e = .returned (.bool (longC t)) ∧ Below w.heap.size w w' := by
  obtain ⟨frame, parts, wins, chans, trial⟩ := t
  obtain ⟨A1, c1, A2, c2, A3, c3⟩ := a
  simp only at l1 l2 l3 ⊢
  unfold longC
  simp only
  generalize parts.length = n1 at l1 ⊢
  generalize wins.length = n2 at l2 ⊢
  generalize chans.length = n3 at l3 ⊢
  have hb : Below w.heap.size w (w.alloc (.cells #[.int .i64 frame, .slice A1 n1 c1, .slice A2 n2 c2, .slice A3 n3 c3, .int .i64 trial] 55)) := (Below.refl _ _).alloc (Nat.le_refl _) _
  by_cases h1 : 20 < n1
  · have hr : (decide (20 < n1) || decide (40 < n2) || decide (20 < n3)) = true := by simp [h1]
    rw [hr]
    clear hr
    go_enter Try.func28, Try.ntmps28
    go_wp2_with fail
    go_ret
    exact ⟨rfl, hb⟩
  · by_cases h2 : 40 < n2
    · have hr : (decide (20 < n1) || decide (40 < n2) || decide (20 < n3)) = true := by simp [h2]
      rw [hr]
      clear hr
      go_enter Try.func28, Try.ntmps28
      go_wp2_with fail
      go_ret
      exact ⟨rfl, hb⟩
    · by_cases h3 : 20 < n3
      · have hr : (decide (20 < n1) || decide (40 < n2) || decide (20 < n3)) = true := by simp [h3]
        rw [hr]
        clear hr
        go_enter Try.func28, Try.ntmps28
        go_wp2_with fail
        go_ret
        exact ⟨ret_bool (by simp; omega), hb⟩
      · have hr : (decide (20 < n1) || decide (40 < n2) || decide (20 < n3)) = false := by simp; omega
        rw [hr]
        clear hr
        go_enter Try.func28, Try.ntmps28
        go_wp2_with fail
        go_ret
        exact ⟨ret_bool (by simp; omega), hb⟩
theorem rds_of {α : Type} {w : World} {g : Nat} {T : TypeId} {cells : α → List Value} {l : List α} (h : Blk w g T (l.flatMap cells)) (hx : ∀ x ∈ l, (cells x).length = 3) : RdS w w.heap.size 3 (some ⟨g, 0, none⟩) l.length cells l := by
  refine ⟨rfl, fun k z hk => ⟨_, rfl, h.lt, fun j u hu => ?_⟩⟩
  rw [add_none]
  refine h.cellAt ?_
  rw [Nat.zero_add]
  clear h
  induction l generalizing k with
  | nil => simp at hk
  | cons x l ih =>
    rw [List.flatMap_cons]
    have hx0 : (cells x).length = 3 := hx x (by simp)
    cases k with
    | zero =>
      simp at hk
      subst hk
      rw [List.getElem?_append_left (by have := (List.getElem?_eq_some_iff.1 hu).1; omega)]
      simpa using hu
    | succ k =>
      rw [List.getElem?_cons_succ] at hk
      rw [List.getElem?_append_right (by omega), hx0, show (k + 1) * 3 + j - 3 = k * 3 + j by omega]
      exact ih (fun y hy => hx y (by simp [hy])) k hk
theorem new_at (W : World) (T : TypeId) (cs : List Value) (g : Nat) (hg : W.heap.size = g) : Blk (W.alloc (.cells cs.toArray T)) g T cs := by subst hg; exact Blk.new W T cs
def exC : TabS := ⟨4, [⟨4, 4, 0⟩, ⟨4, 4, 0⟩], [⟨0, 0, 1⟩], [⟨0, 1, 0⟩], 1⟩
theorem exC_any (w : World) :
    Calls Try.prog 43 #[] w fun e w' => (∃ A1 c1 A2 c2 A3 c3, e = .returned (.agg #[.int .i64 4, .slice A1 2 c1, .slice A2 1 c2, .slice A3 1 c3, .int .i64 1]) ∧ TabOk w' exC ⟨A1, c1, A2, c2, A3, c3⟩) ∧ Below w.heap.size w w' := by
  go_enter Try.func43, Try.ntmps43
  go_wp2_with fail
  go_returns
  refine ⟨⟨_, _, _, _, _, _, rfl, ⟨⟨?_, ?_, ?_⟩, by simp [exC], by simp [exC], by simp [exC], by simp [exC], by simp [exC]⟩⟩, (((((Below.refl _ _).alloc (Nat.le_refl _) _).alloc (by first | (simp; done) | (simp; omega)) _).alloc (by first | (simp; done) | (simp; omega)) _).alloc (by first | (simp; done) | (simp; omega)) _).alloc (by first | (simp; done) | (simp; omega)) _⟩
  · exact ((rds_of (l := exC.parts) (cells := partC) (new_at _ 66 _ _ (by simp)) (by intro x _; rfl)).belowS ((Below.refl _ _).alloc (Nat.le_refl _) _)).belowS ((Below.refl _ _).alloc (Nat.le_refl _) _)
  · exact (rds_of (l := exC.wins) (cells := winC) (new_at _ 91 _ _ (by simp)) (by intro x _; rfl)).belowS ((Below.refl _ _).alloc (Nat.le_refl _) _)
  · exact rds_of (l := exC.chans) (cells := chanC) (new_at _ 59 _ _ (by simp)) (by intro x _; rfl)
def exI : ImgS := ⟨0, 2, 0, 4, 4, 1, 0, [0]⟩
theorem exI1 : checkE exC 1 exI 1 = 12 := by decide
theorem exI2 : checkE exC 0 exI 1 = 0 := by decide
theorem exI3 : checkE exC 0 exI 2 = 13 := by decide
theorem checkEx1 (A1 : Option Addr) (c1 : Nat) (A2 : Option Addr) (c2 : Nat) (A3 : Option Addr) (c3 : Nat) (b : Nat) (w : World) (h : TabOk w exC ⟨A1, c1, A2, c2, A3, c3⟩) :
    Calls Try.prog 33 #[.agg #[.int .i64 4, .slice A1 2 c1, .slice A2 1 c2, .slice A3 1 c3, .int .i64 1], .int .i64 1, .agg #[.int .i64 0, .int .i64 2, .int .i64 0, .int .i64 4, .int .i64 4, .int .i64 1, .int .i64 0, .slice (some ⟨b, 0, none⟩) 1 1], .int .i64 1] w fun e w' => e = .returned (.int .i64 12) ∧ Below w.heap.size w w' := by
  have := check_any exC ⟨A1, c1, A2, c2, A3, c3⟩ 1 exI (some ⟨b, 0, none⟩) 1 1 w h (by decide)
  rw [exI1] at this
  exact this
theorem checkEx2 (A1 : Option Addr) (c1 : Nat) (A2 : Option Addr) (c2 : Nat) (A3 : Option Addr) (c3 : Nat) (b : Nat) (w : World) (h : TabOk w exC ⟨A1, c1, A2, c2, A3, c3⟩) :
    Calls Try.prog 33 #[.agg #[.int .i64 4, .slice A1 2 c1, .slice A2 1 c2, .slice A3 1 c3, .int .i64 1], .int .i64 0, .agg #[.int .i64 0, .int .i64 2, .int .i64 0, .int .i64 4, .int .i64 4, .int .i64 1, .int .i64 0, .slice (some ⟨b, 0, none⟩) 1 1], .int .i64 1] w fun e w' => e = .returned (.int .i64 0) ∧ Below w.heap.size w w' := by
  have := check_any exC ⟨A1, c1, A2, c2, A3, c3⟩ 0 exI (some ⟨b, 0, none⟩) 1 1 w h (by decide)
  rw [exI2] at this
  exact this
theorem checkEx3 (A1 : Option Addr) (c1 : Nat) (A2 : Option Addr) (c2 : Nat) (A3 : Option Addr) (c3 : Nat) (b : Nat) (w : World) (h : TabOk w exC ⟨A1, c1, A2, c2, A3, c3⟩) :
    Calls Try.prog 33 #[.agg #[.int .i64 4, .slice A1 2 c1, .slice A2 1 c2, .slice A3 1 c3, .int .i64 1], .int .i64 0, .agg #[.int .i64 0, .int .i64 2, .int .i64 0, .int .i64 4, .int .i64 4, .int .i64 1, .int .i64 0, .slice (some ⟨b, 0, none⟩) 1 1], .int .i64 2] w fun e w' => e = .returned (.int .i64 13) ∧ Below w.heap.size w w' := by
  have := check_any exC ⟨A1, c1, A2, c2, A3, c3⟩ 0 exI (some ⟨b, 0, none⟩) 1 2 w h (by decide)
  rw [exI3] at this
  exact this
set_option maxRecDepth 100000 in
set_option maxHeartbeats 2000000 in
theorem wakesC_any (w : World) :
    Calls Try.prog 27 #[] w fun e w' => e = .returned (.bool true) ∧ Below w.heap.size w w' := by
  obtain ⟨w1, hw1, hb1, hblk1⟩ : ∃ w1, (w.alloc (.cells #[.int .u8 0] 5)).alloc (.cells #[.int .i64 0, .int .i64 2, .int .i64 0, .int .i64 4, .int .i64 4, .int .i64 1, .int .i64 0, .slice (some ⟨w.heap.size, 0, none⟩) 1 1] 63) = w1 ∧ Below w.heap.size w w1 ∧ Blk w1 (w.heap.size + 1) 63 [.int .i64 0, .int .i64 2, .int .i64 0, .int .i64 4, .int .i64 4, .int .i64 1, .int .i64 0, .slice (some ⟨w.heap.size, 0, none⟩) 1 1] :=
    ⟨_, rfl, ((Below.refl _ _).alloc (Nat.le_refl _) _).alloc (by simp) _, new_at _ 63 [.int .i64 0, .int .i64 2, .int .i64 0, .int .i64 4, .int .i64 4, .int .i64 1, .int .i64 0, .slice (some ⟨w.heap.size, 0, none⟩) 1 1] _ (by simp)⟩
  have HBLK := hid hblk1
  have HB1 := hid hb1
  have c0 := hblk1.cellAt (i := 0) rfl
  have c1 := hblk1.cellAt (i := 1) rfl
  have c2 := hblk1.cellAt (i := 2) rfl
  have c3 := hblk1.cellAt (i := 3) rfl
  have c4 := hblk1.cellAt (i := 4) rfl
  have c5 := hblk1.cellAt (i := 5) rfl
  have c6 := hblk1.cellAt (i := 6) rfl
  have c7 := hblk1.cellAt (i := 7) rfl
  clear hblk1 hb1
  have hB := hid (Below.refl w1.heap.size w1)
  go_enter Try.func27, Try.ntmps27
  go_wp2_with fail
  first | rw [hw1] | skip
  go_region_held3 (fun w' => w'.cell? ⟨w.heap.size + 1, 0, none⟩ = some (.int .i64 0) ∧ w'.cell? ⟨w.heap.size + 1, 1, none⟩ = some (.int .i64 2) ∧ w'.cell? ⟨w.heap.size + 1, 2, none⟩ = some (.int .i64 0) ∧ w'.cell? ⟨w.heap.size + 1, 3, none⟩ = some (.int .i64 4) ∧ w'.cell? ⟨w.heap.size + 1, 4, none⟩ = some (.int .i64 4) ∧ w'.cell? ⟨w.heap.size + 1, 5, none⟩ = some (.int .i64 1) ∧ w'.cell? ⟨w.heap.size + 1, 6, none⟩ = some (.int .i64 0) ∧ w'.cell? ⟨w.heap.size + 1, 7, none⟩ = some (.slice (some ⟨w.heap.size, 0, none⟩) 1 1)) (go_keep)
    (first
      | (go_at_call 43; (with_reducible refine (exC_any _).mono ?_); rintro e wa ⟨⟨A1, c1, A2, c2, A3, c3, rfl, hT⟩, hba'⟩; have hBn : Below w1.heap.size w1 wa := (by first | exact bel_trans hB.out hba' | exact bel_trans hB.out ⟨hba'.os, hba'.tape, hba'.output, hba'.size, hba'.block⟩); clear hba'; have hB := hid hBn; have hqq := hid (HBLK.out.belowS hBn); clear hBn; have z0 := hqq.out.cellAt (i := 0) rfl; have z1 := hqq.out.cellAt (i := 1) rfl; have z2 := hqq.out.cellAt (i := 2) rfl; have z3 := hqq.out.cellAt (i := 3) rfl; have z4 := hqq.out.cellAt (i := 4) rfl; have z5 := hqq.out.cellAt (i := 5) rfl; have z6 := hqq.out.cellAt (i := 6) rfl; have z7 := hqq.out.cellAt (i := 7) rfl)
      | (go_at_call 33; (with_reducible refine (checkEx1 _ _ _ _ _ _ _ _ hT).mono ?_); rintro e wa ⟨rfl, hba'⟩; have hBn : Below w1.heap.size w1 wa := (by first | exact bel_trans hB.out hba' | exact bel_trans hB.out ⟨hba'.os, hba'.tape, hba'.output, hba'.size, hba'.block⟩); clear hba'; have hB := hid hBn; have hqq := hid (HBLK.out.belowS hBn); clear hBn; have z0 := hqq.out.cellAt (i := 0) rfl; have z1 := hqq.out.cellAt (i := 1) rfl; have z2 := hqq.out.cellAt (i := 2) rfl; have z3 := hqq.out.cellAt (i := 3) rfl; have z4 := hqq.out.cellAt (i := 4) rfl; have z5 := hqq.out.cellAt (i := 5) rfl; have z6 := hqq.out.cellAt (i := 6) rfl; have z7 := hqq.out.cellAt (i := 7) rfl)
      | (go_at_call 33; (with_reducible refine (checkEx2 _ _ _ _ _ _ _ _ hT).mono ?_); rintro e wa ⟨rfl, hba'⟩; have hBn : Below w1.heap.size w1 wa := (by first | exact bel_trans hB.out hba' | exact bel_trans hB.out ⟨hba'.os, hba'.tape, hba'.output, hba'.size, hba'.block⟩); clear hba'; have hB := hid hBn; have hqq := hid (HBLK.out.belowS hBn); clear hBn; have z0 := hqq.out.cellAt (i := 0) rfl; have z1 := hqq.out.cellAt (i := 1) rfl; have z2 := hqq.out.cellAt (i := 2) rfl; have z3 := hqq.out.cellAt (i := 3) rfl; have z4 := hqq.out.cellAt (i := 4) rfl; have z5 := hqq.out.cellAt (i := 5) rfl; have z6 := hqq.out.cellAt (i := 6) rfl; have z7 := hqq.out.cellAt (i := 7) rfl)
      | (go_at_call 33; (with_reducible refine (checkEx3 _ _ _ _ _ _ _ _ hT).mono ?_); rintro e wa ⟨rfl, hba'⟩; have hBn : Below w1.heap.size w1 wa := (by first | exact bel_trans hB.out hba' | exact bel_trans hB.out ⟨hba'.os, hba'.tape, hba'.output, hba'.size, hba'.block⟩); clear hba'; have hB := hid hBn; have hqq := hid (HBLK.out.belowS hBn); clear hBn; have z0 := hqq.out.cellAt (i := 0) rfl; have z1 := hqq.out.cellAt (i := 1) rfl; have z2 := hqq.out.cellAt (i := 2) rfl; have z3 := hqq.out.cellAt (i := 3) rfl; have z4 := hqq.out.cellAt (i := 4) rfl; have z5 := hqq.out.cellAt (i := 5) rfl; have z6 := hqq.out.cellAt (i := 6) rfl; have z7 := hqq.out.cellAt (i := 7) rfl))
  have hfin := hid (bel_trans HB1.out hB.out)
  go_wp2_with fail
  go_ret
  exact ⟨rfl, hfin.out⟩
end Go.Proofs.Ythnifgcoikmihaa
