/-
  Package longeronlaw05: the example, wakes, long.
-/
import Derived.Test.YtbnodcenlggcnaaTabW
import Derived.Handy
namespace Go.Proofs.Ytbnodcenlggcnaa
open Go.RowKit

theorem rds_two {α : Type} {w : World} {g : Nat} {T : TypeId} {cells : α → List Value} {x y : α} (h : Blk w g T (cells x ++ cells y)) (hx : (cells x).length = 3) : RdS w w.heap.size 3 (some ⟨g, 0, none⟩) 2 cells [x, y] := by
  refine ⟨rfl, fun k z hk => ⟨_, rfl, h.lt, fun j u hu => ?_⟩⟩
  rw [add_none]
  have : k = 0 ∨ k = 1 := by have := (List.getElem?_eq_some_iff.1 hk).1; simp at this; omega
  rcases this with rfl | rfl
  · simp at hk
    subst hk
    refine h.cellAt ?_
    rw [List.getElem?_append_left (by have := (List.getElem?_eq_some_iff.1 hu).1; omega)]
    simpa using hu
  · simp at hk
    subst hk
    refine h.cellAt ?_
    rw [List.getElem?_append_right (by omega), hx, ← hu]
    congr 1
    omega
def exT : TabS := ⟨10, [⟨1, 1, 0⟩, ⟨1, 1, 0⟩], [⟨0, 0, 4⟩, ⟨1, 5, 5⟩], [], 1⟩
theorem example_any (w : World) :
    Calls Try.prog 41 #[] w fun e w' => (∃ A1 c1 A2 c2, e = .returned (.agg #[.int .i64 10, .slice A1 2 c1, .slice A2 2 c2, .slice none 0 0, .int .i64 1]) ∧ TabOk w' exT ⟨A1, c1, A2, c2, none, 0⟩) ∧ Below w.heap.size w w' := by
  go_enter Try.func41, Try.ntmps41
  go_wp2_with fail
  go_returns
  refine ⟨⟨_, _, _, _, rfl, ⟨⟨?_, ?_, RdS.nil⟩, by simp [exT], by simp [exT], by simp [exT], by simp [exT], by simp [exT]⟩⟩, ((((Below.refl _ _).alloc (Nat.le_refl _) _).alloc (by first | (simp; done) | (simp; omega)) _).alloc (by first | (simp; done) | (simp; omega)) _).alloc (by first | (simp; done) | (simp; omega)) _⟩
  · refine rds_two (T := 77) (Blk.alloc ?_ _) rfl
    have := Blk.new ((w.alloc (.cells #[.int .i64 10, .slice (some ⟨w.heap.size + 1 + 1, 0, none⟩) 2 2, .slice (some ⟨w.heap.size + 1 + 1 + 1, 0, none⟩) 2 2, .slice none 0 0, .int .i64 1] 26)).alloc (.cells #[.int .i64 1, .int .i64 1, .int .i64 0] 77)) 77 (partC ⟨1, 1, 0⟩ ++ partC ⟨1, 1, 0⟩)
    simpa [partC, iV] using this
  · refine rds_two (T := 30) ?_ rfl
    have := Blk.new (((w.alloc (.cells #[.int .i64 10, .slice (some ⟨w.heap.size + 1 + 1, 0, none⟩) 2 2, .slice (some ⟨w.heap.size + 1 + 1 + 1, 0, none⟩) 2 2, .slice none 0 0, .int .i64 1] 26)).alloc (.cells #[.int .i64 1, .int .i64 1, .int .i64 0] 77)).alloc (.cells (partC ⟨1, 1, 0⟩ ++ partC ⟨1, 1, 0⟩).toArray 77)) 30 (winC ⟨0, 0, 4⟩ ++ winC ⟨1, 5, 5⟩)
    simpa [partC, winC, iV] using this
theorem ex4 : windowB exT 4 = -1 := by decide
theorem ex5 : windowB exT 5 = 1 := by decide
theorem wakes_any (w : World) :
    Calls Try.prog 15 #[] w fun e w' => e = .returned (.bool true) ∧ Below w.heap.size w w' := by
  go_enter Try.func15, Try.ntmps15
  go_wp2_with fail
  refine (example_any _).mono ?_
  rintro e w1 ⟨⟨A1, c1, A2, c2, rfl, hT⟩, hb1⟩
  have i1 := hid (window_any exT ⟨A1, c1, A2, c2, none, 0⟩ 4 w1 hT)
  clear hT
  go_wp2_with fail
  refine i1.out.mono ?_
  rintro e w2 ⟨rfl, hb2⟩
  rw [ex4]
  clear i1
  go_wp2_with fail
  refine (example_any _).mono ?_
  rintro e w3 ⟨⟨B1, d1, B2, d2, rfl, hT⟩, hb3⟩
  have i1 := hid (window_any exT ⟨B1, d1, B2, d2, none, 0⟩ 5 w3 hT)
  clear hT
  go_wp2_with fail
  refine i1.out.mono ?_
  rintro e w4 ⟨rfl, hb4⟩
  rw [ex5]
  clear i1
  go_wp2_with fail
  go_ret
  exact ⟨rfl, bel_trans (bel_trans (bel_trans hb1 hb2) hb3) hb4⟩
def longB (t : TabS) : Bool := decide (20 < t.parts.length) || decide (40 < t.wins.length) || decide (20 < t.chans.length)
theorem long_any (t : TabS) (a : TabA) (w : World) (l1 : t.parts.length ≤ 9223372036854775807) (l2 : t.wins.length ≤ 9223372036854775807) (l3 : t.chans.length ≤ 9223372036854775807) :
    Calls Try.prog 16 #[.agg #[.int .i64 t.frame, .slice a.A1 t.parts.length a.c1, .slice a.A2 t.wins.length a.c2, .slice a.A3 t.chans.length a.c3, .int .i64 t.trial]] w fun e w' => e = .returned (.bool (longB t)) ∧ Below w.heap.size w w' := by
  obtain ⟨frame, parts, wins, chans, trial⟩ := t
  obtain ⟨A1, c1, A2, c2, A3, c3⟩ := a
  simp only at l1 l2 l3 ⊢
  unfold longB
  simp only
  generalize parts.length = n1 at l1 ⊢
  generalize wins.length = n2 at l2 ⊢
  generalize chans.length = n3 at l3 ⊢
  have hb : Below w.heap.size w (w.alloc (.cells #[.int .i64 frame, .slice A1 n1 c1, .slice A2 n2 c2, .slice A3 n3 c3, .int .i64 trial] 26)) := (Below.refl _ _).alloc (Nat.le_refl _) _
  by_cases h1 : 20 < n1
  · have hr : (decide (20 < n1) || decide (40 < n2) || decide (20 < n3)) = true := by simp [h1]
    rw [hr]
    clear hr
    go_enter Try.func16, Try.ntmps16
    go_wp2_with fail
    go_ret
    exact ⟨rfl, hb⟩
  · by_cases h2 : 40 < n2
    · have hr : (decide (20 < n1) || decide (40 < n2) || decide (20 < n3)) = true := by simp [h2]
      rw [hr]
      clear hr
      go_enter Try.func16, Try.ntmps16
      go_wp2_with fail
      go_ret
      exact ⟨rfl, hb⟩
    · by_cases h3 : 20 < n3
      · have hr : (decide (20 < n1) || decide (40 < n2) || decide (20 < n3)) = true := by simp [h3]
        rw [hr]
        clear hr
        go_enter Try.func16, Try.ntmps16
        go_wp2_with fail
        go_ret
        exact ⟨ret_bool (by simp; omega), hb⟩
      · have hr : (decide (20 < n1) || decide (40 < n2) || decide (20 < n3)) = false := by simp; omega
        rw [hr]
        clear hr
        go_enter Try.func16, Try.ntmps16
        go_wp2_with fail
        go_ret
        exact ⟨ret_bool (by simp; omega), hb⟩
end Go.Proofs.Ytbnodcenlggcnaa
