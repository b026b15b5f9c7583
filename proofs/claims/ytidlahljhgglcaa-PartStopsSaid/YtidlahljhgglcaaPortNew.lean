/-
  port.New: a table's channels, each with nothing (under way).
-/
import Derived.Test.YtidlahljhgglcaaPortClone
namespace Go.Proofs.Ytidlahljhgglcaa
open Go.RowKit Go.ChangeShapes Go.WideShapes Go.ChangeAt

theorem tabP_in (t : TabS) (a : TabA) (w : World) : ∃ w1 : World, w.alloc (.cells #[.int .i64 t.frame, .slice a.A1 t.parts.length a.c1, .slice a.A2 t.wins.length a.c2, .slice a.A3 t.chans.length a.c3, .int .i64 t.trial] 38) = w1 ∧ Below w.heap.size w w1 ∧ Blk w1 w.heap.size 38 [.int .i64 t.frame, .slice a.A1 t.parts.length a.c1, .slice a.A2 t.wins.length a.c2, .slice a.A3 t.chans.length a.c3, .int .i64 t.trial] ∧ w1.heap.size = w.heap.size + 1 :=
  ⟨_, rfl, (Below.refl _ _).alloc (Nat.le_refl _) _, Blk.new _ _ _, by simp⟩
theorem New_bad (t : TabS) (a : TabA) (w : World) (h : TabOk w t a) (hR : rightB t = false) :
    Calls Try.prog 14 #[.agg #[.int .i64 t.frame, .slice a.A1 t.parts.length a.c1, .slice a.A2 t.wins.length a.c2, .slice a.A3 t.chans.length a.c3, .int .i64 t.trial]] w fun e w' => e = .returned (.tuple #[.pointer none, .int .i64 9]) ∧ Below w.heap.size w w' := by
  obtain ⟨A1, k1, A2, k2, A3, k3⟩ := a
  simp only
  obtain ⟨w1, hw1, hb1, hblk1, hs1⟩ := tabP_in t ⟨A1, k1, A2, k2, A3, k3⟩ w
  simp only at hw1 hblk1
  have i1 := hid (right_any t ⟨A1, k1, A2, k2, A3, k3⟩ w1 (h.belowS hb1))
  rw [hR] at i1
  simp only at i1
  obtain ⟨c0, c1, c2, c3, c4⟩ : _ ∧ _ ∧ _ ∧ _ ∧ _ := ⟨hblk1.cellAt (i := 0) rfl, hblk1.cellAt (i := 1) rfl, hblk1.cellAt (i := 2) rfl, hblk1.cellAt (i := 3) rfl, hblk1.cellAt (i := 4) rfl⟩
  clear h hR hblk1
  go_enter Try.func14, Try.ntmps14
  go_wp2_with fail
  clear hw1 hs1
  refine i1.out.mono ?_
  rintro e w2 ⟨rfl, hb2⟩
  go_wp2_with fail
  go_ret2
  exact ⟨rfl, bel_trans hb1 hb2⟩

/-- A way that has nothing, as an interface's value, and in memory. -/
def wayV (d : Int) (g : Nat) : Value := if 0 < d then .iface 103 (.pointer (some ⟨g, 0, none⟩)) else .iface 98 (.pointer (some ⟨g, 0, none⟩))
def WayZero (w : World) (g : Nat) (d : Int) : Prop := if 0 < d then Blk w g 105 [.slice none 0 0, .int .i64 d] else LastIn w g 0 false
theorem WayZero.apart {F : Nat → Prop} {w w' : World} {g : Nat} {d : Int} (h : WayZero w g d) (hb : Apart F w w') (hg : ¬ F g) : WayZero w' g d := by
  unfold WayZero at h ⊢
  by_cases hd : 0 < d
  · rw [if_pos hd] at h ⊢; exact h.apart hb hg
  · rw [if_neg hd] at h ⊢; exact Blk.apart h hb hg
theorem WayZero.lt {w : World} {g : Nat} {d : Int} (h : WayZero w g d) : g < w.heap.size := by
  unfold WayZero at h
  by_cases hd : 0 < d
  · rw [if_pos hd] at h; exact h.lt
  · rw [if_neg hd] at h; exact Blk.lt h
end Go.Proofs.Ytidlahljhgglcaa
