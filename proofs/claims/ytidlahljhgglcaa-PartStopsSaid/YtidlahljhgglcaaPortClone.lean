/-
  slices.Clone of channels.
-/
import Derived.Test.YtidlahljhgglcaaPortErr
namespace Go.Proofs.Ytidlahljhgglcaa
open Go.RowKit Go.ChangeShapes Go.WideShapes Go.ChangeAt

theorem info_chanP : (Try.prog.info? 69).map (fun i => (i.zero, i.size, i.bytes)) = some (some (.agg #[.int .i64 0, .int .i64 0, .int .i64 0]), 3, 24) := by kernel_rfl
theorem oneCell_chanP (l : List ChanS) : ∀ u ∈ l.flatMap chanC, u.oneCell' = true := by
  intro u hu
  obtain ⟨x, _, hx⟩ := List.mem_flatMap.1 hu
  simp only [chanC, List.mem_cons, List.not_mem_nil, or_false] at hx
  rcases hx with rfl | rfl | rfl <;> rfl
theorem cloneC_any (A : Option Addr) (n c : Nat) (l : List ChanS) (w : World) (h : Reads w w.heap.size 3 A n (l.flatMap chanC)) (hn : n ≤ 1000000000) :
    Calls Try.prog 45 #[.slice A n c] w fun e w' => ∃ A' c', e = .returned (.slice A' n c') ∧ w'.ownsRow w.heap.size 69 3 (.slice A' n c') n (l.flatMap chanC) ∧ Below w.heap.size w w' := by
  have hnil := fun (W : World) (a : Option Addr) => Lib.run_eql_slice_nil (P := Try.prog) W 36 69 a n c 0 0 Try.underlying36
  obtain ⟨i0, hi0, hz0, hz1, hz2⟩ := info_parts info_chanP
  cases A with
  | none =>
    have hb : n = 0 := by
      by_cases h0 : 0 < n
      · obtain ⟨ad, he, _⟩ := h.form h0
        cases he
      · omega
    subst hb
    have hb : l.flatMap chanC = [] := List.eq_nil_of_length_eq_zero (by simpa using h.len)
    rw [hb]
    clear h hb
    go_enter Try.func45, Try.ntmps45
    go_wp2
    go_ret
    exact ⟨none, 0, rfl, World.ownsRow_nil _ _ _ _, Below.refl _ _⟩
  | some ad =>
    go_enter Try.func45, Try.ntmps45
    go_wp2_with (at_builtin; refine wpList_app _ rfl (.tmp 5) (.tmp 6) _ rfl w.heap.size 69 i0 _ 3 24 Try.underlying36 hi0 hz0 hz1 hz2 rfl (by decide) (.slice (some ⟨w.heap.size, 0, none⟩) 0 0) 0 [] rfl (World.ownsRow_made w _ 0 (Nat.le_refl _) (by simp [maxLen]) rfl) w.heap.size (some ad) n c (l.flatMap chanC) rfl (h.alloc (Nat.le_refl _) _) (oneCell_chanP l) (by simp [maxLen]; omega) (by omega) (by simp) ?_; intro A' c' w' hown hg hb)
    go_ret
    refine ⟨A', c', by simp, by simpa using hown, ?_⟩
    exact below_own ((Below.refl w.heap.size w).alloc (Nat.le_refl _) _) (World.ownsRow_made (size := 3) w _ 0 (Nat.le_refl _) (by simp [maxLen]) rfl) hg (Nat.le_refl _) (by simp)
end Go.Proofs.Ytidlahljhgglcaa
