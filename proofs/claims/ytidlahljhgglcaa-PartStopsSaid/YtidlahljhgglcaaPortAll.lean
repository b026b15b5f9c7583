/-
  The two kinds of channels: what they have, and how they are emptied.
-/
import Derived.Test.YtidlahljhgglcaaPortRow
import Derived.Deep.AppendLies
namespace Go.Proofs.Ytidlahljhgglcaa
open Go.RowKit Go.ChangeShapes Go.WideShapes Go.ChangeAt

theorem oneCell_is (l : List Int) : ∀ u ∈ l.map iV, u.oneCell' = true := by intro u hu; obtain ⟨b, _, rfl⟩ := List.mem_map.1 hu; rfl
theorem cloneI_any (A : Option Addr) (n c : Nat) (l : List Int) (w : World) (h : Reads w w.heap.size 1 A n (l.map iV)) (hn : n ≤ 1000000000) :
    Calls Try.prog 46 #[.slice A n c] w fun e w' => ∃ A' c', e = .returned (.slice A' n c') ∧ w'.ownsRow w.heap.size 3 1 (.slice A' n c') n (l.map iV) ∧ Below w.heap.size w w' := by
  have hnil := fun (W : World) (a : Option Addr) => Lib.run_eql_slice_nil (P := Try.prog) W 40 3 a n c 0 0 Try.underlying40
  obtain ⟨i0, hi0, hz0, hz1, hz2⟩ := info_parts info_int
  cases A with
  | none =>
    have hb : n = 0 := by
      by_cases h0 : 0 < n
      · obtain ⟨ad, he, _⟩ := h.form h0
        cases he
      · omega
    subst hb
    have hb : l = [] := List.eq_nil_of_length_eq_zero (by simpa using h.len)
    subst hb
    clear h
    go_enter Try.func46, Try.ntmps46
    go_wp2
    go_ret
    exact ⟨none, 0, rfl, World.ownsRow_nil _ _ _ _, Below.refl _ _⟩
  | some ad =>
    go_enter Try.func46, Try.ntmps46
    go_wp2_with (at_builtin; refine wpList_app _ rfl (.tmp 5) (.tmp 6) _ rfl w.heap.size 3 i0 _ 1 8 Try.underlying40 hi0 hz0 hz1 hz2 rfl (by decide) (.slice (some ⟨w.heap.size, 0, none⟩) 0 0) 0 [] rfl (World.ownsRow_made w _ 0 (Nat.le_refl _) (by simp [maxLen]) rfl) w.heap.size (some ad) n c (l.map iV) rfl (h.alloc (Nat.le_refl _) _) (oneCell_is l) (by simp [maxLen]; omega) (by omega) (by simp) ?_; intro A' c' w' hown hg hb)
    go_ret
    refine ⟨A', c', by simp, by simpa using hown, ?_⟩
    exact below_own ((Below.refl w.heap.size w).alloc (Nat.le_refl _) _) (World.ownsRow_made (size := 1) w _ 0 (Nat.le_refl _) (by simp [maxLen]) rfl) hg (Nat.le_refl _) (by simp)
theorem rowAll_any (g : Nat) (A : Option Addr) (c : Nat) (l : List Int) (d : Nat) (w : World) (h : RowIn w g A c l d) (hm : l.length ≤ 100000) :
    Calls Try.prog 129 #[.pointer (some ⟨g, 0, none⟩)] w fun e w' => ∃ A' c', e = .returned (.slice A' l.length c') ∧ w'.ownsRow w.heap.size 3 1 (.slice A' l.length c') l.length (l.map iV) ∧ Below w.heap.size w w' := by
  have c0 : w.cell? ⟨g, 0, none⟩ = some (.slice A l.length c) := h.blk.cellAt rfl
  have i1 := hid (cloneI_any A l.length c l w h.row.reads (by omega))
  clear h
  go_enter Try.func129, Try.ntmps129
  go_wp2_with fail
  refine i1.out.mono ?_
  rintro e w1 ⟨A1, c1, rfl, hown, hb⟩
  go_wp2_with fail
  go_ret
  exact ⟨A1, c1, rfl, hown, hb⟩
def lastL (n : Int) (is : Bool) : List Int := if is then [n] else []
theorem lastAll_any (g : Nat) (n : Int) (is : Bool) (w : World) (h : LastIn w g n is) :
    Calls Try.prog 125 #[.pointer (some ⟨g, 0, none⟩)] w fun e w' => ∃ A' c', e = .returned (.slice A' (lastL n is).length c') ∧ Reads w' w'.heap.size 1 A' (lastL n is).length ((lastL n is).map iV) ∧ Below w.heap.size w w' := by
  have c0 : w.cell? ⟨g, 0, none⟩ = some (.int .i64 n) := Blk.cellAt h rfl
  have c1 : w.cell? ⟨g, 1, none⟩ = some (.bool is) := Blk.cellAt h rfl
  clear h
  cases is with
  | true =>
    go_enter Try.func125, Try.ntmps125
    go_wp2_with fail
    go_ret
    have hr := Reads.new w #[.int .i64 n] 3 1 rfl
    exact ⟨some ⟨w.heap.size, 0, none⟩, 1, rfl, hr.more (by simp), (Below.refl _ _).alloc (Nat.le_refl _) _⟩
  | false =>
    go_enter Try.func125, Try.ntmps125
    go_wp2_with fail
    go_ret
    exact ⟨none, 0, rfl, Reads.empty, Below.refl _ _⟩
end Go.Proofs.Ytidlahljhgglcaa
