/-
  port.Set's Has and Len, on both kinds of channels; a channel that is not there.
-/
import Derived.Test.YtidlahljhgglcaaPortSet
namespace Go.Proofs.Ytidlahljhgglcaa
open Go.RowKit Go.ChangeShapes Go.WideShapes Go.ChangeAt

theorem has_out (g : Nat) (AE AW : Option Addr) (n cE cW : Nat) (k : Int) (w : World) (h : SetBlk w g AE cE AW n cW) (hk : ¬ (0 ≤ k ∧ k < n)) :
    Calls Try.prog 30 #[.pointer (some ⟨g, 0, none⟩), .int .i64 k] w fun e w' => e = .returned (.slice none 0 0) ∧ w' = w := by
  have i1 := hid (there_any g AE AW n cE cW k w h)
  have hf : (decide (0 ≤ k) && decide (k < (n : Int))) = false := by
    rw [Bool.and_eq_false_iff, decide_eq_false_iff_not, decide_eq_false_iff_not]
    omega
  rw [hf] at i1
  clear h hk hf
  go_enter Try.func30, Try.ntmps30
  go_wp2_with fail
  refine i1.out.mono ?_
  rintro e w1 ⟨rfl, rfl⟩
  go_wp2_with fail
  go_ret
  exact ⟨rfl, by first | trivial | rfl⟩
theorem hasRow_any (g : Nat) (AE : Option Addr) (adW : Addr) (N cE cW k : Nat) (gr : Nat) (A : Option Addr) (c : Nat) (l : List Int) (d : Nat) (w : World) (h : SetBlk w g AE cE (some adW) N cW) (hk : k < N)
    (hw : w.cell? (adW.add k) = some (.iface 103 (.pointer (some ⟨gr, 0, none⟩)))) (hr : RowIn w gr A c l d) (hm : l.length ≤ 100000) :
    Calls Try.prog 30 #[.pointer (some ⟨g, 0, none⟩), .int .i64 (k : Int)] w fun e w' => ∃ A' c', e = .returned (.slice A' l.length c') ∧ Reads w' w'.heap.size 1 A' l.length (l.map iV) ∧ Below w.heap.size w w' := by
  have c1 : w.cell? ⟨g, 1, none⟩ = some (.slice (some adW) N cW) := Blk.cellAt h rfl
  have i1 := hid (there_any g AE (some adW) N cE cW (k : Int) w h)
  rw [decide_eq_true (show (0 : Int) ≤ (k : Int) by omega), decide_eq_true (show (k : Int) < (N : Int) by omega)] at i1
  have i2 := hid (rowAll_any gr A c l d w hr hm)
  have k0 : (0 : Int) ≤ (k : Int) := Int.natCast_nonneg _
  have k1 : (k : Int) < (N : Int) := by omega
  clear h hr hk hm
  go_enter Try.func30, Try.ntmps30
  go_wp2_with fail
  refine i1.out.mono ?_
  rintro e w1 ⟨rfl, rfl⟩
  go_wp2_with fail
  refine i2.out.mono ?_
  rintro e w2 ⟨A', c', rfl, hown, hb⟩
  go_wp2_with fail
  go_ret
  exact ⟨A', c', rfl, Reads.of_own hown, hb⟩
theorem hasLast_any (g : Nat) (AE : Option Addr) (adW : Addr) (N cE cW k : Nat) (gr : Nat) (m : Int) (is : Bool) (w : World) (h : SetBlk w g AE cE (some adW) N cW) (hk : k < N)
    (hw : w.cell? (adW.add k) = some (.iface 98 (.pointer (some ⟨gr, 0, none⟩)))) (hr : LastIn w gr m is) :
    Calls Try.prog 30 #[.pointer (some ⟨g, 0, none⟩), .int .i64 (k : Int)] w fun e w' => ∃ A' c', e = .returned (.slice A' (lastL m is).length c') ∧ Reads w' w'.heap.size 1 A' (lastL m is).length ((lastL m is).map iV) ∧ Below w.heap.size w w' := by
  have c1 : w.cell? ⟨g, 1, none⟩ = some (.slice (some adW) N cW) := Blk.cellAt h rfl
  have i1 := hid (there_any g AE (some adW) N cE cW (k : Int) w h)
  rw [decide_eq_true (show (0 : Int) ≤ (k : Int) by omega), decide_eq_true (show (k : Int) < (N : Int) by omega)] at i1
  have i2 := hid (lastAll_any gr m is w hr)
  generalize lastL m is = L at i2 ⊢
  have k0 : (0 : Int) ≤ (k : Int) := Int.natCast_nonneg _
  have k1 : (k : Int) < (N : Int) := by omega
  clear h hr hk
  go_enter Try.func30, Try.ntmps30
  go_wp2_with fail
  refine i1.out.mono ?_
  rintro e w1 ⟨rfl, rfl⟩
  go_wp2_with fail
  refine i2.out.mono ?_
  rintro e w2 ⟨A', c', rfl, hrd, hb⟩
  go_wp2_with fail
  go_ret
  exact ⟨A', c', rfl, hrd, hb⟩
end Go.Proofs.Ytidlahljhgglcaa
