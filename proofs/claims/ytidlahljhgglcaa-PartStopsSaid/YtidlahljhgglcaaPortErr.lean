/-
  port.Set's Send and Get: what they refuse.
-/
import Derived.Test.YtidlahljhgglcaaPortSet
namespace Go.Proofs.Ytidlahljhgglcaa
open Go.RowKit Go.ChangeShapes Go.WideShapes Go.ChangeAt

theorem send_out (g : Nat) (AE AW : Option Addr) (N cE cW : Nat) (p k v : Int) (w : World) (h : SetBlk w g AE cE AW N cW) (hk : ¬ (0 ≤ k ∧ k < N)) :
    Calls Try.prog 27 #[.pointer (some ⟨g, 0, none⟩), .int .i64 p, .int .i64 k, .int .i64 v] w fun e w' => e = .returned (.tuple #[.bool false, .int .i64 15]) ∧ w' = w := by
  have i1 := hid (there_any g AE AW N cE cW k w h)
  have hf : (decide (0 ≤ k) && decide (k < (N : Int))) = false := by
    rw [Bool.and_eq_false_iff, decide_eq_false_iff_not, decide_eq_false_iff_not]
    omega
  rw [hf] at i1
  clear h hk hf
  go_enter Try.func27, Try.ntmps27
  go_wp2_with fail
  refine i1.out.mono ?_
  rintro e w1 ⟨rfl, rfl⟩
  go_wp2_with fail
  go_ret2
  exact ⟨rfl, by first | trivial | rfl⟩
theorem get_out (g : Nat) (AE AW : Option Addr) (N cE cW : Nat) (p k : Int) (w : World) (h : SetBlk w g AE cE AW N cW) (hk : ¬ (0 ≤ k ∧ k < N)) :
    Calls Try.prog 123 #[.pointer (some ⟨g, 0, none⟩), .int .i64 p, .int .i64 k] w fun e w' => e = .returned (.tuple #[.int .i64 0, .bool false, .int .i64 15]) ∧ w' = w := by
  have i1 := hid (there_any g AE AW N cE cW k w h)
  have hf : (decide (0 ≤ k) && decide (k < (N : Int))) = false := by
    rw [Bool.and_eq_false_iff, decide_eq_false_iff_not, decide_eq_false_iff_not]
    omega
  rw [hf] at i1
  clear h hk hf
  go_enter Try.func123, Try.ntmps123
  go_wp2_with fail
  refine i1.out.mono ?_
  rintro e w1 ⟨rfl, rfl⟩
  go_wp2_with fail
  refine bodyPost_ret (v := .tuple #[.int .i64 0, .bool false, .int .i64 15]) (by simp [results, Try.results123, go_sem]) rfl ?_
  exact ⟨rfl, by first | trivial | rfl⟩
theorem send_src (g : Nat) (adE adW : Addr) (N cE cW k : Nat) (src p v : Int) (w : World) (h : SetBlk w g (some adE) cE (some adW) N cW) (hk : k < N) (hs : w.cell? (adE.add (k * 3)) = some (.int .i64 src)) (hp : src ≠ p) :
    Calls Try.prog 27 #[.pointer (some ⟨g, 0, none⟩), .int .i64 p, .int .i64 (k : Int), .int .i64 v] w fun e w' => e = .returned (.tuple #[.bool false, .int .i64 15]) ∧ w' = w := by
  have c0 : w.cell? ⟨g, 0, none⟩ = some (.slice (some adE) N cE) := Blk.cellAt h rfl
  have c1 : w.cell? ⟨g, 1, none⟩ = some (.slice (some adW) N cW) := Blk.cellAt h rfl
  have i1 := hid (there_any g (some adE) (some adW) N cE cW (k : Int) w h)
  rw [decide_eq_true (show (0 : Int) ≤ (k : Int) by omega), decide_eq_true (show (k : Int) < (N : Int) by omega)] at i1
  have k0 : (0 : Int) ≤ (k : Int) := Int.natCast_nonneg _
  have k1 : (k : Int) < (N : Int) := by omega
  have z0 : (src != p) = true := by simpa using hp
  clear h hk hp
  go_enter Try.func27, Try.ntmps27
  go_wp2_with fail
  refine i1.out.mono ?_
  rintro e w1 ⟨rfl, rfl⟩
  go_wp2_with fail
  go_ret2
  exact ⟨rfl, by first | trivial | rfl⟩
theorem get_dst (g : Nat) (adE adW : Addr) (N cE cW k : Nat) (dst p : Int) (w : World) (h : SetBlk w g (some adE) cE (some adW) N cW) (hk : k < N) (hs : w.cell? ⟨(adE.add (k * 3)).block, (adE.add (k * 3)).off + 1, none⟩ = some (.int .i64 dst)) (hp : dst ≠ p) :
    Calls Try.prog 123 #[.pointer (some ⟨g, 0, none⟩), .int .i64 p, .int .i64 (k : Int)] w fun e w' => e = .returned (.tuple #[.int .i64 0, .bool false, .int .i64 15]) ∧ w' = w := by
  have c0 : w.cell? ⟨g, 0, none⟩ = some (.slice (some adE) N cE) := Blk.cellAt h rfl
  have c1 : w.cell? ⟨g, 1, none⟩ = some (.slice (some adW) N cW) := Blk.cellAt h rfl
  have i1 := hid (there_any g (some adE) (some adW) N cE cW (k : Int) w h)
  rw [decide_eq_true (show (0 : Int) ≤ (k : Int) by omega), decide_eq_true (show (k : Int) < (N : Int) by omega)] at i1
  have k0 : (0 : Int) ≤ (k : Int) := Int.natCast_nonneg _
  have k1 : (k : Int) < (N : Int) := by omega
  have z0 : (dst != p) = true := by simpa using hp
  clear h hk hp
  go_enter Try.func123, Try.ntmps123
  go_wp2_with fail
  refine i1.out.mono ?_
  rintro e w1 ⟨rfl, rfl⟩
  go_wp2_with fail
  refine bodyPost_ret (v := .tuple #[.int .i64 0, .bool false, .int .i64 15]) (by simp [results, Try.results123, go_sem]) rfl ?_
  exact ⟨rfl, by first | trivial | rfl⟩
theorem send_range (g : Nat) (adE adW : Addr) (N cE cW k : Nat) (src v : Int) (w : World) (h : SetBlk w g (some adE) cE (some adW) N cW) (hk : k < N) (hs : w.cell? (adE.add (k * 3)) = some (.int .i64 src)) (hv : v < 0 ∨ 65535 < v) :
    Calls Try.prog 27 #[.pointer (some ⟨g, 0, none⟩), .int .i64 src, .int .i64 (k : Int), .int .i64 v] w fun e w' => e = .returned (.tuple #[.bool false, .int .i64 3]) ∧ w' = w := by
  have c0 : w.cell? ⟨g, 0, none⟩ = some (.slice (some adE) N cE) := Blk.cellAt h rfl
  have c1 : w.cell? ⟨g, 1, none⟩ = some (.slice (some adW) N cW) := Blk.cellAt h rfl
  have i1 := hid (there_any g (some adE) (some adW) N cE cW (k : Int) w h)
  rw [decide_eq_true (show (0 : Int) ≤ (k : Int) by omega), decide_eq_true (show (k : Int) < (N : Int) by omega)] at i1
  have k0 : (0 : Int) ≤ (k : Int) := Int.natCast_nonneg _
  have k1 : (k : Int) < (N : Int) := by omega
  clear h hk
  by_cases h0 : v < 0
  · have y0 : decide (v < 0) = true := decide_eq_true h0
    clear h0 hv
    go_enter Try.func27, Try.ntmps27
    go_wp2_with fail
    refine i1.out.mono ?_
    rintro e w1 ⟨rfl, rfl⟩
    go_wp2_with fail
    go_ret2
    exact ⟨rfl, by first | trivial | rfl⟩
  · have y0 : decide (v < 0) = false := decide_eq_false h0
    have y1 : decide ((65535 : Int) < v) = true := decide_eq_true (by omega)
    clear h0 hv
    go_enter Try.func27, Try.ntmps27
    go_wp2_with fail
    refine i1.out.mono ?_
    rintro e w1 ⟨rfl, rfl⟩
    go_wp2_with fail
    go_ret2
    exact ⟨rfl, by first | trivial | rfl⟩
end Go.Proofs.Ytidlahljhgglcaa
