/-
  Channels between partitions: the set in memory; there, Send.
-/
import Derived.Test.YtidlahljhgglcaaPortGet
namespace Go.Proofs.Ytidlahljhgglcaa
open Go.RowKit Go.ChangeShapes Go.WideShapes Go.ChangeAt

/-- The set's own block. -/
def SetBlk (w : World) (g : Nat) (AE : Option Addr) (cE : Nat) (AW : Option Addr) (n cW : Nat) : Prop := Blk w g 97 [.slice AE n cE, .slice AW n cW]
theorem there_any (g : Nat) (AE AW : Option Addr) (n cE cW : Nat) (k : Int) (w : World) (h : SetBlk w g AE cE AW n cW) :
    Calls Try.prog 55 #[.pointer (some ⟨g, 0, none⟩), .int .i64 k] w fun e w' => e = .returned (.bool (decide (0 ≤ k) && decide (k < n))) ∧ w' = w := by
  have c1 : w.cell? ⟨g, 1, none⟩ = some (.slice AW n cW) := Blk.cellAt h rfl
  clear h
  go_enter Try.func55, Try.ntmps55
  by_cases h0 : 0 ≤ k
  · have y0 : decide (0 ≤ k) = true := decide_eq_true h0
    by_cases h1 : k < n
    · have y1 : decide (k < (n : Int)) = true := decide_eq_true h1
      have hr : Hid ((decide (0 ≤ k) && decide (k < (n : Int))) = true) := hid (by rw [y0, y1]; rfl)
      clear h0 h1
      go_wp2_with fail
      go_ret
      exact ⟨by rw [hr.out]; rfl, by first | trivial | rfl⟩
    · have y1 : decide (k < (n : Int)) = false := decide_eq_false h1
      have hr : Hid ((decide (0 ≤ k) && decide (k < (n : Int))) = false) := hid (by rw [y0, y1]; rfl)
      clear h0 h1
      go_wp2_with fail
      go_ret
      exact ⟨by rw [hr.out]; rfl, by first | trivial | rfl⟩
  · have y0 : decide (0 ≤ k) = false := decide_eq_false h0
    have hr : Hid ((decide (0 ≤ k) && decide (k < (n : Int))) = false) := hid (by rw [y0]; rfl)
    clear h0
    go_wp2_with fail
    go_ret
    exact ⟨by rw [hr.out]; rfl, by first | trivial | rfl⟩

set_option maxRecDepth 100000 in
theorem sendRow_ok (g : Nat) (adE adW : Addr) (N cE cW k : Nat) (src v : Int) (gr : Nat) (A : Option Addr) (c : Nat) (l : List Int) (d : Nat) (w : World) (h : SetBlk w g (some adE) cE (some adW) N cW) (hk : k < N)
    (hs : w.cell? (adE.add (k * 3)) = some (.int .i64 src)) (hw : w.cell? (adW.add k) = some (.iface 103 (.pointer (some ⟨gr, 0, none⟩)))) (hr : RowIn w gr A c l d) (hl : l.length ≠ d) (hm : l.length ≤ 100000) (hv0 : 0 ≤ v) (hv1 : v ≤ 65535) :
    Calls Try.prog 27 #[.pointer (some ⟨g, 0, none⟩), .int .i64 src, .int .i64 (k : Int), .int .i64 v] w fun e w' => e = .returned (.tuple #[.bool true, .int .i64 0]) ∧ ∃ A' c', RowIn w' gr A' c' (l ++ [v]) d ∧ Apart (fun b => b = gr ∨ Foot A b) w w' ∧ ∀ b, Foot A' b → Foot A b ∨ w.heap.size ≤ b := by
  have c0 : w.cell? ⟨g, 0, none⟩ = some (.slice (some adE) N cE) := Blk.cellAt h rfl
  have c1 : w.cell? ⟨g, 1, none⟩ = some (.slice (some adW) N cW) := Blk.cellAt h rfl
  have i1 := hid (there_any g (some adE) (some adW) N cE cW (k : Int) w h)
  rw [decide_eq_true (show (0 : Int) ≤ (k : Int) by omega), decide_eq_true (show (k : Int) < (N : Int) by omega)] at i1
  have i2 := hid (rowSend_ok gr A c l d v w hr hl hm)
  have y0 : decide (v < 0) = false := decide_eq_false (by omega)
  have y1 : decide ((65535 : Int) < v) = false := decide_eq_false (by omega)
  have k0 : (0 : Int) ≤ (k : Int) := Int.natCast_nonneg _
  have k1 : (k : Int) < (N : Int) := by omega
  clear h hr hv0 hv1 hk
  go_enter Try.func27, Try.ntmps27
  go_wp2_with fail
  refine i1.out.mono ?_
  rintro e w1 ⟨rfl, rfl⟩
  go_wp2_with fail
  refine i2.out.mono ?_
  rintro e w2 ⟨rfl, hp⟩
  go_wp2_with fail
  go_ret2
  exact ⟨rfl, hp⟩
set_option maxRecDepth 100000 in
theorem sendRow_full (g : Nat) (adE adW : Addr) (N cE cW k : Nat) (src v : Int) (gr : Nat) (A : Option Addr) (c : Nat) (l : List Int) (d : Nat) (w : World) (h : SetBlk w g (some adE) cE (some adW) N cW) (hk : k < N)
    (hs : w.cell? (adE.add (k * 3)) = some (.int .i64 src)) (hw : w.cell? (adW.add k) = some (.iface 103 (.pointer (some ⟨gr, 0, none⟩)))) (hr : RowIn w gr A c l d) (hl : l.length = d) (hv0 : 0 ≤ v) (hv1 : v ≤ 65535) :
    Calls Try.prog 27 #[.pointer (some ⟨g, 0, none⟩), .int .i64 src, .int .i64 (k : Int), .int .i64 v] w fun e w' => e = .returned (.tuple #[.bool false, .int .i64 0]) ∧ ∃ q, w' = w.drewN q := by
  have c0 : w.cell? ⟨g, 0, none⟩ = some (.slice (some adE) N cE) := Blk.cellAt h rfl
  have c1 : w.cell? ⟨g, 1, none⟩ = some (.slice (some adW) N cW) := Blk.cellAt h rfl
  have i1 := hid (there_any g (some adE) (some adW) N cE cW (k : Int) w h)
  rw [decide_eq_true (show (0 : Int) ≤ (k : Int) by omega), decide_eq_true (show (k : Int) < (N : Int) by omega)] at i1
  have i2 := hid (rowSend_full gr A c l d v w hr hl)
  have y0 : decide (v < 0) = false := decide_eq_false (by omega)
  have y1 : decide ((65535 : Int) < v) = false := decide_eq_false (by omega)
  have k0 : (0 : Int) ≤ (k : Int) := Int.natCast_nonneg _
  have k1 : (k : Int) < (N : Int) := by omega
  clear h hr hv0 hv1 hk
  go_enter Try.func27, Try.ntmps27
  go_wp2_with fail
  refine i1.out.mono ?_
  rintro e w1 ⟨rfl, rfl⟩
  go_wp2_with fail
  refine i2.out.mono ?_
  rintro e w2 ⟨rfl, hp⟩
  go_wp2_with fail
  go_ret2
  exact ⟨rfl, hp⟩
set_option maxRecDepth 100000 in
theorem sendLast_any (g : Nat) (adE adW : Addr) (N cE cW k : Nat) (src v : Int) (gr : Nat) (m : Int) (is : Bool) (w : World) (h : SetBlk w g (some adE) cE (some adW) N cW) (hk : k < N)
    (hs : w.cell? (adE.add (k * 3)) = some (.int .i64 src)) (hw : w.cell? (adW.add k) = some (.iface 98 (.pointer (some ⟨gr, 0, none⟩)))) (hr : LastIn w gr m is) (hv0 : 0 ≤ v) (hv1 : v ≤ 65535) :
    Calls Try.prog 27 #[.pointer (some ⟨g, 0, none⟩), .int .i64 src, .int .i64 (k : Int), .int .i64 v] w fun e w' => e = .returned (.tuple #[.bool true, .int .i64 0]) ∧ LastIn w' gr v true ∧ Apart (fun b => b = gr) w w' := by
  have c0 : w.cell? ⟨g, 0, none⟩ = some (.slice (some adE) N cE) := Blk.cellAt h rfl
  have c1 : w.cell? ⟨g, 1, none⟩ = some (.slice (some adW) N cW) := Blk.cellAt h rfl
  have i1 := hid (there_any g (some adE) (some adW) N cE cW (k : Int) w h)
  rw [decide_eq_true (show (0 : Int) ≤ (k : Int) by omega), decide_eq_true (show (k : Int) < (N : Int) by omega)] at i1
  have i2 := hid (lastSend_any gr m v is w hr)
  have y0 : decide (v < 0) = false := decide_eq_false (by omega)
  have y1 : decide ((65535 : Int) < v) = false := decide_eq_false (by omega)
  have k0 : (0 : Int) ≤ (k : Int) := Int.natCast_nonneg _
  have k1 : (k : Int) < (N : Int) := by omega
  clear h hr hv0 hv1 hk
  go_enter Try.func27, Try.ntmps27
  go_wp2_with fail
  refine i1.out.mono ?_
  rintro e w1 ⟨rfl, rfl⟩
  go_wp2_with fail
  refine i2.out.mono ?_
  rintro e w2 ⟨rfl, hp⟩
  go_wp2_with fail
  go_ret2
  exact ⟨rfl, hp⟩
set_option maxRecDepth 100000 in
theorem getRow_no (g : Nat) (adE adW : Addr) (N cE cW k : Nat) (dst : Int) (gr : Nat) (A : Option Addr) (c : Nat) (d : Nat) (w : World) (h : SetBlk w g (some adE) cE (some adW) N cW) (hk : k < N)
    (hs : w.cell? ⟨(adE.add (k * 3)).block, (adE.add (k * 3)).off + 1, none⟩ = some (.int .i64 dst)) (hw : w.cell? (adW.add k) = some (.iface 103 (.pointer (some ⟨gr, 0, none⟩)))) (hr : RowIn w gr A c [] d) :
    Calls Try.prog 123 #[.pointer (some ⟨g, 0, none⟩), .int .i64 dst, .int .i64 (k : Int)] w fun e w' => e = .returned (.tuple #[.int .i64 0, .bool false, .int .i64 0]) ∧ w' = w := by
  have c0 : w.cell? ⟨g, 0, none⟩ = some (.slice (some adE) N cE) := Blk.cellAt h rfl
  have c1 : w.cell? ⟨g, 1, none⟩ = some (.slice (some adW) N cW) := Blk.cellAt h rfl
  have i1 := hid (there_any g (some adE) (some adW) N cE cW (k : Int) w h)
  rw [decide_eq_true (show (0 : Int) ≤ (k : Int) by omega), decide_eq_true (show (k : Int) < (N : Int) by omega)] at i1
  have i2 := hid (rowGet_no gr A c d w hr)
  have k0 : (0 : Int) ≤ (k : Int) := Int.natCast_nonneg _
  have k1 : (k : Int) < (N : Int) := by omega
  clear h hr hk
  go_enter Try.func123, Try.ntmps123
  go_wp2_with fail
  refine i1.out.mono ?_
  rintro e w1 ⟨rfl, rfl⟩
  go_wp2_with fail
  refine i2.out.mono ?_
  rintro e w2 ⟨rfl, rfl⟩
  go_wp2_with fail
  refine bodyPost_ret (v := .tuple #[.int .i64 0, .bool false, .int .i64 0]) (by simp [results, Try.results123, go_sem]) rfl ?_
  exact ⟨rfl, by first | trivial | rfl⟩
set_option maxRecDepth 100000 in
theorem getRow_yes (g : Nat) (adE adW : Addr) (N cE cW k : Nat) (dst : Int) (gr : Nat) (A : Option Addr) (c : Nat) (x : Int) (l : List Int) (d : Nat) (w : World) (h : SetBlk w g (some adE) cE (some adW) N cW) (hk : k < N)
    (hs : w.cell? ⟨(adE.add (k * 3)).block, (adE.add (k * 3)).off + 1, none⟩ = some (.int .i64 dst)) (hw : w.cell? (adW.add k) = some (.iface 103 (.pointer (some ⟨gr, 0, none⟩)))) (hr : RowIn w gr A c (x :: l) d) :
    Calls Try.prog 123 #[.pointer (some ⟨g, 0, none⟩), .int .i64 dst, .int .i64 (k : Int)] w fun e w' => e = .returned (.tuple #[.int .i64 x, .bool true, .int .i64 0]) ∧ RowIn w' gr A c l d ∧ Apart (fun b => b = gr ∨ Foot A b) w w' := by
  have c0 : w.cell? ⟨g, 0, none⟩ = some (.slice (some adE) N cE) := Blk.cellAt h rfl
  have c1 : w.cell? ⟨g, 1, none⟩ = some (.slice (some adW) N cW) := Blk.cellAt h rfl
  have i1 := hid (there_any g (some adE) (some adW) N cE cW (k : Int) w h)
  rw [decide_eq_true (show (0 : Int) ≤ (k : Int) by omega), decide_eq_true (show (k : Int) < (N : Int) by omega)] at i1
  have i2 := hid (rowGet_yes gr A c x l d w hr)
  have k0 : (0 : Int) ≤ (k : Int) := Int.natCast_nonneg _
  have k1 : (k : Int) < (N : Int) := by omega
  clear h hr hk
  go_enter Try.func123, Try.ntmps123
  go_wp2_with fail
  refine i1.out.mono ?_
  rintro e w1 ⟨rfl, rfl⟩
  go_wp2_with fail
  refine i2.out.mono ?_
  rintro e w2 ⟨rfl, hp⟩
  go_wp2_with fail
  refine bodyPost_ret (v := .tuple #[.int .i64 x, .bool true, .int .i64 0]) (by simp [results, Try.results123, go_sem]) rfl ?_
  exact ⟨rfl, hp⟩
set_option maxRecDepth 100000 in
theorem getLast_any (g : Nat) (adE adW : Addr) (N cE cW k : Nat) (dst : Int) (gr : Nat) (m : Int) (is : Bool) (w : World) (h : SetBlk w g (some adE) cE (some adW) N cW) (hk : k < N)
    (hs : w.cell? ⟨(adE.add (k * 3)).block, (adE.add (k * 3)).off + 1, none⟩ = some (.int .i64 dst)) (hw : w.cell? (adW.add k) = some (.iface 98 (.pointer (some ⟨gr, 0, none⟩)))) (hr : LastIn w gr m is) :
    Calls Try.prog 123 #[.pointer (some ⟨g, 0, none⟩), .int .i64 dst, .int .i64 (k : Int)] w fun e w' => e = .returned (.tuple #[.int .i64 m, .bool is, .int .i64 0]) ∧ ∃ q, w' = w.drewN q := by
  have c0 : w.cell? ⟨g, 0, none⟩ = some (.slice (some adE) N cE) := Blk.cellAt h rfl
  have c1 : w.cell? ⟨g, 1, none⟩ = some (.slice (some adW) N cW) := Blk.cellAt h rfl
  have i1 := hid (there_any g (some adE) (some adW) N cE cW (k : Int) w h)
  rw [decide_eq_true (show (0 : Int) ≤ (k : Int) by omega), decide_eq_true (show (k : Int) < (N : Int) by omega)] at i1
  have i2 := hid (lastGet_any gr m is w hr)
  have k0 : (0 : Int) ≤ (k : Int) := Int.natCast_nonneg _
  have k1 : (k : Int) < (N : Int) := by omega
  clear h hr hk
  go_enter Try.func123, Try.ntmps123
  go_wp2_with fail
  refine i1.out.mono ?_
  rintro e w1 ⟨rfl, rfl⟩
  go_wp2_with fail
  refine i2.out.mono ?_
  rintro e w2 ⟨rfl, hp⟩
  go_wp2_with fail
  refine bodyPost_ret (v := .tuple #[.int .i64 m, .bool is, .int .i64 0]) (by simp [results, Try.results123, go_sem]) rfl ?_
  exact ⟨rfl, hp⟩
end Go.Proofs.Ytidlahljhgglcaa
