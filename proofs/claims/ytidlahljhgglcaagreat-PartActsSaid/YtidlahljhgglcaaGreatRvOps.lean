/-
  The reference of layer 17: instructions that only work on the stack and the memory.
-/
import Derived.Test.YtidlahljhgglcaaGreatRvStk
import Derived.StillTailTactics
namespace Go.Proofs.YtidlahljhgglcaaGreat
open Go.RowKit Go.ChangeShapes Go.WideShapes Go.ChangeAt

def popS (s : VmS) : VmS := { s with stack := s.stack.take (s.stack.length - 1) }
def pushS (x : Int) (s : VmS) : VmS := { s with stack := s.stack ++ [w65 x] }
def sumF (o : Nat) (x y : Int) : Int := match o with
  | 5 => x + y
  | 6 => x - y
  | 7 => x * y
  | 8 => oneI (decide (x < y))
  | _ => oneI (decide (x = y))
theorem top_pop {s : VmS} (h : 1 < s.stack.length) : topV (popS s).stack 0 = topV s.stack 1 := by
  unfold topV popS
  simp only [List.length_take]
  rw [List.getD_eq_getElem?_getD, List.getD_eq_getElem?_getD, List.getElem?_take, if_pos (by omega), show min (s.stack.length - 1) s.stack.length - 1 - 0 = s.stack.length - 1 - 1 by omega]
theorem pop_len (s : VmS) : (popS s).stack.length = s.stack.length - 1 := by unfold popS; simp
theorem push_len (x : Int) (s : VmS) : (pushS x s).stack.length = s.stack.length + 1 := by unfold pushS; simp
def insV (o a : Int) : Value := .agg #[.int .i64 o, .int .i64 a]
theorem ins_in (o a : Int) (w : World) : ∃ w1 : World, w.alloc (.cells #[.int .i64 o, .int .i64 a] 136) = w1 ∧ Below w.heap.size w w1 ∧ Blk w1 w.heap.size 136 [.int .i64 o, .int .i64 a] ∧ w1.heap.size = w.heap.size + 1 :=
  ⟨_, rfl, below_alloc1 w _, Blk.new w _ [.int .i64 o, .int .i64 a], by simp⟩
section
variable {w w' : World} {F : Nat → Prop} {g : Nat} {i : ImgS} {s : VmS}
theorem MPost.trans {F1 : Nat → Prop} {w1 : World} {e0 e : Ending} {s' : VmS} (hG : Goes F w F1 w1) (h : MPost F1 w1 g i e0 s' e w') : MPost F w g i e0 s' e w' := by
  obtain ⟨F2, he, ht, hg⟩ := h
  exact ⟨F2, he, ht, hG.trans hg⟩
theorem Goes.keeps {F1 : Nat → Prop} {b : Nat} (hG : Goes F w F1 w') (hb : b < w.heap.size) (hf : ¬ F b) : w'.heap[b]? = w.heap[b]? ∧ ¬ F1 b ∧ b < w'.heap.size :=
  ⟨hG.apart.block b hb hf, fun h9 => (hG.foot b h9).elim hf (fun h8 => by omega), Nat.lt_of_lt_of_le hb hG.apart.size⟩
theorem RvIn.popG {w0 W w2 : World} {a : VmA} {sl : Nat} (hw : w2 = W.setCell ⟨g, 9, none⟩ (.slice a.As sl a.cS)) (hb : Below w0.heap.size w0 W) (m : RvIn w0 g i a s) (hsl : s.stack.length - 1 = sl) :
    RvIn w2 g i a (popS s) ∧ Goes (MachF g a) w0 (MachF g a) w2 ∧ ∀ b, b < w0.heap.size → b ≠ g → w2.heap[b]? = w0.heap[b]? := by
  subst hw hsl
  have h := (m.belowS hb).popped
  exact ⟨h.1, (Goes.of_below hb).trans h.2, fun b h1 h2 => (Below.heap_setCell _ _ _ _ h2).trans (hb.block b h1)⟩
set_option maxRecDepth 100000 in
theorem sum_any (o : Nat) (ho : 5 ≤ o ∧ o ≤ 9) (x y : Int) (hx : InW x) (hy : InW y) (w : World) :
    Calls Tryz.prog 86 #[.int .i64 (o : Int), .int .i64 x, .int .i64 y] w fun e w' => e = .returned (.int .i64 (sumF o x y)) ∧ w' = w := by
  obtain ⟨hx0, hx1⟩ := hx
  obtain ⟨hy0, hy1⟩ := hy
  have h5 : o = 5 ∨ o = 6 ∨ o = 7 ∨ o = 8 ∨ o = 9 := by omega
  clear ho
  have HM : Hid (0 ≤ x * y ∧ x * y ≤ 4294836225) := hid ⟨Int.mul_nonneg hx0 hy0, by
    have := Int.mul_le_mul hx1 hy1 hy0 (by decide)
    simpa using this⟩
  rcases h5 with rfl | rfl | rfl | rfl | rfl
  · go_enter Tryz.func86, Tryz.ntmps86
    go_wp2_with fail
    go_ret
    exact ⟨ret_int (by simp [sumF]), by first | trivial | rfl⟩
  · go_enter Tryz.func86, Tryz.ntmps86
    go_wp2_with fail
    go_ret
    exact ⟨ret_int (by simp [sumF]), by first | trivial | rfl⟩
  · go_enter Tryz.func86, Tryz.ntmps86
    go_wp2_with fail
    go_ret
    have := HM.out
    exact ⟨ret_int (by first | (simp [sumF]; done) | (rw [IntWalk.wrap64_in _ ⟨by omega, by omega⟩]; rfl)), by first | trivial | rfl⟩
  · by_cases h : x < y
    · have y0 : decide (x < y) = true := decide_eq_true h
      have hr : Hid (sumF 8 x y = 1) := hid (by simp [sumF, oneI, y0])
      go_enter Tryz.func86, Tryz.ntmps86
      go_wp2_with fail
      go_ret
      exact ⟨ret_int (by rw [hr.out]), by first | trivial | rfl⟩
    · have y0 : decide (x < y) = false := decide_eq_false h
      have hr : Hid (sumF 8 x y = 0) := hid (by simp [sumF, oneI, y0])
      go_enter Tryz.func86, Tryz.ntmps86
      go_wp2_with fail
      go_ret
      exact ⟨ret_int (by rw [hr.out]), by first | trivial | rfl⟩
  · by_cases h : x = y
    · have y0 : (x == y) = true := by simpa using h
      have hr : Hid (sumF 9 x y = 1) := hid (by simp [sumF, oneI, h])
      clear h
      go_enter Tryz.func86, Tryz.ntmps86
      go_wp2_with fail
      go_ret
      exact ⟨ret_int (by rw [hr.out]), by first | trivial | rfl⟩
    · have y0 : (x == y) = false := by simpa using h
      have hr : Hid (sumF 9 x y = 0) := hid (by simp [sumF, oneI, h])
      clear h
      go_enter Tryz.func86, Tryz.ntmps86
      go_wp2_with fail
      go_ret
      exact ⟨ret_int (by rw [hr.out]), by first | trivial | rfl⟩
set_option maxRecDepth 100000 in
set_option maxHeartbeats 2000000 in
theorem rvStk_none (t : RvAt w F g i s) (a o : Int) (ho : o = 0 ∨ o = 12 ∨ o = 13 ∨ o = 14 ∨ o = 15 ∨ o = 16 ∨ o = 17) :
    Calls Tryz.prog 56 #[.pointer (some ⟨g, 0, none⟩), insV o a] w (MPost F w g i (.returned (.tuple #[])) s) := by
  rcases ho with rfl | rfl | rfl | rfl | rfl | rfl | rfl
  · obtain ⟨w1, hw1, hb1, hB, hs1⟩ := ins_in 0 a w
    have x0 : w1.cell? ⟨w.heap.size, 0, none⟩ = some (.int .i64 0) := hB.cellAt rfl
    have x1 : w1.cell? ⟨w.heap.size, 1, none⟩ = some (.int .i64 a) := hB.cellAt rfl
    have T1 := hid (t.belowS hb1)
    have G1 := hid (Goes.of_below (F := F) hb1)
    have HB := hid hB
    have HN : Hid (¬ F w.heap.size) := hid (fun h9 => by have := t.lt h9; omega)
    have HL : Hid (w.heap.size < w1.heap.size) := hid (by omega)
    clear hb1 hB hs1 t
    unfold insV
    go_enter Tryz.func56, Tryz.ntmps56
    go_wp2_with fail
    refine bodyPost_end (v := .tuple #[]) (by simp [results, Tryz.results56, go_sem]) rfl ?_
    exact ⟨_, rfl, T1.out, G1.out⟩
  · obtain ⟨w1, hw1, hb1, hB, hs1⟩ := ins_in 12 a w
    have x0 : w1.cell? ⟨w.heap.size, 0, none⟩ = some (.int .i64 12) := hB.cellAt rfl
    have x1 : w1.cell? ⟨w.heap.size, 1, none⟩ = some (.int .i64 a) := hB.cellAt rfl
    have T1 := hid (t.belowS hb1)
    have G1 := hid (Goes.of_below (F := F) hb1)
    have HB := hid hB
    have HN : Hid (¬ F w.heap.size) := hid (fun h9 => by have := t.lt h9; omega)
    have HL : Hid (w.heap.size < w1.heap.size) := hid (by omega)
    clear hb1 hB hs1 t
    unfold insV
    go_enter Tryz.func56, Tryz.ntmps56
    go_wp2_with fail
    refine bodyPost_end (v := .tuple #[]) (by simp [results, Tryz.results56, go_sem]) rfl ?_
    exact ⟨_, rfl, T1.out, G1.out⟩
  · obtain ⟨w1, hw1, hb1, hB, hs1⟩ := ins_in 13 a w
    have x0 : w1.cell? ⟨w.heap.size, 0, none⟩ = some (.int .i64 13) := hB.cellAt rfl
    have x1 : w1.cell? ⟨w.heap.size, 1, none⟩ = some (.int .i64 a) := hB.cellAt rfl
    have T1 := hid (t.belowS hb1)
    have G1 := hid (Goes.of_below (F := F) hb1)
    have HB := hid hB
    have HN : Hid (¬ F w.heap.size) := hid (fun h9 => by have := t.lt h9; omega)
    have HL : Hid (w.heap.size < w1.heap.size) := hid (by omega)
    clear hb1 hB hs1 t
    unfold insV
    go_enter Tryz.func56, Tryz.ntmps56
    go_wp2_with fail
    refine bodyPost_end (v := .tuple #[]) (by simp [results, Tryz.results56, go_sem]) rfl ?_
    exact ⟨_, rfl, T1.out, G1.out⟩
  · obtain ⟨w1, hw1, hb1, hB, hs1⟩ := ins_in 14 a w
    have x0 : w1.cell? ⟨w.heap.size, 0, none⟩ = some (.int .i64 14) := hB.cellAt rfl
    have x1 : w1.cell? ⟨w.heap.size, 1, none⟩ = some (.int .i64 a) := hB.cellAt rfl
    have T1 := hid (t.belowS hb1)
    have G1 := hid (Goes.of_below (F := F) hb1)
    have HB := hid hB
    have HN : Hid (¬ F w.heap.size) := hid (fun h9 => by have := t.lt h9; omega)
    have HL : Hid (w.heap.size < w1.heap.size) := hid (by omega)
    clear hb1 hB hs1 t
    unfold insV
    go_enter Tryz.func56, Tryz.ntmps56
    go_wp2_with fail
    refine bodyPost_end (v := .tuple #[]) (by simp [results, Tryz.results56, go_sem]) rfl ?_
    exact ⟨_, rfl, T1.out, G1.out⟩
  · obtain ⟨w1, hw1, hb1, hB, hs1⟩ := ins_in 15 a w
    have x0 : w1.cell? ⟨w.heap.size, 0, none⟩ = some (.int .i64 15) := hB.cellAt rfl
    have x1 : w1.cell? ⟨w.heap.size, 1, none⟩ = some (.int .i64 a) := hB.cellAt rfl
    have T1 := hid (t.belowS hb1)
    have G1 := hid (Goes.of_below (F := F) hb1)
    have HB := hid hB
    have HN : Hid (¬ F w.heap.size) := hid (fun h9 => by have := t.lt h9; omega)
    have HL : Hid (w.heap.size < w1.heap.size) := hid (by omega)
    clear hb1 hB hs1 t
    unfold insV
    go_enter Tryz.func56, Tryz.ntmps56
    go_wp2_with fail
    refine bodyPost_end (v := .tuple #[]) (by simp [results, Tryz.results56, go_sem]) rfl ?_
    exact ⟨_, rfl, T1.out, G1.out⟩
  · obtain ⟨w1, hw1, hb1, hB, hs1⟩ := ins_in 16 a w
    have x0 : w1.cell? ⟨w.heap.size, 0, none⟩ = some (.int .i64 16) := hB.cellAt rfl
    have x1 : w1.cell? ⟨w.heap.size, 1, none⟩ = some (.int .i64 a) := hB.cellAt rfl
    have T1 := hid (t.belowS hb1)
    have G1 := hid (Goes.of_below (F := F) hb1)
    have HB := hid hB
    have HN : Hid (¬ F w.heap.size) := hid (fun h9 => by have := t.lt h9; omega)
    have HL : Hid (w.heap.size < w1.heap.size) := hid (by omega)
    clear hb1 hB hs1 t
    unfold insV
    go_enter Tryz.func56, Tryz.ntmps56
    go_wp2_with fail
    refine bodyPost_end (v := .tuple #[]) (by simp [results, Tryz.results56, go_sem]) rfl ?_
    exact ⟨_, rfl, T1.out, G1.out⟩
  · obtain ⟨w1, hw1, hb1, hB, hs1⟩ := ins_in 17 a w
    have x0 : w1.cell? ⟨w.heap.size, 0, none⟩ = some (.int .i64 17) := hB.cellAt rfl
    have x1 : w1.cell? ⟨w.heap.size, 1, none⟩ = some (.int .i64 a) := hB.cellAt rfl
    have T1 := hid (t.belowS hb1)
    have G1 := hid (Goes.of_below (F := F) hb1)
    have HB := hid hB
    have HN : Hid (¬ F w.heap.size) := hid (fun h9 => by have := t.lt h9; omega)
    have HL : Hid (w.heap.size < w1.heap.size) := hid (by omega)
    clear hb1 hB hs1 t
    unfold insV
    go_enter Tryz.func56, Tryz.ntmps56
    go_wp2_with fail
    refine bodyPost_end (v := .tuple #[]) (by simp [results, Tryz.results56, go_sem]) rfl ?_
    exact ⟨_, rfl, T1.out, G1.out⟩
set_option maxRecDepth 100000 in
set_option maxHeartbeats 2000000 in
theorem rvStk_push (t : RvAt w F g i s) (hl2 : s.stack.length ≤ 90) (a : Int) :
    Calls Tryz.prog 56 #[.pointer (some ⟨g, 0, none⟩), insV 1 a] w (MPost F w g i (.returned (.tuple #[])) (pushS a s)) := by
  obtain ⟨w1, hw1, hb1, hB, hs1⟩ := ins_in 1 a w
  have x0 : w1.cell? ⟨w.heap.size, 0, none⟩ = some (.int .i64 1) := hB.cellAt rfl
  have x1 : w1.cell? ⟨w.heap.size, 1, none⟩ = some (.int .i64 a) := hB.cellAt rfl
  have T1 := hid (t.belowS hb1)
  have G1 := hid (Goes.of_below (F := F) hb1)
  have HB := hid hB
  have HN : Hid (¬ F w.heap.size) := hid (fun h9 => by have := t.lt h9; omega)
  have HL : Hid (w.heap.size < w1.heap.size) := hid (by omega)
  have i1 := hid (rvPush T1.out (by omega) a)
  clear hb1 hB hs1 t
  unfold insV
  go_enter Tryz.func56, Tryz.ntmps56
  go_wp2_with fail
  refine i1.out.mono ?_
  rintro e w2 ⟨F2, rfl, ht, hg⟩
  have T2 := hid ht
  have G2 := hid (G1.out.trans hg)
  clear ht hg i1
  go_wp2_with fail
  refine bodyPost_end (v := .tuple #[]) (by simp [results, Tryz.results56, go_sem]) rfl ?_
  exact ⟨_, rfl, T2.out, G2.out⟩
set_option maxRecDepth 100000 in
set_option maxHeartbeats 2000000 in
theorem rvStk_drop (t : RvAt w F g i s) (hl2 : s.stack.length ≤ 90) (a : Int) (hl : 0 < s.stack.length) :
    Calls Tryz.prog 56 #[.pointer (some ⟨g, 0, none⟩), insV 2 a] w (MPost F w g i (.returned (.tuple #[])) (popS s)) := by
  obtain ⟨w1, hw1, hb1, hB, hs1⟩ := ins_in 2 a w
  have x0 : w1.cell? ⟨w.heap.size, 0, none⟩ = some (.int .i64 2) := hB.cellAt rfl
  have x1 : w1.cell? ⟨w.heap.size, 1, none⟩ = some (.int .i64 a) := hB.cellAt rfl
  have T1 := hid (t.belowS hb1)
  have G1 := hid (Goes.of_below (F := F) hb1)
  have HB := hid hB
  have HN : Hid (¬ F w.heap.size) := hid (fun h9 => by have := t.lt h9; omega)
  have HL : Hid (w.heap.size < w1.heap.size) := hid (by omega)
  have i1 := hid (rvPop T1.out hl (by omega))
  clear hb1 hB hs1 t
  unfold insV
  go_enter Tryz.func56, Tryz.ntmps56
  go_wp2_with fail
  refine i1.out.mono ?_
  rintro e w2 ⟨F2, rfl, ht, hg⟩
  have T2 := hid ht
  have G2 := hid (G1.out.trans hg)
  clear ht hg i1
  go_wp2_with fail
  refine bodyPost_end (v := .tuple #[]) (by simp [results, Tryz.results56, go_sem]) rfl ?_
  exact ⟨_, rfl, T2.out, G2.out⟩
set_option maxRecDepth 100000 in
set_option maxHeartbeats 2000000 in
theorem rvStk_dup (t : RvAt w F g i s) (hl2 : s.stack.length ≤ 90) (a : Int) (hl : 0 < s.stack.length) :
    Calls Tryz.prog 56 #[.pointer (some ⟨g, 0, none⟩), insV 3 a] w (MPost F w g i (.returned (.tuple #[])) (pushS (topV s.stack 0) (pushS (topV s.stack 0) (popS s)))) := by
  obtain ⟨w1, hw1, hb1, hB, hs1⟩ := ins_in 3 a w
  have x0 : w1.cell? ⟨w.heap.size, 0, none⟩ = some (.int .i64 3) := hB.cellAt rfl
  have x1 : w1.cell? ⟨w.heap.size, 1, none⟩ = some (.int .i64 a) := hB.cellAt rfl
  have T1 := hid (t.belowS hb1)
  have G1 := hid (Goes.of_below (F := F) hb1)
  have HB := hid hB
  have HN : Hid (¬ F w.heap.size) := hid (fun h9 => by have := t.lt h9; omega)
  have HL : Hid (w.heap.size < w1.heap.size) := hid (by omega)
  have i1 := hid (rvPop T1.out hl (by omega))
  have p1 := pop_len s
  have p2 := push_len (topV s.stack 0) (popS s)
  have i2 := hid (fun W F' (h : RvAt W F' g i (popS s)) => rvPush h (by omega) (topV s.stack 0))
  have i3 := hid (fun W F' (h : RvAt W F' g i (pushS (topV s.stack 0) (popS s))) => rvPush h (by omega) (topV s.stack 0))
  generalize topV s.stack 0 = x at *
  clear hb1 hB hs1 t p1 p2
  unfold insV
  go_enter Tryz.func56, Tryz.ntmps56
  go_wp2_with fail
  refine i1.out.mono ?_
  rintro e w2 ⟨F2, rfl, ht, hg⟩
  have T2 := hid ht
  have G2 := hid (G1.out.trans hg)
  clear ht hg i1
  go_wp2_with fail
  refine (i2.out _ _ T2.out).mono ?_
  rintro e w3 ⟨F3, rfl, ht, hg⟩
  have T3 := hid ht
  have G3 := hid (G2.out.trans hg)
  clear ht hg i2
  go_wp2_with fail
  refine (i3.out _ _ T3.out).mono ?_
  rintro e w4 ⟨F4, rfl, ht, hg⟩
  have T4 := hid ht
  have G4 := hid (G3.out.trans hg)
  clear ht hg i3
  go_wp2_with fail
  refine bodyPost_end (v := .tuple #[]) (by simp [results, Tryz.results56, go_sem]) rfl ?_
  exact ⟨_, rfl, T4.out, G4.out⟩
set_option maxRecDepth 100000 in
set_option maxHeartbeats 2000000 in
theorem rvStk_swap (t : RvAt w F g i s) (hl2 : s.stack.length ≤ 90) (a : Int) (hl : 1 < s.stack.length) :
    Calls Tryz.prog 56 #[.pointer (some ⟨g, 0, none⟩), insV 4 a] w (MPost F w g i (.returned (.tuple #[])) (pushS (topV s.stack 1) (pushS (topV s.stack 0) (popS (popS s))))) := by
  obtain ⟨w1, hw1, hb1, hB, hs1⟩ := ins_in 4 a w
  have x0 : w1.cell? ⟨w.heap.size, 0, none⟩ = some (.int .i64 4) := hB.cellAt rfl
  have x1 : w1.cell? ⟨w.heap.size, 1, none⟩ = some (.int .i64 a) := hB.cellAt rfl
  have T1 := hid (t.belowS hb1)
  have G1 := hid (Goes.of_below (F := F) hb1)
  have HB := hid hB
  have HN : Hid (¬ F w.heap.size) := hid (fun h9 => by have := t.lt h9; omega)
  have HL : Hid (w.heap.size < w1.heap.size) := hid (by omega)
  have i1 := hid (rvPop T1.out (by omega) (by omega))
  have p1 := pop_len s
  have p2 := pop_len (popS s)
  have p3 := push_len (topV s.stack 0) (popS (popS s))
  have i2 := hid (fun W F' (h : RvAt W F' g i (popS s)) => rvPop h (by omega) (by omega))
  have i3 := hid (fun W F' (h : RvAt W F' g i (popS (popS s))) => rvPush h (by omega) (topV s.stack 0))
  have i4 := hid (fun W F' (h : RvAt W F' g i (pushS (topV s.stack 0) (popS (popS s)))) => rvPush h (by omega) (topV s.stack 1))
  rw [top_pop hl] at i2
  generalize topV s.stack 0 = x at *
  generalize topV s.stack 1 = y at *
  clear hb1 hB hs1 t p1 p2 p3
  unfold insV
  go_enter Tryz.func56, Tryz.ntmps56
  go_wp2_with fail
  refine i1.out.mono ?_
  rintro e w2 ⟨F2, rfl, ht, hg⟩
  have T2 := hid ht
  have G2 := hid (G1.out.trans hg)
  clear ht hg i1
  go_wp2_with fail
  refine (i2.out _ _ T2.out).mono ?_
  rintro e w3 ⟨F3, rfl, ht, hg⟩
  have T3 := hid ht
  have G3 := hid (G2.out.trans hg)
  clear ht hg i2
  go_wp2_with fail
  refine (i3.out _ _ T3.out).mono ?_
  rintro e w4 ⟨F4, rfl, ht, hg⟩
  have T4 := hid ht
  have G4 := hid (G3.out.trans hg)
  clear ht hg i3
  go_wp2_with fail
  refine (i4.out _ _ T4.out).mono ?_
  rintro e w5 ⟨F5, rfl, ht, hg⟩
  have T5 := hid ht
  have G5 := hid (G4.out.trans hg)
  clear ht hg i4
  go_wp2_with fail
  refine bodyPost_end (v := .tuple #[]) (by simp [results, Tryz.results56, go_sem]) rfl ?_
  exact ⟨_, rfl, T5.out, G5.out⟩
set_option maxRecDepth 100000 in
set_option maxHeartbeats 2000000 in
theorem rvStk_two5 (t : RvAt w F g i s) (hl2 : s.stack.length ≤ 90) (a : Int) (hl : 1 < s.stack.length) (h0 : InW (topV s.stack 0)) (h1 : InW (topV s.stack 1)) :
    Calls Tryz.prog 56 #[.pointer (some ⟨g, 0, none⟩), insV 5 a] w (MPost F w g i (.returned (.tuple #[])) (pushS (sumF 5 (topV s.stack 1) (topV s.stack 0)) (popS (popS s)))) := by
  obtain ⟨w1, hw1, hb1, hB, hs1⟩ := ins_in 5 a w
  have x0 : w1.cell? ⟨w.heap.size, 0, none⟩ = some (.int .i64 5) := hB.cellAt rfl
  have x1 : w1.cell? ⟨w.heap.size, 1, none⟩ = some (.int .i64 a) := hB.cellAt rfl
  have T1 := hid (t.belowS hb1)
  have G1 := hid (Goes.of_below (F := F) hb1)
  have HB := hid hB
  have HN : Hid (¬ F w.heap.size) := hid (fun h9 => by have := t.lt h9; omega)
  have HL : Hid (w.heap.size < w1.heap.size) := hid (by omega)
  have i1 := hid (rvPop T1.out (by omega) (by omega))
  have p1 := pop_len s
  have p2 := pop_len (popS s)
  have i2 := hid (fun W F' (h : RvAt W F' g i (popS s)) => rvPop h (by omega) (by omega))
  rw [top_pop hl] at i2
  have i3 := hid (fun W => sum_any 5 (by omega) (topV s.stack 1) (topV s.stack 0) h1 h0 W)
  have i4 := hid (fun W F' (h : RvAt W F' g i (popS (popS s))) => rvPush h (by omega) (sumF 5 (topV s.stack 1) (topV s.stack 0)))
  generalize sumF 5 (topV s.stack 1) (topV s.stack 0) = z at *
  generalize topV s.stack 0 = x at *
  generalize topV s.stack 1 = y at *
  clear hb1 hB hs1 t p1 p2
  unfold insV
  go_enter Tryz.func56, Tryz.ntmps56
  go_wp2_with fail
  refine i1.out.mono ?_
  rintro e w2 ⟨F2, rfl, ht, hg⟩
  have k2 := hg.keeps HL.out HN.out
  have T2 := hid ht
  have G2 := hid (G1.out.trans hg)
  have K2 := hid k2
  clear ht hg i1 k2
  go_wp2_with fail
  refine (i2.out _ _ T2.out).mono ?_
  rintro e w3 ⟨F3, rfl, ht, hg⟩
  have k3 := hg.keeps K2.out.2.2 K2.out.2.1
  have z0 : w3.cell? ⟨w.heap.size, 0, none⟩ = some (.int .i64 5) := (World.cell?_of_block (k3.1.trans K2.out.1)).trans x0
  have T3 := hid ht
  have G3 := hid (G2.out.trans hg)
  clear ht hg i2 k3
  go_wp2_with fail
  refine (i3.out _).mono ?_
  rintro e w' ⟨rfl, rfl⟩
  go_wp2_with fail
  refine (i4.out _ _ T3.out).mono ?_
  rintro e w5 ⟨F5, rfl, ht, hg⟩
  have T5 := hid ht
  have G5 := hid (G3.out.trans hg)
  clear ht hg i4 i3
  go_wp2_with fail
  refine bodyPost_end (v := .tuple #[]) (by simp [results, Tryz.results56, go_sem]) rfl ?_
  exact ⟨_, rfl, T5.out, G5.out⟩
set_option maxRecDepth 100000 in
set_option maxHeartbeats 2000000 in
theorem rvStk_two6 (t : RvAt w F g i s) (hl2 : s.stack.length ≤ 90) (a : Int) (hl : 1 < s.stack.length) (h0 : InW (topV s.stack 0)) (h1 : InW (topV s.stack 1)) :
    Calls Tryz.prog 56 #[.pointer (some ⟨g, 0, none⟩), insV 6 a] w (MPost F w g i (.returned (.tuple #[])) (pushS (sumF 6 (topV s.stack 1) (topV s.stack 0)) (popS (popS s)))) := by
  obtain ⟨w1, hw1, hb1, hB, hs1⟩ := ins_in 6 a w
  have x0 : w1.cell? ⟨w.heap.size, 0, none⟩ = some (.int .i64 6) := hB.cellAt rfl
  have x1 : w1.cell? ⟨w.heap.size, 1, none⟩ = some (.int .i64 a) := hB.cellAt rfl
  have T1 := hid (t.belowS hb1)
  have G1 := hid (Goes.of_below (F := F) hb1)
  have HB := hid hB
  have HN : Hid (¬ F w.heap.size) := hid (fun h9 => by have := t.lt h9; omega)
  have HL : Hid (w.heap.size < w1.heap.size) := hid (by omega)
  have i1 := hid (rvPop T1.out (by omega) (by omega))
  have p1 := pop_len s
  have p2 := pop_len (popS s)
  have i2 := hid (fun W F' (h : RvAt W F' g i (popS s)) => rvPop h (by omega) (by omega))
  rw [top_pop hl] at i2
  have i3 := hid (fun W => sum_any 6 (by omega) (topV s.stack 1) (topV s.stack 0) h1 h0 W)
  have i4 := hid (fun W F' (h : RvAt W F' g i (popS (popS s))) => rvPush h (by omega) (sumF 6 (topV s.stack 1) (topV s.stack 0)))
  generalize sumF 6 (topV s.stack 1) (topV s.stack 0) = z at *
  generalize topV s.stack 0 = x at *
  generalize topV s.stack 1 = y at *
  clear hb1 hB hs1 t p1 p2
  unfold insV
  go_enter Tryz.func56, Tryz.ntmps56
  go_wp2_with fail
  refine i1.out.mono ?_
  rintro e w2 ⟨F2, rfl, ht, hg⟩
  have k2 := hg.keeps HL.out HN.out
  have T2 := hid ht
  have G2 := hid (G1.out.trans hg)
  have K2 := hid k2
  clear ht hg i1 k2
  go_wp2_with fail
  refine (i2.out _ _ T2.out).mono ?_
  rintro e w3 ⟨F3, rfl, ht, hg⟩
  have k3 := hg.keeps K2.out.2.2 K2.out.2.1
  have z0 : w3.cell? ⟨w.heap.size, 0, none⟩ = some (.int .i64 6) := (World.cell?_of_block (k3.1.trans K2.out.1)).trans x0
  have T3 := hid ht
  have G3 := hid (G2.out.trans hg)
  clear ht hg i2 k3
  go_wp2_with fail
  refine (i3.out _).mono ?_
  rintro e w' ⟨rfl, rfl⟩
  go_wp2_with fail
  refine (i4.out _ _ T3.out).mono ?_
  rintro e w5 ⟨F5, rfl, ht, hg⟩
  have T5 := hid ht
  have G5 := hid (G3.out.trans hg)
  clear ht hg i4 i3
  go_wp2_with fail
  refine bodyPost_end (v := .tuple #[]) (by simp [results, Tryz.results56, go_sem]) rfl ?_
  exact ⟨_, rfl, T5.out, G5.out⟩
set_option maxRecDepth 100000 in
set_option maxHeartbeats 2000000 in
theorem rvStk_two7 (t : RvAt w F g i s) (hl2 : s.stack.length ≤ 90) (a : Int) (hl : 1 < s.stack.length) (h0 : InW (topV s.stack 0)) (h1 : InW (topV s.stack 1)) :
    Calls Tryz.prog 56 #[.pointer (some ⟨g, 0, none⟩), insV 7 a] w (MPost F w g i (.returned (.tuple #[])) (pushS (sumF 7 (topV s.stack 1) (topV s.stack 0)) (popS (popS s)))) := by
  obtain ⟨w1, hw1, hb1, hB, hs1⟩ := ins_in 7 a w
  have x0 : w1.cell? ⟨w.heap.size, 0, none⟩ = some (.int .i64 7) := hB.cellAt rfl
  have x1 : w1.cell? ⟨w.heap.size, 1, none⟩ = some (.int .i64 a) := hB.cellAt rfl
  have T1 := hid (t.belowS hb1)
  have G1 := hid (Goes.of_below (F := F) hb1)
  have HB := hid hB
  have HN : Hid (¬ F w.heap.size) := hid (fun h9 => by have := t.lt h9; omega)
  have HL : Hid (w.heap.size < w1.heap.size) := hid (by omega)
  have i1 := hid (rvPop T1.out (by omega) (by omega))
  have p1 := pop_len s
  have p2 := pop_len (popS s)
  have i2 := hid (fun W F' (h : RvAt W F' g i (popS s)) => rvPop h (by omega) (by omega))
  rw [top_pop hl] at i2
  have i3 := hid (fun W => sum_any 7 (by omega) (topV s.stack 1) (topV s.stack 0) h1 h0 W)
  have i4 := hid (fun W F' (h : RvAt W F' g i (popS (popS s))) => rvPush h (by omega) (sumF 7 (topV s.stack 1) (topV s.stack 0)))
  generalize sumF 7 (topV s.stack 1) (topV s.stack 0) = z at *
  generalize topV s.stack 0 = x at *
  generalize topV s.stack 1 = y at *
  clear hb1 hB hs1 t p1 p2
  unfold insV
  go_enter Tryz.func56, Tryz.ntmps56
  go_wp2_with fail
  refine i1.out.mono ?_
  rintro e w2 ⟨F2, rfl, ht, hg⟩
  have k2 := hg.keeps HL.out HN.out
  have T2 := hid ht
  have G2 := hid (G1.out.trans hg)
  have K2 := hid k2
  clear ht hg i1 k2
  go_wp2_with fail
  refine (i2.out _ _ T2.out).mono ?_
  rintro e w3 ⟨F3, rfl, ht, hg⟩
  have k3 := hg.keeps K2.out.2.2 K2.out.2.1
  have z0 : w3.cell? ⟨w.heap.size, 0, none⟩ = some (.int .i64 7) := (World.cell?_of_block (k3.1.trans K2.out.1)).trans x0
  have T3 := hid ht
  have G3 := hid (G2.out.trans hg)
  clear ht hg i2 k3
  go_wp2_with fail
  refine (i3.out _).mono ?_
  rintro e w' ⟨rfl, rfl⟩
  go_wp2_with fail
  refine (i4.out _ _ T3.out).mono ?_
  rintro e w5 ⟨F5, rfl, ht, hg⟩
  have T5 := hid ht
  have G5 := hid (G3.out.trans hg)
  clear ht hg i4 i3
  go_wp2_with fail
  refine bodyPost_end (v := .tuple #[]) (by simp [results, Tryz.results56, go_sem]) rfl ?_
  exact ⟨_, rfl, T5.out, G5.out⟩
set_option maxRecDepth 100000 in
set_option maxHeartbeats 2000000 in
theorem rvStk_two8 (t : RvAt w F g i s) (hl2 : s.stack.length ≤ 90) (a : Int) (hl : 1 < s.stack.length) (h0 : InW (topV s.stack 0)) (h1 : InW (topV s.stack 1)) :
    Calls Tryz.prog 56 #[.pointer (some ⟨g, 0, none⟩), insV 8 a] w (MPost F w g i (.returned (.tuple #[])) (pushS (sumF 8 (topV s.stack 1) (topV s.stack 0)) (popS (popS s)))) := by
  obtain ⟨w1, hw1, hb1, hB, hs1⟩ := ins_in 8 a w
  have x0 : w1.cell? ⟨w.heap.size, 0, none⟩ = some (.int .i64 8) := hB.cellAt rfl
  have x1 : w1.cell? ⟨w.heap.size, 1, none⟩ = some (.int .i64 a) := hB.cellAt rfl
  have T1 := hid (t.belowS hb1)
  have G1 := hid (Goes.of_below (F := F) hb1)
  have HB := hid hB
  have HN : Hid (¬ F w.heap.size) := hid (fun h9 => by have := t.lt h9; omega)
  have HL : Hid (w.heap.size < w1.heap.size) := hid (by omega)
  have i1 := hid (rvPop T1.out (by omega) (by omega))
  have p1 := pop_len s
  have p2 := pop_len (popS s)
  have i2 := hid (fun W F' (h : RvAt W F' g i (popS s)) => rvPop h (by omega) (by omega))
  rw [top_pop hl] at i2
  have i3 := hid (fun W => sum_any 8 (by omega) (topV s.stack 1) (topV s.stack 0) h1 h0 W)
  have i4 := hid (fun W F' (h : RvAt W F' g i (popS (popS s))) => rvPush h (by omega) (sumF 8 (topV s.stack 1) (topV s.stack 0)))
  generalize sumF 8 (topV s.stack 1) (topV s.stack 0) = z at *
  generalize topV s.stack 0 = x at *
  generalize topV s.stack 1 = y at *
  clear hb1 hB hs1 t p1 p2
  unfold insV
  go_enter Tryz.func56, Tryz.ntmps56
  go_wp2_with fail
  refine i1.out.mono ?_
  rintro e w2 ⟨F2, rfl, ht, hg⟩
  have k2 := hg.keeps HL.out HN.out
  have T2 := hid ht
  have G2 := hid (G1.out.trans hg)
  have K2 := hid k2
  clear ht hg i1 k2
  go_wp2_with fail
  refine (i2.out _ _ T2.out).mono ?_
  rintro e w3 ⟨F3, rfl, ht, hg⟩
  have k3 := hg.keeps K2.out.2.2 K2.out.2.1
  have z0 : w3.cell? ⟨w.heap.size, 0, none⟩ = some (.int .i64 8) := (World.cell?_of_block (k3.1.trans K2.out.1)).trans x0
  have T3 := hid ht
  have G3 := hid (G2.out.trans hg)
  clear ht hg i2 k3
  go_wp2_with fail
  refine (i3.out _).mono ?_
  rintro e w' ⟨rfl, rfl⟩
  go_wp2_with fail
  refine (i4.out _ _ T3.out).mono ?_
  rintro e w5 ⟨F5, rfl, ht, hg⟩
  have T5 := hid ht
  have G5 := hid (G3.out.trans hg)
  clear ht hg i4 i3
  go_wp2_with fail
  refine bodyPost_end (v := .tuple #[]) (by simp [results, Tryz.results56, go_sem]) rfl ?_
  exact ⟨_, rfl, T5.out, G5.out⟩
set_option maxRecDepth 100000 in
set_option maxHeartbeats 2000000 in
theorem rvStk_two9 (t : RvAt w F g i s) (hl2 : s.stack.length ≤ 90) (a : Int) (hl : 1 < s.stack.length) (h0 : InW (topV s.stack 0)) (h1 : InW (topV s.stack 1)) :
    Calls Tryz.prog 56 #[.pointer (some ⟨g, 0, none⟩), insV 9 a] w (MPost F w g i (.returned (.tuple #[])) (pushS (sumF 9 (topV s.stack 1) (topV s.stack 0)) (popS (popS s)))) := by
  obtain ⟨w1, hw1, hb1, hB, hs1⟩ := ins_in 9 a w
  have x0 : w1.cell? ⟨w.heap.size, 0, none⟩ = some (.int .i64 9) := hB.cellAt rfl
  have x1 : w1.cell? ⟨w.heap.size, 1, none⟩ = some (.int .i64 a) := hB.cellAt rfl
  have T1 := hid (t.belowS hb1)
  have G1 := hid (Goes.of_below (F := F) hb1)
  have HB := hid hB
  have HN : Hid (¬ F w.heap.size) := hid (fun h9 => by have := t.lt h9; omega)
  have HL : Hid (w.heap.size < w1.heap.size) := hid (by omega)
  have i1 := hid (rvPop T1.out (by omega) (by omega))
  have p1 := pop_len s
  have p2 := pop_len (popS s)
  have i2 := hid (fun W F' (h : RvAt W F' g i (popS s)) => rvPop h (by omega) (by omega))
  rw [top_pop hl] at i2
  have i3 := hid (fun W => sum_any 9 (by omega) (topV s.stack 1) (topV s.stack 0) h1 h0 W)
  have i4 := hid (fun W F' (h : RvAt W F' g i (popS (popS s))) => rvPush h (by omega) (sumF 9 (topV s.stack 1) (topV s.stack 0)))
  generalize sumF 9 (topV s.stack 1) (topV s.stack 0) = z at *
  generalize topV s.stack 0 = x at *
  generalize topV s.stack 1 = y at *
  clear hb1 hB hs1 t p1 p2
  unfold insV
  go_enter Tryz.func56, Tryz.ntmps56
  go_wp2_with fail
  refine i1.out.mono ?_
  rintro e w2 ⟨F2, rfl, ht, hg⟩
  have k2 := hg.keeps HL.out HN.out
  have T2 := hid ht
  have G2 := hid (G1.out.trans hg)
  have K2 := hid k2
  clear ht hg i1 k2
  go_wp2_with fail
  refine (i2.out _ _ T2.out).mono ?_
  rintro e w3 ⟨F3, rfl, ht, hg⟩
  have k3 := hg.keeps K2.out.2.2 K2.out.2.1
  have z0 : w3.cell? ⟨w.heap.size, 0, none⟩ = some (.int .i64 9) := (World.cell?_of_block (k3.1.trans K2.out.1)).trans x0
  have T3 := hid ht
  have G3 := hid (G2.out.trans hg)
  clear ht hg i2 k3
  go_wp2_with fail
  refine (i3.out _).mono ?_
  rintro e w' ⟨rfl, rfl⟩
  go_wp2_with fail
  refine (i4.out _ _ T3.out).mono ?_
  rintro e w5 ⟨F5, rfl, ht, hg⟩
  have T5 := hid ht
  have G5 := hid (G3.out.trans hg)
  clear ht hg i4 i3
  go_wp2_with fail
  refine bodyPost_end (v := .tuple #[]) (by simp [results, Tryz.results56, go_sem]) rfl ?_
  exact ⟨_, rfl, T5.out, G5.out⟩
set_option maxRecDepth 100000 in
set_option maxHeartbeats 2000000 in
theorem rvStk_now (t : RvAt w F g i s) (hl2 : s.stack.length ≤ 90) (a : Int) :
    Calls Tryz.prog 56 #[.pointer (some ⟨g, 0, none⟩), insV 18 a] w (MPost F w g i (.returned (.tuple #[])) (pushS s.ticks s)) := by
  obtain ⟨w1, hw1, hb1, hB, hs1⟩ := ins_in 18 a w
  have x0 : w1.cell? ⟨w.heap.size, 0, none⟩ = some (.int .i64 18) := hB.cellAt rfl
  have x1 : w1.cell? ⟨w.heap.size, 1, none⟩ = some (.int .i64 a) := hB.cellAt rfl
  have T1 := hid (t.belowS hb1)
  have G1 := hid (Goes.of_below (F := F) hb1)
  have HB := hid hB
  have HN : Hid (¬ F w.heap.size) := hid (fun h9 => by have := t.lt h9; omega)
  have HL : Hid (w.heap.size < w1.heap.size) := hid (by omega)
  have i1 := hid (rvPush T1.out (by omega) s.ticks)
  obtain ⟨am, m, hF⟩ := T1.out
  have x2 : w1.cell? ⟨g, 11, none⟩ = some (.int .i64 s.ticks) := m.blk.cellAt rfl
  clear hb1 hB hs1 t m hF
  unfold insV
  go_enter Tryz.func56, Tryz.ntmps56
  go_wp2_with fail
  refine i1.out.mono ?_
  rintro e w2 ⟨F2, rfl, ht, hg⟩
  have T2 := hid ht
  have G2 := hid (G1.out.trans hg)
  clear ht hg i1
  go_wp2_with fail
  refine bodyPost_end (v := .tuple #[]) (by simp [results, Tryz.results56, go_sem]) rfl ?_
  exact ⟨_, rfl, T2.out, G2.out⟩
set_option maxRecDepth 100000 in
set_option maxHeartbeats 2000000 in
theorem rvStk_load (t : RvAt w F g i s) (hl2 : s.stack.length ≤ 90) (a : Int) (k : Nat) (ha : a = (k : Int)) (hk : k < s.mem.length) (hm : s.mem.length ≤ 1000) :
    Calls Tryz.prog 56 #[.pointer (some ⟨g, 0, none⟩), insV 10 a] w (MPost F w g i (.returned (.tuple #[])) (pushS (s.mem.getD k 0) s)) := by
  obtain ⟨w1, hw1, hb1, hB, hs1⟩ := ins_in 10 a w
  have x0 : w1.cell? ⟨w.heap.size, 0, none⟩ = some (.int .i64 10) := hB.cellAt rfl
  have x1 : w1.cell? ⟨w.heap.size, 1, none⟩ = some (.int .i64 a) := hB.cellAt rfl
  have T1 := hid (t.belowS hb1)
  have G1 := hid (Goes.of_below (F := F) hb1)
  have HB := hid hB
  have HN : Hid (¬ F w.heap.size) := hid (fun h9 => by have := t.lt h9; omega)
  have HL : Hid (w.heap.size < w1.heap.size) := hid (by omega)
  have i1 := hid (fun W (h : RvAt W F g i s) => rvPush h (by omega) (s.mem.getD k 0))
  obtain ⟨am, m, hF⟩ := T1.out
  subst ha
  obtain ⟨gm, hAm, _⟩ := m.me.form (by omega)
  have hme := m.me
  rw [hAm] at hme
  have x2 : w1.cell? ⟨g, 10, none⟩ = some (.slice (some ⟨gm, 0, none⟩) s.mem.length am.cM) := by rw [← hAm]; exact m.blk.cellAt rfl
  have x3 : w1.cell? ⟨gm, k, none⟩ = some (.int .i64 (s.mem.getD k 0)) := hme.cell (by
    rw [List.getElem?_map, List.getD_eq_getElem?_getD, List.getElem?_eq_getElem hk]
    rfl)
  have z0 : (0 : Int) ≤ (k : Int) := Int.natCast_nonneg _
  have z1 : (k : Int) < (s.mem.length : Int) := by omega
  generalize s.mem.getD k 0 = v at *
  clear hb1 hB hs1 t m hF hme hAm
  unfold insV
  go_enter Tryz.func56, Tryz.ntmps56
  go_wp2_with fail
  go_still_tail 10, (by kernel_rfl)
  go_wp2_with fail
  refine (i1.out _ (T1.out.belowS (bel_drewV (Below.refl _ _)))).mono ?_
  rintro e w2 ⟨F2, rfl, ht, hg⟩
  have T2 := hid ht
  have G2 := hid ((G1.out.trans (Goes.of_below (bel_drewV (Below.refl _ _)))).trans hg)
  clear ht hg i1
  go_wp2_with fail
  refine bodyPost_end (v := .tuple #[]) (by simp [results, Tryz.results56, go_sem]) rfl ?_
  exact ⟨_, rfl, T2.out, G2.out⟩
set_option maxRecDepth 100000 in
set_option maxHeartbeats 2000000 in
theorem rvStk_store (t : RvAt w F g i s) (hl2 : s.stack.length ≤ 90) (a : Int) (k : Nat) (ha : a = (k : Int)) (hk : k < s.mem.length) (hm : s.mem.length ≤ 1000) (hl : 0 < s.stack.length) :
    Calls Tryz.prog 56 #[.pointer (some ⟨g, 0, none⟩), insV 11 a] w (MPost F w g i (.returned (.tuple #[])) ({ popS s with mem := s.mem.set k (topV s.stack 0) })) := by
  obtain ⟨w1, hw1, hb1, hB, hs1⟩ := ins_in 11 a w
  have x0 : w1.cell? ⟨w.heap.size, 0, none⟩ = some (.int .i64 11) := hB.cellAt rfl
  have x1 : w1.cell? ⟨w.heap.size, 1, none⟩ = some (.int .i64 a) := hB.cellAt rfl
  have T1 := hid (t.belowS hb1)
  have G1 := hid (Goes.of_below (F := F) hb1)
  have HB := hid hB
  have HN : Hid (¬ F w.heap.size) := hid (fun h9 => by have := t.lt h9; omega)
  have HL : Hid (w.heap.size < w1.heap.size) := hid (by omega)
  obtain ⟨am, m, hF⟩ := T1.out
  have i1 := hid (fun W (h : RvIn W g i am s) => rvPop_in h hl (by omega))
  subst ha
  obtain ⟨gm, hAm, _⟩ := m.me.form (by omega)
  have hme := m.me
  rw [hAm] at hme
  have x2 : w1.cell? ⟨g, 10, none⟩ = some (.slice (some ⟨gm, 0, none⟩) s.mem.length am.cM) := by rw [← hAm]; exact m.blk.cellAt rfl
  have xf : w1.frozen? ⟨gm, k, none⟩ = false := hme.frozen k
  have z0 : (0 : Int) ≤ (k : Int) := Int.natCast_nonneg _
  have z1 : (k : Int) < (s.mem.length : Int) := by omega
  have HM := hid m
  have HF := hid hF
  have HAm := hid hAm
  have HK := hid hk
  have HBN : Hid (w.heap.size ≠ g) := hid (fun e => by have := T1.out; exact HN.out ((hF _).2 (.inl e)))
  have n1 : gm ≠ g := fun e => m.off.2.2 (hAm ▸ foot_some.2 e.symm)
  have n2 : gm ≠ w.heap.size := fun e => HN.out ((hF _).2 (.inr (.inr (.inr (hAm ▸ foot_some.2 e.symm)))))
  have n3 : g ≠ gm := n1.symm
  have n4 : w.heap.size ≠ gm := n2.symm
  obtain ⟨v, hv⟩ : ∃ v, topV s.stack 0 = v := ⟨_, rfl⟩
  obtain ⟨sl, hsl⟩ : ∃ sl, s.stack.length - 1 = sl := ⟨_, rfl⟩
  rw [hv, hsl] at i1
  rw [hv]
  have HSL := hid hsl
  clear hb1 hB hs1 t m hF hme hAm hv hsl
  unfold insV
  go_enter Tryz.func56, Tryz.ntmps56
  go_wp2_with fail
  go_region_held3 (fun w' => w'.cell? ⟨g, 10, none⟩ = some (.slice (some ⟨gm, 0, none⟩) s.mem.length am.cM) ∧ w'.cell? ⟨w.heap.size, 1, none⟩ = some (.int .i64 (k : Int)) ∧ w'.frozen? ⟨gm, k, none⟩ = false) (go_keep)
    (first
      | (go_at_call 55; refine (i1.out _ ?_).mono ?_; (first | exact HM.out | exact HM.out.belowS (bel_drewV (Below.refl _ _))); rintro e w2 ⟨rfl, hw2⟩; have h9 := RvIn.popG (w0 := w1) hw2 (by first | exact Below.refl _ _ | exact bel_drewV (Below.refl _ _)) HM.out HSL.out; have v2 : w2.cell? ⟨g, 10, none⟩ = some (.slice (some ⟨gm, 0, none⟩) s.mem.length am.cM) := (by rw [← HAm.out]; exact h9.1.blk.cellAt rfl); have v1 : w2.cell? ⟨w.heap.size, 1, none⟩ = some (.int .i64 (k : Int)) := (World.cell?_of_block (h9.2.2 _ HL.out HBN.out)).trans x1; have hme2 := h9.1.me; have hme3 : Row w2 3 (some ⟨gm, 0, none⟩) s.mem.length am.cM (s.mem.map iV) := (by rw [← HAm.out]; exact hme2); have vk : w2.cell? ⟨gm, k, none⟩ = some (.int .i64 (s.mem.getD k 0)) := hme3.cell (by rw [List.getElem?_map, List.getD_eq_getElem?_getD, List.getElem?_eq_getElem HK.out]; rfl); have vf : w2.frozen? ⟨gm, k, none⟩ = false := hme3.frozen k; have H9 := hid (And.intro h9.1 h9.2.1); clear h9 hme2 hme3 hw2))
  all_goals
    have K := H9.out.1.word HAm.out k v
    have K1 := hid K
    clear K
    go_wp2_with fail
    refine bodyPost_end (v := .tuple #[]) (by simp [results, Tryz.results56, go_sem]) rfl ?_
    exact ⟨_, rfl, K1.out.1.at_, G1.out.trans (Goes.iff_ HF.out (H9.out.2.trans K1.out.2))⟩
end
end Go.Proofs.YtidlahljhgglcaaGreat
