/-
  The reference of layer 17: an instruction, as plain functions; it is what the program's deeds do.
-/
import Derived.Test.YtidlahljhgglcaaGreatRvFailA
import Derived.Test.YtidlahljhgglcaaGreatRvFailB
import Derived.Test.YtidlahljhgglcaaGreatRvFailC
import Derived.Test.YtidlahljhgglcaaGreatRvPorts
namespace Go.Proofs.YtidlahljhgglcaaGreat
open Go.RowKit Go.ChangeShapes Go.WideShapes Go.ChangeAt

def stackR (o k : Nat) (s : VmS) : VmS := match o with
  | 1 => pushS k s
  | 2 => popS s
  | 3 => pushS (topV s.stack 0) (pushS (topV s.stack 0) (popS s))
  | 4 => pushS (topV s.stack 1) (pushS (topV s.stack 0) (popS (popS s)))
  | 5 => pushS (sumF 5 (topV s.stack 1) (topV s.stack 0)) (popS (popS s))
  | 6 => pushS (sumF 6 (topV s.stack 1) (topV s.stack 0)) (popS (popS s))
  | 7 => pushS (sumF 7 (topV s.stack 1) (topV s.stack 0)) (popS (popS s))
  | 8 => pushS (sumF 8 (topV s.stack 1) (topV s.stack 0)) (popS (popS s))
  | 9 => pushS (sumF 9 (topV s.stack 1) (topV s.stack 0)) (popS (popS s))
  | 10 => pushS (s.mem.getD k 0) s
  | 11 => { popS s with mem := s.mem.set k (topV s.stack 0) }
  | 18 => pushS s.ticks s
  | _ => s
def stackD (o k : Nat) (tk : Int) (d : VmD) : VmD := { d with stack := (stackR o k (machS 0 tk 0 d)).stack, mem := (stackR o k (machS 0 tk 0 d)).mem }
theorem op_cases {o : Nat} (ho : o ≤ 18) : o = 0 ∨ o = 1 ∨ o = 2 ∨ o = 3 ∨ o = 4 ∨ o = 5 ∨ o = 6 ∨ o = 7 ∨ o = 8 ∨ o = 9 ∨ o = 10 ∨ o = 11 ∨ o = 12 ∨ o = 13 ∨ o = 14 ∨ o = 15 ∨ o = 16 ∨ o = 17 ∨ o = 18 := by omega
theorem stackR_mach {o : Nat} (ho : o ≤ 18) (k : Nat) (pc tk f : Int) (d : VmD) : stackR o k (machS pc tk f d) = machS pc tk f (stackD o k tk d) := by
  rcases op_cases ho with rfl | rfl | rfl | rfl | rfl | rfl | rfl | rfl | rfl | rfl | rfl | rfl | rfl | rfl | rfl | rfl | rfl | rfl | rfl <;> rfl
section
variable {w w' : World} {F : Nat → Prop} {g : Nat} {i : ImgS} {s : VmS}
theorem rvFails_any (t : RvAt w F g i s) (hs : 0 ≤ i.sends ∧ i.sends ≤ 15) (hr : 0 ≤ i.recvs ∧ i.recvs ≤ 15) (hl : s.stack.length ≤ 90) (o : Nat) (ho : o ≤ 18) (k : Nat) :
    Calls Tryz.prog 53 #[.pointer (some ⟨g, 0, none⟩), insV (o : Int) (k : Int)] w fun e w' => e = .returned (.int .i64 (failR i s o k)) ∧ Below w.heap.size w w' := by
  rcases op_cases ho with rfl | rfl | rfl | rfl | rfl | rfl | rfl | rfl | rfl | rfl | rfl | rfl | rfl | rfl | rfl | rfl | rfl | rfl | rfl
  · exact rvFail_0 t hs hr hl k
  · exact rvFail_1 t hs hr hl k
  · exact rvFail_2 t hs hr hl k
  · exact rvFail_3 t hs hr hl k
  · exact rvFail_4 t hs hr hl k
  · exact rvFail_5 t hs hr hl k
  · exact rvFail_6 t hs hr hl k
  · exact rvFail_7 t hs hr hl k
  · exact rvFail_8 t hs hr hl k
  · exact rvFail_9 t hs hr hl k
  · exact rvFail_10 t hs hr hl k
  · exact rvFail_11 t hs hr hl k
  · exact rvFail_12 t hs hr hl k
  · exact rvFail_13 t hs hr hl k
  · exact rvFail_14 t hs hr hl k
  · exact rvFail_15 t hs hr hl k
  · exact rvFail_16 t hs hr hl k
  · exact rvFail_17 t hs hr hl k
  · exact rvFail_18 t hs hr hl k
theorem rvStack_any (t : RvAt w F g i s) (hl : s.stack.length ≤ 90) (hm : s.mem.length ≤ 1000) (hin : ∀ x ∈ s.stack, InW x) (o : Nat) (ho : o ≤ 18) (k : Nat) (h1 : o ≠ 13 → o ≠ 14 → (needF o).1 ≤ s.stack.length) (h2 : o = 10 ∨ o = 11 → k < s.mem.length) :
    Calls Tryz.prog 56 #[.pointer (some ⟨g, 0, none⟩), insV (o : Int) (k : Int)] w (MPost F w g i (.returned (.tuple #[])) (stackR o k s)) := by
  have hw : ∀ j, j < s.stack.length → InW (topV s.stack j) := fun j hj => by
    unfold topV
    rw [List.getD_eq_getElem?_getD, List.getElem?_eq_getElem (by omega)]
    exact hin _ (List.getElem_mem _)
  rcases op_cases ho with rfl | rfl | rfl | rfl | rfl | rfl | rfl | rfl | rfl | rfl | rfl | rfl | rfl | rfl | rfl | rfl | rfl | rfl | rfl
  · exact rvStk_none t k 0 (by simp)
  · exact rvStk_push t hl k
  · exact rvStk_drop t hl k (h1 (by decide) (by decide))
  · exact rvStk_dup t hl k (h1 (by decide) (by decide))
  · exact rvStk_swap t hl k (h1 (by decide) (by decide))
  · exact rvStk_two5 t hl k (h1 (by decide) (by decide)) (hw 0 (by have := h1 (by decide) (by decide); simp [needF] at this; omega)) (hw 1 (h1 (by decide) (by decide)))
  · exact rvStk_two6 t hl k (h1 (by decide) (by decide)) (hw 0 (by have := h1 (by decide) (by decide); simp [needF] at this; omega)) (hw 1 (h1 (by decide) (by decide)))
  · exact rvStk_two7 t hl k (h1 (by decide) (by decide)) (hw 0 (by have := h1 (by decide) (by decide); simp [needF] at this; omega)) (hw 1 (h1 (by decide) (by decide)))
  · exact rvStk_two8 t hl k (h1 (by decide) (by decide)) (hw 0 (by have := h1 (by decide) (by decide); simp [needF] at this; omega)) (hw 1 (h1 (by decide) (by decide)))
  · exact rvStk_two9 t hl k (h1 (by decide) (by decide)) (hw 0 (by have := h1 (by decide) (by decide); simp [needF] at this; omega)) (hw 1 (h1 (by decide) (by decide)))
  · exact rvStk_load t hl k k rfl (h2 (.inl rfl)) hm
  · exact rvStk_store t hl k k rfl (h2 (.inr rfl)) hm (h1 (by decide) (by decide))
  · exact rvStk_none t k 12 (by simp)
  · exact rvStk_none t k 13 (by simp)
  · exact rvStk_none t k 14 (by simp)
  · exact rvStk_none t k 15 (by simp)
  · exact rvStk_none t k 16 (by simp)
  · exact rvStk_none t k 17 (by simp)
  · exact rvStk_now t hl k
end
/-! ### The plain law -/
/-- Behind an instruction that did not fail. -/
def stepD (o k : Nat) (nx tk : Int) (d : VmD) : VmD :=
  if o = 12 then { d with next := k } else
  if o = 13 then { d with stack := d.stack.take (d.stack.length - 1), next := if topV d.stack 0 = 0 then (k : Int) else nx } else
  { stackD o k tk d with next := nx, conf := d.conf || decide (o = 16) }
theorem fits_eq (n t l : Nat) : fitsE n t l = if n < t then 5 else if 8 + t < n + l then 14 else 0 := by
  unfold fitsE
  split
  · rfl
  · by_cases h : 8 + t < n + l
    · rw [if_pos h, if_pos (by omega)]
    · rw [if_neg h, if_neg (by omega)]
theorem swap_one (s : List Int) : swapV s 1 [] = s.take (s.length - 1) := by simp [swapV]
theorem swap_none (s l : List Int) : swapV s 0 l = s ++ l.map w65 := by simp [swapV]
theorem swap_two (s l : List Int) : swapV s 2 l = (s.take (s.length - 1)).take (s.length - 1 - 1) ++ l.map w65 := by
  unfold swapV
  rw [List.take_take]
  congr 2
  omega
theorem w65_id {x : Int} (h : InW x) : w65 x = x := by
  obtain ⟨h0, h1⟩ := h
  unfold w65
  omega
theorem stack_top (s : List Int) (h : 0 < s.length) (hin : ∀ x ∈ s, InW x) : s.take (s.length - 1) ++ [w65 (topV s 0)] = s := by
  have e : topV s 0 = s[s.length - 1] := by
    unfold topV
    rw [List.getD_eq_getElem?_getD, show s.length - 1 - 0 = s.length - 1 by omega, List.getElem?_eq_getElem (by omega)]
    rfl
  rw [e, w65_id (hin _ (List.getElem_mem _))]
  rw [← List.take_succ_eq_append_getElem (by omega), show s.length - 1 + 1 = s.length by omega, List.take_length]
/-- What the reference does with an instruction is what the program does. -/
theorem deed_step (i : ImgS) (cs : List ChanS) (pc nx tk : Int) (d : VmD) (hl : d.stack.length ≤ 8) (hin : ∀ x ∈ d.stack, InW x) {o : Nat} (ho : o ≤ 18) (k : Nat) :
    deedF i cs tk o (k : Int) { d with next := nx } =
      if failR i (machS pc tk 0 d) o k ≠ 0 then (failR i (machS pc tk 0 d) o k, { d with next := nx })
      else if o = 14 ∨ o = 15 then (if (portR i cs o k d).1 = 0 then (0, stepD o k nx tk (portR i cs o k d).2) else ((portR i cs o k d).1, { d with next := nx }))
      else (0, stepD o k nx tk d) := by
  have e1 : (machS pc tk 0 d).stack = d.stack := rfl
  have e2 : (machS pc tk 0 d).mem = d.mem := rfl
  have hst := stack_top d.stack
  rcases op_cases ho with rfl | rfl | rfl | rfl | rfl | rfl | rfl | rfl | rfl | rfl | rfl | rfl | rfl | rfl | rfl | rfl | rfl | rfl | rfl
  all_goals
    unfold failR deedF
    simp only [needF, e1, e2, onF, twoF, fits_eq, List.length_cons, List.length_nil, Nat.zero_add, Nat.add_zero, Nat.not_lt_zero, Int.toNat_natCast, Int.ofNat_le, if_false, if_true, false_and, true_and, false_or, or_false, true_or, or_true, Nat.reduceEqDiff, Nat.reduceAdd, reduceIte, Nat.one_ne_zero, Nat.zero_ne_one, ne_eq, not_true_eq_false, not_false_eq_true, Nat.succ_ne_self]
  all_goals try (split <;> (try split) <;> (try split) <;> (first | rfl | omega | skip))
  all_goals try (simp [stepD, stackD, stackR, pushS, popS, sumF, machS, swap_none, swap_one, swap_two]; done)
  · have h1 : d.stack ++ [w65 (topV d.stack 0)] = (d.stack.take (d.stack.length - 1) ++ [w65 (topV d.stack 0)]) ++ [w65 (topV d.stack 0)] := by rw [hst (by omega) hin]
    rw [swap_none]
    simp only [stepD, stackD, stackR, pushS, popS, machS, List.map_cons, List.map_nil]
    rw [h1]
    simp
  · have e : sumF 8 (topV d.stack 1) (topV d.stack 0) = oneI (decide (topV d.stack 1 < topV d.stack 0)) := rfl
    rw [← e]
    simp [stepD, stackD, stackR, pushS, popS, machS, swap_two]
  · have e : sumF 9 (topV d.stack 1) (topV d.stack 0) = oneI (decide (topV d.stack 1 = topV d.stack 0)) := rfl
    rw [← e]
    simp [stepD, stackD, stackR, pushS, popS, machS, swap_two]
  · by_cases hE : (sendP cs d.ss i.part (k : Int) (topV d.stack 0)).2.1 = 0
    · simp [portR, hE, stepD, stackD, stackR, machS, swap_one]
    · simp [portR, hE]
  · by_cases hE : (getP cs d.ss i.part (k : Int)).2.2.1 = 0
    · by_cases hB : (getP cs d.ss i.part (k : Int)).2.1 = true
      · simp [portR, hE, hB, stepD, stackD, stackR, machS, swap_none]
      · simp [portR, hE, hB, stepD, stackD, stackR, machS, swap_none]
    · simp [portR, hE]
end Go.Proofs.YtidlahljhgglcaaGreat
