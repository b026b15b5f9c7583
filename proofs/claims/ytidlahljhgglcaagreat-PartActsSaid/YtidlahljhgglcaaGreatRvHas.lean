/-
  The reference of bits: Power, Has; what an instruction needs of the stack; the instruction at a place.
-/
import Derived.Test.YtidlahljhgglcaaGreatRvStk
import Derived.Test.YtidlahljhgglcaaGreatVmChan
import Derived.IntWalk
namespace Go.Proofs.YtidlahljhgglcaaGreat
open Go.RowKit Go.ChangeShapes Go.WideShapes Go.ChangeAt

theorem powR_any (k : Nat) (w : World) (hk : k ≤ 15) :
    Calls Tryz.prog 98 #[.int .i64 (k : Int)] w fun e w' => e = .returned (.int .i64 ((2 ^ k : Nat) : Int)) ∧ w = w' := by
  have HP : Hid (∀ j, j ≤ k → 2 ^ j ≤ 32768) := hid (fun j hj => (show 2 ^ j ≤ 2 ^ 15 from Nat.pow_le_pow_right (by omega) (by omega)))
  have HS : Hid (∀ j, 2 ^ (j + 1) = 2 ^ j + 2 ^ j) := hid (fun j => by rw [Nat.pow_succ]; omega)
  obtain ⟨P, hP⟩ : ∃ P, 2 ^ k = P := ⟨_, rfl⟩
  rw [hP]
  have HQ := hid hP
  clear hP
  go_enter Tryz.func98, Tryz.ntmps98
  go_wp2_with fail
  go_loop [3, 4] (fun v3 v4 => ∃ j m : Nat, j ≤ k ∧ v4 = .int .i64 (j : Int) ∧ v3 = .int .i64 (m : Int) ∧ Hid (m = 2 ^ j) ∧ m ≤ 32768) (fun _ v4 => k - (intOf v4).toNat)
  case atStart => exact ⟨0, 1, by omega, rfl, rfl, hid rfl, by omega⟩
  case round =>
    obtain ⟨j, m, hj, rfl, rfl, HM, hm⟩ := hrel
    by_cases hjk : j < k
    · have hm2 : m + m ≤ 32768 := by rw [HM.out, ← HS.out]; exact HP.out _ (by omega)
      have HM2 : Hid (m + m = 2 ^ (j + 1)) := hid (by rw [HS.out, HM.out])
      go_wp2_with fail
      go_round
      case rel => exact ⟨j + 1, m + m, by omega, by go_num, by go_num, HM2, hm2⟩
      case measure => simp [intOf]; omega
    · obtain rfl : j = k := by omega
      obtain rfl : m = P := by rw [HM.out, HQ.out]
      go_wp2_with fail
      go_ret
      exact ⟨rfl, rfl⟩
theorem bitI_nat (n k : Nat) : bitI (n : Int) (k : Int) = (n / 2 ^ k % 2 == 1) := by
  unfold bitI
  rw [Int.toNat_natCast, show ((2 : Int) ^ k) = ((2 ^ k : Nat) : Int) by simp, show ((n : Int) / ((2 ^ k : Nat) : Int)) = ((n / 2 ^ k : Nat) : Int) from (Int.natCast_ediv n _).symm]
  generalize n / 2 ^ k = q
  rw [Bool.eq_iff_iff, decide_eq_true_iff, beq_iff_eq]
  omega
theorem hasR_any (n k : Nat) (w : World) (hn : n < 16) :
    Calls Tryz.prog 82 #[.int .i64 (n : Int), .int .i64 (k : Int)] w fun e w' => e = .returned (.bool (bitI n k)) ∧ w' = w := by
  by_cases hk : k ≤ 15
  case neg =>
    have HB : Hid (bitI (n : Int) (k : Int) = false) := hid (by
      unfold bitI
      rw [Int.toNat_natCast, pow_big k (by omega) (n : Int) (by omega) (by omega)]
      rfl)
    have y1 : decide ((k : Int) < 0) = false := by simp
    have y2 : decide ((15 : Int) < (k : Int)) = true := by simp; omega
    have y2' : decide (15 < k) = true := by simp; omega
    clear hk
    go_enter Tryz.func82, Tryz.ntmps82
    go_wp2_with fail
    go_ret
    exact ⟨ret_bool HB.out.symm, by first | trivial | rfl⟩
  have i1 := hid (powR_any k w hk)
  have HB : Hid (bitI (n : Int) (k : Int) = ((n / 2 ^ k % 2 == 1))) := hid (bitI_nat n k)
  have hP : 0 < 2 ^ k := Nat.two_pow_pos k
  have hP2 : 2 ^ k ≤ 32768 := (show 2 ^ k ≤ 2 ^ 15 from Nat.pow_le_pow_right (by omega) hk)
  generalize 2 ^ k = P at *
  have hm : (n : Int) % 65536 = (n : Int) := by omega
  have y0 : ((P : Int) == 0) = false := by simp; omega
  have y1 : decide ((k : Int) < 0) = false := by simp
  have y2 : decide ((15 : Int) < (k : Int)) = false := by simp; omega
  have y3 : decide ((n : Int) < 0) = false := by simp
  go_enter Tryz.func82, Tryz.ntmps82
  go_wp2_with fail
  refine i1.out.mono ?_
  rintro e w1 ⟨rfl, rfl⟩
  go_wp2_with fail
  go_ret
  refine ⟨ret_bool ?_, rfl⟩
  rw [HB.out]
  have h1 : n / P ≤ n := Nat.div_le_self n P
  rw [show (n : Int) / (P : Int) = ((n / P : Nat) : Int) from (Int.natCast_ediv n P).symm]
  generalize n / P = q at *
  rw [IntWalk.wrap64_in _ ⟨by omega, by omega⟩, show Int.tmod ((q : Nat) : Int) 2 = ((q % 2 : Nat) : Int) from by rw [Int.tmod_eq_emod_of_nonneg (by omega)]; omega]
  rw [Bool.eq_iff_iff, beq_iff_eq, beq_iff_eq]
  omega
def needF (o : Nat) : Nat × Nat := match o with
  | 1 | 10 | 18 => (0, 1)
  | 2 | 11 | 13 | 14 => (1, 0)
  | 3 => (1, 2)
  | 4 => (2, 2)
  | 5 | 6 | 7 | 8 | 9 => (2, 1)
  | 15 => (0, 2)
  | _ => (0, 0)
set_option maxHeartbeats 4000000 in
theorem needs_any (o : Nat) (ho : o ≤ 18) (w : World) :
    Calls Tryz.prog 83 #[.int .i64 (o : Int)] w fun e w' => e = .returned (.agg #[.int .i64 ((needF o).1 : Int), .int .i64 ((needF o).2 : Int)]) ∧ Below w.heap.size w w' := by
  have h19 : o = 0 ∨ o = 1 ∨ o = 2 ∨ o = 3 ∨ o = 4 ∨ o = 5 ∨ o = 6 ∨ o = 7 ∨ o = 8 ∨ o = 9 ∨ o = 10 ∨ o = 11 ∨ o = 12 ∨ o = 13 ∨ o = 14 ∨ o = 15 ∨ o = 16 ∨ o = 17 ∨ o = 18 := by omega
  clear ho
  rcases h19 with rfl | rfl | rfl | rfl | rfl | rfl | rfl | rfl | rfl | rfl | rfl | rfl | rfl | rfl | rfl | rfl | rfl | rfl | rfl
  all_goals
    go_enter Tryz.func83, Tryz.ntmps83
    go_wp2_with fail
    go_returns
    exact ⟨rfl, (Below.refl w.heap.size w).alloc (Nat.le_refl _) _⟩

set_option maxHeartbeats 4000000 in
theorem argR_any (o : Nat) (ho : o ≤ 18) (w : World) : Calls Tryz.prog 81 #[.int .i64 (o : Int)] w fun e w' => e = .returned (.bool (hasArg o)) ∧ w' = w := by
  have h19 : o = 0 ∨ o = 1 ∨ o = 2 ∨ o = 3 ∨ o = 4 ∨ o = 5 ∨ o = 6 ∨ o = 7 ∨ o = 8 ∨ o = 9 ∨ o = 10 ∨ o = 11 ∨ o = 12 ∨ o = 13 ∨ o = 14 ∨ o = 15 ∨ o = 16 ∨ o = 17 ∨ o = 18 := by omega
  clear ho
  rcases h19 with rfl | rfl | rfl | rfl | rfl | rfl | rfl | rfl | rfl | rfl | rfl | rfl | rfl | rfl | rfl | rfl | rfl | rfl | rfl
  all_goals
    go_enter Tryz.func81, Tryz.ntmps81
    go_wp2_with fail
    go_ret
    exact ⟨rfl, by first | trivial | rfl⟩
end Go.Proofs.YtidlahljhgglcaaGreat
