/-
  The reference of bits: Power, Has.
-/
import Derived.Test.YthnifgcoikmihaaBase
import Derived.IntWalk
import Derived.Test.YthnifgcoikmihaaCompPlain
namespace Go.Proofs.Ythnifgcoikmihaa
open Go.RowKit

theorem pow_any (k : Nat) (w : World) (hk : k ≤ 15) :
    Calls Try.prog 47 #[.int .i64 (k : Int)] w fun e w' => e = .returned (.int .i64 ((2 ^ k : Nat) : Int)) ∧ w = w' := by
  have HP : Hid (∀ j, j ≤ k → 2 ^ j ≤ 32768) := hid (fun j hj => (show 2 ^ j ≤ 2 ^ 15 from Nat.pow_le_pow_right (by omega) (by omega)))
  have HS : Hid (∀ j, 2 ^ (j + 1) = 2 ^ j + 2 ^ j) := hid (fun j => by rw [Nat.pow_succ]; omega)
  obtain ⟨P, hP⟩ : ∃ P, 2 ^ k = P := ⟨_, rfl⟩
  rw [hP]
  have HQ := hid hP
  clear hP
  go_enter Try.func47, Try.ntmps47
  go_wp2_with fail
  go_loop [3, 4] (fun v3 v4 => ∃ j m : Nat, j ≤ k ∧ v4 = .int .i64 (j : Int) ∧ v3 = .int .i64 (m : Int) ∧ Hid (m = 2 ^ j) ∧ m ≤ 32768) (fun _ v4 => k - (intOf v4).toNat)
  case atStart => exact ⟨0, 1, by omega, rfl, rfl, hid rfl, by omega⟩
  case round =>
    obtain ⟨j, m, hj, rfl, rfl, HM, hm⟩ := hrel
    by_cases hjk : j < k
    · have hm2 : m + m ≤ 32768 := by rw [HM.out, ← HS.out]; exact HP.out _ (by omega)
      have HM2 : Hid (m + m = 2 ^ (j + 1)) := hid (by rw [HS.out, HM.out])
      go_wp2_with fail
      go_round
      case rel => exact ⟨j + 1, m + m, by omega, by go_num, by go_num, HM2, hm2⟩
      case measure => simp [intOf]; omega
    · obtain rfl : j = k := by omega
      obtain rfl : m = P := by rw [HM.out, HQ.out]
      go_wp2_with fail
      go_ret
      exact ⟨rfl, rfl⟩
theorem refHas_any (n k : Nat) (w : World) (hn : n < 16) (hk : k ≤ 15) :
    Calls Try.prog 32 #[.int .i64 (n : Int), .int .i64 (k : Int)] w fun e w' => e = .returned (.bool (bitB n k)) ∧ w = w' := by
  have i1 := hid (pow_any k w hk)
  have HB : Hid (bitB n k = ((n / 2 ^ k % 2 == 1))) := hid rfl
  have hP : 0 < 2 ^ k := Nat.two_pow_pos k
  have hP2 : 2 ^ k ≤ 32768 := (show 2 ^ k ≤ 2 ^ 15 from Nat.pow_le_pow_right (by omega) hk)
  generalize 2 ^ k = P at *
  have hm : (n : Int) % 65536 = (n : Int) := by omega
  have y0 : ((P : Int) == 0) = false := by simp; omega
  have y1 : decide ((k : Int) < 0) = false := by simp
  have y2 : decide ((15 : Int) < (k : Int)) = false := by simp; omega
  have y3 : decide ((n : Int) < 0) = false := by simp
  go_enter Try.func32, Try.ntmps32
  go_wp2_with fail
  refine i1.out.mono ?_
  rintro e w1 ⟨rfl, rfl⟩
  go_wp2_with fail
  go_ret
  refine ⟨ret_bool ?_, rfl⟩
  rw [HB.out]
  have h1 : n / P ≤ n := Nat.div_le_self n P
  rw [show (n : Int) / (P : Int) = ((n / P : Nat) : Int) from (Int.natCast_ediv n P).symm]
  generalize n / P = q at *
  rw [IntWalk.wrap64_in _ ⟨by omega, by omega⟩, show Int.tmod ((q : Nat) : Int) 2 = ((q % 2 : Nat) : Int) from by rw [Int.tmod_eq_emod_of_nonneg (by omega)]; omega]
  rw [Bool.eq_iff_iff, beq_iff_eq, beq_iff_eq]
  omega
end Go.Proofs.Ythnifgcoikmihaa
