/-
  A number's bytes tell the number.
-/
import Derived.Test.YtojffpfgmlegdaaReaderS
namespace Go.Proofs.Ytojffpfgmlegdaa

theorem numOf_rng (m w : Nat) (hm : m < 256 ^ w) : ∀ k, k ≤ w → numOf ((digs m w).take k) = m / 256 ^ (w - k)
  | 0, _ => by rw [List.take_zero, Nat.sub_zero, Nat.div_eq_of_lt hm]; rfl
  | k + 1, hk => by
    rw [digs_take_succ m w k (by omega), numOf_snoc, numOf_rng m w hm k (by omega)]
    unfold dig
    rw [UInt8.toNat_ofNat', show w - k = (w - 1 - k) + 1 by omega, Nat.pow_succ, ← Nat.div_div_eq_div_mul, show w - (k + 1) = w - 1 - k by omega]
    have := Nat.div_add_mod (m / 256 ^ (w - 1 - k)) 256
    omega
theorem numOf_pB (n : Int) (w : Nat) (hw : w ≤ 6) : numOf (putB n w) = clip n w := by
  unfold putB
  have h := numOf_rng (clip n w) w (clip_lt n w hw) w (Nat.le_refl _)
  rw [List.take_of_length_le (by simp [digs])] at h
  rw [h]
  simp
theorem sum4_inj (x y : BitVec 32) (h : putB (x.toNat : Int) 4 = putB (y.toNat : Int) 4) : x = y := by
  have h1 := congrArg numOf h
  rw [numOf_pB _ _ (by omega), numOf_pB _ _ (by omega)] at h1
  have hx := x.isLt
  have hy := y.isLt
  unfold clip at h1
  have h2 : (256 : Nat) ^ 4 = 4294967296 := by decide
  rw [h2, Int.toNat_natCast, Int.toNat_natCast] at h1
  exact BitVec.eq_of_toNat_eq (by omega)
end Go.Proofs.Ytojffpfgmlegdaa
