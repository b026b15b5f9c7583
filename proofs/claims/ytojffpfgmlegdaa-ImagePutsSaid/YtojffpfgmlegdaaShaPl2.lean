/-
  Digests in plain words: the words of a block, laid one behind the other.
-/
import Derived.Test.YtojffpfgmlegdaaShaPlain
namespace Go.Proofs.Ytojffpfgmlegdaa

theorem wordsN_len (p : List UInt8) : ∀ n, (wordsN p n).length = n
  | 0 => rfl
  | n + 1 => by simp [wordsN, wordsN_len p n]
theorem wordsN_get (p : List UInt8) : ∀ n i, i < n → ∀ m, n ≤ m → (wordsN p m)[i]? = (wordsN p n)[i]? := by
  intro n i hi m hm
  induction m with
  | zero => omega
  | succ m ih =>
    by_cases h : n = m + 1
    · subst h; rfl
    · rw [← ih (by omega)]
      show (wordsN p m ++ _)[i]? = _
      rw [List.getElem?_append_left (by rw [wordsN_len]; omega)]
/-- The words of a block, those from k on not laid yet. -/
def layW (p : List UInt8) (k : Nat) : List (BitVec 32) := wordsN p k ++ List.replicate (64 - k) 0#32
theorem layW_len (p : List UInt8) (k : Nat) (h : k ≤ 64) : (layW p k).length = 64 := by simp [layW, wordsN_len]; omega
theorem layW_old (p : List UInt8) (k i : Nat) (h : i < k) : (layW p k)[i]? = some ((wordsN p k).getD i 0) := by
  have hl : i < (wordsN p k).length := by rw [wordsN_len]; exact h
  unfold layW
  rw [List.getElem?_append_left hl, List.getD_eq_getElem?_getD, List.getElem?_eq_getElem hl]
  rfl
theorem layW_new (p : List UInt8) (k : Nat) (h : k < 64) : (layW p k)[k]? = some 0#32 := by
  unfold layW
  rw [List.getElem?_append_right (by rw [wordsN_len]; omega), wordsN_len, Nat.sub_self, List.getElem?_replicate, if_pos (by omega)]
theorem layW_set (p : List UInt8) (k : Nat) (h : k < 64) : (layW p k).set k (nextW p (wordsN p k)) = layW p (k + 1) := by
  unfold layW
  rw [List.set_append_right _ _ (by rw [wordsN_len]; omega), wordsN_len, Nat.sub_self]
  obtain ⟨m, hm⟩ : ∃ m, 64 - k = m + 1 := ⟨63 - k, by omega⟩
  rw [hm, show 64 - (k + 1) = m by omega, List.replicate_succ, List.set_cons_zero]
  show _ = (wordsN p k ++ [nextW p (wordsN p k)]) ++ _
  simp
theorem layW_all (p : List UInt8) : layW p 64 = wordsN p 64 := by simp [layW]
/-- Bytes 4k .. 4k + 3 of a block. -/
def sh_four (p : List UInt8) (k : Nat) : List UInt8 := (p.drop (4 * k)).take 4
theorem four_len (p : List UInt8) (k : Nat) (hp : p.length = 64) (h : k < 16) : (sh_four p k).length = 4 := by simp [sh_four]; omega
theorem four_get (p : List UInt8) (k j : Nat) (hp : p.length = 64) (h : k < 16) (hj : j < 4) : (sh_four p k)[j]? = p[4 * k + j]? := by
  simp [sh_four, hj]
theorem word4_snoc (l : List UInt8) (c : UInt8) : word4 (l ++ [c]) = word4 l * 256#32 + BitVec.ofNat 32 c.toNat := by simp [word4]
theorem word4_val (x : BitVec 32) (c : UInt8) : ((x.toNat : Int) * 256 % 4294967296 + (c.toNat : Int)) % 4294967296 = ((x * 256#32 + BitVec.ofNat 32 c.toNat).toNat : Int) := by
  have hc := c.toNat_lt
  rw [BitVec.toNat_add, BitVec.toNat_mul]
  simp only [BitVec.toNat_ofNat]
  omega
theorem nextW_low (p : List UInt8) (k : Nat) (h : k < 16) : nextW p (wordsN p k) = word4 (sh_four p k) := by
  unfold nextW
  simp only [wordsN_len, if_pos h]
  rfl
theorem nextW_high (p : List UInt8) (k : Nat) (h : 16 ≤ k) : nextW p (wordsN p k) = sh_spread ((wordsN p k).getD (k - 2) 0) 17 19 10 + sh_spread ((wordsN p k).getD (k - 15) 0) 7 18 3 + (wordsN p k).getD (k - 7) 0 + (wordsN p k).getD (k - 16) 0 := by
  unfold nextW
  simp only [wordsN_len, if_neg (show ¬ k < 16 by omega)]
theorem layW_zero (p : List UInt8) (k : Nat) (hk2 : k < 64) : (layW p k).set k (word4 ((sh_four p k).take 0)) = layW p k := by
  apply List.ext_getElem
  · simp
  · intro i h1 h2
    rw [List.getElem_set]
    split
    · rename_i h; subst h
      have := layW_new p k hk2
      rw [List.getElem?_eq_getElem (by simpa using h1)] at this
      injection this with this
      rw [this]
      simp [word4]
    · rfl
end Go.Proofs.Ytojffpfgmlegdaa
