/-
  The first primes, plainly.
-/
import Derived.Test.YtojffpfgmlegdaaRootPlain
namespace Go.Proofs.Ytojffpfgmlegdaa

def prAdd (l : List Nat) (p : Nat) : List Nat := if l.all (fun q => p % q != 0) then l ++ [p] else l
/-- The primes below k + 2. -/
def prUp : Nat → List Nat
  | 0 => []
  | k + 1 => prAdd (prUp k) (k + 2)
theorem prUp_309 : (prUp 309).length = 63 := by decide +kernel
theorem prUp_310 : prUp 310 = primes64 := by decide +kernel
theorem prUp_le (k : Nat) : (prUp k).length ≤ (prUp (k + 1)).length := by
  show _ ≤ (prAdd (prUp k) (k + 2)).length
  unfold prAdd
  split <;> simp
theorem prUp_mono (a : Nat) : ∀ d, (prUp a).length ≤ (prUp (a + d)).length
  | 0 => Nat.le_refl _
  | d + 1 => Nat.le_trans (prUp_mono a d) (prUp_le (a + d))
theorem prUp_go {k : Nat} (hk : k ≤ 310) : (prUp k).length < 64 ↔ k < 310 := by
  constructor
  · intro h
    rcases Nat.lt_or_ge k 310 with h1 | h1
    · exact h1
    · have h2 : k = 310 := by omega
      rw [h2, prUp_310] at h
      exact absurd h (by decide)
  · intro h
    have h1 := prUp_mono k (309 - k)
    rw [show k + (309 - k) = 309 by omega, prUp_309] at h1
    omega
theorem prUp_two : ∀ k, ∀ q ∈ prUp k, 2 ≤ q ∧ q ≤ k + 1
  | 0, q, h => by simp [prUp] at h
  | k + 1, q, h => by
    have ih := prUp_two k
    change q ∈ prAdd (prUp k) (k + 2) at h
    unfold prAdd at h
    split at h
    · rcases List.mem_append.1 h with h1 | h1
      · have := ih q h1; omega
      · rw [List.mem_singleton.1 h1]; omega
    · have := ih q h; omega
theorem primes64_le : ∀ q ∈ primes64, q ≤ 1000 := by decide
end Go.Proofs.Ytojffpfgmlegdaa
