/-
  The roots of primes from which digests begin, in plain words: their first 32 bits behind the point are the constants of package sha.
-/
import Derived.Test.YtojffpfgmlegdaaShaPlain
namespace Go.Proofs.Ytojffpfgmlegdaa

def primes64 : List Nat := [2, 3, 5, 7, 11, 13, 17, 19, 23, 29, 31, 37, 41, 43, 47, 53, 59, 61, 67, 71, 73, 79, 83, 89, 97, 101, 103, 107, 109, 113, 127, 131, 137, 139, 149, 151, 157, 163, 167, 173, 179, 181, 191, 193, 197, 199, 211, 223, 227, 229, 233, 239, 241, 251, 257, 263, 269, 271, 277, 281, 283, 293, 307, 311]
/-- Cube roots of the primes, times 2^32, cut. -/
def cubes : List Nat := [5411319704, 6194414737, 7344290767, 8215976869, 9551921755, 10098905585, 11043570340, 11460697813, 12214315672, 13195500289, 13492127166, 14311783875, 14809980276, 15046980094, 15499789991, 16133124468, 16720292289, 16907126662, 17444216262, 17784676812, 17950125167, 18429019306, 18734950876, 19175934170, 19734090066, 20001703533, 20132865992, 20390182855, 20516441075, 20764397895, 21588763473, 21813078375, 22141143685, 22248366392, 22769593852, 22871018771, 23170020180, 23461497531, 23651862830, 23931792517, 24205322401, 24295138891, 24734567280, 24820601251, 24990902297, 25075189284, 25569408389, 26045227120, 26200031510, 26276752392, 26428864332, 26653801653, 26727943347, 27092625994, 27306805839, 27517677555, 27725365998, 27793908591, 27997534228, 28131656200, 28198240250, 28526537963, 28973835255, 29099129074]
/-- Square roots of the first eight. -/
def squares : List Nat := [6074000999, 7439101573, 9603838834, 11363415354, 14244795007, 15485724812, 17708603819, 18721328409]
/-- m / 2^32 to the degree d is at most p. -/
def fitsB (m p d : Nat) : Bool := decide (m ^ d ≤ p * 4294967296 ^ d)
theorem cubes_ok : ∀ i : Fin 64, fitsB (cubes.getD i.val 0) (primes64.getD i.val 0) 3 = true ∧ fitsB (cubes.getD i.val 0 + 1) (primes64.getD i.val 0) 3 = false ∧ cubes.getD i.val 0 < 34359738368 ∧ cubes.getD i.val 0 % 4294967296 = (shaK.getD i.val 0).toNat := by decide +kernel
theorem squares_ok : ∀ i : Fin 8, fitsB (squares.getD i.val 0) (primes64.getD i.val 0) 2 = true ∧ fitsB (squares.getD i.val 0 + 1) (primes64.getD i.val 0) 2 = false ∧ squares.getD i.val 0 < 34359738368 := by decide +kernel
theorem squares_new : squares.map (· % 4294967296) = [shNew.v.a.toNat, shNew.v.b.toNat, shNew.v.c.toNat, shNew.v.d.toNat, shNew.v.e.toNat, shNew.v.f.toNat, shNew.v.g.toNat, shNew.v.h.toNat] := by decide +kernel
theorem fitsB_mono (p d : Nat) {m n : Nat} (h : m ≤ n) (hn : fitsB n p d = true) : fitsB m p d = true := by
  unfold fitsB at *
  have := of_decide_eq_true hn
  exact decide_eq_true (Nat.le_trans (Nat.pow_le_pow_left h d) this)
/-- Sought by halves: where low fits and high doesn't, and they are next to one another, low is the one that fits whose next doesn't. -/
theorem halves_end (p d r low high : Nat) (hr : fitsB r p d = true) (hr1 : fitsB (r + 1) p d = false) (hl : fitsB low p d = true) (hh : fitsB high p d = false) (hn : high ≤ low + 1) : low = r := by
  have h1 : low ≤ r := by
    rcases Nat.lt_or_ge r low with h | h
    · have := fitsB_mono p d (show r + 1 ≤ low from h) hl
      rw [hr1] at this
      cases this
    · exact h
  have h2 : r < high := by
    rcases Nat.lt_or_ge r high with h | h
    · exact h
    · have := fitsB_mono p d h hr
      rw [hh] at this
      cases this
  omega
end Go.Proofs.Ytojffpfgmlegdaa
