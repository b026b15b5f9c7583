/-
  Digests in plain words: padding, the length's bytes, the digest's bytes.
-/
import Derived.Test.YtojffpfgmlegdaaShaPlain
namespace Go.Proofs.Ytojffpfgmlegdaa

/-- How many zeros there are to come up to eight bytes ahead of a block's end. -/
def zerosTo (n : Nat) : Nat := (56 + 64 - n % 64) % 64
theorem zerosTo_lt (n : Nat) : zerosTo n < 64 := by unfold zerosTo; omega
theorem zerosTo_end (n : Nat) : (n + zerosTo n) % 64 = 56 := by unfold zerosTo; omega
theorem sh_pad_succ (s : ShS) (k : Nat) (h : s.n % 64 ≠ 56) : s.pad (k + 1) = (s.put 0).pad k := by
  show (if s.n % 64 = 56 then s else (s.put 0).pad k) = _
  rw [if_neg h]
theorem sh_pad_done (s : ShS) (k : Nat) (h : s.n % 64 = 56) : s.pad (k + 1) = s := by
  show (if s.n % 64 = 56 then s else (s.put 0).pad k) = _
  rw [if_pos h]
theorem long8_len (n : Nat) : (long8 n).length = 8 := by simp [long8]
theorem long8_get (n j : Nat) (h : j < 8) : (long8 n)[j]? = some (UInt8.ofNat (n * 8 / 2 ^ (56 - 8 * j))) := by simp [long8, h]
/-- The words of a digest, as a list. -/
def Sh8.list (v : Sh8) : List (BitVec 32) := [v.a, v.b, v.c, v.d, v.e, v.f, v.g, v.h]
def sumL (v : Sh8) : List UInt8 := out4 v.a ++ out4 v.b ++ out4 v.c ++ out4 v.d ++ out4 v.e ++ out4 v.f ++ out4 v.g ++ out4 v.h
theorem sum_eq (s : ShS) : s.sum = sumL (((s.put 0x80).pad 64).write (long8 s.n)).v := rfl
theorem out4_eq (x : BitVec 32) : out4 x = [UInt8.ofNat (x.toNat / 2 ^ 24), UInt8.ofNat (x.toNat / 2 ^ 16), UInt8.ofNat (x.toNat / 2 ^ 8), UInt8.ofNat (x.toNat / 2 ^ 0)] := rfl
theorem sumL_len (v : Sh8) : (sumL v).length = 32 := rfl
theorem sumL_get (v : Sh8) (i k : Nat) (hi : i < 8) (hk : k < 4) : (sumL v)[4 * i + k]? = some (UInt8.ofNat ((v.list.getD i 0).toNat / 2 ^ (24 - 8 * k))) := by
  have : i = 0 ∨ i = 1 ∨ i = 2 ∨ i = 3 ∨ i = 4 ∨ i = 5 ∨ i = 6 ∨ i = 7 := by omega
  have h2 : k = 0 ∨ k = 1 ∨ k = 2 ∨ k = 3 := by omega
  rcases this with rfl | rfl | rfl | rfl | rfl | rfl | rfl | rfl <;> rcases h2 with rfl | rfl | rfl | rfl <;> rfl
/-- Bytes of which the first j are laid. -/
def layB (l : List UInt8) (j : Nat) : List UInt8 := l.take j ++ List.replicate (32 - j) 0
theorem layB_len (l : List UInt8) (j : Nat) (hl : l.length = 32) (h : j ≤ 32) : (layB l j).length = 32 := by simp [layB, hl]; omega
theorem layB_all (l : List UInt8) (hl : l.length = 32) : layB l 32 = l := by simp [layB, ← hl]
theorem layB_zero (l : List UInt8) : layB l 0 = List.replicate 32 0 := by simp [layB]
theorem layB_set (l : List UInt8) (j : Nat) (x : UInt8) (hl : l.length = 32) (h : j < 32) (hx : l[j]? = some x) : (layB l j).set j x = layB l (j + 1) := by
  unfold layB
  have h1 : (l.take j).length = j := by rw [List.length_take]; omega
  rw [List.set_append_right _ _ (by omega), h1, Nat.sub_self]
  obtain ⟨m, hm⟩ : ∃ m, 32 - j = m + 1 := ⟨31 - j, by omega⟩
  rw [hm, show 32 - (j + 1) = m by omega, List.replicate_succ, List.set_cons_zero, List.take_add_one, hx]
  simp
theorem sh_write_snoc (s : ShS) (l : List UInt8) (c : UInt8) : s.write (l ++ [c]) = (s.write l).put c := by rw [sh_write_append]; rfl
theorem sh_pad_len : ∀ (k : Nat) (s : ShS), (s.pad k).part.length = s.part.length
  | 0, s => rfl
  | k + 1, s => by
    show (if s.n % 64 = 56 then s else (s.put 0).pad k).part.length = _
    split
    · rfl
    · rw [sh_pad_len k, sh_put_len]
end Go.Proofs.Ytojffpfgmlegdaa
