/-
  Digests plainly: the padded text, block by block, has the digest.
-/
import Derived.Test.YtojffpfgmlegdaaShaPl3
namespace Go.Proofs.Ytojffpfgmlegdaa

def padM (b : List UInt8) : List UInt8 := b ++ [128] ++ List.replicate (zerosTo (b.length + 1)) 0 ++ long8 b.length
def blkV : Nat → Sh8 → List UInt8 → Sh8
  | 0, v, _ => v
  | k + 1, v, l => fullV ((l.drop (64 * k)).take 64) (blkV k v l)
theorem padM_len (b : List UInt8) : (padM b).length = b.length + 1 + zerosTo (b.length + 1) + 8 := by simp [padM, long8_len]; omega
theorem padM_mod (b : List UInt8) : (padM b).length % 64 = 0 := by
  rw [padM_len]
  have := zerosTo_end (b.length + 1)
  omega
theorem mix_set (p q : List UInt8) (k : Nat) (c : UInt8) (hq : q.length = 64) (hk : k < 64) (hc : p[k]? = some c) : (p.take k ++ q.drop k).set k c = p.take (k + 1) ++ q.drop (k + 1) := by
  have hkp := (List.getElem?_eq_some_iff.1 hc).1
  have hl : (p.take k).length = k := by rw [List.length_take]; omega
  rw [List.set_append_right _ _ (by omega), hl, Nat.sub_self, List.take_add_one, hc, List.append_assoc]
  congr 1
  rw [List.drop_eq_getElem_cons (show k < q.length by omega)]
  rfl
theorem put_in (s : ShS) (c : UInt8) (h : (s.n + 1) % 64 ≠ 0) : s.put c = ⟨s.v, s.part.set (s.n % 64) c, s.n + 1⟩ := by
  unfold ShS.put
  simp only
  rw [if_neg h]
theorem put_full (s : ShS) (c : UInt8) (h : (s.n + 1) % 64 = 0) : s.put c = ⟨fullV (s.part.set (s.n % 64) c) s.v, s.part.set (s.n % 64) c, s.n + 1⟩ := by
  unfold ShS.put
  simp only
  rw [if_pos h]
theorem write_part (s : ShS) (p : List UInt8) (hn : s.n % 64 = 0) (hq : s.part.length = 64) (hp : p.length = 64) : ∀ k, k ≤ 63 → s.write (p.take k) = ⟨s.v, p.take k ++ s.part.drop k, s.n + k⟩
  | 0, _ => by simp [ShS.write]
  | k + 1, hk => by
    have hc : p[k]? = some p[k] := List.getElem?_eq_getElem (by omega)
    have e : p.take (k + 1) = p.take k ++ [p[k]] := by rw [List.take_add_one, hc]; rfl
    rw [e, sh_write_snoc, write_part s p hn hq hp k (by omega), put_in _ _ (by simp only; omega)]
    simp only
    rw [show (s.n + k) % 64 = k by omega, mix_set p s.part k p[k] hq (by omega) hc, e, Nat.add_assoc]
theorem write_blk (s : ShS) (p : List UInt8) (hn : s.n % 64 = 0) (hq : s.part.length = 64) (hp : p.length = 64) : s.write p = ⟨fullV p s.v, p, s.n + 64⟩ := by
  have hc : p[63]? = some p[63] := List.getElem?_eq_getElem (by omega)
  have e : p = p.take 63 ++ [p[63]] := by
    have h1 : p.take 64 = p := List.take_of_length_le (by omega)
    have h2 : p.take (63 + 1) = p.take 63 ++ [p[63]] := by rw [List.take_add_one, hc]; rfl
    rw [← h2]; exact h1.symm
  have h3 : s.write p = (s.write (p.take 63)).put p[63] := by
    conv => lhs; rw [e]
    rw [sh_write_snoc]
  have h4 : (p.take 63 ++ s.part.drop 63).set 63 p[63] = p := by
    rw [mix_set p s.part 63 p[63] hq (by omega) hc, List.take_of_length_le (by omega), List.drop_of_length_le (by omega), List.append_nil]
  rw [h3, write_part s p hn hq hp 63 (by omega), put_full _ _ (by simp only; omega)]
  simp only
  rw [show (s.n + 63) % 64 = 63 by omega, h4]
theorem write_blks (s : ShS) (l : List UInt8) (hn : s.n % 64 = 0) (hq : s.part.length = 64) : ∀ k, 64 * k ≤ l.length → (s.write (l.take (64 * k))).v = blkV k s.v l ∧ (s.write (l.take (64 * k))).n % 64 = 0 ∧ (s.write (l.take (64 * k))).part.length = 64
  | 0, _ => ⟨rfl, by simpa [ShS.write] using hn, by simpa [ShS.write] using hq⟩
  | k + 1, hk => by
    obtain ⟨h1, h2, h3⟩ := write_blks s l hn hq k (by omega)
    have e : l.take (64 * (k + 1)) = l.take (64 * k) ++ (l.drop (64 * k)).take 64 := by
      rw [show 64 * (k + 1) = 64 * k + 64 by omega, List.take_add]
    have hp : ((l.drop (64 * k)).take 64).length = 64 := by rw [List.length_take, List.length_drop]; omega
    rw [e, sh_write_append, write_blk _ _ h2 h3 hp]
    refine ⟨?_, ?_, hp⟩
    · show fullV _ _ = fullV _ _
      rw [h1]
    · simp only
      omega
theorem pad_write : ∀ (k : Nat) (s : ShS), zerosTo s.n ≤ k → s.pad k = s.write (List.replicate (zerosTo s.n) 0)
  | 0, s, h => by
    rw [Nat.le_zero.1 h]
    rfl
  | k + 1, s, h => by
    by_cases h56 : s.n % 64 = 56
    · rw [sh_pad_done s k h56, show zerosTo s.n = 0 by unfold zerosTo; omega]
      rfl
    · rw [sh_pad_succ s k h56]
      have hz : zerosTo s.n = zerosTo (s.put 0).n + 1 := by rw [sh_put_n]; unfold zerosTo; omega
      rw [pad_write k (s.put 0) (by omega), hz, List.replicate_succ]
      rfl
theorem shaOf_blk (b : List UInt8) : shaOf b = sumL (blkV ((padM b).length / 64) shNew.v (padM b)) := by
  have hn : (shNew.write b).n = b.length := by rw [sh_write_n]; simp [shNew]
  unfold shaOf
  rw [sum_eq, pad_write 64 _ (Nat.le_of_lt (zerosTo_lt _)), sh_put_n, hn]
  have h1 : ((((shNew.write b).put 128).write (List.replicate (zerosTo (b.length + 1)) 0)).write (long8 b.length)) = shNew.write (padM b) := by
    unfold padM
    rw [sh_write_append, sh_write_append, sh_write_append]
    rfl
  rw [h1]
  have hm := padM_mod b
  obtain ⟨K, hK⟩ : ∃ K, (padM b).length = 64 * K := ⟨(padM b).length / 64, by omega⟩
  have h2 := (write_blks shNew (padM b) (by decide) (by simp [shNew]) K (by omega)).1
  rw [List.take_of_length_le (by omega)] at h2
  rw [h2, hK, Nat.mul_div_cancel_left _ (by omega)]
end Go.Proofs.Ytojffpfgmlegdaa
