/-
  Digests in plain words: a round as the reference says it is a round as the program does it.
-/
import Derived.Test.YtojffpfgmlegdaaShaPl2
namespace Go.Proofs.Ytojffpfgmlegdaa

theorem rot_bit (x : BitVec 32) (n i : Nat) (hn : n < 32) (hi : i < 32) : (x.rotateRight n).getLsbD i = x.getLsbD ((i + n) % 32) := by
  rw [BitVec.getLsbD_rotateRight_of_lt hn]
  by_cases h : i < 32 - n
  · simp only [h, if_true, decide_true, cond_true]
    congr 1
    omega
  · have e : (i + n) % 32 = i - (32 - n) := by omega
    simp [h, hi, e]
theorem rot_add (x : BitVec 32) (a b : Nat) (h : a + b < 32) : (x.rotateRight a).rotateRight b = x.rotateRight (a + b) := by
  apply BitVec.eq_of_getLsbD_eq
  intro i hi
  rw [rot_bit _ _ _ (by omega) hi, rot_bit _ _ _ (by omega) (by omega), rot_bit _ _ _ h hi]
  congr 1
  omega
theorem rot_xor (x y : BitVec 32) (a : Nat) (h : a < 32) : (x ^^^ y).rotateRight a = x.rotateRight a ^^^ y.rotateRight a := by
  apply BitVec.eq_of_getLsbD_eq
  intro i hi
  rw [BitVec.getLsbD_xor, rot_bit _ _ _ h hi, rot_bit _ _ _ h hi, rot_bit _ _ _ h hi, BitVec.getLsbD_xor]
/-- The rounds' words, as the reference mixes them. -/
def refX (v : Sh8) (k w : BitVec 32) : BitVec 32 := v.h + (v.e.rotateRight 6 ^^^ v.e.rotateRight 11 ^^^ v.e.rotateRight 25) + ((v.e &&& v.f) ||| ((4294967295#32 - v.e) &&& v.g)) + k + w
def refY (v : Sh8) : BitVec 32 := (v.a.rotateRight 2 ^^^ v.a.rotateRight 13 ^^^ v.a.rotateRight 22) + (((v.a &&& v.b) ||| (v.a &&& v.c)) ||| (v.b &&& v.c))
theorem not_sub (x : BitVec 32) : 4294967295#32 - x = ~~~x := by
  rw [show (4294967295#32 : BitVec 32) = BitVec.allOnes 32 from rfl, BitVec.allOnes_sub_eq_not]
theorem ch_eq (e f g : BitVec 32) : (((f ^^^ g) &&& e) ^^^ g) = ((e &&& f) ||| ((4294967295#32 - e) &&& g)) := by
  rw [not_sub]
  apply BitVec.eq_of_getLsbD_eq
  intro i hi
  simp only [BitVec.getLsbD_xor, BitVec.getLsbD_and, BitVec.getLsbD_or, BitVec.getLsbD_not, hi, decide_true, Bool.true_and]
  cases e.getLsbD i <;> cases f.getLsbD i <;> cases g.getLsbD i <;> rfl
theorem maj_eq (a b c : BitVec 32) : (((a ||| b) &&& c) ||| (a &&& b)) = (((a &&& b) ||| (a &&& c)) ||| (b &&& c)) := by
  apply BitVec.eq_of_getLsbD_eq
  intro i hi
  simp only [BitVec.getLsbD_and, BitVec.getLsbD_or]
  cases a.getLsbD i <;> cases b.getLsbD i <;> cases c.getLsbD i <;> rfl
theorem lower_eq (v : Sh8) (k w : BitVec 32) : v.lower + (k + w) = refX v k w := by
  unfold Sh8.lower refX
  rw [ch_eq, rot_xor _ _ 5 (by omega), rot_add _ 14 5 (by omega), rot_xor _ _ 6 (by omega), rot_xor _ _ 6 (by omega), rot_add _ 19 6 (by omega), rot_add _ 5 6 (by omega)]
  rw [show (v.e.rotateRight 25 ^^^ v.e.rotateRight 11 ^^^ v.e.rotateRight 6) = (v.e.rotateRight 6 ^^^ v.e.rotateRight 11 ^^^ v.e.rotateRight 25) by
    rw [BitVec.xor_comm, BitVec.xor_comm (v.e.rotateRight 25), ← BitVec.xor_assoc]]
  simp only [BitVec.add_assoc]
theorem upper_eq (v : Sh8) : v.upper = refY v := by
  unfold Sh8.upper refY
  rw [maj_eq, rot_xor _ _ 11 (by omega), rot_add _ 9 11 (by omega), rot_xor _ _ 2 (by omega), rot_xor _ _ 2 (by omega), rot_add _ 20 2 (by omega), rot_add _ 11 2 (by omega)]
  rw [show (v.a.rotateRight 22 ^^^ v.a.rotateRight 13 ^^^ v.a.rotateRight 2) = (v.a.rotateRight 2 ^^^ v.a.rotateRight 13 ^^^ v.a.rotateRight 22) by
    rw [BitVec.xor_comm, BitVec.xor_comm (v.a.rotateRight 22), ← BitVec.xor_assoc]]
theorem round_eq (v : Sh8) (k w : BitVec 32) : v.round (k + w) = ⟨refX v k w + refY v, v.a, v.b, v.c, v.d + refX v k w, v.e, v.f, v.g⟩ := by
  unfold Sh8.round
  rw [lower_eq, upper_eq]
end Go.Proofs.Ytojffpfgmlegdaa
