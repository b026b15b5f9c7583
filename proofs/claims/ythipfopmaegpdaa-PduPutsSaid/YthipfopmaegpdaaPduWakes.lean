/-
  Law 08: the example holds.
-/
import Derived.Test.YthipfopmaegpdaaPduPut
namespace Go.Proofs.Ythipfopmaegpdaa
open Go.RowKit Go.ChangeShapes Go.WideShapes Go.ChangeAt

def pdu0 : PduS := ⟨3, 1, 0, 0, 0, 0, 0, 0, []⟩
theorem pdu0_right : rightP pdu0 = true := by decide
theorem pdu0_len : (pduB pdu0).length = 7 := by decide +kernel
theorem pdu0_take : (pduB pdu0).take 3 = [3, 0, 1] := by decide +kernel

set_option maxRecDepth 100000 in
theorem pduWakes_any (w : World) : Calls Try.prog 14 #[] w fun e w' => e = .returned (.bool true) ∧ Below w.heap.size w w' := by
  have i1 := hid (Put_ok pdu0 none 0 w pdu0_right Reads.empty)
  have ht := hid pdu0_take
  simp only [pdu0_len] at i1
  generalize pduB pdu0 = PB at i1 ht
  simp only [pdu0, List.length_nil] at i1
  go_enter Try.func14, Try.ntmps14
  go_wp2_with fail
  refine i1.out.mono ?_
  rintro e w1 ⟨A1, d1, rfl, hown1, hb1⟩
  obtain ⟨h7, hd⟩ := own_cap hown1
  have HR := hid ((Reads.of_own hown1).front (k := 3) (by omega))
  have hd3 : (3 : Int) ≤ (d1 : Int) := by omega
  clear hown1
  go_wp2_with fail
  have H3 : Hid (Reads w1 w1.heap.size 1 A1 3 (([3, 0, 1] : List UInt8).map bV)) := hid (by
    have h := HR.out
    rw [Nat.mul_one, ← List.map_take, ht.out] at h
    exact h)
  have H4 := hid (reads_new w1 (([3, 0, 1] : List UInt8).map bV) 5 3 rfl)
  refine (same_b _ _ 3 3 _ _ [3, 0, 1] [3, 0, 1] _ (H3.out.belowS ((Below.refl _ _).alloc (Nat.le_refl _) _)) H4.out (by omega) (by omega)).mono ?_
  rintro e w2 ⟨rfl, hb2⟩
  have hb3 := hid (bel_trans (hb1.alloc hb1.size _) hb2)
  go_wp2_with fail
  go_ret
  exact ⟨rfl, hb3.out⟩
end Go.Proofs.Ythipfopmaegpdaa
