/-
  From a row's reading of a slice of acts (three ints each) to the words of the walks.
-/
import Derived.Test.YtidlahljhgglcaaVmRuns
namespace Go.Proofs.Ytidlahljhgglcaa
open Go.ChangeShapes Go.WideShapes Go.ChangeAt Go.RowKit Go.Deep Go.Joins

section
variable {H : Type} {enc : TypeId × Value → H} {W : World}
set_option maxRecDepth 100000 in
theorem open_actsV {v : Value} {d : DataW H} {ps : List MemPlace} {r : Reach} {b0 : Nat}
    (hval : Value.okWide Try.prog W r b0 55 v) (h : DataW.Trod enc Try.prog W 0 (fun _ => true) true 55 v d ps) :
    ∃ (A : Option Addr) (n c : Nat) (l : List ActV), v = .slice A n c ∧ RdS W W.heap.size 3 A n actVC l ∧ n ≤ c ∧ c ≤ maxLen := by
  obtain ⟨a0, len0, cap0, rfl⟩ := okWide_slice Try.underlying55 hval
  obtain ⟨fuel, hf⟩ := h
  obtain ⟨A, n, c, l, e, hr, h1, h2, _⟩ := trod_tri Try.underlying55 Try.underlying63 (by kernel_rfl) (by kernel_rfl) Try.underlying3 Try.underlying3 Try.underlying3 hf
  exact ⟨A, n, c, l.map fun q => ⟨q.1, q.2.1, q.2.2⟩, e, hr.conv (fun q => (⟨q.1, q.2.1, q.2.2⟩ : ActV)) (fun _ => rfl), h1, h2⟩
end
end Go.Proofs.Ytidlahljhgglcaa
