/-
  From a row's reading of an array of two integers to the words of the walks.
-/
import Derived.Test.YtbnodcenlggcnaaOpenTab
namespace Go.Proofs.Ytbnodcenlggcnaa
open Go.ChangeShapes Go.WideShapes Go.ChangeAt Go.RowKit Go.Deep Go.Joins

section
variable {H : Type} {enc : TypeId × Value → H} {P : Program} {W : World}
theorem open_arr2 {t e : TypeId} {k : IntKind} {v : Value} {d : DataW H} {ps : List MemPlace} {r : Reach} {b0 : Nat} (ht : P.underlying t = some (.array 2 e)) (he : P.underlying e = some (.int k)) (hc : P.cellsOf e = 1) (hs : P.cellsOf t = 2)
    (hval : Value.okWide P W r b0 t v) (h : DataW.Trod enc P W 0 (fun _ => true) true t v d ps) :
    ∃ x y : Int, v = .agg #[.int k x, .int k y] ∧ (Lit.int k x).wf = true ∧ (Lit.int k y).wf = true := by
  simp only [Value.okWide, ht] at hval
  obtain ⟨cs, rfl, h2, _⟩ := hval
  rw [hs] at h2
  obtain ⟨c0, c1, rfl⟩ := array2 h2
  obtain ⟨fuel, hf⟩ := h
  obtain ⟨xs, m, _, _, _, hxl, hel⟩ := DataW.trod_array ht hf
  have e0 := hel 0 (by omega)
  have e1 := hel 1 (by omega)
  rw [hc] at e0 e1
  obtain ⟨x0, x1, rfl⟩ : ∃ x0 x1, xs = [x0, x1] := by
    match xs, hxl with
    | [a, b], _ => exact ⟨a, b, rfl⟩
  obtain ⟨q0, f0, _, w0⟩ := DataW.trod_int he e0
  obtain ⟨q1, f1, _, w1⟩ := DataW.trod_int he e1
  simp [Value.cells] at f0 f1
  subst f0 f1
  exact ⟨q0, q1, rfl, w0, w1⟩
end
end Go.Proofs.Ytbnodcenlggcnaa
