/-
  From a row's reading of a struct of two integers to the words of the walks.
-/
import Derived.Test.YthnifgcoikmihaaOpenTab
namespace Go.Proofs.Ythnifgcoikmihaa
open Go.ChangeShapes Go.WideShapes Go.ChangeAt Go.RowKit Go.Deep Go.Joins

section
variable {H : Type} {enc : TypeId × Value → H} {W : World}
set_option maxRecDepth 100000 in
theorem list2 {α : Type} (l : List α) (h : l.length = 2) : ∃ a b, l = [a, b] := by
  match l, h with
  | [a, b], _ => exact ⟨a, b, rfl⟩
set_option maxRecDepth 100000 in
theorem open_ask {v : Value} {d : DataW H} {ps : List MemPlace} {r : Reach} {b0 : Nat}
    (hval : Value.okWide Try.prog W r b0 69 v) (h : DataW.Trod enc Try.prog W 0 (fun _ => true) true 69 v d ps) :
    ∃ x y : Int, v = .agg #[.int .i64 x, .int .i64 y] ∧ (Lit.int .i64 x).wf = true ∧ (Lit.int .i64 y).wf = true := by
  obtain ⟨cs, rfl, hsz⟩ := okWide_struct Try.underlying69 hval
  obtain ⟨l⟩ := cs
  obtain ⟨fuel, hf⟩ := h
  obtain ⟨xs, n, _, _, _, hlen, hg⟩ := DataW.trod_struct Try.underlying69 hf
  have hl2 : l.length = 2 := by
    have : Try.prog.cellsOf 69 = 2 := by kernel_rfl
    rw [← this, ← hsz]
    rfl
  have key : ∀ (i : Nat) (hi : i < l.length) (f : Field), _ → ∃ y, DataW.trod enc Try.prog W 0 (fun _ => true) true n f.type [l[i]] = some y := fun i hi f hfi => by
    have h1 := hg i f hfi
    exact ⟨_, field_one (by kernel_rfl) hfi hi (h1.trans (List.getElem?_eq_getElem (by have := (Array.getElem?_eq_some_iff.1 hfi).1; omega)))⟩
  obtain ⟨v0, v1, rfl⟩ := list2 l hl2
  obtain ⟨y0, h0⟩ := key 0 (by simp) _ rfl
  obtain ⟨y1, h1⟩ := key 1 (by simp) _ rfl
  clear key hg hf hval hlen
  obtain ⟨x, e0, _, w0⟩ := DataW.trod_int Try.underlying3 h0
  obtain ⟨y, e1, _, w1⟩ := DataW.trod_int Try.underlying3 h1
  simp at e0 e1
  subst e0 e1
  exact ⟨x, y, rfl, w0, w1⟩
end
end Go.Proofs.Ythnifgcoikmihaa
