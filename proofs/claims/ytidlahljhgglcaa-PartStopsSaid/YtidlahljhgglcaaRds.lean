/-
  Slices of small structs as cells.
-/
import Derived.Test.YtidlahljhgglcaaBase
namespace Go.Proofs.Ytidlahljhgglcaa
open Go.RowKit

section
variable {α : Type} {w : World} {B n : Nat} {A : Option Addr} {cells : α → List Value} {l : List α}
theorem flat_get (h3 : ∀ x, (cells x).length = 3) : ∀ (l : List α) (k j : Nat) (x : α), l[k]? = some x → j < 3 → (l.flatMap cells)[k * 3 + j]? = (cells x)[j]?
  | [], k, j, x, h, _ => by simp at h
  | y :: l, 0, j, x, h, hj => by
    simp at h
    subst h
    rw [List.flatMap_cons, List.getElem?_append_left (by rw [h3]; omega)]
    congr 1
    omega
  | y :: l, k + 1, j, x, h, hj => by
    rw [List.flatMap_cons, List.getElem?_append_right (by rw [h3]; omega), h3, show (k + 1) * 3 + j - 3 = k * 3 + j by omega]
    exact flat_get h3 l k j x (by simpa using h) hj
theorem flat_len (h3 : ∀ x, (cells x).length = 3) : ∀ l : List α, (l.flatMap cells).length = l.length * 3
  | [] => rfl
  | y :: l => by rw [List.flatMap_cons, List.length_append, h3, flat_len h3 l, List.length_cons]; omega
theorem RdS.reads (h : RdS w B 3 A n cells l) (h3 : ∀ x, (cells x).length = 3) : Reads w B 3 A n (l.flatMap cells) := by
  refine ⟨by rw [flat_len h3, h.1], fun hn => ?_⟩
  have hl := h.1
  obtain ⟨ad, e, hb, _⟩ := h.2 0 l[0] (List.getElem?_eq_getElem (by omega))
  refine ⟨ad, e, hb, fun j u hu => ?_⟩
  have hj := (List.getElem?_eq_some_iff.1 hu).1
  rw [flat_len h3] at hj
  have hk : j / 3 < l.length := by omega
  have hx := List.getElem?_eq_getElem hk
  obtain ⟨ad', e', _, hc⟩ := h.2 (j / 3) _ hx
  rw [e] at e'
  injection e' with e'
  subst e'
  have h1 := flat_get h3 l (j / 3) (j % 3) _ hx (by omega)
  rw [show j / 3 * 3 + j % 3 = j by omega, hu] at h1
  have h2 := hc (j % 3) u h1.symm
  rwa [show j / 3 * 3 + j % 3 = j by omega] at h2
theorem Reads.rds (h : Reads w B 3 A n (l.flatMap cells)) (h3 : ∀ x, (cells x).length = 3) : RdS w B 3 A n cells l := by
  have hl : l.length = n := by have := h.1; rw [flat_len h3] at this; omega
  refine ⟨hl, fun k x hx => ?_⟩
  have hk := (List.getElem?_eq_some_iff.1 hx).1
  obtain ⟨ad, e, hb, hc⟩ := h.2 (by omega)
  refine ⟨ad, e, hb, fun j u hu => hc _ u ?_⟩
  rw [flat_get h3 l k j x hx (by have := (List.getElem?_eq_some_iff.1 hu).1; rw [h3] at this; omega), hu]
end
end Go.Proofs.Ytidlahljhgglcaa
