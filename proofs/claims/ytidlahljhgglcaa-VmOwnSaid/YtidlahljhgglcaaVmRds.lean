/-
  Messages' cells, one behind the other.
-/
import Derived.Test.YtidlahljhgglcaaVmMem
namespace Go.Proofs.Ytidlahljhgglcaa
open Go.RowKit

theorem sent_get : ∀ (l : List (Int × Int)) (k j : Nat) (x : Int × Int), l[k]? = some x → j < 2 → (l.flatMap sentC)[k * 2 + j]? = (sentC x)[j]?
  | [], k, j, x, h, _ => by simp at h
  | y :: l, 0, j, x, h, hj => by
    simp at h
    subst h
    rw [List.flatMap_cons, List.getElem?_append_left (by simp [sentC]; omega)]
    simp
  | y :: l, k + 1, j, x, h, hj => by
    rw [List.flatMap_cons, List.getElem?_append_right (by simp [sentC]; omega)]
    have := sent_get l k j x (by simpa using h) hj
    rw [← this]
    congr 1
    simp [sentC]
    omega
theorem sent_len (l : List (Int × Int)) : (l.flatMap sentC).length = l.length * 2 := by
  induction l with
  | nil => rfl
  | cons y l ih => rw [List.flatMap_cons, List.length_append, ih, List.length_cons]; simp [sentC]; omega
theorem rdsSent {w : World} {B : Nat} {A : Option Addr} {n : Nat} {l : List (Int × Int)} (h : Reads w B 2 A n (l.flatMap sentC)) : RdS w B 2 A n sentC l := by
  have hl : l.length = n := by have := h.1; rw [sent_len] at this; omega
  refine ⟨hl, fun k x hx => ?_⟩
  have hk := (List.getElem?_eq_some_iff.1 hx).1
  obtain ⟨ad, e, hb, hc⟩ := h.2 (by omega)
  refine ⟨ad, e, hb, fun j u hu => hc _ u ?_⟩
  have hj : j < 2 := by have := (List.getElem?_eq_some_iff.1 hu).1; simpa [sentC] using this
  rw [sent_get l k j x hx hj]
  exact hu
end Go.Proofs.Ytidlahljhgglcaa
