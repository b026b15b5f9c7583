/-
  A block into which a row of cells is written.
-/
import Derived.Test.YtojffpfgmlegdaaBase
import Derived.Deep.WholeRow
import Derived.Laws.IdiomCopy
namespace Go.Proofs.Ytojffpfgmlegdaa
open Go.RowKit
theorem Blk.setCells {g : Nat} {t : TypeId} : ∀ (vs : List Value) (o : Nat) (cs : List Value) (w : World), Blk w g t cs → o + vs.length ≤ cs.length → Blk (w.setCells g o vs) g t (cs.take o ++ vs ++ cs.drop (o + vs.length))
  | [], o, cs, w, h, _ => by
    rw [World.setCells, List.append_nil, List.length_nil, Nat.add_zero, List.take_append_drop]
    exact h
  | v :: r, o, cs, w, h, hl => by
    rw [World.setCells]
    rw [List.length_cons] at hl ⊢
    have h1 := Blk.setCells r (o + 1) (cs.set o v) (w.setCell ⟨g, o, none⟩ v) (h.set_ o v) (by rw [List.length_set]; omega)
    have e1 : (cs.set o v).take (o + 1) = cs.take o ++ [v] := by
      rw [List.take_add_one, List.take_set_of_le (Nat.le_refl _), List.getElem?_set_self (by omega)]
      rfl
    have e2 : (cs.set o v).drop (o + 1 + r.length) = cs.drop (o + (r.length + 1)) := by
      rw [List.drop_set_of_lt (by omega)]
      congr 1
      omega
    rw [e1, e2] at h1
    simp only [List.append_assoc, List.cons_append, List.nil_append] at h1 ⊢
    exact h1
theorem Blk.setCells_far {g g' : Nat} {t : TypeId} (hne : g ≠ g') : ∀ (vs : List Value) (o : Nat) (cs : List Value) (w : World), Blk w g t cs → Blk (w.setCells g' o vs) g t cs
  | [], _, _, _, h => h
  | v :: r, o, cs, w, h => by
    rw [World.setCells]
    exact Blk.setCells_far hne r (o + 1) cs _ (h.far hne v)
theorem Blk.setCells_all {g : Nat} {t : TypeId} {cs : List Value} {w : World} (h : Blk w g t cs) (vs : List Value) (hl : vs.length = cs.length) : Blk (w.setCells g 0 vs) g t vs := by
  have := Blk.setCells vs 0 cs w h (by omega)
  rw [List.take_zero, List.nil_append, List.drop_eq_nil_of_le (by omega), List.append_nil] at this
  exact this
theorem below_setCells {B : Nat} {a : World} (b : Nat) (hb : B ≤ b) : ∀ (vs : List Value) (o : Nat) (w : World), Below B a w → Below B a (w.setCells b o vs)
  | [], _, _, h => h
  | v :: r, o, w, h => by
    rw [World.setCells]
    exact below_setCells b hb r (o + 1) _ (h.setCell (p := ⟨b, o, none⟩) hb v)
end Go.Proofs.Ytojffpfgmlegdaa
