/-
  What the laws of layer 16 want: a queue among the ways; a table that came.
-/
import Derived.Test.YtidlahljhgglcaaGreatQb
import Derived.Test.YtidlahljhgglcaaGreatRefRight
import Derived.Test.YtidlahljhgglcaaGreatRows
namespace Go.Proofs.YtidlahljhgglcaaGreat
open Go.RowKit Go.ChangeShapes Go.WideShapes Go.ChangeAt

theorem TabCame.ok {W w : World} {t : TabS} {a : TabA} (h : TabCame W t a) (hl : longB t = false) (hb : Below W.heap.size W w) : TabOk w t a := by
  unfold longB at hl
  simp only [Bool.or_eq_false_iff, decide_eq_false_iff_not] at hl
  exact ⟨h.inn.belowS hb, by omega, by omega, by omega, h.f1, h.f2⟩
section
variable {w w' : World} {F F' : Nat → Prop} {g : Nat} {cs : List ChanS} {ss : Nat → WayS} {k : Nat} {x : ChanS} {l : List Int} {D : Nat}
theorem qSend (h : SetAt w F g cs (setS ss k (.row l D))) (hx : cs[k]? = some x) (hl : l.length ≠ D) (hs : l.length ≤ 100000) (v : Int) (hv0 : 0 ≤ v) (hv1 : v ≤ 65535) :
    Calls Tryz.prog 17 #[.pointer (some ⟨g, 0, none⟩), .int .i64 x.src, .int .i64 (k : Int), .int .i64 v] w (SPost F w g cs (.returned (.tuple #[.bool true, .int .i64 0])) (setS ss k (.row (l ++ [v]) D))) := by
  have h1 := send_at h hx (by rw [setS_same]; exact hs) v hv0 hv1
  have e1 : sendB (setS ss k (.row l D) k) = true := by rw [setS_same]; simp [sendB, hl]
  have e2 : setS (setS ss k (.row l D)) k (sendS v (setS ss k (.row l D) k)) = setS ss k (.row (l ++ [v]) D) := by
    rw [setS_same, setS_setS]
    congr 1
    exact if_neg hl
  rw [e1, e2] at h1
  exact h1
theorem qGet_yes {y : Int} (h : SetAt w F g cs (setS ss k (.row (y :: l) D))) (hx : cs[k]? = some x) :
    Calls Tryz.prog 115 #[.pointer (some ⟨g, 0, none⟩), .int .i64 x.dst, .int .i64 (k : Int)] w (SPost F w g cs (.returned (.tuple #[.int .i64 y, .bool true, .int .i64 0])) (setS ss k (.row l D))) := by
  have h1 := get_at h hx
  rw [setS_same, setS_setS] at h1
  exact h1
theorem qGet_no (h : SetAt w F g cs (setS ss k (.row [] D))) (hx : cs[k]? = some x) :
    Calls Tryz.prog 115 #[.pointer (some ⟨g, 0, none⟩), .int .i64 x.dst, .int .i64 (k : Int)] w (SPost F w g cs (.returned (.tuple #[.int .i64 0, .bool false, .int .i64 0])) (setS ss k (.row [] D))) := by
  have h1 := get_at h hx
  rw [setS_same, setS_setS] at h1
  exact h1
/-- A block apart from the set stays. -/
theorem Goes.blk (h : Goes F w F' w') {b : Nat} {T : TypeId} {vs : List Value} (hb : Blk w b T vs) (hn : ¬ F b) : Blk w' b T vs ∧ ¬ F' b :=
  ⟨hb.apart h.apart hn, fun hf => (h.foot b hf).elim hn fun h2 => by have := hb.lt; omega⟩
theorem SetAt.fresh (h : SetAt w F g cs ss) : ¬ F w.heap.size := fun hf => by have := h.lt hf; omega
end
end Go.Proofs.YtidlahljhgglcaaGreat
