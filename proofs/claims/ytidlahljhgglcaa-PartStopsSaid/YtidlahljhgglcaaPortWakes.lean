/-
  Package longeronlaw16: the example, wakes, long.
-/
import Derived.Test.YtidlahljhgglcaaPortDrain
import Derived.Handy
namespace Go.Proofs.Ytidlahljhgglcaa
open Go.RowKit Go.ChangeShapes Go.WideShapes Go.ChangeAt

theorem rds_two {α : Type} {w : World} {g : Nat} {T : TypeId} {cells : α → List Value} {x y : α} (h : Blk w g T (cells x ++ cells y)) (hx : (cells x).length = 3) : RdS w w.heap.size 3 (some ⟨g, 0, none⟩) 2 cells [x, y] := by
  refine ⟨rfl, fun k z hk => ⟨_, rfl, h.lt, fun j u hu => ?_⟩⟩
  rw [add_none]
  have : k = 0 ∨ k = 1 := by have := (List.getElem?_eq_some_iff.1 hk).1; simp at this; omega
  rcases this with rfl | rfl
  · simp at hk
    subst hk
    refine h.cellAt ?_
    rw [List.getElem?_append_left (by have := (List.getElem?_eq_some_iff.1 hu).1; omega)]
    simpa using hu
  · simp at hk
    subst hk
    refine h.cellAt ?_
    rw [List.getElem?_append_right (by omega), hx, ← hu]
    congr 1
    omega
theorem rds_one {α : Type} {w : World} {g : Nat} {T : TypeId} {cells : α → List Value} {x : α} (h : Blk w g T (cells x)) : RdS w w.heap.size 3 (some ⟨g, 0, none⟩) 1 cells [x] := by
  refine ⟨rfl, fun k z hk => ⟨_, rfl, h.lt, fun j u hu => ?_⟩⟩
  rw [add_none]
  have : k = 0 := by have := (List.getElem?_eq_some_iff.1 hk).1; simp at this; omega
  subst this
  simp at hk
  subst hk
  exact h.cellAt (by simpa using hu)
theorem Blk.newAt (w : World) (T : TypeId) (l : List Value) (n : Nat) (h : w.heap.size = n) : Blk (w.alloc (.cells l.toArray T)) n T l := by
  subst h
  exact Blk.new w T l
def exC : List ChanS := [⟨0, 1, 2⟩]
def exP : TabS := ⟨4, [⟨1, 1, 0⟩, ⟨1, 1, 0⟩], [⟨0, 0, 1⟩], exC, 1⟩
def stP (l : List Int) : Nat → WayS := setS (zeroW exC) 0 (.row l 2)
theorem stP_nil : zeroW exC = stP [] := by
  unfold stP
  rw [show WayS.row [] 2 = zeroW exC 0 from rfl, setS_self]
theorem wSend_ok {w : World} {F : Nat → Prop} {g : Nat} {l : List Int} (h : SetAt w F g exC (stP l)) (hl : l.length < 2) (v : Int) (hv0 : 0 ≤ v) (hv1 : v ≤ 65535) :
    Calls Try.prog 27 #[.pointer (some ⟨g, 0, none⟩), .int .i64 0, .int .i64 0, .int .i64 v] w (SPost F w g exC (.returned (.tuple #[.bool true, .int .i64 0])) (stP (l ++ [v]))) := by
  have h1 := send_at h (k := 0) (x := ⟨0, 1, 2⟩) rfl (by unfold stP; rw [setS_same]; show l.length ≤ 100000; omega) v hv0 hv1
  have e1 : sendB (stP l 0) = true := by unfold stP; rw [setS_same]; simp [sendB]; omega
  have e2 : setS (stP l) 0 (sendS v (stP l 0)) = stP (l ++ [v]) := by
    unfold stP
    rw [setS_same, setS_setS]
    congr 1
    exact if_neg (by omega)
  rw [e1, e2] at h1
  exact h1
theorem wSend_full {w : World} {F : Nat → Prop} {g : Nat} {l : List Int} (h : SetAt w F g exC (stP l)) (hl : l.length = 2) (v : Int) (hv0 : 0 ≤ v) (hv1 : v ≤ 65535) :
    Calls Try.prog 27 #[.pointer (some ⟨g, 0, none⟩), .int .i64 0, .int .i64 0, .int .i64 v] w (SPost F w g exC (.returned (.tuple #[.bool false, .int .i64 0])) (stP l)) := by
  have h1 := send_at h (k := 0) (x := ⟨0, 1, 2⟩) rfl (by unfold stP; rw [setS_same]; show l.length ≤ 100000; omega) v hv0 hv1
  have e1 : sendB (stP l 0) = false := by unfold stP; rw [setS_same]; simp [sendB]; omega
  have e2 : setS (stP l) 0 (sendS v (stP l 0)) = stP l := by
    unfold stP
    rw [setS_same, setS_setS]
    congr 1
    exact if_pos hl
  rw [e1, e2] at h1
  exact h1
theorem wGet_yes {w : World} {F : Nat → Prop} {g : Nat} {x : Int} {l : List Int} (h : SetAt w F g exC (stP (x :: l))) :
    Calls Try.prog 123 #[.pointer (some ⟨g, 0, none⟩), .int .i64 1, .int .i64 0] w (SPost F w g exC (.returned (.tuple #[.int .i64 x, .bool true, .int .i64 0])) (stP l)) := by
  have h1 := get_at h (k := 0) (x := ⟨0, 1, 2⟩) rfl
  have e0 : stP (x :: l) 0 = .row (x :: l) 2 := setS_same _ _ _
  have e2 : setS (stP (x :: l)) 0 (getS (stP (x :: l) 0)) = stP l := by
    rw [e0]
    unfold stP
    rw [setS_setS]
    rfl
  rw [e2, e0] at h1
  exact h1
theorem wGet_no {w : World} {F : Nat → Prop} {g : Nat} (h : SetAt w F g exC (stP [])) :
    Calls Try.prog 123 #[.pointer (some ⟨g, 0, none⟩), .int .i64 1, .int .i64 0] w (SPost F w g exC (.returned (.tuple #[.int .i64 0, .bool false, .int .i64 0])) (stP [])) := by
  have h1 := get_at h (k := 0) (x := ⟨0, 1, 2⟩) rfl
  have e0 : stP [] 0 = .row [] 2 := setS_same _ _ _
  have e2 : setS (stP []) 0 (getS (stP [] 0)) = stP [] := by
    rw [e0]
    unfold stP
    rw [setS_setS]
    rfl
  rw [e2, e0] at h1
  exact h1
theorem exR : rightB exP = true := by decide
def longB (t : TabS) : Bool := decide (20 < t.parts.length) || decide (40 < t.wins.length) || decide (20 < t.chans.length)
end Go.Proofs.Ytidlahljhgglcaa
