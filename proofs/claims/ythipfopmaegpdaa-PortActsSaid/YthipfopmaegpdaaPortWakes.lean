/-
  Package longeronlaw16: the example, wakes, long.
-/
import Derived.Test.YthipfopmaegpdaaPortDrain
import Derived.Handy
namespace Go.Proofs.Ythipfopmaegpdaa
open Go.RowKit Go.ChangeShapes Go.WideShapes Go.ChangeAt

theorem rds_two {α : Type} {w : World} {g : Nat} {T : TypeId} {cells : α → List Value} {x y : α} (h : Blk w g T (cells x ++ cells y)) (hx : (cells x).length = 3) : RdS w w.heap.size 3 (some ⟨g, 0, none⟩) 2 cells [x, y] := by
  refine ⟨rfl, fun k z hk => ⟨_, rfl, h.lt, fun j u hu => ?_⟩⟩
  rw [add_none]
  have : k = 0 ∨ k = 1 := by have := (List.getElem?_eq_some_iff.1 hk).1; simp at this; omega
  rcases this with rfl | rfl
  · simp at hk
    subst hk
    refine h.cellAt ?_
    rw [List.getElem?_append_left (by have := (List.getElem?_eq_some_iff.1 hu).1; omega)]
    simpa using hu
  · simp at hk
    subst hk
    refine h.cellAt ?_
    rw [List.getElem?_append_right (by omega), hx, ← hu]
    congr 1
    omega
theorem rds_one {α : Type} {w : World} {g : Nat} {T : TypeId} {cells : α → List Value} {x : α} (h : Blk w g T (cells x)) : RdS w w.heap.size 3 (some ⟨g, 0, none⟩) 1 cells [x] := by
  refine ⟨rfl, fun k z hk => ⟨_, rfl, h.lt, fun j u hu => ?_⟩⟩
  rw [add_none]
  have : k = 0 := by have := (List.getElem?_eq_some_iff.1 hk).1; simp at this; omega
  subst this
  simp at hk
  subst hk
  exact h.cellAt (by simpa using hu)
theorem Blk.newAt (w : World) (T : TypeId) (l : List Value) (n : Nat) (h : w.heap.size = n) : Blk (w.alloc (.cells l.toArray T)) n T l := by
  subst h
  exact Blk.new w T l
def exC : List ChanS := [⟨0, 1, 2⟩]
def exP : TabS := ⟨4, [⟨1, 1, 0⟩, ⟨1, 1, 0⟩], [⟨0, 0, 1⟩], exC, 1⟩
theorem exampleP_any (w : World) :
    Calls Try.prog 47 #[] w fun e w' => (∃ A1 c1 A2 c2 A3 c3, e = .returned (.agg #[.int .i64 4, .slice A1 2 c1, .slice A2 1 c2, .slice A3 1 c3, .int .i64 1]) ∧ TabOk w' exP ⟨A1, c1, A2, c2, A3, c3⟩) ∧ Below w.heap.size w w' := by
  go_enter Try.func47, Try.ntmps47
  go_wp2_with fail
  go_returns
  refine ⟨⟨_, _, _, _, _, _, rfl, ⟨⟨?_, ?_, ?_⟩, by simp [exP, exC], by simp [exP, exC], by simp [exP, exC], by simp [exP, exC], by simp [exP, exC]⟩⟩, (((((Below.refl _ _).alloc (Nat.le_refl _) _).alloc (by first | (simp; done) | (simp; omega)) _).alloc (by first | (simp; done) | (simp; omega)) _).alloc (by first | (simp; done) | (simp; omega)) _).alloc (by first | (simp; done) | (simp; omega)) _⟩
  · refine rds_two (T := 96) (Blk.alloc (Blk.alloc ?_ _) _) rfl
    exact Blk.newAt _ 96 (partC ⟨1, 1, 0⟩ ++ partC ⟨1, 1, 0⟩) _ (by simp)
  · exact rds_one (T := 99) (Blk.alloc (Blk.newAt _ 99 (winC ⟨0, 0, 1⟩) _ (by simp)) _)
  · exact rds_one (T := 43) (Blk.newAt _ 43 (chanC ⟨0, 1, 2⟩) _ (by simp))
def stP (l : List Int) : Nat → WayS := setS (zeroW exC) 0 (.row l 2)
theorem stP_nil : zeroW exC = stP [] := by
  unfold stP
  rw [show WayS.row [] 2 = zeroW exC 0 from rfl, setS_self]
theorem wSend_ok {w : World} {F : Nat → Prop} {g : Nat} {l : List Int} (h : SetAt w F g exC (stP l)) (hl : l.length < 2) (v : Int) (hv0 : 0 ≤ v) (hv1 : v ≤ 65535) :
    Calls Try.prog 22 #[.pointer (some ⟨g, 0, none⟩), .int .i64 0, .int .i64 0, .int .i64 v] w (SPost F w g exC (.returned (.tuple #[.bool true, .int .i64 0])) (stP (l ++ [v]))) := by
  have h1 := send_at h (k := 0) (x := ⟨0, 1, 2⟩) rfl (by unfold stP; rw [setS_same]; show l.length ≤ 100000; omega) v hv0 hv1
  have e1 : sendB (stP l 0) = true := by unfold stP; rw [setS_same]; simp [sendB]; omega
  have e2 : setS (stP l) 0 (sendS v (stP l 0)) = stP (l ++ [v]) := by
    unfold stP
    rw [setS_same, setS_setS]
    congr 1
    exact if_neg (by omega)
  rw [e1, e2] at h1
  exact h1
theorem wSend_full {w : World} {F : Nat → Prop} {g : Nat} {l : List Int} (h : SetAt w F g exC (stP l)) (hl : l.length = 2) (v : Int) (hv0 : 0 ≤ v) (hv1 : v ≤ 65535) :
    Calls Try.prog 22 #[.pointer (some ⟨g, 0, none⟩), .int .i64 0, .int .i64 0, .int .i64 v] w (SPost F w g exC (.returned (.tuple #[.bool false, .int .i64 0])) (stP l)) := by
  have h1 := send_at h (k := 0) (x := ⟨0, 1, 2⟩) rfl (by unfold stP; rw [setS_same]; show l.length ≤ 100000; omega) v hv0 hv1
  have e1 : sendB (stP l 0) = false := by unfold stP; rw [setS_same]; simp [sendB]; omega
  have e2 : setS (stP l) 0 (sendS v (stP l 0)) = stP l := by
    unfold stP
    rw [setS_same, setS_setS]
    congr 1
    exact if_pos hl
  rw [e1, e2] at h1
  exact h1
theorem wGet_yes {w : World} {F : Nat → Prop} {g : Nat} {x : Int} {l : List Int} (h : SetAt w F g exC (stP (x :: l))) :
    Calls Try.prog 23 #[.pointer (some ⟨g, 0, none⟩), .int .i64 1, .int .i64 0] w (SPost F w g exC (.returned (.tuple #[.int .i64 x, .bool true, .int .i64 0])) (stP l)) := by
  have h1 := get_at h (k := 0) (x := ⟨0, 1, 2⟩) rfl
  have e0 : stP (x :: l) 0 = .row (x :: l) 2 := setS_same _ _ _
  have e2 : setS (stP (x :: l)) 0 (getS (stP (x :: l) 0)) = stP l := by
    rw [e0]
    unfold stP
    rw [setS_setS]
    rfl
  rw [e2, e0] at h1
  exact h1
theorem wGet_no {w : World} {F : Nat → Prop} {g : Nat} (h : SetAt w F g exC (stP [])) :
    Calls Try.prog 23 #[.pointer (some ⟨g, 0, none⟩), .int .i64 1, .int .i64 0] w (SPost F w g exC (.returned (.tuple #[.int .i64 0, .bool false, .int .i64 0])) (stP [])) := by
  have h1 := get_at h (k := 0) (x := ⟨0, 1, 2⟩) rfl
  have e0 : stP [] 0 = .row [] 2 := setS_same _ _ _
  have e2 : setS (stP []) 0 (getS (stP [] 0)) = stP [] := by
    rw [e0]
    unfold stP
    rw [setS_setS]
    rfl
  rw [e2, e0] at h1
  exact h1
theorem exR : rightB exP = true := by decide
set_option maxHeartbeats 2000000 in
theorem wakesP_any (w : World) :
    Calls Try.prog 18 #[] w fun e w' => e = .returned (.bool true) ∧ Below w.heap.size w w' := by
  go_enter Try.func18, Try.ntmps18
  go_wp2_with fail
  refine (exampleP_any _).mono ?_
  rintro e w1 ⟨⟨A1, c1, A2, c2, A3, c3, rfl, hT⟩, hb1⟩
  have i1 := hid (New_ok exP ⟨A1, c1, A2, c2, A3, c3⟩ w1 hT exR)
  clear hT
  go_wp2_with fail
  refine i1.out.mono ?_
  rintro e w2 ⟨F2, g, rfl, hS2, hb2, hF2⟩
  clear i1
  rw [show exP.chans = exC from rfl, stP_nil] at hS2
  have hx2 : Below w.heap.size w w2 ∧ ∀ b, F2 b → w.heap.size ≤ b := ⟨bel_trans hb1 hb2, fun b hb => Nat.le_trans hb1.size (hF2 b hb)⟩
  clear hb1 hb2 hF2
  have hx := hid hx2
  clear hx2
  have i1 := hid (wSend_ok hS2 (by simp) 1 (by omega) (by omega))
  clear hS2
  go_wp2_with fail
  refine i1.out.mono ?_
  rintro e w3 ⟨F3, rfl, hS3, hG⟩
  have hx3 := hid (hG.bel hx.out.1 (Nat.le_refl _) hx.out.2)
  clear hx hG i1
  have i1 := hid (wSend_ok hS3 (by simp) 2 (by omega) (by omega))
  clear hS3
  go_wp2_with fail
  refine i1.out.mono ?_
  rintro e w4 ⟨F4, rfl, hS4, hG⟩
  have hx4 := hid (hG.bel hx3.out.1 (Nat.le_refl _) hx3.out.2)
  clear hx3 hG i1
  have i1 := hid (wSend_full hS4 (by simp) 3 (by omega) (by omega))
  clear hS4
  go_wp2_with fail
  refine i1.out.mono ?_
  rintro e w5 ⟨F5, rfl, hS5, hG⟩
  have hx5 := hid (hG.bel hx4.out.1 (Nat.le_refl _) hx4.out.2)
  clear hx4 hG i1
  have i1 := hid (wGet_yes (x := 1) (l := [2]) hS5)
  clear hS5
  go_wp2_with fail
  refine i1.out.mono ?_
  rintro e w6 ⟨F6, rfl, hS6, hG⟩
  have hx6 := hid (hG.bel hx5.out.1 (Nat.le_refl _) hx5.out.2)
  clear hx5 hG i1
  have i1 := hid (wGet_yes hS6)
  clear hS6
  go_wp2_with fail
  refine i1.out.mono ?_
  rintro e w7 ⟨F7, rfl, hS7, hG⟩
  have hx7 := hid (hG.bel hx6.out.1 (Nat.le_refl _) hx6.out.2)
  clear hx6 hG i1
  have i1 := hid (wGet_no hS7)
  clear hS7
  go_wp2_with fail
  refine i1.out.mono ?_
  rintro e w8 ⟨F8, rfl, hS8, hG⟩
  have hx8 := hid (hG.bel hx7.out.1 (Nat.le_refl _) hx7.out.2)
  clear hx7 hG i1 hS8
  go_wp2_with fail
  go_ret
  exact ⟨rfl, hx8.out.1⟩
def longB (t : TabS) : Bool := decide (20 < t.parts.length) || decide (40 < t.wins.length) || decide (20 < t.chans.length)
theorem longP_any (t : TabS) (a : TabA) (w : World) (l1 : t.parts.length ≤ 9223372036854775807) (l2 : t.wins.length ≤ 9223372036854775807) (l3 : t.chans.length ≤ 9223372036854775807) :
    Calls Try.prog 19 #[.agg #[.int .i64 t.frame, .slice a.A1 t.parts.length a.c1, .slice a.A2 t.wins.length a.c2, .slice a.A3 t.chans.length a.c3, .int .i64 t.trial]] w fun e w' => e = .returned (.bool (longB t)) ∧ Below w.heap.size w w' := by
  obtain ⟨frame, parts, wins, chans, trial⟩ := t
  obtain ⟨A1, c1, A2, c2, A3, c3⟩ := a
  simp only at l1 l2 l3 ⊢
  unfold longB
  simp only
  generalize parts.length = n1 at l1 ⊢
  generalize wins.length = n2 at l2 ⊢
  generalize chans.length = n3 at l3 ⊢
  have hb : Below w.heap.size w (w.alloc (.cells #[.int .i64 frame, .slice A1 n1 c1, .slice A2 n2 c2, .slice A3 n3 c3, .int .i64 trial] 36)) := (Below.refl _ _).alloc (Nat.le_refl _) _
  by_cases h1 : 20 < n1
  · have hr : (decide (20 < n1) || decide (40 < n2) || decide (20 < n3)) = true := by simp [h1]
    rw [hr]
    clear hr
    go_enter Try.func19, Try.ntmps19
    go_wp2_with fail
    go_ret
    exact ⟨rfl, hb⟩
  · by_cases h2 : 40 < n2
    · have hr : (decide (20 < n1) || decide (40 < n2) || decide (20 < n3)) = true := by simp [h2]
      rw [hr]
      clear hr
      go_enter Try.func19, Try.ntmps19
      go_wp2_with fail
      go_ret
      exact ⟨rfl, hb⟩
    · by_cases h3 : 20 < n3
      · have hr : (decide (20 < n1) || decide (40 < n2) || decide (20 < n3)) = true := by simp [h3]
        rw [hr]
        clear hr
        go_enter Try.func19, Try.ntmps19
        go_wp2_with fail
        go_ret
        exact ⟨ret_bool (by simp; omega), hb⟩
      · have hr : (decide (20 < n1) || decide (40 < n2) || decide (20 < n3)) = false := by simp; omega
        rw [hr]
        clear hr
        go_enter Try.func19, Try.ntmps19
        go_wp2_with fail
        go_ret
        exact ⟨ret_bool (by simp; omega), hb⟩
end Go.Proofs.Ythipfopmaegpdaa
