/-
  The reference of layer 17: off the stack, onto it.
-/
import Derived.Test.YtidlahljhgglcaaGreatRvMem
import Derived.Test.YtidlahljhgglcaaGreatVmMach
import Derived.Test.YtidlahljhgglcaaGreatVmDeeds
namespace Go.Proofs.YtidlahljhgglcaaGreat
open Go.RowKit Go.ChangeShapes Go.WideShapes Go.ChangeAt

theorem Row.front {w : World} {e : TypeId} {A : Option Addr} {n c : Nat} {xs : List Value} (h : Row w e A n c xs) {i : Nat} (hi : i ≤ n) : Row w e A i c (xs.take i) := by
  have h1 := h.1
  have h2 := h.2.1
  refine ⟨by rw [List.length_take]; omega, by omega, h.2.2.1, ?_⟩
  rcases h.2.2.2 with h4 | ⟨g, cur, h4, h5, h6, h7⟩
  · exact .inl h4
  · refine .inr ⟨g, cur, h4, h5, h6, ?_⟩
    rw [← h7, List.take_take]
    congr 1
    omega
/-- What an act on the machine alone leaves. -/
def MPost (F : Nat → Prop) (w : World) (g : Nat) (i : ImgS) (e0 : Ending) (s' : VmS) (e : Ending) (w' : World) : Prop := ∃ F', e = e0 ∧ RvAt w' F' g i s' ∧ Goes F w F' w'
section
variable {w w' : World} {F : Nat → Prop} {g : Nat} {i : ImgS} {a : VmA} {s : VmS}
set_option maxRecDepth 100000 in
set_option maxHeartbeats 2000000 in
theorem rvPop_in (m : RvIn w g i a s) (hl : 0 < s.stack.length) (hl2 : s.stack.length ≤ 100) :
    Calls Tryz.prog 55 #[.pointer (some ⟨g, 0, none⟩)] w fun e w' => e = .returned (.int .i64 (topV s.stack 0)) ∧ w' = w.setCell ⟨g, 9, none⟩ (.slice a.As (s.stack.length - 1) a.cS) := by
  obtain ⟨gs, hAs, _⟩ := m.st.form hl
  obtain ⟨k, hk⟩ : ∃ k, s.stack.length = k + 1 := ⟨s.stack.length - 1, by omega⟩
  have c9 : w.cell? ⟨g, 9, none⟩ = some (.slice (some ⟨gs, 0, none⟩) (k + 1) a.cS) := by rw [← hAs, ← hk]; exact m.blk.cellAt rfl
  have hst := m.st
  rw [hAs] at hst
  have e1 : w.cell? ⟨gs, k, none⟩ = some (.int .i64 (topV s.stack 0)) := hst.cell (by
    unfold topV
    rw [List.getElem?_map, hk, show k + 1 - 1 - 0 = k by omega, List.getD_eq_getElem?_getD, List.getElem?_eq_getElem (by omega)]
    rfl)
  have f9 := m.blk.frozen 9
  have hcap := hst.cap
  rw [hk] at hcap
  have hcap1 := hcap.1
  have hcap2 := hcap.2
  unfold maxLen at hcap2
  rw [hAs, hk, show k + 1 - 1 = k by omega]
  have hk2 : k ≤ 100 := by omega
  generalize topV s.stack 0 = x at *
  clear hst hAs hcap hk hl hl2 m
  go_enter Tryz.func55, Tryz.ntmps55
  go_wp2_with fail
  go_ret
  exact ⟨rfl, rfl⟩
theorem RvIn.popped (m : RvIn w g i a s) : RvIn (w.setCell ⟨g, 9, none⟩ (.slice a.As (s.stack.length - 1) a.cS)) g i a { s with stack := s.stack.take (s.stack.length - 1) } ∧ Goes (MachF g a) w (MachF g a) (w.setCell ⟨g, 9, none⟩ (.slice a.As (s.stack.length - 1) a.cS)) := by
  have h := m.stack (w1 := w) (Below.refl _ _) (A' := a.As) (c' := a.cS) (st' := s.stack.take (s.stack.length - 1)) (by
    have := m.st.front (show s.stack.length - 1 ≤ s.stack.length by omega)
    rw [List.length_take, Nat.min_eq_left (by omega), List.map_take]
    exact this) (fun b hb => .inl hb)
  rw [show (s.stack.take (s.stack.length - 1)).length = s.stack.length - 1 by rw [List.length_take]; omega] at h
  exact h
theorem rvPop (t : RvAt w F g i s) (hl : 0 < s.stack.length) (hl2 : s.stack.length ≤ 100) :
    Calls Tryz.prog 55 #[.pointer (some ⟨g, 0, none⟩)] w (MPost F w g i (.returned (.int .i64 (topV s.stack 0))) { s with stack := s.stack.take (s.stack.length - 1) }) := by
  obtain ⟨a, m, hF⟩ := t
  refine (rvPop_in m hl hl2).mono ?_
  rintro e w' ⟨rfl, rfl⟩
  have h := m.popped
  exact ⟨_, rfl, h.1.at_, Goes.iff_ hF h.2⟩
theorem own0 {w : World} {base : Nat} {e : TypeId} {A : Option Addr} {n c : Nat} {xs : List Value} (h : w.ownsRow base e 1 (.slice A (0 + n) c) (0 + n) ([] ++ xs)) : w.ownsRow base e 1 (.slice A n c) n xs := by simpa using h
theorem w65_tmod (x : Int) : w65 x = if Int.tmod x 65536 < 0 then Int.tmod x 65536 + 65536 else Int.tmod x 65536 := by
  unfold w65
  have h := Int.tmod_add_mul_tdiv x 65536
  rcases Int.lt_or_le x 0 with hx | hx
  · have h1 : Int.tmod x 65536 ≤ 0 := by
      have := Int.tmod_nonneg 65536 (show 0 ≤ -x by omega)
      rw [Int.neg_tmod] at this
      omega
    have h2 : -65536 < Int.tmod x 65536 := by
      have := Int.tmod_lt_of_pos (-x) (show (0 : Int) < 65536 by decide)
      rw [Int.neg_tmod] at this
      omega
    split <;> omega
  · rw [Int.tmod_eq_emod_of_nonneg hx]
    have := Int.emod_nonneg x (show (65536 : Int) ≠ 0 by decide)
    rw [if_neg (by omega)]
theorem tmod_bd (x : Int) : -65536 < Int.tmod x 65536 ∧ Int.tmod x 65536 < 65536 := by
  have h1 := Int.tmod_lt_of_pos x (show (0 : Int) < 65536 by decide)
  have h2 := Int.tmod_lt_of_pos (-x) (show (0 : Int) < 65536 by decide)
  rw [Int.neg_tmod] at h2
  omega
set_option maxRecDepth 100000 in
set_option maxHeartbeats 2000000 in
theorem rvPush (t : RvAt w F g i s) (hl2 : s.stack.length ≤ 100) (x : Int) :
    Calls Tryz.prog 85 #[.pointer (some ⟨g, 0, none⟩), .int .i64 x] w (MPost F w g i (.returned (.tuple #[])) { s with stack := s.stack ++ [w65 x] }) := by
  obtain ⟨a, m, hF⟩ := t
  obtain ⟨i0, hi0, hz0, hz1, hz2⟩ := info_parts info_int
  obtain ⟨n, hn⟩ : ∃ n, s.stack.length = n := ⟨_, rfl⟩
  have c9 : w.cell? ⟨g, 9, none⟩ = some (.slice a.As n a.cS) := by rw [← hn]; exact m.blk.cellAt rfl
  have hr0 := m.st.reads
  rw [hn] at hr0 hl2
  have HR := hid hr0
  have HM := hid m
  have HH := hid hF
  have HN := hid hn
  have hx := tmod_bd x
  have HW := hid (w65_tmod x)
  generalize hX : Int.tmod x 65536 = X at *
  have HX := hid hX
  obtain ⟨hx1, hx2⟩ := hx
  clear hr0 m hF hn
  by_cases h0 : X < 0
  case' pos => have y0 : decide (X < 0) = true := decide_eq_true h0
  case' neg => have y0 : decide (X < 0) = false := decide_eq_false h0
  all_goals
    go_enter Tryz.func85, Tryz.ntmps85
    go_wp2_with (first
      | (at_builtin; refine wpList_app _ rfl (.tmp 5) (.tmp 10) _ rfl w.heap.size 3 i0 _ 1 8 Tryz.underlying51 hi0 hz0 hz1 hz2 rfl (by decide) (.slice none 0 0) 0 [] rfl (World.ownsRow_nil _ _ _ _) w.heap.size a.As n a.cS (s.stack.map iV) rfl HR.out (oneCell_is s.stack) (by simp [maxLen]; omega) (by omega) (Nat.le_refl _) ?_; intro A1 c1 w1 ho1 hg1 hb1; have HO1 := hid (own0 ho1); have hs1 := hg1.size; have HB1 := hid ((Below.refl w.heap.size w).grown hg1 (Nat.le_refl _) (fun k hk => by cases hk)); clear ho1 hg1 hb1)
      | (at_builtin; refine wpList_app _ rfl (.tmp 19) (.tmp 21) _ rfl w.heap.size 3 i0 _ 1 8 Tryz.underlying51 hi0 hz0 hz1 hz2 rfl (by decide) (.slice A1 n c1) n (s.stack.map iV) rfl (own_below HO1.out (below_alloc1 w1 _)) _ (some ⟨w1.heap.size, 0, none⟩) 1 1 (([_] : List Int).map iV) rfl (lit1V w1 _) (oneCell_is _) (by simp [maxLen]; omega) (by omega) (by simp; omega) ?_; intro A2 c2 w2 ho2 hg2 hb2; have HB2 := hid (below_own (bel_alloc HB1.out _) (own_below HO1.out (below_alloc1 w1 _)) hg2 (Nat.le_refl _) (by simp; omega)); have hbk := HM.out.blk.below HB2.out HM.out.blk.lt; have d9 : w2.cell? ⟨g, 9, none⟩ = some (.slice a.As s.stack.length a.cS) := hbk.cellAt rfl; have f9 := hbk.frozen 9; have HO2 := hid ho2; clear ho2 hg2 hb2 hbk))
    refine bodyPost_end (v := .tuple #[]) (by simp [results, Tryz.results85, go_sem]) rfl ?_
    have hxx := HW.out
    first | rw [if_pos h0] at hxx | rw [if_neg (by omega)] at hxx
    have ho := HO2.out
    rw [← hxx] at ho
    have K := HM.out.stack HB2.out (A' := A2) (c' := c2) (st' := s.stack ++ [w65 x]) (by
      have := Row.of_own ho
      rw [List.length_append, HN.out, List.map_append]
      exact this) (fun b hb => .inr (ho.lt b (ownBlock_foot.2 hb)).1)
    rw [List.length_append, HN.out] at K
    exact ⟨_, rfl, K.1.at_, Goes.iff_ HH.out K.2⟩
end
end Go.Proofs.YtidlahljhgglcaaGreat
