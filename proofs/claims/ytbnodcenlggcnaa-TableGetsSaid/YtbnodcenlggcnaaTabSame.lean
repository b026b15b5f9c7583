/-
  The document's own Same: equal tables are alike.
-/
import Derived.Test.YtbnodcenlggcnaaTabPut
namespace Go.Proofs.Ytbnodcenlggcnaa
open Go.RowKit

theorem tab2_in (t : TabS) (a b : TabA) (w : World) : ∃ w1 : World, (w.alloc (.cells #[.int .i64 t.frame, .slice a.A1 t.parts.length a.c1, .slice a.A2 t.wins.length a.c2, .slice a.A3 t.chans.length a.c3, .int .i64 t.trial] 26)).alloc (.cells #[.int .i64 t.frame, .slice b.A1 t.parts.length b.c1, .slice b.A2 t.wins.length b.c2, .slice b.A3 t.chans.length b.c3, .int .i64 t.trial] 26) = w1 ∧ Below w.heap.size w w1 ∧ Blk w1 w.heap.size 26 (tabC t a) ∧ Blk w1 (w.heap.size + 1) 26 (tabC t b) :=
  ⟨_, rfl, ((Below.refl _ _).alloc (Nat.le_refl _) _).alloc (by simp) _, (Blk.new w _ (tabC t a)).alloc _, by
    have := Blk.new (w.alloc (.cells (tabC t a).toArray 26)) 26 (tabC t b)
    rw [show (w.alloc (.cells (tabC t a).toArray 26)).heap.size = w.heap.size + 1 by simp] at this
    exact this⟩
set_option maxRecDepth 100000 in
set_option maxHeartbeats 4000000 in
theorem refSameTab (t : TabS) (a b : TabA) (w : World) (h1 : TabIn w t a) (h2 : TabIn w t b) (n1 : t.parts.length ≤ 100000) (n2 : t.wins.length ≤ 100000) (n3 : t.chans.length ≤ 100000) :
    Calls Try.prog 39 #[.agg #[.int .i64 t.frame, .slice a.A1 t.parts.length a.c1, .slice a.A2 t.wins.length a.c2, .slice a.A3 t.chans.length a.c3, .int .i64 t.trial], .agg #[.int .i64 t.frame, .slice b.A1 t.parts.length b.c1, .slice b.A2 t.wins.length b.c2, .slice b.A3 t.chans.length b.c3, .int .i64 t.trial]] w fun e w' => e = .returned (.bool true) ∧ Below w.heap.size w w' := by
  obtain ⟨w1, hw1, hb1, hX1, hY1⟩ := tab2_in t a b w
  have H1 := hid (h1.belowS hb1)
  have H2 := hid (h2.belowS hb1)
  have HX := hid hX1
  have HY := hid hY1
  have HB := hid hb1
  obtain ⟨c0, c1, c2, c3, c4⟩ := tab_cells hX1
  obtain ⟨d0, d1, d2, d3, d4⟩ := tab_cells hY1
  clear h1 h2 hX1 hY1 hb1
  obtain ⟨fr, parts, wins, chans, tr⟩ := t
  obtain ⟨A1, k1, A2, k2, A3, k3⟩ := a
  obtain ⟨B1, l1, B2, l2, B3, l3⟩ := b
  simp only at *
  go_enter Try.func39, Try.ntmps39
  go_wp2_with fail
  clear hw1
  go_loopw [5] (fun vC wr => ∃ (k : Nat), k ≤ parts.length ∧ vC = .int .i64 (k : Int) ∧ Below w1.heap.size w1 wr) (fun vC _ => parts.length - (intOf vC).toNat)
  case atStart => exact ⟨0, by omega, rfl, Below.refl _ _⟩
  case round =>
    obtain ⟨k, hk, rfl, hwr⟩ := hrel
    have HBr := hid hwr
    clear hwr c0 c1 c2 c3 c4 d0 d1 d2 d3 d4
    obtain ⟨c0, c1, c2, c3, c4⟩ := tab_cells (HX.out.belowS HBr.out)
    obtain ⟨d0, d1, d2, d3, d4⟩ := tab_cells (HY.out.belowS HBr.out)
    simp only at c0 c1 c2 c3 c4 d0 d1 d2 d3 d4
    by_cases hkn : k < parts.length
    · have y0 : decide ((k : Int) < (parts.length : Int)) = true := decide_eq_true (by omega)
      have y0' : decide (k < parts.length) = true := decide_eq_true hkn
      have z0 : (0 : Int) ≤ (k : Int) := Int.natCast_nonneg _
      have z1 : (k : Int) < (parts.length : Int) := by omega
      obtain ⟨ad, x, hAx, had, hx, q0, qq⟩ := (H1.out.1.belowS HBr.out).at_ hkn
      obtain ⟨ae, y, hAy, hae, hy, r0, rr⟩ := (H2.out.1.belowS HBr.out).at_ hkn
      have hxy : y = x := by rw [hx] at hy; injection hy with hy; exact hy.symm
      subst hxy
      have u0 := q0 _ rfl
      have u1 := qq 0 _ rfl
      have u2 := qq 1 _ rfl
      have s0 := r0 _ rfl
      have s1 := rr 0 _ rfl
      have s2 := rr 1 _ rfl
      clear q0 qq r0 rr hx hy
      obtain ⟨e1, e2, e3⟩ := y
      simp only at u0 u1 u2 s0 s1 s2
      subst hAx hAy
      go_wp2_with fail
      go_quiet (fail)
      go_wp2_with fail
      go_roundw
      case rel => exact ⟨k + 1, by omega, by go_num, below_drewN HBr.out _⟩
      case measure => simp [intOf]; omega
    · have hkN : k = parts.length := by omega
      have y0 : decide ((k : Int) < (parts.length : Int)) = false := decide_eq_false (by omega)
      have y0' : decide (k < parts.length) = false := decide_eq_false hkn
      clear hkN
      go_wp2_with fail
      have hqq := HBr.out
      go_loopw [6] (fun vC wr => ∃ (k : Nat), k ≤ wins.length ∧ vC = .int .i64 (k : Int) ∧ Below w1.heap.size w1 wr) (fun vC _ => wins.length - (intOf vC).toNat)
      case atStart => exact ⟨0, by omega, rfl, hqq⟩
      case round =>
        obtain ⟨k, hk, rfl, hwr⟩ := hrel
        have HBr := hid hwr
        clear hwr c0 c1 c2 c3 c4 d0 d1 d2 d3 d4
        obtain ⟨c0, c1, c2, c3, c4⟩ := tab_cells (HX.out.belowS HBr.out)
        obtain ⟨d0, d1, d2, d3, d4⟩ := tab_cells (HY.out.belowS HBr.out)
        simp only at c0 c1 c2 c3 c4 d0 d1 d2 d3 d4
        by_cases hkn : k < wins.length
        · have y0 : decide ((k : Int) < (wins.length : Int)) = true := decide_eq_true (by omega)
          have y0' : decide (k < wins.length) = true := decide_eq_true hkn
          have z0 : (0 : Int) ≤ (k : Int) := Int.natCast_nonneg _
          have z1 : (k : Int) < (wins.length : Int) := by omega
          obtain ⟨ad, x, hAx, had, hx, q0, qq⟩ := (H1.out.2.1.belowS HBr.out).at_ hkn
          obtain ⟨ae, y, hAy, hae, hy, r0, rr⟩ := (H2.out.2.1.belowS HBr.out).at_ hkn
          have hxy : y = x := by rw [hx] at hy; injection hy with hy; exact hy.symm
          subst hxy
          have u0 := q0 _ rfl
          have u1 := qq 0 _ rfl
          have u2 := qq 1 _ rfl
          have s0 := r0 _ rfl
          have s1 := rr 0 _ rfl
          have s2 := rr 1 _ rfl
          clear q0 qq r0 rr hx hy
          obtain ⟨e1, e2, e3⟩ := y
          simp only at u0 u1 u2 s0 s1 s2
          subst hAx hAy
          go_wp2_with fail
          go_quiet (fail)
          go_wp2_with fail
          go_roundw
          case rel => exact ⟨k + 1, by omega, by go_num, below_drewN HBr.out _⟩
          case measure => simp [intOf]; omega
        · have hkN : k = wins.length := by omega
          have y0 : decide ((k : Int) < (wins.length : Int)) = false := decide_eq_false (by omega)
          have y0' : decide (k < wins.length) = false := decide_eq_false hkn
          clear hkN
          go_wp2_with fail
          have hqq := HBr.out
          go_loopw [7] (fun vC wr => ∃ (k : Nat), k ≤ chans.length ∧ vC = .int .i64 (k : Int) ∧ Below w1.heap.size w1 wr) (fun vC _ => chans.length - (intOf vC).toNat)
          case atStart => exact ⟨0, by omega, rfl, hqq⟩
          case round =>
            obtain ⟨k, hk, rfl, hwr⟩ := hrel
            have HBr := hid hwr
            clear hwr c0 c1 c2 c3 c4 d0 d1 d2 d3 d4
            obtain ⟨c0, c1, c2, c3, c4⟩ := tab_cells (HX.out.belowS HBr.out)
            obtain ⟨d0, d1, d2, d3, d4⟩ := tab_cells (HY.out.belowS HBr.out)
            simp only at c0 c1 c2 c3 c4 d0 d1 d2 d3 d4
            by_cases hkn : k < chans.length
            · have y0 : decide ((k : Int) < (chans.length : Int)) = true := decide_eq_true (by omega)
              have y0' : decide (k < chans.length) = true := decide_eq_true hkn
              have z0 : (0 : Int) ≤ (k : Int) := Int.natCast_nonneg _
              have z1 : (k : Int) < (chans.length : Int) := by omega
              obtain ⟨ad, x, hAx, had, hx, q0, qq⟩ := (H1.out.2.2.belowS HBr.out).at_ hkn
              obtain ⟨ae, y, hAy, hae, hy, r0, rr⟩ := (H2.out.2.2.belowS HBr.out).at_ hkn
              have hxy : y = x := by rw [hx] at hy; injection hy with hy; exact hy.symm
              subst hxy
              have u0 := q0 _ rfl
              have u1 := qq 0 _ rfl
              have u2 := qq 1 _ rfl
              have s0 := r0 _ rfl
              have s1 := rr 0 _ rfl
              have s2 := rr 1 _ rfl
              clear q0 qq r0 rr hx hy
              obtain ⟨e1, e2, e3⟩ := y
              simp only at u0 u1 u2 s0 s1 s2
              subst hAx hAy
              go_wp2_with fail
              go_quiet (fail)
              go_wp2_with fail
              go_roundw
              case rel => exact ⟨k + 1, by omega, by go_num, below_drewN HBr.out _⟩
              case measure => simp [intOf]; omega
            · have hkN : k = chans.length := by omega
              have y0 : decide ((k : Int) < (chans.length : Int)) = false := decide_eq_false (by omega)
              have y0' : decide (k < chans.length) = false := decide_eq_false hkn
              clear hkN
              go_wp2_with fail
              go_ret
              exact ⟨rfl, bel_trans HB.out HBr.out⟩
end Go.Proofs.Ytbnodcenlggcnaa
