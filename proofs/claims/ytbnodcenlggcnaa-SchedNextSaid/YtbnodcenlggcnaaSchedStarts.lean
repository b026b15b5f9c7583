/-
  Law 22: the ticks at which a partition's windows start are just those of its windows' offsets, in each frame (SchedStarts).
-/
import Derived.Test.YtbnodcenlggcnaaSchedStart
import Derived.Test.YtbnodcenlggcnaaSameInts
import Derived.Test.YtbnodcenlggcnaaOpenArr
namespace Go.Proofs.Ytbnodcenlggcnaa
open Go.RowKit Go.ChangeShapes Go.WideShapes Go.ChangeAt

theorem askB_no {t : TabS} {p x y : Int} (h : askB t p x y = false) : p < 0 ∨ (0 ≤ p ∧ (t.parts.length : Int) ≤ p) ∨ (0 ≤ p ∧ p < t.parts.length ∧ x < 0) ∨ (0 ≤ p ∧ p < t.parts.length ∧ 0 ≤ x ∧ y < x) ∨ (0 ≤ p ∧ p < t.parts.length ∧ 0 ≤ x ∧ x ≤ y ∧ 10000 < y - x) := by
  simp only [askB, hasP, Bool.and_eq_false_iff, decide_eq_false_iff_not] at h
  omega
theorem askB_yes {t : TabS} {p x y : Int} (h : askB t p x y = true) : 0 ≤ p ∧ p < t.parts.length ∧ 0 ≤ x ∧ x ≤ y ∧ y - x ≤ 10000 ∧ hasP t p = true := by
  simp only [askB, Bool.and_eq_true, decide_eq_true_eq] at h
  have h1 := h.1.1.1
  have h2 := h1
  simp only [hasP, Bool.and_eq_true, decide_eq_true_eq] at h2
  exact ⟨h2.1, h2.2, h.1.1.2, h.1.2, h.2, h1⟩
theorem partS_any {t : TabS} (h : RightT t) (p : Int) (T F : Nat) : stB t.wins F p T = ((partL t.wins ((T % F : Nat) : Int) == p) && (t.wins.any fun x => x.at_ == ((T % F : Nat) : Int))) := by
  unfold stB
  rw [startL_any h]
set_option maxRecDepth 100000 in
set_option maxHeartbeats 2000000 in
theorem starts_any (w : World) (t : TabS) (a : TabA) (hT : TabCame w t a) (p x y : Int) (hx : -9223372036854775808 ≤ x ∧ x ≤ 9223372036854775807) (hy : -9223372036854775808 ≤ y ∧ y ≤ 9223372036854775807) :
    Calls Try.prog 11 #[.agg #[.int .i64 t.frame, .slice a.A1 t.parts.length a.c1, .slice a.A2 t.wins.length a.c2, .slice a.A3 t.chans.length a.c3, .int .i64 t.trial], .int .i64 p, .agg #[.int .i64 x, .int .i64 y]] w fun e w' => e = .returned (.bool true) ∧ Below w.heap.size w w' := by
  obtain ⟨A1, k1, A2, k2, A3, k3⟩ := a
  simp only
  obtain ⟨w0, hw0, hb00, hblk00, hs0⟩ := tab_in t ⟨A1, k1, A2, k2, A3, k3⟩ w
  simp only at hw0
  obtain ⟨w1, hw1, hb01, hfb1, hs1⟩ : ∃ w1 : World, w0.alloc (.cells #[.int .i64 x, .int .i64 y] 57) = w1 ∧ Below w0.heap.size w0 w1 ∧ Blk w1 w0.heap.size 57 [.int .i64 x, .int .i64 y] ∧ w1.heap.size = w0.heap.size + 1 := ⟨_, rfl, (Below.refl _ _).alloc (Nat.le_refl _) _, Blk.new _ _ _, by simp⟩
  have hb0 := bel_trans hb00 hb01
  have hblk0 := hblk00.belowS hb01
  have iL := hid (fun w' => longS_any t ⟨A1, k1, A2, k2, A3, k3⟩ w' hT.l1 hT.l2 hT.l3)
  have HC := hid hT
  clear hT hb00 hb01 hblk00
  simp only at iL
  go_enter Try.func11, Try.ntmps11
  go_wp2_with fail
  clear hw0 hw1
  have hfb0 : Blk w1 (w.heap.size + 1) 57 [.int .i64 x, .int .i64 y] := by rw [← hs0]; exact hfb1
  clear hs0 hs1 hfb1
  refine (wakesS_any _).mono ?_
  rintro e w2 ⟨rfl, hb2⟩
  have hb02 := bel_trans hb0 hb2
  have hblk2 := hblk0.belowS hb2
  have hfb2 := hfb0.belowS hb2
  obtain ⟨c0, c1, c2, c3, c4⟩ := tab_cells hblk2
  simp only at c0 c1 c2 c3 c4
  clear hblk0 hb2 hfb0
  go_wp2_with fail
  refine (iL.out _).mono ?_
  rintro e w3 ⟨he, hb3⟩
  have hb03 := bel_trans hb02 hb3
  have hblk3 := hblk2.belowS hb3
  have hfb3 := hfb2.belowS hb3
  clear c0 c1 c2 c3 c4 hblk2 hb3 iL hfb2
  obtain ⟨c0, c1, c2, c3, c4⟩ := tab_cells hblk3
  simp only at c0 c1 c2 c3 c4
  have d0 : w3.cell? ⟨w.heap.size + 1, 0, none⟩ = some (.int .i64 x) := hfb3.cellAt rfl
  have d1 : w3.cell? ⟨w.heap.size + 1, 1, none⟩ = some (.int .i64 y) := hfb3.cellAt rfl
  by_cases hl : longB t = true
  · rw [hl] at he
    subst he
    clear hl hblk3
    go_wp2_with fail
    go_ret
    exact ⟨rfl, hb03⟩
  · have hl' : longB t = false := by simpa using hl
    rw [hl'] at he
    subst he
    have HO : Hid (∀ w', Below w.heap.size w w' → TabOk w' t ⟨A1, k1, A2, k2, A3, k3⟩) := hid (fun w' hb => HC.out.ok hl' hb)
    clear hl hl' HC
    have hpn : t.parts.length ≤ 100000 := (HO.out _ hb03).n1
    have i2 := hid (fun w' hb => refRight_any t ⟨A1, k1, A2, k2, A3, k3⟩ w' (HO.out w' hb))
    simp only at i2
    by_cases hr : rightB t = true
    · rw [hr] at i2
      by_cases hA : askB t p x y = true
      · obtain ⟨a1, a2, a3, a4, a5, a6⟩ := askB_yes hA
        obtain ⟨T, rfl⟩ : ∃ T : Nat, x = T := ⟨x.toNat, by omega⟩
        obtain ⟨E, rfl⟩ : ∃ E : Nat, y = E := ⟨y.toNat, by omega⟩
        obtain ⟨n, hn⟩ : ∃ n : Nat, T + n = E := ⟨E - T, by omega⟩
        have hn1 : n ≤ 10000 := by omega
        have hEm : E ≤ 9223372036854775807 := by omega
        have hR := (rightB_iff t).1 hr
        obtain ⟨F, hF⟩ : ∃ F : Nat, t.frame = (F : Int) := ⟨t.frame.toNat, by have := hR.f1; omega⟩
        have hF1 : 1 ≤ F := by have := hR.f1; omega
        have hF2 : F ≤ 64 := by have := hR.f2; omega
        have i1 := hid (fun w' hb => Starts_ok t ⟨A1, k1, A2, k2, A3, k3⟩ p F T n E hF hn hEm hn1 w' (HO.out w' hb) hR a6)
        have i3 := hid (fun (k : Nat) (hk : k < n) w' => refPos_any t ⟨A1, k1, A2, k2, A3, k3⟩ F (T + k) hF hF1 hF2 (by omega) w')
        have i4 := hid (fun (M : Nat) w' hb => refPart_any t ⟨A1, k1, A2, k2, A3, k3⟩ (M : Int) w' (HO.out w' hb) hR)
        have i5 := hid (fun (M : Nat) w' hb => refStarts_any t ⟨A1, k1, A2, k2, A3, k3⟩ (M : Int) w' (HO.out w' hb))
        have hst := hid (fun (M : Nat) => startL_any hR (M : Int))
        simp only at i1 i3 i4 i5
        have HN := hid hn
        have g1 : decide (p < 0) = false := decide_eq_false (by omega)
        have g2 : decide ((t.parts.length : Int) ≤ p) = false := decide_eq_false (by omega)
        have g3 : decide ((T : Int) < 0) = false := decide_eq_false (by omega)
        have g4 : decide ((E : Int) < (T : Int)) = false := decide_eq_false (by omega)
        have g4' : decide (E < T) = false := decide_eq_false (by omega)
        have g5 : (E : Int) - (T : Int) = (n : Int) := by omega
        have g6 : decide ((10000 : Int) < (n : Int)) = false := decide_eq_false (by omega)
        clear hr hA hR hF hn hx hy a6
        go_wp2_with fail
        refine (i1.out _ hb03).mono ?_
        rintro e w4 ⟨B1, d1', rfl, hown4, hb4⟩
        have hb04 := bel_trans hb03 hb4
        have hblk4 := hblk3.belowS hb4
        have hfb4 := hfb3.belowS hb4
        clear c0 c1 c2 c3 c4 d0 d1 hblk3 hb4 i1 hfb3
        have hll := stL_len t.wins F p T n
        generalize hSL : stL t.wins F p T n = SL at hown4 hll
        have HSL := hid hSL
        clear hSL
        obtain ⟨c0, c1, c2, c3, c4⟩ := tab_cells hblk4
        simp only at c0 c1 c2 c3 c4
        go_wp2_with fail
        refine (i2.out _ hb04).mono ?_
        rintro e w5 ⟨rfl, hb5⟩
        have hb05 := bel_trans hb04 hb5
        have hblk5 := hblk4.belowS hb5
        have hfb5 := hfb4.belowS hb5
        have hown5 := own_below hown4 hb5
        clear c0 c1 c2 c3 c4 hblk4 hb5 i2 hfb4 hown4
        obtain ⟨c0, c1, c2, c3, c4⟩ := tab_cells hblk5
        simp only at c0 c1 c2 c3 c4
        have d0 : w5.cell? ⟨w.heap.size + 1, 0, none⟩ = some (.int .i64 (T : Int)) := hfb5.cellAt rfl
        have d1 : w5.cell? ⟨w.heap.size + 1, 1, none⟩ = some (.int .i64 (E : Int)) := hfb5.cellAt rfl
        have hsz1 := hblk5.lt
        have hsz2 := hfb5.lt
        go_wp2_with fail
        clear c0 c1 c2 c3 c4 d0 d1 g1 g2 g3 g4 g4' g5 g6
        generalize hBB : w5.heap.size = B at *
        have HBB := hid hBB
        clear hBB
        go_loopw [9, 10, 11, 77] (fun v9 _ _ v77 wr => ∃ (k : Nat) (A' : Option Addr) (c' : Nat), k ≤ n ∧ v77 = .int .i64 (k : Int) ∧ v9 = .slice A' (stL t.wins F p T k).length c' ∧ wr.ownsRow B 3 1 (.slice A' (stL t.wins F p T k).length c') (stL t.wins F p T k).length ((stL t.wins F p T k).map iV) ∧ Below B w5 wr) (fun _ _ _ v77 _ => n - (intOf v77).toNat)
        case atStart => exact ⟨0, none, 0, by omega, rfl, rfl, World.ownsRow_nil _ _ _ _, Below.refl _ _⟩
        case round =>
          obtain ⟨k, A', c', hk, rfl, rfl, hown, hbel⟩ := hrel
          have hlk := stL_len t.wins F p T k
          have hbl5 : Below w5.heap.size w5 wr := by rw [HBB.out]; exact hbel
          have hb0r := bel_trans hb05 hbl5
          have hblkr := hblk5.belowS hbl5
          have hfbr := hfb5.belowS hbl5
          have hBr : B ≤ wr.heap.size := by have := hbel.size; have := HBB.out; omega
          obtain ⟨c0, c1, c2, c3, c4⟩ := tab_cells hblkr
          simp only at c0 c1 c2 c3 c4
          have d0 : wr.cell? ⟨w.heap.size + 1, 0, none⟩ = some (.int .i64 (T : Int)) := hfbr.cellAt rfl
          have HOW := hid hown
          by_cases hkn : k < n
          · have i6 := hid (i3.out k hkn wr)
            rw [show ((T + k : Nat) : Int) = (T : Int) + (k : Int) by omega] at i6
            have hTk : (T : Int) + (k : Int) ≤ 9223372036854775807 := by have := HN.out; omega
            have hsu := hid (stL_succ t.wins F p T k)
            have hsb : Hid (stB t.wins F p (T + k) = ((partL t.wins (((T + k) % F : Nat) : Int) == p) && startL t.wins (((T + k) % F : Nat) : Int))) := hid rfl
            have j4 := hid (i4.out ((T + k) % F))
            have j5 := hid (i5.out ((T + k) % F))
            rw [← hst.out] at j5
            generalize startL t.wins (((T + k) % F : Nat) : Int) = st at j5 hsb
            generalize partL t.wins (((T + k) % F : Nat) : Int) = pa at j4 hsb
            generalize (T + k) % F = M at i6 j4 j5
            generalize stL t.wins F p T k = sl at hown hlk hsu HOW ⊢
            clear hown
            go_wp2_with fail
            refine i6.out.mono ?_
            rintro e w6 ⟨rfl, hb6⟩
            have hb06 := bel_trans hb0r hb6
            have hblk6 := hblkr.belowS hb6
            have hfb6 := hfbr.belowS hb6
            have hown6 := own_below HOW.out hb6
            have hbl6 : Below B w5 w6 := hbel.trans (hb6.mono hBr)
            have hB6 : B ≤ w6.heap.size := Nat.le_trans hBr hb6.size
            clear c0 c1 c2 c3 c4 d0 hb6 i6 hblkr hfbr HOW
            obtain ⟨c0, c1, c2, c3, c4⟩ := tab_cells hblk6
            simp only at c0 c1 c2 c3 c4
            go_wp2_with fail
            refine (j4.out _ hb06).mono ?_
            rintro e w7 ⟨rfl, hb7⟩
            have hb07 := bel_trans hb06 hb7
            have hblk7 := hblk6.belowS hb7
            have hfb7 := hfb6.belowS hb7
            have hown7 := own_below hown6 hb7
            have hbl7 : Below B w5 w7 := hbl6.trans (hb7.mono hB6)
            have hB7 : B ≤ w7.heap.size := Nat.le_trans hB6 hb7.size
            clear c0 c1 c2 c3 c4 hb7 j4 hblk6 hfb6 hown6
            obtain ⟨c0, c1, c2, c3, c4⟩ := tab_cells hblk7
            simp only at c0 c1 c2 c3 c4
            by_cases hpe : pa = p
            · have hpb : (pa == p) = true := by simpa using hpe
              have hsb2 : Hid (stB t.wins F p (T + k) = st) := hid (by rw [hsb.out, hpb, Bool.true_and])
              clear hpe hsb
              go_wp2_with fail
              refine (j5.out _ hb07).mono ?_
              rintro e w8 ⟨rfl, hb8⟩
              have hown8 := hid (own_below hown7 hb8)
              have hfb8 := hfb7.belowS hb8
              have hbl8 := hid (hbl7.trans (hb8.mono hB7))
              have hB8 : B ≤ w8.heap.size := Nat.le_trans hB7 hb8.size
              clear c0 c1 c2 c3 c4 hb8 j5 hblk7 hfb7 hown7 hpb
              cases st with
              | true =>
                have hsx : Hid (stL t.wins F p T (k + 1) = sl ++ [(T : Int) + (k : Int)]) := hid (by rw [hsu.out, hsb2.out]; rfl)
                have d0 : w8.cell? ⟨w.heap.size + 1, 0, none⟩ = some (.int .i64 (T : Int)) := hfb8.cellAt rfl
                go_wp2_with (at_builtin; refine appI w8 rfl (.tmp 96) (.tmp 101) rfl B A' sl.length c' sl ((T : Int) + (k : Int)) rfl hown8.out w8.heap.size rfl rfl (by omega) hB8 (sl ++ [(T : Int) + (k : Int)]).length (by simp) ?_; intro B2 c2' w9 hown9 hbl9)
                clear d0
                have hfin := hid (hbl8.out.trans hbl9)
                go_roundw
                case rel => exact ⟨k + 1, B2, c2', by omega, by go_num, by rw [hsx.out]; simp, by rw [hsx.out]; exact hown9, hfin.out⟩
                case measure => simp [intOf]; omega
              | false =>
                have hsx : Hid (stL t.wins F p T (k + 1) = sl) := hid (by rw [hsu.out, hsb2.out]; simp)
                go_wp2_with fail
                go_roundw
                case rel => exact ⟨k + 1, A', c', by omega, by go_num, by rw [hsx.out], by rw [hsx.out]; exact hown8.out, hbl8.out⟩
                case measure => simp [intOf]; omega
            · have hpb : (pa == p) = false := by simpa using hpe
              have hsx : Hid (stL t.wins F p T (k + 1) = sl) := hid (by rw [hsu.out, hsb.out, hpb]; simp)
              have hown8 := hid hown7
              have hbl8 := hid hbl7
              clear hpe hsb
              go_wp2_with fail
              go_roundw
              case rel => exact ⟨k + 1, A', c', by omega, by go_num, by rw [hsx.out], by rw [hsx.out]; exact hown8.out, hbl8.out⟩
              case measure => simp [intOf]; omega
          · obtain rfl : k = n := by omega
            rw [HSL.out] at HOW hlk ⊢
            have hown6 := own_below hown5 hbl5
            have i7 := hid (sameInts_b _ _ _ _ d1' c' SL SL wr (Reads.of_own hown6) (Reads.of_own HOW.out) (by omega) (by omega))
            rw [decide_eq_true (rfl : SL = SL)] at i7
            clear hown
            go_wp2_with fail
            refine i7.out.mono ?_
            rintro e w8 ⟨rfl, hb8⟩
            go_wp2_with fail
            go_ret
            exact ⟨rfl, bel_trans hb0r hb8⟩
      · have hA' : askB t p x y = false := by simpa using hA
        have i1 := hid (fun w' hb => Starts_range t ⟨A1, k1, A2, k2, A3, k3⟩ p x y hx hy w' (HO.out w' hb) hr hA')
        simp only at i1
        have hno := askB_no hA'
        clear hr hA hA'
        go_wp2_with fail
        refine (i1.out _ hb03).mono ?_
        rintro e w4 ⟨rfl, hb4⟩
        have hb04 := bel_trans hb03 hb4
        have hblk4 := hblk3.belowS hb4
        have hfb4 := hfb3.belowS hb4
        clear c0 c1 c2 c3 c4 d0 d1 hblk3 hb4 i1 hfb3
        obtain ⟨c0, c1, c2, c3, c4⟩ := tab_cells hblk4
        simp only at c0 c1 c2 c3 c4
        go_wp2_with fail
        refine (i2.out _ hb04).mono ?_
        rintro e w5 ⟨rfl, hb5⟩
        have hb05 := bel_trans hb04 hb5
        have hblk5 := hblk4.belowS hb5
        have hfb5 := hfb4.belowS hb5
        clear c0 c1 c2 c3 c4 hblk4 hb5 i2 hfb4
        obtain ⟨c0, c1, c2, c3, c4⟩ := tab_cells hblk5
        simp only at c0 c1 c2 c3 c4
        have d0 : w5.cell? ⟨w.heap.size + 1, 0, none⟩ = some (.int .i64 x) := hfb5.cellAt rfl
        have d1 : w5.cell? ⟨w.heap.size + 1, 1, none⟩ = some (.int .i64 y) := hfb5.cellAt rfl
        rcases hno with h1 | ⟨h1, h2⟩ | ⟨h1, h2, h3⟩ | ⟨h1, h2, h3, h4⟩ | ⟨h1, h2, h3, h4, h5⟩
        · have g1 : decide (p < 0) = true := decide_eq_true h1
          go_wp2_with fail
          go_ret
          exact ⟨rfl, hb05⟩
        · have g1 : decide (p < 0) = false := decide_eq_false (by omega)
          have g2 : decide ((t.parts.length : Int) ≤ p) = true := decide_eq_true h2
          go_wp2_with fail
          go_ret
          exact ⟨rfl, hb05⟩
        · have g1 : decide (p < 0) = false := decide_eq_false (by omega)
          have g2 : decide ((t.parts.length : Int) ≤ p) = false := decide_eq_false (by omega)
          have g3 : decide (x < 0) = true := decide_eq_true h3
          go_wp2_with fail
          go_ret
          exact ⟨rfl, hb05⟩
        · have g1 : decide (p < 0) = false := decide_eq_false (by omega)
          have g2 : decide ((t.parts.length : Int) ≤ p) = false := decide_eq_false (by omega)
          have g3 : decide (x < 0) = false := decide_eq_false (by omega)
          have g4 : decide (y < x) = true := decide_eq_true h4
          go_wp2_with fail
          go_ret
          exact ⟨rfl, hb05⟩
        · have g1 : decide (p < 0) = false := decide_eq_false (by omega)
          have g2 : decide ((t.parts.length : Int) ≤ p) = false := decide_eq_false (by omega)
          have g3 : decide (x < 0) = false := decide_eq_false (by omega)
          have g4 : decide (y < x) = false := decide_eq_false (by omega)
          have g5 : decide (10000 < y - x) = true := decide_eq_true h5
          go_wp2_with fail
          go_ret
          exact ⟨rfl, hb05⟩
    · have hr' : rightB t = false := by simpa using hr
      rw [hr'] at i2
      have i1 := hid (fun w' hb => Starts_bad t ⟨A1, k1, A2, k2, A3, k3⟩ p x y w' (HO.out w' hb) hr')
      simp only at i1
      clear hr hr'
      go_wp2_with fail
      refine (i1.out _ hb03).mono ?_
      rintro e w4 ⟨rfl, hb4⟩
      have hb04 := bel_trans hb03 hb4
      have hblk4 := hblk3.belowS hb4
      clear c0 c1 c2 c3 c4 d0 d1 hblk3 hb4 i1
      obtain ⟨c0, c1, c2, c3, c4⟩ := tab_cells hblk4
      simp only at c0 c1 c2 c3 c4
      go_wp2_with fail
      refine (i2.out _ hb04).mono ?_
      rintro e w5 ⟨rfl, hb5⟩
      go_wp2_with fail
      go_ret
      exact ⟨rfl, bel_trans hb04 hb5⟩
theorem starts_law (w : World) (t : TabS) (a : TabA) (hT : TabCame w t a) (p : Int) (_ : (Lit.int .i64 p).wf = true) (x y : Int) (hx : (Lit.int .i64 x).wf = true) (hy : (Lit.int .i64 y).wf = true) :
    Calls Try.prog 11 #[.agg #[.int .i64 t.frame, .slice a.A1 t.parts.length a.c1, .slice a.A2 t.wins.length a.c2, .slice a.A3 t.chans.length a.c3, .int .i64 t.trial], .int .i64 p, .agg #[.int .i64 x, .int .i64 y]] w fun e w' => e = .returned (.bool true) ∧ Below w.heap.size w w' :=
  starts_any w t a hT p x y (bounds_i64 hx) (bounds_i64 hy)
/-! ### SchedStarts: from the walk to the given statement -/
namespace lawSchedStarts
theorem own : ownKnob Try.prog.godebug = none := by kernel_rfl
theorem laidOut : laidOutB Try.prog = true := by kernel_rfl
set_option maxRecDepth 100000 in
theorem lifted (os : Os) (started : os.Started) (H : Type) (enc : TypeId × Value → H) :
    ReturnsInHanded {} Try.checked os 11 .any (Rows.schedStartsSpec.pre6 enc Try.prog Try.f11 Rows.schedStartsRow.domain false) (Rows.schedStartsSpec.post enc Try.prog Try.f11 false true false false) := by
  refine returnsInHanded_of_change (C := Try.checked) own started (by kernel_rfl) Try.func11
    (ChangeSpec.witness6 (enc := enc) (C := Try.checked) false ⟨#[], #[.agg #[.int .i64 0, .slice none 0 0, .slice none 0 0, .slice none 0 0, .int .i64 0], .int .i64 0, .agg #[.int .i64 0, .int .i64 0]], []⟩ 8 (by kernel_rfl) (by kernel_rfl) (by kernel_rfl) (by kernel_rfl)) ?_
  intro W base args ds gs before hval0 hW hcnd _
  have hval : ∀ (j : Nat) t v, Try.f11.params[j]? = some t → args[j]? = some v → Value.okWide Try.prog W .any base t v := hval0
  have hW' := hW
  obtain ⟨p, q, hA0, hV, rfl, hfz, hnd⟩ := hW
  have hA : DataW.TrodAll enc Try.prog W 0 (fun _ => true) true Try.f11.params.toList args.toList ds p := hA0
  rw [Try.params11] at hA hval
  obtain ⟨v0, vs0, d0, ds0, p0, q0, hargs, rfl, rfl, h0, r0⟩ := trodAll_cons hA
  obtain ⟨v1, vs1, d1, ds1, p1, q1, rfl, rfl, rfl, h1, r1⟩ := trodAll_cons r0
  obtain ⟨v2, vs2, d2, ds2, p2, q2, rfl, rfl, rfl, h2, r2⟩ := trodAll_cons r1
  obtain ⟨rfl, rfl, rfl⟩ := trodAll_nil r2
  obtain rfl : args = #[v0, v1, v2] := by cases args; simp_all
  obtain ⟨rfl, rfl⟩ := trodVars_none hV
  have k0 := h0
  have lt0 : ∀ x ∈ p0, x.block < W.heap.size := by obtain ⟨m, hm⟩ := k0; exact DataW.trod_lt m _ _ _ hm
  have k1 := h1
  have lt1 : ∀ x ∈ p1, x.block < W.heap.size := by obtain ⟨m, hm⟩ := k1; exact DataW.trod_lt m _ _ _ hm
  have k2 := h2
  have lt2 : ∀ x ∈ p2, x.block < W.heap.size := by obtain ⟨m, hm⟩ := k2; exact DataW.trod_lt m _ _ _ hm
  obtain ⟨t0, a0, rfl, w0⟩ := open_tab (hval 0 26 v0 rfl rfl) h0
  obtain ⟨a1, rfl, rfl, rfl, w1⟩ := open_int Try.underlying3 (hval 1 3 v1 rfl rfl) h1
  obtain ⟨x2, y2, rfl, wx2, wy2⟩ := open_arr2 Try.underlying57 Try.underlying3 (by kernel_rfl) (by kernel_rfl) (hval 2 57 v2 rfl rfl) h2
  clear hA0 hval0
  refine (starts_law W t0 a0 w0 a1 w1 x2 y2 wx2 wy2).mono fun e W' ⟨he, bel⟩ => ?_
  subst he
  exact ⟨_, rfl, _, _, _, [], _, [], hW', trodAll_mk1 (shut_bool Try.underlying4 _), (trodAll_cons_mk (Below.trod laidOut (by kernel_rfl) (of_decide_eq_true (by kernel_rfl)) k0 bel lt0) (trodAll_cons_mk (Below.trod laidOut (by kernel_rfl) (of_decide_eq_true (by kernel_rfl)) k1 bel lt1) (trodAll_cons_mk (Below.trod laidOut (by kernel_rfl) (of_decide_eq_true (by kernel_rfl)) k2 bel lt2) trodAll_mk0))), rfl, bel.frame _, fun h => by cases h⟩
theorem over : Rows.schedStartsRow.holds Try.pinned (OpenSpec.ofChange Rows.schedStartsSpec) :=
  OpenClaim.holds_of_wide 11 Try.f11 rfl rfl rfl rfl rfl rfl rfl ⟨rfl, rfl, rfl, rfl, rfl⟩ rfl rfl rfl rfl rfl (by kernel_rfl) Try.func11 (by kernel_rfl)
    (of_decide_eq_true (by kernel_rfl)) (by unfold Func.isWrapper; first | (rw [if_pos (by decide +kernel)]; kernel_rfl) | (rw [if_neg (by decide +kernel)]; exact ⟨rfl, rfl⟩))
    (fun os started H enc _ => lifted os started H enc)
theorem proved : Rows.SchedStartsSaid := over
#print axioms proved
end lawSchedStarts
end Go.Proofs.Ytbnodcenlggcnaa
