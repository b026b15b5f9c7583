/-
  Law 05: the window, what a partition reaches and its share are what the document says (TableAsks).
-/
import Derived.Test.YtbnodcenlggcnaaRefPath
import Derived.Test.YtbnodcenlggcnaaTabEx
import Derived.Test.YtbnodcenlggcnaaSchedStart
import Derived.Test.YtbnodcenlggcnaaSameInts
namespace Go.Proofs.Ytbnodcenlggcnaa
open Go.RowKit Go.ChangeShapes Go.WideShapes Go.ChangeAt

theorem hasB_iff (t : TabS) (p : Int) : hasB t p = true ↔ 0 ≤ p ∧ p < (t.parts.length : Int) := by
  simp only [hasB, inB, Bool.and_eq_true, decide_eq_true_eq]
  omega
theorem Reach_any (t : TabS) (a : TabA) (p : Int) (w : World) (h : TabOk w t a) :
    Calls Try.prog 19 #[.agg #[.int .i64 t.frame, .slice a.A1 t.parts.length a.c1, .slice a.A2 t.wins.length a.c2, .slice a.A3 t.chans.length a.c3, .int .i64 t.trial], .int .i64 p] w fun e w' => ∃ A' c', e = .returned (.slice A' (reachB t p).length c') ∧ w'.ownsRow w.heap.size 3 1 (.slice A' (reachB t p).length c') (reachB t p).length ((reachB t p).map iV) ∧ Below w.heap.size w w' := by
  by_cases hb : rightB t = true ∧ hasB t p = true
  · have hq := (hasB_iff t p).1 hb.2
    obtain ⟨n, rfl⟩ : ∃ n : Nat, p = n := ⟨p.toNat, by omega⟩
    have hr : reachB t (n : Int) = rchL t.chans n := by unfold reachB; rw [if_pos hb]; simp
    rw [hr]
    exact Reach_ok t a n w h ((rightB_iff t).1 hb.1) (by omega)
  · have hr : reachB t p = [] := by unfold reachB; rw [if_neg hb]
    rw [hr]
    refine (Reach_no t a p w h ?_).mono ?_
    · cases h1 : rightB t <;> cases h2 : hasB t p <;> simp_all
    · rintro e w' ⟨rfl, hb⟩
      exact ⟨none, 0, rfl, World.ownsRow_nil _ _ _ _, hb⟩
noncomputable def wantL (l : List ChanS) (a k : Nat) : List Int := ((List.range k).filter (rchB l a)).map (fun (i : Nat) => (i : Int))
theorem wantL_succ (l : List ChanS) (a k : Nat) : wantL l a (k + 1) = wantL l a k ++ if rchB l a k then [(k : Int)] else [] := by
  unfold wantL
  rw [List.range_succ, List.filter_append, List.map_append]
  cases h : rchB l a k <;> simp [h]
theorem wantL_len (l : List ChanS) (a : Nat) (k : Nat) : (wantL l a k).length ≤ k := by
  unfold wantL
  rw [List.length_map]
  exact Nat.le_trans (List.length_filter_le _ _) (by simp)
theorem wantL_done {t : TabS} (h : RightT t) {a : Nat} (ha : a < t.parts.length) : wantL t.chans a t.parts.length = rchL t.chans a := by
  have hd : ∀ d, wantL t.chans a (t.parts.length + d) = wantL t.chans a t.parts.length := by
    intro d
    induction d with
    | zero => rfl
    | succ d ih =>
      rw [← Nat.add_assoc, wantL_succ, ih]
      have : rchB t.chans a (t.parts.length + d) = false := by
        cases hb : rchB t.chans a (t.parts.length + d) with
        | false => rfl
        | true => exact absurd (rch_lt h ha (rchB_iff.1 hb)) (by omega)
      rw [this]
      simp
  have h4 := hd (4 - t.parts.length)
  have hp := h.p2
  rw [show t.parts.length + (4 - t.parts.length) = 4 by omega] at h4
  exact h4.symm
set_option maxRecDepth 100000 in
set_option maxHeartbeats 2000000 in
theorem asks_any (w : World) (t : TabS) (a : TabA) (hT : TabCame w t a) (pos p : Int) :
    Calls Try.prog 6 #[.agg #[.int .i64 t.frame, .slice a.A1 t.parts.length a.c1, .slice a.A2 t.wins.length a.c2, .slice a.A3 t.chans.length a.c3, .int .i64 t.trial], .int .i64 pos, .int .i64 p] w fun e w' => e = .returned (.bool true) ∧ Below w.heap.size w w' := by
  obtain ⟨A1, k1, A2, k2, A3, k3⟩ := a
  simp only
  obtain ⟨w1, hw1, hb0, hblk0, hs0⟩ := tab_in t ⟨A1, k1, A2, k2, A3, k3⟩ w
  simp only at hw1
  have iL := hid (fun w' => long_any t ⟨A1, k1, A2, k2, A3, k3⟩ w' hT.l1 hT.l2 hT.l3)
  have HC := hid hT
  clear hT
  simp only at iL
  go_enter Try.func6, Try.ntmps6
  go_wp2_with fail
  clear hw1 hs0
  refine (wakes_any _).mono ?_
  rintro e w2 ⟨rfl, hb2⟩
  have hb02 := bel_trans hb0 hb2
  have hblk2 := hblk0.belowS hb2
  obtain ⟨c0, c1, c2, c3, c4⟩ := tab_cells hblk2
  simp only at c0 c1 c2 c3 c4
  clear hblk0 hb2
  go_wp2_with fail
  refine (iL.out _).mono ?_
  rintro e w3 ⟨he, hb3⟩
  have hb03 := bel_trans hb02 hb3
  have hblk3 := hblk2.belowS hb3
  clear c0 c1 c2 c3 c4 hblk2 hb3 iL
  obtain ⟨c0, c1, c2, c3, c4⟩ := tab_cells hblk3
  simp only at c0 c1 c2 c3 c4
  by_cases hl : longB t = true
  · rw [hl] at he
    subst he
    clear hl hblk3
    go_wp2_with fail
    go_ret
    exact ⟨rfl, hb03⟩
  · have hl' : longB t = false := by simpa using hl
    rw [hl'] at he
    subst he
    have HO : Hid (∀ w', Below w.heap.size w w' → TabOk w' t ⟨A1, k1, A2, k2, A3, k3⟩) := hid (fun w' hb => HC.out.ok hl' hb)
    clear hl hl' HC
    have hpn : t.parts.length ≤ 100000 := (HO.out _ hb03).n1
    have i2 := hid (fun w' hb => refRight_any t ⟨A1, k1, A2, k2, A3, k3⟩ w' (HO.out w' hb))
    have j1 := hid (fun w' hb => window_any t ⟨A1, k1, A2, k2, A3, k3⟩ pos w' (HO.out w' hb))
    have j2 := hid (fun w' hb => Reach_any t ⟨A1, k1, A2, k2, A3, k3⟩ p w' (HO.out w' hb))
    have j3 := hid (fun w' hb => share_any t ⟨A1, k1, A2, k2, A3, k3⟩ p w' (HO.out w' hb))
    simp only at i2 j1 j2 j3
    have HW : Hid (∃ W, W = windowB t pos) := hid ⟨_, rfl⟩
    generalize hWW : windowB t pos = W at j1
    generalize hLL : reachB t p = L at j2
    generalize hSS : shareB t p = S at j3
    have HWW := hid hWW
    have HLL := hid hLL
    have HSS := hid hSS
    clear hWW hLL hSS HW
    have hlt := hblk3.lt
    have HA : Hid (∀ w', Below w3.heap.size w3 w' → w'.cell? ⟨w.heap.size, 0, none⟩ = some (.int .i64 t.frame) ∧ w'.cell? ⟨w.heap.size, 1, none⟩ = some (.slice A1 t.parts.length k1) ∧ w'.cell? ⟨w.heap.size, 2, none⟩ = some (.slice A2 t.wins.length k2) ∧ w'.cell? ⟨w.heap.size, 3, none⟩ = some (.slice A3 t.chans.length k3) ∧ w'.cell? ⟨w.heap.size, 4, none⟩ = some (.int .i64 t.trial)) := hid (fun w' hb => tab_cells (hblk3.belowS hb))
    have HB3 := hid hblk3
    have H03 := hid hb03
    clear hblk3 hb03 hb02 hb0
    go_wp2_with fail
    go_region_held3 (fun w' => w'.cell? ⟨w.heap.size, 0, none⟩ = some (.int .i64 t.frame) ∧ w'.cell? ⟨w.heap.size, 1, none⟩ = some (.slice A1 t.parts.length k1) ∧ w'.cell? ⟨w.heap.size, 2, none⟩ = some (.slice A2 t.wins.length k2) ∧ w'.cell? ⟨w.heap.size, 3, none⟩ = some (.slice A3 t.chans.length k3) ∧ w'.cell? ⟨w.heap.size, 4, none⟩ = some (.int .i64 t.trial)) (go_keep)
      (first
        | (go_at_call 21; refine (j1.out _ ?_).mono ?_; (first | exact H03.out | exact H03.out.drew); rintro e wa ⟨rfl, hba'⟩; have hba : Below w3.heap.size w3 wa := ⟨hba'.os, hba'.tape, hba'.output, hba'.size, hba'.block⟩; clear hba'; have h0a := hid (bel_trans H03.out hba); obtain ⟨z0, z1, z2, z3, z4⟩ := HA.out _ hba)
        | (go_at_call 19; refine (j2.out _ ?_).mono ?_; (first | exact h0a.out | exact h0a.out.drew); rintro e wb ⟨AL, cL, rfl, hownL, hbb'⟩; have hbb : Below wa.heap.size wa wb := ⟨hbb'.os, hbb'.tape, hbb'.output, hbb'.size, hbb'.block⟩; clear hbb'; have hbB := bel_trans hba hbb; have h0b := hid (bel_trans h0a.out hbb); have HOL := hid hownL; clear hownL z0 z1 z2 z3 z4; obtain ⟨z0, z1, z2, z3, z4⟩ := HA.out _ hbB)
        | (go_at_call 18; refine (j3.out _ ?_).mono ?_; (first | exact h0b.out | exact h0b.out.drew); rintro e wc ⟨rfl, hbc'⟩; have hbc : Below wb.heap.size wb wc := ⟨hbc'.os, hbc'.tape, hbc'.output, hbc'.size, hbc'.block⟩; clear hbc'; have hbC := bel_trans hbB hbc; have h0c := hid (bel_trans h0b.out hbc); have HOC := hid (own_below HOL.out hbc); clear HOL z0 z1 z2 z3 z4; obtain ⟨z0, z1, z2, z3, z4⟩ := HA.out _ hbC))
    have hblk4 := HB3.out.belowS hbC
    have HO4 := hid (Reads.of_own HOC.out)
    have hb04 := h0c.out
    have hLl : L.length ≤ 4 := by
      rw [← HLL.out]
      unfold reachB
      split
      · unfold rchL
        rw [List.length_map]
        exact Nat.le_trans (List.length_filter_le _ _) (by simp)
      · simp
    clear c0 c1 c2 c3 c4 z0 z1 z2 z3 z4 HA HB3 h0a h0b h0c hba hbb hbc hbB hbC j1 j2 j3 HOC H03
    have HLl := hid hLl
    obtain ⟨c0, c1, c2, c3, c4⟩ := tab_cells hblk4
    simp only at c0 c1 c2 c3 c4
    go_wp2_with fail
    refine (i2.out _ hb04).mono ?_
    rintro e w5 ⟨he, hb5⟩
    have hb05 := bel_trans hb04 hb5
    have hblk5 := hblk4.belowS hb5
    have HO5 := hid (HO4.out.belowS hb5)
    clear c0 c1 c2 c3 c4 hblk4 hb5 i2 HO4 hLl hb04
    obtain ⟨c0, c1, c2, c3, c4⟩ := tab_cells hblk5
    simp only at c0 c1 c2 c3 c4
    by_cases hr : rightB t = true
    · rw [hr] at he
      subst he
      have hR := (rightB_iff t).1 hr
      obtain ⟨F, hF⟩ : ∃ F : Nat, t.frame = (F : Int) := ⟨t.frame.toNat, by have := hR.f1; omega⟩
      have hF1 : 1 ≤ F := by have := hR.f1; omega
      have hF2 : F ≤ 64 := by have := hR.f2; omega
      have j1 := hid (fun w' hb => refWindow_any t ⟨A1, k1, A2, k2, A3, k3⟩ pos w' (HO.out w' hb) hR)
      have j2 := hid (fun (k : Nat) w' hb => refWindow_any t ⟨A1, k1, A2, k2, A3, k3⟩ (k : Int) w' (HO.out w' hb) hR)
      have HW2 : Hid (W = idxB (posB pos) t.wins) := hid (by rw [← HWW.out]; unfold windowB; rw [if_pos hr])
      have HS2 : Hid (S = cntZ (hitB p t.wins) 0 F) := hid (by rw [← HSS.out]; unfold shareB; rw [if_pos hr]; exact (cnt_share t p t.wins 0 F hR.ws (by omega)).symm)
      rw [← HW2.out] at j1
      have hp4 := hR.p2
      have HF := hid hF
      simp only at j1 j2
      by_cases hin : 0 ≤ p ∧ p < (t.parts.length : Int)
      focus
        obtain ⟨q, hq⟩ : ∃ q : Nat, p = q := ⟨p.toNat, by omega⟩
        have hqn : q < t.parts.length := by omega
        have HL2 : Hid (L = wantL t.chans q t.parts.length) := hid (by
          rw [← HLL.out, wantL_done hR hqn]
          unfold reachB
          rw [if_pos ⟨hr, (hasB_iff t p).2 hin⟩, hq]
          simp)
        have j6 : Hid (∀ (k : Nat) (w' : World), Below w.heap.size w w' → Calls Try.prog 23 #[.agg #[.int .i64 t.frame, .slice A1 t.parts.length k1, .slice A2 t.wins.length k2, .slice A3 t.chans.length k3, .int .i64 t.trial], .int .i64 p, .int .i64 (k : Int), .int .i64 4] w' fun e w'' => e = .returned (.bool (rchB t.chans q k)) ∧ Below w'.heap.size w' w'') := hid (fun k w' hb => by
          have := refPath_any t ⟨A1, k1, A2, k2, A3, k3⟩ 4 (by omega) p (k : Int) w' (HO.out w' hb)
          have e2 : pathB t.chans (k : Int) 4 p = rchB t.chans q k := by rw [hq]; exact path_rch hR (by omega)
          rw [e2] at this
          exact this)
        have g1 : decide ((0 : Int) ≤ p) = true := decide_eq_true (by omega)
        have g2 : decide (p < (t.parts.length : Int)) = true := decide_eq_true (by omega)
        clear hr hR hF hin hq
        go_wp2_with fail
        clear c0 c1 c2 c3 c4 g1 g2
        generalize hBB : w5.heap.size = B at *
        have HBB := hid hBB
        clear hBB
        go_loopw [10, 11, 54] (fun v10 _ v54 wr => ∃ (k : Nat) (A' : Option Addr) (c' : Nat), k ≤ t.parts.length ∧ v54 = .int .i64 (k : Int) ∧ v10 = .slice A' (wantL t.chans q k).length c' ∧ wr.ownsRow B 3 1 (.slice A' (wantL t.chans q k).length c') (wantL t.chans q k).length ((wantL t.chans q k).map iV) ∧ Below B w5 wr) (fun _ _ v54 _ => t.parts.length - (intOf v54).toNat)
        case atStart => exact ⟨0, none, 0, by omega, rfl, rfl, World.ownsRow_nil _ _ _ _, Below.refl _ _⟩
        obtain ⟨k, A', c', hk, rfl, rfl, hown, hbel⟩ := hrel
        have hlk := wantL_len t.chans q k
        have hbl5 : Below w5.heap.size w5 wr := by rw [HBB.out]; exact hbel
        have hb0r := bel_trans hb05 hbl5
        have hblkr := hblk5.belowS hbl5
        have hBr : B ≤ wr.heap.size := by have := hbel.size; have := HBB.out; omega
        obtain ⟨c0, c1, c2, c3, c4⟩ := tab_cells hblkr
        simp only at c0 c1 c2 c3 c4
        have HOW := hid hown
        by_cases hkn : k < t.parts.length
        · have j7 := hid (j6.out k)
          have hsu := hid (wantL_succ t.chans q k)
          generalize rchB t.chans q k = rv at j7 hsu
          generalize wantL t.chans q k = sl at hown hlk hsu HOW ⊢
          clear hown
          go_wp2_with fail
          refine (j7.out _ hb0r).mono ?_
          rintro e w8 ⟨rfl, hb8⟩
          have hown8 := hid (own_below HOW.out hb8)
          have hbl8 := hid (hbel.trans (hb8.mono hBr))
          have hB8 : B ≤ w8.heap.size := Nat.le_trans hBr hb8.size
          clear c0 c1 c2 c3 c4 hb8 j7 hblkr HOW
          cases rv with
          | true =>
            have hsx : Hid (wantL t.chans q (k + 1) = sl ++ [(k : Int)]) := hid (by rw [hsu.out]; rfl)
            go_wp2_with (at_builtin; refine appI w8 rfl (.tmp 61) (.tmp 63) rfl B A' sl.length c' sl (k : Int) rfl hown8.out w8.heap.size rfl rfl (by omega) hB8 (sl ++ [(k : Int)]).length (by simp) ?_; intro B2 c2' w9 hown9 hbl9)
            have hfin := hid (hbl8.out.trans hbl9)
            go_roundw
            case rel => exact ⟨k + 1, B2, c2', by omega, by go_num, by rw [hsx.out]; simp, by rw [hsx.out]; exact hown9, hfin.out⟩
            case measure => simp [intOf]; omega
          | false =>
            have hsx : Hid (wantL t.chans q (k + 1) = sl) := hid (by rw [hsu.out]; simp)
            go_wp2_with fail
            go_roundw
            case rel => exact ⟨k + 1, A', c', by omega, by go_num, by rw [hsx.out], by rw [hsx.out]; exact hown8.out, hbl8.out⟩
            case measure => simp [intOf]; omega
        obtain rfl : k = t.parts.length := by omega
        rw [← HL2.out]
        have h1 := HO5.out
        rw [← HBB.out] at h1
        have hR1 := hid (h1.belowS hbl5)
        have h2 := HOW.out
        rw [← HL2.out] at h2
        have hR2 := hid (Reads.of_own h2)
        clear h1 h2 hown HOW hlk hbel hBr HBB hbl5 hblk5 hb05 HL2 hkn hk j6 HO5 hqn
        obtain ⟨wz, rfl⟩ : ∃ z : World, z = wr := ⟨_, rfl⟩
        have hblkz := hblkr
        have h0z := hb0r
        clear hblkr hb0r
      rotate_left
      focus
        have hL0 : L = [] := by
          rw [← HLL.out]; unfold reachB; rw [if_neg (fun h => hin ((hasB_iff t p).1 h.2))]
        have hR1 := hid (HO5.out)
        have hR2 : Hid (Reads w5 w5.heap.size 1 none 0 (L.map iV)) := hid (by rw [hL0]; exact Reads.empty)
        obtain ⟨wz, rfl⟩ : ∃ z : World, z = w5 := ⟨_, rfl⟩
        have hblkz := hblk5
        have h0z := hb05
        clear hblk5 hb05 HO5 hL0 hr hR hF
        by_cases hin0 : 0 ≤ p
        focus
          have g1 : decide ((0 : Int) ≤ p) = true := decide_eq_true hin0
          have g2 : decide (p < (t.parts.length : Int)) = false := decide_eq_false (by omega)
          clear hin hin0
        rotate_left
        focus
          have g1 : decide ((0 : Int) ≤ p) = false := decide_eq_false hin0
          clear hin hin0
      all_goals
        rw [HF.out] at c0 j1 j2
        go_wp2_with fail
        clear c0 c1 c2 c3 c4
        clear HLL HSS HWW
        go_loopw [12, 13, 14, 68] (fun v12 _ _ v68 wr => ∃ k : Nat, k ≤ F ∧ v68 = .int .i64 (k : Int) ∧ v12 = .int .i64 (cntZ (hitB p t.wins) 0 k) ∧ Below wz.heap.size wz wr) (fun _ _ _ v68 _ => F - (intOf v68).toNat)
        case atStart => exact ⟨0, by omega, rfl, rfl, Below.refl _ _⟩
        obtain ⟨k, hk, rfl, rfl, hbel⟩ := hrel
        have hb0r := bel_trans h0z hbel
        have hblkr := hblkz.belowS hbel
        obtain ⟨c0, c1, c2, c3, c4⟩ := tab_cells hblkr
        simp only at c0 c1 c2 c3 c4
        rw [HF.out] at c0
        by_cases hkn : k < F
        · have j7 := hid (j2.out k)
          have hP0 := hid (part_none t.wins (k : Int))
          have hP1 := hid (part_idx t.wins (k : Int))
          have hsn := hid (cntZ_snoc (hitB p t.wins) 0 k)
          have hnn := cntZ_nonneg (hitB p t.wins) k 0
          rw [Int.zero_add] at hsn
          generalize cntZ (hitB p t.wins) 0 k = s at hsn hnn ⊢
          have hwr : IntKind.i64.wrap (s + 1) = s + 1 := IntWalk.i64_in _ (by omega)
          generalize idxB (posB (k : Int)) t.wins = I at j7 hP0 hP1
          clear hnn
          go_wp2_with fail
          refine (j7.out _ hb0r).mono ?_
          rintro e w8 ⟨rfl, hb8⟩
          have hbl8 := hid (bel_trans hbel hb8)
          have hT8 := HO.out _ (bel_trans hb0r hb8)
          clear c0 c1 c2 c3 c4
          obtain ⟨c0, c1, c2, c3, c4⟩ := tab_cells (hblkr.belowS hb8)
          simp only at c0 c1 c2 c3 c4
          clear hb8 hblkr j7
          by_cases hI : I < 0
          · have hsx : Hid (cntZ (hitB p t.wins) 0 (k + 1) = s) := hid (by
              rw [hsn.out]; unfold hitB; rw [hP0.out hI]; simp)
            have hI2 : decide ((0 : Int) ≤ I) = false := decide_eq_false (by omega)
            clear hI hT8
            go_wp2_with fail
            go_roundw
            case rel => exact ⟨k + 1, by omega, by go_num, by rw [hsx.out], hbl8.out⟩
            case measure => simp [intOf]; omega
          · obtain ⟨i, rfl⟩ : ∃ i : Nat, I = i := ⟨I.toNat, by omega⟩
            obtain ⟨x, hx, hf⟩ := hP1.out i rfl
            have hh : Hid (hitB p t.wins (k : Int) = (x.part == p)) := hid (by unfold hitB; rw [hf])
            have hinW := hT8.inn.2.1
            simp only at hinW
            have hn2 := hT8.n2
            have hin2 := (List.getElem?_eq_some_iff.1 hx).1
            obtain ⟨ad, x', rfl, had, hx', hc0, hc⟩ := hinW.at_ hin2
            rw [hx] at hx'
            injection hx' with hx'
            subst hx'
            have q0 := hc0 _ rfl
            have hI2 : decide ((0 : Int) ≤ (i : Int)) = true := decide_eq_true (by omega)
            have hi0 : (0 : Int) ≤ (i : Int) := by omega
            have hi1 : (i : Int) < (t.wins.length : Int) := by omega
            clear hc hc0 hx hf hinW hI hT8 hP0 hP1
            obtain ⟨xp, xa, xl⟩ := x
            simp only [iV] at q0 hh
            by_cases hxp : xp = p
            · have hxb : (xp == p) = true := by simpa using hxp
              have hsx : Hid (cntZ (hitB p t.wins) 0 (k + 1) = s + 1) := hid (by rw [hsn.out, hh.out, hxb]; rfl)
              clear hxp
              go_wp2_with fail
              go_roundw
              case rel => exact ⟨k + 1, by omega, by go_num, by rw [hsx.out], hbl8.out⟩
              case measure => simp [intOf]; omega
            · have hxb : (xp == p) = false := by simpa using hxp
              have hsx : Hid (cntZ (hitB p t.wins) 0 (k + 1) = s) := hid (by rw [hsn.out, hh.out, hxb]; simp)
              clear hxp
              go_wp2_with fail
              go_roundw
              case rel => exact ⟨k + 1, by omega, by go_num, by rw [hsx.out], hbl8.out⟩
              case measure => simp [intOf]; omega
        · obtain rfl : k = F := by omega
          rw [← HS2.out]
          clear HW2
          go_wp2_with fail
          refine (j1.out _ hb0r).mono ?_
          rintro e w8 ⟨rfl, hb8⟩
          have i7 := hid (fun c1 c2 => sameInts_b _ _ _ _ c1 c2 L L w8 ((hR1.out.belowS hbel).belowS hb8) ((hR2.out.belowS hbel).belowS hb8) (by have := HLl.out; omega) (by have := HLl.out; omega))
          rw [decide_eq_true (rfl : L = L)] at i7
          have h08 := hid (bel_trans hb0r hb8)
          clear c0 c1 c2 c3 c4 hb8 hb0r
          go_wp2_with fail
          refine (i7.out _ _).mono ?_
          rintro e w9 ⟨rfl, hb9⟩
          go_wp2_with fail
          go_ret
          exact ⟨rfl, bel_trans h08.out hb9⟩
    · have hr' : rightB t = false := by simpa using hr
      rw [hr'] at he
      subst he
      obtain rfl : W = -1 := by rw [← HWW.out]; unfold windowB; rw [if_neg hr]
      obtain rfl : L = [] := by rw [← HLL.out]; unfold reachB; rw [if_neg (fun h => hr h.1)]
      obtain rfl : S = 0 := by rw [← HSS.out]; unfold shareB; rw [if_neg hr]
      clear hr hr' HO5 HO HWW HLL HSS HLl hblk5
      go_wp2_with fail
      go_ret
      exact ⟨rfl, hb05⟩
theorem asks_law (w : World) (t : TabS) (a : TabA) (hT : TabCame w t a) (pos : Int) (_ : (Lit.int .i64 pos).wf = true) (p : Int) (_ : (Lit.int .i64 p).wf = true) :
    Calls Try.prog 6 #[.agg #[.int .i64 t.frame, .slice a.A1 t.parts.length a.c1, .slice a.A2 t.wins.length a.c2, .slice a.A3 t.chans.length a.c3, .int .i64 t.trial], .int .i64 pos, .int .i64 p] w fun e w' => e = .returned (.bool true) ∧ Below w.heap.size w w' := asks_any w t a hT pos p
/-! ### TableAsks: from the walk to the given statement -/
namespace lawTableAsks
theorem own : ownKnob Try.prog.godebug = none := by kernel_rfl
theorem laidOut : laidOutB Try.prog = true := by kernel_rfl
set_option maxRecDepth 100000 in
theorem lifted (os : Os) (started : os.Started) (H : Type) (enc : TypeId × Value → H) :
    ReturnsInHanded {} Try.checked os 6 .any (Rows.tableAsksSpec.pre6 enc Try.prog Try.f6 Rows.tableAsksRow.domain false) (Rows.tableAsksSpec.post enc Try.prog Try.f6 false true false false) := by
  refine returnsInHanded_of_change (C := Try.checked) own started (by kernel_rfl) Try.func6
    (ChangeSpec.witness6 (enc := enc) (C := Try.checked) false ⟨#[], #[.agg #[.int .i64 0, .slice none 0 0, .slice none 0 0, .slice none 0 0, .int .i64 0], .int .i64 0, .int .i64 0], []⟩ 8 (by kernel_rfl) (by kernel_rfl) (by kernel_rfl) (by kernel_rfl)) ?_
  intro W base args ds gs before hval0 hW hcnd _
  have hval : ∀ (j : Nat) t v, Try.f6.params[j]? = some t → args[j]? = some v → Value.okWide Try.prog W .any base t v := hval0
  have hW' := hW
  obtain ⟨p, q, hA0, hV, rfl, hfz, hnd⟩ := hW
  have hA : DataW.TrodAll enc Try.prog W 0 (fun _ => true) true Try.f6.params.toList args.toList ds p := hA0
  rw [Try.params6] at hA hval
  obtain ⟨v0, vs0, d0, ds0, p0, q0, hargs, rfl, rfl, h0, r0⟩ := trodAll_cons hA
  obtain ⟨v1, vs1, d1, ds1, p1, q1, rfl, rfl, rfl, h1, r1⟩ := trodAll_cons r0
  obtain ⟨v2, vs2, d2, ds2, p2, q2, rfl, rfl, rfl, h2, r2⟩ := trodAll_cons r1
  obtain ⟨rfl, rfl, rfl⟩ := trodAll_nil r2
  obtain rfl : args = #[v0, v1, v2] := by cases args; simp_all
  obtain ⟨rfl, rfl⟩ := trodVars_none hV
  have k0 := h0
  have lt0 : ∀ x ∈ p0, x.block < W.heap.size := by obtain ⟨m, hm⟩ := k0; exact DataW.trod_lt m _ _ _ hm
  have k1 := h1
  have lt1 : ∀ x ∈ p1, x.block < W.heap.size := by obtain ⟨m, hm⟩ := k1; exact DataW.trod_lt m _ _ _ hm
  have k2 := h2
  have lt2 : ∀ x ∈ p2, x.block < W.heap.size := by obtain ⟨m, hm⟩ := k2; exact DataW.trod_lt m _ _ _ hm
  obtain ⟨t0, a0, rfl, w0⟩ := open_tab (hval 0 26 v0 rfl rfl) h0
  obtain ⟨a1, rfl, rfl, rfl, w1⟩ := open_int Try.underlying3 (hval 1 3 v1 rfl rfl) h1
  obtain ⟨a2, rfl, rfl, rfl, w2⟩ := open_int Try.underlying3 (hval 2 3 v2 rfl rfl) h2
  clear hA0 hval0
  refine (asks_law W t0 a0 w0 a1 w1 a2 w2).mono fun e W' ⟨he, bel⟩ => ?_
  subst he
  exact ⟨_, rfl, _, _, _, [], _, [], hW', trodAll_mk1 (shut_bool Try.underlying4 _), (trodAll_cons_mk (Below.trod laidOut (by kernel_rfl) (of_decide_eq_true (by kernel_rfl)) k0 bel lt0) (trodAll_cons_mk (Below.trod laidOut (by kernel_rfl) (of_decide_eq_true (by kernel_rfl)) k1 bel lt1) (trodAll_cons_mk (Below.trod laidOut (by kernel_rfl) (of_decide_eq_true (by kernel_rfl)) k2 bel lt2) trodAll_mk0))), rfl, bel.frame _, fun h => by cases h⟩
theorem over : Rows.tableAsksRow.holds Try.pinned (OpenSpec.ofChange Rows.tableAsksSpec) :=
  OpenClaim.holds_of_wide 6 Try.f6 rfl rfl rfl rfl rfl rfl rfl ⟨rfl, rfl, rfl, rfl, rfl⟩ rfl rfl rfl rfl rfl (by kernel_rfl) Try.func6 (by kernel_rfl)
    (of_decide_eq_true (by kernel_rfl)) (by unfold Func.isWrapper; first | (rw [if_pos (by decide +kernel)]; kernel_rfl) | (rw [if_neg (by decide +kernel)]; exact ⟨rfl, rfl⟩))
    (fun os started H enc _ => lifted os started H enc)
theorem proved : Rows.TableAsksSaid := over
#print axioms proved
end lawTableAsks
end Go.Proofs.Ytbnodcenlggcnaa
