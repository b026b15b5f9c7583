/-
  Law 22: the next tick of a partition is one of its, and none between is; behind so many of its ticks it has run just so often (SchedNext).
-/
import Derived.Test.YtbnodcenlggcnaaSchedUntil
import Derived.Test.YtbnodcenlggcnaaSchedStarts
namespace Go.Proofs.Ytbnodcenlggcnaa
open Go.RowKit Go.ChangeShapes Go.WideShapes Go.ChangeAt

theorem shareB_zero {t : TabS} {p : Int} (h : shareB t p ≠ 0) : RightT t ∧ 0 ≤ p ∧ p < t.parts.length := by
  unfold shareB at h
  by_cases hr : rightB t = true
  · rw [if_pos hr] at h
    have hR := (rightB_iff t).1 hr
    refine ⟨hR, ?_⟩
    by_cases hp : 0 ≤ p ∧ p < t.parts.length
    · exact hp
    · exact absurd (share_none p t.wins (fun w hw => by have h1 := (hR.win w hw).1; have h2 := (hR.win w hw).2.1; omega)) h
  · rw [if_neg hr] at h
    exact absurd rfl h

set_option maxRecDepth 100000 in
set_option maxHeartbeats 4000000 in
theorem next_any (w : World) (t : TabS) (a : TabA) (hT : TabCame w t a) (p : Int) (x y : Nat) (hx : x < 65536) (hy : y < 65536) :
    Calls Try.prog 10 #[.agg #[.int .i64 t.frame, .slice a.A1 t.parts.length a.c1, .slice a.A2 t.wins.length a.c2, .slice a.A3 t.chans.length a.c3, .int .i64 t.trial], .int .i64 p, .agg #[.int .u16 (x : Int), .int .u16 (y : Int)]] w fun e w' => e = .returned (.bool true) ∧ Below w.heap.size w w' := by
  obtain ⟨A1, k1, A2, k2, A3, k3⟩ := a
  simp only
  obtain ⟨w0, hw0, hb00, hblk00, hs0⟩ := tab_in t ⟨A1, k1, A2, k2, A3, k3⟩ w
  simp only at hw0
  obtain ⟨w1, hw1, hb01, hfb1, hs1⟩ : ∃ w1 : World, w0.alloc (.cells #[.int .u16 (x : Int), .int .u16 (y : Int)] 52) = w1 ∧ Below w0.heap.size w0 w1 ∧ Blk w1 w0.heap.size 52 [.int .u16 (x : Int), .int .u16 (y : Int)] ∧ w1.heap.size = w0.heap.size + 1 := ⟨_, rfl, (Below.refl _ _).alloc (Nat.le_refl _) _, Blk.new _ _ _, by simp⟩
  have hb0 := bel_trans hb00 hb01
  have hblk0 := hblk00.belowS hb01
  have iL := hid (fun w' => longS_any t ⟨A1, k1, A2, k2, A3, k3⟩ w' hT.l1 hT.l2 hT.l3)
  have HC := hid hT
  clear hT hb01 hblk00
  simp only at iL
  go_enter Try.func10, Try.ntmps10
  go_wp2_with fail
  clear hw0 hw1
  have hfb0 : Blk w1 (w.heap.size + 1) 52 [.int .u16 (x : Int), .int .u16 (y : Int)] := by rw [← hs0]; exact hfb1
  clear hs0 hs1 hfb1
  refine (wakesS_any _).mono ?_
  rintro e w2 ⟨rfl, hb2⟩
  have hb02 := bel_trans hb0 hb2
  have hblk2 := hblk0.belowS hb2
  have hfb2 := hfb0.belowS hb2
  obtain ⟨c0, c1, c2, c3, c4⟩ := tab_cells hblk2
  simp only at c0 c1 c2 c3 c4
  clear hblk0 hb2 hfb0
  go_wp2_with fail
  refine (iL.out _).mono ?_
  rintro e w3 ⟨he, hb3⟩
  have hb03 := bel_trans hb02 hb3
  have hblk3 := hblk2.belowS hb3
  have hfb3 := hfb2.belowS hb3
  clear c0 c1 c2 c3 c4 hblk2 hb3 iL hfb2
  obtain ⟨c0, c1, c2, c3, c4⟩ := tab_cells hblk3
  simp only at c0 c1 c2 c3 c4
  by_cases hl : longB t = true
  · rw [hl] at he
    subst he
    clear hl hblk3
    go_wp2_with fail
    go_ret
    exact ⟨rfl, hb03⟩
  · have hl' : longB t = false := by simpa using hl
    rw [hl'] at he
    subst he
    have HO : Hid (∀ w', Below w.heap.size w w' → TabOk w' t ⟨A1, k1, A2, k2, A3, k3⟩) := hid (fun w' hb => HC.out.ok hl' hb)
    clear hl hl' HC
    have e0 : w3.cell? ⟨w.heap.size + 1, 0, none⟩ = some (.int .u16 (x : Int)) := hfb3.cellAt rfl
    have e1 : w3.cell? ⟨w.heap.size + 1, 1, none⟩ = some (.int .u16 (y : Int)) := hfb3.cellAt rfl
    obtain ⟨N, hN, hN1, hN2⟩ : ∃ N : Nat, (1 : Int) + (y : Int) % 50 = (N : Int) ∧ 1 ≤ N ∧ N ≤ 50 := ⟨1 + y % 50, by omega, by omega, by omega⟩
    have hw5 : IntKind.i64.wrap ((1 : Int) + (y : Int) % 50) = (N : Int) := by rw [hN]; exact IntWalk.i64_in _ (by omega)
    have hxw : IntKind.i64.wrap (x : Int) = (x : Int) := IntWalk.i64_in _ (by omega)
    have hyw : IntKind.i64.wrap (y : Int) = (y : Int) := IntWalk.i64_in _ (by omega)
    have iR := hid (fun w' hb => refRight_any t ⟨A1, k1, A2, k2, A3, k3⟩ w' (HO.out w' hb))
    have iS := hid (fun w' hb => share_any t ⟨A1, k1, A2, k2, A3, k3⟩ p w' (HO.out w' hb))
    simp only at iR iS
    clear hfb3 hN
    go_wp2_with fail
    go_quiet (fail)
    have hb0q := below_drewN hb03 nq
    have hblkq := hblk3.drewN nq
    clear e0 e1 hw5 hxw hyw c0 c1 c2 c3 c4 hb03 hblk3 hb02 hb00
    generalize w3.drewN nq = wq at hb0q hblkq ⊢
    obtain ⟨c0, c1, c2, c3, c4⟩ := tab_cells hblkq
    simp only at c0 c1 c2 c3 c4
    by_cases hs : shareB t p = 0
    · have j1 := hid (fun w' hb => Next_no t ⟨A1, k1, A2, k2, A3, k3⟩ p (x : Int) w' (HO.out w' hb) hs)
      have j2 := hid (fun w' hb => Until_no t ⟨A1, k1, A2, k2, A3, k3⟩ p (x : Int) N hN1 hN2 w' (HO.out w' hb) hs)
      simp only at j1 j2
      rw [hs] at iS
      clear hs
      go_wp2_with fail
      refine (j1.out _ hb0q).mono ?_
      rintro e w4 ⟨rfl, hb4⟩
      have hb04 := bel_trans hb0q hb4
      have hblk4 := hblkq.belowS hb4
      clear c0 c1 c2 c3 c4 hblkq hb4
      obtain ⟨c0, c1, c2, c3, c4⟩ := tab_cells hblk4
      simp only at c0 c1 c2 c3 c4
      go_wp2_with fail
      refine (j2.out _ hb04).mono ?_
      rintro e w5 ⟨rfl, hb5⟩
      have hb05 := bel_trans hb04 hb5
      have hblk5 := hblk4.belowS hb5
      clear c0 c1 c2 c3 c4 hblk4 hb5
      obtain ⟨c0, c1, c2, c3, c4⟩ := tab_cells hblk5
      simp only at c0 c1 c2 c3 c4
      go_wp2_with fail
      refine (iR.out _ hb05).mono ?_
      rintro e w6 ⟨he, hb6⟩
      have hb06 := bel_trans hb05 hb6
      have hblk6 := hblk5.belowS hb6
      clear c0 c1 c2 c3 c4 hblk5 hb6
      obtain ⟨c0, c1, c2, c3, c4⟩ := tab_cells hblk6
      simp only at c0 c1 c2 c3 c4
      clear iR j1 j2
      cases hr : rightB t with
      | false =>
        rw [hr] at he
        subst he
        clear hblk6
        go_wp2_with fail
        go_ret
        exact ⟨rfl, hb06⟩
      | true =>
        rw [hr] at he
        subst he
        by_cases hp0 : p < 0
        · have g1 : decide (p < 0) = true := decide_eq_true hp0
          clear hp0 hblk6
          go_wp2_with fail
          go_ret
          exact ⟨rfl, hb06⟩
        · have g1 : decide (p < 0) = false := decide_eq_false hp0
          by_cases hpn : (t.parts.length : Int) ≤ p
          · have g2 : decide ((t.parts.length : Int) ≤ p) = true := decide_eq_true hpn
            clear hp0 hpn hblk6
            go_wp2_with fail
            go_ret
            exact ⟨rfl, hb06⟩
          · have g2 : decide ((t.parts.length : Int) ≤ p) = false := decide_eq_false hpn
            clear hp0 hpn hblk6
            go_wp2_with fail
            refine (iS.out _ hb06).mono ?_
            rintro e w7 ⟨rfl, hb7⟩
            go_wp2_with fail
            go_ret
            exact ⟨rfl, bel_trans hb06 hb7⟩
    · obtain ⟨hR, hp0, hpn⟩ := shareB_zero hs
      obtain ⟨F, hF⟩ : ∃ F : Nat, t.frame = (F : Int) := ⟨t.frame.toNat, by have := hR.f1; omega⟩
      have hF1 : 1 ≤ F := by have := hR.f1; omega
      have hF2 : F ≤ 64 := by have := hR.f2; omega
      have j1 := hid (fun w' hb => Next_yes t ⟨A1, k1, A2, k2, A3, k3⟩ p F x hF (by omega) w' (HO.out w' hb) hR hs)
      have j2 := hid (fun w' hb => Until_yes t ⟨A1, k1, A2, k2, A3, k3⟩ p F x N hF (by omega) hN1 hN2 w' (HO.out w' hb) hR hs)
      have j3 := hid (fun (k : Nat) (hk : k ≤ 9223372036854775807) w' => refPos_any t ⟨A1, k1, A2, k2, A3, k3⟩ F k hF hF1 hF2 hk w')
      have j4 := hid (fun (q : Int) w' hb => refPart_any t ⟨A1, k1, A2, k2, A3, k3⟩ q w' (HO.out w' hb) hR)
      simp only at j1 j2 j3 j4
      have hr : rightB t = true := (rightB_iff t).2 hR
      rw [hr] at iR
      have hse : ((shareB t p) == 0) = false := by simpa using hs
      generalize shareB t p = sh at iS hse
      have g1 : decide (p < 0) = false := decide_eq_false (by omega)
      have g2 : decide ((t.parts.length : Int) ≤ p) = false := decide_eq_false (by omega)
      have hFr := hid hF
      clear hs hR hp0 hpn hr hF
      go_wp2_with fail
      refine (j1.out _ hb0q).mono ?_
      rintro e w4 ⟨n, hn, rfl, hb4⟩
      have HN := hid hn
      clear hn
      have hb04 := bel_trans hb0q hb4
      have hblk4 := hblkq.belowS hb4
      clear c0 c1 c2 c3 c4 hblkq hb4
      obtain ⟨c0, c1, c2, c3, c4⟩ := tab_cells hblk4
      simp only at c0 c1 c2 c3 c4
      go_wp2_with fail
      refine (j2.out _ hb04).mono ?_
      rintro e w5 ⟨D, hD, rfl, hb5⟩
      have HD := hid hD
      clear hD
      have hb05 := bel_trans hb04 hb5
      have hblk5 := hblk4.belowS hb5
      clear c0 c1 c2 c3 c4 hblk4 hb5
      obtain ⟨c0, c1, c2, c3, c4⟩ := tab_cells hblk5
      simp only at c0 c1 c2 c3 c4
      go_wp2_with fail
      refine (iR.out _ hb05).mono ?_
      rintro e w6 ⟨rfl, hb6⟩
      have hb06 := bel_trans hb05 hb6
      have hblk6 := hblk5.belowS hb6
      clear c0 c1 c2 c3 c4 hblk5 hb6
      obtain ⟨c0, c1, c2, c3, c4⟩ := tab_cells hblk6
      simp only at c0 c1 c2 c3 c4
      clear iR j1 j2
      go_wp2_with fail
      refine (iS.out _ hb06).mono ?_
      rintro e w7 ⟨rfl, hb7⟩
      have hb07 := bel_trans hb06 hb7
      have hblk7 := hblk6.belowS hb7
      clear c0 c1 c2 c3 c4 hblk6 hb7
      obtain ⟨c0, c1, c2, c3, c4⟩ := tab_cells hblk7
      simp only at c0 c1 c2 c3 c4
      clear iS g1 g2
      have hn1 := HN.out.1
      have hn2 := HN.out.2.1
      have hd1 := HD.out.1
      have hd2 := HD.out.2.1
      have hmul : N * F ≤ 50 * 64 := Nat.mul_le_mul hN2 hF2
      obtain ⟨E, rfl⟩ : ∃ E : Nat, D = E + 1 := ⟨D - 1, by omega⟩
      have hnE : Hid (n ≤ 9223372036854775807 ∧ E ≤ 9223372036854775807) := hid ⟨by omega, by omega⟩
      have hE1 : E ≤ 100000 := by omega
      have hpn : partL t.wins ((n % F : Nat) : Int) = p := HN.out.2.2.1
      have hpe : partL t.wins ((E % F : Nat) : Int) = p := by have h := HD.out.2.2.2; rwa [Nat.add_sub_cancel] at h
      have jn := hid (fun w' hb => j4.out ((n % F : Nat) : Int) w' hb)
      have je := hid (fun w' hb => j4.out ((E % F : Nat) : Int) w' hb)
      rw [hpn] at jn
      rw [hpe] at je
      have jN := hid (fun w' => j3.out n hnE.out.1 w')
      have jE := hid (fun w' => j3.out E hnE.out.2 w')
      generalize n % F = nF at jn jN
      generalize E % F = eF at je jE
      have gE : IntKind.i64.wrap (E : Int) = (E : Int) := IntWalk.i64_in _ (by omega)
      have gn : decide ((n : Int) < (x : Int)) = false := decide_eq_false (by omega)
      have gn' : decide (n < x) = false := decide_eq_false (by omega)
      have HA : Hid (∀ w', Below w7.heap.size w7 w' → w'.cell? ⟨w.heap.size, 0, none⟩ = some (.int .i64 t.frame) ∧ w'.cell? ⟨w.heap.size, 1, none⟩ = some (.slice A1 t.parts.length k1) ∧ w'.cell? ⟨w.heap.size, 2, none⟩ = some (.slice A2 t.wins.length k2) ∧ w'.cell? ⟨w.heap.size, 3, none⟩ = some (.slice A3 t.chans.length k3) ∧ w'.cell? ⟨w.heap.size, 4, none⟩ = some (.int .i64 t.trial)) := hid (fun w' hb => tab_cells (hblk7.belowS hb))
      have H07 := hid hb07
      have HB7 := hid hblk7
      clear hmul hpn hpe hb07 hblk7
      go_wp2_with fail
      go_region_held3 (fun w' => w'.cell? ⟨w.heap.size, 0, none⟩ = some (.int .i64 t.frame) ∧ w'.cell? ⟨w.heap.size, 1, none⟩ = some (.slice A1 t.parts.length k1) ∧ w'.cell? ⟨w.heap.size, 2, none⟩ = some (.slice A2 t.wins.length k2) ∧ w'.cell? ⟨w.heap.size, 3, none⟩ = some (.slice A3 t.chans.length k3) ∧ w'.cell? ⟨w.heap.size, 4, none⟩ = some (.int .i64 t.trial)) (go_keep)
        (first
          | (go_at_call 29; refine (jN.out _).mono ?_; rintro e wa ⟨rfl, hba'⟩; have hba : Below w7.heap.size w7 wa := ⟨hba'.os, hba'.tape, hba'.output, hba'.size, hba'.block⟩; clear hba'; have hbA := hba; have h0a := hid (bel_trans H07.out hba); clear jN; obtain ⟨z0, z1, z2, z3, z4⟩ := HA.out _ hbA)
          | (go_at_call 30; refine (jn.out _ ?_).mono ?_; (first | exact h0a.out | exact h0a.out.drew); rintro e wb ⟨rfl, hbb'⟩; have hbb : Below wa.heap.size wa wb := ⟨hbb'.os, hbb'.tape, hbb'.output, hbb'.size, hbb'.block⟩; clear hbb'; have hbB := bel_trans hbA hbb; have h0b := hid (bel_trans h0a.out hbb); clear jn z0 z1 z2 z3 z4; obtain ⟨z0, z1, z2, z3, z4⟩ := HA.out _ hbB)
          | (go_at_call 29; refine (jE.out _).mono ?_; rintro e wc ⟨rfl, hbc'⟩; have hbc : Below wb.heap.size wb wc := ⟨hbc'.os, hbc'.tape, hbc'.output, hbc'.size, hbc'.block⟩; clear hbc'; have hbC := bel_trans hbB hbc; have h0c := hid (bel_trans h0b.out hbc); clear jE z0 z1 z2 z3 z4; obtain ⟨z0, z1, z2, z3, z4⟩ := HA.out _ hbC)
          | (go_at_call 30; refine (je.out _ ?_).mono ?_; (first | exact h0c.out | exact h0c.out.drew); rintro e wd ⟨rfl, hbd'⟩; have hbd : Below wc.heap.size wc wd := ⟨hbd'.os, hbd'.tape, hbd'.output, hbd'.size, hbd'.block⟩; clear hbd'; have hbD := bel_trans hbC hbd; have h0d := hid (bel_trans h0c.out hbd); clear je z0 z1 z2 z3 z4; obtain ⟨z0, z1, z2, z3, z4⟩ := HA.out _ hbD))
      have hb0z := h0d.out
      have hblkz := HB7.out.belowS hbD
      clear hse hba hbb hbc hbd hbA hbB hbC hbD h0a h0b h0c h0d z0 z1 z2 z3 z4 HB7 HA H07 gn gn' gE c0 c1 c2 c3 c4
      go_wp2_with fail
      go_loopw [13, 14] (fun v13 v14 wr => ∃ (k s : Nat), x ≤ k ∧ k ≤ E + 1 ∧ s ≤ k ∧ v14 = .int .i64 (k : Int) ∧ v13 = .int .i64 (s : Int) ∧ Hid (s = ranN t.wins F p x (k - x)) ∧ Below wd.heap.size wd wr) (fun _ v14 _ => E + 1 - (intOf v14).toNat)
      case atStart => exact ⟨x, 0, by omega, by omega, by omega, rfl, rfl, hid (by rw [Nat.sub_self]; rfl), Below.refl _ _⟩
      case round =>
        obtain ⟨k, s, hk1, hk2, hsk, rfl, rfl, HS, hbel⟩ := hrel
        by_cases hkD : k < E + 1
        · have gk : decide ((k : Int) < (E : Int) + 1) = true := decide_eq_true (by omega)
          have hblkr := hblkz.belowS hbel
          have H0r := hid (bel_trans hb0z hbel)
          have jk := hid (fun w' => j3.out k (by omega) w')
          have jp := hid (fun w' hb => j4.out ((k % F : Nat) : Int) w' hb)
          have HS2 : Hid (ranN t.wins F p x (k + 1 - x) = s + if partL t.wins ((k % F : Nat) : Int) = p then 1 else 0) := by
            refine hid ?_
            rw [show k + 1 - x = (k - x) + 1 by omega]
            show ranN t.wins F p x (k - x) + (if partL t.wins (((x + (k - x)) % F : Nat) : Int) = p then 1 else 0) = _
            rw [HS.out, show x + (k - x) = k by omega]
          have HK : Hid (partL t.wins ((k % F : Nat) : Int) = p → n ≤ k) := hid (fun h => Nat.le_of_not_lt (fun hlt => HN.out.2.2.2 k hk1 hlt h))
          generalize partL t.wins ((k % F : Nat) : Int) = pa at jp HS2 HK
          generalize k % F = kF at jk jp
          have HAr : Hid (∀ w', Below wr.heap.size wr w' → w'.cell? ⟨w.heap.size, 0, none⟩ = some (.int .i64 t.frame) ∧ w'.cell? ⟨w.heap.size, 1, none⟩ = some (.slice A1 t.parts.length k1) ∧ w'.cell? ⟨w.heap.size, 2, none⟩ = some (.slice A2 t.wins.length k2) ∧ w'.cell? ⟨w.heap.size, 3, none⟩ = some (.slice A3 t.chans.length k3) ∧ w'.cell? ⟨w.heap.size, 4, none⟩ = some (.int .i64 t.trial)) := hid (fun w' hb => tab_cells (hblkr.belowS hb))
          obtain ⟨c0, c1, c2, c3, c4⟩ := tab_cells hblkr
          simp only at c0 c1 c2 c3 c4
          clear hblkr
          by_cases hp : pa = p
          · have hnk := HK.out hp
            have gp : (pa == p) = true := by simpa using hp
            have gn : decide ((k : Int) < (n : Int)) = false := decide_eq_false (by omega)
            have gn' : decide (k < n) = false := decide_eq_false (by omega)
            have HS3 : Hid (ranN t.wins F p x (k + 1 - x) = s + 1) := by refine hid ?_; rw [HS2.out, if_pos hp]
            clear hp HS2 HK hnk
            go_wp2_with fail
            go_region_held3 (fun w' => w'.cell? ⟨w.heap.size, 0, none⟩ = some (.int .i64 t.frame) ∧ w'.cell? ⟨w.heap.size, 1, none⟩ = some (.slice A1 t.parts.length k1) ∧ w'.cell? ⟨w.heap.size, 2, none⟩ = some (.slice A2 t.wins.length k2) ∧ w'.cell? ⟨w.heap.size, 3, none⟩ = some (.slice A3 t.chans.length k3) ∧ w'.cell? ⟨w.heap.size, 4, none⟩ = some (.int .i64 t.trial)) (go_keep)
              (first
                | (go_at_call 29; refine (jk.out _).mono ?_; rintro e va ⟨rfl, kba'⟩; have kba : Below wr.heap.size wr va := ⟨kba'.os, kba'.tape, kba'.output, kba'.size, kba'.block⟩; clear kba'; have kbA := kba; have k0a := hid (bel_trans H0r.out kba); clear jk; obtain ⟨z0, z1, z2, z3, z4⟩ := HAr.out _ kbA)
                | (go_at_call 30; refine (jp.out _ ?_).mono ?_; (first | exact k0a.out | exact k0a.out.drew); rintro e vb ⟨rfl, kbb'⟩; have kbb : Below va.heap.size va vb := ⟨kbb'.os, kbb'.tape, kbb'.output, kbb'.size, kbb'.block⟩; clear kbb'; have kbB := bel_trans kbA kbb; have k0b := hid (bel_trans k0a.out kbb); clear jp z0 z1 z2 z3 z4; obtain ⟨z0, z1, z2, z3, z4⟩ := HAr.out _ kbB))
            clear kba kbb kbA k0a k0b z0 z1 z2 z3 z4 c0 c1 c2 c3 c4 HAr H0r
            go_wp2_with fail
            go_roundw
            case rel => exact ⟨k + 1, s + 1, by omega, by omega, by omega, by go_num, by go_num, hid HS3.out.symm, bel_trans hbel kbB⟩
            case measure => simp [intOf]; omega
          · have gp : (pa == p) = false := by simpa using hp
            have HS3 : Hid (ranN t.wins F p x (k + 1 - x) = s) := by refine hid ?_; rw [HS2.out, if_neg hp]; rfl
            clear hp HS2 HK
            go_wp2_with fail
            go_region_held3 (fun w' => w'.cell? ⟨w.heap.size, 0, none⟩ = some (.int .i64 t.frame) ∧ w'.cell? ⟨w.heap.size, 1, none⟩ = some (.slice A1 t.parts.length k1) ∧ w'.cell? ⟨w.heap.size, 2, none⟩ = some (.slice A2 t.wins.length k2) ∧ w'.cell? ⟨w.heap.size, 3, none⟩ = some (.slice A3 t.chans.length k3) ∧ w'.cell? ⟨w.heap.size, 4, none⟩ = some (.int .i64 t.trial)) (go_keep)
              (first
                | (go_at_call 29; refine (jk.out _).mono ?_; rintro e va ⟨rfl, kba'⟩; have kba : Below wr.heap.size wr va := ⟨kba'.os, kba'.tape, kba'.output, kba'.size, kba'.block⟩; clear kba'; have kbA := kba; have k0a := hid (bel_trans H0r.out kba); clear jk; obtain ⟨z0, z1, z2, z3, z4⟩ := HAr.out _ kbA)
                | (go_at_call 30; refine (jp.out _ ?_).mono ?_; (first | exact k0a.out | exact k0a.out.drew); rintro e vb ⟨rfl, kbb'⟩; have kbb : Below va.heap.size va vb := ⟨kbb'.os, kbb'.tape, kbb'.output, kbb'.size, kbb'.block⟩; clear kbb'; have kbB := bel_trans kbA kbb; have k0b := hid (bel_trans k0a.out kbb); clear jp z0 z1 z2 z3 z4; obtain ⟨z0, z1, z2, z3, z4⟩ := HAr.out _ kbB))
            clear kba kbb kbA k0a k0b z0 z1 z2 z3 z4 c0 c1 c2 c3 c4 HAr H0r
            go_wp2_with fail
            go_roundw
            case rel => exact ⟨k + 1, s, by omega, by omega, by omega, by go_num, rfl, hid HS3.out.symm, bel_trans hbel kbB⟩
            case measure => simp [intOf]; omega
        · obtain rfl : k = E + 1 := by omega
          have gk : decide ((E : Int) + 1 < (E : Int) + 1) = false := decide_eq_false (by omega)
          have hsN : s = N := by rw [HS.out]; exact HD.out.2.2.1
          have hfin := hid (bel_trans hb0z hbel)
          clear HS
          subst hsN
          go_wp2_with fail
          go_ret
          exact ⟨ret_bool (by simp), hfin.out⟩

theorem next_law (w : World) (t : TabS) (a : TabA) (hT : TabCame w t a) (p : Int) (_ : (Lit.int .i64 p).wf = true) (x y : Int) (hx : (Lit.int .u16 x).wf = true) (hy : (Lit.int .u16 y).wf = true) :
    Calls Try.prog 10 #[.agg #[.int .i64 t.frame, .slice a.A1 t.parts.length a.c1, .slice a.A2 t.wins.length a.c2, .slice a.A3 t.chans.length a.c3, .int .i64 t.trial], .int .i64 p, .agg #[.int .u16 x, .int .u16 y]] w fun e w' => e = .returned (.bool true) ∧ Below w.heap.size w w' := by
  obtain ⟨h1, h2⟩ := bounds_u16 hx
  obtain ⟨h3, h4⟩ := bounds_u16 hy
  obtain ⟨m, rfl⟩ : ∃ m : Nat, x = m := ⟨x.toNat, by omega⟩
  obtain ⟨n, rfl⟩ : ∃ n : Nat, y = n := ⟨y.toNat, by omega⟩
  exact next_any w t a hT p m n (by omega) (by omega)
/-! ### SchedNext: from the walk to the given statement -/
namespace lawSchedNext
theorem own : ownKnob Try.prog.godebug = none := by kernel_rfl
theorem laidOut : laidOutB Try.prog = true := by kernel_rfl
set_option maxRecDepth 100000 in
theorem lifted (os : Os) (started : os.Started) (H : Type) (enc : TypeId × Value → H) :
    ReturnsInHanded {} Try.checked os 10 .any (Rows.schedNextSpec.pre6 enc Try.prog Try.f10 Rows.schedNextRow.domain false) (Rows.schedNextSpec.post enc Try.prog Try.f10 false true false false) := by
  refine returnsInHanded_of_change (C := Try.checked) own started (by kernel_rfl) Try.func10
    (ChangeSpec.witness6 (enc := enc) (C := Try.checked) false ⟨#[], #[.agg #[.int .i64 0, .slice none 0 0, .slice none 0 0, .slice none 0 0, .int .i64 0], .int .i64 0, .agg #[.int .u16 0, .int .u16 0]], []⟩ 8 (by kernel_rfl) (by kernel_rfl) (by kernel_rfl) (by kernel_rfl)) ?_
  intro W base args ds gs before hval0 hW hcnd _
  have hval : ∀ (j : Nat) t v, Try.f10.params[j]? = some t → args[j]? = some v → Value.okWide Try.prog W .any base t v := hval0
  have hW' := hW
  obtain ⟨p, q, hA0, hV, rfl, hfz, hnd⟩ := hW
  have hA : DataW.TrodAll enc Try.prog W 0 (fun _ => true) true Try.f10.params.toList args.toList ds p := hA0
  rw [Try.params10] at hA hval
  obtain ⟨v0, vs0, d0, ds0, p0, q0, hargs, rfl, rfl, h0, r0⟩ := trodAll_cons hA
  obtain ⟨v1, vs1, d1, ds1, p1, q1, rfl, rfl, rfl, h1, r1⟩ := trodAll_cons r0
  obtain ⟨v2, vs2, d2, ds2, p2, q2, rfl, rfl, rfl, h2, r2⟩ := trodAll_cons r1
  obtain ⟨rfl, rfl, rfl⟩ := trodAll_nil r2
  obtain rfl : args = #[v0, v1, v2] := by cases args; simp_all
  obtain ⟨rfl, rfl⟩ := trodVars_none hV
  have k0 := h0
  have lt0 : ∀ x ∈ p0, x.block < W.heap.size := by obtain ⟨m, hm⟩ := k0; exact DataW.trod_lt m _ _ _ hm
  have k1 := h1
  have lt1 : ∀ x ∈ p1, x.block < W.heap.size := by obtain ⟨m, hm⟩ := k1; exact DataW.trod_lt m _ _ _ hm
  have k2 := h2
  have lt2 : ∀ x ∈ p2, x.block < W.heap.size := by obtain ⟨m, hm⟩ := k2; exact DataW.trod_lt m _ _ _ hm
  obtain ⟨t0, a0, rfl, w0⟩ := open_tab (hval 0 26 v0 rfl rfl) h0
  obtain ⟨a1, rfl, rfl, rfl, w1⟩ := open_int Try.underlying3 (hval 1 3 v1 rfl rfl) h1
  obtain ⟨x2, y2, rfl, wx2, wy2⟩ := open_arr2 Try.underlying52 Try.underlying48 (by kernel_rfl) (by kernel_rfl) (hval 2 52 v2 rfl rfl) h2
  clear hA0 hval0
  refine (next_law W t0 a0 w0 a1 w1 x2 y2 wx2 wy2).mono fun e W' ⟨he, bel⟩ => ?_
  subst he
  exact ⟨_, rfl, _, _, _, [], _, [], hW', trodAll_mk1 (shut_bool Try.underlying4 _), (trodAll_cons_mk (Below.trod laidOut (by kernel_rfl) (of_decide_eq_true (by kernel_rfl)) k0 bel lt0) (trodAll_cons_mk (Below.trod laidOut (by kernel_rfl) (of_decide_eq_true (by kernel_rfl)) k1 bel lt1) (trodAll_cons_mk (Below.trod laidOut (by kernel_rfl) (of_decide_eq_true (by kernel_rfl)) k2 bel lt2) trodAll_mk0))), rfl, bel.frame _, fun h => by cases h⟩
theorem over : Rows.schedNextRow.holds Try.pinned (OpenSpec.ofChange Rows.schedNextSpec) :=
  OpenClaim.holds_of_wide 10 Try.f10 rfl rfl rfl rfl rfl rfl rfl ⟨rfl, rfl, rfl, rfl, rfl⟩ rfl rfl rfl rfl rfl (by kernel_rfl) Try.func10 (by kernel_rfl)
    (of_decide_eq_true (by kernel_rfl)) (by unfold Func.isWrapper; first | (rw [if_pos (by decide +kernel)]; kernel_rfl) | (rw [if_neg (by decide +kernel)]; exact ⟨rfl, rfl⟩))
    (fun os started H enc _ => lifted os started H enc)
theorem proved : Rows.SchedNextSaid := over
#print axioms proved
end lawSchedNext
end Go.Proofs.Ytbnodcenlggcnaa
