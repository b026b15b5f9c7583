/-
  Law 17: a machine's messages (VmSends).
-/
import Derived.Test.YtidlahljhgglcaaVmWakes
import Derived.Test.YtidlahljhgglcaaVmRds
import Derived.Test.YtidlahljhgglcaaRef06R
import Derived.Test.YtidlahljhgglcaaOpenImgV
namespace Go.Proofs.Ytidlahljhgglcaa
open Go.RowKit Go.ChangeShapes Go.WideShapes Go.ChangeAt

theorem tick_ticks (i : ImgS) (cs : List ChanS) (s : VmS) (ss : Nat → WayS) : (tickF i cs s ss).1.ticks = if s.fault = 0 then s.ticks + 1 else s.ticks := by
  unfold tickF
  by_cases h : s.fault = 0
  · rw [if_neg (by simp [h]), if_pos h]
  · rw [if_pos h, if_neg h]
theorem tick_stays (i : ImgS) (cs : List ChanS) (s : VmS) (ss : Nat → WayS) (h : s.fault ≠ 0) : tickF i cs s ss = (s, ss, [], false) := by unfold tickF; rw [if_pos h]
theorem u8_natV {d : Int} (hd : (Lit.int .u8 d).wf = true) : ∃ m : Nat, d = (m : Int) ∧ m < 256 := by
  have := bounds_u8 hd
  exact ⟨d.toNat, by omega, by omega⟩
set_option maxRecDepth 100000 in
set_option maxHeartbeats 4000000 in
theorem vmSends_any (w : World) (i : ImgS) (A : Option Addr) (c : Nat) (hi : ImgCame w i A c) (n : Int) (hn : (Lit.int .u8 n).wf = true) :
    Calls Try.prog 4 #[imgV i A c, .int .u8 n] w fun e w' => e = .returned (.bool true) ∧ Below w.heap.size w w' := by
  obtain ⟨n, rfl, hn256⟩ := u8_natV hn
  have hcl : i.code.length ≤ 9223372036854775807 := by have := hi.hc; have := hi.hm; unfold maxLen at this; omega
  obtain ⟨w1, hw1, hb1, hB1, hs1⟩ := img_in i A c w
  obtain ⟨c0, c1, c2, c3, c4, c5, c6, c7⟩ := img_cells hB1
  have HX1 := hid hB1
  have HB1 := hid hb1
  have HRD := hid hi.rd
  by_cases hR : rightI i = true
  case neg =>
    have hR' : rightI i = false := by simpa using hR
    have i1 := hid (fun w => vmNew_bad i A c w hcl hR')
    have i2 := hid (fun w => refRightI_any i A c w hcl)
    rw [hR'] at i2
    unfold imgV at i1 i2 ⊢
    clear hb1 hB1 hi hR hR' hs1 HRD
    go_enter Try.func4, Try.ntmps4
    go_wp2_with fail
    refine (wakesV_any _).mono ?_
    rintro e w2 ⟨rfl, hb2⟩
    have hX2 := HX1.out.belowS hb2
    clear c0 c1 c2 c3 c4 c5 c6 c7
    obtain ⟨c0, c1, c2, c3, c4, c5, c6, c7⟩ := img_cells hX2
    have HB2 := hid (bel_trans HB1.out hb2)
    have HX2 := hid hX2
    clear hX2 hb2
    go_wp2_with fail
    refine (i1.out _).mono ?_
    rintro e w3 ⟨rfl, hb3⟩
    have hX3 := HX2.out.belowS hb3
    clear c0 c1 c2 c3 c4 c5 c6 c7
    obtain ⟨c0, c1, c2, c3, c4, c5, c6, c7⟩ := img_cells hX3
    have HB3 := hid (bel_trans HB2.out hb3)
    clear hX3 hb3
    go_wp2_with fail
    refine (i2.out _).mono ?_
    rintro e w4 ⟨rfl, hb4⟩
    go_wp2_with fail
    go_ret
    exact ⟨rfl, bel_trans HB3.out hb4⟩
  have hRI := (rightI_iff i).1 hR
  have i1 := hid (fun w (h : Reads w w.heap.size 1 A i.code.length (i.code.map bV)) => vmNew_ok i A c w h hR)
  obtain ⟨mm, hmm⟩ : ∃ mm : Nat, i.mem = (mm : Int) := ⟨i.mem.toNat, by have := hRI.2.2.2.1; omega⟩
  have hmm16 : mm ≤ 16 := by have := hRI.2.2.2.1; omega
  have HI := hid hRI
  have HMM := hid hmm
  unfold imgV at i1 ⊢
  clear hb1 hB1 hi hR hRI hmm hs1
  go_enter Try.func4, Try.ntmps4
  go_wp2_with fail
  refine (wakesV_any _).mono ?_
  rintro e w2 ⟨rfl, hb2⟩
  have hX2 := HX1.out.belowS hb2
  clear c0 c1 c2 c3 c4 c5 c6 c7
  obtain ⟨c0, c1, c2, c3, c4, c5, c6, c7⟩ := img_cells hX2
  have HB2 := hid (bel_trans HB1.out hb2)
  have HX2 := hid hX2
  clear hX2 hb2
  go_wp2_with fail
  refine (i1.out _ (HRD.out.belowS HB2.out)).mono ?_
  rintro e w3 ⟨F1, g, rfl, hM, hb3, hF1⟩
  have hX3 := HX2.out.belowS hb3
  clear c0 c1 c2 c3 c4 c5 c6 c7
  obtain ⟨c0, c1, c2, c3, c4, c5, c6, c7⟩ := img_cells hX3
  have HX3 := hid hX3
  have HM := hid hM
  have HB3 := hid hb3
  have HF1 := hid hF1
  clear hX3 hb3 hM hF1 i1
  go_wp2_with fail
  refine (exampleV_any _).mono ?_
  rintro e w4 ⟨⟨A1, k1, A2, k2, A3, k3, rfl, hT⟩, hb4⟩
  have i2 := hid (New_ok exTV ⟨A1, k1, A2, k2, A3, k3⟩ w4 hT exTVr)
  clear hT
  go_wp2_with fail
  refine i2.out.mono ?_
  rintro e w5 ⟨F2, gs, rfl, hS, hb5, hF2⟩
  have hX5 := HX3.out.belowS (bel_trans hb4 hb5)
  have hv : VS w2 g gs i exCV (freshS i.mem.toNat) (zeroW exCV) (fun _ => False) w5 := VS.start HI.out HB3.out HM.out HF1.out (bel_trans hb4 hb5) hS (fun b hb => Nat.le_trans hb4.size (hF2 b hb)) (by decide)
  have HV := hid hv
  have HX5 := hid hX5
  clear i2 hb4 hb5 hF2 hS hv hX5 HM HF1 c0 c1 c2 c3 c4 c5 c6 c7
  have hmod : Hid (((n : Int) % 40) = ((n % 40 : Nat) : Int)) := hid (by omega)
  have hmN : n % 40 < 40 := Nat.mod_lt _ (by decide)
  -- BODY
  obtain ⟨m, hm⟩ : ∃ m, n % 40 = m := ⟨_, rfl⟩
  rw [hm] at hmod hmN
  obtain ⟨fu, hfu⟩ : ∃ fu : Nat, i.fuel = (fu : Int) := ⟨i.fuel.toNat, by have := HI.out.2.2.2.2.1; omega⟩
  obtain ⟨sd, hsd⟩ : ∃ sd : Int, i.sends = sd := ⟨_, rfl⟩
  have HFU := hid hfu
  have HSD := hid hsd
  clear hm hfu hsd
  go_wp2_with fail
  simp only [hmod.out]
  go_loopw [9, 11, 32] (fun v9 v11 v32 wr => ∃ (k : Nat) (s : VmS) (ss : Nat → WayS), k ≤ m ∧ v32 = .int .i64 (k : Int) ∧ VS w2 g gs i exCV s ss (fun _ => False) wr ∧ 0 ≤ s.ticks ∧ s.ticks ≤ k) (fun _ _ v32 _ => m - (intOf v32).toNat)
  case atStart => exact ⟨0, _, _, by omega, rfl, HV.out, by simp [freshS], by simp [freshS]⟩
  case round =>
    obtain ⟨k, s, ss, hk, rfl, hv, ht0, ht1⟩ := hrel
    by_cases hkm : k < m
    case neg =>
      obtain rfl : k = m := by omega
      have HBF := hid (bel_trans HB2.out hv.bel)
      clear hv
      go_wp2_with fail
      go_ret
      exact ⟨rfl, HBF.out⟩
    have y0 : decide ((k : Int) < (m : Int)) = true := decide_eq_true (by omega)
    have y0' : decide (k < m) = true := decide_eq_true hkm
    have i3 := hid (hv.tick HI.out dEx ht0 (by omega))
    have htt := tick_ticks i exCV s ss
    obtain ⟨r, hr⟩ : ∃ r, tickF i exCV s ss = r := ⟨_, rfl⟩
    rw [hr] at i3 htt
    have htr : Hid (0 ≤ r.1.ticks ∧ r.1.ticks ≤ (k : Int) + 1) := hid (by rw [htt]; split <;> omega)
    obtain ⟨s', ss', sent, cf⟩ := r
    simp only at i3 htr
    have HBW := hid hv.bel
    clear hv htt hr ht0 ht1
    go_wp2_with fail
    refine i3.out.mono ?_
    rintro e w7 ⟨A7, c7', rfl, hv7, hown, hok, hlen, hsz7, _⟩
    have HV7 := hid (hv7.made (.cells #[.slice A7 sent.length c7', .bool cf] 46))
    have hX7 : Blk w7 w.heap.size 24 (imgC i A c) := HX2.out.belowS hv7.bel
    have c4 := cell_alloc (show w7.cell? ⟨w.heap.size, 4, none⟩ = some (.int .i64 (fu : Int)) from by rw [← HFU.out]; exact hX7.cellAt rfl) (.cells #[.slice A7 sent.length c7', .bool cf] 46)
    have HXb := hid (hX7.alloc (.cells #[.slice A7 sent.length c7', .bool cf] 46))
    have hle : sent.length ≤ fu := by rw [HFU.out] at hlen; simpa using hlen
    have HOK := hid hok
    have HRd := hid (Reads.of_own hown)
    have HW7 := hid (below_alloc1 w7 (.cells #[.slice A7 sent.length c7', .bool cf] 46))
    have hfu32 : fu ≤ 32 := by have := HI.out.2.2.2.2.1; have := HFU.out; omega
    unfold outV
    obtain ⟨N, hN⟩ : ∃ N, sent.length = N := ⟨_, rfl⟩
    rw [hN] at hle
    rw [hN] at c4 HV7 HXb HW7 ⊢
    have y1 : decide ((fu : Int) < (N : Int)) = false := decide_eq_false (by omega)
    have y1' : decide (fu < N) = false := decide_eq_false (by omega)
    have HN := hid hN
    clear i3 hv7 hown hok hlen hsz7 hX7 hN
    go_wp2_with fail
    clear c4
    generalize hwB : w7.alloc (.cells #[.slice A7 N c7', .bool cf] 46) = wB at *
    clear hwB
    go_loopw [11, 47] (fun v11 v47 wr => ∃ j : Nat, j ≤ N ∧ v47 = .int .i64 (j : Int) ∧ Below wB.heap.size wB wr) (fun _ v47 _ => N - (intOf v47).toNat)
    case atStart => exact ⟨0, by omega, rfl, Below.refl _ _⟩
    case round =>
      obtain ⟨j, hj, rfl, hbj⟩ := hrel
      by_cases hjn : j < N
      case neg =>
        obtain rfl : j = N := by omega
        have HV9 := hid ((HV7.out.belowS hbj).less (Y := fun _ => False) (fun _ h => h.elim))
        clear hbj
        go_wp2_with fail
        go_roundw
        case rel => exact ⟨k + 1, s', ss', by omega, by go_num, HV9.out, htr.out.1, by have := htr.out.2; omega⟩
        case measure => simp [intOf]; omega
      have hrds := rdsSent (show Reads w7 w7.heap.size 2 A7 N (sent.flatMap sentC) from by rw [← HN.out]; exact HRd.out)
      obtain ⟨ad, x, hA7, had, hx, p0, p1⟩ := hrds.at_ hjn
      have hxo := HOK.out x (List.mem_of_getElem? hx)
      obtain ⟨ch, num⟩ := x
      obtain ⟨hch0, hbit, hin⟩ := hxo
      simp only at hch0 hbit hin
      obtain ⟨hin0, hin1⟩ := hin
      obtain ⟨q, rfl⟩ : ∃ q : Nat, ch = (q : Int) := ⟨ch.toNat, by omega⟩
      have hsd0 : 0 ≤ sd ∧ sd ≤ 15 := by have := HI.out.2.2.2.2.2.1; rw [HSD.out] at this; exact this
      rw [HSD.out] at hbit
      have hq3 : q ≤ 3 := by
        refine Nat.le_of_not_lt fun h9 => ?_
        unfold bitI at hbit
        rw [Int.toNat_natCast, pow_big q (by omega) sd hsd0.1 hsd0.2] at hbit
        simp at hbit
      have hbg := bit_go hsd0.1 hsd0.2 q
      rw [hbit] at hbg
      have y2 : (bits BinOp.and IntKind.i64 (sd / 2 ^ min q 64) 1 == 0) = false := hbg
      have hb7j : Below w7.heap.size w7 wr := bel_trans HW7.out hbj
      have a0 : wr.cell? (ad.add (j * 2)) = some (.int .i64 (q : Int)) := (hb7j.cell (p := ad.add (j * 2)) (by rw [block_add]; exact had)).trans (p0 _ rfl)
      have a1 : wr.cell? ⟨(ad.add (j * 2)).block, (ad.add (j * 2)).off + 1, none⟩ = some (.int .i64 num) := (hb7j.cell (p := ⟨(ad.add (j * 2)).block, (ad.add (j * 2)).off + 1, none⟩) (by show (ad.add (j * 2)).block < _; rw [block_add]; exact had)).trans (p1 0 _ rfl)
      subst hA7
      have c5 := cell_alloc (show wr.cell? ⟨w.heap.size, 5, none⟩ = some (.int .i64 sd) from by rw [← HSD.out]; exact (HXb.out.belowS hbj).cellAt rfl) (.cells #[.int .i64 (q : Int), .int .i64 num] 51)
      have hBJ := hid (bel_alloc hbj (.cells #[.int .i64 (q : Int), .int .i64 num] 51))
      have z0 : (0 : Int) ≤ (j : Int) := Int.natCast_nonneg _
      have z1 : (j : Int) < (N : Int) := by omega
      have z2 : decide ((q : Int) < 0) = false := decide_eq_false (by omega)
      have z3 : decide ((3 : Int) < (q : Int)) = false := decide_eq_false (by omega)
      have z3' : decide (3 < q) = false := decide_eq_false (by omega)
      have z4 : decide (num < 0) = false := decide_eq_false (by omega)
      have z5 : decide ((65535 : Int) < num) = false := decide_eq_false (by omega)
      have z6 : (0 : Int) ≤ (q : Int) := Int.natCast_nonneg _
      clear hrds hx p0 p1 hbit hbg hb7j hbj hin0 hin1 hq3 hsd0 hch0
      go_wp2_with fail
      go_roundw
      case rel => exact ⟨j + 1, by omega, by go_num, hBJ.out⟩
      case measure => simp [intOf]; omega
end Go.Proofs.Ytidlahljhgglcaa
