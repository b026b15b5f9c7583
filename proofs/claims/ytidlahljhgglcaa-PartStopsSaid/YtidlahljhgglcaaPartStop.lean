/-
  Law 23: a partition that is stopped (PartStops), walked.
-/
import Derived.Test.YtidlahljhgglcaaPartM
import Derived.Test.YtidlahljhgglcaaRef06R
namespace Go.Proofs.Ytidlahljhgglcaa
open Go.RowKit Go.ChangeShapes Go.WideShapes Go.ChangeAt

theorem tick_ticksQ (i : ImgS) (cs : List ChanS) (s : VmS) (ss : Nat → WayS) : (tickF i cs s ss).1.ticks = if s.fault = 0 then s.ticks + 1 else s.ticks := by
  unfold tickF
  by_cases h : s.fault = 0
  · rw [if_neg (by simp [h]), if_pos h]
  · rw [if_pos h, if_neg h]
theorem u8_natP {d : Int} (hd : (Lit.int .u8 d).wf = true) : ∃ m : Nat, d = (m : Int) ∧ m < 256 := by
  have := bounds_u8 hd
  exact ⟨d.toNat, by omega, by omega⟩
set_option maxRecDepth 100000 in
set_option maxHeartbeats 4000000 in
theorem partStops_bad (w : World) (i : ImgS) (A : Option Addr) (c : Nat) (n : Nat) (hcl : i.code.length ≤ 9223372036854775807) (hR : rightI i = false) :
    Calls Try.prog 10 #[imgV i A c, .int .u8 (n : Int)] w fun e w' => e = .returned (.bool true) ∧ Below w.heap.size w w' := by
  obtain ⟨w1, hw1, hb1, hB1, hs1⟩ := img_in i A c w
  obtain ⟨c0, c1, c2, c3, c4, c5, c6, c7⟩ := img_cells hB1
  have HX1 := hid hB1
  have HB1 := hid hb1
  have i1 := hid (fun p w => boot_bad i A c p w hcl hR)
  have i2 := hid (fun w => refRightI_any i A c w hcl)
  rw [hR] at i2
  unfold imgV at i1 i2 ⊢
  clear hb1 hB1 hR hs1
  go_enter Try.func10, Try.ntmps10
  go_wp2_with fail
  refine (wakesPt_any _).mono ?_
  rintro e w2 ⟨rfl, hb2⟩
  have HB2 := hid (show Below w1.heap.size w1 w2 from by first | exact hb2 | (rw [← hw1]; exact hb2))
  clear c0 c1 c2 c3 c4 c5 c6 c7 hb2
  go_wp2_with fail
  refine (newPart_any _).mono ?_
  rintro e w3 ⟨rfl, rfl⟩
  have HA3 := hid (show AllS w1 [ptC w2.heap.size none 0] _ from (AllS.nil HB2.out).made (T := 136) (xs := [.pointer none, .int .i64 0]))
  generalize w2.alloc (.cells #[.pointer none, .int .i64 0] 136) = w3 at HA3 ⊢
  generalize w2.heap.size = p at *
  have HX3 := hid (HX1.out.belowS HA3.out.bel)
  obtain ⟨c0, c1, c2, c3, c4, c5, c6, c7⟩ := img_cells HX3.out
  go_wp2_with fail
  refine (i1.out _ _).mono ?_
  rintro e w4 ⟨rfl, hb4⟩
  have HA4 := hid (HA3.out.belowS hb4)
  have HX4 := hid (HX3.out.belowS hb4)
  clear c0 c1 c2 c3 c4 c5 c6 c7 hb4 i1
  obtain ⟨c0, c1, c2, c3, c4, c5, c6, c7⟩ := img_cells HX4.out
  go_wp2_with fail
  refine (i2.out _).mono ?_
  rintro e w5 ⟨rfl, hb5⟩
  have HB5 := hid (bel_trans HA4.out.bel hb5)
  go_wp2_with fail
  go_ret
  exact ⟨rfl, bel_trans HB1.out HB5.out⟩
set_option maxRecDepth 100000 in
set_option maxHeartbeats 4000000 in
theorem partStops_any (w : World) (i : ImgS) (A : Option Addr) (c : Nat) (hi : ImgCame w i A c) (n : Int) (hn : (Lit.int .u8 n).wf = true) :
    Calls Try.prog 10 #[imgV i A c, .int .u8 n] w fun e w' => e = .returned (.bool true) ∧ Below w.heap.size w w' := by
  obtain ⟨n, rfl, hn256⟩ := u8_natP hn
  have hcl : i.code.length ≤ 9223372036854775807 := by have := hi.hc; have := hi.hm; unfold maxLen at this; omega
  by_cases hR : rightI i = true
  case neg => exact partStops_bad w i A c n hcl (by simpa using hR)
  obtain ⟨w1, hw1, hb1, hB1, hs1⟩ := img_in i A c w
  have HX1 := hid hB1
  have HB1 := hid hb1
  have HRD := hid (hi.rd.belowS hb1)
  have HI := hid ((rightI_iff i).1 hR)
  obtain ⟨mm, hmm⟩ : ∃ mm : Nat, i.mem.toNat = mm := ⟨_, rfl⟩
  have hmm16 : mm ≤ 16 := by have := HI.out.2.2.2.1; omega
  have iB := hid (fun W p m b l (h : AllS w1 (ptC p m b :: l) W) (h0 : 0 ≤ b) (h9 : b ≤ 1000000) => boot_ok h A c (HRD.out.belowS h.bel) hR h0 h9)
  simp only [hmm] at iB
  have HMM := hid hmm
  unfold imgV at iB ⊢
  clear hb1 hB1 hs1 hi hR hmm
  go_enter Try.func10, Try.ntmps10
  go_wp2_with fail
  refine (wakesPt_any _).mono ?_
  rintro e w2 ⟨rfl, hb2⟩
  have HB2 := hid (show Below w1.heap.size w1 w2 from by first | exact hb2 | (rw [← hw1]; exact hb2))
  clear hb2
  go_wp2_with fail
  refine (newPart_any _).mono ?_
  rintro e w3 ⟨rfl, rfl⟩
  have HA3 := hid (show AllS w1 [ptC w2.heap.size none 0] _ from (AllS.nil HB2.out).made (T := 136) (xs := [.pointer none, .int .i64 0]))
  generalize w2.alloc (.cells #[.pointer none, .int .i64 0] 136) = w3 at HA3 ⊢
  generalize w2.heap.size = p at *
  have HX3 := hid (HX1.out.belowS HA3.out.bel)
  obtain ⟨c0, c1, c2, c3, c4, c5, c6, c7⟩ := img_cells HX3.out
  clear HB2
  go_wp2_with fail
  refine (iB.out _ _ _ _ _ HA3.out (by decide) (by decide)).mono ?_
  rintro e w4 ⟨rfl, g, hA4⟩
  have HA4 := hid (show AllS w1 [ptC p (some g) 1, vmC g i (freshS mm)] w4 from hA4)
  clear c0 c1 c2 c3 c4 c5 c6 c7 hA4 HA3 HX3
  go_wp2_with fail
  refine (examplePt_any _).mono ?_
  rintro e w5 ⟨⟨A1, c1, A2, c2, rfl, hT⟩, hb5⟩
  have i2 := hid (New_ok exTP ⟨A1, c1, A2, c2, none, 0⟩ w5 hT exTPr)
  have HA5 := hid (HA4.out.belowS hb5)
  clear hT hb5 HA4
  go_wp2_with fail
  refine i2.out.mono ?_
  rintro e w6 ⟨F2, gs, rfl, hS, hb6, hF2⟩
  have HA6 := hid ((HA5.out.push hb6 (C := setC gs [] (zeroW [])) hS hF2).perm (List.perm_append_comm (l₁ := [setC gs [] (zeroW [])]) (l₂ := [ptC p (some g) 1, vmC g i (freshS mm)])))
  have hFf : FineS i (freshS mm) := by rw [← HMM.out]; exact fineFresh HI.out
  have HFF := hid hFf
  have hmod : Hid (((n : Int) % 30) = ((n % 30 : Nat) : Int)) := hid (by omega)
  have hmN : n % 30 < 30 := Nat.mod_lt _ (by decide)
  obtain ⟨m, hm⟩ : ∃ m, n % 30 = m := ⟨_, rfl⟩
  rw [hm] at hmod hmN
  have H0 := hid (kZero [] (by decide))
  clear hm i2 hS hb6 hF2 HA5 hFf
  go_wp2_with fail
  simp only [hmod.out]
  go_loopw [8, 9, 10, 11, 34] (fun v8 v9 v10 v11 v34 wr => ∃ (k : Nat) (s : VmS) (ss : Nat → WayS), k ≤ m ∧ v34 = .int .i64 (k : Int) ∧ AllS w1 [ptC p (some g) 1, vmC g i s, setC gs [] ss] wr ∧ FineS i s ∧ KAll [] ss ∧ 0 ≤ s.ticks ∧ s.ticks ≤ k) (fun _ _ _ _ v34 _ => m - (intOf v34).toNat)
  case atStart => exact ⟨0, _, _, by omega, rfl, HA6.out, HFF.out, H0.out, by simp [freshS], by simp [freshS]⟩
  case round =>
    obtain ⟨k, s, ss, hk, rfl, hA, hF, hK, ht0, ht1⟩ := hrel
    clear HA6 H0
    by_cases hkm : k < m
    case pos =>
      have y0 : decide ((k : Int) < (m : Int)) = true := decide_eq_true (by omega)
      have y0' : decide (k < m) = true := decide_eq_true hkm
      have i3 := hid (pstate_any hA HI.out hF)
      have HA := hid hA
      have HF := hid hF
      have HK := hid hK
      obtain ⟨pc, st, me, tk, fa⟩ := s
      unfold stateV at i3
      simp only at i3 ht0 ht1
      obtain ⟨N1, hN1⟩ : ∃ N1, st.length = N1 := ⟨_, rfl⟩
      obtain ⟨M1, hM1⟩ : ∃ M1, me.length = M1 := ⟨_, rfl⟩
      have hN8 : N1 ≤ 8 := by have := hF.len; simp only at this; omega
      have hM16 : M1 ≤ 16 := by have := hF.mlen; simp only at this; have := HI.out.2.2.2.1; omega
      rw [hN1, hM1] at i3
      have HN1 := hid hN1
      have HM1 := hid hM1
      clear hA hF hK hN1 hM1
      go_wp2_with fail
      refine i3.out.mono ?_
      rintro e w7 ⟨B1, k1, B2, k2, rfl, ho1, ho2, hb7⟩
      have HR1 := hid (Reads.of_own ho1)
      have HR2 := hid (Reads.of_own ho2)
      have HA7 := hid (HA.out.belowS hb7)
      have HX8 := hid (Blk.new w7 42 [.int .i64 pc, .slice B1 N1 k1, .slice B2 M1 k2, .int .i64 tk, .int .i64 fa])
      have HB8 := hid (below_alloc1 w7 (.cells #[.int .i64 pc, .slice B1 N1 k1, .slice B2 M1 k2, .int .i64 tk, .int .i64 fa] 42))
      have i4 := hid (fun W (hb : Below w7.heap.size w7 W) => stands_any (HA7.out.belowS hb) HI.out HF.out)
      simp only at i4
      clear i3 ho1 ho2 hb7
      go_wp2_with fail
      refine (i4.out _ HB8.out).mono ?_
      rintro e w9 ⟨rfl, hb9⟩
      have HB79 := hid (bel_trans HB8.out hb9)
      have HX9 := hid (HX8.out.belowS hb9)
      have HA9 := hid (HA7.out.belowS HB79.out)
      clear i4 hb9
      by_cases hf : fa = 0
      case pos =>
        subst hf
        have i5 := hid (run_ok HA9.out HI.out HF.out HK.out dNil rfl ht0 (by show tk ≤ 1000000000; omega))
        have htt := tick_ticksQ i [] ⟨pc, st, me, tk, 0⟩ ss
        have hkk := tickF_keeps (cs := []) HF.out HK.out
        obtain ⟨r, hr⟩ : ∃ r, tickF i [] ⟨pc, st, me, tk, 0⟩ ss = r := ⟨_, rfl⟩
        rw [hr] at i5 htt hkk
        have htr : Hid (0 ≤ r.1.ticks ∧ r.1.ticks ≤ (k : Int) + 1) := hid (by rw [htt, if_pos rfl]; exact ⟨by show 0 ≤ tk + 1; omega, by show tk + 1 ≤ (k : Int) + 1; omega⟩)
        have HF' := hid hkk.1
        have HK' := hid hkk.2.1
        clear hr htt hkk
        go_wp2_with fail
        refine i5.out.mono ?_
        rintro e w10 ⟨A9, c9, C1, l1, C2, l2, rfl, hA10, _, _⟩
        unfold seenV
        obtain ⟨q1, hq1⟩ : ∃ q, r.2.2.1.length = q := ⟨_, rfl⟩
        obtain ⟨q2, hq2⟩ : ∃ q, r.1.stack.length = q := ⟨_, rfl⟩
        obtain ⟨q3, hq3⟩ : ∃ q, r.1.mem.length = q := ⟨_, rfl⟩
        rw [hq1, hq2, hq3]
        have HA11 := hid (hA10.drop.belowS (below_alloc1 w10 (.cells #[.slice A9 q1 c9, .bool r.2.2.2, .int .i64 r.1.pc, .slice C1 q2 l1, .slice C2 q3 l2, .int .i64 r.1.ticks, .int .i64 r.1.fault] 86)))
        clear hA10 i5 hq1 hq2 hq3
        go_wp2_with fail
        go_quiet (fail)
        go_wp2_with fail
        go_roundw
        case rel => exact ⟨k + 1, _, _, by omega, by go_num, HA11.out.belowS (below_drewS _), HF'.out, HK'.out, htr.out.1, htr.out.2⟩
        case measure => simp [intOf]; omega
      have i5 := hid (run_fault HA9.out HI.out HF.out hf (.iface 31 (.pointer (some ⟨gs, 0, none⟩))))
      have y5 : (fa != 0) = true := by simpa using hf
      unfold seenV at i5
      simp only [List.length_nil] at i5
      clear hf
      go_wp2_with fail
      refine i5.out.mono ?_
      rintro e w10 ⟨rfl, hb10⟩
      go_wp2_with fail
      obtain ⟨w11, hw11, hb11⟩ : ∃ W, w10.alloc (.cells #[.slice none 0 0, .bool false, .int .i64 0, .slice none 0 0, .slice none 0 0, .int .i64 0, .int .i64 0] 86) = W ∧ Below w10.heap.size w10 W := ⟨_, rfl, below_alloc1 _ _⟩
      have HA11 := hid (HA9.out.belowS (bel_trans hb10 hb11))
      have HX11 := hid (HX9.out.belowS (bel_trans hb10 hb11))
      have HB711 := hid (bel_trans HB79.out (bel_trans hb10 hb11))
      have hlx : w7.heap.size < w11.heap.size := HX11.out.lt
      have s0 : w11.cell? ⟨w7.heap.size, 0, none⟩ = some (.int .i64 pc) := HX11.out.cellAt rfl
      have s1 : w11.cell? ⟨w7.heap.size, 1, none⟩ = some (.slice B1 N1 k1) := HX11.out.cellAt rfl
      have s2 : w11.cell? ⟨w7.heap.size, 2, none⟩ = some (.slice B2 M1 k2) := HX11.out.cellAt rfl
      have s3 : w11.cell? ⟨w7.heap.size, 3, none⟩ = some (.int .i64 tk) := HX11.out.cellAt rfl
      have s4 : w11.cell? ⟨w7.heap.size, 4, none⟩ = some (.int .i64 fa) := HX11.out.cellAt rfl
      have iS := hid (fun W (hb : Below w11.heap.size w11 W) => pstate_any (HA11.out.belowS hb) HI.out HF.out)
      have iE := hid (fun W C1 l1 C2 l2 h1 h2 h3 h4 => sameSt_any ⟨pc, st, me, tk, fa⟩ B1 k1 B2 k2 C1 l1 C2 l2 W h1 h2 h3 h4 (by show st.length ≤ _; rw [HN1.out]; omega) (by show me.length ≤ _; rw [HM1.out]; omega))
      unfold stateV at iS iE
      simp only [HN1.out, HM1.out] at iS iE
      clear hb10 hb11 i5
      rw [hw11]
      clear hw11
      go_region_held3 (fun w' => w'.cell? ⟨w7.heap.size, 0, none⟩ = some (.int .i64 pc) ∧ w'.cell? ⟨w7.heap.size, 1, none⟩ = some (.slice B1 N1 k1) ∧ w'.cell? ⟨w7.heap.size, 2, none⟩ = some (.slice B2 M1 k2) ∧ w'.cell? ⟨w7.heap.size, 3, none⟩ = some (.int .i64 tk) ∧ w'.cell? ⟨w7.heap.size, 4, none⟩ = some (.int .i64 fa)) (go_keep) (first
        | (go_at_call 36; refine (iS.out _ ?_).mono ?_; (first | exact Below.refl _ _ | exact bel_drewV (Below.refl _ _)); rintro e wx ⟨C1, l1, C2, l2, rfl, hp1, hp2, hbx⟩; have hby : Below w11.heap.size w11 wx := (by first | exact hbx | exact bel_trans (bel_drewV (Below.refl w11.heap.size w11)) hbx); have hst := HX11.out.belowS hby; have t0 : wx.cell? ⟨w7.heap.size, 0, none⟩ = some (.int .i64 pc) := hst.cellAt rfl; have t1 : wx.cell? ⟨w7.heap.size, 1, none⟩ = some (.slice B1 N1 k1) := hst.cellAt rfl; have t2 : wx.cell? ⟨w7.heap.size, 2, none⟩ = some (.slice B2 M1 k2) := hst.cellAt rfl; have t3 : wx.cell? ⟨w7.heap.size, 3, none⟩ = some (.int .i64 tk) := hst.cellAt rfl; have t4 : wx.cell? ⟨w7.heap.size, 4, none⟩ = some (.int .i64 fa) := hst.cellAt rfl; clear hst; have HP1 := hid (Reads.of_own hp1); have HP2 := hid (Reads.of_own hp2); have HBY := hid hby; clear hp1 hp2 hbx hby)
        | (go_at_call 18; refine (iE.out _ _ _ _ _ ?_ ?_ HP1.out HP2.out).mono ?_; exact HR1.out.belowS (bel_trans HB711.out HBY.out); exact HR2.out.belowS (bel_trans HB711.out HBY.out); rintro e wz ⟨rfl, hbz⟩; have hbw : Below w11.heap.size w11 wz := bel_trans HBY.out hbz; have hst := HX11.out.belowS hbw; have v0 : wz.cell? ⟨w7.heap.size, 0, none⟩ = some (.int .i64 pc) := hst.cellAt rfl; have v1 : wz.cell? ⟨w7.heap.size, 1, none⟩ = some (.slice B1 N1 k1) := hst.cellAt rfl; have v2 : wz.cell? ⟨w7.heap.size, 2, none⟩ = some (.slice B2 M1 k2) := hst.cellAt rfl; have v3 : wz.cell? ⟨w7.heap.size, 3, none⟩ = some (.int .i64 tk) := hst.cellAt rfl; have v4 : wz.cell? ⟨w7.heap.size, 4, none⟩ = some (.int .i64 fa) := hst.cellAt rfl; clear hst; have HBW := hid hbw; clear hbz hbw))
      all_goals
        clear s0 s1 s2 s3 s4 t0 t1 t2 t3 t4 v0 v1 v2 v3 v4 iS iE
        have HZ := hid (HA11.out.belowS HBW.out)
        go_wp2_with fail
        go_roundw
        case rel => exact ⟨k + 1, _, ss, by omega, by go_num, HZ.out, HF.out, HK.out, ht0, by show tk ≤ _; omega⟩
        case measure => simp [intOf]; omega
    obtain rfl : k = m := by omega
    have i5 := hid (stop_any hA)
    clear hA hF hK
    go_wp2_with fail
    refine i5.out.mono ?_
    rintro e w9 ⟨rfl, hA9⟩
    have HA9 := hid hA9
    have i6 := hid (run_none hA9 (.iface 31 (.pointer (some ⟨gs, 0, none⟩))))
    unfold seenV at i6
    simp only [List.length_nil] at i6
    clear hA9 i5
    go_wp2_with fail
    refine i6.out.mono ?_
    rintro e w10 ⟨rfl, hb10⟩
    have HA11 := hid (HA9.out.belowS (bel_trans hb10 (below_alloc1 w10 (.cells #[.slice none 0 0, .bool false, .int .i64 0, .slice none 0 0, .slice none 0 0, .int .i64 0, .int .i64 0] 86))))
    have i7 := hid (pimage_none HA11.out)
    unfold imgV at i7
    simp only [List.length_nil] at i7
    clear hb10 i6
    go_wp2_with fail
    refine i7.out.mono ?_
    rintro e w12 ⟨rfl, hb12⟩
    have HA13 := hid (HA11.out.belowS (bel_trans hb12 (below_alloc1 w12 (.cells #[.int .i64 0, .int .i64 0, .int .i64 0, .int .i64 0, .int .i64 0, .int .i64 0, .int .i64 0, .slice none 0 0] 24))))
    have i8 := hid (runs_none HA13.out)
    have i9 := hid (stands_none HA13.out)
    have i10 := hid (boots_any HA13.out)
    have i11 := hid (iB.out _ p none 1 _ HA13.out (by decide) (by decide))
    obtain ⟨c0, c1, c2, c3, c4, c5, c6, c7⟩ := img_cells (HX1.out.belowS HA13.out.bel)
    clear hb12 i7
    go_wp2_with fail
    refine i8.out.mono ?_
    rintro e w' ⟨rfl, rfl⟩
    go_wp2_with fail
    refine i9.out.mono ?_
    rintro e w' ⟨rfl, rfl⟩
    go_wp2_with fail
    refine i10.out.mono ?_
    rintro e w' ⟨rfl, rfl⟩
    go_wp2_with fail
    refine i11.out.mono ?_
    rintro e w14 ⟨rfl, g2, hA14⟩
    have i12 := hid (boots_any hA14)
    have HBE := hid (bel_trans HB1.out hA14.bel)
    clear hA14 c0 c1 c2 c3 c4 c5 c6 c7 i8 i9 i10 i11
    go_wp2_with fail
    refine i12.out.mono ?_
    rintro e w' ⟨rfl, rfl⟩
    go_wp2_with fail
    go_ret
    exact ⟨rfl, HBE.out⟩
end Go.Proofs.Ytidlahljhgglcaa
