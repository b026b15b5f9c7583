/-
  Law 23: whatever has run (PartAnew), walked.
-/
import Derived.Test.YtidlahljhgglcaaPartM
import Derived.Test.YtidlahljhgglcaaRef06R
namespace Go.Proofs.Ytidlahljhgglcaa
open Go.RowKit Go.ChangeShapes Go.WideShapes Go.ChangeAt

theorem tick_ticksP (i : ImgS) (cs : List ChanS) (s : VmS) (ss : Nat → WayS) : (tickF i cs s ss).1.ticks = if s.fault = 0 then s.ticks + 1 else s.ticks := by
  unfold tickF
  by_cases h : s.fault = 0
  · rw [if_neg (by simp [h]), if_pos h]
  · rw [if_pos h, if_neg h]
theorem u8_natP {d : Int} (hd : (Lit.int .u8 d).wf = true) : ∃ m : Nat, d = (m : Int) ∧ m < 256 := by
  have := bounds_u8 hd
  exact ⟨d.toNat, by omega, by omega⟩
set_option maxRecDepth 100000 in
set_option maxHeartbeats 4000000 in
theorem partAnew_bad (w : World) (i : ImgS) (A : Option Addr) (c : Nat) (n : Nat) (hcl : i.code.length ≤ 9223372036854775807) (hR : rightI i = false) :
    Calls Try.prog 8 #[imgV i A c, .int .u8 (n : Int)] w fun e w' => e = .returned (.bool true) ∧ Below w.heap.size w w' := by
  obtain ⟨w1, hw1, hb1, hB1, hs1⟩ := img_in i A c w
  obtain ⟨c0, c1, c2, c3, c4, c5, c6, c7⟩ := img_cells hB1
  have HX1 := hid hB1
  have HB1 := hid hb1
  have i1 := hid (fun p w => boot_bad i A c p w hcl hR)
  have i2 := hid (fun w => refRightI_any i A c w hcl)
  rw [hR] at i2
  unfold imgV at i1 i2 ⊢
  clear hb1 hB1 hR hs1
  go_enter Try.func8, Try.ntmps8
  go_wp2_with fail
  refine (wakesPt_any _).mono ?_
  rintro e w2 ⟨rfl, hb2⟩
  have HB2 := hid (show Below w1.heap.size w1 w2 from by first | exact hb2 | (rw [← hw1]; exact hb2))
  clear c0 c1 c2 c3 c4 c5 c6 c7 hb2
  go_wp2_with fail
  refine (newPart_any _).mono ?_
  rintro e w3 ⟨rfl, rfl⟩
  have HA3 := hid (show AllS w1 [ptC w2.heap.size none 0] _ from (AllS.nil HB2.out).made (T := 136) (xs := [.pointer none, .int .i64 0]))
  generalize w2.alloc (.cells #[.pointer none, .int .i64 0] 136) = w3 at HA3 ⊢
  generalize w2.heap.size = p at *
  have HX3 := hid (HX1.out.belowS HA3.out.bel)
  obtain ⟨c0, c1, c2, c3, c4, c5, c6, c7⟩ := img_cells HX3.out
  go_wp2_with fail
  refine (i1.out _ _).mono ?_
  rintro e w4 ⟨rfl, hb4⟩
  have HA4 := hid (HA3.out.belowS hb4)
  have HX4 := hid (HX3.out.belowS hb4)
  clear c0 c1 c2 c3 c4 c5 c6 c7 hb4 i1
  obtain ⟨c0, c1, c2, c3, c4, c5, c6, c7⟩ := img_cells HX4.out
  go_wp2_with fail
  refine (i2.out _).mono ?_
  rintro e w5 ⟨rfl, hb5⟩
  have HA5 := hid (HA4.out.belowS hb5)
  have i3 := hid (boots_any HA5.out)
  clear c0 c1 c2 c3 c4 c5 c6 c7 hb5 i2
  go_wp2_with fail
  refine i3.out.mono ?_
  rintro e w6 ⟨rfl, rfl⟩
  go_wp2_with fail
  go_ret
  exact ⟨rfl, bel_trans HB1.out HA5.out.bel⟩
set_option maxRecDepth 100000 in
set_option maxHeartbeats 4000000 in
theorem partAnew_any (w : World) (i : ImgS) (A : Option Addr) (c : Nat) (hi : ImgCame w i A c) (n : Int) (hn : (Lit.int .u8 n).wf = true) :
    Calls Try.prog 8 #[imgV i A c, .int .u8 n] w fun e w' => e = .returned (.bool true) ∧ Below w.heap.size w w' := by
  obtain ⟨n, rfl, hn256⟩ := u8_natP hn
  have hcl : i.code.length ≤ 9223372036854775807 := by have := hi.hc; have := hi.hm; unfold maxLen at this; omega
  by_cases hR : rightI i = true
  case neg => exact partAnew_bad w i A c n hcl (by simpa using hR)
  obtain ⟨w1, hw1, hb1, hB1, hs1⟩ := img_in i A c w
  have HX1 := hid hB1
  have HB1 := hid hb1
  have HRD := hid (hi.rd.belowS hb1)
  have HI := hid ((rightI_iff i).1 hR)
  obtain ⟨mm, hmm⟩ : ∃ mm : Nat, i.mem.toNat = mm := ⟨_, rfl⟩
  have hmm16 : mm ≤ 16 := by have := HI.out.2.2.2.1; omega
  have iB := hid (fun W p m b l (h : AllS w1 (ptC p m b :: l) W) (h0 : 0 ≤ b) (h9 : b ≤ 1000000) => boot_ok h A c (HRD.out.belowS h.bel) hR h0 h9)
  simp only [hmm] at iB
  have HMM := hid hmm
  unfold imgV at iB ⊢
  clear hb1 hB1 hs1 hi hR hmm
  go_enter Try.func8, Try.ntmps8
  go_wp2_with fail
  refine (wakesPt_any _).mono ?_
  rintro e w2 ⟨rfl, hb2⟩
  have HB2 := hid (show Below w1.heap.size w1 w2 from by first | exact hb2 | (rw [← hw1]; exact hb2))
  clear hb2
  go_wp2_with fail
  refine (newPart_any _).mono ?_
  rintro e w3 ⟨rfl, rfl⟩
  have HA3 := hid (show AllS w1 [ptC w2.heap.size none 0] _ from (AllS.nil HB2.out).made (T := 136) (xs := [.pointer none, .int .i64 0]))
  generalize w2.alloc (.cells #[.pointer none, .int .i64 0] 136) = w3 at HA3 ⊢
  generalize w2.heap.size = p at *
  have HX3 := hid (HX1.out.belowS HA3.out.bel)
  obtain ⟨c0, c1, c2, c3, c4, c5, c6, c7⟩ := img_cells HX3.out
  clear HB2
  go_wp2_with fail
  refine (iB.out _ _ _ _ _ HA3.out (by decide) (by decide)).mono ?_
  rintro e w4 ⟨rfl, g, hA4⟩
  have HA4 := hid (show AllS w1 [ptC p (some g) 1, vmC g i (freshS mm)] w4 from hA4)
  clear c0 c1 c2 c3 c4 c5 c6 c7 hA4 HA3 HX3
  go_wp2_with fail
  refine (examplePt_any _).mono ?_
  rintro e w5 ⟨⟨A1, c1, A2, c2, rfl, hT⟩, hb5⟩
  have i2 := hid (New_ok exTP ⟨A1, c1, A2, c2, none, 0⟩ w5 hT exTPr)
  have HA5 := hid (HA4.out.belowS hb5)
  clear hT hb5 HA4
  go_wp2_with fail
  refine i2.out.mono ?_
  rintro e w6 ⟨F2, gs, rfl, hS, hb6, hF2⟩
  have HA6 := hid ((HA5.out.push hb6 (C := setC gs [] (zeroW [])) hS hF2).perm (List.perm_append_comm (l₁ := [setC gs [] (zeroW [])]) (l₂ := [ptC p (some g) 1, vmC g i (freshS mm)])))
  have hFf : FineS i (freshS mm) := by rw [← HMM.out]; exact fineFresh HI.out
  have i3 := hid (pstate_any HA6.out HI.out hFf)
  have HFF := hid hFf
  unfold stateV freshS at i3
  simp only [List.length_nil, List.length_replicate] at i3
  clear i2 hS hb6 hF2 HA5 hFf
  go_wp2_with fail
  refine i3.out.mono ?_
  rintro e w7 ⟨B1, k1, B2, k2, rfl, _, ho2, hb7⟩
  have HA8 := hid (((((HA6.out.push hb7 (C := rowC 3 1 B2 mm k2 ((List.replicate mm (0 : Int)).map iV)) (F1 := Foot B2) ⟨own_mono ho2 (Nat.zero_le _), fun _ => Iff.rfl⟩ fun b hb => (ho2.lt b (ownBlock_foot.2 hb)).1).made (T := 42) (xs := [.int .i64 0, .slice B1 0 k1, .slice B2 mm k2, .int .i64 0, .int .i64 0])).perm (List.perm_append_comm (l₁ := [blkC w7.heap.size 42 [.int .i64 0, .slice B1 0 k1, .slice B2 mm k2, .int .i64 0, .int .i64 0], rowC 3 1 B2 mm k2 ((List.replicate mm (0 : Int)).map iV)]) (l₂ := [ptC p (some g) 1, vmC g i (freshS mm), setC gs [] (zeroW [])])))))
  have hmod : Hid (((n : Int) % 30) = ((n % 30 : Nat) : Int)) := hid (by omega)
  have hmN : n % 30 < 30 := Nat.mod_lt _ (by decide)
  obtain ⟨m, hm⟩ : ∃ m, n % 30 = m := ⟨_, rfl⟩
  rw [hm] at hmod hmN
  clear hm hb7 ho2 i3 HA6
  have H0 := hid (kZero [] (by decide))
  go_wp2_with fail
  simp only [hmod.out]
  go_loopw [34] (fun v34 wr => ∃ (k : Nat) (s : VmS) (ss : Nat → WayS), k ≤ m ∧ v34 = .int .i64 (k : Int) ∧ AllS w1 [ptC p (some g) 1, vmC g i s, setC gs [] ss, blkC w7.heap.size 42 [.int .i64 0, .slice B1 0 k1, .slice B2 mm k2, .int .i64 0, .int .i64 0], rowC 3 1 B2 mm k2 ((List.replicate mm (0 : Int)).map iV)] wr ∧ FineS i s ∧ KAll [] ss ∧ 0 ≤ s.ticks ∧ s.ticks ≤ k) (fun v34 _ => m - (intOf v34).toNat)
  case atStart => exact ⟨0, _, _, by omega, rfl, HA8.out, HFF.out, H0.out, by simp [freshS], by simp [freshS]⟩
  case round =>
    obtain ⟨k, s, ss, hk, rfl, hA, hF, hK, ht0, ht1⟩ := hrel
    clear HA8 H0
    by_cases hkm : k < m
    case pos =>
      have y0 : decide ((k : Int) < (m : Int)) = true := decide_eq_true (by omega)
      have y0' : decide (k < m) = true := decide_eq_true hkm
      by_cases hf : s.fault = 0
      case neg =>
        have i5 := hid (run_fault hA HI.out hF hf (.iface 31 (.pointer (some ⟨gs, 0, none⟩))))
        have HA := hid hA
        have HF := hid hF
        have HK := hid hK
        clear hA hF hK hf
        go_wp2_with fail
        refine i5.out.mono ?_
        rintro e w9 ⟨rfl, hb9⟩
        have HA9 := hid (HA.out.belowS hb9)
        clear hb9 i5
        go_wp2_with fail
        go_roundw
        case rel => exact ⟨k + 1, s, ss, by omega, by go_num, HA9.out, HF.out, HK.out, ht0, by omega⟩
        case measure => simp [intOf]; omega
      have i5 := hid (run_ok hA HI.out hF hK dNil hf ht0 (by omega))
      have htt := tick_ticksP i [] s ss
      have hkk := tickF_keeps (cs := []) hF hK
      obtain ⟨r, hr⟩ : ∃ r, tickF i [] s ss = r := ⟨_, rfl⟩
      rw [hr] at i5 htt hkk
      have htr : Hid (0 ≤ r.1.ticks ∧ r.1.ticks ≤ (k : Int) + 1) := hid (by rw [htt]; split <;> omega)
      have HF' := hid hkk.1
      have HK' := hid hkk.2.1
      clear hA hF hK hf hr htt hkk
      go_wp2_with fail
      refine i5.out.mono ?_
      rintro e w9 ⟨A9, c9, C1, l1, C2, l2, rfl, hA9, _, _⟩
      have HA9 := hid hA9.drop
      clear hA9 i5
      go_wp2_with fail
      go_roundw
      case rel => exact ⟨k + 1, _, _, by omega, by go_num, HA9.out, HF'.out, HK'.out, htr.out.1, htr.out.2⟩
      case measure => simp [intOf]; omega
    obtain rfl : k = m := by omega
    have HA := hid hA
    obtain ⟨c0, c1, c2, c3, c4, c5, c6, c7⟩ := img_cells (HX1.out.belowS hA.bel)
    have hst : Blk wr w7.heap.size 42 [.int .i64 0, .slice B1 0 k1, .slice B2 mm k2, .int .i64 0, .int .i64 0] := (hA.perm (List.perm_append_comm (l₁ := [ptC p (some g) 1, vmC g i s, setC gs [] ss]) (l₂ := [blkC w7.heap.size 42 [.int .i64 0, .slice B1 0 k1, .slice B2 mm k2, .int .i64 0, .int .i64 0], rowC 3 1 B2 mm k2 ((List.replicate mm (0 : Int)).map iV)]))).blk
    have s0 : wr.cell? ⟨w7.heap.size, 0, none⟩ = some (.int .i64 0) := hst.cellAt rfl
    have s1 : wr.cell? ⟨w7.heap.size, 1, none⟩ = some (.slice B1 0 k1) := hst.cellAt rfl
    have s2 : wr.cell? ⟨w7.heap.size, 2, none⟩ = some (.slice B2 mm k2) := hst.cellAt rfl
    have s3 : wr.cell? ⟨w7.heap.size, 3, none⟩ = some (.int .i64 0) := hst.cellAt rfl
    have s4 : wr.cell? ⟨w7.heap.size, 4, none⟩ = some (.int .i64 0) := hst.cellAt rfl
    clear hA hF hK hst
    go_wp2_with fail
    have iE := hid (fun W C1 l1 C2 l2 (h2 : Reads W W.heap.size 1 C2 mm ((List.replicate mm (0 : Int)).map iV)) (h4 : Reads W W.heap.size 1 B2 mm ((List.replicate mm (0 : Int)).map iV)) => (show Calls Try.prog 18 #[.agg #[.int .i64 0, .slice C1 0 l1, .slice C2 mm l2, .int .i64 0, .int .i64 0], .agg #[.int .i64 0, .slice B1 0 k1, .slice B2 mm k2, .int .i64 0, .int .i64 0]] W (fun e w' => e = .returned (.bool true) ∧ Below W.heap.size W w') from by
      have h9 := sameSt_any (freshS mm) C1 l1 C2 l2 B1 k1 B2 k2 W Reads.empty (by simpa [freshS] using h2) Reads.empty (by simpa [freshS] using h4) (by simp [freshS]) (by simp [freshS]; omega)
      simpa [stateV, freshS] using h9))
    have iP := hid (fun W (h : AllS w1 [ptC p (some g) 1, vmC g i s, setC gs [] ss, blkC w7.heap.size 42 [.int .i64 0, .slice B1 0 k1, .slice B2 mm k2, .int .i64 0, .int .i64 0], rowC 3 1 B2 mm k2 ((List.replicate mm (0 : Int)).map iV)] W) => iB.out W p (some g) 1 _ h (by decide) (by decide))
    go_region_held3 (fun w' => w'.cell? ⟨w.heap.size, 0, none⟩ = some (.int .i64 i.part) ∧ w'.cell? ⟨w.heap.size, 1, none⟩ = some (.int .i64 i.ver) ∧ w'.cell? ⟨w.heap.size, 2, none⟩ = some (.int .i64 i.hard) ∧ w'.cell? ⟨w.heap.size, 3, none⟩ = some (.int .i64 i.mem) ∧ w'.cell? ⟨w.heap.size, 4, none⟩ = some (.int .i64 i.fuel) ∧ w'.cell? ⟨w.heap.size, 5, none⟩ = some (.int .i64 i.sends) ∧ w'.cell? ⟨w.heap.size, 6, none⟩ = some (.int .i64 i.recvs) ∧ w'.cell? ⟨w.heap.size, 7, none⟩ = some (.slice A i.code.length c) ∧ w'.cell? ⟨w7.heap.size, 0, none⟩ = some (.int .i64 0) ∧ w'.cell? ⟨w7.heap.size, 1, none⟩ = some (.slice B1 0 k1) ∧ w'.cell? ⟨w7.heap.size, 2, none⟩ = some (.slice B2 mm k2) ∧ w'.cell? ⟨w7.heap.size, 3, none⟩ = some (.int .i64 0) ∧ w'.cell? ⟨w7.heap.size, 4, none⟩ = some (.int .i64 0)) (go_keep) (first
      | (go_at_call 33; refine (iP.out _ ?_).mono ?_; (first | exact HA.out | exact HA.out.belowS (bel_drewV (Below.refl _ _))); rintro e wb ⟨rfl, g2, hAb⟩; have hAb' : AllS w1 ([ptC p (some g2) 2, vmC g2 i (freshS mm), vmC g i s, setC gs [] ss] ++ [blkC w7.heap.size 42 [.int .i64 0, .slice B1 0 k1, .slice B2 mm k2, .int .i64 0, .int .i64 0], rowC 3 1 B2 mm k2 ((List.replicate mm (0 : Int)).map iV)]) wb := hAb; have hst : Blk wb w7.heap.size 42 [.int .i64 0, .slice B1 0 k1, .slice B2 mm k2, .int .i64 0, .int .i64 0] := (hAb'.perm (List.perm_append_comm (l₁ := [ptC p (some g2) 2, vmC g2 i (freshS mm), vmC g i s, setC gs [] ss]) (l₂ := [blkC w7.heap.size 42 [.int .i64 0, .slice B1 0 k1, .slice B2 mm k2, .int .i64 0, .int .i64 0], rowC 3 1 B2 mm k2 ((List.replicate mm (0 : Int)).map iV)]))).blk; obtain ⟨b0, b1, b2, b3, b4, b5, b6, b7⟩ := img_cells (HX1.out.belowS hAb'.bel); have bs0 : wb.cell? ⟨w7.heap.size, 0, none⟩ = some (.int .i64 0) := hst.cellAt rfl; have bs1 : wb.cell? ⟨w7.heap.size, 1, none⟩ = some (.slice B1 0 k1) := hst.cellAt rfl; have bs2 : wb.cell? ⟨w7.heap.size, 2, none⟩ = some (.slice B2 mm k2) := hst.cellAt rfl; have bs3 : wb.cell? ⟨w7.heap.size, 3, none⟩ = some (.int .i64 0) := hst.cellAt rfl; have bs4 : wb.cell? ⟨w7.heap.size, 4, none⟩ = some (.int .i64 0) := hst.cellAt rfl; clear hst; have HAB := hid hAb'; clear hAb hAb')
      | (go_at_call 34; refine (boots_any HAB.out).mono ?_; rintro e w' ⟨rfl, rfl⟩)
      | (go_at_call 36; refine (pstate_any HAB.out HI.out HFF.out).mono ?_; rintro e ws ⟨C1, l1, C2, l2, he, ho1, ho2, hbs⟩; unfold stateV freshS at he; simp only [List.length_nil, List.length_replicate] at he; subst he; have hAs := HAB.out.belowS hbs; have hst : Blk ws w7.heap.size 42 [.int .i64 0, .slice B1 0 k1, .slice B2 mm k2, .int .i64 0, .int .i64 0] := (hAs.perm (List.perm_append_comm (l₁ := [ptC p (some g2) 2, vmC g2 i (freshS mm), vmC g i s, setC gs [] ss]) (l₂ := [blkC w7.heap.size 42 [.int .i64 0, .slice B1 0 k1, .slice B2 mm k2, .int .i64 0, .int .i64 0], rowC 3 1 B2 mm k2 ((List.replicate mm (0 : Int)).map iV)]))).blk; obtain ⟨d0, d1, d2, d3, d4, d5, d6, d7⟩ := img_cells (HX1.out.belowS hAs.bel); have ds0 : ws.cell? ⟨w7.heap.size, 0, none⟩ = some (.int .i64 0) := hst.cellAt rfl; have ds1 : ws.cell? ⟨w7.heap.size, 1, none⟩ = some (.slice B1 0 k1) := hst.cellAt rfl; have ds2 : ws.cell? ⟨w7.heap.size, 2, none⟩ = some (.slice B2 mm k2) := hst.cellAt rfl; have ds3 : ws.cell? ⟨w7.heap.size, 3, none⟩ = some (.int .i64 0) := hst.cellAt rfl; have ds4 : ws.cell? ⟨w7.heap.size, 4, none⟩ = some (.int .i64 0) := hst.cellAt rfl; clear hst; have HO2 := hid (show Reads ws ws.heap.size 1 C2 mm ((List.replicate mm (0 : Int)).map iV) from by have h9 := Reads.of_own ho2; simpa [freshS] using h9); have HAS := hid hAs; clear ho1 ho2 hbs hAs)
      | (go_at_call 18; refine (iE.out _ _ _ _ _ HO2.out ?_).mono ?_; exact ((HAS.out.perm (List.perm_append_comm (l₁ := [ptC p (some g2) 2, vmC g2 i (freshS mm), vmC g i s, setC gs [] ss] ++ [blkC w7.heap.size 42 [.int .i64 0, .slice B1 0 k1, .slice B2 mm k2, .int .i64 0, .int .i64 0]]) (l₂ := [rowC 3 1 B2 mm k2 ((List.replicate mm (0 : Int)).map iV)]))).rowReads); rintro e we ⟨rfl, hbe⟩; have hAe := HAS.out.belowS hbe; have hst : Blk we w7.heap.size 42 [.int .i64 0, .slice B1 0 k1, .slice B2 mm k2, .int .i64 0, .int .i64 0] := (hAe.perm (List.perm_append_comm (l₁ := [ptC p (some g2) 2, vmC g2 i (freshS mm), vmC g i s, setC gs [] ss]) (l₂ := [blkC w7.heap.size 42 [.int .i64 0, .slice B1 0 k1, .slice B2 mm k2, .int .i64 0, .int .i64 0], rowC 3 1 B2 mm k2 ((List.replicate mm (0 : Int)).map iV)]))).blk; obtain ⟨e0, e1, e2, e3, e4, e5, e6, e7⟩ := img_cells (HX1.out.belowS hAe.bel); have es0 : we.cell? ⟨w7.heap.size, 0, none⟩ = some (.int .i64 0) := hst.cellAt rfl; have es1 : we.cell? ⟨w7.heap.size, 1, none⟩ = some (.slice B1 0 k1) := hst.cellAt rfl; have es2 : we.cell? ⟨w7.heap.size, 2, none⟩ = some (.slice B2 mm k2) := hst.cellAt rfl; have es3 : we.cell? ⟨w7.heap.size, 3, none⟩ = some (.int .i64 0) := hst.cellAt rfl; have es4 : we.cell? ⟨w7.heap.size, 4, none⟩ = some (.int .i64 0) := hst.cellAt rfl; clear hst; have HAE := hid hAe; clear hbe hAe)
      | (go_at_call 38; refine (runs_any HAE.out HI.out HFF.out).mono ?_; rintro e wf ⟨he, hbf⟩; rw [show ((freshS mm).fault == 0) = true from rfl] at he; subst he; have hAf := HAE.out.belowS hbf; have hst : Blk wf w7.heap.size 42 [.int .i64 0, .slice B1 0 k1, .slice B2 mm k2, .int .i64 0, .int .i64 0] := (hAf.perm (List.perm_append_comm (l₁ := [ptC p (some g2) 2, vmC g2 i (freshS mm), vmC g i s, setC gs [] ss]) (l₂ := [blkC w7.heap.size 42 [.int .i64 0, .slice B1 0 k1, .slice B2 mm k2, .int .i64 0, .int .i64 0], rowC 3 1 B2 mm k2 ((List.replicate mm (0 : Int)).map iV)]))).blk; obtain ⟨f0, f1, f2, f3, f4, f5, f6, f7⟩ := img_cells (HX1.out.belowS hAf.bel); have fs0 : wf.cell? ⟨w7.heap.size, 0, none⟩ = some (.int .i64 0) := hst.cellAt rfl; have fs1 : wf.cell? ⟨w7.heap.size, 1, none⟩ = some (.slice B1 0 k1) := hst.cellAt rfl; have fs2 : wf.cell? ⟨w7.heap.size, 2, none⟩ = some (.slice B2 mm k2) := hst.cellAt rfl; have fs3 : wf.cell? ⟨w7.heap.size, 3, none⟩ = some (.int .i64 0) := hst.cellAt rfl; have fs4 : wf.cell? ⟨w7.heap.size, 4, none⟩ = some (.int .i64 0) := hst.cellAt rfl; clear hst; have HAF := hid hAf; clear hbf hAf))
    all_goals
      have HBE := hid (bel_trans HB1.out HAF.out.bel)
      clear c0 c1 c2 c3 c4 c5 c6 c7 s0 s1 s2 s3 s4 b0 b1 b2 b3 b4 b5 b6 b7 d0 d1 d2 d3 d4 d5 d6 d7 e0 e1 e2 e3 e4 e5 e6 e7 f0 f1 f2 f3 f4 f5 f6 f7 iE iP
      go_wp2_with fail
      go_ret
      exact ⟨rfl, HBE.out⟩
end Go.Proofs.Ytidlahljhgglcaa
