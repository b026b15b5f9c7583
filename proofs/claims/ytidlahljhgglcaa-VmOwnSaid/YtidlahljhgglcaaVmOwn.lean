/-
  Law 17: two machines of one image (VmOwn), walked.
-/
import Derived.Test.YtidlahljhgglcaaVmPair
import Derived.Test.YtidlahljhgglcaaVmWakes
import Derived.Test.YtidlahljhgglcaaVmRds
import Derived.Test.YtidlahljhgglcaaOpenImgV
namespace Go.Proofs.Ytidlahljhgglcaa
open Go.RowKit Go.ChangeShapes Go.WideShapes Go.ChangeAt

theorem tick_ticks (i : ImgS) (cs : List ChanS) (s : VmS) (ss : Nat → WayS) : (tickF i cs s ss).1.ticks = if s.fault = 0 then s.ticks + 1 else s.ticks := by
  unfold tickF
  by_cases h : s.fault = 0
  · rw [if_neg (by simp [h]), if_pos h]
  · rw [if_pos h, if_neg h]
theorem u8_natV {d : Int} (hd : (Lit.int .u8 d).wf = true) : ∃ m : Nat, d = (m : Int) ∧ m < 256 := by
  have := bounds_u8 hd
  exact ⟨d.toNat, by omega, by omega⟩
abbrev u8V (n : Int) : Value := .int .u8 n
theorem VT.state {w0 w : World} {ga gs gb gu : Nat} {i : ImgS} {cs : List ChanS} {s1 s2 : VmS} {ss1 ss2 : Nat → WayS} {Y : Nat → Prop} (h : VT w0 ga gs gb gu i cs s1 ss1 s2 ss2 Y w) (hI : RightI i) :
    Calls Try.prog 16 #[.pointer (some ⟨ga, 0, none⟩)] w fun e w' => ∃ A1 c1 A2 c2, e = .returned (stateV s1 A1 c1 A2 c2) ∧ w'.ownsRow w.heap.size 3 1 (.slice A1 s1.stack.length c1) s1.stack.length (s1.stack.map iV) ∧ w'.ownsRow w.heap.size 3 1 (.slice A2 s1.mem.length c2) s1.mem.length (s1.mem.map iV) ∧ Below w.heap.size w w' := by
  obtain ⟨F3, F4, hv, _⟩ := h.ex
  exact hv.state hI
theorem VT.image {w0 w : World} {ga gs gb gu : Nat} {i : ImgS} {cs : List ChanS} {s1 s2 : VmS} {ss1 ss2 : Nat → WayS} {Y : Nat → Prop} (h : VT w0 ga gs gb gu i cs s1 ss1 s2 ss2 Y w) (hI : RightI i) :
    Calls Try.prog 20 #[.pointer (some ⟨ga, 0, none⟩)] w fun e w' => ∃ A c, e = .returned (imgV i A c) ∧ w'.ownsRow w.heap.size 5 1 (.slice A i.code.length c) i.code.length (i.code.map bV) ∧ Below w.heap.size w w' := by
  obtain ⟨F3, F4, hv, _⟩ := h.ex
  exact hv.image hI
set_option maxRecDepth 100000 in
set_option maxHeartbeats 4000000 in
theorem vmOwn_bad (w : World) (i : ImgS) (A : Option Addr) (c : Nat) (n : Nat) (hcl : i.code.length ≤ 9223372036854775807) (hR : rightI i = false) :
    Calls Try.prog 5 #[imgV i A c, .int .u8 (n : Int)] w fun e w' => e = .returned (.bool true) ∧ Below w.heap.size w w' := by
  obtain ⟨w1, hw1, hb1, hB1, hs1⟩ := img_in i A c w
  obtain ⟨c0, c1, c2, c3, c4, c5, c6, c7⟩ := img_cells hB1
  have HX1 := hid hB1
  have HB1 := hid hb1
  have i1 := hid (fun w => vmNew_bad i A c w hcl hR)
  unfold imgV at i1 ⊢
  clear hb1 hB1 hR hs1
  go_enter Try.func5, Try.ntmps5
  go_wp2_with fail
  refine (wakesV_any _).mono ?_
  rintro e w2 ⟨rfl, hb2⟩
  have hX2 := HX1.out.belowS hb2
  clear c0 c1 c2 c3 c4 c5 c6 c7
  obtain ⟨c0, c1, c2, c3, c4, c5, c6, c7⟩ := img_cells hX2
  have HB2 := hid (bel_trans HB1.out hb2)
  have HX2 := hid hX2
  clear hX2 hb2
  go_wp2_with fail
  refine (i1.out _).mono ?_
  rintro e w3 ⟨rfl, hb3⟩
  have hX3 := HX2.out.belowS hb3
  clear c0 c1 c2 c3 c4 c5 c6 c7
  obtain ⟨c0, c1, c2, c3, c4, c5, c6, c7⟩ := img_cells hX3
  have HB3 := hid (bel_trans HB2.out hb3)
  clear hX3 hb3
  go_wp2_with fail
  refine (i1.out _).mono ?_
  rintro e w4 ⟨rfl, hb4⟩
  go_wp2_with fail
  go_ret
  exact ⟨rfl, bel_trans HB3.out hb4⟩
set_option maxRecDepth 100000 in
set_option maxHeartbeats 4000000 in
theorem vmOwn_any (w : World) (i : ImgS) (A : Option Addr) (c : Nat) (hi : ImgCame w i A c) (n : Int) (hn : (Lit.int .u8 n).wf = true) :
    Calls Try.prog 5 #[imgV i A c, .int .u8 n] w fun e w' => e = .returned (.bool true) ∧ Below w.heap.size w w' := by
  obtain ⟨n, rfl, hn256⟩ := u8_natV hn
  have hcl : i.code.length ≤ 9223372036854775807 := by have := hi.hc; have := hi.hm; unfold maxLen at this; omega
  by_cases hR : rightI i = true
  case neg => exact vmOwn_bad w i A c n hcl (by simpa using hR)
  obtain ⟨w1, hw1, hb1, hB1, hs1⟩ := img_in i A c w
  obtain ⟨c0, c1, c2, c3, c4, c5, c6, c7⟩ := img_cells hB1
  have HX1 := hid hB1
  have HB1 := hid hb1
  have HRD := hid hi.rd
  have hRI := (rightI_iff i).1 hR
  have i1 := hid (fun w (h : Reads w w.heap.size 1 A i.code.length (i.code.map bV)) => vmNew_ok i A c w h hR)
  obtain ⟨mm, hmm⟩ : ∃ mm : Nat, i.mem = (mm : Int) := ⟨i.mem.toNat, by have := hRI.2.2.2.1; omega⟩
  have hmm16 : mm ≤ 16 := by have := hRI.2.2.2.1; omega
  have HI := hid hRI
  have HMM := hid hmm
  unfold imgV at i1 ⊢
  clear hb1 hB1 hi hR hRI hmm hs1
  go_enter Try.func5, Try.ntmps5
  go_wp2_with fail
  refine (wakesV_any _).mono ?_
  rintro e w2 ⟨rfl, hb2⟩
  have hX2 := HX1.out.belowS hb2
  clear c0 c1 c2 c3 c4 c5 c6 c7
  obtain ⟨c0, c1, c2, c3, c4, c5, c6, c7⟩ := img_cells hX2
  have HB2 := hid (bel_trans HB1.out hb2)
  have HX2 := hid hX2
  clear hX2 hb2
  go_wp2_with fail
  refine (i1.out _ (HRD.out.belowS HB2.out)).mono ?_
  rintro e w3 ⟨F1, g, rfl, hM, hb3, hF1⟩
  have hX3 := HX2.out.belowS hb3
  clear c0 c1 c2 c3 c4 c5 c6 c7
  obtain ⟨c0, c1, c2, c3, c4, c5, c6, c7⟩ := img_cells hX3
  have HX3 := hid hX3
  have HM := hid hM
  have HB3 := hid hb3
  have HF1 := hid hF1
  clear hX3 hb3 hM hF1
  go_wp2_with fail
  refine (i1.out _ (HRD.out.belowS (bel_trans HB2.out HB3.out))).mono ?_
  rintro e w4 ⟨F3, gb, rfl, hM4, hb4, hF3⟩
  have HM4 := hid hM4
  have HB4 := hid hb4
  have HF3 := hid hF3
  clear hb4 hM4 hF3 i1 c0 c1 c2 c3 c4 c5 c6 c7
  go_wp2_with fail
  refine (exampleV_any _).mono ?_
  rintro e w5 ⟨⟨A1, k1, A2, k2, A3, k3, rfl, hT⟩, hb5⟩
  have i2 := hid (New_ok exTV ⟨A1, k1, A2, k2, A3, k3⟩ w5 hT exTVr)
  have HB5 := hid hb5
  clear hT hb5
  go_wp2_with fail
  refine i2.out.mono ?_
  rintro e w6 ⟨F2, gs, rfl, hS, hb6, hF2⟩
  have HB6 := hid hb6
  have HS := hid hS
  have HF2 := hid hF2
  clear hb6 hS hF2 i2
  go_wp2_with fail
  refine (exampleV_any _).mono ?_
  rintro e w7 ⟨⟨A1, k1, A2, k2, A3, k3, rfl, hT⟩, hb7⟩
  have i2 := hid (New_ok exTV ⟨A1, k1, A2, k2, A3, k3⟩ w7 hT exTVr)
  have HB7 := hid hb7
  clear hT hb7
  go_wp2_with fail
  refine i2.out.mono ?_
  rintro e w8 ⟨F4, gu, rfl, hS2, hb8, hF4⟩
  have hv : VT w2 g gs gb gu i exCV (freshS i.mem.toNat) (zeroW exCV) (freshS i.mem.toNat) (zeroW exCV) (fun _ => False) w8 :=
    VT.start HI.out HB3.out HM.out HF1.out HB4.out HM4.out HF3.out (bel_trans HB5.out HB6.out) HS.out (fun b hb => Nat.le_trans HB5.out.size (HF2.out b hb)) (bel_trans HB7.out hb8) hS2 (fun b hb => Nat.le_trans HB7.out.size (hF4 b hb)) (by decide)
  have HV := hid hv
  clear i2 hb8 hF4 hS2 hv HM HF1 HM4 HF3 HS HF2
  have hmod : Hid (((n : Int) % 20) = ((n % 20 : Nat) : Int)) := hid (by omega)
  have hmN : n % 20 < 20 := Nat.mod_lt _ (by decide)
  -- BODY
  obtain ⟨m, hm⟩ : ∃ m, n % 20 = m := ⟨_, rfl⟩
  rw [hm] at hmod hmN
  clear hm
  go_wp2_with fail
  simp only [hmod.out]
  go_loopw [13, 14, 15, 16, 17, 18, 53] (fun v13 v14 v15 v16 v17 v18 v53 wr => ∃ (k : Nat) (s : VmS) (ss : Nat → WayS), k ≤ m ∧ v53 = .int .i64 (k : Int) ∧ VT w2 g gs gb gu i exCV s ss s ss (fun _ => False) wr ∧ 0 ≤ s.ticks ∧ s.ticks ≤ k) (fun _ _ _ _ _ _ v53 _ => m - (intOf v53).toNat)
  case atStart => exact ⟨0, _, _, by omega, rfl, HV.out, by simp [freshS], by simp [freshS]⟩
  case round =>
    obtain ⟨k, s, ss, hk, rfl, hv, ht0, ht1⟩ := hrel
    obtain ⟨wo, rfl⟩ : ∃ wo : World, wo = wr := ⟨_, rfl⟩
    by_cases hkm : k < m
    case neg =>
      obtain rfl : k = m := by omega
      have HBF := hid (bel_trans HB2.out hv.bel)
      clear hv
      go_wp2_with fail
      go_ret
      exact ⟨rfl, HBF.out⟩
    have y0 : decide ((k : Int) < (m : Int)) = true := decide_eq_true (by omega)
    have y0' : decide (k < m) = true := decide_eq_true hkm
    have i3 := hid (hv.state HI.out)
    have HVk := hid hv
    have hn1' : s.mem.length = mm := by have := hv.fine.mlen; have := HMM.out; omega
    have hcode : i.code.length ≤ 1000 := by have := HI.out.2.2.2.2.2.2.2; omega
    clear hv
    go_wp2_with fail
    refine i3.out.mono ?_
    rintro e w6 ⟨A1, c1, A2, c2, rfl, ho1, ho2, hb6⟩
    unfold stateV
    rw [hn1'] at ho2 ⊢
    obtain ⟨N1, hN1⟩ : ∃ N1, s.stack.length = N1 := ⟨_, rfl⟩
    rw [hN1] at ho1 ⊢
    obtain ⟨wS, hwS, hbS, hXS, hoS⟩ : ∃ W, w6.alloc (.cells #[.int .i64 s.pc, .slice A1 N1 c1, .slice A2 mm c2, .int .i64 s.ticks, .int .i64 s.fault] 42) = W ∧ Below wo.heap.size wo W ∧ Blk W w6.heap.size 42 [.int .i64 s.pc, .slice A1 N1 c1, .slice A2 mm c2, .int .i64 s.ticks, .int .i64 s.fault] ∧ W.ownsRow wo.heap.size 3 1 (.slice A2 mm c2) mm (s.mem.map iV) :=
      ⟨_, rfl, bel_alloc hb6 _, Blk.new _ _ [.int .i64 s.pc, .slice A1 N1 c1, .slice A2 mm c2, .int .i64 s.ticks, .int .i64 s.fault], own_below ho2 (below_alloc1 _ _)⟩
    have hA2 : Hid (∀ b, Foot A2 b → b < w6.heap.size) := hid (fun b hb => own_lt ho2 hb)
    have x2 : wS.cell? ⟨w6.heap.size, 2, none⟩ = some (.slice A2 mm c2) := hXS.cellAt rfl
    have HXS := hid hXS
    have HOS := hid hoS
    have HBS := hid hbS
    have HN1 := hid hN1
    have HM1 := hid hn1'
    clear ho1 ho2 hb6 hXS hoS hbS hN1 hn1' i3
    go_wp2_with fail
    clear x2
    go_loopw [14, 60] (fun v14 v60 wx => ∃ (j : Nat) (l : List Int), j ≤ mm ∧ v60 = .int .i64 (j : Int) ∧ Below wo.heap.size wo wx ∧ Blk wx w6.heap.size 42 [.int .i64 s.pc, .slice A1 N1 c1, .slice A2 mm c2, .int .i64 s.ticks, .int .i64 s.fault] ∧ wx.ownsRow wo.heap.size 3 1 (.slice A2 mm c2) mm (l.map iV)) (fun _ v60 _ => mm - (intOf v60).toNat)
    case atStart => exact ⟨0, _, by omega, rfl, HBS.out, HXS.out, HOS.out⟩
    case round =>
      obtain ⟨j, l, hj, rfl, hbj, hXj, hoj⟩ := hrel
      by_cases hjm : j < mm
      case pos =>
        have z0 : (0 : Int) ≤ (j : Int) := Int.natCast_nonneg _
        have z1 : (j : Int) < (mm : Int) := by omega
        have x2 : wr.cell? ⟨w6.heap.size, 2, none⟩ = some (.slice A2 mm c2) := hXj.cellAt rfl
        obtain ⟨g2, rfl, hg2, hg2'⟩ := own_some hoj (by omega)
        have hne : w6.heap.size ≠ g2 := by have := hA2.out g2 (foot_some.2 rfl); omega
        obtain ⟨x, _, q1, q2⟩ := own_cellM hoj hjm
        have hst := own_storeM hoj j 77
        have HO := hid hst.1
        have HB := hid (hbj.setCell (p := ⟨g2, j, none⟩) hg2 (iV 77))
        have HX := hid (hXj.far (p := ⟨g2, j, none⟩) hne (iV 77))
        clear hst hoj hbj hXj hne hg2 hg2'
        go_wp2_with fail
        go_roundw
        case rel => exact ⟨j + 1, _, by omega, by go_num, HB.out, HX.out, HO.out⟩
        case measure => simp [intOf]; omega
      obtain rfl : j = mm := by omega
      have i4 := hid ((HVk.out.belowS hbj).image HI.out)
      have HBJ := hid hbj
      clear hoj hXj hbj
      go_wp2_with fail
      refine i4.out.mono ?_
      rintro e w7 ⟨A3, c3, rfl, ho3, hb7⟩
      have hfi := field_img7
      unfold imgV
      have ho3' : w7.ownsRow wo.heap.size 5 1 (.slice A3 i.code.length c3) i.code.length ((i.code.map fun b => (b.toNat : Int)).map u8V) := by
        rw [List.map_map]
        exact own_mono ho3 HBJ.out.size
      have HB7 := hid (bel_trans HBJ.out hb7)
      have HO3 := hid ho3'
      clear ho3 ho3' hb7 i4
      go_wp2_with fail
      clear hfi
      go_loopw [16, 73] (fun v16 v73 wx => ∃ (q : Nat) (l : List Int), q ≤ i.code.length ∧ v73 = .int .i64 (q : Int) ∧ Below wo.heap.size wo wx ∧ wx.ownsRow wo.heap.size 5 1 (.slice A3 i.code.length c3) i.code.length (l.map u8V)) (fun _ v73 _ => i.code.length - (intOf v73).toNat)
      case atStart => exact ⟨0, _, by omega, rfl, HB7.out, HO3.out⟩
      case round =>
        obtain ⟨q, l3, hq, rfl, hbq, hoq⟩ := hrel
        by_cases hqm : q < i.code.length
        case pos =>
          have z0 : (0 : Int) ≤ (q : Int) := Int.natCast_nonneg _
          have z1 : (q : Int) < (i.code.length : Int) := by omega
          obtain ⟨g3, rfl, hg3, hg3'⟩ := own_some hoq (by omega)
          obtain ⟨x, _, q1, q2⟩ := own_cellM hoq hqm
          have HO := hid (fun x => (own_storeM hoq q x).1)
          have HB := hid (fun x => hbq.setCell (p := ⟨g3, q, none⟩) hg3 (u8V x))
          clear hoq hbq hg3 hg3'
          go_wp2_with fail
          go_roundw
          case rel => exact ⟨q + 1, _, by omega, by go_num, HB.out _, HO.out _⟩
          case measure => simp [intOf]; omega
        obtain rfl : q = i.code.length := by omega
        have hv := HVk.out.belowS hbq
        have i5 := hid (hv.tick HI.out dEx ht0 (by omega))
        have i6 := hid (fun W s' ss' Y (h : VT w2 g gs gb gu i exCV s' ss' s ss Y W) => h.swap.tick HI.out dEx ht0 (by omega))
        have htt := tick_ticks i exCV s ss
        have hkk := (tickF_keeps (cs := exCV) hv.fine hv.k).2.2.2
        obtain ⟨r, hr⟩ : ∃ r, tickF i exCV s ss = r := ⟨_, rfl⟩
        rw [hr] at i5 htt hkk
        simp only [hr] at i6
        have htr : Hid (0 ≤ r.1.ticks ∧ r.1.ticks ≤ (k : Int) + 1) := hid (by rw [htt]; split <;> omega)
        obtain ⟨s', ss', sent, cf⟩ := r
        simp only at i5 i6 htr hkk
        have hsl : sent.length ≤ 1000000 := by have := HI.out.2.2.2.2.1; omega
        obtain ⟨N, hN⟩ : ∃ N, sent.length = N := ⟨_, rfl⟩
        rw [hN] at i5 i6 hsl
        unfold outV at i5 i6
        clear hv hoq hbq htt hr ht0 ht1 hkk
        have HN := hid hN
        clear hN
        go_wp2_with fail
        refine i5.out.mono ?_
        rintro e w8 ⟨A8, c8, rfl, hv8, hs8, hz8, _⟩
        have i7 := hid (i6.out _ _ _ _ hv8)
        have HS8 := hid hs8
        clear hv8 hs8 i5 i6
        go_wp2_with fail
        refine i7.out.mono ?_
        rintro e w9 ⟨A9, c9, rfl, hv9, hs9, hz9, hk9⟩
        have hs8' := own_keep HS8.out fun b hb => hk9 b (.inr hb)
        have HR8 := hid (rdsSent (Reads.of_own hs8'))
        have HR9 := hid (rdsSent (Reads.of_own hs9))
        have HV9 := hid ((hv9.less (Z := fun _ => False) (fun _ h => h.elim)).swap)
        clear hv9 hs9 hk9 hs8' i7 hz8 hz9
        go_wp2_with fail
        obtain ⟨wB, hwB, hbB⟩ : ∃ W, (w9.alloc (.cells #[.slice A8 N c8, .bool cf] 46)).alloc (.cells #[.slice A9 N c9, .bool cf] 46) = W ∧ Below w9.heap.size w9 W := ⟨_, rfl, bel_alloc (below_alloc1 w9 _) _⟩
        rw [hwB]
        clear hwB
        refine (sameSent_any sent A8 A9 N c8 c9 wB ((HR8.out.belowS hbB)) ((HR9.out.belowS hbB)) hsl).mono ?_
        rintro e w10 ⟨rfl, hb10⟩
        have HV10 := hid (HV9.out.belowS (bel_trans hbB hb10))
        have i9 := hid (HV10.out.state HI.out)
        have i10 := hid (fun W (hb : Below w10.heap.size w10 W) => (HV10.out.swap.belowS hb).state HI.out)
        have hsx : s'.stack.length ≤ 1000000 := by have := HV10.out.fine.len; omega
        have hmx : s'.mem.length ≤ 1000000 := by have := HV10.out.fine.mlen; have := HMM.out; omega
        clear hbB hb10
        go_wp2_with fail
        refine i9.out.mono ?_
        rintro e w11 ⟨B1, d1, B2, d2, rfl, hq1, hq2, hb11⟩
        have HQ1 := hid (Reads.of_own hq1)
        have HQ2 := hid (Reads.of_own hq2)
        have HB11 := hid hb11
        clear hq1 hq2 hb11 i9
        go_wp2_with fail
        refine (i10.out _ HB11.out).mono ?_
        rintro e w12 ⟨C1, e1, C2, e2, rfl, hq3, hq4, hb12⟩
        have i11 := hid (sameSt_any s' B1 d1 B2 d2 C1 e1 C2 e2 w12 (HQ1.out.belowS hb12) (HQ2.out.belowS hb12) (Reads.of_own hq3) (Reads.of_own hq4) hsx hmx)
        have HB12 := hid (bel_trans HB11.out hb12)
        clear hq3 hq4 hb12 i10
        go_wp2_with fail
        refine i11.out.mono ?_
        rintro e w13 ⟨rfl, hb13⟩
        have HV13 := hid (HV10.out.belowS (bel_trans HB12.out hb13))
        clear hb13
        go_wp2_with fail
        go_roundw
        case rel => exact ⟨k + 1, s', ss', by omega, by go_num, HV13.out, htr.out.1, by have := htr.out.2; omega⟩
        case measure => simp [intOf]; omega
end Go.Proofs.Ytidlahljhgglcaa
