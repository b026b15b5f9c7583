/-
  Law 17: VmBounds and VmSends walked.
-/
import Derived.Test.YtidlahljhgglcaaVmWakes
import Derived.Test.YtidlahljhgglcaaRef06R
import Derived.Test.YtidlahljhgglcaaOpenImgV
import Derived.Deep.OwnRows
namespace Go.Proofs.Ytidlahljhgglcaa
open Go.RowKit Go.ChangeShapes Go.WideShapes Go.ChangeAt

theorem tick_ticks (i : ImgS) (cs : List ChanS) (s : VmS) (ss : Nat → WayS) : (tickF i cs s ss).1.ticks = if s.fault = 0 then s.ticks + 1 else s.ticks := by
  unfold tickF
  by_cases h : s.fault = 0
  · rw [if_neg (by simp [h]), if_pos h]
  · rw [if_pos h, if_neg h]
theorem tick_stays (i : ImgS) (cs : List ChanS) (s : VmS) (ss : Nat → WayS) (h : s.fault ≠ 0) : tickF i cs s ss = (s, ss, [], false) := by unfold tickF; rw [if_pos h]
theorem u8_natV {d : Int} (hd : (Lit.int .u8 d).wf = true) : ∃ m : Nat, d = (m : Int) ∧ m < 256 := by
  have := bounds_u8 hd
  exact ⟨d.toNat, by omega, by omega⟩
theorem VS.was {w0 w w6 : World} {g gs : Nat} {i : ImgS} {cs : List ChanS} {s : VmS} {ss : Nat → WayS} {X : Nat → Prop} (h : VS w0 g gs i cs s ss X w) (hb : Below w.heap.size w w6) {T : TypeId} {A1 A2 : Option Addr} {n1 c1 n2 c2 : Nat} {xs ys : List Value} (h1 : w6.ownsRow w.heap.size T 1 (.slice A1 n1 c1) n1 xs) (h2 : w6.ownsRow w.heap.size T 1 (.slice A2 n2 c2) n2 ys) (o : Obj) :
    VS w0 g gs i cs s ss (fun b => b = w6.heap.size ∨ Foot A1 b ∨ Foot A2 b) (w6.alloc o) := by
  refine h.fresh (bel_alloc hb o) fun b hb' => .inr ?_
  have hs := hb.size
  rcases hb' with rfl | h9 | h9
  · exact ⟨hs, by simp⟩
  · have := h1.lt b (ownBlock_foot.2 h9)
    exact ⟨this.1, by simp; omega⟩
  · have := h2.lt b (ownBlock_foot.2 h9)
    exact ⟨this.1, by simp; omega⟩
theorem readsMade (w : World) (n : Nat) (T : TypeId) : Reads (w.alloc (.cells (madeCells #[.int .i64 0] n) T)) (w.heap.size + 1) 1 (some ⟨w.heap.size, 0, none⟩) n ((List.replicate n (0 : Int)).map iV) := by
  have h := (Reads.lit (n := n) (size := 1) (heap_alloc_new w (.cells (madeCells #[.int .i64 0] n) T)) (by simp [madeCells])).more (B' := w.heap.size + 1) (by simp)
  rw [toList_madeCells_one] at h
  simpa [iV] using h
theorem readsMade' (w : World) (n : Nat) (T : TypeId) : Reads (w.alloc (.cells (madeCells #[.int .i64 0] n) T)) (w.alloc (.cells (madeCells #[.int .i64 0] n) T)).heap.size 1 (some ⟨w.heap.size, 0, none⟩) n ((List.replicate n (0 : Int)).map iV) := by
  have := readsMade w n T
  simpa using this
theorem stateFresh {w0 w : World} {g gs : Nat} {i : ImgS} {cs : List ChanS} {m : Nat} {ss : Nat → WayS} {X : Nat → Prop} (h : VS w0 g gs i cs (freshS m) ss X w) (hI : RightI i) :
    Calls Try.prog 16 #[.pointer (some ⟨g, 0, none⟩)] w fun e w' => ∃ A1 c1 A2 c2, e = .returned (.agg #[.int .i64 0, .slice A1 0 c1, .slice A2 m c2, .int .i64 0, .int .i64 0]) ∧ w'.ownsRow w.heap.size 3 1 (.slice A1 0 c1) 0 [] ∧ w'.ownsRow w.heap.size 3 1 (.slice A2 m c2) m ((List.replicate m (0 : Int)).map iV) ∧ Below w.heap.size w w' := by
  have := h.state hI
  simpa [stateV, freshS] using this
theorem sameFresh (m : Nat) (hm : m ≤ 16) (w : World) (A1 : Option Addr) (c1 : Nat) (A2 : Option Addr) (h2 : Reads w w.heap.size 1 A2 m ((List.replicate m (0 : Int)).map iV)) (c2 : Nat) (B2 : Option Addr) (h4 : Reads w w.heap.size 1 B2 m ((List.replicate m (0 : Int)).map iV)) :
    Calls Try.prog 18 #[.agg #[.int .i64 0, .slice A1 0 c1, .slice A2 m c2, .int .i64 0, .int .i64 0], .agg #[.int .i64 0, .slice none 0 0, .slice B2 m m, .int .i64 0, .int .i64 0]] w fun e w' => e = .returned (.bool true) ∧ Below w.heap.size w w' := by
  have := sameSt_any (freshS m) A1 c1 A2 c2 none 0 B2 m w ⟨by simp [freshS], fun h9 => absurd h9 (by simp [freshS])⟩ (by simpa [freshS] using h2) ⟨by simp [freshS], fun h9 => absurd h9 (by simp [freshS])⟩ (by simpa [freshS] using h4) (by simp [freshS]) (by simp [freshS]; omega)
  simpa [stateV, freshS] using this
set_option maxRecDepth 100000 in
set_option maxHeartbeats 4000000 in
theorem vmBounds_any (w : World) (i : ImgS) (A : Option Addr) (c : Nat) (hi : ImgCame w i A c) (n : Int) (hn : (Lit.int .u8 n).wf = true) :
    Calls Try.prog 3 #[imgV i A c, .int .u8 n] w fun e w' => e = .returned (.bool true) ∧ Below w.heap.size w w' := by
  obtain ⟨n, rfl, hn256⟩ := u8_natV hn
  have hcl : i.code.length ≤ 9223372036854775807 := by have := hi.hc; have := hi.hm; unfold maxLen at this; omega
  obtain ⟨w1, hw1, hb1, hB1, hs1⟩ := img_in i A c w
  obtain ⟨c0, c1, c2, c3, c4, c5, c6, c7⟩ := img_cells hB1
  have HX1 := hid hB1
  have HB1 := hid hb1
  have HRD := hid hi.rd
  by_cases hR : rightI i = true
  case neg =>
    have hR' : rightI i = false := by simpa using hR
    have i1 := hid (fun w => vmNew_bad i A c w hcl hR')
    have i2 := hid (fun w => refRightI_any i A c w hcl)
    rw [hR'] at i2
    unfold imgV at i1 i2 ⊢
    clear hb1 hB1 hi hR hR' hs1 HRD
    go_enter Try.func3, Try.ntmps3
    go_wp2_with fail
    refine (wakesV_any _).mono ?_
    rintro e w2 ⟨rfl, hb2⟩
    have hX2 := HX1.out.belowS hb2
    clear c0 c1 c2 c3 c4 c5 c6 c7
    obtain ⟨c0, c1, c2, c3, c4, c5, c6, c7⟩ := img_cells hX2
    have HB2 := hid (bel_trans HB1.out hb2)
    have HX2 := hid hX2
    clear hX2 hb2
    go_wp2_with fail
    refine (i1.out _).mono ?_
    rintro e w3 ⟨rfl, hb3⟩
    have hX3 := HX2.out.belowS hb3
    clear c0 c1 c2 c3 c4 c5 c6 c7
    obtain ⟨c0, c1, c2, c3, c4, c5, c6, c7⟩ := img_cells hX3
    have HB3 := hid (bel_trans HB2.out hb3)
    clear hX3 hb3
    go_wp2_with fail
    refine (i2.out _).mono ?_
    rintro e w4 ⟨rfl, hb4⟩
    go_wp2_with fail
    go_ret
    exact ⟨rfl, bel_trans HB3.out hb4⟩
  have hRI := (rightI_iff i).1 hR
  have i1 := hid (fun w (h : Reads w w.heap.size 1 A i.code.length (i.code.map bV)) => vmNew_ok i A c w h hR)
  obtain ⟨mm, hmm⟩ : ∃ mm : Nat, i.mem = (mm : Int) := ⟨i.mem.toNat, by have := hRI.2.2.2.1; omega⟩
  have hmm16 : mm ≤ 16 := by have := hRI.2.2.2.1; omega
  have HI := hid hRI
  have HMM := hid hmm
  unfold imgV at i1 ⊢
  clear hb1 hB1 hi hR hRI hmm hs1
  go_enter Try.func3, Try.ntmps3
  go_wp2_with fail
  refine (wakesV_any _).mono ?_
  rintro e w2 ⟨rfl, hb2⟩
  have hX2 := HX1.out.belowS hb2
  clear c0 c1 c2 c3 c4 c5 c6 c7
  obtain ⟨c0, c1, c2, c3, c4, c5, c6, c7⟩ := img_cells hX2
  have HB2 := hid (bel_trans HB1.out hb2)
  have HX2 := hid hX2
  clear hX2 hb2
  go_wp2_with fail
  refine (i1.out _ (HRD.out.belowS HB2.out)).mono ?_
  rintro e w3 ⟨F1, g, rfl, hM, hb3, hF1⟩
  have hX3 := HX2.out.belowS hb3
  clear c0 c1 c2 c3 c4 c5 c6 c7
  obtain ⟨c0, c1, c2, c3, c4, c5, c6, c7⟩ := img_cells hX3
  have HX3 := hid hX3
  have HM := hid hM
  have HB3 := hid hb3
  have HF1 := hid hF1
  clear hX3 hb3 hM hF1 i1
  go_wp2_with fail
  refine (exampleV_any _).mono ?_
  rintro e w4 ⟨⟨A1, k1, A2, k2, A3, k3, rfl, hT⟩, hb4⟩
  have i2 := hid (New_ok exTV ⟨A1, k1, A2, k2, A3, k3⟩ w4 hT exTVr)
  clear hT
  go_wp2_with fail
  refine i2.out.mono ?_
  rintro e w5 ⟨F2, gs, rfl, hS, hb5, hF2⟩
  have hX5 := HX3.out.belowS (bel_trans hb4 hb5)
  have hv : VS w2 g gs i exCV (freshS i.mem.toNat) (zeroW exCV) (fun _ => False) w5 := VS.start HI.out HB3.out HM.out HF1.out (bel_trans hb4 hb5) hS (fun b hb => Nat.le_trans hb4.size (hF2 b hb)) (by decide)
  have HV := hid hv
  have HX5 := hid hX5
  clear i2 hb4 hb5 hF2 hS hv hX5 HM HF1 c0 c1 c2 c3 c4 c5 c6 c7
  have hmod : Hid (((n : Int) % 50) = ((n % 50 : Nat) : Int)) := hid (by omega)
  have hm50 : n % 50 < 50 := Nat.mod_lt _ (by decide)
  -- BODY
  obtain ⟨m, hm⟩ : ∃ m, n % 50 = m := ⟨_, rfl⟩
  rw [hm] at hmod hm50
  clear hm
  go_wp2_with fail
  simp only [hmod.out]
  go_loopw [9, 10, 12, 33] (fun v9 v10 v12 v33 wr => ∃ (k : Nat) (s : VmS) (ss : Nat → WayS), k ≤ m ∧ v33 = .int .i64 (k : Int) ∧ VS w2 g gs i exCV s ss (fun _ => False) wr ∧ 0 ≤ s.ticks ∧ s.ticks ≤ k) (fun _ _ _ v33 _ => m - (intOf v33).toNat)
  case atStart => exact ⟨0, _, _, by omega, rfl, HV.out, by simp [freshS], by simp [freshS]⟩
  case round =>
    obtain ⟨k, s, ss, hk, rfl, hv, ht0, ht1⟩ := hrel
    by_cases hkm : k < m
    case neg =>
      obtain rfl : k = m := by omega
      have HBF := hid (bel_trans HB2.out hv.bel)
      have HV9 := hid hv
      have i4 := hid (hv.reset HI.out)
      clear hv
      go_wp2_with fail
      refine i4.out.mono ?_
      rintro e w7 ⟨rfl, hv7, _, _⟩
      have hfm : freshS i.mem.toNat = freshS mm := by rw [HMM.out]; simp
      rw [hfm] at hv7
      have hm16 : ((freshS mm).mem.length) = mm := by simp [freshS]
      have i5 := hid (fun W (h : VS w2 g gs i exCV (freshS mm) ss (fun _ => False) W) => stateFresh h HI.out)
      have i6 := hid (sameFresh mm hmm16)
      have hX7 : Blk w7 w.heap.size 24 (imgC i A c) := HX2.out.belowS hv7.bel
      have c3 : w7.cell? ⟨w.heap.size, 3, none⟩ = some (.int .i64 (mm : Int)) := by rw [← HMM.out]; exact hX7.cellAt rfl
      have hmk := run_make_row' (P := Try.prog) 40 3 (.int .i64 0) 8 Try.underlying40 info_int rfl .i64 .i64 mm (by omega) (by omega)
      have HV7 := hid hv7
      have HB7 := hid (bel_trans HB2.out hv7.bel)
      have HX7 := hid hX7
      clear hv7 hX7 hm16 hfm i4
      go_wp2_with fail
      go_region_held3 (fun w' => w'.cell? ⟨w.heap.size, 3, none⟩ = some (.int .i64 (mm : Int))) (go_keep) (first
        | (go_at_call 16; refine (i5.out _ ?_).mono ?_; (first | exact HV7.out | exact HV7.out.belowS (bel_drewV (Below.refl _ _)) | exact HV7.out.belowS (below_alloc1 _ _) | exact HV7.out.belowS (bel_drewV (below_alloc1 _ _))); rintro e w8 ⟨A1, c1, A2, c2, rfl, ho1, ho2, hb8⟩; have hbx : Below w7.heap.size w7 w8 := (by first | exact bel_trans (Below.refl _ _) hb8 | exact bel_trans (bel_drewV (Below.refl _ _)) hb8 | exact bel_trans (below_alloc1 _ _) hb8 | exact bel_trans (bel_drewV (below_alloc1 _ _)) hb8); have r3 : w8.cell? ⟨w.heap.size, 3, none⟩ = some (.int .i64 (mm : Int)) := (by rw [← HMM.out]; exact (HX7.out.belowS hbx).cellAt rfl); have hr2 := Reads.of_own ho2; have hrm := readsMade' w8 mm 3; (try first | have hrb := (Reads.drew (readsMade' w7 mm 3)).belowS hb8 | have hrb := (readsMade' w7 mm 3).belowS hb8); have hw9 : Below w8.heap.size w8 (w8.alloc (.cells (madeCells #[.int .i64 0] mm) 3)) := (below_alloc1 _ _))
        | (go_at_call 18; refine (i6.out _ _ _ _ ?_ _ _ ?_).mono ?_; (first | exact hr2.belowS hw9 | exact hr2); (first | exact hrm | exact hrb); rintro e w9 ⟨rfl, hb9⟩; have hby : Below w7.heap.size w7 w9 := (by first | exact bel_trans (bel_trans hbx hw9) hb9 | exact bel_trans hbx hb9); have r9 : w9.cell? ⟨w.heap.size, 3, none⟩ = some (.int .i64 (mm : Int)) := (by rw [← HMM.out]; exact (HX7.out.belowS hby).cellAt rfl); have HB9 := hid (bel_trans HB7.out hby)))
      all_goals
        go_wp2_with fail
        go_ret
        exact ⟨rfl, HB9.out⟩
    have y0 : decide ((k : Int) < (m : Int)) = true := decide_eq_true (by omega)
    have y0' : decide (k < m) = true := decide_eq_true hkm
    have i3 := hid (hv.state HI.out)
    have HVk := hid hv
    clear hv
    go_wp2_with fail
    refine i3.out.mono ?_
    rintro e w6 ⟨A1, c1, A2, c2, rfl, ho1, ho2, hb6⟩
    have hn1' : s.mem.length = mm := by have := HVk.out.fine.mlen; rw [HMM.out] at this; omega
    rw [hn1'] at ho2
    obtain ⟨N1, hN1⟩ : ∃ N1, s.stack.length = N1 := ⟨_, rfl⟩
    rw [hN1] at ho1
    have hvw := HVk.out.was hb6 ho1 ho2 (.cells #[.int .i64 s.pc, .slice A1 N1 c1, .slice A2 mm c2, .int .i64 s.ticks, .int .i64 s.fault] 42)
    have hW6 := Blk.new w6 42 [.int .i64 s.pc, .slice A1 N1 c1, .slice A2 mm c2, .int .i64 s.ticks, .int .i64 s.fault]
    have i7 := hid (hvw.tick HI.out dEx ht0 (by omega))
    have htt := tick_ticks i exCV s ss
    have hst := tick_stays i exCV s ss
    obtain ⟨r, hr⟩ : ∃ r, tickF i exCV s ss = r := ⟨_, rfl⟩
    rw [hr] at i7 htt hst
    obtain ⟨s', ss', sent, cf⟩ := r
    simp only at i7 htt
    have HO1 := hid ho1
    have HO2 := hid ho2
    have HW6 := hid hW6
    have HB6 := hid (below_alloc1 w6 (.cells #[.int .i64 s.pc, .slice A1 N1 c1, .slice A2 mm c2, .int .i64 s.ticks, .int .i64 s.fault] 42))
    have HST : Hid (s.fault ≠ 0 → s' = s) := hid (fun h => congrArg (fun x => x.1) (hst h))
    have HTT := hid htt
    clear hvw ho1 ho2 hb6 hr hst htt i3 hW6
    unfold stateV
    rw [hn1', hN1]
    have HN1 := hid hN1
    have HM1 := hid hn1'
    clear hN1 hn1'
    go_wp2_with fail
    refine i7.out.mono ?_
    rintro e w7 ⟨A7, c7', rfl, hv7, _, _, _, hsz7, hk7⟩
    have i8 := hid (hv7.state HI.out)
    have HV7 := hid hv7
    have HK7 := hid hk7
    have hn2 : s'.mem.length = mm := by have := hv7.fine.mlen; rw [HMM.out] at this; omega
    have hN8 : s'.stack.length ≤ 8 := hv7.fine.len
    unfold outV
    clear i7 hv7 hk7
    go_wp2_with fail
    refine i8.out.mono ?_
    rintro e w8 ⟨A3, c3, A4, c4, rfl, ho3, ho4, hb8⟩
    unfold stateV
    obtain ⟨N, hN⟩ : ∃ N, s'.stack.length = N := ⟨_, rfl⟩
    rw [hN] at ho3 hN8 ⊢
    rw [hn2] at ho4 ⊢
    obtain ⟨wB, hwB, hbB, hBB⟩ : ∃ W, w8.alloc (.cells #[.int .i64 s'.pc, .slice A3 N c3, .slice A4 mm c4, .int .i64 s'.ticks, .int .i64 s'.fault] 42) = W ∧ Below w8.heap.size w8 W ∧ Blk W w8.heap.size 42 [.int .i64 s'.pc, .slice A3 N c3, .slice A4 mm c4, .int .i64 s'.ticks, .int .i64 s'.fault] := ⟨_, rfl, below_alloc1 _ _, Blk.new _ _ [.int .i64 s'.pc, .slice A3 N c3, .slice A4 mm c4, .int .i64 s'.ticks, .int .i64 s'.fault]⟩
    have hb7B : Below w7.heap.size w7 wB := bel_trans hb8 hbB
    have hkB : ∀ b, (b = w6.heap.size ∨ Foot A1 b ∨ Foot A2 b) → wB.heap[b]? = (w6.alloc (.cells #[.int .i64 s.pc, .slice A1 N1 c1, .slice A2 mm c2, .int .i64 s.ticks, .int .i64 s.fault] 42)).heap[b]? := fun b hb => by
      obtain ⟨_, _, _, _, _, _, _, h9⟩ := HV7.out.ex
      exact (hb7B.block b (h9 b hb).1).trans (HK7.out b hb)
    have hX7 : Blk w7 w.heap.size 24 (imgC i A c) := HX2.out.belowS HV7.out.bel
    have e3 : wB.cell? ⟨w.heap.size, 3, none⟩ = some (.int .i64 (mm : Int)) := by rw [← HMM.out]; exact (hX7.belowS hb7B).cellAt rfl
    have hWas : Blk wB w6.heap.size 42 [.int .i64 s.pc, .slice A1 N1 c1, .slice A2 mm c2, .int .i64 s.ticks, .int .i64 s.fault] := (hkB _ (.inl rfl)).trans HW6.out
    have f0 : wB.cell? ⟨w6.heap.size, 0, none⟩ = some (.int .i64 s.pc) := hWas.cellAt rfl
    have f1 : wB.cell? ⟨w6.heap.size, 1, none⟩ = some (.slice A1 N1 c1) := hWas.cellAt rfl
    have f2 : wB.cell? ⟨w6.heap.size, 2, none⟩ = some (.slice A2 mm c2) := hWas.cellAt rfl
    have f3 : wB.cell? ⟨w6.heap.size, 3, none⟩ = some (.int .i64 s.ticks) := hWas.cellAt rfl
    have f4 : wB.cell? ⟨w6.heap.size, 4, none⟩ = some (.int .i64 s.fault) := hWas.cellAt rfl
    have g0 : wB.cell? ⟨w8.heap.size, 0, none⟩ = some (.int .i64 s'.pc) := hBB.cellAt rfl
    have g1 : wB.cell? ⟨w8.heap.size, 1, none⟩ = some (.slice A3 N c3) := hBB.cellAt rfl
    have g2 : wB.cell? ⟨w8.heap.size, 2, none⟩ = some (.slice A4 mm c4) := hBB.cellAt rfl
    have g3 : wB.cell? ⟨w8.heap.size, 3, none⟩ = some (.int .i64 s'.ticks) := hBB.cellAt rfl
    have g4 : wB.cell? ⟨w8.heap.size, 4, none⟩ = some (.int .i64 s'.fault) := hBB.cellAt rfl
    have z1 : decide ((8 : Int) < (N : Int)) = false := decide_eq_false (by omega)
    have z1' : decide (8 < N) = false := decide_eq_false (by omega)
    have z2 : ((mm : Int) != (mm : Int)) = false := by simp
    have hr1 : Reads wB wB.heap.size 1 A1 N1 (s.stack.map iV) := by
      refine Reads.of_own (own_keep HO1.out fun b hb => (hkB b (.inr (.inl hb))).trans (Below.heap_alloc _ _ _ (HO1.out.lt b (ownBlock_foot.2 hb)).2))
    have hr2 : Reads wB wB.heap.size 1 A2 mm (s.mem.map iV) := by
      refine Reads.of_own (own_keep HO2.out fun b hb => (hkB b (.inr (.inr hb))).trans (Below.heap_alloc _ _ _ (HO2.out.lt b (ownBlock_foot.2 hb)).2))
    have ho3' : wB.ownsRow w7.heap.size 3 1 (.slice A3 N c3) N (s'.stack.map iV) := own_keep ho3 fun b hb => hbB.block b (ho3.lt b (ownBlock_foot.2 hb)).2
    have ho4' : wB.ownsRow w7.heap.size 3 1 (.slice A4 mm c4) mm (s'.mem.map iV) := own_keep ho4 fun b hb => hbB.block b (ho4.lt b (ownBlock_foot.2 hb)).2
    have HR1 := hid hr1
    have HR2 := hid hr2
    have HO3 := hid ho3'
    have HO4 := hid ho4'
    have HB7B := hid hb7B
    have HN := hid hN
    have HM2 := hid hn2
    have hx8 : (w8.alloc (.cells #[.int .i64 s'.pc, .slice A3 N c3, .slice A4 mm c4, .int .i64 s'.ticks, .int .i64 s'.fault] 42)) = wB := hwB
    have HWAS := hid hWas
    have HBB := hid hBB
    clear hX7 hWas hBB hr1 hr2 ho3 ho4 ho3' ho4' hb7B hN hn2 hkB hb8 hbB hwB
    obtain ⟨t, ht⟩ : ∃ t : Nat, s.ticks = (t : Int) := ⟨s.ticks.toNat, by omega⟩
    have htk : t ≤ k := by omega
    obtain ⟨T, hT⟩ : ∃ T : Int, s'.ticks = T := ⟨_, rfl⟩
    have hTT : T = if s.fault = 0 then (t : Int) + 1 else (t : Int) := by rw [← hT, HTT.out, ht]
    have HT0 : Hid (0 ≤ s'.ticks ∧ s'.ticks ≤ (k : Int) + 1) := hid (by rw [hT, hTT]; split <;> omega)
    rw [hT] at hx8 g3 ⊢
    rw [ht] at f3
    obtain ⟨iI, hi0, hi1, hi2, hi3⟩ := info_parts info_int
    have hin : ∀ x ∈ s'.stack ++ s'.mem, InW x := fun x hx => (List.mem_append.1 hx).elim (HV7.out.fine.st x) (HV7.out.fine.me x)
    have HIN := hid hin
    have hr4 := Reads.of_own HO4.out
    have HR4 := hid hr4
    have h9 : w7.heap.size ≤ wB.heap.size := HB7B.out.size
    have HS9 := hid h9
    clear hin hr4 HTT ht0 ht1 h9
    have hT9 := hT
    clear hT
    by_cases hfa : s.fault = 0
    case' pos =>
      rw [hfa] at f4 hTT
      rw [if_pos rfl] at hTT
      subst hTT
      subst hx8
      clear g0 g4 f0 f1 f2
      go_wp2_with (at_builtin; refine wpList_app _ rfl (.tmp 80) (.tmp 82) _ rfl w7.heap.size 3 iI _ 1 8 Try.underlying40 hi0 hi1 hi2 hi3 rfl (by decide) (.slice A3 N c3) N (s'.stack.map iV) rfl HO3.out _ A4 mm c4 (s'.mem.map iV) rfl HR4.out (oneCell_is s'.mem) (by simp [maxLen]; omega) (by omega) HS9.out ?_; intro A9 c9 w9 hown9 hg9 _)
      have HB9 := hid (below_own HB7B.out HO3.out hg9 (Nat.le_refl _) HS9.out)
      clear z1 z1' z2 e3 f3 f4 g1 g2 g3
    case' neg =>
      have hss := HST.out hfa
      subst hss
      obtain rfl : T = (t : Int) := by rw [← hT9, ht]
      obtain rfl : N = N1 := by rw [← HN1.out, ← HN.out]
      have i9 := hid (sameSt_any s' A1 c1 A2 c2 A3 c3 A4 c4 wB (by rw [HN.out]; exact HR1.out) (by rw [HM1.out]; exact HR2.out) (by rw [HN.out]; exact Reads.of_own HO3.out) (by rw [HM1.out]; exact HR4.out) (by rw [HN.out]; omega) (by rw [HM1.out]; omega))
      unfold stateV at i9
      rw [HN.out, HM1.out, ht] at i9
      have zf : (s'.fault != 0) = true := by simpa using hfa
      have zf' : (s'.fault == 0) = false := by simpa using hfa
      clear hTT hT9
      subst hx8
      go_wp2_with fail
      refine i9.out.mono ?_
      rintro e wC ⟨rfl, hbC⟩
      have p4 : wC.cell? ⟨w6.heap.size, 4, none⟩ = some (.int .i64 s'.fault) := (HWAS.out.belowS hbC).cellAt rfl
      have q1 : wC.cell? ⟨w8.heap.size, 1, none⟩ = some (.slice A3 N c3) := (HBB.out.belowS hbC).cellAt rfl
      have q2 : wC.cell? ⟨w8.heap.size, 2, none⟩ = some (.slice A4 mm c4) := (HBB.out.belowS hbC).cellAt rfl
      have HOC := hid (own_keep HO3.out fun b hb => hbC.block b (HO3.out.lt b (ownBlock_foot.2 hb)).2)
      have HRC := hid (HR4.out.belowS hbC)
      have HBC := hid (bel_trans HB7B.out hbC)
      have HSC := hid (Nat.le_trans HS9.out hbC.size)
      clear hbC f0 f1 f2 f3 f4 g0 g1 g2 g3 g4 e3 i9 z1 z1' z2
      go_wp2_with (at_builtin; refine wpList_app _ rfl (.tmp 80) (.tmp 82) _ rfl w7.heap.size 3 iI _ 1 8 Try.underlying40 hi0 hi1 hi2 hi3 rfl (by decide) (.slice A3 N c3) N (s'.stack.map iV) rfl (by first | exact HOC.out | exact own_keep HOC.out (fun _ _ => rfl)) _ A4 mm c4 (s'.mem.map iV) rfl (by first | exact HRC.out | exact HRC.out.drew) (oneCell_is s'.mem) (by simp [maxLen]; omega) (by omega) (by first | exact HSC.out | exact Nat.le_trans HSC.out (Nat.le_refl _)) ?_; intro A9 c9 w9 hown9 hg9 _)
      have HB9 := hid (below_own HBC.out HOC.out hg9 (Nat.le_refl _) HSC.out)
      clear p4 q1 q2
    all_goals
      obtain ⟨M, hM⟩ : ∃ M, N + mm = M := ⟨_, rfl⟩
      have hr9 : Reads w9 w9.heap.size 1 A9 M ((s'.stack ++ s'.mem).map iV) := by rw [List.map_append, ← hM]; exact Reads.of_own hown9
      have HR9 := hid hr9
      have hV9 := HV7.out.belowS HB9.out
      have HV9 := hid (hV9.less (Y := fun _ => False) (fun _ h => h.elim))
      rw [hM]
      have HM := hid hM
      clear hr9 hV9 hown9 hg9 hM
      go_wp2_with fail
      go_loopw [12, 85] (fun v12 v85 wr => ∃ (j : Nat) (q : Nat), j ≤ M ∧ v85 = .int .i64 (j : Int) ∧ wr = w9.drewN q) (fun _ v85 _ => M - (intOf v85).toNat)
      case atStart => exact ⟨0, 0, by omega, rfl, rfl⟩
      case round =>
        obtain ⟨j, q, hj, rfl, rfl⟩ := hrel
        by_cases hjn : j < M
        case neg =>
          obtain rfl : j = M := by omega
          have HVx := hid (HV9.out.belowS (below_drewS q))
          have z8 : ¬ ((j : Int) < (N : Int) + (mm : Int)) := by have := HM.out; omega
          have z8' : decide ((j : Int) < (N : Int) + (mm : Int)) = false := decide_eq_false z8
          go_wp2_with fail
          all_goals first
            | (refine ⟨⟨k + 1, s', ss', by omega, by go_num, HVx.out, HT0.out.1, by have := HT0.out.2; omega⟩, ?_⟩; simp [intOf]; omega)
            | (exfalso; have := HM.out; omega)
        obtain ⟨ad, x, rfl, _, hx1, hc1⟩ := HR9.out.atM hjn
        obtain ⟨hx0, hx5⟩ : InW x := HIN.out x (List.mem_of_getElem? hx1)
        have z4 : (0 : Int) ≤ (j : Int) := Int.natCast_nonneg _
        have z5 : (j : Int) < (M : Int) := by omega
        have z5' : (j : Int) < (N : Int) + (mm : Int) := by have := HM.out; omega
        have z5'' : decide ((j : Int) < (N : Int) + (mm : Int)) = true := decide_eq_true z5'
        have z6 : decide (x < 0) = false := decide_eq_false (by omega)
        have z7 : decide ((65535 : Int) < x) = false := decide_eq_false (by omega)
        clear hx1 hx0 hx5
        go_wp2_with fail
        go_roundw
        case rel => exact ⟨j + 1, q, by omega, by go_num, rfl⟩
        case measure => simp [intOf]; omega
end Go.Proofs.Ytidlahljhgglcaa
