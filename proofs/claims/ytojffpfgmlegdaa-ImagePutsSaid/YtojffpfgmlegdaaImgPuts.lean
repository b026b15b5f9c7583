/-
  ImagePuts: any image is right, and has the bytes, as the document says; what is put is got, and its digest stands in it. For every input.
-/
import Derived.Test.YtojffpfgmlegdaaQi
import Derived.Test.YtojffpfgmlegdaaImgSameAll
import Derived.Test.YtojffpfgmlegdaaQj
import Derived.Test.YtojffpfgmlegdaaOpenImg
namespace Go.Proofs.Ytojffpfgmlegdaa
open Go.RowKit Go.ChangeShapes Go.WideShapes Go.ChangeAt
theorem bel_drewV {B : Nat} {w w' : World} (h : Below B w w') : Below B w w'.drew := ⟨h.os, h.tape, h.output, h.size, h.block⟩
theorem img_cellsP {w : World} {g : Nat} {A : Option Addr} {c : Nat} {p0 p1 p2 p3 p4 p5 p6 : Nat} {code : List UInt8} (h : Blk w g 41 (imgC ⟨(p0 : Int), (p1 : Int), (p2 : Int), (p3 : Int), (p4 : Int), (p5 : Int), (p6 : Int), code⟩ A c)) : w.cell? ⟨g, 0, none⟩ = some (.int .i64 (p0 : Int)) ∧ w.cell? ⟨g, 1, none⟩ = some (.int .i64 (p1 : Int)) ∧ w.cell? ⟨g, 2, none⟩ = some (.int .i64 (p2 : Int)) ∧ w.cell? ⟨g, 3, none⟩ = some (.int .i64 (p3 : Int)) ∧ w.cell? ⟨g, 4, none⟩ = some (.int .i64 (p4 : Int)) ∧ w.cell? ⟨g, 5, none⟩ = some (.int .i64 (p5 : Int)) ∧ w.cell? ⟨g, 6, none⟩ = some (.int .i64 (p6 : Int)) ∧ w.cell? ⟨g, 7, none⟩ = some (.slice A code.length c) :=
  ⟨h.cellAt rfl, h.cellAt rfl, h.cellAt rfl, h.cellAt rfl, h.cellAt rfl, h.cellAt rfl, h.cellAt rfl, h.cellAt rfl⟩
set_option maxRecDepth 100000 in
set_option maxHeartbeats 8000000 in
theorem iputs_no (w : World) (i : ImgS) (A : Option Addr) (c : Nat) (h : ImgCame w i A c) (hR : rightI i = false) :
    Calls Try.prog 10 #[imgV i A c] w fun e w' => e = .returned (.bool true) ∧ Below w.heap.size w w' := by
  obtain ⟨w1, hw1, hb1, hblk1, hs1⟩ := img_in i A c w
  have hcm := h.hm
  have hlc := h.hc
  unfold maxLen at hcm
  have ib := hid (fun w' => imgPut_no i A c w' (by omega) hR)
  have ir := hid (fun w' => imgRight_any i A c w' (by omega))
  have iq := hid (fun w' => refRightI_any i A c w' (by omega))
  rw [hR] at ir iq
  clear h hR
  unfold imgC at hblk1
  simp only [imgV] at ib ir iq ⊢
  go_enter Try.func10, Try.ntmps10
  go_wp2_with fail
  clear hw1 hs1
  refine (imgWakes_any _).mono ?_
  rintro e w2 ⟨rfl, hb2⟩
  have hblk2 := hblk1.belowS hb2
  have hb02 := bel_trans hb1 hb2
  obtain ⟨c0, c1, c2, c3, c4, c5, c6, c7⟩ := img_cells hblk2
  clear hblk1 hb1 hb2
  by_cases h500 : 500 < i.code.length
  · have g1 : decide ((500 : Int) < (i.code.length : Int)) = true := decide_eq_true (by omega)
    clear h500
    go_wp2_with fail
    go_ret
    exact ⟨rfl, hb02⟩
  have g1 : decide ((500 : Int) < (i.code.length : Int)) = false := decide_eq_false (by omega)
  clear h500
  go_wp2_with fail
  refine (ib.out w2).mono ?_
  rintro e w3 ⟨rfl, hb3⟩
  have hblk3 := hblk2.belowS hb3
  have hb03 := bel_trans hb02 hb3
  clear c0 c1 c2 c3 c4 c5 c6 c7 hblk2 hb02 hb3 ib g1
  obtain ⟨c0, c1, c2, c3, c4, c5, c6, c7⟩ := img_cells hblk3
  go_wp2_with fail
  refine (iq.out w3).mono ?_
  rintro e w4 ⟨rfl, hb4⟩
  have hblk4 := hblk3.belowS hb4
  have hb04 := bel_trans hb03 hb4
  clear c0 c1 c2 c3 c4 c5 c6 c7 hblk3 hb03 hb4 iq
  obtain ⟨c0, c1, c2, c3, c4, c5, c6, c7⟩ := img_cells hblk4
  go_wp2_with fail
  refine (ir.out w4).mono ?_
  rintro e w5 ⟨rfl, hb5⟩
  have hfin := hid (bel_trans hb04 hb5)
  go_wp2_with fail
  go_ret
  exact ⟨rfl, hfin.out⟩
set_option maxRecDepth 100000 in
set_option maxHeartbeats 40000000 in
theorem iputs_yes (w : World) (p0 p1 p2 p3 p4 p5 p6 : Nat) (code : List UInt8) (A : Option Addr) (c : Nat) (h : ImgCame w ⟨(p0 : Int), (p1 : Int), (p2 : Int), (p3 : Int), (p4 : Int), (p5 : Int), (p6 : Int), code⟩ A c) (hR : RightI ⟨(p0 : Int), (p1 : Int), (p2 : Int), (p3 : Int), (p4 : Int), (p5 : Int), (p6 : Int), code⟩) :
    Calls Try.prog 10 #[.agg #[.int .i64 (p0 : Int), .int .i64 (p1 : Int), .int .i64 (p2 : Int), .int .i64 (p3 : Int), .int .i64 (p4 : Int), .int .i64 (p5 : Int), .int .i64 (p6 : Int), .slice A code.length c]] w fun e w' => e = .returned (.bool true) ∧ Below w.heap.size w w' := by
  have hl96 : code.length ≤ 96 := by have := hR.2.2.2.2.2.2.2.2; simp only at this; omega
  have hri := (rightI_iff _).2 hR
  obtain ⟨w1, hw1, hb1, hblk1, hs1⟩ := img_in ⟨(p0 : Int), (p1 : Int), (p2 : Int), (p3 : Int), (p4 : Int), (p5 : Int), (p6 : Int), code⟩ A c w
  have hcm := h.hm
  have hlc := h.hc
  simp only at hlc
  have HRD : Hid (∀ w', Below w.heap.size w w' → Reads w' w'.heap.size 1 A code.length (code.map bV)) := hid (fun w' hb => h.rd.belowS hb)
  have io := hid (fun w' hr => imgPut_yes ⟨(p0 : Int), (p1 : Int), (p2 : Int), (p3 : Int), (p4 : Int), (p5 : Int), (p6 : Int), code⟩ A c w' hr hlc hcm hri)
  have ir := hid (fun w' => imgRight_any ⟨(p0 : Int), (p1 : Int), (p2 : Int), (p3 : Int), (p4 : Int), (p5 : Int), (p6 : Int), code⟩ A c w' (by simp only; omega))
  have iq := hid (fun w' => refRightI_any ⟨(p0 : Int), (p1 : Int), (p2 : Int), (p3 : Int), (p4 : Int), (p5 : Int), (p6 : Int), code⟩ A c w' (by simp only; omega))
  have iB := hid (fun w' hr => refBytesI_any p0 p1 p2 p3 p4 p5 p6 code A c w' hr hlc hcm hR)
  have iG := hid (fun A' c' w' => imgGet_back p0 p1 p2 p3 p4 p5 p6 code hR A' (49 + code.length) c' w' rfl)
  have iS := hid (fun A' c' w' h1 h2 => refSameI_any ⟨(p0 : Int), (p1 : Int), (p2 : Int), (p3 : Int), (p4 : Int), (p5 : Int), (p6 : Int), code⟩ ⟨(p0 : Int), (p1 : Int), (p2 : Int), (p3 : Int), (p4 : Int), (p5 : Int), (p6 : Int), code⟩ A' c' A c w' h1 h2 (by simp only; omega) (by simp only; omega))
  have iT := hid (fun A' c' w' h1 h2 l1 m1 => imgSame_any ⟨(p0 : Int), (p1 : Int), (p2 : Int), (p3 : Int), (p4 : Int), (p5 : Int), (p6 : Int), code⟩ ⟨(p0 : Int), (p1 : Int), (p2 : Int), (p3 : Int), (p4 : Int), (p5 : Int), (p6 : Int), code⟩ A' c' A c w' h1 h2 l1 hlc m1 hcm)
  rw [hri] at ir iq
  simp only [imgV, sameI_refl] at io ir iq iG iS iT
  have iD := hid (fun A' c' w' (h1 : Reads w' w'.heap.size 1 A' (49 + code.length) ((imgB ⟨(p0 : Int), (p1 : Int), (p2 : Int), (p3 : Int), (p4 : Int), (p5 : Int), (p6 : Int), code⟩).map bV)) (h2 : 49 + code.length ≤ c') (h3 : c' ≤ maxLen) => imgDigest_ok A' (13 + code.length) c' (imgB ⟨(p0 : Int), (p1 : Int), (p2 : Int), (p3 : Int), (p4 : Int), (p5 : Int), (p6 : Int), code⟩) w' (by rw [show 13 + code.length + 36 = 49 + code.length by omega]; exact h1) (by omega) (by omega) h3 ⟨(p0 : Int), (p1 : Int), (p2 : Int), (p3 : Int), (p4 : Int), (p5 : Int), (p6 : Int), code⟩ (fun w2 hb => by
    rw [show 13 + code.length + 36 = 49 + code.length by omega]
    exact imgGet_back p0 p1 p2 p3 p4 p5 p6 code hR A' (49 + code.length) c' w2 rfl h2 h3 (h1.belowS hb)))
  obtain ⟨D, hD⟩ : ∃ D, 13 + code.length = D := ⟨_, rfl⟩
  obtain ⟨M, hM⟩ : ∃ M, 45 + code.length = M := ⟨_, rfl⟩
  obtain ⟨N, hN⟩ : ∃ N, 49 + code.length = N := ⟨_, rfl⟩
  rw [hD] at iD
  rw [show D + 36 = N by omega] at iD
  rw [hN] at io iB iG iD
  have HDM : Hid (D + 32 = M) := hid (by omega)
  have HDN : Hid (D + 36 = N) := hid (by omega)
  generalize imgB ⟨(p0 : Int), (p1 : Int), (p2 : Int), (p3 : Int), (p4 : Int), (p5 : Int), (p6 : Int), code⟩ = PB at *
  have hD1 : D ≤ 200 := by omega
  have hM1 : M ≤ 200 := by omega
  have hN1 : N ≤ 160 := by omega
  have q1 : IntKind.i64.wrap ((N : Int) - 36) = (D : Int) := by rw [IntWalk.i64_in _ (by omega)]; omega
  have q2 : IntKind.i64.wrap ((N : Int) - 4) = (M : Int) := by rw [IntWalk.i64_in _ (by omega)]; omega
  have q3 : (0 : Int) ≤ (D : Int) := Int.natCast_nonneg _
  have q5 : (D : Int) ≤ (M : Int) := by omega
  have q7 : (0 : Int) ≤ (M : Int) := Int.natCast_nonneg _
  have q8 : (M : Int) ≤ (N : Int) := by omega
  have q10 : (D : Int) ≤ (N : Int) := by omega
  have g1 : decide ((500 : Int) < (code.length : Int)) = false := decide_eq_false (by omega)
  have g2 : decide ((N : Int) ≤ 160) = true := decide_eq_true (by omega)
  have g3 : decide (N ≤ 160) = true := decide_eq_true hN1
  clear h hR hri hD hM hN hl96 hlc hcm
  simp only [imgC] at hblk1
  simp only at hw1 hblk1
  go_enter Try.func10, Try.ntmps10
  go_wp2_with fail
  clear hw1 hs1
  refine (imgWakes_any _).mono ?_
  rintro e w2 ⟨rfl, hb2⟩
  have hblk2 := hblk1.belowS hb2
  have hb02 := bel_trans hb1 hb2
  obtain ⟨c0, c1, c2, c3, c4, c5, c6, c7⟩ := img_cellsP hblk2
  clear hblk1 hb1 hb2
  go_wp2_with fail
  refine (io.out w2 (HRD.out _ hb02)).mono ?_
  rintro e w3 ⟨A3, k3, rfl, hown3, hb3⟩
  have hblk3 := hblk2.belowS hb3
  have hb03 := bel_trans hb02 hb3
  have hcap3 := own_cap hown3
  have hR3 := Reads.of_own hown3
  obtain ⟨ad, rfl, had, -⟩ := hR3.form (by have := HDN.out; omega)
  have HC3 : Hid (N ≤ k3 ∧ k3 ≤ maxLen) := hid hcap3
  have HR3 : Hid (∀ w', Below w3.heap.size w3 w' → Reads w' w'.heap.size 1 (some ad) N (PB.map bV)) := hid (fun w' hb => hR3.belowS hb)
  have HR3c : Hid (∀ w', Below w3.heap.size w3 w' → Reads w' w'.heap.size 1 (some (ad.add D)) (M - D) (((PB.take M).drop D).map bV)) := hid (fun w' hb => by
    have hx := ((hR3.belowS hb).front (k := M) (by omega)).cut (k := D) (cap := k3) (by omega) (by omega)
    rw [Nat.mul_one, Nat.mul_one, ← List.map_take, ← List.map_drop, if_neg (by have := HDN.out; omega)] at hx
    exact hx)
  clear c0 c1 c2 c3 c4 c5 c6 c7 hblk2 hb02 hb3 io hown3 hR3
  obtain ⟨c0, c1, c2, c3, c4, c5, c6, c7⟩ := img_cellsP hblk3
  have q4 : (D : Int) ≤ (k3 : Int) := by omega
  have q6 : (M : Int) ≤ (k3 : Int) := by omega
  have q9 : (N : Int) ≤ (k3 : Int) := by omega
  have hkD : k3 ≠ D := by have := HDN.out; omega
  clear hcap3
  go_wp2_with fail
  refine (iq.out w3).mono ?_
  rintro e w4 ⟨rfl, hb4⟩
  have hblk4 := hblk3.belowS hb4
  have hb04 := bel_trans hb03 hb4
  have H34 := hid hb4
  clear c0 c1 c2 c3 c4 c5 c6 c7 hblk3 hb03 hb4 iq
  obtain ⟨c0, c1, c2, c3, c4, c5, c6, c7⟩ := img_cellsP hblk4
  go_wp2_with fail
  refine (iG.out _ _ w4 HC3.out.1 HC3.out.2 (HR3.out _ H34.out)).mono ?_
  rintro e w5 ⟨A5, k5, rfl, hown5, hb5⟩
  have hblk5 := hblk4.belowS hb5
  have hb05 := bel_trans hb04 hb5
  have H35 := hid (bel_trans H34.out hb5)
  have hcapx := own_cap hown5
  obtain ⟨w6, hw6, hb6, hp6, hs6⟩ := img_in ⟨(p0 : Int), (p1 : Int), (p2 : Int), (p3 : Int), (p4 : Int), (p5 : Int), (p6 : Int), code⟩ A5 k5 w5
  have hcap5 : Hid (code.length ≤ k5 ∧ k5 ≤ maxLen) := hid hcapx
  clear hcapx
  simp only at hw6
  have HW6 := hid hw6
  have hR6 := (Reads.of_own hown5).belowS hb6
  have hblk6 := hblk5.belowS hb6
  have hb06 := bel_trans hb05 hb6
  have H36 := hid (bel_trans H35.out hb6)
  clear c0 c1 c2 c3 c4 c5 c6 c7 hblk4 hb04 hb5 iG H34 hw6 hown5 H35 hblk5 hb05 hb6
  go_wp2_with fail
  rw [HW6.out]
  generalize w5.heap.size = g5 at *
  clear HW6
  have HZ := hid (iD.out _ _ w6 (HR3.out _ H36.out) HC3.out.1 HC3.out.2)
  obtain ⟨V, hV⟩ : ∃ V, (PB.drop D).take 32 = V := ⟨_, rfl⟩
  rw [hV] at HZ
  have hVl : V.length = 32 := by
    rw [← hV]
    have := (HR3.out _ H36.out).len
    rw [List.length_map] at this
    rw [List.length_take, List.length_drop]
    have := HDN.out
    omega
  have HV2 : Hid ((PB.take M).drop D = V) := hid (by rw [← hV, List.drop_take, ← HDM.out]; congr 1; omega)
  clear hV iD
  refine HZ.out.mono ?_
  rintro e w7 ⟨rfl, hb7⟩
  have hblk7 := hblk6.belowS hb7
  have hp7 := hp6.belowS hb7
  have hR7 := hR6.belowS hb7
  have hb07 := bel_trans hb06 hb7
  have H37 := hid (bel_trans H36.out hb7)
  obtain ⟨w8, hw8, hb8, hk8⟩ : ∃ w8 : World, w7.alloc (.cells (V.map bV).toArray 24) = w8 ∧ Below w7.heap.size w7 w8 ∧ Blk w8 w7.heap.size 24 (V.map bV) :=
    ⟨_, rfl, (Below.refl _ _).alloc (Nat.le_refl _) _, Blk.new w7 _ _⟩
  have HW8 := hid hw8
  have hz := zero32A_run
  have hzs := zero32A_size
  clear hb06 hb7 hblk6 hp6 hR6 H36 hw8 HZ
  go_wp2_with (refine wpList_store_row rfl 24 _ _ rfl w7.heap.size (V.map bV).toArray rfl rfl 24 zero32A (heap_alloc_new w7 _) (sh_info32 _ (by simp [hVl])) (by simp [hVl, zero32A_size]) (oneCell_by _) ?_; rw [World.setRow_alloc_new, HW8.out])
  have hsl := cutAll32 w7.heap.size
  have HX8 : Hid (∀ W, Below w8.heap.size w8 W → Blk W w.heap.size 41 (imgC ⟨(p0 : Int), (p1 : Int), (p2 : Int), (p3 : Int), (p4 : Int), (p5 : Int), (p6 : Int), code⟩ A c)) := hid (fun W hb => (hblk7.belowS hb8).belowS hb)
  have HP8 : Hid (∀ W, Below w8.heap.size w8 W → Blk W g5 41 (imgC ⟨(p0 : Int), (p1 : Int), (p2 : Int), (p3 : Int), (p4 : Int), (p5 : Int), (p6 : Int), code⟩ A5 k5)) := hid (fun W hb => (hp7.belowS hb8).belowS hb)
  have HK8 : Hid (∀ W, Below w8.heap.size w8 W → Reads W W.heap.size 1 (some ⟨w7.heap.size, 0, none⟩) 32 (V.map bV)) := hid (fun W hb => by
    have := (hk8.belowS hb).reads 32 (by simp [hVl])
    rwa [List.take_of_length_le (by simp [hVl])] at this)
  have HQ8 : Hid (∀ W, Below w8.heap.size w8 W → Reads W W.heap.size 1 A5 code.length (code.map bV)) := hid (fun W hb => (hR7.belowS hb8).belowS hb)
  have hb08 := hid (bel_trans hb07 hb8)
  have H38 := hid (bel_trans H37.out hb8)
  have HC5 := hid hcap5.out
  clear hz hzs HW8 hblk7 hp7 hR7 hb07 H37 hb8 hk8 hcap5
  generalize w7.heap.size = g7 at *
  obtain ⟨c0, c1, c2, c3, c4, c5, c6, c7⟩ := img_cellsP (HX8.out _ (Below.refl _ _))
  obtain ⟨d0, d1, d2, d3, d4, d5, d6, d7⟩ := img_cellsP (HP8.out _ (Below.refl _ _))
  go_region_held3 (fun w' => w'.cell? ⟨w.heap.size, 0, none⟩ = some (.int .i64 (p0 : Int)) ∧ w'.cell? ⟨w.heap.size, 1, none⟩ = some (.int .i64 (p1 : Int)) ∧ w'.cell? ⟨w.heap.size, 2, none⟩ = some (.int .i64 (p2 : Int)) ∧ w'.cell? ⟨w.heap.size, 3, none⟩ = some (.int .i64 (p3 : Int)) ∧ w'.cell? ⟨w.heap.size, 4, none⟩ = some (.int .i64 (p4 : Int)) ∧ w'.cell? ⟨w.heap.size, 5, none⟩ = some (.int .i64 (p5 : Int)) ∧ w'.cell? ⟨w.heap.size, 6, none⟩ = some (.int .i64 (p6 : Int)) ∧ w'.cell? ⟨w.heap.size, 7, none⟩ = some (.slice A code.length c) ∧ w'.cell? ⟨g5, 0, none⟩ = some (.int .i64 (p0 : Int)) ∧ w'.cell? ⟨g5, 1, none⟩ = some (.int .i64 (p1 : Int)) ∧ w'.cell? ⟨g5, 2, none⟩ = some (.int .i64 (p2 : Int)) ∧ w'.cell? ⟨g5, 3, none⟩ = some (.int .i64 (p3 : Int)) ∧ w'.cell? ⟨g5, 4, none⟩ = some (.int .i64 (p4 : Int)) ∧ w'.cell? ⟨g5, 5, none⟩ = some (.int .i64 (p5 : Int)) ∧ w'.cell? ⟨g5, 6, none⟩ = some (.int .i64 (p6 : Int)) ∧ w'.cell? ⟨g5, 7, none⟩ = some (.slice A5 code.length k5)) (go_keep) (first
    | (go_at_call 26; refine (ir.out _).mono ?_; rintro e wa ⟨rfl, hbq⟩; have hbn : Below w8.heap.size w8 wa := (by first | exact hbq | exact ⟨hbq.os, hbq.tape, hbq.output, hbq.size, hbq.block⟩); obtain ⟨xwa0, xwa1, xwa2, xwa3, xwa4, xwa5, xwa6, xwa7⟩ := img_cellsP (HX8.out _ hbn); obtain ⟨ywa0, ywa1, ywa2, ywa3, ywa4, ywa5, ywa6, ywa7⟩ := img_cellsP (HP8.out _ hbn); have Hwa := hid hbn; clear hbq hbn)
    | (go_at_call 28; refine (iB.out _ ?_).mono ?_; (refine HRD.out _ (bel_trans hb08.out ?_); (first | exact Hwa.out | exact bel_drewV Hwa.out)); rintro e wb ⟨AB, cB, rfl, hownB, hbq⟩; have hbn : Below w8.heap.size w8 wb := (by first | exact bel_trans Hwa.out hbq | exact bel_trans Hwa.out ⟨hbq.os, hbq.tape, hbq.output, hbq.size, hbq.block⟩); obtain ⟨xwb0, xwb1, xwb2, xwb3, xwb4, xwb5, xwb6, xwb7⟩ := img_cellsP (HX8.out _ hbn); obtain ⟨ywb0, ywb1, ywb2, ywb3, ywb4, ywb5, ywb6, ywb7⟩ := img_cellsP (HP8.out _ hbn); have HRB := hid (Reads.of_own hownB); have Hwb := hid hbn; clear hbq hbn hownB)
    | (go_at_call_of 13 (Value.slice (some ad) N k3); refine (same_b (some ad) AB N N k3 cB PB PB _ ?_ ?_ (by omega) (by omega)).mono ?_; (refine HR3.out _ (bel_trans H38.out ?_); (first | exact Hwb.out | exact bel_drewV Hwb.out)); (first | exact HRB.out | exact HRB.out.drew); rw [decide_eq_true (rfl : PB = PB)]; rintro e wc ⟨rfl, hbq⟩; have hbn : Below w8.heap.size w8 wc := (by first | exact bel_trans Hwb.out hbq | exact bel_trans Hwb.out ⟨hbq.os, hbq.tape, hbq.output, hbq.size, hbq.block⟩); obtain ⟨xwc0, xwc1, xwc2, xwc3, xwc4, xwc5, xwc6, xwc7⟩ := img_cellsP (HX8.out _ hbn); obtain ⟨ywc0, ywc1, ywc2, ywc3, ywc4, ywc5, ywc6, ywc7⟩ := img_cellsP (HP8.out _ hbn); have Hwc := hid hbn; clear hbq hbn)
    | (go_at_call 22; refine (iS.out _ _ _ ?_ ?_).mono ?_; (refine HQ8.out _ ?_; (first | exact Hwc.out | exact bel_drewV Hwc.out)); (refine HRD.out _ (bel_trans hb08.out ?_); (first | exact Hwc.out | exact bel_drewV Hwc.out)); rintro e wd ⟨rfl, hbq⟩; have hbn : Below w8.heap.size w8 wd := (by first | exact bel_trans Hwc.out hbq | exact bel_trans Hwc.out ⟨hbq.os, hbq.tape, hbq.output, hbq.size, hbq.block⟩); obtain ⟨xwd0, xwd1, xwd2, xwd3, xwd4, xwd5, xwd6, xwd7⟩ := img_cellsP (HX8.out _ hbn); obtain ⟨ywd0, ywd1, ywd2, ywd3, ywd4, ywd5, ywd6, ywd7⟩ := img_cellsP (HP8.out _ hbn); have Hwd := hid hbn; clear hbq hbn)
    | (go_at_call 21; refine (iT.out _ _ _ ?_ ?_ HC5.out.1 HC5.out.2).mono ?_; (refine HQ8.out _ ?_; (first | exact Hwd.out | exact bel_drewV Hwd.out)); (refine HRD.out _ (bel_trans hb08.out ?_); (first | exact Hwd.out | exact bel_drewV Hwd.out)); rintro e we ⟨rfl, hbq⟩; have hbn : Below w8.heap.size w8 we := (by first | exact bel_trans Hwd.out hbq | exact bel_trans Hwd.out ⟨hbq.os, hbq.tape, hbq.output, hbq.size, hbq.block⟩); obtain ⟨xwe0, xwe1, xwe2, xwe3, xwe4, xwe5, xwe6, xwe7⟩ := img_cellsP (HX8.out _ hbn); obtain ⟨ywe0, ywe1, ywe2, ywe3, ywe4, ywe5, ywe6, ywe7⟩ := img_cellsP (HP8.out _ hbn); have Hwe := hid hbn; clear hbq hbn)
    | (go_at_call_of 13 (Value.slice (some ⟨g7, 0, none⟩) 32 32); refine (same_b (some ⟨g7, 0, none⟩) (some (ad.add D)) 32 (M - D) 32 _ V ((PB.take M).drop D) _ ?_ ?_ (by omega) (by omega)).mono ?_; (refine HK8.out _ ?_; (first | exact Hwe.out | exact bel_drewV Hwe.out)); (refine HR3c.out _ (bel_trans H38.out ?_); (first | exact Hwe.out | exact bel_drewV Hwe.out)); rw [HV2.out, decide_eq_true (rfl : V = V)]; rintro e wf ⟨rfl, hbq⟩; have hbn : Below w8.heap.size w8 wf := (by first | exact bel_trans Hwe.out hbq | exact bel_trans Hwe.out ⟨hbq.os, hbq.tape, hbq.output, hbq.size, hbq.block⟩); obtain ⟨xwf0, xwf1, xwf2, xwf3, xwf4, xwf5, xwf6, xwf7⟩ := img_cellsP (HX8.out _ hbn); obtain ⟨ywf0, ywf1, ywf2, ywf3, ywf4, ywf5, ywf6, ywf7⟩ := img_cellsP (HP8.out _ hbn); have Hwf := hid hbn; clear hbq hbn))
  have hfin := hid (bel_trans hb08.out Hwf.out)
  go_wp2_with fail
  go_ret
  exact ⟨rfl, hfin.out⟩
theorem iputs_law (w : World) (i : ImgS) (A : Option Addr) (c : Nat) (h : ImgCame w i A c) :
    Calls Try.prog 10 #[imgV i A c] w fun e w' => e = .returned (.bool true) ∧ Below w.heap.size w w' := by
  by_cases hR : rightI i = true
  · have hr := (rightI_iff i).1 hR
    obtain ⟨a0, a1, a2, a3, a4, a5, a6, code⟩ := i
    obtain ⟨p0, rfl⟩ := Int.eq_ofNat_of_zero_le hr.1.1
    obtain ⟨p1, rfl⟩ := Int.eq_ofNat_of_zero_le (show 0 ≤ a1 from by have := hr.2.1.1; simp only at this; omega)
    obtain ⟨p2, rfl⟩ := Int.eq_ofNat_of_zero_le hr.2.2.1.1
    obtain ⟨p3, rfl⟩ := Int.eq_ofNat_of_zero_le (show 0 ≤ a3 from by have := hr.2.2.2.1.1; simp only at this; omega)
    obtain ⟨p4, rfl⟩ := Int.eq_ofNat_of_zero_le (show 0 ≤ a4 from by have := hr.2.2.2.2.1.1; simp only at this; omega)
    obtain ⟨p5, rfl⟩ := Int.eq_ofNat_of_zero_le hr.2.2.2.2.2.1.1
    obtain ⟨p6, rfl⟩ := Int.eq_ofNat_of_zero_le hr.2.2.2.2.2.2.1.1
    exact iputs_yes w p0 p1 p2 p3 p4 p5 p6 code A c h hr
  · exact iputs_no w i A c h (by simpa using hR)
/-! ### ImagePuts: from the walk to the given statement -/
namespace lawImagePuts
theorem own : ownKnob Try.prog.godebug = none := by kernel_rfl
theorem laidOut : laidOutB Try.prog = true := by kernel_rfl
set_option maxRecDepth 100000 in
theorem lifted (os : Os) (started : os.Started) (H : Type) (enc : TypeId × Value → H) :
    ReturnsInHanded {} Try.checked os 10 .any (Rows.imagePutsSpec.pre6 enc Try.prog Try.f10 Rows.imagePutsRow.domain false) (Rows.imagePutsSpec.post enc Try.prog Try.f10 false true false false) := by
  refine returnsInHanded_of_change (C := Try.checked) own started (by kernel_rfl) Try.func10
    (ChangeSpec.witness6 (enc := enc) (C := Try.checked) false ⟨#[], #[.agg #[.int .i64 0, .int .i64 0, .int .i64 0, .int .i64 0, .int .i64 0, .int .i64 0, .int .i64 0, .slice none 0 0]], []⟩ 8 (by kernel_rfl) (by kernel_rfl) (by kernel_rfl) (by kernel_rfl)) ?_
  intro W base args ds gs before hval0 hW hcnd _
  have hval : ∀ (j : Nat) t v, Try.f10.params[j]? = some t → args[j]? = some v → Value.okWide Try.prog W .any base t v := hval0
  have hW' := hW
  obtain ⟨p, q, hA0, hV, rfl, hfz, hnd⟩ := hW
  have hA : DataW.TrodAll enc Try.prog W 0 (fun _ => true) true Try.f10.params.toList args.toList ds p := hA0
  rw [Try.params10] at hA hval
  obtain ⟨v0, vs0, d0, ds0, p0, q0, hargs, rfl, rfl, h0, r0⟩ := trodAll_cons hA
  obtain ⟨rfl, rfl, rfl⟩ := trodAll_nil r0
  obtain rfl : args = #[v0] := by cases args; simp_all
  obtain ⟨rfl, rfl⟩ := trodVars_none hV
  have k0 := h0
  have lt0 : ∀ x ∈ p0, x.block < W.heap.size := by obtain ⟨m, hm⟩ := k0; exact DataW.trod_lt m _ _ _ hm
  obtain ⟨i0, A0, c0, rfl, w0⟩ := open_img (hval 0 41 v0 rfl rfl) h0
  clear hA0 hval0
  refine (iputs_law W i0 A0 c0 w0).mono fun e W' ⟨he, bel⟩ => ?_
  subst he
  exact ⟨_, rfl, _, _, _, [], _, [], hW', trodAll_mk1 (shut_bool Try.underlying4 _), (trodAll_cons_mk (Below.trod laidOut (by kernel_rfl) (of_decide_eq_true (by kernel_rfl)) k0 bel lt0) trodAll_mk0), rfl, bel.frame _, fun h => by cases h⟩
theorem over : Rows.imagePutsRow.holds Try.pinned (OpenSpec.ofChange Rows.imagePutsSpec) :=
  OpenClaim.holds_of_wide 10 Try.f10 rfl rfl rfl rfl rfl rfl rfl ⟨rfl, rfl, rfl, rfl, rfl⟩ rfl rfl rfl rfl rfl (by kernel_rfl) Try.func10 (by kernel_rfl)
    (of_decide_eq_true (by kernel_rfl)) (by unfold Func.isWrapper; first | (rw [if_pos (by decide +kernel)]; kernel_rfl) | (rw [if_neg (by decide +kernel)]; exact ⟨rfl, rfl⟩))
    (fun os started H enc _ => lifted os started H enc)
theorem proved : Rows.ImagePutsSaid := over
#print axioms proved
end lawImagePuts
end Go.Proofs.Ytojffpfgmlegdaa
