/-
  The reference of layer 17: a new machine.
-/
import Derived.Test.YtidlahljhgglcaaGreatRvMem
import Derived.Test.YtidlahljhgglcaaGreatVmNew
import Derived.Deep.OwnRows
import Derived.Deep.RegionHeld3
namespace Go.Proofs.YtidlahljhgglcaaGreat
open Go.RowKit Go.ChangeShapes Go.WideShapes Go.ChangeAt

set_option maxRecDepth 100000 in
set_option maxHeartbeats 4000000 in
theorem rvNew_any (i : ImgS) (A : Option Addr) (c : Nat) (w : World) (h : Reads w w.heap.size 1 A i.code.length (i.code.map bV)) (hI : RightI i) :
    Calls Tryz.prog 31 #[imgV i A c] w fun e w' => ∃ F g, e = .returned (.pointer (some ⟨g, 0, none⟩)) ∧ RvAt w' F g i (freshS i.mem.toNat) ∧ Below w.heap.size w w' ∧ ∀ b, F b → w.heap.size ≤ b := by
  have hml : i.mem.toNat ≤ 16 := by have := hI.2.2.2.1; omega
  have hcl : i.code.length ≤ 1000 := by have := hI.2.2.2.2.2.2.2; omega
  obtain ⟨mm, hmm⟩ : ∃ mm : Nat, i.mem = (mm : Int) := ⟨i.mem.toNat, by have := hI.2.2.2.1; omega⟩
  rw [hmm, Int.toNat_natCast] at hml
  obtain ⟨w1, hw1, hb1, hB1, hs1⟩ := img_in i A c w
  obtain ⟨c0, c1, c2, c3, c4, c5, c6, c7⟩ := img_cells hB1
  obtain ⟨i0, hi0, hz0, hz1, hz2⟩ := info_parts info_u8V
  have HR := hid (h.belowS hb1)
  have HB1 := hid hb1
  have HX1 := hid hB1
  have HMM := hid hmm
  have HS1 := hid hs1
  unfold imgV
  clear hb1 hB1 h hmm hI hs1
  go_enter Tryz.func31, Tryz.ntmps31
  go_wp2_with (at_builtin; refine wpList_app _ rfl (.tmp 4) (.tmp 6) _ rfl w1.heap.size 5 i0 _ 1 1 Tryz.underlying45 hi0 hz0 hz1 hz2 rfl (by decide) (.slice none 0 0) 0 [] rfl (World.ownsRow_nil _ _ _ _) w1.heap.size A i.code.length c (i.code.map bV) rfl HR.out (oneCell_b i.code) (by simp [maxLen]; omega) (by omega) (Nat.le_refl _) ?_; intro A3 c3' w3 ho3 hg3 hb3; have HO3 := hid (show w3.ownsRow w1.heap.size 5 1 (.slice A3 i.code.length c3') i.code.length (i.code.map bV) from by simpa using ho3); have HB3 := hid ((Below.refl w1.heap.size w1).grown hg3 (Nat.le_refl _) (fun k hk => by cases hk)); have hX3 := HX1.out.belowS HB3.out; have q7 : w3.cell? ⟨w.heap.size, 7, none⟩ = some (.slice A i.code.length c) := hX3.cellAt rfl; have qf := hX3.frozen 7; have HX3 := hid hX3; clear ho3 hg3 hb3 hX3)
  clear c0 c1 c2 c3 c4 c5 c6 c7 q7 qf
  obtain ⟨w4, hw4, hk4, hb4, hs4, hX4⟩ : ∃ W, w3.setCell ⟨w.heap.size, 7, none⟩ (.slice A3 i.code.length c3') = W ∧ (∀ b, b ≠ w.heap.size → W.heap[b]? = w3.heap[b]?) ∧ Below w.heap.size w W ∧ W.heap.size = w3.heap.size ∧ Blk W w.heap.size 47 (imgC i A3 c3') :=
    ⟨_, rfl, fun b hb => Below.heap_setCell _ _ _ _ hb, (bel_trans HB1.out HB3.out).setCell (p := ⟨w.heap.size, 7, none⟩) (Nat.le_refl _) _, by simp [World.setCell], HX3.out.set_ 7 _⟩
  rw [hw4]
  obtain ⟨c0, c1, c2, c3, c4, c5, c6, c7⟩ := img_cells hX4
  rw [HMM.out] at c3
  have HLT := hid hX4.lt
  have ho4 : w4.ownsRow w1.heap.size 5 1 (.slice A3 i.code.length c3') i.code.length (i.code.map bV) := own_keep HO3.out fun b hb => hk4 b (by have := (HO3.out.lt b (ownBlock_foot.2 hb)).1; have := HS1.out; omega)
  have HB4 := hid hb4
  have HO4 := hid ho4
  have hmk := run_make_row' (P := Tryz.prog) 51 3 (.int .i64 0) 8 Tryz.underlying51 info_int rfl .i64 .i64 mm (by omega) (by omega)
  have d0 := fun o => cell_alloc c0 o
  have d1 := fun o => cell_alloc c1 o
  have d2 := fun o => cell_alloc c2 o
  have d3 := fun o => cell_alloc c3 o
  have d4 := fun o => cell_alloc c4 o
  have d5 := fun o => cell_alloc c5 o
  have d6 := fun o => cell_alloc c6 o
  have d7 := fun o => cell_alloc c7 o
  clear hw4 hk4 hb4 hs4 ho4 hX4
  go_region_held3 (fun w' => w'.cell? ⟨w.heap.size, 0, none⟩ = some (.int .i64 i.part) ∧ w'.cell? ⟨w.heap.size, 1, none⟩ = some (.int .i64 i.ver) ∧ w'.cell? ⟨w.heap.size, 2, none⟩ = some (.int .i64 i.hard) ∧ w'.cell? ⟨w.heap.size, 3, none⟩ = some (.int .i64 (mm : Int)) ∧ w'.cell? ⟨w.heap.size, 4, none⟩ = some (.int .i64 i.fuel) ∧ w'.cell? ⟨w.heap.size, 5, none⟩ = some (.int .i64 i.sends) ∧ w'.cell? ⟨w.heap.size, 6, none⟩ = some (.int .i64 i.recvs) ∧ w'.cell? ⟨w.heap.size, 7, none⟩ = some (.slice A3 i.code.length c3')) (go_keep) (fail)
  clear c0 c1 c2 c3 c4 c5 c6 c7 d0 d1 d2 d3 d4 d5 d6 d7 hmk
  have hrow : Row (w4.alloc (.cells (madeCells #[.int .i64 0] mm) 3)) 3 (some ⟨w4.heap.size, 0, none⟩) mm mm ((List.replicate mm (0 : Int)).map iV) := by
    have h9 := Row.made w4 (madeCells #[.int .i64 0] mm) 3 mm (by simp [madeCells]) (by simp [maxLen]; omega)
    rw [toList_madeCells_one] at h9
    simpa [iV] using h9
  have hcm : machC i ⟨A3, c3', none, 0, some ⟨w4.heap.size, 0, none⟩, mm⟩ (freshS mm) = [.int .i64 i.part, .int .i64 i.ver, .int .i64 i.hard, .int .i64 (mm : Int), .int .i64 i.fuel, .int .i64 i.sends, .int .i64 i.recvs, .slice A3 i.code.length c3', .int .i64 0, .slice none 0 0, .slice (some ⟨w4.heap.size, 0, none⟩) mm mm, .int .i64 0, .int .i64 0] := by
    unfold machC
    rw [HMM.out]
    simp [freshS]
  obtain ⟨w5, hw5, hM, hb5⟩ : ∃ W, ((w4.alloc (.cells (madeCells #[.int .i64 0] mm) 3)).alloc (.cells #[.int .i64 i.part, .int .i64 i.ver, .int .i64 i.hard, .int .i64 (mm : Int), .int .i64 i.fuel, .int .i64 i.sends, .int .i64 i.recvs, .slice A3 i.code.length c3', .int .i64 0, .slice none 0 0, .slice (some ⟨w4.heap.size, 0, none⟩) mm mm, .int .i64 0, .int .i64 0] 77)).drew = W ∧ RvIn W (w4.heap.size + 1) i ⟨A3, c3', none, 0, some ⟨w4.heap.size, 0, none⟩, mm⟩ (freshS mm) ∧ Below w4.heap.size w4 W := by
    have hbb : Below w4.heap.size w4 ((w4.alloc (.cells (madeCells #[.int .i64 0] mm) 3)).alloc (.cells #[.int .i64 i.part, .int .i64 i.ver, .int .i64 i.hard, .int .i64 (mm : Int), .int .i64 i.fuel, .int .i64 i.sends, .int .i64 i.recvs, .slice A3 i.code.length c3', .int .i64 0, .slice none 0 0, .slice (some ⟨w4.heap.size, 0, none⟩) mm mm, .int .i64 0, .int .i64 0] 77)).drew := bel_drewV (bel_alloc (below_alloc1 w4 _) _)
    refine ⟨_, rfl, ⟨?_, ?_, Row.nil _ _, ?_, fun b hb => by obtain ⟨x, hx, _⟩ := hb; cases hx⟩, hbb⟩
    · rw [hcm]
      have h9 := Blk.new (w4.alloc (.cells (madeCells #[.int .i64 0] mm) 3)) 77 [.int .i64 i.part, .int .i64 i.ver, .int .i64 i.hard, .int .i64 (mm : Int), .int .i64 i.fuel, .int .i64 i.sends, .int .i64 i.recvs, .slice A3 i.code.length c3', .int .i64 0, .slice none 0 0, .slice (some ⟨w4.heap.size, 0, none⟩) mm mm, .int .i64 0, .int .i64 0]
      rw [show (w4.alloc (.cells (madeCells #[.int .i64 0] mm) 3)).heap.size = w4.heap.size + 1 by simp] at h9
      exact h9.drew
    · exact (Row.of_own HO4.out).belowS hbb
    · have h9 := (hrow.alloc (.cells #[.int .i64 i.part, .int .i64 i.ver, .int .i64 i.hard, .int .i64 (mm : Int), .int .i64 i.fuel, .int .i64 i.sends, .int .i64 i.recvs, .slice A3 i.code.length c3', .int .i64 0, .slice none 0 0, .slice (some ⟨w4.heap.size, 0, none⟩) mm mm, .int .i64 0, .int .i64 0] 77)).drew
      simpa [freshS] using h9
  rw [hw5]
  have HM5 := hid hM
  have HB5 := hid (bel_trans HB4.out hb5)
  clear hw5 hM hb5 hrow hcm
  go_wp2_with fail
  go_ret
  have hmt : i.mem.toNat = mm := by rw [HMM.out]; simp
  rw [hmt]
  refine ⟨_, _, rfl, HM5.out.at_, HB5.out, fun b hb => ?_⟩
  have hs := HB4.out.size
  rcases hb with rfl | hb | hb | hb
  · omega
  · have := (HO4.out.lt b (ownBlock_foot.2 hb)).1; have := HS1.out; omega
  · obtain ⟨x, hx, _⟩ := hb; cases hx
  · rw [foot_some.1 hb]; omega
end Go.Proofs.YtidlahljhgglcaaGreat
