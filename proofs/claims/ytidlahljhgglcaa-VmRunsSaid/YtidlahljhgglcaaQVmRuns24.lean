/-
  A new machine.
  The reference of layer 17: a new machine.
  Several objects in memory, apart from one another.
  Layer 17's reference: are states alike, are messages alike?
-/
import Derived.Test.YtidlahljhgglcaaVmMach
import Derived.Test.YtidlahljhgglcaaQVmRuns10
import Derived.Deep.OwnRows
import Derived.Deep.RegionHeld3
import Derived.Test.YtidlahljhgglcaaQVmRuns3
namespace Go.Proofs.Ytidlahljhgglcaa
open Go.RowKit Go.ChangeShapes Go.WideShapes Go.ChangeAt

def imgC (i : ImgS) (A : Option Addr) (c : Nat) : List Value := [.int .i64 i.part, .int .i64 i.ver, .int .i64 i.hard, .int .i64 i.mem, .int .i64 i.fuel, .int .i64 i.sends, .int .i64 i.recvs, .slice A i.code.length c]
theorem img_in (i : ImgS) (A : Option Addr) (c : Nat) (w : World) : ∃ w1 : World, w.alloc (.cells #[.int .i64 i.part, .int .i64 i.ver, .int .i64 i.hard, .int .i64 i.mem, .int .i64 i.fuel, .int .i64 i.sends, .int .i64 i.recvs, .slice A i.code.length c] 24) = w1 ∧ Below w.heap.size w w1 ∧ Blk w1 w.heap.size 24 (imgC i A c) ∧ w1.heap.size = w.heap.size + 1 :=
  ⟨_, rfl, (Below.refl _ _).alloc (Nat.le_refl _) _, Blk.new w _ (imgC i A c), by simp⟩
theorem img_cells {w : World} {b : Nat} {i : ImgS} {A : Option Addr} {c : Nat} (h : Blk w b 24 (imgC i A c)) :
    w.cell? ⟨b, 0, none⟩ = some (.int .i64 i.part) ∧ w.cell? ⟨b, 1, none⟩ = some (.int .i64 i.ver) ∧ w.cell? ⟨b, 2, none⟩ = some (.int .i64 i.hard) ∧ w.cell? ⟨b, 3, none⟩ = some (.int .i64 i.mem) ∧ w.cell? ⟨b, 4, none⟩ = some (.int .i64 i.fuel) ∧ w.cell? ⟨b, 5, none⟩ = some (.int .i64 i.sends) ∧ w.cell? ⟨b, 6, none⟩ = some (.int .i64 i.recvs) ∧ w.cell? ⟨b, 7, none⟩ = some (.slice A i.code.length c) :=
  ⟨h.cellAt rfl, h.cellAt rfl, h.cellAt rfl, h.cellAt rfl, h.cellAt rfl, h.cellAt rfl, h.cellAt rfl, h.cellAt rfl⟩
set_option maxRecDepth 100000 in
theorem vmNew_bad (i : ImgS) (A : Option Addr) (c : Nat) (w : World) (hl : i.code.length ≤ 9223372036854775807) (hR : rightI i = false) :
    Calls Try.prog 12 #[imgV i A c] w fun e w' => e = .returned (.tuple #[.pointer none, .int .i64 3]) ∧ Below w.heap.size w w' := by
  obtain ⟨w1, hw1, hb1, hB1, hs1⟩ := img_in i A c w
  obtain ⟨c0, c1, c2, c3, c4, c5, c6, c7⟩ := img_cells hB1
  have i1 := hid (imgRight_any i A c w1 hl)
  rw [hR] at i1
  unfold imgV at i1 ⊢
  have HB1 := hid hb1
  clear hb1 hB1 hs1
  go_enter Try.func12, Try.ntmps12
  go_wp2_with fail
  refine i1.out.mono ?_
  rintro e w2 ⟨rfl, hb2⟩
  go_wp2_with fail
  go_ret2
  exact ⟨rfl, bel_trans HB1.out hb2⟩
set_option maxRecDepth 100000 in
set_option maxHeartbeats 2000000 in
theorem vmNew_ok (i : ImgS) (A : Option Addr) (c : Nat) (w : World) (h : Reads w w.heap.size 1 A i.code.length (i.code.map bV)) (hR : rightI i = true) :
    Calls Try.prog 12 #[imgV i A c] w fun e w' => ∃ F g, e = .returned (.tuple #[.pointer (some ⟨g, 0, none⟩), .int .i64 0]) ∧ VmAt w' F g i (freshS i.mem.toNat) ∧ Below w.heap.size w w' ∧ ∀ b, F b → w.heap.size ≤ b := by
  have hRI := (rightI_iff i).1 hR
  have hml : i.mem.toNat ≤ 1000 := by have := hRI.2.2.2.1; omega
  have hmem : i.mem = ((i.mem.toNat : Nat) : Int) := by have := hRI.2.2.2.1; omega
  have hcl : i.code.length ≤ 1000 := by have := hRI.2.2.2.2.2.2.2; omega
  obtain ⟨w1, hw1, hb1, hB1, hs1⟩ := img_in i A c w
  obtain ⟨c0, c1, c2, c3, c4, c5, c6, c7⟩ := img_cells hB1
  have i1 := hid (imgRight_any i A c w1 (by omega))
  rw [hR] at i1
  have HR := hid (h.belowS hb1)
  have HB1 := hid hb1
  have HX1 := hid hB1
  have HM := hid hmem
  have HS1 := hid hs1
  unfold imgV at i1 ⊢
  clear hb1 hB1 h hmem hRI hR hs1
  go_enter Try.func12, Try.ntmps12
  go_wp2_with fail
  refine i1.out.mono ?_
  rintro e w2 ⟨rfl, hb2⟩
  have hX2 := HX1.out.belowS hb2
  clear c0 c1 c2 c3 c4 c5 c6 c7
  obtain ⟨c0, c1, c2, c3, c4, c5, c6, c7⟩ := img_cells hX2
  have HX2 := hid hX2
  have HB2 := hid (bel_trans HB1.out hb2)
  have i2 := hid (cloneB_any A i.code.length c i.code w2 (HR.out.belowS hb2) (by omega))
  clear hX2 hb2 i1
  go_wp2_with fail
  refine i2.out.mono ?_
  rintro e w3 ⟨A3, c3', rfl, ho3, hb3⟩
  have hX3 := HX2.out.belowS hb3
  clear c0 c1 c2 c3 c4 c5 c6 c7
  obtain ⟨c0, c1, c2, c3, c4, c5, c6, c7⟩ := img_cells hX3
  have qf := hX3.frozen 7
  have HX3 := hid hX3
  have HB3 := hid (bel_trans HB2.out hb3)
  have HO3 := hid ho3
  have HLT := hid HX2.out.lt
  clear hX3 hb3 i2 ho3
  go_wp2_with fail
  clear c0 c1 c2 c3 c4 c5 c6 c7 qf
  obtain ⟨w4, hw4, hk4, hb4, hs4⟩ : ∃ W, w3.setCell ⟨w.heap.size, 7, none⟩ (.slice A3 i.code.length c3') = W ∧ (∀ b, b ≠ w.heap.size → W.heap[b]? = w3.heap[b]?) ∧ Below w.heap.size w W ∧ W.heap.size = w3.heap.size :=
    ⟨_, rfl, fun b hb => Below.heap_setCell _ _ _ _ hb, HB3.out.setCell (p := ⟨w.heap.size, 7, none⟩) (Nat.le_refl _) _, by simp [World.setCell]⟩
  rw [hw4]
  have ho4 : w4.ownsRow w2.heap.size 5 1 (.slice A3 i.code.length c3') i.code.length (i.code.map bV) := own_keep HO3.out fun b hb => hk4 b (by have := (HO3.out.lt b (ownBlock_foot.2 hb)).1; have := HLT.out; omega)
  have hm : MachIn (w4.alloc (.cells (machC i ⟨A3, c3', none, 0, none, 0⟩ ⟨0, [], [], 0, 0⟩).toArray 93)) w3.heap.size i ⟨A3, c3', none, 0, none, 0⟩ ⟨0, [], [], 0, 0⟩ := by
    rw [← hs4]
    exact ⟨Blk.new w4 _ _, (Row.of_own ho4).alloc _, Row.nil _ _, Row.nil _ _, fun b hb => by obtain ⟨x, hx, _⟩ := hb; cases hx⟩
  have i3 := hid (reset_in hm i.mem.toNat HM.out hml)
  have HB4 := hid hb4
  have HF : Hid (∀ b, Foot A3 b → w.heap.size ≤ b) := hid fun b hb => by have := (HO3.out.lt b (ownBlock_foot.2 hb)).1; have := HLT.out; omega
  have HSZ := hid HB3.out.size
  clear hw4 hk4 hb4 hs4 ho4 hm
  go_wp2_with fail
  refine i3.out.mono ?_
  rintro e w5 ⟨rfl, a', hm5, hg5⟩
  have HM5 := hid hm5
  have HG5 := hid hg5
  clear hm5 hg5
  go_wp2_with fail
  go_ret2
  have hFm : ∀ b, MachF w3.heap.size ⟨A3, c3', none, 0, none, 0⟩ b → w.heap.size ≤ b := fun b hb => by
    rcases hb with rfl | hb | hb | hb
    · exact HSZ.out
    · exact HF.out b hb
    · obtain ⟨x, hx, _⟩ := hb; cases hx
    · obtain ⟨x, hx, _⟩ := hb; cases hx
  have hx := HG5.out.bel (bel_alloc HB4.out (.cells (machC i ⟨A3, c3', none, 0, none, 0⟩ ⟨0, [], [], 0, 0⟩).toArray 93)) (Nat.le_refl _) hFm
  exact ⟨_, _, rfl, HM5.out.at_, hx.1, hx.2⟩
end Go.Proofs.Ytidlahljhgglcaa
namespace Go.Proofs.Ytidlahljhgglcaa
open Go.RowKit Go.ChangeShapes Go.WideShapes Go.ChangeAt

set_option maxRecDepth 100000 in
set_option maxHeartbeats 4000000 in
theorem rvNew_any (i : ImgS) (A : Option Addr) (c : Nat) (w : World) (h : Reads w w.heap.size 1 A i.code.length (i.code.map bV)) (hI : RightI i) :
    Calls Try.prog 24 #[imgV i A c] w fun e w' => ∃ F g, e = .returned (.pointer (some ⟨g, 0, none⟩)) ∧ RvAt w' F g i (freshS i.mem.toNat) ∧ Below w.heap.size w w' ∧ ∀ b, F b → w.heap.size ≤ b := by
  have hml : i.mem.toNat ≤ 16 := by have := hI.2.2.2.1; omega
  have hcl : i.code.length ≤ 1000 := by have := hI.2.2.2.2.2.2.2; omega
  obtain ⟨mm, hmm⟩ : ∃ mm : Nat, i.mem = (mm : Int) := ⟨i.mem.toNat, by have := hI.2.2.2.1; omega⟩
  rw [hmm, Int.toNat_natCast] at hml
  obtain ⟨w1, hw1, hb1, hB1, hs1⟩ := img_in i A c w
  obtain ⟨c0, c1, c2, c3, c4, c5, c6, c7⟩ := img_cells hB1
  obtain ⟨i0, hi0, hz0, hz1, hz2⟩ := info_parts info_u8V
  have HR := hid (h.belowS hb1)
  have HB1 := hid hb1
  have HX1 := hid hB1
  have HMM := hid hmm
  have HS1 := hid hs1
  unfold imgV
  clear hb1 hB1 h hmm hI hs1
  go_enter Try.func24, Try.ntmps24
  go_wp2_with (at_builtin; refine wpList_app _ rfl (.tmp 4) (.tmp 6) _ rfl w1.heap.size 5 i0 _ 1 1 Try.underlying22 hi0 hz0 hz1 hz2 rfl (by decide) (.slice none 0 0) 0 [] rfl (World.ownsRow_nil _ _ _ _) w1.heap.size A i.code.length c (i.code.map bV) rfl HR.out (oneCell_b i.code) (by simp [maxLen]; omega) (by omega) (Nat.le_refl _) ?_; intro A3 c3' w3 ho3 hg3 hb3; have HO3 := hid (show w3.ownsRow w1.heap.size 5 1 (.slice A3 i.code.length c3') i.code.length (i.code.map bV) from by simpa using ho3); have HB3 := hid ((Below.refl w1.heap.size w1).grown hg3 (Nat.le_refl _) (fun k hk => by cases hk)); have hX3 := HX1.out.belowS HB3.out; have q7 : w3.cell? ⟨w.heap.size, 7, none⟩ = some (.slice A i.code.length c) := hX3.cellAt rfl; have qf := hX3.frozen 7; have HX3 := hid hX3; clear ho3 hg3 hb3 hX3)
  clear c0 c1 c2 c3 c4 c5 c6 c7 q7 qf
  obtain ⟨w4, hw4, hk4, hb4, hs4, hX4⟩ : ∃ W, w3.setCell ⟨w.heap.size, 7, none⟩ (.slice A3 i.code.length c3') = W ∧ (∀ b, b ≠ w.heap.size → W.heap[b]? = w3.heap[b]?) ∧ Below w.heap.size w W ∧ W.heap.size = w3.heap.size ∧ Blk W w.heap.size 24 (imgC i A3 c3') :=
    ⟨_, rfl, fun b hb => Below.heap_setCell _ _ _ _ hb, (bel_trans HB1.out HB3.out).setCell (p := ⟨w.heap.size, 7, none⟩) (Nat.le_refl _) _, by simp [World.setCell], HX3.out.set_ 7 _⟩
  rw [hw4]
  obtain ⟨c0, c1, c2, c3, c4, c5, c6, c7⟩ := img_cells hX4
  rw [HMM.out] at c3
  have HLT := hid hX4.lt
  have ho4 : w4.ownsRow w1.heap.size 5 1 (.slice A3 i.code.length c3') i.code.length (i.code.map bV) := own_keep HO3.out fun b hb => hk4 b (by have := (HO3.out.lt b (ownBlock_foot.2 hb)).1; have := HS1.out; omega)
  have HB4 := hid hb4
  have HO4 := hid ho4
  have hmk := run_make_row' (P := Try.prog) 40 3 (.int .i64 0) 8 Try.underlying40 info_int rfl .i64 .i64 mm (by omega) (by omega)
  have d0 := fun o => cell_alloc c0 o
  have d1 := fun o => cell_alloc c1 o
  have d2 := fun o => cell_alloc c2 o
  have d3 := fun o => cell_alloc c3 o
  have d4 := fun o => cell_alloc c4 o
  have d5 := fun o => cell_alloc c5 o
  have d6 := fun o => cell_alloc c6 o
  have d7 := fun o => cell_alloc c7 o
  clear hw4 hk4 hb4 hs4 ho4 hX4
  go_region_held3 (fun w' => w'.cell? ⟨w.heap.size, 0, none⟩ = some (.int .i64 i.part) ∧ w'.cell? ⟨w.heap.size, 1, none⟩ = some (.int .i64 i.ver) ∧ w'.cell? ⟨w.heap.size, 2, none⟩ = some (.int .i64 i.hard) ∧ w'.cell? ⟨w.heap.size, 3, none⟩ = some (.int .i64 (mm : Int)) ∧ w'.cell? ⟨w.heap.size, 4, none⟩ = some (.int .i64 i.fuel) ∧ w'.cell? ⟨w.heap.size, 5, none⟩ = some (.int .i64 i.sends) ∧ w'.cell? ⟨w.heap.size, 6, none⟩ = some (.int .i64 i.recvs) ∧ w'.cell? ⟨w.heap.size, 7, none⟩ = some (.slice A3 i.code.length c3')) (go_keep) (fail)
  clear c0 c1 c2 c3 c4 c5 c6 c7 d0 d1 d2 d3 d4 d5 d6 d7 hmk
  have hrow : Row (w4.alloc (.cells (madeCells #[.int .i64 0] mm) 3)) 3 (some ⟨w4.heap.size, 0, none⟩) mm mm ((List.replicate mm (0 : Int)).map iV) := by
    have h9 := Row.made w4 (madeCells #[.int .i64 0] mm) 3 mm (by simp [madeCells]) (by simp [maxLen]; omega)
    rw [toList_madeCells_one] at h9
    simpa [iV] using h9
  have hcm : machC i ⟨A3, c3', none, 0, some ⟨w4.heap.size, 0, none⟩, mm⟩ (freshS mm) = [.int .i64 i.part, .int .i64 i.ver, .int .i64 i.hard, .int .i64 (mm : Int), .int .i64 i.fuel, .int .i64 i.sends, .int .i64 i.recvs, .slice A3 i.code.length c3', .int .i64 0, .slice none 0 0, .slice (some ⟨w4.heap.size, 0, none⟩) mm mm, .int .i64 0, .int .i64 0] := by
    unfold machC
    rw [HMM.out]
    simp [freshS]
  obtain ⟨w5, hw5, hM, hb5⟩ : ∃ W, ((w4.alloc (.cells (madeCells #[.int .i64 0] mm) 3)).alloc (.cells #[.int .i64 i.part, .int .i64 i.ver, .int .i64 i.hard, .int .i64 (mm : Int), .int .i64 i.fuel, .int .i64 i.sends, .int .i64 i.recvs, .slice A3 i.code.length c3', .int .i64 0, .slice none 0 0, .slice (some ⟨w4.heap.size, 0, none⟩) mm mm, .int .i64 0, .int .i64 0] 74)).drew = W ∧ RvIn W (w4.heap.size + 1) i ⟨A3, c3', none, 0, some ⟨w4.heap.size, 0, none⟩, mm⟩ (freshS mm) ∧ Below w4.heap.size w4 W := by
    have hbb : Below w4.heap.size w4 ((w4.alloc (.cells (madeCells #[.int .i64 0] mm) 3)).alloc (.cells #[.int .i64 i.part, .int .i64 i.ver, .int .i64 i.hard, .int .i64 (mm : Int), .int .i64 i.fuel, .int .i64 i.sends, .int .i64 i.recvs, .slice A3 i.code.length c3', .int .i64 0, .slice none 0 0, .slice (some ⟨w4.heap.size, 0, none⟩) mm mm, .int .i64 0, .int .i64 0] 74)).drew := bel_drewV (bel_alloc (below_alloc1 w4 _) _)
    refine ⟨_, rfl, ⟨?_, ?_, Row.nil _ _, ?_, fun b hb => by obtain ⟨x, hx, _⟩ := hb; cases hx⟩, hbb⟩
    · rw [hcm]
      have h9 := Blk.new (w4.alloc (.cells (madeCells #[.int .i64 0] mm) 3)) 74 [.int .i64 i.part, .int .i64 i.ver, .int .i64 i.hard, .int .i64 (mm : Int), .int .i64 i.fuel, .int .i64 i.sends, .int .i64 i.recvs, .slice A3 i.code.length c3', .int .i64 0, .slice none 0 0, .slice (some ⟨w4.heap.size, 0, none⟩) mm mm, .int .i64 0, .int .i64 0]
      rw [show (w4.alloc (.cells (madeCells #[.int .i64 0] mm) 3)).heap.size = w4.heap.size + 1 by simp] at h9
      exact h9.drew
    · exact (Row.of_own HO4.out).belowS hbb
    · have h9 := (hrow.alloc (.cells #[.int .i64 i.part, .int .i64 i.ver, .int .i64 i.hard, .int .i64 (mm : Int), .int .i64 i.fuel, .int .i64 i.sends, .int .i64 i.recvs, .slice A3 i.code.length c3', .int .i64 0, .slice none 0 0, .slice (some ⟨w4.heap.size, 0, none⟩) mm mm, .int .i64 0, .int .i64 0] 74)).drew
      simpa [freshS] using h9
  rw [hw5]
  have HM5 := hid hM
  have HB5 := hid (bel_trans HB4.out hb5)
  clear hw5 hM hb5 hrow hcm
  go_wp2_with fail
  go_ret
  have hmt : i.mem.toNat = mm := by rw [HMM.out]; simp
  rw [hmt]
  refine ⟨_, _, rfl, HM5.out.at_, HB5.out, fun b hb => ?_⟩
  have hs := HB4.out.size
  rcases hb with rfl | hb | hb | hb
  · omega
  · have := (HO4.out.lt b (ownBlock_foot.2 hb)).1; have := HS1.out; omega
  · obtain ⟨x, hx, _⟩ := hb; cases hx
  · rw [foot_some.1 hb]; omega
end Go.Proofs.Ytidlahljhgglcaa
namespace Go.Proofs.Ytidlahljhgglcaa
open Go.RowKit

/-- An object: what is so of a world and of the blocks that it lies in. -/
structure Comp where
  p : World → (Nat → Prop) → Prop
  keep : ∀ {w w' : World} {F : Nat → Prop}, p w F → w.heap.size ≤ w'.heap.size → (∀ b, F b → w'.heap[b]? = w.heap[b]?) → p w' F
  lt : ∀ {w : World} {F : Nat → Prop} {b : Nat}, p w F → F b → b < w.heap.size
def SepF : List Comp → World → (Nat → Prop) → Prop
  | [], _, F => ∀ b, ¬ F b
  | C :: l, w, F => ∃ F1 F2, C.p w F1 ∧ SepF l w F2 ∧ (∀ b, F1 b → ¬ F2 b) ∧ ∀ b, F b ↔ F1 b ∨ F2 b
section
variable {w w' w0 : World} {F F' G : Nat → Prop} {C : Comp} {l l' l1 l2 : List Comp}
theorem SepF.iff_ (h : SepF l w F) (hF : ∀ b, G b ↔ F b) : SepF l w G := by
  cases l with
  | nil => exact fun b hb => h b ((hF b).1 hb)
  | cons C l =>
    obtain ⟨F1, F2, h1, h2, h3, h4⟩ := h
    exact ⟨F1, F2, h1, h2, h3, fun b => (hF b).trans (h4 b)⟩
theorem SepF.lt : ∀ {l : List Comp} {F : Nat → Prop} (_ : SepF l w F) {b : Nat} (_ : F b), b < w.heap.size
  | [], _, h, b, hb => absurd hb (h b)
  | C :: l, _, ⟨F1, F2, h1, h2, _, h4⟩, b, hb => ((h4 b).1 hb).elim (fun h9 => C.lt h1 h9) (fun h9 => SepF.lt h2 h9)
theorem SepF.keep : ∀ {l : List Comp} {F : Nat → Prop} (_ : SepF l w F) (_ : w.heap.size ≤ w'.heap.size) (_ : ∀ b, F b → w'.heap[b]? = w.heap[b]?), SepF l w' F
  | [], _, h, _, _ => h
  | C :: l, _, ⟨F1, F2, h1, h2, h3, h4⟩, hs, hk => ⟨F1, F2, C.keep h1 hs fun b hb => hk b ((h4 b).2 (.inl hb)), SepF.keep h2 hs fun b hb => hk b ((h4 b).2 (.inr hb)), h3, h4⟩
theorem SepF.belowS (h : SepF l w F) (hb : Below w.heap.size w w') : SepF l w' F := h.keep hb.size fun b hf => hb.block b (h.lt hf)
theorem SepF.perm (hp : l.Perm l') : ∀ {F : Nat → Prop}, SepF l w F → SepF l' w F := by
  induction hp with
  | nil => exact fun h => h
  | cons C _ ih =>
    rintro F ⟨F1, F2, h1, h2, h3, h4⟩
    exact ⟨F1, F2, h1, ih h2, h3, h4⟩
  | swap C D l =>
    rintro F ⟨F1, F2, h1, ⟨F3, F4, h5, h6, h7, h8⟩, h3, h4⟩
    refine ⟨F3, fun b => F1 b ∨ F4 b, h5, ⟨F1, F4, h1, h6, fun b hb hc => h3 b hb ((h8 b).2 (.inr hc)), fun b => Iff.rfl⟩, fun b hb hc => ?_, fun b => ?_⟩
    · rcases hc with hc | hc
      · exact h3 b hc ((h8 b).2 (.inl hb))
      · exact h7 b hb hc
    · rw [h4, h8]
      exact ⟨fun h => h.elim (fun h => .inr (.inl h)) (fun h => h.elim .inl (fun h => .inr (.inr h))), fun h => h.elim (fun h => .inr (.inl h)) (fun h => h.elim .inl (fun h => .inr (.inr h)))⟩
  | trans _ _ ih1 ih2 => exact fun h => ih2 (ih1 h)
/-- The first ones move, the others stay. -/
theorem SepF.step : ∀ {l1 : List Comp} {F : Nat → Prop} (_ : SepF (l1 ++ l2) w F), ∃ F1 F2, SepF l1 w F1 ∧ SepF l2 w F2 ∧ (∀ b, F1 b → ¬ F2 b) ∧ ∀ b, F b ↔ F1 b ∨ F2 b
  | [], F, h => ⟨fun _ => False, F, fun _ h => h, h, fun _ h => h.elim, fun b => ⟨.inr, fun h => h.elim (fun h => h.elim) id⟩⟩
  | C :: l1, F, ⟨F1, F2, h1, h2, h3, h4⟩ => by
    obtain ⟨G1, G2, g1, g2, g3, g4⟩ := SepF.step h2
    refine ⟨fun b => F1 b ∨ G1 b, G2, ⟨F1, G1, h1, g1, fun b hb hc => h3 b hb ((g4 b).2 (.inl hc)), fun b => Iff.rfl⟩, g2, fun b hb hc => ?_, fun b => ?_⟩
    · rcases hb with hb | hb
      · exact h3 b hb ((g4 b).2 (.inr hc))
      · exact g3 b hb hc
    · rw [h4, g4]
      exact ⟨fun h => h.elim (fun h => .inl (.inl h)) (fun h => h.elim (fun h => .inl (.inr h)) .inr), fun h => h.elim (fun h => h.elim .inl (fun h => .inr (.inl h))) (fun h => .inr (.inr h))⟩
theorem SepF.app : ∀ {l1 : List Comp} {F1 F2 : Nat → Prop} (_ : SepF l1 w F1) (_ : SepF l2 w F2) (_ : ∀ b, F1 b → ¬ F2 b), SepF (l1 ++ l2) w (fun b => F1 b ∨ F2 b)
  | [], F1, F2, h1, h2, _ => h2.iff_ fun b => ⟨fun h => h.elim (fun h => absurd h (h1 b)) id, .inr⟩
  | C :: l1, F1, F2, ⟨G1, G2, g1, g2, g3, g4⟩, h2, hd =>
    ⟨G1, fun b => G2 b ∨ F2 b, g1, SepF.app g2 h2 fun b hb => hd b ((g4 b).2 (.inr hb)), fun b hb hc => hc.elim (g3 b hb) (hd b ((g4 b).2 (.inl hb))), fun b => by
      show F1 b ∨ F2 b ↔ G1 b ∨ (G2 b ∨ F2 b)
      rw [g4]
      exact ⟨fun h => h.elim (fun h => h.elim .inl (fun h => .inr (.inl h))) (fun h => .inr (.inr h)), fun h => h.elim (fun h => .inl (.inl h)) (fun h => h.elim (fun h => .inl (.inr h)) .inr)⟩⟩
theorem SepF.one {F1 : Nat → Prop} (h : C.p w F1) : SepF [C] w F1 := ⟨F1, fun _ => False, h, fun _ h => h, fun _ _ h => h, fun b => ⟨.inl, fun h => h.elim id (fun h => h.elim)⟩⟩
theorem SepF.two {C D : Comp} {F1 F2 : Nat → Prop} (h : C.p w F1) (h2 : D.p w F2) (hd : ∀ b, F1 b → ¬ F2 b) : SepF [C, D] w (fun b => F1 b ∨ F2 b) := ⟨F1, F2, h, SepF.one h2, hd, fun _ => Iff.rfl⟩
theorem SepF.one' (h : SepF [C] w F) : ∃ F1, C.p w F1 ∧ ∀ b, F b ↔ F1 b := by
  obtain ⟨F1, F2, h1, h2, _, h4⟩ := h
  exact ⟨F1, h1, fun b => (h4 b).trans ⟨fun h => h.elim id (fun h => absurd h (h2 b)), .inl⟩⟩
theorem SepF.two' {C D : Comp} (h : SepF [C, D] w F) : ∃ F1 F2, C.p w F1 ∧ D.p w F2 ∧ (∀ b, F1 b → ¬ F2 b) ∧ ∀ b, F b ↔ F1 b ∨ F2 b := by
  obtain ⟨F1, F2, h1, h2, h3, h4⟩ := h
  obtain ⟨F3, h5, h6⟩ := h2.one'
  exact ⟨F1, F3, h1, h5, fun b hb hc => h3 b hb ((h6 b).2 hc), fun b => (h4 b).trans (by rw [h6])⟩
/-- What was made since the world w0. -/
def AllS (w0 : World) (l : List Comp) (w : World) : Prop := ∃ F, SepF l w F ∧ (∀ b, F b → w0.heap.size ≤ b) ∧ Below w0.heap.size w0 w
theorem AllS.bel (h : AllS w0 l w) : Below w0.heap.size w0 w := by obtain ⟨F, _, _, h⟩ := h; exact h
theorem AllS.nil (hb : Below w0.heap.size w0 w) : AllS w0 [] w := ⟨fun _ => False, fun _ h => h, fun _ h => h.elim, hb⟩
theorem AllS.belowS (h : AllS w0 l w) (hb : Below w.heap.size w w') : AllS w0 l w' := by
  obtain ⟨F, h1, h2, h3⟩ := h
  exact ⟨F, h1.belowS hb, h2, bel_trans h3 hb⟩
theorem AllS.perm (h : AllS w0 l w) (hp : l.Perm l') : AllS w0 l' w := by
  obtain ⟨F, h1, h2⟩ := h
  exact ⟨F, h1.perm hp, h2⟩
theorem AllS.push {F1 : Nat → Prop} (h : AllS w0 l w) (hb : Below w.heap.size w w') (hC : C.p w' F1) (hF : ∀ b, F1 b → w.heap.size ≤ b) : AllS w0 (C :: l) w' := by
  obtain ⟨F, h1, h2, h3⟩ := h
  have hs := h3.size
  exact ⟨fun b => F1 b ∨ F b, ⟨F1, F, hC, h1.belowS hb, fun b hb hc => by have := hF b hb; have := h1.lt hc; omega, fun _ => Iff.rfl⟩, fun b hb => hb.elim (fun h => Nat.le_trans hs (hF b h)) (h2 b), bel_trans h3 hb⟩
theorem AllS.drop (h : AllS w0 (C :: l) w) : AllS w0 l w := by
  obtain ⟨F, ⟨F1, F2, h1, h2, h3, h4⟩, h5, h6⟩ := h
  exact ⟨F2, h2, fun b hb => h5 b ((h4 b).2 (.inr hb)), h6⟩
theorem AllS.get (h : AllS w0 (C :: l) w) : ∃ F1, C.p w F1 ∧ ∀ b, F1 b → w0.heap.size ≤ b := by
  obtain ⟨F, ⟨F1, F2, h1, h2, h3, h4⟩, h5, h6⟩ := h
  exact ⟨F1, h1, fun b hb => h5 b ((h4 b).2 (.inl hb))⟩
theorem SepF.sub (hs : l'.Sublist l) : ∀ {F : Nat → Prop}, SepF l w F → ∃ F', SepF l' w F' ∧ ∀ b, F' b → F b := by
  induction hs with
  | slnil => exact fun h => ⟨_, h, fun _ h => h⟩
  | cons C _ ih =>
    rintro F ⟨F1, F2, h1, h2, h3, h4⟩
    obtain ⟨F', h5, h6⟩ := ih h2
    exact ⟨F', h5, fun b hb => (h4 b).2 (.inr (h6 b hb))⟩
  | cons_cons C _ ih =>
    rintro F ⟨F1, F2, h1, h2, h3, h4⟩
    obtain ⟨F', h5, h6⟩ := ih h2
    exact ⟨fun b => F1 b ∨ F' b, ⟨F1, F', h1, h5, fun b hb hc => h3 b hb (h6 b hc), fun _ => Iff.rfl⟩, fun b hb => (h4 b).2 (hb.imp_right (h6 b))⟩
theorem AllS.sub (h : AllS w0 l w) (hs : l'.Sublist l) : AllS w0 l' w := by
  obtain ⟨F, h1, h2, h3⟩ := h
  obtain ⟨F', h4, h5⟩ := h1.sub hs
  exact ⟨F', h4, fun b hb => h2 b (h5 b hb), h3⟩
/-- The first ones move. -/
theorem AllS.step (h : AllS w0 (l1 ++ l2) w) : ∃ F1, SepF l1 w F1 ∧ ∀ w' l1' F1', SepF l1' w' F1' → Goes F1 w F1' w' → AllS w0 (l1' ++ l2) w' := by
  obtain ⟨F, h1, h2, h3⟩ := h
  obtain ⟨F1, F2, g1, g2, g3, g4⟩ := h1.step
  refine ⟨F1, g1, fun w' l1' F1' h' hG => ⟨_, SepF.app h' (g2.keep hG.apart.size fun b hb => hG.apart.block b (g2.lt hb) fun h9 => g3 b h9 hb) fun b hb hc => ?_, fun b hb => ?_, ?_⟩⟩
  · rcases hG.foot b hb with h9 | h9
    · exact g3 b h9 hc
    · have := g2.lt hc; omega
  · rcases hb with hb | hb
    · rcases hG.foot b hb with h9 | h9
      · exact h2 b ((g4 b).2 (.inl h9))
      · exact Nat.le_trans h3.size h9
    · exact h2 b ((g4 b).2 (.inr hb))
  · exact ⟨hG.apart.os.trans h3.os, hG.apart.tape.trans h3.tape, hG.apart.output.trans h3.output, Nat.le_trans h3.size hG.apart.size, fun b hb => (hG.apart.block b (Nat.lt_of_lt_of_le hb h3.size) fun h9 => by have := h2 b ((g4 b).2 (.inl h9)); omega).trans (h3.block b hb)⟩
theorem AllS.step1 (h : AllS w0 (C :: l) w) : ∃ F1, C.p w F1 ∧ ∀ w' (C' : Comp) F1', C'.p w' F1' → Goes F1 w F1' w' → AllS w0 (C' :: l) w' := by
  obtain ⟨F, h1, h2⟩ := AllS.step (l1 := [C]) (l2 := l) h
  obtain ⟨F1, h3, h4⟩ := h1.one'
  refine ⟨F1, h3, fun w' C' F1' h5 hG => h2 w' [C'] F1' (SepF.one h5) ⟨⟨hG.apart.os, hG.apart.tape, hG.apart.output, hG.apart.size, fun b hb hf => hG.apart.block b hb fun h9 => hf ((h4 b).2 h9)⟩, fun b hb => (hG.foot b hb).imp_left (h4 b).2⟩⟩
theorem AllS.step2 {C D : Comp} (h : AllS w0 (C :: D :: l) w) : ∃ F1 F2, C.p w F1 ∧ D.p w F2 ∧ (∀ b, F1 b → ¬ F2 b) ∧ ∀ w' l' F', SepF l' w' F' → Goes (fun b => F1 b ∨ F2 b) w F' w' → AllS w0 (l' ++ l) w' := by
  obtain ⟨F, h1, h2⟩ := AllS.step (l1 := [C, D]) (l2 := l) h
  obtain ⟨F1, F2, h3, h4, h5, h6⟩ := h1.two'
  refine ⟨F1, F2, h3, h4, h5, fun w' l' F' h7 hG => h2 w' l' F' h7 ⟨⟨hG.apart.os, hG.apart.tape, hG.apart.output, hG.apart.size, fun b hb hf => hG.apart.block b hb fun h9 => hf ((h6 b).2 h9)⟩, fun b hb => (hG.foot b hb).imp_left (h6 b).2⟩⟩
end
/-- A block whose cells are known. -/
def blkC (b : Nat) (T : TypeId) (cs : List Value) : Comp := ⟨fun w F => Blk w b T cs ∧ ∀ x, F x ↔ x = b, fun h _ hk => ⟨(hk b ((h.2 b).2 rfl)).trans h.1, h.2⟩, fun h hb => by rw [(h.2 _).1 hb]; exact h.1.lt⟩
end Go.Proofs.Ytidlahljhgglcaa
namespace Go.Proofs.Ytidlahljhgglcaa
open Go.RowKit Go.ChangeShapes Go.WideShapes Go.ChangeAt

theorem st_in (s : VmS) (A1 : Option Addr) (c1 : Nat) (A2 : Option Addr) (c2 : Nat) (B1 : Option Addr) (d1 : Nat) (B2 : Option Addr) (d2 : Nat) (w : World) :
    ∃ w2 : World, ((w.alloc (.cells #[.int .i64 s.pc, .slice A1 s.stack.length c1, .slice A2 s.mem.length c2, .int .i64 s.ticks, .int .i64 s.fault] 42)).alloc (.cells #[.int .i64 s.pc, .slice B1 s.stack.length d1, .slice B2 s.mem.length d2, .int .i64 s.ticks, .int .i64 s.fault] 42)) = w2 ∧ Below w.heap.size w w2 ∧
      Blk w2 w.heap.size 42 [.int .i64 s.pc, .slice A1 s.stack.length c1, .slice A2 s.mem.length c2, .int .i64 s.ticks, .int .i64 s.fault] ∧ Blk w2 (w.heap.size + 1) 42 [.int .i64 s.pc, .slice B1 s.stack.length d1, .slice B2 s.mem.length d2, .int .i64 s.ticks, .int .i64 s.fault] :=
  ⟨_, rfl, bel_alloc ((Below.refl w.heap.size w).alloc (Nat.le_refl _) _) _, (Blk.new w _ [.int .i64 s.pc, .slice A1 s.stack.length c1, .slice A2 s.mem.length c2, .int .i64 s.ticks, .int .i64 s.fault]).alloc _, by
    have := Blk.new (w.alloc (.cells #[.int .i64 s.pc, .slice A1 s.stack.length c1, .slice A2 s.mem.length c2, .int .i64 s.ticks, .int .i64 s.fault] 42)) 42 [.int .i64 s.pc, .slice B1 s.stack.length d1, .slice B2 s.mem.length d2, .int .i64 s.ticks, .int .i64 s.fault]
    rw [show (w.alloc (.cells #[.int .i64 s.pc, .slice A1 s.stack.length c1, .slice A2 s.mem.length c2, .int .i64 s.ticks, .int .i64 s.fault] 42)).heap.size = w.heap.size + 1 by simp] at this
    exact this⟩
set_option maxRecDepth 100000 in
set_option maxHeartbeats 2000000 in
theorem sameSt_any (s : VmS) (A1 : Option Addr) (c1 : Nat) (A2 : Option Addr) (c2 : Nat) (B1 : Option Addr) (d1 : Nat) (B2 : Option Addr) (d2 : Nat) (w : World)
    (h1 : Reads w w.heap.size 1 A1 s.stack.length (s.stack.map iV)) (h2 : Reads w w.heap.size 1 A2 s.mem.length (s.mem.map iV)) (h3 : Reads w w.heap.size 1 B1 s.stack.length (s.stack.map iV)) (h4 : Reads w w.heap.size 1 B2 s.mem.length (s.mem.map iV)) (hl : s.stack.length ≤ 1000000) (hm : s.mem.length ≤ 1000000) :
    Calls Try.prog 18 #[stateV s A1 c1 A2 c2, stateV s B1 d1 B2 d2] w fun e w' => e = .returned (.bool true) ∧ Below w.heap.size w w' := by
  obtain ⟨w2, hw2, hb2, hX, hY⟩ := st_in s A1 c1 A2 c2 B1 d1 B2 d2 w
  obtain ⟨pc, st, me, ticks, fault⟩ := s
  simp only at hw2 hX hY h1 h2 h3 h4 hl hm
  unfold stateV
  simp only
  have x0 : w2.cell? ⟨w.heap.size, 0, none⟩ = some (.int .i64 pc) := hX.cellAt rfl
  have x1 : w2.cell? ⟨w.heap.size, 1, none⟩ = some (.slice A1 st.length c1) := hX.cellAt rfl
  have x2 : w2.cell? ⟨w.heap.size, 2, none⟩ = some (.slice A2 me.length c2) := hX.cellAt rfl
  have x3 : w2.cell? ⟨w.heap.size, 3, none⟩ = some (.int .i64 ticks) := hX.cellAt rfl
  have x4 : w2.cell? ⟨w.heap.size, 4, none⟩ = some (.int .i64 fault) := hX.cellAt rfl
  have y0 : w2.cell? ⟨w.heap.size + 1, 0, none⟩ = some (.int .i64 pc) := hY.cellAt rfl
  have y1 : w2.cell? ⟨w.heap.size + 1, 1, none⟩ = some (.slice B1 st.length d1) := hY.cellAt rfl
  have y2 : w2.cell? ⟨w.heap.size + 1, 2, none⟩ = some (.slice B2 me.length d2) := hY.cellAt rfl
  have y3 : w2.cell? ⟨w.heap.size + 1, 3, none⟩ = some (.int .i64 ticks) := hY.cellAt rfl
  have y4 : w2.cell? ⟨w.heap.size + 1, 4, none⟩ = some (.int .i64 fault) := hY.cellAt rfl
  have R1 := hid (h1.belowS hb2)
  have R2 := hid (h2.belowS hb2)
  have R3 := hid (h3.belowS hb2)
  have R4 := hid (h4.belowS hb2)
  have HB := hid hb2
  clear hX hY h1 h2 h3 h4 hb2
  generalize hN : st.length = N at *
  generalize hM : me.length = M at *
  have HN := hid hN
  have HM := hid hM
  clear hN hM
  go_enter Try.func18, Try.ntmps18
  go_wp2_with fail
  go_loopw [5] (fun v5 wr => ∃ k : Nat, k ≤ N ∧ v5 = .int .i64 (k : Int) ∧ ∃ q, wr = w2.drewN q) (fun v5 _ => N - (intOf v5).toNat)
  case atStart => exact ⟨0, by omega, rfl, 0, rfl⟩
  case round =>
    obtain ⟨k, hk, rfl, q, rfl⟩ := hrel
    by_cases hkn : k < N
    · obtain ⟨ad, x, rfl, _, hx1, hc1⟩ := R1.out.atM hkn
      obtain ⟨ad', x', rfl, _, hx2, hc2⟩ := R3.out.atM hkn
      have : x = x' := by rw [hx1] at hx2; exact Option.some.inj hx2
      subst this
      have z0 : (0 : Int) ≤ (k : Int) := Int.natCast_nonneg _
      have z1 : (k : Int) < (N : Int) := by omega
      clear hx1 hx2
      go_wp2_with fail
      go_quiet (fail)
      go_wp2_with fail
      go_roundw
      case rel => exact ⟨k + 1, by omega, by go_num, _, rfl⟩
      case measure => simp [intOf]; omega
    · obtain rfl : k = N := by omega
      have hkn' : decide ((k : Int) < (k : Int)) = false := decide_eq_false (by omega)
      go_wp2_with fail
      go_loopw [6] (fun v6 wr => ∃ k : Nat, k ≤ M ∧ v6 = .int .i64 (k : Int) ∧ ∃ q, wr = w2.drewN q) (fun v6 _ => M - (intOf v6).toNat)
      case atStart => exact ⟨0, by omega, rfl, q, rfl⟩
      case round =>
        obtain ⟨j, hj, rfl, q', rfl⟩ := hrel
        by_cases hjn : j < M
        · obtain ⟨ad, x, rfl, _, hx1, hc1⟩ := R2.out.atM hjn
          obtain ⟨ad', x', rfl, _, hx2, hc2⟩ := R4.out.atM hjn
          have : x = x' := by rw [hx1] at hx2; exact Option.some.inj hx2
          subst this
          have z0 : (0 : Int) ≤ (j : Int) := Int.natCast_nonneg _
          have z1 : (j : Int) < (M : Int) := by omega
          clear hx1 hx2
          go_wp2_with fail
          go_quiet (fail)
          go_wp2_with fail
          go_roundw
          case rel => exact ⟨j + 1, by omega, by go_num, _, rfl⟩
          case measure => simp [intOf]; omega
        · obtain rfl : j = M := by omega
          go_wp2_with fail
          go_ret
          exact ⟨rfl, below_drewN HB.out _⟩
set_option maxRecDepth 100000 in
set_option maxHeartbeats 2000000 in
theorem sameSent_any (l : List (Int × Int)) (A1 A2 : Option Addr) (n c1 c2 : Nat) (w : World) (h1 : RdS w w.heap.size 2 A1 n sentC l) (h2 : RdS w w.heap.size 2 A2 n sentC l) (hn : n ≤ 1000000) :
    Calls Try.prog 21 #[.slice A1 n c1, .slice A2 n c2] w fun e w' => e = .returned (.bool true) ∧ Below w.heap.size w w' := by
  go_enter Try.func21, Try.ntmps21
  go_wp2_with fail
  go_loopw [5] (fun v5 wr => ∃ k : Nat, k ≤ n ∧ v5 = .int .i64 (k : Int) ∧ ∃ q, wr = w.drewN q) (fun v5 _ => n - (intOf v5).toNat)
  case atStart => exact ⟨0, by omega, rfl, 0, rfl⟩
  case round =>
    obtain ⟨k, hk, rfl, q, rfl⟩ := hrel
    by_cases hkn : k < n
    · obtain ⟨ad, x, rfl, _, hx1, p0, p1⟩ := h1.at_ hkn
      obtain ⟨ad', x', rfl, _, hx2, q0, q1⟩ := h2.at_ hkn
      have : x = x' := by rw [hx1] at hx2; exact Option.some.inj hx2
      subst this
      have a0 := p0 _ rfl
      have a1 := p1 0 _ rfl
      have b0 := q0 _ rfl
      have b1 := q1 0 _ rfl
      obtain ⟨xa, xb⟩ := x
      simp only at a0 a1 b0 b1
      have z0 : (0 : Int) ≤ (k : Int) := Int.natCast_nonneg _
      have z1 : (k : Int) < (n : Int) := by omega
      clear hx1 hx2 p0 p1 q0 q1
      go_wp2_with fail
      go_quiet (fail)
      go_wp2_with fail
      go_roundw
      case rel => exact ⟨k + 1, by omega, by go_num, _, rfl⟩
      case measure => simp [intOf]; omega
    · obtain rfl : k = n := by omega
      go_wp2_with fail
      go_ret
      exact ⟨rfl, below_drewN (Below.refl _ _) _⟩
end Go.Proofs.Ytidlahljhgglcaa
