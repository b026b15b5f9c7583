/-
  A new machine.
-/
import Derived.Test.YtidlahljhgglcaaGreatVmMach
namespace Go.Proofs.YtidlahljhgglcaaGreat
open Go.RowKit Go.ChangeShapes Go.WideShapes Go.ChangeAt

def imgC (i : ImgS) (A : Option Addr) (c : Nat) : List Value := [.int .i64 i.part, .int .i64 i.ver, .int .i64 i.hard, .int .i64 i.mem, .int .i64 i.fuel, .int .i64 i.sends, .int .i64 i.recvs, .slice A i.code.length c]
theorem img_in (i : ImgS) (A : Option Addr) (c : Nat) (w : World) : ∃ w1 : World, w.alloc (.cells #[.int .i64 i.part, .int .i64 i.ver, .int .i64 i.hard, .int .i64 i.mem, .int .i64 i.fuel, .int .i64 i.sends, .int .i64 i.recvs, .slice A i.code.length c] 47) = w1 ∧ Below w.heap.size w w1 ∧ Blk w1 w.heap.size 47 (imgC i A c) ∧ w1.heap.size = w.heap.size + 1 :=
  ⟨_, rfl, (Below.refl _ _).alloc (Nat.le_refl _) _, Blk.new w _ (imgC i A c), by simp⟩
theorem img_cells {w : World} {b : Nat} {i : ImgS} {A : Option Addr} {c : Nat} (h : Blk w b 47 (imgC i A c)) :
    w.cell? ⟨b, 0, none⟩ = some (.int .i64 i.part) ∧ w.cell? ⟨b, 1, none⟩ = some (.int .i64 i.ver) ∧ w.cell? ⟨b, 2, none⟩ = some (.int .i64 i.hard) ∧ w.cell? ⟨b, 3, none⟩ = some (.int .i64 i.mem) ∧ w.cell? ⟨b, 4, none⟩ = some (.int .i64 i.fuel) ∧ w.cell? ⟨b, 5, none⟩ = some (.int .i64 i.sends) ∧ w.cell? ⟨b, 6, none⟩ = some (.int .i64 i.recvs) ∧ w.cell? ⟨b, 7, none⟩ = some (.slice A i.code.length c) :=
  ⟨h.cellAt rfl, h.cellAt rfl, h.cellAt rfl, h.cellAt rfl, h.cellAt rfl, h.cellAt rfl, h.cellAt rfl, h.cellAt rfl⟩
set_option maxRecDepth 100000 in
theorem vmNew_bad (i : ImgS) (A : Option Addr) (c : Nat) (w : World) (hl : i.code.length ≤ 9223372036854775807) (hR : rightI i = false) :
    Calls Tryz.prog 29 #[imgV i A c] w fun e w' => e = .returned (.tuple #[.pointer none, .int .i64 3]) ∧ Below w.heap.size w w' := by
  obtain ⟨w1, hw1, hb1, hB1, hs1⟩ := img_in i A c w
  obtain ⟨c0, c1, c2, c3, c4, c5, c6, c7⟩ := img_cells hB1
  have i1 := hid (imgRight_any i A c w1 hl)
  rw [hR] at i1
  unfold imgV at i1 ⊢
  have HB1 := hid hb1
  clear hb1 hB1 hs1
  go_enter Tryz.func29, Tryz.ntmps29
  go_wp2_with fail
  refine i1.out.mono ?_
  rintro e w2 ⟨rfl, hb2⟩
  go_wp2_with fail
  go_ret2
  exact ⟨rfl, bel_trans HB1.out hb2⟩
set_option maxRecDepth 100000 in
set_option maxHeartbeats 2000000 in
theorem vmNew_ok (i : ImgS) (A : Option Addr) (c : Nat) (w : World) (h : Reads w w.heap.size 1 A i.code.length (i.code.map bV)) (hR : rightI i = true) :
    Calls Tryz.prog 29 #[imgV i A c] w fun e w' => ∃ F g, e = .returned (.tuple #[.pointer (some ⟨g, 0, none⟩), .int .i64 0]) ∧ VmAt w' F g i (freshS i.mem.toNat) ∧ Below w.heap.size w w' ∧ ∀ b, F b → w.heap.size ≤ b := by
  have hRI := (rightI_iff i).1 hR
  have hml : i.mem.toNat ≤ 1000 := by have := hRI.2.2.2.1; omega
  have hmem : i.mem = ((i.mem.toNat : Nat) : Int) := by have := hRI.2.2.2.1; omega
  have hcl : i.code.length ≤ 1000 := by have := hRI.2.2.2.2.2.2.2; omega
  obtain ⟨w1, hw1, hb1, hB1, hs1⟩ := img_in i A c w
  obtain ⟨c0, c1, c2, c3, c4, c5, c6, c7⟩ := img_cells hB1
  have i1 := hid (imgRight_any i A c w1 (by omega))
  rw [hR] at i1
  have HR := hid (h.belowS hb1)
  have HB1 := hid hb1
  have HX1 := hid hB1
  have HM := hid hmem
  have HS1 := hid hs1
  unfold imgV at i1 ⊢
  clear hb1 hB1 h hmem hRI hR hs1
  go_enter Tryz.func29, Tryz.ntmps29
  go_wp2_with fail
  refine i1.out.mono ?_
  rintro e w2 ⟨rfl, hb2⟩
  have hX2 := HX1.out.belowS hb2
  clear c0 c1 c2 c3 c4 c5 c6 c7
  obtain ⟨c0, c1, c2, c3, c4, c5, c6, c7⟩ := img_cells hX2
  have HX2 := hid hX2
  have HB2 := hid (bel_trans HB1.out hb2)
  have i2 := hid (cloneB_any A i.code.length c i.code w2 (HR.out.belowS hb2) (by omega))
  clear hX2 hb2 i1
  go_wp2_with fail
  refine i2.out.mono ?_
  rintro e w3 ⟨A3, c3', rfl, ho3, hb3⟩
  have hX3 := HX2.out.belowS hb3
  clear c0 c1 c2 c3 c4 c5 c6 c7
  obtain ⟨c0, c1, c2, c3, c4, c5, c6, c7⟩ := img_cells hX3
  have qf := hX3.frozen 7
  have HX3 := hid hX3
  have HB3 := hid (bel_trans HB2.out hb3)
  have HO3 := hid ho3
  have HLT := hid HX2.out.lt
  clear hX3 hb3 i2 ho3
  go_wp2_with fail
  clear c0 c1 c2 c3 c4 c5 c6 c7 qf
  obtain ⟨w4, hw4, hk4, hb4, hs4⟩ : ∃ W, w3.setCell ⟨w.heap.size, 7, none⟩ (.slice A3 i.code.length c3') = W ∧ (∀ b, b ≠ w.heap.size → W.heap[b]? = w3.heap[b]?) ∧ Below w.heap.size w W ∧ W.heap.size = w3.heap.size :=
    ⟨_, rfl, fun b hb => Below.heap_setCell _ _ _ _ hb, HB3.out.setCell (p := ⟨w.heap.size, 7, none⟩) (Nat.le_refl _) _, by simp [World.setCell]⟩
  rw [hw4]
  have ho4 : w4.ownsRow w2.heap.size 5 1 (.slice A3 i.code.length c3') i.code.length (i.code.map bV) := own_keep HO3.out fun b hb => hk4 b (by have := (HO3.out.lt b (ownBlock_foot.2 hb)).1; have := HLT.out; omega)
  have hm : MachIn (w4.alloc (.cells (machC i ⟨A3, c3', none, 0, none, 0⟩ ⟨0, [], [], 0, 0⟩).toArray 128)) w3.heap.size i ⟨A3, c3', none, 0, none, 0⟩ ⟨0, [], [], 0, 0⟩ := by
    rw [← hs4]
    exact ⟨Blk.new w4 _ _, (Row.of_own ho4).alloc _, Row.nil _ _, Row.nil _ _, fun b hb => by obtain ⟨x, hx, _⟩ := hb; cases hx⟩
  have i3 := hid (reset_in hm i.mem.toNat HM.out hml)
  have HB4 := hid hb4
  have HF : Hid (∀ b, Foot A3 b → w.heap.size ≤ b) := hid fun b hb => by have := (HO3.out.lt b (ownBlock_foot.2 hb)).1; have := HLT.out; omega
  have HSZ := hid HB3.out.size
  clear hw4 hk4 hb4 hs4 ho4 hm
  go_wp2_with fail
  refine i3.out.mono ?_
  rintro e w5 ⟨rfl, a', hm5, hg5⟩
  have HM5 := hid hm5
  have HG5 := hid hg5
  clear hm5 hg5
  go_wp2_with fail
  go_ret2
  have hFm : ∀ b, MachF w3.heap.size ⟨A3, c3', none, 0, none, 0⟩ b → w.heap.size ≤ b := fun b hb => by
    rcases hb with rfl | hb | hb | hb
    · exact HSZ.out
    · exact HF.out b hb
    · obtain ⟨x, hx, _⟩ := hb; cases hx
    · obtain ⟨x, hx, _⟩ := hb; cases hx
  have hx := HG5.out.bel (bel_alloc HB4.out (.cells (machC i ⟨A3, c3', none, 0, none, 0⟩ ⟨0, [], [], 0, 0⟩).toArray 128)) (Nat.le_refl _) hFm
  exact ⟨_, _, rfl, HM5.out.at_, hx.1, hx.2⟩
end Go.Proofs.YtidlahljhgglcaaGreat
