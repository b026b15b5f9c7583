/-
  The reference of layer 23.
-/
import Derived.Test.YtidlahljhgglcaaGreatQc
import Derived.Test.YtidlahljhgglcaaGreatPartR
import Derived.Test.YtidlahljhgglcaaGreatRef06R
namespace Go.Proofs.YtidlahljhgglcaaGreat
open Go.RowKit Go.ChangeShapes Go.WideShapes Go.ChangeAt

def rpC (p : Nat) (m : Option Nat) (b : Int) : Comp := blkC p 42 [.pointer (m.map fun g => ⟨g, 0, none⟩), .int .i64 b]
section
variable {w w' w0 : World} {p g gR : Nat} {i : ImgS} {cs : List ChanS} {s : VmS} {ss : Nat → WayS} {l : List Comp} {b : Int} {m : Option Nat}
theorem AllS.rpCells (h : AllS w0 (rpC p m b :: l) w) : w.cell? ⟨p, 0, none⟩ = some (.pointer (m.map fun g => ⟨g, 0, none⟩)) ∧ w.cell? ⟨p, 1, none⟩ = some (.int .i64 b) ∧ ∀ k, w.frozen? ⟨p, k, none⟩ = false := by
  have hb : Blk w p 42 [.pointer (m.map fun g => ⟨g, 0, none⟩), .int .i64 b] := AllS.blk h
  exact ⟨hb.cellAt rfl, hb.cellAt rfl, hb.frozen⟩
theorem rBoot_bad (i : ImgS) (A : Option Addr) (c : Nat) (p : Nat) (w : World) (hl : i.code.length ≤ 9223372036854775807) (hR : rightI i = false) :
    Calls Tryz.prog 10 #[.pointer (some ⟨p, 0, none⟩), imgV i A c] w fun e w' => e = .returned (.int .i64 3) ∧ Below w.heap.size w w' := by
  obtain ⟨w1, hw1, hb1, hB1, hs1⟩ := img_in i A c w
  obtain ⟨c0, c1, c2, c3, c4, c5, c6, c7⟩ := img_cells hB1
  have HB1 := hid hb1
  have i1 := hid (fun w => refRightI_any i A c w hl)
  rw [hR] at i1
  unfold imgV at i1 ⊢
  clear hb1 hB1 hR hs1
  go_enter Tryz.func10, Tryz.ntmps10
  go_wp2_with fail
  refine (i1.out _).mono ?_
  rintro e w2 ⟨rfl, hb2⟩
  have HB2 := hid (show Below w.heap.size w w2 from by first | exact bel_trans HB1.out hb2 | (rw [hw1] at hb2; exact bel_trans HB1.out hb2))
  clear hb2
  go_wp2_with fail
  go_ret
  exact ⟨rfl, HB2.out⟩
set_option maxRecDepth 100000 in
set_option maxHeartbeats 2000000 in
theorem rBoot_ok (h : AllS w0 (rpC p m b :: l) w) (A : Option Addr) (c : Nat) (hrd : Reads w w.heap.size 1 A i.code.length (i.code.map bV)) (hR : rightI i = true) (hb0 : 0 ≤ b) (hb9 : b ≤ 1000000) :
    Calls Tryz.prog 10 #[.pointer (some ⟨p, 0, none⟩), imgV i A c] w fun e w' => e = .returned (.int .i64 0) ∧ ∃ g', AllS w0 (rpC p (some g') (b + 1) :: rvC g' i (freshS i.mem.toNat) :: l) w' := by
  have HI := hid ((rightI_iff i).1 hR)
  obtain ⟨w1, hw1, hb1, hB1, hs1⟩ := img_in i A c w
  obtain ⟨c0, c1, c2, c3, c4, c5, c6, c7⟩ := img_cells hB1
  have H1 := hid (h.belowS hb1)
  have HRD := hid (hrd.belowS hb1)
  have HX1 := hid hB1
  have i1 := hid (fun w => refRightI_any i A c w (by have := HI.out.2.2.2.2.2.2.2; omega))
  rw [hR] at i1
  have i2 := hid (fun W (hr : Reads W W.heap.size 1 A i.code.length (i.code.map bV)) => rvNew_any i A c W hr HI.out)
  unfold imgV at i1 i2 ⊢
  clear hb1 hB1 hR hs1 h hrd
  go_enter Tryz.func10, Tryz.ntmps10
  go_wp2_with fail
  refine (i1.out _).mono ?_
  rintro e w2 ⟨rfl, hb2'⟩
  have hb2 : Below w1.heap.size w1 w2 := by first | exact hb2' | (rw [← hw1]; exact hb2')
  have H2 := hid (H1.out.belowS hb2)
  have HR2 := hid (HRD.out.belowS hb2)
  have hX2 := HX1.out.belowS hb2
  clear c0 c1 c2 c3 c4 c5 c6 c7 hb2 hb2' i1
  obtain ⟨c0, c1, c2, c3, c4, c5, c6, c7⟩ := img_cells hX2
  clear hX2
  go_wp2_with fail
  refine (i2.out _ HR2.out).mono ?_
  rintro e w3 ⟨F1, g', rfl, hM, hb3, hF1⟩
  have hP := (H2.out.push hb3 (C := rvC g' i (freshS i.mem.toNat)) hM hF1).perm (List.Perm.swap _ _ _)
  obtain ⟨q0, q1, qf⟩ := hP.rpCells
  have HP := hid hP
  clear hM hb3 hF1 hP i2 c0 c1 c2 c3 c4 c5 c6 c7
  go_wp2_with fail
  go_ret
  refine ⟨rfl, g', ?_⟩
  have h9 : AllS w0 (blkC p 42 [.pointer (m.map fun g => ⟨g, 0, none⟩), .int .i64 b] :: rvC g' i (freshS i.mem.toNat) :: l) w3 := HP.out
  exact (h9.store 0 (.pointer (some ⟨g', 0, none⟩))).store 1 (.int .i64 (b + 1))
theorem rRuns_none (h : AllS w0 (rpC p none b :: l) w) : Calls Tryz.prog 22 #[.pointer (some ⟨p, 0, none⟩)] w fun e w' => e = .returned (.bool false) ∧ w = w' := by
  obtain ⟨c0, _, _⟩ := h.rpCells
  simp only [Option.map_none] at c0
  clear h
  go_enter Tryz.func22, Tryz.ntmps22
  go_wp2_with fail
  go_ret
  exact ⟨rfl, rfl⟩
theorem rRuns_any (h : AllS w0 (rpC p (some g) b :: rvC g i s :: l) w) : Calls Tryz.prog 22 #[.pointer (some ⟨p, 0, none⟩)] w fun e w' => e = .returned (.bool (s.fault == 0)) ∧ w = w' := by
  obtain ⟨c0, _, _⟩ := h.rpCells
  simp only [Option.map_some] at c0
  obtain ⟨a, _, _, _, _, c12, _, _⟩ := h.drop.rvCells
  clear h
  go_enter Tryz.func22, Tryz.ntmps22
  go_wp2_with fail
  go_ret
  exact ⟨rfl, rfl⟩
theorem rState_none (h : AllS w0 (rpC p none b :: l) w) : Calls Tryz.prog 15 #[.pointer (some ⟨p, 0, none⟩)] w fun e w' => e = .returned (stateV ⟨0, [], [], 0, 0⟩ none 0 none 0) ∧ Below w.heap.size w w' := by
  obtain ⟨c0, _, _⟩ := h.rpCells
  simp only [Option.map_none] at c0
  have d0 := fun o => cell_alloc c0 o
  clear h
  go_enter Tryz.func15, Tryz.ntmps15
  go_wp2_with fail
  go_returns
  exact ⟨rfl, below_alloc1 _ _⟩
set_option maxRecDepth 100000 in
set_option maxHeartbeats 2000000 in
theorem rState_any (h : AllS w0 (rpC p (some g) b :: rvC g i s :: l) w) :
    Calls Tryz.prog 15 #[.pointer (some ⟨p, 0, none⟩)] w fun e w' => ∃ A1 c1 A2 c2, e = .returned (stateV s A1 c1 A2 c2) ∧ Reads w w.heap.size 1 A1 s.stack.length (s.stack.map iV) ∧ Reads w w.heap.size 1 A2 s.mem.length (s.mem.map iV) ∧ Below w.heap.size w w' := by
  obtain ⟨c0, _, _⟩ := h.rpCells
  simp only [Option.map_some] at c0
  obtain ⟨a, c8, c9, c10, c11, c12, hr1, hr2⟩ := h.drop.rvCells
  have HR1 := hid hr1
  have HR2 := hid hr2
  obtain ⟨pc, st, me, tk, fa⟩ := s
  simp only at c8 c9 c10 c11 c12 HR1 HR2
  unfold stateV
  simp only
  have d0 := fun o => cell_alloc c0 o
  have d8 := fun o => cell_alloc c8 o
  have d9 := fun o => cell_alloc c9 o
  have d10 := fun o => cell_alloc c10 o
  have d11 := fun o => cell_alloc c11 o
  have d12 := fun o => cell_alloc c12 o
  clear h hr1 hr2
  go_enter Tryz.func15, Tryz.ntmps15
  go_wp2_with fail
  go_returns
  exact ⟨a.As, a.cS, a.Am, a.cM, rfl, HR1.out, HR2.out, below_alloc1 _ _⟩
def rrunV (A : Option Addr) (n c : Nat) (cf is : Bool) : Value := .agg #[.slice A n c, .bool cf, .bool is]
theorem rRun_none (h : AllS w0 (rpC p none b :: l) w) (x : Value) : Calls Tryz.prog 12 #[.pointer (some ⟨p, 0, none⟩), x] w fun e w' => e = .returned (rrunV none 0 0 false false) ∧ Below w.heap.size w w' := by
  have i1 := hid (fun W (hb : Below w.heap.size w W) => rRuns_none (h.belowS hb))
  clear h
  go_enter Tryz.func12, Tryz.ntmps12
  go_wp2_with fail
  refine (i1.out _ (below_alloc1 _ _)).mono ?_
  rintro e w' ⟨rfl, rfl⟩
  go_wp2_with fail
  go_returns
  exact ⟨rfl, below_alloc1 _ _⟩
theorem rRun_fault (h : AllS w0 (rpC p (some g) b :: rvC g i s :: l) w) (hf : s.fault ≠ 0) (x : Value) : Calls Tryz.prog 12 #[.pointer (some ⟨p, 0, none⟩), x] w fun e w' => e = .returned (rrunV none 0 0 false false) ∧ Below w.heap.size w w' := by
  have i1 := hid (fun W (hb : Below w.heap.size w W) => rRuns_any (h.belowS hb))
  rw [show (s.fault == 0) = false by simpa using hf] at i1
  clear h hf
  go_enter Tryz.func12, Tryz.ntmps12
  go_wp2_with fail
  refine (i1.out _ (below_alloc1 _ _)).mono ?_
  rintro e w' ⟨rfl, rfl⟩
  go_wp2_with fail
  go_returns
  exact ⟨rfl, below_alloc1 _ _⟩
theorem store3V {w : World} {b : Nat} {T : TypeId} {cs : List Value} (h : Blk w b T cs) (hl : cs.length = 3) (v0 v1 v2 : Value) :
    ∃ w' : World, ((w.setCell ⟨b, 0, none⟩ v0).setCell ⟨b, 1, none⟩ v1).setCell ⟨b, 2, none⟩ v2 = w' ∧ Blk w' b T [v0, v1, v2] := by
  refine ⟨_, rfl, ?_⟩
  have := ((h.set_ 0 v0).set_ 1 v1).set_ 2 v2
  match cs, hl with
  | [_, _, _], _ => exact this
set_option maxRecDepth 100000 in
set_option maxHeartbeats 4000000 in
theorem rRun_ok (h : AllS w0 (rpC p (some g) b :: rvC g i s :: refC gR cs (hL ss) :: l) w) (hI : RightI i) (hs : FineS i s) (hK : KAll cs ss) (hd : ∀ k, k < cs.length → depthAt cs k ≤ 4) (hf : s.fault = 0) (ht0 : 0 ≤ s.ticks) (ht1 : s.ticks ≤ 1000000000) :
    Calls Tryz.prog 12 #[.pointer (some ⟨p, 0, none⟩), .pointer (some ⟨gR, 0, none⟩)] w fun e w' => ∃ A c, e = .returned (rrunV A (tickF i cs s ss).2.2.1.length c (tickF i cs s ss).2.2.2 true) ∧
      AllS w0 (rowC 116 2 A (tickF i cs s ss).2.2.1.length c ((tickF i cs s ss).2.2.1.flatMap sentC) :: rpC p (some g) b :: rvC g i (tickF i cs s ss).1 :: refC gR cs (hL (tickF i cs s ss).2.1) :: l) w' := by
  have i1 := hid (fun W (hb : Below w.heap.size w W) => rRuns_any (h.belowS hb))
  rw [show (s.fault == 0) = true by simpa using hf] at i1
  obtain ⟨w1, hw1, hb1, hA1⟩ : ∃ W, w.alloc (.cells #[.slice none 0 0, .bool false, .bool false] 61) = W ∧ Hid (Below w.heap.size w W) ∧ Hid (AllS w0 (blkC w.heap.size 61 [.slice none 0 0, .bool false, .bool false] :: rpC p (some g) b :: rvC g i s :: refC gR cs (hL ss) :: l) W) := ⟨_, rfl, hid (below_alloc1 _ _), hid (h.made (T := 61) (xs := [.slice none 0 0, .bool false, .bool false]))⟩
  have iT := hid (fun W l' (hA : AllS w0 (rvC g i s :: refC gR cs (hL ss) :: l') W) => hA.tickR hI hs hK hd ht0 ht1)
  obtain ⟨r, hr⟩ : ∃ r, tickF i cs s ss = r := ⟨_, rfl⟩
  simp only [hr] at iT ⊢
  obtain ⟨s', ss', sent, cf⟩ := r
  simp only at iT ⊢
  unfold outV at iT
  clear h hf hs hK hd hr hI
  go_enter Tryz.func12, Tryz.ntmps12
  go_wp2_with fail
  refine (i1.out _ hb1.out).mono ?_
  rintro e w2 ⟨rfl, rfl⟩
  obtain ⟨q0, _, _⟩ := hA1.out.drop.rpCells
  simp only [Option.map_some] at q0
  have iT2 := hid (iT.out w1 _ (hA1.out.perm (List.Perm.append_right l (List.perm_append_comm (l₁ := [blkC w.heap.size 61 [.slice none 0 0, .bool false, .bool false], rpC p (some g) b]) (l₂ := [rvC g i s, refC gR cs (hL ss)])))))
  clear iT i1 hb1 hA1
  go_wp2_with fail
  refine iT2.out.mono ?_
  rintro e w3 ⟨A, c, rfl, hA3⟩
  have hP := hA3.perm (List.Perm.append_right l (List.perm_append_comm (l₁ := [rvC g i s', refC gR cs (hL ss'), rowC 116 2 A sent.length c (sent.flatMap sentC)]) (l₂ := [blkC w.heap.size 61 [.slice none 0 0, .bool false, .bool false], rpC p (some g) b])))
  have hX := hP.blk
  have z0 : w3.cell? ⟨w.heap.size, 0, none⟩ = some (.slice none 0 0) := hX.cellAt rfl
  have z1 : w3.cell? ⟨w.heap.size, 1, none⟩ = some (.bool false) := hX.cellAt rfl
  have z2 : w3.cell? ⟨w.heap.size, 2, none⟩ = some (.bool false) := hX.cellAt rfl
  have zf := hX.frozen
  have HX := hid hX
  have HP := hid hP
  obtain ⟨N, hN⟩ : ∃ N, sent.length = N := ⟨_, rfl⟩
  have HN := hid hN
  rw [hN]
  clear hA3 hP hX iT2 q0 hw1 hN
  go_wp2_with fail
  obtain ⟨w4, hw4, hr4⟩ := store3V HX.out rfl (.slice A N c) (.bool cf) (.bool true)
  have h4 := ((HP.out.store 0 (.slice A N c)).store 1 (.bool cf)).store 2 (.bool true)
  rw [hw4] at h4 ⊢
  have h5 := h4.drop.perm (List.Perm.append_right l (List.perm_append_comm (l₁ := [rpC p (some g) b, rvC g i s', refC gR cs (hL ss')]) (l₂ := [rowC 116 2 A sent.length c (sent.flatMap sentC)])))
  have H5 := hid h5
  obtain ⟨r0, r1, r2⟩ : _ ∧ _ ∧ _ := ⟨hr4.cellAt (i := 0) rfl, hr4.cellAt (i := 1) rfl, hr4.cellAt (i := 2) rfl⟩
  clear hw4 z0 z1 z2 zf h4 h5
  refine bodyPost_ret (v := rrunV A N c cf true) (by simp [results, rrunV, Tryz.results12, go_sem, r0, r1, r2]) rfl ?_
  have h9 := H5.out
  rw [HN.out] at h9 ⊢
  exact ⟨A, c, rfl, h9⟩
end
end Go.Proofs.YtidlahljhgglcaaGreat
