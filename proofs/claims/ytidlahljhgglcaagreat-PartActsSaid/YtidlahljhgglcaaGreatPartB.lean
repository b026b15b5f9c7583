/-
  Package part: State, Image, Boot, Run.
-/
import Derived.Test.YtidlahljhgglcaaGreatQc
namespace Go.Proofs.YtidlahljhgglcaaGreat
open Go.RowKit Go.ChangeShapes Go.WideShapes Go.ChangeAt

section
variable {w w' w0 : World} {p g gs : Nat} {i : ImgS} {cs : List ChanS} {s : VmS} {ss : Nat → WayS} {l : List Comp} {b : Int} {m : Option Nat}
theorem pstate_nil (w : World) : Calls Tryz.prog 25 #[.pointer none] w fun e w' => e = .returned (stateV ⟨0, [], [], 0, 0⟩ none 0 none 0) ∧ Below w.heap.size w w' := by
  go_enter Tryz.func25, Tryz.ntmps25
  go_wp2_with fail
  refine (empty_nil _).mono ?_
  rintro e w' ⟨rfl, rfl⟩
  go_wp2_with fail
  go_returns
  exact ⟨rfl, below_alloc1 _ _⟩
theorem pstate_none (h : AllS w0 (ptC p none b :: l) w) : Calls Tryz.prog 25 #[.pointer (some ⟨p, 0, none⟩)] w fun e w' => e = .returned (stateV ⟨0, [], [], 0, 0⟩ none 0 none 0) ∧ Below w.heap.size w w' := by
  have i1 := hid (fun W (hb : Below w.heap.size w W) => empty_any (h.belowS hb))
  clear h
  go_enter Tryz.func25, Tryz.ntmps25
  go_wp2_with fail
  refine (i1.out _ (below_alloc1 _ _)).mono ?_
  rintro e w' ⟨rfl, rfl⟩
  go_wp2_with fail
  go_returns
  exact ⟨rfl, below_alloc1 _ _⟩
set_option maxRecDepth 100000 in
set_option maxHeartbeats 2000000 in
theorem pstate_any (h : AllS w0 (ptC p (some g) b :: vmC g i s :: l) w) (hI : RightI i) (hs : FineS i s) :
    Calls Tryz.prog 25 #[.pointer (some ⟨p, 0, none⟩)] w fun e w' => ∃ A1 c1 A2 c2, e = .returned (stateV s A1 c1 A2 c2) ∧ w'.ownsRow w.heap.size 3 1 (.slice A1 s.stack.length c1) s.stack.length (s.stack.map iV) ∧ w'.ownsRow w.heap.size 3 1 (.slice A2 s.mem.length c2) s.mem.length (s.mem.map iV) ∧ Below w.heap.size w w' := by
  obtain ⟨w1, hw1, hX1, hb1, hs1⟩ : ∃ W, w.alloc (.cells #[.int .i64 0, .slice none 0 0, .slice none 0 0, .int .i64 0, .int .i64 0] 53) = W ∧ Blk W w.heap.size 53 [.int .i64 0, .slice none 0 0, .slice none 0 0, .int .i64 0, .int .i64 0] ∧ Below w.heap.size w W ∧ W.heap.size = w.heap.size + 1 := ⟨_, rfl, Blk.new w _ [.int .i64 0, .slice none 0 0, .slice none 0 0, .int .i64 0, .int .i64 0], below_alloc1 _ _, by simp⟩
  have H1 := hid (h.belowS hb1)
  have i1 := hid (empty_any H1.out)
  have i2 := hid (H1.out.drop.stateA hI hs)
  obtain ⟨c0, _, _⟩ := H1.out.ptCells
  simp only [Option.map_some] at c0
  have HX1 := hid hX1
  have HB1 := hid hb1
  have HS1 := hid hs1
  unfold stateV at i2 ⊢
  obtain ⟨pc, st, me, tk, fa⟩ := s
  simp only at i2 ⊢
  obtain ⟨N, hN⟩ : ∃ N, st.length = N := ⟨_, rfl⟩
  obtain ⟨M, hM⟩ : ∃ M, me.length = M := ⟨_, rfl⟩
  rw [hN, hM] at i2
  rw [hN, hM]
  clear h hX1 hb1 hs1 hN hM
  go_enter Tryz.func25, Tryz.ntmps25
  go_wp2_with fail
  refine i1.out.mono ?_
  rintro e w' ⟨rfl, rfl⟩
  go_wp2_with fail
  refine i2.out.mono ?_
  rintro e w2 ⟨A1, c1, A2, c2, rfl, ho1, ho2, hb2⟩
  have hX2 := HX1.out.belowS hb2
  have z0 : w2.cell? ⟨w.heap.size, 0, none⟩ = some (.int .i64 0) := hX2.cellAt rfl
  have z1 : w2.cell? ⟨w.heap.size, 1, none⟩ = some (.slice none 0 0) := hX2.cellAt rfl
  have z2 : w2.cell? ⟨w.heap.size, 2, none⟩ = some (.slice none 0 0) := hX2.cellAt rfl
  have z3 : w2.cell? ⟨w.heap.size, 3, none⟩ = some (.int .i64 0) := hX2.cellAt rfl
  have z4 : w2.cell? ⟨w.heap.size, 4, none⟩ = some (.int .i64 0) := hX2.cellAt rfl
  have zf := hX2.frozen
  have HX2 := hid hX2
  have HO1 := hid ho1
  have HO2 := hid ho2
  have HB2 := hid (bel_trans HB1.out hb2)
  clear hX2 ho1 ho2 hb2 c0
  go_wp2_with fail
  obtain ⟨w3, hw3, hb3, hk3, hr3⟩ := store5V HX2.out rfl (.int .i64 pc) (.slice A1 N c1) (.slice A2 M c2) (.int .i64 tk) (.int .i64 fa)
  rw [hw3]
  clear hw3 z0 z1 z2 z3 z4 zf
  obtain ⟨r0, r1, r2, r3, r4⟩ : _ ∧ _ ∧ _ ∧ _ ∧ _ := ⟨hr3.cellAt (i := 0) rfl, hr3.cellAt (i := 1) rfl, hr3.cellAt (i := 2) rfl, hr3.cellAt (i := 3) rfl, hr3.cellAt (i := 4) rfl⟩
  refine bodyPost_ret (v := .agg #[.int .i64 pc, .slice A1 N c1, .slice A2 M c2, .int .i64 tk, .int .i64 fa]) (by simp [results, Tryz.results25, go_sem, r0, r1, r2, r3, r4]) rfl ?_
  have hh := HS1.out
  exact ⟨A1, c1, A2, c2, rfl, own_mono (own_keep HO1.out fun x hx => hk3 x (by have := (HO1.out.lt x (ownBlock_foot.2 hx)).1; omega)) (by omega), own_mono (own_keep HO2.out fun x hx => hk3 x (by have := (HO2.out.lt x (ownBlock_foot.2 hx)).1; omega)) (by omega), HB2.out.trans (hb3.mono (Nat.le_refl _))⟩
theorem pimage_nil (w : World) : Calls Tryz.prog 19 #[.pointer none] w fun e w' => e = .returned (.tuple #[imgV ⟨0, 0, 0, 0, 0, 0, 0, []⟩ none 0, .bool false]) ∧ Below w.heap.size w w' := by
  go_enter Tryz.func19, Tryz.ntmps19
  go_wp2_with fail
  refine (empty_nil _).mono ?_
  rintro e w' ⟨rfl, rfl⟩
  go_wp2_with fail
  go_returns
  exact ⟨rfl, below_alloc1 _ _⟩
theorem pimage_none (h : AllS w0 (ptC p none b :: l) w) : Calls Tryz.prog 19 #[.pointer (some ⟨p, 0, none⟩)] w fun e w' => e = .returned (.tuple #[imgV ⟨0, 0, 0, 0, 0, 0, 0, []⟩ none 0, .bool false]) ∧ Below w.heap.size w w' := by
  have i1 := hid (fun W (hb : Below w.heap.size w W) => empty_any (h.belowS hb))
  clear h
  go_enter Tryz.func19, Tryz.ntmps19
  go_wp2_with fail
  refine (i1.out _ (below_alloc1 _ _)).mono ?_
  rintro e w' ⟨rfl, rfl⟩
  go_wp2_with fail
  go_returns
  exact ⟨rfl, below_alloc1 _ _⟩
set_option maxRecDepth 100000 in
set_option maxHeartbeats 2000000 in
theorem pimage_any (h : AllS w0 (ptC p (some g) b :: vmC g i s :: l) w) (hI : RightI i) :
    Calls Tryz.prog 19 #[.pointer (some ⟨p, 0, none⟩)] w fun e w' => ∃ A c, e = .returned (.tuple #[imgV i A c, .bool true]) ∧ w'.ownsRow w.heap.size 5 1 (.slice A i.code.length c) i.code.length (i.code.map bV) ∧ Below w.heap.size w w' := by
  obtain ⟨w1, hw1, hX1, hb1, hs1⟩ : ∃ W, w.alloc (.cells #[.int .i64 0, .int .i64 0, .int .i64 0, .int .i64 0, .int .i64 0, .int .i64 0, .int .i64 0, .slice none 0 0] 47) = W ∧ Blk W w.heap.size 47 [.int .i64 0, .int .i64 0, .int .i64 0, .int .i64 0, .int .i64 0, .int .i64 0, .int .i64 0, .slice none 0 0] ∧ Below w.heap.size w W ∧ W.heap.size = w.heap.size + 1 := ⟨_, rfl, Blk.new w _ [.int .i64 0, .int .i64 0, .int .i64 0, .int .i64 0, .int .i64 0, .int .i64 0, .int .i64 0, .slice none 0 0], below_alloc1 _ _, by simp⟩
  have H1 := hid (h.belowS hb1)
  have i1 := hid (empty_any H1.out)
  have i2 := hid (H1.out.drop.imageA hI)
  obtain ⟨c0, _, _⟩ := H1.out.ptCells
  simp only [Option.map_some] at c0
  have HX1 := hid hX1
  have HB1 := hid hb1
  have HS1 := hid hs1
  unfold imgV at i2 ⊢
  obtain ⟨N, hN⟩ : ∃ N, i.code.length = N := ⟨_, rfl⟩
  rw [hN] at i2
  rw [hN]
  clear h hX1 hb1 hs1 hN hI
  go_enter Tryz.func19, Tryz.ntmps19
  go_wp2_with fail
  refine i1.out.mono ?_
  rintro e w' ⟨rfl, rfl⟩
  go_wp2_with fail
  refine i2.out.mono ?_
  rintro e w2 ⟨A1, c1, rfl, ho1, hb2⟩
  have hX2 := HX1.out.belowS hb2
  have z0 : w2.cell? ⟨w.heap.size, 0, none⟩ = some (.int .i64 0) := hX2.cellAt rfl
  have z1 : w2.cell? ⟨w.heap.size, 1, none⟩ = some (.int .i64 0) := hX2.cellAt rfl
  have z2 : w2.cell? ⟨w.heap.size, 2, none⟩ = some (.int .i64 0) := hX2.cellAt rfl
  have z3 : w2.cell? ⟨w.heap.size, 3, none⟩ = some (.int .i64 0) := hX2.cellAt rfl
  have z4 : w2.cell? ⟨w.heap.size, 4, none⟩ = some (.int .i64 0) := hX2.cellAt rfl
  have z5 : w2.cell? ⟨w.heap.size, 5, none⟩ = some (.int .i64 0) := hX2.cellAt rfl
  have z6 : w2.cell? ⟨w.heap.size, 6, none⟩ = some (.int .i64 0) := hX2.cellAt rfl
  have z7 : w2.cell? ⟨w.heap.size, 7, none⟩ = some (.slice none 0 0) := hX2.cellAt rfl
  have zf := hX2.frozen
  have HX2 := hid hX2
  have HO1 := hid ho1
  have HB2 := hid (bel_trans HB1.out hb2)
  clear hX2 ho1 hb2 c0
  go_wp2_with fail
  obtain ⟨w3, hw3, hb3, hk3, hr3⟩ := store8V HX2.out rfl (.int .i64 i.part) (.int .i64 i.ver) (.int .i64 i.hard) (.int .i64 i.mem) (.int .i64 i.fuel) (.int .i64 i.sends) (.int .i64 i.recvs) (.slice A1 N c1)
  rw [hw3]
  clear hw3 z0 z1 z2 z3 z4 z5 z6 z7 zf
  obtain ⟨r0, r1, r2, r3, r4, r5, r6, r7⟩ : _ ∧ _ ∧ _ ∧ _ ∧ _ ∧ _ ∧ _ ∧ _ := ⟨hr3.cellAt (i := 0) rfl, hr3.cellAt (i := 1) rfl, hr3.cellAt (i := 2) rfl, hr3.cellAt (i := 3) rfl, hr3.cellAt (i := 4) rfl, hr3.cellAt (i := 5) rfl, hr3.cellAt (i := 6) rfl, hr3.cellAt (i := 7) rfl⟩
  refine bodyPost_ret (v := .tuple #[.agg #[.int .i64 i.part, .int .i64 i.ver, .int .i64 i.hard, .int .i64 i.mem, .int .i64 i.fuel, .int .i64 i.sends, .int .i64 i.recvs, .slice A1 N c1], .bool true]) (by simp [results, Tryz.results19, go_sem, r0, r1, r2, r3, r4, r5, r6, r7]) rfl ?_
  have hh := HS1.out
  exact ⟨A1, c1, rfl, own_mono (own_keep HO1.out fun x hx => hk3 x (by have := (HO1.out.lt x (ownBlock_foot.2 hx)).1; omega)) (by omega), HB2.out.trans (hb3.mono (Nat.le_refl _))⟩
end
end Go.Proofs.YtidlahljhgglcaaGreat
