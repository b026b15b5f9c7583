/-
  Package part: Boot, Run.
-/
import Derived.Test.YtidlahljhgglcaaGreatPartB
import Derived.Test.YtidlahljhgglcaaGreatVmNew
namespace Go.Proofs.YtidlahljhgglcaaGreat
open Go.RowKit Go.ChangeShapes Go.WideShapes Go.ChangeAt

theorem store7V {w : World} {b : Nat} {T : TypeId} {cs : List Value} (h : Blk w b T cs) (hl : cs.length = 7) (v0 v1 v2 v3 v4 v5 v6 : Value) :
    ∃ w' : World, ((((((w.setCell ⟨b, 0, none⟩ v0).setCell ⟨b, 1, none⟩ v1).setCell ⟨b, 2, none⟩ v2).setCell ⟨b, 3, none⟩ v3).setCell ⟨b, 4, none⟩ v4).setCell ⟨b, 5, none⟩ v5).setCell ⟨b, 6, none⟩ v6 = w' ∧ Below b w w' ∧ (∀ k, k ≠ b → w'.heap[k]? = w.heap[k]?) ∧ Blk w' b T [v0, v1, v2, v3, v4, v5, v6] := by
  refine ⟨_, rfl, (((((((Below.refl _ _).setCell (p := ⟨b, 0, none⟩) (Nat.le_refl _) _).setCell (p := ⟨b, 1, none⟩) (Nat.le_refl _) _).setCell (p := ⟨b, 2, none⟩) (Nat.le_refl _) _).setCell (p := ⟨b, 3, none⟩) (Nat.le_refl _) _).setCell (p := ⟨b, 4, none⟩) (Nat.le_refl _) _).setCell (p := ⟨b, 5, none⟩) (Nat.le_refl _) _).setCell (p := ⟨b, 6, none⟩) (Nat.le_refl _) _, fun k hk => (Below.heap_setCell _ _ _ _ hk).trans ((Below.heap_setCell _ _ _ _ hk).trans ((Below.heap_setCell _ _ _ _ hk).trans ((Below.heap_setCell _ _ _ _ hk).trans ((Below.heap_setCell _ _ _ _ hk).trans ((Below.heap_setCell _ _ _ _ hk).trans (Below.heap_setCell _ _ _ _ hk)))))), ?_⟩
  have := (((((((h.set_ 0 v0).set_ 1 v1).set_ 2 v2).set_ 3 v3).set_ 4 v4).set_ 5 v5).set_ 6 v6)
  match cs, hl with
  | [_, _, _, _, _, _, _], _ => exact this
section
variable {w w' w0 : World} {p g gs : Nat} {i : ImgS} {cs : List ChanS} {s : VmS} {ss : Nat → WayS} {l : List Comp} {b : Int} {m : Option Nat} {T : TypeId}
theorem AllS.store {x : Nat} {xs : List Value} (h : AllS w0 (blkC x T xs :: l) w) (k : Nat) (v : Value) : AllS w0 (blkC x T (xs.set k v) :: l) (w.setCell ⟨x, k, none⟩ v) := by
  obtain ⟨F1, h1, hcl⟩ := h.step1
  have hb : Blk w x T xs ∧ _ := h1
  exact hcl _ (blkC x T (xs.set k v)) F1 ⟨hb.1.set_ k v, hb.2⟩ ⟨(Apart.refl _ _).setCell (.inl ((hb.2 x).2 rfl)) _, fun _ h9 => .inl h9⟩
theorem boot_nil (i : ImgS) (A : Option Addr) (c : Nat) (w : World) : Calls Tryz.prog 9 #[.pointer none, imgV i A c] w fun e w' => e = .returned (.int .i64 7) ∧ Below w.heap.size w w' := by
  unfold imgV
  go_enter Tryz.func9, Tryz.ntmps9
  go_wp2_with fail
  go_ret
  exact ⟨rfl, below_alloc1 _ _⟩
theorem boot_bad (i : ImgS) (A : Option Addr) (c : Nat) (p : Nat) (w : World) (hl : i.code.length ≤ 9223372036854775807) (hR : rightI i = false) :
    Calls Tryz.prog 9 #[.pointer (some ⟨p, 0, none⟩), imgV i A c] w fun e w' => e = .returned (.int .i64 3) ∧ Below w.heap.size w w' := by
  obtain ⟨w1, hw1, hb1, hB1, hs1⟩ := img_in i A c w
  obtain ⟨c0, c1, c2, c3, c4, c5, c6, c7⟩ := img_cells hB1
  have HB1 := hid hb1
  have i1 := hid (fun w => vmNew_bad i A c w hl hR)
  unfold imgV at i1 ⊢
  clear hb1 hB1 hR hs1
  go_enter Tryz.func9, Tryz.ntmps9
  go_wp2_with fail
  refine (i1.out _).mono ?_
  rintro e w2 ⟨rfl, hb2⟩
  have HB2 := hid (show Below w.heap.size w w2 from by first | exact bel_trans HB1.out hb2 | (rw [hw1] at hb2; exact bel_trans HB1.out hb2))
  clear hb2
  go_wp2_with fail
  go_ret
  exact ⟨rfl, HB2.out⟩
set_option maxRecDepth 100000 in
set_option maxHeartbeats 2000000 in
theorem boot_ok (h : AllS w0 (ptC p m b :: l) w) (A : Option Addr) (c : Nat) (hrd : Reads w w.heap.size 1 A i.code.length (i.code.map bV)) (hR : rightI i = true) (hb0 : 0 ≤ b) (hb9 : b ≤ 1000000) :
    Calls Tryz.prog 9 #[.pointer (some ⟨p, 0, none⟩), imgV i A c] w fun e w' => e = .returned (.int .i64 0) ∧ ∃ g', AllS w0 (ptC p (some g') (b + 1) :: vmC g' i (freshS i.mem.toNat) :: l) w' := by
  obtain ⟨w1, hw1, hb1, hB1, hs1⟩ := img_in i A c w
  obtain ⟨c0, c1, c2, c3, c4, c5, c6, c7⟩ := img_cells hB1
  have H1 := hid (h.belowS hb1)
  have i1 := hid (vmNew_ok i A c w1 (hrd.belowS hb1) hR)
  unfold imgV at i1 ⊢
  clear hb1 hB1 hR hs1 h hrd
  go_enter Tryz.func9, Tryz.ntmps9
  go_wp2_with fail
  refine i1.out.mono ?_
  rintro e w2 ⟨F1, g', rfl, hM, hb2, hF1⟩
  have hP := (H1.out.push hb2 (C := vmC g' i (freshS i.mem.toNat)) hM hF1).perm (List.Perm.swap _ _ _)
  obtain ⟨q0, q1, qf⟩ := hP.ptCells
  have HP := hid hP
  clear hM hb2 hF1 hP i1 c0 c1 c2 c3 c4 c5 c6 c7
  go_wp2_with fail
  go_ret
  refine ⟨rfl, g', ?_⟩
  have h9 : AllS w0 (blkC p 105 [.pointer (m.map fun g => ⟨g, 0, none⟩), .int .i64 b] :: vmC g' i (freshS i.mem.toNat) :: l) w2 := HP.out
  exact (h9.store 0 (.pointer (some ⟨g', 0, none⟩))).store 1 (.int .i64 (b + 1))
def seenV (A : Option Addr) (n c : Nat) (cf : Bool) (s : VmS) (A1 : Option Addr) (c1 : Nat) (A2 : Option Addr) (c2 : Nat) : Value := .agg #[.slice A n c, .bool cf, .int .i64 s.pc, .slice A1 s.stack.length c1, .slice A2 s.mem.length c2, .int .i64 s.ticks, .int .i64 s.fault]
theorem run_nil (x : Value) (w : World) : Calls Tryz.prog 11 #[.pointer none, x] w fun e w' => e = .returned (.tuple #[seenV none 0 0 false ⟨0, [], [], 0, 0⟩ none 0 none 0, .bool false]) ∧ Below w.heap.size w w' := by
  go_enter Tryz.func11, Tryz.ntmps11
  go_wp2_with fail
  refine (runs_nil _).mono ?_
  rintro e w' ⟨rfl, rfl⟩
  go_wp2_with fail
  go_returns
  exact ⟨rfl, below_alloc1 _ _⟩
theorem run_none (h : AllS w0 (ptC p none b :: l) w) (x : Value) : Calls Tryz.prog 11 #[.pointer (some ⟨p, 0, none⟩), x] w fun e w' => e = .returned (.tuple #[seenV none 0 0 false ⟨0, [], [], 0, 0⟩ none 0 none 0, .bool false]) ∧ Below w.heap.size w w' := by
  have i1 := hid (fun W (hb : Below w.heap.size w W) => runs_none (h.belowS hb))
  clear h
  go_enter Tryz.func11, Tryz.ntmps11
  go_wp2_with fail
  refine (i1.out _ (below_alloc1 _ _)).mono ?_
  rintro e w' ⟨rfl, rfl⟩
  go_wp2_with fail
  go_returns
  exact ⟨rfl, below_alloc1 _ _⟩
theorem run_fault (h : AllS w0 (ptC p (some g) b :: vmC g i s :: l) w) (hI : RightI i) (hs : FineS i s) (hf : s.fault ≠ 0) (x : Value) : Calls Tryz.prog 11 #[.pointer (some ⟨p, 0, none⟩), x] w fun e w' => e = .returned (.tuple #[seenV none 0 0 false ⟨0, [], [], 0, 0⟩ none 0 none 0, .bool false]) ∧ Below w.heap.size w w' := by
  have i1 := hid (fun W (hb : Below w.heap.size w W) => runs_any (h.belowS hb) hI hs)
  rw [show (s.fault == 0) = false by simpa using hf] at i1
  clear h hf
  go_enter Tryz.func11, Tryz.ntmps11
  obtain ⟨w1, hw1, hX1, hb1⟩ : ∃ W, w.alloc (.cells #[.slice none 0 0, .bool false, .int .i64 0, .slice none 0 0, .slice none 0 0, .int .i64 0, .int .i64 0] 55) = W ∧ Hid (Blk W w.heap.size 55 [.slice none 0 0, .bool false, .int .i64 0, .slice none 0 0, .slice none 0 0, .int .i64 0, .int .i64 0]) ∧ Hid (Below w.heap.size w W) := ⟨_, rfl, hid (Blk.new w _ [.slice none 0 0, .bool false, .int .i64 0, .slice none 0 0, .slice none 0 0, .int .i64 0, .int .i64 0]), hid (below_alloc1 _ _)⟩
  go_wp2_with fail
  refine (i1.out _ hb1.out).mono ?_
  rintro e w2 ⟨rfl, hb2⟩
  have hX2 := hX1.out.belowS hb2
  have z0 : w2.cell? ⟨w.heap.size, 0, none⟩ = some (.slice none 0 0) := hX2.cellAt rfl
  have z1 : w2.cell? ⟨w.heap.size, 1, none⟩ = some (.bool false) := hX2.cellAt rfl
  have z2 : w2.cell? ⟨w.heap.size, 2, none⟩ = some (.int .i64 0) := hX2.cellAt rfl
  have z3 : w2.cell? ⟨w.heap.size, 3, none⟩ = some (.slice none 0 0) := hX2.cellAt rfl
  have z4 : w2.cell? ⟨w.heap.size, 4, none⟩ = some (.slice none 0 0) := hX2.cellAt rfl
  have z5 : w2.cell? ⟨w.heap.size, 5, none⟩ = some (.int .i64 0) := hX2.cellAt rfl
  have z6 : w2.cell? ⟨w.heap.size, 6, none⟩ = some (.int .i64 0) := hX2.cellAt rfl
  have zf := hX2.frozen
  have HX2 := hid hX2
  have HB2 := hid (bel_trans hb1.out hb2)
  clear hX2 hb2 hw1 hX1 hb1 i1
  go_wp2_with fail
  obtain ⟨w3, hw3, hb3, hk3, hr3⟩ := store7V HX2.out rfl (.slice none 0 0) (.bool false) (.int .i64 0) (.slice none 0 0) (.slice none 0 0) (.int .i64 0) (.int .i64 0)
  rw [hw3]
  clear hw3 z0 z1 z2 z3 z4 z5 z6 zf
  obtain ⟨r0, r1, r2, r3, r4, r5, r6⟩ : _ ∧ _ ∧ _ ∧ _ ∧ _ ∧ _ ∧ _ := ⟨hr3.cellAt (i := 0) rfl, hr3.cellAt (i := 1) rfl, hr3.cellAt (i := 2) rfl, hr3.cellAt (i := 3) rfl, hr3.cellAt (i := 4) rfl, hr3.cellAt (i := 5) rfl, hr3.cellAt (i := 6) rfl⟩
  refine bodyPost_ret (v := .tuple #[.agg #[.slice none 0 0, .bool false, .int .i64 0, .slice none 0 0, .slice none 0 0, .int .i64 0, .int .i64 0], .bool false]) (by simp [results, Tryz.results11, go_sem, r0, r1, r2, r3, r4, r5, r6]) rfl ?_
  exact ⟨rfl, HB2.out.trans (hb3.mono (Nat.le_refl _))⟩
def RunPost (w0 : World) (p g gs : Nat) (b : Int) (i : ImgS) (cs : List ChanS) (l : List Comp) (r : VmS × (Nat → WayS) × List (Int × Int) × Bool) (e : Ending) (w' : World) : Prop :=
  ∃ A c A1 c1 A2 c2, e = .returned (.tuple #[seenV A r.2.2.1.length c r.2.2.2 r.1 A1 c1 A2 c2, .bool true]) ∧
    AllS w0 (rowC 116 2 A r.2.2.1.length c (r.2.2.1.flatMap sentC) :: ptC p (some g) b :: vmC g i r.1 :: setC gs cs r.2.1 :: l) w' ∧ Reads w' w'.heap.size 1 A1 r.1.stack.length (r.1.stack.map iV) ∧ Reads w' w'.heap.size 1 A2 r.1.mem.length (r.1.mem.map iV)
set_option maxRecDepth 100000 in
set_option maxHeartbeats 4000000 in
theorem run_ok (h : AllS w0 (ptC p (some g) b :: vmC g i s :: setC gs cs ss :: l) w) (hI : RightI i) (hs : FineS i s) (hK : KAll cs ss) (hd : ∀ k, k < cs.length → depthAt cs k ≤ 4) (hf : s.fault = 0) (ht0 : 0 ≤ s.ticks) (ht1 : s.ticks ≤ 1000000000) :
    Calls Tryz.prog 11 #[.pointer (some ⟨p, 0, none⟩), .iface 31 (.pointer (some ⟨gs, 0, none⟩))] w (RunPost w0 p g gs b i cs l (tickF i cs s ss)) := by
  have i1 := hid (fun W (hb : Below w.heap.size w W) => runs_any (h.belowS hb) hI hs)
  rw [show (s.fault == 0) = true by simpa using hf] at i1
  obtain ⟨w1, hw1, hX1, hb1, hA1⟩ : ∃ W, w.alloc (.cells #[.slice none 0 0, .bool false, .int .i64 0, .slice none 0 0, .slice none 0 0, .int .i64 0, .int .i64 0] 55) = W ∧ Hid (Blk W w.heap.size 55 [.slice none 0 0, .bool false, .int .i64 0, .slice none 0 0, .slice none 0 0, .int .i64 0, .int .i64 0]) ∧ Hid (Below w.heap.size w W) ∧ Hid (AllS w0 (blkC w.heap.size 55 [.slice none 0 0, .bool false, .int .i64 0, .slice none 0 0, .slice none 0 0, .int .i64 0, .int .i64 0] :: ptC p (some g) b :: vmC g i s :: setC gs cs ss :: l) W) := ⟨_, rfl, hid (Blk.new w _ [.slice none 0 0, .bool false, .int .i64 0, .slice none 0 0, .slice none 0 0, .int .i64 0, .int .i64 0]), hid (below_alloc1 _ _), hid (h.made (T := 55) (xs := [.slice none 0 0, .bool false, .int .i64 0, .slice none 0 0, .slice none 0 0, .int .i64 0, .int .i64 0]))⟩
  have iT := hid (fun W l' (hA : AllS w0 (vmC g i s :: setC gs cs ss :: l') W) => hA.tickA hI hs hK hd ht0 ht1)
  have hkk := tickF_keeps (cs := cs) hs hK
  obtain ⟨r, hr⟩ : ∃ r, tickF i cs s ss = r := ⟨_, rfl⟩
  simp only [hr] at iT
  rw [hr] at hkk ⊢
  obtain ⟨s', ss', sent, cf⟩ := r
  simp only at iT hkk
  have HI := hid hI
  have HF' := hid hkk.1
  unfold outV at iT
  clear h hf hs hK hd hr hkk hI
  go_enter Tryz.func11, Tryz.ntmps11
  go_wp2_with fail
  refine (i1.out _ hb1.out).mono ?_
  rintro e w2 ⟨rfl, hb2⟩
  have HA2 := hid (hA1.out.belowS hb2)
  obtain ⟨q0, _, _⟩ := HA2.out.drop.ptCells
  simp only [Option.map_some] at q0
  have iT2 := hid (iT.out w2 _ (HA2.out.perm (List.Perm.append_right l (List.perm_append_comm (l₁ := [blkC w.heap.size 55 [.slice none 0 0, .bool false, .int .i64 0, .slice none 0 0, .slice none 0 0, .int .i64 0, .int .i64 0], ptC p (some g) b]) (l₂ := [vmC g i s, setC gs cs ss])))))
  clear iT i1 hb2 hw1 hX1 hb1 hA1
  go_wp2_with fail
  refine iT2.out.mono ?_
  rintro e w3 ⟨A, c, rfl, hA3⟩
  have HA3 := hid hA3
  obtain ⟨N, hN⟩ : ∃ N, sent.length = N := ⟨_, rfl⟩
  have HN := hid hN
  rw [hN]
  clear hA3 iT2 q0 hN
  go_wp2_with fail
  obtain ⟨w4, hw4, hO4, hA4, hb4⟩ : ∃ W, w3.alloc (.cells #[.slice A N c, .bool cf] 112) = W ∧ Blk W w3.heap.size 112 [.slice A N c, .bool cf] ∧ AllS w0 (vmC g i s' :: setC gs cs ss' :: rowC 116 2 A sent.length c (sent.flatMap sentC) :: blkC w.heap.size 55 [.slice none 0 0, .bool false, .int .i64 0, .slice none 0 0, .slice none 0 0, .int .i64 0, .int .i64 0] :: ptC p (some g) b :: l) W ∧ Below w3.heap.size w3 W := ⟨_, rfl, Blk.new w3 _ [.slice A N c, .bool cf], HA3.out.belowS (below_alloc1 _ _), below_alloc1 _ _⟩
  rw [hw4]
  have hP4 := hA4.perm (List.Perm.append_right l (List.perm_append_comm (l₁ := [vmC g i s', setC gs cs ss', rowC 116 2 A sent.length c (sent.flatMap sentC)]) (l₂ := [blkC w.heap.size 55 [.slice none 0 0, .bool false, .int .i64 0, .slice none 0 0, .slice none 0 0, .int .i64 0, .int .i64 0], ptC p (some g) b])))
  obtain ⟨q0, _, _⟩ := hP4.drop.ptCells
  simp only [Option.map_some] at q0
  have hS3 : Blk w3 w.heap.size 55 [.slice none 0 0, .bool false, .int .i64 0, .slice none 0 0, .slice none 0 0, .int .i64 0, .int .i64 0] := by
    have h9 := HA3.out.perm (List.Perm.append_right l (List.perm_append_comm (l₁ := [vmC g i s', setC gs cs ss', rowC 116 2 A sent.length c (sent.flatMap sentC)]) (l₂ := [blkC w.heap.size 55 [.slice none 0 0, .bool false, .int .i64 0, .slice none 0 0, .slice none 0 0, .int .i64 0, .int .i64 0], ptC p (some g) b])))
    exact h9.blk
  have hpl : p < w4.heap.size := World.block_lt_of_cell? w4 _ q0
  have hbl : w.heap.size < w3.heap.size := hS3.lt
  have n1 : w.heap.size ≠ w3.heap.size := by omega
  have n2 : w3.heap.size ≠ w.heap.size := by omega
  have n3 : p ≠ w.heap.size := fun e => by
    have h9 : Blk w4 p 105 _ := hP4.drop.blk
    exact h9.ty.ne_ hP4.blk.ty (by decide) e
  have n4 : w.heap.size ≠ p := n3.symm
  have o0 : w4.cell? ⟨w3.heap.size, 0, none⟩ = some (.slice A N c) := hO4.cellAt rfl
  have o1 : w4.cell? ⟨w3.heap.size, 1, none⟩ = some (.bool cf) := hO4.cellAt rfl
  have hol : w3.heap.size < w4.heap.size := hO4.lt
  have iS := hid (fun W (hb : Below w4.heap.size w4 W) => (hA4.belowS hb).stateA HI.out HF'.out)
  obtain ⟨pc, st, me, tk, fa⟩ := s'
  unfold stateV at iS
  simp only at iS
  obtain ⟨N1, hN1⟩ : ∃ N1, st.length = N1 := ⟨_, rfl⟩
  obtain ⟨M1, hM1⟩ : ∃ M1, me.length = M1 := ⟨_, rfl⟩
  simp only [hN1, hM1] at iS
  have HN1 := hid hN1
  have HM1 := hid hM1
  have HA4 := hid hA4
  have HP4 := hid hP4
  have HSB := hid hP4.blk
  clear hw4 hO4 hA4 hb4 hP4 hS3 hN1 hM1 HA3 HA2
  go_region_held3 (fun w' => w'.cell? ⟨w3.heap.size, 0, none⟩ = some (.slice A N c) ∧ w'.cell? ⟨w3.heap.size, 1, none⟩ = some (.bool cf) ∧ w'.cell? ⟨p, 0, none⟩ = some (.pointer (some ⟨g, 0, none⟩))) (go_keep) (first
    | (go_at_call 33; refine (iS.out _ ?_).mono ?_; (first | exact Below.refl _ _ | exact bel_drewV (Below.refl _ _)); rintro e w6 ⟨A1, c1, A2, c2, rfl, ho1, ho2, hb6⟩; have hb56 : Below w4.heap.size w4 w6 := (by first | exact hb6 | exact bel_trans (bel_drewV (Below.refl w4.heap.size w4)) hb6); have v0 : w6.cell? ⟨w3.heap.size, 0, none⟩ = some (.slice A N c) := (hb56.cell (p := ⟨w3.heap.size, 0, none⟩) hol).trans o0; have v1 : w6.cell? ⟨w3.heap.size, 1, none⟩ = some (.bool cf) := (hb56.cell (p := ⟨w3.heap.size, 1, none⟩) hol).trans o1; have v2 : w6.cell? ⟨p, 0, none⟩ = some (.pointer (some ⟨g, 0, none⟩)) := (hb56.cell (p := ⟨p, 0, none⟩) hpl).trans q0; have hx6 := HSB.out.belowS hb56; have z0 : w6.cell? ⟨w.heap.size, 0, none⟩ = some (.slice none 0 0) := hx6.cellAt rfl; have z1 : w6.cell? ⟨w.heap.size, 1, none⟩ = some (.bool false) := hx6.cellAt rfl; have z2 : w6.cell? ⟨w.heap.size, 2, none⟩ = some (.int .i64 0) := hx6.cellAt rfl; have z3 : w6.cell? ⟨w.heap.size, 3, none⟩ = some (.slice none 0 0) := hx6.cellAt rfl; have z4 : w6.cell? ⟨w.heap.size, 4, none⟩ = some (.slice none 0 0) := hx6.cellAt rfl; have z5 : w6.cell? ⟨w.heap.size, 5, none⟩ = some (.int .i64 0) := hx6.cellAt rfl; have z6 : w6.cell? ⟨w.heap.size, 6, none⟩ = some (.int .i64 0) := hx6.cellAt rfl; have zf := hx6.frozen; have HX6 := hid hx6; have HO1 := hid ho1; have HO2 := hid ho2; have HB56 := hid hb56; clear hx6 ho1 ho2 hb6 hb56))
  all_goals
    have h6 := HP4.out.belowS HB56.out
    have h7 := ((((((h6.store 0 (.slice A N c)).store 1 (.bool cf)).store 2 (.int .i64 pc)).store 3 (.slice A1 N1 c1)).store 4 (.slice A2 M1 c2)).store 5 (.int .i64 tk)).store 6 (.int .i64 fa)
    have hs6 : w4.heap.size ≤ w6.heap.size := HB56.out.size
    obtain ⟨w7, hw7, hb7, hk7, hr7⟩ := store7V HX6.out rfl (.slice A N c) (.bool cf) (.int .i64 pc) (.slice A1 N1 c1) (.slice A2 M1 c2) (.int .i64 tk) (.int .i64 fa)
    rw [hw7] at h7 ⊢
    have h8 := (h7.drop.perm (List.Perm.append_right l (List.perm_append_comm (l₁ := [ptC p (some g) b, vmC g i ⟨pc, st, me, tk, fa⟩, setC gs cs ss']) (l₂ := [rowC 116 2 A sent.length c (sent.flatMap sentC)]))))
    have H8 := hid h8
    have r1' := Reads.of_own (own_keep HO1.out fun x hx => hk7 x (by have h9 : w4.heap.size ≤ x := (HO1.out.lt x (ownBlock_foot.2 hx)).1; omega))
    have r2' := Reads.of_own (own_keep HO2.out fun x hx => hk7 x (by have h9 : w4.heap.size ≤ x := (HO2.out.lt x (ownBlock_foot.2 hx)).1; omega))
    have HR1 := hid r1'
    have HR2 := hid r2'
    obtain ⟨r0, r1, r2, r3, r4, r5, r6⟩ : _ ∧ _ ∧ _ ∧ _ ∧ _ ∧ _ ∧ _ := ⟨hr7.cellAt (i := 0) rfl, hr7.cellAt (i := 1) rfl, hr7.cellAt (i := 2) rfl, hr7.cellAt (i := 3) rfl, hr7.cellAt (i := 4) rfl, hr7.cellAt (i := 5) rfl, hr7.cellAt (i := 6) rfl⟩
    clear hw7 z0 z1 z2 z3 z4 z5 z6 zf v0 v1 v2 o0 o1 q0 iS h6 h7 h8 r1' r2'
    go_wp2_with fail
    refine bodyPost_ret (v := .tuple #[.agg #[.slice A N c, .bool cf, .int .i64 pc, .slice A1 N1 c1, .slice A2 M1 c2, .int .i64 tk, .int .i64 fa], .bool true]) (by simp [results, Tryz.results11, go_sem, r0, r1, r2, r3, r4, r5, r6]) rfl ?_
    refine ⟨A, c, A1, c1, A2, c2, ?_, H8.out, ?_, ?_⟩
    · unfold seenV
      simp only
      rw [HN.out, HN1.out, HM1.out]
    · simp only
      rw [HN1.out]
      exact HR1.out
    · simp only
      rw [HM1.out]
      exact HR2.out
end
end Go.Proofs.YtidlahljhgglcaaGreat
