/-
  Machines: Reset, State, Image, New.
-/
import Derived.Test.YtidlahljhgglcaaGreatVmMem
import Derived.Test.YtidlahljhgglcaaGreatVmAt
import Derived.Test.YtidlahljhgglcaaGreatVmFine
import Derived.Test.YtidlahljhgglcaaGreatImgRight
import Derived.Deep.RegionLaw
namespace Go.Proofs.YtidlahljhgglcaaGreat
open Go.RowKit Go.ChangeShapes Go.WideShapes Go.ChangeAt

/-- What a machine tells of where it is. -/
def stateV (s : VmS) (A1 : Option Addr) (c1 : Nat) (A2 : Option Addr) (c2 : Nat) : Value := .agg #[.int .i64 s.pc, .slice A1 s.stack.length c1, .slice A2 s.mem.length c2, .int .i64 s.ticks, .int .i64 s.fault]
def freshS (m : Nat) : VmS := ⟨0, [], List.replicate m 0, 0, 0⟩
theorem makeInts (w : World) {ops : Array Oper} {rest : List Oper} {o : Oper} {a : Act} {Q : Exit → Act → World → Prop}
    (hg : o.guard = none) (l : Operand) (hop : o.op = Op.makeSlice 51 l l) (n : Nat) (hl : a.eval l = .int .i64 (n : Int)) (hn : n ≤ 100000)
    (hK : ∀ w', w'.ownsRow w.heap.size 3 1 (.slice (some ⟨w.heap.size, 0, none⟩) n n) n ((List.replicate n (0 : Int)).map iV) → Below w.heap.size w w' → wpList Tryz.prog ops Q rest (a.put o.dst (.slice (some ⟨w.heap.size, 0, none⟩) n n)) w') :
    wpList Tryz.prog ops Q (o :: rest) a w := by
  obtain ⟨i0, hi0, hz0, hz1, hz2⟩ := info_parts info_int
  refine wpList_make_full w hg l l _ hop w.heap.size 3 i0 _ 1 Tryz.underlying51 hi0 hz0 hz1 .i64 .i64 _ _ n hl hl rfl rfl (by rw [hz2]; omega) (by simp [maxLen]; omega) (Nat.le_refl _) ?_
  intro w' h1 h2
  refine hK w' ?_ ((Below.refl _ _).grown h2 (Nat.le_refl _) (by simp))
  have e : (madeCells (Value.int IntKind.i64 0).cells (n * 1)).toList = (List.replicate n (0 : Int)).map iV := by
    rw [show (Value.int IntKind.i64 0).cells = #[.int .i64 0] from rfl, toList_madeCells_one]
    simp [iV]
  rw [e] at h1
  exact h1
theorem reset_nil (w : World) : Calls Tryz.prog 48 #[.pointer none] w fun e w' => e = .returned (.tuple #[]) ∧ w' = w := by
  go_enter Tryz.func48, Tryz.ntmps48
  go_wp2_with fail
  refine bodyPost_end (v := .tuple #[]) (by simp [results, Tryz.results48, go_sem]) rfl ?_
  exact ⟨rfl, by first | trivial | rfl⟩
theorem store5V {w : World} {b : Nat} {T : TypeId} {cs : List Value} (h : Blk w b T cs) (hl : cs.length = 5) (v0 v1 v2 v3 v4 : Value) :
    ∃ w' : World, ((((w.setCell ⟨b, 0, none⟩ v0).setCell ⟨b, 1, none⟩ v1).setCell ⟨b, 2, none⟩ v2).setCell ⟨b, 3, none⟩ v3).setCell ⟨b, 4, none⟩ v4 = w' ∧ Below b w w' ∧ (∀ k, k ≠ b → w'.heap[k]? = w.heap[k]?) ∧ Blk w' b T [v0, v1, v2, v3, v4] := by
  refine ⟨_, rfl, ((((((Below.refl _ _).setCell (p := ⟨b, 0, none⟩) (Nat.le_refl _) _).setCell (p := ⟨b, 1, none⟩) (Nat.le_refl _) _).setCell (p := ⟨b, 2, none⟩) (Nat.le_refl _) _).setCell (p := ⟨b, 3, none⟩) (Nat.le_refl _) _).setCell (p := ⟨b, 4, none⟩) (Nat.le_refl _) _), fun k hk => ((Below.heap_setCell _ _ _ _ hk).trans ((Below.heap_setCell _ _ _ _ hk).trans ((Below.heap_setCell _ _ _ _ hk).trans ((Below.heap_setCell _ _ _ _ hk).trans (Below.heap_setCell _ _ _ _ hk))))), ?_⟩
  have := (((((h.set_ 0 v0).set_ 1 v1).set_ 2 v2).set_ 3 v3).set_ 4 v4)
  match cs, hl with
  | [_, _, _, _, _], _ => exact this
theorem store8V {w : World} {b : Nat} {T : TypeId} {cs : List Value} (h : Blk w b T cs) (hl : cs.length = 8) (v0 v1 v2 v3 v4 v5 v6 v7 : Value) :
    ∃ w' : World, (((((((w.setCell ⟨b, 0, none⟩ v0).setCell ⟨b, 1, none⟩ v1).setCell ⟨b, 2, none⟩ v2).setCell ⟨b, 3, none⟩ v3).setCell ⟨b, 4, none⟩ v4).setCell ⟨b, 5, none⟩ v5).setCell ⟨b, 6, none⟩ v6).setCell ⟨b, 7, none⟩ v7 = w' ∧ Below b w w' ∧ (∀ k, k ≠ b → w'.heap[k]? = w.heap[k]?) ∧ Blk w' b T [v0, v1, v2, v3, v4, v5, v6, v7] := by
  refine ⟨_, rfl, (((((((((Below.refl _ _).setCell (p := ⟨b, 0, none⟩) (Nat.le_refl _) _).setCell (p := ⟨b, 1, none⟩) (Nat.le_refl _) _).setCell (p := ⟨b, 2, none⟩) (Nat.le_refl _) _).setCell (p := ⟨b, 3, none⟩) (Nat.le_refl _) _).setCell (p := ⟨b, 4, none⟩) (Nat.le_refl _) _).setCell (p := ⟨b, 5, none⟩) (Nat.le_refl _) _).setCell (p := ⟨b, 6, none⟩) (Nat.le_refl _) _).setCell (p := ⟨b, 7, none⟩) (Nat.le_refl _) _), fun k hk => ((Below.heap_setCell _ _ _ _ hk).trans ((Below.heap_setCell _ _ _ _ hk).trans ((Below.heap_setCell _ _ _ _ hk).trans ((Below.heap_setCell _ _ _ _ hk).trans ((Below.heap_setCell _ _ _ _ hk).trans ((Below.heap_setCell _ _ _ _ hk).trans ((Below.heap_setCell _ _ _ _ hk).trans (Below.heap_setCell _ _ _ _ hk)))))))), ?_⟩
  have := ((((((((h.set_ 0 v0).set_ 1 v1).set_ 2 v2).set_ 3 v3).set_ 4 v4).set_ 5 v5).set_ 6 v6).set_ 7 v7)
  match cs, hl with
  | [_, _, _, _, _, _, _, _], _ => exact this
theorem bel_drewV {B : Nat} {w w' : World} (h : Below B w w') : Below B w w'.drew := ⟨h.os, h.tape, h.output, h.size, h.block⟩
section
variable {w w' : World} {F : Nat → Prop} {g : Nat} {i : ImgS} {a : VmA} {s : VmS}
theorem reset_in (h : MachIn w g i a s) (m : Nat) (hm : i.mem = (m : Int)) (hml : m ≤ 1000) :
    Calls Tryz.prog 48 #[.pointer (some ⟨g, 0, none⟩)] w fun e w' => e = .returned (.tuple #[]) ∧ ∃ a', MachIn w' g i a' (freshS m) ∧ Goes (MachF g a) w (MachF g a') w' := by
  have c3 : w.cell? ⟨g, 3, none⟩ = some (.int .i64 (m : Int)) := by rw [← hm]; exact h.blk.cellAt rfl
  have H := hid h
  have HM := hid hm
  clear h hm
  go_enter Tryz.func48, Tryz.ntmps48
  go_wp2_with (at_make; refine makeInts w rfl (.tmp 9) rfl m rfl (by omega) ?_; intro w1 hown hb1; have HO := hid hown; have hblk := H.out.blk.belowS hb1; have q8 : w1.cell? ⟨g, 8, none⟩ = some (.int .i64 s.pc) := hblk.cellAt rfl; have q9 : w1.cell? ⟨g, 9, none⟩ = some (.slice a.As s.stack.length a.cS) := hblk.cellAt rfl; have q10 : w1.cell? ⟨g, 10, none⟩ = some (.slice a.Am s.mem.length a.cM) := hblk.cellAt rfl; have q11 : w1.cell? ⟨g, 11, none⟩ = some (.int .i64 s.ticks) := hblk.cellAt rfl; have q12 : w1.cell? ⟨g, 12, none⟩ = some (.int .i64 s.fault) := hblk.cellAt rfl; have qf : ∀ k, w1.frozen? ⟨g, k, none⟩ = false := (fun k => hblk.frozen k); have HBL := hid hblk; have HB1 := hid hb1; clear hown hblk hb1)
  refine bodyPost_end (v := .tuple #[]) (by simp [results, Tryz.results48, go_sem]) rfl ?_
  have hgl := H.out.blk.lt
  have hmem : (freshS m).mem.length = m := by simp [freshS]
  have hoff : ∀ b, b ≠ g → (((((w1.setCell ⟨g, 8, none⟩ (.int .i64 0)).setCell ⟨g, 9, none⟩ (.slice none 0 0)).setCell ⟨g, 10, none⟩ (.slice (some ⟨w.heap.size, 0, none⟩) m m)).setCell ⟨g, 11, none⟩ (.int .i64 0)).setCell ⟨g, 12, none⟩ (.int .i64 0)).heap[b]? = w1.heap[b]? := fun b hb =>
    (Below.heap_setCell _ _ _ _ hb).trans ((Below.heap_setCell _ _ _ _ hb).trans ((Below.heap_setCell _ _ _ _ hb).trans ((Below.heap_setCell _ _ _ _ hb).trans (Below.heap_setCell _ _ _ _ hb))))
  refine ⟨rfl, { a with As := none, cS := 0, Am := some ⟨w.heap.size, 0, none⟩, cM := m }, ⟨?_, ?_, Row.nil _ _, ?_, fun b hb => ?_⟩, ⟨?_, fun b hb => ?_⟩⟩
  · have hb := ((((HBL.out.set_ 8 (.int .i64 0)).set_ 9 (.slice none 0 0)).set_ 10 (.slice (some ⟨w.heap.size, 0, none⟩) m m)).set_ 11 (.int .i64 0)).set_ 12 (.int .i64 0)
    unfold machC
    rw [hmem]
    exact hb
  · exact H.out.cd.keep fun b hb => (hoff b (fun e => H.out.off.1 (e ▸ hb))).trans (HB1.out.block b (H.out.cd.lt hb))
  · rw [hmem]
    exact Row.of_own (own_keep HO.out fun b hb => hoff b (fun e => by
      have := foot_some.1 hb
      omega))
  · obtain ⟨x, hx, _⟩ := hb
    cases hx
  · exact (((((Apart.of_below HB1.out).setCell (p := ⟨g, 8, none⟩) (.inl (.inl rfl)) _).setCell (p := ⟨g, 9, none⟩) (.inl (.inl rfl)) _).setCell (p := ⟨g, 10, none⟩) (.inl (.inl rfl)) _).setCell (p := ⟨g, 11, none⟩) (.inl (.inl rfl)) _).setCell (p := ⟨g, 12, none⟩) (.inl (.inl rfl)) _
  · rcases hb with hb | hb | hb | hb
    · exact .inl (.inl hb)
    · exact .inl (.inr (.inl hb))
    · obtain ⟨x, hx, _⟩ := hb
      cases hx
    · exact .inr (Nat.le_of_eq (foot_some.1 hb).symm)
theorem reset_at (h : VmAt w F g i s) (m : Nat) (hm : i.mem = (m : Int)) (hml : m ≤ 1000) :
    Calls Tryz.prog 48 #[.pointer (some ⟨g, 0, none⟩)] w fun e w' => e = .returned (.tuple #[]) ∧ ∃ F', VmAt w' F' g i (freshS m) ∧ Goes F w F' w' := by
  obtain ⟨a, h1, h2⟩ := h
  refine (reset_in h1 m hm hml).mono ?_
  rintro e w' ⟨rfl, a', h3, h4⟩
  exact ⟨rfl, _, h3.at_, Goes.iff_ h2 h4⟩
theorem state_nil (w : World) : Calls Tryz.prog 33 #[.pointer none] w fun e w' => e = .returned (stateV ⟨0, [], [], 0, 0⟩ none 0 none 0) ∧ Below w.heap.size w w' := by
  go_enter Tryz.func33, Tryz.ntmps33
  go_wp2_with fail
  go_returns
  exact ⟨rfl, (Below.refl _ _).alloc (Nat.le_refl _) _⟩
theorem image_nil (w : World) : Calls Tryz.prog 37 #[.pointer none] w fun e w' => e = .returned (imgV ⟨0, 0, 0, 0, 0, 0, 0, []⟩ none 0) ∧ Below w.heap.size w w' := by
  go_enter Tryz.func37, Tryz.ntmps37
  go_wp2_with fail
  go_returns
  exact ⟨rfl, (Below.refl _ _).alloc (Nat.le_refl _) _⟩
set_option maxRecDepth 100000 in
set_option maxHeartbeats 2000000 in
theorem image_any (h : VmAt w F g i s) (hl : i.code.length ≤ 1000000) :
    Calls Tryz.prog 37 #[.pointer (some ⟨g, 0, none⟩)] w fun e w' => ∃ A c, e = .returned (imgV i A c) ∧ w'.ownsRow w.heap.size 5 1 (.slice A i.code.length c) i.code.length (i.code.map bV) ∧ Below w.heap.size w w' := by
  obtain ⟨a, m, _⟩ := h
  have c0 : w.cell? ⟨g, 0, none⟩ = some (.int .i64 i.part) := m.blk.cellAt rfl
  have c1 : w.cell? ⟨g, 1, none⟩ = some (.int .i64 i.ver) := m.blk.cellAt rfl
  have c2 : w.cell? ⟨g, 2, none⟩ = some (.int .i64 i.hard) := m.blk.cellAt rfl
  have c3 : w.cell? ⟨g, 3, none⟩ = some (.int .i64 i.mem) := m.blk.cellAt rfl
  have c4 : w.cell? ⟨g, 4, none⟩ = some (.int .i64 i.fuel) := m.blk.cellAt rfl
  have c5 : w.cell? ⟨g, 5, none⟩ = some (.int .i64 i.sends) := m.blk.cellAt rfl
  have c6 : w.cell? ⟨g, 6, none⟩ = some (.int .i64 i.recvs) := m.blk.cellAt rfl
  have c7 : w.cell? ⟨g, 7, none⟩ = some (.slice a.Ac i.code.length a.cc) := m.blk.cellAt rfl
  have d0 := fun o => cell_alloc c0 o
  have d1 := fun o => cell_alloc c1 o
  have d2 := fun o => cell_alloc c2 o
  have d3 := fun o => cell_alloc c3 o
  have d4 := fun o => cell_alloc c4 o
  have d5 := fun o => cell_alloc c5 o
  have d6 := fun o => cell_alloc c6 o
  have d7 := fun o => cell_alloc c7 o
  have HR := hid m.cd.reads
  clear m
  go_enter Tryz.func37, Tryz.ntmps37
  go_wp2_with fail
  obtain ⟨w2, hw2, hB, hb2⟩ : ∃ W, ((w.alloc (.cells #[.int .i64 0, .int .i64 0, .int .i64 0, .int .i64 0, .int .i64 0, .int .i64 0, .int .i64 0, .slice none 0 0] 47)).alloc (.cells #[.int .i64 i.part, .int .i64 i.ver, .int .i64 i.hard, .int .i64 i.mem, .int .i64 i.fuel, .int .i64 i.sends, .int .i64 i.recvs, .slice a.Ac i.code.length a.cc] 47)) = W ∧ (Blk W w.heap.size 47 [.int .i64 0, .int .i64 0, .int .i64 0, .int .i64 0, .int .i64 0, .int .i64 0, .int .i64 0, .slice none 0 0] ∧ Blk W (w.heap.size + 1) 47 [.int .i64 i.part, .int .i64 i.ver, .int .i64 i.hard, .int .i64 i.mem, .int .i64 i.fuel, .int .i64 i.sends, .int .i64 i.recvs, .slice a.Ac i.code.length a.cc]) ∧ Below w.heap.size w W :=
    ⟨_, rfl, ⟨(Blk.new w _ [.int .i64 0, .int .i64 0, .int .i64 0, .int .i64 0, .int .i64 0, .int .i64 0, .int .i64 0, .slice none 0 0]).alloc _, by
      have := Blk.new (w.alloc (.cells #[.int .i64 0, .int .i64 0, .int .i64 0, .int .i64 0, .int .i64 0, .int .i64 0, .int .i64 0, .slice none 0 0] 47)) 47 [.int .i64 i.part, .int .i64 i.ver, .int .i64 i.hard, .int .i64 i.mem, .int .i64 i.fuel, .int .i64 i.sends, .int .i64 i.recvs, .slice a.Ac i.code.length a.cc]
      simpa using this⟩, bel_alloc ((Below.refl w.heap.size w).alloc (Nat.le_refl _) _) _⟩
  rw [hw2]
  clear hw2 d0 d1 d2 d3 d4 d5 d6 d7 c0 c1 c2 c3 c4 c5 c6 c7
  refine (cloneB_any a.Ac i.code.length a.cc i.code w2 (HR.out.belowS hb2) (by omega)).mono ?_
  rintro e w3 ⟨A3, c3, rfl, ho3, hb3⟩
  have hB0 := hB.1.belowS hb3
  have hB1 := hB.2.belowS hb3
  have q0 : w3.cell? ⟨w.heap.size + 1, 0, none⟩ = some (.int .i64 i.part) := hB1.cellAt rfl
  have q1 : w3.cell? ⟨w.heap.size + 1, 1, none⟩ = some (.int .i64 i.ver) := hB1.cellAt rfl
  have q2 : w3.cell? ⟨w.heap.size + 1, 2, none⟩ = some (.int .i64 i.hard) := hB1.cellAt rfl
  have q3 : w3.cell? ⟨w.heap.size + 1, 3, none⟩ = some (.int .i64 i.mem) := hB1.cellAt rfl
  have q4 : w3.cell? ⟨w.heap.size + 1, 4, none⟩ = some (.int .i64 i.fuel) := hB1.cellAt rfl
  have q5 : w3.cell? ⟨w.heap.size + 1, 5, none⟩ = some (.int .i64 i.sends) := hB1.cellAt rfl
  have q6 : w3.cell? ⟨w.heap.size + 1, 6, none⟩ = some (.int .i64 i.recvs) := hB1.cellAt rfl
  have q7 : w3.cell? ⟨w.heap.size + 1, 7, none⟩ = some (.slice a.Ac i.code.length a.cc) := hB1.cellAt rfl
  have qf : ∀ k, w3.frozen? ⟨w.heap.size + 1, k, none⟩ = false := fun k => hB1.frozen k
  have z0 : w3.cell? ⟨w.heap.size, 0, none⟩ = some (.int .i64 0) := hB0.cellAt rfl
  have z1 : w3.cell? ⟨w.heap.size, 1, none⟩ = some (.int .i64 0) := hB0.cellAt rfl
  have z2 : w3.cell? ⟨w.heap.size, 2, none⟩ = some (.int .i64 0) := hB0.cellAt rfl
  have z3 : w3.cell? ⟨w.heap.size, 3, none⟩ = some (.int .i64 0) := hB0.cellAt rfl
  have z4 : w3.cell? ⟨w.heap.size, 4, none⟩ = some (.int .i64 0) := hB0.cellAt rfl
  have z5 : w3.cell? ⟨w.heap.size, 5, none⟩ = some (.int .i64 0) := hB0.cellAt rfl
  have z6 : w3.cell? ⟨w.heap.size, 6, none⟩ = some (.int .i64 0) := hB0.cellAt rfl
  have z7 : w3.cell? ⟨w.heap.size, 7, none⟩ = some (.slice none 0 0) := hB0.cellAt rfl
  have zf : ∀ k, w3.frozen? ⟨w.heap.size, k, none⟩ = false := fun k => hB0.frozen k
  have HO3 := hid ho3
  have HB3 := hid (bel_trans hb2 hb3)
  have HL2 := hid hB.2.lt
  have HBx := hid hB0
  clear ho3 hb3 hB hB0 hB1 hb2
  go_wp2_with fail
  obtain ⟨w4, hw4, hb4, hk4, hr4⟩ := store8V (HBx.out.far (p := ⟨w.heap.size + 1, 7, none⟩) (show w.heap.size ≠ w.heap.size + 1 by omega) (.slice A3 i.code.length c3)) rfl (.int .i64 i.part) (.int .i64 i.ver) (.int .i64 i.hard) (.int .i64 i.mem) (.int .i64 i.fuel) (.int .i64 i.sends) (.int .i64 i.recvs) (.slice A3 i.code.length c3)
  rw [hw4]
  clear hw4 q0 q1 q2 q3 q4 q5 q6 q7 qf z0 z1 z2 z3 z4 z5 z6 z7 zf
  obtain ⟨r0, r1, r2, r3, r4, r5, r6, r7⟩ : _ ∧ _ ∧ _ ∧ _ ∧ _ ∧ _ ∧ _ ∧ _ := ⟨hr4.cellAt (i := 0) rfl, hr4.cellAt (i := 1) rfl, hr4.cellAt (i := 2) rfl, hr4.cellAt (i := 3) rfl, hr4.cellAt (i := 4) rfl, hr4.cellAt (i := 5) rfl, hr4.cellAt (i := 6) rfl, hr4.cellAt (i := 7) rfl⟩
  refine bodyPost_ret (v := imgV i A3 c3) (by simp [results, Tryz.results37, go_sem, r0, r1, r2, r3, r4, r5, r6, r7]) rfl ?_
  refine ⟨A3, c3, rfl, own_keep (own_mono HO3.out (by have := HL2.out; omega)) fun b hb => ?_, (HB3.out.setCell (p := ⟨w.heap.size + 1, 7, none⟩) (show w.heap.size ≤ w.heap.size + 1 by omega) _).trans hb4⟩
  have hlt := (HO3.out.lt b (ownBlock_foot.2 hb)).1
  have h2 := HL2.out
  exact (hk4 b (by omega)).trans (Below.heap_setCell _ _ _ _ (show b ≠ w.heap.size + 1 by omega))
set_option maxRecDepth 100000 in
set_option maxHeartbeats 2000000 in
theorem state_any (h : VmAt w F g i s) (hl : s.stack.length ≤ 1000000) (hm : s.mem.length ≤ 1000000) :
    Calls Tryz.prog 33 #[.pointer (some ⟨g, 0, none⟩)] w fun e w' => ∃ A1 c1 A2 c2, e = .returned (stateV s A1 c1 A2 c2) ∧ w'.ownsRow w.heap.size 3 1 (.slice A1 s.stack.length c1) s.stack.length (s.stack.map iV) ∧ w'.ownsRow w.heap.size 3 1 (.slice A2 s.mem.length c2) s.mem.length (s.mem.map iV) ∧ Below w.heap.size w w' := by
  obtain ⟨a, m, _⟩ := h
  have c0 : w.cell? ⟨g, 8, none⟩ = some (.int .i64 s.pc) := m.blk.cellAt rfl
  have c1 : w.cell? ⟨g, 9, none⟩ = some (.slice a.As s.stack.length a.cS) := m.blk.cellAt rfl
  have c2 : w.cell? ⟨g, 10, none⟩ = some (.slice a.Am s.mem.length a.cM) := m.blk.cellAt rfl
  have c3 : w.cell? ⟨g, 11, none⟩ = some (.int .i64 s.ticks) := m.blk.cellAt rfl
  have c4 : w.cell? ⟨g, 12, none⟩ = some (.int .i64 s.fault) := m.blk.cellAt rfl
  have d0 := fun o => cell_alloc c0 o
  have d1 := fun o => cell_alloc c1 o
  have d2 := fun o => cell_alloc c2 o
  have d3 := fun o => cell_alloc c3 o
  have d4 := fun o => cell_alloc c4 o
  have HR1 := hid m.st.reads
  have HR2 := hid m.me.reads
  clear m
  go_enter Tryz.func33, Tryz.ntmps33
  go_wp2_with fail
  obtain ⟨w2, hw2, hB, hb2⟩ : ∃ W, ((w.alloc (.cells #[.int .i64 0, .slice none 0 0, .slice none 0 0, .int .i64 0, .int .i64 0] 53)).alloc (.cells #[.int .i64 s.pc, .slice a.As s.stack.length a.cS, .slice a.Am s.mem.length a.cM, .int .i64 s.ticks, .int .i64 s.fault] 53)) = W ∧ (Blk W w.heap.size 53 [.int .i64 0, .slice none 0 0, .slice none 0 0, .int .i64 0, .int .i64 0] ∧ Blk W (w.heap.size + 1) 53 [.int .i64 s.pc, .slice a.As s.stack.length a.cS, .slice a.Am s.mem.length a.cM, .int .i64 s.ticks, .int .i64 s.fault]) ∧ Below w.heap.size w W :=
    ⟨_, rfl, ⟨(Blk.new w _ [.int .i64 0, .slice none 0 0, .slice none 0 0, .int .i64 0, .int .i64 0]).alloc _, by
      have := Blk.new (w.alloc (.cells #[.int .i64 0, .slice none 0 0, .slice none 0 0, .int .i64 0, .int .i64 0] 53)) 53 [.int .i64 s.pc, .slice a.As s.stack.length a.cS, .slice a.Am s.mem.length a.cM, .int .i64 s.ticks, .int .i64 s.fault]
      simpa using this⟩, bel_alloc ((Below.refl w.heap.size w).alloc (Nat.le_refl _) _) _⟩
  rw [hw2]
  clear hw2 d0 d1 d2 d3 d4 c0 c1 c2 c3 c4
  have p1 : w2.cell? ⟨w.heap.size + 1, 1, none⟩ = some (.slice a.As s.stack.length a.cS) := hB.2.cellAt rfl
  have p2 : w2.cell? ⟨w.heap.size + 1, 2, none⟩ = some (.slice a.Am s.mem.length a.cM) := hB.2.cellAt rfl
  have HB2 := hid hb2
  have HBB := hid hB
  have i1 := hid (fun W (hb : Below w2.heap.size w2 W) => cloneI_any a.As s.stack.length a.cS s.stack W (HR1.out.belowS (bel_trans hb2 hb)) (by omega))
  have i2 := hid (fun W (hb : Below w2.heap.size w2 W) => cloneI_any a.Am s.mem.length a.cM s.mem W (HR2.out.belowS (bel_trans hb2 hb)) (by omega))
  have HR0 := hid (Below.refl w2.heap.size w2)
  clear hB hb2
  go_region_law (first
    | (go_simp; go_at_call 51; refine (i1.out _ ?_).mono ?_; (first | exact HR0.out | exact bel_drewV HR0.out); rintro e w3 ⟨A3, c3, rfl, ho3, hb3'⟩; have hb3 : Below w2.heap.size w2 w3 := (by first | exact hb3' | exact ⟨hb3'.os, hb3'.tape, hb3'.output, hb3'.size, hb3'.block⟩); have HO3 := hid ho3; have HB3 := hid hb3; have r2 : w3.cell? ⟨w.heap.size + 1, 2, none⟩ = some (.slice a.Am s.mem.length a.cM) := (HBB.out.2.belowS hb3).cellAt rfl; clear ho3 hb3' hb3)
    | (go_simp; go_at_call 51; refine (i2.out _ ?_).mono ?_; (first | exact HB3.out | exact bel_drewV HB3.out); rintro e w4 ⟨A4, c4, rfl, ho4, hb4'⟩; have hb4 : Below w3.heap.size w3 w4 := (by first | exact hb4' | exact ⟨hb4'.os, hb4'.tape, hb4'.output, hb4'.size, hb4'.block⟩); have HO4 := hid ho4; have HB4 := hid hb4; have hbx := HBB.out.2.belowS (bel_trans HB3.out hb4); have HX4 := hid hbx; have HY4 := hid (HBB.out.1.belowS (bel_trans HB3.out hb4)); have s1 : w4.cell? ⟨w.heap.size + 1, 1, none⟩ = some (.slice a.As s.stack.length a.cS) := hbx.cellAt rfl; have s2 : w4.cell? ⟨w.heap.size + 1, 2, none⟩ = some (.slice a.Am s.mem.length a.cM) := hbx.cellAt rfl; have sf : ∀ k, w4.frozen? ⟨w.heap.size + 1, k, none⟩ = false := (fun k => hbx.frozen k); clear ho4 hb4' hb4 hbx))
  all_goals
    have hne : w.heap.size + 1 ≠ w.heap.size := by omega
    have hne' : w.heap.size ≠ w.heap.size + 1 := by omega
    obtain ⟨w5, hw5, hx5, hy5, hk5, hb5⟩ : ∃ W, (w4.setCell ⟨w.heap.size + 1, 1, none⟩ (.slice A3 s.stack.length c3)).setCell ⟨w.heap.size + 1, 2, none⟩ (.slice A4 s.mem.length c4) = W ∧ Blk W (w.heap.size + 1) 53 [.int .i64 s.pc, .slice A3 s.stack.length c3, .slice A4 s.mem.length c4, .int .i64 s.ticks, .int .i64 s.fault] ∧ Blk W w.heap.size 53 [.int .i64 0, .slice none 0 0, .slice none 0 0, .int .i64 0, .int .i64 0] ∧ (∀ k, k ≠ w.heap.size + 1 → W.heap[k]? = w4.heap[k]?) ∧ Below w.heap.size w W :=
      ⟨_, rfl, (HX4.out.set_ 1 _).set_ 2 _, (HY4.out.far (p := ⟨w.heap.size + 1, 1, none⟩) hne' _).far (p := ⟨w.heap.size + 1, 2, none⟩) hne' _, fun k hk => (Below.heap_setCell _ _ _ _ hk).trans (Below.heap_setCell _ _ _ _ hk), ((bel_trans (bel_trans HB2.out HB3.out) HB4.out).setCell (p := ⟨w.heap.size + 1, 1, none⟩) (show w.heap.size ≤ w.heap.size + 1 by omega) _).setCell (p := ⟨w.heap.size + 1, 2, none⟩) (show w.heap.size ≤ w.heap.size + 1 by omega) _⟩
    rw [hw5]
    clear hw5 s1 s2 sf r2 p1 p2 i1 i2
    have q0 : w5.cell? ⟨w.heap.size + 1, 0, none⟩ = some (.int .i64 s.pc) := hx5.cellAt rfl
    have q1 : w5.cell? ⟨w.heap.size + 1, 1, none⟩ = some (.slice A3 s.stack.length c3) := hx5.cellAt rfl
    have q2 : w5.cell? ⟨w.heap.size + 1, 2, none⟩ = some (.slice A4 s.mem.length c4) := hx5.cellAt rfl
    have q3 : w5.cell? ⟨w.heap.size + 1, 3, none⟩ = some (.int .i64 s.ticks) := hx5.cellAt rfl
    have q4 : w5.cell? ⟨w.heap.size + 1, 4, none⟩ = some (.int .i64 s.fault) := hx5.cellAt rfl
    have z0 : w5.cell? ⟨w.heap.size, 0, none⟩ = some (.int .i64 0) := hy5.cellAt rfl
    have z1 : w5.cell? ⟨w.heap.size, 1, none⟩ = some (.slice none 0 0) := hy5.cellAt rfl
    have z2 : w5.cell? ⟨w.heap.size, 2, none⟩ = some (.slice none 0 0) := hy5.cellAt rfl
    have z3 : w5.cell? ⟨w.heap.size, 3, none⟩ = some (.int .i64 0) := hy5.cellAt rfl
    have z4 : w5.cell? ⟨w.heap.size, 4, none⟩ = some (.int .i64 0) := hy5.cellAt rfl
    have zf : ∀ k, w5.frozen? ⟨w.heap.size, k, none⟩ = false := fun k => hy5.frozen k
    have HK5 := hid hk5
    have HB5 := hid hb5
    have HY5 := hid hy5
    clear hx5 hy5 hk5 hb5 hne hne'
    go_wp2_with fail
    obtain ⟨w6, hw6, hb6, hk6, hr6⟩ := store5V HY5.out rfl (.int .i64 s.pc) (.slice A3 s.stack.length c3) (.slice A4 s.mem.length c4) (.int .i64 s.ticks) (.int .i64 s.fault)
    rw [hw6]
    clear hw6 q0 q1 q2 q3 q4 z0 z1 z2 z3 z4 zf
    obtain ⟨r0, r1, r2, r3, r4⟩ : _ ∧ _ ∧ _ ∧ _ ∧ _ := ⟨hr6.cellAt (i := 0) rfl, hr6.cellAt (i := 1) rfl, hr6.cellAt (i := 2) rfl, hr6.cellAt (i := 3) rfl, hr6.cellAt (i := 4) rfl⟩
    refine bodyPost_ret (v := stateV s A3 c3 A4 c4) (by simp [results, stateV, Tryz.results33, go_sem, r0, r1, r2, r3, r4]) rfl ?_
    have hsz2 : w.heap.size + 2 ≤ w2.heap.size := by have := HBB.out.2.lt; omega
    have hsz3 := HB3.out.size
    have hkk : ∀ b, w.heap.size + 2 ≤ b → w6.heap[b]? = w4.heap[b]? := fun b hb => (hk6 b (by omega)).trans (HK5.out b (by omega))
    refine ⟨A3, c3, A4, c4, rfl, own_keep (own_mono HO3.out (show w.heap.size ≤ w2.heap.size by omega)) fun b hb => ?_, own_keep (own_mono HO4.out (show w.heap.size ≤ w3.heap.size by omega)) fun b hb => ?_, HB5.out.trans hb6⟩
    · have h9 : w2.heap.size ≤ b ∧ b < w3.heap.size := HO3.out.lt b (ownBlock_foot.2 hb)
      exact (hkk b (by omega)).trans (HB4.out.block b h9.2)
    · have h9 : w3.heap.size ≤ b ∧ b < w4.heap.size := HO4.out.lt b (ownBlock_foot.2 hb)
      exact hkk b (by omega)
end
end Go.Proofs.YtidlahljhgglcaaGreat
