/-
  The reference of layer 20: Do: frames that change places, a byte that is spoilt.
-/
import Derived.Test.YthnifgcoikmihaaRef20c
namespace Go.Proofs.Ythnifgcoikmihaa
open Go.RowKit Go.ChangeShapes Go.WideShapes Go.ChangeAt

section
variable {w w' : World} {F : Nat → Prop} {gR gW k : Nat} {A : Option Addr} {c : Nat} {x : List BE} {A' : Option Addr} {c' : Nat} {y : List BE} {q : Ways}
theorem RIn.drew (h : RIn w gR gW k A c x A' c' y) : RIn w.drew gR gW k A c x A' c' y := h.keep (Nat.le_refl _) fun _ _ => rfl
theorem Goes.to_drew {F F' : Nat → Prop} {w w' : World} (h : Goes F w F' w') : Goes F w F' w'.drew := ⟨h.apart.drew, h.foot⟩
theorem lcell20 {w : World} {g k : Nat} {s s' : Value} (hk : k < 2) (h : Blk w g 22 (lcells k s s')) : w.cell? ⟨g, k, none⟩ = some s := by
  have hk2 : k = 0 ∨ k = 1 := by omega
  rcases hk2 with rfl | rfl <;> exact h.cellAt rfl
set_option maxRecDepth 100000 in
set_option maxHeartbeats 1000000 in
theorem doR_swap (h : RefL w F gR q) (hk : k < 2) {i j : Nat} (hi : i < (q k).length) (hj : j < (q k).length) (at_ by_ : Int) (B : Option Addr) (n d : Nat) :
    Calls Try.prog 24 #[.pointer (some ⟨gR, 0, none⟩), .agg #[.int .i64 4, .int .i64 (k : Int), .int .i64 (i : Int), .int .i64 (j : Int), .int .i64 at_, .int .i64 by_, .slice B n d]] w (RLPost F w gR (.returned (.int .i64 0)) (upd q k (swapL (q k) i j))) := by
  obtain ⟨w1, hw1, hb1, hbx, hs1⟩ := actR_in 4 (k : Int) (i : Int) (j : Int) at_ by_ B n d w
  have q0 : w1.cell? ⟨w.heap.size, 0, none⟩ = some (.int .i64 4) := hbx.cellAt rfl
  have q1 : w1.cell? ⟨w.heap.size, 1, none⟩ = some (.int .i64 (k : Int)) := hbx.cellAt rfl
  have q2 : w1.cell? ⟨w.heap.size, 2, none⟩ = some (.int .i64 (i : Int)) := hbx.cellAt rfl
  have q3 : w1.cell? ⟨w.heap.size, 3, none⟩ = some (.int .i64 (j : Int)) := hbx.cellAt rfl
  have q4 : w1.cell? ⟨w.heap.size, 4, none⟩ = some (.int .i64 at_) := hbx.cellAt rfl
  have q5 : w1.cell? ⟨w.heap.size, 5, none⟩ = some (.int .i64 by_) := hbx.cellAt rfl
  have q6 : w1.cell? ⟨w.heap.size, 6, none⟩ = some (.slice B n d) := hbx.cellAt rfl
  have HS1 := hid hs1
  have HBX := hid hbx
  clear hs1 hbx
  have y0 : decide ((k : Int) < 0) = false := decide_eq_false (by omega)
  have y1 : decide ((1 : Int) < (k : Int)) = false := decide_eq_false (by omega)
  have y1' : decide (1 < k) = false := decide_eq_false (by omega)
  have k0 : (0 : Int) ≤ (k : Int) := Int.natCast_nonneg _
  have k1 : (k : Int) < 2 := by omega
  obtain ⟨gW, A, c, x, A', c', y, h2, h3, h4, h5⟩ := h.one hk
  have H1 := hid (h2.keep hb1.size (fun b hb => hb1.block b (h2.lt hb)))
  have H0 := hid h2
  have H3 := hid h3
  have H4 := hid h4
  have H5 := hid h5
  have HB1 := hid hb1
  have hlx : i < x.length := by
    have := hi
    rw [← h3] at this
    simpa using this
  have iT1 := hid (thereR_any hk H1.out (i : Int))
  rw [decide_eq_true (show (0 : Int) ≤ (i : Int) by omega), decide_eq_true (show (i : Int) < (x.length : Int) by omega)] at iT1
  obtain ⟨e0, he0⟩ : ∃ e0, x[i]? = some e0 := ⟨_, List.getElem?_eq_getElem hlx⟩
  obtain ⟨a0, hA, ha0l⟩ := H1.out.r.form (by omega)
  subst hA
  have hcell := H1.out.r.cell (j := i) (u := eC e0) (by rw [List.getElem?_map, he0]; rfl)
  obtain ⟨c0, c1⟩ := H1.out.cells hk
  have hcell' : w1.cell? ⟨a0, i, none⟩ = some (.slice e0.A e0.l.length e0.c) := hcell
  have x0 : (0 : Int) ≤ (i : Int) := by omega
  have x1 : (i : Int) < (x.length : Int) := by omega
  have HE := hid he0
  have hq : Hid ((q k)[i]? = some e0.l) := hid (by rw [← h3, List.getElem?_map, he0]; rfl)
  have hlj : j < x.length := by
    have := hj
    rw [← h3] at this
    simpa using this
  have iT2 := hid (thereR_any hk H1.out (j : Int))
  rw [decide_eq_true (show (0 : Int) ≤ (j : Int) by omega), decide_eq_true (show (j : Int) < (x.length : Int) by omega)] at iT2
  simp only [Bool.and_self] at iT1 iT2
  obtain ⟨ej, hej⟩ : ∃ ej, x[j]? = some ej := ⟨_, List.getElem?_eq_getElem hlj⟩
  have hcj := H1.out.r.cell (j := j) (u := eC ej) (by rw [List.getElem?_map, hej]; rfl)
  have hcj' : w1.cell? ⟨a0, j, none⟩ = some (.slice ej.A ej.l.length ej.c) := hcj
  have x2 : (0 : Int) ≤ (j : Int) := by omega
  have x3 : (j : Int) < (x.length : Int) := by omega
  have HEJ := hid hej
  clear h h2 h3 h4 h5 hb1 hi hj hcell he0 hcj hej
  go_enter Try.func24, Try.ntmps24
  go_wp2_with fail
  refine iT1.out.mono ?_
  rintro e w2 ⟨rfl, rfl⟩
  go_wp2_with fail
  refine iT2.out.mono ?_
  rintro e w3 ⟨rfl, rfl⟩
  go_wp2_with fail
  go_quiet (fail)
  obtain ⟨W1, hwq, hR1, hX1, hB1⟩ : ∃ W, w3.drewN nq = W ∧ RIn W gR gW k (some ⟨a0, 0, none⟩) c x A' c' y ∧ Blk W w.heap.size 42 [.int .i64 4, .int .i64 (k : Int), .int .i64 (i : Int), .int .i64 (j : Int), .int .i64 at_, .int .i64 by_, .slice B n d] ∧ Below w.heap.size w W := ⟨_, rfl, H1.out.keep (Nat.le_refl _) (fun _ _ => rfl), HBX.out.drewN nq, below_drewN HB1.out nq⟩
  rw [hwq]
  clear hwq q0 q1 q2 q3 q4 q5 q6 c0 c1 hcell' hcj' iT1 iT2
  obtain ⟨c0, c1⟩ := hR1.cells hk
  have q0 : W1.cell? ⟨w.heap.size, 0, none⟩ = some (.int .i64 4) := hX1.cellAt rfl
  have q1 : W1.cell? ⟨w.heap.size, 1, none⟩ = some (.int .i64 (k : Int)) := hX1.cellAt rfl
  have q2 : W1.cell? ⟨w.heap.size, 2, none⟩ = some (.int .i64 (i : Int)) := hX1.cellAt rfl
  have q3 : W1.cell? ⟨w.heap.size, 3, none⟩ = some (.int .i64 (j : Int)) := hX1.cellAt rfl
  have z1 : W1.cell? ⟨a0, i, none⟩ = some (.slice e0.A e0.l.length e0.c) := hR1.r.cell (u := eC e0) (by rw [List.getElem?_map, HE.out]; rfl)
  have z2 : W1.cell? ⟨a0, j, none⟩ = some (.slice ej.A ej.l.length ej.c) := hR1.r.cell (u := eC ej) (by rw [List.getElem?_map, HEJ.out]; rfl)
  have z3 := hR1.r.frozen i
  have HR1 := hid hR1
  have HX1 := hid hX1
  have HBW := hid hB1
  have hne : w.heap.size ≠ a0 := by
    have h1 := HR1.out.r.type_ne HX1.out (by decide)
    exact fun e => h1 (foot_some.2 e)
  have hne' : a0 ≠ w.heap.size := fun e => hne e.symm
  have hg1 : gR ≠ a0 := fun e => HR1.out.nr.2.1 (foot_some.2 e)
  have hg2 : a0 ≠ gR := fun e => hg1 e.symm
  have hg3 : gW ≠ a0 := fun e => HR1.out.nr.2.2.2.1 (foot_some.2 e)
  have hg4 : a0 ≠ gW := fun e => hg3 e.symm
  have hkp : ∀ w' : World, w'.cell? ⟨a0, j, none⟩ = some (.slice ej.A ej.l.length ej.c) → (w'.setCell ⟨a0, i, none⟩ (.slice ej.A ej.l.length ej.c)).cell? ⟨a0, j, none⟩ = some (.slice ej.A ej.l.length ej.c) := fun w' h9 => by
    by_cases hij : i = j
    · subst hij; exact World.cell?_setCell_same _ _ _ h9
    · rw [World.cell?_setCell_other _ _ _ _ (by first | (simp; done) | (simp; omega))]; exact h9
  clear hR1 hX1 hB1
  go_wp2_with fail
  go_region_held3 (fun w' => w'.cell? ⟨gR, 0, none⟩ = some (.slice (some ⟨gW, 0, none⟩) 2 2) ∧ w'.cell? ⟨gW, k, none⟩ = some (.slice (some ⟨a0, 0, none⟩) x.length c) ∧ w'.cell? ⟨w.heap.size, 1, none⟩ = some (.int .i64 (k : Int)) ∧ w'.cell? ⟨w.heap.size, 2, none⟩ = some (.int .i64 (i : Int)) ∧ w'.cell? ⟨w.heap.size, 3, none⟩ = some (.int .i64 (j : Int)) ∧ w'.frozen? ⟨a0, i, none⟩ = false ∧ w'.cell? ⟨a0, j, none⟩ = some (.slice ej.A ej.l.length ej.c)) (first | go_keep | (refine ⟨?_, ?_, ?_, ?_, ?_, ?_, hkp _ ?_⟩ <;> go_keep)) (fail)
  have hap1 : Apart (fun b => b = gW ∨ Foot (some ⟨a0, 0, none⟩) b) W1 (W1.setCell ⟨a0, i, none⟩ (.slice ej.A ej.l.length ej.c)) := (Apart.refl (fun b => b = gW ∨ Foot (some ⟨a0, 0, none⟩) b) W1).setCell (p := ⟨a0, i, none⟩) (.inl (.inr (foot_some.2 rfl))) _
  obtain ⟨W2, hwq, hbl2, hwb2, hro2, hX2, hap2⟩ : ∃ W, (W1.setCell ⟨a0, i, none⟩ (.slice ej.A ej.l.length ej.c)).drew = W ∧ Blk W gR 82 [.slice (some ⟨gW, 0, none⟩) 2 2] ∧ Blk W gW 22 (lcells k (.slice (some ⟨a0, 0, none⟩) x.length c) (.slice A' y.length c')) ∧ Row W 26 (some ⟨a0, 0, none⟩) x.length c ((x.map eC).set i (eC ej)) ∧ Blk W w.heap.size 42 [.int .i64 4, .int .i64 (k : Int), .int .i64 (i : Int), .int .i64 (j : Int), .int .i64 at_, .int .i64 by_, .slice B n d] ∧ Apart (fun b => b = gW ∨ Foot (some ⟨a0, 0, none⟩) b) W1 W := ⟨_, rfl, (HR1.out.blk.far (p := ⟨a0, i, none⟩) hg1 _).drew, (HR1.out.wb.far (p := ⟨a0, i, none⟩) hg3 _).drew, (HR1.out.r.set_ i (eC ej)).drew, (HX1.out.far (p := ⟨a0, i, none⟩) hne _).drew, hap1.drew⟩
  rw [hwq]
  clear hwq q0 q1 q2 q3 c0 c1 z1 z2 z3 hap1
  have c0 : W2.cell? ⟨gR, 0, none⟩ = some (.slice (some ⟨gW, 0, none⟩) 2 2) := hbl2.cellAt rfl
  have c1 := lcell20 hk hwb2
  have q1 : W2.cell? ⟨w.heap.size, 1, none⟩ = some (.int .i64 (k : Int)) := hX2.cellAt rfl
  have q3 : W2.cell? ⟨w.heap.size, 3, none⟩ = some (.int .i64 (j : Int)) := hX2.cellAt rfl
  have hlm : j < ((x.map eC).set i (eC ej)).length := by simpa using hlj
  obtain ⟨uj, z2⟩ : ∃ u, W2.cell? ⟨a0, j, none⟩ = some u := ⟨_, hro2.cell (List.getElem?_eq_getElem hlm)⟩
  have z3 := hro2.frozen j
  have HBL2 := hid hbl2
  have HWB2 := hid hwb2
  have HRO2 := hid hro2
  have HAP2 := hid hap2
  clear hbl2 hwb2 hro2 hX2 hap2 hkp hlm
  go_wp2_with fail
  go_region_held3 (fun w' => w'.cell? ⟨gR, 0, none⟩ = some (.slice (some ⟨gW, 0, none⟩) 2 2) ∧ w'.cell? ⟨gW, k, none⟩ = some (.slice (some ⟨a0, 0, none⟩) x.length c) ∧ w'.cell? ⟨w.heap.size, 1, none⟩ = some (.int .i64 (k : Int)) ∧ w'.cell? ⟨w.heap.size, 3, none⟩ = some (.int .i64 (j : Int)) ∧ w'.frozen? ⟨a0, j, none⟩ = false) (go_keep) (fail)
  clear q1 q3 c0 c1 z2 z3
  go_wp2_with fail
  go_ret
  have hlen : ((x.set i ej).set j e0).length = x.length := by simp
  have hst := HR1.out.step (w' := (W2.setCell ⟨a0, j, none⟩ (.slice e0.A e0.l.length e0.c)).drew) (A1 := some ⟨a0, 0, none⟩) (c1 := c) (x1 := (x.set i ej).set j e0) ((HAP2.out.setCell (p := ⟨a0, j, none⟩) (.inl (.inr (foot_some.2 rfl))) _).drew) (by rw [hlen]; exact (HWB2.out.far (p := ⟨a0, j, none⟩) hg3 _).drew) (by rw [hlen, List.map_set, List.map_set]; exact (HRO2.out.set_ j (eC e0)).drew) (fun b hb => .inl hb) (by rw [hlen]; exact HR1.out.n) (fun e' h9 => by
    rcases List.mem_or_eq_of_mem_set h9 with h8 | h8
    · rcases List.mem_or_eq_of_mem_set h8 with h7 | h7
      · exact .inl h7
      · exact .inl (h7 ▸ List.mem_of_getElem? HEJ.out)
    · exact .inl (h8 ▸ List.mem_of_getElem? HE.out))
  refine ⟨_, rfl, hst.1.at_ hk ?_ H4.out, Goes.of_iff H5.out ((Goes.of_below HBW.out).trans hst.2)⟩
  rw [List.map_set, List.map_set, H3.out]
  unfold swapL
  have g1 : (q k).getD j [] = ej.l := by rw [← H3.out, List.getD_eq_getElem?_getD, List.getElem?_map, HEJ.out]; rfl
  have g2 : (q k).getD i [] = e0.l := by rw [← H3.out, List.getD_eq_getElem?_getD, List.getElem?_map, HE.out]; rfl
  rw [g1, g2]
set_option maxRecDepth 100000 in
theorem doR_far (h : RefL w F gR q) (hk : k < 2) {i : Nat} {f : List UInt8} (hf : (q k)[i]? = some f) (kk at_ by_ : Int) (B : Option Addr) (n d : Nat) (hat : at_ < 0 ∨ (f.length : Int) ≤ at_) :
    Calls Try.prog 24 #[.pointer (some ⟨gR, 0, none⟩), .agg #[.int .i64 5, .int .i64 (k : Int), .int .i64 (i : Int), .int .i64 kk, .int .i64 at_, .int .i64 by_, .slice B n d]] w fun e w' => e = .returned (.int .i64 6) ∧ Below w.heap.size w w' := by
  have hi := (List.getElem?_eq_some_iff.1 hf).1
  obtain ⟨w1, hw1, hb1, hbx, hs1⟩ := actR_in 5 (k : Int) (i : Int) kk at_ by_ B n d w
  have q0 : w1.cell? ⟨w.heap.size, 0, none⟩ = some (.int .i64 5) := hbx.cellAt rfl
  have q1 : w1.cell? ⟨w.heap.size, 1, none⟩ = some (.int .i64 (k : Int)) := hbx.cellAt rfl
  have q2 : w1.cell? ⟨w.heap.size, 2, none⟩ = some (.int .i64 (i : Int)) := hbx.cellAt rfl
  have q3 : w1.cell? ⟨w.heap.size, 3, none⟩ = some (.int .i64 kk) := hbx.cellAt rfl
  have q4 : w1.cell? ⟨w.heap.size, 4, none⟩ = some (.int .i64 at_) := hbx.cellAt rfl
  have q5 : w1.cell? ⟨w.heap.size, 5, none⟩ = some (.int .i64 by_) := hbx.cellAt rfl
  have q6 : w1.cell? ⟨w.heap.size, 6, none⟩ = some (.slice B n d) := hbx.cellAt rfl
  have HS1 := hid hs1
  have HBX := hid hbx
  clear hs1 hbx
  have y0 : decide ((k : Int) < 0) = false := decide_eq_false (by omega)
  have y1 : decide ((1 : Int) < (k : Int)) = false := decide_eq_false (by omega)
  have y1' : decide (1 < k) = false := decide_eq_false (by omega)
  have k0 : (0 : Int) ≤ (k : Int) := Int.natCast_nonneg _
  have k1 : (k : Int) < 2 := by omega
  obtain ⟨gW, A, c, x, A', c', y, h2, h3, h4, h5⟩ := h.one hk
  have H1 := hid (h2.keep hb1.size (fun b hb => hb1.block b (h2.lt hb)))
  have H0 := hid h2
  have H3 := hid h3
  have H4 := hid h4
  have H5 := hid h5
  have HB1 := hid hb1
  have hlx : i < x.length := by
    have := hi
    rw [← h3] at this
    simpa using this
  have iT1 := hid (thereR_any hk H1.out (i : Int))
  rw [decide_eq_true (show (0 : Int) ≤ (i : Int) by omega), decide_eq_true (show (i : Int) < (x.length : Int) by omega)] at iT1
  obtain ⟨e0, he0⟩ : ∃ e0, x[i]? = some e0 := ⟨_, List.getElem?_eq_getElem hlx⟩
  obtain ⟨a0, hA, ha0l⟩ := H1.out.r.form (by omega)
  subst hA
  have hcell := H1.out.r.cell (j := i) (u := eC e0) (by rw [List.getElem?_map, he0]; rfl)
  obtain ⟨c0, c1⟩ := H1.out.cells hk
  have hcell' : w1.cell? ⟨a0, i, none⟩ = some (.slice e0.A e0.l.length e0.c) := hcell
  have x0 : (0 : Int) ≤ (i : Int) := by omega
  have x1 : (i : Int) < (x.length : Int) := by omega
  have HE := hid he0
  have hq : Hid ((q k)[i]? = some e0.l) := hid (by rw [← h3, List.getElem?_map, he0]; rfl)
  have hff : e0.l = f := by
    have := hq.out
    rw [hf] at this
    exact (Option.some.inj this).symm
  subst hff
  clear h h2 h3 h4 h5 hb1 hi hcell he0 hf
  by_cases ha0 : at_ < 0
  · have z0 : decide (at_ < 0) = true := decide_eq_true ha0
    clear ha0 hat
    go_enter Try.func24, Try.ntmps24
    go_wp2_with fail
    refine iT1.out.mono ?_
    rintro e w2 ⟨rfl, rfl⟩
    go_wp2_with fail
    go_quiet (fail)
    go_wp2_with fail
    go_ret
    exact ⟨rfl, below_drewN HB1.out nq⟩
  · have z0 : decide (at_ < 0) = false := decide_eq_false ha0
    have z1 : decide ((e0.l.length : Int) ≤ at_) = true := decide_eq_true (by omega)
    clear ha0 hat
    go_enter Try.func24, Try.ntmps24
    go_wp2_with fail
    refine iT1.out.mono ?_
    rintro e w2 ⟨rfl, rfl⟩
    go_wp2_with fail
    go_quiet (fail)
    go_wp2_with fail
    go_ret
    exact ⟨rfl, below_drewN HB1.out nq⟩
set_option maxRecDepth 100000 in
set_option maxHeartbeats 1000000 in
theorem doR_spoil (h : RefL w F gR q) (hk : k < 2) {i p : Nat} {f : List UInt8} (hf : (q k)[i]? = some f) (hp : p < f.length) (hfl : f.length ≤ 100000) (kk by_ : Int) (B : Option Addr) (n d : Nat) :
    Calls Try.prog 24 #[.pointer (some ⟨gR, 0, none⟩), .agg #[.int .i64 5, .int .i64 (k : Int), .int .i64 (i : Int), .int .i64 kk, .int .i64 (p : Int), .int .i64 by_, .slice B n d]] w (RLPost F w gR (.returned (.int .i64 0)) (upd q k ((q k).set i (spoilF f p by_)))) := by
  have hi := (List.getElem?_eq_some_iff.1 hf).1
  obtain ⟨w1, hw1, hb1, hbx, hs1⟩ := actR_in 5 (k : Int) (i : Int) kk (p : Int) by_ B n d w
  have q0 : w1.cell? ⟨w.heap.size, 0, none⟩ = some (.int .i64 5) := hbx.cellAt rfl
  have q1 : w1.cell? ⟨w.heap.size, 1, none⟩ = some (.int .i64 (k : Int)) := hbx.cellAt rfl
  have q2 : w1.cell? ⟨w.heap.size, 2, none⟩ = some (.int .i64 (i : Int)) := hbx.cellAt rfl
  have q3 : w1.cell? ⟨w.heap.size, 3, none⟩ = some (.int .i64 kk) := hbx.cellAt rfl
  have q4 : w1.cell? ⟨w.heap.size, 4, none⟩ = some (.int .i64 (p : Int)) := hbx.cellAt rfl
  have q5 : w1.cell? ⟨w.heap.size, 5, none⟩ = some (.int .i64 by_) := hbx.cellAt rfl
  have q6 : w1.cell? ⟨w.heap.size, 6, none⟩ = some (.slice B n d) := hbx.cellAt rfl
  have HS1 := hid hs1
  have HBX := hid hbx
  clear hs1 hbx
  have y0 : decide ((k : Int) < 0) = false := decide_eq_false (by omega)
  have y1 : decide ((1 : Int) < (k : Int)) = false := decide_eq_false (by omega)
  have y1' : decide (1 < k) = false := decide_eq_false (by omega)
  have k0 : (0 : Int) ≤ (k : Int) := Int.natCast_nonneg _
  have k1 : (k : Int) < 2 := by omega
  obtain ⟨gW, A, c, x, A', c', y, h2, h3, h4, h5⟩ := h.one hk
  have H1 := hid (h2.keep hb1.size (fun b hb => hb1.block b (h2.lt hb)))
  have H0 := hid h2
  have H3 := hid h3
  have H4 := hid h4
  have H5 := hid h5
  have HB1 := hid hb1
  have hlx : i < x.length := by
    have := hi
    rw [← h3] at this
    simpa using this
  have iT1 := hid (thereR_any hk H1.out (i : Int))
  rw [decide_eq_true (show (0 : Int) ≤ (i : Int) by omega), decide_eq_true (show (i : Int) < (x.length : Int) by omega)] at iT1
  obtain ⟨e0, he0⟩ : ∃ e0, x[i]? = some e0 := ⟨_, List.getElem?_eq_getElem hlx⟩
  obtain ⟨a0, hA, ha0l⟩ := H1.out.r.form (by omega)
  subst hA
  have hcell := H1.out.r.cell (j := i) (u := eC e0) (by rw [List.getElem?_map, he0]; rfl)
  obtain ⟨c0, c1⟩ := H1.out.cells hk
  have hcell' : w1.cell? ⟨a0, i, none⟩ = some (.slice e0.A e0.l.length e0.c) := hcell
  have x0 : (0 : Int) ≤ (i : Int) := by omega
  have x1 : (i : Int) < (x.length : Int) := by omega
  have HE := hid he0
  have hq : Hid ((q k)[i]? = some e0.l) := hid (by rw [← h3, List.getElem?_map, he0]; rfl)
  have hff : e0.l = f := by
    have := hq.out
    rw [hf] at this
    exact (Option.some.inj this).symm
  have hbk := (H1.out.by_ e0 (.inl (List.mem_of_getElem? he0))).1
  rw [hff] at hbk hcell'
  have z0 : decide ((p : Int) < 0) = false := decide_eq_false (by omega)
  have z1 : decide ((f.length : Int) ≤ (p : Int)) = false := decide_eq_false (by omega)
  have z1' : decide (f.length ≤ p) = false := decide_eq_false (by omega)
  have x2 : (0 : Int) ≤ (p : Int) := by omega
  have x3 : (p : Int) < (f.length : Int) := by omega
  obtain ⟨b2, hb2, hb3⟩ : ∃ b2 : UInt8, ((f[p].toNat : Int) + by_) % 256 = (b2.toNat : Int) ∧ UInt8.ofNat (((f[p].toNat : Int) + by_) % 256).toNat = b2 := by
    refine ⟨UInt8.ofNat (((f[p].toNat : Int) + by_) % 256).toNat, ?_, rfl⟩
    rw [UInt8.toNat_ofNat']
    omega
  have hfp : Hid (spoilF f p by_ = f.set p b2) := by
    refine hid ?_
    unfold spoilF
    rw [← hb3]
    simp [List.getD, hp]
  have hfpp : f[p]? = some f[p] := List.getElem?_eq_getElem hp
  generalize f[p] = fv at hb2 hb3 hfpp
  have HFF := hid hff
  have HFP := hid hfpp
  have HP := hid hp
  have i2 := hid (fun nq => ownR_any e0.A f.length e0.c f (w1.drewN nq) (hbk.belowS (w' := w1.drewN nq) ⟨rfl, rfl, rfl, Nat.le_refl _, fun _ _ => rfl⟩) hfl)
  have HFL := hid hfl
  clear h h2 h3 h4 h5 hb1 hi hcell he0 hf hbk hff hb3 hfpp hp hfl
  go_enter Try.func24, Try.ntmps24
  go_wp2_with fail
  refine iT1.out.mono ?_
  rintro e w2 ⟨rfl, rfl⟩
  go_wp2_with fail
  go_quiet (fail)
  obtain ⟨W1, hwq, hR1, hX1, hB1⟩ : ∃ W, w2.drewN nq = W ∧ RIn W gR gW k (some ⟨a0, 0, none⟩) c x A' c' y ∧ Blk W w.heap.size 42 [.int .i64 5, .int .i64 (k : Int), .int .i64 (i : Int), .int .i64 kk, .int .i64 (p : Int), .int .i64 by_, .slice B n d] ∧ Below w.heap.size w W := ⟨_, rfl, H1.out.keep (Nat.le_refl _) (fun _ _ => rfl), HBX.out.drewN nq, below_drewN HB1.out nq⟩
  have i3 := hid (i2.out nq)
  rw [hwq] at i3 ⊢
  clear hwq q0 q1 q2 q3 q4 q5 q6 c0 c1 hcell' iT1 i2
  have q0 : W1.cell? ⟨w.heap.size, 0, none⟩ = some (.int .i64 5) := hX1.cellAt rfl
  have q4 : W1.cell? ⟨w.heap.size, 4, none⟩ = some (.int .i64 (p : Int)) := hX1.cellAt rfl
  have HR1 := hid hR1
  have HX1 := hid hX1
  have HBW := hid hB1
  clear hR1 hX1 hB1
  go_wp2_with fail
  refine i3.out.mono ?_
  rintro e w3 ⟨rfl, hown, hb3⟩
  have hX3 := hid (HX1.out.belowS hb3)
  have HO3 := hid hown
  have HB3 := hid hb3
  have t1 := hX3.out.lt
  clear q0 q4 i3
  have q4 : w3.cell? ⟨w.heap.size, 4, none⟩ = some (.int .i64 (p : Int)) := hX3.out.cellAt rfl
  have q5 : w3.cell? ⟨w.heap.size, 5, none⟩ = some (.int .i64 by_) := hX3.out.cellAt rfl
  obtain ⟨z, hz, hcz, hfz⟩ := own_cellM HO3.out HP.out
  obtain rfl : z = fv := by
    have h9 := HFP.out
    rw [hz] at h9
    exact Option.some.inj h9
  have hlb := HX1.out.lt
  have hne : w.heap.size ≠ W1.heap.size := by omega
  have hne' : W1.heap.size ≠ w.heap.size := by omega
  have hst := own_storeM HO3.out p b2
  clear hown hb3 hz
  go_wp2_with fail
  go_region
  have hb4 : Below W1.heap.size W1 (w3.setCell ⟨W1.heap.size, p, none⟩ (bV b2)) := HB3.out.trans hst.2
  obtain ⟨W4, hwq, hB4, hO4⟩ : ∃ W, (w3.setCell ⟨W1.heap.size, p, none⟩ (.int .u8 (b2.toNat : Int))).drew = W ∧ Below W1.heap.size W1 W ∧ W.ownsRow W1.heap.size 5 1 (.slice (some ⟨W1.heap.size, 0, none⟩) f.length f.length) f.length ((f.set p b2).map bV) := ⟨_, rfl, bel_drew20 hb4, hst.1⟩
  rw [hwq]
  have hR4 := HR1.out.keep hB4.size (fun b hb => hB4.block b (HR1.out.lt hb))
  have hX4 := HX1.out.belowS hB4
  clear hwq hb4 hst q4 q5 hcz hfz
  obtain ⟨c0, c1⟩ := hR4.cells hk
  have q1 : W4.cell? ⟨w.heap.size, 1, none⟩ = some (.int .i64 (k : Int)) := hX4.cellAt rfl
  have q2 : W4.cell? ⟨w.heap.size, 2, none⟩ = some (.int .i64 (i : Int)) := hX4.cellAt rfl
  have z2 : W4.cell? ⟨a0, i, none⟩ = some (eC e0) := hR4.r.cell (by rw [List.getElem?_map, HE.out]; rfl)
  have z3 := hR4.r.frozen i
  have hnx : w.heap.size ≠ a0 := by
    have h1 := HR1.out.r.type_ne HX1.out (by decide)
    exact fun e => h1 (foot_some.2 e)
  have hnx' : a0 ≠ w.heap.size := fun e => hnx e.symm
  have hg1 : gR ≠ a0 := fun e => HR1.out.nr.2.1 (foot_some.2 e)
  have hg2 : a0 ≠ gR := fun e => hg1 e.symm
  have hg3 : gW ≠ a0 := fun e => HR1.out.nr.2.2.2.1 (foot_some.2 e)
  have hg4 : a0 ≠ gW := fun e => hg3 e.symm
  have HB4 := hid hB4
  have HO4 := hid hO4
  have HR4 := hid hR4
  clear hB4 hO4 hR4 hX4
  go_wp2_with fail
  go_region_held3 (fun w' => w'.cell? ⟨gR, 0, none⟩ = some (.slice (some ⟨gW, 0, none⟩) 2 2) ∧ w'.cell? ⟨gW, k, none⟩ = some (.slice (some ⟨a0, 0, none⟩) x.length c) ∧ w'.cell? ⟨w.heap.size, 1, none⟩ = some (.int .i64 (k : Int)) ∧ w'.cell? ⟨w.heap.size, 2, none⟩ = some (.int .i64 (i : Int)) ∧ w'.frozen? ⟨a0, i, none⟩ = false) (go_keep) (fail)
  clear q1 q2 c0 c1 z2 z3
  go_wp2_with fail
  go_ret
  have ha0W : a0 < W1.heap.size := HR1.out.r.lt (foot_some.2 rfl)
  obtain ⟨e1, he1⟩ : ∃ e1 : BE, e1 = ⟨some ⟨W1.heap.size, 0, none⟩, f.length, f.set p b2⟩ := ⟨_, rfl⟩
  have hec : Value.slice (some ⟨W1.heap.size, 0, none⟩) f.length f.length = eC e1 := by rw [he1]; unfold eC; simp
  rw [hec]
  have hlen : (x.set i e1).length = x.length := by simp
  have hcap := own_cap HO4.out
  have hapf : Apart (fun b => b = gW ∨ Foot (some ⟨a0, 0, none⟩) b) W1 (W4.setCell ⟨a0, i, none⟩ (eC e1)).drew := ((Apart.of_below (F := fun b => b = gW ∨ Foot (some ⟨a0, 0, none⟩) b) HB4.out).setCell (p := ⟨a0, i, none⟩) (.inl (.inr (foot_some.2 rfl))) _).drew
  have hlt4 : W1.heap.size < W4.heap.size := (HO4.out.lt _ rfl).2
  have hst := HR1.out.step (w' := (W4.setCell ⟨a0, i, none⟩ (eC e1)).drew) (A1 := some ⟨a0, 0, none⟩) (c1 := c) (x1 := x.set i e1) hapf (by rw [hlen]; exact (HR4.out.wb.far (p := ⟨a0, i, none⟩) hg3 _).drew) (by rw [hlen, List.map_set]; exact (HR4.out.r.set_ i (eC e1)).drew) (fun b hb => .inl hb) (by rw [hlen]; exact HR1.out.n) (fun e' h9 => by
    rcases List.mem_or_eq_of_mem_set h9 with h8 | h8
    · exact .inl h8
    · right; right
      rw [h8, he1]
      refine ⟨⟨?_, by rw [List.length_set]; exact Nat.le_refl _, hcap.2⟩, fun b hb => ?_⟩
      · have h7 : Reads W4 W4.heap.size 1 (some ⟨W1.heap.size, 0, none⟩) (f.set p b2).length ((f.set p b2).map bV) := by
          rw [List.length_set]
          exact Reads.of_own HO4.out
        refine readsF h7 (by simp [World.setCell, World.drew]) (fun b hb => ?_)
        obtain ⟨a, ha, rfl⟩ := hb
        injection ha with ha
        subst ha
        exact Below.heap_setCell _ _ _ _ (by show W1.heap.size ≠ a0; omega)
      · obtain ⟨a, ha, rfl⟩ := hb
        injection ha with ha
        subst ha
        refine ⟨Nat.le_refl _, fun hf => ?_, ?_⟩
        · have := foot_some.1 hf
          simp only at this
          omega
        · have h6 : W1.heap.size < W4.heap.size := hlt4
          simpa [World.setCell, World.drew] using h6)
  refine ⟨_, rfl, hst.1.at_ hk ?_ H4.out, Goes.of_iff H5.out ((Goes.of_below HBW.out).trans hst.2)⟩
  rw [List.map_set, H3.out, he1, hfp.out]
end
end Go.Proofs.Ythnifgcoikmihaa
