/-
  The document's own parse of a message's body is what pdu.Get makes of it.
-/
import Derived.Test.YthipfopmaegpdaaPduGot2
import Derived.Test.YthipfopmaegpdaaPduSame
import Derived.Test.YthipfopmaegpdaaRefRd
namespace Go.Proofs.Ythipfopmaegpdaa
open Go.RowKit Go.ChangeShapes Go.WideShapes Go.ChangeAt

/-- A number read and laid into a field. -/
theorem fld_step {w wc w0 : World} {gp gr g0 f : Nat} {q : PduS} {s : RS} {v : Int} {zs : List Value} (hp : Blk w gp 24 (pduC q none 0)) (hr : Blk w g0 24 zs) (hrd : Rdr2 wc gr s) (hg : w.grownBy wc (some gr)) (h1 : g0 < gr) (h2 : gr < gp) (hb : Below g0 w0 w) (hf : f < 7) :
    Blk (wc.setCell ⟨gp, f + 1, none⟩ (.int .i64 v)) gp 24 (pduC (setF q f v) none 0) ∧ Rdr2 (wc.setCell ⟨gp, f + 1, none⟩ (.int .i64 v)) gr s ∧ Blk (wc.setCell ⟨gp, f + 1, none⟩ (.int .i64 v)) g0 24 zs ∧ Below g0 w0 (wc.setCell ⟨gp, f + 1, none⟩ (.int .i64 v)) := by
  have hpc := hp.grown_ne hg (by omega)
  have hBs : Below gp wc (wc.setCell ⟨gp, f + 1, none⟩ (.int .i64 v)) := (Below.refl gp wc).setCell (p := ⟨gp, f + 1, none⟩) (Nat.le_refl _) _
  have hl := hp.lt
  refine ⟨?_, hrd.belowG hBs h2, (hr.grown_ne hg (by omega)).below hBs (by omega), (hb.grown hg (by omega) (fun k hk => by injection hk with hk; omega)).trans (hBs.mono (by omega))⟩
  have h := hpc.set_ (f + 1) (.int .i64 v)
  rw [pduC_setF _ _ _ _ hf] at h
  exact h
theorem fieldsK_out {k : Int} (h : k < 1 ∨ 8 < k) : fieldsK k = [] := by
  unfold fieldsK
  repeat (rw [if_neg (by omega)])

set_option maxRecDepth 100000 in
set_option maxHeartbeats 16000000 in
theorem parse_any (A : Option Addr) (n c : Nat) (body : List UInt8) (w : World) (h : Reads w w.heap.size 1 A n (body.map bV)) (hn : n ≤ 100000000) (hnc : n ≤ c) (hcm : c ≤ maxLen) :
    Calls Try.prog 57 #[.slice A n c] w (BodyPost body w) := by
  obtain ⟨w2, hw2, hb2, hr2, hq2⟩ : ∃ w2 : World, (w.alloc (.cells #[.int .i64 0, .int .i64 0, .int .i64 0, .int .i64 0, .int .i64 0, .int .i64 0, .int .i64 0, .int .i64 0, .slice none 0 0] 24)).alloc (.cells #[.slice A n c, .int .i64 0, .int .i64 0] 138) = w2 ∧ Below w.heap.size w w2 ∧ Blk w2 w.heap.size 24 [.int .i64 0, .int .i64 0, .int .i64 0, .int .i64 0, .int .i64 0, .int .i64 0, .int .i64 0, .int .i64 0, .slice none 0 0] ∧ Blk w2 (w.heap.size + 1) 138 [.slice A n c, .int .i64 ((0 : Nat) : Int), .int .i64 0] :=
    ⟨_, rfl, ((Below.refl _ _).alloc (Nat.le_refl _) _).alloc (by simp) _, (Blk.new w _ [.int .i64 0, .int .i64 0, .int .i64 0, .int .i64 0, .int .i64 0, .int .i64 0, .int .i64 0, .int .i64 0, .slice none 0 0]).alloc _, Blk.new2 w _ _ [.slice A n c, .int .i64 0, .int .i64 0]⟩
  have HW := hid hw2
  clear hw2
  have hrd2 : Rdr2 w2 (w.heap.size + 1) ⟨body, 0⟩ := ⟨A, n, c, 0, hq2, ⟨body, (h.below hb2).more (by omega), rfl⟩, Nat.zero_le _, hnc, hcm, hn⟩
  obtain ⟨gr, hgr⟩ : ∃ gr, gr = w.heap.size + 1 := ⟨_, rfl⟩
  have j5 := num2_any (w.heap.size + 1) ⟨body, 0⟩ 1 w2 hrd2
  unfold NPost2 at j5
  have HG : Hid (∀ K s0, rNum ⟨body, 0⟩ 1 = (K, s0) → bodyG body = (if fieldsK (K : Int) = [] then (pduZ, 2) else
    let q := getL (fieldsK (K : Int)) { pduZ with kind := (K : Int) } s0
    let z := if (K : Int) = 2 then ({ q.1 with data := (rBytes q.2 16).1 }, (rBytes q.2 16).2) else q
    if rEnd z.2 ≠ 0 then (pduZ, rEnd z.2) else (z.1, 0))) := hid (fun K s0 h => by unfold bodyG; rw [h])
  obtain ⟨⟨K, s0⟩, hKs⟩ : ∃ r, rNum ⟨body, 0⟩ 1 = r := ⟨_, rfl⟩
  have HG2 := hid (HG.out K s0 hKs)
  rw [hKs] at j5
  simp only at j5
  have HJ := hid j5
  clear hKs HG h hq2 hrd2 j5
  go_enter Try.func57, Try.ntmps57
  go_wp2_with fail
  rw [HW.out]
  clear HW
  refine HJ.out.mono ?_
  rintro e w8 ⟨rfl, hrd8, hg8⟩
  rw [← hgr] at hrd8 hg8
  have hr8 := hr2.grown_ne hg8 (by omega)
  have hb08 := hb2.grown hg8 hb2.size (fun k hk => by injection hk with hk; omega)
  clear hr2 hb2 hg8 HJ
  obtain ⟨w9, hw9, hb9, hp9⟩ : ∃ w9 : World, w8.alloc (.cells #[.int .i64 (K : Int), .int .i64 0, .int .i64 0, .int .i64 0, .int .i64 0, .int .i64 0, .int .i64 0, .int .i64 0, .slice none 0 0] 24) = w9 ∧ Below w8.heap.size w8 w9 ∧ Blk w9 w8.heap.size 24 (pduC { pduZ with kind := (K : Int) } none 0) := ⟨_, rfl, (Below.refl _ _).alloc (Nat.le_refl _) _, Blk.new _ _ _⟩
  have hr9 := hr8.belowS hb9
  have hrd9 := hrd8.below hb9
  have hb09 := bel_trans hb08 hb9
  have hgp1 : gr < w8.heap.size := hrd8.lt
  have HW9 := hid hw9
  have c0 : w9.cell? ⟨w8.heap.size, 0, none⟩ = some (.int .i64 (K : Int)) := hp9.cellAt rfl
  have hgr0 : w.heap.size < gr := by omega
  have hgre := hid hgr
  rw [← hgr]
  have HR8 := hid hr8
  clear hw9 hr8 hrd8 hb08 hb9 hgr c0
  have hK00 : (0 : Int) ≤ (K : Int) := Int.natCast_nonneg _
  generalize (K : Int) = k at *
  by_cases hK0 : k < 1 ∨ 8 < k
  · have HG3 := hid (HG2.out.trans (if_pos (fieldsK_out hK0)))
    have f0 : ∀ o, (w8.alloc o).frozen? ⟨w.heap.size, 0, none⟩ = false := fun o => (HR8.out.alloc o).frozen 0
    have d0 : ∀ o, (w8.alloc o).cell? ⟨w.heap.size, 0, none⟩ = some (.int .i64 0) := fun o => (HR8.out.alloc o).cellAt rfl
    have f1 : ∀ o, (w8.alloc o).frozen? ⟨w.heap.size, 1, none⟩ = false := fun o => (HR8.out.alloc o).frozen 1
    have d1 : ∀ o, (w8.alloc o).cell? ⟨w.heap.size, 1, none⟩ = some (.int .i64 0) := fun o => (HR8.out.alloc o).cellAt rfl
    have f2 : ∀ o, (w8.alloc o).frozen? ⟨w.heap.size, 2, none⟩ = false := fun o => (HR8.out.alloc o).frozen 2
    have d2 : ∀ o, (w8.alloc o).cell? ⟨w.heap.size, 2, none⟩ = some (.int .i64 0) := fun o => (HR8.out.alloc o).cellAt rfl
    have f3 : ∀ o, (w8.alloc o).frozen? ⟨w.heap.size, 3, none⟩ = false := fun o => (HR8.out.alloc o).frozen 3
    have d3 : ∀ o, (w8.alloc o).cell? ⟨w.heap.size, 3, none⟩ = some (.int .i64 0) := fun o => (HR8.out.alloc o).cellAt rfl
    have f4 : ∀ o, (w8.alloc o).frozen? ⟨w.heap.size, 4, none⟩ = false := fun o => (HR8.out.alloc o).frozen 4
    have d4 : ∀ o, (w8.alloc o).cell? ⟨w.heap.size, 4, none⟩ = some (.int .i64 0) := fun o => (HR8.out.alloc o).cellAt rfl
    have f5 : ∀ o, (w8.alloc o).frozen? ⟨w.heap.size, 5, none⟩ = false := fun o => (HR8.out.alloc o).frozen 5
    have d5 : ∀ o, (w8.alloc o).cell? ⟨w.heap.size, 5, none⟩ = some (.int .i64 0) := fun o => (HR8.out.alloc o).cellAt rfl
    have f6 : ∀ o, (w8.alloc o).frozen? ⟨w.heap.size, 6, none⟩ = false := fun o => (HR8.out.alloc o).frozen 6
    have d6 : ∀ o, (w8.alloc o).cell? ⟨w.heap.size, 6, none⟩ = some (.int .i64 0) := fun o => (HR8.out.alloc o).cellAt rfl
    have f7 : ∀ o, (w8.alloc o).frozen? ⟨w.heap.size, 7, none⟩ = false := fun o => (HR8.out.alloc o).frozen 7
    have d7 : ∀ o, (w8.alloc o).cell? ⟨w.heap.size, 7, none⟩ = some (.int .i64 0) := fun o => (HR8.out.alloc o).cellAt rfl
    have f8 : ∀ o, (w8.alloc o).frozen? ⟨w.heap.size, 8, none⟩ = false := fun o => (HR8.out.alloc o).frozen 8
    have d8 : ∀ o, (w8.alloc o).cell? ⟨w.heap.size, 8, none⟩ = some (.slice none 0 0) := fun o => (HR8.out.alloc o).cellAt rfl
    have HR9 := hid hr9
    clear hr9
    by_cases hk1 : k < 1
    · have y1 : decide (k < 1) = true := decide_eq_true hk1
      clear hK0 hk1 hK00
      go_wp2_with fail
      rw [HW9.out]
      obtain ⟨w11, hw11, hb11, hr11⟩ := store9 HR9.out rfl (.int .i64 0) (.int .i64 0) (.int .i64 0) (.int .i64 0) (.int .i64 0) (.int .i64 0) (.int .i64 0) (.int .i64 0) (.slice none 0 0)
      rw [hw11]
      clear hw11 f0 f1 f2 f3 f4 f5 f6 f7 f8 d0 d1 d2 d3 d4 d5 d6 d7 d8 y1
      obtain ⟨r0, r1, r2, r3, r4, r5, r6, r7, r8⟩ : _ ∧ _ ∧ _ ∧ _ ∧ _ ∧ _ ∧ _ ∧ _ ∧ _ := ⟨hr11.cellAt (i := 0) rfl, hr11.cellAt (i := 1) rfl, hr11.cellAt (i := 2) rfl, hr11.cellAt (i := 3) rfl, hr11.cellAt (i := 4) rfl, hr11.cellAt (i := 5) rfl, hr11.cellAt (i := 6) rfl, hr11.cellAt (i := 7) rfl, hr11.cellAt (i := 8) rfl⟩
      have hfin := hid (hb09.trans hb11)
      refine bodyPost_ret (v := .tuple #[zV, .int .i64 2]) (by simp [results, Try.results57, go_sem, r0, r1, r2, r3, r4, r5, r6, r7, r8, zV]) rfl ?_
      unfold BodyPost
      rw [HG3.out]
      exact ⟨none, 0, rfl, Reads.empty, by show (0 : Nat) ≤ 16; decide, hfin.out, fun ad h => by cases h⟩
    · have y1 : decide (k < 1) = false := decide_eq_false hk1
      have y2 : decide (8 < k) = true := decide_eq_true (by omega)
      clear hK0 hk1 hK00
      go_wp2_with fail
      rw [HW9.out]
      obtain ⟨w11, hw11, hb11, hr11⟩ := store9 HR9.out rfl (.int .i64 0) (.int .i64 0) (.int .i64 0) (.int .i64 0) (.int .i64 0) (.int .i64 0) (.int .i64 0) (.int .i64 0) (.slice none 0 0)
      rw [hw11]
      clear hw11 f0 f1 f2 f3 f4 f5 f6 f7 f8 d0 d1 d2 d3 d4 d5 d6 d7 d8 y1
      obtain ⟨r0, r1, r2, r3, r4, r5, r6, r7, r8⟩ : _ ∧ _ ∧ _ ∧ _ ∧ _ ∧ _ ∧ _ ∧ _ ∧ _ := ⟨hr11.cellAt (i := 0) rfl, hr11.cellAt (i := 1) rfl, hr11.cellAt (i := 2) rfl, hr11.cellAt (i := 3) rfl, hr11.cellAt (i := 4) rfl, hr11.cellAt (i := 5) rfl, hr11.cellAt (i := 6) rfl, hr11.cellAt (i := 7) rfl, hr11.cellAt (i := 8) rfl⟩
      have hfin := hid (hb09.trans hb11)
      refine bodyPost_ret (v := .tuple #[zV, .int .i64 2]) (by simp [results, Try.results57, go_sem, r0, r1, r2, r3, r4, r5, r6, r7, r8, zV]) rfl ?_
      unfold BodyPost
      rw [HG3.out]
      exact ⟨none, 0, rfl, Reads.empty, by show (0 : Nat) ≤ 16; decide, hfin.out, fun ad h => by cases h⟩
  · have y1 : decide (k < 1) = false := decide_eq_false (by omega)
    have y2 : decide (8 < k) = false := decide_eq_false (by omega)
    have hks : k = 1 ∨ k = 2 ∨ k = 3 ∨ k = 4 ∨ k = 5 ∨ k = 6 ∨ k = 7 ∨ k = 8 := by omega
    clear hK0 hK00
    rcases hks with rfl | rfl | rfl | rfl | rfl | rfl | rfl | rfl
    · go_wp2_with fail
      rw [HW9.out]
      generalize w8.heap.size = gp at *
      clear y1 y2 HR8
      obtain ⟨⟨v20, s20⟩, hv20⟩ : ∃ r, rNum s0 2 = r := ⟨_, rfl⟩
      refine (num2_any gr s0 2 w9 hrd9).mono ?_
      rintro e x20 ⟨he, hrdc, hgc⟩
      rw [hv20] at he hrdc
      simp only at he hrdc
      subst he
      have HV20 : Hid (rNum s0 ((widS 0 : Nat) : Int) = (v20, s20)) := hid hv20
      have hpc := hp9.grown_ne hgc (by omega)
      have fz := hpc.frozen 1
      have xz := pdu_f hpc (k := 0) (by omega)
      obtain ⟨hp20, hrd20, hr20, hb20⟩ := fld_step (v := (v20 : Int)) (f := 0) hp9 hr9 hrdc hgc hgr0 hgp1 hb09 (by omega)
      simp only [Nat.reduceAdd] at hp20 hrd20 hr20 hb20 xz
      have c20 : (x20.setCell ⟨gp, 1, none⟩ (.int .i64 (v20 : Int))).cell? ⟨gp, 0, none⟩ = some (.int .i64 1) := (pdu_cells hp20).1
      have HH := hid (And.intro hp20 (And.intro hrd20 (And.intro hr20 hb20)))
      clear hp9 hrd9 hr9 hb09 hpc hrdc hgc hv20 hp20 hrd20 hr20 hb20
      go_wp2_with fail
      obtain ⟨hp20, hrd20, hr20, hb020⟩ := HH.out
      clear HH fz xz
      generalize x20.setCell ⟨gp, 1, none⟩ (.int .i64 (v20 : Int)) = w20 at hp20 hrd20 hr20 hb020 c20 ⊢
      obtain ⟨⟨v21, s21⟩, hv21⟩ : ∃ r, rNum s20 1 = r := ⟨_, rfl⟩
      refine (num2_any gr s20 1 w20 hrd20).mono ?_
      rintro e x21 ⟨he, hrdc, hgc⟩
      rw [hv21] at he hrdc
      simp only at he hrdc
      subst he
      have HV21 : Hid (rNum s20 ((widS 1 : Nat) : Int) = (v21, s21)) := hid hv21
      have hpc := hp20.grown_ne hgc (by omega)
      have fz := hpc.frozen 2
      have xz := pdu_f hpc (k := 1) (by omega)
      obtain ⟨hp21, hrd21, hr21, hb21⟩ := fld_step (v := (v21 : Int)) (f := 1) hp20 hr20 hrdc hgc hgr0 hgp1 hb020 (by omega)
      simp only [Nat.reduceAdd] at hp21 hrd21 hr21 hb21 xz
      have c21 : (x21.setCell ⟨gp, 2, none⟩ (.int .i64 (v21 : Int))).cell? ⟨gp, 0, none⟩ = some (.int .i64 1) := (pdu_cells hp21).1
      have HH := hid (And.intro hp21 (And.intro hrd21 (And.intro hr21 hb21)))
      clear hp20 hrd20 hr20 hb020 hpc hrdc hgc hv21 hp21 hrd21 hr21 hb21
      go_wp2_with fail
      obtain ⟨hp21, hrd21, hr21, hb021⟩ := HH.out
      clear HH fz xz
      generalize x21.setCell ⟨gp, 2, none⟩ (.int .i64 (v21 : Int)) = w21 at hp21 hrd21 hr21 hb021 c21 ⊢
      obtain ⟨⟨v22, s22⟩, hv22⟩ : ∃ r, rNum s21 2 = r := ⟨_, rfl⟩
      refine (num2_any gr s21 2 w21 hrd21).mono ?_
      rintro e x22 ⟨he, hrdc, hgc⟩
      rw [hv22] at he hrdc
      simp only at he hrdc
      subst he
      have HV22 : Hid (rNum s21 ((widS 3 : Nat) : Int) = (v22, s22)) := hid hv22
      have hpc := hp21.grown_ne hgc (by omega)
      have fz := hpc.frozen 4
      have xz := pdu_f hpc (k := 3) (by omega)
      obtain ⟨hp22, hrd22, hr22, hb22⟩ := fld_step (v := (v22 : Int)) (f := 3) hp21 hr21 hrdc hgc hgr0 hgp1 hb021 (by omega)
      simp only [Nat.reduceAdd] at hp22 hrd22 hr22 hb22 xz
      have c22 : (x22.setCell ⟨gp, 4, none⟩ (.int .i64 (v22 : Int))).cell? ⟨gp, 0, none⟩ = some (.int .i64 1) := (pdu_cells hp22).1
      have HH := hid (And.intro hp22 (And.intro hrd22 (And.intro hr22 hb22)))
      clear hp21 hrd21 hr21 hb021 hpc hrdc hgc hv22 hp22 hrd22 hr22 hb22
      go_wp2_with fail
      obtain ⟨hp22, hrd22, hr22, hb022⟩ := HH.out
      clear HH fz xz
      generalize x22.setCell ⟨gp, 4, none⟩ (.int .i64 (v22 : Int)) = w22 at hp22 hrd22 hr22 hb022 c22 ⊢
      have hgl : getL (fieldsK (1 : Int)) ({ pduZ with kind := 1 } : PduS) s0 = ((setF (setF (setF ({ pduZ with kind := 1 } : PduS) 0 (v20 : Int)) 1 (v21 : Int)) 3 (v22 : Int)), s22) := by
        show getL [0, 1, 3] _ _ = _
        simp only [getL, HV20.out, HV21.out, HV22.out]
      have HG6 : Hid (bodyG body = if rEnd s22 ≠ 0 then (pduZ, rEnd s22) else ((setF (setF (setF ({ pduZ with kind := 1 } : PduS) 0 (v20 : Int)) 1 (v21 : Int)) 3 (v22 : Int)), 0)) := hid (by
        rw [HG2.out, if_neg (by decide)]
        simp only [hgl, Int.reduceEq, reduceIte])
      have hX := hp22
      have hR1 := hrd22
      have hr1 := hr22
      have hb1' := hb022
      have hrl2 : (setF (setF (setF ({ pduZ with kind := 1 } : PduS) 0 (v20 : Int)) 1 (v21 : Int)) 3 (v22 : Int)).data.length ≤ 16 := by show (0 : Nat) ≤ 16; decide
      have hown2 : Reads w22 w22.heap.size 1 none (setF (setF (setF ({ pduZ with kind := 1 } : PduS) 0 (v20 : Int)) 1 (v21 : Int)) 3 (v22 : Int)).data.length ((setF (setF (setF ({ pduZ with kind := 1 } : PduS) 0 (v20 : Int)) 1 (v21 : Int)) 3 (v22 : Int)).data.map bV) := Reads.empty
      clear hgl hp22 hrd22 hr22 hb022 c22
      generalize (setF (setF (setF ({ pduZ with kind := 1 } : PduS) 0 (v20 : Int)) 1 (v21 : Int)) 3 (v22 : Int)) = q2 at hX hown2 hrl2 HG6
      generalize s22 = s2 at hR1 HG6
      obtain ⟨A2, hA2⟩ : ∃ A2 : Option Addr, A2 = none := ⟨_, rfl⟩
      obtain ⟨d2, hd2⟩ : ∃ d2 : Nat, d2 = 0 := ⟨_, rfl⟩
      rw [← hA2, ← hd2] at hX
      rw [← hA2] at hown2
      have hne2 : ∀ ad : Addr, A2 = some ad → gr < ad.block := fun ad h => by rw [hA2] at h; cases h
      clear hA2 hd2
      generalize w22 = w11 at *
      have HE := hid (end2_any gr s2 w11 hR1)
      have HP := hid hX
      have HR := hid hr1
      have HN := hid hne2
      have HN2 := hid hne2
      have HOW := hid hown2
      have HBB := hid hb1'
      clear hX hr1 hne2 hown2 hb1' hR1
      by_cases he : rEnd s2 = 0
      · have HG7 := hid (HG6.out.trans (if_neg (by rw [he]; simp)))
        have g0 : (rEnd s2 != 0) = false := by simp [he]
        refine HE.out.mono ?_
        rintro e w12 ⟨rfl, hrd12, hg12⟩
        have hp12 := HP.out.grown_ne hg12 (by omega)
        have hr12 := HR.out.grown_ne hg12 (by omega)
        have hb12 := HBB.out.grown hg12 HBB.out.size (fun k hk => by injection hk with hk; omega)
        have ho12 := HOW.out.grown_ne (Nat.le_refl _) hg12 (fun ad h => by have := HN.out ad h; omega)
        obtain ⟨f0, f1, f2, f3, f4, f5, f6, f7, f8⟩ : _ ∧ _ ∧ _ ∧ _ ∧ _ ∧ _ ∧ _ ∧ _ ∧ _ := ⟨hr12.frozen 0, hr12.frozen 1, hr12.frozen 2, hr12.frozen 3, hr12.frozen 4, hr12.frozen 5, hr12.frozen 6, hr12.frozen 7, hr12.frozen 8⟩
        obtain ⟨c0, c1, c2, c3, c4, c5, c6, c7, c8⟩ : _ ∧ _ ∧ _ ∧ _ ∧ _ ∧ _ ∧ _ ∧ _ ∧ _ := ⟨hr12.cellAt (i := 0) rfl, hr12.cellAt (i := 1) rfl, hr12.cellAt (i := 2) rfl, hr12.cellAt (i := 3) rfl, hr12.cellAt (i := 4) rfl, hr12.cellAt (i := 5) rfl, hr12.cellAt (i := 6) rfl, hr12.cellAt (i := 7) rfl, hr12.cellAt (i := 8) rfl⟩
        obtain ⟨m0, m1, m2, m3, m4, m5, m6, m7, m8⟩ := pdu_cells hp12
        have HR12 := hid hr12
        have HO12 := hid ho12
        generalize rEnd s2 = EE at g0
        clear he HG6 HE hr12 hp12 ho12 hrd12 hg12 HP HR HN HOW HBB
        go_wp2_with fail
        obtain ⟨w13, hw13, hb13, hg13, hr13⟩ := store9g HR12.out rfl (.int .i64 q2.kind) (.int .i64 q2.ses) (.int .i64 q2.part) (.int .i64 q2.no) (.int .i64 q2.size) (.int .i64 q2.what) (.int .i64 q2.code) (.int .i64 q2.hav) (.slice A2 q2.data.length d2)
        rw [hw13]
        clear hw13 f0 f1 f2 f3 f4 f5 f6 f7 f8 c0 c1 c2 c3 c4 c5 c6 c7 c8 m0 m1 m2 m3 m4 m5 m6 m7 m8 g0
        obtain ⟨r0, r1, r2, r3, r4, r5, r6, r7, r8⟩ : _ ∧ _ ∧ _ ∧ _ ∧ _ ∧ _ ∧ _ ∧ _ ∧ _ := ⟨hr13.cellAt (i := 0) rfl, hr13.cellAt (i := 1) rfl, hr13.cellAt (i := 2) rfl, hr13.cellAt (i := 3) rfl, hr13.cellAt (i := 4) rfl, hr13.cellAt (i := 5) rfl, hr13.cellAt (i := 6) rfl, hr13.cellAt (i := 7) rfl, hr13.cellAt (i := 8) rfl⟩
        have hfin := hid (hb12.trans hb13)
        have hrdf := hid (HO12.out.grown_ne (Nat.le_refl _) hg13 (fun ad h => by have := HN2.out ad h; omega))
        refine bodyPost_ret (v := .tuple #[.agg #[.int .i64 q2.kind, .int .i64 q2.ses, .int .i64 q2.part, .int .i64 q2.no, .int .i64 q2.size, .int .i64 q2.what, .int .i64 q2.code, .int .i64 q2.hav, .slice A2 q2.data.length d2], .int .i64 0]) (by simp [results, Try.results57, go_sem, r0, r1, r2, r3, r4, r5, r6, r7, r8, zV]) rfl ?_
        unfold BodyPost
        rw [HG7.out]
        exact ⟨A2, d2, rfl, hrdf.out, hrl2, hfin.out, fun ad h => by have := HN2.out ad h; omega⟩
      · have HG7 := hid (HG6.out.trans (if_pos he))
        have g0 : (rEnd s2 != 0) = true := by simpa using he
        refine HE.out.mono ?_
        rintro e w12 ⟨rfl, hrd12, hg12⟩
        have hr12 := HR.out.grown_ne hg12 (by omega)
        have hb12 := HBB.out.grown hg12 HBB.out.size (fun k hk => by injection hk with hk; omega)
        have HE2 := hid (end2_any gr s2 w12 hrd12)
        have HR12 := hid hr12
        have HB12 := hid hb12
        generalize hEE : rEnd s2 = EE at g0 HG7
        unfold EPost2 at HE2
        rw [hEE] at HE2
        clear he HG6 HE hr12 hb12 hrd12 hg12 HP HR HN HOW HBB hEE
        go_wp2_with fail
        refine HE2.out.mono ?_
        rintro e w13 ⟨rfl, hrd13, hg13⟩
        have hr13 := HR12.out.grown_ne hg13 (by omega)
        have hb13 := HB12.out.grown hg13 HB12.out.size (fun k hk => by injection hk with hk; omega)
        obtain ⟨f0, f1, f2, f3, f4, f5, f6, f7, f8⟩ : _ ∧ _ ∧ _ ∧ _ ∧ _ ∧ _ ∧ _ ∧ _ ∧ _ := ⟨hr13.frozen 0, hr13.frozen 1, hr13.frozen 2, hr13.frozen 3, hr13.frozen 4, hr13.frozen 5, hr13.frozen 6, hr13.frozen 7, hr13.frozen 8⟩
        obtain ⟨c0, c1, c2, c3, c4, c5, c6, c7, c8⟩ : _ ∧ _ ∧ _ ∧ _ ∧ _ ∧ _ ∧ _ ∧ _ ∧ _ := ⟨hr13.cellAt (i := 0) rfl, hr13.cellAt (i := 1) rfl, hr13.cellAt (i := 2) rfl, hr13.cellAt (i := 3) rfl, hr13.cellAt (i := 4) rfl, hr13.cellAt (i := 5) rfl, hr13.cellAt (i := 6) rfl, hr13.cellAt (i := 7) rfl, hr13.cellAt (i := 8) rfl⟩
        have HR13 := hid hr13
        clear hr13 hrd13 hg13 HE2 HR12 g0
        go_wp2_with fail
        obtain ⟨w14, hw14, hb14, hr14⟩ := store9 HR13.out rfl (.int .i64 0) (.int .i64 0) (.int .i64 0) (.int .i64 0) (.int .i64 0) (.int .i64 0) (.int .i64 0) (.int .i64 0) (.slice none 0 0)
        rw [hw14]
        clear hw14 f0 f1 f2 f3 f4 f5 f6 f7 f8 c0 c1 c2 c3 c4 c5 c6 c7 c8
        obtain ⟨r0, r1, r2, r3, r4, r5, r6, r7, r8⟩ : _ ∧ _ ∧ _ ∧ _ ∧ _ ∧ _ ∧ _ ∧ _ ∧ _ := ⟨hr14.cellAt (i := 0) rfl, hr14.cellAt (i := 1) rfl, hr14.cellAt (i := 2) rfl, hr14.cellAt (i := 3) rfl, hr14.cellAt (i := 4) rfl, hr14.cellAt (i := 5) rfl, hr14.cellAt (i := 6) rfl, hr14.cellAt (i := 7) rfl, hr14.cellAt (i := 8) rfl⟩
        have hfin := hid (hb13.trans hb14)
        refine bodyPost_ret (v := .tuple #[zV, .int .i64 EE]) (by simp [results, Try.results57, go_sem, r0, r1, r2, r3, r4, r5, r6, r7, r8, zV]) rfl ?_
        unfold BodyPost
        rw [HG7.out]
        exact ⟨none, 0, rfl, Reads.empty, by show (0 : Nat) ≤ 16; decide, hfin.out, fun ad h => by cases h⟩
    · go_wp2_with fail
      rw [HW9.out]
      generalize w8.heap.size = gp at *
      clear y1 y2 HR8
      obtain ⟨⟨v20, s20⟩, hv20⟩ : ∃ r, rNum s0 2 = r := ⟨_, rfl⟩
      refine (num2_any gr s0 2 w9 hrd9).mono ?_
      rintro e x20 ⟨he, hrdc, hgc⟩
      rw [hv20] at he hrdc
      simp only at he hrdc
      subst he
      have HV20 : Hid (rNum s0 ((widS 0 : Nat) : Int) = (v20, s20)) := hid hv20
      have hpc := hp9.grown_ne hgc (by omega)
      have fz := hpc.frozen 1
      have xz := pdu_f hpc (k := 0) (by omega)
      obtain ⟨hp20, hrd20, hr20, hb20⟩ := fld_step (v := (v20 : Int)) (f := 0) hp9 hr9 hrdc hgc hgr0 hgp1 hb09 (by omega)
      simp only [Nat.reduceAdd] at hp20 hrd20 hr20 hb20 xz
      have c20 : (x20.setCell ⟨gp, 1, none⟩ (.int .i64 (v20 : Int))).cell? ⟨gp, 0, none⟩ = some (.int .i64 2) := (pdu_cells hp20).1
      have HH := hid (And.intro hp20 (And.intro hrd20 (And.intro hr20 hb20)))
      clear hp9 hrd9 hr9 hb09 hpc hrdc hgc hv20 hp20 hrd20 hr20 hb20
      go_wp2_with fail
      obtain ⟨hp20, hrd20, hr20, hb020⟩ := HH.out
      clear HH fz xz
      generalize x20.setCell ⟨gp, 1, none⟩ (.int .i64 (v20 : Int)) = w20 at hp20 hrd20 hr20 hb020 c20 ⊢
      obtain ⟨⟨v21, s21⟩, hv21⟩ : ∃ r, rNum s20 1 = r := ⟨_, rfl⟩
      refine (num2_any gr s20 1 w20 hrd20).mono ?_
      rintro e x21 ⟨he, hrdc, hgc⟩
      rw [hv21] at he hrdc
      simp only at he hrdc
      subst he
      have HV21 : Hid (rNum s20 ((widS 2 : Nat) : Int) = (v21, s21)) := hid hv21
      have hpc := hp20.grown_ne hgc (by omega)
      have fz := hpc.frozen 3
      have xz := pdu_f hpc (k := 2) (by omega)
      obtain ⟨hp21, hrd21, hr21, hb21⟩ := fld_step (v := (v21 : Int)) (f := 2) hp20 hr20 hrdc hgc hgr0 hgp1 hb020 (by omega)
      simp only [Nat.reduceAdd] at hp21 hrd21 hr21 hb21 xz
      have c21 : (x21.setCell ⟨gp, 3, none⟩ (.int .i64 (v21 : Int))).cell? ⟨gp, 0, none⟩ = some (.int .i64 2) := (pdu_cells hp21).1
      have HH := hid (And.intro hp21 (And.intro hrd21 (And.intro hr21 hb21)))
      clear hp20 hrd20 hr20 hb020 hpc hrdc hgc hv21 hp21 hrd21 hr21 hb21
      go_wp2_with fail
      obtain ⟨hp21, hrd21, hr21, hb021⟩ := HH.out
      clear HH fz xz
      generalize x21.setCell ⟨gp, 3, none⟩ (.int .i64 (v21 : Int)) = w21 at hp21 hrd21 hr21 hb021 c21 ⊢
      have hgl : getL (fieldsK (2 : Int)) ({ pduZ with kind := 2 } : PduS) s0 = ((setF (setF ({ pduZ with kind := 2 } : PduS) 0 (v20 : Int)) 2 (v21 : Int)), s21) := by
        show getL [0, 2] _ _ = _
        simp only [getL, HV20.out, HV21.out]
      obtain ⟨⟨dt, s2⟩, hds⟩ : ∃ r, rBytes s21 16 = r := ⟨_, rfl⟩
      have HG6 : Hid (bodyG body = if rEnd s2 ≠ 0 then (pduZ, rEnd s2) else (({ (setF (setF ({ pduZ with kind := 2 } : PduS) 0 (v20 : Int)) 2 (v21 : Int)) with data := dt } : PduS), 0)) := hid (by
        rw [HG2.out, if_neg (by decide)]
        simp only [hgl, hds, reduceIte])
      have hlen16 := rBytes_len s21 16 (by omega)
      rw [hds] at hlen16
      simp only at hlen16
      refine (bytes2_any gr s21 16 w21 hrd21 (by omega) (by omega)).mono ?_
      rintro e wd ⟨A2, m, d2, he, hownD, hrdD, hgD⟩
      rw [hds] at hownD hrdD
      simp only at hownD hrdD
      subst he
      obtain rfl : dt.length = m := by simpa using hownD.1
      have hpd := hp21.grown_ne hgD (by omega)
      have f8 := hpd.frozen 8
      have c8 : wd.cell? ⟨gp, 8, none⟩ = some (.slice none 0 0) := hpd.cellAt rfl
      have hX : Blk (wd.setCell ⟨gp, 8, none⟩ (.slice A2 dt.length d2)) gp 24 (pduC ({ (setF (setF ({ pduZ with kind := 2 } : PduS) 0 (v20 : Int)) 2 (v21 : Int)) with data := dt } : PduS) A2 d2) := hpd.set_ 8 (.slice A2 dt.length d2)
      have hBs : Below gp wd (wd.setCell ⟨gp, 8, none⟩ (.slice A2 dt.length d2)) := (Below.refl gp wd).setCell (p := ⟨gp, 8, none⟩) (Nat.le_refl _) _
      have hR1 := hrdD.belowG hBs hgp1
      have hr1 := (hr21.grown_ne hgD (by omega)).below hBs (by omega)
      have hb1' := (hb021.grown hgD hb021.size (fun k hk => by injection hk with hk; omega)).trans (hBs.mono (by omega))
      have hown2 : Reads (wd.setCell ⟨gp, 8, none⟩ (.slice A2 dt.length d2)) (wd.setCell ⟨gp, 8, none⟩ (.slice A2 dt.length d2)).heap.size 1 A2 (({ (setF (setF ({ pduZ with kind := 2 } : PduS) 0 (v20 : Int)) 2 (v21 : Int)) with data := dt } : PduS)).data.length ((({ (setF (setF ({ pduZ with kind := 2 } : PduS) 0 (v20 : Int)) 2 (v21 : Int)) with data := dt } : PduS)).data.map bV) := Reads.of_own (ownsRow_setCell_below hownD (a := ⟨gp, 8, none⟩) hp21.lt (.slice A2 dt.length d2))
      have hrl2 : (({ (setF (setF ({ pduZ with kind := 2 } : PduS) 0 (v20 : Int)) 2 (v21 : Int)) with data := dt } : PduS)).data.length ≤ 16 := by show dt.length ≤ 16; omega
      have hne2 : ∀ ad : Addr, A2 = some ad → gr < ad.block := fun ad h => by
        have h1 := own_block hownD ad h
        have h2 := hp21.lt
        omega
      have HH := hid (And.intro hX (And.intro hR1 (And.intro hr1 (And.intro hb1' hown2))))
      clear hgl hds hlen16 hX hR1 hr1 hb1' hown2 hBs hpd hownD hrdD hgD hp21 hrd21 hr21 hb021 c21
      go_wp2_with fail
      obtain ⟨hX, hR1, hr1, hb1', hown2⟩ := HH.out
      clear HH f8 c8
      have hqd : ({ (setF (setF ({ pduZ with kind := 2 } : PduS) 0 (v20 : Int)) 2 (v21 : Int)) with data := dt } : PduS).data = dt := rfl
      generalize ({ (setF (setF ({ pduZ with kind := 2 } : PduS) 0 (v20 : Int)) 2 (v21 : Int)) with data := dt } : PduS) = q2 at hX HG6 hqd
      have hown3 : Reads (wd.setCell ⟨gp, 8, none⟩ (.slice A2 dt.length d2)) (wd.setCell ⟨gp, 8, none⟩ (.slice A2 dt.length d2)).heap.size 1 A2 q2.data.length (q2.data.map bV) := by rw [hqd]; exact hown2
      have hrl3 : q2.data.length ≤ 16 := by rw [hqd]; exact hrl2
      clear hown2 hrl2 hqd
      have hown2 := hown3
      have hrl2 := hrl3
      clear hown3 hrl3
      generalize wd.setCell ⟨gp, 8, none⟩ (.slice A2 dt.length d2) = w11 at hX hR1 hr1 hb1' hown2 ⊢
      have HE := hid (end2_any gr s2 w11 hR1)
      have HP := hid hX
      have HR := hid hr1
      have HN := hid hne2
      have HN2 := hid hne2
      have HOW := hid hown2
      have HBB := hid hb1'
      clear hX hr1 hne2 hown2 hb1' hR1
      by_cases he : rEnd s2 = 0
      · have HG7 := hid (HG6.out.trans (if_neg (by rw [he]; simp)))
        have g0 : (rEnd s2 != 0) = false := by simp [he]
        refine HE.out.mono ?_
        rintro e w12 ⟨rfl, hrd12, hg12⟩
        have hp12 := HP.out.grown_ne hg12 (by omega)
        have hr12 := HR.out.grown_ne hg12 (by omega)
        have hb12 := HBB.out.grown hg12 HBB.out.size (fun k hk => by injection hk with hk; omega)
        have ho12 := HOW.out.grown_ne (Nat.le_refl _) hg12 (fun ad h => by have := HN.out ad h; omega)
        obtain ⟨f0, f1, f2, f3, f4, f5, f6, f7, f8⟩ : _ ∧ _ ∧ _ ∧ _ ∧ _ ∧ _ ∧ _ ∧ _ ∧ _ := ⟨hr12.frozen 0, hr12.frozen 1, hr12.frozen 2, hr12.frozen 3, hr12.frozen 4, hr12.frozen 5, hr12.frozen 6, hr12.frozen 7, hr12.frozen 8⟩
        obtain ⟨c0, c1, c2, c3, c4, c5, c6, c7, c8⟩ : _ ∧ _ ∧ _ ∧ _ ∧ _ ∧ _ ∧ _ ∧ _ ∧ _ := ⟨hr12.cellAt (i := 0) rfl, hr12.cellAt (i := 1) rfl, hr12.cellAt (i := 2) rfl, hr12.cellAt (i := 3) rfl, hr12.cellAt (i := 4) rfl, hr12.cellAt (i := 5) rfl, hr12.cellAt (i := 6) rfl, hr12.cellAt (i := 7) rfl, hr12.cellAt (i := 8) rfl⟩
        obtain ⟨m0, m1, m2, m3, m4, m5, m6, m7, m8⟩ := pdu_cells hp12
        have HR12 := hid hr12
        have HO12 := hid ho12
        generalize rEnd s2 = EE at g0
        clear he HG6 HE hr12 hp12 ho12 hrd12 hg12 HP HR HN HOW HBB
        go_wp2_with fail
        obtain ⟨w13, hw13, hb13, hg13, hr13⟩ := store9g HR12.out rfl (.int .i64 q2.kind) (.int .i64 q2.ses) (.int .i64 q2.part) (.int .i64 q2.no) (.int .i64 q2.size) (.int .i64 q2.what) (.int .i64 q2.code) (.int .i64 q2.hav) (.slice A2 q2.data.length d2)
        rw [hw13]
        clear hw13 f0 f1 f2 f3 f4 f5 f6 f7 f8 c0 c1 c2 c3 c4 c5 c6 c7 c8 m0 m1 m2 m3 m4 m5 m6 m7 m8 g0
        obtain ⟨r0, r1, r2, r3, r4, r5, r6, r7, r8⟩ : _ ∧ _ ∧ _ ∧ _ ∧ _ ∧ _ ∧ _ ∧ _ ∧ _ := ⟨hr13.cellAt (i := 0) rfl, hr13.cellAt (i := 1) rfl, hr13.cellAt (i := 2) rfl, hr13.cellAt (i := 3) rfl, hr13.cellAt (i := 4) rfl, hr13.cellAt (i := 5) rfl, hr13.cellAt (i := 6) rfl, hr13.cellAt (i := 7) rfl, hr13.cellAt (i := 8) rfl⟩
        have hfin := hid (hb12.trans hb13)
        have hrdf := hid (HO12.out.grown_ne (Nat.le_refl _) hg13 (fun ad h => by have := HN2.out ad h; omega))
        refine bodyPost_ret (v := .tuple #[.agg #[.int .i64 q2.kind, .int .i64 q2.ses, .int .i64 q2.part, .int .i64 q2.no, .int .i64 q2.size, .int .i64 q2.what, .int .i64 q2.code, .int .i64 q2.hav, .slice A2 q2.data.length d2], .int .i64 0]) (by simp [results, Try.results57, go_sem, r0, r1, r2, r3, r4, r5, r6, r7, r8, zV]) rfl ?_
        unfold BodyPost
        rw [HG7.out]
        exact ⟨A2, d2, rfl, hrdf.out, hrl2, hfin.out, fun ad h => by have := HN2.out ad h; omega⟩
      · have HG7 := hid (HG6.out.trans (if_pos he))
        have g0 : (rEnd s2 != 0) = true := by simpa using he
        refine HE.out.mono ?_
        rintro e w12 ⟨rfl, hrd12, hg12⟩
        have hr12 := HR.out.grown_ne hg12 (by omega)
        have hb12 := HBB.out.grown hg12 HBB.out.size (fun k hk => by injection hk with hk; omega)
        have HE2 := hid (end2_any gr s2 w12 hrd12)
        have HR12 := hid hr12
        have HB12 := hid hb12
        generalize hEE : rEnd s2 = EE at g0 HG7
        unfold EPost2 at HE2
        rw [hEE] at HE2
        clear he HG6 HE hr12 hb12 hrd12 hg12 HP HR HN HOW HBB hEE
        go_wp2_with fail
        refine HE2.out.mono ?_
        rintro e w13 ⟨rfl, hrd13, hg13⟩
        have hr13 := HR12.out.grown_ne hg13 (by omega)
        have hb13 := HB12.out.grown hg13 HB12.out.size (fun k hk => by injection hk with hk; omega)
        obtain ⟨f0, f1, f2, f3, f4, f5, f6, f7, f8⟩ : _ ∧ _ ∧ _ ∧ _ ∧ _ ∧ _ ∧ _ ∧ _ ∧ _ := ⟨hr13.frozen 0, hr13.frozen 1, hr13.frozen 2, hr13.frozen 3, hr13.frozen 4, hr13.frozen 5, hr13.frozen 6, hr13.frozen 7, hr13.frozen 8⟩
        obtain ⟨c0, c1, c2, c3, c4, c5, c6, c7, c8⟩ : _ ∧ _ ∧ _ ∧ _ ∧ _ ∧ _ ∧ _ ∧ _ ∧ _ := ⟨hr13.cellAt (i := 0) rfl, hr13.cellAt (i := 1) rfl, hr13.cellAt (i := 2) rfl, hr13.cellAt (i := 3) rfl, hr13.cellAt (i := 4) rfl, hr13.cellAt (i := 5) rfl, hr13.cellAt (i := 6) rfl, hr13.cellAt (i := 7) rfl, hr13.cellAt (i := 8) rfl⟩
        have HR13 := hid hr13
        clear hr13 hrd13 hg13 HE2 HR12 g0
        go_wp2_with fail
        obtain ⟨w14, hw14, hb14, hr14⟩ := store9 HR13.out rfl (.int .i64 0) (.int .i64 0) (.int .i64 0) (.int .i64 0) (.int .i64 0) (.int .i64 0) (.int .i64 0) (.int .i64 0) (.slice none 0 0)
        rw [hw14]
        clear hw14 f0 f1 f2 f3 f4 f5 f6 f7 f8 c0 c1 c2 c3 c4 c5 c6 c7 c8
        obtain ⟨r0, r1, r2, r3, r4, r5, r6, r7, r8⟩ : _ ∧ _ ∧ _ ∧ _ ∧ _ ∧ _ ∧ _ ∧ _ ∧ _ := ⟨hr14.cellAt (i := 0) rfl, hr14.cellAt (i := 1) rfl, hr14.cellAt (i := 2) rfl, hr14.cellAt (i := 3) rfl, hr14.cellAt (i := 4) rfl, hr14.cellAt (i := 5) rfl, hr14.cellAt (i := 6) rfl, hr14.cellAt (i := 7) rfl, hr14.cellAt (i := 8) rfl⟩
        have hfin := hid (hb13.trans hb14)
        refine bodyPost_ret (v := .tuple #[zV, .int .i64 EE]) (by simp [results, Try.results57, go_sem, r0, r1, r2, r3, r4, r5, r6, r7, r8, zV]) rfl ?_
        unfold BodyPost
        rw [HG7.out]
        exact ⟨none, 0, rfl, Reads.empty, by show (0 : Nat) ≤ 16; decide, hfin.out, fun ad h => by cases h⟩
    · go_wp2_with fail
      rw [HW9.out]
      generalize w8.heap.size = gp at *
      clear y1 y2 HR8
      obtain ⟨⟨v20, s20⟩, hv20⟩ : ∃ r, rNum s0 2 = r := ⟨_, rfl⟩
      refine (num2_any gr s0 2 w9 hrd9).mono ?_
      rintro e x20 ⟨he, hrdc, hgc⟩
      rw [hv20] at he hrdc
      simp only at he hrdc
      subst he
      have HV20 : Hid (rNum s0 ((widS 0 : Nat) : Int) = (v20, s20)) := hid hv20
      have hpc := hp9.grown_ne hgc (by omega)
      have fz := hpc.frozen 1
      have xz := pdu_f hpc (k := 0) (by omega)
      obtain ⟨hp20, hrd20, hr20, hb20⟩ := fld_step (v := (v20 : Int)) (f := 0) hp9 hr9 hrdc hgc hgr0 hgp1 hb09 (by omega)
      simp only [Nat.reduceAdd] at hp20 hrd20 hr20 hb20 xz
      have c20 : (x20.setCell ⟨gp, 1, none⟩ (.int .i64 (v20 : Int))).cell? ⟨gp, 0, none⟩ = some (.int .i64 3) := (pdu_cells hp20).1
      have HH := hid (And.intro hp20 (And.intro hrd20 (And.intro hr20 hb20)))
      clear hp9 hrd9 hr9 hb09 hpc hrdc hgc hv20 hp20 hrd20 hr20 hb20
      go_wp2_with fail
      obtain ⟨hp20, hrd20, hr20, hb020⟩ := HH.out
      clear HH fz xz
      generalize x20.setCell ⟨gp, 1, none⟩ (.int .i64 (v20 : Int)) = w20 at hp20 hrd20 hr20 hb020 c20 ⊢
      have hgl : getL (fieldsK (3 : Int)) ({ pduZ with kind := 3 } : PduS) s0 = ((setF ({ pduZ with kind := 3 } : PduS) 0 (v20 : Int)), s20) := by
        show getL [0] _ _ = _
        simp only [getL, HV20.out]
      have HG6 : Hid (bodyG body = if rEnd s20 ≠ 0 then (pduZ, rEnd s20) else ((setF ({ pduZ with kind := 3 } : PduS) 0 (v20 : Int)), 0)) := hid (by
        rw [HG2.out, if_neg (by decide)]
        simp only [hgl, Int.reduceEq, reduceIte])
      have hX := hp20
      have hR1 := hrd20
      have hr1 := hr20
      have hb1' := hb020
      have hrl2 : (setF ({ pduZ with kind := 3 } : PduS) 0 (v20 : Int)).data.length ≤ 16 := by show (0 : Nat) ≤ 16; decide
      have hown2 : Reads w20 w20.heap.size 1 none (setF ({ pduZ with kind := 3 } : PduS) 0 (v20 : Int)).data.length ((setF ({ pduZ with kind := 3 } : PduS) 0 (v20 : Int)).data.map bV) := Reads.empty
      clear hgl hp20 hrd20 hr20 hb020 c20
      generalize (setF ({ pduZ with kind := 3 } : PduS) 0 (v20 : Int)) = q2 at hX hown2 hrl2 HG6
      generalize s20 = s2 at hR1 HG6
      obtain ⟨A2, hA2⟩ : ∃ A2 : Option Addr, A2 = none := ⟨_, rfl⟩
      obtain ⟨d2, hd2⟩ : ∃ d2 : Nat, d2 = 0 := ⟨_, rfl⟩
      rw [← hA2, ← hd2] at hX
      rw [← hA2] at hown2
      have hne2 : ∀ ad : Addr, A2 = some ad → gr < ad.block := fun ad h => by rw [hA2] at h; cases h
      clear hA2 hd2
      generalize w20 = w11 at *
      have HE := hid (end2_any gr s2 w11 hR1)
      have HP := hid hX
      have HR := hid hr1
      have HN := hid hne2
      have HN2 := hid hne2
      have HOW := hid hown2
      have HBB := hid hb1'
      clear hX hr1 hne2 hown2 hb1' hR1
      by_cases he : rEnd s2 = 0
      · have HG7 := hid (HG6.out.trans (if_neg (by rw [he]; simp)))
        have g0 : (rEnd s2 != 0) = false := by simp [he]
        refine HE.out.mono ?_
        rintro e w12 ⟨rfl, hrd12, hg12⟩
        have hp12 := HP.out.grown_ne hg12 (by omega)
        have hr12 := HR.out.grown_ne hg12 (by omega)
        have hb12 := HBB.out.grown hg12 HBB.out.size (fun k hk => by injection hk with hk; omega)
        have ho12 := HOW.out.grown_ne (Nat.le_refl _) hg12 (fun ad h => by have := HN.out ad h; omega)
        obtain ⟨f0, f1, f2, f3, f4, f5, f6, f7, f8⟩ : _ ∧ _ ∧ _ ∧ _ ∧ _ ∧ _ ∧ _ ∧ _ ∧ _ := ⟨hr12.frozen 0, hr12.frozen 1, hr12.frozen 2, hr12.frozen 3, hr12.frozen 4, hr12.frozen 5, hr12.frozen 6, hr12.frozen 7, hr12.frozen 8⟩
        obtain ⟨c0, c1, c2, c3, c4, c5, c6, c7, c8⟩ : _ ∧ _ ∧ _ ∧ _ ∧ _ ∧ _ ∧ _ ∧ _ ∧ _ := ⟨hr12.cellAt (i := 0) rfl, hr12.cellAt (i := 1) rfl, hr12.cellAt (i := 2) rfl, hr12.cellAt (i := 3) rfl, hr12.cellAt (i := 4) rfl, hr12.cellAt (i := 5) rfl, hr12.cellAt (i := 6) rfl, hr12.cellAt (i := 7) rfl, hr12.cellAt (i := 8) rfl⟩
        obtain ⟨m0, m1, m2, m3, m4, m5, m6, m7, m8⟩ := pdu_cells hp12
        have HR12 := hid hr12
        have HO12 := hid ho12
        generalize rEnd s2 = EE at g0
        clear he HG6 HE hr12 hp12 ho12 hrd12 hg12 HP HR HN HOW HBB
        go_wp2_with fail
        obtain ⟨w13, hw13, hb13, hg13, hr13⟩ := store9g HR12.out rfl (.int .i64 q2.kind) (.int .i64 q2.ses) (.int .i64 q2.part) (.int .i64 q2.no) (.int .i64 q2.size) (.int .i64 q2.what) (.int .i64 q2.code) (.int .i64 q2.hav) (.slice A2 q2.data.length d2)
        rw [hw13]
        clear hw13 f0 f1 f2 f3 f4 f5 f6 f7 f8 c0 c1 c2 c3 c4 c5 c6 c7 c8 m0 m1 m2 m3 m4 m5 m6 m7 m8 g0
        obtain ⟨r0, r1, r2, r3, r4, r5, r6, r7, r8⟩ : _ ∧ _ ∧ _ ∧ _ ∧ _ ∧ _ ∧ _ ∧ _ ∧ _ := ⟨hr13.cellAt (i := 0) rfl, hr13.cellAt (i := 1) rfl, hr13.cellAt (i := 2) rfl, hr13.cellAt (i := 3) rfl, hr13.cellAt (i := 4) rfl, hr13.cellAt (i := 5) rfl, hr13.cellAt (i := 6) rfl, hr13.cellAt (i := 7) rfl, hr13.cellAt (i := 8) rfl⟩
        have hfin := hid (hb12.trans hb13)
        have hrdf := hid (HO12.out.grown_ne (Nat.le_refl _) hg13 (fun ad h => by have := HN2.out ad h; omega))
        refine bodyPost_ret (v := .tuple #[.agg #[.int .i64 q2.kind, .int .i64 q2.ses, .int .i64 q2.part, .int .i64 q2.no, .int .i64 q2.size, .int .i64 q2.what, .int .i64 q2.code, .int .i64 q2.hav, .slice A2 q2.data.length d2], .int .i64 0]) (by simp [results, Try.results57, go_sem, r0, r1, r2, r3, r4, r5, r6, r7, r8, zV]) rfl ?_
        unfold BodyPost
        rw [HG7.out]
        exact ⟨A2, d2, rfl, hrdf.out, hrl2, hfin.out, fun ad h => by have := HN2.out ad h; omega⟩
      · have HG7 := hid (HG6.out.trans (if_pos he))
        have g0 : (rEnd s2 != 0) = true := by simpa using he
        refine HE.out.mono ?_
        rintro e w12 ⟨rfl, hrd12, hg12⟩
        have hr12 := HR.out.grown_ne hg12 (by omega)
        have hb12 := HBB.out.grown hg12 HBB.out.size (fun k hk => by injection hk with hk; omega)
        have HE2 := hid (end2_any gr s2 w12 hrd12)
        have HR12 := hid hr12
        have HB12 := hid hb12
        generalize hEE : rEnd s2 = EE at g0 HG7
        unfold EPost2 at HE2
        rw [hEE] at HE2
        clear he HG6 HE hr12 hb12 hrd12 hg12 HP HR HN HOW HBB hEE
        go_wp2_with fail
        refine HE2.out.mono ?_
        rintro e w13 ⟨rfl, hrd13, hg13⟩
        have hr13 := HR12.out.grown_ne hg13 (by omega)
        have hb13 := HB12.out.grown hg13 HB12.out.size (fun k hk => by injection hk with hk; omega)
        obtain ⟨f0, f1, f2, f3, f4, f5, f6, f7, f8⟩ : _ ∧ _ ∧ _ ∧ _ ∧ _ ∧ _ ∧ _ ∧ _ ∧ _ := ⟨hr13.frozen 0, hr13.frozen 1, hr13.frozen 2, hr13.frozen 3, hr13.frozen 4, hr13.frozen 5, hr13.frozen 6, hr13.frozen 7, hr13.frozen 8⟩
        obtain ⟨c0, c1, c2, c3, c4, c5, c6, c7, c8⟩ : _ ∧ _ ∧ _ ∧ _ ∧ _ ∧ _ ∧ _ ∧ _ ∧ _ := ⟨hr13.cellAt (i := 0) rfl, hr13.cellAt (i := 1) rfl, hr13.cellAt (i := 2) rfl, hr13.cellAt (i := 3) rfl, hr13.cellAt (i := 4) rfl, hr13.cellAt (i := 5) rfl, hr13.cellAt (i := 6) rfl, hr13.cellAt (i := 7) rfl, hr13.cellAt (i := 8) rfl⟩
        have HR13 := hid hr13
        clear hr13 hrd13 hg13 HE2 HR12 g0
        go_wp2_with fail
        obtain ⟨w14, hw14, hb14, hr14⟩ := store9 HR13.out rfl (.int .i64 0) (.int .i64 0) (.int .i64 0) (.int .i64 0) (.int .i64 0) (.int .i64 0) (.int .i64 0) (.int .i64 0) (.slice none 0 0)
        rw [hw14]
        clear hw14 f0 f1 f2 f3 f4 f5 f6 f7 f8 c0 c1 c2 c3 c4 c5 c6 c7 c8
        obtain ⟨r0, r1, r2, r3, r4, r5, r6, r7, r8⟩ : _ ∧ _ ∧ _ ∧ _ ∧ _ ∧ _ ∧ _ ∧ _ ∧ _ := ⟨hr14.cellAt (i := 0) rfl, hr14.cellAt (i := 1) rfl, hr14.cellAt (i := 2) rfl, hr14.cellAt (i := 3) rfl, hr14.cellAt (i := 4) rfl, hr14.cellAt (i := 5) rfl, hr14.cellAt (i := 6) rfl, hr14.cellAt (i := 7) rfl, hr14.cellAt (i := 8) rfl⟩
        have hfin := hid (hb13.trans hb14)
        refine bodyPost_ret (v := .tuple #[zV, .int .i64 EE]) (by simp [results, Try.results57, go_sem, r0, r1, r2, r3, r4, r5, r6, r7, r8, zV]) rfl ?_
        unfold BodyPost
        rw [HG7.out]
        exact ⟨none, 0, rfl, Reads.empty, by show (0 : Nat) ≤ 16; decide, hfin.out, fun ad h => by cases h⟩
    · go_wp2_with fail
      rw [HW9.out]
      generalize w8.heap.size = gp at *
      clear y1 y2 HR8
      obtain ⟨⟨v20, s20⟩, hv20⟩ : ∃ r, rNum s0 2 = r := ⟨_, rfl⟩
      refine (num2_any gr s0 2 w9 hrd9).mono ?_
      rintro e x20 ⟨he, hrdc, hgc⟩
      rw [hv20] at he hrdc
      simp only at he hrdc
      subst he
      have HV20 : Hid (rNum s0 ((widS 0 : Nat) : Int) = (v20, s20)) := hid hv20
      have hpc := hp9.grown_ne hgc (by omega)
      have fz := hpc.frozen 1
      have xz := pdu_f hpc (k := 0) (by omega)
      obtain ⟨hp20, hrd20, hr20, hb20⟩ := fld_step (v := (v20 : Int)) (f := 0) hp9 hr9 hrdc hgc hgr0 hgp1 hb09 (by omega)
      simp only [Nat.reduceAdd] at hp20 hrd20 hr20 hb20 xz
      have c20 : (x20.setCell ⟨gp, 1, none⟩ (.int .i64 (v20 : Int))).cell? ⟨gp, 0, none⟩ = some (.int .i64 4) := (pdu_cells hp20).1
      have HH := hid (And.intro hp20 (And.intro hrd20 (And.intro hr20 hb20)))
      clear hp9 hrd9 hr9 hb09 hpc hrdc hgc hv20 hp20 hrd20 hr20 hb20
      go_wp2_with fail
      obtain ⟨hp20, hrd20, hr20, hb020⟩ := HH.out
      clear HH fz xz
      generalize x20.setCell ⟨gp, 1, none⟩ (.int .i64 (v20 : Int)) = w20 at hp20 hrd20 hr20 hb020 c20 ⊢
      have hgl : getL (fieldsK (4 : Int)) ({ pduZ with kind := 4 } : PduS) s0 = ((setF ({ pduZ with kind := 4 } : PduS) 0 (v20 : Int)), s20) := by
        show getL [0] _ _ = _
        simp only [getL, HV20.out]
      have HG6 : Hid (bodyG body = if rEnd s20 ≠ 0 then (pduZ, rEnd s20) else ((setF ({ pduZ with kind := 4 } : PduS) 0 (v20 : Int)), 0)) := hid (by
        rw [HG2.out, if_neg (by decide)]
        simp only [hgl, Int.reduceEq, reduceIte])
      have hX := hp20
      have hR1 := hrd20
      have hr1 := hr20
      have hb1' := hb020
      have hrl2 : (setF ({ pduZ with kind := 4 } : PduS) 0 (v20 : Int)).data.length ≤ 16 := by show (0 : Nat) ≤ 16; decide
      have hown2 : Reads w20 w20.heap.size 1 none (setF ({ pduZ with kind := 4 } : PduS) 0 (v20 : Int)).data.length ((setF ({ pduZ with kind := 4 } : PduS) 0 (v20 : Int)).data.map bV) := Reads.empty
      clear hgl hp20 hrd20 hr20 hb020 c20
      generalize (setF ({ pduZ with kind := 4 } : PduS) 0 (v20 : Int)) = q2 at hX hown2 hrl2 HG6
      generalize s20 = s2 at hR1 HG6
      obtain ⟨A2, hA2⟩ : ∃ A2 : Option Addr, A2 = none := ⟨_, rfl⟩
      obtain ⟨d2, hd2⟩ : ∃ d2 : Nat, d2 = 0 := ⟨_, rfl⟩
      rw [← hA2, ← hd2] at hX
      rw [← hA2] at hown2
      have hne2 : ∀ ad : Addr, A2 = some ad → gr < ad.block := fun ad h => by rw [hA2] at h; cases h
      clear hA2 hd2
      generalize w20 = w11 at *
      have HE := hid (end2_any gr s2 w11 hR1)
      have HP := hid hX
      have HR := hid hr1
      have HN := hid hne2
      have HN2 := hid hne2
      have HOW := hid hown2
      have HBB := hid hb1'
      clear hX hr1 hne2 hown2 hb1' hR1
      by_cases he : rEnd s2 = 0
      · have HG7 := hid (HG6.out.trans (if_neg (by rw [he]; simp)))
        have g0 : (rEnd s2 != 0) = false := by simp [he]
        refine HE.out.mono ?_
        rintro e w12 ⟨rfl, hrd12, hg12⟩
        have hp12 := HP.out.grown_ne hg12 (by omega)
        have hr12 := HR.out.grown_ne hg12 (by omega)
        have hb12 := HBB.out.grown hg12 HBB.out.size (fun k hk => by injection hk with hk; omega)
        have ho12 := HOW.out.grown_ne (Nat.le_refl _) hg12 (fun ad h => by have := HN.out ad h; omega)
        obtain ⟨f0, f1, f2, f3, f4, f5, f6, f7, f8⟩ : _ ∧ _ ∧ _ ∧ _ ∧ _ ∧ _ ∧ _ ∧ _ ∧ _ := ⟨hr12.frozen 0, hr12.frozen 1, hr12.frozen 2, hr12.frozen 3, hr12.frozen 4, hr12.frozen 5, hr12.frozen 6, hr12.frozen 7, hr12.frozen 8⟩
        obtain ⟨c0, c1, c2, c3, c4, c5, c6, c7, c8⟩ : _ ∧ _ ∧ _ ∧ _ ∧ _ ∧ _ ∧ _ ∧ _ ∧ _ := ⟨hr12.cellAt (i := 0) rfl, hr12.cellAt (i := 1) rfl, hr12.cellAt (i := 2) rfl, hr12.cellAt (i := 3) rfl, hr12.cellAt (i := 4) rfl, hr12.cellAt (i := 5) rfl, hr12.cellAt (i := 6) rfl, hr12.cellAt (i := 7) rfl, hr12.cellAt (i := 8) rfl⟩
        obtain ⟨m0, m1, m2, m3, m4, m5, m6, m7, m8⟩ := pdu_cells hp12
        have HR12 := hid hr12
        have HO12 := hid ho12
        generalize rEnd s2 = EE at g0
        clear he HG6 HE hr12 hp12 ho12 hrd12 hg12 HP HR HN HOW HBB
        go_wp2_with fail
        obtain ⟨w13, hw13, hb13, hg13, hr13⟩ := store9g HR12.out rfl (.int .i64 q2.kind) (.int .i64 q2.ses) (.int .i64 q2.part) (.int .i64 q2.no) (.int .i64 q2.size) (.int .i64 q2.what) (.int .i64 q2.code) (.int .i64 q2.hav) (.slice A2 q2.data.length d2)
        rw [hw13]
        clear hw13 f0 f1 f2 f3 f4 f5 f6 f7 f8 c0 c1 c2 c3 c4 c5 c6 c7 c8 m0 m1 m2 m3 m4 m5 m6 m7 m8 g0
        obtain ⟨r0, r1, r2, r3, r4, r5, r6, r7, r8⟩ : _ ∧ _ ∧ _ ∧ _ ∧ _ ∧ _ ∧ _ ∧ _ ∧ _ := ⟨hr13.cellAt (i := 0) rfl, hr13.cellAt (i := 1) rfl, hr13.cellAt (i := 2) rfl, hr13.cellAt (i := 3) rfl, hr13.cellAt (i := 4) rfl, hr13.cellAt (i := 5) rfl, hr13.cellAt (i := 6) rfl, hr13.cellAt (i := 7) rfl, hr13.cellAt (i := 8) rfl⟩
        have hfin := hid (hb12.trans hb13)
        have hrdf := hid (HO12.out.grown_ne (Nat.le_refl _) hg13 (fun ad h => by have := HN2.out ad h; omega))
        refine bodyPost_ret (v := .tuple #[.agg #[.int .i64 q2.kind, .int .i64 q2.ses, .int .i64 q2.part, .int .i64 q2.no, .int .i64 q2.size, .int .i64 q2.what, .int .i64 q2.code, .int .i64 q2.hav, .slice A2 q2.data.length d2], .int .i64 0]) (by simp [results, Try.results57, go_sem, r0, r1, r2, r3, r4, r5, r6, r7, r8, zV]) rfl ?_
        unfold BodyPost
        rw [HG7.out]
        exact ⟨A2, d2, rfl, hrdf.out, hrl2, hfin.out, fun ad h => by have := HN2.out ad h; omega⟩
      · have HG7 := hid (HG6.out.trans (if_pos he))
        have g0 : (rEnd s2 != 0) = true := by simpa using he
        refine HE.out.mono ?_
        rintro e w12 ⟨rfl, hrd12, hg12⟩
        have hr12 := HR.out.grown_ne hg12 (by omega)
        have hb12 := HBB.out.grown hg12 HBB.out.size (fun k hk => by injection hk with hk; omega)
        have HE2 := hid (end2_any gr s2 w12 hrd12)
        have HR12 := hid hr12
        have HB12 := hid hb12
        generalize hEE : rEnd s2 = EE at g0 HG7
        unfold EPost2 at HE2
        rw [hEE] at HE2
        clear he HG6 HE hr12 hb12 hrd12 hg12 HP HR HN HOW HBB hEE
        go_wp2_with fail
        refine HE2.out.mono ?_
        rintro e w13 ⟨rfl, hrd13, hg13⟩
        have hr13 := HR12.out.grown_ne hg13 (by omega)
        have hb13 := HB12.out.grown hg13 HB12.out.size (fun k hk => by injection hk with hk; omega)
        obtain ⟨f0, f1, f2, f3, f4, f5, f6, f7, f8⟩ : _ ∧ _ ∧ _ ∧ _ ∧ _ ∧ _ ∧ _ ∧ _ ∧ _ := ⟨hr13.frozen 0, hr13.frozen 1, hr13.frozen 2, hr13.frozen 3, hr13.frozen 4, hr13.frozen 5, hr13.frozen 6, hr13.frozen 7, hr13.frozen 8⟩
        obtain ⟨c0, c1, c2, c3, c4, c5, c6, c7, c8⟩ : _ ∧ _ ∧ _ ∧ _ ∧ _ ∧ _ ∧ _ ∧ _ ∧ _ := ⟨hr13.cellAt (i := 0) rfl, hr13.cellAt (i := 1) rfl, hr13.cellAt (i := 2) rfl, hr13.cellAt (i := 3) rfl, hr13.cellAt (i := 4) rfl, hr13.cellAt (i := 5) rfl, hr13.cellAt (i := 6) rfl, hr13.cellAt (i := 7) rfl, hr13.cellAt (i := 8) rfl⟩
        have HR13 := hid hr13
        clear hr13 hrd13 hg13 HE2 HR12 g0
        go_wp2_with fail
        obtain ⟨w14, hw14, hb14, hr14⟩ := store9 HR13.out rfl (.int .i64 0) (.int .i64 0) (.int .i64 0) (.int .i64 0) (.int .i64 0) (.int .i64 0) (.int .i64 0) (.int .i64 0) (.slice none 0 0)
        rw [hw14]
        clear hw14 f0 f1 f2 f3 f4 f5 f6 f7 f8 c0 c1 c2 c3 c4 c5 c6 c7 c8
        obtain ⟨r0, r1, r2, r3, r4, r5, r6, r7, r8⟩ : _ ∧ _ ∧ _ ∧ _ ∧ _ ∧ _ ∧ _ ∧ _ ∧ _ := ⟨hr14.cellAt (i := 0) rfl, hr14.cellAt (i := 1) rfl, hr14.cellAt (i := 2) rfl, hr14.cellAt (i := 3) rfl, hr14.cellAt (i := 4) rfl, hr14.cellAt (i := 5) rfl, hr14.cellAt (i := 6) rfl, hr14.cellAt (i := 7) rfl, hr14.cellAt (i := 8) rfl⟩
        have hfin := hid (hb13.trans hb14)
        refine bodyPost_ret (v := .tuple #[zV, .int .i64 EE]) (by simp [results, Try.results57, go_sem, r0, r1, r2, r3, r4, r5, r6, r7, r8, zV]) rfl ?_
        unfold BodyPost
        rw [HG7.out]
        exact ⟨none, 0, rfl, Reads.empty, by show (0 : Nat) ≤ 16; decide, hfin.out, fun ad h => by cases h⟩
    · go_wp2_with fail
      rw [HW9.out]
      generalize w8.heap.size = gp at *
      clear y1 y2 HR8
      obtain ⟨⟨v20, s20⟩, hv20⟩ : ∃ r, rNum s0 2 = r := ⟨_, rfl⟩
      refine (num2_any gr s0 2 w9 hrd9).mono ?_
      rintro e x20 ⟨he, hrdc, hgc⟩
      rw [hv20] at he hrdc
      simp only at he hrdc
      subst he
      have HV20 : Hid (rNum s0 ((widS 0 : Nat) : Int) = (v20, s20)) := hid hv20
      have hpc := hp9.grown_ne hgc (by omega)
      have fz := hpc.frozen 1
      have xz := pdu_f hpc (k := 0) (by omega)
      obtain ⟨hp20, hrd20, hr20, hb20⟩ := fld_step (v := (v20 : Int)) (f := 0) hp9 hr9 hrdc hgc hgr0 hgp1 hb09 (by omega)
      simp only [Nat.reduceAdd] at hp20 hrd20 hr20 hb20 xz
      have c20 : (x20.setCell ⟨gp, 1, none⟩ (.int .i64 (v20 : Int))).cell? ⟨gp, 0, none⟩ = some (.int .i64 5) := (pdu_cells hp20).1
      have HH := hid (And.intro hp20 (And.intro hrd20 (And.intro hr20 hb20)))
      clear hp9 hrd9 hr9 hb09 hpc hrdc hgc hv20 hp20 hrd20 hr20 hb20
      go_wp2_with fail
      obtain ⟨hp20, hrd20, hr20, hb020⟩ := HH.out
      clear HH fz xz
      generalize x20.setCell ⟨gp, 1, none⟩ (.int .i64 (v20 : Int)) = w20 at hp20 hrd20 hr20 hb020 c20 ⊢
      have hgl : getL (fieldsK (5 : Int)) ({ pduZ with kind := 5 } : PduS) s0 = ((setF ({ pduZ with kind := 5 } : PduS) 0 (v20 : Int)), s20) := by
        show getL [0] _ _ = _
        simp only [getL, HV20.out]
      have HG6 : Hid (bodyG body = if rEnd s20 ≠ 0 then (pduZ, rEnd s20) else ((setF ({ pduZ with kind := 5 } : PduS) 0 (v20 : Int)), 0)) := hid (by
        rw [HG2.out, if_neg (by decide)]
        simp only [hgl, Int.reduceEq, reduceIte])
      have hX := hp20
      have hR1 := hrd20
      have hr1 := hr20
      have hb1' := hb020
      have hrl2 : (setF ({ pduZ with kind := 5 } : PduS) 0 (v20 : Int)).data.length ≤ 16 := by show (0 : Nat) ≤ 16; decide
      have hown2 : Reads w20 w20.heap.size 1 none (setF ({ pduZ with kind := 5 } : PduS) 0 (v20 : Int)).data.length ((setF ({ pduZ with kind := 5 } : PduS) 0 (v20 : Int)).data.map bV) := Reads.empty
      clear hgl hp20 hrd20 hr20 hb020 c20
      generalize (setF ({ pduZ with kind := 5 } : PduS) 0 (v20 : Int)) = q2 at hX hown2 hrl2 HG6
      generalize s20 = s2 at hR1 HG6
      obtain ⟨A2, hA2⟩ : ∃ A2 : Option Addr, A2 = none := ⟨_, rfl⟩
      obtain ⟨d2, hd2⟩ : ∃ d2 : Nat, d2 = 0 := ⟨_, rfl⟩
      rw [← hA2, ← hd2] at hX
      rw [← hA2] at hown2
      have hne2 : ∀ ad : Addr, A2 = some ad → gr < ad.block := fun ad h => by rw [hA2] at h; cases h
      clear hA2 hd2
      generalize w20 = w11 at *
      have HE := hid (end2_any gr s2 w11 hR1)
      have HP := hid hX
      have HR := hid hr1
      have HN := hid hne2
      have HN2 := hid hne2
      have HOW := hid hown2
      have HBB := hid hb1'
      clear hX hr1 hne2 hown2 hb1' hR1
      by_cases he : rEnd s2 = 0
      · have HG7 := hid (HG6.out.trans (if_neg (by rw [he]; simp)))
        have g0 : (rEnd s2 != 0) = false := by simp [he]
        refine HE.out.mono ?_
        rintro e w12 ⟨rfl, hrd12, hg12⟩
        have hp12 := HP.out.grown_ne hg12 (by omega)
        have hr12 := HR.out.grown_ne hg12 (by omega)
        have hb12 := HBB.out.grown hg12 HBB.out.size (fun k hk => by injection hk with hk; omega)
        have ho12 := HOW.out.grown_ne (Nat.le_refl _) hg12 (fun ad h => by have := HN.out ad h; omega)
        obtain ⟨f0, f1, f2, f3, f4, f5, f6, f7, f8⟩ : _ ∧ _ ∧ _ ∧ _ ∧ _ ∧ _ ∧ _ ∧ _ ∧ _ := ⟨hr12.frozen 0, hr12.frozen 1, hr12.frozen 2, hr12.frozen 3, hr12.frozen 4, hr12.frozen 5, hr12.frozen 6, hr12.frozen 7, hr12.frozen 8⟩
        obtain ⟨c0, c1, c2, c3, c4, c5, c6, c7, c8⟩ : _ ∧ _ ∧ _ ∧ _ ∧ _ ∧ _ ∧ _ ∧ _ ∧ _ := ⟨hr12.cellAt (i := 0) rfl, hr12.cellAt (i := 1) rfl, hr12.cellAt (i := 2) rfl, hr12.cellAt (i := 3) rfl, hr12.cellAt (i := 4) rfl, hr12.cellAt (i := 5) rfl, hr12.cellAt (i := 6) rfl, hr12.cellAt (i := 7) rfl, hr12.cellAt (i := 8) rfl⟩
        obtain ⟨m0, m1, m2, m3, m4, m5, m6, m7, m8⟩ := pdu_cells hp12
        have HR12 := hid hr12
        have HO12 := hid ho12
        generalize rEnd s2 = EE at g0
        clear he HG6 HE hr12 hp12 ho12 hrd12 hg12 HP HR HN HOW HBB
        go_wp2_with fail
        obtain ⟨w13, hw13, hb13, hg13, hr13⟩ := store9g HR12.out rfl (.int .i64 q2.kind) (.int .i64 q2.ses) (.int .i64 q2.part) (.int .i64 q2.no) (.int .i64 q2.size) (.int .i64 q2.what) (.int .i64 q2.code) (.int .i64 q2.hav) (.slice A2 q2.data.length d2)
        rw [hw13]
        clear hw13 f0 f1 f2 f3 f4 f5 f6 f7 f8 c0 c1 c2 c3 c4 c5 c6 c7 c8 m0 m1 m2 m3 m4 m5 m6 m7 m8 g0
        obtain ⟨r0, r1, r2, r3, r4, r5, r6, r7, r8⟩ : _ ∧ _ ∧ _ ∧ _ ∧ _ ∧ _ ∧ _ ∧ _ ∧ _ := ⟨hr13.cellAt (i := 0) rfl, hr13.cellAt (i := 1) rfl, hr13.cellAt (i := 2) rfl, hr13.cellAt (i := 3) rfl, hr13.cellAt (i := 4) rfl, hr13.cellAt (i := 5) rfl, hr13.cellAt (i := 6) rfl, hr13.cellAt (i := 7) rfl, hr13.cellAt (i := 8) rfl⟩
        have hfin := hid (hb12.trans hb13)
        have hrdf := hid (HO12.out.grown_ne (Nat.le_refl _) hg13 (fun ad h => by have := HN2.out ad h; omega))
        refine bodyPost_ret (v := .tuple #[.agg #[.int .i64 q2.kind, .int .i64 q2.ses, .int .i64 q2.part, .int .i64 q2.no, .int .i64 q2.size, .int .i64 q2.what, .int .i64 q2.code, .int .i64 q2.hav, .slice A2 q2.data.length d2], .int .i64 0]) (by simp [results, Try.results57, go_sem, r0, r1, r2, r3, r4, r5, r6, r7, r8, zV]) rfl ?_
        unfold BodyPost
        rw [HG7.out]
        exact ⟨A2, d2, rfl, hrdf.out, hrl2, hfin.out, fun ad h => by have := HN2.out ad h; omega⟩
      · have HG7 := hid (HG6.out.trans (if_pos he))
        have g0 : (rEnd s2 != 0) = true := by simpa using he
        refine HE.out.mono ?_
        rintro e w12 ⟨rfl, hrd12, hg12⟩
        have hr12 := HR.out.grown_ne hg12 (by omega)
        have hb12 := HBB.out.grown hg12 HBB.out.size (fun k hk => by injection hk with hk; omega)
        have HE2 := hid (end2_any gr s2 w12 hrd12)
        have HR12 := hid hr12
        have HB12 := hid hb12
        generalize hEE : rEnd s2 = EE at g0 HG7
        unfold EPost2 at HE2
        rw [hEE] at HE2
        clear he HG6 HE hr12 hb12 hrd12 hg12 HP HR HN HOW HBB hEE
        go_wp2_with fail
        refine HE2.out.mono ?_
        rintro e w13 ⟨rfl, hrd13, hg13⟩
        have hr13 := HR12.out.grown_ne hg13 (by omega)
        have hb13 := HB12.out.grown hg13 HB12.out.size (fun k hk => by injection hk with hk; omega)
        obtain ⟨f0, f1, f2, f3, f4, f5, f6, f7, f8⟩ : _ ∧ _ ∧ _ ∧ _ ∧ _ ∧ _ ∧ _ ∧ _ ∧ _ := ⟨hr13.frozen 0, hr13.frozen 1, hr13.frozen 2, hr13.frozen 3, hr13.frozen 4, hr13.frozen 5, hr13.frozen 6, hr13.frozen 7, hr13.frozen 8⟩
        obtain ⟨c0, c1, c2, c3, c4, c5, c6, c7, c8⟩ : _ ∧ _ ∧ _ ∧ _ ∧ _ ∧ _ ∧ _ ∧ _ ∧ _ := ⟨hr13.cellAt (i := 0) rfl, hr13.cellAt (i := 1) rfl, hr13.cellAt (i := 2) rfl, hr13.cellAt (i := 3) rfl, hr13.cellAt (i := 4) rfl, hr13.cellAt (i := 5) rfl, hr13.cellAt (i := 6) rfl, hr13.cellAt (i := 7) rfl, hr13.cellAt (i := 8) rfl⟩
        have HR13 := hid hr13
        clear hr13 hrd13 hg13 HE2 HR12 g0
        go_wp2_with fail
        obtain ⟨w14, hw14, hb14, hr14⟩ := store9 HR13.out rfl (.int .i64 0) (.int .i64 0) (.int .i64 0) (.int .i64 0) (.int .i64 0) (.int .i64 0) (.int .i64 0) (.int .i64 0) (.slice none 0 0)
        rw [hw14]
        clear hw14 f0 f1 f2 f3 f4 f5 f6 f7 f8 c0 c1 c2 c3 c4 c5 c6 c7 c8
        obtain ⟨r0, r1, r2, r3, r4, r5, r6, r7, r8⟩ : _ ∧ _ ∧ _ ∧ _ ∧ _ ∧ _ ∧ _ ∧ _ ∧ _ := ⟨hr14.cellAt (i := 0) rfl, hr14.cellAt (i := 1) rfl, hr14.cellAt (i := 2) rfl, hr14.cellAt (i := 3) rfl, hr14.cellAt (i := 4) rfl, hr14.cellAt (i := 5) rfl, hr14.cellAt (i := 6) rfl, hr14.cellAt (i := 7) rfl, hr14.cellAt (i := 8) rfl⟩
        have hfin := hid (hb13.trans hb14)
        refine bodyPost_ret (v := .tuple #[zV, .int .i64 EE]) (by simp [results, Try.results57, go_sem, r0, r1, r2, r3, r4, r5, r6, r7, r8, zV]) rfl ?_
        unfold BodyPost
        rw [HG7.out]
        exact ⟨none, 0, rfl, Reads.empty, by show (0 : Nat) ≤ 16; decide, hfin.out, fun ad h => by cases h⟩
    · go_wp2_with fail
      rw [HW9.out]
      generalize w8.heap.size = gp at *
      clear y1 y2 HR8
      obtain ⟨⟨v20, s20⟩, hv20⟩ : ∃ r, rNum s0 2 = r := ⟨_, rfl⟩
      refine (num2_any gr s0 2 w9 hrd9).mono ?_
      rintro e x20 ⟨he, hrdc, hgc⟩
      rw [hv20] at he hrdc
      simp only at he hrdc
      subst he
      have HV20 : Hid (rNum s0 ((widS 0 : Nat) : Int) = (v20, s20)) := hid hv20
      have hpc := hp9.grown_ne hgc (by omega)
      have fz := hpc.frozen 1
      have xz := pdu_f hpc (k := 0) (by omega)
      obtain ⟨hp20, hrd20, hr20, hb20⟩ := fld_step (v := (v20 : Int)) (f := 0) hp9 hr9 hrdc hgc hgr0 hgp1 hb09 (by omega)
      simp only [Nat.reduceAdd] at hp20 hrd20 hr20 hb20 xz
      have c20 : (x20.setCell ⟨gp, 1, none⟩ (.int .i64 (v20 : Int))).cell? ⟨gp, 0, none⟩ = some (.int .i64 6) := (pdu_cells hp20).1
      have HH := hid (And.intro hp20 (And.intro hrd20 (And.intro hr20 hb20)))
      clear hp9 hrd9 hr9 hb09 hpc hrdc hgc hv20 hp20 hrd20 hr20 hb20
      go_wp2_with fail
      obtain ⟨hp20, hrd20, hr20, hb020⟩ := HH.out
      clear HH fz xz
      generalize x20.setCell ⟨gp, 1, none⟩ (.int .i64 (v20 : Int)) = w20 at hp20 hrd20 hr20 hb020 c20 ⊢
      obtain ⟨⟨v21, s21⟩, hv21⟩ : ∃ r, rNum s20 1 = r := ⟨_, rfl⟩
      refine (num2_any gr s20 1 w20 hrd20).mono ?_
      rintro e x21 ⟨he, hrdc, hgc⟩
      rw [hv21] at he hrdc
      simp only at he hrdc
      subst he
      have HV21 : Hid (rNum s20 ((widS 4 : Nat) : Int) = (v21, s21)) := hid hv21
      have hpc := hp20.grown_ne hgc (by omega)
      have fz := hpc.frozen 5
      have xz := pdu_f hpc (k := 4) (by omega)
      obtain ⟨hp21, hrd21, hr21, hb21⟩ := fld_step (v := (v21 : Int)) (f := 4) hp20 hr20 hrdc hgc hgr0 hgp1 hb020 (by omega)
      simp only [Nat.reduceAdd] at hp21 hrd21 hr21 hb21 xz
      have c21 : (x21.setCell ⟨gp, 5, none⟩ (.int .i64 (v21 : Int))).cell? ⟨gp, 0, none⟩ = some (.int .i64 6) := (pdu_cells hp21).1
      have HH := hid (And.intro hp21 (And.intro hrd21 (And.intro hr21 hb21)))
      clear hp20 hrd20 hr20 hb020 hpc hrdc hgc hv21 hp21 hrd21 hr21 hb21
      go_wp2_with fail
      obtain ⟨hp21, hrd21, hr21, hb021⟩ := HH.out
      clear HH fz xz
      generalize x21.setCell ⟨gp, 5, none⟩ (.int .i64 (v21 : Int)) = w21 at hp21 hrd21 hr21 hb021 c21 ⊢
      obtain ⟨⟨v22, s22⟩, hv22⟩ : ∃ r, rNum s21 1 = r := ⟨_, rfl⟩
      refine (num2_any gr s21 1 w21 hrd21).mono ?_
      rintro e x22 ⟨he, hrdc, hgc⟩
      rw [hv22] at he hrdc
      simp only at he hrdc
      subst he
      have HV22 : Hid (rNum s21 ((widS 2 : Nat) : Int) = (v22, s22)) := hid hv22
      have hpc := hp21.grown_ne hgc (by omega)
      have fz := hpc.frozen 3
      have xz := pdu_f hpc (k := 2) (by omega)
      obtain ⟨hp22, hrd22, hr22, hb22⟩ := fld_step (v := (v22 : Int)) (f := 2) hp21 hr21 hrdc hgc hgr0 hgp1 hb021 (by omega)
      simp only [Nat.reduceAdd] at hp22 hrd22 hr22 hb22 xz
      have c22 : (x22.setCell ⟨gp, 3, none⟩ (.int .i64 (v22 : Int))).cell? ⟨gp, 0, none⟩ = some (.int .i64 6) := (pdu_cells hp22).1
      have HH := hid (And.intro hp22 (And.intro hrd22 (And.intro hr22 hb22)))
      clear hp21 hrd21 hr21 hb021 hpc hrdc hgc hv22 hp22 hrd22 hr22 hb22
      go_wp2_with fail
      obtain ⟨hp22, hrd22, hr22, hb022⟩ := HH.out
      clear HH fz xz
      generalize x22.setCell ⟨gp, 3, none⟩ (.int .i64 (v22 : Int)) = w22 at hp22 hrd22 hr22 hb022 c22 ⊢
      have hgl : getL (fieldsK (6 : Int)) ({ pduZ with kind := 6 } : PduS) s0 = ((setF (setF (setF ({ pduZ with kind := 6 } : PduS) 0 (v20 : Int)) 4 (v21 : Int)) 2 (v22 : Int)), s22) := by
        show getL [0, 4, 2] _ _ = _
        simp only [getL, HV20.out, HV21.out, HV22.out]
      have HG6 : Hid (bodyG body = if rEnd s22 ≠ 0 then (pduZ, rEnd s22) else ((setF (setF (setF ({ pduZ with kind := 6 } : PduS) 0 (v20 : Int)) 4 (v21 : Int)) 2 (v22 : Int)), 0)) := hid (by
        rw [HG2.out, if_neg (by decide)]
        simp only [hgl, Int.reduceEq, reduceIte])
      have hX := hp22
      have hR1 := hrd22
      have hr1 := hr22
      have hb1' := hb022
      have hrl2 : (setF (setF (setF ({ pduZ with kind := 6 } : PduS) 0 (v20 : Int)) 4 (v21 : Int)) 2 (v22 : Int)).data.length ≤ 16 := by show (0 : Nat) ≤ 16; decide
      have hown2 : Reads w22 w22.heap.size 1 none (setF (setF (setF ({ pduZ with kind := 6 } : PduS) 0 (v20 : Int)) 4 (v21 : Int)) 2 (v22 : Int)).data.length ((setF (setF (setF ({ pduZ with kind := 6 } : PduS) 0 (v20 : Int)) 4 (v21 : Int)) 2 (v22 : Int)).data.map bV) := Reads.empty
      clear hgl hp22 hrd22 hr22 hb022 c22
      generalize (setF (setF (setF ({ pduZ with kind := 6 } : PduS) 0 (v20 : Int)) 4 (v21 : Int)) 2 (v22 : Int)) = q2 at hX hown2 hrl2 HG6
      generalize s22 = s2 at hR1 HG6
      obtain ⟨A2, hA2⟩ : ∃ A2 : Option Addr, A2 = none := ⟨_, rfl⟩
      obtain ⟨d2, hd2⟩ : ∃ d2 : Nat, d2 = 0 := ⟨_, rfl⟩
      rw [← hA2, ← hd2] at hX
      rw [← hA2] at hown2
      have hne2 : ∀ ad : Addr, A2 = some ad → gr < ad.block := fun ad h => by rw [hA2] at h; cases h
      clear hA2 hd2
      generalize w22 = w11 at *
      have HE := hid (end2_any gr s2 w11 hR1)
      have HP := hid hX
      have HR := hid hr1
      have HN := hid hne2
      have HN2 := hid hne2
      have HOW := hid hown2
      have HBB := hid hb1'
      clear hX hr1 hne2 hown2 hb1' hR1
      by_cases he : rEnd s2 = 0
      · have HG7 := hid (HG6.out.trans (if_neg (by rw [he]; simp)))
        have g0 : (rEnd s2 != 0) = false := by simp [he]
        refine HE.out.mono ?_
        rintro e w12 ⟨rfl, hrd12, hg12⟩
        have hp12 := HP.out.grown_ne hg12 (by omega)
        have hr12 := HR.out.grown_ne hg12 (by omega)
        have hb12 := HBB.out.grown hg12 HBB.out.size (fun k hk => by injection hk with hk; omega)
        have ho12 := HOW.out.grown_ne (Nat.le_refl _) hg12 (fun ad h => by have := HN.out ad h; omega)
        obtain ⟨f0, f1, f2, f3, f4, f5, f6, f7, f8⟩ : _ ∧ _ ∧ _ ∧ _ ∧ _ ∧ _ ∧ _ ∧ _ ∧ _ := ⟨hr12.frozen 0, hr12.frozen 1, hr12.frozen 2, hr12.frozen 3, hr12.frozen 4, hr12.frozen 5, hr12.frozen 6, hr12.frozen 7, hr12.frozen 8⟩
        obtain ⟨c0, c1, c2, c3, c4, c5, c6, c7, c8⟩ : _ ∧ _ ∧ _ ∧ _ ∧ _ ∧ _ ∧ _ ∧ _ ∧ _ := ⟨hr12.cellAt (i := 0) rfl, hr12.cellAt (i := 1) rfl, hr12.cellAt (i := 2) rfl, hr12.cellAt (i := 3) rfl, hr12.cellAt (i := 4) rfl, hr12.cellAt (i := 5) rfl, hr12.cellAt (i := 6) rfl, hr12.cellAt (i := 7) rfl, hr12.cellAt (i := 8) rfl⟩
        obtain ⟨m0, m1, m2, m3, m4, m5, m6, m7, m8⟩ := pdu_cells hp12
        have HR12 := hid hr12
        have HO12 := hid ho12
        generalize rEnd s2 = EE at g0
        clear he HG6 HE hr12 hp12 ho12 hrd12 hg12 HP HR HN HOW HBB
        go_wp2_with fail
        obtain ⟨w13, hw13, hb13, hg13, hr13⟩ := store9g HR12.out rfl (.int .i64 q2.kind) (.int .i64 q2.ses) (.int .i64 q2.part) (.int .i64 q2.no) (.int .i64 q2.size) (.int .i64 q2.what) (.int .i64 q2.code) (.int .i64 q2.hav) (.slice A2 q2.data.length d2)
        rw [hw13]
        clear hw13 f0 f1 f2 f3 f4 f5 f6 f7 f8 c0 c1 c2 c3 c4 c5 c6 c7 c8 m0 m1 m2 m3 m4 m5 m6 m7 m8 g0
        obtain ⟨r0, r1, r2, r3, r4, r5, r6, r7, r8⟩ : _ ∧ _ ∧ _ ∧ _ ∧ _ ∧ _ ∧ _ ∧ _ ∧ _ := ⟨hr13.cellAt (i := 0) rfl, hr13.cellAt (i := 1) rfl, hr13.cellAt (i := 2) rfl, hr13.cellAt (i := 3) rfl, hr13.cellAt (i := 4) rfl, hr13.cellAt (i := 5) rfl, hr13.cellAt (i := 6) rfl, hr13.cellAt (i := 7) rfl, hr13.cellAt (i := 8) rfl⟩
        have hfin := hid (hb12.trans hb13)
        have hrdf := hid (HO12.out.grown_ne (Nat.le_refl _) hg13 (fun ad h => by have := HN2.out ad h; omega))
        refine bodyPost_ret (v := .tuple #[.agg #[.int .i64 q2.kind, .int .i64 q2.ses, .int .i64 q2.part, .int .i64 q2.no, .int .i64 q2.size, .int .i64 q2.what, .int .i64 q2.code, .int .i64 q2.hav, .slice A2 q2.data.length d2], .int .i64 0]) (by simp [results, Try.results57, go_sem, r0, r1, r2, r3, r4, r5, r6, r7, r8, zV]) rfl ?_
        unfold BodyPost
        rw [HG7.out]
        exact ⟨A2, d2, rfl, hrdf.out, hrl2, hfin.out, fun ad h => by have := HN2.out ad h; omega⟩
      · have HG7 := hid (HG6.out.trans (if_pos he))
        have g0 : (rEnd s2 != 0) = true := by simpa using he
        refine HE.out.mono ?_
        rintro e w12 ⟨rfl, hrd12, hg12⟩
        have hr12 := HR.out.grown_ne hg12 (by omega)
        have hb12 := HBB.out.grown hg12 HBB.out.size (fun k hk => by injection hk with hk; omega)
        have HE2 := hid (end2_any gr s2 w12 hrd12)
        have HR12 := hid hr12
        have HB12 := hid hb12
        generalize hEE : rEnd s2 = EE at g0 HG7
        unfold EPost2 at HE2
        rw [hEE] at HE2
        clear he HG6 HE hr12 hb12 hrd12 hg12 HP HR HN HOW HBB hEE
        go_wp2_with fail
        refine HE2.out.mono ?_
        rintro e w13 ⟨rfl, hrd13, hg13⟩
        have hr13 := HR12.out.grown_ne hg13 (by omega)
        have hb13 := HB12.out.grown hg13 HB12.out.size (fun k hk => by injection hk with hk; omega)
        obtain ⟨f0, f1, f2, f3, f4, f5, f6, f7, f8⟩ : _ ∧ _ ∧ _ ∧ _ ∧ _ ∧ _ ∧ _ ∧ _ ∧ _ := ⟨hr13.frozen 0, hr13.frozen 1, hr13.frozen 2, hr13.frozen 3, hr13.frozen 4, hr13.frozen 5, hr13.frozen 6, hr13.frozen 7, hr13.frozen 8⟩
        obtain ⟨c0, c1, c2, c3, c4, c5, c6, c7, c8⟩ : _ ∧ _ ∧ _ ∧ _ ∧ _ ∧ _ ∧ _ ∧ _ ∧ _ := ⟨hr13.cellAt (i := 0) rfl, hr13.cellAt (i := 1) rfl, hr13.cellAt (i := 2) rfl, hr13.cellAt (i := 3) rfl, hr13.cellAt (i := 4) rfl, hr13.cellAt (i := 5) rfl, hr13.cellAt (i := 6) rfl, hr13.cellAt (i := 7) rfl, hr13.cellAt (i := 8) rfl⟩
        have HR13 := hid hr13
        clear hr13 hrd13 hg13 HE2 HR12 g0
        go_wp2_with fail
        obtain ⟨w14, hw14, hb14, hr14⟩ := store9 HR13.out rfl (.int .i64 0) (.int .i64 0) (.int .i64 0) (.int .i64 0) (.int .i64 0) (.int .i64 0) (.int .i64 0) (.int .i64 0) (.slice none 0 0)
        rw [hw14]
        clear hw14 f0 f1 f2 f3 f4 f5 f6 f7 f8 c0 c1 c2 c3 c4 c5 c6 c7 c8
        obtain ⟨r0, r1, r2, r3, r4, r5, r6, r7, r8⟩ : _ ∧ _ ∧ _ ∧ _ ∧ _ ∧ _ ∧ _ ∧ _ ∧ _ := ⟨hr14.cellAt (i := 0) rfl, hr14.cellAt (i := 1) rfl, hr14.cellAt (i := 2) rfl, hr14.cellAt (i := 3) rfl, hr14.cellAt (i := 4) rfl, hr14.cellAt (i := 5) rfl, hr14.cellAt (i := 6) rfl, hr14.cellAt (i := 7) rfl, hr14.cellAt (i := 8) rfl⟩
        have hfin := hid (hb13.trans hb14)
        refine bodyPost_ret (v := .tuple #[zV, .int .i64 EE]) (by simp [results, Try.results57, go_sem, r0, r1, r2, r3, r4, r5, r6, r7, r8, zV]) rfl ?_
        unfold BodyPost
        rw [HG7.out]
        exact ⟨none, 0, rfl, Reads.empty, by show (0 : Nat) ≤ 16; decide, hfin.out, fun ad h => by cases h⟩
    · go_wp2_with fail
      rw [HW9.out]
      generalize w8.heap.size = gp at *
      clear y1 y2 HR8
      obtain ⟨⟨v20, s20⟩, hv20⟩ : ∃ r, rNum s0 2 = r := ⟨_, rfl⟩
      refine (num2_any gr s0 2 w9 hrd9).mono ?_
      rintro e x20 ⟨he, hrdc, hgc⟩
      rw [hv20] at he hrdc
      simp only at he hrdc
      subst he
      have HV20 : Hid (rNum s0 ((widS 0 : Nat) : Int) = (v20, s20)) := hid hv20
      have hpc := hp9.grown_ne hgc (by omega)
      have fz := hpc.frozen 1
      have xz := pdu_f hpc (k := 0) (by omega)
      obtain ⟨hp20, hrd20, hr20, hb20⟩ := fld_step (v := (v20 : Int)) (f := 0) hp9 hr9 hrdc hgc hgr0 hgp1 hb09 (by omega)
      simp only [Nat.reduceAdd] at hp20 hrd20 hr20 hb20 xz
      have c20 : (x20.setCell ⟨gp, 1, none⟩ (.int .i64 (v20 : Int))).cell? ⟨gp, 0, none⟩ = some (.int .i64 7) := (pdu_cells hp20).1
      have HH := hid (And.intro hp20 (And.intro hrd20 (And.intro hr20 hb20)))
      clear hp9 hrd9 hr9 hb09 hpc hrdc hgc hv20 hp20 hrd20 hr20 hb20
      go_wp2_with fail
      obtain ⟨hp20, hrd20, hr20, hb020⟩ := HH.out
      clear HH fz xz
      generalize x20.setCell ⟨gp, 1, none⟩ (.int .i64 (v20 : Int)) = w20 at hp20 hrd20 hr20 hb020 c20 ⊢
      obtain ⟨⟨v21, s21⟩, hv21⟩ : ∃ r, rNum s20 1 = r := ⟨_, rfl⟩
      refine (num2_any gr s20 1 w20 hrd20).mono ?_
      rintro e x21 ⟨he, hrdc, hgc⟩
      rw [hv21] at he hrdc
      simp only at he hrdc
      subst he
      have HV21 : Hid (rNum s20 ((widS 4 : Nat) : Int) = (v21, s21)) := hid hv21
      have hpc := hp20.grown_ne hgc (by omega)
      have fz := hpc.frozen 5
      have xz := pdu_f hpc (k := 4) (by omega)
      obtain ⟨hp21, hrd21, hr21, hb21⟩ := fld_step (v := (v21 : Int)) (f := 4) hp20 hr20 hrdc hgc hgr0 hgp1 hb020 (by omega)
      simp only [Nat.reduceAdd] at hp21 hrd21 hr21 hb21 xz
      have c21 : (x21.setCell ⟨gp, 5, none⟩ (.int .i64 (v21 : Int))).cell? ⟨gp, 0, none⟩ = some (.int .i64 7) := (pdu_cells hp21).1
      have HH := hid (And.intro hp21 (And.intro hrd21 (And.intro hr21 hb21)))
      clear hp20 hrd20 hr20 hb020 hpc hrdc hgc hv21 hp21 hrd21 hr21 hb21
      go_wp2_with fail
      obtain ⟨hp21, hrd21, hr21, hb021⟩ := HH.out
      clear HH fz xz
      generalize x21.setCell ⟨gp, 5, none⟩ (.int .i64 (v21 : Int)) = w21 at hp21 hrd21 hr21 hb021 c21 ⊢
      obtain ⟨⟨v22, s22⟩, hv22⟩ : ∃ r, rNum s21 1 = r := ⟨_, rfl⟩
      refine (num2_any gr s21 1 w21 hrd21).mono ?_
      rintro e x22 ⟨he, hrdc, hgc⟩
      rw [hv22] at he hrdc
      simp only at he hrdc
      subst he
      have HV22 : Hid (rNum s21 ((widS 2 : Nat) : Int) = (v22, s22)) := hid hv22
      have hpc := hp21.grown_ne hgc (by omega)
      have fz := hpc.frozen 3
      have xz := pdu_f hpc (k := 2) (by omega)
      obtain ⟨hp22, hrd22, hr22, hb22⟩ := fld_step (v := (v22 : Int)) (f := 2) hp21 hr21 hrdc hgc hgr0 hgp1 hb021 (by omega)
      simp only [Nat.reduceAdd] at hp22 hrd22 hr22 hb22 xz
      have c22 : (x22.setCell ⟨gp, 3, none⟩ (.int .i64 (v22 : Int))).cell? ⟨gp, 0, none⟩ = some (.int .i64 7) := (pdu_cells hp22).1
      have HH := hid (And.intro hp22 (And.intro hrd22 (And.intro hr22 hb22)))
      clear hp21 hrd21 hr21 hb021 hpc hrdc hgc hv22 hp22 hrd22 hr22 hb22
      go_wp2_with fail
      obtain ⟨hp22, hrd22, hr22, hb022⟩ := HH.out
      clear HH fz xz
      generalize x22.setCell ⟨gp, 3, none⟩ (.int .i64 (v22 : Int)) = w22 at hp22 hrd22 hr22 hb022 c22 ⊢
      obtain ⟨⟨v23, s23⟩, hv23⟩ : ∃ r, rNum s22 1 = r := ⟨_, rfl⟩
      refine (num2_any gr s22 1 w22 hrd22).mono ?_
      rintro e x23 ⟨he, hrdc, hgc⟩
      rw [hv23] at he hrdc
      simp only at he hrdc
      subst he
      have HV23 : Hid (rNum s22 ((widS 5 : Nat) : Int) = (v23, s23)) := hid hv23
      have hpc := hp22.grown_ne hgc (by omega)
      have fz := hpc.frozen 6
      have xz := pdu_f hpc (k := 5) (by omega)
      obtain ⟨hp23, hrd23, hr23, hb23⟩ := fld_step (v := (v23 : Int)) (f := 5) hp22 hr22 hrdc hgc hgr0 hgp1 hb022 (by omega)
      simp only [Nat.reduceAdd] at hp23 hrd23 hr23 hb23 xz
      have c23 : (x23.setCell ⟨gp, 6, none⟩ (.int .i64 (v23 : Int))).cell? ⟨gp, 0, none⟩ = some (.int .i64 7) := (pdu_cells hp23).1
      have HH := hid (And.intro hp23 (And.intro hrd23 (And.intro hr23 hb23)))
      clear hp22 hrd22 hr22 hb022 hpc hrdc hgc hv23 hp23 hrd23 hr23 hb23
      go_wp2_with fail
      obtain ⟨hp23, hrd23, hr23, hb023⟩ := HH.out
      clear HH fz xz
      generalize x23.setCell ⟨gp, 6, none⟩ (.int .i64 (v23 : Int)) = w23 at hp23 hrd23 hr23 hb023 c23 ⊢
      have hgl : getL (fieldsK (7 : Int)) ({ pduZ with kind := 7 } : PduS) s0 = ((setF (setF (setF (setF ({ pduZ with kind := 7 } : PduS) 0 (v20 : Int)) 4 (v21 : Int)) 2 (v22 : Int)) 5 (v23 : Int)), s23) := by
        show getL [0, 4, 2, 5] _ _ = _
        simp only [getL, HV20.out, HV21.out, HV22.out, HV23.out]
      have HG6 : Hid (bodyG body = if rEnd s23 ≠ 0 then (pduZ, rEnd s23) else ((setF (setF (setF (setF ({ pduZ with kind := 7 } : PduS) 0 (v20 : Int)) 4 (v21 : Int)) 2 (v22 : Int)) 5 (v23 : Int)), 0)) := hid (by
        rw [HG2.out, if_neg (by decide)]
        simp only [hgl, Int.reduceEq, reduceIte])
      have hX := hp23
      have hR1 := hrd23
      have hr1 := hr23
      have hb1' := hb023
      have hrl2 : (setF (setF (setF (setF ({ pduZ with kind := 7 } : PduS) 0 (v20 : Int)) 4 (v21 : Int)) 2 (v22 : Int)) 5 (v23 : Int)).data.length ≤ 16 := by show (0 : Nat) ≤ 16; decide
      have hown2 : Reads w23 w23.heap.size 1 none (setF (setF (setF (setF ({ pduZ with kind := 7 } : PduS) 0 (v20 : Int)) 4 (v21 : Int)) 2 (v22 : Int)) 5 (v23 : Int)).data.length ((setF (setF (setF (setF ({ pduZ with kind := 7 } : PduS) 0 (v20 : Int)) 4 (v21 : Int)) 2 (v22 : Int)) 5 (v23 : Int)).data.map bV) := Reads.empty
      clear hgl hp23 hrd23 hr23 hb023 c23
      generalize (setF (setF (setF (setF ({ pduZ with kind := 7 } : PduS) 0 (v20 : Int)) 4 (v21 : Int)) 2 (v22 : Int)) 5 (v23 : Int)) = q2 at hX hown2 hrl2 HG6
      generalize s23 = s2 at hR1 HG6
      obtain ⟨A2, hA2⟩ : ∃ A2 : Option Addr, A2 = none := ⟨_, rfl⟩
      obtain ⟨d2, hd2⟩ : ∃ d2 : Nat, d2 = 0 := ⟨_, rfl⟩
      rw [← hA2, ← hd2] at hX
      rw [← hA2] at hown2
      have hne2 : ∀ ad : Addr, A2 = some ad → gr < ad.block := fun ad h => by rw [hA2] at h; cases h
      clear hA2 hd2
      generalize w23 = w11 at *
      have HE := hid (end2_any gr s2 w11 hR1)
      have HP := hid hX
      have HR := hid hr1
      have HN := hid hne2
      have HN2 := hid hne2
      have HOW := hid hown2
      have HBB := hid hb1'
      clear hX hr1 hne2 hown2 hb1' hR1
      by_cases he : rEnd s2 = 0
      · have HG7 := hid (HG6.out.trans (if_neg (by rw [he]; simp)))
        have g0 : (rEnd s2 != 0) = false := by simp [he]
        refine HE.out.mono ?_
        rintro e w12 ⟨rfl, hrd12, hg12⟩
        have hp12 := HP.out.grown_ne hg12 (by omega)
        have hr12 := HR.out.grown_ne hg12 (by omega)
        have hb12 := HBB.out.grown hg12 HBB.out.size (fun k hk => by injection hk with hk; omega)
        have ho12 := HOW.out.grown_ne (Nat.le_refl _) hg12 (fun ad h => by have := HN.out ad h; omega)
        obtain ⟨f0, f1, f2, f3, f4, f5, f6, f7, f8⟩ : _ ∧ _ ∧ _ ∧ _ ∧ _ ∧ _ ∧ _ ∧ _ ∧ _ := ⟨hr12.frozen 0, hr12.frozen 1, hr12.frozen 2, hr12.frozen 3, hr12.frozen 4, hr12.frozen 5, hr12.frozen 6, hr12.frozen 7, hr12.frozen 8⟩
        obtain ⟨c0, c1, c2, c3, c4, c5, c6, c7, c8⟩ : _ ∧ _ ∧ _ ∧ _ ∧ _ ∧ _ ∧ _ ∧ _ ∧ _ := ⟨hr12.cellAt (i := 0) rfl, hr12.cellAt (i := 1) rfl, hr12.cellAt (i := 2) rfl, hr12.cellAt (i := 3) rfl, hr12.cellAt (i := 4) rfl, hr12.cellAt (i := 5) rfl, hr12.cellAt (i := 6) rfl, hr12.cellAt (i := 7) rfl, hr12.cellAt (i := 8) rfl⟩
        obtain ⟨m0, m1, m2, m3, m4, m5, m6, m7, m8⟩ := pdu_cells hp12
        have HR12 := hid hr12
        have HO12 := hid ho12
        generalize rEnd s2 = EE at g0
        clear he HG6 HE hr12 hp12 ho12 hrd12 hg12 HP HR HN HOW HBB
        go_wp2_with fail
        obtain ⟨w13, hw13, hb13, hg13, hr13⟩ := store9g HR12.out rfl (.int .i64 q2.kind) (.int .i64 q2.ses) (.int .i64 q2.part) (.int .i64 q2.no) (.int .i64 q2.size) (.int .i64 q2.what) (.int .i64 q2.code) (.int .i64 q2.hav) (.slice A2 q2.data.length d2)
        rw [hw13]
        clear hw13 f0 f1 f2 f3 f4 f5 f6 f7 f8 c0 c1 c2 c3 c4 c5 c6 c7 c8 m0 m1 m2 m3 m4 m5 m6 m7 m8 g0
        obtain ⟨r0, r1, r2, r3, r4, r5, r6, r7, r8⟩ : _ ∧ _ ∧ _ ∧ _ ∧ _ ∧ _ ∧ _ ∧ _ ∧ _ := ⟨hr13.cellAt (i := 0) rfl, hr13.cellAt (i := 1) rfl, hr13.cellAt (i := 2) rfl, hr13.cellAt (i := 3) rfl, hr13.cellAt (i := 4) rfl, hr13.cellAt (i := 5) rfl, hr13.cellAt (i := 6) rfl, hr13.cellAt (i := 7) rfl, hr13.cellAt (i := 8) rfl⟩
        have hfin := hid (hb12.trans hb13)
        have hrdf := hid (HO12.out.grown_ne (Nat.le_refl _) hg13 (fun ad h => by have := HN2.out ad h; omega))
        refine bodyPost_ret (v := .tuple #[.agg #[.int .i64 q2.kind, .int .i64 q2.ses, .int .i64 q2.part, .int .i64 q2.no, .int .i64 q2.size, .int .i64 q2.what, .int .i64 q2.code, .int .i64 q2.hav, .slice A2 q2.data.length d2], .int .i64 0]) (by simp [results, Try.results57, go_sem, r0, r1, r2, r3, r4, r5, r6, r7, r8, zV]) rfl ?_
        unfold BodyPost
        rw [HG7.out]
        exact ⟨A2, d2, rfl, hrdf.out, hrl2, hfin.out, fun ad h => by have := HN2.out ad h; omega⟩
      · have HG7 := hid (HG6.out.trans (if_pos he))
        have g0 : (rEnd s2 != 0) = true := by simpa using he
        refine HE.out.mono ?_
        rintro e w12 ⟨rfl, hrd12, hg12⟩
        have hr12 := HR.out.grown_ne hg12 (by omega)
        have hb12 := HBB.out.grown hg12 HBB.out.size (fun k hk => by injection hk with hk; omega)
        have HE2 := hid (end2_any gr s2 w12 hrd12)
        have HR12 := hid hr12
        have HB12 := hid hb12
        generalize hEE : rEnd s2 = EE at g0 HG7
        unfold EPost2 at HE2
        rw [hEE] at HE2
        clear he HG6 HE hr12 hb12 hrd12 hg12 HP HR HN HOW HBB hEE
        go_wp2_with fail
        refine HE2.out.mono ?_
        rintro e w13 ⟨rfl, hrd13, hg13⟩
        have hr13 := HR12.out.grown_ne hg13 (by omega)
        have hb13 := HB12.out.grown hg13 HB12.out.size (fun k hk => by injection hk with hk; omega)
        obtain ⟨f0, f1, f2, f3, f4, f5, f6, f7, f8⟩ : _ ∧ _ ∧ _ ∧ _ ∧ _ ∧ _ ∧ _ ∧ _ ∧ _ := ⟨hr13.frozen 0, hr13.frozen 1, hr13.frozen 2, hr13.frozen 3, hr13.frozen 4, hr13.frozen 5, hr13.frozen 6, hr13.frozen 7, hr13.frozen 8⟩
        obtain ⟨c0, c1, c2, c3, c4, c5, c6, c7, c8⟩ : _ ∧ _ ∧ _ ∧ _ ∧ _ ∧ _ ∧ _ ∧ _ ∧ _ := ⟨hr13.cellAt (i := 0) rfl, hr13.cellAt (i := 1) rfl, hr13.cellAt (i := 2) rfl, hr13.cellAt (i := 3) rfl, hr13.cellAt (i := 4) rfl, hr13.cellAt (i := 5) rfl, hr13.cellAt (i := 6) rfl, hr13.cellAt (i := 7) rfl, hr13.cellAt (i := 8) rfl⟩
        have HR13 := hid hr13
        clear hr13 hrd13 hg13 HE2 HR12 g0
        go_wp2_with fail
        obtain ⟨w14, hw14, hb14, hr14⟩ := store9 HR13.out rfl (.int .i64 0) (.int .i64 0) (.int .i64 0) (.int .i64 0) (.int .i64 0) (.int .i64 0) (.int .i64 0) (.int .i64 0) (.slice none 0 0)
        rw [hw14]
        clear hw14 f0 f1 f2 f3 f4 f5 f6 f7 f8 c0 c1 c2 c3 c4 c5 c6 c7 c8
        obtain ⟨r0, r1, r2, r3, r4, r5, r6, r7, r8⟩ : _ ∧ _ ∧ _ ∧ _ ∧ _ ∧ _ ∧ _ ∧ _ ∧ _ := ⟨hr14.cellAt (i := 0) rfl, hr14.cellAt (i := 1) rfl, hr14.cellAt (i := 2) rfl, hr14.cellAt (i := 3) rfl, hr14.cellAt (i := 4) rfl, hr14.cellAt (i := 5) rfl, hr14.cellAt (i := 6) rfl, hr14.cellAt (i := 7) rfl, hr14.cellAt (i := 8) rfl⟩
        have hfin := hid (hb13.trans hb14)
        refine bodyPost_ret (v := .tuple #[zV, .int .i64 EE]) (by simp [results, Try.results57, go_sem, r0, r1, r2, r3, r4, r5, r6, r7, r8, zV]) rfl ?_
        unfold BodyPost
        rw [HG7.out]
        exact ⟨none, 0, rfl, Reads.empty, by show (0 : Nat) ≤ 16; decide, hfin.out, fun ad h => by cases h⟩
    · go_wp2_with fail
      rw [HW9.out]
      generalize w8.heap.size = gp at *
      clear y1 y2 HR8
      obtain ⟨⟨v20, s20⟩, hv20⟩ : ∃ r, rNum s0 2 = r := ⟨_, rfl⟩
      refine (num2_any gr s0 2 w9 hrd9).mono ?_
      rintro e x20 ⟨he, hrdc, hgc⟩
      rw [hv20] at he hrdc
      simp only at he hrdc
      subst he
      have HV20 : Hid (rNum s0 ((widS 0 : Nat) : Int) = (v20, s20)) := hid hv20
      have hpc := hp9.grown_ne hgc (by omega)
      have fz := hpc.frozen 1
      have xz := pdu_f hpc (k := 0) (by omega)
      obtain ⟨hp20, hrd20, hr20, hb20⟩ := fld_step (v := (v20 : Int)) (f := 0) hp9 hr9 hrdc hgc hgr0 hgp1 hb09 (by omega)
      simp only [Nat.reduceAdd] at hp20 hrd20 hr20 hb20 xz
      have c20 : (x20.setCell ⟨gp, 1, none⟩ (.int .i64 (v20 : Int))).cell? ⟨gp, 0, none⟩ = some (.int .i64 8) := (pdu_cells hp20).1
      have HH := hid (And.intro hp20 (And.intro hrd20 (And.intro hr20 hb20)))
      clear hp9 hrd9 hr9 hb09 hpc hrdc hgc hv20 hp20 hrd20 hr20 hb20
      go_wp2_with fail
      obtain ⟨hp20, hrd20, hr20, hb020⟩ := HH.out
      clear HH fz xz
      generalize x20.setCell ⟨gp, 1, none⟩ (.int .i64 (v20 : Int)) = w20 at hp20 hrd20 hr20 hb020 c20 ⊢
      obtain ⟨⟨v21, s21⟩, hv21⟩ : ∃ r, rNum s20 1 = r := ⟨_, rfl⟩
      refine (num2_any gr s20 1 w20 hrd20).mono ?_
      rintro e x21 ⟨he, hrdc, hgc⟩
      rw [hv21] at he hrdc
      simp only at he hrdc
      subst he
      have HV21 : Hid (rNum s20 ((widS 1 : Nat) : Int) = (v21, s21)) := hid hv21
      have hpc := hp20.grown_ne hgc (by omega)
      have fz := hpc.frozen 2
      have xz := pdu_f hpc (k := 1) (by omega)
      obtain ⟨hp21, hrd21, hr21, hb21⟩ := fld_step (v := (v21 : Int)) (f := 1) hp20 hr20 hrdc hgc hgr0 hgp1 hb020 (by omega)
      simp only [Nat.reduceAdd] at hp21 hrd21 hr21 hb21 xz
      have c21 : (x21.setCell ⟨gp, 2, none⟩ (.int .i64 (v21 : Int))).cell? ⟨gp, 0, none⟩ = some (.int .i64 8) := (pdu_cells hp21).1
      have HH := hid (And.intro hp21 (And.intro hrd21 (And.intro hr21 hb21)))
      clear hp20 hrd20 hr20 hb020 hpc hrdc hgc hv21 hp21 hrd21 hr21 hb21
      go_wp2_with fail
      obtain ⟨hp21, hrd21, hr21, hb021⟩ := HH.out
      clear HH fz xz
      generalize x21.setCell ⟨gp, 2, none⟩ (.int .i64 (v21 : Int)) = w21 at hp21 hrd21 hr21 hb021 c21 ⊢
      obtain ⟨⟨v22, s22⟩, hv22⟩ : ∃ r, rNum s21 2 = r := ⟨_, rfl⟩
      refine (num2_any gr s21 2 w21 hrd21).mono ?_
      rintro e x22 ⟨he, hrdc, hgc⟩
      rw [hv22] at he hrdc
      simp only at he hrdc
      subst he
      have HV22 : Hid (rNum s21 ((widS 3 : Nat) : Int) = (v22, s22)) := hid hv22
      have hpc := hp21.grown_ne hgc (by omega)
      have fz := hpc.frozen 4
      have xz := pdu_f hpc (k := 3) (by omega)
      obtain ⟨hp22, hrd22, hr22, hb22⟩ := fld_step (v := (v22 : Int)) (f := 3) hp21 hr21 hrdc hgc hgr0 hgp1 hb021 (by omega)
      simp only [Nat.reduceAdd] at hp22 hrd22 hr22 hb22 xz
      have c22 : (x22.setCell ⟨gp, 4, none⟩ (.int .i64 (v22 : Int))).cell? ⟨gp, 0, none⟩ = some (.int .i64 8) := (pdu_cells hp22).1
      have HH := hid (And.intro hp22 (And.intro hrd22 (And.intro hr22 hb22)))
      clear hp21 hrd21 hr21 hb021 hpc hrdc hgc hv22 hp22 hrd22 hr22 hb22
      go_wp2_with fail
      obtain ⟨hp22, hrd22, hr22, hb022⟩ := HH.out
      clear HH fz xz
      generalize x22.setCell ⟨gp, 4, none⟩ (.int .i64 (v22 : Int)) = w22 at hp22 hrd22 hr22 hb022 c22 ⊢
      obtain ⟨⟨v23, s23⟩, hv23⟩ : ∃ r, rNum s22 2 = r := ⟨_, rfl⟩
      refine (num2_any gr s22 2 w22 hrd22).mono ?_
      rintro e x23 ⟨he, hrdc, hgc⟩
      rw [hv23] at he hrdc
      simp only at he hrdc
      subst he
      have HV23 : Hid (rNum s22 ((widS 6 : Nat) : Int) = (v23, s23)) := hid hv23
      have hpc := hp22.grown_ne hgc (by omega)
      have fz := hpc.frozen 7
      have xz := pdu_f hpc (k := 6) (by omega)
      obtain ⟨hp23, hrd23, hr23, hb23⟩ := fld_step (v := (v23 : Int)) (f := 6) hp22 hr22 hrdc hgc hgr0 hgp1 hb022 (by omega)
      simp only [Nat.reduceAdd] at hp23 hrd23 hr23 hb23 xz
      have c23 : (x23.setCell ⟨gp, 7, none⟩ (.int .i64 (v23 : Int))).cell? ⟨gp, 0, none⟩ = some (.int .i64 8) := (pdu_cells hp23).1
      have HH := hid (And.intro hp23 (And.intro hrd23 (And.intro hr23 hb23)))
      clear hp22 hrd22 hr22 hb022 hpc hrdc hgc hv23 hp23 hrd23 hr23 hb23
      go_wp2_with fail
      obtain ⟨hp23, hrd23, hr23, hb023⟩ := HH.out
      clear HH fz xz
      generalize x23.setCell ⟨gp, 7, none⟩ (.int .i64 (v23 : Int)) = w23 at hp23 hrd23 hr23 hb023 c23 ⊢
      have hgl : getL (fieldsK (8 : Int)) ({ pduZ with kind := 8 } : PduS) s0 = ((setF (setF (setF (setF ({ pduZ with kind := 8 } : PduS) 0 (v20 : Int)) 1 (v21 : Int)) 3 (v22 : Int)) 6 (v23 : Int)), s23) := by
        show getL [0, 1, 3, 6] _ _ = _
        simp only [getL, HV20.out, HV21.out, HV22.out, HV23.out]
      have HG6 : Hid (bodyG body = if rEnd s23 ≠ 0 then (pduZ, rEnd s23) else ((setF (setF (setF (setF ({ pduZ with kind := 8 } : PduS) 0 (v20 : Int)) 1 (v21 : Int)) 3 (v22 : Int)) 6 (v23 : Int)), 0)) := hid (by
        rw [HG2.out, if_neg (by decide)]
        simp only [hgl, Int.reduceEq, reduceIte])
      have hX := hp23
      have hR1 := hrd23
      have hr1 := hr23
      have hb1' := hb023
      have hrl2 : (setF (setF (setF (setF ({ pduZ with kind := 8 } : PduS) 0 (v20 : Int)) 1 (v21 : Int)) 3 (v22 : Int)) 6 (v23 : Int)).data.length ≤ 16 := by show (0 : Nat) ≤ 16; decide
      have hown2 : Reads w23 w23.heap.size 1 none (setF (setF (setF (setF ({ pduZ with kind := 8 } : PduS) 0 (v20 : Int)) 1 (v21 : Int)) 3 (v22 : Int)) 6 (v23 : Int)).data.length ((setF (setF (setF (setF ({ pduZ with kind := 8 } : PduS) 0 (v20 : Int)) 1 (v21 : Int)) 3 (v22 : Int)) 6 (v23 : Int)).data.map bV) := Reads.empty
      clear hgl hp23 hrd23 hr23 hb023 c23
      generalize (setF (setF (setF (setF ({ pduZ with kind := 8 } : PduS) 0 (v20 : Int)) 1 (v21 : Int)) 3 (v22 : Int)) 6 (v23 : Int)) = q2 at hX hown2 hrl2 HG6
      generalize s23 = s2 at hR1 HG6
      obtain ⟨A2, hA2⟩ : ∃ A2 : Option Addr, A2 = none := ⟨_, rfl⟩
      obtain ⟨d2, hd2⟩ : ∃ d2 : Nat, d2 = 0 := ⟨_, rfl⟩
      rw [← hA2, ← hd2] at hX
      rw [← hA2] at hown2
      have hne2 : ∀ ad : Addr, A2 = some ad → gr < ad.block := fun ad h => by rw [hA2] at h; cases h
      clear hA2 hd2
      generalize w23 = w11 at *
      have HE := hid (end2_any gr s2 w11 hR1)
      have HP := hid hX
      have HR := hid hr1
      have HN := hid hne2
      have HN2 := hid hne2
      have HOW := hid hown2
      have HBB := hid hb1'
      clear hX hr1 hne2 hown2 hb1' hR1
      by_cases he : rEnd s2 = 0
      · have HG7 := hid (HG6.out.trans (if_neg (by rw [he]; simp)))
        have g0 : (rEnd s2 != 0) = false := by simp [he]
        refine HE.out.mono ?_
        rintro e w12 ⟨rfl, hrd12, hg12⟩
        have hp12 := HP.out.grown_ne hg12 (by omega)
        have hr12 := HR.out.grown_ne hg12 (by omega)
        have hb12 := HBB.out.grown hg12 HBB.out.size (fun k hk => by injection hk with hk; omega)
        have ho12 := HOW.out.grown_ne (Nat.le_refl _) hg12 (fun ad h => by have := HN.out ad h; omega)
        obtain ⟨f0, f1, f2, f3, f4, f5, f6, f7, f8⟩ : _ ∧ _ ∧ _ ∧ _ ∧ _ ∧ _ ∧ _ ∧ _ ∧ _ := ⟨hr12.frozen 0, hr12.frozen 1, hr12.frozen 2, hr12.frozen 3, hr12.frozen 4, hr12.frozen 5, hr12.frozen 6, hr12.frozen 7, hr12.frozen 8⟩
        obtain ⟨c0, c1, c2, c3, c4, c5, c6, c7, c8⟩ : _ ∧ _ ∧ _ ∧ _ ∧ _ ∧ _ ∧ _ ∧ _ ∧ _ := ⟨hr12.cellAt (i := 0) rfl, hr12.cellAt (i := 1) rfl, hr12.cellAt (i := 2) rfl, hr12.cellAt (i := 3) rfl, hr12.cellAt (i := 4) rfl, hr12.cellAt (i := 5) rfl, hr12.cellAt (i := 6) rfl, hr12.cellAt (i := 7) rfl, hr12.cellAt (i := 8) rfl⟩
        obtain ⟨m0, m1, m2, m3, m4, m5, m6, m7, m8⟩ := pdu_cells hp12
        have HR12 := hid hr12
        have HO12 := hid ho12
        generalize rEnd s2 = EE at g0
        clear he HG6 HE hr12 hp12 ho12 hrd12 hg12 HP HR HN HOW HBB
        go_wp2_with fail
        obtain ⟨w13, hw13, hb13, hg13, hr13⟩ := store9g HR12.out rfl (.int .i64 q2.kind) (.int .i64 q2.ses) (.int .i64 q2.part) (.int .i64 q2.no) (.int .i64 q2.size) (.int .i64 q2.what) (.int .i64 q2.code) (.int .i64 q2.hav) (.slice A2 q2.data.length d2)
        rw [hw13]
        clear hw13 f0 f1 f2 f3 f4 f5 f6 f7 f8 c0 c1 c2 c3 c4 c5 c6 c7 c8 m0 m1 m2 m3 m4 m5 m6 m7 m8 g0
        obtain ⟨r0, r1, r2, r3, r4, r5, r6, r7, r8⟩ : _ ∧ _ ∧ _ ∧ _ ∧ _ ∧ _ ∧ _ ∧ _ ∧ _ := ⟨hr13.cellAt (i := 0) rfl, hr13.cellAt (i := 1) rfl, hr13.cellAt (i := 2) rfl, hr13.cellAt (i := 3) rfl, hr13.cellAt (i := 4) rfl, hr13.cellAt (i := 5) rfl, hr13.cellAt (i := 6) rfl, hr13.cellAt (i := 7) rfl, hr13.cellAt (i := 8) rfl⟩
        have hfin := hid (hb12.trans hb13)
        have hrdf := hid (HO12.out.grown_ne (Nat.le_refl _) hg13 (fun ad h => by have := HN2.out ad h; omega))
        refine bodyPost_ret (v := .tuple #[.agg #[.int .i64 q2.kind, .int .i64 q2.ses, .int .i64 q2.part, .int .i64 q2.no, .int .i64 q2.size, .int .i64 q2.what, .int .i64 q2.code, .int .i64 q2.hav, .slice A2 q2.data.length d2], .int .i64 0]) (by simp [results, Try.results57, go_sem, r0, r1, r2, r3, r4, r5, r6, r7, r8, zV]) rfl ?_
        unfold BodyPost
        rw [HG7.out]
        exact ⟨A2, d2, rfl, hrdf.out, hrl2, hfin.out, fun ad h => by have := HN2.out ad h; omega⟩
      · have HG7 := hid (HG6.out.trans (if_pos he))
        have g0 : (rEnd s2 != 0) = true := by simpa using he
        refine HE.out.mono ?_
        rintro e w12 ⟨rfl, hrd12, hg12⟩
        have hr12 := HR.out.grown_ne hg12 (by omega)
        have hb12 := HBB.out.grown hg12 HBB.out.size (fun k hk => by injection hk with hk; omega)
        have HE2 := hid (end2_any gr s2 w12 hrd12)
        have HR12 := hid hr12
        have HB12 := hid hb12
        generalize hEE : rEnd s2 = EE at g0 HG7
        unfold EPost2 at HE2
        rw [hEE] at HE2
        clear he HG6 HE hr12 hb12 hrd12 hg12 HP HR HN HOW HBB hEE
        go_wp2_with fail
        refine HE2.out.mono ?_
        rintro e w13 ⟨rfl, hrd13, hg13⟩
        have hr13 := HR12.out.grown_ne hg13 (by omega)
        have hb13 := HB12.out.grown hg13 HB12.out.size (fun k hk => by injection hk with hk; omega)
        obtain ⟨f0, f1, f2, f3, f4, f5, f6, f7, f8⟩ : _ ∧ _ ∧ _ ∧ _ ∧ _ ∧ _ ∧ _ ∧ _ ∧ _ := ⟨hr13.frozen 0, hr13.frozen 1, hr13.frozen 2, hr13.frozen 3, hr13.frozen 4, hr13.frozen 5, hr13.frozen 6, hr13.frozen 7, hr13.frozen 8⟩
        obtain ⟨c0, c1, c2, c3, c4, c5, c6, c7, c8⟩ : _ ∧ _ ∧ _ ∧ _ ∧ _ ∧ _ ∧ _ ∧ _ ∧ _ := ⟨hr13.cellAt (i := 0) rfl, hr13.cellAt (i := 1) rfl, hr13.cellAt (i := 2) rfl, hr13.cellAt (i := 3) rfl, hr13.cellAt (i := 4) rfl, hr13.cellAt (i := 5) rfl, hr13.cellAt (i := 6) rfl, hr13.cellAt (i := 7) rfl, hr13.cellAt (i := 8) rfl⟩
        have HR13 := hid hr13
        clear hr13 hrd13 hg13 HE2 HR12 g0
        go_wp2_with fail
        obtain ⟨w14, hw14, hb14, hr14⟩ := store9 HR13.out rfl (.int .i64 0) (.int .i64 0) (.int .i64 0) (.int .i64 0) (.int .i64 0) (.int .i64 0) (.int .i64 0) (.int .i64 0) (.slice none 0 0)
        rw [hw14]
        clear hw14 f0 f1 f2 f3 f4 f5 f6 f7 f8 c0 c1 c2 c3 c4 c5 c6 c7 c8
        obtain ⟨r0, r1, r2, r3, r4, r5, r6, r7, r8⟩ : _ ∧ _ ∧ _ ∧ _ ∧ _ ∧ _ ∧ _ ∧ _ ∧ _ := ⟨hr14.cellAt (i := 0) rfl, hr14.cellAt (i := 1) rfl, hr14.cellAt (i := 2) rfl, hr14.cellAt (i := 3) rfl, hr14.cellAt (i := 4) rfl, hr14.cellAt (i := 5) rfl, hr14.cellAt (i := 6) rfl, hr14.cellAt (i := 7) rfl, hr14.cellAt (i := 8) rfl⟩
        have hfin := hid (hb13.trans hb14)
        refine bodyPost_ret (v := .tuple #[zV, .int .i64 EE]) (by simp [results, Try.results57, go_sem, r0, r1, r2, r3, r4, r5, r6, r7, r8, zV]) rfl ?_
        unfold BodyPost
        rw [HG7.out]
        exact ⟨none, 0, rfl, Reads.empty, by show (0 : Nat) ≤ 16; decide, hfin.out, fun ad h => by cases h⟩
end Go.Proofs.Ythipfopmaegpdaa
