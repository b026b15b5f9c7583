/-
  Package sched: what is so at a tick.
-/
import Derived.Test.YtbnodcenlggcnaaSchedRef
import Derived.Deep.RegionHeld3
import Derived.RegionTactic
import Derived.Handy
namespace Go.Proofs.Ytbnodcenlggcnaa
open Go.RowKit

/-- What is so at a tick, as the machine holds it. -/
def whenC (f p wi pa : Int) (b s : Bool) : List Value := [.int .i64 f, .int .i64 p, .int .i64 wi, .int .i64 pa, .bool b, .bool s]
def atV (t : TabS) (F T : Nat) : Value := .agg #[.int .i64 ((T / F : Nat) : Int), .int .i64 ((T % F : Nat) : Int), .int .i64 (idxB (posB ((T % F : Nat) : Int)) t.wins), .int .i64 (partL t.wins ((T % F : Nat) : Int)), .bool ((((T % F : Nat) : Int)) == 0), .bool (startL t.wins ((T % F : Nat) : Int))]
theorem win_any' (t : TabS) (a : TabA) (pos : Int) (w : World) (h : TabOk w t a) (hR : RightT t) :
    Calls Try.prog 21 #[.agg #[.int .i64 t.frame, .slice a.A1 t.parts.length a.c1, .slice a.A2 t.wins.length a.c2, .slice a.A3 t.chans.length a.c3, .int .i64 t.trial], .int .i64 pos] w fun e w' => e = .returned (.int .i64 (idxB (posB pos) t.wins)) ∧ Below w.heap.size w w' := by
  have := window_any t a pos w h
  unfold windowB at this
  rw [if_pos ((rightB_iff t).2 hR)] at this
  exact this
/-- A whole struct of six cells stored. -/
theorem store6 {w : World} {b : Nat} {T : TypeId} {cs : List Value} (h : Blk w b T cs) (hl : cs.length = 6) (v0 v1 v2 v3 v4 v5 : Value) :
    ∃ w' : World, (((((w.setCell ⟨b, 0, none⟩ v0).setCell ⟨b, 1, none⟩ v1).setCell ⟨b, 2, none⟩ v2).setCell ⟨b, 3, none⟩ v3).setCell ⟨b, 4, none⟩ v4).setCell ⟨b, 5, none⟩ v5 = w' ∧ Below b w w' ∧ Blk w' b T [v0, v1, v2, v3, v4, v5] := by
  refine ⟨_, rfl, ((((((Below.refl _ _).setCell (p := ⟨b, 0, none⟩) (Nat.le_refl _) _).setCell (p := ⟨b, 1, none⟩) (Nat.le_refl _) _).setCell (p := ⟨b, 2, none⟩) (Nat.le_refl _) _).setCell (p := ⟨b, 3, none⟩) (Nat.le_refl _) _).setCell (p := ⟨b, 4, none⟩) (Nat.le_refl _) _).setCell (p := ⟨b, 5, none⟩) (Nat.le_refl _) _, ?_⟩
  have := (((((h.set_ 0 v0).set_ 1 v1).set_ 2 v2).set_ 3 v3).set_ 4 v4).set_ 5 v5
  match cs, hl with
  | [_, _, _, _, _, _], _ => exact this
set_option maxRecDepth 100000 in
set_option maxHeartbeats 4000000 in
theorem at_any (t : TabS) (a : TabA) (F T : Nat) (hF : t.frame = (F : Int)) (hT : T ≤ 9223372036854775807) (w : World) (h : TabOk w t a) (hR : RightT t) :
    Calls Try.prog 52 #[.agg #[.int .i64 t.frame, .slice a.A1 t.parts.length a.c1, .slice a.A2 t.wins.length a.c2, .slice a.A3 t.chans.length a.c3, .int .i64 t.trial], .int .i64 (T : Int)] w fun e w' => e = .returned (atV t F T) ∧ Below w.heap.size w w' := by
  obtain ⟨A1, k1, A2, k2, A3, k3⟩ := a
  obtain ⟨frame, parts, wins, chans, trial⟩ := t
  simp only at hF ⊢
  subst hF
  have hf1 := hR.f1
  have hf2 := hR.f2
  simp only at hf1 hf2
  unfold atV
  simp only
  obtain ⟨w1, hw1, hb0, hblk0, hs1⟩ := tab_in ⟨(F : Int), parts, wins, chans, trial⟩ ⟨A1, k1, A2, k2, A3, k3⟩ w
  simp only at hw1
  have hT1 := h.belowS hb0
  have e1 : Int.tdiv (T : Int) (F : Int) = ((T / F : Nat) : Int) := by rw [Int.tdiv_eq_ediv_of_nonneg (by omega)]; rfl
  have e2 : Int.tmod (T : Int) (F : Int) = ((T % F : Nat) : Int) := by rw [Int.tmod_eq_emod_of_nonneg (by omega)]; rfl
  have e3 : (T : Int) / (F : Int) = ((T / F : Nat) : Int) := rfl
  have e4 : (T : Int) % (F : Int) = ((T % F : Nat) : Int) := rfl
  have hDT : T / F ≤ 9223372036854775807 := Nat.le_trans (Nat.div_le_self _ _) hT
  have hml := Nat.mod_lt T (show 0 < F by omega)
  generalize T / F = D at *
  generalize T % F = M at *
  have hne : ((F : Int) == 0) = false := beq_eq_false_iff_ne.2 (by omega)
  have hlt0 : (0 : Int) < (F : Int) := by omega
  have hn0 : F ≠ 0 := by omega
  have hD : D ≤ 9223372036854775807 := hDT
  have hM : M ≤ 64 := by omega
  have hwD : IntKind.i64.wrap (D : Int) = (D : Int) := IntWalk.i64_in _ (by omega)
  have hwM : IntKind.i64.wrap (M : Int) = (M : Int) := IntWalk.i64_in _ (by omega)
  obtain ⟨w2, hw2, hb2, hrb, hs2⟩ : ∃ w2 : World, w1.alloc (.cells #[.int .i64 0, .int .i64 0, .int .i64 0, .int .i64 0, .bool false, .bool false] 43) = w2 ∧ Below w1.heap.size w1 w2 ∧ Blk w2 w1.heap.size 43 (whenC 0 0 0 0 false false) ∧ w2.heap.size = w1.heap.size + 1 := ⟨_, rfl, (Below.refl _ _).alloc (Nat.le_refl _) _, Blk.new w1 _ (whenC 0 0 0 0 false false), by simp⟩
  have hblk2 := hblk0.belowS hb2
  obtain ⟨c0, c1, c2, c3, c4⟩ := tab_cells hblk2
  simp only at c0 c1 c2 c3 c4
  clear hblk0
  go_enter Try.func52, Try.ntmps52
  go_wp2_with fail
  clear hw1 hw2
  go_region_held3 (fun w' => w'.cell? ⟨w.heap.size, 0, none⟩ = some (.int .i64 (F : Int))) (go_keep) (fail)
  go_wp2_with fail
  obtain ⟨w3, hw3, hb3, hwb⟩ : ∃ w3 : World, (w2.alloc (.cells #[.int .i64 (D : Int), .int .i64 (M : Int), .int .i64 0, .int .i64 (-1), .bool false, .bool false] 43)).drew = w3 ∧ Below w2.heap.size w2 w3 ∧ Blk w3 w2.heap.size 43 (whenC D M 0 (-1) false false) :=
    ⟨_, rfl, ((Below.refl _ _).alloc (Nat.le_refl _) _).drew, (Blk.new w2 _ (whenC D M 0 (-1) false false)).drew⟩
  rw [hw3]
  clear hw3
  have hblk3 := hblk2.belowS hb3
  have hrb3 := hrb.belowS hb3
  have hT3 := (hT1.belowS hb2).belowS hb3
  have hb03 := bel_trans (bel_trans hb0 hb2) hb3
  rw [hs2, hs1] at hwb
  rw [hs1] at hrb3
  clear c0 c1 c2 c3 c4 hb2 hb3 hblk2 hrb hT1 e1 e2 e3 e4 hwD hwM
  have hg1 := hblk3.lt
  have hg2 := hwb.lt
  have hg3 := hrb3.lt
  clear hs1 hs2 hb0
  generalize hg : w.heap.size = g at *
  have hgg := hid hg
  clear hg
  have hR2 := hid hR
  have HT := hid h
  clear hR h
  obtain ⟨c0, c1, c2, c3, c4⟩ := tab_cells hblk3
  simp only at c0 c1 c2 c3 c4
  have d1 : w3.cell? ⟨g + 1 + 1, 1, none⟩ = some (.int .i64 (M : Int)) := hwb.cellAt rfl
  have d2 : w3.cell? ⟨g + 1 + 1, 2, none⟩ = some (.int .i64 0) := hwb.cellAt rfl
  have d4 : w3.cell? ⟨g + 1 + 1, 4, none⟩ = some (.bool false) := hwb.cellAt rfl
  have f2 : w3.frozen? ⟨g + 1 + 1, 2, none⟩ = false := hwb.frozen 2
  have f4 : w3.frozen? ⟨g + 1 + 1, 4, none⟩ = false := hwb.frozen 4
  have iW := hid (fun w' hb => win_any' (⟨(F : Int), parts, wins, chans, trial⟩ : TabS) (⟨A1, k1, A2, k2, A3, k3⟩ : TabA) (M : Int) w' (hT3.belowS (w' := w') hb) hR2.out)
  simp only at iW
  generalize hI : idxB (posB (M : Int)) wins = I at iW ⊢
  have HI := hid hI
  clear hI
  have Hbk := hid (And.intro hblk3 (And.intro hwb hrb3))
  clear hblk3 hwb hrb3
  have hx1 : g ≠ g + 1 + 1 := by omega
  have hx2 : g + 1 + 1 ≠ g := by omega
  have v2 : ∀ (w' : World) u, (w'.setCell ⟨g + 1 + 1, 2, none⟩ u).cell? ⟨g + 1 + 1, 1, none⟩ = w'.cell? ⟨g + 1 + 1, 1, none⟩ := fun w' u => World.cell?_setCell_other w' _ _ u (by simp)
  have v4 : ∀ (w' : World) u, (w'.setCell ⟨g + 1 + 1, 4, none⟩ u).cell? ⟨g + 1 + 1, 1, none⟩ = w'.cell? ⟨g + 1 + 1, 1, none⟩ := fun w' u => World.cell?_setCell_other w' _ _ u (by simp)
  go_region_held3 (fun w' => w'.cell? ⟨g, 0, none⟩ = some (.int .i64 (F : Int)) ∧ w'.cell? ⟨g, 1, none⟩ = some (.slice A1 parts.length k1) ∧ w'.cell? ⟨g, 2, none⟩ = some (.slice A2 wins.length k2) ∧ w'.cell? ⟨g, 3, none⟩ = some (.slice A3 chans.length k3) ∧ w'.cell? ⟨g, 4, none⟩ = some (.int .i64 trial) ∧ w'.cell? ⟨g + 1 + 1, 1, none⟩ = some (.int .i64 (M : Int)) ∧ w'.frozen? ⟨g + 1 + 1, 2, none⟩ = false ∧ w'.frozen? ⟨g + 1 + 1, 4, none⟩ = false)
    (go_keep)
    ((refine (iW.out _ ?_).mono ?_; (first | exact Below.refl _ _ | exact (Below.refl _ _).drew); rintro e w4 ⟨rfl, hb4'⟩; have hb4 : Below w3.heap.size w3 w4 := ⟨hb4'.os, hb4'.tape, hb4'.output, hb4'.size, hb4'.block⟩; clear hb4'; have z0 : w4.cell? ⟨g, 0, none⟩ = _ := (hb4.cell (p := ⟨g, 0, none⟩) hg1).trans c0; have z1 : w4.cell? ⟨g, 1, none⟩ = _ := (hb4.cell (p := ⟨g, 1, none⟩) hg1).trans c1; have z2 : w4.cell? ⟨g, 2, none⟩ = _ := (hb4.cell (p := ⟨g, 2, none⟩) hg1).trans c2; have z3 : w4.cell? ⟨g, 3, none⟩ = _ := (hb4.cell (p := ⟨g, 3, none⟩) hg1).trans c3; have z4 : w4.cell? ⟨g, 4, none⟩ = _ := (hb4.cell (p := ⟨g, 4, none⟩) hg1).trans c4; have y1 : w4.cell? ⟨g + 1 + 1, 1, none⟩ = _ := (hb4.cell (p := ⟨g + 1 + 1, 1, none⟩) hg2).trans d1; have y2 : w4.cell? ⟨g + 1 + 1, 2, none⟩ = _ := (hb4.cell (p := ⟨g + 1 + 1, 2, none⟩) hg2).trans d2; have y4 : w4.cell? ⟨g + 1 + 1, 4, none⟩ = _ := (hb4.cell (p := ⟨g + 1 + 1, 4, none⟩) hg2).trans d4; have x2 : w4.frozen? ⟨g + 1 + 1, 2, none⟩ = _ := (hb4.frozen (p := ⟨g + 1 + 1, 2, none⟩) hg2).trans f2; have x4 : w4.frozen? ⟨g + 1 + 1, 4, none⟩ = _ := (hb4.frozen (p := ⟨g + 1 + 1, 4, none⟩) hg2).trans f4))
  obtain ⟨w5, hw5, hb5, hwb5⟩ : ∃ w5 : World, (w4.setCell ⟨g + 1 + 1, 2, none⟩ (.int .i64 I)).setCell ⟨g + 1 + 1, 4, none⟩ (.bool ((M : Int) == 0)) = w5 ∧ Below (g + 1 + 1) w4 w5 ∧ Blk w5 (g + 1 + 1) 43 (whenC D M I (-1) ((M : Int) == 0) false) :=
    ⟨_, rfl, ((Below.refl _ _).setCell (p := ⟨g + 1 + 1, 2, none⟩) (Nat.le_refl _) _).setCell (p := ⟨g + 1 + 1, 4, none⟩) (Nat.le_refl _) _, ((Hbk.out.2.1.belowS hb4).set_ 2 _).set_ 4 _⟩
  rw [hw5]
  clear hw5 z0 z1 z2 z3 z4 y1 y2 y4 x2 x4 c0 c1 c2 c3 c4 d1 d2 d4 f2 f4
  have hblk5 : Blk w5 g 26 _ := (Hbk.out.1.belowS hb4).below hb5 (by omega)
  have hrb5 : Blk w5 (g + 1) 43 _ := (Hbk.out.2.2.belowS hb4).below hb5 (by omega)
  have hb35 : Below (g + 1 + 1) w3 w5 := (hb4.mono (by omega)).trans hb5
  have hb05 : Below g w w5 := hb03.trans (hb35.mono (by omega))
  obtain ⟨c0, c1, c2, c3, c4⟩ := tab_cells hblk5
  simp only at c0 c1 c2 c3 c4
  have hP0 := hid (part_none wins (M : Int))
  have hP1 := hid (part_idx wins (M : Int))
  rw [HI.out] at hP0 hP1
  by_cases hI : I < 0
  · have hf := hid (hP0.out hI)
    have hr1 : Hid (partL wins (M : Int) = -1) := hid (by unfold partL; rw [hf.out])
    have hr2 : Hid (startL wins (M : Int) = false) := hid (by unfold startL; rw [hf.out])
    have hI2 : decide (0 ≤ I) = false := decide_eq_false (by omega)
    obtain ⟨d0, d1, d2, d3, d4, d5⟩ : _ ∧ _ ∧ _ ∧ _ ∧ _ ∧ _ := ⟨hwb5.cellAt (i := 0) rfl, hwb5.cellAt (i := 1) rfl, hwb5.cellAt (i := 2) rfl, hwb5.cellAt (i := 3) rfl, hwb5.cellAt (i := 4) rfl, hwb5.cellAt (i := 5) rfl⟩
    obtain ⟨r0, r1, r2, r3, r4, r5⟩ : _ ∧ _ ∧ _ ∧ _ ∧ _ ∧ _ := ⟨hrb5.cellAt (i := 0) rfl, hrb5.cellAt (i := 1) rfl, hrb5.cellAt (i := 2) rfl, hrb5.cellAt (i := 3) rfl, hrb5.cellAt (i := 4) rfl, hrb5.cellAt (i := 5) rfl⟩
    obtain ⟨s0, s1, s2, s3, s4, s5⟩ : _ ∧ _ ∧ _ ∧ _ ∧ _ ∧ _ := ⟨hrb5.frozen 0, hrb5.frozen 1, hrb5.frozen 2, hrb5.frozen 3, hrb5.frozen 4, hrb5.frozen 5⟩
    have hrb6 := hid hrb5
    clear hI hblk5 hwb5 hrb5 hb35 hb5 hb4 hb03
    go_wp2_with fail
    obtain ⟨w6, hw6, hb6, hr6⟩ := store6 hrb6.out rfl (.int .i64 (D : Int)) (.int .i64 (M : Int)) (.int .i64 I) (.int .i64 (-1)) (.bool ((M : Int) == 0)) (.bool false)
    rw [hw6]
    clear hw6 r0 r1 r2 r3 r4 r5 s0 s1 s2 s3 s4 s5 c0 c1 c2 c3 c4 d0 d1 d2 d3 d4 d5
    obtain ⟨r0, r1, r2, r3, r4, r5⟩ : _ ∧ _ ∧ _ ∧ _ ∧ _ ∧ _ := ⟨hr6.cellAt (i := 0) rfl, hr6.cellAt (i := 1) rfl, hr6.cellAt (i := 2) rfl, hr6.cellAt (i := 3) rfl, hr6.cellAt (i := 4) rfl, hr6.cellAt (i := 5) rfl⟩
    have hfin := hid (hb05.trans (hb6.mono (by omega)))
    refine bodyPost_ret (v := .agg #[.int .i64 (D : Int), .int .i64 (M : Int), .int .i64 I, .int .i64 (-1), .bool ((M : Int) == 0), .bool false]) (by simp [results, Try.results52, go_sem, r0, r1, r2, r3, r4, r5]) rfl ?_
    exact ⟨by rw [hr1.out, hr2.out, HI.out], by rw [hgg.out]; exact hfin.out⟩
  · obtain ⟨k, rfl⟩ : ∃ k : Nat, I = k := ⟨I.toNat, by omega⟩
    obtain ⟨x, hx, hf⟩ := hP1.out k rfl
    have hr1 : Hid (partL wins (M : Int) = x.part) := hid (by unfold partL; rw [hf])
    have hr2 : Hid (startL wins (M : Int) = (x.at_ == (M : Int))) := hid (by unfold startL; rw [hf])
    have hinW := (HT.out.belowS (w' := w5) (by rw [hgg.out]; exact hb05)).inn.2.1
    simp only at hinW
    have hkn := (List.getElem?_eq_some_iff.1 hx).1
    obtain ⟨ad, x', rfl, had, hx', hc0, hc⟩ := hinW.at_ hkn
    rw [hx] at hx'
    injection hx' with hx'
    subst hx'
    have q0 := hc0 _ rfl
    have q1 := hc 0 _ rfl
    have q2 := hc 1 _ rfl
    have hI2 : decide ((0 : Int) ≤ (k : Int)) = true := decide_eq_true (by omega)
    clear hc hc0 hx hf hinW hI
    have d1 : w5.cell? ⟨g + 1 + 1, 1, none⟩ = some (.int .i64 (M : Int)) := hwb5.cellAt rfl
    have d2 : w5.cell? ⟨g + 1 + 1, 2, none⟩ = some (.int .i64 (k : Int)) := hwb5.cellAt rfl
    have hg5 := hwb5.lt
    obtain ⟨xp, xa, xl⟩ := x
    simp only at q0 q1 q2 hr1 hr2
    obtain ⟨w6, hw6, hb6, hxb⟩ : ∃ w6 : World, w5.alloc (.cells #[.int .i64 xp, .int .i64 xa, .int .i64 xl] 30) = w6 ∧ Below w5.heap.size w5 w6 ∧ Blk w6 w5.heap.size 30 [.int .i64 xp, .int .i64 xa, .int .i64 xl] := ⟨_, rfl, (Below.refl _ _).alloc (Nat.le_refl _) _, Blk.new _ _ _⟩
    have hwb6 := hwb5.belowS hb6
    have hrb6 := hrb5.belowS hb6
    have hb06 : Below g w w6 := hb05.trans (hb6.mono (by omega))
    generalize hxx : w5.heap.size = xb at *
    have hx3 : xb ≠ g + 1 + 1 := by omega
    have hx4 : g + 1 + 1 ≠ xb := by omega
    clear hblk5 hwb5 hrb5 hb35 hb5 hb4 hb03
    go_wp2_with fail
    clear hw6 hxx c0 c1 c2 c3 c4 d1 d2 q0 q1 q2
    have x0 : w6.cell? ⟨xb, 0, none⟩ = some (.int .i64 xp) := hxb.cellAt rfl
    have x1 : w6.cell? ⟨xb, 1, none⟩ = some (.int .i64 xa) := hxb.cellAt rfl
    have d1 : w6.cell? ⟨g + 1 + 1, 1, none⟩ = some (.int .i64 (M : Int)) := hwb6.cellAt rfl
    have d3 : w6.cell? ⟨g + 1 + 1, 3, none⟩ = some (.int .i64 (-1)) := hwb6.cellAt rfl
    have d5 : w6.cell? ⟨g + 1 + 1, 5, none⟩ = some (.bool false) := hwb6.cellAt rfl
    have f3 : w6.frozen? ⟨g + 1 + 1, 3, none⟩ = false := hwb6.frozen 3
    have f5 : w6.frozen? ⟨g + 1 + 1, 5, none⟩ = false := hwb6.frozen 5
    have v3 : ∀ (w' : World) u, (w'.setCell ⟨g + 1 + 1, 3, none⟩ u).cell? ⟨g + 1 + 1, 1, none⟩ = w'.cell? ⟨g + 1 + 1, 1, none⟩ := fun w' u => World.cell?_setCell_other w' _ _ u (by simp)
    have v5 : ∀ (w' : World) u, (w'.setCell ⟨g + 1 + 1, 5, none⟩ u).cell? ⟨g + 1 + 1, 1, none⟩ = w'.cell? ⟨g + 1 + 1, 1, none⟩ := fun w' u => World.cell?_setCell_other w' _ _ u (by simp)
    clear v2 v4
    have Hk := hid (And.intro hwb6 (And.intro hrb6 hxb))
    clear hwb6 hrb6 hxb
    go_region_held3 (fun w' => w'.cell? ⟨xb, 0, none⟩ = some (.int .i64 xp) ∧ w'.cell? ⟨xb, 1, none⟩ = some (.int .i64 xa) ∧ w'.cell? ⟨g + 1 + 1, 1, none⟩ = some (.int .i64 (M : Int)) ∧ w'.frozen? ⟨g + 1 + 1, 3, none⟩ = false ∧ w'.frozen? ⟨g + 1 + 1, 5, none⟩ = false) (go_keep) (fail)
    obtain ⟨w7, hw7, hb7, hwb7⟩ : ∃ w7 : World, ((w6.setCell ⟨g + 1 + 1, 3, none⟩ (.int .i64 xp)).setCell ⟨g + 1 + 1, 5, none⟩ (.bool (xa == (M : Int)))).drew = w7 ∧ Below (g + 1 + 1) w6 w7 ∧ Blk w7 (g + 1 + 1) 43 (whenC D M k xp ((M : Int) == 0) (xa == (M : Int))) :=
      ⟨_, rfl, (((Below.refl _ _).setCell (p := ⟨g + 1 + 1, 3, none⟩) (Nat.le_refl _) _).setCell (p := ⟨g + 1 + 1, 5, none⟩) (Nat.le_refl _) _).drew, ((Hk.out.1.set_ 3 _).set_ 5 _).drew⟩
    rw [hw7]
    clear hw7 x0 x1 d1 d3 d5 f3 f5 v3 v5
    have hrb7 : Blk w7 (g + 1) 43 _ := Hk.out.2.1.below hb7 (by omega)
    have hb07 : Below g w w7 := hb06.trans (hb7.mono (by omega))
    obtain ⟨d0, d1, d2, d3, d4, d5⟩ : _ ∧ _ ∧ _ ∧ _ ∧ _ ∧ _ := ⟨hwb7.cellAt (i := 0) rfl, hwb7.cellAt (i := 1) rfl, hwb7.cellAt (i := 2) rfl, hwb7.cellAt (i := 3) rfl, hwb7.cellAt (i := 4) rfl, hwb7.cellAt (i := 5) rfl⟩
    obtain ⟨r0, r1, r2, r3, r4, r5⟩ : _ ∧ _ ∧ _ ∧ _ ∧ _ ∧ _ := ⟨hrb7.cellAt (i := 0) rfl, hrb7.cellAt (i := 1) rfl, hrb7.cellAt (i := 2) rfl, hrb7.cellAt (i := 3) rfl, hrb7.cellAt (i := 4) rfl, hrb7.cellAt (i := 5) rfl⟩
    obtain ⟨s0, s1, s2, s3, s4, s5⟩ : _ ∧ _ ∧ _ ∧ _ ∧ _ ∧ _ := ⟨hrb7.frozen 0, hrb7.frozen 1, hrb7.frozen 2, hrb7.frozen 3, hrb7.frozen 4, hrb7.frozen 5⟩
    have hrb8 := hid hrb7
    clear hrb7 hwb7
    go_wp2_with fail
    obtain ⟨w8, hw8, hb8, hr8⟩ := store6 hrb8.out rfl (.int .i64 (D : Int)) (.int .i64 (M : Int)) (.int .i64 (k : Int)) (.int .i64 xp) (.bool ((M : Int) == 0)) (.bool (xa == (M : Int)))
    rw [hw8]
    clear hw8 r0 r1 r2 r3 r4 r5 s0 s1 s2 s3 s4 s5 d0 d1 d2 d3 d4 d5
    obtain ⟨r0, r1, r2, r3, r4, r5⟩ : _ ∧ _ ∧ _ ∧ _ ∧ _ ∧ _ := ⟨hr8.cellAt (i := 0) rfl, hr8.cellAt (i := 1) rfl, hr8.cellAt (i := 2) rfl, hr8.cellAt (i := 3) rfl, hr8.cellAt (i := 4) rfl, hr8.cellAt (i := 5) rfl⟩
    have hfin := hid (hb07.trans (hb8.mono (by omega)))
    refine bodyPost_ret (v := .agg #[.int .i64 (D : Int), .int .i64 (M : Int), .int .i64 (k : Int), .int .i64 xp, .bool ((M : Int) == 0), .bool (xa == (M : Int))]) (by simp [results, Try.results52, go_sem, r0, r1, r2, r3, r4, r5]) rfl ?_
    exact ⟨by rw [hr1.out, hr2.out, HI.out], by rw [hgg.out]; exact hfin.out⟩
end Go.Proofs.Ytbnodcenlggcnaa
