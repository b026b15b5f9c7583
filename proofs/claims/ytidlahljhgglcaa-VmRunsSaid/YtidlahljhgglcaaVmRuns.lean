/-
  Law 17: any image, on the channels of any table (VmRuns), walked.
-/
import Derived.Test.YtidlahljhgglcaaQVmRuns25
import Derived.Test.YtidlahljhgglcaaVmWakes
import Derived.Test.YtidlahljhgglcaaQVmRuns24
import Derived.Test.YtidlahljhgglcaaRef06R
import Derived.Test.YtidlahljhgglcaaQVmRuns28
import Derived.Test.YtidlahljhgglcaaQVmRuns5
import Derived.Deep.CutBlock
import Derived.StillTailTactics
namespace Go.Proofs.Ytidlahljhgglcaa
open Go.RowKit Go.ChangeShapes Go.WideShapes Go.ChangeAt

/-- An act of layer 17. -/
structure ActV where
  kind : Int
  chan : Int
  num : Int
def actVC (a : ActV) : List Value := [iV a.kind, iV a.chan, iV a.num]
theorem two_in (t : TabS) (a : TabA) (i : ImgS) (A : Option Addr) (c : Nat) (w : World) : ∃ w1 : World, (w.alloc (.cells #[.int .i64 t.frame, .slice a.A1 t.parts.length a.c1, .slice a.A2 t.wins.length a.c2, .slice a.A3 t.chans.length a.c3, .int .i64 t.trial] 38)).alloc (.cells #[.int .i64 i.part, .int .i64 i.ver, .int .i64 i.hard, .int .i64 i.mem, .int .i64 i.fuel, .int .i64 i.sends, .int .i64 i.recvs, .slice A i.code.length c] 24) = w1 ∧ Below w.heap.size w w1 ∧ Blk w1 w.heap.size 38 (tabC t a) ∧ Blk w1 (w.heap.size + 1) 24 (imgC i A c) ∧ w1.heap.size = w.heap.size + 2 :=
  ⟨_, rfl, bel_alloc ((Below.refl _ _).alloc (Nat.le_refl _) _) _, (Blk.new w _ (tabC t a)).alloc _, by
    have := Blk.new (w.alloc (.cells (tabC t a).toArray 38)) 24 (imgC i A c)
    rw [show (w.alloc (.cells (tabC t a).toArray 38)).heap.size = w.heap.size + 1 by simp] at this
    exact this, by simp⟩
theorem tick_ticksR (i : ImgS) (cs : List ChanS) (s : VmS) (ss : Nat → WayS) : (tickF i cs s ss).1.ticks = if s.fault = 0 then s.ticks + 1 else s.ticks := by
  unfold tickF
  by_cases h : s.fault = 0
  · rw [if_neg (by simp [h]), if_pos h]
  · rw [if_pos h, if_neg h]
theorem hasL_smallV {s : WayS} (h : WaySmall s) : (hasL s).length ≤ 100000 := by
  cases s with
  | last m is => show (lastL m is).length ≤ 100000; unfold lastL; split <;> simp
  | row l D => exact h
theorem imgs2_in (p : ImgS) (A1 : Option Addr) (c1 : Nat) (A2 : Option Addr) (c2 : Nat) (w : World) : ∃ w1 : World, (w.alloc (.cells #[.int .i64 p.part, .int .i64 p.ver, .int .i64 p.hard, .int .i64 p.mem, .int .i64 p.fuel, .int .i64 p.sends, .int .i64 p.recvs, .slice A1 p.code.length c1] 24)).alloc (.cells #[.int .i64 p.part, .int .i64 p.ver, .int .i64 p.hard, .int .i64 p.mem, .int .i64 p.fuel, .int .i64 p.sends, .int .i64 p.recvs, .slice A2 p.code.length c2] 24) = w1 ∧ Below w.heap.size w w1 ∧ Blk w1 w.heap.size 24 (imgC p A1 c1) ∧ Blk w1 (w.heap.size + 1) 24 (imgC p A2 c2) :=
  ⟨_, rfl, bel_alloc ((Below.refl _ _).alloc (Nat.le_refl _) _) _, (Blk.new w _ (imgC p A1 c1)).alloc _, by
    have := Blk.new (w.alloc (.cells (imgC p A1 c1).toArray 24)) 24 (imgC p A2 c2)
    rw [show (w.alloc (.cells (imgC p A1 c1).toArray 24)).heap.size = w.heap.size + 1 by simp] at this
    exact this⟩
set_option maxRecDepth 100000 in
set_option maxHeartbeats 4000000 in
theorem refSameEq_any (p : ImgS) (A1 : Option Addr) (c1 : Nat) (A2 : Option Addr) (c2 : Nat) (w : World) (h1 : Reads w w.heap.size 1 A1 p.code.length (p.code.map bV)) (h2 : Reads w w.heap.size 1 A2 p.code.length (p.code.map bV)) (l1 : p.code.length ≤ 100000000) :
    Calls Try.prog 23 #[imgV p A1 c1, imgV p A2 c2] w fun e w' => e = .returned (.bool true) ∧ Below w.heap.size w w' := by
  obtain ⟨w1, hw1, hb1, hp1, hq1⟩ := imgs2_in p A1 c1 A2 c2 w
  have i1 := hid (same_b A1 A2 p.code.length p.code.length c1 c2 p.code p.code w1 (h1.belowS hb1) (h2.belowS hb1) (by omega) (by omega))
  simp only [decide_true] at i1
  obtain ⟨a0, a1, a2, a3, a4, a5, a6, a7⟩ := img_cells hp1
  obtain ⟨d0, d1, d2, d3, d4, d5, d6, d7⟩ := img_cells hq1
  unfold imgV
  clear h1 h2 l1 hp1 hq1
  go_enter Try.func23, Try.ntmps23
  go_wp2_with fail
  refine i1.out.mono ?_
  rintro e w2 ⟨rfl, hb2⟩
  go_wp2_with fail
  go_ret
  exact ⟨rfl, bel_trans hb1 hb2⟩
set_option maxRecDepth 100000 in
set_option maxHeartbeats 4000000 in
theorem vmRuns_any (w : World) (t : TabS) (a : TabA) (hT : TabCame w t a) (i : ImgS) (A : Option Addr) (c : Nat) (hi : ImgCame w i A c) (AL : Option Addr) (n cL : Nat) (ls : List ActV) (hrd : RdS w w.heap.size 3 AL n actVC ls) (hnc : n ≤ cL) (hcm : cL ≤ maxLen) :
    Calls Try.prog 7 #[.agg #[.int .i64 t.frame, .slice a.A1 t.parts.length a.c1, .slice a.A2 t.wins.length a.c2, .slice a.A3 t.chans.length a.c3, .int .i64 t.trial], imgV i A c, .slice AL n cL] w fun e w' => e = .returned (.bool true) ∧ Below w.heap.size w w' := by
  have hcl : i.code.length ≤ 9223372036854775807 := by have := hi.hc; have := hi.hm; unfold maxLen at this; omega
  obtain ⟨w1, hw1, hb1, hX1, hY1, hs1⟩ := two_in t a i A c w
  have HC := hid hT
  have HRD := hid hi.rd
  have HAL := hid hrd
  have hl1 := hT.l3
  unfold maxLen at hcm
  have HB1 := hid hb1
  have HX1 := hid hX1
  have HY1 := hid hY1
  clear hT hi hrd hb1 hX1 hY1 hs1
  unfold imgV
  go_enter Try.func7, Try.ntmps7
  go_wp2_with fail
  refine (wakesV_any _).mono ?_
  rintro e w2 ⟨rfl, hb2⟩
  have HB2 := hid (bel_trans HB1.out hb2)
  have HX2 := hid (HX1.out.belowS hb2)
  have HY2 := hid (HY1.out.belowS hb2)
  obtain ⟨c0, c1, c2, c3, c4⟩ := tab_cells HX2.out
  obtain ⟨d0, d1, d2, d3, d4, d5, d6, d7⟩ := img_cells HY2.out
  clear hb2 HX1 HY1 HB1 hw1
  by_cases h500 : 500 < i.code.length
  · have y0 : decide ((500 : Int) < (i.code.length : Int)) = true := decide_eq_true (by omega)
    have y0' : decide (500 < i.code.length) = true := decide_eq_true h500
    go_wp2_with fail
    go_ret
    exact ⟨rfl, HB2.out⟩
  have y0 : decide ((500 : Int) < (i.code.length : Int)) = false := decide_eq_false (by omega)
  have y0' : decide (500 < i.code.length) = false := decide_eq_false h500
  by_cases h60 : 60 < n
  · have y1 : decide ((60 : Int) < (n : Int)) = true := decide_eq_true (by omega)
    have y1' : decide (60 < n) = true := decide_eq_true h60
    go_wp2_with fail
    go_ret
    exact ⟨rfl, HB2.out⟩
  have y1 : decide ((60 : Int) < (n : Int)) = false := decide_eq_false (by omega)
  have y1' : decide (60 < n) = false := decide_eq_false h60
  have hn60 : n ≤ 60 := by omega
  have hc5 : i.code.length ≤ 500 := by omega
  have i1 := hid (refRight_came t a HC.out HB2.out)
  by_cases hr : rightB t = true
  case neg =>
    have hr' : rightB t = false := by simpa using hr
    rw [hr'] at i1
    clear hr hr'
    go_wp2_with fail
    refine i1.out.mono ?_
    rintro e w3 ⟨rfl, hb3⟩
    go_wp2_with fail
    go_ret
    exact ⟨rfl, bel_trans HB2.out hb3⟩
  rw [hr] at i1
  have HRT := hid hr
  have HR := hid ((rightB_iff t).1 hr)
  clear hr
  go_wp2_with fail
  refine i1.out.mono ?_
  rintro e w3 ⟨rfl, hb3⟩
  have HB3 := hid (bel_trans HB2.out hb3)
  have HX3 := hid (HX2.out.belowS hb3)
  have HY3 := hid (HY2.out.belowS hb3)
  clear c0 c1 c2 c3 c4 d0 d1 d2 d3 d4 d5 d6 d7 hb3 HX2 HY2 HB2 i1 y0 y0' y1 y1' h500 h60
  obtain ⟨c0, c1, c2, c3, c4⟩ := tab_cells HX3.out
  obtain ⟨d0, d1, d2, d3, d4, d5, d6, d7⟩ := img_cells HY3.out
  by_cases hR : rightI i = true
  case neg =>
    have hR' : rightI i = false := by simpa using hR
    have i1 := hid (fun w => vmNew_bad i A c w hcl hR')
    have i2 := hid (fun w => refRightI_any i A c w hcl)
    rw [hR'] at i2
    unfold imgV at i1 i2
    clear hR hR'
    go_wp2_with fail
    refine (i1.out _).mono ?_
    rintro e w4 ⟨rfl, hb4⟩
    have HB4 := hid (bel_trans HB3.out hb4)
    have HY4 := hid (HY3.out.belowS hb4)
    clear c0 c1 c2 c3 c4 d0 d1 d2 d3 d4 d5 d6 d7 hb4 HY3 i1
    obtain ⟨d0, d1, d2, d3, d4, d5, d6, d7⟩ := img_cells HY4.out
    go_wp2_with fail
    refine (i2.out _).mono ?_
    rintro e w5 ⟨rfl, hb5⟩
    go_wp2_with fail
    go_ret
    exact ⟨rfl, bel_trans HB4.out hb5⟩
  have HI := hid ((rightI_iff i).1 hR)
  have i1 := hid (fun w (h : Reads w w.heap.size 1 A i.code.length (i.code.map bV)) => vmNew_ok i A c w h hR)
  have i2 := hid (fun w => refRightI_any i A c w hcl)
  rw [hR] at i2
  unfold imgV at i1 i2
  clear hR
  go_wp2_with fail
  refine (i1.out _ (HRD.out.belowS HB3.out)).mono ?_
  rintro e w4 ⟨F1, g, rfl, hM4, hb4, hF1⟩
  have HA4 := hid ((AllS.nil (Below.refl w3.heap.size w3)).push hb4 (C := vmC g i (freshS i.mem.toNat)) hM4 hF1)
  have HB4 := hid (bel_trans HB3.out hb4)
  have HX4 := hid (HX3.out.belowS hb4)
  have HY4 := hid (HY3.out.belowS hb4)
  have HB34 := hid hb4
  clear c0 c1 c2 c3 c4 d0 d1 d2 d3 d4 d5 d6 d7 hb4 i1 hM4 hF1
  obtain ⟨c0, c1, c2, c3, c4⟩ := tab_cells HX4.out
  obtain ⟨d0, d1, d2, d3, d4, d5, d6, d7⟩ := img_cells HY4.out
  go_wp2_with fail
  refine (i2.out _).mono ?_
  rintro e w5 ⟨rfl, hb5⟩
  have HA5 := hid (HA4.out.belowS hb5)
  have HB5 := hid (bel_trans HB4.out hb5)
  have HX5 := hid (HX4.out.belowS hb5)
  have HY5 := hid (HY4.out.belowS hb5)
  clear c0 c1 c2 c3 c4 d0 d1 d2 d3 d4 d5 d6 d7 hb5 i2 HA4 HX4 HY4 HB4
  obtain ⟨c0, c1, c2, c3, c4⟩ := tab_cells HX5.out
  obtain ⟨d0, d1, d2, d3, d4, d5, d6, d7⟩ := img_cells HY5.out
  have iI := hid (fun W (hb : Below w5.heap.size w5 W) => (HA5.out.belowS hb).imageA HI.out)
  go_wp2_with fail
  have iE := hid (fun W A1 k1 A2 k2 (h1 : Reads W W.heap.size 1 A1 i.code.length (i.code.map bV)) (h2 : Reads W W.heap.size 1 A2 i.code.length (i.code.map bV)) => refSameEq_any i A1 k1 A2 k2 W h1 h2 (by omega))
  have HRD5 := hid (HRD.out.belowS HB5.out)
  unfold imgV at iI iE
  clear c0 c1 c2 c3 c4
  go_region_held3 (fun w' => w'.cell? ⟨w.heap.size + 1, 0, none⟩ = some (.int .i64 i.part) ∧ w'.cell? ⟨w.heap.size + 1, 1, none⟩ = some (.int .i64 i.ver) ∧ w'.cell? ⟨w.heap.size + 1, 2, none⟩ = some (.int .i64 i.hard) ∧ w'.cell? ⟨w.heap.size + 1, 3, none⟩ = some (.int .i64 i.mem) ∧ w'.cell? ⟨w.heap.size + 1, 4, none⟩ = some (.int .i64 i.fuel) ∧ w'.cell? ⟨w.heap.size + 1, 5, none⟩ = some (.int .i64 i.sends) ∧ w'.cell? ⟨w.heap.size + 1, 6, none⟩ = some (.int .i64 i.recvs) ∧ w'.cell? ⟨w.heap.size + 1, 7, none⟩ = some (.slice A i.code.length c)) (go_keep) (first
    | (go_at_call 20; refine (iI.out _ ?_).mono ?_; (first | exact Below.refl _ _ | exact bel_drewV (Below.refl _ _)); rintro e w6 ⟨A6, k6, rfl, ho6, hb6⟩; have hb56 : Below w5.heap.size w5 w6 := (by first | exact hb6 | exact bel_trans (bel_drewV (Below.refl w5.heap.size w5)) hb6); have hy6 := HY5.out.belowS hb56; obtain ⟨z0, z1, z2, z3, z4, z5, z6, z7⟩ := img_cells hy6; have HR6 := hid (Reads.of_own ho6); have HB56 := hid hb56; clear ho6 hb6 hb56 hy6)
    | (go_at_call 23; refine (iE.out _ _ _ _ _ ?_ ?_).mono ?_; (first | exact HR6.out | exact HR6.out.drew); (first | exact HRD5.out.belowS HB56.out | exact (HRD5.out.belowS HB56.out).drew); rintro e w7 ⟨rfl, hb7⟩; have hb57 : Below w5.heap.size w5 w7 := (by first | exact bel_trans HB56.out hb7 | exact bel_trans (bel_drewV HB56.out) hb7); have hy7 := HY5.out.belowS hb57; obtain ⟨y0, y1, y2, y3, y4, y5, y6, y7⟩ := img_cells hy7; have HY7 := hid hy7; have HB57 := hid hb57; clear hb7 hb57 hy7))
  have HB7 := hid (bel_trans HB5.out HB57.out)
  have HX7 := hid (HX5.out.belowS HB57.out)
  have HA7 := hid (HA5.out.belowS HB57.out)
  clear z0 z1 z2 z3 z4 z5 z6 z7 y0 y1 y2 y3 y4 y5 y6 y7 d0 d1 d2 d3 d4 d5 d6 d7 iI iE HR6 HB56 HX5 HY5 HA5 HRD5 HB5
  obtain ⟨c0, c1, c2, c3, c4⟩ := tab_cells HX7.out
  have i3 := hid (New_ok t a w7 (came_ok HC.out HB7.out HRT.out) HRT.out)
  go_wp2_with fail
  refine i3.out.mono ?_
  rintro e w8 ⟨F2, gs, rfl, hS8, hb8, hF2⟩
  have HA8 := hid (HA7.out.push hb8 (C := setC gs t.chans (zeroW t.chans)) hS8 hF2)
  have HB8 := hid (bel_trans HB7.out hb8)
  have HX8 := hid (HX7.out.belowS hb8)
  have HY8 := hid (HY7.out.belowS hb8)
  clear c0 c1 c2 c3 c4 i3 hS8 hb8 hF2 HX7 HY7 HA7 HB7 HB57
  obtain ⟨c0, c1, c2, c3, c4⟩ := tab_cells HX8.out
  obtain ⟨d0, d1, d2, d3, d4, d5, d6, d7⟩ := img_cells HY8.out
  have iN := hid (fun W (hb : Below w8.heap.size w8 W) => rvNew_any i A c W (HRD.out.belowS (bel_trans HB8.out hb)) HI.out)
  have iR := hid (fun W (hb : Below w8.heap.size w8 W) => refNew t a W (came_ok HC.out (bel_trans HB8.out hb) HRT.out))
  unfold imgV at iN
  go_wp2_with fail
  go_region_held3 (fun w' => w'.cell? ⟨w.heap.size + 1, 0, none⟩ = some (.int .i64 i.part) ∧ w'.cell? ⟨w.heap.size + 1, 1, none⟩ = some (.int .i64 i.ver) ∧ w'.cell? ⟨w.heap.size + 1, 2, none⟩ = some (.int .i64 i.hard) ∧ w'.cell? ⟨w.heap.size + 1, 3, none⟩ = some (.int .i64 i.mem) ∧ w'.cell? ⟨w.heap.size + 1, 4, none⟩ = some (.int .i64 i.fuel) ∧ w'.cell? ⟨w.heap.size + 1, 5, none⟩ = some (.int .i64 i.sends) ∧ w'.cell? ⟨w.heap.size + 1, 6, none⟩ = some (.int .i64 i.recvs) ∧ w'.cell? ⟨w.heap.size + 1, 7, none⟩ = some (.slice A i.code.length c) ∧ w'.cell? ⟨w.heap.size, 0, none⟩ = some (.int .i64 t.frame) ∧ w'.cell? ⟨w.heap.size, 1, none⟩ = some (.slice a.A1 t.parts.length a.c1) ∧ w'.cell? ⟨w.heap.size, 2, none⟩ = some (.slice a.A2 t.wins.length a.c2) ∧ w'.cell? ⟨w.heap.size, 3, none⟩ = some (.slice a.A3 t.chans.length a.c3) ∧ w'.cell? ⟨w.heap.size, 4, none⟩ = some (.int .i64 t.trial)) (go_keep) (first
    | (go_at_call 24; refine (iN.out _ ?_).mono ?_; (first | exact Below.refl _ _ | exact bel_drewV (Below.refl _ _)); rintro e w9 ⟨F3, gr, rfl, hM9, hb9, hF3⟩; have hb89 : Below w8.heap.size w8 w9 := (by first | exact hb9 | exact bel_trans (bel_drewV (Below.refl w8.heap.size w8)) hb9); have hA9 : AllS w3 [rvC gr i (freshS i.mem.toNat), setC gs t.chans (zeroW t.chans), vmC g i (freshS i.mem.toNat)] w9 := (by first | exact HA8.out.push hb9 (C := rvC gr i (freshS i.mem.toNat)) hM9 hF3 | exact (HA8.out.belowS (bel_drewV (Below.refl w8.heap.size w8))).push hb9 (C := rvC gr i (freshS i.mem.toNat)) hM9 hF3); obtain ⟨z0, z1, z2, z3, z4, z5, z6, z7⟩ := img_cells (HY8.out.belowS hb89); obtain ⟨x0, x1, x2, x3, x4⟩ := tab_cells (HX8.out.belowS hb89); have HA9 := hid hA9; have HB89 := hid hb89; clear hM9 hb9 hF3 hb89 hA9)
    | (go_at_call 25; refine (iR.out _ ?_).mono ?_; (first | exact HB89.out | exact bel_drewV HB89.out); rintro e w10 ⟨F4, gR, rfl, hM10, hb10, hF4⟩; have hb810 : Below w8.heap.size w8 w10 := (by first | exact bel_trans HB89.out hb10 | exact bel_trans (bel_drewV HB89.out) hb10); have hA10 : AllS w3 [refC gR t.chans (fun _ => []), rvC gr i (freshS i.mem.toNat), setC gs t.chans (zeroW t.chans), vmC g i (freshS i.mem.toNat)] w10 := (by first | exact HA9.out.push hb10 (C := refC gR t.chans (fun _ => [])) hM10 hF4 | exact (HA9.out.belowS (bel_drewV (Below.refl w9.heap.size w9))).push hb10 (C := refC gR t.chans (fun _ => [])) hM10 hF4); obtain ⟨p0, p1, p2, p3, p4, p5, p6, p7⟩ := img_cells (HY8.out.belowS hb810); obtain ⟨q0, q1, q2, q3, q4⟩ := tab_cells (HX8.out.belowS hb810); have HA10 := hid hA10; have HX10 := hid (HX8.out.belowS hb810); have HY10 := hid (HY8.out.belowS hb810); have HB10 := hid (bel_trans HB8.out hb810); clear hM10 hb10 hF4 hb810 hA10))
  have hT0 : AllS w3 [vmC g i (freshS i.mem.toNat), setC gs t.chans (zeroW t.chans), rvC gr i (freshS i.mem.toNat), refC gR t.chans (hL (zeroW t.chans))] w10 := by
    rw [hL_zero]
    exact HA10.out.perm (List.reverse_perm _).symm
  have hD4 : ∀ k, k < t.chans.length → depthAt t.chans k ≤ 4 := fun k hk => by
    obtain ⟨x, hx⟩ : ∃ x, t.chans[k]? = some x := ⟨_, List.getElem?_eq_getElem hk⟩
    rw [depthAt_get hx]
    exact (HR.out.cs x (List.mem_of_getElem? hx)).2.2.2.2.2.2
  have HT0 := hid hT0
  have HK0 := hid (kZero t.chans fun x hx => (HR.out.cs x hx).2.2.2.2.2.1)
  have HF0 := hid (fineFresh HI.out)
  have HD4 := hid hD4
  have hc4 := HR.out.c4
  have HB3x := hid HB3.out
  clear hT0 hD4 HA10 HA9 HA8 HB89 iN iR c0 c1 c2 c3 c4 d0 d1 d2 d3 d4 d5 d6 d7 z0 z1 z2 z3 z4 z5 z6 z7 x0 x1 x2 x3 x4 p0 p1 p2 p3 p4 p5 p6 p7 q0 q1 q2 q3 q4 HB8 HX8 HY8
  have HX3 := hid HX3.out
  go_wp2_with fail
  go_loopw [11, 14, 15, 16, 17, 68] (fun v11 v14 v15 v16 v17 v68 wr => ∃ (k gr : Nat) (s : VmS) (ss : Nat → WayS), k ≤ n ∧ v68 = .int .i64 (k : Int) ∧ v11 = .pointer (some ⟨gr, 0, none⟩) ∧ AllS w3 [vmC g i s, setC gs t.chans ss, rvC gr i s, refC gR t.chans (hL ss)] wr ∧ FineS i s ∧ KAll t.chans ss ∧ 0 ≤ s.ticks ∧ s.ticks ≤ k) (fun _ _ _ _ _ v68 _ => n - (intOf v68).toNat)
  case atStart => exact ⟨0, _, _, _, by omega, rfl, rfl, HT0.out, HF0.out, HK0.out, by simp [freshS], by simp [freshS]⟩
  case round =>
    obtain ⟨k, gx, s, ss, hk, rfl, rfl, hA, hF, hK, ht0, ht1⟩ := hrel
    clear HT0 HK0 HF0
    obtain ⟨wo, rfl⟩ : ∃ wo : World, wo = wr := ⟨_, rfl⟩
    have HBo := hid (bel_trans HB3x.out hA.bel)
    by_cases hkn : k < n
    case neg =>
      obtain rfl : k = n := by omega
      clear hA hF hK
      go_wp2_with fail
      go_ret
      exact ⟨rfl, HBo.out⟩
    have y0 : decide ((k : Int) < (n : Int)) = true := decide_eq_true (by omega)
    have y0' : decide (k < n) = true := decide_eq_true hkn
    obtain ⟨ad, x, rfl, had, hx, hq0, hq⟩ := (HAL.out.below HBo.out).at_ hkn
    have u0 := hq0 _ rfl
    have u1 := hq 0 _ rfl
    have u2 := hq 1 _ rfl
    clear hq hq0 hx
    obtain ⟨kind, chan, num⟩ := x
    simp only at u0 u1 u2
    have z0 : (0 : Int) ≤ (k : Int) := Int.natCast_nonneg _
    have z1 : (k : Int) < (n : Int) := by omega
    have HA := hid (hA.made (T := 63) (xs := [.int .i64 kind, .int .i64 chan, .int .i64 num]))
    have HF := hid hF
    have HK := hid hK
    clear hA hF hK
    have hKin : Hid (kind = 0 ∨ kind = 1 ∨ kind = 2 ∨ (kind ≠ 0 ∧ kind ≠ 1 ∧ kind ≠ 2)) := hid (by omega)
    go_upto_block 2 with fail
    obtain ⟨wb, hwb, HBb, hAb⟩ : ∃ W, wo.alloc (.cells #[.int .i64 kind, .int .i64 chan, .int .i64 num] 63) = W ∧ Hid (Below wo.heap.size wo W) ∧ Hid (AllS w3 [blkC wo.heap.size 63 [.int .i64 kind, .int .i64 chan, .int .i64 num], vmC g i s, setC gs t.chans ss, rvC gx i s, refC gR t.chans (hL ss)] W) := ⟨_, rfl, hid (below_alloc1 wo _), HA⟩
    rw [hwb]
    have v0 : wb.cell? ⟨wo.heap.size, 0, none⟩ = some (.int .i64 kind) := hAb.out.blk.cellAt rfl
    have v1 : wb.cell? ⟨wo.heap.size, 1, none⟩ = some (.int .i64 chan) := hAb.out.blk.cellAt rfl
    have v2 : wb.cell? ⟨wo.heap.size, 2, none⟩ = some (.int .i64 num) := hAb.out.blk.cellAt rfl
    clear hwb u0 u1 u2 HA
    go_cut [11] (fun s11 wz => ∃ (gr : Nat) (s' : VmS) (ss' : Nat → WayS), s11 = .pointer (some ⟨gr, 0, none⟩) ∧ AllS w3 [vmC g i s', setC gs t.chans ss', rvC gr i s', refC gR t.chans (hL ss')] wz ∧ FineS i s' ∧ KAll t.chans ss' ∧ 0 ≤ s'.ticks ∧ s'.ticks ≤ (k : Int) + 1)
    case first =>
      rcases hKin.out with hk0 | hk0 | hk0 | ⟨hk0, hk1, hk2⟩
      · subst hk0
        have htt := tick_ticksR i t.chans s ss
        have hkk := tickF_keeps (cs := t.chans) HF.out HK.out
        have HH := hid (hAb.out.perm (List.perm_append_comm (l₁ := [blkC wo.heap.size 63 [.int .i64 0, .int .i64 chan, .int .i64 num]]) (l₂ := [vmC g i s, setC gs t.chans ss, rvC gx i s, refC gR t.chans (hL ss)])))
        have i5 := hid (HH.out.tickA HI.out HF.out HK.out HD4.out ht0 (by omega))
        have i6 := hid (fun W l (h : AllS w3 (rvC gx i s :: refC gR t.chans (hL ss) :: l) W) => h.tickR HI.out HF.out HK.out HD4.out ht0 (by omega))
        obtain ⟨r, hr⟩ : ∃ r, tickF i t.chans s ss = r := ⟨_, rfl⟩
        rw [hr] at i5 htt hkk
        simp only [hr] at i6
        obtain ⟨s', ss', sent, cf⟩ := r
        simp only at i5 i6 htt hkk
        have hsl : sent.length ≤ 1000000 := by have := HI.out.2.2.2.2.1; have := hkk.2.2.2; omega
        have htr : Hid (0 ≤ s'.ticks ∧ s'.ticks ≤ (k : Int) + 1) := hid (by rw [htt]; split <;> omega)
        have HF' := hid hkk.1
        have HK' := hid hkk.2.1
        obtain ⟨N, hN⟩ : ∃ N, sent.length = N := ⟨_, rfl⟩
        rw [hN] at i5 i6 hsl
        unfold outV at i5 i6
        clear hr htt hkk hN HH
        go_wp2_with fail
        refine i5.out.mono ?_
        rintro e w11 ⟨A8, c8, rfl, hA11⟩
        have i7 := hid (i6.out w11 _ (hA11.perm (List.perm_append_comm (l₁ := [vmC g i s', setC gs t.chans ss', rowC 51 2 A8 N c8 (sent.flatMap sentC)]) (l₂ := [rvC gx i s, refC gR t.chans (hL ss), blkC wo.heap.size 63 [.int .i64 0, .int .i64 chan, .int .i64 num]]))))
        clear hA11 i5 i6 v0 v1 v2
        go_wp2_with fail
        refine i7.out.mono ?_
        rintro e w12 ⟨A9, c9, rfl, hA12⟩
        have hP := hA12.perm (List.perm_append_comm (l₁ := [rvC gx i s', refC gR t.chans (hL ss'), rowC 51 2 A9 N c9 (sent.flatMap sentC), blkC wo.heap.size 63 [.int .i64 0, .int .i64 chan, .int .i64 num]]) (l₂ := [vmC g i s', setC gs t.chans ss', rowC 51 2 A8 N c8 (sent.flatMap sentC)]))
        have HR9 := hid (rdsSent hA12.drop.drop.rowReads)
        have HR8 := hid (rdsSent hP.drop.drop.rowReads)
        have HA12 := hid (hP.sub (l' := [vmC g i s', setC gs t.chans ss', rvC gx i s', refC gR t.chans (hL ss')]) (.cons_cons _ (.cons_cons _ (.cons _ (.cons_cons _ (.cons_cons _ (.cons _ (.cons _ .slnil))))))))
        clear hA12 hP i7
        go_wp2_with fail
        obtain ⟨w13, hw13, hb13⟩ : ∃ W, (w12.alloc (.cells #[.slice A8 N c8, .bool cf] 46)).alloc (.cells #[.slice A9 N c9, .bool cf] 64) = W ∧ Below w12.heap.size w12 W := ⟨_, rfl, bel_alloc (below_alloc1 w12 _) _⟩
        rw [hw13]
        clear hw13
        refine (sameSent_any sent A8 A9 N c8 c9 w13 (HR8.out.belowS hb13) (HR9.out.belowS hb13) hsl).mono ?_
        rintro e w14 ⟨rfl, hb14⟩
        have HA14 := hid (HA12.out.belowS (bel_trans hb13 hb14))
        clear hb13 hb14
        go_wp2_with fail
        go_meet
        exact ⟨gx, s', ss', rfl, HA14.out, HF'.out, HK'.out, htr.out.1, htr.out.2⟩
      · subst hk0
        by_cases hc0 : 0 ≤ chan ∧ chan < t.chans.length
        case neg =>
          have HX := hid (HX3.out.belowS hAb.out.bel)
          have c3 : wb.cell? ⟨w.heap.size, 3, none⟩ = some (.slice a.A3 t.chans.length a.c3) := HX.out.cellAt rfl
          by_cases hcn : 0 ≤ chan
          case' pos =>
            have y2 : decide (0 ≤ chan) = true := decide_eq_true hcn
            have y3 : decide (chan < (t.chans.length : Int)) = false := decide_eq_false (by omega)
          case' neg => have y2 : decide (0 ≤ chan) = false := decide_eq_false hcn
          all_goals
            clear hc0 hcn
            go_wp2_with fail
            go_meet
            exact ⟨gx, s, ss, rfl, hAb.out.drop, HF.out, HK.out, ht0, by omega⟩
        obtain ⟨q, rfl⟩ : ∃ q : Nat, chan = (q : Int) := ⟨chan.toNat, by omega⟩
        have hq : q < t.chans.length := by omega
        have HX := hid (HX3.out.belowS hAb.out.bel)
        have c3 : wb.cell? ⟨w.heap.size, 3, none⟩ = some (.slice a.A3 t.chans.length a.c3) := HX.out.cellAt rfl
        obtain ⟨ad3, x, hA3, had3, hx3, e0, _⟩ := (HC.out.inn.2.2.belowS (bel_trans HB3x.out hAb.out.bel)).at_ hq
        have e0' := e0 _ rfl
        have y2 : decide ((0 : Int) ≤ (q : Int)) = true := decide_eq_true (by omega)
        have y2' : decide (0 ≤ q) = true := decide_eq_true (by omega)
        have y3 : decide ((q : Int) < (t.chans.length : Int)) = true := decide_eq_true (by omega)
        have y3' : decide (q < t.chans.length) = true := decide_eq_true hq
        have z2 : (0 : Int) ≤ (q : Int) := Int.natCast_nonneg _
        have z3 : (q : Int) < (t.chans.length : Int) := by omega
        have HH := hid ((hAb.out.perm (List.perm_append_comm (l₁ := [blkC wo.heap.size 63 [.int .i64 1, .int .i64 (q : Int), .int .i64 num], vmC g i s]) (l₂ := [setC gs t.chans ss, rvC gx i s, refC gR t.chans (hL ss)]))))
        have i5 := hid (fun W (hb : Below wb.heap.size wb W) => (HH.out.belowS hb).sendA HK.out HD4.out x.src (q : Int) num)
        have i6 := hid (fun W l (h : AllS w3 (refC gR t.chans (hL ss) :: l) W) => h.sendR HK.out HD4.out x.src (q : Int) num)
        have HK' := hid (HK.out.sendP x.src (q : Int) num)
        obtain ⟨r, hr⟩ : ∃ r, sendP t.chans ss x.src (q : Int) num = r := ⟨_, rfl⟩
        rw [hr] at HK'
        simp only [hr] at i5 i6
        obtain ⟨rb, rE, ss'⟩ := r
        simp only at i5 i6 HK'
        unfold toldV at i6
        rw [hA3] at c3
        have HA3 := hid hA3
        have HXE := hid hx3
        clear hr hx3 e0 hc0 hA3 HH had3
        go_wp2_with fail
        go_still_tail 12, (by kernel_rfl)
        go_wp2_with fail
        refine (i5.out _ (bel_drewV (Below.refl _ _))).mono ?_
        rintro e w11 ⟨rfl, hA11⟩
        have hP := hA11.perm (List.perm_append_comm (l₁ := [setC gs t.chans ss', rvC gx i s]) (l₂ := [refC gR t.chans (hL ss), blkC wo.heap.size 63 [.int .i64 1, .int .i64 (q : Int), .int .i64 num], vmC g i s]))
        have hbk := hP.drop.blk
        have c3 : w11.cell? ⟨w.heap.size, 3, none⟩ = some (.slice a.A3 t.chans.length a.c3) := (HX3.out.belowS hA11.bel).cellAt rfl
        rw [HA3.out] at c3
        obtain ⟨ad4, x4, hA4, had4, hx4, e4, _⟩ := (HC.out.inn.2.2.belowS (bel_trans HB3x.out hA11.bel)).at_ hq
        clear v0 v1 v2 i5 e0'
        have v0 : w11.cell? ⟨wo.heap.size, 0, none⟩ = some (.int .i64 1) := hbk.cellAt rfl
        have v1 : w11.cell? ⟨wo.heap.size, 1, none⟩ = some (.int .i64 (q : Int)) := hbk.cellAt rfl
        have v2 : w11.cell? ⟨wo.heap.size, 2, none⟩ = some (.int .i64 num) := hbk.cellAt rfl
        rw [HA3.out] at hA4
        injection hA4 with hA4
        subst hA4
        rw [HXE.out] at hx4
        injection hx4 with hx4
        subst hx4
        have e4' := e4 _ rfl
        have i7 := hid (fun W (hb : Below w11.heap.size w11 W) => i6.out W _ (hP.belowS hb))
        clear e4 hbk hP hA11 had4 i6
        go_wp2_with fail
        go_still_tail 12, (by kernel_rfl)
        go_wp2_with fail
        refine (i7.out _ (bel_drewV (Below.refl _ _))).mono ?_
        rintro e w12 ⟨rfl, hA12⟩
        have HA12 := hid ((hA12.perm (List.perm_append_comm (l₁ := [refC gR t.chans (hL ss'), blkC wo.heap.size 63 [.int .i64 1, .int .i64 (q : Int), .int .i64 num]]) (l₂ := [vmC g i s, setC gs t.chans ss', rvC gx i s]))).sub (l' := [vmC g i s, setC gs t.chans ss', rvC gx i s, refC gR t.chans (hL ss')]) (.cons_cons _ (.cons_cons _ (.cons_cons _ (.cons_cons _ (.cons _ .slnil))))))
        clear hA12 i7 c3 e4' v0 v1 v2 y2 y2' y3 y3' z2 z3
        go_wp2_with fail
        go_meet
        exact ⟨gx, s, ss', rfl, HA12.out, HF.out, HK'.out, ht0, by omega⟩
      · subst hk0
        have HH := hid (hAb.out.perm (List.perm_append_comm (l₁ := [blkC wo.heap.size 63 [.int .i64 2, .int .i64 chan, .int .i64 num]]) (l₂ := [vmC g i s, setC gs t.chans ss, rvC gx i s, refC gR t.chans (hL ss)])))
        have i5 := hid (HH.out.resetA HI.out)
        have iN := hid (fun W (hb : Below w.heap.size w W) => rvNew_any i A c W (HRD.out.belowS hb) HI.out)
        unfold imgV at iN
        clear HH
        go_wp2_with fail
        refine i5.out.mono ?_
        rintro e w11 ⟨rfl, hA11⟩
        have HB11 := hid (bel_trans HB3x.out hA11.bel)
        obtain ⟨d0, d1, d2, d3, d4, d5, d6, d7⟩ := img_cells (HY3.out.belowS hA11.bel)
        have HA11 := hid hA11
        clear hA11 i5 v0 v1 v2
        go_wp2_with fail
        refine (iN.out _ HB11.out).mono ?_
        rintro e w12 ⟨F5, gr', rfl, hM, hb12, hF5⟩
        have hP := (HA11.out.push hb12 (C := rvC gr' i (freshS i.mem.toNat)) hM hF5).sub (l' := [rvC gr' i (freshS i.mem.toNat), vmC g i (freshS i.mem.toNat), setC gs t.chans ss, refC gR t.chans (hL ss)]) (.cons_cons _ (.cons_cons _ (.cons_cons _ (.cons _ (.cons_cons _ (.cons _ .slnil))))))
        have HA12 := hid (hP.perm (List.Perm.append_right [refC gR t.chans (hL ss)] (List.perm_append_comm (l₁ := [rvC gr' i (freshS i.mem.toNat)]) (l₂ := [vmC g i (freshS i.mem.toNat), setC gs t.chans ss]))))
        clear hM hb12 hF5 hP iN d0 d1 d2 d3 d4 d5 d6 d7
        go_wp2_with fail
        go_meet
        exact ⟨gr', freshS i.mem.toNat, ss, rfl, HA12.out, fineFresh HI.out, HK.out, by simp [freshS], by simp [freshS]; omega⟩
      · have y2 : (kind == 0) = false := by simpa using hk0
        have y3 : (kind == 1) = false := by simpa using hk1
        have y4 : (kind == 2) = false := by simpa using hk2
        clear hk0 hk1 hk2
        go_wp2_with fail
        go_meet
        exact ⟨gx, s, ss, rfl, hAb.out.drop, HF.out, HK.out, ht0, by omega⟩
    case rest =>
      obtain ⟨gr, s', ss', rfl, hA, hF', hK', ht2, ht3⟩ := hcut
      have HA := hid hA
      have HF' := hid hF'
      have HK' := hid hK'
      have hBw := hid (bel_trans HB3x.out hA.bel)
      have hPr := hA.perm (List.perm_append_comm (l₁ := [vmC g i s', setC gs t.chans ss']) (l₂ := [rvC gr i s', refC gR t.chans (hL ss')]))
      obtain ⟨av, x8, x9, x10, x11, x12, hr1, hr2⟩ := hPr.rvCells
      have hgl : gr < wc.heap.size := World.block_lt_of_cell? wc _ x8
      have HR1 := hid hr1
      have HR2 := hid hr2
      have HPR := hid hPr
      obtain ⟨N, hN⟩ : ∃ N, s'.stack.length = N := ⟨_, rfl⟩
      obtain ⟨M, hM⟩ : ∃ M, s'.mem.length = M := ⟨_, rfl⟩
      have hN8 : N ≤ 8 := by have := hF'.len; omega
      have hM16 : M ≤ 16 := by have := hF'.mlen; have := HI.out.2.2.2.1; omega
      have iS := hid (fun W (hb : Below wc.heap.size wc W) => (HA.out.belowS hb).stateA HI.out HF'.out)
      have iE := hid (fun W A1 c1 A2 c2 B1 d1 B2 d2 h1 h2 h3 h4 => sameSt_any s' A1 c1 A2 c2 B1 d1 B2 d2 W h1 h2 h3 h4 (by omega) (by omega))
      unfold stateV at iS iE
      rw [hN] at x9
      rw [hM] at x10
      simp only [hN, hM] at iS iE
      have HN := hid hN
      have HM := hid hM
      clear hA hF' hK' hPr hr1 hr2 HF HK hAb HBb v0 v1 v2 y0 y0' z0 z1 had hKin hN hM
      go_wp2_with fail
      go_region_held3 (fun w' => w'.cell? ⟨gr, 8, none⟩ = some (.int .i64 s'.pc) ∧ w'.cell? ⟨gr, 9, none⟩ = some (.slice av.As N av.cS) ∧ w'.cell? ⟨gr, 10, none⟩ = some (.slice av.Am M av.cM) ∧ w'.cell? ⟨gr, 11, none⟩ = some (.int .i64 s'.ticks) ∧ w'.cell? ⟨gr, 12, none⟩ = some (.int .i64 s'.fault)) (go_keep) (first
        | (go_at_call 16; refine (iS.out _ ?_).mono ?_; (first | exact Below.refl _ _ | exact bel_drewV (Below.refl _ _)); rintro e w6 ⟨A1, c1, A2, c2, rfl, ho1, ho2, hb6⟩; have hb56 : Below wc.heap.size wc w6 := (by first | exact hb6 | exact bel_trans (bel_drewV (Below.refl wc.heap.size wc)) hb6); have q8 : w6.cell? ⟨gr, 8, none⟩ = some (.int .i64 s'.pc) := (hb56.cell (p := ⟨gr, 8, none⟩) hgl).trans x8; have q9 : w6.cell? ⟨gr, 9, none⟩ = some (.slice av.As N av.cS) := (hb56.cell (p := ⟨gr, 9, none⟩) hgl).trans x9; have q10 : w6.cell? ⟨gr, 10, none⟩ = some (.slice av.Am M av.cM) := (hb56.cell (p := ⟨gr, 10, none⟩) hgl).trans x10; have q11 : w6.cell? ⟨gr, 11, none⟩ = some (.int .i64 s'.ticks) := (hb56.cell (p := ⟨gr, 11, none⟩) hgl).trans x11; have q12 : w6.cell? ⟨gr, 12, none⟩ = some (.int .i64 s'.fault) := (hb56.cell (p := ⟨gr, 12, none⟩) hgl).trans x12; have HO1 := hid (Reads.of_own ho1); have HO2 := hid (Reads.of_own ho2); have HB56 := hid hb56; clear ho1 ho2 hb6 hb56)
        | (go_at_call 18; refine (iE.out _ _ _ _ _ _ _ _ _ ?_ ?_ ?_ ?_).mono ?_; (first | exact HO1.out | exact HO1.out.drew); (first | exact HO2.out | exact HO2.out.drew); (first | (rw [← HN.out]; exact HR1.out.belowS HB56.out) | (rw [← HN.out]; exact (HR1.out.belowS HB56.out).drew)); (first | (rw [← HM.out]; exact HR2.out.belowS HB56.out) | (rw [← HM.out]; exact (HR2.out.belowS HB56.out).drew)); rintro e w7 ⟨rfl, hb7⟩; have hb57 : Below wc.heap.size wc w7 := (by first | exact bel_trans HB56.out hb7 | exact bel_trans (bel_drewV HB56.out) hb7); have r8 : w7.cell? ⟨gr, 8, none⟩ = some (.int .i64 s'.pc) := (hb57.cell (p := ⟨gr, 8, none⟩) hgl).trans x8; have r9 : w7.cell? ⟨gr, 9, none⟩ = some (.slice av.As N av.cS) := (hb57.cell (p := ⟨gr, 9, none⟩) hgl).trans x9; have r10 : w7.cell? ⟨gr, 10, none⟩ = some (.slice av.Am M av.cM) := (hb57.cell (p := ⟨gr, 10, none⟩) hgl).trans x10; have r11 : w7.cell? ⟨gr, 11, none⟩ = some (.int .i64 s'.ticks) := (hb57.cell (p := ⟨gr, 11, none⟩) hgl).trans x11; have r12 : w7.cell? ⟨gr, 12, none⟩ = some (.int .i64 s'.fault) := (hb57.cell (p := ⟨gr, 12, none⟩) hgl).trans x12; have HB57 := hid hb57; clear hb7 hb57))
      all_goals
        have HAz := hid (HA.out.belowS HB57.out)
        have hpw := HAz.out.perm (List.perm_append_comm (l₁ := [vmC g i s']) (l₂ := [setC gs t.chans ss', rvC gr i s', refC gR t.chans (hL ss')]))
        have hpr := hpw.perm (List.perm_append_comm (l₁ := [setC gs t.chans ss', rvC gr i s']) (l₂ := [refC gR t.chans (hL ss'), vmC g i s']))
        obtain ⟨FS, hSj, _⟩ := hpw.get
        obtain ⟨FR, hRj, _⟩ := hpr.get
        have HSJ := hid (show SetAt w7 FS gs t.chans ss' from hSj)
        have HRJ := hid (show RefAt w7 FR gR t.chans (hL ss') from hRj)
        have HX7' := hid (HX3.out.belowS HAz.out.bel)
        have c3 : w7.cell? ⟨w.heap.size, 3, none⟩ = some (.slice a.A3 t.chans.length a.c3) := HX7'.out.cellAt rfl
        obtain ⟨AC, cC, rc0⟩ : ∃ AC cC, w7.cell? ⟨gR, 0, none⟩ = some (.slice AC t.chans.length cC) := by
          obtain ⟨AC, cC, gL, ra, rc, h9, _⟩ := HRJ.out
          exact ⟨AC, cC, h9.blk.cellAt rfl⟩
        clear hpw hpr hSj hRj q8 q9 q10 q11 q12 r8 r9 r10 r11 r12 x8 x9 x10 x11 x12 iS iE HO1 HO2 HB56 HB57 HR1 HR2 HPR HA HN HM hBw hN8 hM16 hgl
        go_wp2_with fail
        clear c3 rc0
        go_loopw [17, 152] (fun v17 v152 wr => ∃ (j : Nat), j ≤ t.chans.length ∧ v152 = .int .i64 (j : Int) ∧ Below w7.heap.size w7 wr) (fun _ v152 _ => t.chans.length - (intOf v152).toNat)
        case atStart => exact ⟨0, by omega, rfl, Below.refl _ _⟩
        case round =>
          obtain ⟨j, hj, rfl, hbj⟩ := hrel
          by_cases hjn : j < t.chans.length
          case pos =>
            have hsmj : WaySmall (ss' j) := (HK'.out j hjn).small (HD4.out j hjn)
            have hsl := hasL_smallV hsmj
            have iH := hid (fun w' (hb : Below wr.heap.size wr w') => has_at ((HSJ.out.belowS hbj).belowS hb) hjn hsmj)
            obtain ⟨gL, Aj, cj, u0, u1, hrow⟩ := (HRJ.out.belowS hbj).row hjn
            have hult := hid (⟨World.block_lt_of_cell? _ _ u0, World.block_lt_of_cell? _ _ u1⟩ : gR < wr.heap.size ∧ gL < wr.heap.size)
            have iE := hid (fun w' (hb : Below wr.heap.size wr w') A5 c5 (hr5 : Reads w' w'.heap.size 1 A5 (hasL (ss' j)).length ((hasL (ss' j)).map iV)) => sameInts_b A5 Aj (hasL (ss' j)).length (hasL (ss' j)).length c5 cj (hasL (ss' j)) (hasL (ss' j)) w' hr5 (hrow w' hb) (by omega) (by omega))
            have u1' : wr.cell? ⟨gL, j, none⟩ = some (.slice Aj (hasL (ss' j)).length cj) := u1
            generalize (hasL (ss' j)).length = Q at iH iE u1'
            simp only [decide_true] at iE
            have y3 : (0 : Int) ≤ (j : Int) := by omega
            have y4 : (j : Int) < (t.chans.length : Int) := by omega
            have hB := hid (Below.refl wr.heap.size wr)
            have HBJ := hid hbj
            clear hsmj hsl u1 hbj hrow
            go_wp2_with fail
            go_region_held3 (fun w' => w'.cell? ⟨gR, 1, none⟩ = some (.slice (some ⟨gL, 0, none⟩) t.chans.length t.chans.length) ∧ w'.cell? ⟨gL, j, none⟩ = some (.slice Aj Q cj)) (go_keep)
              (first
                | (go_at_call 30; refine (iH.out _ ?_).mono ?_; (first | exact hB.out | exact bel_drewV hB.out); rintro e wa ⟨A5, c5, rfl, hr5', hba'⟩; have hBn : Below wr.heap.size wr wa := (by first | exact bel_trans hB.out hba' | exact bel_trans hB.out ⟨hba'.os, hba'.tape, hba'.output, hba'.size, hba'.block⟩); have hr5 := hid hr5'; clear hba' hr5'; have hB := hid hBn; have z0 : wa.cell? ⟨gR, 1, none⟩ = some (.slice (some ⟨gL, 0, none⟩) t.chans.length t.chans.length) := (hBn.cell (p := ⟨gR, 1, none⟩) hult.out.1).trans u0; have z1 : wa.cell? ⟨gL, j, none⟩ = some (.slice Aj Q cj) := (hBn.cell (p := ⟨gL, j, none⟩) hult.out.2).trans u1'; clear hBn)
                | (go_at_call 29; refine (iE.out _ ?_ _ _ ?_).mono ?_; (first | exact hB.out | exact bel_drewV hB.out); (first | exact hr5.out | exact hr5.out.drew); rintro e wb ⟨rfl, hbb'⟩; have hBn : Below wr.heap.size wr wb := (by first | exact bel_trans hB.out hbb' | exact bel_trans hB.out ⟨hbb'.os, hbb'.tape, hbb'.output, hbb'.size, hbb'.block⟩); clear hbb'; have hB := hid hBn; have z0 : wb.cell? ⟨gR, 1, none⟩ = some (.slice (some ⟨gL, 0, none⟩) t.chans.length t.chans.length) := (hBn.cell (p := ⟨gR, 1, none⟩) hult.out.1).trans u0; have z1 : wb.cell? ⟨gL, j, none⟩ = some (.slice Aj Q cj) := (hBn.cell (p := ⟨gL, j, none⟩) hult.out.2).trans u1'; clear hBn))
            all_goals
              clear z0 z1 u0 u1' iH iE
              go_wp2_with fail
              go_roundw
              case rel => exact ⟨j + 1, by omega, by go_num, bel_trans HBJ.out hB.out⟩
              case measure => simp [intOf]; omega
          obtain rfl : j = t.chans.length := by omega
          have HZ := hid (HAz.out.belowS hbj)
          clear hbj
          go_wp2_with fail
          go_roundw
          case rel => exact ⟨k + 1, gr, s', ss', by omega, by go_num, rfl, HZ.out, HF'.out, HK'.out, ht2, by omega⟩
          case measure => simp [intOf]; omega
end Go.Proofs.Ytidlahljhgglcaa
