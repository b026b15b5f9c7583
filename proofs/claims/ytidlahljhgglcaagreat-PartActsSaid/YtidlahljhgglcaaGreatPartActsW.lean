/-
  Law 23: any acts on any images, on the channels of any table (PartActs), walked.
-/
import Derived.Test.YtidlahljhgglcaaGreatPartL
import Derived.Test.YtidlahljhgglcaaGreatRef06R
import Derived.Test.YtidlahljhgglcaaGreatQb
import Derived.Test.YtidlahljhgglcaaGreatTk
import Derived.Test.YtidlahljhgglcaaGreatPartRS
import Derived.Deep.CutBlock
import Derived.StillTailTactics
namespace Go.Proofs.YtidlahljhgglcaaGreat
open Go.RowKit Go.ChangeShapes Go.WideShapes Go.ChangeAt

theorem tick_ticksA (i : ImgS) (cs : List ChanS) (s : VmS) (ss : Nat → WayS) : (tickF i cs s ss).1.ticks = if s.fault = 0 then s.ticks + 1 else s.ticks := by
  unfold tickF
  by_cases h : s.fault = 0
  · rw [if_neg (by simp [h]), if_pos h]
  · rw [if_pos h, if_neg h]
theorem callsBel {f : Nat} {args : Array Value} {w : World} {v : Ending} (h : Calls Tryz.prog f args w fun e w' => e = v ∧ w = w') : Calls Tryz.prog f args w fun e w' => e = v ∧ Below w.heap.size w w' :=
  h.mono fun _ _ h => ⟨h.1, h.2 ▸ Below.refl _ _⟩
set_option maxRecDepth 100000 in
set_option maxHeartbeats 40000000 in
theorem partActs_any (w : World) (t : TabS) (a : TabA) (hT : TabCame w t a) (AI : Option Addr) (nI cI : Nat) (li : List ImgA) (hri : RdS w w.heap.size 8 AI nI imgAC li) (hni : nI ≤ cI) (hci : cI ≤ maxLen) (him : ∀ x ∈ li, ImgCame w x.p x.A x.c) (AL : Option Addr) (n cL : Nat) (ls : List ActP) (hrd : RdS w w.heap.size 4 AL n actPC ls) (hnc : n ≤ cL) (hcm : cL ≤ maxLen) :
    Calls Tryz.prog 3 #[.agg #[.int .i64 t.frame, .slice a.A1 t.parts.length a.c1, .slice a.A2 t.wins.length a.c2, .slice a.A3 t.chans.length a.c3, .int .i64 t.trial], .slice AI nI cI, .slice AL n cL] w fun e w' => e = .returned (.bool true) ∧ Below w.heap.size w w' := by
  obtain ⟨w1, hw1, hb1, hX1⟩ := tab_inP t a w
  have HC := hid hT
  have HAL := hid hrd
  have HAI := hid hri
  have HIM := hid him
  have hl1 := hT.l3
  unfold maxLen at hcm hci
  have HB1 := hid hb1
  have HX1 := hid hX1
  clear hT him hrd hri hb1 hX1
  go_enter Tryz.func3, Tryz.ntmps3
  go_wp2_with fail
  refine (wakesPt_any _).mono ?_
  rintro e w2 ⟨rfl, hb2⟩
  have HB2 := hid (bel_trans HB1.out hb2)
  have HX2 := hid (HX1.out.belowS hb2)
  obtain ⟨c0, c1, c2, c3, c4⟩ := tab_cells HX2.out
  clear hb2 HX1 HB1 hw1
  have i1 := hid (refRight_came t a HC.out HB2.out)
  by_cases hr : rightB t = true
  case neg =>
    have hr' : rightB t = false := by simpa using hr
    rw [hr'] at i1
    clear hr hr'
    go_wp2_with fail
    refine i1.out.mono ?_
    rintro e w3 ⟨rfl, hb3⟩
    go_wp2_with fail
    go_ret
    exact ⟨rfl, bel_trans HB2.out hb3⟩
  rw [hr] at i1
  have HRT := hid hr
  have HR := hid ((rightB_iff t).1 hr)
  clear hr
  by_cases h10 : 10 < nI
  · have y0 : decide ((10 : Int) < (nI : Int)) = true := decide_eq_true (by omega)
    have y0' : decide (10 < nI) = true := decide_eq_true h10
    go_wp2_with fail
    refine i1.out.mono ?_
    rintro e w3 ⟨rfl, hb3⟩
    go_wp2_with fail
    go_ret
    exact ⟨rfl, bel_trans HB2.out hb3⟩
  have y0 : decide ((10 : Int) < (nI : Int)) = false := decide_eq_false (by omega)
  have y0' : decide (10 < nI) = false := decide_eq_false h10
  by_cases h60 : 60 < n
  · have y1 : decide ((60 : Int) < (n : Int)) = true := decide_eq_true (by omega)
    have y1' : decide (60 < n) = true := decide_eq_true h60
    go_wp2_with fail
    refine i1.out.mono ?_
    rintro e w3 ⟨rfl, hb3⟩
    go_wp2_with fail
    go_ret
    exact ⟨rfl, bel_trans HB2.out hb3⟩
  have y1 : decide ((60 : Int) < (n : Int)) = false := decide_eq_false (by omega)
  have y1' : decide (60 < n) = false := decide_eq_false h60
  have hn60 : n ≤ 60 := by omega
  go_wp2_with fail
  refine i1.out.mono ?_
  rintro e w3 ⟨rfl, hb3⟩
  have HB3 := hid (bel_trans HB2.out hb3)
  have HX3 := hid (HX2.out.belowS hb3)
  clear c0 c1 c2 c3 c4 hb3 HX2 HB2 i1
  obtain ⟨c0, c1, c2, c3, c4⟩ := tab_cells HX3.out
  have i3 := hid (New_ok t a w3 (came_ok HC.out HB3.out HRT.out) HRT.out)
  go_wp2_with fail
  refine i3.out.mono ?_
  rintro e w4 ⟨F2, gs, rfl, hS4, hb4, hF2⟩
  have HA4 := hid ((AllS.nil (Below.refl w3.heap.size w3)).push hb4 (C := setC gs t.chans (zeroW t.chans)) hS4 hF2)
  have HX4 := hid (HX3.out.belowS hb4)
  have iR := hid (refNew t a w4 (came_ok HC.out (bel_trans HB3.out hb4) HRT.out))
  clear c0 c1 c2 c3 c4 i3 hS4 hb4 hF2 y0 y0' y1 y1' h10 h60
  obtain ⟨c0, c1, c2, c3, c4⟩ := tab_cells HX4.out
  go_wp2_with fail
  refine iR.out.mono ?_
  rintro e w5 ⟨F3, gR, rfl, hS5, hb5, hF3⟩
  have HA5 := hid (HA4.out.push hb5 (C := refC gR t.chans (fun _ => [])) hS5 hF3)
  clear c0 c1 c2 c3 c4 iR hS5 hb5 hF3 HA4 HX4
  go_wp2_with fail
  refine (newPart_any _).mono ?_
  rintro e w6 ⟨rfl, rfl⟩
  have HA6 := hid (show AllS w3 [ptC w5.heap.size none 0, refC gR t.chans (fun _ => []), setC gs t.chans (zeroW t.chans)] _ from HA5.out.made (T := 105) (xs := [.pointer none, .int .i64 0]))
  generalize w5.alloc (.cells #[.pointer none, .int .i64 0] 105) = w6 at HA6 ⊢
  generalize w5.heap.size = p at *
  have HA7 := hid (show AllS w3 [rpC w6.heap.size none 0, ptC p none 0, refC gR t.chans (fun _ => []), setC gs t.chans (zeroW t.chans)] _ from HA6.out.made (T := 42) (xs := [.pointer none, .int .i64 0]))
  clear HA5 HA6
  have hT0 : AllS w3 (ptC p none 0 :: rpC w6.heap.size none 0 :: setC gs t.chans (zeroW t.chans) :: refC gR t.chans (hL (zeroW t.chans)) :: machL none) (w6.alloc (.cells #[.pointer none, .int .i64 0] 42)) := by
    rw [hL_zero]
    exact HA7.out.pick [1, 0, 3, 2] [] (show (List.range 4).Perm _ by decide) rfl
  have HT0 := hid hT0
  have hD4 : ∀ k, k < t.chans.length → depthAt t.chans k ≤ 4 := fun k hk => by
    obtain ⟨x, hx⟩ : ∃ x, t.chans[k]? = some x := ⟨_, List.getElem?_eq_getElem hk⟩
    rw [depthAt_get hx]
    exact (HR.out.cs x (List.mem_of_getElem? hx)).2.2.2.2.2.2
  have HK0 := hid (kZero t.chans fun x hx => (HR.out.cs x hx).2.2.2.2.2.1)
  have HD4 := hid hD4
  have hc4 := HR.out.c4
  have HB3x := hid HB3.out
  clear hT0 hD4 HA7
  go_wp2_with fail
  have HT0 := HT0
  generalize w6.alloc (.cells #[.pointer none, .int .i64 0] 42) = w7 at HT0 ⊢
  generalize w6.heap.size = q at *
  go_loopw [13, 14, 15, 16, 17, 18, 19, 47] (fun v13 v14 v15 v16 v17 v18 v19 v47 wr => ∃ (k : Nat) (o : Option Runner) (b : Int) (ss : Nat → WayS), k ≤ n ∧ v47 = .int .i64 (k : Int) ∧ AllS w3 (ptC p (gP o) b :: rpC q (gQ o) b :: setC gs t.chans ss :: refC gR t.chans (hL ss) :: machL o) wr ∧ FineR o k ∧ KAll t.chans ss ∧ 0 ≤ b ∧ b ≤ k) (fun _ _ _ _ _ _ _ v47 _ => n - (intOf v47).toNat)
  case atStart => exact ⟨0, none, 0, zeroW t.chans, by omega, rfl, HT0.out, fun r hr => (by simp at hr), HK0.out, by omega, by simp⟩
  case round =>
    obtain ⟨k, o, b, ss, hk, rfl, hA, hF, hK, hb0, hbk⟩ := hrel
    clear HT0 HK0
    obtain ⟨wo, rfl⟩ : ∃ wo : World, wo = wr := ⟨_, rfl⟩
    have HBo := hid (bel_trans HB3x.out hA.bel)
    by_cases hkn : k < n
    case neg =>
      obtain rfl : k = n := by omega
      clear hA hF hK
      go_wp2_with fail
      go_ret
      exact ⟨rfl, HBo.out⟩
    have y0 : decide ((k : Int) < (n : Int)) = true := decide_eq_true (by omega)
    have y0' : decide (k < n) = true := decide_eq_true hkn
    obtain ⟨ad, x, rfl, had, hx, hq0, hq⟩ := (HAL.out.below HBo.out).at_ hkn
    have u0 := hq0 _ rfl
    have u1 := hq 0 _ rfl
    have u2 := hq 1 _ rfl
    have u3 := hq 2 _ rfl
    clear hq hq0 hx
    obtain ⟨kind, img, chan, num⟩ := x
    simp only at u0 u1 u2 u3
    have z0 : (0 : Int) ≤ (k : Int) := Int.natCast_nonneg _
    have z1 : (k : Int) < (n : Int) := by omega
    have HA := hid (hA.made (T := 44) (xs := [.int .i64 kind, .int .i64 img, .int .i64 chan, .int .i64 num]))
    have HF := hid hF
    have HK := hid hK
    clear hA hF hK
    have hKin : Hid (kind = 0 ∨ kind = 1 ∨ kind = 2 ∨ kind = 3 ∨ (kind ≠ 0 ∧ kind ≠ 1 ∧ kind ≠ 2 ∧ kind ≠ 3)) := hid (by omega)
    go_upto_block 2 with fail
    obtain ⟨wb, hwb, HBb, hAb⟩ : ∃ W, wo.alloc (.cells #[.int .i64 kind, .int .i64 img, .int .i64 chan, .int .i64 num] 44) = W ∧ Hid (Below wo.heap.size wo W) ∧ Hid (AllS w3 (blkC wo.heap.size 44 [.int .i64 kind, .int .i64 img, .int .i64 chan, .int .i64 num] :: ptC p (gP o) b :: rpC q (gQ o) b :: setC gs t.chans ss :: refC gR t.chans (hL ss) :: machL o) W) := ⟨_, rfl, hid (below_alloc1 wo _), HA⟩
    rw [hwb]
    have v0 : wb.cell? ⟨wo.heap.size, 0, none⟩ = some (.int .i64 kind) := hAb.out.blk.cellAt rfl
    have v1 : wb.cell? ⟨wo.heap.size, 1, none⟩ = some (.int .i64 img) := hAb.out.blk.cellAt rfl
    have v2 : wb.cell? ⟨wo.heap.size, 2, none⟩ = some (.int .i64 chan) := hAb.out.blk.cellAt rfl
    have v3 : wb.cell? ⟨wo.heap.size, 3, none⟩ = some (.int .i64 num) := hAb.out.blk.cellAt rfl
    clear hwb u0 u1 u2 u3 HA
    go_cut [] (fun wz => ∃ (o' : Option Runner) (b' : Int) (ss' : Nat → WayS), AllS w3 (ptC p (gP o') b' :: rpC q (gQ o') b' :: setC gs t.chans ss' :: refC gR t.chans (hL ss') :: machL o') wz ∧ FineR o' ((k : Int) + 1) ∧ KAll t.chans ss' ∧ 0 ≤ b' ∧ b' ≤ (k : Int) + 1)
    case first =>
      rcases hKin.out with hk0 | hk0 | hk0 | hk0 | ⟨hk0, hk1, hk2, hk3⟩
      · subst hk0
        as_aux_lemma =>
          have d1 := fun o => cell_alloc v1 o
          by_cases hin : 0 ≤ img ∧ img < nI
          focus
            obtain ⟨qi, rfl⟩ : ∃ qi : Nat, img = (qi : Int) := ⟨img.toNat, by omega⟩
            have hq : qi < nI := by omega
            obtain ⟨ad3, x, hA3, had3, hx3, f0, fq⟩ := (HAI.out.below (bel_trans HB3x.out hAb.out.bel)).at_ hq
            have HX := hid (HIM.out x (List.mem_of_getElem? hx3))
            have y2 : decide ((0 : Int) ≤ (qi : Int)) = true := decide_eq_true (by omega)
            have y2' : decide (0 ≤ qi) = true := decide_eq_true (by omega)
            have y3 : decide ((qi : Int) < (nI : Int)) = true := decide_eq_true (by omega)
            have y3' : decide (qi < nI) = true := decide_eq_true hq
            have z2 : (0 : Int) ≤ (qi : Int) := Int.natCast_nonneg _
            have z3 : (qi : Int) < (nI : Int) := by omega
            obtain ⟨im, Ai, ci⟩ := x
            simp only at HX
            have g0 := f0 _ rfl
            have g1 := fq 0 _ rfl
            have g2 := fq 1 _ rfl
            have g3 := fq 2 _ rfl
            have g4 := fq 3 _ rfl
            have g5 := fq 4 _ rfl
            have g6 := fq 5 _ rfl
            have g7 := fq 6 _ rfl
            have d10 := fun o => cell_alloc g0 o
            have d11 := fun o => cell_alloc g1 o
            have d12 := fun o => cell_alloc g2 o
            have d13 := fun o => cell_alloc g3 o
            have d14 := fun o => cell_alloc g4 o
            have d15 := fun o => cell_alloc g5 o
            have d16 := fun o => cell_alloc g6 o
            have d17 := fun o => cell_alloc g7 o
            clear f0 fq hx3 had3
            subst hA3
            by_cases h300 : 300 < im.code.length
            · have y4 : decide ((300 : Int) < (im.code.length : Int)) = true := decide_eq_true (by omega)
              have y4' : decide (300 < im.code.length) = true := decide_eq_true h300
              have HBE := hid (bel_trans (bel_trans HB3x.out hAb.out.bel) (below_alloc1 wb (.cells #[.int .i64 im.part, .int .i64 im.ver, .int .i64 im.hard, .int .i64 im.mem, .int .i64 im.fuel, .int .i64 im.sends, .int .i64 im.recvs, .slice Ai im.code.length ci] 47)))
              go_wp2_with fail
              go_ret
              exact ⟨rfl, HBE.out⟩
            have y4 : decide ((300 : Int) < (im.code.length : Int)) = false := decide_eq_false (by omega)
            have y4' : decide (300 < im.code.length) = false := decide_eq_false h300
            go_wp2_with fail
            obtain ⟨jm, Aj, cj, wd, hwd, HAd, HRj, hj⟩ : ∃ (jm : ImgS) (Aj : Option Addr) (cj : Nat) (wd : World), wb.alloc (.cells #[.int .i64 im.part, .int .i64 im.ver, .int .i64 im.hard, .int .i64 im.mem, .int .i64 im.fuel, .int .i64 im.sends, .int .i64 im.recvs, .slice Ai im.code.length ci] 47) = wd ∧ Hid (AllS w3 (blkC wb.heap.size 47 (imgC jm Aj cj) :: blkC wo.heap.size 44 [.int .i64 0, .int .i64 ((qi : Int)), .int .i64 chan, .int .i64 num] :: ptC p (gP o) b :: rpC q (gQ o) b :: setC gs t.chans ss :: refC gR t.chans (hL ss) :: machL o) wd) ∧ Hid (Reads w w.heap.size 1 Aj jm.code.length (jm.code.map bV)) ∧ jm.code.length ≤ 300 := ⟨im, Ai, ci, _, rfl, hid (hAb.out.made (T := 47) (xs := imgC im Ai ci)), hid HX.out.rd, by omega⟩
            rw [hwd]
            clear hwd y4 y4' h300 g0 g1 g2 g3 g4 g5 g6 g7 d10 d11 d12 d13 d14 d15 d16 d17 HX y2 y2' y3 y3' z2 z3
            obtain ⟨Ximg, hXimg⟩ : ∃ X : Int, (qi : Int) = X := ⟨_, rfl⟩
            rw [hXimg] at HAd
          rotate_left 1
          focus
            by_cases hcn : 0 ≤ img
            focus
              have y2 : decide (0 ≤ img) = true := decide_eq_true hcn
              have y3 : decide (img < (nI : Int)) = false := decide_eq_false (by omega)
            rotate_left 1
            focus
              have y2 : decide (0 ≤ img) = false := decide_eq_false hcn
            all_goals
              clear hin hcn
              go_wp2_with fail
              obtain ⟨jm, Aj, cj, wd, hwd, HAd, HRj, hj⟩ : ∃ (jm : ImgS) (Aj : Option Addr) (cj : Nat) (wd : World), wb.alloc (.cells #[.int .i64 0, .int .i64 0, .int .i64 0, .int .i64 0, .int .i64 0, .int .i64 0, .int .i64 0, .slice none 0 0] 47) = wd ∧ Hid (AllS w3 (blkC wb.heap.size 47 (imgC jm Aj cj) :: blkC wo.heap.size 44 [.int .i64 0, .int .i64 (img), .int .i64 chan, .int .i64 num] :: ptC p (gP o) b :: rpC q (gQ o) b :: setC gs t.chans ss :: refC gR t.chans (hL ss) :: machL o) wd) ∧ Hid (Reads w w.heap.size 1 Aj jm.code.length (jm.code.map bV)) ∧ jm.code.length ≤ 300 := ⟨⟨0, 0, 0, 0, 0, 0, 0, []⟩, none, 0, _, rfl, hid (hAb.out.made (T := 47) (xs := imgC ⟨0, 0, 0, 0, 0, 0, 0, []⟩ none 0)), hid Reads.empty, by simp⟩
              rw [hwd]
              clear hwd
              obtain ⟨Ximg, hXimg⟩ : ∃ X : Int, img = X := ⟨_, rfl⟩
              rw [hXimg] at HAd
          all_goals
            obtain ⟨c0, c1, c2, c3, c4, c5, c6, c7⟩ := img_cells HAd.out.blk
            clear v0 v1 v2 v3 d1 hXimg
            by_cases hR : rightI jm = true
            focus
              have iB := hid (fun W (h : AllS w3 (ptC p (gP o) b :: rpC q (gQ o) b :: setC gs t.chans ss :: refC gR t.chans (hL ss) :: blkC wb.heap.size 47 (imgC jm Aj cj) :: machL o) W) => boot_ok h Aj cj (HRj.out.belowS (bel_trans HB3x.out h.bel)) hR hb0 (by omega))
              have iC := hid (fun W g' (h : AllS w3 (rpC q (gQ o) b :: ptC p (some g') (b + 1) :: vmC g' jm (freshS jm.mem.toNat) :: setC gs t.chans ss :: refC gR t.chans (hL ss) :: blkC wb.heap.size 47 (imgC jm Aj cj) :: machL o) W) => rBoot_ok h Aj cj (HRj.out.belowS (bel_trans HB3x.out h.bel)) hR hb0 (by omega))
              have HRI := hid ((rightI_iff jm).1 hR)
              unfold imgV at iB iC
              have HP := hid (show AllS w3 (ptC p (gP o) b :: rpC q (gQ o) b :: setC gs t.chans ss :: refC gR t.chans (hL ss) :: blkC wb.heap.size 47 (imgC jm Aj cj) :: machL o) wd from AllS.pickT (l := [blkC wb.heap.size 47 (imgC jm Aj cj), blkC wo.heap.size 44 [.int .i64 0, .int .i64 Ximg, .int .i64 chan, .int .i64 num], ptC p (gP o) b, rpC q (gQ o) b, setC gs t.chans ss, refC gR t.chans (hL ss)]) (t := machL o) HAd.out [2, 3, 4, 5, 0] [1] (show (List.range 6).Perm _ by decide) rfl)
              clear hR
              go_region_held3 (fun w' => w'.cell? ⟨wb.heap.size, 0, none⟩ = some (.int .i64 jm.part) ∧ w'.cell? ⟨wb.heap.size, 1, none⟩ = some (.int .i64 jm.ver) ∧ w'.cell? ⟨wb.heap.size, 2, none⟩ = some (.int .i64 jm.hard) ∧ w'.cell? ⟨wb.heap.size, 3, none⟩ = some (.int .i64 jm.mem) ∧ w'.cell? ⟨wb.heap.size, 4, none⟩ = some (.int .i64 jm.fuel) ∧ w'.cell? ⟨wb.heap.size, 5, none⟩ = some (.int .i64 jm.sends) ∧ w'.cell? ⟨wb.heap.size, 6, none⟩ = some (.int .i64 jm.recvs) ∧ w'.cell? ⟨wb.heap.size, 7, none⟩ = some (.slice Aj jm.code.length cj)) (go_keep) (first
                | (go_at_call 9; refine (iB.out _ ?_).mono ?_; (first | exact HP.out | exact HP.out.belowS (bel_drewV (Below.refl _ _))); rintro e w8 ⟨rfl, g', hA8⟩; have hA8 : AllS w3 (rpC q (gQ o) b :: ptC p (some g') (b + 1) :: vmC g' jm (freshS jm.mem.toNat) :: setC gs t.chans ss :: refC gR t.chans (hL ss) :: blkC wb.heap.size 47 (imgC jm Aj cj) :: machL o) w8 := AllS.pickT (l := [ptC p (some g') (b + 1), vmC g' jm (freshS jm.mem.toNat), rpC q (gQ o) b, setC gs t.chans ss, refC gR t.chans (hL ss), blkC wb.heap.size 47 (imgC jm Aj cj)]) (t := machL o) hA8 [2, 0, 1, 3, 4, 5] [] (show (List.range 6).Perm _ by decide) rfl; obtain ⟨z0, z1, z2, z3, z4, z5, z6, z7⟩ := img_cells hA8.drop.drop.drop.drop.drop.blk; have HA8 := hid hA8; clear hA8)
                | (go_at_call 10; refine (iC.out _ g' ?_).mono ?_; (first | exact HA8.out | exact HA8.out.belowS (bel_drewV (Below.refl _ _))); rintro e w9 ⟨rfl, gr', hA9⟩; have hA9 : AllS w3 (blkC wb.heap.size 47 (imgC jm Aj cj) :: ptC p (some g') (b + 1) :: rpC q (some gr') (b + 1) :: setC gs t.chans ss :: refC gR t.chans (hL ss) :: vmC g' jm (freshS jm.mem.toNat) :: rvC gr' jm (freshS jm.mem.toNat) :: machL o) w9 := AllS.pickT (l := [rpC q (some gr') (b + 1), rvC gr' jm (freshS jm.mem.toNat), ptC p (some g') (b + 1), vmC g' jm (freshS jm.mem.toNat), setC gs t.chans ss, refC gR t.chans (hL ss), blkC wb.heap.size 47 (imgC jm Aj cj)]) (t := machL o) hA9 [6, 2, 0, 4, 5, 3, 1] [] (show (List.range 7).Perm _ by decide) rfl; obtain ⟨x0, x1, x2, x3, x4, x5, x6, x7⟩ := img_cells hA9.blk; have HA9 := hid (show AllS w3 (ptC p (gP (some ⟨g', gr', jm, freshS jm.mem.toNat⟩)) (b + 1) :: rpC q (gQ (some ⟨g', gr', jm, freshS jm.mem.toNat⟩)) (b + 1) :: setC gs t.chans ss :: refC gR t.chans (hL ss) :: machL (some ⟨g', gr', jm, freshS jm.mem.toNat⟩)) w9 from hA9.drop.sub (List.sublist_append_left [ptC p (some g') (b + 1), rpC q (some gr') (b + 1), setC gs t.chans ss, refC gR t.chans (hL ss), vmC g' jm (freshS jm.mem.toNat), rvC gr' jm (freshS jm.mem.toNat)] (machL o))); clear hA9))
              all_goals
                clear z0 z1 z2 z3 z4 z5 z6 z7 x0 x1 x2 x3 x4 x5 x6 x7 c0 c1 c2 c3 c4 c5 c6 c7
                go_wp2_with fail
                go_meet
                exact ⟨some ⟨g', gr', jm, freshS jm.mem.toNat⟩, b + 1, ss, HA9.out, fun r hr => by
                  obtain rfl := Option.some.inj hr
                  exact ⟨HRI.out, fineFresh HRI.out, by simp [freshS], by simp [freshS]; omega⟩, HK.out, by omega, by omega⟩
            have hR' : rightI jm = false := by simpa using hR
            have iB := hid (fun W => boot_bad jm Aj cj p W (by omega) hR')
            have iC := hid (fun W => rBoot_bad jm Aj cj q W (by omega) hR')
            unfold imgV at iB iC
            clear hR hR'
            go_region_held3 (fun w' => w'.cell? ⟨wb.heap.size, 0, none⟩ = some (.int .i64 jm.part) ∧ w'.cell? ⟨wb.heap.size, 1, none⟩ = some (.int .i64 jm.ver) ∧ w'.cell? ⟨wb.heap.size, 2, none⟩ = some (.int .i64 jm.hard) ∧ w'.cell? ⟨wb.heap.size, 3, none⟩ = some (.int .i64 jm.mem) ∧ w'.cell? ⟨wb.heap.size, 4, none⟩ = some (.int .i64 jm.fuel) ∧ w'.cell? ⟨wb.heap.size, 5, none⟩ = some (.int .i64 jm.sends) ∧ w'.cell? ⟨wb.heap.size, 6, none⟩ = some (.int .i64 jm.recvs) ∧ w'.cell? ⟨wb.heap.size, 7, none⟩ = some (.slice Aj jm.code.length cj)) (go_keep) (first
              | (go_at_call 9; refine (iB.out _).mono ?_; rintro e w8 ⟨rfl, hb8⟩; have hb8' : Below wd.heap.size wd w8 := (by first | exact hb8 | exact bel_trans (bel_drewV (Below.refl wd.heap.size wd)) hb8); obtain ⟨z0, z1, z2, z3, z4, z5, z6, z7⟩ := img_cells (HAd.out.belowS hb8').blk; have HB8 := hid hb8'; clear hb8 hb8')
              | (go_at_call 10; refine (iC.out _).mono ?_; rintro e w9 ⟨rfl, hb9⟩; have hb9' : Below wd.heap.size wd w9 := (by first | exact bel_trans HB8.out hb9 | exact bel_trans (bel_drewV HB8.out) hb9); obtain ⟨x0, x1, x2, x3, x4, x5, x6, x7⟩ := img_cells (HAd.out.belowS hb9').blk; have HB9 := hid hb9'; clear hb9 hb9'))
            all_goals
              clear z0 z1 z2 z3 z4 z5 z6 z7 x0 x1 x2 x3 x4 x5 x6 x7 c0 c1 c2 c3 c4 c5 c6 c7
              go_wp2_with fail
              go_meet
              exact ⟨o, b, ss, (HAd.out.belowS HB9.out).drop.drop, HF.out.more (by omega), HK.out, hb0, by omega⟩
      · subst hk0
        as_aux_lemma =>
          by_cases hid9 : IdleR o
          focus
            have i5 := hid (run_idle hAb.out.drop HF.out hid9 (.iface 31 (.pointer (some ⟨gs, 0, none⟩))))
            have i6 := hid (fun W (hb : Below wb.heap.size wb W) => rRun_idle (hAb.out.drop.belowS hb) hid9 (.pointer (some ⟨gR, 0, none⟩)))
            unfold seenV at i5
            unfold rrunV at i6
            simp only [List.length_nil] at i5
            clear v0 v1 v2 v3 hid9
            go_wp2_with fail
            refine i5.out.mono ?_
            rintro e w8 ⟨rfl, hb8⟩
            have HB8 := hid hb8
            clear hb8 i5
            go_wp2_with fail
            obtain ⟨wA, hwA, HBA, HXA⟩ : ∃ W : World, w8.alloc (.cells #[.slice none 0 0, .bool false, .int .i64 0, .slice none 0 0, .slice none 0 0, .int .i64 0, .int .i64 0] 55) = W ∧ Hid (Below wb.heap.size wb W) ∧ Hid (Blk W w8.heap.size 55 [.slice none 0 0, .bool false, .int .i64 0, .slice none 0 0, .slice none 0 0, .int .i64 0, .int .i64 0]) := ⟨_, rfl, hid (bel_trans HB8.out (below_alloc1 _ _)), hid (Blk.new _ _ [.slice none 0 0, .bool false, .int .i64 0, .slice none 0 0, .slice none 0 0, .int .i64 0, .int .i64 0])⟩
            rw [hwA]
            clear hwA
            refine (i6.out _ HBA.out).mono ?_
            rintro e w9 ⟨rfl, hb9⟩
            have HXB := hid (HXA.out.belowS hb9)
            have HB9 := hid (bel_trans HBA.out hb9)
            clear hb9 i6 HXA HBA
            go_wp2_with fail
            obtain ⟨wC, hwC, HBC, HX1, HX2⟩ : ∃ W : World, w9.alloc (.cells #[.slice none 0 0, .bool false, .bool false] 61) = W ∧ Hid (Below wb.heap.size wb W) ∧ Hid (Blk W w8.heap.size 55 [.slice none 0 0, .bool false, .int .i64 0, .slice none 0 0, .slice none 0 0, .int .i64 0, .int .i64 0]) ∧ Hid (Blk W w9.heap.size 61 [.slice none 0 0, .bool false, .bool false]) := ⟨_, rfl, hid (bel_trans HB9.out (below_alloc1 _ _)), hid (HXB.out.alloc _), hid (Blk.new _ _ [.slice none 0 0, .bool false, .bool false])⟩
            rw [hwC]
            clear hwC HXB HB9
            have HCL := hid (fun W (hb : Below wC.heap.size wC W) => (show W.cell? ⟨w8.heap.size, 0, none⟩ = some (.slice none 0 0) ∧ W.cell? ⟨w8.heap.size, 1, none⟩ = some (.bool false) ∧ W.cell? ⟨w8.heap.size, 2, none⟩ = some (.int .i64 0) ∧ W.cell? ⟨w8.heap.size, 3, none⟩ = some (.slice none 0 0) ∧ W.cell? ⟨w8.heap.size, 4, none⟩ = some (.slice none 0 0) ∧ W.cell? ⟨w8.heap.size, 5, none⟩ = some (.int .i64 0) ∧ W.cell? ⟨w8.heap.size, 6, none⟩ = some (.int .i64 0) ∧ W.cell? ⟨w9.heap.size, 0, none⟩ = some (.slice none 0 0) ∧ W.cell? ⟨w9.heap.size, 1, none⟩ = some (.bool false) ∧ W.cell? ⟨w9.heap.size, 2, none⟩ = some (.bool false) from by
              have hy1 := HX1.out.belowS hb
              have hy2 := HX2.out.belowS hb
              exact ⟨hy1.cellAt rfl, hy1.cellAt rfl, hy1.cellAt rfl, hy1.cellAt rfl, hy1.cellAt rfl, hy1.cellAt rfl, hy1.cellAt rfl, hy2.cellAt rfl, hy2.cellAt rfl, hy2.cellAt rfl⟩))
            have iS := hid (fun W => sameSent_any [] none none 0 0 0 W RdS.nil RdS.nil (by omega))
            refine wp_region_held_drew (S := fun w' => w'.cell? ⟨w8.heap.size, 0, none⟩ = some (.slice none 0 0) ∧ w'.cell? ⟨w8.heap.size, 1, none⟩ = some (.bool false) ∧ w'.cell? ⟨w8.heap.size, 2, none⟩ = some (.int .i64 0) ∧ w'.cell? ⟨w8.heap.size, 3, none⟩ = some (.slice none 0 0) ∧ w'.cell? ⟨w8.heap.size, 4, none⟩ = some (.slice none 0 0) ∧ w'.cell? ⟨w8.heap.size, 5, none⟩ = some (.int .i64 0) ∧ w'.cell? ⟨w8.heap.size, 6, none⟩ = some (.int .i64 0) ∧ w'.cell? ⟨w9.heap.size, 0, none⟩ = some (.slice none 0 0) ∧ w'.cell? ⟨w9.heap.size, 1, none⟩ = some (.bool false) ∧ w'.cell? ⟨w9.heap.size, 2, none⟩ = some (.bool false)) (by kernel_rfl) (HCL.out _ (bel_drewV (Below.refl _ _))) (fun hHeld => ?_)
            refine tk_first 0 94 rfl rfl (v := ?_) (by kernel_rfl) (by kernel_rfl) (by kernel_rfl) (fun _ _ _ h => h) (Or.inl ⟨by rfl, ?_⟩) (by assumption) ?_
            rotate_left 1
            focus (intro wS hSw; (try dsimp only at hSw); go_simp; try with_reducible rfl)
            try simp only [Act.put, List.setIfInBounds_toArray, List.set_cons_zero, List.set_cons_succ]
            refine tk_first 1 95 rfl rfl (v := ?_) (by kernel_rfl) (by kernel_rfl) (by kernel_rfl) (fun _ _ _ h => h) (Or.inl ⟨by rfl, ?_⟩) (by assumption) ?_
            rotate_left 1
            focus (intro wS hSw; (try dsimp only at hSw); go_simp; try with_reducible rfl)
            try simp only [Act.put, List.setIfInBounds_toArray, List.set_cons_zero, List.set_cons_succ]
            refine tk_first 2 96 rfl rfl (v := ?_) (by kernel_rfl) (by kernel_rfl) (by kernel_rfl) (fun _ _ _ h => h) (Or.inl ⟨by rfl, ?_⟩) (by assumption) ?_
            rotate_left 1
            focus (intro wS hSw; (try dsimp only at hSw); go_simp; try with_reducible rfl)
            try simp only [Act.put, List.setIfInBounds_toArray, List.set_cons_zero, List.set_cons_succ]
            refine tk_first 3 97 rfl rfl (v := ?_) (by kernel_rfl) (by kernel_rfl) (by kernel_rfl) (fun _ _ _ h => h) (Or.inl ⟨by rfl, ?_⟩) (by assumption) ?_
            rotate_left 1
            focus (intro wS hSw; (try dsimp only at hSw); go_simp; try with_reducible rfl)
            try simp only [Act.put, List.setIfInBounds_toArray, List.set_cons_zero, List.set_cons_succ]
            refine tk_first 4 98 rfl rfl (v := ?_) (by kernel_rfl) (by kernel_rfl) (by kernel_rfl) (fun _ _ _ h => h) (Or.inl ⟨by rfl, ?_⟩) (by assumption) ?_
            rotate_left 1
            focus (intro wS hSw; (try dsimp only at hSw); go_simp; try with_reducible rfl)
            try simp only [Act.put, List.setIfInBounds_toArray, List.set_cons_zero, List.set_cons_succ]
            refine tk_first 5 99 rfl rfl (v := ?_) (by kernel_rfl) (by kernel_rfl) (by kernel_rfl) (fun _ _ _ h => h) (Or.inl ⟨by rfl, ?_⟩) (by assumption) ?_
            rotate_left 1
            focus (intro wS hSw; (try dsimp only at hSw); go_simp; try with_reducible rfl)
            try simp only [Act.put, List.setIfInBounds_toArray, List.set_cons_zero, List.set_cons_succ]
            refine tk_first 6 100 rfl rfl (v := ?_) (by kernel_rfl) (by kernel_rfl) (by kernel_rfl) (fun _ _ _ h => h) (Or.inl ⟨by rfl, ?_⟩) (by assumption) ?_
            rotate_left 1
            focus (intro wS hSw; (try dsimp only at hSw); go_simp; try with_reducible rfl)
            try simp only [Act.put, List.setIfInBounds_toArray, List.set_cons_zero, List.set_cons_succ]
            refine tk_first 7 101 rfl rfl (v := ?_) (by kernel_rfl) (by kernel_rfl) (by kernel_rfl) (fun _ _ _ h => h) (Or.inl ⟨by rfl, ?_⟩) (by assumption) ?_
            rotate_left 1
            focus (intro wS hSw; (try dsimp only at hSw); go_simp; try with_reducible rfl)
            try simp only [Act.put, List.setIfInBounds_toArray, List.set_cons_zero, List.set_cons_succ]
            refine tk_first 8 102 rfl rfl (v := ?_) (by kernel_rfl) (by kernel_rfl) (by kernel_rfl) (fun _ _ _ h => h) (Or.inl ⟨by rfl, ?_⟩) (by assumption) ?_
            rotate_left 1
            focus (intro wS hSw; (try dsimp only at hSw); go_simp; try with_reducible rfl)
            try simp only [Act.put, List.setIfInBounds_toArray, List.set_cons_zero, List.set_cons_succ]
            refine tk_first 9 103 rfl rfl (v := ?_) (by kernel_rfl) (by kernel_rfl) (by kernel_rfl) (fun _ _ _ h => h) (Or.inl ⟨by rfl, ?_⟩) (by assumption) ?_
            rotate_left 1
            focus (intro wS hSw; (try dsimp only at hSw); go_simp; try with_reducible rfl)
            try simp only [Act.put, List.setIfInBounds_toArray, List.set_cons_zero, List.set_cons_succ]
            refine tk_first 10 104 rfl rfl (v := ?_) (by kernel_rfl) (by kernel_rfl) (by kernel_rfl) (fun _ _ _ h => h) (Or.inl ⟨by rfl, ?_⟩) (by assumption) ?_
            rotate_left 1
            focus (intro wS hSw; (try dsimp only at hSw); go_simp; try with_reducible rfl)
            try simp only [Act.put, List.setIfInBounds_toArray, List.set_cons_zero, List.set_cons_succ]
            refine tk_first 11 105 rfl rfl (v := ?_) (by kernel_rfl) (by kernel_rfl) (by kernel_rfl) (fun _ _ _ h => h) (Or.inl ⟨by rfl, ?_⟩) (by assumption) ?_
            rotate_left 1
            focus (intro wS hSw; (try dsimp only at hSw); go_simp; try with_reducible rfl)
            try simp only [Act.put, List.setIfInBounds_toArray, List.set_cons_zero, List.set_cons_succ]
            refine tk_first 12 106 rfl rfl (v := ?_) (by kernel_rfl) (by kernel_rfl) (by kernel_rfl) (fun _ _ _ h => h) (Or.inl ⟨by rfl, ?_⟩) (by assumption) ?_
            rotate_left 1
            focus (intro wS hSw; (try dsimp only at hSw); go_simp; try with_reducible rfl)
            try simp only [Act.put, List.setIfInBounds_toArray, List.set_cons_zero, List.set_cons_succ]
            refine tk_first 13 107 rfl rfl (v := ?_) (by kernel_rfl) (by kernel_rfl) (by kernel_rfl) (fun _ _ _ h => h) (Or.inl ⟨by rfl, ?_⟩) (by assumption) ?_
            rotate_left 1
            focus (intro wS hSw; (try dsimp only at hSw); go_simp; try with_reducible rfl)
            try simp only [Act.put, List.setIfInBounds_toArray, List.set_cons_zero, List.set_cons_succ]
            refine tk_first 14 108 rfl rfl (v := ?_) (by kernel_rfl) (by kernel_rfl) (by kernel_rfl) (fun _ _ _ h => h) (Or.inl ⟨by rfl, ?_⟩) (by assumption) ?_
            rotate_left 1
            focus (intro wS hSw; (try dsimp only at hSw); go_simp; try with_reducible rfl)
            try simp only [Act.put, List.setIfInBounds_toArray, List.set_cons_zero, List.set_cons_succ]
            refine tk_first 15 109 rfl rfl (v := ?_) (by kernel_rfl) (by kernel_rfl) (by kernel_rfl) (fun _ _ _ h => h) (Or.inl ⟨by rfl, ?_⟩) (by assumption) ?_
            rotate_left 1
            focus (intro wS hSw; (try dsimp only at hSw); go_simp; try with_reducible rfl)
            try simp only [Act.put, List.setIfInBounds_toArray, List.set_cons_zero, List.set_cons_succ]
            refine tk_first 16 110 rfl rfl (v := ?_) (by kernel_rfl) (by kernel_rfl) (by kernel_rfl) (fun _ _ _ h => h) (Or.inl ⟨by rfl, ?_⟩) (by assumption) ?_
            rotate_left 1
            focus (intro wS hSw; (try dsimp only at hSw); go_simp; try with_reducible rfl)
            try simp only [Act.put, List.setIfInBounds_toArray, List.set_cons_zero, List.set_cons_succ]
            refine tk_first 17 111 rfl rfl (v := ?_) (by kernel_rfl) (by kernel_rfl) (by kernel_rfl) (fun _ _ _ h => h) (Or.inl ⟨by rfl, ?_⟩) (by assumption) ?_
            rotate_left 1
            focus (intro wS hSw; (try dsimp only at hSw); go_simp; try with_reducible rfl)
            try simp only [Act.put, List.setIfInBounds_toArray, List.set_cons_zero, List.set_cons_succ]
            refine wpAnyH_ready (rs := [18]) (by kernel_rfl) (by simp) ?_
            refine AllReadyH.cons (i := 18) (o := _) rfl (fun K hK => ?_) AllReadyH.nil
            go_simp
            (go_at_call 13; refine (iS.out _).mono ?_; rintro e wh1 ⟨rfl, hb9⟩; have hn1 : Below wC.heap.size wC wh1 := ⟨hb9.os, hb9.tape, hb9.output, hb9.size, hb9.block⟩; clear hb9)
            refine hK.out _ _ (HCL.out _ hn1) (fun hHeld => ?_)
            clear hK K
            try simp only [Act.put, List.setIfInBounds_toArray, List.set_cons_zero, List.set_cons_succ]
            refine tk_first 19 113 rfl rfl (v := ?_) (by kernel_rfl) (by kernel_rfl) (by kernel_rfl) (fun _ _ _ h => h) (Or.inl ⟨by rfl, ?_⟩) (by assumption) ?_
            rotate_left 1
            focus (intro wS hSw; (try dsimp only at hSw); go_simp; try with_reducible rfl)
            try simp only [Act.put, List.setIfInBounds_toArray, List.set_cons_zero, List.set_cons_succ]
            refine tk_first 20 114 rfl rfl (v := ?_) (by kernel_rfl) (by kernel_rfl) (by kernel_rfl) (fun _ _ _ h => h) (Or.inl ⟨by rfl, ?_⟩) (by assumption) ?_
            rotate_left 1
            focus (intro wS hSw; (try dsimp only at hSw); go_simp; try with_reducible rfl)
            try simp only [Act.put, List.setIfInBounds_toArray, List.set_cons_zero, List.set_cons_succ]
            refine tk_first 21 115 rfl rfl (v := ?_) (by kernel_rfl) (by kernel_rfl) (by kernel_rfl) (fun _ _ _ h => h) (Or.inl ⟨by rfl, ?_⟩) (by assumption) ?_
            rotate_left 1
            focus (intro wS hSw; (try dsimp only at hSw); go_simp; try with_reducible rfl)
            try simp only [Act.put, List.setIfInBounds_toArray, List.set_cons_zero, List.set_cons_succ]
            refine tk_first 22 116 rfl rfl (v := ?_) (by kernel_rfl) (by kernel_rfl) (by kernel_rfl) (fun _ _ _ h => h) (Or.inl ⟨by rfl, ?_⟩) (by assumption) ?_
            rotate_left 1
            focus (intro wS hSw; (try dsimp only at hSw); go_simp; try with_reducible rfl)
            try simp only [Act.put, List.setIfInBounds_toArray, List.set_cons_zero, List.set_cons_succ]
            refine tk_first 23 117 rfl rfl (v := ?_) (by kernel_rfl) (by kernel_rfl) (by kernel_rfl) (fun _ _ _ h => h) (Or.inl ⟨by rfl, ?_⟩) (by assumption) ?_
            rotate_left 1
            focus (intro wS hSw; (try dsimp only at hSw); go_simp; try with_reducible rfl)
            try simp only [Act.put, List.setIfInBounds_toArray, List.set_cons_zero, List.set_cons_succ]
            refine tk_first 24 118 rfl rfl (v := undef) (by kernel_rfl) (by kernel_rfl) (by kernel_rfl) (fun _ _ _ h => h) (Or.inr ⟨by rfl, rfl⟩) (by assumption) ?_
            try simp only [Act.put, List.setIfInBounds_toArray, List.set_cons_zero, List.set_cons_succ]
            refine tk_first 25 119 rfl rfl (v := undef) (by kernel_rfl) (by kernel_rfl) (by kernel_rfl) (fun _ _ _ h => h) (Or.inr ⟨by rfl, rfl⟩) (by assumption) ?_
            try simp only [Act.put, List.setIfInBounds_toArray, List.set_cons_zero, List.set_cons_succ]
            refine tk_first 26 120 rfl rfl (v := undef) (by kernel_rfl) (by kernel_rfl) (by kernel_rfl) (fun _ _ _ h => h) (Or.inr ⟨by rfl, rfl⟩) (by assumption) ?_
            try simp only [Act.put, List.setIfInBounds_toArray, List.set_cons_zero, List.set_cons_succ]
            refine tk_first 27 121 rfl rfl (v := undef) (by kernel_rfl) (by kernel_rfl) (by kernel_rfl) (fun _ _ _ h => h) (Or.inr ⟨by rfl, rfl⟩) (by assumption) ?_
            try simp only [Act.put, List.setIfInBounds_toArray, List.set_cons_zero, List.set_cons_succ]
            refine tk_first 28 122 rfl rfl (v := undef) (by kernel_rfl) (by kernel_rfl) (by kernel_rfl) (fun _ _ _ h => h) (Or.inr ⟨by rfl, rfl⟩) (by assumption) ?_
            try simp only [Act.put, List.setIfInBounds_toArray, List.set_cons_zero, List.set_cons_succ]
            refine tk_first 29 123 rfl rfl (v := undef) (by kernel_rfl) (by kernel_rfl) (by kernel_rfl) (fun _ _ _ h => h) (Or.inr ⟨by rfl, rfl⟩) (by assumption) ?_
            try simp only [Act.put, List.setIfInBounds_toArray, List.set_cons_zero, List.set_cons_succ]
            refine tk_first 30 124 rfl rfl (v := ?_) (by kernel_rfl) (by kernel_rfl) (by kernel_rfl) (fun _ _ _ h => h) (Or.inl ⟨by rfl, ?_⟩) (by assumption) ?_
            rotate_left 1
            focus (intro wS hSw; (try dsimp only at hSw); go_simp; try with_reducible rfl)
            try simp only [Act.put, List.setIfInBounds_toArray, List.set_cons_zero, List.set_cons_succ]
            refine tk_first 31 125 rfl rfl (v := ?_) (by kernel_rfl) (by kernel_rfl) (by kernel_rfl) (fun _ _ _ h => h) (Or.inl ⟨by rfl, ?_⟩) (by assumption) ?_
            rotate_left 1
            focus (intro wS hSw; (try dsimp only at hSw); go_simp; try with_reducible rfl)
            try simp only [Act.put, List.setIfInBounds_toArray, List.set_cons_zero, List.set_cons_succ]
            refine wpAnyH_done (by kernel_rfl) ?_ _
            have HBD := hid (bel_trans HBC.out hn1)
            clear HCL iS
            go_wp2_with fail
            go_meet
            exact ⟨o, b, ss, hAb.out.drop.belowS HBD.out, HF.out.more (by omega), HK.out, hb0, by omega⟩
          obtain ⟨r, rfl, hf0⟩ : ∃ r : Runner, o = some r ∧ r.s.fault = 0 := by
            cases o with
            | none => exact absurd (fun r hr => by cases hr) hid9
            | some r =>
              refine ⟨r, rfl, ?_⟩
              by_cases h9 : r.s.fault = 0
              · exact h9
              · exact absurd (fun r' hr' => by injection hr' with e9; subst e9; exact h9) hid9
          obtain ⟨g, gr, i, s⟩ := r
          simp only at hf0
          have hfr := HF.out _ rfl
          simp only at hfr
          obtain ⟨hI, hFs, ht0, ht1⟩ := hfr
          have HP := hid (show AllS w3 (ptC p (some g) b :: vmC g i s :: setC gs t.chans ss :: [rpC q (some gr) b, rvC gr i s, refC gR t.chans (hL ss)]) wb from AllS.pick (l := [blkC wo.heap.size 44 [.int .i64 1, .int .i64 img, .int .i64 chan, .int .i64 num], ptC p (some g) b, rpC q (some gr) b, setC gs t.chans ss, refC gR t.chans (hL ss), vmC g i s, rvC gr i s]) hAb.out [1, 5, 3, 2, 6, 4] [0] (show (List.range 7).Perm _ by decide) rfl)
          have i5 := hid (run_okS HP.out hI hFs HK.out HD4.out hf0 ht0 (by omega))
          have i6 := hid (fun W l (h : AllS w3 (rpC q (some gr) b :: rvC gr i s :: refC gR t.chans (hL ss) :: l) W) => rRun_ok h hI hFs HK.out HD4.out hf0 ht0 (by omega))
          have hkk := tickF_keeps (cs := t.chans) hFs HK.out
          have htt := tick_ticksA i t.chans s ss
          rw [if_pos hf0] at htt
          obtain ⟨rr, hr⟩ : ∃ r, tickF i t.chans s ss = r := ⟨_, rfl⟩
          rw [hr] at i5 htt hkk
          simp only [hr] at i6
          obtain ⟨s', ss', sent, cf⟩ := rr
          simp only at i6 htt hkk
          unfold RunPostS at i5
          simp only at i5
          obtain ⟨pc, st, me, tk, fa⟩ := s'
          simp only at i5 i6 htt hkk
          have HI := hid hI
          have HFs := hid hkk.1
          have HK' := hid hkk.2.1
          have HSL := hid (show sent.length ≤ 1000000 by have := hI.2.2.2.2.1; have := hkk.2.2.2; omega)
          have HTT := hid (show 0 ≤ tk ∧ tk ≤ (k : Int) + 1 by omega)
          unfold seenV at i5
          unfold rrunV at i6
          simp only at i5
          clear v0 v1 v2 v3 hid9 hf0 hI hFs ht0 ht1 hkk htt hr HP
          go_wp2_with fail
          refine i5.out.mono ?_
          rintro e w8 ⟨A, c, A1, c1, A2, c2, rfl, hA8⟩
          have HA8 := hid hA8
          clear hA8 i5
          go_wp2_with fail
          obtain ⟨wA, hwA, HAA⟩ : ∃ W, w8.alloc (.cells #[.slice A sent.length c, .bool cf, .int .i64 pc, .slice A1 st.length c1, .slice A2 me.length c2, .int .i64 tk, .int .i64 fa] 55) = W ∧ Hid (AllS w3 [blkC w8.heap.size 55 [.slice A sent.length c, .bool cf, .int .i64 pc, .slice A1 st.length c1, .slice A2 me.length c2, .int .i64 tk, .int .i64 fa], rows2C A1 st.length c1 (st.map iV) A2 me.length c2 (me.map iV), rowC 116 2 A sent.length c (sent.flatMap sentC), ptC p (some g) b, vmC g i ⟨pc, st, me, tk, fa⟩, setC gs t.chans ss', rpC q (some gr) b, rvC gr i s, refC gR t.chans (hL ss)] W) := ⟨_, rfl, hid (HA8.out.made (T := 55) (xs := [.slice A sent.length c, .bool cf, .int .i64 pc, .slice A1 st.length c1, .slice A2 me.length c2, .int .i64 tk, .int .i64 fa]))⟩
          rw [hwA]
          clear hwA
          have i7 := hid (i6.out wA _ (show AllS w3 (rpC q (some gr) b :: rvC gr i s :: refC gR t.chans (hL ss) :: [blkC w8.heap.size 55 [.slice A sent.length c, .bool cf, .int .i64 pc, .slice A1 st.length c1, .slice A2 me.length c2, .int .i64 tk, .int .i64 fa], rows2C A1 st.length c1 (st.map iV) A2 me.length c2 (me.map iV), rowC 116 2 A sent.length c (sent.flatMap sentC), ptC p (some g) b, vmC g i ⟨pc, st, me, tk, fa⟩, setC gs t.chans ss']) wA from AllS.pick (l := [blkC w8.heap.size 55 [.slice A sent.length c, .bool cf, .int .i64 pc, .slice A1 st.length c1, .slice A2 me.length c2, .int .i64 tk, .int .i64 fa], rows2C A1 st.length c1 (st.map iV) A2 me.length c2 (me.map iV), rowC 116 2 A sent.length c (sent.flatMap sentC), ptC p (some g) b, vmC g i ⟨pc, st, me, tk, fa⟩, setC gs t.chans ss', rpC q (some gr) b, rvC gr i s, refC gR t.chans (hL ss)]) HAA.out [6, 7, 8, 0, 1, 2, 3, 4, 5] [] (show (List.range 9).Perm _ by decide) rfl))
          clear i6 HA8
          refine i7.out.mono ?_
          rintro e w9 ⟨B, d, rfl, hA9⟩
          have HA9 := hid hA9
          clear hA9 i7 HAA
          go_wp2_with fail
          obtain ⟨wC, hwC, HAC⟩ : ∃ W, w9.alloc (.cells #[.slice B sent.length d, .bool cf, .bool true] 61) = W ∧ Hid (AllS w3 [blkC w9.heap.size 61 [.slice B sent.length d, .bool cf, .bool true], rowC 116 2 B sent.length d (sent.flatMap sentC), rpC q (some gr) b, rvC gr i ⟨pc, st, me, tk, fa⟩, refC gR t.chans (hL ss'), blkC w8.heap.size 55 [.slice A sent.length c, .bool cf, .int .i64 pc, .slice A1 st.length c1, .slice A2 me.length c2, .int .i64 tk, .int .i64 fa], rows2C A1 st.length c1 (st.map iV) A2 me.length c2 (me.map iV), rowC 116 2 A sent.length c (sent.flatMap sentC), ptC p (some g) b, vmC g i ⟨pc, st, me, tk, fa⟩, setC gs t.chans ss'] W) := ⟨_, rfl, hid (HA9.out.made (T := 61) (xs := [.slice B sent.length d, .bool cf, .bool true]))⟩
          rw [hwC]
          clear hwC HA9
          have HX1 := hid (show Blk wC w8.heap.size 55 [.slice A sent.length c, .bool cf, .int .i64 pc, .slice A1 st.length c1, .slice A2 me.length c2, .int .i64 tk, .int .i64 fa] from (show AllS w3 [blkC w8.heap.size 55 [.slice A sent.length c, .bool cf, .int .i64 pc, .slice A1 st.length c1, .slice A2 me.length c2, .int .i64 tk, .int .i64 fa]] wC from AllS.pick (l := [blkC w9.heap.size 61 [.slice B sent.length d, .bool cf, .bool true], rowC 116 2 B sent.length d (sent.flatMap sentC), rpC q (some gr) b, rvC gr i ⟨pc, st, me, tk, fa⟩, refC gR t.chans (hL ss'), blkC w8.heap.size 55 [.slice A sent.length c, .bool cf, .int .i64 pc, .slice A1 st.length c1, .slice A2 me.length c2, .int .i64 tk, .int .i64 fa], rows2C A1 st.length c1 (st.map iV) A2 me.length c2 (me.map iV), rowC 116 2 A sent.length c (sent.flatMap sentC), ptC p (some g) b, vmC g i ⟨pc, st, me, tk, fa⟩, setC gs t.chans ss']) HAC.out [5] [0, 1, 2, 3, 4, 6, 7, 8, 9, 10] (show (List.range 11).Perm _ by decide) rfl).blk)
          have HX2 := hid (show Blk wC w9.heap.size 61 [.slice B sent.length d, .bool cf, .bool true] from HAC.out.blk)
          have HRA := hid (rdsSent (show AllS w3 [rowC 116 2 A sent.length c (sent.flatMap sentC)] wC from AllS.pick (l := [blkC w9.heap.size 61 [.slice B sent.length d, .bool cf, .bool true], rowC 116 2 B sent.length d (sent.flatMap sentC), rpC q (some gr) b, rvC gr i ⟨pc, st, me, tk, fa⟩, refC gR t.chans (hL ss'), blkC w8.heap.size 55 [.slice A sent.length c, .bool cf, .int .i64 pc, .slice A1 st.length c1, .slice A2 me.length c2, .int .i64 tk, .int .i64 fa], rows2C A1 st.length c1 (st.map iV) A2 me.length c2 (me.map iV), rowC 116 2 A sent.length c (sent.flatMap sentC), ptC p (some g) b, vmC g i ⟨pc, st, me, tk, fa⟩, setC gs t.chans ss']) HAC.out [7] [0, 1, 2, 3, 4, 5, 6, 8, 9, 10] (show (List.range 11).Perm _ by decide) rfl).rowReads)
          have HRB := hid (rdsSent (show AllS w3 [rowC 116 2 B sent.length d (sent.flatMap sentC)] wC from AllS.pick (l := [blkC w9.heap.size 61 [.slice B sent.length d, .bool cf, .bool true], rowC 116 2 B sent.length d (sent.flatMap sentC), rpC q (some gr) b, rvC gr i ⟨pc, st, me, tk, fa⟩, refC gR t.chans (hL ss'), blkC w8.heap.size 55 [.slice A sent.length c, .bool cf, .int .i64 pc, .slice A1 st.length c1, .slice A2 me.length c2, .int .i64 tk, .int .i64 fa], rows2C A1 st.length c1 (st.map iV) A2 me.length c2 (me.map iV), rowC 116 2 A sent.length c (sent.flatMap sentC), ptC p (some g) b, vmC g i ⟨pc, st, me, tk, fa⟩, setC gs t.chans ss']) HAC.out [1] [0, 2, 3, 4, 5, 6, 7, 8, 9, 10] (show (List.range 11).Perm _ by decide) rfl).rowReads)
          have HS12 := hid ((show AllS w3 [rows2C A1 st.length c1 (st.map iV) A2 me.length c2 (me.map iV)] wC from AllS.pick (l := [blkC w9.heap.size 61 [.slice B sent.length d, .bool cf, .bool true], rowC 116 2 B sent.length d (sent.flatMap sentC), rpC q (some gr) b, rvC gr i ⟨pc, st, me, tk, fa⟩, refC gR t.chans (hL ss'), blkC w8.heap.size 55 [.slice A sent.length c, .bool cf, .int .i64 pc, .slice A1 st.length c1, .slice A2 me.length c2, .int .i64 tk, .int .i64 fa], rows2C A1 st.length c1 (st.map iV) A2 me.length c2 (me.map iV), rowC 116 2 A sent.length c (sent.flatMap sentC), ptC p (some g) b, vmC g i ⟨pc, st, me, tk, fa⟩, setC gs t.chans ss']) HAC.out [6] [0, 1, 2, 3, 4, 5, 7, 8, 9, 10] (show (List.range 11).Perm _ by decide) rfl).rows2)
          have HRS := hid (show AllS w3 (rpC q (some gr) b :: rvC gr i ⟨pc, st, me, tk, fa⟩ :: []) wC from AllS.pick (l := [blkC w9.heap.size 61 [.slice B sent.length d, .bool cf, .bool true], rowC 116 2 B sent.length d (sent.flatMap sentC), rpC q (some gr) b, rvC gr i ⟨pc, st, me, tk, fa⟩, refC gR t.chans (hL ss'), blkC w8.heap.size 55 [.slice A sent.length c, .bool cf, .int .i64 pc, .slice A1 st.length c1, .slice A2 me.length c2, .int .i64 tk, .int .i64 fa], rows2C A1 st.length c1 (st.map iV) A2 me.length c2 (me.map iV), rowC 116 2 A sent.length c (sent.flatMap sentC), ptC p (some g) b, vmC g i ⟨pc, st, me, tk, fa⟩, setC gs t.chans ss']) HAC.out [2, 3] [0, 1, 4, 5, 6, 7, 8, 9, 10] (show (List.range 11).Perm _ by decide) rfl)
          have HFIN := hid (show AllS w3 (ptC p (some g) b :: rpC q (some gr) b :: setC gs t.chans ss' :: refC gR t.chans (hL ss') :: [vmC g i ⟨pc, st, me, tk, fa⟩, rvC gr i ⟨pc, st, me, tk, fa⟩]) wC from AllS.pick (l := [blkC w9.heap.size 61 [.slice B sent.length d, .bool cf, .bool true], rowC 116 2 B sent.length d (sent.flatMap sentC), rpC q (some gr) b, rvC gr i ⟨pc, st, me, tk, fa⟩, refC gR t.chans (hL ss'), blkC w8.heap.size 55 [.slice A sent.length c, .bool cf, .int .i64 pc, .slice A1 st.length c1, .slice A2 me.length c2, .int .i64 tk, .int .i64 fa], rows2C A1 st.length c1 (st.map iV) A2 me.length c2 (me.map iV), rowC 116 2 A sent.length c (sent.flatMap sentC), ptC p (some g) b, vmC g i ⟨pc, st, me, tk, fa⟩, setC gs t.chans ss']) HAC.out [8, 2, 10, 4, 9, 3] [0, 1, 5, 6, 7] (show (List.range 11).Perm _ by decide) rfl)
          have HCL := hid (fun W (hb : Below wC.heap.size wC W) => (show W.cell? ⟨w8.heap.size, 0, none⟩ = some (.slice A sent.length c) ∧ W.cell? ⟨w8.heap.size, 1, none⟩ = some (.bool cf) ∧ W.cell? ⟨w8.heap.size, 2, none⟩ = some (.int .i64 pc) ∧ W.cell? ⟨w8.heap.size, 3, none⟩ = some (.slice A1 st.length c1) ∧ W.cell? ⟨w8.heap.size, 4, none⟩ = some (.slice A2 me.length c2) ∧ W.cell? ⟨w8.heap.size, 5, none⟩ = some (.int .i64 tk) ∧ W.cell? ⟨w8.heap.size, 6, none⟩ = some (.int .i64 fa) ∧ W.cell? ⟨w9.heap.size, 0, none⟩ = some (.slice B sent.length d) ∧ W.cell? ⟨w9.heap.size, 1, none⟩ = some (.bool cf) ∧ W.cell? ⟨w9.heap.size, 2, none⟩ = some (.bool true) from by
            have hy1 := HX1.out.belowS hb
            have hy2 := HX2.out.belowS hb
            exact ⟨hy1.cellAt rfl, hy1.cellAt rfl, hy1.cellAt rfl, hy1.cellAt rfl, hy1.cellAt rfl, hy1.cellAt rfl, hy1.cellAt rfl, hy2.cellAt rfl, hy2.cellAt rfl, hy2.cellAt rfl⟩))
          have j13 := hid (fun W (hb : Below wC.heap.size wC W) => sameSent_any sent A B sent.length c d W (HRA.out.belowS hb) (HRB.out.belowS hb) HSL.out)
          have j15 := hid (fun W (hb : Below wC.heap.size wC W) => rState_any (HRS.out.belowS hb))
          have j14 := hid (fun W A1 k1 A2 k2 B1 l1 B2 l2 h1 h2 h3 h4 => sameSt_any ⟨pc, st, me, tk, fa⟩ A1 k1 A2 k2 B1 l1 B2 l2 W h1 h2 h3 h4 (by have := HFs.out.len; simp only at this ⊢; omega) (by have := HFs.out.mlen; have := HI.out.2.2.2.1; simp only at *; omega))
          unfold stateV at j14 j15
          simp only at j14 j15
          have HB := hid (Below.refl wC.heap.size wC)
          obtain ⟨c20, c21, c22, c23, c24, c25, c26, c27, c28, c29⟩ := HCL.out wC HB.out
          first | fail | (go_region_held3 (fun w' => w'.cell? ⟨w8.heap.size, 0, none⟩ = some (.slice A sent.length c) ∧ w'.cell? ⟨w8.heap.size, 1, none⟩ = some (.bool cf) ∧ w'.cell? ⟨w8.heap.size, 2, none⟩ = some (.int .i64 pc) ∧ w'.cell? ⟨w8.heap.size, 3, none⟩ = some (.slice A1 st.length c1) ∧ w'.cell? ⟨w8.heap.size, 4, none⟩ = some (.slice A2 me.length c2) ∧ w'.cell? ⟨w8.heap.size, 5, none⟩ = some (.int .i64 tk) ∧ w'.cell? ⟨w8.heap.size, 6, none⟩ = some (.int .i64 fa) ∧ w'.cell? ⟨w9.heap.size, 0, none⟩ = some (.slice B sent.length d) ∧ w'.cell? ⟨w9.heap.size, 1, none⟩ = some (.bool cf) ∧ w'.cell? ⟨w9.heap.size, 2, none⟩ = some (.bool true)) (go_keep) (first
            | (go_at_call 13; refine (j13.out _ ?_).mono ?_; (first | exact HB.out | exact bel_drewV HB.out); rintro e wx ⟨rfl, hb9⟩; have hn : Below wC.heap.size wC wx := (by first | exact bel_trans HB.out hb9 | exact bel_trans (bel_drewV HB.out) hb9); clear HB c20 c21 c22 c23 c24 c25 c26 c27 c28 c29; obtain ⟨c20, c21, c22, c23, c24, c25, c26, c27, c28, c29⟩ := HCL.out wx hn; have HB := hid hn; clear hb9 hn)
            | (go_at_call 15; refine (j15.out _ ?_).mono ?_; (first | exact HB.out | exact bel_drewV HB.out); rintro e wy ⟨B1, l1, B2, l2, rfl, hr1, hr2, hb9⟩; have hn : Below wC.heap.size wC wy := (by first | exact bel_trans HB.out hb9 | exact bel_trans (bel_drewV HB.out) hb9); clear HB c20 c21 c22 c23 c24 c25 c26 c27 c28 c29; obtain ⟨c20, c21, c22, c23, c24, c25, c26, c27, c28, c29⟩ := HCL.out wy hn; have HB := hid hn; have HS3 := hid (hr1.belowS hb9); have HS4 := hid (hr2.belowS hb9); clear hr1 hr2; clear hb9 hn)
            | (go_at_call 14; refine (j14.out _ _ _ _ _ _ _ _ _ ?_ ?_ ?_ ?_).mono ?_; exact HS12.out.1.belowS HB.out; exact HS12.out.2.belowS HB.out; exact HS3.out; exact HS4.out; rintro e wz9 ⟨rfl, hb9⟩; have hn : Below wC.heap.size wC wz9 := bel_trans HB.out hb9; clear HB c20 c21 c22 c23 c24 c25 c26 c27 c28 c29; obtain ⟨c20, c21, c22, c23, c24, c25, c26, c27, c28, c29⟩ := HCL.out wz9 hn; have HB := hid hn; clear hb9 hn))) | fail
          all_goals
            have HE := hid (HFIN.out.belowS HB.out)
            have HFR : Hid (FineR (some ⟨g, gr, i, ⟨pc, st, me, tk, fa⟩⟩) ((k : Int) + 1)) := hid (fun r hr => by injection hr with e9; subst e9; exact ⟨HI.out, HFs.out, HTT.out.1, HTT.out.2⟩)
            clear c20 c21 c22 c23 c24 c25 c26 c27 c28 c29 HCL j13 j15 j14
            go_wp2_with fail
            go_meet
            exact ⟨some ⟨g, gr, i, ⟨pc, st, me, tk, fa⟩⟩, b, ss', HE.out, HFR.out, HK'.out, hb0, by omega⟩
      · subst hk0
        have i5 := hid (fun W l (h : AllS w3 (ptC p (gP o) b :: l) W) => stop_any h)
        have HH := hid (hAb.out.drop)
        clear v0 v1 v2 v3
        go_wp2_with fail
        refine (i5.out _ _ HH.out).mono ?_
        rintro e w8 ⟨rfl, hA8⟩
        have hA9 := AllS.pickT (l := [ptC p none b, rpC q (gQ o) b, setC gs t.chans ss, refC gR t.chans (hL ss)]) (t := machL o) hA8 [1, 0, 2, 3] [] (show (List.range 4).Perm _ by decide) rfl
        have hA9 : AllS w3 (rpC q (gQ o) b :: ptC p none b :: setC gs t.chans ss :: refC gR t.chans (hL ss) :: machL o) w8 := hA9
        obtain ⟨r0, r1, rf⟩ := hA9.rpCells
        have HA9 := hid hA9
        clear hA8 hA9 i5 HH
        go_wp2_with fail
        have h9 : AllS w3 (rpC q none b :: ptC p none b :: setC gs t.chans ss :: refC gR t.chans (hL ss) :: machL o) (w8.setCell ⟨q, 0, none⟩ (.pointer none)) := AllS.store (x := q) HA9.out 0 (.pointer none)
        have h10 := AllS.pick (l := [rpC q none b, ptC p none b, setC gs t.chans ss, refC gR t.chans (hL ss)]) (h9.sub (List.sublist_append_left [rpC q none b, ptC p none b, setC gs t.chans ss, refC gR t.chans (hL ss)] (machL o))) [1, 0, 2, 3] [] (show (List.range 4).Perm _ by decide) rfl
        go_meet
        exact ⟨none, b, ss, h10, fun r hr => (by simp at hr), HK.out, hb0, by omega⟩
      · subst hk0
        as_aux_lemma =>
          by_cases hc0 : 0 ≤ chan ∧ chan < t.chans.length
          case neg =>
            have HX := hid (HX3.out.belowS hAb.out.bel)
            have c3 : wb.cell? ⟨w.heap.size, 3, none⟩ = some (.slice a.A3 t.chans.length a.c3) := HX.out.cellAt rfl
            by_cases hcn : 0 ≤ chan
            case' pos =>
              have y2 : decide (0 ≤ chan) = true := decide_eq_true hcn
              have y3 : decide (chan < (t.chans.length : Int)) = false := decide_eq_false (by omega)
            case' neg => have y2 : decide (0 ≤ chan) = false := decide_eq_false hcn
            all_goals
              clear hc0 hcn
              go_wp2_with fail
              go_meet
              exact ⟨o, b, ss, hAb.out.drop, HF.out.more (by omega), HK.out, hb0, by omega⟩
          obtain ⟨qc, rfl⟩ : ∃ qc : Nat, chan = (qc : Int) := ⟨chan.toNat, by omega⟩
          have hq : qc < t.chans.length := by omega
          have HX := hid (HX3.out.belowS hAb.out.bel)
          have c3 : wb.cell? ⟨w.heap.size, 3, none⟩ = some (.slice a.A3 t.chans.length a.c3) := HX.out.cellAt rfl
          obtain ⟨ad3, x, hA3, had3, hx3, e0, _⟩ := (HC.out.inn.2.2.belowS (bel_trans HB3x.out hAb.out.bel)).at_ hq
          have e0' := e0 _ rfl
          have y2 : decide ((0 : Int) ≤ (qc : Int)) = true := decide_eq_true (by omega)
          have y2' : decide (0 ≤ qc) = true := decide_eq_true (by omega)
          have y3 : decide ((qc : Int) < (t.chans.length : Int)) = true := decide_eq_true (by omega)
          have y3' : decide (qc < t.chans.length) = true := decide_eq_true hq
          have z2 : (0 : Int) ≤ (qc : Int) := Int.natCast_nonneg _
          have z3 : (qc : Int) < (t.chans.length : Int) := by omega
          have HH := hid (show AllS w3 (setC gs t.chans ss :: blkC wo.heap.size 44 [.int .i64 3, .int .i64 img, .int .i64 (qc : Int), .int .i64 num] :: ptC p (gP o) b :: rpC q (gQ o) b :: refC gR t.chans (hL ss) :: machL o) wb from AllS.pickT (l := [blkC wo.heap.size 44 [.int .i64 3, .int .i64 img, .int .i64 (qc : Int), .int .i64 num], ptC p (gP o) b, rpC q (gQ o) b, setC gs t.chans ss, refC gR t.chans (hL ss)]) (t := machL o) hAb.out [3, 0, 1, 2, 4] [] (show (List.range 5).Perm _ by decide) rfl)
          have i5 := hid (fun W (hb : Below wb.heap.size wb W) => (HH.out.belowS hb).sendA HK.out HD4.out x.src (qc : Int) num)
          have i6 := hid (fun W l (h : AllS w3 (refC gR t.chans (hL ss) :: l) W) => h.sendR HK.out HD4.out x.src (qc : Int) num)
          have HK' := hid (HK.out.sendP x.src (qc : Int) num)
          obtain ⟨r, hr⟩ : ∃ r, sendP t.chans ss x.src (qc : Int) num = r := ⟨_, rfl⟩
          rw [hr] at HK'
          simp only [hr] at i5 i6
          obtain ⟨rb, rE, ss'⟩ := r
          simp only at i5 i6 HK'
          unfold toldV at i6
          rw [hA3] at c3
          have HA3 := hid hA3
          have HXE := hid hx3
          clear hr hx3 e0 hc0 hA3 HH had3
          go_wp2_with fail
          go_still_tail 12, (by kernel_rfl)
          go_wp2_with fail
          refine (i5.out _ (bel_drewV (Below.refl _ _))).mono ?_
          rintro e w11 ⟨rfl, hA11⟩
          have hP : AllS w3 (refC gR t.chans (hL ss) :: setC gs t.chans ss' :: blkC wo.heap.size 44 [.int .i64 3, .int .i64 img, .int .i64 (qc : Int), .int .i64 num] :: ptC p (gP o) b :: rpC q (gQ o) b :: machL o) w11 := AllS.pickT (l := [setC gs t.chans ss', blkC wo.heap.size 44 [.int .i64 3, .int .i64 img, .int .i64 (qc : Int), .int .i64 num], ptC p (gP o) b, rpC q (gQ o) b, refC gR t.chans (hL ss)]) (t := machL o) hA11 [4, 0, 1, 2, 3] [] (show (List.range 5).Perm _ by decide) rfl
          have hbk := hP.drop.drop.blk
          have c3 : w11.cell? ⟨w.heap.size, 3, none⟩ = some (.slice a.A3 t.chans.length a.c3) := (HX3.out.belowS hA11.bel).cellAt rfl
          rw [HA3.out] at c3
          obtain ⟨ad4, x4, hA4, had4, hx4, e4, _⟩ := (HC.out.inn.2.2.belowS (bel_trans HB3x.out hA11.bel)).at_ hq
          clear v0 v1 v2 v3 i5 e0'
          have v0 : w11.cell? ⟨wo.heap.size, 0, none⟩ = some (.int .i64 3) := hbk.cellAt rfl
          have v1 : w11.cell? ⟨wo.heap.size, 1, none⟩ = some (.int .i64 img) := hbk.cellAt rfl
          have v2 : w11.cell? ⟨wo.heap.size, 2, none⟩ = some (.int .i64 (qc : Int)) := hbk.cellAt rfl
          have v3 : w11.cell? ⟨wo.heap.size, 3, none⟩ = some (.int .i64 num) := hbk.cellAt rfl
          rw [HA3.out] at hA4
          injection hA4 with hA4
          subst hA4
          rw [HXE.out] at hx4
          injection hx4 with hx4
          subst hx4
          have e4' := e4 _ rfl
          have i7 := hid (fun W (hb : Below w11.heap.size w11 W) => i6.out W _ (hP.belowS hb))
          clear e4 hbk hP hA11 had4 i6
          go_wp2_with fail
          go_still_tail 12, (by kernel_rfl)
          go_wp2_with fail
          refine (i7.out _ (bel_drewV (Below.refl _ _))).mono ?_
          rintro e w12 ⟨rfl, hA12⟩
          have HA12 := hid (show AllS w3 (ptC p (gP o) b :: rpC q (gQ o) b :: setC gs t.chans ss' :: refC gR t.chans (hL ss') :: machL o) w12 from AllS.pickT (l := [refC gR t.chans (hL ss'), setC gs t.chans ss', blkC wo.heap.size 44 [.int .i64 3, .int .i64 img, .int .i64 (qc : Int), .int .i64 num], ptC p (gP o) b, rpC q (gQ o) b]) (t := machL o) hA12 [3, 4, 1, 0] [2] (show (List.range 5).Perm _ by decide) rfl)
          clear hA12 i7 c3 e4' v0 v1 v2 v3 y2 y2' y3 y3' z2 z3
          go_wp2_with fail
          go_meet
          exact ⟨o, b, ss', HA12.out, HF.out.more (by omega), HK'.out, hb0, by omega⟩
      · have y2 : (kind == 0) = false := by simpa using hk0
        have y3 : (kind == 1) = false := by simpa using hk1
        have y4 : (kind == 2) = false := by simpa using hk2
        have y5 : (kind == 3) = false := by simpa using hk3
        clear hk0 hk1 hk2 hk3
        go_wp2_with fail
        go_meet
        exact ⟨o, b, ss, hAb.out.drop, HF.out.more (by omega), HK.out, hb0, by omega⟩
    case rest =>
      obtain ⟨o', b', ss', hA, hF', hK', hb0', hbk'⟩ := hcut
      cases o' with
      | none =>
        as_aux_lemma =>
          have HP := hid (show AllS w3 [ptC p none b', rpC q none b', setC gs t.chans ss', refC gR t.chans (hL ss')] wc from hA)
          have i5 := hid (pimage_none HP.out)
          have HK' := hid hK'
          clear hA hF' hK'
          unfold imgV at i5
          simp only [List.length_nil] at i5
          go_wp2_with fail
          refine i5.out.mono ?_
          rintro e w8 ⟨rfl, hb8⟩
          have HB8 := hid hb8
          clear hb8 i5
          go_wp2_with fail
          obtain ⟨wz, hwz, HBz⟩ : ∃ W : World, w8.alloc (.cells #[.int .i64 0, .int .i64 0, .int .i64 0, .int .i64 0, .int .i64 0, .int .i64 0, .int .i64 0, .slice none 0 0] 47) = W ∧ Hid (Below wc.heap.size wc W) := ⟨_, rfl, hid (bel_trans HB8.out (below_alloc1 _ _))⟩
          rw [hwz]
          clear hwz
          have HZ := hid (HP.out.belowS HBz.out)
          have HZr := hid (HZ.out.pick [1, 0, 2, 3] [] (show (List.range 4).Perm _ by decide) rfl)
          have HCL := hid (fun W (hb : Below wz.heap.size wz W) => (show W.cell? ⟨q, 0, none⟩ = some (.pointer none) ∧ W.cell? ⟨q, 1, none⟩ = some (.int .i64 b') from ⟨((show AllS w3 (rpC q none b' :: [ptC p none b', setC gs t.chans ss', refC gR t.chans (hL ss')]) wz from HZr.out).belowS hb).rpCells.1, ((show AllS w3 (rpC q none b' :: [ptC p none b', setC gs t.chans ss', refC gR t.chans (hL ss')]) wz from HZr.out).belowS hb).rpCells.2.1⟩))
          have j21 := hid (fun W (hb : Below wz.heap.size wz W) => callsBel (runs_none (HZ.out.belowS hb)))
          have j22 := hid (fun W (hb : Below wz.heap.size wz W) => callsBel (rRuns_none (show AllS w3 (rpC q none b' :: [ptC p none b', setC gs t.chans ss', refC gR t.chans (hL ss')]) W from HZr.out.belowS hb)))
          have j23 := hid (fun W (hb : Below wz.heap.size wz W) => callsBel (stands_none (HZ.out.belowS hb)))
          have j24 := hid (fun W (hb : Below wz.heap.size wz W) => callsBel (boots_any (HZ.out.belowS hb)))
          have j25 := hid (fun W (hb : Below wz.heap.size wz W) => pstate_none (HZ.out.belowS hb))
          have j15 := hid (fun W (hb : Below wz.heap.size wz W) => rState_none (show AllS w3 (rpC q none b' :: [ptC p none b', setC gs t.chans ss', refC gR t.chans (hL ss')]) W from HZr.out.belowS hb))
          have j14 := hid (fun W (hb : Below wz.heap.size wz W) => sameSt_any ⟨0, [], [], 0, 0⟩ none 0 none 0 none 0 none 0 W Reads.empty Reads.empty Reads.empty Reads.empty (by simp) (by simp))
          have HB := hid (Below.refl wz.heap.size wz)
          obtain ⟨c0, c1⟩ := HCL.out wz HB.out
          refine wp_region_held_drew (S := fun w' => w'.cell? ⟨q, 0, none⟩ = some (.pointer none) ∧ w'.cell? ⟨q, 1, none⟩ = some (.int .i64 b')) (by kernel_rfl) (HCL.out _ (bel_drewV (Below.refl _ _))) (fun hHeld => ?_)
          refine tk_first 0 177 rfl rfl (v := ?_) (by kernel_rfl) (by kernel_rfl) (by kernel_rfl) (fun _ _ _ h => h) (Or.inl ⟨by rfl, ?_⟩) (by assumption) ?_
          rotate_left 1
          focus (intro wS hSw; (try dsimp only at hSw); go_simp; try with_reducible rfl)
          try simp only [Act.put, List.setIfInBounds_toArray, List.set_cons_zero, List.set_cons_succ]
          refine tk_first 1 178 rfl rfl (v := ?_) (by kernel_rfl) (by kernel_rfl) (by kernel_rfl) (fun _ _ _ h => h) (Or.inl ⟨by rfl, ?_⟩) (by assumption) ?_
          rotate_left 1
          focus (intro wS hSw; (try dsimp only at hSw); go_simp; try with_reducible rfl)
          try simp only [Act.put, List.setIfInBounds_toArray, List.set_cons_zero, List.set_cons_succ]
          refine tk_first 2 179 rfl rfl (v := ?_) (by kernel_rfl) (by kernel_rfl) (by kernel_rfl) (fun _ _ _ h => h) (Or.inl ⟨by rfl, ?_⟩) (by assumption) ?_
          rotate_left 1
          focus (intro wS hSw; (try dsimp only at hSw); go_simp; try with_reducible rfl)
          try simp only [Act.put, List.setIfInBounds_toArray, List.set_cons_zero, List.set_cons_succ]
          refine tk_first 3 180 rfl rfl (v := ?_) (by kernel_rfl) (by kernel_rfl) (by kernel_rfl) (fun _ _ _ h => h) (Or.inl ⟨by rfl, ?_⟩) (by assumption) ?_
          rotate_left 1
          focus (intro wS hSw; (try dsimp only at hSw); go_simp; try with_reducible rfl)
          try simp only [Act.put, List.setIfInBounds_toArray, List.set_cons_zero, List.set_cons_succ]
          refine tk_first 4 181 rfl rfl (v := ?_) (by kernel_rfl) (by kernel_rfl) (by kernel_rfl) (fun _ _ _ h => h) (Or.inl ⟨by rfl, ?_⟩) (by assumption) ?_
          rotate_left 1
          focus (intro wS hSw; (try dsimp only at hSw); go_simp; try with_reducible rfl)
          try simp only [Act.put, List.setIfInBounds_toArray, List.set_cons_zero, List.set_cons_succ]
          refine tk_first 5 182 rfl rfl (v := ?_) (by kernel_rfl) (by kernel_rfl) (by kernel_rfl) (fun _ _ _ h => h) (Or.inl ⟨by rfl, ?_⟩) (by assumption) ?_
          rotate_left 1
          focus (intro wS hSw; (try dsimp only at hSw); go_simp; try with_reducible rfl)
          try simp only [Act.put, List.setIfInBounds_toArray, List.set_cons_zero, List.set_cons_succ]
          refine tk_first 6 183 rfl rfl (v := ?_) (by kernel_rfl) (by kernel_rfl) (by kernel_rfl) (fun _ _ _ h => h) (Or.inl ⟨by rfl, ?_⟩) (by assumption) ?_
          rotate_left 1
          focus (intro wS hSw; (try dsimp only at hSw); go_simp; try with_reducible rfl)
          try simp only [Act.put, List.setIfInBounds_toArray, List.set_cons_zero, List.set_cons_succ]
          refine tk_first 7 184 rfl rfl (v := ?_) (by kernel_rfl) (by kernel_rfl) (by kernel_rfl) (fun _ _ _ h => h) (Or.inl ⟨by rfl, ?_⟩) (by assumption) ?_
          rotate_left 1
          focus (intro wS hSw; (try dsimp only at hSw); go_simp; try with_reducible rfl)
          try simp only [Act.put, List.setIfInBounds_toArray, List.set_cons_zero, List.set_cons_succ]
          refine tk_first 8 185 rfl rfl (v := ?_) (by kernel_rfl) (by kernel_rfl) (by kernel_rfl) (fun _ _ _ h => h) (Or.inl ⟨by rfl, ?_⟩) (by assumption) ?_
          rotate_left 1
          focus (intro wS hSw; (try dsimp only at hSw); go_simp; try with_reducible rfl)
          try simp only [Act.put, List.setIfInBounds_toArray, List.set_cons_zero, List.set_cons_succ]
          refine tk_first 9 186 rfl rfl (v := ?_) (by kernel_rfl) (by kernel_rfl) (by kernel_rfl) (fun _ _ _ h => h) (Or.inl ⟨by rfl, ?_⟩) (by assumption) ?_
          rotate_left 1
          focus (intro wS hSw; (try dsimp only at hSw); go_simp; try with_reducible rfl)
          try simp only [Act.put, List.setIfInBounds_toArray, List.set_cons_zero, List.set_cons_succ]
          refine tk_first 10 187 rfl rfl (v := undef) (by kernel_rfl) (by kernel_rfl) (by kernel_rfl) (fun _ _ _ h => h) (Or.inr ⟨by rfl, rfl⟩) (by assumption) ?_
          try simp only [Act.put, List.setIfInBounds_toArray, List.set_cons_zero, List.set_cons_succ]
          refine tk_first 11 188 rfl rfl (v := undef) (by kernel_rfl) (by kernel_rfl) (by kernel_rfl) (fun _ _ _ h => h) (Or.inr ⟨by rfl, rfl⟩) (by assumption) ?_
          try simp only [Act.put, List.setIfInBounds_toArray, List.set_cons_zero, List.set_cons_succ]
          refine tk_first 12 189 rfl rfl (v := undef) (by kernel_rfl) (by kernel_rfl) (by kernel_rfl) (fun _ _ _ h => h) (Or.inr ⟨by rfl, rfl⟩) (by assumption) ?_
          try simp only [Act.put, List.setIfInBounds_toArray, List.set_cons_zero, List.set_cons_succ]
          refine tk_first 13 190 rfl rfl (v := undef) (by kernel_rfl) (by kernel_rfl) (by kernel_rfl) (fun _ _ _ h => h) (Or.inr ⟨by rfl, rfl⟩) (by assumption) ?_
          try simp only [Act.put, List.setIfInBounds_toArray, List.set_cons_zero, List.set_cons_succ]
          refine tk_first 14 191 rfl rfl (v := undef) (by kernel_rfl) (by kernel_rfl) (by kernel_rfl) (fun _ _ _ h => h) (Or.inr ⟨by rfl, rfl⟩) (by assumption) ?_
          try simp only [Act.put, List.setIfInBounds_toArray, List.set_cons_zero, List.set_cons_succ]
          refine tk_first 15 192 rfl rfl (v := undef) (by kernel_rfl) (by kernel_rfl) (by kernel_rfl) (fun _ _ _ h => h) (Or.inr ⟨by rfl, rfl⟩) (by assumption) ?_
          try simp only [Act.put, List.setIfInBounds_toArray, List.set_cons_zero, List.set_cons_succ]
          refine tk_first 16 193 rfl rfl (v := undef) (by kernel_rfl) (by kernel_rfl) (by kernel_rfl) (fun _ _ _ h => h) (Or.inr ⟨by rfl, rfl⟩) (by assumption) ?_
          try simp only [Act.put, List.setIfInBounds_toArray, List.set_cons_zero, List.set_cons_succ]
          refine tk_first 17 194 rfl rfl (v := undef) (by kernel_rfl) (by kernel_rfl) (by kernel_rfl) (fun _ _ _ h => h) (Or.inr ⟨by rfl, rfl⟩) (by assumption) ?_
          try simp only [Act.put, List.setIfInBounds_toArray, List.set_cons_zero, List.set_cons_succ]
          refine tk_first 18 195 rfl rfl (v := undef) (by kernel_rfl) (by kernel_rfl) (by kernel_rfl) (fun _ _ _ h => h) (Or.inr ⟨by rfl, rfl⟩) (by assumption) ?_
          try simp only [Act.put, List.setIfInBounds_toArray, List.set_cons_zero, List.set_cons_succ]
          refine tk_first 19 196 rfl rfl (v := undef) (by kernel_rfl) (by kernel_rfl) (by kernel_rfl) (fun _ _ _ h => h) (Or.inr ⟨by rfl, rfl⟩) (by assumption) ?_
          try simp only [Act.put, List.setIfInBounds_toArray, List.set_cons_zero, List.set_cons_succ]
          refine tk_first 20 197 rfl rfl (v := ?_) (by kernel_rfl) (by kernel_rfl) (by kernel_rfl) (fun _ _ _ h => h) (Or.inl ⟨by rfl, ?_⟩) (by assumption) ?_
          rotate_left 1
          focus (intro wS hSw; (try dsimp only at hSw); go_simp; try with_reducible rfl)
          try simp only [Act.put, List.setIfInBounds_toArray, List.set_cons_zero, List.set_cons_succ]
          refine tk_first 21 198 rfl rfl (v := ?_) (by kernel_rfl) (by kernel_rfl) (by kernel_rfl) (fun _ _ _ h => h) (Or.inl ⟨by rfl, ?_⟩) (by assumption) ?_
          rotate_left 1
          focus (intro wS hSw; (try dsimp only at hSw); go_simp; try with_reducible rfl)
          try simp only [Act.put, List.setIfInBounds_toArray, List.set_cons_zero, List.set_cons_succ]
          refine tk_first 22 199 rfl rfl (v := ?_) (by kernel_rfl) (by kernel_rfl) (by kernel_rfl) (fun _ _ _ h => h) (Or.inl ⟨by rfl, ?_⟩) (by assumption) ?_
          rotate_left 1
          focus (intro wS hSw; (try dsimp only at hSw); go_simp; try with_reducible rfl)
          try simp only [Act.put, List.setIfInBounds_toArray, List.set_cons_zero, List.set_cons_succ]
          refine tk_first 23 200 rfl rfl (v := ?_) (by kernel_rfl) (by kernel_rfl) (by kernel_rfl) (fun _ _ _ h => h) (Or.inl ⟨by rfl, ?_⟩) (by assumption) ?_
          rotate_left 1
          focus (intro wS hSw; (try dsimp only at hSw); go_simp; try with_reducible rfl)
          try simp only [Act.put, List.setIfInBounds_toArray, List.set_cons_zero, List.set_cons_succ]
          refine tk_first 25 202 rfl rfl (v := ?_) (by kernel_rfl) (by kernel_rfl) (by kernel_rfl) (fun _ _ _ h => h) (Or.inl ⟨by rfl, ?_⟩) (by assumption) ?_
          rotate_left 1
          focus (intro wS hSw; (try dsimp only at hSw); go_simp; try with_reducible rfl)
          try simp only [Act.put, List.setIfInBounds_toArray, List.set_cons_zero, List.set_cons_succ]
          refine wpAnyH_ready (rs := [24]) (by kernel_rfl) (by simp) ?_
          refine AllReadyH.cons (i := 24) (o := _) rfl (fun K hK => ?_) AllReadyH.nil
          go_simp
          (go_at_call 21; refine (j21.out _ ?_).mono ?_; (exact bel_drewV (Below.refl _ _)); rintro e wh1 ⟨rfl, hb9⟩; have hn1 : Below wz.heap.size wz wh1 := ⟨hb9.os, hb9.tape, hb9.output, hb9.size, hb9.block⟩; clear hb9)
          refine hK.out _ _ (HCL.out _ hn1) (fun hHeld => ?_)
          clear hK K
          try simp only [Act.put, List.setIfInBounds_toArray, List.set_cons_zero, List.set_cons_succ]
          refine wpAnyH_ready (rs := [26]) (by kernel_rfl) (by simp) ?_
          refine AllReadyH.cons (i := 26) (o := _) rfl (fun K hK => ?_) AllReadyH.nil
          go_simp
          (go_at_call 22; refine (j22.out _ ?_).mono ?_; (exact hn1); rintro e wh2 ⟨rfl, hb9⟩; have hn2 : Below wz.heap.size wz wh2 := bel_trans hn1 hb9; clear hb9)
          refine hK.out _ _ (HCL.out _ hn2) (fun hHeld => ?_)
          clear hK K
          try simp only [Act.put, List.setIfInBounds_toArray, List.set_cons_zero, List.set_cons_succ]
          refine tk_first 27 204 rfl rfl (v := ?_) (by kernel_rfl) (by kernel_rfl) (by kernel_rfl) (fun _ _ _ h => h) (Or.inl ⟨by rfl, ?_⟩) (by assumption) ?_
          rotate_left 1
          focus (intro wS hSw; (try dsimp only at hSw); go_simp; try with_reducible rfl)
          try simp only [Act.put, List.setIfInBounds_toArray, List.set_cons_zero, List.set_cons_succ]
          refine tk_first 28 205 rfl rfl (v := ?_) (by kernel_rfl) (by kernel_rfl) (by kernel_rfl) (fun _ _ _ h => h) (Or.inl ⟨by rfl, ?_⟩) (by assumption) ?_
          rotate_left 1
          focus (intro wS hSw; (try dsimp only at hSw); go_simp; try with_reducible rfl)
          try simp only [Act.put, List.setIfInBounds_toArray, List.set_cons_zero, List.set_cons_succ]
          refine tk_first 29 206 rfl rfl (v := ?_) (by kernel_rfl) (by kernel_rfl) (by kernel_rfl) (fun _ _ _ h => h) (Or.inl ⟨by rfl, ?_⟩) (by assumption) ?_
          rotate_left 1
          focus (intro wS hSw; (try dsimp only at hSw); go_simp; try with_reducible rfl)
          try simp only [Act.put, List.setIfInBounds_toArray, List.set_cons_zero, List.set_cons_succ]
          refine tk_first 30 207 rfl rfl (v := ?_) (by kernel_rfl) (by kernel_rfl) (by kernel_rfl) (fun _ _ _ h => h) (Or.inl ⟨by rfl, ?_⟩) (by assumption) ?_
          rotate_left 1
          focus (intro wS hSw; (try dsimp only at hSw); go_simp; try with_reducible rfl)
          try simp only [Act.put, List.setIfInBounds_toArray, List.set_cons_zero, List.set_cons_succ]
          refine tk_first 32 209 rfl rfl (v := ?_) (by kernel_rfl) (by kernel_rfl) (by kernel_rfl) (fun _ _ _ h => h) (Or.inl ⟨by rfl, ?_⟩) (by assumption) ?_
          rotate_left 1
          focus (intro wS hSw; (try dsimp only at hSw); go_simp; try with_reducible rfl)
          try simp only [Act.put, List.setIfInBounds_toArray, List.set_cons_zero, List.set_cons_succ]
          refine wpAnyH_ready (rs := [31]) (by kernel_rfl) (by simp) ?_
          refine AllReadyH.cons (i := 31) (o := _) rfl (fun K hK => ?_) AllReadyH.nil
          go_simp
          (go_at_call 23; refine (j23.out _ ?_).mono ?_; (exact hn2); rintro e wh3 ⟨rfl, hb9⟩; have hn3 : Below wz.heap.size wz wh3 := bel_trans hn2 hb9; clear hb9)
          refine hK.out _ _ (HCL.out _ hn3) (fun hHeld => ?_)
          clear hK K
          try simp only [Act.put, List.setIfInBounds_toArray, List.set_cons_zero, List.set_cons_succ]
          refine tk_first 33 210 rfl rfl (v := ?_) (by kernel_rfl) (by kernel_rfl) (by kernel_rfl) (fun _ _ _ h => h) (Or.inl ⟨by rfl, ?_⟩) (by assumption) ?_
          rotate_left 1
          focus (intro wS hSw; (try dsimp only at hSw); go_simp; try with_reducible rfl)
          try simp only [Act.put, List.setIfInBounds_toArray, List.set_cons_zero, List.set_cons_succ]
          refine tk_first 34 211 rfl rfl (v := undef) (by kernel_rfl) (by kernel_rfl) (by kernel_rfl) (fun _ _ _ h => h) (Or.inr ⟨by rfl, rfl⟩) (by assumption) ?_
          try simp only [Act.put, List.setIfInBounds_toArray, List.set_cons_zero, List.set_cons_succ]
          refine tk_first 35 212 rfl rfl (v := undef) (by kernel_rfl) (by kernel_rfl) (by kernel_rfl) (fun _ _ _ h => h) (Or.inr ⟨by rfl, rfl⟩) (by assumption) ?_
          try simp only [Act.put, List.setIfInBounds_toArray, List.set_cons_zero, List.set_cons_succ]
          refine tk_first 36 213 rfl rfl (v := undef) (by kernel_rfl) (by kernel_rfl) (by kernel_rfl) (fun _ _ _ h => h) (Or.inr ⟨by rfl, rfl⟩) (by assumption) ?_
          try simp only [Act.put, List.setIfInBounds_toArray, List.set_cons_zero, List.set_cons_succ]
          refine tk_first 37 214 rfl rfl (v := ?_) (by kernel_rfl) (by kernel_rfl) (by kernel_rfl) (fun _ _ _ h => h) (Or.inl ⟨by rfl, ?_⟩) (by assumption) ?_
          rotate_left 1
          focus (intro wS hSw; (try dsimp only at hSw); go_simp; try with_reducible rfl)
          try simp only [Act.put, List.setIfInBounds_toArray, List.set_cons_zero, List.set_cons_succ]
          refine tk_first 38 215 rfl rfl (v := ?_) (by kernel_rfl) (by kernel_rfl) (by kernel_rfl) (fun _ _ _ h => h) (Or.inl ⟨by rfl, ?_⟩) (by assumption) ?_
          rotate_left 1
          focus (intro wS hSw; (try dsimp only at hSw); go_simp; try with_reducible rfl)
          try simp only [Act.put, List.setIfInBounds_toArray, List.set_cons_zero, List.set_cons_succ]
          refine tk_first 39 216 rfl rfl (v := ?_) (by kernel_rfl) (by kernel_rfl) (by kernel_rfl) (fun _ _ _ h => h) (Or.inl ⟨by rfl, ?_⟩) (by assumption) ?_
          rotate_left 1
          focus (intro wS hSw; (try dsimp only at hSw); go_simp; try with_reducible rfl)
          try simp only [Act.put, List.setIfInBounds_toArray, List.set_cons_zero, List.set_cons_succ]
          refine tk_first 40 217 rfl rfl (v := ?_) (by kernel_rfl) (by kernel_rfl) (by kernel_rfl) (fun _ _ _ h => h) (Or.inl ⟨by rfl, ?_⟩) (by assumption) ?_
          rotate_left 1
          focus (intro wS hSw; (try dsimp only at hSw); go_simp; try with_reducible rfl)
          try simp only [Act.put, List.setIfInBounds_toArray, List.set_cons_zero, List.set_cons_succ]
          refine tk_first 41 218 rfl rfl (v := ?_) (by kernel_rfl) (by kernel_rfl) (by kernel_rfl) (fun _ _ _ h => h) (Or.inl ⟨by rfl, ?_⟩) (by assumption) ?_
          rotate_left 1
          focus (intro wS hSw; (try dsimp only at hSw); go_simp; try with_reducible rfl)
          try simp only [Act.put, List.setIfInBounds_toArray, List.set_cons_zero, List.set_cons_succ]
          refine tk_first 43 220 rfl rfl (v := ?_) (by kernel_rfl) (by kernel_rfl) (by kernel_rfl) (fun _ _ _ h => h) (Or.inl ⟨by rfl, ?_⟩) (by assumption) ?_
          rotate_left 1
          focus (intro wS hSw; (try dsimp only at hSw); go_simp; try with_reducible rfl)
          try simp only [Act.put, List.setIfInBounds_toArray, List.set_cons_zero, List.set_cons_succ]
          refine tk_first 44 221 rfl rfl (v := ?_) (by kernel_rfl) (by kernel_rfl) (by kernel_rfl) (fun _ _ _ h => h) (Or.inl ⟨by rfl, ?_⟩) (by assumption) ?_
          rotate_left 1
          focus (intro wS hSw; (try dsimp only at hSw); go_simp; try with_reducible rfl)
          try simp only [Act.put, List.setIfInBounds_toArray, List.set_cons_zero, List.set_cons_succ]
          refine tk_first 45 222 rfl rfl (v := ?_) (by kernel_rfl) (by kernel_rfl) (by kernel_rfl) (fun _ _ _ h => h) (Or.inl ⟨by rfl, ?_⟩) (by assumption) ?_
          rotate_left 1
          focus (intro wS hSw; (try dsimp only at hSw); go_simp; try with_reducible rfl)
          try simp only [Act.put, List.setIfInBounds_toArray, List.set_cons_zero, List.set_cons_succ]
          refine tk_first 46 223 rfl rfl (v := ?_) (by kernel_rfl) (by kernel_rfl) (by kernel_rfl) (fun _ _ _ h => h) (Or.inl ⟨by rfl, ?_⟩) (by assumption) ?_
          rotate_left 1
          focus (intro wS hSw; (try dsimp only at hSw); go_simp; try with_reducible rfl)
          try simp only [Act.put, List.setIfInBounds_toArray, List.set_cons_zero, List.set_cons_succ]
          refine wpAnyH_ready (rs := [42]) (by kernel_rfl) (by simp) ?_
          refine AllReadyH.cons (i := 42) (o := _) rfl (fun K hK => ?_) AllReadyH.nil
          go_simp
          (go_at_call 24; refine (j24.out _ ?_).mono ?_; (exact hn3); rintro e wh4 ⟨rfl, hb9⟩; have hn4 : Below wz.heap.size wz wh4 := bel_trans hn3 hb9; clear hb9)
          refine hK.out _ _ (HCL.out _ hn4) (fun hHeld => ?_)
          clear hK K
          try simp only [Act.put, List.setIfInBounds_toArray, List.set_cons_zero, List.set_cons_succ]
          refine tk_first 47 224 rfl rfl (v := ?_) (by kernel_rfl) (by kernel_rfl) (by kernel_rfl) (fun _ _ _ h => h) (Or.inl ⟨by rfl, ?_⟩) (by assumption) ?_
          rotate_left 1
          focus (intro wS hSw; (try dsimp only at hSw); go_simp; try with_reducible rfl)
          try simp only [Act.put, List.setIfInBounds_toArray, List.set_cons_zero, List.set_cons_succ]
          refine tk_first 48 225 rfl rfl (v := ?_) (by kernel_rfl) (by kernel_rfl) (by kernel_rfl) (fun _ _ _ h => h) (Or.inl ⟨by rfl, ?_⟩) (by assumption) ?_
          rotate_left 1
          focus (intro wS hSw; (try dsimp only at hSw); go_simp; try with_reducible rfl)
          try simp only [Act.put, List.setIfInBounds_toArray, List.set_cons_zero, List.set_cons_succ]
          refine tk_first 49 226 rfl rfl (v := ?_) (by kernel_rfl) (by kernel_rfl) (by kernel_rfl) (fun _ _ _ h => h) (Or.inl ⟨by rfl, ?_⟩) (by assumption) ?_
          rotate_left 1
          focus (intro wS hSw; (try dsimp only at hSw); go_simp; try with_reducible rfl)
          try simp only [Act.put, List.setIfInBounds_toArray, List.set_cons_zero, List.set_cons_succ]
          refine tk_first 50 227 rfl rfl (v := ?_) (by kernel_rfl) (by kernel_rfl) (by kernel_rfl) (fun _ _ _ h => h) (Or.inl ⟨by rfl, ?_⟩) (by assumption) ?_
          rotate_left 1
          focus (intro wS hSw; (try dsimp only at hSw); go_simp; try with_reducible rfl)
          try simp only [Act.put, List.setIfInBounds_toArray, List.set_cons_zero, List.set_cons_succ]
          refine tk_first 52 229 rfl rfl (v := ?_) (by kernel_rfl) (by kernel_rfl) (by kernel_rfl) (fun _ _ _ h => h) (Or.inl ⟨by rfl, ?_⟩) (by assumption) ?_
          rotate_left 1
          focus (intro wS hSw; (try dsimp only at hSw); go_simp; try with_reducible rfl)
          try simp only [Act.put, List.setIfInBounds_toArray, List.set_cons_zero, List.set_cons_succ]
          refine wpAnyH_ready (rs := [51]) (by kernel_rfl) (by simp) ?_
          refine AllReadyH.cons (i := 51) (o := _) rfl (fun K hK => ?_) AllReadyH.nil
          go_simp
          (go_at_call 25; refine (j25.out _ ?_).mono ?_; (exact hn4); rintro e wh5 ⟨rfl, hb9⟩; have hn5 : Below wz.heap.size wz wh5 := bel_trans hn4 hb9; clear hb9)
          refine hK.out _ _ (HCL.out _ hn5) (fun hHeld => ?_)
          clear hK K
          try simp only [Act.put, List.setIfInBounds_toArray, List.set_cons_zero, List.set_cons_succ]
          refine wpAnyH_ready (rs := [53]) (by kernel_rfl) (by simp) ?_
          refine AllReadyH.cons (i := 53) (o := _) rfl (fun K hK => ?_) AllReadyH.nil
          go_simp
          (go_at_call 15; refine (j15.out _ ?_).mono ?_; (exact hn5); rintro e wh6 ⟨rfl, hb9⟩; have hn6 : Below wz.heap.size wz wh6 := bel_trans hn5 hb9; clear hb9)
          refine hK.out _ _ (HCL.out _ hn6) (fun hHeld => ?_)
          clear hK K
          try simp only [Act.put, List.setIfInBounds_toArray, List.set_cons_zero, List.set_cons_succ]
          refine wpAnyH_ready (rs := [54]) (by kernel_rfl) (by simp) ?_
          refine AllReadyH.cons (i := 54) (o := _) rfl (fun K hK => ?_) AllReadyH.nil
          go_simp
          (go_at_call 14; refine (j14.out _ ?_).mono ?_; (exact hn6); rintro e wh7 ⟨rfl, hb9⟩; have hn7 : Below wz.heap.size wz wh7 := bel_trans hn6 hb9; clear hb9)
          refine hK.out _ _ (HCL.out _ hn7) (fun hHeld => ?_)
          clear hK K
          try simp only [Act.put, List.setIfInBounds_toArray, List.set_cons_zero, List.set_cons_succ]
          refine tk_first 55 232 rfl rfl (v := ?_) (by kernel_rfl) (by kernel_rfl) (by kernel_rfl) (fun _ _ _ h => h) (Or.inl ⟨by rfl, ?_⟩) (by assumption) ?_
          rotate_left 1
          focus (intro wS hSw; (try dsimp only at hSw); go_simp; try with_reducible rfl)
          try simp only [Act.put, List.setIfInBounds_toArray, List.set_cons_zero, List.set_cons_succ]
          refine tk_first 56 233 rfl rfl (v := ?_) (by kernel_rfl) (by kernel_rfl) (by kernel_rfl) (fun _ _ _ h => h) (Or.inl ⟨by rfl, ?_⟩) (by assumption) ?_
          rotate_left 1
          focus (intro wS hSw; (try dsimp only at hSw); go_simp; try with_reducible rfl)
          try simp only [Act.put, List.setIfInBounds_toArray, List.set_cons_zero, List.set_cons_succ]
          refine wpAnyH_done (by kernel_rfl) ?_ _
          have HE := hid (show AllS w3 (ptC p (gP none) b' :: rpC q (gQ none) b' :: setC gs t.chans ss' :: refC gR t.chans (hL ss') :: machL none) _ from HZ.out.belowS hn7)
          clear c0 c1 HCL j21 j22 j23 j24 j25 j15 j14
          go_wp2_with fail
          go_roundw
          case rel => exact ⟨k + 1, none, b', ss', by omega, by go_num, HE.out, fun r hr => (by simp at hr), HK'.out, hb0', by omega⟩
          case measure => simp [intOf]; omega
      | some r9 =>
        as_aux_lemma =>
          obtain ⟨g, gr, i, s⟩ := r9
          have hfr := hF' _ rfl
          simp only at hfr
          obtain ⟨hI, hFs, ht0, ht1⟩ := hfr
          have HP := hid (show AllS w3 [ptC p (some g) b', rpC q (some gr) b', setC gs t.chans ss', refC gR t.chans (hL ss'), vmC g i s, rvC gr i s] wc from hA)
          have HI := hid hI
          have HFs := hid hFs
          have HK' := hid hK'
          have HF' := hid hF'
          have HV := hid (show AllS w3 (ptC p (some g) b' :: vmC g i s :: []) wc from HP.out.pick [0, 4] [1, 2, 3, 5] (show (List.range 6).Perm _ by decide) rfl)
          have HR := hid (show AllS w3 (rpC q (some gr) b' :: rvC gr i s :: []) wc from HP.out.pick [1, 5] [0, 2, 3, 4] (show (List.range 6).Perm _ by decide) rfl)
          have i5 := hid (pimage_any HV.out hI)
          clear hA hF' hK' hI hFs
          unfold imgV at i5
          go_wp2_with fail
          refine i5.out.mono ?_
          rintro e w8 ⟨AP, cP, rfl, ho8, hb8⟩
          have HB8 := hid hb8
          have HO8 := hid (Reads.of_own ho8)
          clear hb8 ho8 i5
          go_wp2_with fail
          obtain ⟨wz, hwz, HBz, HXz, HBz8⟩ : ∃ W : World, w8.alloc (.cells #[.int .i64 i.part, .int .i64 i.ver, .int .i64 i.hard, .int .i64 i.mem, .int .i64 i.fuel, .int .i64 i.sends, .int .i64 i.recvs, .slice AP i.code.length cP] 47) = W ∧ Hid (Below wc.heap.size wc W) ∧ Hid (Blk W w8.heap.size 47 (imgC i AP cP)) ∧ Hid (Below w8.heap.size w8 W) := ⟨_, rfl, hid (bel_trans HB8.out (below_alloc1 _ _)), hid (Blk.new _ _ (imgC i AP cP)), hid (below_alloc1 _ _)⟩
          rw [hwz]
          clear hwz
          have HVz := hid (HV.out.belowS HBz.out)
          have HRz := hid (HR.out.belowS HBz.out)
          have HOz := hid (HO8.out.belowS HBz8.out)
          obtain ⟨AR, cR, hcR, hRR⟩ := HRz.out.drop.rvImg
          have HRR := hid hRR
          have hgl : gr < wz.heap.size := World.block_lt_of_cell? wz _ hcR.1
          have HCR := hid hcR
          have HGL := hid hgl
          clear hcR hRR hgl
          have HCL := hid (fun W (hb : Below wz.heap.size wz W) => (show W.cell? ⟨q, 0, none⟩ = some (.pointer (some ⟨gr, 0, none⟩)) ∧ W.cell? ⟨q, 1, none⟩ = some (.int .i64 b') ∧ W.cell? ⟨gr, 0, none⟩ = some (.int .i64 i.part) ∧ W.cell? ⟨gr, 1, none⟩ = some (.int .i64 i.ver) ∧ W.cell? ⟨gr, 2, none⟩ = some (.int .i64 i.hard) ∧ W.cell? ⟨gr, 3, none⟩ = some (.int .i64 i.mem) ∧ W.cell? ⟨gr, 4, none⟩ = some (.int .i64 i.fuel) ∧ W.cell? ⟨gr, 5, none⟩ = some (.int .i64 i.sends) ∧ W.cell? ⟨gr, 6, none⟩ = some (.int .i64 i.recvs) ∧ W.cell? ⟨gr, 7, none⟩ = some (.slice AR i.code.length cR) ∧ W.cell? ⟨w8.heap.size, 0, none⟩ = some (.int .i64 i.part) ∧ W.cell? ⟨w8.heap.size, 1, none⟩ = some (.int .i64 i.ver) ∧ W.cell? ⟨w8.heap.size, 2, none⟩ = some (.int .i64 i.hard) ∧ W.cell? ⟨w8.heap.size, 3, none⟩ = some (.int .i64 i.mem) ∧ W.cell? ⟨w8.heap.size, 4, none⟩ = some (.int .i64 i.fuel) ∧ W.cell? ⟨w8.heap.size, 5, none⟩ = some (.int .i64 i.sends) ∧ W.cell? ⟨w8.heap.size, 6, none⟩ = some (.int .i64 i.recvs) ∧ W.cell? ⟨w8.heap.size, 7, none⟩ = some (.slice AP i.code.length cP) from by
            obtain ⟨r0, r1, _⟩ := (HRz.out.belowS hb).rpCells
            obtain ⟨g0, g1, g2, g3, g4, g5, g6, g7⟩ := HCR.out
            obtain ⟨m0, m1, m2, m3, m4, m5, m6, m7⟩ := img_cells (HXz.out.belowS hb)
            exact ⟨r0, r1, (hb.cell (p := ⟨gr, 0, none⟩) HGL.out).trans g0, (hb.cell (p := ⟨gr, 1, none⟩) HGL.out).trans g1, (hb.cell (p := ⟨gr, 2, none⟩) HGL.out).trans g2, (hb.cell (p := ⟨gr, 3, none⟩) HGL.out).trans g3, (hb.cell (p := ⟨gr, 4, none⟩) HGL.out).trans g4, (hb.cell (p := ⟨gr, 5, none⟩) HGL.out).trans g5, (hb.cell (p := ⟨gr, 6, none⟩) HGL.out).trans g6, (hb.cell (p := ⟨gr, 7, none⟩) HGL.out).trans g7, m0, m1, m2, m3, m4, m5, m6, m7⟩))
          have j21 := hid (fun W (hb : Below wz.heap.size wz W) => runs_any (HVz.out.belowS hb) HI.out HFs.out)
          have j22 := hid (fun W (hb : Below wz.heap.size wz W) => callsBel (rRuns_any (HRz.out.belowS hb)))
          have j23 := hid (fun W (hb : Below wz.heap.size wz W) => stands_any (HVz.out.belowS hb) HI.out HFs.out)
          have j24 := hid (fun W (hb : Below wz.heap.size wz W) => callsBel (boots_any (HVz.out.belowS hb)))
          have j25 := hid (fun W (hb : Below wz.heap.size wz W) => pstate_any (HVz.out.belowS hb) HI.out HFs.out)
          have j15 := hid (fun W (hb : Below wz.heap.size wz W) => rState_any (HRz.out.belowS hb))
          have j14 := hid (fun W A1 k1 A2 k2 B1 l1 B2 l2 h1 h2 h3 h4 => sameSt_any s A1 k1 A2 k2 B1 l1 B2 l2 W h1 h2 h3 h4 (by have := HFs.out.len; omega) (by have := HFs.out.mlen; have := HI.out.2.2.2.1; omega))
          have j20 := hid (fun W (hb : Below wz.heap.size wz W) => refSameEqP i AP cP AR cR W (HOz.out.belowS hb) (HRR.out.belowS hb) (by have := HI.out.2.2.2.2.2.2.2; omega))
          unfold imgV at j20
          have HB := hid (Below.refl wz.heap.size wz)
          obtain ⟨c0, c1, c2, c3, c4, c5, c6, c7, c8, c9, c10, c11, c12, c13, c14, c15, c16, c17⟩ := HCL.out wz HB.out
          rw [show (s.fault != 0) = !(s.fault == 0) from rfl] at j23
          obtain ⟨fb, hfb⟩ : ∃ fb : Bool, (s.fault == 0) = fb := ⟨_, rfl⟩
          rw [hfb] at j21 j22 j23
          clear hfb
          cases fb
          all_goals
            simp only [Bool.not_true, Bool.not_false] at j23
            first | fail | (go_region_held3 (fun w' => w'.cell? ⟨q, 0, none⟩ = some (.pointer (some ⟨gr, 0, none⟩)) ∧ w'.cell? ⟨q, 1, none⟩ = some (.int .i64 b') ∧ w'.cell? ⟨gr, 0, none⟩ = some (.int .i64 i.part) ∧ w'.cell? ⟨gr, 1, none⟩ = some (.int .i64 i.ver) ∧ w'.cell? ⟨gr, 2, none⟩ = some (.int .i64 i.hard) ∧ w'.cell? ⟨gr, 3, none⟩ = some (.int .i64 i.mem) ∧ w'.cell? ⟨gr, 4, none⟩ = some (.int .i64 i.fuel) ∧ w'.cell? ⟨gr, 5, none⟩ = some (.int .i64 i.sends) ∧ w'.cell? ⟨gr, 6, none⟩ = some (.int .i64 i.recvs) ∧ w'.cell? ⟨gr, 7, none⟩ = some (.slice AR i.code.length cR) ∧ w'.cell? ⟨w8.heap.size, 0, none⟩ = some (.int .i64 i.part) ∧ w'.cell? ⟨w8.heap.size, 1, none⟩ = some (.int .i64 i.ver) ∧ w'.cell? ⟨w8.heap.size, 2, none⟩ = some (.int .i64 i.hard) ∧ w'.cell? ⟨w8.heap.size, 3, none⟩ = some (.int .i64 i.mem) ∧ w'.cell? ⟨w8.heap.size, 4, none⟩ = some (.int .i64 i.fuel) ∧ w'.cell? ⟨w8.heap.size, 5, none⟩ = some (.int .i64 i.sends) ∧ w'.cell? ⟨w8.heap.size, 6, none⟩ = some (.int .i64 i.recvs) ∧ w'.cell? ⟨w8.heap.size, 7, none⟩ = some (.slice AP i.code.length cP)) (go_keep) (first
              | (go_at_call 20; refine (j20.out _ ?_).mono ?_; (first | exact HB.out | exact bel_drewV HB.out); rintro e w9 ⟨rfl, hb9⟩; have hn : Below wz.heap.size wz w9 := (by first | exact bel_trans HB.out hb9 | exact bel_trans (bel_drewV HB.out) hb9); clear HB c0 c1 c2 c3 c4 c5 c6 c7 c8 c9 c10 c11 c12 c13 c14 c15 c16 c17; obtain ⟨c0, c1, c2, c3, c4, c5, c6, c7, c8, c9, c10, c11, c12, c13, c14, c15, c16, c17⟩ := HCL.out w9 hn; have HB := hid hn; clear hb9 hn)
              | (go_at_call 21; refine (j21.out _ ?_).mono ?_; (first | exact HB.out | exact bel_drewV HB.out); rintro e w9 ⟨rfl, hb9⟩; have hn : Below wz.heap.size wz w9 := (by first | exact bel_trans HB.out hb9 | exact bel_trans (bel_drewV HB.out) hb9); clear HB c0 c1 c2 c3 c4 c5 c6 c7 c8 c9 c10 c11 c12 c13 c14 c15 c16 c17; obtain ⟨c0, c1, c2, c3, c4, c5, c6, c7, c8, c9, c10, c11, c12, c13, c14, c15, c16, c17⟩ := HCL.out w9 hn; have HB := hid hn; clear hb9 hn)
              | (go_at_call 22; refine (j22.out _ ?_).mono ?_; (first | exact HB.out | exact bel_drewV HB.out); rintro e w9 ⟨rfl, hb9⟩; have hn : Below wz.heap.size wz w9 := (by first | exact bel_trans HB.out hb9 | exact bel_trans (bel_drewV HB.out) hb9); clear HB c0 c1 c2 c3 c4 c5 c6 c7 c8 c9 c10 c11 c12 c13 c14 c15 c16 c17; obtain ⟨c0, c1, c2, c3, c4, c5, c6, c7, c8, c9, c10, c11, c12, c13, c14, c15, c16, c17⟩ := HCL.out w9 hn; have HB := hid hn; clear hb9 hn)
              | (go_at_call 23; refine (j23.out _ ?_).mono ?_; (first | exact HB.out | exact bel_drewV HB.out); rintro e w9 ⟨rfl, hb9⟩; have hn : Below wz.heap.size wz w9 := (by first | exact bel_trans HB.out hb9 | exact bel_trans (bel_drewV HB.out) hb9); clear HB c0 c1 c2 c3 c4 c5 c6 c7 c8 c9 c10 c11 c12 c13 c14 c15 c16 c17; obtain ⟨c0, c1, c2, c3, c4, c5, c6, c7, c8, c9, c10, c11, c12, c13, c14, c15, c16, c17⟩ := HCL.out w9 hn; have HB := hid hn; clear hb9 hn)
              | (go_at_call 24; refine (j24.out _ ?_).mono ?_; (first | exact HB.out | exact bel_drewV HB.out); rintro e w9 ⟨rfl, hb9⟩; have hn : Below wz.heap.size wz w9 := (by first | exact bel_trans HB.out hb9 | exact bel_trans (bel_drewV HB.out) hb9); clear HB c0 c1 c2 c3 c4 c5 c6 c7 c8 c9 c10 c11 c12 c13 c14 c15 c16 c17; obtain ⟨c0, c1, c2, c3, c4, c5, c6, c7, c8, c9, c10, c11, c12, c13, c14, c15, c16, c17⟩ := HCL.out w9 hn; have HB := hid hn; clear hb9 hn)
              | (go_at_call 25; refine (j25.out _ ?_).mono ?_; (first | exact HB.out | exact bel_drewV HB.out); rintro e w9 ⟨A1, k1, A2, k2, rfl, ho1, ho2, hb9⟩; have hn : Below wz.heap.size wz w9 := (by first | exact bel_trans HB.out hb9 | exact bel_trans (bel_drewV HB.out) hb9); clear HB c0 c1 c2 c3 c4 c5 c6 c7 c8 c9 c10 c11 c12 c13 c14 c15 c16 c17; obtain ⟨c0, c1, c2, c3, c4, c5, c6, c7, c8, c9, c10, c11, c12, c13, c14, c15, c16, c17⟩ := HCL.out w9 hn; have HB := hid hn; have HO1 := hid (Reads.of_own ho1); have HO2 := hid (Reads.of_own ho2); clear ho1 ho2; clear hb9 hn)
              | (go_at_call 15; refine (j15.out _ ?_).mono ?_; (first | exact HB.out | exact bel_drewV HB.out); rintro e w10 ⟨B1, l1, B2, l2, rfl, hr1, hr2, hb9⟩; have hn : Below wz.heap.size wz w10 := (by first | exact bel_trans HB.out hb9 | exact bel_trans (bel_drewV HB.out) hb9); clear HB c0 c1 c2 c3 c4 c5 c6 c7 c8 c9 c10 c11 c12 c13 c14 c15 c16 c17; obtain ⟨c0, c1, c2, c3, c4, c5, c6, c7, c8, c9, c10, c11, c12, c13, c14, c15, c16, c17⟩ := HCL.out w10 hn; have HB := hid hn; have HS1 := hid (HO1.out.belowS hb9); have HS2 := hid (HO2.out.belowS hb9); have HS3 := hid (hr1.belowS hb9); have HS4 := hid (hr2.belowS hb9); clear hr1 hr2; clear hb9 hn)
              | (go_at_call 14; refine (j14.out _ _ _ _ _ _ _ _ _ ?_ ?_ ?_ ?_).mono ?_; exact HS1.out; exact HS2.out; exact HS3.out; exact HS4.out; rintro e w11 ⟨rfl, hb9⟩; have hn : Below wz.heap.size wz w11 := bel_trans HB.out hb9; clear HB c0 c1 c2 c3 c4 c5 c6 c7 c8 c9 c10 c11 c12 c13 c14 c15 c16 c17; obtain ⟨c0, c1, c2, c3, c4, c5, c6, c7, c8, c9, c10, c11, c12, c13, c14, c15, c16, c17⟩ := HCL.out w11 hn; have HB := hid hn; clear hb9 hn))) | fail
            all_goals
              have HE := hid (show AllS w3 (ptC p (gP (some ⟨g, gr, i, s⟩)) b' :: rpC q (gQ (some ⟨g, gr, i, s⟩)) b' :: setC gs t.chans ss' :: refC gR t.chans (hL ss') :: machL (some ⟨g, gr, i, s⟩)) _ from HP.out.belowS (bel_trans HBz.out HB.out))
              clear c0 c1 c2 c3 c4 c5 c6 c7 c8 c9 c10 c11 c12 c13 c14 c15 c16 c17 HCL j21 j22 j23 j24 j25 j15 j14 j20
              go_wp2_with fail
              go_roundw
              case rel => exact ⟨k + 1, some ⟨g, gr, i, s⟩, b', ss', by omega, by go_num, HE.out, HF'.out.more (by omega), HK'.out, hb0', by omega⟩
              case measure => simp [intOf]; omega
end Go.Proofs.YtidlahljhgglcaaGreat
