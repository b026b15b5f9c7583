/-
  Package sha: a full block is taken.
-/
import Derived.Test.YtojffpfgmlegdaaShaWords
import Derived.Test.YtojffpfgmlegdaaShaP
import Derived.StillTailTactics
import Derived.Deep.RegionLaw
import Derived.IntWalk
namespace Go.Proofs.Ytojffpfgmlegdaa
open Go.RowKit

def sh8C (v : Sh8) : List Value := [wV v.a, wV v.b, wV v.c, wV v.d, wV v.e, wV v.f, wV v.g, wV v.h]
theorem shaC_eq (s : ShS) : shaC s = sh8C s.v ++ (s.part.map bV ++ [.int .i64 (s.n : Int)]) := by simp [shaC, sh8C]
def rowK (r : Nat) : List (BitVec 32) := (shaK.drop (8 * r)).take 8
theorem rowK_len (r : Nat) (h : r < 8) : (rowK r).length = 8 := by
  simp [rowK, shaK]; omega
theorem rowK_get (r i : Nat) (h : i < 8) : (rowK r).getD i 0 = shaK.getD (8 * r + i) 0 := by
  simp [rowK, List.getD_eq_getElem?_getD, h]
theorem rowK_run (r : Nat) (h : r < 8) : ∀ w, (Instr.index 86 (.agg (shaK.map wV).toArray) (.int .i64 (r : Int))).run Try.prog w = .ok (.agg ((rowK r).map wV).toArray) w := by
  have : r = 0 ∨ r = 1 ∨ r = 2 ∨ r = 3 ∨ r = 4 ∨ r = 5 ∨ r = 6 ∨ r = 7 := by omega
  rcases this with rfl | rfl | rfl | rfl | rfl | rfl | rfl | rfl <;> (intro w; kernel_rfl)
theorem sh_idx8 (l : List (BitVec 32)) (hl : l.length = 8) (i : Nat) (h : i < 8) : ∀ w, (Instr.index 65 (.agg (l.map wV).toArray) (.int .i64 (i : Int))).run Try.prog w = .ok (wV (l.getD i 0)) w := by
  match l, hl with
  | [a0, a1, a2, a3, a4, a5, a6, a7], _ =>
    have : i = 0 ∨ i = 1 ∨ i = 2 ∨ i = 3 ∨ i = 4 ∨ i = 5 ∨ i = 6 ∨ i = 7 := by omega
    rcases this with rfl | rfl | rfl | rfl | rfl | rfl | rfl | rfl <;> (intro w; kernel_rfl)
theorem sh_info8 (l : List Value) (h : l.length = 8) : (Try.prog.info? 65).map (·.size) = some l.toArray.size := by
  have : (Try.prog.info? 65).map (·.size) = some 8 := by kernel_rfl
  rw [this]
  simp [h]
theorem sh_grown_below {w w' : World} {g : Nat} (h : Below w.heap.size w w') : w.grownBy w' (some g) := ⟨h.os, h.tape, h.output, h.size, fun b hb _ => h.block b hb⟩
theorem sh_grown_set {w w' : World} {g : Nat} (h : w.grownBy w' (some g)) (i : Nat) (v : Value) : w.grownBy (w'.setCell ⟨g, i, none⟩ v) (some g) :=
  ⟨h.os, h.tape, h.output, by simpa using h.size, fun b hb hn => (heap_setCell_other w' ⟨g, i, none⟩ b v (fun e => hn (by rw [e]))).trans (h.block b hb hn)⟩
theorem sh_info8s (v : Sh8) : (Try.prog.info? 59).map (·.size) = some (sh8C v).toArray.size := by
  have : (Try.prog.info? 59).map (·.size) = some 8 := by kernel_rfl
  rw [this]
  rfl
theorem oneCell_8 (v : Sh8) : (sh8C v).toArray.all (·.oneCell') = true := by simp [sh8C, Value.oneCell']

set_option maxRecDepth 20000 in
set_option maxHeartbeats 2000000 in
theorem sh_full_any (g : Nat) (s : ShS) (w : World) (h : Blk w g 62 (shaC s)) (hp : s.part.length = 64) :
    Calls Try.prog 46 #[.pointer (some ⟨g, 0, none⟩)] w fun e w' => e = .returned (.tuple #[]) ∧ Blk w' g 62 (shaC ⟨fullV s.part s.v, s.part, s.n⟩) ∧ w.grownBy w' (some g) := by
  have hz := zeroWA_run
  have hzs := zeroWA_size
  have hg := h.lt
  have HB := hid h
  have qw := hid (sh_words_any g s w h hp)
  obtain ⟨c0, c1, c2, c3, c4, c5, c6, c7⟩ : _ ∧ _ ∧ _ ∧ _ ∧ _ ∧ _ ∧ _ ∧ _ := ⟨h.cellAt (i := 0) rfl, h.cellAt (i := 1) rfl, h.cellAt (i := 2) rfl, h.cellAt (i := 3) rfl, h.cellAt (i := 4) rfl, h.cellAt (i := 5) rfl, h.cellAt (i := 6) rfl, h.cellAt (i := 7) rfl⟩
  have HP := hid hp
  clear h hp
  obtain ⟨WL, hWL⟩ : ∃ WL, wordsN s.part 64 = WL := ⟨_, rfl⟩
  have HLen : Hid (∀ n, n = 64 → WL.length = n) := hid (fun n hn => by rw [← hWL, hn]; exact wordsN_len s.part 64)
  have HF : Hid (∀ n, n = 64 → fullV s.part s.v = s.v.plus (roundsN WL s.v n)) := hid (fun n hn => by rw [← hWL, hn]; rfl)
  rw [hWL] at qw
  clear hWL
  generalize fullV s.part s.v = FV at *
  go_enter Try.func46, Try.ntmps46
  go_wp2_with fail
  refine qw.out.mono ?_
  rintro e w1 ⟨rfl, hb1⟩
  have hB1 := HB.out.belowS hb1
  clear c0 c1 c2 c3 c4 c5 c6 c7
  have hg1 : g < w1.heap.size := hB1.lt
  have hgn : g ≠ w1.heap.size := by omega
  obtain ⟨w2, hw2, hsz2, hb2, hblkW⟩ : ∃ w2 : World, w1.alloc (.cells (WL.map wV).toArray 83) = w2 ∧ w2.heap.size = w1.heap.size + 1 ∧ Below w1.heap.size w1 w2 ∧ Blk w2 w1.heap.size 83 (WL.map wV) :=
    ⟨_, rfl, by simp, (Below.refl _ _).alloc (Nat.le_refl _) _, Blk.new w1 _ _⟩
  have HW2 := hid hw2
  obtain ⟨w3, hw3, hsz3, hb3, hblkV⟩ : ∃ w3 : World, w2.alloc (.cells #[wV s.v.a, wV s.v.b, wV s.v.c, wV s.v.d, wV s.v.e, wV s.v.f, wV s.v.g, wV s.v.h] 59) = w3 ∧ w3.heap.size = w2.heap.size + 1 ∧ Below w2.heap.size w2 w3 ∧ Blk w3 w2.heap.size 59 (sh8C s.v) :=
    ⟨_, rfl, by simp, (Below.refl _ _).alloc (Nat.le_refl _) _, Blk.new w2 _ _⟩
  have HW3 := hid hw3
  have hB2 := hB1.belowS hb2
  obtain ⟨d0, d1, d2, d3, d4, d5, d6, d7⟩ : _ ∧ _ ∧ _ ∧ _ ∧ _ ∧ _ ∧ _ ∧ _ := ⟨hB2.cellAt (i := 0) rfl, hB2.cellAt (i := 1) rfl, hB2.cellAt (i := 2) rfl, hB2.cellAt (i := 3) rfl, hB2.cellAt (i := 4) rfl, hB2.cellAt (i := 5) rfl, hB2.cellAt (i := 6) rfl, hB2.cellAt (i := 7) rfl⟩
  have hgn2 : g ≠ w2.heap.size := by omega
  have HB2 := hid hB2
  have HVW := hid (hblkW.belowS hb3)
  have HVV := hid hblkV
  have H12 := hid (hb1.trans ((hb2.mono hb1.size).trans (hb3.mono (by have := hb1.size; omega))))
  have HS3 := hid (And.intro hsz2 hsz3)
  have hs1 := hb1.size
  clear hw2 hw3 hb1 hb2 hb3 hblkW hblkV hB1 hB2 hsz2 hsz3
  go_wp2_with (refine wpList_store_row rfl 83 _ _ rfl w1.heap.size (WL.map wV).toArray rfl rfl 83 zeroWA (heap_alloc_new w1 _) (sh_info64 _ (by simp [HLen.out 64 rfl])) (by simp [HLen.out 64 rfl, zeroWA_size]) (oneCell_w _) ?_; rw [World.setRow_alloc_new, HW2.out])
  rw [show (w2.alloc (.cells #[Value.int IntKind.u32 (s.v.a.toNat : Int), Value.int IntKind.u32 (s.v.b.toNat : Int), Value.int IntKind.u32 (s.v.c.toNat : Int), Value.int IntKind.u32 (s.v.d.toNat : Int), Value.int IntKind.u32 (s.v.e.toNat : Int), Value.int IntKind.u32 (s.v.f.toNat : Int), Value.int IntKind.u32 (s.v.g.toNat : Int), Value.int IntKind.u32 (s.v.h.toNat : Int)] 59)) = w3 from HW3.out]
  refine (sh_constants_any w3).mono ?_
  rintro e w4 ⟨rfl, hb4⟩
  have hblkW := HVW.out.belowS hb4
  have hblkV := HVV.out.belowS hb4
  have hbel := H12.out.trans (hb4.mono (by have := HS3.out.1; have := HS3.out.2; omega))
  have HROW := hid (fun r hr => rowK_run r hr)
  obtain ⟨KA, hKA⟩ : ∃ KA, (shaK.map wV).toArray = KA := ⟨_, rfl⟩
  rw [hKA] at HROW ⊢
  have hs3 : w3.heap.size = w1.heap.size + 1 + 1 := by have := HS3.out.1; have := HS3.out.2; omega
  have hs2 : w2.heap.size = w1.heap.size + 1 := HS3.out.1
  rw [hs2] at hblkV ⊢
  clear hKA hb4 HVW HVV HW2 HW3 d0 d1 d2 d3 d4 d5 d6 d7 hz hzs hgn2 HB2
  generalize w1.heap.size = bw at *
  have HSS := hid (And.intro hs2 hs3)
  clear hs2 hs3
  go_wp2_with fail
  go_loopw [17] (fun v17 wr => ∃ r : Nat, r ≤ 8 ∧ v17 = .int .i64 (r : Int) ∧ Blk wr bw 83 (WL.map wV) ∧ Blk wr (bw + 1) 59 (sh8C (roundsN WL s.v (8 * r))) ∧ Below w.heap.size w wr) (fun v17 _ => 8 - (intOf v17).toNat)
  case atStart => exact ⟨0, by omega, rfl, hblkW, hblkV, hbel⟩
  case round =>
    clear hblkW hblkV hbel
    obtain ⟨r, hr, rfl, hblkW, hblkV, hbel⟩ := hrel
    obtain ⟨wo, rfl⟩ : ∃ wo : World, wo = wr := ⟨_, rfl⟩
    by_cases hr8 : r < 8
    · have hdr : decide ((r : Int) < 8) = true := by simp; omega
      have hrow := HROW.out r hr8
      obtain ⟨wa, hwa, hsza, hba⟩ : ∃ wa : World, wo.alloc (.cells ((rowK r).map wV).toArray 65) = wa ∧ wa.heap.size = wo.heap.size + 1 ∧ Below wo.heap.size wo wa := ⟨_, rfl, by simp, (Below.refl _ _).alloc (Nat.le_refl _) _⟩
      have HWA := hid hwa
      have HBR : Hid (Blk wa wo.heap.size 65 ((rowK r).map wV)) := hid (by rw [← hwa]; exact Blk.new wo _ _)
      have hbWa := hblkW.belowS hba
      have hbVa := hblkV.belowS hba
      have hba2 := hbel.trans (hba.mono hbel.size)
      have HSA := hid hsza
      have hlW := hblkW.lt
      have hRL := hid (rowK_len r hr8)
      have H1 := hid hbWa
      have H2 := hid hbVa
      have H3 := hid hba2
      clear hwa hba hbWa hbVa hba2 hblkW hblkV hbel hsza
      go_wp2_with (first
        | (refine wpList_store_row rfl 65 _ _ rfl wo.heap.size ((rowK r).map wV).toArray rfl rfl 65 #[.int .u32 0, .int .u32 0, .int .u32 0, .int .u32 0, .int .u32 0, .int .u32 0, .int .u32 0, .int .u32 0] (heap_alloc_new wo _) (sh_info8 _ (by simp [hRL.out])) (by simp [hRL.out]) (oneCell_w _) ?_; rw [World.setRow_alloc_new, HWA.out])
        | (refine wpList_load_row rfl 65 _ rfl wo.heap.size rfl 65 ((rowK r).map wV).toArray (0, 0) _ HBR.out Try.underlying65 rfl (sh_info8 _ (by simp [hRL.out])) ?_))
      clear hrow
      go_loopw [22] (fun v22 wr => ∃ i : Nat, i ≤ 8 ∧ v22 = .int .i64 (i : Int) ∧ Blk wr bw 83 (WL.map wV) ∧ Blk wr (bw + 1) 59 (sh8C (roundsN WL s.v (8 * r + i))) ∧ Below w.heap.size w wr) (fun v22 _ => 8 - (intOf v22).toNat)
      case atStart => exact ⟨0, by omega, rfl, H1.out, H2.out, H3.out⟩
      case round =>
        clear H1 H2 H3
        obtain ⟨i, hi, rfl, hblkW, hblkV, hbel⟩ := hrel
        by_cases hi8 : i < 8
        · have hidx := sh_idx8 (rowK r) hRL.out i hi8
          rw [rowK_get r i hi8] at hidx
          have hwc : wr.cell? ⟨bw, 8 * r + i, none⟩ = some (wV (WL.getD (8 * r + i) 0)) := hblkW.cellAt (by
            have : 8 * r + i < WL.length := by rw [HLen.out 64 rfl]; omega
            rw [List.getElem?_map, List.getD_eq_getElem?_getD, List.getElem?_eq_getElem this]; rfl)
          have HN : Hid (roundsN WL s.v (8 * r + (i + 1)) = (roundsN WL s.v (8 * r + i)).round (shaK.getD (8 * r + i) 0 + WL.getD (8 * r + i) 0)) := hid rfl
          have hadd := b32_add (shaK.getD (8 * r + i) 0) (WL.getD (8 * r + i) 0)
          generalize hk : shaK.getD (8 * r + i) 0 = xk at *
          generalize WL.getD (8 * r + i) 0 = xw at *
          generalize xk + xw = xs at *
          generalize roundsN WL s.v (8 * r + i) = V at *
          have hw1 : IntKind.i64.wrap (8 * (r : Int)) = 8 * (r : Int) := IntWalk.i64_in _ (by omega)
          have hw2 : IntKind.i64.wrap (8 * (r : Int) + (i : Int)) = ((8 * r + i : Nat) : Int) := by rw [IntWalk.i64_in _ (by omega)]; omega
          have hw3 : IntKind.u32.wrap ((xk.toNat : Int) + (xw.toNat : Int)) = (xs.toNat : Int) := hadd
          have hq := hid (fun w => sh_round_any V xs w)
          obtain ⟨c0, c1, c2, c3, c4, c5, c6, c7⟩ : _ ∧ _ ∧ _ ∧ _ ∧ _ ∧ _ ∧ _ ∧ _ := ⟨hblkV.cellAt (i := 0) rfl, hblkV.cellAt (i := 1) rfl, hblkV.cellAt (i := 2) rfl, hblkV.cellAt (i := 3) rfl, hblkV.cellAt (i := 4) rfl, hblkV.cellAt (i := 5) rfl, hblkV.cellAt (i := 6) rfl, hblkV.cellAt (i := 7) rfl⟩
          have h0 : 8 * r + i < 64 := by omega
          have HJ : Hid (∀ n, n = 8 * r + i → n < 64) := hid (fun n hn => by omega)
          clear h0 hadd hk
          generalize 8 * r + i = j at *
          have hj0 : (0 : Int) ≤ (j : Int) := by omega
          have hj64 : (j : Int) < 64 := by have := HJ.out j rfl; omega
          have HBW := hid hblkW
          have HBV := hid hblkV
          have HBL := hid hbel
          clear hblkW hblkV hbel HJ
          go_wp2_with fail
          go_still_tail 9, (by kernel_rfl)
          clear c0 c1 c2 c3 c4 c5 c6 c7
          go_wp2_with (first
            | (go_at_call 62; refine (hq.out _).mono ?_; rintro e w5 ⟨rfl, hb5'⟩; have hb5 : Below wr.heap.size wr w5 := ⟨hb5'.os, hb5'.tape, hb5'.output, hb5'.size, hb5'.block⟩; clear hb5'; have HV5 := hid (HBV.out.belowS hb5))
            | (refine wpList_store_row rfl 59 _ _ rfl (bw + 1) (sh8C (V.round xs)).toArray rfl rfl 59 (sh8C V).toArray HV5.out (sh_info8s _) rfl (oneCell_8 _) ?_))
          have hb1 : Blk (w5.setRow (bw + 1) (sh8C (V.round xs)).toArray) (bw + 1) 59 (sh8C (roundsN WL s.v (8 * r + (i + 1)))) := by
            rw [HN.out]
            exact setRow_heap w5 (bw + 1) _ _ _ (0, 0) HV5.out
          have hb2 : Blk (w5.setRow (bw + 1) (sh8C (V.round xs)).toArray) bw 83 (WL.map wV) := (setRow_other w5 (bw + 1) bw _ (by omega)).trans (HBW.out.belowS hb5)
          have hb3 := below_setRow (HBL.out.trans (hb5.mono HBL.out.size)) (bw + 1) (sh8C (V.round xs)).toArray (by omega)
          generalize w5.setRow (bw + 1) (sh8C (V.round xs)).toArray = w6 at *
          have K1 := hid hb1
          have K2 := hid hb2
          have K3 := hid hb3
          clear hb1 hb2 hb3 hw1 hw2 hw3 hidx hwc hb5
          go_wp2_with fail
          go_roundw
          case rel => exact ⟨i + 1, by omega, by go_num, K2.out, K1.out, K3.out⟩
          case measure => simp [intOf]; omega
        · obtain rfl : i = 8 := by omega
          rw [show 8 * r + 8 = 8 * (r + 1) by omega] at hblkV
          go_wp2_with fail
          go_roundw
          case rel => exact ⟨r + 1, by omega, by go_num, hblkW, hblkV, hbel⟩
          case measure => simp [intOf]; omega
    · obtain rfl : r = 8 := by omega
      have hBg := HB.out.below hbel hg
      obtain ⟨d0, d1, d2, d3, d4, d5, d6, d7⟩ : _ ∧ _ ∧ _ ∧ _ ∧ _ ∧ _ ∧ _ ∧ _ := ⟨hBg.cellAt (i := 0) rfl, hBg.cellAt (i := 1) rfl, hBg.cellAt (i := 2) rfl, hBg.cellAt (i := 3) rfl, hBg.cellAt (i := 4) rfl, hBg.cellAt (i := 5) rfl, hBg.cellAt (i := 6) rfl, hBg.cellAt (i := 7) rfl⟩
      obtain ⟨c0, c1, c2, c3, c4, c5, c6, c7⟩ : _ ∧ _ ∧ _ ∧ _ ∧ _ ∧ _ ∧ _ ∧ _ := ⟨hblkV.cellAt (i := 0) rfl, hblkV.cellAt (i := 1) rfl, hblkV.cellAt (i := 2) rfl, hblkV.cellAt (i := 3) rfl, hblkV.cellAt (i := 4) rfl, hblkV.cellAt (i := 5) rfl, hblkV.cellAt (i := 6) rfl, hblkV.cellAt (i := 7) rfl⟩
      have HBG := hid hBg
      have HBEL := hid hbel
      clear hblkW hblkV hBg hbel
      have hFV := HF.out (8 * 8) rfl
      have hq := hid (fun w => sh_plus_any s.v (roundsN WL s.v (8 * 8)) w)
      rw [← hFV] at hq
      have HFV := hid hFV
      clear hFV
      generalize roundsN WL s.v (8 * 8) = V at *
      have hgw := HBG.out.lt
      go_wp2_with fail
      go_region_law (go_simp; go_at_call 65; refine (hq.out _).mono ?_; rintro e w5 ⟨rfl, hb5'⟩; have hb5 : Below wo.heap.size wo w5 := ⟨hb5'.os, hb5'.tape, hb5'.output, hb5'.size, hb5'.block⟩; clear hb5'; have hg5 := HBG.out.belowS hb5; obtain ⟨x0, x1, x2, x3, x4, x5, x6, x7⟩ : _ ∧ _ ∧ _ ∧ _ ∧ _ ∧ _ ∧ _ ∧ _ := ⟨hg5.cellAt (i := 0) rfl, hg5.cellAt (i := 1) rfl, hg5.cellAt (i := 2) rfl, hg5.cellAt (i := 3) rfl, hg5.cellAt (i := 4) rfl, hg5.cellAt (i := 5) rfl, hg5.cellAt (i := 6) rfl, hg5.cellAt (i := 7) rfl⟩; obtain ⟨y0, y1, y2, y3, y4, y5, y6, y7⟩ : _ ∧ _ ∧ _ ∧ _ ∧ _ ∧ _ ∧ _ ∧ _ := ⟨hg5.frozen 0, hg5.frozen 1, hg5.frozen 2, hg5.frozen 3, hg5.frozen 4, hg5.frozen 5, hg5.frozen 6, hg5.frozen 7⟩)
      all_goals (
        have hX := (((((((hg5.set_ 0 (wV FV.a)).set_ 1 (wV FV.b)).set_ 2 (wV FV.c)).set_ 3 (wV FV.d)).set_ 4 (wV FV.e)).set_ 5 (wV FV.f)).set_ 6 (wV FV.g)).set_ 7 (wV FV.h)
        have hG := sh_grown_set (sh_grown_set (sh_grown_set (sh_grown_set (sh_grown_set (sh_grown_set (sh_grown_set (sh_grown_set (sh_grown_below (g := g) (HBEL.out.trans (hb5.mono HBEL.out.size))) 0 (wV FV.a)) 1 (wV FV.b)) 2 (wV FV.c)) 3 (wV FV.d)) 4 (wV FV.e)) 5 (wV FV.f)) 6 (wV FV.g)) 7 (wV FV.h)
        generalize (((((((w5.setCell ⟨g, 0, none⟩ (wV FV.a)).setCell ⟨g, 1, none⟩ (wV FV.b)).setCell ⟨g, 2, none⟩ (wV FV.c)).setCell ⟨g, 3, none⟩ (wV FV.d)).setCell ⟨g, 4, none⟩ (wV FV.e)).setCell ⟨g, 5, none⟩ (wV FV.f)).setCell ⟨g, 6, none⟩ (wV FV.g)).setCell ⟨g, 7, none⟩ (wV FV.h) = w6 at *
        go_wp2_with fail
        go_end0
        exact ⟨rfl, hX, hG⟩)
end Go.Proofs.Ytojffpfgmlegdaa
