/-
  Law 05: a table with a channel, or a window, left out (TableNear): the walk.
-/
import Derived.Test.YtbnodcenlggcnaaTabCut
import Derived.Test.YtbnodcenlggcnaaTabShares
import Derived.Test.YtbnodcenlggcnaaNearPlain
import Derived.Test.YtbnodcenlggcnaaRows
namespace Go.Proofs.Ytbnodcenlggcnaa
open Go.RowKit Go.ChangeShapes Go.WideShapes Go.ChangeAt

set_option maxRecDepth 100000 in
set_option maxHeartbeats 8000000 in
theorem near_any (t : TabS) (a : TabA) (b : UInt8) (w : World) (hT : TabCame w t a) :
    Calls Try.prog 3 #[.agg #[.int .i64 t.frame, .slice a.A1 t.parts.length a.c1, .slice a.A2 t.wins.length a.c2, .slice a.A3 t.chans.length a.c3, .int .i64 t.trial], .int .u8 b.toNat] w fun e w' => e = .returned (.bool true) ∧ Below w.heap.size w w' := by
  obtain ⟨A1, k1, A2, k2, A3, k3⟩ := a
  simp only
  have hb0 : Below w.heap.size w (w.alloc (.cells (tabC t ⟨A1, k1, A2, k2, A3, k3⟩).toArray 26)) := (Below.refl _ _).alloc (Nat.le_refl _) _
  have hblk0 : Blk (w.alloc (.cells (tabC t ⟨A1, k1, A2, k2, A3, k3⟩).toArray 26)) w.heap.size 26 (tabC t ⟨A1, k1, A2, k2, A3, k3⟩) := Blk.new w _ _
  have iL := hid (fun w' => long_any t ⟨A1, k1, A2, k2, A3, k3⟩ w' hT.l1 hT.l2 hT.l3)
  have HC := hid hT
  have hk2 := hT.c2
  have hk3 := hT.c3
  have hm2 := hT.m2
  have hm3 := hT.m3
  simp only at hk2 hk3 hm2 hm3
  clear hT
  simp only at iL
  by_cases hl : longB t = true
  · rw [hl] at iL
    clear hl
    go_enter Try.func3, Try.ntmps3
    go_wp2_with fail
    refine (wakes_any _).mono ?_
    rintro e w1 ⟨rfl, hb1⟩
    have hb01 := bel_trans hb0 hb1
    obtain ⟨c0, c1, c2, c3, c4⟩ := tab_cells (hblk0.belowS hb1)
    clear hblk0
    go_wp2_with fail
    refine (iL.out _).mono ?_
    rintro e w2 ⟨rfl, hb2⟩
    clear c0 c1 c2 c3 c4
    go_wp2_with fail
    go_ret
    exact ⟨rfl, bel_trans hb01 hb2⟩
  · have hl' : longB t = false := by simpa using hl
    have HO : Hid (∀ w', Below w.heap.size w w' → TabOk w' t ⟨A1, k1, A2, k2, A3, k3⟩) := hid (fun w' hb => HC.out.ok hl' hb)
    rw [hl'] at iL
    clear hl hl' HC
    by_cases hr : rightB t = true
    · have hR := (rightB_iff t).1 hr
      have HR := hid hr
      have HRT := hid hR
      have hw8 := hR.w8
      have hw1 : 0 < t.wins.length := by
        have := hR.care
        unfold careB at this
        obtain ⟨x, hx, _⟩ := List.any_eq_true.1 this
        exact List.length_pos_of_mem hx
      have hc4 := hR.c4
      clear hR hr
      go_enter Try.func3, Try.ntmps3
      go_wp2_with fail
      refine (wakes_any _).mono ?_
      rintro e w1 ⟨rfl, hb1⟩
      have hb01 := bel_trans hb0 hb1
      have hblk1 := hblk0.belowS hb1
      obtain ⟨c0, c1, c2, c3, c4⟩ := tab_cells hblk1
      clear hblk0 hb0 hb1
      go_wp2_with fail
      refine (iL.out _).mono ?_
      rintro e w2 ⟨rfl, hb2⟩
      have hb02 := bel_trans hb01 hb2
      have hblk2 := hblk1.belowS hb2
      clear c0 c1 c2 c3 c4 hblk1 hb01 hb2
      obtain ⟨c0, c1, c2, c3, c4⟩ := tab_cells hblk2
      go_wp2_with fail
      refine (right_any t ⟨A1, k1, A2, k2, A3, k3⟩ _ (HO.out _ hb02)).mono ?_
      rintro e w3 ⟨he, hb3⟩
      rw [HR.out] at he
      subst he
      have hb03 := bel_trans hb02 hb3
      have hblk3 := hblk2.belowS hb3
      clear c0 c1 c2 c3 c4 hblk2 hb02 hb3
      obtain ⟨c0, c1, c2, c3, c4⟩ := tab_cells hblk3
      obtain ⟨_, hinA, _⟩ := (HO.out _ hb03).inn
      simp only at hinA
      obtain ⟨ad2, _, rfl, _, _, _, _⟩ := hinA.at_ hw1
      clear hinA
      by_cases hch : 0 < t.chans.length
      · have hT3 := HO.out _ hb03
        obtain ⟨_, _, hin3⟩ := hT3.inn
        simp only at hin3
        obtain ⟨ad, x, rfl, had, _, _, _⟩ := hin3.at_ hch
        obtain ⟨K, hK, hK2⟩ : ∃ K : Nat, ((b.toNat : Nat) : Int) % (t.chans.length : Int) = (K : Int) ∧ K < t.chans.length := ⟨b.toNat % t.chans.length, by omega, Nat.mod_lt _ hch⟩
        have hb256 : b.toNat < 256 := b.toNat_lt
        clear hT3
        have hblk4 : Blk (w3.alloc (.cells #[.int .i64 t.frame, .slice A1 t.parts.length k1, .slice (some ad2) t.wins.length k2, .slice (some ad) t.chans.length k3, .int .i64 t.trial] 26)) w.heap.size 26 (tabC t ⟨A1, k1, some ad2, k2, some ad, k3⟩) := hblk3.alloc _
        have hblk5 : Blk (w3.alloc (.cells #[.int .i64 t.frame, .slice A1 t.parts.length k1, .slice (some ad2) t.wins.length k2, .slice (some ad) t.chans.length k3, .int .i64 t.trial] 26)) w3.heap.size 26 (tabC t ⟨A1, k1, some ad2, k2, some ad, k3⟩) := Blk.new w3 _ _
        have hb35 : Below w3.heap.size w3 (w3.alloc (.cells #[.int .i64 t.frame, .slice A1 t.parts.length k1, .slice (some ad2) t.wins.length k2, .slice (some ad) t.chans.length k3, .int .i64 t.trial] 26)) := (Below.refl _ _).alloc (Nat.le_refl _) _
        obtain ⟨d0, d1, d2, d3, d4⟩ := tab_cells hblk4
        have hchI : decide ((0 : Int) < (t.chans.length : Int)) = true := by simp; omega
        have hne0 : ((t.chans.length : Int) == 0) = false := beq_eq_false_iff_ne.2 (by omega)
        have hltb : w.heap.size < w3.heap.size := hblk3.lt
        have hin5 : RdS (w3.alloc (.cells #[.int .i64 t.frame, .slice A1 t.parts.length k1, .slice (some ad2) t.wins.length k2, .slice (some ad) t.chans.length k3, .int .i64 t.trial] 26)) (w3.alloc (.cells #[.int .i64 t.frame, .slice A1 t.parts.length k1, .slice (some ad2) t.wins.length k2, .slice (some ad) t.chans.length k3, .int .i64 t.trial] 26)).heap.size 3 (some ad) t.chans.length chanC t.chans := hin3.belowS hb35
        go_wp2_with fail
        simp only [hK]
        clear hK hchI hne0 c0 c1 c2 c3 c4 d0 d1 d2 d4 hin3
        generalize w3.alloc (.cells #[.int .i64 t.frame, .slice A1 t.parts.length k1, .slice (some ad2) t.wins.length k2, .slice (some ad) t.chans.length k3, .int .i64 t.trial] 26) = wx at hblk4 hblk5 hb35 d3 hin5 ⊢
        have hr1 := hid ((hin5.front (i := K) (by omega)).reads (fun _ => rfl))
        have hr2 : Hid (Reads wx wx.heap.size 3 (if k3 = K + 1 then some ad else some (ad.add ((K + 1) * 3))) (t.chans.length - (K + 1)) ((t.chans.drop (K + 1)).flatMap chanC)) := by
          refine hid ?_
          have hr := (hin5.back (i := K + 1) (by omega)).reads (fun _ => rfl)
          split
          · exact ⟨hr.1, fun h => absurd h (by omega)⟩
          · exact hr
        have hne1 : w.heap.size ≠ w3.heap.size := by omega
        have hne2 : w3.heap.size ≠ w.heap.size := by omega
        obtain ⟨i0, hi0, hz0, hz1, hz2⟩ := info_parts info_chan
        have hK0 : (0 : Int) ≤ (K : Int) := Int.natCast_nonneg _
        have hK1 : (K : Int) ≤ (k3 : Int) := by omega
        have hK4 : (0 : Int) ≤ (K : Int) + 1 := by omega
        have hK5 : (K : Int) + 1 ≤ 9223372036854775807 := by omega
        have hK7 : IntKind.i64.wrap ((K : Int) + 1) = (K : Int) + 1 := IntWalk.i64_in _ (by omega)
        have hK6 : (t.chans.length : Int) ≤ (k3 : Int) := by omega
        have hK3 : (K : Int) + 1 ≤ (t.chans.length : Int) := by omega
        have e3 := hblk5.cellAt (i := 3) rfl
        have e4 := hblk5.frozen 3
        simp only at e3
        have hf5 : ∀ o, (wx.alloc o).drew.frozen? ⟨w3.heap.size, 3, none⟩ = false := fun o => (hblk5.alloc o).drew.frozen 3
        have hf6 : ∀ o, (wx.alloc o).frozen? ⟨w3.heap.size, 3, none⟩ = false := fun o => (hblk5.alloc o).frozen 3
        go_region_held3 (fun w' => w'.cell? ⟨w.heap.size, 3, none⟩ = some (.slice (some ad) t.chans.length k3) ∧ w'.frozen? ⟨w3.heap.size, 3, none⟩ = false)
          (go_keep)
          (first
            | (refine step_copy wx.drew (by rfl) _ _ _ (by rfl) 34 i0 _ 3 24 Try.underlying24 hi0 hz0 hz1 hz2 rfl (by decide) (by rfl) (some ad) K k3 _ (by rfl) hr1.out.drew (oneCell_chan _) (by simp [maxLen]; omega) (by omega) ?_; intro A5 c5 w5 hown5 hbel5'; have hbel5 : Below wx.heap.size wx w5 := ⟨hbel5'.os, hbel5'.tape, hbel5'.output, hbel5'.size, hbel5'.block⟩; clear hbel5'; have q0 : w5.cell? ⟨w.heap.size, 3, none⟩ = _ := (hbel5.cell (p := ⟨w.heap.size, 3, none⟩) hblk4.lt).trans d3; have q1 : w5.cell? ⟨w3.heap.size, 3, none⟩ = _ := (hbel5.cell (p := ⟨w3.heap.size, 3, none⟩) hblk5.lt).trans e3; have q2 : w5.frozen? ⟨w3.heap.size, 3, none⟩ = _ := (hbel5.frozen (p := ⟨w3.heap.size, 3, none⟩) hblk5.lt).trans e4)
            | (refine step_append_src _ (by rfl) _ _ _ (by rfl) wx.heap.size 34 i0 _ 3 24 Try.underlying24 hi0 hz0 hz1 hz2 rfl (by decide) (.slice A5 K c5) K _ (by rfl) hown5 wx.heap.size (if k3 = K + 1 then some ad else some (ad.add ((K + 1) * 3))) (t.chans.length - (K + 1)) (k3 - (K + 1)) _ (by rfl) (hr2.out.below hbel5) (oneCell_chan _) (by simp [maxLen]; omega) (by omega) hbel5.size (cutAt t.chans K).length (by have := cutAt_len hK2; omega) ?_; intro A6 c6 w6 hown6 hgrow6 hbel6; have z0 : w6.cell? ⟨w.heap.size, 3, none⟩ = _ := (hbel6.cell (p := ⟨w.heap.size, 3, none⟩) hblk4.lt).trans q0; have z1 : w6.cell? ⟨w3.heap.size, 3, none⟩ = _ := (hbel6.cell (p := ⟨w3.heap.size, 3, none⟩) hblk5.lt).trans q1; have z2 : w6.frozen? ⟨w3.heap.size, 3, none⟩ = _ := (hbel6.frozen (p := ⟨w3.heap.size, 3, none⟩) hblk5.lt).trans q2))
        generalize (if k3 = K + 1 then some ad else some (ad.add ((K + 1) * 3))) = AA
        have hblk6 : Blk w6 w3.heap.size 26 (tabC t ⟨A1, k1, some ad2, k2, some ad, k3⟩) := (hblk5.below hbel5 hblk5.lt).below hbel6 hblk5.lt
        have hblk7 : Blk w6 w.heap.size 26 (tabC t ⟨A1, k1, some ad2, k2, some ad, k3⟩) := (hblk4.below hbel5 hblk4.lt).below hbel6 hblk4.lt
        have hbx6 : Below wx.heap.size wx w6 := hbel5.trans hbel6
        have hb36 : Below w3.heap.size w3 w6 := bel_trans hb35 hbx6
        have hblk8 := hblk6.set_ 3 (.slice A6 (cutAt t.chans K).length c6)
        have hblk9 := hblk7.far (p := ⟨w3.heap.size, 3, none⟩) hne1 (.slice A6 (cutAt t.chans K).length c6)
        have hb37 : Below w3.heap.size w3 (w6.setCell ⟨w3.heap.size, 3, none⟩ (.slice A6 (cutAt t.chans K).length c6)) := hb36.setCell (Nat.le_refl _) _
        have hrd6 : RdS w6 w6.heap.size 3 A6 (cutAt t.chans K).length chanC (cutAt t.chans K) := by
          have hr := Reads.of_own hown6
          rw [← List.flatMap_append] at hr
          exact hr.rds (fun _ => rfl)
        have hown7 := ownsRow_setCell_below hown6 (a := ⟨w3.heap.size, 3, none⟩) hblk5.lt (.slice A6 (cutAt t.chans K).length c6)
        have hrd7 : RdS (w6.setCell ⟨w3.heap.size, 3, none⟩ (.slice A6 (cutAt t.chans K).length c6)) (w6.setCell ⟨w3.heap.size, 3, none⟩ (.slice A6 (cutAt t.chans K).length c6)).heap.size 3 A6 (cutAt t.chans K).length chanC (cutAt t.chans K) := by
          have hr := Reads.of_own hown7
          rw [← List.flatMap_append] at hr
          exact hr.rds (fun _ => rfl)
        generalize w6.setCell ⟨w3.heap.size, 3, none⟩ (.slice A6 (cutAt t.chans K).length c6) = wy at hblk8 hblk9 hb37 hown7 hrd7 ⊢
        have hby := bel_trans hb03 hb37
        have hT0 : Blk wy w.heap.size 26 (tabC t ⟨A1, k1, some ad2, k2, some ad, k3⟩) := hblk9
        have hX0 : Blk wy w3.heap.size 26 (tabC ⟨t.frame, t.parts, t.wins, cutAt t.chans K, t.trial⟩ ⟨A1, k1, some ad2, k2, A6, c6⟩) := hblk8
        have HRT1 := hid (near_chans HRT.out K)
        have hR1 : rightB ⟨t.frame, t.parts, t.wins, cutAt t.chans K, t.trial⟩ = true := (rightB_iff _).2 HRT1.out
        have hOK1 : TabOk wy ⟨t.frame, t.parts, t.wins, cutAt t.chans K, t.trial⟩ ⟨A1, k1, some ad2, k2, A6, c6⟩ := by
          have h0 := HO.out _ hby
          exact ⟨⟨h0.inn.1, h0.inn.2.1, hrd7⟩, h0.n1, h0.n2, by simp only; have := cutAt_len hK2; omega, h0.f1, h0.f2⟩
        clear hblk4 hblk6 hblk7 hblk8 hblk9 hbx6 hb36 hrd6 hrd7 z0 z2 q0 q2 hgrow6 hbel5 hbel6 hown5 hK0 hK1 hK4 hK5 hK7 hK6 hK3 e4 e3 d3 hf5 hf6 hr1 hr2 hi0 hz0 hz1 hz2 hin5 z1 q1
        skip
        obtain ⟨x0, x1, x2, x3, x4⟩ := tab_cells hX0
        simp only at x0 x1 x2 x3 x4
        have iR1 := hid (right_any (⟨t.frame, t.parts, t.wins, cutAt t.chans K, t.trial⟩ : TabS) (⟨A1, k1, some ad2, k2, A6, c6⟩ : TabA) _ hOK1)
        simp only at iR1
        rw [hR1] at iR1
        clear hR1
        go_wp2_with fail
        refine iR1.out.mono ?_
        rintro e w8 ⟨rfl, hb8⟩
        have hT1 := hT0.belowS hb8
        have hX1 := hX0.belowS hb8
        have hby1 := bel_trans hby hb8
        clear x0 x1 x2 x3 x4 hT0 hX0 iR1
        obtain ⟨d0, d1, d2, d3, d4⟩ := tab_cells hT1
        simp only at d0 d1 d2 d3 d4
        obtain ⟨K2, hQ, hQ2⟩ : ∃ K2 : Nat, ((b.toNat : Nat) : Int) % (t.wins.length : Int) = (K2 : Int) ∧ K2 < t.wins.length := ⟨b.toNat % t.wins.length, by omega, Nat.mod_lt _ hw1⟩
        have hneW : ((t.wins.length : Int) == 0) = false := beq_eq_false_iff_ne.2 (by omega)
        go_wp2_with fail
        simp only [hQ]
        clear hQ hneW d0 d1 d3 d4
        have hinW : RdS w8 w8.heap.size 3 (some ad2) t.wins.length winC t.wins := (HO.out _ hby1).inn.2.1
        have hs1 := hid ((hinW.front (i := K2) (by omega)).reads (fun _ => rfl))
        have hs2 : Hid (Reads w8 w8.heap.size 3 (if k2 = K2 + 1 then some ad2 else some (ad2.add ((K2 + 1) * 3))) (t.wins.length - (K2 + 1)) ((t.wins.drop (K2 + 1)).flatMap winC)) := by
          refine hid ?_
          have hr := (hinW.back (i := K2 + 1) (by omega)).reads (fun _ => rfl)
          split
          · exact ⟨hr.1, fun h => absurd h (by omega)⟩
          · exact hr
        obtain ⟨j0, hj0, hy0, hy1, hy2⟩ := info_parts info_win
        have hQ0 : (0 : Int) ≤ (K2 : Int) := Int.natCast_nonneg _
        have hQ1 : (K2 : Int) ≤ (k2 : Int) := by omega
        have hQ4 : (0 : Int) ≤ (K2 : Int) + 1 := by omega
        have hQ5 : (K2 : Int) + 1 ≤ 9223372036854775807 := by omega
        have hQ7 : IntKind.i64.wrap ((K2 : Int) + 1) = (K2 : Int) + 1 := IntWalk.i64_in _ (by omega)
        have hQ6 : (t.wins.length : Int) ≤ (k2 : Int) := by omega
        have hQ3 : (K2 : Int) + 1 ≤ (t.wins.length : Int) := by omega
        have f4 := hX1.frozen 2
        have f3 := hX1.cellAt (i := 2) rfl
        simp only at f3
        have g5 : ∀ o, (w8.alloc o).drew.frozen? ⟨w3.heap.size, 2, none⟩ = false := fun o => (hX1.alloc o).drew.frozen 2
        have g6 : ∀ o, (w8.alloc o).frozen? ⟨w3.heap.size, 2, none⟩ = false := fun o => (hX1.alloc o).frozen 2
        go_region_held3 (fun w' => w'.cell? ⟨w.heap.size, 2, none⟩ = some (.slice (some ad2) t.wins.length k2) ∧ w'.frozen? ⟨w3.heap.size, 2, none⟩ = false)
          (go_keep)
          (first
            | (refine step_copy w8.drew (by rfl) _ _ _ (by rfl) 30 j0 _ 3 24 Try.underlying23 hj0 hy0 hy1 hy2 rfl (by decide) (by rfl) (some ad2) K2 k2 _ (by rfl) hs1.out.drew (oneCell_win _) (by simp [maxLen]; omega) (by omega) ?_; intro A9 c9 w9 hown9 hbel9'; have hbel9 : Below w8.heap.size w8 w9 := ⟨hbel9'.os, hbel9'.tape, hbel9'.output, hbel9'.size, hbel9'.block⟩; clear hbel9'; have q0 : w9.cell? ⟨w.heap.size, 2, none⟩ = _ := (hbel9.cell (p := ⟨w.heap.size, 2, none⟩) hT1.lt).trans d2; have q1 : w9.cell? ⟨w3.heap.size, 2, none⟩ = _ := (hbel9.cell (p := ⟨w3.heap.size, 2, none⟩) hX1.lt).trans f3; have q2 : w9.frozen? ⟨w3.heap.size, 2, none⟩ = _ := (hbel9.frozen (p := ⟨w3.heap.size, 2, none⟩) hX1.lt).trans f4)
            | (refine step_append_src _ (by rfl) _ _ _ (by rfl) w8.heap.size 30 j0 _ 3 24 Try.underlying23 hj0 hy0 hy1 hy2 rfl (by decide) (.slice A9 K2 c9) K2 _ (by rfl) hown9 w8.heap.size (if k2 = K2 + 1 then some ad2 else some (ad2.add ((K2 + 1) * 3))) (t.wins.length - (K2 + 1)) (k2 - (K2 + 1)) _ (by rfl) (hs2.out.below hbel9) (oneCell_win _) (by simp [maxLen]; omega) (by omega) hbel9.size (cutAt t.wins K2).length (by have := cutAt_len hQ2; omega) ?_; intro A10 c10 w10 hown10 hgrow10 hbel10; have z0 : w10.cell? ⟨w.heap.size, 2, none⟩ = _ := (hbel10.cell (p := ⟨w.heap.size, 2, none⟩) hT1.lt).trans q0; have z1 : w10.cell? ⟨w3.heap.size, 2, none⟩ = _ := (hbel10.cell (p := ⟨w3.heap.size, 2, none⟩) hX1.lt).trans q1; have z2 : w10.frozen? ⟨w3.heap.size, 2, none⟩ = _ := (hbel10.frozen (p := ⟨w3.heap.size, 2, none⟩) hX1.lt).trans q2))
        generalize (if k2 = K2 + 1 then some ad2 else some (ad2.add ((K2 + 1) * 3))) = AB
        have hX2 := ((hX1.below hbel9 hX1.lt).below hbel10 hX1.lt).set_ 2 (.slice A10 (cutAt t.wins K2).length c10)
        have hbx10 : Below w8.heap.size w8 w10 := hbel9.trans hbel10
        have hb11 : Below w3.heap.size w3 (w10.setCell ⟨w3.heap.size, 2, none⟩ (.slice A10 (cutAt t.wins K2).length c10)) := (bel_trans (bel_trans hb37 hb8) hbx10).setCell (Nat.le_refl _) _
        have hown11 := ownsRow_setCell_below hown10 (a := ⟨w3.heap.size, 2, none⟩) hX1.lt (.slice A10 (cutAt t.wins K2).length c10)
        have hrd11 : RdS (w10.setCell ⟨w3.heap.size, 2, none⟩ (.slice A10 (cutAt t.wins K2).length c10)) (w10.setCell ⟨w3.heap.size, 2, none⟩ (.slice A10 (cutAt t.wins K2).length c10)).heap.size 3 A10 (cutAt t.wins K2).length winC (cutAt t.wins K2) := by
          have hr := Reads.of_own hown11
          rw [← List.flatMap_append] at hr
          exact hr.rds (fun _ => rfl)
        have hchs : RdS (w10.setCell ⟨w3.heap.size, 2, none⟩ (.slice A10 (cutAt t.wins K2).length c10)) (w10.setCell ⟨w3.heap.size, 2, none⟩ (.slice A10 (cutAt t.wins K2).length c10)).heap.size 3 A6 (cutAt t.chans K).length chanC (cutAt t.chans K) := by
          have ho := ownsRow_setCell_below (own_below hown7 (bel_trans hb8 hbx10)) (a := ⟨w3.heap.size, 2, none⟩) hblk5.lt (.slice A10 (cutAt t.wins K2).length c10)
          have hr := Reads.of_own ho
          rw [← List.flatMap_append] at hr
          exact hr.rds (fun _ => rfl)
        generalize w10.setCell ⟨w3.heap.size, 2, none⟩ (.slice A10 (cutAt t.wins K2).length c10) = w12 at hX2 hb11 hrd11 hchs ⊢
        have hb012 := bel_trans hb03 hb11
        have hcl := cutAt_len hQ2
        have hOK2 : TabOk w12 (⟨t.frame, t.parts, cutAt t.wins K2, cutAt t.chans K, t.trial⟩ : TabS) (⟨A1, k1, A10, c10, A6, c6⟩ : TabA) := by
          have h0 := HO.out _ hb012
          exact ⟨⟨h0.inn.1, hrd11, hchs⟩, h0.n1, by simp only; omega, by simp only; have := cutAt_len hK2; omega, h0.f1, h0.f2⟩
        have hX3 : Blk w12 w3.heap.size 26 (tabC (⟨t.frame, t.parts, cutAt t.wins K2, cutAt t.chans K, t.trial⟩ : TabS) (⟨A1, k1, A10, c10, A6, c6⟩ : TabA)) := hX2
        have HN : Hid (rightB (⟨t.frame, t.parts, cutAt t.wins K2, cutAt t.chans K, t.trial⟩ : TabS) = decide (0 < ownN (cutAt t.wins K2))) := hid (near_wins (t := (⟨t.frame, t.parts, t.wins, cutAt t.chans K, t.trial⟩ : TabS)) HRT1.out K2)
        clear hX2 hbel9 hbel10 hown9 hown10 hown11 z0 z1 z2 q0 q1 q2 f3 hgrow10 hQ0 hQ1 hQ4 hQ5 hQ7 hQ6 hQ3 f4 g5 g6 hs1 hs2 hinW hj0 hy0 hy1 hy2 d2 hT1 hX1
        skip
        obtain ⟨x0, x1, x2, x3, x4⟩ := tab_cells hX3
        simp only at x0 x1 x2 x3 x4
        go_wp2_with fail
        clear x0 x1 x2 x3 x4
        go_loopw [8, 69] (fun v8 v69 wr => ∃ (k s : Nat), k ≤ (cutAt t.wins K2).length ∧ v69 = .int .i64 (k : Int) ∧ v8 = .int .i64 (s : Int) ∧ s ≤ k ∧ Hid (s = ownN ((cutAt t.wins K2).take k)) ∧ Below w12.heap.size w12 wr) (fun _ v69 _ => (cutAt t.wins K2).length - (intOf v69).toNat)
        case atStart => exact ⟨0, 0, by omega, rfl, rfl, by omega, by refine hid ?_; simp [ownN], Below.refl _ _⟩
        case round =>
          obtain ⟨k, s, hk, rfl, rfl, hsk, HS, hbel⟩ := hrel
          by_cases hkn : k < (cutAt t.wins K2).length
          · obtain ⟨ad, x, rfl, had, hx, hc0, hc⟩ := (hrd11.belowS hbel).at_ hkn
            have q0 := hc0 _ rfl
            have q1 := hc 0 _ rfl
            have q2 := hc 1 _ rfl
            have HS2 : Hid (ownN ((cutAt t.wins K2).take (k + 1)) = s + if x.part = 0 then 1 else 0) := by
              refine hid ?_
              rw [List.take_add_one, hx, HS.out]
              exact ownN_snoc _ _
            have hbe := bel_alloc hbel (.cells #[.int .i64 x.part, .int .i64 x.at_, .int .i64 x.long] 30)
            obtain ⟨xp, xf, xl⟩ := x
            simp only at q0 q1 q2 HS2 hbe
            clear hc hc0 hx hrd11
            by_cases hp : xp = 0
            · have HS3 : Hid (ownN ((cutAt t.wins K2).take (k + 1)) = s + 1) := by refine hid ?_; rw [HS2.out, if_pos hp]
              have hpb : (xp == 0) = true := by simp [hp]
              clear hp
              go_wp2_with fail
              go_roundw
              case rel => exact ⟨k + 1, s + 1, by omega, by go_num, by go_num, by omega, hid HS3.out.symm, hbe⟩
              case measure => simp [intOf]; omega
            · have HS3 : Hid (ownN ((cutAt t.wins K2).take (k + 1)) = s) := by refine hid ?_; rw [HS2.out, if_neg hp]; rfl
              have hpb : (xp == 0) = false := by simp [hp]
              clear hp
              go_wp2_with fail
              go_roundw
              case rel => exact ⟨k + 1, s, by omega, by go_num, rfl, by omega, hid HS3.out.symm, hbe⟩
              case measure => simp [intOf]; omega
          · obtain rfl : k = (cutAt t.wins K2).length := by omega
            have hX4 := hX3.belowS hbel
            have hOK3 := hOK2.belowS hbel
            obtain ⟨x0, x1, x2, x3, x4⟩ := tab_cells hX4
            simp only at x0 x1 x2 x3 x4
            have iR2 := hid (right_any (⟨t.frame, t.parts, cutAt t.wins K2, cutAt t.chans K, t.trial⟩ : TabS) (⟨A1, k1, A10, c10, A6, c6⟩ : TabA) _ hOK3)
            have hfin : rightB (⟨t.frame, t.parts, cutAt t.wins K2, cutAt t.chans K, t.trial⟩ : TabS) = decide (0 < s) := by rw [HN.out, HS.out, List.take_length]
            rw [hfin] at iR2
            simp only at iR2
            clear hfin hOK3 HN HS
            by_cases hs : 0 < s
            · have hsI : decide ((0 : Int) < (s : Int)) = true := by simp; omega
              have hsN : decide (0 < s) = true := by simp; omega
              rw [hsN] at iR2
              have hsK := hid hs
              clear hs hsN
              go_wp2_with fail
              refine iR2.out.mono ?_
              rintro e w13 ⟨rfl, hb13⟩
              go_wp2_with fail
              go_ret
              refine ⟨ret_bool ?_, bel_trans (bel_trans hb012 hbel) hb13⟩
              have hs9 := hsK.out
              first | rfl | (simp; done) | (simp; omega) | omega
            · have hsI : decide ((0 : Int) < (s : Int)) = false := by simp; omega
              have hsN : decide (0 < s) = false := by simp; omega
              rw [hsN] at iR2
              have hsK := hid hs
              clear hs hsN
              go_wp2_with fail
              refine iR2.out.mono ?_
              rintro e w13 ⟨rfl, hb13⟩
              go_wp2_with fail
              go_ret
              refine ⟨ret_bool ?_, bel_trans (bel_trans hb012 hbel) hb13⟩
              have hs9 := hsK.out
              first | rfl | (simp; done) | (simp; omega) | omega
      · have hT1 : Blk (w3.alloc (.cells #[.int .i64 t.frame, .slice A1 t.parts.length k1, .slice (some ad2) t.wins.length k2, .slice A3 t.chans.length k3, .int .i64 t.trial] 26)) w.heap.size 26 (tabC t ⟨A1, k1, some ad2, k2, A3, k3⟩) := hblk3.alloc _
        have hX1 : Blk (w3.alloc (.cells #[.int .i64 t.frame, .slice A1 t.parts.length k1, .slice (some ad2) t.wins.length k2, .slice A3 t.chans.length k3, .int .i64 t.trial] 26)) w3.heap.size 26 (tabC t ⟨A1, k1, some ad2, k2, A3, k3⟩) := Blk.new w3 _ _
        have hb38 : Below w3.heap.size w3 (w3.alloc (.cells #[.int .i64 t.frame, .slice A1 t.parts.length k1, .slice (some ad2) t.wins.length k2, .slice A3 t.chans.length k3, .int .i64 t.trial] 26)) := (Below.refl _ _).alloc (Nat.le_refl _) _
        have hby1 := bel_trans hb03 hb38
        have hltb : w.heap.size < w3.heap.size := hblk3.lt
        have hne1 : w.heap.size ≠ w3.heap.size := by omega
        have hne2 : w3.heap.size ≠ w.heap.size := by omega
        have hb256 : b.toNat < 256 := b.toNat_lt
        obtain ⟨d0, d1, d2, d3, d4⟩ := tab_cells hT1
        simp only at d0 d1 d2 d3 d4
        obtain ⟨K2, hQ, hQ2⟩ : ∃ K2 : Nat, ((b.toNat : Nat) : Int) % (t.wins.length : Int) = (K2 : Int) ∧ K2 < t.wins.length := ⟨b.toNat % t.wins.length, by omega, Nat.mod_lt _ hw1⟩
        have hneW : ((t.wins.length : Int) == 0) = false := beq_eq_false_iff_ne.2 (by omega)
        have hchI : decide ((0 : Int) < (t.chans.length : Int)) = false := decide_eq_false (by omega)
        go_wp2_with fail
        simp only [hQ]
        clear hQ hneW d0 d1 d3 d4
        generalize hwx : w3.alloc (.cells #[.int .i64 t.frame, .slice A1 t.parts.length k1, .slice (some ad2) t.wins.length k2, .slice A3 t.chans.length k3, .int .i64 t.trial] 26) = w8 at hT1 hX1 hby1 hb38 d2 ⊢
        clear hwx
        have hinW : RdS w8 w8.heap.size 3 (some ad2) t.wins.length winC t.wins := (HO.out _ hby1).inn.2.1
        have hs1 := hid ((hinW.front (i := K2) (by omega)).reads (fun _ => rfl))
        have hs2 : Hid (Reads w8 w8.heap.size 3 (if k2 = K2 + 1 then some ad2 else some (ad2.add ((K2 + 1) * 3))) (t.wins.length - (K2 + 1)) ((t.wins.drop (K2 + 1)).flatMap winC)) := by
          refine hid ?_
          have hr := (hinW.back (i := K2 + 1) (by omega)).reads (fun _ => rfl)
          split
          · exact ⟨hr.1, fun h => absurd h (by omega)⟩
          · exact hr
        obtain ⟨j0, hj0, hy0, hy1, hy2⟩ := info_parts info_win
        have hQ0 : (0 : Int) ≤ (K2 : Int) := Int.natCast_nonneg _
        have hQ1 : (K2 : Int) ≤ (k2 : Int) := by omega
        have hQ4 : (0 : Int) ≤ (K2 : Int) + 1 := by omega
        have hQ5 : (K2 : Int) + 1 ≤ 9223372036854775807 := by omega
        have hQ7 : IntKind.i64.wrap ((K2 : Int) + 1) = (K2 : Int) + 1 := IntWalk.i64_in _ (by omega)
        have hQ6 : (t.wins.length : Int) ≤ (k2 : Int) := by omega
        have hQ3 : (K2 : Int) + 1 ≤ (t.wins.length : Int) := by omega
        have f4 := hX1.frozen 2
        have f3 := hX1.cellAt (i := 2) rfl
        simp only at f3
        have g5 : ∀ o, (w8.alloc o).drew.frozen? ⟨w3.heap.size, 2, none⟩ = false := fun o => (hX1.alloc o).drew.frozen 2
        have g6 : ∀ o, (w8.alloc o).frozen? ⟨w3.heap.size, 2, none⟩ = false := fun o => (hX1.alloc o).frozen 2
        go_region_held3 (fun w' => w'.cell? ⟨w.heap.size, 2, none⟩ = some (.slice (some ad2) t.wins.length k2) ∧ w'.frozen? ⟨w3.heap.size, 2, none⟩ = false)
          (go_keep)
          (first
            | (refine step_copy w8.drew (by rfl) _ _ _ (by rfl) 30 j0 _ 3 24 Try.underlying23 hj0 hy0 hy1 hy2 rfl (by decide) (by rfl) (some ad2) K2 k2 _ (by rfl) hs1.out.drew (oneCell_win _) (by simp [maxLen]; omega) (by omega) ?_; intro A9 c9 w9 hown9 hbel9'; have hbel9 : Below w8.heap.size w8 w9 := ⟨hbel9'.os, hbel9'.tape, hbel9'.output, hbel9'.size, hbel9'.block⟩; clear hbel9'; have q0 : w9.cell? ⟨w.heap.size, 2, none⟩ = _ := (hbel9.cell (p := ⟨w.heap.size, 2, none⟩) hT1.lt).trans d2; have q1 : w9.cell? ⟨w3.heap.size, 2, none⟩ = _ := (hbel9.cell (p := ⟨w3.heap.size, 2, none⟩) hX1.lt).trans f3; have q2 : w9.frozen? ⟨w3.heap.size, 2, none⟩ = _ := (hbel9.frozen (p := ⟨w3.heap.size, 2, none⟩) hX1.lt).trans f4)
            | (refine step_append_src _ (by rfl) _ _ _ (by rfl) w8.heap.size 30 j0 _ 3 24 Try.underlying23 hj0 hy0 hy1 hy2 rfl (by decide) (.slice A9 K2 c9) K2 _ (by rfl) hown9 w8.heap.size (if k2 = K2 + 1 then some ad2 else some (ad2.add ((K2 + 1) * 3))) (t.wins.length - (K2 + 1)) (k2 - (K2 + 1)) _ (by rfl) (hs2.out.below hbel9) (oneCell_win _) (by simp [maxLen]; omega) (by omega) hbel9.size (cutAt t.wins K2).length (by have := cutAt_len hQ2; omega) ?_; intro A10 c10 w10 hown10 hgrow10 hbel10; have z0 : w10.cell? ⟨w.heap.size, 2, none⟩ = _ := (hbel10.cell (p := ⟨w.heap.size, 2, none⟩) hT1.lt).trans q0; have z1 : w10.cell? ⟨w3.heap.size, 2, none⟩ = _ := (hbel10.cell (p := ⟨w3.heap.size, 2, none⟩) hX1.lt).trans q1; have z2 : w10.frozen? ⟨w3.heap.size, 2, none⟩ = _ := (hbel10.frozen (p := ⟨w3.heap.size, 2, none⟩) hX1.lt).trans q2))
        generalize (if k2 = K2 + 1 then some ad2 else some (ad2.add ((K2 + 1) * 3))) = AB
        have hX2 := ((hX1.below hbel9 hX1.lt).below hbel10 hX1.lt).set_ 2 (.slice A10 (cutAt t.wins K2).length c10)
        have hbx10 : Below w8.heap.size w8 w10 := hbel9.trans hbel10
        have hb11 : Below w3.heap.size w3 (w10.setCell ⟨w3.heap.size, 2, none⟩ (.slice A10 (cutAt t.wins K2).length c10)) := (bel_trans hb38 hbx10).setCell (Nat.le_refl _) _
        have hown11 := ownsRow_setCell_below hown10 (a := ⟨w3.heap.size, 2, none⟩) hX1.lt (.slice A10 (cutAt t.wins K2).length c10)
        have hrd11 : RdS (w10.setCell ⟨w3.heap.size, 2, none⟩ (.slice A10 (cutAt t.wins K2).length c10)) (w10.setCell ⟨w3.heap.size, 2, none⟩ (.slice A10 (cutAt t.wins K2).length c10)).heap.size 3 A10 (cutAt t.wins K2).length winC (cutAt t.wins K2) := by
          have hr := Reads.of_own hown11
          rw [← List.flatMap_append] at hr
          exact hr.rds (fun _ => rfl)
        have hchs : RdS (w10.setCell ⟨w3.heap.size, 2, none⟩ (.slice A10 (cutAt t.wins K2).length c10)) (w10.setCell ⟨w3.heap.size, 2, none⟩ (.slice A10 (cutAt t.wins K2).length c10)).heap.size 3 A3 (t.chans).length chanC (t.chans) := (HO.out _ (bel_trans hb03 hb11)).inn.2.2
        generalize w10.setCell ⟨w3.heap.size, 2, none⟩ (.slice A10 (cutAt t.wins K2).length c10) = w12 at hX2 hb11 hrd11 hchs ⊢
        have hb012 := bel_trans hb03 hb11
        have hcl := cutAt_len hQ2
        have hOK2 : TabOk w12 (⟨t.frame, t.parts, cutAt t.wins K2, t.chans, t.trial⟩ : TabS) (⟨A1, k1, A10, c10, A3, k3⟩ : TabA) := by
          have h0 := HO.out _ hb012
          exact ⟨⟨h0.inn.1, hrd11, hchs⟩, h0.n1, by simp only; omega, by simp only; omega, h0.f1, h0.f2⟩
        have hX3 : Blk w12 w3.heap.size 26 (tabC (⟨t.frame, t.parts, cutAt t.wins K2, t.chans, t.trial⟩ : TabS) (⟨A1, k1, A10, c10, A3, k3⟩ : TabA)) := hX2
        have HN : Hid (rightB (⟨t.frame, t.parts, cutAt t.wins K2, t.chans, t.trial⟩ : TabS) = decide (0 < ownN (cutAt t.wins K2))) := hid (near_wins (t := (⟨t.frame, t.parts, t.wins, t.chans, t.trial⟩ : TabS)) HRT.out K2)
        clear hX2 hbel9 hbel10 hown9 hown10 hown11 z0 z1 z2 q0 q1 q2 f3 hgrow10 hQ0 hQ1 hQ4 hQ5 hQ7 hQ6 hQ3 f4 g5 g6 hs1 hs2 hinW hj0 hy0 hy1 hy2 d2 hT1 hX1
        skip
        obtain ⟨x0, x1, x2, x3, x4⟩ := tab_cells hX3
        simp only at x0 x1 x2 x3 x4
        go_wp2_with fail
        clear x0 x1 x2 x3 x4
        go_loopw [8, 69] (fun v8 v69 wr => ∃ (k s : Nat), k ≤ (cutAt t.wins K2).length ∧ v69 = .int .i64 (k : Int) ∧ v8 = .int .i64 (s : Int) ∧ s ≤ k ∧ Hid (s = ownN ((cutAt t.wins K2).take k)) ∧ Below w12.heap.size w12 wr) (fun _ v69 _ => (cutAt t.wins K2).length - (intOf v69).toNat)
        case atStart => exact ⟨0, 0, by omega, rfl, rfl, by omega, by refine hid ?_; simp [ownN], Below.refl _ _⟩
        case round =>
          obtain ⟨k, s, hk, rfl, rfl, hsk, HS, hbel⟩ := hrel
          by_cases hkn : k < (cutAt t.wins K2).length
          · obtain ⟨ad, x, rfl, had, hx, hc0, hc⟩ := (hrd11.belowS hbel).at_ hkn
            have q0 := hc0 _ rfl
            have q1 := hc 0 _ rfl
            have q2 := hc 1 _ rfl
            have HS2 : Hid (ownN ((cutAt t.wins K2).take (k + 1)) = s + if x.part = 0 then 1 else 0) := by
              refine hid ?_
              rw [List.take_add_one, hx, HS.out]
              exact ownN_snoc _ _
            have hbe := bel_alloc hbel (.cells #[.int .i64 x.part, .int .i64 x.at_, .int .i64 x.long] 30)
            obtain ⟨xp, xf, xl⟩ := x
            simp only at q0 q1 q2 HS2 hbe
            clear hc hc0 hx hrd11
            by_cases hp : xp = 0
            · have HS3 : Hid (ownN ((cutAt t.wins K2).take (k + 1)) = s + 1) := by refine hid ?_; rw [HS2.out, if_pos hp]
              have hpb : (xp == 0) = true := by simp [hp]
              clear hp
              go_wp2_with fail
              go_roundw
              case rel => exact ⟨k + 1, s + 1, by omega, by go_num, by go_num, by omega, hid HS3.out.symm, hbe⟩
              case measure => simp [intOf]; omega
            · have HS3 : Hid (ownN ((cutAt t.wins K2).take (k + 1)) = s) := by refine hid ?_; rw [HS2.out, if_neg hp]; rfl
              have hpb : (xp == 0) = false := by simp [hp]
              clear hp
              go_wp2_with fail
              go_roundw
              case rel => exact ⟨k + 1, s, by omega, by go_num, rfl, by omega, hid HS3.out.symm, hbe⟩
              case measure => simp [intOf]; omega
          · obtain rfl : k = (cutAt t.wins K2).length := by omega
            have hX4 := hX3.belowS hbel
            have hOK3 := hOK2.belowS hbel
            obtain ⟨x0, x1, x2, x3, x4⟩ := tab_cells hX4
            simp only at x0 x1 x2 x3 x4
            have iR2 := hid (right_any (⟨t.frame, t.parts, cutAt t.wins K2, t.chans, t.trial⟩ : TabS) (⟨A1, k1, A10, c10, A3, k3⟩ : TabA) _ hOK3)
            have hfin : rightB (⟨t.frame, t.parts, cutAt t.wins K2, t.chans, t.trial⟩ : TabS) = decide (0 < s) := by rw [HN.out, HS.out, List.take_length]
            rw [hfin] at iR2
            simp only at iR2
            clear hfin hOK3 HN HS
            by_cases hs : 0 < s
            · have hsI : decide ((0 : Int) < (s : Int)) = true := by simp; omega
              have hsN : decide (0 < s) = true := by simp; omega
              rw [hsN] at iR2
              have hsK := hid hs
              clear hs hsN
              go_wp2_with fail
              refine iR2.out.mono ?_
              rintro e w13 ⟨rfl, hb13⟩
              go_wp2_with fail
              go_ret
              refine ⟨ret_bool ?_, bel_trans (bel_trans hb012 hbel) hb13⟩
              have hs9 := hsK.out
              first | rfl | (simp; done) | (simp; omega) | omega
            · have hsI : decide ((0 : Int) < (s : Int)) = false := by simp; omega
              have hsN : decide (0 < s) = false := by simp; omega
              rw [hsN] at iR2
              have hsK := hid hs
              clear hs hsN
              go_wp2_with fail
              refine iR2.out.mono ?_
              rintro e w13 ⟨rfl, hb13⟩
              go_wp2_with fail
              go_ret
              refine ⟨ret_bool ?_, bel_trans (bel_trans hb012 hbel) hb13⟩
              have hs9 := hsK.out
              first | rfl | (simp; done) | (simp; omega) | omega
    · have HR := hid (show rightB t = false by simpa using hr)
      clear hr
      go_enter Try.func3, Try.ntmps3
      go_wp2_with fail
      refine (wakes_any _).mono ?_
      rintro e w1 ⟨rfl, hb1⟩
      have hb01 := bel_trans hb0 hb1
      have hblk1 := hblk0.belowS hb1
      obtain ⟨c0, c1, c2, c3, c4⟩ := tab_cells hblk1
      clear hblk0
      go_wp2_with fail
      refine (iL.out _).mono ?_
      rintro e w2 ⟨rfl, hb2⟩
      have hb02 := bel_trans hb01 hb2
      clear c0 c1 c2 c3 c4
      obtain ⟨c0, c1, c2, c3, c4⟩ := tab_cells (hblk1.belowS hb2)
      go_wp2_with fail
      refine (right_any t ⟨A1, k1, A2, k2, A3, k3⟩ _ (HO.out _ hb02)).mono ?_
      rintro e w3 ⟨he, hb3⟩
      rw [HR.out] at he
      subst he
      clear c0 c1 c2 c3 c4
      go_wp2_with fail
      go_ret
      exact ⟨rfl, bel_trans hb02 hb3⟩
theorem near_law (t : TabS) (a : TabA) (w : World) (hT : TabCame w t a) (d : Int) (hd : (Lit.int .u8 d).wf = true) :
    Calls Try.prog 3 #[.agg #[.int .i64 t.frame, .slice a.A1 t.parts.length a.c1, .slice a.A2 t.wins.length a.c2, .slice a.A3 t.chans.length a.c3, .int .i64 t.trial], .int .u8 d] w fun e w' => e = .returned (.bool true) ∧ Below w.heap.size w w' := by
  obtain ⟨h1, h2⟩ := bounds_u8 hd
  have e : d = ((UInt8.ofNat d.toNat).toNat : Int) := by
    rw [UInt8.toNat_ofNat']
    omega
  rw [e]
  exact near_any t a _ w hT

/-! ### TableNear: from the walk to the given statement -/
namespace lawTableNear
theorem own : ownKnob Try.prog.godebug = none := by kernel_rfl
theorem laidOut : laidOutB Try.prog = true := by kernel_rfl
set_option maxRecDepth 100000 in
theorem lifted (os : Os) (started : os.Started) (H : Type) (enc : TypeId × Value → H) :
    ReturnsInHanded {} Try.checked os 3 .any (Rows.tableNearSpec.pre6 enc Try.prog Try.f3 Rows.tableNearRow.domain false) (Rows.tableNearSpec.post enc Try.prog Try.f3 false true false false) := by
  refine returnsInHanded_of_change (C := Try.checked) own started (by kernel_rfl) Try.func3
    (ChangeSpec.witness6 (enc := enc) (C := Try.checked) false ⟨#[], #[.agg #[.int .i64 0, .slice none 0 0, .slice none 0 0, .slice none 0 0, .int .i64 0], .int .u8 0], []⟩ 8 (by kernel_rfl) (by kernel_rfl) (by kernel_rfl) (by kernel_rfl)) ?_
  intro W base args ds gs before hval0 hW hcnd _
  have hval : ∀ (j : Nat) t v, Try.f3.params[j]? = some t → args[j]? = some v → Value.okWide Try.prog W .any base t v := hval0
  have hW' := hW
  obtain ⟨p, q, hA0, hV, rfl, hfz, hnd⟩ := hW
  have hA : DataW.TrodAll enc Try.prog W 0 (fun _ => true) true Try.f3.params.toList args.toList ds p := hA0
  rw [Try.params3] at hA hval
  obtain ⟨v0, vs0, d0, ds0, p0, q0, hargs, rfl, rfl, h0, r0⟩ := trodAll_cons hA
  obtain ⟨v1, vs1, d1, ds1, p1, q1, rfl, rfl, rfl, h1, r1⟩ := trodAll_cons r0
  obtain ⟨rfl, rfl, rfl⟩ := trodAll_nil r1
  obtain rfl : args = #[v0, v1] := by cases args; simp_all
  obtain ⟨rfl, rfl⟩ := trodVars_none hV
  have k0 := h0
  have lt0 : ∀ x ∈ p0, x.block < W.heap.size := by obtain ⟨m, hm⟩ := k0; exact DataW.trod_lt m _ _ _ hm
  have k1 := h1
  have lt1 : ∀ x ∈ p1, x.block < W.heap.size := by obtain ⟨m, hm⟩ := k1; exact DataW.trod_lt m _ _ _ hm
  obtain ⟨t0, a0, rfl, w0⟩ := open_tab (hval 0 26 v0 rfl rfl) h0
  obtain ⟨a1, rfl, rfl, rfl, w1⟩ := open_int Try.underlying5 (hval 1 5 v1 rfl rfl) h1
  clear hA0 hval0
  refine (near_law t0 a0 W w0 a1 w1).mono fun e W' ⟨he, bel⟩ => ?_
  subst he
  exact ⟨_, rfl, _, _, _, [], _, [], hW', trodAll_mk1 (shut_bool Try.underlying4 _), (trodAll_cons_mk (Below.trod laidOut (by kernel_rfl) (of_decide_eq_true (by kernel_rfl)) k0 bel lt0) (trodAll_cons_mk (Below.trod laidOut (by kernel_rfl) (of_decide_eq_true (by kernel_rfl)) k1 bel lt1) trodAll_mk0)), rfl, bel.frame _, fun h => by cases h⟩
theorem over : Rows.tableNearRow.holds Try.pinned (OpenSpec.ofChange Rows.tableNearSpec) :=
  OpenClaim.holds_of_wide 3 Try.f3 rfl rfl rfl rfl rfl rfl rfl ⟨rfl, rfl, rfl, rfl, rfl⟩ rfl rfl rfl rfl rfl (by kernel_rfl) Try.func3 (by kernel_rfl)
    (of_decide_eq_true (by kernel_rfl)) (by unfold Func.isWrapper; first | (rw [if_pos (by decide +kernel)]; kernel_rfl) | (rw [if_neg (by decide +kernel)]; exact ⟨rfl, rfl⟩))
    (fun os started H enc _ => lifted os started H enc)
theorem proved : Rows.TableNearSaid := over
#print axioms proved
end lawTableNear

end Go.Proofs.Ytbnodcenlggcnaa
