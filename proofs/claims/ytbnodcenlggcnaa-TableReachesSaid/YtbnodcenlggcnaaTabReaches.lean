/-
  Law 05: TableReaches: the walk (under way: it stands at region 17, behind the first two loops).
-/
import Derived.Test.YtbnodcenlggcnaaTabReach
import Derived.Test.YtbnodcenlggcnaaTabCut
namespace Go.Proofs.Ytbnodcenlggcnaa
open Go.RowKit Go.ChangeShapes Go.WideShapes Go.ChangeAt

theorem own_base {w : World} {b1 b2 : Nat} {e : TypeId} {size : Nat} {v : Value} {n : Nat} {xs : List Value} (h : w.ownsRow b1 e size v n xs) (hb : b2 ≤ b1) : w.ownsRow b2 e size v n xs := by
  refine ⟨h.1, ?_⟩
  rcases h.2 with h2 | ⟨g, cap, cur, hv, hg, r⟩
  · exact .inl h2
  · exact .inr ⟨g, cap, cur, hv, Nat.le_trans hb hg, r⟩
theorem reads_grown_ne {w w' : World} {B size n g : Nat} {xs : List Value} {row : Option Nat} (h : Reads w B size (some ⟨g, 0, none⟩) n xs) (hg : w.grownBy w' row) (hlt : g < w.heap.size) (hr : some g ≠ row) : Reads w' B size (some ⟨g, 0, none⟩) n xs := by
  refine ⟨h.1, fun hn => ?_⟩
  obtain ⟨ad, e, hb, hc⟩ := h.2 hn
  refine ⟨ad, e, hb, fun j u hu => ?_⟩
  injection e with e
  subst e
  rw [World.cell?_of_block (hg.block _ (by rw [block_add]; exact hlt) (by rw [block_add]; exact hr))]
  exact hc j u hu
theorem reads_chan (w : World) (x y z : Int) : Reads (w.alloc (.cells #[.int .i64 x, .int .i64 y, .int .i64 z] 34)) (w.heap.size + 1) 3 (some ⟨w.heap.size, 0, none⟩) 1 [.int .i64 x, .int .i64 y, .int .i64 z] := (Reads.lit (heap_alloc_new w _) (by rfl)).more (by simp)
theorem own_made0 (w : World) (e : TypeId) : (w.alloc (.cells #[] e)).ownsRow w.heap.size e 3 (.slice (some ⟨w.heap.size, 0, none⟩) 0 0) 0 [] := World.ownsRow_made w _ 0 (Nat.le_refl _) (by simp [maxLen]) (by simp)
theorem oneCell_c (x y z : Int) : ∀ u ∈ [Value.int .i64 x, .int .i64 y, .int .i64 z], u.oneCell' = true := by
  intro u hu
  simp only [List.mem_cons, List.not_mem_nil, or_false] at hu
  rcases hu with rfl | rfl | rfl <;> rfl

set_option maxRecDepth 100000 in
set_option maxHeartbeats 2000000 in
theorem reaches_any (w : World) (t : TabS) (a : TabA) (hT : TabCame w t a) (p : Int) (x y z : Int) :
    Calls Try.prog 5 #[.agg #[.int .i64 t.frame, .slice a.A1 t.parts.length a.c1, .slice a.A2 t.wins.length a.c2, .slice a.A3 t.chans.length a.c3, .int .i64 t.trial], .int .i64 p, .agg #[.int .i64 x, .int .i64 y, .int .i64 z]] w fun e w' => e = .returned (.bool true) ∧ Below w.heap.size w w' := by
  obtain ⟨A1, k1, A2, k2, A3, k3⟩ := a
  simp only
  obtain ⟨w0, hw0, hb00, hblk00, hs0⟩ := tab_in t ⟨A1, k1, A2, k2, A3, k3⟩ w
  simp only at hw0
  obtain ⟨w1, hw1, hb01, hfb1, hs1⟩ : ∃ w1 : World, w0.alloc (.cells #[.int .i64 x, .int .i64 y, .int .i64 z] 34) = w1 ∧ Below w0.heap.size w0 w1 ∧ Blk w1 w0.heap.size 34 (chanC ⟨x, y, z⟩) ∧ w1.heap.size = w0.heap.size + 1 := ⟨_, rfl, (Below.refl _ _).alloc (Nat.le_refl _) _, Blk.new _ _ _, by simp⟩
  have hb0 := bel_trans hb00 hb01
  have hblk0 := hblk00.belowS hb01
  have iL := hid (fun w' => long_any t ⟨A1, k1, A2, k2, A3, k3⟩ w' hT.l1 hT.l2 hT.l3)
  have HC := hid hT
  clear hT hb00 hb01 hblk00
  simp only at iL
  go_enter Try.func5, Try.ntmps5
  go_wp2_with fail
  clear hw0 hw1
  have hfb0 : Blk w1 (w.heap.size + 1) 34 (chanC ⟨x, y, z⟩) := by rw [← hs0]; exact hfb1
  clear hs0 hs1 hfb1
  refine (wakes_any _).mono ?_
  rintro e w2 ⟨rfl, hb2⟩
  have hb02 := bel_trans hb0 hb2
  have hblk2 := hblk0.belowS hb2
  have hfb2 := hfb0.belowS hb2
  obtain ⟨c0, c1, c2, c3, c4⟩ := tab_cells hblk2
  simp only at c0 c1 c2 c3 c4
  clear hblk0 hb2 hfb0
  go_wp2_with fail
  refine (iL.out _).mono ?_
  rintro e w3 ⟨he, hb3⟩
  have hb03 := bel_trans hb02 hb3
  have hblk3 := hblk2.belowS hb3
  have hfb3 := hfb2.belowS hb3
  clear c0 c1 c2 c3 c4 hblk2 hb3 iL hfb2
  obtain ⟨c0, c1, c2, c3, c4⟩ := tab_cells hblk3
  simp only at c0 c1 c2 c3 c4
  by_cases hl : longB t = true
  · rw [hl] at he
    subst he
    clear hl hblk3
    go_wp2_with fail
    go_ret
    exact ⟨rfl, hb03⟩
  · have hl' : longB t = false := by simpa using hl
    rw [hl'] at he
    subst he
    have HO : Hid (∀ w', Below w.heap.size w w' → TabOk w' t ⟨A1, k1, A2, k2, A3, k3⟩) := hid (fun w' hb => HC.out.ok hl' hb)
    clear hl hl' HC
    have i2 := hid (fun w' hb => right_any t ⟨A1, k1, A2, k2, A3, k3⟩ w' (HO.out w' hb))
    have i3 := hid (fun (q : Int) w' hb => Reach_any t ⟨A1, k1, A2, k2, A3, k3⟩ q w' (HO.out w' hb))
    simp only at i2 i3
    go_wp2_with fail
    refine (i2.out _ hb03).mono ?_
    rintro e w4 ⟨he, hb4⟩
    have hb04 := bel_trans hb03 hb4
    have hblk4 := hblk3.belowS hb4
    have hfb4 := hfb3.belowS hb4
    clear c0 c1 c2 c3 c4 hblk3 hb4 i2 hfb3
    obtain ⟨c0, c1, c2, c3, c4⟩ := tab_cells hblk4
    simp only at c0 c1 c2 c3 c4
    cases hr : rightB t with
    | false =>
      rw [hr] at he
      subst he
      clear hr hblk4
      go_wp2_with fail
      go_ret
      exact ⟨rfl, hb04⟩
    | true =>
      rw [hr] at he
      subst he
      by_cases hc4 : 4 ≤ t.chans.length
      · have g1 : decide ((4 : Int) ≤ (t.chans.length : Int)) = true := decide_eq_true (by omega)
        clear hc4 hr hblk4
        go_wp2_with fail
        go_ret
        exact ⟨rfl, hb04⟩
      · have g1 : decide ((4 : Int) ≤ (t.chans.length : Int)) = false := decide_eq_false (by omega)
        have HR := hid ((rightB_iff t).1 hr)
        clear hr
        go_wp2_with fail
        refine (i3.out p _ hb04).mono ?_
        rintro e w5 ⟨AL, cL, rfl, hown5, hb5⟩
        have hb05 := bel_trans hb04 hb5
        have hblk5 := hblk4.belowS hb5
        have hfb5 := hfb4.belowS hb5
        clear c0 c1 c2 c3 c4 hblk4 hb5 hfb4 hb04 hb03 hb02 hb0
        have HO5 := hid (Reads.of_own hown5)
        clear hown5
        have hL4 := reachB_len t p
        have HCL := hid (fun q v => @reachB_closed t p q v)
        have HMO := hid (fun u v => @reachB_mono t u p v)
        generalize reachB t p = L at HO5 hL4 HCL HMO ⊢
        go_wp2_with fail
        clear g1
        go_loopw [9, 11, 36, 44] (fun _ _ v36 _ wr => ∃ k : Nat, k ≤ L.length ∧ v36 = .int .i64 (k : Int) ∧ Below w5.heap.size w5 wr) (fun _ _ v36 _ _ => L.length - (intOf v36).toNat)
        case atStart => exact ⟨0, by omega, rfl, Below.refl _ _⟩
        obtain ⟨k, hk, rfl, hbel⟩ := hrel
        have hb0r := bel_trans hb05 hbel
        have hblkr := hblk5.belowS hbel
        obtain ⟨c0, c1, c2, c3, c4⟩ := tab_cells hblkr
        simp only at c0 c1 c2 c3 c4
        by_cases hkn : k < L.length
        · have HOr := hid (HO5.out.belowS hbel)
          obtain ⟨ad, q, rfl, had, hq, hc⟩ := HOr.out.atM hkn
          simp only [iV] at hc
          have HQ := hid (List.mem_of_getElem? hq)
          have hk0 : (0 : Int) ≤ (k : Int) := Int.natCast_nonneg _
          have hk1 : (k : Int) < (L.length : Int) := by omega
          have hknd : decide ((k : Int) < (L.length : Int)) = true := decide_eq_true hk1
          clear hq
          go_wp2_with fail
          refine (i3.out q _ hb0r).mono ?_
          rintro e w6 ⟨AM, cM, rfl, hown6, hb6⟩
          have HO6 := hid (Reads.of_own hown6)
          have HQ2 : Hid (∀ v ∈ reachB t q, v ∈ L) := hid (fun v hv => HCL.out q v HQ.out hv)
          have hM4 := reachB_len t q
          have hbw6 := bel_trans hbel hb6
          have HO7 := hid (HOr.out.belowS hb6)
          clear c0 c1 c2 c3 c4 hown6 hb6 hc had HOr hblkr hb0r
          generalize reachB t q = M at HO6 hM4 HQ2 ⊢
          go_wp2_with fail
          obtain ⟨wo, rfl⟩ : ∃ wo : World, wo = wr := ⟨_, rfl⟩
          go_loopw [11, 44] (fun _ v44 wr => ∃ j : Nat, j ≤ M.length ∧ v44 = .int .i64 (j : Int) ∧ Below w6.heap.size w6 wr) (fun _ v44 _ => M.length - (intOf v44).toNat)
          case atStart => exact ⟨0, by omega, rfl, Below.refl _ _⟩
          obtain ⟨j, hj, rfl, hbel6⟩ := hrel
          by_cases hjn : j < M.length
          · have HOs := hid (HO6.out.belowS hbel6)
            obtain ⟨ad2, v, rfl, had2, hv, hc2⟩ := HOs.out.atM hjn
            simp only [iV] at hc2
            have HV := HQ2.out v (List.mem_of_getElem? hv)
            have i8 := hid (fun c => has_in _ _ c L v _ (HO7.out.belowS hbel6) (by omega) HV)
            have hj0 : (0 : Int) ≤ (j : Int) := Int.natCast_nonneg _
            have hj1 : (j : Int) < (M.length : Int) := by omega
            clear hv HV HOs
            go_wp2_with fail
            refine (i8.out _).mono ?_
            rintro e w7 ⟨rfl, hb7⟩
            have hbw7 := hid (bel_trans hbel6 hb7)
            clear hb7 hc2
            go_wp2_with fail
            go_roundw
            case rel => exact ⟨j + 1, by omega, by go_num, hbw7.out⟩
            case measure => simp [intOf]; omega
          · obtain rfl : j = M.length := by omega
            have hbw7 := hid (bel_trans hbw6 hbel6)
            go_wp2_with fail
            go_roundw
            case rel => exact ⟨k + 1, by omega, by go_num, hbw7.out⟩
            case measure => simp [intOf]; omega
        · obtain rfl : k = L.length := by omega
          have hltb : w.heap.size < wr.heap.size := hblkr.lt
          have hfbr := hfb5.belowS hbel
          have hltc : w.heap.size + 1 < wr.heap.size := hfbr.lt
          have hTr := HO.out _ hb0r
          have hinC := hTr.inn.2.2
          simp only at hinC
          have hn3 := hTr.n3
          have hHO6 := hid (HO5.out.belowS hbel)
          have e0 : wr.cell? ⟨w.heap.size + 1, 0, none⟩ = some (.int .i64 x) := hfbr.cellAt rfl
          have e1 : wr.cell? ⟨w.heap.size + 1, 1, none⟩ = some (.int .i64 y) := hfbr.cellAt rfl
          have e2 : wr.cell? ⟨w.heap.size + 1, 2, none⟩ = some (.int .i64 z) := hfbr.cellAt rfl
          obtain ⟨wx, hwx, hb35, hblk5x, hszx⟩ : ∃ wx : World, wr.alloc (.cells #[.int .i64 t.frame, .slice A1 t.parts.length k1, .slice A2 t.wins.length k2, .slice A3 t.chans.length k3, .int .i64 t.trial] 26) = wx ∧ Below wr.heap.size wr wx ∧ Blk wx wr.heap.size 26 (tabC t ⟨A1, k1, A2, k2, A3, k3⟩) ∧ wx.heap.size = wr.heap.size + 1 := ⟨_, rfl, (Below.refl _ _).alloc (Nat.le_refl _) _, Blk.new wr _ _, by simp⟩
          have hblkx := hblkr.belowS hb35
          have hfbx := hfbr.belowS hb35
          have hinX := hinC.belowS hb35
          clear hinC hTr hHO6 hszx
          go_wp2_with fail
          clear c0 c1 c2 c3 c4 e0 e1 e2 hwx
          have hr1 := hid (hinX.reads (fun _ => rfl))
          have hne1 : w.heap.size ≠ wr.heap.size := by omega
          have hne2 : wr.heap.size ≠ w.heap.size := by omega
          have hne3 : w.heap.size + 1 ≠ wr.heap.size := by omega
          have hne4 : wr.heap.size ≠ w.heap.size + 1 := by omega
          obtain ⟨i0, hi0, hz0, hz1, hz2⟩ := info_parts info_chan
          have HAx : Hid (∀ w', Below wx.heap.size wx w' → w'.cell? ⟨w.heap.size, 3, none⟩ = some (.slice A3 t.chans.length k3) ∧ w'.frozen? ⟨wr.heap.size, 3, none⟩ = false ∧ w'.cell? ⟨w.heap.size + 1, 0, none⟩ = some (.int .i64 x) ∧ w'.cell? ⟨w.heap.size + 1, 1, none⟩ = some (.int .i64 y) ∧ w'.cell? ⟨w.heap.size + 1, 2, none⟩ = some (.int .i64 z) ∧ w'.cell? ⟨wr.heap.size, 3, none⟩ = some (.slice A3 t.chans.length k3)) := hid (fun w' hb => ⟨(hblkx.belowS hb).cellAt rfl, (hblk5x.belowS hb).frozen 3, (hfbx.belowS hb).cellAt rfl, (hfbx.belowS hb).cellAt rfl, (hfbx.belowS hb).cellAt rfl, (hblk5x.belowS hb).cellAt rfl⟩)
          obtain ⟨d3, dz, d5, d6, d7, e3⟩ := HAx.out wx (Below.refl _ _)
          obtain ⟨CU, hCU⟩ : ∃ CU : List ChanS, CU = t.chans ++ [(⟨x, y, z⟩ : ChanS)] := ⟨_, rfl⟩
          have hCUl : t.chans.length + 1 = CU.length := by rw [hCU]; simp
          have HCU := hid hCU
          clear hCU
          have hf5 : ∀ o, (wx.alloc o).drew.frozen? ⟨wr.heap.size, 3, none⟩ = false := fun o => (hblk5x.alloc o).drew.frozen 3
          have hf6 : ∀ o, (wx.alloc o).frozen? ⟨wr.heap.size, 3, none⟩ = false := fun o => (hblk5x.alloc o).frozen 3
          have hf7 : ∀ o o', ((wx.alloc o).alloc o').drew.frozen? ⟨wr.heap.size, 3, none⟩ = false := fun o o' => ((hblk5x.alloc o).alloc o').drew.frozen 3
          have hf8 : ∀ o o', ((wx.alloc o).alloc o').frozen? ⟨wr.heap.size, 3, none⟩ = false := fun o o' => ((hblk5x.alloc o).alloc o').frozen 3
          go_region_held3 (fun w' => w'.cell? ⟨w.heap.size, 3, none⟩ = some (.slice A3 t.chans.length k3) ∧ w'.frozen? ⟨wr.heap.size, 3, none⟩ = false ∧ w'.cell? ⟨w.heap.size + 1, 0, none⟩ = some (.int .i64 x) ∧ w'.cell? ⟨w.heap.size + 1, 1, none⟩ = some (.int .i64 y) ∧ w'.cell? ⟨w.heap.size + 1, 2, none⟩ = some (.int .i64 z))
            (go_keep)
            (first
              | (refine step_copy wx.drew (by rfl) _ _ _ (by rfl) 34 i0 _ 3 24 Try.underlying24 hi0 hz0 hz1 hz2 rfl (by decide) (by rfl) A3 t.chans.length k3 _ (by rfl) hr1.out.drew (oneCell_chan _) (by simp [maxLen]; omega) (by omega) ?_; intro A5 c5 w5 hown5 hbel5'; have hbel5 : Below wx.heap.size wx w5 := ⟨hbel5'.os, hbel5'.tape, hbel5'.output, hbel5'.size, hbel5'.block⟩; clear hbel5'; have HSA := hid (reads_chan w5 x y z); have HOA : Hid ((w5.alloc (.cells #[.int .i64 x, .int .i64 y, .int .i64 z] 34)).ownsRow wx.heap.size 34 3 (.slice A5 t.chans.length c5) t.chans.length (t.chans.flatMap chanC)) := hid (own_below hown5 ((Below.refl _ _).alloc (Nat.le_refl _) _)); have hfa : ∀ o, (w5.alloc o).frozen? ⟨wr.heap.size, 3, none⟩ = false := (fun o => (HAx.out (w5.alloc o) (hbel5.alloc hbel5.size _)).2.1); have hfb : ∀ o, (w5.alloc o).drew.frozen? ⟨wr.heap.size, 3, none⟩ = false := (fun o => (HAx.out (w5.alloc o) (hbel5.alloc hbel5.size _)).2.1); obtain ⟨q0, q1, q2, q3, q4, q5⟩ := HAx.out w5 hbel5)
              | (refine step_copy (wx.drew.alloc (.cells #[.int .i64 x, .int .i64 y, .int .i64 z] 34)) (by rfl) _ _ _ (by rfl) 34 i0 _ 3 24 Try.underlying24 hi0 hz0 hz1 hz2 rfl (by decide) (by rw [show (wx.drew.alloc (.cells #[.int .i64 x, .int .i64 y, .int .i64 z] 34)).heap.size = wx.heap.size + 1 by simp]; rfl) A3 t.chans.length k3 _ (by rfl) (((hr1.out.drew).belowS (w' := wx.drew.alloc (.cells #[.int .i64 x, .int .i64 y, .int .i64 z] 34)) ((Below.refl _ _).alloc (Nat.le_refl _) _))) (oneCell_chan _) (by simp [maxLen]; omega) (by omega) ?_; intro A5 c5 w5 hown5 hbel5'; have hbel5'' : Below (wx.drew.alloc (.cells #[.int .i64 x, .int .i64 y, .int .i64 z] 34)).heap.size (wx.drew.alloc (.cells #[.int .i64 x, .int .i64 y, .int .i64 z] 34)) w5 := ⟨hbel5'.os, hbel5'.tape, hbel5'.output, hbel5'.size, hbel5'.block⟩; have hb5m : Below wx.drew.heap.size wx.drew w5 := bel_trans ((Below.refl _ _).alloc (Nat.le_refl _) _) hbel5''; have hbel5 : Below wx.heap.size wx w5 := ⟨hb5m.os, hb5m.tape, hb5m.output, hb5m.size, hb5m.block⟩; have HSC : Hid (Reads w5 (wx.heap.size + 1) 3 (some ⟨wx.heap.size, 0, none⟩) 1 [.int .i64 x, .int .i64 y, .int .i64 z]) := hid ((reads_chan wx.drew x y z).below (w' := w5) (by simpa using hbel5'')); have HOC : Hid (w5.ownsRow wx.heap.size 34 3 (.slice A5 t.chans.length c5) t.chans.length (t.chans.flatMap chanC)) := hid (own_base hown5 (by simp)); clear hbel5' hbel5'' hb5m; have hfa : ∀ o, (w5.alloc o).frozen? ⟨wr.heap.size, 3, none⟩ = false := (fun o => (HAx.out (w5.alloc o) (hbel5.alloc hbel5.size _)).2.1); have hfb : ∀ o, (w5.alloc o).drew.frozen? ⟨wr.heap.size, 3, none⟩ = false := (fun o => (HAx.out (w5.alloc o) (hbel5.alloc hbel5.size _)).2.1); obtain ⟨q0, q1, q2, q3, q4, q5⟩ := HAx.out w5 hbel5)
              | (refine step_append_src ((wx.drew.alloc (.cells #[] 34)).alloc (.cells #[.int .i64 x, .int .i64 y, .int .i64 z] 34)) (by rfl) _ _ _ (by rfl) wx.heap.size 34 i0 _ 3 24 Try.underlying24 hi0 hz0 hz1 hz2 rfl (by decide) (.slice (some ⟨wx.heap.size, 0, none⟩) 0 0) 0 [] (by rfl) (own_below (own_made0 wx.drew 34) ((Below.refl _ _).alloc (Nat.le_refl _) _)) wx.heap.size A3 t.chans.length k3 _ (by rfl) ((hr1.out.drew.alloc (Nat.le_refl _) _).alloc (by simp) _) (oneCell_chan _) (by simp [maxLen]; omega) (by omega) (by simp; omega) t.chans.length (by omega) ?_; intro A5 c5 w5 hown5 hgrow5 hbel5'; have hb5m : Below wx.drew.heap.size wx.drew w5 := (((Below.refl _ _).alloc (Nat.le_refl _) _).alloc (by simp) _).trans hbel5'; have hbel5 : Below wx.heap.size wx w5 := ⟨hb5m.os, hb5m.tape, hb5m.output, hb5m.size, hb5m.block⟩; have HSB : Hid (Reads w5 (wx.heap.size + 1 + 1) 3 (some ⟨wx.heap.size + 1, 0, none⟩) 1 [.int .i64 x, .int .i64 y, .int .i64 z]) := hid (reads_grown_ne (g := wx.heap.size + 1) (by simpa using reads_chan (wx.drew.alloc (.cells #[] 34)) x y z) hgrow5 (by simp) (by simp [Value.ownBlock])); have HOB : Hid (w5.ownsRow wx.heap.size 34 3 (.slice A5 t.chans.length c5) t.chans.length (t.chans.flatMap chanC)) := hid (by simpa using hown5); clear hbel5' hb5m hgrow5; have hfa : ∀ o, (w5.alloc o).frozen? ⟨wr.heap.size, 3, none⟩ = false := (fun o => (HAx.out (w5.alloc o) (hbel5.alloc hbel5.size _)).2.1); have hfb : ∀ o, (w5.alloc o).drew.frozen? ⟨wr.heap.size, 3, none⟩ = false := (fun o => (HAx.out (w5.alloc o) (hbel5.alloc hbel5.size _)).2.1); obtain ⟨q0, q1, q2, q3, q4, q5⟩ := HAx.out w5 hbel5)
              | (refine step_append_src (w5.alloc (.cells #[.int .i64 x, .int .i64 y, .int .i64 z] 34)) (by rfl) _ _ _ (by rfl) wx.heap.size 34 i0 _ 3 24 Try.underlying24 hi0 hz0 hz1 hz2 rfl (by decide) (.slice A5 t.chans.length c5) t.chans.length _ (by rfl) HOA.out (w5.heap.size + 1) (some ⟨w5.heap.size, 0, none⟩) 1 1 [.int .i64 x, .int .i64 y, .int .i64 z] (by rfl) HSA.out (oneCell_c x y z) (by simp [maxLen]; omega) (by omega) (by have := hbel5.size; simp; omega) CU.length (by omega) ?_; intro A10 c10 w10 hown10 hgrow10 hbel10; have hbx10 : Below wx.heap.size wx w10 := (hbel5.alloc hbel5.size _).trans hbel10; obtain ⟨z0, z1, z2, z3, z4, z5⟩ := HAx.out w10 hbx10)
              | (refine step_append_src w5 (by rfl) _ _ _ (by rfl) wx.heap.size 34 i0 _ 3 24 Try.underlying24 hi0 hz0 hz1 hz2 rfl (by decide) (.slice A5 t.chans.length c5) t.chans.length _ (by rfl) HOC.out (wx.heap.size + 1) (some ⟨wx.heap.size, 0, none⟩) 1 1 [.int .i64 x, .int .i64 y, .int .i64 z] (by rfl) HSC.out (oneCell_c x y z) (by simp [maxLen]; omega) (by omega) hbel5.size CU.length (by omega) ?_; intro A10 c10 w10 hown10 hgrow10 hbel10; have hbx10 : Below wx.heap.size wx w10 := hbel5.trans hbel10; obtain ⟨z0, z1, z2, z3, z4, z5⟩ := HAx.out w10 hbx10)
              | (refine step_append_src w5 (by rfl) _ _ _ (by rfl) wx.heap.size 34 i0 _ 3 24 Try.underlying24 hi0 hz0 hz1 hz2 rfl (by decide) (.slice A5 t.chans.length c5) t.chans.length _ (by rfl) HOB.out (wx.heap.size + 1 + 1) (some ⟨wx.heap.size + 1, 0, none⟩) 1 1 [.int .i64 x, .int .i64 y, .int .i64 z] (by rfl) HSB.out (oneCell_c x y z) (by simp [maxLen]; omega) (by omega) hbel5.size CU.length (by omega) ?_; intro A10 c10 w10 hown10 hgrow10 hbel10; have hbx10 : Below wx.heap.size wx w10 := hbel5.trans hbel10; obtain ⟨z0, z1, z2, z3, z4, z5⟩ := HAx.out w10 hbx10))
          all_goals (
            have hX2 : Blk (w10.setCell ⟨wr.heap.size, 3, none⟩ (.slice A10 CU.length c10)) wr.heap.size 26 (tabC (⟨t.frame, t.parts, t.wins, CU, t.trial⟩ : TabS) (⟨A1, k1, A2, k2, A10, c10⟩ : TabA)) := (hblk5x.belowS hbx10).set_ 3 (.slice A10 CU.length c10)
            have hb11 : Below wr.heap.size wr (w10.setCell ⟨wr.heap.size, 3, none⟩ (.slice A10 CU.length c10)) := (bel_trans hb35 hbx10).setCell (Nat.le_refl _) _
            have hown11 := ownsRow_setCell_below hown10 (a := ⟨wr.heap.size, 3, none⟩) hblk5x.lt (.slice A10 CU.length c10)
            have hrd11 : RdS (w10.setCell ⟨wr.heap.size, 3, none⟩ (.slice A10 CU.length c10)) (w10.setCell ⟨wr.heap.size, 3, none⟩ (.slice A10 CU.length c10)).heap.size 3 A10 CU.length chanC CU := by
              have hr := Reads.of_own hown11
              rw [show t.chans.flatMap chanC ++ [Value.int .i64 x, Value.int .i64 y, Value.int .i64 z] = CU.flatMap chanC by rw [HCU.out]; simp [chanC]] at hr
              exact hr.rds (fun _ => rfl)
            generalize w10.setCell ⟨wr.heap.size, 3, none⟩ (.slice A10 CU.length c10) = w12 at hX2 hb11 hrd11 ⊢
            have hb012 := bel_trans hb0r hb11
            have hb512 := bel_trans hbel hb11
            have hOK2 : TabOk w12 (⟨t.frame, t.parts, t.wins, CU, t.trial⟩ : TabS) (⟨A1, k1, A2, k2, A10, c10⟩ : TabA) := by
              have h0 := HO.out _ hb012
              exact ⟨⟨h0.inn.1, h0.inn.2.1, hrd11⟩, h0.n1, h0.n2, by simp only; omega, h0.f1, h0.f2⟩
            have HOK := hid hOK2
            have iR2 := hid (right_any _ _ _ hOK2)
            have iW2 := hid (fun w' hb => Reach_any _ _ p w' (hOK2.belowS (w' := w') hb))
            simp only at iR2 iW2
            have HM : Hid (rightB (⟨t.frame, t.parts, t.wins, CU, t.trial⟩ : TabS) = true → ∀ v ∈ L, v ∈ reachB (⟨t.frame, t.parts, t.wins, CU, t.trial⟩ : TabS) p) := hid (fun hr v hv => HMO.out _ v hr rfl (fun c hc => by show c ∈ CU; rw [HCU.out]; exact List.mem_append_left _ hc) hv)
            have hM4 := reachB_len (⟨t.frame, t.parts, t.wins, CU, t.trial⟩ : TabS) p
            have HL5 := hid (HO5.out.belowS hb512)
            obtain ⟨x0, x1, x2, x3, x4⟩ := tab_cells hX2
            simp only at x0 x1 x2 x3 x4
            generalize rightB (⟨t.frame, t.parts, t.wins, CU, t.trial⟩ : TabS) = rb at iR2 HM
            generalize reachB (⟨t.frame, t.parts, t.wins, CU, t.trial⟩ : TabS) p = M at iW2 HM hM4
            clear hown10 hgrow10 hbel10 hown11 z0 z1 z2 z3 z4 z5 q0 q1 q2 q3 q4 q5 hfa hfb hf5 hf6 hf7 hf8 d3 dz d5 d6 d7 e3 HAx hne1 hne2 hne3 hne4 hi0 hz0 hz1 hz2 hr1 hinX hbx10 hbel5 hown5 hrd11 hOK2 hblk5x hfbx hblkx hb35
            obtain ⟨wo, rfl⟩ : ∃ wo : World, wo = wr := ⟨_, rfl⟩
            go_wp2_with fail
            refine iR2.out.mono ?_
            rintro e w13 ⟨rfl, hb13⟩
            have hX3 := hX2.belowS hb13
            have hb013 := bel_trans hb012 hb13
            have HL6 := hid (HL5.out.belowS hb13)
            clear x0 x1 x2 x3 x4 hX2 hb012
            obtain ⟨x0, x1, x2, x3, x4⟩ := tab_cells hX3
            simp only at x0 x1 x2 x3 x4
            cases rb with
            | false =>
              go_wp2_with fail
              go_ret
              exact ⟨rfl, hb013⟩
            | true =>
              go_wp2_with fail
              refine (iW2.out _ hb13).mono ?_
              rintro e w14 ⟨AM, cM, rfl, hown14, hb14⟩
              have HQ2 := hid (HM.out (by first | trivial | rfl))
              have HO7 := hid (Reads.of_own hown14)
              have HL7 := hid (HL6.out.belowS hb14)
              have hb014 := bel_trans hb013 hb14
              clear x0 x1 x2 x3 x4 hX3 hb013 hown14 hb14 iR2 iW2
              go_wp2_with fail
              go_loopw [15, 71] (fun _ v71 wr => ∃ j : Nat, j ≤ L.length ∧ v71 = .int .i64 (j : Int) ∧ Below w14.heap.size w14 wr) (fun _ v71 _ => L.length - (intOf v71).toNat)
              case atStart => exact ⟨0, by omega, rfl, Below.refl _ _⟩
              case round =>
                obtain ⟨j, hj, rfl, hbel6⟩ := hrel
                by_cases hjn : j < L.length
                · have HOs := hid (HL7.out.belowS hbel6)
                  obtain ⟨ad2, v, rfl, had2, hv, hc2⟩ := HOs.out.atM hjn
                  simp only [iV] at hc2
                  have HV := HQ2.out v (List.mem_of_getElem? hv)
                  have i8 := hid (fun c => has_in _ _ c M v _ (HO7.out.belowS hbel6) (by omega) HV)
                  have hj0 : (0 : Int) ≤ (j : Int) := Int.natCast_nonneg _
                  have hj1 : (j : Int) < (L.length : Int) := by omega
                  clear hv HV HOs
                  go_wp2_with fail
                  refine (i8.out _).mono ?_
                  rintro e w7 ⟨rfl, hb7⟩
                  have hbw7 := hid (bel_trans hbel6 hb7)
                  clear hb7 hc2
                  go_wp2_with fail
                  go_roundw
                  case rel => exact ⟨j + 1, by omega, by go_num, hbw7.out⟩
                  case measure => simp [intOf]; omega
                · obtain rfl : j = L.length := by omega
                  have hfin := hid (bel_trans hb014 hbel6)
                  go_wp2_with fail
                  go_ret
                  exact ⟨rfl, hfin.out⟩)
section
variable {H : Type} {enc : TypeId × Value → H} {W : World}
theorem list3 {α : Type} (l : List α) (h : l.length = 3) : ∃ a b c, l = [a, b, c] := by
  match l, h with
  | [a, b, c], _ => exact ⟨a, b, c, rfl⟩
theorem open_chan {v : Value} {d : DataW H} {ps : List MemPlace} {r : Reach} {b0 : Nat}
    (hval : Value.okWide Try.prog W r b0 34 v) (h : DataW.Trod enc Try.prog W 0 (fun _ => true) true 34 v d ps) :
    ∃ c : ChanS, v = .agg #[.int .i64 c.src, .int .i64 c.dst, .int .i64 c.depth] ∧ True := by
  obtain ⟨cs, rfl, hsz⟩ := okWide_struct Try.underlying34 hval
  obtain ⟨l⟩ := cs
  obtain ⟨fuel, hf⟩ := h
  obtain ⟨xs, n, _, _, _, hlen, hg⟩ := DataW.trod_struct Try.underlying34 hf
  have hl3 : l.length = 3 := by
    have : Try.prog.cellsOf 34 = 3 := by kernel_rfl
    rw [← this, ← hsz]
    rfl
  have key : ∀ (i : Nat) (hi : i < l.length) (f : Field), _ → ∃ y, DataW.trod enc Try.prog W 0 (fun _ => true) true n f.type [l[i]] = some y := fun i hi f hfi => by
    have h1 := hg i f hfi
    exact ⟨_, field_one (by kernel_rfl) hfi hi (h1.trans (List.getElem?_eq_getElem (by have := (Array.getElem?_eq_some_iff.1 hfi).1; omega)))⟩
  obtain ⟨v0, v1, v2, rfl⟩ : ∃ a b c, l = [a, b, c] := list3 l hl3
  obtain ⟨y0, h0⟩ := key 0 (by simp) _ rfl
  obtain ⟨y1, h1⟩ := key 1 (by simp) _ rfl
  obtain ⟨y2, h2⟩ := key 2 (by simp) _ rfl
  obtain ⟨q0, e0, _, _⟩ := DataW.trod_int Try.underlying3 h0
  obtain ⟨q1, e1, _, _⟩ := DataW.trod_int Try.underlying3 h1
  obtain ⟨q2, e2, _, _⟩ := DataW.trod_int Try.underlying3 h2
  simp at e0 e1 e2
  subst e0 e1 e2
  exact ⟨⟨q0, q1, q2⟩, rfl, trivial⟩
end
theorem reaches_law (w : World) (t : TabS) (a : TabA) (hT : TabCame w t a) (p : Int) (_ : (Lit.int .i64 p).wf = true) (c : ChanS) (_ : True) :
    Calls Try.prog 5 #[.agg #[.int .i64 t.frame, .slice a.A1 t.parts.length a.c1, .slice a.A2 t.wins.length a.c2, .slice a.A3 t.chans.length a.c3, .int .i64 t.trial], .int .i64 p, .agg #[.int .i64 c.src, .int .i64 c.dst, .int .i64 c.depth]] w fun e w' => e = .returned (.bool true) ∧ Below w.heap.size w w' := reaches_any w t a hT p c.src c.dst c.depth
/-! ### TableReaches: from the walk to the given statement -/
namespace lawTableReaches
theorem own : ownKnob Try.prog.godebug = none := by kernel_rfl
theorem laidOut : laidOutB Try.prog = true := by kernel_rfl
set_option maxRecDepth 100000 in
theorem lifted (os : Os) (started : os.Started) (H : Type) (enc : TypeId × Value → H) :
    ReturnsInHanded {} Try.checked os 5 .any (Rows.tableReachesSpec.pre6 enc Try.prog Try.f5 Rows.tableReachesRow.domain false) (Rows.tableReachesSpec.post enc Try.prog Try.f5 false true false false) := by
  refine returnsInHanded_of_change (C := Try.checked) own started (by kernel_rfl) Try.func5
    (ChangeSpec.witness6 (enc := enc) (C := Try.checked) false ⟨#[], #[.agg #[.int .i64 0, .slice none 0 0, .slice none 0 0, .slice none 0 0, .int .i64 0], .int .i64 0, .agg #[.int .i64 0, .int .i64 0, .int .i64 0]], []⟩ 8 (by kernel_rfl) (by kernel_rfl) (by kernel_rfl) (by kernel_rfl)) ?_
  intro W base args ds gs before hval0 hW hcnd _
  have hval : ∀ (j : Nat) t v, Try.f5.params[j]? = some t → args[j]? = some v → Value.okWide Try.prog W .any base t v := hval0
  have hW' := hW
  obtain ⟨p, q, hA0, hV, rfl, hfz, hnd⟩ := hW
  have hA : DataW.TrodAll enc Try.prog W 0 (fun _ => true) true Try.f5.params.toList args.toList ds p := hA0
  rw [Try.params5] at hA hval
  obtain ⟨v0, vs0, d0, ds0, p0, q0, hargs, rfl, rfl, h0, r0⟩ := trodAll_cons hA
  obtain ⟨v1, vs1, d1, ds1, p1, q1, rfl, rfl, rfl, h1, r1⟩ := trodAll_cons r0
  obtain ⟨v2, vs2, d2, ds2, p2, q2, rfl, rfl, rfl, h2, r2⟩ := trodAll_cons r1
  obtain ⟨rfl, rfl, rfl⟩ := trodAll_nil r2
  obtain rfl : args = #[v0, v1, v2] := by cases args; simp_all
  obtain ⟨rfl, rfl⟩ := trodVars_none hV
  have k0 := h0
  have lt0 : ∀ x ∈ p0, x.block < W.heap.size := by obtain ⟨m, hm⟩ := k0; exact DataW.trod_lt m _ _ _ hm
  have k1 := h1
  have lt1 : ∀ x ∈ p1, x.block < W.heap.size := by obtain ⟨m, hm⟩ := k1; exact DataW.trod_lt m _ _ _ hm
  have k2 := h2
  have lt2 : ∀ x ∈ p2, x.block < W.heap.size := by obtain ⟨m, hm⟩ := k2; exact DataW.trod_lt m _ _ _ hm
  obtain ⟨t0, a0, rfl, w0⟩ := open_tab (hval 0 26 v0 rfl rfl) h0
  obtain ⟨a1, rfl, rfl, rfl, w1⟩ := open_int Try.underlying3 (hval 1 3 v1 rfl rfl) h1
  obtain ⟨c2, rfl, w2⟩ := open_chan (hval 2 34 v2 rfl rfl) h2
  clear hA0 hval0
  refine (reaches_law W t0 a0 w0 a1 w1 c2 w2).mono fun e W' ⟨he, bel⟩ => ?_
  subst he
  exact ⟨_, rfl, _, _, _, [], _, [], hW', trodAll_mk1 (shut_bool Try.underlying4 _), (trodAll_cons_mk (Below.trod laidOut (by kernel_rfl) (of_decide_eq_true (by kernel_rfl)) k0 bel lt0) (trodAll_cons_mk (Below.trod laidOut (by kernel_rfl) (of_decide_eq_true (by kernel_rfl)) k1 bel lt1) (trodAll_cons_mk (Below.trod laidOut (by kernel_rfl) (of_decide_eq_true (by kernel_rfl)) k2 bel lt2) trodAll_mk0))), rfl, bel.frame _, fun h => by cases h⟩
theorem over : Rows.tableReachesRow.holds Try.pinned (OpenSpec.ofChange Rows.tableReachesSpec) :=
  OpenClaim.holds_of_wide 5 Try.f5 rfl rfl rfl rfl rfl rfl rfl ⟨rfl, rfl, rfl, rfl, rfl⟩ rfl rfl rfl rfl rfl (by kernel_rfl) Try.func5 (by kernel_rfl)
    (of_decide_eq_true (by kernel_rfl)) (by unfold Func.isWrapper; first | (rw [if_pos (by decide +kernel)]; kernel_rfl) | (rw [if_neg (by decide +kernel)]; exact ⟨rfl, rfl⟩))
    (fun os started H enc _ => lifted os started H enc)
theorem proved : Rows.TableReachesSaid := over
#print axioms proved
end lawTableReaches
end Go.Proofs.Ytbnodcenlggcnaa
