/-
  Package table: the window of a position, a partition's share.
-/
import Derived.Test.YtbnodcenlggcnaaTabR
namespace Go.Proofs.Ytbnodcenlggcnaa
open Go.RowKit

theorem window1_any (x : WinS) (pos : Int) (g : Nat) (w : World) (hblk : Blk w g 3 [.int .i64 pos]) (hs : -9223372036854775808 ≤ x.at_ + x.long ∧ x.at_ + x.long ≤ 9223372036854775807) :
    Calls Try.prog 50 #[.agg #[.int .i64 x.part, .int .i64 x.at_, .int .i64 x.long], .pointer (some ⟨g, 0, none⟩)] w fun e w' => e = .returned (.bool (posB pos x)) ∧ Below w.heap.size w w' := by
  obtain ⟨p, f, lg⟩ := x
  simp only at hs ⊢
  have HB : Hid (posB pos ⟨p, f, lg⟩ = (decide (f ≤ pos) && decide (pos < f + lg))) := rfl
  have hb0 : Below w.heap.size w (w.alloc (.cells #[.int .i64 p, .int .i64 f, .int .i64 lg] 30)) := (Below.refl _ _).alloc (Nat.le_refl _) _
  have c0 := (hblk.alloc (.cells #[.int .i64 p, .int .i64 f, .int .i64 lg] 30)).cellAt (i := 0) rfl
  by_cases h1 : f ≤ pos
  · have HB2 : Hid (posB pos ⟨p, f, lg⟩ = decide (pos < f + lg)) := by refine hid ?_; rw [HB.out]; simp [h1]
    go_enter Try.func50, Try.ntmps50
    go_wp2_with fail
    go_ret
    exact ⟨by rw [HB2.out]; rfl, hb0⟩
  · have HB2 : Hid (posB pos ⟨p, f, lg⟩ = false) := by refine hid ?_; rw [HB.out]; simp [h1]
    have hd : decide (f ≤ pos) = false := by simp; omega
    go_enter Try.func50, Try.ntmps50
    go_wp2_with fail
    go_ret
    exact ⟨by rw [HB2.out]; rfl, hb0⟩
theorem indexWin_any (A : Option Addr) (n c : Nat) (l : List WinS) (pos : Int) (g : Nat) (w : World) (h : RdS w w.heap.size 3 A n winC l) (hn : n ≤ 100000) (hblk : Blk w g 3 [.int .i64 pos]) (hall : ∀ x ∈ l, -9223372036854775808 ≤ x.at_ + x.long ∧ x.at_ + x.long ≤ 9223372036854775807) :
    Calls Try.prog 49 #[.slice A n c, .func (Fn.func 50) #[] #[.pointer (some ⟨g, 0, none⟩)]] w fun e w' => e = .returned (.int .i64 (idxB (posB pos) l)) ∧ Below w.heap.size w w' := by
  go_enter Try.func49, Try.ntmps49
  go_wp2_with fail
  go_loopw [4, 5, 8] (fun _ _ v8 wr => ∃ k : Nat, k ≤ n ∧ v8 = .int .i64 (k : Int) ∧ Hid (∀ x ∈ l.take k, (posB pos) x = false) ∧ Below w.heap.size w wr) (fun _ _ v8 _ => n - (intOf v8).toNat)
  case atStart => exact ⟨0, by omega, rfl, by refine hid ?_; simp, Below.refl _ _⟩
  case round =>
    obtain ⟨k, hk, rfl, HK, hbel⟩ := hrel
    by_cases hkn : k < n
    · obtain ⟨ad, x, rfl, had, hx, hc0, hc⟩ := (h.belowS hbel).at_ hkn
      have c0 := hc0 _ rfl
      have c1 := hc 0 _ rfl
      have c2 := hc 1 _ rfl
      have HX := hid hx
      have hbad := hid (window1_any x pos g wr (hblk.belowS hbel) (hall x (List.mem_of_getElem? hx)))
      clear hc hc0 hx
      by_cases hb : (posB pos) x = true
      · have hfi := hid (idxB_at (posB pos) l k x HX.out hb HK.out)
        rw [hb] at hbad
        clear hb
        go_wp2_with fail
        refine hbad.out.mono ?_
        rintro e w2 ⟨rfl, hb2⟩
        go_wp2_with fail
        go_ret
        exact ⟨by rw [hfi.out]; rfl, bel_trans hbel hb2⟩
      · have hb' : (posB pos) x = false := by simpa using hb
        rw [hb'] at hbad
        have HS := hid (any_take (posB pos) l k x HX.out hb' HK.out)
        clear hb hb'
        go_wp2_with fail
        refine hbad.out.mono ?_
        rintro e w2 ⟨rfl, hb2⟩
        go_wp2_with fail
        go_roundw
        case rel => exact ⟨k + 1, by omega, by go_num, HS, bel_trans hbel hb2⟩
        case measure => simp [intOf]; omega
    · obtain rfl : k = n := by omega
      have hfi := hid (idxB_none (posB pos) l (fun x hx => HK.out x (by rw [List.take_of_length_le (by rw [h.len]; exact Nat.le_refl _)]; exact hx)))
      go_wp2_with fail
      go_ret
      exact ⟨by rw [hfi.out]; rfl, hbel⟩

theorem window_any (t : TabS) (a : TabA) (pos : Int) (w : World) (h : TabOk w t a) :
    Calls Try.prog 21 #[.agg #[.int .i64 t.frame, .slice a.A1 t.parts.length a.c1, .slice a.A2 t.wins.length a.c2, .slice a.A3 t.chans.length a.c3, .int .i64 t.trial], .int .i64 pos] w fun e w' => e = .returned (.int .i64 (windowB t pos)) ∧ Below w.heap.size w w' := by
  have hb0 : Below w.heap.size w ((w.alloc (.cells (tabC t a).toArray 26)).alloc (.cells #[.int .i64 pos] 3)) := ((Below.refl _ _).alloc (Nat.le_refl _) _).alloc (by simp) _
  have hblk0 : Blk ((w.alloc (.cells (tabC t a).toArray 26)).alloc (.cells #[.int .i64 pos] 3)) w.heap.size 26 (tabC t a) := (Blk.new w _ _).alloc _
  have hpos0 : Blk ((w.alloc (.cells (tabC t a).toArray 26)).alloc (.cells #[.int .i64 pos] 3)) (w.heap.size + 1) 3 [.int .i64 pos] := by
    have := Blk.new (w.alloc (.cells (tabC t a).toArray 26)) 3 [.int .i64 pos]
    simpa using this
  have h1 := h.belowS hb0
  obtain ⟨c0, c1, c2, c3, c4⟩ := tab_cells hblk0
  have iR := hid (right_any t a _ h1)
  by_cases hr : rightB t = true
  · have hw : Hid (windowB t pos = idxB (posB pos) t.wins) := by refine hid ?_; unfold windowB; rw [if_pos hr]
    have hR := (rightB_iff t).1 hr
    have hall : ∀ x ∈ t.wins, -9223372036854775808 ≤ x.at_ + x.long ∧ x.at_ + x.long ≤ 9223372036854775807 := by
      intro x hx
      obtain ⟨_, _, h3, h4, h5⟩ := hR.win x hx
      have := hR.f2
      omega
    have HALL := hid hall
    rw [hr] at iR
    clear hr hall
    go_enter Try.func21, Try.ntmps21
    go_wp2_with fail
    refine iR.out.mono ?_
    rintro e w1 ⟨rfl, hb1⟩
    have hblk1 := hblk0.belowS hb1
    have hpos1 := hpos0.belowS hb1
    have h2 := h1.belowS hb1
    clear c0 c1 c2 c3 c4
    obtain ⟨c0, c1, c2, c3, c4⟩ := tab_cells hblk1
    go_wp2_with fail
    refine (indexWin_any a.A2 t.wins.length a.c2 t.wins pos _ w1 h2.inn.2.1 h2.n2 hpos1 HALL.out).mono ?_
    rintro e w2 ⟨rfl, hb2⟩
    go_wp2_with fail
    go_ret
    exact ⟨by rw [hw.out]; rfl, bel_trans (bel_trans hb0 hb1) hb2⟩
  · have hw : Hid (windowB t pos = -1) := by refine hid ?_; unfold windowB; rw [if_neg hr]
    have hr' : rightB t = false := by simpa using hr
    rw [hr'] at iR
    clear hr hr'
    go_enter Try.func21, Try.ntmps21
    go_wp2_with fail
    refine iR.out.mono ?_
    rintro e w1 ⟨rfl, hb1⟩
    go_wp2_with fail
    go_ret
    exact ⟨by rw [hw.out]; rfl, bel_trans hb0 hb1⟩

set_option maxHeartbeats 1000000 in
theorem share_any (t : TabS) (a : TabA) (p : Int) (w : World) (h : TabOk w t a) :
    Calls Try.prog 18 #[.agg #[.int .i64 t.frame, .slice a.A1 t.parts.length a.c1, .slice a.A2 t.wins.length a.c2, .slice a.A3 t.chans.length a.c3, .int .i64 t.trial], .int .i64 p] w fun e w' => e = .returned (.int .i64 (shareB t p)) ∧ Below w.heap.size w w' := by
  obtain ⟨A1, k1, A2, k2, A3, k3⟩ := a
  simp only
  have hb0 : Below w.heap.size w (w.alloc (.cells (tabC t ⟨A1, k1, A2, k2, A3, k3⟩).toArray 26)) := (Below.refl _ _).alloc (Nat.le_refl _) _
  have hblk0 : Blk (w.alloc (.cells (tabC t ⟨A1, k1, A2, k2, A3, k3⟩).toArray 26)) w.heap.size 26 (tabC t ⟨A1, k1, A2, k2, A3, k3⟩) := Blk.new w _ _
  have h1 := h.belowS hb0
  obtain ⟨c0, c1, c2, c3, c4⟩ := tab_cells hblk0
  have iR := hid (right_any t ⟨A1, k1, A2, k2, A3, k3⟩ _ h1)
  by_cases hr : rightB t = true
  · have hw : Hid (shareB t p = shareL p t.wins) := by refine hid ?_; unfold shareB; rw [if_pos hr]
    have hR := (rightB_iff t).1 hr
    have hall : ∀ x ∈ t.wins, 1 ≤ x.long ∧ x.long ≤ 64 := by
      intro x hx
      obtain ⟨_, _, h3, h4, h5⟩ := hR.win x hx
      have := hR.f2
      omega
    have HALL := hid hall
    have hw8 := hR.w8
    rw [hr] at iR
    clear hr hall
    go_enter Try.func18, Try.ntmps18
    go_wp2_with fail
    refine iR.out.mono ?_
    rintro e w1 ⟨rfl, hb1⟩
    have hblk1 := hblk0.belowS hb1
    have h2 := h1.belowS hb1
    have hb01 := bel_trans hb0 hb1
    have hwin := h2.inn.2.1
    simp only at hwin
    clear c0 c1 c2 c3 c4 hblk0 h h1 h2 iR
    obtain ⟨c0, c1, c2, c3, c4⟩ := tab_cells hblk1
    go_wp2_with fail
    clear c0 c1 c2 c3 c4 hblk1
    go_loopw [5, 14] (fun v5 v14 wr => ∃ (k : Nat) (s : Int), k ≤ t.wins.length ∧ v14 = .int .i64 (k : Int) ∧ v5 = .int .i64 s ∧ 0 ≤ s ∧ s ≤ 64 * k ∧ Hid (s = shareL p (t.wins.take k)) ∧ Below w1.heap.size w1 wr) (fun _ v14 _ => t.wins.length - (intOf v14).toNat)
    case atStart => exact ⟨0, 0, by omega, rfl, rfl, by omega, by omega, by refine hid ?_; simp [shareL], Below.refl _ _⟩
    case round =>
      obtain ⟨k, s, hk, rfl, rfl, hs1, hs2, HS, hbel⟩ := hrel
      by_cases hkn : k < t.wins.length
      · obtain ⟨ad, x, rfl, had, hx, hc0, hc⟩ := (hwin.belowS hbel).at_ hkn
        have q0 := hc0 _ rfl
        have q1 := hc 0 _ rfl
        have q2 := hc 1 _ rfl
        have hlx := HALL.out x (List.mem_of_getElem? hx)
        have HS2 : Hid (shareL p (t.wins.take (k + 1)) = s + if x.part = p then x.long else 0) := by
          refine hid ?_
          rw [List.take_add_one, hx, HS.out]
          exact shareL_snoc _ _ _
        have hbe := bel_alloc hbel (.cells #[.int .i64 x.part, .int .i64 x.at_, .int .i64 x.long] 30)
        obtain ⟨xp, xf, xl⟩ := x
        simp only at q0 q1 q2 hlx HS2 hbe
        clear hc hc0 hx hwin
        by_cases hp : xp = p
        · have HS3 : Hid (shareL p (t.wins.take (k + 1)) = s + xl) := by refine hid ?_; rw [HS2.out, if_pos hp]
          have hpb : (xp == p) = true := by simp [hp]
          clear hp
          go_wp2_with fail
          go_roundw
          case rel => exact ⟨k + 1, s + xl, by omega, by go_num, rfl, by omega, by omega, hid HS3.out.symm, hbe⟩
          case measure => simp [intOf]; omega
        · have HS3 : Hid (shareL p (t.wins.take (k + 1)) = s) := by refine hid ?_; rw [HS2.out, if_neg hp]; simp
          have hpb : (xp == p) = false := by simp [hp]
          clear hp
          go_wp2_with fail
          go_roundw
          case rel => exact ⟨k + 1, s, by omega, by go_num, rfl, by omega, by omega, hid HS3.out.symm, hbe⟩
          case measure => simp [intOf]; omega
      · obtain rfl : k = t.wins.length := by omega
        have HE : Hid (s = shareB t p) := by refine hid ?_; rw [hw.out, HS.out, List.take_length]
        go_wp2_with fail
        go_ret
        exact ⟨by rw [← HE.out]; rfl, bel_trans hb01 hbel⟩
  · have hw : Hid (shareB t p = 0) := by refine hid ?_; unfold shareB; rw [if_neg hr]
    have hr' : rightB t = false := by simpa using hr
    rw [hr'] at iR
    clear hr hr'
    go_enter Try.func18, Try.ntmps18
    go_wp2_with fail
    refine iR.out.mono ?_
    rintro e w1 ⟨rfl, hb1⟩
    go_wp2_with fail
    go_ret
    exact ⟨by rw [hw.out]; rfl, bel_trans hb0 hb1⟩
end Go.Proofs.Ytbnodcenlggcnaa
