/-
  The references of tables and of the schedule: the window of a position, who runs, what starts.
-/
import Derived.Test.YtbnodcenlggcnaaTabEx
import Derived.Test.YtbnodcenlggcnaaSchedPlain
import Derived.Test.YtbnodcenlggcnaaReachPlain
namespace Go.Proofs.Ytbnodcenlggcnaa
open Go.RowKit

/-- A table that came by value, in a box of the call's own: the world behind it under a name. -/
theorem tab_in (t : TabS) (a : TabA) (w : World) : ∃ w1 : World, w.alloc (.cells #[.int .i64 t.frame, .slice a.A1 t.parts.length a.c1, .slice a.A2 t.wins.length a.c2, .slice a.A3 t.chans.length a.c3, .int .i64 t.trial] 26) = w1 ∧
    Below w.heap.size w w1 ∧ Blk w1 w.heap.size 26 (tabC t a) ∧ w1.heap.size = w.heap.size + 1 :=
  ⟨_, rfl, (Below.refl _ _).alloc (Nat.le_refl _) _, Blk.new w _ (tabC t a), by simp⟩
theorem posB_iff (pos : Int) (x : WinS) : posB pos x = true ↔ x.at_ ≤ pos ∧ pos < x.at_ + x.long := by simp [posB]
set_option maxHeartbeats 2000000 in
theorem refWindow_any (t : TabS) (a : TabA) (pos : Int) (w : World) (h : TabOk w t a) (hR : RightT t) :
    Calls Try.prog 24 #[.agg #[.int .i64 t.frame, .slice a.A1 t.parts.length a.c1, .slice a.A2 t.wins.length a.c2, .slice a.A3 t.chans.length a.c3, .int .i64 t.trial], .int .i64 pos] w fun e w' => e = .returned (.int .i64 (idxB (posB pos) t.wins)) ∧ Below w.heap.size w w' := by
  obtain ⟨A1, k1, A2, k2, A3, k3⟩ := a
  simp only
  obtain ⟨w1, hw1, hb0, hblk0, hs1⟩ := tab_in t ⟨A1, k1, A2, k2, A3, k3⟩ w
  simp only at hw1
  have hin := (h.belowS hb0).inn.2.1
  have hn := h.n2
  have HW : Hid (∀ x ∈ t.wins, 0 ≤ x.at_ ∧ 1 ≤ x.long ∧ x.at_ + x.long ≤ 64) := hid (fun x hx => by have := hR.win x hx; have := hR.f2; unfold WinT at *; omega)
  simp only at hin
  clear h hR
  obtain ⟨c0, c1, c2, c3, c4⟩ := tab_cells hblk0
  simp only at c0 c1 c2 c3 c4
  go_enter Try.func24, Try.ntmps24
  go_wp2_with fail
  have Hb0 := hid hb0
  clear hb0 hblk0 hw1 hs1
  have hinW : RdS w1 w1.heap.size 3 A2 t.wins.length winC t.wins := hin
  clear hin
  go_loop [5, 6] (fun v5 _ => ∃ (k : Nat), k ≤ t.wins.length ∧ v5 = .int .i64 (k : Int) ∧ Hid (∀ x ∈ t.wins.take k, posB pos x = false)) (fun v5 _ => t.wins.length - (intOf v5).toNat)
  case atStart => exact ⟨0, by omega, rfl, by refine hid ?_; simp⟩
  case round =>
    obtain ⟨k, hk, rfl, HK⟩ := hrel
    by_cases hkn : k < t.wins.length
    · obtain ⟨ad, x, rfl, had, hx, hc0, hc⟩ := hinW.at_ hkn
      have q1 := hc 0 _ rfl
      have q2 := hc 1 _ rfl
      obtain ⟨b1, b2, b3⟩ := HW.out x (List.mem_of_getElem? hx)
      have HX := hid hx
      clear hc hc0 hx hinW
      obtain ⟨xp, xa, xl⟩ := x
      simp only at q1 q2 b1 b2 b3
      by_cases hb : posB pos ⟨xp, xa, xl⟩ = true
      · have hfi := hid (idxB_at (posB pos) t.wins k _ HX.out hb HK.out)
        obtain ⟨p1, p2⟩ := (posB_iff _ _).1 hb
        simp only at p1 p2
        obtain ⟨d, rfl⟩ : ∃ d : Nat, pos = xa + d := ⟨(pos - xa).toNat, by omega⟩
        clear hb
        go_wp2_with fail
        go_loop [6] (fun v6 => ∃ j : Nat, j ≤ d ∧ v6 = .int .i64 (j : Int)) (fun v6 => d + 1 - (intOf v6).toNat)
        case atStart => exact ⟨0, by omega, rfl⟩
        case round =>
          obtain ⟨j, hj, rfl⟩ := hrel
          have hj1 : decide ((j : Int) < xl) = true := decide_eq_true (by omega)
          by_cases hjd : j = d
          · have he : ((xa + (j : Int)) == (xa + (d : Int))) = true := by rw [beq_iff_eq]; omega
            have hfi2 := hfi
            go_wp2_with fail
            go_ret
            exact ⟨by rw [hfi2.out]; rfl, Hb0.out⟩
          · have he : ((xa + (j : Int)) == (xa + (d : Int))) = false := by rw [beq_eq_false_iff_ne]; omega
            go_wp2_with fail
            go_round
            case rel => exact ⟨j + 1, by omega, by go_num⟩
            case measure => simp [intOf]; omega
      · have hb' : posB pos ⟨xp, xa, xl⟩ = false := by simpa using hb
        have HS := hid (any_take (posB pos) t.wins k _ HX.out hb' HK.out)
        have hno : Hid (∀ j : Nat, (j : Int) < xl → xa + (j : Int) ≠ pos) := hid (fun j hj e => hb ((posB_iff _ _).2 ⟨by simp only; omega, by simp only; omega⟩))
        clear hb hb'
        go_wp2_with fail
        go_loop [6] (fun v6 => ∃ j : Nat, (j : Int) ≤ xl ∧ v6 = .int .i64 (j : Int)) (fun v6 => xl.toNat - (intOf v6).toNat)
        case atStart => exact ⟨0, by omega, rfl⟩
        case round =>
          obtain ⟨j, hj, rfl⟩ := hrel
          by_cases hjx : (j : Int) < xl
          · have he : ((xa + (j : Int)) == pos) = false := by rw [beq_eq_false_iff_ne]; exact hno.out j hjx
            go_wp2_with fail
            go_round
            case rel => exact ⟨j + 1, by omega, by go_num⟩
            case measure => simp [intOf]; omega
          · go_wp2_with fail
            go_round
            case rel => exact ⟨k + 1, by omega, by go_num, HS⟩
            case measure => simp [intOf]; omega
    · obtain rfl : k = t.wins.length := by omega
      have hfi := hid (idxB_none (posB pos) t.wins (fun x hx => HK.out x (by rw [List.take_length]; exact hx)))
      go_wp2_with fail
      go_ret
      exact ⟨by rw [hfi.out]; rfl, Hb0.out⟩
set_option maxHeartbeats 2000000 in
theorem refPart_any (t : TabS) (a : TabA) (pos : Int) (w : World) (h : TabOk w t a) (hR : RightT t) :
    Calls Try.prog 30 #[.agg #[.int .i64 t.frame, .slice a.A1 t.parts.length a.c1, .slice a.A2 t.wins.length a.c2, .slice a.A3 t.chans.length a.c3, .int .i64 t.trial], .int .i64 pos] w fun e w' => e = .returned (.int .i64 (partL t.wins pos)) ∧ Below w.heap.size w w' := by
  obtain ⟨A1, k1, A2, k2, A3, k3⟩ := a
  simp only
  obtain ⟨w1, hw1, hb0, hblk0, hs1⟩ := tab_in t ⟨A1, k1, A2, k2, A3, k3⟩ w
  simp only at hw1
  have hT := h.belowS hb0
  have i1 := hid (refWindow_any t ⟨A1, k1, A2, k2, A3, k3⟩ pos _ hT hR)
  simp only at i1
  have hP0 := hid (part_none t.wins pos)
  have hP1 := hid (part_idx t.wins pos)
  have hn := h.n2
  generalize hI : idxB (posB pos) t.wins = I at i1 hP0 hP1
  clear hI h hR
  go_enter Try.func30, Try.ntmps30
  obtain ⟨c0, c1, c2, c3, c4⟩ := tab_cells hblk0
  simp only at c0 c1 c2 c3 c4
  go_wp2_with fail
  clear hw1 hs1
  refine i1.out.mono ?_
  rintro e w2 ⟨rfl, hb1⟩
  clear c0 c1 c2 c3 c4
  obtain ⟨c0, c1, c2, c3, c4⟩ := tab_cells (hblk0.belowS hb1)
  simp only at c0 c1 c2 c3 c4
  by_cases hI : I < 0
  · have hf := hid (hP0.out hI)
    have hr : Hid (partL t.wins pos = -1) := hid (by unfold partL; rw [hf.out])
    have hI2 := decide_eq_true hI
    clear hI hblk0 hT
    go_wp2_with fail
    go_ret
    exact ⟨by rw [hr.out]; rfl, bel_trans hb0 hb1⟩
  · obtain ⟨k, rfl⟩ : ∃ k : Nat, I = k := ⟨I.toNat, by omega⟩
    obtain ⟨x, hx, hf⟩ := hP1.out k rfl
    have hr : Hid (partL t.wins pos = x.part) := hid (by unfold partL; rw [hf])
    have hinW := (hT.belowS hb1).inn.2.1
    simp only at hinW
    have hkn := (List.getElem?_eq_some_iff.1 hx).1
    obtain ⟨ad, x', rfl, had, hx', hc0, hc⟩ := hinW.at_ hkn
    rw [hx] at hx'
    injection hx' with hx'
    subst hx'
    have q0 := hc0 _ rfl
    have hI2 : decide ((k : Int) < 0) = false := decide_eq_false (by omega)
    clear hc hc0 hx hf hinW hI hblk0 hT
    have hbb := hid (bel_trans hb0 hb1)
    go_wp2_with fail
    go_ret
    exact ⟨by rw [hr.out]; rfl, hbb.out⟩
set_option maxHeartbeats 2000000 in
theorem refStarts_any (t : TabS) (a : TabA) (pos : Int) (w : World) (h : TabOk w t a) :
    Calls Try.prog 31 #[.agg #[.int .i64 t.frame, .slice a.A1 t.parts.length a.c1, .slice a.A2 t.wins.length a.c2, .slice a.A3 t.chans.length a.c3, .int .i64 t.trial], .int .i64 pos] w fun e w' => e = .returned (.bool (t.wins.any fun x => x.at_ == pos)) ∧ Below w.heap.size w w' := by
  obtain ⟨A1, k1, A2, k2, A3, k3⟩ := a
  simp only
  obtain ⟨w1, hw1, hb0, hblk0, hs1⟩ := tab_in t ⟨A1, k1, A2, k2, A3, k3⟩ w
  simp only at hw1
  have hinW := (h.belowS hb0).inn.2.1
  simp only at hinW
  have hn := h.n2
  clear h
  obtain ⟨c0, c1, c2, c3, c4⟩ := tab_cells hblk0
  simp only at c0 c1 c2 c3 c4
  generalize hp : (fun x : WinS => x.at_ == pos) = p
  have Hp : Hid (∀ x : WinS, p x = (x.at_ == pos)) := hid (fun x => by rw [← hp])
  clear hp
  go_enter Try.func31, Try.ntmps31
  go_wp2_with fail
  have Hb0 := hid hb0
  have hin2 := hinW
  clear hb0 hblk0 hinW hw1 hs1
  go_loop [5] (fun v5 => ∃ (k : Nat), k ≤ t.wins.length ∧ v5 = .int .i64 (k : Int) ∧ Hid (∀ x ∈ t.wins.take k, p x = false)) (fun v5 => t.wins.length - (intOf v5).toNat)
  case atStart => exact ⟨0, by omega, rfl, by refine hid ?_; simp⟩
  case round =>
    obtain ⟨k, hk, rfl, HK⟩ := hrel
    by_cases hkn : k < t.wins.length
    · obtain ⟨ad, x, rfl, had, hx, hc0, hc⟩ := hin2.at_ hkn
      have q1 := hc 0 _ rfl
      have HX := hid hx
      have hpx := Hp.out x
      clear hc hc0 hx hin2
      cases hb : p x with
      | true =>
        have hr : Hid (t.wins.any p = true) := hid (List.any_eq_true.2 ⟨x, List.mem_of_getElem? HX.out, hb⟩)
        rw [hb] at hpx
        have hpx2 := hpx.symm
        clear hpx hb
        go_wp2_with fail
        go_ret
        exact ⟨by rw [hr.out]; rfl, Hb0.out⟩
      | false =>
        have HS := hid (any_take p t.wins k _ HX.out hb HK.out)
        rw [hb] at hpx
        have hpx2 := hpx.symm
        clear hpx hb
        go_wp2_with fail
        go_round
        case rel => exact ⟨k + 1, by omega, by go_num, HS⟩
        case measure => simp [intOf]; omega
    · obtain rfl : k = t.wins.length := by omega
      have hr : Hid (t.wins.any p = false) := by
        refine hid ?_
        rw [List.any_eq_false]
        intro x hx
        rw [HK.out x (by rw [List.take_length]; exact hx)]
        simp
      go_wp2_with fail
      go_ret
      exact ⟨by rw [hr.out]; rfl, Hb0.out⟩
set_option maxHeartbeats 2000000 in
theorem refPos_any (t : TabS) (a : TabA) (F T : Nat) (hF : t.frame = (F : Int)) (h1 : 1 ≤ F) (h2 : F ≤ 64) (hT : T ≤ 9223372036854775807) (w : World) :
    Calls Try.prog 29 #[.agg #[.int .i64 t.frame, .slice a.A1 t.parts.length a.c1, .slice a.A2 t.wins.length a.c2, .slice a.A3 t.chans.length a.c3, .int .i64 t.trial], .int .i64 (T : Int)] w fun e w' => e = .returned (.int .i64 ((T % F : Nat) : Int)) ∧ Below w.heap.size w w' := by
  obtain ⟨A1, k1, A2, k2, A3, k3⟩ := a
  obtain ⟨frame, parts, wins, chans, trial⟩ := t
  simp only at hF ⊢
  subst hF
  obtain ⟨w1, hw1, hb0, hblk0, hs1⟩ := tab_in ⟨(F : Int), parts, wins, chans, trial⟩ ⟨A1, k1, A2, k2, A3, k3⟩ w
  simp only at hw1
  obtain ⟨c0, _, _, _, _⟩ := tab_cells hblk0
  simp only at c0
  generalize parts.length = n1 at *
  generalize wins.length = n2 at *
  generalize chans.length = n3 at *
  have hdm := Nat.div_add_mod T F
  have hml := Nat.mod_lt T (show 0 < F by omega)
  have e1 : Int.tdiv (T : Int) (F : Int) = ((T / F : Nat) : Int) := by rw [Int.tdiv_eq_ediv_of_nonneg (by omega)]; rfl
  have e1' : (T : Int) / (F : Int) = ((T / F : Nat) : Int) := rfl
  obtain ⟨DF, hDF⟩ : ∃ DF : Nat, (T / F) * F = DF := ⟨_, rfl⟩
  have hDF2 : F * (T / F) = DF := by rw [Nat.mul_comm]; exact hDF
  have hle : DF ≤ T := by omega
  have hD : T / F ≤ T := Nat.div_le_self _ _
  have hm : T % F = T - DF := by omega
  rw [hm]
  generalize T / F = D at *
  have e2 : (D : Int) * (F : Int) = (DF : Int) := by rw [← hDF]; simp
  have e3 : IntKind.i64.wrap ((D : Int) * (F : Int)) = (DF : Int) := by rw [e2]; exact IntWalk.i64_in _ (by omega)
  have e4 : IntKind.i64.wrap ((T : Int) - (DF : Int)) = ((T - DF : Nat) : Int) := by rw [IntWalk.i64_in _ (by omega)]; omega
  have hne : ((F : Int) == 0) = false := beq_eq_false_iff_ne.2 (by omega)
  have hlt0 : (0 : Int) < (F : Int) := by omega
  have hT0 : (0 : Int) ≤ (T : Int) := Int.natCast_nonneg _
  clear hdm hml hDF hDF2 hm hblk0
  go_enter Try.func29, Try.ntmps29
  go_wp2_with fail
  clear hw1 hs1
  go_quiet (fail)
  go_wp2_with fail
  go_ret
  exact ⟨ret_int (by omega), below_drewN hb0 _⟩
end Go.Proofs.Ytbnodcenlggcnaa
