/-
  The reference's Path: is there a way of at most so many channels?
-/
import Derived.Test.YtbnodcenlggcnaaReach
namespace Go.Proofs.Ytbnodcenlggcnaa
open Go.RowKit

set_option maxRecDepth 100000 in
set_option maxHeartbeats 1000000 in
theorem path_zero (t : TabS) (a : TabA) (x dt : Int) (w : World) (h : TabOk w t a) :
    Calls Try.prog 23 #[.agg #[.int .i64 t.frame, .slice a.A1 t.parts.length a.c1, .slice a.A2 t.wins.length a.c2, .slice a.A3 t.chans.length a.c3, .int .i64 t.trial], .int .i64 x, .int .i64 dt, .int .i64 0] w fun e w' => e = .returned (.bool (pathB t.chans dt 0 x)) ∧ Below w.heap.size w w' := by
  obtain ⟨A1, k1, A2, k2, A3, k3⟩ := a
  simp only
  obtain ⟨w1, hw1, hb0, hblk0, hs1⟩ := tab_in t ⟨A1, k1, A2, k2, A3, k3⟩ w
  simp only at hw1
  have hn := h.n3
  clear h
  obtain ⟨c0, c1, c2, c3, c4⟩ := tab_cells hblk0
  simp only at c0 c1 c2 c3 c4
  by_cases hx : x = dt
  · have hr : Hid (pathB t.chans dt 0 x = true) := hid (by simp [pathB, hx])
    have hxb : (x == dt) = true := by simpa using hx
    clear hx
    go_enter Try.func23, Try.ntmps23
    go_wp2_with fail
    go_ret
    exact ⟨by rw [hr.out]; rfl, hb0⟩
  · have hxb : (x == dt) = false := by simpa using hx
    have hr : Hid (pathB t.chans dt 0 x = false) := hid (by simp [pathB, hx])
    clear hx
    go_enter Try.func23, Try.ntmps23
    go_wp2_with fail
    clear hw1 hs1 hxb c0 c1 c2 c3 c4
    go_loopw [9] (fun v9 wr => ∃ k : Nat, k ≤ t.chans.length ∧ v9 = .int .i64 (k : Int) ∧ Below w1.heap.size w1 wr) (fun v9 _ => t.chans.length - (intOf v9).toNat)
    case atStart => exact ⟨0, by omega, rfl, Below.refl _ _⟩
    case round =>
      obtain ⟨k, hk, rfl, hbel⟩ := hrel
      obtain ⟨c0, c1, c2, c3, c4⟩ := tab_cells (hblk0.belowS hbel)
      simp only at c0 c1 c2 c3 c4
      have hb1 := bel_trans hb0 hbel
      by_cases hkn : k < t.chans.length
      · go_wp2_with fail
        go_quiet (fail)
        go_wp2_with fail
        go_roundw
        case rel => exact ⟨k + 1, by omega, by go_num, below_drewN hbel _⟩
        case measure => simp [intOf]; omega
      · go_wp2_with fail
        go_ret
        exact ⟨by rw [hr.out]; rfl, hb1⟩
set_option maxRecDepth 100000 in
set_option maxHeartbeats 2000000 in
theorem path_succ (t : TabS) (a : TabA) (n : Nat) (hn5 : n ≤ 10) (ih : Hid (∀ (x dt : Int) (w : World), TabOk w t a → Calls Try.prog 23 #[.agg #[.int .i64 t.frame, .slice a.A1 t.parts.length a.c1, .slice a.A2 t.wins.length a.c2, .slice a.A3 t.chans.length a.c3, .int .i64 t.trial], .int .i64 x, .int .i64 dt, .int .i64 (n : Int)] w fun e w' => e = .returned (.bool (pathB t.chans dt n x)) ∧ Below w.heap.size w w')) (x dt : Int) (w : World) (h : TabOk w t a) :
    Calls Try.prog 23 #[.agg #[.int .i64 t.frame, .slice a.A1 t.parts.length a.c1, .slice a.A2 t.wins.length a.c2, .slice a.A3 t.chans.length a.c3, .int .i64 t.trial], .int .i64 x, .int .i64 dt, .int .i64 ((n : Int) + 1)] w fun e w' => e = .returned (.bool (pathB t.chans dt (n + 1) x)) ∧ Below w.heap.size w w' := by
  obtain ⟨A1, k1, A2, k2, A3, k3⟩ := a
  simp only at ih ⊢
  obtain ⟨w1, hw1, hb0, hblk0, hs1⟩ := tab_in t ⟨A1, k1, A2, k2, A3, k3⟩ w
  simp only at hw1
  have hn := h.n3
  have HT := hid h
  clear h
  obtain ⟨c0, c1, c2, c3, c4⟩ := tab_cells hblk0
  simp only at c0 c1 c2 c3 c4
  have hq : Hid (pathB t.chans dt (n + 1) x = ((x == dt) || t.chans.any fun c => (c.src == x) && pathB t.chans dt n c.dst)) := hid rfl
  by_cases hx : x = dt
  · have hxb : (x == dt) = true := by simpa using hx
    have hr : Hid (pathB t.chans dt (n + 1) x = true) := hid (by rw [hq.out, hxb]; rfl)
    clear hx
    go_enter Try.func23, Try.ntmps23
    go_wp2_with fail
    go_ret
    exact ⟨by rw [hr.out]; rfl, hb0⟩
  · have hxb : (x == dt) = false := by simpa using hx
    have hr : Hid (pathB t.chans dt (n + 1) x = t.chans.any fun c => (c.src == x) && pathB t.chans dt n c.dst) := hid (by rw [hq.out, hxb, Bool.false_or])
    clear hx hq
    generalize hpf : (fun c : ChanS => (c.src == x) && pathB t.chans dt n c.dst) = pf at hr
    have HP : Hid (∀ c : ChanS, pf c = ((c.src == x) && pathB t.chans dt n c.dst)) := hid (fun c => by rw [← hpf])
    clear hpf
    have hgt : decide ((0 : Int) < (n : Int) + 1) = true := decide_eq_true (by omega)
    have hgt2 : IntKind.i64.wrap (n : Int) = (n : Int) := IntWalk.i64_in _ (by omega)
    have hgt3 : IntKind.i64.wrap ((n : Int) + 1 - 1) = (n : Int) := by rw [IntWalk.i64_in _ (by omega)]; omega
    go_enter Try.func23, Try.ntmps23
    go_wp2_with fail
    clear hw1 hs1 hxb c0 c1 c2 c3 c4
    go_loopw [9] (fun v9 wr => ∃ k : Nat, k ≤ t.chans.length ∧ v9 = .int .i64 (k : Int) ∧ Hid (∀ c ∈ t.chans.take k, pf c = false) ∧ Below w1.heap.size w1 wr) (fun v9 _ => t.chans.length - (intOf v9).toNat)
    case atStart => exact ⟨0, by omega, rfl, by refine hid ?_; simp, Below.refl _ _⟩
    case round =>
      obtain ⟨k, hk, rfl, HK, hbel⟩ := hrel
      have hblkr := hblk0.belowS hbel
      obtain ⟨c0, c1, c2, c3, c4⟩ := tab_cells hblkr
      simp only at c0 c1 c2 c3 c4
      have hb1 := bel_trans hb0 hbel
      by_cases hkn : k < t.chans.length
      · have hTr := HT.out.belowS hb1
        have hinC := hTr.inn.2.2
        simp only at hinC
        obtain ⟨ad, c, rfl, had, hx, hc0, hc⟩ := hinC.at_ hkn
        have q0 := hc0 _ rfl
        have q1 := hc 0 _ rfl
        have hpc := hid (HP.out c)
        have HX := hid hx
        have hk0 : (0 : Int) ≤ (k : Int) := Int.natCast_nonneg _
        have hk1 : (k : Int) < (t.chans.length : Int) := by omega
        clear hc hc0 hx hinC
        obtain ⟨cs, cd, ce⟩ := c
        simp only at q0 q1 hpc
        by_cases hs : cs = x
        · have hsx : (cs == x) = true := by simpa using hs
          have hpc2 : Hid (pf ⟨cs, cd, ce⟩ = pathB t.chans dt n cd) := hid (by rw [hpc.out, hsx, Bool.true_and])
          have j1 := hid (fun w' hb => ih.out cd dt w' (hTr.belowS (w' := w') hb))
          generalize pathB t.chans dt n cd = pv at hpc2 j1
          have HB := hid hblkr
          clear hs hpc hTr
          have hlt := hblkr.lt
          have hadlt : ad.block < wr.heap.size := by omega
          clear hblkr
          go_wp2_with fail
          go_region_held3 (fun w' => w'.cell? ⟨w.heap.size, 0, none⟩ = some (.int .i64 t.frame) ∧ w'.cell? ⟨w.heap.size, 1, none⟩ = some (.slice A1 t.parts.length k1) ∧ w'.cell? ⟨w.heap.size, 2, none⟩ = some (.slice A2 t.wins.length k2) ∧ w'.cell? ⟨w.heap.size, 3, none⟩ = some (.slice (some ad) t.chans.length k3) ∧ w'.cell? ⟨w.heap.size, 4, none⟩ = some (.int .i64 t.trial) ∧ w'.cell? (ad.add (k * 3)) = some (.int .i64 cs) ∧ w'.cell? ⟨(ad.add (k * 3)).block, (ad.add (k * 3)).off + 1, none⟩ = some (.int .i64 cd)) (go_keep)
            ((go_at_call 23; (try simp only [hgt2]); refine (j1.out _ ?_).mono ?_; (first | exact Below.refl _ _ | exact (Below.refl _ _).drew); rintro e w7 ⟨rfl, hb7'⟩; have hb7 : Below wr.heap.size wr w7 := ⟨hb7'.os, hb7'.tape, hb7'.output, hb7'.size, hb7'.block⟩; clear hb7'; have z0 : w7.cell? ⟨w.heap.size, 0, none⟩ = _ := (hb7.cell (p := ⟨w.heap.size, 0, none⟩) hlt).trans c0; have z1 : w7.cell? ⟨w.heap.size, 1, none⟩ = _ := (hb7.cell (p := ⟨w.heap.size, 1, none⟩) hlt).trans c1; have z2 : w7.cell? ⟨w.heap.size, 2, none⟩ = _ := (hb7.cell (p := ⟨w.heap.size, 2, none⟩) hlt).trans c2; have z3 : w7.cell? ⟨w.heap.size, 3, none⟩ = _ := (hb7.cell (p := ⟨w.heap.size, 3, none⟩) hlt).trans c3; have z4 : w7.cell? ⟨w.heap.size, 4, none⟩ = _ := (hb7.cell (p := ⟨w.heap.size, 4, none⟩) hlt).trans c4; have z5 : w7.cell? (ad.add (k * 3)) = _ := (hb7.cell (p := ad.add (k * 3)) (by rw [block_add]; exact hadlt)).trans q0; have z6 : w7.cell? ⟨(ad.add (k * 3)).block, (ad.add (k * 3)).off + 1, none⟩ = _ := (hb7.cell (p := ⟨(ad.add (k * 3)).block, (ad.add (k * 3)).off + 1, none⟩) (by rw [block_add]; exact hadlt)).trans q1))
          have hb17 := hid (bel_trans hb1 hb7)
          have hb27 := hid (bel_trans hbel hb7)
          clear c0 c1 c2 c3 c4 q0 q1 z5 z6
          cases pv with
          | true =>
            have hany : Hid (t.chans.any pf = true) := hid (List.any_eq_true.2 ⟨_, List.mem_of_getElem? HX.out, hpc2.out⟩)
            go_wp2_with fail
            go_ret
            exact ⟨by rw [hr.out, hany.out]; rfl, hb17.out⟩
          | false =>
            have HS := hid (any_take pf t.chans k _ HX.out hpc2.out HK.out)
            go_wp2_with fail
            go_roundw
            case rel => exact ⟨k + 1, by omega, by go_num, HS, hb27.out⟩
            case measure => simp [intOf]; omega
        · have hsx : (cs == x) = false := by simpa using hs
          have HS := hid (any_take pf t.chans k _ HX.out (by rw [hpc.out, hsx, Bool.false_and]) HK.out)
          clear hs hpc hTr
          go_wp2_with fail
          go_quiet (fail)
          go_wp2_with fail
          go_roundw
          case rel => exact ⟨k + 1, by omega, by go_num, HS, below_drewN hbel _⟩
          case measure => simp [intOf]; omega
      · obtain rfl : k = t.chans.length := by omega
        have hany : Hid (t.chans.any pf = false) := by
          refine hid ?_
          rw [List.any_eq_false]
          intro c hc
          rw [HK.out c (by rw [List.take_length]; exact hc)]
          simp
        go_wp2_with fail
        go_ret
        exact ⟨by rw [hr.out, hany.out]; rfl, hb1⟩
theorem refPath_any (t : TabS) (a : TabA) : ∀ (n : Nat), n ≤ 4 → ∀ (x dt : Int) (w : World), TabOk w t a → Calls Try.prog 23 #[.agg #[.int .i64 t.frame, .slice a.A1 t.parts.length a.c1, .slice a.A2 t.wins.length a.c2, .slice a.A3 t.chans.length a.c3, .int .i64 t.trial], .int .i64 x, .int .i64 dt, .int .i64 (n : Int)] w fun e w' => e = .returned (.bool (pathB t.chans dt n x)) ∧ Below w.heap.size w w'
  | 0, _ => fun x dt w h => path_zero t a x dt w h
  | n + 1, hn => fun x dt w h => path_succ t a n (by omega) (hid (refPath_any t a n (by omega))) x dt w h
end Go.Proofs.Ytbnodcenlggcnaa
