/-
  Law 16: channels tell, and have, what the document says (PortActs).
-/
import Derived.Test.YthipfopmaegpdaaPortTwo
import Derived.Test.YthipfopmaegpdaaOpenAct
import Derived.Test.YthipfopmaegpdaaSameInts
namespace Go.Proofs.Ythipfopmaegpdaa
open Go.RowKit Go.ChangeShapes Go.WideShapes Go.ChangeAt

theorem hasL_small {s : WayS} (h : WaySmall s) : (hasL s).length ≤ 100000 := by
  cases s with
  | last m is => show (lastL m is).length ≤ 100000; unfold lastL; split <;> simp
  | row l D => exact h
theorem bel_drew {B : Nat} {w w' : World} (h : Below B w w') : Below B w w'.drew := ⟨h.os, h.tape, h.output, h.size, h.block⟩
theorem SetAt.drewN {w : World} {F : Nat → Prop} {g : Nat} {cs : List ChanS} {ss : Nat → WayS} (h : SetAt w F g cs ss) (n : Nat) : SetAt (w.drewN n) F g cs ss := h.keep (Nat.le_refl _) fun _ _ => rfl
set_option maxRecDepth 100000 in
set_option maxHeartbeats 4000000 in
theorem portActs_any (w : World) (t : TabS) (a : TabA) (hT : TabCame w t a) (A : Option Addr) (n c : Nat) (ls : List ActS) (hrd : RdS w w.heap.size 4 A n actC ls) (hnc : n ≤ c) (hcm : c ≤ maxLen) (_ : ∀ q ∈ ls, (Lit.int .i64 q.kind).wf = true ∧ (Lit.int .i64 q.part).wf = true ∧ (Lit.int .i64 q.chan).wf = true ∧ (Lit.int .i64 q.num).wf = true) :
    Calls Try.prog 8 #[.agg #[.int .i64 t.frame, .slice a.A1 t.parts.length a.c1, .slice a.A2 t.wins.length a.c2, .slice a.A3 t.chans.length a.c3, .int .i64 t.trial], .slice A n c] w fun e w' => e = .returned (.bool true) ∧ Below w.heap.size w w' := by
  obtain ⟨A1, k1, A2, k2, A3, k3⟩ := a
  simp only
  have hb0 : Below w.heap.size w (w.alloc (.cells (tabC t ⟨A1, k1, A2, k2, A3, k3⟩).toArray 36)) := (Below.refl _ _).alloc (Nat.le_refl _) _
  have hblk0 : Blk (w.alloc (.cells (tabC t ⟨A1, k1, A2, k2, A3, k3⟩).toArray 36)) w.heap.size 36 (tabC t ⟨A1, k1, A2, k2, A3, k3⟩) := Blk.new w _ _
  have iL := hid (fun w' => longP_any t ⟨A1, k1, A2, k2, A3, k3⟩ w' hT.l1 hT.l2 hT.l3)
  have HC := hid hT
  clear hT
  simp only at iL
  unfold maxLen at hcm
  have hrd0 := hid hrd
  clear hrd
  go_enter Try.func8, Try.ntmps8
  go_wp2_with fail
  refine (wakesP_any _).mono ?_
  rintro e w1 ⟨rfl, hb1⟩
  have hb01 := bel_trans hb0 hb1
  have hblk1 := hblk0.belowS hb1
  clear hblk0 hb0 hb1
  obtain ⟨c0, c1, c2, c3, c4⟩ := tab_cells hblk1
  simp only at c0 c1 c2 c3 c4
  go_wp2_with fail
  refine (iL.out _).mono ?_
  rintro e w2 ⟨he, hb2⟩
  have hb02 := bel_trans hb01 hb2
  have hblk2 := hblk1.belowS hb2
  clear c0 c1 c2 c3 c4 hblk1 hb01 hb2 iL
  obtain ⟨c0, c1, c2, c3, c4⟩ := tab_cells hblk2
  simp only at c0 c1 c2 c3 c4
  by_cases hl : longB t = true
  · rw [hl] at he
    subst he
    clear hl hblk2
    go_wp2_with fail
    go_ret
    exact ⟨rfl, hb02⟩
  have hl' : longB t = false := by simpa using hl
  rw [hl'] at he
  subst he
  have HO : Hid (∀ w', Below w.heap.size w w' → TabOk w' t ⟨A1, k1, A2, k2, A3, k3⟩) := hid (fun w' hb => HC.out.ok hl' hb)
  clear hl hl'
  by_cases hn : 100 < n
  · have y0 : decide ((100 : Int) < (n : Int)) = true := decide_eq_true (by omega)
    clear hblk2
    go_wp2_with fail
    go_ret
    exact ⟨rfl, hb02⟩
  have y0 : decide ((100 : Int) < (n : Int)) = false := decide_eq_false (by omega)
  have hn60 : n ≤ 100 := by omega
  clear hn
  by_cases hr : rightB t = true
  case neg =>
    have hr' : rightB t = false := by simpa using hr
    have i1 := hid (New_bad t ⟨A1, k1, A2, k2, A3, k3⟩ w2 (HO.out _ hb02) hr')
    simp only at i1
    go_wp2_with fail
    refine i1.out.mono ?_
    rintro e w3 ⟨rfl, hb3⟩
    have hb03 := bel_trans hb02 hb3
    have hblk3 := hblk2.belowS hb3
    clear c0 c1 c2 c3 c4 hblk2 hb3 i1
    obtain ⟨c0, c1, c2, c3, c4⟩ := tab_cells hblk3
    simp only at c0 c1 c2 c3 c4
    have i2 := hid (refRight_any t ⟨A1, k1, A2, k2, A3, k3⟩ w3 (HO.out _ hb03))
    simp only at i2
    rw [hr'] at i2
    clear hr hr'
    go_wp2_with fail
    refine i2.out.mono ?_
    rintro e w4 ⟨rfl, hb4⟩
    go_wp2_with fail
    go_ret
    exact ⟨rfl, bel_trans hb03 hb4⟩
  have hR := hid ((rightB_iff t).1 hr)
  have i2 := hid (New_ok t ⟨A1, k1, A2, k2, A3, k3⟩ w2 (HO.out _ hb02) hr)
  simp only at i2
  have hc4 := hR.out.c4
  go_wp2_with fail
  refine i2.out.mono ?_
  rintro e w3 ⟨FS, g, rfl, hS3, hb3, hF3⟩
  have hb03 := bel_trans hb02 hb3
  have hblk3 := hblk2.belowS hb3
  have hlt0 := hblk2.lt
  have hb02h := hid hb02
  have hblk2h := hid hblk2
  have hb3h := hid hb3
  clear c0 c1 c2 c3 c4 hblk2 hb3 hb02 i2
  obtain ⟨c0, c1, c2, c3, c4⟩ := tab_cells hblk3
  simp only at c0 c1 c2 c3 c4
  have i3 := hid (refRight_any t ⟨A1, k1, A2, k2, A3, k3⟩ w3 (HO.out _ hb03))
  simp only at i3
  rw [hr] at i3
  have HS3 := hid hS3
  have HF3 := hid hF3
  clear hr hS3 hF3
  go_wp2_with fail
  refine i3.out.mono ?_
  rintro e w4 ⟨rfl, hb4⟩
  have hb04 := bel_trans hb03 hb4
  have hblk4 := hblk3.belowS hb4
  have HS4 := hid (HS3.out.belowS hb4)
  have hb24 := hid (bel_trans hb3h.out hb4)
  clear c0 c1 c2 c3 c4 hblk3 hb4 hb03 i3 HS3
  obtain ⟨c0, c1, c2, c3, c4⟩ := tab_cells hblk4
  simp only at c0 c1 c2 c3 c4
  have iLn := hid (fun m => len_at (HS4.out.drewN m))
  go_wp2_with fail
  go_quiet (first | (go_at_call 26; exact Calls.quiet_of_same (iLn.out _)))
  obtain ⟨w5, hwq, hS5, hb45, hblk5⟩ : ∃ W, w4.drewN nq = W ∧ SetAt W FS g t.chans (zeroW t.chans) ∧ Below w4.heap.size w4 W ∧ Blk W w.heap.size 36 (tabC t ⟨A1, k1, A2, k2, A3, k3⟩) := ⟨_, rfl, HS4.out.drewN nq, below_drewS nq, hblk4.drewN nq⟩
  rw [hwq]
  have hb05 := bel_trans hb04 hb45
  have hb25 := hid (bel_trans hb24.out hb45)
  clear c0 c1 c2 c3 c4 hwq hblk4 hb04 hb45 hb24 HS4 iLn
  obtain ⟨c0, c1, c2, c3, c4⟩ := tab_cells hblk5
  simp only at c0 c1 c2 c3 c4
  have i4 := hid (refNew t ⟨A1, k1, A2, k2, A3, k3⟩ w5 (HO.out _ hb05))
  simp only at i4
  have HS5 := hid hS5
  clear hS5
  go_wp2_with fail
  refine i4.out.mono ?_
  rintro e w6 ⟨FR, gR, rfl, hR6, hb6, hF6⟩
  have hT0 : Two w2.heap.size w2 g gR t.chans (zeroW t.chans) (hL (zeroW t.chans)) (fun _ => False) w6 := by
    rw [hL_zero]
    exact ⟨⟨FS, FR, HS5.out.belowS hb6, hR6, fun b h1 h2 => by have := HS5.out.lt h1; have := hF6 b h2; omega, HF3.out, fun b hb => Nat.le_trans hb25.out.size (hF6 b hb), fun _ h => h.elim⟩, bel_trans hb25.out hb6, Nat.le_refl _⟩
  have hK0 : KAll t.chans (zeroW t.chans) := fun k hk => by
    obtain ⟨x, hx⟩ : ∃ x, t.chans[k]? = some x := ⟨_, List.getElem?_eq_getElem hk⟩
    unfold zeroW
    rw [depthAt_get hx]
    exact KOk.zero (hR.out.cs x (List.mem_of_getElem? hx)).2.2.2.2.2.1
  have hD4 : ∀ k, k < t.chans.length → depthAt t.chans k ≤ 4 := fun k hk => by
    obtain ⟨x, hx⟩ : ∃ x, t.chans[k]? = some x := ⟨_, List.getElem?_eq_getElem hk⟩
    rw [depthAt_get hx]
    exact (hR.out.cs x (List.mem_of_getElem? hx)).2.2.2.2.2.2
  have HT0 := hid hT0
  have HK0 := hid hK0
  have HD4 := hid hD4
  clear hT0 hK0 hD4 hR6 hb6 hF6 HF3 HS5 hb25 i4 hblk5 c0 c1 c2 c3 c4
  go_wp2_with fail
  go_loopw [9, 10, 11, 12, 13, 14, 15, 16, 17, 55] (fun v9 v10 v11 v12 v13 v14 v15 v16 v17 v55 wr => ∃ (k : Nat) (ss : Nat → WayS), k ≤ n ∧ v55 = .int .i64 (k : Int) ∧ Two w2.heap.size w2 g gR t.chans ss (hL ss) (fun _ => False) wr ∧ KAll t.chans ss) (fun _ _ _ _ _ _ _ _ _ v55 _ => n - (intOf v55).toNat)
  case atStart => exact ⟨0, _, by omega, rfl, HT0.out, HK0.out⟩
  case round =>
    clear HT0 HK0
    obtain ⟨k, ss, hk, rfl, hT, hK⟩ := hrel
    have hb0r := hid (bel_trans hb02h.out hT.bel)
    have HT := hid hT
    have HK := hid hK
    clear hT hK
    by_cases hkn : k < n
    case neg =>
      obtain rfl : k = n := by omega
      obtain ⟨FS, FR, hSj, hRj, _⟩ := HT.out.ex
      obtain ⟨AC, cC, hc0⟩ := HT.out.r0
      have e1 := hid (fun w' (hb : Below wr.heap.size wr w') => has_none (hSj.belowS hb) (-1) (by omega))
      have e2 := hid (fun w' (hb : Below wr.heap.size wr w') => has_none (hSj.belowS hb) (t.chans.length : Int) (by omega))
      clear hSj hRj
      go_wp2_with fail
      refine (e1.out _ (Below.refl _ _)).mono ?_
      rintro e w7 ⟨rfl, rfl⟩
      go_wp2_with fail
      refine (e2.out _ (Below.refl _ _)).mono ?_
      rintro e w8 ⟨rfl, rfl⟩
      go_wp2_with fail
      go_ret
      exact ⟨rfl, hb0r.out⟩
    obtain ⟨ad, a, rfl, had, hx, hq0, hq⟩ := (hrd0.out.below hb0r.out).at_ hkn
    have q0 := hq0 _ rfl
    have q1 := hq 0 _ rfl
    have q2 := hq 1 _ rfl
    have q3 := hq 2 _ rfl
    clear hq hq0 hx
    obtain ⟨kind, part, chan, num⟩ := a
    simp only at q0 q1 q2 q3
    have hBx := hid (Blk.new wr 52 [.int .i64 kind, .int .i64 part, .int .i64 chan, .int .i64 num])
    have hTb := hid (HT.out.made (.cells #[.int .i64 kind, .int .i64 part, .int .i64 chan, .int .i64 num] 52))
    have h0 : (wr.alloc (.cells #[.int .i64 kind, .int .i64 part, .int .i64 chan, .int .i64 num] 52)).cell? ⟨wr.heap.size, 0, none⟩ = some (.int .i64 kind) := hBx.out.cellAt rfl
    have h1 : (wr.alloc (.cells #[.int .i64 kind, .int .i64 part, .int .i64 chan, .int .i64 num] 52)).cell? ⟨wr.heap.size, 1, none⟩ = some (.int .i64 part) := hBx.out.cellAt rfl
    have h2 : (wr.alloc (.cells #[.int .i64 kind, .int .i64 part, .int .i64 chan, .int .i64 num] 52)).cell? ⟨wr.heap.size, 2, none⟩ = some (.int .i64 chan) := hBx.out.cellAt rfl
    have h3 : (wr.alloc (.cells #[.int .i64 kind, .int .i64 part, .int .i64 chan, .int .i64 num] 52)).cell? ⟨wr.heap.size, 3, none⟩ = some (.int .i64 num) := hBx.out.cellAt rfl
    by_cases hk0 : kind = 0
    case pos =>
      have y0 : (kind == 0) = true := by simp [hk0]
      clear hk0
      obtain ⟨is, E, ssz, hKz, iS, iR⟩ := two_send (B := w2.heap.size) (w0 := w2) (g := g) (gR := gR) (X := fun b => b = wr.heap.size) HK.out HD4.out part chan num
      simp only [toldV] at iR
      have iS1 := hid (iS _ hTb.out)
      have iR1 := hid iR
      have HKz := hid hKz
      clear iS iR hKz
      go_wp2_with fail
      refine iS1.out.mono ?_
      rintro e w7 ⟨rfl, hT7, hX7⟩
      have hB7 := hid (show Blk w7 wr.heap.size 52 [.int .i64 kind, .int .i64 part, .int .i64 chan, .int .i64 num] from (hX7 _ rfl).trans hBx.out)
      have iR7 := hid (iR1.out _ hT7)
      clear iS1 iR1 hT7 hX7 h0 h1 h2 h3 q0 q1 q2 q3
      have h0 : w7.cell? ⟨wr.heap.size, 0, none⟩ = some (.int .i64 kind) := hB7.out.cellAt rfl
      have h1 : w7.cell? ⟨wr.heap.size, 1, none⟩ = some (.int .i64 part) := hB7.out.cellAt rfl
      have h2 : w7.cell? ⟨wr.heap.size, 2, none⟩ = some (.int .i64 chan) := hB7.out.cellAt rfl
      have h3 : w7.cell? ⟨wr.heap.size, 3, none⟩ = some (.int .i64 num) := hB7.out.cellAt rfl
      go_wp2_with fail
      refine iR7.out.mono ?_
      rintro e w8 ⟨rfl, hT8, hX8⟩
      obtain ⟨AC, cC, hc⟩ := hT8.r0
      have hc0 := cell_alloc hc
      have hTi := (hT8.made (.cells #[.int .i64 0, .bool is, .int .i64 E] 61)).less (Y := fun _ => False) (fun _ h => h.elim)
      have hKz := HKz.out
      have hB8 := hid (show Blk w8 wr.heap.size 52 [.int .i64 kind, .int .i64 part, .int .i64 chan, .int .i64 num] from (hX8 _ rfl).trans hB7.out)
      clear iR7 hT8 hX8 HKz h0 h1 h2 h3
      go_wp2_with fail
      clear hc0 hc
      generalize w8.alloc (.cells #[.int .i64 0, .bool is, .int .i64 E] 61) = wi at hTi ⊢
      have HTi := hid hTi
      have HKi := hid hKz
      clear hTi hKz
      go_loopw [17, 141] (fun v17 v141 wr => ∃ (j : Nat), j ≤ t.chans.length ∧ v141 = .int .i64 (j : Int) ∧ Below wi.heap.size wi wr) (fun _ v141 _ => t.chans.length - (intOf v141).toNat)
      case atStart => exact ⟨0, by omega, rfl, Below.refl _ _⟩
      case round =>
        obtain ⟨j, hj, rfl, hbj⟩ := hrel
        have hTj := hid (HTi.out.belowS hbj)
        by_cases hjn : j < t.chans.length
        case pos =>
          obtain ⟨FS, FR, hSj, hRj, _⟩ := hTj.out.ex
          have hsmj : WaySmall (ssz j) := (HKi.out j hjn).small (HD4.out j hjn)
          have hsl := hasL_small hsmj
          have iH := hid (fun w' (hb : Below wr.heap.size wr w') => has_at (hSj.belowS hb) hjn hsmj)
          obtain ⟨gL, Aj, cj, u0, u1, hrow⟩ := hRj.row hjn
          have hult := hid (⟨World.block_lt_of_cell? _ _ u0, World.block_lt_of_cell? _ _ u1⟩ : gR < wr.heap.size ∧ gL < wr.heap.size)
          have iE := hid (fun w' (hb : Below wr.heap.size wr w') A5 c5 (hr5 : Reads w' w'.heap.size 1 A5 (hasL (ssz j)).length ((hasL (ssz j)).map iV)) => sameInts_b A5 Aj (hasL (ssz j)).length (hasL (ssz j)).length c5 cj (hasL (ssz j)) (hasL (ssz j)) w' hr5 (hrow w' hb) (by omega) (by omega))
          have u1' : wr.cell? ⟨gL, j, none⟩ = some (.slice Aj (hasL (ssz j)).length cj) := u1
          generalize (hasL (ssz j)).length = Q at iH iE u1'
          simp only [decide_true] at iE
          have y3 : (0 : Int) ≤ (j : Int) := by omega
          have y4 : (j : Int) < (t.chans.length : Int) := by omega
          have hB := hid (Below.refl wr.heap.size wr)
          have HBJ := hid hbj
          clear hSj hRj hsmj hsl u1 hbj hrow
          go_wp2_with fail
          go_region_held3 (fun w' => w'.cell? ⟨gR, 1, none⟩ = some (.slice (some ⟨gL, 0, none⟩) t.chans.length t.chans.length) ∧ w'.cell? ⟨gL, j, none⟩ = some (.slice Aj Q cj)) (go_keep)
            (first
              | (go_at_call 24; refine (iH.out _ ?_).mono ?_; (first | exact hB.out | exact bel_drew hB.out); rintro e wa ⟨A5, c5, rfl, hr5', hba'⟩; have hBn : Below wr.heap.size wr wa := (by first | exact bel_trans hB.out hba' | exact bel_trans hB.out ⟨hba'.os, hba'.tape, hba'.output, hba'.size, hba'.block⟩); have hr5 := hid hr5'; clear hba' hr5'; have hB := hid hBn; have z0 : wa.cell? ⟨gR, 1, none⟩ = some (.slice (some ⟨gL, 0, none⟩) t.chans.length t.chans.length) := (hBn.cell (p := ⟨gR, 1, none⟩) hult.out.1).trans u0; have z1 : wa.cell? ⟨gL, j, none⟩ = some (.slice Aj Q cj) := (hBn.cell (p := ⟨gL, j, none⟩) hult.out.2).trans u1'; clear hBn)
              | (go_at_call 25; refine (iE.out _ ?_ _ _ ?_).mono ?_; (first | exact hB.out | exact bel_drew hB.out); (first | exact hr5.out | exact hr5.out.drew); rintro e wb ⟨rfl, hbb'⟩; have hBn : Below wr.heap.size wr wb := (by first | exact bel_trans hB.out hbb' | exact bel_trans hB.out ⟨hbb'.os, hbb'.tape, hbb'.output, hbb'.size, hbb'.block⟩); clear hbb'; have hB := hid hBn; have z0 : wb.cell? ⟨gR, 1, none⟩ = some (.slice (some ⟨gL, 0, none⟩) t.chans.length t.chans.length) := (hBn.cell (p := ⟨gR, 1, none⟩) hult.out.1).trans u0; have z1 : wb.cell? ⟨gL, j, none⟩ = some (.slice Aj Q cj) := (hBn.cell (p := ⟨gL, j, none⟩) hult.out.2).trans u1'; clear hBn))
          all_goals
            clear z0 z1 u0 u1' iH iE
            go_wp2_with fail
            go_roundw
            case rel => exact ⟨j + 1, by omega, by go_num, bel_trans HBJ.out hB.out⟩
            case measure => simp [intOf]; omega
        case neg =>
          obtain rfl : j = t.chans.length := by omega
          have hbj0 := hid hbj
          clear hbj
          go_wp2_with fail
          go_roundw
          case rel => exact ⟨k + 1, ssz, by omega, by go_num, hTj.out, HKi.out⟩
          case measure => simp [intOf]; omega
    have y0 : (kind == 0) = false := by simp [hk0]
    clear hk0
    by_cases hk1 : kind = 1
    case pos =>
      have y1 : (kind == 1) = true := by simp [hk1]
      clear hk1
      obtain ⟨nn, is, E, ssz, hKz, iS, iR⟩ := two_get (B := w2.heap.size) (w0 := w2) (g := g) (gR := gR) (X := fun b => b = wr.heap.size) HK.out part chan
      simp only [toldV] at iR
      have iS1 := hid (iS _ hTb.out)
      have iR1 := hid iR
      have HKz := hid hKz
      clear iS iR hKz
      go_wp2_with fail
      refine iS1.out.mono ?_
      rintro e w7 ⟨rfl, hT7, hX7⟩
      have hB7 := hid (show Blk w7 wr.heap.size 52 [.int .i64 kind, .int .i64 part, .int .i64 chan, .int .i64 num] from (hX7 _ rfl).trans hBx.out)
      have iR7 := hid (iR1.out _ hT7)
      clear iS1 iR1 hT7 hX7 h0 h1 h2 h3 q0 q1 q2 q3
      have h0 : w7.cell? ⟨wr.heap.size, 0, none⟩ = some (.int .i64 kind) := hB7.out.cellAt rfl
      have h1 : w7.cell? ⟨wr.heap.size, 1, none⟩ = some (.int .i64 part) := hB7.out.cellAt rfl
      have h2 : w7.cell? ⟨wr.heap.size, 2, none⟩ = some (.int .i64 chan) := hB7.out.cellAt rfl
      have h3 : w7.cell? ⟨wr.heap.size, 3, none⟩ = some (.int .i64 num) := hB7.out.cellAt rfl
      go_wp2_with fail
      refine iR7.out.mono ?_
      rintro e w8 ⟨rfl, hT8, hX8⟩
      obtain ⟨AC, cC, hc⟩ := hT8.r0
      have hc0 := cell_alloc hc
      have hTi := (hT8.made (.cells #[.int .i64 nn, .bool is, .int .i64 E] 61)).less (Y := fun _ => False) (fun _ h => h.elim)
      have hKz := HKz.out
      have hB8 := hid (show Blk w8 wr.heap.size 52 [.int .i64 kind, .int .i64 part, .int .i64 chan, .int .i64 num] from (hX8 _ rfl).trans hB7.out)
      clear iR7 hT8 hX8 HKz h0 h1 h2 h3
      go_wp2_with fail
      clear hc0 hc
      generalize w8.alloc (.cells #[.int .i64 nn, .bool is, .int .i64 E] 61) = wi at hTi ⊢
      have HTi := hid hTi
      have HKi := hid hKz
      clear hTi hKz
      go_loopw [17, 141] (fun v17 v141 wr => ∃ (j : Nat), j ≤ t.chans.length ∧ v141 = .int .i64 (j : Int) ∧ Below wi.heap.size wi wr) (fun _ v141 _ => t.chans.length - (intOf v141).toNat)
      case atStart => exact ⟨0, by omega, rfl, Below.refl _ _⟩
      case round =>
        obtain ⟨j, hj, rfl, hbj⟩ := hrel
        have hTj := hid (HTi.out.belowS hbj)
        by_cases hjn : j < t.chans.length
        case pos =>
          obtain ⟨FS, FR, hSj, hRj, _⟩ := hTj.out.ex
          have hsmj : WaySmall (ssz j) := (HKi.out j hjn).small (HD4.out j hjn)
          have hsl := hasL_small hsmj
          have iH := hid (fun w' (hb : Below wr.heap.size wr w') => has_at (hSj.belowS hb) hjn hsmj)
          obtain ⟨gL, Aj, cj, u0, u1, hrow⟩ := hRj.row hjn
          have hult := hid (⟨World.block_lt_of_cell? _ _ u0, World.block_lt_of_cell? _ _ u1⟩ : gR < wr.heap.size ∧ gL < wr.heap.size)
          have iE := hid (fun w' (hb : Below wr.heap.size wr w') A5 c5 (hr5 : Reads w' w'.heap.size 1 A5 (hasL (ssz j)).length ((hasL (ssz j)).map iV)) => sameInts_b A5 Aj (hasL (ssz j)).length (hasL (ssz j)).length c5 cj (hasL (ssz j)) (hasL (ssz j)) w' hr5 (hrow w' hb) (by omega) (by omega))
          have u1' : wr.cell? ⟨gL, j, none⟩ = some (.slice Aj (hasL (ssz j)).length cj) := u1
          generalize (hasL (ssz j)).length = Q at iH iE u1'
          simp only [decide_true] at iE
          have y3 : (0 : Int) ≤ (j : Int) := by omega
          have y4 : (j : Int) < (t.chans.length : Int) := by omega
          have hB := hid (Below.refl wr.heap.size wr)
          have HBJ := hid hbj
          clear hSj hRj hsmj hsl u1 hbj hrow
          go_wp2_with fail
          go_region_held3 (fun w' => w'.cell? ⟨gR, 1, none⟩ = some (.slice (some ⟨gL, 0, none⟩) t.chans.length t.chans.length) ∧ w'.cell? ⟨gL, j, none⟩ = some (.slice Aj Q cj)) (go_keep)
            (first
              | (go_at_call 24; refine (iH.out _ ?_).mono ?_; (first | exact hB.out | exact bel_drew hB.out); rintro e wa ⟨A5, c5, rfl, hr5', hba'⟩; have hBn : Below wr.heap.size wr wa := (by first | exact bel_trans hB.out hba' | exact bel_trans hB.out ⟨hba'.os, hba'.tape, hba'.output, hba'.size, hba'.block⟩); have hr5 := hid hr5'; clear hba' hr5'; have hB := hid hBn; have z0 : wa.cell? ⟨gR, 1, none⟩ = some (.slice (some ⟨gL, 0, none⟩) t.chans.length t.chans.length) := (hBn.cell (p := ⟨gR, 1, none⟩) hult.out.1).trans u0; have z1 : wa.cell? ⟨gL, j, none⟩ = some (.slice Aj Q cj) := (hBn.cell (p := ⟨gL, j, none⟩) hult.out.2).trans u1'; clear hBn)
              | (go_at_call 25; refine (iE.out _ ?_ _ _ ?_).mono ?_; (first | exact hB.out | exact bel_drew hB.out); (first | exact hr5.out | exact hr5.out.drew); rintro e wb ⟨rfl, hbb'⟩; have hBn : Below wr.heap.size wr wb := (by first | exact bel_trans hB.out hbb' | exact bel_trans hB.out ⟨hbb'.os, hbb'.tape, hbb'.output, hbb'.size, hbb'.block⟩); clear hbb'; have hB := hid hBn; have z0 : wb.cell? ⟨gR, 1, none⟩ = some (.slice (some ⟨gL, 0, none⟩) t.chans.length t.chans.length) := (hBn.cell (p := ⟨gR, 1, none⟩) hult.out.1).trans u0; have z1 : wb.cell? ⟨gL, j, none⟩ = some (.slice Aj Q cj) := (hBn.cell (p := ⟨gL, j, none⟩) hult.out.2).trans u1'; clear hBn))
          all_goals
            clear z0 z1 u0 u1' iH iE
            go_wp2_with fail
            go_roundw
            case rel => exact ⟨j + 1, by omega, by go_num, bel_trans HBJ.out hB.out⟩
            case measure => simp [intOf]; omega
        case neg =>
          obtain rfl : j = t.chans.length := by omega
          have hbj0 := hid hbj
          clear hbj
          go_wp2_with fail
          go_roundw
          case rel => exact ⟨k + 1, ssz, by omega, by go_num, hTj.out, HKi.out⟩
          case measure => simp [intOf]; omega
    have y1 : (kind == 1) = false := by simp [hk1]
    clear hk1
    by_cases hk2 : kind = 2
    case pos =>
      have y2 : (kind == 2) = true := by simp [hk2]
      clear hk2
      obtain ⟨ssz, hKz, iS, iR⟩ := two_drain (B := w2.heap.size) (w0 := w2) (g := g) (gR := gR) (X := fun b => b = wr.heap.size) HK.out (by omega) part
      have iS1 := hid (iS _ hTb.out)
      have iR1 := hid iR
      have HKz := hid hKz
      clear iS iR hKz
      go_wp2_with fail
      refine iS1.out.mono ?_
      rintro e w7 ⟨rfl, hT7, hX7⟩
      have hB7 := hid (show Blk w7 wr.heap.size 52 [.int .i64 kind, .int .i64 part, .int .i64 chan, .int .i64 num] from (hX7 _ rfl).trans hBx.out)
      have iR7 := hid (iR1.out _ hT7)
      clear iS1 iR1 hT7 hX7 h0 h1 h2 h3 q0 q1 q2 q3
      have h0 : w7.cell? ⟨wr.heap.size, 0, none⟩ = some (.int .i64 kind) := hB7.out.cellAt rfl
      have h1 : w7.cell? ⟨wr.heap.size, 1, none⟩ = some (.int .i64 part) := hB7.out.cellAt rfl
      have h2 : w7.cell? ⟨wr.heap.size, 2, none⟩ = some (.int .i64 chan) := hB7.out.cellAt rfl
      have h3 : w7.cell? ⟨wr.heap.size, 3, none⟩ = some (.int .i64 num) := hB7.out.cellAt rfl
      go_wp2_with fail
      refine iR7.out.mono ?_
      rintro e w8 ⟨rfl, hT8, hX8⟩
      obtain ⟨AC, cC, hc⟩ := hT8.r0
      have hc0 := cell_alloc hc
      have hTi := hT8.less (Y := fun _ => False) (fun _ h => h.elim)
      have hKz := HKz.out
      have hB8 := hid (show Blk w8 wr.heap.size 52 [.int .i64 kind, .int .i64 part, .int .i64 chan, .int .i64 num] from (hX8 _ rfl).trans hB7.out)
      clear iR7 hT8 hX8 HKz h0 h1 h2 h3
      go_wp2_with fail
      clear hc0 hc
      generalize w8 = wi at hTi ⊢
      have HTi := hid hTi
      have HKi := hid hKz
      clear hTi hKz
      go_loopw [17, 141] (fun v17 v141 wr => ∃ (j : Nat), j ≤ t.chans.length ∧ v141 = .int .i64 (j : Int) ∧ Below wi.heap.size wi wr) (fun _ v141 _ => t.chans.length - (intOf v141).toNat)
      case atStart => exact ⟨0, by omega, rfl, Below.refl _ _⟩
      case round =>
        obtain ⟨j, hj, rfl, hbj⟩ := hrel
        have hTj := hid (HTi.out.belowS hbj)
        by_cases hjn : j < t.chans.length
        case pos =>
          obtain ⟨FS, FR, hSj, hRj, _⟩ := hTj.out.ex
          have hsmj : WaySmall (ssz j) := (HKi.out j hjn).small (HD4.out j hjn)
          have hsl := hasL_small hsmj
          have iH := hid (fun w' (hb : Below wr.heap.size wr w') => has_at (hSj.belowS hb) hjn hsmj)
          obtain ⟨gL, Aj, cj, u0, u1, hrow⟩ := hRj.row hjn
          have hult := hid (⟨World.block_lt_of_cell? _ _ u0, World.block_lt_of_cell? _ _ u1⟩ : gR < wr.heap.size ∧ gL < wr.heap.size)
          have iE := hid (fun w' (hb : Below wr.heap.size wr w') A5 c5 (hr5 : Reads w' w'.heap.size 1 A5 (hasL (ssz j)).length ((hasL (ssz j)).map iV)) => sameInts_b A5 Aj (hasL (ssz j)).length (hasL (ssz j)).length c5 cj (hasL (ssz j)) (hasL (ssz j)) w' hr5 (hrow w' hb) (by omega) (by omega))
          have u1' : wr.cell? ⟨gL, j, none⟩ = some (.slice Aj (hasL (ssz j)).length cj) := u1
          generalize (hasL (ssz j)).length = Q at iH iE u1'
          simp only [decide_true] at iE
          have y3 : (0 : Int) ≤ (j : Int) := by omega
          have y4 : (j : Int) < (t.chans.length : Int) := by omega
          have hB := hid (Below.refl wr.heap.size wr)
          have HBJ := hid hbj
          clear hSj hRj hsmj hsl u1 hbj hrow
          go_wp2_with fail
          go_region_held3 (fun w' => w'.cell? ⟨gR, 1, none⟩ = some (.slice (some ⟨gL, 0, none⟩) t.chans.length t.chans.length) ∧ w'.cell? ⟨gL, j, none⟩ = some (.slice Aj Q cj)) (go_keep)
            (first
              | (go_at_call 24; refine (iH.out _ ?_).mono ?_; (first | exact hB.out | exact bel_drew hB.out); rintro e wa ⟨A5, c5, rfl, hr5', hba'⟩; have hBn : Below wr.heap.size wr wa := (by first | exact bel_trans hB.out hba' | exact bel_trans hB.out ⟨hba'.os, hba'.tape, hba'.output, hba'.size, hba'.block⟩); have hr5 := hid hr5'; clear hba' hr5'; have hB := hid hBn; have z0 : wa.cell? ⟨gR, 1, none⟩ = some (.slice (some ⟨gL, 0, none⟩) t.chans.length t.chans.length) := (hBn.cell (p := ⟨gR, 1, none⟩) hult.out.1).trans u0; have z1 : wa.cell? ⟨gL, j, none⟩ = some (.slice Aj Q cj) := (hBn.cell (p := ⟨gL, j, none⟩) hult.out.2).trans u1'; clear hBn)
              | (go_at_call 25; refine (iE.out _ ?_ _ _ ?_).mono ?_; (first | exact hB.out | exact bel_drew hB.out); (first | exact hr5.out | exact hr5.out.drew); rintro e wb ⟨rfl, hbb'⟩; have hBn : Below wr.heap.size wr wb := (by first | exact bel_trans hB.out hbb' | exact bel_trans hB.out ⟨hbb'.os, hbb'.tape, hbb'.output, hbb'.size, hbb'.block⟩); clear hbb'; have hB := hid hBn; have z0 : wb.cell? ⟨gR, 1, none⟩ = some (.slice (some ⟨gL, 0, none⟩) t.chans.length t.chans.length) := (hBn.cell (p := ⟨gR, 1, none⟩) hult.out.1).trans u0; have z1 : wb.cell? ⟨gL, j, none⟩ = some (.slice Aj Q cj) := (hBn.cell (p := ⟨gL, j, none⟩) hult.out.2).trans u1'; clear hBn))
          all_goals
            clear z0 z1 u0 u1' iH iE
            go_wp2_with fail
            go_roundw
            case rel => exact ⟨j + 1, by omega, by go_num, bel_trans HBJ.out hB.out⟩
            case measure => simp [intOf]; omega
        case neg =>
          obtain rfl : j = t.chans.length := by omega
          have hbj0 := hid hbj
          clear hbj
          go_wp2_with fail
          go_roundw
          case rel => exact ⟨k + 1, ssz, by omega, by go_num, hTj.out, HKi.out⟩
          case measure => simp [intOf]; omega
    have y2 : (kind == 2) = false := by simp [hk2]
    clear hk2
    have hTi := hTb.out.less (Y := fun _ => False) (fun _ h => h.elim)
    obtain ⟨ssz, hsz⟩ : ∃ ssz, ssz = ss := ⟨_, rfl⟩
    rw [← hsz] at hTi
    have hKz := HK.out
    rw [← hsz] at hKz
    obtain ⟨AC, cC, hc⟩ := HT.out.r0
    have hc0 := cell_alloc hc
    clear hTb hBx hc hsz
    go_wp2_with fail
    clear h0 h1 h2 h3 q0 q1 q2 q3 hc0
    generalize wr.alloc (.cells #[.int .i64 kind, .int .i64 part, .int .i64 chan, .int .i64 num] 52) = wi at hTi ⊢
    have HTi := hid hTi
    have HKi := hid hKz
    clear hTi hKz
    go_loopw [17, 141] (fun v17 v141 wr => ∃ (j : Nat), j ≤ t.chans.length ∧ v141 = .int .i64 (j : Int) ∧ Below wi.heap.size wi wr) (fun _ v141 _ => t.chans.length - (intOf v141).toNat)
    case atStart => exact ⟨0, by omega, rfl, Below.refl _ _⟩
    case round =>
      obtain ⟨j, hj, rfl, hbj⟩ := hrel
      have hTj := hid (HTi.out.belowS hbj)
      by_cases hjn : j < t.chans.length
      case pos =>
        obtain ⟨FS, FR, hSj, hRj, _⟩ := hTj.out.ex
        have hsmj : WaySmall (ssz j) := (HKi.out j hjn).small (HD4.out j hjn)
        have hsl := hasL_small hsmj
        have iH := hid (fun w' (hb : Below wr.heap.size wr w') => has_at (hSj.belowS hb) hjn hsmj)
        obtain ⟨gL, Aj, cj, u0, u1, hrow⟩ := hRj.row hjn
        have hult := hid (⟨World.block_lt_of_cell? _ _ u0, World.block_lt_of_cell? _ _ u1⟩ : gR < wr.heap.size ∧ gL < wr.heap.size)
        have iE := hid (fun w' (hb : Below wr.heap.size wr w') A5 c5 (hr5 : Reads w' w'.heap.size 1 A5 (hasL (ssz j)).length ((hasL (ssz j)).map iV)) => sameInts_b A5 Aj (hasL (ssz j)).length (hasL (ssz j)).length c5 cj (hasL (ssz j)) (hasL (ssz j)) w' hr5 (hrow w' hb) (by omega) (by omega))
        have u1' : wr.cell? ⟨gL, j, none⟩ = some (.slice Aj (hasL (ssz j)).length cj) := u1
        generalize (hasL (ssz j)).length = Q at iH iE u1'
        simp only [decide_true] at iE
        have y3 : (0 : Int) ≤ (j : Int) := by omega
        have y4 : (j : Int) < (t.chans.length : Int) := by omega
        have hB := hid (Below.refl wr.heap.size wr)
        have HBJ := hid hbj
        clear hSj hRj hsmj hsl u1 hbj hrow
        go_wp2_with fail
        go_region_held3 (fun w' => w'.cell? ⟨gR, 1, none⟩ = some (.slice (some ⟨gL, 0, none⟩) t.chans.length t.chans.length) ∧ w'.cell? ⟨gL, j, none⟩ = some (.slice Aj Q cj)) (go_keep)
          (first
            | (go_at_call 24; refine (iH.out _ ?_).mono ?_; (first | exact hB.out | exact bel_drew hB.out); rintro e wa ⟨A5, c5, rfl, hr5', hba'⟩; have hBn : Below wr.heap.size wr wa := (by first | exact bel_trans hB.out hba' | exact bel_trans hB.out ⟨hba'.os, hba'.tape, hba'.output, hba'.size, hba'.block⟩); have hr5 := hid hr5'; clear hba' hr5'; have hB := hid hBn; have z0 : wa.cell? ⟨gR, 1, none⟩ = some (.slice (some ⟨gL, 0, none⟩) t.chans.length t.chans.length) := (hBn.cell (p := ⟨gR, 1, none⟩) hult.out.1).trans u0; have z1 : wa.cell? ⟨gL, j, none⟩ = some (.slice Aj Q cj) := (hBn.cell (p := ⟨gL, j, none⟩) hult.out.2).trans u1'; clear hBn)
            | (go_at_call 25; refine (iE.out _ ?_ _ _ ?_).mono ?_; (first | exact hB.out | exact bel_drew hB.out); (first | exact hr5.out | exact hr5.out.drew); rintro e wb ⟨rfl, hbb'⟩; have hBn : Below wr.heap.size wr wb := (by first | exact bel_trans hB.out hbb' | exact bel_trans hB.out ⟨hbb'.os, hbb'.tape, hbb'.output, hbb'.size, hbb'.block⟩); clear hbb'; have hB := hid hBn; have z0 : wb.cell? ⟨gR, 1, none⟩ = some (.slice (some ⟨gL, 0, none⟩) t.chans.length t.chans.length) := (hBn.cell (p := ⟨gR, 1, none⟩) hult.out.1).trans u0; have z1 : wb.cell? ⟨gL, j, none⟩ = some (.slice Aj Q cj) := (hBn.cell (p := ⟨gL, j, none⟩) hult.out.2).trans u1'; clear hBn))
        all_goals
          clear z0 z1 u0 u1' iH iE
          go_wp2_with fail
          go_roundw
          case rel => exact ⟨j + 1, by omega, by go_num, bel_trans HBJ.out hB.out⟩
          case measure => simp [intOf]; omega
      case neg =>
        obtain rfl : j = t.chans.length := by omega
        have hbj0 := hid hbj
        clear hbj
        go_wp2_with fail
        go_roundw
        case rel => exact ⟨k + 1, ssz, by omega, by go_num, hTj.out, HKi.out⟩
        case measure => simp [intOf]; omega
/-! ### PortActs: from the walk to the given statement -/
namespace lawPortActs
theorem own : ownKnob Try.prog.godebug = none := by kernel_rfl
theorem laidOut : laidOutB Try.prog = true := by kernel_rfl
set_option maxRecDepth 100000 in
theorem lifted (os : Os) (started : os.Started) (H : Type) (enc : TypeId × Value → H) :
    ReturnsInHanded {} Try.checked os 8 .any (Rows.portActsSpec.pre6 enc Try.prog Try.f8 Rows.portActsRow.domain false) (Rows.portActsSpec.post enc Try.prog Try.f8 false true false false) := by
  refine returnsInHanded_of_change (C := Try.checked) own started (by kernel_rfl) Try.func8
    (ChangeSpec.witness6 (enc := enc) (C := Try.checked) false ⟨#[], #[.agg #[.int .i64 0, .slice none 0 0, .slice none 0 0, .slice none 0 0, .int .i64 0], .slice none 0 0], []⟩ 8 (by kernel_rfl) (by kernel_rfl) (by kernel_rfl) (by kernel_rfl)) ?_
  intro W base args ds gs before hval0 hW hcnd _
  have hval : ∀ (j : Nat) t v, Try.f8.params[j]? = some t → args[j]? = some v → Value.okWide Try.prog W .any base t v := hval0
  have hW' := hW
  obtain ⟨p, q, hA0, hV, rfl, hfz, hnd⟩ := hW
  have hA : DataW.TrodAll enc Try.prog W 0 (fun _ => true) true Try.f8.params.toList args.toList ds p := hA0
  rw [Try.params8] at hA hval
  obtain ⟨v0, vs0, d0, ds0, p0, q0, hargs, rfl, rfl, h0, r0⟩ := trodAll_cons hA
  obtain ⟨v1, vs1, d1, ds1, p1, q1, rfl, rfl, rfl, h1, r1⟩ := trodAll_cons r0
  obtain ⟨rfl, rfl, rfl⟩ := trodAll_nil r1
  obtain rfl : args = #[v0, v1] := by cases args; simp_all
  obtain ⟨rfl, rfl⟩ := trodVars_none hV
  have k0 := h0
  have lt0 : ∀ x ∈ p0, x.block < W.heap.size := by obtain ⟨m, hm⟩ := k0; exact DataW.trod_lt m _ _ _ hm
  have k1 := h1
  have lt1 : ∀ x ∈ p1, x.block < W.heap.size := by obtain ⟨m, hm⟩ := k1; exact DataW.trod_lt m _ _ _ hm
  obtain ⟨t0, a0, rfl, w0⟩ := open_tab (hval 0 36 v0 rfl rfl) h0
  obtain ⟨A1, n1, c1, b1, rfl, w1, g1, l1, f1⟩ := open_acts (hval 1 50 v1 rfl rfl) h1
  clear hA0 hval0
  refine (portActs_any W t0 a0 w0 A1 n1 c1 b1 w1 g1 l1 f1).mono fun e W' ⟨he, bel⟩ => ?_
  subst he
  exact ⟨_, rfl, _, _, _, [], _, [], hW', trodAll_mk1 (shut_bool Try.underlying4 _), (trodAll_cons_mk (Below.trod laidOut (by kernel_rfl) (of_decide_eq_true (by kernel_rfl)) k0 bel lt0) (trodAll_cons_mk (Below.trod laidOut (by kernel_rfl) (of_decide_eq_true (by kernel_rfl)) k1 bel lt1) trodAll_mk0)), rfl, bel.frame _, fun h => by cases h⟩
theorem over : Rows.portActsRow.holds Try.pinned (OpenSpec.ofChange Rows.portActsSpec) :=
  OpenClaim.holds_of_wide 8 Try.f8 rfl rfl rfl rfl rfl rfl rfl ⟨rfl, rfl, rfl, rfl, rfl⟩ rfl rfl rfl rfl rfl (by kernel_rfl) Try.func8 (by kernel_rfl)
    (of_decide_eq_true (by kernel_rfl)) (by unfold Func.isWrapper; first | (rw [if_pos (by decide +kernel)]; kernel_rfl) | (rw [if_neg (by decide +kernel)]; exact ⟨rfl, rfl⟩))
    (fun os started H enc _ => lifted os started H enc)
theorem proved : Rows.PortActsSaid := over
#print axioms proved
end lawPortActs
end Go.Proofs.Ythipfopmaegpdaa
