/-
  Package compat: has, channels, Sends, Receives.
-/
import Derived.Test.YthnifgcoikmihaaTabR
import Derived.Test.YthnifgcoikmihaaCompPlain
namespace Go.Proofs.Ythnifgcoikmihaa
open Go.RowKit

abbrev tabV (t : TabS) (a : TabA) : Value := .agg #[.int .i64 t.frame, .slice a.A1 t.parts.length a.c1, .slice a.A2 t.wins.length a.c2, .slice a.A3 t.chans.length a.c3, .int .i64 t.trial]
theorem hasB_eq (t : TabS) (p : Int) : hasB t p = (decide (0 ≤ p) && decide (p < t.parts.length)) := by
  unfold hasB inB
  congr 1
  rw [decide_eq_decide]
  omega
theorem tab_box (t : TabS) (a : TabA) (w : World) : ∃ w1 : World, w.alloc (.cells #[.int .i64 t.frame, .slice a.A1 t.parts.length a.c1, .slice a.A2 t.wins.length a.c2, .slice a.A3 t.chans.length a.c3, .int .i64 t.trial] 55) = w1 ∧ Below w.heap.size w w1 ∧ Blk w1 w.heap.size 55 (tabC t a) ∧ w1.heap.size = w.heap.size + 1 :=
  ⟨_, rfl, (Below.refl _ _).alloc (Nat.le_refl _) _, Blk.new _ _ _, by simp⟩
theorem compHas_any (t : TabS) (a : TabA) (p : Int) (w : World) (hn : t.parts.length ≤ 100000) :
    Calls Try.prog 49 #[tabV t a, .int .i64 p] w fun e w' => e = .returned (.bool (hasB t p)) ∧ Below w.heap.size w w' := by
  have HB := hid (hasB_eq t p)
  generalize hasB t p = r at HB ⊢
  obtain ⟨w1, hw1, hb1, hblk1, hs1⟩ := tab_box t a w
  obtain ⟨frame, parts, wins, chans, trial⟩ := t
  obtain ⟨A1, k1, A2, k2, A3, k3⟩ := a
  simp only [tabV, tabC] at hn hw1 HB hblk1 ⊢
  generalize parts.length = n1 at *
  generalize wins.length = n2 at *
  generalize chans.length = n3 at *
  have c1 : w1.cell? ⟨w.heap.size, 1, none⟩ = some (.slice A1 n1 k1) := hblk1.cellAt (i := 1) rfl
  clear hblk1 hs1
  by_cases h0 : 0 ≤ p
  · have y0 : decide (0 ≤ p) = true := decide_eq_true h0
    by_cases h1 : p < (n1 : Int)
    · have y1 : decide (p < (n1 : Int)) = true := decide_eq_true h1
      have hr : r = true := by rw [HB.out, y0, y1]; rfl
      subst hr
      clear h0 h1
      go_enter Try.func49, Try.ntmps49
      go_wp2_with fail
      go_ret
      exact ⟨rfl, hb1⟩
    · have y1 : decide (p < (n1 : Int)) = false := decide_eq_false h1
      have hr : r = false := by rw [HB.out, y0, y1]; rfl
      subst hr
      clear h0 h1
      go_enter Try.func49, Try.ntmps49
      go_wp2_with fail
      go_ret
      exact ⟨rfl, hb1⟩
  · have y0 : decide (0 ≤ p) = false := decide_eq_false h0
    have hr : r = false := by rw [HB.out, y0]; rfl
    subst hr
    clear h0
    go_enter Try.func49, Try.ntmps49
    go_wp2_with fail
    go_ret
    exact ⟨rfl, hb1⟩
theorem sends1_any (c : ChanS) (w : World) :
    Calls Try.prog 45 #[.agg #[.int .i64 c.src, .int .i64 c.dst, .int .i64 c.depth]] w fun e w' => e = .returned (.int .i64 c.src) ∧ Below w.heap.size w w' := by
  obtain ⟨x, y, z⟩ := c
  simp only
  have hb : Below w.heap.size w (w.alloc (.cells #[.int .i64 x, .int .i64 y, .int .i64 z] 59)) := (Below.refl _ _).alloc (Nat.le_refl _) _
  go_enter Try.func45, Try.ntmps45
  go_wp2_with fail
  go_ret
  exact ⟨rfl, hb⟩
theorem recvs1_any (c : ChanS) (w : World) :
    Calls Try.prog 46 #[.agg #[.int .i64 c.src, .int .i64 c.dst, .int .i64 c.depth]] w fun e w' => e = .returned (.int .i64 c.dst) ∧ Below w.heap.size w w' := by
  obtain ⟨x, y, z⟩ := c
  simp only
  have hb : Below w.heap.size w (w.alloc (.cells #[.int .i64 x, .int .i64 y, .int .i64 z] 59)) := (Below.refl _ _).alloc (Nat.le_refl _) _
  go_enter Try.func46, Try.ntmps46
  go_wp2_with fail
  go_ret
  exact ⟨rfl, hb⟩
theorem or_bit : ∀ m : Fin 16, ∀ k : Fin 4, m.val < 2 ^ k.val → bits BinOp.or IntKind.i64 (m.val : Int) ((2 ^ k.val : Nat) : Int) = ((m.val + 2 ^ k.val : Nat) : Int) := by decide +kernel
theorem or_step (k m : Nat) (hk : k < 4) (hm : m < 2 ^ k) : Value.int IntKind.i64 (bits BinOp.or IntKind.i64 (m : Int) (wrap64 (2 ^ k))) = .int .i64 ((m + 2 ^ k : Nat) : Int) := by
  have h4 : k = 0 ∨ k = 1 ∨ k = 2 ∨ k = 3 := by omega
  have hw : wrap64 ((2 : Int) ^ k) = ((2 ^ k : Nat) : Int) := by rcases h4 with rfl | rfl | rfl | rfl <;> decide +kernel
  have h16 : m < 16 := Nat.lt_of_lt_of_le hm (show 2 ^ k ≤ 2 ^ 4 from Nat.pow_le_pow_right (by omega) (by omega))
  rw [hw]
  exact congrArg _ (or_bit ⟨m, h16⟩ ⟨k, hk⟩ hm)
set_option maxHeartbeats 2000000 in
theorem channels_src_any (t : TabS) (a : TabA) (p : Int) (w : World) (h : TabOk w t a) :
    Calls Try.prog 44 #[tabV t a, .int .i64 p, .func (Fn.func 45) #[] #[]] w fun e w' => e = .returned (.int .i64 (chansB ChanS.src t p : Nat)) ∧ Below w.heap.size w w' := by
  obtain ⟨A1, k1, A2, k2, A3, k3⟩ := a
  obtain ⟨w1, hw1, hb1, hblk1, hs1⟩ := tab_box t ⟨A1, k1, A2, k2, A3, k3⟩ w
  simp only [tabV] at hw1 ⊢
  have h1 := h.belowS hb1
  have hn1 := h.n1
  have HC := hid (show chansB ChanS.src t p = if rightB t && hasB t p then maskC ChanS.src p t.chans else 0 from rfl)
  have i1 := hid (right_any t ⟨A1, k1, A2, k2, A3, k3⟩ w1 h1)
  have i2 := hid (fun w => compHas_any t ⟨A1, k1, A2, k2, A3, k3⟩ p w hn1)
  have HN := hid (fun hR => ((rightB_iff t).1 hR).c4)
  have HIN := hid (fun w' (hb : Below w.heap.size w w') => (h.inn.belowS hb).2.2)
  simp only [tabV] at i1 i2
  generalize rightB t = r1 at *
  generalize hasB t p = r2 at *
  generalize chansB ChanS.src t p = R at HC ⊢
  obtain ⟨c0, c1, c2, c3, c4⟩ := tab_cells hblk1
  clear h h1 hs1
  cases r1 with
  | false =>
    have hR : R = 0 := by rw [HC.out]; rfl
    subst hR
    clear hblk1
    go_enter Try.func44, Try.ntmps44
    go_wp2_with fail
    refine i1.out.mono ?_
    rintro e w2 ⟨rfl, hb2⟩
    go_wp2_with fail
    go_ret
    exact ⟨rfl, bel_trans hb1 hb2⟩
  | true =>
    go_enter Try.func44, Try.ntmps44
    go_wp2_with fail
    refine i1.out.mono ?_
    rintro e w2 ⟨rfl, hb2⟩
    have hblk2 := hblk1.belowS hb2
    have hb02 := bel_trans hb1 hb2
    clear c0 c1 c2 c3 c4 hblk1 i1
    obtain ⟨c0, c1, c2, c3, c4⟩ := tab_cells hblk2
    go_wp2_with fail
    refine (i2.out _).mono ?_
    rintro e w3 ⟨rfl, hb3⟩
    have hblk3 := hblk2.belowS hb3
    have hb03 := bel_trans hb02 hb3
    clear c0 c1 c2 c3 c4 hblk2 i2
    obtain ⟨c0, c1, c2, c3, c4⟩ := tab_cells hblk3
    cases r2 with
    | false =>
      have hR : R = 0 := by rw [HC.out]; rfl
      subst hR
      clear hblk3
      go_wp2_with fail
      go_ret
      exact ⟨rfl, hb03⟩
    | true =>
      have HR : Hid (R = maskC ChanS.src p t.chans) := hid (by rw [HC.out]; rfl)
      have hn4 := HN.out trivial
      clear HC HN hb2 hb3 hb02 hb1
      have hbz := hblk3.lt
      go_wp2_with fail
      clear c0 c1 c2 c3 c4 hw1
      have HBL := hid hblk3
      have HB3 := hid hb03
      clear hblk3 hb03 hbz
      go_loopw [7, 8, 9, 22] (fun v7 _ _ v22 wr => ∃ (k m : Nat), k ≤ t.chans.length ∧ v22 = .int .i64 (k : Int) ∧ v7 = .int .i64 (m : Int) ∧ Hid (m = maskC ChanS.src p (t.chans.take k)) ∧ m < 2 ^ k ∧ Below w.heap.size w wr) (fun _ _ _ v22 _ => t.chans.length - (intOf v22).toNat)
      case atStart => exact ⟨0, 0, by omega, rfl, rfl, hid (by simp [maskC, endsB, maskL]), by omega, HB3.out⟩
      case round =>
        clear HB3 HBL
        obtain ⟨k, m, hk, rfl, rfl, HM, hmk, hbel⟩ := hrel
        by_cases hkn : k < t.chans.length
        · obtain ⟨ad, x, rfl, had, hx, hc0, hc⟩ := (HIN.out _ hbel).at_ hkn
          have d0 := hc0 _ rfl
          have d1 := hc 0 _ rfl
          have d2 := hc 1 _ rfl
          clear hc0 hc
          have HS : Hid (maskC ChanS.src p (t.chans.take (k + 1)) = m + (x.src == p).toNat * 2 ^ k) := hid (by
            rw [List.take_add_one, hx]
            show maskC ChanS.src p (t.chans.take k ++ [x]) = _
            rw [maskC_snoc, ← HM.out, List.length_take, Nat.min_eq_left hk])
          have i3 := hid (sends1_any x)
          obtain ⟨x0, x1, x2⟩ := x
          simp only at d0 d1 d2 HS i3
          clear hx HM
          by_cases he : x0 = p
          · have y0 : (x0 == p) = true := by simpa using he
            rw [y0] at HS
            clear y0
            subst he
            have y0 : (x0 == x0) = true := by simp
            go_wp2_with fail
            refine (i3.out _).mono ?_
            rintro e w4 ⟨rfl, hb4⟩
            go_wp2_with fail

            go_roundw
            case rel => exact ⟨k + 1, m + 2 ^ k, by omega, by go_num, or_step k m (by omega) hmk, hid (by rw [HS.out]; simp), by rw [Nat.pow_succ]; omega, bel_trans (bel_alloc hbel _) hb4⟩
            case measure => simp [intOf]; omega
          · have y0 : (x0 == p) = false := by simpa using he
            rw [y0] at HS
            clear he
            go_wp2_with fail
            refine (i3.out _).mono ?_
            rintro e w4 ⟨rfl, hb4⟩
            go_wp2_with fail
            go_roundw
            case rel => exact ⟨k + 1, m, by omega, by go_num, rfl, hid (by rw [HS.out]; simp), by rw [Nat.pow_succ]; omega, bel_trans (bel_alloc hbel _) hb4⟩
            case measure => simp [intOf]; omega
        · obtain rfl : k = t.chans.length := by omega
          have hm : m = R := by rw [HM.out, HR.out, List.take_length]
          subst hm
          go_wp2_with fail
          go_ret
          exact ⟨rfl, hbel⟩
theorem sends_any (t : TabS) (a : TabA) (p : Int) (w : World) (h : TabOk w t a) :
    Calls Try.prog 29 #[tabV t a, .int .i64 p] w fun e w' => e = .returned (.int .i64 (chansB ChanS.src t p : Nat)) ∧ Below w.heap.size w w' := by
  obtain ⟨w1, hw1, hb1, hblk1, hs1⟩ := tab_box t a w
  have i1 := hid (channels_src_any t a p w1 (h.belowS hb1))
  generalize chansB ChanS.src t p = R at i1 ⊢
  simp only [tabV] at i1 hw1 ⊢
  obtain ⟨c0, c1, c2, c3, c4⟩ := tab_cells hblk1
  clear h hblk1 hs1
  go_enter Try.func29, Try.ntmps29
  go_wp2_with fail
  refine i1.out.mono ?_
  rintro e w2 ⟨rfl, hb2⟩
  go_wp2_with fail
  go_ret
  exact ⟨rfl, bel_trans hb1 hb2⟩
set_option maxHeartbeats 2000000 in
theorem channels_dst_any (t : TabS) (a : TabA) (p : Int) (w : World) (h : TabOk w t a) :
    Calls Try.prog 44 #[tabV t a, .int .i64 p, .func (Fn.func 46) #[] #[]] w fun e w' => e = .returned (.int .i64 (chansB ChanS.dst t p : Nat)) ∧ Below w.heap.size w w' := by
  obtain ⟨A1, k1, A2, k2, A3, k3⟩ := a
  obtain ⟨w1, hw1, hb1, hblk1, hs1⟩ := tab_box t ⟨A1, k1, A2, k2, A3, k3⟩ w
  simp only [tabV] at hw1 ⊢
  have h1 := h.belowS hb1
  have hn1 := h.n1
  have HC := hid (show chansB ChanS.dst t p = if rightB t && hasB t p then maskC ChanS.dst p t.chans else 0 from rfl)
  have i1 := hid (right_any t ⟨A1, k1, A2, k2, A3, k3⟩ w1 h1)
  have i2 := hid (fun w => compHas_any t ⟨A1, k1, A2, k2, A3, k3⟩ p w hn1)
  have HN := hid (fun hR => ((rightB_iff t).1 hR).c4)
  have HIN := hid (fun w' (hb : Below w.heap.size w w') => (h.inn.belowS hb).2.2)
  simp only [tabV] at i1 i2
  generalize rightB t = r1 at *
  generalize hasB t p = r2 at *
  generalize chansB ChanS.dst t p = R at HC ⊢
  obtain ⟨c0, c1, c2, c3, c4⟩ := tab_cells hblk1
  clear h h1 hs1
  cases r1 with
  | false =>
    have hR : R = 0 := by rw [HC.out]; rfl
    subst hR
    clear hblk1
    go_enter Try.func44, Try.ntmps44
    go_wp2_with fail
    refine i1.out.mono ?_
    rintro e w2 ⟨rfl, hb2⟩
    go_wp2_with fail
    go_ret
    exact ⟨rfl, bel_trans hb1 hb2⟩
  | true =>
    go_enter Try.func44, Try.ntmps44
    go_wp2_with fail
    refine i1.out.mono ?_
    rintro e w2 ⟨rfl, hb2⟩
    have hblk2 := hblk1.belowS hb2
    have hb02 := bel_trans hb1 hb2
    clear c0 c1 c2 c3 c4 hblk1 i1
    obtain ⟨c0, c1, c2, c3, c4⟩ := tab_cells hblk2
    go_wp2_with fail
    refine (i2.out _).mono ?_
    rintro e w3 ⟨rfl, hb3⟩
    have hblk3 := hblk2.belowS hb3
    have hb03 := bel_trans hb02 hb3
    clear c0 c1 c2 c3 c4 hblk2 i2
    obtain ⟨c0, c1, c2, c3, c4⟩ := tab_cells hblk3
    cases r2 with
    | false =>
      have hR : R = 0 := by rw [HC.out]; rfl
      subst hR
      clear hblk3
      go_wp2_with fail
      go_ret
      exact ⟨rfl, hb03⟩
    | true =>
      have HR : Hid (R = maskC ChanS.dst p t.chans) := hid (by rw [HC.out]; rfl)
      have hn4 := HN.out trivial
      clear HC HN hb2 hb3 hb02 hb1
      have hbz := hblk3.lt
      go_wp2_with fail
      clear c0 c1 c2 c3 c4 hw1
      have HBL := hid hblk3
      have HB3 := hid hb03
      clear hblk3 hb03 hbz
      go_loopw [7, 8, 9, 22] (fun v7 _ _ v22 wr => ∃ (k m : Nat), k ≤ t.chans.length ∧ v22 = .int .i64 (k : Int) ∧ v7 = .int .i64 (m : Int) ∧ Hid (m = maskC ChanS.dst p (t.chans.take k)) ∧ m < 2 ^ k ∧ Below w.heap.size w wr) (fun _ _ _ v22 _ => t.chans.length - (intOf v22).toNat)
      case atStart => exact ⟨0, 0, by omega, rfl, rfl, hid (by simp [maskC, endsB, maskL]), by omega, HB3.out⟩
      case round =>
        clear HB3 HBL
        obtain ⟨k, m, hk, rfl, rfl, HM, hmk, hbel⟩ := hrel
        by_cases hkn : k < t.chans.length
        · obtain ⟨ad, x, rfl, had, hx, hc0, hc⟩ := (HIN.out _ hbel).at_ hkn
          have d0 := hc0 _ rfl
          have d1 := hc 0 _ rfl
          have d2 := hc 1 _ rfl
          clear hc0 hc
          have HS : Hid (maskC ChanS.dst p (t.chans.take (k + 1)) = m + (x.dst == p).toNat * 2 ^ k) := hid (by
            rw [List.take_add_one, hx]
            show maskC ChanS.dst p (t.chans.take k ++ [x]) = _
            rw [maskC_snoc, ← HM.out, List.length_take, Nat.min_eq_left hk])
          have i3 := hid (recvs1_any x)
          obtain ⟨x0, x1, x2⟩ := x
          simp only at d0 d1 d2 HS i3
          clear hx HM
          by_cases he : x1 = p
          · have y0 : (x1 == p) = true := by simpa using he
            rw [y0] at HS
            clear y0
            subst he
            have y0 : (x1 == x1) = true := by simp
            go_wp2_with fail
            refine (i3.out _).mono ?_
            rintro e w4 ⟨rfl, hb4⟩
            go_wp2_with fail

            go_roundw
            case rel => exact ⟨k + 1, m + 2 ^ k, by omega, by go_num, or_step k m (by omega) hmk, hid (by rw [HS.out]; simp), by rw [Nat.pow_succ]; omega, bel_trans (bel_alloc hbel _) hb4⟩
            case measure => simp [intOf]; omega
          · have y0 : (x1 == p) = false := by simpa using he
            rw [y0] at HS
            clear he
            go_wp2_with fail
            refine (i3.out _).mono ?_
            rintro e w4 ⟨rfl, hb4⟩
            go_wp2_with fail
            go_roundw
            case rel => exact ⟨k + 1, m, by omega, by go_num, rfl, hid (by rw [HS.out]; simp), by rw [Nat.pow_succ]; omega, bel_trans (bel_alloc hbel _) hb4⟩
            case measure => simp [intOf]; omega
        · obtain rfl : k = t.chans.length := by omega
          have hm : m = R := by rw [HM.out, HR.out, List.take_length]
          subst hm
          go_wp2_with fail
          go_ret
          exact ⟨rfl, hbel⟩
theorem receives_any (t : TabS) (a : TabA) (p : Int) (w : World) (h : TabOk w t a) :
    Calls Try.prog 30 #[tabV t a, .int .i64 p] w fun e w' => e = .returned (.int .i64 (chansB ChanS.dst t p : Nat)) ∧ Below w.heap.size w w' := by
  obtain ⟨w1, hw1, hb1, hblk1, hs1⟩ := tab_box t a w
  have i1 := hid (channels_dst_any t a p w1 (h.belowS hb1))
  generalize chansB ChanS.dst t p = R at i1 ⊢
  simp only [tabV] at i1 hw1 ⊢
  obtain ⟨c0, c1, c2, c3, c4⟩ := tab_cells hblk1
  clear h hblk1 hs1
  go_enter Try.func30, Try.ntmps30
  go_wp2_with fail
  refine i1.out.mono ?_
  rintro e w2 ⟨rfl, hb2⟩
  go_wp2_with fail
  go_ret
  exact ⟨rfl, bel_trans hb1 hb2⟩

end Go.Proofs.Ythnifgcoikmihaa
