/-
  Package sched: At, Next; law 22's example.
-/
import Derived.Test.YtbnodcenlggcnaaSchedAt
import Derived.Test.YtbnodcenlggcnaaTabShares
import Derived.Test.YtbnodcenlggcnaaRefRight
namespace Go.Proofs.Ytbnodcenlggcnaa
open Go.RowKit

/-- The zero of a moment. -/
def atZ : Value := .agg #[.int .i64 0, .int .i64 0, .int .i64 0, .int .i64 0, .bool false, .bool false]
theorem when_in (w : World) : ∃ w' : World, w.alloc (.cells #[.int .i64 0, .int .i64 0, .int .i64 0, .int .i64 0, .bool false, .bool false] 43) = w' ∧ Below w.heap.size w w' ∧ Blk w' w.heap.size 43 (whenC 0 0 0 0 false false) ∧ w'.heap.size = w.heap.size + 1 := ⟨_, rfl, (Below.refl _ _).alloc (Nat.le_refl _) _, Blk.new w _ (whenC 0 0 0 0 false false), by simp⟩
set_option maxRecDepth 100000 in
set_option maxHeartbeats 1000000 in
theorem At_bad (t : TabS) (a : TabA) (tick : Int) (w : World) (h : TabOk w t a) (hR : rightB t = false) :
    Calls Try.prog 28 #[.agg #[.int .i64 t.frame, .slice a.A1 t.parts.length a.c1, .slice a.A2 t.wins.length a.c2, .slice a.A3 t.chans.length a.c3, .int .i64 t.trial], .int .i64 tick] w fun e w' => e = .returned (.tuple #[atZ, .int .i64 9]) ∧ Below w.heap.size w w' := by
  obtain ⟨A1, k1, A2, k2, A3, k3⟩ := a
  simp only
  obtain ⟨w1, hw1, hb0, hblk0, hs1⟩ := tab_in t ⟨A1, k1, A2, k2, A3, k3⟩ w
  simp only at hw1
  obtain ⟨w2, hw2, hb2, hrb, hs2⟩ := when_in w1
  have i1 := hid (right_any t ⟨A1, k1, A2, k2, A3, k3⟩ w2 ((h.belowS hb0).belowS hb2))
  simp only at i1
  rw [hR] at i1
  have hblk2 := hblk0.belowS hb2
  obtain ⟨c0, c1, c2, c3, c4⟩ := tab_cells hblk2
  simp only at c0 c1 c2 c3 c4
  have hbb := hid (bel_trans hb0 hb2)
  clear h hR hblk0 hb0 hb2
  go_enter Try.func28, Try.ntmps28
  go_wp2_with fail
  clear hw1 hw2
  refine i1.out.mono ?_
  rintro e w3 ⟨rfl, hb3⟩
  rw [← hs1]
  have hrb3 := hid (hrb.belowS hb3)
  have hrb4 := hrb3.out
  obtain ⟨r0, r1, r2, r3, r4, r5⟩ : _ ∧ _ ∧ _ ∧ _ ∧ _ ∧ _ := ⟨hrb4.cellAt (i := 0) rfl, hrb4.cellAt (i := 1) rfl, hrb4.cellAt (i := 2) rfl, hrb4.cellAt (i := 3) rfl, hrb4.cellAt (i := 4) rfl, hrb4.cellAt (i := 5) rfl⟩
  obtain ⟨s0, s1, s2, s3, s4, s5⟩ : _ ∧ _ ∧ _ ∧ _ ∧ _ ∧ _ := ⟨hrb4.frozen 0, hrb4.frozen 1, hrb4.frozen 2, hrb4.frozen 3, hrb4.frozen 4, hrb4.frozen 5⟩
  have hb13 := hid (bel_trans hbb.out hb3)
  have hlt : w.heap.size ≤ w1.heap.size := by omega
  clear hs1 hs2 hrb hblk2 c0 c1 c2 c3 c4 hb3 hrb4
  generalize w1.heap.size = rb at *
  go_wp2_with fail
  obtain ⟨w6, hw6, hb6, hr6⟩ := store6 hrb3.out rfl (.int .i64 0) (.int .i64 0) (.int .i64 0) (.int .i64 0) (.bool false) (.bool false)
  rw [hw6]
  clear hw6 r0 r1 r2 r3 r4 r5 s0 s1 s2 s3 s4 s5
  obtain ⟨r0, r1, r2, r3, r4, r5⟩ : _ ∧ _ ∧ _ ∧ _ ∧ _ ∧ _ := ⟨hr6.cellAt (i := 0) rfl, hr6.cellAt (i := 1) rfl, hr6.cellAt (i := 2) rfl, hr6.cellAt (i := 3) rfl, hr6.cellAt (i := 4) rfl, hr6.cellAt (i := 5) rfl⟩
  refine bodyPost_ret (v := .tuple #[.agg #[.int .i64 0, .int .i64 0, .int .i64 0, .int .i64 0, .bool false, .bool false], .int .i64 9]) (by simp [results, Try.results28, go_sem, r0, r1, r2, r3, r4, r5]) rfl ?_
  exact ⟨rfl, hb13.out.trans (hb6.mono (by omega))⟩
set_option maxRecDepth 100000 in
set_option maxHeartbeats 1000000 in
theorem At_neg (t : TabS) (a : TabA) (tick : Int) (w : World) (h : TabOk w t a) (hR : rightB t = true) (ht : tick < 0) :
    Calls Try.prog 28 #[.agg #[.int .i64 t.frame, .slice a.A1 t.parts.length a.c1, .slice a.A2 t.wins.length a.c2, .slice a.A3 t.chans.length a.c3, .int .i64 t.trial], .int .i64 tick] w fun e w' => e = .returned (.tuple #[atZ, .int .i64 3]) ∧ Below w.heap.size w w' := by
  obtain ⟨A1, k1, A2, k2, A3, k3⟩ := a
  simp only
  obtain ⟨w1, hw1, hb0, hblk0, hs1⟩ := tab_in t ⟨A1, k1, A2, k2, A3, k3⟩ w
  simp only at hw1
  obtain ⟨w2, hw2, hb2, hrb, hs2⟩ := when_in w1
  have i1 := hid (right_any t ⟨A1, k1, A2, k2, A3, k3⟩ w2 ((h.belowS hb0).belowS hb2))
  simp only at i1
  rw [hR] at i1
  have hblk2 := hblk0.belowS hb2
  obtain ⟨c0, c1, c2, c3, c4⟩ := tab_cells hblk2
  simp only at c0 c1 c2 c3 c4
  have hbb := hid (bel_trans hb0 hb2)
  clear h hR hblk0 hb0 hb2
  go_enter Try.func28, Try.ntmps28
  go_wp2_with fail
  clear hw1 hw2
  refine i1.out.mono ?_
  rintro e w3 ⟨rfl, hb3⟩
  rw [← hs1]
  have hrb3 := hid (hrb.belowS hb3)
  have hrb4 := hrb3.out
  obtain ⟨r0, r1, r2, r3, r4, r5⟩ : _ ∧ _ ∧ _ ∧ _ ∧ _ ∧ _ := ⟨hrb4.cellAt (i := 0) rfl, hrb4.cellAt (i := 1) rfl, hrb4.cellAt (i := 2) rfl, hrb4.cellAt (i := 3) rfl, hrb4.cellAt (i := 4) rfl, hrb4.cellAt (i := 5) rfl⟩
  obtain ⟨s0, s1, s2, s3, s4, s5⟩ : _ ∧ _ ∧ _ ∧ _ ∧ _ ∧ _ := ⟨hrb4.frozen 0, hrb4.frozen 1, hrb4.frozen 2, hrb4.frozen 3, hrb4.frozen 4, hrb4.frozen 5⟩
  have hb13 := hid (bel_trans hbb.out hb3)
  have hlt : w.heap.size ≤ w1.heap.size := by omega
  clear hs1 hs2 hrb hblk2 c0 c1 c2 c3 c4 hb3 hrb4
  generalize w1.heap.size = rb at *
  go_wp2_with fail
  obtain ⟨w6, hw6, hb6, hr6⟩ := store6 hrb3.out rfl (.int .i64 0) (.int .i64 0) (.int .i64 0) (.int .i64 0) (.bool false) (.bool false)
  rw [hw6]
  clear hw6 r0 r1 r2 r3 r4 r5 s0 s1 s2 s3 s4 s5
  obtain ⟨r0, r1, r2, r3, r4, r5⟩ : _ ∧ _ ∧ _ ∧ _ ∧ _ ∧ _ := ⟨hr6.cellAt (i := 0) rfl, hr6.cellAt (i := 1) rfl, hr6.cellAt (i := 2) rfl, hr6.cellAt (i := 3) rfl, hr6.cellAt (i := 4) rfl, hr6.cellAt (i := 5) rfl⟩
  refine bodyPost_ret (v := .tuple #[.agg #[.int .i64 0, .int .i64 0, .int .i64 0, .int .i64 0, .bool false, .bool false], .int .i64 3]) (by simp [results, Try.results28, go_sem, r0, r1, r2, r3, r4, r5]) rfl ?_
  exact ⟨rfl, hb13.out.trans (hb6.mono (by omega))⟩
set_option maxRecDepth 100000 in
set_option maxHeartbeats 1000000 in
theorem At_ok (t : TabS) (a : TabA) (F T : Nat) (hF : t.frame = (F : Int)) (hT : T ≤ 9223372036854775807) (w : World) (h : TabOk w t a) (hR : RightT t) :
    Calls Try.prog 28 #[.agg #[.int .i64 t.frame, .slice a.A1 t.parts.length a.c1, .slice a.A2 t.wins.length a.c2, .slice a.A3 t.chans.length a.c3, .int .i64 t.trial], .int .i64 (T : Int)] w fun e w' => e = .returned (.tuple #[atV t F T, .int .i64 0]) ∧ Below w.heap.size w w' := by
  obtain ⟨A1, k1, A2, k2, A3, k3⟩ := a
  simp only
  obtain ⟨w1, hw1, hb0, hblk0, hs1⟩ := tab_in t ⟨A1, k1, A2, k2, A3, k3⟩ w
  simp only at hw1
  obtain ⟨w2, hw2, hb2, hrb, hs2⟩ := when_in w1
  have i1 := hid (right_any t ⟨A1, k1, A2, k2, A3, k3⟩ w2 ((h.belowS hb0).belowS hb2))
  simp only at i1
  rw [(rightB_iff t).2 hR] at i1
  have i2 := hid (fun w' hb => at_any t ⟨A1, k1, A2, k2, A3, k3⟩ F T hF hT w' (((h.belowS hb0).belowS hb2).belowS (w' := w') hb) hR)
  simp only at i2
  unfold atV at i2 ⊢
  have ht0 : decide ((T : Int) < 0) = false := decide_eq_false (by omega)
  have hblk2 := hblk0.belowS hb2
  obtain ⟨c0, c1, c2, c3, c4⟩ := tab_cells hblk2
  simp only at c0 c1 c2 c3 c4
  have hbb := hid (bel_trans hb0 hb2)
  clear h hR hblk0 hb0 hb2 hF
  go_enter Try.func28, Try.ntmps28
  go_wp2_with fail
  clear hw1 hw2
  refine i1.out.mono ?_
  rintro e w3 ⟨rfl, hb3⟩
  rw [← hs1]
  have hrb3 := hrb.belowS hb3
  have hb13 := hid (bel_trans hbb.out hb3)
  have hlt : w.heap.size ≤ w1.heap.size := by omega
  have hblk3 := hblk2.belowS hb3
  clear c0 c1 c2 c3 c4
  obtain ⟨c0, c1, c2, c3, c4⟩ := tab_cells hblk3
  simp only at c0 c1 c2 c3 c4
  have i3 := hid (i2.out w3 hb3)
  clear hs1 hs2 hrb hblk2 hb3 i2
  generalize w1.heap.size = rb at *
  generalize hD : T / F = D at i3
  have HD := hid hD
  clear hD
  generalize hM : T % F = M at i3
  have HM := hid hM
  clear hM
  generalize hI : idxB (posB (M : Int)) t.wins = I at i3
  have HI := hid hI
  clear hI
  generalize hpa : partL t.wins (M : Int) = pa at i3
  have HP := hid hpa
  clear hpa
  generalize hst : startL t.wins (M : Int) = st at i3
  have HS := hid hst
  clear hst
  go_wp2_with fail
  refine i3.out.mono ?_
  rintro e w4 ⟨rfl, hb4⟩
  have hrb4 := hrb3.belowS hb4
  have hrb5 := hid hrb4
  have hb14 := hid (bel_trans hb13.out hb4)
  obtain ⟨r0, r1, r2, r3, r4, r5⟩ : _ ∧ _ ∧ _ ∧ _ ∧ _ ∧ _ := ⟨hrb4.cellAt (i := 0) rfl, hrb4.cellAt (i := 1) rfl, hrb4.cellAt (i := 2) rfl, hrb4.cellAt (i := 3) rfl, hrb4.cellAt (i := 4) rfl, hrb4.cellAt (i := 5) rfl⟩
  obtain ⟨s0, s1, s2, s3, s4, s5⟩ : _ ∧ _ ∧ _ ∧ _ ∧ _ ∧ _ := ⟨hrb4.frozen 0, hrb4.frozen 1, hrb4.frozen 2, hrb4.frozen 3, hrb4.frozen 4, hrb4.frozen 5⟩
  clear hrb4 hrb3 hb4 hblk3 c0 c1 c2 c3 c4
  go_wp2_with fail
  obtain ⟨w6, hw6, hb6, hr6⟩ := store6 hrb5.out rfl (.int .i64 (D : Int)) (.int .i64 (M : Int)) (.int .i64 I) (.int .i64 pa) (.bool ((M : Int) == 0)) (.bool st)
  rw [hw6]
  clear hw6 r0 r1 r2 r3 r4 r5 s0 s1 s2 s3 s4 s5
  obtain ⟨r0, r1, r2, r3, r4, r5⟩ : _ ∧ _ ∧ _ ∧ _ ∧ _ ∧ _ := ⟨hr6.cellAt (i := 0) rfl, hr6.cellAt (i := 1) rfl, hr6.cellAt (i := 2) rfl, hr6.cellAt (i := 3) rfl, hr6.cellAt (i := 4) rfl, hr6.cellAt (i := 5) rfl⟩
  refine bodyPost_ret (v := .tuple #[.agg #[.int .i64 (D : Int), .int .i64 (M : Int), .int .i64 I, .int .i64 pa, .bool ((M : Int) == 0), .bool st], .int .i64 0]) (by simp [results, Try.results28, go_sem, r0, r1, r2, r3, r4, r5]) rfl ?_
  exact ⟨by rw [HD.out, HM.out, HI.out, HP.out, HS.out], hb14.out.trans (hb6.mono (by omega))⟩
theorem field_when (v0 v1 v2 v3 : Int) (b c : Bool) (w : World) : (Instr.field 43 (.agg #[.int .i64 v0, .int .i64 v1, .int .i64 v2, .int .i64 v3, .bool b, .bool c]) 3).run Try.prog w = .ok (.int .i64 v3) w := by kernel_rfl
/-- The next tick of a partition. -/
def NextOk (l : List WinS) (F : Nat) (p : Int) (T n : Nat) : Prop := T ≤ n ∧ n < T + F ∧ partL l ((n % F : Nat) : Int) = p ∧ ∀ j, T ≤ j → j < n → partL l ((j % F : Nat) : Int) ≠ p
theorem next_ex {t : TabS} (h : RightT t) {F : Nat} (hF : t.frame = (F : Int)) {p : Int} (hs : 0 < shareL p t.wins) (T : Nat) : ∃ n, T ≤ n ∧ n < T + F ∧ partL t.wins ((n % F : Nat) : Int) = p := by
  have hc := cnt_share t p t.wins 0 F h.ws (by omega)
  obtain ⟨i, h1, h2, h3⟩ := cntZ_pos (f := hitB p t.wins) F 0 (by omega)
  obtain ⟨m, rfl⟩ : ∃ m : Nat, i = m := ⟨i.toNat, by omega⟩
  have hp : partL t.wins (m : Int) = p := by
    unfold hitB at h3
    unfold partL
    cases hf : t.wins.find? (posB (m : Int)) with
    | none => rw [hf] at h3; cases h3
    | some w => rw [hf] at h3; simpa using h3
  have hmF : m < F := by omega
  by_cases hle : T % F ≤ m
  · refine ⟨T - T % F + m, by have := Nat.mod_le T F; omega, by have := Nat.mod_le T F; omega, ?_⟩
    have : (T - T % F + m) % F = m := by
      have h4 : T - T % F = F * (T / F) := by have := Nat.div_add_mod T F; omega
      rw [h4, Nat.mul_add_mod, Nat.mod_eq_of_lt hmF]
    rw [this]
    exact hp
  · have hml := Nat.mod_lt T (show 0 < F by omega)
    refine ⟨T - T % F + F + m, by have := Nat.mod_le T F; omega, by have := Nat.mod_le T F; omega, ?_⟩
    have : (T - T % F + F + m) % F = m := by
      have h4 : T - T % F + F = F * (T / F + 1) := by have := Nat.div_add_mod T F; rw [Nat.mul_add]; omega
      rw [h4, Nat.mul_add_mod, Nat.mod_eq_of_lt hmF]
    rw [this]
    exact hp
set_option maxRecDepth 100000 in
set_option maxHeartbeats 1000000 in
theorem Next_no (t : TabS) (a : TabA) (p tick : Int) (w : World) (h : TabOk w t a) (hs : shareB t p = 0) :
    Calls Try.prog 32 #[.agg #[.int .i64 t.frame, .slice a.A1 t.parts.length a.c1, .slice a.A2 t.wins.length a.c2, .slice a.A3 t.chans.length a.c3, .int .i64 t.trial], .int .i64 p, .int .i64 tick] w fun e w' => e = .returned (.tuple #[.int .i64 0, .bool false]) ∧ Below w.heap.size w w' := by
  obtain ⟨A1, k1, A2, k2, A3, k3⟩ := a
  simp only
  obtain ⟨w1, hw1, hb0, hblk0, hs1⟩ := tab_in t ⟨A1, k1, A2, k2, A3, k3⟩ w
  simp only at hw1
  have i1 := hid (share_any t ⟨A1, k1, A2, k2, A3, k3⟩ p w1 (h.belowS hb0))
  simp only at i1
  rw [hs] at i1
  obtain ⟨c0, c1, c2, c3, c4⟩ := tab_cells hblk0
  simp only at c0 c1 c2 c3 c4
  clear h hs
  go_enter Try.func32, Try.ntmps32
  go_wp2_with fail
  clear hw1 hs1
  refine i1.out.mono ?_
  rintro e w2 ⟨rfl, hb2⟩
  go_wp2_with fail
  go_ret2
  exact ⟨rfl, bel_trans hb0 hb2⟩
set_option maxRecDepth 100000 in
set_option maxHeartbeats 1000000 in
theorem Next_yes (t : TabS) (a : TabA) (p : Int) (F T : Nat) (hF : t.frame = (F : Int)) (hT : T ≤ 1000000) (w : World) (h : TabOk w t a) (hR : RightT t) (hs : shareB t p ≠ 0) :
    Calls Try.prog 32 #[.agg #[.int .i64 t.frame, .slice a.A1 t.parts.length a.c1, .slice a.A2 t.wins.length a.c2, .slice a.A3 t.chans.length a.c3, .int .i64 t.trial], .int .i64 p, .int .i64 (T : Int)] w fun e w' => ∃ n, NextOk t.wins F p T n ∧ e = .returned (.tuple #[.int .i64 (n : Int), .bool true]) ∧ Below w.heap.size w w' := by
  obtain ⟨A1, k1, A2, k2, A3, k3⟩ := a
  simp only
  obtain ⟨w1, hw1, hb0, hblk0, hs1⟩ := tab_in t ⟨A1, k1, A2, k2, A3, k3⟩ w
  simp only at hw1
  have hsl : shareB t p = shareL p t.wins := by unfold shareB; rw [if_pos ((rightB_iff t).2 hR)]
  have hpos : 0 < shareL p t.wins := by
    have := share_nonneg p t.wins (fun w hw => (hR.win w hw).2.2.2.1)
    omega
  obtain ⟨n0, hn1, hn2, hn3⟩ := next_ex hR hF hpos T
  have hf2 := hR.f2
  have hF64 : F ≤ 64 := by omega
  have i1 := hid (share_any t ⟨A1, k1, A2, k2, A3, k3⟩ p w1 (h.belowS hb0))
  have HT := hid (h.belowS hb0)
  have i2 := hid (fun (k : Nat) (hk : k ≤ 9223372036854775807) w' hb => at_any t ⟨A1, k1, A2, k2, A3, k3⟩ F k hF hk w' (HT.out.belowS (w' := w') hb) hR)
  simp only at i1 i2
  unfold atV at i2
  have hse : ((shareB t p) == 0) = false := by simpa using hs
  generalize shareB t p = sh at *
  obtain ⟨c0, c1, c2, c3, c4⟩ := tab_cells hblk0
  simp only at c0 c1 c2 c3 c4
  have HN := hid hn3
  have hmx : (if (T : Int) < 0 then (0 : Int) else (T : Int)) = (T : Int) := if_neg (by omega)
  have hmn : (if (1099511627776 : Int) < (T : Int) then (1099511627776 : Int) else (T : Int)) = (T : Int) := if_neg (by omega)
  clear h hs hsl hpos hR hF hf2 hn3
  go_enter Try.func32, Try.ntmps32
  go_wp2_with fail
  clear hw1 hs1
  refine i1.out.mono ?_
  rintro e w2 ⟨rfl, hb2⟩
  clear c0 c1 c2 c3 c4
  have hblk2 := hblk0.belowS hb2
  go_wp2_with fail
  have hb02 := hid (bel_trans hb0 hb2)
  clear hmx hmn
  go_loopw [2] (fun v2 wr => ∃ k : Nat, T ≤ k ∧ k ≤ n0 ∧ v2 = .int .i64 (k : Int) ∧ Hid (∀ j, T ≤ j → j < k → partL t.wins ((j % F : Nat) : Int) ≠ p) ∧ Below w2.heap.size w2 wr) (fun v2 _ => n0 - (intOf v2).toNat)
  case atStart => exact ⟨T, by omega, by omega, rfl, by refine hid (fun j h1 h2 => ?_); omega, Below.refl _ _⟩
  case round =>
    obtain ⟨k, hk1, hk2, rfl, HK, hbel⟩ := hrel
    have hblk3 := hblk2.belowS hbel
    obtain ⟨c0, c1, c2, c3, c4⟩ := tab_cells hblk3
    simp only at c0 c1 c2 c3 c4
    have i3 := hid (i2.out k (by omega) wr (bel_trans hb2 hbel))
    have hfd := field_when
    have hNk : Hid (partL t.wins ((k % F : Nat) : Int) ≠ p → k ≠ n0) := hid (fun h e => h (by rw [e]; exact HN.out))
    have hKn : Hid (partL t.wins ((k % F : Nat) : Int) ≠ p → Hid (∀ j, T ≤ j → j < k + 1 → partL t.wins ((j % F : Nat) : Int) ≠ p)) := hid (fun h => hid (fun j h1 h2 => if hj : j = k then by rw [hj]; exact h else HK.out j h1 (by omega)))
    have hNx : Hid (partL t.wins ((k % F : Nat) : Int) = p → NextOk t.wins F p T k) := hid (fun h => ⟨hk1, by omega, h, HK.out⟩)
    generalize idxB (posB ((k % F : Nat) : Int)) t.wins = I at i3
    generalize startL t.wins ((k % F : Nat) : Int) = st at i3
    generalize partL t.wins ((k % F : Nat) : Int) = pa at i3 hNk hKn hNx
    generalize k % F = M at i3
    generalize k / F = D at i3
    clear hblk3
    by_cases hp : pa = p
    · have hfin := hid (hNx.out hp)
      have hpe : (pa != p) = false := by simp [hp]
      subst hp
      go_wp2_with fail
      refine i3.out.mono ?_
      rintro e w3 ⟨rfl, hb3⟩
      go_wp2_with fail
      go_ret2
      exact ⟨k, hfin.out, rfl, bel_trans (bel_trans hb02.out hbel) hb3⟩
    · have hkn := hNk.out hp
      have hKK := hKn.out hp
      have hpe : (pa != p) = true := by simp [hp]
      clear hp
      go_wp2_with fail
      refine i3.out.mono ?_
      rintro e w3 ⟨rfl, hb3⟩
      clear c0 c1 c2 c3 c4
      go_wp2_with fail
      go_roundw
      case rel => exact ⟨k + 1, by omega, by omega, by go_num, hKK, bel_trans hbel hb3⟩
      case measure => simp [intOf]; omega
end Go.Proofs.Ytbnodcenlggcnaa
