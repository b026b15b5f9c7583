/-
  sched.Until: the tick by which a partition has run so often, of a right table; nothing of a partition without a share.
-/
import Derived.Test.YtbnodcenlggcnaaSched
namespace Go.Proofs.Ytbnodcenlggcnaa
open Go.RowKit Go.ChangeShapes Go.WideShapes Go.ChangeAt

/-- How often the partition runs in the m ticks from T on. -/
def ranN (l : List WinS) (F : Nat) (p : Int) (T : Nat) : Nat → Nat
  | 0 => 0
  | m + 1 => ranN l F p T m + if partL l (((T + m) % F : Nat) : Int) = p then 1 else 0
theorem ranN_quiet {l : List WinS} {F : Nat} {p : Int} {T m : Nat} : ∀ d, (∀ j, T + m ≤ j → j < T + m + d → partL l ((j % F : Nat) : Int) ≠ p) → ranN l F p T (m + d) = ranN l F p T m
  | 0, _ => rfl
  | d + 1, h => by
    rw [← Nat.add_assoc]
    show ranN l F p T (m + d) + (if partL l (((T + (m + d)) % F : Nat) : Int) = p then 1 else 0) = _
    rw [if_neg (h _ (by omega) (by omega)), ranN_quiet d (fun j h1 h2 => h j h1 (by omega)), Nat.add_zero]
theorem ranN_next {l : List WinS} {F : Nat} {p : Int} {T D n : Nat} (hD : T ≤ D) (h : NextOk l F p D n) : ranN l F p T (n + 1 - T) = ranN l F p T (D - T) + 1 := by
  obtain ⟨h1, h2, h3, h4⟩ := h
  have hq := ranN_quiet (l := l) (F := F) (p := p) (T := T) (m := D - T) (n - D) (fun j a b => h4 j (by omega) (by omega))
  have e : n + 1 - T = (D - T + (n - D)) + 1 := by omega
  rw [e]
  show ranN l F p T (D - T + (n - D)) + (if partL l (((T + (D - T + (n - D))) % F : Nat) : Int) = p then 1 else 0) = _
  rw [hq, if_pos (by rw [show T + (D - T + (n - D)) = n by omega]; exact h3)]
theorem ranN_le (l : List WinS) (F : Nat) (p : Int) (T : Nat) : ∀ m, ranN l F p T m ≤ m
  | 0 => Nat.le_refl _
  | m + 1 => by
    have := ranN_le l F p T m
    show ranN l F p T m + (if _ then 1 else 0) ≤ m + 1
    split <;> omega
def UntilOk (l : List WinS) (F : Nat) (p : Int) (T N D : Nat) : Prop := T < D ∧ D ≤ T + N * F ∧ ranN l F p T (D - T) = N ∧ partL l (((D - 1) % F : Nat) : Int) = p

theorem Until_no (t : TabS) (a : TabA) (p tick : Int) (N : Nat) (hN1 : 1 ≤ N) (hN2 : N ≤ 50) (w : World) (h : TabOk w t a) (hs : shareB t p = 0) :
    Calls Try.prog 33 #[.agg #[.int .i64 t.frame, .slice a.A1 t.parts.length a.c1, .slice a.A2 t.wins.length a.c2, .slice a.A3 t.chans.length a.c3, .int .i64 t.trial], .int .i64 p, .int .i64 tick, .int .i64 (N : Int)] w fun e w' => e = .returned (.tuple #[.int .i64 0, .bool false]) ∧ Below w.heap.size w w' := by
  obtain ⟨A1, k1, A2, k2, A3, k3⟩ := a
  simp only
  obtain ⟨w1, hw1, hb0, hblk0, hs1⟩ := tab_in t ⟨A1, k1, A2, k2, A3, k3⟩ w
  simp only at hw1
  have HT := hid (h.belowS hb0)
  have i1 := hid (fun w' hb => Next_no t ⟨A1, k1, A2, k2, A3, k3⟩ p tick w' (HT.out.belowS (w' := w') hb) hs)
  simp only at i1
  have hmx : (if (N : Int) < 1 then (1 : Int) else (N : Int)) = (N : Int) := if_neg (by omega)
  have hmn : (if (1000 : Int) < (N : Int) then (1000 : Int) else (N : Int)) = (N : Int) := if_neg (by omega)
  clear h hs
  go_enter Try.func33, Try.ntmps33
  go_wp2_with fail
  clear hw1 hs1 hmx hmn
  go_loopw [2, 10, 14] (fun v2 v10 v14 wr => v2 = .int .i64 tick ∧ v10 = .bool false ∧ v14 = .int .i64 0 ∧ wr = w1) (fun _ _ _ _ => 0)
  case atStart => exact ⟨rfl, rfl, rfl, by first | trivial | rfl⟩
  obtain ⟨rfl, rfl, rfl, hw⟩ := hrel
  have hgo : decide ((0 : Int) < (N : Int)) = true := decide_eq_true (by omega)
  obtain ⟨c0, c1, c2, c3, c4⟩ := tab_cells hblk0
  simp only at c0 c1 c2 c3 c4
  subst hw
  go_wp2_with fail
  refine (i1.out _ (Below.refl _ _)).mono ?_
  rintro e w2 ⟨rfl, hb2⟩
  clear c0 c1 c2 c3 c4
  go_wp2_with fail
  go_ret2
  exact ⟨rfl, bel_trans hb0 hb2⟩

set_option maxRecDepth 100000 in
set_option maxHeartbeats 1000000 in
theorem Until_yes (t : TabS) (a : TabA) (p : Int) (F T N : Nat) (hF : t.frame = (F : Int)) (hT : T ≤ 65535) (hN1 : 1 ≤ N) (hN2 : N ≤ 50) (w : World) (h : TabOk w t a) (hR : RightT t) (hs : shareB t p ≠ 0) :
    Calls Try.prog 33 #[.agg #[.int .i64 t.frame, .slice a.A1 t.parts.length a.c1, .slice a.A2 t.wins.length a.c2, .slice a.A3 t.chans.length a.c3, .int .i64 t.trial], .int .i64 p, .int .i64 (T : Int), .int .i64 (N : Int)] w fun e w' => ∃ D, UntilOk t.wins F p T N D ∧ e = .returned (.tuple #[.int .i64 (D : Int), .bool true]) ∧ Below w.heap.size w w' := by
  obtain ⟨A1, k1, A2, k2, A3, k3⟩ := a
  simp only
  obtain ⟨w1, hw1, hb0, hblk0, hs1⟩ := tab_in t ⟨A1, k1, A2, k2, A3, k3⟩ w
  simp only at hw1
  have hf2 := hR.f2
  have hF64 : F ≤ 64 := by omega
  have HT := hid (h.belowS hb0)
  have i1 := hid (fun (k : Nat) (hk : k ≤ 1000000) w' hb => Next_yes t ⟨A1, k1, A2, k2, A3, k3⟩ p F k hF hk w' (HT.out.belowS (w' := w') hb) hR hs)
  simp only at i1
  have hmx : (if (N : Int) < 1 then (1 : Int) else (N : Int)) = (N : Int) := if_neg (by omega)
  have hmn : (if (1000 : Int) < (N : Int) then (1000 : Int) else (N : Int)) = (N : Int) := if_neg (by omega)
  clear h hs hR hF hf2
  go_enter Try.func33, Try.ntmps33
  go_wp2_with fail
  clear hw1 hs1 hmx hmn
  go_loopw [2, 10, 14] (fun v2 v10 v14 wr => ∃ (i D : Nat) (b : Bool), i ≤ N ∧ v2 = .int .i64 (D : Int) ∧ v10 = .bool b ∧ v14 = .int .i64 (i : Int) ∧ Hid (T ≤ D ∧ D ≤ T + i * F ∧ ranN t.wins F p T (D - T) = i ∧ (0 < i → T < D ∧ partL t.wins (((D - 1) % F : Nat) : Int) = p)) ∧ Below w1.heap.size w1 wr) (fun _ _ v14 _ => N - (intOf v14).toNat)
  case atStart => exact ⟨0, T, false, by omega, rfl, rfl, rfl, hid ⟨by omega, by omega, by rw [Nat.sub_self]; rfl, fun h => absurd h (by omega)⟩, Below.refl _ _⟩
  case round =>
    obtain ⟨i, D, b, hi, rfl, rfl, rfl, HD, hbel⟩ := hrel
    by_cases hin : i < N
    · have hgo : decide ((i : Int) < (N : Int)) = true := decide_eq_true (by omega)
      have hblk3 := hblk0.belowS hbel
      obtain ⟨c0, c1, c2, c3, c4⟩ := tab_cells hblk3
      simp only at c0 c1 c2 c3 c4
      have hmul : i * F ≤ 50 * 64 := Nat.mul_le_mul (by omega) hF64
      have hD1 := HD.out.1
      have hD2 := HD.out.2.1
      have hDle : D ≤ 1000000 := by omega
      have i3 := hid (i1.out D hDle wr hbel)
      clear hblk3
      go_wp2_with fail
      refine i3.out.mono ?_
      rintro e w3 ⟨n, hn, rfl, hb3⟩
      have hn1 : D ≤ n := hn.1
      have hn2 : n < D + F := hn.2.1
      have HD2 : Hid (T ≤ n + 1 ∧ n + 1 ≤ T + (i + 1) * F ∧ ranN t.wins F p T (n + 1 - T) = i + 1 ∧ (0 < i + 1 → T < n + 1 ∧ partL t.wins (((n + 1 - 1) % F : Nat) : Int) = p)) := hid ⟨by omega, by rw [Nat.add_mul]; omega, by rw [ranN_next hD1 hn, HD.out.2.2.1], fun _ => ⟨by omega, by rw [Nat.add_sub_cancel]; exact hn.2.2.1⟩⟩
      clear c0 c1 c2 c3 c4 hn i3 hmul
      go_wp2_with fail
      go_roundw
      case rel => exact ⟨i + 1, n + 1, true, by omega, by go_num, rfl, by go_num, HD2, bel_trans hbel hb3⟩
      case measure => simp [intOf]; omega
    · obtain rfl : i = N := by omega
      have hgo : decide ((i : Int) < (i : Int)) = false := decide_eq_false (by omega)
      have hbf := hid (bel_trans hb0 hbel)
      have hfin : Hid (UntilOk t.wins F p T i D) := hid ⟨(HD.out.2.2.2 hN1).1, HD.out.2.1, HD.out.2.2.1, (HD.out.2.2.2 hN1).2⟩
      go_wp2_with fail
      go_ret2
      exact ⟨D, hfin.out, rfl, hbf.out⟩
end Go.Proofs.Ytbnodcenlggcnaa
