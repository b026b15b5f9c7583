/-
  Package sched: the ticks at which a partition's windows start.
-/
import Derived.Test.YtbnodcenlggcnaaSchedLater
namespace Go.Proofs.Ytbnodcenlggcnaa
open Go.RowKit

/-- Does a window of the partition start at the tick? -/
def stB (l : List WinS) (F : Nat) (p : Int) (T : Nat) : Bool := (partL l ((T % F : Nat) : Int) == p) && startL l ((T % F : Nat) : Int)
/-- The ticks, of n from a on, at which one does. -/
def stL (l : List WinS) (F : Nat) (p : Int) (a n : Nat) : List Int := ((List.range n).filter fun k => stB l F p (a + k)).map fun (k : Nat) => ((a : Int) + (k : Int))
theorem stL_succ (l : List WinS) (F : Nat) (p : Int) (a n : Nat) : stL l F p a (n + 1) = stL l F p a n ++ if stB l F p (a + n) then [(a : Int) + (n : Int)] else [] := by
  unfold stL
  rw [List.range_succ, List.filter_append, List.map_append]
  by_cases h : stB l F p (a + n) = true
  · simp [h]
  · simp [h]
theorem stL_len (l : List WinS) (F : Nat) (p : Int) (a n : Nat) : (stL l F p a n).length ≤ n := by
  unfold stL
  rw [List.length_map]
  have := List.length_filter_le (fun k => stB l F p (a + k)) (List.range n)
  simpa using this
theorem info_int : (Try.prog.info? 3).map (fun i => (i.zero, i.size, i.bytes)) = some (some (.int .i64 0), 1, 8) := by kernel_rfl
def hasP (t : TabS) (p : Int) : Bool := decide (0 ≤ p) && decide (p < (t.parts.length : Int))
set_option maxHeartbeats 1000000 in
theorem hasS_any (t : TabS) (a : TabA) (p : Int) (w : World) (hn : t.parts.length ≤ 100000) :
    Calls Try.prog 53 #[.agg #[.int .i64 t.frame, .slice a.A1 t.parts.length a.c1, .slice a.A2 t.wins.length a.c2, .slice a.A3 t.chans.length a.c3, .int .i64 t.trial], .int .i64 p] w fun e w' => e = .returned (.bool (hasP t p)) ∧ Below w.heap.size w w' := by
  obtain ⟨A1, k1, A2, k2, A3, k3⟩ := a
  simp only
  obtain ⟨w1, hw1, hb0, hblk0, hs1⟩ := tab_in t ⟨A1, k1, A2, k2, A3, k3⟩ w
  simp only at hw1
  obtain ⟨c0, c1, c2, c3, c4⟩ := tab_cells hblk0
  simp only at c0 c1 c2 c3 c4
  by_cases h1 : 0 ≤ p
  · have hd : decide (0 ≤ p) = true := decide_eq_true h1
    have hr : Hid (hasP t p = decide (p < (t.parts.length : Int))) := hid (by unfold hasP; rw [hd, Bool.true_and])
    go_enter Try.func53, Try.ntmps53
    go_wp2_with fail
    go_ret
    exact ⟨by rw [hr.out]; rfl, hb0⟩
  · have hd : decide (0 ≤ p) = false := decide_eq_false h1
    have hr : Hid (hasP t p = false) := hid (by unfold hasP; rw [hd, Bool.false_and])
    clear h1
    go_enter Try.func53, Try.ntmps53
    go_wp2_with fail
    go_ret
    exact ⟨by rw [hr.out]; rfl, hb0⟩
/-- append of an int to ints that the call made. -/
theorem appI {ops : Array Oper} {rest : List Oper} {o : Oper} {a : Act} {Q : Exit → Act → World → Prop} (w : World) (hgd : o.guard = none) (s x : Operand)
    (ho : o.op = .call { callee := .builtin .append, args := #[s, x], argTypes := #[35, 35] })
    (base : Nat) (A0 : Option Addr) (n c0 : Nat) (is : List Int) (v : Int) (hs : a.eval s = .slice A0 n c0) (hown : w.ownsRow base 3 1 (.slice A0 n c0) n (is.map iV))
    (G : Nat) (hG : w.heap.size = G) (hx : a.eval x = .slice (some ⟨G, 0, none⟩) 1 1) (hlim : n + 1 ≤ 1000000) (hbase : base ≤ w.heap.size) (N : Nat) (hN : n + 1 = N)
    (h : ∀ A' c' w', w'.ownsRow base 3 1 (.slice A' N c') N ((is ++ [v]).map iV) → Below base w w' → wpList Try.prog ops Q rest (a.put o.dst (.slice A' N c')) w') : wpList Try.prog ops Q (o :: rest) a (w.alloc (.cells #[.int .i64 v] 3)) := by
  obtain ⟨i0, hi0, hz0, hz1, hz2⟩ := info_parts info_int
  subst hN hG
  refine wpList_app _ hgd s x _ ho base 3 i0 _ 1 8 Try.underlying35 hi0 hz0 hz1 hz2 rfl (by decide) _ n (is.map iV) hs (hown.alloc _) (w.heap.size + 1) (some ⟨w.heap.size, 0, none⟩) 1 1 ([v].map iV) hx (Reads.new w #[.int .i64 v] _ 1 rfl) (oneCell_i [v]) (by simp [maxLen]; omega) (by omega) (by simp; omega) ?_
  intro A' c' w' h1 h2 _
  rw [← List.map_append] at h1
  exact h A' c' w' h1 (((Below.refl _ _).alloc hbase _).trans (below_own (Below.refl _ _) (hown.alloc _) h2 (Nat.le_refl _) (by simp; omega)))
set_option maxRecDepth 100000 in
set_option maxHeartbeats 1000000 in
theorem Starts_bad (t : TabS) (a : TabA) (p x y : Int) (w : World) (h : TabOk w t a) (hR : rightB t = false) :
    Calls Try.prog 34 #[.agg #[.int .i64 t.frame, .slice a.A1 t.parts.length a.c1, .slice a.A2 t.wins.length a.c2, .slice a.A3 t.chans.length a.c3, .int .i64 t.trial], .int .i64 p, .int .i64 x, .int .i64 y] w fun e w' => e = .returned (.tuple #[.slice none 0 0, .int .i64 9]) ∧ Below w.heap.size w w' := by
  obtain ⟨A1, k1, A2, k2, A3, k3⟩ := a
  simp only
  obtain ⟨w1, hw1, hb0, hblk0, hs1⟩ := tab_in t ⟨A1, k1, A2, k2, A3, k3⟩ w
  simp only at hw1
  have i1 := hid (right_any t ⟨A1, k1, A2, k2, A3, k3⟩ w1 (h.belowS hb0))
  simp only at i1
  rw [hR] at i1
  obtain ⟨c0, c1, c2, c3, c4⟩ := tab_cells hblk0
  simp only at c0 c1 c2 c3 c4
  clear h hR
  go_enter Try.func34, Try.ntmps34
  go_wp2_with fail
  clear hw1 hs1
  refine i1.out.mono ?_
  rintro e w2 ⟨rfl, hb2⟩
  go_wp2_with fail
  go_ret2
  exact ⟨rfl, bel_trans hb0 hb2⟩
/-- May it be asked? -/
def askB (t : TabS) (p x y : Int) : Bool := hasP t p && decide (0 ≤ x) && decide (x ≤ y) && decide (y - x ≤ 10000)
set_option maxRecDepth 100000 in
set_option maxHeartbeats 1000000 in
theorem Starts_range (t : TabS) (a : TabA) (p x y : Int) (hx : -9223372036854775808 ≤ x ∧ x ≤ 9223372036854775807) (hy : -9223372036854775808 ≤ y ∧ y ≤ 9223372036854775807) (w : World) (h : TabOk w t a) (hR : rightB t = true) (hA : askB t p x y = false) :
    Calls Try.prog 34 #[.agg #[.int .i64 t.frame, .slice a.A1 t.parts.length a.c1, .slice a.A2 t.wins.length a.c2, .slice a.A3 t.chans.length a.c3, .int .i64 t.trial], .int .i64 p, .int .i64 x, .int .i64 y] w fun e w' => e = .returned (.tuple #[.slice none 0 0, .int .i64 3]) ∧ Below w.heap.size w w' := by
  obtain ⟨A1, k1, A2, k2, A3, k3⟩ := a
  simp only
  obtain ⟨w1, hw1, hb0, hblk0, hs1⟩ := tab_in t ⟨A1, k1, A2, k2, A3, k3⟩ w
  simp only at hw1
  have i1 := hid (right_any t ⟨A1, k1, A2, k2, A3, k3⟩ w1 (h.belowS hb0))
  have i2 := hid (fun w' => hasS_any t ⟨A1, k1, A2, k2, A3, k3⟩ p w' h.n1)
  simp only at i1 i2
  rw [hR] at i1
  obtain ⟨c0, c1, c2, c3, c4⟩ := tab_cells hblk0
  simp only at c0 c1 c2 c3 c4
  unfold askB at hA
  generalize hasP t p = hp at hA i2
  clear h hR
  go_enter Try.func34, Try.ntmps34
  go_wp2_with fail
  clear hw1 hs1
  refine i1.out.mono ?_
  rintro e w2 ⟨rfl, hb2⟩
  have hb02 := bel_trans hb0 hb2
  have hblk2 := hblk0.belowS hb2
  clear c0 c1 c2 c3 c4
  obtain ⟨c0, c1, c2, c3, c4⟩ := tab_cells hblk2
  simp only at c0 c1 c2 c3 c4
  clear hblk0 hblk2
  go_wp2_with fail
  refine (i2.out _).mono ?_
  rintro e w3 ⟨rfl, hb3⟩
  have hb03 := bel_trans hb02 hb3
  cases hp with
  | false =>
    clear hA
    go_wp2_with fail
    go_ret2
    exact ⟨rfl, hb03⟩
  | true =>
    by_cases h1 : 0 ≤ x
    · have g1 : decide (x < 0) = false := decide_eq_false (by omega)
      by_cases h2 : x ≤ y
      · have g2 : decide (y < x) = false := decide_eq_false (by omega)
        have h3 : ¬ (y - x ≤ 10000) := by
          intro h3
          rw [decide_eq_true h1, decide_eq_true h2, decide_eq_true h3] at hA
          cases hA
        have g3 : decide (10000 < y - x) = true := decide_eq_true (by omega)
        clear hA
        go_wp2_with fail
        go_ret2
        exact ⟨rfl, hb03⟩
      · have g2 : decide (y < x) = true := decide_eq_true (by omega)
        clear hA h2
        go_wp2_with fail
        go_ret2
        exact ⟨rfl, hb03⟩
    · have g1 : decide (x < 0) = true := decide_eq_true (by omega)
      clear hA h1
      go_wp2_with fail
      go_ret2
      exact ⟨rfl, hb03⟩
set_option maxRecDepth 100000 in
set_option maxHeartbeats 2000000 in
theorem Starts_ok (t : TabS) (a : TabA) (p : Int) (F T n E : Nat) (hF : t.frame = (F : Int)) (hE : T + n = E) (hE2 : E ≤ 9223372036854775807) (hn : n ≤ 10000) (w : World) (h : TabOk w t a) (hR : RightT t) (hp : hasP t p = true) :
    Calls Try.prog 34 #[.agg #[.int .i64 t.frame, .slice a.A1 t.parts.length a.c1, .slice a.A2 t.wins.length a.c2, .slice a.A3 t.chans.length a.c3, .int .i64 t.trial], .int .i64 p, .int .i64 (T : Int), .int .i64 (E : Int)] w fun e w' => ∃ A' c', e = .returned (.tuple #[.slice A' (stL t.wins F p T n).length c', .int .i64 0]) ∧ w'.ownsRow w.heap.size 3 1 (.slice A' (stL t.wins F p T n).length c') (stL t.wins F p T n).length ((stL t.wins F p T n).map iV) ∧ Below w.heap.size w w' := by
  obtain ⟨A1, k1, A2, k2, A3, k3⟩ := a
  simp only
  obtain ⟨w1, hw1, hb0, hblk0, hs1⟩ := tab_in t ⟨A1, k1, A2, k2, A3, k3⟩ w
  simp only at hw1
  have HT := hid (h.belowS hb0)
  have i1 := hid (right_any t ⟨A1, k1, A2, k2, A3, k3⟩ w1 HT.out)
  have i2 := hid (fun w' => hasS_any t ⟨A1, k1, A2, k2, A3, k3⟩ p w' h.n1)
  have i3 := hid (fun (k : Nat) (hk : k < n) w' hb => at_any t ⟨A1, k1, A2, k2, A3, k3⟩ F (T + k) hF (by omega) w' (HT.out.belowS (w' := w') hb) hR)
  simp only at i1 i2 i3
  unfold atV at i3
  rw [(rightB_iff t).2 hR] at i1
  rw [hp] at i2
  obtain ⟨c0, c1, c2, c3, c4⟩ := tab_cells hblk0
  simp only at c0 c1 c2 c3 c4
  have g1 : decide ((T : Int) < 0) = false := decide_eq_false (by omega)
  have g2 : decide ((E : Int) < (T : Int)) = false := decide_eq_false (by omega)
  have g2' : decide (E < T) = false := decide_eq_false (by omega)
  have g3 : (E : Int) - (T : Int) = (n : Int) := by omega
  have g4 : decide ((10000 : Int) < (n : Int)) = false := decide_eq_false (by omega)
  have HE := hid hE
  clear h hR hp hF hE
  go_enter Try.func34, Try.ntmps34
  go_wp2_with fail
  clear hw1 hs1
  refine i1.out.mono ?_
  rintro e w2 ⟨rfl, hb2⟩
  have hblk2 := hblk0.belowS hb2
  clear c0 c1 c2 c3 c4
  obtain ⟨c0, c1, c2, c3, c4⟩ := tab_cells hblk2
  simp only at c0 c1 c2 c3 c4
  clear hblk0
  go_wp2_with fail
  refine (i2.out _).mono ?_
  rintro e w3 ⟨rfl, hb3⟩
  have hb13 := bel_trans hb2 hb3
  have hblk3 := hblk2.belowS hb3
  clear c0 c1 c2 c3 c4 hblk2 hb2 hb3 i1 i2
  go_wp2_with fail
  clear g3 g1 g2 g2' g4
  have hb03 := hid (bel_trans hb0 hb13)
  have hBw : w.heap.size ≤ w3.heap.size := hb03.out.size
  generalize hBB : w3.heap.size = B at *
  have HBB := hid hBB
  clear hBB
  have hgB : w.heap.size < B := by have := hblk3.lt; have := HBB.out; omega
  have hb2l : w1.heap.size ≤ B := by have := hb13.size; have := HBB.out; omega
  have hb3w : Below w1.heap.size w1 w3 := hb13
  go_loopw [10, 11, 12, 40] (fun v10 _ _ v40 wr => ∃ (k : Nat) (A' : Option Addr) (c' : Nat), k ≤ n ∧ v40 = .int .i64 (k : Int) ∧ v10 = .slice A' (stL t.wins F p T k).length c' ∧ wr.ownsRow B 3 1 (.slice A' (stL t.wins F p T k).length c') (stL t.wins F p T k).length ((stL t.wins F p T k).map iV) ∧ Below B w3 wr) (fun _ _ _ v40 _ => n - (intOf v40).toNat)
  case atStart => exact ⟨0, none, 0, by omega, rfl, rfl, World.ownsRow_nil _ _ _ _, Below.refl _ _⟩
  case round =>
    obtain ⟨k, A', c', hk, rfl, rfl, hown, hbel⟩ := hrel
    have hll := stL_len t.wins F p T k
    by_cases hkn : k < n
    · have hblkr := hblk3.below hbel hgB
      have hbr : Below w1.heap.size w1 wr := hb3w.trans (hbel.mono hb2l)
      have i4 := hid (i3.out k hkn wr hbr)
      rw [show ((T + k : Nat) : Int) = (T : Int) + (k : Int) by omega] at i4
      have hTk : (T : Int) + (k : Int) ≤ 9223372036854775807 := by have := HE.out; omega
      have hsu := hid (stL_succ t.wins F p T k)
      have hsb : Hid (stB t.wins F p (T + k) = ((partL t.wins (((T + k) % F : Nat) : Int) == p) && startL t.wins (((T + k) % F : Nat) : Int))) := hid rfl
      generalize idxB (posB (((T + k) % F : Nat) : Int)) t.wins = I at i4
      generalize startL t.wins (((T + k) % F : Nat) : Int) = st at i4 hsb
      generalize partL t.wins (((T + k) % F : Nat) : Int) = pa at i4 hsb
      generalize (T + k) % F = M at i4
      generalize (T + k) / F = D at i4
      generalize stL t.wins F p T k = sl at hown hll hsu ⊢
      obtain ⟨c0, c1, c2, c3, c4⟩ := tab_cells hblkr
      simp only at c0 c1 c2 c3 c4
      have hsz := hbel.size
      have hBs : B ≤ wr.heap.size := by have := HBB.out; omega
      have HOW := hid hown
      clear hblkr hbr hown
      go_wp2_with fail
      refine i4.out.mono ?_
      rintro e w4 ⟨rfl, hb4⟩
      have hown4 := own_below HOW.out hb4
      have hbel4 : Below B w3 w4 := hbel.trans (hb4.mono hBs)
      have hB4 : B ≤ w4.heap.size := Nat.le_trans hBs hb4.size
      clear c0 c1 c2 c3 c4 hb4 i4 hsz
      obtain ⟨w5, hw5, hb5, hx5⟩ : ∃ w5 : World, w4.alloc (.cells #[.int .i64 (D : Int), .int .i64 (M : Int), .int .i64 I, .int .i64 pa, .bool ((M : Int) == 0), .bool st] 43) = w5 ∧ Below w4.heap.size w4 w5 ∧ Blk w5 w4.heap.size 43 (whenC D M I pa ((M : Int) == 0) st) := ⟨_, rfl, (Below.refl _ _).alloc (Nat.le_refl _) _, Blk.new _ _ (whenC D M I pa ((M : Int) == 0) st)⟩
      have e3 := hx5.cellAt (i := 3) rfl
      have e5 := hx5.cellAt (i := 5) rfl
      have hown5 := hid (own_below hown4 hb5)
      have hbel5 := hid (hbel4.trans (hb5.mono hB4))
      have hB5 : B ≤ w5.heap.size := Nat.le_trans hB4 hb5.size
      clear hown4 hbel4 hb5 hx5 e3 e5
      subst hw5
      by_cases hpe : pa = p
      · have hpb : (pa == p) = true := by simpa using hpe
        cases st with
        | true =>
          have hsx : Hid (stL t.wins F p T (k + 1) = sl ++ [(T : Int) + (k : Int)]) := hid (by rw [hsu.out, hsb.out, hpb]; rfl)
          clear hpe
          go_wp2_with (at_builtin; refine appI (w4.alloc (.cells #[.int .i64 (D : Int), .int .i64 (M : Int), .int .i64 I, .int .i64 pa, .bool ((M : Int) == 0), .bool true] 43)) rfl (.tmp 56) (.tmp 60) rfl B A' sl.length c' sl ((T : Int) + (k : Int)) rfl hown5.out (w4.heap.size + 1) (by simp) rfl (by omega) hB5 (sl ++ [(T : Int) + (k : Int)]).length (by simp) ?_; intro A2 c2 w6 hown6 hbl6)
          have hfin := hid (hbel5.out.trans hbl6)
          go_roundw
          case rel => exact ⟨k + 1, A2, c2, by omega, by go_num, by rw [hsx.out]; simp, by rw [hsx.out]; exact hown6, hfin.out⟩
          case measure => simp [intOf]; omega
        | false =>
          have hsx : Hid (stL t.wins F p T (k + 1) = sl) := hid (by rw [hsu.out, hsb.out, hpb]; simp)
          clear hpe
          go_wp2_with fail
          go_roundw
          case rel => exact ⟨k + 1, A', c', by omega, by go_num, by rw [hsx.out], by rw [hsx.out]; exact hown5.out, hbel5.out⟩
          case measure => simp [intOf]; omega
      · have hpb : (pa == p) = false := by simpa using hpe
        have hsx : Hid (stL t.wins F p T (k + 1) = sl) := hid (by rw [hsu.out, hsb.out, hpb]; simp)
        clear hpe
        go_wp2_with fail
        go_roundw
        case rel => exact ⟨k + 1, A', c', by omega, by go_num, by rw [hsx.out], by rw [hsx.out]; exact hown5.out, hbel5.out⟩
        case measure => simp [intOf]; omega
    · obtain rfl : k = n := by omega
      have hfin := hid (hb03.out.trans (hbel.mono hBw))
      have hown2 := hid (own_mono hown hBw)
      clear hown hbel
      go_wp2_with fail
      go_ret2
      exact ⟨A', c', rfl, hown2.out, hfin.out⟩
end Go.Proofs.Ytbnodcenlggcnaa
