/-
  num.Text and the first reference's Text; NumPuts: any number and text is put as the document says, behind what is there, which stays as it was. For every input.
-/
import Derived.Test.YtaohnagghfajlaaNum
import Derived.Test.YtaohnagghfajlaaOpen
import Derived.Test.YtaohnagghfajlaaRows
namespace Go.Proofs.Ytaohnagghfajlaa
open Go.RowKit Go.ChangeShapes Go.WideShapes Go.ChangeAt

theorem put_at (W : Nat) (ww : Int) (hW : wid ww = W) (A : Option Addr) (n c : Nat) (bs : List UInt8) (x : Int) (w : World) (h : Reads w w.heap.size 1 A n (bs.map bV)) (hn : n ≤ 100000000) :
    Calls Try.prog 14 #[.slice A n c, .int .i64 x, .int .i64 ww] w fun e w' => ∃ A' c', e = .returned (.slice A' (n + W) c') ∧
      w'.ownsRow w.heap.size 5 1 (.slice A' (n + W) c') (n + W) ((bs ++ putB x W).map bV) ∧ Below w.heap.size w w' := by
  subst hW
  exact put_any A n c bs x ww w h hn

theorem text_any (A1 A2 : Option Addr) (n m c1 c2 : Nat) (bs ts : List UInt8) (w : World) (h1 : Reads w w.heap.size 1 A1 n (bs.map bV)) (h2 : Reads w w.heap.size 1 A2 m (ts.map bV)) (hn : n ≤ 100000) (hm : m ≤ c2) (hc : c2 ≤ maxLen) :
    Calls Try.prog 16 #[.slice A1 n c1, .slice A2 m c2] w fun e w' => ∃ A' c', e = .returned (.slice A' (n + 2 + min m 65535) c') ∧
      w'.ownsRow w.heap.size 5 1 (.slice A' (n + 2 + min m 65535) c') (n + 2 + min m 65535) ((bs ++ textB ts).map bV) ∧ Below w.heap.size w w' := by
  have ht : ts.length = m := by simpa using h2.len
  have HT : Hid (textB ts = putB ((min m 65535 : Nat) : Int) 2 ++ ts.take (min m 65535)) := by
    refine hid ?_
    unfold textB
    rw [ht]
    congr 1
    rw [← List.take_length (l := ts), ht, List.take_take, List.take_take]
    congr 1
    omega
  clear ht
  unfold maxLen at hc
  obtain ⟨M, hM, hM1, hM2⟩ : ∃ M : Nat, min m 65535 = M ∧ M ≤ m ∧ M ≤ 65535 := ⟨_, rfl, by omega, by omega⟩
  have h3 := h2.front hM1
  rw [hM] at HT ⊢
  have hMi : (if (65535 : Int) < (m : Int) then (65535 : Int) else (m : Int)) = (M : Int) := by split <;> omega
  rw [Nat.mul_one, ← List.map_take] at h3
  have hp := hid (put_at 2 2 rfl A1 n c1 bs (M : Int) w h1 (by omega))
  clear h1 h2 hM
  go_enter Try.func16, Try.ntmps16
  go_wp2_with fail
  refine hp.out.mono ?_
  rintro e w1 ⟨A', c', rfl, hown, hb⟩
  clear hp hMi
  go_wp2_with (at_builtin; refine appB _ rfl (.tmp 13) (.tmp 14) rfl w.heap.size _ (n + 2) _ _ rfl hown w.heap.size A2 M c2 (ts.take M) rfl (h3.below hb) (by omega) hb.size ?_; intro A3 c3 w3 hown3 hg3 hb3)
  go_ret
  exact ⟨A3, c3, rfl, by rw [HT.out, ← List.append_assoc]; exact hown3, hb.trans hb3⟩

theorem refText_any (A2 : Option Addr) (m c2 : Nat) (ts : List UInt8) (w : World) (h2 : Reads w w.heap.size 1 A2 m (ts.map bV)) (hm : m ≤ c2) (hc : c2 ≤ maxLen) :
    Calls Try.prog 18 #[.slice A2 m c2] w fun e w' => ∃ A' c', e = .returned (.slice A' (2 + min m 65535) c') ∧
      w'.ownsRow w.heap.size 5 1 (.slice A' (2 + min m 65535) c') (2 + min m 65535) ((textB ts).map bV) ∧ Below w.heap.size w w' := by
  have ht : ts.length = m := by simpa using h2.len
  have HT : Hid (textB ts = putB ((min m 65535 : Nat) : Int) 2 ++ ts.take (min m 65535)) := by
    refine hid ?_
    unfold textB
    rw [ht]
    congr 1
    rw [← List.take_length (l := ts), ht, List.take_take, List.take_take]
    congr 1
    omega
  clear ht
  unfold maxLen at hc
  obtain ⟨M, hM, hM1, hM2⟩ : ∃ M : Nat, min m 65535 = M ∧ M ≤ m ∧ M ≤ 65535 := ⟨_, rfl, by omega, by omega⟩
  have h3 := h2.front hM1
  rw [hM] at HT ⊢
  rw [Nat.mul_one, ← List.map_take] at h3
  have hp := hid (refPut_any (M : Int) 2 w (by omega))
  rw [show wid 2 = 2 from rfl] at hp
  clear h2
  by_cases hg : 65535 < m
  · obtain rfl : M = 65535 := by omega
    clear hM
    go_enter Try.func18, Try.ntmps18
    go_wp2_with fail
    refine hp.out.mono ?_
    rintro e w1 ⟨A', c', rfl, hown, hb⟩
    clear hp
    go_wp2_with (at_builtin; refine appB _ rfl (.tmp 11) (.tmp 14) rfl w.heap.size _ 2 _ _ rfl hown w.heap.size A2 65535 c2 (ts.take 65535) rfl (h3.below hb) (by omega) hb.size ?_; intro A3 c3 w3 hown3 hg3 hb3)
    go_ret
    exact ⟨A3, c3, rfl, by rw [HT.out]; exact hown3, hb.trans hb3⟩
  · obtain rfl : M = m := by omega
    clear hM
    go_enter Try.func18, Try.ntmps18
    go_wp2_with fail
    refine hp.out.mono ?_
    rintro e w1 ⟨A', c', rfl, hown, hb⟩
    clear hp
    go_wp2_with (at_builtin; refine appB _ rfl (.tmp 11) (.tmp 14) rfl w.heap.size _ 2 _ _ rfl hown w.heap.size A2 M c2 (ts.take M) rfl (h3.below hb) (by omega) hb.size ?_; intro A3 c3 w3 hown3 hg3 hb3)
    go_ret
    exact ⟨A3, c3, rfl, by rw [HT.out]; exact hown3, hb.trans hb3⟩

theorem numPuts_any (A : Option Addr) (n c : Nat) (bs : List UInt8) (w : World) (hr : Reads w w.heap.size 1 A n (bs.map bV)) (hnc : n ≤ c) (hc : c ≤ maxLen) (x : Int) (hx : x ≤ 9223372036854775807) (ww : Int) :
    Calls Try.prog 4 #[.slice A n c, .int .i64 x, .int .i64 ww] w fun e w' => e = .returned (.bool true) ∧ Below w.heap.size w w' := by
  by_cases hn : 500 < n
  · unfold maxLen at hc
    go_enter Try.func4, Try.ntmps4
    go_wp2_with fail
    refine (numWakes_any w).mono ?_
    rintro e w0 ⟨rfl, hb0⟩
    go_wp2_with fail
    go_ret
    exact ⟨rfl, hb0⟩
  · have hc' := hc
    unfold maxLen at hc'
    have hw := wid_bd ww
    have hpt := hid (fun A n c bs w => put_any A n c bs x ww w)
    have hrf := hid (fun w => refPut_any x ww w hx)
    generalize wid ww = W at hw hpt hrf
    have hl : bs.length = n := by simpa using hr.len
    have HL := hid hl
    clear hl
    go_enter Try.func4, Try.ntmps4
    go_wp2_with fail
    refine (numWakes_any w).mono ?_
    rintro e w0 ⟨rfl, hb0⟩
    have hr0 := hr.belowS hb0
    go_wp2_with (at_builtin; refine copyB _ rfl (.tmp 17) (.tmp 18) rfl rfl A n c bs rfl hr0 (by omega) ?_; intro A1 c1 w1 hown1 hb1)
    have hr1 := Reads.of_own hown1
    refine (hpt.out A1 n c1 bs w1 hr1 (by omega)).mono ?_
    rintro e w2 ⟨A2, c2, rfl, hown2, hb2⟩
    go_wp2_with fail
    refine (text_any A1 A n n c1 c bs bs w2 (hr1.belowS hb2) ((hr0.belowS hb1).belowS hb2) (by omega) hnc hc).mono ?_
    rintro e w3 ⟨A3, c3, rfl, hown3, hb3⟩
    have hr03 := ((hr0.belowS hb1).belowS hb2).belowS hb3
    go_wp2_with (at_builtin; refine copyB _ rfl (.tmp 27) (.tmp 28) rfl rfl A n c bs rfl hr03 (by omega) ?_; intro A4 c4 w4 hown4 hb4)
    refine (hrf.out w4).mono ?_
    rintro e w5 ⟨A5, c5, rfl, hown5, hb5⟩
    have hb35 := bel_trans hb4 hb5
    go_wp2_with (first | (at_builtin; refine appB _ rfl (.tmp 29) (.tmp 32) rfl w3.heap.size A4 n c4 bs rfl (own_below hown4 hb5) w5.heap.size A5 W c5 (putB x W) rfl (Reads.of_own hown5) (by omega) hb35.size ?_; intro A6 c6 w6 hown6 hg6 hb6; have hb36 : Below w3.heap.size w3 w6 := hb35.trans hb6; have hr06 := hr03.belowS hb36) | (at_builtin; refine copyB _ rfl (.tmp 34) (.tmp 35) rfl rfl A n c bs rfl hr06 (by omega) ?_; intro A7 c7 w7 hown7 hb7))
    refine (refText_any A n c bs w7 (hr06.belowS hb7) hnc hc).mono ?_
    rintro e w8 ⟨A8, c8, rfl, hown8, hb8⟩
    have hb68 := bel_trans hb7 hb8
    go_wp2_with (at_builtin; refine appB _ rfl (.tmp 36) (.tmp 38) rfl w6.heap.size A7 n c7 bs rfl (own_below hown7 hb8) w8.heap.size A8 (2 + min n 65535) c8 (textB bs) rfl (Reads.of_own hown8) (by omega) hb68.size ?_; intro A9 c9 w9 hown9 hg9 hb9)
    have hb69 : Below w6.heap.size w6 w9 := hb68.trans hb9
    have hb39 := bel_trans hb36 hb69
    have hb29 := bel_trans hb3 hb39
    have hb19 := bel_trans hb2 hb29
    have hbw : Below w.heap.size w w9 := bel_trans (bel_trans hb0 hb1) hb19
    have s2 := (Reads.of_own hown2).belowS hb29
    have s6 := (Reads.of_own hown6).belowS hb69
    have s3 := (Reads.of_own hown3).belowS hb39
    have s9 := Reads.of_own hown9
    have s1 := hr1.belowS hb19
    have s0 := hr06.belowS hb69
    refine (same_b _ _ _ _ _ _ _ _ w9 s2 s6 (by omega) (by omega)).mono ?_
    rintro e w10 ⟨rfl, hb10⟩
    go_wp2_with fail
    refine (same_b _ _ _ _ _ _ _ _ w10 (s3.belowS hb10) (s9.belowS hb10) (by omega) (by omega)).mono ?_
    rintro e w11 ⟨rfl, hb11⟩
    go_wp2_with fail
    refine (same_b _ _ _ _ _ _ _ _ w11 ((s1.belowS hb10).belowS hb11) ((s0.belowS hb10).belowS hb11) (by omega) (by omega)).mono ?_
    rintro e w12 ⟨rfl, hb12⟩
    go_wp2_with fail
    go_ret
    exact ⟨by simp, bel_trans (bel_trans (bel_trans hbw hb10) hb11) hb12⟩

theorem numPuts_law (A : Option Addr) (n c : Nat) (bs : List UInt8) (x ww : Int) (w : World) (hr : Reads w w.heap.size 1 A n (bs.map bV)) (hnc : n ≤ c) (hc : c ≤ maxLen) (hx : (Lit.int .i64 x).wf = true) :
    Calls Try.prog 4 #[.slice A n c, .int .i64 x, .int .i64 ww] w fun e w' => e = .returned (.bool true) ∧ Below w.heap.size w w' :=
  numPuts_any A n c bs w hr hnc hc x (bounds_i64 hx).2 ww

/-! ### NumPuts: from the walk to the given statement -/
namespace lawNumPuts
theorem own : ownKnob Try.prog.godebug = none := by kernel_rfl
theorem laidOut : laidOutB Try.prog = true := by kernel_rfl
set_option maxRecDepth 100000 in
theorem lifted (os : Os) (started : os.Started) (H : Type) (enc : TypeId × Value → H) :
    ReturnsInHanded {} Try.checked os 4 .any (Rows.numPutsSpec.pre6 enc Try.prog Try.f4 Rows.numPutsRow.domain false) (Rows.numPutsSpec.post enc Try.prog Try.f4 false true false false) := by
  refine returnsInHanded_of_change (C := Try.checked) own started (by kernel_rfl) Try.func4
    (ChangeSpec.witness6 (enc := enc) (C := Try.checked) false ⟨#[], #[.slice none 0 0, .int .i64 0, .int .i64 0], []⟩ 8 (by kernel_rfl) (by kernel_rfl) (by kernel_rfl) (by kernel_rfl)) ?_
  intro W base args ds gs before hval0 hW hcnd _
  have hval : ∀ (j : Nat) t v, Try.f4.params[j]? = some t → args[j]? = some v → Value.okWide Try.prog W .any base t v := hval0
  have hW' := hW
  obtain ⟨p, q, hA0, hV, rfl, hfz, hnd⟩ := hW
  have hA : DataW.TrodAll enc Try.prog W 0 (fun _ => true) true Try.f4.params.toList args.toList ds p := hA0
  rw [Try.params4] at hA hval
  obtain ⟨v0, vs0, d0, ds0, p0, q0, hargs, rfl, rfl, h0, r0⟩ := trodAll_cons hA
  obtain ⟨v1, vs1, d1, ds1, p1, q1, rfl, rfl, rfl, h1, r1⟩ := trodAll_cons r0
  obtain ⟨v2, vs2, d2, ds2, p2, q2, rfl, rfl, rfl, h2, r2⟩ := trodAll_cons r1
  obtain ⟨rfl, rfl, rfl⟩ := trodAll_nil r2
  obtain rfl : args = #[v0, v1, v2] := by cases args; simp_all
  obtain ⟨rfl, rfl⟩ := trodVars_none hV
  have k0 := h0
  have lt0 : ∀ x ∈ p0, x.block < W.heap.size := by obtain ⟨m, hm⟩ := k0; exact DataW.trod_lt m _ _ _ hm
  have k1 := h1
  have lt1 : ∀ x ∈ p1, x.block < W.heap.size := by obtain ⟨m, hm⟩ := k1; exact DataW.trod_lt m _ _ _ hm
  have k2 := h2
  have lt2 : ∀ x ∈ p2, x.block < W.heap.size := by obtain ⟨m, hm⟩ := k2; exact DataW.trod_lt m _ _ _ hm
  obtain ⟨A0, n0, c0, b0, rfl, w0, g0, l0⟩ := open_bytes Try.underlying23 Try.underlying5 (by kernel_rfl) (hval 0 23 v0 rfl rfl) h0
  obtain ⟨a1, rfl, rfl, rfl, w1⟩ := open_int Try.underlying3 (hval 1 3 v1 rfl rfl) h1
  obtain ⟨a2, rfl, rfl, rfl, w2⟩ := open_int Try.underlying3 (hval 2 3 v2 rfl rfl) h2
  clear hA0 hval0
  refine (numPuts_law A0 n0 c0 b0 a1 a2 W w0 g0 l0 w1).mono fun e W' ⟨he, bel⟩ => ?_
  subst he
  exact ⟨_, rfl, _, _, _, [], _, [], hW', trodAll_mk1 (shut_bool Try.underlying4 _), (trodAll_cons_mk (Below.trod laidOut (by kernel_rfl) (of_decide_eq_true (by kernel_rfl)) k0 bel lt0) (trodAll_cons_mk (Below.trod laidOut (by kernel_rfl) (of_decide_eq_true (by kernel_rfl)) k1 bel lt1) (trodAll_cons_mk (Below.trod laidOut (by kernel_rfl) (of_decide_eq_true (by kernel_rfl)) k2 bel lt2) trodAll_mk0))), rfl, bel.frame _, fun h => by cases h⟩
theorem over : Rows.numPutsRow.holds Try.pinned (OpenSpec.ofChange Rows.numPutsSpec) :=
  OpenClaim.holds_of_wide 4 Try.f4 rfl rfl rfl rfl rfl rfl rfl ⟨rfl, rfl, rfl, rfl, rfl⟩ rfl rfl rfl rfl rfl (by kernel_rfl) Try.func4 (by kernel_rfl)
    (of_decide_eq_true (by kernel_rfl)) (by unfold Func.isWrapper; first | (rw [if_pos (by decide +kernel)]; kernel_rfl) | (rw [if_neg (by decide +kernel)]; exact ⟨rfl, rfl⟩))
    (fun os started H enc _ => lifted os started H enc)
theorem proved : Rows.NumPutsSaid := over
#print axioms proved
end lawNumPuts
end Go.Proofs.Ytaohnagghfajlaa
