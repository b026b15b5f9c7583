/-
  Law 20: what is sent comes in order (LinkOrder).
-/
import Derived.Test.YthnifgcoikmihaaLinkWakes
namespace Go.Proofs.Ythnifgcoikmihaa
open Go.RowKit Go.ChangeShapes Go.WideShapes Go.ChangeAt

theorem sendE0 (q : Ways) (h : (q 0).length ≠ 32) : sendE q 0 = 0 := by unfold sendE putE; rw [if_neg (by omega)]; exact if_neg h
theorem sendE1 (q : Ways) (h : (q 1).length ≠ 32) : sendE q 1 = 0 := by unfold sendE putE; rw [if_neg (by omega)]; exact if_neg h
theorem sendQ0 (q : Ways) (f : List UInt8) (h : (q 0).length ≠ 32) : sendQ q 0 f = upd q 0 (q 0 ++ [f]) := by unfold sendQ putQ; rw [if_neg (by omega)]; exact if_neg h
theorem sendQ1 (q : Ways) (f : List UInt8) (h : (q 1).length ≠ 32) : sendQ q 1 f = upd q 1 (q 1 ++ [f]) := by unfold sendQ putQ; rw [if_neg (by omega)]; exact if_neg h
/-- Both ways' frames. -/
def two (x y : List (List UInt8)) : Ways := fun j => if j = 0 then x else if j = 1 then y else []
theorem two_0 (x y z : List (List UInt8)) : upd (two x y) 0 z = two z y := by funext j; unfold upd two; by_cases h : j = 0 <;> simp [h]
theorem two_1 (x y z : List (List UInt8)) : upd (two x y) 1 z = two x z := by
  funext j; unfold upd two
  by_cases h : j = 1
  · subst h; rfl
  · simp [h]
theorem new_two (w : World) : Calls Try.prog 13 #[] w fun e w' => e = .returned (.pointer (some ⟨w.heap.size, 0, none⟩)) ∧ LinkAt w' (fun b => b = w.heap.size) w.heap.size (two [] []) ∧ Below w.heap.size w w' :=
  (new_any w).mono fun _ _ h => ⟨h.1, h.2.1, h.2.2⟩
theorem take_step (l : List (List UInt8)) (k : Nat) (b : List UInt8) (h : l[k]? = some b) : l.take (k + 1) = l.take k ++ [b] := by rw [List.take_add_one, h]; rfl
theorem drop_step (l : List (List UInt8)) (k : Nat) (b : List UInt8) (h : l[k]? = some b) : l.drop k = b :: l.drop (k + 1) := by
  have hk := (List.getElem?_eq_some_iff.1 h).1
  rw [List.drop_eq_getElem_cons hk]
  congr 1
  exact (List.getElem?_eq_some_iff.1 h).2
set_option maxRecDepth 100000 in
set_option maxHeartbeats 4000000 in
theorem order_any (w : World) (A : Option Addr) (n c : Nat) (ls : List (List UInt8)) (hr : Reads2 w w.heap.size A n ls) (hc : n ≤ c) (hm : c ≤ maxLen) (d : Nat) (hd : d < 256) :
    Calls Try.prog 3 #[.slice A n c, .int .u8 (d : Int)] w fun e w' => e = .returned (.bool true) ∧ Below w.heap.size w w' := by
  unfold maxLen at hm
  by_cases hn : n ≤ 32
  · have hn2 : decide ((32 : Int) < (n : Int)) = false := decide_eq_false (by omega)
    go_enter Try.func3, Try.ntmps3
    go_wp2_with fail
    refine (wakes_any _).mono ?_
    rintro e w1 ⟨rfl, hb1⟩
    go_wp2_with fail
    refine (new_two _).mono ?_
    rintro e w2 ⟨rfl, hl2, hb2⟩
    go_wp2_with fail
    have hb02 := bel_trans hb1 hb2
    have hs1 := hb1.size
    generalize w1.heap.size = g at hl2 hs1 ⊢
    go_loopw [6, 7, 22] (fun v6 v7 v22 wr => ∃ (k : Nat) (F : Nat → Prop), k ≤ n ∧ v22 = .int .i64 (k : Int) ∧ LinkAt wr F g (two (ls.take k) (ls.take (min d k))) ∧ Below w.heap.size w wr ∧ ∀ b, F b → w.heap.size ≤ b) (fun _ _ v22 _ => n - (intOf v22).toNat)
    case atStart => exact ⟨0, _, by omega, rfl, by simpa using hl2, hb02, fun b hb => by omega⟩
    case round =>
      obtain ⟨k, F, hk, rfl, hl, hbel, hF⟩ := hrel
      by_cases hkn : k < n
      · obtain ⟨b, ad, A', c', hbk, rfl, had, hcell, hrb, hc1, hc2⟩ := (hr.below hbel).at_ hkn
        have hll := hr.len
        by_cases h200 : b.length ≤ 200
        · have h200' : decide ((200 : Int) < (b.length : Int)) = false := decide_eq_false (by omega)
          have i1 := hid (send_any F g _ 0 A' b.length c' b wr hl (hrb.more hbel.size))
          rw [sendE0 _ (by simp [two]; omega), sendQ0 _ _ (by simp [two]; omega)] at i1
          simp only [two_0] at i1
          have hE : Hid (two (ls.take k) (ls.take (min d k)) 0 ++ [b] = ls.take (k + 1)) := hid (take_step ls k b hbk).symm
          rw [hE.out] at i1
          have HBK := hid hbk
          clear hbk hl
          have hF' := hid hF
          clear hF
          by_cases hkd : k < d
          · have hkd2 : decide ((k : Int) < (d : Int)) = true := decide_eq_true (by omega)
            go_wp2_with fail
            refine i1.out.mono ?_
            rintro e w3 ⟨F3, rfl, hl3, hg3⟩
            have hx3 := hg3.bel hbel (Nat.le_refl _) hF'.out
            have i2 := hid (send_any F3 g _ 1 A' b.length c' b w3 hl3 ((hrb.keep fun p hp => hx3.1.cell hp |>.trans (hbel.cell hp).symm).more hx3.1.size))
            rw [sendE1 _ (by simp [two]; omega), sendQ1 _ _ (by simp [two]; omega)] at i2
            simp only [two_1] at i2
            have hE2 : Hid (two (ls.take (k + 1)) (ls.take (min d k)) 1 ++ [b] = ls.take (min d (k + 1))) := by
              refine hid ?_
              rw [show min d k = k by omega, show min d (k + 1) = k + 1 by omega]
              exact (take_step ls k b HBK.out).symm
            rw [hE2.out] at i2
            clear i1
            go_wp2_with fail
            refine i2.out.mono ?_
            rintro e w4 ⟨F4, rfl, hl4, hg4⟩
            have hx4 := hg4.bel hx3.1 (Nat.le_refl _) hx3.2
            clear i2 hg3 hg4 hl3
            go_wp2_with fail
            go_roundw
            case rel => exact ⟨k + 1, F4, by omega, by go_num, hl4, hx4.1, hx4.2⟩
            case measure => simp [intOf]; omega
          · have hkd2 : decide ((k : Int) < (d : Int)) = false := decide_eq_false (by omega)
            go_wp2_with fail
            refine i1.out.mono ?_
            rintro e w3 ⟨F3, rfl, hl3, hg3⟩
            have hx3 := hg3.bel hbel (Nat.le_refl _) hF'.out
            clear i1 hg3
            go_wp2_with fail
            go_roundw
            case rel => exact ⟨k + 1, F3, by omega, by go_num, by rw [show min d (k + 1) = min d k by omega]; exact hl3, hx3.1, hx3.2⟩
            case measure => simp [intOf]; omega
        · have h200' : decide ((200 : Int) < (b.length : Int)) = true := decide_eq_true (by omega)
          go_wp2_with fail
          go_ret
          exact ⟨rfl, hbel⟩
      · obtain rfl : k = n := by omega
        have hll := hr.len
        rw [List.take_of_length_le (by omega)] at hl
        have HD : Hid ((ls.take (min d k)).length = min d k) := hid (by simp; omega)
        go_wp2_with fail
        generalize hy : ls.take (min d k) = y at hl HD
        have hb03 := hid hbel
        have hF0 := hid hF
        clear hbel hF hy hl2 hb2 hb1 hb02
        obtain ⟨w5, rfl⟩ : ∃ w5 : World, w5 = wr := ⟨_, rfl⟩
        go_loopw [9, 10, 11, 49] (fun v9 v10 v11 v49 wr => ∃ (j : Nat) (F : Nat → Prop), j ≤ k ∧ v49 = .int .i64 (j : Int) ∧ LinkAt wr F g (two (ls.drop j) y) ∧ Below w.heap.size w wr ∧ ∀ b, F b → w.heap.size ≤ b) (fun _ _ _ v49 _ => k - (intOf v49).toNat)
        case atStart => exact ⟨0, F, by omega, rfl, by simpa [List.take_of_length_le (show ls.length ≤ k by omega)] using hl, hb03.out, hF0.out⟩
        case round =>
          obtain ⟨j, F1, hj, rfl, hl1, hbel1, hF1⟩ := hrel
          have HF1 := hid hF1
          by_cases hjk : j < k
          · obtain ⟨b, ad, A', c', hbk, rfl, had, hcell, hrb, hc1, hc2⟩ := (hr.below hbel1).at_ hjk
            have i1 := hid (take_some F1 g 0 (by omega) _ b (ls.drop (j + 1)) wr hl1 (drop_step ls j b hbk))
            rw [two_0] at i1
            have HB := hid hbk
            have HRB := hid hrb
            have hB1 := hid hbel1
            clear hbk hl1 hF1 hrb
            have hcell' := hcell
            go_wp2_with fail
            refine i1.out.mono ?_
            rintro e w3 ⟨F3, bb, cc, rfl, hl3, hg3, hm3, hs3, hn3⟩
            have hx3 := hg3.bel hB1.out (Nat.le_refl _) HF1.out
            have i2 := hid (same_b A' _ b.length b.length c' cc b b w3 ((HRB.out.keep fun p hp => hx3.1.cell hp |>.trans (hB1.out.cell hp).symm).more hx3.1.size) hm3.reads (by unfold maxLen at hc2; omega) (by unfold maxLen at hc2; omega))
            rw [decide_eq_true (rfl : b = b)] at i2
            have hl3' := hl3
            clear hcell hcell' i1 hg3 hm3 hs3 hn3 hbel1
            go_wp2_with fail
            refine i2.out.mono ?_
            rintro e w4 ⟨rfl, hb4⟩
            go_wp2_with fail
            go_roundw
            case rel => exact ⟨j + 1, F3, by omega, by go_num, hl3'.belowS hb4, hx3.1.trans (hb4.mono hx3.1.size), hx3.2⟩
            case measure => simp [intOf]; omega
          · obtain rfl : j = k := by omega
            rw [List.drop_of_length_le (by omega)] at hl1
            have i1 := hid (take_none F1 g _ 0 wr hl1 (.inr (by rfl)))
            have i2 := hid (fun w' h => len_any F1 g _ 1 w' (hl1.belowS (w' := w') h))
            rw [show lenQ (two [] y) 1 = ((min d j : Nat) : Int) by rw [← HD.out]; rfl] at i2
            have hB1 := hid hbel1
            clear hbel1 hF1 hl1
            go_wp2_with fail
            refine i1.out.mono ?_
            rintro e w3 ⟨rfl, hb3⟩
            go_wp2_with fail
            refine (i2.out _ hb3).mono ?_
            rintro e w4 ⟨rfl, rfl⟩
            go_wp2_with fail
            all_goals
              go_ret
              refine ⟨ret_bool ?_, hB1.out.trans (hb3.mono hB1.out.size)⟩
              rw [beq_iff_eq]
              omega
  · have hn2 : decide ((32 : Int) < (n : Int)) = true := decide_eq_true (by omega)
    go_enter Try.func3, Try.ntmps3
    go_wp2_with fail
    refine (wakes_any _).mono ?_
    rintro e w1 ⟨rfl, hb1⟩
    go_wp2_with fail
    go_ret
    exact ⟨rfl, hb1⟩
theorem u8_nat {d : Int} (hd : (Lit.int .u8 d).wf = true) : ∃ m : Nat, d = (m : Int) ∧ m < 256 := by
  obtain ⟨h1, h2⟩ := bounds_u8 hd
  exact ⟨d.toNat, by omega, by omega⟩
theorem order_law (w : World) (A : Option Addr) (n c : Nat) (ls : List (List UInt8)) (hr : Reads2 w w.heap.size A n ls) (hc : n ≤ c) (hm : c ≤ maxLen) (d : Int) (hd : (Lit.int .u8 d).wf = true) :
    Calls Try.prog 3 #[.slice A n c, .int .u8 d] w fun e w' => e = .returned (.bool true) ∧ Below w.heap.size w w' := by
  obtain ⟨m, rfl, hm2⟩ := u8_nat hd
  exact order_any w A n c ls hr hc hm m hm2
/-! ### LinkOrder: from the walk to the given statement -/
namespace lawLinkOrder
theorem own : ownKnob Try.prog.godebug = none := by kernel_rfl
theorem laidOut : laidOutB Try.prog = true := by kernel_rfl
set_option maxRecDepth 100000 in
theorem lifted (os : Os) (started : os.Started) (H : Type) (enc : TypeId × Value → H) :
    ReturnsInHanded {} Try.checked os 3 .any (Rows.linkOrderSpec.pre6 enc Try.prog Try.f3 Rows.linkOrderRow.domain false) (Rows.linkOrderSpec.post enc Try.prog Try.f3 false true false false) := by
  refine returnsInHanded_of_change (C := Try.checked) own started (by kernel_rfl) Try.func3
    (ChangeSpec.witness6 (enc := enc) (C := Try.checked) false ⟨#[], #[.slice none 0 0, .int .u8 0], []⟩ 8 (by kernel_rfl) (by kernel_rfl) (by kernel_rfl) (by kernel_rfl)) ?_
  intro W base args ds gs before hval0 hW hcnd _
  have hval : ∀ (j : Nat) t v, Try.f3.params[j]? = some t → args[j]? = some v → Value.okWide Try.prog W .any base t v := hval0
  have hW' := hW
  obtain ⟨p, q, hA0, hV, rfl, hfz, hnd⟩ := hW
  have hA : DataW.TrodAll enc Try.prog W 0 (fun _ => true) true Try.f3.params.toList args.toList ds p := hA0
  rw [Try.params3] at hA hval
  obtain ⟨v0, vs0, d0, ds0, p0, q0, hargs, rfl, rfl, h0, r0⟩ := trodAll_cons hA
  obtain ⟨v1, vs1, d1, ds1, p1, q1, rfl, rfl, rfl, h1, r1⟩ := trodAll_cons r0
  obtain ⟨rfl, rfl, rfl⟩ := trodAll_nil r1
  obtain rfl : args = #[v0, v1] := by cases args; simp_all
  obtain ⟨rfl, rfl⟩ := trodVars_none hV
  have k0 := h0
  have lt0 : ∀ x ∈ p0, x.block < W.heap.size := by obtain ⟨m, hm⟩ := k0; exact DataW.trod_lt m _ _ _ hm
  have k1 := h1
  have lt1 : ∀ x ∈ p1, x.block < W.heap.size := by obtain ⟨m, hm⟩ := k1; exact DataW.trod_lt m _ _ _ hm
  obtain ⟨A0, n0, c0, b0, rfl, w0, g0, l0⟩ := open_bytes2 Try.underlying22 Try.underlying26 Try.underlying5 (by kernel_rfl) (by kernel_rfl) (hval 0 22 v0 rfl rfl) h0
  obtain ⟨a1, rfl, rfl, rfl, w1⟩ := open_int Try.underlying5 (hval 1 5 v1 rfl rfl) h1
  clear hA0 hval0
  refine (order_law W A0 n0 c0 b0 w0 g0 l0 a1 w1).mono fun e W' ⟨he, bel⟩ => ?_
  subst he
  exact ⟨_, rfl, _, _, _, [], _, [], hW', trodAll_mk1 (shut_bool Try.underlying4 _), (trodAll_cons_mk (Below.trod laidOut (by kernel_rfl) (of_decide_eq_true (by kernel_rfl)) k0 bel lt0) (trodAll_cons_mk (Below.trod laidOut (by kernel_rfl) (of_decide_eq_true (by kernel_rfl)) k1 bel lt1) trodAll_mk0)), rfl, bel.frame _, fun h => by cases h⟩
theorem over : Rows.linkOrderRow.holds Try.pinned (OpenSpec.ofChange Rows.linkOrderSpec) :=
  OpenClaim.holds_of_wide 3 Try.f3 rfl rfl rfl rfl rfl rfl rfl ⟨rfl, rfl, rfl, rfl, rfl⟩ rfl rfl rfl rfl rfl (by kernel_rfl) Try.func3 (by kernel_rfl)
    (of_decide_eq_true (by kernel_rfl)) (by unfold Func.isWrapper; first | (rw [if_pos (by decide +kernel)]; kernel_rfl) | (rw [if_neg (by decide +kernel)]; exact ⟨rfl, rfl⟩))
    (fun os started H enc _ => lifted os started H enc)
theorem proved : Rows.LinkOrderSaid := over
#print axioms proved
end lawLinkOrder
end Go.Proofs.Ythnifgcoikmihaa
