/-
  Law 20: frames that change places twice are where they were; one that is doubled, and lost, leaves all as it was (LinkSwaps).
-/
import Derived.Test.YthnifgcoikmihaaLinkOrder
namespace Go.Proofs.Ythnifgcoikmihaa
open Go.RowKit Go.ChangeShapes Go.WideShapes Go.ChangeAt

theorem swapL_get {x : List (List UInt8)} {a b : Nat} (ha : a < x.length) (hb : b < x.length) (i : Nat) : (swapL x a b)[i]? = if i = b then x[a]? else if i = a then x[b]? else x[i]? := by
  unfold swapL
  rw [List.getElem?_set, List.getElem?_set]
  simp only [List.length_set, List.getD, List.getElem?_eq_getElem ha, List.getElem?_eq_getElem hb, Option.getD_some]
  by_cases h1 : b = i
  · subst h1
    rw [if_pos rfl, if_pos rfl, if_pos hb]
  · have h1' : ¬ i = b := fun e => h1 e.symm
    rw [if_neg h1, if_neg h1']
    by_cases h2 : a = i
    · subst h2
      rw [if_pos rfl, if_pos rfl, if_pos ha]
    · have h2' : ¬ i = a := fun e => h2 e.symm
      rw [if_neg h2, if_neg h2']
theorem swap_swap {x : List (List UInt8)} {a b : Nat} (ha : a < x.length) (hb : b < x.length) : swapL (swapL x a b) a b = x := by
  apply List.ext_getElem?
  intro i
  rw [swapL_get (by rw [swapL_len]; exact ha) (by rw [swapL_len]; exact hb)]
  rw [swapL_get ha hb, swapL_get ha hb, swapL_get ha hb]
  by_cases h1 : i = b
  · subst h1
    rw [if_pos rfl]
    by_cases h2 : a = i
    · subst h2; simp
    · rw [if_neg h2, if_pos rfl]
  · rw [if_neg h1]
    by_cases h2 : i = a
    · subst h2; rw [if_pos rfl, if_pos rfl]
    · rw [if_neg h2, if_neg h1, if_neg h2]
theorem twoE1 (q : Ways) (a b : Nat) (ha : a < (q 1).length) (hb : b < (q 1).length) : twoE q 1 a b = 0 := by
  unfold twoE
  rw [if_neg (by omega)]
  show (if outB (q 1) a || outB (q 1) b then 5 else 0) = (0 : Int)
  rw [if_neg]
  simp [outB]
  omega
theorem swapQ1 (x y : List (List UInt8)) (a b : Nat) (ha : a < y.length) (hb : b < y.length) : swapQ (two x y) 1 a b = two x (swapL y a b) := by
  unfold swapQ
  rw [if_pos (twoE1 _ _ _ ha hb)]
  exact two_1 _ _ _
theorem oneE1 (q : Ways) (a : Nat) (ha : a < (q 1).length) : oneE q 1 a = 0 := by
  unfold oneE
  rw [if_neg (by omega)]
  show (if outB (q 1) a then 5 else 0) = (0 : Int)
  rw [if_neg]
  simp [outB]
  omega
theorem twice1 (x y : List (List UInt8)) (a : Nat) (ha : a < y.length) (h : y.length ≠ 32) : twiceE (two x y) 1 a = 0 ∧ twiceQ (two x y) 1 a = two x (y ++ [y.getD a []]) := by
  unfold twiceE twiceQ
  have h1 : oneE (two x y) 1 a = 0 := oneE1 _ _ ha
  rw [if_pos h1, if_pos h1]
  refine ⟨?_, ?_⟩
  · show putE y = 0
    unfold putE
    rw [if_neg h]
  · show putQ (two x y) 1 (y.getD (Int.toNat a) []) = _
    unfold putQ
    rw [if_neg (show ¬ (two x y 1).length = 32 from h), Int.toNat_natCast]
    exact two_1 _ _ _
theorem lose1 (x y : List (List UInt8)) (f : List UInt8) : oneE (two x (y ++ [f])) 1 (y.length : Int) = 0 ∧ loseQ (two x (y ++ [f])) 1 (y.length : Int) = two x y := by
  have h1 : oneE (two x (y ++ [f])) 1 (y.length : Int) = 0 := oneE1 _ _ (by simp [two])
  refine ⟨h1, ?_⟩
  unfold loseQ
  rw [if_pos h1]
  show upd (two x (y ++ [f])) 1 (cutL (y ++ [f]) (Int.toNat (y.length : Int))) = _
  rw [two_1, Int.toNat_natCast]
  congr 1
  simp [cutL]
set_option maxRecDepth 100000 in
set_option maxHeartbeats 4000000 in
theorem swaps_any (w : World) (A : Option Addr) (n c : Nat) (ls : List (List UInt8)) (hr : Reads2 w w.heap.size A n ls) (hc : n ≤ c) (hm : c ≤ maxLen) (d : Nat) (hd : d < 256) (d2 : Nat) (hd2 : d2 < 256) :
    Calls Try.prog 5 #[.slice A n c, .int .u8 (d : Int), .int .u8 (d2 : Int)] w fun e w' => e = .returned (.bool true) ∧ Below w.heap.size w w' := by
  unfold maxLen at hm
  by_cases hn0 : n = 0
  · subst hn0
    go_enter Try.func5, Try.ntmps5
    go_wp2_with fail
    refine (wakes_any _).mono ?_
    rintro e w1 ⟨rfl, hb1⟩
    go_wp2_with fail
    go_ret
    exact ⟨rfl, hb1⟩
  have hz1 : ((n : Int) == 0) = false := beq_eq_false_iff_ne.2 (by omega)
  by_cases hn : n ≤ 31
  · have hn2 : decide ((31 : Int) < (n : Int)) = false := decide_eq_false (by omega)
    obtain ⟨a, ha, han⟩ : ∃ a : Nat, (d : Int) % (n : Int) = (a : Int) ∧ a < n := ⟨d % n, by omega, Nat.mod_lt _ (by omega)⟩
    obtain ⟨b, hbb, hbn⟩ : ∃ b : Nat, (d2 : Int) % (n : Int) = (b : Int) ∧ b < n := ⟨d2 % n, by omega, Nat.mod_lt _ (by omega)⟩
    have ha2 : Int.tmod (d : Int) (n : Int) = (a : Int) := by rw [Int.tmod_eq_emod_of_nonneg (by omega)]; exact ha
    have hbb2 : Int.tmod (d2 : Int) (n : Int) = (b : Int) := by rw [Int.tmod_eq_emod_of_nonneg (by omega)]; exact hbb
    have HA := hid (And.intro ha ha2)
    have HB := hid (And.intro hbb hbb2)
    clear ha ha2 hbb hbb2
    go_enter Try.func5, Try.ntmps5
    go_wp2_with fail
    refine (wakes_any _).mono ?_
    rintro e w1 ⟨rfl, hb1⟩
    go_wp2_with fail
    refine (new_two _).mono ?_
    rintro e w2 ⟨rfl, hl2, hb2⟩
    go_wp2_with fail
    have hb02 := bel_trans hb1 hb2
    have hs1 := hb1.size
    generalize w1.heap.size = g at hl2 hs1 ⊢
    go_loopw [9, 29] (fun v9 v29 wr => ∃ (k : Nat) (F : Nat → Prop), k ≤ n ∧ v29 = .int .i64 (k : Int) ∧ LinkAt wr F g (two [] (ls.take k)) ∧ Below w.heap.size w wr ∧ ∀ b, F b → w.heap.size ≤ b) (fun _ v29 _ => n - (intOf v29).toNat)
    case atStart => exact ⟨0, _, by omega, rfl, by simpa using hl2, hb02, fun b hb => by omega⟩
    case round =>
      obtain ⟨k, F, hk, rfl, hl, hbel, hF⟩ := hrel
      by_cases hkn : k < n
      · obtain ⟨b, ad, A', c', hbk, rfl, had, hcell, hrb, hc1, hc2⟩ := (hr.below hbel).at_ hkn
        have hll := hr.len
        by_cases h200 : b.length ≤ 200
        · have h200' : decide ((200 : Int) < (b.length : Int)) = false := decide_eq_false (by omega)
          have i1 := hid (send_any F g _ 1 A' b.length c' b wr hl (hrb.more hbel.size))
          rw [sendE1 _ (by simp [two]; omega), sendQ1 _ _ (by simp [two]; omega)] at i1
          simp only [two_1] at i1
          have hE : Hid (two [] (ls.take k) 1 ++ [b] = ls.take (k + 1)) := hid (take_step ls k b hbk).symm
          rw [hE.out] at i1
          have HBK := hid hbk
          clear hbk hl
          have hF' := hid hF
          clear hF
          go_wp2_with fail
          refine i1.out.mono ?_
          rintro e w3 ⟨F3, rfl, hl3, hg3⟩
          have hx3 := hg3.bel hbel (Nat.le_refl _) hF'.out
          clear i1 hg3
          go_wp2_with fail
          go_roundw
          case rel => exact ⟨k + 1, F3, by omega, by go_num, hl3, hx3.1, hx3.2⟩
          case measure => simp [intOf]; omega
        · have h200' : decide ((200 : Int) < (b.length : Int)) = true := decide_eq_true (by omega)
          go_wp2_with fail
          go_ret
          exact ⟨rfl, hbel⟩
      · obtain rfl : k = n := by omega
        have hll := hr.len
        rw [List.take_of_length_le (by omega)] at hl
        have hb03 := hid hbel
        have HL := hid hl
        have hF0 := hid hF
        clear hbel hF hl2 hb2 hb1 hb02 hl
        have hk1 : (k : Int) ≤ 9223372036854775807 := by omega
        have hk0 : (0 : Int) < (k : Int) := by omega
        have ha2 := HA.out.2
        have hb2 := HB.out.2
        have ha3 := HA.out.1
        have hb3 := HB.out.1
        go_wp2_with fail
        go_quiet (fail)
        clear ha2 hb2 ha3 hb3
        have hbn' : b < ls.length := by omega
        have han' : a < ls.length := by omega
        have hbd := below_drewN (Below.refl wr.heap.size wr) nq
        have hb04 : Below w.heap.size w (wr.drewN nq) := below_drewN hb03.out nq
        have hl4 := HL.out.belowS hbd
        generalize wr.drewN nq = w4 at hb04 hl4 ⊢
        have i1 := hid (swap_any F g _ 1 a b w4 hl4)
        rw [show twoE (two [] ls) 1 a b = 0 from twoE1 _ _ _ han' hbn', swapQ1 _ _ _ _ han' hbn'] at i1
        go_wp2_with fail
        refine i1.out.mono ?_
        rintro e w5 ⟨F5, rfl, hl5, hg5⟩
        have hx5 := hg5.bel hb04 (Nat.le_refl _) hF0.out
        have i2 := hid (swap_any F5 g _ 1 a b w5 hl5)
        rw [show twoE (two [] (swapL ls a b)) 1 a b = 0 from twoE1 _ _ _ (by simp [two, swapL_len]; omega) (by simp [two, swapL_len]; omega), swapQ1 _ _ _ _ (by rw [swapL_len]; omega) (by rw [swapL_len]; omega), swap_swap han' hbn'] at i2
        clear i1 hg5
        go_wp2_with fail
        refine i2.out.mono ?_
        rintro e w6 ⟨F6, rfl, hl6, hg6⟩
        have hx6 := hg6.bel hx5.1 (Nat.le_refl _) hx5.2
        have i3 := hid (twice_any F6 g _ 1 a w6 hl6)
        have ht := twice1 [] ls a han' (by omega)
        rw [ht.1, ht.2] at i3
        clear i2 hg6 hl5 ht
        generalize ls.getD a [] = fa at i3
        go_wp2_with fail
        refine i3.out.mono ?_
        rintro e w7 ⟨F7, rfl, hl7, hg7⟩
        have hx7 := hg7.bel hx6.1 (Nat.le_refl _) hx6.2
        have i4 := hid (lose_any F7 g _ 1 (ls.length : Int) w7 hl7)
        have ht := lose1 [] ls fa
        rw [ht.1, ht.2] at i4
        have HLL := hid hll
        rw [hll] at i4
        clear i3 hg7 hl6 ht hll
        go_wp2_with fail
        refine i4.out.mono ?_
        rintro e w8 ⟨F8, rfl, hl8, hg8⟩
        have hx8 := hg8.bel hx7.1 (Nat.le_refl _) hx7.2
        clear i4 hg8 hl7 hx7 hx6 hx5
        go_wp2_with fail
        have hll := HLL.out
        go_loopw [13, 14, 15, 80] (fun v13 v14 v15 v80 wr => ∃ (j : Nat) (F : Nat → Prop), j ≤ k ∧ v80 = .int .i64 (j : Int) ∧ LinkAt wr F g (two [] (ls.drop j)) ∧ Below w.heap.size w wr ∧ ∀ b, F b → w.heap.size ≤ b) (fun _ _ _ v80 _ => k - (intOf v80).toNat)
        case atStart => exact ⟨0, F8, by omega, rfl, hl8, hx8.1, hx8.2⟩
        case round =>
          obtain ⟨j, F1, hj, rfl, hl1, hbel1, hF1⟩ := hrel
          have HF1 := hid hF1
          by_cases hjk : j < k
          · obtain ⟨b, ad, A', c', hbk, rfl, had, hcell, hrb, hc1, hc2⟩ := (hr.below hbel1).at_ hjk
            have i1 := hid (take_some F1 g 1 (by omega) _ b (ls.drop (j + 1)) wr hl1 (drop_step ls j b hbk))
            rw [two_1] at i1
            have HB := hid hbk
            have HRB := hid hrb
            have hB1 := hid hbel1
            clear hbk hl1 hF1 hrb
            go_wp2_with fail
            refine i1.out.mono ?_
            rintro e w3 ⟨F3, bb, cc, rfl, hl3, hg3, hm3, hs3, hn3⟩
            have hx3 := hg3.bel hB1.out (Nat.le_refl _) HF1.out
            have i2 := hid (same_b _ A' b.length b.length cc c' b b w3 hm3.reads ((HRB.out.keep fun p hp => hx3.1.cell hp |>.trans (hB1.out.cell hp).symm).more hx3.1.size) (by unfold maxLen at hc2; omega) (by unfold maxLen at hc2; omega))
            rw [decide_eq_true (rfl : b = b)] at i2
            have hl3' := hl3
            clear hcell i1 hg3 hm3 hs3 hn3 hbel1
            go_wp2_with fail
            refine i2.out.mono ?_
            rintro e w4 ⟨rfl, hb4⟩
            go_wp2_with fail
            go_roundw
            case rel => exact ⟨j + 1, F3, by omega, by go_num, hl3'.belowS hb4, hx3.1.trans (hb4.mono hx3.1.size), hx3.2⟩
            case measure => simp [intOf]; omega
          · obtain rfl : j = k := by omega
            rw [List.drop_of_length_le (by omega)] at hl1
            have i2 := hid (len_any F1 g _ 1 wr hl1)
            rw [show lenQ (two [] []) 1 = 0 from rfl] at i2
            have hB1 := hid hbel1
            clear hbel1 hF1 hl1
            go_wp2_with fail
            refine i2.out.mono ?_
            rintro e w4 ⟨rfl, rfl⟩
            go_wp2_with fail
            go_ret
            exact ⟨rfl, hB1.out⟩
  · have hn2 : decide ((31 : Int) < (n : Int)) = true := decide_eq_true (by omega)
    go_enter Try.func5, Try.ntmps5
    go_wp2_with fail
    refine (wakes_any _).mono ?_
    rintro e w1 ⟨rfl, hb1⟩
    go_wp2_with fail
    go_ret
    exact ⟨rfl, hb1⟩
theorem swaps_law (w : World) (A : Option Addr) (n c : Nat) (ls : List (List UInt8)) (hr : Reads2 w w.heap.size A n ls) (hc : n ≤ c) (hm : c ≤ maxLen) (d : Int) (hd : (Lit.int .u8 d).wf = true) (d2 : Int) (hd2 : (Lit.int .u8 d2).wf = true) :
    Calls Try.prog 5 #[.slice A n c, .int .u8 d, .int .u8 d2] w fun e w' => e = .returned (.bool true) ∧ Below w.heap.size w w' := by
  obtain ⟨m, rfl, hm2⟩ := u8_nat hd
  obtain ⟨m2, rfl, hm3⟩ := u8_nat hd2
  exact swaps_any w A n c ls hr hc hm m hm2 m2 hm3
/-! ### LinkSwaps: from the walk to the given statement -/
namespace lawLinkSwaps
theorem own : ownKnob Try.prog.godebug = none := by kernel_rfl
theorem laidOut : laidOutB Try.prog = true := by kernel_rfl
set_option maxRecDepth 100000 in
theorem lifted (os : Os) (started : os.Started) (H : Type) (enc : TypeId × Value → H) :
    ReturnsInHanded {} Try.checked os 5 .any (Rows.linkSwapsSpec.pre6 enc Try.prog Try.f5 Rows.linkSwapsRow.domain false) (Rows.linkSwapsSpec.post enc Try.prog Try.f5 false true false false) := by
  refine returnsInHanded_of_change (C := Try.checked) own started (by kernel_rfl) Try.func5
    (ChangeSpec.witness6 (enc := enc) (C := Try.checked) false ⟨#[], #[.slice none 0 0, .int .u8 0, .int .u8 0], []⟩ 8 (by kernel_rfl) (by kernel_rfl) (by kernel_rfl) (by kernel_rfl)) ?_
  intro W base args ds gs before hval0 hW hcnd _
  have hval : ∀ (j : Nat) t v, Try.f5.params[j]? = some t → args[j]? = some v → Value.okWide Try.prog W .any base t v := hval0
  have hW' := hW
  obtain ⟨p, q, hA0, hV, rfl, hfz, hnd⟩ := hW
  have hA : DataW.TrodAll enc Try.prog W 0 (fun _ => true) true Try.f5.params.toList args.toList ds p := hA0
  rw [Try.params5] at hA hval
  obtain ⟨v0, vs0, d0, ds0, p0, q0, hargs, rfl, rfl, h0, r0⟩ := trodAll_cons hA
  obtain ⟨v1, vs1, d1, ds1, p1, q1, rfl, rfl, rfl, h1, r1⟩ := trodAll_cons r0
  obtain ⟨v2, vs2, d2, ds2, p2, q2, rfl, rfl, rfl, h2, r2⟩ := trodAll_cons r1
  obtain ⟨rfl, rfl, rfl⟩ := trodAll_nil r2
  obtain rfl : args = #[v0, v1, v2] := by cases args; simp_all
  obtain ⟨rfl, rfl⟩ := trodVars_none hV
  have k0 := h0
  have lt0 : ∀ x ∈ p0, x.block < W.heap.size := by obtain ⟨m, hm⟩ := k0; exact DataW.trod_lt m _ _ _ hm
  have k1 := h1
  have lt1 : ∀ x ∈ p1, x.block < W.heap.size := by obtain ⟨m, hm⟩ := k1; exact DataW.trod_lt m _ _ _ hm
  have k2 := h2
  have lt2 : ∀ x ∈ p2, x.block < W.heap.size := by obtain ⟨m, hm⟩ := k2; exact DataW.trod_lt m _ _ _ hm
  obtain ⟨A0, n0, c0, b0, rfl, w0, g0, l0⟩ := open_bytes2 Try.underlying22 Try.underlying26 Try.underlying5 (by kernel_rfl) (by kernel_rfl) (hval 0 22 v0 rfl rfl) h0
  obtain ⟨a1, rfl, rfl, rfl, w1⟩ := open_int Try.underlying5 (hval 1 5 v1 rfl rfl) h1
  obtain ⟨a2, rfl, rfl, rfl, w2⟩ := open_int Try.underlying5 (hval 2 5 v2 rfl rfl) h2
  clear hA0 hval0
  refine (swaps_law W A0 n0 c0 b0 w0 g0 l0 a1 w1 a2 w2).mono fun e W' ⟨he, bel⟩ => ?_
  subst he
  exact ⟨_, rfl, _, _, _, [], _, [], hW', trodAll_mk1 (shut_bool Try.underlying4 _), (trodAll_cons_mk (Below.trod laidOut (by kernel_rfl) (of_decide_eq_true (by kernel_rfl)) k0 bel lt0) (trodAll_cons_mk (Below.trod laidOut (by kernel_rfl) (of_decide_eq_true (by kernel_rfl)) k1 bel lt1) (trodAll_cons_mk (Below.trod laidOut (by kernel_rfl) (of_decide_eq_true (by kernel_rfl)) k2 bel lt2) trodAll_mk0))), rfl, bel.frame _, fun h => by cases h⟩
theorem over : Rows.linkSwapsRow.holds Try.pinned (OpenSpec.ofChange Rows.linkSwapsSpec) :=
  OpenClaim.holds_of_wide 5 Try.f5 rfl rfl rfl rfl rfl rfl rfl ⟨rfl, rfl, rfl, rfl, rfl⟩ rfl rfl rfl rfl rfl (by kernel_rfl) Try.func5 (by kernel_rfl)
    (of_decide_eq_true (by kernel_rfl)) (by unfold Func.isWrapper; first | (rw [if_pos (by decide +kernel)]; kernel_rfl) | (rw [if_neg (by decide +kernel)]; exact ⟨rfl, rfl⟩))
    (fun os started H enc _ => lifted os started H enc)
theorem proved : Rows.LinkSwapsSaid := over
#print axioms proved
end lawLinkSwaps
end Go.Proofs.Ythnifgcoikmihaa
