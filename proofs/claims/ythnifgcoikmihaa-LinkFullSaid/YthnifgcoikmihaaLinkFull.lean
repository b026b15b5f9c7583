/-
  Law 20: a way that has 32 frames loses what is sent, or doubled, till one is taken; the other way doesn't mind (LinkFull).
-/
import Derived.Test.YthnifgcoikmihaaLinkOrder
namespace Go.Proofs.Ythnifgcoikmihaa
open Go.RowKit Go.ChangeShapes Go.WideShapes Go.ChangeAt

/-- The first frames that are sent. -/
def frames (k : Nat) : List (List UInt8) := (List.range k).map fun i => [UInt8.ofNat i]
theorem frames_len (k : Nat) : (frames k).length = k := by simp [frames]
theorem frames_succ (k : Nat) : frames (k + 1) = frames k ++ [[UInt8.ofNat k]] := by simp [frames, List.range_succ]
theorem frames_cons (k : Nat) (h : 0 < k) : ∃ r, frames k = [0] :: r ∧ r.length = k - 1 := by
  obtain ⟨j, rfl⟩ : ∃ j, k = j + 1 := ⟨k - 1, by omega⟩
  refine ⟨((List.range j).map Nat.succ).map fun i => [UInt8.ofNat i], ?_, by simp⟩
  unfold frames
  rw [List.range_succ_eq_map]
  rfl
theorem send_full (q : Ways) (f : List UInt8) (h : (q 0).length = 32) : sendE q 0 = 4 ∧ sendQ q 0 f = q := by
  refine ⟨?_, ?_⟩
  · unfold sendE putE
    rw [if_neg (by omega)]
    exact if_pos h
  · unfold sendQ putQ
    rw [if_neg (by omega)]
    exact if_pos h
theorem u8_frame (k : Nat) : ([UInt8.ofNat k].map bV) = [.int .u8 ((k : Int) % 256)] := by
  simp [bV]
theorem twice_full (x y : List (List UInt8)) (h : x.length = 32) : twiceE (two x y) 0 0 = 4 ∧ twiceQ (two x y) 0 0 = two x y := by
  have h1 : oneE (two x y) 0 0 = 0 := by
    unfold oneE
    rw [if_neg (by omega)]
    show (if outB x 0 then 5 else 0) = (0 : Int)
    rw [if_neg]
    simp [outB, h]
  unfold twiceE twiceQ putE putQ
  rw [if_pos h1, if_pos h1]
  exact ⟨if_pos h, if_pos h⟩
set_option maxRecDepth 100000 in
set_option maxHeartbeats 4000000 in
theorem full_any (w : World) (d : Nat) (hd : d < 256) (A : Option Addr) (n c : Nat) (bs : List UInt8) (hr : Reads w w.heap.size 1 A n (bs.map bV)) (hc : n ≤ c) (hm : c ≤ maxLen) :
    Calls Try.prog 4 #[.int .u8 (d : Int), .slice A n c] w fun e w' => e = .returned (.bool true) ∧ Below w.heap.size w w' := by
  unfold maxLen at hm
  by_cases hn : n ≤ 200
  · have hn2 : decide ((200 : Int) < (n : Int)) = false := decide_eq_false (by omega)
    obtain ⟨s, hs, hs50⟩ : ∃ s : Nat, (d : Int) % 50 = (s : Int) ∧ s < 50 := ⟨d % 50, by omega, Nat.mod_lt _ (by omega)⟩
    go_enter Try.func4, Try.ntmps4
    go_wp2_with fail
    refine (wakes_any _).mono ?_
    rintro e w1 ⟨rfl, hb1⟩
    go_wp2_with fail
    refine (new_two _).mono ?_
    rintro e w2 ⟨rfl, hl2, hb2⟩
    go_wp2_with fail
    simp only [hs]
    clear hs
    have hb02 := bel_trans hb1 hb2
    have hs1 := hb1.size
    generalize w1.heap.size = g at hl2 hs1 ⊢
    go_loopw [7, 8, 21] (fun v7 v8 v21 wr => ∃ (k : Nat) (F : Nat → Prop), k ≤ s ∧ v21 = .int .i64 (k : Int) ∧ LinkAt wr F g (two (frames (min k 32)) []) ∧ Below w.heap.size w wr ∧ ∀ b, F b → w.heap.size ≤ b) (fun _ _ v21 _ => s - (intOf v21).toNat)
    case atStart => exact ⟨0, _, by omega, rfl, hl2, hb02, fun b hb => by omega⟩
    case round =>
      obtain ⟨k, F, hk, rfl, hl, hbel, hF⟩ := hrel
      have hF' := hid hF
      clear hF
      by_cases hks : k < s
      · have h256 : (0 : Int) ≤ (k : Int) ∧ (k : Int) ≤ 255 := by omega
        have hrd : Reads (wr.alloc (.cells #[.int .u8 (k : Int)] 5)) (wr.alloc (.cells #[.int .u8 (k : Int)] 5)).heap.size 1 (some ⟨wr.heap.size, 0, none⟩) 1 ([UInt8.ofNat k].map bV) := by
          have := Reads.lit (n := 1) (size := 1) (heap_alloc_new wr (.cells #[.int .u8 (k : Int)] 5)) rfl
          rw [u8_frame, show ((k : Int) % 256) = (k : Int) by omega]
          exact this
        have i1 := hid (send_any F g _ 0 _ 1 1 [UInt8.ofNat k] _ (hl.alloc (.cells #[.int .u8 (k : Int)] 5)) hrd)
        have hbel2 := hbel.alloc hbel.size (.cells #[.int .u8 (k : Int)] 5)
        by_cases hk32 : k < 32
        · rw [sendE0 _ (by simp [two, frames_len]; omega), sendQ0 _ _ (by simp [two, frames_len]; omega)] at i1
          simp only [two_0] at i1
          have hE : Hid (two (frames (min k 32)) [] 0 ++ [[UInt8.ofNat k]] = frames (min (k + 1) 32)) := by
            refine hid ?_
            rw [show min k 32 = k by omega, show min (k + 1) 32 = k + 1 by omega, frames_succ]
            rfl
          rw [hE.out] at i1
          have hk3 : decide ((k : Int) < 32) = true := decide_eq_true (by omega)
          clear hl hrd hbel
          go_wp2_with fail
          refine i1.out.mono ?_
          rintro e w3 ⟨F3, rfl, hl3, hg3⟩
          have hx3 := hg3.bel hbel2 (Nat.le_refl _) hF'.out
          clear i1 hg3
          go_wp2_with fail
          go_roundw
          case rel => exact ⟨k + 1, F3, by omega, by go_num, hl3, hx3.1, hx3.2⟩
          case measure => simp [intOf]; omega
        · have hsf := send_full (two (frames (min k 32)) []) [UInt8.ofNat k] (by simp [two, frames_len]; omega)
          rw [hsf.1, hsf.2] at i1
          rw [show min k 32 = min (k + 1) 32 by omega] at i1
          have hk3 : decide ((k : Int) < 32) = false := decide_eq_false (by omega)
          clear hl hrd hbel hsf
          go_wp2_with fail
          refine i1.out.mono ?_
          rintro e w3 ⟨F3, rfl, hl3, hg3⟩
          have hx3 := hg3.bel hbel2 (Nat.le_refl _) hF'.out
          clear i1 hg3
          go_wp2_with fail
          go_roundw
          case rel => exact ⟨k + 1, F3, by omega, by go_num, hl3, hx3.1, hx3.2⟩
          case measure => simp [intOf]; omega
      · obtain rfl : k = s := by omega
        have hbel0 := hid hbel
        have HL := hid hl
        clear hbel hl hl2 hb1 hb2 hb02
        by_cases hk0 : k = 0
        · subst hk0
          have i1 := hid (take_none F g _ 0 wr HL.out (.inr (by rfl)))
          go_wp2_with fail
          refine i1.out.mono ?_
          rintro e w3 ⟨rfl, hb3⟩
          go_wp2_with fail
          go_ret
          exact ⟨rfl, hbel0.out.trans (hb3.mono hbel0.out.size)⟩
        · obtain ⟨r, hfr, hrl⟩ := frames_cons (min k 32) (by omega)
          have hkp : decide ((0 : Int) < (k : Int)) = true := decide_eq_true (by omega)
          by_cases hk32 : k ≤ 32
          · have hk3 : decide ((32 : Int) < (k : Int)) = false := decide_eq_false (by omega)
            have i1 := hid (take_some F g 0 (by omega) _ [0] r wr HL.out hfr)
            rw [two_0] at i1
            go_wp2_with fail
            refine i1.out.mono ?_
            rintro e w3 ⟨F3, bb, cc, rfl, hl3, hg3, hm3, hs3, hn3⟩
            have hx3 := hg3.bel hbel0.out (Nat.le_refl _) hF'.out
            have hcell := hm3.cell (j := 0) (x := 0) rfl
            have i2 := hid (len_any F3 g _ 0 w3 hl3)
            rw [show lenQ (two r []) 0 = (r.length : Int) from rfl, hrl, show min k 32 = k by omega] at i2
            have i3 := hid (send_any F3 g _ 0 A n c bs w3 hl3 ((hr.keep fun p hp => hx3.1.cell hp).more hx3.1.size))
            rw [sendE0 _ (by simp [two, hrl]; omega)] at i3
            have hq : ((((k - 1 : Nat) : Int)) == (k : Int) - 1) = true := by rw [beq_iff_eq]; omega
            clear hl3 hm3 hs3 hn3 hg3 i1
            go_wp2_with fail
            refine i2.out.mono ?_
            rintro e w4 ⟨rfl, rfl⟩
            go_wp2_with fail
            refine i3.out.mono ?_
            rintro e w5 ⟨F5, rfl, hl5, hg5⟩
            have hx5 := hg5.bel hx3.1 (Nat.le_refl _) hx3.2
            go_wp2_with fail
            go_ret
            exact ⟨rfl, hx5.1⟩
          · have hk3 : decide ((32 : Int) < (k : Int)) = true := decide_eq_true (by omega)
            have i1 := hid (twice_any F g _ 0 0 wr HL.out)
            have ht := twice_full (frames (min k 32)) [] (by rw [frames_len]; omega)
            rw [ht.1, ht.2] at i1
            clear ht
            go_wp2_with fail
            refine i1.out.mono ?_
            rintro e w3 ⟨F3, rfl, hl3, hg3⟩
            have hx3 := hg3.bel hbel0.out (Nat.le_refl _) hF'.out
            have i2 := hid (send_any F3 g _ 1 A n c bs w3 hl3 ((hr.keep fun p hp => hx3.1.cell hp).more hx3.1.size))
            rw [sendE1 _ (by simp [two]), sendQ1 _ _ (by simp [two]), two_1] at i2
            clear i1 hg3 hl3
            go_wp2_with fail
            refine i2.out.mono ?_
            rintro e w4 ⟨F4, rfl, hl4, hg4⟩
            have hx4 := hg4.bel hx3.1 (Nat.le_refl _) hx3.2
            have i3 := hid (take_some F4 g 0 (by omega) _ [0] r w4 hl4 hfr)
            rw [two_0] at i3
            clear i2 hg4 hl4
            go_wp2_with fail
            refine i3.out.mono ?_
            rintro e w5 ⟨F5, bb, cc, rfl, hl5, hg5, hm5, hs5, hn5⟩
            have hx5 := hg5.bel hx4.1 (Nat.le_refl _) hx4.2
            have hcell := hm5.cell (j := 0) (x := 0) rfl
            have i4 := hid (len_any F5 g _ 0 w5 hl5)
            rw [show lenQ (two r (two (frames (min k 32)) [] 1 ++ [bs])) 0 = (r.length : Int) from rfl, hrl, show min k 32 - 1 = 31 by omega] at i4
            have i5 := hid (send_any F5 g _ 0 A n c bs w5 hl5 ((hr.keep fun p hp => hx5.1.cell hp).more hx5.1.size))
            rw [sendE0 _ (by simp [two, hrl]; omega)] at i5
            clear hl5 hm5 hs5 hn5 hg5 i3
            go_wp2_with fail
            refine i4.out.mono ?_
            rintro e w6 ⟨rfl, rfl⟩
            go_wp2_with fail
            refine i5.out.mono ?_
            rintro e w7 ⟨F7, rfl, hl7, hg7⟩
            have hx7 := hg7.bel hx5.1 (Nat.le_refl _) hx5.2
            go_wp2_with fail
            go_ret
            exact ⟨rfl, hx7.1⟩
  · have hn2 : decide ((200 : Int) < (n : Int)) = true := decide_eq_true (by omega)
    go_enter Try.func4, Try.ntmps4
    go_wp2_with fail
    refine (wakes_any _).mono ?_
    rintro e w1 ⟨rfl, hb1⟩
    go_wp2_with fail
    go_ret
    exact ⟨rfl, hb1⟩
theorem full_law (w : World) (d : Int) (hd : (Lit.int .u8 d).wf = true) (A : Option Addr) (n c : Nat) (bs : List UInt8) (hr : Reads w w.heap.size 1 A n (bs.map bV)) (hc : n ≤ c) (hm : c ≤ maxLen) :
    Calls Try.prog 4 #[.int .u8 d, .slice A n c] w fun e w' => e = .returned (.bool true) ∧ Below w.heap.size w w' := by
  obtain ⟨m, rfl, hm2⟩ := u8_nat hd
  exact full_any w m hm2 A n c bs hr hc hm
/-! ### LinkFull: from the walk to the given statement -/
namespace lawLinkFull
theorem own : ownKnob Try.prog.godebug = none := by kernel_rfl
theorem laidOut : laidOutB Try.prog = true := by kernel_rfl
set_option maxRecDepth 100000 in
theorem lifted (os : Os) (started : os.Started) (H : Type) (enc : TypeId × Value → H) :
    ReturnsInHanded {} Try.checked os 4 .any (Rows.linkFullSpec.pre6 enc Try.prog Try.f4 Rows.linkFullRow.domain false) (Rows.linkFullSpec.post enc Try.prog Try.f4 false true false false) := by
  refine returnsInHanded_of_change (C := Try.checked) own started (by kernel_rfl) Try.func4
    (ChangeSpec.witness6 (enc := enc) (C := Try.checked) false ⟨#[], #[.int .u8 0, .slice none 0 0], []⟩ 8 (by kernel_rfl) (by kernel_rfl) (by kernel_rfl) (by kernel_rfl)) ?_
  intro W base args ds gs before hval0 hW hcnd _
  have hval : ∀ (j : Nat) t v, Try.f4.params[j]? = some t → args[j]? = some v → Value.okWide Try.prog W .any base t v := hval0
  have hW' := hW
  obtain ⟨p, q, hA0, hV, rfl, hfz, hnd⟩ := hW
  have hA : DataW.TrodAll enc Try.prog W 0 (fun _ => true) true Try.f4.params.toList args.toList ds p := hA0
  rw [Try.params4] at hA hval
  obtain ⟨v0, vs0, d0, ds0, p0, q0, hargs, rfl, rfl, h0, r0⟩ := trodAll_cons hA
  obtain ⟨v1, vs1, d1, ds1, p1, q1, rfl, rfl, rfl, h1, r1⟩ := trodAll_cons r0
  obtain ⟨rfl, rfl, rfl⟩ := trodAll_nil r1
  obtain rfl : args = #[v0, v1] := by cases args; simp_all
  obtain ⟨rfl, rfl⟩ := trodVars_none hV
  have k0 := h0
  have lt0 : ∀ x ∈ p0, x.block < W.heap.size := by obtain ⟨m, hm⟩ := k0; exact DataW.trod_lt m _ _ _ hm
  have k1 := h1
  have lt1 : ∀ x ∈ p1, x.block < W.heap.size := by obtain ⟨m, hm⟩ := k1; exact DataW.trod_lt m _ _ _ hm
  obtain ⟨a0, rfl, rfl, rfl, w0⟩ := open_int Try.underlying5 (hval 0 5 v0 rfl rfl) h0
  obtain ⟨A1, n1, c1, b1, rfl, w1, g1, l1⟩ := open_bytes Try.underlying26 Try.underlying5 (by kernel_rfl) (hval 1 26 v1 rfl rfl) h1
  clear hA0 hval0
  refine (full_law W a0 w0 A1 n1 c1 b1 w1 g1 l1).mono fun e W' ⟨he, bel⟩ => ?_
  subst he
  exact ⟨_, rfl, _, _, _, [], _, [], hW', trodAll_mk1 (shut_bool Try.underlying4 _), (trodAll_cons_mk (Below.trod laidOut (by kernel_rfl) (of_decide_eq_true (by kernel_rfl)) k0 bel lt0) (trodAll_cons_mk (Below.trod laidOut (by kernel_rfl) (of_decide_eq_true (by kernel_rfl)) k1 bel lt1) trodAll_mk0)), rfl, bel.frame _, fun h => by cases h⟩
theorem over : Rows.linkFullRow.holds Try.pinned (OpenSpec.ofChange Rows.linkFullSpec) :=
  OpenClaim.holds_of_wide 4 Try.f4 rfl rfl rfl rfl rfl rfl rfl ⟨rfl, rfl, rfl, rfl, rfl⟩ rfl rfl rfl rfl rfl (by kernel_rfl) Try.func4 (by kernel_rfl)
    (of_decide_eq_true (by kernel_rfl)) (by unfold Func.isWrapper; first | (rw [if_pos (by decide +kernel)]; kernel_rfl) | (rw [if_neg (by decide +kernel)]; exact ⟨rfl, rfl⟩))
    (fun os started H enc _ => lifted os started H enc)
theorem proved : Rows.LinkFullSaid := over
#print axioms proved
end lawLinkFull
end Go.Proofs.Ythnifgcoikmihaa
