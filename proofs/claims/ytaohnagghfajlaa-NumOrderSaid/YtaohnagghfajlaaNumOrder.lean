/-
  NumOrder: of two numbers of so many bytes the greater one's bytes are the greater ones, from the first unlike one on. For every input.
-/
import Derived.Test.YtaohnagghfajlaaNum
import Derived.Test.YtaohnagghfajlaaOpen
import Derived.Test.YtaohnagghfajlaaRows
namespace Go.Proofs.Ytaohnagghfajlaa
open Go.RowKit Go.ChangeShapes Go.WideShapes Go.ChangeAt

theorem dig_split (m w k : Nat) (h : k < w) : m / 256 ^ (w - 1 - k) = m / 256 ^ (w - k) * 256 + (dig m w k).toNat := by
  unfold dig
  rw [UInt8.toNat_ofNat', show w - k = (w - 1 - k) + 1 by omega, Nat.pow_succ, ← Nat.div_div_eq_div_mul]
  have := Nat.div_add_mod (m / 256 ^ (w - 1 - k)) 256
  omega
theorem dig_prefix (a b w : Nat) (ha : a < 256 ^ w) (hb : b < 256 ^ w) : ∀ k, k ≤ w → (digs a w).take k = (digs b w).take k → a / 256 ^ (w - k) = b / 256 ^ (w - k)
  | 0, _, _ => by simp [Nat.div_eq_of_lt ha, Nat.div_eq_of_lt hb]
  | k + 1, hk, h => by
    rw [digs_take_succ a w k (by omega), digs_take_succ b w k (by omega)] at h
    obtain ⟨h1, h2⟩ := List.append_inj' h rfl
    have ih := dig_prefix a b w ha hb k (by omega) h1
    have e1 := dig_split a w k (by omega)
    have e2 := dig_split b w k (by omega)
    have hd : dig a w k = dig b w k := by simpa using h2
    rw [show w - (k + 1) = w - 1 - k by omega, e1, e2, ih, hd]
theorem dig_lt_iff (a b w k : Nat) (ha : a < 256 ^ w) (hb : b < 256 ^ w) (hk : k < w) (h : (digs a w).take k = (digs b w).take k) (hne : dig a w k ≠ dig b w k) :
    ((dig a w k).toNat < (dig b w k).toNat) ↔ a < b := by
  have ih := dig_prefix a b w ha hb k (by omega) h
  have e1 := dig_split a w k hk
  have e2 := dig_split b w k hk
  rw [ih] at e1
  have hne' : (dig a w k).toNat ≠ (dig b w k).toNat := fun e => hne (UInt8.toNat.inj e)
  constructor
  · intro hl
    rcases Nat.lt_or_ge a b with h' | h'
    · exact h'
    · have := Nat.div_le_div_right (c := 256 ^ (w - 1 - k)) h'
      omega
  · intro hl
    have := Nat.div_le_div_right (c := 256 ^ (w - 1 - k)) (Nat.le_of_lt hl)
    omega
theorem digs_get (m w k : Nat) (h : k < w) : (digs m w)[k]? = some (dig m w k) := by simp [digs, h]

theorem numOrder_any (a : Int) (_ : (Lit.int .i64 a).wf = true) (b : Int) (_ : (Lit.int .i64 b).wf = true) (ww : Int) (_ : (Lit.int .i64 ww).wf = true) (w : World) :
    Calls Try.prog 3 #[.int .i64 a, .int .i64 b, .int .i64 ww] w fun e w' => e = .returned (.bool true) ∧ Below w.heap.size w w' := by
  have hw := wid_bd ww
  have hwid := hid (fun w => width_any ww w)
  have hpa := hid (fun w => put_nil a ww w)
  have hpb := hid (fun w => put_nil b ww w)
  generalize wid ww = W at hw hwid hpa hpb ⊢
  obtain ⟨P, hP, hP1, hP2, HP⟩ := pow_name W hw
  obtain ⟨ma, X0, hX0, hMa, hma, Hma⟩ := clip_name a W P hw HP
  obtain ⟨mb, Y0, hY0, hMb, hmb, Hmb⟩ := clip_name b W P hw HP
  go_enter Try.func3, Try.ntmps3
  go_wp2_with fail
  refine (numWakes_any w).mono ?_
  rintro e w0 ⟨rfl, hb0⟩
  go_wp2_with fail
  refine (hpa.out w0).mono ?_
  rintro e w1 ⟨A1, c1, rfl, hown1, hb1⟩
  go_wp2_with fail
  refine (hpb.out w1).mono ?_
  rintro e w2 ⟨A2, c2, rfl, hown2, hb2⟩
  go_wp2_with fail
  refine (hwid.out w2).mono ?_
  rintro e w3 ⟨rfl, rfl⟩
  have hbe : Below w.heap.size w w2 := (hb0.trans (hb1.mono hb0.size)).trans (hb2.mono (Nat.le_trans hb0.size hb1.size))
  have hr1 : Reads w2 w2.heap.size 1 A1 W ((putB a W).map bV) := Reads.of_own (own_below hown1 hb2)
  have hr2 : Reads w2 w2.heap.size 1 A2 W ((putB b W).map bV) := Reads.of_own hown2
  unfold putB at hr1 hr2
  rw [← Hma.out] at hr1
  rw [← Hmb.out] at hr2
  have hla : ma < 256 ^ W := by rw [Hma.out]; exact clip_lt a W hw.2
  have hlb : mb < 256 ^ W := by rw [Hmb.out]; exact clip_lt b W hw.2
  clear hown1 hown2 hb0 hb1 hb2 hwid hpa hpb HP Hma Hmb
  have HLA := hid hla
  have HLB := hid hlb
  clear hla hlb
  go_wp2_with fail
  go_loopw [10, 34] (fun v i wr => ∃ k q : Nat, k ≤ W ∧ i = .int .i64 (k : Int) ∧ wr = w2.drewN q ∧ (digs ma W).take k = (digs mb W).take k) (fun _ i _ => W - (intOf i).toNat)
  case atStart => exact ⟨0, 0, by omega, rfl, rfl, by simp⟩
  case round =>
    obtain ⟨k, q, hk, rfl, rfl, htk⟩ := hrel
    have HT := hid htk
    clear htk
    by_cases hkW : k < W
    · obtain ⟨ad1, x1, rfl, _, hx1, hc1⟩ := hr1.atM hkW
      obtain ⟨ad2, x2, rfl, _, hx2, hc2⟩ := hr2.atM hkW
      rw [digs_get _ _ _ hkW] at hx1 hx2
      simp only [Option.some.injEq] at hx1 hx2
      have HX1 := hid hx1
      have HX2 := hid hx2
      clear hx1 hx2 hr1 hr2
      by_cases hxe : x1 = x2
      · have HS : Hid ((digs ma W).take (k + 1) = (digs mb W).take (k + 1)) := by
          refine hid ?_
          rw [digs_take_succ _ _ _ hkW, digs_take_succ _ _ _ hkW, HT.out, HX1.out, HX2.out, hxe]
        subst hxe
        go_wp2_with fail
        go_quiet (fail)
        go_wp2_with fail
        go_roundw
        case rel => exact ⟨k + 1, q + nq, by omega, by go_num, by simp, HS.out⟩
        case measure => simp [intOf]; omega
      · have hne : ((x1.toNat : Int) == (x2.toNat : Int)) = false := by
          simp only [beq_eq_false_iff_ne, ne_eq]
          intro h
          exact hxe (UInt8.toNat.inj (by omega))
        have hne2 : ((x1.toNat : Int) != (x2.toNat : Int)) = true := by rw [bne, hne]; rfl
        have hiff := dig_lt_iff ma mb W k HLA.out HLB.out hkW HT.out (by rw [HX1.out, HX2.out]; exact hxe)
        rw [HX1.out, HX2.out] at hiff
        have heq : decide (x1.toNat < x2.toNat) = decide (ma < mb) := by
          rw [decide_eq_decide]; omega
        have HE := hid heq
        clear heq hiff
        go_wp2_with fail
        go_quiet (fail)
        go_wp2_with fail
        go_quiet (fail)
        go_wp2_with fail
        go_ret
        exact ⟨ret_bool (by rw [HE.out]; simp), below_drewN (below_drewN (below_drewN hbe _) _) _⟩
    · obtain rfl : k = W := by omega
      have he : ma = mb := by
        have h := dig_prefix ma mb k HLA.out HLB.out k (Nat.le_refl _) HT.out
        simpa using h
      have hme : ((ma : Int) == (mb : Int)) = true := by simp [he]
      clear he
      go_wp2_with fail
      go_ret
      exact ⟨rfl, below_drewN hbe _⟩

/-! ### NumOrder: from the walk to the given statement -/
namespace lawNumOrder
theorem own : ownKnob Try.prog.godebug = none := by kernel_rfl
theorem laidOut : laidOutB Try.prog = true := by kernel_rfl
set_option maxRecDepth 100000 in
theorem lifted (os : Os) (started : os.Started) (H : Type) (enc : TypeId × Value → H) :
    ReturnsInHanded {} Try.checked os 3 .any (Rows.numOrderSpec.pre6 enc Try.prog Try.f3 Rows.numOrderRow.domain false) (Rows.numOrderSpec.post enc Try.prog Try.f3 false true false false) := by
  refine returnsInHanded_of_change (C := Try.checked) own started (by kernel_rfl) Try.func3
    (ChangeSpec.witness6 (enc := enc) (C := Try.checked) false ⟨#[], #[.int .i64 0, .int .i64 0, .int .i64 0], []⟩ 8 (by kernel_rfl) (by kernel_rfl) (by kernel_rfl) (by kernel_rfl)) ?_
  intro W base args ds gs before hval0 hW hcnd _
  have hval : ∀ (j : Nat) t v, Try.f3.params[j]? = some t → args[j]? = some v → Value.okWide Try.prog W .any base t v := hval0
  have hW' := hW
  obtain ⟨p, q, hA0, hV, rfl, hfz, hnd⟩ := hW
  have hA : DataW.TrodAll enc Try.prog W 0 (fun _ => true) true Try.f3.params.toList args.toList ds p := hA0
  rw [Try.params3] at hA hval
  obtain ⟨v0, vs0, d0, ds0, p0, q0, hargs, rfl, rfl, h0, r0⟩ := trodAll_cons hA
  obtain ⟨v1, vs1, d1, ds1, p1, q1, rfl, rfl, rfl, h1, r1⟩ := trodAll_cons r0
  obtain ⟨v2, vs2, d2, ds2, p2, q2, rfl, rfl, rfl, h2, r2⟩ := trodAll_cons r1
  obtain ⟨rfl, rfl, rfl⟩ := trodAll_nil r2
  obtain rfl : args = #[v0, v1, v2] := by cases args; simp_all
  obtain ⟨rfl, rfl⟩ := trodVars_none hV
  have k0 := h0
  have lt0 : ∀ x ∈ p0, x.block < W.heap.size := by obtain ⟨m, hm⟩ := k0; exact DataW.trod_lt m _ _ _ hm
  have k1 := h1
  have lt1 : ∀ x ∈ p1, x.block < W.heap.size := by obtain ⟨m, hm⟩ := k1; exact DataW.trod_lt m _ _ _ hm
  have k2 := h2
  have lt2 : ∀ x ∈ p2, x.block < W.heap.size := by obtain ⟨m, hm⟩ := k2; exact DataW.trod_lt m _ _ _ hm
  obtain ⟨a0, rfl, rfl, rfl, w0⟩ := open_int Try.underlying3 (hval 0 3 v0 rfl rfl) h0
  obtain ⟨a1, rfl, rfl, rfl, w1⟩ := open_int Try.underlying3 (hval 1 3 v1 rfl rfl) h1
  obtain ⟨a2, rfl, rfl, rfl, w2⟩ := open_int Try.underlying3 (hval 2 3 v2 rfl rfl) h2
  clear hA0 hval0
  refine (numOrder_any a0 w0 a1 w1 a2 w2 W).mono fun e W' ⟨he, bel⟩ => ?_
  subst he
  exact ⟨_, rfl, _, _, _, [], _, [], hW', trodAll_mk1 (shut_bool Try.underlying4 _), (trodAll_cons_mk (Below.trod laidOut (by kernel_rfl) (of_decide_eq_true (by kernel_rfl)) k0 bel lt0) (trodAll_cons_mk (Below.trod laidOut (by kernel_rfl) (of_decide_eq_true (by kernel_rfl)) k1 bel lt1) (trodAll_cons_mk (Below.trod laidOut (by kernel_rfl) (of_decide_eq_true (by kernel_rfl)) k2 bel lt2) trodAll_mk0))), rfl, bel.frame _, fun h => by cases h⟩
theorem over : Rows.numOrderRow.holds Try.pinned (OpenSpec.ofChange Rows.numOrderSpec) :=
  OpenClaim.holds_of_wide 3 Try.f3 rfl rfl rfl rfl rfl rfl rfl ⟨rfl, rfl, rfl, rfl, rfl⟩ rfl rfl rfl rfl rfl (by kernel_rfl) Try.func3 (by kernel_rfl)
    (of_decide_eq_true (by kernel_rfl)) (by unfold Func.isWrapper; first | (rw [if_pos (by decide +kernel)]; kernel_rfl) | (rw [if_neg (by decide +kernel)]; exact ⟨rfl, rfl⟩))
    (fun os started H enc _ => lifted os started H enc)
theorem proved : Rows.NumOrderSaid := over
#print axioms proved
end lawNumOrder
end Go.Proofs.Ytaohnagghfajlaa
