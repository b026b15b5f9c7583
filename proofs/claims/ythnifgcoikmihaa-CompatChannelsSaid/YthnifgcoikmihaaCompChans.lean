/-
  Of any table and partition the channels from it, and to it, are what the document says; no channel is both. No condition.
-/
import Derived.Test.YthnifgcoikmihaaCompEx
import Derived.Test.YthnifgcoikmihaaRef10
import Derived.Test.YthnifgcoikmihaaRefRight
import Derived.Test.YthnifgcoikmihaaOpenTab
import Derived.Test.YthnifgcoikmihaaRows
namespace Go.Proofs.Ythnifgcoikmihaa
open Go.RowKit Go.ChangeShapes Go.WideShapes Go.ChangeAt Go.Deep Go.Joins

theorem and_all : ∀ m R : Fin 16, (bits BinOp.and IntKind.i64 (m.val : Int) (R.val : Int) == 0) = (!(bitB m.val 0 && bitB R.val 0) && !(bitB m.val 1 && bitB R.val 1) && !(bitB m.val 2 && bitB R.val 2) && !(bitB m.val 3 && bitB R.val 3)) := by decide +kernel
theorem ends_apart (t : TabS) (p : Int) : (bits BinOp.and IntKind.i64 (chansB ChanS.src t p : Int) (chansB ChanS.dst t p : Int) == 0) = true := by
  have h := and_all ⟨chansB ChanS.src t p, chansB_lt _ _ _⟩ ⟨chansB ChanS.dst t p, chansB_lt _ _ _⟩
  refine h.trans ?_
  simp only
  cases hR : rightB t with
  | false =>
    have e : ∀ f, chansB f t p = 0 := fun f => by unfold chansB; rw [hR]; rfl
    rw [e, e]
    decide
  | true =>
    cases hp : hasB t p with
    | false =>
      have e : ∀ f, chansB f t p = 0 := fun f => by unfold chansB; rw [hR, hp]; rfl
      rw [e, e]
      decide
    | true =>
      have key : ∀ k, (bitB (chansB ChanS.src t p) k && bitB (chansB ChanS.dst t p) k) = false := fun k => by
        rw [chansB_bit _ t p k hR hp, chansB_bit _ t p k hR hp]
        cases hc : t.chans[k]? with
        | none => rfl
        | some c =>
          have := ((rightB_iff t).1 hR).cs c (List.mem_of_getElem? hc)
          simp only [Option.map_some, Option.getD_some, Bool.and_eq_false_iff, beq_eq_false_iff_ne]
          omega
      rw [key, key, key, key]
      rfl
set_option maxRecDepth 100000 in
set_option maxHeartbeats 8000000 in
theorem compatChannels_any (w : World) (t : TabS) (a : TabA) (ht : TabCame w t a) (p : Int) (wp : (Lit.int .i64 p).wf = true) :
    Calls Try.prog 8 #[tabV t a, .int .i64 p] w fun e w' => e = .returned (.bool true) ∧ Below w.heap.size w w' := by
  have bp := bounds_i64 wp
  have HO := hid (fun (l1 : t.parts.length ≤ 100000) (l2 : t.wins.length ≤ 100000) (l3 : t.chans.length ≤ 100000) w' (hb : Below w.heap.size w w') => (⟨ht.inn.belowS hb, l1, l2, l3, ht.f1, ht.f2⟩ : TabOk w' t a))
  have iL := hid (fun w => longC_any t a w ht.l1 ht.l2 ht.l3)
  have HL : Hid (longC t = (decide (20 < t.parts.length) || decide (40 < t.wins.length) || decide (20 < t.chans.length))) := hid rfl
  have jS := hid (fun w' h => sends_any t a p w' h)
  have jD := hid (fun w' h => receives_any t a p w' h)
  have jR := hid (fun w' h => refRight_any t a w' h)
  have HAP := hid (ends_apart t p)
  have HBS := hid (fun k h hp => chansB_bit ChanS.src t p k h hp)
  have HBD := hid (fun k h hp => chansB_bit ChanS.dst t p k h hp)
  have HLS := hid (chansB_lt ChanS.src t p)
  have HLD := hid (chansB_lt ChanS.dst t p)
  have HCS := hid (show chansB ChanS.src t p = if rightB t && hasB t p then maskC ChanS.src p t.chans else 0 from rfl)
  have HCD := hid (show chansB ChanS.dst t p = if rightB t && hasB t p then maskC ChanS.dst p t.chans else 0 from rfl)
  have HHP := hid (hasB_eq t p)
  obtain ⟨A1, q1, A2, q2, A3, q3⟩ := a
  clear ht
  simp only [tabV] at *
  generalize longC t = L at *
  generalize rightB t = r1 at *
  generalize hasB t p = r2 at *
  generalize chansB ChanS.src t p = S at *
  generalize chansB ChanS.dst t p = D at *
  obtain ⟨w1, hw1, hb1, hT1⟩ : ∃ w1, w.alloc (.cells #[.int .i64 t.frame, .slice A1 t.parts.length q1, .slice A2 t.wins.length q2, .slice A3 t.chans.length q3, .int .i64 t.trial] 55) = w1 ∧ Below w.heap.size w w1 ∧ Blk w1 w.heap.size 55 [.int .i64 t.frame, .slice A1 t.parts.length q1, .slice A2 t.wins.length q2, .slice A3 t.chans.length q3, .int .i64 t.trial] := ⟨_, rfl, (Below.refl _ _).alloc (Nat.le_refl _) _, Blk.new w _ [.int .i64 t.frame, .slice A1 t.parts.length q1, .slice A2 t.wins.length q2, .slice A3 t.chans.length q3, .int .i64 t.trial]⟩
  have HT := hid (fun w' (b : Blk w' w.heap.size 55 [.int .i64 t.frame, .slice A1 t.parts.length q1, .slice A2 t.wins.length q2, .slice A3 t.chans.length q3, .int .i64 t.trial]) => (⟨b.cellAt (i := 0) rfl, b.cellAt (i := 1) rfl, b.cellAt (i := 2) rfl, b.cellAt (i := 3) rfl, b.cellAt (i := 4) rfl⟩ : _ ∧ _ ∧ _ ∧ _ ∧ _))
  obtain ⟨c0, c1, c2, c3, c4⟩ := HT.out _ hT1
  go_enter Try.func8, Try.ntmps8
  go_wp2_with fail
  refine (wakesC_any _).mono ?_
  rintro e w2 ⟨rfl, hbz⟩
  clear hw1
  have hT2 := hT1.belowS hbz
  have hb2 := bel_trans hb1 hbz
  clear c0 c1 c2 c3 c4 hT1 hb1 hbz
  obtain ⟨c0, c1, c2, c3, c4⟩ := HT.out _ hT2
  go_wp2_with fail
  refine (iL.out _).mono ?_
  rintro e w3 ⟨rfl, hbz⟩
  have hT3 := hT2.belowS hbz
  have hb3 := bel_trans hb2 hbz
  clear c0 c1 c2 c3 c4 hT2 hb2 hbz
  obtain ⟨c0, c1, c2, c3, c4⟩ := HT.out _ hT3
  cases L with
  | true =>
    go_wp2_with fail
    go_ret
    exact ⟨rfl, hb3⟩
  | false =>
    have hl3 := HL.out
    have hl1 : t.parts.length ≤ 100000 ∧ t.wins.length ≤ 100000 ∧ t.chans.length ≤ 100000 := by
      have h4 := hl3.symm
      rw [Bool.or_eq_false_iff, Bool.or_eq_false_iff, decide_eq_false_iff_not, decide_eq_false_iff_not, decide_eq_false_iff_not] at h4
      omega
    clear hl3
    have hn3 := hl1.2.2
    have HOK := hid (HO.out hl1.1 hl1.2.1 hl1.2.2)
    clear hl1 HO HL iL
    have HTB := hid hT3
    have HB3 := hid hb3
    have HR0 := hid (Below.refl w3.heap.size w3)
    clear hT3 hb3
    go_wp2_with fail
    go_region_held3 (fun w' => w'.cell? ⟨w.heap.size, 0, none⟩ = some (.int .i64 t.frame) ∧ w'.cell? ⟨w.heap.size, 1, none⟩ = some (.slice A1 t.parts.length q1) ∧ w'.cell? ⟨w.heap.size, 2, none⟩ = some (.slice A2 t.wins.length q2) ∧ w'.cell? ⟨w.heap.size, 3, none⟩ = some (.slice A3 t.chans.length q3) ∧ w'.cell? ⟨w.heap.size, 4, none⟩ = some (.int .i64 t.trial)) (go_keep)
      (first
        | (go_at_call 29; refine (jS.out _ ?_).mono ?_; (first | exact HOK.out _ (bel_trans HB3.out HR0.out) | exact HOK.out _ (bel_trans HB3.out HR0.out).drew); rintro e wa ⟨rfl, hba'⟩; have hBn : Below w3.heap.size w3 wa := (by first | exact bel_trans HR0.out hba' | exact bel_trans HR0.out ⟨hba'.os, hba'.tape, hba'.output, hba'.size, hba'.block⟩); clear hba'; have HR0 := hid hBn; have hqq := hid (HT.out _ (HTB.out.belowS hBn)); clear hBn; obtain ⟨z0, z1, z2, z3, z4⟩ := hqq.out)
        | (go_at_call 30; refine (jD.out _ ?_).mono ?_; (first | exact HOK.out _ (bel_trans HB3.out HR0.out) | exact HOK.out _ (bel_trans HB3.out HR0.out).drew); rintro e wa ⟨rfl, hba'⟩; have hBn : Below w3.heap.size w3 wa := (by first | exact bel_trans HR0.out hba' | exact bel_trans HR0.out ⟨hba'.os, hba'.tape, hba'.output, hba'.size, hba'.block⟩); clear hba'; have HR0 := hid hBn; have hqq := hid (HT.out _ (HTB.out.belowS hBn)); clear hBn; obtain ⟨z0, z1, z2, z3, z4⟩ := hqq.out))
    have hT4 := HTB.out.belowS HR0.out
    have hb4 := bel_trans HB3.out HR0.out
    obtain ⟨c0, c1, c2, c3, c4⟩ := HT.out _ hT4
    clear HTB HB3 HR0 hqq z0 z1 z2 z3 z4
    go_wp2_with fail
    refine (jR.out _ (HOK.out _ hb4)).mono ?_
    rintro e w5 ⟨rfl, hbz⟩
    have hT5 := hT4.belowS hbz
    have hb5 := bel_trans hb4 hbz
    clear c0 c1 c2 c3 c4 hT4 hb4 hbz
    obtain ⟨c0, c1, c2, c3, c4⟩ := HT.out _ hT5
    cases r1 with
    | false =>
      have hS : S = 0 := by rw [HCS.out]; rfl
      have hD : D = 0 := by rw [HCD.out]; rfl
      subst hS hD
      go_wp2_with fail
      go_ret
      exact ⟨rfl, hb5⟩
    | true =>
      by_cases h0 : p < 0
      · have y0 : decide (p < 0) = true := decide_eq_true h0
        have hr2 : r2 = false := by rw [HHP.out, Bool.and_eq_false_iff, decide_eq_false_iff_not]; left; omega
        subst hr2
        have hS : S = 0 := by rw [HCS.out]; rfl
        have hD : D = 0 := by rw [HCD.out]; rfl
        subst hS hD
        clear h0
        go_wp2_with fail
        go_ret
        exact ⟨rfl, hb5⟩
      · have y0 : decide (p < 0) = false := decide_eq_false h0
        obtain ⟨pk, rfl⟩ : ∃ k : Nat, p = (k : Int) := ⟨p.toNat, by omega⟩
        by_cases h1 : t.parts.length ≤ pk
        · have y1 : decide ((t.parts.length : Int) ≤ (pk : Int)) = true := by simp; omega
          have y2 : decide (t.parts.length ≤ pk) = true := by simp; omega
          have hr2 : r2 = false := by rw [HHP.out, Bool.and_eq_false_iff, decide_eq_false_iff_not, decide_eq_false_iff_not]; right; omega
          subst hr2
          have hS : S = 0 := by rw [HCS.out]; rfl
          have hD : D = 0 := by rw [HCD.out]; rfl
          subst hS hD
          clear h0 h1
          go_wp2_with fail
          go_ret
          exact ⟨rfl, hb5⟩
        · have y1 : decide ((t.parts.length : Int) ≤ (pk : Int)) = false := by simp; omega
          have y2 : decide (t.parts.length ≤ pk) = false := by simp; omega
          have hr2 : r2 = true := by rw [HHP.out, Bool.and_eq_true, decide_eq_true_eq, decide_eq_true_eq]; omega
          subst hr2
          have HS := hid (fun k => HBS.out k (by first | trivial | rfl) (by first | trivial | rfl))
          have HD := hid (fun k => HBD.out k (by first | trivial | rfl) (by first | trivial | rfl))
          have HIN := hid ((HOK.out _ hb5).inn.2.2)
          simp only at HIN
          have hS16 := HLS.out
          have hD16 := HLD.out
          clear HCS HCD HBS HBD HHP HOK HLS HLD h0 h1
          go_wp2_with fail
          have HB5 := hid hb5
          clear y0 y1 y2 hb5 hT5
          go_loop [7, 8, 9, 40] (fun _ _ _ v40 => ∃ k : Nat, k ≤ 5 ∧ v40 = .int .i64 (k : Int)) (fun _ _ _ v40 => 5 - (intOf v40).toNat)
          case atStart => exact ⟨0, by omega, rfl⟩
          case round =>
            obtain ⟨k, hk, rfl⟩ := hrel
            by_cases hk5 : k < 5
            · have u5 := hid (refHas_any S k w5 hS16 (by omega))
              have u6 := hid (refHas_any D k w5 hD16 (by omega))
              rw [HS.out k] at u5
              rw [HD.out k] at u6
              by_cases hkn : k < t.chans.length
              · obtain ⟨ac, y, hA, _, hy, hy0, hyc⟩ := HIN.out.at_ hkn
                subst hA
                have s0 := hy0 _ rfl
                have s1 := hyc 0 _ rfl
                rw [hy] at u5 u6
                simp only [Option.map_some, Option.getD_some] at u5 u6
                clear hy0 hyc hy
                obtain ⟨sr, ds, dp⟩ := y
                simp only at s0 s1 u5 u6
                obtain ⟨f5, hbs⟩ : ∃ f, (sr == (pk : Int)) = f := ⟨_, rfl⟩
                obtain ⟨f6, hbd⟩ : ∃ f, (ds == (pk : Int)) = f := ⟨_, rfl⟩
                rw [hbs] at u5
                rw [hbd] at u6
                have z4 : (0 : Int) ≤ (k : Int) := Int.natCast_nonneg _
                have z5 : (k : Int) < (t.chans.length : Int) := by omega
                cases f5 <;> cases f6
                all_goals
                  go_wp2_with fail
                  refine u5.out.mono ?_
                  rintro e w6 ⟨rfl, rfl⟩
                  go_wp2_with fail
                  refine u6.out.mono ?_
                  rintro e w7 ⟨rfl, rfl⟩
                  go_wp2_with fail
                  go_round
                  case rel => exact ⟨k + 1, by omega, by go_num⟩
                  case measure => simp [intOf]; omega
              · rw [List.getElem?_eq_none (by omega)] at u5 u6
                simp only [Option.map_none, Option.getD_none] at u5 u6
                have z2 : decide ((k : Int) < (t.chans.length : Int)) = false := by simp; omega
                have z3 : decide (k < t.chans.length) = false := by simp; omega
                go_wp2_with fail
                refine u5.out.mono ?_
                rintro e w6 ⟨rfl, rfl⟩
                go_wp2_with fail
                refine u6.out.mono ?_
                rintro e w7 ⟨rfl, rfl⟩
                go_wp2_with fail
                go_round
                case rel => exact ⟨k + 1, by omega, by go_num⟩
                case measure => simp [intOf]; omega
            · obtain rfl : k = 5 := by omega
              go_wp2_with fail
              go_ret
              exact ⟨ret_bool HAP.out, HB5.out⟩
/-! ### CompatChannels: from the walk to the given statement -/
namespace lawCompatChannels
theorem own : ownKnob Try.prog.godebug = none := by kernel_rfl
theorem laidOut : laidOutB Try.prog = true := by kernel_rfl
set_option maxRecDepth 100000 in
theorem lifted (os : Os) (started : os.Started) (H : Type) (enc : TypeId × Value → H) :
    ReturnsInHanded {} Try.checked os 8 .any (Rows.compatChannelsSpec.pre6 enc Try.prog Try.f8 Rows.compatChannelsRow.domain false) (Rows.compatChannelsSpec.post enc Try.prog Try.f8 false true false false) := by
  refine returnsInHanded_of_change (C := Try.checked) own started (by kernel_rfl) Try.func8
    (ChangeSpec.witness6 (enc := enc) (C := Try.checked) false ⟨#[], #[.agg #[.int .i64 0, .slice none 0 0, .slice none 0 0, .slice none 0 0, .int .i64 0], .int .i64 0], []⟩ 8 (by kernel_rfl) (by kernel_rfl) (by kernel_rfl) (by kernel_rfl)) ?_
  intro W base args ds gs before hval0 hW hcnd _
  have hval : ∀ (j : Nat) t v, Try.f8.params[j]? = some t → args[j]? = some v → Value.okWide Try.prog W .any base t v := hval0
  have hW' := hW
  obtain ⟨p, q, hA0, hV, rfl, hfz, hnd⟩ := hW
  have hA : DataW.TrodAll enc Try.prog W 0 (fun _ => true) true Try.f8.params.toList args.toList ds p := hA0
  rw [Try.params8] at hA hval
  obtain ⟨v0, vs0, d0, ds0, p0, q0, hargs, rfl, rfl, h0, r0⟩ := trodAll_cons hA
  obtain ⟨v1, vs1, d1, ds1, p1, q1, rfl, rfl, rfl, h1, r1⟩ := trodAll_cons r0
  obtain ⟨rfl, rfl, rfl⟩ := trodAll_nil r1
  obtain rfl : args = #[v0, v1] := by cases args; simp_all
  obtain ⟨rfl, rfl⟩ := trodVars_none hV
  have k0 := h0
  have lt0 : ∀ x ∈ p0, x.block < W.heap.size := by obtain ⟨m, hm⟩ := k0; exact DataW.trod_lt m _ _ _ hm
  have k1 := h1
  have lt1 : ∀ x ∈ p1, x.block < W.heap.size := by obtain ⟨m, hm⟩ := k1; exact DataW.trod_lt m _ _ _ hm
  obtain ⟨t0, a0, rfl, w0⟩ := open_tab (hval 0 55 v0 rfl rfl) h0
  obtain ⟨a1, rfl, rfl, rfl, w1⟩ := open_int Try.underlying3 (hval 1 3 v1 rfl rfl) h1
  clear hA0 hval0
  refine (compatChannels_any W t0 a0 w0 a1 w1).mono fun e W' ⟨he, bel⟩ => ?_
  subst he
  exact ⟨_, rfl, _, _, _, [], _, [], hW', trodAll_mk1 (shut_bool Try.underlying4 _), (trodAll_cons_mk (Below.trod laidOut (by kernel_rfl) (of_decide_eq_true (by kernel_rfl)) k0 bel lt0) (trodAll_cons_mk (Below.trod laidOut (by kernel_rfl) (of_decide_eq_true (by kernel_rfl)) k1 bel lt1) trodAll_mk0)), rfl, bel.frame _, fun h => by cases h⟩
theorem over : Rows.compatChannelsRow.holds Try.pinned (OpenSpec.ofChange Rows.compatChannelsSpec) :=
  OpenClaim.holds_of_wide 8 Try.f8 rfl rfl rfl rfl rfl rfl rfl ⟨rfl, rfl, rfl, rfl, rfl⟩ rfl rfl rfl rfl rfl (by kernel_rfl) Try.func8 (by kernel_rfl)
    (of_decide_eq_true (by kernel_rfl)) (by unfold Func.isWrapper; first | (rw [if_pos (by decide +kernel)]; kernel_rfl) | (rw [if_neg (by decide +kernel)]; exact ⟨rfl, rfl⟩))
    (fun os started H enc _ => lifted os started H enc)
theorem proved : Rows.CompatChannelsSaid := over
#print axioms proved
end lawCompatChannels

end Go.Proofs.Ythnifgcoikmihaa
