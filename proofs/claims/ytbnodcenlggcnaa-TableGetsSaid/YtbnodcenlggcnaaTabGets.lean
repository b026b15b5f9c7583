/-
  Law 05: any bytes are the table that the document says, or refused by its error; what is got, put again, is the very bytes (TableGets).
-/
import Derived.Test.YtbnodcenlggcnaaTabPuts
import Derived.Test.YtbnodcenlggcnaaTabRGet
namespace Go.Proofs.Ytbnodcenlggcnaa
open Go.RowKit Go.ChangeShapes Go.WideShapes Go.ChangeAt

theorem getB_bds (b : List UInt8) : (getB b).1.parts.length < 256 ∧ (getB b).1.wins.length < 256 ∧ (getB b).1.chans.length < 256 := by
  unfold getB
  split
  · simp [tabZ]
  · split
    · unfold getT rdHead
      simp only [rdMany_len]
      exact ⟨rNum_bd1 _, rNum_bd1 _, rNum_bd1 _⟩
    · simp [tabZ]
theorem getB_frame (b : List UInt8) : -9223372036854775808 ≤ (getB b).1.frame ∧ (getB b).1.frame ≤ 9223372036854775807 := by
  unfold getB
  split
  · simp [tabZ]
  · split
    · unfold getT rdHead
      simp only
      have := rNum_bd1 ⟨b, 0⟩
      omega
    · simp [tabZ]
set_option maxRecDepth 100000 in
set_option maxHeartbeats 4000000 in
theorem tabGets_any (A : Option Addr) (n c : Nat) (bs : List UInt8) (w : World) (hrd : Reads w w.heap.size 1 A n (bs.map bV)) (hnc : n ≤ c) (hcm : c ≤ maxLen) :
    Calls Try.prog 14 #[.slice A n c] w fun e w' => e = .returned (.bool true) ∧ Below w.heap.size w w' := by
  have hbl : bs.length = n := by simpa using hrd.len
  have HRD := hid hrd
  have HCM := hid hcm
  unfold maxLen at hcm
  clear hrd
  go_enter Try.func14, Try.ntmps14
  go_wp2_with fail
  refine (wakes_any _).mono ?_
  rintro e w1 ⟨rfl, hb1⟩
  have HB1 := hid hb1
  have HR1 := hid (HRD.out.belowS hb1)
  clear hb1 HRD
  by_cases h300 : 300 < n
  · have y0 : decide ((300 : Int) < (n : Int)) = true := decide_eq_true (by omega)
    have y0' : decide (300 < n) = true := decide_eq_true h300
    go_wp2_with fail
    go_ret
    exact ⟨rfl, HB1.out⟩
  have y0 : decide ((300 : Int) < (n : Int)) = false := decide_eq_false (by omega)
  have y0' : decide (300 < n) = false := decide_eq_false h300
  have HN := hid (show n ≤ 300 by omega)
  clear h300
  have HNX : Hid (c ≤ maxLen ∧ n ≤ c) := hid ⟨HCM.out, hnc⟩
  go_wp2_with (at_builtin; refine copyB _ rfl (.tmp 15) (.tmp 16) rfl rfl A n c bs rfl HR1.out (by have := HN.out; omega) ?_; intro A2 c2 w2 hown2 hb2)
  have HB2 := hid (bel_trans HB1.out hb2)
  have HR2 := hid (HR1.out.belowS hb2)
  have HG2 := hid (Get_any A2 n c2 bs w2 (Reads.of_own hown2) (by have := HN.out; omega))
  have i2 := hid (fun w' (h : Reads w' w'.heap.size 1 A n (bs.map bV)) => refGetT_any A n c bs w' h (by have := HN.out; omega) HNX.out.2 HNX.out.1)
  unfold GetPost at HG2
  unfold RGetPost at i2
  have HK := hid (getB_got bs)
  have HBD := hid (getB_bds bs)
  have HEQ0 : Hid (∀ k : Int, (getB bs).2 = k → k = 0 → rightB (getB bs).1 = true) := hid (fun k h1 h2 => (getB_got bs (h1.trans h2)).1)
  obtain ⟨⟨T, E⟩, hTE⟩ : ∃ r, getB bs = r := ⟨_, rfl⟩
  rw [hTE] at HG2 i2 HK HBD
  simp only at HG2 i2 HK HBD
  have HFR : Hid (-9223372036854775808 ≤ T.frame ∧ T.frame ≤ 9223372036854775807) := hid (by have := getB_frame bs; rw [hTE] at this; exact this)
  clear hown2 hb2 HR1 HB1 hTE HEQ0
  refine HG2.out.mono ?_
  rintro e w3 ⟨a, rfl, hin3, hb3⟩
  obtain ⟨w4, hw4, hb4, hX4⟩ := tab_inG T a w3
  have HB4 := hid (bel_trans (bel_trans HB2.out hb3) hb4)
  have HR4 := hid ((HR2.out.belowS hb3).belowS hb4)
  have HI4 := hid (hin3.belowS hb4)
  have HX4 := hid hX4
  clear hin3 hb3 hb4 hX4 HG2 HR2 HB2
  go_wp2_with fail
  clear hw4
  refine (i2.out _ HR4.out).mono ?_
  rintro e w5 ⟨b, rfl, hin5, hb5⟩
  obtain ⟨w6, hw6, hb6, hY6⟩ := tab_inG T b w5
  have HB6 := hid (bel_trans (bel_trans HB4.out hb5) hb6)
  have HR6 := hid ((HR4.out.belowS hb5).belowS hb6)
  have HI6 := hid ((HI4.out.belowS hb5).belowS hb6)
  have HJ6 := hid (hin5.belowS hb6)
  have HX6 := hid ((HX4.out.belowS hb5).belowS hb6)
  have HY6 := hid hY6
  clear hin5 hb5 hb6 hY6 HX4 HI4 HR4 HB4 i2
  obtain ⟨c0, c1, c2, c3, c4⟩ := tab_cells HX6.out
  obtain ⟨d0, d1, d2, d3, d4⟩ := tab_cells HY6.out
  have i3 := hid (refSameTab T a b w6 HI6.out HJ6.out (by have := HBD.out; omega) (by have := HBD.out; omega) (by have := HBD.out; omega))
  go_wp2_with fail
  clear hw6
  refine i3.out.mono ?_
  rintro e w7 ⟨rfl, hb7⟩
  have HB7 := hid (bel_trans HB6.out hb7)
  have HR7 := hid (HR6.out.belowS hb7)
  have HI7 := hid (HI6.out.belowS hb7)
  have HX7 := hid (HX6.out.belowS hb7)
  clear c0 c1 c2 c3 c4 d0 d1 d2 d3 d4 HX6 HY6 HI6 HJ6 HR6 HB6 i3 hb7
  by_cases hE : E = 0
  case neg =>
    have y1 : (E != 0) = true := by simpa using hE
    clear hE
    go_wp2_with fail
    go_ret
    exact ⟨rfl, HB7.out⟩
  subst hE
  obtain ⟨hr, htb⟩ := HK.out rfl
  have i4 := hid (Put_ok T a w7 ⟨HI7.out, by have := HBD.out; omega, by have := HBD.out; omega, by have := HBD.out; omega, HFR.out.1, HFR.out.2⟩ hr)
  rw [htb, hbl] at i4
  obtain ⟨c0, c1, c2, c3, c4⟩ := tab_cells HX7.out
  clear hr htb HK HFR
  go_wp2_with fail
  refine i4.out.mono ?_
  rintro e w8 ⟨A8, c8, rfl, ho8, hb8⟩
  have HB8 := hid (bel_trans HB7.out hb8)
  have i5 := hid (same_b A8 A n n c8 c bs bs w8 (Reads.of_own ho8) (HR7.out.belowS hb8) (by have := HN.out; omega) (by have := HN.out; omega))
  simp only [decide_true] at i5
  clear c0 c1 c2 c3 c4 i4 ho8 hb8 HX7 HI7 HR7 HB7
  go_wp2_with fail
  refine i5.out.mono ?_
  rintro e w9 ⟨rfl, hb9⟩
  have HB9 := hid (bel_trans HB8.out hb9)
  clear hb9 i5
  go_wp2_with fail
  go_ret
  exact ⟨rfl, HB9.out⟩
theorem tabGets_law (w : World) (A : Option Addr) (n c : Nat) (bs : List UInt8) (hr : Reads w w.heap.size 1 A n (bs.map bV)) (hc : n ≤ c) (hm : c ≤ maxLen) :
    Calls Try.prog 14 #[.slice A n c] w fun e w' => e = .returned (.bool true) ∧ Below w.heap.size w w' := tabGets_any A n c bs w hr hc hm
/-! ### TableGets: from the walk to the given statement -/
namespace lawTableGets
theorem own : ownKnob Try.prog.godebug = none := by kernel_rfl
theorem laidOut : laidOutB Try.prog = true := by kernel_rfl
set_option maxRecDepth 100000 in
theorem lifted (os : Os) (started : os.Started) (H : Type) (enc : TypeId × Value → H) :
    ReturnsInHanded {} Try.checked os 14 .any (Rows.tableGetsSpec.pre6 enc Try.prog Try.f14 Rows.tableGetsRow.domain false) (Rows.tableGetsSpec.post enc Try.prog Try.f14 false true false false) := by
  refine returnsInHanded_of_change (C := Try.checked) own started (by kernel_rfl) Try.func14
    (ChangeSpec.witness6 (enc := enc) (C := Try.checked) false ⟨#[], #[.slice none 0 0], []⟩ 8 (by kernel_rfl) (by kernel_rfl) (by kernel_rfl) (by kernel_rfl)) ?_
  intro W base args ds gs before hval0 hW hcnd _
  have hval : ∀ (j : Nat) t v, Try.f14.params[j]? = some t → args[j]? = some v → Value.okWide Try.prog W .any base t v := hval0
  have hW' := hW
  obtain ⟨p, q, hA0, hV, rfl, hfz, hnd⟩ := hW
  have hA : DataW.TrodAll enc Try.prog W 0 (fun _ => true) true Try.f14.params.toList args.toList ds p := hA0
  rw [Try.params14] at hA hval
  obtain ⟨v0, vs0, d0, ds0, p0, q0, hargs, rfl, rfl, h0, r0⟩ := trodAll_cons hA
  obtain ⟨rfl, rfl, rfl⟩ := trodAll_nil r0
  obtain rfl : args = #[v0] := by cases args; simp_all
  obtain ⟨rfl, rfl⟩ := trodVars_none hV
  have k0 := h0
  have lt0 : ∀ x ∈ p0, x.block < W.heap.size := by obtain ⟨m, hm⟩ := k0; exact DataW.trod_lt m _ _ _ hm
  obtain ⟨A0, n0, c0, b0, rfl, w0, g0, l0⟩ := open_bytes Try.underlying62 Try.underlying5 (by kernel_rfl) (hval 0 62 v0 rfl rfl) h0
  clear hA0 hval0
  refine (tabGets_law W A0 n0 c0 b0 w0 g0 l0).mono fun e W' ⟨he, bel⟩ => ?_
  subst he
  exact ⟨_, rfl, _, _, _, [], _, [], hW', trodAll_mk1 (shut_bool Try.underlying4 _), (trodAll_cons_mk (Below.trod laidOut (by kernel_rfl) (of_decide_eq_true (by kernel_rfl)) k0 bel lt0) trodAll_mk0), rfl, bel.frame _, fun h => by cases h⟩
theorem over : Rows.tableGetsRow.holds Try.pinned (OpenSpec.ofChange Rows.tableGetsSpec) :=
  OpenClaim.holds_of_wide 14 Try.f14 rfl rfl rfl rfl rfl rfl rfl ⟨rfl, rfl, rfl, rfl, rfl⟩ rfl rfl rfl rfl rfl (by kernel_rfl) Try.func14 (by kernel_rfl)
    (of_decide_eq_true (by kernel_rfl)) (by unfold Func.isWrapper; first | (rw [if_pos (by decide +kernel)]; kernel_rfl) | (rw [if_neg (by decide +kernel)]; exact ⟨rfl, rfl⟩))
    (fun os started H enc _ => lifted os started H enc)
theorem proved : Rows.TableGetsSaid := over
#print axioms proved
end lawTableGets
end Go.Proofs.Ytbnodcenlggcnaa
