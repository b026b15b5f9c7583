/-
  Law 05: what is put is got (TablePuts). Any table is right, and has the bytes, as the document says; what is put is got.
-/
import Derived.Test.YtbnodcenlggcnaaTabRB
import Derived.Test.YtbnodcenlggcnaaTabSame
import Derived.Test.YtbnodcenlggcnaaTabGet
import Derived.Test.YtbnodcenlggcnaaRefRight
import Derived.Test.YtbnodcenlggcnaaOpenTab
import Derived.Test.YtbnodcenlggcnaaRows
namespace Go.Proofs.Ytbnodcenlggcnaa
open Go.RowKit Go.ChangeShapes Go.WideShapes Go.ChangeAt

theorem came_okG {w w' : World} {t : TabS} {a : TabA} (h : TabCame w t a) (hl : longB t = false) (hb : Below w.heap.size w w') : TabOk w' t a := by
  unfold longB at hl
  simp only [Bool.or_eq_false_iff, decide_eq_false_iff_not] at hl
  obtain ⟨⟨h1, h2⟩, h3⟩ := hl
  exact ⟨h.inn.belowS hb, by omega, by omega, by omega, h.f1, h.f2⟩
theorem tabB_len {t : TabS} (h : RightT t) : (tabB t).length ≤ 100 := by
  unfold tabB
  rw [List.length_append, List.length_append, List.length_append, headT_len, flatMap_len partB 4 partB_len, flatMap_len winBy 3 winBy_len, flatMap_len chanBy 3 chanBy_len]
  have := h.p2
  have := h.w8
  have := h.c4
  omega
theorem tabGot (t : TabS) (hr : rightB t = true) (A : Option Addr) (n c : Nat) (w : World) (h : Reads w w.heap.size 1 A n ((tabB t).map bV)) (hn : n ≤ 1000000) :
    Calls Try.prog 36 #[.slice A n c] w fun e w' => ∃ a : TabA, e = .returned (.tuple #[.agg #[.int .i64 t.frame, .slice a.A1 t.parts.length a.c1, .slice a.A2 t.wins.length a.c2, .slice a.A3 t.chans.length a.c3, .int .i64 t.trial], .int .i64 0]) ∧ TabIn w' t a ∧ Below w.heap.size w w' := by
  refine (Get_any A n c _ w h hn).mono ?_
  rintro e w' ⟨a, he, h1, h2⟩
  rw [getB_put t hr] at he h1
  exact ⟨a, he, h1, h2⟩
set_option maxRecDepth 100000 in
set_option maxHeartbeats 4000000 in
theorem tabPuts_any (w : World) (t : TabS) (a : TabA) (hT : TabCame w t a) :
    Calls Try.prog 13 #[.agg #[.int .i64 t.frame, .slice a.A1 t.parts.length a.c1, .slice a.A2 t.wins.length a.c2, .slice a.A3 t.chans.length a.c3, .int .i64 t.trial]] w fun e w' => e = .returned (.bool true) ∧ Below w.heap.size w w' := by
  obtain ⟨w1, hw1, hb0, hblk0⟩ := tab_inG t a w
  have iL := hid (fun w' => long_any t a w' hT.l1 hT.l2 hT.l3)
  have HC := hid hT
  clear hT
  go_enter Try.func13, Try.ntmps13
  go_wp2_with fail
  clear hw1
  refine (wakes_any _).mono ?_
  rintro e w2 ⟨rfl, hb2⟩
  have hb02 := bel_trans hb0 hb2
  have hblk2 := hblk0.belowS hb2
  obtain ⟨c0, c1, c2, c3, c4⟩ := tab_cells hblk2
  clear hblk0 hb2 hb0
  go_wp2_with fail
  refine (iL.out _).mono ?_
  rintro e w3 ⟨he, hb3⟩
  have HB3 := hid (bel_trans hb02 hb3)
  have HX3 := hid (hblk2.belowS hb3)
  clear c0 c1 c2 c3 c4 hblk2 hb3 iL hb02
  obtain ⟨c0, c1, c2, c3, c4⟩ := tab_cells HX3.out
  by_cases hl : longB t = true
  · rw [hl] at he
    subst he
    clear hl HX3
    go_wp2_with fail
    go_ret
    exact ⟨rfl, HB3.out⟩
  have hl' : longB t = false := by simpa using hl
  rw [hl'] at he
  subst he
  have HO : Hid (∀ w', Below w.heap.size w w' → TabOk w' t a) := hid (fun w' hb => came_okG HC.out hl' hb)
  clear hl hl' HC
  have i2 := hid (fun w' hb => refRight_any t a w' (HO.out w' hb))
  have i3 := hid (fun w' hb => right_any t a w' (HO.out w' hb))
  by_cases hr : rightB t = true
  case neg =>
    have hr' : rightB t = false := by simpa using hr
    have i1 := hid (Put_bad t a w3 (HO.out _ HB3.out) hr')
    rw [hr'] at i2 i3
    clear hr hr'
    go_wp2_with fail
    refine i1.out.mono ?_
    rintro e w4 ⟨rfl, hb4⟩
    have HB4 := hid (bel_trans HB3.out hb4)
    have HX4 := hid (HX3.out.belowS hb4)
    clear c0 c1 c2 c3 c4 HX3 HB3 i1 hb4
    obtain ⟨c0, c1, c2, c3, c4⟩ := tab_cells HX4.out
    go_wp2_with fail
    refine (i2.out _ HB4.out).mono ?_
    rintro e w5 ⟨rfl, hb5⟩
    have HB5 := hid (bel_trans HB4.out hb5)
    have HX5 := hid (HX4.out.belowS hb5)
    clear c0 c1 c2 c3 c4 HX4 HB4 i2 hb5
    obtain ⟨c0, c1, c2, c3, c4⟩ := tab_cells HX5.out
    go_wp2_with fail
    refine (i3.out _ HB5.out).mono ?_
    rintro e w6 ⟨rfl, hb6⟩
    have HB6 := hid (bel_trans HB5.out hb6)
    clear c0 c1 c2 c3 c4 i3 hb6
    go_wp2_with fail
    go_ret
    exact ⟨rfl, HB6.out⟩
  have HR := hid ((rightB_iff t).1 hr)
  have i1 := hid (Put_ok t a w3 (HO.out _ HB3.out) hr)
  have i4 := hid (fun A n c w' h hn => tabGot t hr A n c w' h hn)
  have i5 := hid (fun w' hb => refBytesT_any t a w' (HO.out w' hb) hr)
  have i6 := hid (fun (b : TabA) w' (h1 : TabIn w' t b) hb => refSameTab t b a w' h1 (HO.out w' hb).inn (HO.out w' hb).n1 (HO.out w' hb).n2 (HO.out w' hb).n3)
  have hlen := tabB_len HR.out
  rw [hr] at i2 i3
  obtain ⟨TBS, hTBS⟩ : ∃ x, tabB t = x := ⟨_, rfl⟩
  rw [hTBS] at i1 i4 i5 hlen
  have HLN := hid hlen
  clear hr hTBS hlen
  go_wp2_with fail
  refine i1.out.mono ?_
  rintro e w4 ⟨A4, n4, rfl, ho4, hb4⟩
  have HB4 := hid (bel_trans HB3.out hb4)
  have HX4 := hid (HX3.out.belowS hb4)
  have HR4 := hid (Reads.of_own ho4)
  clear c0 c1 c2 c3 c4 HX3 HB3 i1 hb4 ho4
  obtain ⟨c0, c1, c2, c3, c4⟩ := tab_cells HX4.out
  go_wp2_with fail
  refine (i2.out _ HB4.out).mono ?_
  rintro e w5 ⟨rfl, hb5⟩
  have HB5 := hid (bel_trans HB4.out hb5)
  have HX5 := hid (HX4.out.belowS hb5)
  have HR5 := hid (HR4.out.belowS hb5)
  clear c0 c1 c2 c3 c4 HX4 HB4 HR4 i2 hb5
  obtain ⟨c0, c1, c2, c3, c4⟩ := tab_cells HX5.out
  go_wp2_with fail
  refine (i4.out _ _ _ _ HR5.out (by have := HLN.out; omega)).mono ?_
  rintro e w6 ⟨b, rfl, hin6, hb6⟩
  obtain ⟨w7, hw7, hb7, hY7⟩ := tab_inG t b w6
  have HB7 := hid (bel_trans (bel_trans HB5.out hb6) hb7)
  have HX7 := hid ((HX5.out.belowS hb6).belowS hb7)
  have HR7 := hid ((HR5.out.belowS hb6).belowS hb7)
  have HI7 := hid (hin6.belowS hb7)
  have HY7 := hid hY7
  clear c0 c1 c2 c3 c4 HX5 HB5 HR5 i4 hb6 hin6 hb7 hY7
  obtain ⟨c0, c1, c2, c3, c4⟩ := tab_cells HX7.out
  go_wp2_with fail
  clear hw7
  refine (i3.out _ HB7.out).mono ?_
  rintro e w8 ⟨rfl, hb8⟩
  have HB8 := hid (bel_trans HB7.out hb8)
  have HX8 := hid (HX7.out.belowS hb8)
  have HR8 := hid (HR7.out.belowS hb8)
  have HI8 := hid (HI7.out.belowS hb8)
  have HY8 := hid (HY7.out.belowS hb8)
  clear c0 c1 c2 c3 c4 HX7 HB7 HR7 HI7 HY7 i3 hb8
  obtain ⟨c0, c1, c2, c3, c4⟩ := tab_cells HX8.out
  go_wp2_with fail
  refine (i5.out _ HB8.out).mono ?_
  rintro e w9 ⟨A9, n9, rfl, ho9, hb9⟩
  have HB9 := hid (bel_trans HB8.out hb9)
  have HX9 := hid (HX8.out.belowS hb9)
  have HI9 := hid (HI8.out.belowS hb9)
  have HY9 := hid (HY8.out.belowS hb9)
  have i7 := hid (same_b A4 A9 TBS.length TBS.length n4 n9 TBS TBS w9 (HR8.out.belowS hb9) (Reads.of_own ho9) (by have := HLN.out; omega) (by have := HLN.out; omega))
  simp only [decide_true] at i7
  clear c0 c1 c2 c3 c4 HX8 HB8 HR8 HI8 HY8 i5 hb9 ho9
  go_wp2_with fail
  refine i7.out.mono ?_
  rintro e w10 ⟨rfl, hb10⟩
  have HB10 := hid (bel_trans HB9.out hb10)
  have HI10 := hid (HI9.out.belowS hb10)
  obtain ⟨c0, c1, c2, c3, c4⟩ := tab_cells (HX9.out.belowS hb10)
  obtain ⟨d0, d1, d2, d3, d4⟩ := tab_cells (HY9.out.belowS hb10)
  clear HX9 HY9 HI9 HB9 hb10 i7
  go_wp2_with fail
  refine (i6.out b _ HI10.out HB10.out).mono ?_
  rintro e w11 ⟨rfl, hb11⟩
  have HB11 := hid (bel_trans HB10.out hb11)
  clear c0 c1 c2 c3 c4 d0 d1 d2 d3 d4 i6 hb11
  go_wp2_with fail
  go_ret
  exact ⟨rfl, HB11.out⟩
/-! ### TablePuts: from the walk to the given statement -/
namespace lawTablePuts
theorem own : ownKnob Try.prog.godebug = none := by kernel_rfl
theorem laidOut : laidOutB Try.prog = true := by kernel_rfl
set_option maxRecDepth 100000 in
theorem lifted (os : Os) (started : os.Started) (H : Type) (enc : TypeId × Value → H) :
    ReturnsInHanded {} Try.checked os 13 .any (Rows.tablePutsSpec.pre6 enc Try.prog Try.f13 Rows.tablePutsRow.domain false) (Rows.tablePutsSpec.post enc Try.prog Try.f13 false true false false) := by
  refine returnsInHanded_of_change (C := Try.checked) own started (by kernel_rfl) Try.func13
    (ChangeSpec.witness6 (enc := enc) (C := Try.checked) false ⟨#[], #[.agg #[.int .i64 0, .slice none 0 0, .slice none 0 0, .slice none 0 0, .int .i64 0]], []⟩ 8 (by kernel_rfl) (by kernel_rfl) (by kernel_rfl) (by kernel_rfl)) ?_
  intro W base args ds gs before hval0 hW hcnd _
  have hval : ∀ (j : Nat) t v, Try.f13.params[j]? = some t → args[j]? = some v → Value.okWide Try.prog W .any base t v := hval0
  have hW' := hW
  obtain ⟨p, q, hA0, hV, rfl, hfz, hnd⟩ := hW
  have hA : DataW.TrodAll enc Try.prog W 0 (fun _ => true) true Try.f13.params.toList args.toList ds p := hA0
  rw [Try.params13] at hA hval
  obtain ⟨v0, vs0, d0, ds0, p0, q0, hargs, rfl, rfl, h0, r0⟩ := trodAll_cons hA
  obtain ⟨rfl, rfl, rfl⟩ := trodAll_nil r0
  obtain rfl : args = #[v0] := by cases args; simp_all
  obtain ⟨rfl, rfl⟩ := trodVars_none hV
  have k0 := h0
  have lt0 : ∀ x ∈ p0, x.block < W.heap.size := by obtain ⟨m, hm⟩ := k0; exact DataW.trod_lt m _ _ _ hm
  obtain ⟨t0, a0, rfl, w0⟩ := open_tab (hval 0 26 v0 rfl rfl) h0
  clear hA0 hval0
  refine (tabPuts_any W t0 a0 w0).mono fun e W' ⟨he, bel⟩ => ?_
  subst he
  exact ⟨_, rfl, _, _, _, [], _, [], hW', trodAll_mk1 (shut_bool Try.underlying4 _), (trodAll_cons_mk (Below.trod laidOut (by kernel_rfl) (of_decide_eq_true (by kernel_rfl)) k0 bel lt0) trodAll_mk0), rfl, bel.frame _, fun h => by cases h⟩
theorem over : Rows.tablePutsRow.holds Try.pinned (OpenSpec.ofChange Rows.tablePutsSpec) :=
  OpenClaim.holds_of_wide 13 Try.f13 rfl rfl rfl rfl rfl rfl rfl ⟨rfl, rfl, rfl, rfl, rfl⟩ rfl rfl rfl rfl rfl (by kernel_rfl) Try.func13 (by kernel_rfl)
    (of_decide_eq_true (by kernel_rfl)) (by unfold Func.isWrapper; first | (rw [if_pos (by decide +kernel)]; kernel_rfl) | (rw [if_neg (by decide +kernel)]; exact ⟨rfl, rfl⟩))
    (fun os started H enc _ => lifted os started H enc)
theorem proved : Rows.TablePutsSaid := over
#print axioms proved
end lawTablePuts
end Go.Proofs.Ytbnodcenlggcnaa
