/-
  NumNil: a reader that is not there tells so. NumCut: of a number and a text that are cut anywhere the reader fails with ErrEnd, and tells nothing any more. NumBack: numbers and a text, one behind the other, are read again. For every input.
-/
import Derived.Test.YtaohnagghfajlaaNumText
import Derived.Test.YtaohnagghfajlaaReader
namespace Go.Proofs.Ytaohnagghfajlaa
open Go.RowKit Go.ChangeShapes Go.WideShapes Go.ChangeAt

theorem numNil_any (n : Int) (w : World) :
    Calls Try.prog 10 #[.int .i64 n] w fun e w' => e = .returned (.bool true) ∧ Below w.heap.size w w' := by
  go_enter Try.func10, Try.ntmps10
  go_wp2_with fail
  refine (numWakes_any w).mono ?_
  rintro e w0 ⟨rfl, hb0⟩
  go_wp2_with fail
  refine (fail_nil 2 w0).mono ?_
  rintro e w' ⟨rfl, rfl⟩
  go_wp2_with fail
  refine (num_rd_nil n w0).mono ?_
  rintro e w' ⟨rfl, rfl⟩
  go_wp2_with fail
  refine (text_rd_nil n w0).mono ?_
  rintro e w' ⟨rfl, rfl⟩
  go_wp2_with fail
  refine (bytes_nil n w0).mono ?_
  rintro e w' ⟨rfl, rfl⟩
  go_wp2_with fail
  refine (left_nil w0).mono ?_
  rintro e w' ⟨rfl, rfl⟩
  go_wp2_with fail
  refine (end_nil w0).mono ?_
  rintro e w' ⟨rfl, rfl⟩
  go_wp2_with fail
  go_ret
  exact ⟨rfl, hb0⟩

/-! ### What is cut -/
theorem cut_small : ∀ j : Fin 5, (rText ⟨([0, 3, 97, 98, 99] : List UInt8).take j.val, 0⟩ 3).2.e = 1 := by decide
theorem cut_err (n w : Int) (k : Nat) (hk : k < wid w + 5) :
    (rText (rNum ⟨(putB n (wid w) ++ textB [97, 98, 99]).take k, 0⟩ w).2 3).2.e = 1 := by
  have ht : textB [97, 98, 99] = [0, 3, 97, 98, 99] := by decide
  have hw := wid_bd w
  rw [ht]
  generalize hW : wid w = W at hk hw
  have hl : (putB n W ++ [0, 3, 97, 98, 99]).length = W + 5 := by simp [putB_length]
  unfold rNum
  rw [hW]
  by_cases h : k < W
  · have e1 : rBytes ⟨(putB n W ++ [0, 3, 97, 98, 99]).take k, 0⟩ (W : Int) = ([], ⟨(putB n W ++ [0, 3, 97, 98, 99]).take k, 1⟩) := by
      unfold rBytes
      rw [if_neg (by simp; omega), if_pos (by rw [List.length_take, hl]; omega)]
    rw [e1]
    rw [rText_err _ _ (show (1 : Int) ≠ 0 by decide)]
  · have e1 : (rBytes ⟨(putB n W ++ [0, 3, 97, 98, 99]).take k, 0⟩ (W : Int)).2 = ⟨([0, 3, 97, 98, 99] : List UInt8).take (k - W), 0⟩ := by
      unfold rBytes
      rw [if_neg (by simp; omega), if_neg (by rw [List.length_take, hl]; omega)]
      simp only [Int.toNat_natCast]
      congr 1
      rw [List.drop_take, List.drop_append_of_le_length (by rw [putB_length]; omega), List.drop_eq_nil_of_le (by rw [putB_length]; omega), List.nil_append]
    rw [e1]
    exact cut_small ⟨k - W, by omega⟩

set_option maxRecDepth 100000 in
theorem numCut_any (n ww : Int) (a : Nat) (w : World) (ha : a < 65536) :
    Calls Try.prog 12 #[.int .i64 n, .int .i64 ww, .int .u16 (a : Int)] w fun e w' => e = .returned (.bool true) ∧ Below w.heap.size w w' := by
  have kc := fun (w : World) (C : Array Value) (n c : Nat) => Lib.run_convert_bytes_const (P := Try.prog) w 23 5 C n c Try.underlying23 Try.underlying5
  have hw := wid_bd ww
  have hput := hid (fun w => put_nil n ww w)
  have hcut := hid (fun k hk => cut_err n ww k hk)
  have hrn := hid (fun g s w (h : Rdr w g s) hs => num_any g s ww w h hs)
  generalize wid ww = W at hw hput hcut
  obtain ⟨K, hK, hK2⟩ : ∃ K : Nat, (a : Int) % ((W : Int) + 5) = (K : Int) ∧ K < W + 5 := ⟨a % (W + 5), by rw [show ((W : Int) + 5) = ((W + 5 : Nat) : Int) by omega]; omega, Nat.mod_lt _ (by omega)⟩
  go_enter Try.func12, Try.ntmps12
  go_wp2_with fail
  refine (numWakes_any w).mono ?_
  rintro e w0 ⟨rfl, hb0⟩
  go_wp2_with fail
  refine (hput.out w0).mono ?_
  rintro e w1 ⟨A1, c1, rfl, hown1, hb1⟩
  go_wp2_with fail
  have hT := hid (text_any A1 (some ⟨w1.heap.size, 0, none⟩) W 3 c1 3 (putB n W) [97, 98, 99] (w1.alloc (.cells #[.int .u8 97, .int .u8 98, .int .u8 99] 5 (3, 4))) ((Reads.of_own hown1).alloc (Nat.le_refl _) _ |>.more (by simp)) ((Reads.newM w1 _ _ _ 3 rfl).more (by simp)) (by omega) (Nat.le_refl _) (by decide))
  rw [show W + 2 + min 3 65535 = W + 5 by omega] at hT
  refine hT.out.mono ?_
  rintro e w2 ⟨A2, c2, rfl, hown2, hb2⟩
  have hb02 : Below w.heap.size w w2 := bel_trans (bel_alloc (bel_trans hb0 hb1) _) hb2
  have hcap := own_cap hown2
  have hcap2 := hcap.2
  unfold maxLen at hcap2
  have hr2 := (Reads.of_own hown2).front (show K ≤ W + 5 by omega)
  rw [Nat.mul_one, ← List.map_take] at hr2
  clear hT hput hown1 hown2 kc hb0 hb1 hb2
  go_wp2_with fail
  refine (read_any A2 K c2 _ w2 hr2 (by omega)).mono ?_
  rintro e w3 ⟨g, rfl, hg, hrd3, hb3⟩
  have hce := hcut.out K hK2
  have hl3 : ((putB n W ++ textB [97, 98, 99]).take K).length ≤ 100000000 := by rw [List.length_take]; omega
  generalize (putB n W ++ textB [97, 98, 99]).take K = bs at hrd3 hce hl3
  have hb03 := bel_trans hb02 hb3
  clear hcut hr2 hK
  go_wp2_with fail
  refine (hrn.out g _ w3 hrd3 hl3).mono ?_
  rintro e w4 ⟨rfl, hrd4, ho4⟩
  have hl4 : (rNum ⟨bs, 0⟩ ww).2.b.length ≤ bs.length := rNum_rest ⟨bs, 0⟩ ww
  generalize rNum ⟨bs, 0⟩ ww = x4 at hrd4 hce hl4 ⊢
  go_wp2_with fail
  refine (text2_any g _ 3 w4 hrd4 (by omega)).mono ?_
  rintro e w5 ⟨A5, m5, c5, rfl, hown5, hrd5, ho5⟩
  have ho35 := only_trans ho4 ho5
  have hl5 : (rText x4.2 3).2.b.length ≤ 100000000 := by have := rText_rest x4.2 3; omega
  clear hown5
  generalize (rText x4.2 3).2 = s5 at hrd5 hce hl5
  have hne : s5.e ≠ 0 := by omega
  have hre : rEnd s5 = 1 := by unfold rEnd; rw [if_pos hne, hce]
  have hEnd := hid (end_rd g s5 w5 hrd5 hl5)
  rw [hre] at hEnd
  have hN := hid (num_err g s5 1 w5 hrd5 hl5 hne)
  go_wp2_with fail
  refine hEnd.out.mono ?_
  rintro e w' ⟨rfl, rfl⟩
  go_wp2_with fail
  refine hN.out.mono ?_
  rintro e w6 ⟨rfl, hrd6, ho6⟩
  have hT2 := hid (text_err g s5 9 w6 hrd6 hne)
  have hL := hid (left_no g s5 w6 hrd6 hne)
  go_wp2_with fail
  refine hT2.out.mono ?_
  rintro e w' ⟨rfl, rfl⟩
  go_wp2_with fail
  refine hL.out.mono ?_
  rintro e w' ⟨rfl, rfl⟩
  go_wp2_with fail
  go_ret
  exact ⟨rfl, hb03.grown (only_trans ho35 ho6) hb03.size (by intro k hk; injection hk with hk; have := hb02.size; omega)⟩
theorem numCut_law (n ww x : Int) (w : World) (hx : (Lit.int .u16 x).wf = true) :
    Calls Try.prog 12 #[.int .i64 n, .int .i64 ww, .int .u16 x] w fun e w' => e = .returned (.bool true) ∧ Below w.heap.size w w' := by
  have hb := bounds_u16 hx
  have e : x = ((x.toNat : Nat) : Int) := by omega
  rw [e]
  exact numCut_any n ww _ w (by omega)

/-! ### NumNil: from the walk to the given statement -/
namespace lawNumNil
theorem own : ownKnob Try.prog.godebug = none := by kernel_rfl
theorem laidOut : laidOutB Try.prog = true := by kernel_rfl
set_option maxRecDepth 100000 in
theorem lifted (os : Os) (started : os.Started) (H : Type) (enc : TypeId × Value → H) :
    ReturnsInHanded {} Try.checked os 10 .any (Rows.numNilSpec.pre6 enc Try.prog Try.f10 Rows.numNilRow.domain false) (Rows.numNilSpec.post enc Try.prog Try.f10 false true false false) := by
  refine returnsInHanded_of_change (C := Try.checked) own started (by kernel_rfl) Try.func10
    (ChangeSpec.witness6 (enc := enc) (C := Try.checked) false ⟨#[], #[.int .i64 0], []⟩ 8 (by kernel_rfl) (by kernel_rfl) (by kernel_rfl) (by kernel_rfl)) ?_
  intro W base args ds gs before hval0 hW hcnd _
  have hval : ∀ (j : Nat) t v, Try.f10.params[j]? = some t → args[j]? = some v → Value.okWide Try.prog W .any base t v := hval0
  have hW' := hW
  obtain ⟨p, q, hA0, hV, rfl, hfz, hnd⟩ := hW
  have hA : DataW.TrodAll enc Try.prog W 0 (fun _ => true) true Try.f10.params.toList args.toList ds p := hA0
  rw [Try.params10] at hA hval
  obtain ⟨v0, vs0, d0, ds0, p0, q0, hargs, rfl, rfl, h0, r0⟩ := trodAll_cons hA
  obtain ⟨rfl, rfl, rfl⟩ := trodAll_nil r0
  obtain rfl : args = #[v0] := by cases args; simp_all
  obtain ⟨rfl, rfl⟩ := trodVars_none hV
  have k0 := h0
  have lt0 : ∀ x ∈ p0, x.block < W.heap.size := by obtain ⟨m, hm⟩ := k0; exact DataW.trod_lt m _ _ _ hm
  obtain ⟨a0, rfl, rfl, rfl, w0⟩ := open_int Try.underlying3 (hval 0 3 v0 rfl rfl) h0
  clear hA0 hval0
  refine (numNil_any a0 W).mono fun e W' ⟨he, bel⟩ => ?_
  subst he
  exact ⟨_, rfl, _, _, _, [], _, [], hW', trodAll_mk1 (shut_bool Try.underlying4 _), (trodAll_cons_mk (Below.trod laidOut (by kernel_rfl) (of_decide_eq_true (by kernel_rfl)) k0 bel lt0) trodAll_mk0), rfl, bel.frame _, fun h => by cases h⟩
theorem over : Rows.numNilRow.holds Try.pinned (OpenSpec.ofChange Rows.numNilSpec) :=
  OpenClaim.holds_of_wide 10 Try.f10 rfl rfl rfl rfl rfl rfl rfl ⟨rfl, rfl, rfl, rfl, rfl⟩ rfl rfl rfl rfl rfl (by kernel_rfl) Try.func10 (by kernel_rfl)
    (of_decide_eq_true (by kernel_rfl)) (by unfold Func.isWrapper; first | (rw [if_pos (by decide +kernel)]; kernel_rfl) | (rw [if_neg (by decide +kernel)]; exact ⟨rfl, rfl⟩))
    (fun os started H enc _ => lifted os started H enc)
theorem proved : Rows.NumNilSaid := over
#print axioms proved
end lawNumNil
/-! ### NumCut: from the walk to the given statement -/
namespace lawNumCut
theorem own : ownKnob Try.prog.godebug = none := by kernel_rfl
theorem laidOut : laidOutB Try.prog = true := by kernel_rfl
set_option maxRecDepth 100000 in
theorem lifted (os : Os) (started : os.Started) (H : Type) (enc : TypeId × Value → H) :
    ReturnsInHanded {} Try.checked os 12 .any (Rows.numCutSpec.pre6 enc Try.prog Try.f12 Rows.numCutRow.domain false) (Rows.numCutSpec.post enc Try.prog Try.f12 false true false false) := by
  refine returnsInHanded_of_change (C := Try.checked) own started (by kernel_rfl) Try.func12
    (ChangeSpec.witness6 (enc := enc) (C := Try.checked) false ⟨#[], #[.int .i64 0, .int .i64 0, .int .u16 0], []⟩ 8 (by kernel_rfl) (by kernel_rfl) (by kernel_rfl) (by kernel_rfl)) ?_
  intro W base args ds gs before hval0 hW hcnd _
  have hval : ∀ (j : Nat) t v, Try.f12.params[j]? = some t → args[j]? = some v → Value.okWide Try.prog W .any base t v := hval0
  have hW' := hW
  obtain ⟨p, q, hA0, hV, rfl, hfz, hnd⟩ := hW
  have hA : DataW.TrodAll enc Try.prog W 0 (fun _ => true) true Try.f12.params.toList args.toList ds p := hA0
  rw [Try.params12] at hA hval
  obtain ⟨v0, vs0, d0, ds0, p0, q0, hargs, rfl, rfl, h0, r0⟩ := trodAll_cons hA
  obtain ⟨v1, vs1, d1, ds1, p1, q1, rfl, rfl, rfl, h1, r1⟩ := trodAll_cons r0
  obtain ⟨v2, vs2, d2, ds2, p2, q2, rfl, rfl, rfl, h2, r2⟩ := trodAll_cons r1
  obtain ⟨rfl, rfl, rfl⟩ := trodAll_nil r2
  obtain rfl : args = #[v0, v1, v2] := by cases args; simp_all
  obtain ⟨rfl, rfl⟩ := trodVars_none hV
  have k0 := h0
  have lt0 : ∀ x ∈ p0, x.block < W.heap.size := by obtain ⟨m, hm⟩ := k0; exact DataW.trod_lt m _ _ _ hm
  have k1 := h1
  have lt1 : ∀ x ∈ p1, x.block < W.heap.size := by obtain ⟨m, hm⟩ := k1; exact DataW.trod_lt m _ _ _ hm
  have k2 := h2
  have lt2 : ∀ x ∈ p2, x.block < W.heap.size := by obtain ⟨m, hm⟩ := k2; exact DataW.trod_lt m _ _ _ hm
  obtain ⟨a0, rfl, rfl, rfl, w0⟩ := open_int Try.underlying3 (hval 0 3 v0 rfl rfl) h0
  obtain ⟨a1, rfl, rfl, rfl, w1⟩ := open_int Try.underlying3 (hval 1 3 v1 rfl rfl) h1
  obtain ⟨a2, rfl, rfl, rfl, w2⟩ := open_int Try.underlying42 (hval 2 42 v2 rfl rfl) h2
  clear hA0 hval0
  refine (numCut_law a0 a1 a2 W w2).mono fun e W' ⟨he, bel⟩ => ?_
  subst he
  exact ⟨_, rfl, _, _, _, [], _, [], hW', trodAll_mk1 (shut_bool Try.underlying4 _), (trodAll_cons_mk (Below.trod laidOut (by kernel_rfl) (of_decide_eq_true (by kernel_rfl)) k0 bel lt0) (trodAll_cons_mk (Below.trod laidOut (by kernel_rfl) (of_decide_eq_true (by kernel_rfl)) k1 bel lt1) (trodAll_cons_mk (Below.trod laidOut (by kernel_rfl) (of_decide_eq_true (by kernel_rfl)) k2 bel lt2) trodAll_mk0))), rfl, bel.frame _, fun h => by cases h⟩
theorem over : Rows.numCutRow.holds Try.pinned (OpenSpec.ofChange Rows.numCutSpec) :=
  OpenClaim.holds_of_wide 12 Try.f12 rfl rfl rfl rfl rfl rfl rfl ⟨rfl, rfl, rfl, rfl, rfl⟩ rfl rfl rfl rfl rfl (by kernel_rfl) Try.func12 (by kernel_rfl)
    (of_decide_eq_true (by kernel_rfl)) (by unfold Func.isWrapper; first | (rw [if_pos (by decide +kernel)]; kernel_rfl) | (rw [if_neg (by decide +kernel)]; exact ⟨rfl, rfl⟩))
    (fun os started H enc _ => lifted os started H enc)
theorem proved : Rows.NumCutSaid := over
#print axioms proved
end lawNumCut
end Go.Proofs.Ytaohnagghfajlaa
