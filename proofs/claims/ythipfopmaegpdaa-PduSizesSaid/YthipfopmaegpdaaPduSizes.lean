/-
  Law 08: messages of one kind have as many bytes as the fields of that kind, and five more (PduSizes).
-/
import Derived.Test.YthipfopmaegpdaaPduWakes
import Derived.Test.YthipfopmaegpdaaOpenPdu
namespace Go.Proofs.Ythipfopmaegpdaa
open Go.RowKit Go.ChangeShapes Go.WideShapes Go.ChangeAt

theorem rightP_kind {p : PduS} (h : rightP p = true) : (p.kind = 1 ∨ p.kind = 2 ∨ p.kind = 3 ∨ p.kind = 4 ∨ p.kind = 5 ∨ p.kind = 6 ∨ p.kind = 7 ∨ p.kind = 8) ∧ p.data.length = if p.kind = 2 then 16 else 0 := by
  simp only [rightP, Bool.and_eq_true] at h
  have h2 := h.2
  by_cases hk : p.kind = 2
  · rw [if_pos hk] at h2
    exact ⟨by omega, by rw [if_pos hk]; exact of_decide_eq_true h2⟩
  · rw [if_neg hk] at h2 ⊢
    simp only [Bool.and_eq_true, decide_eq_true_eq] at h2
    refine ⟨?_, h2.2⟩
    have h3 := h2.1
    unfold fieldsK at h3
    repeat' split at h3
    all_goals first | omega | simp at h3
theorem sizes_tab {p : PduS} (h : rightP p = true) : (pduB p).length = 5 + (if p.kind = 1 then 5 else if p.kind = 2 then 19 else if p.kind = 3 then 2 else if p.kind = 4 then 2 else if p.kind = 5 then 2 else if p.kind = 6 then 4 else if p.kind = 7 then 5 else 7) := by
  obtain ⟨hk, hd⟩ := rightP_kind h
  rw [pduB_len, hd, fldB_len]
  rcases hk with h | h | h | h | h | h | h | h <;> rw [h] <;> rfl

set_option maxRecDepth 100000 in
set_option maxHeartbeats 1000000 in
theorem sizes_any (w : World) (p : PduS) (A : Option Addr) (c : Nat) (hr : Reads w w.heap.size 1 A p.data.length (p.data.map bV)) :
    Calls Try.prog 3 #[.agg #[.int .i64 p.kind, .int .i64 p.ses, .int .i64 p.part, .int .i64 p.no, .int .i64 p.size, .int .i64 p.what, .int .i64 p.code, .int .i64 p.hav, .slice A p.data.length c]] w fun e w' => e = .returned (.bool true) ∧ Below w.heap.size w w' := by
  obtain ⟨w1, hw1, hb1, hblk1, hs1⟩ := pdu_in p A c w
  have HRD := hid (hr.belowS hb1)
  clear hr
  have ib := hid (fun w' => Put_bad p A c w')
  have io := hid (fun w' => Put_ok p A c w')
  go_enter Try.func3, Try.ntmps3
  go_wp2_with fail
  clear hw1 hs1
  refine (pduWakes_any _).mono ?_
  rintro e w2 ⟨rfl, hb2⟩
  have hblk2 := hblk1.belowS hb2
  have hb02 := bel_trans hb1 hb2
  have HRD2 := hid (HRD.out.belowS hb2)
  obtain ⟨c0, c1, c2, c3, c4, c5, c6, c7, c8⟩ := pdu_cells hblk2
  clear hblk1 hb1 hb2 HRD
  by_cases hR : rightP p = true
  · have j := hid (io.out w2 hR HRD2.out)
    obtain ⟨hk, -⟩ := rightP_kind hR
    have hsz := hid (sizes_tab hR)
    generalize (pduB p).length = N at j hsz
    clear hR io ib
    go_wp2_with fail
    refine j.out.mono ?_
    rintro e w3 ⟨A3, d3, rfl, hown3, hb3⟩
    have hb03 := hid (bel_trans hb02 hb3)
    have hblk3 := hblk2.belowS hb3
    clear hown3 c0 c1 c2 c3 c4 c5 c6 c7 c8 hblk2 hb3 hb02 j
    have c0 : ∀ o, (w3.alloc o).cell? ⟨w.heap.size, 0, none⟩ = some (.int .i64 p.kind) := fun o => (hblk3.alloc o).cellAt rfl
    clear hblk3
    rcases hk with h | h | h | h | h | h | h | h
    all_goals (
      simp only [h] at c0
      have hN := hsz.out
      rw [h] at hN
      simp only [reduceIte, Int.reduceEq, Nat.reduceAdd] at hN
      subst hN
      clear h hsz
      go_wp2_with fail
      go_ret
      exact ⟨rfl, hb03.out.alloc hb03.out.size _⟩)
  · have hR' : rightP p = false := by simpa using hR
    have j := hid (ib.out w2 hR')
    clear hR hR' io ib
    go_wp2_with fail
    refine j.out.mono ?_
    rintro e w3 ⟨rfl, hb3⟩
    have hb03 := hid (bel_trans hb02 hb3)
    go_wp2_with fail
    go_ret
    exact ⟨rfl, hb03.out⟩
theorem sizes_law (w : World) (p : PduS) (A : Option Addr) (c : Nat) (h : PduCame w p A c) :
    Calls Try.prog 3 #[.agg #[.int .i64 p.kind, .int .i64 p.ses, .int .i64 p.part, .int .i64 p.no, .int .i64 p.size, .int .i64 p.what, .int .i64 p.code, .int .i64 p.hav, .slice A p.data.length c]] w fun e w' => e = .returned (.bool true) ∧ Below w.heap.size w w' := sizes_any w p A c h.rd
/-! ### PduSizes: from the walk to the given statement -/
namespace lawPduSizes
theorem own : ownKnob Try.prog.godebug = none := by kernel_rfl
theorem laidOut : laidOutB Try.prog = true := by kernel_rfl
set_option maxRecDepth 100000 in
theorem lifted (os : Os) (started : os.Started) (H : Type) (enc : TypeId × Value → H) :
    ReturnsInHanded {} Try.checked os 3 .any (Rows.pduSizesSpec.pre6 enc Try.prog Try.f3 Rows.pduSizesRow.domain false) (Rows.pduSizesSpec.post enc Try.prog Try.f3 false true false false) := by
  refine returnsInHanded_of_change (C := Try.checked) own started (by kernel_rfl) Try.func3
    (ChangeSpec.witness6 (enc := enc) (C := Try.checked) false ⟨#[], #[.agg #[.int .i64 0, .int .i64 0, .int .i64 0, .int .i64 0, .int .i64 0, .int .i64 0, .int .i64 0, .int .i64 0, .slice none 0 0]], []⟩ 8 (by kernel_rfl) (by kernel_rfl) (by kernel_rfl) (by kernel_rfl)) ?_
  intro W base args ds gs before hval0 hW hcnd _
  have hval : ∀ (j : Nat) t v, Try.f3.params[j]? = some t → args[j]? = some v → Value.okWide Try.prog W .any base t v := hval0
  have hW' := hW
  obtain ⟨p, q, hA0, hV, rfl, hfz, hnd⟩ := hW
  have hA : DataW.TrodAll enc Try.prog W 0 (fun _ => true) true Try.f3.params.toList args.toList ds p := hA0
  rw [Try.params3] at hA hval
  obtain ⟨v0, vs0, d0, ds0, p0, q0, hargs, rfl, rfl, h0, r0⟩ := trodAll_cons hA
  obtain ⟨rfl, rfl, rfl⟩ := trodAll_nil r0
  obtain rfl : args = #[v0] := by cases args; simp_all
  obtain ⟨rfl, rfl⟩ := trodVars_none hV
  have k0 := h0
  have lt0 : ∀ x ∈ p0, x.block < W.heap.size := by obtain ⟨m, hm⟩ := k0; exact DataW.trod_lt m _ _ _ hm
  obtain ⟨p0, A0, c0, rfl, w0⟩ := open_pdu (hval 0 24 v0 rfl rfl) h0
  clear hA0 hval0
  refine (sizes_law W p0 A0 c0 w0).mono fun e W' ⟨he, bel⟩ => ?_
  subst he
  exact ⟨_, rfl, _, _, _, [], _, [], hW', trodAll_mk1 (shut_bool Try.underlying4 _), (trodAll_cons_mk (Below.trod laidOut (by kernel_rfl) (of_decide_eq_true (by kernel_rfl)) k0 bel lt0) trodAll_mk0), rfl, bel.frame _, fun h => by cases h⟩
theorem over : Rows.pduSizesRow.holds Try.pinned (OpenSpec.ofChange Rows.pduSizesSpec) :=
  OpenClaim.holds_of_wide 3 Try.f3 rfl rfl rfl rfl rfl rfl rfl ⟨rfl, rfl, rfl, rfl, rfl⟩ rfl rfl rfl rfl rfl (by kernel_rfl) Try.func3 (by kernel_rfl)
    (of_decide_eq_true (by kernel_rfl)) (by unfold Func.isWrapper; first | (rw [if_pos (by decide +kernel)]; kernel_rfl) | (rw [if_neg (by decide +kernel)]; exact ⟨rfl, rfl⟩))
    (fun os started H enc _ => lifted os started H enc)
theorem proved : Rows.PduSizesSaid := over
#print axioms proved
end lawPduSizes
end Go.Proofs.Ythipfopmaegpdaa
