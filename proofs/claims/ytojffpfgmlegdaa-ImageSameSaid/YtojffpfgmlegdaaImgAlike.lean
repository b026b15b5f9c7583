/-
  ImageSame: any two images are alike where the document says. For every input.
-/
import Derived.Test.YtojffpfgmlegdaaImgSameAll
import Derived.Test.YtojffpfgmlegdaaOpenImg
namespace Go.Proofs.Ytojffpfgmlegdaa
open Go.RowKit Go.ChangeShapes Go.WideShapes Go.ChangeAt

set_option maxRecDepth 100000 in
set_option maxHeartbeats 8000000 in
theorem imgAlike_any (w : World) (p : ImgS) (A1 : Option Addr) (c1 : Nat) (h1 : ImgCame w p A1 c1) (q : ImgS) (A2 : Option Addr) (c2 : Nat) (h2 : ImgCame w q A2 c2) :
    Calls Try.prog 7 #[imgV p A1 c1, imgV q A2 c2] w fun e w' => e = .returned (.bool true) ∧ Below w.heap.size w w' := by
  obtain ⟨w1, hw1, hb1, hp1, hq1⟩ := imgs_in p q A1 c1 A2 c2 w
  have H1 := hid h1.rd
  have H2 := hid h2.rd
  have j1 := hid (fun w' hb => imgSame_any p q A1 c1 A2 c2 w' (H1.out.belowS (w' := w') hb) (H2.out.belowS hb) h1.hc h2.hc h1.hm h2.hm)
  have j3 := hid (fun w' hb => imgSame_any p p A1 c1 A1 c1 w' (H1.out.belowS (w' := w') hb) (H1.out.belowS hb) h1.hc h1.hc h1.hm h1.hm)
  have k1 := h1.hc
  have k2 := h1.hm
  have k3 := h2.hc
  have k4 := h2.hm
  unfold maxLen at k2 k4
  clear h1 h2
  simp only [sameI_refl] at j3
  simp only [imgV] at j1 j3 ⊢
  go_enter Try.func7, Try.ntmps7
  go_wp2_with fail
  clear hw1
  refine (imgWakes_any _).mono ?_
  rintro e w3 ⟨rfl, hb3⟩
  have hp3 := hp1.belowS hb3
  have hq3 := hq1.belowS hb3
  have hb03 := bel_trans hb1 hb3
  clear hp1 hq1 hb1 hb3
  have HA : Hid (∀ w', Below w3.heap.size w3 w' → w'.cell? ⟨w.heap.size, 0, none⟩ = some (.int .i64 p.part) ∧ w'.cell? ⟨w.heap.size, 1, none⟩ = some (.int .i64 p.ver) ∧ w'.cell? ⟨w.heap.size, 2, none⟩ = some (.int .i64 p.hard) ∧ w'.cell? ⟨w.heap.size, 3, none⟩ = some (.int .i64 p.mem) ∧ w'.cell? ⟨w.heap.size, 4, none⟩ = some (.int .i64 p.fuel) ∧ w'.cell? ⟨w.heap.size, 5, none⟩ = some (.int .i64 p.sends) ∧ w'.cell? ⟨w.heap.size, 6, none⟩ = some (.int .i64 p.recvs) ∧ w'.cell? ⟨w.heap.size, 7, none⟩ = some (.slice A1 p.code.length c1) ∧ w'.cell? ⟨w.heap.size + 1, 0, none⟩ = some (.int .i64 q.part) ∧ w'.cell? ⟨w.heap.size + 1, 1, none⟩ = some (.int .i64 q.ver) ∧ w'.cell? ⟨w.heap.size + 1, 2, none⟩ = some (.int .i64 q.hard) ∧ w'.cell? ⟨w.heap.size + 1, 3, none⟩ = some (.int .i64 q.mem) ∧ w'.cell? ⟨w.heap.size + 1, 4, none⟩ = some (.int .i64 q.fuel) ∧ w'.cell? ⟨w.heap.size + 1, 5, none⟩ = some (.int .i64 q.sends) ∧ w'.cell? ⟨w.heap.size + 1, 6, none⟩ = some (.int .i64 q.recvs) ∧ w'.cell? ⟨w.heap.size + 1, 7, none⟩ = some (.slice A2 q.code.length c2)) := hid (fun w' hb => by
    obtain ⟨a0, a1, a2, a3, a4, a5, a6, a7⟩ := img_cells (hp3.belowS hb)
    obtain ⟨d0, d1, d2, d3, d4, d5, d6, d7⟩ := img_cells (hq3.belowS hb)
    exact ⟨a0, a1, a2, a3, a4, a5, a6, a7, d0, d1, d2, d3, d4, d5, d6, d7⟩)
  obtain ⟨m0, m1, m2, m3, m4, m5, m6, m7, n0, n1, n2, n3, n4, n5, n6, n7⟩ := HA.out w3 (Below.refl _ _)
  clear hp3 hq3
  by_cases g1 : 500 < p.code.length
  · have g1' : decide ((500 : Int) < (p.code.length : Int)) = true := decide_eq_true (by omega)
    clear g1
    go_wp2_with fail
    go_ret
    exact ⟨rfl, hb03⟩
  have g1' : decide ((500 : Int) < (p.code.length : Int)) = false := decide_eq_false (by omega)
  by_cases g2 : 500 < q.code.length
  · have g2' : decide ((500 : Int) < (q.code.length : Int)) = true := decide_eq_true (by omega)
    clear g1 g2
    go_wp2_with fail
    go_ret
    exact ⟨rfl, hb03⟩
  have g2' : decide ((500 : Int) < (q.code.length : Int)) = false := decide_eq_false (by omega)
  have j2 := hid (fun w' hb => refSameI_any p q A1 c1 A2 c2 w' (H1.out.belowS (w' := w') hb) (H2.out.belowS hb) (by omega) (by omega))
  simp only [imgV] at j2
  generalize sameI p q = SB at j1 j2
  have H03 := hid hb03
  clear g1 g2 hb03
  cases SB
  all_goals (
    go_wp2_with fail
    clear g1' g2'
    go_region_held3 (fun w' => w'.cell? ⟨w.heap.size, 0, none⟩ = some (.int .i64 p.part) ∧ w'.cell? ⟨w.heap.size, 1, none⟩ = some (.int .i64 p.ver) ∧ w'.cell? ⟨w.heap.size, 2, none⟩ = some (.int .i64 p.hard) ∧ w'.cell? ⟨w.heap.size, 3, none⟩ = some (.int .i64 p.mem) ∧ w'.cell? ⟨w.heap.size, 4, none⟩ = some (.int .i64 p.fuel) ∧ w'.cell? ⟨w.heap.size, 5, none⟩ = some (.int .i64 p.sends) ∧ w'.cell? ⟨w.heap.size, 6, none⟩ = some (.int .i64 p.recvs) ∧ w'.cell? ⟨w.heap.size, 7, none⟩ = some (.slice A1 p.code.length c1) ∧ w'.cell? ⟨w.heap.size + 1, 0, none⟩ = some (.int .i64 q.part) ∧ w'.cell? ⟨w.heap.size + 1, 1, none⟩ = some (.int .i64 q.ver) ∧ w'.cell? ⟨w.heap.size + 1, 2, none⟩ = some (.int .i64 q.hard) ∧ w'.cell? ⟨w.heap.size + 1, 3, none⟩ = some (.int .i64 q.mem) ∧ w'.cell? ⟨w.heap.size + 1, 4, none⟩ = some (.int .i64 q.fuel) ∧ w'.cell? ⟨w.heap.size + 1, 5, none⟩ = some (.int .i64 q.sends) ∧ w'.cell? ⟨w.heap.size + 1, 6, none⟩ = some (.int .i64 q.recvs) ∧ w'.cell? ⟨w.heap.size + 1, 7, none⟩ = some (.slice A2 q.code.length c2)) (go_keep)
      (first
        | (go_at_call 21; refine (j1.out _ ?_).mono ?_; (first | exact H03.out | exact H03.out.drew); rintro e wa ⟨rfl, hba'⟩; have hba : Below w3.heap.size w3 wa := ⟨hba'.os, hba'.tape, hba'.output, hba'.size, hba'.block⟩; clear hba'; have hbA := hba; have h0a := hid (bel_trans H03.out hba); clear j1; obtain ⟨z0, z1, z2, z3, z4, z5, z6, z7, y0, y1, y2, y3, y4, y5, y6, y7⟩ := HA.out _ hbA)
        | (go_at_call 22; refine (j2.out _ ?_).mono ?_; (first | exact h0a.out | exact h0a.out.drew); rintro e wb ⟨rfl, hbb'⟩; have hbb : Below wa.heap.size wa wb := ⟨hbb'.os, hbb'.tape, hbb'.output, hbb'.size, hbb'.block⟩; clear hbb'; have hbB := bel_trans hbA hbb; have h0b := hid (bel_trans h0a.out hbb); clear j2 z0 z1 z2 z3 z4 z5 z6 z7 y0 y1 y2 y3 y4 y5 y6 y7; obtain ⟨z0, z1, z2, z3, z4, z5, z6, z7, y0, y1, y2, y3, y4, y5, y6, y7⟩ := HA.out _ hbB)
        | (go_at_call 21; refine (j3.out _ ?_).mono ?_; (first | exact h0b.out | exact h0b.out.drew); rintro e wc ⟨rfl, hbc'⟩; have hbc : Below wb.heap.size wb wc := ⟨hbc'.os, hbc'.tape, hbc'.output, hbc'.size, hbc'.block⟩; clear hbc'; have hbC := bel_trans hbB hbc; have h0c := hid (bel_trans h0b.out hbc); clear j3 z0 z1 z2 z3 z4 z5 z6 z7 y0 y1 y2 y3 y4 y5 y6 y7; obtain ⟨z0, z1, z2, z3, z4, z5, z6, z7, y0, y1, y2, y3, y4, y5, y6, y7⟩ := HA.out _ hbC))
    clear z0 z1 z2 z3 z4 z5 z6 z7 y0 y1 y2 y3 y4 y5 y6 y7 HA
    go_wp2_with fail
    go_ret
    exact ⟨rfl, h0c.out⟩)
/-! ### ImageSame: from the walk to the given statement -/
namespace lawImageSame
theorem own : ownKnob Try.prog.godebug = none := by kernel_rfl
theorem laidOut : laidOutB Try.prog = true := by kernel_rfl
set_option maxRecDepth 100000 in
theorem lifted (os : Os) (started : os.Started) (H : Type) (enc : TypeId × Value → H) :
    ReturnsInHanded {} Try.checked os 7 .any (Rows.imageSameSpec.pre6 enc Try.prog Try.f7 Rows.imageSameRow.domain false) (Rows.imageSameSpec.post enc Try.prog Try.f7 false true false false) := by
  refine returnsInHanded_of_change (C := Try.checked) own started (by kernel_rfl) Try.func7
    (ChangeSpec.witness6 (enc := enc) (C := Try.checked) false ⟨#[], #[.agg #[.int .i64 0, .int .i64 0, .int .i64 0, .int .i64 0, .int .i64 0, .int .i64 0, .int .i64 0, .slice none 0 0], .agg #[.int .i64 0, .int .i64 0, .int .i64 0, .int .i64 0, .int .i64 0, .int .i64 0, .int .i64 0, .slice none 0 0]], []⟩ 8 (by kernel_rfl) (by kernel_rfl) (by kernel_rfl) (by kernel_rfl)) ?_
  intro W base args ds gs before hval0 hW hcnd _
  have hval : ∀ (j : Nat) t v, Try.f7.params[j]? = some t → args[j]? = some v → Value.okWide Try.prog W .any base t v := hval0
  have hW' := hW
  obtain ⟨p, q, hA0, hV, rfl, hfz, hnd⟩ := hW
  have hA : DataW.TrodAll enc Try.prog W 0 (fun _ => true) true Try.f7.params.toList args.toList ds p := hA0
  rw [Try.params7] at hA hval
  obtain ⟨v0, vs0, d0, ds0, p0, q0, hargs, rfl, rfl, h0, r0⟩ := trodAll_cons hA
  obtain ⟨v1, vs1, d1, ds1, p1, q1, rfl, rfl, rfl, h1, r1⟩ := trodAll_cons r0
  obtain ⟨rfl, rfl, rfl⟩ := trodAll_nil r1
  obtain rfl : args = #[v0, v1] := by cases args; simp_all
  obtain ⟨rfl, rfl⟩ := trodVars_none hV
  have k0 := h0
  have lt0 : ∀ x ∈ p0, x.block < W.heap.size := by obtain ⟨m, hm⟩ := k0; exact DataW.trod_lt m _ _ _ hm
  have k1 := h1
  have lt1 : ∀ x ∈ p1, x.block < W.heap.size := by obtain ⟨m, hm⟩ := k1; exact DataW.trod_lt m _ _ _ hm
  obtain ⟨i0, A0, c0, rfl, w0⟩ := open_img (hval 0 41 v0 rfl rfl) h0
  obtain ⟨i1, A1, c1, rfl, w1⟩ := open_img (hval 1 41 v1 rfl rfl) h1
  clear hA0 hval0
  refine (imgAlike_any W i0 A0 c0 w0 i1 A1 c1 w1).mono fun e W' ⟨he, bel⟩ => ?_
  subst he
  exact ⟨_, rfl, _, _, _, [], _, [], hW', trodAll_mk1 (shut_bool Try.underlying4 _), (trodAll_cons_mk (Below.trod laidOut (by kernel_rfl) (of_decide_eq_true (by kernel_rfl)) k0 bel lt0) (trodAll_cons_mk (Below.trod laidOut (by kernel_rfl) (of_decide_eq_true (by kernel_rfl)) k1 bel lt1) trodAll_mk0)), rfl, bel.frame _, fun h => by cases h⟩
theorem over : Rows.imageSameRow.holds Try.pinned (OpenSpec.ofChange Rows.imageSameSpec) :=
  OpenClaim.holds_of_wide 7 Try.f7 rfl rfl rfl rfl rfl rfl rfl ⟨rfl, rfl, rfl, rfl, rfl⟩ rfl rfl rfl rfl rfl (by kernel_rfl) Try.func7 (by kernel_rfl)
    (of_decide_eq_true (by kernel_rfl)) (by unfold Func.isWrapper; first | (rw [if_pos (by decide +kernel)]; kernel_rfl) | (rw [if_neg (by decide +kernel)]; exact ⟨rfl, rfl⟩))
    (fun os started H enc _ => lifted os started H enc)
theorem proved : Rows.ImageSameSaid := over
#print axioms proved
end lawImageSame
end Go.Proofs.Ytojffpfgmlegdaa
