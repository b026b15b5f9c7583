/-
  Law 17: the example holds.
-/
import Derived.Test.YtidlahljhgglcaaQVmRuns25
namespace Go.Proofs.Ytidlahljhgglcaa
open Go.RowKit Go.ChangeShapes Go.WideShapes Go.ChangeAt

def exCV : List ChanS := [⟨0, 1, 0⟩]
def exTV : TabS := ⟨4, [⟨4, 8, 0⟩, ⟨4, 8, 0⟩], [⟨0, 0, 1⟩], exCV, 1⟩
def exIV : ImgS := ⟨0, 1, 0, 1, 8, 1, 0, [1, 2, 1, 3, 5, 14, 0, 0]⟩
theorem exTVr : rightB exTV = true := by decide
theorem exIVr : rightI exIV = true := by decide
theorem exTick : (tickF exIV exCV (freshS 1) (zeroW exCV)).2.2.1 = [(0, 5)] ∧ (tickF exIV exCV (freshS 1) (zeroW exCV)).1.pc = 8 := ⟨by rfl, by rfl⟩
theorem exampleV_any (w : World) :
    Calls Try.prog 15 #[] w fun e w' => (∃ A1 c1 A2 c2 A3 c3, e = .returned (.agg #[.int .i64 4, .slice A1 2 c1, .slice A2 1 c2, .slice A3 1 c3, .int .i64 1]) ∧ TabOk w' exTV ⟨A1, c1, A2, c2, A3, c3⟩) ∧ Below w.heap.size w w' := by
  go_enter Try.func15, Try.ntmps15
  go_wp2_with fail
  go_returns
  refine ⟨⟨_, _, _, _, _, _, rfl, ⟨⟨?_, ?_, ?_⟩, by simp [exTV, exCV], by simp [exTV, exCV], by simp [exTV, exCV], by simp [exTV, exCV], by simp [exTV, exCV]⟩⟩, (((((Below.refl _ _).alloc (Nat.le_refl _) _).alloc (by first | (simp; done) | (simp; omega)) _).alloc (by first | (simp; done) | (simp; omega)) _).alloc (by first | (simp; done) | (simp; omega)) _).alloc (by first | (simp; done) | (simp; omega)) _⟩
  · refine rds_two (T := 107) (Blk.alloc (Blk.alloc ?_ _) _) rfl
    exact Blk.newAt _ 107 (partC ⟨4, 8, 0⟩ ++ partC ⟨4, 8, 0⟩) _ (by simp)
  · exact rds_one (T := 109) (Blk.alloc (Blk.newAt _ 109 (winC ⟨0, 0, 1⟩) _ (by simp)) _)
  · exact rds_one (T := 69) (Blk.newAt _ 69 (chanC ⟨0, 1, 0⟩) _ (by simp))
theorem field_st (v0 v1 v2 v3 v4 : Value) (w : World) : (Instr.field 42 (.agg #[v0, v1, v2, v3, v4]) 0).run Try.prog w = .ok v0 w := by kernel_rfl
theorem field_img7 (v0 v1 v2 v3 v4 v5 v6 v7 : Value) (w : World) : (Instr.field 24 (.agg #[v0, v1, v2, v3, v4, v5, v6, v7]) 7).run Try.prog w = .ok v7 w := by kernel_rfl
theorem kEx : KAll exCV (zeroW exCV) := kZero _ (by decide)
theorem dEx : ∀ k, k < exCV.length → depthAt exCV k ≤ 4 := by decide
set_option maxRecDepth 100000 in
set_option maxHeartbeats 2000000 in
theorem wakesV_any (w : World) : Calls Try.prog 11 #[] w fun e w' => e = .returned (.bool true) ∧ Below w.heap.size w w' := by
  have i1 := hid (fun w A c (h : Reads w w.heap.size 1 A 8 (exIV.code.map bV)) => vmNew_ok exIV A c w h exIVr)
  unfold imgV at i1
  go_enter Try.func11, Try.ntmps11
  go_wp2_with fail
  refine (i1.out _ _ _ (Reads.lit (n := 8) (size := 1) (heap_alloc_new w (.cells #[.int .u8 1, .int .u8 2, .int .u8 1, .int .u8 3, .int .u8 5, .int .u8 14, .int .u8 0, .int .u8 0] 5)) rfl)).mono ?_
  rintro e w1 ⟨F1, g, rfl, hM, hb1', hF1'⟩
  have hb1 := bel_trans (below_alloc1 w _) hb1'
  have hF1 : ∀ b, F1 b → w.heap.size ≤ b := fun b hb => Nat.le_trans (below_alloc1 w (.cells #[.int .u8 1, .int .u8 2, .int .u8 1, .int .u8 3, .int .u8 5, .int .u8 14, .int .u8 0, .int .u8 0] 5)).size (hF1' b hb)
  have HM := hid hM
  have HF1 := hid hF1
  clear i1 hM hb1' hF1' hF1
  go_wp2_with fail
  refine (exampleV_any _).mono ?_
  rintro e w2 ⟨⟨A1, c1, A2, c2, A3, c3, rfl, hT⟩, hb2⟩
  have i2 := hid (New_ok exTV ⟨A1, c1, A2, c2, A3, c3⟩ w2 hT exTVr)
  clear hT
  go_wp2_with fail
  refine i2.out.mono ?_
  rintro e w3 ⟨F2, gs, rfl, hS, hb3, hF2⟩
  have hv : VS w g gs exIV exCV (freshS exIV.mem.toNat) (zeroW exCV) (fun _ => False) w3 := VS.start ((rightI_iff _).1 exIVr) hb1 HM.out HF1.out (bel_trans hb2 hb3) hS (fun b hb => Nat.le_trans hb2.size (hF2 b hb)) (by decide)
  have i3 := hid (hv.tick ((rightI_iff _).1 exIVr) dEx (by decide) (by decide))
  clear i2 hb1 hb2 hb3 hF2 hS hv HM HF1
  go_wp2_with fail
  refine i3.out.mono ?_
  rintro e w4 ⟨A, c, rfl, hv, hown, _, _, _, _⟩
  have e1 : (tickF exIV exCV (freshS exIV.mem.toNat) (zeroW exCV)).2.2.1 = [(0, 5)] := exTick.1
  have e2 : (tickF exIV exCV (freshS exIV.mem.toNat) (zeroW exCV)).1.pc = 8 := exTick.2
  rw [e1] at hown ⊢
  generalize (tickF exIV exCV (freshS exIV.mem.toNat) (zeroW exCV)).2.2.2 = cf
  generalize (tickF exIV exCV (freshS exIV.mem.toNat) (zeroW exCV)).2.1 = ss4 at hv
  generalize (tickF exIV exCV (freshS exIV.mem.toNat) (zeroW exCV)).1 = s4 at hv e2
  obtain ⟨gA, rfl, _, hlt⟩ := own_some hown (by decide)
  have hrd := Reads.of_own hown
  have a0 : w4.cell? ⟨gA, 0, none⟩ = some (.int .i64 0) := by
    obtain ⟨ad, he, _, hc⟩ := hrd.form (by decide)
    injection he with he
    subst he
    exact hc 0 _ rfl
  have a1 : w4.cell? ⟨gA, 1, none⟩ = some (.int .i64 5) := by
    obtain ⟨ad, he, _, hc⟩ := hrd.form (by decide)
    injection he with he
    subst he
    have := hc 1 (iV 5) rfl
    rwa [add_none] at this
  have a0' := fun o => cell_alloc a0 o
  have a1' := fun o => cell_alloc a1 o
  have i4 := hid ((hv.made (.cells #[.slice (some ⟨gA, 0, none⟩) 1 c, .bool cf] 46)).state ((rightI_iff _).1 exIVr))
  unfold stateV at i4
  rw [e2] at i4
  have HBel := hid (bel_alloc hv.bel (.cells #[.slice (some ⟨gA, 0, none⟩) 1 c, .bool cf] 46))
  unfold outV
  clear hv hown hrd e1 e2 i3 a0 a1
  go_wp2_with fail
  refine i4.out.mono ?_
  rintro e w5 ⟨B1, k1, B2, k2, rfl, _, _, hb5⟩
  have hfs := field_st
  go_wp2_with fail
  go_ret
  exact ⟨rfl, bel_trans HBel.out hb5⟩
set_option maxRecDepth 100000 in
set_option maxHeartbeats 2000000 in
theorem vmNil_any (w : World) (n : Int) (_ : (Lit.int .i64 n).wf = true) : Calls Try.prog 6 #[.int .i64 n] w fun e w' => e = .returned (.bool true) ∧ Below w.heap.size w w' := by
  go_enter Try.func6, Try.ntmps6
  go_wp2_with fail
  refine (wakesV_any _).mono ?_
  rintro e w1 ⟨rfl, hb1⟩
  go_wp2_with fail
  refine (exampleV_any _).mono ?_
  rintro e w2 ⟨⟨A1, c1, A2, c2, A3, c3, rfl, hT⟩, hb2⟩
  have i2 := hid (New_ok exTV ⟨A1, c1, A2, c2, A3, c3⟩ w2 hT exTVr)
  clear hT
  go_wp2_with fail
  refine i2.out.mono ?_
  rintro e w3 ⟨F2, gs, rfl, hS, hb3, hF2⟩
  have HB3 := hid (bel_trans (bel_trans hb1 hb2) hb3)
  clear i2 hS hb1 hb2 hb3 hF2
  go_wp2_with fail
  refine (reset_nil _).mono ?_
  rintro e w4 ⟨rfl, rfl⟩
  go_wp2_with fail
  refine (tick_nil _ _).mono ?_
  rintro e w5 ⟨rfl, hb5⟩
  have HB5 := hid (bel_alloc (bel_trans HB3.out hb5) (.cells #[.slice none 0 0, .bool false] 46))
  unfold outV
  clear hb5 HB3
  go_wp2_with fail
  refine (state_nil _).mono ?_
  rintro e w6 ⟨rfl, hb6⟩
  have HB6 := hid (bel_trans HB5.out hb6)
  have i7 := hid (sameSt_any ⟨0, [], [], 0, 0⟩ none 0 none 0 none 0 none 0 w6 Reads.empty Reads.empty Reads.empty Reads.empty (by simp) (by simp))
  unfold stateV at i7 ⊢
  clear hb6 HB5
  go_wp2_with fail
  refine i7.out.mono ?_
  rintro e w7 ⟨rfl, hb7⟩
  have HB7 := hid (bel_trans HB6.out hb7)
  clear hb7 HB6 i7
  go_wp2_with fail
  refine (image_nil _).mono ?_
  rintro e w8 ⟨rfl, hb8⟩
  have HB8 := hid (bel_trans HB7.out hb8)
  unfold imgV
  clear hb8 HB7
  have hfi := field_img7
  go_wp2_with fail
  go_ret
  exact ⟨rfl, HB8.out⟩
end Go.Proofs.Ytidlahljhgglcaa
