/-
  Law 20: the example; a link that is not there (LinkNil).
-/
import Derived.Test.YthnifgcoikmihaaLinkSwap
import Derived.Test.YthnifgcoikmihaaSame
import Derived.Test.YthnifgcoikmihaaOpen
import Derived.Test.YthnifgcoikmihaaRows
namespace Go.Proofs.Ythnifgcoikmihaa
open Go.RowKit Go.ChangeShapes Go.WideShapes Go.ChangeAt

def q0W : Ways := fun _ => []
def q1W : Ways := upd q0W 0 [[97]]
def q2W : Ways := upd q1W 0 [[97], [98]]
def q3W : Ways := upd q2W 0 [[98], [97]]
theorem s1W : sendE q0W 0 = 0 ∧ sendQ q0W 0 [97] = q1W := ⟨rfl, rfl⟩
theorem s2W : sendE q1W 0 = 0 ∧ sendQ q1W 0 [98] = q2W := ⟨rfl, rfl⟩
theorem s3W : twoE q2W 0 0 1 = 0 ∧ swapQ q2W 0 0 1 = q3W := ⟨rfl, rfl⟩
theorem s4W : q3W 0 = [98] :: [[97]] := rfl
set_option maxRecDepth 100000 in
set_option maxHeartbeats 2000000 in
theorem wakes_any (w : World) : Calls Try.prog 12 #[] w fun e w' => e = .returned (.bool true) ∧ Below w.heap.size w w' := by
  have kc := fun (w : World) (C : Array Value) (n c : Nat) => Lib.run_convert_bytes_const (P := Try.prog) w 26 5 C n c Try.underlying26 Try.underlying5
  go_enter Try.func12, Try.ntmps12
  go_wp2_with fail
  refine (new_any _).mono ?_
  rintro e w1 ⟨rfl, hl1, hb1⟩
  have i1 := hid (send_any _ _ _ 0 _ 1 1 [97] (w1.alloc (.cells #[.int .u8 97] 5 (1, 2))) (hl1.alloc _) ((Reads.newM w1 #[.int .u8 97] _ _ 1 rfl).more (by simp)))
  have hb1a : Below w.heap.size w (w1.alloc (.cells #[.int .u8 97] 5 (1, 2))) := hb1.alloc hb1.size _
  clear hl1
  go_wp2_with fail
  refine i1.out.mono ?_
  rintro e w2 ⟨F2, rfl, hl2, hg2⟩
  rw [show sendE (fun _ => []) 0 = 0 from rfl]
  have hx2 := hg2.bel hb1a (Nat.le_refl _) (fun b hb => by omega)
  have i2 := hid (send_any _ _ _ 0 _ 1 1 [98] (w2.alloc (.cells #[.int .u8 98] 5 (1, 2))) (hl2.alloc _) ((Reads.newM w2 #[.int .u8 98] _ _ 1 rfl).more (by simp)))
  have hb2a : Below w.heap.size w (w2.alloc (.cells #[.int .u8 98] 5 (1, 2))) := hx2.1.alloc hx2.1.size _
  have hF2 := hid hx2.2
  clear i1 hl2 hg2 hx2 hb1a
  go_wp2_with fail
  refine i2.out.mono ?_
  rintro e w3 ⟨F3, rfl, hl3, hg3⟩
  rw [show sendE (sendQ (fun _ => []) 0 [97]) 0 = 0 from rfl]
  have hx3 := hg3.bel hb2a (Nat.le_refl _) hF2.out
  clear i2 hb2a
  go_wp2_with fail
  refine (swap_any F3 _ _ 0 0 1 w3 hl3).mono ?_
  rintro e w4 ⟨F4, rfl, hl4, hg4⟩
  rw [show twoE (sendQ (sendQ (fun _ => []) 0 [97]) 0 [98]) 0 0 1 = 0 from rfl]
  have hx4 := hg4.bel hx3.1 (Nat.le_refl _) hx3.2
  clear hx3 hg3
  go_wp2_with fail
  refine (take_some F4 _ 0 (by omega) _ [98] [[97]] w4 hl4 rfl).mono ?_
  rintro e w5 ⟨F5, b, c, rfl, hl5, hg5, hm5, hs5, hn5⟩
  have hx5 := hg5.bel hx4.1 (Nat.le_refl _) hx4.2
  have kb : (convert 26 9 (.slice (some ⟨b, 0, none⟩) 1 c)).run Try.prog w5 = .ok (.string ⟨#[98]⟩) w5 := string_of (c := c) hm5.reads
  clear hx4 hg4 hl4
  go_wp2_with fail
  refine (len_any F5 _ _ 0 w5 hl5).mono ?_
  rintro e w6 ⟨rfl, rfl⟩
  rw [show lenQ (upd (swapQ (sendQ (sendQ (fun _ => []) 0 [97]) 0 [98]) 0 0 1) 0 [[97]]) 0 = 1 from rfl]
  go_wp2_with fail
  go_ret
  exact ⟨rfl, hx5.1⟩
set_option maxRecDepth 100000 in
set_option maxHeartbeats 2000000 in
theorem nil_any (w : World) (way : Int) (_ : (Lit.int .i64 way).wf = true) (A : Option Addr) (n c : Nat) (bs : List UInt8) (_ : Reads w w.heap.size 1 A n (bs.map bV)) (_ : n ≤ c) (_ : c ≤ maxLen) :
    Calls Try.prog 7 #[.int .i64 way, .slice A n c] w fun e w' => e = .returned (.bool true) ∧ Below w.heap.size w w' := by
  go_enter Try.func7, Try.ntmps7
  go_wp2_with fail
  refine (wakes_any _).mono ?_
  rintro e w1 ⟨rfl, hb1⟩
  go_wp2_with fail
  refine (take_nil _ _).mono ?_
  rintro e w2 ⟨rfl, hb2⟩
  go_wp2_with fail
  refine (send_nil _ _ _ _ _).mono ?_
  rintro e w3 ⟨rfl, rfl⟩
  go_wp2_with fail
  refine (lose_nil _ _ _).mono ?_
  rintro e w3 ⟨rfl, hb3⟩
  go_wp2_with fail
  refine (twice_nil _ _ _).mono ?_
  rintro e w4 ⟨rfl, hb4⟩
  go_wp2_with fail
  refine (swap_nil _ _ _ _).mono ?_
  rintro e w5 ⟨rfl, hb5⟩
  go_wp2_with fail
  refine (spoil_nil _ _ _ _ _).mono ?_
  rintro e w6 ⟨rfl, hb6⟩
  go_wp2_with fail
  refine (len_nil _ _).mono ?_
  rintro e w7 ⟨rfl, rfl⟩
  go_wp2_with fail
  go_ret
  exact ⟨rfl, bel_trans (bel_trans (bel_trans (bel_trans (bel_trans hb1 hb2) hb3) hb4) hb5) hb6⟩
/-! ### LinkNil: from the walk to the given statement -/
namespace lawLinkNil
theorem own : ownKnob Try.prog.godebug = none := by kernel_rfl
theorem laidOut : laidOutB Try.prog = true := by kernel_rfl
set_option maxRecDepth 100000 in
theorem lifted (os : Os) (started : os.Started) (H : Type) (enc : TypeId × Value → H) :
    ReturnsInHanded {} Try.checked os 7 .any (Rows.linkNilSpec.pre6 enc Try.prog Try.f7 Rows.linkNilRow.domain false) (Rows.linkNilSpec.post enc Try.prog Try.f7 false true false false) := by
  refine returnsInHanded_of_change (C := Try.checked) own started (by kernel_rfl) Try.func7
    (ChangeSpec.witness6 (enc := enc) (C := Try.checked) false ⟨#[], #[.int .i64 0, .slice none 0 0], []⟩ 8 (by kernel_rfl) (by kernel_rfl) (by kernel_rfl) (by kernel_rfl)) ?_
  intro W base args ds gs before hval0 hW hcnd _
  have hval : ∀ (j : Nat) t v, Try.f7.params[j]? = some t → args[j]? = some v → Value.okWide Try.prog W .any base t v := hval0
  have hW' := hW
  obtain ⟨p, q, hA0, hV, rfl, hfz, hnd⟩ := hW
  have hA : DataW.TrodAll enc Try.prog W 0 (fun _ => true) true Try.f7.params.toList args.toList ds p := hA0
  rw [Try.params7] at hA hval
  obtain ⟨v0, vs0, d0, ds0, p0, q0, hargs, rfl, rfl, h0, r0⟩ := trodAll_cons hA
  obtain ⟨v1, vs1, d1, ds1, p1, q1, rfl, rfl, rfl, h1, r1⟩ := trodAll_cons r0
  obtain ⟨rfl, rfl, rfl⟩ := trodAll_nil r1
  obtain rfl : args = #[v0, v1] := by cases args; simp_all
  obtain ⟨rfl, rfl⟩ := trodVars_none hV
  have k0 := h0
  have lt0 : ∀ x ∈ p0, x.block < W.heap.size := by obtain ⟨m, hm⟩ := k0; exact DataW.trod_lt m _ _ _ hm
  have k1 := h1
  have lt1 : ∀ x ∈ p1, x.block < W.heap.size := by obtain ⟨m, hm⟩ := k1; exact DataW.trod_lt m _ _ _ hm
  obtain ⟨a0, rfl, rfl, rfl, w0⟩ := open_int Try.underlying3 (hval 0 3 v0 rfl rfl) h0
  obtain ⟨A1, n1, c1, b1, rfl, w1, g1, l1⟩ := open_bytes Try.underlying26 Try.underlying5 (by kernel_rfl) (hval 1 26 v1 rfl rfl) h1
  clear hA0 hval0
  refine (nil_any W a0 w0 A1 n1 c1 b1 w1 g1 l1).mono fun e W' ⟨he, bel⟩ => ?_
  subst he
  exact ⟨_, rfl, _, _, _, [], _, [], hW', trodAll_mk1 (shut_bool Try.underlying4 _), (trodAll_cons_mk (Below.trod laidOut (by kernel_rfl) (of_decide_eq_true (by kernel_rfl)) k0 bel lt0) (trodAll_cons_mk (Below.trod laidOut (by kernel_rfl) (of_decide_eq_true (by kernel_rfl)) k1 bel lt1) trodAll_mk0)), rfl, bel.frame _, fun h => by cases h⟩
theorem over : Rows.linkNilRow.holds Try.pinned (OpenSpec.ofChange Rows.linkNilSpec) :=
  OpenClaim.holds_of_wide 7 Try.f7 rfl rfl rfl rfl rfl rfl rfl ⟨rfl, rfl, rfl, rfl, rfl⟩ rfl rfl rfl rfl rfl (by kernel_rfl) Try.func7 (by kernel_rfl)
    (of_decide_eq_true (by kernel_rfl)) (by unfold Func.isWrapper; first | (rw [if_pos (by decide +kernel)]; kernel_rfl) | (rw [if_neg (by decide +kernel)]; exact ⟨rfl, rfl⟩))
    (fun os started H enc _ => lifted os started H enc)
theorem proved : Rows.LinkNilSaid := over
#print axioms proved
end lawLinkNil
end Go.Proofs.Ythnifgcoikmihaa
