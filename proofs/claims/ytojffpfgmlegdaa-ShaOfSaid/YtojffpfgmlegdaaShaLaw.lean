/-
  ShaOf: any bytes have the digest that the document says. For every input.
-/
import Derived.Test.YtojffpfgmlegdaaShaOwn
import Derived.Test.YtojffpfgmlegdaaRefOf
namespace Go.Proofs.Ytojffpfgmlegdaa
open Go.RowKit Go.ChangeShapes Go.WideShapes Go.ChangeAt

theorem cutAllSh (g : Nat) : ∀ w, (Instr.sliceAt 24 (.pointer (some ⟨g, 0, none⟩)) none none none).run Try.prog w = .ok (.slice (some ⟨g, 0, none⟩) 32 32) w := by
  intro w
  have hlen : Try.prog.arrayLen 24 = 32 := by kernel_rfl
  have hun : Try.prog.underlying 24 = some (.array (Try.prog.arrayLen 24) (Try.prog.elem 24)) := by kernel_rfl
  have hso : ∀ w, (sizeOf (Try.prog.elem 24)).run Try.prog w = .ok 1 w := fun w => by kernel_rfl
  rw [run_sliceAt_array_all w 24 ⟨g, 0, none⟩ hun, hso, hlen]
  simp only [Result.andThen_ok, slicedAt]
  rw [if_neg (by decide)]
  rfl
set_option maxRecDepth 20000 in
set_option maxHeartbeats 2000000 in
theorem shaOfL_any (A : Option Addr) (n c : Nat) (bs : List UInt8) (w : World) (hr : Reads w w.heap.size 1 A n (bs.map bV)) (hnc : n ≤ c) (hc : c ≤ maxLen) :
    Calls Try.prog 3 #[.slice A n c] w fun e w' => e = .returned (.bool true) ∧ Below w.heap.size w w' := by
  unfold maxLen at hc
  by_cases hn : 1000 < n
  · go_enter Try.func3, Try.ntmps3
    go_wp2_with fail
    refine (shaWakes_any w).mono ?_
    rintro e w0 ⟨rfl, hb0⟩
    have hn' : decide ((1000 : Int) < (n : Int)) = true := by simp; omega
    go_wp2_with fail
    go_ret
    exact ⟨rfl, hb0⟩
  have hn' : decide ((1000 : Int) < (n : Int)) = false := by simp; omega
  obtain ⟨SU, hSU⟩ : ∃ SU, shaOf bs = SU := ⟨_, rfl⟩
  have HSL : Hid (SU.length = 32) := hid (by rw [← hSU]; rfl)
  have hz := zero32A_run
  have hzs := zero32A_size
  go_enter Try.func3, Try.ntmps3
  go_wp2_with fail
  refine (shaWakes_any w).mono ?_
  rintro e w0 ⟨rfl, hb0⟩
  have HR := hid (hr.belowS hb0)
  have hrs := hr.belowS hb0
  clear hr
  go_wp2_with (at_builtin; refine copyB _ rfl _ _ rfl rfl A n c bs rfl (by exact hrs) (by omega) ?_; intro A1 c1 w1 hown1 hb1)
  have HO1 := hid hown1
  have hr1 := Reads.of_own hown1
  have hsw1 := hb1.size
  refine (sh_of_any A1 n c1 bs w1 hr1 (by omega)).mono ?_
  rw [hSU]
  rintro e w2 ⟨rfl, hb2⟩
  obtain ⟨w3, hw3, hb3, hblk⟩ : ∃ w3 : World, w2.alloc (.cells (SU.map bV).toArray 24) = w3 ∧ Below w2.heap.size w2 w3 ∧ Blk w3 w2.heap.size 24 (SU.map bV) :=
    ⟨_, rfl, (Below.refl _ _).alloc (Nat.le_refl _) _, Blk.new w2 _ _⟩
  have H3 := hid hw3
  have HB3 := hid hblk
  have HBB := hid (bel_trans hb2 hb3)
  have HB1 := hid hb1
  clear hw3 hblk hb3 hb2 hown1 hb1 hrs hr1
  have hsl := cutAllSh w2.heap.size
  have hw2 := HB3.out.lt
  have i1 := hid (fun W (hb : Below w3.heap.size w3 W) => refKnow_any W)
  have i2 := hid (fun W (hb : Below w3.heap.size w3 W) AF cF AR cR (hF : Reads W W.heap.size 1 AF 8 (shNew.v.list.map nW)) (hK : Reads W W.heap.size 1 AR 64 (shaK.map nW)) h1 h2 h3 h4 => refOf_any AF AR cF cR A n c bs W hF hK h1 h2 h3 h4 ((HR.out.belowS (HB1.out.trans ((HBB.out.mono hsw1).trans (hb.mono (by have := HBB.out.size; omega)))))) (by omega))
  go_wp2_with (refine wpList_store_row rfl 24 _ _ rfl w2.heap.size (SU.map bV).toArray rfl rfl 24 zero32A (heap_alloc_new w2 _) (sh_info32 _ (by simp [HSL.out])) (by simp [HSL.out, zero32A_size]) (oneCell_by _) ?_; rw [World.setRow_alloc_new, H3.out])
  have hs2 := HBB.out.size
  have HRS : Hid (∀ W, Below w3.heap.size w3 W → Reads W W.heap.size 1 (some ⟨w2.heap.size, 0, none⟩) 32 (SU.map bV)) := hid (fun W hb => by
    have := (HB3.out.below hb hw2).reads 32 (by rw [List.length_map, HSL.out]; exact Nat.le_refl _)
    rw [List.take_of_length_le (by rw [List.length_map, HSL.out]; exact Nat.le_refl _)] at this
    exact this)
  clear hz hzs
  go_region_law (first
    | (go_simp; go_at_call 15; refine (i1.out _ (by first | exact Below.refl _ _ | exact ⟨rfl, rfl, rfl, Nat.le_refl _, fun _ _ => rfl⟩)).mono ?_; rintro e w4 ⟨AF, cF, AR, cR, rfl, hF, hK, hF1, hF2, hK1, hK2, hb4'⟩; have hb4 : Below w3.heap.size w3 w4 := ⟨hb4'.os, hb4'.tape, hb4'.output, hb4'.size, hb4'.block⟩; clear hb4' i1; try dsimp only)
    | (go_simp; go_at_call 14; refine (i2.out w4 hb4 AF cF AR cR hF hK hF1 hF2 hK1 hK2).mono ?_; rw [hSU]; rintro e w5 ⟨A5, c5, rfl, ho5, hb5'⟩; have hb5 := hb4.trans (hb5'.mono hb4.size); have hr5 := Reads.of_own ho5; clear hb5' i2 hF hK; try dsimp only)
    | (go_simp; go_at_call_of 13 (Value.slice (some ⟨w2.heap.size, 0, none⟩) 32 32); refine (same_b (some ⟨w2.heap.size, 0, none⟩) A5 32 32 32 c5 SU SU w5 (HRS.out w5 hb5) hr5 (by omega) (by omega)).mono ?_; rw [decide_eq_true (rfl : SU = SU)]; rintro e w6 ⟨rfl, hb6'⟩; have hb6 := hb5.trans (hb6'.mono hb5.size); clear hb6'; have hsw6 := hb6.size; have HR6 := hid (show Reads w6 w6.heap.size 1 A1 n (bs.map bV) from Reads.of_own (own_below HO1.out (HBB.out.trans (hb6.mono hs2)))); have HRb := hid (show Reads w6 w6.heap.size 1 A n (bs.map bV) from HR.out.belowS (HB1.out.trans ((HBB.out.trans (hb6.mono hs2)).mono hsw1))); have HB6 := hid (HB1.out.trans ((HBB.out.trans (hb6.mono hs2)).mono hsw1)); clear hb4 hb5 hb6 ho5 hr5 hsl; try dsimp only)
    | (go_simp; go_at_call_of 13 (Value.slice A1 n c1); refine (same_b A1 A n n c1 c bs bs w6 HR6.out HRb.out (by omega) (by omega)).mono ?_; rw [decide_eq_true (rfl : bs = bs)]; rintro e w7 ⟨rfl, hb7⟩; have hfin := hid (bel_trans hb0 (bel_trans HB6.out hb7)); clear hb7; try dsimp only))
  go_wp2_with fail
  go_ret
  exact ⟨by rfl, hfin.out⟩
/-! ### ShaOf: from the walk to the given statement -/
namespace lawShaOf
theorem own : ownKnob Try.prog.godebug = none := by kernel_rfl
theorem laidOut : laidOutB Try.prog = true := by kernel_rfl
set_option maxRecDepth 100000 in
theorem lifted (os : Os) (started : os.Started) (H : Type) (enc : TypeId × Value → H) :
    ReturnsInHanded {} Try.checked os 3 .any (Rows.shaOfSpec.pre6 enc Try.prog Try.f3 Rows.shaOfRow.domain false) (Rows.shaOfSpec.post enc Try.prog Try.f3 false true false false) := by
  refine returnsInHanded_of_change (C := Try.checked) own started (by kernel_rfl) Try.func3
    (ChangeSpec.witness6 (enc := enc) (C := Try.checked) false ⟨#[], #[.slice none 0 0], []⟩ 8 (by kernel_rfl) (by kernel_rfl) (by kernel_rfl) (by kernel_rfl)) ?_
  intro W base args ds gs before hval0 hW hcnd _
  have hval : ∀ (j : Nat) t v, Try.f3.params[j]? = some t → args[j]? = some v → Value.okWide Try.prog W .any base t v := hval0
  have hW' := hW
  obtain ⟨p, q, hA0, hV, rfl, hfz, hnd⟩ := hW
  have hA : DataW.TrodAll enc Try.prog W 0 (fun _ => true) true Try.f3.params.toList args.toList ds p := hA0
  rw [Try.params3] at hA hval
  obtain ⟨v0, vs0, d0, ds0, p0, q0, hargs, rfl, rfl, h0, r0⟩ := trodAll_cons hA
  obtain ⟨rfl, rfl, rfl⟩ := trodAll_nil r0
  obtain rfl : args = #[v0] := by cases args; simp_all
  obtain ⟨rfl, rfl⟩ := trodVars_none hV
  have k0 := h0
  have lt0 : ∀ x ∈ p0, x.block < W.heap.size := by obtain ⟨m, hm⟩ := k0; exact DataW.trod_lt m _ _ _ hm
  obtain ⟨A0, n0, c0, b0, rfl, w0, g0, l0⟩ := open_bytes Try.underlying22 Try.underlying5 (by kernel_rfl) (hval 0 22 v0 rfl rfl) h0
  clear hA0 hval0
  refine (shaOfL_any A0 n0 c0 b0 W w0 g0 l0).mono fun e W' ⟨he, bel⟩ => ?_
  subst he
  exact ⟨_, rfl, _, _, _, [], _, [], hW', trodAll_mk1 (shut_bool Try.underlying4 _), (trodAll_cons_mk (Below.trod laidOut (by kernel_rfl) (of_decide_eq_true (by kernel_rfl)) k0 bel lt0) trodAll_mk0), rfl, bel.frame _, fun h => by cases h⟩
theorem over : Rows.shaOfRow.holds Try.pinned (OpenSpec.ofChange Rows.shaOfSpec) :=
  OpenClaim.holds_of_wide 3 Try.f3 rfl rfl rfl rfl rfl rfl rfl ⟨rfl, rfl, rfl, rfl, rfl⟩ rfl rfl rfl rfl rfl (by kernel_rfl) Try.func3 (by kernel_rfl)
    (of_decide_eq_true (by kernel_rfl)) (by unfold Func.isWrapper; first | (rw [if_pos (by decide +kernel)]; kernel_rfl) | (rw [if_neg (by decide +kernel)]; exact ⟨rfl, rfl⟩))
    (fun os started H enc _ => lifted os started H enc)
theorem proved : Rows.ShaOfSaid := over
#print axioms proved
end lawShaOf
end Go.Proofs.Ytojffpfgmlegdaa
