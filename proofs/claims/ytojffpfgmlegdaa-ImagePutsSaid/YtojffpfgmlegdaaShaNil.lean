/-
  ShaNil: a digest that is not there has a digest of zeros. For every input.
-/
import Derived.Test.YtojffpfgmlegdaaShaOf
import Derived.Test.YtojffpfgmlegdaaNum
import Derived.Test.YtojffpfgmlegdaaArrEq
import Derived.Test.YtojffpfgmlegdaaOpen
import Derived.Test.YtojffpfgmlegdaaRows
namespace Go.Proofs.Ytojffpfgmlegdaa
open Go.RowKit Go.ChangeShapes Go.WideShapes Go.ChangeAt

theorem cutArr32 (g k : Nat) (hk : k ≤ 32) : ∀ w, (Instr.sliceAt 24 (.pointer (some ⟨g, 0, none⟩)) none (some (.int .i64 (k : Int))) none).run Try.prog w = .ok (.slice (some ⟨g, 0, none⟩) k 32) w := by
  intro w
  have hlen : Try.prog.arrayLen 24 = 32 := by kernel_rfl
  have hun : Try.prog.underlying 24 = some (.array (Try.prog.arrayLen 24) (Try.prog.elem 24)) := by kernel_rfl
  have hso : ∀ w, (sizeOf (Try.prog.elem 24)).run Try.prog w = .ok 1 w := fun w => by kernel_rfl
  rw [run_sliceAt_array_h w 24 ⟨g, 0, none⟩ hun .i64 (k : Int) (by omega) (by rw [hlen]; omega), hso, hlen]
  simp only [Result.andThen_ok, slicedAt, Int.toNat_natCast]
  rw [if_neg (by omega)]
  rfl
theorem Blk.reads {w : World} {g : Nat} {t : TypeId} {l : List Value} (h : Blk w g t l) (k : Nat) (hk : k ≤ l.length) : Reads w w.heap.size 1 (some ⟨g, 0, none⟩) k (l.take k) := by
  refine ⟨by simp; omega, fun _ => ⟨_, rfl, h.lt, fun j u hu => ?_⟩⟩
  rw [add_none, h.cell]
  rw [List.getElem?_take] at hu
  split at hu
  · simpa using hu
  · cases hu
theorem below_of_alloc {w w' : World} {o : Obj} (h : Below (w.alloc o).heap.size (w.alloc o) w') : Below w.heap.size w w' :=
  ((Below.refl _ _).alloc (Nat.le_refl _) _).trans (h.mono (by simp))
set_option maxHeartbeats 1000000 in
theorem shaWakes_any (w : World) : Calls Try.prog 11 #[] w fun e w' => e = .returned (.bool true) ∧ Below w.heap.size w w' := by
  have kc := fun (w : World) (C : Array Value) (n c : Nat) => Lib.run_convert_bytes_const (P := Try.prog) w 22 5 C n c Try.underlying22 Try.underlying5
  have hz := zero32A_run
  have hzs := zero32A_size
  obtain ⟨SU, hSU⟩ : ∃ SU, shaOf [97, 98, 99] = SU := ⟨_, rfl⟩
  have HSL : Hid (SU.length = 32) := hid (by rw [← hSU]; rfl)
  have H4 : Hid (SU.take 4 = [0xba, 0x78, 0x16, 0xbf]) := hid (by rw [← hSU]; exact sha_abc)
  go_enter Try.func11, Try.ntmps11
  go_wp2_with fail
  refine (sh_of_any _ 3 _ [97, 98, 99] _ ((Reads.newM w #[.int .u8 97, .int .u8 98, .int .u8 99] _ _ 3 rfl).more (by simp)) (by decide)).mono ?_
  rw [hSU]
  rintro e w1 ⟨rfl, hb1⟩
  clear hSU kc
  obtain ⟨w2, hw2, hsz2, hb2, hblk⟩ : ∃ w2 : World, w1.alloc (.cells (SU.map bV).toArray 24) = w2 ∧ w2.heap.size = w1.heap.size + 1 ∧ Below w1.heap.size w1 w2 ∧ Blk w2 w1.heap.size 24 (SU.map bV) :=
    ⟨_, rfl, by simp, (Below.refl _ _).alloc (Nat.le_refl _) _, Blk.new w1 _ _⟩
  have HW2 := hid hw2
  have HB := hid hblk
  have HB2 := hid hb2
  have HSZ := hid hsz2
  clear hw2 hblk hb2 hsz2
  have hsl := cutArr32 w1.heap.size 4 (by decide)
  go_wp2_with (refine wpList_store_row rfl 24 _ _ rfl w1.heap.size (SU.map bV).toArray rfl rfl 24 zero32A (heap_alloc_new w1 _) (sh_info32 _ (by simp [HSL.out])) (by simp [HSL.out, zero32A_size]) (oneCell_by _) ?_; rw [World.setRow_alloc_new, HW2.out])
  have hr1 : Reads w2 w2.heap.size 1 (some ⟨w1.heap.size, 0, none⟩) 4 (([0xba, 0x78, 0x16, 0xbf] : List UInt8).map bV) := by
    have := HB.out.reads 4 (by rw [List.length_map, HSL.out]; decide)
    rw [← List.map_take, H4.out] at this
    exact this
  have hr2 : Reads (w2.alloc (.cells #[.int .u8 186, .int .u8 120, .int .u8 22, .int .u8 191] 5)) (w2.heap.size + 1) 1 (some ⟨w2.heap.size, 0, none⟩) 4 (([0xba, 0x78, 0x16, 0xbf] : List UInt8).map bV) :=
    Reads.new w2 #[.int .u8 186, .int .u8 120, .int .u8 22, .int .u8 191] _ 4 rfl
  have hr1' := hr1.alloc (Nat.le_refl _) (.cells #[.int .u8 186, .int .u8 120, .int .u8 22, .int .u8 191] 5)
  refine (same_any _ _ 4 4 _ _ [0xba, 0x78, 0x16, 0xbf] [0xba, 0x78, 0x16, 0xbf] _ _ _ hr1' hr2 (by decide) (by decide)).mono ?_
  rintro e w3 ⟨rfl, q, rfl⟩
  go_wp2_with fail
  go_ret
  exact ⟨by simp, below_drewN (bel_alloc (bel_trans (below_of_alloc hb1) HB2.out) _) q⟩
theorem eqArr (a b : List UInt8) (ha : a.length = 32) (hb : b.length = 32) (w : World) : (Op.equalIn 10000 24 (.agg (a.map bV).toArray) (.agg (b.map bV).toArray)).run Try.prog w = .ok (decide (a = b)) w :=
  run_equalIn_arr w 9998 24 5 32 a b (by kernel_rfl) (by kernel_rfl) (fun w => by kernel_rfl) (fun w => by kernel_rfl) ha hb
set_option maxRecDepth 20000 in
set_option maxHeartbeats 1000000 in
theorem shaNil_any (A : Option Addr) (n c : Nat) (bs : List UInt8) (w : World) (hr : Reads w w.heap.size 1 A n (bs.map bV)) (hnc : n ≤ c) (hc : c ≤ maxLen) :
    Calls Try.prog 5 #[.slice A n c] w fun e w' => e = .returned (.bool true) ∧ Below w.heap.size w w' := by
  have hq := hid (fun w => sh_sum_none w)
  have heq := fun w => eqArr (List.replicate 32 0) (List.replicate 32 0) (by simp) (by simp) w
  simp only [decide_true] at heq
  have hlit : ((List.replicate 32 (0 : UInt8)).map bV).toArray = #[Value.int IntKind.u8 0, Value.int IntKind.u8 0, Value.int IntKind.u8 0, Value.int IntKind.u8 0, Value.int IntKind.u8 0, Value.int IntKind.u8 0, Value.int IntKind.u8 0, Value.int IntKind.u8 0, Value.int IntKind.u8 0, Value.int IntKind.u8 0, Value.int IntKind.u8 0, Value.int IntKind.u8 0, Value.int IntKind.u8 0, Value.int IntKind.u8 0, Value.int IntKind.u8 0, Value.int IntKind.u8 0, Value.int IntKind.u8 0, Value.int IntKind.u8 0, Value.int IntKind.u8 0, Value.int IntKind.u8 0, Value.int IntKind.u8 0, Value.int IntKind.u8 0, Value.int IntKind.u8 0, Value.int IntKind.u8 0, Value.int IntKind.u8 0, Value.int IntKind.u8 0, Value.int IntKind.u8 0, Value.int IntKind.u8 0, Value.int IntKind.u8 0, Value.int IntKind.u8 0, Value.int IntKind.u8 0, Value.int IntKind.u8 0] := by kernel_rfl
  have heq2 : ∀ w, (Op.equalIn 10000 24 (.agg ((List.replicate 32 (0 : UInt8)).map bV).toArray) (.agg #[Value.int IntKind.u8 0, Value.int IntKind.u8 0, Value.int IntKind.u8 0, Value.int IntKind.u8 0, Value.int IntKind.u8 0, Value.int IntKind.u8 0, Value.int IntKind.u8 0, Value.int IntKind.u8 0, Value.int IntKind.u8 0, Value.int IntKind.u8 0, Value.int IntKind.u8 0, Value.int IntKind.u8 0, Value.int IntKind.u8 0, Value.int IntKind.u8 0, Value.int IntKind.u8 0, Value.int IntKind.u8 0, Value.int IntKind.u8 0, Value.int IntKind.u8 0, Value.int IntKind.u8 0, Value.int IntKind.u8 0, Value.int IntKind.u8 0, Value.int IntKind.u8 0, Value.int IntKind.u8 0, Value.int IntKind.u8 0, Value.int IntKind.u8 0, Value.int IntKind.u8 0, Value.int IntKind.u8 0, Value.int IntKind.u8 0, Value.int IntKind.u8 0, Value.int IntKind.u8 0, Value.int IntKind.u8 0, Value.int IntKind.u8 0])).run Try.prog w = .ok true w := fun w => by
    have := heq w
    rw [← hlit]
    exact this
  clear heq hlit
  generalize hZ : ((List.replicate 32 (0 : UInt8)).map bV).toArray = Z at hq heq2
  have HZ := hid hZ
  clear hZ hr
  go_enter Try.func5, Try.ntmps5
  go_wp2_with fail
  refine (shaWakes_any w).mono ?_
  rintro e w0 ⟨rfl, hb0⟩
  go_wp2_with fail
  refine (sh_write_nil A n c w0).mono ?_
  rintro e w1 ⟨rfl, rfl⟩
  go_wp2_with fail
  refine (hq.out w0).mono ?_
  rintro e w1 ⟨rfl, hb1⟩
  go_wp2_with fail
  refine (sh_long_nil w1).mono ?_
  rintro e w2 ⟨rfl, rfl⟩
  go_wp2_with fail
  go_ret
  exact ⟨by simp, bel_trans hb0 hb1⟩
/-! ### ShaNil: from the walk to the given statement -/
namespace lawShaNil
theorem own : ownKnob Try.prog.godebug = none := by kernel_rfl
theorem laidOut : laidOutB Try.prog = true := by kernel_rfl
set_option maxRecDepth 100000 in
theorem lifted (os : Os) (started : os.Started) (H : Type) (enc : TypeId × Value → H) :
    ReturnsInHanded {} Try.checked os 5 .any (Rows.shaNilSpec.pre6 enc Try.prog Try.f5 Rows.shaNilRow.domain false) (Rows.shaNilSpec.post enc Try.prog Try.f5 false true false false) := by
  refine returnsInHanded_of_change (C := Try.checked) own started (by kernel_rfl) Try.func5
    (ChangeSpec.witness6 (enc := enc) (C := Try.checked) false ⟨#[], #[.slice none 0 0], []⟩ 8 (by kernel_rfl) (by kernel_rfl) (by kernel_rfl) (by kernel_rfl)) ?_
  intro W base args ds gs before hval0 hW hcnd _
  have hval : ∀ (j : Nat) t v, Try.f5.params[j]? = some t → args[j]? = some v → Value.okWide Try.prog W .any base t v := hval0
  have hW' := hW
  obtain ⟨p, q, hA0, hV, rfl, hfz, hnd⟩ := hW
  have hA : DataW.TrodAll enc Try.prog W 0 (fun _ => true) true Try.f5.params.toList args.toList ds p := hA0
  rw [Try.params5] at hA hval
  obtain ⟨v0, vs0, d0, ds0, p0, q0, hargs, rfl, rfl, h0, r0⟩ := trodAll_cons hA
  obtain ⟨rfl, rfl, rfl⟩ := trodAll_nil r0
  obtain rfl : args = #[v0] := by cases args; simp_all
  obtain ⟨rfl, rfl⟩ := trodVars_none hV
  have k0 := h0
  have lt0 : ∀ x ∈ p0, x.block < W.heap.size := by obtain ⟨m, hm⟩ := k0; exact DataW.trod_lt m _ _ _ hm
  obtain ⟨A0, n0, c0, b0, rfl, w0, g0, l0⟩ := open_bytes Try.underlying22 Try.underlying5 (by kernel_rfl) (hval 0 22 v0 rfl rfl) h0
  clear hA0 hval0
  refine (shaNil_any A0 n0 c0 b0 W w0 g0 l0).mono fun e W' ⟨he, bel⟩ => ?_
  subst he
  exact ⟨_, rfl, _, _, _, [], _, [], hW', trodAll_mk1 (shut_bool Try.underlying4 _), (trodAll_cons_mk (Below.trod laidOut (by kernel_rfl) (of_decide_eq_true (by kernel_rfl)) k0 bel lt0) trodAll_mk0), rfl, bel.frame _, fun h => by cases h⟩
theorem over : Rows.shaNilRow.holds Try.pinned (OpenSpec.ofChange Rows.shaNilSpec) :=
  OpenClaim.holds_of_wide 5 Try.f5 rfl rfl rfl rfl rfl rfl rfl ⟨rfl, rfl, rfl, rfl, rfl⟩ rfl rfl rfl rfl rfl (by kernel_rfl) Try.func5 (by kernel_rfl)
    (of_decide_eq_true (by kernel_rfl)) (by unfold Func.isWrapper; first | (rw [if_pos (by decide +kernel)]; kernel_rfl) | (rw [if_neg (by decide +kernel)]; exact ⟨rfl, rfl⟩))
    (fun os started H enc _ => lifted os started H enc)
theorem proved : Rows.ShaNilSaid := over
#print axioms proved
end lawShaNil
end Go.Proofs.Ytojffpfgmlegdaa
