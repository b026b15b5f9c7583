/-
  Package sha: the words of a round.
-/
import Derived.Test.YtojffpfgmlegdaaBase
import Derived.Test.YtojffpfgmlegdaaShaPlain
import Derived.Laws.BitsAllLaws
import Derived.Deep.RegionHeld3
import Derived.RegionTactic
namespace Go.Proofs.Ytojffpfgmlegdaa
open Go.RowKit

abbrev wV (x : BitVec 32) : Value := .int .u32 (x.toNat : Int)

theorem b32_xor (x y : BitVec 32) : bits BinOp.xor IntKind.u32 (x.toNat : Int) (y.toNat : Int) = ((x ^^^ y).toNat : Int) := by
  rw [u32_xor_nat _ _ x.isLt y.isLt, BitVec.toNat_xor]
theorem b32_and (x y : BitVec 32) : bits BinOp.and IntKind.u32 (x.toNat : Int) (y.toNat : Int) = ((x &&& y).toNat : Int) := by
  rw [u32_and_nat _ _ x.isLt y.isLt, BitVec.toNat_and]
theorem b32_or (x y : BitVec 32) : bits BinOp.or IntKind.u32 (x.toNat : Int) (y.toNat : Int) = ((x ||| y).toNat : Int) := by
  rw [u32_or_nat _ _ x.isLt y.isLt, BitVec.toNat_or]
theorem b32_add (x y : BitVec 32) : ((x.toNat : Int) + (y.toNat : Int)) % 4294967296 = ((x + y).toNat : Int) := by
  rw [BitVec.toNat_add]; omega
theorem b32_shr (x : BitVec 32) (n : Nat) : (x.toNat : Int) / (2 ^ n : Nat) = ((x >>> n).toNat : Int) := by
  rw [BitVec.toNat_ushiftRight, Nat.shiftRight_eq_div_pow]; omega

theorem sh_rot_val (x : BitVec 32) (n : Nat) (h0 : 0 < n) (h1 : n < 32) :
    bits BinOp.or IntKind.u32 (((x.toNat * 2 ^ (32 - n) : Nat) : Int) % 4294967296) ((x.toNat / 2 ^ n : Nat) : Int) = ((x.rotateRight n).toNat : Int) := by
  have hx := x.isLt
  have h2 : x.toNat / 2 ^ n < 4294967296 := Nat.lt_of_le_of_lt (Nat.div_le_self _ _) hx
  have h3 : x.toNat * 2 ^ (32 - n) % 4294967296 < 4294967296 := Nat.mod_lt _ (by decide)
  have := u32_or_nat (x.toNat * 2 ^ (32 - n) % 4294967296) (x.toNat / 2 ^ n) h3 h2
  rw [show (((x.toNat * 2 ^ (32 - n) % 4294967296 : Nat)) : Int) = ((x.toNat * 2 ^ (32 - n) : Nat) : Int) % 4294967296 by omega] at this
  rw [this]
  congr 1
  rw [BitVec.rotateRight_def, BitVec.toNat_or, BitVec.toNat_ushiftRight, BitVec.toNat_shiftLeft, Nat.shiftRight_eq_div_pow, Nat.shiftLeft_eq, Nat.mod_eq_of_lt h1, Nat.or_comm]

set_option maxHeartbeats 1000000 in
theorem sh_right_any' (x : BitVec 32) (n : Nat) (h0 : 0 < n) (h1 : n < 32) (w : World) :
    Calls Try.prog 81 #[wV x, .int .i64 ((32 - n : Nat) : Int)] w fun e w' => e = .returned (wV (x.rotateRight n)) ∧ w = w' := by
  have hv := hid (sh_rot_val x n h0 h1)
  have hb : bits BinOp.and IntKind.u64 ((32 - n : Nat) : Int) 31 = ((32 - n : Nat) : Int) := by
    have := u64_and_nat (32 - n) 31 (by omega) (by decide)
    rw [show ((31 : Nat) : Int) = 31 from rfl] at this
    rw [this, show 31 = 2 ^ 5 - 1 from rfl, Nat.and_two_pow_sub_one_eq_mod, Nat.mod_eq_of_lt (by omega)]
  have HM : Hid (n = 32 - (32 - n)) := hid (by omega)
  have hm0 : 0 < 32 - n := by omega
  have hm1 : 32 - n < 32 := by omega
  have HE : Hid ((x.toNat / 2 ^ n : Nat) = x.toNat / 2 ^ (32 - (32 - n))) := hid (by rw [← HM.out])
  generalize x.rotateRight n = R at hv ⊢
  generalize 32 - n = m at *
  clear h0 h1
  go_enter Try.func81, Try.ntmps81
  go_wp2_with fail
  go_ret
  refine ⟨ret_int ?_, rfl⟩
  rw [← hv.out, HE.out]
  push_cast
  rfl

theorem sh_right_any (x : BitVec 32) (n : Nat) (h0 : 0 < n) (h1 : n < 32) (w : World) :
    Calls Try.prog 77 #[wV x, .int .i64 (n : Int)] w fun e w' => e = .returned (wV (x.rotateRight n)) ∧ w = w' := by
  have hc := hid (sh_right_any' x n h0 h1 w)
  have hm : (32 : Int) - (n : Int) = ((32 - n : Nat) : Int) := by omega
  rw [← hm] at hc
  clear hm
  go_enter Try.func77, Try.ntmps77
  go_wp2_with fail
  refine hc.out.mono ?_
  rintro e w' ⟨rfl, rfl⟩
  go_wp2_with fail
  go_ret
  exact ⟨rfl, rfl⟩
theorem sh_right_q (x : BitVec 32) (n : Nat) (h0 : 0 < n) (h1 : n < 32) (w : World) :
    Calls Try.prog 77 #[wV x, .int .i64 (n : Int)] w fun e w' => e = .returned (wV (x.rotateRight n)) ∧ w' = w := (sh_right_any x n h0 h1 w).mono fun _ _ h => ⟨h.1, h.2.symm⟩
theorem sh_spread_any (x : BitVec 32) (a b n : Nat) (a0 : 0 < a) (a1 : a < 32) (b0 : 0 < b) (b1 : b < 32) (n1 : n ≤ 32) (w : World) :
    Calls Try.prog 76 #[wV x, .int .i64 (a : Int), .int .i64 (b : Int), .int .i64 (n : Int)] w fun e w' => e = .returned (wV (sh_spread x a b n)) ∧ ∃ k, w' = w.drewN k := by
  have ha := hid (fun w => sh_right_q x a a0 a1 w)
  have hb := hid (fun w => sh_right_q x b b0 b1 w)
  have hv : bits BinOp.xor IntKind.u32 (bits BinOp.xor IntKind.u32 ((x.rotateRight a).toNat : Int) ((x.rotateRight b).toNat : Int)) ((x.toNat : Int) / 2 ^ n) = ((sh_spread x a b n).toNat : Int) := by
    have h := b32_shr x n
    push_cast at h
    rw [h, b32_xor, b32_xor]
    rfl
  have HV := hid hv
  clear hv a0 a1 b0 b1
  generalize x.rotateRight a = ra at *
  generalize x.rotateRight b = rb at *
  generalize sh_spread x a b n = S at *
  go_enter Try.func76, Try.ntmps76
  go_wp2_with fail
  go_quiet (first | (go_at_call_of 77 (Value.int .i64 (a : Int)); exact Calls.quiet_of_same (ha.out _)) | (go_at_call 77; exact Calls.quiet_of_same (hb.out _)))
  go_wp2_with fail
  go_ret
  exact ⟨ret_int HV.out, _, rfl⟩
theorem sh_upper_any (v : Sh8) (w : World) :
    Calls Try.prog 63 #[.agg #[wV v.a, wV v.b, wV v.c, wV v.d, wV v.e, wV v.f, wV v.g, wV v.h]] w fun e w' => e = .returned (wV v.upper) ∧ Below w.heap.size w w' := by
  obtain ⟨a, b, c, d, e, f, g, h⟩ := v
  simp only
  have hv : bits BinOp.or IntKind.u32 (bits BinOp.and IntKind.u32 (bits BinOp.or IntKind.u32 (a.toNat : Int) (b.toNat : Int)) (c.toNat : Int)) (bits BinOp.and IntKind.u32 (a.toNat : Int) (b.toNat : Int)) = ((((a ||| b) &&& c) ||| (a &&& b)).toNat : Int) := by
    rw [b32_or, b32_and, b32_and, b32_or]
  have hv2 := b32_add (((a.rotateRight 9 ^^^ a).rotateRight 11 ^^^ a).rotateRight 2) (((a ||| b) &&& c) ||| (a &&& b))
  have hx1 := b32_xor (a.rotateRight 9) a
  have hx2 := b32_xor ((a.rotateRight 9 ^^^ a).rotateRight 11) a
  have q1 := hid (fun w => sh_right_q a 9 (by omega) (by omega) w)
  have q2 := hid (fun w => sh_right_q (a.rotateRight 9 ^^^ a) 11 (by omega) (by omega) w)
  have q3 := hid (fun w => sh_right_q ((a.rotateRight 9 ^^^ a).rotateRight 11 ^^^ a) 2 (by omega) (by omega) w)
  have HU : Hid ((Sh8.mk a b c d e f g h).upper = (((a.rotateRight 9 ^^^ a).rotateRight 11 ^^^ a).rotateRight 2) + (((a ||| b) &&& c) ||| (a &&& b))) := hid rfl
  generalize (Sh8.mk a b c d e f g h).upper = U at *
  generalize (((a ||| b) &&& c) ||| (a &&& b)) = T at *
  generalize ((a.rotateRight 9 ^^^ a).rotateRight 11 ^^^ a).rotateRight 2 = R3 at *
  generalize ((a.rotateRight 9 ^^^ a).rotateRight 11 ^^^ a) = X2 at *
  generalize (a.rotateRight 9 ^^^ a).rotateRight 11 = R2 at *
  generalize (a.rotateRight 9 ^^^ a) = X1 at *
  generalize a.rotateRight 9 = R1 at *
  have HV2 := hid hv2
  clear hv2
  go_enter Try.func63, Try.ntmps63
  go_wp2_with fail
  go_quiet (first | (go_at_call_of 77 (Value.int .i64 9); exact Calls.quiet_of_same (q1.out _)) | (go_at_call_of 77 (Value.int .i64 11); exact Calls.quiet_of_same (q2.out _)) | (go_at_call 77; exact Calls.quiet_of_same (q3.out _)))
  go_wp2_with fail
  go_ret
  refine ⟨ret_int ?_, below_drewN ((Below.refl _ _).alloc (Nat.le_refl _) _) nq⟩
  rw [HU.out]
  exact HV2.out
theorem sh_lower_any (v : Sh8) (w : World) :
    Calls Try.prog 64 #[.agg #[wV v.a, wV v.b, wV v.c, wV v.d, wV v.e, wV v.f, wV v.g, wV v.h]] w fun e w' => e = .returned (wV v.lower) ∧ Below w.heap.size w w' := by
  obtain ⟨a, b, c, d, e, f, g, h⟩ := v
  simp only
  have hv : bits BinOp.xor IntKind.u32 (bits BinOp.and IntKind.u32 (bits BinOp.xor IntKind.u32 (f.toNat : Int) (g.toNat : Int)) (e.toNat : Int)) (g.toNat : Int) = ((((f ^^^ g) &&& e) ^^^ g).toNat : Int) := by
    rw [b32_xor, b32_and, b32_xor]
  have hv2 := b32_add (h + (((e.rotateRight 14 ^^^ e).rotateRight 5 ^^^ e).rotateRight 6)) (((f ^^^ g) &&& e) ^^^ g)
  rw [← b32_add h] at hv2
  have hx1 := b32_xor (e.rotateRight 14) e
  have hx2 := b32_xor ((e.rotateRight 14 ^^^ e).rotateRight 5) e
  have q1 := hid (fun w => sh_right_q e 14 (by omega) (by omega) w)
  have q2 := hid (fun w => sh_right_q (e.rotateRight 14 ^^^ e) 5 (by omega) (by omega) w)
  have q3 := hid (fun w => sh_right_q ((e.rotateRight 14 ^^^ e).rotateRight 5 ^^^ e) 6 (by omega) (by omega) w)
  have HU : Hid ((Sh8.mk a b c d e f g h).lower = h + (((e.rotateRight 14 ^^^ e).rotateRight 5 ^^^ e).rotateRight 6) + (((f ^^^ g) &&& e) ^^^ g)) := hid rfl
  generalize (Sh8.mk a b c d e f g h).lower = U at *
  generalize (((f ^^^ g) &&& e) ^^^ g) = T at *
  generalize ((e.rotateRight 14 ^^^ e).rotateRight 5 ^^^ e).rotateRight 6 = R3 at *
  generalize ((e.rotateRight 14 ^^^ e).rotateRight 5 ^^^ e) = X2 at *
  generalize (e.rotateRight 14 ^^^ e).rotateRight 5 = R2 at *
  generalize (e.rotateRight 14 ^^^ e) = X1 at *
  generalize e.rotateRight 14 = R1 at *
  have HV2 := hid hv2
  clear hv2
  go_enter Try.func64, Try.ntmps64
  go_wp2_with fail
  go_quiet (first | (go_at_call_of 77 (Value.int .i64 14); exact Calls.quiet_of_same (q1.out _)) | (go_at_call_of 77 (Value.int .i64 5); exact Calls.quiet_of_same (q2.out _)) | (go_at_call 77; exact Calls.quiet_of_same (q3.out _)))
  go_wp2_with fail
  go_ret
  refine ⟨ret_int ?_, below_drewN ((Below.refl _ _).alloc (Nat.le_refl _) _) nq⟩
  rw [HU.out]
  exact HV2.out

theorem store8 {w : World} {b : Nat} {T : TypeId} {cs : List Value} (h : Blk w b T cs) (hl : cs.length = 8) (v0 v1 v2 v3 v4 v5 v6 v7 : Value) :
    ∃ w' : World, ((((((((w.setCell ⟨b, 0, none⟩ v0).setCell ⟨b, 1, none⟩ v1).setCell ⟨b, 2, none⟩ v2).setCell ⟨b, 3, none⟩ v3).setCell ⟨b, 4, none⟩ v4).setCell ⟨b, 5, none⟩ v5).setCell ⟨b, 6, none⟩ v6).setCell ⟨b, 7, none⟩ v7) = w' ∧ Below b w w' ∧ Blk w' b T [v0, v1, v2, v3, v4, v5, v6, v7] := by
  refine ⟨_, rfl, (((((((((Below.refl _ _).setCell (p := ⟨b, 0, none⟩) (Nat.le_refl _) _).setCell (p := ⟨b, 1, none⟩) (Nat.le_refl _) _).setCell (p := ⟨b, 2, none⟩) (Nat.le_refl _) _).setCell (p := ⟨b, 3, none⟩) (Nat.le_refl _) _).setCell (p := ⟨b, 4, none⟩) (Nat.le_refl _) _).setCell (p := ⟨b, 5, none⟩) (Nat.le_refl _) _).setCell (p := ⟨b, 6, none⟩) (Nat.le_refl _) _).setCell (p := ⟨b, 7, none⟩) (Nat.le_refl _) _), ?_⟩
  have := ((((((((h.set_ 0 v0).set_ 1 v1).set_ 2 v2).set_ 3 v3).set_ 4 v4).set_ 5 v5).set_ 6 v6).set_ 7 v7)
  match cs, hl with
  | [_, _, _, _, _, _, _, _], _ => exact this
abbrev agg8 (v : Sh8) : Value := .agg #[wV v.a, wV v.b, wV v.c, wV v.d, wV v.e, wV v.f, wV v.g, wV v.h]
set_option maxRecDepth 20000 in
set_option maxHeartbeats 2000000 in
theorem sh_round_any (v : Sh8) (x : BitVec 32) (w : World) :
    Calls Try.prog 62 #[agg8 v, wV x, .func (Fn.func 63) #[] #[], .func (Fn.func 64) #[] #[]] w fun e w' => e = .returned (agg8 (v.round x)) ∧ Below w.heap.size w w' := by
  have ql := hid (fun w => sh_lower_any v w)
  have qu := hid (fun w => sh_upper_any v w)
  have H1 := hid (b32_add v.lower x)
  have H2 := hid (b32_add (v.lower + x) v.upper)
  have H3 := hid (b32_add v.d (v.lower + x))
  have HR : Hid (v.round x = ⟨v.lower + x + v.upper, v.a, v.b, v.c, v.d + (v.lower + x), v.e, v.f, v.g⟩) := hid rfl
  generalize v.round x = R at *
  generalize v.lower = L at *
  generalize v.upper = U at *
  obtain ⟨a, b, c, d, e, f, g, h⟩ := v
  simp only [agg8] at *
  generalize d + (L + x) = D at *
  generalize L + x + U = Z at *
  generalize L + x = Y at *
  go_enter Try.func62, Try.ntmps62
  go_wp2_with fail
  obtain ⟨w2, hw2, hsz2, hb2, hblk4, hblk8⟩ : ∃ w2 : World, (w.alloc (.cells #[wV a, wV b, wV c, wV d, wV e, wV f, wV g, wV h] 59)).alloc (.cells #[.int .u32 0, .int .u32 0, .int .u32 0, .int .u32 0, .int .u32 0, .int .u32 0, .int .u32 0, .int .u32 0] 59) = w2 ∧ w2.heap.size = w.heap.size + 1 + 1 ∧ Below w.heap.size w w2 ∧
      Blk w2 w.heap.size 59 [wV a, wV b, wV c, wV d, wV e, wV f, wV g, wV h] ∧ Blk w2 (w.heap.size + 1) 59 [.int .u32 0, .int .u32 0, .int .u32 0, .int .u32 0, .int .u32 0, .int .u32 0, .int .u32 0, .int .u32 0] := by
    refine ⟨_, rfl, by simp, ((Below.refl _ _).alloc (Nat.le_refl _) _).alloc (by simp) _, (Blk.new w _ [wV a, wV b, wV c, wV d, wV e, wV f, wV g, wV h]).alloc _, ?_⟩
    have := Blk.new (w.alloc (.cells #[wV a, wV b, wV c, wV d, wV e, wV f, wV g, wV h] 59)) 59 [.int .u32 0, .int .u32 0, .int .u32 0, .int .u32 0, .int .u32 0, .int .u32 0, .int .u32 0, .int .u32 0]
    simpa using this
  rw [hw2]
  clear hw2
  generalize hr : w.heap.size = r at *
  refine (ql.out _).mono ?_
  rintro e3 w3 ⟨rfl, hb3⟩
  replace hblk4 := hblk4.belowS hb3
  replace hblk8 := hblk8.belowS hb3
  have hB3 := hb2.trans (hb3.mono (by omega))
  have hS4 := hb3.size
  clear hb3 hb2
  obtain ⟨c0, c1, c2, c3, c4, c5, c6, c7⟩ : _ ∧ _ ∧ _ ∧ _ ∧ _ ∧ _ ∧ _ ∧ _ := ⟨hblk4.cellAt (i := 0) rfl, hblk4.cellAt (i := 1) rfl, hblk4.cellAt (i := 2) rfl, hblk4.cellAt (i := 3) rfl, hblk4.cellAt (i := 4) rfl, hblk4.cellAt (i := 5) rfl, hblk4.cellAt (i := 6) rfl, hblk4.cellAt (i := 7) rfl⟩
  obtain ⟨f0, f1, f2, f3, f4, f5, f6, f7⟩ : _ ∧ _ ∧ _ ∧ _ ∧ _ ∧ _ ∧ _ ∧ _ := ⟨hblk8.frozen 0, hblk8.frozen 1, hblk8.frozen 2, hblk8.frozen 3, hblk8.frozen 4, hblk8.frozen 5, hblk8.frozen 6, hblk8.frozen 7⟩
  obtain ⟨d0, d1, d2, d3, d4, d5, d6, d7⟩ : _ ∧ _ ∧ _ ∧ _ ∧ _ ∧ _ ∧ _ ∧ _ := ⟨hblk8.cellAt (i := 0) rfl, hblk8.cellAt (i := 1) rfl, hblk8.cellAt (i := 2) rfl, hblk8.cellAt (i := 3) rfl, hblk8.cellAt (i := 4) rfl, hblk8.cellAt (i := 5) rfl, hblk8.cellAt (i := 6) rfl, hblk8.cellAt (i := 7) rfl⟩
  have h1' := H1.out
  have h3' := H3.out
  have h2' := H2.out
  have hlt8 := hblk8.lt
  have H4 := hid hblk4
  have H8 := hid hblk8
  have HW := hid hB3
  have HREQ := hid hr
  clear hblk4 hblk8 hB3 hr
  have hne : r ≠ r + 1 := by omega
  have hne' : r + 1 ≠ r := by omega
  go_wp2_with fail
  go_region_held3 (fun w' => w'.cell? ⟨r, 0, none⟩ = some (wV a) ∧ w'.cell? ⟨r, 1, none⟩ = some (wV b) ∧ w'.cell? ⟨r, 2, none⟩ = some (wV c) ∧ w'.cell? ⟨r, 3, none⟩ = some (wV d) ∧ w'.cell? ⟨r, 4, none⟩ = some (wV e) ∧ w'.cell? ⟨r, 5, none⟩ = some (wV f) ∧ w'.cell? ⟨r, 6, none⟩ = some (wV g) ∧ w'.cell? ⟨r, 7, none⟩ = some (wV h) ∧ w'.frozen? ⟨r + 1, 0, none⟩ = false ∧ w'.frozen? ⟨r + 1, 1, none⟩ = false ∧ w'.frozen? ⟨r + 1, 2, none⟩ = false ∧ w'.frozen? ⟨r + 1, 3, none⟩ = false ∧ w'.frozen? ⟨r + 1, 4, none⟩ = false ∧ w'.frozen? ⟨r + 1, 5, none⟩ = false ∧ w'.frozen? ⟨r + 1, 6, none⟩ = false ∧ w'.frozen? ⟨r + 1, 7, none⟩ = false) (go_keep)
    ((go_at_call 63; refine (qu.out _).mono ?_; rintro e5 w5 ⟨rfl, hb5'⟩; have hb5 : Below w3.heap.size w3 w5 := ⟨hb5'.os, hb5'.tape, hb5'.output, hb5'.size, hb5'.block⟩; clear hb5'; have h85 := H8.out.belowS hb5; have h45 := H4.out.belowS hb5; obtain ⟨x0, x1, x2, x3, x4, x5, x6, x7⟩ : _ ∧ _ ∧ _ ∧ _ ∧ _ ∧ _ ∧ _ ∧ _ := ⟨h85.cellAt (i := 0) rfl, h85.cellAt (i := 1) rfl, h85.cellAt (i := 2) rfl, h85.cellAt (i := 3) rfl, h85.cellAt (i := 4) rfl, h85.cellAt (i := 5) rfl, h85.cellAt (i := 6) rfl, h85.cellAt (i := 7) rfl⟩; obtain ⟨y0, y1, y2, y3, y4, y5, y6, y7⟩ : _ ∧ _ ∧ _ ∧ _ ∧ _ ∧ _ ∧ _ ∧ _ := ⟨h85.frozen 0, h85.frozen 1, h85.frozen 2, h85.frozen 3, h85.frozen 4, h85.frozen 5, h85.frozen 6, h85.frozen 7⟩; obtain ⟨z0, z1, z2, z3, z4, z5, z6, z7⟩ : _ ∧ _ ∧ _ ∧ _ ∧ _ ∧ _ ∧ _ ∧ _ := ⟨h45.cellAt (i := 0) rfl, h45.cellAt (i := 1) rfl, h45.cellAt (i := 2) rfl, h45.cellAt (i := 3) rfl, h45.cellAt (i := 4) rfl, h45.cellAt (i := 5) rfl, h45.cellAt (i := 6) rfl, h45.cellAt (i := 7) rfl⟩))
  obtain ⟨w6, hw6, hb6, hr6⟩ := store8 h85 rfl (wV Z) (wV a) (wV b) (wV c) (wV D) (wV e) (wV f) (wV g)
  have k2 : IntKind.u32.wrap ((Y.toNat : Int) + (U.toNat : Int)) = (Z.toNat : Int) := by rw [← h2']; rfl
  have k3 : IntKind.u32.wrap ((d.toNat : Int) + (Y.toNat : Int)) = (D.toNat : Int) := by rw [← h3']; rfl
  rw [k2, k3, hw6]
  clear k2 k3
  have hB6 := (HW.out.trans (hb5.mono (by omega))).trans (hb6.mono (Nat.le_succ _))
  have HR6 := hid hr6
  have hR := HR.out
  subst hR
  clear hw6 hr6 h85 h45 x0 x1 x2 x3 x4 x5 x6 x7 y0 y1 y2 y3 y4 y5 y6 y7 z0 z1 z2 z3 z4 z5 z6 z7 d0 d1 d2 d3 d4 d5 d6 d7 f0 f1 f2 f3 f4 f5 f6 f7 c0 c1 c2 c3 c4 c5 c6 c7 h1' h2' h3' hb5 hb6
  go_wp2_with fail
  obtain ⟨r0, r1, r2, r3, r4, r5, r6, r7⟩ : _ ∧ _ ∧ _ ∧ _ ∧ _ ∧ _ ∧ _ ∧ _ := ⟨HR6.out.cellAt (i := 0) rfl, HR6.out.cellAt (i := 1) rfl, HR6.out.cellAt (i := 2) rfl, HR6.out.cellAt (i := 3) rfl, HR6.out.cellAt (i := 4) rfl, HR6.out.cellAt (i := 5) rfl, HR6.out.cellAt (i := 6) rfl, HR6.out.cellAt (i := 7) rfl⟩
  refine bodyPost_ret (v := agg8 ⟨Z, a, b, c, D, e, f, g⟩) (by simp [results, Try.results62, go_sem]; simp [r0, r1, r2, r3, r4, r5, r6, r7]) rfl ?_
  exact ⟨rfl, by rw [HREQ.out]; exact hB6⟩
end Go.Proofs.Ytojffpfgmlegdaa
