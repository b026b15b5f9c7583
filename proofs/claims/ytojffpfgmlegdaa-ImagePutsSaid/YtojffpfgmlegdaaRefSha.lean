/-
  The reference's digest: powers of two, words turned, words mixed.
-/
import Derived.Test.YtojffpfgmlegdaaShaW
import Derived.IntWalk
import Derived.Deep.QuietTactic
import Derived.BigQuiet
namespace Go.Proofs.Ytojffpfgmlegdaa
open Go.RowKit

theorem refMod_any (x : Nat) (w : World) : Calls Try.prog 42 #[.int .i64 (x : Int)] w fun e w' => e = .returned (.int .i64 ((x % 4294967296 : Nat) : Int)) ∧ w = w' := by
  have h : (x : Int) % 4294967296 = ((x % 4294967296 : Nat) : Int) := by omega
  have H := hid h
  clear h
  have h0 : (0 : Int) ≤ (x : Int) := by omega
  go_enter Try.func42, Try.ntmps42
  go_wp2_with fail
  go_ret
  exact ⟨ret_int H.out, rfl⟩
theorem refPower_any (n : Nat) (hn : n ≤ 40) (w : World) : Calls Try.prog 29 #[.int .i64 (n : Int)] w fun e w' => e = .returned (.int .i64 ((2 ^ n : Nat) : Int)) ∧ w = w' := by
  have HP : Hid (∀ k, k ≤ n → 2 ^ k ≤ 1099511627776) := hid (fun k hk => Nat.le_trans (Nat.pow_le_pow_right (by omega) (show k ≤ 40 by omega)) (by decide))
  go_enter Try.func29, Try.ntmps29
  go_wp2_with fail
  go_loop [3, 4] (fun v3 v4 => ∃ (k y : Nat), k ≤ n ∧ v4 = .int .i64 (k : Int) ∧ v3 = .int .i64 (y : Int) ∧ Hid (y = 2 ^ k)) (fun _ v4 => n - (intOf v4).toNat)
  case atStart => exact ⟨0, 1, by omega, rfl, rfl, hid rfl⟩
  case round =>
    obtain ⟨k, y, hk, rfl, rfl, HY⟩ := hrel
    have hy : y ≤ 1099511627776 := by rw [HY.out]; exact HP.out k hk
    by_cases hkn : k < n
    · go_wp2_with fail
      go_round
      case rel => exact ⟨k + 1, y + y, by omega, by go_num, by go_num, hid (by rw [HY.out, Nat.pow_succ]; omega)⟩
      case measure => simp [intOf]; omega
    · obtain rfl : k = n := by omega
      go_wp2_with fail
      go_ret
      exact ⟨ret_int (by rw [HY.out]; simp), rfl⟩
theorem rot_sum (x : BitVec 32) (n : Nat) (h0 : 0 < n) (h1 : n < 32) : (x.rotateRight n).toNat = x.toNat / 2 ^ n + x.toNat % 2 ^ n * 2 ^ (32 - n) := by
  have hx := x.isLt
  rw [BitVec.rotateRight_def, BitVec.toNat_or, BitVec.toNat_ushiftRight, BitVec.toNat_shiftLeft, Nat.shiftRight_eq_div_pow, Nat.shiftLeft_eq, Nat.mod_eq_of_lt h1]
  have hp : 2 ^ n * 2 ^ (32 - n) = 4294967296 := by rw [← Nat.pow_add, show n + (32 - n) = 32 by omega]
  have hp0 : 0 < 2 ^ (32 - n) := Nat.pow_pos (by omega)
  have hp1 : 0 < 2 ^ n := Nat.pow_pos (by omega)
  have hlt : x.toNat / 2 ^ n < 2 ^ (32 - n) := by
    rw [Nat.div_lt_iff_lt_mul hp1, Nat.mul_comm, hp]
    exact hx
  have hm : x.toNat * 2 ^ (32 - n) % 2 ^ 32 = x.toNat % 2 ^ n * 2 ^ (32 - n) := by
    rw [show (2 : Nat) ^ 32 = 2 ^ n * 2 ^ (32 - n) by rw [hp], Nat.mul_mod_mul_right]
  rw [hm, Nat.or_comm, ← Nat.shiftLeft_eq, ← Nat.shiftLeft_add_eq_or_of_lt hlt, Nat.add_comm]
set_option maxHeartbeats 1000000 in
theorem refTurn_any (x : BitVec 32) (n : Nat) (h0 : 0 < n) (h1 : n < 32) (w : World) : Calls Try.prog 43 #[.int .i64 (x.toNat : Int), .int .i64 (n : Int)] w fun e w' => e = .returned (.int .i64 ((x.rotateRight n).toNat : Int)) ∧ ∃ k, w' = w.drewN k := by
  have hx := x.isLt
  have hr := rot_sum x n h0 h1
  obtain ⟨p, hp⟩ : ∃ p, 2 ^ n = p := ⟨_, rfl⟩
  obtain ⟨q, hq⟩ : ∃ q, 2 ^ (32 - n) = q := ⟨_, rfl⟩
  have hp0 : 0 < p := by rw [← hp]; exact Nat.pow_pos (by omega)
  have hpq : p * q = 4294967296 := by rw [← hp, ← hq, ← Nat.pow_add, show n + (32 - n) = 32 by omega]
  have hq0 : 0 < q := by rw [← hq]; exact Nat.pow_pos (by omega)
  have hp32 : p ≤ 4294967296 := by rw [← hpq]; exact Nat.le_mul_of_pos_right _ hq0
  have hq32 : q ≤ 4294967296 := by rw [← hpq]; exact Nat.le_mul_of_pos_left _ hp0
  rw [hp, hq] at hr
  have c1 := hid (fun w => refPower_any n (by omega) w)
  have c2 := hid (fun w => refPower_any (32 - n) (by omega) w)
  rw [hp] at c1
  rw [hq] at c2
  obtain ⟨m, hm⟩ : ∃ m, 32 - n = m := ⟨_, rfl⟩
  rw [hm] at c2
  have hmi : IntKind.i64.wrap (32 - (n : Int)) = (m : Int) := by rw [IntWalk.i64_in _ (by omega)]; omega
  have hml : x.toNat % p * q < 4294967296 := by
    have h := Nat.mod_lt x.toNat hp0
    calc x.toNat % p * q < p * q := Nat.mul_lt_mul_of_pos_right h hq0
      _ = 4294967296 := hpq
  have hd : x.toNat / p ≤ x.toNat := Nat.div_le_self _ _
  obtain ⟨X, hX⟩ : ∃ X, x.toNat = X := ⟨_, rfl⟩
  rw [hX] at hr hml hd hx ⊢
  generalize (x.rotateRight n).toNat = R at *
  obtain ⟨a, ha⟩ : ∃ a, X / p = a := ⟨_, rfl⟩
  obtain ⟨b, hb⟩ : ∃ b, X % p = b := ⟨_, rfl⟩
  rw [ha] at hr hd
  rw [hb] at hr hml
  have v1 : (X : Int) / (p : Int) = (a : Int) := by rw [← ha]; simp
  have v2 : (X : Int) % (p : Int) = (b : Int) := by rw [← hb]; simp
  have t1 : (X : Int).tdiv (p : Int) = (a : Int) := by rw [Int.tdiv_eq_ediv_of_nonneg (by omega)]; exact v1
  have t2 : (X : Int).tmod (p : Int) = (b : Int) := by rw [Int.tmod_eq_emod_of_nonneg (by omega)]; exact v2
  obtain ⟨d, hdd⟩ : ∃ d, b * q = d := ⟨_, rfl⟩
  rw [hdd] at hr hml
  have m1 : (b : Int) * (q : Int) = (d : Int) := by rw [← hdd]; simp
  have m2 : IntKind.i64.wrap ((b : Int) * (q : Int)) = (d : Int) := by rw [m1]; exact IntWalk.i64_in _ (by omega)
  have s1 : IntKind.i64.wrap ((a : Int) + (d : Int)) = (R : Int) := by rw [IntWalk.i64_in _ (by omega)]; omega
  have s2 : (a : Int) + (d : Int) = (R : Int) := by omega
  have w1 : IntKind.i64.wrap (a : Int) = (a : Int) := IntWalk.i64_in _ (by omega)
  have hab : a ≤ 4294967295 := by omega
  have hdb : d ≤ 4294967295 := by omega
  have p0 : ((p : Int) == 0) = false := by simp; omega
  have p1 : (p : Int) ≠ 0 := by omega
  have q2 : Hid (∀ w, Calls Try.prog 29 #[.int .i64 (m : Int)] w fun e w' => e = .returned (.int .i64 (q : Int)) ∧ w' = w) := hid (fun w => (c2.out w).mono fun _ _ h => ⟨h.1, h.2.symm⟩)
  have HHR := hid hr
  clear hp hq hpq hm ha hb hdd m1 hX hp32 hq32 hml hd c2 hr s2 v1 v2
  go_enter Try.func43, Try.ntmps43
  go_wp2_with fail
  refine (c1.out w).mono ?_
  rintro e w1' ⟨rfl, rfl⟩
  go_wp2_with fail
  go_quiet ((go_at_call 29; exact Calls.quiet_of_same (q2.out _)))
  go_wp2_with fail
  go_ret
  exact ⟨rfl, _, rfl⟩
theorem ofInt64 (a : Nat) (ha : a < 9223372036854775808) : (BitVec.ofInt 64 (a : Int)).toNat = a := by
  rw [BitVec.ofInt_natCast, BitVec.toNat_ofNat]; exact Nat.mod_eq_of_lt (by omega)
theorem b64_xor (x y : BitVec 32) : bits BinOp.xor IntKind.i64 (x.toNat : Int) (y.toNat : Int) = ((x ^^^ y).toNat : Int) := by
  have hx := x.isLt
  have hy := y.isLt
  have hz := (x ^^^ y).isLt
  show IntKind.i64.wrap ((BitVec.ofInt 64 (x.toNat : Int) ^^^ BitVec.ofInt 64 (y.toNat : Int)).toNat : Int) = _
  rw [BitVec.toNat_xor, ofInt64 _ (by omega), ofInt64 _ (by omega), ← BitVec.toNat_xor]
  exact IntWalk.i64_in _ (by omega)
theorem b64_and (x y : BitVec 32) : bits BinOp.and IntKind.i64 (x.toNat : Int) (y.toNat : Int) = ((x &&& y).toNat : Int) := by
  have hx := x.isLt
  have hy := y.isLt
  have hz := (x &&& y).isLt
  show IntKind.i64.wrap ((BitVec.ofInt 64 (x.toNat : Int) &&& BitVec.ofInt 64 (y.toNat : Int)).toNat : Int) = _
  rw [BitVec.toNat_and, ofInt64 _ (by omega), ofInt64 _ (by omega), ← BitVec.toNat_and]
  exact IntWalk.i64_in _ (by omega)
theorem b64_or (x y : BitVec 32) : bits BinOp.or IntKind.i64 (x.toNat : Int) (y.toNat : Int) = ((x ||| y).toNat : Int) := by
  have hx := x.isLt
  have hy := y.isLt
  have hz := (x ||| y).isLt
  show IntKind.i64.wrap ((BitVec.ofInt 64 (x.toNat : Int) ||| BitVec.ofInt 64 (y.toNat : Int)).toNat : Int) = _
  rw [BitVec.toNat_or, ofInt64 _ (by omega), ofInt64 _ (by omega), ← BitVec.toNat_or]
  exact IntWalk.i64_in _ (by omega)
def mixW (x : BitVec 32) (a b c : Nat) : BitVec 32 := x.rotateRight a ^^^ x.rotateRight b ^^^ x.rotateRight c
abbrev nW (x : BitVec 32) : Value := .int .i64 (x.toNat : Int)
theorem refMix_any (x : BitVec 32) (a b c : Nat) (a0 : 0 < a) (a1 : a < 32) (b0 : 0 < b) (b1 : b < 32) (c0 : 0 < c) (c1 : c < 32) (w : World) : Calls Try.prog 44 #[nW x, .int .i64 (a : Int), .int .i64 (b : Int), .int .i64 (c : Int)] w fun e w' => e = .returned (nW (mixW x a b c)) ∧ ∃ k, w' = w.drewN k := by
  have qa := hid (fun w => refTurn_any x a a0 a1 w)
  have qb := hid (fun w => refTurn_any x b b0 b1 w)
  have qc := hid (fun w => refTurn_any x c c0 c1 w)
  have hv : bits BinOp.xor IntKind.i64 (bits BinOp.xor IntKind.i64 ((x.rotateRight a).toNat : Int) ((x.rotateRight b).toNat : Int)) ((x.rotateRight c).toNat : Int) = ((mixW x a b c).toNat : Int) := by
    rw [b64_xor, b64_xor]
    rfl
  have HV := hid hv
  clear hv a0 a1 b0 b1 c0 c1
  generalize x.rotateRight a = ra at *
  generalize x.rotateRight b = rb at *
  generalize x.rotateRight c = rc at *
  generalize mixW x a b c = M at *
  go_enter Try.func44, Try.ntmps44
  go_wp2_with fail
  refine (qa.out w).mono ?_
  rintro e w1 ⟨rfl, k1, rfl⟩
  go_wp2_with fail
  refine (qb.out _).mono ?_
  rintro e w1 ⟨rfl, k2, rfl⟩
  go_wp2_with fail
  refine (qc.out _).mono ?_
  rintro e w1 ⟨rfl, k3, rfl⟩
  go_wp2_with fail
  go_ret
  exact ⟨ret_int HV.out, k1 + k2 + k3, by simp [World.drewN, Nat.add_assoc]⟩
end Go.Proofs.Ytojffpfgmlegdaa
