/-
  Package crc and the second reference: what each function computes.
-/
import Derived.Test.YtojffpfgmlegdaaBase
import Derived.Test.YtojffpfgmlegdaaCrcPlain
namespace Go.Proofs.Ytojffpfgmlegdaa
open Go.RowKit

abbrev uV (x : BitVec 32) : Value := .int .u32 (x.toNat : Int)

theorem down_val (x : BitVec 32) : bits BinOp.xor IntKind.u32 ((x.toNat : Int) / 2) (3988292384 * bits BinOp.and IntKind.u32 (x.toNat : Int) 1 % 4294967296) = ((dn x).toNat : Int) := by
  have hx := x.isLt
  have h1 := u32_and_nat x.toNat 1 hx (by decide)
  rw [Nat.and_one_is_mod] at h1
  rw [show ((1 : Nat) : Int) = 1 from rfl] at h1
  rw [h1, show ((x.toNat : Int) / 2) = ((x.toNat / 2 : Nat) : Int) by omega]
  rcases Nat.mod_two_eq_zero_or_one x.toNat with h | h
  · rw [h, dn_even x h]
    have := u32_xor_nat (x.toNat / 2) 0 (by omega) (by decide)
    rw [Nat.xor_zero] at this
    exact this
  · rw [h, dn_odd x h]
    exact u32_xor_nat (x.toNat / 2) 3988292384 (by omega) (by decide)

theorem down_any (x : BitVec 32) (w : World) :
    Calls Try.prog 68 #[uV x] w fun e w' => e = .returned (uV (dn x)) ∧ w = w' := by
  go_enter Try.func68, Try.ntmps68
  go_wp2_with fail
  go_ret
  exact ⟨ret_int (down_val x), rfl⟩

theorem xor_byte (x : BitVec 32) (c : UInt8) : bits BinOp.xor IntKind.u32 (x.toNat : Int) (c.toNat : Int) = ((x ^^^ BitVec.ofNat 32 c.toNat).toNat : Int) := by
  have hc := c.toNat_lt
  rw [u32_xor_nat _ _ x.isLt (by omega), BitVec.toNat_xor, BitVec.toNat_ofNat, Nat.mod_eq_of_lt (a := c.toNat) (by omega)]

theorem refFeed1_any (x : BitVec 32) (c : UInt8) (w : World) :
    Calls Try.prog 80 #[uV x, bV c] w fun e w' => e = .returned (uV (feed1 x c)) ∧ w = w' := by
  have hc := c.toNat_lt
  have hx0 := xor_byte x c
  have HF : Hid (feed1 x c = dnN 8 (x ^^^ BitVec.ofNat 32 c.toNat)) := rfl
  generalize (x ^^^ BitVec.ofNat 32 c.toNat) = x0 at hx0 HF
  generalize feed1 x c = F at HF ⊢
  go_enter Try.func80, Try.ntmps80
  go_wp2_with fail
  go_loop [0, 5] (fun v0 v5 => ∃ (k : Nat) (y : BitVec 32), k ≤ 8 ∧ v5 = .int .i64 (k : Int) ∧ v0 = uV y ∧ Hid (y = dnN k x0)) (fun _ v5 => 8 - (intOf v5).toNat)
  case atStart => exact ⟨0, x0, by omega, rfl, rfl, rfl⟩
  case round =>
    obtain ⟨k, y, hk, rfl, rfl, HY⟩ := hrel
    clear hx0
    have hy := y.isLt
    by_cases hkk : k < 8
    · rcases Nat.mod_two_eq_zero_or_one y.toNat with h | h
      · have hv := dn_even y h
        have h2 : (y.toNat : Int) % 2 = 0 := by omega
        have h3 : (y.toNat : Int) / 2 = ((dn y).toNat : Int) := by omega
        have HS : Hid (dn y = dnN (k + 1) x0) := by refine hid ?_; rw [HY.out]; rfl
        clear hv h
        go_wp2_with fail
        go_round
        case rel => exact ⟨k + 1, dn y, by omega, by go_num, rfl, HS⟩
        case measure => simp [intOf]; omega
      · have hv := dn_odd y h
        have h2 : (y.toNat : Int) % 2 = 1 := by omega
        have h3 : bits BinOp.xor IntKind.u32 ((y.toNat : Int) / 2) 3988292384 = ((dn y).toNat : Int) := by
          rw [hv, show ((y.toNat : Int) / 2) = ((y.toNat / 2 : Nat) : Int) by omega]
          exact u32_xor_nat (y.toNat / 2) 3988292384 (by omega) (by decide)
        have HS : Hid (dn y = dnN (k + 1) x0) := by refine hid ?_; rw [HY.out]; rfl
        clear hv h
        go_wp2_with fail
        go_round
        case rel => exact ⟨k + 1, dn y, by omega, by go_num, rfl, HS⟩
        case measure => simp [intOf]; omega
    · obtain rfl : k = 8 := by omega
      go_wp2_with fail
      go_ret
      exact ⟨by rw [HF.out, HY.out]; rfl, rfl⟩

theorem refFeed_any (x : BitVec 32) (A : Option Addr) (n c : Nat) (bs : List UInt8) (B : Nat) (w : World) (h : Reads w B 1 A n (bs.map bV)) (hn : n ≤ 100000000000) :
    Calls Try.prog 75 #[uV x, .slice A n c] w fun e w' => e = .returned (uV (feedL x bs)) ∧ w = w' := by
  have hl : bs.length = n := by simpa using h.len
  have HL := hid hl
  clear hl
  go_enter Try.func75, Try.ntmps75
  go_wp2_with fail
  go_loop [0, 5] (fun v0 v5 => ∃ (k : Nat) (y : BitVec 32), k ≤ n ∧ v5 = .int .i64 (k : Int) ∧ v0 = uV y ∧ Hid (y = feedL x (bs.take k))) (fun _ v5 => n - (intOf v5).toNat)
  case atStart => exact ⟨0, x, by omega, rfl, rfl, by refine hid ?_; simp [feedL]⟩
  case round =>
    obtain ⟨k, y, hk, rfl, rfl, HY⟩ := hrel
    by_cases hkn : k < n
    · obtain ⟨ad, b, rfl, _, hb, hc⟩ := h.atM hkn
      have HS : Hid (feed1 y b = feedL x (bs.take (k + 1))) := by
        refine hid ?_
        rw [List.take_add_one, hb, feedL_append, ← HY.out]
        rfl
      clear hb h
      go_wp2_with fail
      refine (refFeed1_any y b _).mono ?_
      rintro e w' ⟨rfl, rfl⟩
      go_wp2_with fail
      go_round
      case rel => exact ⟨k + 1, feed1 y b, by omega, by go_num, rfl, HS⟩
      case measure => simp [intOf]; omega
    · obtain rfl : k = n := by omega
      go_wp2_with fail
      go_ret
      exact ⟨by rw [HY.out, List.take_of_length_le (by have := HL.out; omega)]; rfl, rfl⟩

theorem refSum_any (A : Option Addr) (n c : Nat) (bs : List UInt8) (B : Nat) (w : World) (h : Reads w B 1 A n (bs.map bV)) (hn : n ≤ 100000000000) :
    Calls Try.prog 57 #[.slice A n c] w fun e w' => e = .returned (uV (crcOf bs)) ∧ w = w' := by
  have hv : (4294967295 : Int) - ((feedL 4294967295#32 bs).toNat : Int) = ((crcOf bs).toNat : Int) := by
    unfold crcOf
    have := (feedL 4294967295#32 bs).isLt
    rw [BitVec.toNat_sub]
    simp
    omega
  have hf := hid (refFeed_any 4294967295#32 A n c bs B w h hn)
  have HV := hid hv
  clear hv h
  go_enter Try.func57, Try.ntmps57
  go_wp2_with fail
  refine hf.out.mono ?_
  rintro e w' ⟨rfl, rfl⟩
  go_wp2_with fail
  go_ret
  exact ⟨ret_int HV.out, rfl⟩

/-! ### The table -/
/-- Words of the table, those from k on not laid yet. -/
def tab (k : Nat) : List (BitVec 32) := (List.range 256).map fun j => if j < k then dnN 8 (BitVec.ofNat 32 j) else 0#32
theorem tab_get (k j : Nat) (h : j < 256) : (tab k)[j]? = some (if j < k then dnN 8 (BitVec.ofNat 32 j) else 0#32) := by simp [tab, h]
theorem tab_set (k : Nat) (h : k < 256) : (tab k).set k (dnN 8 (BitVec.ofNat 32 k)) = tab (k + 1) := by
  apply List.ext_getElem
  · simp [tab]
  · intro i h1 h2
    simp [tab] at h2
    simp only [tab, List.getElem_set, List.getElem_map, List.getElem_range]
    by_cases hi : k = i
    · subst hi
      rw [if_pos rfl, if_pos (by omega)]
    · rw [if_neg hi]
      by_cases hj : i < k
      · rw [if_pos hj, if_pos (by omega)]
      · rw [if_neg hj, if_neg (by omega)]
def tab0 : Array Value := ((tab 0).map uV).toArray
theorem zeroTab (w : World) : (zeroValue 93).run Try.prog w = .ok (.agg tab0) w := by kernel_rfl
/-- A table that was made. -/
def IsTab (w : World) (g : Nat) : Prop := Blk w g 93 ((tab 256).map uV)

set_option maxRecDepth 100000 in
theorem make_any (w : World) :
    Calls Try.prog 50 #[] w fun e w' => ∃ g, e = .returned (.pointer (some ⟨g, 0, none⟩)) ∧ w.heap.size ≤ g ∧ IsTab w' g ∧ Below w.heap.size w w' := by
  have hz := zeroTab
  go_enter Try.func50, Try.ntmps50
  go_wp2_with fail
  have hb0 : Blk (w.alloc (.cells tab0 93)) w.heap.size 93 ((tab 0).map uV) := Blk.new w _ _
  clear hz
  go_loopw [4] (fun v4 wr => ∃ k : Nat, k ≤ 256 ∧ v4 = .int .i64 (k : Int) ∧ Blk wr w.heap.size 93 ((tab k).map uV) ∧ Below w.heap.size w wr) (fun v4 _ => 256 - (intOf v4).toNat)
  case atStart => exact ⟨0, by omega, rfl, hb0, (Below.refl _ _).alloc (Nat.le_refl _) _⟩
  case round =>
    clear hb0
    obtain ⟨k, hk, rfl, hblk, hbel⟩ := hrel
    obtain ⟨wo, rfl⟩ : ∃ wo : World, wo = wr := ⟨_, rfl⟩
    by_cases hk2 : k < 256
    · obtain ⟨x0, hx0⟩ : ∃ x0, x0 = BitVec.ofNat 32 k := ⟨_, rfl⟩
      have hx1 : (k : Int) = (x0.toNat : Int) := by rw [hx0, BitVec.toNat_ofNat]; omega
      have HX := hid hx0
      have HX1 := hid hx1
      clear hx0 hx1
      have hc := hblk.cellAt (i := k) (by rw [List.getElem?_map, tab_get k k hk2]; rfl)
      have hf := hblk.frozen k
      have hs := hblk.set_ k (uV (dnN 8 x0))
      rw [← List.map_set, HX.out, tab_set k hk2, ← HX.out] at hs
      have hbs := hbel.setCell (p := ⟨w.heap.size, k, none⟩) (Nat.le_refl _) (uV (dnN 8 x0))
      have hdk : decide ((k : Int) < 256) = true := by simp; omega
      go_wp2_with fail
      go_loop [3, 9] (fun v3 v9 => ∃ (j : Nat) (y : BitVec 32), j ≤ 8 ∧ v9 = .int .i64 (j : Int) ∧ v3 = uV y ∧ Hid (y = dnN j x0)) (fun _ v9 => 8 - (intOf v9).toNat)
      case atStart => exact ⟨0, x0, by omega, rfl, by rw [HX1.out], rfl⟩
      case round =>
        obtain ⟨j, y, hj, rfl, rfl, HY⟩ := hrel
        by_cases hj8 : j < 8
        · have HS : Hid (dn y = dnN (j + 1) x0) := by refine hid ?_; rw [HY.out]; rfl
          go_wp2_with fail
          refine (down_any y _).mono ?_
          rintro e w' ⟨rfl, rfl⟩
          go_wp2_with fail
          go_round
          case rel => exact ⟨j + 1, dn y, by omega, by go_num, rfl, HS⟩
          case measure => simp [intOf]; omega
        · obtain rfl : j = 8 := by omega
          obtain rfl : y = dnN 8 x0 := HY.out
          go_wp2_with fail
          go_roundw
          case rel => exact ⟨k + 1, by omega, by go_num, hs, hbs⟩
          case measure => simp [intOf]; omega
    · obtain rfl : k = 256 := by omega
      go_wp2_with fail
      go_ret
      exact ⟨_, rfl, Nat.le_refl _, hblk, hbel⟩
theorem low_val (x : BitVec 32) (c : UInt8) : bits BinOp.xor IntKind.u8 ((x.toNat : Int) % 256) (c.toNat : Int) = ((lowC x c : Nat) : Int) := by
  have hc := c.toNat_lt
  have := u8_xor_nat (x.toNat % 256) c.toNat (by omega) (by omega)
  exact this
theorem feed_val (x : BitVec 32) (c : UInt8) : bits BinOp.xor IntKind.u32 ((x.toNat : Int) / 256) ((dnN 8 (BitVec.ofNat 32 (lowC x c))).toNat : Int) = ((feed1 x c).toNat : Int) := by
  have hx := x.isLt
  have := u32_xor_nat (x.toNat / 256) (dnN 8 (BitVec.ofNat 32 (lowC x c))).toNat (by omega) (BitVec.isLt _)
  rw [feed1_table, BitVec.toNat_xor, BitVec.toNat_ushiftRight, Nat.shiftRight_eq_div_pow]
  exact this

theorem feed_any (g : Nat) (x : BitVec 32) (A : Option Addr) (n c : Nat) (bs : List UInt8) (B : Nat) (w : World) (ht : IsTab w g) (h : Reads w B 1 A n (bs.map bV)) (hn : n ≤ 100000000000) :
    Calls Try.prog 70 #[.pointer (some ⟨g, 0, none⟩), uV x, .slice A n c] w fun e w' => e = .returned (uV (feedL x bs)) ∧ w = w' := by
  have hl : bs.length = n := by simpa using h.len
  have HL := hid hl
  clear hl
  go_enter Try.func70, Try.ntmps70
  go_wp2_with fail
  go_loop [1, 14] (fun v1 v14 => ∃ (k : Nat) (y : BitVec 32), k ≤ n ∧ v14 = .int .i64 (k : Int) ∧ v1 = uV y ∧ Hid (y = feedL x (bs.take k))) (fun _ v14 => n - (intOf v14).toNat)
  case atStart => exact ⟨0, x, by omega, rfl, rfl, by refine hid ?_; simp [feedL]⟩
  case round =>
    obtain ⟨k, y, hk, rfl, rfl, HY⟩ := hrel
    by_cases hkn : k < n
    · obtain ⟨ad, b, rfl, _, hb, hc⟩ := h.atM hkn
      have HS : Hid (feed1 y b = feedL x (bs.take (k + 1))) := by
        refine hid ?_
        rw [List.take_add_one, hb, feedL_append, ← HY.out]
        rfl
      clear hb h
      have hlow := low_val y b
      have hL := lowC_lt y b
      have hcell := ht.cellAt (i := lowC y b) (by rw [List.getElem?_map, tab_get 256 _ hL, if_pos hL]; rfl)
      have hx := feed_val y b
      generalize lowC y b = L at hlow hL hcell hx
      generalize dnN 8 (BitVec.ofNat 32 L) = T at hcell hx
      go_wp2_with fail
      go_round
      case rel => exact ⟨k + 1, feed1 y b, by omega, by go_num, rfl, HS⟩
      case measure => simp [intOf]; omega
    · obtain rfl : k = n := by omega
      go_wp2_with fail
      go_ret
      exact ⟨by rw [HY.out, List.take_of_length_le (by have := HL.out; omega)]; rfl, rfl⟩

theorem feed_nil (x : BitVec 32) (A : Option Addr) (n c : Nat) (bs : List UInt8) (w : World) (h0 : Reads w w.heap.size 1 A n (bs.map bV)) (hn : n ≤ 100000000000) :
    Calls Try.prog 70 #[.pointer none, uV x, .slice A n c] w fun e w' => e = .returned (uV (feedL x bs)) ∧ Below w.heap.size w w' := by
  have hl : bs.length = n := by simpa using h0.len
  have HL := hid hl
  clear hl
  go_enter Try.func70, Try.ntmps70
  go_wp2_with fail
  refine (make_any w).mono ?_
  rintro e w1 ⟨g, rfl, _, ht, hbel⟩
  have h := h0.below hbel
  clear h0
  go_wp2_with fail
  go_loop [1, 14] (fun v1 v14 => ∃ (k : Nat) (y : BitVec 32), k ≤ n ∧ v14 = .int .i64 (k : Int) ∧ v1 = uV y ∧ Hid (y = feedL x (bs.take k))) (fun _ v14 => n - (intOf v14).toNat)
  case atStart => exact ⟨0, x, by omega, rfl, rfl, by refine hid ?_; simp [feedL]⟩
  case round =>
    obtain ⟨k, y, hk, rfl, rfl, HY⟩ := hrel
    by_cases hkn : k < n
    · obtain ⟨ad, b, rfl, _, hb, hc⟩ := h.atM hkn
      have HS : Hid (feed1 y b = feedL x (bs.take (k + 1))) := by
        refine hid ?_
        rw [List.take_add_one, hb, feedL_append, ← HY.out]
        rfl
      clear hb h
      have hlow := low_val y b
      have hL := lowC_lt y b
      have hcell := ht.cellAt (i := lowC y b) (by rw [List.getElem?_map, tab_get 256 _ hL, if_pos hL]; rfl)
      have hx := feed_val y b
      generalize lowC y b = L at hlow hL hcell hx
      generalize dnN 8 (BitVec.ofNat 32 L) = T at hcell hx
      go_wp2_with fail
      go_round
      case rel => exact ⟨k + 1, feed1 y b, by omega, by go_num, rfl, HS⟩
      case measure => simp [intOf]; omega
    · obtain rfl : k = n := by omega
      go_wp2_with fail
      go_ret
      exact ⟨by rw [HY.out, List.take_of_length_le (by have := HL.out; omega)]; rfl, hbel⟩

theorem end_any (x : BitVec 32) (w : World) : Calls Try.prog 78 #[uV x] w fun e w' => e = .returned (uV (4294967295#32 - x)) ∧ w = w' := by
  have hv : bits BinOp.xor IntKind.u32 IntKind.u32.max (x.toNat : Int) = ((4294967295#32 - x).toNat : Int) := by
    rw [← ones_sub]
    exact u32_xor_nat 4294967295 x.toNat (by decide) x.isLt
  have HV := hid hv
  clear hv
  go_enter Try.func78, Try.ntmps78
  go_wp2_with fail
  go_ret
  exact ⟨ret_int HV.out, rfl⟩
theorem begin_any (w : World) : Calls Try.prog 79 #[] w fun e w' => e = .returned (uV 4294967295#32) ∧ w = w' := by
  go_enter Try.func79, Try.ntmps79
  go_wp2_with fail
  go_ret
  exact ⟨rfl, rfl⟩
theorem begin_num (w : World) : Calls Try.prog 79 #[] w fun e w' => e = .returned (.int .u32 4294967295) ∧ w = w' := begin_any w
theorem whole_any (g : Nat) (A : Option Addr) (n c : Nat) (bs : List UInt8) (B : Nat) (w : World) (ht : IsTab w g) (h : Reads w B 1 A n (bs.map bV)) (hn : n ≤ 100000000000) :
    Calls Try.prog 69 #[.func (Fn.func 70) #[.pointer (some ⟨g, 0, none⟩)] #[], .slice A n c] w fun e w' => e = .returned (uV (crcOf bs)) ∧ w = w' := by
  go_enter Try.func69, Try.ntmps69
  go_wp2_with fail
  refine (begin_any w).mono ?_
  rintro e w' ⟨rfl, rfl⟩
  go_wp2_with fail
  refine (feed_any g _ A n c bs B w ht h hn).mono ?_
  rintro e w' ⟨rfl, rfl⟩
  go_wp2_with fail
  refine (end_any _ w).mono ?_
  rintro e w' ⟨rfl, rfl⟩
  go_wp2_with fail
  go_ret
  exact ⟨rfl, rfl⟩
theorem whole_nil (A : Option Addr) (n c : Nat) (bs : List UInt8) (w : World) (h : Reads w w.heap.size 1 A n (bs.map bV)) (hn : n ≤ 100000000000) :
    Calls Try.prog 69 #[.func (Fn.func 70) #[.pointer none] #[], .slice A n c] w fun e w' => e = .returned (uV (crcOf bs)) ∧ Below w.heap.size w w' := by
  go_enter Try.func69, Try.ntmps69
  go_wp2_with fail
  refine (begin_any w).mono ?_
  rintro e w' ⟨rfl, rfl⟩
  go_wp2_with fail
  refine (feed_nil _ A n c bs w h hn).mono ?_
  rintro e w1 ⟨rfl, hb⟩
  go_wp2_with fail
  refine (end_any _ w1).mono ?_
  rintro e w' ⟨rfl, rfl⟩
  go_wp2_with fail
  go_ret
  exact ⟨rfl, hb⟩
theorem sum_any (g : Nat) (A : Option Addr) (n c : Nat) (bs : List UInt8) (B : Nat) (w : World) (ht : IsTab w g) (h : Reads w B 1 A n (bs.map bV)) (hn : n ≤ 100000000000) :
    Calls Try.prog 51 #[.pointer (some ⟨g, 0, none⟩), .slice A n c] w fun e w' => e = .returned (uV (crcOf bs)) ∧ w = w' := by
  go_enter Try.func51, Try.ntmps51
  go_wp2_with fail
  refine (whole_any g A n c bs B w ht h hn).mono ?_
  rintro e w' ⟨rfl, rfl⟩
  go_wp2_with fail
  go_ret
  exact ⟨rfl, rfl⟩
theorem sum_nil (A : Option Addr) (n c : Nat) (bs : List UInt8) (w : World) (h : Reads w w.heap.size 1 A n (bs.map bV)) (hn : n ≤ 100000000000) :
    Calls Try.prog 51 #[.pointer none, .slice A n c] w fun e w' => e = .returned (uV (crcOf bs)) ∧ Below w.heap.size w w' := by
  go_enter Try.func51, Try.ntmps51
  go_wp2_with fail
  refine (whole_nil A n c bs w h hn).mono ?_
  rintro e w1 ⟨rfl, hb⟩
  go_wp2_with fail
  go_ret
  exact ⟨rfl, hb⟩
end Go.Proofs.Ytojffpfgmlegdaa
