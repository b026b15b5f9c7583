/-
  pdu.Get of bytes whose sum isn't right: nothing, and ErrDigest.
-/
import Derived.Test.YthipfopmaegpdaaPduPut
import Derived.Test.YthipfopmaegpdaaReader
namespace Go.Proofs.Ythipfopmaegpdaa
open Go.RowKit Go.ChangeShapes Go.WideShapes Go.ChangeAt

def pduZ : PduS := ⟨0, 0, 0, 0, 0, 0, 0, 0, []⟩
def zV : Value := .agg #[.int .i64 0, .int .i64 0, .int .i64 0, .int .i64 0, .int .i64 0, .int .i64 0, .int .i64 0, .int .i64 0, .slice none 0 0]
theorem numOf_rng (m w : Nat) (hm : m < 256 ^ w) : ∀ k, k ≤ w → numOf ((digs m w).take k) = m / 256 ^ (w - k)
  | 0, _ => by rw [List.take_zero, Nat.sub_zero, Nat.div_eq_of_lt hm]; rfl
  | k + 1, hk => by
    rw [digs_take_succ m w k (by omega), numOf_snoc, numOf_rng m w hm k (by omega)]
    unfold dig
    rw [UInt8.toNat_ofNat', show w - k = (w - 1 - k) + 1 by omega, Nat.pow_succ, ← Nat.div_div_eq_div_mul, show w - (k + 1) = w - 1 - k by omega]
    have := Nat.div_add_mod (m / 256 ^ (w - 1 - k)) 256
    omega
theorem numOf_pB (n : Int) (w : Nat) (hw : w ≤ 6) : numOf (putB n w) = clip n w := by
  unfold putB
  have h := numOf_rng (clip n w) w (clip_lt n w hw) w (Nat.le_refl _)
  rw [List.take_of_length_le (by simp [digs])] at h
  rw [h]
  simp
theorem numOf_inj : ∀ (n : Nat) (l m : List UInt8), l.length = n → m.length = n → numOf l = numOf m → l = m
  | 0, l, m, hl, hm, _ => by rw [List.eq_nil_of_length_eq_zero hl, List.eq_nil_of_length_eq_zero hm]
  | n + 1, l, m, hl, hm, he => by
    rcases List.eq_nil_or_concat l with rfl | ⟨l', c, rfl⟩
    · simp at hl
    rcases List.eq_nil_or_concat m with rfl | ⟨m', d, rfl⟩
    · simp at hm
    simp only [List.concat_eq_append] at he hl hm ⊢
    rw [numOf_snoc, numOf_snoc] at he
    have h1 := c.toNat_lt
    have h2 := d.toNat_lt
    have hcd : c.toNat = d.toNat := by omega
    have hlm : numOf l' = numOf m' := by omega
    rw [numOf_inj n l' m' (by simpa using hl) (by simpa using hm) hlm, UInt8.toNat_inj.1 hcd]
theorem l9 {α : Type} (l : List α) (h : l.length = 9) : ∃ a b c d e f g x y, l = [a, b, c, d, e, f, g, x, y] := by
  obtain ⟨a, l, rfl⟩ := List.exists_cons_of_length_eq_add_one (n := 8) (by simpa using h)
  simp only [List.length_cons, Nat.add_right_cancel_iff] at h
  obtain ⟨b, l, rfl⟩ := List.exists_cons_of_length_eq_add_one (n := 7) (by simpa using h)
  simp only [List.length_cons, Nat.add_right_cancel_iff] at h
  obtain ⟨c, l, rfl⟩ := List.exists_cons_of_length_eq_add_one (n := 6) (by simpa using h)
  simp only [List.length_cons, Nat.add_right_cancel_iff] at h
  obtain ⟨d, l, rfl⟩ := List.exists_cons_of_length_eq_add_one (n := 5) (by simpa using h)
  simp only [List.length_cons, Nat.add_right_cancel_iff] at h
  obtain ⟨e, l, rfl⟩ := List.exists_cons_of_length_eq_add_one (n := 4) (by simpa using h)
  simp only [List.length_cons, Nat.add_right_cancel_iff] at h
  obtain ⟨f, l, rfl⟩ := List.exists_cons_of_length_eq_add_one (n := 3) (by simpa using h)
  simp only [List.length_cons, Nat.add_right_cancel_iff] at h
  obtain ⟨g, l, rfl⟩ := List.exists_cons_of_length_eq_add_one (n := 2) (by simpa using h)
  simp only [List.length_cons, Nat.add_right_cancel_iff] at h
  obtain ⟨x, l, rfl⟩ := List.exists_cons_of_length_eq_add_one (n := 1) (by simpa using h)
  simp only [List.length_cons, Nat.add_right_cancel_iff] at h
  obtain ⟨y, l, rfl⟩ := List.exists_cons_of_length_eq_add_one (n := 0) (by simpa using h)
  obtain rfl : l = [] := by cases l with
    | nil => rfl
    | cons _ _ => simp at h
  exact ⟨a, b, c, d, e, f, g, x, y, rfl⟩
theorem store9 {w : World} {b : Nat} {T : TypeId} {cs : List Value} (h : Blk w b T cs) (hl : cs.length = 9) (v0 v1 v2 v3 v4 v5 v6 v7 v8 : Value) :
    ∃ w' : World, (((((((((w.setCell ⟨b, 0, none⟩ v0).setCell ⟨b, 1, none⟩ v1).setCell ⟨b, 2, none⟩ v2).setCell ⟨b, 3, none⟩ v3).setCell ⟨b, 4, none⟩ v4).setCell ⟨b, 5, none⟩ v5).setCell ⟨b, 6, none⟩ v6).setCell ⟨b, 7, none⟩ v7).setCell ⟨b, 8, none⟩ v8) = w' ∧ Below b w w' ∧ Blk w' b T [v0, v1, v2, v3, v4, v5, v6, v7, v8] := by
  refine ⟨_, rfl, ((((((((((Below.refl _ _).setCell (p := ⟨b, 0, none⟩) (Nat.le_refl _) _).setCell (p := ⟨b, 1, none⟩) (Nat.le_refl _) _).setCell (p := ⟨b, 2, none⟩) (Nat.le_refl _) _).setCell (p := ⟨b, 3, none⟩) (Nat.le_refl _) _).setCell (p := ⟨b, 4, none⟩) (Nat.le_refl _) _).setCell (p := ⟨b, 5, none⟩) (Nat.le_refl _) _).setCell (p := ⟨b, 6, none⟩) (Nat.le_refl _) _).setCell (p := ⟨b, 7, none⟩) (Nat.le_refl _) _).setCell (p := ⟨b, 8, none⟩) (Nat.le_refl _) _), ?_⟩
  have := (((((((((h.set_ 0 v0).set_ 1 v1).set_ 2 v2).set_ 3 v3).set_ 4 v4).set_ 5 v5).set_ 6 v6).set_ 7 v7).set_ 8 v8)
  obtain ⟨a0, a1, a2, a3, a4, a5, a6, a7, a8, rfl⟩ := l9 cs hl
  exact this
theorem rBytes_all (l : List UInt8) (n : Nat) (hn : 0 < n) (h : l.length = n) : rBytes ⟨l, 0⟩ (n : Int) = (l, ⟨[], 0⟩) := by
  unfold rBytes
  simp only
  rw [if_neg (by omega), if_neg (by omega)]
  rw [Int.toNat_natCast, List.take_of_length_le (by omega), List.drop_of_length_le (by omega)]
theorem rNum4 (l : List UInt8) (h : l.length = 4) : (rNum ⟨l, 0⟩ 4).1 = numOf l := by
  unfold rNum
  have hw : wid 4 = 4 := by decide
  rw [hw, rBytes_all l 4 (by omega) h]

set_option maxRecDepth 100000 in
set_option maxHeartbeats 4000000 in
theorem Get_digest (A : Option Addr) (M c : Nat) (bs : List UInt8) (w : World) (h : Reads w w.heap.size 1 A (M + 4) (bs.map bV)) (hM : 1 ≤ M) (hM2 : M ≤ 1000000) (hc : M + 4 ≤ c) (hcm : c ≤ maxLen) (hd : (crcOf (bs.take M)).toNat ≠ numOf (bs.drop M)) :
    Calls Try.prog 33 #[.slice A (M + 4) c] w fun e w' => e = .returned (.tuple #[zV, .int .i64 10]) ∧ Below w.heap.size w w' := by
  obtain ⟨w1, hw1, hb1, hr1⟩ : ∃ w1 : World, w.alloc (.cells #[.int .i64 0, .int .i64 0, .int .i64 0, .int .i64 0, .int .i64 0, .int .i64 0, .int .i64 0, .int .i64 0, .slice none 0 0] 24) = w1 ∧ Below w.heap.size w w1 ∧ Blk w1 w.heap.size 24 [.int .i64 0, .int .i64 0, .int .i64 0, .int .i64 0, .int .i64 0, .int .i64 0, .int .i64 0, .int .i64 0, .slice none 0 0] := ⟨_, rfl, (Below.refl _ _).alloc (Nat.le_refl _) _, Blk.new _ _ _⟩
  have HW := hid hw1
  clear hw1
  obtain ⟨ad, rfl, had, -⟩ := h.form (by omega)
  have hbl : bs.length = M + 4 := by simpa using h.len
  have hf := (h.front (k := M) (by omega)).belowS hb1
  have hk := (h.cut (k := M) (cap := c) (by omega) hc).belowS hb1
  rw [Nat.mul_one, ← List.map_take] at hf
  rw [Nat.mul_one, ← List.map_drop, show M + 4 - M = 4 by omega] at hk
  have hcM : c ≠ M := by omega
  rw [if_neg hcM] at hk
  simp only [Option.map_some, Nat.mul_one] at hk
  have HF := hid hf
  have HK := hid hk
  have hx4 := rNum4 (bs.drop M) (by simp; omega)
  have hdl : (bs.drop M).length = 4 := by simp; omega
  have HDL : Hid ((bs.drop M).length ≤ 100000000) := hid (by omega)
  clear h had hf hk
  unfold maxLen at hcm
  go_enter Try.func33, Try.ntmps33
  have q1 : decide ((M : Int) + 4 < 5) = false := decide_eq_false (by omega)
  have q2 : IntKind.i64.wrap (M : Int) = (M : Int) := IntWalk.i64_in _ (by omega)
  have q3 : (0 : Int) ≤ (M : Int) := Int.natCast_nonneg _
  have q4 : (M : Int) ≤ (c : Int) := by omega
  have q5 : (M : Int) ≤ (M : Int) + 4 := by omega
  have q6 : (M : Int) + 4 ≤ (c : Int) := by omega
  go_wp2_with fail
  rw [HW.out]
  clear HW
  have HR1 := hid hr1
  clear hr1
  have j1 := hid (read_any (some (ad.add M)) 4 (c - M) (bs.drop M) w1.drew HK.out.drew (by decide))
  have HD := hid hd
  have HX4 := hid hx4
  clear hd hx4 hbl hdl
  have HR4 : Hid ((⟨bs.drop M, 0⟩ : RS).b.length ≤ 100000000) := hid HDL.out
  go_region_held3 (fun _ => True) (trivial)
    (first
      | (go_at_call 53; refine j1.out.mono ?_; rintro e wa ⟨gr, rfl, hgr', hrd, hba'⟩; have hba : Below w1.heap.size w1 wa := ⟨hba'.os, hba'.tape, hba'.output, hba'.size, hba'.block⟩; have hgr : w1.heap.size ≤ gr := hgr'; clear hba' hgr')
      | (go_at_call 54; refine (num_any gr ⟨bs.drop M, 0⟩ 4 _ hrd HR4.out).mono ?_; rintro e wb ⟨rfl, hrd2, hgb⟩; rw [HX4.out]; have hbb : Below w1.heap.size w1 wb := hba.grown hgb hba.size (fun k hk => by injection hk with hk; subst hk; exact hgr)))
  have hF4 := hid (HF.out.belowS hbb)
  have hr4 := HR1.out.belowS hbb
  have hb04 := bel_trans hb1 hbb
  have hbdl : (bs.take M).length ≤ M := by rw [List.length_take]; omega
  have HXl : Hid ((crcOf (bs.take M)).toNat < 4294967296) := hid (crcOf (bs.take M)).isLt
  have HDD := hid HD.out
  clear hrd hrd2 hgb hba hgr hbb HF HK HR1 q1 q3 q4 q5 q6 HDL HR4 HX4 HD hb1
  go_wp2_with fail
  refine (make_any _).mono ?_
  rintro e w6 ⟨gt, rfl, hgt, htab, hb6⟩
  have hr6 := hr4.belowS hb6
  have hb06 := bel_trans hb04 hb6
  have j3 := hid (sum_any gt (some ad) M c (bs.take M) _ w6 htab (hF4.out.belowS hb6) (by omega))
  unfold uV at j3
  have hXl := HXl.out
  have hne := HDD.out
  generalize (crcOf (bs.take M)).toNat = X at j3 hXl hne
  generalize numOf (bs.drop M) = NS at hne ⊢
  have g0 : ((X : Int) != (NS : Int)) = true := by
    have : (X : Int) ≠ (NS : Int) := fun h => hne (by omega)
    simpa using this
  have hXw : IntKind.i64.wrap (X : Int) = (X : Int) := IntWalk.i64_in _ (by omega)
  clear hr4 hb04 hF4 htab hgt hb6 hne hbdl q2
  go_wp2_with fail
  refine j3.out.mono ?_
  rintro e w7 ⟨rfl, rfl⟩
  obtain ⟨f0, f1, f2, f3, f4, f5, f6, f7, f8⟩ : _ ∧ _ ∧ _ ∧ _ ∧ _ ∧ _ ∧ _ ∧ _ ∧ _ := ⟨hr6.frozen 0, hr6.frozen 1, hr6.frozen 2, hr6.frozen 3, hr6.frozen 4, hr6.frozen 5, hr6.frozen 6, hr6.frozen 7, hr6.frozen 8⟩
  obtain ⟨c0, c1, c2, c3, c4, c5, c6, c7, c8⟩ : _ ∧ _ ∧ _ ∧ _ ∧ _ ∧ _ ∧ _ ∧ _ ∧ _ := ⟨hr6.cellAt (i := 0) rfl, hr6.cellAt (i := 1) rfl, hr6.cellAt (i := 2) rfl, hr6.cellAt (i := 3) rfl, hr6.cellAt (i := 4) rfl, hr6.cellAt (i := 5) rfl, hr6.cellAt (i := 6) rfl, hr6.cellAt (i := 7) rfl, hr6.cellAt (i := 8) rfl⟩
  have hr7 := hid hr6
  clear hr6
  go_wp2_with fail
  obtain ⟨w8, hw8, hb8, hr8⟩ := store9 hr7.out rfl (.int .i64 0) (.int .i64 0) (.int .i64 0) (.int .i64 0) (.int .i64 0) (.int .i64 0) (.int .i64 0) (.int .i64 0) (.slice none 0 0)
  rw [hw8]
  clear hw8 f0 f1 f2 f3 f4 f5 f6 f7 f8 c0 c1 c2 c3 c4 c5 c6 c7 c8
  obtain ⟨r0, r1, r2, r3, r4, r5, r6, r7, r8⟩ : _ ∧ _ ∧ _ ∧ _ ∧ _ ∧ _ ∧ _ ∧ _ ∧ _ := ⟨hr8.cellAt (i := 0) rfl, hr8.cellAt (i := 1) rfl, hr8.cellAt (i := 2) rfl, hr8.cellAt (i := 3) rfl, hr8.cellAt (i := 4) rfl, hr8.cellAt (i := 5) rfl, hr8.cellAt (i := 6) rfl, hr8.cellAt (i := 7) rfl, hr8.cellAt (i := 8) rfl⟩
  have hfin := hid (hb06.trans hb8)
  refine bodyPost_ret (v := .tuple #[zV, .int .i64 10]) (by simp [results, Try.results33, go_sem, r0, r1, r2, r3, r4, r5, r6, r7, r8, zV]) rfl ?_
  exact ⟨rfl, hfin.out⟩
end Go.Proofs.Ythipfopmaegpdaa
