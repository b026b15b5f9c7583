/-
  Package image: bytes whose sum isn't right are no image's.
-/
import Derived.Test.YtojffpfgmlegdaaImgPut
import Derived.Test.YtojffpfgmlegdaaNumOf
import Derived.Test.YtojffpfgmlegdaaBytesEq
import Derived.Deep.RegionWith
import Derived.Deep.QuietTactic
import Derived.BigQuiet
namespace Go.Proofs.Ytojffpfgmlegdaa
open Go.RowKit

def sum4 (b : List UInt8) : List UInt8 := putB ((crcOf b).toNat : Int) 4
theorem sum4_len (b : List UInt8) : (sum4 b).length = 4 := putB_length _ _
def imgZ : Value := .agg #[.int .i64 0, .int .i64 0, .int .i64 0, .int .i64 0, .int .i64 0, .int .i64 0, .int .i64 0, .slice none 0 0]
/-- A byte that is turned spoils the sum. -/
theorem img_turned (b : List UInt8) (k : Nat) (hk : k < b.length + 4) (x : UInt8) (hx : (b ++ sum4 b)[k]? ≠ some x) :
    sum4 (((b ++ sum4 b).set k x).take b.length) ≠ ((b ++ sum4 b).set k x).drop b.length := by
  by_cases h : k < b.length
  · rw [List.set_append_left _ _ h, List.take_left' (by simp), List.drop_left' (by simp)]
    intro he
    have h2 := sum4_inj _ _ he
    refine crc_turned b k h x ?_ h2.symm
    intro e
    apply hx
    rw [List.getElem?_append_left h, List.getElem?_eq_getElem h, e]
  · rw [List.set_append_right _ _ (by omega), List.take_left' rfl, List.drop_left' rfl]
    intro h2
    apply hx
    rw [List.getElem?_append_right (by omega), h2]
    rw [List.getElem?_set_self (by rw [sum4_len]; omega)]
theorem store8z {w : World} {b : Nat} {T : TypeId} {cs : List Value} (h : Blk w b T cs) (hl : cs.length = 8) (v0 v1 v2 v3 v4 v5 v6 v7 : Value) :
    ∃ w' : World, ((((((((w.setCell ⟨b, 0, none⟩ v0).setCell ⟨b, 1, none⟩ v1).setCell ⟨b, 2, none⟩ v2).setCell ⟨b, 3, none⟩ v3).setCell ⟨b, 4, none⟩ v4).setCell ⟨b, 5, none⟩ v5).setCell ⟨b, 6, none⟩ v6).setCell ⟨b, 7, none⟩ v7) = w' ∧ Below b w w' ∧ Blk w' b T [v0, v1, v2, v3, v4, v5, v6, v7] := store8 h hl v0 v1 v2 v3 v4 v5 v6 v7
set_option maxRecDepth 100000 in
set_option maxHeartbeats 4000000 in
theorem imgGet_bad (A : Option Addr) (D c : Nat) (bs : List UInt8) (w : World) (h : Reads w w.heap.size 1 A (D + 36) (bs.map bV)) (hD : D ≤ 1000000) (hc : D + 36 ≤ c) (hcm : c ≤ maxLen) (hd : sum4 (bs.take (D + 32)) ≠ bs.drop (D + 32)) :
    Calls Try.prog 24 #[.slice A (D + 36) c] w fun e w' => e = .returned (.tuple #[imgZ, .int .i64 10]) ∧ Below w.heap.size w w' := by
  obtain ⟨w1, hw1, hb1, hr1⟩ : ∃ w1 : World, w.alloc (.cells #[.int .i64 0, .int .i64 0, .int .i64 0, .int .i64 0, .int .i64 0, .int .i64 0, .int .i64 0, .slice none 0 0] 41) = w1 ∧ Below w.heap.size w w1 ∧ Blk w1 w.heap.size 41 [.int .i64 0, .int .i64 0, .int .i64 0, .int .i64 0, .int .i64 0, .int .i64 0, .int .i64 0, .slice none 0 0] := ⟨_, rfl, (Below.refl _ _).alloc (Nat.le_refl _) _, Blk.new _ _ _⟩
  have HW := hid hw1
  clear hw1
  obtain ⟨ad, rfl, had, -⟩ := h.form (by omega)
  have hbl : bs.length = D + 36 := by simpa using h.len
  have hf := (h.front (k := D + 32) (by omega)).belowS hb1
  have hk := (h.cut (k := D + 32) (cap := c) (by omega) hc).belowS hb1
  rw [Nat.mul_one, ← List.map_take] at hf
  rw [Nat.mul_one, ← List.map_drop] at hk
  have hcM : c ≠ D + 32 := by omega
  have hcD : c ≠ D := by omega
  rw [if_neg hcM] at hk
  simp only [Option.map_some, Nat.mul_one] at hk
  have HF := hid hf
  have HK := hid hk
  clear h had hf hk
  unfold maxLen at hcm
  have HD := hid hd
  obtain ⟨M, hM⟩ : ∃ M, D + 32 = M := ⟨_, rfl⟩
  obtain ⟨N, hN⟩ : ∃ N, D + 36 = N := ⟨_, rfl⟩
  rw [hM] at HF HK HD hcM
  rw [hN] at hbl hc HK ⊢
  clear hd
  have q0 : decide ((N : Int) < 36) = false := decide_eq_false (by omega)
  have q1 : IntKind.i64.wrap ((N : Int) - 36) = (D : Int) := by rw [IntWalk.i64_in _ (by omega)]; omega
  have q2 : IntKind.i64.wrap ((N : Int) - 4) = (M : Int) := by rw [IntWalk.i64_in _ (by omega)]; omega
  have q3 : (0 : Int) ≤ (D : Int) := Int.natCast_nonneg _
  have q4 : (D : Int) ≤ (c : Int) := by omega
  have q5 : (D : Int) ≤ (M : Int) := by omega
  have q6 : (M : Int) ≤ (c : Int) := by omega
  have q7 : (0 : Int) ≤ (M : Int) := Int.natCast_nonneg _
  have q8 : (M : Int) ≤ (N : Int) := by omega
  have q9 : (N : Int) ≤ (c : Int) := by omega
  have q10 : (D : Int) ≤ (N : Int) := by omega
  have HN4 : Hid (N = M + 4) := hid (by omega)
  have HM : Hid (M ≤ 1000000000) := hid (by omega)
  clear hM hN
  go_enter Try.func24, Try.ntmps24
  go_wp2_with fail
  first | rw [HW.out] | skip
  go_quiet (fail)
  go_wp2_with fail
  have HF2 : Hid (Reads (w1.drewN nq) (w1.drewN nq).heap.size 1 (some ad) M ((bs.take M).map bV)) := hid HF.out
  have HK2 : Hid (Reads (w1.drewN nq) (w1.drewN nq).heap.size 1 (some (ad.add M)) (N - M) ((bs.drop M).map bV)) := hid HK.out
  have hb1' := below_drewN hb1 nq
  have HR1 : Hid (Blk (w1.drewN nq) w.heap.size 41 [.int .i64 0, .int .i64 0, .int .i64 0, .int .i64 0, .int .i64 0, .int .i64 0, .int .i64 0, .slice none 0 0]) := hid hr1
  have HB1 := hid hb1'
  clear hr1 hb1 hb1' HF HK HW
  generalize w1.drewN nq = w2 at *
  have hne : decide (sum4 (bs.take M) = bs.drop M) = false := decide_eq_false HD.out
  have HNE := hid hne
  clear hne
  first
    | (go_region_with (first
        | (go_at_call 37; refine (imgSum_any (some ad) M c (bs.take M) _ ?_ HM.out).mono ?_; (first | exact HF2.out | exact HF2.out.drew); rintro e wa ⟨Aa, ca, rfl, howna, hba'⟩; have hba : Below w2.heap.size w2 wa := ⟨hba'.os, hba'.tape, hba'.output, hba'.size, hba'.block⟩; clear hba')
        | (go_at_call 34; refine (equal_any _ _ _ _ _ _ (sum4 (bs.take M)) (bs.drop M) _ (Reads.of_own howna) (HK2.out.below hba)).mono ?_; rw [HNE.out]; rintro e wb ⟨rfl, hbb'⟩; have hbb := bel_trans hba hbb'; clear hbb')))
    | skip
  all_goals (
    have hr6 := HR1.out.belowS hbb
    have hfin0 := hid (HB1.out.trans (hbb.mono HB1.out.size))
    obtain ⟨f0, f1, f2, f3, f4, f5, f6, f7⟩ : _ ∧ _ ∧ _ ∧ _ ∧ _ ∧ _ ∧ _ ∧ _ := ⟨hr6.frozen 0, hr6.frozen 1, hr6.frozen 2, hr6.frozen 3, hr6.frozen 4, hr6.frozen 5, hr6.frozen 6, hr6.frozen 7⟩
    obtain ⟨e0, e1, e2, e3, e4, e5, e6, e7⟩ : _ ∧ _ ∧ _ ∧ _ ∧ _ ∧ _ ∧ _ ∧ _ := ⟨hr6.cellAt (i := 0) rfl, hr6.cellAt (i := 1) rfl, hr6.cellAt (i := 2) rfl, hr6.cellAt (i := 3) rfl, hr6.cellAt (i := 4) rfl, hr6.cellAt (i := 5) rfl, hr6.cellAt (i := 6) rfl, hr6.cellAt (i := 7) rfl⟩
    have hr7 := hid hr6
    clear hr6
    go_wp2_with fail
    obtain ⟨w8, hw8, hb8, hr8⟩ := store8z hr7.out rfl (.int .i64 0) (.int .i64 0) (.int .i64 0) (.int .i64 0) (.int .i64 0) (.int .i64 0) (.int .i64 0) (.slice none 0 0)
    rw [hw8]
    clear hw8 f0 f1 f2 f3 f4 f5 f6 f7 e0 e1 e2 e3 e4 e5 e6 e7
    obtain ⟨r0, r1, r2, r3, r4, r5, r6, r7⟩ : _ ∧ _ ∧ _ ∧ _ ∧ _ ∧ _ ∧ _ ∧ _ := ⟨hr8.cellAt (i := 0) rfl, hr8.cellAt (i := 1) rfl, hr8.cellAt (i := 2) rfl, hr8.cellAt (i := 3) rfl, hr8.cellAt (i := 4) rfl, hr8.cellAt (i := 5) rfl, hr8.cellAt (i := 6) rfl, hr8.cellAt (i := 7) rfl⟩
    have hfin := hid (hfin0.out.trans hb8)
    refine bodyPost_ret (v := .tuple #[imgZ, .int .i64 10]) (by simp [results, Try.results24, go_sem, r0, r1, r2, r3, r4, r5, r6, r7, imgZ]) rfl ?_
    exact ⟨rfl, hfin.out⟩)
end Go.Proofs.Ytojffpfgmlegdaa
