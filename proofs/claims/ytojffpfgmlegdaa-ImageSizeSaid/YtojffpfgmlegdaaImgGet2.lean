/-
  Package image: Get, where the bytes are too few, where the sum is right but the digest isn't, and where both are.
-/
import Derived.Test.YtojffpfgmlegdaaImgParse
import Derived.Deep.RegionHeld3
namespace Go.Proofs.Ytojffpfgmlegdaa
open Go.RowKit

set_option maxRecDepth 100000 in
set_option maxHeartbeats 2000000 in
theorem imgGet_short (A : Option Addr) (n c : Nat) (w : World) (hn : n < 36) :
    Calls Try.prog 24 #[.slice A n c] w fun e w' => e = .returned (.tuple #[imgZ, .int .i64 1]) ∧ Below w.heap.size w w' := by
  obtain ⟨w1, hw1, hb1, hr1⟩ : ∃ w1 : World, w.alloc (.cells #[.int .i64 0, .int .i64 0, .int .i64 0, .int .i64 0, .int .i64 0, .int .i64 0, .int .i64 0, .slice none 0 0] 41) = w1 ∧ Below w.heap.size w w1 ∧ Blk w1 w.heap.size 41 [.int .i64 0, .int .i64 0, .int .i64 0, .int .i64 0, .int .i64 0, .int .i64 0, .int .i64 0, .slice none 0 0] := ⟨_, rfl, (Below.refl _ _).alloc (Nat.le_refl _) _, Blk.new _ _ _⟩
  obtain ⟨f0, f1, f2, f3, f4, f5, f6, f7⟩ : _ ∧ _ ∧ _ ∧ _ ∧ _ ∧ _ ∧ _ ∧ _ := ⟨hr1.frozen 0, hr1.frozen 1, hr1.frozen 2, hr1.frozen 3, hr1.frozen 4, hr1.frozen 5, hr1.frozen 6, hr1.frozen 7⟩
  obtain ⟨e0, e1, e2, e3, e4, e5, e6, e7⟩ : _ ∧ _ ∧ _ ∧ _ ∧ _ ∧ _ ∧ _ ∧ _ := ⟨hr1.cellAt (i := 0) rfl, hr1.cellAt (i := 1) rfl, hr1.cellAt (i := 2) rfl, hr1.cellAt (i := 3) rfl, hr1.cellAt (i := 4) rfl, hr1.cellAt (i := 5) rfl, hr1.cellAt (i := 6) rfl, hr1.cellAt (i := 7) rfl⟩
  have hr7 := hid hr1
  have q0 : decide ((n : Int) < 36) = true := decide_eq_true (by omega)
  clear hr1
  go_enter Try.func24, Try.ntmps24
  go_wp2_with fail
  clear hw1
  obtain ⟨w8, hw8, hb8, hr8⟩ := store8z hr7.out rfl (.int .i64 0) (.int .i64 0) (.int .i64 0) (.int .i64 0) (.int .i64 0) (.int .i64 0) (.int .i64 0) (.slice none 0 0)
  first | rw [hw8] | skip
  clear hw8 f0 f1 f2 f3 f4 f5 f6 f7 e0 e1 e2 e3 e4 e5 e6 e7
  obtain ⟨r0, r1, r2, r3, r4, r5, r6, r7⟩ : _ ∧ _ ∧ _ ∧ _ ∧ _ ∧ _ ∧ _ ∧ _ := ⟨hr8.cellAt (i := 0) rfl, hr8.cellAt (i := 1) rfl, hr8.cellAt (i := 2) rfl, hr8.cellAt (i := 3) rfl, hr8.cellAt (i := 4) rfl, hr8.cellAt (i := 5) rfl, hr8.cellAt (i := 6) rfl, hr8.cellAt (i := 7) rfl⟩
  have hfin := hid (hb1.trans hb8)
  refine bodyPost_ret (v := .tuple #[imgZ, .int .i64 1]) (by simp [results, Try.results24, go_sem, r0, r1, r2, r3, r4, r5, r6, r7, imgZ]) rfl ?_
  exact ⟨rfl, hfin.out⟩
set_option maxRecDepth 100000 in
set_option maxHeartbeats 4000000 in
theorem imgGet_bad2 (A : Option Addr) (D c : Nat) (bs : List UInt8) (w : World) (h : Reads w w.heap.size 1 A (D + 36) (bs.map bV)) (hD : D ≤ 1000000) (hc : D + 36 ≤ c) (hcm : c ≤ maxLen) (hd : sum4 (bs.take (D + 32)) = bs.drop (D + 32)) (hde : shaOf (bs.take D) ≠ (bs.take (D + 32)).drop D) :
    Calls Try.prog 24 #[.slice A (D + 36) c] w fun e w' => e = .returned (.tuple #[imgZ, .int .i64 10]) ∧ Below w.heap.size w w' := by
  obtain ⟨w1, hw1, hb1, hr1⟩ : ∃ w1 : World, w.alloc (.cells #[.int .i64 0, .int .i64 0, .int .i64 0, .int .i64 0, .int .i64 0, .int .i64 0, .int .i64 0, .slice none 0 0] 41) = w1 ∧ Below w.heap.size w w1 ∧ Blk w1 w.heap.size 41 [.int .i64 0, .int .i64 0, .int .i64 0, .int .i64 0, .int .i64 0, .int .i64 0, .int .i64 0, .slice none 0 0] := ⟨_, rfl, (Below.refl _ _).alloc (Nat.le_refl _) _, Blk.new _ _ _⟩
  have HW := hid hw1
  clear hw1
  obtain ⟨ad, rfl, had, -⟩ := h.form (by omega)
  have hbl : bs.length = D + 36 := by simpa using h.len
  have hf := (h.front (k := D + 32) (by omega)).belowS hb1
  have hk := (h.cut (k := D + 32) (cap := c) (by omega) hc).belowS hb1
  rw [Nat.mul_one, ← List.map_take] at hf
  rw [Nat.mul_one, ← List.map_drop] at hk
  have hcM : c ≠ D + 32 := by omega
  have hcD : c ≠ D := by omega
  rw [if_neg hcM] at hk
  have hdg := ((h.front (k := D + 32) (by omega)).cut (k := D) (cap := c) (by omega) (by omega)).belowS hb1
  have hbd := (h.front (k := D) (by omega)).belowS hb1
  rw [Nat.mul_one, Nat.mul_one, ← List.map_take, ← List.map_drop] at hdg
  rw [Nat.mul_one, ← List.map_take] at hbd
  rw [if_neg hcD] at hdg
  simp only [Option.map_some] at hdg
  have HDG := hid hdg
  have HBD := hid hbd
  clear hdg hbd
  simp only [Option.map_some, Nat.mul_one] at hk
  have HF := hid hf
  have HK := hid hk
  clear h had hf hk
  unfold maxLen at hcm
  have HD := hid hd
  have HDE := hid hde
  clear hde
  obtain ⟨M, hM⟩ : ∃ M, D + 32 = M := ⟨_, rfl⟩
  obtain ⟨N, hN⟩ : ∃ N, D + 36 = N := ⟨_, rfl⟩
  rw [hM] at HF HK HD HDG HDE hcM
  rw [hN] at hbl hc HK ⊢
  clear hd
  have q0 : decide ((N : Int) < 36) = false := decide_eq_false (by omega)
  have q1 : IntKind.i64.wrap ((N : Int) - 36) = (D : Int) := by rw [IntWalk.i64_in _ (by omega)]; omega
  have q2 : IntKind.i64.wrap ((N : Int) - 4) = (M : Int) := by rw [IntWalk.i64_in _ (by omega)]; omega
  have q3 : (0 : Int) ≤ (D : Int) := Int.natCast_nonneg _
  have q4 : (D : Int) ≤ (c : Int) := by omega
  have q5 : (D : Int) ≤ (M : Int) := by omega
  have q6 : (M : Int) ≤ (c : Int) := by omega
  have q7 : (0 : Int) ≤ (M : Int) := Int.natCast_nonneg _
  have q8 : (M : Int) ≤ (N : Int) := by omega
  have q9 : (N : Int) ≤ (c : Int) := by omega
  have q10 : (D : Int) ≤ (N : Int) := by omega
  have HN4 : Hid (N = M + 4) := hid (by omega)
  have HM : Hid (M ≤ 1000000000) := hid (by omega)
  have HDB : Hid (D ≤ 1000000000) := hid (by omega)
  clear hM hN
  go_enter Try.func24, Try.ntmps24
  go_wp2_with fail
  first | rw [HW.out] | skip
  go_quiet (fail)
  go_wp2_with fail
  have HF2 : Hid (Reads (w1.drewN nq) (w1.drewN nq).heap.size 1 (some ad) M ((bs.take M).map bV)) := hid HF.out
  have HDG2 : Hid (Reads (w1.drewN nq) (w1.drewN nq).heap.size 1 (some (ad.add D)) (M - D) (((bs.take M).drop D).map bV)) := hid HDG.out
  have HBD2 : Hid (Reads (w1.drewN nq) (w1.drewN nq).heap.size 1 (some ad) D ((bs.take D).map bV)) := hid HBD.out
  have HK2 : Hid (Reads (w1.drewN nq) (w1.drewN nq).heap.size 1 (some (ad.add M)) (N - M) ((bs.drop M).map bV)) := hid HK.out
  have hb1' := below_drewN hb1 nq
  have HR1 : Hid (Blk (w1.drewN nq) w.heap.size 41 [.int .i64 0, .int .i64 0, .int .i64 0, .int .i64 0, .int .i64 0, .int .i64 0, .int .i64 0, .slice none 0 0]) := hid hr1
  have HB1 := hid hb1'
  clear hr1 hb1 hb1' HF HK HW HDG HBD
  generalize w1.drewN nq = w2 at *
  have hne : decide (sum4 (bs.take M) = bs.drop M) = true := decide_eq_true HD.out
  have HNE := hid hne
  have hne2 : decide (shaOf (bs.take D) = (bs.take M).drop D) = false := decide_eq_false HDE.out
  have HNE2 := hid hne2
  clear hne hne2
  go_region_held3 (fun _ => True) (trivial)
    (first
      | (go_at_call 37; refine (imgSum_any (some ad) M c (bs.take M) _ ?_ HM.out).mono ?_; (first | exact HF2.out | exact HF2.out.drew); rintro e wa ⟨Aa, ca, rfl, howna, hba'⟩; have hba : Below w2.heap.size w2 wa := ⟨hba'.os, hba'.tape, hba'.output, hba'.size, hba'.block⟩; clear hba')
      | (go_at_call_of 34 (Value.slice Aa 4 ca); refine (equal_any _ _ _ _ _ _ (sum4 (bs.take M)) (bs.drop M) _ (Reads.of_own howna) (HK2.out.below hba)).mono ?_; rw [HNE.out]; rintro e wb ⟨rfl, hbb'⟩; have hbb := bel_trans hba hbb'; clear hbb')
      | (go_at_call 36; refine (digest_any (some ad) D c (bs.take D) _ ?_ HDB.out).mono ?_; (first | exact HBD2.out.belowS hbb); rintro e wc ⟨gd, rfl, hrdc, hbc'⟩; have hbc := bel_trans hbb hbc'; clear hbc')
      | (go_at_call 34; refine (equal_any _ _ _ _ _ _ (shaOf (bs.take D)) ((bs.take M).drop D) _ hrdc (HDG2.out.below hbc)).mono ?_; rw [HNE2.out]; rintro e wd ⟨rfl, hbd'⟩; have hbd := bel_trans hbc hbd'; clear hbd'))
  all_goals (
    have hr6 := HR1.out.belowS hbd
    have hfin0 := hid (HB1.out.trans (hbd.mono HB1.out.size))
    obtain ⟨f0, f1, f2, f3, f4, f5, f6, f7⟩ : _ ∧ _ ∧ _ ∧ _ ∧ _ ∧ _ ∧ _ ∧ _ := ⟨hr6.frozen 0, hr6.frozen 1, hr6.frozen 2, hr6.frozen 3, hr6.frozen 4, hr6.frozen 5, hr6.frozen 6, hr6.frozen 7⟩
    obtain ⟨e0, e1, e2, e3, e4, e5, e6, e7⟩ : _ ∧ _ ∧ _ ∧ _ ∧ _ ∧ _ ∧ _ ∧ _ := ⟨hr6.cellAt (i := 0) rfl, hr6.cellAt (i := 1) rfl, hr6.cellAt (i := 2) rfl, hr6.cellAt (i := 3) rfl, hr6.cellAt (i := 4) rfl, hr6.cellAt (i := 5) rfl, hr6.cellAt (i := 6) rfl, hr6.cellAt (i := 7) rfl⟩
    have hr7 := hid hr6
    clear hr6
    go_wp2_with fail
    obtain ⟨w8, hw8, hb8, hr8⟩ := store8z hr7.out rfl (.int .i64 0) (.int .i64 0) (.int .i64 0) (.int .i64 0) (.int .i64 0) (.int .i64 0) (.int .i64 0) (.slice none 0 0)
    rw [hw8]
    clear hw8 f0 f1 f2 f3 f4 f5 f6 f7 e0 e1 e2 e3 e4 e5 e6 e7
    obtain ⟨r0, r1, r2, r3, r4, r5, r6, r7⟩ : _ ∧ _ ∧ _ ∧ _ ∧ _ ∧ _ ∧ _ ∧ _ := ⟨hr8.cellAt (i := 0) rfl, hr8.cellAt (i := 1) rfl, hr8.cellAt (i := 2) rfl, hr8.cellAt (i := 3) rfl, hr8.cellAt (i := 4) rfl, hr8.cellAt (i := 5) rfl, hr8.cellAt (i := 6) rfl, hr8.cellAt (i := 7) rfl⟩
    have hfin := hid (hfin0.out.trans hb8)
    refine bodyPost_ret (v := .tuple #[imgZ, .int .i64 10]) (by simp [results, Try.results24, go_sem, r0, r1, r2, r3, r4, r5, r6, r7, imgZ]) rfl ?_
    exact ⟨rfl, hfin.out⟩)
set_option maxRecDepth 100000 in
set_option maxHeartbeats 4000000 in
theorem imgGet_thru (A : Option Addr) (D c : Nat) (bs : List UInt8) (w : World) (h : Reads w w.heap.size 1 A (D + 36) (bs.map bV)) (hD : D ≤ 1000000) (hc : D + 36 ≤ c) (hcm : c ≤ maxLen) (hd : sum4 (bs.take (D + 32)) = bs.drop (D + 32)) (hde : shaOf (bs.take D) = (bs.take (D + 32)).drop D) (x : Int) (hp : ∀ (ad : Addr) w', Reads w' w'.heap.size 1 (some ad) D ((bs.take D).map bV) → Calls Try.prog 38 #[.slice (some ad) D c] w' fun e w'' => e = .returned (.tuple #[imgZ, .int .i64 x]) ∧ Below w'.heap.size w' w'') :
    Calls Try.prog 24 #[.slice A (D + 36) c] w fun e w' => e = .returned (.tuple #[imgZ, .int .i64 x]) ∧ Below w.heap.size w w' := by
  obtain ⟨w1, hw1, hb1, hr1⟩ : ∃ w1 : World, w.alloc (.cells #[.int .i64 0, .int .i64 0, .int .i64 0, .int .i64 0, .int .i64 0, .int .i64 0, .int .i64 0, .slice none 0 0] 41) = w1 ∧ Below w.heap.size w w1 ∧ Blk w1 w.heap.size 41 [.int .i64 0, .int .i64 0, .int .i64 0, .int .i64 0, .int .i64 0, .int .i64 0, .int .i64 0, .slice none 0 0] := ⟨_, rfl, (Below.refl _ _).alloc (Nat.le_refl _) _, Blk.new _ _ _⟩
  have HW := hid hw1
  clear hw1
  obtain ⟨ad, rfl, had, -⟩ := h.form (by omega)
  have hbl : bs.length = D + 36 := by simpa using h.len
  have hf := (h.front (k := D + 32) (by omega)).belowS hb1
  have hk := (h.cut (k := D + 32) (cap := c) (by omega) hc).belowS hb1
  rw [Nat.mul_one, ← List.map_take] at hf
  rw [Nat.mul_one, ← List.map_drop] at hk
  have hcM : c ≠ D + 32 := by omega
  have hcD : c ≠ D := by omega
  rw [if_neg hcM] at hk
  have hdg := ((h.front (k := D + 32) (by omega)).cut (k := D) (cap := c) (by omega) (by omega)).belowS hb1
  have hbd := (h.front (k := D) (by omega)).belowS hb1
  rw [Nat.mul_one, Nat.mul_one, ← List.map_take, ← List.map_drop] at hdg
  rw [Nat.mul_one, ← List.map_take] at hbd
  rw [if_neg hcD] at hdg
  simp only [Option.map_some] at hdg
  have HDG := hid hdg
  have HBD := hid hbd
  clear hdg hbd
  simp only [Option.map_some, Nat.mul_one] at hk
  have HF := hid hf
  have HK := hid hk
  clear h had hf hk
  unfold maxLen at hcm
  have HP := hid hp
  clear hp
  have HD := hid hd
  have HDE := hid hde
  clear hde
  obtain ⟨M, hM⟩ : ∃ M, D + 32 = M := ⟨_, rfl⟩
  obtain ⟨N, hN⟩ : ∃ N, D + 36 = N := ⟨_, rfl⟩
  rw [hM] at HF HK HD HDG HDE hcM
  rw [hN] at hbl hc HK ⊢
  clear hd
  have q0 : decide ((N : Int) < 36) = false := decide_eq_false (by omega)
  have q1 : IntKind.i64.wrap ((N : Int) - 36) = (D : Int) := by rw [IntWalk.i64_in _ (by omega)]; omega
  have q2 : IntKind.i64.wrap ((N : Int) - 4) = (M : Int) := by rw [IntWalk.i64_in _ (by omega)]; omega
  have q3 : (0 : Int) ≤ (D : Int) := Int.natCast_nonneg _
  have q4 : (D : Int) ≤ (c : Int) := by omega
  have q5 : (D : Int) ≤ (M : Int) := by omega
  have q6 : (M : Int) ≤ (c : Int) := by omega
  have q7 : (0 : Int) ≤ (M : Int) := Int.natCast_nonneg _
  have q8 : (M : Int) ≤ (N : Int) := by omega
  have q9 : (N : Int) ≤ (c : Int) := by omega
  have q10 : (D : Int) ≤ (N : Int) := by omega
  have HN4 : Hid (N = M + 4) := hid (by omega)
  have HM : Hid (M ≤ 1000000000) := hid (by omega)
  have HDB : Hid (D ≤ 1000000000) := hid (by omega)
  clear hM hN
  go_enter Try.func24, Try.ntmps24
  go_wp2_with fail
  first | rw [HW.out] | skip
  go_quiet (fail)
  go_wp2_with fail
  have HF2 : Hid (Reads (w1.drewN nq) (w1.drewN nq).heap.size 1 (some ad) M ((bs.take M).map bV)) := hid HF.out
  have HDG2 : Hid (Reads (w1.drewN nq) (w1.drewN nq).heap.size 1 (some (ad.add D)) (M - D) (((bs.take M).drop D).map bV)) := hid HDG.out
  have HBD2 : Hid (Reads (w1.drewN nq) (w1.drewN nq).heap.size 1 (some ad) D ((bs.take D).map bV)) := hid HBD.out
  have HK2 : Hid (Reads (w1.drewN nq) (w1.drewN nq).heap.size 1 (some (ad.add M)) (N - M) ((bs.drop M).map bV)) := hid HK.out
  have hb1' := below_drewN hb1 nq
  have HR1 : Hid (Blk (w1.drewN nq) w.heap.size 41 [.int .i64 0, .int .i64 0, .int .i64 0, .int .i64 0, .int .i64 0, .int .i64 0, .int .i64 0, .slice none 0 0]) := hid hr1
  have HB1 := hid hb1'
  clear hr1 hb1 hb1' HF HK HW HDG HBD
  generalize w1.drewN nq = w2 at *
  have hne : decide (sum4 (bs.take M) = bs.drop M) = true := decide_eq_true HD.out
  have HNE := hid hne
  have hne2 : decide (shaOf (bs.take D) = (bs.take M).drop D) = true := decide_eq_true HDE.out
  have HNE2 := hid hne2
  clear hne hne2
  go_region_held3 (fun _ => True) (trivial)
    (first
      | (go_at_call 37; refine (imgSum_any (some ad) M c (bs.take M) _ ?_ HM.out).mono ?_; (first | exact HF2.out | exact HF2.out.drew); rintro e wa ⟨Aa, ca, rfl, howna, hba'⟩; have hba : Below w2.heap.size w2 wa := ⟨hba'.os, hba'.tape, hba'.output, hba'.size, hba'.block⟩; clear hba')
      | (go_at_call_of 34 (Value.slice Aa 4 ca); refine (equal_any _ _ _ _ _ _ (sum4 (bs.take M)) (bs.drop M) _ (Reads.of_own howna) (HK2.out.below hba)).mono ?_; rw [HNE.out]; rintro e wb ⟨rfl, hbb'⟩; have hbb := bel_trans hba hbb'; clear hbb')
      | (go_at_call 36; refine (digest_any (some ad) D c (bs.take D) _ ?_ HDB.out).mono ?_; (first | exact HBD2.out.belowS hbb); rintro e wc ⟨gd, rfl, hrdc, hbc'⟩; have hbc := bel_trans hbb hbc'; clear hbc')
      | (go_at_call 34; refine (equal_any _ _ _ _ _ _ (shaOf (bs.take D)) ((bs.take M).drop D) _ hrdc (HDG2.out.below hbc)).mono ?_; rw [HNE2.out]; rintro e wd ⟨rfl, hbd'⟩; have hbd := bel_trans hbc hbd'; clear hbd'))
  all_goals (
    have hp := hid (HP.out ad wd (HBD2.out.belowS hbd))
    unfold imgZ at hp
    have hr5 := HR1.out.belowS hbd
    have hfin0 := hid (HB1.out.trans (hbd.mono HB1.out.size))
    have hrf := hid hr5
    have hsb := HB1.out.size
    clear hr5
    go_wp2_with fail
    refine hp.out.mono ?_
    rintro e wz ⟨rfl, hbz⟩
    have hr6 := hrf.out.belowS hbz
    have hfin1 := hid (hfin0.out.trans (hbz.mono hfin0.out.size))
    obtain ⟨f0, f1, f2, f3, f4, f5, f6, f7⟩ : _ ∧ _ ∧ _ ∧ _ ∧ _ ∧ _ ∧ _ ∧ _ := ⟨hr6.frozen 0, hr6.frozen 1, hr6.frozen 2, hr6.frozen 3, hr6.frozen 4, hr6.frozen 5, hr6.frozen 6, hr6.frozen 7⟩
    obtain ⟨e0, e1, e2, e3, e4, e5, e6, e7⟩ : _ ∧ _ ∧ _ ∧ _ ∧ _ ∧ _ ∧ _ ∧ _ := ⟨hr6.cellAt (i := 0) rfl, hr6.cellAt (i := 1) rfl, hr6.cellAt (i := 2) rfl, hr6.cellAt (i := 3) rfl, hr6.cellAt (i := 4) rfl, hr6.cellAt (i := 5) rfl, hr6.cellAt (i := 6) rfl, hr6.cellAt (i := 7) rfl⟩
    have hr7 := hid hr6
    clear hr6
    go_wp2_with fail
    obtain ⟨w8, hw8, hb8, hr8⟩ := store8z hr7.out rfl (.int .i64 0) (.int .i64 0) (.int .i64 0) (.int .i64 0) (.int .i64 0) (.int .i64 0) (.int .i64 0) (.slice none 0 0)
    rw [hw8]
    clear hw8 f0 f1 f2 f3 f4 f5 f6 f7 e0 e1 e2 e3 e4 e5 e6 e7
    obtain ⟨r0, r1, r2, r3, r4, r5, r6, r7⟩ : _ ∧ _ ∧ _ ∧ _ ∧ _ ∧ _ ∧ _ ∧ _ := ⟨hr8.cellAt (i := 0) rfl, hr8.cellAt (i := 1) rfl, hr8.cellAt (i := 2) rfl, hr8.cellAt (i := 3) rfl, hr8.cellAt (i := 4) rfl, hr8.cellAt (i := 5) rfl, hr8.cellAt (i := 6) rfl, hr8.cellAt (i := 7) rfl⟩
    have hfin := hid (hfin1.out.trans hb8)
    refine bodyPost_ret (v := .tuple #[imgZ, .int .i64 x]) (by simp [results, Try.results24, go_sem, r0, r1, r2, r3, r4, r5, r6, r7, imgZ]) rfl ?_
    exact ⟨rfl, hfin.out⟩)
end Go.Proofs.Ytojffpfgmlegdaa
