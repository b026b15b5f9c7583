/-
  The document's own Get of a message is pdu.Get.
-/
import Derived.Test.YthipfopmaegpdaaRefParse
namespace Go.Proofs.Ythipfopmaegpdaa
open Go.RowKit Go.ChangeShapes Go.WideShapes Go.ChangeAt

theorem sumB_len (b : List UInt8) : (sumB b).length = 4 := putB_length _ _
theorem numOf_sumB (b : List UInt8) : numOf (sumB b) = (crcOf b).toNat := by
  unfold sumB
  rw [numOf_pB _ _ (by omega)]
  have := (crcOf b).isLt
  unfold clip
  have h : (256 : Nat) ^ 4 = 4294967296 := by decide
  rw [h, Int.toNat_natCast]
  omega
theorem digest_iff {bs : List UInt8} {M : Nat} (hl : bs.length = M + 4) : bs.take M ++ sumB (bs.take M) = bs ↔ (crcOf (bs.take M)).toNat = numOf (bs.drop M) := by
  have hM : (bs.take M).length = M := by rw [List.length_take]; omega
  constructor
  · intro h
    have h2 : (bs.take M ++ sumB (bs.take M)).drop M = bs.drop M := by rw [h]
    rw [List.drop_left' hM] at h2
    rw [← h2, numOf_sumB]
  · intro h
    have h2 := numOf_inj 4 (sumB (bs.take M)) (bs.drop M) (sumB_len _) (by rw [List.length_drop]; omega) (by rw [numOf_sumB]; exact h)
    rw [h2, List.take_append_drop]
theorem getP_short {bs : List UInt8} (h : bs.length < 5) : getP bs = (pduZ, 1) := by unfold getP; rw [if_pos h]
theorem getP_digest {bs : List UInt8} {M : Nat} (hl : bs.length = M + 4) (hM : 1 ≤ M) (h : (crcOf (bs.take M)).toNat ≠ numOf (bs.drop M)) : getP bs = (pduZ, 10) := by
  unfold getP
  rw [if_neg (by omega), show bs.length - 4 = M by omega, if_pos h]
theorem getP_body {bs : List UInt8} {M : Nat} (hl : bs.length = M + 4) (hM : 1 ≤ M) (h : (crcOf (bs.take M)).toNat = numOf (bs.drop M)) : getP bs = bodyG (bs.take M) := by
  unfold getP
  rw [if_neg (by omega), show bs.length - 4 = M by omega, if_neg (by simpa using h)]
theorem getPost_zero {bs : List UInt8} {w w' : World} {k : Int} (h : getP bs = (pduZ, k)) (hb : Below w.heap.size w w') : GetPost bs w (.returned (.tuple #[zV, .int .i64 k])) w' := by
  unfold GetPost
  rw [h]
  exact ⟨none, 0, rfl, Reads.empty, by show (0 : Nat) ≤ 16; decide, hb⟩
theorem Get_any (A : Option Addr) (n c : Nat) (bs : List UInt8) (w : World) (h : Reads w w.heap.size 1 A n (bs.map bV)) (hn : n ≤ 1000000) (hc : n ≤ c) (hcm : c ≤ maxLen) :
    Calls Try.prog 33 #[.slice A n c] w (GetPost bs w) := by
  have hbl : bs.length = n := by simpa using h.len
  by_cases h5 : n < 5
  · exact (Get_short A n c w h5).mono (fun e w' ⟨he, hb⟩ => by rw [he]; exact getPost_zero (getP_short (by omega)) hb)
  · obtain ⟨M, rfl⟩ : ∃ M, n = M + 4 := ⟨n - 4, by omega⟩
    by_cases hd : (crcOf (bs.take M)).toNat = numOf (bs.drop M)
    · refine (Get_body A M c bs w h (by omega) (by omega) hc hcm hd).mono (fun e w' hp => ?_)
      unfold GetPost
      rw [getP_body hbl (by omega) hd]
      obtain ⟨A', c', h1, h2, h3, h4, _⟩ := hp
      exact ⟨A', c', h1, h2, h3, h4⟩
    · exact (Get_digest A M c bs w h (by omega) (by omega) hc hcm hd).mono (fun e w' ⟨he, hb⟩ => by rw [he]; exact getPost_zero (getP_digest hbl (by omega) hd) hb)

set_option maxRecDepth 100000 in
theorem tail_any (A : Option Addr) (n c : Nat) (bs : List UInt8) (w : World) (h : Reads w w.heap.size 1 A n (bs.map bV)) (hn : n ≤ 1000000) :
    Calls Try.prog 32 #[.slice A n c] w fun e w' => ∃ A' c', e = .returned (.slice A' (n + 4) c') ∧ w'.ownsRow w.heap.size 5 1 (.slice A' (n + 4) c') (n + 4) ((bs ++ sumB bs).map bV) ∧ Below w.heap.size w w' := by
  have hs : Hid (sumB bs = putB ((crcOf bs).toNat : Int) 4) := hid rfl
  have HC := hid (crcOf bs).isLt
  have j2 := hid (fun w' (hr : Reads w' w'.heap.size 1 A n (bs.map bV)) => refSum_any A n c bs _ w' hr (by omega))
  unfold uV at j2
  have hX := HC.out
  generalize (crcOf bs).toNat = X at j2 hs hX
  have hXw : IntKind.i64.wrap (X : Int) = (X : Int) := IntWalk.i64_in _ (by omega)
  go_enter Try.func32, Try.ntmps32
  go_wp2_with (at_builtin; refine appB _ rfl (.tmp 4) (.tmp 5) rfl w.heap.size none 0 0 [] rfl (World.ownsRow_nil _ _ _ _) w.heap.size A n c bs rfl h (by omega) (Nat.le_refl _) ?_; intro A1 c1 w1 hown1 hg1 hb1)
  rw [Nat.zero_add, List.nil_append] at hown1
  have hr1 := hid (h.belowS hb1)
  have HO1 := hid hown1
  clear h hown1 hg1
  refine (j2.out w1 hr1.out).mono ?_
  rintro e w2 ⟨rfl, rfl⟩
  go_wp2_with fail
  refine (refPut_any (X : Int) 4 w1 (by omega)).mono ?_
  rintro e w3 ⟨A3, c3, rfl, hown3, hb3⟩
  have hw4 : wid 4 = 4 := by decide
  rw [hw4] at hown3
  rw [hw4]
  have HR3 := hid (Reads.of_own hown3)
  have HO3 := hid (own_below HO1.out hb3)
  have hbw3 := hid (hb1.trans (hb3.mono hb1.size))
  have hsz := hbw3.out.size
  clear HO1 hown3 hb3 hw4 hXw
  go_wp2_with (at_builtin; refine appB _ rfl (.tmp 7) (.tmp 11) rfl w.heap.size A1 n c1 _ rfl HO3.out w3.heap.size A3 4 c3 _ rfl HR3.out (by omega) hsz ?_; intro A4 c4 w4 hown4 hg4 hb4)
  go_ret
  exact ⟨A4, c4, rfl, by rw [hs.out]; exact hown4, hbw3.out.trans hb4⟩

set_option maxRecDepth 100000 in
set_option maxHeartbeats 2000000 in
theorem refGet_any (A : Option Addr) (n c : Nat) (bs : List UInt8) (w : World) (h : Reads w w.heap.size 1 A n (bs.map bV)) (hn : n ≤ 1000000) (hc : n ≤ c) (hcm : c ≤ maxLen) :
    Calls Try.prog 34 #[.slice A n c] w (GetPost bs w) := by
  have hbl : bs.length = n := by simpa using h.len
  obtain ⟨w1, hw1, hb1, hr1⟩ : ∃ w1 : World, w.alloc (.cells #[.int .i64 0, .int .i64 0, .int .i64 0, .int .i64 0, .int .i64 0, .int .i64 0, .int .i64 0, .int .i64 0, .slice none 0 0] 24) = w1 ∧ Below w.heap.size w w1 ∧ Blk w1 w.heap.size 24 [.int .i64 0, .int .i64 0, .int .i64 0, .int .i64 0, .int .i64 0, .int .i64 0, .int .i64 0, .int .i64 0, .slice none 0 0] := ⟨_, rfl, (Below.refl _ _).alloc (Nat.le_refl _) _, Blk.new _ _ _⟩
  have HW := hid hw1
  clear hw1
  go_enter Try.func34, Try.ntmps34
  by_cases h5 : n < 5
  · have q1 : decide ((n : Int) < 5) = true := decide_eq_true (by omega)
    have HG := hid (getP_short (bs := bs) (by omega))
    go_wp2_with fail
    rw [HW.out]
    obtain ⟨r0, r1, r2, r3, r4, r5, r6, r7, r8⟩ : _ ∧ _ ∧ _ ∧ _ ∧ _ ∧ _ ∧ _ ∧ _ ∧ _ := ⟨hr1.cellAt (i := 0) rfl, hr1.cellAt (i := 1) rfl, hr1.cellAt (i := 2) rfl, hr1.cellAt (i := 3) rfl, hr1.cellAt (i := 4) rfl, hr1.cellAt (i := 5) rfl, hr1.cellAt (i := 6) rfl, hr1.cellAt (i := 7) rfl, hr1.cellAt (i := 8) rfl⟩
    refine bodyPost_ret (v := .tuple #[zV, .int .i64 1]) (by simp [results, Try.results34, go_sem, r0, r1, r2, r3, r4, r5, r6, r7, r8, zV]) rfl ?_
    exact getPost_zero HG.out hb1
  · obtain ⟨M, rfl⟩ : ∃ M, n = M + 4 := ⟨n - 4, by omega⟩
    have hM : 1 ≤ M := by omega
    have hf := (h.front (k := M) (by omega)).belowS hb1
    rw [Nat.mul_one, ← List.map_take] at hf
    have HF := hid hf
    have HB := hid (h.belowS hb1)
    have q1 : decide ((M : Int) + 4 < 5) = false := decide_eq_false (by omega)
    have q2 : IntKind.i64.wrap (M : Int) = (M : Int) := IntWalk.i64_in _ (by omega)
    have q3 : (0 : Int) ≤ (M : Int) := Int.natCast_nonneg _
    have q4 : (M : Int) ≤ (c : Int) := by omega
    have q5 : (M : Int) ≤ (M : Int) + 4 := by omega
    have HI := hid (digest_iff hbl)
    have HD0 : Hid ((crcOf (bs.take M)).toNat ≠ numOf (bs.drop M) → getP bs = (pduZ, 10)) := hid (getP_digest hbl hM)
    have HD1 : Hid ((crcOf (bs.take M)).toNat = numOf (bs.drop M) → getP bs = bodyG (bs.take M)) := hid (getP_body hbl hM)
    clear h hf h5 hbl
    go_wp2_with fail
    rw [HW.out]
    clear HW
    refine (tail_any A M c (bs.take M) w1 HF.out (by omega)).mono ?_
    rintro e w2 ⟨A2, c2, rfl, hown2, hb2⟩
    have hr2 := hr1.belowS hb2
    have hb02 := bel_trans hb1 hb2
    have j1 := hid (same_b A2 A (M + 4) (M + 4) c2 c (bs.take M ++ sumB (bs.take M)) bs w2 (Reads.of_own hown2) (HB.out.belowS hb2) (by omega) (by omega))
    have HF2 := hid (HF.out.belowS hb2)
    clear hr1 hb1 hb2 hown2 HB HF
    go_wp2_with fail
    refine j1.out.mono ?_
    rintro e w3 ⟨he, hb3⟩
    have hr3 := hr2.belowS hb3
    have hb03 := bel_trans hb02 hb3
    have HF3 := hid (HF2.out.belowS hb3)
    clear j1 hr2 hb02 hb3 HF2
    obtain ⟨f0, f1, f2, f3, f4, f5, f6, f7, f8⟩ : _ ∧ _ ∧ _ ∧ _ ∧ _ ∧ _ ∧ _ ∧ _ ∧ _ := ⟨hr3.frozen 0, hr3.frozen 1, hr3.frozen 2, hr3.frozen 3, hr3.frozen 4, hr3.frozen 5, hr3.frozen 6, hr3.frozen 7, hr3.frozen 8⟩
    obtain ⟨d0, d1, d2, d3, d4, d5, d6, d7, d8⟩ : _ ∧ _ ∧ _ ∧ _ ∧ _ ∧ _ ∧ _ ∧ _ ∧ _ := ⟨hr3.cellAt (i := 0) rfl, hr3.cellAt (i := 1) rfl, hr3.cellAt (i := 2) rfl, hr3.cellAt (i := 3) rfl, hr3.cellAt (i := 4) rfl, hr3.cellAt (i := 5) rfl, hr3.cellAt (i := 6) rfl, hr3.cellAt (i := 7) rfl, hr3.cellAt (i := 8) rfl⟩
    by_cases hd : (crcOf (bs.take M)).toNat = numOf (bs.drop M)
    · rw [decide_eq_true (HI.out.2 hd)] at he
      subst he
      have HG := hid (HD1.out hd)
      have hblt := hr3.lt
      have HR3 := hid hr3
      have j2 := hid (parse_any A M c (bs.take M) w3 HF3.out (by omega) (by omega) hcm)
      unfold BodyPost at j2
      clear hd HI HD0 HD1 hr3 f0 f1 f2 f3 f4 f5 f6 f7 f8 d0 d1 d2 d3 d4 d5 d6 d7 d8
      go_wp2_with fail
      refine j2.out.mono ?_
      rintro e w4 ⟨A2, d2, rfl, hR4, hl4, hb4, hge⟩
      have hr4 := HR3.out.belowS hb4
      have hb04 := bel_trans hb03 hb4
      have HGP : Hid (∀ e w', (∃ A' c', e = .returned (.tuple #[.agg #[.int .i64 (bodyG (bs.take M)).1.kind, .int .i64 (bodyG (bs.take M)).1.ses, .int .i64 (bodyG (bs.take M)).1.part, .int .i64 (bodyG (bs.take M)).1.no, .int .i64 (bodyG (bs.take M)).1.size, .int .i64 (bodyG (bs.take M)).1.what, .int .i64 (bodyG (bs.take M)).1.code, .int .i64 (bodyG (bs.take M)).1.hav, .slice A' (bodyG (bs.take M)).1.data.length c'], .int .i64 (bodyG (bs.take M)).2]) ∧ Reads w' w'.heap.size 1 A' (bodyG (bs.take M)).1.data.length ((bodyG (bs.take M)).1.data.map bV) ∧ (bodyG (bs.take M)).1.data.length ≤ 16 ∧ Below w.heap.size w w') → GetPost bs w e w') := hid (fun e w' h => by unfold GetPost; rw [HG.out]; exact h)
      have HNE : Hid (∀ ad : Addr, A2 = some ad → ad.block ≠ w.heap.size) := hid (fun ad h => by have := hge ad h; omega)
      have HR4Q := hid hR4
      generalize bodyG (bs.take M) = Q at *
      obtain ⟨f0, f1, f2, f3, f4, f5, f6, f7, f8⟩ : _ ∧ _ ∧ _ ∧ _ ∧ _ ∧ _ ∧ _ ∧ _ ∧ _ := ⟨hr4.frozen 0, hr4.frozen 1, hr4.frozen 2, hr4.frozen 3, hr4.frozen 4, hr4.frozen 5, hr4.frozen 6, hr4.frozen 7, hr4.frozen 8⟩
      obtain ⟨m0, m1, m2, m3, m4, m5, m6, m7, m8⟩ : _ ∧ _ ∧ _ ∧ _ ∧ _ ∧ _ ∧ _ ∧ _ ∧ _ := ⟨hr4.cellAt (i := 0) rfl, hr4.cellAt (i := 1) rfl, hr4.cellAt (i := 2) rfl, hr4.cellAt (i := 3) rfl, hr4.cellAt (i := 4) rfl, hr4.cellAt (i := 5) rfl, hr4.cellAt (i := 6) rfl, hr4.cellAt (i := 7) rfl, hr4.cellAt (i := 8) rfl⟩
      have HR4 := hid hr4
      clear hr4 HR3 j2 hb03 hb4 hge hR4
      go_wp2_with fail
      obtain ⟨w13, hw13, hb13, hg13, hr13⟩ := store9g HR4.out rfl (.int .i64 Q.1.kind) (.int .i64 Q.1.ses) (.int .i64 Q.1.part) (.int .i64 Q.1.no) (.int .i64 Q.1.size) (.int .i64 Q.1.what) (.int .i64 Q.1.code) (.int .i64 Q.1.hav) (.slice A2 Q.1.data.length d2)
      rw [hw13]
      clear hw13 f0 f1 f2 f3 f4 f5 f6 f7 f8 m0 m1 m2 m3 m4 m5 m6 m7 m8
      obtain ⟨r0, r1, r2, r3, r4, r5, r6, r7, r8⟩ : _ ∧ _ ∧ _ ∧ _ ∧ _ ∧ _ ∧ _ ∧ _ ∧ _ := ⟨hr13.cellAt (i := 0) rfl, hr13.cellAt (i := 1) rfl, hr13.cellAt (i := 2) rfl, hr13.cellAt (i := 3) rfl, hr13.cellAt (i := 4) rfl, hr13.cellAt (i := 5) rfl, hr13.cellAt (i := 6) rfl, hr13.cellAt (i := 7) rfl, hr13.cellAt (i := 8) rfl⟩
      have hfin := hid (hb04.trans hb13)
      have hrd13 := hid (HR4Q.out.grown_ne (Nat.le_refl _) hg13 HNE.out)
      refine bodyPost_ret (v := .tuple #[.agg #[.int .i64 Q.1.kind, .int .i64 Q.1.ses, .int .i64 Q.1.part, .int .i64 Q.1.no, .int .i64 Q.1.size, .int .i64 Q.1.what, .int .i64 Q.1.code, .int .i64 Q.1.hav, .slice A2 Q.1.data.length d2], .int .i64 Q.2]) (by simp [results, Try.results34, go_sem, r0, r1, r2, r3, r4, r5, r6, r7, r8, zV]) rfl ?_
      exact HGP.out _ _ ⟨A2, d2, rfl, hrd13.out, hl4, hfin.out⟩
    · rw [decide_eq_false (fun h => hd (HI.out.1 h))] at he
      subst he
      have HG := hid (HD0.out hd)
      have HR3 := hid hr3
      clear hd HI HD0 HD1 hr3
      go_wp2_with fail
      obtain ⟨w13, hw13, hb13, hr13⟩ := store9 HR3.out rfl (.int .i64 0) (.int .i64 0) (.int .i64 0) (.int .i64 0) (.int .i64 0) (.int .i64 0) (.int .i64 0) (.int .i64 0) (.slice none 0 0)
      rw [hw13]
      clear hw13 f0 f1 f2 f3 f4 f5 f6 f7 f8 d0 d1 d2 d3 d4 d5 d6 d7 d8
      obtain ⟨r0, r1, r2, r3, r4, r5, r6, r7, r8⟩ : _ ∧ _ ∧ _ ∧ _ ∧ _ ∧ _ ∧ _ ∧ _ ∧ _ := ⟨hr13.cellAt (i := 0) rfl, hr13.cellAt (i := 1) rfl, hr13.cellAt (i := 2) rfl, hr13.cellAt (i := 3) rfl, hr13.cellAt (i := 4) rfl, hr13.cellAt (i := 5) rfl, hr13.cellAt (i := 6) rfl, hr13.cellAt (i := 7) rfl, hr13.cellAt (i := 8) rfl⟩
      have hfin := hid (hb03.trans hb13)
      refine bodyPost_ret (v := .tuple #[zV, .int .i64 10]) (by simp [results, Try.results34, go_sem, r0, r1, r2, r3, r4, r5, r6, r7, r8, zV]) rfl ?_
      exact getPost_zero HG.out hfin.out
end Go.Proofs.Ythipfopmaegpdaa
