/-
  pdu.Get of bytes whose sum is right: the body's message, or its error.
-/
import Derived.Test.YthipfopmaegpdaaPduGot
namespace Go.Proofs.Ythipfopmaegpdaa
open Go.RowKit Go.ChangeShapes Go.WideShapes Go.ChangeAt

theorem store9g {w : World} {b : Nat} {T : TypeId} {cs : List Value} (h : Blk w b T cs) (hl : cs.length = 9) (v0 v1 v2 v3 v4 v5 v6 v7 v8 : Value) :
    ∃ w' : World, (((((((((w.setCell ⟨b, 0, none⟩ v0).setCell ⟨b, 1, none⟩ v1).setCell ⟨b, 2, none⟩ v2).setCell ⟨b, 3, none⟩ v3).setCell ⟨b, 4, none⟩ v4).setCell ⟨b, 5, none⟩ v5).setCell ⟨b, 6, none⟩ v6).setCell ⟨b, 7, none⟩ v7).setCell ⟨b, 8, none⟩ v8) = w' ∧ Below b w w' ∧ w.grownBy w' (some b) ∧ Blk w' b T [v0, v1, v2, v3, v4, v5, v6, v7, v8] := by
  obtain ⟨w', h1, h2, h3⟩ := store9 h hl v0 v1 v2 v3 v4 v5 v6 v7 v8
  refine ⟨w', h1, h2, ?_, h3⟩
  rw [← h1]
  exact only_trans (only_trans (only_trans (only_trans (only_trans (only_trans (only_trans (only_trans (only_trans (only_refl w (some b)) (only_set _ 0 v0)) (only_set _ 1 v1)) (only_set _ 2 v2)) (only_set _ 3 v3)) (only_set _ 4 v4)) (only_set _ 5 v5)) (only_set _ 6 v6)) (only_set _ 7 v7)) (only_set _ 8 v8)
theorem own_block {w : World} {base : Nat} {e : TypeId} {size : Nat} {A : Option Addr} {n c : Nat} {xs : List Value} (h : w.ownsRow base e size (.slice A n c) n xs) : ∀ ad, A = some ad → base ≤ ad.block := by
  intro ad ha
  subst ha
  rcases h.2 with ⟨h2, _⟩ | ⟨g, cap, cur, hv, hg, r⟩
  · injection h2 with h2
    cases h2
  · injection hv with hv
    injection hv with hv
    rw [hv]
    exact hg

set_option maxRecDepth 100000 in
set_option maxHeartbeats 8000000 in
theorem Get_body (A : Option Addr) (M c : Nat) (bs : List UInt8) (w : World) (h : Reads w w.heap.size 1 A (M + 4) (bs.map bV)) (hM : 1 ≤ M) (hM2 : M ≤ 1000000) (hc : M + 4 ≤ c) (hcm : c ≤ maxLen) (hd : (crcOf (bs.take M)).toNat = numOf (bs.drop M)) :
    Calls Try.prog 33 #[.slice A (M + 4) c] w (BodyPost (bs.take M) w) := by
  obtain ⟨w1, hw1, hb1, hr1⟩ : ∃ w1 : World, w.alloc (.cells #[.int .i64 0, .int .i64 0, .int .i64 0, .int .i64 0, .int .i64 0, .int .i64 0, .int .i64 0, .int .i64 0, .slice none 0 0] 24) = w1 ∧ Below w.heap.size w w1 ∧ Blk w1 w.heap.size 24 [.int .i64 0, .int .i64 0, .int .i64 0, .int .i64 0, .int .i64 0, .int .i64 0, .int .i64 0, .int .i64 0, .slice none 0 0] := ⟨_, rfl, (Below.refl _ _).alloc (Nat.le_refl _) _, Blk.new _ _ _⟩
  have HW := hid hw1
  clear hw1
  obtain ⟨ad, rfl, had, -⟩ := h.form (by omega)
  have hbl : bs.length = M + 4 := by simpa using h.len
  have hf := (h.front (k := M) (by omega)).belowS hb1
  have hk := (h.cut (k := M) (cap := c) (by omega) hc).belowS hb1
  rw [Nat.mul_one, ← List.map_take] at hf
  rw [Nat.mul_one, ← List.map_drop, show M + 4 - M = 4 by omega] at hk
  have hcM : c ≠ M := by omega
  rw [if_neg hcM] at hk
  simp only [Option.map_some, Nat.mul_one] at hk
  have HF := hid hf
  have HK := hid hk
  have hx4 := rNum4 (bs.drop M) (by simp; omega)
  have hdl : (bs.drop M).length = 4 := by simp; omega
  have HDL : Hid ((bs.drop M).length ≤ 100000000) := hid (by omega)
  clear h had hf hk
  unfold maxLen at hcm
  go_enter Try.func33, Try.ntmps33
  have q1 : decide ((M : Int) + 4 < 5) = false := decide_eq_false (by omega)
  have q2 : IntKind.i64.wrap (M : Int) = (M : Int) := IntWalk.i64_in _ (by omega)
  have q3 : (0 : Int) ≤ (M : Int) := Int.natCast_nonneg _
  have q4 : (M : Int) ≤ (c : Int) := by omega
  have q5 : (M : Int) ≤ (M : Int) + 4 := by omega
  have q6 : (M : Int) + 4 ≤ (c : Int) := by omega
  go_wp2_with fail
  rw [HW.out]
  clear HW
  have HR1 := hid hr1
  clear hr1
  have j1 := hid (read_any (some (ad.add M)) 4 (c - M) (bs.drop M) w1.drew HK.out.drew (by decide))
  have HD := hid hd
  have HX4 := hid hx4
  have HBL := hid hbl
  clear hd hx4 hbl hdl
  have HR4 : Hid ((⟨bs.drop M, 0⟩ : RS).b.length ≤ 100000000) := hid HDL.out
  go_region_held3 (fun _ => True) (trivial)
    (first
      | (go_at_call 53; refine j1.out.mono ?_; rintro e wa ⟨gr, rfl, hgr', hrd, hba'⟩; have hba : Below w1.heap.size w1 wa := ⟨hba'.os, hba'.tape, hba'.output, hba'.size, hba'.block⟩; have hgr : w1.heap.size ≤ gr := hgr'; clear hba' hgr')
      | (go_at_call 54; refine (num_any gr ⟨bs.drop M, 0⟩ 4 _ hrd HR4.out).mono ?_; rintro e wb ⟨rfl, hrd2, hgb⟩; rw [HX4.out]; have hbb : Below w1.heap.size w1 wb := hba.grown hgb hba.size (fun k hk => by injection hk with hk; subst hk; exact hgr)))
  have hF4 := hid (HF.out.belowS hbb)
  have hr4 := HR1.out.belowS hbb
  have hb04 := bel_trans hb1 hbb
  have hbdl : (bs.take M).length = M := by have := HBL.out; rw [List.length_take]; omega
  have HXl : Hid ((crcOf (bs.take M)).toNat < 4294967296) := hid (crcOf (bs.take M)).isLt
  have HDD := hid HD.out
  clear hrd hrd2 hgb hba hgr hbb HF HK HR1 q1 q3 q4 q5 q6 HDL HR4 HX4 HD hb1
  go_wp2_with fail
  refine (make_any _).mono ?_
  rintro e w6 ⟨gt, rfl, hgt, htab, hb6⟩
  have hr6 := hr4.belowS hb6
  have hb06 := bel_trans hb04 hb6
  have HF6 := hid (hF4.out.belowS hb6)
  have j3 := hid (sum_any gt (some ad) M c (bs.take M) _ w6 htab HF6.out (by omega))
  unfold uV at j3
  have hXl := HXl.out
  have hne := HDD.out
  rw [← hne]
  generalize (crcOf (bs.take M)).toNat = X at j3 hXl hne ⊢
  have g0 : ((X : Int) != (X : Int)) = false := by simp
  have hXw : IntKind.i64.wrap (X : Int) = (X : Int) := IntWalk.i64_in _ (by omega)
  have HBD := hid hbdl
  clear hr4 hb04 hF4 htab hgt hb6 hne hbdl q2
  generalize bs.take M = body at *
  clear HDD HBL
  go_wp2_with fail
  refine j3.out.mono ?_
  rintro e w7 ⟨rfl, rfl⟩
  have j4 := hid (read_any (some ad) M c body w6 HF6.out (by omega))
  go_wp2_with fail
  clear g0 hXw hXl HXl j3
  refine j4.out.mono ?_
  rintro e w7 ⟨gr, rfl, hgr, hrd7, hb7⟩
  have hr7 := hr6.belowS hb7
  have hb07 := bel_trans hb06 hb7
  have hgr0 : w.heap.size < gr := Nat.lt_of_lt_of_le hr6.lt hgr
  clear hr6 hb06 j4 HF6
  have j5 := hid (num_any gr ⟨body, 0⟩ 1 w7 hrd7 (by have := HBD.out; show body.length ≤ _; omega))
  unfold NPost at j5
  have hrl := rNum_rest ⟨body, 0⟩ 1
  have HG : Hid (∀ K s0, rNum ⟨body, 0⟩ 1 = (K, s0) → bodyG body = (if fieldsK (K : Int) = [] then (pduZ, 2) else
    let q := getL (fieldsK (K : Int)) { pduZ with kind := (K : Int) } s0
    let z := if (K : Int) = 2 then ({ q.1 with data := (rBytes q.2 16).1 }, (rBytes q.2 16).2) else q
    if rEnd z.2 ≠ 0 then (pduZ, rEnd z.2) else (z.1, 0))) := hid (fun K s0 h => by unfold bodyG; rw [h])
  obtain ⟨⟨K, s0⟩, hKs⟩ : ∃ r, rNum ⟨body, 0⟩ 1 = r := ⟨_, rfl⟩
  have HG2 := hid (HG.out K s0 hKs)
  rw [hKs] at j5 hrl
  simp only at j5 hrl
  have HRL : Hid (s0.b.length ≤ M) := hid (by have := HBD.out; omega)
  clear hKs HG hrl hrd7
  go_wp2_with fail
  refine j5.out.mono ?_
  rintro e w8 ⟨rfl, hrd8, hg8⟩
  have hr8 := hr7.grown_ne hg8 (by omega)
  have hb08 := hb07.grown hg8 hb07.size (fun k hk => by injection hk with hk; subst hk; omega)
  have hsz8 := hg8.size
  clear hr7 hb07 hg8 j5
  obtain ⟨w9, hw9, hb9, hp9⟩ : ∃ w9 : World, w8.alloc (.cells #[.int .i64 (K : Int), .int .i64 0, .int .i64 0, .int .i64 0, .int .i64 0, .int .i64 0, .int .i64 0, .int .i64 0, .slice none 0 0] 24) = w9 ∧ Below w8.heap.size w8 w9 ∧ Blk w9 w8.heap.size 24 (pduC { pduZ with kind := (K : Int) } none 0) := ⟨_, rfl, (Below.refl _ _).alloc (Nat.le_refl _) _, Blk.new _ _ _⟩
  have hr9 := hr8.belowS hb9
  have hrd9 := hrd8.belowG hb9 (by have := hrd8.lt; omega)
  have hb09 := bel_trans hb08 hb9
  have hgp0 : w.heap.size < w8.heap.size := hr8.lt
  have hgp1 : gr < w8.heap.size := hrd8.lt
  have HW9 := hid hw9
  have c0 : w9.cell? ⟨w8.heap.size, 0, none⟩ = some (.int .i64 (K : Int)) := hp9.cellAt rfl
  clear hw9 hr8 hrd8 hb08
  go_wp2_with fail
  rw [HW9.out]
  refine (named_new (K : Int) w9).mono ?_
  rintro e w10 ⟨AL, cL, rfl, hRL, hb10, hnew⟩
  have hr10 := hr9.belowS hb10
  have hp10 := hp9.belowS hb10
  have hrd10 := hrd9.below hb10
  have hb010 := bel_trans hb09 hb10
  have hgp9 : w8.heap.size < w9.heap.size := hp9.lt
  have HNE : Hid (∀ ad : Addr, AL = some ad → ad.block ≠ gr ∧ ad.block ≠ w8.heap.size) := hid (fun ad h => by have := hnew ad h; omega)
  have HLL := hid (fieldsK_lt (K : Int))
  have hL4 := fieldsK_len (K : Int)
  have hDK : Hid (decide ((K : Int) = 2) = true ↔ (K : Int) = 2) := hid decide_eq_true_iff
  generalize fieldsK (K : Int) = L at *
  generalize decide ((K : Int) = 2) = DD at *
  generalize w8.heap.size = gp at *
  clear HW9 c0 hr9 hp9 hrd9 hb09 hb10 hb9 hgp9 hnew
  by_cases hL0 : L = []
  · have HG3 := hid (HG2.out.trans (if_pos hL0))
    have hz : ((L.length : Int) == 0) = true := by subst hL0; rfl
    obtain ⟨f0, f1, f2, f3, f4, f5, f6, f7, f8⟩ : _ ∧ _ ∧ _ ∧ _ ∧ _ ∧ _ ∧ _ ∧ _ ∧ _ := ⟨hr10.frozen 0, hr10.frozen 1, hr10.frozen 2, hr10.frozen 3, hr10.frozen 4, hr10.frozen 5, hr10.frozen 6, hr10.frozen 7, hr10.frozen 8⟩
    obtain ⟨c0, c1, c2, c3, c4, c5, c6, c7, c8⟩ : _ ∧ _ ∧ _ ∧ _ ∧ _ ∧ _ ∧ _ ∧ _ ∧ _ := ⟨hr10.cellAt (i := 0) rfl, hr10.cellAt (i := 1) rfl, hr10.cellAt (i := 2) rfl, hr10.cellAt (i := 3) rfl, hr10.cellAt (i := 4) rfl, hr10.cellAt (i := 5) rfl, hr10.cellAt (i := 6) rfl, hr10.cellAt (i := 7) rfl, hr10.cellAt (i := 8) rfl⟩
    have HR10 := hid hr10
    clear hr10 hL0
    go_wp2_with fail
    obtain ⟨w11, hw11, hb11, hr11⟩ := store9 HR10.out rfl (.int .i64 0) (.int .i64 0) (.int .i64 0) (.int .i64 0) (.int .i64 0) (.int .i64 0) (.int .i64 0) (.int .i64 0) (.slice none 0 0)
    rw [hw11]
    clear hw11 f0 f1 f2 f3 f4 f5 f6 f7 f8 c0 c1 c2 c3 c4 c5 c6 c7 c8
    obtain ⟨r0, r1, r2, r3, r4, r5, r6, r7, r8⟩ : _ ∧ _ ∧ _ ∧ _ ∧ _ ∧ _ ∧ _ ∧ _ ∧ _ := ⟨hr11.cellAt (i := 0) rfl, hr11.cellAt (i := 1) rfl, hr11.cellAt (i := 2) rfl, hr11.cellAt (i := 3) rfl, hr11.cellAt (i := 4) rfl, hr11.cellAt (i := 5) rfl, hr11.cellAt (i := 6) rfl, hr11.cellAt (i := 7) rfl, hr11.cellAt (i := 8) rfl⟩
    have hfin := hid (hb010.trans hb11)
    refine bodyPost_ret (v := .tuple #[zV, .int .i64 2]) (by simp [results, Try.results33, go_sem, r0, r1, r2, r3, r4, r5, r6, r7, r8, zV]) rfl ?_
    unfold BodyPost
    rw [HG3.out]
    exact ⟨none, 0, rfl, Reads.empty, by show (0 : Nat) ≤ 16; decide, hfin.out, fun ad h => by cases h⟩
  · have HG3 := hid (HG2.out.trans (if_neg hL0))
    have hz : ((L.length : Int) == 0) = false := by
      have : 0 < L.length := List.length_pos_iff.2 hL0
      simp
      exact hL0
    clear hL0
    go_wp2_with fail
    clear hz
    go_loopw [11, 53] (fun _ v53 wr => ∃ (k : Nat) (q : PduS) (s : RS), k ≤ L.length ∧ v53 = .int .i64 (k : Int) ∧ Blk wr gp 24 (pduC q none 0) ∧ Rdr wr gr s ∧ Blk wr w.heap.size 24 [.int .i64 0, .int .i64 0, .int .i64 0, .int .i64 0, .int .i64 0, .int .i64 0, .int .i64 0, .int .i64 0, .slice none 0 0] ∧ Reads wr wr.heap.size 1 AL L.length (L.map nV) ∧ Below w.heap.size w wr ∧ Hid (q.data = [] ∧ s.b.length ≤ M ∧ getL (L.drop k) q s = getL L { pduZ with kind := (K : Int) } s0)) (fun _ v53 _ => L.length - (intOf v53).toNat)
    case atStart => exact ⟨0, _, _, by omega, rfl, hp10, hrd10, hr10, hRL, hb010, hid ⟨rfl, HRL.out, rfl⟩⟩
    obtain ⟨k, q, s, hk, rfl, hp, hrd, hr, hRLr, hb0r, HQ⟩ := hrel
    have hq0 := HQ.out.1
    have hsM := HQ.out.2.1
    by_cases hkn : k < L.length
    · obtain ⟨adL, f, rfl, had, hf, hcL⟩ := hRLr.atM hkn
      have hf7 := HLL.out f (List.mem_of_getElem? hf)
      have hk0 : (0 : Int) ≤ (k : Int) := Int.natCast_nonneg _
      have hk1 : (k : Int) < (L.length : Int) := by omega
      have hknd : decide ((k : Int) < (L.length : Int)) = true := decide_eq_true hk1
      have HN : Hid (∀ v s', rNum s (widS f) = (v, s') → getL (L.drop (k + 1)) (setF q f (v : Int)) s' = getL L { pduZ with kind := (K : Int) } s0) := hid (fun v s' e => by
        rw [← HQ.out.2.2]
        obtain ⟨hlt, e1⟩ := List.getElem?_eq_some_iff.1 hf
        rw [List.drop_eq_getElem_cons hlt, e1]
        show _ = getL (L.drop (k + 1)) (setF q f ((rNum s (widS f)).1 : Int)) (rNum s (widS f)).2
        rw [e])
      have xP := idxPf gp hf7
      have xW := idxWf hf7
      have hrr := rNum_rest s (widS f)
      have HB := hid hp
      have HRd := hid hrd
      have HRr := hid hr
      have HRL2 := hid hRLr
      have HFz : Hid (∀ w', Below wr.heap.size wr w' → w'.frozen? ⟨gp, f + 1, none⟩ = false) := hid (fun w' hb => (HB.out.belowS hb).frozen (f + 1))
      have fr0 := hp.frozen (f + 1)
      obtain ⟨⟨v, s'⟩, hvs⟩ : ∃ r, rNum s (widS f) = r := ⟨_, rfl⟩
      have HN2 := hid (HN.out v s' hvs)
      rw [hvs] at hrr
      simp only at hrr
      have HVS : Hid (∀ w', Rdr w' gr s → Calls Try.prog 54 #[.pointer (some ⟨gr, 0, none⟩), .int .i64 (widS f : Int)] w' fun e w2 => e = .returned (.int .i64 (v : Int)) ∧ Rdr w2 gr s' ∧ w'.grownBy w2 (some gr)) := hid (fun w' h => (num_any gr s (widS f) w' h (by omega)).mono (fun e w2 hp => by
        unfold NPost at hp
        rw [hvs] at hp
        exact hp))
      have hgpr : gp ≠ gr := by omega
      simp only [nV] at hcL
      have hf0 : (0 : Int) ≤ (f : Int) := Int.natCast_nonneg _
      have hf6 : (f : Int) < 7 := by omega
      have HQD := hid hq0
      clear hf HN hvs hp hrd hr hRLr HQ hq0
      go_wp2_with fail
      go_region_held3 (fun w' => w'.frozen? ⟨gp, f + 1, none⟩ = false) (go_keep)
        (first
          | (go_at_call 42; refine (numbers_any gp _ _ HB.out.drew).mono ?_; rintro e wa ⟨rfl, hba'⟩; have hba : Below wr.heap.size wr wa := ⟨hba'.os, hba'.tape, hba'.output, hba'.size, hba'.block⟩; clear hba'; have fa := HFz.out _ hba)
          | (go_at_call 43; refine (widths_any _).mono ?_; rintro e wb ⟨rfl, hbb'⟩; have hbb : Below wa.heap.size wa wb := ⟨hbb'.os, hbb'.tape, hbb'.output, hbb'.size, hbb'.block⟩; clear hbb'; have hbB := bel_trans hba hbb; have fb := HFz.out _ hbB)
          | (go_at_call 54; refine (HVS.out _ (HRd.out.below hbB)).mono ?_; rintro e wc ⟨rfl, hrdc, hgc⟩; have hpc := (HB.out.belowS hbB).grown_ne hgc hgpr; have fc := hpc.frozen (f + 1); have xc := pdu_f hpc hf7))
      all_goals (
        have hsz := hgc.size
        have hszB := hbB.size
        have hltp := HB.out.lt
        have hX : Blk (wc.setCell ⟨gp, f + 1, none⟩ (.int .i64 (v : Int))) gp 24 (pduC (setF q f (v : Int)) none 0) := by
          have h := hpc.set_ (f + 1) (.int .i64 (v : Int))
          rw [pduC_setF _ _ _ _ hf7] at h
          exact h
        have hBs : Below gp wc (wc.setCell ⟨gp, f + 1, none⟩ (.int .i64 (v : Int))) := (Below.refl gp wc).setCell (p := ⟨gp, f + 1, none⟩) (Nat.le_refl _) _
        have hR1 := hrdc.belowG hBs hgp1
        have hr1 := ((HRr.out.belowS hbB).grown_ne hgc (by omega)).below hBs hgp0
        have hl1 := ((HRL2.out.belowS hbB).grown_ne (Nat.le_refl _) hgc (fun ad h => (HNE.out ad h).1)).set_ne ⟨gp, f + 1, none⟩ (.int .i64 (v : Int)) (fun ad h => (HNE.out ad h).2)
        have hszs : (wc.setCell ⟨gp, f + 1, none⟩ (.int .i64 (v : Int))).heap.size = wc.heap.size := by simp
        rw [← hszs] at hl1
        have hbel1 := ((hb0r.trans (hbB.mono hb0r.size)).grown hgc (by have := hb0r.size; omega) (fun k hk => by injection hk with hk; subst hk; omega)).trans (hBs.mono (Nat.le_of_lt hgp0))
        have HQ2 : Hid ((setF q f (v : Int)).data = [] ∧ s'.b.length ≤ M ∧ getL (L.drop (k + 1)) (setF q f (v : Int)) s' = getL L { pduZ with kind := (K : Int) } s0) := hid ⟨by rw [setF_data]; exact HQD.out, by omega, HN2.out⟩
        generalize wc.setCell ⟨gp, f + 1, none⟩ (.int .i64 (v : Int)) = wd at hX hR1 hr1 hl1 hbel1 ⊢
        clear hszs hBs hpc fc xc fa fb fr0 hgc hrdc xP xW hcL
        go_wp2_with fail
        go_roundw
        case rel => exact ⟨k + 1, _, _, by omega, by go_num, hX, hR1, hr1, hl1, hbel1, HQ2⟩
        case measure => simp [intOf]; omega)
    · obtain rfl : k = L.length := by omega
      have hkn' : decide ((L.length : Int) < (L.length : Int)) = false := decide_eq_false (by omega)
      have hRq : Hid (getL L { pduZ with kind := (K : Int) } s0 = (q, s)) := hid (by rw [← HQ.out.2.2, List.drop_length]; rfl)
      have HG4 : Hid (bodyG body = (if rEnd (if (K : Int) = 2 then ({ q with data := (rBytes s 16).1 }, (rBytes s 16).2) else (q, s) : PduS × RS).2 ≠ 0 then (pduZ, rEnd (if (K : Int) = 2 then ({ q with data := (rBytes s 16).1 }, (rBytes s 16).2) else (q, s) : PduS × RS).2) else ((if (K : Int) = 2 then ({ q with data := (rBytes s 16).1 }, (rBytes s 16).2) else (q, s) : PduS × RS).1, 0))) := hid (by
        have h := HG3.out
        simp only [hRq.out] at h
        exact h)
      have hn0 : 0 ≤ M := Nat.zero_le _
      have hbr := HQ.out.1
      have HDAT := hid hq0
      have hEE := hid (fun (a : PduS) (b : RS) => (rfl : (a, b).2 = b))
      clear HG2 HG3 hRq hRLr HNE HLL HQ hq0 hL4
      have HK2 := hid hDK.out
      have f8 := hp.frozen 8
      have c8 : wr.cell? ⟨gp, 8, none⟩ = some (.slice none q.data.length 0) := hp.cellAt rfl
      rw [hbr] at c8
      simp only [List.length_nil] at c8
      clear hbr
      cases hDe : DD
      rotate_left
      · have hk2 := HK2.out.1 hDe
        have HG5 : Hid (bodyG body = if rEnd (rBytes s 16).2 ≠ 0 then (pduZ, rEnd (rBytes s 16).2) else ({ q with data := (rBytes s 16).1 }, 0)) := hid (by rw [HG4.out]; simp only [if_pos hk2])
        have hb16 := bytes_any gr s 16 wr hrd (by omega)
        have hlen16 := rBytes_len s 16 (by omega)
        have hrest := rBytes_rest s 16
        unfold BPost at hb16
        obtain ⟨⟨dt, s2⟩, hds⟩ : ∃ r, rBytes s 16 = r := ⟨_, rfl⟩
        rw [hds] at hb16 hlen16 hrest HG5
        simp only at hb16 hlen16 hrest HG5
        have HP := hid hp
        have HR := hid hr
        have H16 := hid hb16
        have hs2 : s2.b.length ≤ M := by omega
        clear hds hp hr hrd HG4 hDe hk2 hb16 f8 c8
        go_wp2_with fail
        refine H16.out.mono ?_
        rintro e wd ⟨A2, m, d2, rfl, hownD, hrdD, hgD, hmD⟩
        obtain rfl : dt.length = m := by simpa using hownD.1
        have hpd := HP.out.grown_ne hgD (by omega)
        have f8 := hpd.frozen 8
        have c8 : wd.cell? ⟨gp, 8, none⟩ = some (.slice none q.data.length 0) := hpd.cellAt rfl
        have hszd := hgD.size
        have hX : Blk (wd.setCell ⟨gp, 8, none⟩ (.slice A2 dt.length d2)) gp 24 (pduC ({ q with data := dt } : PduS) A2 d2) := hpd.set_ 8 (.slice A2 dt.length d2)
        have hBs : Below gp wd (wd.setCell ⟨gp, 8, none⟩ (.slice A2 dt.length d2)) := (Below.refl gp wd).setCell (p := ⟨gp, 8, none⟩) (Nat.le_refl _) _
        have hR1 := hrdD.belowG hBs hgp1
        have hr1 := (HR.out.grown_ne hgD (by omega)).below hBs hgp0
        have hb1' := (hb0r.grown hgD hb0r.size (fun k hk => by injection hk with hk; subst hk; omega)).trans (hBs.mono (Nat.le_of_lt hgp0))
        have hown1 := Reads.of_own (ownsRow_setCell_below hownD (a := ⟨gp, 8, none⟩) HP.out.lt (.slice A2 dt.length d2))
        have hrl1 : dt.length ≤ 16 := by omega
        have hne2 : ∀ ad : Addr, A2 = some ad → w.heap.size < ad.block := fun ad h => by
          have h1 := own_block hownD ad h
          have h2 := HR.out.lt
          omega
        go_wp2_with fail
        generalize wd.setCell ⟨gp, 8, none⟩ (.slice A2 dt.length d2) = w11 at hX hR1 hr1 hb1' hown1 ⊢
        have HG6 : Hid (bodyG body = if rEnd s2 ≠ 0 then (pduZ, rEnd s2) else (({ q with data := dt } : PduS), 0)) := hid HG5.out
        have hown2 : Reads w11 w11.heap.size 1 A2 ({ q with data := dt } : PduS).data.length ((({ q with data := dt } : PduS).data).map bV) := hown1
        have hrl2 : ({ q with data := dt } : PduS).data.length ≤ 16 := hrl1
        generalize ({ q with data := dt } : PduS) = q2 at hX hown2 hrl2 HG6
        clear f8 c8 hpd hBs hownD hrdD hgD hmD hown1 hrl1 HG5 hb0r HP HR H16
        have HN2 := hid hne2
        have HE := hid (end_rd gr s2 w11 hR1 (by omega))
        obtain ⟨f0, f1, f2, f3, f4, f5, f6, f7, f8⟩ : _ ∧ _ ∧ _ ∧ _ ∧ _ ∧ _ ∧ _ ∧ _ ∧ _ := ⟨hr1.frozen 0, hr1.frozen 1, hr1.frozen 2, hr1.frozen 3, hr1.frozen 4, hr1.frozen 5, hr1.frozen 6, hr1.frozen 7, hr1.frozen 8⟩
        obtain ⟨c0, c1, c2, c3, c4, c5, c6, c7, c8⟩ : _ ∧ _ ∧ _ ∧ _ ∧ _ ∧ _ ∧ _ ∧ _ ∧ _ := ⟨hr1.cellAt (i := 0) rfl, hr1.cellAt (i := 1) rfl, hr1.cellAt (i := 2) rfl, hr1.cellAt (i := 3) rfl, hr1.cellAt (i := 4) rfl, hr1.cellAt (i := 5) rfl, hr1.cellAt (i := 6) rfl, hr1.cellAt (i := 7) rfl, hr1.cellAt (i := 8) rfl⟩
        obtain ⟨m0, m1, m2, m3, m4, m5, m6, m7, m8⟩ := pdu_cells hX
        have HR1 := hid hr1
        clear hr1 hX hR1
        by_cases he : rEnd s2 = 0
        · have HG7 := hid (HG6.out.trans (if_neg (by rw [he]; simp)))
          have g0 : (rEnd s2 != 0) = false := by simp [he]
          generalize rEnd s2 = EE at HE g0
          clear he HG6
          refine HE.out.mono ?_
          rintro e w12 ⟨rfl, rfl⟩
          go_wp2_with fail
          obtain ⟨w13, hw13, hb13, hg13, hr13⟩ := store9g HR1.out rfl (.int .i64 q2.kind) (.int .i64 q2.ses) (.int .i64 q2.part) (.int .i64 q2.no) (.int .i64 q2.size) (.int .i64 q2.what) (.int .i64 q2.code) (.int .i64 q2.hav) (.slice A2 q2.data.length d2)
          rw [hw13]
          clear hw13 f0 f1 f2 f3 f4 f5 f6 f7 f8 c0 c1 c2 c3 c4 c5 c6 c7 c8 m0 m1 m2 m3 m4 m5 m6 m7 m8 g0
          obtain ⟨r0, r1, r2, r3, r4, r5, r6, r7, r8⟩ : _ ∧ _ ∧ _ ∧ _ ∧ _ ∧ _ ∧ _ ∧ _ ∧ _ := ⟨hr13.cellAt (i := 0) rfl, hr13.cellAt (i := 1) rfl, hr13.cellAt (i := 2) rfl, hr13.cellAt (i := 3) rfl, hr13.cellAt (i := 4) rfl, hr13.cellAt (i := 5) rfl, hr13.cellAt (i := 6) rfl, hr13.cellAt (i := 7) rfl, hr13.cellAt (i := 8) rfl⟩
          have hfin := hid (hb1'.trans hb13)
          have hrdf := hid (hown2.grown_ne (Nat.le_refl _) hg13 (fun ad h => by have := HN2.out ad h; omega))
          refine bodyPost_ret (v := .tuple #[.agg #[.int .i64 q2.kind, .int .i64 q2.ses, .int .i64 q2.part, .int .i64 q2.no, .int .i64 q2.size, .int .i64 q2.what, .int .i64 q2.code, .int .i64 q2.hav, .slice A2 q2.data.length d2], .int .i64 0]) (by simp [results, Try.results33, go_sem, r0, r1, r2, r3, r4, r5, r6, r7, r8]) rfl ?_
          unfold BodyPost
          rw [HG7.out]
          exact ⟨A2, d2, rfl, hrdf.out, hrl2, hfin.out, fun ad h => Nat.le_of_lt (HN2.out ad h)⟩
        · have HG7 := hid (HG6.out.trans (if_pos he))
          have g0 : (rEnd s2 != 0) = true := by simpa using he
          generalize rEnd s2 = EE at HE g0 HG7
          clear he HG6
          refine HE.out.mono ?_
          rintro e w12 ⟨rfl, rfl⟩
          go_wp2_with fail
          obtain ⟨w13, hw13, hb13, hg13, hr13⟩ := store9g HR1.out rfl (.int .i64 0) (.int .i64 0) (.int .i64 0) (.int .i64 0) (.int .i64 0) (.int .i64 0) (.int .i64 0) (.int .i64 0) (.slice none 0 0)
          rw [hw13]
          clear hw13 f0 f1 f2 f3 f4 f5 f6 f7 f8 c0 c1 c2 c3 c4 c5 c6 c7 c8 m0 m1 m2 m3 m4 m5 m6 m7 m8 g0
          obtain ⟨r0, r1, r2, r3, r4, r5, r6, r7, r8⟩ : _ ∧ _ ∧ _ ∧ _ ∧ _ ∧ _ ∧ _ ∧ _ ∧ _ := ⟨hr13.cellAt (i := 0) rfl, hr13.cellAt (i := 1) rfl, hr13.cellAt (i := 2) rfl, hr13.cellAt (i := 3) rfl, hr13.cellAt (i := 4) rfl, hr13.cellAt (i := 5) rfl, hr13.cellAt (i := 6) rfl, hr13.cellAt (i := 7) rfl, hr13.cellAt (i := 8) rfl⟩
          have hfin := hid (hb1'.trans hb13)
          refine bodyPost_ret (v := .tuple #[zV, .int .i64 EE]) (by simp [results, Try.results33, go_sem, r0, r1, r2, r3, r4, r5, r6, r7, r8, zV]) rfl ?_
          unfold BodyPost
          rw [HG7.out]
          exact ⟨none, 0, rfl, Reads.empty, by show (0 : Nat) ≤ 16; decide, hfin.out, fun ad h => by cases h⟩
      · have hk2 : ¬ (K : Int) = 2 := fun h => by have := HK2.out.2 h; rw [hDe] at this; exact absurd this (by simp)
        have HG5 : Hid (bodyG body = if rEnd s ≠ 0 then (pduZ, rEnd s) else (q, 0)) := hid (by rw [HG4.out]; simp only [if_neg hk2])
        have hb1' := hb0r
        have hX := hp
        have hR1 := hrd
        have hr1 := hr
        have hs2 := hsM
        have hown2 : Reads wr wr.heap.size 1 none q.data.length (q.data.map bV) := by rw [HDAT.out]; exact Reads.empty
        have hrl2 : q.data.length ≤ 16 := by rw [HDAT.out]; decide
        have HG6 := hid HG5.out
        clear hp hrd hr HG4 hDe hk2 f8 c8 HG5 hb0r
        go_wp2_with fail
        obtain ⟨A2, hA2⟩ : ∃ A2 : Option Addr, A2 = none := ⟨_, rfl⟩
        obtain ⟨d2, hd2⟩ : ∃ d2 : Nat, d2 = 0 := ⟨_, rfl⟩
        rw [← hA2, ← hd2] at hX
        rw [← hA2] at hown2
        have hne2 : ∀ ad : Addr, A2 = some ad → w.heap.size < ad.block := fun ad h => by rw [hA2] at h; cases h
        clear hA2 hd2
        generalize q = q2 at *
        generalize s = s2 at *
        generalize wr = w11 at *
        have HN2 := hid hne2
        have HE := hid (end_rd gr s2 w11 hR1 (by omega))
        obtain ⟨f0, f1, f2, f3, f4, f5, f6, f7, f8⟩ : _ ∧ _ ∧ _ ∧ _ ∧ _ ∧ _ ∧ _ ∧ _ ∧ _ := ⟨hr1.frozen 0, hr1.frozen 1, hr1.frozen 2, hr1.frozen 3, hr1.frozen 4, hr1.frozen 5, hr1.frozen 6, hr1.frozen 7, hr1.frozen 8⟩
        obtain ⟨c0, c1, c2, c3, c4, c5, c6, c7, c8⟩ : _ ∧ _ ∧ _ ∧ _ ∧ _ ∧ _ ∧ _ ∧ _ ∧ _ := ⟨hr1.cellAt (i := 0) rfl, hr1.cellAt (i := 1) rfl, hr1.cellAt (i := 2) rfl, hr1.cellAt (i := 3) rfl, hr1.cellAt (i := 4) rfl, hr1.cellAt (i := 5) rfl, hr1.cellAt (i := 6) rfl, hr1.cellAt (i := 7) rfl, hr1.cellAt (i := 8) rfl⟩
        obtain ⟨m0, m1, m2, m3, m4, m5, m6, m7, m8⟩ := pdu_cells hX
        have HR1 := hid hr1
        clear hr1 hX hR1
        by_cases he : rEnd s2 = 0
        · have HG7 := hid (HG6.out.trans (if_neg (by rw [he]; simp)))
          have g0 : (rEnd s2 != 0) = false := by simp [he]
          generalize rEnd s2 = EE at HE g0
          clear he HG6
          refine HE.out.mono ?_
          rintro e w12 ⟨rfl, rfl⟩
          go_wp2_with fail
          obtain ⟨w13, hw13, hb13, hg13, hr13⟩ := store9g HR1.out rfl (.int .i64 q2.kind) (.int .i64 q2.ses) (.int .i64 q2.part) (.int .i64 q2.no) (.int .i64 q2.size) (.int .i64 q2.what) (.int .i64 q2.code) (.int .i64 q2.hav) (.slice A2 q2.data.length d2)
          rw [hw13]
          clear hw13 f0 f1 f2 f3 f4 f5 f6 f7 f8 c0 c1 c2 c3 c4 c5 c6 c7 c8 m0 m1 m2 m3 m4 m5 m6 m7 m8 g0
          obtain ⟨r0, r1, r2, r3, r4, r5, r6, r7, r8⟩ : _ ∧ _ ∧ _ ∧ _ ∧ _ ∧ _ ∧ _ ∧ _ ∧ _ := ⟨hr13.cellAt (i := 0) rfl, hr13.cellAt (i := 1) rfl, hr13.cellAt (i := 2) rfl, hr13.cellAt (i := 3) rfl, hr13.cellAt (i := 4) rfl, hr13.cellAt (i := 5) rfl, hr13.cellAt (i := 6) rfl, hr13.cellAt (i := 7) rfl, hr13.cellAt (i := 8) rfl⟩
          have hfin := hid (hb1'.trans hb13)
          have hrdf := hid (hown2.grown_ne (Nat.le_refl _) hg13 (fun ad h => by have := HN2.out ad h; omega))
          refine bodyPost_ret (v := .tuple #[.agg #[.int .i64 q2.kind, .int .i64 q2.ses, .int .i64 q2.part, .int .i64 q2.no, .int .i64 q2.size, .int .i64 q2.what, .int .i64 q2.code, .int .i64 q2.hav, .slice A2 q2.data.length d2], .int .i64 0]) (by simp [results, Try.results33, go_sem, r0, r1, r2, r3, r4, r5, r6, r7, r8]) rfl ?_
          unfold BodyPost
          rw [HG7.out]
          exact ⟨A2, d2, rfl, hrdf.out, hrl2, hfin.out, fun ad h => Nat.le_of_lt (HN2.out ad h)⟩
        · have HG7 := hid (HG6.out.trans (if_pos he))
          have g0 : (rEnd s2 != 0) = true := by simpa using he
          generalize rEnd s2 = EE at HE g0 HG7
          clear he HG6
          refine HE.out.mono ?_
          rintro e w12 ⟨rfl, rfl⟩
          go_wp2_with fail
          obtain ⟨w13, hw13, hb13, hg13, hr13⟩ := store9g HR1.out rfl (.int .i64 0) (.int .i64 0) (.int .i64 0) (.int .i64 0) (.int .i64 0) (.int .i64 0) (.int .i64 0) (.int .i64 0) (.slice none 0 0)
          rw [hw13]
          clear hw13 f0 f1 f2 f3 f4 f5 f6 f7 f8 c0 c1 c2 c3 c4 c5 c6 c7 c8 m0 m1 m2 m3 m4 m5 m6 m7 m8 g0
          obtain ⟨r0, r1, r2, r3, r4, r5, r6, r7, r8⟩ : _ ∧ _ ∧ _ ∧ _ ∧ _ ∧ _ ∧ _ ∧ _ ∧ _ := ⟨hr13.cellAt (i := 0) rfl, hr13.cellAt (i := 1) rfl, hr13.cellAt (i := 2) rfl, hr13.cellAt (i := 3) rfl, hr13.cellAt (i := 4) rfl, hr13.cellAt (i := 5) rfl, hr13.cellAt (i := 6) rfl, hr13.cellAt (i := 7) rfl, hr13.cellAt (i := 8) rfl⟩
          have hfin := hid (hb1'.trans hb13)
          refine bodyPost_ret (v := .tuple #[zV, .int .i64 EE]) (by simp [results, Try.results33, go_sem, r0, r1, r2, r3, r4, r5, r6, r7, r8, zV]) rfl ?_
          unfold BodyPost
          rw [HG7.out]
          exact ⟨none, 0, rfl, Reads.empty, by show (0 : Nat) ≤ 16; decide, hfin.out, fun ad h => by cases h⟩
end Go.Proofs.Ythipfopmaegpdaa
