/-
  The reference of compat: Check.
-/
import Derived.Test.YthnifgcoikmihaaCompAsk
import Derived.Test.YthnifgcoikmihaaCompCheck
import Derived.Test.YthnifgcoikmihaaRef10
import Derived.Test.YthnifgcoikmihaaRef06R
import Derived.Test.YthnifgcoikmihaaRefRight
namespace Go.Proofs.Ythnifgcoikmihaa
open Go.RowKit

theorem wired_bad (t : TabS) (p : Int) (i : ImgS) (k : Nat) (hk : k < 4) (hR : rightB t = true) (hp : hasB t p = true)
    (h : (bitB i.sends.toNat k = true ∧ (t.chans[k]?.map fun c => c.src == p).getD false = false) ∨ (bitB i.recvs.toNat k = true ∧ (t.chans[k]?.map fun c => c.dst == p).getD false = false)) : wiredB t p i = false := by
  rw [← chansB_bit ChanS.src t p k hR hp, ← chansB_bit ChanS.dst t p k hR hp] at h
  unfold wiredB subB
  have h4 : k = 0 ∨ k = 1 ∨ k = 2 ∨ k = 3 := by omega
  rcases h4 with rfl | rfl | rfl | rfl <;> rcases h with ⟨h1, h2⟩ | ⟨h1, h2⟩ <;> simp [h1, h2]
theorem wired_good (t : TabS) (p : Int) (i : ImgS) (hR : rightB t = true) (hp : hasB t p = true)
    (h : ∀ k, k < 4 → (bitB i.sends.toNat k = true → (t.chans[k]?.map fun c => c.src == p).getD false = true) ∧ (bitB i.recvs.toNat k = true → (t.chans[k]?.map fun c => c.dst == p).getD false = true)) : wiredB t p i = true := by
  have key : ∀ (k : Nat), k < 4 → (!bitB i.sends.toNat k || bitB (chansB ChanS.src t p) k) = true ∧ (!bitB i.recvs.toNat k || bitB (chansB ChanS.dst t p) k) = true := by
    intro k hk
    rw [chansB_bit ChanS.src t p k hR hp, chansB_bit ChanS.dst t p k hR hp]
    obtain ⟨h1, h2⟩ := h k hk
    constructor
    · cases hb : bitB i.sends.toNat k
      · rfl
      · rw [h1 hb]; rfl
    · cases hb : bitB i.recvs.toNat k
      · rfl
      · rw [h2 hb]; rfl
  unfold wiredB subB
  rw [(key 0 (by omega)).1, (key 1 (by omega)).1, (key 2 (by omega)).1, (key 3 (by omega)).1, (key 0 (by omega)).2, (key 1 (by omega)).2, (key 2 (by omega)).2, (key 3 (by omega)).2]
  rfl
set_option maxRecDepth 100000 in
set_option maxHeartbeats 8000000 in
theorem refCheck_any (t : TabS) (a : TabA) (p : Int) (i : ImgS) (A : Option Addr) (c : Nat) (v : Int) (w : World) (h : TabOk w t a) (hl : i.code.length ≤ 9223372036854775807) :
    Calls Try.prog 34 #[tabV t a, .int .i64 p, imgV i A c, .int .i64 v] w fun e w' => e = .returned (.int .i64 (checkE t p i v)) ∧ Below w.heap.size w w' := by
  obtain ⟨w1, hw1, hb1, hT, hI⟩ := two_box t a i A c w
  have HE : Hid (checkE t p i v = if rightB t = false then 9 else if hasB t p = false ∨ rightI i = false then 3 else if mineB t (partQ t p) p i = false then 12
  else if smallB (partQ t p) i = false then 14 else if wiredB t p i = false then 15 else if decide (v < i.ver) = false then 13 else 0) := hid rfl
  have HOK := hid (fun w' (hb : Below w.heap.size w w') => h.belowS hb)
  have hn1 := h.n1
  have hn3 := h.n3
  have HC4 := hid (fun hR => ((rightB_iff t).1 hR).c4)
  have HBAD := hid (fun k hk hR hp hh => wired_bad t p i k hk hR hp hh)
  have HGOOD := hid (fun hR hp hh => wired_good t p i hR hp hh)
  have HHP := hid (hasB_eq t p)
  have HQ := hid (partQ_at t)
  have HRI := hid (fun hi => (rightI_iff i).1 hi)
  have j1 := hid (refRight_any t a w1 (h.belowS hb1))
  have j3 := hid (fun w => refRightI_any i A c w hl)
  have em : mineB t (partQ t p) p i = ((i.part == p) && (i.hard == (partQ t p).hard)) := rfl
  have es : smallB (partQ t p) i = (decide (i.mem ≤ (partQ t p).mem) && decide (i.fuel ≤ (partQ t p).fuel)) := rfl
  rw [em, es] at HE
  clear h em es
  obtain ⟨A1, q1, A2, q2, A3, q3⟩ := a
  obtain ⟨i0, i1, i2, i3, i4, i5, i6, code⟩ := i
  simp only [tabV, imgV, RightI] at hw1 j1 j3 hl HE HRI HBAD HGOOD ⊢
  generalize checkE t p ⟨i0, i1, i2, i3, i4, i5, i6, code⟩ v = R at *
  generalize rightI ⟨i0, i1, i2, i3, i4, i5, i6, code⟩ = r3 at *
  generalize wiredB t p ⟨i0, i1, i2, i3, i4, i5, i6, code⟩ = b3 at *
  generalize rightB t = r1 at *
  generalize hasB t p = r2 at *
  simp only [tabC] at hT
  simp only [imgC] at hI
  generalize code.length = n at *
  have TC := hid (fun w' (b : Blk w' w.heap.size 55 [.int .i64 t.frame, .slice A1 t.parts.length q1, .slice A2 t.wins.length q2, .slice A3 t.chans.length q3, .int .i64 t.trial]) => (⟨b.cellAt (i := 0) rfl, b.cellAt (i := 1) rfl, b.cellAt (i := 2) rfl, b.cellAt (i := 3) rfl, b.cellAt (i := 4) rfl⟩ : _ ∧ _ ∧ _ ∧ _ ∧ _))
  have IC := hid (fun w' (b : Blk w' (w.heap.size + 1) 63 [.int .i64 i0, .int .i64 i1, .int .i64 i2, .int .i64 i3, .int .i64 i4, .int .i64 i5, .int .i64 i6, .slice A n c]) => (⟨b.cellAt (i := 0) rfl, b.cellAt (i := 1) rfl, b.cellAt (i := 2) rfl, b.cellAt (i := 3) rfl, b.cellAt (i := 4) rfl, b.cellAt (i := 5) rfl, b.cellAt (i := 6) rfl, b.cellAt (i := 7) rfl⟩ : _ ∧ _ ∧ _ ∧ _ ∧ _ ∧ _ ∧ _ ∧ _))
  obtain ⟨c0, c1, c2, c3, c4⟩ := TC.out _ hT
  go_enter Try.func34, Try.ntmps34
  go_wp2_with fail
  clear hw1
  refine j1.out.mono ?_
  rintro e w2 ⟨rfl, hb2⟩
  have hT2 := hT.belowS hb2
  have hI2 := hI.belowS hb2
  have hb02 := bel_trans hb1 hb2
  clear c0 c1 c2 c3 c4 hT hI hb1 hb2 j1
  cases r1 with
  | false =>
    have hR : R = 9 := by rw [HE.out]; rfl
    subst hR
    clear hT2 hI2
    go_wp2_with fail
    go_ret
    exact ⟨rfl, hb02⟩
  | true =>
    have hc4 := HC4.out (by first | trivial | rfl)
    clear HC4
    obtain ⟨c0, c1, c2, c3, c4⟩ := TC.out _ hT2
    obtain ⟨d0, d1, d2, d3, d4, d5, d6, d7⟩ := IC.out _ hI2
    by_cases h0 : p < 0
    · have y0 : decide (p < 0) = true := decide_eq_true h0
      have hr2 : r2 = false := by rw [HHP.out, Bool.and_eq_false_iff, decide_eq_false_iff_not]; left; omega
      subst hr2
      have hR : R = 3 := by rw [HE.out]; rfl
      subst hR
      clear hT2 hI2 h0
      go_wp2_with fail
      go_ret
      exact ⟨rfl, hb02⟩
    · have y0 : decide (p < 0) = false := decide_eq_false h0
      obtain ⟨pk, rfl⟩ : ∃ k : Nat, p = (k : Int) := ⟨p.toNat, by omega⟩
      by_cases h1 : t.parts.length ≤ pk
      · have y1 : decide ((t.parts.length : Int) ≤ (pk : Int)) = true := by simp; omega
        have y2 : decide (t.parts.length ≤ pk) = true := by simp; omega
        have hr2 : r2 = false := by rw [HHP.out, Bool.and_eq_false_iff, decide_eq_false_iff_not, decide_eq_false_iff_not]; right; omega
        subst hr2
        have hR : R = 3 := by rw [HE.out]; rfl
        subst hR
        clear hT2 hI2 h0
        go_wp2_with fail
        go_ret
        exact ⟨rfl, hb02⟩
      · have y1 : decide ((t.parts.length : Int) ≤ (pk : Int)) = false := by simp; omega
        have y2 : decide (t.parts.length ≤ pk) = false := by simp; omega
        have hr2 : r2 = true := by rw [HHP.out, Bool.and_eq_true, decide_eq_true_eq, decide_eq_true_eq]; omega
        subst hr2
        go_wp2_with fail
        refine (j3.out _).mono ?_
        rintro e w3 ⟨rfl, hb3⟩
        have hT3 := hT2.belowS hb3
        have hI3 := hI2.belowS hb3
        have hb03 := bel_trans hb02 hb3
        clear c0 c1 c2 c3 c4 d0 d1 d2 d3 d4 d5 d6 d7 hT2 hI2 hb02 hb3 j3
        cases r3 with
        | false =>
          have hR : R = 3 := by rw [HE.out]; rfl
          subst hR
          clear hT3 hI3
          go_wp2_with fail
          go_ret
          exact ⟨rfl, hb03⟩
        | true =>
          obtain ⟨_, _, _, _, _, hs, hr, _⟩ := HRI.out (by first | trivial | rfl)
          have hpk : pk < t.parts.length := by omega
          obtain ⟨ad, x, hA, had, hx, hx0, hxc⟩ := ((HOK.out _ hb03).inn.1).at_ hpk
          simp only at hA
          subst hA
          have eq := HQ.out pk x hx
          rw [eq] at HE
          have p0 := hx0 _ rfl
          have p1 := hxc 0 _ rfl
          have p2 := hxc 1 _ rfl
          clear hx0 hxc hx eq HQ HRI HHP
          obtain ⟨x0, x1, x2⟩ := x
          simp only at HE p0 p1 p2
          obtain ⟨c0, c1, c2, c3, c4⟩ := TC.out _ hT3
          obtain ⟨d0, d1, d2, d3, d4, d5, d6, d7⟩ := IC.out _ hI3
          have z0 : (0 : Int) ≤ (pk : Int) := Int.natCast_nonneg _
          have z1 : (pk : Int) < (t.parts.length : Int) := by omega
          clear y0 y1 y2 h0 h1
          by_cases g1 : i0 = (pk : Int)
          · by_cases g2 : i2 = x2
            · have y0 : (i0 != (pk : Int)) = false := by simpa using g1
              have y1 : (i2 != x2) = false := by simpa using g2
              have v0 : (i0 == (pk : Int)) = true := by simpa using g1
              have v1 : (i2 == x2) = true := by simpa using g2
              rw [v0, v1] at HE
              clear g1 g2 v0 v1
              go_wp2_with fail
              go_quiet (fail)
              go_wp2_with fail
              obtain ⟨w4, hwq, hT4, hI4, hb04, r0, r1, r2⟩ : ∃ W, w3.drewN nq = W ∧ Blk W w.heap.size 55 [.int .i64 t.frame, .slice (some ad) t.parts.length q1, .slice A2 t.wins.length q2, .slice A3 t.chans.length q3, .int .i64 t.trial] ∧ Blk W (w.heap.size + 1) 63 [.int .i64 i0, .int .i64 i1, .int .i64 i2, .int .i64 i3, .int .i64 i4, .int .i64 i5, .int .i64 i6, .slice A n c] ∧ Below w.heap.size w W ∧ W.cell? (ad.add (pk * 3)) = some (.int .i64 x0) ∧ W.cell? ⟨(ad.add (pk * 3)).block, (ad.add (pk * 3)).off + 1, none⟩ = some (.int .i64 x1) ∧ W.cell? ⟨(ad.add (pk * 3)).block, (ad.add (pk * 3)).off + 2, none⟩ = some (.int .i64 x2) :=
                ⟨_, rfl, hT3.drewN nq, hI3.drewN nq, below_drewN hb03 nq, p0, p1, p2⟩
              rw [hwq]
              clear hwq c0 c1 c2 c3 c4 d0 d1 d2 d3 d4 d5 d6 d7 p0 p1 p2 hT3 hI3 hb03
              obtain ⟨c0, c1, c2, c3, c4⟩ := TC.out _ hT4
              obtain ⟨d0, d1, d2, d3, d4, d5, d6, d7⟩ := IC.out _ hI4
              have p0 := r0
              have p1 := r1
              have p2 := r2
              clear r0 r1 r2
              have HE2 : Hid (R = if (decide (i3 ≤ x0) && decide (i4 ≤ x1)) = false then 14 else if b3 = false then 15 else if decide (v < i1) = false then 13 else 0) := hid (by rw [HE.out]; simp)
              clear HE y0 y1
              by_cases g3 : x0 < i3
              · have y0 : decide (x0 < i3) = true := decide_eq_true g3
                have HR : R = 14 := by
                  rw [HE2.out, decide_eq_false (show ¬ i3 ≤ x0 by omega)]
                  rfl
                subst HR
                go_quiet (fail)
                go_wp2_with fail
                go_ret
                exact ⟨rfl, below_drewN hb04 _⟩
              · have y0 : decide (x0 < i3) = false := decide_eq_false g3
                by_cases g4 : x1 < i4
                · have y1 : decide (x1 < i4) = true := decide_eq_true g4
                  have HR : R = 14 := by
                    rw [HE2.out, decide_eq_false (show ¬ i4 ≤ x1 by omega), Bool.and_false]
                    rfl
                  subst HR
                  go_quiet (fail)
                  go_wp2_with fail
                  go_ret
                  exact ⟨rfl, below_drewN hb04 _⟩
                · have y1 : decide (x1 < i4) = false := decide_eq_false g4
                  have HR : Hid (R = if b3 = false then 15 else if decide (v < i1) = false then 13 else 0) := hid (by
                    rw [HE2.out, decide_eq_true (show i3 ≤ x0 by omega), decide_eq_true (show i4 ≤ x1 by omega)]
                    simp)
                  clear HE2 g3 g4
                  go_quiet (fail)
                  go_wp2_with fail
                  obtain ⟨w5, hwq, hT5, hI5, hb05, r0, r1, r2⟩ : ∃ W, w4.drewN nq = W ∧ Blk W w.heap.size 55 [.int .i64 t.frame, .slice (some ad) t.parts.length q1, .slice A2 t.wins.length q2, .slice A3 t.chans.length q3, .int .i64 t.trial] ∧ Blk W (w.heap.size + 1) 63 [.int .i64 i0, .int .i64 i1, .int .i64 i2, .int .i64 i3, .int .i64 i4, .int .i64 i5, .int .i64 i6, .slice A n c] ∧ Below w.heap.size w W ∧ W.cell? (ad.add (pk * 3)) = some (.int .i64 x0) ∧ W.cell? ⟨(ad.add (pk * 3)).block, (ad.add (pk * 3)).off + 1, none⟩ = some (.int .i64 x1) ∧ W.cell? ⟨(ad.add (pk * 3)).block, (ad.add (pk * 3)).off + 2, none⟩ = some (.int .i64 x2) :=
                    ⟨_, rfl, hT4.drewN nq, hI4.drewN nq, below_drewN hb04 nq, p0, p1, p2⟩
                  rw [hwq]
                  clear hwq c0 c1 c2 c3 c4 d0 d1 d2 d3 d4 d5 d6 d7 p0 p1 p2 hT4 hI4 hb04
                  obtain ⟨c0, c1, c2, c3, c4⟩ := TC.out _ hT5
                  obtain ⟨d0, d1, d2, d3, d4, d5, d6, d7⟩ := IC.out _ hI5
                  clear r0 r1 r2
                  have hb05' := hid hb05
                  have HTT := hid hT5
                  have HII := hid hI5
                  have HOK5 := hid ((HOK.out _ hb05).inn.2.2)
                  simp only at HOK5
                  clear hT5 hI5 hb05 HOK y0 y1
                  go_loop [9] (fun v9 => ∃ k : Nat, k ≤ 4 ∧ v9 = .int .i64 (k : Int) ∧ Hid (∀ j, j < k → (bitB i5.toNat j = true → (t.chans[j]?.map fun c => c.src == (pk : Int)).getD false = true) ∧ (bitB i6.toNat j = true → (t.chans[j]?.map fun c => c.dst == (pk : Int)).getD false = true))) (fun v9 => 4 - (intOf v9).toNat)
                  case atStart => exact ⟨0, by omega, rfl, hid (fun j hj => absurd hj (by omega))⟩
                  case round =>
                    obtain ⟨k, hk, rfl, HK⟩ := hrel
                    by_cases hk4 : k < 4
                    · have HBk := hid (HBAD.out k hk4 (by first | trivial | rfl) (by first | trivial | rfl))
                      have HNx := hid (fun (hh : (bitB i5.toNat k = true → (t.chans[k]?.map fun c => c.src == (pk : Int)).getD false = true) ∧ (bitB i6.toNat k = true → (t.chans[k]?.map fun c => c.dst == (pk : Int)).getD false = true)) j (hj : j < k + 1) => (by
                        rcases Nat.lt_or_ge j k with h' | h'
                        · exact HK.out j h'
                        · obtain rfl : j = k := by omega
                          exact hh : (bitB i5.toNat j = true → (t.chans[j]?.map fun c => c.src == (pk : Int)).getD false = true) ∧ (bitB i6.toNat j = true → (t.chans[j]?.map fun c => c.dst == (pk : Int)).getD false = true)))
                      obtain ⟨m5, rfl⟩ : ∃ m : Nat, i5 = (m : Int) := ⟨i5.toNat, by omega⟩
                      obtain ⟨m6, rfl⟩ : ∃ m : Nat, i6 = (m : Int) := ⟨i6.toNat, by omega⟩
                      simp only [Int.toNat_natCast] at HBk HNx
                      have u5 := hid (refHas_any m5 k w5 (by omega) (by omega))
                      have u6 := hid (refHas_any m6 k w5 (by omega) (by omega))
                      generalize bitB m5 k = e5 at *
                      generalize bitB m6 k = e6 at *
                      by_cases hkn : k < t.chans.length
                      · obtain ⟨ac, y, hA, _, hy, hy0, hyc⟩ := HOK5.out.at_ hkn
                        subst hA
                        have s0 := hy0 _ rfl
                        have s1 := hyc 0 _ rfl
                        rw [hy] at HBk HNx
                        simp only [Option.map_some, Option.getD_some] at HBk HNx
                        clear hy0 hyc hy
                        obtain ⟨sr, ds, dp⟩ := y
                        simp only at s0 s1 HBk HNx
                        have z2 : decide ((t.chans.length : Int) ≤ (k : Int)) = false := by simp; omega
                        have z3 : decide (t.chans.length ≤ k) = false := by simp; omega
                        have z4 : (0 : Int) ≤ (k : Int) := Int.natCast_nonneg _
                        have z5 : (k : Int) < (t.chans.length : Int) := by omega
                        have hbs : (sr != (pk : Int)) = !(sr == (pk : Int)) := rfl
                        have hbd : (ds != (pk : Int)) = !(ds == (pk : Int)) := rfl
                        generalize (sr == (pk : Int)) = f5 at *
                        generalize (ds == (pk : Int)) = f6 at *
                        cases e5 <;> cases f5 <;> cases e6 <;> cases f6 <;> simp only [Bool.not_true, Bool.not_false] at hbs hbd
                        · have HN := hid (HNx.out (by simp))
                          clear HBk HNx
                          go_wp2_with fail
                          refine u5.out.mono ?_
                          rintro e w6 ⟨rfl, rfl⟩
                          go_wp2_with fail
                          refine u6.out.mono ?_
                          rintro e w7 ⟨rfl, rfl⟩
                          go_wp2_with fail
                          go_round
                          case rel => exact ⟨k + 1, by omega, by go_num, HN⟩
                          case measure => simp [intOf]; omega
                        · have HN := hid (HNx.out (by simp))
                          clear HBk HNx
                          go_wp2_with fail
                          refine u5.out.mono ?_
                          rintro e w6 ⟨rfl, rfl⟩
                          go_wp2_with fail
                          refine u6.out.mono ?_
                          rintro e w7 ⟨rfl, rfl⟩
                          go_wp2_with fail
                          go_round
                          case rel => exact ⟨k + 1, by omega, by go_num, HN⟩
                          case measure => simp [intOf]; omega
                        · have hb3 : b3 = false := HBk.out (by simp)
                          have hR : R = 15 := by rw [HR.out, hb3]; rfl
                          subst hR
                          clear hb3 HBk HNx
                          go_wp2_with fail
                          refine u5.out.mono ?_
                          rintro e w6 ⟨rfl, rfl⟩
                          go_wp2_with fail
                          refine u6.out.mono ?_
                          rintro e w7 ⟨rfl, rfl⟩
                          go_wp2_with fail
                          go_ret
                          exact ⟨rfl, hb05'.out⟩
                        · have HN := hid (HNx.out (by simp))
                          clear HBk HNx
                          go_wp2_with fail
                          refine u5.out.mono ?_
                          rintro e w6 ⟨rfl, rfl⟩
                          go_wp2_with fail
                          refine u6.out.mono ?_
                          rintro e w7 ⟨rfl, rfl⟩
                          go_wp2_with fail
                          go_round
                          case rel => exact ⟨k + 1, by omega, by go_num, HN⟩
                          case measure => simp [intOf]; omega
                        · have HN := hid (HNx.out (by simp))
                          clear HBk HNx
                          go_wp2_with fail
                          refine u5.out.mono ?_
                          rintro e w6 ⟨rfl, rfl⟩
                          go_wp2_with fail
                          refine u6.out.mono ?_
                          rintro e w7 ⟨rfl, rfl⟩
                          go_wp2_with fail
                          go_round
                          case rel => exact ⟨k + 1, by omega, by go_num, HN⟩
                          case measure => simp [intOf]; omega
                        · have HN := hid (HNx.out (by simp))
                          clear HBk HNx
                          go_wp2_with fail
                          refine u5.out.mono ?_
                          rintro e w6 ⟨rfl, rfl⟩
                          go_wp2_with fail
                          refine u6.out.mono ?_
                          rintro e w7 ⟨rfl, rfl⟩
                          go_wp2_with fail
                          go_round
                          case rel => exact ⟨k + 1, by omega, by go_num, HN⟩
                          case measure => simp [intOf]; omega
                        · have hb3 : b3 = false := HBk.out (by simp)
                          have hR : R = 15 := by rw [HR.out, hb3]; rfl
                          subst hR
                          clear hb3 HBk HNx
                          go_wp2_with fail
                          refine u5.out.mono ?_
                          rintro e w6 ⟨rfl, rfl⟩
                          go_wp2_with fail
                          refine u6.out.mono ?_
                          rintro e w7 ⟨rfl, rfl⟩
                          go_wp2_with fail
                          go_ret
                          exact ⟨rfl, hb05'.out⟩
                        · have HN := hid (HNx.out (by simp))
                          clear HBk HNx
                          go_wp2_with fail
                          refine u5.out.mono ?_
                          rintro e w6 ⟨rfl, rfl⟩
                          go_wp2_with fail
                          refine u6.out.mono ?_
                          rintro e w7 ⟨rfl, rfl⟩
                          go_wp2_with fail
                          go_round
                          case rel => exact ⟨k + 1, by omega, by go_num, HN⟩
                          case measure => simp [intOf]; omega
                        · have hb3 : b3 = false := HBk.out (by simp)
                          have hR : R = 15 := by rw [HR.out, hb3]; rfl
                          subst hR
                          clear hb3 HBk HNx
                          go_wp2_with fail
                          refine u5.out.mono ?_
                          rintro e w6 ⟨rfl, rfl⟩
                          go_wp2_with fail
                          go_ret
                          exact ⟨rfl, hb05'.out⟩
                        · have hb3 : b3 = false := HBk.out (by simp)
                          have hR : R = 15 := by rw [HR.out, hb3]; rfl
                          subst hR
                          clear hb3 HBk HNx
                          go_wp2_with fail
                          refine u5.out.mono ?_
                          rintro e w6 ⟨rfl, rfl⟩
                          go_wp2_with fail
                          go_ret
                          exact ⟨rfl, hb05'.out⟩
                        · have hb3 : b3 = false := HBk.out (by simp)
                          have hR : R = 15 := by rw [HR.out, hb3]; rfl
                          subst hR
                          clear hb3 HBk HNx
                          go_wp2_with fail
                          refine u5.out.mono ?_
                          rintro e w6 ⟨rfl, rfl⟩
                          go_wp2_with fail
                          go_ret
                          exact ⟨rfl, hb05'.out⟩
                        · have hb3 : b3 = false := HBk.out (by simp)
                          have hR : R = 15 := by rw [HR.out, hb3]; rfl
                          subst hR
                          clear hb3 HBk HNx
                          go_wp2_with fail
                          refine u5.out.mono ?_
                          rintro e w6 ⟨rfl, rfl⟩
                          go_wp2_with fail
                          go_ret
                          exact ⟨rfl, hb05'.out⟩
                        · have HN := hid (HNx.out (by simp))
                          clear HBk HNx
                          go_wp2_with fail
                          refine u5.out.mono ?_
                          rintro e w6 ⟨rfl, rfl⟩
                          go_wp2_with fail
                          refine u6.out.mono ?_
                          rintro e w7 ⟨rfl, rfl⟩
                          go_wp2_with fail
                          go_round
                          case rel => exact ⟨k + 1, by omega, by go_num, HN⟩
                          case measure => simp [intOf]; omega
                        · have HN := hid (HNx.out (by simp))
                          clear HBk HNx
                          go_wp2_with fail
                          refine u5.out.mono ?_
                          rintro e w6 ⟨rfl, rfl⟩
                          go_wp2_with fail
                          refine u6.out.mono ?_
                          rintro e w7 ⟨rfl, rfl⟩
                          go_wp2_with fail
                          go_round
                          case rel => exact ⟨k + 1, by omega, by go_num, HN⟩
                          case measure => simp [intOf]; omega
                        · have hb3 : b3 = false := HBk.out (by simp)
                          have hR : R = 15 := by rw [HR.out, hb3]; rfl
                          subst hR
                          clear hb3 HBk HNx
                          go_wp2_with fail
                          refine u5.out.mono ?_
                          rintro e w6 ⟨rfl, rfl⟩
                          go_wp2_with fail
                          refine u6.out.mono ?_
                          rintro e w7 ⟨rfl, rfl⟩
                          go_wp2_with fail
                          go_ret
                          exact ⟨rfl, hb05'.out⟩
                        · have HN := hid (HNx.out (by simp))
                          clear HBk HNx
                          go_wp2_with fail
                          refine u5.out.mono ?_
                          rintro e w6 ⟨rfl, rfl⟩
                          go_wp2_with fail
                          refine u6.out.mono ?_
                          rintro e w7 ⟨rfl, rfl⟩
                          go_wp2_with fail
                          go_round
                          case rel => exact ⟨k + 1, by omega, by go_num, HN⟩
                          case measure => simp [intOf]; omega
                      · rw [List.getElem?_eq_none (by omega)] at HBk HNx
                        simp only [Option.map_none, Option.getD_none] at HBk HNx
                        have z2 : decide ((t.chans.length : Int) ≤ (k : Int)) = true := by simp; omega
                        have z3 : decide (t.chans.length ≤ k) = true := by simp; omega
                        cases e5 <;> cases e6
                        · have HN := hid (HNx.out (by simp))
                          clear HBk HNx
                          go_wp2_with fail
                          refine u5.out.mono ?_
                          rintro e w6 ⟨rfl, rfl⟩
                          go_wp2_with fail
                          refine u6.out.mono ?_
                          rintro e w7 ⟨rfl, rfl⟩
                          go_wp2_with fail
                          go_round
                          case rel => exact ⟨k + 1, by omega, by go_num, HN⟩
                          case measure => simp [intOf]; omega
                        · have hb3 : b3 = false := HBk.out (by simp)
                          have hR : R = 15 := by rw [HR.out, hb3]; rfl
                          subst hR
                          clear hb3 HBk HNx
                          go_wp2_with fail
                          refine u5.out.mono ?_
                          rintro e w6 ⟨rfl, rfl⟩
                          go_wp2_with fail
                          refine u6.out.mono ?_
                          rintro e w7 ⟨rfl, rfl⟩
                          go_wp2_with fail
                          go_ret
                          exact ⟨rfl, hb05'.out⟩
                        · have hb3 : b3 = false := HBk.out (by simp)
                          have hR : R = 15 := by rw [HR.out, hb3]; rfl
                          subst hR
                          clear hb3 HBk HNx
                          go_wp2_with fail
                          refine u5.out.mono ?_
                          rintro e w6 ⟨rfl, rfl⟩
                          go_wp2_with fail
                          go_ret
                          exact ⟨rfl, hb05'.out⟩
                        · have hb3 : b3 = false := HBk.out (by simp)
                          have hR : R = 15 := by rw [HR.out, hb3]; rfl
                          subst hR
                          clear hb3 HBk HNx
                          go_wp2_with fail
                          refine u5.out.mono ?_
                          rintro e w6 ⟨rfl, rfl⟩
                          go_wp2_with fail
                          go_ret
                          exact ⟨rfl, hb05'.out⟩
                    · obtain rfl : k = 4 := by omega
                      have hb3 : b3 = true := HGOOD.out (by first | trivial | rfl) (by first | trivial | rfl) HK.out
                      have HR3 : Hid (R = if decide (v < i1) = false then 13 else 0) := hid (by rw [HR.out, hb3]; rfl)
                      clear HR hb3 HGOOD HBAD HK
                      by_cases hv : i1 ≤ v
                      · have y0 : decide (i1 ≤ v) = true := decide_eq_true hv
                        have hR : R = 13 := by rw [HR3.out, decide_eq_false (show ¬ v < i1 by omega)]; rfl
                        subst hR
                        clear hv
                        go_wp2_with fail
                        go_ret
                        exact ⟨rfl, hb05'.out⟩
                      · have y0 : decide (i1 ≤ v) = false := decide_eq_false hv
                        have hR : R = 0 := by rw [HR3.out, decide_eq_true (show v < i1 by omega)]; rfl
                        subst hR
                        clear hv
                        go_wp2_with fail
                        go_ret
                        exact ⟨rfl, hb05'.out⟩
            · have y0 : (i0 != (pk : Int)) = false := by simpa using g1
              have y1 : (i2 != x2) = true := by simpa using g2
              have HR : R = 12 := by
                rw [HE.out]
                have : (i2 == x2) = false := by simpa using g2
                rw [this]
                simp
              subst HR
              go_wp2_with fail
              go_quiet (fail)
              go_wp2_with fail
              go_ret
              exact ⟨rfl, below_drewN hb03 _⟩
          · have y0 : (i0 != (pk : Int)) = true := by simpa using g1
            have HR : R = 12 := by
              rw [HE.out]
              have : (i0 == (pk : Int)) = false := by simpa using g1
              rw [this]
              simp
            subst HR
            go_wp2_with fail
            go_quiet (fail)
            go_wp2_with fail
            go_ret
            exact ⟨rfl, below_drewN hb03 _⟩
end Go.Proofs.Ythnifgcoikmihaa
