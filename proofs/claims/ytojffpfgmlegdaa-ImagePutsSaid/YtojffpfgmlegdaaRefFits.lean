/-
  The reference's roots: does a power fit; the root sought by halves.
-/
import Derived.Test.YtojffpfgmlegdaaRefTimes
namespace Go.Proofs.Ytojffpfgmlegdaa
open Go.RowKit

theorem wrH {x : Int} {n : Nat} (h : x = (n : Int)) (hn : n < 9223372036854775808) : Hid (wrap64 x = (n : Int)) := hid (wrT h hn).2
theorem up_wr {n x : Nat} (hn : n ≤ 1000) (hx : x < 65536) : ∃ s t : Nat, 65536 * n = s ∧ s + x = t ∧ Hid (65536 * (n : Int) = (s : Int)) ∧ Hid (wrap64 ((s : Int) + (x : Int)) = (t : Int)) :=
  ⟨65536 * n, 65536 * n + x, rfl, rfl, hid (by simp), wrH (by simp) (by omega)⟩
set_option maxRecDepth 100000 in
set_option maxHeartbeats 4000000 in
theorem refFits_any (m p d : Nat) (w : World) (hm : m < 34359738368) (hp : p ≤ 1000) (hd1 : 1 ≤ d) (hd2 : d ≤ 3) :
    Calls Try.prog 45 #[.int .i64 (m : Int), .int .i64 (p : Int), .int .i64 (d : Int)] w fun e w' => e = .returned (.bool (fitsB m p d)) ∧ Below w.heap.size w w' := by
  obtain ⟨w1, hw1, hR1, hb1⟩ : ∃ W : World, w.alloc (.cells #[.int .i64 1] 3) = W ∧ Hid (Reads W W.heap.size 1 (some ⟨w.heap.size, 0, none⟩) 1 ([1].map nV)) ∧ Below w.heap.size w W := ⟨_, rfl, hid (Reads.lit (n := 1) (size := 1) (heap_alloc_new w (.cells #[.int .i64 1] 3)) rfl), (Below.refl _ _).alloc (Nat.le_refl _) _⟩
  obtain ⟨D, hD⟩ : ∃ D, 2 * d = D := ⟨_, rfl⟩
  have hDw : Hid (2 * (d : Int) = (D : Int)) := hid (by rw [← hD]; simp)
  have HDD := hid hD
  have HB1 := hid hb1
  clear hb1 hD
  go_enter Try.func45, Try.ntmps45
  go_wp2_with fail
  clear hw1
  go_loopw [8, 7] (fun v8 v7 wr => ∃ (i : Nat) (A : Option Addr) (c : Nat) (xs : List Nat), i ≤ d ∧ v8 = .int .i64 (i : Int) ∧ v7 = .slice A (1 + 4 * i) c ∧ Hid (Reads wr wr.heap.size 1 A (1 + 4 * i) (xs.map nV)) ∧ Hid (∀ x ∈ xs, x < 65536) ∧ Hid (valL xs = m ^ i) ∧ Below w.heap.size w wr) (fun v8 _ _ => d - (intOf v8).toNat)
  case atStart => exact ⟨0, _, _, [1], by omega, rfl, rfl, hR1, hid (by simp), hid (by simp [valL]), HB1.out⟩
  case round =>
    obtain ⟨i, A, c, xs, hi, rfl, rfl, HR, HX, HV, hbel⟩ := hrel
    have HBE := hid hbel
    clear hbel hR1
    by_cases hid9 : i < d
    · have y0 : decide ((i : Int) < (d : Int)) = true := decide_eq_true (by omega)
      have y0' : decide (i < d) = true := decide_eq_true hid9
      have i1 := hid (refTimes_any A (1 + 4 * i) c m xs wr HR.out HX.out (by omega) hm)
      obtain ⟨K, hK⟩ : ∃ K, 1 + 4 * i = K := ⟨_, rfl⟩
      have HK := hid hK
      rw [hK] at i1 ⊢
      clear hK
      go_wp2_with fail
      refine i1.out.mono ?_
      rintro e w2 ⟨A', c', ys, rfl, hown, hdig, hval, hb2⟩
      have HR2 := hid (Reads.of_own hown)
      have HX2 := hid hdig
      have HV2 : Hid (valL ys = m ^ (i + 1)) := hid (by rw [hval, HV.out, Nat.pow_succ])
      have HB2 := hid (bel_trans HBE.out hb2)
      have hK2 : K + 4 = 1 + 4 * (i + 1) := by have := HK.out; omega
      rw [hK2] at HR2 ⊢
      clear hown hdig hval hb2 hK2 i1
      go_wp2_with fail
      go_roundw
      case rel => exact ⟨i + 1, A', c', ys, by omega, by go_num, rfl, HR2, HX2, HV2, HB2.out⟩
      case measure => simp [intOf]; omega
    · have hi9 : i = d := by omega
      have y0 : decide ((i : Int) < (d : Int)) = false := decide_eq_false (by omega)
      have y0' : decide (i < d) = false := decide_eq_false hid9
      obtain ⟨N, hN⟩ : ∃ N, 1 + 4 * i = N := ⟨_, rfl⟩
      rw [hN] at HR ⊢
      have HVD : Hid (valL xs = m ^ d) := hid (by rw [HV.out, hi9])
      have hxl : xs.length = N := by simpa using HR.out.len
      have hND : D < N := by have := HDD.out; omega
      have hNb : N ≤ 13 := by omega
      have hNm : Hid (wrap64 ((N : Int) - 1) = (N : Int) - 1) := hid (by have := (wrT (x := (N : Int) - 1) (n := N - 1) (by omega) (by omega)).2; rw [this]; omega)
      have HHX : Hid (2 * d = D ∧ xs.length = N) := hid ⟨HDD.out, hxl⟩
      obtain ⟨wo, rfl⟩ : ∃ wo : World, wo = wr := ⟨_, rfl⟩
      clear hi9 hN HV hxl
      have hNm2 := hNm.out
      go_wp2_with fail
      clear hNm2
      go_loopw [10, 9] (fun v10 v9 wr => ∃ (q n : Nat), D ≤ q ∧ q ≤ N ∧ v10 = .int .i64 ((q : Int) - 1) ∧ v9 = .int .i64 (n : Int) ∧ Hid (n = valL (xs.drop q)) ∧ n ≤ p ∧ Below wo.heap.size wo wr) (fun v10 _ _ => (intOf v10 + 1).toNat)
      case atStart => exact ⟨N, 0, by omega, by omega, rfl, rfl, hid (by rw [List.drop_of_length_le (by have := HHX.out.2; omega)]; rfl), by omega, Below.refl _ _⟩
      case round =>
        obtain ⟨q, n, hq1, hq2, rfl, rfl, HN, hnp, hbw⟩ := hrel
        have HRw := hid (HR.out.belowS hbw)
        have HBw := hid (bel_trans HBE.out hbw)
        have HBo := hid hbw
        clear hbw
        by_cases hqD : D < q
        · obtain ⟨j, rfl⟩ : ∃ j, q = j + 1 := ⟨q - 1, by omega⟩
          have hj0 : ((j + 1 : Nat) : Int) - 1 = (j : Int) := by omega
          rw [hj0]
          obtain ⟨ad, x, hA, had, hx, hcx⟩ := HRw.out.atM (show j < N by omega)
          subst hA
          have hx6 := HX.out x (List.mem_of_getElem? hx)
          obtain ⟨s, t, hs, ht, hs2, ht2⟩ := up_wr (n := n) (x := x) (by omega) hx6
          have HT : Hid (t = valL (xs.drop j)) := hid (by rw [valL_drop_succ xs j x hx, ← ht, ← hs, HN.out]; omega)
          have u0 : decide ((D : Int) ≤ (j : Int)) = true := decide_eq_true (by omega)
          have u0' : decide (D ≤ j) = true := decide_eq_true (by omega)
          have z0 : (0 : Int) ≤ (j : Int) := Int.natCast_nonneg _
          have z1 : (j : Int) < (N : Int) := by omega
          have hjN : j < N := by omega
          clear hs ht hj0 hx6
          by_cases htp : p < t
          · have u1 : decide ((p : Int) < (t : Int)) = true := decide_eq_true (by omega)
            have u1' : decide (p < t) = true := decide_eq_true htp
            have HF := hid (fits_no xs m p d j HVD.out (by rw [HHX.out.1]; omega) (by rw [HHX.out.2]; omega) (by rw [← HT.out]; exact htp))
            have e1 := hDw.out
            have e2 := hs2.out
            have e3 := ht2.out
            clear htp
            go_wp2_with fail
            go_ret
            exact ⟨by rw [HF.out]; rfl, HBw.out⟩
          · have u1 : decide ((p : Int) < (t : Int)) = false := decide_eq_false (by omega)
            have u1' : decide (p < t) = false := decide_eq_false htp
            have htp2 : t ≤ p := by omega
            have e1 := hDw.out
            have e2 := hs2.out
            have e3 := ht2.out
            clear htp
            go_wp2_with fail
            clear e1 e2 e3
            go_roundw
            case rel => exact ⟨j, t, by omega, by omega, by go_num, by first | rfl | rw [ht2.out], HT, htp2, HBo.out⟩
            case measure => first | (simp [intOf]; done) | (simp [intOf]; omega)
        · have hq9 : q = D := by omega
          subst hq9
          have u0 : decide ((q : Int) ≤ (q : Int) - 1) = false := decide_eq_false (by omega)
          have HE := hid (fits_end xs m p d HVD.out (by rw [HHX.out.1, HHX.out.2]; omega) HX.out)
          have HN2 : Hid (n = valL (xs.drop (2 * d))) := hid (by rw [HHX.out.1]; exact HN.out)
          by_cases hnl : n < p
          · have u1 : decide ((n : Int) < (p : Int)) = true := decide_eq_true (by omega)
            have u1' : decide (n < p) = true := decide_eq_true hnl
            have HF := hid (HE.out.1 (by rw [← HN2.out]; exact hnl))
            have e1 := hDw.out
            clear hnl
            go_wp2_with fail
            go_ret
            exact ⟨by rw [HF.out]; rfl, HBw.out⟩
          · have u1 : decide ((n : Int) < (p : Int)) = false := decide_eq_false (by omega)
            have u1' : decide (n < p) = false := decide_eq_false hnl
            have HF := hid (HE.out.2 (by rw [← HN2.out]; omega))
            have e1 := hDw.out
            clear hnl
            go_wp2_with fail
            clear e1
            go_loopw [11] (fun v11 wr => ∃ k : Nat, k ≤ q ∧ v11 = .int .i64 (k : Int) ∧ Hid (∀ j, j < k → xs[j]? = some 0) ∧ Below wo.heap.size wo wr) (fun v11 _ => q - (intOf v11).toNat)
            case atStart => exact ⟨0, by omega, rfl, hid (fun j h => by omega), HBo.out⟩
            case round =>
              obtain ⟨k, hk, rfl, HZ, hbw⟩ := hrel
              have HRx := hid (HR.out.belowS hbw)
              have HBx := hid (bel_trans HBE.out hbw)
              have HBy := hid hbw
              clear hbw
              by_cases hkq : k < q
              · have t0 : decide ((k : Int) < (q : Int)) = true := decide_eq_true (by omega)
                have t0' : decide (k < q) = true := decide_eq_true hkq
                have hkN : k < N := by omega
                have t1 : decide ((k : Int) < (N : Int)) = true := decide_eq_true (by omega)
                have t1' : decide (k < N) = true := decide_eq_true hkN
                have z0 : (0 : Int) ≤ (k : Int) := Int.natCast_nonneg _
                have z1 : (k : Int) < (N : Int) := by omega
                obtain ⟨ad, x, hA, had, hx, hcx⟩ := HRx.out.atM hkN
                subst hA
                by_cases hx0 : 0 < x
                · have t2 : decide ((0 : Int) < (x : Int)) = true := decide_eq_true (by omega)
                  have t2' : decide (0 < x) = true := decide_eq_true hx0
                  have HNO : Hid (fitsB m p d = false) := hid (by
                    cases hf : fitsB m p d with
                    | false => rfl
                    | true =>
                      have h9 := HF.out.1 hf
                      exact absurd h9 (fits_pos xs k x (2 * d) (by rw [HHX.out.1, HHX.out.2]; omega) (by rw [HHX.out.1]; exact hkq) hx hx0))
                  have e1 := hDw.out
                  clear hx0 hx
                  go_wp2_with fail
                  go_ret
                  exact ⟨by rw [HNO.out]; rfl, HBx.out⟩
                · have hx9 : x = 0 := by omega
                  subst hx9
                  have HZ2 : Hid (∀ j, j < k + 1 → xs[j]? = some 0) := hid (fun j h => by
                    rcases Nat.lt_or_ge j k with h1 | h1
                    · exact HZ.out j h1
                    · have h2 : j = k := by omega
                      rw [h2]; exact hx)
                  have e1 := hDw.out
                  clear hx0 hx
                  go_wp2_with fail
                  clear e1
                  go_roundw
                  case rel => exact ⟨k + 1, by omega, by go_num, HZ2, HBy.out⟩
                  case measure => simp [intOf]; omega
              · have hk9 : k = q := by omega
                have t0 : decide ((k : Int) < (q : Int)) = false := decide_eq_false (by omega)
                have t0' : decide (k < q) = false := decide_eq_false hkq
                have HYES : Hid (fitsB m p d = true) := hid (HF.out.2 (valL_take_zero xs (2 * d) (by rw [HHX.out.1, HHX.out.2]; omega) (fun j hj => HZ.out j (by rw [HHX.out.1] at hj; omega))))
                have e1 := hDw.out
                clear hk9
                go_wp2_with fail
                go_ret
                exact ⟨by rw [HYES.out]; rfl, HBx.out⟩
set_option maxRecDepth 100000 in
set_option maxHeartbeats 4000000 in
theorem refRoot_any (p d r : Nat) (w : World) (hp : p ≤ 1000) (hd1 : 1 ≤ d) (hd2 : d ≤ 3) (hr : fitsB r p d = true) (hr1 : fitsB (r + 1) p d = false) (hl : r < 34359738368) :
    Calls Try.prog 32 #[.int .i64 (p : Int), .int .i64 (d : Int)] w fun e w' => e = .returned (.int .i64 ((r % 4294967296 : Nat) : Int)) ∧ Below w.heap.size w w' := by
  have HR := hid (And.intro hr hr1)
  have i1 := hid (fun m W hm => refFits_any m p d W hm hp hd1 hd2)
  have H0 : Hid (fitsB 0 p d = true) := hid (fitsB_mono p d (Nat.zero_le r) hr)
  have H1 : Hid (fitsB 34359738368 p d = false) := hid (by
    cases hf : fitsB 34359738368 p d with
    | false => rfl
    | true =>
      have := fitsB_mono p d (show r + 1 ≤ 34359738368 from hl) hf
      rw [hr1] at this
      cases this)
  have i2 := hid (fun W => refMod_any r W)
  have HE := hid (fun low high h1 h2 h3 => halves_end p d r low high hr hr1 h1 h2 h3)
  clear hr hr1
  go_enter Try.func32, Try.ntmps32
  go_wp2_with fail
  go_loopw [5, 6] (fun v5 v6 wr => ∃ low high : Nat, v5 = .int .i64 (low : Int) ∧ v6 = .int .i64 (high : Int) ∧ low < high ∧ high ≤ 34359738368 ∧ Hid (fitsB low p d = true) ∧ Hid (fitsB high p d = false) ∧ Below w.heap.size w wr) (fun v5 v6 _ => (intOf v6 - intOf v5).toNat)
  case atStart => exact ⟨0, 34359738368, rfl, rfl, by decide, Nat.le_refl _, H0, H1, Below.refl _ _⟩
  case round =>
    obtain ⟨low, high, rfl, rfl, hlh, hh, HL, HH, hbel⟩ := hrel
    have HBE := hid hbel
    clear hbel
    have hdf := wrH (x := (high : Int) - (low : Int)) (n := high - low) (by omega) (by omega)
    by_cases hgo : low + 1 < high
    · obtain ⟨m, hm⟩ : ∃ m, (low + high) / 2 = m := ⟨_, rfl⟩
      have hm1 : low < m := by omega
      have hm2 : m < high := by omega
      obtain ⟨S, hS⟩ : ∃ S, low + high = S := ⟨_, rfl⟩
      have hsm := wrH (x := (low : Int) + (high : Int)) (n := S) (by omega) (by omega)
      have hmw := wrH (x := (S : Int).tdiv 2) (n := m) (by rw [Int.tdiv_eq_ediv_of_nonneg (Int.natCast_nonneg _)]; omega) (by omega)
      obtain ⟨D, hD⟩ : ∃ D, high - low = D := ⟨_, rfl⟩
      rw [hD] at hdf
      have y0 : decide ((1 : Int) < (D : Int)) = true := decide_eq_true (by omega)
      have y0' : decide (1 < D) = true := decide_eq_true (by omega)
      have i3 := hid (i1.out m wr (by omega))
      have hdf3 : (high : Int) - (low : Int) = (D : Int) := by rw [← hD]; omega
      have hsm3 : (low : Int) + (high : Int) = (S : Int) := by rw [← hS]; simp
      have hmw3 : (S : Int) / 2 = (m : Int) := by rw [← hm, hS]; simp
      have hmw4 : (S : Int).tdiv 2 = (m : Int) := by rw [Int.tdiv_eq_ediv_of_nonneg (Int.natCast_nonneg _)]; exact hmw3
      clear hm hS hD
      go_wp2_with fail
      clear hdf3 hsm3 hmw3 hmw4
      refine i3.out.mono ?_
      rintro e w2 ⟨he, hb2⟩
      have HB2 := hid (bel_trans HBE.out hb2)
      by_cases hf : fitsB m p d = true
      · rw [hf] at he
        subst he
        have HF := hid hf
        clear hf hb2 i3
        go_wp2_with fail
        go_roundw
        case rel => exact ⟨m, high, rfl, rfl, hm2, hh, HF, HH, HB2.out⟩
        case measure => simp [intOf]; omega
      · have hf' : fitsB m p d = false := by simpa using hf
        rw [hf'] at he
        subst he
        have HF := hid hf'
        clear hf hf' hb2 i3
        go_wp2_with fail
        go_roundw
        case rel => exact ⟨low, m, rfl, rfl, hm1, by omega, HL, HF, HB2.out⟩
        case measure => simp [intOf]; omega
    · have hlr := HE.out low high HL.out HH.out (by omega)
      subst hlr
      have hd1' : high - low = 1 := by omega
      have hc : (high : Int) - (low : Int) = 1 := by omega
      have HHC : Hid ((high : Int) = (low : Int) + 1) := hid (by omega)
      obtain ⟨hg⟩ : Nonempty (high = low + 1) := ⟨by omega⟩
      subst hg
      clear hgo
      go_wp2_with fail
      refine (i2.out _).mono ?_
      rintro e w2 ⟨rfl, rfl⟩
      go_wp2_with fail
      go_ret
      exact ⟨rfl, HBE.out⟩
end Go.Proofs.Ytojffpfgmlegdaa
