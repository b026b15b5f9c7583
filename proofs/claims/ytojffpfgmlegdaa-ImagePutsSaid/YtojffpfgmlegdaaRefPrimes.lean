/-
  The reference's primes.
-/
import Derived.Test.YtojffpfgmlegdaaRefFits
import Derived.Test.YtojffpfgmlegdaaPrimePl
namespace Go.Proofs.Ytojffpfgmlegdaa
open Go.RowKit

theorem all_take_succ (l : List Nat) (f : Nat → Bool) (i x : Nat) (h : l[i]? = some x) : (l.take (i + 1)).all f = ((l.take i).all f && f x) := by
  rw [List.take_add_one, h, List.all_append]
  simp
set_option maxRecDepth 100000 in
set_option maxHeartbeats 4000000 in
theorem refPrimes_any (w : World) :
    Calls Try.prog 31 #[.int .i64 64] w fun e w' => ∃ A c, e = .returned (.slice A 64 c) ∧ w'.ownsRow w.heap.size 3 1 (.slice A 64 c) 64 (primes64.map nV) ∧ Below w.heap.size w w' := by
  obtain ⟨i0, hi0, hz0, hz1, hz2⟩ := info_parts info_intT
  go_enter Try.func31, Try.ntmps31
  go_wp2_with fail
  go_loopw [4, 3] (fun v4 v3 wr => ∃ (k L : Nat) (A : Option Addr) (c : Nat), k ≤ 310 ∧ Hid ((prUp k).length = L) ∧ v4 = .int .i64 ((k : Int) + 2) ∧ v3 = .slice A L c ∧ wr.ownsRow w.heap.size 3 1 (.slice A L c) L ((prUp k).map nV) ∧ Below w.heap.size w wr) (fun v4 _ _ => (312 - intOf v4).toNat)
  case atStart => exact ⟨0, 0, none, 0, by omega, hid rfl, rfl, rfl, World.ownsRow_nil _ _ _ _, Below.refl _ _⟩
  case round =>
    obtain ⟨k, L, A, c, hk, HL, rfl, rfl, hown, hbel⟩ := hrel
    obtain ⟨wo, rfl⟩ : ∃ wo : World, wo = wr := ⟨_, rfl⟩
    have HO := hid hown
    have HB := hid hbel
    have hgo := prUp_go hk
    rw [HL.out] at hgo
    have HTW := hid (prUp_two k)
    have HST : Hid (prUp (k + 1) = prAdd (prUp k) (k + 2)) := hid rfl
    obtain ⟨P, hP⟩ : ∃ P, prUp k = P := ⟨_, rfl⟩
    rw [hP] at HO HTW HST HL
    have HPK := hid hP
    clear hown hbel hP
    by_cases hL : L < 64
    · have y0 : decide ((L : Int) < 64) = true := decide_eq_true (by omega)
      have y0' : decide (L < 64) = true := decide_eq_true hL
      have hk2 : k < 310 := hgo.1 hL
      obtain ⟨p, hp⟩ : ∃ p, k + 2 = p := ⟨_, rfl⟩
      have hpI : (k : Int) + 2 = (p : Int) := by omega
      have HPP := hid hp
      have hpb : p ≤ 311 := by omega
      rw [hpI]
      rw [hp] at HST
      clear hgo hp
      go_wp2_with fail
      go_loopw [6, 5] (fun v6 v5 wr => ∃ i : Nat, i ≤ L ∧ v6 = .int .i64 (i : Int) ∧ v5 = .bool ((P.take i).all (fun q => p % q != 0)) ∧ Below wo.heap.size wo wr) (fun v6 _ _ => L - (intOf v6).toNat)
      case atStart => exact ⟨0, by omega, rfl, by simp, Below.refl _ _⟩
      case round =>
        obtain ⟨i, hi, rfl, rfl, hbel⟩ := hrel
        have HBE := hid hbel
        have HOW := hid (own_below HO.out hbel)
        clear hbel
        by_cases hiL : i < L
        · have t0 : decide ((i : Int) < (L : Int)) = true := decide_eq_true (by omega)
          have t0' : decide (i < L) = true := decide_eq_true hiL
          have z0 : (0 : Int) ≤ (i : Int) := Int.natCast_nonneg _
          have z1 : (i : Int) < (L : Int) := by omega
          obtain ⟨g, hA, _, _⟩ := own_some HOW.out (by omega)
          subst hA
          obtain ⟨q, hq, hcq, _⟩ := own_cellM HOW.out hiL
          obtain ⟨hq2, hq3⟩ := HTW.out q (List.mem_of_getElem? hq)
          have HAL := hid (all_take_succ P (fun q => p % q != 0) i q hq)
          generalize (P.take i).all (fun q => p % q != 0) = b at *
          have hmod : (p : Int).tmod (q : Int) = ((p % q : Nat) : Int) := by rw [Int.tmod_eq_emod_of_nonneg (Int.natCast_nonneg _)]; simp
          have hmod2 : (p : Int) % (q : Int) = ((p % q : Nat) : Int) := by simp
          have hqn : ((q : Int) == 0) = false := by simp; omega
          have hqn2 : (q : Int) ≠ 0 := by omega
          obtain ⟨R, hR⟩ : ∃ R, p % q = R := ⟨_, rfl⟩
          rw [hR] at hmod hmod2 HAL
          clear hq hR
          cases b
          · have HA2 : Hid ((P.take (i + 1)).all (fun q => p % q != 0) = false) := hid (by rw [HAL.out]; rfl)
            go_wp2_with fail
            go_roundw
            case rel => exact ⟨i + 1, by omega, by go_num, by rw [HA2.out], HBE.out⟩
            case measure => simp [intOf]; omega
          · have HA2 : Hid ((P.take (i + 1)).all (fun q => p % q != 0) = (R != 0)) := hid (by rw [HAL.out]; simp)
            have hne : ((R : Int) != 0) = (R != 0) := by
              by_cases h0 : R = 0
              · subst h0; rfl
              · have h1 : ((R : Int) != 0) = true := by simpa using h0
                have h2 : (R != 0) = true := by simpa using h0
                rw [h1, h2]
            go_wp2_with fail
            go_roundw
            case rel => exact ⟨i + 1, by omega, by go_num, by first | rw [HA2.out] | (rw [HA2.out, ← hne]) | (rw [HA2.out]; simp), HBE.out⟩
            case measure => simp [intOf]; omega
        · have hi9 : i = L := by omega
          have t0 : decide ((i : Int) < (L : Int)) = false := decide_eq_false (by omega)
          have t0' : decide (i < L) = false := decide_eq_false hiL
          have hall : P.take i = P := List.take_of_length_le (by rw [hi9, HL.out]; exact Nat.le_refl _)
          rw [hall]
          have HBW := hid (bel_trans HB.out HBE.out)
          have hbs := HBW.out.size
          clear hall hi9
          have HKP : Hid (((k + 1 : Nat) : Int) + 2 = (p : Int) + 1) := hid (by omega)
          cases hb : P.all (fun q => p % q != 0)
          · have HN : Hid (prUp (k + 1) = P) := hid (by rw [HST.out]; unfold prAdd; rw [hb]; rfl)
            clear hb
            go_wp2_with fail
            go_roundw
            case rel => exact ⟨k + 1, L, A, c, by omega, hid (by rw [HN.out]; exact HL.out), by rw [HKP.out], rfl, by rw [HN.out]; exact HOW.out, HBW.out⟩
            case measure => simp [intOf]; omega
          · have HN : Hid (prUp (k + 1) = P ++ [p]) := hid (by rw [HST.out]; unfold prAdd; rw [hb]; rfl)
            clear hb
            go_wp2_with (at_builtin; refine wpList_app _ rfl (.tmp 30) (.tmp 32) _ rfl w.heap.size 3 i0 _ 1 8 Try.underlying28 hi0 hz0 hz1 hz2 rfl (by decide) (.slice A L c) L _ rfl (HOW.out.alloc _) (wr.heap.size + 1) (some ⟨wr.heap.size, 0, none⟩) 1 1 [nV p] rfl (Reads.new wr #[nV p] 3 1 rfl) (oneCell_nV [p]) (by simp [maxLen]; omega) (by omega) (by simp; omega) ?_; intro A6 c6 w6 hown6 hgr6 _)
            have HF6 : Hid (w6.ownsRow w.heap.size 3 1 (.slice A6 (L + 1) c6) (L + 1) ((prUp (k + 1)).map nV)) := hid (by rw [HN.out, List.map_append]; exact hown6)
            have HG6 : Hid (Below w.heap.size w w6) := hid (below_own (HBW.out.alloc hbs _) (HOW.out.alloc _) hgr6 (Nat.le_refl _) (by simp; omega))
            have HL6 : Hid ((prUp (k + 1)).length = L + 1) := hid (by rw [HN.out, List.length_append, HL.out]; rfl)
            clear hown6 hgr6
            go_wp2_with fail
            go_roundw
            case rel => exact ⟨k + 1, L + 1, A6, c6, by omega, HL6, by rw [HKP.out], rfl, HF6.out, HG6.out⟩
            case measure => simp [intOf]; omega
    · have y0 : decide ((L : Int) < 64) = false := decide_eq_false (by omega)
      have y0' : decide (L < 64) = false := decide_eq_false hL
      have hk9 : k = 310 := by
        rcases Nat.lt_or_ge k 310 with h | h
        · exact absurd (hgo.2 h) hL
        · omega
      have hPP : P = primes64 := by rw [← HPK.out, hk9, prUp_310]
      have hL9 : L = 64 := by rw [← HL.out, hPP]; rfl
      have HFIN : Hid (wo.ownsRow w.heap.size 3 1 (.slice A 64 c) 64 (primes64.map nV)) := hid (by have h9 := HO.out; rw [hPP, hL9] at h9; exact h9)
      have HL9 := hid hL9
      clear hk9 hPP hL9 hgo
      go_wp2_with fail
      go_ret
      exact ⟨A, c, by rw [← HL9.out]; rfl, HFIN.out, HB.out⟩
end Go.Proofs.Ytojffpfgmlegdaa
