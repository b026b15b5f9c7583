/-
  Are bytes alike?
-/
import Derived.Test.YthnifgcoikmihaaBase
namespace Go.Proofs.Ythnifgcoikmihaa
open Go.RowKit

/-- Are bytes alike? -/
theorem same_any (A1 A2 : Option Addr) (n1 n2 c1 c2 : Nat) (xs bs : List UInt8) (w : World) (B1 B2 : Nat) (h1 : Reads w B1 1 A1 n1 (xs.map bV)) (h2 : Reads w B2 1 A2 n2 (bs.map bV)) (hn : n1 ≤ 9223372036854775807) (hm : n2 ≤ 9223372036854775807) :
    Calls Try.prog 16 #[.slice A1 n1 c1, .slice A2 n2 c2] w fun e w' => e = .returned (.bool (decide (xs = bs))) ∧ ∃ q, w' = w.drewN q := by
  have l1 : xs.length = n1 := by simpa using h1.len
  have l2 : bs.length = n2 := by simpa using h2.len
  by_cases hne : n1 = n2
  · have HL1 := hid l1
    have HL2 := hid l2
    clear l1 l2
    subst hne
    go_enter Try.func16, Try.ntmps16
    go_wp2_with fail
    go_loopw [5] (fun i wr => ∃ k : Nat, k ≤ n1 ∧ i = .int .i64 k ∧ (∃ q, wr = w.drewN q) ∧ xs.take k = bs.take k) (fun i _ => n1 - (intOf i).toNat)
    case atStart => exact ⟨0, by omega, rfl, ⟨0, rfl⟩, by simp⟩
    case round =>
      obtain ⟨k, hk, rfl, ⟨q, rfl⟩, htk⟩ := hrel
      have HT := hid htk
      clear htk
      by_cases hkn : k < n1
      · obtain ⟨ad1, x1, rfl, _, hx1, hc1⟩ := h1.atM hkn
        obtain ⟨ad2, x2, rfl, _, hx2, hc2⟩ := h2.atM hkn
        have HX1 := hid hx1
        have HX2 := hid hx2
        clear hx1 hx2 h1 h2
        by_cases hxe : x1 = x2
        · subst hxe
          go_wp2_with fail
          go_quiet (fail)
          go_wp2_with fail
          go_roundw
          case rel => exact ⟨k + 1, by omega, by go_num, ⟨_, rfl⟩, by rw [List.take_add_one, List.take_add_one, HT.out, HX1.out, HX2.out]⟩
          case measure => simp [intOf]; omega
        · have hd : decide (xs = bs) = false := by
            simp only [decide_eq_false_iff_not]
            rintro rfl
            rw [HX1.out] at HX2
            exact hxe (by injection HX2.out)
          have hne : ((x1.toNat : Int) == (x2.toNat : Int)) = false := by
            simp only [beq_eq_false_iff_ne, ne_eq]
            intro h
            exact hxe (UInt8.toNat.inj (by omega))
          have hne2 : ((x1.toNat : Int) != (x2.toNat : Int)) = true := by rw [bne, hne]; rfl
          go_wp2_with fail
          go_quiet (fail)
          go_wp2_with fail
          go_ret
          exact ⟨by rw [hd]; rfl, q + nq, by rw [World.drewN_drewN]⟩
      · obtain rfl : k = n1 := by omega
        have hd : decide (xs = bs) = true := by
          have h := HT.out
          rw [List.take_of_length_le (by have := HL1.out; omega), List.take_of_length_le (by have := HL2.out; omega)] at h
          simpa using h
        go_wp2_with fail
        go_ret
        exact ⟨by rw [hd]; rfl, _, rfl⟩
  · have hd : decide (xs = bs) = false := by
      simp only [decide_eq_false_iff_not]
      rintro rfl
      omega
    have HD := hid hd
    clear hd l1 l2
    have hne1 : ((n1 : Int) != (n2 : Int)) = true := by rw [bne_iff_ne]; omega
    go_enter Try.func16, Try.ntmps16
    go_wp2_with fail
    go_ret
    exact ⟨by rw [HD.out]; rfl, 0, rfl⟩

theorem same_b (A1 A2 : Option Addr) (n1 n2 c1 c2 : Nat) (xs bs : List UInt8) (w : World) (h1 : Reads w w.heap.size 1 A1 n1 (xs.map bV)) (h2 : Reads w w.heap.size 1 A2 n2 (bs.map bV)) (hn : n1 ≤ 9223372036854775807) (hm : n2 ≤ 9223372036854775807) :
    Calls Try.prog 16 #[.slice A1 n1 c1, .slice A2 n2 c2] w fun e w' => e = .returned (.bool (decide (xs = bs))) ∧ Below w.heap.size w w' :=
  (same_any A1 A2 n1 n2 c1 c2 xs bs w _ _ h1 h2 hn hm).mono fun _ _ ⟨he, q, hw⟩ => ⟨he, by rw [hw]; exact below_drewN (Below.refl _ _) q⟩

end Go.Proofs.Ythnifgcoikmihaa
