/-
  The reference's digest: Of.
-/
import Derived.Test.YtojffpfgmlegdaaRefBehind
import Derived.Test.YtojffpfgmlegdaaRefKnow
import Derived.Test.YtojffpfgmlegdaaPadPl
import Derived.Test.YtojffpfgmlegdaaNum
import Derived.StillTailTactics
namespace Go.Proofs.Ytojffpfgmlegdaa
open Go.RowKit

def lenV (v : Value) : Nat := match v with | .slice _ n _ => n | _ => 0
theorem z_iff (n z : Nat) (hz : z ≤ zerosTo n) : (n + z) % 64 = 56 ↔ z = zerosTo n := by
  have h1 := zerosTo_end n
  have h2 := zerosTo_lt n
  constructor
  · intro h; omega
  · rintro rfl; exact h1
theorem long8_take (n j : Nat) (hj : j < 8) : (long8 n).take (j + 1) = (long8 n).take j ++ [UInt8.ofNat (n * 8 / 2 ^ (56 - 8 * j))] := by
  rw [List.take_add_one, long8_get n j hj]
  rfl
theorem long8_zero (n j : Nat) (hn : n ≤ 1000000) (hj : j < 2) : UInt8.ofNat (n * 8 / 2 ^ (56 - 8 * j)) = 0 := by
  have h : n * 8 / 2 ^ (56 - 8 * j) = 0 := by
    have : j = 0 ∨ j = 1 := by omega
    rcases this with rfl | rfl
    · exact Nat.div_eq_of_lt (by omega)
    · exact Nat.div_eq_of_lt (by omega)
  rw [h]
  rfl
theorem byte_of (x : Nat) : Value.int .u8 ((x : Int) % 256) = bV (UInt8.ofNat x) := by
  show _ = Value.int .u8 ((UInt8.ofNat x).toNat : Int)
  rw [UInt8.toNat_ofNat']
  congr 1
theorem byte_of2 (x : Nat) : Value.int .u8 ((x % 256 : Nat) : Int) = bV (UInt8.ofNat x) := by
  show _ = Value.int .u8 ((UInt8.ofNat x).toNat : Int)
  rw [UInt8.toNat_ofNat']
theorem sumL_take (v : Sh8) (i : Nat) (x : BitVec 32) (hx : v.list[i]? = some x) : (sumL v).take (4 * (i + 1)) = (sumL v).take (4 * i) ++ out4 x := by
  have hi : i < 8 := by have := (List.getElem?_eq_some_iff.1 hx).1; simpa [Sh8.list] using this
  have : i = 0 ∨ i = 1 ∨ i = 2 ∨ i = 3 ∨ i = 4 ∨ i = 5 ∨ i = 6 ∨ i = 7 := by omega
  rcases this with rfl | rfl | rfl | rfl | rfl | rfl | rfl | rfl <;> (simp [Sh8.list] at hx; subst hx; rfl)
theorem out4_vals (X : Nat) (x : BitVec 32) (hX : x.toNat = X) : ∃ b0 q1 b1 q2 b2 b3 : Nat, X / 16777216 = b0 ∧ X / 65536 = q1 ∧ q1 % 256 = b1 ∧ X / 256 = q2 ∧ q2 % 256 = b2 ∧ X % 256 = b3 ∧ b0 < 256 ∧ b1 < 256 ∧ b2 < 256 ∧ b3 < 256 ∧ (out4 x).map bV = [.int .u8 (b0 : Int), .int .u8 (b1 : Int), .int .u8 (b2 : Int), .int .u8 (b3 : Int)] := by
  have hl := x.isLt
  rw [hX] at hl
  refine ⟨_, _, _, _, _, _, rfl, rfl, rfl, rfl, rfl, rfl, by omega, by omega, by omega, by omega, ?_⟩
  rw [out4_eq, hX]
  have e1 : (2 : Nat) ^ 24 = 16777216 := by decide
  have e2 : (2 : Nat) ^ 16 = 65536 := by decide
  have e3 : (2 : Nat) ^ 8 = 256 := by decide
  rw [e1, e2, e3]
  simp only [List.map_cons, List.map_nil, Nat.pow_zero, Nat.div_one]
  rw [← byte_of2, ← byte_of2, ← byte_of2, ← byte_of2, Nat.mod_eq_of_lt (show X / 16777216 < 256 by omega)]
theorem blkV_succ (k : Nat) (v : Sh8) (l : List UInt8) : blkV (k + 1) v l = fullV ((l.drop (64 * k)).take 64) (blkV k v l) := rfl
/-- The padding of a text: what the first three loops lay. -/
theorem pad_pre (bs : List UInt8) (Z : Nat) (h : zerosTo (bs.length + 1) = Z) : padM bs = bs ++ [128] ++ List.replicate Z 0 ++ long8 bs.length := by unfold padM; rw [h]
set_option maxRecDepth 100000 in
set_option maxHeartbeats 8000000 in
theorem refOf_any (AF AR : Option Addr) (cF cR : Nat) (A : Option Addr) (n c : Nat) (bs : List UInt8) (w : World) (hF : Reads w w.heap.size 1 AF 8 (shNew.v.list.map nW)) (hR : Reads w w.heap.size 1 AR 64 (shaK.map nW)) (cf1 : 8 ≤ cF) (cf2 : cF ≤ maxLen) (cr1 : 64 ≤ cR) (cr2 : cR ≤ maxLen) (hb : Reads w w.heap.size 1 A n (bs.map bV)) (hn : n ≤ 1000000) :
    Calls Try.prog 14 #[.agg #[.slice AF 8 cF, .slice AR 64 cR], .slice A n c] w fun e w' => ∃ A' c', e = .returned (.slice A' 32 c') ∧ w'.ownsRow w.heap.size 5 1 (.slice A' 32 c') 32 ((shaOf bs).map bV) ∧ Below w.heap.size w w' := by
  have hbl : bs.length = n := by simpa using hb.len
  obtain ⟨w1, hw1, hK1, hb1, hs1⟩ : ∃ W : World, w.alloc (.cells #[.slice AF 8 cF, .slice AR 64 cR] 30) = W ∧ Hid (Blk W w.heap.size 30 [.slice AF 8 cF, .slice AR 64 cR]) ∧ Hid (Below w.heap.size w W) ∧ W.heap.size = w.heap.size + 1 := ⟨_, rfl, hid (Blk.new w _ [.slice AF 8 cF, .slice AR 64 cR]), hid ((Below.refl _ _).alloc (Nat.le_refl _) _), by simp⟩
  have HF1 := hid (hF.belowS hb1.out)
  have HR1 := hid (hR.belowS hb1.out)
  have HB1 := hid (hb.belowS hb1.out)
  have HC := hid (And.intro (And.intro cf1 cf2) (And.intro cr1 cr2))
  obtain ⟨Z, hZ⟩ : ∃ Z, zerosTo (bs.length + 1) = Z := ⟨_, rfl⟩
  have HPM := hid (pad_pre bs Z hZ)
  have HSO := hid (shaOf_blk bs)
  rw [hbl] at HPM hZ
  have hZl : Z < 64 := by rw [← hZ]; exact zerosTo_lt _
  have HZI : Hid (∀ z, z ≤ Z → ((n + 1 + z) % 64 = 56 ↔ z = Z)) := hid (fun z hz => by have := z_iff (n + 1) z (by rw [hZ]; exact hz); rw [hZ] at this; exact this)
  have HS1 := hid hs1
  clear hF hR hb cf1 cf2 cr1 cr2 hZ hs1
  obtain ⟨B, hB⟩ : ∃ B, w1.heap.size = B := ⟨_, rfl⟩
  go_enter Try.func14, Try.ntmps14
  go_wp2_with (first
    | (at_builtin; refine appB _ rfl (.tmp 12) (.tmp 13) rfl w1.heap.size none 0 0 [] rfl (World.ownsRow_nil _ _ _ _) w1.heap.size A n c bs rfl HB1.out (by omega) (Nat.le_refl _) ?_; intro A2 c2 w2 hown2 hg2 hb2; rw [Nat.zero_add, List.nil_append] at hown2; have HO2 := hid hown2; have HB2 := hid hb2; clear hown2 hg2 hb2)
    | (at_builtin; refine appB _ rfl (.tmp 15) (.tmp 16) rfl w1.heap.size A2 n c2 bs rfl (HO2.out.alloc _) (w2.heap.size + 1) _ 1 1 [128] rfl (Reads.new w2 #[.int .u8 128] 5 1 rfl) (by omega) (by have := HB2.out.size; simp; omega) ?_; intro A3 c3 w3 hown3 hg3 hb3; have HO3 : Hid (w3.ownsRow w1.heap.size 5 1 (.slice A3 (n + 1) c3) (n + 1) ((bs ++ [128]).map bV)) := hid (by simpa using hown3); have HB3 : Hid (Below w1.heap.size w1 w3) := hid ((HB2.out.alloc HB2.out.size _).trans hb3); clear hown3 hg3 hb3))
  clear hw1 hB HB1
  go_loopw [5] (fun v5 wr => ∃ (z : Nat) (A4 : Option Addr) (c4 : Nat), z ≤ Z ∧ v5 = .slice A4 (n + 1 + z) c4 ∧ Hid (wr.ownsRow w1.heap.size 5 1 (.slice A4 (n + 1 + z) c4) (n + 1 + z) ((bs ++ [128] ++ List.replicate z 0).map bV)) ∧ Hid (Below w1.heap.size w1 wr)) (fun v5 _ => n + 1 + Z - lenV v5)
  case atStart => exact ⟨0, A3, c3, by omega, rfl, hid (by simpa using HO3.out), HB3⟩
  case round =>
    obtain ⟨z, A4, c4, hz, rfl, HO4, HB4⟩ := hrel
    have hzi := HZI.out z hz
    obtain ⟨L, hL⟩ : ∃ L, n + 1 + z = L := ⟨_, rfl⟩
    have HL := hid hL
    rw [hL] at hzi HO4 ⊢
    obtain ⟨R, hR⟩ : ∃ R, L % 64 = R := ⟨_, rfl⟩
    have e1 : (L : Int).tmod 64 = (R : Int) := by rw [Int.tmod_eq_emod_of_nonneg (Int.natCast_nonneg _), ← hR]; simp
    have e2 : (L : Int) % 64 = (R : Int) := by rw [← hR]; simp
    rw [hR] at hzi
    clear hR hL
    by_cases hzz : z = Z
    case neg =>
      have hz2 : z < Z := by omega
      have hR56 : R ≠ 56 := fun h => hzz (hzi.1 h)
      have y0 : ((R : Int) != 56) = true := by
        have : (R : Int) ≠ 56 := by omega
        simpa using this
      have hsz := HB4.out.size
      clear hzi hzz hR56
      go_wp2_with (at_builtin; refine appB _ rfl (.tmp 22) (.tmp 23) rfl w1.heap.size A4 L c4 _ rfl (HO4.out.alloc _) (wr.heap.size + 1) _ 1 1 [0] rfl (Reads.new wr #[.int .u8 0] 5 1 rfl) (by have := HL.out; omega) (by simp; omega) ?_; intro A5 c5 w5 hown5 hg5 hb5)
      have HO5 : Hid (w5.ownsRow w1.heap.size 5 1 (.slice A5 (L + 1) c5) (L + 1) ((bs ++ [128] ++ List.replicate (z + 1) 0).map bV)) := hid (by rw [List.replicate_succ', ← List.append_assoc]; exact hown5)
      have HB5 : Hid (Below w1.heap.size w1 w5) := hid ((HB4.out.alloc hsz _).trans hb5)
      have hLz : L + 1 = n + 1 + (z + 1) := by have := HL.out; omega
      clear hown5 hg5 hb5 e1 e2 y0
      rw [hLz] at HO5 ⊢
      go_roundw
      case rel => exact ⟨z + 1, A5, c5, by omega, rfl, HO5, HB5⟩
      case measure =>
        have := HL.out
        simp only [lenV]
        omega
    have hR56 : R = 56 := hzi.2 hzz
    subst hR56
    have HO5 : Hid (wr.ownsRow w1.heap.size 5 1 (.slice A4 L c4) L ((bs ++ [128] ++ List.replicate Z 0).map bV)) := hid (by rw [← hzz]; exact HO4.out)
    have hLb : L ≤ 1000100 := by have := HL.out; omega
    obtain ⟨N8, hN8⟩ : ∃ N8, 8 * n = N8 := ⟨_, rfl⟩
    have e8 : 8 * (n : Int) = (N8 : Int) := by rw [← hN8]; simp
    have HN8 := hid hN8
    have hN8b : N8 ≤ 8000000 := by omega
    obtain ⟨PRE, hPRE⟩ : ∃ P, bs ++ [128] ++ List.replicate Z 0 = P := ⟨_, rfl⟩
    have HLM : Hid (padM bs = PRE ++ long8 n ∧ L = n + 1 + Z ∧ (L + 8) % 64 = 0 ∧ PRE.length = L) := hid (by
      have h1 := HPM.out
      rw [hPRE] at h1
      have h2 : PRE.length = L := by have := HO5.out.1; rw [hPRE, List.length_map] at this; omega
      have h3 := padM_mod bs
      rw [h1, List.length_append, h2, long8_len] at h3
      exact ⟨h1, by have := HL.out; omega, h3, h2⟩)
    rw [hPRE] at HO5
    clear hzi hzz hz HO4 HL hPRE HPM HZI hN8
    go_wp2_with fail
    clear e1 e2
    go_loopw [7, 5] (fun v7 v5 wr => ∃ (j : Nat) (A6 : Option Addr) (c6 : Nat), j ≤ 8 ∧ v7 = .int .i64 (7 - (j : Int)) ∧ v5 = .slice A6 (L + j) c6 ∧ Hid (wr.ownsRow w1.heap.size 5 1 (.slice A6 (L + j) c6) (L + j) ((PRE ++ (long8 n).take j).map bV)) ∧ Hid (Below w1.heap.size w1 wr)) (fun v7 _ _ => (intOf v7 + 1).toNat)
    case atStart => exact ⟨0, A4, c4, by omega, rfl, rfl, hid (by simpa using HO5.out), HB4⟩
    case round =>
      obtain ⟨j, A6, c6, hj, rfl, rfl, HO6, HB6⟩ := hrel
      have hs6 := HB6.out.size
      by_cases hj8 : j < 8
      · obtain ⟨i, hi⟩ : ∃ i, i + j = 7 := ⟨7 - j, by omega⟩
        have hiI : (7 : Int) - (j : Int) = (i : Int) := by omega
        have hiN : (7 : Int) - ((j + 1 : Nat) : Int) = (i : Int) - 1 := by omega
        have HIN := hid hiN
        have z0 : decide ((0 : Int) ≤ (i : Int)) = true := decide_eq_true (Int.natCast_nonneg _)
        rw [hiI]
        have hib : i ≤ 7 := by omega
        by_cases hi6 : 6 ≤ i
        · have y1 : decide ((6 : Int) ≤ (i : Int)) = true := decide_eq_true (by omega)
          have y1' : decide (6 ≤ i) = true := decide_eq_true hi6
          have HTK := hid (show PRE ++ (long8 n).take (j + 1) = (PRE ++ (long8 n).take j) ++ [0] by rw [long8_take n j hj8, long8_zero n j hn (by omega), List.append_assoc])
          clear hi hiI hiN hi6
          go_wp2_with (at_builtin; refine appB _ rfl (.tmp 34) (.tmp 35) rfl w1.heap.size A6 (L + j) c6 _ rfl (HO6.out.alloc _) (wr.heap.size + 1) _ 1 1 [0] rfl (Reads.new wr #[.int .u8 0] 5 1 rfl) (by omega) (by simp; omega) ?_; intro A5 c5 w5 hown5 hg5 hb5)
          have HO7 : Hid (w5.ownsRow w1.heap.size 5 1 (.slice A5 (L + j + 1) c5) (L + j + 1) ((PRE ++ (long8 n).take (j + 1)).map bV)) := hid (by rw [HTK.out]; exact hown5)
          have HB7 : Hid (Below w1.heap.size w1 w5) := hid ((HB6.out.alloc hs6 _).trans hb5)
          clear hown5 hg5 hb5
          go_roundw
          case rel => exact ⟨j + 1, A5, c5, by omega, by rw [HIN.out], rfl, HO7, HB7⟩
          case measure => first | (simp [intOf]; done) | (simp [intOf]; omega)
        · have y1 : decide ((6 : Int) ≤ (i : Int)) = false := decide_eq_false (by omega)
          have y1' : decide (6 ≤ i) = false := decide_eq_false hi6
          obtain ⟨E, hE⟩ : ∃ E, 8 * i = E := ⟨_, rfl⟩
          have e9 : 8 * (i : Int) = (E : Int) := by rw [← hE]; simp
          have hEb : E ≤ 40 := by omega
          have hEj : 56 - 8 * j = E := by omega
          obtain ⟨P, hP⟩ : ∃ P, 2 ^ E = P := ⟨_, rfl⟩
          have hPp : 0 < P := by rw [← hP]; exact Nat.pow_pos (by decide)
          obtain ⟨Q, hQ⟩ : ∃ Q, N8 / P = Q := ⟨_, rfl⟩
          obtain ⟨M, hM⟩ : ∃ M, Q % 256 = M := ⟨_, rfl⟩
          have hMb : M < 256 := by rw [← hM]; exact Nat.mod_lt _ (by decide)
          have hQb : Q ≤ 8000000 := by rw [← hQ]; exact Nat.le_trans (Nat.div_le_self _ _) hN8b
          have iP := hid (fun W => refPower_any E hEb W)
          rw [hP] at iP
          have HBY : Hid (bV (UInt8.ofNat (n * 8 / 2 ^ (56 - 8 * j))) = .int .u8 (M : Int)) := hid (by rw [hEj, hP, Nat.mul_comm n 8, HN8.out, hQ, ← byte_of2, hM])
          have HTK := hid (show (PRE ++ (long8 n).take (j + 1)).map bV = (PRE ++ (long8 n).take j).map bV ++ [.int .u8 (M : Int)] by rw [long8_take n j hj8, ← List.append_assoc, List.map_append, List.map_cons, List.map_nil, HBY.out])
          have t1 : (N8 : Int).tdiv (P : Int) = (Q : Int) := by rw [Int.tdiv_eq_ediv_of_nonneg (Int.natCast_nonneg _), ← hQ]; simp
          have t2 : (N8 : Int) / (P : Int) = (Q : Int) := by rw [← hQ]; simp
          have t3 : (Q : Int).tmod 256 = (M : Int) := by rw [Int.tmod_eq_emod_of_nonneg (Int.natCast_nonneg _), ← hM]; simp
          have t4 : (Q : Int) % 256 = (M : Int) := by rw [← hM]; simp
          have pz : (P : Int) ≠ 0 := by
            have : P ≠ 0 := Nat.pos_iff_ne_zero.1 hPp
            exact fun h => this (by exact_mod_cast h)
          have pz2 : ((P : Int) == 0) = false := by simpa using pz
          clear hi hiI hiN hi6 hE hEj hP hQ hM hPp
          go_wp2_with fail
          refine (iP.out _).mono ?_
          rintro e w4 ⟨rfl, rfl⟩
          obtain ⟨k0, hk0, hk1, hk2, hk3⟩ := info_parts info_u8
          go_wp2_with (at_builtin; refine wpList_app _ rfl (.tmp 37) (.tmp 45) _ rfl w1.heap.size 5 k0 _ 1 1 Try.underlying22 hk0 hk1 hk2 hk3 rfl (by decide) (.slice A6 (L + j) c6) (L + j) _ rfl (HO6.out.alloc _) (wr.heap.size + 1) (some ⟨wr.heap.size, 0, none⟩) 1 1 [.int .u8 (M : Int)] rfl (Reads.new wr #[.int .u8 (M : Int)] 5 1 rfl) (by simp [Value.oneCell']) (by simp [maxLen]; omega) (by omega) (by simp; omega) ?_; intro A5 c5 w5 hown5 hg5 _)
          have HO7 : Hid (w5.ownsRow w1.heap.size 5 1 (.slice A5 (L + j + 1) c5) (L + j + 1) ((PRE ++ (long8 n).take (j + 1)).map bV)) := hid (by rw [HTK.out]; exact hown5)
          have HB7 : Hid (Below w1.heap.size w1 w5) := hid (below_own (HB6.out.alloc hs6 _) (HO6.out.alloc _) hg5 (Nat.le_refl _) (by simp; omega))
          clear hown5 hg5 t1 t2 t3 t4 e9
          go_roundw
          case rel => exact ⟨j + 1, A5, c5, by omega, by rw [HIN.out], rfl, HO7, HB7⟩
          case measure => first | (simp [intOf]; done) | (simp [intOf]; omega)
      · have hj9 : j = 8 := by omega
        have hm1 : (7 : Int) - (j : Int) = -1 := by omega
        rw [hm1]
        clear hm1
        obtain ⟨T, hT⟩ : ∃ T, L + j = T := ⟨_, rfl⟩
        rw [hT] at HO6 ⊢
        have HOT : Hid (wr.ownsRow w1.heap.size 5 1 (.slice A6 T c6) T ((padM bs).map bV)) := hid (by
          have h9 := HO6.out
          rw [hj9, List.take_of_length_le (by rw [long8_len]; exact Nat.le_refl _), ← HLM.out.1] at h9
          exact h9)
        obtain ⟨K, hK⟩ : ∃ K, T = 64 * K := ⟨T / 64, by have := HLM.out.2.2.1; omega⟩
        have HKK : Hid ((padM bs).length / 64 = K) := hid (by
          have h9 := HOT.out.1
          rw [List.length_map] at h9
          rw [h9, hK]
          omega)
        have HT := hid hK
        have hTb : T ≤ 2000000 := by omega
        obtain ⟨MM, hMM⟩ : ∃ M, padM bs = M := ⟨_, rfl⟩
        rw [hMM] at HOT HKK
        have HSH : Hid (shaOf bs = sumL (blkV K shNew.v MM)) := hid (by rw [HSO.out, hMM, HKK.out])
        clear hj9 hT hj8 hj hMM HSO HO6 hK
        have hRT := hid (Reads.of_own HOT.out)
        obtain ⟨wt, rfl⟩ : ∃ W : World, W = wr := ⟨_, rfl⟩
        have hcap := own_cap HOT.out
        obtain ⟨hcap1, hcap2⟩ := hcap
        have HCP := hid (And.intro hcap1 hcap2)
        unfold maxLen at hcap2
        have hbs := HB6.out.size
        have k0 : wt.cell? ⟨w.heap.size, 0, none⟩ = some (.slice AF 8 cF) := (hK1.out.below HB6.out (by have := HS1.out; omega)).cellAt rfl
        clear HOT
        go_wp2_with fail
        clear k0
        go_loopw [9, 8] (fun v9 v8 wr => ∃ (k a : Nat) (AV : Option Addr) (cV : Nat), k ≤ K ∧ Hid (a = 64 * k) ∧ v9 = .int .i64 (a : Int) ∧ v8 = .slice AV 8 cV ∧ Hid (Reads wr wr.heap.size 1 AV 8 ((blkV k shNew.v MM).list.map nW)) ∧ Hid (8 ≤ cV ∧ cV ≤ maxLen) ∧ Hid (Below wt.heap.size wt wr)) (fun v9 _ _ => T - (intOf v9).toNat)
        case atStart => exact ⟨0, 0, AF, cF, by omega, hid rfl, rfl, rfl, hid ((HF1.out.below HB6.out).more hbs), hid HC.out.1, hid (Below.refl _ _)⟩
        case round =>
          obtain ⟨k, a, AV, cV, hk, Ha, rfl, rfl, HV, HcV, HBV⟩ := hrel
          have ha := Ha.out
          have hTT := HT.out
          by_cases hkK : k < K
          · have haT : a + 64 ≤ T := by omega
            have y0 : decide ((a : Int) < (T : Int)) = true := decide_eq_true (by omega)
            have y0' : decide (a < T) = true := decide_eq_true (by omega)
            obtain ⟨ad, hA, had, _⟩ := hRT.out.form (by omega)
            subst hA
            have hne : c6 ≠ a := by omega
            have hfr := ((hRT.out.below HBV.out).more HBV.out.size).cut (k := a) (cap := c6) (by omega) hcap1
            rw [if_neg hne, Nat.mul_one] at hfr
            simp only [Option.map_some, Nat.mul_one] at hfr
            have hfr2 := hfr.front (k := 64) (by omega)
            rw [Nat.mul_one, ← List.map_drop, ← List.map_take, ha] at hfr2
            have HBlk := hid hfr2
            have hlen : ((MM.drop (64 * k)).take 64).length = 64 := by have := hfr2.len; simpa using this
            have iB := hid (fun W (hb : Below wr.heap.size wr W) => refBehind_any AF AR 8 cF cR (some (ad.add (64 * k))) AV (c6 - a) cV ((MM.drop (64 * k)).take 64) (blkV k shNew.v MM) W hlen (HBlk.out.belowS hb) (((HR1.out.below HB6.out).more hbs).below HBV.out |>.more HBV.out.size |>.belowS hb) (HV.out.belowS hb) (by omega) (Nat.le_trans (Nat.sub_le _ _) HCP.out.2) HcV.out.1 HcV.out.2 HC.out.2.1 HC.out.2.2)
            rw [← blkV_succ, ← ha] at iB
            have q0 : wr.cell? ⟨w.heap.size, 0, none⟩ = some (.slice AF 8 cF) := (hK1.out.below (HB6.out.trans (HBV.out.mono hbs)) (by have := HS1.out; omega)).cellAt rfl
            have q1 : wr.cell? ⟨w.heap.size, 1, none⟩ = some (.slice AR 64 cR) := (hK1.out.below (HB6.out.trans (HBV.out.mono hbs)) (by have := HS1.out; omega)).cellAt rfl
            have z0 : (0 : Int) ≤ (a : Int) := Int.natCast_nonneg _
            have z1 : (a : Int) ≤ (a : Int) + 64 := by omega
            have z2 : (a : Int) + 64 ≤ (c6 : Int) := by omega
            have haN : a + 64 = 64 * (k + 1) := by omega
            have hne1 : ¬ ((c6 : Int) = (a : Int)) := by omega
            have hne2 : ¬ (a = c6) := by omega
            have hne3 : ¬ ((a : Int) = (c6 : Int)) := by omega
            have z3 : (a : Int) ≤ (c6 : Int) := by omega
            have z4 := IntWalk.i64_in ((a : Int) + 64) (by omega)
            have z5 : (0 : Int) ≤ (a : Int) + 64 := by omega
            have zt : ((a : Int) + 64).toNat - a = 64 := by omega
            clear hfr hfr2 hlen had ha hTT
            go_wp2_with fail
            have hww : w.heap.size < wr.heap.size := World.block_lt_of_cell? wr _ q0
            go_region_held3 (fun w' => w'.cell? ⟨w.heap.size, 0, none⟩ = some (.slice AF 8 cF) ∧ w'.cell? ⟨w.heap.size, 1, none⟩ = some (.slice AR 64 cR)) (first | exact ⟨q0, q1⟩ | exact ⟨u0, u1⟩ | go_keep)
              ((go_at_call 30; refine (iB.out wr.drew ⟨rfl, rfl, rfl, Nat.le_refl _, fun _ _ => rfl⟩).mono ?_; rintro e w8 ⟨A8, c8, rfl, ho8, hb8'⟩; have hb8 : Below wr.heap.size wr w8 := ⟨hb8'.os, hb8'.tape, hb8'.output, hb8'.size, hb8'.block⟩; clear hb8'; have u0 := (hb8.cell (p := ⟨w.heap.size, 0, none⟩) hww).trans q0; have u1 := (hb8.cell (p := ⟨w.heap.size, 1, none⟩) hww).trans q1))
            clear z4
            have HV8 := hid (Reads.of_own ho8)
            have HC8 := hid (own_cap ho8)
            have HB8 : Hid (Below wt.heap.size wt w8) := hid (HBV.out.trans (hb8.mono HBV.out.size))
            clear ho8 hb8 iB q0 q1 u0 u1
            go_wp2_with fail
            go_roundw
            case rel => exact ⟨k + 1, a + 64, A8, c8, by omega, hid haN, by go_num, rfl, HV8, HC8, HB8⟩
            case measure => first | (simp [intOf]; done) | (simp [intOf]; omega)
          · have hk9 : k = K := by omega
            have haT : a = T := by omega
            have y0 : decide ((a : Int) < (T : Int)) = false := decide_eq_false (by omega)
            have y0' : decide (a < T) = false := decide_eq_false (by omega)
            obtain ⟨SV, hSV⟩ : ∃ S, blkV K shNew.v MM = S := ⟨_, rfl⟩
            rw [hk9, hSV] at HV
            rw [hSV] at HSH
            obtain ⟨wv, rfl⟩ : ∃ W : World, W = wr := ⟨_, rfl⟩
            have hbv := HBV.out.size
            clear hk9 haT hSV ha hTT
            go_wp2_with fail
            go_loopw [11, 10] (fun v11 v10 wr => ∃ (i : Nat) (AO : Option Addr) (cO : Nat), i ≤ 8 ∧ v11 = .int .i64 (i : Int) ∧ v10 = .slice AO (4 * i) cO ∧ Hid (wr.ownsRow wv.heap.size 5 1 (.slice AO (4 * i) cO) (4 * i) (((sumL SV).take (4 * i)).map bV)) ∧ Hid (Below wv.heap.size wv wr)) (fun v11 _ _ => 8 - (intOf v11).toNat)
            case atStart => exact ⟨0, none, 0, by omega, rfl, rfl, hid (World.ownsRow_nil _ _ _ _), hid (Below.refl _ _)⟩
            case round =>
              obtain ⟨i, AO, cO, hi, rfl, rfl, HOO, HBO⟩ := hrel
              by_cases hi8 : i < 8
              · have y0 : decide ((i : Int) < 8) = true := decide_eq_true (by omega)
                have z0 : (0 : Int) ≤ (i : Int) := Int.natCast_nonneg _
                have z1 : (i : Int) < 8 := by omega
                obtain ⟨adV, x, hAV, hadV, hx, hcx⟩ := (HV.out.below HBO.out).atM hi8
                subst hAV
                have HTK := hid (sumL_take SV i x hx)
                obtain ⟨X, hX⟩ : ∃ X, x.toNat = X := ⟨_, rfl⟩
                obtain ⟨b0, q1, b1, q2, b2, b3, h0, h1, h2, h3, h4, h5, l0, l1, l2, l3, ho4⟩ := out4_vals X x hX
                have hXl : X < 4294967296 := by rw [← hX]; exact x.isLt
                have HO4 := hid ho4
                have hcX : wr.cell? (adV.add i) = some (.int .i64 (X : Int)) := by rw [hcx]; show some (Value.int .i64 (x.toNat : Int)) = _; rw [hX]
                have e0 : (X : Int).tdiv 16777216 = (b0 : Int) := by rw [Int.tdiv_eq_ediv_of_nonneg (Int.natCast_nonneg _), ← h0]; simp
                have e0' : (X : Int) / 16777216 = (b0 : Int) := by rw [← h0]; simp
                have e1 : (X : Int).tdiv 65536 = (q1 : Int) := by rw [Int.tdiv_eq_ediv_of_nonneg (Int.natCast_nonneg _), ← h1]; simp
                have e1' : (X : Int) / 65536 = (q1 : Int) := by rw [← h1]; simp
                have e2 : (q1 : Int).tmod 256 = (b1 : Int) := by rw [Int.tmod_eq_emod_of_nonneg (Int.natCast_nonneg _), ← h2]; simp
                have e2' : (q1 : Int) % 256 = (b1 : Int) := by rw [← h2]; simp
                have e3 : (X : Int).tdiv 256 = (q2 : Int) := by rw [Int.tdiv_eq_ediv_of_nonneg (Int.natCast_nonneg _), ← h3]; simp
                have e3' : (X : Int) / 256 = (q2 : Int) := by rw [← h3]; simp
                have e4 : (q2 : Int).tmod 256 = (b2 : Int) := by rw [Int.tmod_eq_emod_of_nonneg (Int.natCast_nonneg _), ← h4]; simp
                have e4' : (q2 : Int) % 256 = (b2 : Int) := by rw [← h4]; simp
                have e5 : (X : Int).tmod 256 = (b3 : Int) := by rw [Int.tmod_eq_emod_of_nonneg (Int.natCast_nonneg _), ← h5]; simp
                have e5' : (X : Int) % 256 = (b3 : Int) := by rw [← h5]; simp
                have g1 : q1 < 65536 := by omega
                have g2 : q2 < 16777216 := by omega
                obtain ⟨i0, hi0, hz0, hz1, hz2⟩ := info_parts info_u8
                have hbo := HBO.out.size
                have hadw : adV.block < wv.heap.size := by omega
                obtain ⟨W0, W1, W2, U0, U1, U2, U3⟩ : _ ∧ _ ∧ _ ∧ _ ∧ _ ∧ _ ∧ _ := ⟨IntWalk.i64_in (b0 : Int) (by omega), IntWalk.i64_in (q1 : Int) (by omega), IntWalk.i64_in (q2 : Int) (by omega), IntWalk.u8_in (b0 : Int) (by omega), IntWalk.u8_in (b1 : Int) (by omega), IntWalk.u8_in (b2 : Int) (by omega), IntWalk.u8_in (b3 : Int) (by omega)⟩
                clear h0 h1 h2 h3 h4 h5 hcx hX hx ho4
                go_wp2_with fail
                go_region_held3 (fun w' => w'.cell? (adV.add i) = some (.int .i64 (X : Int))) (first | exact hcX | exact u0 | go_keep)
                  ((refine step_append_src _ (by rfl) _ _ _ (by rfl) wv.heap.size 5 i0 _ 1 1 Try.underlying22 hi0 hz0 hz1 hz2 rfl (by decide) (.slice AO (4 * i) cO) (4 * i) _ (by rfl) (by first | exact HOO.out.alloc _ | exact (HOO.out.alloc _).drew) (wr.heap.size + 1) (some ⟨wr.heap.size, 0, none⟩) 4 4 [.int .u8 (b0 : Int), .int .u8 (b1 : Int), .int .u8 (b2 : Int), .int .u8 (b3 : Int)] (by rfl) (by first | exact Reads.new wr #[.int .u8 (b0 : Int), .int .u8 (b1 : Int), .int .u8 (b2 : Int), .int .u8 (b3 : Int)] 5 4 rfl | exact (Reads.new wr #[.int .u8 (b0 : Int), .int .u8 (b1 : Int), .int .u8 (b2 : Int), .int .u8 (b3 : Int)] 5 4 rfl).drew) (by simp [Value.oneCell']) (by simp [maxLen]; omega) (by omega) (by first | (simp; omega) | (simp [World.drew]; omega)) (4 * (i + 1)) (by omega) ?_; intro A5 c5 w5 hown5 _ hb5'; have hb5 : Below wv.heap.size wr w5 := ((Below.refl _ _).alloc hbo _).trans ⟨hb5'.os, hb5'.tape, hb5'.output, hb5'.size, hb5'.block⟩; clear hb5'; have u0 := (hb5.cell (p := adV.add i) (by rw [block_add]; exact hadw)).trans hcX))
                have HO9 : Hid (w5.ownsRow wv.heap.size 5 1 (.slice A5 (4 * (i + 1)) c5) (4 * (i + 1)) (((sumL SV).take (4 * (i + 1))).map bV)) := hid (by rw [HTK.out, List.map_append, HO4.out]; exact hown5)
                have HB9 : Hid (Below wv.heap.size wv w5) := hid (HBO.out.trans hb5)
                clear W0 W1 W2 U0 U1 U2 U3 hown5 hb5 u0 hcX e0 e0' e1 e1' e2 e2' e3 e3' e4 e4' e5 e5'
                go_wp2_with fail
                go_roundw
                case rel => exact ⟨i + 1, A5, c5, by omega, by go_num, rfl, HO9, HB9⟩
                case measure => first | (simp [intOf]; done) | (simp [intOf]; omega)
              · have hi9 : i = 8 := by omega
                have y0 : decide ((i : Int) < 8) = false := decide_eq_false (by omega)
                obtain ⟨L9, hL9⟩ : ∃ L, 4 * i = L := ⟨_, rfl⟩
                rw [hL9] at HOO ⊢
                have hL32 : L9 = 32 := by omega
                have HFIN : Hid (wr.ownsRow w.heap.size 5 1 (.slice AO 32 cO) 32 ((shaOf bs).map bV)) := hid (by
                  have h9 := HOO.out
                  rw [hL32, List.take_of_length_le (by rw [sumL_len]; exact Nat.le_refl _), ← HSH.out] at h9
                  exact own_mono h9 (by have := hb1.out.size; omega))
                have HBF := hid (hb1.out.trans ((HB6.out.trans ((HBV.out.trans (HBO.out.mono hbv)).mono hbs)).mono (by have := hb1.out.size; omega)))
                have HL32 := hid hL32
                clear hi9 hL9 hL32
                go_wp2_with fail
                go_ret
                exact ⟨AO, cO, by rw [← HL32.out]; rfl, HFIN.out, HBF.out⟩
end Go.Proofs.Ytojffpfgmlegdaa
