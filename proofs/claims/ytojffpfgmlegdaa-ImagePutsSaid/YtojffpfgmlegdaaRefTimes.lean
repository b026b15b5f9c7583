/-
  The reference's long numbers: times.
-/
import Derived.Test.YtojffpfgmlegdaaRefSha
import Derived.Test.YtojffpfgmlegdaaLongPl
namespace Go.Proofs.Ytojffpfgmlegdaa
open Go.RowKit

abbrev nV (x : Nat) : Value := .int .i64 (x : Int)
theorem oneCell_nV (l : List Nat) : ∀ u ∈ l.map nV, u.oneCell' = true := by intro u hu; obtain ⟨b, _, rfl⟩ := List.mem_map.1 hu; rfl
theorem info_intT : (Try.prog.info? 3).map (fun i => (i.zero, i.size, i.bytes)) = some (some (.int .i64 0), 1, 8) := by kernel_rfl
theorem makeN (w : World) {ops : Array Oper} {rest : List Oper} {o : Oper} {a : Act} {Q : Exit → Act → World → Prop}
    (hg : o.guard = none) (l : Operand) (hop : o.op = Op.makeSlice 28 l l) (n : Nat) (hl : a.eval l = .int .i64 (n : Int)) (hn : n ≤ 100000)
    (hK : ∀ w', w'.ownsRow w.heap.size 3 1 (.slice (some ⟨w.heap.size, 0, none⟩) n n) n ((List.replicate n (0 : Nat)).map nV) → Below w.heap.size w w' → wpList Try.prog ops Q rest (a.put o.dst (.slice (some ⟨w.heap.size, 0, none⟩) n n)) w') :
    wpList Try.prog ops Q (o :: rest) a w := by
  obtain ⟨i0, hi0, hz0, hz1, hz2⟩ := info_parts info_intT
  refine wpList_make_full w hg l l _ hop w.heap.size 3 i0 _ 1 Try.underlying28 hi0 hz0 hz1 .i64 .i64 _ _ n hl hl rfl rfl (by rw [hz2]; omega) (by simp [maxLen]; omega) (Nat.le_refl _) ?_
  intro w' h1 h2
  refine hK w' ?_ ((Below.refl _ _).grown h2 (Nat.le_refl _) (by simp))
  have e : (madeCells (Value.int IntKind.i64 0).cells (n * 1)).toList = (List.replicate n (0 : Nat)).map nV := by
    rw [show (Value.int IntKind.i64 0).cells = #[.int .i64 0] from rfl, toList_madeCells_one]
    simp [nV]
  rw [e] at h1
  exact h1
theorem wrT {x : Int} {n : Nat} (h : x = (n : Int)) (hn : n < 9223372036854775808) : IntKind.i64.wrap x = (n : Int) ∧ wrap64 x = (n : Int) := by
  subst h
  exact ⟨IntWalk.i64_in _ (by omega), by unfold wrap64; omega⟩
theorem sum_wrT {a p : Nat} (ha : a < 1125899906842625) (hp : p < 1125899906842625) : IntKind.i64.wrap ((a : Int) + (p : Int)) = ((a + p : Nat) : Int) ∧ wrap64 ((a : Int) + (p : Int)) = ((a + p : Nat) : Int) :=
  wrT (by simp) (by omega)
theorem bnd_a {a i k n : Nat} (h : a ≤ 4294967296 * (4 * i + k)) (hi : i < n) (hn : n ≤ 16) (hk : k < 3) : a < 1125899906842625 := by omega
theorem bnd_s {a p i k : Nat} (h : a ≤ 4294967296 * (4 * i + k)) (hp : p < 4294967296) : a + p ≤ 4294967296 * (4 * i + (k + 1)) := by omega
theorem bnd_n {a i k : Nat} (h : a ≤ 4294967296 * (4 * i + k)) : a ≤ 4294967296 * (4 * i + (k + 1)) := Nat.le_trans h (Nat.mul_le_mul_left _ (by omega))
theorem bnd_e {a i k : Nat} (h : a ≤ 4294967296 * (4 * i + k)) (hk : k ≤ 3) : a ≤ 4294967296 * (4 * (i + 1)) := Nat.le_trans h (Nat.mul_le_mul_left _ (by omega))
theorem bnd_l {a i n : Nat} (h : a ≤ 4294967296 * (4 * i)) (hi : i ≤ n) (hn : n ≤ 16) : a ≤ 35184372088832 := by omega
theorem div_wrT {a : Nat} (ha : a < 1125899906842625) : IntKind.i64.wrap ((a : Int).tdiv 65536) = ((a / 65536 : Nat) : Int) ∧ wrap64 ((a : Int).tdiv 65536) = ((a / 65536 : Nat) : Int) :=
  wrT (by rw [Int.tdiv_eq_ediv_of_nonneg (Int.natCast_nonneg _)]; omega) (by omega)
theorem mod_T {a : Nat} : (a : Int).tmod 65536 = ((a % 65536 : Nat) : Int) := by rw [Int.tmod_eq_emod_of_nonneg (Int.natCast_nonneg _)]; omega
theorem div_le {a : Nat} (h : a ≤ 1125899906842624) : a / 65536 ≤ 17179869184 := by omega
theorem le_of_get {l : List Nat} {B j x : Nat} (h : ∀ y ∈ l, y ≤ B) (hx : l[j]? = some x) : x ≤ B := h x (List.mem_of_getElem? hx)
theorem prod_le {x r B : Nat} (hx : x < 65536) (hr : r < 65536) : x * r < 4294967296 := by
  have := Nat.mul_lt_mul'' hx hr
  omega
theorem mul_wr {x r : Nat} (hx : x < 65536) (hr : r < 65536) : ∃ p : Nat, x * r = p ∧ p < 4294967296 ∧ IntKind.i64.wrap ((x : Int) * (r : Int)) = (p : Int) ∧ wrap64 ((x : Int) * (r : Int)) = (p : Int) := by
  have h := prod_le (B := 0) hx hr
  have e : ((x : Int) * (r : Int)) = ((x * r : Nat) : Int) := by simp
  exact ⟨x * r, rfl, h, (wrT e (by omega)).1, (wrT e (by omega)).2⟩
theorem k_lt3 {m r k : Nat} (hm : m < 34359738368) (hr : 0 < r) (h : r * 65536 ^ k ≤ m) : k < 3 := by
  rcases Nat.lt_or_ge k 3 with h3 | h3
  · exact h3
  · have h4 : 65536 ^ 3 ≤ 65536 ^ k := Nat.pow_le_pow_right (by omega) h3
    have h5 : 1 * 65536 ^ k ≤ r * 65536 ^ k := Nat.mul_le_mul_right _ hr
    have h6 : (65536 : Nat) ^ 3 = 281474976710656 := by decide
    omega
theorem r_next {m r k : Nat} (h : r * 65536 ^ k ≤ m) : r / 65536 * 65536 ^ (k + 1) ≤ m := by
  have h1 : 65536 * (r / 65536) ≤ r := by omega
  have h2 := Nat.mul_le_mul_right (65536 ^ k) h1
  rw [Nat.pow_succ, Nat.mul_comm (65536 ^ k) 65536, ← Nat.mul_assoc, Nat.mul_comm (r / 65536) 65536]
  omega
set_option maxRecDepth 100000 in
set_option maxHeartbeats 4000000 in
theorem refTimes_any (A : Option Addr) (n c m : Nat) (xs : List Nat) (w : World) (hr : Reads w w.heap.size 1 A n (xs.map nV)) (hx : ∀ x ∈ xs, x < 65536) (hn : n ≤ 16) (hm : m < 34359738368) :
    Calls Try.prog 59 #[.slice A n c, .int .i64 (m : Int)] w fun e w' => ∃ A' c' ys, e = .returned (.slice A' (n + 4) c') ∧ w'.ownsRow w.heap.size 3 1 (.slice A' (n + 4) c') (n + 4) (ys.map nV) ∧ (∀ y ∈ ys, y < 65536) ∧ valL ys = valL xs * m ∧ Below w.heap.size w w' := by
  have hxl : xs.length = n := by simpa using hr.len
  have HR := hid hr
  have HXD := hid hx
  have HXL := hid hxl
  obtain ⟨N, hN⟩ : ∃ N, n + 4 = N := ⟨_, rfl⟩
  have hNN := hid hN
  clear hr hx hxl
  have hnb : N ≤ 20 := by omega
  have hw0 := wrT (x := (n : Int) + 4) (n := N) (by omega) (by omega)
  obtain ⟨hw1, hw2⟩ := hw0
  rw [hN]
  clear hN
  go_enter Try.func59, Try.ntmps59
  go_wp2_with (at_make; refine makeN w rfl (.tmp 12) rfl N rfl (by omega) ?_; intro w1 hown hb1)
  clear hw1 hw2
  go_loopw [6] (fun v6 wr => ∃ (i : Nat) (out : List Nat), i ≤ n ∧ v6 = .int .i64 (i : Int) ∧ wr.ownsRow w.heap.size 3 1 (.slice (some ⟨w.heap.size, 0, none⟩) N N) N (out.map nV) ∧ valL out = valL (xs.take i) * m ∧ (∀ y ∈ out, y ≤ 4294967296 * (4 * i)) ∧ Below w.heap.size w wr) (fun v6 _ => n - (intOf v6).toNat)
  case atStart => exact ⟨0, List.replicate N 0, by omega, rfl, hown, by rw [valL_zeros]; simp [valL], fun y hy => by rw [List.eq_of_mem_replicate hy]; omega, hb1⟩
  case round =>
    obtain ⟨i, out, hi, rfl, hown, hval, hle, hbel⟩ := hrel
    obtain ⟨wo, rfl⟩ : ∃ wo : World, wo = wr := ⟨_, rfl⟩
    by_cases hin : i < n
    · have y0 : decide ((i : Int) < (n : Int)) = true := decide_eq_true (by omega)
      have y0' : decide (i < n) = true := decide_eq_true hin
      have z0 : (0 : Int) ≤ (i : Int) := Int.natCast_nonneg _
      have z1 : (i : Int) < (n : Int) := by omega
      obtain ⟨ad, x, hA, had, hxi, hcx⟩ := (HR.out.below hbel).atM hin
      subst hA
      have hxd : x < 65536 := HXD.out x (List.mem_of_getElem? hxi)
      have HXI := hid hxi
      have hVV : Hid (valL (xs.take (i + 1)) * m = valL out + x * m * 65536 ^ (i + 0)) := hid (by rw [valL_take_succ xs i x hxi, Nat.add_mul, hval, Nat.add_zero, Nat.mul_right_comm])
      have HLE := hid hle
      have HOW := hid hown
      have HBO := hid hbel
      clear hxi hval hle hown hbel hb1
      go_wp2_with fail
      go_loopw [7, 8] (fun v7 v8 wr => ∃ (r k : Nat) (ou : List Nat), v7 = .int .i64 (r : Int) ∧ v8 = .int .i64 (k : Int) ∧ r * 65536 ^ k ≤ m ∧ k ≤ 3 ∧ wr.ownsRow w.heap.size 3 1 (.slice (some ⟨w.heap.size, 0, none⟩) N N) N (ou.map nV) ∧ Hid (valL ou + x * r * 65536 ^ (i + k) = valL (xs.take (i + 1)) * m) ∧ (∀ y ∈ ou, y ≤ 4294967296 * (4 * i + k)) ∧ Below w.heap.size w wr) (fun v7 _ _ => (intOf v7).toNat)
      case atStart => exact ⟨m, 0, out, rfl, rfl, by simp, by omega, HOW.out, hid hVV.out.symm, HLE.out, HBO.out⟩
      case round =>
        obtain ⟨r, k, ou, rfl, rfl, hrk, hk3, hown, hv, hle, hbel⟩ := hrel
        by_cases hr0 : 0 < r
        · have u0 : decide ((0 : Int) < (r : Int)) = true := decide_eq_true (by omega)
          have u0' : decide (0 < r) = true := decide_eq_true hr0
          have hk := k_lt3 hm hr0 hrk
          have hrm : r < 34359738368 := by
            have h9 : r * 1 ≤ r * 65536 ^ k := Nat.mul_le_mul_left _ (Nat.pow_pos (by omega))
            omega
          have hRN := hid (r_next hrk)
          clear hrk
          obtain ⟨j, hj⟩ : ∃ j, i + k = j := ⟨_, rfl⟩
          have hjN : j < N := by have := hNN.out; omega
          obtain ⟨a, ha, hca, hfa⟩ := own_cellM hown hjN
          have hst := hid (own_storeM (f := nV) hown j (a + x * (r % 65536)))
          have hab := le_of_get hle ha
          obtain ⟨q, hq⟩ : ∃ q, r % 65536 = q := ⟨_, rfl⟩
          have hql : q < 65536 := by rw [← hq]; exact Nat.mod_lt _ (by decide)
          obtain ⟨p, hp, hpl, hp1, hp2⟩ := mul_wr hxd hql
          rw [hq, hp] at hst
          have hab' := bnd_a hab hin hn hk
          have hsum := sum_wrT hab' (p := p) (Nat.lt_trans hpl (by decide))
          have hji := wrT (x := (i : Int) + (k : Int)) (n := j) (by rw [← hj]; simp) (Nat.lt_of_lt_of_le hjN (Nat.le_trans hnb (by decide)))
          have hmod : (r : Int).tmod 65536 = (q : Int) := by rw [mod_T, hq]
          have hNXT : Hid (valL (ou.set j (a + p)) + x * (r / 65536) * 65536 ^ (i + (k + 1)) = valL (xs.take (i + 1)) * m) := hid (by
            have h9 := mul_step ou a x r i k _ (by rw [hj]; exact ha) hv.out
            rw [hj, hq, hp] at h9
            exact h9)
          have hSL : Hid (∀ y ∈ ou.set j (a + p), y ≤ 4294967296 * (4 * i + (k + 1))) := hid (set_le ou j (a + p) _ (fun y hy => bnd_n (hle y hy)) (bnd_s hab hpl))
          have hdiv := div_wrT (a := r) (Nat.lt_trans hrm (by decide))
          have hcx' : wr.cell? (ad.add i) = some (nV x) := by
            have h9 := HR.out.below hbel
            obtain ⟨ad2, x2, hA2, _, hx2, hc2⟩ := h9.atM hin
            injection hA2 with hA2
            subst hA2
            rw [HXI.out] at hx2
            injection hx2 with hx2
            subst hx2
            exact hc2
          have zj0 : (0 : Int) ≤ (j : Int) := Int.natCast_nonneg _
          have zj1 : (j : Int) < (N : Int) := Int.ofNat_lt.2 hjN
          obtain ⟨hs1, hs2⟩ := hsum
          obtain ⟨hj1, hj2⟩ := hji
          obtain ⟨hd1, hd2⟩ := hdiv
          have he1 : IntKind.i64.wrap ((r : Int) / 65536) = ((r / 65536 : Nat) : Int) := by rw [← hd1, Int.tdiv_eq_ediv_of_nonneg (Int.natCast_nonneg _)]
          have he2 : wrap64 ((r : Int) / 65536) = ((r / 65536 : Nat) : Int) := by rw [← hd2, Int.tdiv_eq_ediv_of_nonneg (Int.natCast_nonneg _)]
          have hmq : (r : Int) % 65536 = (q : Int) := by rw [← hmod, Int.tmod_eq_emod_of_nonneg (Int.natCast_nonneg _)]
          have HBE := hid hbel
          have hnat : ((a + p : Nat) : Int) = (a : Int) + (p : Int) := by simp
          clear hj hq hp hab hpl hv hle hbel ha hown hrm
          go_wp2_with fail
          go_region
          all_goals
            go_wp2_with fail
            go_roundw
            case rel => exact ⟨r / 65536, k + 1, ou.set j (a + p), by first | rfl | (rw [hd1]) | (rw [hd2]) | simp, by go_num, hRN.out, by omega, by first | exact hst.out.1 | exact hst.out.1.drew, hNXT, hSL.out, by first | exact HBE.out.trans hst.out.2 | exact (HBE.out.trans hst.out.2).drew⟩
            case measure =>
              have hlt9 : r / 65536 < r := Nat.div_lt_self hr0 (by decide)
              simp only [intOf, Int.toNat_natCast]
              first | exact hlt9 | (rw [Int.toNat_natCast]; exact hlt9) | (simp; exact hlt9)
        · have hr9 : r = 0 := by omega
          subst hr9
          have hv9 := hv.out
          rw [Nat.mul_zero, Nat.zero_mul, Nat.add_zero] at hv9
          have HV9 := hid hv9
          have HL9 : Hid (∀ y ∈ ou, y ≤ 4294967296 * (4 * (i + 1))) := hid (fun y hy => bnd_e (hle y hy) hk3)
          have HO9 := hid hown
          have HB9 := hid hbel
          clear hv hv9 hle hown hbel hrk
          go_wp2_with fail
          go_roundw
          case rel => exact ⟨i + 1, ou, by omega, by go_num, HO9.out, HV9.out, HL9.out, HB9.out⟩
          case measure => simp [intOf]; omega
    · have hi9 : i = n := by omega
      have y0 : decide ((i : Int) < (n : Int)) = false := decide_eq_false (by omega)
      have y0' : decide (i < n) = false := decide_eq_false hin
      have hv9 : valL out = valL xs * m := by rw [hval, List.take_of_length_le (by have := HXL.out; omega)]
      have hVLT := valL_lt xs HXD.out
      have hle9 : ∀ y ∈ out, y ≤ 35184372088832 := fun y hy => bnd_l (hle y hy) hi hn
      have HV9 := hid hv9
      have HL9 := hid hle9
      have HO9 := hid hown
      have HB9 := hid hbel
      have HVL := hid hVLT
      have hN1 : 1 ≤ N := by have := hNN.out; omega
      clear hi9 hval hle hle9 hv9 hown hbel hVLT
      go_wp2_with fail
      go_loopw [9] (fun v9 wr => ∃ (j : Nat) (ou : List Nat), j + 1 ≤ N ∧ v9 = .int .i64 (j : Int) ∧ wr.ownsRow w.heap.size 3 1 (.slice (some ⟨w.heap.size, 0, none⟩) N N) N (ou.map nV) ∧ Hid (valL ou = valL xs * m) ∧ (∀ q y, q < j → ou[q]? = some y → y < 65536) ∧ (∀ y, ou[j]? = some y → y ≤ 1125899906842624) ∧ (∀ q y, j < q → ou[q]? = some y → y ≤ 35184372088832) ∧ Below w.heap.size w wr) (fun v9 _ => N - (intOf v9).toNat)
      case atStart => exact ⟨0, out, by omega, rfl, HO9.out, HV9, fun q y h => by omega, fun y hy => Nat.le_trans (HL9.out y (List.mem_of_getElem? hy)) (by omega), fun q y _ hy => HL9.out y (List.mem_of_getElem? hy), HB9.out⟩
      case round =>
        obtain ⟨j, ou, hj, rfl, hown, hv, hlo, hat, hhi, hbel⟩ := hrel
        by_cases hjN : j + 1 < N
        · have u0 : decide ((j : Int) + 1 < (N : Int)) = true := decide_eq_true (by omega)
          have u0' : decide (j + 1 < N) = true := decide_eq_true hjN
          obtain ⟨a, ha, hca, hfa⟩ := own_cellM hown (show j < N by omega)
          obtain ⟨b, hb, hcb, hfb⟩ := own_cellM hown hjN
          have hal := hat a ha
          have hbl := hhi (j + 1) b (by omega) hb
          obtain ⟨J, hJ⟩ : ∃ J, j + 1 = J := ⟨_, rfl⟩
          rw [hJ] at hcb hfb hb hjN
          have hj1 := wrT (x := (j : Int) + 1) (n := J) (by rw [← hJ]; simp) (Nat.lt_of_lt_of_le hjN (Nat.le_trans hnb (by decide)))
          obtain ⟨d, hd⟩ : ∃ d, a / 65536 = d := ⟨_, rfl⟩
          obtain ⟨q, hq⟩ : ∃ q, a % 65536 = q := ⟨_, rfl⟩
          have hdw := div_wrT (a := a) (Nat.lt_of_le_of_lt hal (by decide))
          have hdl := div_le hal
          rw [hd] at hdw hdl
          have hmd : (a : Int).tmod 65536 = (q : Int) := by rw [mod_T, hq]
          have hql : q < 65536 := by rw [← hq]; exact Nat.mod_lt _ (by decide)
          have hsm := sum_wrT (a := b) (p := d) (Nat.lt_of_le_of_lt hbl (by decide)) (Nat.lt_of_le_of_lt hdl (by decide))
          have hbd : b + d ≤ 1125899906842624 := Nat.le_trans (Nat.add_le_add hbl hdl) (by decide)
          obtain ⟨st1, stb⟩ := own_storeM (f := nV) hown J (b + d)
          obtain ⟨a2, ha2, hca2, hfa2⟩ := own_cellM st1 (show j < N by omega)
          have ha2' : a2 = a := by
            rw [List.getElem?_set_ne (by omega), ha] at ha2
            injection ha2 with ha2
            exact ha2.symm
          subst ha2'
          have hst := hid (own_storeM (f := nV) st1 j q)
          have HSTB := hid stb
          have HNX : Hid (valL ((ou.set J (b + d)).set j q) = valL xs * m) := hid (by
            have h9 := carry_step ou j a2 b ha (by rw [hJ]; exact hb)
            rw [hJ, hd, hq] at h9
            rw [h9]
            exact hv.out)
          have HLo : Hid (∀ q2 y, q2 < J → ((ou.set J (b + d)).set j q)[q2]? = some y → y < 65536) := hid (fun q2 y h1 h2 => by
            rcases Nat.lt_or_ge q2 j with h3 | h3
            · rw [List.getElem?_set_ne (by omega), List.getElem?_set_ne (by omega)] at h2
              exact hlo q2 y h3 h2
            · have h4 : q2 = j := by omega
              subst h4
              rw [List.getElem?_set_self (by rw [List.length_set]; exact (List.getElem?_eq_some_iff.1 ha).1)] at h2
              injection h2 with h2
              rw [← h2]
              exact hql)
          have HAt : Hid (∀ y, ((ou.set J (b + d)).set j q)[J]? = some y → y ≤ 1125899906842624) := hid (fun y h2 => by
            rw [List.getElem?_set_ne (by omega), List.getElem?_set_self (List.getElem?_eq_some_iff.1 hb).1] at h2
            injection h2 with h2
            rw [← h2]
            exact hbd)
          have HHi : Hid (∀ q2 y, J < q2 → ((ou.set J (b + d)).set j q)[q2]? = some y → y ≤ 35184372088832) := hid (fun q2 y h1 h2 => by
            rw [List.getElem?_set_ne (by omega), List.getElem?_set_ne (by omega)] at h2
            exact hhi q2 y (by omega) h2)
          have zj0 : (0 : Int) ≤ (j : Int) := Int.natCast_nonneg _
          have zj1 : (j : Int) < (N : Int) := Int.ofNat_lt.2 (Nat.lt_trans (by rw [← hJ]; exact Nat.lt_succ_self j) hjN)
          have zk0 : (0 : Int) ≤ (J : Int) := Int.natCast_nonneg _
          have zk1 : (J : Int) < (N : Int) := Int.ofNat_lt.2 hjN
          obtain ⟨hjw1, hjw2⟩ := hj1
          obtain ⟨hdw1, hdw2⟩ := hdw
          have hdq1 : IntKind.i64.wrap ((a2 : Int) / 65536) = (d : Int) := by rw [← hdw1, Int.tdiv_eq_ediv_of_nonneg (Int.natCast_nonneg _)]
          have hdq2 : wrap64 ((a2 : Int) / 65536) = (d : Int) := by rw [← hdw2, Int.tdiv_eq_ediv_of_nonneg (Int.natCast_nonneg _)]
          have hmq : (a2 : Int) % 65536 = (q : Int) := by rw [← hmd, Int.tmod_eq_emod_of_nonneg (Int.natCast_nonneg _)]
          obtain ⟨hsm1, hsm2⟩ := hsm
          have HBE := hid hbel
          have HJJ := hid hJ
          have hne : j ≠ J := by rw [← hJ]; exact Nat.ne_of_lt (Nat.lt_succ_self j)
          have hne' : J ≠ j := hne.symm
          have hcast : (j : Int) + 1 = (J : Int) := by rw [← hJ]; simp
          clear hd hq hal hbl hdl hbd hql hv hlo hat hhi hbel ha hb hown st1 stb ha2 hJ
          go_wp2_with fail
          go_region
          all_goals
            go_wp2_with fail
            go_roundw
            case rel => exact ⟨J, (ou.set J (b + d)).set j q, by have := HJJ.out; omega, by first | rfl | go_num, by first | exact hst.out.1 | exact hst.out.1.drew, HNX, HLo.out, HAt.out, HHi.out, by first | exact HBE.out.trans (HSTB.out.trans hst.out.2) | exact (HBE.out.trans (HSTB.out.trans hst.out.2)).drew⟩
            case measure => simp [intOf]; omega
        · have hj9 : j + 1 = N := by omega
          have u0 : decide ((j : Int) + 1 < (N : Int)) = false := decide_eq_false (by omega)
          have u0' : decide (j + 1 < N) = false := decide_eq_false hjN
          have HFIN : Hid (∀ y ∈ ou, y < 65536) := hid (by
            have hol : ou.length = N := by simpa using hown.1
            refine valL_last ou j (by omega) (fun q y h1 h2 => hlo q y h1 h2) ?_
            rw [hv.out, hj9, ← hNN.out, Nat.pow_add]
            have h9 := HVL.out
            rw [HXL.out] at h9
            have h10 : (65536 : Nat) ^ 4 = 18446744073709551616 := by decide
            exact Nat.mul_lt_mul'' h9 (by omega))
          have HV9 := hid hv.out
          have HO9 := hid hown
          have HB9 := hid hbel
          clear hv hlo hat hhi hown hbel hj9
          go_wp2_with fail
          go_ret
          exact ⟨some ⟨w.heap.size, 0, none⟩, N, ou, rfl, HO9.out, HFIN.out, HV9.out, HB9.out⟩
end Go.Proofs.Ytojffpfgmlegdaa
