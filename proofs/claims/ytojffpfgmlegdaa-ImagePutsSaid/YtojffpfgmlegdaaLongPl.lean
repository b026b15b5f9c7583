/-
  Long numbers by parts of 16 bits, plainly; when a power is at most another number.
-/
import Derived.Test.YtojffpfgmlegdaaRootPlain
namespace Go.Proofs.Ytojffpfgmlegdaa

def valL : List Nat → Nat
  | [] => 0
  | a :: l => a + 65536 * valL l
theorem valL_set : ∀ (l : List Nat) (j v x : Nat), l[j]? = some x → valL (l.set j v) + x * 65536 ^ j = valL l + v * 65536 ^ j
  | [], _, _, _, h => by simp at h
  | a :: l, 0, v, x, h => by
    simp at h
    subst h
    simp [valL]
    omega
  | a :: l, j + 1, v, x, h => by
    have ih := valL_set l j v x (by simpa using h)
    simp only [List.set_cons_succ, valL, Nat.pow_succ]
    have e1 : x * (65536 ^ j * 65536) = 65536 * (x * 65536 ^ j) := by rw [← Nat.mul_assoc, Nat.mul_comm]
    have e2 : v * (65536 ^ j * 65536) = 65536 * (v * 65536 ^ j) := by rw [← Nat.mul_assoc, Nat.mul_comm]
    rw [e1, e2]
    omega
theorem valL_split : ∀ (l : List Nat) (k : Nat), k ≤ l.length → valL l = valL (l.take k) + 65536 ^ k * valL (l.drop k)
  | l, 0, _ => by simp [valL]
  | [], k + 1, h => by simp at h
  | a :: l, k + 1, h => by
    have ih := valL_split l k (by simpa using h)
    simp only [List.take_succ_cons, List.drop_succ_cons, valL, Nat.pow_succ]
    rw [ih, Nat.mul_add, Nat.mul_comm (65536 ^ k) 65536, Nat.mul_assoc]
    omega
theorem valL_take_succ (l : List Nat) (k x : Nat) (h : l[k]? = some x) : valL (l.take (k + 1)) = valL (l.take k) + x * 65536 ^ k := by
  have hk := (List.getElem?_eq_some_iff.1 h).1
  have h1 := valL_split (l.take (k + 1)) k (by rw [List.length_take]; omega)
  rw [List.take_take, show min k (k + 1) = k by omega, List.take_add_one, h] at h1
  rw [List.take_add_one, h]
  have e : (l.take k ++ (some x).toList).drop k = [x] := by rw [List.drop_left' (by rw [List.length_take]; omega)]; rfl
  rw [h1, e]
  simp [valL, Nat.mul_comm]
theorem valL_drop_succ (l : List Nat) (k x : Nat) (h : l[k]? = some x) : valL (l.drop k) = x + 65536 * valL (l.drop (k + 1)) := by
  obtain ⟨hk, hx⟩ := List.getElem?_eq_some_iff.1 h
  rw [List.drop_eq_getElem_cons hk, hx]
  rfl
theorem valL_lt : ∀ (l : List Nat), (∀ x ∈ l, x < 65536) → valL l < 65536 ^ l.length
  | [], _ => by simp [valL]
  | a :: l, h => by
    have ih := valL_lt l (fun x hx => h x (by simp [hx]))
    have ha := h a (by simp)
    simp only [valL, List.length_cons, Nat.pow_succ]
    omega
theorem valL_ge (l : List Nat) (k x : Nat) (h : l[k]? = some x) : x * 65536 ^ k ≤ valL l := by
  have h1 := valL_split l k (Nat.le_of_lt (List.getElem?_eq_some_iff.1 h).1)
  rw [valL_drop_succ l k x h] at h1
  rw [h1, Nat.mul_add, Nat.mul_comm x]
  omega
theorem valL_zeros (n : Nat) : valL (List.replicate n 0) = 0 := by
  induction n with
  | zero => rfl
  | succ n ih => rw [List.replicate_succ]; simp [valL, ih]
theorem valL_take_zero (l : List Nat) : ∀ k, k ≤ l.length → (∀ j, j < k → l[j]? = some 0) → valL (l.take k) = 0
  | 0, _, _ => by simp [valL]
  | k + 1, hk, h => by
    rw [valL_take_succ l k 0 (h k (by omega)), valL_take_zero l k (by omega) (fun j hj => h j (by omega))]
    simp
/-- All digits but the last are small, and so is the whole: the last one is small too. -/
theorem valL_last (l : List Nat) (n : Nat) (hl : l.length = n + 1) (hd : ∀ j x, j < n → l[j]? = some x → x < 65536) (hv : valL l < 65536 ^ (n + 1)) : ∀ x ∈ l, x < 65536 := by
  intro x hx
  obtain ⟨j, hj, rfl⟩ := List.mem_iff_getElem.1 hx
  rcases Nat.lt_or_ge j n with h | h
  · exact hd j _ h (List.getElem?_eq_getElem hj)
  · have hjn : j = n := by omega
    subst hjn
    have h1 := valL_ge l j _ (List.getElem?_eq_getElem hj)
    rw [Nat.pow_succ] at hv
    have hp : 0 < 65536 ^ j := Nat.pow_pos (by omega)
    rcases Nat.lt_or_ge l[j] 65536 with h2 | h2
    · exact h2
    · have h3 := Nat.mul_le_mul_right (65536 ^ j) h2
      rw [Nat.mul_comm 65536] at h3
      omega
theorem pow_parts (d : Nat) : 65536 ^ (2 * d) = 4294967296 ^ d := by
  rw [Nat.pow_mul]
/-- The upper part is more than p: it doesn't fit. -/
theorem fits_no (xs : List Nat) (m p d i : Nat) (hv : valL xs = m ^ d) (hi : 2 * d ≤ i) (hil : i ≤ xs.length) (hn : p < valL (xs.drop i)) : fitsB m p d = false := by
  unfold fitsB
  refine decide_eq_false ?_
  have h1 := valL_split xs i hil
  rw [← hv, ← pow_parts]
  have h2 : 65536 ^ (2 * d) ≤ 65536 ^ i := Nat.pow_le_pow_right (by omega) hi
  have h3 : (p + 1) * 65536 ^ (2 * d) ≤ valL (xs.drop i) * 65536 ^ i := Nat.mul_le_mul hn h2
  have h4 : 0 < 65536 ^ (2 * d) := Nat.pow_pos (by omega)
  rw [Nat.add_mul, Nat.one_mul, Nat.mul_comm (valL _)] at h3
  omega
theorem fits_end (xs : List Nat) (m p d : Nat) (hv : valL xs = m ^ d) (hl : 2 * d ≤ xs.length) (hdig : ∀ x ∈ xs, x < 65536) :
    (valL (xs.drop (2 * d)) < p → fitsB m p d = true) ∧ (valL (xs.drop (2 * d)) = p → (fitsB m p d = true ↔ valL (xs.take (2 * d)) = 0)) := by
  have h1 := valL_split xs (2 * d) hl
  have h2 := valL_lt (xs.take (2 * d)) (fun x hx => hdig x (List.mem_of_mem_take hx))
  rw [List.length_take, Nat.min_eq_left hl] at h2
  unfold fitsB
  rw [← hv, ← pow_parts]
  generalize valL (xs.drop (2 * d)) = U at *
  generalize valL (xs.take (2 * d)) = L at *
  generalize 65536 ^ (2 * d) = P at *
  constructor
  · intro h
    refine decide_eq_true ?_
    have h3 : (U + 1) * P ≤ p * P := Nat.mul_le_mul_right P h
    rw [Nat.add_mul, Nat.one_mul, Nat.mul_comm U] at h3
    omega
  · rintro rfl
    rw [decide_eq_true_iff, h1, Nat.mul_comm U]
    omega
theorem fits_pos (xs : List Nat) (j x n : Nat) (hn : n ≤ xs.length) (hj : j < n) (hx : xs[j]? = some x) (h0 : 0 < x) : valL (xs.take n) ≠ 0 := by
  have h1 := valL_ge (xs.take n) j x (by rw [List.getElem?_take, if_pos hj]; exact hx)
  have h2 : 0 < 65536 ^ j := Nat.pow_pos (by omega)
  have h3 : 0 < x * 65536 ^ j := Nat.mul_pos h0 h2
  omega

/-! ### Multiplying: the rounds. -/
/-- One part is added. -/
theorem mul_step (out : List Nat) (a x r i k : Nat) (V : Nat) (ha : out[i + k]? = some a) (h : valL out + x * r * 65536 ^ (i + k) = V) :
    valL (out.set (i + k) (a + x * (r % 65536))) + x * (r / 65536) * 65536 ^ (i + (k + 1)) = V := by
  have h1 := valL_set out (i + k) (a + x * (r % 65536)) a ha
  have h2 : x * r * 65536 ^ (i + k) = x * (r % 65536) * 65536 ^ (i + k) + x * (r / 65536) * 65536 ^ (i + (k + 1)) := by
    rw [show i + (k + 1) = (i + k) + 1 by omega, Nat.pow_succ]
    have h3 : r = r % 65536 + 65536 * (r / 65536) := (Nat.mod_add_div r 65536).symm
    calc x * r * 65536 ^ (i + k) = x * (r % 65536 + 65536 * (r / 65536)) * 65536 ^ (i + k) := by rw [← h3]
      _ = x * (r % 65536) * 65536 ^ (i + k) + x * (65536 * (r / 65536)) * 65536 ^ (i + k) := by rw [Nat.mul_add, Nat.add_mul]
      _ = _ := by
        congr 1
        rw [Nat.mul_comm (65536 ^ (i + k)) 65536, ← Nat.mul_assoc, ← Nat.mul_assoc, Nat.mul_right_comm x 65536]
  rw [Nat.add_mul] at h1
  omega
/-- One carry. -/
theorem carry_step (l : List Nat) (i a b : Nat) (ha : l[i]? = some a) (hb : l[i + 1]? = some b) : valL ((l.set (i + 1) (b + a / 65536)).set i (a % 65536)) = valL l := by
  have h1 := valL_set l (i + 1) (b + a / 65536) b hb
  have h2 := valL_set (l.set (i + 1) (b + a / 65536)) i (a % 65536) a (by rw [List.getElem?_set_ne (by omega)]; exact ha)
  rw [Nat.pow_succ, Nat.add_mul] at h1
  have h3 : a = a % 65536 + 65536 * (a / 65536) := (Nat.mod_add_div a 65536).symm
  have h4 : a * 65536 ^ i = a % 65536 * 65536 ^ i + a / 65536 * (65536 ^ i * 65536) := by
    calc a * 65536 ^ i = (a % 65536 + 65536 * (a / 65536)) * 65536 ^ i := by rw [← h3]
      _ = _ := by rw [Nat.add_mul]; congr 1; rw [Nat.mul_comm (65536 ^ i) 65536, ← Nat.mul_assoc, Nat.mul_comm 65536]
  omega
theorem set_le (l : List Nat) (j v B : Nat) (h : ∀ x ∈ l, x ≤ B) (hv : v ≤ B) : ∀ x ∈ l.set j v, x ≤ B := by
  intro x hx
  rcases List.mem_or_eq_of_mem_set hx with h1 | h1
  · exact h x h1
  · rw [h1]; exact hv
end Go.Proofs.Ytojffpfgmlegdaa
