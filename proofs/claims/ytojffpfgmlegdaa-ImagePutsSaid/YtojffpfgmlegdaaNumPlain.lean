/-
  Plain mathematics of numbers of so many bytes: no program in sight.
-/
namespace Go.Proofs.Ytojffpfgmlegdaa

def wid (x : Int) : Nat := if x < 1 then 1 else if x > 6 then 6 else x.toNat
theorem wid_bd (x : Int) : 1 ≤ wid x ∧ wid x ≤ 6 := by unfold wid; split <;> (try split) <;> omega

/-- Digit j of w of a number. -/
def dig (m w j : Nat) : UInt8 := UInt8.ofNat (m / 256 ^ (w - 1 - j))
def digs (m w : Nat) : List UInt8 := (List.range w).map (dig m w)
/-- A number, held within so many bytes. -/
def clip (n : Int) (w : Nat) : Nat := min n.toNat (256 ^ w - 1)
def putB (n : Int) (w : Nat) : List UInt8 := digs (clip n w) w
/-- A text's bytes: its length, then itself. -/
def textB (t : List UInt8) : List UInt8 := putB (min t.length 65535 : Nat) 2 ++ t.take 65535

theorem digs_length (m w : Nat) : (digs m w).length = w := by simp [digs]
theorem putB_length (n : Int) (w : Nat) : (putB n w).length = w := digs_length _ _
theorem digs_take_succ (m w k : Nat) (h : k < w) : (digs m w).take (k + 1) = (digs m w).take k ++ [dig m w k] := by
  rw [List.take_succ_eq_append_getElem (by simpa [digs] using h)]
  simp [digs]
theorem pow_cases (w : Nat) (h1 : 1 ≤ w) (h2 : w ≤ 6) : w = 1 ∨ w = 2 ∨ w = 3 ∨ w = 4 ∨ w = 5 ∨ w = 6 := by omega
theorem pow256_le (w : Nat) (h : w ≤ 6) : 1 ≤ 256 ^ w ∧ 256 ^ w ≤ 281474976710656 := by
  have : w = 0 ∨ w = 1 ∨ w = 2 ∨ w = 3 ∨ w = 4 ∨ w = 5 ∨ w = 6 := by omega
  rcases this with rfl | rfl | rfl | rfl | rfl | rfl | rfl <;> decide
theorem clip_lt (n : Int) (w : Nat) (h : w ≤ 6) : clip n w < 256 ^ w := by have := pow256_le w h; unfold clip; omega

theorem dig_val (m w k : Nat) (h : k < w) : (m : Int) / 2 ^ (8 * (w - k - 1)) % 256 = ((dig m w k).toNat : Int) := by
  unfold dig
  rw [show w - 1 - k = w - k - 1 by omega, UInt8.toNat_ofNat', show (256 : Nat) = 2 ^ 8 from rfl, ← Nat.pow_mul]
  have e : ((2 ^ (8 * (w - k - 1)) : Nat) : Int) = 2 ^ (8 * (w - k - 1)) := by simp
  rw [← e]
  omega

/-- What the first loop of the reference's Put has laid behind k rounds. -/
def rowD (m w k : Nat) : List UInt8 := (List.range w).map fun j => if j + k < w then 0 else dig m w j
theorem rowD_length (m w k : Nat) : (rowD m w k).length = w := by simp [rowD]
theorem rowD_zero (m w : Nat) : rowD m w 0 = List.replicate w 0 := by
  apply List.ext_getElem
  · simp [rowD]
  · intro i h1 h2
    simp [rowD] at h1
    simp [rowD, h1]
theorem rowD_full (m w : Nat) : rowD m w w = digs m w := by
  apply List.ext_getElem
  · simp [rowD, digs]
  · intro i h1 h2
    simp [rowD, digs]
    intro h
    omega
theorem rowD_set (m w k : Nat) (h : k < w) : (rowD m w k).set (w - 1 - k) (dig m w (w - 1 - k)) = rowD m w (k + 1) := by
  apply List.ext_getElem
  · simp [rowD]
  · intro i h1 h2
    simp [rowD] at h2
    simp only [rowD, List.getElem_set, List.getElem_map, List.getElem_range]
    by_cases hi : w - 1 - k = i
    · subst hi
      rw [if_pos rfl, if_neg (by omega)]
    · rw [if_neg hi]
      by_cases hj : i + k < w
      · rw [if_pos hj, if_pos (by omega)]
      · rw [if_neg hj, if_neg (by omega)]
/-- What its second loop has laid. -/
def rowF (m w k : Nat) : List UInt8 := (List.range w).map fun j => if j < k then 255 else dig m w j
theorem rowF_zero (m w : Nat) : rowF m w 0 = digs m w := by simp [rowF, digs]
theorem rowF_set (m w k : Nat) (h : k < w) : (rowF m w k).set k 255 = rowF m w (k + 1) := by
  apply List.ext_getElem
  · simp [rowF]
  · intro i h1 h2
    simp [rowF] at h2
    simp only [rowF, List.getElem_set, List.getElem_map, List.getElem_range]
    by_cases hi : k = i
    · subst hi
      rw [if_pos rfl, if_pos (by omega)]
    · rw [if_neg hi]
      by_cases hj : i < k
      · rw [if_pos hj, if_pos (by omega)]
      · rw [if_neg hj, if_neg (by omega)]
theorem rowF_length (m w k : Nat) : (rowF m w k).length = w := by simp [rowF]
theorem digs_full (w : Nat) (h : w ≤ 6) : digs (256 ^ w - 1) w = List.replicate w 255 := by
  have : w = 0 ∨ w = 1 ∨ w = 2 ∨ w = 3 ∨ w = 4 ∨ w = 5 ∨ w = 6 := by omega
  rcases this with rfl | rfl | rfl | rfl | rfl | rfl | rfl <;> decide
theorem rowF_full (m w : Nat) : rowF m w w = List.replicate w 255 := by
  apply List.ext_getElem
  · simp [rowF]
  · intro i h1 h2
    simp [rowF] at h1
    simp [rowF, h1]
/-- The reference's bytes are those of the number held below. -/
theorem putB_small (x : Int) (w : Nat) (h : x.toNat / 256 ^ w = 0) : putB x w = digs x.toNat w := by
  have hp : 0 < 256 ^ w := Nat.pow_pos (by omega)
  have : x.toNat < 256 ^ w := by
    rcases Nat.div_eq_zero_iff.1 h with h | h
    · omega
    · exact h
  unfold putB clip
  rw [Nat.min_eq_left (by omega)]
theorem putB_large (x : Int) (w : Nat) (hw : w ≤ 6) (h : 0 < x.toNat / 256 ^ w) : putB x w = List.replicate w 255 := by
  have h1 : 256 ^ w ≤ x.toNat := by
    rcases Nat.lt_or_ge x.toNat (256 ^ w) with h' | h'
    · rw [Nat.div_eq_of_lt h'] at h; omega
    · exact h'
  unfold putB clip
  rw [Nat.min_eq_right (by omega)]
  exact digs_full w hw
theorem putB_neg (x : Int) (w : Nat) (hw : w ≤ 6) (h : x < 0) : putB x w = List.replicate w 0 := by
  unfold putB clip
  rw [show x.toNat = 0 by omega, Nat.zero_min]
  have : w = 0 ∨ w = 1 ∨ w = 2 ∨ w = 3 ∨ w = 4 ∨ w = 5 ∨ w = 6 := by omega
  rcases this with rfl | rfl | rfl | rfl | rfl | rfl | rfl <;> decide
theorem dig_rem (m w k d : Nat) (h : k < w) (hd : d = m / 256 ^ k) : (d : Int) % 256 = ((dig m w (w - 1 - k)).toNat : Int) := by
  unfold dig
  subst hd
  rw [show w - 1 - (w - 1 - k) = k by omega, UInt8.toNat_ofNat']
  omega
theorem div_step (m k : Nat) : m / 256 ^ k / 256 = m / 256 ^ (k + 1) := by rw [Nat.div_div_eq_div_mul, Nat.pow_succ]

end Go.Proofs.Ytojffpfgmlegdaa
