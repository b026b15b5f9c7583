/-
  Plain mathematics of sums of 32 bits: no program in sight.
-/
namespace Go.Proofs.Ytojffpfgmlegdaa

/-- A register one bit down. -/
def dn (x : BitVec 32) : BitVec 32 := if x.toNat % 2 = 1 then (x >>> 1) ^^^ 0xedb88320#32 else x >>> 1
def dnN : Nat → BitVec 32 → BitVec 32
  | 0, x => x
  | k + 1, x => dn (dnN k x)
def feed1 (x : BitVec 32) (c : UInt8) : BitVec 32 := dnN 8 (x ^^^ BitVec.ofNat 32 c.toNat)
def feedL (x : BitVec 32) (l : List UInt8) : BitVec 32 := l.foldl feed1 x
def crcOf (l : List UInt8) : BitVec 32 := 4294967295#32 - feedL 4294967295#32 l

theorem bit0 (x : BitVec 32) : x.getLsbD 0 = decide (x.toNat % 2 = 1) := by
  rw [← BitVec.testBit_toNat, Nat.testBit_zero]
theorem shr_toNat (x : BitVec 32) : (x >>> 1).toNat = x.toNat / 2 := by rw [BitVec.toNat_ushiftRight, Nat.shiftRight_eq_div_pow]
theorem dn_odd (x : BitVec 32) (h : x.toNat % 2 = 1) : (dn x).toNat = (x.toNat / 2) ^^^ 3988292384 := by
  unfold dn
  rw [if_pos h, BitVec.toNat_xor, shr_toNat]
  rfl
theorem dn_even (x : BitVec 32) (h : x.toNat % 2 = 0) : (dn x).toNat = x.toNat / 2 := by
  unfold dn
  rw [if_neg (by omega), shr_toNat]

theorem xor_mod2 (a b : Nat) : (a ^^^ b) % 2 = (a + b) % 2 := by
  have h := Nat.testBit_xor a b 0
  simp only [Nat.testBit_zero] at h
  have hx : (a ^^^ b) % 2 = 1 ↔ ¬ (a % 2 = 1 ↔ b % 2 = 1) := by
    by_cases ha : a % 2 = 1 <;> by_cases hb : b % 2 = 1 <;> simp only [ha, hb, decide_true, decide_false] at h ⊢
    · simpa using h
    · simpa using h
    · simpa using h
    · simpa using h
  omega
theorem dn_xor (x y : BitVec 32) : dn (x ^^^ y) = dn x ^^^ dn y := by
  unfold dn
  rw [BitVec.toNat_xor, xor_mod2, BitVec.ushiftRight_xor_distrib]
  by_cases hx : x.toNat % 2 = 1 <;> by_cases hy : y.toNat % 2 = 1
  · rw [if_neg (by omega), if_pos hx, if_pos hy]
    rw [BitVec.xor_assoc, ← BitVec.xor_assoc (x := 3988292384#32), BitVec.xor_comm 3988292384#32, BitVec.xor_assoc, BitVec.xor_self, BitVec.xor_zero]
  · rw [if_pos (by omega), if_pos hx, if_neg hy]
    rw [BitVec.xor_assoc, BitVec.xor_assoc, BitVec.xor_comm (y >>> 1)]
  · rw [if_pos (by omega), if_neg hx, if_pos hy, BitVec.xor_assoc]
  · rw [if_neg (by omega), if_neg hx, if_neg hy]
theorem dnN_xor (k : Nat) (x y : BitVec 32) : dnN k (x ^^^ y) = dnN k x ^^^ dnN k y := by
  induction k with
  | zero => rfl
  | succ k ih => simp only [dnN]; rw [ih, dn_xor]
theorem dn_zero : dn 0#32 = 0#32 := by decide
theorem dnN_zero (k : Nat) : dnN k 0#32 = 0#32 := by
  induction k with
  | zero => rfl
  | succ k ih => simp only [dnN]; rw [ih, dn_zero]
theorem dn_eq_zero (x : BitVec 32) (h : dn x = 0#32) : x = 0#32 := by
  have hx := x.isLt
  rcases Nat.mod_two_eq_zero_or_one x.toNat with h0 | h1
  · have := dn_even x h0
    rw [h] at this
    apply BitVec.eq_of_toNat_eq
    simp at this ⊢
    omega
  · have := dn_odd x h1
    rw [h] at this
    have h2 : x.toNat / 2 < 2 ^ 31 := by omega
    have hb := congrArg (fun n => Nat.testBit n 31) this
    simp only [Nat.testBit_xor, Nat.testBit_lt_two_pow h2] at hb
    have hf : ((0#32 : BitVec 32).toNat.testBit 31 = (false ^^ Nat.testBit 3988292384 31)) = False := by decide
    rw [hf] at hb
    exact hb.elim
theorem dnN_eq_zero (k : Nat) (x : BitVec 32) (h : dnN k x = 0#32) : x = 0#32 := by
  induction k with
  | zero => exact h
  | succ k ih => exact ih (dn_eq_zero _ h)
theorem xor_eq_zero (x y : BitVec 32) : x ^^^ y = 0#32 ↔ x = y := by
  constructor
  · intro h
    have : x ^^^ y ^^^ y = 0#32 ^^^ y := by rw [h]
    rwa [BitVec.xor_assoc, BitVec.xor_self, BitVec.xor_zero, BitVec.zero_xor] at this
  · rintro rfl; exact BitVec.xor_self
theorem dnN_inj (k : Nat) (x y : BitVec 32) (h : dnN k x = dnN k y) : x = y := by
  rw [← xor_eq_zero]
  apply dnN_eq_zero k
  rw [dnN_xor, h, BitVec.xor_self]
theorem dnN_add (j k : Nat) (x : BitVec 32) : dnN (j + k) x = dnN j (dnN k x) := by
  induction j with
  | zero => simp [dnN]
  | succ j ih => rw [Nat.add_right_comm]; simp only [dnN]; rw [ih]
/-- Eight steps of the upper bits: they only move. -/
theorem dnN_upper (k : Nat) (hk : k ≤ 8) (x : BitVec 32) (h : x.toNat % 256 = 0) : dnN k x = x >>> k := by
  induction k with
  | zero => simp [dnN]
  | succ k ih =>
    simp only [dnN]
    rw [ih (by omega)]
    have e : (x >>> k).toNat = x.toNat / 2 ^ k := by rw [BitVec.toNat_ushiftRight, Nat.shiftRight_eq_div_pow]
    have h2 : (x >>> k).toNat % 2 = 0 := by
      rw [e]
      obtain ⟨q, hq⟩ := Nat.dvd_of_mod_eq_zero h
      have h8 : 256 = 2 ^ k * (2 * 2 ^ (7 - k)) := by
        rw [← Nat.pow_succ', ← Nat.pow_add]
        rw [show k + (7 - k + 1) = 8 by omega]
      rw [hq, h8, Nat.mul_assoc, Nat.mul_div_cancel_left _ (Nat.pow_pos (by omega)), Nat.mul_assoc, Nat.mul_mod_right]
    unfold dn
    rw [if_neg (by omega)]
    apply BitVec.eq_of_toNat_eq
    simp only [BitVec.toNat_ushiftRight, Nat.shiftRight_add]
/-- A register's lower byte with a byte, and its upper ones. -/
def lowC (x : BitVec 32) (c : UInt8) : Nat := (x.toNat % 256) ^^^ c.toNat
theorem lowC_lt (x : BitVec 32) (c : UInt8) : lowC x c < 256 := Nat.xor_lt_two_pow (n := 8) (by omega) (by have := c.toNat_lt; omega)
theorem feed1_table (x : BitVec 32) (c : UInt8) : feed1 x c = (x >>> 8) ^^^ dnN 8 (BitVec.ofNat 32 (lowC x c)) := by
  unfold feed1
  have hs : x ^^^ BitVec.ofNat 32 c.toNat = (x >>> 8) <<< 8 ^^^ BitVec.ofNat 32 (lowC x c) := by
    apply BitVec.eq_of_getLsbD_eq
    intro i hi
    have hc := c.toNat_lt
    simp only [BitVec.getLsbD_xor, BitVec.getLsbD_ofNat, BitVec.getLsbD_shiftLeft, BitVec.getLsbD_ushiftRight, lowC, Nat.testBit_xor]
    rw [show (256 : Nat) = 2 ^ 8 from rfl, Nat.testBit_mod_two_pow, BitVec.testBit_toNat]
    by_cases h8 : i < 8
    · simp [h8, hi]
    · have hct : c.toNat.testBit i = false := Nat.testBit_lt_two_pow (Nat.lt_of_lt_of_le hc (Nat.pow_le_pow_right (by omega) (by omega)))
      simp [h8, hi, hct, show 8 + (i - 8) = i by omega]
  rw [hs, dnN_xor, dnN_upper 8 (Nat.le_refl _)]
  · congr 1
    apply BitVec.eq_of_getLsbD_eq
    intro i hi
    simp only [BitVec.getLsbD_ushiftRight, BitVec.getLsbD_shiftLeft]
    by_cases h : 8 + i < 32
    · simp [h]
    · simp only [h, decide_false, Bool.false_and]
      rw [BitVec.getLsbD_of_ge _ _ (by omega)]
  · rw [BitVec.toNat_shiftLeft, Nat.shiftLeft_eq]
    omega
theorem feed1_inj_state (x y : BitVec 32) (c : UInt8) (h : feed1 x c = feed1 y c) : x = y := by
  have h1 := dnN_inj 8 _ _ h
  rw [← xor_eq_zero] at h1 ⊢
  rw [BitVec.xor_comm y, ← BitVec.xor_assoc, BitVec.xor_assoc x, BitVec.xor_self, BitVec.xor_zero] at h1
  exact h1
theorem ofNat_byte_inj (a b : UInt8) (h : BitVec.ofNat 32 a.toNat = BitVec.ofNat 32 b.toNat) : a = b := by
  have h1 := congrArg BitVec.toNat h
  have := a.toNat_lt
  have := b.toNat_lt
  simp only [BitVec.toNat_ofNat] at h1
  exact UInt8.toNat.inj (by omega)
theorem feed1_inj_byte (x : BitVec 32) (a b : UInt8) (h : feed1 x a = feed1 x b) : a = b := by
  have h1 := dnN_inj 8 _ _ h
  apply ofNat_byte_inj
  rw [← xor_eq_zero] at h1 ⊢
  rw [BitVec.xor_comm x, BitVec.xor_assoc, ← BitVec.xor_assoc x, BitVec.xor_self, BitVec.zero_xor] at h1
  exact h1
theorem feedL_inj_state (l : List UInt8) : ∀ x y : BitVec 32, feedL x l = feedL y l → x = y := by
  induction l with
  | nil => exact fun x y h => h
  | cons c l ih => exact fun x y h => feed1_inj_state x y c (ih _ _ h)
theorem feedL_append (x : BitVec 32) (a b : List UInt8) : feedL x (a ++ b) = feedL (feedL x a) b := List.foldl_append
theorem crc_eq_iff (a b : List UInt8) : crcOf a = crcOf b ↔ feedL 4294967295#32 a = feedL 4294967295#32 b := by
  constructor
  · intro h
    have e1 : ∀ z : BitVec 32, 4294967295#32 - z = ~~~z := by
      intro z
      apply BitVec.eq_of_toNat_eq
      have := z.isLt
      rw [BitVec.toNat_sub, BitVec.toNat_not]
      simp
      omega
    unfold crcOf at h
    rw [e1, e1] at h
    simpa using congrArg (fun z => ~~~z) h
  · intro h; unfold crcOf; rw [h]
theorem ones_sub (x : BitVec 32) : 4294967295 ^^^ x.toNat = (4294967295#32 - x).toNat := by
  have h : 4294967295#32 - x = ~~~x := by
    apply BitVec.eq_of_toNat_eq
    have := x.isLt
    rw [BitVec.toNat_sub, BitVec.toNat_not]
    simp
    omega
  rw [h, ← BitVec.xor_allOnes, BitVec.toNat_xor, Nat.xor_comm]
  rfl
/-- One byte turned: another sum. -/
theorem crc_turned (b : List UInt8) (k : Nat) (hk : k < b.length) (x : UInt8) (hx : x ≠ b[k]) : crcOf b ≠ crcOf (b.set k x) := by
  intro h
  rw [crc_eq_iff] at h
  have e1 : b = b.take k ++ b[k] :: b.drop (k + 1) := by rw [List.getElem_cons_drop, List.take_append_drop]
  have e2 : b.set k x = b.take k ++ x :: b.drop (k + 1) := List.set_eq_take_append_cons_drop.trans (by rw [if_pos hk])
  rw [e2] at h
  rw [show feedL 4294967295#32 b = feedL 4294967295#32 (b.take k ++ b[k] :: b.drop (k + 1)) by rw [← e1]] at h
  rw [feedL_append, feedL_append] at h
  exact hx (feed1_inj_byte _ _ _ (feedL_inj_state _ _ _ h)).symm
/-- No byte but 0 is its own table word. -/
theorem table_moves : ∀ d : Fin 256, d.val ≠ 0 → dnN 8 (BitVec.ofNat 32 d.val) ≠ BitVec.ofNat 32 d.val := by decide +kernel
theorem swap2 (s : BitVec 32) (a b : UInt8) : feed1 (feed1 s a) b = feed1 (feed1 s b) a ↔ a = b := by
  constructor
  · intro h
    have h1 := dnN_inj 8 _ _ h
    unfold feed1 at h1
    rw [dnN_xor, dnN_xor] at h1
    rw [← xor_eq_zero] at h1
    have hc : dnN 8 (BitVec.ofNat 32 a.toNat ^^^ BitVec.ofNat 32 b.toNat) = BitVec.ofNat 32 a.toNat ^^^ BitVec.ofNat 32 b.toNat := by
      rw [dnN_xor, ← xor_eq_zero, ← h1]
      generalize dnN 8 s = S
      generalize dnN 8 (BitVec.ofNat 32 a.toNat) = A
      generalize dnN 8 (BitVec.ofNat 32 b.toNat) = B
      generalize BitVec.ofNat 32 a.toNat = p
      generalize BitVec.ofNat 32 b.toNat = q
      apply BitVec.eq_of_getLsbD_eq
      intro i _
      simp only [BitVec.getLsbD_xor]
      cases S.getLsbD i <;> cases A.getLsbD i <;> cases B.getLsbD i <;> cases p.getLsbD i <;> cases q.getLsbD i <;> rfl
    have hx : BitVec.ofNat 32 a.toNat ^^^ BitVec.ofNat 32 b.toNat = BitVec.ofNat 32 (a.toNat ^^^ b.toNat) := by
      apply BitVec.eq_of_toNat_eq
      have := a.toNat_lt
      have := b.toNat_lt
      have h2 : a.toNat ^^^ b.toNat < 2 ^ 8 := Nat.xor_lt_two_pow (by omega) (by omega)
      simp only [BitVec.toNat_xor, BitVec.toNat_ofNat]
      rw [Nat.mod_eq_of_lt (by omega), Nat.mod_eq_of_lt (by omega), Nat.mod_eq_of_lt (by omega)]
    rw [hx] at hc
    have h2 : a.toNat ^^^ b.toNat < 2 ^ 8 := Nat.xor_lt_two_pow (by have := a.toNat_lt; omega) (by have := b.toNat_lt; omega)
    by_cases h0 : a.toNat ^^^ b.toNat = 0
    · apply UInt8.toNat.inj
      have : a.toNat ^^^ b.toNat ^^^ b.toNat = 0 ^^^ b.toNat := by rw [h0]
      rwa [Nat.xor_assoc, Nat.xor_self, Nat.xor_zero, Nat.zero_xor] at this
    · exact absurd hc (table_moves ⟨_, h2⟩ h0)
  · rintro rfl; rfl

end Go.Proofs.Ytojffpfgmlegdaa
