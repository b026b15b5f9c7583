/-
  Who runs when, plainly: positions of a frame, counted.
-/
import Derived.Test.YtbnodcenlggcnaaTabSum
namespace Go.Proofs.Ytbnodcenlggcnaa

/-- How many of n numbers from a on. -/
def cntZ (f : Int → Bool) (a : Int) : Nat → Int
  | 0 => 0
  | n + 1 => (if f a then 1 else 0) + cntZ f (a + 1) n
theorem cntZ_add (f : Int → Bool) : ∀ (m n : Nat) (a : Int), cntZ f a (m + n) = cntZ f a m + cntZ f (a + m) n
  | 0, n, a => by simp [cntZ]
  | m + 1, n, a => by
    rw [show m + 1 + n = (m + n) + 1 by omega]
    simp only [cntZ]
    rw [cntZ_add f m n (a + 1), show a + 1 + (m : Int) = a + ((m + 1 : Nat) : Int) by omega]
    omega
theorem cntZ_snoc (f : Int → Bool) (a : Int) (n : Nat) : cntZ f a (n + 1) = cntZ f a n + if f (a + n) then 1 else 0 := by
  rw [cntZ_add f n 1 a]
  simp [cntZ]
theorem cntZ_congr {f g : Int → Bool} : ∀ (n : Nat) (a : Int), (∀ i, a ≤ i → i < a + n → f i = g i) → cntZ f a n = cntZ g a n
  | 0, _, _ => rfl
  | n + 1, a, h => by
    simp only [cntZ]
    rw [h a (by omega) (by omega), cntZ_congr (g := g) n (a + 1) (fun i h1 h2 => h i (by omega) (by omega))]
theorem cntZ_false : ∀ (n : Nat) (a : Int), cntZ (fun _ => false) a n = 0
  | 0, _ => rfl
  | n + 1, a => by
    have := cntZ_false n (a + 1)
    simp only [cntZ]
    simpa using this
theorem cntZ_true : ∀ (n : Nat) (a : Int), cntZ (fun _ => true) a n = n
  | 0, _ => rfl
  | n + 1, a => by
    have := cntZ_true n (a + 1)
    simp only [cntZ, if_true]
    omega
theorem cntZ_shift (f : Int → Bool) (d : Int) : ∀ (n : Nat) (a : Int), cntZ f (a + d) n = cntZ (fun i => f (i + d)) a n
  | 0, _ => rfl
  | n + 1, a => by
    simp only [cntZ]
    rw [show a + d + 1 = (a + 1) + d by omega, cntZ_shift f d n]
theorem cntZ_nonneg (f : Int → Bool) : ∀ (n : Nat) (a : Int), 0 ≤ cntZ f a n ∧ cntZ f a n ≤ n
  | 0, _ => by simp [cntZ]
  | n + 1, a => by
    have := cntZ_nonneg f n (a + 1)
    simp only [cntZ]
    by_cases h : f a = true
    · rw [if_pos h]; omega
    · rw [if_neg h]; omega
theorem cntZ_pos {f : Int → Bool} : ∀ (n : Nat) (a : Int), 0 < cntZ f a n → ∃ i, a ≤ i ∧ i < a + n ∧ f i = true
  | 0, _, h => by simp [cntZ] at h
  | n + 1, a, h => by
    by_cases hf : f a = true
    · exact ⟨a, by omega, by omega, hf⟩
    · simp only [cntZ, if_neg hf] at h
      obtain ⟨i, h1, h2, h3⟩ := cntZ_pos (f := f) n (a + 1) (by omega)
      exact ⟨i, by omega, by omega, h3⟩
/-- The partition that runs at a position; -1: nobody. -/
def partL (l : List WinS) (pos : Int) : Int := match l.find? (posB pos) with | some w => w.part | none => -1
def startL (l : List WinS) (pos : Int) : Bool := match l.find? (posB pos) with | some w => w.at_ == pos | none => false
def hitB (p : Int) (l : List WinS) (pos : Int) : Bool := match l.find? (posB pos) with | some w => w.part == p | none => false
theorem hitB_part (p : Int) (l : List WinS) (pos : Int) (hp : 0 ≤ p) : hitB p l pos = (partL l pos == p) := by
  unfold hitB partL
  cases l.find? (posB pos) with
  | none => simp only; symm; simp; omega
  | some w => rfl
theorem posB_false_of_lt {pos : Int} {w : WinS} (h : pos < w.at_) : posB pos w = false := by simp [posB]; omega
theorem posB_false_of_ge {pos : Int} {w : WinS} (h : w.at_ + w.long ≤ pos) : posB pos w = false := by simp [posB]; omega
theorem posB_true {pos : Int} {w : WinS} (h1 : w.at_ ≤ pos) (h2 : pos < w.at_ + w.long) : posB pos w = true := by simp [posB, h1, h2]
theorem find_early {t : TabS} {l : List WinS} {e pos : Int} (h : winsOk t e l = true) (hp : pos < e) : l.find? (posB pos) = none := by
  rw [List.find?_eq_none]
  intro w hw
  have := (winsOk_mem t l e h w hw).2.2.1
  rw [posB_false_of_lt (by omega)]
  simp
/-- Counted over a frame, a partition has its share. -/
theorem cnt_share (t : TabS) (p : Int) : ∀ (l : List WinS) (e : Int) (n : Nat), winsOk t e l = true → e + n = t.frame → cntZ (hitB p l) e n = shareL p l
  | [], e, n, _, _ => by
    rw [cntZ_congr (f := hitB p []) (g := fun _ => false) n e (fun i _ _ => rfl), cntZ_false]
    simp [shareL]
  | w :: l, e, n, h, hn => by
    obtain ⟨⟨_, _, h3, h4, h5⟩, h6⟩ := (winsOk_cons t e w l).1 h
    obtain ⟨a, ha⟩ : ∃ a : Nat, w.at_ = e + a := ⟨(w.at_ - e).toNat, by omega⟩
    obtain ⟨b, hb⟩ : ∃ b : Nat, w.long = b := ⟨w.long.toNat, by omega⟩
    obtain ⟨c, hc⟩ : ∃ c : Nat, n = a + b + c := ⟨n - a - b, by omega⟩
    subst hc
    rw [cntZ_add, cntZ_add, shareL_cons]
    have e1 : cntZ (hitB p (w :: l)) e a = 0 := by
      rw [cntZ_congr (g := fun _ => false) a e, cntZ_false]
      intro i h1 h2
      have : (w :: l).find? (posB i) = none := by
        rw [List.find?_cons_of_neg (by rw [posB_false_of_lt (by omega)]; simp)]
        exact find_early h6 (by omega)
      unfold hitB
      rw [this]
    have e2 : cntZ (hitB p (w :: l)) (e + a) b = if w.part = p then w.long else 0 := by
      rw [cntZ_congr (g := fun _ => w.part == p) b (e + a)]
      · by_cases hp : w.part = p
        · rw [if_pos hp, hb]
          simp only [hp, beq_self_eq_true]
          exact cntZ_true b _
        · rw [if_neg hp]
          have : (w.part == p) = false := by simpa using hp
          simp only [this]
          exact cntZ_false b _
      · intro i h1 h2
        unfold hitB
        rw [List.find?_cons_of_pos (posB_true (by omega) (by omega))]
    have e3 : cntZ (hitB p (w :: l)) (e + ((a + b : Nat) : Int)) c = shareL p l := by
      rw [← cnt_share t p l (w.at_ + w.long) c h6 (by omega)]
      rw [show e + ((a + b : Nat) : Int) = w.at_ + w.long by omega]
      refine cntZ_congr c _ (fun i h1 h2 => ?_)
      unfold hitB
      rw [List.find?_cons_of_neg (by rw [posB_false_of_ge (by omega)]; simp)]
    rw [e1, e2, e3]
    omega
def startsB (p : Int) (l : List WinS) (pos : Int) : Bool := hitB p l pos && startL l pos
/-- Counted over a frame, as many windows of a partition start as it has. -/
theorem cnt_starts (t : TabS) (p : Int) : ∀ (l : List WinS) (e : Int) (n : Nat), winsOk t e l = true → e + n = t.frame → cntZ (startsB p l) e n = ((l.filter fun w => w.part == p).length : Int)
  | [], e, n, _, _ => by
    rw [cntZ_congr (f := startsB p []) (g := fun _ => false) n e (fun i _ _ => rfl), cntZ_false]
    simp
  | w :: l, e, n, h, hn => by
    obtain ⟨⟨_, _, h3, h4, h5⟩, h6⟩ := (winsOk_cons t e w l).1 h
    obtain ⟨a, ha⟩ : ∃ a : Nat, w.at_ = e + a := ⟨(w.at_ - e).toNat, by omega⟩
    obtain ⟨b, hb⟩ : ∃ b : Nat, w.long = 1 + b := ⟨(w.long - 1).toNat, by omega⟩
    obtain ⟨c, hc⟩ : ∃ c : Nat, n = a + (1 + b) + c := ⟨n - a - (1 + b), by omega⟩
    subst hc
    rw [cntZ_add, cntZ_add]
    have e1 : cntZ (startsB p (w :: l)) e a = 0 := by
      rw [cntZ_congr (g := fun _ => false) a e, cntZ_false]
      intro i h1 h2
      have : (w :: l).find? (posB i) = none := by
        rw [List.find?_cons_of_neg (by rw [posB_false_of_lt (by omega)]; simp)]
        exact find_early h6 (by omega)
      unfold startsB hitB
      rw [this]
      rfl
    have e2 : cntZ (startsB p (w :: l)) (e + a) (1 + b) = if w.part == p then 1 else 0 := by
      rw [cntZ_add]
      have f1 : cntZ (startsB p (w :: l)) (e + a) 1 = if w.part == p then 1 else 0 := by
        simp only [cntZ]
        have hf : (w :: l).find? (posB (e + a)) = some w := List.find?_cons_of_pos (posB_true (by omega) (by omega))
        have : startsB p (w :: l) (e + a) = (w.part == p) := by
          unfold startsB hitB startL
          rw [hf]
          simp only
          rw [show (w.at_ == e + (a : Int)) = true by simpa using ha]
          simp
        rw [this]
        omega
      have f2 : cntZ (startsB p (w :: l)) (e + a + (1 : Nat)) b = 0 := by
        rw [cntZ_congr (g := fun _ => false) b, cntZ_false]
        intro i h1 h2
        have hf : (w :: l).find? (posB i) = some w := List.find?_cons_of_pos (posB_true (by omega) (by omega))
        unfold startsB hitB startL
        rw [hf]
        simp only
        rw [show (w.at_ == i) = false by simp; omega]
        simp
      rw [f1, f2]
      omega
    have e3 : cntZ (startsB p (w :: l)) (e + ((a + (1 + b) : Nat) : Int)) c = ((l.filter fun w => w.part == p).length : Int) := by
      rw [← cnt_starts t p l (w.at_ + w.long) c h6 (by omega)]
      rw [show e + ((a + (1 + b) : Nat) : Int) = w.at_ + w.long by omega]
      refine cntZ_congr c _ (fun i h1 h2 => ?_)
      unfold startsB hitB startL
      rw [List.find?_cons_of_neg (by rw [posB_false_of_ge (by omega)]; simp)]
    rw [e1, e2, e3, List.filter_cons]
    split
    · rw [List.length_cons]; omega
    · omega
/-- The first window that a position is in is the one that starts there, if any does. -/
theorem start_any (t : TabS) (pos : Int) : ∀ (l : List WinS) (e : Int), winsOk t e l = true → startL l pos = l.any fun w => w.at_ == pos
  | [], _, _ => rfl
  | w :: l, e, h => by
    obtain ⟨⟨_, _, h3, h4, h5⟩, h6⟩ := (winsOk_cons t e w l).1 h
    rw [List.any_cons]
    by_cases hp : posB pos w = true
    · unfold startL
      rw [List.find?_cons_of_pos hp]
      simp only
      simp only [posB, Bool.and_eq_true, decide_eq_true_eq] at hp
      have : (l.any fun w => w.at_ == pos) = false := by
        rw [List.any_eq_false]
        intro x hx
        have := (winsOk_mem t l _ h6 x hx).2.2.1
        simp
        omega
      rw [this, Bool.or_false]
    · have h7 := start_any t pos l _ h6
      unfold startL at h7 ⊢
      rw [List.find?_cons_of_neg hp, h7]
      have : (w.at_ == pos) = false := by
        simp only [posB, Bool.and_eq_true, decide_eq_true_eq] at hp
        simp
        omega
      rw [this, Bool.false_or]
theorem startL_any {t : TabS} (h : RightT t) (pos : Int) : startL t.wins pos = t.wins.any fun w => w.at_ == pos := start_any t pos t.wins 0 h.ws
/-- The window of a position, and its partition. -/
theorem part_idx (l : List WinS) (pos : Int) : ∀ k : Nat, idxB (posB pos) l = (k : Int) → ∃ w, l[k]? = some w ∧ l.find? (posB pos) = some w := by
  intro k hk
  unfold idxB at hk
  cases h : l.findIdx? (posB pos) with
  | none => rw [h] at hk; simp only at hk; omega
  | some i =>
    rw [h] at hk
    simp only at hk
    have : i = k := by omega
    subst this
    obtain ⟨hi, hp, hlt⟩ := List.findIdx?_eq_some_iff_getElem.1 h
    refine ⟨l[i], List.getElem?_eq_getElem hi, ?_⟩
    rw [List.find?_eq_some_iff_getElem]
    exact ⟨hp, i, hi, rfl, fun j hj => by simpa using hlt j hj⟩
theorem part_none (l : List WinS) (pos : Int) (h : idxB (posB pos) l < 0) : l.find? (posB pos) = none := by
  unfold idxB at h
  cases hi : l.findIdx? (posB pos) with
  | none => rw [List.find?_eq_none]; intro w hw; have := List.findIdx?_eq_none_iff.1 hi w hw; simp [this]
  | some i => rw [hi] at h; simp only at h; omega
theorem partL_ge {t : TabS} (h : RightT t) (pos : Int) : -1 ≤ partL t.wins pos ∧ partL t.wins pos < t.parts.length := by
  unfold partL
  have := h.p1
  cases hf : t.wins.find? (posB pos) with
  | none => simp only; omega
  | some w =>
    have := h.win w (List.mem_of_find?_eq_some hf)
    simp only
    have h1 := this.1
    have h2 := this.2.1
    omega
end Go.Proofs.Ytbnodcenlggcnaa
