/-
  The bytes of frame tables, plainly: reading them, and what was read put again.
-/
import Derived.Test.YtbnodcenlggcnaaReader
import Derived.Test.YtbnodcenlggcnaaTabPlain
namespace Go.Proofs.Ytbnodcenlggcnaa

theorem numOf_rng (m w : Nat) (hm : m < 256 ^ w) : ∀ k, k ≤ w → numOf ((digs m w).take k) = m / 256 ^ (w - k)
  | 0, _ => by rw [List.take_zero, Nat.sub_zero, Nat.div_eq_of_lt hm]; rfl
  | k + 1, hk => by
    rw [digs_take_succ m w k (by omega), numOf_snoc, numOf_rng m w hm k (by omega)]
    unfold dig
    rw [UInt8.toNat_ofNat', show w - k = (w - 1 - k) + 1 by omega, Nat.pow_succ, ← Nat.div_div_eq_div_mul, show w - (k + 1) = w - 1 - k by omega]
    have := Nat.div_add_mod (m / 256 ^ (w - 1 - k)) 256
    omega
theorem numOf_pB (n : Int) (w : Nat) (hw : w ≤ 6) : numOf (putB n w) = clip n w := by
  unfold putB
  have h := numOf_rng (clip n w) w (clip_lt n w hw) w (Nat.le_refl _)
  rw [List.take_of_length_le (by simp [digs])] at h
  rw [h]
  simp
theorem numOf_inj : ∀ (n : Nat) (l m : List UInt8), l.length = n → m.length = n → numOf l = numOf m → l = m
  | 0, l, m, hl, hm, _ => by rw [List.eq_nil_of_length_eq_zero hl, List.eq_nil_of_length_eq_zero hm]
  | n + 1, l, m, hl, hm, he => by
    rcases List.eq_nil_or_concat l with rfl | ⟨l', c, rfl⟩
    · simp at hl
    rcases List.eq_nil_or_concat m with rfl | ⟨m', d, rfl⟩
    · simp at hm
    simp only [List.concat_eq_append] at he hl hm ⊢
    rw [numOf_snoc, numOf_snoc] at he
    have h1 := c.toNat_lt
    have h2 := d.toNat_lt
    have hcd : c.toNat = d.toNat := by omega
    have hlm : numOf l' = numOf m' := by omega
    rw [numOf_inj n l' m' (by simpa using hl) (by simpa using hm) hlm, UInt8.toNat_inj.1 hcd]
theorem putB_numOf (l : List UInt8) (hl : l.length ≤ 6) : putB (numOf l : Int) l.length = l := by
  refine numOf_inj l.length _ _ (putB_length _ _) rfl ?_
  rw [numOf_pB _ _ hl]
  have := numOf_lt l
  unfold clip
  rw [Int.toNat_natCast]
  omega

/-- A number of so many bytes that lies within them. -/
theorem rNum_put {n : Int} {w : Nat} (rest : List UInt8) (hw : 1 ≤ w ∧ w ≤ 6) (h0 : 0 ≤ n) (h1 : n < (256 : Int) ^ w) : ((rNum ⟨putB n w ++ rest, 0⟩ (w : Int)).1 : Int) = n ∧ (rNum ⟨putB n w ++ rest, 0⟩ (w : Int)).2 = ⟨rest, 0⟩ := by
  have hwid : wid (w : Int) = w := by unfold wid; split <;> (try split) <;> omega
  have hl := putB_length n w
  have hb : rBytes ⟨putB n w ++ rest, 0⟩ (w : Int) = (putB n w, ⟨rest, 0⟩) := by
    unfold rBytes
    simp only
    rw [if_neg (by omega), if_neg (by rw [List.length_append, hl]; omega), Int.toNat_natCast, List.take_left' hl, List.drop_left' hl]
  unfold rNum
  rw [hwid, hb]
  refine ⟨?_, rfl⟩
  show ((numOf (putB n w) : Nat) : Int) = n
  rw [numOf_pB n w hw.2]
  have e : ((256 ^ w : Nat) : Int) = (256 : Int) ^ w := by simp
  unfold clip
  have := pow256_le w hw.2
  omega
/-- A number that was read without an error. -/
theorem rNum_got {s : RS} {w : Nat} (hw : 1 ≤ w ∧ w ≤ 6) (h : (rNum s (w : Int)).2.e = 0) : s.e = 0 ∧ s.b = putB ((rNum s (w : Int)).1 : Int) w ++ (rNum s (w : Int)).2.b ∧ (rNum s (w : Int)).1 < 256 ^ w := by
  have hwid : wid (w : Int) = w := by unfold wid; split <;> (try split) <;> omega
  obtain ⟨b, e⟩ := s
  unfold rNum at h ⊢
  rw [hwid] at h ⊢
  unfold rBytes at h ⊢
  simp only at h ⊢
  by_cases h1 : e ≠ 0 ∨ (w : Int) ≤ 0
  · rw [if_pos h1] at h
    simp only at h
    omega
  · rw [if_neg h1] at h ⊢
    by_cases h2 : (b.length : Int) < (w : Int)
    · rw [if_pos h2] at h
      simp at h
    · rw [if_neg h2] at h ⊢
      simp only [Int.toNat_natCast] at h ⊢
      have hl : (b.take w).length = w := by rw [List.length_take]; omega
      have hp := putB_numOf (b.take w) (by omega)
      rw [hl] at hp
      have hlt := numOf_lt (b.take w)
      rw [hl] at hlt
      exact ⟨h, by rw [hp, List.take_append_drop], hlt⟩
theorem rNum_len (s : RS) (w : Int) : (rNum s w).2.b.length ≤ s.b.length := rNum_rest s w
theorem rNum_bd (s : RS) (w : Int) : (rNum s w).1 < 256 ^ wid w := by
  have h := rBytes_len s (wid w) (by omega)
  unfold rNum
  simp only
  exact Nat.lt_of_lt_of_le (numOf_lt _) (Nat.pow_le_pow_right (by omega) (by omega))
theorem rNum_bd1 (s : RS) : (rNum s 1).1 < 256 := rNum_bd s 1

def rdMany {α : Type} (f : RS → α × RS) : Nat → RS → List α × RS
  | 0, s => ([], s)
  | n + 1, s => ((rdMany f n s).1 ++ [(f (rdMany f n s).2).1], (f (rdMany f n s).2).2)
theorem rdMany_len {α : Type} (f : RS → α × RS) (s : RS) : ∀ n, (rdMany f n s).1.length = n
  | 0 => rfl
  | n + 1 => by simp [rdMany, rdMany_len f s n]
theorem rdMany_rest {α : Type} (f : RS → α × RS) (hf : ∀ s, (f s).2.b.length ≤ s.b.length) (s : RS) : ∀ n, (rdMany f n s).2.b.length ≤ s.b.length
  | 0 => Nat.le_refl _
  | n + 1 => Nat.le_trans (hf _) (rdMany_rest f hf s n)
def rd3 {α : Type} (mk : Int → Int → Int → α) (w : Nat) (s : RS) : α × RS :=
  (mk (rNum s 1).1 (rNum (rNum s 1).2 1).1 (rNum (rNum (rNum s 1).2 1).2 w).1, (rNum (rNum (rNum s 1).2 1).2 w).2)
abbrev rdPart : RS → PartS × RS := rd3 PartS.mk 2
abbrev rdWin : RS → WinS × RS := rd3 WinS.mk 1
abbrev rdChan : RS → ChanS × RS := rd3 ChanS.mk 1
theorem rd3_rest {α : Type} (mk : Int → Int → Int → α) (w : Nat) (s : RS) : (rd3 mk w s).2.b.length ≤ s.b.length :=
  Nat.le_trans (rNum_rest _ _) (Nat.le_trans (rNum_rest _ _) (rNum_rest _ _))

def partB (p : PartS) : List UInt8 := putB p.mem 1 ++ putB p.fuel 1 ++ putB p.hard 2
def winBy (x : WinS) : List UInt8 := putB x.part 1 ++ putB x.at_ 1 ++ putB x.long 1
def chanBy (x : ChanS) : List UInt8 := putB x.src 1 ++ putB x.dst 1 ++ putB x.depth 1
def headT (t : TabS) : List UInt8 := putB t.frame 1 ++ putB t.trial 1 ++ putB (t.parts.length : Int) 1 ++ putB (t.wins.length : Int) 1 ++ putB (t.chans.length : Int) 1
def tabB (t : TabS) : List UInt8 := headT t ++ t.parts.flatMap partB ++ t.wins.flatMap winBy ++ t.chans.flatMap chanBy

def tabZ : TabS := ⟨0, [], [], [], 0⟩
structure HeadS where
  f : Nat
  t : Nat
  p : Nat
  w : Nat
  c : Nat
def rdHead (s : RS) : HeadS × RS :=
  (⟨(rNum s 1).1, (rNum (rNum s 1).2 1).1, (rNum (rNum (rNum s 1).2 1).2 1).1, (rNum (rNum (rNum (rNum s 1).2 1).2 1).2 1).1, (rNum (rNum (rNum (rNum (rNum s 1).2 1).2 1).2 1).2 1).1⟩, (rNum (rNum (rNum (rNum (rNum s 1).2 1).2 1).2 1).2 1).2)
/-- What is read, whether or not it is well. -/
def getT (b : List UInt8) : TabS × RS :=
  (⟨(rdHead ⟨b, 0⟩).1.f, (rdMany rdPart (rdHead ⟨b, 0⟩).1.p (rdHead ⟨b, 0⟩).2).1, (rdMany rdWin (rdHead ⟨b, 0⟩).1.w (rdMany rdPart (rdHead ⟨b, 0⟩).1.p (rdHead ⟨b, 0⟩).2).2).1,
    (rdMany rdChan (rdHead ⟨b, 0⟩).1.c (rdMany rdWin (rdHead ⟨b, 0⟩).1.w (rdMany rdPart (rdHead ⟨b, 0⟩).1.p (rdHead ⟨b, 0⟩).2).2).2).1, (rdHead ⟨b, 0⟩).1.t⟩,
    (rdMany rdChan (rdHead ⟨b, 0⟩).1.c (rdMany rdWin (rdHead ⟨b, 0⟩).1.w (rdMany rdPart (rdHead ⟨b, 0⟩).1.p (rdHead ⟨b, 0⟩).2).2).2).2)
def getB (b : List UInt8) : TabS × Int := if rEnd (getT b).2 ≠ 0 then (tabZ, rEnd (getT b).2) else if rightB (getT b).1 = true then ((getT b).1, 0) else (tabZ, 9)

/-! ### What is put is got. -/
theorem rd3_put {α : Type} (mk : Int → Int → Int → α) (w : Nat) (hw : 1 ≤ w ∧ w ≤ 6) (a b c : Int) (ha : 0 ≤ a ∧ a < 256) (hb : 0 ≤ b ∧ b < 256) (hc : 0 ≤ c ∧ c < (256 : Int) ^ w) (rest : List UInt8) :
    rd3 mk w ⟨(putB a 1 ++ putB b 1 ++ putB c w) ++ rest, 0⟩ = (mk a b c, ⟨rest, 0⟩) := by
  have h1 := rNum_put (n := a) (w := 1) (putB b 1 ++ (putB c w ++ rest)) (by omega) ha.1 (by simpa using ha.2)
  have h2 := rNum_put (n := b) (w := 1) (putB c w ++ rest) (by omega) hb.1 (by simpa using hb.2)
  have h3 := rNum_put (n := c) (w := w) rest hw hc.1 hc.2
  simp only [Int.cast_ofNat_Int] at h1 h2 h3
  unfold rd3
  simp only [List.append_assoc]
  rw [h1.2, h2.2, h3.2, h1.1, h2.1, h3.1]
theorem rdMany_put {α : Type} (f : RS → α × RS) (g : α → List UInt8) : ∀ (l : List α) (rest : List UInt8), (∀ x ∈ l, ∀ r, f ⟨g x ++ r, 0⟩ = (x, ⟨r, 0⟩)) → ∀ k, k ≤ l.length → rdMany f k ⟨l.flatMap g ++ rest, 0⟩ = (l.take k, ⟨(l.drop k).flatMap g ++ rest, 0⟩) := by
  intro l rest h k hk
  induction k with
  | zero => rfl
  | succ k ih =>
    have hlt : k < l.length := by omega
    unfold rdMany
    rw [ih (by omega), List.drop_eq_getElem_cons hlt]
    simp only [List.flatMap_cons, List.append_assoc]
    rw [h _ (List.getElem_mem hlt), List.take_succ_eq_append_getElem hlt]
theorem rdMany_put_all {α : Type} (f : RS → α × RS) (g : α → List UInt8) (l : List α) (rest : List UInt8) (h : ∀ x ∈ l, ∀ r, f ⟨g x ++ r, 0⟩ = (x, ⟨r, 0⟩)) : rdMany f l.length ⟨l.flatMap g ++ rest, 0⟩ = (l, ⟨rest, 0⟩) := by
  rw [rdMany_put f g l rest h l.length (Nat.le_refl _)]
  simp
theorem rdHead_put (t : TabS) (h : RightT t) (rest : List UInt8) : rdHead ⟨headT t ++ rest, 0⟩ = (⟨t.frame.toNat, t.trial.toNat, t.parts.length, t.wins.length, t.chans.length⟩, ⟨rest, 0⟩) := by
  have f1 := h.f1
  have f2 := h.f2
  have r1 := h.r1
  have r2 := h.r2
  have p2 := h.p2
  have w8 := h.w8
  have c4 := h.c4
  have h1 := rNum_put (n := t.frame) (w := 1) (putB t.trial 1 ++ (putB (t.parts.length : Int) 1 ++ (putB (t.wins.length : Int) 1 ++ (putB (t.chans.length : Int) 1 ++ rest)))) (by omega) (by omega) (by simp; omega)
  have h2 := rNum_put (n := t.trial) (w := 1) (putB (t.parts.length : Int) 1 ++ (putB (t.wins.length : Int) 1 ++ (putB (t.chans.length : Int) 1 ++ rest))) (by omega) (by omega) (by simp; omega)
  have h3 := rNum_put (n := (t.parts.length : Int)) (w := 1) (putB (t.wins.length : Int) 1 ++ (putB (t.chans.length : Int) 1 ++ rest)) (by omega) (by omega) (by simp; omega)
  have h4 := rNum_put (n := (t.wins.length : Int)) (w := 1) (putB (t.chans.length : Int) 1 ++ rest) (by omega) (by omega) (by simp; omega)
  have h5 := rNum_put (n := (t.chans.length : Int)) (w := 1) rest (by omega) (by omega) (by simp; omega)
  simp only [Int.cast_ofNat_Int] at h1 h2 h3 h4 h5
  unfold rdHead headT
  simp only [List.append_assoc]
  rw [h1.2, h2.2, h3.2, h4.2, h5.2]
  have e1 := h1.1
  have e2 := h2.1
  have e3 := h3.1
  have e4 := h4.1
  have e5 := h5.1
  congr 1
  congr 1 <;> omega
theorem getT_put (t : TabS) (h : RightT t) : getT (tabB t) = (t, ⟨[], 0⟩) := by
  have hp := rdMany_put_all rdPart partB t.parts (t.wins.flatMap winBy ++ (t.chans.flatMap chanBy ++ [])) (fun x hx r => by
    obtain ⟨a1, a2, a3, a4, a5, a6⟩ := h.ps x hx
    exact rd3_put PartS.mk 2 (by omega) x.mem x.fuel x.hard (by omega) (by omega) ⟨a5, by simp; omega⟩ r)
  have hw := rdMany_put_all rdWin winBy t.wins (t.chans.flatMap chanBy ++ []) (fun x hx r => by
    obtain ⟨a1, a2, a3, a4, a5⟩ := h.win x hx
    have := h.f2
    have := h.p2
    exact rd3_put WinS.mk 1 (by omega) x.part x.at_ x.long (by omega) (by omega) (by simp; omega) r)
  have hc := rdMany_put_all rdChan chanBy t.chans [] (fun x hx r => by
    obtain ⟨a1, a2, a3, a4, a5, a6, a7⟩ := h.cs x hx
    have := h.p2
    exact rd3_put ChanS.mk 1 (by omega) x.src x.dst x.depth (by omega) (by omega) (by simp; omega) r)
  have hh := rdHead_put t h (t.parts.flatMap partB ++ (t.wins.flatMap winBy ++ (t.chans.flatMap chanBy ++ [])))
  have e : tabB t = headT t ++ (t.parts.flatMap partB ++ (t.wins.flatMap winBy ++ (t.chans.flatMap chanBy ++ []))) := by unfold tabB; simp
  unfold getT
  rw [e, hh]
  simp only
  rw [hp]
  simp only
  rw [hw]
  simp only
  rw [hc]
  have f1 := h.f1
  have r1 := h.r1
  obtain ⟨f, ps, ws, cs, tr⟩ := t
  simp only at f1 r1 ⊢
  congr 2 <;> omega
theorem getB_put (t : TabS) (h : rightB t = true) : getB (tabB t) = (t, 0) := by
  unfold getB
  rw [getT_put t ((rightB_iff t).1 h)]
  simp only
  rw [if_neg (by simp [rEnd]), if_pos h]

/-! ### What was got, put again, is the very bytes. -/
theorem rd3_got {α : Type} (mk : Int → Int → Int → α) (g : α → List UInt8) (w : Nat) (hw : 1 ≤ w ∧ w ≤ 6) (hg : ∀ a b c, g (mk a b c) = putB a 1 ++ putB b 1 ++ putB c w) (s : RS) (h : (rd3 mk w s).2.e = 0) :
    s.e = 0 ∧ s.b = g (rd3 mk w s).1 ++ (rd3 mk w s).2.b := by
  unfold rd3 at h ⊢
  simp only at h ⊢
  obtain ⟨h1, h2, -⟩ := rNum_got hw h
  obtain ⟨h3, h4, -⟩ := rNum_got (w := 1) (by omega) h1
  obtain ⟨h5, h6, -⟩ := rNum_got (w := 1) (by omega) h3
  refine ⟨h5, ?_⟩
  rw [hg, List.append_assoc, List.append_assoc, ← h2]
  simp only [Int.cast_ofNat_Int] at h4 h6
  rw [← h4, ← h6]
theorem rdMany_got {α : Type} (f : RS → α × RS) (g : α → List UInt8) (hf : ∀ s, (f s).2.e = 0 → s.e = 0 ∧ s.b = g (f s).1 ++ (f s).2.b) (s : RS) : ∀ k, (rdMany f k s).2.e = 0 → s.e = 0 ∧ s.b = (rdMany f k s).1.flatMap g ++ (rdMany f k s).2.b
  | 0, h => ⟨h, rfl⟩
  | k + 1, h => by
    obtain ⟨h1, h2⟩ := hf _ h
    obtain ⟨h3, h4⟩ := rdMany_got f g hf s k h1
    refine ⟨h3, ?_⟩
    rw [h4, h2]
    simp [rdMany]
theorem getT_got (b : List UInt8) (he : (getT b).2.e = 0) : b = tabB (getT b).1 ++ (getT b).2.b := by
  unfold getT at he ⊢
  simp only at he ⊢
  obtain ⟨c1, c2⟩ := rdMany_got rdChan chanBy (fun s h => rd3_got ChanS.mk chanBy 1 (by omega) (fun _ _ _ => rfl) s h) _ _ he
  obtain ⟨w1, w2⟩ := rdMany_got rdWin winBy (fun s h => rd3_got WinS.mk winBy 1 (by omega) (fun _ _ _ => rfl) s h) _ _ c1
  obtain ⟨p1, p2⟩ := rdMany_got rdPart partB (fun s h => rd3_got PartS.mk partB 2 (by omega) (fun _ _ _ => rfl) s h) _ _ w1
  have lp := rdMany_len rdPart (rdHead ⟨b, 0⟩).2 (rdHead ⟨b, 0⟩).1.p
  have lw := rdMany_len rdWin (rdMany rdPart (rdHead ⟨b, 0⟩).1.p (rdHead ⟨b, 0⟩).2).2 (rdHead ⟨b, 0⟩).1.w
  have lc := rdMany_len rdChan (rdMany rdWin (rdHead ⟨b, 0⟩).1.w (rdMany rdPart (rdHead ⟨b, 0⟩).1.p (rdHead ⟨b, 0⟩).2).2).2 (rdHead ⟨b, 0⟩).1.c
  unfold tabB headT
  simp only [List.append_assoc]
  rw [← c2, ← w2, ← p2, lp, lw, lc]
  clear c1 c2 w1 w2 p2 lp lw lc he
  unfold rdHead at p1 ⊢
  simp only at p1 ⊢
  obtain ⟨q1, q2, -⟩ := rNum_got (w := 1) (by omega) p1
  obtain ⟨q3, q4, -⟩ := rNum_got (w := 1) (by omega) q1
  obtain ⟨q5, q6, -⟩ := rNum_got (w := 1) (by omega) q3
  obtain ⟨q7, q8, -⟩ := rNum_got (w := 1) (by omega) q5
  obtain ⟨q9, q10, -⟩ := rNum_got (w := 1) (by omega) q7
  simp only [Int.cast_ofNat_Int] at q2 q4 q6 q8 q10
  rw [← q2, ← q4, ← q6, ← q8]
  exact q10
theorem getB_got (b : List UInt8) (h : (getB b).2 = 0) : rightB (getB b).1 = true ∧ tabB (getB b).1 = b := by
  unfold getB at h ⊢
  by_cases h1 : rEnd (getT b).2 ≠ 0
  · rw [if_pos h1] at h
    exact absurd h h1
  · rw [if_neg h1] at h ⊢
    by_cases h2 : rightB (getT b).1 = true
    · rw [if_pos h2]
      simp only at h1 ⊢
      have he : rEnd (getT b).2 = 0 := by omega
      unfold rEnd at he
      split at he
      · exact absurd he (by assumption)
      · next he0 =>
        split at he
        · next hb =>
          have := getT_got b (by omega)
          rw [hb, List.append_nil] at this
          exact ⟨h2, this.symm⟩
        · cases he
    · rw [if_neg h2] at h
      cases h
theorem flatMap_len {α : Type} (g : α → List UInt8) (n : Nat) (h : ∀ x, (g x).length = n) : ∀ l : List α, (l.flatMap g).length = l.length * n
  | [] => by simp
  | x :: l => by rw [List.flatMap_cons, List.length_append, h, flatMap_len g n h l, List.length_cons, Nat.add_mul]; omega
theorem partB_len (p : PartS) : (partB p).length = 4 := by simp [partB, putB_length]
theorem winBy_len (p : WinS) : (winBy p).length = 3 := by simp [winBy, putB_length]
theorem chanBy_len (p : ChanS) : (chanBy p).length = 3 := by simp [chanBy, putB_length]
theorem headT_len (t : TabS) : (headT t).length = 5 := by simp [headT, putB_length]
end Go.Proofs.Ytbnodcenlggcnaa
