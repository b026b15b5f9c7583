/-
  The reference's rule for windows, plainly: positions used, and the last start.
-/
import Derived.Test.YtbnodcenlggcnaaTabPlain
namespace Go.Proofs.Ytbnodcenlggcnaa

/-- Where the last window ends. -/
def endW : Int → List WinS → Int
  | e, [] => e
  | _, w :: l => endW (w.at_ + w.long) l
theorem endW_snoc (w : WinS) : ∀ (l : List WinS) (e : Int), endW e (l ++ [w]) = w.at_ + w.long
  | [], e => rfl
  | x :: l, e => by
    show endW (x.at_ + x.long) (l ++ [w]) = _
    exact endW_snoc w l _
theorem winsOk_append (t : TabS) (m : List WinS) : ∀ (l : List WinS) (e : Int), winsOk t e (l ++ m) = (winsOk t e l && winsOk t (endW e l) m)
  | [], e => by simp [winsOk, endW]
  | x :: l, e => by
    simp only [List.cons_append, winsOk, endW]
    rw [winsOk_append t m l]
    rw [Bool.and_assoc]
theorem winsOk_at (t : TabS) (k : Nat) (x : WinS) (hx : t.wins[k]? = some x) (h : winsOk t 0 t.wins = true) : winBad t (endW 0 (t.wins.take k)) x = false := by
  have hk := (List.getElem?_eq_some_iff.1 hx).1
  have hs : t.wins = t.wins.take k ++ (x :: t.wins.drop (k + 1)) := by
    conv => lhs; rw [← List.take_append_drop k t.wins]
    congr 1
    rw [List.drop_eq_getElem_cons hk]
    congr 1
    exact (List.getElem?_eq_some_iff.1 hx).2
  rw [hs, winsOk_append, Bool.and_eq_true] at h
  obtain ⟨_, h2⟩ := h
  simp only [winsOk, Bool.and_eq_true, Bool.not_eq_true'] at h2
  exact h2.1
theorem winsOk_next (t : TabS) (k : Nat) (x : WinS) (hx : t.wins[k]? = some x) (h : winsOk t 0 (t.wins.take k) = true) (hb : winBad t (endW 0 (t.wins.take k)) x = false) : winsOk t 0 (t.wins.take (k + 1)) = true := by
  rw [List.take_add_one, hx]
  show winsOk t 0 (t.wins.take k ++ [x]) = true
  rw [winsOk_append, h]
  simp [winsOk, hb]
theorem endW_next (t : TabS) (k : Nat) (x : WinS) (hx : t.wins[k]? = some x) : endW 0 (t.wins.take (k + 1)) = x.at_ + x.long := by
  rw [List.take_add_one, hx]
  exact endW_snoc x _ _
theorem care_next (t : TabS) (k : Nat) (x : WinS) (hx : t.wins[k]? = some x) : careB (t.wins.take (k + 1)) = (careB (t.wins.take k) || x.part == 0) := by
  rw [List.take_add_one, hx]
  simp [careB]
theorem right_not_win (t : TabS) (k : Nat) (x : WinS) (hx : t.wins[k]? = some x) (hb : winBad t (endW 0 (t.wins.take k)) x = true) : rightB t = false := by
  cases hr : rightB t with
  | false => rfl
  | true =>
    have := winsOk_at t k x hx ((rightB_iff t).1 hr).ws
    rw [this] at hb
    cases hb
/-- What is known of the positions used, behind so many windows. -/
structure UsedT (t : TabS) (F : Nat) (lst e : Int) (u : List Bool) : Prop where
  len : u.length = F
  e0 : 0 ≤ e
  eF : e ≤ F
  l1 : -1 ≤ lst
  l2 : (0 ≤ lst ∧ lst < e) ∨ (lst = -1 ∧ e = 0)
  yes : ∀ p : Nat, lst ≤ p → (p : Int) < e → 0 ≤ lst → u[p]? = some true
  no : ∀ p : Nat, e ≤ p → p < F → u[p]? = some false
theorem usedT_new (t : TabS) (F : Nat) : UsedT t F (-1) 0 (List.replicate F false) :=
  ⟨by simp, by omega, by omega, by omega, .inr ⟨rfl, rfl⟩, fun p _ h _ => by omega, fun p _ h => by rw [List.getElem?_replicate, if_pos h]⟩
/-- Behind the positions of a window up to q. -/
structure MidT (F s q : Nat) (u : List Bool) : Prop where
  len : u.length = F
  yes : ∀ p : Nat, s ≤ p → p < q → u[p]? = some true
  no : ∀ p : Nat, q ≤ p → p < F → u[p]? = some false
theorem UsedT.mid {t : TabS} {F : Nat} {lst e : Int} {u : List Bool} (h : UsedT t F lst e u) {s : Nat} (hs : e ≤ s) : MidT F s s u :=
  ⟨h.len, fun p h1 h2 => by omega, fun p h1 h2 => h.no p (by omega) h2⟩
theorem MidT.next {F s q : Nat} {u : List Bool} (h : MidT F s q u) (hq : q < F) : MidT F s (q + 1) (u.set q true) := by
  refine ⟨by rw [List.length_set]; exact h.len, fun p h1 h2 => ?_, fun p h1 h2 => ?_⟩
  · by_cases hp : p = q
    · subst hp
      rw [List.getElem?_set_self (by rw [h.len]; exact hq)]
    · rw [List.getElem?_set_ne (by omega)]
      exact h.yes p h1 (by omega)
  · rw [List.getElem?_set_ne (by omega)]
    exact h.no p (by omega) h2
theorem MidT.used {t : TabS} {F s q : Nat} {u : List Bool} (h : MidT F s q u) (hsq : s < q) (hq : q ≤ F) : UsedT t F s q u :=
  ⟨h.len, by omega, by omega, by omega, .inl ⟨by omega, by omega⟩, fun p h1 h2 _ => h.yes p (by omega) (by omega), fun p h1 h2 => h.no p (by omega) h2⟩
/-- What is left to be asked when parts and windows are right. -/
theorem right_fin (t : TabS) (h1 : 1 ≤ t.frame) (h2 : t.frame ≤ 64) (h3 : 1 ≤ t.trial) (h4 : t.trial ≤ 7) (h5 : 2 ≤ (t.parts.length : Int)) (h6 : (t.parts.length : Int) ≤ 4) (h7 : (t.wins.length : Int) ≤ 8) (h8 : (t.chans.length : Int) ≤ 4)
    (hp : ∀ p ∈ t.parts, badB p = false) (hw : winsOk t 0 t.wins = true) (hc : ∀ c ∈ t.chans, chanBad t c = false) : rightB t = careB t.wins := by
  have e1 : inB t.frame 1 64 = true := (inB_iff _ _ _).2 ⟨h1, h2⟩
  have e2 : inB t.trial 1 7 = true := (inB_iff _ _ _).2 ⟨h3, h4⟩
  have e3 : inB (t.parts.length : Int) 2 4 = true := (inB_iff _ _ _).2 ⟨h5, h6⟩
  have e4 : t.parts.any badB = false := by rw [List.any_eq_false]; intro p h; simp [hp p h]
  have e5 : t.chans.any (chanBad t) = false := by rw [List.any_eq_false]; intro c h; simp [hc c h]
  have e6 : decide (t.wins.length ≤ 8) = true := by simp; omega
  have e7 : decide (t.chans.length ≤ 4) = true := by simp; omega
  unfold rightB winsB
  rw [e1, e2, e3, e4, e5, e6, e7, hw]
  simp
theorem right_not_chan (t : TabS) (c : ChanS) (hc : c ∈ t.chans) (hb : chanBad t c = true) : rightB t = false := by
  cases hr : rightB t with
  | false => rfl
  | true =>
    exfalso
    have := ((rightB_iff t).1 hr).cs c hc
    simp only [chanBad, hasB, inB, Bool.or_eq_true, Bool.not_eq_true', Bool.and_eq_false_iff, decide_eq_false_iff_not, beq_iff_eq] at hb
    omega
theorem getElem?_own {u : List Bool} {p : Nat} {b : Bool} (h : u[p]? = some b) : p < u.length := (List.getElem?_eq_some_iff.1 h).1
end Go.Proofs.Ytbnodcenlggcnaa
