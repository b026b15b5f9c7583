/-
  A table with a channel, or a window, left out, plainly.
-/
import Derived.Test.YtbnodcenlggcnaaTabPlain
namespace Go.Proofs.Ytbnodcenlggcnaa

def cutAt {α : Type} (l : List α) (i : Nat) : List α := l.take i ++ l.drop (i + 1)
theorem cutAt_mem {α : Type} {l : List α} {i : Nat} {x : α} (h : x ∈ cutAt l i) : x ∈ l := by
  rcases List.mem_append.1 h with h | h
  · exact List.mem_of_mem_take h
  · exact List.mem_of_mem_drop h
theorem cutAt_len {α : Type} {l : List α} {i : Nat} (h : i < l.length) : (cutAt l i).length + 1 = l.length := by
  unfold cutAt
  rw [List.length_append, List.length_take, List.length_drop]
  omega
theorem winsOk_less (t : TabS) (e e' : Int) (h : e' ≤ e) : ∀ l, winsOk t e l = true → winsOk t e' l = true
  | [], _ => rfl
  | w :: l, hw => by
    obtain ⟨h1, h2⟩ := (winsOk_cons t e w l).1 hw
    exact (winsOk_cons t e' w l).2 ⟨⟨h1.1, h1.2.1, by have := h1.2.2.1; omega, h1.2.2.2.1, h1.2.2.2.2⟩, h2⟩
theorem winsOk_cut (t : TabS) : ∀ (l : List WinS) (e : Int) (i : Nat), winsOk t e l = true → winsOk t e (cutAt l i) = true
  | [], e, i, _ => by simp [cutAt, winsOk]
  | w :: l, e, 0, h => by
    obtain ⟨h1, h2⟩ := (winsOk_cons t e w l).1 h
    simp only [cutAt, List.take_zero, List.nil_append, Nat.zero_add, List.drop_succ_cons, List.drop_zero]
    exact winsOk_less t _ e (by have := h1.2.2.1; have := h1.2.2.2.1; omega) l h2
  | w :: l, e, i + 1, h => by
    obtain ⟨h1, h2⟩ := (winsOk_cons t e w l).1 h
    have := winsOk_cut t l _ i h2
    unfold cutAt at this ⊢
    rw [List.take_succ_cons, List.cons_append, List.drop_succ_cons]
    exact (winsOk_cons t e w _).2 ⟨h1, this⟩
theorem winsOk_of (t u : TabS) (hf : u.frame = t.frame) (hp : u.parts.length = t.parts.length) : ∀ (l : List WinS) (e : Int), winsOk u e l = winsOk t e l
  | [], _ => rfl
  | w :: l, e => by simp only [winsOk, winBad, hasB, hf, hp, winsOk_of t u hf hp l]
def ownN (l : List WinS) : Nat := l.countP fun w => w.part == 0
theorem ownN_snoc (l : List WinS) (w : WinS) : ownN (l ++ [w]) = ownN l + if w.part = 0 then 1 else 0 := by
  unfold ownN
  rw [List.countP_append]
  by_cases h : w.part = 0 <;> simp [h]
theorem ownN_le (l : List WinS) : ownN l ≤ l.length := List.countP_le_length
theorem care_own (l : List WinS) : careB l = decide (0 < ownN l) := by
  unfold careB ownN
  rw [Bool.eq_iff_iff, decide_eq_true_eq, List.countP_pos_iff]
  simp
theorem near_chans {t : TabS} (h : RightT t) (i : Nat) : RightT ⟨t.frame, t.parts, t.wins, cutAt t.chans i, t.trial⟩ :=
  ⟨h.f1, h.f2, h.r1, h.r2, h.p1, h.p2, h.ps, (winsOk_of t ⟨t.frame, t.parts, t.wins, cutAt t.chans i, t.trial⟩ rfl rfl _ _).trans h.ws, h.care, h.w8, by
    show (cutAt t.chans i).length ≤ 4
    have := h.c4
    unfold cutAt
    rw [List.length_append, List.length_take, List.length_drop]
    omega, fun c hc => h.cs c (cutAt_mem hc)⟩
theorem near_wins {t : TabS} (h : RightT t) (i : Nat) : rightB ⟨t.frame, t.parts, cutAt t.wins i, t.chans, t.trial⟩ = decide (0 < ownN (cutAt t.wins i)) := by
  rw [← care_own, Bool.eq_iff_iff, rightB_iff]
  constructor
  · intro r; exact r.care
  · intro hc
    exact ⟨h.f1, h.f2, h.r1, h.r2, h.p1, h.p2, h.ps, (winsOk_of t ⟨t.frame, t.parts, cutAt t.wins i, t.chans, t.trial⟩ rfl rfl _ _).trans (winsOk_cut t _ _ _ h.ws), hc, by
      show (cutAt t.wins i).length ≤ 8
      have := h.w8
      unfold cutAt
      rw [List.length_append, List.length_take, List.length_drop]
      omega, h.c4, h.cs⟩
end Go.Proofs.Ytbnodcenlggcnaa
