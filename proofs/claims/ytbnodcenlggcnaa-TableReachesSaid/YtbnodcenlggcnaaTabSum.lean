/-
  The shares of all partitions, plainly.
-/
import Derived.Test.YtbnodcenlggcnaaTabPlain
namespace Go.Proofs.Ytbnodcenlggcnaa

def sumS (l : List WinS) : Nat → Int
  | 0 => 0
  | k + 1 => sumS l k + shareL (k : Int) l
theorem shareL_cons (p : Int) (w : WinS) (l : List WinS) : shareL p (w :: l) = (if w.part = p then w.long else 0) + shareL p l := by simp [shareL]
theorem sumS_cons (w : WinS) (l : List WinS) : ∀ k : Nat, sumS (w :: l) k = sumS l k + if 0 ≤ w.part ∧ w.part < k then w.long else 0
  | 0 => by
    have : ¬ (0 ≤ w.part ∧ w.part < ((0 : Nat) : Int)) := by omega
    simp only [sumS, if_neg this]
    omega
  | k + 1 => by
    simp only [sumS, sumS_cons w l k, shareL_cons]
    by_cases h : w.part = k
    · rw [if_pos h, if_neg (by omega), if_pos (by omega)]
      omega
    · rw [if_neg h]
      by_cases h2 : 0 ≤ w.part ∧ w.part < k
      · rw [if_pos h2, if_pos (by omega)]; omega
      · rw [if_neg h2, if_neg (by omega)]; omega
theorem sumS_nil : ∀ k : Nat, sumS [] k = 0
  | 0 => rfl
  | k + 1 => by simp [sumS, sumS_nil k, shareL]
theorem sumS_le (t : TabS) (k : Nat) : ∀ (l : List WinS) (e : Int), e ≤ t.frame → winsOk t e l = true → sumS l k ≤ t.frame - e
  | [], e, he, _ => by rw [sumS_nil]; omega
  | w :: l, e, he, h => by
    obtain ⟨h1, h2⟩ := (winsOk_cons t e w l).1 h
    obtain ⟨a1, a2, a3, a4, a5⟩ := h1
    have := sumS_le t k l _ a5 h2
    rw [sumS_cons]
    split <;> omega
theorem share_nonneg (p : Int) : ∀ l : List WinS, (∀ w ∈ l, 1 ≤ w.long) → 0 ≤ shareL p l
  | [], _ => by simp [shareL]
  | w :: l, h => by
    rw [shareL_cons]
    have := share_nonneg p l (fun x hx => h x (List.mem_cons_of_mem _ hx))
    have := h w (List.mem_cons_self ..)
    split <;> omega
theorem share_pos (p : Int) : ∀ l : List WinS, (∀ w ∈ l, 1 ≤ w.long) → (∃ w ∈ l, w.part = p) → 0 < shareL p l
  | [], _, h => by simp at h
  | w :: l, h, hex => by
    rw [shareL_cons]
    have h0 := share_nonneg p l (fun x hx => h x (List.mem_cons_of_mem _ hx))
    have h1 := h w (List.mem_cons_self ..)
    by_cases hp : w.part = p
    · rw [if_pos hp]; omega
    · rw [if_neg hp]
      obtain ⟨x, hx, hxp⟩ := hex
      rcases List.mem_cons.1 hx with rfl | hx
      · exact absurd hxp hp
      · have := share_pos p l (fun x hx => h x (List.mem_cons_of_mem _ hx)) ⟨x, hx, hxp⟩
        omega
theorem share_none (p : Int) : ∀ l : List WinS, (∀ w ∈ l, w.part ≠ p) → shareL p l = 0
  | [], _ => by simp [shareL]
  | w :: l, h => by
    rw [shareL_cons, if_neg (h w (List.mem_cons_self ..)), share_none p l (fun x hx => h x (List.mem_cons_of_mem _ hx))]
    rfl
theorem shares_law {t : TabS} (h : RightT t) : sumS t.wins t.parts.length ≤ t.frame ∧ 0 < shareL 0 t.wins ∧ shareL (-1) t.wins = 0 := by
  refine ⟨?_, ?_, ?_⟩
  · have := sumS_le t t.parts.length t.wins 0 (by have := h.f1; omega) h.ws
    omega
  · refine share_pos 0 _ (fun w hw => (h.win w hw).2.2.2.1) ?_
    have := h.care
    unfold careB at this
    obtain ⟨w, hw, hp⟩ := List.any_eq_true.1 this
    exact ⟨w, hw, by simpa using hp⟩
  · exact share_none (-1) _ (fun w hw => by have := (h.win w hw).1; omega)
end Go.Proofs.Ytbnodcenlggcnaa
