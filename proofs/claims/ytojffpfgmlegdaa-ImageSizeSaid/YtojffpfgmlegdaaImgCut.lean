/-
  An image's head that is cut: what the reader says of it, in plain words.
-/
import Derived.Test.YtojffpfgmlegdaaImgParse
namespace Go.Proofs.Ytojffpfgmlegdaa

theorem num_step (b : List UInt8) (W : Nat) (h1 : 1 ≤ W) (h6 : W ≤ 6) : rNum ⟨b, 0⟩ (W : Int) = if b.length < W then (0, ⟨b, 1⟩) else (numOf (b.take W), ⟨b.drop W, 0⟩) := by
  have hw : wid (W : Int) = W := by unfold wid; rw [if_neg (by omega), if_neg (by omega)]; omega
  unfold rNum rBytes
  rw [hw]
  rw [if_neg (by simp; omega)]
  by_cases h : b.length < W
  · rw [if_pos h, if_pos (by show ((b.length : Int) < (W : Int)); omega)]
    rfl
  · rw [if_neg h, if_neg (by show ¬ ((b.length : Int) < (W : Int)); omega)]
    simp
/-- The reader has read p bytes of b, or has failed with ErrEnd. -/
def At (b : List UInt8) (p : Nat) (s : RS) : Prop := (s = ⟨b.drop p, 0⟩ ∧ p ≤ b.length) ∨ s.e = 1
theorem At.num {b : List UInt8} {p : Nat} {s s' : RS} {v : Nat} (h : At b p s) (W : Nat) (h1 : 1 ≤ W) (h6 : W ≤ 6) (e : rNum s (W : Int) = (v, s')) : At b (p + W) s' := by
  rcases h with ⟨rfl, hp⟩ | he
  · rw [num_step _ W h1 h6] at e
    split at e
    · injection e with _ e
      subst e
      exact .inr rfl
    · rename_i hlt
      injection e with _ e
      subst e
      rw [List.length_drop] at hlt
      exact .inl ⟨by rw [List.drop_drop], by omega⟩
  · rw [rNum_err s _ (by omega)] at e
    injection e with _ e
    subst e
    exact .inr he
theorem rEnd_one {s : RS} (h : s.e = 1) : rEnd s = 1 := by unfold rEnd; rw [if_pos (by omega), h]
theorem headK_len (i : ImgS) (k : Nat) (hk : k ≤ 4) : (headK i k).length = 7 + k := by
  unfold headK headA
  simp only [List.length_append, putB_length]
  have : (((four4 i).take k).flatMap fun x => putB x 1).length = k := by
    have h : k = 0 ∨ k = 1 ∨ k = 2 ∨ k = 3 ∨ k = 4 := by omega
    rcases h with rfl | rfl | rfl | rfl | rfl <;> simp [four4, putB_length]
  omega
theorem textB_small (t : List UInt8) (h : t.length ≤ 65535) : textB t = putB (t.length : Int) 2 ++ t := by
  unfold textB
  rw [List.take_of_length_le h, show min t.length 65535 = t.length by omega]
theorem text_cut (t : List UInt8) (h : t.length ≤ 65535) (k : Nat) (hk : k < 2 + t.length) (T : List UInt8) (s' : RS) (e : rText ⟨(textB t).take k, 0⟩ 65535 = (T, s')) : s'.e = 1 := by
  rw [textB_small t h] at e
  unfold rText at e
  rw [if_neg (by simp)] at e
  have h2 := num_step ((putB (t.length : Int) 2 ++ t).take k) 2 (by omega) (by omega)
  have hl : ((putB (t.length : Int) 2 ++ t).take k).length = k := by rw [List.length_take, List.length_append, putB_length]; omega
  rw [hl] at h2
  rw [show ((2 : Nat) : Int) = 2 from rfl] at h2
  by_cases hk2 : k < 2
  · rw [if_pos hk2] at h2
    simp only [h2] at e
    unfold rBytes at e
    simp at e
    rw [← e.2]
  · rw [if_neg hk2] at h2
    have hn : numOf (((putB (t.length : Int) 2 ++ t).take k).take 2) = t.length := by
      rw [List.take_take, show min 2 k = 2 by omega, List.take_left' (putB_length _ _), numOf_pB _ _ (by omega)]
      unfold clip
      have : (256 : Nat) ^ 2 = 65536 := by decide
      rw [this, Int.toNat_natCast]
      omega
    rw [hn] at h2
    have hd : ((((putB (t.length : Int) 2 ++ t).take k).drop 2).length : Int) < (t.length : Int) := by rw [List.length_drop, hl]; omega
    have hm : ¬ ((65535 : Int) < (t.length : Int)) := by omega
    have hz : ¬ ((t.length : Int) ≤ 0) := by omega
    generalize ((putB (t.length : Int) 2 ++ t).take k).drop 2 = dd at *
    have hb : rBytes ⟨dd, 0⟩ (t.length : Int) = ([], ⟨dd, 1⟩) := by
      unfold rBytes
      rw [if_neg (fun h => h.elim (fun h => h rfl) hz), if_pos hd]
    simp only [h2, if_neg hm, true_and, hb] at e
    simp at e
    rw [← e.2]
/-- What the reader says of an image's head that is cut. -/
theorem head_cut (i : ImgS) (h : RightI i) (k : Nat) (h2 : 2 ≤ k) (hk : k < 13 + i.code.length) (v1 v2 v3 v4 v5 v6 v7 v8 : Nat) (s1 s2 s3 s4 s5 s6 s7 s8 s9 : RS) (T : List UInt8)
    (e1 : rNum ⟨(headB i).take k, 0⟩ 2 = (v1, s1)) (e2 : rNum s1 1 = (v2, s2)) (e3 : rNum s2 2 = (v3, s3)) (e4 : rNum s3 2 = (v4, s4)) (e5 : rNum s4 1 = (v5, s5)) (e6 : rNum s5 1 = (v6, s6)) (e7 : rNum s6 1 = (v7, s7)) (e8 : rNum s7 1 = (v8, s8)) (et : rText s8 65535 = (T, s9)) : v1 = 19529 ∧ rEnd s9 = 1 := by
  have hc : i.code.length ≤ 65535 := by have := h.2.2.2.2.2.2.2.2; omega
  have hK := headK_len i 4 (by omega)
  have hl : ((headB i).take k).length = k := by
    rw [List.length_take]
    unfold headB
    rw [List.length_append, hK, textB_small _ hc, List.length_append, putB_length]
    omega
  have hv : v1 = 19529 := by
    have := num_step ((headB i).take k) 2 (by omega) (by omega)
    rw [hl, if_neg (by omega), show ((2 : Nat) : Int) = 2 from rfl, e1] at this
    injection this with this _
    rw [this, List.take_take, show min 2 k = 2 by omega]
    have : (headB i).take 2 = putB 19529 2 := by
      unfold headB headK headA
      simp only [List.append_assoc]
      exact List.take_left' (putB_length _ _)
    rw [this, numOf_pB _ _ (by omega)]
    unfold clip
    decide
  refine ⟨hv, rEnd_one ?_⟩
  have a0 : At ((headB i).take k) 0 ⟨(headB i).take k, 0⟩ := .inl ⟨rfl, Nat.zero_le _⟩
  have a1 := a0.num 2 (by omega) (by omega) e1
  have a2 := a1.num 1 (by omega) (by omega) e2
  have a3 := a2.num 2 (by omega) (by omega) e3
  have a4 := a3.num 2 (by omega) (by omega) e4
  have a5 := a4.num 1 (by omega) (by omega) e5
  have a6 := a5.num 1 (by omega) (by omega) e6
  have a7 := a6.num 1 (by omega) (by omega) e7
  have a8 := a7.num 1 (by omega) (by omega) e8
  rcases a8 with ⟨rfl, hp⟩ | he
  · have hd : ((headB i).take k).drop 11 = (textB i.code).take (k - 11) := by
      rw [List.drop_take]
      unfold headB
      rw [List.drop_left' hK]
    rw [show 0 + 2 + 1 + 2 + 2 + 1 + 1 + 1 + 1 = 11 from rfl, hd] at et
    exact text_cut i.code hc (k - 11) (by omega) T s9 et
  · rw [rText_err s8 _ (by omega)] at et
    injection et with _ et
    subst et
    exact he
end Go.Proofs.Ytojffpfgmlegdaa
