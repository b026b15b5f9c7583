/-
  What is put is got again; the document's own 'right'.
-/
import Derived.Test.YthipfopmaegpdaaPduFine
namespace Go.Proofs.Ythipfopmaegpdaa
open Go.RowKit Go.ChangeShapes Go.WideShapes Go.ChangeAt

theorem pdu_ext {p q : PduS} (hk : p.kind = q.kind) (hd : p.data = q.data) (hf : ∀ f, f < 7 → p.f f = q.f f) : p = q := by
  obtain ⟨a, b, c, d, e, g, h, i, j⟩ := p
  obtain ⟨a', b', c', d', e', g', h', i', j'⟩ := q
  have h0 := hf 0 (by omega)
  have h1 := hf 1 (by omega)
  have h2 := hf 2 (by omega)
  have h3 := hf 3 (by omega)
  have h4 := hf 4 (by omega)
  have h5 := hf 5 (by omega)
  have h6 := hf 6 (by omega)
  simp only [PduS.f] at h0 h1 h2 h3 h4 h5 h6
  simp only at hk hd
  subst hk hd h0 h1 h2 h3 h4 h5 h6
  rfl
theorem rBytes_take (l rest : List UInt8) (n : Nat) (hn : 0 < n) (h : l.length = n) : rBytes ⟨l ++ rest, 0⟩ (n : Int) = (l, ⟨rest, 0⟩) := by
  unfold rBytes
  simp only
  rw [if_neg (by omega), if_neg (by rw [List.length_append]; omega), Int.toNat_natCast, List.take_left' h, List.drop_left' h]
theorem clip_fit {x : Int} {w : Nat} (h0 : 0 ≤ x) (h1 : x ≤ (256 : Int) ^ w - 1) : (clip x w : Int) = x := by
  unfold clip
  have h2 : ((256 ^ w : Nat) : Int) = (256 : Int) ^ w := by simp
  omega
theorem wid_S2 (f : Nat) : wid ((widS f : Nat) : Int) = widS f := by
  have := widS_bd f
  unfold wid
  rw [if_neg (by omega), if_neg (by omega)]
  simp
theorem rNum_fit {x : Int} {f : Nat} (rest : List UInt8) (h0 : 0 ≤ x) (h1 : x ≤ (256 : Int) ^ widS f - 1) : ((rNum ⟨putB x (widS f) ++ rest, 0⟩ (widS f)).1 : Int) = x ∧ (rNum ⟨putB x (widS f) ++ rest, 0⟩ (widS f)).2 = ⟨rest, 0⟩ := by
  have hb := widS_bd f
  unfold rNum
  rw [wid_S2, rBytes_take (putB x (widS f)) rest (widS f) (by omega) (putB_length _ _)]
  simp only
  rw [numOf_pB _ _ (by omega)]
  exact ⟨clip_fit h0 h1, by first | trivial | rfl⟩
/-- A message's fields of a list are another one's. -/
def setAll (p : PduS) : List Nat → PduS → PduS
  | [], q => q
  | f :: L, q => setAll p L (setF q f (p.f f))
theorem getL_put (p : PduS) (rest : List UInt8) : ∀ (L : List Nat) (q : PduS), (∀ f ∈ L, f < 7 ∧ 0 ≤ p.f f ∧ p.f f ≤ mostF f) → getL L q ⟨fldB p L ++ rest, 0⟩ = (setAll p L q, ⟨rest, 0⟩)
  | [], q, _ => rfl
  | f :: L, q, h => by
    obtain ⟨h1, h2, h3⟩ := h f (by simp)
    rw [mostF_pow h1] at h3
    have h4 := rNum_fit (f := f) (fldB p L ++ rest) h2 h3
    have e : fldB p (f :: L) ++ rest = putB (p.f f) (widS f) ++ (fldB p L ++ rest) := by simp [fldB]
    show getL L (setF q f ((rNum ⟨fldB p (f :: L) ++ rest, 0⟩ (widS f)).1 : Int)) (rNum ⟨fldB p (f :: L) ++ rest, 0⟩ (widS f)).2 = _
    rw [e, h4.1, h4.2]
    exact getL_put p rest L _ (fun g hg => h g (by simp [hg]))
theorem setAll_f (p : PduS) : ∀ (L : List Nat) (q : PduS), (∀ f ∈ L, f < 7) → (∀ g, g < 7 → (setAll p L q).f g = if g ∈ L then p.f g else q.f g) ∧ (setAll p L q).kind = q.kind ∧ (setAll p L q).data = q.data
  | [], q, _ => ⟨fun g _ => by simp [setAll], rfl, rfl⟩
  | f :: L, q, h => by
    obtain ⟨h1, h2, h3⟩ := setAll_f p L (setF q f (p.f f)) (fun g hg => h g (by simp [hg]))
    refine ⟨fun g hg => ?_, by show (setAll p L (setF q f (p.f f))).kind = _; rw [h2, setF_kind], by show (setAll p L (setF q f (p.f f))).data = _; rw [h3, setF_data]⟩
    show (setAll p L (setF q f (p.f f))).f g = _
    rw [h1 g hg, f_setF q _ (h f (by simp)) hg]
    by_cases e : g ∈ L
    · rw [if_pos e, if_pos (by simp [e])]
    · rw [if_neg e]
      by_cases e2 : g = f
      · rw [if_pos e2, if_pos (by simp [e2]), e2]
      · rw [if_neg e2, if_neg (by simp [e, e2])]
theorem pduZ_f {k : Int} {f : Nat} (hf : f < 7) : ({ pduZ with kind := k } : PduS).f f = 0 := by
  have h1 : f = 0 ∨ f = 1 ∨ f = 2 ∨ f = 3 ∨ f = 4 ∨ f = 5 ∨ f = 6 := by omega
  rcases h1 with rfl | rfl | rfl | rfl | rfl | rfl | rfl <;> rfl
theorem rightP_parts {p : PduS} (h : rightP p = true) : fineF (fieldsK p.kind) p := by
  intro f hf
  simp only [rightP, Bool.and_eq_true] at h
  have := List.all_eq_true.1 h.1 f (List.mem_range.2 hf)
  simp only [okF, Bool.and_eq_true, decide_eq_true_eq] at this
  exact this
theorem kind_of {p : PduS} (h : rightP p = true) : 1 ≤ p.kind ∧ p.kind ≤ 8 ∧ fieldsK p.kind ≠ [] ∧ p.data.length = if p.kind = 2 then 16 else 0 := by
  have hh := h
  simp only [rightP, Bool.and_eq_true] at h
  have h2 := h.2
  by_cases hk : p.kind = 2
  · rw [if_pos hk] at h2 ⊢
    exact ⟨by omega, by omega, by rw [hk]; decide, of_decide_eq_true h2⟩
  · rw [if_neg hk] at h2 ⊢
    simp only [Bool.and_eq_true, decide_eq_true_eq] at h2
    have h3 := h2.1
    refine ⟨?_, ?_, List.length_pos_iff.1 h3, h2.2⟩
    · refine Int.not_lt.1 (fun hlt => ?_)
      unfold fieldsK at h3
      repeat (rw [if_neg (by omega)] at h3)
      simp at h3
    · refine Int.not_lt.1 (fun hlt => ?_)
      unfold fieldsK at h3
      repeat (rw [if_neg (by omega)] at h3)
      simp at h3
theorem bodyG_back {p : PduS} (h : rightP p = true) : bodyG (bodyP p) = (p, 0) := by
  obtain ⟨hk1, hk8, hL, hd⟩ := kind_of h
  have hF := rightP_parts h
  have e1 : (rNum ⟨bodyP p, 0⟩ 1).1 = p.kind.toNat ∧ (rNum ⟨bodyP p, 0⟩ 1).2 = ⟨fldB p (fieldsK p.kind) ++ p.data, 0⟩ := by
    have hw : wid 1 = 1 := by decide
    have e : bodyP p = putB p.kind 1 ++ (fldB p (fieldsK p.kind) ++ p.data) := by unfold bodyP; rw [List.append_assoc]
    unfold rNum
    rw [hw, e, rBytes_take (putB p.kind 1) _ 1 (by omega) (putB_length _ _)]
    simp only
    rw [numOf_pB _ _ (by omega)]
    have := clip_fit (x := p.kind) (w := 1) (by omega) (by omega)
    exact ⟨by omega, by first | trivial | rfl⟩
  have hkk : ((p.kind.toNat : Nat) : Int) = p.kind := by omega
  unfold bodyG
  simp only [e1.1, e1.2, hkk]
  rw [if_neg hL, getL_put p p.data (fieldsK p.kind) _ (fun f hf => by
    have h7 := fieldsK_lt p.kind f hf
    obtain ⟨a, b⟩ := hF f h7
    rw [show mostAt (fieldsK p.kind) f = mostF f by unfold mostAt; rw [if_pos hf]] at b
    exact ⟨h7, a, b⟩)]
  obtain ⟨s1, s2, s3⟩ := setAll_f p (fieldsK p.kind) { pduZ with kind := p.kind } (fieldsK_lt p.kind)
  have hsf : ∀ f, f < 7 → (setAll p (fieldsK p.kind) { pduZ with kind := p.kind }).f f = p.f f := by
    intro f hf
    rw [s1 f hf]
    by_cases e : f ∈ fieldsK p.kind
    · rw [if_pos e]
    · rw [if_neg e, pduZ_f hf]
      obtain ⟨a, b⟩ := hF f hf
      rw [show mostAt (fieldsK p.kind) f = 0 by unfold mostAt; rw [if_neg e]] at b
      omega
  by_cases hk : p.kind = 2
  · rw [if_pos hk] at hd
    simp only [if_pos hk]
    have hb : rBytes ⟨p.data, 0⟩ 16 = (p.data, ⟨[], 0⟩) := by
      have := rBytes_take p.data [] 16 (by omega) hd
      rwa [List.append_nil] at this
    rw [hb]
    simp only
    have : rEnd ⟨[], 0⟩ = 0 := by decide
    rw [if_neg (by rw [this]; simp)]
    refine Prod.ext (pdu_ext ?_ rfl (fun f hf => ?_)) rfl
    · show (setAll p (fieldsK p.kind) { pduZ with kind := p.kind }).kind = _
      rw [s2]
    · have h1 : f = 0 ∨ f = 1 ∨ f = 2 ∨ f = 3 ∨ f = 4 ∨ f = 5 ∨ f = 6 := by omega
      have := hsf f hf
      rcases h1 with rfl | rfl | rfl | rfl | rfl | rfl | rfl <;> exact this
  · rw [if_neg hk] at hd
    have hd0 : p.data = [] := List.eq_nil_of_length_eq_zero hd
    simp only [if_neg hk]
    rw [hd0]
    have : rEnd ⟨[], 0⟩ = 0 := by decide
    rw [if_neg (by rw [this]; simp)]
    refine Prod.ext (pdu_ext ?_ ?_ hsf) rfl
    · show (setAll p (fieldsK p.kind) { pduZ with kind := p.kind }).kind = _
      rw [s2]
    · show (setAll p (fieldsK p.kind) { pduZ with kind := p.kind }).data = _
      rw [s3, hd0]
      rfl
theorem getP_back {p : PduS} (h : rightP p = true) : getP (pduB p) = (p, 0) := by
  have h4 : (sumB (bodyP p)).length = 4 := putB_length _ _
  have h1 : 1 ≤ (bodyP p).length := by simp [bodyP, putB_length]
  have hl : (pduB p).length = (bodyP p).length + 4 := by unfold pduB; rw [List.length_append, h4]
  unfold getP
  rw [if_neg (by omega), show (pduB p).length - 4 = (bodyP p).length by omega]
  have e1 : (pduB p).take (bodyP p).length = bodyP p := List.take_left' rfl
  have e2 : (pduB p).drop (bodyP p).length = sumB (bodyP p) := List.drop_left' rfl
  rw [e1, e2]
  have e3 : numOf (sumB (bodyP p)) = (crcOf (bodyP p)).toNat := by
    unfold sumB
    rw [numOf_pB _ _ (by omega)]
    have := (crcOf (bodyP p)).isLt
    unfold clip
    have h : (256 : Nat) ^ 4 = 4294967296 := by decide
    rw [h, Int.toNat_natCast]
    omega
  rw [e3, if_neg (by simp)]
  exact bodyG_back h
end Go.Proofs.Ythipfopmaegpdaa
