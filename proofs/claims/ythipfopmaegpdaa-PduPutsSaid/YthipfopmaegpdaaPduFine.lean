/-
  What is got is right; what is put is got.
-/
import Derived.Test.YthipfopmaegpdaaPduGot
namespace Go.Proofs.Ythipfopmaegpdaa
open Go.RowKit Go.ChangeShapes Go.WideShapes Go.ChangeAt

theorem f_setF (p : PduS) {f g : Nat} (v : Int) (hf : f < 7) (hg : g < 7) : (setF p f v).f g = if g = f then v else p.f g := by
  have h1 : f = 0 ∨ f = 1 ∨ f = 2 ∨ f = 3 ∨ f = 4 ∨ f = 5 ∨ f = 6 := by omega
  have h2 : g = 0 ∨ g = 1 ∨ g = 2 ∨ g = 3 ∨ g = 4 ∨ g = 5 ∨ g = 6 := by omega
  rcases h1 with rfl | rfl | rfl | rfl | rfl | rfl | rfl <;> rcases h2 with rfl | rfl | rfl | rfl | rfl | rfl | rfl <;> rfl
theorem mostF_pow {f : Nat} (hf : f < 7) : mostF f = (256 : Int) ^ widS f - 1 := by
  have h1 : f = 0 ∨ f = 1 ∨ f = 2 ∨ f = 3 ∨ f = 4 ∨ f = 5 ∨ f = 6 := by omega
  rcases h1 with rfl | rfl | rfl | rfl | rfl | rfl | rfl <;> rfl
theorem rNum_le (s : RS) {f : Nat} (hf : f < 7) : ((rNum s (widS f)).1 : Int) ≤ mostF f := by
  have hw : wid ((widS f : Nat) : Int) = widS f := by
    have := widS_bd f
    unfold wid
    rw [if_neg (by omega), if_neg (by omega)]
    simp
  have h2 : (rNum s (widS f)).1 = numOf (rBytes s (widS f : Int)).1 := by unfold rNum; rw [hw]
  rw [h2, mostF_pow hf]
  have h3 := numOf_lt (rBytes s (widS f : Int)).1
  have h4 := rBytes_len s (widS f : Int) (by omega)
  have h5 : (256 : Nat) ^ (rBytes s (widS f : Int)).1.length ≤ 256 ^ widS f := Nat.pow_le_pow_right (by omega) (by omega)
  have h6 : ((256 ^ widS f : Nat) : Int) = (256 : Int) ^ widS f := by simp
  omega
def fineF (L : List Nat) (p : PduS) : Prop := ∀ f, f < 7 → 0 ≤ p.f f ∧ p.f f ≤ mostAt L f
theorem getL_fine (L0 : List Nat) : ∀ (L : List Nat) (p : PduS) (s : RS), (∀ f ∈ L, f < 7 ∧ f ∈ L0) → fineF L0 p → fineF L0 (getL L p s).1 ∧ (getL L p s).1.kind = p.kind ∧ (getL L p s).1.data = p.data
  | [], p, s, _, h => ⟨h, rfl, rfl⟩
  | f :: L, p, s, hL, h => by
    have hf := hL f (by simp)
    have h2 : fineF L0 (setF p f ((rNum s (widS f)).1 : Int)) := by
      intro g hg
      rw [f_setF p _ hf.1 hg]
      by_cases e : g = f
      · rw [if_pos e, e]
        refine ⟨by omega, ?_⟩
        rw [show mostAt L0 f = mostF f by unfold mostAt; rw [if_pos hf.2]]
        exact rNum_le s hf.1
      · rw [if_neg e]
        exact h g hg
    have h3 := getL_fine L0 L (setF p f ((rNum s (widS f)).1 : Int)) (rNum s (widS f)).2 (fun g hg => hL g (by simp [hg])) h2
    rw [setF_kind, setF_data] at h3
    exact h3
theorem pduZ_fine (L : List Nat) (k : Int) : fineF L { pduZ with kind := k } := by
  intro f hf
  have h1 : f = 0 ∨ f = 1 ∨ f = 2 ∨ f = 3 ∨ f = 4 ∨ f = 5 ∨ f = 6 := by omega
  have h0 : ({ pduZ with kind := k } : PduS).f f = 0 := by rcases h1 with rfl | rfl | rfl | rfl | rfl | rfl | rfl <;> rfl
  rw [h0]
  refine ⟨by omega, ?_⟩
  unfold mostAt
  split
  · rcases h1 with rfl | rfl | rfl | rfl | rfl | rfl | rfl <;> decide
  · omega
theorem rEnd_zero {s : RS} (h : rEnd s = 0) : s.e = 0 := by
  unfold rEnd at h
  split at h
  · exact h
  · rename_i h2
    simpa using h2
theorem rBytes_ok {s : RS} {n : Nat} (hn : 0 < n) (h : (rBytes s (n : Int)).2.e = 0) : (rBytes s (n : Int)).1.length = n := by
  unfold rBytes at h ⊢
  by_cases h1 : s.e ≠ 0 ∨ (n : Int) ≤ 0
  · rw [if_pos h1] at h
    simp only at h
    exact absurd h (by omega)
  · rw [if_neg h1] at h ⊢
    by_cases h2 : (s.b.length : Int) < n
    · rw [if_pos h2] at h
      simp only at h
      exact absurd h (by omega)
    · rw [if_neg h2]
      simp only [List.length_take, Int.toNat_natCast]
      omega
theorem fineF_data {L : List Nat} {p : PduS} (d : List UInt8) (h : fineF L p) : fineF L { p with data := d } := by
  intro f hf
  have h1 : f = 0 ∨ f = 1 ∨ f = 2 ∨ f = 3 ∨ f = 4 ∨ f = 5 ∨ f = 6 := by omega
  have h0 : ({ p with data := d } : PduS).f f = p.f f := by rcases h1 with rfl | rfl | rfl | rfl | rfl | rfl | rfl <;> rfl
  rw [h0]
  exact h f hf
theorem fine_right {p : PduS} (h : fineF (fieldsK p.kind) p) (h2 : if p.kind = 2 then p.data.length = 16 else fieldsK p.kind ≠ [] ∧ p.data = []) : rightP p = true := by
  rw [rightP_ok (fun f hf => by
    obtain ⟨a, b⟩ := h f hf
    simp only [okF, Bool.and_eq_true, decide_eq_true_eq]
    exact ⟨a, b⟩)]
  by_cases hk : p.kind = 2
  · rw [if_pos hk] at h2 ⊢
    exact decide_eq_true h2
  · rw [if_neg hk] at h2 ⊢
    simp only [Bool.and_eq_true, decide_eq_true_eq]
    exact ⟨List.length_pos_iff.2 h2.1, by rw [h2.2]; rfl⟩
theorem bodyG_right {b : List UInt8} (h : (bodyG b).2 = 0) : rightP (bodyG b).1 = true := by
  unfold bodyG at h ⊢
  simp only at h ⊢
  by_cases hL : fieldsK ((rNum ⟨b, 0⟩ 1).1 : Int) = []
  · rw [if_pos hL] at h
    exact absurd h (by decide)
  rw [if_neg hL] at h ⊢
  generalize ((rNum ⟨b, 0⟩ 1).1 : Int) = k at *
  generalize (rNum ⟨b, 0⟩ 1).2 = s at *
  obtain ⟨h1, h2, h3⟩ := getL_fine (fieldsK k) (fieldsK k) { pduZ with kind := k } s (fun f hf => ⟨fieldsK_lt k f hf, hf⟩) (pduZ_fine _ k)
  generalize getL (fieldsK k) { pduZ with kind := k } s = q at *
  have hk : q.1.kind = k := h2
  by_cases h2k : k = 2
  · simp only [if_pos h2k] at h ⊢
    by_cases he : rEnd (rBytes q.2 16).2 ≠ 0
    · rw [if_pos he] at h
      exact absurd h he
    · rw [if_neg he]
      have he0 := rEnd_zero (s := (rBytes q.2 16).2) (by simpa using he)
      have hlen := rBytes_ok (s := q.2) (n := 16) (by omega) he0
      refine fine_right (p := { q.1 with data := (rBytes q.2 16).1 }) ?_ ?_
      · show fineF (fieldsK q.1.kind) _
        rw [hk]
        exact fineF_data _ h1
      · show if q.1.kind = 2 then _ else _
        rw [hk, if_pos h2k]
        exact hlen
  · simp only [if_neg h2k] at h ⊢
    by_cases he : rEnd q.2 ≠ 0
    · rw [if_pos he] at h
      exact absurd h he
    · rw [if_neg he]
      refine fine_right (p := q.1) ?_ ?_
      · rw [hk]
        exact h1
      · rw [hk, if_neg h2k]
        exact ⟨hL, h3⟩
theorem getP_right {b : List UInt8} (h : (getP b).2 = 0) : rightP (getP b).1 = true := by
  unfold getP at h ⊢
  split at h
  · exact absurd h (by decide)
  · split at h
    · exact absurd h (by decide)
    · rename_i h1 h2
      rw [if_neg h1, if_neg h2]
      exact bodyG_right h
end Go.Proofs.Ythipfopmaegpdaa
