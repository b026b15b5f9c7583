/-
  What a partition reaches, plainly: rounds over the channels till nothing is new; paths of at most four channels.
-/
import Derived.Test.YtbnodcenlggcnaaTabPlain
namespace Go.Proofs.Ytbnodcenlggcnaa

/-- Four marks. -/
structure B4 where
  a : Bool
  b : Bool
  c : Bool
  d : Bool
deriving DecidableEq
def B4.get (m : B4) (i : Nat) : Bool := match i with | 0 => m.a | 1 => m.b | 2 => m.c | 3 => m.d | _ => false
def B4.put (m : B4) (i : Nat) (x : Bool) : B4 := match i with | 0 => { m with a := x } | 1 => { m with b := x } | 2 => { m with c := x } | 3 => { m with d := x } | _ => m
def B4.none : B4 := ⟨false, false, false, false⟩
theorem B4.get_put {m : B4} {i : Nat} (hi : i < 4) (x : Bool) (j : Nat) : (m.put i x).get j = if j = i then x else m.get j := by
  by_cases hj : j < 4
  · have h1 : i = 0 ∨ i = 1 ∨ i = 2 ∨ i = 3 := by omega
    have h2 : j = 0 ∨ j = 1 ∨ j = 2 ∨ j = 3 := by omega
    rcases h1 with rfl | rfl | rfl | rfl <;> rcases h2 with rfl | rfl | rfl | rfl <;> rfl
  · obtain ⟨k, rfl⟩ : ∃ k, j = k + 4 := ⟨j - 4, by omega⟩
    have h1 : i = 0 ∨ i = 1 ∨ i = 2 ∨ i = 3 := by omega
    rw [if_neg (by omega)]
    rcases h1 with rfl | rfl | rfl | rfl <;> rfl
theorem B4.ext' {m n : B4} (h : ∀ i, i < 4 → m.get i = n.get i) : m = n := by
  obtain ⟨a, b, c, d⟩ := m
  obtain ⟨a', b', c', d'⟩ := n
  have h0 : a = a' := h 0 (by omega)
  have h1 : b = b' := h 1 (by omega)
  have h2 : c = c' := h 2 (by omega)
  have h3 : d = d' := h 3 (by omega)
  rw [h0, h1, h2, h3]
theorem B4.get_none (i : Nat) : B4.none.get i = false := by
  unfold B4.get B4.none
  split <;> rfl
/-- How many marks are not set. -/
def B4.free (m : B4) : Nat := (if m.a then 0 else 1) + (if m.b then 0 else 1) + (if m.c then 0 else 1) + (if m.d then 0 else 1)
def B4.le (m n : B4) : Prop := ∀ i, m.get i = true → n.get i = true
theorem B4.free_lt {m n : B4} (h : m.le n) (hne : m ≠ n) : n.free < m.free := by
  obtain ⟨a, b, c, d⟩ := m
  obtain ⟨a', b', c', d'⟩ := n
  have h0 := h 0
  have h1 := h 1
  have h2 := h 2
  have h3 := h 3
  simp only [B4.get] at h0 h1 h2 h3
  revert h0 h1 h2 h3 hne
  cases a <;> cases b <;> cases c <;> cases d <;> cases a' <;> cases b' <;> cases c' <;> cases d' <;> simp [B4.free]
theorem B4.free_le (m : B4) : m.free ≤ 4 := by
  unfold B4.free
  cases m.a <;> cases m.b <;> cases m.c <;> cases m.d <;> simp
/-- One channel. -/
def metC (m : B4) (c : ChanS) : B4 := m.put c.dst.toNat (m.get c.dst.toNat || m.get c.src.toNat)
/-- One round over channels. -/
def metR (m : B4) (l : List ChanS) : B4 := l.foldl metC m
theorem metC_get {m : B4} {c : ChanS} (hd : c.dst.toNat < 4) (j : Nat) : (metC m c).get j = if j = c.dst.toNat then (m.get c.dst.toNat || m.get c.src.toNat) else m.get j := B4.get_put hd _ j
theorem metC_le {m : B4} {c : ChanS} (hd : c.dst.toNat < 4) : m.le (metC m c) := by
  intro j hj
  rw [metC_get hd]
  split
  · next h => subst h; rw [hj]; rfl
  · exact hj
theorem le_refl4 (m : B4) : m.le m := fun _ h => h
theorem le_trans4 {a b c : B4} (h : a.le b) (k : b.le c) : a.le c := fun i hi => k i (h i hi)
theorem metR_le : ∀ (l : List ChanS) (m : B4), (∀ c ∈ l, c.dst.toNat < 4) → m.le (metR m l)
  | [], m, _ => le_refl4 m
  | c :: l, m, h => le_trans4 (metC_le (h c (List.mem_cons_self ..))) (metR_le l _ (fun x hx => h x (List.mem_cons_of_mem _ hx)))
theorem metR_snoc (m : B4) (l : List ChanS) (c : ChanS) : metR m (l ++ [c]) = metC (metR m l) c := by simp [metR, List.foldl_append]
theorem le_antisymm4 {a b : B4} (h : a.le b) (k : b.le a) : a = b := B4.ext' fun i _ => by
  cases ha : a.get i with
  | true => rw [h i ha]
  | false => cases hb : b.get i with
    | true => rw [k i hb] at ha; cases ha
    | false => rfl
/-- When a round turns nothing, the marks are closed under the channels. -/
theorem metR_closed : ∀ (l : List ChanS) (m : B4), (∀ c ∈ l, c.dst.toNat < 4) → metR m l = m → ∀ c ∈ l, m.get c.src.toNat = true → m.get c.dst.toNat = true
  | [], _, _, _, _, hc, _ => by simp at hc
  | c :: l, m, h, he, x, hx, hs => by
    have hd := h c (List.mem_cons_self ..)
    have hl : ∀ c ∈ l, c.dst.toNat < 4 := fun x hx => h x (List.mem_cons_of_mem _ hx)
    have h1 : metC m c = m := by
      refine le_antisymm4 ?_ (metC_le hd)
      have := metR_le l (metC m c) hl
      rw [show metR (metC m c) l = m from he] at this
      exact this
    rcases List.mem_cons.1 hx with rfl | hx
    · have := metC_get (m := m) hd x.dst.toNat
      rw [if_pos rfl, h1, hs] at this
      rw [this]
      simp
    · refine metR_closed l m hl ?_ x hx hs
      have : metR (metC m c) l = m := he
      rwa [h1] at this
/-- Reached, by channels. -/
inductive Rch (l : List ChanS) (a : Nat) : Nat → Prop
  | refl : Rch l a a
  | step {c : ChanS} : c ∈ l → Rch l a c.src.toNat → Rch l a c.dst.toNat
theorem Rch.trans {l : List ChanS} {a b c : Nat} (h : Rch l a b) (k : Rch l b c) : Rch l a c := by
  induction k with
  | refl => exact h
  | step hm _ ih => exact .step hm ih
theorem Rch.mono {l m : List ChanS} {a b : Nat} (hs : ∀ c ∈ l, c ∈ m) (h : Rch l a b) : Rch m a b := by
  induction h with
  | refl => exact .refl
  | step hm _ ih => exact .step (hs _ hm) ih
theorem metC_rch {l : List ChanS} {a : Nat} {m : B4} {c : ChanS} (hd : c.dst.toNat < 4) (hc : c ∈ l) (h : ∀ i, m.get i = true → Rch l a i) : ∀ i, (metC m c).get i = true → Rch l a i := by
  intro i hi
  rw [metC_get hd] at hi
  split at hi
  · next e =>
    subst e
    rcases Bool.or_eq_true _ _ ▸ hi with h1 | h1
    · exact h _ h1
    · exact .step hc (h _ h1)
  · exact h i hi
/-- The marks that stand for what is reached. -/
def Met (l : List ChanS) (a : Nat) (m : B4) : Prop := m.get a = true ∧ ∀ i, m.get i = true → Rch l a i
theorem met_closed {l : List ChanS} {a : Nat} {m : B4} (h : Met l a m) (hc : ∀ c ∈ l, m.get c.src.toNat = true → m.get c.dst.toNat = true) (i : Nat) : m.get i = true ↔ Rch l a i := by
  refine ⟨h.2 i, fun hr => ?_⟩
  induction hr with
  | refl => exact h.1
  | step hm _ ih => exact hc _ hm ih

open Classical in
/-- Is it reached? -/
noncomputable def rchB (l : List ChanS) (a i : Nat) : Bool := decide (Rch l a i)
theorem rchB_iff {l : List ChanS} {a i : Nat} : rchB l a i = true ↔ Rch l a i := by simp [rchB]
theorem met_done {l : List ChanS} {a : Nat} {m : B4} (h : Met l a m) (hd : ∀ c ∈ l, c.dst.toNat < 4) (hf : metR m l = m) (i : Nat) : m.get i = rchB l a i := by
  have := met_closed h (metR_closed l m hd hf) i
  rw [← rchB_iff] at this
  exact Bool.eq_iff_iff.2 this
/-- The list of those that are reached. -/
noncomputable def rchL (l : List ChanS) (a : Nat) : List Int := ((List.range 4).filter (rchB l a)).map (fun (i : Nat) => (i : Int))
noncomputable def reachB (t : TabS) (p : Int) : List Int := if rightB t = true ∧ hasB t p = true then rchL t.chans p.toNat else []
def filB (m : B4) (k : Nat) : List Int := ((List.range k).filter m.get).map (fun (i : Nat) => (i : Int))
theorem filB_succ (m : B4) (k : Nat) : filB m (k + 1) = filB m k ++ if m.get k then [(k : Int)] else [] := by
  unfold filB
  rw [List.range_succ, List.filter_append, List.map_append]
  by_cases h : m.get k = true
  · simp [h]
  · simp [h]
theorem filB_len (m : B4) (k : Nat) : (filB m k).length ≤ k := by
  unfold filB
  rw [List.length_map]
  have := List.length_filter_le m.get (List.range k)
  simpa using this
theorem filB_done {l : List ChanS} {a : Nat} {m : B4} (h : ∀ i, m.get i = rchB l a i) : filB m 4 = rchL l a := by
  unfold filB rchL
  have : m.get = rchB l a := funext h
  rw [this]
theorem mem_rchL {l : List ChanS} {a : Nat} {x : Int} : x ∈ rchL l a ↔ ∃ i : Nat, x = (i : Int) ∧ i < 4 ∧ Rch l a i := by
  unfold rchL
  simp only [List.mem_map, List.mem_filter, List.mem_range, rchB_iff]
  constructor
  · rintro ⟨i, ⟨h1, h2⟩, rfl⟩; exact ⟨i, rfl, h1, h2⟩
  · rintro ⟨i, rfl, h1, h2⟩; exact ⟨i, ⟨h1, h2⟩, rfl⟩
/-! ### Paths of at most so many channels. -/
inductive Rk (l : List ChanS) (a : Nat) : Nat → Nat → Prop
  | refl {k : Nat} : Rk l a k a
  | step {k : Nat} {c : ChanS} : c ∈ l → Rk l a k c.src.toNat → Rk l a (k + 1) c.dst.toNat
theorem Rk.rch {l : List ChanS} {a k i : Nat} (h : Rk l a k i) : Rch l a i := by
  induction h with
  | refl => exact .refl
  | step hm _ ih => exact .step hm ih
theorem Rk.more {l : List ChanS} {a k i : Nat} (h : Rk l a k i) : Rk l a (k + 1) i := by
  induction h with
  | refl => exact .refl
  | step hm _ ih => exact .step hm ih
open Classical in
noncomputable def rkM (l : List ChanS) (a k : Nat) : B4 := ⟨decide (Rk l a k 0), decide (Rk l a k 1), decide (Rk l a k 2), decide (Rk l a k 3)⟩
theorem rkM_get {l : List ChanS} {a k i : Nat} (hi : i < 4) : (rkM l a k).get i = true ↔ Rk l a k i := by
  have : i = 0 ∨ i = 1 ∨ i = 2 ∨ i = 3 := by omega
  rcases this with rfl | rfl | rfl | rfl <;> simp [rkM, B4.get]
theorem get_lt {m : B4} {i : Nat} (h : m.get i = true) : i < 4 := by
  unfold B4.get at h
  split at h <;> first | omega | (cases h)
theorem rkM_le (l : List ChanS) (a k : Nat) : (rkM l a k).le (rkM l a (k + 1)) := fun i h => (rkM_get (get_lt h)).2 ((rkM_get (get_lt h)).1 h).more
theorem rk_stop {l : List ChanS} {a k : Nat} (hl : ∀ c ∈ l, c.src.toNat < 4 ∧ c.dst.toNat < 4) (ha : a < 4) (he : rkM l a k = rkM l a (k + 1)) {i : Nat} (h : Rch l a i) : i < 4 ∧ Rk l a k i := by
  induction h with
  | refl => exact ⟨ha, .refl⟩
  | step hm _ ih =>
    have hd := (hl _ hm).2
    refine ⟨hd, ?_⟩
    rw [← rkM_get hd, he, rkM_get hd]
    exact .step hm ih.2
theorem rk_free {l : List ChanS} {a : Nat} (ha : a < 4) : ∀ k : Nat, (rkM l a k).free + k ≤ 3 ∨ ∃ j, j ≤ k ∧ rkM l a j = rkM l a (j + 1)
  | 0 => by
    left
    have h : (rkM l a 0).get a = true := (rkM_get ha).2 .refl
    have : a = 0 ∨ a = 1 ∨ a = 2 ∨ a = 3 := by omega
    generalize rkM l a 0 = m at h
    obtain ⟨x, y, z, u⟩ := m
    rcases this with rfl | rfl | rfl | rfl <;> simp only [B4.get] at h <;> subst h <;> simp only [B4.free]
    · cases y <;> cases z <;> cases u <;> simp
    · cases x <;> cases z <;> cases u <;> simp
    · cases x <;> cases y <;> cases u <;> simp
    · cases x <;> cases y <;> cases z <;> simp
  | k + 1 => by
    rcases rk_free (l := l) ha k with h | ⟨j, h1, h2⟩
    · by_cases he : rkM l a k = rkM l a (k + 1)
      · exact .inr ⟨k, by omega, he⟩
      · left
        have := B4.free_lt (rkM_le l a k) he
        omega
    · exact .inr ⟨j, by omega, h2⟩
theorem Rk.mono {l : List ChanS} {a k k' i : Nat} (h : Rk l a k i) (hk : k ≤ k') : Rk l a k' i := by
  obtain ⟨d, rfl⟩ : ∃ d, k' = k + d := ⟨k' - k, by omega⟩
  clear hk
  induction d with
  | zero => exact h
  | succ d ih => exact ih.more
/-- Four channels reach all that is reached. -/
theorem rch_four {l : List ChanS} {a i : Nat} (hl : ∀ c ∈ l, c.src.toNat < 4 ∧ c.dst.toNat < 4) (ha : a < 4) : Rch l a i ↔ Rk l a 4 i := by
  refine ⟨fun h => ?_, Rk.rch⟩
  rcases rk_free (l := l) ha 4 with h4 | ⟨j, h1, h2⟩
  · omega
  · exact (rk_stop hl ha h2 h).2.mono h1
/-- From the front: the first channel, then the others. -/
inductive Rf (l : List ChanS) (b : Nat) : Nat → Nat → Prop
  | refl {k : Nat} : Rf l b k b
  | step {k : Nat} {c : ChanS} : c ∈ l → Rf l b k c.dst.toNat → Rf l b (k + 1) c.src.toNat
theorem Rk.front {l : List ChanS} {k : Nat} {c : ChanS} (hc : c ∈ l) : ∀ {i : Nat}, Rk l c.dst.toNat k i → Rk l c.src.toNat (k + 1) i := by
  intro i h
  generalize ha : c.dst.toNat = a at h
  induction h with
  | refl => subst ha; exact .step hc .refl
  | step hm _ ih => exact .step hm ih
theorem Rf.back {l : List ChanS} {k : Nat} {c : ChanS} (hc : c ∈ l) : ∀ {i : Nat}, Rf l c.src.toNat k i → Rf l c.dst.toNat (k + 1) i := by
  intro i h
  generalize ha : c.src.toNat = a at h
  induction h with
  | refl => subst ha; exact .step hc .refl
  | step hm _ ih => exact .step hm ih
theorem rf_iff {l : List ChanS} {a b k : Nat} : Rf l b k a ↔ Rk l a k b := by
  constructor
  · intro h
    induction h with
    | refl => exact .refl
    | step hm _ ih => exact Rk.front hm ih
  · intro h
    induction h with
    | refl => exact .refl
    | step hm _ ih => exact Rf.back hm ih
/-- The reference's recursion. -/
def pathB (l : List ChanS) (to : Int) : Nat → Int → Bool
  | 0, a => a == to
  | k + 1, a => (a == to) || l.any fun c => (c.src == a) && pathB l to k c.dst
theorem pathB_iff (l : List ChanS) (to : Nat) (hl : ∀ c ∈ l, 0 ≤ c.src ∧ 0 ≤ c.dst) : ∀ (k : Nat) (a : Int), 0 ≤ a → (pathB l to k a = true ↔ Rf l to k a.toNat)
  | 0, a, ha => by
    simp only [pathB, beq_iff_eq]
    constructor
    · rintro rfl; exact .refl
    · intro h
      generalize hk : (0 : Nat) = k at h
      generalize hx : a.toNat = x at h
      cases h with
      | refl => omega
      | step => cases hk
  | k + 1, a, ha => by
    simp only [pathB, Bool.or_eq_true, beq_iff_eq, List.any_eq_true, Bool.and_eq_true]
    constructor
    · rintro (rfl | ⟨c, hc, hs, hp⟩)
      · exact .refl
      · have := (pathB_iff l to hl k c.dst (hl c hc).2).1 hp
        rw [← hs]
        exact .step hc this
    · intro h
      generalize hk : k + 1 = j at h
      generalize hx : a.toNat = x at h
      cases h with
      | refl => left; omega
      | @step k' c hc hr =>
        right
        injection hk with hk
        subst hk
        refine ⟨c, hc, by have := (hl c hc).1; omega, (pathB_iff l to hl _ c.dst (hl c hc).2).2 hr⟩
theorem path_rch {t : TabS} (h : RightT t) {a q : Nat} (ha : a < 4) : pathB t.chans (q : Int) 4 (a : Int) = rchB t.chans a q := by
  have h4 := h.p2
  have hl : ∀ c ∈ t.chans, c.src.toNat < 4 ∧ c.dst.toNat < 4 := fun c hc => by have := h.cs c hc; omega
  refine Bool.eq_iff_iff.2 ?_
  rw [rchB_iff, pathB_iff t.chans q (fun c hc => by have := h.cs c hc; omega) 4 a (by omega), rch_four hl ha, rf_iff]
  simp
/-- Nothing beyond the partitions is reached. -/
theorem rch_lt {t : TabS} (h : RightT t) {a i : Nat} (ha : a < t.parts.length) (hr : Rch t.chans a i) : i < t.parts.length := by
  cases hr with
  | refl => exact ha
  | step hm _ => have := h.cs _ hm; omega
end Go.Proofs.Ytbnodcenlggcnaa
