/-
  Frame tables, plainly: no program in sight.
-/
namespace Go.Proofs.Ytbnodcenlggcnaa

structure PartS where
  mem : Int
  fuel : Int
  hard : Int
structure WinS where
  part : Int
  at_ : Int
  long : Int
structure ChanS where
  src : Int
  dst : Int
  depth : Int
structure TabS where
  frame : Int
  parts : List PartS
  wins : List WinS
  chans : List ChanS
  trial : Int

/-- The first index of which something is so; -1: none. -/
def idxB {α : Type} (p : α → Bool) (l : List α) : Int := match l.findIdx? p with | some i => (i : Int) | none => -1
theorem idxB_at {α : Type} (p : α → Bool) (l : List α) (k : Nat) (x : α) (hx : l[k]? = some x) (hp : p x = true) (h : ∀ y ∈ l.take k, p y = false) : idxB p l = k := by
  have hkl := (List.getElem?_eq_some_iff.1 hx).1
  have : l.findIdx? p = some k := by
    rw [List.findIdx?_eq_some_iff_getElem]
    refine ⟨hkl, ?_, fun j hj => ?_⟩
    · have : l[k] = x := by rw [List.getElem?_eq_getElem hkl] at hx; injection hx
      rw [this]; exact hp
    · have := h l[j] (by rw [List.mem_iff_getElem]; exact ⟨j, by rw [List.length_take]; omega, by rw [List.getElem_take]⟩)
      simp [this]
  unfold idxB
  rw [this]
theorem idxB_none {α : Type} (p : α → Bool) (l : List α) (h : ∀ y ∈ l, p y = false) : idxB p l = -1 := by
  have : l.findIdx? p = none := by
    rw [List.findIdx?_eq_none_iff]
    exact h
  unfold idxB
  rw [this]
theorem any_take {α : Type} (p : α → Bool) (l : List α) (k : Nat) (x : α) (hx : l[k]? = some x) (hp : p x = false) (h : ∀ y ∈ l.take k, p y = false) : ∀ y ∈ l.take (k + 1), p y = false := by
  rw [List.take_add_one, hx]
  intro y hy
  rcases List.mem_append.1 hy with h1 | h1
  · exact h y h1
  · rw [List.mem_singleton.1 h1]; exact hp
theorem idxB_nonneg {α : Type} (p : α → Bool) (l : List α) : decide (0 ≤ idxB p l) = l.any p := by
  unfold idxB
  cases h : l.findIdx? p with
  | none =>
    have := List.findIdx?_eq_none_iff.1 h
    have h2 : l.any p = false := by simpa using this
    rw [h2]; rfl
  | some i =>
    obtain ⟨hi, hp, _⟩ := List.findIdx?_eq_some_iff_getElem.1 h
    have h2 : l.any p = true := List.any_eq_true.2 ⟨l[i], List.getElem_mem hi, hp⟩
    rw [h2]; simp
def inB (n least most : Int) : Bool := decide (least ≤ n) && decide (n ≤ most)
def badB (p : PartS) : Bool := !(inB p.mem 1 16) || !(inB p.fuel 1 32) || !(inB p.hard 0 65535)
def hasB (t : TabS) (p : Int) : Bool := inB p 0 ((t.parts.length : Int) - 1)
/-- A window that may not be, behind those that end at e. -/
def winBad (t : TabS) (e : Int) (w : WinS) : Bool := !(hasB t w.part) || decide (w.at_ < e) || decide (t.frame < w.at_) || decide (w.long < 1) || decide (t.frame - w.at_ < w.long)
def winsOk (t : TabS) : Int → List WinS → Bool
  | _, [] => true
  | e, w :: l => !(winBad t e w) && winsOk t (w.at_ + w.long) l
def careB (l : List WinS) : Bool := l.any fun w => w.part == 0
def winsB (t : TabS) : Bool := winsOk t 0 t.wins && (careB t.wins && decide (t.wins.length ≤ 8))
def chanBad (t : TabS) (c : ChanS) : Bool := !(hasB t c.src) || !(hasB t c.dst) || (c.src == c.dst) || !(inB c.depth 0 4)
def rightB (t : TabS) : Bool :=
  inB t.frame 1 64 && inB t.trial 1 7 && inB (t.parts.length : Int) 2 4 && !(t.parts.any badB) && winsB t && decide (t.chans.length ≤ 4) && !(t.chans.any (chanBad t))


theorem inB_iff (n a b : Int) : inB n a b = true ↔ a ≤ n ∧ n ≤ b := by simp [inB]
structure RightT (t : TabS) : Prop where
  f1 : 1 ≤ t.frame
  f2 : t.frame ≤ 64
  r1 : 1 ≤ t.trial
  r2 : t.trial ≤ 7
  p1 : 2 ≤ t.parts.length
  p2 : t.parts.length ≤ 4
  ps : ∀ p ∈ t.parts, 1 ≤ p.mem ∧ p.mem ≤ 16 ∧ 1 ≤ p.fuel ∧ p.fuel ≤ 32 ∧ 0 ≤ p.hard ∧ p.hard ≤ 65535
  ws : winsOk t 0 t.wins = true
  care : careB t.wins = true
  w8 : t.wins.length ≤ 8
  c4 : t.chans.length ≤ 4
  cs : ∀ c ∈ t.chans, 0 ≤ c.src ∧ c.src < t.parts.length ∧ 0 ≤ c.dst ∧ c.dst < t.parts.length ∧ c.src ≠ c.dst ∧ 0 ≤ c.depth ∧ c.depth ≤ 4
theorem rightB_iff (t : TabS) : rightB t = true ↔ RightT t := by
  have hc : ∀ c, chanBad t c = false ↔ (0 ≤ c.src ∧ c.src < t.parts.length ∧ 0 ≤ c.dst ∧ c.dst < t.parts.length ∧ c.src ≠ c.dst ∧ 0 ≤ c.depth ∧ c.depth ≤ 4) := by
    intro c
    simp only [chanBad, hasB, Bool.or_eq_false_iff, Bool.not_eq_false', inB_iff, beq_eq_false_iff_ne]
    constructor
    · rintro ⟨⟨⟨⟨h1, h2⟩, h3, h4⟩, h5⟩, h6, h7⟩; exact ⟨h1, by omega, h3, by omega, h5, h6, h7⟩
    · rintro ⟨h1, h2, h3, h4, h5, h6, h7⟩; exact ⟨⟨⟨⟨h1, by omega⟩, h3, by omega⟩, h5⟩, h6, h7⟩
  have hp : ∀ p, badB p = false ↔ (1 ≤ p.mem ∧ p.mem ≤ 16 ∧ 1 ≤ p.fuel ∧ p.fuel ≤ 32 ∧ 0 ≤ p.hard ∧ p.hard ≤ 65535) := by
    intro p
    simp only [badB, Bool.or_eq_false_iff, Bool.not_eq_false', inB_iff]
    constructor
    · rintro ⟨⟨⟨h1, h2⟩, h3, h4⟩, h5, h6⟩; exact ⟨h1, h2, h3, h4, h5, h6⟩
    · rintro ⟨h1, h2, h3, h4, h5, h6⟩; exact ⟨⟨⟨h1, h2⟩, h3, h4⟩, h5, h6⟩
  unfold rightB winsB
  simp only [Bool.and_eq_true, inB_iff, decide_eq_true_eq, Bool.not_eq_true', List.any_eq_false, Bool.not_eq_true]
  constructor
  · rintro ⟨⟨⟨⟨⟨⟨⟨h1, h2⟩, h3, h4⟩, h5, h6⟩, h7⟩, h8, h9, h10⟩, h11⟩, h12⟩
    exact ⟨h1, h2, h3, h4, by omega, by omega, fun p hpm => (hp p).1 (h7 p hpm), h8, h9, h10, h11, fun c hcm => (hc c).1 (h12 c hcm)⟩
  · intro r
    exact ⟨⟨⟨⟨⟨⟨⟨r.f1, r.f2⟩, r.r1, r.r2⟩, by have := r.p1; omega, by have := r.p2; omega⟩, fun p hpm => (hp p).2 (r.ps p hpm)⟩, r.ws, r.care, r.w8⟩, r.c4⟩, fun c hcm => (hc c).2 (r.cs c hcm)⟩
/-- A window that may be. -/
def WinT (t : TabS) (e : Int) (w : WinS) : Prop := 0 ≤ w.part ∧ w.part < t.parts.length ∧ e ≤ w.at_ ∧ 1 ≤ w.long ∧ w.at_ + w.long ≤ t.frame
theorem winBad_iff (t : TabS) (e : Int) (w : WinS) : winBad t e w = false ↔ WinT t e w := by
  simp only [winBad, hasB, Bool.or_eq_false_iff, Bool.not_eq_false', inB_iff, decide_eq_false_iff_not, WinT]
  constructor
  · rintro ⟨⟨⟨⟨⟨h1, h2⟩, h3⟩, h4⟩, h5⟩, h6⟩; exact ⟨h1, by omega, by omega, by omega, by omega⟩
  · rintro ⟨h1, h2, h3, h4, h5⟩; exact ⟨⟨⟨⟨⟨h1, by omega⟩, by omega⟩, by omega⟩, by omega⟩, by omega⟩
theorem winsOk_cons (t : TabS) (e : Int) (w : WinS) (l : List WinS) : winsOk t e (w :: l) = true ↔ WinT t e w ∧ winsOk t (w.at_ + w.long) l = true := by
  rw [← winBad_iff]
  simp [winsOk]
theorem winsOk_mem (t : TabS) : ∀ (l : List WinS) (e : Int), winsOk t e l = true → ∀ w ∈ l, WinT t e w
  | [], _, _ => by simp
  | w :: l, e, h => by
    obtain ⟨h1, h2⟩ := (winsOk_cons t e w l).1 h
    intro x hx
    rcases List.mem_cons.1 hx with rfl | hx
    · exact h1
    · have h3 := winsOk_mem t l _ h2 x hx
      have a1 := h1.2.2.1
      have a2 := h1.2.2.2.1
      obtain ⟨b1, b2, b3, b4, b5⟩ := h3
      exact ⟨b1, b2, by omega, b4, b5⟩
theorem RightT.win {t : TabS} (h : RightT t) (w : WinS) (hw : w ∈ t.wins) : WinT t 0 w := winsOk_mem t t.wins 0 h.ws w hw
/-- How many ticks of a frame are a partition's. -/
def shareL (p : Int) (l : List WinS) : Int := (l.map fun w => if w.part = p then w.long else 0).sum
def shareB (t : TabS) (p : Int) : Int := if rightB t then shareL p t.wins else 0
theorem shareL_snoc (p : Int) (l : List WinS) (w : WinS) : shareL p (l ++ [w]) = shareL p l + if w.part = p then w.long else 0 := by simp [shareL]
/-- Is a position in a window? -/
def posB (pos : Int) (w : WinS) : Bool := decide (w.at_ ≤ pos) && decide (pos < w.at_ + w.long)
def windowB (t : TabS) (pos : Int) : Int := if rightB t then idxB (posB pos) t.wins else -1

end Go.Proofs.Ytbnodcenlggcnaa
