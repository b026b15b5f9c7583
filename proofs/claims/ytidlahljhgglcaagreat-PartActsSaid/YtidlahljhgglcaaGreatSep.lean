/-
  Several objects in memory, apart from one another.
-/
import Derived.Test.YtidlahljhgglcaaGreatQa
namespace Go.Proofs.YtidlahljhgglcaaGreat
open Go.RowKit

/-- An object: what is so of a world and of the blocks that it lies in. -/
structure Comp where
  p : World → (Nat → Prop) → Prop
  keep : ∀ {w w' : World} {F : Nat → Prop}, p w F → w.heap.size ≤ w'.heap.size → (∀ b, F b → w'.heap[b]? = w.heap[b]?) → p w' F
  lt : ∀ {w : World} {F : Nat → Prop} {b : Nat}, p w F → F b → b < w.heap.size
def SepF : List Comp → World → (Nat → Prop) → Prop
  | [], _, F => ∀ b, ¬ F b
  | C :: l, w, F => ∃ F1 F2, C.p w F1 ∧ SepF l w F2 ∧ (∀ b, F1 b → ¬ F2 b) ∧ ∀ b, F b ↔ F1 b ∨ F2 b
section
variable {w w' w0 : World} {F F' G : Nat → Prop} {C : Comp} {l l' l1 l2 : List Comp}
theorem SepF.iff_ (h : SepF l w F) (hF : ∀ b, G b ↔ F b) : SepF l w G := by
  cases l with
  | nil => exact fun b hb => h b ((hF b).1 hb)
  | cons C l =>
    obtain ⟨F1, F2, h1, h2, h3, h4⟩ := h
    exact ⟨F1, F2, h1, h2, h3, fun b => (hF b).trans (h4 b)⟩
theorem SepF.lt : ∀ {l : List Comp} {F : Nat → Prop} (_ : SepF l w F) {b : Nat} (_ : F b), b < w.heap.size
  | [], _, h, b, hb => absurd hb (h b)
  | C :: l, _, ⟨F1, F2, h1, h2, _, h4⟩, b, hb => ((h4 b).1 hb).elim (fun h9 => C.lt h1 h9) (fun h9 => SepF.lt h2 h9)
theorem SepF.keep : ∀ {l : List Comp} {F : Nat → Prop} (_ : SepF l w F) (_ : w.heap.size ≤ w'.heap.size) (_ : ∀ b, F b → w'.heap[b]? = w.heap[b]?), SepF l w' F
  | [], _, h, _, _ => h
  | C :: l, _, ⟨F1, F2, h1, h2, h3, h4⟩, hs, hk => ⟨F1, F2, C.keep h1 hs fun b hb => hk b ((h4 b).2 (.inl hb)), SepF.keep h2 hs fun b hb => hk b ((h4 b).2 (.inr hb)), h3, h4⟩
theorem SepF.belowS (h : SepF l w F) (hb : Below w.heap.size w w') : SepF l w' F := h.keep hb.size fun b hf => hb.block b (h.lt hf)
theorem SepF.perm (hp : l.Perm l') : ∀ {F : Nat → Prop}, SepF l w F → SepF l' w F := by
  induction hp with
  | nil => exact fun h => h
  | cons C _ ih =>
    rintro F ⟨F1, F2, h1, h2, h3, h4⟩
    exact ⟨F1, F2, h1, ih h2, h3, h4⟩
  | swap C D l =>
    rintro F ⟨F1, F2, h1, ⟨F3, F4, h5, h6, h7, h8⟩, h3, h4⟩
    refine ⟨F3, fun b => F1 b ∨ F4 b, h5, ⟨F1, F4, h1, h6, fun b hb hc => h3 b hb ((h8 b).2 (.inr hc)), fun b => Iff.rfl⟩, fun b hb hc => ?_, fun b => ?_⟩
    · rcases hc with hc | hc
      · exact h3 b hc ((h8 b).2 (.inl hb))
      · exact h7 b hb hc
    · rw [h4, h8]
      exact ⟨fun h => h.elim (fun h => .inr (.inl h)) (fun h => h.elim .inl (fun h => .inr (.inr h))), fun h => h.elim (fun h => .inr (.inl h)) (fun h => h.elim .inl (fun h => .inr (.inr h)))⟩
  | trans _ _ ih1 ih2 => exact fun h => ih2 (ih1 h)
/-- The first ones move, the others stay. -/
theorem SepF.step : ∀ {l1 : List Comp} {F : Nat → Prop} (_ : SepF (l1 ++ l2) w F), ∃ F1 F2, SepF l1 w F1 ∧ SepF l2 w F2 ∧ (∀ b, F1 b → ¬ F2 b) ∧ ∀ b, F b ↔ F1 b ∨ F2 b
  | [], F, h => ⟨fun _ => False, F, fun _ h => h, h, fun _ h => h.elim, fun b => ⟨.inr, fun h => h.elim (fun h => h.elim) id⟩⟩
  | C :: l1, F, ⟨F1, F2, h1, h2, h3, h4⟩ => by
    obtain ⟨G1, G2, g1, g2, g3, g4⟩ := SepF.step h2
    refine ⟨fun b => F1 b ∨ G1 b, G2, ⟨F1, G1, h1, g1, fun b hb hc => h3 b hb ((g4 b).2 (.inl hc)), fun b => Iff.rfl⟩, g2, fun b hb hc => ?_, fun b => ?_⟩
    · rcases hb with hb | hb
      · exact h3 b hb ((g4 b).2 (.inr hc))
      · exact g3 b hb hc
    · rw [h4, g4]
      exact ⟨fun h => h.elim (fun h => .inl (.inl h)) (fun h => h.elim (fun h => .inl (.inr h)) .inr), fun h => h.elim (fun h => h.elim .inl (fun h => .inr (.inl h))) (fun h => .inr (.inr h))⟩
theorem SepF.app : ∀ {l1 : List Comp} {F1 F2 : Nat → Prop} (_ : SepF l1 w F1) (_ : SepF l2 w F2) (_ : ∀ b, F1 b → ¬ F2 b), SepF (l1 ++ l2) w (fun b => F1 b ∨ F2 b)
  | [], F1, F2, h1, h2, _ => h2.iff_ fun b => ⟨fun h => h.elim (fun h => absurd h (h1 b)) id, .inr⟩
  | C :: l1, F1, F2, ⟨G1, G2, g1, g2, g3, g4⟩, h2, hd =>
    ⟨G1, fun b => G2 b ∨ F2 b, g1, SepF.app g2 h2 fun b hb => hd b ((g4 b).2 (.inr hb)), fun b hb hc => hc.elim (g3 b hb) (hd b ((g4 b).2 (.inl hb))), fun b => by
      show F1 b ∨ F2 b ↔ G1 b ∨ (G2 b ∨ F2 b)
      rw [g4]
      exact ⟨fun h => h.elim (fun h => h.elim .inl (fun h => .inr (.inl h))) (fun h => .inr (.inr h)), fun h => h.elim (fun h => .inl (.inl h)) (fun h => h.elim (fun h => .inl (.inr h)) .inr)⟩⟩
theorem SepF.one {F1 : Nat → Prop} (h : C.p w F1) : SepF [C] w F1 := ⟨F1, fun _ => False, h, fun _ h => h, fun _ _ h => h, fun b => ⟨.inl, fun h => h.elim id (fun h => h.elim)⟩⟩
theorem SepF.two {C D : Comp} {F1 F2 : Nat → Prop} (h : C.p w F1) (h2 : D.p w F2) (hd : ∀ b, F1 b → ¬ F2 b) : SepF [C, D] w (fun b => F1 b ∨ F2 b) := ⟨F1, F2, h, SepF.one h2, hd, fun _ => Iff.rfl⟩
theorem SepF.one' (h : SepF [C] w F) : ∃ F1, C.p w F1 ∧ ∀ b, F b ↔ F1 b := by
  obtain ⟨F1, F2, h1, h2, _, h4⟩ := h
  exact ⟨F1, h1, fun b => (h4 b).trans ⟨fun h => h.elim id (fun h => absurd h (h2 b)), .inl⟩⟩
theorem SepF.two' {C D : Comp} (h : SepF [C, D] w F) : ∃ F1 F2, C.p w F1 ∧ D.p w F2 ∧ (∀ b, F1 b → ¬ F2 b) ∧ ∀ b, F b ↔ F1 b ∨ F2 b := by
  obtain ⟨F1, F2, h1, h2, h3, h4⟩ := h
  obtain ⟨F3, h5, h6⟩ := h2.one'
  exact ⟨F1, F3, h1, h5, fun b hb hc => h3 b hb ((h6 b).2 hc), fun b => (h4 b).trans (by rw [h6])⟩
/-- What was made since the world w0. -/
def AllS (w0 : World) (l : List Comp) (w : World) : Prop := ∃ F, SepF l w F ∧ (∀ b, F b → w0.heap.size ≤ b) ∧ Below w0.heap.size w0 w
theorem AllS.bel (h : AllS w0 l w) : Below w0.heap.size w0 w := by obtain ⟨F, _, _, h⟩ := h; exact h
theorem AllS.nil (hb : Below w0.heap.size w0 w) : AllS w0 [] w := ⟨fun _ => False, fun _ h => h, fun _ h => h.elim, hb⟩
theorem AllS.belowS (h : AllS w0 l w) (hb : Below w.heap.size w w') : AllS w0 l w' := by
  obtain ⟨F, h1, h2, h3⟩ := h
  exact ⟨F, h1.belowS hb, h2, bel_trans h3 hb⟩
theorem AllS.perm (h : AllS w0 l w) (hp : l.Perm l') : AllS w0 l' w := by
  obtain ⟨F, h1, h2⟩ := h
  exact ⟨F, h1.perm hp, h2⟩
theorem AllS.push {F1 : Nat → Prop} (h : AllS w0 l w) (hb : Below w.heap.size w w') (hC : C.p w' F1) (hF : ∀ b, F1 b → w.heap.size ≤ b) : AllS w0 (C :: l) w' := by
  obtain ⟨F, h1, h2, h3⟩ := h
  have hs := h3.size
  exact ⟨fun b => F1 b ∨ F b, ⟨F1, F, hC, h1.belowS hb, fun b hb hc => by have := hF b hb; have := h1.lt hc; omega, fun _ => Iff.rfl⟩, fun b hb => hb.elim (fun h => Nat.le_trans hs (hF b h)) (h2 b), bel_trans h3 hb⟩
theorem AllS.drop (h : AllS w0 (C :: l) w) : AllS w0 l w := by
  obtain ⟨F, ⟨F1, F2, h1, h2, h3, h4⟩, h5, h6⟩ := h
  exact ⟨F2, h2, fun b hb => h5 b ((h4 b).2 (.inr hb)), h6⟩
theorem AllS.get (h : AllS w0 (C :: l) w) : ∃ F1, C.p w F1 ∧ ∀ b, F1 b → w0.heap.size ≤ b := by
  obtain ⟨F, ⟨F1, F2, h1, h2, h3, h4⟩, h5, h6⟩ := h
  exact ⟨F1, h1, fun b hb => h5 b ((h4 b).2 (.inl hb))⟩
theorem SepF.sub (hs : l'.Sublist l) : ∀ {F : Nat → Prop}, SepF l w F → ∃ F', SepF l' w F' ∧ ∀ b, F' b → F b := by
  induction hs with
  | slnil => exact fun h => ⟨_, h, fun _ h => h⟩
  | cons C _ ih =>
    rintro F ⟨F1, F2, h1, h2, h3, h4⟩
    obtain ⟨F', h5, h6⟩ := ih h2
    exact ⟨F', h5, fun b hb => (h4 b).2 (.inr (h6 b hb))⟩
  | cons_cons C _ ih =>
    rintro F ⟨F1, F2, h1, h2, h3, h4⟩
    obtain ⟨F', h5, h6⟩ := ih h2
    exact ⟨fun b => F1 b ∨ F' b, ⟨F1, F', h1, h5, fun b hb hc => h3 b hb (h6 b hc), fun _ => Iff.rfl⟩, fun b hb => (h4 b).2 (hb.imp_right (h6 b))⟩
theorem AllS.sub (h : AllS w0 l w) (hs : l'.Sublist l) : AllS w0 l' w := by
  obtain ⟨F, h1, h2, h3⟩ := h
  obtain ⟨F', h4, h5⟩ := h1.sub hs
  exact ⟨F', h4, fun b hb => h2 b (h5 b hb), h3⟩
/-- The first ones move. -/
theorem AllS.step (h : AllS w0 (l1 ++ l2) w) : ∃ F1, SepF l1 w F1 ∧ ∀ w' l1' F1', SepF l1' w' F1' → Goes F1 w F1' w' → AllS w0 (l1' ++ l2) w' := by
  obtain ⟨F, h1, h2, h3⟩ := h
  obtain ⟨F1, F2, g1, g2, g3, g4⟩ := h1.step
  refine ⟨F1, g1, fun w' l1' F1' h' hG => ⟨_, SepF.app h' (g2.keep hG.apart.size fun b hb => hG.apart.block b (g2.lt hb) fun h9 => g3 b h9 hb) fun b hb hc => ?_, fun b hb => ?_, ?_⟩⟩
  · rcases hG.foot b hb with h9 | h9
    · exact g3 b h9 hc
    · have := g2.lt hc; omega
  · rcases hb with hb | hb
    · rcases hG.foot b hb with h9 | h9
      · exact h2 b ((g4 b).2 (.inl h9))
      · exact Nat.le_trans h3.size h9
    · exact h2 b ((g4 b).2 (.inr hb))
  · exact ⟨hG.apart.os.trans h3.os, hG.apart.tape.trans h3.tape, hG.apart.output.trans h3.output, Nat.le_trans h3.size hG.apart.size, fun b hb => (hG.apart.block b (Nat.lt_of_lt_of_le hb h3.size) fun h9 => by have := h2 b ((g4 b).2 (.inl h9)); omega).trans (h3.block b hb)⟩
theorem AllS.step1 (h : AllS w0 (C :: l) w) : ∃ F1, C.p w F1 ∧ ∀ w' (C' : Comp) F1', C'.p w' F1' → Goes F1 w F1' w' → AllS w0 (C' :: l) w' := by
  obtain ⟨F, h1, h2⟩ := AllS.step (l1 := [C]) (l2 := l) h
  obtain ⟨F1, h3, h4⟩ := h1.one'
  refine ⟨F1, h3, fun w' C' F1' h5 hG => h2 w' [C'] F1' (SepF.one h5) ⟨⟨hG.apart.os, hG.apart.tape, hG.apart.output, hG.apart.size, fun b hb hf => hG.apart.block b hb fun h9 => hf ((h4 b).2 h9)⟩, fun b hb => (hG.foot b hb).imp_left (h4 b).2⟩⟩
theorem AllS.step2 {C D : Comp} (h : AllS w0 (C :: D :: l) w) : ∃ F1 F2, C.p w F1 ∧ D.p w F2 ∧ (∀ b, F1 b → ¬ F2 b) ∧ ∀ w' l' F', SepF l' w' F' → Goes (fun b => F1 b ∨ F2 b) w F' w' → AllS w0 (l' ++ l) w' := by
  obtain ⟨F, h1, h2⟩ := AllS.step (l1 := [C, D]) (l2 := l) h
  obtain ⟨F1, F2, h3, h4, h5, h6⟩ := h1.two'
  refine ⟨F1, F2, h3, h4, h5, fun w' l' F' h7 hG => h2 w' l' F' h7 ⟨⟨hG.apart.os, hG.apart.tape, hG.apart.output, hG.apart.size, fun b hb hf => hG.apart.block b hb fun h9 => hf ((h6 b).2 h9)⟩, fun b hb => (hG.foot b hb).imp_left (h6 b).2⟩⟩
end
/-- A block whose cells are known. -/
def blkC (b : Nat) (T : TypeId) (cs : List Value) : Comp := ⟨fun w F => Blk w b T cs ∧ ∀ x, F x ↔ x = b, fun h _ hk => ⟨(hk b ((h.2 b).2 rfl)).trans h.1, h.2⟩, fun h hb => by rw [(h.2 _).1 hb]; exact h.1.lt⟩
end Go.Proofs.YtidlahljhgglcaaGreat
