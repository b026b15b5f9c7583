/-
  Several objects in memory, apart from one another.
  Messages' cells, one behind the other.
  A machine and its channels among several objects.
  Package part.
  Package part: State, Image, Boot, Run.
  Package part: Boot, Run.
  From a row's reading of an image to the words of the walks.
  Law 23: the example holds; a partition that is not there does nothing (PartNil), walked.
-/
import Derived.Test.YtidlahljhgglcaaPortWays
import Derived.Test.YtidlahljhgglcaaVmMem
import Derived.Test.YtidlahljhgglcaaVmSet
import Derived.Deep.RegionHeld3
import Derived.Test.YtidlahljhgglcaaVmNew
import Derived.Test.YtidlahljhgglcaaOpen
import Derived.Test.YtidlahljhgglcaaImgRight
import Derived.Test.YtidlahljhgglcaaRows
import Derived.Deep.Slices
import Derived.Deep.Fields
import Derived.ChangeSame
import Derived.Lib.SmallJoins
import Derived.Test.YtidlahljhgglcaaVmSame
import Derived.Test.YtidlahljhgglcaaPortQ
namespace Go.Proofs.Ytidlahljhgglcaa
open Go.RowKit

/-- An object: what is so of a world and of the blocks that it lies in. -/
structure Comp where
  p : World → (Nat → Prop) → Prop
  keep : ∀ {w w' : World} {F : Nat → Prop}, p w F → w.heap.size ≤ w'.heap.size → (∀ b, F b → w'.heap[b]? = w.heap[b]?) → p w' F
  lt : ∀ {w : World} {F : Nat → Prop} {b : Nat}, p w F → F b → b < w.heap.size
def SepF : List Comp → World → (Nat → Prop) → Prop
  | [], _, F => ∀ b, ¬ F b
  | C :: l, w, F => ∃ F1 F2, C.p w F1 ∧ SepF l w F2 ∧ (∀ b, F1 b → ¬ F2 b) ∧ ∀ b, F b ↔ F1 b ∨ F2 b
section
variable {w w' w0 : World} {F F' G : Nat → Prop} {C : Comp} {l l' l1 l2 : List Comp}
theorem SepF.iff_ (h : SepF l w F) (hF : ∀ b, G b ↔ F b) : SepF l w G := by
  cases l with
  | nil => exact fun b hb => h b ((hF b).1 hb)
  | cons C l =>
    obtain ⟨F1, F2, h1, h2, h3, h4⟩ := h
    exact ⟨F1, F2, h1, h2, h3, fun b => (hF b).trans (h4 b)⟩
theorem SepF.lt : ∀ {l : List Comp} {F : Nat → Prop} (_ : SepF l w F) {b : Nat} (_ : F b), b < w.heap.size
  | [], _, h, b, hb => absurd hb (h b)
  | C :: l, _, ⟨F1, F2, h1, h2, _, h4⟩, b, hb => ((h4 b).1 hb).elim (fun h9 => C.lt h1 h9) (fun h9 => SepF.lt h2 h9)
theorem SepF.keep : ∀ {l : List Comp} {F : Nat → Prop} (_ : SepF l w F) (_ : w.heap.size ≤ w'.heap.size) (_ : ∀ b, F b → w'.heap[b]? = w.heap[b]?), SepF l w' F
  | [], _, h, _, _ => h
  | C :: l, _, ⟨F1, F2, h1, h2, h3, h4⟩, hs, hk => ⟨F1, F2, C.keep h1 hs fun b hb => hk b ((h4 b).2 (.inl hb)), SepF.keep h2 hs fun b hb => hk b ((h4 b).2 (.inr hb)), h3, h4⟩
theorem SepF.belowS (h : SepF l w F) (hb : Below w.heap.size w w') : SepF l w' F := h.keep hb.size fun b hf => hb.block b (h.lt hf)
theorem SepF.perm (hp : l.Perm l') : ∀ {F : Nat → Prop}, SepF l w F → SepF l' w F := by
  induction hp with
  | nil => exact fun h => h
  | cons C _ ih =>
    rintro F ⟨F1, F2, h1, h2, h3, h4⟩
    exact ⟨F1, F2, h1, ih h2, h3, h4⟩
  | swap C D l =>
    rintro F ⟨F1, F2, h1, ⟨F3, F4, h5, h6, h7, h8⟩, h3, h4⟩
    refine ⟨F3, fun b => F1 b ∨ F4 b, h5, ⟨F1, F4, h1, h6, fun b hb hc => h3 b hb ((h8 b).2 (.inr hc)), fun b => Iff.rfl⟩, fun b hb hc => ?_, fun b => ?_⟩
    · rcases hc with hc | hc
      · exact h3 b hc ((h8 b).2 (.inl hb))
      · exact h7 b hb hc
    · rw [h4, h8]
      exact ⟨fun h => h.elim (fun h => .inr (.inl h)) (fun h => h.elim .inl (fun h => .inr (.inr h))), fun h => h.elim (fun h => .inr (.inl h)) (fun h => h.elim .inl (fun h => .inr (.inr h)))⟩
  | trans _ _ ih1 ih2 => exact fun h => ih2 (ih1 h)
/-- The first ones move, the others stay. -/
theorem SepF.step : ∀ {l1 : List Comp} {F : Nat → Prop} (_ : SepF (l1 ++ l2) w F), ∃ F1 F2, SepF l1 w F1 ∧ SepF l2 w F2 ∧ (∀ b, F1 b → ¬ F2 b) ∧ ∀ b, F b ↔ F1 b ∨ F2 b
  | [], F, h => ⟨fun _ => False, F, fun _ h => h, h, fun _ h => h.elim, fun b => ⟨.inr, fun h => h.elim (fun h => h.elim) id⟩⟩
  | C :: l1, F, ⟨F1, F2, h1, h2, h3, h4⟩ => by
    obtain ⟨G1, G2, g1, g2, g3, g4⟩ := SepF.step h2
    refine ⟨fun b => F1 b ∨ G1 b, G2, ⟨F1, G1, h1, g1, fun b hb hc => h3 b hb ((g4 b).2 (.inl hc)), fun b => Iff.rfl⟩, g2, fun b hb hc => ?_, fun b => ?_⟩
    · rcases hb with hb | hb
      · exact h3 b hb ((g4 b).2 (.inr hc))
      · exact g3 b hb hc
    · rw [h4, g4]
      exact ⟨fun h => h.elim (fun h => .inl (.inl h)) (fun h => h.elim (fun h => .inl (.inr h)) .inr), fun h => h.elim (fun h => h.elim .inl (fun h => .inr (.inl h))) (fun h => .inr (.inr h))⟩
theorem SepF.app : ∀ {l1 : List Comp} {F1 F2 : Nat → Prop} (_ : SepF l1 w F1) (_ : SepF l2 w F2) (_ : ∀ b, F1 b → ¬ F2 b), SepF (l1 ++ l2) w (fun b => F1 b ∨ F2 b)
  | [], F1, F2, h1, h2, _ => h2.iff_ fun b => ⟨fun h => h.elim (fun h => absurd h (h1 b)) id, .inr⟩
  | C :: l1, F1, F2, ⟨G1, G2, g1, g2, g3, g4⟩, h2, hd =>
    ⟨G1, fun b => G2 b ∨ F2 b, g1, SepF.app g2 h2 fun b hb => hd b ((g4 b).2 (.inr hb)), fun b hb hc => hc.elim (g3 b hb) (hd b ((g4 b).2 (.inl hb))), fun b => by
      show F1 b ∨ F2 b ↔ G1 b ∨ (G2 b ∨ F2 b)
      rw [g4]
      exact ⟨fun h => h.elim (fun h => h.elim .inl (fun h => .inr (.inl h))) (fun h => .inr (.inr h)), fun h => h.elim (fun h => .inl (.inl h)) (fun h => h.elim (fun h => .inl (.inr h)) .inr)⟩⟩
theorem SepF.one {F1 : Nat → Prop} (h : C.p w F1) : SepF [C] w F1 := ⟨F1, fun _ => False, h, fun _ h => h, fun _ _ h => h, fun b => ⟨.inl, fun h => h.elim id (fun h => h.elim)⟩⟩
theorem SepF.two {C D : Comp} {F1 F2 : Nat → Prop} (h : C.p w F1) (h2 : D.p w F2) (hd : ∀ b, F1 b → ¬ F2 b) : SepF [C, D] w (fun b => F1 b ∨ F2 b) := ⟨F1, F2, h, SepF.one h2, hd, fun _ => Iff.rfl⟩
theorem SepF.one' (h : SepF [C] w F) : ∃ F1, C.p w F1 ∧ ∀ b, F b ↔ F1 b := by
  obtain ⟨F1, F2, h1, h2, _, h4⟩ := h
  exact ⟨F1, h1, fun b => (h4 b).trans ⟨fun h => h.elim id (fun h => absurd h (h2 b)), .inl⟩⟩
theorem SepF.two' {C D : Comp} (h : SepF [C, D] w F) : ∃ F1 F2, C.p w F1 ∧ D.p w F2 ∧ (∀ b, F1 b → ¬ F2 b) ∧ ∀ b, F b ↔ F1 b ∨ F2 b := by
  obtain ⟨F1, F2, h1, h2, h3, h4⟩ := h
  obtain ⟨F3, h5, h6⟩ := h2.one'
  exact ⟨F1, F3, h1, h5, fun b hb hc => h3 b hb ((h6 b).2 hc), fun b => (h4 b).trans (by rw [h6])⟩
/-- What was made since the world w0. -/
def AllS (w0 : World) (l : List Comp) (w : World) : Prop := ∃ F, SepF l w F ∧ (∀ b, F b → w0.heap.size ≤ b) ∧ Below w0.heap.size w0 w
theorem AllS.bel (h : AllS w0 l w) : Below w0.heap.size w0 w := by obtain ⟨F, _, _, h⟩ := h; exact h
theorem AllS.nil (hb : Below w0.heap.size w0 w) : AllS w0 [] w := ⟨fun _ => False, fun _ h => h, fun _ h => h.elim, hb⟩
theorem AllS.belowS (h : AllS w0 l w) (hb : Below w.heap.size w w') : AllS w0 l w' := by
  obtain ⟨F, h1, h2, h3⟩ := h
  exact ⟨F, h1.belowS hb, h2, bel_trans h3 hb⟩
theorem AllS.perm (h : AllS w0 l w) (hp : l.Perm l') : AllS w0 l' w := by
  obtain ⟨F, h1, h2⟩ := h
  exact ⟨F, h1.perm hp, h2⟩
theorem AllS.push {F1 : Nat → Prop} (h : AllS w0 l w) (hb : Below w.heap.size w w') (hC : C.p w' F1) (hF : ∀ b, F1 b → w.heap.size ≤ b) : AllS w0 (C :: l) w' := by
  obtain ⟨F, h1, h2, h3⟩ := h
  have hs := h3.size
  exact ⟨fun b => F1 b ∨ F b, ⟨F1, F, hC, h1.belowS hb, fun b hb hc => by have := hF b hb; have := h1.lt hc; omega, fun _ => Iff.rfl⟩, fun b hb => hb.elim (fun h => Nat.le_trans hs (hF b h)) (h2 b), bel_trans h3 hb⟩
theorem AllS.drop (h : AllS w0 (C :: l) w) : AllS w0 l w := by
  obtain ⟨F, ⟨F1, F2, h1, h2, h3, h4⟩, h5, h6⟩ := h
  exact ⟨F2, h2, fun b hb => h5 b ((h4 b).2 (.inr hb)), h6⟩
theorem AllS.get (h : AllS w0 (C :: l) w) : ∃ F1, C.p w F1 ∧ ∀ b, F1 b → w0.heap.size ≤ b := by
  obtain ⟨F, ⟨F1, F2, h1, h2, h3, h4⟩, h5, h6⟩ := h
  exact ⟨F1, h1, fun b hb => h5 b ((h4 b).2 (.inl hb))⟩
theorem SepF.sub (hs : l'.Sublist l) : ∀ {F : Nat → Prop}, SepF l w F → ∃ F', SepF l' w F' ∧ ∀ b, F' b → F b := by
  induction hs with
  | slnil => exact fun h => ⟨_, h, fun _ h => h⟩
  | cons C _ ih =>
    rintro F ⟨F1, F2, h1, h2, h3, h4⟩
    obtain ⟨F', h5, h6⟩ := ih h2
    exact ⟨F', h5, fun b hb => (h4 b).2 (.inr (h6 b hb))⟩
  | cons_cons C _ ih =>
    rintro F ⟨F1, F2, h1, h2, h3, h4⟩
    obtain ⟨F', h5, h6⟩ := ih h2
    exact ⟨fun b => F1 b ∨ F' b, ⟨F1, F', h1, h5, fun b hb hc => h3 b hb (h6 b hc), fun _ => Iff.rfl⟩, fun b hb => (h4 b).2 (hb.imp_right (h6 b))⟩
theorem AllS.sub (h : AllS w0 l w) (hs : l'.Sublist l) : AllS w0 l' w := by
  obtain ⟨F, h1, h2, h3⟩ := h
  obtain ⟨F', h4, h5⟩ := h1.sub hs
  exact ⟨F', h4, fun b hb => h2 b (h5 b hb), h3⟩
/-- The first ones move. -/
theorem AllS.step (h : AllS w0 (l1 ++ l2) w) : ∃ F1, SepF l1 w F1 ∧ ∀ w' l1' F1', SepF l1' w' F1' → Goes F1 w F1' w' → AllS w0 (l1' ++ l2) w' := by
  obtain ⟨F, h1, h2, h3⟩ := h
  obtain ⟨F1, F2, g1, g2, g3, g4⟩ := h1.step
  refine ⟨F1, g1, fun w' l1' F1' h' hG => ⟨_, SepF.app h' (g2.keep hG.apart.size fun b hb => hG.apart.block b (g2.lt hb) fun h9 => g3 b h9 hb) fun b hb hc => ?_, fun b hb => ?_, ?_⟩⟩
  · rcases hG.foot b hb with h9 | h9
    · exact g3 b h9 hc
    · have := g2.lt hc; omega
  · rcases hb with hb | hb
    · rcases hG.foot b hb with h9 | h9
      · exact h2 b ((g4 b).2 (.inl h9))
      · exact Nat.le_trans h3.size h9
    · exact h2 b ((g4 b).2 (.inr hb))
  · exact ⟨hG.apart.os.trans h3.os, hG.apart.tape.trans h3.tape, hG.apart.output.trans h3.output, Nat.le_trans h3.size hG.apart.size, fun b hb => (hG.apart.block b (Nat.lt_of_lt_of_le hb h3.size) fun h9 => by have := h2 b ((g4 b).2 (.inl h9)); omega).trans (h3.block b hb)⟩
theorem AllS.step1 (h : AllS w0 (C :: l) w) : ∃ F1, C.p w F1 ∧ ∀ w' (C' : Comp) F1', C'.p w' F1' → Goes F1 w F1' w' → AllS w0 (C' :: l) w' := by
  obtain ⟨F, h1, h2⟩ := AllS.step (l1 := [C]) (l2 := l) h
  obtain ⟨F1, h3, h4⟩ := h1.one'
  refine ⟨F1, h3, fun w' C' F1' h5 hG => h2 w' [C'] F1' (SepF.one h5) ⟨⟨hG.apart.os, hG.apart.tape, hG.apart.output, hG.apart.size, fun b hb hf => hG.apart.block b hb fun h9 => hf ((h4 b).2 h9)⟩, fun b hb => (hG.foot b hb).imp_left (h4 b).2⟩⟩
theorem AllS.step2 {C D : Comp} (h : AllS w0 (C :: D :: l) w) : ∃ F1 F2, C.p w F1 ∧ D.p w F2 ∧ (∀ b, F1 b → ¬ F2 b) ∧ ∀ w' l' F', SepF l' w' F' → Goes (fun b => F1 b ∨ F2 b) w F' w' → AllS w0 (l' ++ l) w' := by
  obtain ⟨F, h1, h2⟩ := AllS.step (l1 := [C, D]) (l2 := l) h
  obtain ⟨F1, F2, h3, h4, h5, h6⟩ := h1.two'
  refine ⟨F1, F2, h3, h4, h5, fun w' l' F' h7 hG => h2 w' l' F' h7 ⟨⟨hG.apart.os, hG.apart.tape, hG.apart.output, hG.apart.size, fun b hb hf => hG.apart.block b hb fun h9 => hf ((h6 b).2 h9)⟩, fun b hb => (hG.foot b hb).imp_left (h6 b).2⟩⟩
end
/-- A block whose cells are known. -/
def blkC (b : Nat) (T : TypeId) (cs : List Value) : Comp := ⟨fun w F => Blk w b T cs ∧ ∀ x, F x ↔ x = b, fun h _ hk => ⟨(hk b ((h.2 b).2 rfl)).trans h.1, h.2⟩, fun h hb => by rw [(h.2 _).1 hb]; exact h.1.lt⟩
end Go.Proofs.Ytidlahljhgglcaa
namespace Go.Proofs.Ytidlahljhgglcaa
open Go.RowKit

theorem sent_get : ∀ (l : List (Int × Int)) (k j : Nat) (x : Int × Int), l[k]? = some x → j < 2 → (l.flatMap sentC)[k * 2 + j]? = (sentC x)[j]?
  | [], k, j, x, h, _ => by simp at h
  | y :: l, 0, j, x, h, hj => by
    simp at h
    subst h
    rw [List.flatMap_cons, List.getElem?_append_left (by simp [sentC]; omega)]
    simp
  | y :: l, k + 1, j, x, h, hj => by
    rw [List.flatMap_cons, List.getElem?_append_right (by simp [sentC]; omega)]
    have := sent_get l k j x (by simpa using h) hj
    rw [← this]
    congr 1
    simp [sentC]
    omega
theorem sent_len (l : List (Int × Int)) : (l.flatMap sentC).length = l.length * 2 := by
  induction l with
  | nil => rfl
  | cons y l ih => rw [List.flatMap_cons, List.length_append, ih, List.length_cons]; simp [sentC]; omega
theorem rdsSent {w : World} {B : Nat} {A : Option Addr} {n : Nat} {l : List (Int × Int)} (h : Reads w B 2 A n (l.flatMap sentC)) : RdS w B 2 A n sentC l := by
  have hl : l.length = n := by have := h.1; rw [sent_len] at this; omega
  refine ⟨hl, fun k x hx => ?_⟩
  have hk := (List.getElem?_eq_some_iff.1 hx).1
  obtain ⟨ad, e, hb, hc⟩ := h.2 (by omega)
  refine ⟨ad, e, hb, fun j u hu => hc _ u ?_⟩
  have hj : j < 2 := by have := (List.getElem?_eq_some_iff.1 hu).1; simpa [sentC] using this
  rw [sent_get l k j x hx hj]
  exact hu
end Go.Proofs.Ytidlahljhgglcaa
namespace Go.Proofs.Ytidlahljhgglcaa
open Go.RowKit Go.ChangeShapes Go.WideShapes Go.ChangeAt

def vmC (g : Nat) (i : ImgS) (s : VmS) : Comp := ⟨fun w F => VmAt w F g i s, fun h _ hk => h.keep hk, fun h hb => h.lt hb⟩
def setC (gs : Nat) (cs : List ChanS) (ss : Nat → WayS) : Comp := ⟨fun w F => SetAt w F gs cs ss, fun h hs hk => h.keep hs hk, fun h hb => h.lt hb⟩
def rowC (e : TypeId) (size : Nat) (A : Option Addr) (n c : Nat) (xs : List Value) : Comp :=
  ⟨fun w F => w.ownsRow 0 e size (.slice A n c) n xs ∧ ∀ b, F b ↔ Foot A b, fun h _ hk => ⟨own_keep h.1 fun b hb => hk b ((h.2 b).2 hb), h.2⟩, fun h hb => own_lt h.1 ((h.2 _).1 hb)⟩
section
variable {w w' w0 : World} {g gs : Nat} {i : ImgS} {cs : List ChanS} {s : VmS} {ss : Nat → WayS} {l : List Comp}
theorem AllS.tickA (h : AllS w0 (vmC g i s :: setC gs cs ss :: l) w) (hI : RightI i) (hs : FineS i s) (hK : KAll cs ss) (hd : ∀ k, k < cs.length → depthAt cs k ≤ 4) (ht0 : 0 ≤ s.ticks) (ht1 : s.ticks ≤ 1000000000) :
    Calls Try.prog 17 #[.pointer (some ⟨g, 0, none⟩), .iface 31 (.pointer (some ⟨gs, 0, none⟩))] w fun e w' => ∃ A c, e = .returned (outV A (tickF i cs s ss).2.2.1.length c (tickF i cs s ss).2.2.2) ∧
      AllS w0 (vmC g i (tickF i cs s ss).1 :: setC gs cs (tickF i cs s ss).2.1 :: rowC 51 2 A (tickF i cs s ss).2.2.1.length c ((tickF i cs s ss).2.2.1.flatMap sentC) :: l) w' := by
  obtain ⟨F1, F2, h1, h2, hdis, hcl⟩ := h.step2
  refine (tick_all h1 h2 hdis hI hs hK hd ht0 ht1).mono ?_
  rintro e w' ⟨F1', F2', A, c, rfl, hM', hS', hdis', hA, hown, hG⟩
  refine ⟨A, c, rfl, ?_⟩
  exact hcl w' [vmC g i (tickF i cs s ss).1, setC gs cs (tickF i cs s ss).2.1, rowC 51 2 A (tickF i cs s ss).2.2.1.length c ((tickF i cs s ss).2.2.1.flatMap sentC)] (fun b => F1' b ∨ F2' b ∨ Foot A b)
    ⟨F1', fun b => F2' b ∨ Foot A b, hM', SepF.two (C := setC gs cs (tickF i cs s ss).2.1) (D := rowC 51 2 A (tickF i cs s ss).2.2.1.length c ((tickF i cs s ss).2.2.1.flatMap sentC)) hS' ⟨hown, fun _ => Iff.rfl⟩ fun b hb hf => (hA b hf).2 hb, fun b hb hf => hf.elim (hdis' b hb) (fun hf => (hA b hf).1 hb), fun _ => Iff.rfl⟩ hG
theorem AllS.sendA (h : AllS w0 (setC gs cs ss :: l) w) (hK : KAll cs ss) (hd : ∀ k, k < cs.length → depthAt cs k ≤ 4) (p k v : Int) :
    Calls Try.prog 27 #[.pointer (some ⟨gs, 0, none⟩), .int .i64 p, .int .i64 k, .int .i64 v] w fun e w' => e = .returned (.tuple #[.bool (sendP cs ss p k v).1, .int .i64 (sendP cs ss p k v).2.1]) ∧ AllS w0 (setC gs cs (sendP cs ss p k v).2.2 :: l) w' := by
  obtain ⟨F1, h1, hcl⟩ := h.step1
  refine (sendP_any h1 hK hd p k v).mono ?_
  rintro e w' ⟨F', rfl, hS, hG⟩
  exact ⟨rfl, hcl w' (setC gs cs (sendP cs ss p k v).2.2) F' hS hG⟩
theorem AllS.resetA (h : AllS w0 (vmC g i s :: l) w) (hI : RightI i) :
    Calls Try.prog 19 #[.pointer (some ⟨g, 0, none⟩)] w fun e w' => e = .returned (.tuple #[]) ∧ AllS w0 (vmC g i (freshS i.mem.toNat) :: l) w' := by
  obtain ⟨F1, h1, hcl⟩ := h.step1
  refine (reset_at h1 i.mem.toNat (by have := hI.2.2.2.1; omega) (by have := hI.2.2.2.1; omega)).mono ?_
  rintro e w' ⟨rfl, F', hV, hG⟩
  exact ⟨rfl, hcl w' (vmC g i (freshS i.mem.toNat)) F' hV hG⟩
theorem AllS.stateA (h : AllS w0 (vmC g i s :: l) w) (hI : RightI i) (hs : FineS i s) :
    Calls Try.prog 16 #[.pointer (some ⟨g, 0, none⟩)] w fun e w' => ∃ A1 c1 A2 c2, e = .returned (stateV s A1 c1 A2 c2) ∧ w'.ownsRow w.heap.size 3 1 (.slice A1 s.stack.length c1) s.stack.length (s.stack.map iV) ∧ w'.ownsRow w.heap.size 3 1 (.slice A2 s.mem.length c2) s.mem.length (s.mem.map iV) ∧ Below w.heap.size w w' := by
  obtain ⟨F1, h1, _⟩ := h.get
  exact state_any h1 (by have := hs.len; omega) (by have := hs.mlen; have := hI.2.2.2.1; omega)
theorem AllS.imageA (h : AllS w0 (vmC g i s :: l) w) (hI : RightI i) :
    Calls Try.prog 20 #[.pointer (some ⟨g, 0, none⟩)] w fun e w' => ∃ A c, e = .returned (imgV i A c) ∧ w'.ownsRow w.heap.size 5 1 (.slice A i.code.length c) i.code.length (i.code.map bV) ∧ Below w.heap.size w w' := by
  obtain ⟨F1, h1, _⟩ := h.get
  exact image_any h1 (by have := hI.2.2.2.2.2.2.2; omega)
theorem AllS.rowReads {e : TypeId} {size : Nat} {A : Option Addr} {n c : Nat} {xs : List Value} (h : AllS w0 (rowC e size A n c xs :: l) w) : Reads w w.heap.size size A n xs := by
  obtain ⟨F1, h1, _⟩ := h.get
  exact Reads.of_own h1.1
theorem AllS.blk {b : Nat} {T : TypeId} {xs : List Value} (h : AllS w0 (blkC b T xs :: l) w) : Blk w b T xs := by
  obtain ⟨F1, h1, _⟩ := h.get
  exact h1.1
theorem AllS.made {T : TypeId} {xs : List Value} (h : AllS w0 l w) : AllS w0 (blkC w.heap.size T xs :: l) (w.alloc (.cells xs.toArray T)) :=
  h.push (below_alloc1 w _) (C := blkC w.heap.size T xs) (F1 := fun b => b = w.heap.size) ⟨Blk.new w T xs, fun _ => Iff.rfl⟩ fun b hb => Nat.le_of_eq hb.symm
end
end Go.Proofs.Ytidlahljhgglcaa
namespace Go.Proofs.Ytidlahljhgglcaa
open Go.RowKit Go.ChangeShapes Go.WideShapes Go.ChangeAt

/-- A partition's block: its machine, how often it was booted. -/
def ptC (p : Nat) (m : Option Nat) (b : Int) : Comp := blkC p 136 [.pointer (m.map fun g => ⟨g, 0, none⟩), .int .i64 b]
section
variable {w w' w0 : World} {p g gs : Nat} {i : ImgS} {cs : List ChanS} {s : VmS} {ss : Nat → WayS} {l : List Comp} {b : Int} {m : Option Nat}
theorem AllS.ptCells (h : AllS w0 (ptC p m b :: l) w) : w.cell? ⟨p, 0, none⟩ = some (.pointer (m.map fun g => ⟨g, 0, none⟩)) ∧ w.cell? ⟨p, 1, none⟩ = some (.int .i64 b) ∧ ∀ k, w.frozen? ⟨p, k, none⟩ = false := by
  have hb : Blk w p 136 [.pointer (m.map fun g => ⟨g, 0, none⟩), .int .i64 b] := AllS.blk h
  exact ⟨hb.cellAt rfl, hb.cellAt rfl, hb.frozen⟩
theorem newPart_any (w : World) : Calls Try.prog 32 #[] w fun e w' => e = .returned (.pointer (some ⟨w.heap.size, 0, none⟩)) ∧ w' = w.alloc (.cells #[.pointer none, .int .i64 0] 136) := by
  go_enter Try.func32, Try.ntmps32
  go_wp2_with fail
  go_ret
  exact ⟨rfl, by first | trivial | rfl⟩
theorem empty_nil (w : World) : Calls Try.prog 56 #[.pointer none] w fun e w' => e = .returned (.bool true) ∧ w = w' := by
  go_enter Try.func56, Try.ntmps56
  go_wp2_with fail
  go_ret
  exact ⟨rfl, rfl⟩
theorem empty_any (h : AllS w0 (ptC p m b :: l) w) : Calls Try.prog 56 #[.pointer (some ⟨p, 0, none⟩)] w fun e w' => e = .returned (.bool m.isNone) ∧ w = w' := by
  obtain ⟨c0, _, _⟩ := h.ptCells
  cases m with
  | none =>
    simp only [Option.map_none] at c0
    clear h
    go_enter Try.func56, Try.ntmps56
    go_wp2_with fail
    go_ret
    exact ⟨rfl, rfl⟩
  | some g =>
    simp only [Option.map_some] at c0
    clear h
    go_enter Try.func56, Try.ntmps56
    go_wp2_with fail
    go_ret
    exact ⟨rfl, rfl⟩
theorem stands_nil (w : World) : Calls Try.prog 41 #[.pointer none] w fun e w' => e = .returned (.bool false) ∧ w = w' := by
  go_enter Try.func41, Try.ntmps41
  go_wp2_with fail
  refine (empty_nil _).mono ?_
  rintro e w' ⟨rfl, rfl⟩
  go_wp2_with fail
  go_ret
  exact ⟨rfl, rfl⟩
theorem stands_none (h : AllS w0 (ptC p none b :: l) w) : Calls Try.prog 41 #[.pointer (some ⟨p, 0, none⟩)] w fun e w' => e = .returned (.bool false) ∧ w = w' := by
  have i1 := hid (empty_any h)
  clear h
  go_enter Try.func41, Try.ntmps41
  go_wp2_with fail
  refine i1.out.mono ?_
  rintro e w' ⟨rfl, rfl⟩
  go_wp2_with fail
  go_ret
  exact ⟨rfl, rfl⟩
theorem field_stF (v0 v1 v2 v3 v4 : Value) (w : World) : (Instr.field 42 (.agg #[v0, v1, v2, v3, v4]) 4).run Try.prog w = .ok v4 w := by kernel_rfl
theorem stands_any (h : AllS w0 (ptC p (some g) b :: vmC g i s :: l) w) (hI : RightI i) (hs : FineS i s) : Calls Try.prog 41 #[.pointer (some ⟨p, 0, none⟩)] w fun e w' => e = .returned (.bool (s.fault != 0)) ∧ Below w.heap.size w w' := by
  have i1 := hid (empty_any h)
  have i2 := hid (h.drop.stateA hI hs)
  obtain ⟨c0, _, _⟩ := h.ptCells
  simp only [Option.map_some] at c0
  have hf := field_stF
  unfold stateV at i2
  obtain ⟨f, hfa⟩ : ∃ f, s.fault = f := ⟨_, rfl⟩
  simp only [hfa] at i2 ⊢
  clear h hfa
  go_enter Try.func41, Try.ntmps41
  go_wp2_with fail
  refine i1.out.mono ?_
  rintro e w' ⟨rfl, rfl⟩
  go_wp2_with fail
  refine i2.out.mono ?_
  rintro e w2 ⟨A1, c1, A2, c2, rfl, _, _, hb2⟩
  go_wp2_with fail
  go_ret
  exact ⟨rfl, hb2⟩
theorem runs_nil (w : World) : Calls Try.prog 38 #[.pointer none] w fun e w' => e = .returned (.bool false) ∧ w = w' := by
  go_enter Try.func38, Try.ntmps38
  go_wp2_with fail
  refine (empty_nil _).mono ?_
  rintro e w' ⟨rfl, rfl⟩
  go_wp2_with fail
  go_ret
  exact ⟨rfl, rfl⟩
theorem runs_none (h : AllS w0 (ptC p none b :: l) w) : Calls Try.prog 38 #[.pointer (some ⟨p, 0, none⟩)] w fun e w' => e = .returned (.bool false) ∧ w = w' := by
  have i1 := hid (empty_any h)
  clear h
  go_enter Try.func38, Try.ntmps38
  go_wp2_with fail
  refine i1.out.mono ?_
  rintro e w' ⟨rfl, rfl⟩
  go_wp2_with fail
  go_ret
  exact ⟨rfl, rfl⟩
theorem runs_any (h : AllS w0 (ptC p (some g) b :: vmC g i s :: l) w) (hI : RightI i) (hs : FineS i s) : Calls Try.prog 38 #[.pointer (some ⟨p, 0, none⟩)] w fun e w' => e = .returned (.bool (s.fault == 0)) ∧ Below w.heap.size w w' := by
  have i1 := hid (empty_any h)
  have i2 := hid (stands_any h hI hs)
  have hz : Hid ((s.fault == 0) = !(s.fault != 0)) := hid (by simp [bne])
  generalize (s.fault != 0) = f at *
  clear h
  go_enter Try.func38, Try.ntmps38
  go_wp2_with fail
  refine i1.out.mono ?_
  rintro e w' ⟨rfl, rfl⟩
  go_wp2_with fail
  refine i2.out.mono ?_
  rintro e w2 ⟨rfl, hb2⟩
  go_wp2_with fail
  go_ret
  exact ⟨by rw [hz.out]; rfl, hb2⟩
theorem boots_nil (w : World) : Calls Try.prog 34 #[.pointer none] w fun e w' => e = .returned (.int .i64 0) ∧ w = w' := by
  go_enter Try.func34, Try.ntmps34
  go_wp2_with fail
  go_ret
  exact ⟨rfl, rfl⟩
theorem boots_any (h : AllS w0 (ptC p m b :: l) w) : Calls Try.prog 34 #[.pointer (some ⟨p, 0, none⟩)] w fun e w' => e = .returned (.int .i64 b) ∧ w = w' := by
  obtain ⟨_, c1, _⟩ := h.ptCells
  clear h
  go_enter Try.func34, Try.ntmps34
  go_wp2_with fail
  go_ret
  exact ⟨rfl, rfl⟩
theorem stop_nil (w : World) : Calls Try.prog 39 #[.pointer none] w fun e w' => e = .returned (.tuple #[]) ∧ w = w' := by
  go_enter Try.func39, Try.ntmps39
  go_wp2_with fail
  refine bodyPost_end (v := .tuple #[]) (by simp [results, Try.results39, go_sem]) rfl ?_
  exact ⟨rfl, by first | trivial | rfl⟩
theorem stop_any (h : AllS w0 (ptC p m b :: l) w) : Calls Try.prog 39 #[.pointer (some ⟨p, 0, none⟩)] w fun e w' => e = .returned (.tuple #[]) ∧ AllS w0 (ptC p none b :: l) w' := by
  obtain ⟨c0, _, fz⟩ := h.ptCells
  have f0 := fz 0
  have H := hid h
  clear h fz
  go_enter Try.func39, Try.ntmps39
  go_wp2_with fail
  refine bodyPost_end (v := .tuple #[]) (by simp [results, Try.results39, go_sem]) rfl ?_
  refine ⟨rfl, ?_⟩
  obtain ⟨F1, h1, hcl⟩ := H.out.step1
  have hb : Blk w p 136 _ ∧ _ := h1
  exact hcl _ (ptC p none b) F1 ⟨hb.1.set_ 0 (.pointer none), hb.2⟩ ⟨(Apart.refl _ _).setCell (.inl ((hb.2 p).2 rfl)) _, fun _ h9 => .inl h9⟩
end
end Go.Proofs.Ytidlahljhgglcaa
namespace Go.Proofs.Ytidlahljhgglcaa
open Go.RowKit Go.ChangeShapes Go.WideShapes Go.ChangeAt

section
variable {w w' w0 : World} {p g gs : Nat} {i : ImgS} {cs : List ChanS} {s : VmS} {ss : Nat → WayS} {l : List Comp} {b : Int} {m : Option Nat}
theorem pstate_nil (w : World) : Calls Try.prog 36 #[.pointer none] w fun e w' => e = .returned (stateV ⟨0, [], [], 0, 0⟩ none 0 none 0) ∧ Below w.heap.size w w' := by
  go_enter Try.func36, Try.ntmps36
  go_wp2_with fail
  refine (empty_nil _).mono ?_
  rintro e w' ⟨rfl, rfl⟩
  go_wp2_with fail
  go_returns
  exact ⟨rfl, below_alloc1 _ _⟩
theorem pstate_none (h : AllS w0 (ptC p none b :: l) w) : Calls Try.prog 36 #[.pointer (some ⟨p, 0, none⟩)] w fun e w' => e = .returned (stateV ⟨0, [], [], 0, 0⟩ none 0 none 0) ∧ Below w.heap.size w w' := by
  have i1 := hid (fun W (hb : Below w.heap.size w W) => empty_any (h.belowS hb))
  clear h
  go_enter Try.func36, Try.ntmps36
  go_wp2_with fail
  refine (i1.out _ (below_alloc1 _ _)).mono ?_
  rintro e w' ⟨rfl, rfl⟩
  go_wp2_with fail
  go_returns
  exact ⟨rfl, below_alloc1 _ _⟩
set_option maxRecDepth 100000 in
set_option maxHeartbeats 2000000 in
theorem pstate_any (h : AllS w0 (ptC p (some g) b :: vmC g i s :: l) w) (hI : RightI i) (hs : FineS i s) :
    Calls Try.prog 36 #[.pointer (some ⟨p, 0, none⟩)] w fun e w' => ∃ A1 c1 A2 c2, e = .returned (stateV s A1 c1 A2 c2) ∧ w'.ownsRow w.heap.size 3 1 (.slice A1 s.stack.length c1) s.stack.length (s.stack.map iV) ∧ w'.ownsRow w.heap.size 3 1 (.slice A2 s.mem.length c2) s.mem.length (s.mem.map iV) ∧ Below w.heap.size w w' := by
  obtain ⟨w1, hw1, hX1, hb1, hs1⟩ : ∃ W, w.alloc (.cells #[.int .i64 0, .slice none 0 0, .slice none 0 0, .int .i64 0, .int .i64 0] 42) = W ∧ Blk W w.heap.size 42 [.int .i64 0, .slice none 0 0, .slice none 0 0, .int .i64 0, .int .i64 0] ∧ Below w.heap.size w W ∧ W.heap.size = w.heap.size + 1 := ⟨_, rfl, Blk.new w _ [.int .i64 0, .slice none 0 0, .slice none 0 0, .int .i64 0, .int .i64 0], below_alloc1 _ _, by simp⟩
  have H1 := hid (h.belowS hb1)
  have i1 := hid (empty_any H1.out)
  have i2 := hid (H1.out.drop.stateA hI hs)
  obtain ⟨c0, _, _⟩ := H1.out.ptCells
  simp only [Option.map_some] at c0
  have HX1 := hid hX1
  have HB1 := hid hb1
  have HS1 := hid hs1
  unfold stateV at i2 ⊢
  obtain ⟨pc, st, me, tk, fa⟩ := s
  simp only at i2 ⊢
  obtain ⟨N, hN⟩ : ∃ N, st.length = N := ⟨_, rfl⟩
  obtain ⟨M, hM⟩ : ∃ M, me.length = M := ⟨_, rfl⟩
  rw [hN, hM] at i2
  rw [hN, hM]
  clear h hX1 hb1 hs1 hN hM
  go_enter Try.func36, Try.ntmps36
  go_wp2_with fail
  refine i1.out.mono ?_
  rintro e w' ⟨rfl, rfl⟩
  go_wp2_with fail
  refine i2.out.mono ?_
  rintro e w2 ⟨A1, c1, A2, c2, rfl, ho1, ho2, hb2⟩
  have hX2 := HX1.out.belowS hb2
  have z0 : w2.cell? ⟨w.heap.size, 0, none⟩ = some (.int .i64 0) := hX2.cellAt rfl
  have z1 : w2.cell? ⟨w.heap.size, 1, none⟩ = some (.slice none 0 0) := hX2.cellAt rfl
  have z2 : w2.cell? ⟨w.heap.size, 2, none⟩ = some (.slice none 0 0) := hX2.cellAt rfl
  have z3 : w2.cell? ⟨w.heap.size, 3, none⟩ = some (.int .i64 0) := hX2.cellAt rfl
  have z4 : w2.cell? ⟨w.heap.size, 4, none⟩ = some (.int .i64 0) := hX2.cellAt rfl
  have zf := hX2.frozen
  have HX2 := hid hX2
  have HO1 := hid ho1
  have HO2 := hid ho2
  have HB2 := hid (bel_trans HB1.out hb2)
  clear hX2 ho1 ho2 hb2 c0
  go_wp2_with fail
  obtain ⟨w3, hw3, hb3, hk3, hr3⟩ := store5V HX2.out rfl (.int .i64 pc) (.slice A1 N c1) (.slice A2 M c2) (.int .i64 tk) (.int .i64 fa)
  rw [hw3]
  clear hw3 z0 z1 z2 z3 z4 zf
  obtain ⟨r0, r1, r2, r3, r4⟩ : _ ∧ _ ∧ _ ∧ _ ∧ _ := ⟨hr3.cellAt (i := 0) rfl, hr3.cellAt (i := 1) rfl, hr3.cellAt (i := 2) rfl, hr3.cellAt (i := 3) rfl, hr3.cellAt (i := 4) rfl⟩
  refine bodyPost_ret (v := .agg #[.int .i64 pc, .slice A1 N c1, .slice A2 M c2, .int .i64 tk, .int .i64 fa]) (by simp [results, Try.results36, go_sem, r0, r1, r2, r3, r4]) rfl ?_
  have hh := HS1.out
  exact ⟨A1, c1, A2, c2, rfl, own_mono (own_keep HO1.out fun x hx => hk3 x (by have := (HO1.out.lt x (ownBlock_foot.2 hx)).1; omega)) (by omega), own_mono (own_keep HO2.out fun x hx => hk3 x (by have := (HO2.out.lt x (ownBlock_foot.2 hx)).1; omega)) (by omega), HB2.out.trans (hb3.mono (Nat.le_refl _))⟩
theorem pimage_nil (w : World) : Calls Try.prog 40 #[.pointer none] w fun e w' => e = .returned (.tuple #[imgV ⟨0, 0, 0, 0, 0, 0, 0, []⟩ none 0, .bool false]) ∧ Below w.heap.size w w' := by
  go_enter Try.func40, Try.ntmps40
  go_wp2_with fail
  refine (empty_nil _).mono ?_
  rintro e w' ⟨rfl, rfl⟩
  go_wp2_with fail
  go_returns
  exact ⟨rfl, below_alloc1 _ _⟩
theorem pimage_none (h : AllS w0 (ptC p none b :: l) w) : Calls Try.prog 40 #[.pointer (some ⟨p, 0, none⟩)] w fun e w' => e = .returned (.tuple #[imgV ⟨0, 0, 0, 0, 0, 0, 0, []⟩ none 0, .bool false]) ∧ Below w.heap.size w w' := by
  have i1 := hid (fun W (hb : Below w.heap.size w W) => empty_any (h.belowS hb))
  clear h
  go_enter Try.func40, Try.ntmps40
  go_wp2_with fail
  refine (i1.out _ (below_alloc1 _ _)).mono ?_
  rintro e w' ⟨rfl, rfl⟩
  go_wp2_with fail
  go_returns
  exact ⟨rfl, below_alloc1 _ _⟩
set_option maxRecDepth 100000 in
set_option maxHeartbeats 2000000 in
theorem pimage_any (h : AllS w0 (ptC p (some g) b :: vmC g i s :: l) w) (hI : RightI i) :
    Calls Try.prog 40 #[.pointer (some ⟨p, 0, none⟩)] w fun e w' => ∃ A c, e = .returned (.tuple #[imgV i A c, .bool true]) ∧ w'.ownsRow w.heap.size 5 1 (.slice A i.code.length c) i.code.length (i.code.map bV) ∧ Below w.heap.size w w' := by
  obtain ⟨w1, hw1, hX1, hb1, hs1⟩ : ∃ W, w.alloc (.cells #[.int .i64 0, .int .i64 0, .int .i64 0, .int .i64 0, .int .i64 0, .int .i64 0, .int .i64 0, .slice none 0 0] 24) = W ∧ Blk W w.heap.size 24 [.int .i64 0, .int .i64 0, .int .i64 0, .int .i64 0, .int .i64 0, .int .i64 0, .int .i64 0, .slice none 0 0] ∧ Below w.heap.size w W ∧ W.heap.size = w.heap.size + 1 := ⟨_, rfl, Blk.new w _ [.int .i64 0, .int .i64 0, .int .i64 0, .int .i64 0, .int .i64 0, .int .i64 0, .int .i64 0, .slice none 0 0], below_alloc1 _ _, by simp⟩
  have H1 := hid (h.belowS hb1)
  have i1 := hid (empty_any H1.out)
  have i2 := hid (H1.out.drop.imageA hI)
  obtain ⟨c0, _, _⟩ := H1.out.ptCells
  simp only [Option.map_some] at c0
  have HX1 := hid hX1
  have HB1 := hid hb1
  have HS1 := hid hs1
  unfold imgV at i2 ⊢
  obtain ⟨N, hN⟩ : ∃ N, i.code.length = N := ⟨_, rfl⟩
  rw [hN] at i2
  rw [hN]
  clear h hX1 hb1 hs1 hN hI
  go_enter Try.func40, Try.ntmps40
  go_wp2_with fail
  refine i1.out.mono ?_
  rintro e w' ⟨rfl, rfl⟩
  go_wp2_with fail
  refine i2.out.mono ?_
  rintro e w2 ⟨A1, c1, rfl, ho1, hb2⟩
  have hX2 := HX1.out.belowS hb2
  have z0 : w2.cell? ⟨w.heap.size, 0, none⟩ = some (.int .i64 0) := hX2.cellAt rfl
  have z1 : w2.cell? ⟨w.heap.size, 1, none⟩ = some (.int .i64 0) := hX2.cellAt rfl
  have z2 : w2.cell? ⟨w.heap.size, 2, none⟩ = some (.int .i64 0) := hX2.cellAt rfl
  have z3 : w2.cell? ⟨w.heap.size, 3, none⟩ = some (.int .i64 0) := hX2.cellAt rfl
  have z4 : w2.cell? ⟨w.heap.size, 4, none⟩ = some (.int .i64 0) := hX2.cellAt rfl
  have z5 : w2.cell? ⟨w.heap.size, 5, none⟩ = some (.int .i64 0) := hX2.cellAt rfl
  have z6 : w2.cell? ⟨w.heap.size, 6, none⟩ = some (.int .i64 0) := hX2.cellAt rfl
  have z7 : w2.cell? ⟨w.heap.size, 7, none⟩ = some (.slice none 0 0) := hX2.cellAt rfl
  have zf := hX2.frozen
  have HX2 := hid hX2
  have HO1 := hid ho1
  have HB2 := hid (bel_trans HB1.out hb2)
  clear hX2 ho1 hb2 c0
  go_wp2_with fail
  obtain ⟨w3, hw3, hb3, hk3, hr3⟩ := store8V HX2.out rfl (.int .i64 i.part) (.int .i64 i.ver) (.int .i64 i.hard) (.int .i64 i.mem) (.int .i64 i.fuel) (.int .i64 i.sends) (.int .i64 i.recvs) (.slice A1 N c1)
  rw [hw3]
  clear hw3 z0 z1 z2 z3 z4 z5 z6 z7 zf
  obtain ⟨r0, r1, r2, r3, r4, r5, r6, r7⟩ : _ ∧ _ ∧ _ ∧ _ ∧ _ ∧ _ ∧ _ ∧ _ := ⟨hr3.cellAt (i := 0) rfl, hr3.cellAt (i := 1) rfl, hr3.cellAt (i := 2) rfl, hr3.cellAt (i := 3) rfl, hr3.cellAt (i := 4) rfl, hr3.cellAt (i := 5) rfl, hr3.cellAt (i := 6) rfl, hr3.cellAt (i := 7) rfl⟩
  refine bodyPost_ret (v := .tuple #[.agg #[.int .i64 i.part, .int .i64 i.ver, .int .i64 i.hard, .int .i64 i.mem, .int .i64 i.fuel, .int .i64 i.sends, .int .i64 i.recvs, .slice A1 N c1], .bool true]) (by simp [results, Try.results40, go_sem, r0, r1, r2, r3, r4, r5, r6, r7]) rfl ?_
  have hh := HS1.out
  exact ⟨A1, c1, rfl, own_mono (own_keep HO1.out fun x hx => hk3 x (by have := (HO1.out.lt x (ownBlock_foot.2 hx)).1; omega)) (by omega), HB2.out.trans (hb3.mono (Nat.le_refl _))⟩
end
end Go.Proofs.Ytidlahljhgglcaa
namespace Go.Proofs.Ytidlahljhgglcaa
open Go.RowKit Go.ChangeShapes Go.WideShapes Go.ChangeAt

theorem store7V {w : World} {b : Nat} {T : TypeId} {cs : List Value} (h : Blk w b T cs) (hl : cs.length = 7) (v0 v1 v2 v3 v4 v5 v6 : Value) :
    ∃ w' : World, ((((((w.setCell ⟨b, 0, none⟩ v0).setCell ⟨b, 1, none⟩ v1).setCell ⟨b, 2, none⟩ v2).setCell ⟨b, 3, none⟩ v3).setCell ⟨b, 4, none⟩ v4).setCell ⟨b, 5, none⟩ v5).setCell ⟨b, 6, none⟩ v6 = w' ∧ Below b w w' ∧ (∀ k, k ≠ b → w'.heap[k]? = w.heap[k]?) ∧ Blk w' b T [v0, v1, v2, v3, v4, v5, v6] := by
  refine ⟨_, rfl, (((((((Below.refl _ _).setCell (p := ⟨b, 0, none⟩) (Nat.le_refl _) _).setCell (p := ⟨b, 1, none⟩) (Nat.le_refl _) _).setCell (p := ⟨b, 2, none⟩) (Nat.le_refl _) _).setCell (p := ⟨b, 3, none⟩) (Nat.le_refl _) _).setCell (p := ⟨b, 4, none⟩) (Nat.le_refl _) _).setCell (p := ⟨b, 5, none⟩) (Nat.le_refl _) _).setCell (p := ⟨b, 6, none⟩) (Nat.le_refl _) _, fun k hk => (Below.heap_setCell _ _ _ _ hk).trans ((Below.heap_setCell _ _ _ _ hk).trans ((Below.heap_setCell _ _ _ _ hk).trans ((Below.heap_setCell _ _ _ _ hk).trans ((Below.heap_setCell _ _ _ _ hk).trans ((Below.heap_setCell _ _ _ _ hk).trans (Below.heap_setCell _ _ _ _ hk)))))), ?_⟩
  have := (((((((h.set_ 0 v0).set_ 1 v1).set_ 2 v2).set_ 3 v3).set_ 4 v4).set_ 5 v5).set_ 6 v6)
  match cs, hl with
  | [_, _, _, _, _, _, _], _ => exact this
section
variable {w w' w0 : World} {p g gs : Nat} {i : ImgS} {cs : List ChanS} {s : VmS} {ss : Nat → WayS} {l : List Comp} {b : Int} {m : Option Nat} {T : TypeId}
theorem AllS.store {x : Nat} {xs : List Value} (h : AllS w0 (blkC x T xs :: l) w) (k : Nat) (v : Value) : AllS w0 (blkC x T (xs.set k v) :: l) (w.setCell ⟨x, k, none⟩ v) := by
  obtain ⟨F1, h1, hcl⟩ := h.step1
  have hb : Blk w x T xs ∧ _ := h1
  exact hcl _ (blkC x T (xs.set k v)) F1 ⟨hb.1.set_ k v, hb.2⟩ ⟨(Apart.refl _ _).setCell (.inl ((hb.2 x).2 rfl)) _, fun _ h9 => .inl h9⟩
theorem boot_nil (i : ImgS) (A : Option Addr) (c : Nat) (w : World) : Calls Try.prog 33 #[.pointer none, imgV i A c] w fun e w' => e = .returned (.int .i64 7) ∧ Below w.heap.size w w' := by
  unfold imgV
  go_enter Try.func33, Try.ntmps33
  go_wp2_with fail
  go_ret
  exact ⟨rfl, below_alloc1 _ _⟩
theorem boot_bad (i : ImgS) (A : Option Addr) (c : Nat) (p : Nat) (w : World) (hl : i.code.length ≤ 9223372036854775807) (hR : rightI i = false) :
    Calls Try.prog 33 #[.pointer (some ⟨p, 0, none⟩), imgV i A c] w fun e w' => e = .returned (.int .i64 3) ∧ Below w.heap.size w w' := by
  obtain ⟨w1, hw1, hb1, hB1, hs1⟩ := img_in i A c w
  obtain ⟨c0, c1, c2, c3, c4, c5, c6, c7⟩ := img_cells hB1
  have HB1 := hid hb1
  have i1 := hid (fun w => vmNew_bad i A c w hl hR)
  unfold imgV at i1 ⊢
  clear hb1 hB1 hR hs1
  go_enter Try.func33, Try.ntmps33
  go_wp2_with fail
  refine (i1.out _).mono ?_
  rintro e w2 ⟨rfl, hb2⟩
  have HB2 := hid (show Below w.heap.size w w2 from by first | exact bel_trans HB1.out hb2 | (rw [hw1] at hb2; exact bel_trans HB1.out hb2))
  clear hb2
  go_wp2_with fail
  go_ret
  exact ⟨rfl, HB2.out⟩
set_option maxRecDepth 100000 in
set_option maxHeartbeats 2000000 in
theorem boot_ok (h : AllS w0 (ptC p m b :: l) w) (A : Option Addr) (c : Nat) (hrd : Reads w w.heap.size 1 A i.code.length (i.code.map bV)) (hR : rightI i = true) (hb0 : 0 ≤ b) (hb9 : b ≤ 1000000) :
    Calls Try.prog 33 #[.pointer (some ⟨p, 0, none⟩), imgV i A c] w fun e w' => e = .returned (.int .i64 0) ∧ ∃ g', AllS w0 (ptC p (some g') (b + 1) :: vmC g' i (freshS i.mem.toNat) :: l) w' := by
  obtain ⟨w1, hw1, hb1, hB1, hs1⟩ := img_in i A c w
  obtain ⟨c0, c1, c2, c3, c4, c5, c6, c7⟩ := img_cells hB1
  have H1 := hid (h.belowS hb1)
  have i1 := hid (vmNew_ok i A c w1 (hrd.belowS hb1) hR)
  unfold imgV at i1 ⊢
  clear hb1 hB1 hR hs1 h hrd
  go_enter Try.func33, Try.ntmps33
  go_wp2_with fail
  refine i1.out.mono ?_
  rintro e w2 ⟨F1, g', rfl, hM, hb2, hF1⟩
  have hP := (H1.out.push hb2 (C := vmC g' i (freshS i.mem.toNat)) hM hF1).perm (List.Perm.swap _ _ _)
  obtain ⟨q0, q1, qf⟩ := hP.ptCells
  have HP := hid hP
  clear hM hb2 hF1 hP i1 c0 c1 c2 c3 c4 c5 c6 c7
  go_wp2_with fail
  go_ret
  refine ⟨rfl, g', ?_⟩
  have h9 : AllS w0 (blkC p 136 [.pointer (m.map fun g => ⟨g, 0, none⟩), .int .i64 b] :: vmC g' i (freshS i.mem.toNat) :: l) w2 := HP.out
  exact (h9.store 0 (.pointer (some ⟨g', 0, none⟩))).store 1 (.int .i64 (b + 1))
def seenV (A : Option Addr) (n c : Nat) (cf : Bool) (s : VmS) (A1 : Option Addr) (c1 : Nat) (A2 : Option Addr) (c2 : Nat) : Value := .agg #[.slice A n c, .bool cf, .int .i64 s.pc, .slice A1 s.stack.length c1, .slice A2 s.mem.length c2, .int .i64 s.ticks, .int .i64 s.fault]
theorem run_nil (x : Value) (w : World) : Calls Try.prog 37 #[.pointer none, x] w fun e w' => e = .returned (.tuple #[seenV none 0 0 false ⟨0, [], [], 0, 0⟩ none 0 none 0, .bool false]) ∧ Below w.heap.size w w' := by
  go_enter Try.func37, Try.ntmps37
  go_wp2_with fail
  refine (runs_nil _).mono ?_
  rintro e w' ⟨rfl, rfl⟩
  go_wp2_with fail
  go_returns
  exact ⟨rfl, below_alloc1 _ _⟩
theorem run_none (h : AllS w0 (ptC p none b :: l) w) (x : Value) : Calls Try.prog 37 #[.pointer (some ⟨p, 0, none⟩), x] w fun e w' => e = .returned (.tuple #[seenV none 0 0 false ⟨0, [], [], 0, 0⟩ none 0 none 0, .bool false]) ∧ Below w.heap.size w w' := by
  have i1 := hid (fun W (hb : Below w.heap.size w W) => runs_none (h.belowS hb))
  clear h
  go_enter Try.func37, Try.ntmps37
  go_wp2_with fail
  refine (i1.out _ (below_alloc1 _ _)).mono ?_
  rintro e w' ⟨rfl, rfl⟩
  go_wp2_with fail
  go_returns
  exact ⟨rfl, below_alloc1 _ _⟩
theorem run_fault (h : AllS w0 (ptC p (some g) b :: vmC g i s :: l) w) (hI : RightI i) (hs : FineS i s) (hf : s.fault ≠ 0) (x : Value) : Calls Try.prog 37 #[.pointer (some ⟨p, 0, none⟩), x] w fun e w' => e = .returned (.tuple #[seenV none 0 0 false ⟨0, [], [], 0, 0⟩ none 0 none 0, .bool false]) ∧ Below w.heap.size w w' := by
  have i1 := hid (fun W (hb : Below w.heap.size w W) => runs_any (h.belowS hb) hI hs)
  rw [show (s.fault == 0) = false by simpa using hf] at i1
  clear h hf
  go_enter Try.func37, Try.ntmps37
  obtain ⟨w1, hw1, hX1, hb1⟩ : ∃ W, w.alloc (.cells #[.slice none 0 0, .bool false, .int .i64 0, .slice none 0 0, .slice none 0 0, .int .i64 0, .int .i64 0] 86) = W ∧ Hid (Blk W w.heap.size 86 [.slice none 0 0, .bool false, .int .i64 0, .slice none 0 0, .slice none 0 0, .int .i64 0, .int .i64 0]) ∧ Hid (Below w.heap.size w W) := ⟨_, rfl, hid (Blk.new w _ [.slice none 0 0, .bool false, .int .i64 0, .slice none 0 0, .slice none 0 0, .int .i64 0, .int .i64 0]), hid (below_alloc1 _ _)⟩
  go_wp2_with fail
  refine (i1.out _ hb1.out).mono ?_
  rintro e w2 ⟨rfl, hb2⟩
  have hX2 := hX1.out.belowS hb2
  have z0 : w2.cell? ⟨w.heap.size, 0, none⟩ = some (.slice none 0 0) := hX2.cellAt rfl
  have z1 : w2.cell? ⟨w.heap.size, 1, none⟩ = some (.bool false) := hX2.cellAt rfl
  have z2 : w2.cell? ⟨w.heap.size, 2, none⟩ = some (.int .i64 0) := hX2.cellAt rfl
  have z3 : w2.cell? ⟨w.heap.size, 3, none⟩ = some (.slice none 0 0) := hX2.cellAt rfl
  have z4 : w2.cell? ⟨w.heap.size, 4, none⟩ = some (.slice none 0 0) := hX2.cellAt rfl
  have z5 : w2.cell? ⟨w.heap.size, 5, none⟩ = some (.int .i64 0) := hX2.cellAt rfl
  have z6 : w2.cell? ⟨w.heap.size, 6, none⟩ = some (.int .i64 0) := hX2.cellAt rfl
  have zf := hX2.frozen
  have HX2 := hid hX2
  have HB2 := hid (bel_trans hb1.out hb2)
  clear hX2 hb2 hw1 hX1 hb1 i1
  go_wp2_with fail
  obtain ⟨w3, hw3, hb3, hk3, hr3⟩ := store7V HX2.out rfl (.slice none 0 0) (.bool false) (.int .i64 0) (.slice none 0 0) (.slice none 0 0) (.int .i64 0) (.int .i64 0)
  rw [hw3]
  clear hw3 z0 z1 z2 z3 z4 z5 z6 zf
  obtain ⟨r0, r1, r2, r3, r4, r5, r6⟩ : _ ∧ _ ∧ _ ∧ _ ∧ _ ∧ _ ∧ _ := ⟨hr3.cellAt (i := 0) rfl, hr3.cellAt (i := 1) rfl, hr3.cellAt (i := 2) rfl, hr3.cellAt (i := 3) rfl, hr3.cellAt (i := 4) rfl, hr3.cellAt (i := 5) rfl, hr3.cellAt (i := 6) rfl⟩
  refine bodyPost_ret (v := .tuple #[.agg #[.slice none 0 0, .bool false, .int .i64 0, .slice none 0 0, .slice none 0 0, .int .i64 0, .int .i64 0], .bool false]) (by simp [results, Try.results37, go_sem, r0, r1, r2, r3, r4, r5, r6]) rfl ?_
  exact ⟨rfl, HB2.out.trans (hb3.mono (Nat.le_refl _))⟩
def RunPost (w0 : World) (p g gs : Nat) (b : Int) (i : ImgS) (cs : List ChanS) (l : List Comp) (r : VmS × (Nat → WayS) × List (Int × Int) × Bool) (e : Ending) (w' : World) : Prop :=
  ∃ A c A1 c1 A2 c2, e = .returned (.tuple #[seenV A r.2.2.1.length c r.2.2.2 r.1 A1 c1 A2 c2, .bool true]) ∧
    AllS w0 (rowC 51 2 A r.2.2.1.length c (r.2.2.1.flatMap sentC) :: ptC p (some g) b :: vmC g i r.1 :: setC gs cs r.2.1 :: l) w' ∧ Reads w' w'.heap.size 1 A1 r.1.stack.length (r.1.stack.map iV) ∧ Reads w' w'.heap.size 1 A2 r.1.mem.length (r.1.mem.map iV)
set_option maxRecDepth 100000 in
set_option maxHeartbeats 4000000 in
theorem run_ok (h : AllS w0 (ptC p (some g) b :: vmC g i s :: setC gs cs ss :: l) w) (hI : RightI i) (hs : FineS i s) (hK : KAll cs ss) (hd : ∀ k, k < cs.length → depthAt cs k ≤ 4) (hf : s.fault = 0) (ht0 : 0 ≤ s.ticks) (ht1 : s.ticks ≤ 1000000000) :
    Calls Try.prog 37 #[.pointer (some ⟨p, 0, none⟩), .iface 31 (.pointer (some ⟨gs, 0, none⟩))] w (RunPost w0 p g gs b i cs l (tickF i cs s ss)) := by
  have i1 := hid (fun W (hb : Below w.heap.size w W) => runs_any (h.belowS hb) hI hs)
  rw [show (s.fault == 0) = true by simpa using hf] at i1
  obtain ⟨w1, hw1, hX1, hb1, hA1⟩ : ∃ W, w.alloc (.cells #[.slice none 0 0, .bool false, .int .i64 0, .slice none 0 0, .slice none 0 0, .int .i64 0, .int .i64 0] 86) = W ∧ Hid (Blk W w.heap.size 86 [.slice none 0 0, .bool false, .int .i64 0, .slice none 0 0, .slice none 0 0, .int .i64 0, .int .i64 0]) ∧ Hid (Below w.heap.size w W) ∧ Hid (AllS w0 (blkC w.heap.size 86 [.slice none 0 0, .bool false, .int .i64 0, .slice none 0 0, .slice none 0 0, .int .i64 0, .int .i64 0] :: ptC p (some g) b :: vmC g i s :: setC gs cs ss :: l) W) := ⟨_, rfl, hid (Blk.new w _ [.slice none 0 0, .bool false, .int .i64 0, .slice none 0 0, .slice none 0 0, .int .i64 0, .int .i64 0]), hid (below_alloc1 _ _), hid (h.made (T := 86) (xs := [.slice none 0 0, .bool false, .int .i64 0, .slice none 0 0, .slice none 0 0, .int .i64 0, .int .i64 0]))⟩
  have iT := hid (fun W l' (hA : AllS w0 (vmC g i s :: setC gs cs ss :: l') W) => hA.tickA hI hs hK hd ht0 ht1)
  have hkk := tickF_keeps (cs := cs) hs hK
  obtain ⟨r, hr⟩ : ∃ r, tickF i cs s ss = r := ⟨_, rfl⟩
  simp only [hr] at iT
  rw [hr] at hkk ⊢
  obtain ⟨s', ss', sent, cf⟩ := r
  simp only at iT hkk
  have HI := hid hI
  have HF' := hid hkk.1
  unfold outV at iT
  clear h hf hs hK hd hr hkk hI
  go_enter Try.func37, Try.ntmps37
  go_wp2_with fail
  refine (i1.out _ hb1.out).mono ?_
  rintro e w2 ⟨rfl, hb2⟩
  have HA2 := hid (hA1.out.belowS hb2)
  obtain ⟨q0, _, _⟩ := HA2.out.drop.ptCells
  simp only [Option.map_some] at q0
  have iT2 := hid (iT.out w2 _ (HA2.out.perm (List.Perm.append_right l (List.perm_append_comm (l₁ := [blkC w.heap.size 86 [.slice none 0 0, .bool false, .int .i64 0, .slice none 0 0, .slice none 0 0, .int .i64 0, .int .i64 0], ptC p (some g) b]) (l₂ := [vmC g i s, setC gs cs ss])))))
  clear iT i1 hb2 hw1 hX1 hb1 hA1
  go_wp2_with fail
  refine iT2.out.mono ?_
  rintro e w3 ⟨A, c, rfl, hA3⟩
  have HA3 := hid hA3
  obtain ⟨N, hN⟩ : ∃ N, sent.length = N := ⟨_, rfl⟩
  have HN := hid hN
  rw [hN]
  clear hA3 iT2 q0 hN
  go_wp2_with fail
  obtain ⟨w4, hw4, hO4, hA4, hb4⟩ : ∃ W, w3.alloc (.cells #[.slice A N c, .bool cf] 46) = W ∧ Blk W w3.heap.size 46 [.slice A N c, .bool cf] ∧ AllS w0 (vmC g i s' :: setC gs cs ss' :: rowC 51 2 A sent.length c (sent.flatMap sentC) :: blkC w.heap.size 86 [.slice none 0 0, .bool false, .int .i64 0, .slice none 0 0, .slice none 0 0, .int .i64 0, .int .i64 0] :: ptC p (some g) b :: l) W ∧ Below w3.heap.size w3 W := ⟨_, rfl, Blk.new w3 _ [.slice A N c, .bool cf], HA3.out.belowS (below_alloc1 _ _), below_alloc1 _ _⟩
  rw [hw4]
  have hP4 := hA4.perm (List.Perm.append_right l (List.perm_append_comm (l₁ := [vmC g i s', setC gs cs ss', rowC 51 2 A sent.length c (sent.flatMap sentC)]) (l₂ := [blkC w.heap.size 86 [.slice none 0 0, .bool false, .int .i64 0, .slice none 0 0, .slice none 0 0, .int .i64 0, .int .i64 0], ptC p (some g) b])))
  obtain ⟨q0, _, _⟩ := hP4.drop.ptCells
  simp only [Option.map_some] at q0
  have hS3 : Blk w3 w.heap.size 86 [.slice none 0 0, .bool false, .int .i64 0, .slice none 0 0, .slice none 0 0, .int .i64 0, .int .i64 0] := by
    have h9 := HA3.out.perm (List.Perm.append_right l (List.perm_append_comm (l₁ := [vmC g i s', setC gs cs ss', rowC 51 2 A sent.length c (sent.flatMap sentC)]) (l₂ := [blkC w.heap.size 86 [.slice none 0 0, .bool false, .int .i64 0, .slice none 0 0, .slice none 0 0, .int .i64 0, .int .i64 0], ptC p (some g) b])))
    exact h9.blk
  have hpl : p < w4.heap.size := World.block_lt_of_cell? w4 _ q0
  have hbl : w.heap.size < w3.heap.size := hS3.lt
  have n1 : w.heap.size ≠ w3.heap.size := by omega
  have n2 : w3.heap.size ≠ w.heap.size := by omega
  have n3 : p ≠ w.heap.size := fun e => by
    have h9 : Blk w4 p 136 _ := hP4.drop.blk
    exact h9.ty.ne_ hP4.blk.ty (by decide) e
  have n4 : w.heap.size ≠ p := n3.symm
  have o0 : w4.cell? ⟨w3.heap.size, 0, none⟩ = some (.slice A N c) := hO4.cellAt rfl
  have o1 : w4.cell? ⟨w3.heap.size, 1, none⟩ = some (.bool cf) := hO4.cellAt rfl
  have hol : w3.heap.size < w4.heap.size := hO4.lt
  have iS := hid (fun W (hb : Below w4.heap.size w4 W) => (hA4.belowS hb).stateA HI.out HF'.out)
  obtain ⟨pc, st, me, tk, fa⟩ := s'
  unfold stateV at iS
  simp only at iS
  obtain ⟨N1, hN1⟩ : ∃ N1, st.length = N1 := ⟨_, rfl⟩
  obtain ⟨M1, hM1⟩ : ∃ M1, me.length = M1 := ⟨_, rfl⟩
  simp only [hN1, hM1] at iS
  have HN1 := hid hN1
  have HM1 := hid hM1
  have HA4 := hid hA4
  have HP4 := hid hP4
  have HSB := hid hP4.blk
  clear hw4 hO4 hA4 hb4 hP4 hS3 hN1 hM1 HA3 HA2
  go_region_held3 (fun w' => w'.cell? ⟨w3.heap.size, 0, none⟩ = some (.slice A N c) ∧ w'.cell? ⟨w3.heap.size, 1, none⟩ = some (.bool cf) ∧ w'.cell? ⟨p, 0, none⟩ = some (.pointer (some ⟨g, 0, none⟩))) (go_keep) (first
    | (go_at_call 16; refine (iS.out _ ?_).mono ?_; (first | exact Below.refl _ _ | exact bel_drewV (Below.refl _ _)); rintro e w6 ⟨A1, c1, A2, c2, rfl, ho1, ho2, hb6⟩; have hb56 : Below w4.heap.size w4 w6 := (by first | exact hb6 | exact bel_trans (bel_drewV (Below.refl w4.heap.size w4)) hb6); have v0 : w6.cell? ⟨w3.heap.size, 0, none⟩ = some (.slice A N c) := (hb56.cell (p := ⟨w3.heap.size, 0, none⟩) hol).trans o0; have v1 : w6.cell? ⟨w3.heap.size, 1, none⟩ = some (.bool cf) := (hb56.cell (p := ⟨w3.heap.size, 1, none⟩) hol).trans o1; have v2 : w6.cell? ⟨p, 0, none⟩ = some (.pointer (some ⟨g, 0, none⟩)) := (hb56.cell (p := ⟨p, 0, none⟩) hpl).trans q0; have hx6 := HSB.out.belowS hb56; have z0 : w6.cell? ⟨w.heap.size, 0, none⟩ = some (.slice none 0 0) := hx6.cellAt rfl; have z1 : w6.cell? ⟨w.heap.size, 1, none⟩ = some (.bool false) := hx6.cellAt rfl; have z2 : w6.cell? ⟨w.heap.size, 2, none⟩ = some (.int .i64 0) := hx6.cellAt rfl; have z3 : w6.cell? ⟨w.heap.size, 3, none⟩ = some (.slice none 0 0) := hx6.cellAt rfl; have z4 : w6.cell? ⟨w.heap.size, 4, none⟩ = some (.slice none 0 0) := hx6.cellAt rfl; have z5 : w6.cell? ⟨w.heap.size, 5, none⟩ = some (.int .i64 0) := hx6.cellAt rfl; have z6 : w6.cell? ⟨w.heap.size, 6, none⟩ = some (.int .i64 0) := hx6.cellAt rfl; have zf := hx6.frozen; have HX6 := hid hx6; have HO1 := hid ho1; have HO2 := hid ho2; have HB56 := hid hb56; clear hx6 ho1 ho2 hb6 hb56))
  all_goals
    have h6 := HP4.out.belowS HB56.out
    have h7 := ((((((h6.store 0 (.slice A N c)).store 1 (.bool cf)).store 2 (.int .i64 pc)).store 3 (.slice A1 N1 c1)).store 4 (.slice A2 M1 c2)).store 5 (.int .i64 tk)).store 6 (.int .i64 fa)
    have hs6 : w4.heap.size ≤ w6.heap.size := HB56.out.size
    obtain ⟨w7, hw7, hb7, hk7, hr7⟩ := store7V HX6.out rfl (.slice A N c) (.bool cf) (.int .i64 pc) (.slice A1 N1 c1) (.slice A2 M1 c2) (.int .i64 tk) (.int .i64 fa)
    rw [hw7] at h7 ⊢
    have h8 := (h7.drop.perm (List.Perm.append_right l (List.perm_append_comm (l₁ := [ptC p (some g) b, vmC g i ⟨pc, st, me, tk, fa⟩, setC gs cs ss']) (l₂ := [rowC 51 2 A sent.length c (sent.flatMap sentC)]))))
    have H8 := hid h8
    have r1' := Reads.of_own (own_keep HO1.out fun x hx => hk7 x (by have h9 : w4.heap.size ≤ x := (HO1.out.lt x (ownBlock_foot.2 hx)).1; omega))
    have r2' := Reads.of_own (own_keep HO2.out fun x hx => hk7 x (by have h9 : w4.heap.size ≤ x := (HO2.out.lt x (ownBlock_foot.2 hx)).1; omega))
    have HR1 := hid r1'
    have HR2 := hid r2'
    obtain ⟨r0, r1, r2, r3, r4, r5, r6⟩ : _ ∧ _ ∧ _ ∧ _ ∧ _ ∧ _ ∧ _ := ⟨hr7.cellAt (i := 0) rfl, hr7.cellAt (i := 1) rfl, hr7.cellAt (i := 2) rfl, hr7.cellAt (i := 3) rfl, hr7.cellAt (i := 4) rfl, hr7.cellAt (i := 5) rfl, hr7.cellAt (i := 6) rfl⟩
    clear hw7 z0 z1 z2 z3 z4 z5 z6 zf v0 v1 v2 o0 o1 q0 iS h6 h7 h8 r1' r2'
    go_wp2_with fail
    refine bodyPost_ret (v := .tuple #[.agg #[.slice A N c, .bool cf, .int .i64 pc, .slice A1 N1 c1, .slice A2 M1 c2, .int .i64 tk, .int .i64 fa], .bool true]) (by simp [results, Try.results37, go_sem, r0, r1, r2, r3, r4, r5, r6]) rfl ?_
    refine ⟨A, c, A1, c1, A2, c2, ?_, H8.out, ?_, ?_⟩
    · unfold seenV
      simp only
      rw [HN.out, HN1.out, HM1.out]
    · simp only
      rw [HN1.out]
      exact HR1.out
    · simp only
      rw [HM1.out]
      exact HR2.out
end
end Go.Proofs.Ytidlahljhgglcaa
namespace Go.Proofs.Ytidlahljhgglcaa
open Go.ChangeShapes Go.WideShapes Go.ChangeAt Go.RowKit Go.Deep Go.Joins

structure ImgCame (W : World) (p : ImgS) (A : Option Addr) (c : Nat) : Prop where
  rd : Reads W W.heap.size 1 A p.code.length (p.code.map bV)
  hc : p.code.length ≤ c
  hm : c ≤ maxLen
  w_part : (Lit.int .i64 p.part).wf = true
  w_ver : (Lit.int .i64 p.ver).wf = true
  w_hard : (Lit.int .i64 p.hard).wf = true
  w_mem : (Lit.int .i64 p.mem).wf = true
  w_fuel : (Lit.int .i64 p.fuel).wf = true
  w_sends : (Lit.int .i64 p.sends).wf = true
  w_recvs : (Lit.int .i64 p.recvs).wf = true
section
variable {H : Type} {enc : TypeId × Value → H} {W : World}
theorem field_oneI {fs : Array Field} {cs : List Value} {i : Nat} {f : Field} {n : Nat} {y : DataW H × List MemPlace} (hone : oneCellFields Try.prog fs = true) (hf : fs[i]? = some f) (hl : i < cs.length)
    (h : DataW.trod enc Try.prog W 0 (fun _ => true) true n f.type ((cs.drop f.offset).take (Try.prog.cellsOf f.type)) = some y) : DataW.trod enc Try.prog W 0 (fun _ => true) true n f.type [cs[i]] = some y := by
  obtain ⟨ho, hk⟩ := hone_of hone i f hf
  rw [ho, hk] at h
  have e : (cs.drop i).take 1 = [cs[i]] := by rw [List.drop_eq_getElem_cons hl, List.take_succ_cons, List.take_zero]
  rw [e] at h
  exact h
set_option maxRecDepth 10000 in
theorem list8 {α : Type} (l : List α) (h : l.length = 8) : ∃ a b c d e f g x, l = [a, b, c, d, e, f, g, x] := by
  obtain ⟨a, l, rfl⟩ := List.exists_cons_of_length_eq_add_one (n := 7) (by simpa using h)
  simp only [List.length_cons, Nat.add_right_cancel_iff] at h
  obtain ⟨b, l, rfl⟩ := List.exists_cons_of_length_eq_add_one (n := 6) (by simpa using h)
  simp only [List.length_cons, Nat.add_right_cancel_iff] at h
  obtain ⟨c, l, rfl⟩ := List.exists_cons_of_length_eq_add_one (n := 5) (by simpa using h)
  simp only [List.length_cons, Nat.add_right_cancel_iff] at h
  obtain ⟨d, l, rfl⟩ := List.exists_cons_of_length_eq_add_one (n := 4) (by simpa using h)
  simp only [List.length_cons, Nat.add_right_cancel_iff] at h
  obtain ⟨e, l, rfl⟩ := List.exists_cons_of_length_eq_add_one (n := 3) (by simpa using h)
  simp only [List.length_cons, Nat.add_right_cancel_iff] at h
  obtain ⟨f, l, rfl⟩ := List.exists_cons_of_length_eq_add_one (n := 2) (by simpa using h)
  simp only [List.length_cons, Nat.add_right_cancel_iff] at h
  obtain ⟨g, l, rfl⟩ := List.exists_cons_of_length_eq_add_one (n := 1) (by simpa using h)
  simp only [List.length_cons, Nat.add_right_cancel_iff] at h
  obtain ⟨x, l, rfl⟩ := List.exists_cons_of_length_eq_add_one (n := 0) (by simpa using h)
  simp only [List.length_cons, Nat.add_right_cancel_iff] at h
  obtain rfl : l = [] := by cases l with
    | nil => rfl
    | cons _ _ => simp at h
  exact ⟨a, b, c, d, e, f, g, x, rfl⟩
set_option maxRecDepth 10000 in
theorem open_img {v : Value} {d : DataW H} {ps : List MemPlace} {r : Reach} {b0 : Nat}
    (hval : Value.okWide Try.prog W r b0 24 v) (h : DataW.Trod enc Try.prog W 0 (fun _ => true) true 24 v d ps) :
    ∃ (p : ImgS) (A : Option Addr) (c : Nat), v = imgV p A c ∧ ImgCame W p A c := by
  obtain ⟨cs, rfl, hsz⟩ := okWide_struct Try.underlying24 hval
  obtain ⟨l⟩ := cs
  obtain ⟨fuel, hf⟩ := h
  obtain ⟨xs, n, _, _, _, hlen, hg⟩ := DataW.trod_struct Try.underlying24 hf
  have hl9 : l.length = 8 := by
    have : Try.prog.cellsOf 24 = 8 := by kernel_rfl
    rw [← this, ← hsz]
    rfl
  have key : ∀ (i : Nat) (hi : i < l.length) (f : Field), _ → ∃ y, DataW.trod enc Try.prog W 0 (fun _ => true) true n f.type [l[i]] = some y := fun i hi f hfi => by
    have h1 := hg i f hfi
    exact ⟨_, field_oneI (by kernel_rfl) hfi hi (h1.trans (List.getElem?_eq_getElem (by have := (Array.getElem?_eq_some_iff.1 hfi).1; omega)))⟩
  obtain ⟨v0, v1, v2, v3, v4, v5, v6, v7, rfl⟩ := list8 l hl9
  obtain ⟨y0, h0⟩ := key 0 (by simp) _ rfl
  obtain ⟨y1, h1⟩ := key 1 (by simp) _ rfl
  obtain ⟨y2, h2⟩ := key 2 (by simp) _ rfl
  obtain ⟨y3, h3⟩ := key 3 (by simp) _ rfl
  obtain ⟨y4, h4⟩ := key 4 (by simp) _ rfl
  obtain ⟨y5, h5⟩ := key 5 (by simp) _ rfl
  obtain ⟨y6, h6⟩ := key 6 (by simp) _ rfl
  obtain ⟨y7, h7⟩ := key 7 (by simp) _ rfl
  clear key hg hf hval hlen
  obtain ⟨q0, e0, _, f0⟩ := DataW.trod_int Try.underlying3 h0
  obtain ⟨q1, e1, _, f1⟩ := DataW.trod_int Try.underlying3 h1
  obtain ⟨q2, e2, _, f2⟩ := DataW.trod_int Try.underlying3 h2
  obtain ⟨q3, e3, _, f3⟩ := DataW.trod_int Try.underlying3 h3
  obtain ⟨q4, e4, _, f4⟩ := DataW.trod_int Try.underlying3 h4
  obtain ⟨q5, e5, _, f5⟩ := DataW.trod_int Try.underlying3 h5
  obtain ⟨q6, e6, _, f6⟩ := DataW.trod_int Try.underlying3 h6
  obtain ⟨A, m, c, bs, e7, r7, k7, m7⟩ := trod_bytes Try.underlying22 Try.underlying5 (by kernel_rfl) h7
  have hbl : bs.length = m := by simpa using r7.len
  subst hbl
  simp at e0 e1 e2 e3 e4 e5 e6 e7
  subst e0 e1 e2 e3 e4 e5 e6 e7
  exact ⟨⟨q0, q1, q2, q3, q4, q5, q6, bs⟩, A, c, rfl, ⟨r7, k7, m7, f0, f1, f2, f3, f4, f5, f6⟩⟩
end
end Go.Proofs.Ytidlahljhgglcaa
namespace Go.Proofs.Ytidlahljhgglcaa
open Go.RowKit Go.ChangeShapes Go.WideShapes Go.ChangeAt

def exTP : TabS := ⟨4, [⟨4, 8, 0⟩, ⟨4, 8, 0⟩], [⟨0, 0, 1⟩], [], 1⟩
def exIP : ImgS := ⟨0, 1, 0, 1, 1, 0, 0, [17]⟩
theorem exTPr : rightB exTP = true := by decide
theorem exIPr : rightI exIP = true := by decide
theorem exPTick : (tickF exIP [] (freshS 1) (zeroW [])).1.fault = 16 := by rfl
theorem dNil : ∀ k, k < ([] : List ChanS).length → depthAt [] k ≤ 4 := by decide
theorem examplePt_any (w : World) :
    Calls Try.prog 35 #[] w fun e w' => (∃ A1 c1 A2 c2, e = .returned (.agg #[.int .i64 4, .slice A1 2 c1, .slice A2 1 c2, .slice none 0 0, .int .i64 1]) ∧ TabOk w' exTP ⟨A1, c1, A2, c2, none, 0⟩) ∧ Below w.heap.size w w' := by
  go_enter Try.func35, Try.ntmps35
  go_wp2_with fail
  go_returns
  refine ⟨⟨_, _, _, _, rfl, ⟨⟨?_, ?_, RdS.nil⟩, by simp [exTP], by simp [exTP], by simp [exTP], by simp [exTP], by simp [exTP]⟩⟩, ((((Below.refl _ _).alloc (Nat.le_refl _) _).alloc (by first | (simp; done) | (simp; omega)) _).alloc (by first | (simp; done) | (simp; omega)) _).alloc (by first | (simp; done) | (simp; omega)) _⟩
  · refine rds_two (T := 107) (Blk.alloc ?_ _) rfl
    exact Blk.newAt _ 107 (partC ⟨4, 8, 0⟩ ++ partC ⟨4, 8, 0⟩) _ (by simp)
  · exact rds_one (T := 109) (Blk.newAt _ 109 (winC ⟨0, 0, 1⟩) _ (by simp))
set_option maxRecDepth 100000 in
set_option maxHeartbeats 4000000 in
theorem wakesPt_any (w : World) : Calls Try.prog 31 #[] w fun e w' => e = .returned (.bool true) ∧ Below w.heap.size w w' := by
  go_enter Try.func31, Try.ntmps31
  go_wp2_with fail
  refine (examplePt_any _).mono ?_
  rintro e w2 ⟨⟨A1, c1, A2, c2, rfl, hT⟩, hb2⟩
  have i2 := hid (New_ok exTP ⟨A1, c1, A2, c2, none, 0⟩ w2 hT exTPr)
  have HB2 := hid hb2
  clear hT hb2
  go_wp2_with fail
  refine i2.out.mono ?_
  rintro e w3 ⟨F2, gs, rfl, hS, hb3, hF2⟩
  have HA3 := hid ((AllS.nil HB2.out).push hb3 (C := setC gs [] (zeroW [])) hS hF2)
  clear i2 hb3 hF2 hS HB2
  go_wp2_with fail
  refine (newPart_any _).mono ?_
  rintro e w4 ⟨rfl, rfl⟩
  have HA4 := hid (show AllS w [ptC w3.heap.size none 0, setC gs [] (zeroW [])] _ from HA3.out.made (T := 136) (xs := [.pointer none, .int .i64 0]))
  generalize w3.alloc (.cells #[.pointer none, .int .i64 0] 136) = w4 at HA4 ⊢
  generalize w3.heap.size = p at *
  have i5 := hid (boot_ok (HA4.out.belowS (below_alloc1 w4 (.cells #[.int .u8 17] 5))) (i := exIP) (some ⟨w4.heap.size, 0, none⟩) 1 (Reads.lit (n := 1) (size := 1) (heap_alloc_new w4 (.cells #[.int .u8 17] 5)) rfl) exIPr (by decide) (by decide))
  unfold imgV exIP at i5
  simp only [List.length_cons, List.length_nil] at i5
  clear HA3
  go_wp2_with fail
  refine i5.out.mono ?_
  rintro e w5 ⟨rfl, g, hA5⟩
  have HA5 := hid (show AllS w [ptC p (some g) 1, vmC g exIP (freshS exIP.mem.toNat), setC gs [] (zeroW [])] w5 from hA5)
  have hI := (rightI_iff _).1 exIPr
  have i6 := hid (run_ok HA5.out hI (fineFresh hI) (kZero [] (by decide)) dNil rfl (by decide) (by decide))
  have hfu : (tickF exIP [] (freshS exIP.mem.toNat) (zeroW [])).1.fault = 16 := exPTick
  have HFI := hid (tickF_keeps (cs := []) (fineFresh hI) (kZero [] (by decide))).1
  generalize tickF exIP [] (freshS exIP.mem.toNat) (zeroW []) = r at i6 hfu HFI
  obtain ⟨s', ss', sent, cf⟩ := r
  simp only at hfu
  have HFU := hid hfu
  clear hA5 i5 HA4 hfu
  go_wp2_with fail
  refine i6.out.mono ?_
  rintro e w6 ⟨A, c, B1, k1, B2, k2, rfl, hA6, _, _⟩
  unfold seenV
  simp only
  obtain ⟨N, hN⟩ : ∃ N, sent.length = N := ⟨_, rfl⟩
  obtain ⟨N1, hN1⟩ : ∃ N, s'.stack.length = N := ⟨_, rfl⟩
  obtain ⟨M1, hM1⟩ : ∃ N, s'.mem.length = N := ⟨_, rfl⟩
  rw [hN, hN1, hM1]
  have HA6 := hid hA6.drop
  clear hA6 i6 hN hN1 hM1
  have hI := hid ((rightI_iff _).1 exIPr)
  have j1 := hid (fun W (hb : Below w6.heap.size w6 W) => stands_any (HA6.out.belowS hb) hI.out HFI.out)
  have j2 := hid (fun W (hb : Below w6.heap.size w6 W) => runs_any (HA6.out.belowS hb) hI.out HFI.out)
  have j3 := hid (fun W (hb : Below w6.heap.size w6 W) => boots_any (HA6.out.belowS hb))
  simp only [HFU.out] at j1 j2
  rw [show ((16 : Int) != 0) = true from rfl] at j1
  rw [show ((16 : Int) == 0) = false from rfl] at j2
  go_wp2_with fail
  refine (j1.out _ (below_alloc1 _ _)).mono ?_
  rintro e w8 ⟨rfl, hb8⟩
  have HB8 := hid (bel_trans (below_alloc1 _ _) hb8)
  clear hb8 j1
  go_wp2_with fail
  refine (j2.out _ HB8.out).mono ?_
  rintro e w9 ⟨rfl, hb9⟩
  have HB9 := hid (bel_trans HB8.out hb9)
  clear hb9 j2
  go_wp2_with fail
  refine (j3.out _ HB9.out).mono ?_
  rintro e w10 ⟨rfl, rfl⟩
  have HBE := hid (bel_trans HA6.out.bel HB9.out)
  clear j3
  go_wp2_with fail
  go_ret
  exact ⟨rfl, HBE.out⟩
set_option maxRecDepth 100000 in
set_option maxHeartbeats 4000000 in
theorem partNil_any (w : World) (i : ImgS) (A : Option Addr) (c : Nat) (_ : ImgCame w i A c) :
    Calls Try.prog 9 #[imgV i A c] w fun e w' => e = .returned (.bool true) ∧ Below w.heap.size w w' := by
  obtain ⟨w1, hw1, hb1, hB1, hs1⟩ := img_in i A c w
  have HX1 := hid hB1
  have HB1 := hid hb1
  have i9 := hid (fun W => boot_nil i A c W)
  unfold imgV at i9 ⊢
  clear hb1 hB1 hs1
  go_enter Try.func9, Try.ntmps9
  go_wp2_with fail
  refine (wakesPt_any _).mono ?_
  rintro e w2 ⟨rfl, hb2⟩
  have HB2 := hid (show Below w1.heap.size w1 w2 from by first | exact hb2 | (rw [← hw1]; exact hb2))
  clear hb2
  go_wp2_with fail
  refine (examplePt_any _).mono ?_
  rintro e w3 ⟨⟨A1, c1, A2, c2, rfl, hT⟩, hb3⟩
  have i2 := hid (New_ok exTP ⟨A1, c1, A2, c2, none, 0⟩ w3 hT exTPr)
  have HB3 := hid (bel_trans HB2.out hb3)
  clear hT hb3 HB2
  go_wp2_with fail
  refine i2.out.mono ?_
  rintro e w4 ⟨F2, gs, rfl, _, hb4, _⟩
  have HB4 := hid (bel_trans HB3.out hb4)
  clear i2 hb4 HB3
  go_wp2_with fail
  refine (stop_nil _).mono ?_
  rintro e w5 ⟨rfl, rfl⟩
  go_wp2_with fail
  refine (run_nil _ _).mono ?_
  rintro e w6 ⟨rfl, hb6⟩
  have HB6 := hid (bel_trans HB4.out hb6)
  clear hb6 HB4
  unfold seenV
  go_wp2_with fail
  refine (pimage_nil _).mono ?_
  rintro e w7 ⟨rfl, hb7⟩
  have HB7 := hid (bel_trans (bel_trans HB6.out (below_alloc1 _ _)) hb7)
  clear hb7 HB6
  unfold imgV
  simp only [List.length_nil]
  have HX7 := hid (HX1.out.belowS HB7.out)
  obtain ⟨c0, c1, c2, c3, c4, c5, c6, c7⟩ := img_cells HX7.out
  have e0 := cell_alloc c0 (.cells #[.int .i64 0, .int .i64 0, .int .i64 0, .int .i64 0, .int .i64 0, .int .i64 0, .int .i64 0, .slice none 0 0] 24)
  have e1 := cell_alloc c1 (.cells #[.int .i64 0, .int .i64 0, .int .i64 0, .int .i64 0, .int .i64 0, .int .i64 0, .int .i64 0, .slice none 0 0] 24)
  have e2 := cell_alloc c2 (.cells #[.int .i64 0, .int .i64 0, .int .i64 0, .int .i64 0, .int .i64 0, .int .i64 0, .int .i64 0, .slice none 0 0] 24)
  have e3 := cell_alloc c3 (.cells #[.int .i64 0, .int .i64 0, .int .i64 0, .int .i64 0, .int .i64 0, .int .i64 0, .int .i64 0, .slice none 0 0] 24)
  have e4 := cell_alloc c4 (.cells #[.int .i64 0, .int .i64 0, .int .i64 0, .int .i64 0, .int .i64 0, .int .i64 0, .int .i64 0, .slice none 0 0] 24)
  have e5 := cell_alloc c5 (.cells #[.int .i64 0, .int .i64 0, .int .i64 0, .int .i64 0, .int .i64 0, .int .i64 0, .int .i64 0, .slice none 0 0] 24)
  have e6 := cell_alloc c6 (.cells #[.int .i64 0, .int .i64 0, .int .i64 0, .int .i64 0, .int .i64 0, .int .i64 0, .int .i64 0, .slice none 0 0] 24)
  have e7 := cell_alloc c7 (.cells #[.int .i64 0, .int .i64 0, .int .i64 0, .int .i64 0, .int .i64 0, .int .i64 0, .int .i64 0, .slice none 0 0] 24)
  have HB8 := hid (bel_trans HB7.out (below_alloc1 w7 (.cells #[.int .i64 0, .int .i64 0, .int .i64 0, .int .i64 0, .int .i64 0, .int .i64 0, .int .i64 0, .slice none 0 0] 24)))
  clear c0 c1 c2 c3 c4 c5 c6 c7 HX7
  go_wp2_with fail
  refine (i9.out _).mono ?_
  rintro e w9 ⟨rfl, hb9⟩
  have HB9 := hid (bel_trans HB8.out hb9)
  clear hb9 HB8 e0 e1 e2 e3 e4 e5 e6 e7
  go_wp2_with fail
  refine (runs_nil _).mono ?_
  rintro e w10 ⟨rfl, rfl⟩
  go_wp2_with fail
  refine (stands_nil _).mono ?_
  rintro e w10 ⟨rfl, rfl⟩
  go_wp2_with fail
  refine (boots_nil _).mono ?_
  rintro e w10 ⟨rfl, rfl⟩
  go_wp2_with fail
  refine (pstate_nil _).mono ?_
  rintro e w11 ⟨rfl, hb11⟩
  have HB11 := hid (bel_trans HB9.out hb11)
  have i7 := hid (sameSt_any ⟨0, [], [], 0, 0⟩ none 0 none 0 none 0 none 0 w11 Reads.empty Reads.empty Reads.empty Reads.empty (by simp) (by simp))
  unfold stateV at i7 ⊢
  clear hb11 HB9
  go_wp2_with fail
  refine i7.out.mono ?_
  rintro e w12 ⟨rfl, hb12⟩
  go_wp2_with fail
  go_ret
  exact ⟨rfl, bel_trans HB1.out (bel_trans HB11.out hb12)⟩
end Go.Proofs.Ytidlahljhgglcaa
