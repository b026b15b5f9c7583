/-
  The reference of layer 20: its two lists of frames in memory; what an act leaves.
-/
import Derived.Test.YthnifgcoikmihaaLinkSwap
namespace Go.Proofs.Ythnifgcoikmihaa
open Go.RowKit Go.ChangeShapes Go.WideShapes Go.ChangeAt

/-- A frame: where it lies, its capacity, its bytes. -/
structure BE where
  A : Option Addr
  c : Nat
  l : List UInt8
def eC (e : BE) : Value := .slice e.A e.l.length e.c
theorem oneCell_e (x : List BE) : ∀ u ∈ x.map eC, u.oneCell' = true := by intro u hu; obtain ⟨b, _, rfl⟩ := List.mem_map.1 hu; rfl
def BOk (w : World) (e : BE) : Prop := Reads w w.heap.size 1 e.A e.l.length (e.l.map bV) ∧ e.l.length ≤ e.c ∧ e.c ≤ maxLen
structure RIn (w : World) (gR gW k : Nat) (A : Option Addr) (c : Nat) (x : List BE) (A' : Option Addr) (c' : Nat) (y : List BE) : Prop where
  blk : Blk w gR 82 [.slice (some ⟨gW, 0, none⟩) 2 2]
  wb : Blk w gW 22 (lcells k (.slice A x.length c) (.slice A' y.length c'))
  r : Row w 26 A x.length c (x.map eC)
  r' : Row w 26 A' y.length c' (y.map eC)
  ap : ∀ b, Foot A b → ¬ Foot A' b
  n : x.length ≤ 32
  n' : y.length ≤ 32
  by_ : ∀ e, e ∈ x ∨ e ∈ y → BOk w e
  bo : ∀ e, e ∈ x ∨ e ∈ y → ∀ b, Foot e.A b → b ≠ gW ∧ ¬ Foot A b ∧ ¬ Foot A' b ∧ b < w.heap.size
def RF (gR gW : Nat) (A A' : Option Addr) (x y : List BE) (b : Nat) : Prop := b = gR ∨ b = gW ∨ Foot A b ∨ Foot A' b ∨ ∃ e, (e ∈ x ∨ e ∈ y) ∧ Foot e.A b
def RefL (w : World) (F : Nat → Prop) (gR : Nat) (q : Ways) : Prop := ∃ gW A c x A' c' y, RIn w gR gW 0 A c x A' c' y ∧ x.map (·.l) = q 0 ∧ y.map (·.l) = q 1 ∧ ∀ b, F b ↔ RF gR gW A A' x y b
section
variable {w w' : World} {F : Nat → Prop} {gR gW k : Nat} {A : Option Addr} {c : Nat} {x : List BE} {A' : Option Addr} {c' : Nat} {y : List BE} {q : Ways}
theorem RIn.swap (hk : k < 2) (h : RIn w gR gW k A c x A' c' y) : RIn w gR gW (1 - k) A' c' y A c x := by
  refine ⟨h.blk, ?_, h.r', h.r, fun b h1 h2 => h.ap b h2 h1, h.n', h.n, fun e he => h.by_ e he.symm, fun e he b hb => ?_⟩
  · have := h.wb
    have hk2 : k = 0 ∨ k = 1 := by omega
    rcases hk2 with rfl | rfl <;> exact this
  · obtain ⟨h1, h2, h3, h4⟩ := h.bo e he.symm b hb
    exact ⟨h1, h3, h2, h4⟩
theorem RF_swap (b : Nat) : RF gR gW A A' x y b ↔ RF gR gW A' A y x b := by
  unfold RF
  constructor
  · rintro (h | h | h | h | ⟨e, he, h⟩)
    · exact .inl h
    · exact .inr (.inl h)
    · exact .inr (.inr (.inr (.inl h)))
    · exact .inr (.inr (.inl h))
    · exact .inr (.inr (.inr (.inr ⟨e, he.symm, h⟩)))
  · rintro (h | h | h | h | ⟨e, he, h⟩)
    · exact .inl h
    · exact .inr (.inl h)
    · exact .inr (.inr (.inr (.inl h)))
    · exact .inr (.inr (.inl h))
    · exact .inr (.inr (.inr (.inr ⟨e, he.symm, h⟩)))
theorem RefL.one (h : RefL w F gR q) (hk : k < 2) : ∃ gW A c x A' c' y, RIn w gR gW k A c x A' c' y ∧ x.map (·.l) = q k ∧ y.map (·.l) = q (1 - k) ∧ ∀ b, F b ↔ RF gR gW A A' x y b := by
  obtain ⟨gW, A, c, x, A', c', y, h1, h2, h3, h4⟩ := h
  have hk2 : k = 0 ∨ k = 1 := by omega
  rcases hk2 with rfl | rfl
  · exact ⟨gW, A, c, x, A', c', y, h1, h2, h3, h4⟩
  · exact ⟨gW, A', c', y, A, c, x, h1.swap (by omega), h3, h2, fun b => (h4 b).trans (RF_swap b)⟩
theorem RIn.at_ (hk : k < 2) (h : RIn w gR gW k A c x A' c' y) {z : List (List UInt8)} (hx : x.map (·.l) = z) (hy : y.map (·.l) = q (1 - k)) : RefL w (RF gR gW A A' x y) gR (upd q k z) := by
  have hk2 : k = 0 ∨ k = 1 := by omega
  rcases hk2 with rfl | rfl
  · exact ⟨gW, A, c, x, A', c', y, h, hx, hy, fun b => Iff.rfl⟩
  · exact ⟨gW, A', c', y, A, c, x, h.swap (by omega), hy, hx, fun b => RF_swap b⟩
theorem RIn.lt (h : RIn w gR gW k A c x A' c' y) {b : Nat} (hb : RF gR gW A A' x y b) : b < w.heap.size := by
  rcases hb with rfl | rfl | hb | hb | ⟨e, he, hb⟩
  · exact h.blk.lt
  · exact h.wb.lt
  · exact h.r.lt hb
  · exact h.r'.lt hb
  · exact (h.bo e he b hb).2.2.2
theorem readsF {A : Option Addr} {n size : Nat} {xs : List Value} (h : Reads w w.heap.size size A n xs) (hs : w.heap.size ≤ w'.heap.size) (hk : ∀ b, Foot A b → w'.heap[b]? = w.heap[b]?) : Reads w' w'.heap.size size A n xs := by
  refine ⟨h.1, fun hn => ?_⟩
  obtain ⟨ad, rfl, hb, hc⟩ := h.2 hn
  refine ⟨ad, rfl, Nat.lt_of_lt_of_le hb hs, fun j u hu => (World.cell?_of_block ?_).trans (hc j u hu)⟩
  rw [block_add]
  exact hk _ ⟨_, rfl, rfl⟩
theorem RIn.keep (h : RIn w gR gW k A c x A' c' y) (hs : w.heap.size ≤ w'.heap.size) (hk : ∀ b, RF gR gW A A' x y b → w'.heap[b]? = w.heap[b]?) : RIn w' gR gW k A c x A' c' y :=
  ⟨(hk gR (.inl rfl)).trans h.blk, (hk gW (.inr (.inl rfl))).trans h.wb, h.r.keep fun b hb => hk b (.inr (.inr (.inl hb))), h.r'.keep fun b hb => hk b (.inr (.inr (.inr (.inl hb)))), h.ap, h.n, h.n',
    fun e he => ⟨readsF (h.by_ e he).1 hs fun b hb => hk b (.inr (.inr (.inr (.inr ⟨e, he, hb⟩)))), (h.by_ e he).2⟩, fun e he b hb => ⟨(h.bo e he b hb).1, (h.bo e he b hb).2.1, (h.bo e he b hb).2.2.1, Nat.lt_of_lt_of_le (h.bo e he b hb).2.2.2 hs⟩⟩
theorem RefL.lt (h : RefL w F gR q) {b : Nat} (hb : F b) : b < w.heap.size := by
  obtain ⟨gW, A, c, x, A', c', y, h1, _, _, h4⟩ := h
  exact h1.lt ((h4 b).1 hb)
theorem RefL.keep (h : RefL w F gR q) (hs : w.heap.size ≤ w'.heap.size) (hk : ∀ b, F b → w'.heap[b]? = w.heap[b]?) : RefL w' F gR q := by
  obtain ⟨gW, A, c, x, A', c', y, h1, h2, h3, h4⟩ := h
  exact ⟨gW, A, c, x, A', c', y, h1.keep hs fun b hb => hk b ((h4 b).2 hb), h2, h3, h4⟩
theorem RefL.belowS (h : RefL w F gR q) (hb : Below w.heap.size w w') : RefL w' F gR q := h.keep hb.size fun b hf => hb.block b (h.lt hf)
theorem RefL.apart {G : Nat → Prop} (h : RefL w F gR q) (hb : Apart G w w') (hG : ∀ b, F b → ¬ G b) : RefL w' F gR q := h.keep hb.size fun b hf => hb.block b (h.lt hf) (hG b hf)
theorem RIn.nr (h : RIn w gR gW k A c x A' c' y) : gR ≠ gW ∧ ¬ Foot A gR ∧ ¬ Foot A' gR ∧ ¬ Foot A gW ∧ ¬ Foot A' gW :=
  ⟨h.blk.ne_ h.wb (by decide), h.r.type_ne h.blk (by decide), h.r'.type_ne h.blk (by decide), h.r.type_ne h.wb (by decide), h.r'.type_ne h.wb (by decide)⟩
/-- Another row for one way. -/
theorem RIn.step (h : RIn w gR gW k A c x A' c' y) {A1 : Option Addr} {c1 : Nat} {x1 : List BE} (ha : Apart (fun b => b = gW ∨ Foot A b) w w') (hw : Blk w' gW 22 (lcells k (.slice A1 x1.length c1) (.slice A' y.length c')))
    (hr : Row w' 26 A1 x1.length c1 (x1.map eC)) (hA : ∀ b, Foot A1 b → Foot A b ∨ w.heap.size ≤ b) (hn : x1.length ≤ 32)
    (he : ∀ e, e ∈ x1 → e ∈ x ∨ e ∈ y ∨ (BOk w' e ∧ ∀ b, Foot e.A b → w.heap.size ≤ b ∧ ¬ Foot A1 b ∧ b < w'.heap.size)) :
    RIn w' gR gW k A1 c1 x1 A' c' y ∧ Goes (RF gR gW A A' x y) w (RF gR gW A1 A' x1 y) w' := by
  obtain ⟨n1, n2, n3, n4, n5⟩ := h.nr
  have hold : ∀ b, b < w.heap.size → b ≠ gW → ¬ Foot A b → w'.heap[b]? = w.heap[b]? := fun b h1 h2 h3 => ha.block b h1 (fun hor => hor.elim h2 h3)
  have hbo : ∀ e, e ∈ x ∨ e ∈ y → BOk w' e := fun e h9 => ⟨readsF (h.by_ e h9).1 ha.size fun b hb => hold b (h.bo e h9 b hb).2.2.2 (h.bo e h9 b hb).1 (h.bo e h9 b hb).2.1, (h.by_ e h9).2⟩
  have hA1 : ∀ e, e ∈ x ∨ e ∈ y → ∀ b, Foot e.A b → ¬ Foot A1 b := fun e h9 b hb hf => by
    have h8 := h.bo e h9 b hb
    rcases hA b hf with h7 | h7
    · exact h8.2.1 h7
    · omega
  have hdis : ∀ b, Foot A1 b → ¬ Foot A' b := fun b hb hf => by
    rcases hA b hb with h1 | h1
    · exact h.ap b h1 hf
    · have := h.r'.lt hf; omega
  refine ⟨⟨(hold gR h.blk.lt n1 n2).trans h.blk, hw, hr, h.r'.keep fun b hb => hold b (h.r'.lt hb) (fun e => n5 (e ▸ hb)) (fun hf => h.ap b hf hb), hdis, hn, h.n', fun e h9 => ?_, fun e h9 b hb => ?_⟩, ⟨⟨ha.os, ha.tape, ha.output, ha.size, fun b hb hF => ha.block b hb (fun hor => hF (hor.elim (fun e => .inr (.inl e)) (fun e => .inr (.inr (.inl e)))))⟩, fun b hb => ?_⟩⟩
  · rcases h9 with h9 | h9
    · rcases he e h9 with h8 | h8 | h8
      · exact hbo e (.inl h8)
      · exact hbo e (.inr h8)
      · exact h8.1
    · exact hbo e (.inr h9)
  · have old : e ∈ x ∨ e ∈ y → b ≠ gW ∧ ¬ Foot A1 b ∧ ¬ Foot A' b ∧ b < w'.heap.size := fun h8 =>
      ⟨(h.bo e h8 b hb).1, hA1 e h8 b hb, (h.bo e h8 b hb).2.2.1, Nat.lt_of_lt_of_le (h.bo e h8 b hb).2.2.2 ha.size⟩
    rcases h9 with h9 | h9
    · rcases he e h9 with h8 | h8 | h8
      · exact old (.inl h8)
      · exact old (.inr h8)
      · have h7 := h8.2 b hb
        exact ⟨fun e => by have := h.wb.lt; omega, h7.2.1, fun hf => by have := h.r'.lt hf; omega, h7.2.2⟩
    · exact old (.inr h9)
  · rcases hb with hb | hb | hb | hb | ⟨e, h9, hb⟩
    · exact .inl (.inl hb)
    · exact .inl (.inr (.inl hb))
    · exact (hA b hb).imp_left fun h8 => .inr (.inr (.inl h8))
    · exact .inl (.inr (.inr (.inr (.inl hb))))
    · rcases h9 with h9 | h9
      · rcases he e h9 with h8 | h8 | h8
        · exact .inl (.inr (.inr (.inr (.inr ⟨e, .inl h8, hb⟩))))
        · exact .inl (.inr (.inr (.inr (.inr ⟨e, .inr h8, hb⟩))))
        · exact .inr (h8.2 b hb).1
      · exact .inl (.inr (.inr (.inr (.inr ⟨e, .inr h9, hb⟩))))
end
/-- What an act on the reference leaves. -/
def RLPost (F : Nat → Prop) (w : World) (gR : Nat) (e0 : Ending) (q' : Ways) (e : Ending) (w' : World) : Prop := ∃ F', e = e0 ∧ RefL w' F' gR q' ∧ Goes F w F' w'
theorem Goes.of_iff {F G F' : Nat → Prop} {w w' : World} (h : ∀ b, F b ↔ G b) (hg : Goes G w F' w') : Goes F w F' w' :=
  ⟨⟨hg.apart.os, hg.apart.tape, hg.apart.output, hg.apart.size, fun b hb hF => hg.apart.block b hb (fun hf => hF ((h b).2 hf))⟩, fun b hb => (hg.foot b hb).imp_left (h b).2⟩
theorem below_alloc1 (w : World) (o : Obj) : Below w.heap.size w (w.alloc o) := (Below.refl _ _).alloc (Nat.le_refl _) _
theorem cell_alloc {w : World} {p : Addr} {u : Value} (h : w.cell? p = some u) (o : Obj) : (w.alloc o).cell? p = some u := (World.cell?_of_block (Below.heap_alloc _ _ _ (World.block_lt_of_cell? w p h))).trans h
end Go.Proofs.Ythnifgcoikmihaa
