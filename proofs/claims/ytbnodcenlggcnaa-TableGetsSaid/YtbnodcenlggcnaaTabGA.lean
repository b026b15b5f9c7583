/-
  What lies in memory while a table is read: the result's block, the reader, the table's block, its three rows.
-/
import Derived.Test.YtbnodcenlggcnaaTabBy
import Derived.Test.YtbnodcenlggcnaaTabCut
namespace Go.Proofs.Ytbnodcenlggcnaa
open Go.RowKit

def FootG (A : Option Addr) (b : Nat) : Prop := ∃ a, A = some a ∧ a.block = b
theorem ownBlock_footG {A : Option Addr} {n c : Nat} {b : Nat} : (Value.slice A n c).ownBlock = some b ↔ FootG A b := by
  unfold Value.ownBlock FootG
  cases A <;> simp
section
variable {w w' : World} {base : Nat} {e : TypeId} {size n c : Nat} {A : Option Addr} {xs : List Value}
theorem own_keepG (h : w.ownsRow base e size (.slice A n c) n xs) (hk : ∀ b, FootG A b → w'.heap[b]? = w.heap[b]?) : w'.ownsRow base e size (.slice A n c) n xs := by
  refine ⟨h.1, ?_⟩
  rcases h.2 with h2 | ⟨g, cap, cur, hv, hg, hh, r⟩
  · exact .inl h2
  · exact .inr ⟨g, cap, cur, hv, hg, (hk g (by injection hv with hv; exact ⟨_, hv, rfl⟩)).trans hh, r⟩
theorem own_rng (h : w.ownsRow base e size (.slice A n c) n xs) {b : Nat} (hb : FootG A b) : base ≤ b ∧ b < w.heap.size := h.lt b (ownBlock_footG.2 hb)
end
theorem Rdr.low {w w' : World} {g : Nat} {s : RS} (h : Rdr w g s) (hb : Below (g + 1) w w') : Rdr w' g s := by
  obtain ⟨A, n, c, h1, h2, h3⟩ := h
  exact ⟨A, n, c, h1.below hb (by omega), h2.below (hb.mono (by omega)), h3⟩
structure GetAt (Rd : World → Nat → RS → Prop) (w0 : World) (g T : Nat) (t : TabS) (a : TabA) (s : RS) (w : World) : Prop where
  bel : Below w0.heap.size w0 w
  hR : Blk w w0.heap.size 26 (tabC tabZ ⟨none, 0, none, 0, none, 0⟩)
  hg : Rd w g s
  lo : ∀ s w w', Rd w g s → Below (g + 1) w w' → Rd w' g s
  hT : Blk w T 26 (tabC t a)
  lt1 : w0.heap.size < g
  lt2 : g < T
  o1 : w.ownsRow (T + 1) 77 3 (.slice a.A1 t.parts.length a.c1) t.parts.length (t.parts.flatMap partC)
  o2 : w.ownsRow (T + 1) 30 3 (.slice a.A2 t.wins.length a.c2) t.wins.length (t.wins.flatMap winC)
  o3 : w.ownsRow (T + 1) 34 3 (.slice a.A3 t.chans.length a.c3) t.chans.length (t.chans.flatMap chanC)
  d12 : ∀ b, FootG a.A1 b → ¬ FootG a.A2 b
  d13 : ∀ b, FootG a.A1 b → ¬ FootG a.A3 b
  d23 : ∀ b, FootG a.A2 b → ¬ FootG a.A3 b
section
variable {Rd : World → Nat → RS → Prop} {w0 w w' : World} {g T : Nat} {t : TabS} {a : TabA} {s s' : RS}
theorem GetAt.size (h : GetAt Rd w0 g T t a s w) : T + 1 ≤ w.heap.size := h.hT.lt
theorem GetAt.num (h : GetAt Rd w0 g T t a s w) (hg : w.grownBy w' (some g)) (hr : Rd w' g s') : GetAt Rd w0 g T t a s' w' := by
  have h1 := h.lt1
  have h2 := h.lt2
  have hs := h.size
  have hk : ∀ b, b < w.heap.size → b ≠ g → w'.heap[b]? = w.heap[b]? := fun b hb hne => hg.block b hb (fun e => by injection e with e; exact hne e)
  exact ⟨h.bel.grown hg h.bel.size (fun k hk => by injection hk with hk; omega), (hk _ h.hR.lt (by omega)).trans h.hR, hr, h.lo, (hk _ h.hT.lt (by omega)).trans h.hT, h1, h2,
    own_keepG h.o1 fun b hb => hk b (own_rng h.o1 hb).2 (by have := (own_rng h.o1 hb).1; omega),
    own_keepG h.o2 fun b hb => hk b (own_rng h.o2 hb).2 (by have := (own_rng h.o2 hb).1; omega),
    own_keepG h.o3 fun b hb => hk b (own_rng h.o3 hb).2 (by have := (own_rng h.o3 hb).1; omega), h.d12, h.d13, h.d23⟩
theorem GetAt.belowS (h : GetAt Rd w0 g T t a s w) (hb : Below w.heap.size w w') : GetAt Rd w0 g T t a s w' := by
  have hk : ∀ b, b < w.heap.size → w'.heap[b]? = w.heap[b]? := fun b h1 => hb.block b h1
  exact ⟨bel_trans h.bel hb, h.hR.belowS hb, h.lo _ _ _ h.hg (hb.mono (by have := h.size; have := h.lt2; omega)), h.lo, h.hT.belowS hb, h.lt1, h.lt2,
    own_keepG h.o1 fun b hb => hk b (own_rng h.o1 hb).2, own_keepG h.o2 fun b hb => hk b (own_rng h.o2 hb).2, own_keepG h.o3 fun b hb => hk b (own_rng h.o3 hb).2, h.d12, h.d13, h.d23⟩
theorem GetAt.drew (h : GetAt Rd w0 g T t a s w) : GetAt Rd w0 g T t a s w.drew := h.belowS ⟨rfl, rfl, rfl, Nat.le_refl _, fun _ _ => rfl⟩
/-- Behind a store into the table's block. -/
theorem GetAt.set_ (h : GetAt Rd w0 g T t a s w) (k : Nat) (u : Value) : Below (g + 1) w (w.setCell ⟨T, k, none⟩ u) ∧ Below w0.heap.size w0 (w.setCell ⟨T, k, none⟩ u) ∧ Blk (w.setCell ⟨T, k, none⟩ u) w0.heap.size 26 (tabC tabZ ⟨none, 0, none, 0, none, 0⟩) ∧ Blk (w.setCell ⟨T, k, none⟩ u) T 26 ((tabC t a).set k u) := by
  have h1 := h.lt1
  have h2 := h.lt2
  exact ⟨(Below.refl _ _).setCell (p := ⟨T, k, none⟩) (by simp only; omega) _, h.bel.setCell (p := ⟨T, k, none⟩) (by simp only; omega) _, h.hR.far (p := ⟨T, k, none⟩) (by simp only; omega) _, h.hT.set_ k u⟩
theorem setT_heap (w : World) (T k : Nat) (u : Value) (b : Nat) (h : b ≠ T) : (w.setCell ⟨T, k, none⟩ u).heap[b]? = w.heap[b]? := Below.heap_setCell _ _ _ _ (by simpa using h)
theorem GetAt.frame (h : GetAt Rd w0 g T t a s w) (f : Int) : GetAt Rd w0 g T { t with frame := f } a s (w.setCell ⟨T, 0, none⟩ (iV f)) := by
  obtain ⟨a1, a2, a3, a4⟩ := h.set_ 0 (iV f)
  have hk := setT_heap w T 0 (iV f)
  exact ⟨a2, a3, h.lo _ _ _ h.hg a1, h.lo, a4, h.lt1, h.lt2, own_keepG h.o1 fun b hb => hk b (by have := (own_rng h.o1 hb).1; omega), own_keepG h.o2 fun b hb => hk b (by have := (own_rng h.o2 hb).1; omega), own_keepG h.o3 fun b hb => hk b (by have := (own_rng h.o3 hb).1; omega), h.d12, h.d13, h.d23⟩
theorem GetAt.trial (h : GetAt Rd w0 g T t a s w) (f : Int) : GetAt Rd w0 g T { t with trial := f } a s (w.setCell ⟨T, 4, none⟩ (iV f)) := by
  obtain ⟨a1, a2, a3, a4⟩ := h.set_ 4 (iV f)
  have hk := setT_heap w T 4 (iV f)
  exact ⟨a2, a3, h.lo _ _ _ h.hg a1, h.lo, a4, h.lt1, h.lt2, own_keepG h.o1 fun b hb => hk b (by have := (own_rng h.o1 hb).1; omega), own_keepG h.o2 fun b hb => hk b (by have := (own_rng h.o2 hb).1; omega), own_keepG h.o3 fun b hb => hk b (by have := (own_rng h.o3 hb).1; omega), h.d12, h.d13, h.d23⟩
/-- What an append to one of the rows leaves. -/
theorem foot_new {A A' : Option Addr} {n c n' c' : Nat} {b S : Nat} (h : (Value.slice A' n' c').ownBlock = (Value.slice A n c).ownBlock ∨ (Value.slice A' n' c').ownBlock = some S) (hb : FootG A' b) : FootG A b ∨ b = S := by
  have h1 := (ownBlock_footG (n := n') (c := c')).2 hb
  rcases h with h | h
  · rw [h] at h1; exact .inl (ownBlock_footG.1 h1)
  · rw [h] at h1; injection h1 with h1; exact .inr h1.symm
theorem GetAt.part (h : GetAt Rd w0 g T t a s w) (p : PartS) (S : Nat) (hS : w.heap.size = S) {A' : Option Addr} {c' : Nat} (ho : w'.ownsRow (T + 1) 77 3 (.slice A' (t.parts.length + 1) c') (t.parts.length + 1) (t.parts.flatMap partC ++ partC p)) (hg : w.grownBy w' (Value.slice a.A1 t.parts.length a.c1).ownBlock)
    (hn : (Value.slice A' (t.parts.length + 1) c').ownBlock = (Value.slice a.A1 t.parts.length a.c1).ownBlock ∨ (Value.slice A' (t.parts.length + 1) c').ownBlock = some S) :
    GetAt Rd w0 g T { t with parts := t.parts ++ [p] } { a with A1 := A', c1 := c' } s (w'.setCell ⟨T, 1, none⟩ (.slice A' (t.parts.length + 1) c')) := by
  subst hS
  have h1 := h.lt1
  have h2 := h.lt2
  have hs := h.size
  have hk : ∀ b, b < w.heap.size → ¬ FootG a.A1 b → w'.heap[b]? = w.heap[b]? := fun b hb hne => hg.block b hb (fun e => hne (ownBlock_footG.1 e.symm))
  have hf : ∀ b, FootG a.A1 b → T + 1 ≤ b := fun b hb => (own_rng h.o1 hb).1
  have hkl : ∀ b, b < T + 1 → w'.heap[b]? = w.heap[b]? := fun b hb => hk b (by omega) (fun hb' => by have := hf b hb'; omega)
  have hbl : Below (T + 1) w w' := ⟨hg.os, hg.tape, hg.output, hg.size, hkl⟩
  have hst := setT_heap w' T 1 (.slice A' (t.parts.length + 1) c')
  have hT := (h.hT.below hbl (by omega)).set_ 1 (.slice A' (t.parts.length + 1) c')
  refine ⟨(h.bel.trans (hbl.mono (by omega))).setCell (p := ⟨T, 1, none⟩) (by simp only; omega) _, (h.hR.below hbl (by omega)).far (p := ⟨T, 1, none⟩) (by simp only; omega) _, ?_, h.lo, ?_, h1, h2, ?_, ?_, ?_, ?_, ?_, h.d23⟩
  · exact h.lo _ _ _ (h.lo _ _ _ h.hg (hbl.mono (by omega))) ((Below.refl _ _).setCell (p := ⟨T, 1, none⟩) (by simp only; omega) _)
  · have e : (t.parts ++ [p]).length = t.parts.length + 1 := by simp
    unfold tabC
    simp only [e]
    exact hT
  · simp only [List.length_append, List.length_singleton, List.flatMap_append, List.flatMap_cons, List.flatMap_nil, List.append_nil]
    exact own_keepG ho fun b hb => hst b (by have := (own_rng ho hb).1; omega)
  · exact own_keepG h.o2 fun b hb => (hst b (by have := (own_rng h.o2 hb).1; omega)).trans (hk b (own_rng h.o2 hb).2 fun h9 => h.d12 b h9 hb)
  · exact own_keepG h.o3 fun b hb => (hst b (by have := (own_rng h.o3 hb).1; omega)).trans (hk b (own_rng h.o3 hb).2 fun h9 => h.d13 b h9 hb)
  · intro b hb hb2
    rcases foot_new hn hb with h9 | h9
    · exact h.d12 b h9 hb2
    · have := (own_rng h.o2 hb2).2; omega
  · intro b hb hb2
    rcases foot_new hn hb with h9 | h9
    · exact h.d13 b h9 hb2
    · have := (own_rng h.o3 hb2).2; omega
theorem GetAt.win (h : GetAt Rd w0 g T t a s w) (p : WinS) (S : Nat) (hS : w.heap.size = S) {A' : Option Addr} {c' : Nat} (ho : w'.ownsRow (T + 1) 30 3 (.slice A' (t.wins.length + 1) c') (t.wins.length + 1) (t.wins.flatMap winC ++ winC p)) (hg : w.grownBy w' (Value.slice a.A2 t.wins.length a.c2).ownBlock)
    (hn : (Value.slice A' (t.wins.length + 1) c').ownBlock = (Value.slice a.A2 t.wins.length a.c2).ownBlock ∨ (Value.slice A' (t.wins.length + 1) c').ownBlock = some S) :
    GetAt Rd w0 g T { t with wins := t.wins ++ [p] } { a with A2 := A', c2 := c' } s (w'.setCell ⟨T, 2, none⟩ (.slice A' (t.wins.length + 1) c')) := by
  subst hS
  have h1 := h.lt1
  have h2 := h.lt2
  have hs := h.size
  have hk : ∀ b, b < w.heap.size → ¬ FootG a.A2 b → w'.heap[b]? = w.heap[b]? := fun b hb hne => hg.block b hb (fun e => hne (ownBlock_footG.1 e.symm))
  have hf : ∀ b, FootG a.A2 b → T + 1 ≤ b := fun b hb => (own_rng h.o2 hb).1
  have hkl : ∀ b, b < T + 1 → w'.heap[b]? = w.heap[b]? := fun b hb => hk b (by omega) (fun hb' => by have := hf b hb'; omega)
  have hbl : Below (T + 1) w w' := ⟨hg.os, hg.tape, hg.output, hg.size, hkl⟩
  have hst := setT_heap w' T 2 (.slice A' (t.wins.length + 1) c')
  have hT := (h.hT.below hbl (by omega)).set_ 2 (.slice A' (t.wins.length + 1) c')
  refine ⟨(h.bel.trans (hbl.mono (by omega))).setCell (p := ⟨T, 2, none⟩) (by simp only; omega) _, (h.hR.below hbl (by omega)).far (p := ⟨T, 2, none⟩) (by simp only; omega) _, ?_, h.lo, ?_, h1, h2, ?_, ?_, ?_, ?_, h.d13, ?_⟩
  · exact h.lo _ _ _ (h.lo _ _ _ h.hg (hbl.mono (by omega))) ((Below.refl _ _).setCell (p := ⟨T, 2, none⟩) (by simp only; omega) _)
  · have e : (t.wins ++ [p]).length = t.wins.length + 1 := by simp
    unfold tabC
    simp only [e]
    exact hT
  · exact own_keepG h.o1 fun b hb => (hst b (by have := (own_rng h.o1 hb).1; omega)).trans (hk b (own_rng h.o1 hb).2 fun h9 => h.d12 b hb h9)
  · simp only [List.length_append, List.length_singleton, List.flatMap_append, List.flatMap_cons, List.flatMap_nil, List.append_nil]
    exact own_keepG ho fun b hb => hst b (by have := (own_rng ho hb).1; omega)
  · exact own_keepG h.o3 fun b hb => (hst b (by have := (own_rng h.o3 hb).1; omega)).trans (hk b (own_rng h.o3 hb).2 fun h9 => h.d23 b h9 hb)
  · intro b hb hb2
    rcases foot_new hn hb2 with h9 | h9
    · exact h.d12 b hb h9
    · have := (own_rng h.o1 hb).2; omega
  · intro b hb hb2
    rcases foot_new hn hb with h9 | h9
    · exact h.d23 b h9 hb2
    · have := (own_rng h.o3 hb2).2; omega
theorem GetAt.chan (h : GetAt Rd w0 g T t a s w) (p : ChanS) (S : Nat) (hS : w.heap.size = S) {A' : Option Addr} {c' : Nat} (ho : w'.ownsRow (T + 1) 34 3 (.slice A' (t.chans.length + 1) c') (t.chans.length + 1) (t.chans.flatMap chanC ++ chanC p)) (hg : w.grownBy w' (Value.slice a.A3 t.chans.length a.c3).ownBlock)
    (hn : (Value.slice A' (t.chans.length + 1) c').ownBlock = (Value.slice a.A3 t.chans.length a.c3).ownBlock ∨ (Value.slice A' (t.chans.length + 1) c').ownBlock = some S) :
    GetAt Rd w0 g T { t with chans := t.chans ++ [p] } { a with A3 := A', c3 := c' } s (w'.setCell ⟨T, 3, none⟩ (.slice A' (t.chans.length + 1) c')) := by
  subst hS
  have h1 := h.lt1
  have h2 := h.lt2
  have hs := h.size
  have hk : ∀ b, b < w.heap.size → ¬ FootG a.A3 b → w'.heap[b]? = w.heap[b]? := fun b hb hne => hg.block b hb (fun e => hne (ownBlock_footG.1 e.symm))
  have hf : ∀ b, FootG a.A3 b → T + 1 ≤ b := fun b hb => (own_rng h.o3 hb).1
  have hkl : ∀ b, b < T + 1 → w'.heap[b]? = w.heap[b]? := fun b hb => hk b (by omega) (fun hb' => by have := hf b hb'; omega)
  have hbl : Below (T + 1) w w' := ⟨hg.os, hg.tape, hg.output, hg.size, hkl⟩
  have hst := setT_heap w' T 3 (.slice A' (t.chans.length + 1) c')
  have hT := (h.hT.below hbl (by omega)).set_ 3 (.slice A' (t.chans.length + 1) c')
  refine ⟨(h.bel.trans (hbl.mono (by omega))).setCell (p := ⟨T, 3, none⟩) (by simp only; omega) _, (h.hR.below hbl (by omega)).far (p := ⟨T, 3, none⟩) (by simp only; omega) _, ?_, h.lo, ?_, h1, h2, ?_, ?_, ?_, h.d12, ?_, ?_⟩
  · exact h.lo _ _ _ (h.lo _ _ _ h.hg (hbl.mono (by omega))) ((Below.refl _ _).setCell (p := ⟨T, 3, none⟩) (by simp only; omega) _)
  · have e : (t.chans ++ [p]).length = t.chans.length + 1 := by simp
    unfold tabC
    simp only [e]
    exact hT
  · exact own_keepG h.o1 fun b hb => (hst b (by have := (own_rng h.o1 hb).1; omega)).trans (hk b (own_rng h.o1 hb).2 fun h9 => h.d13 b hb h9)
  · exact own_keepG h.o2 fun b hb => (hst b (by have := (own_rng h.o2 hb).1; omega)).trans (hk b (own_rng h.o2 hb).2 fun h9 => h.d23 b hb h9)
  · simp only [List.length_append, List.length_singleton, List.flatMap_append, List.flatMap_cons, List.flatMap_nil, List.append_nil]
    exact own_keepG ho fun b hb => hst b (by have := (own_rng ho hb).1; omega)
  · intro b hb hb2
    rcases foot_new hn hb2 with h9 | h9
    · exact h.d13 b hb h9
    · have := (own_rng h.o1 hb).2; omega
  · intro b hb hb2
    rcases foot_new hn hb2 with h9 | h9
    · exact h.d23 b hb h9
    · have := (own_rng h.o2 hb).2; omega
end
end Go.Proofs.Ytbnodcenlggcnaa
