/-
  A machine and a set of channels, apart from one another.
-/
import Derived.Test.YtidlahljhgglcaaVmTick
import Derived.Test.YtidlahljhgglcaaVmNew
import Derived.Test.YtidlahljhgglcaaVmSame
namespace Go.Proofs.Ytidlahljhgglcaa
open Go.RowKit Go.ChangeShapes Go.WideShapes Go.ChangeAt

theorem fineFresh {i : ImgS} (h : RightI i) : FineS i (freshS i.mem.toNat) :=
  ⟨by simp [freshS], by simp [freshS], by have := h.2.2.2.1; simp [freshS]; omega, fun x hx => by
    simp only [freshS, List.mem_replicate] at hx
    rw [hx.2]
    exact ⟨by omega, by omega⟩⟩
theorem kZero (cs : List ChanS) (h : ∀ x ∈ cs, 0 ≤ x.depth) : KAll cs (zeroW cs) := fun k hk => by
  obtain ⟨x, hx⟩ : ∃ x, cs[k]? = some x := ⟨_, List.getElem?_eq_getElem hk⟩
  unfold zeroW
  rw [depthAt_get hx]
  exact KOk.zero (h x (List.mem_of_getElem? hx))
structure VS (w0 : World) (g gs : Nat) (i : ImgS) (cs : List ChanS) (s : VmS) (ss : Nat → WayS) (X : Nat → Prop) (w : World) : Prop where
  ex : ∃ F1 F2, VmAt w F1 g i s ∧ SetAt w F2 gs cs ss ∧ (∀ b, F1 b → ¬ F2 b) ∧ (∀ b, F1 b → w0.heap.size ≤ b) ∧ (∀ b, F2 b → w0.heap.size ≤ b) ∧ ∀ b, X b → b < w.heap.size ∧ ¬ F1 b ∧ ¬ F2 b
  bel : Below w0.heap.size w0 w
  fine : FineS i s
  k : KAll cs ss
section
variable {w0 w w' : World} {g gs : Nat} {i : ImgS} {cs : List ChanS} {s : VmS} {ss : Nat → WayS} {X : Nat → Prop}
theorem VS.lew (h : VS w0 g gs i cs s ss X w) : w0.heap.size ≤ w.heap.size := h.bel.size
theorem VS.belowS (h : VS w0 g gs i cs s ss X w) (hb : Below w.heap.size w w') : VS w0 g gs i cs s ss X w' := by
  obtain ⟨F, G, h1, h2, h3, h4, h5, h6⟩ := h.ex
  exact ⟨⟨F, G, h1.belowS hb, h2.belowS hb, h3, h4, h5, fun b hX => ⟨Nat.lt_of_lt_of_le (h6 b hX).1 hb.size, (h6 b hX).2⟩⟩, bel_trans h.bel hb, h.fine, h.k⟩
theorem VS.less {Y : Nat → Prop} (h : VS w0 g gs i cs s ss X w) (hY : ∀ b, Y b → X b) : VS w0 g gs i cs s ss Y w := by
  obtain ⟨F, G, h1, h2, h3, h4, h5, h6⟩ := h.ex
  exact ⟨⟨F, G, h1, h2, h3, h4, h5, fun b hb => h6 b (hY b hb)⟩, h.bel, h.fine, h.k⟩
/-- Blocks that were made since lie apart. -/
theorem VS.fresh {Y : Nat → Prop} (h : VS w0 g gs i cs s ss X w) (hb : Below w.heap.size w w') (hY : ∀ b, Y b → X b ∨ (w.heap.size ≤ b ∧ b < w'.heap.size)) : VS w0 g gs i cs s ss Y w' := by
  obtain ⟨F, G, h1, h2, h3, h4, h5, h6⟩ := h.ex
  refine ⟨⟨F, G, h1.belowS hb, h2.belowS hb, h3, h4, h5, fun b hy => ?_⟩, bel_trans h.bel hb, h.fine, h.k⟩
  rcases hY b hy with h7 | h7
  · exact ⟨Nat.lt_of_lt_of_le (h6 b h7).1 hb.size, (h6 b h7).2⟩
  · exact ⟨h7.2, fun hf => by have := h1.lt hf; omega, fun hf => by have := h2.lt hf; omega⟩
theorem VS.made (h : VS w0 g gs i cs s ss X w) (o : Obj) : VS w0 g gs i cs s ss (fun b => X b ∨ b = w.heap.size) (w.alloc o) :=
  h.fresh (below_alloc1 w o) fun b hb => hb.imp_right fun e => by subst e; simp
theorem VS.write (h : VS w0 g gs i cs s ss X w) {p : Addr} (hp : X p.block) (hB : w0.heap.size ≤ p.block) (u : Value) : VS w0 g gs i cs s ss X (w.setCell p u) := by
  obtain ⟨F, G, h1, h2, h3, h4, h5, h6⟩ := h.ex
  have hk : ∀ b, b ≠ p.block → (w.setCell p u).heap[b]? = w.heap[b]? := fun b hb => Below.heap_setCell _ _ _ _ hb
  exact ⟨⟨F, G, h1.keep fun b hb => hk b (fun e => (h6 _ hp).2.1 (e ▸ hb)), h2.keep (by simp [World.setCell]) fun b hb => hk b (fun e => (h6 _ hp).2.2 (e ▸ hb)), h3, h4, h5, fun b hb => ⟨by simpa [World.setCell] using (h6 b hb).1, (h6 b hb).2⟩⟩, h.bel.setCell hB u, h.fine, h.k⟩
theorem VS.state (h : VS w0 g gs i cs s ss X w) (hI : RightI i) :
    Calls Try.prog 16 #[.pointer (some ⟨g, 0, none⟩)] w fun e w' => ∃ A1 c1 A2 c2, e = .returned (stateV s A1 c1 A2 c2) ∧ w'.ownsRow w.heap.size 3 1 (.slice A1 s.stack.length c1) s.stack.length (s.stack.map iV) ∧ w'.ownsRow w.heap.size 3 1 (.slice A2 s.mem.length c2) s.mem.length (s.mem.map iV) ∧ Below w.heap.size w w' := by
  obtain ⟨F, G, h1, _⟩ := h.ex
  exact state_any h1 (by have := h.fine.len; omega) (by have := h.fine.mlen; have := hI.2.2.2.1; omega)
theorem VS.image (h : VS w0 g gs i cs s ss X w) (hI : RightI i) :
    Calls Try.prog 20 #[.pointer (some ⟨g, 0, none⟩)] w fun e w' => ∃ A c, e = .returned (imgV i A c) ∧ w'.ownsRow w.heap.size 5 1 (.slice A i.code.length c) i.code.length (i.code.map bV) ∧ Below w.heap.size w w' := by
  obtain ⟨F, G, h1, _⟩ := h.ex
  exact image_any h1 (by have := hI.2.2.2.2.2.2.2; omega)
theorem VS.reset (h : VS w0 g gs i cs s ss X w) (hI : RightI i) :
    Calls Try.prog 19 #[.pointer (some ⟨g, 0, none⟩)] w fun e w' => e = .returned (.tuple #[]) ∧ VS w0 g gs i cs (freshS i.mem.toNat) ss X w' ∧ w.heap.size ≤ w'.heap.size ∧ ∀ b, X b → w'.heap[b]? = w.heap[b]? := by
  obtain ⟨F, G, h1, h2, h3, h4, h5, h6⟩ := h.ex
  refine (reset_at h1 i.mem.toNat (by have := hI.2.2.2.1; omega) (by have := hI.2.2.2.1; omega)).mono ?_
  rintro e w' ⟨rfl, F', hV, hG⟩
  have hx := hG.bel h.bel (Nat.le_refl _) h4
  exact ⟨rfl, ⟨⟨F', G, hV, h2.apart hG.apart (fun b hb hf => h3 b hf hb), fun b hb hf => (hG.foot b hb).elim (fun h9 => h3 b h9 hf) (fun h9 => by have := h2.lt hf; omega), hx.2, h5, fun b hX => ⟨Nat.lt_of_lt_of_le (h6 b hX).1 hG.apart.size, fun hb => (hG.foot b hb).elim (h6 b hX).2.1 (fun h9 => by have := (h6 b hX).1; omega), (h6 b hX).2.2⟩⟩, hx.1, fineFresh hI, h.k⟩, hG.apart.size, fun b hX => hG.apart.block b (h6 b hX).1 (h6 b hX).2.1⟩
theorem tick_all {F1 F2 : Nat → Prop} (hM : VmAt w F1 g i s) (hS : SetAt w F2 gs cs ss) (hdis : ∀ b, F1 b → ¬ F2 b) (hI : RightI i) (hs : FineS i s) (hK : KAll cs ss) (hd : ∀ k, k < cs.length → depthAt cs k ≤ 4) (ht0 : 0 ≤ s.ticks) (ht1 : s.ticks ≤ 1000000000) :
    Calls Try.prog 17 #[.pointer (some ⟨g, 0, none⟩), .iface 31 (.pointer (some ⟨gs, 0, none⟩))] w (TPost F1 F2 w g gs i cs (tickF i cs s ss)) := by
  by_cases hf : s.fault = 0
  · exact tick_any hM hS hdis hI hs hK hd hf ht0 ht1
  · have e : tickF i cs s ss = (s, ss, [], false) := by unfold tickF; rw [if_pos hf]
    rw [e]
    refine (tick_fault hM hf _).mono ?_
    rintro e w' ⟨rfl, hb⟩
    have hno : ∀ b, ¬ Foot none b := fun b h9 => by obtain ⟨x, hx, _⟩ := h9; cases hx
    exact ⟨F1, F2, none, 0, rfl, hM.belowS hb, hS.belowS hb, hdis, fun b h9 => absurd h9 (hno b), World.ownsRow_nil _ _ _ _, ⟨Apart.of_below hb, fun b h9 => .inl (h9.imp_right fun h8 => h8.resolve_right (hno b))⟩⟩
theorem VS.tick (h : VS w0 g gs i cs s ss X w) (hI : RightI i) (hd : ∀ k, k < cs.length → depthAt cs k ≤ 4) (ht0 : 0 ≤ s.ticks) (ht1 : s.ticks ≤ 1000000000) :
    Calls Try.prog 17 #[.pointer (some ⟨g, 0, none⟩), .iface 31 (.pointer (some ⟨gs, 0, none⟩))] w fun e w' => ∃ A c, e = .returned (outV A (tickF i cs s ss).2.2.1.length c (tickF i cs s ss).2.2.2) ∧ VS w0 g gs i cs (tickF i cs s ss).1 (tickF i cs s ss).2.1 X w' ∧
      w'.ownsRow 0 51 2 (.slice A (tickF i cs s ss).2.2.1.length c) (tickF i cs s ss).2.2.1.length ((tickF i cs s ss).2.2.1.flatMap sentC) ∧ (∀ q ∈ (tickF i cs s ss).2.2.1, SentOk i q) ∧ (tickF i cs s ss).2.2.1.length ≤ i.fuel.toNat ∧ w.heap.size ≤ w'.heap.size ∧ ∀ b, X b → w'.heap[b]? = w.heap[b]? := by
  obtain ⟨F, G, h1, h2, h3, h4, h5, h6⟩ := h.ex
  have hk := tickF_keeps (cs := cs) h.fine h.k
  refine (tick_all h1 h2 h3 hI h.fine h.k hd ht0 ht1).mono ?_
  rintro e w' ⟨F1', F2', A, c, rfl, hM', hS', hdis', hA, hown, hG⟩
  have hx := hG.bel h.bel (Nat.le_refl _) (fun b hb => hb.elim (h4 b) (h5 b))
  refine ⟨A, c, rfl, ⟨⟨F1', F2', hM', hS', hdis', fun b hb => hx.2 b (.inl hb), fun b hb => hx.2 b (.inr (.inl hb)), fun b hX => ?_⟩, hx.1, hk.1, hk.2.1⟩, hown, hk.2.2.1, hk.2.2.2, hG.apart.size, fun b hX => hG.apart.block b (h6 b hX).1 (fun h9 => h9.elim (h6 b hX).2.1 (h6 b hX).2.2)⟩
  have hno : ∀ b', (F1' b' ∨ F2' b' ∨ Foot A b') → b' ≠ b := fun b' h9 e => by
    subst e
    rcases hG.foot b' h9 with h8 | h8
    · exact h8.elim (h6 b' hX).2.1 (h6 b' hX).2.2
    · have := (h6 b' hX).1; omega
  exact ⟨Nat.lt_of_lt_of_le (h6 b hX).1 hG.apart.size, fun h9 => hno b (.inl h9) rfl, fun h9 => hno b (.inr (.inl h9)) rfl⟩
/-- From a new machine and a new set. -/
theorem VS.start {w1 w2 : World} {F1 F2 : Nat → Prop} (hI : RightI i) (hb1 : Below w0.heap.size w0 w1) (hM : VmAt w1 F1 g i (freshS i.mem.toNat)) (hF1 : ∀ b, F1 b → w0.heap.size ≤ b) (hb2 : Below w1.heap.size w1 w2) (hS : SetAt w2 F2 gs cs (zeroW cs)) (hF2 : ∀ b, F2 b → w1.heap.size ≤ b) (hcs : ∀ x ∈ cs, 0 ≤ x.depth) :
    VS w0 g gs i cs (freshS i.mem.toNat) (zeroW cs) (fun _ => False) w2 :=
  ⟨⟨F1, F2, hM.belowS hb2, hS, fun b h1 h2 => by have := hM.lt h1; have := hF2 b h2; omega, hF1, fun b hb => Nat.le_trans hb1.size (hF2 b hb), fun _ h => h.elim⟩, bel_trans hb1 hb2, fineFresh hI, kZero cs hcs⟩
end
end Go.Proofs.Ytidlahljhgglcaa
