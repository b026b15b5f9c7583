/-
  Two machines on two sets of channels, apart from one another.
-/
import Derived.Test.YtidlahljhgglcaaVmSet
namespace Go.Proofs.Ytidlahljhgglcaa
open Go.RowKit Go.ChangeShapes Go.WideShapes Go.ChangeAt

structure VT (w0 : World) (ga gs gb gu : Nat) (i : ImgS) (cs : List ChanS) (s1 : VmS) (ss1 : Nat → WayS) (s2 : VmS) (ss2 : Nat → WayS) (Y : Nat → Prop) (w : World) : Prop where
  ex : ∃ F3 F4, VS w0 ga gs i cs s1 ss1 (fun b => F3 b ∨ F4 b ∨ Y b) w ∧ VmAt w F3 gb i s2 ∧ SetAt w F4 gu cs ss2 ∧ (∀ b, F3 b → ¬ F4 b) ∧ (∀ b, F3 b ∨ F4 b → w0.heap.size ≤ b) ∧ ∀ b, Y b → ¬ F3 b ∧ ¬ F4 b
  fine : FineS i s2
  k : KAll cs ss2
section
variable {w0 w w' : World} {ga gs gb gu : Nat} {i : ImgS} {cs : List ChanS} {s1 s2 : VmS} {ss1 ss2 : Nat → WayS} {Y : Nat → Prop}
theorem VT.bel (h : VT w0 ga gs gb gu i cs s1 ss1 s2 ss2 Y w) : Below w0.heap.size w0 w := by
  obtain ⟨F3, F4, hv, _⟩ := h.ex
  exact hv.bel
theorem VT.belowS (h : VT w0 ga gs gb gu i cs s1 ss1 s2 ss2 Y w) (hb : Below w.heap.size w w') : VT w0 ga gs gb gu i cs s1 ss1 s2 ss2 Y w' := by
  obtain ⟨F3, F4, hv, h3, h4, h5, h6, h7⟩ := h.ex
  exact ⟨⟨F3, F4, hv.belowS hb, h3.belowS hb, h4.belowS hb, h5, h6, h7⟩, h.fine, h.k⟩
/-- The other one first. -/
theorem VT.swap (h : VT w0 ga gs gb gu i cs s1 ss1 s2 ss2 Y w) : VT w0 gb gu ga gs i cs s2 ss2 s1 ss1 Y w := by
  obtain ⟨F3, F4, hv, h3, h4, h5, h6, h7⟩ := h.ex
  obtain ⟨F1, F2, v1, v2, v3, v4, v5, v6⟩ := hv.ex
  refine ⟨⟨F1, F2, ⟨⟨F3, F4, h3, h4, h5, fun b hb => h6 b (.inl hb), fun b hb => h6 b (.inr hb), fun b hb => ?_⟩, hv.bel, h.fine, h.k⟩, v1, v2, v3, fun b hb => hb.elim (v4 b) (v5 b), fun b hb => (v6 b (.inr (.inr hb))).2⟩, hv.fine, hv.k⟩
  rcases hb with hb | hb | hb
  · exact ⟨v1.lt hb, fun h9 => (v6 b (.inl h9)).2.1 hb, fun h9 => (v6 b (.inr (.inl h9))).2.1 hb⟩
  · exact ⟨v2.lt hb, fun h9 => (v6 b (.inl h9)).2.2 hb, fun h9 => (v6 b (.inr (.inl h9))).2.2 hb⟩
  · exact ⟨(v6 b (.inr (.inr hb))).1, h7 b hb⟩
theorem VT.tick (h : VT w0 ga gs gb gu i cs s1 ss1 s2 ss2 Y w) (hI : RightI i) (hd : ∀ k, k < cs.length → depthAt cs k ≤ 4) (ht0 : 0 ≤ s1.ticks) (ht1 : s1.ticks ≤ 1000000000) :
    Calls Try.prog 17 #[.pointer (some ⟨ga, 0, none⟩), .iface 31 (.pointer (some ⟨gs, 0, none⟩))] w fun e w' => ∃ A c, e = .returned (outV A (tickF i cs s1 ss1).2.2.1.length c (tickF i cs s1 ss1).2.2.2) ∧ VT w0 ga gs gb gu i cs (tickF i cs s1 ss1).1 (tickF i cs s1 ss1).2.1 s2 ss2 (fun b => Y b ∨ Foot A b) w' ∧
      w'.ownsRow 0 51 2 (.slice A (tickF i cs s1 ss1).2.2.1.length c) (tickF i cs s1 ss1).2.2.1.length ((tickF i cs s1 ss1).2.2.1.flatMap sentC) ∧ w.heap.size ≤ w'.heap.size ∧ ∀ b, Y b → w'.heap[b]? = w.heap[b]? := by
  obtain ⟨F3, F4, hv, h3, h4, h5, h6, h7⟩ := h.ex
  obtain ⟨F, G, v1, v2, v3, v4, v5, v6⟩ := hv.ex
  have hk := tickF_keeps (cs := cs) hv.fine hv.k
  refine (tick_all v1 v2 v3 hI hv.fine hv.k hd ht0 ht1).mono ?_
  rintro e w' ⟨F1', F2', A, c, rfl, hM', hS', hdis', hA, hown, hG⟩
  have hx := hG.bel hv.bel (Nat.le_refl _) (fun b hb => hb.elim (v4 b) (v5 b))
  have hke : ∀ b, (F3 b ∨ F4 b ∨ Y b) → w'.heap[b]? = w.heap[b]? := fun b hX => hG.apart.block b (v6 b hX).1 (fun h9 => h9.elim (v6 b hX).2.1 (v6 b hX).2.2)
  have hno : ∀ b, (F3 b ∨ F4 b ∨ Y b) → ∀ b', (F1' b' ∨ F2' b' ∨ Foot A b') → b' ≠ b := fun b hX b' h9 e => by
    subst e
    rcases hG.foot b' h9 with h8 | h8
    · exact h8.elim (v6 b' hX).2.1 (v6 b' hX).2.2
    · have := (v6 b' hX).1; omega
  refine ⟨A, c, rfl, ⟨⟨F3, F4, ⟨⟨F1', F2', hM', hS', hdis', fun b hb => hx.2 b (.inl hb), fun b hb => hx.2 b (.inr (.inl hb)), fun b hX => ?_⟩, hx.1, hk.1, hk.2.1⟩, h3.keep fun b hb => hke b (.inl hb), h4.keep hG.apart.size fun b hb => hke b (.inr (.inl hb)), h5, h6, fun b hb => ?_⟩, h.fine, h.k⟩, hown, hG.apart.size, fun b hb => hke b (.inr (.inr hb))⟩
  · have old : (F3 b ∨ F4 b ∨ Y b) → b < w'.heap.size ∧ ¬ F1' b ∧ ¬ F2' b := fun h9 => ⟨Nat.lt_of_lt_of_le (v6 b h9).1 hG.apart.size, fun h8 => hno b h9 b (.inl h8) rfl, fun h8 => hno b h9 b (.inr (.inl h8)) rfl⟩
    rcases hX with h9 | h9 | h9 | h9
    · exact old (.inl h9)
    · exact old (.inr (.inl h9))
    · exact old (.inr (.inr h9))
    · exact ⟨own_lt hown h9, hA b h9⟩
  · rcases hb with hb | hb
    · exact h7 b hb
    · exact ⟨fun h9 => hno b (.inl h9) b (.inr (.inr hb)) rfl, fun h9 => hno b (.inr (.inl h9)) b (.inr (.inr hb)) rfl⟩
theorem VT.less {Z : Nat → Prop} (h : VT w0 ga gs gb gu i cs s1 ss1 s2 ss2 Y w) (hZ : ∀ b, Z b → Y b) : VT w0 ga gs gb gu i cs s1 ss1 s2 ss2 Z w := by
  obtain ⟨F3, F4, hv, h3, h4, h5, h6, h7⟩ := h.ex
  exact ⟨⟨F3, F4, hv.less fun b hb => hb.elim .inl (fun h8 => .inr (h8.elim .inl (fun h9 => .inr (hZ b h9)))), h3, h4, h5, h6, fun b hb => h7 b (hZ b hb)⟩, h.fine, h.k⟩
/-- Two new machines and two new sets. -/
theorem VT.start {w1 w2 w3 w4 : World} {F1 F2 F3 F4 : Nat → Prop} (hI : RightI i) (hb1 : Below w0.heap.size w0 w1) (hM1 : VmAt w1 F1 ga i (freshS i.mem.toNat)) (hF1 : ∀ b, F1 b → w0.heap.size ≤ b) (hb2 : Below w1.heap.size w1 w2) (hM2 : VmAt w2 F3 gb i (freshS i.mem.toNat)) (hF3 : ∀ b, F3 b → w1.heap.size ≤ b) (hb3 : Below w2.heap.size w2 w3) (hS1 : SetAt w3 F2 gs cs (zeroW cs)) (hF2 : ∀ b, F2 b → w2.heap.size ≤ b) (hb4 : Below w3.heap.size w3 w4) (hS2 : SetAt w4 F4 gu cs (zeroW cs)) (hF4 : ∀ b, F4 b → w3.heap.size ≤ b) (hcs : ∀ x ∈ cs, 0 ≤ x.depth) :
    VT w0 ga gs gb gu i cs (freshS i.mem.toNat) (zeroW cs) (freshS i.mem.toNat) (zeroW cs) (fun _ => False) w4 := by
  have s1 := hb1.size
  have s2 := hb2.size
  have s3 := hb3.size
  have s4 := hb4.size
  have l1 : ∀ b, F1 b → b < w1.heap.size := fun b h => hM1.lt h
  have l3 : ∀ b, F3 b → b < w2.heap.size := fun b h => hM2.lt h
  have l2 : ∀ b, F2 b → b < w3.heap.size := fun b h => hS1.lt h
  have l4 : ∀ b, F4 b → b < w4.heap.size := fun b h => hS2.lt h
  refine ⟨⟨F3, F4, ⟨⟨F1, F2, ((hM1.belowS hb2).belowS hb3).belowS hb4, hS1.belowS hb4, fun b h1 h2 => ?_, hF1, fun b h => ?_, fun b h => ?_⟩, bel_trans (bel_trans (bel_trans hb1 hb2) hb3) hb4, fineFresh hI, kZero cs hcs⟩, (hM2.belowS hb3).belowS hb4, hS2, fun b h3 h4 => ?_, fun b h => ?_, fun _ h => h.elim⟩, fineFresh hI, kZero cs hcs⟩
  · have := l1 b h1; have := hF2 b h2; omega
  · have := hF2 b h; omega
  · rcases h with h | h | h
    · have := l3 b h; have := hF3 b h
      exact ⟨by omega, fun h1 => by have := l1 b h1; omega, fun h2 => by have := hF2 b h2; omega⟩
    · have := l4 b h; have := hF4 b h
      exact ⟨by omega, fun h1 => by have := l1 b h1; omega, fun h2 => by have := l2 b h2; omega⟩
    · exact h.elim
  · have := l3 b h3; have := hF4 b h4; omega
  · rcases h with h | h
    · have := hF3 b h; omega
    · have := hF4 b h; omega
end
end Go.Proofs.Ytidlahljhgglcaa
