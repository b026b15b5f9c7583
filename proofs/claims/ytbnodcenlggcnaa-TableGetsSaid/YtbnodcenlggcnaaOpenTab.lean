/-
  From a row's reading of a frame table (and of slices of small structs) to the words of the walks.
-/
import Derived.Test.YtbnodcenlggcnaaOpen
import Derived.Test.YtbnodcenlggcnaaTabR
import Derived.Deep.Slices
import Derived.Deep.Fields
import Derived.ChangeSame
import Derived.Lib.SmallJoins
namespace Go.Proofs.Ytbnodcenlggcnaa
open Go.ChangeShapes Go.WideShapes Go.ChangeAt Go.RowKit Go.Deep Go.Joins

section
variable {H : Type} {enc : TypeId × Value → H} {P : Program} {W : World}
/-- Three numbers. -/
def triC (q : Int × Int × Int) : List Value := [iV q.1, iV q.2.1, iV q.2.2]
theorem RdS.conv {α β : Type} {w : World} {B size n : Nat} {A : Option Addr} {cells : α → List Value} {cells' : β → List Value} {l : List α} (h : RdS w B size A n cells l) (f : α → β) (hf : ∀ x, cells' (f x) = cells x) : RdS w B size A n cells' (l.map f) := by
  refine ⟨by simpa using h.1, fun k y hy => ?_⟩
  rw [List.getElem?_map] at hy
  cases hx : l[k]? with
  | none => rw [hx] at hy; simp at hy
  | some x =>
    rw [hx] at hy
    simp at hy
    subst hy
    obtain ⟨ad, e, hb, hc⟩ := h.2 k x hx
    exact ⟨ad, e, hb, fun j u hu => hc j u (by rw [← hf]; exact hu)⟩
/-- A slice of structs of three ints, from its cell. -/
theorem trod_tri {t e : TypeId} {f0 f1 f2 : Field} {v : Value} {x : DataW H × List MemPlace} {fuel : Nat} (ht : P.underlying t = some (.slice e)) (he : P.underlying e = some (.struct #[f0, f1, f2]))
    (hone : oneCellFields P #[f0, f1, f2] = true) (hC : P.cellsOf e = 3) (i0 : P.underlying f0.type = some (.int .i64)) (i1 : P.underlying f1.type = some (.int .i64)) (i2 : P.underlying f2.type = some (.int .i64))
    (h : DataW.trod enc P W 0 (fun _ => true) true fuel t [v] = some x) :
    ∃ (A : Option Addr) (n c : Nat) (l : List (Int × Int × Int)), v = .slice A n c ∧ RdS W W.heap.size 3 A n triC l ∧ n ≤ c ∧ c ≤ maxLen ∧
      ∀ q ∈ l, (Lit.int .i64 q.1).wf = true ∧ (Lit.int .i64 q.2.1).wf = true ∧ (Lit.int .i64 q.2.2).wf = true := by
  rcases open_slice ht h with ⟨hcs, _⟩ | ⟨a, len, cap, m, n, D, Pl, hcs, _, hl, hm, hmm, _, hi⟩
  · simp at hcs
    subst hcs
    exact ⟨none, 0, 0, [], rfl, RdS.nil, Nat.le_refl _, by simp [maxLen], by simp⟩
  · simp at hcs
    subst hcs
    have hm2 : m = cap := by simpa using hmm
    have hex : ∀ i : Nat, ∃ q : Int × Int × Int, i < len → (∀ j u, (triC q)[j]? = some u → W.cell? (a.add (i * 3 + j)) = some u) ∧ (Lit.int .i64 q.1).wf = true ∧ (Lit.int .i64 q.2.1).wf = true ∧ (Lit.int .i64 q.2.2).wf = true := by
      intro i
      by_cases hil : i < len
      · obtain ⟨cs', hc, ht'⟩ := hi i (by omega)
        rw [hC] at hc
        obtain ⟨ys, n', _, _, hlen, hyl, hf⟩ := DataW.trod_struct he ht'
        obtain ⟨_, hcl, hat⟩ := World.cells?_some hc
        have hval : ∀ (j : Nat) (f : Field), (#[f0, f1, f2] : Array Field)[j]? = some f → P.underlying f.type = some (.int .i64) → ∃ q : Int, cs'[j]? = some (iV q) ∧ (Lit.int .i64 q).wf = true := by
          intro j f hj hu
          obtain ⟨ho, hk⟩ := hone_of hone j f hj
          have hjl : j < 3 := by have := (Array.getElem?_eq_some_iff.1 hj).1; simpa using this
          have h1 := hf j f hj
          rw [ho, hk] at h1
          have hone' : (cs'.drop j).take 1 = [cs'[j]'(by omega)] := by
            rw [List.drop_eq_getElem_cons (by omega)]
            rfl
          rw [hone'] at h1
          have hys : ys[j]? = some (ys[j]'(by simp at hyl; omega)) := List.getElem?_eq_getElem (by simp at hyl; omega)
          obtain ⟨q, e1, _, w1⟩ := DataW.trod_int hu (h1.trans hys)
          refine ⟨q, ?_, w1⟩
          rw [List.getElem?_eq_getElem (by omega)]
          simpa using e1
        obtain ⟨q0, e0, w0⟩ := hval 0 f0 rfl i0
        obtain ⟨q1, e1, w1⟩ := hval 1 f1 rfl i1
        obtain ⟨q2, e2, w2⟩ := hval 2 f2 rfl i2
        refine ⟨(q0, q1, q2), fun _ => ⟨fun j u hu => ?_, w0, w1, w2⟩⟩
        have hj : j < 3 := by have := (List.getElem?_eq_some_iff.1 hu).1; simpa [triC] using this
        have hcell := hat j hj
        rw [add_add'] at hcell
        rw [hcell, ← hu]
        have : j = 0 ∨ j = 1 ∨ j = 2 := by omega
        rcases this with rfl | rfl | rfl
        · exact e0
        · exact e1
        · exact e2
      · exact ⟨(0, 0, 0), fun h => absurd h hil⟩
    refine ⟨some a, len, cap, (List.range len).map (fun i => (hex i).choose), rfl, ⟨by simp, fun k q hk => ?_⟩, hl, hm, fun q hq => ?_⟩
    · have hklt : k < len := by
        have := (List.getElem?_eq_some_iff.1 hk).1
        simpa using this
      have hq2 : q = (hex k).choose := by
        rw [List.getElem?_map, List.getElem?_range hklt] at hk
        simpa using hk.symm
      obtain ⟨hc, _⟩ := (hex k).choose_spec hklt
      rw [hq2]
      refine ⟨a, rfl, ?_, hc⟩
      have := World.block_lt_of_cell? W _ (hc 0 _ rfl)
      rwa [block_add] at this
    · obtain ⟨k, hk, rfl⟩ := List.mem_map.1 hq
      exact ((hex k).choose_spec (by simpa using hk)).2
end
/-- What is known of a table that came in. -/
structure TabCame (W : World) (t : TabS) (a : TabA) : Prop where
  inn : TabIn W t a
  l1 : t.parts.length ≤ 9223372036854775807
  l2 : t.wins.length ≤ 9223372036854775807
  l3 : t.chans.length ≤ 9223372036854775807
  c1 : t.parts.length ≤ a.c1
  c2 : t.wins.length ≤ a.c2
  c3 : t.chans.length ≤ a.c3
  m1 : a.c1 ≤ 9223372036854775807
  m2 : a.c2 ≤ 9223372036854775807
  m3 : a.c3 ≤ 9223372036854775807
  f1 : -9223372036854775808 ≤ t.frame
  f2 : t.frame ≤ 9223372036854775807
  r1 : -9223372036854775808 ≤ t.trial
  r2 : t.trial ≤ 9223372036854775807
  ps : ∀ p ∈ t.parts, (Lit.int .i64 p.mem).wf = true ∧ (Lit.int .i64 p.fuel).wf = true ∧ (Lit.int .i64 p.hard).wf = true
  ws : ∀ p ∈ t.wins, (Lit.int .i64 p.part).wf = true ∧ (Lit.int .i64 p.at_).wf = true ∧ (Lit.int .i64 p.long).wf = true
  cs : ∀ p ∈ t.chans, (Lit.int .i64 p.src).wf = true ∧ (Lit.int .i64 p.dst).wf = true ∧ (Lit.int .i64 p.depth).wf = true
section
variable {H : Type} {enc : TypeId × Value → H} {W : World}
set_option maxRecDepth 100000 in
theorem field_one {fs : Array Field} {cs : List Value} {i : Nat} {f : Field} {n : Nat} {y : DataW H × List MemPlace} (hone : oneCellFields Try.prog fs = true) (hf : fs[i]? = some f) (hl : i < cs.length)
    (h : DataW.trod enc Try.prog W 0 (fun _ => true) true n f.type ((cs.drop f.offset).take (Try.prog.cellsOf f.type)) = some y) : DataW.trod enc Try.prog W 0 (fun _ => true) true n f.type [cs[i]] = some y := by
  obtain ⟨ho, hk⟩ := hone_of hone i f hf
  rw [ho, hk] at h
  rwa [show (cs.drop i).take 1 = [cs[i]] by rw [List.drop_eq_getElem_cons hl]; rfl] at h
set_option maxRecDepth 100000 in
theorem list5 {α : Type} (l : List α) (h : l.length = 5) : ∃ a b c d e, l = [a, b, c, d, e] := by
  match l, h with
  | [a, b, c, d, e], _ => exact ⟨a, b, c, d, e, rfl⟩
set_option maxRecDepth 100000 in
theorem open_tab {v : Value} {d : DataW H} {ps : List MemPlace} {r : Reach} {b0 : Nat}
    (hval : Value.okWide Try.prog W r b0 26 v) (h : DataW.Trod enc Try.prog W 0 (fun _ => true) true 26 v d ps) :
    ∃ (t : TabS) (a : TabA), v = .agg #[.int .i64 t.frame, .slice a.A1 t.parts.length a.c1, .slice a.A2 t.wins.length a.c2, .slice a.A3 t.chans.length a.c3, .int .i64 t.trial] ∧ TabCame W t a := by
  obtain ⟨cs, rfl, hsz⟩ := okWide_struct Try.underlying26 hval
  obtain ⟨l⟩ := cs
  obtain ⟨fuel, hf⟩ := h
  obtain ⟨xs, n, _, _, _, hlen, hg⟩ := DataW.trod_struct Try.underlying26 hf
  have hl5 : l.length = 5 := by
    have : Try.prog.cellsOf 26 = 5 := by kernel_rfl
    rw [← this, ← hsz]
    rfl
  have key : ∀ (i : Nat) (hi : i < l.length) (f : Field), _ → ∃ y, DataW.trod enc Try.prog W 0 (fun _ => true) true n f.type [l[i]] = some y := fun i hi f hfi => by
    have h1 := hg i f hfi
    exact ⟨_, field_one (by kernel_rfl) hfi hi (h1.trans (List.getElem?_eq_getElem (by have := (Array.getElem?_eq_some_iff.1 hfi).1; omega)))⟩
  obtain ⟨v0, v1, v2, v3, v4, rfl⟩ := list5 l hl5
  obtain ⟨y0, h0⟩ := key 0 (by simp) _ rfl
  obtain ⟨y1, h1⟩ := key 1 (by simp) _ rfl
  obtain ⟨y2, h2⟩ := key 2 (by simp) _ rfl
  obtain ⟨y3, h3⟩ := key 3 (by simp) _ rfl
  obtain ⟨y4, h4⟩ := key 4 (by simp) _ rfl
  clear key hg hf hval hlen
  obtain ⟨frame, e0, _, wf⟩ := DataW.trod_int Try.underlying3 h0
  obtain ⟨trial, e4, _, wt⟩ := DataW.trod_int Try.underlying3 h4
  obtain ⟨A1, n1, c1, q1, e1, r1, k1, m1, w1⟩ := trod_tri Try.underlying22 Try.underlying77 (by kernel_rfl) (by kernel_rfl) Try.underlying3 Try.underlying3 Try.underlying3 h1
  obtain ⟨A2, n2, c2, q2, e2, r2, k2, m2, w2⟩ := trod_tri Try.underlying23 Try.underlying30 (by kernel_rfl) (by kernel_rfl) Try.underlying3 Try.underlying3 Try.underlying3 h2
  obtain ⟨A3, n3, c3, q3, e3, r3, k3, m3, w3⟩ := trod_tri Try.underlying24 Try.underlying34 (by kernel_rfl) (by kernel_rfl) Try.underlying3 Try.underlying3 Try.underlying3 h3
  have b0 := bounds_i64 wf
  have b4 := bounds_i64 wt
  have p1 := r1.conv (cells' := partC) (fun q => (⟨q.1, q.2.1, q.2.2⟩ : PartS)) (fun _ => rfl)
  have p2 := r2.conv (cells' := winC) (fun q => (⟨q.1, q.2.1, q.2.2⟩ : WinS)) (fun _ => rfl)
  have p3 := r3.conv (cells' := chanC) (fun q => (⟨q.1, q.2.1, q.2.2⟩ : ChanS)) (fun _ => rfl)
  have l1 := p1.len
  have l2 := p2.len
  have l3 := p3.len
  unfold maxLen at m1 m2 m3
  refine ⟨⟨frame, q1.map fun q => ⟨q.1, q.2.1, q.2.2⟩, q2.map fun q => ⟨q.1, q.2.1, q.2.2⟩, q3.map fun q => ⟨q.1, q.2.1, q.2.2⟩, trial⟩, ⟨A1, c1, A2, c2, A3, c3⟩, ?_, ?_⟩
  · simp only [l1, l2, l3]
    simp at e0 e1 e2 e3 e4
    subst e0 e1 e2 e3 e4
    rfl
  · refine ⟨⟨by simp only [l1]; exact p1, by simp only [l2]; exact p2, by simp only [l3]; exact p3⟩, by simp only [l1]; omega, by simp only [l2]; omega, by simp only [l3]; omega, by simp only [l1]; exact k1, by simp only [l2]; exact k2, by simp only [l3]; exact k3, by simp only; omega, by simp only; omega, by simp only; omega, b0.1, b0.2, b4.1, b4.2, ?_, ?_, ?_⟩
    · intro p hp
      obtain ⟨q, hq, rfl⟩ := List.mem_map.1 hp
      exact w1 q hq
    · intro p hp
      obtain ⟨q, hq, rfl⟩ := List.mem_map.1 hp
      exact w2 q hq
    · intro p hp
      obtain ⟨q, hq, rfl⟩ := List.mem_map.1 hp
      exact w3 q hq
end
end Go.Proofs.Ytbnodcenlggcnaa
