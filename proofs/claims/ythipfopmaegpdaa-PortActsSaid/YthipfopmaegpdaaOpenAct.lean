/-
  From a row's reading of a slice of acts (four ints each) to the words of the walks.
-/
import Derived.Test.YthipfopmaegpdaaOpenTab
namespace Go.Proofs.Ythipfopmaegpdaa
open Go.ChangeShapes Go.WideShapes Go.ChangeAt Go.RowKit Go.Deep Go.Joins

/-- An act of layer 16. -/
structure ActS where
  kind : Int
  part : Int
  chan : Int
  num : Int
def actC (a : ActS) : List Value := [iV a.kind, iV a.part, iV a.chan, iV a.num]
def quadC (q : Int × Int × Int × Int) : List Value := [iV q.1, iV q.2.1, iV q.2.2.1, iV q.2.2.2]
section
variable {H : Type} {enc : TypeId × Value → H} {P : Program} {W : World}
/-- A slice of structs of four ints, from its cell. -/
theorem trod_quad {t e : TypeId} {f0 f1 f2 f3 : Field} {v : Value} {x : DataW H × List MemPlace} {fuel : Nat} (ht : P.underlying t = some (.slice e)) (he : P.underlying e = some (.struct #[f0, f1, f2, f3]))
    (hone : oneCellFields P #[f0, f1, f2, f3] = true) (hC : P.cellsOf e = 4) (i0 : P.underlying f0.type = some (.int .i64)) (i1 : P.underlying f1.type = some (.int .i64)) (i2 : P.underlying f2.type = some (.int .i64)) (i3 : P.underlying f3.type = some (.int .i64))
    (h : DataW.trod enc P W 0 (fun _ => true) true fuel t [v] = some x) :
    ∃ (A : Option Addr) (n c : Nat) (l : List (Int × Int × Int × Int)), v = .slice A n c ∧ RdS W W.heap.size 4 A n quadC l ∧ n ≤ c ∧ c ≤ maxLen ∧
      ∀ q ∈ l, (Lit.int .i64 q.1).wf = true ∧ (Lit.int .i64 q.2.1).wf = true ∧ (Lit.int .i64 q.2.2.1).wf = true ∧ (Lit.int .i64 q.2.2.2).wf = true := by
  rcases open_slice ht h with ⟨hcs, _⟩ | ⟨a, len, cap, m, n, D, Pl, hcs, _, hl, hm, hmm, _, hi⟩
  · simp at hcs
    subst hcs
    exact ⟨none, 0, 0, [], rfl, RdS.nil, Nat.le_refl _, by simp [maxLen], by simp⟩
  · simp at hcs
    subst hcs
    have hm2 : m = cap := by simpa using hmm
    have hex : ∀ i : Nat, ∃ q : Int × Int × Int × Int, i < len → (∀ j u, (quadC q)[j]? = some u → W.cell? (a.add (i * 4 + j)) = some u) ∧ (Lit.int .i64 q.1).wf = true ∧ (Lit.int .i64 q.2.1).wf = true ∧ (Lit.int .i64 q.2.2.1).wf = true ∧ (Lit.int .i64 q.2.2.2).wf = true := by
      intro i
      by_cases hil : i < len
      · obtain ⟨cs', hc, ht'⟩ := hi i (by omega)
        rw [hC] at hc
        obtain ⟨ys, n', _, _, hlen, hyl, hf⟩ := DataW.trod_struct he ht'
        obtain ⟨_, hcl, hat⟩ := World.cells?_some hc
        have hval : ∀ (j : Nat) (f : Field), (#[f0, f1, f2, f3] : Array Field)[j]? = some f → P.underlying f.type = some (.int .i64) → ∃ q : Int, cs'[j]? = some (iV q) ∧ (Lit.int .i64 q).wf = true := by
          intro j f hj hu
          obtain ⟨ho, hk⟩ := hone_of hone j f hj
          have hjl : j < 4 := by have := (Array.getElem?_eq_some_iff.1 hj).1; simpa using this
          have h1 := hf j f hj
          rw [ho, hk] at h1
          have hone' : (cs'.drop j).take 1 = [cs'[j]'(by omega)] := by
            rw [List.drop_eq_getElem_cons (by omega)]
            rfl
          rw [hone'] at h1
          have hys : ys[j]? = some (ys[j]'(by simp at hyl; omega)) := List.getElem?_eq_getElem (by simp at hyl; omega)
          obtain ⟨q, e1, _, w1⟩ := DataW.trod_int hu (h1.trans hys)
          refine ⟨q, ?_, w1⟩
          rw [List.getElem?_eq_getElem (by omega)]
          simpa using e1
        obtain ⟨q0, e0, w0⟩ := hval 0 f0 rfl i0
        obtain ⟨q1, e1, w1⟩ := hval 1 f1 rfl i1
        obtain ⟨q2, e2, w2⟩ := hval 2 f2 rfl i2
        obtain ⟨q3, e3, w3⟩ := hval 3 f3 rfl i3
        refine ⟨(q0, q1, q2, q3), fun _ => ⟨fun j u hu => ?_, w0, w1, w2, w3⟩⟩
        have hj : j < 4 := by have := (List.getElem?_eq_some_iff.1 hu).1; simpa [quadC] using this
        have hcell := hat j hj
        rw [add_add'] at hcell
        rw [hcell, ← hu]
        have : j = 0 ∨ j = 1 ∨ j = 2 ∨ j = 3 := by omega
        rcases this with rfl | rfl | rfl | rfl
        · exact e0
        · exact e1
        · exact e2
        · exact e3
      · exact ⟨(0, 0, 0, 0), fun h => absurd h hil⟩
    refine ⟨some a, len, cap, (List.range len).map (fun i => (hex i).choose), rfl, ⟨by simp, fun k q hk => ?_⟩, hl, hm, fun q hq => ?_⟩
    · have hklt : k < len := by
        have := (List.getElem?_eq_some_iff.1 hk).1
        simpa using this
      have hq2 : q = (hex k).choose := by
        rw [List.getElem?_map, List.getElem?_range hklt] at hk
        simpa using hk.symm
      obtain ⟨hc, _⟩ := (hex k).choose_spec hklt
      rw [hq2]
      refine ⟨a, rfl, ?_, hc⟩
      have := World.block_lt_of_cell? W _ (hc 0 _ rfl)
      rwa [block_add] at this
    · obtain ⟨k, hk, rfl⟩ := List.mem_map.1 hq
      exact ((hex k).choose_spec (by simpa using hk)).2
end
section
variable {H : Type} {enc : TypeId × Value → H} {W : World}
set_option maxRecDepth 100000 in
theorem open_acts {v : Value} {d : DataW H} {ps : List MemPlace} {r : Reach} {b0 : Nat}
    (hval : Value.okWide Try.prog W r b0 50 v) (h : DataW.Trod enc Try.prog W 0 (fun _ => true) true 50 v d ps) :
    ∃ (A : Option Addr) (n c : Nat) (l : List ActS), v = .slice A n c ∧ RdS W W.heap.size 4 A n actC l ∧ n ≤ c ∧ c ≤ maxLen ∧ ∀ q ∈ l, (Lit.int .i64 q.kind).wf = true ∧ (Lit.int .i64 q.part).wf = true ∧ (Lit.int .i64 q.chan).wf = true ∧ (Lit.int .i64 q.num).wf = true := by
  obtain ⟨a0, len0, cap0, rfl⟩ := okWide_slice Try.underlying50 hval
  obtain ⟨fuel, hf⟩ := h
  obtain ⟨A, n, c, l, e, hr, h1, h2, hw⟩ := trod_quad Try.underlying50 Try.underlying52 (by kernel_rfl) (by kernel_rfl) Try.underlying3 Try.underlying3 Try.underlying3 Try.underlying3 hf
  refine ⟨A, n, c, l.map fun q => ⟨q.1, q.2.1, q.2.2.1, q.2.2.2⟩, e, hr.conv (fun q => (⟨q.1, q.2.1, q.2.2.1, q.2.2.2⟩ : ActS)) (fun _ => rfl), h1, h2, ?_⟩
  intro p hp
  obtain ⟨q, hq, rfl⟩ := List.mem_map.1 hp
  exact hw q hq
end
end Go.Proofs.Ythipfopmaegpdaa
