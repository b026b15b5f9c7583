/-
  From a row's reading of a slice of layer 20's acts (six ints and a slice of bytes each) to the words of the walks.
-/
import Derived.Test.YthnifgcoikmihaaOpen
import Derived.Test.YthnifgcoikmihaaRows
import Derived.Deep.Slices
import Derived.Deep.Fields
import Derived.ChangeSame
import Derived.Lib.SmallJoins
namespace Go.Proofs.Ythnifgcoikmihaa
open Go.ChangeShapes Go.WideShapes Go.ChangeAt Go.RowKit Go.Deep Go.Joins

/-- An act of layer 20, and where its bytes lie. -/
structure A20 where
  kind : Int
  way : Int
  i : Int
  kk : Int
  at_ : Int
  by_ : Int
  A : Option Addr
  c : Nat
  b : List UInt8
def a20C (a : A20) : List Value := [iV a.kind, iV a.way, iV a.i, iV a.kk, iV a.at_, iV a.by_, .slice a.A a.b.length a.c]
def A20Ok (W : World) (a : A20) : Prop := Reads W W.heap.size 1 a.A a.b.length (a.b.map bV) ∧ a.b.length ≤ a.c ∧ a.c ≤ maxLen
section
variable {H : Type} {enc : TypeId × Value → H} {W : World}
theorem field_one20 {fs : Array Field} {cs : List Value} {i : Nat} {f : Field} {n : Nat} {y : DataW H × List MemPlace} (hone : oneCellFields Try.prog fs = true) (hf : fs[i]? = some f) (hl : i < cs.length)
    (h : DataW.trod enc Try.prog W 0 (fun _ => true) true n f.type ((cs.drop f.offset).take (Try.prog.cellsOf f.type)) = some y) : DataW.trod enc Try.prog W 0 (fun _ => true) true n f.type [cs[i]] = some y := by
  obtain ⟨ho, hk⟩ := hone_of hone i f hf
  rw [ho, hk] at h
  have e : (cs.drop i).take 1 = [cs[i]] := by rw [List.drop_eq_getElem_cons hl, List.take_succ_cons, List.take_zero]
  rw [e] at h
  exact h
theorem list7 {α : Type} (l : List α) (h : l.length = 7) : ∃ a b c d e f g, l = [a, b, c, d, e, f, g] := by
  match l, h with
  | [a, b, c, d, e, f, g], _ => exact ⟨a, b, c, d, e, f, g, rfl⟩
set_option maxRecDepth 100000 in
theorem open_acts20 {v : Value} {d : DataW H} {ps : List MemPlace} {r : Reach} {b0 : Nat}
    (hval : Value.okWide Try.prog W r b0 38 v) (h : DataW.Trod enc Try.prog W 0 (fun _ => true) true 38 v d ps) :
    ∃ (A : Option Addr) (n c : Nat) (l : List A20), v = .slice A n c ∧ RdS W W.heap.size 7 A n a20C l ∧ n ≤ c ∧ c ≤ maxLen ∧ ∀ q ∈ l, A20Ok W q := by
  obtain ⟨a0, len0, cap0, rfl⟩ := okWide_slice Try.underlying38 hval
  obtain ⟨fuel, hf⟩ := h
  have hC : Try.prog.cellsOf 42 = 7 := by kernel_rfl
  rcases open_slice Try.underlying38 hf with ⟨hcs, _⟩ | ⟨a, len, cap, m, n, D, Pl, hcs, _, hl, hm, hmm, _, hi⟩
  · simp [Value.cells] at hcs
    obtain ⟨rfl, rfl, rfl⟩ := hcs
    exact ⟨none, 0, 0, [], rfl, RdS.nil, Nat.le_refl _, by simp [maxLen], by simp⟩
  · simp [Value.cells] at hcs
    obtain ⟨rfl, rfl, rfl⟩ := hcs
    have hm2 : m = cap0 := by simpa using hmm
    have hex : ∀ i : Nat, ∃ q : A20, i < len0 → (∀ j u, (a20C q)[j]? = some u → W.cell? (a.add (i * 7 + j)) = some u) ∧ A20Ok W q := by
      intro i
      by_cases hil : i < len0
      · obtain ⟨cs', hc, ht'⟩ := hi i (by omega)
        rw [hC] at hc
        obtain ⟨ys, n', _, _, hlen, hyl, hg⟩ := DataW.trod_struct Try.underlying42 ht'
        obtain ⟨_, hcl, hat⟩ := World.cells?_some hc
        have key : ∀ (j : Nat) (hj : j < cs'.length) (f : Field), _ → ∃ y, DataW.trod enc Try.prog W 0 (fun _ => true) true n' f.type [cs'[j]] = some y := fun j hj f hfi => by
          have h1 := hg j f hfi
          exact ⟨_, field_one20 (by kernel_rfl) hfi hj (h1.trans (List.getElem?_eq_getElem (by have := (Array.getElem?_eq_some_iff.1 hfi).1; omega)))⟩
        obtain ⟨v0, v1, v2, v3, v4, v5, v6, rfl⟩ := list7 cs' (by simpa using hcl)
        obtain ⟨y0, h0⟩ := key 0 (by simp) _ rfl
        obtain ⟨y1, h1⟩ := key 1 (by simp) _ rfl
        obtain ⟨y2, h2⟩ := key 2 (by simp) _ rfl
        obtain ⟨y3, h3⟩ := key 3 (by simp) _ rfl
        obtain ⟨y4, h4⟩ := key 4 (by simp) _ rfl
        obtain ⟨y5, h5⟩ := key 5 (by simp) _ rfl
        obtain ⟨y6, h6⟩ := key 6 (by simp) _ rfl
        clear key hg ht' hlen
        obtain ⟨q0, e0, _, f0⟩ := DataW.trod_int Try.underlying3 h0
        obtain ⟨q1, e1, _, f1⟩ := DataW.trod_int Try.underlying3 h1
        obtain ⟨q2, e2, _, f2⟩ := DataW.trod_int Try.underlying3 h2
        obtain ⟨q3, e3, _, f3⟩ := DataW.trod_int Try.underlying3 h3
        obtain ⟨q4, e4, _, f4⟩ := DataW.trod_int Try.underlying3 h4
        obtain ⟨q5, e5, _, f5⟩ := DataW.trod_int Try.underlying3 h5
        obtain ⟨A, m, c, bs, e6, r6, k6, m6⟩ := trod_bytes Try.underlying26 Try.underlying5 (by kernel_rfl) h6
        have hbl : bs.length = m := by simpa using r6.len
        subst hbl
        simp at e0 e1 e2 e3 e4 e5 e6
        subst e0 e1 e2 e3 e4 e5 e6
        refine ⟨⟨q0, q1, q2, q3, q4, q5, A, c, bs⟩, fun _ => ⟨fun j u hu => ?_, r6, k6, m6⟩⟩
        have hj : j < 7 := by have := (List.getElem?_eq_some_iff.1 hu).1; simpa [a20C] using this
        have hcell := hat j hj
        rw [add_add'] at hcell
        rw [hcell]
        exact hu
      · exact ⟨⟨0, 0, 0, 0, 0, 0, none, 0, []⟩, fun h => absurd h hil⟩
    refine ⟨some a, len0, cap0, (List.range len0).map (fun i => (hex i).choose), rfl, ⟨by simp, fun k q hk => ?_⟩, hl, hm, fun q hq => ?_⟩
    · have hklt : k < len0 := by
        have := (List.getElem?_eq_some_iff.1 hk).1
        simpa using this
      have hq2 : q = (hex k).choose := by
        rw [List.getElem?_map, List.getElem?_range hklt] at hk
        simpa using hk.symm
      obtain ⟨hc, _⟩ := (hex k).choose_spec hklt
      rw [hq2]
      refine ⟨a, rfl, ?_, hc⟩
      have := World.block_lt_of_cell? W _ (hc 0 _ rfl)
      rwa [block_add] at this
    · obtain ⟨k, hk, rfl⟩ := List.mem_map.1 hq
      exact ((hex k).choose_spec (by simpa using hk)).2
end
end Go.Proofs.Ythnifgcoikmihaa
