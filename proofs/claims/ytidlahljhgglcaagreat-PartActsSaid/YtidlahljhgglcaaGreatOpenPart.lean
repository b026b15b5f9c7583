/-
  From a row's reading of a slice of images, and of a slice of law 23's acts, to the words of the walks.
-/
import Derived.Test.YtidlahljhgglcaaGreatQb
import Derived.Test.YtidlahljhgglcaaGreatOpenImgV
import Derived.Test.YtidlahljhgglcaaGreatVmNew
namespace Go.Proofs.YtidlahljhgglcaaGreat
open Go.ChangeShapes Go.WideShapes Go.ChangeAt Go.RowKit Go.Deep Go.Joins

/-- An act of layer 23. -/
structure ActP where
  kind : Int
  img : Int
  chan : Int
  num : Int
def actPC (a : ActP) : List Value := [iV a.kind, iV a.img, iV a.chan, iV a.num]
def quadPC (q : Int × Int × Int × Int) : List Value := [iV q.1, iV q.2.1, iV q.2.2.1, iV q.2.2.2]
/-- An image with the place of its code. -/
structure ImgA where
  p : ImgS
  A : Option Addr
  c : Nat
def imgAC (x : ImgA) : List Value := imgC x.p x.A x.c
section
variable {H : Type} {enc : TypeId × Value → H} {P : Program} {W : World}
/-- A slice of structs of four ints, from its cell. -/
theorem trod_quadP {t e : TypeId} {f0 f1 f2 f3 : Field} {v : Value} {x : DataW H × List MemPlace} {fuel : Nat} (ht : P.underlying t = some (.slice e)) (he : P.underlying e = some (.struct #[f0, f1, f2, f3]))
    (hone : oneCellFields P #[f0, f1, f2, f3] = true) (hC : P.cellsOf e = 4) (i0 : P.underlying f0.type = some (.int .i64)) (i1 : P.underlying f1.type = some (.int .i64)) (i2 : P.underlying f2.type = some (.int .i64)) (i3 : P.underlying f3.type = some (.int .i64))
    (h : DataW.trod enc P W 0 (fun _ => true) true fuel t [v] = some x) :
    ∃ (A : Option Addr) (n c : Nat) (l : List (Int × Int × Int × Int)), v = .slice A n c ∧ RdS W W.heap.size 4 A n quadPC l ∧ n ≤ c ∧ c ≤ maxLen ∧
      ∀ q ∈ l, (Lit.int .i64 q.1).wf = true ∧ (Lit.int .i64 q.2.1).wf = true ∧ (Lit.int .i64 q.2.2.1).wf = true ∧ (Lit.int .i64 q.2.2.2).wf = true := by
  rcases open_slice ht h with ⟨hcs, _⟩ | ⟨a, len, cap, m, n, D, Pl, hcs, _, hl, hm, hmm, _, hi⟩
  · simp at hcs
    subst hcs
    exact ⟨none, 0, 0, [], rfl, RdS.nil, Nat.le_refl _, by simp [maxLen], by simp⟩
  · simp at hcs
    subst hcs
    have hm2 : m = cap := by simpa using hmm
    have hex : ∀ i : Nat, ∃ q : Int × Int × Int × Int, i < len → (∀ j u, (quadPC q)[j]? = some u → W.cell? (a.add (i * 4 + j)) = some u) ∧ (Lit.int .i64 q.1).wf = true ∧ (Lit.int .i64 q.2.1).wf = true ∧ (Lit.int .i64 q.2.2.1).wf = true ∧ (Lit.int .i64 q.2.2.2).wf = true := by
      intro i
      by_cases hil : i < len
      · obtain ⟨cs', hc, ht'⟩ := hi i (by omega)
        rw [hC] at hc
        obtain ⟨ys, n', _, _, hlen, hyl, hf⟩ := DataW.trod_struct he ht'
        obtain ⟨_, hcl, hat⟩ := World.cells?_some hc
        have hval : ∀ (j : Nat) (f : Field), (#[f0, f1, f2, f3] : Array Field)[j]? = some f → P.underlying f.type = some (.int .i64) → ∃ q : Int, cs'[j]? = some (iV q) ∧ (Lit.int .i64 q).wf = true := by
          intro j f hj hu
          obtain ⟨ho, hk⟩ := hone_of hone j f hj
          have hjl : j < 4 := by have := (Array.getElem?_eq_some_iff.1 hj).1; simpa using this
          have h1 := hf j f hj
          rw [ho, hk] at h1
          have hone' : (cs'.drop j).take 1 = [cs'[j]'(by omega)] := by
            rw [List.drop_eq_getElem_cons (by omega)]
            rfl
          rw [hone'] at h1
          have hys : ys[j]? = some (ys[j]'(by simp at hyl; omega)) := List.getElem?_eq_getElem (by simp at hyl; omega)
          obtain ⟨q, e1, _, w1⟩ := DataW.trod_int hu (h1.trans hys)
          refine ⟨q, ?_, w1⟩
          rw [List.getElem?_eq_getElem (by omega)]
          simpa using e1
        obtain ⟨q0, e0, w0⟩ := hval 0 f0 rfl i0
        obtain ⟨q1, e1, w1⟩ := hval 1 f1 rfl i1
        obtain ⟨q2, e2, w2⟩ := hval 2 f2 rfl i2
        obtain ⟨q3, e3, w3⟩ := hval 3 f3 rfl i3
        refine ⟨(q0, q1, q2, q3), fun _ => ⟨fun j u hu => ?_, w0, w1, w2, w3⟩⟩
        have hj : j < 4 := by have := (List.getElem?_eq_some_iff.1 hu).1; simpa [quadPC] using this
        have hcell := hat j hj
        rw [add_add'] at hcell
        rw [hcell, ← hu]
        have : j = 0 ∨ j = 1 ∨ j = 2 ∨ j = 3 := by omega
        rcases this with rfl | rfl | rfl | rfl
        · exact e0
        · exact e1
        · exact e2
        · exact e3
      · exact ⟨(0, 0, 0, 0), fun h => absurd h hil⟩
    refine ⟨some a, len, cap, (List.range len).map (fun i => (hex i).choose), rfl, ⟨by simp, fun k q hk => ?_⟩, hl, hm, fun q hq => ?_⟩
    · have hklt : k < len := by
        have := (List.getElem?_eq_some_iff.1 hk).1
        simpa using this
      have hq2 : q = (hex k).choose := by
        rw [List.getElem?_map, List.getElem?_range hklt] at hk
        simpa using hk.symm
      obtain ⟨hc, _⟩ := (hex k).choose_spec hklt
      rw [hq2]
      refine ⟨a, rfl, ?_, hc⟩
      have := World.block_lt_of_cell? W _ (hc 0 _ rfl)
      rwa [block_add] at this
    · obtain ⟨k, hk, rfl⟩ := List.mem_map.1 hq
      exact ((hex k).choose_spec (by simpa using hk)).2
end
section
variable {H : Type} {enc : TypeId × Value → H} {W : World}
set_option maxRecDepth 100000 in
theorem open_actsP {v : Value} {d : DataW H} {ps : List MemPlace} {r : Reach} {b0 : Nat}
    (hval : Value.okWide Tryz.prog W r b0 28 v) (h : DataW.Trod enc Tryz.prog W 0 (fun _ => true) true 28 v d ps) :
    ∃ (A : Option Addr) (n c : Nat) (l : List ActP), v = .slice A n c ∧ RdS W W.heap.size 4 A n actPC l ∧ n ≤ c ∧ c ≤ maxLen := by
  obtain ⟨a0, len0, cap0, rfl⟩ := okWide_slice Tryz.underlying28 hval
  obtain ⟨fuel, hf⟩ := h
  obtain ⟨A, n, c, l, e, hr, h1, h2, _⟩ := trod_quadP Tryz.underlying28 Tryz.underlying44 (by kernel_rfl) (by kernel_rfl) Tryz.underlying3 Tryz.underlying3 Tryz.underlying3 Tryz.underlying3 hf
  exact ⟨A, n, c, l.map fun q => ⟨q.1, q.2.1, q.2.2.1, q.2.2.2⟩, e, hr.conv (fun q => (⟨q.1, q.2.1, q.2.2.1, q.2.2.2⟩ : ActP)) (fun _ => rfl), h1, h2⟩
set_option maxRecDepth 10000 in
theorem elem_img {l : List Value} {x : DataW H × List MemPlace} {fuel : Nat} (hl9 : l.length = 8) (hf : DataW.trod enc Tryz.prog W 0 (fun _ => true) true fuel 47 l = some x) :
    ∃ (p : ImgS) (A : Option Addr) (c : Nat), l = imgC p A c ∧ ImgCame W p A c := by
  obtain ⟨xs, n, _, _, hlen, _, hg⟩ := DataW.trod_struct Tryz.underlying47 hf
  have key : ∀ (i : Nat) (hi : i < l.length) (f : Field), _ → ∃ y, DataW.trod enc Tryz.prog W 0 (fun _ => true) true n f.type [l[i]] = some y := fun i hi f hfi => by
    have h1 := hg i f hfi
    exact ⟨_, field_oneI (by kernel_rfl) hfi hi (h1.trans (List.getElem?_eq_getElem (by have := (Array.getElem?_eq_some_iff.1 hfi).1; omega)))⟩
  obtain ⟨v0, v1, v2, v3, v4, v5, v6, v7, rfl⟩ := list8 l hl9
  obtain ⟨y0, h0⟩ := key 0 (by simp) _ rfl
  obtain ⟨y1, h1⟩ := key 1 (by simp) _ rfl
  obtain ⟨y2, h2⟩ := key 2 (by simp) _ rfl
  obtain ⟨y3, h3⟩ := key 3 (by simp) _ rfl
  obtain ⟨y4, h4⟩ := key 4 (by simp) _ rfl
  obtain ⟨y5, h5⟩ := key 5 (by simp) _ rfl
  obtain ⟨y6, h6⟩ := key 6 (by simp) _ rfl
  obtain ⟨y7, h7⟩ := key 7 (by simp) _ rfl
  clear key hg hf hlen
  obtain ⟨q0, e0, _, f0⟩ := DataW.trod_int Tryz.underlying3 h0
  obtain ⟨q1, e1, _, f1⟩ := DataW.trod_int Tryz.underlying3 h1
  obtain ⟨q2, e2, _, f2⟩ := DataW.trod_int Tryz.underlying3 h2
  obtain ⟨q3, e3, _, f3⟩ := DataW.trod_int Tryz.underlying3 h3
  obtain ⟨q4, e4, _, f4⟩ := DataW.trod_int Tryz.underlying3 h4
  obtain ⟨q5, e5, _, f5⟩ := DataW.trod_int Tryz.underlying3 h5
  obtain ⟨q6, e6, _, f6⟩ := DataW.trod_int Tryz.underlying3 h6
  obtain ⟨A, m, c, bs, e7, r7, k7, m7⟩ := trod_bytes Tryz.underlying45 Tryz.underlying5 (by kernel_rfl) h7
  have hbl : bs.length = m := by simpa using r7.len
  subst hbl
  simp at e0 e1 e2 e3 e4 e5 e6 e7
  subst e0 e1 e2 e3 e4 e5 e6 e7
  exact ⟨⟨q0, q1, q2, q3, q4, q5, q6, bs⟩, A, c, rfl, ⟨r7, k7, m7, f0, f1, f2, f3, f4, f5, f6⟩⟩
set_option maxRecDepth 100000 in
/-- A slice of images, from its cell. -/
theorem open_imgs {v : Value} {d : DataW H} {ps : List MemPlace} {r : Reach} {b0 : Nat}
    (hval : Value.okWide Tryz.prog W r b0 27 v) (h : DataW.Trod enc Tryz.prog W 0 (fun _ => true) true 27 v d ps) :
    ∃ (A : Option Addr) (n c : Nat) (l : List ImgA), v = .slice A n c ∧ RdS W W.heap.size 8 A n imgAC l ∧ n ≤ c ∧ c ≤ maxLen ∧ ∀ q ∈ l, ImgCame W q.p q.A q.c := by
  obtain ⟨a0, len0, cap0, rfl⟩ := okWide_slice Tryz.underlying27 hval
  obtain ⟨fuel, hf⟩ := h
  have hC : Tryz.prog.cellsOf 47 = 8 := by kernel_rfl
  rcases open_slice Tryz.underlying27 hf with ⟨hcs, _⟩ | ⟨a, len, cap, m, n, D, Pl, hcs, _, hl, hm, hmm, _, hi⟩
  · change [Value.slice a0 len0 cap0] = _ at hcs
    simp at hcs
    obtain ⟨rfl, rfl, rfl⟩ := hcs
    exact ⟨none, 0, 0, [], rfl, RdS.nil, Nat.le_refl _, by simp [maxLen], by simp⟩
  · change [Value.slice a0 len0 cap0] = _ at hcs
    simp at hcs
    obtain ⟨rfl, rfl, rfl⟩ := hcs
    have hm2 : m = cap0 := by simpa using hmm
    have hex : ∀ i : Nat, ∃ q : ImgA, i < len0 → (∀ j u, (imgAC q)[j]? = some u → W.cell? (a.add (i * 8 + j)) = some u) ∧ ImgCame W q.p q.A q.c := by
      intro i
      by_cases hil : i < len0
      · obtain ⟨cs', hc, ht'⟩ := hi i (by omega)
        rw [hC] at hc
        obtain ⟨_, hcl, hat⟩ := World.cells?_some hc
        obtain ⟨p, A, c, e, hw⟩ := elem_img hcl ht'
        refine ⟨⟨p, A, c⟩, fun _ => ⟨fun j u hu => ?_, hw⟩⟩
        have hj : j < 8 := by have := (List.getElem?_eq_some_iff.1 hu).1; simpa [imgAC, imgC] using this
        have hcell := hat j hj
        rw [add_add'] at hcell
        rw [hcell, ← hu, e]
        rfl
      · exact ⟨⟨⟨0, 0, 0, 0, 0, 0, 0, []⟩, none, 0⟩, fun h => absurd h hil⟩
    refine ⟨some a, len0, cap0, (List.range len0).map (fun i => (hex i).choose), rfl, ⟨by simp, fun k q hk => ?_⟩, hl, hm, fun q hq => ?_⟩
    · have hklt : k < len0 := by
        have := (List.getElem?_eq_some_iff.1 hk).1
        simpa using this
      have hq2 : q = (hex k).choose := by
        rw [List.getElem?_map, List.getElem?_range hklt] at hk
        simpa using hk.symm
      obtain ⟨hc, _⟩ := (hex k).choose_spec hklt
      rw [hq2]
      refine ⟨a, rfl, ?_, hc⟩
      have := World.block_lt_of_cell? W _ (hc 0 _ rfl)
      rwa [block_add] at this
    · obtain ⟨k, hk, rfl⟩ := List.mem_map.1 hq
      exact ((hex k).choose_spec (by simpa using hk)).2
end
end Go.Proofs.YtidlahljhgglcaaGreat
