/-
  A slice that begins at its block's head, its capacity at most the block's size: reading, cutting, storing, appending.
-/
import Derived.Test.YtidlahljhgglcaaBase
import Derived.Deep.RegionHeld3
namespace Go.Proofs.Ytidlahljhgglcaa
open Go.RowKit

/-- All but the blocks of F is as it was. -/
structure Apart (F : Nat → Prop) (w w' : World) : Prop where
  os : w'.os = w.os
  tape : w'.tape = w.tape
  output : w'.output = w.output
  size : w.heap.size ≤ w'.heap.size
  block : ∀ k, k < w.heap.size → ¬ F k → w'.heap[k]? = w.heap[k]?
section
variable {F G : Nat → Prop} {w w' w'' : World}
theorem Apart.refl (F : Nat → Prop) (w : World) : Apart F w w := ⟨rfl, rfl, rfl, Nat.le_refl _, fun _ _ _ => rfl⟩
theorem Apart.trans (h : Apart F w w') (k : Apart G w' w'') (hG : ∀ b, b < w.heap.size → G b → F b) : Apart F w w'' :=
  ⟨k.os.trans h.os, k.tape.trans h.tape, k.output.trans h.output, Nat.le_trans h.size k.size, fun i hi hF => (k.block i (Nat.lt_of_lt_of_le hi h.size) (fun hg => hF (hG i hi hg))).trans (h.block i hi hF)⟩
theorem Apart.of_below (h : Below w.heap.size w w') : Apart F w w' := ⟨h.os, h.tape, h.output, h.size, fun k hk _ => h.block k hk⟩
theorem Apart.below {B : Nat} (h : Apart F w w') (hB : B ≤ w.heap.size) (hF : ∀ b, F b → B ≤ b) : Below B w w' :=
  ⟨h.os, h.tape, h.output, h.size, fun k hk => h.block k (by omega) (fun hf => by have := hF k hf; omega)⟩
theorem Apart.alloc (h : Apart F w w') (o : Obj) : Apart F w (w'.alloc o) := h.trans (G := fun _ => False) (Apart.of_below ((Below.refl _ _).alloc (Nat.le_refl _) _)) (fun _ _ h => h.elim)
theorem Apart.drew (h : Apart F w w') : Apart F w w'.drew := ⟨h.os, h.tape, h.output, h.size, h.block⟩
theorem Apart.setCell (h : Apart F w w') {p : Addr} (hp : F p.block ∨ w.heap.size ≤ p.block) (u : Value) : Apart F w (w'.setCell p u) :=
  ⟨h.os, h.tape, h.output, by simpa [World.setCell] using h.size, fun k hk hF => (Below.heap_setCell _ _ _ _ (fun e => by subst e; rcases hp with hp | hp; exact hF hp; omega)).trans (h.block k hk hF)⟩
theorem Apart.grown {row : Option Nat} (h : Apart F w w') (hg : w'.grownBy w'' row) (hr : ∀ k, row = some k → F k ∨ w.heap.size ≤ k) : Apart F w w'' :=
  ⟨hg.os.trans h.os, hg.tape.trans h.tape, hg.output.trans h.output, Nat.le_trans h.size hg.size, fun k hk hF => (hg.block k (Nat.lt_of_lt_of_le hk h.size) (fun e => by rcases hr k e.symm with hf | hf; exact hF hf; omega)).trans (h.block k hk hF)⟩
theorem Blk.apart {g : Nat} {t : TypeId} {cs : List Value} (h : Blk w g t cs) (hb : Apart F w w') (hg : ¬ F g) : Blk w' g t cs := (hb.block g h.lt hg).trans h
end

/-- A slice from the head of its block. -/
def Row (w : World) (e : TypeId) (A : Option Addr) (n c : Nat) (xs : List Value) : Prop :=
  xs.length = n ∧ n ≤ c ∧ c ≤ maxLen ∧
  ((A = none ∧ c = 0) ∨ ∃ g cur, A = some ⟨g, 0, none⟩ ∧ w.heap[g]? = some (.cells cur e (0, 0)) ∧ c ≤ cur.size ∧ cur.toList.take n = xs)
/-- The slice's block. -/
def Foot (A : Option Addr) (b : Nat) : Prop := ∃ a, A = some a ∧ a.block = b
section
variable {w w' : World} {e : TypeId} {A : Option Addr} {n c : Nat} {xs : List Value}
theorem Row.len (h : Row w e A n c xs) : xs.length = n := h.1
theorem Row.cap (h : Row w e A n c xs) : n ≤ c ∧ c ≤ maxLen := ⟨h.2.1, h.2.2.1⟩
theorem Row.nil (w : World) (e : TypeId) : Row w e none 0 0 [] := ⟨rfl, Nat.le_refl _, by simp [maxLen], .inl ⟨rfl, rfl⟩⟩
theorem Row.lt (h : Row w e A n c xs) {b : Nat} (hb : Foot A b) : b < w.heap.size := by
  obtain ⟨a, ha, rfl⟩ := hb
  rcases h.2.2.2 with ⟨h1, _⟩ | ⟨g, cur, h1, h2, _⟩
  · rw [h1] at ha; cases ha
  · rw [h1] at ha; injection ha with ha; subst ha; exact (Array.getElem?_eq_some_iff.1 h2).1
theorem Row.keep (h : Row w e A n c xs) (hk : ∀ b, Foot A b → w'.heap[b]? = w.heap[b]?) : Row w' e A n c xs := by
  refine ⟨h.1, h.2.1, h.2.2.1, ?_⟩
  rcases h.2.2.2 with h1 | ⟨g, cur, h1, h2, h3⟩
  · exact .inl h1
  · exact .inr ⟨g, cur, h1, (hk g ⟨_, h1, rfl⟩).trans h2, h3⟩
theorem Row.belowS (h : Row w e A n c xs) (hb : Below w.heap.size w w') : Row w' e A n c xs := h.keep fun b hf => hb.block b (h.lt hf)
theorem Row.apart {F : Nat → Prop} (h : Row w e A n c xs) (hb : Apart F w w') (hF : ∀ b, Foot A b → ¬ F b) : Row w' e A n c xs := h.keep fun b hf => hb.block b (h.lt hf) (hF b hf)
theorem Row.alloc (h : Row w e A n c xs) (o : Obj) : Row (w.alloc o) e A n c xs := h.keep fun b hf => Below.heap_alloc _ _ _ (h.lt hf)
theorem Row.drew (h : Row w e A n c xs) : Row w.drew e A n c xs := h
theorem Row.far (h : Row w e A n c xs) {p : Addr} (hp : ¬ Foot A p.block) (u : Value) : Row (w.setCell p u) e A n c xs := h.keep fun b hf => Below.heap_setCell _ _ _ _ (fun e => by subst e; exact hp hf)
theorem Row.form (h : Row w e A n c xs) (hn : 0 < n) : ∃ g, A = some ⟨g, 0, none⟩ ∧ g < w.heap.size := by
  rcases h.2.2.2 with ⟨_, h1⟩ | ⟨g, cur, h1, h2, _⟩
  · have := h.2.1; omega
  · exact ⟨g, h1, (Array.getElem?_eq_some_iff.1 h2).1⟩
theorem Row.reads (h : Row w e A n c xs) : Reads w w.heap.size 1 A n xs := by
  refine ⟨by rw [h.1]; omega, fun hn => ?_⟩
  rcases h.2.2.2 with ⟨_, h1⟩ | ⟨g, cur, h1, h2, h3, h4⟩
  · have := h.2.1; omega
  · refine ⟨_, h1, (Array.getElem?_eq_some_iff.1 h2).1, fun j u hu => ?_⟩
    rw [add_none, cell_of_row w g _ cur e (0, 0) h2]
    rw [← h4, List.getElem?_take] at hu
    split at hu
    · simpa using hu
    · cases hu
theorem Row.cell {g : Nat} (h : Row w e (some ⟨g, 0, none⟩) n c xs) {j : Nat} {u : Value} (hu : xs[j]? = some u) : w.cell? ⟨g, j, none⟩ = some u := by
  have hj := (List.getElem?_eq_some_iff.1 hu).1
  obtain ⟨ad, e1, _, hc⟩ := h.reads.2 (by rw [← h.1]; omega)
  injection e1 with e1
  subst e1
  have := hc j u hu
  rwa [add_none, Nat.zero_add] at this
theorem Row.frozen {g : Nat} (h : Row w e (some ⟨g, 0, none⟩) n c xs) (j : Nat) : w.frozen? ⟨g, j, none⟩ = false := by
  rcases h.2.2.2 with ⟨h1, _⟩ | ⟨g', cur, h1, h2, _⟩
  · cases h1
  · injection h1 with h1
    injection h1 with h1
    subst h1
    exact frozen_of_row w g j cur e h2
/-- The beginning, its capacity cut to its length. -/
theorem Row.cut (h : Row w e A n c xs) {i : Nat} (hi : i ≤ n) : Row w e A i i (xs.take i) := by
  have h1 := h.1
  have h2 := h.2.1
  have h3 := h.2.2.1
  refine ⟨by rw [List.length_take]; omega, Nat.le_refl _, by omega, ?_⟩
  rcases h.2.2.2 with ⟨h4, h5⟩ | ⟨g, cur, h4, h5, h6, h7⟩
  · exact .inl ⟨h4, by omega⟩
  · refine .inr ⟨g, cur, h4, h5, by omega, ?_⟩
    rw [← h7, List.take_take]
    congr 1
    omega
theorem Row.set_ {g : Nat} (h : Row w e (some ⟨g, 0, none⟩) n c xs) (j : Nat) (u : Value) : Row (w.setCell ⟨g, j, none⟩ u) e (some ⟨g, 0, none⟩) n c (xs.set j u) := by
  rcases h.2.2.2 with ⟨h1, _⟩ | ⟨g', cur, h1, h2, h3, h4⟩
  · cases h1
  · injection h1 with h1
    injection h1 with h1
    subst h1
    refine ⟨by rw [List.length_set]; exact h.1, h.2.1, h.2.2.1, .inr ⟨g, cur.setIfInBounds j u, rfl, heap_setCell_same w g j cur e u h2, by simpa using h3, ?_⟩⟩
    rw [← h4, Array.toList_setIfInBounds, List.take_set]
theorem Row.made (w : World) (cur : Array Value) (e : TypeId) (n : Nat) (hn : cur.size = n) (hm : n ≤ maxLen) : Row (w.alloc (.cells cur e)) e (some ⟨w.heap.size, 0, none⟩) n n cur.toList := by
  subst hn
  exact ⟨by simp, Nat.le_refl _, hm, .inr ⟨w.heap.size, cur, rfl, heap_alloc_new w _, Nat.le_refl _, by rw [List.take_of_length_le (by simp)]⟩⟩
end
section
variable {P : Program} (w : World)
/-- Append behind such a slice: the new one is one, too. -/
theorem run_row_append (t ty e : TypeId) (i : TypeInfo) (z : Value) (bytes : Nat) (ht : P.underlying t = some (.slice e)) (hi : P.info? e = some i) (hz : i.zero = some z)
    (hsize : i.size = 1) (hby : i.bytes = bytes) (hzs : z.cells.size = 1)
    (A : Option Addr) (n c : Nat) (xs : List Value) (hown : Row w e A n c xs)
    (B : Nat) (A2 : Option Addr) (m c2 : Nat) (news : List Value) (hr : Reads w B 1 A2 m news) (h1 : ∀ u ∈ news, u.oneCell' = true)
    (h63 : n + m ≤ maxLen) (hbytes : (n + m) * bytes ≤ 140737488355328) :
    ∃ A' c' w', (Builtin.append_ #[t, t] ty #[.slice A n c, .slice A2 m c2]).run P w = .ok (.slice A' (n + m) c') w' ∧ Row w' e A' (n + m) c' (xs ++ news) ∧ w.grownBy w' (Value.slice A n c).ownBlock ∧
      (A' = A ∨ A' = some ⟨w.heap.size, 0, none⟩) := by
  have hl : news.length = m := by have := hr.1; omega
  have hx : xs.length = n := hown.1
  have hsmall : n + m ≤ 9223372036854775807 := by simp only [maxLen] at h63; omega
  by_cases hm : m = 0
  · subst hm
    have hn : news = [] := List.eq_nil_of_length_eq_zero hl
    subst hn
    have hnc := hown.2.1
    refine ⟨A, c, w, ?_, by simpa using hown, ⟨rfl, rfl, rfl, Nat.le_refl _, fun _ _ _ => rfl⟩, .inl rfl⟩
    cases A2 <;> simp [Builtin.append_, run_underlying ht, sizeOf, typeInfo, hi, Builtin.lenOf, Builtin.firstCells, hnc, loadCells, loadCellsFrom]
    all_goals
      rcases hown.2.2.2 with ⟨rfl, rfl⟩ | ⟨g, cur, rfl, _, _⟩
      · simp [Sem.run_bind, Sem.run_pure, storeCells]
      · simp [storeCells]
  · obtain ⟨ad, rfl, _, hcells⟩ := hr.2 (by omega)
    have grown : ∀ old : Nat, old < n + m →
        Row (w.drew.alloc (.cells (xs.toArray ++ news.toArray ++ Builtin.zeroCells z.cells (grownCap w (n + m) old e - (n + m))) e)) e (some ⟨w.heap.size, 0, none⟩) (n + m) (grownCap w (n + m) old e) (xs ++ news) := by
      intro old ho
      have hge := grownCap_ge w (n + m) old e
      have hcm := grownCap_le_maxLen w (n + m) old e h63
      refine ⟨by rw [List.length_append, hx, hl], hge, hcm, .inr ⟨w.heap.size, _, rfl, heap_alloc_new w.drew _, ?_, ?_⟩⟩
      · simp only [Array.size_append, List.size_toArray, size_zeroCells, hzs, hx, hl]
        omega
      · simp only [Array.toList_append, List.append_assoc]
        rw [← List.append_assoc]
        rw [show n + m = (xs ++ news).length by rw [List.length_append, hx, hl]]
        exact List.take_left
    have hgr : ∀ old row, w.grownBy (w.drew.alloc (.cells (xs.toArray ++ news.toArray ++ Builtin.zeroCells z.cells (grownCap w (n + m) old e - (n + m))) e)) row :=
      fun old row => ⟨rfl, rfl, rfl, by simp, fun k hk _ => Below.heap_alloc w.drew _ k hk⟩
    rcases hown.2.2.2 with ⟨rfl, rfl⟩ | ⟨g, cur, rfl, hg, hc, htake⟩
    · have hn0 : n = 0 := by have := hown.2.1; omega
      subst hn0
      have hx0 : xs = [] := List.eq_nil_of_length_eq_zero hx
      subst hx0
      have hr2 := run_append_nil (P := P) w t ty e i z ht hi hz ad m c2 news (by rw [hsize, hl]; omega) hcells (by omega) (by omega) (by rw [hby]; have hb := hbytes; simp only [Nat.zero_add] at hb; omega)
      have h1' := grown 0 (by omega)
      have h2' := hgr 0 (Value.ownBlock (.slice none 0 0))
      simp only [Nat.zero_add, List.nil_append, Array.empty_append] at h1' h2' hr2 ⊢
      exact ⟨_, _, _, hr2, h1', h2', .inr rfl⟩
    · by_cases hroom : n + m ≤ c
      · have hr2 := run_append_room (P := P) w t ty e i ht hi g n c cur hg ad m c2 news (by rw [hsize, hl]; omega) hcells h1 hroom (by rw [hsize, hl]; omega)
        refine ⟨_, _, _, hr2, ⟨by rw [List.length_append, hx, hl], hroom, hown.2.2.1, .inr ⟨g, _, rfl, setRow_heap w g cur _ e _ hg, ?_, ?_⟩⟩, ⟨rfl, rfl, rfl, by simp, fun k hk hk2 => setRow_other w g k _ (fun e => hk2 (by simp [Value.ownBlock, e]))⟩, .inl rfl⟩
        · simp only [List.size_toArray, List.length_append, List.length_take, List.length_drop, Array.length_toList]
          omega
        · rw [hsize, Nat.mul_one, htake]
          rw [show n + m = (xs ++ news).length by rw [List.length_append, hx, hl]]
          exact List.take_left
      · have holds : ∀ j u, xs[j]? = some u → w.cell? ((⟨g, 0, none⟩ : Addr).add j) = some u := by
          intro j u hu
          rw [add_none, Nat.zero_add]
          exact hown.cell hu
        have hr2 := run_append_grow (P := P) w t ty e i z ht hi hz ⟨g, 0, none⟩ n c xs (by rw [hsize, hx]; omega) holds ad m c2 news (by rw [hsize, hl]; omega) hcells (by omega) (by omega) (growslice_fits (by omega) (by rw [hby]; exact hbytes))
        exact ⟨_, _, _, hr2, grown c (by omega), hgr c _, .inr rfl⟩
theorem wp_row_append {o : Oper} {a : Act} {K : Act → World → Prop} {Q : Exit → Act → World → Prop} (s x : Operand) (t : TypeId)
    (ho : o.op = .call { callee := .builtin .append, args := #[s, x], argTypes := #[t, t] })
    (e : TypeId) (i : TypeInfo) (z : Value) (bytes : Nat) (ht : P.underlying t = some (.slice e)) (hi : P.info? e = some i) (hz : i.zero = some z)
    (hsize : i.size = 1) (hby : i.bytes = bytes) (hzs : z.cells.size = 1)
    (A : Option Addr) (n c : Nat) (xs : List Value) (hs : a.eval s = .slice A n c) (hown : Row w e A n c xs)
    (B : Nat) (A2 : Option Addr) (m c2 : Nat) (news : List Value) (hx : a.eval x = .slice A2 m c2) (hr : Reads w B 1 A2 m news) (h1 : ∀ u ∈ news, u.oneCell' = true)
    (h63 : n + m ≤ maxLen) (hbytes : (n + m) * bytes ≤ 140737488355328) (N : Nat) (hN : n + m = N)
    (h : ∀ A' c' w', Row w' e A' N c' (xs ++ news) → w.grownBy w' (Value.slice A n c).ownBlock → (A' = A ∨ A' = some ⟨w.heap.size, 0, none⟩) → K (a.put o.dst (.slice A' N c')) w') : o.wp P a w K Q := by
  subst hN
  obtain ⟨A', c', w', hrun, h2, h3, h4⟩ := run_row_append (P := P) w t o.type e i z bytes ht hi hz hsize hby hzs A n c xs hown B A2 m c2 news hr h1 h63 hbytes
  unfold Oper.wp execOp
  simp only [ho, resolve, invoke, builtin, Sem.run_bind, Sem.run_pure, Result.andThen_ok, List.map_toArray, List.map_cons, List.map_nil, hs, hx, hrun]
  exact h A' c' w' h2 h3 h4
theorem wpList_row {ops : Array Oper} {rest : List Oper} {o : Oper} {a : Act} {Q : Exit → Act → World → Prop} (hgd : o.guard = none) (s x : Operand) (t : TypeId)
    (ho : o.op = .call { callee := .builtin .append, args := #[s, x], argTypes := #[t, t] })
    (e : TypeId) (i : TypeInfo) (z : Value) (bytes : Nat) (ht : P.underlying t = some (.slice e)) (hi : P.info? e = some i) (hz : i.zero = some z)
    (hsize : i.size = 1) (hby : i.bytes = bytes) (hzs : z.cells.size = 1)
    (A : Option Addr) (n c : Nat) (xs : List Value) (hs : a.eval s = .slice A n c) (hown : Row w e A n c xs)
    (B : Nat) (A2 : Option Addr) (m c2 : Nat) (news : List Value) (hx : a.eval x = .slice A2 m c2) (hr : Reads w B 1 A2 m news) (h1 : ∀ u ∈ news, u.oneCell' = true)
    (h63 : n + m ≤ maxLen) (hbytes : (n + m) * bytes ≤ 140737488355328) (N : Nat) (hN : n + m = N)
    (h : ∀ A' c' w', Row w' e A' N c' (xs ++ news) → w.grownBy w' (Value.slice A n c).ownBlock → (A' = A ∨ A' = some ⟨w.heap.size, 0, none⟩) → wpList P ops Q rest (a.put o.dst (.slice A' N c')) w') : wpList P ops Q (o :: rest) a w :=
  wpList_plain hgd fun _ hK => wp_row_append w s x t ho e i z bytes ht hi hz hsize hby hzs A n c xs hs hown B A2 m c2 news hx hr h1 h63 hbytes N hN fun A' c' w' h2 h3 h4 => hK _ _ (h A' c' w' h2 h3 h4)
theorem step_row {ops : Array Oper} {o : Oper} {a : Act} {K : Act → World → Prop} {Q : Exit → Act → World → Prop} {E : Prop} (hgd : o.guard = none) (s x : Operand) (t : TypeId)
    (ho : o.op = .call { callee := .builtin .append, args := #[s, x], argTypes := #[t, t] })
    (e : TypeId) (i : TypeInfo) (z : Value) (bytes : Nat) (ht : P.underlying t = some (.slice e)) (hi : P.info? e = some i) (hz : i.zero = some z)
    (hsize : i.size = 1) (hby : i.bytes = bytes) (hzs : z.cells.size = 1)
    (A : Option Addr) (n c : Nat) (xs : List Value) (hs : a.eval s = .slice A n c) (hown : Row w e A n c xs)
    (B : Nat) (A2 : Option Addr) (m c2 : Nat) (news : List Value) (hx : a.eval x = .slice A2 m c2) (hr : Reads w B 1 A2 m news) (h1 : ∀ u ∈ news, u.oneCell' = true)
    (h63 : n + m ≤ maxLen) (hbytes : (n + m) * bytes ≤ 140737488355328) (N : Nat) (hN : n + m = N)
    (h : ∀ A' c' w', Row w' e A' N c' (xs ++ news) → w.grownBy w' (Value.slice A n c).ownBlock → (A' = A ∨ A' = some ⟨w.heap.size, 0, none⟩) → K (a.put o.dst (.slice A' N c')) w') :
    if Region.wanted o (yielded ops a.tmps) = true then Oper.wp P o a w K Q else E := by
  have hw : Region.wanted o (yielded ops a.tmps) = true := by simp [Region.wanted, hgd]
  rw [if_pos hw]
  exact wp_row_append w s x t ho e i z bytes ht hi hz hsize hby hzs A n c xs hs hown B A2 m c2 news hx hr h1 h63 hbytes N hN h
end
end Go.Proofs.Ytidlahljhgglcaa
