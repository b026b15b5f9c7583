/-
  A slice of one's own that need not begin at its block's head: cells by cells. Cutting its first element off, appending one.
-/
import Derived.Test.YthipfopmaegpdaaLinkRow
import Derived.ArgAppend
namespace Go.Proofs.Ythipfopmaegpdaa
open Go.RowKit

def RowC (w : World) (A : Option Addr) (n c : Nat) (xs : List Value) : Prop :=
  xs.length = n ∧ n ≤ c ∧ c ≤ maxLen ∧ (∀ b, Foot A b → b < w.heap.size) ∧
  (0 < c → ∃ g o, A = some ⟨g, o, none⟩ ∧ (∀ j u, xs[j]? = some u → w.cell? ⟨g, o + j, none⟩ = some u) ∧ ∀ j, j < c → (w.cell? ⟨g, o + j, none⟩).isSome = true ∧ w.frozen? ⟨g, o + j, none⟩ = false)
section
variable {w w' : World} {A : Option Addr} {n c : Nat} {xs : List Value}
theorem RowC.nil (w : World) : RowC w none 0 0 [] := ⟨rfl, Nat.le_refl _, by simp [maxLen], (fun b h => by obtain ⟨a, ha, _⟩ := h; cases ha), fun h => absurd h (by omega)⟩
theorem RowC.lt (h : RowC w A n c xs) {b : Nat} (hb : Foot A b) : b < w.heap.size := h.2.2.2.1 b hb
theorem RowC.keep (h : RowC w A n c xs) (hs : w.heap.size ≤ w'.heap.size) (hk : ∀ b, Foot A b → w'.heap[b]? = w.heap[b]?) : RowC w' A n c xs := by
  refine ⟨h.1, h.2.1, h.2.2.1, fun b hb => Nat.lt_of_lt_of_le (h.lt hb) hs, fun hc => ?_⟩
  obtain ⟨g, o, rfl, h1, h2⟩ := h.2.2.2.2 hc
  have hg : w'.heap[g]? = w.heap[g]? := hk g ⟨_, rfl, rfl⟩
  exact ⟨g, o, rfl, fun j u hu => (World.cell?_of_block (a := ⟨g, o + j, none⟩) hg).trans (h1 j u hu), fun j hj => ⟨by rw [World.cell?_of_block (a := ⟨g, o + j, none⟩) hg]; exact (h2 j hj).1, (World.frozen?_of_block (a := ⟨g, o + j, none⟩) hg).trans (h2 j hj).2⟩⟩
theorem RowC.apart {F : Nat → Prop} (h : RowC w A n c xs) (hb : Apart F w w') (hF : ∀ b, Foot A b → ¬ F b) : RowC w' A n c xs := h.keep hb.size fun b hf => hb.block b (h.lt hf) (hF b hf)
theorem RowC.belowS (h : RowC w A n c xs) (hb : Below w.heap.size w w') : RowC w' A n c xs := h.keep hb.size fun b hf => hb.block b (h.lt hf)
theorem RowC.reads (h : RowC w A n c xs) : Reads w w.heap.size 1 A n xs := by
  refine ⟨by rw [h.1]; omega, fun hn => ?_⟩
  obtain ⟨g, o, rfl, h1, _⟩ := h.2.2.2.2 (by have := h.2.1; omega)
  exact ⟨_, rfl, h.lt ⟨_, rfl, rfl⟩, fun j u hu => by rw [Addr.add_lit]; exact h1 j u hu⟩
/-- All but the first. -/
theorem RowC.tail {x : Value} (h : RowC w A (n + 1) c (x :: xs)) : RowC w (if c = 1 then A else A.map fun a => a.add 1) n (c - 1) xs := by
  have h1 := h.1
  have h2 := h.2.1
  have h3 := h.2.2.1
  obtain ⟨g, o, rfl, h4, h5⟩ := h.2.2.2.2 (by omega)
  refine ⟨by simpa using h1, by omega, by omega, fun b hb => ?_, fun hc => ?_⟩
  · by_cases he : c = 1
    · rw [if_pos he] at hb; exact h.lt hb
    · rw [if_neg he] at hb
      obtain ⟨a, ha, rfl⟩ := hb
      injection ha with ha
      subst ha
      rw [block_add]
      exact h.lt ⟨_, rfl, rfl⟩
  · rw [if_neg (by omega)]
    refine ⟨g, o + 1, by rw [Option.map_some, Addr.add_lit], fun j u hu => ?_, fun j hj => ?_⟩
    · rw [show o + 1 + j = o + (j + 1) by omega]; exact h4 (j + 1) u (by simpa using hu)
    · rw [show o + 1 + j = o + (j + 1) by omega]; exact h5 (j + 1) (by omega)
theorem RowC.of_own {base : Nat} {e : TypeId} (h : w.ownsRow base e 1 (.slice A n c) n xs) : RowC w A n c xs := by
  have hcap := own_cap h
  refine ⟨by simpa using h.1, hcap.1, hcap.2, fun b hb => ?_, fun hc => ?_⟩
  · obtain ⟨a, rfl, rfl⟩ := hb
    exact (h.lt _ rfl).2
  · rcases h.2 with ⟨hv, _⟩ | ⟨g, cap, cur, hv, _, hg, hnc, _, hcs, htk⟩
    · injection hv with _ _ hv
      omega
    · injection hv with hv1 _ hv3
      subst hv3
      refine ⟨g, 0, hv1, fun j u hu => ?_, fun j hj => ?_⟩
      · rw [Nat.zero_add, cell_of_row w g _ cur e (0, 0) hg]
        rw [← htk, List.getElem?_take] at hu
        split at hu
        · simpa using hu
        · cases hu
      · rw [Nat.zero_add, cell_of_row w g _ cur e (0, 0) hg]
        refine ⟨?_, frozen_of_row w g j cur e hg⟩
        rw [Array.getElem?_eq_getElem (by omega)]
        rfl
end
section
variable {P : Program} (w : World)
theorem run_rowC_append (t ty e : TypeId) (i : TypeInfo) (z : Value) (bytes : Nat) (ht : P.underlying t = some (.slice e)) (hi : P.info? e = some i) (hz : i.zero = some z)
    (hsize : i.size = 1) (hby : i.bytes = bytes) (hzs : z.cells.size = 1)
    (A : Option Addr) (n c : Nat) (xs : List Value) (hr : RowC w A n c xs) (g2 c2 : Nat) (v : Value) (hv : w.cell? ⟨g2, 0, none⟩ = some v) (h1 : v.oneCell' = true)
    (h63 : n + 1 ≤ maxLen) (hbytes : (n + 1) * bytes ≤ 140737488355328) :
    ∃ A' c' w', (Builtin.append_ #[t, t] ty #[.slice A n c, .slice (some ⟨g2, 0, none⟩) 1 c2]).run P w = .ok (.slice A' (n + 1) c') w' ∧ RowC w' A' (n + 1) c' (xs ++ [v]) ∧ Apart (Foot A) w w' ∧ ∀ b, Foot A' b → Foot A b ∨ w.heap.size ≤ b := by
  have hx := hr.1
  have hnews : ∀ j u, [v][j]? = some u → w.cell? ((⟨g2, 0, none⟩ : Addr).add j) = some u := fun j u hu => by
    cases j with
    | zero => simp at hu; subst hu; rw [Addr.add_lit]; exact hv
    | succ j => simp at hu
  have hone : ∀ u ∈ [v], u.oneCell' = true := fun u hu => by rw [List.mem_singleton.1 hu]; exact h1
  by_cases hroom : n + 1 ≤ c
  · obtain ⟨g, o, rfl, h4, h5⟩ := hr.2.2.2.2 (by omega)
    have h5n := h5 n (by omega)
    have hrun := run_append_room_cells (P := P) w t ty e i ht hi g o n c ⟨g2, 0, none⟩ 1 c2 [v] (by rw [hsize]; rfl) hnews hone hroom (fun j hj => by
      simp at hj; subst hj
      rw [hsize, Nat.mul_one, Nat.add_zero]
      exact h5n.1) (fun j hj => by
      simp at hj; subst hj
      rw [hsize, Nat.mul_one, Nat.add_zero]
      exact h5n.2)
    rw [hsize, Nat.mul_one] at hrun
    refine ⟨_, _, _, hrun, ⟨by rw [List.length_append, hx]; rfl, hroom, hr.2.2.1, fun b hb => ?_, fun hc => ⟨g, o, rfl, fun j u hu => ?_, fun j hj => ⟨?_, ?_⟩⟩⟩, ?_, fun b hb => .inl hb⟩
    · have := hr.lt hb
      simpa [World.setCells, World.setCell] using this
    · by_cases hjn : j < n
      · rw [World.cell?_setCells_out g [v] (o + n) w _ (fun _ _ => .inl (by show o + j < o + n; omega))]
        exact h4 j u (by rwa [List.getElem?_append_left (by omega)] at hu)
      · have hj : j = n := by
          have := (List.getElem?_eq_some_iff.1 hu).1
          simp at this
          omega
        subst hj
        have e1 := World.cell?_setCells_in g [v] (o + j) w (fun i hi => by simp at hi; subst hi; exact h5n.1) 0 (by simp)
        rw [List.getElem?_append_right (by omega)] at hu
        rw [Nat.add_zero] at e1
        rw [e1, ← hu, hx]
        simp
    · by_cases hjn : j = n
      · subst hjn
        have e1 := World.cell?_setCells_in g [v] (o + j) w (fun i hi => by simp at hi; subst hi; exact h5n.1) 0 (by simp)
        rw [Nat.add_zero] at e1
        rw [e1]
        rfl
      · rw [World.cell?_setCells_out g [v] (o + n) w _ (fun _ _ => by
          show o + j < o + n ∨ o + n + 1 ≤ o + j
          omega)]
        exact (h5 j hj).1
    · rw [World.frozen?_setCells]
      exact (h5 j hj).2
    · exact (Apart.refl _ w).setCell (p := ⟨g, o + n, none⟩) (.inl ⟨_, rfl, rfl⟩) v
  · have hnc : n = c := by have := hr.2.1; omega
    have fin : ∀ v' w', w'.ownsRow w.heap.size e 1 v' (n + 1) (xs ++ [v]) → w.grownBy w' none → ∃ A' c', v' = .slice A' (n + 1) c' ∧ RowC w' A' (n + 1) c' (xs ++ [v]) ∧ Apart (Foot A) w w' ∧ ∀ b, Foot A' b → Foot A b ∨ w.heap.size ≤ b := by
      intro v' w' hown hg
      obtain ⟨A', c', rfl⟩ := own_form hown
      refine ⟨A', c', rfl, RowC.of_own hown, (Apart.refl _ w).grown hg (fun k hk => by cases hk), fun b hb => ?_⟩
      obtain ⟨a, rfl, rfl⟩ := hb
      exact .inr (hown.lt _ rfl).1
    cases A with
    | none =>
      have hc0 : c = 0 := by
        rcases Nat.eq_zero_or_pos c with h0 | h0
        · exact h0
        · obtain ⟨g, o, e, _⟩ := hr.2.2.2.2 h0
          cases e
      subst hc0
      subst hnc
      have hx0 : xs = [] := List.eq_nil_of_length_eq_zero hx
      subst hx0
      obtain ⟨v', w', hrun, hown, hg⟩ := run_append_own (P := P) w w.heap.size t ty e i z 1 bytes ht hi hz hsize hby hzs (by omega) (.slice none 0 0) 0 [] (World.ownsRow_nil _ _ _ _) ⟨g2, 0, none⟩ 1 c2 [v] rfl hnews hone h63 hbytes (Nat.le_refl _)
      obtain ⟨A', c', rfl, h⟩ := fin v' w' hown hg.1
      exact ⟨A', c', w', hrun, h⟩
    | some a =>
      obtain ⟨v', w', hrun, hown, hg⟩ := run_append_arg_grows (P := P) w t ty e i z 1 bytes ht hi hz hsize hby hzs (by omega) a n c xs (by rw [hx]; omega) (fun j u hu => by
        have hj := (List.getElem?_eq_some_iff.1 hu).1
        obtain ⟨g, o, e, h4, _⟩ := hr.2.2.2.2 (by omega)
        injection e with e
        subst e
        rw [Addr.add_lit]
        exact h4 j u hu) ⟨g2, 0, none⟩ 1 c2 [v] rfl hnews (by omega) h63 hbytes
      obtain ⟨A', c', rfl, h⟩ := fin v' w' hown hg
      exact ⟨A', c', w', hrun, h⟩
theorem wpList_rowC {ops : Array Oper} {rest : List Oper} {o : Oper} {a : Act} {Q : Exit → Act → World → Prop} (hgd : o.guard = none) (s x : Operand) (t : TypeId)
    (ho : o.op = .call { callee := .builtin .append, args := #[s, x], argTypes := #[t, t] })
    (e : TypeId) (i : TypeInfo) (z : Value) (bytes : Nat) (ht : P.underlying t = some (.slice e)) (hi : P.info? e = some i) (hz : i.zero = some z)
    (hsize : i.size = 1) (hby : i.bytes = bytes) (hzs : z.cells.size = 1)
    (A : Option Addr) (n c : Nat) (xs : List Value) (hs : a.eval s = .slice A n c) (hr : RowC w A n c xs)
    (g2 c2 : Nat) (v : Value) (hx : a.eval x = .slice (some ⟨g2, 0, none⟩) 1 c2) (hv : w.cell? ⟨g2, 0, none⟩ = some v) (h1 : v.oneCell' = true)
    (h63 : n + 1 ≤ maxLen) (hbytes : (n + 1) * bytes ≤ 140737488355328)
    (h : ∀ A' c' w', RowC w' A' (n + 1) c' (xs ++ [v]) → Apart (Foot A) w w' → (∀ b, Foot A' b → Foot A b ∨ w.heap.size ≤ b) → wpList P ops Q rest (a.put o.dst (.slice A' (n + 1) c')) w') : wpList P ops Q (o :: rest) a w :=
  wpList_plain hgd fun _ hK => by
    obtain ⟨A', c', w', hrun, h2, h3, h4⟩ := run_rowC_append (P := P) w t o.type e i z bytes ht hi hz hsize hby hzs A n c xs hr g2 c2 v hv h1 h63 hbytes
    unfold Oper.wp execOp
    simp only [ho, resolve, invoke, builtin, Sem.run_bind, Sem.run_pure, Result.andThen_ok, List.map_toArray, List.map_cons, List.map_nil, hs, hx, hrun]
    exact hK _ _ (h A' c' w' h2 h3 h4)
end
end Go.Proofs.Ythipfopmaegpdaa
