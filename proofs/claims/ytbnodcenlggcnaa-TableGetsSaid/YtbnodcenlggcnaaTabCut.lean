/-
  Slices of small structs: reading them as cells, joining parts of them.
-/
import Derived.Test.YtbnodcenlggcnaaTabEx
import Derived.Deep.RegionHeld3
import Derived.Deep.AppendLies
namespace Go.Proofs.Ytbnodcenlggcnaa
open Go.RowKit

section
variable {α : Type} {w : World} {B n : Nat} {A : Option Addr} {cells : α → List Value} {l : List α}
theorem flat_get (h3 : ∀ x, (cells x).length = 3) : ∀ (l : List α) (k j : Nat) (x : α), l[k]? = some x → j < 3 → (l.flatMap cells)[k * 3 + j]? = (cells x)[j]?
  | [], k, j, x, h, _ => by simp at h
  | y :: l, 0, j, x, h, hj => by
    simp at h
    subst h
    rw [List.flatMap_cons, List.getElem?_append_left (by rw [h3]; omega)]
    congr 1
    omega
  | y :: l, k + 1, j, x, h, hj => by
    rw [List.flatMap_cons, List.getElem?_append_right (by rw [h3]; omega), h3, show (k + 1) * 3 + j - 3 = k * 3 + j by omega]
    exact flat_get h3 l k j x (by simpa using h) hj
theorem flat_len (h3 : ∀ x, (cells x).length = 3) : ∀ l : List α, (l.flatMap cells).length = l.length * 3
  | [] => rfl
  | y :: l => by rw [List.flatMap_cons, List.length_append, h3, flat_len h3 l, List.length_cons]; omega
theorem RdS.reads (h : RdS w B 3 A n cells l) (h3 : ∀ x, (cells x).length = 3) : Reads w B 3 A n (l.flatMap cells) := by
  refine ⟨by rw [flat_len h3, h.1], fun hn => ?_⟩
  have hl := h.1
  obtain ⟨ad, e, hb, _⟩ := h.2 0 l[0] (List.getElem?_eq_getElem (by omega))
  refine ⟨ad, e, hb, fun j u hu => ?_⟩
  have hj := (List.getElem?_eq_some_iff.1 hu).1
  rw [flat_len h3] at hj
  have hk : j / 3 < l.length := by omega
  have hx := List.getElem?_eq_getElem hk
  obtain ⟨ad', e', _, hc⟩ := h.2 (j / 3) _ hx
  rw [e] at e'
  injection e' with e'
  subst e'
  have h1 := flat_get h3 l (j / 3) (j % 3) _ hx (by omega)
  rw [show j / 3 * 3 + j % 3 = j by omega, hu] at h1
  have h2 := hc (j % 3) u h1.symm
  rwa [show j / 3 * 3 + j % 3 = j by omega] at h2
theorem Reads.rds (h : Reads w B 3 A n (l.flatMap cells)) (h3 : ∀ x, (cells x).length = 3) : RdS w B 3 A n cells l := by
  have hl : l.length = n := by have := h.1; rw [flat_len h3] at this; omega
  refine ⟨hl, fun k x hx => ?_⟩
  have hk := (List.getElem?_eq_some_iff.1 hx).1
  obtain ⟨ad, e, hb, hc⟩ := h.2 (by omega)
  refine ⟨ad, e, hb, fun j u hu => hc _ u ?_⟩
  rw [flat_get h3 l k j x hx (by have := (List.getElem?_eq_some_iff.1 hu).1; rw [h3] at this; omega), hu]
theorem RdS.front {i : Nat} (h : RdS w B 3 A n cells l) (hi : i ≤ n) : RdS w B 3 A i cells (l.take i) := by
  have hl := h.1
  refine ⟨by rw [List.length_take]; omega, fun k x hx => ?_⟩
  have hk := (List.getElem?_eq_some_iff.1 hx).1
  rw [List.length_take] at hk
  rw [List.getElem?_take, if_pos (by omega)] at hx
  exact h.2 k x hx
theorem RdS.back {ad : Addr} {i : Nat} (h : RdS w B 3 (some ad) n cells l) (hi : i ≤ n) : RdS w B 3 (some (ad.add (i * 3))) (n - i) cells (l.drop i) := by
  have hl := h.1
  refine ⟨by rw [List.length_drop]; omega, fun k x hx => ?_⟩
  rw [List.getElem?_drop] at hx
  obtain ⟨ad', e, hb, hc⟩ := h.2 (i + k) x hx
  injection e with e
  subst e
  refine ⟨_, rfl, by rw [block_add]; exact hb, fun j u hu => ?_⟩
  rw [add_add', show i * 3 + (k * 3 + j) = (i + k) * 3 + j by omega]
  exact hc j u hu
end
section
variable {P : Program} (w : World)
theorem step_append_src {ops : Array Oper} {o : Oper} {a : Act} {K : Act → World → Prop} {Q : Exit → Act → World → Prop} {E : Prop} (hgd : o.guard = none) (s x : Operand) (t : TypeId)
    (ho : o.op = .call { callee := .builtin .append, args := #[s, x], argTypes := #[t, t] })
    (base : Nat) (e : TypeId) (i : TypeInfo) (z : Value) (size bytes : Nat) (ht : P.underlying t = some (.slice e)) (hi : P.info? e = some i) (hz : i.zero = some z)
    (hsize : i.size = size) (hby : i.bytes = bytes) (hzs : z.cells.size = size) (hsz : 0 < size)
    (v : Value) (n : Nat) (xs : List Value) (hs : a.eval s = v) (hown : w.ownsRow base e size v n xs)
    (B : Nat) (A : Option Addr) (m c : Nat) (news : List Value) (hx : a.eval x = .slice A m c) (hr : Reads w B size A m news) (h1 : ∀ u ∈ news, u.oneCell' = true)
    (h63 : n + m ≤ maxLen) (hbytes : (n + m) * bytes ≤ 140737488355328) (hbase : base ≤ w.heap.size) (N : Nat) (hN : n + m = N)
    (h : ∀ A' c' w', w'.ownsRow base e size (.slice A' N c') N (xs ++ news) → w.grownBy w' v.ownBlock → Below base w w' → K (a.put o.dst (.slice A' N c')) w') :
    if Region.wanted o (yielded ops a.tmps) = true then Oper.wp P o a w K Q else E := by
  have hw : Region.wanted o (yielded ops a.tmps) = true := by simp [Region.wanted, hgd]
  rw [if_pos hw]
  subst hN
  exact wp_append_src w s x t ho base e i z size bytes ht hi hz hsize hby hzs hsz v n xs hs hown B A m c news hx hr h1 h63 hbytes hbase fun A' c' w' h2 h3 _ => h A' c' w' h2 h3 (below_own (Below.refl _ _) hown h3 (Nat.le_refl _) hbase)
/-- 'append([]T{}, l...)' at a step of a region that draws. -/
theorem step_copy {ops : Array Oper} {o : Oper} {a : Act} {K : Act → World → Prop} {Q : Exit → Act → World → Prop} {E : Prop} (hgd : o.guard = none) (s x : Operand) (t : TypeId)
    (ho : o.op = .call { callee := .builtin .append, args := #[s, x], argTypes := #[t, t] })
    (e : TypeId) (i : TypeInfo) (z : Value) (size bytes : Nat) (ht : P.underlying t = some (.slice e)) (hi : P.info? e = some i) (hz : i.zero = some z)
    (hsize : i.size = size) (hby : i.bytes = bytes) (hzs : z.cells.size = size) (hsz : 0 < size)
    (hs : a.eval s = .slice (some ⟨w.heap.size, 0, none⟩) 0 0)
    (A : Option Addr) (m c : Nat) (news : List Value) (hx : a.eval x = .slice A m c) (hr : Reads w w.heap.size size A m news) (h1 : ∀ u ∈ news, u.oneCell' = true)
    (h63 : m ≤ maxLen) (hbytes : m * bytes ≤ 140737488355328)
    (h : ∀ A' c' w', w'.ownsRow w.heap.size e size (.slice A' m c') m news → Below w.heap.size w w' → K (a.put o.dst (.slice A' m c')) w') :
    if Region.wanted o (yielded ops a.tmps) = true then Oper.wp P o a (w.alloc (.cells #[] e)) K Q else E := by
  refine step_append_src _ hgd s x t ho w.heap.size e i z size bytes ht hi hz hsize hby hzs hsz _ 0 [] hs (World.ownsRow_made w _ 0 (Nat.le_refl _) (by simp [maxLen]) (by simp)) w.heap.size A m c news hx (hr.alloc (Nat.le_refl _) _) h1 (by omega) (by rw [Nat.zero_add]; exact hbytes) (by simp) _ (Nat.zero_add m) ?_
  intro A' c' w' h1 _ h3
  rw [List.nil_append] at h1
  exact h A' c' w' h1 (((Below.refl _ _).alloc (Nat.le_refl _) _).trans h3)
end
theorem oneCell_chan (l : List ChanS) : ∀ u ∈ l.flatMap chanC, u.oneCell' = true := by
  intro u hu
  obtain ⟨x, _, hx⟩ := List.mem_flatMap.1 hu
  simp only [chanC, List.mem_cons, List.not_mem_nil, or_false] at hx
  rcases hx with rfl | rfl | rfl <;> rfl
theorem oneCell_win (l : List WinS) : ∀ u ∈ l.flatMap winC, u.oneCell' = true := by
  intro u hu
  obtain ⟨x, _, hx⟩ := List.mem_flatMap.1 hu
  simp only [winC, List.mem_cons, List.not_mem_nil, or_false] at hx
  rcases hx with rfl | rfl | rfl <;> rfl
theorem info_chan : (Try.prog.info? 34).map (fun i => (i.zero, i.size, i.bytes)) = some (some (.agg #[.int .i64 0, .int .i64 0, .int .i64 0]), 3, 24) := by kernel_rfl
theorem info_win : (Try.prog.info? 30).map (fun i => (i.zero, i.size, i.bytes)) = some (some (.agg #[.int .i64 0, .int .i64 0, .int .i64 0]), 3, 24) := by kernel_rfl
end Go.Proofs.Ytbnodcenlggcnaa
