/-
  port.New under way: so many channels made, each with nothing, each apart from all else.
-/
import Derived.Test.YtidlahljhgglcaaPortWays
namespace Go.Proofs.Ytidlahljhgglcaa
open Go.RowKit Go.ChangeShapes Go.WideShapes Go.ChangeAt

/-- A channel of such a depth that has nothing. -/
def zeroS (d : Int) : WayS := if 0 < d then .row [] d.toNat else .last 0 false
def depthAt (cs : List ChanS) (j : Nat) : Int := (cs.getD j ⟨0, 0, 0⟩).depth
def zeroW (cs : List ChanS) (j : Nat) : WayS := zeroS (depthAt cs j)
theorem depthAt_get {cs : List ChanS} {j : Nat} {x : ChanS} (h : cs[j]? = some x) : depthAt cs j = x.depth := by unfold depthAt; rw [List.getD_eq_getElem?_getD, h]; rfl
def P0 (gs : Nat → Nat) (j : Nat) : WayP := ⟨gs j, none, 0⟩
structure NewIn (w : World) (g B : Nat) (cs : List ChanS) (k : Nat) (adE : Option Addr) (cE : Nat) (adW : Option Addr) (cW : Nat) (gs : Nat → Nat) : Prop where
  blk : Blk w g 97 [.slice adE cs.length cE, .slice adW k cW]
  ends : RdS w w.heap.size 3 adE cs.length chanC cs
  row : Row w 102 adW k cW ((List.range k).map fun j => wayIV (P0 gs j) (zeroW cs j))
  ways : ∀ j, j < k → WayIn w (P0 gs j) (zeroW cs j)
  ap : ∀ i j, i < k → j < k → i ≠ j → gs i ≠ gs j
  off : ∀ j, j < k → ¬ SetF0 g adE adW (gs j)
  lo : (∀ j, j < k → B ≤ gs j) ∧ ∀ b, SetF0 g adE adW b → B ≤ b
  fl : ∀ b, SetF0 g adE adW b → b < w.heap.size
  ne1 : ¬ Foot adE g
  ne2 : ¬ Foot adW g
  ne3 : ∀ b, Foot adE b → ¬ Foot adW b
theorem P0_foot (gs : Nat → Nat) (j b : Nat) : WayF (P0 gs j) b ↔ b = gs j := by
  constructor
  · rintro (h | ⟨a, h, _⟩)
    · exact h
    · cases h
  · exact .inl
section
variable {w w' : World} {g B : Nat} {cs : List ChanS} {k : Nat} {adE : Option Addr} {cE : Nat} {adW : Option Addr} {cW : Nat} {gs : Nat → Nat}
theorem NewIn.step (h : NewIn w g B cs k adE cE adW cW gs) (hB : B ≤ w.heap.size) {A' : Option Addr} {c' gk : Nat} (ha : Apart (fun b => b = g ∨ Foot adW b) w w')
    (hblk : Blk w' g 97 [.slice adE cs.length cE, .slice A' (k + 1) c'])
    (hrow : Row w' 102 A' (k + 1) c' (((List.range k).map fun j => wayIV (P0 gs j) (zeroW cs j)) ++ [wayIV ⟨gk, none, 0⟩ (zeroW cs k)]))
    (hA : ∀ b, Foot A' b → Foot adW b ∨ (w.heap.size ≤ b ∧ b ≠ gk)) (hw : WayIn w' ⟨gk, none, 0⟩ (zeroW cs k)) (hk : w.heap.size ≤ gk) (hg : g < w.heap.size) :
    NewIn w' g B cs (k + 1) adE cE A' c' (setS gs k gk) := by
  have hE : ∀ b, Foot adE b → b < w.heap.size := fun b hb => h.fl b (.inr (.inl hb))
  have hEo : ∀ b, Foot adE b → ¬ (b = g ∨ Foot adW b) := fun b hb hor => by
    rcases hor with rfl | h1
    · exact h.ne1 hb
    · exact h.ne3 b hb h1
  have hEA : ∀ b, Foot adE b → ¬ Foot A' b := fun b hb hb2 => by
    rcases hA b hb2 with h1 | ⟨h1, _⟩
    · exact h.ne3 b hb h1
    · have := hE b hb; omega
  have hlt : ∀ j, j < k → gs j < w.heap.size := fun j hj => (h.ways j hj).lt (.inl rfl)
  have hold : ∀ j, j < k → setS gs k gk j = gs j := fun j hj => setS_other _ _ _ _ (by omega)
  refine ⟨hblk, ⟨h.ends.1, fun j x hx => ?_⟩, ?_, fun j hj => ?_, fun i j hi hj hij => ?_, fun j hj => ?_, ⟨fun j hj => ?_, fun b hb => ?_⟩, fun b hb => ?_, h.ne1, fun hf => ?_, hEA⟩
  · obtain ⟨ad, e, hb, hc⟩ := h.ends.2 j x hx
    refine ⟨ad, e, Nat.lt_of_lt_of_le hb ha.size, fun i u hu => (cell_keep ?_).trans (hc i u hu)⟩
    rw [block_add]
    exact ha.block _ hb (hEo _ ⟨ad, e, rfl⟩)
  · have e : ((List.range (k + 1)).map fun j => wayIV (P0 (setS gs k gk) j) (zeroW cs j)) = ((List.range k).map fun j => wayIV (P0 gs j) (zeroW cs j)) ++ [wayIV ⟨gk, none, 0⟩ (zeroW cs k)] := by
      rw [List.range_succ, List.map_append]
      congr 1
      · apply List.map_congr_left
        intro j hj
        unfold P0
        rw [hold j (List.mem_range.1 hj)]
      · simp [P0, setS_same]
    rw [e]
    exact hrow
  · by_cases hjk : j = k
    · subst hjk
      unfold P0
      rw [setS_same]
      exact hw
    · have hj2 : j < k := by omega
      unfold P0
      rw [hold j hj2]
      refine (h.ways j hj2).keep fun b hb => ha.block b ((h.ways j hj2).lt hb) fun hor => ?_
      rw [(P0_foot gs j b).1 hb] at hor
      exact h.off j hj2 (hor.elim .inl fun h1 => .inr (.inr h1))
  · by_cases hik : i = k
    · subst hik
      rw [setS_same, hold j (by omega)]
      have := hlt j (by omega)
      omega
    · rw [hold i (by omega)]
      by_cases hjk : j = k
      · subst hjk
        rw [setS_same]
        have := hlt i (by omega)
        omega
      · rw [hold j (by omega)]
        exact h.ap i j (by omega) (by omega) hij
  · by_cases hjk : j = k
    · subst hjk
      rw [setS_same]
      rintro (h1 | h1 | h1)
      · omega
      · have := hE _ h1; omega
      · rcases hA _ h1 with h2 | ⟨_, h2⟩
        · have := h.fl _ (.inr (.inr h2)); omega
        · exact h2 rfl
    · rw [hold j (by omega)]
      have hj2 : j < k := by omega
      rintro (h1 | h1 | h1)
      · exact h.off j hj2 (.inl h1)
      · exact h.off j hj2 (.inr (.inl h1))
      · rcases hA _ h1 with h2 | ⟨h2, _⟩
        · exact h.off j hj2 (.inr (.inr h2))
        · have := hlt j hj2; omega
  · by_cases hjk : j = k
    · subst hjk; rw [setS_same]; omega
    · rw [hold j (by omega)]; exact h.lo.1 j (by omega)
  · rcases hb with hb | hb | hb
    · exact h.lo.2 b (.inl hb)
    · exact h.lo.2 b (.inr (.inl hb))
    · rcases hA b hb with h2 | ⟨h2, _⟩
      · exact h.lo.2 b (.inr (.inr h2))
      · omega
  · rcases hb with hb | hb | hb
    · subst hb; exact hblk.lt
    · exact Nat.lt_of_lt_of_le (hE b hb) ha.size
    · exact hrow.lt hb
  · rcases hA g hf with h1 | ⟨h1, _⟩
    · exact h.ne2 h1
    · omega
theorem NewIn.done (h : NewIn w g B cs cs.length adE cE adW cW gs) : ∃ F, SetAt w F g cs (zeroW cs) ∧ ∀ b, F b → B ≤ b := by
  refine ⟨SetF cs.length g adE adW (P0 gs), ⟨adE, cE, adW, cW, P0 gs, ⟨h.blk, h.ends, fun k hk => ?_, h.ways, fun i j hi hj hij b h1 h2 => ?_, fun k hk b hb hb0 => ?_, h.fl⟩, fun b => Iff.rfl⟩, fun b hb => ?_⟩
  · obtain ⟨ad, e, hb, hc⟩ := h.row.reads.2 (by omega)
    refine ⟨ad, e, hb, hc k _ ?_⟩
    rw [List.getElem?_map, List.getElem?_range hk]
    rfl
  · rw [P0_foot] at h1 h2
    exact h.ap i j hi hj hij (h1.symm.trans h2)
  · rw [P0_foot] at hb
    subst hb
    exact h.off k hk hb0
  · rcases hb with hb | ⟨k, hk, hb⟩
    · exact h.lo.2 b hb
    · rw [P0_foot] at hb
      subst hb
      exact h.lo.1 k hk
end
end Go.Proofs.Ytidlahljhgglcaa
