/-
  The reference of layer 16: its set in memory; what an act leaves.
-/
import Derived.Test.YtidlahljhgglcaaGreatPortAny
namespace Go.Proofs.YtidlahljhgglcaaGreat
open Go.RowKit Go.ChangeShapes Go.WideShapes Go.ChangeAt

def rowCs (n : Nat) (ra : Nat → Option Addr) (rc : Nat → Nat) (ls : Nat → List Int) : List Value := (List.range n).map fun k => .slice (ra k) (ls k).length (rc k)
theorem rowCs_get {n : Nat} {ra : Nat → Option Addr} {rc : Nat → Nat} {ls : Nat → List Int} {k : Nat} (hk : k < n) : (rowCs n ra rc ls)[k]? = some (.slice (ra k) (ls k).length (rc k)) := by
  unfold rowCs
  rw [List.getElem?_map, List.getElem?_range hk]
  rfl
theorem rowCs_set {n : Nat} {ra : Nat → Option Addr} {rc : Nat → Nat} {ls : Nat → List Int} {k : Nat} (A' : Option Addr) (c' : Nat) (l' : List Int) : (rowCs n ra rc ls).set k (.slice A' l'.length c') = rowCs n (setS ra k A') (setS rc k c') (setS ls k l') := by
  apply List.ext_getElem?
  intro j
  rw [List.getElem?_set]
  by_cases hj : j < n
  · rw [rowCs_get hj, rowCs_get hj]
    by_cases hjk : k = j
    · subst hjk
      rw [if_pos rfl, if_pos (by unfold rowCs; simpa using hj), setS_same, setS_same, setS_same]
    · rw [if_neg hjk, setS_other _ _ _ _ (fun e => hjk e.symm), setS_other _ _ _ _ (fun e => hjk e.symm), setS_other _ _ _ _ (fun e => hjk e.symm)]
  · have e1 : ∀ (a : Nat → Option Addr) (b : Nat → Nat) (c : Nat → List Int), (rowCs n a b c)[j]? = none := fun a b c => by
      rw [List.getElem?_eq_none_iff]
      unfold rowCs
      simp
      omega
    rw [e1, e1]
    by_cases hjk : k = j
    · rw [if_pos hjk, if_neg (by unfold rowCs; simp; omega)]
    · rw [if_neg hjk]
structure RefIn (w : World) (gR : Nat) (cs : List ChanS) (AC : Option Addr) (cC gL : Nat) (ra : Nat → Option Addr) (rc : Nat → Nat) (ls : Nat → List Int) : Prop where
  blk : Blk w gR 100 [.slice AC cs.length cC, .slice (some ⟨gL, 0, none⟩) cs.length cs.length]
  ends : RdS w w.heap.size 3 AC cs.length chanC cs
  row : Blk w gL 51 (rowCs cs.length ra rc ls)
  rds : ∀ k, k < cs.length → Reads w w.heap.size 1 (ra k) (ls k).length ((ls k).map iV) ∧ (ls k).length ≤ rc k ∧ rc k ≤ maxLen
  n1 : gL ≠ gR
  n2 : ¬ Foot AC gL
  n3 : ∀ k, k < cs.length → ¬ Foot (ra k) gL
  fl : ∀ k, k < cs.length → ∀ b, Foot (ra k) b → b < w.heap.size
  fc : ∀ b, Foot AC b → b < w.heap.size
def RefF (n gR gL : Nat) (AC : Option Addr) (ra : Nat → Option Addr) (b : Nat) : Prop := b = gR ∨ b = gL ∨ Foot AC b ∨ ∃ k, k < n ∧ Foot (ra k) b
def RefAt (w : World) (F : Nat → Prop) (gR : Nat) (cs : List ChanS) (ls : Nat → List Int) : Prop := ∃ AC cC gL ra rc, RefIn w gR cs AC cC gL ra rc ls ∧ ∀ b, F b ↔ RefF cs.length gR gL AC ra b
section
variable {w w' : World} {F : Nat → Prop} {gR : Nat} {cs : List ChanS} {AC : Option Addr} {cC gL : Nat} {ra : Nat → Option Addr} {rc : Nat → Nat} {ls : Nat → List Int}
theorem RefIn.lt (h : RefIn w gR cs AC cC gL ra rc ls) {b : Nat} (hb : RefF cs.length gR gL AC ra b) : b < w.heap.size := by
  rcases hb with rfl | rfl | hb | ⟨k, hk, hb⟩
  · exact h.blk.lt
  · exact h.row.lt
  · exact h.fc b hb
  · exact h.fl k hk b hb
theorem Reads.keepF {A : Option Addr} {n size : Nat} {xs : List Value} (h : Reads w w.heap.size size A n xs) (hs : w.heap.size ≤ w'.heap.size) (hk : ∀ b, Foot A b → w'.heap[b]? = w.heap[b]?) : Reads w' w'.heap.size size A n xs := by
  refine ⟨h.1, fun hn => ?_⟩
  obtain ⟨ad, rfl, hb, hc⟩ := h.2 hn
  refine ⟨ad, rfl, Nat.lt_of_lt_of_le hb hs, fun j u hu => (cell_keep ?_).trans (hc j u hu)⟩
  rw [block_add]
  exact hk _ ⟨_, rfl, rfl⟩
theorem RdS.keepF {α : Type} {A : Option Addr} {n size : Nat} {cells : α → List Value} {xs : List α} (h : RdS w w.heap.size size A n cells xs) (hs : w.heap.size ≤ w'.heap.size) (hk : ∀ b, Foot A b → w'.heap[b]? = w.heap[b]?) : RdS w' w'.heap.size size A n cells xs := by
  refine ⟨h.1, fun k x hx => ?_⟩
  obtain ⟨ad, rfl, hb, hc⟩ := h.2 k x hx
  refine ⟨ad, rfl, Nat.lt_of_lt_of_le hb hs, fun j u hu => (cell_keep ?_).trans (hc j u hu)⟩
  rw [block_add]
  exact hk _ ⟨_, rfl, rfl⟩
theorem RefIn.keep (h : RefIn w gR cs AC cC gL ra rc ls) (hs : w.heap.size ≤ w'.heap.size) (hk : ∀ b, RefF cs.length gR gL AC ra b → w'.heap[b]? = w.heap[b]?) : RefIn w' gR cs AC cC gL ra rc ls :=
  ⟨(hk gR (.inl rfl)).trans h.blk, h.ends.keepF hs (fun b hb => hk b (.inr (.inr (.inl hb)))), (hk gL (.inr (.inl rfl))).trans h.row,
    fun k hkn => ⟨(h.rds k hkn).1.keepF hs (fun b hb => hk b (.inr (.inr (.inr ⟨k, hkn, hb⟩)))), (h.rds k hkn).2⟩, h.n1, h.n2, h.n3, fun k hkn b hb => Nat.lt_of_lt_of_le (h.fl k hkn b hb) hs, fun b hb => Nat.lt_of_lt_of_le (h.fc b hb) hs⟩
/-- Another list for one channel. -/
theorem RefIn.step (h : RefIn w gR cs AC cC gL ra rc ls) {k : Nat} (hk : k < cs.length) {A' : Option Addr} {c' : Nat} {l' : List Int} (ha : Apart (fun b => b = gL) w w') (hrow : Blk w' gL 51 ((rowCs cs.length ra rc ls).set k (.slice A' l'.length c')))
    (hr : Reads w' w'.heap.size 1 A' l'.length (l'.map iV)) (hc : l'.length ≤ c' ∧ c' ≤ maxLen) (hA : ∀ b, Foot A' b → b ≠ gL ∧ b < w'.heap.size) : RefIn w' gR cs AC cC gL (setS ra k A') (setS rc k c') (setS ls k l') := by
  have hb : ∀ b, b < w.heap.size → b ≠ gL → w'.heap[b]? = w.heap[b]? := fun b h1 h2 => ha.block b h1 h2
  refine ⟨(hb gR h.blk.lt h.n1.symm).trans h.blk, h.ends.keepF ha.size (fun b hf => hb b (h.fc b hf) (fun e => h.n2 (e ▸ hf))), by rw [← rowCs_set]; exact hrow, fun j hj => ?_, h.n1, h.n2, fun j hj hf => ?_, fun j hj b hf => ?_, fun b hf => Nat.lt_of_lt_of_le (h.fc b hf) ha.size⟩
  · by_cases hjk : j = k
    · subst hjk
      rw [setS_same, setS_same, setS_same]
      exact ⟨hr, hc⟩
    · rw [setS_other _ _ _ _ hjk, setS_other _ _ _ _ hjk, setS_other _ _ _ _ hjk]
      exact ⟨(h.rds j hj).1.keepF ha.size (fun b hf => hb b (h.fl j hj b hf) (fun e => h.n3 j hj (e ▸ hf))), (h.rds j hj).2⟩
  · by_cases hjk : j = k
    · subst hjk
      rw [setS_same] at hf
      exact (hA gL hf).1 rfl
    · rw [setS_other _ _ _ _ hjk] at hf
      exact h.n3 j hj hf
  · by_cases hjk : j = k
    · subst hjk
      rw [setS_same] at hf
      exact (hA b hf).2
    · rw [setS_other _ _ _ _ hjk] at hf
      exact Nat.lt_of_lt_of_le (h.fl j hj b hf) ha.size
theorem RefIn.goes (h : RefIn w gR cs AC cC gL ra rc ls) {k : Nat} (hk : k < cs.length) {A' : Option Addr} (ha : Apart (fun b => b = gL) w w') (hf : ∀ b, Foot A' b → Foot (ra k) b ∨ w.heap.size ≤ b) :
    Goes (RefF cs.length gR gL AC ra) w (RefF cs.length gR gL AC (setS ra k A')) w' := by
  refine ⟨⟨ha.os, ha.tape, ha.output, ha.size, fun b hb hF => ha.block b hb (fun e => hF (.inr (.inl e)))⟩, fun b hb => ?_⟩
  rcases hb with hb | hb | hb | ⟨j, hj, hb⟩
  · exact .inl (.inl hb)
  · exact .inl (.inr (.inl hb))
  · exact .inl (.inr (.inr (.inl hb)))
  · by_cases hjk : j = k
    · subst hjk
      rw [setS_same] at hb
      exact (hf b hb).imp_left fun h1 => .inr (.inr (.inr ⟨j, hj, h1⟩))
    · rw [setS_other _ _ _ _ hjk] at hb
      exact .inl (.inr (.inr (.inr ⟨j, hj, hb⟩)))
theorem RefAt.lt (h : RefAt w F gR cs ls) {b : Nat} (hb : F b) : b < w.heap.size := by
  obtain ⟨AC, cC, gL, ra, rc, h1, h2⟩ := h
  exact h1.lt ((h2 b).1 hb)
theorem RefAt.keep (h : RefAt w F gR cs ls) (hs : w.heap.size ≤ w'.heap.size) (hk : ∀ b, F b → w'.heap[b]? = w.heap[b]?) : RefAt w' F gR cs ls := by
  obtain ⟨AC, cC, gL, ra, rc, h1, h2⟩ := h
  exact ⟨AC, cC, gL, ra, rc, h1.keep hs fun b hb => hk b ((h2 b).2 hb), h2⟩
theorem RefAt.belowS (h : RefAt w F gR cs ls) (hb : Below w.heap.size w w') : RefAt w' F gR cs ls := h.keep hb.size fun b hf => hb.block b (h.lt hf)
theorem RefAt.apart {G : Nat → Prop} (h : RefAt w F gR cs ls) (hb : Apart G w w') (hG : ∀ b, F b → ¬ G b) : RefAt w' F gR cs ls := h.keep hb.size fun b hf => hb.block b (h.lt hf) (hG b hf)
theorem RefIn.at_ (h : RefIn w gR cs AC cC gL ra rc ls) : RefAt w (RefF cs.length gR gL AC ra) gR cs ls := ⟨AC, cC, gL, ra, rc, h, fun _ => Iff.rfl⟩
end
/-- What an act on the reference's set leaves. -/
def RPost (F : Nat → Prop) (w : World) (gR : Nat) (cs : List ChanS) (e0 : Ending) (ls' : Nat → List Int) (e : Ending) (w' : World) : Prop := ∃ F', e = e0 ∧ RefAt w' F' gR cs ls' ∧ Goes F w F' w'
def toldV (n : Int) (is : Bool) (e : Int) : Value := .agg #[.int .i64 n, .bool is, .int .i64 e]
theorem RefAt.rcells {w : World} {F : Nat → Prop} {gR : Nat} {cs : List ChanS} {ls : Nat → List Int} {k : Nat} {x : ChanS} (h : RefAt w F gR cs ls) (hx : cs[k]? = some x) :
    ∃ ad cC gL A c, w.cell? ⟨gR, 0, none⟩ = some (.slice (some ad) cs.length cC) ∧ w.cell? ⟨gR, 1, none⟩ = some (.slice (some ⟨gL, 0, none⟩) cs.length cs.length) ∧
      w.cell? (ad.add (k * 3)) = some (.int .i64 x.src) ∧ w.cell? ⟨(ad.add (k * 3)).block, (ad.add (k * 3)).off + 1, none⟩ = some (.int .i64 x.dst) ∧ w.cell? ⟨(ad.add (k * 3)).block, (ad.add (k * 3)).off + 2, none⟩ = some (.int .i64 x.depth) ∧
      w.cell? ⟨gL, k, none⟩ = some (.slice A (ls k).length c) := by
  obtain ⟨AC, cC, gL, ra, rc, h1, h2⟩ := h
  have hk := (List.getElem?_eq_some_iff.1 hx).1
  obtain ⟨ad, y, rfl, _, hy, d0, d1⟩ := h1.ends.at_ hk
  rw [hx] at hy
  injection hy with hy
  subst hy
  exact ⟨ad, cC, gL, ra k, rc k, h1.blk.cellAt rfl, h1.blk.cellAt rfl, d0 _ rfl, d1 0 _ rfl, d1 1 _ rfl, h1.row.cellAt (rowCs_get hk)⟩
theorem below_alloc1 (w : World) (o : Obj) : Below w.heap.size w (w.alloc o) := (Below.refl _ _).alloc (Nat.le_refl _) _
end Go.Proofs.YtidlahljhgglcaaGreat
