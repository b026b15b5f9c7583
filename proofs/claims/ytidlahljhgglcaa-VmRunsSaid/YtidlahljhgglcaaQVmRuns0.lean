/-
  Words for memory that all texts of this seat use: a slice that reads as a list, appending to what the call made, small laws on worlds.
  A slice that begins at its block's head, its capacity at most the block's size: reading, cutting, storing, appending.
  Frame tables, plainly: no program in sight.
  Package table: what each function computes.
-/
import Derived.Test.YtidlahljhgglcaaProg
import Derived.WalkKit
import Derived.WalkSpells
import Derived.WalkLawsBesides
import Derived.Handy
import Derived.Maps.AppendAt
import Derived.Deep.AppendLies
import Derived.Deep.QuietTactic
import Derived.Deep.Draws
import Derived.BigQuiet
import Derived.Lib.Hide
import Derived.Lib.SlBytesConst
import Derived.Deep.DeepCutAuto
import Derived.Deep.LoopGhost
import Derived.Deep.DeepMust
import Derived.Deep.RegionWith
import Derived.Deep.RegionHeld3
namespace Go.Proofs.Ytidlahljhgglcaa
open Go.RowKit

/-- A byte, and an int, as the machine holds them. -/
abbrev bV (b : UInt8) : Value := .int .u8 (b.toNat : Int)
abbrev iV (n : Int) : Value := .int .i64 n

theorem hid {p : Prop} (h : p) : Hid p := h
theorem ret_int {k : IntKind} {a b : Int} (h : a = b) : Ending.returned (.int k a) = .returned (.int k b) := by rw [h]
theorem ret_bool {a b : Bool} (h : a = b) : Ending.returned (.bool a) = .returned (.bool b) := by rw [h]

theorem block_add (a : Addr) (n : Nat) : (a.add n).block = a.block := by unfold Addr.add; split <;> rfl
theorem add_add' (a : Addr) (i j : Nat) : (a.add i).add j = a.add (i + j) := by
  unfold Addr.add
  by_cases hi : i = 0 <;> by_cases hj : j = 0 <;> simp [hi, hj, Nat.add_assoc]
theorem add_none (b o i : Nat) : (⟨b, o, none⟩ : Addr).add i = ⟨b, o + i, none⟩ := by unfold Addr.add; split <;> simp_all

/-! ### A slice that reads as a list of cells, nil let in; it lies below block B. -/
def Reads (w : World) (B size : Nat) (A : Option Addr) (n : Nat) (xs : List Value) : Prop :=
  xs.length = n * size ∧ (0 < n → ∃ ad, A = some ad ∧ ad.block < B ∧ ∀ j u, xs[j]? = some u → w.cell? (ad.add j) = some u)

section
variable {w w' : World} {B B' size n : Nat} {A : Option Addr} {xs : List Value}
theorem Reads.len (h : Reads w B size A n xs) : xs.length = n * size := h.1
theorem Reads.empty : Reads w B size A 0 [] := ⟨by simp, fun h => absurd h (by omega)⟩
theorem Reads.form (h : Reads w B size A n xs) (hn : 0 < n) : ∃ ad, A = some ad ∧ ad.block < B ∧ ∀ j u, xs[j]? = some u → w.cell? (ad.add j) = some u := h.2 hn
theorem Reads.at_ {k : Nat} (h : Reads w B 1 A n xs) (hk : k < n) : ∃ ad u, A = some ad ∧ ad.block < B ∧ xs[k]? = some u ∧ w.cell? (ad.add k) = some u := by
  obtain ⟨ad, e, hb, hc⟩ := h.2 (by omega)
  have hl : k < xs.length := by have := h.1; omega
  exact ⟨ad, xs[k], e, hb, List.getElem?_eq_getElem hl, hc k _ (List.getElem?_eq_getElem hl)⟩
theorem Reads.atM {α : Type} {f : α → Value} {l : List α} {k : Nat} (h : Reads w B 1 A n (l.map f)) (hk : k < n) : ∃ ad x, A = some ad ∧ ad.block < B ∧ l[k]? = some x ∧ w.cell? (ad.add k) = some (f x) := by
  obtain ⟨ad, u, e, hb, hu, hc⟩ := h.at_ hk
  rw [List.getElem?_map] at hu
  cases hx : l[k]? with
  | none => rw [hx] at hu; simp at hu
  | some x => rw [hx] at hu; simp at hu; exact ⟨ad, x, e, hb, rfl, by rw [hc, hu]⟩
theorem Reads.keep (h : Reads w B size A n xs) (hk : ∀ p : Addr, p.block < B → w'.cell? p = w.cell? p) : Reads w' B size A n xs :=
  ⟨h.1, fun hn => by
    obtain ⟨ad, e, hb, hc⟩ := h.2 hn
    exact ⟨ad, e, hb, fun j u hu => (hk _ (by rw [block_add]; exact hb)).trans (hc j u hu)⟩⟩
theorem Reads.more (h : Reads w B size A n xs) (hB : B ≤ B') : Reads w B' size A n xs :=
  ⟨h.1, fun hn => by
    obtain ⟨ad, e, hb, hc⟩ := h.2 hn
    exact ⟨ad, e, by omega, hc⟩⟩
theorem Reads.below (h : Reads w B size A n xs) (hb : Below B w w') : Reads w' B size A n xs := h.keep fun _ hp => hb.cell hp
theorem Reads.drew (h : Reads w B size A n xs) : Reads w.drew B size A n xs := h
theorem Reads.drewN (h : Reads w B size A n xs) (k : Nat) : Reads (w.drewN k) B size A n xs := h
theorem Reads.alloc (h : Reads w B size A n xs) (hB : B ≤ w.heap.size) (o : Obj) : Reads (w.alloc o) B size A n xs := h.keep fun p hp => World.cell?_alloc_lt w o p (by omega)
theorem Reads.setCell (h : Reads w B size A n xs) {p : Addr} (hB : B ≤ p.block) (u : Value) : Reads (w.setCell p u) B size A n xs :=
  h.keep fun q hq => World.cell?_setCell_other w p q u (fun e => by subst e; omega)
theorem Reads.grown (h : Reads w B size A n xs) {row : Option Nat} (hg : w.grownBy w' row) (hB : B ≤ w.heap.size) (hr : ∀ g, row = some g → B ≤ g) : Reads w' B size A n xs :=
  h.keep fun p hp => World.cell?_of_block (hg.block p.block (by omega) (fun e => by have := hr _ e.symm; omega))
theorem Reads.front (h : Reads w B size A n xs) {k : Nat} (hk : k ≤ n) : Reads w B size A k (xs.take (k * size)) := by
  have hks : k * size ≤ n * size := Nat.mul_le_mul_right _ hk
  refine ⟨by rw [List.length_take, h.1]; omega, fun hp => ?_⟩
  obtain ⟨ad, rfl, hb, hc⟩ := h.2 (by omega)
  refine ⟨ad, rfl, hb, fun j u hu => hc j u ?_⟩
  rw [List.getElem?_take] at hu
  split at hu
  · exact hu
  · cases hu
theorem Reads.cut (h : Reads w B size A n xs) {k cap : Nat} (hk : k ≤ n) (hc : n ≤ cap) :
    Reads w B size (if cap = k then A else A.map (·.add (k * size))) (n - k) (xs.drop (k * size)) := by
  refine ⟨by rw [List.length_drop, h.1, Nat.sub_mul], fun hn => ?_⟩
  obtain ⟨ad, rfl, hb, hcell⟩ := h.2 (by omega)
  rw [if_neg (by omega)]
  refine ⟨ad.add (k * size), rfl, by rw [block_add]; exact hb, fun j u hu => ?_⟩
  rw [add_add']
  exact hcell _ u (by rw [← hu, List.getElem?_drop])
theorem Reads.of_own {base : Nat} {e : TypeId} {c : Nat} (h : w.ownsRow base e size (.slice A n c) n xs) : Reads w w.heap.size size A n xs := by
  refine ⟨h.1, fun hn => ?_⟩
  obtain ⟨g, cap, hv, _, hlt⟩ := h.form hn
  have hA : A = some ⟨g, 0, none⟩ := by injection hv
  subst hA
  exact ⟨_, rfl, hlt, h.cells (g := g) rfl⟩
/-- A slice literal that was just laid. -/
theorem Reads.lit {cs : Array Value} {e : TypeId} {g : Nat} (h : w.heap[g]? = some (.cells cs e (0, 0))) (hs : cs.size = n * size) : Reads w w.heap.size size (some ⟨g, 0, none⟩) n cs.toList := by
  refine ⟨by simpa using hs, fun _ => ⟨_, rfl, (Array.getElem?_eq_some_iff.1 h).1, fun j u hu => ?_⟩⟩
  rw [add_none, cell_of_row w g _ cs e (0, 0) h]
  simpa using hu
end

/-- A slice of slices of bytes. -/
def Reads2 (w : World) (B : Nat) (A : Option Addr) (n : Nat) (ls : List (List UInt8)) : Prop :=
  ls.length = n ∧ ∀ k l, ls[k]? = some l → ∃ ad A' c', A = some ad ∧ ad.block < B ∧ w.cell? (ad.add k) = some (.slice A' l.length c') ∧ Reads w B 1 A' l.length (l.map bV) ∧ l.length ≤ c' ∧ c' ≤ maxLen
section
variable {w w' : World} {B B' n : Nat} {A : Option Addr} {ls : List (List UInt8)}
theorem Reads2.len (h : Reads2 w B A n ls) : ls.length = n := h.1
theorem Reads2.at_ {k : Nat} (h : Reads2 w B A n ls) (hk : k < n) : ∃ l ad A' c', ls[k]? = some l ∧ A = some ad ∧ ad.block < B ∧ w.cell? (ad.add k) = some (.slice A' l.length c') ∧ Reads w B 1 A' l.length (l.map bV) ∧ l.length ≤ c' ∧ c' ≤ maxLen := by
  have hl : k < ls.length := by rw [h.1]; exact hk
  obtain ⟨ad, A', c', r⟩ := h.2 k ls[k] (List.getElem?_eq_getElem hl)
  exact ⟨ls[k], ad, A', c', List.getElem?_eq_getElem hl, r⟩
theorem Reads2.keep (h : Reads2 w B A n ls) (hk : ∀ p : Addr, p.block < B → w'.cell? p = w.cell? p) : Reads2 w' B A n ls :=
  ⟨h.1, fun k l hl => by
    obtain ⟨ad, A', c', h1, h2, h3, h4, h5⟩ := h.2 k l hl
    exact ⟨ad, A', c', h1, h2, (hk _ (by rw [block_add]; exact h2)).trans h3, h4.keep hk, h5⟩⟩
theorem Reads2.more (h : Reads2 w B A n ls) (hB : B ≤ B') : Reads2 w B' A n ls :=
  ⟨h.1, fun k l hl => by
    obtain ⟨ad, A', c', h1, h2, h3, h4, h5⟩ := h.2 k l hl
    exact ⟨ad, A', c', h1, by omega, h3, h4.more hB, h5⟩⟩
theorem Reads2.below (h : Reads2 w B A n ls) (hb : Below B w w') : Reads2 w' B A n ls := h.keep fun _ hp => hb.cell hp
theorem Reads2.belowS (h : Reads2 w w.heap.size A n ls) (hb : Below w.heap.size w w') : Reads2 w' w'.heap.size A n ls := (h.below hb).more hb.size
end

/-- A slice of structs of one-cell fields: 'cells x' are an element's cells. -/
def RdS {α : Type} (w : World) (B size : Nat) (A : Option Addr) (n : Nat) (cells : α → List Value) (l : List α) : Prop :=
  l.length = n ∧ ∀ k x, l[k]? = some x → ∃ ad, A = some ad ∧ ad.block < B ∧ ∀ j u, (cells x)[j]? = some u → w.cell? (ad.add (k * size + j)) = some u
section
variable {α : Type} {w w' : World} {B B' size n : Nat} {A : Option Addr} {cells : α → List Value} {l : List α}
theorem RdS.len (h : RdS w B size A n cells l) : l.length = n := h.1
theorem RdS.nil : RdS w B size none 0 cells ([] : List α) := ⟨rfl, fun k x hk => by simp at hk⟩
theorem RdS.at_ {k : Nat} (h : RdS w B size A n cells l) (hk : k < n) : ∃ ad x, A = some ad ∧ ad.block < B ∧ l[k]? = some x ∧ (∀ u, (cells x)[0]? = some u → w.cell? (ad.add (k * size)) = some u) ∧
    (∀ j u, (cells x)[j + 1]? = some u → w.cell? ⟨(ad.add (k * size)).block, (ad.add (k * size)).off + (j + 1), none⟩ = some u) := by
  have hl : k < l.length := by rw [h.1]; exact hk
  obtain ⟨ad, e, hb, hc⟩ := h.2 k l[k] (List.getElem?_eq_getElem hl)
  refine ⟨ad, l[k], e, hb, List.getElem?_eq_getElem hl, fun u hu => hc 0 u hu, fun j u hu => ?_⟩
  have := hc (j + 1) u hu
  rw [← add_add'] at this
  exact this
theorem RdS.keep (h : RdS w B size A n cells l) (hk : ∀ p : Addr, p.block < B → w'.cell? p = w.cell? p) : RdS w' B size A n cells l :=
  ⟨h.1, fun k x hx => by
    obtain ⟨ad, e, hb, hc⟩ := h.2 k x hx
    exact ⟨ad, e, hb, fun j u hu => (hk _ (by rw [block_add]; exact hb)).trans (hc j u hu)⟩⟩
theorem RdS.more (h : RdS w B size A n cells l) (hB : B ≤ B') : RdS w B' size A n cells l :=
  ⟨h.1, fun k x hx => by
    obtain ⟨ad, e, hb, hc⟩ := h.2 k x hx
    exact ⟨ad, e, by omega, hc⟩⟩
theorem RdS.below (h : RdS w B size A n cells l) (hb : Below B w w') : RdS w' B size A n cells l := h.keep fun _ hp => hb.cell hp
theorem RdS.belowS (h : RdS w w.heap.size size A n cells l) (hb : Below w.heap.size w w') : RdS w' w'.heap.size size A n cells l := (h.below hb).more hb.size
theorem RdS.alloc (h : RdS w B size A n cells l) (hB : B ≤ w.heap.size) (o : Obj) : RdS (w.alloc o) B size A n cells l := h.keep fun p hp => World.cell?_alloc_lt w o p (by omega)
end

/-! ### A block that is known whole. -/
def Blk (w : World) (g : Nat) (t : TypeId) (cs : List Value) : Prop := w.heap[g]? = some (.cells cs.toArray t (0, 0))
section
variable {w w' : World} {g : Nat} {t : TypeId} {cs : List Value}
theorem Blk.lt (h : Blk w g t cs) : g < w.heap.size := (Array.getElem?_eq_some_iff.1 h).1
theorem Blk.cell (h : Blk w g t cs) (i : Nat) : w.cell? ⟨g, i, none⟩ = cs[i]? := by
  rw [cell_of_row w g i cs.toArray t (0, 0) h]; simp
theorem Blk.cellAt (h : Blk w g t cs) {i : Nat} {v : Value} (hi : cs[i]? = some v) : w.cell? ⟨g, i, none⟩ = some v := (h.cell i).trans hi
theorem Blk.frozen (h : Blk w g t cs) (i : Nat) : w.frozen? ⟨g, i, none⟩ = false := frozen_of_row w g i cs.toArray t h
theorem Blk.new (w : World) (t : TypeId) (cs : List Value) : Blk (w.alloc (.cells cs.toArray t)) w.heap.size t cs := heap_alloc_new w _
theorem Blk.drew (h : Blk w g t cs) : Blk w.drew g t cs := h
theorem Blk.drewN (h : Blk w g t cs) (n : Nat) : Blk (w.drewN n) g t cs := h
theorem Blk.alloc (h : Blk w g t cs) (o : Obj) : Blk (w.alloc o) g t cs := (Below.heap_alloc w o g h.lt).trans h
theorem Blk.set_ (h : Blk w g t cs) (i : Nat) (u : Value) : Blk (w.setCell ⟨g, i, none⟩ u) g t (cs.set i u) := by
  have := heap_setCell_same w g i cs.toArray t u h
  unfold Blk
  rw [this]
  simp
theorem Blk.far (h : Blk w g t cs) {p : Addr} (hp : g ≠ p.block) (u : Value) : Blk (w.setCell p u) g t cs := (Below.heap_setCell w p u g hp).trans h
theorem Blk.below {B : Nat} (h : Blk w g t cs) (hb : Below B w w') (hg : g < B) : Blk w' g t cs := (hb.block g hg).trans h
theorem Blk.belowS (h : Blk w g t cs) (hb : Below w.heap.size w w') : Blk w' g t cs := h.below hb h.lt
theorem Blk.grown {row : Option Nat} (h : Blk w g t cs) (hb : w.grownBy w' row) (hg : some g ≠ row) : Blk w' g t cs := (hb.block g h.lt hg).trans h
theorem Blk.ne_ {g' : Nat} {t' : TypeId} {cs' : List Value} (h : Blk w g t cs) (h' : Blk w g' t' cs') (hne : t ≠ t') : g ≠ g' := by
  rintro rfl
  unfold Blk at h h'
  rw [h] at h'
  injection h' with h'
  injection h' with _ ht
  exact hne ht
end

/-! ### What the call made. -/
/-- What a value that owns a row looks like. -/
theorem own_form {w : World} {base : Nat} {e : TypeId} {size : Nat} {v : Value} {n : Nat} {xs : List Value} (h : w.ownsRow base e size v n xs) : ∃ A c, v = .slice A n c := by
  rcases h.2 with ⟨rfl, rfl⟩ | ⟨g, cap, _, rfl, _⟩
  · exact ⟨_, _, rfl⟩
  · exact ⟨_, _, rfl⟩
theorem own_some {w : World} {base : Nat} {e : TypeId} {size : Nat} {A : Option Addr} {n c : Nat} {xs : List Value} (h : w.ownsRow base e size (.slice A n c) n xs) (hn : 0 < n) : ∃ g, A = some ⟨g, 0, none⟩ ∧ base ≤ g ∧ g < w.heap.size := by
  obtain ⟨g, cap, hv, hg, hlt⟩ := h.form hn
  injection hv with hv _ _
  exact ⟨g, hv, hg, hlt⟩
theorem own_cap {w : World} {base : Nat} {e : TypeId} {size : Nat} {A : Option Addr} {n c : Nat} {xs : List Value} (h : w.ownsRow base e size (.slice A n c) n xs) : n ≤ c ∧ c ≤ maxLen := by
  rcases h.2 with ⟨hv, rfl⟩ | ⟨g, cap, _, hv, _, _, hc, hm, _⟩
  · injection hv with _ _ hv
    subst hv
    exact ⟨Nat.le_refl _, by simp [maxLen]⟩
  · injection hv with _ _ hv
    subst hv
    exact ⟨hc, hm⟩
theorem own_len {w : World} {base : Nat} {e : TypeId} {size : Nat} {v : Value} {n : Nat} {xs : List Value} (h : w.ownsRow base e size v n xs) : xs.length = n * size := h.1
theorem own_mono {w : World} {base base' : Nat} {e : TypeId} {size : Nat} {v : Value} {n : Nat} {xs : List Value} (h : w.ownsRow base e size v n xs) (hb : base' ≤ base) : w.ownsRow base' e size v n xs := by
  refine ⟨h.1, ?_⟩
  rcases h.2 with h2 | ⟨g, cap, cur, hv, hg, r⟩
  · exact .inl h2
  · exact .inr ⟨g, cap, cur, hv, by omega, r⟩
/-- What is owned from 'base' on stays owned where all below a greater number stays. -/
theorem own_below {w w' : World} {base : Nat} {e : TypeId} {size : Nat} {v : Value} {n : Nat} {xs : List Value} (h : w.ownsRow base e size v n xs) (hb : Below w.heap.size w w') : w'.ownsRow base e size v n xs := by
  refine ⟨h.1, ?_⟩
  rcases h.2 with h2 | ⟨g, cap, cur, hv, hg, hh, r⟩
  · exact .inl h2
  · exact .inr ⟨g, cap, cur, hv, hg, (hb.block g (Array.getElem?_eq_some_iff.1 hh).1).trans hh, r⟩
/-- The cell at a place of a row that the call made, for reading and for writing. -/
theorem own_cellM {α : Type} {f : α → Value} {l : List α} {w : World} {base : Nat} {e : TypeId} {g n cap k : Nat} (h : w.ownsRow base e 1 (.slice (some ⟨g, 0, none⟩) n cap) n (l.map f)) (hk : k < n) :
    ∃ x, l[k]? = some x ∧ w.cell? ⟨g, k, none⟩ = some (f x) ∧ w.frozen? ⟨g, k, none⟩ = false := by
  have h1 := h.cellAt k (by omega)
  have hl : l.length = n := by simpa using h.1
  refine ⟨l[k], List.getElem?_eq_getElem (by omega), ?_, h.frozenAt k⟩
  rw [h1, List.getElem?_map, List.getElem?_eq_getElem (by omega)]
  rfl
theorem own_storeM {α : Type} {f : α → Value} {l : List α} {w : World} {base : Nat} {e : TypeId} {g n cap : Nat} (h : w.ownsRow base e 1 (.slice (some ⟨g, 0, none⟩) n cap) n (l.map f)) (k : Nat) (x : α) :
    (w.setCell ⟨g, k, none⟩ (f x)).ownsRow base e 1 (.slice (some ⟨g, 0, none⟩) n cap) n ((l.set k x).map f) ∧ Below base w (w.setCell ⟨g, k, none⟩ (f x)) := by
  refine ⟨by rw [List.map_set]; exact (h.stored k (f x)).1, (Below.refl _ _).setCell ?_ _⟩
  exact (h.lt g rfl).1
/-- A call behind a call. -/
theorem bel_trans {a b c : World} (h : Below a.heap.size a b) (k : Below b.heap.size b c) : Below a.heap.size a c := h.trans (k.mono h.size)
theorem bel_alloc {a b : World} (h : Below a.heap.size a b) (o : Obj) : Below a.heap.size a (b.alloc o) := h.alloc h.size o
theorem Reads.belowS {w w' : World} {size n : Nat} {A : Option Addr} {xs : List Value} (h : Reads w w.heap.size size A n xs) (hb : Below w.heap.size w w') : Reads w' w'.heap.size size A n xs := (h.below hb).more hb.size
theorem below_drewN {B : Nat} {a w : World} (h : Below B a w) (n : Nat) : Below B a (w.drewN n) := ⟨h.os, h.tape, h.output, h.size, h.block⟩
/-- Behind an append to what is owned from 'base' on. -/
theorem below_own {B base : Nat} {a w w' : World} {e : TypeId} {size : Nat} {v : Value} {n : Nat} {xs : List Value} (h : Below B a w) (hown : w.ownsRow base e size v n xs) (hg : w.grownBy w' v.ownBlock) (hB : B ≤ base) (hs : B ≤ w.heap.size) : Below B a w' :=
  h.grown hg hs (fun k hk => Nat.le_trans hB (hown.lt k hk).1)
/-- What a slice made by the call looks like; a row behind its own value. -/
def OwnOf (w : World) (base : Nat) (e : TypeId) (A : Option Addr) (n c : Nat) (xs : List Value) : Prop := w.ownsRow base e 1 (.slice A n c) n xs

section
variable {P : Program} (w : World)

theorem run_append_src (base : Nat) (t ty e : TypeId) (i : TypeInfo) (z : Value) (size bytes : Nat) (ht : P.underlying t = some (.slice e)) (hi : P.info? e = some i) (hz : i.zero = some z)
    (hsize : i.size = size) (hby : i.bytes = bytes) (hzs : z.cells.size = size) (hsz : 0 < size)
    (v : Value) (n : Nat) (xs : List Value) (hown : w.ownsRow base e size v n xs)
    (B : Nat) (A : Option Addr) (m c : Nat) (news : List Value) (hr : Reads w B size A m news) (h1 : ∀ u ∈ news, u.oneCell' = true)
    (h63 : n + m ≤ maxLen) (hbytes : (n + m) * bytes ≤ 140737488355328) (hbase : base ≤ w.heap.size) :
    ∃ v' w', (Builtin.append_ #[t, t] ty #[v, .slice A m c]).run P w = .ok v' w' ∧ w'.ownsRow base e size v' (n + m) (xs ++ news) ∧ w.grownBy w' v.ownBlock ∧
      (v'.ownBlock = v.ownBlock ∨ v'.ownBlock = some w.heap.size) := by
  by_cases hm : m = 0
  · subst hm
    have hn : news = [] := List.eq_nil_of_length_eq_zero (by simpa using hr.1)
    subst hn
    have hrun : ∃ w', (Builtin.append_ #[t, t] ty #[v, .slice A 0 c]).run P w = .ok v w' ∧ w' = w := by
      rcases hown.2 with ⟨rfl, rfl⟩ | ⟨g, cap, cur, rfl, _, _, hnc, _⟩
      · cases A <;> simp [Builtin.append_, run_underlying ht, sizeOf, typeInfo, hi, Builtin.lenOf, Builtin.firstCells, loadCells, loadCellsFrom]
      · cases A <;> simp [Builtin.append_, run_underlying ht, sizeOf, typeInfo, hi, Builtin.lenOf, Builtin.firstCells, hnc, storeCells, loadCells, loadCellsFrom]
    obtain ⟨w', hrun, rfl⟩ := hrun
    exact ⟨v, w', hrun, by simpa using hown, ⟨rfl, rfl, rfl, Nat.le_refl _, fun _ _ _ => rfl⟩, .inl rfl⟩
  · obtain ⟨ad, rfl, _, hcells⟩ := hr.2 (by omega)
    obtain ⟨v', w', hrun, h2, h3, _, h5⟩ := run_append_own_at (P := P) w base t ty e i z size bytes ht hi hz hsize hby hzs hsz v n xs hown ad m c news hr.1 hcells h1 h63 hbytes hbase
    exact ⟨v', w', hrun, h2, h3, h5⟩

theorem wp_append_src {o : Oper} {a : Act} {K : Act → World → Prop} {Q : Exit → Act → World → Prop} (s x : Operand) (t : TypeId)
    (ho : o.op = .call { callee := .builtin .append, args := #[s, x], argTypes := #[t, t] })
    (base : Nat) (e : TypeId) (i : TypeInfo) (z : Value) (size bytes : Nat) (ht : P.underlying t = some (.slice e)) (hi : P.info? e = some i) (hz : i.zero = some z)
    (hsize : i.size = size) (hby : i.bytes = bytes) (hzs : z.cells.size = size) (hsz : 0 < size)
    (v : Value) (n : Nat) (xs : List Value) (hs : a.eval s = v) (hown : w.ownsRow base e size v n xs)
    (B : Nat) (A : Option Addr) (m c : Nat) (news : List Value) (hx : a.eval x = .slice A m c) (hr : Reads w B size A m news) (h1 : ∀ u ∈ news, u.oneCell' = true)
    (h63 : n + m ≤ maxLen) (hbytes : (n + m) * bytes ≤ 140737488355328) (hbase : base ≤ w.heap.size)
    (h : ∀ A' c' w', w'.ownsRow base e size (.slice A' (n + m) c') (n + m) (xs ++ news) → w.grownBy w' v.ownBlock → ((Value.slice A' (n + m) c').ownBlock = v.ownBlock ∨ (Value.slice A' (n + m) c').ownBlock = some w.heap.size) → K (a.put o.dst (.slice A' (n + m) c')) w') : o.wp P a w K Q := by
  obtain ⟨v', w', hrun, h2, h3, h4⟩ := run_append_src (P := P) w base t o.type e i z size bytes ht hi hz hsize hby hzs hsz v n xs hown B A m c news hr h1 h63 hbytes hbase
  unfold Oper.wp execOp
  simp only [ho, resolve, invoke, builtin, Sem.run_bind, Sem.run_pure, Result.andThen_ok, List.map_toArray, List.map_cons, List.map_nil, hs, hx, hrun]
  obtain ⟨A', c', rfl⟩ := own_form h2
  exact h A' c' w' h2 h3 h4

theorem wpList_app {ops : Array Oper} {rest : List Oper} {o : Oper} {a : Act} {Q : Exit → Act → World → Prop} (hgd : o.guard = none) (s x : Operand) (t : TypeId)
    (ho : o.op = .call { callee := .builtin .append, args := #[s, x], argTypes := #[t, t] })
    (base : Nat) (e : TypeId) (i : TypeInfo) (z : Value) (size bytes : Nat) (ht : P.underlying t = some (.slice e)) (hi : P.info? e = some i) (hz : i.zero = some z)
    (hsize : i.size = size) (hby : i.bytes = bytes) (hzs : z.cells.size = size) (hsz : 0 < size)
    (v : Value) (n : Nat) (xs : List Value) (hs : a.eval s = v) (hown : w.ownsRow base e size v n xs)
    (B : Nat) (A : Option Addr) (m c : Nat) (news : List Value) (hx : a.eval x = .slice A m c) (hr : Reads w B size A m news) (h1 : ∀ u ∈ news, u.oneCell' = true)
    (h63 : n + m ≤ maxLen) (hbytes : (n + m) * bytes ≤ 140737488355328) (hbase : base ≤ w.heap.size)
    (h : ∀ A' c' w', w'.ownsRow base e size (.slice A' (n + m) c') (n + m) (xs ++ news) → w.grownBy w' v.ownBlock → ((Value.slice A' (n + m) c').ownBlock = v.ownBlock ∨ (Value.slice A' (n + m) c').ownBlock = some w.heap.size) → wpList P ops Q rest (a.put o.dst (.slice A' (n + m) c')) w') : wpList P ops Q (o :: rest) a w :=
  wpList_plain hgd fun _ hK => wp_append_src w s x t ho base e i z size bytes ht hi hz hsize hby hzs hsz v n xs hs hown B A m c news hx hr h1 h63 hbytes hbase fun A' c' w' h2 h3 h4 => hK _ _ (h A' c' w' h2 h3 h4)
end
/-- A slice literal that was just laid, in the world right behind. -/
theorem Reads.new (w : World) (cs : Array Value) (e : TypeId) (n : Nat) (hn : cs.size = n) : Reads (w.alloc (.cells cs e)) (w.heap.size + 1) 1 (some ⟨w.heap.size, 0, none⟩) n cs.toList :=
  (Reads.lit (heap_alloc_new w _) (by omega)).more (by simp)
/-- The same, where the conversion of a constant text has marked the row's end. -/
theorem Reads.newM (w : World) (cs : Array Value) (e : TypeId) (m : Nat × Nat) (n : Nat) (hn : cs.size = n) : Reads (w.alloc (.cells cs e m)) (w.heap.size + 1) 1 (some ⟨w.heap.size, 0, none⟩) n cs.toList := by
  refine ⟨by simp; omega, fun _ => ⟨_, rfl, by simp, fun j u hu => ?_⟩⟩
  rw [add_none, cell_of_row _ w.heap.size _ cs e m (heap_alloc_new w _)]
  simpa using hu
theorem oneCell_b (l : List UInt8) : ∀ u ∈ l.map bV, u.oneCell' = true := by intro u hu; obtain ⟨b, _, rfl⟩ := List.mem_map.1 hu; rfl
theorem oneCell_i (l : List Int) : ∀ u ∈ l.map iV, u.oneCell' = true := by intro u hu; obtain ⟨b, _, rfl⟩ := List.mem_map.1 hu; rfl
end Go.Proofs.Ytidlahljhgglcaa
namespace Go.Proofs.Ytidlahljhgglcaa
open Go.RowKit

/-- All but the blocks of F is as it was. -/
structure Apart (F : Nat → Prop) (w w' : World) : Prop where
  os : w'.os = w.os
  tape : w'.tape = w.tape
  output : w'.output = w.output
  size : w.heap.size ≤ w'.heap.size
  block : ∀ k, k < w.heap.size → ¬ F k → w'.heap[k]? = w.heap[k]?
section
variable {F G : Nat → Prop} {w w' w'' : World}
theorem Apart.refl (F : Nat → Prop) (w : World) : Apart F w w := ⟨rfl, rfl, rfl, Nat.le_refl _, fun _ _ _ => rfl⟩
theorem Apart.trans (h : Apart F w w') (k : Apart G w' w'') (hG : ∀ b, b < w.heap.size → G b → F b) : Apart F w w'' :=
  ⟨k.os.trans h.os, k.tape.trans h.tape, k.output.trans h.output, Nat.le_trans h.size k.size, fun i hi hF => (k.block i (Nat.lt_of_lt_of_le hi h.size) (fun hg => hF (hG i hi hg))).trans (h.block i hi hF)⟩
theorem Apart.of_below (h : Below w.heap.size w w') : Apart F w w' := ⟨h.os, h.tape, h.output, h.size, fun k hk _ => h.block k hk⟩
theorem Apart.below {B : Nat} (h : Apart F w w') (hB : B ≤ w.heap.size) (hF : ∀ b, F b → B ≤ b) : Below B w w' :=
  ⟨h.os, h.tape, h.output, h.size, fun k hk => h.block k (by omega) (fun hf => by have := hF k hf; omega)⟩
theorem Apart.alloc (h : Apart F w w') (o : Obj) : Apart F w (w'.alloc o) := h.trans (G := fun _ => False) (Apart.of_below ((Below.refl _ _).alloc (Nat.le_refl _) _)) (fun _ _ h => h.elim)
theorem Apart.drew (h : Apart F w w') : Apart F w w'.drew := ⟨h.os, h.tape, h.output, h.size, h.block⟩
theorem Apart.setCell (h : Apart F w w') {p : Addr} (hp : F p.block ∨ w.heap.size ≤ p.block) (u : Value) : Apart F w (w'.setCell p u) :=
  ⟨h.os, h.tape, h.output, by simpa [World.setCell] using h.size, fun k hk hF => (Below.heap_setCell _ _ _ _ (fun e => by subst e; rcases hp with hp | hp; exact hF hp; omega)).trans (h.block k hk hF)⟩
theorem Apart.grown {row : Option Nat} (h : Apart F w w') (hg : w'.grownBy w'' row) (hr : ∀ k, row = some k → F k ∨ w.heap.size ≤ k) : Apart F w w'' :=
  ⟨hg.os.trans h.os, hg.tape.trans h.tape, hg.output.trans h.output, Nat.le_trans h.size hg.size, fun k hk hF => (hg.block k (Nat.lt_of_lt_of_le hk h.size) (fun e => by rcases hr k e.symm with hf | hf; exact hF hf; omega)).trans (h.block k hk hF)⟩
theorem Blk.apart {g : Nat} {t : TypeId} {cs : List Value} (h : Blk w g t cs) (hb : Apart F w w') (hg : ¬ F g) : Blk w' g t cs := (hb.block g h.lt hg).trans h
end

/-- A slice from the head of its block. -/
def Row (w : World) (e : TypeId) (A : Option Addr) (n c : Nat) (xs : List Value) : Prop :=
  xs.length = n ∧ n ≤ c ∧ c ≤ maxLen ∧
  ((A = none ∧ c = 0) ∨ ∃ g cur, A = some ⟨g, 0, none⟩ ∧ w.heap[g]? = some (.cells cur e (0, 0)) ∧ c ≤ cur.size ∧ cur.toList.take n = xs)
/-- The slice's block. -/
def Foot (A : Option Addr) (b : Nat) : Prop := ∃ a, A = some a ∧ a.block = b
section
variable {w w' : World} {e : TypeId} {A : Option Addr} {n c : Nat} {xs : List Value}
theorem Row.len (h : Row w e A n c xs) : xs.length = n := h.1
theorem Row.cap (h : Row w e A n c xs) : n ≤ c ∧ c ≤ maxLen := ⟨h.2.1, h.2.2.1⟩
theorem Row.nil (w : World) (e : TypeId) : Row w e none 0 0 [] := ⟨rfl, Nat.le_refl _, by simp [maxLen], .inl ⟨rfl, rfl⟩⟩
theorem Row.lt (h : Row w e A n c xs) {b : Nat} (hb : Foot A b) : b < w.heap.size := by
  obtain ⟨a, ha, rfl⟩ := hb
  rcases h.2.2.2 with ⟨h1, _⟩ | ⟨g, cur, h1, h2, _⟩
  · rw [h1] at ha; cases ha
  · rw [h1] at ha; injection ha with ha; subst ha; exact (Array.getElem?_eq_some_iff.1 h2).1
theorem Row.keep (h : Row w e A n c xs) (hk : ∀ b, Foot A b → w'.heap[b]? = w.heap[b]?) : Row w' e A n c xs := by
  refine ⟨h.1, h.2.1, h.2.2.1, ?_⟩
  rcases h.2.2.2 with h1 | ⟨g, cur, h1, h2, h3⟩
  · exact .inl h1
  · exact .inr ⟨g, cur, h1, (hk g ⟨_, h1, rfl⟩).trans h2, h3⟩
theorem Row.belowS (h : Row w e A n c xs) (hb : Below w.heap.size w w') : Row w' e A n c xs := h.keep fun b hf => hb.block b (h.lt hf)
theorem Row.apart {F : Nat → Prop} (h : Row w e A n c xs) (hb : Apart F w w') (hF : ∀ b, Foot A b → ¬ F b) : Row w' e A n c xs := h.keep fun b hf => hb.block b (h.lt hf) (hF b hf)
theorem Row.alloc (h : Row w e A n c xs) (o : Obj) : Row (w.alloc o) e A n c xs := h.keep fun b hf => Below.heap_alloc _ _ _ (h.lt hf)
theorem Row.drew (h : Row w e A n c xs) : Row w.drew e A n c xs := h
theorem Row.far (h : Row w e A n c xs) {p : Addr} (hp : ¬ Foot A p.block) (u : Value) : Row (w.setCell p u) e A n c xs := h.keep fun b hf => Below.heap_setCell _ _ _ _ (fun e => by subst e; exact hp hf)
theorem Row.form (h : Row w e A n c xs) (hn : 0 < n) : ∃ g, A = some ⟨g, 0, none⟩ ∧ g < w.heap.size := by
  rcases h.2.2.2 with ⟨_, h1⟩ | ⟨g, cur, h1, h2, _⟩
  · have := h.2.1; omega
  · exact ⟨g, h1, (Array.getElem?_eq_some_iff.1 h2).1⟩
theorem Row.reads (h : Row w e A n c xs) : Reads w w.heap.size 1 A n xs := by
  refine ⟨by rw [h.1]; omega, fun hn => ?_⟩
  rcases h.2.2.2 with ⟨_, h1⟩ | ⟨g, cur, h1, h2, h3, h4⟩
  · have := h.2.1; omega
  · refine ⟨_, h1, (Array.getElem?_eq_some_iff.1 h2).1, fun j u hu => ?_⟩
    rw [add_none, cell_of_row w g _ cur e (0, 0) h2]
    rw [← h4, List.getElem?_take] at hu
    split at hu
    · simpa using hu
    · cases hu
theorem Row.cell {g : Nat} (h : Row w e (some ⟨g, 0, none⟩) n c xs) {j : Nat} {u : Value} (hu : xs[j]? = some u) : w.cell? ⟨g, j, none⟩ = some u := by
  have hj := (List.getElem?_eq_some_iff.1 hu).1
  obtain ⟨ad, e1, _, hc⟩ := h.reads.2 (by rw [← h.1]; omega)
  injection e1 with e1
  subst e1
  have := hc j u hu
  rwa [add_none, Nat.zero_add] at this
theorem Row.frozen {g : Nat} (h : Row w e (some ⟨g, 0, none⟩) n c xs) (j : Nat) : w.frozen? ⟨g, j, none⟩ = false := by
  rcases h.2.2.2 with ⟨h1, _⟩ | ⟨g', cur, h1, h2, _⟩
  · cases h1
  · injection h1 with h1
    injection h1 with h1
    subst h1
    exact frozen_of_row w g j cur e h2
/-- The beginning, its capacity cut to its length. -/
theorem Row.cut (h : Row w e A n c xs) {i : Nat} (hi : i ≤ n) : Row w e A i i (xs.take i) := by
  have h1 := h.1
  have h2 := h.2.1
  have h3 := h.2.2.1
  refine ⟨by rw [List.length_take]; omega, Nat.le_refl _, by omega, ?_⟩
  rcases h.2.2.2 with ⟨h4, h5⟩ | ⟨g, cur, h4, h5, h6, h7⟩
  · exact .inl ⟨h4, by omega⟩
  · refine .inr ⟨g, cur, h4, h5, by omega, ?_⟩
    rw [← h7, List.take_take]
    congr 1
    omega
theorem Row.set_ {g : Nat} (h : Row w e (some ⟨g, 0, none⟩) n c xs) (j : Nat) (u : Value) : Row (w.setCell ⟨g, j, none⟩ u) e (some ⟨g, 0, none⟩) n c (xs.set j u) := by
  rcases h.2.2.2 with ⟨h1, _⟩ | ⟨g', cur, h1, h2, h3, h4⟩
  · cases h1
  · injection h1 with h1
    injection h1 with h1
    subst h1
    refine ⟨by rw [List.length_set]; exact h.1, h.2.1, h.2.2.1, .inr ⟨g, cur.setIfInBounds j u, rfl, heap_setCell_same w g j cur e u h2, by simpa using h3, ?_⟩⟩
    rw [← h4, Array.toList_setIfInBounds, List.take_set]
theorem Row.made (w : World) (cur : Array Value) (e : TypeId) (n : Nat) (hn : cur.size = n) (hm : n ≤ maxLen) : Row (w.alloc (.cells cur e)) e (some ⟨w.heap.size, 0, none⟩) n n cur.toList := by
  subst hn
  exact ⟨by simp, Nat.le_refl _, hm, .inr ⟨w.heap.size, cur, rfl, heap_alloc_new w _, Nat.le_refl _, by rw [List.take_of_length_le (by simp)]⟩⟩
end
section
variable {P : Program} (w : World)
/-- Append behind such a slice: the new one is one, too. -/
theorem run_row_append (t ty e : TypeId) (i : TypeInfo) (z : Value) (bytes : Nat) (ht : P.underlying t = some (.slice e)) (hi : P.info? e = some i) (hz : i.zero = some z)
    (hsize : i.size = 1) (hby : i.bytes = bytes) (hzs : z.cells.size = 1)
    (A : Option Addr) (n c : Nat) (xs : List Value) (hown : Row w e A n c xs)
    (B : Nat) (A2 : Option Addr) (m c2 : Nat) (news : List Value) (hr : Reads w B 1 A2 m news) (h1 : ∀ u ∈ news, u.oneCell' = true)
    (h63 : n + m ≤ maxLen) (hbytes : (n + m) * bytes ≤ 140737488355328) :
    ∃ A' c' w', (Builtin.append_ #[t, t] ty #[.slice A n c, .slice A2 m c2]).run P w = .ok (.slice A' (n + m) c') w' ∧ Row w' e A' (n + m) c' (xs ++ news) ∧ w.grownBy w' (Value.slice A n c).ownBlock ∧
      (A' = A ∨ A' = some ⟨w.heap.size, 0, none⟩) := by
  have hl : news.length = m := by have := hr.1; omega
  have hx : xs.length = n := hown.1
  have hsmall : n + m ≤ 9223372036854775807 := by simp only [maxLen] at h63; omega
  by_cases hm : m = 0
  · subst hm
    have hn : news = [] := List.eq_nil_of_length_eq_zero hl
    subst hn
    have hnc := hown.2.1
    refine ⟨A, c, w, ?_, by simpa using hown, ⟨rfl, rfl, rfl, Nat.le_refl _, fun _ _ _ => rfl⟩, .inl rfl⟩
    cases A2 <;> simp [Builtin.append_, run_underlying ht, sizeOf, typeInfo, hi, Builtin.lenOf, Builtin.firstCells, hnc, loadCells, loadCellsFrom]
    all_goals
      rcases hown.2.2.2 with ⟨rfl, rfl⟩ | ⟨g, cur, rfl, _, _⟩
      · simp [Sem.run_bind, Sem.run_pure, storeCells]
      · simp [storeCells]
  · obtain ⟨ad, rfl, _, hcells⟩ := hr.2 (by omega)
    have grown : ∀ old : Nat, old < n + m →
        Row (w.drew.alloc (.cells (xs.toArray ++ news.toArray ++ Builtin.zeroCells z.cells (grownCap w (n + m) old e - (n + m))) e)) e (some ⟨w.heap.size, 0, none⟩) (n + m) (grownCap w (n + m) old e) (xs ++ news) := by
      intro old ho
      have hge := grownCap_ge w (n + m) old e
      have hcm := grownCap_le_maxLen w (n + m) old e h63
      refine ⟨by rw [List.length_append, hx, hl], hge, hcm, .inr ⟨w.heap.size, _, rfl, heap_alloc_new w.drew _, ?_, ?_⟩⟩
      · simp only [Array.size_append, List.size_toArray, size_zeroCells, hzs, hx, hl]
        omega
      · simp only [Array.toList_append, List.append_assoc]
        rw [← List.append_assoc]
        rw [show n + m = (xs ++ news).length by rw [List.length_append, hx, hl]]
        exact List.take_left
    have hgr : ∀ old row, w.grownBy (w.drew.alloc (.cells (xs.toArray ++ news.toArray ++ Builtin.zeroCells z.cells (grownCap w (n + m) old e - (n + m))) e)) row :=
      fun old row => ⟨rfl, rfl, rfl, by simp, fun k hk _ => Below.heap_alloc w.drew _ k hk⟩
    rcases hown.2.2.2 with ⟨rfl, rfl⟩ | ⟨g, cur, rfl, hg, hc, htake⟩
    · have hn0 : n = 0 := by have := hown.2.1; omega
      subst hn0
      have hx0 : xs = [] := List.eq_nil_of_length_eq_zero hx
      subst hx0
      have hr2 := run_append_nil (P := P) w t ty e i z ht hi hz ad m c2 news (by rw [hsize, hl]; omega) hcells (by omega) (by omega) (by rw [hby]; have hb := hbytes; simp only [Nat.zero_add] at hb; omega)
      have h1' := grown 0 (by omega)
      have h2' := hgr 0 (Value.ownBlock (.slice none 0 0))
      simp only [Nat.zero_add, List.nil_append, Array.empty_append] at h1' h2' hr2 ⊢
      exact ⟨_, _, _, hr2, h1', h2', .inr rfl⟩
    · by_cases hroom : n + m ≤ c
      · have hr2 := run_append_room (P := P) w t ty e i ht hi g n c cur hg ad m c2 news (by rw [hsize, hl]; omega) hcells h1 hroom (by rw [hsize, hl]; omega)
        refine ⟨_, _, _, hr2, ⟨by rw [List.length_append, hx, hl], hroom, hown.2.2.1, .inr ⟨g, _, rfl, setRow_heap w g cur _ e _ hg, ?_, ?_⟩⟩, ⟨rfl, rfl, rfl, by simp, fun k hk hk2 => setRow_other w g k _ (fun e => hk2 (by simp [Value.ownBlock, e]))⟩, .inl rfl⟩
        · simp only [List.size_toArray, List.length_append, List.length_take, List.length_drop, Array.length_toList]
          omega
        · rw [hsize, Nat.mul_one, htake]
          rw [show n + m = (xs ++ news).length by rw [List.length_append, hx, hl]]
          exact List.take_left
      · have holds : ∀ j u, xs[j]? = some u → w.cell? ((⟨g, 0, none⟩ : Addr).add j) = some u := by
          intro j u hu
          rw [add_none, Nat.zero_add]
          exact hown.cell hu
        have hr2 := run_append_grow (P := P) w t ty e i z ht hi hz ⟨g, 0, none⟩ n c xs (by rw [hsize, hx]; omega) holds ad m c2 news (by rw [hsize, hl]; omega) hcells (by omega) (by omega) (growslice_fits (by omega) (by rw [hby]; exact hbytes))
        exact ⟨_, _, _, hr2, grown c (by omega), hgr c _, .inr rfl⟩
theorem wp_row_append {o : Oper} {a : Act} {K : Act → World → Prop} {Q : Exit → Act → World → Prop} (s x : Operand) (t : TypeId)
    (ho : o.op = .call { callee := .builtin .append, args := #[s, x], argTypes := #[t, t] })
    (e : TypeId) (i : TypeInfo) (z : Value) (bytes : Nat) (ht : P.underlying t = some (.slice e)) (hi : P.info? e = some i) (hz : i.zero = some z)
    (hsize : i.size = 1) (hby : i.bytes = bytes) (hzs : z.cells.size = 1)
    (A : Option Addr) (n c : Nat) (xs : List Value) (hs : a.eval s = .slice A n c) (hown : Row w e A n c xs)
    (B : Nat) (A2 : Option Addr) (m c2 : Nat) (news : List Value) (hx : a.eval x = .slice A2 m c2) (hr : Reads w B 1 A2 m news) (h1 : ∀ u ∈ news, u.oneCell' = true)
    (h63 : n + m ≤ maxLen) (hbytes : (n + m) * bytes ≤ 140737488355328) (N : Nat) (hN : n + m = N)
    (h : ∀ A' c' w', Row w' e A' N c' (xs ++ news) → w.grownBy w' (Value.slice A n c).ownBlock → (A' = A ∨ A' = some ⟨w.heap.size, 0, none⟩) → K (a.put o.dst (.slice A' N c')) w') : o.wp P a w K Q := by
  subst hN
  obtain ⟨A', c', w', hrun, h2, h3, h4⟩ := run_row_append (P := P) w t o.type e i z bytes ht hi hz hsize hby hzs A n c xs hown B A2 m c2 news hr h1 h63 hbytes
  unfold Oper.wp execOp
  simp only [ho, resolve, invoke, builtin, Sem.run_bind, Sem.run_pure, Result.andThen_ok, List.map_toArray, List.map_cons, List.map_nil, hs, hx, hrun]
  exact h A' c' w' h2 h3 h4
theorem wpList_row {ops : Array Oper} {rest : List Oper} {o : Oper} {a : Act} {Q : Exit → Act → World → Prop} (hgd : o.guard = none) (s x : Operand) (t : TypeId)
    (ho : o.op = .call { callee := .builtin .append, args := #[s, x], argTypes := #[t, t] })
    (e : TypeId) (i : TypeInfo) (z : Value) (bytes : Nat) (ht : P.underlying t = some (.slice e)) (hi : P.info? e = some i) (hz : i.zero = some z)
    (hsize : i.size = 1) (hby : i.bytes = bytes) (hzs : z.cells.size = 1)
    (A : Option Addr) (n c : Nat) (xs : List Value) (hs : a.eval s = .slice A n c) (hown : Row w e A n c xs)
    (B : Nat) (A2 : Option Addr) (m c2 : Nat) (news : List Value) (hx : a.eval x = .slice A2 m c2) (hr : Reads w B 1 A2 m news) (h1 : ∀ u ∈ news, u.oneCell' = true)
    (h63 : n + m ≤ maxLen) (hbytes : (n + m) * bytes ≤ 140737488355328) (N : Nat) (hN : n + m = N)
    (h : ∀ A' c' w', Row w' e A' N c' (xs ++ news) → w.grownBy w' (Value.slice A n c).ownBlock → (A' = A ∨ A' = some ⟨w.heap.size, 0, none⟩) → wpList P ops Q rest (a.put o.dst (.slice A' N c')) w') : wpList P ops Q (o :: rest) a w :=
  wpList_plain hgd fun _ hK => wp_row_append w s x t ho e i z bytes ht hi hz hsize hby hzs A n c xs hs hown B A2 m c2 news hx hr h1 h63 hbytes N hN fun A' c' w' h2 h3 h4 => hK _ _ (h A' c' w' h2 h3 h4)
theorem step_row {ops : Array Oper} {o : Oper} {a : Act} {K : Act → World → Prop} {Q : Exit → Act → World → Prop} {E : Prop} (hgd : o.guard = none) (s x : Operand) (t : TypeId)
    (ho : o.op = .call { callee := .builtin .append, args := #[s, x], argTypes := #[t, t] })
    (e : TypeId) (i : TypeInfo) (z : Value) (bytes : Nat) (ht : P.underlying t = some (.slice e)) (hi : P.info? e = some i) (hz : i.zero = some z)
    (hsize : i.size = 1) (hby : i.bytes = bytes) (hzs : z.cells.size = 1)
    (A : Option Addr) (n c : Nat) (xs : List Value) (hs : a.eval s = .slice A n c) (hown : Row w e A n c xs)
    (B : Nat) (A2 : Option Addr) (m c2 : Nat) (news : List Value) (hx : a.eval x = .slice A2 m c2) (hr : Reads w B 1 A2 m news) (h1 : ∀ u ∈ news, u.oneCell' = true)
    (h63 : n + m ≤ maxLen) (hbytes : (n + m) * bytes ≤ 140737488355328) (N : Nat) (hN : n + m = N)
    (h : ∀ A' c' w', Row w' e A' N c' (xs ++ news) → w.grownBy w' (Value.slice A n c).ownBlock → (A' = A ∨ A' = some ⟨w.heap.size, 0, none⟩) → K (a.put o.dst (.slice A' N c')) w') :
    if Region.wanted o (yielded ops a.tmps) = true then Oper.wp P o a w K Q else E := by
  have hw : Region.wanted o (yielded ops a.tmps) = true := by simp [Region.wanted, hgd]
  rw [if_pos hw]
  exact wp_row_append w s x t ho e i z bytes ht hi hz hsize hby hzs A n c xs hs hown B A2 m c2 news hx hr h1 h63 hbytes N hN h
end
end Go.Proofs.Ytidlahljhgglcaa
namespace Go.Proofs.Ytidlahljhgglcaa

structure PartS where
  mem : Int
  fuel : Int
  hard : Int
structure WinS where
  part : Int
  at_ : Int
  long : Int
structure ChanS where
  src : Int
  dst : Int
  depth : Int
structure TabS where
  frame : Int
  parts : List PartS
  wins : List WinS
  chans : List ChanS
  trial : Int

/-- The first index of which something is so; -1: none. -/
def idxB {α : Type} (p : α → Bool) (l : List α) : Int := match l.findIdx? p with | some i => (i : Int) | none => -1
theorem idxB_at {α : Type} (p : α → Bool) (l : List α) (k : Nat) (x : α) (hx : l[k]? = some x) (hp : p x = true) (h : ∀ y ∈ l.take k, p y = false) : idxB p l = k := by
  have hkl := (List.getElem?_eq_some_iff.1 hx).1
  have : l.findIdx? p = some k := by
    rw [List.findIdx?_eq_some_iff_getElem]
    refine ⟨hkl, ?_, fun j hj => ?_⟩
    · have : l[k] = x := by rw [List.getElem?_eq_getElem hkl] at hx; injection hx
      rw [this]; exact hp
    · have := h l[j] (by rw [List.mem_iff_getElem]; exact ⟨j, by rw [List.length_take]; omega, by rw [List.getElem_take]⟩)
      simp [this]
  unfold idxB
  rw [this]
theorem idxB_none {α : Type} (p : α → Bool) (l : List α) (h : ∀ y ∈ l, p y = false) : idxB p l = -1 := by
  have : l.findIdx? p = none := by
    rw [List.findIdx?_eq_none_iff]
    exact h
  unfold idxB
  rw [this]
theorem any_take {α : Type} (p : α → Bool) (l : List α) (k : Nat) (x : α) (hx : l[k]? = some x) (hp : p x = false) (h : ∀ y ∈ l.take k, p y = false) : ∀ y ∈ l.take (k + 1), p y = false := by
  rw [List.take_add_one, hx]
  intro y hy
  rcases List.mem_append.1 hy with h1 | h1
  · exact h y h1
  · rw [List.mem_singleton.1 h1]; exact hp
theorem idxB_nonneg {α : Type} (p : α → Bool) (l : List α) : decide (0 ≤ idxB p l) = l.any p := by
  unfold idxB
  cases h : l.findIdx? p with
  | none =>
    have := List.findIdx?_eq_none_iff.1 h
    have h2 : l.any p = false := by simpa using this
    rw [h2]; rfl
  | some i =>
    obtain ⟨hi, hp, _⟩ := List.findIdx?_eq_some_iff_getElem.1 h
    have h2 : l.any p = true := List.any_eq_true.2 ⟨l[i], List.getElem_mem hi, hp⟩
    rw [h2]; simp
def inB (n least most : Int) : Bool := decide (least ≤ n) && decide (n ≤ most)
def badB (p : PartS) : Bool := !(inB p.mem 1 16) || !(inB p.fuel 1 32) || !(inB p.hard 0 65535)
def hasB (t : TabS) (p : Int) : Bool := inB p 0 ((t.parts.length : Int) - 1)
/-- A window that may not be, behind those that end at e. -/
def winBad (t : TabS) (e : Int) (w : WinS) : Bool := !(hasB t w.part) || decide (w.at_ < e) || decide (t.frame < w.at_) || decide (w.long < 1) || decide (t.frame - w.at_ < w.long)
def winsOk (t : TabS) : Int → List WinS → Bool
  | _, [] => true
  | e, w :: l => !(winBad t e w) && winsOk t (w.at_ + w.long) l
def careB (l : List WinS) : Bool := l.any fun w => w.part == 0
def winsB (t : TabS) : Bool := winsOk t 0 t.wins && (careB t.wins && decide (t.wins.length ≤ 8))
def chanBad (t : TabS) (c : ChanS) : Bool := !(hasB t c.src) || !(hasB t c.dst) || (c.src == c.dst) || !(inB c.depth 0 4)
def rightB (t : TabS) : Bool :=
  inB t.frame 1 64 && inB t.trial 1 7 && inB (t.parts.length : Int) 2 4 && !(t.parts.any badB) && winsB t && decide (t.chans.length ≤ 4) && !(t.chans.any (chanBad t))


theorem inB_iff (n a b : Int) : inB n a b = true ↔ a ≤ n ∧ n ≤ b := by simp [inB]
structure RightT (t : TabS) : Prop where
  f1 : 1 ≤ t.frame
  f2 : t.frame ≤ 64
  r1 : 1 ≤ t.trial
  r2 : t.trial ≤ 7
  p1 : 2 ≤ t.parts.length
  p2 : t.parts.length ≤ 4
  ps : ∀ p ∈ t.parts, 1 ≤ p.mem ∧ p.mem ≤ 16 ∧ 1 ≤ p.fuel ∧ p.fuel ≤ 32 ∧ 0 ≤ p.hard ∧ p.hard ≤ 65535
  ws : winsOk t 0 t.wins = true
  care : careB t.wins = true
  w8 : t.wins.length ≤ 8
  c4 : t.chans.length ≤ 4
  cs : ∀ c ∈ t.chans, 0 ≤ c.src ∧ c.src < t.parts.length ∧ 0 ≤ c.dst ∧ c.dst < t.parts.length ∧ c.src ≠ c.dst ∧ 0 ≤ c.depth ∧ c.depth ≤ 4
theorem rightB_iff (t : TabS) : rightB t = true ↔ RightT t := by
  have hc : ∀ c, chanBad t c = false ↔ (0 ≤ c.src ∧ c.src < t.parts.length ∧ 0 ≤ c.dst ∧ c.dst < t.parts.length ∧ c.src ≠ c.dst ∧ 0 ≤ c.depth ∧ c.depth ≤ 4) := by
    intro c
    simp only [chanBad, hasB, Bool.or_eq_false_iff, Bool.not_eq_false', inB_iff, beq_eq_false_iff_ne]
    constructor
    · rintro ⟨⟨⟨⟨h1, h2⟩, h3, h4⟩, h5⟩, h6, h7⟩; exact ⟨h1, by omega, h3, by omega, h5, h6, h7⟩
    · rintro ⟨h1, h2, h3, h4, h5, h6, h7⟩; exact ⟨⟨⟨⟨h1, by omega⟩, h3, by omega⟩, h5⟩, h6, h7⟩
  have hp : ∀ p, badB p = false ↔ (1 ≤ p.mem ∧ p.mem ≤ 16 ∧ 1 ≤ p.fuel ∧ p.fuel ≤ 32 ∧ 0 ≤ p.hard ∧ p.hard ≤ 65535) := by
    intro p
    simp only [badB, Bool.or_eq_false_iff, Bool.not_eq_false', inB_iff]
    constructor
    · rintro ⟨⟨⟨h1, h2⟩, h3, h4⟩, h5, h6⟩; exact ⟨h1, h2, h3, h4, h5, h6⟩
    · rintro ⟨h1, h2, h3, h4, h5, h6⟩; exact ⟨⟨⟨h1, h2⟩, h3, h4⟩, h5, h6⟩
  unfold rightB winsB
  simp only [Bool.and_eq_true, inB_iff, decide_eq_true_eq, Bool.not_eq_true', List.any_eq_false, Bool.not_eq_true]
  constructor
  · rintro ⟨⟨⟨⟨⟨⟨⟨h1, h2⟩, h3, h4⟩, h5, h6⟩, h7⟩, h8, h9, h10⟩, h11⟩, h12⟩
    exact ⟨h1, h2, h3, h4, by omega, by omega, fun p hpm => (hp p).1 (h7 p hpm), h8, h9, h10, h11, fun c hcm => (hc c).1 (h12 c hcm)⟩
  · intro r
    exact ⟨⟨⟨⟨⟨⟨⟨r.f1, r.f2⟩, r.r1, r.r2⟩, by have := r.p1; omega, by have := r.p2; omega⟩, fun p hpm => (hp p).2 (r.ps p hpm)⟩, r.ws, r.care, r.w8⟩, r.c4⟩, fun c hcm => (hc c).2 (r.cs c hcm)⟩
/-- A window that may be. -/
def WinT (t : TabS) (e : Int) (w : WinS) : Prop := 0 ≤ w.part ∧ w.part < t.parts.length ∧ e ≤ w.at_ ∧ 1 ≤ w.long ∧ w.at_ + w.long ≤ t.frame
theorem winBad_iff (t : TabS) (e : Int) (w : WinS) : winBad t e w = false ↔ WinT t e w := by
  simp only [winBad, hasB, Bool.or_eq_false_iff, Bool.not_eq_false', inB_iff, decide_eq_false_iff_not, WinT]
  constructor
  · rintro ⟨⟨⟨⟨⟨h1, h2⟩, h3⟩, h4⟩, h5⟩, h6⟩; exact ⟨h1, by omega, by omega, by omega, by omega⟩
  · rintro ⟨h1, h2, h3, h4, h5⟩; exact ⟨⟨⟨⟨⟨h1, by omega⟩, by omega⟩, by omega⟩, by omega⟩, by omega⟩
theorem winsOk_cons (t : TabS) (e : Int) (w : WinS) (l : List WinS) : winsOk t e (w :: l) = true ↔ WinT t e w ∧ winsOk t (w.at_ + w.long) l = true := by
  rw [← winBad_iff]
  simp [winsOk]
theorem winsOk_mem (t : TabS) : ∀ (l : List WinS) (e : Int), winsOk t e l = true → ∀ w ∈ l, WinT t e w
  | [], _, _ => by simp
  | w :: l, e, h => by
    obtain ⟨h1, h2⟩ := (winsOk_cons t e w l).1 h
    intro x hx
    rcases List.mem_cons.1 hx with rfl | hx
    · exact h1
    · have h3 := winsOk_mem t l _ h2 x hx
      have a1 := h1.2.2.1
      have a2 := h1.2.2.2.1
      obtain ⟨b1, b2, b3, b4, b5⟩ := h3
      exact ⟨b1, b2, by omega, b4, b5⟩
theorem RightT.win {t : TabS} (h : RightT t) (w : WinS) (hw : w ∈ t.wins) : WinT t 0 w := winsOk_mem t t.wins 0 h.ws w hw
/-- How many ticks of a frame are a partition's. -/
def shareL (p : Int) (l : List WinS) : Int := (l.map fun w => if w.part = p then w.long else 0).sum
def shareB (t : TabS) (p : Int) : Int := if rightB t then shareL p t.wins else 0
theorem shareL_snoc (p : Int) (l : List WinS) (w : WinS) : shareL p (l ++ [w]) = shareL p l + if w.part = p then w.long else 0 := by simp [shareL]
/-- Is a position in a window? -/
def posB (pos : Int) (w : WinS) : Bool := decide (w.at_ ≤ pos) && decide (pos < w.at_ + w.long)
def windowB (t : TabS) (pos : Int) : Int := if rightB t then idxB (posB pos) t.wins else -1

end Go.Proofs.Ytidlahljhgglcaa
namespace Go.Proofs.Ytidlahljhgglcaa
open Go.RowKit

def partC (p : PartS) : List Value := [iV p.mem, iV p.fuel, iV p.hard]
def winC (x : WinS) : List Value := [iV x.part, iV x.at_, iV x.long]
def chanC (x : ChanS) : List Value := [iV x.src, iV x.dst, iV x.depth]

theorem in_any (n a b : Int) (w : World) :
    Calls Try.prog 58 #[.int .i64 n, .int .i64 a, .int .i64 b] w fun e w' => e = .returned (.bool (inB n a b)) ∧ w = w' := by
  by_cases h1 : a ≤ n
  · by_cases h2 : n ≤ b
    · have h : inB n a b = true := by simp [inB, h1, h2]
      rw [h]
      clear h
      go_enter Try.func58, Try.ntmps58
      go_wp2_with fail
      go_ret
      exact ⟨rfl, rfl⟩
    · have h : inB n a b = false := by simp [inB, h2]
      rw [h]
      clear h
      go_enter Try.func58, Try.ntmps58
      go_wp2_with fail
      go_ret
      exact ⟨rfl, rfl⟩
  · have h : inB n a b = false := by simp [inB, h1]
    have h3 : decide (a ≤ n) = false := by simp; omega
    rw [h]
    clear h
    go_enter Try.func58, Try.ntmps58
    go_wp2_with fail
    go_ret
    exact ⟨rfl, rfl⟩
theorem bad_any (p : PartS) (w : World) :
    Calls Try.prog 60 #[.agg #[.int .i64 p.mem, .int .i64 p.fuel, .int .i64 p.hard]] w fun e w' => e = .returned (.bool (badB p)) ∧ Below w.heap.size w w' := by
  obtain ⟨m, f, h⟩ := p
  simp only
  have HB : Hid (badB ⟨m, f, h⟩ = (!(inB m 1 16) || !(inB f 1 32) || !(inB h 0 65535))) := rfl
  have hb : Below w.heap.size w (w.alloc (.cells #[.int .i64 m, .int .i64 f, .int .i64 h] 107)) := (Below.refl _ _).alloc (Nat.le_refl _) _
  have i1 := hid (fun w => in_any m 1 16 w)
  have i2 := hid (fun w => in_any f 1 32 w)
  have i3 := hid (fun w => in_any h 0 65535 w)
  generalize inB m 1 16 = b1 at HB i1
  generalize inB f 1 32 = b2 at HB i2
  generalize inB h 0 65535 = b3 at HB i3
  generalize badB ⟨m, f, h⟩ = r at HB ⊢
  have hr := HB.out
  clear HB
  cases b1 <;> cases b2 <;> simp only [Bool.not_false, Bool.not_true, Bool.true_or, Bool.or_true, Bool.false_or, Bool.or_false] at hr <;> subst hr
  all_goals
    go_enter Try.func60, Try.ntmps60
    go_wp2_with (first | (go_at_call_of 58 (Value.int IntKind.i64 16); refine (i1.out _).mono ?_; rintro e w' ⟨rfl, rfl⟩) | (go_at_call_of 58 (Value.int IntKind.i64 32); refine (i2.out _).mono ?_; rintro e w' ⟨rfl, rfl⟩) | (go_at_call_of 58 (Value.int IntKind.i64 65535); refine (i3.out _).mono ?_; rintro e w' ⟨rfl, rfl⟩))
    go_ret
    exact ⟨rfl, hb⟩
theorem indexPart_any (A : Option Addr) (n c : Nat) (l : List PartS) (w : World) (h : RdS w w.heap.size 3 A n partC l) (hn : n ≤ 100000) :
    Calls Try.prog 92 #[.slice A n c, .func (Fn.func 60) #[] #[]] w fun e w' => e = .returned (.int .i64 (idxB badB l)) ∧ Below w.heap.size w w' := by
  go_enter Try.func92, Try.ntmps92
  go_wp2_with fail
  go_loopw [4, 5, 8] (fun _ _ v8 wr => ∃ k : Nat, k ≤ n ∧ v8 = .int .i64 (k : Int) ∧ Hid (∀ x ∈ l.take k, badB x = false) ∧ Below w.heap.size w wr) (fun _ _ v8 _ => n - (intOf v8).toNat)
  case atStart => exact ⟨0, by omega, rfl, by refine hid ?_; simp, Below.refl _ _⟩
  case round =>
    obtain ⟨k, hk, rfl, HK, hbel⟩ := hrel
    by_cases hkn : k < n
    · obtain ⟨ad, x, rfl, had, hx, hc0, hc⟩ := (h.belowS hbel).at_ hkn
      have c0 := hc0 _ rfl
      have c1 := hc 0 _ rfl
      have c2 := hc 1 _ rfl
      have HX := hid hx
      have hbad := hid (bad_any x wr)
      clear hc hc0 hx
      by_cases hb : badB x = true
      · have hfi := hid (idxB_at badB l k x HX.out hb HK.out)
        rw [hb] at hbad
        clear hb
        go_wp2_with fail
        refine hbad.out.mono ?_
        rintro e w2 ⟨rfl, hb2⟩
        go_wp2_with fail
        go_ret
        exact ⟨by rw [hfi.out]; rfl, bel_trans hbel hb2⟩
      · have hb' : badB x = false := by simpa using hb
        rw [hb'] at hbad
        have HS := hid (any_take badB l k x HX.out hb' HK.out)
        clear hb hb'
        go_wp2_with fail
        refine hbad.out.mono ?_
        rintro e w2 ⟨rfl, hb2⟩
        go_wp2_with fail
        go_roundw
        case rel => exact ⟨k + 1, by omega, by go_num, HS, bel_trans hbel hb2⟩
        case measure => simp [intOf]; omega
    · obtain rfl : k = n := by omega
      have hfi := hid (idxB_none badB l (fun x hx => HK.out x (by rw [List.take_of_length_le (by rw [h.len]; exact Nat.le_refl _)]; exact hx)))
      go_wp2_with fail
      go_ret
      exact ⟨by rw [hfi.out]; rfl, hbel⟩
theorem containsPart_any (A : Option Addr) (n c : Nat) (l : List PartS) (w : World) (h : RdS w w.heap.size 3 A n partC l) (hn : n ≤ 100000) :
    Calls Try.prog 59 #[.slice A n c, .func (Fn.func 60) #[] #[]] w fun e w' => e = .returned (.bool (l.any badB)) ∧ Below w.heap.size w w' := by
  have hi := hid (indexPart_any A n c l w h hn)
  have hd := hid (idxB_nonneg badB l)
  generalize idxB badB l = i at hi hd
  generalize l.any badB = r at hd ⊢
  go_enter Try.func59, Try.ntmps59
  go_wp2_with fail
  refine hi.out.mono ?_
  rintro e w1 ⟨rfl, hb⟩
  go_wp2_with fail
  go_ret
  exact ⟨ret_bool hd.out, hb⟩
/-! ### A table by value: its five cells; where its three lists lie. -/
/-- Where a table's lists lie. -/
structure TabA where
  A1 : Option Addr
  c1 : Nat
  A2 : Option Addr
  c2 : Nat
  A3 : Option Addr
  c3 : Nat
/-- A table's cells. -/
def tabC (t : TabS) (a : TabA) : List Value := [iV t.frame, .slice a.A1 t.parts.length a.c1, .slice a.A2 t.wins.length a.c2, .slice a.A3 t.chans.length a.c3, iV t.trial]
def TabIn (w : World) (t : TabS) (a : TabA) : Prop :=
  RdS w w.heap.size 3 a.A1 t.parts.length partC t.parts ∧ RdS w w.heap.size 3 a.A2 t.wins.length winC t.wins ∧ RdS w w.heap.size 3 a.A3 t.chans.length chanC t.chans
theorem TabIn.belowS {w w' : World} {t : TabS} {a : TabA} (h : TabIn w t a) (hb : Below w.heap.size w w') : TabIn w' t a := ⟨h.1.belowS hb, h.2.1.belowS hb, h.2.2.belowS hb⟩
theorem has_any (t : TabS) (a : TabA) (p : Int) (w : World) (hn : t.parts.length ≤ 100000) :
    Calls Try.prog 64 #[.agg #[.int .i64 t.frame, .slice a.A1 t.parts.length a.c1, .slice a.A2 t.wins.length a.c2, .slice a.A3 t.chans.length a.c3, .int .i64 t.trial], .int .i64 p] w fun e w' => e = .returned (.bool (hasB t p)) ∧ Below w.heap.size w w' := by
  obtain ⟨frame, parts, wins, chans, trial⟩ := t
  obtain ⟨A1, c1, A2, c2, A3, c3⟩ := a
  simp only at hn ⊢
  have hi := hid (fun w => in_any p 0 ((parts.length : Int) - 1) w)
  unfold hasB
  simp only
  generalize inB p 0 ((parts.length : Int) - 1) = r at hi ⊢
  generalize parts.length = n1 at hn hi ⊢
  generalize wins.length = n2
  generalize chans.length = n3
  have hb : Below w.heap.size w (w.alloc (.cells #[.int .i64 frame, .slice A1 n1 c1, .slice A2 n2 c2, .slice A3 n3 c3, .int .i64 trial] 38)) := (Below.refl _ _).alloc (Nat.le_refl _) _
  go_enter Try.func64, Try.ntmps64
  go_wp2_with fail
  refine (hi.out _).mono ?_
  rintro e w1 ⟨rfl, rfl⟩
  go_wp2_with fail
  go_ret
  exact ⟨rfl, hb⟩
/-- The cells of a block that holds a table. -/
theorem tab_cells {w : World} {g : Nat} {t : TabS} {a : TabA} (h : Blk w g 38 (tabC t a)) :
    w.cell? ⟨g, 0, none⟩ = some (.int .i64 t.frame) ∧ w.cell? ⟨g, 1, none⟩ = some (.slice a.A1 t.parts.length a.c1) ∧ w.cell? ⟨g, 2, none⟩ = some (.slice a.A2 t.wins.length a.c2) ∧ w.cell? ⟨g, 3, none⟩ = some (.slice a.A3 t.chans.length a.c3) ∧ w.cell? ⟨g, 4, none⟩ = some (.int .i64 t.trial) :=
  ⟨h.cellAt rfl, h.cellAt rfl, h.cellAt rfl, h.cellAt rfl, h.cellAt rfl⟩
theorem right1_any (t : TabS) (a : TabA) (c : ChanS) (g : Nat) (w : World) (hblk : Blk w g 38 (tabC t a)) (hn : t.parts.length ≤ 100000) :
    Calls Try.prog 63 #[.agg #[.int .i64 c.src, .int .i64 c.dst, .int .i64 c.depth], .pointer (some ⟨g, 0, none⟩)] w fun e w' => e = .returned (.bool (chanBad t c)) ∧ Below w.heap.size w w' := by
  obtain ⟨src, dst, depth⟩ := c
  simp only
  have HB : Hid (chanBad t ⟨src, dst, depth⟩ = (!(hasB t src) || !(hasB t dst) || (src == dst) || !(inB depth 0 4))) := rfl
  have i1 := hid (fun w => has_any t a src w hn)
  have i2 := hid (fun w => has_any t a dst w hn)
  have i3 := hid (fun w => in_any depth 0 4 w)
  generalize hasB t src = b1 at HB i1
  generalize hasB t dst = b2 at HB i2
  generalize inB depth 0 4 = b3 at HB i3
  generalize chanBad t ⟨src, dst, depth⟩ = r at HB ⊢
  have hb0 : Below w.heap.size w (w.alloc (.cells #[.int .i64 src, .int .i64 dst, .int .i64 depth] 69)) := (Below.refl _ _).alloc (Nat.le_refl _) _
  have hblk1 := hblk.alloc (.cells #[.int .i64 src, .int .i64 dst, .int .i64 depth] 69)
  obtain ⟨c0, c1, c2, c3, c4⟩ := tab_cells hblk1
  have hsrc : Blk (w.alloc (.cells #[.int .i64 src, .int .i64 dst, .int .i64 depth] 69)) w.heap.size 69 [.int .i64 src, .int .i64 dst, .int .i64 depth] := Blk.new w _ _
  have hr := HB.out
  clear HB
  cases b1
  · simp only [Bool.not_false, Bool.true_or] at hr
    subst hr
    clear hsrc hblk1 hblk
    go_enter Try.func63, Try.ntmps63
    go_wp2_with fail
    refine (i1.out _).mono ?_
    rintro e w1 ⟨rfl, hb1⟩
    go_wp2_with fail
    go_ret
    exact ⟨rfl, bel_trans hb0 hb1⟩
  · simp only [Bool.not_true, Bool.false_or] at hr
    go_enter Try.func63, Try.ntmps63
    go_wp2_with fail
    refine (i1.out _).mono ?_
    rintro e w1 ⟨rfl, hb1⟩
    have hsrc1 := hsrc.belowS hb1
    have hblk2 := hblk1.belowS hb1
    have s0 := hsrc1.cellAt (i := 0) rfl
    have s1 := hsrc1.cellAt (i := 1) rfl
    have s2 := hsrc1.cellAt (i := 2) rfl
    clear c0 c1 c2 c3 c4
    obtain ⟨c0, c1, c2, c3, c4⟩ := tab_cells hblk2
    cases b2
    · simp only [Bool.not_false, Bool.true_or] at hr
      subst hr
      clear hsrc hblk1 hblk hsrc1 hblk2
      go_wp2_with fail
      refine (i2.out _).mono ?_
      rintro e w2 ⟨rfl, hb2⟩
      go_wp2_with fail
      go_ret
      exact ⟨rfl, bel_trans (bel_trans hb0 hb1) hb2⟩
    · simp only [Bool.not_true, Bool.false_or] at hr
      have HR := hid hr
      clear hr
      go_wp2_with fail
      refine (i2.out _).mono ?_
      rintro e w2 ⟨rfl, hb2⟩
      have hsrc2 := hsrc1.belowS hb2
      clear s0 s1 s2 c0 c1 c2 c3 c4
      have s0 := hsrc2.cellAt (i := 0) rfl
      have s1 := hsrc2.cellAt (i := 1) rfl
      have s2 := hsrc2.cellAt (i := 2) rfl
      by_cases hsd : src = dst
      · have hrt : r = true := by rw [HR.out]; simp [hsd]
        subst hrt hsd
        go_wp2_with fail
        go_ret
        exact ⟨rfl, bel_trans (bel_trans hb0 hb1) hb2⟩
      · have hsdb : (src == dst) = false := by simpa using hsd
        have hrt : r = !b3 := by rw [HR.out, hsdb]; rfl
        subst hrt
        clear hsd
        go_wp2_with fail
        refine (i3.out _).mono ?_
        rintro e w3 ⟨rfl, rfl⟩
        go_wp2_with fail
        go_ret
        exact ⟨rfl, bel_trans (bel_trans hb0 hb1) hb2⟩
theorem indexChan_any (A : Option Addr) (n c : Nat) (l : List ChanS) (t : TabS) (a : TabA) (g : Nat) (w : World) (h : RdS w w.heap.size 3 A n chanC l) (hn : n ≤ 100000) (hblk : Blk w g 38 (tabC t a)) (hn2 : t.parts.length ≤ 100000) :
    Calls Try.prog 93 #[.slice A n c, .func (Fn.func 63) #[] #[.pointer (some ⟨g, 0, none⟩)]] w fun e w' => e = .returned (.int .i64 (idxB (chanBad t) l)) ∧ Below w.heap.size w w' := by
  go_enter Try.func93, Try.ntmps93
  go_wp2_with fail
  go_loopw [4, 5, 8] (fun _ _ v8 wr => ∃ k : Nat, k ≤ n ∧ v8 = .int .i64 (k : Int) ∧ Hid (∀ x ∈ l.take k, (chanBad t) x = false) ∧ Below w.heap.size w wr) (fun _ _ v8 _ => n - (intOf v8).toNat)
  case atStart => exact ⟨0, by omega, rfl, by refine hid ?_; simp, Below.refl _ _⟩
  case round =>
    obtain ⟨k, hk, rfl, HK, hbel⟩ := hrel
    by_cases hkn : k < n
    · obtain ⟨ad, x, rfl, had, hx, hc0, hc⟩ := (h.belowS hbel).at_ hkn
      have c0 := hc0 _ rfl
      have c1 := hc 0 _ rfl
      have c2 := hc 1 _ rfl
      have HX := hid hx
      have hbad := hid (right1_any t a x g wr (hblk.belowS hbel) hn2)
      clear hc hc0 hx
      by_cases hb : (chanBad t) x = true
      · have hfi := hid (idxB_at (chanBad t) l k x HX.out hb HK.out)
        rw [hb] at hbad
        clear hb
        go_wp2_with fail
        refine hbad.out.mono ?_
        rintro e w2 ⟨rfl, hb2⟩
        go_wp2_with fail
        go_ret
        exact ⟨by rw [hfi.out]; rfl, bel_trans hbel hb2⟩
      · have hb' : (chanBad t) x = false := by simpa using hb
        rw [hb'] at hbad
        have HS := hid (any_take (chanBad t) l k x HX.out hb' HK.out)
        clear hb hb'
        go_wp2_with fail
        refine hbad.out.mono ?_
        rintro e w2 ⟨rfl, hb2⟩
        go_wp2_with fail
        go_roundw
        case rel => exact ⟨k + 1, by omega, by go_num, HS, bel_trans hbel hb2⟩
        case measure => simp [intOf]; omega
    · obtain rfl : k = n := by omega
      have hfi := hid (idxB_none (chanBad t) l (fun x hx => HK.out x (by rw [List.take_of_length_le (by rw [h.len]; exact Nat.le_refl _)]; exact hx)))
      go_wp2_with fail
      go_ret
      exact ⟨by rw [hfi.out]; rfl, hbel⟩
theorem containsChan_any (A : Option Addr) (n c : Nat) (l : List ChanS) (t : TabS) (a : TabA) (g : Nat) (w : World) (h : RdS w w.heap.size 3 A n chanC l) (hn : n ≤ 100000) (hblk : Blk w g 38 (tabC t a)) (hn2 : t.parts.length ≤ 100000) :
    Calls Try.prog 62 #[.slice A n c, .func (Fn.func 63) #[] #[.pointer (some ⟨g, 0, none⟩)]] w fun e w' => e = .returned (.bool (l.any (chanBad t))) ∧ Below w.heap.size w w' := by
  have hi := hid (indexChan_any A n c l t a g w h hn hblk hn2)
  have hd := hid (idxB_nonneg (chanBad t) l)
  generalize idxB (chanBad t) l = i at hi hd
  generalize l.any (chanBad t) = r at hd ⊢
  go_enter Try.func62, Try.ntmps62
  go_wp2_with fail
  refine hi.out.mono ?_
  rintro e w1 ⟨rfl, hb⟩
  go_wp2_with fail
  go_ret
  exact ⟨ret_bool hd.out, hb⟩
end Go.Proofs.Ytidlahljhgglcaa
