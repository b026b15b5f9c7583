/-
  Words for memory that all texts of this seat use: a slice that reads as a list, appending to what the call made, small laws on worlds.
  A slice that begins at its block's head, its capacity at most the block's size: reading, cutting, storing, appending.
  Frame tables, plainly: no program in sight.
  Package table: what each function computes.
  Package table: whether all windows may be; whether a table is right.
  Channels that are not there: what port's methods do on nil.
  The two kinds of channels: what their methods do.
  The two kinds of channels: what they have, and how they are emptied.
  A queue's get: the first one goes (slices.Delete by the kit's contract, laid by hand).
  Channels between partitions: the set in memory; there, Send.
  port.Set's Send and Get: what they refuse.
  slices.Clone of channels.
  port.New: a table's channels, each with nothing (under way).
  port.Set's Has and Len, on both kinds of channels; a channel that is not there.
  Slices of small structs as cells.
  Channels between partitions: a whole set in memory, its ways apart from one another; what an act on one of them leaves.
  port.New under way: so many channels made, each with nothing, each apart from all else.
-/
import Derived.Test.YtidlahljhgglcaaGreatProg
import Derived.WalkKit
import Derived.WalkSpells
import Derived.WalkLawsBesides
import Derived.Handy
import Derived.Maps.AppendAt
import Derived.Deep.AppendLies
import Derived.Deep.QuietTactic
import Derived.Deep.Draws
import Derived.BigQuiet
import Derived.Lib.Hide
import Derived.Lib.SlBytesConst
import Derived.Deep.DeepCutAuto
import Derived.Deep.LoopGhost
import Derived.Deep.DeepMust
import Derived.Deep.RegionWith
import Derived.Deep.RegionHeld3
import Derived.Shelf.Slices.Cells
namespace Go.Proofs.YtidlahljhgglcaaGreat
open Go.RowKit

/-- A byte, and an int, as the machine holds them. -/
abbrev bV (b : UInt8) : Value := .int .u8 (b.toNat : Int)
abbrev iV (n : Int) : Value := .int .i64 n

theorem hid {p : Prop} (h : p) : Hid p := h
theorem ret_int {k : IntKind} {a b : Int} (h : a = b) : Ending.returned (.int k a) = .returned (.int k b) := by rw [h]
theorem ret_bool {a b : Bool} (h : a = b) : Ending.returned (.bool a) = .returned (.bool b) := by rw [h]

theorem block_add (a : Addr) (n : Nat) : (a.add n).block = a.block := by unfold Addr.add; split <;> rfl
theorem add_add' (a : Addr) (i j : Nat) : (a.add i).add j = a.add (i + j) := by
  unfold Addr.add
  by_cases hi : i = 0 <;> by_cases hj : j = 0 <;> simp [hi, hj, Nat.add_assoc]
theorem add_none (b o i : Nat) : (⟨b, o, none⟩ : Addr).add i = ⟨b, o + i, none⟩ := by unfold Addr.add; split <;> simp_all

/-! ### A slice that reads as a list of cells, nil let in; it lies below block B. -/
def Reads (w : World) (B size : Nat) (A : Option Addr) (n : Nat) (xs : List Value) : Prop :=
  xs.length = n * size ∧ (0 < n → ∃ ad, A = some ad ∧ ad.block < B ∧ ∀ j u, xs[j]? = some u → w.cell? (ad.add j) = some u)

section
variable {w w' : World} {B B' size n : Nat} {A : Option Addr} {xs : List Value}
theorem Reads.len (h : Reads w B size A n xs) : xs.length = n * size := h.1
theorem Reads.empty : Reads w B size A 0 [] := ⟨by simp, fun h => absurd h (by omega)⟩
theorem Reads.form (h : Reads w B size A n xs) (hn : 0 < n) : ∃ ad, A = some ad ∧ ad.block < B ∧ ∀ j u, xs[j]? = some u → w.cell? (ad.add j) = some u := h.2 hn
theorem Reads.at_ {k : Nat} (h : Reads w B 1 A n xs) (hk : k < n) : ∃ ad u, A = some ad ∧ ad.block < B ∧ xs[k]? = some u ∧ w.cell? (ad.add k) = some u := by
  obtain ⟨ad, e, hb, hc⟩ := h.2 (by omega)
  have hl : k < xs.length := by have := h.1; omega
  exact ⟨ad, xs[k], e, hb, List.getElem?_eq_getElem hl, hc k _ (List.getElem?_eq_getElem hl)⟩
theorem Reads.atM {α : Type} {f : α → Value} {l : List α} {k : Nat} (h : Reads w B 1 A n (l.map f)) (hk : k < n) : ∃ ad x, A = some ad ∧ ad.block < B ∧ l[k]? = some x ∧ w.cell? (ad.add k) = some (f x) := by
  obtain ⟨ad, u, e, hb, hu, hc⟩ := h.at_ hk
  rw [List.getElem?_map] at hu
  cases hx : l[k]? with
  | none => rw [hx] at hu; simp at hu
  | some x => rw [hx] at hu; simp at hu; exact ⟨ad, x, e, hb, rfl, by rw [hc, hu]⟩
theorem Reads.keep (h : Reads w B size A n xs) (hk : ∀ p : Addr, p.block < B → w'.cell? p = w.cell? p) : Reads w' B size A n xs :=
  ⟨h.1, fun hn => by
    obtain ⟨ad, e, hb, hc⟩ := h.2 hn
    exact ⟨ad, e, hb, fun j u hu => (hk _ (by rw [block_add]; exact hb)).trans (hc j u hu)⟩⟩
theorem Reads.more (h : Reads w B size A n xs) (hB : B ≤ B') : Reads w B' size A n xs :=
  ⟨h.1, fun hn => by
    obtain ⟨ad, e, hb, hc⟩ := h.2 hn
    exact ⟨ad, e, by omega, hc⟩⟩
theorem Reads.below (h : Reads w B size A n xs) (hb : Below B w w') : Reads w' B size A n xs := h.keep fun _ hp => hb.cell hp
theorem Reads.drew (h : Reads w B size A n xs) : Reads w.drew B size A n xs := h
theorem Reads.drewN (h : Reads w B size A n xs) (k : Nat) : Reads (w.drewN k) B size A n xs := h
theorem Reads.alloc (h : Reads w B size A n xs) (hB : B ≤ w.heap.size) (o : Obj) : Reads (w.alloc o) B size A n xs := h.keep fun p hp => World.cell?_alloc_lt w o p (by omega)
theorem Reads.setCell (h : Reads w B size A n xs) {p : Addr} (hB : B ≤ p.block) (u : Value) : Reads (w.setCell p u) B size A n xs :=
  h.keep fun q hq => World.cell?_setCell_other w p q u (fun e => by subst e; omega)
theorem Reads.grown (h : Reads w B size A n xs) {row : Option Nat} (hg : w.grownBy w' row) (hB : B ≤ w.heap.size) (hr : ∀ g, row = some g → B ≤ g) : Reads w' B size A n xs :=
  h.keep fun p hp => World.cell?_of_block (hg.block p.block (by omega) (fun e => by have := hr _ e.symm; omega))
theorem Reads.front (h : Reads w B size A n xs) {k : Nat} (hk : k ≤ n) : Reads w B size A k (xs.take (k * size)) := by
  have hks : k * size ≤ n * size := Nat.mul_le_mul_right _ hk
  refine ⟨by rw [List.length_take, h.1]; omega, fun hp => ?_⟩
  obtain ⟨ad, rfl, hb, hc⟩ := h.2 (by omega)
  refine ⟨ad, rfl, hb, fun j u hu => hc j u ?_⟩
  rw [List.getElem?_take] at hu
  split at hu
  · exact hu
  · cases hu
theorem Reads.cut (h : Reads w B size A n xs) {k cap : Nat} (hk : k ≤ n) (hc : n ≤ cap) :
    Reads w B size (if cap = k then A else A.map (·.add (k * size))) (n - k) (xs.drop (k * size)) := by
  refine ⟨by rw [List.length_drop, h.1, Nat.sub_mul], fun hn => ?_⟩
  obtain ⟨ad, rfl, hb, hcell⟩ := h.2 (by omega)
  rw [if_neg (by omega)]
  refine ⟨ad.add (k * size), rfl, by rw [block_add]; exact hb, fun j u hu => ?_⟩
  rw [add_add']
  exact hcell _ u (by rw [← hu, List.getElem?_drop])
theorem Reads.of_own {base : Nat} {e : TypeId} {c : Nat} (h : w.ownsRow base e size (.slice A n c) n xs) : Reads w w.heap.size size A n xs := by
  refine ⟨h.1, fun hn => ?_⟩
  obtain ⟨g, cap, hv, _, hlt⟩ := h.form hn
  have hA : A = some ⟨g, 0, none⟩ := by injection hv
  subst hA
  exact ⟨_, rfl, hlt, h.cells (g := g) rfl⟩
/-- A slice literal that was just laid. -/
theorem Reads.lit {cs : Array Value} {e : TypeId} {g : Nat} (h : w.heap[g]? = some (.cells cs e (0, 0))) (hs : cs.size = n * size) : Reads w w.heap.size size (some ⟨g, 0, none⟩) n cs.toList := by
  refine ⟨by simpa using hs, fun _ => ⟨_, rfl, (Array.getElem?_eq_some_iff.1 h).1, fun j u hu => ?_⟩⟩
  rw [add_none, cell_of_row w g _ cs e (0, 0) h]
  simpa using hu
end

/-- A slice of slices of bytes. -/
def Reads2 (w : World) (B : Nat) (A : Option Addr) (n : Nat) (ls : List (List UInt8)) : Prop :=
  ls.length = n ∧ ∀ k l, ls[k]? = some l → ∃ ad A' c', A = some ad ∧ ad.block < B ∧ w.cell? (ad.add k) = some (.slice A' l.length c') ∧ Reads w B 1 A' l.length (l.map bV) ∧ l.length ≤ c' ∧ c' ≤ maxLen
section
variable {w w' : World} {B B' n : Nat} {A : Option Addr} {ls : List (List UInt8)}
theorem Reads2.len (h : Reads2 w B A n ls) : ls.length = n := h.1
theorem Reads2.at_ {k : Nat} (h : Reads2 w B A n ls) (hk : k < n) : ∃ l ad A' c', ls[k]? = some l ∧ A = some ad ∧ ad.block < B ∧ w.cell? (ad.add k) = some (.slice A' l.length c') ∧ Reads w B 1 A' l.length (l.map bV) ∧ l.length ≤ c' ∧ c' ≤ maxLen := by
  have hl : k < ls.length := by rw [h.1]; exact hk
  obtain ⟨ad, A', c', r⟩ := h.2 k ls[k] (List.getElem?_eq_getElem hl)
  exact ⟨ls[k], ad, A', c', List.getElem?_eq_getElem hl, r⟩
theorem Reads2.keep (h : Reads2 w B A n ls) (hk : ∀ p : Addr, p.block < B → w'.cell? p = w.cell? p) : Reads2 w' B A n ls :=
  ⟨h.1, fun k l hl => by
    obtain ⟨ad, A', c', h1, h2, h3, h4, h5⟩ := h.2 k l hl
    exact ⟨ad, A', c', h1, h2, (hk _ (by rw [block_add]; exact h2)).trans h3, h4.keep hk, h5⟩⟩
theorem Reads2.more (h : Reads2 w B A n ls) (hB : B ≤ B') : Reads2 w B' A n ls :=
  ⟨h.1, fun k l hl => by
    obtain ⟨ad, A', c', h1, h2, h3, h4, h5⟩ := h.2 k l hl
    exact ⟨ad, A', c', h1, by omega, h3, h4.more hB, h5⟩⟩
theorem Reads2.below (h : Reads2 w B A n ls) (hb : Below B w w') : Reads2 w' B A n ls := h.keep fun _ hp => hb.cell hp
theorem Reads2.belowS (h : Reads2 w w.heap.size A n ls) (hb : Below w.heap.size w w') : Reads2 w' w'.heap.size A n ls := (h.below hb).more hb.size
end

/-- A slice of structs of one-cell fields: 'cells x' are an element's cells. -/
def RdS {α : Type} (w : World) (B size : Nat) (A : Option Addr) (n : Nat) (cells : α → List Value) (l : List α) : Prop :=
  l.length = n ∧ ∀ k x, l[k]? = some x → ∃ ad, A = some ad ∧ ad.block < B ∧ ∀ j u, (cells x)[j]? = some u → w.cell? (ad.add (k * size + j)) = some u
section
variable {α : Type} {w w' : World} {B B' size n : Nat} {A : Option Addr} {cells : α → List Value} {l : List α}
theorem RdS.len (h : RdS w B size A n cells l) : l.length = n := h.1
theorem RdS.nil : RdS w B size none 0 cells ([] : List α) := ⟨rfl, fun k x hk => by simp at hk⟩
theorem RdS.at_ {k : Nat} (h : RdS w B size A n cells l) (hk : k < n) : ∃ ad x, A = some ad ∧ ad.block < B ∧ l[k]? = some x ∧ (∀ u, (cells x)[0]? = some u → w.cell? (ad.add (k * size)) = some u) ∧
    (∀ j u, (cells x)[j + 1]? = some u → w.cell? ⟨(ad.add (k * size)).block, (ad.add (k * size)).off + (j + 1), none⟩ = some u) := by
  have hl : k < l.length := by rw [h.1]; exact hk
  obtain ⟨ad, e, hb, hc⟩ := h.2 k l[k] (List.getElem?_eq_getElem hl)
  refine ⟨ad, l[k], e, hb, List.getElem?_eq_getElem hl, fun u hu => hc 0 u hu, fun j u hu => ?_⟩
  have := hc (j + 1) u hu
  rw [← add_add'] at this
  exact this
theorem RdS.keep (h : RdS w B size A n cells l) (hk : ∀ p : Addr, p.block < B → w'.cell? p = w.cell? p) : RdS w' B size A n cells l :=
  ⟨h.1, fun k x hx => by
    obtain ⟨ad, e, hb, hc⟩ := h.2 k x hx
    exact ⟨ad, e, hb, fun j u hu => (hk _ (by rw [block_add]; exact hb)).trans (hc j u hu)⟩⟩
theorem RdS.more (h : RdS w B size A n cells l) (hB : B ≤ B') : RdS w B' size A n cells l :=
  ⟨h.1, fun k x hx => by
    obtain ⟨ad, e, hb, hc⟩ := h.2 k x hx
    exact ⟨ad, e, by omega, hc⟩⟩
theorem RdS.below (h : RdS w B size A n cells l) (hb : Below B w w') : RdS w' B size A n cells l := h.keep fun _ hp => hb.cell hp
theorem RdS.belowS (h : RdS w w.heap.size size A n cells l) (hb : Below w.heap.size w w') : RdS w' w'.heap.size size A n cells l := (h.below hb).more hb.size
theorem RdS.alloc (h : RdS w B size A n cells l) (hB : B ≤ w.heap.size) (o : Obj) : RdS (w.alloc o) B size A n cells l := h.keep fun p hp => World.cell?_alloc_lt w o p (by omega)
end

/-! ### A block that is known whole. -/
def Blk (w : World) (g : Nat) (t : TypeId) (cs : List Value) : Prop := w.heap[g]? = some (.cells cs.toArray t (0, 0))
section
variable {w w' : World} {g : Nat} {t : TypeId} {cs : List Value}
theorem Blk.lt (h : Blk w g t cs) : g < w.heap.size := (Array.getElem?_eq_some_iff.1 h).1
theorem Blk.cell (h : Blk w g t cs) (i : Nat) : w.cell? ⟨g, i, none⟩ = cs[i]? := by
  rw [cell_of_row w g i cs.toArray t (0, 0) h]; simp
theorem Blk.cellAt (h : Blk w g t cs) {i : Nat} {v : Value} (hi : cs[i]? = some v) : w.cell? ⟨g, i, none⟩ = some v := (h.cell i).trans hi
theorem Blk.frozen (h : Blk w g t cs) (i : Nat) : w.frozen? ⟨g, i, none⟩ = false := frozen_of_row w g i cs.toArray t h
theorem Blk.new (w : World) (t : TypeId) (cs : List Value) : Blk (w.alloc (.cells cs.toArray t)) w.heap.size t cs := heap_alloc_new w _
theorem Blk.drew (h : Blk w g t cs) : Blk w.drew g t cs := h
theorem Blk.drewN (h : Blk w g t cs) (n : Nat) : Blk (w.drewN n) g t cs := h
theorem Blk.alloc (h : Blk w g t cs) (o : Obj) : Blk (w.alloc o) g t cs := (Below.heap_alloc w o g h.lt).trans h
theorem Blk.set_ (h : Blk w g t cs) (i : Nat) (u : Value) : Blk (w.setCell ⟨g, i, none⟩ u) g t (cs.set i u) := by
  have := heap_setCell_same w g i cs.toArray t u h
  unfold Blk
  rw [this]
  simp
theorem Blk.far (h : Blk w g t cs) {p : Addr} (hp : g ≠ p.block) (u : Value) : Blk (w.setCell p u) g t cs := (Below.heap_setCell w p u g hp).trans h
theorem Blk.below {B : Nat} (h : Blk w g t cs) (hb : Below B w w') (hg : g < B) : Blk w' g t cs := (hb.block g hg).trans h
theorem Blk.belowS (h : Blk w g t cs) (hb : Below w.heap.size w w') : Blk w' g t cs := h.below hb h.lt
theorem Blk.grown {row : Option Nat} (h : Blk w g t cs) (hb : w.grownBy w' row) (hg : some g ≠ row) : Blk w' g t cs := (hb.block g h.lt hg).trans h
theorem Blk.ne_ {g' : Nat} {t' : TypeId} {cs' : List Value} (h : Blk w g t cs) (h' : Blk w g' t' cs') (hne : t ≠ t') : g ≠ g' := by
  rintro rfl
  unfold Blk at h h'
  rw [h] at h'
  injection h' with h'
  injection h' with _ ht
  exact hne ht
end

/-! ### What the call made. -/
/-- What a value that owns a row looks like. -/
theorem own_form {w : World} {base : Nat} {e : TypeId} {size : Nat} {v : Value} {n : Nat} {xs : List Value} (h : w.ownsRow base e size v n xs) : ∃ A c, v = .slice A n c := by
  rcases h.2 with ⟨rfl, rfl⟩ | ⟨g, cap, _, rfl, _⟩
  · exact ⟨_, _, rfl⟩
  · exact ⟨_, _, rfl⟩
theorem own_some {w : World} {base : Nat} {e : TypeId} {size : Nat} {A : Option Addr} {n c : Nat} {xs : List Value} (h : w.ownsRow base e size (.slice A n c) n xs) (hn : 0 < n) : ∃ g, A = some ⟨g, 0, none⟩ ∧ base ≤ g ∧ g < w.heap.size := by
  obtain ⟨g, cap, hv, hg, hlt⟩ := h.form hn
  injection hv with hv _ _
  exact ⟨g, hv, hg, hlt⟩
theorem own_cap {w : World} {base : Nat} {e : TypeId} {size : Nat} {A : Option Addr} {n c : Nat} {xs : List Value} (h : w.ownsRow base e size (.slice A n c) n xs) : n ≤ c ∧ c ≤ maxLen := by
  rcases h.2 with ⟨hv, rfl⟩ | ⟨g, cap, _, hv, _, _, hc, hm, _⟩
  · injection hv with _ _ hv
    subst hv
    exact ⟨Nat.le_refl _, by simp [maxLen]⟩
  · injection hv with _ _ hv
    subst hv
    exact ⟨hc, hm⟩
theorem own_len {w : World} {base : Nat} {e : TypeId} {size : Nat} {v : Value} {n : Nat} {xs : List Value} (h : w.ownsRow base e size v n xs) : xs.length = n * size := h.1
theorem own_mono {w : World} {base base' : Nat} {e : TypeId} {size : Nat} {v : Value} {n : Nat} {xs : List Value} (h : w.ownsRow base e size v n xs) (hb : base' ≤ base) : w.ownsRow base' e size v n xs := by
  refine ⟨h.1, ?_⟩
  rcases h.2 with h2 | ⟨g, cap, cur, hv, hg, r⟩
  · exact .inl h2
  · exact .inr ⟨g, cap, cur, hv, by omega, r⟩
/-- What is owned from 'base' on stays owned where all below a greater number stays. -/
theorem own_below {w w' : World} {base : Nat} {e : TypeId} {size : Nat} {v : Value} {n : Nat} {xs : List Value} (h : w.ownsRow base e size v n xs) (hb : Below w.heap.size w w') : w'.ownsRow base e size v n xs := by
  refine ⟨h.1, ?_⟩
  rcases h.2 with h2 | ⟨g, cap, cur, hv, hg, hh, r⟩
  · exact .inl h2
  · exact .inr ⟨g, cap, cur, hv, hg, (hb.block g (Array.getElem?_eq_some_iff.1 hh).1).trans hh, r⟩
/-- The cell at a place of a row that the call made, for reading and for writing. -/
theorem own_cellM {α : Type} {f : α → Value} {l : List α} {w : World} {base : Nat} {e : TypeId} {g n cap k : Nat} (h : w.ownsRow base e 1 (.slice (some ⟨g, 0, none⟩) n cap) n (l.map f)) (hk : k < n) :
    ∃ x, l[k]? = some x ∧ w.cell? ⟨g, k, none⟩ = some (f x) ∧ w.frozen? ⟨g, k, none⟩ = false := by
  have h1 := h.cellAt k (by omega)
  have hl : l.length = n := by simpa using h.1
  refine ⟨l[k], List.getElem?_eq_getElem (by omega), ?_, h.frozenAt k⟩
  rw [h1, List.getElem?_map, List.getElem?_eq_getElem (by omega)]
  rfl
theorem own_storeM {α : Type} {f : α → Value} {l : List α} {w : World} {base : Nat} {e : TypeId} {g n cap : Nat} (h : w.ownsRow base e 1 (.slice (some ⟨g, 0, none⟩) n cap) n (l.map f)) (k : Nat) (x : α) :
    (w.setCell ⟨g, k, none⟩ (f x)).ownsRow base e 1 (.slice (some ⟨g, 0, none⟩) n cap) n ((l.set k x).map f) ∧ Below base w (w.setCell ⟨g, k, none⟩ (f x)) := by
  refine ⟨by rw [List.map_set]; exact (h.stored k (f x)).1, (Below.refl _ _).setCell ?_ _⟩
  exact (h.lt g rfl).1
/-- A call behind a call. -/
theorem bel_trans {a b c : World} (h : Below a.heap.size a b) (k : Below b.heap.size b c) : Below a.heap.size a c := h.trans (k.mono h.size)
theorem bel_alloc {a b : World} (h : Below a.heap.size a b) (o : Obj) : Below a.heap.size a (b.alloc o) := h.alloc h.size o
theorem Reads.belowS {w w' : World} {size n : Nat} {A : Option Addr} {xs : List Value} (h : Reads w w.heap.size size A n xs) (hb : Below w.heap.size w w') : Reads w' w'.heap.size size A n xs := (h.below hb).more hb.size
theorem below_drewN {B : Nat} {a w : World} (h : Below B a w) (n : Nat) : Below B a (w.drewN n) := ⟨h.os, h.tape, h.output, h.size, h.block⟩
/-- Behind an append to what is owned from 'base' on. -/
theorem below_own {B base : Nat} {a w w' : World} {e : TypeId} {size : Nat} {v : Value} {n : Nat} {xs : List Value} (h : Below B a w) (hown : w.ownsRow base e size v n xs) (hg : w.grownBy w' v.ownBlock) (hB : B ≤ base) (hs : B ≤ w.heap.size) : Below B a w' :=
  h.grown hg hs (fun k hk => Nat.le_trans hB (hown.lt k hk).1)
/-- What a slice made by the call looks like; a row behind its own value. -/
def OwnOf (w : World) (base : Nat) (e : TypeId) (A : Option Addr) (n c : Nat) (xs : List Value) : Prop := w.ownsRow base e 1 (.slice A n c) n xs

section
variable {P : Program} (w : World)

theorem run_append_src (base : Nat) (t ty e : TypeId) (i : TypeInfo) (z : Value) (size bytes : Nat) (ht : P.underlying t = some (.slice e)) (hi : P.info? e = some i) (hz : i.zero = some z)
    (hsize : i.size = size) (hby : i.bytes = bytes) (hzs : z.cells.size = size) (hsz : 0 < size)
    (v : Value) (n : Nat) (xs : List Value) (hown : w.ownsRow base e size v n xs)
    (B : Nat) (A : Option Addr) (m c : Nat) (news : List Value) (hr : Reads w B size A m news) (h1 : ∀ u ∈ news, u.oneCell' = true)
    (h63 : n + m ≤ maxLen) (hbytes : (n + m) * bytes ≤ 140737488355328) (hbase : base ≤ w.heap.size) :
    ∃ v' w', (Builtin.append_ #[t, t] ty #[v, .slice A m c]).run P w = .ok v' w' ∧ w'.ownsRow base e size v' (n + m) (xs ++ news) ∧ w.grownBy w' v.ownBlock ∧
      (v'.ownBlock = v.ownBlock ∨ v'.ownBlock = some w.heap.size) := by
  by_cases hm : m = 0
  · subst hm
    have hn : news = [] := List.eq_nil_of_length_eq_zero (by simpa using hr.1)
    subst hn
    have hrun : ∃ w', (Builtin.append_ #[t, t] ty #[v, .slice A 0 c]).run P w = .ok v w' ∧ w' = w := by
      rcases hown.2 with ⟨rfl, rfl⟩ | ⟨g, cap, cur, rfl, _, _, hnc, _⟩
      · cases A <;> simp [Builtin.append_, run_underlying ht, sizeOf, typeInfo, hi, Builtin.lenOf, Builtin.firstCells, loadCells, loadCellsFrom]
      · cases A <;> simp [Builtin.append_, run_underlying ht, sizeOf, typeInfo, hi, Builtin.lenOf, Builtin.firstCells, hnc, storeCells, loadCells, loadCellsFrom]
    obtain ⟨w', hrun, rfl⟩ := hrun
    exact ⟨v, w', hrun, by simpa using hown, ⟨rfl, rfl, rfl, Nat.le_refl _, fun _ _ _ => rfl⟩, .inl rfl⟩
  · obtain ⟨ad, rfl, _, hcells⟩ := hr.2 (by omega)
    obtain ⟨v', w', hrun, h2, h3, _, h5⟩ := run_append_own_at (P := P) w base t ty e i z size bytes ht hi hz hsize hby hzs hsz v n xs hown ad m c news hr.1 hcells h1 h63 hbytes hbase
    exact ⟨v', w', hrun, h2, h3, h5⟩

theorem wp_append_src {o : Oper} {a : Act} {K : Act → World → Prop} {Q : Exit → Act → World → Prop} (s x : Operand) (t : TypeId)
    (ho : o.op = .call { callee := .builtin .append, args := #[s, x], argTypes := #[t, t] })
    (base : Nat) (e : TypeId) (i : TypeInfo) (z : Value) (size bytes : Nat) (ht : P.underlying t = some (.slice e)) (hi : P.info? e = some i) (hz : i.zero = some z)
    (hsize : i.size = size) (hby : i.bytes = bytes) (hzs : z.cells.size = size) (hsz : 0 < size)
    (v : Value) (n : Nat) (xs : List Value) (hs : a.eval s = v) (hown : w.ownsRow base e size v n xs)
    (B : Nat) (A : Option Addr) (m c : Nat) (news : List Value) (hx : a.eval x = .slice A m c) (hr : Reads w B size A m news) (h1 : ∀ u ∈ news, u.oneCell' = true)
    (h63 : n + m ≤ maxLen) (hbytes : (n + m) * bytes ≤ 140737488355328) (hbase : base ≤ w.heap.size)
    (h : ∀ A' c' w', w'.ownsRow base e size (.slice A' (n + m) c') (n + m) (xs ++ news) → w.grownBy w' v.ownBlock → ((Value.slice A' (n + m) c').ownBlock = v.ownBlock ∨ (Value.slice A' (n + m) c').ownBlock = some w.heap.size) → K (a.put o.dst (.slice A' (n + m) c')) w') : o.wp P a w K Q := by
  obtain ⟨v', w', hrun, h2, h3, h4⟩ := run_append_src (P := P) w base t o.type e i z size bytes ht hi hz hsize hby hzs hsz v n xs hown B A m c news hr h1 h63 hbytes hbase
  unfold Oper.wp execOp
  simp only [ho, resolve, invoke, builtin, Sem.run_bind, Sem.run_pure, Result.andThen_ok, List.map_toArray, List.map_cons, List.map_nil, hs, hx, hrun]
  obtain ⟨A', c', rfl⟩ := own_form h2
  exact h A' c' w' h2 h3 h4

theorem wpList_app {ops : Array Oper} {rest : List Oper} {o : Oper} {a : Act} {Q : Exit → Act → World → Prop} (hgd : o.guard = none) (s x : Operand) (t : TypeId)
    (ho : o.op = .call { callee := .builtin .append, args := #[s, x], argTypes := #[t, t] })
    (base : Nat) (e : TypeId) (i : TypeInfo) (z : Value) (size bytes : Nat) (ht : P.underlying t = some (.slice e)) (hi : P.info? e = some i) (hz : i.zero = some z)
    (hsize : i.size = size) (hby : i.bytes = bytes) (hzs : z.cells.size = size) (hsz : 0 < size)
    (v : Value) (n : Nat) (xs : List Value) (hs : a.eval s = v) (hown : w.ownsRow base e size v n xs)
    (B : Nat) (A : Option Addr) (m c : Nat) (news : List Value) (hx : a.eval x = .slice A m c) (hr : Reads w B size A m news) (h1 : ∀ u ∈ news, u.oneCell' = true)
    (h63 : n + m ≤ maxLen) (hbytes : (n + m) * bytes ≤ 140737488355328) (hbase : base ≤ w.heap.size)
    (h : ∀ A' c' w', w'.ownsRow base e size (.slice A' (n + m) c') (n + m) (xs ++ news) → w.grownBy w' v.ownBlock → ((Value.slice A' (n + m) c').ownBlock = v.ownBlock ∨ (Value.slice A' (n + m) c').ownBlock = some w.heap.size) → wpList P ops Q rest (a.put o.dst (.slice A' (n + m) c')) w') : wpList P ops Q (o :: rest) a w :=
  wpList_plain hgd fun _ hK => wp_append_src w s x t ho base e i z size bytes ht hi hz hsize hby hzs hsz v n xs hs hown B A m c news hx hr h1 h63 hbytes hbase fun A' c' w' h2 h3 h4 => hK _ _ (h A' c' w' h2 h3 h4)
end
/-- A slice literal that was just laid, in the world right behind. -/
theorem Reads.new (w : World) (cs : Array Value) (e : TypeId) (n : Nat) (hn : cs.size = n) : Reads (w.alloc (.cells cs e)) (w.heap.size + 1) 1 (some ⟨w.heap.size, 0, none⟩) n cs.toList :=
  (Reads.lit (heap_alloc_new w _) (by omega)).more (by simp)
/-- The same, where the conversion of a constant text has marked the row's end. -/
theorem Reads.newM (w : World) (cs : Array Value) (e : TypeId) (m : Nat × Nat) (n : Nat) (hn : cs.size = n) : Reads (w.alloc (.cells cs e m)) (w.heap.size + 1) 1 (some ⟨w.heap.size, 0, none⟩) n cs.toList := by
  refine ⟨by simp; omega, fun _ => ⟨_, rfl, by simp, fun j u hu => ?_⟩⟩
  rw [add_none, cell_of_row _ w.heap.size _ cs e m (heap_alloc_new w _)]
  simpa using hu
theorem oneCell_b (l : List UInt8) : ∀ u ∈ l.map bV, u.oneCell' = true := by intro u hu; obtain ⟨b, _, rfl⟩ := List.mem_map.1 hu; rfl
theorem oneCell_i (l : List Int) : ∀ u ∈ l.map iV, u.oneCell' = true := by intro u hu; obtain ⟨b, _, rfl⟩ := List.mem_map.1 hu; rfl
end Go.Proofs.YtidlahljhgglcaaGreat
namespace Go.Proofs.YtidlahljhgglcaaGreat
open Go.RowKit

/-- All but the blocks of F is as it was. -/
structure Apart (F : Nat → Prop) (w w' : World) : Prop where
  os : w'.os = w.os
  tape : w'.tape = w.tape
  output : w'.output = w.output
  size : w.heap.size ≤ w'.heap.size
  block : ∀ k, k < w.heap.size → ¬ F k → w'.heap[k]? = w.heap[k]?
section
variable {F G : Nat → Prop} {w w' w'' : World}
theorem Apart.refl (F : Nat → Prop) (w : World) : Apart F w w := ⟨rfl, rfl, rfl, Nat.le_refl _, fun _ _ _ => rfl⟩
theorem Apart.trans (h : Apart F w w') (k : Apart G w' w'') (hG : ∀ b, b < w.heap.size → G b → F b) : Apart F w w'' :=
  ⟨k.os.trans h.os, k.tape.trans h.tape, k.output.trans h.output, Nat.le_trans h.size k.size, fun i hi hF => (k.block i (Nat.lt_of_lt_of_le hi h.size) (fun hg => hF (hG i hi hg))).trans (h.block i hi hF)⟩
theorem Apart.of_below (h : Below w.heap.size w w') : Apart F w w' := ⟨h.os, h.tape, h.output, h.size, fun k hk _ => h.block k hk⟩
theorem Apart.below {B : Nat} (h : Apart F w w') (hB : B ≤ w.heap.size) (hF : ∀ b, F b → B ≤ b) : Below B w w' :=
  ⟨h.os, h.tape, h.output, h.size, fun k hk => h.block k (by omega) (fun hf => by have := hF k hf; omega)⟩
theorem Apart.alloc (h : Apart F w w') (o : Obj) : Apart F w (w'.alloc o) := h.trans (G := fun _ => False) (Apart.of_below ((Below.refl _ _).alloc (Nat.le_refl _) _)) (fun _ _ h => h.elim)
theorem Apart.drew (h : Apart F w w') : Apart F w w'.drew := ⟨h.os, h.tape, h.output, h.size, h.block⟩
theorem Apart.setCell (h : Apart F w w') {p : Addr} (hp : F p.block ∨ w.heap.size ≤ p.block) (u : Value) : Apart F w (w'.setCell p u) :=
  ⟨h.os, h.tape, h.output, by simpa [World.setCell] using h.size, fun k hk hF => (Below.heap_setCell _ _ _ _ (fun e => by subst e; rcases hp with hp | hp; exact hF hp; omega)).trans (h.block k hk hF)⟩
theorem Apart.grown {row : Option Nat} (h : Apart F w w') (hg : w'.grownBy w'' row) (hr : ∀ k, row = some k → F k ∨ w.heap.size ≤ k) : Apart F w w'' :=
  ⟨hg.os.trans h.os, hg.tape.trans h.tape, hg.output.trans h.output, Nat.le_trans h.size hg.size, fun k hk hF => (hg.block k (Nat.lt_of_lt_of_le hk h.size) (fun e => by rcases hr k e.symm with hf | hf; exact hF hf; omega)).trans (h.block k hk hF)⟩
theorem Blk.apart {g : Nat} {t : TypeId} {cs : List Value} (h : Blk w g t cs) (hb : Apart F w w') (hg : ¬ F g) : Blk w' g t cs := (hb.block g h.lt hg).trans h
end

/-- A slice from the head of its block. -/
def Row (w : World) (e : TypeId) (A : Option Addr) (n c : Nat) (xs : List Value) : Prop :=
  xs.length = n ∧ n ≤ c ∧ c ≤ maxLen ∧
  ((A = none ∧ c = 0) ∨ ∃ g cur, A = some ⟨g, 0, none⟩ ∧ w.heap[g]? = some (.cells cur e (0, 0)) ∧ c ≤ cur.size ∧ cur.toList.take n = xs)
/-- The slice's block. -/
def Foot (A : Option Addr) (b : Nat) : Prop := ∃ a, A = some a ∧ a.block = b
section
variable {w w' : World} {e : TypeId} {A : Option Addr} {n c : Nat} {xs : List Value}
theorem Row.len (h : Row w e A n c xs) : xs.length = n := h.1
theorem Row.cap (h : Row w e A n c xs) : n ≤ c ∧ c ≤ maxLen := ⟨h.2.1, h.2.2.1⟩
theorem Row.nil (w : World) (e : TypeId) : Row w e none 0 0 [] := ⟨rfl, Nat.le_refl _, by simp [maxLen], .inl ⟨rfl, rfl⟩⟩
theorem Row.lt (h : Row w e A n c xs) {b : Nat} (hb : Foot A b) : b < w.heap.size := by
  obtain ⟨a, ha, rfl⟩ := hb
  rcases h.2.2.2 with ⟨h1, _⟩ | ⟨g, cur, h1, h2, _⟩
  · rw [h1] at ha; cases ha
  · rw [h1] at ha; injection ha with ha; subst ha; exact (Array.getElem?_eq_some_iff.1 h2).1
theorem Row.keep (h : Row w e A n c xs) (hk : ∀ b, Foot A b → w'.heap[b]? = w.heap[b]?) : Row w' e A n c xs := by
  refine ⟨h.1, h.2.1, h.2.2.1, ?_⟩
  rcases h.2.2.2 with h1 | ⟨g, cur, h1, h2, h3⟩
  · exact .inl h1
  · exact .inr ⟨g, cur, h1, (hk g ⟨_, h1, rfl⟩).trans h2, h3⟩
theorem Row.belowS (h : Row w e A n c xs) (hb : Below w.heap.size w w') : Row w' e A n c xs := h.keep fun b hf => hb.block b (h.lt hf)
theorem Row.apart {F : Nat → Prop} (h : Row w e A n c xs) (hb : Apart F w w') (hF : ∀ b, Foot A b → ¬ F b) : Row w' e A n c xs := h.keep fun b hf => hb.block b (h.lt hf) (hF b hf)
theorem Row.alloc (h : Row w e A n c xs) (o : Obj) : Row (w.alloc o) e A n c xs := h.keep fun b hf => Below.heap_alloc _ _ _ (h.lt hf)
theorem Row.drew (h : Row w e A n c xs) : Row w.drew e A n c xs := h
theorem Row.far (h : Row w e A n c xs) {p : Addr} (hp : ¬ Foot A p.block) (u : Value) : Row (w.setCell p u) e A n c xs := h.keep fun b hf => Below.heap_setCell _ _ _ _ (fun e => by subst e; exact hp hf)
theorem Row.form (h : Row w e A n c xs) (hn : 0 < n) : ∃ g, A = some ⟨g, 0, none⟩ ∧ g < w.heap.size := by
  rcases h.2.2.2 with ⟨_, h1⟩ | ⟨g, cur, h1, h2, _⟩
  · have := h.2.1; omega
  · exact ⟨g, h1, (Array.getElem?_eq_some_iff.1 h2).1⟩
theorem Row.reads (h : Row w e A n c xs) : Reads w w.heap.size 1 A n xs := by
  refine ⟨by rw [h.1]; omega, fun hn => ?_⟩
  rcases h.2.2.2 with ⟨_, h1⟩ | ⟨g, cur, h1, h2, h3, h4⟩
  · have := h.2.1; omega
  · refine ⟨_, h1, (Array.getElem?_eq_some_iff.1 h2).1, fun j u hu => ?_⟩
    rw [add_none, cell_of_row w g _ cur e (0, 0) h2]
    rw [← h4, List.getElem?_take] at hu
    split at hu
    · simpa using hu
    · cases hu
theorem Row.cell {g : Nat} (h : Row w e (some ⟨g, 0, none⟩) n c xs) {j : Nat} {u : Value} (hu : xs[j]? = some u) : w.cell? ⟨g, j, none⟩ = some u := by
  have hj := (List.getElem?_eq_some_iff.1 hu).1
  obtain ⟨ad, e1, _, hc⟩ := h.reads.2 (by rw [← h.1]; omega)
  injection e1 with e1
  subst e1
  have := hc j u hu
  rwa [add_none, Nat.zero_add] at this
theorem Row.frozen {g : Nat} (h : Row w e (some ⟨g, 0, none⟩) n c xs) (j : Nat) : w.frozen? ⟨g, j, none⟩ = false := by
  rcases h.2.2.2 with ⟨h1, _⟩ | ⟨g', cur, h1, h2, _⟩
  · cases h1
  · injection h1 with h1
    injection h1 with h1
    subst h1
    exact frozen_of_row w g j cur e h2
/-- The beginning, its capacity cut to its length. -/
theorem Row.cut (h : Row w e A n c xs) {i : Nat} (hi : i ≤ n) : Row w e A i i (xs.take i) := by
  have h1 := h.1
  have h2 := h.2.1
  have h3 := h.2.2.1
  refine ⟨by rw [List.length_take]; omega, Nat.le_refl _, by omega, ?_⟩
  rcases h.2.2.2 with ⟨h4, h5⟩ | ⟨g, cur, h4, h5, h6, h7⟩
  · exact .inl ⟨h4, by omega⟩
  · refine .inr ⟨g, cur, h4, h5, by omega, ?_⟩
    rw [← h7, List.take_take]
    congr 1
    omega
theorem Row.set_ {g : Nat} (h : Row w e (some ⟨g, 0, none⟩) n c xs) (j : Nat) (u : Value) : Row (w.setCell ⟨g, j, none⟩ u) e (some ⟨g, 0, none⟩) n c (xs.set j u) := by
  rcases h.2.2.2 with ⟨h1, _⟩ | ⟨g', cur, h1, h2, h3, h4⟩
  · cases h1
  · injection h1 with h1
    injection h1 with h1
    subst h1
    refine ⟨by rw [List.length_set]; exact h.1, h.2.1, h.2.2.1, .inr ⟨g, cur.setIfInBounds j u, rfl, heap_setCell_same w g j cur e u h2, by simpa using h3, ?_⟩⟩
    rw [← h4, Array.toList_setIfInBounds, List.take_set]
theorem Row.made (w : World) (cur : Array Value) (e : TypeId) (n : Nat) (hn : cur.size = n) (hm : n ≤ maxLen) : Row (w.alloc (.cells cur e)) e (some ⟨w.heap.size, 0, none⟩) n n cur.toList := by
  subst hn
  exact ⟨by simp, Nat.le_refl _, hm, .inr ⟨w.heap.size, cur, rfl, heap_alloc_new w _, Nat.le_refl _, by rw [List.take_of_length_le (by simp)]⟩⟩
end
section
variable {P : Program} (w : World)
/-- Append behind such a slice: the new one is one, too. -/
theorem run_row_append (t ty e : TypeId) (i : TypeInfo) (z : Value) (bytes : Nat) (ht : P.underlying t = some (.slice e)) (hi : P.info? e = some i) (hz : i.zero = some z)
    (hsize : i.size = 1) (hby : i.bytes = bytes) (hzs : z.cells.size = 1)
    (A : Option Addr) (n c : Nat) (xs : List Value) (hown : Row w e A n c xs)
    (B : Nat) (A2 : Option Addr) (m c2 : Nat) (news : List Value) (hr : Reads w B 1 A2 m news) (h1 : ∀ u ∈ news, u.oneCell' = true)
    (h63 : n + m ≤ maxLen) (hbytes : (n + m) * bytes ≤ 140737488355328) :
    ∃ A' c' w', (Builtin.append_ #[t, t] ty #[.slice A n c, .slice A2 m c2]).run P w = .ok (.slice A' (n + m) c') w' ∧ Row w' e A' (n + m) c' (xs ++ news) ∧ w.grownBy w' (Value.slice A n c).ownBlock ∧
      (A' = A ∨ A' = some ⟨w.heap.size, 0, none⟩) := by
  have hl : news.length = m := by have := hr.1; omega
  have hx : xs.length = n := hown.1
  have hsmall : n + m ≤ 9223372036854775807 := by simp only [maxLen] at h63; omega
  by_cases hm : m = 0
  · subst hm
    have hn : news = [] := List.eq_nil_of_length_eq_zero hl
    subst hn
    have hnc := hown.2.1
    refine ⟨A, c, w, ?_, by simpa using hown, ⟨rfl, rfl, rfl, Nat.le_refl _, fun _ _ _ => rfl⟩, .inl rfl⟩
    cases A2 <;> simp [Builtin.append_, run_underlying ht, sizeOf, typeInfo, hi, Builtin.lenOf, Builtin.firstCells, hnc, loadCells, loadCellsFrom]
    all_goals
      rcases hown.2.2.2 with ⟨rfl, rfl⟩ | ⟨g, cur, rfl, _, _⟩
      · simp [Sem.run_bind, Sem.run_pure, storeCells]
      · simp [storeCells]
  · obtain ⟨ad, rfl, _, hcells⟩ := hr.2 (by omega)
    have grown : ∀ old : Nat, old < n + m →
        Row (w.drew.alloc (.cells (xs.toArray ++ news.toArray ++ Builtin.zeroCells z.cells (grownCap w (n + m) old e - (n + m))) e)) e (some ⟨w.heap.size, 0, none⟩) (n + m) (grownCap w (n + m) old e) (xs ++ news) := by
      intro old ho
      have hge := grownCap_ge w (n + m) old e
      have hcm := grownCap_le_maxLen w (n + m) old e h63
      refine ⟨by rw [List.length_append, hx, hl], hge, hcm, .inr ⟨w.heap.size, _, rfl, heap_alloc_new w.drew _, ?_, ?_⟩⟩
      · simp only [Array.size_append, List.size_toArray, size_zeroCells, hzs, hx, hl]
        omega
      · simp only [Array.toList_append, List.append_assoc]
        rw [← List.append_assoc]
        rw [show n + m = (xs ++ news).length by rw [List.length_append, hx, hl]]
        exact List.take_left
    have hgr : ∀ old row, w.grownBy (w.drew.alloc (.cells (xs.toArray ++ news.toArray ++ Builtin.zeroCells z.cells (grownCap w (n + m) old e - (n + m))) e)) row :=
      fun old row => ⟨rfl, rfl, rfl, by simp, fun k hk _ => Below.heap_alloc w.drew _ k hk⟩
    rcases hown.2.2.2 with ⟨rfl, rfl⟩ | ⟨g, cur, rfl, hg, hc, htake⟩
    · have hn0 : n = 0 := by have := hown.2.1; omega
      subst hn0
      have hx0 : xs = [] := List.eq_nil_of_length_eq_zero hx
      subst hx0
      have hr2 := run_append_nil (P := P) w t ty e i z ht hi hz ad m c2 news (by rw [hsize, hl]; omega) hcells (by omega) (by omega) (by rw [hby]; have hb := hbytes; simp only [Nat.zero_add] at hb; omega)
      have h1' := grown 0 (by omega)
      have h2' := hgr 0 (Value.ownBlock (.slice none 0 0))
      simp only [Nat.zero_add, List.nil_append, Array.empty_append] at h1' h2' hr2 ⊢
      exact ⟨_, _, _, hr2, h1', h2', .inr rfl⟩
    · by_cases hroom : n + m ≤ c
      · have hr2 := run_append_room (P := P) w t ty e i ht hi g n c cur hg ad m c2 news (by rw [hsize, hl]; omega) hcells h1 hroom (by rw [hsize, hl]; omega)
        refine ⟨_, _, _, hr2, ⟨by rw [List.length_append, hx, hl], hroom, hown.2.2.1, .inr ⟨g, _, rfl, setRow_heap w g cur _ e _ hg, ?_, ?_⟩⟩, ⟨rfl, rfl, rfl, by simp, fun k hk hk2 => setRow_other w g k _ (fun e => hk2 (by simp [Value.ownBlock, e]))⟩, .inl rfl⟩
        · simp only [List.size_toArray, List.length_append, List.length_take, List.length_drop, Array.length_toList]
          omega
        · rw [hsize, Nat.mul_one, htake]
          rw [show n + m = (xs ++ news).length by rw [List.length_append, hx, hl]]
          exact List.take_left
      · have holds : ∀ j u, xs[j]? = some u → w.cell? ((⟨g, 0, none⟩ : Addr).add j) = some u := by
          intro j u hu
          rw [add_none, Nat.zero_add]
          exact hown.cell hu
        have hr2 := run_append_grow (P := P) w t ty e i z ht hi hz ⟨g, 0, none⟩ n c xs (by rw [hsize, hx]; omega) holds ad m c2 news (by rw [hsize, hl]; omega) hcells (by omega) (by omega) (growslice_fits (by omega) (by rw [hby]; exact hbytes))
        exact ⟨_, _, _, hr2, grown c (by omega), hgr c _, .inr rfl⟩
theorem wp_row_append {o : Oper} {a : Act} {K : Act → World → Prop} {Q : Exit → Act → World → Prop} (s x : Operand) (t : TypeId)
    (ho : o.op = .call { callee := .builtin .append, args := #[s, x], argTypes := #[t, t] })
    (e : TypeId) (i : TypeInfo) (z : Value) (bytes : Nat) (ht : P.underlying t = some (.slice e)) (hi : P.info? e = some i) (hz : i.zero = some z)
    (hsize : i.size = 1) (hby : i.bytes = bytes) (hzs : z.cells.size = 1)
    (A : Option Addr) (n c : Nat) (xs : List Value) (hs : a.eval s = .slice A n c) (hown : Row w e A n c xs)
    (B : Nat) (A2 : Option Addr) (m c2 : Nat) (news : List Value) (hx : a.eval x = .slice A2 m c2) (hr : Reads w B 1 A2 m news) (h1 : ∀ u ∈ news, u.oneCell' = true)
    (h63 : n + m ≤ maxLen) (hbytes : (n + m) * bytes ≤ 140737488355328) (N : Nat) (hN : n + m = N)
    (h : ∀ A' c' w', Row w' e A' N c' (xs ++ news) → w.grownBy w' (Value.slice A n c).ownBlock → (A' = A ∨ A' = some ⟨w.heap.size, 0, none⟩) → K (a.put o.dst (.slice A' N c')) w') : o.wp P a w K Q := by
  subst hN
  obtain ⟨A', c', w', hrun, h2, h3, h4⟩ := run_row_append (P := P) w t o.type e i z bytes ht hi hz hsize hby hzs A n c xs hown B A2 m c2 news hr h1 h63 hbytes
  unfold Oper.wp execOp
  simp only [ho, resolve, invoke, builtin, Sem.run_bind, Sem.run_pure, Result.andThen_ok, List.map_toArray, List.map_cons, List.map_nil, hs, hx, hrun]
  exact h A' c' w' h2 h3 h4
theorem wpList_row {ops : Array Oper} {rest : List Oper} {o : Oper} {a : Act} {Q : Exit → Act → World → Prop} (hgd : o.guard = none) (s x : Operand) (t : TypeId)
    (ho : o.op = .call { callee := .builtin .append, args := #[s, x], argTypes := #[t, t] })
    (e : TypeId) (i : TypeInfo) (z : Value) (bytes : Nat) (ht : P.underlying t = some (.slice e)) (hi : P.info? e = some i) (hz : i.zero = some z)
    (hsize : i.size = 1) (hby : i.bytes = bytes) (hzs : z.cells.size = 1)
    (A : Option Addr) (n c : Nat) (xs : List Value) (hs : a.eval s = .slice A n c) (hown : Row w e A n c xs)
    (B : Nat) (A2 : Option Addr) (m c2 : Nat) (news : List Value) (hx : a.eval x = .slice A2 m c2) (hr : Reads w B 1 A2 m news) (h1 : ∀ u ∈ news, u.oneCell' = true)
    (h63 : n + m ≤ maxLen) (hbytes : (n + m) * bytes ≤ 140737488355328) (N : Nat) (hN : n + m = N)
    (h : ∀ A' c' w', Row w' e A' N c' (xs ++ news) → w.grownBy w' (Value.slice A n c).ownBlock → (A' = A ∨ A' = some ⟨w.heap.size, 0, none⟩) → wpList P ops Q rest (a.put o.dst (.slice A' N c')) w') : wpList P ops Q (o :: rest) a w :=
  wpList_plain hgd fun _ hK => wp_row_append w s x t ho e i z bytes ht hi hz hsize hby hzs A n c xs hs hown B A2 m c2 news hx hr h1 h63 hbytes N hN fun A' c' w' h2 h3 h4 => hK _ _ (h A' c' w' h2 h3 h4)
theorem step_row {ops : Array Oper} {o : Oper} {a : Act} {K : Act → World → Prop} {Q : Exit → Act → World → Prop} {E : Prop} (hgd : o.guard = none) (s x : Operand) (t : TypeId)
    (ho : o.op = .call { callee := .builtin .append, args := #[s, x], argTypes := #[t, t] })
    (e : TypeId) (i : TypeInfo) (z : Value) (bytes : Nat) (ht : P.underlying t = some (.slice e)) (hi : P.info? e = some i) (hz : i.zero = some z)
    (hsize : i.size = 1) (hby : i.bytes = bytes) (hzs : z.cells.size = 1)
    (A : Option Addr) (n c : Nat) (xs : List Value) (hs : a.eval s = .slice A n c) (hown : Row w e A n c xs)
    (B : Nat) (A2 : Option Addr) (m c2 : Nat) (news : List Value) (hx : a.eval x = .slice A2 m c2) (hr : Reads w B 1 A2 m news) (h1 : ∀ u ∈ news, u.oneCell' = true)
    (h63 : n + m ≤ maxLen) (hbytes : (n + m) * bytes ≤ 140737488355328) (N : Nat) (hN : n + m = N)
    (h : ∀ A' c' w', Row w' e A' N c' (xs ++ news) → w.grownBy w' (Value.slice A n c).ownBlock → (A' = A ∨ A' = some ⟨w.heap.size, 0, none⟩) → K (a.put o.dst (.slice A' N c')) w') :
    if Region.wanted o (yielded ops a.tmps) = true then Oper.wp P o a w K Q else E := by
  have hw : Region.wanted o (yielded ops a.tmps) = true := by simp [Region.wanted, hgd]
  rw [if_pos hw]
  exact wp_row_append w s x t ho e i z bytes ht hi hz hsize hby hzs A n c xs hs hown B A2 m c2 news hx hr h1 h63 hbytes N hN h
end
end Go.Proofs.YtidlahljhgglcaaGreat
namespace Go.Proofs.YtidlahljhgglcaaGreat

structure PartS where
  mem : Int
  fuel : Int
  hard : Int
structure WinS where
  part : Int
  at_ : Int
  long : Int
structure ChanS where
  src : Int
  dst : Int
  depth : Int
structure TabS where
  frame : Int
  parts : List PartS
  wins : List WinS
  chans : List ChanS
  trial : Int

/-- The first index of which something is so; -1: none. -/
def idxB {α : Type} (p : α → Bool) (l : List α) : Int := match l.findIdx? p with | some i => (i : Int) | none => -1
theorem idxB_at {α : Type} (p : α → Bool) (l : List α) (k : Nat) (x : α) (hx : l[k]? = some x) (hp : p x = true) (h : ∀ y ∈ l.take k, p y = false) : idxB p l = k := by
  have hkl := (List.getElem?_eq_some_iff.1 hx).1
  have : l.findIdx? p = some k := by
    rw [List.findIdx?_eq_some_iff_getElem]
    refine ⟨hkl, ?_, fun j hj => ?_⟩
    · have : l[k] = x := by rw [List.getElem?_eq_getElem hkl] at hx; injection hx
      rw [this]; exact hp
    · have := h l[j] (by rw [List.mem_iff_getElem]; exact ⟨j, by rw [List.length_take]; omega, by rw [List.getElem_take]⟩)
      simp [this]
  unfold idxB
  rw [this]
theorem idxB_none {α : Type} (p : α → Bool) (l : List α) (h : ∀ y ∈ l, p y = false) : idxB p l = -1 := by
  have : l.findIdx? p = none := by
    rw [List.findIdx?_eq_none_iff]
    exact h
  unfold idxB
  rw [this]
theorem any_take {α : Type} (p : α → Bool) (l : List α) (k : Nat) (x : α) (hx : l[k]? = some x) (hp : p x = false) (h : ∀ y ∈ l.take k, p y = false) : ∀ y ∈ l.take (k + 1), p y = false := by
  rw [List.take_add_one, hx]
  intro y hy
  rcases List.mem_append.1 hy with h1 | h1
  · exact h y h1
  · rw [List.mem_singleton.1 h1]; exact hp
theorem idxB_nonneg {α : Type} (p : α → Bool) (l : List α) : decide (0 ≤ idxB p l) = l.any p := by
  unfold idxB
  cases h : l.findIdx? p with
  | none =>
    have := List.findIdx?_eq_none_iff.1 h
    have h2 : l.any p = false := by simpa using this
    rw [h2]; rfl
  | some i =>
    obtain ⟨hi, hp, _⟩ := List.findIdx?_eq_some_iff_getElem.1 h
    have h2 : l.any p = true := List.any_eq_true.2 ⟨l[i], List.getElem_mem hi, hp⟩
    rw [h2]; simp
def inB (n least most : Int) : Bool := decide (least ≤ n) && decide (n ≤ most)
def badB (p : PartS) : Bool := !(inB p.mem 1 16) || !(inB p.fuel 1 32) || !(inB p.hard 0 65535)
def hasB (t : TabS) (p : Int) : Bool := inB p 0 ((t.parts.length : Int) - 1)
/-- A window that may not be, behind those that end at e. -/
def winBad (t : TabS) (e : Int) (w : WinS) : Bool := !(hasB t w.part) || decide (w.at_ < e) || decide (t.frame < w.at_) || decide (w.long < 1) || decide (t.frame - w.at_ < w.long)
def winsOk (t : TabS) : Int → List WinS → Bool
  | _, [] => true
  | e, w :: l => !(winBad t e w) && winsOk t (w.at_ + w.long) l
def careB (l : List WinS) : Bool := l.any fun w => w.part == 0
def winsB (t : TabS) : Bool := winsOk t 0 t.wins && (careB t.wins && decide (t.wins.length ≤ 8))
def chanBad (t : TabS) (c : ChanS) : Bool := !(hasB t c.src) || !(hasB t c.dst) || (c.src == c.dst) || !(inB c.depth 0 4)
def rightB (t : TabS) : Bool :=
  inB t.frame 1 64 && inB t.trial 1 7 && inB (t.parts.length : Int) 2 4 && !(t.parts.any badB) && winsB t && decide (t.chans.length ≤ 4) && !(t.chans.any (chanBad t))


theorem inB_iff (n a b : Int) : inB n a b = true ↔ a ≤ n ∧ n ≤ b := by simp [inB]
structure RightT (t : TabS) : Prop where
  f1 : 1 ≤ t.frame
  f2 : t.frame ≤ 64
  r1 : 1 ≤ t.trial
  r2 : t.trial ≤ 7
  p1 : 2 ≤ t.parts.length
  p2 : t.parts.length ≤ 4
  ps : ∀ p ∈ t.parts, 1 ≤ p.mem ∧ p.mem ≤ 16 ∧ 1 ≤ p.fuel ∧ p.fuel ≤ 32 ∧ 0 ≤ p.hard ∧ p.hard ≤ 65535
  ws : winsOk t 0 t.wins = true
  care : careB t.wins = true
  w8 : t.wins.length ≤ 8
  c4 : t.chans.length ≤ 4
  cs : ∀ c ∈ t.chans, 0 ≤ c.src ∧ c.src < t.parts.length ∧ 0 ≤ c.dst ∧ c.dst < t.parts.length ∧ c.src ≠ c.dst ∧ 0 ≤ c.depth ∧ c.depth ≤ 4
theorem rightB_iff (t : TabS) : rightB t = true ↔ RightT t := by
  have hc : ∀ c, chanBad t c = false ↔ (0 ≤ c.src ∧ c.src < t.parts.length ∧ 0 ≤ c.dst ∧ c.dst < t.parts.length ∧ c.src ≠ c.dst ∧ 0 ≤ c.depth ∧ c.depth ≤ 4) := by
    intro c
    simp only [chanBad, hasB, Bool.or_eq_false_iff, Bool.not_eq_false', inB_iff, beq_eq_false_iff_ne]
    constructor
    · rintro ⟨⟨⟨⟨h1, h2⟩, h3, h4⟩, h5⟩, h6, h7⟩; exact ⟨h1, by omega, h3, by omega, h5, h6, h7⟩
    · rintro ⟨h1, h2, h3, h4, h5, h6, h7⟩; exact ⟨⟨⟨⟨h1, by omega⟩, h3, by omega⟩, h5⟩, h6, h7⟩
  have hp : ∀ p, badB p = false ↔ (1 ≤ p.mem ∧ p.mem ≤ 16 ∧ 1 ≤ p.fuel ∧ p.fuel ≤ 32 ∧ 0 ≤ p.hard ∧ p.hard ≤ 65535) := by
    intro p
    simp only [badB, Bool.or_eq_false_iff, Bool.not_eq_false', inB_iff]
    constructor
    · rintro ⟨⟨⟨h1, h2⟩, h3, h4⟩, h5, h6⟩; exact ⟨h1, h2, h3, h4, h5, h6⟩
    · rintro ⟨h1, h2, h3, h4, h5, h6⟩; exact ⟨⟨⟨h1, h2⟩, h3, h4⟩, h5, h6⟩
  unfold rightB winsB
  simp only [Bool.and_eq_true, inB_iff, decide_eq_true_eq, Bool.not_eq_true', List.any_eq_false, Bool.not_eq_true]
  constructor
  · rintro ⟨⟨⟨⟨⟨⟨⟨h1, h2⟩, h3, h4⟩, h5, h6⟩, h7⟩, h8, h9, h10⟩, h11⟩, h12⟩
    exact ⟨h1, h2, h3, h4, by omega, by omega, fun p hpm => (hp p).1 (h7 p hpm), h8, h9, h10, h11, fun c hcm => (hc c).1 (h12 c hcm)⟩
  · intro r
    exact ⟨⟨⟨⟨⟨⟨⟨r.f1, r.f2⟩, r.r1, r.r2⟩, by have := r.p1; omega, by have := r.p2; omega⟩, fun p hpm => (hp p).2 (r.ps p hpm)⟩, r.ws, r.care, r.w8⟩, r.c4⟩, fun c hcm => (hc c).2 (r.cs c hcm)⟩
/-- A window that may be. -/
def WinT (t : TabS) (e : Int) (w : WinS) : Prop := 0 ≤ w.part ∧ w.part < t.parts.length ∧ e ≤ w.at_ ∧ 1 ≤ w.long ∧ w.at_ + w.long ≤ t.frame
theorem winBad_iff (t : TabS) (e : Int) (w : WinS) : winBad t e w = false ↔ WinT t e w := by
  simp only [winBad, hasB, Bool.or_eq_false_iff, Bool.not_eq_false', inB_iff, decide_eq_false_iff_not, WinT]
  constructor
  · rintro ⟨⟨⟨⟨⟨h1, h2⟩, h3⟩, h4⟩, h5⟩, h6⟩; exact ⟨h1, by omega, by omega, by omega, by omega⟩
  · rintro ⟨h1, h2, h3, h4, h5⟩; exact ⟨⟨⟨⟨⟨h1, by omega⟩, by omega⟩, by omega⟩, by omega⟩, by omega⟩
theorem winsOk_cons (t : TabS) (e : Int) (w : WinS) (l : List WinS) : winsOk t e (w :: l) = true ↔ WinT t e w ∧ winsOk t (w.at_ + w.long) l = true := by
  rw [← winBad_iff]
  simp [winsOk]
theorem winsOk_mem (t : TabS) : ∀ (l : List WinS) (e : Int), winsOk t e l = true → ∀ w ∈ l, WinT t e w
  | [], _, _ => by simp
  | w :: l, e, h => by
    obtain ⟨h1, h2⟩ := (winsOk_cons t e w l).1 h
    intro x hx
    rcases List.mem_cons.1 hx with rfl | hx
    · exact h1
    · have h3 := winsOk_mem t l _ h2 x hx
      have a1 := h1.2.2.1
      have a2 := h1.2.2.2.1
      obtain ⟨b1, b2, b3, b4, b5⟩ := h3
      exact ⟨b1, b2, by omega, b4, b5⟩
theorem RightT.win {t : TabS} (h : RightT t) (w : WinS) (hw : w ∈ t.wins) : WinT t 0 w := winsOk_mem t t.wins 0 h.ws w hw
/-- How many ticks of a frame are a partition's. -/
def shareL (p : Int) (l : List WinS) : Int := (l.map fun w => if w.part = p then w.long else 0).sum
def shareB (t : TabS) (p : Int) : Int := if rightB t then shareL p t.wins else 0
theorem shareL_snoc (p : Int) (l : List WinS) (w : WinS) : shareL p (l ++ [w]) = shareL p l + if w.part = p then w.long else 0 := by simp [shareL]
/-- Is a position in a window? -/
def posB (pos : Int) (w : WinS) : Bool := decide (w.at_ ≤ pos) && decide (pos < w.at_ + w.long)
def windowB (t : TabS) (pos : Int) : Int := if rightB t then idxB (posB pos) t.wins else -1

end Go.Proofs.YtidlahljhgglcaaGreat
namespace Go.Proofs.YtidlahljhgglcaaGreat
open Go.RowKit

def partC (p : PartS) : List Value := [iV p.mem, iV p.fuel, iV p.hard]
def winC (x : WinS) : List Value := [iV x.part, iV x.at_, iV x.long]
def chanC (x : ChanS) : List Value := [iV x.src, iV x.dst, iV x.depth]

theorem in_any (n a b : Int) (w : World) :
    Calls Tryz.prog 39 #[.int .i64 n, .int .i64 a, .int .i64 b] w fun e w' => e = .returned (.bool (inB n a b)) ∧ w = w' := by
  by_cases h1 : a ≤ n
  · by_cases h2 : n ≤ b
    · have h : inB n a b = true := by simp [inB, h1, h2]
      rw [h]
      clear h
      go_enter Tryz.func39, Tryz.ntmps39
      go_wp2_with fail
      go_ret
      exact ⟨rfl, rfl⟩
    · have h : inB n a b = false := by simp [inB, h2]
      rw [h]
      clear h
      go_enter Tryz.func39, Tryz.ntmps39
      go_wp2_with fail
      go_ret
      exact ⟨rfl, rfl⟩
  · have h : inB n a b = false := by simp [inB, h1]
    have h3 : decide (a ≤ n) = false := by simp; omega
    rw [h]
    clear h
    go_enter Tryz.func39, Tryz.ntmps39
    go_wp2_with fail
    go_ret
    exact ⟨rfl, rfl⟩
theorem bad_any (p : PartS) (w : World) :
    Calls Tryz.prog 41 #[.agg #[.int .i64 p.mem, .int .i64 p.fuel, .int .i64 p.hard]] w fun e w' => e = .returned (.bool (badB p)) ∧ Below w.heap.size w w' := by
  obtain ⟨m, f, h⟩ := p
  simp only
  have HB : Hid (badB ⟨m, f, h⟩ = (!(inB m 1 16) || !(inB f 1 32) || !(inB h 0 65535))) := rfl
  have hb : Below w.heap.size w (w.alloc (.cells #[.int .i64 m, .int .i64 f, .int .i64 h] 82)) := (Below.refl _ _).alloc (Nat.le_refl _) _
  have i1 := hid (fun w => in_any m 1 16 w)
  have i2 := hid (fun w => in_any f 1 32 w)
  have i3 := hid (fun w => in_any h 0 65535 w)
  generalize inB m 1 16 = b1 at HB i1
  generalize inB f 1 32 = b2 at HB i2
  generalize inB h 0 65535 = b3 at HB i3
  generalize badB ⟨m, f, h⟩ = r at HB ⊢
  have hr := HB.out
  clear HB
  cases b1 <;> cases b2 <;> simp only [Bool.not_false, Bool.not_true, Bool.true_or, Bool.or_true, Bool.false_or, Bool.or_false] at hr <;> subst hr
  all_goals
    go_enter Tryz.func41, Tryz.ntmps41
    go_wp2_with (first | (go_at_call_of 39 (Value.int IntKind.i64 16); refine (i1.out _).mono ?_; rintro e w' ⟨rfl, rfl⟩) | (go_at_call_of 39 (Value.int IntKind.i64 32); refine (i2.out _).mono ?_; rintro e w' ⟨rfl, rfl⟩) | (go_at_call_of 39 (Value.int IntKind.i64 65535); refine (i3.out _).mono ?_; rintro e w' ⟨rfl, rfl⟩))
    go_ret
    exact ⟨rfl, hb⟩
theorem indexPart_any (A : Option Addr) (n c : Nat) (l : List PartS) (w : World) (h : RdS w w.heap.size 3 A n partC l) (hn : n ≤ 100000) :
    Calls Tryz.prog 57 #[.slice A n c, .func (Fn.func 41) #[] #[]] w fun e w' => e = .returned (.int .i64 (idxB badB l)) ∧ Below w.heap.size w w' := by
  go_enter Tryz.func57, Tryz.ntmps57
  go_wp2_with fail
  go_loopw [4, 5, 8] (fun _ _ v8 wr => ∃ k : Nat, k ≤ n ∧ v8 = .int .i64 (k : Int) ∧ Hid (∀ x ∈ l.take k, badB x = false) ∧ Below w.heap.size w wr) (fun _ _ v8 _ => n - (intOf v8).toNat)
  case atStart => exact ⟨0, by omega, rfl, by refine hid ?_; simp, Below.refl _ _⟩
  case round =>
    obtain ⟨k, hk, rfl, HK, hbel⟩ := hrel
    by_cases hkn : k < n
    · obtain ⟨ad, x, rfl, had, hx, hc0, hc⟩ := (h.belowS hbel).at_ hkn
      have c0 := hc0 _ rfl
      have c1 := hc 0 _ rfl
      have c2 := hc 1 _ rfl
      have HX := hid hx
      have hbad := hid (bad_any x wr)
      clear hc hc0 hx
      by_cases hb : badB x = true
      · have hfi := hid (idxB_at badB l k x HX.out hb HK.out)
        rw [hb] at hbad
        clear hb
        go_wp2_with fail
        refine hbad.out.mono ?_
        rintro e w2 ⟨rfl, hb2⟩
        go_wp2_with fail
        go_ret
        exact ⟨by rw [hfi.out]; rfl, bel_trans hbel hb2⟩
      · have hb' : badB x = false := by simpa using hb
        rw [hb'] at hbad
        have HS := hid (any_take badB l k x HX.out hb' HK.out)
        clear hb hb'
        go_wp2_with fail
        refine hbad.out.mono ?_
        rintro e w2 ⟨rfl, hb2⟩
        go_wp2_with fail
        go_roundw
        case rel => exact ⟨k + 1, by omega, by go_num, HS, bel_trans hbel hb2⟩
        case measure => simp [intOf]; omega
    · obtain rfl : k = n := by omega
      have hfi := hid (idxB_none badB l (fun x hx => HK.out x (by rw [List.take_of_length_le (by rw [h.len]; exact Nat.le_refl _)]; exact hx)))
      go_wp2_with fail
      go_ret
      exact ⟨by rw [hfi.out]; rfl, hbel⟩
theorem containsPart_any (A : Option Addr) (n c : Nat) (l : List PartS) (w : World) (h : RdS w w.heap.size 3 A n partC l) (hn : n ≤ 100000) :
    Calls Tryz.prog 40 #[.slice A n c, .func (Fn.func 41) #[] #[]] w fun e w' => e = .returned (.bool (l.any badB)) ∧ Below w.heap.size w w' := by
  have hi := hid (indexPart_any A n c l w h hn)
  have hd := hid (idxB_nonneg badB l)
  generalize idxB badB l = i at hi hd
  generalize l.any badB = r at hd ⊢
  go_enter Tryz.func40, Tryz.ntmps40
  go_wp2_with fail
  refine hi.out.mono ?_
  rintro e w1 ⟨rfl, hb⟩
  go_wp2_with fail
  go_ret
  exact ⟨ret_bool hd.out, hb⟩
/-! ### A table by value: its five cells; where its three lists lie. -/
/-- Where a table's lists lie. -/
structure TabA where
  A1 : Option Addr
  c1 : Nat
  A2 : Option Addr
  c2 : Nat
  A3 : Option Addr
  c3 : Nat
/-- A table's cells. -/
def tabC (t : TabS) (a : TabA) : List Value := [iV t.frame, .slice a.A1 t.parts.length a.c1, .slice a.A2 t.wins.length a.c2, .slice a.A3 t.chans.length a.c3, iV t.trial]
def TabIn (w : World) (t : TabS) (a : TabA) : Prop :=
  RdS w w.heap.size 3 a.A1 t.parts.length partC t.parts ∧ RdS w w.heap.size 3 a.A2 t.wins.length winC t.wins ∧ RdS w w.heap.size 3 a.A3 t.chans.length chanC t.chans
theorem TabIn.belowS {w w' : World} {t : TabS} {a : TabA} (h : TabIn w t a) (hb : Below w.heap.size w w') : TabIn w' t a := ⟨h.1.belowS hb, h.2.1.belowS hb, h.2.2.belowS hb⟩
theorem has_any (t : TabS) (a : TabA) (p : Int) (w : World) (hn : t.parts.length ≤ 100000) :
    Calls Tryz.prog 45 #[.agg #[.int .i64 t.frame, .slice a.A1 t.parts.length a.c1, .slice a.A2 t.wins.length a.c2, .slice a.A3 t.chans.length a.c3, .int .i64 t.trial], .int .i64 p] w fun e w' => e = .returned (.bool (hasB t p)) ∧ Below w.heap.size w w' := by
  obtain ⟨frame, parts, wins, chans, trial⟩ := t
  obtain ⟨A1, c1, A2, c2, A3, c3⟩ := a
  simp only at hn ⊢
  have hi := hid (fun w => in_any p 0 ((parts.length : Int) - 1) w)
  unfold hasB
  simp only
  generalize inB p 0 ((parts.length : Int) - 1) = r at hi ⊢
  generalize parts.length = n1 at hn hi ⊢
  generalize wins.length = n2
  generalize chans.length = n3
  have hb : Below w.heap.size w (w.alloc (.cells #[.int .i64 frame, .slice A1 n1 c1, .slice A2 n2 c2, .slice A3 n3 c3, .int .i64 trial] 26)) := (Below.refl _ _).alloc (Nat.le_refl _) _
  go_enter Tryz.func45, Tryz.ntmps45
  go_wp2_with fail
  refine (hi.out _).mono ?_
  rintro e w1 ⟨rfl, rfl⟩
  go_wp2_with fail
  go_ret
  exact ⟨rfl, hb⟩
/-- The cells of a block that holds a table. -/
theorem tab_cells {w : World} {g : Nat} {t : TabS} {a : TabA} (h : Blk w g 26 (tabC t a)) :
    w.cell? ⟨g, 0, none⟩ = some (.int .i64 t.frame) ∧ w.cell? ⟨g, 1, none⟩ = some (.slice a.A1 t.parts.length a.c1) ∧ w.cell? ⟨g, 2, none⟩ = some (.slice a.A2 t.wins.length a.c2) ∧ w.cell? ⟨g, 3, none⟩ = some (.slice a.A3 t.chans.length a.c3) ∧ w.cell? ⟨g, 4, none⟩ = some (.int .i64 t.trial) :=
  ⟨h.cellAt rfl, h.cellAt rfl, h.cellAt rfl, h.cellAt rfl, h.cellAt rfl⟩
theorem right1_any (t : TabS) (a : TabA) (c : ChanS) (g : Nat) (w : World) (hblk : Blk w g 26 (tabC t a)) (hn : t.parts.length ≤ 100000) :
    Calls Tryz.prog 44 #[.agg #[.int .i64 c.src, .int .i64 c.dst, .int .i64 c.depth], .pointer (some ⟨g, 0, none⟩)] w fun e w' => e = .returned (.bool (chanBad t c)) ∧ Below w.heap.size w w' := by
  obtain ⟨src, dst, depth⟩ := c
  simp only
  have HB : Hid (chanBad t ⟨src, dst, depth⟩ = (!(hasB t src) || !(hasB t dst) || (src == dst) || !(inB depth 0 4))) := rfl
  have i1 := hid (fun w => has_any t a src w hn)
  have i2 := hid (fun w => has_any t a dst w hn)
  have i3 := hid (fun w => in_any depth 0 4 w)
  generalize hasB t src = b1 at HB i1
  generalize hasB t dst = b2 at HB i2
  generalize inB depth 0 4 = b3 at HB i3
  generalize chanBad t ⟨src, dst, depth⟩ = r at HB ⊢
  have hb0 : Below w.heap.size w (w.alloc (.cells #[.int .i64 src, .int .i64 dst, .int .i64 depth] 69)) := (Below.refl _ _).alloc (Nat.le_refl _) _
  have hblk1 := hblk.alloc (.cells #[.int .i64 src, .int .i64 dst, .int .i64 depth] 69)
  obtain ⟨c0, c1, c2, c3, c4⟩ := tab_cells hblk1
  have hsrc : Blk (w.alloc (.cells #[.int .i64 src, .int .i64 dst, .int .i64 depth] 69)) w.heap.size 69 [.int .i64 src, .int .i64 dst, .int .i64 depth] := Blk.new w _ _
  have hr := HB.out
  clear HB
  cases b1
  · simp only [Bool.not_false, Bool.true_or] at hr
    subst hr
    clear hsrc hblk1 hblk
    go_enter Tryz.func44, Tryz.ntmps44
    go_wp2_with fail
    refine (i1.out _).mono ?_
    rintro e w1 ⟨rfl, hb1⟩
    go_wp2_with fail
    go_ret
    exact ⟨rfl, bel_trans hb0 hb1⟩
  · simp only [Bool.not_true, Bool.false_or] at hr
    go_enter Tryz.func44, Tryz.ntmps44
    go_wp2_with fail
    refine (i1.out _).mono ?_
    rintro e w1 ⟨rfl, hb1⟩
    have hsrc1 := hsrc.belowS hb1
    have hblk2 := hblk1.belowS hb1
    have s0 := hsrc1.cellAt (i := 0) rfl
    have s1 := hsrc1.cellAt (i := 1) rfl
    have s2 := hsrc1.cellAt (i := 2) rfl
    clear c0 c1 c2 c3 c4
    obtain ⟨c0, c1, c2, c3, c4⟩ := tab_cells hblk2
    cases b2
    · simp only [Bool.not_false, Bool.true_or] at hr
      subst hr
      clear hsrc hblk1 hblk hsrc1 hblk2
      go_wp2_with fail
      refine (i2.out _).mono ?_
      rintro e w2 ⟨rfl, hb2⟩
      go_wp2_with fail
      go_ret
      exact ⟨rfl, bel_trans (bel_trans hb0 hb1) hb2⟩
    · simp only [Bool.not_true, Bool.false_or] at hr
      have HR := hid hr
      clear hr
      go_wp2_with fail
      refine (i2.out _).mono ?_
      rintro e w2 ⟨rfl, hb2⟩
      have hsrc2 := hsrc1.belowS hb2
      clear s0 s1 s2 c0 c1 c2 c3 c4
      have s0 := hsrc2.cellAt (i := 0) rfl
      have s1 := hsrc2.cellAt (i := 1) rfl
      have s2 := hsrc2.cellAt (i := 2) rfl
      by_cases hsd : src = dst
      · have hrt : r = true := by rw [HR.out]; simp [hsd]
        subst hrt hsd
        go_wp2_with fail
        go_ret
        exact ⟨rfl, bel_trans (bel_trans hb0 hb1) hb2⟩
      · have hsdb : (src == dst) = false := by simpa using hsd
        have hrt : r = !b3 := by rw [HR.out, hsdb]; rfl
        subst hrt
        clear hsd
        go_wp2_with fail
        refine (i3.out _).mono ?_
        rintro e w3 ⟨rfl, rfl⟩
        go_wp2_with fail
        go_ret
        exact ⟨rfl, bel_trans (bel_trans hb0 hb1) hb2⟩
theorem indexChan_any (A : Option Addr) (n c : Nat) (l : List ChanS) (t : TabS) (a : TabA) (g : Nat) (w : World) (h : RdS w w.heap.size 3 A n chanC l) (hn : n ≤ 100000) (hblk : Blk w g 26 (tabC t a)) (hn2 : t.parts.length ≤ 100000) :
    Calls Tryz.prog 58 #[.slice A n c, .func (Fn.func 44) #[] #[.pointer (some ⟨g, 0, none⟩)]] w fun e w' => e = .returned (.int .i64 (idxB (chanBad t) l)) ∧ Below w.heap.size w w' := by
  go_enter Tryz.func58, Tryz.ntmps58
  go_wp2_with fail
  go_loopw [4, 5, 8] (fun _ _ v8 wr => ∃ k : Nat, k ≤ n ∧ v8 = .int .i64 (k : Int) ∧ Hid (∀ x ∈ l.take k, (chanBad t) x = false) ∧ Below w.heap.size w wr) (fun _ _ v8 _ => n - (intOf v8).toNat)
  case atStart => exact ⟨0, by omega, rfl, by refine hid ?_; simp, Below.refl _ _⟩
  case round =>
    obtain ⟨k, hk, rfl, HK, hbel⟩ := hrel
    by_cases hkn : k < n
    · obtain ⟨ad, x, rfl, had, hx, hc0, hc⟩ := (h.belowS hbel).at_ hkn
      have c0 := hc0 _ rfl
      have c1 := hc 0 _ rfl
      have c2 := hc 1 _ rfl
      have HX := hid hx
      have hbad := hid (right1_any t a x g wr (hblk.belowS hbel) hn2)
      clear hc hc0 hx
      by_cases hb : (chanBad t) x = true
      · have hfi := hid (idxB_at (chanBad t) l k x HX.out hb HK.out)
        rw [hb] at hbad
        clear hb
        go_wp2_with fail
        refine hbad.out.mono ?_
        rintro e w2 ⟨rfl, hb2⟩
        go_wp2_with fail
        go_ret
        exact ⟨by rw [hfi.out]; rfl, bel_trans hbel hb2⟩
      · have hb' : (chanBad t) x = false := by simpa using hb
        rw [hb'] at hbad
        have HS := hid (any_take (chanBad t) l k x HX.out hb' HK.out)
        clear hb hb'
        go_wp2_with fail
        refine hbad.out.mono ?_
        rintro e w2 ⟨rfl, hb2⟩
        go_wp2_with fail
        go_roundw
        case rel => exact ⟨k + 1, by omega, by go_num, HS, bel_trans hbel hb2⟩
        case measure => simp [intOf]; omega
    · obtain rfl : k = n := by omega
      have hfi := hid (idxB_none (chanBad t) l (fun x hx => HK.out x (by rw [List.take_of_length_le (by rw [h.len]; exact Nat.le_refl _)]; exact hx)))
      go_wp2_with fail
      go_ret
      exact ⟨by rw [hfi.out]; rfl, hbel⟩
theorem containsChan_any (A : Option Addr) (n c : Nat) (l : List ChanS) (t : TabS) (a : TabA) (g : Nat) (w : World) (h : RdS w w.heap.size 3 A n chanC l) (hn : n ≤ 100000) (hblk : Blk w g 26 (tabC t a)) (hn2 : t.parts.length ≤ 100000) :
    Calls Tryz.prog 43 #[.slice A n c, .func (Fn.func 44) #[] #[.pointer (some ⟨g, 0, none⟩)]] w fun e w' => e = .returned (.bool (l.any (chanBad t))) ∧ Below w.heap.size w w' := by
  have hi := hid (indexChan_any A n c l t a g w h hn hblk hn2)
  have hd := hid (idxB_nonneg (chanBad t) l)
  generalize idxB (chanBad t) l = i at hi hd
  generalize l.any (chanBad t) = r at hd ⊢
  go_enter Tryz.func43, Tryz.ntmps43
  go_wp2_with fail
  refine hi.out.mono ?_
  rintro e w1 ⟨rfl, hb⟩
  go_wp2_with fail
  go_ret
  exact ⟨ret_bool hd.out, hb⟩
end Go.Proofs.YtidlahljhgglcaaGreat
namespace Go.Proofs.YtidlahljhgglcaaGreat
open Go.RowKit

set_option maxHeartbeats 2000000 in
theorem windows_any (t : TabS) (a : TabA) (w : World) (hn1 : t.parts.length ≤ 100000) (hn2 : t.wins.length ≤ 100000) (h : RdS w w.heap.size 3 a.A2 t.wins.length winC t.wins) (hf1 : -9223372036854775808 ≤ t.frame) (hf2 : t.frame ≤ 9223372036854775807) :
    Calls Tryz.prog 42 #[.agg #[.int .i64 t.frame, .slice a.A1 t.parts.length a.c1, .slice a.A2 t.wins.length a.c2, .slice a.A3 t.chans.length a.c3, .int .i64 t.trial]] w fun e w' => e = .returned (.bool (winsB t)) ∧ Below w.heap.size w w' := by
  obtain ⟨A1, k1, A2, k2, A3, k3⟩ := a
  simp only at h ⊢
  have hb0 : Below w.heap.size w (w.alloc (.cells (tabC t ⟨A1, k1, A2, k2, A3, k3⟩).toArray 26)) := (Below.refl _ _).alloc (Nat.le_refl _) _
  have hblk : Blk (w.alloc (.cells (tabC t ⟨A1, k1, A2, k2, A3, k3⟩).toArray 26)) w.heap.size 26 (tabC t ⟨A1, k1, A2, k2, A3, k3⟩) := Blk.new w _ _
  go_enter Tryz.func42, Tryz.ntmps42
  go_wp2_with fail
  go_loopw [3, 4, 10] (fun v3 v4 v10 wr => ∃ (k : Nat) (E : Int) (care : Bool), k ≤ t.wins.length ∧ v10 = .int .i64 (k : Int) ∧ v3 = .int .i64 E ∧ v4 = .bool care ∧ 0 ≤ E ∧ E ≤ 9223372036854775807 ∧ Hid (winsOk t 0 t.wins = winsOk t E (t.wins.drop k)) ∧ Hid (careB t.wins = (care || careB (t.wins.drop k))) ∧ Below w.heap.size w wr ∧ Blk wr w.heap.size 26 (tabC t ⟨A1, k1, A2, k2, A3, k3⟩)) (fun _ _ v10 _ => t.wins.length - (intOf v10).toNat)
  case atStart => exact ⟨0, 0, false, by omega, rfl, rfl, rfl, by omega, by omega, rfl, by refine hid ?_; simp, hb0, hblk⟩
  case round =>
    clear hblk hb0
    obtain ⟨k, E, care, hk, rfl, rfl, rfl, hE1, hE2, HW, HC, hbel, hblk⟩ := hrel
    obtain ⟨q0, q1, q2, q3, q4⟩ := tab_cells hblk
    by_cases hkn : k < t.wins.length
    · obtain ⟨ad, x, rfl, had, hx, hc0, hc⟩ := (h.belowS hbel).at_ hkn
      have c0 := hc0 _ rfl
      have c1 := hc 0 _ rfl
      have c2 := hc 1 _ rfl
      clear hc hc0
      obtain ⟨p, f, lg⟩ := x
      simp only at c0 c1 c2
      have hdk : t.wins.drop k = ⟨p, f, lg⟩ :: t.wins.drop (k + 1) := by
        obtain ⟨hlt, hv⟩ := List.getElem?_eq_some_iff.1 hx
        rw [List.drop_eq_getElem_cons hlt, hv]
      have HBad : Hid (winBad t E ⟨p, f, lg⟩ = (!(hasB t p) || decide (f < E) || decide (t.frame < f) || decide (lg < 1) || decide (t.frame - f < lg))) := rfl
      have HW2 : Hid (winsOk t 0 t.wins = (!(winBad t E ⟨p, f, lg⟩) && winsOk t (f + lg) (t.wins.drop (k + 1)))) := by
        refine hid ?_
        rw [HW.out, hdk]
        rfl
      have HC2 : Hid (careB t.wins = ((care || p == 0) || careB (t.wins.drop (k + 1)))) := by
        refine hid ?_
        rw [HC.out, hdk]
        unfold careB
        rw [List.any_cons, Bool.or_assoc]
      have i1 := hid (fun w => has_any t ⟨A1, k1, some ad, k2, A3, k3⟩ p w hn1)
      simp only at i1
      generalize hasB t p = b1 at HBad i1
      have hno : winBad t E ⟨p, f, lg⟩ = true → winsB t = false := fun h => by unfold winsB; rw [HW2.out, h]; rfl
      have HNo := hid hno
      clear hno hdk hx HW HC
      have hblk1 := hblk.alloc (.cells #[.int .i64 p, .int .i64 f, .int .i64 lg] 85)
      have hsrc : Blk (wr.alloc (.cells #[.int .i64 p, .int .i64 f, .int .i64 lg] 85)) wr.heap.size 85 [.int .i64 p, .int .i64 f, .int .i64 lg] := Blk.new wr _ _
      have hbel1 := bel_alloc hbel (.cells #[.int .i64 p, .int .i64 f, .int .i64 lg] 85)
      clear q0 q1 q2 q3 q4
      obtain ⟨q0, q1, q2, q3, q4⟩ := tab_cells hblk1
      go_wp2_with fail
      refine (i1.out _).mono ?_
      rintro e w1 ⟨rfl, hb1⟩
      have hblk2 := hblk1.belowS hb1
      have hsrc2 := hsrc.belowS hb1
      have hbel2 := bel_trans hbel1 hb1
      clear q0 q1 q2 q3 q4 hblk hblk1 hsrc hbel1 hbel hb1 c0 c1 c2
      obtain ⟨q0, q1, q2, q3, q4⟩ := tab_cells hblk2
      have s0 := hsrc2.cellAt (i := 0) rfl
      have s1 := hsrc2.cellAt (i := 1) rfl
      have s2 := hsrc2.cellAt (i := 2) rfl
      cases b1
      · have hw := HNo.out (by rw [HBad.out]; rfl)
        have HWF := hid hw
        clear hw
        go_wp2_with fail
        go_ret
        exact ⟨by rw [HWF.out]; rfl, hbel2⟩
      · by_cases d1 : f < E
        · have HWF := hid (HNo.out (by rw [HBad.out]; simp [d1]))
          go_wp2_with fail
          go_ret
          exact ⟨by rw [HWF.out]; rfl, hbel2⟩
        · have e1 : decide (f < E) = false := by simp; omega
          by_cases d2 : t.frame < f
          · have HWF := hid (HNo.out (by rw [HBad.out]; simp [d2]))
            go_wp2_with fail
            go_ret
            exact ⟨by rw [HWF.out]; rfl, hbel2⟩
          · have e2 : decide (t.frame < f) = false := by simp; omega
            by_cases d3 : lg < 1
            · have HWF := hid (HNo.out (by rw [HBad.out]; simp [d3]))
              go_wp2_with fail
              go_ret
              exact ⟨by rw [HWF.out]; rfl, hbel2⟩
            · have e3 : decide (lg < 1) = false := by simp; omega
              by_cases d4 : t.frame - f < lg
              · have HWF := hid (HNo.out (by rw [HBad.out]; simp [d4]))
                go_wp2_with fail
                go_ret
                exact ⟨by rw [HWF.out]; rfl, hbel2⟩
              · have e4 : decide (t.frame - f < lg) = false := by simp; omega
                have HOk : Hid (winsOk t 0 t.wins = winsOk t (f + lg) (t.wins.drop (k + 1))) := by
                  refine hid ?_
                  rw [HW2.out, HBad.out, e1, e2, e3, e4]
                  rfl
                cases care
                · have HC3 : Hid (careB t.wins = ((p == 0) || careB (t.wins.drop (k + 1)))) := by refine hid ?_; rw [HC2.out]; simp
                  go_wp2_with fail
                  go_roundw
                  case rel => exact ⟨k + 1, f + lg, (p == 0), by omega, by go_num, rfl, rfl, by omega, by omega, HOk, HC3, hbel2, hblk2⟩
                  case measure => simp [intOf]; omega
                · have HC3 : Hid (careB t.wins = (true || careB (t.wins.drop (k + 1)))) := by refine hid ?_; rw [HC2.out]; simp
                  go_wp2_with fail
                  go_roundw
                  case rel => exact ⟨k + 1, f + lg, true, by omega, by go_num, rfl, rfl, by omega, by omega, HOk, HC3, hbel2, hblk2⟩
                  case measure => simp [intOf]; omega
    · obtain rfl : k = t.wins.length := by omega
      have HE : Hid (winsB t = (care && decide (t.wins.length ≤ 8))) := by
        refine hid ?_
        unfold winsB
        rw [HW.out, HC.out, List.drop_length]
        simp [winsOk, careB]
      cases care
      · have HE2 : Hid (winsB t = false) := by refine hid ?_; rw [HE.out]; rfl
        go_wp2_with fail
        go_ret
        exact ⟨by rw [HE2.out]; rfl, hbel⟩
      · by_cases h8 : t.wins.length ≤ 8
        · have HE2 : Hid (winsB t = true) := by refine hid ?_; rw [HE.out]; simp [h8]
          go_wp2_with fail
          go_ret
          exact ⟨by rw [HE2.out]; simp; omega, hbel⟩
        · have HE2 : Hid (winsB t = false) := by refine hid ?_; rw [HE.out]; simp [h8]
          go_wp2_with fail
          go_ret
          exact ⟨by rw [HE2.out]; simp; omega, hbel⟩

/-- What is known of a table that is asked about. -/
structure TabOk (w : World) (t : TabS) (a : TabA) : Prop where
  inn : TabIn w t a
  n1 : t.parts.length ≤ 100000
  n2 : t.wins.length ≤ 100000
  n3 : t.chans.length ≤ 100000
  f1 : -9223372036854775808 ≤ t.frame
  f2 : t.frame ≤ 9223372036854775807
theorem TabOk.belowS {w w' : World} {t : TabS} {a : TabA} (h : TabOk w t a) (hb : Below w.heap.size w w') : TabOk w' t a := ⟨h.inn.belowS hb, h.n1, h.n2, h.n3, h.f1, h.f2⟩
set_option maxHeartbeats 1000000 in
theorem right_any (t : TabS) (a : TabA) (w : World) (h : TabOk w t a) :
    Calls Tryz.prog 27 #[.agg #[.int .i64 t.frame, .slice a.A1 t.parts.length a.c1, .slice a.A2 t.wins.length a.c2, .slice a.A3 t.chans.length a.c3, .int .i64 t.trial]] w fun e w' => e = .returned (.bool (rightB t)) ∧ Below w.heap.size w w' := by
  have HB : Hid (rightB t = (inB t.frame 1 64 && inB t.trial 1 7 && inB (t.parts.length : Int) 2 4 && !(t.parts.any badB) && winsB t && decide (t.chans.length ≤ 4) && !(t.chans.any (chanBad t)))) := rfl
  have hb0 : Below w.heap.size w (w.alloc (.cells (tabC t a).toArray 26)) := (Below.refl _ _).alloc (Nat.le_refl _) _
  have hblk0 : Blk (w.alloc (.cells (tabC t a).toArray 26)) w.heap.size 26 (tabC t a) := Blk.new w _ _
  have h1 := h.belowS hb0
  have i1 := hid (fun w => in_any t.frame 1 64 w)
  have i2 := hid (fun w => in_any t.trial 1 7 w)
  have i3 := hid (fun w => in_any (t.parts.length : Int) 2 4 w)
  have i4 := hid (fun w (h : TabOk w t a) => containsPart_any a.A1 t.parts.length a.c1 t.parts w h.inn.1 h.n1)
  have i5 := hid (fun w (h : TabOk w t a) => windows_any t a w h.n1 h.n2 h.inn.2.1 h.f1 h.f2)
  have i7 := hid (fun w (h : TabOk w t a) (g : Nat) (hblk : Blk w g 26 (tabC t a)) => containsChan_any a.A3 t.chans.length a.c3 t.chans t a g w h.inn.2.2 h.n3 hblk h.n1)
  have hn3 := h.n3
  generalize rightB t = r at HB ⊢
  generalize inB t.frame 1 64 = b1 at HB i1
  generalize inB t.trial 1 7 = b2 at HB i2
  generalize inB (t.parts.length : Int) 2 4 = b3 at HB i3
  generalize t.parts.any badB = b4 at HB i4
  generalize winsB t = b5 at HB i5
  generalize t.chans.any (chanBad t) = b7 at HB i7
  obtain ⟨c0, c1, c2, c3, c4⟩ := tab_cells hblk0
  have hr := HB.out
  clear HB
  cases b1
  · simp only [Bool.false_and] at hr
    subst hr
    clear hblk0
    go_enter Tryz.func27, Tryz.ntmps27
    go_wp2_with fail
    refine (i1.out _).mono ?_
    rintro e w' ⟨rfl, rfl⟩
    go_wp2_with fail
    go_ret
    exact ⟨rfl, hb0⟩
  · cases b2
    · simp only [Bool.false_and, Bool.and_false] at hr
      subst hr
      go_enter Tryz.func27, Tryz.ntmps27
      go_wp2_with fail
      refine (i1.out _).mono ?_
      rintro e w' ⟨rfl, rfl⟩
      go_wp2_with fail
      refine (i2.out _).mono ?_
      rintro e w' ⟨rfl, rfl⟩
      go_wp2_with fail
      go_ret
      exact ⟨rfl, hb0⟩
    · go_enter Tryz.func27, Tryz.ntmps27
      go_wp2_with fail
      refine (i1.out _).mono ?_
      rintro e w' ⟨rfl, rfl⟩
      go_wp2_with fail
      refine (i2.out _).mono ?_
      rintro e w' ⟨rfl, rfl⟩
      go_wp2_with fail
      refine (i3.out _).mono ?_
      rintro e w' ⟨rfl, rfl⟩
      cases b3
      · simp only [Bool.false_and, Bool.and_false] at hr
        subst hr
        go_wp2_with fail
        go_ret
        exact ⟨rfl, hb0⟩
      · simp only [Bool.true_and] at hr
        have HR := hid hr
        clear hr
        go_wp2_with fail
        refine (i4.out _ h1).mono ?_
        rintro e w2 ⟨rfl, hb2⟩
        have hblk2 := hblk0.belowS hb2
        have h2 := h1.belowS hb2
        have hb02 := bel_trans hb0 hb2
        clear c0 c1 c2 c3 c4
        obtain ⟨c0, c1, c2, c3, c4⟩ := tab_cells hblk2
        cases b4
        · have HR2 : Hid (r = (b5 && decide (t.chans.length ≤ 4) && !b7)) := by refine hid ?_; rw [HR.out]; simp
          go_wp2_with fail
          refine (i5.out _ h2).mono ?_
          rintro e w3 ⟨rfl, hb3⟩
          have hblk3 := hblk2.belowS hb3
          have h3 := h2.belowS hb3
          have hb03 := bel_trans hb02 hb3
          clear c0 c1 c2 c3 c4
          obtain ⟨c0, c1, c2, c3, c4⟩ := tab_cells hblk3
          cases b5
          · have hf : r = false := by rw [HR2.out]; rfl
            subst hf
            go_wp2_with fail
            go_ret
            exact ⟨rfl, hb03⟩
          · by_cases hc4 : t.chans.length ≤ 4
            · have hf : r = !b7 := by rw [HR2.out]; simp [hc4]
              have hd : decide (4 < (t.chans.length : Int)) = false := by simp; omega
              subst hf
              go_wp2_with fail
              refine (i7.out _ h3 _ hblk3).mono ?_
              rintro e w4 ⟨rfl, hb4⟩
              go_wp2_with fail
              go_ret
              exact ⟨rfl, bel_trans hb03 hb4⟩
            · have hf : r = false := by rw [HR2.out]; simp [hc4]
              have hd : decide (4 < (t.chans.length : Int)) = true := by simp; omega
              subst hf
              go_wp2_with fail
              go_ret
              exact ⟨rfl, hb03⟩
        · have hf : r = false := by rw [HR.out]; simp
          subst hf
          go_wp2_with fail
          go_ret
          exact ⟨rfl, hb02⟩
end Go.Proofs.YtidlahljhgglcaaGreat
namespace Go.Proofs.YtidlahljhgglcaaGreat
open Go.RowKit Go.ChangeShapes Go.WideShapes Go.ChangeAt

theorem portSend_nil (p k n : Int) (w : World) : Calls Tryz.prog 17 #[.pointer none, .int .i64 p, .int .i64 k, .int .i64 n] w fun e w' => e = .returned (.tuple #[.bool false, .int .i64 7]) ∧ w' = w := by
  go_enter Tryz.func17, Tryz.ntmps17
  go_wp2_with fail
  go_ret2
  exact ⟨rfl, by first | trivial | rfl⟩
theorem portGet_nil (p k : Int) (w : World) : Calls Tryz.prog 115 #[.pointer none, .int .i64 p, .int .i64 k] w fun e w' => e = .returned (.tuple #[.int .i64 0, .bool false, .int .i64 7]) ∧ w' = w := by
  go_enter Tryz.func115, Tryz.ntmps115
  go_wp2_with fail
  refine bodyPost_ret (v := .tuple #[.int .i64 0, .bool false, .int .i64 7]) (by simp [results, Tryz.results115, go_sem]) rfl ?_
  exact ⟨rfl, by first | trivial | rfl⟩
end Go.Proofs.YtidlahljhgglcaaGreat
namespace Go.Proofs.YtidlahljhgglcaaGreat
open Go.RowKit Go.ChangeShapes Go.WideShapes Go.ChangeAt

/-- A queue: its block, its slice. -/
structure RowIn (w : World) (g : Nat) (A : Option Addr) (c : Nat) (l : List Int) (d : Nat) : Prop where
  blk : Blk w g 97 [.slice A l.length c, .int .i64 (d : Int)]
  row : Row w 3 A l.length c (l.map iV)
  off : ¬ Foot A g
def LastIn (w : World) (g : Nat) (n : Int) (is : Bool) : Prop := Blk w g 92 [.int .i64 n, .bool is]

theorem lastSend_any (g : Nat) (m n : Int) (is : Bool) (w : World) (h : LastIn w g m is) :
    Calls Tryz.prog 120 #[.pointer (some ⟨g, 0, none⟩), .int .i64 n] w fun e w' => e = .returned (.bool true) ∧ LastIn w' g n true ∧ Apart (fun b => b = g) w w' := by
  have c0 : w.cell? ⟨g, 0, none⟩ = some (.int .i64 m) := Blk.cellAt h rfl
  have c1 : w.cell? ⟨g, 1, none⟩ = some (.bool is) := Blk.cellAt h rfl
  have f0 := Blk.frozen h 0
  have f1 := Blk.frozen h 1
  have H := hid h
  clear h
  go_enter Tryz.func120, Tryz.ntmps120
  go_wp2_with fail
  go_ret
  exact ⟨rfl, Blk.set_ (Blk.set_ H.out 0 (.int .i64 n)) 1 (.bool true), ((Apart.refl (fun b => b = g) w).setCell (p := ⟨g, 0, none⟩) (.inl rfl) _).setCell (p := ⟨g, 1, none⟩) (.inl rfl) _⟩
theorem lastGet_any (g : Nat) (n : Int) (is : Bool) (w : World) (h : LastIn w g n is) :
    Calls Tryz.prog 119 #[.pointer (some ⟨g, 0, none⟩)] w fun e w' => e = .returned (.tuple #[.int .i64 n, .bool is]) ∧ ∃ q, w' = w.drewN q := by
  have c0 : w.cell? ⟨g, 0, none⟩ = some (.int .i64 n) := Blk.cellAt h rfl
  have c1 : w.cell? ⟨g, 1, none⟩ = some (.bool is) := Blk.cellAt h rfl
  clear h
  go_enter Tryz.func119, Tryz.ntmps119
  go_wp2_with fail
  go_quiet (fail)
  go_wp2_with fail
  go_ret2
  exact ⟨rfl, nq, rfl⟩

theorem rowSend_full (g : Nat) (A : Option Addr) (c : Nat) (l : List Int) (d : Nat) (n : Int) (w : World) (h : RowIn w g A c l d) (hl : l.length = d) :
    Calls Tryz.prog 124 #[.pointer (some ⟨g, 0, none⟩), .int .i64 n] w fun e w' => e = .returned (.bool false) ∧ ∃ q, w' = w.drewN q := by
  have c0 : w.cell? ⟨g, 0, none⟩ = some (.slice A l.length c) := h.blk.cellAt rfl
  have c1 : w.cell? ⟨g, 1, none⟩ = some (.int .i64 (d : Int)) := h.blk.cellAt rfl
  have g0 : ((l.length : Int) == (d : Int)) = true := by simp [hl]
  clear h hl
  go_enter Tryz.func124, Tryz.ntmps124
  go_wp2_with fail
  go_quiet (fail)
  go_wp2_with fail
  go_ret
  exact ⟨rfl, nq, rfl⟩
theorem info_int : (Tryz.prog.info? 3).map (fun i => (i.zero, i.size, i.bytes)) = some (some (.int .i64 0), 1, 8) := by kernel_rfl
set_option maxRecDepth 100000 in
theorem rowSend_ok (g : Nat) (A : Option Addr) (c : Nat) (l : List Int) (d : Nat) (n : Int) (w : World) (h : RowIn w g A c l d) (hl : l.length ≠ d) (hm : l.length ≤ 100000) :
    Calls Tryz.prog 124 #[.pointer (some ⟨g, 0, none⟩), .int .i64 n] w fun e w' => e = .returned (.bool true) ∧ ∃ A' c', RowIn w' g A' c' (l ++ [n]) d ∧ Apart (fun b => b = g ∨ Foot A b) w w' ∧ ∀ b, Foot A' b → Foot A b ∨ w.heap.size ≤ b := by
  have c0 : w.cell? ⟨g, 0, none⟩ = some (.slice A l.length c) := h.blk.cellAt rfl
  have c1 : w.cell? ⟨g, 1, none⟩ = some (.int .i64 (d : Int)) := h.blk.cellAt rfl
  have g0 : ((l.length : Int) == (d : Int)) = false := by simp; omega
  have H := hid h
  have hlt := h.blk.lt
  clear h
  have hne : some g ≠ (Value.slice A l.length c).ownBlock := by
    cases A with
    | none => simp [Value.ownBlock]
    | some a =>
      intro e
      injection e with e
      exact H.out.off ⟨a, rfl, e.symm⟩
  have HNE := hid hne
  clear hne
  obtain ⟨i0, hi0, hz0, hz1, hz2⟩ := info_parts info_int
  go_enter Tryz.func124, Tryz.ntmps124
  go_wp2_with fail
  go_quiet (fail)
  have hB : ∀ o, ((w.drewN nq).alloc o).heap.size = w.heap.size + 1 := fun o => by simp
  go_wp2_with (at_builtin; refine wpList_row _ rfl (.tmp 19) (.tmp 21) _ rfl 3 i0 _ 8 Tryz.underlying51 hi0 hz0 hz1 hz2 rfl A l.length c (l.map iV) rfl ((H.out.row : Row (w.drewN nq) _ _ _ _ _).alloc _) (w.heap.size + 1) (some ⟨w.heap.size, 0, none⟩) 1 1 [iV n] rfl (Reads.new (w.drewN nq) #[.int .i64 n] 3 1 rfl) (by simp [iV, Value.oneCell']) (by simp [maxLen]; omega) (by omega) (l.length + 1) rfl ?_; intro A' c' w2 hrow2 hg2 hA2; have hb2 : Blk w2 g 97 [.slice A l.length c, .int .i64 (d : Int)] := (hg2.block g (by simp; omega) HNE.out).trans ((H.out.blk.drewN nq).alloc _); have x0 : w2.cell? ⟨g, 0, none⟩ = some (.slice A l.length c) := hb2.cellAt rfl; have y0 := hb2.frozen 0)
  go_ret
  have hfoot : ∀ b, Foot A' b → Foot A b ∨ w.heap.size ≤ b := by
    intro b hb
    rcases hA2 with e | e
    · rw [e] at hb; exact .inl hb
    · rw [e] at hb
      obtain ⟨a, ha, hb⟩ := hb
      injection ha with ha
      right
      rw [← hb, ← ha]
      simp
  have hoff : ¬ Foot A' g := fun hf => by
    rcases hfoot g hf with h | h
    · exact H.out.off h
    · omega
  refine ⟨rfl, A', c', ⟨?_, ?_, hoff⟩, ?_, hfoot⟩
  · have h := hb2.set_ 0 (.slice A' (l.length + 1) c')
    have e : (l ++ [n]).length = l.length + 1 := by simp
    rw [e]
    exact h
  · have e : (l ++ [n]).length = l.length + 1 := by simp
    rw [e, List.map_append]
    exact hrow2.far (p := ⟨g, 0, none⟩) hoff _
  · refine Apart.setCell ?_ (p := ⟨g, 0, none⟩) (.inl (.inl rfl)) _
    have h0 : Apart (fun b => b = g ∨ Foot A b) w ((w.drewN nq).alloc (.cells #[.int .i64 n] 3)) := (⟨rfl, rfl, rfl, Nat.le_refl _, fun _ _ _ => rfl⟩ : Apart (fun b => b = g ∨ Foot A b) w (w.drewN nq)).alloc _
    refine h0.grown hg2 (fun k hk => ?_)
    cases A with
    | none => simp [Value.ownBlock] at hk
    | some a =>
      injection hk with hk
      exact .inl (.inr ⟨a, rfl, hk⟩)
end Go.Proofs.YtidlahljhgglcaaGreat
namespace Go.Proofs.YtidlahljhgglcaaGreat
open Go.RowKit Go.ChangeShapes Go.WideShapes Go.ChangeAt

theorem oneCell_is (l : List Int) : ∀ u ∈ l.map iV, u.oneCell' = true := by intro u hu; obtain ⟨b, _, rfl⟩ := List.mem_map.1 hu; rfl
theorem cloneI_any (A : Option Addr) (n c : Nat) (l : List Int) (w : World) (h : Reads w w.heap.size 1 A n (l.map iV)) (hn : n ≤ 1000000000) :
    Calls Tryz.prog 51 #[.slice A n c] w fun e w' => ∃ A' c', e = .returned (.slice A' n c') ∧ w'.ownsRow w.heap.size 3 1 (.slice A' n c') n (l.map iV) ∧ Below w.heap.size w w' := by
  have hnil := fun (W : World) (a : Option Addr) => Lib.run_eql_slice_nil (P := Tryz.prog) W 51 3 a n c 0 0 Tryz.underlying51
  obtain ⟨i0, hi0, hz0, hz1, hz2⟩ := info_parts info_int
  cases A with
  | none =>
    have hb : n = 0 := by
      by_cases h0 : 0 < n
      · obtain ⟨ad, he, _⟩ := h.form h0
        cases he
      · omega
    subst hb
    have hb : l = [] := List.eq_nil_of_length_eq_zero (by simpa using h.len)
    subst hb
    clear h
    go_enter Tryz.func51, Tryz.ntmps51
    go_wp2
    go_ret
    exact ⟨none, 0, rfl, World.ownsRow_nil _ _ _ _, Below.refl _ _⟩
  | some ad =>
    go_enter Tryz.func51, Tryz.ntmps51
    go_wp2_with (at_builtin; refine wpList_app _ rfl (.tmp 5) (.tmp 6) _ rfl w.heap.size 3 i0 _ 1 8 Tryz.underlying51 hi0 hz0 hz1 hz2 rfl (by decide) (.slice (some ⟨w.heap.size, 0, none⟩) 0 0) 0 [] rfl (World.ownsRow_made w _ 0 (Nat.le_refl _) (by simp [maxLen]) rfl) w.heap.size (some ad) n c (l.map iV) rfl (h.alloc (Nat.le_refl _) _) (oneCell_is l) (by simp [maxLen]; omega) (by omega) (by simp) ?_; intro A' c' w' hown hg hb)
    go_ret
    refine ⟨A', c', by simp, by simpa using hown, ?_⟩
    exact below_own ((Below.refl w.heap.size w).alloc (Nat.le_refl _) _) (World.ownsRow_made (size := 1) w _ 0 (Nat.le_refl _) (by simp [maxLen]) rfl) hg (Nat.le_refl _) (by simp)
def lastL (n : Int) (is : Bool) : List Int := if is then [n] else []
end Go.Proofs.YtidlahljhgglcaaGreat
namespace Go.Proofs.YtidlahljhgglcaaGreat
open Go.RowKit Go.ChangeShapes Go.WideShapes Go.ChangeAt

def delRen : Go.Shelf.Ren := ⟨fun n => if n = 23 then 125 else n, fun n => if n = 3 then 3 else if n = 4 then 4 else if n = 22 then 51 else n, fun n => n⟩
theorem delLays : Go.Proofs.Lays2.n23 Tryz.prog delRen where
  mixed := by kernel_rfl
  f23 := Tryz.func125.trans (congrArg some (by kernel_rfl))
  t0 := by kernel_rfl
  a0 := fun w => by kernel_rfl
  z0 := fun w => by kernel_rfl
  v0 := fun w => by kernel_rfl
  t3 := by kernel_rfl
  a3 := fun w => by kernel_rfl
  z3 := fun w => by kernel_rfl
  v3 := fun w => by kernel_rfl
  t4 := by kernel_rfl
  a4 := fun w => by kernel_rfl
  z4 := fun w => by kernel_rfl
  v4 := fun w => by kernel_rfl
  t22 := by kernel_rfl
  a22 := fun w => by kernel_rfl
  z22 := fun w => by kernel_rfl
  v22 := fun w => by kernel_rfl
  i3 := by kernel_rfl

section
variable {w w' : World} {e : TypeId} {A : Option Addr} {n c g : Nat} {xs : List Value}
theorem Row.short (h : Row w e A n c xs) {i : Nat} (hi : i ≤ n) : Row w e A i c (xs.take i) := by
  have hl := h.len
  have hc := h.cap
  refine ⟨by rw [List.length_take]; omega, by omega, hc.2, ?_⟩
  rcases h.2.2.2 with ⟨h1, h2⟩ | ⟨g, cur, h1, h2, h3, h4⟩
  · exact .inl ⟨h1, h2⟩
  · refine .inr ⟨g, cur, h1, h2, h3, ?_⟩
    rw [← h4, List.take_take, Nat.min_eq_left hi]
theorem Apart.setCells {F : Nat → Prop} {b : Nat} (hb : F b) : ∀ (vs : List Value) (o : Nat) (w' : World), Apart F w w' → Apart F w (w'.setCells b o vs)
  | [], _, _, h => h
  | v :: vs, o, w', h => Apart.setCells hb vs (o + 1) _ (h.setCell (p := ⟨b, o, none⟩) (.inl hb) v)
theorem Row.setAll : ∀ (vs : List Value) (o : Nat) (w : World) (xs : List Value), Row w e (some ⟨g, 0, none⟩) n c xs → o + vs.length ≤ n → Row (w.setCells g o vs) e (some ⟨g, 0, none⟩) n c (xs.take o ++ vs ++ xs.drop (o + vs.length))
  | [], o, w, xs, h, _ => by
    show Row w e _ n c _
    simp only [List.append_nil, List.length_nil, Nat.add_zero, List.take_append_drop]
    exact h
  | v :: vs, o, w, xs, h, ho => by
    have hl := h.len
    simp only [List.length_cons] at ho
    have h1 := h.set_ o v
    have h2 := Row.setAll vs (o + 1) _ _ h1 (by omega)
    show Row ((w.setCell ⟨g, o, none⟩ v).setCells g (o + 1) vs) e _ n c _
    have e1 : (xs.set o v).take (o + 1) ++ vs ++ (xs.set o v).drop (o + 1 + vs.length) = xs.take o ++ (v :: vs) ++ xs.drop (o + (v :: vs).length) := by
      rw [List.drop_set_of_lt (by omega), List.take_add_one, List.take_set_of_le (by omega), List.getElem?_set_self (by omega)]
      simp only [Option.toList_some, List.append_assoc, List.singleton_append, List.length_cons, List.cons_append, List.nil_append]
      rw [show o + 1 + vs.length = o + (vs.length + 1) by omega]
    rw [← e1]
    exact h2
end

theorem rowGet_no (g : Nat) (A : Option Addr) (c : Nat) (d : Nat) (w : World) (h : RowIn w g A c [] d) :
    Calls Tryz.prog 123 #[.pointer (some ⟨g, 0, none⟩)] w fun e w' => e = .returned (.tuple #[.int .i64 0, .bool false]) ∧ w' = w := by
  have c0 : w.cell? ⟨g, 0, none⟩ = some (.slice A 0 c) := h.blk.cellAt rfl
  clear h
  go_enter Tryz.func123, Tryz.ntmps123
  go_wp2_with fail
  go_ret2
  exact ⟨rfl, by first | trivial | rfl⟩
theorem rowGet_yes (g : Nat) (A : Option Addr) (c : Nat) (x : Int) (l : List Int) (d : Nat) (w : World) (h : RowIn w g A c (x :: l) d) :
    Calls Tryz.prog 123 #[.pointer (some ⟨g, 0, none⟩)] w fun e w' => e = .returned (.tuple #[.int .i64 x, .bool true]) ∧ RowIn w' g A c l d ∧ Apart (fun b => b = g ∨ Foot A b) w w' := by
  obtain ⟨b, rfl, hb⟩ := h.row.form (by simp)
  have hcap := h.row.cap
  unfold maxLen at hcap
  have hbg : b ≠ g := fun e => h.off ⟨_, rfl, e⟩
  have c0 : w.cell? ⟨g, 0, none⟩ = some (.slice (some ⟨b, 0, none⟩) (l.length + 1) c) := h.blk.cellAt rfl
  have d0 : w.cell? ⟨b, 0, none⟩ = some (.int .i64 x) := h.row.cell (j := 0) rfl
  have i1 := hid (Any.slices_Delete_int_cells delLays b 0 (l.length + 1) c 0 1 (x :: l) w (by simp) (by simpa using hcap.1) (by omega) (by omega) (by omega) (fun j hj => by
    rw [Nat.zero_add]
    refine h.row.cell (j := j) ?_
    rw [List.getElem?_map, List.getElem?_eq_getElem hj, List.getD_eq_getElem?_getD, List.getElem?_eq_getElem hj]
    rfl) (fun j _ => by rw [Nat.zero_add]; exact h.row.frozen j))
  have hv : (((x :: l).take (l.length + 1)).take 0 ++ ((x :: l).take (l.length + 1)).drop 1 ++ List.replicate (1 - 0) 0).map (Value.int .i64) = (l ++ [0]).map iV := by
    rw [List.take_of_length_le (show (x :: l).length ≤ l.length + 1 by simp)]
    rfl
  simp only [hv, show l.length + 1 - (1 - 0) = l.length by omega] at i1
  have H := hid h
  have hltg := h.blk.lt
  clear h hv
  go_enter Tryz.func123, Tryz.ntmps123
  have k0 : ((l.length : Int) + 1 == 0) = false := by simp; omega
  go_wp2_with fail
  refine i1.out.mono ?_
  rintro e w1 ⟨rfl, q, hw1⟩
  have hap0 : Apart (fun k => k = b) w w1 := by
    rw [hw1]
    have h0 : Apart (fun k => k = b) w (w.drewN q) := ⟨rfl, rfl, rfl, Nat.le_refl _, fun _ _ _ => rfl⟩
    exact Apart.setCells (F := fun k => k = b) (b := b) rfl ((l ++ [0]).map iV) 0 (w.drewN q) h0
  have hrow : Row w1 3 (some ⟨b, 0, none⟩) l.length c (l.map iV) := by
    have hr0 : Row (w.drewN q) 3 (some ⟨b, 0, none⟩) (l.length + 1) c ((x :: l).map iV) := H.out.row
    have h1 := Row.setAll ((l ++ [0]).map iV) 0 (w.drewN q) _ hr0 (by simp)
    have h2 := h1.short (i := l.length) (by omega)
    rw [← hw1] at h2
    have e : ((((x :: l).map iV).take 0 ++ (l ++ [0]).map iV ++ ((x :: l).map iV).drop (0 + ((l ++ [0]).map iV).length)).take l.length) = l.map iV := by
      rw [List.take_zero, List.nil_append, List.take_append_of_le_length (by simp), List.map_append, List.take_left' (by simp)]
    rw [e] at h2
    exact h2
  have hblk : Blk w1 g 97 [.slice (some ⟨b, 0, none⟩) (x :: l).length c, .int .i64 (d : Int)] := H.out.blk.apart hap0 (fun e => hbg e.symm)
  have x0 : w1.cell? ⟨g, 0, none⟩ = some (.slice (some ⟨b, 0, none⟩) (x :: l).length c) := hblk.cellAt rfl
  have y0 := hblk.frozen 0
  have HH := hid (And.intro hap0 (And.intro hrow hblk))
  clear hw1 hap0 hrow hblk c0 d0 i1 k0
  go_wp2_with fail
  go_ret2
  obtain ⟨hap0, hrow, hblk⟩ := HH.out
  have hoff : ¬ Foot (some ⟨b, 0, none⟩) g := H.out.off
  refine ⟨rfl, ⟨hblk.set_ 0 (.slice (some ⟨b, 0, none⟩) l.length c), hrow.far (p := ⟨g, 0, none⟩) hoff _, hoff⟩, ?_⟩
  refine Apart.setCell ?_ (p := ⟨g, 0, none⟩) (.inl (.inl rfl)) _
  exact ⟨hap0.os, hap0.tape, hap0.output, hap0.size, fun k hk hf => hap0.block k hk (fun e => hf (.inr ⟨_, rfl, e.symm⟩))⟩
end Go.Proofs.YtidlahljhgglcaaGreat
namespace Go.Proofs.YtidlahljhgglcaaGreat
open Go.RowKit Go.ChangeShapes Go.WideShapes Go.ChangeAt

/-- The set's own block. -/
def SetBlk (w : World) (g : Nat) (AE : Option Addr) (cE : Nat) (AW : Option Addr) (n cW : Nat) : Prop := Blk w g 89 [.slice AE n cE, .slice AW n cW]
theorem there_any (g : Nat) (AE AW : Option Addr) (n cE cW : Nat) (k : Int) (w : World) (h : SetBlk w g AE cE AW n cW) :
    Calls Tryz.prog 35 #[.pointer (some ⟨g, 0, none⟩), .int .i64 k] w fun e w' => e = .returned (.bool (decide (0 ≤ k) && decide (k < n))) ∧ w' = w := by
  have c1 : w.cell? ⟨g, 1, none⟩ = some (.slice AW n cW) := Blk.cellAt h rfl
  clear h
  go_enter Tryz.func35, Tryz.ntmps35
  by_cases h0 : 0 ≤ k
  · have y0 : decide (0 ≤ k) = true := decide_eq_true h0
    by_cases h1 : k < n
    · have y1 : decide (k < (n : Int)) = true := decide_eq_true h1
      have hr : Hid ((decide (0 ≤ k) && decide (k < (n : Int))) = true) := hid (by rw [y0, y1]; rfl)
      clear h0 h1
      go_wp2_with fail
      go_ret
      exact ⟨by rw [hr.out]; rfl, by first | trivial | rfl⟩
    · have y1 : decide (k < (n : Int)) = false := decide_eq_false h1
      have hr : Hid ((decide (0 ≤ k) && decide (k < (n : Int))) = false) := hid (by rw [y0, y1]; rfl)
      clear h0 h1
      go_wp2_with fail
      go_ret
      exact ⟨by rw [hr.out]; rfl, by first | trivial | rfl⟩
  · have y0 : decide (0 ≤ k) = false := decide_eq_false h0
    have hr : Hid ((decide (0 ≤ k) && decide (k < (n : Int))) = false) := hid (by rw [y0]; rfl)
    clear h0
    go_wp2_with fail
    go_ret
    exact ⟨by rw [hr.out]; rfl, by first | trivial | rfl⟩

set_option maxRecDepth 100000 in
theorem sendRow_ok (g : Nat) (adE adW : Addr) (N cE cW k : Nat) (src v : Int) (gr : Nat) (A : Option Addr) (c : Nat) (l : List Int) (d : Nat) (w : World) (h : SetBlk w g (some adE) cE (some adW) N cW) (hk : k < N)
    (hs : w.cell? (adE.add (k * 3)) = some (.int .i64 src)) (hw : w.cell? (adW.add k) = some (.iface 95 (.pointer (some ⟨gr, 0, none⟩)))) (hr : RowIn w gr A c l d) (hl : l.length ≠ d) (hm : l.length ≤ 100000) (hv0 : 0 ≤ v) (hv1 : v ≤ 65535) :
    Calls Tryz.prog 17 #[.pointer (some ⟨g, 0, none⟩), .int .i64 src, .int .i64 (k : Int), .int .i64 v] w fun e w' => e = .returned (.tuple #[.bool true, .int .i64 0]) ∧ ∃ A' c', RowIn w' gr A' c' (l ++ [v]) d ∧ Apart (fun b => b = gr ∨ Foot A b) w w' ∧ ∀ b, Foot A' b → Foot A b ∨ w.heap.size ≤ b := by
  have c0 : w.cell? ⟨g, 0, none⟩ = some (.slice (some adE) N cE) := Blk.cellAt h rfl
  have c1 : w.cell? ⟨g, 1, none⟩ = some (.slice (some adW) N cW) := Blk.cellAt h rfl
  have i1 := hid (there_any g (some adE) (some adW) N cE cW (k : Int) w h)
  rw [decide_eq_true (show (0 : Int) ≤ (k : Int) by omega), decide_eq_true (show (k : Int) < (N : Int) by omega)] at i1
  have i2 := hid (rowSend_ok gr A c l d v w hr hl hm)
  have y0 : decide (v < 0) = false := decide_eq_false (by omega)
  have y1 : decide ((65535 : Int) < v) = false := decide_eq_false (by omega)
  have k0 : (0 : Int) ≤ (k : Int) := Int.natCast_nonneg _
  have k1 : (k : Int) < (N : Int) := by omega
  clear h hr hv0 hv1 hk
  go_enter Tryz.func17, Tryz.ntmps17
  go_wp2_with fail
  refine i1.out.mono ?_
  rintro e w1 ⟨rfl, rfl⟩
  go_wp2_with fail
  refine i2.out.mono ?_
  rintro e w2 ⟨rfl, hp⟩
  go_wp2_with fail
  go_ret2
  exact ⟨rfl, hp⟩
set_option maxRecDepth 100000 in
theorem sendRow_full (g : Nat) (adE adW : Addr) (N cE cW k : Nat) (src v : Int) (gr : Nat) (A : Option Addr) (c : Nat) (l : List Int) (d : Nat) (w : World) (h : SetBlk w g (some adE) cE (some adW) N cW) (hk : k < N)
    (hs : w.cell? (adE.add (k * 3)) = some (.int .i64 src)) (hw : w.cell? (adW.add k) = some (.iface 95 (.pointer (some ⟨gr, 0, none⟩)))) (hr : RowIn w gr A c l d) (hl : l.length = d) (hv0 : 0 ≤ v) (hv1 : v ≤ 65535) :
    Calls Tryz.prog 17 #[.pointer (some ⟨g, 0, none⟩), .int .i64 src, .int .i64 (k : Int), .int .i64 v] w fun e w' => e = .returned (.tuple #[.bool false, .int .i64 0]) ∧ ∃ q, w' = w.drewN q := by
  have c0 : w.cell? ⟨g, 0, none⟩ = some (.slice (some adE) N cE) := Blk.cellAt h rfl
  have c1 : w.cell? ⟨g, 1, none⟩ = some (.slice (some adW) N cW) := Blk.cellAt h rfl
  have i1 := hid (there_any g (some adE) (some adW) N cE cW (k : Int) w h)
  rw [decide_eq_true (show (0 : Int) ≤ (k : Int) by omega), decide_eq_true (show (k : Int) < (N : Int) by omega)] at i1
  have i2 := hid (rowSend_full gr A c l d v w hr hl)
  have y0 : decide (v < 0) = false := decide_eq_false (by omega)
  have y1 : decide ((65535 : Int) < v) = false := decide_eq_false (by omega)
  have k0 : (0 : Int) ≤ (k : Int) := Int.natCast_nonneg _
  have k1 : (k : Int) < (N : Int) := by omega
  clear h hr hv0 hv1 hk
  go_enter Tryz.func17, Tryz.ntmps17
  go_wp2_with fail
  refine i1.out.mono ?_
  rintro e w1 ⟨rfl, rfl⟩
  go_wp2_with fail
  refine i2.out.mono ?_
  rintro e w2 ⟨rfl, hp⟩
  go_wp2_with fail
  go_ret2
  exact ⟨rfl, hp⟩
set_option maxRecDepth 100000 in
theorem sendLast_any (g : Nat) (adE adW : Addr) (N cE cW k : Nat) (src v : Int) (gr : Nat) (m : Int) (is : Bool) (w : World) (h : SetBlk w g (some adE) cE (some adW) N cW) (hk : k < N)
    (hs : w.cell? (adE.add (k * 3)) = some (.int .i64 src)) (hw : w.cell? (adW.add k) = some (.iface 90 (.pointer (some ⟨gr, 0, none⟩)))) (hr : LastIn w gr m is) (hv0 : 0 ≤ v) (hv1 : v ≤ 65535) :
    Calls Tryz.prog 17 #[.pointer (some ⟨g, 0, none⟩), .int .i64 src, .int .i64 (k : Int), .int .i64 v] w fun e w' => e = .returned (.tuple #[.bool true, .int .i64 0]) ∧ LastIn w' gr v true ∧ Apart (fun b => b = gr) w w' := by
  have c0 : w.cell? ⟨g, 0, none⟩ = some (.slice (some adE) N cE) := Blk.cellAt h rfl
  have c1 : w.cell? ⟨g, 1, none⟩ = some (.slice (some adW) N cW) := Blk.cellAt h rfl
  have i1 := hid (there_any g (some adE) (some adW) N cE cW (k : Int) w h)
  rw [decide_eq_true (show (0 : Int) ≤ (k : Int) by omega), decide_eq_true (show (k : Int) < (N : Int) by omega)] at i1
  have i2 := hid (lastSend_any gr m v is w hr)
  have y0 : decide (v < 0) = false := decide_eq_false (by omega)
  have y1 : decide ((65535 : Int) < v) = false := decide_eq_false (by omega)
  have k0 : (0 : Int) ≤ (k : Int) := Int.natCast_nonneg _
  have k1 : (k : Int) < (N : Int) := by omega
  clear h hr hv0 hv1 hk
  go_enter Tryz.func17, Tryz.ntmps17
  go_wp2_with fail
  refine i1.out.mono ?_
  rintro e w1 ⟨rfl, rfl⟩
  go_wp2_with fail
  refine i2.out.mono ?_
  rintro e w2 ⟨rfl, hp⟩
  go_wp2_with fail
  go_ret2
  exact ⟨rfl, hp⟩
set_option maxRecDepth 100000 in
theorem getRow_no (g : Nat) (adE adW : Addr) (N cE cW k : Nat) (dst : Int) (gr : Nat) (A : Option Addr) (c : Nat) (d : Nat) (w : World) (h : SetBlk w g (some adE) cE (some adW) N cW) (hk : k < N)
    (hs : w.cell? ⟨(adE.add (k * 3)).block, (adE.add (k * 3)).off + 1, none⟩ = some (.int .i64 dst)) (hw : w.cell? (adW.add k) = some (.iface 95 (.pointer (some ⟨gr, 0, none⟩)))) (hr : RowIn w gr A c [] d) :
    Calls Tryz.prog 115 #[.pointer (some ⟨g, 0, none⟩), .int .i64 dst, .int .i64 (k : Int)] w fun e w' => e = .returned (.tuple #[.int .i64 0, .bool false, .int .i64 0]) ∧ w' = w := by
  have c0 : w.cell? ⟨g, 0, none⟩ = some (.slice (some adE) N cE) := Blk.cellAt h rfl
  have c1 : w.cell? ⟨g, 1, none⟩ = some (.slice (some adW) N cW) := Blk.cellAt h rfl
  have i1 := hid (there_any g (some adE) (some adW) N cE cW (k : Int) w h)
  rw [decide_eq_true (show (0 : Int) ≤ (k : Int) by omega), decide_eq_true (show (k : Int) < (N : Int) by omega)] at i1
  have i2 := hid (rowGet_no gr A c d w hr)
  have k0 : (0 : Int) ≤ (k : Int) := Int.natCast_nonneg _
  have k1 : (k : Int) < (N : Int) := by omega
  clear h hr hk
  go_enter Tryz.func115, Tryz.ntmps115
  go_wp2_with fail
  refine i1.out.mono ?_
  rintro e w1 ⟨rfl, rfl⟩
  go_wp2_with fail
  refine i2.out.mono ?_
  rintro e w2 ⟨rfl, rfl⟩
  go_wp2_with fail
  refine bodyPost_ret (v := .tuple #[.int .i64 0, .bool false, .int .i64 0]) (by simp [results, Tryz.results115, go_sem]) rfl ?_
  exact ⟨rfl, by first | trivial | rfl⟩
set_option maxRecDepth 100000 in
theorem getRow_yes (g : Nat) (adE adW : Addr) (N cE cW k : Nat) (dst : Int) (gr : Nat) (A : Option Addr) (c : Nat) (x : Int) (l : List Int) (d : Nat) (w : World) (h : SetBlk w g (some adE) cE (some adW) N cW) (hk : k < N)
    (hs : w.cell? ⟨(adE.add (k * 3)).block, (adE.add (k * 3)).off + 1, none⟩ = some (.int .i64 dst)) (hw : w.cell? (adW.add k) = some (.iface 95 (.pointer (some ⟨gr, 0, none⟩)))) (hr : RowIn w gr A c (x :: l) d) :
    Calls Tryz.prog 115 #[.pointer (some ⟨g, 0, none⟩), .int .i64 dst, .int .i64 (k : Int)] w fun e w' => e = .returned (.tuple #[.int .i64 x, .bool true, .int .i64 0]) ∧ RowIn w' gr A c l d ∧ Apart (fun b => b = gr ∨ Foot A b) w w' := by
  have c0 : w.cell? ⟨g, 0, none⟩ = some (.slice (some adE) N cE) := Blk.cellAt h rfl
  have c1 : w.cell? ⟨g, 1, none⟩ = some (.slice (some adW) N cW) := Blk.cellAt h rfl
  have i1 := hid (there_any g (some adE) (some adW) N cE cW (k : Int) w h)
  rw [decide_eq_true (show (0 : Int) ≤ (k : Int) by omega), decide_eq_true (show (k : Int) < (N : Int) by omega)] at i1
  have i2 := hid (rowGet_yes gr A c x l d w hr)
  have k0 : (0 : Int) ≤ (k : Int) := Int.natCast_nonneg _
  have k1 : (k : Int) < (N : Int) := by omega
  clear h hr hk
  go_enter Tryz.func115, Tryz.ntmps115
  go_wp2_with fail
  refine i1.out.mono ?_
  rintro e w1 ⟨rfl, rfl⟩
  go_wp2_with fail
  refine i2.out.mono ?_
  rintro e w2 ⟨rfl, hp⟩
  go_wp2_with fail
  refine bodyPost_ret (v := .tuple #[.int .i64 x, .bool true, .int .i64 0]) (by simp [results, Tryz.results115, go_sem]) rfl ?_
  exact ⟨rfl, hp⟩
set_option maxRecDepth 100000 in
theorem getLast_any (g : Nat) (adE adW : Addr) (N cE cW k : Nat) (dst : Int) (gr : Nat) (m : Int) (is : Bool) (w : World) (h : SetBlk w g (some adE) cE (some adW) N cW) (hk : k < N)
    (hs : w.cell? ⟨(adE.add (k * 3)).block, (adE.add (k * 3)).off + 1, none⟩ = some (.int .i64 dst)) (hw : w.cell? (adW.add k) = some (.iface 90 (.pointer (some ⟨gr, 0, none⟩)))) (hr : LastIn w gr m is) :
    Calls Tryz.prog 115 #[.pointer (some ⟨g, 0, none⟩), .int .i64 dst, .int .i64 (k : Int)] w fun e w' => e = .returned (.tuple #[.int .i64 m, .bool is, .int .i64 0]) ∧ ∃ q, w' = w.drewN q := by
  have c0 : w.cell? ⟨g, 0, none⟩ = some (.slice (some adE) N cE) := Blk.cellAt h rfl
  have c1 : w.cell? ⟨g, 1, none⟩ = some (.slice (some adW) N cW) := Blk.cellAt h rfl
  have i1 := hid (there_any g (some adE) (some adW) N cE cW (k : Int) w h)
  rw [decide_eq_true (show (0 : Int) ≤ (k : Int) by omega), decide_eq_true (show (k : Int) < (N : Int) by omega)] at i1
  have i2 := hid (lastGet_any gr m is w hr)
  have k0 : (0 : Int) ≤ (k : Int) := Int.natCast_nonneg _
  have k1 : (k : Int) < (N : Int) := by omega
  clear h hr hk
  go_enter Tryz.func115, Tryz.ntmps115
  go_wp2_with fail
  refine i1.out.mono ?_
  rintro e w1 ⟨rfl, rfl⟩
  go_wp2_with fail
  refine i2.out.mono ?_
  rintro e w2 ⟨rfl, hp⟩
  go_wp2_with fail
  refine bodyPost_ret (v := .tuple #[.int .i64 m, .bool is, .int .i64 0]) (by simp [results, Tryz.results115, go_sem]) rfl ?_
  exact ⟨rfl, hp⟩
end Go.Proofs.YtidlahljhgglcaaGreat
namespace Go.Proofs.YtidlahljhgglcaaGreat
open Go.RowKit Go.ChangeShapes Go.WideShapes Go.ChangeAt

theorem send_out (g : Nat) (AE AW : Option Addr) (N cE cW : Nat) (p k v : Int) (w : World) (h : SetBlk w g AE cE AW N cW) (hk : ¬ (0 ≤ k ∧ k < N)) :
    Calls Tryz.prog 17 #[.pointer (some ⟨g, 0, none⟩), .int .i64 p, .int .i64 k, .int .i64 v] w fun e w' => e = .returned (.tuple #[.bool false, .int .i64 15]) ∧ w' = w := by
  have i1 := hid (there_any g AE AW N cE cW k w h)
  have hf : (decide (0 ≤ k) && decide (k < (N : Int))) = false := by
    rw [Bool.and_eq_false_iff, decide_eq_false_iff_not, decide_eq_false_iff_not]
    omega
  rw [hf] at i1
  clear h hk hf
  go_enter Tryz.func17, Tryz.ntmps17
  go_wp2_with fail
  refine i1.out.mono ?_
  rintro e w1 ⟨rfl, rfl⟩
  go_wp2_with fail
  go_ret2
  exact ⟨rfl, by first | trivial | rfl⟩
theorem get_out (g : Nat) (AE AW : Option Addr) (N cE cW : Nat) (p k : Int) (w : World) (h : SetBlk w g AE cE AW N cW) (hk : ¬ (0 ≤ k ∧ k < N)) :
    Calls Tryz.prog 115 #[.pointer (some ⟨g, 0, none⟩), .int .i64 p, .int .i64 k] w fun e w' => e = .returned (.tuple #[.int .i64 0, .bool false, .int .i64 15]) ∧ w' = w := by
  have i1 := hid (there_any g AE AW N cE cW k w h)
  have hf : (decide (0 ≤ k) && decide (k < (N : Int))) = false := by
    rw [Bool.and_eq_false_iff, decide_eq_false_iff_not, decide_eq_false_iff_not]
    omega
  rw [hf] at i1
  clear h hk hf
  go_enter Tryz.func115, Tryz.ntmps115
  go_wp2_with fail
  refine i1.out.mono ?_
  rintro e w1 ⟨rfl, rfl⟩
  go_wp2_with fail
  refine bodyPost_ret (v := .tuple #[.int .i64 0, .bool false, .int .i64 15]) (by simp [results, Tryz.results115, go_sem]) rfl ?_
  exact ⟨rfl, by first | trivial | rfl⟩
theorem send_src (g : Nat) (adE adW : Addr) (N cE cW k : Nat) (src p v : Int) (w : World) (h : SetBlk w g (some adE) cE (some adW) N cW) (hk : k < N) (hs : w.cell? (adE.add (k * 3)) = some (.int .i64 src)) (hp : src ≠ p) :
    Calls Tryz.prog 17 #[.pointer (some ⟨g, 0, none⟩), .int .i64 p, .int .i64 (k : Int), .int .i64 v] w fun e w' => e = .returned (.tuple #[.bool false, .int .i64 15]) ∧ w' = w := by
  have c0 : w.cell? ⟨g, 0, none⟩ = some (.slice (some adE) N cE) := Blk.cellAt h rfl
  have c1 : w.cell? ⟨g, 1, none⟩ = some (.slice (some adW) N cW) := Blk.cellAt h rfl
  have i1 := hid (there_any g (some adE) (some adW) N cE cW (k : Int) w h)
  rw [decide_eq_true (show (0 : Int) ≤ (k : Int) by omega), decide_eq_true (show (k : Int) < (N : Int) by omega)] at i1
  have k0 : (0 : Int) ≤ (k : Int) := Int.natCast_nonneg _
  have k1 : (k : Int) < (N : Int) := by omega
  have z0 : (src != p) = true := by simpa using hp
  clear h hk hp
  go_enter Tryz.func17, Tryz.ntmps17
  go_wp2_with fail
  refine i1.out.mono ?_
  rintro e w1 ⟨rfl, rfl⟩
  go_wp2_with fail
  go_ret2
  exact ⟨rfl, by first | trivial | rfl⟩
theorem get_dst (g : Nat) (adE adW : Addr) (N cE cW k : Nat) (dst p : Int) (w : World) (h : SetBlk w g (some adE) cE (some adW) N cW) (hk : k < N) (hs : w.cell? ⟨(adE.add (k * 3)).block, (adE.add (k * 3)).off + 1, none⟩ = some (.int .i64 dst)) (hp : dst ≠ p) :
    Calls Tryz.prog 115 #[.pointer (some ⟨g, 0, none⟩), .int .i64 p, .int .i64 (k : Int)] w fun e w' => e = .returned (.tuple #[.int .i64 0, .bool false, .int .i64 15]) ∧ w' = w := by
  have c0 : w.cell? ⟨g, 0, none⟩ = some (.slice (some adE) N cE) := Blk.cellAt h rfl
  have c1 : w.cell? ⟨g, 1, none⟩ = some (.slice (some adW) N cW) := Blk.cellAt h rfl
  have i1 := hid (there_any g (some adE) (some adW) N cE cW (k : Int) w h)
  rw [decide_eq_true (show (0 : Int) ≤ (k : Int) by omega), decide_eq_true (show (k : Int) < (N : Int) by omega)] at i1
  have k0 : (0 : Int) ≤ (k : Int) := Int.natCast_nonneg _
  have k1 : (k : Int) < (N : Int) := by omega
  have z0 : (dst != p) = true := by simpa using hp
  clear h hk hp
  go_enter Tryz.func115, Tryz.ntmps115
  go_wp2_with fail
  refine i1.out.mono ?_
  rintro e w1 ⟨rfl, rfl⟩
  go_wp2_with fail
  refine bodyPost_ret (v := .tuple #[.int .i64 0, .bool false, .int .i64 15]) (by simp [results, Tryz.results115, go_sem]) rfl ?_
  exact ⟨rfl, by first | trivial | rfl⟩
theorem send_range (g : Nat) (adE adW : Addr) (N cE cW k : Nat) (src v : Int) (w : World) (h : SetBlk w g (some adE) cE (some adW) N cW) (hk : k < N) (hs : w.cell? (adE.add (k * 3)) = some (.int .i64 src)) (hv : v < 0 ∨ 65535 < v) :
    Calls Tryz.prog 17 #[.pointer (some ⟨g, 0, none⟩), .int .i64 src, .int .i64 (k : Int), .int .i64 v] w fun e w' => e = .returned (.tuple #[.bool false, .int .i64 3]) ∧ w' = w := by
  have c0 : w.cell? ⟨g, 0, none⟩ = some (.slice (some adE) N cE) := Blk.cellAt h rfl
  have c1 : w.cell? ⟨g, 1, none⟩ = some (.slice (some adW) N cW) := Blk.cellAt h rfl
  have i1 := hid (there_any g (some adE) (some adW) N cE cW (k : Int) w h)
  rw [decide_eq_true (show (0 : Int) ≤ (k : Int) by omega), decide_eq_true (show (k : Int) < (N : Int) by omega)] at i1
  have k0 : (0 : Int) ≤ (k : Int) := Int.natCast_nonneg _
  have k1 : (k : Int) < (N : Int) := by omega
  clear h hk
  by_cases h0 : v < 0
  · have y0 : decide (v < 0) = true := decide_eq_true h0
    clear h0 hv
    go_enter Tryz.func17, Tryz.ntmps17
    go_wp2_with fail
    refine i1.out.mono ?_
    rintro e w1 ⟨rfl, rfl⟩
    go_wp2_with fail
    go_ret2
    exact ⟨rfl, by first | trivial | rfl⟩
  · have y0 : decide (v < 0) = false := decide_eq_false h0
    have y1 : decide ((65535 : Int) < v) = true := decide_eq_true (by omega)
    clear h0 hv
    go_enter Tryz.func17, Tryz.ntmps17
    go_wp2_with fail
    refine i1.out.mono ?_
    rintro e w1 ⟨rfl, rfl⟩
    go_wp2_with fail
    go_ret2
    exact ⟨rfl, by first | trivial | rfl⟩
end Go.Proofs.YtidlahljhgglcaaGreat
namespace Go.Proofs.YtidlahljhgglcaaGreat
open Go.RowKit Go.ChangeShapes Go.WideShapes Go.ChangeAt

theorem info_chanP : (Tryz.prog.info? 69).map (fun i => (i.zero, i.size, i.bytes)) = some (some (.agg #[.int .i64 0, .int .i64 0, .int .i64 0]), 3, 24) := by kernel_rfl
theorem oneCell_chanP (l : List ChanS) : ∀ u ∈ l.flatMap chanC, u.oneCell' = true := by
  intro u hu
  obtain ⟨x, _, hx⟩ := List.mem_flatMap.1 hu
  simp only [chanC, List.mem_cons, List.not_mem_nil, or_false] at hx
  rcases hx with rfl | rfl | rfl <;> rfl
theorem cloneC_any (A : Option Addr) (n c : Nat) (l : List ChanS) (w : World) (h : Reads w w.heap.size 3 A n (l.flatMap chanC)) (hn : n ≤ 1000000000) :
    Calls Tryz.prog 28 #[.slice A n c] w fun e w' => ∃ A' c', e = .returned (.slice A' n c') ∧ w'.ownsRow w.heap.size 69 3 (.slice A' n c') n (l.flatMap chanC) ∧ Below w.heap.size w w' := by
  have hnil := fun (W : World) (a : Option Addr) => Lib.run_eql_slice_nil (P := Tryz.prog) W 24 69 a n c 0 0 Tryz.underlying24
  obtain ⟨i0, hi0, hz0, hz1, hz2⟩ := info_parts info_chanP
  cases A with
  | none =>
    have hb : n = 0 := by
      by_cases h0 : 0 < n
      · obtain ⟨ad, he, _⟩ := h.form h0
        cases he
      · omega
    subst hb
    have hb : l.flatMap chanC = [] := List.eq_nil_of_length_eq_zero (by simpa using h.len)
    rw [hb]
    clear h hb
    go_enter Tryz.func28, Tryz.ntmps28
    go_wp2
    go_ret
    exact ⟨none, 0, rfl, World.ownsRow_nil _ _ _ _, Below.refl _ _⟩
  | some ad =>
    go_enter Tryz.func28, Tryz.ntmps28
    go_wp2_with (at_builtin; refine wpList_app _ rfl (.tmp 5) (.tmp 6) _ rfl w.heap.size 69 i0 _ 3 24 Tryz.underlying24 hi0 hz0 hz1 hz2 rfl (by decide) (.slice (some ⟨w.heap.size, 0, none⟩) 0 0) 0 [] rfl (World.ownsRow_made w _ 0 (Nat.le_refl _) (by simp [maxLen]) rfl) w.heap.size (some ad) n c (l.flatMap chanC) rfl (h.alloc (Nat.le_refl _) _) (oneCell_chanP l) (by simp [maxLen]; omega) (by omega) (by simp) ?_; intro A' c' w' hown hg hb)
    go_ret
    refine ⟨A', c', by simp, by simpa using hown, ?_⟩
    exact below_own ((Below.refl w.heap.size w).alloc (Nat.le_refl _) _) (World.ownsRow_made (size := 3) w _ 0 (Nat.le_refl _) (by simp [maxLen]) rfl) hg (Nat.le_refl _) (by simp)
end Go.Proofs.YtidlahljhgglcaaGreat
namespace Go.Proofs.YtidlahljhgglcaaGreat
open Go.RowKit Go.ChangeShapes Go.WideShapes Go.ChangeAt

theorem tabP_in (t : TabS) (a : TabA) (w : World) : ∃ w1 : World, w.alloc (.cells #[.int .i64 t.frame, .slice a.A1 t.parts.length a.c1, .slice a.A2 t.wins.length a.c2, .slice a.A3 t.chans.length a.c3, .int .i64 t.trial] 26) = w1 ∧ Below w.heap.size w w1 ∧ Blk w1 w.heap.size 26 [.int .i64 t.frame, .slice a.A1 t.parts.length a.c1, .slice a.A2 t.wins.length a.c2, .slice a.A3 t.chans.length a.c3, .int .i64 t.trial] ∧ w1.heap.size = w.heap.size + 1 :=
  ⟨_, rfl, (Below.refl _ _).alloc (Nat.le_refl _) _, Blk.new _ _ _, by simp⟩
theorem New_bad (t : TabS) (a : TabA) (w : World) (h : TabOk w t a) (hR : rightB t = false) :
    Calls Tryz.prog 6 #[.agg #[.int .i64 t.frame, .slice a.A1 t.parts.length a.c1, .slice a.A2 t.wins.length a.c2, .slice a.A3 t.chans.length a.c3, .int .i64 t.trial]] w fun e w' => e = .returned (.tuple #[.pointer none, .int .i64 9]) ∧ Below w.heap.size w w' := by
  obtain ⟨A1, k1, A2, k2, A3, k3⟩ := a
  simp only
  obtain ⟨w1, hw1, hb1, hblk1, hs1⟩ := tabP_in t ⟨A1, k1, A2, k2, A3, k3⟩ w
  simp only at hw1 hblk1
  have i1 := hid (right_any t ⟨A1, k1, A2, k2, A3, k3⟩ w1 (h.belowS hb1))
  rw [hR] at i1
  simp only at i1
  obtain ⟨c0, c1, c2, c3, c4⟩ : _ ∧ _ ∧ _ ∧ _ ∧ _ := ⟨hblk1.cellAt (i := 0) rfl, hblk1.cellAt (i := 1) rfl, hblk1.cellAt (i := 2) rfl, hblk1.cellAt (i := 3) rfl, hblk1.cellAt (i := 4) rfl⟩
  clear h hR hblk1
  go_enter Tryz.func6, Tryz.ntmps6
  go_wp2_with fail
  clear hw1 hs1
  refine i1.out.mono ?_
  rintro e w2 ⟨rfl, hb2⟩
  go_wp2_with fail
  go_ret2
  exact ⟨rfl, bel_trans hb1 hb2⟩

/-- A way that has nothing, as an interface's value, and in memory. -/
def wayV (d : Int) (g : Nat) : Value := if 0 < d then .iface 95 (.pointer (some ⟨g, 0, none⟩)) else .iface 90 (.pointer (some ⟨g, 0, none⟩))
def WayZero (w : World) (g : Nat) (d : Int) : Prop := if 0 < d then Blk w g 97 [.slice none 0 0, .int .i64 d] else LastIn w g 0 false
theorem WayZero.apart {F : Nat → Prop} {w w' : World} {g : Nat} {d : Int} (h : WayZero w g d) (hb : Apart F w w') (hg : ¬ F g) : WayZero w' g d := by
  unfold WayZero at h ⊢
  by_cases hd : 0 < d
  · rw [if_pos hd] at h ⊢; exact h.apart hb hg
  · rw [if_neg hd] at h ⊢; exact Blk.apart h hb hg
theorem WayZero.lt {w : World} {g : Nat} {d : Int} (h : WayZero w g d) : g < w.heap.size := by
  unfold WayZero at h
  by_cases hd : 0 < d
  · rw [if_pos hd] at h; exact h.lt
  · rw [if_neg hd] at h; exact Blk.lt h
end Go.Proofs.YtidlahljhgglcaaGreat
namespace Go.Proofs.YtidlahljhgglcaaGreat
open Go.RowKit Go.ChangeShapes Go.WideShapes Go.ChangeAt

end Go.Proofs.YtidlahljhgglcaaGreat
namespace Go.Proofs.YtidlahljhgglcaaGreat
open Go.RowKit

section
variable {α : Type} {w : World} {B n : Nat} {A : Option Addr} {cells : α → List Value} {l : List α}
theorem flat_get (h3 : ∀ x, (cells x).length = 3) : ∀ (l : List α) (k j : Nat) (x : α), l[k]? = some x → j < 3 → (l.flatMap cells)[k * 3 + j]? = (cells x)[j]?
  | [], k, j, x, h, _ => by simp at h
  | y :: l, 0, j, x, h, hj => by
    simp at h
    subst h
    rw [List.flatMap_cons, List.getElem?_append_left (by rw [h3]; omega)]
    congr 1
    omega
  | y :: l, k + 1, j, x, h, hj => by
    rw [List.flatMap_cons, List.getElem?_append_right (by rw [h3]; omega), h3, show (k + 1) * 3 + j - 3 = k * 3 + j by omega]
    exact flat_get h3 l k j x (by simpa using h) hj
theorem flat_len (h3 : ∀ x, (cells x).length = 3) : ∀ l : List α, (l.flatMap cells).length = l.length * 3
  | [] => rfl
  | y :: l => by rw [List.flatMap_cons, List.length_append, h3, flat_len h3 l, List.length_cons]; omega
theorem RdS.reads (h : RdS w B 3 A n cells l) (h3 : ∀ x, (cells x).length = 3) : Reads w B 3 A n (l.flatMap cells) := by
  refine ⟨by rw [flat_len h3, h.1], fun hn => ?_⟩
  have hl := h.1
  obtain ⟨ad, e, hb, _⟩ := h.2 0 l[0] (List.getElem?_eq_getElem (by omega))
  refine ⟨ad, e, hb, fun j u hu => ?_⟩
  have hj := (List.getElem?_eq_some_iff.1 hu).1
  rw [flat_len h3] at hj
  have hk : j / 3 < l.length := by omega
  have hx := List.getElem?_eq_getElem hk
  obtain ⟨ad', e', _, hc⟩ := h.2 (j / 3) _ hx
  rw [e] at e'
  injection e' with e'
  subst e'
  have h1 := flat_get h3 l (j / 3) (j % 3) _ hx (by omega)
  rw [show j / 3 * 3 + j % 3 = j by omega, hu] at h1
  have h2 := hc (j % 3) u h1.symm
  rwa [show j / 3 * 3 + j % 3 = j by omega] at h2
theorem Reads.rds (h : Reads w B 3 A n (l.flatMap cells)) (h3 : ∀ x, (cells x).length = 3) : RdS w B 3 A n cells l := by
  have hl : l.length = n := by have := h.1; rw [flat_len h3] at this; omega
  refine ⟨hl, fun k x hx => ?_⟩
  have hk := (List.getElem?_eq_some_iff.1 hx).1
  obtain ⟨ad, e, hb, hc⟩ := h.2 (by omega)
  refine ⟨ad, e, hb, fun j u hu => hc _ u ?_⟩
  rw [flat_get h3 l k j x hx (by have := (List.getElem?_eq_some_iff.1 hu).1; rw [h3] at this; omega), hu]
end
end Go.Proofs.YtidlahljhgglcaaGreat
namespace Go.Proofs.YtidlahljhgglcaaGreat
open Go.RowKit Go.ChangeShapes Go.WideShapes Go.ChangeAt

/-- A channel's state: a sampling one's last number, or a queue's numbers and its depth. -/
inductive WayS where
  | last (m : Int) (is : Bool)
  | row (l : List Int) (d : Nat)
/-- Where it lies: its block, and a queue's slice. -/
structure WayP where
  g : Nat
  A : Option Addr
  c : Nat
def WayIn (w : World) (p : WayP) : WayS → Prop
  | .last m is => LastIn w p.g m is ∧ p.A = none
  | .row l d => RowIn w p.g p.A p.c l d
def WayF (p : WayP) (b : Nat) : Prop := b = p.g ∨ Foot p.A b
def wayIV (p : WayP) : WayS → Value
  | .last _ _ => .iface 90 (.pointer (some ⟨p.g, 0, none⟩))
  | .row _ _ => .iface 95 (.pointer (some ⟨p.g, 0, none⟩))
def setS {α : Type} (f : Nat → α) (k : Nat) (x : α) : Nat → α := fun j => if j = k then x else f j
theorem setS_same {α : Type} (f : Nat → α) (k : Nat) (x : α) : setS f k x k = x := by simp [setS]
theorem setS_other {α : Type} (f : Nat → α) (k j : Nat) (x : α) (h : j ≠ k) : setS f k x j = f j := by simp [setS, h]
theorem setS_self {α : Type} (f : Nat → α) (k : Nat) : setS f k (f k) = f := by funext j; by_cases h : j = k <;> simp [setS, h]
theorem setS_setS {α : Type} (f : Nat → α) (k : Nat) (x y : α) : setS (setS f k x) k y = setS f k y := by funext j; by_cases h : j = k <;> simp [setS, h]
section
variable {w w' : World} {p : WayP} {s : WayS}
theorem WayIn.lt (h : WayIn w p s) {b : Nat} (hb : WayF p b) : b < w.heap.size := by
  cases s with
  | last m is =>
    rcases hb with rfl | hb
    · exact Blk.lt h.1
    · obtain ⟨a, ha, _⟩ := hb
      rw [h.2] at ha
      cases ha
  | row l d =>
    rcases hb with rfl | hb
    · exact RowIn.blk h |>.lt
    · exact (RowIn.row h).lt hb
theorem WayIn.keep (h : WayIn w p s) (hk : ∀ b, WayF p b → w'.heap[b]? = w.heap[b]?) : WayIn w' p s := by
  cases s with
  | last m is => exact ⟨(hk p.g (.inl rfl)).trans h.1, h.2⟩
  | row l d => exact ⟨(hk p.g (.inl rfl)).trans (RowIn.blk h), (RowIn.row h).keep fun b hb => hk b (.inr hb), RowIn.off h⟩
end
/-- What never changes of a set: its own block, the two rows. -/
def SetF0 (g : Nat) (adE adW : Option Addr) (b : Nat) : Prop := b = g ∨ Foot adE b ∨ Foot adW b
structure SetIn (w : World) (g : Nat) (cs : List ChanS) (adE : Option Addr) (cE : Nat) (adW : Option Addr) (cW : Nat) (ps : Nat → WayP) (ss : Nat → WayS) : Prop where
  blk : SetBlk w g adE cE adW cs.length cW
  ends : RdS w w.heap.size 3 adE cs.length chanC cs
  ways : ∀ k, k < cs.length → ∃ ad, adW = some ad ∧ ad.block < w.heap.size ∧ w.cell? (ad.add k) = some (wayIV (ps k) (ss k))
  way : ∀ k, k < cs.length → WayIn w (ps k) (ss k)
  ap : ∀ j k, j < cs.length → k < cs.length → j ≠ k → ∀ b, WayF (ps j) b → ¬ WayF (ps k) b
  off : ∀ k, k < cs.length → ∀ b, WayF (ps k) b → ¬ SetF0 g adE adW b
  fl : ∀ b, SetF0 g adE adW b → b < w.heap.size
def SetF (n g : Nat) (adE adW : Option Addr) (ps : Nat → WayP) (b : Nat) : Prop := SetF0 g adE adW b ∨ ∃ k, k < n ∧ WayF (ps k) b
def SetAt (w : World) (F : Nat → Prop) (g : Nat) (cs : List ChanS) (ss : Nat → WayS) : Prop := ∃ adE cE adW cW ps, SetIn w g cs adE cE adW cW ps ss ∧ ∀ b, F b ↔ SetF cs.length g adE adW ps b
/-- From the blocks F to the blocks F'. -/
structure Goes (F : Nat → Prop) (w : World) (F' : Nat → Prop) (w' : World) : Prop where
  apart : Apart F w w'
  foot : ∀ b, F' b → F b ∨ w.heap.size ≤ b
theorem Goes.refl (F : Nat → Prop) (w : World) : Goes F w F w := ⟨Apart.refl _ _, fun _ h => .inl h⟩
theorem Goes.trans {F F' F'' : Nat → Prop} {w w' w'' : World} (h : Goes F w F' w') (k : Goes F' w' F'' w'') : Goes F w F'' w'' :=
  ⟨h.apart.trans k.apart (fun b hb hf => (h.foot b hf).resolve_right (by omega)), fun b hb => (k.foot b hb).elim (h.foot b) (fun hs => .inr (Nat.le_trans h.apart.size hs))⟩
theorem Goes.of_below {F : Nat → Prop} {w w' : World} (h : Below w.heap.size w w') : Goes F w F w' := ⟨Apart.of_below h, fun _ h => .inl h⟩
theorem Goes.drewN {F : Nat → Prop} {w : World} (q : Nat) : Goes F w F (w.drewN q) := ⟨⟨rfl, rfl, rfl, Nat.le_refl _, fun _ _ _ => rfl⟩, fun _ h => .inl h⟩
theorem Goes.below {F F' : Nat → Prop} {w w' : World} {B : Nat} (h : Goes F w F' w') (hB : B ≤ w.heap.size) (hF : ∀ b, F b → B ≤ b) : Below B w w' ∧ ∀ b, F' b → B ≤ b :=
  ⟨h.apart.below hB hF, fun b hb => (h.foot b hb).elim (hF b) (fun hs => by omega)⟩
theorem Goes.bel {F F' : Nat → Prop} {a w w' : World} {B : Nat} (h0 : Below B a w) (hB : B ≤ a.heap.size) (hF : ∀ b, F b → B ≤ b) (h : Goes F w F' w') : Below B a w' ∧ ∀ b, F' b → B ≤ b :=
  have hx := h.below (Nat.le_trans hB h0.size) hF
  ⟨h0.trans hx.1, hx.2⟩
section
variable {w w' : World} {g : Nat} {cs : List ChanS} {adE : Option Addr} {cE : Nat} {adW : Option Addr} {cW : Nat} {ps : Nat → WayP} {ss : Nat → WayS} {F : Nat → Prop}
theorem SetIn.lt (h : SetIn w g cs adE cE adW cW ps ss) {b : Nat} (hb : SetF cs.length g adE adW ps b) : b < w.heap.size := by
  rcases hb with hb | ⟨k, hk, hb⟩
  · exact h.fl b hb
  · exact (h.way k hk).lt hb
theorem cell_keep {w w' : World} {p : Addr} (h : w'.heap[p.block]? = w.heap[p.block]?) : w'.cell? p = w.cell? p := World.cell?_of_block h
theorem SetIn.keep (h : SetIn w g cs adE cE adW cW ps ss) (hs : w.heap.size ≤ w'.heap.size) (hk : ∀ b, SetF cs.length g adE adW ps b → w'.heap[b]? = w.heap[b]?) : SetIn w' g cs adE cE adW cW ps ss := by
  have h0 : ∀ b, SetF0 g adE adW b → w'.heap[b]? = w.heap[b]? := fun b hb => hk b (.inl hb)
  refine ⟨(h0 g (.inl rfl)).trans h.blk, ⟨h.ends.1, fun k x hx => ?_⟩, fun k hkn => ?_, fun k hkn => (h.way k hkn).keep fun b hb => hk b (.inr ⟨k, hkn, hb⟩), h.ap, h.off, fun b hb => Nat.lt_of_lt_of_le (h.fl b hb) hs⟩
  · obtain ⟨ad, e, hb, hc⟩ := h.ends.2 k x hx
    refine ⟨ad, e, by omega, fun j u hu => (cell_keep ?_).trans (hc j u hu)⟩
    rw [block_add]
    exact h0 _ (.inr (.inl ⟨ad, e, rfl⟩))
  · obtain ⟨ad, e, hb, hc⟩ := h.ways k hkn
    refine ⟨ad, e, by omega, (cell_keep ?_).trans hc⟩
    rw [block_add]
    exact h0 _ (.inr (.inr ⟨ad, e, rfl⟩))
/-- An act on one way. -/
theorem SetIn.step (h : SetIn w g cs adE cE adW cW ps ss) {k : Nat} (hk : k < cs.length) {p' : WayP} {s' : WayS} (ha : Apart (WayF (ps k)) w w') (hi : WayIn w' p' s') (hv : wayIV p' s' = wayIV (ps k) (ss k)) (hf : ∀ b, WayF p' b → WayF (ps k) b ∨ w.heap.size ≤ b) :
    SetIn w' g cs adE cE adW cW (setS ps k p') (setS ss k s') := by
  have h0 : ∀ b, SetF0 g adE adW b → w'.heap[b]? = w.heap[b]? := fun b hb => ha.block b (h.fl b hb) (fun hw => h.off k hk b hw hb)
  refine ⟨(h0 g (.inl rfl)).trans h.blk, ⟨h.ends.1, fun j x hx => ?_⟩, fun j hj => ?_, fun j hj => ?_, fun i j hi' hj hij b hb => ?_, fun j hj b hb => ?_, fun b hb => Nat.lt_of_lt_of_le (h.fl b hb) ha.size⟩
  · obtain ⟨ad, e, hb, hc⟩ := h.ends.2 j x hx
    refine ⟨ad, e, Nat.lt_of_lt_of_le hb ha.size, fun i u hu => (cell_keep ?_).trans (hc i u hu)⟩
    rw [block_add]
    exact h0 _ (.inr (.inl ⟨ad, e, rfl⟩))
  · obtain ⟨ad, e, hb, hc⟩ := h.ways j hj
    refine ⟨ad, e, Nat.lt_of_lt_of_le hb ha.size, ?_⟩
    have e2 : wayIV (setS ps k p' j) (setS ss k s' j) = wayIV (ps j) (ss j) := by
      by_cases hjk : j = k
      · subst hjk; rw [setS_same, setS_same]; exact hv
      · rw [setS_other _ _ _ _ hjk, setS_other _ _ _ _ hjk]
    rw [e2]
    refine (cell_keep ?_).trans hc
    rw [block_add]
    exact h0 _ (.inr (.inr ⟨ad, e, rfl⟩))
  · by_cases hjk : j = k
    · subst hjk; rw [setS_same, setS_same]; exact hi
    · rw [setS_other _ _ _ _ hjk, setS_other _ _ _ _ hjk]
      exact (h.way j hj).keep fun b hb => ha.block b ((h.way j hj).lt hb) (h.ap j k hj hk hjk b hb)
  · by_cases hik : i = k
    · subst hik
      rw [setS_same] at hb
      rw [setS_other _ _ _ _ (fun e => hij e.symm)]
      intro hb2
      rcases hf b hb with h1 | h1
      · exact h.ap i j hi' hj hij b h1 hb2
      · have := (h.way j hj).lt hb2; omega
    · rw [setS_other _ _ _ _ hik] at hb
      by_cases hjk : j = k
      · subst hjk
        rw [setS_same]
        intro hb2
        rcases hf b hb2 with h1 | h1
        · exact h.ap i j hi' hj hij b hb h1
        · have := (h.way i hi').lt hb; omega
      · rw [setS_other _ _ _ _ hjk]
        exact h.ap i j hi' hj hij b hb
  · by_cases hjk : j = k
    · subst hjk
      rw [setS_same] at hb
      intro hb0
      rcases hf b hb with h1 | h1
      · exact h.off j hj b h1 hb0
      · have := h.fl b hb0; omega
    · rw [setS_other _ _ _ _ hjk] at hb
      exact h.off j hj b hb
theorem SetIn.goes (h : SetIn w g cs adE cE adW cW ps ss) {k : Nat} (hk : k < cs.length) {p' : WayP} (ha : Apart (WayF (ps k)) w w') (hf : ∀ b, WayF p' b → WayF (ps k) b ∨ w.heap.size ≤ b) :
    Goes (SetF cs.length g adE adW ps) w (SetF cs.length g adE adW (setS ps k p')) w' := by
  refine ⟨⟨ha.os, ha.tape, ha.output, ha.size, fun b hb hF => ha.block b hb (fun hw => hF (.inr ⟨k, hk, hw⟩))⟩, fun b hb => ?_⟩
  rcases hb with hb | ⟨j, hj, hb⟩
  · exact .inl (.inl hb)
  · by_cases hjk : j = k
    · subst hjk
      rw [setS_same] at hb
      exact (hf b hb).imp_left fun h1 => .inr ⟨j, hj, h1⟩
    · rw [setS_other _ _ _ _ hjk] at hb
      exact .inl (.inr ⟨j, hj, hb⟩)
theorem SetAt.lt (h : SetAt w F g cs ss) {b : Nat} (hb : F b) : b < w.heap.size := by
  obtain ⟨adE, cE, adW, cW, ps, h1, h2⟩ := h
  exact h1.lt ((h2 b).1 hb)
theorem SetAt.keep (h : SetAt w F g cs ss) (hs : w.heap.size ≤ w'.heap.size) (hk : ∀ b, F b → w'.heap[b]? = w.heap[b]?) : SetAt w' F g cs ss := by
  obtain ⟨adE, cE, adW, cW, ps, h1, h2⟩ := h
  exact ⟨adE, cE, adW, cW, ps, h1.keep hs fun b hb => hk b ((h2 b).2 hb), h2⟩
theorem SetAt.belowS (h : SetAt w F g cs ss) (hb : Below w.heap.size w w') : SetAt w' F g cs ss := h.keep hb.size fun b hf => hb.block b (h.lt hf)
theorem SetAt.apart {G : Nat → Prop} (h : SetAt w F g cs ss) (hb : Apart G w w') (hG : ∀ b, F b → ¬ G b) : SetAt w' F g cs ss := h.keep hb.size fun b hf => hb.block b (h.lt hf) (hG b hf)
theorem SetAt.alloc (h : SetAt w F g cs ss) (o : Obj) : SetAt (w.alloc o) F g cs ss := h.belowS ((Below.refl _ _).alloc (Nat.le_refl _) _)
end
/-- What an act on a set leaves. -/
def SPost (F : Nat → Prop) (w : World) (g : Nat) (cs : List ChanS) (e0 : Ending) (ss' : Nat → WayS) (e : Ending) (w' : World) : Prop := ∃ F', e = e0 ∧ SetAt w' F' g cs ss' ∧ Goes F w F' w'
theorem SPost.same {F : Nat → Prop} {w w' : World} {g : Nat} {cs : List ChanS} {e e0 : Ending} {ss : Nat → WayS} (h : SetAt w F g cs ss) (he : e = e0) (hb : Below w.heap.size w w') : SPost F w g cs e0 ss e w' := ⟨F, he, h.belowS hb, Goes.of_below hb⟩
theorem below_drewS {w : World} (n : Nat) : Below w.heap.size w (w.drewN n) := ⟨rfl, rfl, rfl, Nat.le_refl _, fun _ _ => rfl⟩

/-! ### Acts on the set. -/
def sendB : WayS → Bool
  | .last _ _ => true
  | .row l d => decide (l.length ≠ d)
def sendS (v : Int) : WayS → WayS
  | .last _ _ => .last v true
  | .row l d => if l.length = d then .row l d else .row (l ++ [v]) d
def getN : WayS → Int
  | .last m _ => m
  | .row [] _ => 0
  | .row (x :: _) _ => x
def getB : WayS → Bool
  | .last _ is => is
  | .row [] _ => false
  | .row (_ :: _) _ => true
def getS : WayS → WayS
  | .last m is => .last m is
  | .row [] d => .row [] d
  | .row (_ :: l) d => .row l d
def hasL : WayS → List Int
  | .last m is => lastL m is
  | .row l _ => l
def WaySmall : WayS → Prop
  | .last _ _ => True
  | .row l _ => l.length ≤ 100000
theorem endOf {w : World} {g : Nat} {cs : List ChanS} {adE : Option Addr} {cE : Nat} {adW : Option Addr} {cW : Nat} {ps : Nat → WayP} {ss : Nat → WayS} (h : SetIn w g cs adE cE adW cW ps ss) {k : Nat} {x : ChanS} (hx : cs[k]? = some x) :
    ∃ ad, adE = some ad ∧ w.cell? (ad.add (k * 3)) = some (.int .i64 x.src) ∧ w.cell? ⟨(ad.add (k * 3)).block, (ad.add (k * 3)).off + 1, none⟩ = some (.int .i64 x.dst) := by
  obtain ⟨ad, y, e, _, hy, h0, h1⟩ := h.ends.at_ (List.getElem?_eq_some_iff.1 hx).1
  rw [hx] at hy
  injection hy with hy
  subst hy
  exact ⟨ad, e, h0 _ rfl, h1 0 _ rfl⟩
theorem send_at {w : World} {F : Nat → Prop} {g : Nat} {cs : List ChanS} {ss : Nat → WayS} (h : SetAt w F g cs ss) {k : Nat} {x : ChanS} (hx : cs[k]? = some x) (hsm : WaySmall (ss k)) (v : Int) (hv0 : 0 ≤ v) (hv1 : v ≤ 65535) :
    Calls Tryz.prog 17 #[.pointer (some ⟨g, 0, none⟩), .int .i64 x.src, .int .i64 (k : Int), .int .i64 v] w (SPost F w g cs (.returned (.tuple #[.bool (sendB (ss k)), .int .i64 0])) (setS ss k (sendS v (ss k)))) := by
  have h0 := h
  obtain ⟨adE, cE, adW, cW, ps, h1, h2⟩ := h
  have hk := (List.getElem?_eq_some_iff.1 hx).1
  obtain ⟨aE, rfl, he0, he1⟩ := endOf h1 hx
  obtain ⟨aW, rfl, _, hw⟩ := h1.ways k hk
  have hi := h1.way k hk
  cases hs : ss k with
  | last m is =>
    rw [hs] at hi hw
    refine (sendLast_any g aE aW cs.length cE cW k x.src v (ps k).g m is w h1.blk hk he0 hw hi.1 hv0 hv1).mono ?_
    rintro e w' ⟨rfl, hl, hap⟩
    have ha : Apart (WayF (ps k)) w w' := ⟨hap.os, hap.tape, hap.output, hap.size, fun b hb hF => hap.block b hb (fun e => hF (.inl e))⟩
    have hst := h1.step (p' := ps k) (s' := .last v true) hk ha ⟨hl, hi.2⟩ (by rw [hs]; rfl) (fun b hb => .inl hb)
    have hgo := h1.goes (p' := ps k) hk ha (fun b hb => .inl hb)
    exact ⟨_, rfl, ⟨_, _, _, _, _, hst, fun b => Iff.rfl⟩, ⟨⟨hgo.apart.os, hgo.apart.tape, hgo.apart.output, hgo.apart.size, fun b hb hF => hgo.apart.block b hb (fun hf => hF ((h2 b).2 hf))⟩, fun b hb => (hgo.foot b hb).imp_left (h2 b).2⟩⟩
  | row l d =>
    rw [hs] at hi hw hsm
    by_cases hld : l.length = d
    · refine (sendRow_full g aE aW cs.length cE cW k x.src v (ps k).g (ps k).A (ps k).c l d w h1.blk hk he0 hw hi hld hv0 hv1).mono ?_
      rintro e w' ⟨rfl, q, rfl⟩
      have e1 : sendS v (.row l d) = .row l d := if_pos hld
      rw [e1, ← hs, setS_self]
      refine SPost.same h0 ?_ (below_drewS q)
      simp [hs, sendB, hld]
    · refine (sendRow_ok g aE aW cs.length cE cW k x.src v (ps k).g (ps k).A (ps k).c l d w h1.blk hk he0 hw hi hld hsm hv0 hv1).mono ?_
      rintro e w' ⟨rfl, A', c', hl, hap, hfo⟩
      have e1 : sendS v (.row l d) = .row (l ++ [v]) d := if_neg hld
      rw [e1]
      have ha : Apart (WayF (ps k)) w w' := hap
      have hf : ∀ b, WayF ⟨(ps k).g, A', c'⟩ b → WayF (ps k) b ∨ w.heap.size ≤ b := fun b hb => by
        rcases hb with hb | hb
        · exact .inl (.inl hb)
        · exact (hfo b hb).imp_left .inr
      have hst := h1.step (p' := ⟨(ps k).g, A', c'⟩) (s' := .row (l ++ [v]) d) hk ha hl (by rw [hs]; rfl) hf
      have hgo := h1.goes (p' := ⟨(ps k).g, A', c'⟩) hk ha hf
      refine ⟨_, by simp [sendB, hld], ⟨_, _, _, _, _, hst, fun b => Iff.rfl⟩, ⟨⟨hgo.apart.os, hgo.apart.tape, hgo.apart.output, hgo.apart.size, fun b hb hF => hgo.apart.block b hb (fun hf => hF ((h2 b).2 hf))⟩, fun b hb => (hgo.foot b hb).imp_left (h2 b).2⟩⟩
theorem get_at {w : World} {F : Nat → Prop} {g : Nat} {cs : List ChanS} {ss : Nat → WayS} (h : SetAt w F g cs ss) {k : Nat} {x : ChanS} (hx : cs[k]? = some x) :
    Calls Tryz.prog 115 #[.pointer (some ⟨g, 0, none⟩), .int .i64 x.dst, .int .i64 (k : Int)] w (SPost F w g cs (.returned (.tuple #[.int .i64 (getN (ss k)), .bool (getB (ss k)), .int .i64 0])) (setS ss k (getS (ss k)))) := by
  have h0 := h
  obtain ⟨adE, cE, adW, cW, ps, h1, h2⟩ := h
  have hk := (List.getElem?_eq_some_iff.1 hx).1
  obtain ⟨aE, rfl, he0, he1⟩ := endOf h1 hx
  obtain ⟨aW, rfl, _, hw⟩ := h1.ways k hk
  have hi := h1.way k hk
  cases hs : ss k with
  | last m is =>
    rw [hs] at hi hw
    refine (getLast_any g aE aW cs.length cE cW k x.dst (ps k).g m is w h1.blk hk he1 hw hi.1).mono ?_
    rintro e w' ⟨rfl, q, rfl⟩
    have e1 : getS (.last m is) = ss k := hs.symm
    rw [e1, setS_self]
    exact SPost.same h0 rfl (below_drewS q)
  | row l d =>
    rw [hs] at hi hw
    cases l with
    | nil =>
      refine (getRow_no g aE aW cs.length cE cW k x.dst (ps k).g (ps k).A (ps k).c d w h1.blk hk he1 hw hi).mono ?_
      rintro e w' ⟨rfl, rfl⟩
      have e1 : getS (.row [] d) = ss k := hs.symm
      rw [e1, setS_self]
      exact SPost.same h0 rfl (Below.refl _ _)
    | cons y l =>
      refine (getRow_yes g aE aW cs.length cE cW k x.dst (ps k).g (ps k).A (ps k).c y l d w h1.blk hk he1 hw hi).mono ?_
      rintro e w' ⟨rfl, hl, hap⟩
      have ha : Apart (WayF (ps k)) w w' := hap
      have hst := h1.step (p' := ps k) (s' := .row l d) hk ha hl (by rw [hs]; rfl) (fun b hb => .inl hb)
      have hgo := h1.goes (p' := ps k) hk ha (fun b hb => .inl hb)
      exact ⟨_, rfl, ⟨_, _, _, _, _, hst, fun b => Iff.rfl⟩, ⟨⟨hgo.apart.os, hgo.apart.tape, hgo.apart.output, hgo.apart.size, fun b hb hF => hgo.apart.block b hb (fun hf => hF ((h2 b).2 hf))⟩, fun b hb => (hgo.foot b hb).imp_left (h2 b).2⟩⟩
theorem send_badway {w : World} {F : Nat → Prop} {g : Nat} {cs : List ChanS} {ss : Nat → WayS} (h : SetAt w F g cs ss) (p k v : Int) (hk : ¬ (0 ≤ k ∧ k < cs.length) ∨ ∃ x, cs[k.toNat]? = some x ∧ 0 ≤ k ∧ x.src ≠ p) :
    Calls Tryz.prog 17 #[.pointer (some ⟨g, 0, none⟩), .int .i64 p, .int .i64 k, .int .i64 v] w fun e w' => e = .returned (.tuple #[.bool false, .int .i64 15]) ∧ w' = w := by
  obtain ⟨adE, cE, adW, cW, ps, h1, h2⟩ := h
  rcases hk with hk | ⟨x, hx, h0, hp⟩
  · exact send_out g adE adW cs.length cE cW p k v w h1.blk hk
  · obtain ⟨j, rfl⟩ : ∃ j : Nat, k = (j : Int) := ⟨k.toNat, by omega⟩
    rw [Int.toNat_natCast] at hx
    have hk := (List.getElem?_eq_some_iff.1 hx).1
    obtain ⟨aE, rfl, he0, he1⟩ := endOf h1 hx
    obtain ⟨aW, rfl, _, hw⟩ := h1.ways j hk
    exact send_src g aE aW cs.length cE cW j x.src p v w h1.blk hk he0 hp
theorem get_badway {w : World} {F : Nat → Prop} {g : Nat} {cs : List ChanS} {ss : Nat → WayS} (h : SetAt w F g cs ss) (p k : Int) (hk : ¬ (0 ≤ k ∧ k < cs.length) ∨ ∃ x, cs[k.toNat]? = some x ∧ 0 ≤ k ∧ x.dst ≠ p) :
    Calls Tryz.prog 115 #[.pointer (some ⟨g, 0, none⟩), .int .i64 p, .int .i64 k] w fun e w' => e = .returned (.tuple #[.int .i64 0, .bool false, .int .i64 15]) ∧ w' = w := by
  obtain ⟨adE, cE, adW, cW, ps, h1, h2⟩ := h
  rcases hk with hk | ⟨x, hx, h0, hp⟩
  · exact get_out g adE adW cs.length cE cW p k w h1.blk hk
  · obtain ⟨j, rfl⟩ : ∃ j : Nat, k = (j : Int) := ⟨k.toNat, by omega⟩
    rw [Int.toNat_natCast] at hx
    have hk := (List.getElem?_eq_some_iff.1 hx).1
    obtain ⟨aE, rfl, he0, he1⟩ := endOf h1 hx
    obtain ⟨aW, rfl, _, hw⟩ := h1.ways j hk
    exact get_dst g aE aW cs.length cE cW j x.dst p w h1.blk hk he1 hp
theorem send_badv {w : World} {F : Nat → Prop} {g : Nat} {cs : List ChanS} {ss : Nat → WayS} (h : SetAt w F g cs ss) {k : Nat} {x : ChanS} (hx : cs[k]? = some x) (v : Int) (hv : v < 0 ∨ 65535 < v) :
    Calls Tryz.prog 17 #[.pointer (some ⟨g, 0, none⟩), .int .i64 x.src, .int .i64 (k : Int), .int .i64 v] w fun e w' => e = .returned (.tuple #[.bool false, .int .i64 3]) ∧ w' = w := by
  obtain ⟨adE, cE, adW, cW, ps, h1, h2⟩ := h
  have hk := (List.getElem?_eq_some_iff.1 hx).1
  obtain ⟨aE, rfl, he0, he1⟩ := endOf h1 hx
  obtain ⟨aW, rfl, _, hw⟩ := h1.ways k hk
  exact send_range g aE aW cs.length cE cW k x.src v w h1.blk hk he0 hv
end Go.Proofs.YtidlahljhgglcaaGreat
namespace Go.Proofs.YtidlahljhgglcaaGreat
open Go.RowKit Go.ChangeShapes Go.WideShapes Go.ChangeAt

/-- A channel of such a depth that has nothing. -/
def zeroS (d : Int) : WayS := if 0 < d then .row [] d.toNat else .last 0 false
def depthAt (cs : List ChanS) (j : Nat) : Int := (cs.getD j ⟨0, 0, 0⟩).depth
def zeroW (cs : List ChanS) (j : Nat) : WayS := zeroS (depthAt cs j)
theorem depthAt_get {cs : List ChanS} {j : Nat} {x : ChanS} (h : cs[j]? = some x) : depthAt cs j = x.depth := by unfold depthAt; rw [List.getD_eq_getElem?_getD, h]; rfl
def P0 (gs : Nat → Nat) (j : Nat) : WayP := ⟨gs j, none, 0⟩
structure NewIn (w : World) (g B : Nat) (cs : List ChanS) (k : Nat) (adE : Option Addr) (cE : Nat) (adW : Option Addr) (cW : Nat) (gs : Nat → Nat) : Prop where
  blk : Blk w g 89 [.slice adE cs.length cE, .slice adW k cW]
  ends : RdS w w.heap.size 3 adE cs.length chanC cs
  row : Row w 94 adW k cW ((List.range k).map fun j => wayIV (P0 gs j) (zeroW cs j))
  ways : ∀ j, j < k → WayIn w (P0 gs j) (zeroW cs j)
  ap : ∀ i j, i < k → j < k → i ≠ j → gs i ≠ gs j
  off : ∀ j, j < k → ¬ SetF0 g adE adW (gs j)
  lo : (∀ j, j < k → B ≤ gs j) ∧ ∀ b, SetF0 g adE adW b → B ≤ b
  fl : ∀ b, SetF0 g adE adW b → b < w.heap.size
  ne1 : ¬ Foot adE g
  ne2 : ¬ Foot adW g
  ne3 : ∀ b, Foot adE b → ¬ Foot adW b
theorem P0_foot (gs : Nat → Nat) (j b : Nat) : WayF (P0 gs j) b ↔ b = gs j := by
  constructor
  · rintro (h | ⟨a, h, _⟩)
    · exact h
    · cases h
  · exact .inl
section
variable {w w' : World} {g B : Nat} {cs : List ChanS} {k : Nat} {adE : Option Addr} {cE : Nat} {adW : Option Addr} {cW : Nat} {gs : Nat → Nat}
theorem NewIn.step (h : NewIn w g B cs k adE cE adW cW gs) (hB : B ≤ w.heap.size) {A' : Option Addr} {c' gk : Nat} (ha : Apart (fun b => b = g ∨ Foot adW b) w w')
    (hblk : Blk w' g 89 [.slice adE cs.length cE, .slice A' (k + 1) c'])
    (hrow : Row w' 94 A' (k + 1) c' (((List.range k).map fun j => wayIV (P0 gs j) (zeroW cs j)) ++ [wayIV ⟨gk, none, 0⟩ (zeroW cs k)]))
    (hA : ∀ b, Foot A' b → Foot adW b ∨ (w.heap.size ≤ b ∧ b ≠ gk)) (hw : WayIn w' ⟨gk, none, 0⟩ (zeroW cs k)) (hk : w.heap.size ≤ gk) (hg : g < w.heap.size) :
    NewIn w' g B cs (k + 1) adE cE A' c' (setS gs k gk) := by
  have hE : ∀ b, Foot adE b → b < w.heap.size := fun b hb => h.fl b (.inr (.inl hb))
  have hEo : ∀ b, Foot adE b → ¬ (b = g ∨ Foot adW b) := fun b hb hor => by
    rcases hor with rfl | h1
    · exact h.ne1 hb
    · exact h.ne3 b hb h1
  have hEA : ∀ b, Foot adE b → ¬ Foot A' b := fun b hb hb2 => by
    rcases hA b hb2 with h1 | ⟨h1, _⟩
    · exact h.ne3 b hb h1
    · have := hE b hb; omega
  have hlt : ∀ j, j < k → gs j < w.heap.size := fun j hj => (h.ways j hj).lt (.inl rfl)
  have hold : ∀ j, j < k → setS gs k gk j = gs j := fun j hj => setS_other _ _ _ _ (by omega)
  refine ⟨hblk, ⟨h.ends.1, fun j x hx => ?_⟩, ?_, fun j hj => ?_, fun i j hi hj hij => ?_, fun j hj => ?_, ⟨fun j hj => ?_, fun b hb => ?_⟩, fun b hb => ?_, h.ne1, fun hf => ?_, hEA⟩
  · obtain ⟨ad, e, hb, hc⟩ := h.ends.2 j x hx
    refine ⟨ad, e, Nat.lt_of_lt_of_le hb ha.size, fun i u hu => (cell_keep ?_).trans (hc i u hu)⟩
    rw [block_add]
    exact ha.block _ hb (hEo _ ⟨ad, e, rfl⟩)
  · have e : ((List.range (k + 1)).map fun j => wayIV (P0 (setS gs k gk) j) (zeroW cs j)) = ((List.range k).map fun j => wayIV (P0 gs j) (zeroW cs j)) ++ [wayIV ⟨gk, none, 0⟩ (zeroW cs k)] := by
      rw [List.range_succ, List.map_append]
      congr 1
      · apply List.map_congr_left
        intro j hj
        unfold P0
        rw [hold j (List.mem_range.1 hj)]
      · simp [P0, setS_same]
    rw [e]
    exact hrow
  · by_cases hjk : j = k
    · subst hjk
      unfold P0
      rw [setS_same]
      exact hw
    · have hj2 : j < k := by omega
      unfold P0
      rw [hold j hj2]
      refine (h.ways j hj2).keep fun b hb => ha.block b ((h.ways j hj2).lt hb) fun hor => ?_
      rw [(P0_foot gs j b).1 hb] at hor
      exact h.off j hj2 (hor.elim .inl fun h1 => .inr (.inr h1))
  · by_cases hik : i = k
    · subst hik
      rw [setS_same, hold j (by omega)]
      have := hlt j (by omega)
      omega
    · rw [hold i (by omega)]
      by_cases hjk : j = k
      · subst hjk
        rw [setS_same]
        have := hlt i (by omega)
        omega
      · rw [hold j (by omega)]
        exact h.ap i j (by omega) (by omega) hij
  · by_cases hjk : j = k
    · subst hjk
      rw [setS_same]
      rintro (h1 | h1 | h1)
      · omega
      · have := hE _ h1; omega
      · rcases hA _ h1 with h2 | ⟨_, h2⟩
        · have := h.fl _ (.inr (.inr h2)); omega
        · exact h2 rfl
    · rw [hold j (by omega)]
      have hj2 : j < k := by omega
      rintro (h1 | h1 | h1)
      · exact h.off j hj2 (.inl h1)
      · exact h.off j hj2 (.inr (.inl h1))
      · rcases hA _ h1 with h2 | ⟨h2, _⟩
        · exact h.off j hj2 (.inr (.inr h2))
        · have := hlt j hj2; omega
  · by_cases hjk : j = k
    · subst hjk; rw [setS_same]; omega
    · rw [hold j (by omega)]; exact h.lo.1 j (by omega)
  · rcases hb with hb | hb | hb
    · exact h.lo.2 b (.inl hb)
    · exact h.lo.2 b (.inr (.inl hb))
    · rcases hA b hb with h2 | ⟨h2, _⟩
      · exact h.lo.2 b (.inr (.inr h2))
      · omega
  · rcases hb with hb | hb | hb
    · subst hb; exact hblk.lt
    · exact Nat.lt_of_lt_of_le (hE b hb) ha.size
    · exact hrow.lt hb
  · rcases hA g hf with h1 | ⟨h1, _⟩
    · exact h.ne2 h1
    · omega
theorem NewIn.done (h : NewIn w g B cs cs.length adE cE adW cW gs) : ∃ F, SetAt w F g cs (zeroW cs) ∧ ∀ b, F b → B ≤ b := by
  refine ⟨SetF cs.length g adE adW (P0 gs), ⟨adE, cE, adW, cW, P0 gs, ⟨h.blk, h.ends, fun k hk => ?_, h.ways, fun i j hi hj hij b h1 h2 => ?_, fun k hk b hb hb0 => ?_, h.fl⟩, fun b => Iff.rfl⟩, fun b hb => ?_⟩
  · obtain ⟨ad, e, hb, hc⟩ := h.row.reads.2 (by omega)
    refine ⟨ad, e, hb, hc k _ ?_⟩
    rw [List.getElem?_map, List.getElem?_range hk]
    rfl
  · rw [P0_foot] at h1 h2
    exact h.ap i j hi hj hij (h1.symm.trans h2)
  · rw [P0_foot] at hb
    subst hb
    exact h.off k hk hb0
  · rcases hb with hb | ⟨k, hk, hb⟩
    · exact h.lo.2 b hb
    · rw [P0_foot] at hb
      subst hb
      exact h.lo.1 k hk
end
end Go.Proofs.YtidlahljhgglcaaGreat
