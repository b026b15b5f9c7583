/-
  Channels between partitions: a whole set in memory, its ways apart from one another; what an act on one of them leaves.
-/
import Derived.Test.YtidlahljhgglcaaPortNew
import Derived.Test.YtidlahljhgglcaaPortHas
import Derived.Test.YtidlahljhgglcaaRds
namespace Go.Proofs.Ytidlahljhgglcaa
open Go.RowKit Go.ChangeShapes Go.WideShapes Go.ChangeAt

/-- A channel's state: a sampling one's last number, or a queue's numbers and its depth. -/
inductive WayS where
  | last (m : Int) (is : Bool)
  | row (l : List Int) (d : Nat)
/-- Where it lies: its block, and a queue's slice. -/
structure WayP where
  g : Nat
  A : Option Addr
  c : Nat
def WayIn (w : World) (p : WayP) : WayS → Prop
  | .last m is => LastIn w p.g m is ∧ p.A = none
  | .row l d => RowIn w p.g p.A p.c l d
def WayF (p : WayP) (b : Nat) : Prop := b = p.g ∨ Foot p.A b
def wayIV (p : WayP) : WayS → Value
  | .last _ _ => .iface 98 (.pointer (some ⟨p.g, 0, none⟩))
  | .row _ _ => .iface 103 (.pointer (some ⟨p.g, 0, none⟩))
def setS {α : Type} (f : Nat → α) (k : Nat) (x : α) : Nat → α := fun j => if j = k then x else f j
theorem setS_same {α : Type} (f : Nat → α) (k : Nat) (x : α) : setS f k x k = x := by simp [setS]
theorem setS_other {α : Type} (f : Nat → α) (k j : Nat) (x : α) (h : j ≠ k) : setS f k x j = f j := by simp [setS, h]
theorem setS_self {α : Type} (f : Nat → α) (k : Nat) : setS f k (f k) = f := by funext j; by_cases h : j = k <;> simp [setS, h]
theorem setS_setS {α : Type} (f : Nat → α) (k : Nat) (x y : α) : setS (setS f k x) k y = setS f k y := by funext j; by_cases h : j = k <;> simp [setS, h]
section
variable {w w' : World} {p : WayP} {s : WayS}
theorem WayIn.lt (h : WayIn w p s) {b : Nat} (hb : WayF p b) : b < w.heap.size := by
  cases s with
  | last m is =>
    rcases hb with rfl | hb
    · exact Blk.lt h.1
    · obtain ⟨a, ha, _⟩ := hb
      rw [h.2] at ha
      cases ha
  | row l d =>
    rcases hb with rfl | hb
    · exact RowIn.blk h |>.lt
    · exact (RowIn.row h).lt hb
theorem WayIn.keep (h : WayIn w p s) (hk : ∀ b, WayF p b → w'.heap[b]? = w.heap[b]?) : WayIn w' p s := by
  cases s with
  | last m is => exact ⟨(hk p.g (.inl rfl)).trans h.1, h.2⟩
  | row l d => exact ⟨(hk p.g (.inl rfl)).trans (RowIn.blk h), (RowIn.row h).keep fun b hb => hk b (.inr hb), RowIn.off h⟩
end
/-- What never changes of a set: its own block, the two rows. -/
def SetF0 (g : Nat) (adE adW : Option Addr) (b : Nat) : Prop := b = g ∨ Foot adE b ∨ Foot adW b
structure SetIn (w : World) (g : Nat) (cs : List ChanS) (adE : Option Addr) (cE : Nat) (adW : Option Addr) (cW : Nat) (ps : Nat → WayP) (ss : Nat → WayS) : Prop where
  blk : SetBlk w g adE cE adW cs.length cW
  ends : RdS w w.heap.size 3 adE cs.length chanC cs
  ways : ∀ k, k < cs.length → ∃ ad, adW = some ad ∧ ad.block < w.heap.size ∧ w.cell? (ad.add k) = some (wayIV (ps k) (ss k))
  way : ∀ k, k < cs.length → WayIn w (ps k) (ss k)
  ap : ∀ j k, j < cs.length → k < cs.length → j ≠ k → ∀ b, WayF (ps j) b → ¬ WayF (ps k) b
  off : ∀ k, k < cs.length → ∀ b, WayF (ps k) b → ¬ SetF0 g adE adW b
  fl : ∀ b, SetF0 g adE adW b → b < w.heap.size
def SetF (n g : Nat) (adE adW : Option Addr) (ps : Nat → WayP) (b : Nat) : Prop := SetF0 g adE adW b ∨ ∃ k, k < n ∧ WayF (ps k) b
def SetAt (w : World) (F : Nat → Prop) (g : Nat) (cs : List ChanS) (ss : Nat → WayS) : Prop := ∃ adE cE adW cW ps, SetIn w g cs adE cE adW cW ps ss ∧ ∀ b, F b ↔ SetF cs.length g adE adW ps b
/-- From the blocks F to the blocks F'. -/
structure Goes (F : Nat → Prop) (w : World) (F' : Nat → Prop) (w' : World) : Prop where
  apart : Apart F w w'
  foot : ∀ b, F' b → F b ∨ w.heap.size ≤ b
theorem Goes.refl (F : Nat → Prop) (w : World) : Goes F w F w := ⟨Apart.refl _ _, fun _ h => .inl h⟩
theorem Goes.trans {F F' F'' : Nat → Prop} {w w' w'' : World} (h : Goes F w F' w') (k : Goes F' w' F'' w'') : Goes F w F'' w'' :=
  ⟨h.apart.trans k.apart (fun b hb hf => (h.foot b hf).resolve_right (by omega)), fun b hb => (k.foot b hb).elim (h.foot b) (fun hs => .inr (Nat.le_trans h.apart.size hs))⟩
theorem Goes.of_below {F : Nat → Prop} {w w' : World} (h : Below w.heap.size w w') : Goes F w F w' := ⟨Apart.of_below h, fun _ h => .inl h⟩
theorem Goes.drewN {F : Nat → Prop} {w : World} (q : Nat) : Goes F w F (w.drewN q) := ⟨⟨rfl, rfl, rfl, Nat.le_refl _, fun _ _ _ => rfl⟩, fun _ h => .inl h⟩
theorem Goes.below {F F' : Nat → Prop} {w w' : World} {B : Nat} (h : Goes F w F' w') (hB : B ≤ w.heap.size) (hF : ∀ b, F b → B ≤ b) : Below B w w' ∧ ∀ b, F' b → B ≤ b :=
  ⟨h.apart.below hB hF, fun b hb => (h.foot b hb).elim (hF b) (fun hs => by omega)⟩
theorem Goes.bel {F F' : Nat → Prop} {a w w' : World} {B : Nat} (h0 : Below B a w) (hB : B ≤ a.heap.size) (hF : ∀ b, F b → B ≤ b) (h : Goes F w F' w') : Below B a w' ∧ ∀ b, F' b → B ≤ b :=
  have hx := h.below (Nat.le_trans hB h0.size) hF
  ⟨h0.trans hx.1, hx.2⟩
section
variable {w w' : World} {g : Nat} {cs : List ChanS} {adE : Option Addr} {cE : Nat} {adW : Option Addr} {cW : Nat} {ps : Nat → WayP} {ss : Nat → WayS} {F : Nat → Prop}
theorem SetIn.lt (h : SetIn w g cs adE cE adW cW ps ss) {b : Nat} (hb : SetF cs.length g adE adW ps b) : b < w.heap.size := by
  rcases hb with hb | ⟨k, hk, hb⟩
  · exact h.fl b hb
  · exact (h.way k hk).lt hb
theorem cell_keep {w w' : World} {p : Addr} (h : w'.heap[p.block]? = w.heap[p.block]?) : w'.cell? p = w.cell? p := World.cell?_of_block h
theorem SetIn.keep (h : SetIn w g cs adE cE adW cW ps ss) (hs : w.heap.size ≤ w'.heap.size) (hk : ∀ b, SetF cs.length g adE adW ps b → w'.heap[b]? = w.heap[b]?) : SetIn w' g cs adE cE adW cW ps ss := by
  have h0 : ∀ b, SetF0 g adE adW b → w'.heap[b]? = w.heap[b]? := fun b hb => hk b (.inl hb)
  refine ⟨(h0 g (.inl rfl)).trans h.blk, ⟨h.ends.1, fun k x hx => ?_⟩, fun k hkn => ?_, fun k hkn => (h.way k hkn).keep fun b hb => hk b (.inr ⟨k, hkn, hb⟩), h.ap, h.off, fun b hb => Nat.lt_of_lt_of_le (h.fl b hb) hs⟩
  · obtain ⟨ad, e, hb, hc⟩ := h.ends.2 k x hx
    refine ⟨ad, e, by omega, fun j u hu => (cell_keep ?_).trans (hc j u hu)⟩
    rw [block_add]
    exact h0 _ (.inr (.inl ⟨ad, e, rfl⟩))
  · obtain ⟨ad, e, hb, hc⟩ := h.ways k hkn
    refine ⟨ad, e, by omega, (cell_keep ?_).trans hc⟩
    rw [block_add]
    exact h0 _ (.inr (.inr ⟨ad, e, rfl⟩))
/-- An act on one way. -/
theorem SetIn.step (h : SetIn w g cs adE cE adW cW ps ss) {k : Nat} (hk : k < cs.length) {p' : WayP} {s' : WayS} (ha : Apart (WayF (ps k)) w w') (hi : WayIn w' p' s') (hv : wayIV p' s' = wayIV (ps k) (ss k)) (hf : ∀ b, WayF p' b → WayF (ps k) b ∨ w.heap.size ≤ b) :
    SetIn w' g cs adE cE adW cW (setS ps k p') (setS ss k s') := by
  have h0 : ∀ b, SetF0 g adE adW b → w'.heap[b]? = w.heap[b]? := fun b hb => ha.block b (h.fl b hb) (fun hw => h.off k hk b hw hb)
  refine ⟨(h0 g (.inl rfl)).trans h.blk, ⟨h.ends.1, fun j x hx => ?_⟩, fun j hj => ?_, fun j hj => ?_, fun i j hi' hj hij b hb => ?_, fun j hj b hb => ?_, fun b hb => Nat.lt_of_lt_of_le (h.fl b hb) ha.size⟩
  · obtain ⟨ad, e, hb, hc⟩ := h.ends.2 j x hx
    refine ⟨ad, e, Nat.lt_of_lt_of_le hb ha.size, fun i u hu => (cell_keep ?_).trans (hc i u hu)⟩
    rw [block_add]
    exact h0 _ (.inr (.inl ⟨ad, e, rfl⟩))
  · obtain ⟨ad, e, hb, hc⟩ := h.ways j hj
    refine ⟨ad, e, Nat.lt_of_lt_of_le hb ha.size, ?_⟩
    have e2 : wayIV (setS ps k p' j) (setS ss k s' j) = wayIV (ps j) (ss j) := by
      by_cases hjk : j = k
      · subst hjk; rw [setS_same, setS_same]; exact hv
      · rw [setS_other _ _ _ _ hjk, setS_other _ _ _ _ hjk]
    rw [e2]
    refine (cell_keep ?_).trans hc
    rw [block_add]
    exact h0 _ (.inr (.inr ⟨ad, e, rfl⟩))
  · by_cases hjk : j = k
    · subst hjk; rw [setS_same, setS_same]; exact hi
    · rw [setS_other _ _ _ _ hjk, setS_other _ _ _ _ hjk]
      exact (h.way j hj).keep fun b hb => ha.block b ((h.way j hj).lt hb) (h.ap j k hj hk hjk b hb)
  · by_cases hik : i = k
    · subst hik
      rw [setS_same] at hb
      rw [setS_other _ _ _ _ (fun e => hij e.symm)]
      intro hb2
      rcases hf b hb with h1 | h1
      · exact h.ap i j hi' hj hij b h1 hb2
      · have := (h.way j hj).lt hb2; omega
    · rw [setS_other _ _ _ _ hik] at hb
      by_cases hjk : j = k
      · subst hjk
        rw [setS_same]
        intro hb2
        rcases hf b hb2 with h1 | h1
        · exact h.ap i j hi' hj hij b hb h1
        · have := (h.way i hi').lt hb; omega
      · rw [setS_other _ _ _ _ hjk]
        exact h.ap i j hi' hj hij b hb
  · by_cases hjk : j = k
    · subst hjk
      rw [setS_same] at hb
      intro hb0
      rcases hf b hb with h1 | h1
      · exact h.off j hj b h1 hb0
      · have := h.fl b hb0; omega
    · rw [setS_other _ _ _ _ hjk] at hb
      exact h.off j hj b hb
theorem SetIn.goes (h : SetIn w g cs adE cE adW cW ps ss) {k : Nat} (hk : k < cs.length) {p' : WayP} (ha : Apart (WayF (ps k)) w w') (hf : ∀ b, WayF p' b → WayF (ps k) b ∨ w.heap.size ≤ b) :
    Goes (SetF cs.length g adE adW ps) w (SetF cs.length g adE adW (setS ps k p')) w' := by
  refine ⟨⟨ha.os, ha.tape, ha.output, ha.size, fun b hb hF => ha.block b hb (fun hw => hF (.inr ⟨k, hk, hw⟩))⟩, fun b hb => ?_⟩
  rcases hb with hb | ⟨j, hj, hb⟩
  · exact .inl (.inl hb)
  · by_cases hjk : j = k
    · subst hjk
      rw [setS_same] at hb
      exact (hf b hb).imp_left fun h1 => .inr ⟨j, hj, h1⟩
    · rw [setS_other _ _ _ _ hjk] at hb
      exact .inl (.inr ⟨j, hj, hb⟩)
theorem SetAt.lt (h : SetAt w F g cs ss) {b : Nat} (hb : F b) : b < w.heap.size := by
  obtain ⟨adE, cE, adW, cW, ps, h1, h2⟩ := h
  exact h1.lt ((h2 b).1 hb)
theorem SetAt.keep (h : SetAt w F g cs ss) (hs : w.heap.size ≤ w'.heap.size) (hk : ∀ b, F b → w'.heap[b]? = w.heap[b]?) : SetAt w' F g cs ss := by
  obtain ⟨adE, cE, adW, cW, ps, h1, h2⟩ := h
  exact ⟨adE, cE, adW, cW, ps, h1.keep hs fun b hb => hk b ((h2 b).2 hb), h2⟩
theorem SetAt.belowS (h : SetAt w F g cs ss) (hb : Below w.heap.size w w') : SetAt w' F g cs ss := h.keep hb.size fun b hf => hb.block b (h.lt hf)
theorem SetAt.apart {G : Nat → Prop} (h : SetAt w F g cs ss) (hb : Apart G w w') (hG : ∀ b, F b → ¬ G b) : SetAt w' F g cs ss := h.keep hb.size fun b hf => hb.block b (h.lt hf) (hG b hf)
theorem SetAt.alloc (h : SetAt w F g cs ss) (o : Obj) : SetAt (w.alloc o) F g cs ss := h.belowS ((Below.refl _ _).alloc (Nat.le_refl _) _)
end
/-- What an act on a set leaves. -/
def SPost (F : Nat → Prop) (w : World) (g : Nat) (cs : List ChanS) (e0 : Ending) (ss' : Nat → WayS) (e : Ending) (w' : World) : Prop := ∃ F', e = e0 ∧ SetAt w' F' g cs ss' ∧ Goes F w F' w'
theorem SPost.same {F : Nat → Prop} {w w' : World} {g : Nat} {cs : List ChanS} {e e0 : Ending} {ss : Nat → WayS} (h : SetAt w F g cs ss) (he : e = e0) (hb : Below w.heap.size w w') : SPost F w g cs e0 ss e w' := ⟨F, he, h.belowS hb, Goes.of_below hb⟩
theorem below_drewS {w : World} (n : Nat) : Below w.heap.size w (w.drewN n) := ⟨rfl, rfl, rfl, Nat.le_refl _, fun _ _ => rfl⟩

/-! ### Acts on the set. -/
def sendB : WayS → Bool
  | .last _ _ => true
  | .row l d => decide (l.length ≠ d)
def sendS (v : Int) : WayS → WayS
  | .last _ _ => .last v true
  | .row l d => if l.length = d then .row l d else .row (l ++ [v]) d
def getN : WayS → Int
  | .last m _ => m
  | .row [] _ => 0
  | .row (x :: _) _ => x
def getB : WayS → Bool
  | .last _ is => is
  | .row [] _ => false
  | .row (_ :: _) _ => true
def getS : WayS → WayS
  | .last m is => .last m is
  | .row [] d => .row [] d
  | .row (_ :: l) d => .row l d
def hasL : WayS → List Int
  | .last m is => lastL m is
  | .row l _ => l
def WaySmall : WayS → Prop
  | .last _ _ => True
  | .row l _ => l.length ≤ 100000
theorem endOf {w : World} {g : Nat} {cs : List ChanS} {adE : Option Addr} {cE : Nat} {adW : Option Addr} {cW : Nat} {ps : Nat → WayP} {ss : Nat → WayS} (h : SetIn w g cs adE cE adW cW ps ss) {k : Nat} {x : ChanS} (hx : cs[k]? = some x) :
    ∃ ad, adE = some ad ∧ w.cell? (ad.add (k * 3)) = some (.int .i64 x.src) ∧ w.cell? ⟨(ad.add (k * 3)).block, (ad.add (k * 3)).off + 1, none⟩ = some (.int .i64 x.dst) := by
  obtain ⟨ad, y, e, _, hy, h0, h1⟩ := h.ends.at_ (List.getElem?_eq_some_iff.1 hx).1
  rw [hx] at hy
  injection hy with hy
  subst hy
  exact ⟨ad, e, h0 _ rfl, h1 0 _ rfl⟩
theorem send_at {w : World} {F : Nat → Prop} {g : Nat} {cs : List ChanS} {ss : Nat → WayS} (h : SetAt w F g cs ss) {k : Nat} {x : ChanS} (hx : cs[k]? = some x) (hsm : WaySmall (ss k)) (v : Int) (hv0 : 0 ≤ v) (hv1 : v ≤ 65535) :
    Calls Try.prog 27 #[.pointer (some ⟨g, 0, none⟩), .int .i64 x.src, .int .i64 (k : Int), .int .i64 v] w (SPost F w g cs (.returned (.tuple #[.bool (sendB (ss k)), .int .i64 0])) (setS ss k (sendS v (ss k)))) := by
  have h0 := h
  obtain ⟨adE, cE, adW, cW, ps, h1, h2⟩ := h
  have hk := (List.getElem?_eq_some_iff.1 hx).1
  obtain ⟨aE, rfl, he0, he1⟩ := endOf h1 hx
  obtain ⟨aW, rfl, _, hw⟩ := h1.ways k hk
  have hi := h1.way k hk
  cases hs : ss k with
  | last m is =>
    rw [hs] at hi hw
    refine (sendLast_any g aE aW cs.length cE cW k x.src v (ps k).g m is w h1.blk hk he0 hw hi.1 hv0 hv1).mono ?_
    rintro e w' ⟨rfl, hl, hap⟩
    have ha : Apart (WayF (ps k)) w w' := ⟨hap.os, hap.tape, hap.output, hap.size, fun b hb hF => hap.block b hb (fun e => hF (.inl e))⟩
    have hst := h1.step (p' := ps k) (s' := .last v true) hk ha ⟨hl, hi.2⟩ (by rw [hs]; rfl) (fun b hb => .inl hb)
    have hgo := h1.goes (p' := ps k) hk ha (fun b hb => .inl hb)
    exact ⟨_, rfl, ⟨_, _, _, _, _, hst, fun b => Iff.rfl⟩, ⟨⟨hgo.apart.os, hgo.apart.tape, hgo.apart.output, hgo.apart.size, fun b hb hF => hgo.apart.block b hb (fun hf => hF ((h2 b).2 hf))⟩, fun b hb => (hgo.foot b hb).imp_left (h2 b).2⟩⟩
  | row l d =>
    rw [hs] at hi hw hsm
    by_cases hld : l.length = d
    · refine (sendRow_full g aE aW cs.length cE cW k x.src v (ps k).g (ps k).A (ps k).c l d w h1.blk hk he0 hw hi hld hv0 hv1).mono ?_
      rintro e w' ⟨rfl, q, rfl⟩
      have e1 : sendS v (.row l d) = .row l d := if_pos hld
      rw [e1, ← hs, setS_self]
      refine SPost.same h0 ?_ (below_drewS q)
      simp [hs, sendB, hld]
    · refine (sendRow_ok g aE aW cs.length cE cW k x.src v (ps k).g (ps k).A (ps k).c l d w h1.blk hk he0 hw hi hld hsm hv0 hv1).mono ?_
      rintro e w' ⟨rfl, A', c', hl, hap, hfo⟩
      have e1 : sendS v (.row l d) = .row (l ++ [v]) d := if_neg hld
      rw [e1]
      have ha : Apart (WayF (ps k)) w w' := hap
      have hf : ∀ b, WayF ⟨(ps k).g, A', c'⟩ b → WayF (ps k) b ∨ w.heap.size ≤ b := fun b hb => by
        rcases hb with hb | hb
        · exact .inl (.inl hb)
        · exact (hfo b hb).imp_left .inr
      have hst := h1.step (p' := ⟨(ps k).g, A', c'⟩) (s' := .row (l ++ [v]) d) hk ha hl (by rw [hs]; rfl) hf
      have hgo := h1.goes (p' := ⟨(ps k).g, A', c'⟩) hk ha hf
      refine ⟨_, by simp [sendB, hld], ⟨_, _, _, _, _, hst, fun b => Iff.rfl⟩, ⟨⟨hgo.apart.os, hgo.apart.tape, hgo.apart.output, hgo.apart.size, fun b hb hF => hgo.apart.block b hb (fun hf => hF ((h2 b).2 hf))⟩, fun b hb => (hgo.foot b hb).imp_left (h2 b).2⟩⟩
theorem get_at {w : World} {F : Nat → Prop} {g : Nat} {cs : List ChanS} {ss : Nat → WayS} (h : SetAt w F g cs ss) {k : Nat} {x : ChanS} (hx : cs[k]? = some x) :
    Calls Try.prog 123 #[.pointer (some ⟨g, 0, none⟩), .int .i64 x.dst, .int .i64 (k : Int)] w (SPost F w g cs (.returned (.tuple #[.int .i64 (getN (ss k)), .bool (getB (ss k)), .int .i64 0])) (setS ss k (getS (ss k)))) := by
  have h0 := h
  obtain ⟨adE, cE, adW, cW, ps, h1, h2⟩ := h
  have hk := (List.getElem?_eq_some_iff.1 hx).1
  obtain ⟨aE, rfl, he0, he1⟩ := endOf h1 hx
  obtain ⟨aW, rfl, _, hw⟩ := h1.ways k hk
  have hi := h1.way k hk
  cases hs : ss k with
  | last m is =>
    rw [hs] at hi hw
    refine (getLast_any g aE aW cs.length cE cW k x.dst (ps k).g m is w h1.blk hk he1 hw hi.1).mono ?_
    rintro e w' ⟨rfl, q, rfl⟩
    have e1 : getS (.last m is) = ss k := hs.symm
    rw [e1, setS_self]
    exact SPost.same h0 rfl (below_drewS q)
  | row l d =>
    rw [hs] at hi hw
    cases l with
    | nil =>
      refine (getRow_no g aE aW cs.length cE cW k x.dst (ps k).g (ps k).A (ps k).c d w h1.blk hk he1 hw hi).mono ?_
      rintro e w' ⟨rfl, rfl⟩
      have e1 : getS (.row [] d) = ss k := hs.symm
      rw [e1, setS_self]
      exact SPost.same h0 rfl (Below.refl _ _)
    | cons y l =>
      refine (getRow_yes g aE aW cs.length cE cW k x.dst (ps k).g (ps k).A (ps k).c y l d w h1.blk hk he1 hw hi).mono ?_
      rintro e w' ⟨rfl, hl, hap⟩
      have ha : Apart (WayF (ps k)) w w' := hap
      have hst := h1.step (p' := ps k) (s' := .row l d) hk ha hl (by rw [hs]; rfl) (fun b hb => .inl hb)
      have hgo := h1.goes (p' := ps k) hk ha (fun b hb => .inl hb)
      exact ⟨_, rfl, ⟨_, _, _, _, _, hst, fun b => Iff.rfl⟩, ⟨⟨hgo.apart.os, hgo.apart.tape, hgo.apart.output, hgo.apart.size, fun b hb hF => hgo.apart.block b hb (fun hf => hF ((h2 b).2 hf))⟩, fun b hb => (hgo.foot b hb).imp_left (h2 b).2⟩⟩
theorem has_at {w : World} {F : Nat → Prop} {g : Nat} {cs : List ChanS} {ss : Nat → WayS} (h : SetAt w F g cs ss) {k : Nat} (hk : k < cs.length) (hsm : WaySmall (ss k)) :
    Calls Try.prog 30 #[.pointer (some ⟨g, 0, none⟩), .int .i64 (k : Int)] w fun e w' => ∃ A' c', e = .returned (.slice A' (hasL (ss k)).length c') ∧ Reads w' w'.heap.size 1 A' (hasL (ss k)).length ((hasL (ss k)).map iV) ∧ Below w.heap.size w w' := by
  obtain ⟨adE, cE, adW, cW, ps, h1, h2⟩ := h
  obtain ⟨aW, rfl, _, hw⟩ := h1.ways k hk
  have hi := h1.way k hk
  cases hs : ss k with
  | last m is =>
    rw [hs] at hi hw
    exact hasLast_any g adE aW cs.length cE cW k (ps k).g m is w h1.blk hk hw hi.1
  | row l d =>
    rw [hs] at hi hw hsm
    exact hasRow_any g adE aW cs.length cE cW k (ps k).g (ps k).A (ps k).c l d w h1.blk hk hw hi hsm
theorem send_badway {w : World} {F : Nat → Prop} {g : Nat} {cs : List ChanS} {ss : Nat → WayS} (h : SetAt w F g cs ss) (p k v : Int) (hk : ¬ (0 ≤ k ∧ k < cs.length) ∨ ∃ x, cs[k.toNat]? = some x ∧ 0 ≤ k ∧ x.src ≠ p) :
    Calls Try.prog 27 #[.pointer (some ⟨g, 0, none⟩), .int .i64 p, .int .i64 k, .int .i64 v] w fun e w' => e = .returned (.tuple #[.bool false, .int .i64 15]) ∧ w' = w := by
  obtain ⟨adE, cE, adW, cW, ps, h1, h2⟩ := h
  rcases hk with hk | ⟨x, hx, h0, hp⟩
  · exact send_out g adE adW cs.length cE cW p k v w h1.blk hk
  · obtain ⟨j, rfl⟩ : ∃ j : Nat, k = (j : Int) := ⟨k.toNat, by omega⟩
    rw [Int.toNat_natCast] at hx
    have hk := (List.getElem?_eq_some_iff.1 hx).1
    obtain ⟨aE, rfl, he0, he1⟩ := endOf h1 hx
    obtain ⟨aW, rfl, _, hw⟩ := h1.ways j hk
    exact send_src g aE aW cs.length cE cW j x.src p v w h1.blk hk he0 hp
theorem get_badway {w : World} {F : Nat → Prop} {g : Nat} {cs : List ChanS} {ss : Nat → WayS} (h : SetAt w F g cs ss) (p k : Int) (hk : ¬ (0 ≤ k ∧ k < cs.length) ∨ ∃ x, cs[k.toNat]? = some x ∧ 0 ≤ k ∧ x.dst ≠ p) :
    Calls Try.prog 123 #[.pointer (some ⟨g, 0, none⟩), .int .i64 p, .int .i64 k] w fun e w' => e = .returned (.tuple #[.int .i64 0, .bool false, .int .i64 15]) ∧ w' = w := by
  obtain ⟨adE, cE, adW, cW, ps, h1, h2⟩ := h
  rcases hk with hk | ⟨x, hx, h0, hp⟩
  · exact get_out g adE adW cs.length cE cW p k w h1.blk hk
  · obtain ⟨j, rfl⟩ : ∃ j : Nat, k = (j : Int) := ⟨k.toNat, by omega⟩
    rw [Int.toNat_natCast] at hx
    have hk := (List.getElem?_eq_some_iff.1 hx).1
    obtain ⟨aE, rfl, he0, he1⟩ := endOf h1 hx
    obtain ⟨aW, rfl, _, hw⟩ := h1.ways j hk
    exact get_dst g aE aW cs.length cE cW j x.dst p w h1.blk hk he1 hp
theorem send_badv {w : World} {F : Nat → Prop} {g : Nat} {cs : List ChanS} {ss : Nat → WayS} (h : SetAt w F g cs ss) {k : Nat} {x : ChanS} (hx : cs[k]? = some x) (v : Int) (hv : v < 0 ∨ 65535 < v) :
    Calls Try.prog 27 #[.pointer (some ⟨g, 0, none⟩), .int .i64 x.src, .int .i64 (k : Int), .int .i64 v] w fun e w' => e = .returned (.tuple #[.bool false, .int .i64 3]) ∧ w' = w := by
  obtain ⟨adE, cE, adW, cW, ps, h1, h2⟩ := h
  have hk := (List.getElem?_eq_some_iff.1 hx).1
  obtain ⟨aE, rfl, he0, he1⟩ := endOf h1 hx
  obtain ⟨aW, rfl, _, hw⟩ := h1.ways k hk
  exact send_range g aE aW cs.length cE cW k x.src v w h1.blk hk he0 hv
theorem has_none {w : World} {F : Nat → Prop} {g : Nat} {cs : List ChanS} {ss : Nat → WayS} (h : SetAt w F g cs ss) (k : Int) (hk : ¬ (0 ≤ k ∧ k < cs.length)) :
    Calls Try.prog 30 #[.pointer (some ⟨g, 0, none⟩), .int .i64 k] w fun e w' => e = .returned (.slice none 0 0) ∧ w' = w := by
  obtain ⟨adE, cE, adW, cW, ps, h1, h2⟩ := h
  exact has_out g adE adW cs.length cE cW k w h1.blk hk
end Go.Proofs.Ytidlahljhgglcaa
