/-
  The set and the reference's set side by side: an act on both.
-/
import Derived.Test.YtidlahljhgglcaaGreatRef16G
namespace Go.Proofs.YtidlahljhgglcaaGreat
open Go.RowKit Go.ChangeShapes Go.WideShapes Go.ChangeAt

/-- A state fits a depth. -/
def KOk (d : Int) : WayS → Prop
  | .last m is => d = 0 ∧ (is = false → m = 0)
  | .row l D => d = (D : Int) ∧ 0 < D ∧ l.length ≤ D
def KAll (cs : List ChanS) (ss : Nat → WayS) : Prop := ∀ k, k < cs.length → KOk (depthAt cs k) (ss k)
def hL (ss : Nat → WayS) (j : Nat) : List Int := hasL (ss j)
theorem setS_hL (ss : Nat → WayS) (k : Nat) (s : WayS) : setS (hL ss) k (hasL s) = hL (setS ss k s) := by
  funext j
  unfold hL
  by_cases h : j = k
  · subst h; rw [setS_same, setS_same]
  · rw [setS_other _ _ _ _ h, setS_other _ _ _ _ h]
theorem setS_hL' (ss : Nat → WayS) (k : Nat) (s : WayS) (l : List Int) (h : hasL s = l) : setS (hL ss) k l = hL (setS ss k s) := by rw [← h, setS_hL]
theorem KAll.set_ {cs : List ChanS} {ss : Nat → WayS} (h : KAll cs ss) {k : Nat} {s : WayS} (hs : KOk (depthAt cs k) s) : KAll cs (setS ss k s) := fun j hj => by
  by_cases e : j = k
  · subst e; rw [setS_same]; exact hs
  · rw [setS_other _ _ _ _ e]; exact h j hj
theorem KOk.send {d : Int} {s : WayS} (h : KOk d s) (v : Int) : KOk d (sendS v s) := by
  cases s with
  | last m is => exact ⟨h.1, fun e => by cases e⟩
  | row l D =>
    by_cases hl : l.length = D
    · rw [show sendS v (.row l D) = .row l D from if_pos hl]; exact h
    · rw [show sendS v (.row l D) = .row (l ++ [v]) D from if_neg hl]
      refine ⟨h.1, h.2.1, ?_⟩
      have := h.2.2
      simp
      omega
theorem KOk.get {d : Int} {s : WayS} (h : KOk d s) : KOk d (getS s) := by
  cases s with
  | last m is => exact h
  | row l D =>
    cases l with
    | nil => exact h
    | cons x l =>
      refine ⟨h.1, h.2.1, ?_⟩
      have h9 : l.length + 1 ≤ D := h.2.2
      omega
theorem KOk.empty {d : Int} {s : WayS} (h : KOk d s) : KOk d (emptyS s) := by
  cases s with
  | last m is => exact ⟨h.1, fun _ => rfl⟩
  | row l D => exact ⟨h.1, h.2.1, Nat.zero_le _⟩
theorem KOk.small {d : Int} {s : WayS} (h : KOk d s) (hd : d ≤ 4) : WaySmall s := by
  cases s with
  | last m is => trivial
  | row l D =>
    have h1 := h.1
    have h2 := h.2.2
    show l.length ≤ 100000
    omega
theorem KOk.zero {d : Int} (h : 0 ≤ d) : KOk d (zeroS d) := by
  by_cases h0 : 0 < d
  · rw [zeroS_pos h0]; exact ⟨by omega, by omega, Nat.zero_le _⟩
  · rw [zeroS_neg h0]; exact ⟨by omega, fun _ => rfl⟩
theorem hL_zero (cs : List ChanS) : hL (zeroW cs) = fun _ => [] := by
  funext j
  unfold hL zeroW zeroS
  split <;> rfl
/-- Both sets, apart from one another. -/
structure Two (B : Nat) (w0 : World) (g gR : Nat) (cs : List ChanS) (ss : Nat → WayS) (ls : Nat → List Int) (X : Nat → Prop) (w : World) : Prop where
  ex : ∃ FS FR, SetAt w FS g cs ss ∧ RefAt w FR gR cs ls ∧ (∀ b, FS b → ¬ FR b) ∧ (∀ b, FS b → B ≤ b) ∧ (∀ b, FR b → B ≤ b) ∧ ∀ b, X b → b < w.heap.size ∧ ¬ FS b ∧ ¬ FR b
  bel : Below B w0 w
  le : B ≤ w0.heap.size
section
variable {B : Nat} {w0 w w' : World} {g gR : Nat} {cs : List ChanS} {ss ss' : Nat → WayS} {ls ls' : Nat → List Int} {X : Nat → Prop}
theorem Two.lew (h : Two B w0 g gR cs ss ls X w) : B ≤ w.heap.size := Nat.le_trans h.le h.bel.size
theorem Two.belowS (h : Two B w0 g gR cs ss ls X w) (hb : Below w.heap.size w w') : Two B w0 g gR cs ss ls X w' := by
  obtain ⟨FS, FR, h1, h2, h3⟩ := h.ex
  exact ⟨⟨FS, FR, h1.belowS hb, h2.belowS hb, h3.1, h3.2.1, h3.2.2.1, fun b hX => ⟨Nat.lt_of_lt_of_le (h3.2.2.2 b hX).1 hb.size, (h3.2.2.2 b hX).2⟩⟩, h.bel.trans (hb.mono h.lew), h.le⟩
theorem Two.drew (h : Two B w0 g gR cs ss ls X w) : Two B w0 g gR cs ss ls X w.drew := h.belowS ⟨rfl, rfl, rfl, Nat.le_refl _, fun _ _ => rfl⟩
/-- A block made anew lies apart. -/
theorem Two.made (h : Two B w0 g gR cs ss ls X w) (o : Obj) : Two B w0 g gR cs ss ls (fun b => b = w.heap.size) (w.alloc o) := by
  obtain ⟨FS, FR, h1, h2, h3⟩ := h.ex
  have hb := below_alloc1 w o
  exact ⟨⟨FS, FR, h1.belowS hb, h2.belowS hb, h3.1, h3.2.1, h3.2.2.1, fun b e => ⟨by subst e; simp, fun hf => by have := h1.lt hf; omega, fun hf => by have := h2.lt hf; omega⟩⟩, h.bel.trans (hb.mono h.lew), h.le⟩
theorem Two.less {Y : Nat → Prop} (h : Two B w0 g gR cs ss ls X w) (hY : ∀ b, Y b → X b) : Two B w0 g gR cs ss ls Y w := by
  obtain ⟨FS, FR, h1, h2, h3⟩ := h.ex
  exact ⟨⟨FS, FR, h1, h2, h3.1, h3.2.1, h3.2.2.1, fun b hb => h3.2.2.2 b (hY b hb)⟩, h.bel, h.le⟩
theorem Two.r0 (h : Two B w0 g gR cs ss ls X w) : ∃ AC cC, w.cell? ⟨gR, 0, none⟩ = some (.slice AC cs.length cC) := by
  obtain ⟨FS, FR, h1, ⟨AC, cC, gL, ra, rc, h2, _⟩, h3⟩ := h.ex
  exact ⟨AC, cC, h2.blk.cellAt rfl⟩
theorem RefAt.row {F : Nat → Prop} (h : RefAt w F gR cs ls) {j : Nat} (hj : j < cs.length) : ∃ gL Aj cj, w.cell? ⟨gR, 1, none⟩ = some (.slice (some ⟨gL, 0, none⟩) cs.length cs.length) ∧ w.cell? ⟨gL, j, none⟩ = some (.slice Aj (ls j).length cj) ∧ ∀ w', Below w.heap.size w w' → Reads w' w'.heap.size 1 Aj (ls j).length ((ls j).map iV) := by
  obtain ⟨AC, cC, gL, ra, rc, h2, _⟩ := h
  exact ⟨gL, ra j, rc j, h2.blk.cellAt rfl, h2.row.cellAt (rowCs_get hj), fun w' hb => (h2.rds j hj).1.belowS hb⟩
/-- An act on the one. -/
theorem Two.actS (h : Two B w0 g gR cs ss ls X w) {e0 : Ending} {f : Nat} {args : Array Value} (hc : ∀ F, SetAt w F g cs ss → Calls Tryz.prog f args w (SPost F w g cs e0 ss')) :
    Calls Tryz.prog f args w fun e w' => e = e0 ∧ Two B w0 g gR cs ss' ls X w' ∧ ∀ b, X b → w'.heap[b]? = w.heap[b]? := by
  obtain ⟨FS, FR, h1, h2, h3, h4, h5, h6⟩ := h.ex
  refine (hc FS h1).mono ?_
  rintro e w' ⟨F', rfl, hS, hG⟩
  have hx := hG.below h.lew h4
  exact ⟨rfl, ⟨⟨F', FR, hS, h2.apart hG.apart (fun b hb hf => h3 b hf hb), fun b hb hf => (hG.foot b hb).elim (fun h9 => h3 b h9 hf) (fun h9 => by have := h2.lt hf; omega), hx.2, h5, fun b hX => ⟨Nat.lt_of_lt_of_le (h6 b hX).1 hG.apart.size, fun hb => (hG.foot b hb).elim (h6 b hX).2.1 (fun h9 => by have := (h6 b hX).1; omega), (h6 b hX).2.2⟩⟩, h.bel.trans hx.1, h.le⟩, fun b hX => hG.apart.block b (h6 b hX).1 (h6 b hX).2.1⟩
/-- An act on the other. -/
theorem Two.actR (h : Two B w0 g gR cs ss ls X w) {e0 : Ending} {f : Nat} {args : Array Value} (hc : ∀ F, RefAt w F gR cs ls → Calls Tryz.prog f args w (RPost F w gR cs e0 ls')) :
    Calls Tryz.prog f args w fun e w' => e = e0 ∧ Two B w0 g gR cs ss ls' X w' ∧ ∀ b, X b → w'.heap[b]? = w.heap[b]? := by
  obtain ⟨FS, FR, h1, h2, h3, h4, h5, h6⟩ := h.ex
  refine (hc FR h2).mono ?_
  rintro e w' ⟨F', rfl, hS, hG⟩
  have hx := hG.below h.lew h5
  exact ⟨rfl, ⟨⟨FS, F', h1.apart hG.apart (fun b hb hf => h3 b hb hf), hS, fun b hb hf => (hG.foot b hf).elim (fun h9 => h3 b hb h9) (fun h9 => by have := h1.lt hb; omega), h4, hx.2, fun b hX => ⟨Nat.lt_of_lt_of_le (h6 b hX).1 hG.apart.size, (h6 b hX).2.1, fun hb => (hG.foot b hb).elim (h6 b hX).2.2 (fun h9 => by have := (h6 b hX).1; omega)⟩⟩, h.bel.trans hx.1, h.le⟩, fun b hX => hG.apart.block b (h6 b hX).1 (h6 b hX).2.2⟩
theorem RPost.same {F : Nat → Prop} {e e0 : Ending} (h : RefAt w F gR cs ls) (he : e = e0) (hb : Below w.heap.size w w') : RPost F w gR cs e0 ls e w' := ⟨F, he, h.belowS hb, Goes.of_below hb⟩
/-- What a Send does to both. -/
theorem two_send (hK : KAll cs ss) (hd : ∀ k, k < cs.length → depthAt cs k ≤ 4) (p k v : Int) :
    ∃ (is : Bool) (E : Int) (ss' : Nat → WayS), KAll cs ss' ∧
      (∀ w, Two B w0 g gR cs ss (hL ss) X w → Calls Tryz.prog 17 #[.pointer (some ⟨g, 0, none⟩), .int .i64 p, .int .i64 k, .int .i64 v] w fun e w' => e = .returned (.tuple #[.bool is, .int .i64 E]) ∧ Two B w0 g gR cs ss' (hL ss) X w' ∧ ∀ b, X b → w'.heap[b]? = w.heap[b]?) ∧
      (∀ w, Two B w0 g gR cs ss' (hL ss) X w → Calls Tryz.prog 18 #[.pointer (some ⟨gR, 0, none⟩), .int .i64 p, .int .i64 k, .int .i64 v] w fun e w' => e = .returned (toldV 0 is E) ∧ Two B w0 g gR cs ss' (hL ss') X w' ∧ ∀ b, X b → w'.heap[b]? = w.heap[b]?) := by
  by_cases hbad : ¬ (0 ≤ k ∧ k < cs.length) ∨ ∃ x, cs[k.toNat]? = some x ∧ 0 ≤ k ∧ x.src ≠ p
  · exact ⟨false, 15, ss, hK, fun w h => h.actS fun F hs => (send_badway hs p k v hbad).mono fun e w' ⟨he, hw⟩ => SPost.same hs he (by rw [hw]; exact Below.refl _ _),
      fun w h => h.actR fun F hs => (refSend_bad hs p k v hbad).mono fun e w' ⟨he, hw⟩ => RPost.same hs he hw⟩
  · have h1 : 0 ≤ k ∧ k < cs.length := Classical.byContradiction fun h => hbad (.inl h)
    obtain ⟨j, rfl⟩ : ∃ j : Nat, k = (j : Int) := ⟨k.toNat, by omega⟩
    have hj : j < cs.length := by omega
    obtain ⟨x, hx⟩ : ∃ x, cs[j]? = some x := ⟨_, List.getElem?_eq_getElem hj⟩
    have hp : x.src = p := Classical.byContradiction fun h => hbad (.inr ⟨x, by rw [Int.toNat_natCast]; exact hx, h1.1, h⟩)
    subst hp
    have hkj := hK j hj
    have hdj := hd j hj
    have hdx : depthAt cs j = x.depth := depthAt_get hx
    by_cases hv : v < 0 ∨ 65535 < v
    · exact ⟨false, 3, ss, hK, fun w h => h.actS fun F hs => (send_badv hs hx v hv).mono fun e w' ⟨he, hw⟩ => SPost.same hs he (by rw [hw]; exact Below.refl _ _),
        fun w h => h.actR fun F hs => (refSend_range hs hx v hv).mono fun e w' ⟨he, hw⟩ => RPost.same hs he hw⟩
    · refine ⟨sendB (ss j), 0, setS ss j (sendS v (ss j)), hK.set_ (hkj.send v), fun w h => h.actS fun F hs => send_at hs hx (hkj.small hdj) v (by omega) (by omega), fun w h => h.actR fun F hs => ?_⟩
      rw [hdx] at hkj
      have hh : hL ss j = hasL (ss j) := rfl
      cases hs0 : ss j with
      | last m is =>
        rw [hs0] at hkj
        have := refSend_last hs hx v (by omega) (by omega) hkj.1
        rw [setS_hL' ss j (sendS v (.last m is)) [v] rfl] at this
        exact this
      | row l D =>
        rw [hs0] at hkj hh
        have hD0 : x.depth ≠ 0 := by have := hkj.1; have := hkj.2.1; omega
        have hlen : (hL ss j).length = l.length := by rw [hh]; rfl
        by_cases hl : l.length = D
        · have e1 : sendB (.row l D) = false := by simp [sendB, hl]
          have e2 : setS ss j (sendS v (.row l D)) = ss := by rw [show sendS v (.row l D) = .row l D from if_pos hl, ← hs0, setS_self]
          rw [e1, e2]
          exact (refSend_full hs hx v (by omega) (by omega) hD0 (by rw [hlen, hkj.1, hl])).mono fun e w' ⟨he, hw⟩ => RPost.same hs he hw
        · have e1 : sendB (.row l D) = true := by simp [sendB, hl]
          have e2 : sendS v (.row l D) = .row (l ++ [v]) D := if_neg hl
          rw [e1, e2]
          have hle := hkj.2.2
          have hdj' : x.depth ≤ 4 := by rw [← hdx]; exact hdj
          have hk1 := hkj.1
          have := refSend_ok hs hx v (by omega) (by omega) hD0 (by rw [hlen]; omega) (by rw [hlen]; omega)
          rw [setS_hL' ss j (.row (l ++ [v]) D) (hL ss j ++ [v]) (by rw [hh]; rfl)] at this
          exact this
/-- What a Get does to both. -/
theorem two_get (hK : KAll cs ss) (p k : Int) :
    ∃ (n : Int) (is : Bool) (E : Int) (ss' : Nat → WayS), KAll cs ss' ∧
      (∀ w, Two B w0 g gR cs ss (hL ss) X w → Calls Tryz.prog 115 #[.pointer (some ⟨g, 0, none⟩), .int .i64 p, .int .i64 k] w fun e w' => e = .returned (.tuple #[.int .i64 n, .bool is, .int .i64 E]) ∧ Two B w0 g gR cs ss' (hL ss) X w' ∧ ∀ b, X b → w'.heap[b]? = w.heap[b]?) ∧
      (∀ w, Two B w0 g gR cs ss' (hL ss) X w → Calls Tryz.prog 84 #[.pointer (some ⟨gR, 0, none⟩), .int .i64 p, .int .i64 k] w fun e w' => e = .returned (toldV n is E) ∧ Two B w0 g gR cs ss' (hL ss') X w' ∧ ∀ b, X b → w'.heap[b]? = w.heap[b]?) := by
  by_cases hbad : ¬ (0 ≤ k ∧ k < cs.length) ∨ ∃ x, cs[k.toNat]? = some x ∧ 0 ≤ k ∧ x.dst ≠ p
  · exact ⟨0, false, 15, ss, hK, fun w h => h.actS fun F hs => (get_badway hs p k hbad).mono fun e w' ⟨he, hw⟩ => SPost.same hs he (by rw [hw]; exact Below.refl _ _),
      fun w h => h.actR fun F hs => (refGet_bad hs p k hbad).mono fun e w' ⟨he, hw⟩ => RPost.same hs he hw⟩
  · have h1 : 0 ≤ k ∧ k < cs.length := Classical.byContradiction fun h => hbad (.inl h)
    obtain ⟨j, rfl⟩ : ∃ j : Nat, k = (j : Int) := ⟨k.toNat, by omega⟩
    have hj : j < cs.length := by omega
    obtain ⟨x, hx⟩ : ∃ x, cs[j]? = some x := ⟨_, List.getElem?_eq_getElem hj⟩
    have hp : x.dst = p := Classical.byContradiction fun h => hbad (.inr ⟨x, by rw [Int.toNat_natCast]; exact hx, h1.1, h⟩)
    subst hp
    have hkj := hK j hj
    have hdx : depthAt cs j = x.depth := depthAt_get hx
    refine ⟨getN (ss j), getB (ss j), 0, setS ss j (getS (ss j)), hK.set_ hkj.get, fun w h => h.actS fun F hs => get_at hs hx, fun w h => h.actR fun F hs => ?_⟩
    rw [hdx] at hkj
    have hh : hL ss j = hasL (ss j) := rfl
    cases hs0 : ss j with
    | last m is =>
      rw [hs0] at hkj hh
      have e2 : setS ss j (getS (.last m is)) = ss := by rw [show getS (.last m is) = .last m is from rfl, ← hs0, setS_self]
      rw [e2]
      cases is with
      | false =>
        have hm := hkj.2 rfl
        subst hm
        exact (refGet_none hs hx hh).mono fun e w' ⟨he, hw⟩ => RPost.same hs he hw
      | true => exact (refGet_last hs hx (y := m) (l := []) hh hkj.1).mono fun e w' ⟨he, hw⟩ => RPost.same hs he hw
    | row l D =>
      rw [hs0] at hkj hh
      cases l with
      | nil =>
        have e2 : setS ss j (getS (.row [] D)) = ss := by rw [show getS (.row [] D) = .row [] D from rfl, ← hs0, setS_self]
        rw [e2]
        exact (refGet_none hs hx hh).mono fun e w' ⟨he, hw⟩ => RPost.same hs he hw
      | cons y l =>
        have := refGet_row hs hx (y := y) (l := l) hh (by have := hkj.1; have := hkj.2.1; omega)
        rw [setS_hL' ss j (.row l D) l rfl] at this
        exact this
end
end Go.Proofs.YtidlahljhgglcaaGreat
