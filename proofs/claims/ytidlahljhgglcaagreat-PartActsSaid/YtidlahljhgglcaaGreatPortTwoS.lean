/-
  Send and Get of channels as plain functions: the program's, and the reference's.
-/
import Derived.Test.YtidlahljhgglcaaGreatPortTwo
namespace Go.Proofs.YtidlahljhgglcaaGreat
open Go.RowKit Go.ChangeShapes Go.WideShapes Go.ChangeAt

def chanAt (cs : List ChanS) (k : Int) : Option ChanS := if 0 ≤ k then cs[k.toNat]? else none
theorem chanAt_some {cs : List ChanS} {k : Int} {x : ChanS} (h : chanAt cs k = some x) : ∃ j : Nat, k = (j : Int) ∧ cs[j]? = some x := by
  unfold chanAt at h
  split at h
  · exact ⟨k.toNat, by omega, h⟩
  · cases h
theorem chanAt_none {cs : List ChanS} {k : Int} (h : chanAt cs k = none) : ¬ (0 ≤ k ∧ k < cs.length) := by
  rintro ⟨h1, h2⟩
  unfold chanAt at h
  rw [if_pos h1, List.getElem?_eq_getElem (show k.toNat < cs.length by omega)] at h
  cases h
/-- A Send: whether it went, its error, the channels behind it. -/
def sendP (cs : List ChanS) (ss : Nat → WayS) (p k v : Int) : Bool × Int × (Nat → WayS) :=
  match chanAt cs k with
  | none => (false, 15, ss)
  | some x => if x.src ≠ p then (false, 15, ss) else if v < 0 ∨ 65535 < v then (false, 3, ss) else (sendB (ss k.toNat), 0, setS ss k.toNat (sendS v (ss k.toNat)))
/-- A Get. -/
def getP (cs : List ChanS) (ss : Nat → WayS) (p k : Int) : Int × Bool × Int × (Nat → WayS) :=
  match chanAt cs k with
  | none => (0, false, 15, ss)
  | some x => if x.dst ≠ p then (0, false, 15, ss) else (getN (ss k.toNat), getB (ss k.toNat), 0, setS ss k.toNat (getS (ss k.toNat)))
section
variable {cs : List ChanS} {ss : Nat → WayS}
theorem KAll.sendP (h : KAll cs ss) (p k v : Int) : KAll cs (sendP cs ss p k v).2.2 := by
  unfold Go.Proofs.YtidlahljhgglcaaGreat.sendP
  cases hx : chanAt cs k with
  | none => exact h
  | some x =>
    obtain ⟨j, rfl, hj⟩ := chanAt_some hx
    simp only
    split
    · exact h
    · split
      · exact h
      · rw [Int.toNat_natCast]
        exact h.set_ ((h j (List.getElem?_eq_some_iff.1 hj).1).send v)
theorem KAll.getP (h : KAll cs ss) (p k : Int) : KAll cs (getP cs ss p k).2.2.2 := by
  unfold Go.Proofs.YtidlahljhgglcaaGreat.getP
  cases hx : chanAt cs k with
  | none => exact h
  | some x =>
    obtain ⟨j, rfl, hj⟩ := chanAt_some hx
    simp only
    split
    · exact h
    · rw [Int.toNat_natCast]
      exact h.set_ (h j (List.getElem?_eq_some_iff.1 hj).1).get
variable {w : World} {F : Nat → Prop} {g gR : Nat}
theorem sendP_any (h : SetAt w F g cs ss) (hK : KAll cs ss) (hd : ∀ k, k < cs.length → depthAt cs k ≤ 4) (p k v : Int) :
    Calls Tryz.prog 17 #[.pointer (some ⟨g, 0, none⟩), .int .i64 p, .int .i64 k, .int .i64 v] w (SPost F w g cs (.returned (.tuple #[.bool (sendP cs ss p k v).1, .int .i64 (sendP cs ss p k v).2.1])) (sendP cs ss p k v).2.2) := by
  unfold sendP
  cases hx : chanAt cs k with
  | none => exact (send_badway h p k v (.inl (chanAt_none hx))).mono fun e w' ⟨he, hw⟩ => SPost.same h he (by rw [hw]; exact Below.refl _ _)
  | some x =>
    obtain ⟨j, rfl, hj⟩ := chanAt_some hx
    have hjl := (List.getElem?_eq_some_iff.1 hj).1
    simp only
    by_cases hp : x.src = p
    · subst hp
      rw [if_neg (by simp)]
      by_cases hv : v < 0 ∨ 65535 < v
      · rw [if_pos hv]
        exact (send_badv h hj v hv).mono fun e w' ⟨he, hw⟩ => SPost.same h he (by rw [hw]; exact Below.refl _ _)
      · rw [if_neg hv, Int.toNat_natCast]
        exact send_at h hj ((hK j hjl).small (hd j hjl)) v (by omega) (by omega)
    · rw [if_pos hp]
      exact (send_badway h p (j : Int) v (.inr ⟨x, by rw [Int.toNat_natCast]; exact hj, Int.natCast_nonneg _, hp⟩)).mono fun e w' ⟨he, hw⟩ => SPost.same h he (by rw [hw]; exact Below.refl _ _)
theorem getP_any (h : SetAt w F g cs ss) (p k : Int) :
    Calls Tryz.prog 115 #[.pointer (some ⟨g, 0, none⟩), .int .i64 p, .int .i64 k] w (SPost F w g cs (.returned (.tuple #[.int .i64 (getP cs ss p k).1, .bool (getP cs ss p k).2.1, .int .i64 (getP cs ss p k).2.2.1])) (getP cs ss p k).2.2.2) := by
  unfold getP
  cases hx : chanAt cs k with
  | none => exact (get_badway h p k (.inl (chanAt_none hx))).mono fun e w' ⟨he, hw⟩ => SPost.same h he (by rw [hw]; exact Below.refl _ _)
  | some x =>
    obtain ⟨j, rfl, hj⟩ := chanAt_some hx
    simp only
    by_cases hp : x.dst = p
    · subst hp
      rw [if_neg (by simp), Int.toNat_natCast]
      exact get_at h hj
    · rw [if_pos hp]
      exact (get_badway h p (j : Int) (.inr ⟨x, by rw [Int.toNat_natCast]; exact hj, Int.natCast_nonneg _, hp⟩)).mono fun e w' ⟨he, hw⟩ => SPost.same h he (by rw [hw]; exact Below.refl _ _)
theorem sendR_any (h : RefAt w F gR cs (hL ss)) (hK : KAll cs ss) (hd : ∀ k, k < cs.length → depthAt cs k ≤ 4) (p k v : Int) :
    Calls Tryz.prog 18 #[.pointer (some ⟨gR, 0, none⟩), .int .i64 p, .int .i64 k, .int .i64 v] w (RPost F w gR cs (.returned (toldV 0 (sendP cs ss p k v).1 (sendP cs ss p k v).2.1)) (hL (sendP cs ss p k v).2.2)) := by
  unfold sendP
  cases hx : chanAt cs k with
  | none => exact (refSend_bad h p k v (.inl (chanAt_none hx))).mono fun e w' ⟨he, hw⟩ => RPost.same h he hw
  | some x =>
    obtain ⟨j, rfl, hj⟩ := chanAt_some hx
    have hjl := (List.getElem?_eq_some_iff.1 hj).1
    have hkj := hK j hjl
    have hdj := hd j hjl
    have hdx : depthAt cs j = x.depth := depthAt_get hj
    simp only
    by_cases hp : x.src = p
    · subst hp
      rw [if_neg (by simp)]
      by_cases hv : v < 0 ∨ 65535 < v
      · rw [if_pos hv]
        exact (refSend_range h hj v hv).mono fun e w' ⟨he, hw⟩ => RPost.same h he hw
      · rw [if_neg hv, Int.toNat_natCast]
        rw [hdx] at hkj
        have hh : hL ss j = hasL (ss j) := rfl
        cases hs0 : ss j with
        | last m is =>
          rw [hs0] at hkj
          have := refSend_last h hj v (by omega) (by omega) hkj.1
          rw [setS_hL' ss j (sendS v (.last m is)) [v] rfl] at this
          exact this
        | row l D =>
          rw [hs0] at hkj hh
          have hD0 : x.depth ≠ 0 := by have := hkj.1; have := hkj.2.1; omega
          have hlen : (hL ss j).length = l.length := by rw [hh]; rfl
          by_cases hl : l.length = D
          · have e1 : sendB (.row l D) = false := by simp [sendB, hl]
            have e2 : setS ss j (sendS v (.row l D)) = ss := by rw [show sendS v (.row l D) = .row l D from if_pos hl, ← hs0, setS_self]
            rw [e1, e2]
            exact (refSend_full h hj v (by omega) (by omega) hD0 (by rw [hlen, hkj.1, hl])).mono fun e w' ⟨he, hw⟩ => RPost.same h he hw
          · have e1 : sendB (.row l D) = true := by simp [sendB, hl]
            have e2 : sendS v (.row l D) = .row (l ++ [v]) D := if_neg hl
            rw [e1, e2]
            have hle := hkj.2.2
            have hdj' : x.depth ≤ 4 := by rw [← hdx]; exact hdj
            have hk1 := hkj.1
            have := refSend_ok h hj v (by omega) (by omega) hD0 (by rw [hlen]; omega) (by rw [hlen]; omega)
            rw [setS_hL' ss j (.row (l ++ [v]) D) (hL ss j ++ [v]) (by rw [hh]; rfl)] at this
            exact this
    · rw [if_pos hp]
      exact (refSend_bad h p (j : Int) v (.inr ⟨x, by rw [Int.toNat_natCast]; exact hj, Int.natCast_nonneg _, hp⟩)).mono fun e w' ⟨he, hw⟩ => RPost.same h he hw
theorem getR_any (h : RefAt w F gR cs (hL ss)) (hK : KAll cs ss) (p k : Int) :
    Calls Tryz.prog 84 #[.pointer (some ⟨gR, 0, none⟩), .int .i64 p, .int .i64 k] w (RPost F w gR cs (.returned (toldV (getP cs ss p k).1 (getP cs ss p k).2.1 (getP cs ss p k).2.2.1)) (hL (getP cs ss p k).2.2.2)) := by
  unfold getP
  cases hx : chanAt cs k with
  | none => exact (refGet_bad h p k (.inl (chanAt_none hx))).mono fun e w' ⟨he, hw⟩ => RPost.same h he hw
  | some x =>
    obtain ⟨j, rfl, hj⟩ := chanAt_some hx
    have hjl := (List.getElem?_eq_some_iff.1 hj).1
    have hkj := hK j hjl
    have hdx : depthAt cs j = x.depth := depthAt_get hj
    simp only
    by_cases hp : x.dst = p
    · subst hp
      rw [if_neg (by simp), Int.toNat_natCast]
      rw [hdx] at hkj
      have hh : hL ss j = hasL (ss j) := rfl
      cases hs0 : ss j with
      | last m is =>
        rw [hs0] at hkj hh
        have e2 : setS ss j (getS (.last m is)) = ss := by rw [show getS (.last m is) = .last m is from rfl, ← hs0, setS_self]
        rw [e2]
        cases is with
        | false =>
          have hm := hkj.2 rfl
          subst hm
          exact (refGet_none h hj hh).mono fun e w' ⟨he, hw⟩ => RPost.same h he hw
        | true => exact (refGet_last h hj (y := m) (l := []) hh hkj.1).mono fun e w' ⟨he, hw⟩ => RPost.same h he hw
      | row l D =>
        rw [hs0] at hkj hh
        cases l with
        | nil =>
          have e2 : setS ss j (getS (.row [] D)) = ss := by rw [show getS (.row [] D) = .row [] D from rfl, ← hs0, setS_self]
          rw [e2]
          exact (refGet_none h hj hh).mono fun e w' ⟨he, hw⟩ => RPost.same h he hw
        | cons y l =>
          have := refGet_row h hj (y := y) (l := l) hh (by have := hkj.1; have := hkj.2.1; omega)
          rw [setS_hL' ss j (.row l D) l rfl] at this
          exact this
    · rw [if_pos hp]
      exact (refGet_bad h p (j : Int) (.inr ⟨x, by rw [Int.toNat_natCast]; exact hj, Int.natCast_nonneg _, hp⟩)).mono fun e w' ⟨he, hw⟩ => RPost.same h he hw
end
end Go.Proofs.YtidlahljhgglcaaGreat
