/-
  Any act on one way of a set: its state, bounded; all else as it was.
-/
import Derived.Test.YtidlahljhgglcaaGreatPortQ
namespace Go.Proofs.YtidlahljhgglcaaGreat
open Go.RowKit Go.ChangeShapes Go.WideShapes Go.ChangeAt

/-- A queue of at most so many. -/
def WayLe (b : Nat) : WayS → Prop
  | .last _ _ => True
  | .row l _ => l.length ≤ b
theorem WayLe.small {b : Nat} {s : WayS} (h : WayLe b s) (hb : b ≤ 100000) : WaySmall s := by
  cases s with
  | last m is => trivial
  | row l d => exact Nat.le_trans h hb
theorem WayLe.more {b b' : Nat} {s : WayS} (h : WayLe b s) (hb : b ≤ b') : WayLe b' s := by
  cases s with
  | last m is => trivial
  | row l d => exact Nat.le_trans h hb
theorem WayLe.send {b : Nat} {s : WayS} (h : WayLe b s) (v : Int) : WayLe (b + 1) (sendS v s) := by
  cases s with
  | last m is => trivial
  | row l d =>
    unfold sendS
    simp only
    by_cases hl : l.length = d
    · rw [if_pos hl]; exact Nat.le_succ_of_le h
    · rw [if_neg hl]
      show (l ++ [v]).length ≤ b + 1
      simp
      exact h
theorem WayLe.get {b : Nat} {s : WayS} (h : WayLe b s) : WayLe b (getS s) := by
  cases s with
  | last m is => trivial
  | row l d =>
    cases l with
    | nil => exact h
    | cons x l =>
      show l.length ≤ b
      have : l.length + 1 ≤ b := h
      omega
section
variable {w w' : World} {F F' : Nat → Prop} {g : Nat} {cs : List ChanS} {ss : Nat → WayS} {k : Nat} {x : ChanS} {s : WayS}
theorem SetAt.drew (h : SetAt w F g cs ss) : SetAt w.drew F g cs ss := h.keep (Nat.le_refl _) fun _ _ => rfl
theorem Goes.of_drew (h : Goes F w.drew F' w') : Goes F w F' w' := ⟨⟨h.apart.os, h.apart.tape, h.apart.output, h.apart.size, h.apart.block⟩, h.foot⟩
/-- What any act on one way leaves. -/
def OneAct (F : Nat → Prop) (w : World) (g : Nat) (cs : List ChanS) (ss : Nat → WayS) (k b : Nat) (w' : World) : Prop := ∃ F' s', SetAt w' F' g cs (setS ss k s') ∧ WayLe b s' ∧ Goes F w F' w'
theorem send_one (h : SetAt w F g cs (setS ss k s)) (hx : cs[k]? = some x) {b : Nat} (hb : WayLe b s) (hb2 : b ≤ 100000) (v : Int) :
    Calls Tryz.prog 17 #[.pointer (some ⟨g, 0, none⟩), .int .i64 x.src, .int .i64 (k : Int), .int .i64 v] w fun e w' => (∃ r z, e = .returned (.tuple #[.bool r, .int .i64 z])) ∧ OneAct F w g cs ss k (b + 1) w' := by
  by_cases hv : 0 ≤ v ∧ v ≤ 65535
  · refine (send_at h hx (by rw [setS_same]; exact hb.small hb2) v hv.1 hv.2).mono ?_
    rintro e w' ⟨F', rfl, hS, hG⟩
    rw [setS_setS, setS_same] at hS
    exact ⟨⟨_, _, rfl⟩, F', _, hS, hb.send v, hG⟩
  · refine (send_badv h hx v (by omega)).mono ?_
    rintro e w' ⟨rfl, rfl⟩
    exact ⟨⟨_, _, rfl⟩, F, s, h, hb.more (by omega), Goes.refl _ _⟩
theorem get_one (h : SetAt w F g cs (setS ss k s)) (hx : cs[k]? = some x) {b : Nat} (hb : WayLe b s) :
    Calls Tryz.prog 115 #[.pointer (some ⟨g, 0, none⟩), .int .i64 x.dst, .int .i64 (k : Int)] w fun e w' => (∃ y r z, e = .returned (.tuple #[.int .i64 y, .bool r, .int .i64 z])) ∧ OneAct F w g cs ss k b w' := by
  refine (get_at h hx).mono ?_
  rintro e w' ⟨F', rfl, hS, hG⟩
  rw [setS_setS, setS_same] at hS
  exact ⟨⟨_, _, _, rfl⟩, F', _, hS, hb.get, hG⟩
end
/-- The first send through a channel. -/
theorem sendZero (d v : Int) (h : 0 ≤ d) : hasL (sendS v (zeroS d)) = [v] ∧ WayLe 1 (sendS v (zeroS d)) := by
  by_cases h0 : 0 < d
  · rw [zeroS_pos h0]
    have e : sendS v (.row [] d.toNat) = .row [v] d.toNat := if_neg (by simp; omega)
    rw [e]
    exact ⟨rfl, Nat.le_refl _⟩
  · rw [zeroS_neg h0]
    exact ⟨rfl, trivial⟩
end Go.Proofs.YtidlahljhgglcaaGreat
