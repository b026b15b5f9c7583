/-
  port.Drain: all channels to a partition emptied.
-/
import Derived.Test.YtidlahljhgglcaaPortNewOk
namespace Go.Proofs.Ytidlahljhgglcaa
open Go.RowKit Go.ChangeShapes Go.WideShapes Go.ChangeAt

def emptyS : WayS → WayS
  | .last _ _ => .last 0 false
  | .row _ d => .row [] d
/-- The first k channels seen. -/
def drainS (cs : List ChanS) (p : Int) (k : Nat) (ss : Nat → WayS) (j : Nat) : WayS := if j < k ∧ (cs.getD j ⟨0, 0, 0⟩).dst = p then emptyS (ss j) else ss j
theorem drainS_zero (cs : List ChanS) (p : Int) (ss : Nat → WayS) : drainS cs p 0 ss = ss := by funext j; simp [drainS]
theorem drainS_yes (cs : List ChanS) (p : Int) (k : Nat) (ss : Nat → WayS) (h : (cs.getD k ⟨0, 0, 0⟩).dst = p) : setS (drainS cs p k ss) k (emptyS (drainS cs p k ss k)) = drainS cs p (k + 1) ss := by
  funext j
  by_cases hjk : j = k
  · subst hjk
    rw [setS_same]
    simp only [drainS, Nat.lt_irrefl, false_and, if_false, Nat.lt_succ_self, true_and, h, if_true]
  · rw [setS_other _ _ _ _ hjk]
    unfold drainS
    have : (j < k) = (j < k + 1) := by apply propext; omega
    simp only [this]
theorem drainS_no (cs : List ChanS) (p : Int) (k : Nat) (ss : Nat → WayS) (h : (cs.getD k ⟨0, 0, 0⟩).dst ≠ p) : drainS cs p k ss = drainS cs p (k + 1) ss := by
  funext j
  unfold drainS
  by_cases hjk : j = k
  · subst hjk
    rw [if_neg (fun e => absurd e.1 (Nat.lt_irrefl _)), if_neg (fun e => h e.2)]
  · have : (j < k) = (j < k + 1) := by apply propext; omega
    simp only [this]
theorem SetIn.at_ {w : World} {g : Nat} {cs : List ChanS} {adE : Option Addr} {cE : Nat} {adW : Option Addr} {cW : Nat} {ps : Nat → WayP} {ss : Nat → WayS} (h : SetIn w g cs adE cE adW cW ps ss) : SetAt w (SetF cs.length g adE adW ps) g cs ss := ⟨adE, cE, adW, cW, ps, h, fun _ => Iff.rfl⟩
end Go.Proofs.Ytidlahljhgglcaa
