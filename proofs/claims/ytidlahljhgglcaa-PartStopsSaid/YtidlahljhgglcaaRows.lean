/-
  No cell of these rows narrows 'for every input' (looked for: loops, veiled, ifaces, maps, wideKeys, modest, calm, conditions, laid).
  DERIVED. THE GIVEN ROWS OF THIS SEAT. 8 by the template 'for every input the law returns true; each argument reads behind the call as it read before'; 0 by the template 'total and deterministic' (their statements: YtidlahljhgglcaaTotals.lean).
  GIVEN WITH THE SEED: the statements are not yours to turn. If you find one false, say at which input.
  Laid BY PROGRAM, IN A SANDBOX (cutbox-rows.mjs): the forced cells as the released guide's own fill.sh prints them over the translation 3828030fde47a20b… (all of the seat's roots in one cut). By AI agents, Wed Nov 11 2026. No macro, syntax, notation, axiom, sorry.
-/
import Derived.Test.YtidlahljhgglcaaChecked
import GoSem.Claim
import GoSem.ClaimJoined
import GoSem.ClaimMapViews
import Derived.JoinedTies
import Derived.KernelRfl
namespace Go.Proofs.Ytidlahljhgglcaa
/- THE CELL 'sum', in the pinned program and in every row, IS THE sha256 OF THE DUMP (.gsa) THAT YtidlahljhgglcaaProg.lean LOADS. Nothing in Lean hashes anything: it is a label: what it is worth is what the hold of that sum in a sandbox is worth. -/
noncomputable def Try.pinned : Pinned := { name := "ytidlahljhgglcaa", sum := "3828030fde47a20bbe9214941f6fb3afb2acded674032bbdae78f0b90cb8cbbd", checked := Try.checked }
namespace Rows
def none {H : Type} : Left H := { results := [], args := [] }

/-- 'longeronlaw17.VmBounds': WHATEVER THE INPUT: true; the input reads as it did. -/
def vmBoundsSpec : ChangeSpec := { name := "vmBounds", fn := fun _ => fun
  | [d1, d2] => { results := [.lit (.bool true)], args := [d1, d2] }
  | _ => none }
def vmBoundsRow : OpenClaim := { program := "ytidlahljhgglcaa", sum := "3828030fde47a20bbe9214941f6fb3afb2acded674032bbdae78f0b90cb8cbbd", func := "longeron/longeronlaw17.VmBounds", spec := "vmBounds", unfollowed := true, recurses := true, apart := false }
def VmBoundsSaid : Prop := vmBoundsRow.holds Try.pinned (OpenSpec.ofChange vmBoundsSpec)

/-- ITS FALSE NEIGHBOUR: 'it returns false'. Refute it at one input. -/
def vmBoundsWrong : ChangeSpec := { name := "vmBounds", fn := fun _ => fun
  | [d1, d2] => { results := [.lit (.bool false)], args := [d1, d2] }
  | _ => none }
def VmBoundsWrongFalsely : Prop := vmBoundsRow.holds Try.pinned (OpenSpec.ofChange vmBoundsWrong)

/-- 'longeronlaw17.VmSends': WHATEVER THE INPUT: true; the input reads as it did. -/
def vmSendsSpec : ChangeSpec := { name := "vmSends", fn := fun _ => fun
  | [d1, d2] => { results := [.lit (.bool true)], args := [d1, d2] }
  | _ => none }
def vmSendsRow : OpenClaim := { program := "ytidlahljhgglcaa", sum := "3828030fde47a20bbe9214941f6fb3afb2acded674032bbdae78f0b90cb8cbbd", func := "longeron/longeronlaw17.VmSends", spec := "vmSends", unfollowed := true, recurses := true, apart := false }
def VmSendsSaid : Prop := vmSendsRow.holds Try.pinned (OpenSpec.ofChange vmSendsSpec)

/-- ITS FALSE NEIGHBOUR: 'it returns false'. Refute it at one input. -/
def vmSendsWrong : ChangeSpec := { name := "vmSends", fn := fun _ => fun
  | [d1, d2] => { results := [.lit (.bool false)], args := [d1, d2] }
  | _ => none }
def VmSendsWrongFalsely : Prop := vmSendsRow.holds Try.pinned (OpenSpec.ofChange vmSendsWrong)

/-- 'longeronlaw17.VmOwn': WHATEVER THE INPUT: true; the input reads as it did. -/
def vmOwnSpec : ChangeSpec := { name := "vmOwn", fn := fun _ => fun
  | [d1, d2] => { results := [.lit (.bool true)], args := [d1, d2] }
  | _ => none }
def vmOwnRow : OpenClaim := { program := "ytidlahljhgglcaa", sum := "3828030fde47a20bbe9214941f6fb3afb2acded674032bbdae78f0b90cb8cbbd", func := "longeron/longeronlaw17.VmOwn", spec := "vmOwn", unfollowed := true, recurses := true, apart := false }
def VmOwnSaid : Prop := vmOwnRow.holds Try.pinned (OpenSpec.ofChange vmOwnSpec)

/-- ITS FALSE NEIGHBOUR: 'it returns false'. Refute it at one input. -/
def vmOwnWrong : ChangeSpec := { name := "vmOwn", fn := fun _ => fun
  | [d1, d2] => { results := [.lit (.bool false)], args := [d1, d2] }
  | _ => none }
def VmOwnWrongFalsely : Prop := vmOwnRow.holds Try.pinned (OpenSpec.ofChange vmOwnWrong)

/-- 'longeronlaw17.VmNil': WHATEVER THE INPUT: true; the input reads as it did. -/
def vmNilSpec : ChangeSpec := { name := "vmNil", fn := fun _ => fun
  | [d] => { results := [.lit (.bool true)], args := [d] }
  | _ => none }
def vmNilRow : OpenClaim := { program := "ytidlahljhgglcaa", sum := "3828030fde47a20bbe9214941f6fb3afb2acded674032bbdae78f0b90cb8cbbd", func := "longeron/longeronlaw17.VmNil", spec := "vmNil", unfollowed := true, recurses := true, apart := false }
def VmNilSaid : Prop := vmNilRow.holds Try.pinned (OpenSpec.ofChange vmNilSpec)

/-- ITS FALSE NEIGHBOUR: 'it returns false'. Refute it at one input. -/
def vmNilWrong : ChangeSpec := { name := "vmNil", fn := fun _ => fun
  | [d] => { results := [.lit (.bool false)], args := [d] }
  | _ => none }
def VmNilWrongFalsely : Prop := vmNilRow.holds Try.pinned (OpenSpec.ofChange vmNilWrong)

/-- 'longeronlaw17.VmRuns': WHATEVER THE INPUT: true; the input reads as it did. -/
def vmRunsSpec : ChangeSpec := { name := "vmRuns", fn := fun _ => fun
  | [d1, d2, d3] => { results := [.lit (.bool true)], args := [d1, d2, d3] }
  | _ => none }
def vmRunsRow : OpenClaim := { program := "ytidlahljhgglcaa", sum := "3828030fde47a20bbe9214941f6fb3afb2acded674032bbdae78f0b90cb8cbbd", func := "longeron/longeronlaw17.VmRuns", spec := "vmRuns", unfollowed := true, recurses := true, apart := false }
def VmRunsSaid : Prop := vmRunsRow.holds Try.pinned (OpenSpec.ofChange vmRunsSpec)

/-- ITS FALSE NEIGHBOUR: 'it returns false'. Refute it at one input. -/
def vmRunsWrong : ChangeSpec := { name := "vmRuns", fn := fun _ => fun
  | [d1, d2, d3] => { results := [.lit (.bool false)], args := [d1, d2, d3] }
  | _ => none }
def VmRunsWrongFalsely : Prop := vmRunsRow.holds Try.pinned (OpenSpec.ofChange vmRunsWrong)

/-- 'longeronlaw23.PartAnew': WHATEVER THE INPUT: true; the input reads as it did. -/
def partAnewSpec : ChangeSpec := { name := "partAnew", fn := fun _ => fun
  | [d1, d2] => { results := [.lit (.bool true)], args := [d1, d2] }
  | _ => none }
def partAnewRow : OpenClaim := { program := "ytidlahljhgglcaa", sum := "3828030fde47a20bbe9214941f6fb3afb2acded674032bbdae78f0b90cb8cbbd", func := "longeron/longeronlaw23.PartAnew", spec := "partAnew", unfollowed := true, recurses := true, apart := false }
def PartAnewSaid : Prop := partAnewRow.holds Try.pinned (OpenSpec.ofChange partAnewSpec)

/-- ITS FALSE NEIGHBOUR: 'it returns false'. Refute it at one input. -/
def partAnewWrong : ChangeSpec := { name := "partAnew", fn := fun _ => fun
  | [d1, d2] => { results := [.lit (.bool false)], args := [d1, d2] }
  | _ => none }
def PartAnewWrongFalsely : Prop := partAnewRow.holds Try.pinned (OpenSpec.ofChange partAnewWrong)

/-- 'longeronlaw23.PartNil': WHATEVER THE INPUT: true; the input reads as it did. -/
def partNilSpec : ChangeSpec := { name := "partNil", fn := fun _ => fun
  | [d] => { results := [.lit (.bool true)], args := [d] }
  | _ => none }
def partNilRow : OpenClaim := { program := "ytidlahljhgglcaa", sum := "3828030fde47a20bbe9214941f6fb3afb2acded674032bbdae78f0b90cb8cbbd", func := "longeron/longeronlaw23.PartNil", spec := "partNil", unfollowed := true, recurses := true, apart := false }
def PartNilSaid : Prop := partNilRow.holds Try.pinned (OpenSpec.ofChange partNilSpec)

/-- ITS FALSE NEIGHBOUR: 'it returns false'. Refute it at one input. -/
def partNilWrong : ChangeSpec := { name := "partNil", fn := fun _ => fun
  | [d] => { results := [.lit (.bool false)], args := [d] }
  | _ => none }
def PartNilWrongFalsely : Prop := partNilRow.holds Try.pinned (OpenSpec.ofChange partNilWrong)

/-- 'longeronlaw23.PartStops': WHATEVER THE INPUT: true; the input reads as it did. -/
def partStopsSpec : ChangeSpec := { name := "partStops", fn := fun _ => fun
  | [d1, d2] => { results := [.lit (.bool true)], args := [d1, d2] }
  | _ => none }
def partStopsRow : OpenClaim := { program := "ytidlahljhgglcaa", sum := "3828030fde47a20bbe9214941f6fb3afb2acded674032bbdae78f0b90cb8cbbd", func := "longeron/longeronlaw23.PartStops", spec := "partStops", unfollowed := true, recurses := true, apart := false }
def PartStopsSaid : Prop := partStopsRow.holds Try.pinned (OpenSpec.ofChange partStopsSpec)

/-- ITS FALSE NEIGHBOUR: 'it returns false'. Refute it at one input. -/
def partStopsWrong : ChangeSpec := { name := "partStops", fn := fun _ => fun
  | [d1, d2] => { results := [.lit (.bool false)], args := [d1, d2] }
  | _ => none }
def PartStopsWrongFalsely : Prop := partStopsRow.holds Try.pinned (OpenSpec.ofChange partStopsWrong)

/- THE SECOND FORM. 'bulk': how many values and letters a reading holds, each counted each time it is reached (what is shared counts as often as it is met; a slice's spare places count too). A statement '..UptoSaid' is the law's where the arguments, and the package variables that the reading takes, are together of bulk at most 1048576: NARROWER than '..Said'. Prove '..Said' where nothing that the law and all that it calls make is longer than what came in: it says more and counts as full. Else prove '..UptoSaid'. A law counts once. -/
mutual
def uptoBulk {H : Type} : DataW H → Nat
  | .lit (.string bytes) => bytes.length + 1
  | .lit _ => 1
  | .nil => 1
  | .ptr d => uptoBulk d + 1
  | .slice elems spare => uptoBulkAll elems + uptoBulkAll spare + 1
  | .agg parts => uptoBulkAll parts + 1
  | .iface _ d => uptoBulk d + 1
  | .map entries => uptoBulkEntries entries + 1
  | .held _ => 1
def uptoBulkAll {H : Type} : List (DataW H) → Nat
  | [] => 0
  | d :: r => uptoBulk d + uptoBulkAll r
def uptoBulkEntries {H : Type} : List (Lit × DataW H) → Nat
  | [] => 0
  | x :: r => uptoBulkEntry x + uptoBulkEntries r
def uptoBulkEntry {H : Type} : Lit × DataW H → Nat
  | (.string bytes, d) => bytes.length + uptoBulk d + 1
  | (_, d) => uptoBulk d + 1
 end
def uptoSmall : (H : Type) → List (DataW H) → Bool := fun _ ds => decide (uptoBulkAll ds ≤ 1048576)
def OpenSpec.upto (s : _root_.Go.ChangeSpec) : _root_.Go.OpenSpec := { _root_.Go.OpenSpec.ofChange s with cond := some uptoSmall }

/-- 'longeronlaw17.VmBounds', WHERE WHAT IT READS IS OF BULK AT MOST 1048576: true; the input reads as it did. -/
def vmBoundsUptoRow : OpenClaim := { program := "ytidlahljhgglcaa", sum := "3828030fde47a20bbe9214941f6fb3afb2acded674032bbdae78f0b90cb8cbbd", func := "longeron/longeronlaw17.VmBounds", spec := "vmBounds", unfollowed := true, recurses := true, apart := false, narrowed := true }
def VmBoundsUptoSaid : Prop := vmBoundsUptoRow.holds Try.pinned (OpenSpec.upto vmBoundsSpec)

/-- 'longeronlaw17.VmSends', WHERE WHAT IT READS IS OF BULK AT MOST 1048576: true; the input reads as it did. -/
def vmSendsUptoRow : OpenClaim := { program := "ytidlahljhgglcaa", sum := "3828030fde47a20bbe9214941f6fb3afb2acded674032bbdae78f0b90cb8cbbd", func := "longeron/longeronlaw17.VmSends", spec := "vmSends", unfollowed := true, recurses := true, apart := false, narrowed := true }
def VmSendsUptoSaid : Prop := vmSendsUptoRow.holds Try.pinned (OpenSpec.upto vmSendsSpec)

/-- 'longeronlaw17.VmOwn', WHERE WHAT IT READS IS OF BULK AT MOST 1048576: true; the input reads as it did. -/
def vmOwnUptoRow : OpenClaim := { program := "ytidlahljhgglcaa", sum := "3828030fde47a20bbe9214941f6fb3afb2acded674032bbdae78f0b90cb8cbbd", func := "longeron/longeronlaw17.VmOwn", spec := "vmOwn", unfollowed := true, recurses := true, apart := false, narrowed := true }
def VmOwnUptoSaid : Prop := vmOwnUptoRow.holds Try.pinned (OpenSpec.upto vmOwnSpec)

/-- 'longeronlaw17.VmNil', WHERE WHAT IT READS IS OF BULK AT MOST 1048576: true; the input reads as it did. -/
def vmNilUptoRow : OpenClaim := { program := "ytidlahljhgglcaa", sum := "3828030fde47a20bbe9214941f6fb3afb2acded674032bbdae78f0b90cb8cbbd", func := "longeron/longeronlaw17.VmNil", spec := "vmNil", unfollowed := true, recurses := true, apart := false, narrowed := true }
def VmNilUptoSaid : Prop := vmNilUptoRow.holds Try.pinned (OpenSpec.upto vmNilSpec)

/-- 'longeronlaw17.VmRuns', WHERE WHAT IT READS IS OF BULK AT MOST 1048576: true; the input reads as it did. -/
def vmRunsUptoRow : OpenClaim := { program := "ytidlahljhgglcaa", sum := "3828030fde47a20bbe9214941f6fb3afb2acded674032bbdae78f0b90cb8cbbd", func := "longeron/longeronlaw17.VmRuns", spec := "vmRuns", unfollowed := true, recurses := true, apart := false, narrowed := true }
def VmRunsUptoSaid : Prop := vmRunsUptoRow.holds Try.pinned (OpenSpec.upto vmRunsSpec)

/-- 'longeronlaw23.PartAnew', WHERE WHAT IT READS IS OF BULK AT MOST 1048576: true; the input reads as it did. -/
def partAnewUptoRow : OpenClaim := { program := "ytidlahljhgglcaa", sum := "3828030fde47a20bbe9214941f6fb3afb2acded674032bbdae78f0b90cb8cbbd", func := "longeron/longeronlaw23.PartAnew", spec := "partAnew", unfollowed := true, recurses := true, apart := false, narrowed := true }
def PartAnewUptoSaid : Prop := partAnewUptoRow.holds Try.pinned (OpenSpec.upto partAnewSpec)

/-- 'longeronlaw23.PartNil', WHERE WHAT IT READS IS OF BULK AT MOST 1048576: true; the input reads as it did. -/
def partNilUptoRow : OpenClaim := { program := "ytidlahljhgglcaa", sum := "3828030fde47a20bbe9214941f6fb3afb2acded674032bbdae78f0b90cb8cbbd", func := "longeron/longeronlaw23.PartNil", spec := "partNil", unfollowed := true, recurses := true, apart := false, narrowed := true }
def PartNilUptoSaid : Prop := partNilUptoRow.holds Try.pinned (OpenSpec.upto partNilSpec)

/-- 'longeronlaw23.PartStops', WHERE WHAT IT READS IS OF BULK AT MOST 1048576: true; the input reads as it did. -/
def partStopsUptoRow : OpenClaim := { program := "ytidlahljhgglcaa", sum := "3828030fde47a20bbe9214941f6fb3afb2acded674032bbdae78f0b90cb8cbbd", func := "longeron/longeronlaw23.PartStops", spec := "partStops", unfollowed := true, recurses := true, apart := false, narrowed := true }
def PartStopsUptoSaid : Prop := partStopsUptoRow.holds Try.pinned (OpenSpec.upto partStopsSpec)

end Rows
end Go.Proofs.Ytidlahljhgglcaa
