/-
  No cell of these rows narrows 'for every input' (looked for: loops, veiled, ifaces, maps, wideKeys, modest, calm, conditions, laid).
  DERIVED. THE GIVEN ROWS OF THIS SEAT. 11 by the template 'for every input the law returns true; each argument reads behind the call as it read before'; 0 by the template 'total and deterministic' (their statements: YthipfopmaegpdaaTotals.lean).
  GIVEN WITH THE SEED: the statements are not yours to turn. If you find one false, say at which input.
  Laid BY PROGRAM, IN A SANDBOX (cutbox-rows.mjs): the forced cells as the released guide's own fill.sh prints them over the translation bfb5332ba08adbd3… (all of the seat's roots in one cut). By AI agents, Wed Nov 11 2026. No macro, syntax, notation, axiom, sorry.
-/
import Derived.Test.YthipfopmaegpdaaChecked
import GoSem.Claim
import GoSem.ClaimJoined
import GoSem.ClaimMapViews
import Derived.JoinedTies
import Derived.KernelRfl
namespace Go.Proofs.Ythipfopmaegpdaa
/- THE CELL 'sum', in the pinned program and in every row, IS THE sha256 OF THE DUMP (.gsa) THAT YthipfopmaegpdaaProg.lean LOADS. Nothing in Lean hashes anything: it is a label: what it is worth is what the hold of that sum in a sandbox is worth. -/
noncomputable def Try.pinned : Pinned := { name := "ythipfopmaegpdaa", sum := "bfb5332ba08adbd3a71e78933f02d2c79733e3e71e3f7ff337118299565fe8cd", checked := Try.checked }
namespace Rows
def none {H : Type} : Left H := { results := [], args := [] }

/-- 'longeronlaw08.PduSizes': WHATEVER THE INPUT: true; the input reads as it did. -/
def pduSizesSpec : ChangeSpec := { name := "pduSizes", fn := fun _ => fun
  | [d] => { results := [.lit (.bool true)], args := [d] }
  | _ => none }
def pduSizesRow : OpenClaim := { program := "ythipfopmaegpdaa", sum := "bfb5332ba08adbd3a71e78933f02d2c79733e3e71e3f7ff337118299565fe8cd", func := "longeron/longeronlaw08.PduSizes", spec := "pduSizes", unfollowed := true, recurses := true, apart := false }
def PduSizesSaid : Prop := pduSizesRow.holds Try.pinned (OpenSpec.ofChange pduSizesSpec)

/-- ITS FALSE NEIGHBOUR: 'it returns false'. Refute it at one input. -/
def pduSizesWrong : ChangeSpec := { name := "pduSizes", fn := fun _ => fun
  | [d] => { results := [.lit (.bool false)], args := [d] }
  | _ => none }
def PduSizesWrongFalsely : Prop := pduSizesRow.holds Try.pinned (OpenSpec.ofChange pduSizesWrong)

/-- 'longeronlaw08.PduSame': WHATEVER THE INPUT: true; the input reads as it did. -/
def pduSameSpec : ChangeSpec := { name := "pduSame", fn := fun _ => fun
  | [d1, d2] => { results := [.lit (.bool true)], args := [d1, d2] }
  | _ => none }
def pduSameRow : OpenClaim := { program := "ythipfopmaegpdaa", sum := "bfb5332ba08adbd3a71e78933f02d2c79733e3e71e3f7ff337118299565fe8cd", func := "longeron/longeronlaw08.PduSame", spec := "pduSame", unfollowed := true, recurses := true, apart := false }
def PduSameSaid : Prop := pduSameRow.holds Try.pinned (OpenSpec.ofChange pduSameSpec)

/-- ITS FALSE NEIGHBOUR: 'it returns false'. Refute it at one input. -/
def pduSameWrong : ChangeSpec := { name := "pduSame", fn := fun _ => fun
  | [d1, d2] => { results := [.lit (.bool false)], args := [d1, d2] }
  | _ => none }
def PduSameWrongFalsely : Prop := pduSameRow.holds Try.pinned (OpenSpec.ofChange pduSameWrong)

/-- 'longeronlaw16.PortOrder': WHATEVER THE INPUT: true; the input reads as it did. -/
def portOrderSpec : ChangeSpec := { name := "portOrder", fn := fun _ => fun
  | [d1, d2] => { results := [.lit (.bool true)], args := [d1, d2] }
  | _ => none }
def portOrderRow : OpenClaim := { program := "ythipfopmaegpdaa", sum := "bfb5332ba08adbd3a71e78933f02d2c79733e3e71e3f7ff337118299565fe8cd", func := "longeron/longeronlaw16.PortOrder", spec := "portOrder", unfollowed := true, recurses := true, apart := false }
def PortOrderSaid : Prop := portOrderRow.holds Try.pinned (OpenSpec.ofChange portOrderSpec)

/-- ITS FALSE NEIGHBOUR: 'it returns false'. Refute it at one input. -/
def portOrderWrong : ChangeSpec := { name := "portOrder", fn := fun _ => fun
  | [d1, d2] => { results := [.lit (.bool false)], args := [d1, d2] }
  | _ => none }
def PortOrderWrongFalsely : Prop := portOrderRow.holds Try.pinned (OpenSpec.ofChange portOrderWrong)

/-- 'longeronlaw16.PortBounds': WHATEVER THE INPUT: true; the input reads as it did. -/
def portBoundsSpec : ChangeSpec := { name := "portBounds", fn := fun _ => fun
  | [d1, d2] => { results := [.lit (.bool true)], args := [d1, d2] }
  | _ => none }
def portBoundsRow : OpenClaim := { program := "ythipfopmaegpdaa", sum := "bfb5332ba08adbd3a71e78933f02d2c79733e3e71e3f7ff337118299565fe8cd", func := "longeron/longeronlaw16.PortBounds", spec := "portBounds", unfollowed := true, recurses := true, apart := false }
def PortBoundsSaid : Prop := portBoundsRow.holds Try.pinned (OpenSpec.ofChange portBoundsSpec)

/-- ITS FALSE NEIGHBOUR: 'it returns false'. Refute it at one input. -/
def portBoundsWrong : ChangeSpec := { name := "portBounds", fn := fun _ => fun
  | [d1, d2] => { results := [.lit (.bool false)], args := [d1, d2] }
  | _ => none }
def PortBoundsWrongFalsely : Prop := portBoundsRow.holds Try.pinned (OpenSpec.ofChange portBoundsWrong)

/-- 'longeronlaw16.PortApart': WHATEVER THE INPUT: true; the input reads as it did. -/
def portApartSpec : ChangeSpec := { name := "portApart", fn := fun _ => fun
  | [d1, d2, d3] => { results := [.lit (.bool true)], args := [d1, d2, d3] }
  | _ => none }
def portApartRow : OpenClaim := { program := "ythipfopmaegpdaa", sum := "bfb5332ba08adbd3a71e78933f02d2c79733e3e71e3f7ff337118299565fe8cd", func := "longeron/longeronlaw16.PortApart", spec := "portApart", unfollowed := true, recurses := true, apart := false }
def PortApartSaid : Prop := portApartRow.holds Try.pinned (OpenSpec.ofChange portApartSpec)

/-- ITS FALSE NEIGHBOUR: 'it returns false'. Refute it at one input. -/
def portApartWrong : ChangeSpec := { name := "portApart", fn := fun _ => fun
  | [d1, d2, d3] => { results := [.lit (.bool false)], args := [d1, d2, d3] }
  | _ => none }
def PortApartWrongFalsely : Prop := portApartRow.holds Try.pinned (OpenSpec.ofChange portApartWrong)

/-- 'longeronlaw16.PortActs': WHATEVER THE INPUT: true; the input reads as it did. -/
def portActsSpec : ChangeSpec := { name := "portActs", fn := fun _ => fun
  | [d1, d2] => { results := [.lit (.bool true)], args := [d1, d2] }
  | _ => none }
def portActsRow : OpenClaim := { program := "ythipfopmaegpdaa", sum := "bfb5332ba08adbd3a71e78933f02d2c79733e3e71e3f7ff337118299565fe8cd", func := "longeron/longeronlaw16.PortActs", spec := "portActs", unfollowed := true, recurses := true, apart := false }
def PortActsSaid : Prop := portActsRow.holds Try.pinned (OpenSpec.ofChange portActsSpec)

/-- ITS FALSE NEIGHBOUR: 'it returns false'. Refute it at one input. -/
def portActsWrong : ChangeSpec := { name := "portActs", fn := fun _ => fun
  | [d1, d2] => { results := [.lit (.bool false)], args := [d1, d2] }
  | _ => none }
def PortActsWrongFalsely : Prop := portActsRow.holds Try.pinned (OpenSpec.ofChange portActsWrong)

/-- 'longeronlaw16.PortNil': WHATEVER THE INPUT: true; the input reads as it did. -/
def portNilSpec : ChangeSpec := { name := "portNil", fn := fun _ => fun
  | [d1, d2, d3] => { results := [.lit (.bool true)], args := [d1, d2, d3] }
  | _ => none }
def portNilRow : OpenClaim := { program := "ythipfopmaegpdaa", sum := "bfb5332ba08adbd3a71e78933f02d2c79733e3e71e3f7ff337118299565fe8cd", func := "longeron/longeronlaw16.PortNil", spec := "portNil", unfollowed := true, recurses := true, apart := false }
def PortNilSaid : Prop := portNilRow.holds Try.pinned (OpenSpec.ofChange portNilSpec)

/-- ITS FALSE NEIGHBOUR: 'it returns false'. Refute it at one input. -/
def portNilWrong : ChangeSpec := { name := "portNil", fn := fun _ => fun
  | [d1, d2, d3] => { results := [.lit (.bool false)], args := [d1, d2, d3] }
  | _ => none }
def PortNilWrongFalsely : Prop := portNilRow.holds Try.pinned (OpenSpec.ofChange portNilWrong)

/-- 'longeronlaw08.PduGets': WHATEVER THE INPUT: true; the input reads as it did. -/
def pduGetsSpec : ChangeSpec := { name := "pduGets", fn := fun _ => fun
  | [d] => { results := [.lit (.bool true)], args := [d] }
  | _ => none }
def pduGetsRow : OpenClaim := { program := "ythipfopmaegpdaa", sum := "bfb5332ba08adbd3a71e78933f02d2c79733e3e71e3f7ff337118299565fe8cd", func := "longeron/longeronlaw08.PduGets", spec := "pduGets", unfollowed := true, recurses := true, apart := false }
def PduGetsSaid : Prop := pduGetsRow.holds Try.pinned (OpenSpec.ofChange pduGetsSpec)

/-- ITS FALSE NEIGHBOUR: 'it returns false'. Refute it at one input. -/
def pduGetsWrong : ChangeSpec := { name := "pduGets", fn := fun _ => fun
  | [d] => { results := [.lit (.bool false)], args := [d] }
  | _ => none }
def PduGetsWrongFalsely : Prop := pduGetsRow.holds Try.pinned (OpenSpec.ofChange pduGetsWrong)

/-- 'longeronlaw08.PduTurned': WHATEVER THE INPUT: true; the input reads as it did. -/
def pduTurnedSpec : ChangeSpec := { name := "pduTurned", fn := fun _ => fun
  | [d1, d2, d3] => { results := [.lit (.bool true)], args := [d1, d2, d3] }
  | _ => none }
def pduTurnedRow : OpenClaim := { program := "ythipfopmaegpdaa", sum := "bfb5332ba08adbd3a71e78933f02d2c79733e3e71e3f7ff337118299565fe8cd", func := "longeron/longeronlaw08.PduTurned", spec := "pduTurned", unfollowed := true, recurses := true, apart := false }
def PduTurnedSaid : Prop := pduTurnedRow.holds Try.pinned (OpenSpec.ofChange pduTurnedSpec)

/-- ITS FALSE NEIGHBOUR: 'it returns false'. Refute it at one input. -/
def pduTurnedWrong : ChangeSpec := { name := "pduTurned", fn := fun _ => fun
  | [d1, d2, d3] => { results := [.lit (.bool false)], args := [d1, d2, d3] }
  | _ => none }
def PduTurnedWrongFalsely : Prop := pduTurnedRow.holds Try.pinned (OpenSpec.ofChange pduTurnedWrong)

/-- 'longeronlaw08.PduCut': WHATEVER THE INPUT: true; the input reads as it did. -/
def pduCutSpec : ChangeSpec := { name := "pduCut", fn := fun _ => fun
  | [d1, d2, d3] => { results := [.lit (.bool true)], args := [d1, d2, d3] }
  | _ => none }
def pduCutRow : OpenClaim := { program := "ythipfopmaegpdaa", sum := "bfb5332ba08adbd3a71e78933f02d2c79733e3e71e3f7ff337118299565fe8cd", func := "longeron/longeronlaw08.PduCut", spec := "pduCut", unfollowed := true, recurses := true, apart := false }
def PduCutSaid : Prop := pduCutRow.holds Try.pinned (OpenSpec.ofChange pduCutSpec)

/-- ITS FALSE NEIGHBOUR: 'it returns false'. Refute it at one input. -/
def pduCutWrong : ChangeSpec := { name := "pduCut", fn := fun _ => fun
  | [d1, d2, d3] => { results := [.lit (.bool false)], args := [d1, d2, d3] }
  | _ => none }
def PduCutWrongFalsely : Prop := pduCutRow.holds Try.pinned (OpenSpec.ofChange pduCutWrong)

/-- 'longeronlaw08.PduPuts': WHATEVER THE INPUT: true; the input reads as it did. -/
def pduPutsSpec : ChangeSpec := { name := "pduPuts", fn := fun _ => fun
  | [d] => { results := [.lit (.bool true)], args := [d] }
  | _ => none }
def pduPutsRow : OpenClaim := { program := "ythipfopmaegpdaa", sum := "bfb5332ba08adbd3a71e78933f02d2c79733e3e71e3f7ff337118299565fe8cd", func := "longeron/longeronlaw08.PduPuts", spec := "pduPuts", unfollowed := true, recurses := true, apart := false }
def PduPutsSaid : Prop := pduPutsRow.holds Try.pinned (OpenSpec.ofChange pduPutsSpec)

/-- ITS FALSE NEIGHBOUR: 'it returns false'. Refute it at one input. -/
def pduPutsWrong : ChangeSpec := { name := "pduPuts", fn := fun _ => fun
  | [d] => { results := [.lit (.bool false)], args := [d] }
  | _ => none }
def PduPutsWrongFalsely : Prop := pduPutsRow.holds Try.pinned (OpenSpec.ofChange pduPutsWrong)

/- THE SECOND FORM. 'bulk': how many values and letters a reading holds, each counted each time it is reached (what is shared counts as often as it is met; a slice's spare places count too). A statement '..UptoSaid' is the law's where the arguments, and the package variables that the reading takes, are together of bulk at most 1048576: NARROWER than '..Said'. Prove '..Said' where nothing that the law and all that it calls make is longer than what came in: it says more and counts as full. Else prove '..UptoSaid'. A law counts once. -/
mutual
def uptoBulk {H : Type} : DataW H → Nat
  | .lit (.string bytes) => bytes.length + 1
  | .lit _ => 1
  | .nil => 1
  | .ptr d => uptoBulk d + 1
  | .slice elems spare => uptoBulkAll elems + uptoBulkAll spare + 1
  | .agg parts => uptoBulkAll parts + 1
  | .iface _ d => uptoBulk d + 1
  | .map entries => uptoBulkEntries entries + 1
  | .held _ => 1
def uptoBulkAll {H : Type} : List (DataW H) → Nat
  | [] => 0
  | d :: r => uptoBulk d + uptoBulkAll r
def uptoBulkEntries {H : Type} : List (Lit × DataW H) → Nat
  | [] => 0
  | x :: r => uptoBulkEntry x + uptoBulkEntries r
def uptoBulkEntry {H : Type} : Lit × DataW H → Nat
  | (.string bytes, d) => bytes.length + uptoBulk d + 1
  | (_, d) => uptoBulk d + 1
 end
def uptoSmall : (H : Type) → List (DataW H) → Bool := fun _ ds => decide (uptoBulkAll ds ≤ 1048576)
def OpenSpec.upto (s : _root_.Go.ChangeSpec) : _root_.Go.OpenSpec := { _root_.Go.OpenSpec.ofChange s with cond := some uptoSmall }

/-- 'longeronlaw08.PduSizes', WHERE WHAT IT READS IS OF BULK AT MOST 1048576: true; the input reads as it did. -/
def pduSizesUptoRow : OpenClaim := { program := "ythipfopmaegpdaa", sum := "bfb5332ba08adbd3a71e78933f02d2c79733e3e71e3f7ff337118299565fe8cd", func := "longeron/longeronlaw08.PduSizes", spec := "pduSizes", unfollowed := true, recurses := true, apart := false, narrowed := true }
def PduSizesUptoSaid : Prop := pduSizesUptoRow.holds Try.pinned (OpenSpec.upto pduSizesSpec)

/-- 'longeronlaw08.PduSame', WHERE WHAT IT READS IS OF BULK AT MOST 1048576: true; the input reads as it did. -/
def pduSameUptoRow : OpenClaim := { program := "ythipfopmaegpdaa", sum := "bfb5332ba08adbd3a71e78933f02d2c79733e3e71e3f7ff337118299565fe8cd", func := "longeron/longeronlaw08.PduSame", spec := "pduSame", unfollowed := true, recurses := true, apart := false, narrowed := true }
def PduSameUptoSaid : Prop := pduSameUptoRow.holds Try.pinned (OpenSpec.upto pduSameSpec)

/-- 'longeronlaw16.PortOrder', WHERE WHAT IT READS IS OF BULK AT MOST 1048576: true; the input reads as it did. -/
def portOrderUptoRow : OpenClaim := { program := "ythipfopmaegpdaa", sum := "bfb5332ba08adbd3a71e78933f02d2c79733e3e71e3f7ff337118299565fe8cd", func := "longeron/longeronlaw16.PortOrder", spec := "portOrder", unfollowed := true, recurses := true, apart := false, narrowed := true }
def PortOrderUptoSaid : Prop := portOrderUptoRow.holds Try.pinned (OpenSpec.upto portOrderSpec)

/-- 'longeronlaw16.PortBounds', WHERE WHAT IT READS IS OF BULK AT MOST 1048576: true; the input reads as it did. -/
def portBoundsUptoRow : OpenClaim := { program := "ythipfopmaegpdaa", sum := "bfb5332ba08adbd3a71e78933f02d2c79733e3e71e3f7ff337118299565fe8cd", func := "longeron/longeronlaw16.PortBounds", spec := "portBounds", unfollowed := true, recurses := true, apart := false, narrowed := true }
def PortBoundsUptoSaid : Prop := portBoundsUptoRow.holds Try.pinned (OpenSpec.upto portBoundsSpec)

/-- 'longeronlaw16.PortApart', WHERE WHAT IT READS IS OF BULK AT MOST 1048576: true; the input reads as it did. -/
def portApartUptoRow : OpenClaim := { program := "ythipfopmaegpdaa", sum := "bfb5332ba08adbd3a71e78933f02d2c79733e3e71e3f7ff337118299565fe8cd", func := "longeron/longeronlaw16.PortApart", spec := "portApart", unfollowed := true, recurses := true, apart := false, narrowed := true }
def PortApartUptoSaid : Prop := portApartUptoRow.holds Try.pinned (OpenSpec.upto portApartSpec)

/-- 'longeronlaw16.PortActs', WHERE WHAT IT READS IS OF BULK AT MOST 1048576: true; the input reads as it did. -/
def portActsUptoRow : OpenClaim := { program := "ythipfopmaegpdaa", sum := "bfb5332ba08adbd3a71e78933f02d2c79733e3e71e3f7ff337118299565fe8cd", func := "longeron/longeronlaw16.PortActs", spec := "portActs", unfollowed := true, recurses := true, apart := false, narrowed := true }
def PortActsUptoSaid : Prop := portActsUptoRow.holds Try.pinned (OpenSpec.upto portActsSpec)

/-- 'longeronlaw16.PortNil', WHERE WHAT IT READS IS OF BULK AT MOST 1048576: true; the input reads as it did. -/
def portNilUptoRow : OpenClaim := { program := "ythipfopmaegpdaa", sum := "bfb5332ba08adbd3a71e78933f02d2c79733e3e71e3f7ff337118299565fe8cd", func := "longeron/longeronlaw16.PortNil", spec := "portNil", unfollowed := true, recurses := true, apart := false, narrowed := true }
def PortNilUptoSaid : Prop := portNilUptoRow.holds Try.pinned (OpenSpec.upto portNilSpec)

/-- 'longeronlaw08.PduGets', WHERE WHAT IT READS IS OF BULK AT MOST 1048576: true; the input reads as it did. -/
def pduGetsUptoRow : OpenClaim := { program := "ythipfopmaegpdaa", sum := "bfb5332ba08adbd3a71e78933f02d2c79733e3e71e3f7ff337118299565fe8cd", func := "longeron/longeronlaw08.PduGets", spec := "pduGets", unfollowed := true, recurses := true, apart := false, narrowed := true }
def PduGetsUptoSaid : Prop := pduGetsUptoRow.holds Try.pinned (OpenSpec.upto pduGetsSpec)

/-- 'longeronlaw08.PduTurned', WHERE WHAT IT READS IS OF BULK AT MOST 1048576: true; the input reads as it did. -/
def pduTurnedUptoRow : OpenClaim := { program := "ythipfopmaegpdaa", sum := "bfb5332ba08adbd3a71e78933f02d2c79733e3e71e3f7ff337118299565fe8cd", func := "longeron/longeronlaw08.PduTurned", spec := "pduTurned", unfollowed := true, recurses := true, apart := false, narrowed := true }
def PduTurnedUptoSaid : Prop := pduTurnedUptoRow.holds Try.pinned (OpenSpec.upto pduTurnedSpec)

/-- 'longeronlaw08.PduCut', WHERE WHAT IT READS IS OF BULK AT MOST 1048576: true; the input reads as it did. -/
def pduCutUptoRow : OpenClaim := { program := "ythipfopmaegpdaa", sum := "bfb5332ba08adbd3a71e78933f02d2c79733e3e71e3f7ff337118299565fe8cd", func := "longeron/longeronlaw08.PduCut", spec := "pduCut", unfollowed := true, recurses := true, apart := false, narrowed := true }
def PduCutUptoSaid : Prop := pduCutUptoRow.holds Try.pinned (OpenSpec.upto pduCutSpec)

/-- 'longeronlaw08.PduPuts', WHERE WHAT IT READS IS OF BULK AT MOST 1048576: true; the input reads as it did. -/
def pduPutsUptoRow : OpenClaim := { program := "ythipfopmaegpdaa", sum := "bfb5332ba08adbd3a71e78933f02d2c79733e3e71e3f7ff337118299565fe8cd", func := "longeron/longeronlaw08.PduPuts", spec := "pduPuts", unfollowed := true, recurses := true, apart := false, narrowed := true }
def PduPutsUptoSaid : Prop := pduPutsUptoRow.holds Try.pinned (OpenSpec.upto pduPutsSpec)

end Rows
end Go.Proofs.Ythipfopmaegpdaa
