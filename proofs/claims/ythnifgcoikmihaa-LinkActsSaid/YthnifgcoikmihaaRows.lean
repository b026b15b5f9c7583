/-
  No cell of these rows narrows 'for every input' (looked for: loops, veiled, ifaces, maps, wideKeys, modest, calm, conditions, laid).
  DERIVED. THE GIVEN ROWS OF THIS SEAT. 9 by the template 'for every input the law returns true; each argument reads behind the call as it read before'; 0 by the template 'total and deterministic' (their statements: YthnifgcoikmihaaTotals.lean).
  GIVEN WITH THE SEED: the statements are not yours to turn. If you find one false, say at which input.
  Laid BY PROGRAM, IN A SANDBOX (cutbox-rows.mjs): the forced cells as the released guide's own fill.sh prints them over the translation 17b305f5105423f8… (all of the seat's roots in one cut). By AI agents, Wed Nov 11 2026. No macro, syntax, notation, axiom, sorry.
-/
import Derived.Test.YthnifgcoikmihaaChecked
import GoSem.Claim
import GoSem.ClaimJoined
import GoSem.ClaimMapViews
import Derived.JoinedTies
import Derived.KernelRfl
namespace Go.Proofs.Ythnifgcoikmihaa
/- THE CELL 'sum', in the pinned program and in every row, IS THE sha256 OF THE DUMP (.gsa) THAT YthnifgcoikmihaaProg.lean LOADS. Nothing in Lean hashes anything: it is a label: what it is worth is what the hold of that sum in a sandbox is worth. -/
noncomputable def Try.pinned : Pinned := { name := "ythnifgcoikmihaa", sum := "17b305f5105423f8dc4ec2d8ff503829d988c15a40ec07db4a92feee07d4a9ed", checked := Try.checked }
namespace Rows
def none {H : Type} : Left H := { results := [], args := [] }

/-- 'longeronlaw20.LinkOrder': WHATEVER THE INPUT: true; the input reads as it did. -/
def linkOrderSpec : ChangeSpec := { name := "linkOrder", fn := fun _ => fun
  | [d1, d2] => { results := [.lit (.bool true)], args := [d1, d2] }
  | _ => none }
def linkOrderRow : OpenClaim := { program := "ythnifgcoikmihaa", sum := "17b305f5105423f8dc4ec2d8ff503829d988c15a40ec07db4a92feee07d4a9ed", func := "longeron/longeronlaw20.LinkOrder", spec := "linkOrder", apart := false }
def LinkOrderSaid : Prop := linkOrderRow.holds Try.pinned (OpenSpec.ofChange linkOrderSpec)

/-- ITS FALSE NEIGHBOUR: 'it returns false'. Refute it at one input. -/
def linkOrderWrong : ChangeSpec := { name := "linkOrder", fn := fun _ => fun
  | [d1, d2] => { results := [.lit (.bool false)], args := [d1, d2] }
  | _ => none }
def LinkOrderWrongFalsely : Prop := linkOrderRow.holds Try.pinned (OpenSpec.ofChange linkOrderWrong)

/-- 'longeronlaw20.LinkFull': WHATEVER THE INPUT: true; the input reads as it did. -/
def linkFullSpec : ChangeSpec := { name := "linkFull", fn := fun _ => fun
  | [d1, d2] => { results := [.lit (.bool true)], args := [d1, d2] }
  | _ => none }
def linkFullRow : OpenClaim := { program := "ythnifgcoikmihaa", sum := "17b305f5105423f8dc4ec2d8ff503829d988c15a40ec07db4a92feee07d4a9ed", func := "longeron/longeronlaw20.LinkFull", spec := "linkFull", apart := false }
def LinkFullSaid : Prop := linkFullRow.holds Try.pinned (OpenSpec.ofChange linkFullSpec)

/-- ITS FALSE NEIGHBOUR: 'it returns false'. Refute it at one input. -/
def linkFullWrong : ChangeSpec := { name := "linkFull", fn := fun _ => fun
  | [d1, d2] => { results := [.lit (.bool false)], args := [d1, d2] }
  | _ => none }
def LinkFullWrongFalsely : Prop := linkFullRow.holds Try.pinned (OpenSpec.ofChange linkFullWrong)

/-- 'longeronlaw20.LinkSwaps': WHATEVER THE INPUT: true; the input reads as it did. -/
def linkSwapsSpec : ChangeSpec := { name := "linkSwaps", fn := fun _ => fun
  | [d1, d2, d3] => { results := [.lit (.bool true)], args := [d1, d2, d3] }
  | _ => none }
def linkSwapsRow : OpenClaim := { program := "ythnifgcoikmihaa", sum := "17b305f5105423f8dc4ec2d8ff503829d988c15a40ec07db4a92feee07d4a9ed", func := "longeron/longeronlaw20.LinkSwaps", spec := "linkSwaps", apart := false }
def LinkSwapsSaid : Prop := linkSwapsRow.holds Try.pinned (OpenSpec.ofChange linkSwapsSpec)

/-- ITS FALSE NEIGHBOUR: 'it returns false'. Refute it at one input. -/
def linkSwapsWrong : ChangeSpec := { name := "linkSwaps", fn := fun _ => fun
  | [d1, d2, d3] => { results := [.lit (.bool false)], args := [d1, d2, d3] }
  | _ => none }
def LinkSwapsWrongFalsely : Prop := linkSwapsRow.holds Try.pinned (OpenSpec.ofChange linkSwapsWrong)

/-- 'longeronlaw20.LinkActs': WHATEVER THE INPUT: true; the input reads as it did. -/
def linkActsSpec : ChangeSpec := { name := "linkActs", fn := fun _ => fun
  | [d] => { results := [.lit (.bool true)], args := [d] }
  | _ => none }
def linkActsRow : OpenClaim := { program := "ythnifgcoikmihaa", sum := "17b305f5105423f8dc4ec2d8ff503829d988c15a40ec07db4a92feee07d4a9ed", func := "longeron/longeronlaw20.LinkActs", spec := "linkActs", apart := false }
def LinkActsSaid : Prop := linkActsRow.holds Try.pinned (OpenSpec.ofChange linkActsSpec)

/-- ITS FALSE NEIGHBOUR: 'it returns false'. Refute it at one input. -/
def linkActsWrong : ChangeSpec := { name := "linkActs", fn := fun _ => fun
  | [d] => { results := [.lit (.bool false)], args := [d] }
  | _ => none }
def LinkActsWrongFalsely : Prop := linkActsRow.holds Try.pinned (OpenSpec.ofChange linkActsWrong)

/-- 'longeronlaw20.LinkNil': WHATEVER THE INPUT: true; the input reads as it did. -/
def linkNilSpec : ChangeSpec := { name := "linkNil", fn := fun _ => fun
  | [d1, d2] => { results := [.lit (.bool true)], args := [d1, d2] }
  | _ => none }
def linkNilRow : OpenClaim := { program := "ythnifgcoikmihaa", sum := "17b305f5105423f8dc4ec2d8ff503829d988c15a40ec07db4a92feee07d4a9ed", func := "longeron/longeronlaw20.LinkNil", spec := "linkNil", apart := false }
def LinkNilSaid : Prop := linkNilRow.holds Try.pinned (OpenSpec.ofChange linkNilSpec)

/-- ITS FALSE NEIGHBOUR: 'it returns false'. Refute it at one input. -/
def linkNilWrong : ChangeSpec := { name := "linkNil", fn := fun _ => fun
  | [d1, d2] => { results := [.lit (.bool false)], args := [d1, d2] }
  | _ => none }
def LinkNilWrongFalsely : Prop := linkNilRow.holds Try.pinned (OpenSpec.ofChange linkNilWrong)

/-- 'longeronlaw13.CompatChannels': WHATEVER THE INPUT: true; the input reads as it did. -/
def compatChannelsSpec : ChangeSpec := { name := "compatChannels", fn := fun _ => fun
  | [d1, d2] => { results := [.lit (.bool true)], args := [d1, d2] }
  | _ => none }
def compatChannelsRow : OpenClaim := { program := "ythnifgcoikmihaa", sum := "17b305f5105423f8dc4ec2d8ff503829d988c15a40ec07db4a92feee07d4a9ed", func := "longeron/longeronlaw13.CompatChannels", spec := "compatChannels", unfollowed := true, recurses := true, apart := false }
def CompatChannelsSaid : Prop := compatChannelsRow.holds Try.pinned (OpenSpec.ofChange compatChannelsSpec)

/-- ITS FALSE NEIGHBOUR: 'it returns false'. Refute it at one input. -/
def compatChannelsWrong : ChangeSpec := { name := "compatChannels", fn := fun _ => fun
  | [d1, d2] => { results := [.lit (.bool false)], args := [d1, d2] }
  | _ => none }
def CompatChannelsWrongFalsely : Prop := compatChannelsRow.holds Try.pinned (OpenSpec.ofChange compatChannelsWrong)

/-- 'longeronlaw13.CompatWider': WHATEVER THE INPUT: true; the input reads as it did. -/
def compatWiderSpec : ChangeSpec := { name := "compatWider", fn := fun _ => fun
  | [d1, d2, d3] => { results := [.lit (.bool true)], args := [d1, d2, d3] }
  | _ => none }
def compatWiderRow : OpenClaim := { program := "ythnifgcoikmihaa", sum := "17b305f5105423f8dc4ec2d8ff503829d988c15a40ec07db4a92feee07d4a9ed", func := "longeron/longeronlaw13.CompatWider", spec := "compatWider", unfollowed := true, recurses := true, apart := false }
def CompatWiderSaid : Prop := compatWiderRow.holds Try.pinned (OpenSpec.ofChange compatWiderSpec)

/-- ITS FALSE NEIGHBOUR: 'it returns false'. Refute it at one input. -/
def compatWiderWrong : ChangeSpec := { name := "compatWider", fn := fun _ => fun
  | [d1, d2, d3] => { results := [.lit (.bool false)], args := [d1, d2, d3] }
  | _ => none }
def CompatWiderWrongFalsely : Prop := compatWiderRow.holds Try.pinned (OpenSpec.ofChange compatWiderWrong)

/-- 'longeronlaw13.CompatChecks': WHATEVER THE INPUT: true; the input reads as it did. -/
def compatChecksSpec : ChangeSpec := { name := "compatChecks", fn := fun _ => fun
  | [d1, d2, d3] => { results := [.lit (.bool true)], args := [d1, d2, d3] }
  | _ => none }
def compatChecksRow : OpenClaim := { program := "ythnifgcoikmihaa", sum := "17b305f5105423f8dc4ec2d8ff503829d988c15a40ec07db4a92feee07d4a9ed", func := "longeron/longeronlaw13.CompatChecks", spec := "compatChecks", unfollowed := true, recurses := true, apart := false }
def CompatChecksSaid : Prop := compatChecksRow.holds Try.pinned (OpenSpec.ofChange compatChecksSpec)

/-- ITS FALSE NEIGHBOUR: 'it returns false'. Refute it at one input. -/
def compatChecksWrong : ChangeSpec := { name := "compatChecks", fn := fun _ => fun
  | [d1, d2, d3] => { results := [.lit (.bool false)], args := [d1, d2, d3] }
  | _ => none }
def CompatChecksWrongFalsely : Prop := compatChecksRow.holds Try.pinned (OpenSpec.ofChange compatChecksWrong)

/-- 'longeronlaw13.CompatNewer': WHATEVER THE INPUT: true; the input reads as it did. -/
def compatNewerSpec : ChangeSpec := { name := "compatNewer", fn := fun _ => fun
  | [d1, d2, d3] => { results := [.lit (.bool true)], args := [d1, d2, d3] }
  | _ => none }
def compatNewerRow : OpenClaim := { program := "ythnifgcoikmihaa", sum := "17b305f5105423f8dc4ec2d8ff503829d988c15a40ec07db4a92feee07d4a9ed", func := "longeron/longeronlaw13.CompatNewer", spec := "compatNewer", unfollowed := true, recurses := true, apart := false }
def CompatNewerSaid : Prop := compatNewerRow.holds Try.pinned (OpenSpec.ofChange compatNewerSpec)

/-- ITS FALSE NEIGHBOUR: 'it returns false'. Refute it at one input. -/
def compatNewerWrong : ChangeSpec := { name := "compatNewer", fn := fun _ => fun
  | [d1, d2, d3] => { results := [.lit (.bool false)], args := [d1, d2, d3] }
  | _ => none }
def CompatNewerWrongFalsely : Prop := compatNewerRow.holds Try.pinned (OpenSpec.ofChange compatNewerWrong)

/- THE SECOND FORM. 'bulk': how many values and letters a reading holds, each counted each time it is reached (what is shared counts as often as it is met; a slice's spare places count too). A statement '..UptoSaid' is the law's where the arguments, and the package variables that the reading takes, are together of bulk at most 1048576: NARROWER than '..Said'. Prove '..Said' where nothing that the law and all that it calls make is longer than what came in: it says more and counts as full. Else prove '..UptoSaid'. A law counts once. -/
mutual
def uptoBulk {H : Type} : DataW H → Nat
  | .lit (.string bytes) => bytes.length + 1
  | .lit _ => 1
  | .nil => 1
  | .ptr d => uptoBulk d + 1
  | .slice elems spare => uptoBulkAll elems + uptoBulkAll spare + 1
  | .agg parts => uptoBulkAll parts + 1
  | .iface _ d => uptoBulk d + 1
  | .map entries => uptoBulkEntries entries + 1
  | .held _ => 1
def uptoBulkAll {H : Type} : List (DataW H) → Nat
  | [] => 0
  | d :: r => uptoBulk d + uptoBulkAll r
def uptoBulkEntries {H : Type} : List (Lit × DataW H) → Nat
  | [] => 0
  | x :: r => uptoBulkEntry x + uptoBulkEntries r
def uptoBulkEntry {H : Type} : Lit × DataW H → Nat
  | (.string bytes, d) => bytes.length + uptoBulk d + 1
  | (_, d) => uptoBulk d + 1
 end
def uptoSmall : (H : Type) → List (DataW H) → Bool := fun _ ds => decide (uptoBulkAll ds ≤ 1048576)
def OpenSpec.upto (s : _root_.Go.ChangeSpec) : _root_.Go.OpenSpec := { _root_.Go.OpenSpec.ofChange s with cond := some uptoSmall }

/-- 'longeronlaw20.LinkOrder', WHERE WHAT IT READS IS OF BULK AT MOST 1048576: true; the input reads as it did. -/
def linkOrderUptoRow : OpenClaim := { program := "ythnifgcoikmihaa", sum := "17b305f5105423f8dc4ec2d8ff503829d988c15a40ec07db4a92feee07d4a9ed", func := "longeron/longeronlaw20.LinkOrder", spec := "linkOrder", apart := false, narrowed := true }
def LinkOrderUptoSaid : Prop := linkOrderUptoRow.holds Try.pinned (OpenSpec.upto linkOrderSpec)

/-- 'longeronlaw20.LinkFull', WHERE WHAT IT READS IS OF BULK AT MOST 1048576: true; the input reads as it did. -/
def linkFullUptoRow : OpenClaim := { program := "ythnifgcoikmihaa", sum := "17b305f5105423f8dc4ec2d8ff503829d988c15a40ec07db4a92feee07d4a9ed", func := "longeron/longeronlaw20.LinkFull", spec := "linkFull", apart := false, narrowed := true }
def LinkFullUptoSaid : Prop := linkFullUptoRow.holds Try.pinned (OpenSpec.upto linkFullSpec)

/-- 'longeronlaw20.LinkSwaps', WHERE WHAT IT READS IS OF BULK AT MOST 1048576: true; the input reads as it did. -/
def linkSwapsUptoRow : OpenClaim := { program := "ythnifgcoikmihaa", sum := "17b305f5105423f8dc4ec2d8ff503829d988c15a40ec07db4a92feee07d4a9ed", func := "longeron/longeronlaw20.LinkSwaps", spec := "linkSwaps", apart := false, narrowed := true }
def LinkSwapsUptoSaid : Prop := linkSwapsUptoRow.holds Try.pinned (OpenSpec.upto linkSwapsSpec)

/-- 'longeronlaw20.LinkActs', WHERE WHAT IT READS IS OF BULK AT MOST 1048576: true; the input reads as it did. -/
def linkActsUptoRow : OpenClaim := { program := "ythnifgcoikmihaa", sum := "17b305f5105423f8dc4ec2d8ff503829d988c15a40ec07db4a92feee07d4a9ed", func := "longeron/longeronlaw20.LinkActs", spec := "linkActs", apart := false, narrowed := true }
def LinkActsUptoSaid : Prop := linkActsUptoRow.holds Try.pinned (OpenSpec.upto linkActsSpec)

/-- 'longeronlaw20.LinkNil', WHERE WHAT IT READS IS OF BULK AT MOST 1048576: true; the input reads as it did. -/
def linkNilUptoRow : OpenClaim := { program := "ythnifgcoikmihaa", sum := "17b305f5105423f8dc4ec2d8ff503829d988c15a40ec07db4a92feee07d4a9ed", func := "longeron/longeronlaw20.LinkNil", spec := "linkNil", apart := false, narrowed := true }
def LinkNilUptoSaid : Prop := linkNilUptoRow.holds Try.pinned (OpenSpec.upto linkNilSpec)

/-- 'longeronlaw13.CompatChannels', WHERE WHAT IT READS IS OF BULK AT MOST 1048576: true; the input reads as it did. -/
def compatChannelsUptoRow : OpenClaim := { program := "ythnifgcoikmihaa", sum := "17b305f5105423f8dc4ec2d8ff503829d988c15a40ec07db4a92feee07d4a9ed", func := "longeron/longeronlaw13.CompatChannels", spec := "compatChannels", unfollowed := true, recurses := true, apart := false, narrowed := true }
def CompatChannelsUptoSaid : Prop := compatChannelsUptoRow.holds Try.pinned (OpenSpec.upto compatChannelsSpec)

/-- 'longeronlaw13.CompatWider', WHERE WHAT IT READS IS OF BULK AT MOST 1048576: true; the input reads as it did. -/
def compatWiderUptoRow : OpenClaim := { program := "ythnifgcoikmihaa", sum := "17b305f5105423f8dc4ec2d8ff503829d988c15a40ec07db4a92feee07d4a9ed", func := "longeron/longeronlaw13.CompatWider", spec := "compatWider", unfollowed := true, recurses := true, apart := false, narrowed := true }
def CompatWiderUptoSaid : Prop := compatWiderUptoRow.holds Try.pinned (OpenSpec.upto compatWiderSpec)

/-- 'longeronlaw13.CompatChecks', WHERE WHAT IT READS IS OF BULK AT MOST 1048576: true; the input reads as it did. -/
def compatChecksUptoRow : OpenClaim := { program := "ythnifgcoikmihaa", sum := "17b305f5105423f8dc4ec2d8ff503829d988c15a40ec07db4a92feee07d4a9ed", func := "longeron/longeronlaw13.CompatChecks", spec := "compatChecks", unfollowed := true, recurses := true, apart := false, narrowed := true }
def CompatChecksUptoSaid : Prop := compatChecksUptoRow.holds Try.pinned (OpenSpec.upto compatChecksSpec)

/-- 'longeronlaw13.CompatNewer', WHERE WHAT IT READS IS OF BULK AT MOST 1048576: true; the input reads as it did. -/
def compatNewerUptoRow : OpenClaim := { program := "ythnifgcoikmihaa", sum := "17b305f5105423f8dc4ec2d8ff503829d988c15a40ec07db4a92feee07d4a9ed", func := "longeron/longeronlaw13.CompatNewer", spec := "compatNewer", unfollowed := true, recurses := true, apart := false, narrowed := true }
def CompatNewerUptoSaid : Prop := compatNewerUptoRow.holds Try.pinned (OpenSpec.upto compatNewerSpec)

end Rows
end Go.Proofs.Ythnifgcoikmihaa
