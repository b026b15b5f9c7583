/-
  No cell of these rows narrows 'for every input' (looked for: loops, veiled, ifaces, maps, wideKeys, modest, calm, conditions, laid).
  DERIVED. THE GIVEN ROWS OF THIS SEAT. 12 by the template 'for every input the law returns true; each argument reads behind the call as it read before'; 0 by the template 'total and deterministic' (their statements: YtbnodcenlggcnaaTotals.lean).
  GIVEN WITH THE SEED: the statements are not yours to turn. If you find one false, say at which input.
  Laid BY PROGRAM, IN A SANDBOX (cutbox-rows.mjs): the forced cells as the released guide's own fill.sh prints them over the translation d636f8f2a9e9329e… (all of the seat's roots in one cut). By AI agents, Wed Nov 11 2026. No macro, syntax, notation, axiom, sorry.
-/
import Derived.Test.YtbnodcenlggcnaaChecked
import GoSem.Claim
import GoSem.ClaimJoined
import GoSem.ClaimMapViews
import Derived.JoinedTies
import Derived.KernelRfl
namespace Go.Proofs.Ytbnodcenlggcnaa
/- THE CELL 'sum', in the pinned program and in every row, IS THE sha256 OF THE DUMP (.gsa) THAT YtbnodcenlggcnaaProg.lean LOADS. Nothing in Lean hashes anything: it is a label: what it is worth is what the hold of that sum in a sandbox is worth. -/
noncomputable def Try.pinned : Pinned := { name := "ytbnodcenlggcnaa", sum := "d636f8f2a9e9329e004107750d4757b5d55307939f1f9cfbf31189916fe86a8c", checked := Try.checked }
namespace Rows
def none {H : Type} : Left H := { results := [], args := [] }

/-- 'longeronlaw05.TableNear': WHATEVER THE INPUT: true; the input reads as it did. -/
def tableNearSpec : ChangeSpec := { name := "tableNear", fn := fun _ => fun
  | [d1, d2] => { results := [.lit (.bool true)], args := [d1, d2] }
  | _ => none }
def tableNearRow : OpenClaim := { program := "ytbnodcenlggcnaa", sum := "d636f8f2a9e9329e004107750d4757b5d55307939f1f9cfbf31189916fe86a8c", func := "longeron/longeronlaw05.TableNear", spec := "tableNear", unfollowed := true, recurses := true, apart := false }
def TableNearSaid : Prop := tableNearRow.holds Try.pinned (OpenSpec.ofChange tableNearSpec)

/-- ITS FALSE NEIGHBOUR: 'it returns false'. Refute it at one input. -/
def tableNearWrong : ChangeSpec := { name := "tableNear", fn := fun _ => fun
  | [d1, d2] => { results := [.lit (.bool false)], args := [d1, d2] }
  | _ => none }
def TableNearWrongFalsely : Prop := tableNearRow.holds Try.pinned (OpenSpec.ofChange tableNearWrong)

/-- 'longeronlaw05.TableShares': WHATEVER THE INPUT: true; the input reads as it did. -/
def tableSharesSpec : ChangeSpec := { name := "tableShares", fn := fun _ => fun
  | [d] => { results := [.lit (.bool true)], args := [d] }
  | _ => none }
def tableSharesRow : OpenClaim := { program := "ytbnodcenlggcnaa", sum := "d636f8f2a9e9329e004107750d4757b5d55307939f1f9cfbf31189916fe86a8c", func := "longeron/longeronlaw05.TableShares", spec := "tableShares", unfollowed := true, recurses := true, apart := false }
def TableSharesSaid : Prop := tableSharesRow.holds Try.pinned (OpenSpec.ofChange tableSharesSpec)

/-- ITS FALSE NEIGHBOUR: 'it returns false'. Refute it at one input. -/
def tableSharesWrong : ChangeSpec := { name := "tableShares", fn := fun _ => fun
  | [d] => { results := [.lit (.bool false)], args := [d] }
  | _ => none }
def TableSharesWrongFalsely : Prop := tableSharesRow.holds Try.pinned (OpenSpec.ofChange tableSharesWrong)

/-- 'longeronlaw05.TableReaches': WHATEVER THE INPUT: true; the input reads as it did. -/
def tableReachesSpec : ChangeSpec := { name := "tableReaches", fn := fun _ => fun
  | [d1, d2, d3] => { results := [.lit (.bool true)], args := [d1, d2, d3] }
  | _ => none }
def tableReachesRow : OpenClaim := { program := "ytbnodcenlggcnaa", sum := "d636f8f2a9e9329e004107750d4757b5d55307939f1f9cfbf31189916fe86a8c", func := "longeron/longeronlaw05.TableReaches", spec := "tableReaches", unfollowed := true, recurses := true, apart := false }
def TableReachesSaid : Prop := tableReachesRow.holds Try.pinned (OpenSpec.ofChange tableReachesSpec)

/-- ITS FALSE NEIGHBOUR: 'it returns false'. Refute it at one input. -/
def tableReachesWrong : ChangeSpec := { name := "tableReaches", fn := fun _ => fun
  | [d1, d2, d3] => { results := [.lit (.bool false)], args := [d1, d2, d3] }
  | _ => none }
def TableReachesWrongFalsely : Prop := tableReachesRow.holds Try.pinned (OpenSpec.ofChange tableReachesWrong)

/-- 'longeronlaw05.TableAsks': WHATEVER THE INPUT: true; the input reads as it did. -/
def tableAsksSpec : ChangeSpec := { name := "tableAsks", fn := fun _ => fun
  | [d1, d2, d3] => { results := [.lit (.bool true)], args := [d1, d2, d3] }
  | _ => none }
def tableAsksRow : OpenClaim := { program := "ytbnodcenlggcnaa", sum := "d636f8f2a9e9329e004107750d4757b5d55307939f1f9cfbf31189916fe86a8c", func := "longeron/longeronlaw05.TableAsks", spec := "tableAsks", unfollowed := true, recurses := true, apart := false }
def TableAsksSaid : Prop := tableAsksRow.holds Try.pinned (OpenSpec.ofChange tableAsksSpec)

/-- ITS FALSE NEIGHBOUR: 'it returns false'. Refute it at one input. -/
def tableAsksWrong : ChangeSpec := { name := "tableAsks", fn := fun _ => fun
  | [d1, d2, d3] => { results := [.lit (.bool false)], args := [d1, d2, d3] }
  | _ => none }
def TableAsksWrongFalsely : Prop := tableAsksRow.holds Try.pinned (OpenSpec.ofChange tableAsksWrong)

/-- 'longeronlaw22.SchedAt': WHATEVER THE INPUT: true; the input reads as it did. -/
def schedAtSpec : ChangeSpec := { name := "schedAt", fn := fun _ => fun
  | [d1, d2] => { results := [.lit (.bool true)], args := [d1, d2] }
  | _ => none }
def schedAtRow : OpenClaim := { program := "ytbnodcenlggcnaa", sum := "d636f8f2a9e9329e004107750d4757b5d55307939f1f9cfbf31189916fe86a8c", func := "longeron/longeronlaw22.SchedAt", spec := "schedAt", unfollowed := true, recurses := true, apart := false }
def SchedAtSaid : Prop := schedAtRow.holds Try.pinned (OpenSpec.ofChange schedAtSpec)

/-- ITS FALSE NEIGHBOUR: 'it returns false'. Refute it at one input. -/
def schedAtWrong : ChangeSpec := { name := "schedAt", fn := fun _ => fun
  | [d1, d2] => { results := [.lit (.bool false)], args := [d1, d2] }
  | _ => none }
def SchedAtWrongFalsely : Prop := schedAtRow.holds Try.pinned (OpenSpec.ofChange schedAtWrong)

/-- 'longeronlaw22.SchedFrames': WHATEVER THE INPUT: true; the input reads as it did. -/
def schedFramesSpec : ChangeSpec := { name := "schedFrames", fn := fun _ => fun
  | [d1, d2] => { results := [.lit (.bool true)], args := [d1, d2] }
  | _ => none }
def schedFramesRow : OpenClaim := { program := "ytbnodcenlggcnaa", sum := "d636f8f2a9e9329e004107750d4757b5d55307939f1f9cfbf31189916fe86a8c", func := "longeron/longeronlaw22.SchedFrames", spec := "schedFrames", unfollowed := true, recurses := true, apart := false }
def SchedFramesSaid : Prop := schedFramesRow.holds Try.pinned (OpenSpec.ofChange schedFramesSpec)

/-- ITS FALSE NEIGHBOUR: 'it returns false'. Refute it at one input. -/
def schedFramesWrong : ChangeSpec := { name := "schedFrames", fn := fun _ => fun
  | [d1, d2] => { results := [.lit (.bool false)], args := [d1, d2] }
  | _ => none }
def SchedFramesWrongFalsely : Prop := schedFramesRow.holds Try.pinned (OpenSpec.ofChange schedFramesWrong)

/-- 'longeronlaw22.SchedLater': WHATEVER THE INPUT: true; the input reads as it did. -/
def schedLaterSpec : ChangeSpec := { name := "schedLater", fn := fun _ => fun
  | [d1, d2] => { results := [.lit (.bool true)], args := [d1, d2] }
  | _ => none }
def schedLaterRow : OpenClaim := { program := "ytbnodcenlggcnaa", sum := "d636f8f2a9e9329e004107750d4757b5d55307939f1f9cfbf31189916fe86a8c", func := "longeron/longeronlaw22.SchedLater", spec := "schedLater", unfollowed := true, recurses := true, apart := false }
def SchedLaterSaid : Prop := schedLaterRow.holds Try.pinned (OpenSpec.ofChange schedLaterSpec)

/-- ITS FALSE NEIGHBOUR: 'it returns false'. Refute it at one input. -/
def schedLaterWrong : ChangeSpec := { name := "schedLater", fn := fun _ => fun
  | [d1, d2] => { results := [.lit (.bool false)], args := [d1, d2] }
  | _ => none }
def SchedLaterWrongFalsely : Prop := schedLaterRow.holds Try.pinned (OpenSpec.ofChange schedLaterWrong)

/-- 'longeronlaw22.SchedNext': WHATEVER THE INPUT: true; the input reads as it did. -/
def schedNextSpec : ChangeSpec := { name := "schedNext", fn := fun _ => fun
  | [d1, d2, d3] => { results := [.lit (.bool true)], args := [d1, d2, d3] }
  | _ => none }
def schedNextRow : OpenClaim := { program := "ytbnodcenlggcnaa", sum := "d636f8f2a9e9329e004107750d4757b5d55307939f1f9cfbf31189916fe86a8c", func := "longeron/longeronlaw22.SchedNext", spec := "schedNext", unfollowed := true, recurses := true, apart := false }
def SchedNextSaid : Prop := schedNextRow.holds Try.pinned (OpenSpec.ofChange schedNextSpec)

/-- ITS FALSE NEIGHBOUR: 'it returns false'. Refute it at one input. -/
def schedNextWrong : ChangeSpec := { name := "schedNext", fn := fun _ => fun
  | [d1, d2, d3] => { results := [.lit (.bool false)], args := [d1, d2, d3] }
  | _ => none }
def SchedNextWrongFalsely : Prop := schedNextRow.holds Try.pinned (OpenSpec.ofChange schedNextWrong)

/-- 'longeronlaw22.SchedStarts': WHATEVER THE INPUT: true; the input reads as it did. -/
def schedStartsSpec : ChangeSpec := { name := "schedStarts", fn := fun _ => fun
  | [d1, d2, d3] => { results := [.lit (.bool true)], args := [d1, d2, d3] }
  | _ => none }
def schedStartsRow : OpenClaim := { program := "ytbnodcenlggcnaa", sum := "d636f8f2a9e9329e004107750d4757b5d55307939f1f9cfbf31189916fe86a8c", func := "longeron/longeronlaw22.SchedStarts", spec := "schedStarts", unfollowed := true, recurses := true, apart := false }
def SchedStartsSaid : Prop := schedStartsRow.holds Try.pinned (OpenSpec.ofChange schedStartsSpec)

/-- ITS FALSE NEIGHBOUR: 'it returns false'. Refute it at one input. -/
def schedStartsWrong : ChangeSpec := { name := "schedStarts", fn := fun _ => fun
  | [d1, d2, d3] => { results := [.lit (.bool false)], args := [d1, d2, d3] }
  | _ => none }
def SchedStartsWrongFalsely : Prop := schedStartsRow.holds Try.pinned (OpenSpec.ofChange schedStartsWrong)

/-- 'longeronlaw22.SchedSums': WHATEVER THE INPUT: true; the input reads as it did. -/
def schedSumsSpec : ChangeSpec := { name := "schedSums", fn := fun _ => fun
  | [d1, d2, d3] => { results := [.lit (.bool true)], args := [d1, d2, d3] }
  | _ => none }
def schedSumsRow : OpenClaim := { program := "ytbnodcenlggcnaa", sum := "d636f8f2a9e9329e004107750d4757b5d55307939f1f9cfbf31189916fe86a8c", func := "longeron/longeronlaw22.SchedSums", spec := "schedSums", unfollowed := true, recurses := true, apart := false }
def SchedSumsSaid : Prop := schedSumsRow.holds Try.pinned (OpenSpec.ofChange schedSumsSpec)

/-- ITS FALSE NEIGHBOUR: 'it returns false'. Refute it at one input. -/
def schedSumsWrong : ChangeSpec := { name := "schedSums", fn := fun _ => fun
  | [d1, d2, d3] => { results := [.lit (.bool false)], args := [d1, d2, d3] }
  | _ => none }
def SchedSumsWrongFalsely : Prop := schedSumsRow.holds Try.pinned (OpenSpec.ofChange schedSumsWrong)

/-- 'longeronlaw05.TablePuts': WHATEVER THE INPUT: true; the input reads as it did. -/
def tablePutsSpec : ChangeSpec := { name := "tablePuts", fn := fun _ => fun
  | [d] => { results := [.lit (.bool true)], args := [d] }
  | _ => none }
def tablePutsRow : OpenClaim := { program := "ytbnodcenlggcnaa", sum := "d636f8f2a9e9329e004107750d4757b5d55307939f1f9cfbf31189916fe86a8c", func := "longeron/longeronlaw05.TablePuts", spec := "tablePuts", unfollowed := true, recurses := true, apart := false }
def TablePutsSaid : Prop := tablePutsRow.holds Try.pinned (OpenSpec.ofChange tablePutsSpec)

/-- ITS FALSE NEIGHBOUR: 'it returns false'. Refute it at one input. -/
def tablePutsWrong : ChangeSpec := { name := "tablePuts", fn := fun _ => fun
  | [d] => { results := [.lit (.bool false)], args := [d] }
  | _ => none }
def TablePutsWrongFalsely : Prop := tablePutsRow.holds Try.pinned (OpenSpec.ofChange tablePutsWrong)

/-- 'longeronlaw05.TableGets': WHATEVER THE INPUT: true; the input reads as it did. -/
def tableGetsSpec : ChangeSpec := { name := "tableGets", fn := fun _ => fun
  | [d] => { results := [.lit (.bool true)], args := [d] }
  | _ => none }
def tableGetsRow : OpenClaim := { program := "ytbnodcenlggcnaa", sum := "d636f8f2a9e9329e004107750d4757b5d55307939f1f9cfbf31189916fe86a8c", func := "longeron/longeronlaw05.TableGets", spec := "tableGets", unfollowed := true, recurses := true, apart := false }
def TableGetsSaid : Prop := tableGetsRow.holds Try.pinned (OpenSpec.ofChange tableGetsSpec)

/-- ITS FALSE NEIGHBOUR: 'it returns false'. Refute it at one input. -/
def tableGetsWrong : ChangeSpec := { name := "tableGets", fn := fun _ => fun
  | [d] => { results := [.lit (.bool false)], args := [d] }
  | _ => none }
def TableGetsWrongFalsely : Prop := tableGetsRow.holds Try.pinned (OpenSpec.ofChange tableGetsWrong)

/- THE SECOND FORM. 'bulk': how many values and letters a reading holds, each counted each time it is reached (what is shared counts as often as it is met; a slice's spare places count too). A statement '..UptoSaid' is the law's where the arguments, and the package variables that the reading takes, are together of bulk at most 1048576: NARROWER than '..Said'. Prove '..Said' where nothing that the law and all that it calls make is longer than what came in: it says more and counts as full. Else prove '..UptoSaid'. A law counts once. -/
mutual
def uptoBulk {H : Type} : DataW H → Nat
  | .lit (.string bytes) => bytes.length + 1
  | .lit _ => 1
  | .nil => 1
  | .ptr d => uptoBulk d + 1
  | .slice elems spare => uptoBulkAll elems + uptoBulkAll spare + 1
  | .agg parts => uptoBulkAll parts + 1
  | .iface _ d => uptoBulk d + 1
  | .map entries => uptoBulkEntries entries + 1
  | .held _ => 1
def uptoBulkAll {H : Type} : List (DataW H) → Nat
  | [] => 0
  | d :: r => uptoBulk d + uptoBulkAll r
def uptoBulkEntries {H : Type} : List (Lit × DataW H) → Nat
  | [] => 0
  | x :: r => uptoBulkEntry x + uptoBulkEntries r
def uptoBulkEntry {H : Type} : Lit × DataW H → Nat
  | (.string bytes, d) => bytes.length + uptoBulk d + 1
  | (_, d) => uptoBulk d + 1
 end
def uptoSmall : (H : Type) → List (DataW H) → Bool := fun _ ds => decide (uptoBulkAll ds ≤ 1048576)
def OpenSpec.upto (s : _root_.Go.ChangeSpec) : _root_.Go.OpenSpec := { _root_.Go.OpenSpec.ofChange s with cond := some uptoSmall }

/-- 'longeronlaw05.TableNear', WHERE WHAT IT READS IS OF BULK AT MOST 1048576: true; the input reads as it did. -/
def tableNearUptoRow : OpenClaim := { program := "ytbnodcenlggcnaa", sum := "d636f8f2a9e9329e004107750d4757b5d55307939f1f9cfbf31189916fe86a8c", func := "longeron/longeronlaw05.TableNear", spec := "tableNear", unfollowed := true, recurses := true, apart := false, narrowed := true }
def TableNearUptoSaid : Prop := tableNearUptoRow.holds Try.pinned (OpenSpec.upto tableNearSpec)

/-- 'longeronlaw05.TableShares', WHERE WHAT IT READS IS OF BULK AT MOST 1048576: true; the input reads as it did. -/
def tableSharesUptoRow : OpenClaim := { program := "ytbnodcenlggcnaa", sum := "d636f8f2a9e9329e004107750d4757b5d55307939f1f9cfbf31189916fe86a8c", func := "longeron/longeronlaw05.TableShares", spec := "tableShares", unfollowed := true, recurses := true, apart := false, narrowed := true }
def TableSharesUptoSaid : Prop := tableSharesUptoRow.holds Try.pinned (OpenSpec.upto tableSharesSpec)

/-- 'longeronlaw05.TableReaches', WHERE WHAT IT READS IS OF BULK AT MOST 1048576: true; the input reads as it did. -/
def tableReachesUptoRow : OpenClaim := { program := "ytbnodcenlggcnaa", sum := "d636f8f2a9e9329e004107750d4757b5d55307939f1f9cfbf31189916fe86a8c", func := "longeron/longeronlaw05.TableReaches", spec := "tableReaches", unfollowed := true, recurses := true, apart := false, narrowed := true }
def TableReachesUptoSaid : Prop := tableReachesUptoRow.holds Try.pinned (OpenSpec.upto tableReachesSpec)

/-- 'longeronlaw05.TableAsks', WHERE WHAT IT READS IS OF BULK AT MOST 1048576: true; the input reads as it did. -/
def tableAsksUptoRow : OpenClaim := { program := "ytbnodcenlggcnaa", sum := "d636f8f2a9e9329e004107750d4757b5d55307939f1f9cfbf31189916fe86a8c", func := "longeron/longeronlaw05.TableAsks", spec := "tableAsks", unfollowed := true, recurses := true, apart := false, narrowed := true }
def TableAsksUptoSaid : Prop := tableAsksUptoRow.holds Try.pinned (OpenSpec.upto tableAsksSpec)

/-- 'longeronlaw22.SchedAt', WHERE WHAT IT READS IS OF BULK AT MOST 1048576: true; the input reads as it did. -/
def schedAtUptoRow : OpenClaim := { program := "ytbnodcenlggcnaa", sum := "d636f8f2a9e9329e004107750d4757b5d55307939f1f9cfbf31189916fe86a8c", func := "longeron/longeronlaw22.SchedAt", spec := "schedAt", unfollowed := true, recurses := true, apart := false, narrowed := true }
def SchedAtUptoSaid : Prop := schedAtUptoRow.holds Try.pinned (OpenSpec.upto schedAtSpec)

/-- 'longeronlaw22.SchedFrames', WHERE WHAT IT READS IS OF BULK AT MOST 1048576: true; the input reads as it did. -/
def schedFramesUptoRow : OpenClaim := { program := "ytbnodcenlggcnaa", sum := "d636f8f2a9e9329e004107750d4757b5d55307939f1f9cfbf31189916fe86a8c", func := "longeron/longeronlaw22.SchedFrames", spec := "schedFrames", unfollowed := true, recurses := true, apart := false, narrowed := true }
def SchedFramesUptoSaid : Prop := schedFramesUptoRow.holds Try.pinned (OpenSpec.upto schedFramesSpec)

/-- 'longeronlaw22.SchedLater', WHERE WHAT IT READS IS OF BULK AT MOST 1048576: true; the input reads as it did. -/
def schedLaterUptoRow : OpenClaim := { program := "ytbnodcenlggcnaa", sum := "d636f8f2a9e9329e004107750d4757b5d55307939f1f9cfbf31189916fe86a8c", func := "longeron/longeronlaw22.SchedLater", spec := "schedLater", unfollowed := true, recurses := true, apart := false, narrowed := true }
def SchedLaterUptoSaid : Prop := schedLaterUptoRow.holds Try.pinned (OpenSpec.upto schedLaterSpec)

/-- 'longeronlaw22.SchedNext', WHERE WHAT IT READS IS OF BULK AT MOST 1048576: true; the input reads as it did. -/
def schedNextUptoRow : OpenClaim := { program := "ytbnodcenlggcnaa", sum := "d636f8f2a9e9329e004107750d4757b5d55307939f1f9cfbf31189916fe86a8c", func := "longeron/longeronlaw22.SchedNext", spec := "schedNext", unfollowed := true, recurses := true, apart := false, narrowed := true }
def SchedNextUptoSaid : Prop := schedNextUptoRow.holds Try.pinned (OpenSpec.upto schedNextSpec)

/-- 'longeronlaw22.SchedStarts', WHERE WHAT IT READS IS OF BULK AT MOST 1048576: true; the input reads as it did. -/
def schedStartsUptoRow : OpenClaim := { program := "ytbnodcenlggcnaa", sum := "d636f8f2a9e9329e004107750d4757b5d55307939f1f9cfbf31189916fe86a8c", func := "longeron/longeronlaw22.SchedStarts", spec := "schedStarts", unfollowed := true, recurses := true, apart := false, narrowed := true }
def SchedStartsUptoSaid : Prop := schedStartsUptoRow.holds Try.pinned (OpenSpec.upto schedStartsSpec)

/-- 'longeronlaw22.SchedSums', WHERE WHAT IT READS IS OF BULK AT MOST 1048576: true; the input reads as it did. -/
def schedSumsUptoRow : OpenClaim := { program := "ytbnodcenlggcnaa", sum := "d636f8f2a9e9329e004107750d4757b5d55307939f1f9cfbf31189916fe86a8c", func := "longeron/longeronlaw22.SchedSums", spec := "schedSums", unfollowed := true, recurses := true, apart := false, narrowed := true }
def SchedSumsUptoSaid : Prop := schedSumsUptoRow.holds Try.pinned (OpenSpec.upto schedSumsSpec)

/-- 'longeronlaw05.TablePuts', WHERE WHAT IT READS IS OF BULK AT MOST 1048576: true; the input reads as it did. -/
def tablePutsUptoRow : OpenClaim := { program := "ytbnodcenlggcnaa", sum := "d636f8f2a9e9329e004107750d4757b5d55307939f1f9cfbf31189916fe86a8c", func := "longeron/longeronlaw05.TablePuts", spec := "tablePuts", unfollowed := true, recurses := true, apart := false, narrowed := true }
def TablePutsUptoSaid : Prop := tablePutsUptoRow.holds Try.pinned (OpenSpec.upto tablePutsSpec)

/-- 'longeronlaw05.TableGets', WHERE WHAT IT READS IS OF BULK AT MOST 1048576: true; the input reads as it did. -/
def tableGetsUptoRow : OpenClaim := { program := "ytbnodcenlggcnaa", sum := "d636f8f2a9e9329e004107750d4757b5d55307939f1f9cfbf31189916fe86a8c", func := "longeron/longeronlaw05.TableGets", spec := "tableGets", unfollowed := true, recurses := true, apart := false, narrowed := true }
def TableGetsUptoSaid : Prop := tableGetsUptoRow.holds Try.pinned (OpenSpec.upto tableGetsSpec)

end Rows
end Go.Proofs.Ytbnodcenlggcnaa
