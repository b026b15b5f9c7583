/- Contracts of functions that TopQuiet reaches, under the conditions that each states. -/
import Derived.Test.YtfjkpigldogkeaaGreatDoorCards
import Derived.JoinedOf
import Derived.KernelRfl
set_option linter.all false
namespace Go.Proofs.YtfjkpigldogkeaaGreatDoor
open Go.Proofs.Tryz
namespace topQuiet
theorem j9:(fun(P:Program) (f:FuncId) (fn:Func) (s:ChangeSpec) (c:OpenClaim)=>((c.inPlace==P.inPlace f):Bool)) prog 4 Tryz.f4 Rows.topQuietSpec Rows.topQuietRow=true:=by kernel_rfl
end topQuiet
end Go.Proofs.YtfjkpigldogkeaaGreatDoor
