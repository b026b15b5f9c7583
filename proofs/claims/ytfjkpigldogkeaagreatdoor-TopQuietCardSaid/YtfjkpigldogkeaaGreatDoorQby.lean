/- Contracts of functions that TopQuiet reaches, under the conditions that each states. -/
import Derived.Test.YtfjkpigldogkeaaGreatDoorCards
import Derived.KernelRfl
set_option linter.all false
namespace Go.Proofs.YtfjkpigldogkeaaGreatDoor
open Go.Proofs.Tryz
theorem aKp{P:Program}(h:P.funcs.any Func.goes=false)(f:FuncId):P.goes f=false:=by
 have hn:∀g:FuncId,(P.funcs[g]?).any Func.goes=false:=fun g=>by
  cases hg:P.funcs[g]? with
  |none=>rfl
  |some fn=>
   obtain⟨hlt,he⟩:=Array.getElem?_eq_some_iff.1 hg;rw[Array.any_eq_false]at h;have h1:=h g hlt;rw[he]at h1;simpa using h1
 unfold Program.goes;rw[h];simp[hn]
theorem aDQ{P:Program}(h:P.funcs.any Func.goes=false)(s:String):P.goesFrom s=false:=by
 unfold Program.goesFrom;cases P.funcNamed s with
 |none=>rfl
 |some f=>exact aKp h f
theorem aOL:prog.funcs.any Func.goes=false:=by kernel_rfl
theorem aGe{c:OpenClaim}(hs:c.start=.entering):c.goesBy prog=false:=by
 unfold OpenClaim.goesBy Program.goesAt;rw[hs,aDQ aOL];rfl
end Go.Proofs.YtfjkpigldogkeaaGreatDoor
