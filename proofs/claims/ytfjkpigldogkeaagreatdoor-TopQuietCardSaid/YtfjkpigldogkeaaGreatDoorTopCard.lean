/- TopQuiet is proved as given: no condition is added. -/
import Derived.Test.YtfjkpigldogkeaaGreatDoorQby
import Derived.Test.YtfjkpigldogkeaaGreatDoorQbx
set_option linter.all false
set_option maxRecDepth 100000
namespace Go.Proofs.YtfjkpigldogkeaaGreatDoor
open Go.RowKit Go.ChangeShapes Go.WideShapes Go.ChangeAt Go.Proofs.Tryz
namespace topQuiet
theorem tqSaid:Rows.TopQuietSaid:=
 OpenClaim.holds_of_cond 4 Tryz.f4 rfl rfl rfl rfl rfl rfl rfl ⟨rfl,rfl,rfl,rfl,rfl⟩ rfl rfl rfl rfl rfl (by kernel_rfl) func4 aP4
  (of_decide_eq_true (by kernel_rfl)) (by unfold Func.isWrapper;first|(rw[if_pos (by decide+kernel)];kernel_rfl)|(rw[if_neg (by decide+kernel)];exact⟨rfl,rfl⟩))
  (fun os started H enc _ F=>by rw[OpenClaim.pre_eq_preRow];exact aLg os started H enc F)
theorem tqCard:Rows.TopQuietCardSaid:=
 Claim7.holds_tied_plain_at .later [] [.data,.data,.data,.data,.sentinel,.sentinel,.pinned] true _ true
  tqSaid (fun _ h=>by cases h) (by kernel_rfl) (fun _ h=>by cases h) topQuiet_row_tie rfl ⟨rfl,rfl⟩ (by kernel_rfl) rfl
  (fun f fn hf hfn=>by
   obtain rfl:f=4:=Option.some.inj ((show prog.funcNamed Rows.topQuietRow.func=some 4 by kernel_rfl).symm.trans hf)|>.symm
   obtain rfl:fn=Tryz.f4:=(Option.some.inj (func4.symm.trans hfn)).symm;exact⟨by kernel_rfl,fun j t ht=>by
    rw[Tryz.params4]at ht;have hm:t∈[29,30]:=by simpa using Array.mem_of_getElem? ht
    have hall:([29,30].all fun u=> !prog.wantsStandIn u)=true:=by kernel_rfl
    exact(show prog.wantsStandIn t=false by simpa using List.all_eq_true.1 hall t hm)⟩)
  (aGe rfl).symm
end topQuiet
#print axioms Go.Proofs.YtfjkpigldogkeaaGreatDoor.topQuiet.tqCard
end Go.Proofs.YtfjkpigldogkeaaGreatDoor
