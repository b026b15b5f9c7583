/- Contracts of functions that TopQuiet reaches, under the conditions that each states. -/
import Derived.Test.YtfjkpigldogkeaaGreatDoorQbw
import Derived.Test.YtfjkpigldogkeaaGreatDoorTie
import Derived.SevenTiedAt
import Derived.Deep.DeepHandedRow
import Derived.Deep.DeepWitnessRowRef
import Derived.Lib.LaidTab
import Derived.Lib.LaidU8
set_option linter.all false
set_option maxRecDepth 100000
namespace Go.Proofs.YtfjkpigldogkeaaGreatDoor
open Go.RowKit Go.ChangeShapes Go.WideShapes Go.ChangeAt Go.Proofs.Tryz
namespace topQuiet
theorem own:ownKnob prog.godebug=none:=by kernel_rfl
theorem aIf:laidOutB prog=true:=by kernel_rfl
noncomputable def aAZ (os:Os):World:=
 let N:=(World.settled prog os).heap.size
 let w0:=World.holding prog os ⟨#[.cells #[.string ⟨#[118,97,108,117,101,32,111,117,116,32,111,102,32,114,97,110,103,101]⟩] 529,.cells #[.string ⟨#[105,110,118,97,108,105,100,32,115,121,110,116,97,120]⟩] 529],#[],[]⟩
 let put (h:Array Obj) (g:Nat) (cs:Array Value):Array Obj:=h.modify g fun
  | .cells _ t frozen=>.cells cs t frozen
  |o=>o
 let h1:=put w0.heap 1 ([1,10,100,1000,10000,100000,1000000,10000000,100000000,1000000000,10000000000,100000000000,1000000000000,10000000000000,100000000000000,1000000000000000,10000000000000000,100000000000000000,1000000000000000000,10000000000000000000].map fun z=>Value.int .u64 z).toArray
 let h2:=put h1 2 (Lib.firstTab.map fun z=>Value.int .u8 z).toArray
 let h3:=put h2 3 ((List.range 16).flatMap fun i=>[Value.int .u8 (Lib.accLo i),Value.int .u8 (Lib.accHi i)]).toArray
 let h4:=put h3 4 #[.iface 527 (.pointer (some (tZ (N+1) 0)))]
 let h5:=put h4 5 #[.iface 527 (.pointer (some (tZ N 0)))]
 let h6:=put h5 6 ([0,1,28,2,29,14,24,3,30,22,20,15,25,17,4,8,31,27,13,23,21,19,16,7,26,12,18,6,11,5,10,9].map fun z=>Value.int .u8 z).toArray
 let h7:=put h6 7 ([0,1,56,2,57,49,28,3,61,58,42,50,38,29,17,4,62,47,59,36,45,43,51,22,53,39,33,30,24,18,12,5,63,55,48,27,60,41,37,16,46,35,44,21,52,32,23,11,54,26,40,15,34,20,31,10,25,14,19,9,13,8,7,6].map fun z=>Value.int .u8 z).toArray
 {w0 with heap:=h7}
theorem aLo(os:Os)(args:Array Value):laidMet prog Rows.topQuietRow.laid ((aAZ os).forCall (fun _ _=>0) ⟨#[],args,[]⟩).memory:=
 laidMet_of_run' 8 (by kernel_rfl) (by kernel_rfl)
def Oq:Value:=.agg #[.int .i64 0,.slice none 0 0,.slice none 0 0,.slice none 0 0,.int .i64 0,.slice none 0 0]
theorem aGa(os:Os){H:Type}(enc:TypeId×Value->H):
  (OpenSpec.ofChange Rows.topQuietSpec).preRow enc prog Tryz.f4 Rows.topQuietRow.domain false Rows.topQuietRow.laid ((aAZ os).forCall (fun _ _=>0) ⟨#[],#[Oq,.slice none 0 0],[]⟩).memory #[Oq,.slice none 0 0]:=by
 have hw:(DataW.whole enc prog ((aAZ os).forCall (fun _ _=>0) ⟨#[],#[Oq,.slice none 0 0],[]⟩).memory Tryz.f4.params.toList Rows.topQuietSpec.vars false #[Oq,.slice none 0 0].toList 8).map (fun x=>(x.1,x.2.1))=
   some ([.agg [.agg [.lit (.int .i64 0),.nil,.nil,.nil,.lit (.int .i64 0)],.nil],.nil],[]):=by kernel_rfl
 obtain⟨⟨x1,x2,x3⟩,hx,hx1⟩:=Option.map_eq_some_iff.1 hw;simp only[Prod.mk.injEq]at hx1;obtain⟨rfl,rfl⟩:=hx1;exact OpenSpec.preRow_of_cond 8 hx (by kernel_rfl) (fun k hk=>by cases hk) (by kernel_rfl) (aLo os _)
theorem aLg(os:Os)(started:os.Started)(H:Type)(enc:TypeId×Value->H)(F:Stop.Interp):
  ReturnsInHanded {} Tryz.checked os 4 .any ((OpenSpec.ofChange Rows.topQuietSpec).preRow enc prog Tryz.f4 Rows.topQuietRow.domain false Rows.topQuietRow.laid) (((OpenSpec.ofChange Rows.topQuietSpec).at F).post enc prog Tryz.f4 false true false false):=by
 refine returnsInHanded_of_row (C:=Tryz.checked) (s:=OpenSpec.ofChange Rows.topQuietSpec) own started (by kernel_rfl) func4
  (witness_row_atRef (enc:=enc) (C:=Tryz.checked) false (aAZ os) #[Oq,.slice none 0 0] rfl (by kernel_rfl) (by kernel_rfl) (by kernel_rfl) (aGa os enc)) ?_
 intro W base args ds gs before aTP hW hcnd0 _ _ _ hsh _;obtain⟨m0,hm0⟩:∃m,W.cell? (tZ 0 0)=some (.int .i64 m):=Tryz.aQP.s1_3 W hsh;have hval:∀(j:Nat) t v,Tryz.f4.params[j]? =some t->args[j]? =some v->Value.okWide prog W .any base t v:=aTP;have hW':=hW;obtain⟨p,q,Lj,hV,rfl,hfz,hnd⟩:=hW;have hA:DataW.TrodAll enc prog W 0 (fun _=>true) true Tryz.f4.params.toList args.toList ds p:=Lj;rw[Tryz.params4]at hA hval;obtain⟨v0,vs0,d0,ds0,p0,q0,hargs,rfl,rfl,h0,r0⟩:=trodAll_cons hA;obtain⟨v1,vs1,d1,ds1,p1,q1,rfl,rfl,rfl,h1,r1⟩:=trodAll_cons r0;obtain⟨rfl,rfl,rfl⟩:=trodAll_nil r1;obtain rfl:args= #[v0,v1]:=by cases args;simp_all
 obtain⟨rfl,rfl⟩:=trodVars_none hV;have k0:=h0;have lt0:∀x∈p0,x.block<W.heap.size:=by obtain⟨m,hm⟩:=k0;exact DataW.trod_lt m _ _ _ hm
 have k1:=h1;have Ej:∀x∈p1,x.block<W.heap.size:=by obtain⟨m,hm⟩:=k1;exact DataW.trod_lt m _ _ _ hm
 have hv0:Value.okWide prog W .any base 29 v0:=hval 0 _ _ rfl rfl;have hv1:Value.okWide prog W .any base 30 v1:=hval 1 _ _ rfl rfl;obtain⟨t,a,A,c,li,e0,hT,hI,q1,q2⟩:=aL7 hv0 h0;obtain⟨AD,nD,cD,dl,e1,hD,q3,q4,hda⟩:=aGX hv1 h1;subst e0 e1;unfold maxLen at q2 q4;refine(aNF (cD:=cD) hm0 hT hI (by omega) q1 hD (by omega) hda).mono fun e W' ⟨he,bel⟩=>?_
 subst he;exact⟨_,rfl,_,_,_,[],_,[],hW',trodAll_mk1 (shut_bool underlying4 _),(trodAll_cons_mk (Below.trod aIf (by kernel_rfl) (of_decide_eq_true (by kernel_rfl)) k0 bel lt0) (trodAll_cons_mk (Below.trod aIf (by kernel_rfl) (of_decide_eq_true (by kernel_rfl)) k1 bel Ej) trodAll_mk0)),rfl,bel.frame _,fun h=>by cases h⟩
end topQuiet
end Go.Proofs.YtfjkpigldogkeaaGreatDoor
