/- Contracts of functions that TopQuiet reaches, under the conditions that each states. -/
import Derived.Test.YtfjkpigldogkeaaGreatDoorQam
import Derived.Test.YtfjkpigldogkeaaGreatDoorQan
import Derived.Laws.EntriesVeiled
set_option linter.all false
set_option maxRecDepth 100000
set_option maxHeartbeats 2000000
namespace Go.Proofs.YtfjkpigldogkeaaGreatDoor
open Go.RowKit Go.ChangeShapes Go.WideShapes Go.ChangeAt Go.Proofs.Tryz
section
variable{P:Program}{ops:Array Oper}{Q:Exit->Act->World->Prop}{md:Region.Mode}{S:World->Prop}{D:Nat}
def fg(P:Program)(md:Region.Mode)(ops:Array Oper)(Q:Exit->Act->World->Prop)(S:World->Prop)(D:Nat):Nat->Array Bool->Act->World->Prop
 |0,listed,a,w=>Region.ready md ops listed=[]/\Q .normal a w
 |fuel+1,listed,a,w=>
  (Region.ready md ops listed=[]->Q .normal a w)/\
  ∀i∈Region.ready md ops listed,wpOp P ops Q i (fun a' w'=>((listed.setIfInBounds i true).getD D true=false->S w')/\fg P md ops Q S D fuel (listed.setIfInBounds i true) a' w') a w
theorem aDp:∀(fuel:Nat)(listed:Array Bool)(a:Act)(w:World),fg P md ops Q S D fuel listed a w->wpAny P md ops Q fuel listed a w
 |0,_,_,_,h=>h
 |fuel+1,_,_,_,h=>⟨h.1,fun i hi=>wpOp_mono (fun a' w' h'=>aDp fuel _ a' w' h'.2) (h.2 i hi)⟩
theorem aNU{l:Array Bool}{i j:Nat}(h:i≠j):(l.setIfInBounds i true).getD j true=l.getD j true:=getD_set_ne true h
theorem aDI{i:Nat}{oi oD:Oper}{v:Value}(hi:ops[i]? =some oi)(hoD:ops[D]? =some oD)(Ir:D≠i)(hw:∃e∈oD.after,Region.binds md e=true/\e.on=i)(Eo:∀(j:Nat) (o:Oper) cs b,ops[j]? =some o->o.op≠ .select cs b)
(hQ:∀c a w,Q (.panic c) (a.put oi.dst v) w->Q (.panic c) a w):
  ∀(fuel:Nat)(listed:Array Bool)(a:Act)(w:World),
   (∀j oj,ops[j]? =some oj->j≠i->listed.getD j true=false->(∀e∈oj.after,Region.binds md e=true->e.on≠i)->oi.apart ops oj=true)->
   i∈Region.ready md ops listed->listed.getD D true=false->YieldsIf P ops S oi v a->S w->
   fg P md ops Q S D fuel (listed.setIfInBounds i true) (a.put oi.dst v) w->fg P md ops Q S D (fuel+1) listed a w:=by
 intro fuel;induction fuel with
 |zero=>
  intro listed a w _ hr _ hy hS H;refine⟨fun h=>(by rw[h]at hr;cases hr),fun j hj=>?_⟩;by_cases AY:j=i
  ·subst AY;exact hy.wpOp hi hS ⟨fun _=>hS,H⟩
  ·have:=ready_mono hj AY;rw[H.1]at this;cases this
 |succ fuel ih=>
  intro listed a w hfree hr hD hy hS H;refine⟨fun h=>(by rw[h]at hr;cases hr),fun j hj=>?_⟩;by_cases AY:j=i
  ·subst AY;exact hy.wpOp hi hS ⟨fun _=>hS,H⟩
  ·have h1:=H.2 j (ready_mono hj AY);obtain⟨Ep,oj,Hf,hall⟩:=mem_ready.1 hj;have xC:∀e∈oj.after,Region.binds md e=true->e.on≠i:=fun e he hb heq=>by
    have h1:=hall e he hb;have h0:=(mem_ready.1 hr).1;rw[heq]at h1;rcases Nat.lt_or_ge i listed.size with h'|h'
    ·simp[h']at h0 h1;rw[h0]at h1;cases h1
    ·simp[Array.getElem?_eq_none h']at h1
   have hjD:j≠D:=fun e=>by
    subst e;rw[Hf]at hoD;cases hoD;obtain⟨e,he,hb,hei⟩:=hw;exact xC e he hb hei
   have h2:=wpOp_putIf Hf (hfree j oj Hf AY Ep xC) (fun cs b=>Eo i oi cs b hi) (fun cs b=>Eo j oj cs b Hf) hQ hy h1;have aQn:∀k ok,ops[k]? =some ok->k≠i->(listed.setIfInBounds j true).getD k true=false->
     (∀e∈ok.after,Region.binds md e=true->e.on≠i)->oi.apart ops ok=true:=fun k ok hk hki hun hno=>by
    refine hfree k ok hk hki ?_ hno;by_cases hjk:j=k
    ·subst hjk;exact Ep
    ·rw[getD_set_ne true hjk]at hun;exact hun
   refine wpOp_mono (fun a' w' h3=>?_) h2;have Iu:S w':=h3.2.1 (by rw[getD_set_ne true hjD,getD_set_ne true Ir.symm];exact hD);refine⟨fun _=>Iu,ih (listed.setIfInBounds j true) a' w' aQn (ready_mono hr (Ne.symm AY)) (by rw[getD_set_ne true hjD];exact hD) h3.1 Iu ?_⟩;rw[Array.setIfInBounds_comm _ _ AY];exact h3.2.2
theorem aDX{i:Nat}{oi:Oper}{v:Value}(hi:ops[i]? =some oi)(Ir:D≠i)(Eo:∀(j:Nat) (o:Oper) cs b,ops[j]? =some o->o.op≠ .select cs b)
(hQ:∀c a w,Q (.panic c) (a.put oi.dst v) w->Q (.panic c) a w):
  ∀(fuel:Nat)(listed:Array Bool)(a:Act)(w:World),
   (∀j oj,ops[j]? =some oj->j≠i->listed.getD j true=false->(∀e∈oj.after,Region.binds md e=true->e.on≠i)->oi.apart ops oj=true)->
   i∈Region.ready md ops listed->YieldsIf P ops (fun _=>True) oi v a->(listed.getD D true=false->S w)->
   fg P md ops Q S D fuel (listed.setIfInBounds i true) (a.put oi.dst v) w->fg P md ops Q S D (fuel+1) listed a w:=by
 intro fuel;induction fuel with
 |zero=>
  intro listed a w _ hr hy hS H;refine⟨fun h=>(by rw[h]at hr;cases hr),fun j hj=>?_⟩;by_cases AY:j=i
  ·subst AY;exact hy.wpOp hi trivial ⟨fun h9=>hS (by rw[getD_set_ne true Ir.symm]at h9;exact h9),H⟩
  ·have:=ready_mono hj AY;rw[H.1]at this;cases this
 |succ fuel ih=>
  intro listed a w hfree hr hy hS H;refine⟨fun h=>(by rw[h]at hr;cases hr),fun j hj=>?_⟩;by_cases AY:j=i
  ·subst AY;exact hy.wpOp hi trivial ⟨fun h9=>hS (by rw[getD_set_ne true Ir.symm]at h9;exact h9),H⟩
  ·have h1:=H.2 j (ready_mono hj AY);obtain⟨Ep,oj,Hf,hall⟩:=mem_ready.1 hj;have xC:∀e∈oj.after,Region.binds md e=true->e.on≠i:=fun e he hb heq=>by
    have h1:=hall e he hb;have h0:=(mem_ready.1 hr).1;rw[heq]at h1;rcases Nat.lt_or_ge i listed.size with h'|h'
    ·simp[h']at h0 h1;rw[h0]at h1;cases h1
    ·simp[Array.getElem?_eq_none h']at h1
   have h2:=wpOp_putIf Hf (hfree j oj Hf AY Ep xC) (fun cs b=>Eo i oi cs b hi) (fun cs b=>Eo j oj cs b Hf) hQ hy h1;have aQn:∀k ok,ops[k]? =some ok->k≠i->(listed.setIfInBounds j true).getD k true=false->
     (∀e∈ok.after,Region.binds md e=true->e.on≠i)->oi.apart ops ok=true:=fun k ok hk hki hun hno=>by
    refine hfree k ok hk hki ?_ hno;by_cases hjk:j=k
    ·subst hjk;exact Ep
    ·rw[getD_set_ne true hjk]at hun;exact hun
   refine wpOp_mono (fun a' w' h3=>?_) h2;have Iu:(listed.setIfInBounds j true).getD D true=false->S w':=fun h9=>h3.2.1 (by
    rw[<-Array.setIfInBounds_comm _ _ AY,getD_set_ne true Ir.symm];exact h9)
   refine⟨Iu,ih (listed.setIfInBounds j true) a' w' aQn (ready_mono hr (Ne.symm AY)) h3.1 Iu ?_⟩;rw[Array.setIfInBounds_comm _ _ AY];exact h3.2.2
def aEF(md:Region.Mode)(ops:Array Oper)(D i:Nat):Bool:=decide (D≠i)&&match ops[D]? with
 |some o=>o.after.any fun e=>Region.binds md e&&e.on==i
 |none=>false
theorem aHY{i:Nat}(h:aEF md ops D i=true):∃oD,ops[D]? =some oD/\D≠i/\∃e∈oD.after,Region.binds md e=true/\e.on=i:=by
 unfold aEF at h;rw[Bool.and_eq_true]at h;cases ho:ops[D]? with
 |none=>rw[ho]at h;cases h.2
 |some o=>
  rw[ho]at h;obtain⟨e,he,h2⟩:=Array.any_eq_true'.1 h.2;rw[Bool.and_eq_true]at h2;exact⟨o,rfl,by simpa using h.1,e,he,h2.1,by simpa using h2.2⟩
theorem aPS(i d:Nat){oi:Oper}{v:Value}{fuel:Nat}{listed:Array Bool}{a:Act}{w:World}(hi:ops[i]? =some oi)(hd:oi.dst=some d)
(hs:Region.noSelect ops=true)(hf:Region.free md ops listed i=true)(hr:(Region.ready md ops listed).contains i=true)(hwt:aEF md ops D i=true)(hD:listed.getD D true=false)
(hQ:∀c a w,Q (.panic c) (a.put oi.dst v) w->Q (.panic c) a w)(hy:YieldsIf P ops S oi v a)(hS:S w)
(h:fg P md ops Q S D fuel (listed.setIfInBounds i true) (a.put (some d) v) w):fg P md ops Q S D (fuel+1) listed a w:=by
 obtain⟨oD,h1,h2,h3⟩:=aHY hwt;exact aDI hi h1 h2 h3 (Region.noSelect_spec hs) hQ fuel listed a w (Region.free_spec hi hf) (by simpa using hr) hD hy hS (by rw[hd];exact h)
theorem aQ5(i d:Nat){oi:Oper}{v:Value}{fuel:Nat}{listed:Array Bool}{a:Act}{w:World}(hi:ops[i]? =some oi)(hd:oi.dst=some d)
(hs:Region.noSelect ops=true)(hf:Region.free md ops listed i=true)(hr:(Region.ready md ops listed).contains i=true)(Ir:D≠i)
(hQ:∀c a w,Q (.panic c) (a.put oi.dst v) w->Q (.panic c) a w)(hy:YieldsIf P ops (fun _=>True) oi v a)(hS:listed.getD D true=false->S w)
(h:fg P md ops Q S D fuel (listed.setIfInBounds i true) (a.put (some d) v) w):fg P md ops Q S D (fuel+1) listed a w:=
 aDX hi Ir (Region.noSelect_spec hs) hQ fuel listed a w (Region.free_spec hi hf) (by simpa using hr) hy hS (by rw[hd];exact h)
def bz(P:Program)(md:Region.Mode)(ops:Array Oper)(Q:Exit->Act->World->Prop)(S:World->Prop)(D:Nat)(fuel:Nat)(listed:Array Bool)(a:Act)(w:World)(rs:List Nat):Prop:=
 ∀i∈rs,wpOp P ops Q i (fun a' w'=>((listed.setIfInBounds i true).getD D true=false->S w')/\fg P md ops Q S D fuel (listed.setIfInBounds i true) a' w') a w
theorem bz.nil{fuel:Nat}{listed:Array Bool}{a:Act}{w:World}:bz P md ops Q S D fuel listed a w []:=fun _ h=>by cases h
theorem bz.wU{fuel:Nat}{listed:Array Bool}{a:Act}{w:World}{i:Nat}{o:Oper}{rs:List Nat}(ho:ops[i]? =some o)
(h:∀K':Act->World->Prop,Shut (∀a w,S w->(S w->fg P md ops Q S D fuel (listed.setIfInBounds i true) a w)->K' a w)->if Region.wanted o (yielded ops a.tmps)=true then Oper.wp P o a w K' Q else K' (a.put o.dst undef) w)
(hs:bz P md ops Q S D fuel listed a w rs):bz P md ops Q S D fuel listed a w (i::rs):=fun j hj=>by
 rcases List.mem_cons.1 hj with rfl|hj
 ·exact wpOp_step ho (fun K' hK=>h K' (fun a w hS hW=>hK a w ⟨fun _=>hS,hW hS⟩))
 ·exact hs j hj
theorem bz.aSm{fuel:Nat}{listed:Array Bool}{a:Act}{w:World}{i:Nat}{o:Oper}{rs:List Nat}(ho:ops[i]? =some o)(hD:(listed.setIfInBounds i true).getD D true=true)
(h:∀K':Act->World->Prop,Shut (∀a w,fg P md ops Q S D fuel (listed.setIfInBounds i true) a w->K' a w)->if Region.wanted o (yielded ops a.tmps)=true then Oper.wp P o a w K' Q else K' (a.put o.dst undef) w)
(hs:bz P md ops Q S D fuel listed a w rs):bz P md ops Q S D fuel listed a w (i::rs):=fun j hj=>by
 rcases List.mem_cons.1 hj with rfl|hj
 ·exact wpOp_step ho (fun K' hK=>h K' (fun a w hW=>hK a w ⟨fun h9=>(by rw[hD]at h9;cases h9),hW⟩))
 ·exact hs j hj
theorem gy{rs:List Nat}{fuel:Nat}{listed:Array Bool}{a:Act}{w:World}(hr:Region.ready md ops listed=rs)(hne:rs≠[])
(h:bz P md ops Q S D fuel listed a w rs):fg P md ops Q S D (fuel+1) listed a w:=⟨fun h0=>absurd (hr▸h0) hne,hr▸h⟩
theorem bU{listed:Array Bool}{a:Act}{w:World}(hr:Region.ready md ops listed=[])(h:Q .normal a w):∀fuel,fg P md ops Q S D fuel listed a w
 |0=>⟨hr,h⟩
 |_+1=>⟨fun _=>h,by rw[hr];simp⟩
def aOF(md:Region.Mode)(ops:Array Oper)(D:Nat):List (Nat×Nat)->Array Bool->Bool
 |[],_=>true
 |(i,_)::l,listed=>Region.free md ops listed i&&(Region.ready md ops listed).contains i&&aEF md ops D i&& !(listed.getD D true)&&aOF md ops D l (listed.setIfInBounds i true)
def aOQ(md:Region.Mode)(ops:Array Oper)(D:Nat):List (Nat×Nat)->Array Bool->Bool
 |[],_=>true
 |(i,_)::l,listed=>Region.free md ops listed i&&(Region.ready md ops listed).contains i&&decide (D≠i)&&aOQ md ops D l (listed.setIfInBounds i true)
theorem iO(k:Nat)(l:List (Nat×Nat)){fuel:Nat}{listed:Array Bool}{a:Act}{w:World}(hk:l.length=k)(hs:Region.noSelect ops=true)(hc:aOF md ops D l listed=true)
(hQ:∀(d:Nat) c a v w,Q (.panic c) (Act.put a (some d) v) w->Q (.panic c) a w)(hS:S w)(h:pK P ops S (fun a'=>fg P md ops Q S D fuel (aH3 l listed) a' w) l a):fg P md ops Q S D (fuel+k) listed a w:=by
 subst hk;induction l generalizing listed a with
 |nil=>exact h
 |cons x l ih=>
  obtain⟨i,d⟩:=x;obtain⟨oi,v,hi,hd,hy,h⟩:=h;simp only[aOF,Bool.and_eq_true,Bool.not_eq_true']at hc;exact aPS (fuel:=fuel+l.length) i d hi hd hs hc.1.1.1.1 hc.1.1.1.2 hc.1.1.2 hc.1.2 (fun c a w h9=>hQ d c a v w (by rw[hd]at h9;exact h9)) hy hS (ih hc.2 h)
theorem dB(k:Nat)(l:List (Nat×Nat)){fuel:Nat}{listed:Array Bool}{a:Act}{w:World}(hk:l.length=k)(hs:Region.noSelect ops=true)(hc:aOQ md ops D l listed=true)
(hQ:∀(d:Nat) c a v w,Q (.panic c) (Act.put a (some d) v) w->Q (.panic c) a w)(hS:listed.getD D true=false->S w)(h:pK P ops (fun _=>True) (fun a'=>fg P md ops Q S D fuel (aH3 l listed) a' w) l a):fg P md ops Q S D (fuel+k) listed a w:=by
 subst hk;induction l generalizing listed a with
 |nil=>exact h
 |cons x l ih=>
  obtain⟨i,d⟩:=x;obtain⟨oi,v,hi,hd,hy,h⟩:=h;simp only[aOQ,Bool.and_eq_true,decide_eq_true_eq]at hc;exact aQ5 (fuel:=fuel+l.length) i d hi hd hs hc.1.1.1 hc.1.1.2 hc.1.2 (fun c a w h9=>hQ d c a v w (by rw[hd]at h9;exact h9)) hy hS (ih hc.2 (fun h9=>hS (by rw[getD_set_ne true (Ne.symm hc.1.2)]at h9;exact h9)) h)
theorem fB(i:Nat){fuel:Nat}{listed:Array Bool}{a:Act}{w:World}{o:Oper}(ho:ops[i]? =some o)(hr:Region.ready md ops listed=[i])
(h:∀K':Act->World->Prop,Shut (∀a w,S w->(S w->fg P md ops Q S D fuel (listed.setIfInBounds i true) a w)->K' a w)->if Region.wanted o (yielded ops a.tmps)=true then Oper.wp P o a w K' Q else K' (a.put o.dst undef) w):fg P md ops Q S D (fuel+1) listed a w:=
 gy (rs:=[i]) hr (by simp) (bz.wU (i:=i) (o:=o) ho h bz.nil)
theorem iQ(i:Nat){fuel:Nat}{listed:Array Bool}{a:Act}{w:World}{o:Oper}(ho:ops[i]? =some o)(hr:Region.ready md ops listed=[i])(hD:(listed.setIfInBounds i true).getD D true=true)
(h:∀K':Act->World->Prop,Shut (∀a w,fg P md ops Q S D fuel (listed.setIfInBounds i true) a w->K' a w)->if Region.wanted o (yielded ops a.tmps)=true then Oper.wp P o a w K' Q else K' (a.put o.dst undef) w):fg P md ops Q S D (fuel+1) listed a w:=
 gy (rs:=[i]) hr (by simp) (bz.aSm (i:=i) (o:=o) ho hD h bz.nil)
theorem dZ(D:Nat){id:Nat}{a:Act}{w:World}(hm:P.follows .mixedOrders=true)(hS:S w.drew)
(h:S w.drew->fg P .any ops Q S D ops.size (Array.replicate ops.size false) a w.drew):(Code.region id ops true).wp P Q a w:=
 wp_region_any hm (aDp _ _ _ _ (h hS))
end
theorem aMm:(prog.info? 5).map (fun i=>(i.zero,i.size,i.bytes))=some (some (.int .u8 0),1,1):=by kernel_rfl
theorem aCA(A:Option Addr)(n c:Nat)(l:List UInt8)(w:World)(h:ai w w.heap.size 1 A n (l.map bV))(hn:n<=1000000000):
  Calls prog 105 #[.slice A n c] w fun e w'=>∃A' c',e=.returned (.slice A' n c')/\w'.ownsRow w.heap.size 5 1 (.slice A' n c') n (l.map bV)/\Below w.heap.size w w':=by
 have hnil:=fun(W:World) (a:Option Addr)=>Lib.run_eql_slice_nil (P:=prog) W 37 5 a n c 0 0 underlying37
 obtain⟨i0,hi0,hz0,hz1,hz2⟩:=info_parts aMm;cases A with
 |none=>
  have hb:n=0:=by
   by_cases h0:0<n
   ·obtain⟨ad,he,_⟩:=h.form h0;cases he
   ·omega
  subst hb;have hb:l=[]:=List.eq_nil_of_length_eq_zero (by simpa using h.len);subst hb;clear h;go_enter func105,ntmps105;go_wp2
  go_ret;exact⟨none,0,rfl,World.ownsRow_nil _ _ _ _,Below.refl _ _⟩
 |some ad=>
  go_enter func105,ntmps105;go_wp2_with (at_builtin;refine aAA _ rfl (.tmp 5) (.tmp 6) _ rfl w.heap.size 5 i0 _ 1 1 underlying37 hi0 hz0 hz1 hz2 rfl (by decide) (.slice (some (tZ w.heap.size 0)) 0 0) 0 [] rfl (World.ownsRow_made w _ 0 (Nat.le_refl _) (by simp[maxLen]) rfl) w.heap.size (some ad) n c (l.map bV) rfl (h.alloc (Nat.le_refl _) _) (iG l) (by simp[maxLen];omega) (by omega) (by simp) ?_;intro A' c' w' hown hg hb)
  go_ret;refine⟨A',c',by simp,by simpa using hown,?_⟩;exact Jv ((Below.refl w.heap.size w).alloc (Nat.le_refl _) _) (World.ownsRow_made (size:=1) w _ 0 (Nat.le_refl _) (by simp[maxLen]) rfl) hg (Nat.le_refl _) (by simp)
theorem aJS(o:Nat)(ho:o<=255)(w:World):Calls prog 290 #[iV (o:Int)] w fun e w'=>e=.returned (.bool (decide (o<=18)))/\w'=w:=by
 by_cases h:o<=18
 ·have y0:decide ((0:Int)<=(o:Int))=true:=decide_eq_true (by omega);have y1:decide ((o:Int)<=18)=true:=decide_eq_true (by omega);have y1':decide (o<=18)=true:=decide_eq_true h;have hr:Hid (decide (o<=18)=true):=hid y1';clear h;go_enter func290,ntmps290;go_wp2_with fail;go_ret;exact⟨by rw[hr.out];rfl,by first|trivial|rfl⟩
 ·have y0:decide ((0:Int)<=(o:Int))=true:=decide_eq_true (by omega);have y1:decide ((o:Int)<=18)=false:=decide_eq_false (by omega);have y1':decide (o<=18)=false:=decide_eq_false h;have hr:Hid (decide (o<=18)=false):=hid y1';clear h;go_enter func290,ntmps290;go_wp2_with fail;go_ret;exact⟨by rw[hr.out];rfl,by first|trivial|rfl⟩
theorem aIL(o:Nat)(ho:o<=18)(w:World):Calls prog 226 #[iV (o:Int)] w fun e w'=>e=.returned (.bool (LN o))/\w'=w:=by
 have h19:o=0\/o=1\/o=2\/o=3\/o=4\/o=5\/o=6\/o=7\/o=8\/o=9\/o=10\/o=11\/o=12\/o=13\/o=14\/o=15\/o=16\/o=17\/o=18:=by omega
 clear ho;rcases h19 with rfl|rfl|rfl|rfl|rfl|rfl|rfl|rfl|rfl|rfl|rfl|rfl|rfl|rfl|rfl|rfl|rfl|rfl|rfl
 all_goals
  go_enter func226,ntmps226;go_wp2_with fail;go_ret;exact⟨rfl,by first|trivial|rfl⟩
def tP(r:Option (Nat×Int×Int)):Value:=match r with
 |none=>.tuple #[.agg #[iV 0,iV 0],iV 0,iV 19]
 |some (o,a,nx)=>.tuple #[.agg #[iV (o:Int),iV a],iV nx,iV 0]
theorem jm{w:World}{p:Addr}{u:Value}(h:w.cell? p=some u)(o:Obj):(w.alloc o).cell? p=some u:=(World.cell?_of_block (Below.heap_alloc _ _ _ (World.block_lt_of_cell? w p h))).trans h
theorem aLL(A:Option Addr)(n c:Nat)(l:List UInt8)(pc:Int)(w:World)(h:ai w w.heap.size 1 A n (l.map bV))(hn:n<=1000000):
  Calls prog 283 #[.slice A n c,iV pc] w fun e w'=>e=.returned (tP (rI l pc))/\Below w.heap.size w w':=by
 have hl:l.length=n:=by simpa using h.len
 by_cases hpc:pc<0
 ·have y0:decide (pc<0)=true:=decide_eq_true hpc;have hr:Hid (tP (rI l pc)=.tuple #[.agg #[iV 0,iV 0],iV 0,iV 19]):=hid (by rw[show rI l pc=none from if_pos hpc];rfl);clear h hl hpc;go_enter func283,ntmps283;go_wp2_with fail;go_returns
  exact⟨by rw[hr.out],(Below.refl w.heap.size w).alloc (Nat.le_refl _) _⟩
 have y0:decide (pc<0)=false:=decide_eq_false hpc;obtain⟨k,rfl⟩:∃k:Nat,pc=(k:Int):=⟨pc.toNat,by omega⟩;by_cases hk:n<=k
 ·have y1:decide ((n:Int)<=(k:Int))=true:=decide_eq_true (by omega);have y1':decide (n<=k)=true:=decide_eq_true hk;have hr:Hid (tP (rI l (k:Int))=.tuple #[.agg #[iV 0,iV 0],iV 0,iV 19]):=hid (by
   have hx:l[(k:Int).toNat]? =none:=List.getElem?_eq_none (by rw[Int.toNat_natCast];omega);rw[show rI l (k:Int)=none by unfold rI;rw[if_neg hpc,hx]];rfl)
  clear h hl hpc hk;go_enter func283,ntmps283;go_wp2_with fail;go_returns
  exact⟨by rw[hr.out],(Below.refl w.heap.size w).alloc (Nat.le_refl _) _⟩
 have y1:decide ((n:Int)<=(k:Int))=false:=decide_eq_false (by omega);have y1':decide (n<=k)=false:=decide_eq_false hk;obtain⟨ad,b,rfl,had,hx,hcell⟩:=h.He (k:=k) (by omega);have x0:(0:Int)<=(k:Int):=Int.natCast_nonneg _;have x1:(k:Int)<(n:Int):=by omega
 have d0:=fun o=>jm hcell o
 have d1:=fun o o'=>jm (jm hcell o) o'
 have aSs:b.toNat<=255:=by have:=b.toNat_lt;omega
 have iK:=hid (fun w=>aJS b.toNat aSs w);have aQX:Hid (∀r,(if 18<b.toNat then none else if LN b.toNat=false then some (b.toNat,0,(k:Int)+1)else match l[k+1]? with|none=>none|some c=>some (b.toNat,(c.toNat:Int),(k:Int)+2))=r->rI l (k:Int)=r):=hid (fun r hr=>by
  unfold rI;rw[if_neg hpc,Int.toNat_natCast,hx];exact hr)
 by_cases JM:18<b.toNat
 ·have hr:Hid (tP (rI l (k:Int))=.tuple #[.agg #[iV 0,iV 0],iV 0,iV 19]):=hid (by rw[aQX.out none (if_pos JM)];rfl);rw[decide_eq_false (show ¬b.toNat<=18 by omega)]at iK;clear h hl hx;go_enter func283,ntmps283;go_wp2_with fail;refine(iK.out _).mono ?_;rintro e w1⟨rfl,rfl⟩;go_wp2_with fail;go_returns
  exact⟨by rw[hr.out],(Below.refl w.heap.size w).alloc (Nat.le_refl _) _⟩
 rw[decide_eq_true (show b.toNat<=18 by omega)]at iK;have iH:=hid (fun w=>aIL b.toNat (by omega) w);have y2:IntKind.i64.wrap ((k:Int)+1)=((k+1:Nat):Int):=by rw[IntWalk.i64_in _ (by omega)];omega
 by_cases ha:LN b.toNat=false
 ·have hr:Hid (tP (rI l (k:Int))=.tuple #[.agg #[iV (b.toNat:Int),iV 0],iV ((k:Int)+1),iV 0]):=hid (by rw[aQX.out _ ((if_neg JM).trans (if_pos ha))];rfl);rw[ha]at iH;clear h hl hx;go_enter func283,ntmps283;go_wp2_with fail;refine(iK.out _).mono ?_;rintro e w1⟨rfl,rfl⟩;go_wp2_with fail;refine(iH.out _).mono ?_;rintro e w1⟨rfl,rfl⟩;go_wp2_with fail;go_returns
  refine⟨by first|(rw[hr.out];done)|(rw[hr.out];rfl)|(rw[hr.out];simp;done)|(rw[hr.out];simp;exact⟨IntWalk.wrap64_in _ ⟨by omega,by omega⟩,by omega⟩),?_⟩;first
   |exact aC ((Below.refl w.heap.size w).alloc (Nat.le_refl _) _) _
   |exact(aC ((Below.refl w.heap.size w).alloc (Nat.le_refl _) _) _).setCell (by simp) _
   |exact((aC ((Below.refl w.heap.size w).alloc (Nat.le_refl _) _) _).setCell (by simp) _).setCell (by simp) _
   |trace_state
 have ha':LN b.toNat=true:=by simpa using ha
 rw[ha']at iH;by_cases hk1:k+1=n
 ·have hr:Hid (tP (rI l (k:Int))=.tuple #[.agg #[iV 0,iV 0],iV 0,iV 19]):=hid (by
   rw[aQX.out none ((if_neg JM).trans ((if_neg ha).trans (by rw[List.getElem?_eq_none (by omega)])))];rfl)
  have y3:(((k+1:Nat):Int)==(n:Int))=true:=by simp;omega
  have y3':(((k:Int)+1)==(n:Int))=true:=by simp;omega
  clear h hl hx hk1 hpc;go_enter func283,ntmps283;go_wp2_with fail;refine(iK.out _).mono ?_;rintro e w1⟨rfl,rfl⟩;go_wp2_with fail;refine(iH.out _).mono ?_;rintro e w1⟨rfl,rfl⟩;go_wp2_with fail;go_returns
  refine⟨by first|(rw[hr.out];done)|(rw[hr.out];rfl)|(rw[hr.out];simp;done)|(rw[hr.out];simp;exact⟨IntWalk.wrap64_in _ ⟨by omega,by omega⟩,by omega⟩),?_⟩;first
   |exact aC ((Below.refl w.heap.size w).alloc (Nat.le_refl _) _) _
   |exact(aC ((Below.refl w.heap.size w).alloc (Nat.le_refl _) _) _).setCell (by simp) _
   |exact((aC ((Below.refl w.heap.size w).alloc (Nat.le_refl _) _) _).setCell (by simp) _).setCell (by simp) _
   |trace_state
 ·have aSt:k+1<n:=by omega
  obtain⟨ad',b1,hae,_,hx1,aQD⟩:=h.He aSt;injection hae with hae
  subst hae;have hb1:=b1.toNat_lt;have hr:Hid (tP (rI l (k:Int))=.tuple #[.agg #[iV (b.toNat:Int),iV (b1.toNat:Int)],iV ((k:Int)+2),iV 0]):=hid (by
   rw[aQX.out _ ((if_neg JM).trans ((if_neg ha).trans (by rw[hx1])))];rfl)
  have y3:(((k+1:Nat):Int)==(n:Int))=false:=by simp;omega
  have y3':(((k:Int)+1)==(n:Int))=false:=by simp;omega
  have hadd:ad.add (k+1)=⟨ad.block,ad.off+(k+1),none⟩:=by unfold Addr.add;rw[if_neg (by omega)]
  rw[hadd]at aQD;have f1:=fun o o'=>jm (jm aQD o) o'
  clear hadd;have x2:(0:Int)<=(k:Int)+1:=by omega
  have x3:(k:Int)+1<(n:Int):=by omega
  clear h hl hx hk1 aSt hx1 hpc;go_enter func283,ntmps283;go_wp2_with fail;refine(iK.out _).mono ?_;rintro e w1⟨rfl,rfl⟩;go_wp2_with fail;refine(iH.out _).mono ?_;rintro e w1⟨rfl,rfl⟩;go_wp2_with fail;go_returns
  refine⟨by first|(rw[hr.out];done)|(rw[hr.out];rfl)|(rw[hr.out];simp;done)|(rw[hr.out];simp;exact⟨IntWalk.wrap64_in _ ⟨by omega,by omega⟩,by omega⟩),?_⟩;first
   |exact aC ((Below.refl w.heap.size w).alloc (Nat.le_refl _) _) _
   |exact(aC ((Below.refl w.heap.size w).alloc (Nat.le_refl _) _) _).setCell (by simp) _
   |exact((aC ((Below.refl w.heap.size w).alloc (Nat.le_refl _) _) _).setCell (by simp) _).setCell (by simp) _
   |trace_state
def JO(s:nM)(A1:Option Addr)(c1:Nat)(A2:Option Addr)(c2:Nat):Value:=.agg #[iV s.pc,.slice A1 s.stack.length c1,.slice A2 s.mem.length c2,iV s.ticks,iV s.fault]
def jF(m:Nat):nM:=⟨0,[],List.replicate m 0,0,0⟩
theorem aKV(w:World){ops:Array Oper}{rest:List Oper}{o:Oper}{a:Act}{Q:Exit->Act->World->Prop}
(hg:o.guard=none)(l:Operand)(hop:o.op=Op.makeSlice 53 l l)(n:Nat)(hl:a.eval l=iV (n:Int))(hn:n<=100000)
(hK:∀w',w'.ownsRow w.heap.size 3 1 (.slice (some (tZ w.heap.size 0)) n n) n ((List.replicate n (0:Int)).map iV)->Below w.heap.size w w'->wpList prog ops Q rest (a.put o.dst (.slice (some (tZ w.heap.size 0)) n n)) w'):
  wpList prog ops Q (o::rest) a w:=by
 obtain⟨i0,hi0,hz0,hz1,hz2⟩:=info_parts aBi;refine wpList_make_full w hg l l _ hop w.heap.size 3 i0 _ 1 underlying53 hi0 hz0 hz1 .i64 .i64 _ _ n hl hl rfl rfl (by rw[hz2];omega) (by simp[maxLen];omega) (Nat.le_refl _) ?_;intro w' h1 h2;refine hK w' ?_ ((Below.refl _ _).grown h2 (Nat.le_refl _) (by simp));have e:(madeCells (Value.int IntKind.i64 0).cells (n*1)).toList=(List.replicate n (0:Int)).map iV:=by
  rw[show(Value.int IntKind.i64 0).cells= #[iV 0]from rfl,toList_madeCells_one];simp[iV]
 rw[e]at h1;exact h1
theorem aNJ{w:World}{b:Nat}{T:TypeId}{cs:List Value}(h:ak w b T cs)(hl:cs.length=5)(v0 v1 v2 v3 v4:Value):
  ∃w':World,((((w.setCell (tZ b 0) v0).setCell (tZ b 1) v1).setCell (tZ b 2) v2).setCell (tZ b 3) v3).setCell (tZ b 4) v4=w'/\Below b w w'/\(∀k,k≠b->w'.heap[k]? =w.heap[k]?)/\ak w' b T [v0,v1,v2,v3,v4]:=by
 refine⟨_,rfl,((((((Below.refl _ _).setCell (p:=⟨b,0,none⟩) (Nat.le_refl _) _).setCell (p:=⟨b,1,none⟩) (Nat.le_refl _) _).setCell (p:=⟨b,2,none⟩) (Nat.le_refl _) _).setCell (p:=⟨b,3,none⟩) (Nat.le_refl _) _).setCell (p:=⟨b,4,none⟩) (Nat.le_refl _) _),fun k hk=>((Below.heap_setCell _ _ _ _ hk).trans ((Below.heap_setCell _ _ _ _ hk).trans ((Below.heap_setCell _ _ _ _ hk).trans ((Below.heap_setCell _ _ _ _ hk).trans (Below.heap_setCell _ _ _ _ hk))))),?_⟩;have:=(((((h.uh 0 v0).uh 1 v1).uh 2 v2).uh 3 v3).uh 4 v4);match cs,hl with
 |[_,_,_,_,_],_=>exact this
theorem LV{w:World}{b:Nat}{T:TypeId}{cs:List Value}(h:ak w b T cs)(hl:cs.length=8)(v0 v1 v2 v3 v4 v5 v6 v7:Value):
  ∃w':World,(((((((w.setCell (tZ b 0) v0).setCell (tZ b 1) v1).setCell (tZ b 2) v2).setCell (tZ b 3) v3).setCell (tZ b 4) v4).setCell (tZ b 5) v5).setCell (tZ b 6) v6).setCell (tZ b 7) v7=w'/\Below b w w'/\(∀k,k≠b->w'.heap[k]? =w.heap[k]?)/\ak w' b T [v0,v1,v2,v3,v4,v5,v6,v7]:=by
 refine⟨_,rfl,(((((((((Below.refl _ _).setCell (p:=⟨b,0,none⟩) (Nat.le_refl _) _).setCell (p:=⟨b,1,none⟩) (Nat.le_refl _) _).setCell (p:=⟨b,2,none⟩) (Nat.le_refl _) _).setCell (p:=⟨b,3,none⟩) (Nat.le_refl _) _).setCell (p:=⟨b,4,none⟩) (Nat.le_refl _) _).setCell (p:=⟨b,5,none⟩) (Nat.le_refl _) _).setCell (p:=⟨b,6,none⟩) (Nat.le_refl _) _).setCell (p:=⟨b,7,none⟩) (Nat.le_refl _) _),fun k hk=>((Below.heap_setCell _ _ _ _ hk).trans ((Below.heap_setCell _ _ _ _ hk).trans ((Below.heap_setCell _ _ _ _ hk).trans ((Below.heap_setCell _ _ _ _ hk).trans ((Below.heap_setCell _ _ _ _ hk).trans ((Below.heap_setCell _ _ _ _ hk).trans ((Below.heap_setCell _ _ _ _ hk).trans (Below.heap_setCell _ _ _ _ hk)))))))),?_⟩;have:=((((((((h.uh 0 v0).uh 1 v1).uh 2 v2).uh 3 v3).uh 4 v4).uh 5 v5).uh 6 v6).uh 7 v7);match cs,hl with
 |[_,_,_,_,_,_,_,_],_=>exact this
theorem dD{B:Nat}{w w':World}(h:Below B w w'):Below B w w'.drew:=⟨h.os,h.tape,h.output,h.size,h.block⟩
section
variable{w w':World}{F:Nat->Prop}{g:Nat}{i:aO}{a:su}{s:nM}
theorem aL9(h:dm w g i a s)(m:Nat)(hm:i.mem=(m:Int))(D9:m<=1000):
  Calls prog 273 #[.pointer (some (tZ g 0))] w fun e w'=>e=.returned (.tuple #[])/\∃a',dm w' g i a' (jF m)/\bZ (fK g a) w (fK g a') w':=by
 have c3:w.cell? (tZ g 3)=some (iV (m:Int)):=by rw[<-hm];exact h.blk.cellAt rfl
 have H:=hid h;have HM:=hid hm;clear h hm;go_enter func273,ntmps273;go_wp2_with (at_make;refine aKV w rfl (.tmp 9) rfl m rfl (by omega) ?_;intro w1 hown hb1;have HO:=hid hown;have hblk:=H.out.blk.belowS hb1;have q8:w1.cell? (tZ g 8)=some (iV s.pc):=hblk.cellAt rfl;have q9:w1.cell? (tZ g 9)=some (.slice a.As s.stack.length a.cS):=hblk.cellAt rfl;have q10:w1.cell? (tZ g 10)=some (.slice a.Am s.mem.length a.cM):=hblk.cellAt rfl;have q11:w1.cell? (tZ g 11)=some (iV s.ticks):=hblk.cellAt rfl;have q12:w1.cell? (tZ g 12)=some (iV s.fault):=hblk.cellAt rfl;have qf:∀k,w1.frozen? (tZ g k)=false:=(fun k=>hblk.frozen k);have yh:=hid hblk;have vw:=hid hb1;clear hown hblk hb1)
 refine bodyPost_end (v:=.tuple #[]) (by simp[results,results273,go_sem]) rfl ?_;have hgl:=H.out.blk.lt;have hmem:(jF m).mem.length=m:=by simp[jF]
 have hoff:∀b,b≠g->(((((w1.setCell (tZ g 8) (iV 0)).setCell (tZ g 9) (.slice none 0 0)).setCell (tZ g 10) (.slice (some (tZ w.heap.size 0)) m m)).setCell (tZ g 11) (iV 0)).setCell (tZ g 12) (iV 0)).heap[b]? =w1.heap[b]? :=fun b hb=>
  (Below.heap_setCell _ _ _ _ hb).trans ((Below.heap_setCell _ _ _ _ hb).trans ((Below.heap_setCell _ _ _ _ hb).trans ((Below.heap_setCell _ _ _ _ hb).trans (Below.heap_setCell _ _ _ _ hb))))
 refine⟨rfl,{a with As:=none,cS:=0,Am:=some (tZ w.heap.size 0),cM:=m},⟨?_,?_,jb.nil _ _,?_,fun b hb=>?_⟩,⟨?_,fun b hb=>?_⟩⟩
 ·have hb:=((((yh.out.uh 8 (iV 0)).uh 9 (.slice none 0 0)).uh 10 (.slice (some (tZ w.heap.size 0)) m m)).uh 11 (iV 0)).uh 12 (iV 0);unfold nC;rw[hmem];exact hb
 ·exact H.out.cd.keep fun b hb=>(hoff b (fun e=>H.out.off.1 (e▸hb))).trans (vw.out.block b (H.out.cd.lt hb))
 ·rw[hmem];exact jb.uA (dS HO.out fun b hb=>hoff b (fun e=>by
   have:=LO.1 hb;omega))
 ·obtain⟨x,hx,_⟩:=hb;cases hx
 ·exact(((((bD.of_below vw.out).setCell (p:=⟨g,8,none⟩) (.inl (.inl rfl)) _).setCell (p:=⟨g,9,none⟩) (.inl (.inl rfl)) _).setCell (p:=⟨g,10,none⟩) (.inl (.inl rfl)) _).setCell (p:=⟨g,11,none⟩) (.inl (.inl rfl)) _).setCell (p:=⟨g,12,none⟩) (.inl (.inl rfl)) _
 ·rcases hb with hb|hb|hb|hb
  ·exact .inl (.inl hb)
  ·exact .inl (.inr (.inl hb))
  ·obtain⟨x,hx,_⟩:=hb;cases hx
  ·exact .inr (Nat.le_of_eq (LO.1 hb).symm)
theorem aJz(h:nK w F g i s)(hl:i.code.length<=1000000):
  Calls prog 140 #[.pointer (some (tZ g 0))] w fun e w'=>∃A c,e=.returned (eM i A c)/\w'.ownsRow w.heap.size 5 1 (.slice A i.code.length c) i.code.length (i.code.map bV)/\Below w.heap.size w w':=by
 obtain⟨a,m,_⟩:=h;have c0:w.cell? (tZ g 0)=some (iV i.part):=m.blk.cellAt rfl;have c1:w.cell? (tZ g 1)=some (iV i.ver):=m.blk.cellAt rfl;have c2:w.cell? (tZ g 2)=some (iV i.uw):=m.blk.cellAt rfl;have c3:w.cell? (tZ g 3)=some (iV i.mem):=m.blk.cellAt rfl;have c4:w.cell? (tZ g 4)=some (iV i.fuel):=m.blk.cellAt rfl;have c5:w.cell? (tZ g 5)=some (iV i.sends):=m.blk.cellAt rfl;have c6:w.cell? (tZ g 6)=some (iV i.uj):=m.blk.cellAt rfl;have c7:w.cell? (tZ g 7)=some (.slice a.Ac i.code.length a.cc):=m.blk.cellAt rfl;have d0:=fun o=>dh c0 o
 have d1:=fun o=>dh c1 o
 have d2:=fun o=>dh c2 o
 have d3:=fun o=>dh c3 o
 have d4:=fun o=>dh c4 o
 have d5:=fun o=>dh c5 o
 have d6:=fun o=>dh c6 o
 have d7:=fun o=>dh c7 o
 have HR:=hid m.cd.reads;clear m;go_enter func140,ntmps140;go_wp2_with fail;obtain⟨w2,hw2,hB,hb2⟩:∃W,((w.alloc (.cells #[iV 0,iV 0,iV 0,iV 0,iV 0,iV 0,iV 0,.slice none 0 0] 39)).alloc (.cells #[iV i.part,iV i.ver,iV i.uw,iV i.mem,iV i.fuel,iV i.sends,iV i.uj,.slice a.Ac i.code.length a.cc] 39))=W/\(ak W w.heap.size 39 [iV 0,iV 0,iV 0,iV 0,iV 0,iV 0,iV 0,.slice none 0 0]/\ak W (w.heap.size+1) 39 [iV i.part,iV i.ver,iV i.uw,iV i.mem,iV i.fuel,iV i.sends,iV i.uj,.slice a.Ac i.code.length a.cc])/\Below w.heap.size w W:=
  ⟨_,rfl,⟨(ak.new w _ [iV 0,iV 0,iV 0,iV 0,iV 0,iV 0,iV 0,.slice none 0 0]).alloc _,by
   have:=ak.new (w.alloc (.cells #[iV 0,iV 0,iV 0,iV 0,iV 0,iV 0,iV 0,.slice none 0 0] 39)) 39 [iV i.part,iV i.ver,iV i.uw,iV i.mem,iV i.fuel,iV i.sends,iV i.uj,.slice a.Ac i.code.length a.cc];simpa using this⟩,aC ((Below.refl w.heap.size w).alloc (Nat.le_refl _) _) _⟩
 rw[hw2];clear hw2 d0 d1 d2 d3 d4 d5 d6 d7 c0 c1 c2 c3 c4 c5 c6 c7;refine(aCA a.Ac i.code.length a.cc i.code w2 (HR.out.belowS hb2) (by omega)).mono ?_;rintro e w3⟨A3,c3,rfl,AP,hb3⟩;have zG:=hB.1.belowS hb3;have xO:=hB.2.belowS hb3;have q0:w3.cell? (tZ (w.heap.size+1) 0)=some (iV i.part):=xO.cellAt rfl;have q1:w3.cell? (tZ (w.heap.size+1) 1)=some (iV i.ver):=xO.cellAt rfl;have q2:w3.cell? (tZ (w.heap.size+1) 2)=some (iV i.uw):=xO.cellAt rfl;have q3:w3.cell? (tZ (w.heap.size+1) 3)=some (iV i.mem):=xO.cellAt rfl;have q4:w3.cell? (tZ (w.heap.size+1) 4)=some (iV i.fuel):=xO.cellAt rfl;have q5:w3.cell? (tZ (w.heap.size+1) 5)=some (iV i.sends):=xO.cellAt rfl;have q6:w3.cell? (tZ (w.heap.size+1) 6)=some (iV i.uj):=xO.cellAt rfl;have q7:w3.cell? (tZ (w.heap.size+1) 7)=some (.slice a.Ac i.code.length a.cc):=xO.cellAt rfl;have qf:∀k,w3.frozen? (tZ (w.heap.size+1) k)=false:=fun k=>xO.frozen k
 have z0:w3.cell? (tZ w.heap.size 0)=some (iV 0):=zG.cellAt rfl;have z1:w3.cell? (tZ w.heap.size 1)=some (iV 0):=zG.cellAt rfl;have z2:w3.cell? (tZ w.heap.size 2)=some (iV 0):=zG.cellAt rfl;have z3:w3.cell? (tZ w.heap.size 3)=some (iV 0):=zG.cellAt rfl;have z4:w3.cell? (tZ w.heap.size 4)=some (iV 0):=zG.cellAt rfl;have z5:w3.cell? (tZ w.heap.size 5)=some (iV 0):=zG.cellAt rfl;have z6:w3.cell? (tZ w.heap.size 6)=some (iV 0):=zG.cellAt rfl;have z7:w3.cell? (tZ w.heap.size 7)=some (.slice none 0 0):=zG.cellAt rfl;have zf:∀k,w3.frozen? (tZ w.heap.size k)=false:=fun k=>zG.frozen k
 have EE:=hid AP;have vk:=hid (ag hb2 hb3);have EF:=hid hB.2.lt;have HBx:=hid zG;clear AP hb3 hB zG xO hb2;go_wp2_with fail;obtain⟨w4,hw4,hb4,hk4,hr4⟩:=LV (HBx.out.far (p:=⟨w.heap.size+1,7,none⟩) (show w.heap.size≠w.heap.size+1 by omega) (.slice A3 i.code.length c3)) rfl (iV i.part) (iV i.ver) (iV i.uw) (iV i.mem) (iV i.fuel) (iV i.sends) (iV i.uj) (.slice A3 i.code.length c3);rw[hw4];clear hw4 q0 q1 q2 q3 q4 q5 q6 q7 qf z0 z1 z2 z3 z4 z5 z6 z7 zf;obtain⟨r0,r1,r2,r3,r4,r5,r6,r7⟩:_/\_/\_/\_/\_/\_/\_/\_:=⟨hr4.cellAt (i:=0) rfl,hr4.cellAt (i:=1) rfl,hr4.cellAt (i:=2) rfl,hr4.cellAt (i:=3) rfl,hr4.cellAt (i:=4) rfl,hr4.cellAt (i:=5) rfl,hr4.cellAt (i:=6) rfl,hr4.cellAt (i:=7) rfl⟩;refine bodyPost_ret (v:=eM i A3 c3) (by simp[results,results140,go_sem,r0,r1,r2,r3,r4,r5,r6,r7]) rfl ?_;refine⟨A3,c3,rfl,dS (bh EE.out (by have:=EF.out;omega)) fun b hb=>?_,(vk.out.setCell (p:=⟨w.heap.size+1,7,none⟩) (show w.heap.size<=w.heap.size+1 by omega) _).trans hb4⟩;have hlt:=(EE.out.lt b (aN.2 hb)).1;have h2:=EF.out;exact(hk4 b (by omega)).trans (Below.heap_setCell _ _ _ _ (show b≠w.heap.size+1 by omega))
theorem aKd(h:nK w F g i s)(hl:s.stack.length<=1000000)(hm:s.mem.length<=1000000):
  Calls prog 218 #[.pointer (some (tZ g 0))] w fun e w'=>∃A1 c1 A2 c2,e=.returned (JO s A1 c1 A2 c2)/\w'.ownsRow w.heap.size 3 1 (.slice A1 s.stack.length c1) s.stack.length (s.stack.map iV)/\w'.ownsRow w.heap.size 3 1 (.slice A2 s.mem.length c2) s.mem.length (s.mem.map iV)/\Below w.heap.size w w':=by
 obtain⟨a,m,_⟩:=h;have c0:w.cell? (tZ g 8)=some (iV s.pc):=m.blk.cellAt rfl;have c1:w.cell? (tZ g 9)=some (.slice a.As s.stack.length a.cS):=m.blk.cellAt rfl;have c2:w.cell? (tZ g 10)=some (.slice a.Am s.mem.length a.cM):=m.blk.cellAt rfl;have c3:w.cell? (tZ g 11)=some (iV s.ticks):=m.blk.cellAt rfl;have c4:w.cell? (tZ g 12)=some (iV s.fault):=m.blk.cellAt rfl;have d0:=fun o=>dh c0 o
 have d1:=fun o=>dh c1 o
 have d2:=fun o=>dh c2 o
 have d3:=fun o=>dh c3 o
 have d4:=fun o=>dh c4 o
 have Hr:=hid m.st.reads;have Dn:=hid m.me.reads;clear m;go_enter func218,ntmps218;go_wp2_with fail;obtain⟨w2,hw2,hB,hb2⟩:∃W,((w.alloc (.cells #[iV 0,.slice none 0 0,.slice none 0 0,iV 0,iV 0] 55)).alloc (.cells #[iV s.pc,.slice a.As s.stack.length a.cS,.slice a.Am s.mem.length a.cM,iV s.ticks,iV s.fault] 55))=W/\(ak W w.heap.size 55 [iV 0,.slice none 0 0,.slice none 0 0,iV 0,iV 0]/\ak W (w.heap.size+1) 55 [iV s.pc,.slice a.As s.stack.length a.cS,.slice a.Am s.mem.length a.cM,iV s.ticks,iV s.fault])/\Below w.heap.size w W:=
  ⟨_,rfl,⟨(ak.new w _ [iV 0,.slice none 0 0,.slice none 0 0,iV 0,iV 0]).alloc _,by
   have:=ak.new (w.alloc (.cells #[iV 0,.slice none 0 0,.slice none 0 0,iV 0,iV 0] 55)) 55 [iV s.pc,.slice a.As s.stack.length a.cS,.slice a.Am s.mem.length a.cM,iV s.ticks,iV s.fault];simpa using this⟩,aC ((Below.refl w.heap.size w).alloc (Nat.le_refl _) _) _⟩
 rw[hw2];clear hw2 d0 d1 d2 d3 d4 c0 c1 c2 c3 c4;have p1:w2.cell? (tZ (w.heap.size+1) 1)=some (.slice a.As s.stack.length a.cS):=hB.2.cellAt rfl;have p2:w2.cell? (tZ (w.heap.size+1) 2)=some (.slice a.Am s.mem.length a.cM):=hB.2.cellAt rfl;have uz:=hid hb2;have zB:=hid hB;have i1:=hid (fun W (hb:Below w2.heap.size w2 W)=>aCC a.As s.stack.length a.cS s.stack W (Hr.out.belowS (ag hb2 hb)) (by omega));have i2:=hid (fun W (hb:Below w2.heap.size w2 W)=>aCC a.Am s.mem.length a.cM s.mem W (Dn.out.belowS (ag hb2 hb)) (by omega));have Ag:=hid (Below.refl w2.heap.size w2);clear hB hb2;go_region_law (first
  |(go_simp;go_at_call 69;refine(i1.out _ ?_).mono ?_;(first|exact Ag.out|exact dD Ag.out);rintro e w3 ⟨A3,c3,rfl,AP,wW⟩;have hb3:Below w2.heap.size w2 w3:=(by first|exact wW|exact⟨wW.os,wW.tape,wW.output,wW.size,wW.block⟩);have EE:=hid AP;have vk:=hid hb3;have r2:w3.cell? (tZ (w.heap.size+1) 2)=some (.slice a.Am s.mem.length a.cM):=(zB.out.2.belowS hb3).cellAt rfl;clear AP wW hb3)
  |(go_simp;go_at_call 69;refine(i2.out _ ?_).mono ?_;(first|exact vk.out|exact dD vk.out);rintro e w4 ⟨A4,c4,rfl,Ht,yC⟩;have hb4:Below w3.heap.size w3 w4:=(by first|exact yC|exact⟨yC.os,yC.tape,yC.output,yC.size,yC.block⟩);have LS:=hid Ht;have vI:=hid hb4;have yz:=zB.out.2.belowS (ag vk.out hb4);have wX:=hid yz;have Cb:=hid (zB.out.1.belowS (ag vk.out hb4));have s1:w4.cell? (tZ (w.heap.size+1) 1)=some (.slice a.As s.stack.length a.cS):=yz.cellAt rfl;have s2:w4.cell? (tZ (w.heap.size+1) 2)=some (.slice a.Am s.mem.length a.cM):=yz.cellAt rfl;have sf:∀k,w4.frozen? (tZ (w.heap.size+1) k)=false:=(fun k=>yz.frozen k);clear Ht yC hb4 yz))
 all_goals
  have hne:w.heap.size+1≠w.heap.size:=by omega
  have DI:w.heap.size≠w.heap.size+1:=by omega
  obtain⟨w5,zo,JP,Hu,FU,uP⟩:∃W,(w4.setCell (tZ (w.heap.size+1) 1) (.slice A3 s.stack.length c3)).setCell (tZ (w.heap.size+1) 2) (.slice A4 s.mem.length c4)=W/\ak W (w.heap.size+1) 55 [iV s.pc,.slice A3 s.stack.length c3,.slice A4 s.mem.length c4,iV s.ticks,iV s.fault]/\ak W w.heap.size 55 [iV 0,.slice none 0 0,.slice none 0 0,iV 0,iV 0]/\(∀k,k≠w.heap.size+1->W.heap[k]? =w4.heap[k]?)/\Below w.heap.size w W:=
   ⟨_,rfl,(wX.out.uh 1 _).uh 2 _,(Cb.out.far (p:=⟨w.heap.size+1,1,none⟩) DI _).far (p:=⟨w.heap.size+1,2,none⟩) DI _,fun k hk=>(Below.heap_setCell _ _ _ _ hk).trans (Below.heap_setCell _ _ _ _ hk),((ag (ag uz.out vk.out) vI.out).setCell (p:=⟨w.heap.size+1,1,none⟩) (show w.heap.size<=w.heap.size+1 by omega) _).setCell (p:=⟨w.heap.size+1,2,none⟩) (show w.heap.size<=w.heap.size+1 by omega) _⟩
  rw[zo];clear zo s1 s2 sf r2 p1 p2 i1 i2;have q0:w5.cell? (tZ (w.heap.size+1) 0)=some (iV s.pc):=JP.cellAt rfl;have q1:w5.cell? (tZ (w.heap.size+1) 1)=some (.slice A3 s.stack.length c3):=JP.cellAt rfl;have q2:w5.cell? (tZ (w.heap.size+1) 2)=some (.slice A4 s.mem.length c4):=JP.cellAt rfl;have q3:w5.cell? (tZ (w.heap.size+1) 3)=some (iV s.ticks):=JP.cellAt rfl;have q4:w5.cell? (tZ (w.heap.size+1) 4)=some (iV s.fault):=JP.cellAt rfl;have z0:w5.cell? (tZ w.heap.size 0)=some (iV 0):=Hu.cellAt rfl;have z1:w5.cell? (tZ w.heap.size 1)=some (.slice none 0 0):=Hu.cellAt rfl;have z2:w5.cell? (tZ w.heap.size 2)=some (.slice none 0 0):=Hu.cellAt rfl;have z3:w5.cell? (tZ w.heap.size 3)=some (iV 0):=Hu.cellAt rfl;have z4:w5.cell? (tZ w.heap.size 4)=some (iV 0):=Hu.cellAt rfl;have zf:∀k,w5.frozen? (tZ w.heap.size k)=false:=fun k=>Hu.frozen k
  have HK5:=hid FU;have wP:=hid uP;have Ea:=hid Hu;clear JP Hu FU uP hne DI;go_wp2_with fail;obtain⟨w6,vU,uS,GF,uQ⟩:=aNJ Ea.out rfl (iV s.pc) (.slice A3 s.stack.length c3) (.slice A4 s.mem.length c4) (iV s.ticks) (iV s.fault);rw[vU];clear vU q0 q1 q2 q3 q4 z0 z1 z2 z3 z4 zf;obtain⟨r0,r1,r2,r3,r4⟩:_/\_/\_/\_/\_:=⟨uQ.cellAt (i:=0) rfl,uQ.cellAt (i:=1) rfl,uQ.cellAt (i:=2) rfl,uQ.cellAt (i:=3) rfl,uQ.cellAt (i:=4) rfl⟩;refine bodyPost_ret (v:=JO s A3 c3 A4 c4) (by simp[results,JO,results218,go_sem,r0,r1,r2,r3,r4]) rfl ?_;have zh:w.heap.size+2<=w2.heap.size:=by have:=zB.out.2.lt;omega
  have yg:=vk.out.size;have hkk:∀b,w.heap.size+2<=b->w6.heap[b]? =w4.heap[b]? :=fun b hb=>(GF b (by omega)).trans (HK5.out b (by omega))
  refine⟨A3,c3,A4,c4,rfl,dS (bh EE.out (show w.heap.size<=w2.heap.size by omega)) fun b hb=>?_,dS (bh LS.out (show w.heap.size<=w3.heap.size by omega)) fun b hb=>?_,wP.out.trans uS⟩
  ·have h9:w2.heap.size<=b/\b<w3.heap.size:=EE.out.lt b (aN.2 hb);exact(hkk b (by omega)).trans (vI.out.block b h9.2)
  ·have h9:w3.heap.size<=b/\b<w4.heap.size:=LS.out.lt b (aN.2 hb);exact hkk b (by omega)
end
def aI8(o:Nat):Nat:=match o with
 |0=>331
 |1=>332
 |2=>333
 |3=>334
 |4=>335
 |5=>336
 |6=>337
 |7=>338
 |8=>339
 |9=>340
 |10=>341
 |11=>342
 |12=>343
 |13=>344
 |14=>345
 |15=>346
 |16=>347
 |17=>348
 |_=>349
def tH:List Value:=[.func (.func 331) #[] #[],.func (.func 332) #[] #[],.func (.func 333) #[] #[],.func (.func 334) #[] #[],.func (.func 335) #[] #[],.func (.func 336) #[] #[],.func (.func 337) #[] #[],.func (.func 338) #[] #[],.func (.func 339) #[] #[],.func (.func 340) #[] #[],.func (.func 341) #[] #[],.func (.func 342) #[] #[],.func (.func 343) #[] #[],.func (.func 344) #[] #[],.func (.func 345) #[] #[],.func (.func 346) #[] #[],.func (.func 347) #[] #[],.func (.func 348) #[] #[],.func (.func 349) #[] #[]]
section
variable{w w':World}{F:Nat->Prop}{h g gs:Nat}{i:aO}{a:su}{cs:List aB}{pc ticks fault arg:Int}{Ao:Option Addr}{cO:Nat}{d:nJ}
theorem aMh(t:aF w F h g gs i cs pc ticks fault arg d)(hI:eU i)(hF:qQ i d)(hK:jA cs d.ss)(hd:∀k,k<cs.length->ju cs k<=4)(JL:d.sent.length<=1000)(ha0:0<=arg)(o:Nat)(ho:o<=18):
  Calls prog (aI8 o) #[.pointer (some (tZ h 0))] w (bY F w h g gs i cs pc ticks fault arg (bG i cs ticks o arg d)):=by
 have hl:d.stack.length<=100:=by have:=hF.len;omega
 have hm:d.mem.length<=1000:=by have:=hF.xG;have:=hI.2.2.2.1;omega
 have hst:∀x∈d.stack,mN x:=hF.st;have hi1:=hI.2.2.2.2.2.1;have hi2:=hI.2.2.2.2.2.2.1;have h19:o=0\/o=1\/o=2\/o=3\/o=4\/o=5\/o=6\/o=7\/o=8\/o=9\/o=10\/o=11\/o=12\/o=13\/o=14\/o=15\/o=16\/o=17\/o=18:=by omega
 rcases h19 with rfl|rfl|rfl|rfl|rfl|rfl|rfl|rfl|rfl|rfl|rfl|rfl|rfl|rfl|rfl|rfl|rfl|rfl|rfl
 ·exact aHP t
 ·exact aK5 t hl
 ·exact aJ0 t hl
 ·exact aL5 t hl
 ·exact aJ1 t hl
 ·exact aL1 t hl hst
 ·exact aKH t hl hst
 ·exact aLM t hl hst
 ·exact aJF t hl hst
 ·exact aKa t hl hst
 ·exact aJ3 t hl hm ha0
 ·exact aGH t hl hm ha0
 ·exact aJ8 t hl ha0
 ·exact aJT t hl ha0
 ·exact aJa t hl ha0 hi1 hK hd JL
 ·exact aMA t hl ha0 hi2
 ·exact aFt t
 ·exact aJw t
 ·exact aLP t hl
theorem aF.aQ9(t:aF w F h g gs i cs pc ticks fault arg d){k:Nat}{v:Value}{pc' ticks' fault':Int}(hr:∀a:su,(nC i a (mP pc ticks fault d)).set k v=nC i a (mP pc' ticks' fault' d)):
  aF (w.setCell (tZ g k) v) F h g gs i cs pc' ticks' fault' arg d/\bZ F w F (w.setCell (tZ g k) v):=by
 obtain⟨a,Ao,cO,F2,m,r,hs,ha,hF⟩:=t;have hk:∀b,b≠g->(w.setCell (tZ g k) v).heap[b]? =w.heap[b]? :=fun b hb=>Below.heap_setCell _ _ _ _ hb
 have hFg:F g:=(hF g).2 (.inl (.inl rfl));have rk:=r.keep (w':=w.setCell (tZ g k) v) fun b hb=>hk b (fun e=>r.apart m hb (.inl e))
 refine⟨⟨a,Ao,cO,F2,⟨?_,m.cd.keep fun b hb=>hk b (fun e=>m.off.1 (e▸hb)),m.st.keep fun b hb=>hk b (fun e=>m.off.2.1 (e▸hb)),m.me.keep fun b hb=>hk b (fun e=>m.off.2.2 (e▸hb)),m.ap⟩,rk,hs.keep (by simp[World.setCell]) fun b hb=>hk b (fun e=>(ha b hb).1 (.inl e)),ha,hF⟩,⟨(bD.refl _ _).setCell (.inl hFg) _,fun _ h9=>.inl h9⟩⟩;have:=m.blk.uh k v;rw[hr a]at this;exact this
end
def aOX:List Value:=[.nilFunc,.nilFunc,.nilFunc,.nilFunc,.nilFunc,.nilFunc,.nilFunc,.nilFunc,.nilFunc,.nilFunc,.nilFunc,.nilFunc,.nilFunc,.nilFunc,.nilFunc,.nilFunc,.nilFunc,.nilFunc,.nilFunc]
abbrev ru:TypeId:=419
theorem aMg:(prog.info? ru).map (·.size)=some 19:=by kernel_rfl
theorem aF2(cs:Array Value)(h:cs.size=19):(prog.info? ru).map (·.size)=some cs.size:=by rw[h];exact aMg
theorem aIV(w:World):Calls prog 282 #[] w fun e w'=>e=.returned (.agg tH.toArray)/\Below w.heap.size w w':=by
 obtain⟨Z,hZ⟩:∃Z:Array Value,aOX.toArray=Z:=⟨_,rfl⟩;have hZs:Z.size=19:=by rw[<-hZ];rfl
 have FW:tH.toArray.size=19:=rfl;have BG:tH.toArray.all (·.oneCell')=true:=by simp[tH,Value.oneCell']
 go_enter func282,ntmps282;go_upto_region 1 with fail
 change Code.wp _ _ _ _ (w.alloc (.cells aOX.toArray ru))
 rw[hZ];go_wp2_with (refine wpList_store_row rfl ru _ _ rfl w.heap.size tH.toArray rfl (by rfl) ru Z (heap_alloc_new w _) (aF2 _ FW) (by rw[hZs,FW]) BG ?_;rw[World.setRow_alloc_new])
 refine bodyPost_ret (v:=.agg tH.toArray) (results_cell_row (P:=prog) (fn:=Tryz.f282) (p:=0) (ty:=ru) (by rfl) _ _ w.heap.size ru tH.toArray (0,0) _ (by rfl) (heap_alloc_new w _) underlying419 (by rfl) (aF2 _ FW)) rfl ?_;exact⟨rfl,(Below.refl _ _).alloc (Nat.le_refl _) _⟩
end Go.Proofs.YtfjkpigldogkeaaGreatDoor
