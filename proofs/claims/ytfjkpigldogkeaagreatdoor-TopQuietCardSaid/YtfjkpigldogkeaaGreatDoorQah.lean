/- Contracts of functions that TopQuiet reaches, under the conditions that each states. -/
import Derived.Test.YtfjkpigldogkeaaGreatDoorQab
import Derived.Test.YtfjkpigldogkeaaGreatDoorQag
import Derived.Laws.IdiomCopy
import Derived.RangeFuncNested
import Derived.RangeFuncBound
import Derived.RangeFuncCalls
import Derived.RangeFuncLeaves
import Derived.Shelf.Abstract
import Derived.Shelf.RegionOpen
import Derived.OwnWalkIn
import Derived.TacticsInMore
import Derived.LoopNIn
import Derived.LoopIn
import Derived.StillTailTactics
set_option linter.all false
set_option maxRecDepth 100000
set_option maxHeartbeats 4000000
namespace Go.Proofs.YtfjkpigldogkeaaGreatDoor
open Go.RowKit Go.ChangeShapes Go.WideShapes Go.ChangeAt Go.Proofs.Tryz
theorem aCW{P:Program}{ops:Array Oper}{Q:Exit->Act->World->Prop}{md:Region.Mode}{S:World->Prop}(i d:Nat){oi:Oper}{v:Value}{fuel:Nat}{listed:Array Bool}{a:Act}{w:World}(hi:ops[i]? =some oi)(hd:oi.dst=some d)
(hs:Region.noSelect ops=true)(hf:Region.free md ops listed i=true)(hr:(Region.ready md ops listed).contains i=true)
(hQ:∀c a w,Q (.panic c) (a.put oi.dst v) w->Q (.panic c) a w)(hy:YieldsIf P ops S oi v a)(hS:S w)
(h:wpAnyH P md ops Q S fuel (listed.setIfInBounds i true) (a.put (some d) v) w):wpAnyH P md ops Q S (fuel+1) listed a w:=
 wpAnyH_take hi hs hf hr hQ hy hS (by rw[hd];exact h)
section
variable{P:Program}{ops:Array Oper}{Q:Exit->Act->World->Prop}{md:Region.Mode}{S:World->Prop}{Z:Act->Prop}
def pK(P:Program)(ops:Array Oper)(S:World->Prop)(Z:Act->Prop):List (Nat×Nat)->Act->Prop
 |[],a=>Z a
 |(i,d)::l,a=>∃oi v,ops[i]? =some oi/\oi.dst=some d/\YieldsIf P ops S oi v a/\pK P ops S Z l (a.put (some d) v)
def aOD(md:Region.Mode)(ops:Array Oper):List (Nat×Nat)->Array Bool->Bool
 |[],_=>true
 |(i,_)::l,listed=>Region.free md ops listed i&&(Region.ready md ops listed).contains i&&aOD md ops l (listed.setIfInBounds i true)
def aH3(l:List (Nat×Nat))(listed:Array Bool):Array Bool:=l.foldl (fun b p=>b.setIfInBounds p.1 true) listed
theorem au{a:Act}(h:Z a):pK P ops S Z [] a:=h
theorem aI{i d:Nat}{l:List (Nat×Nat)}{oi:Oper}{v:Value}{a:Act}(hi:ops[i]? =some oi)(hd:oi.dst=some d)(hw:Region.wanted oi (yielded ops a.tmps)=true)(hy:∀w,S w->(execOp a.eval oi).run P w=.ok (.value v) w)
(h:pK P ops S Z l (a.put (some d) v)):pK P ops S Z ((i,d)::l) a:=⟨oi,v,hi,hd,.inl ⟨hw,hy⟩,h⟩
theorem rq{i d:Nat}{l:List (Nat×Nat)}{oi:Oper}{a:Act}(hi:ops[i]? =some oi)(hd:oi.dst=some d)(hw:Region.wanted oi (yielded ops a.tmps)=false)
(h:pK P ops S Z l (a.put (some d) undef)):pK P ops S Z ((i,d)::l) a:=⟨oi,undef,hi,hd,.inr ⟨hw,rfl⟩,h⟩
theorem bJ(k:Nat)(l:List (Nat×Nat)){fuel:Nat}{listed:Array Bool}{a:Act}{w:World}(hk:l.length=k)(hs:Region.noSelect ops=true)(hc:aOD md ops l listed=true)
(hQ:∀(d:Nat) c a v w,Q (.panic c) (Act.put a (some d) v) w->Q (.panic c) a w)(hS:S w)(h:pK P ops S (fun a'=>wpAnyH P md ops Q S fuel (aH3 l listed) a' w) l a):wpAnyH P md ops Q S (fuel+k) listed a w:=by
 subst hk;induction l generalizing listed a with
 |nil=>exact h
 |cons x l ih=>
  obtain⟨i,d⟩:=x;obtain⟨oi,v,hi,hd,hy,h⟩:=h;simp only[aOD,Bool.and_eq_true]at hc;exact wpAnyH_take (fuel:=fuel+l.length) hi hs hc.1.1 hc.1.2 (fun c a w h9=>hQ d c a v w (by rw[hd]at h9;exact h9)) hy hS (by rw[hd];exact ih hc.2 h)
theorem dO(i:Nat){fuel:Nat}{listed:Array Bool}{a:Act}{w:World}{o:Oper}(ho:ops[i]? =some o)(hr:Region.ready md ops listed=[i])
(h:∀K':Act->World->Prop,Shut (∀a w,S w->(S w->wpAnyH P md ops Q S fuel (listed.setIfInBounds i true) a w)->K' a w)->if Region.wanted o (yielded ops a.tmps)=true then Oper.wp P o a w K' Q else K' (a.put o.dst undef) w):wpAnyH P md ops Q S (fuel+1) listed a w:=
 wpAnyH_ready (rs:=[i]) hr (by simp) (AllReadyH.cons (i:=i) (o:=o) ho h AllReadyH.nil)
end
theorem ak.setCells{g:Nat}{t:TypeId}:∀(vs:List Value)(o:Nat)(cs:List Value)(w:World),ak w g t cs->o+vs.length<=cs.length->ak (w.setCells g o vs) g t (cs.take o++vs++cs.drop (o+vs.length))
 |[],o,cs,w,h,_=>by
  rw[World.setCells,List.append_nil,List.length_nil,Nat.add_zero,List.take_append_drop];exact h
 |v::r,o,cs,w,h,hl=>by
  rw[World.setCells];rw[List.length_cons]at hl ⊢;have h1:=ak.setCells r (o+1) (cs.set o v) (w.setCell (tZ g o) v) (h.uh o v) (by rw[List.length_set];omega);have e1:(cs.set o v).take (o+1)=cs.take o++[v]:=by
   rw[List.take_add_one,List.take_set_of_le (Nat.le_refl _),List.getElem?_set_self (by omega)];rfl
  have e2:(cs.set o v).drop (o+1+r.length)=cs.drop (o+(r.length+1)):=by
   rw[List.drop_set_of_lt (by omega)];congr 1
   omega
  rw[e1,e2]at h1;simp only[List.append_assoc,List.cons_append,List.nil_append]at h1 ⊢;exact h1
theorem ak.aQc{g:Nat}{t:TypeId}{cs:List Value}{w:World}(h:ak w g t cs)(vs:List Value)(hl:vs.length=cs.length):ak (w.setCells g 0 vs) g t vs:=by
 have:=ak.setCells vs 0 cs w h (by omega);rw[List.take_zero,List.nil_append,List.drop_eq_nil_of_le (by omega),List.append_nil]at this;exact this
theorem gB(g:Nat):∀(vs:List Value)(o:Nat)(w:World),(w.setCells g o vs).os=w.os/\(w.setCells g o vs).tape=w.tape/\(w.setCells g o vs).output=w.output/\(w.setCells g o vs).heap.size=w.heap.size/\∀k,k≠g->(w.setCells g o vs).heap[k]? =w.heap[k]?
 |[],_,_=>⟨rfl,rfl,rfl,rfl,fun _ _=>rfl⟩
 |v::r,o,w=>by
  rw[World.setCells];obtain⟨h1,h2,h3,h4,h5⟩:=gB g r (o+1) (w.setCell (tZ g o) v);exact⟨h1,h2,h3,h4.trans (by simp[World.setCell]),fun k hk=>(h5 k hk).trans (Below.heap_setCell w ⟨g,o,none⟩ v k hk)⟩
section
theorem aOI(n:Nat)(h1:n<=16)(w:World):Calls prog 382 #[iV (n:Int)] w fun e w'=>e=.returned (iV (n:Int))/\w'=w:=by
 have g1:max (n:Int) 0=(n:Int):=by omega
 have g2:min (n:Int) 16=(n:Int):=by omega
 go_enter func382,ntmps382;go_wp2_with fail;go_ret;exact⟨rfl,rfl⟩
def fP(k:Nat):Nat:=2^k-1
theorem aN2:∀i,i<10->bits BinOp.or IntKind.i64 ((fP i:Nat):Int) (wrap64 (2^i))=((fP (i+1):Nat):Int):=by decide+kernel
theorem aMX:∀k,k<11->∀i,i<16->(bits BinOp.and IntKind.i64 (((fP k:Nat):Int)/2^i) 1 !=0)=decide (i<k):=by decide+kernel
theorem aIO(i:Nat)(h1:i<10)(w:World):Calls prog 305 #[iV (fP i:Int),iV (i:Int)] w fun e w'=>e=.returned (iV (fP (i+1):Int))/\w'=w:=by
 have hv:=aN2 i h1;have g1:decide ((i:Int)<0)=false:=by simp
 have g2:decide ((16:Int)<=(i:Int))=false:=by simp;omega
 generalize fP (i+1)=R at*
 generalize fP i=S at*
 have HV:=hid hv;clear hv;go_enter func305,ntmps305;go_wp2_with fail;go_ret;exact⟨by rw[HV.out];rfl,rfl⟩
theorem aIn(k i:Nat)(h0:k<11)(h1:i<16)(w:World):Calls prog 303 #[iV (fP k:Int),iV (i:Int)] w fun e w'=>e=.returned (.bool (decide (i<k)))/\w'=w:=by
 have hv:=aMX k h0 i h1;have g1:decide (0<=(i:Int))=true:=by simp
 have g2:decide ((i:Int)<16)=true:=by simp;omega
 generalize decide (i<k)=R at*
 generalize fP k=S at*
 have HV:=hid hv;clear hv;go_enter func303,ntmps303;go_wp2_with fail;go_ret;exact⟨by rw[HV.out];rfl,rfl⟩
end
theorem aM0(s n:Int)(w:World):Calls prog 321 #[iV s,iV n] w fun e w'=>e=.returned (.func (Fn.func 381) #[] #[.pointer (some (tZ (w.heap.size+1) 0)),.pointer (some (tZ w.heap.size 0))])/\w'=(w.alloc (.cells #[iV s] 3)).alloc (.cells #[iV n] 3):=by
 go_enter func321,ntmps321;go_wp2_with fail;go_ret;exact⟨rfl,rfl⟩
section
open Go.Shelf
attribute [local go_sem] Oper.semAt_some
theorem aHN(m Bn Bs n₀:Nat)(hm:m<=10)(w:World)(hBn:Bn<n₀)(hBs:Bs<n₀)(hn₀:n₀<=w.heap.size)(c1:w.cell? (tZ Bn 0)=some (iV (m:Int)))(c2:w.cell? (tZ Bs 0)=some (iV (fP m:Int))):
  SeqStopsK Fence.wide 2 prog 381 #[.pointer (some (tZ Bn 0)),.pointer (some (tZ Bs 0))] (fun x:Nat=> #[iV (x:Int),.bool true]) (Below n₀) (fun ys=>ys=List.range m) (fun _=>True) m w:=fun l J Jx W hW _ _ hY h0=>by
 have hb0:Below n₀ w W:=hW.mono hn₀;have d1:W.cell? (tZ Bn 0)=some (iV (m:Int)):=(hb0.cell (p:=⟨Bn,0,none⟩) hBn).trans c1;have i1:=hid (aOI m (by omega) W);clear c1;refine callsIn_of_wp func381 rfl trivial ?_ rfl;simp only[ntmps381,List.size_toArray,List.length_cons,List.length_nil,Nat.reduceAdd,Nat.reduceSub,Array.replicate_succ,Array.replicate_zero,List.push_toArray,List.append_toArray,List.nil_append,List.cons_append];gi_wp2_with (refine⟨trivial,?_⟩;gi_at_call 382;refine(callsIn_wide.2 i1.out).mono ?_;rintro e w' ⟨rfl,rfl⟩)
 clear i1 d1;gi_loopw [7] (fun v7 wr=>∃i:Nat,i<=m/\v7=iV (i:Int)/\J (List.range i) wr/\Below n₀ w' wr) (fun v7 _=>m-(intOf v7).toNat)
 case atStart=>exact⟨0,by omega,rfl,h0,Below.refl _ _⟩
 case round=>
  obtain⟨i,hi,rfl,hJ,hB⟩:=hrel;by_cases him:i<m
  ·have hd:decide ((i:Int)<(m:Int))=true:=decide_eq_true (by omega);have d2:wr.cell? (tZ Bs 0)=some (iV (fP m:Int)):=(hB.cell (p:=⟨Bs,0,none⟩) hBs).trans ((hb0.cell (p:=⟨Bs,0,none⟩) hBs).trans c2);have i2:=hid (aIn m i (by omega) (by omega) wr);rw[show decide (i<m)=true by simpa using him]at i2;obtain⟨fn,tmps,assign,body,hy,hR⟩:=hY (List.range i) i wr hJ (by rw[List.length_range];exact him);try dsimp only at hy
   have HR:=hid hR;clear hR;gi_wp2_with (refine⟨trivial,?_⟩;gi_at_call 303;refine(callsIn_wide.2 i2.out).mono ?_;rintro e w' ⟨rfl,rfl⟩)
   refine HR.out.mono ?_;rintro e W3 (⟨rfl,hJ3,hk3⟩|⟨rfl,CS⟩)
   ·gi_wp2
    go_roundw;case rel=>exact⟨i+1,by omega,by go_num,by rw[List.range_succ];exact hJ3,hB.trans hk3⟩
    case measure=>simp[intOf];omega
   ·gi_wp2
    refine bodyPost_ret (results_none rfl _ _ _) rfl ?_;exact⟨⟨_,rfl⟩,.inr ⟨_,trivial,CS⟩⟩
  ·obtain rfl:i=m:=by omega
   have hd:decide ((i:Int)<(i:Int))=false:=decide_eq_false (by omega);gi_wp2
   go_end0
   exact⟨⟨_,rfl⟩,.inl ⟨_,rfl,hJ⟩⟩
theorem aGP(k:Nat)(hk:k<=10)(w:World):Calls prog 261 #[iV (fP k:Int),iV (k:Int)] w fun e w'=>e=.returned (.tuple #[iV 0,.bool false])/\Below w.heap.size w w':=by
 have i1:=hid (aM0 (fP k) k);refine(callsIn_wide (n:=3)).1 ?_;refine callsIn_of_wp_marks func261 rfl trivial ?_ rfl;simp only[ntmps261,List.size_toArray,List.length_cons,List.length_nil,Nat.reduceAdd,Nat.reduceSub,Array.replicate_succ,Array.replicate_zero,List.push_toArray,List.append_toArray,List.nil_append,List.cons_append];gi_wp2_with (refine⟨trivial,?_⟩;gi_at_call 321;refine(callsIn_wide.2 (i1.out _)).mono ?_;rintro e w' ⟨rfl,rfl⟩)
 have e0:(w.alloc (.cells #[iV 0] 3)).heap.size=w.heap.size+1:=by simp
 obtain⟨W,hW,r0,r1,f0,f1,b0,b1,zG,hsz⟩:∃W,(((w.alloc (.cells #[iV 0] 3)).alloc (.cells #[.bool false] 4)).alloc (.cells #[iV (fP k:Int)] 3)).alloc (.cells #[iV (k:Int)] 3)=W/\
   W.cell? (tZ w.heap.size 0)=some (iV 0)/\W.cell? (tZ (w.heap.size+1) 0)=some (.bool false)/\W.frozen? (tZ w.heap.size 0)=false/\W.frozen? (tZ (w.heap.size+1) 0)=false/\
   W.cell? (tZ (w.heap.size+1+1) 0)=some (iV (fP k:Int))/\W.cell? (tZ (w.heap.size+1+1+1) 0)=some (iV (k:Int))/\Below w.heap.size w W/\W.heap.size=w.heap.size+4:=by
  have h0:=(((ak.new w 3 [iV 0]).alloc (.cells #[.bool false] 4)).alloc (.cells #[iV (fP k:Int)] 3)).alloc (.cells #[iV (k:Int)] 3);have h1:=((ak.new (w.alloc (.cells #[iV 0] 3)) 4 [.bool false]).alloc (.cells #[iV (fP k:Int)] 3)).alloc (.cells #[iV (k:Int)] 3);have h2:=(ak.new ((w.alloc (.cells #[iV 0] 3)).alloc (.cells #[.bool false] 4)) 3 [iV (fP k:Int)]).alloc (.cells #[iV (k:Int)] 3);have h3:=ak.new (((w.alloc (.cells #[iV 0] 3)).alloc (.cells #[.bool false] 4)).alloc (.cells #[iV (fP k:Int)] 3)) 3 [iV (k:Int)];simp only[World.size_alloc]at h1 h2 h3;refine⟨_,rfl,h0.cellAt rfl,h1.cellAt rfl,h0.frozen 0,h1.frozen 0,h2.cellAt rfl,h3.cellAt rfl,((((Below.refl _ w).alloc (Nat.le_refl _) _).alloc (by simp) _).alloc (by simp;omega) _).alloc (by simp;omega) _,by simp⟩
 rw[hW];clear hW i1 e0;refine wpIn_rangeFunc_ownF rfl (by omega) (gf:=381) (lb:= #[.pointer (some (tZ (w.heap.size+1+1+1) 0)),.pointer (some (tZ (w.heap.size+1+1) 0))]) rfl trivial (enters_of func381 (by kernel_rfl) rfl)
  (aHN k (w.heap.size+1+1+1) (w.heap.size+1+1) W.heap.size hk W (by omega) (by omega) (Nat.le_refl _) b1 b0) belowK_t (belowK_b (Nat.le_refl _)) (Below.refl _ _) (fun _=>rfl)
  (fun pre W'=>(W'.cell? (tZ w.heap.size 0)=some (iV 0)/\W'.cell? (tZ (w.heap.size+1) 0)=some (.bool false)/\W'.frozen? (tZ w.heap.size 0)=false/\W'.frozen? (tZ (w.heap.size+1) 0)=false)/\Below w.heap.size w W')
  (fun _ _ _=>False)
  (OwnFrom.and (Own.from (fun s A B row hs hg hr=>⟨cell_kept hs.1 hg hr,cell_kept hs.2.1 hg hr,(frozen_kept hs.1 hg hr).trans hs.2.2.1,(frozen_kept hs.2.1 hg hr).trans hs.2.2.2⟩) _) (ownFrom_below (Nat.le_refl _) (by omega)))
  (fun _ _ _ _ _ hs _ _=>hs)
  ⟨⟨r0,r1,f0,f1⟩,zG⟩
  (fun x=>{tmps:= #[iV (fP k:Int),iV (k:Int),undef,undef,.pointer (some (tZ w.heap.size 0)),.pointer (some (tZ (w.heap.size+1) 0)),iV (x:Int),.bool true,iV (fP k:Int),iV (k:Int),.func (.func 381) #[] #[.pointer (some (tZ (w.heap.size+1+1+1) 0)),.pointer (some (tZ (w.heap.size+1+1) 0))],iV (x:Int),.bool true,undef,undef,undef],defers:=[]}) ?assign ?body ?done ?stop
 case assign=>
  intro l x W K hK;gi_wp2
  exact hK
 case body=>
  rintro l pre x W'⟨⟨hc0,hc1,hf0,FN⟩,hB⟩ _;gi_wp2
  exact⟨KeepsOthers.refl _,Below.refl _ _,⟨hc0,hc1,hf0,FN⟩,hB⟩
 case done=>
  rintro D ys W' hD rfl⟨⟨hc0,hc1,hf0,FN⟩,hB⟩ hK;gi_wp2
  have hK1:=(KeepsOthers.setCell W' ⟨w.heap.size,0,none⟩ (iV 0)).same D _ hK rfl;have hK2:=(KeepsOthers.setCell (W'.setCell (tZ w.heap.size 0) (iV 0)) ⟨w.heap.size+1,0,none⟩ (.bool false)).same D _ hK1 rfl;have h0:(W'.setCell (tZ w.heap.size 0) (iV 0)).cell? (tZ w.heap.size 0)=some (iV 0):=World.cell?_setCell_same' _ _ _ (by rw[hc0];rfl);have h1:(W'.setCell (tZ w.heap.size 0) (iV 0)).cell? (tZ (w.heap.size+1) 0)=some (.bool false):=(World.cell?_setCell_other _ _ _ _ (by simp)).trans hc1;have h2:((W'.setCell (tZ w.heap.size 0) (iV 0)).setCell (tZ (w.heap.size+1) 0) (.bool false)).cell? (tZ w.heap.size 0)=some (iV 0):=(World.cell?_setCell_other _ _ _ _ (by simp)).trans h0;have h3:((W'.setCell (tZ w.heap.size 0) (iV 0)).setCell (tZ (w.heap.size+1) 0) (.bool false)).cell? (tZ (w.heap.size+1) 0)=some (.bool false):=World.cell?_setCell_same' _ _ _ (by rw[h1];rfl);have AO:=(hB.setCell (p:=⟨w.heap.size,0,none⟩) (Nat.le_refl _) (iV 0)).setCell (p:=⟨w.heap.size+1,0,none⟩) (by simp) (.bool false);generalize (W'.setCell (tZ w.heap.size 0) (iV 0)).setCell (tZ (w.heap.size+1) 0) (.bool false)=W3 at hK2 h2 h3 AO ⊢;refine⟨by simp,.inl ⟨_,_,rfl,run_takeDeferred hK2,?_⟩⟩;have r5:=cell_kept h2 (grownBy_putObj' _ D (.deferred none)) (fun r e=>by cases e;exact⟨_,hK2,rfl⟩);have r6:=cell_kept h3 (grownBy_putObj' _ D (.deferred none)) (fun r e=>by cases e;exact⟨_,hK2,rfl⟩)
  refine⟨.tuple #[iV 0,.bool false],?_,rfl,AO.trans (belowK_b (w:=w) (Nat.le_refl _) _ D _ _ (by omega) hK2 rfl rfl)⟩;simp[results,Tryz.f261,go_sem,r5,r6]
 case stop=>
  rintro D c pre W _ _ h _;exact h.elim
end
def qh(v:oz):List Value:=[wV v.a,wV v.b,wV v.c,wV v.d,wV v.e,wV v.f,wV v.g,wV v.h]
def rJ(r:Nat):List (BitVec 32):=(qP.drop (8*r)).take 8
theorem aMp(r:Nat)(h:r<8):(rJ r).length=8:=by
 simp[rJ,qP];omega
theorem aMy(r i:Nat)(h:i<8):(rJ r).getD i 0=qP.getD (8*r+i) 0:=by
 simp[rJ,List.getD_eq_getElem?_getD,h]
theorem aMv(r:Nat)(h:r<8):∀w,(Instr.index 484 (.agg (qP.map wV).toArray) (iV (r:Int))).run prog w=.ok (.agg ((rJ r).map wV).toArray) w:=by
 have:r=0\/r=1\/r=2\/r=3\/r=4\/r=5\/r=6\/r=7:=by omega
 rcases this with rfl|rfl|rfl|rfl|rfl|rfl|rfl|rfl<;>(intro w;kernel_rfl)
theorem aI9(l:List (BitVec 32))(hl:l.length=8)(i:Nat)(h:i<8):∀w,(Instr.index 373 (.agg (l.map wV).toArray) (iV (i:Int))).run prog w=.ok (wV (l.getD i 0)) w:=by
 match l,hl with
 |[a0,a1,a2,a3,a4,a5,a6,a7],_=>
  have:i=0\/i=1\/i=2\/i=3\/i=4\/i=5\/i=6\/i=7:=by omega
  rcases this with rfl|rfl|rfl|rfl|rfl|rfl|rfl|rfl<;>(intro w;kernel_rfl)
theorem aG0(l:List Value)(h:l.length=8):(prog.info? 373).map (·.size)=some l.toArray.size:=by
 have:(prog.info? 373).map (·.size)=some 8:=by kernel_rfl
 rw[this];simp[h]
theorem aAc{w w':World}{g:Nat}(h:Below w.heap.size w w'):w.grownBy w' (some g):=⟨h.os,h.tape,h.output,h.size,fun b hb _=>h.block b hb⟩
theorem dQ{w w':World}{g:Nat}(h:w.grownBy w' (some g))(i:Nat)(v:Value):w.grownBy (w'.setCell (tZ g i) v) (some g):=
 ⟨h.os,h.tape,h.output,by simpa using h.size,fun b hb hn=>(heap_setCell_other w' ⟨g,i,none⟩ b v (fun e=>hn (by rw[e]))).trans (h.block b hb hn)⟩
theorem aJL(v:oz):(prog.info? 368).map (·.size)=some (qh v).toArray.size:=by
 have:(prog.info? 368).map (·.size)=some 8:=by kernel_rfl
 rw[this];rfl
theorem aIP(v:oz):(qh v).toArray.all (·.oneCell')=true:=by simp[qh,Value.oneCell']
theorem aGC(g:Nat)(s:mO)(w:World)(h:ak w g 370 (gV s))(hp:s.part.length=64):
  Calls prog 312 #[.pointer (some (tZ g 0))] w fun e w'=>e=.returned (.tuple #[])/\ak w' g 370 (gV ⟨Nr s.part s.v,s.part,s.n⟩)/\w.grownBy w' (some g):=by
 have hz:=aCZ;have hzs:=aAE;have hg:=h.lt;have HB:=hid h;have qw:=hid (aF7 g s w h hp);obtain⟨c0,c1,c2,c3,c4,c5,c6,c7⟩:_/\_/\_/\_/\_/\_/\_/\_:=⟨h.cellAt (i:=0) rfl,h.cellAt (i:=1) rfl,h.cellAt (i:=2) rfl,h.cellAt (i:=3) rfl,h.cellAt (i:=4) rfl,h.cellAt (i:=5) rfl,h.cellAt (i:=6) rfl,h.cellAt (i:=7) rfl⟩;have HP:=hid hp;clear h hp;obtain⟨WL,GY⟩:∃WL,eH s.part 64=WL:=⟨_,rfl⟩;have BM:Hid (∀n,n=64->WL.length=n):=hid (fun n hn=>by rw[<-GY,hn];exact fJ s.part 64);have HF:Hid (∀n,n=64->Nr s.part s.v=s.v.plus (jW WL s.v n)):=hid (fun n hn=>by rw[<-GY,hn];rfl);rw[GY]at qw;clear GY;generalize Nr s.part s.v=FV at*
 go_enter func312,ntmps312;go_wp2_with fail;refine qw.out.mono ?_;rintro e w1⟨rfl,hb1⟩;have xO:=HB.out.belowS hb1;clear c0 c1 c2 c3 c4 c5 c6 c7;have hg1:g<w1.heap.size:=xO.lt;have hgn:g≠w1.heap.size:=by omega
 obtain⟨w2,hw2,zh,hb2,vZ⟩:∃w2:World,w1.alloc (.cells (WL.map wV).toArray 481)=w2/\w2.heap.size=w1.heap.size+1/\Below w1.heap.size w1 w2/\ak w2 w1.heap.size 481 (WL.map wV):=
  ⟨_,rfl,by simp,(Below.refl _ _).alloc (Nat.le_refl _) _,ak.new w1 _ _⟩
 have Hg:=hid hw2;obtain⟨w3,hw3,yg,hb3,uM⟩:∃w3:World,w2.alloc (.cells #[wV s.v.a,wV s.v.b,wV s.v.c,wV s.v.d,wV s.v.e,wV s.v.f,wV s.v.g,wV s.v.h] 368)=w3/\w3.heap.size=w2.heap.size+1/\Below w2.heap.size w2 w3/\ak w3 w2.heap.size 368 (qh s.v):=
  ⟨_,rfl,by simp,(Below.refl _ _).alloc (Nat.le_refl _) _,ak.new w2 _ _⟩
 have Kz:=hid hw3;have AO:=xO.belowS hb2;obtain⟨d0,d1,d2,d3,d4,d5,d6,d7⟩:_/\_/\_/\_/\_/\_/\_/\_:=⟨AO.cellAt (i:=0) rfl,AO.cellAt (i:=1) rfl,AO.cellAt (i:=2) rfl,AO.cellAt (i:=3) rfl,AO.cellAt (i:=4) rfl,AO.cellAt (i:=5) rfl,AO.cellAt (i:=6) rfl,AO.cellAt (i:=7) rfl⟩;have hgn2:g≠w2.heap.size:=by omega
 have uz:=hid AO;have HVW:=hid (vZ.belowS hb3);have HVV:=hid uM;have H12:=hid (hb1.trans ((hb2.mono hb1.size).trans (hb3.mono (by have:=hb1.size;omega))));have G0:=hid (And.intro zh yg);have hs1:=hb1.size;clear hw2 hw3 hb1 hb2 hb3 vZ uM xO AO zh yg;go_wp2_with (refine wpList_store_row rfl 481 _ _ rfl w1.heap.size (WL.map wV).toArray rfl rfl 481 nT (heap_alloc_new w1 _) (aB3 _ (by simp[BM.out 64 rfl])) (by simp[BM.out 64 rfl,aAE]) (aBL _) ?_;rw[World.setRow_alloc_new,Hg.out])
 rw[show(w2.alloc (.cells #[Value.int IntKind.u32 (s.v.a.toNat:Int),Value.int IntKind.u32 (s.v.b.toNat:Int),Value.int IntKind.u32 (s.v.c.toNat:Int),Value.int IntKind.u32 (s.v.d.toNat:Int),Value.int IntKind.u32 (s.v.e.toNat:Int),Value.int IntKind.u32 (s.v.f.toNat:Int),Value.int IntKind.u32 (s.v.g.toNat:Int),Value.int IntKind.u32 (s.v.h.toNat:Int)] 368))=w3 from Kz.out];refine(aBK w3).mono ?_;rintro e w4⟨rfl,hb4⟩;have vZ:=HVW.out.belowS hb4;have uM:=HVV.out.belowS hb4;have ui:=H12.out.trans (hb4.mono (by have:=G0.out.1;have:=G0.out.2;omega));have aSW:=hid (fun r hr=>aMv r hr);obtain⟨KA,Nv⟩:∃KA,(qP.map wV).toArray=KA:=⟨_,rfl⟩;rw[Nv]at aSW ⊢;have hs3:w3.heap.size=w1.heap.size+1+1:=by have:=G0.out.1;have:=G0.out.2;omega
 have hs2:w2.heap.size=w1.heap.size+1:=G0.out.1;rw[hs2]at uM ⊢;clear Nv hb4 HVW HVV Hg Kz d0 d1 d2 d3 d4 d5 d6 d7 hz hzs hgn2 uz;generalize w1.heap.size=bw at*
 have HSS:=hid (And.intro hs2 hs3);clear hs2 hs3;go_wp2_with fail;go_loopw [17] (fun v17 wr=>∃r:Nat,r<=8/\v17=iV (r:Int)/\ak wr bw 481 (WL.map wV)/\ak wr (bw+1) 368 (qh (jW WL s.v (8*r)))/\Below w.heap.size w wr) (fun v17 _=>8-(intOf v17).toNat)
 case atStart=>exact⟨0,by omega,rfl,vZ,uM,ui⟩
 case round=>
  clear vZ uM ui;obtain⟨r,hr,rfl,vZ,uM,ui⟩:=hrel;obtain⟨wo,rfl⟩:∃wo:World,wo=wr:=⟨_,rfl⟩;by_cases yR:r<8
  ·have hdr:decide ((r:Int)<8)=true:=by simp;omega
   have hrow:=aSW.out r yR;obtain⟨wa,KC,aSX,yK⟩:∃wa:World,wo.alloc (.cells ((rJ r).map wV).toArray 373)=wa/\wa.heap.size=wo.heap.size+1/\Below wo.heap.size wo wa:=⟨_,rfl,by simp,(Below.refl _ _).alloc (Nat.le_refl _) _⟩;have HWA:=hid KC;have BN:Hid (ak wa wo.heap.size 373 ((rJ r).map wV)):=hid (by rw[<-KC];exact ak.new wo _ _);have aSY:=vZ.belowS yK;have aSZ:=uM.belowS yK;have aT0:=ui.trans (yK.mono ui.size);have HSA:=hid aSX;have hlW:=vZ.lt;have hRL:=hid (aMp r yR);have H1:=hid aSY;have H2:=hid aSZ;have H3:=hid aT0;clear KC yK aSY aSZ aT0 vZ uM ui aSX;go_wp2_with (first
    |(refine wpList_store_row rfl 373 _ _ rfl wo.heap.size ((rJ r).map wV).toArray rfl rfl 373 #[.int .u32 0,.int .u32 0,.int .u32 0,.int .u32 0,.int .u32 0,.int .u32 0,.int .u32 0,.int .u32 0] (heap_alloc_new wo _) (aG0 _ (by simp[hRL.out])) (by simp[hRL.out]) (aBL _) ?_;rw[World.setRow_alloc_new,HWA.out])
    |(refine wpList_load_row rfl 373 _ rfl wo.heap.size rfl 373 ((rJ r).map wV).toArray (0,0) _ BN.out underlying373 rfl (aG0 _ (by simp[hRL.out])) ?_))
   clear hrow;go_loopw [22] (fun v22 wr=>∃i:Nat,i<=8/\v22=iV (i:Int)/\ak wr bw 481 (WL.map wV)/\ak wr (bw+1) 368 (qh (jW WL s.v (8*r+i)))/\Below w.heap.size w wr) (fun v22 _=>8-(intOf v22).toNat)
   case atStart=>exact⟨0,by omega,rfl,H1.out,H2.out,H3.out⟩
   case round=>
    clear H1 H2 H3;obtain⟨i,hi,rfl,vZ,uM,ui⟩:=hrel;by_cases Nw:i<8
    ·have Aq:=aI9 (rJ r) hRL.out i Nw;rw[aMy r i Nw]at Aq;have hwc:wr.cell? (tZ bw (8*r+i))=some (wV (WL.getD (8*r+i) 0)):=vZ.cellAt (by
      have:8*r+i<WL.length:=by rw[BM.out 64 rfl];omega
      rw[List.getElem?_map,List.getD_eq_getElem?_getD,List.getElem?_eq_getElem this];rfl)
     have HN:Hid (jW WL s.v (8*r+(i+1))=(jW WL s.v (8*r+i)).round (qP.getD (8*r+i) 0+WL.getD (8*r+i) 0)):=hid rfl;have hadd:=fU (qP.getD (8*r+i) 0) (WL.getD (8*r+i) 0);generalize hk:qP.getD (8*r+i) 0=xk at*
     generalize WL.getD (8*r+i) 0=xw at*
     generalize xk+xw=xs at*
     generalize jW WL s.v (8*r+i)=V at*
     have hw1:IntKind.i64.wrap (8*(r:Int))=8*(r:Int):=IntWalk.i64_in _ (by omega);have hw2:IntKind.i64.wrap (8*(r:Int)+(i:Int))=((8*r+i:Nat):Int):=by rw[IntWalk.i64_in _ (by omega)];omega
     have hw3:IntKind.u32.wrap ((xk.toNat:Int)+(xw.toNat:Int))=(xs.toNat:Int):=hadd;have hq:=hid (fun w=>aEM V xs w);obtain⟨c0,c1,c2,c3,c4,c5,c6,c7⟩:_/\_/\_/\_/\_/\_/\_/\_:=⟨uM.cellAt (i:=0) rfl,uM.cellAt (i:=1) rfl,uM.cellAt (i:=2) rfl,uM.cellAt (i:=3) rfl,uM.cellAt (i:=4) rfl,uM.cellAt (i:=5) rfl,uM.cellAt (i:=6) rfl,uM.cellAt (i:=7) rfl⟩;have h0:8*r+i<64:=by omega
     have HJ:Hid (∀n,n=8*r+i->n<64):=hid (fun n hn=>by omega);clear h0 hadd hk;generalize 8*r+i=j at*
     have hj0:(0:Int)<=(j:Int):=by omega
     have hj64:(j:Int)<64:=by have:=HJ.out j rfl;omega
     have IZ:=hid vZ;have HBV:=hid uM;have yh:=hid ui;clear vZ uM ui HJ;go_wp2_with fail;go_still_tail 9,(by kernel_rfl)
     clear c0 c1 c2 c3 c4 c5 c6 c7;go_wp2_with (first
      |(go_at_call 376;refine(hq.out _).mono ?_;rintro e w5 ⟨rfl,vP⟩;have uP:Below wr.heap.size wr w5:=⟨vP.os,vP.tape,vP.output,vP.size,vP.block⟩;clear vP;have HV5:=hid (HBV.out.belowS uP))
      |(refine wpList_store_row rfl 368 _ _ rfl (bw+1) (qh (V.round xs)).toArray rfl rfl 368 (qh V).toArray HV5.out (aJL _) rfl (aIP _) ?_))
     have hb1:ak (w5.setRow (bw+1) (qh (V.round xs)).toArray) (bw+1) 368 (qh (jW WL s.v (8*r+(i+1)))):=by
      rw[HN.out];exact setRow_heap w5 (bw+1) _ _ _ (0,0) HV5.out
     have hb2:ak (w5.setRow (bw+1) (qh (V.round xs)).toArray) bw 481 (WL.map wV):=(setRow_other w5 (bw+1) bw _ (by omega)).trans (IZ.out.belowS uP);have hb3:=aAv (yh.out.trans (uP.mono yh.out.size)) (bw+1) (qh (V.round xs)).toArray (by omega);generalize w5.setRow (bw+1) (qh (V.round xs)).toArray=w6 at*
     have K1:=hid hb1;have K2:=hid hb2;have K3:=hid hb3;clear hb1 hb2 hb3 hw1 hw2 hw3 Aq hwc uP;go_wp2_with fail;go_roundw;case rel=>exact⟨i+1,by omega,by go_num,K2.out,K1.out,K3.out⟩
     case measure=>simp[intOf];omega
    ·obtain rfl:i=8:=by omega
     rw[show 8*r+8=8*(r+1) by omega]at uM;go_wp2_with fail;go_roundw;case rel=>exact⟨r+1,by omega,by go_num,vZ,uM,ui⟩
     case measure=>simp[intOf];omega
  ·obtain rfl:r=8:=by omega
   have hBg:=HB.out.below ui hg;obtain⟨d0,d1,d2,d3,d4,d5,d6,d7⟩:_/\_/\_/\_/\_/\_/\_/\_:=⟨hBg.cellAt (i:=0) rfl,hBg.cellAt (i:=1) rfl,hBg.cellAt (i:=2) rfl,hBg.cellAt (i:=3) rfl,hBg.cellAt (i:=4) rfl,hBg.cellAt (i:=5) rfl,hBg.cellAt (i:=6) rfl,hBg.cellAt (i:=7) rfl⟩;obtain⟨c0,c1,c2,c3,c4,c5,c6,c7⟩:_/\_/\_/\_/\_/\_/\_/\_:=⟨uM.cellAt (i:=0) rfl,uM.cellAt (i:=1) rfl,uM.cellAt (i:=2) rfl,uM.cellAt (i:=3) rfl,uM.cellAt (i:=4) rfl,uM.cellAt (i:=5) rfl,uM.cellAt (i:=6) rfl,uM.cellAt (i:=7) rfl⟩;have DD:=hid hBg;have yE:=hid ui;clear vZ uM hBg ui;have hFV:=HF.out (8*8) rfl;have hq:=hid (fun w=>aFZ s.v (jW WL s.v (8*8)) w);rw[<-hFV]at hq;have HFV:=hid hFV;clear hFV;generalize jW WL s.v (8*8)=V at*
   have Ia:=DD.out.lt;go_wp2_with fail;go_region_law (go_simp;go_at_call 379;refine(hq.out _).mono ?_;rintro e w5 ⟨rfl,vP⟩;have uP:Below wo.heap.size wo w5:=⟨vP.os,vP.tape,vP.output,vP.size,vP.block⟩;clear vP;have uZ:=DD.out.belowS uP;obtain⟨x0,x1,x2,x3,x4,x5,x6,x7⟩:_/\_/\_/\_/\_/\_/\_/\_:=⟨uZ.cellAt (i:=0) rfl,uZ.cellAt (i:=1) rfl,uZ.cellAt (i:=2) rfl,uZ.cellAt (i:=3) rfl,uZ.cellAt (i:=4) rfl,uZ.cellAt (i:=5) rfl,uZ.cellAt (i:=6) rfl,uZ.cellAt (i:=7) rfl⟩;obtain⟨y0,y1,y2,y3,y4,y5,y6,y7⟩:_/\_/\_/\_/\_/\_/\_/\_:=⟨uZ.frozen 0,uZ.frozen 1,uZ.frozen 2,uZ.frozen 3,uZ.frozen 4,uZ.frozen 5,uZ.frozen 6,uZ.frozen 7⟩)
   all_goals(
    have hX:=(((((((uZ.uh 0 (wV FV.a)).uh 1 (wV FV.b)).uh 2 (wV FV.c)).uh 3 (wV FV.d)).uh 4 (wV FV.e)).uh 5 (wV FV.f)).uh 6 (wV FV.g)).uh 7 (wV FV.h);have hG:=dQ (dQ (dQ (dQ (dQ (dQ (dQ (dQ (aAc (g:=g) (yE.out.trans (uP.mono yE.out.size))) 0 (wV FV.a)) 1 (wV FV.b)) 2 (wV FV.c)) 3 (wV FV.d)) 4 (wV FV.e)) 5 (wV FV.f)) 6 (wV FV.g)) 7 (wV FV.h);generalize (((((((w5.setCell (tZ g 0) (wV FV.a)).setCell (tZ g 1) (wV FV.b)).setCell (tZ g 2) (wV FV.c)).setCell (tZ g 3) (wV FV.d)).setCell (tZ g 4) (wV FV.e)).setCell (tZ g 5) (wV FV.f)).setCell (tZ g 6) (wV FV.g)).setCell (tZ g 7) (wV FV.h)=w6 at*
    go_wp2_with fail;go_end0
    exact⟨rfl,hX,hG⟩)
theorem aA3{a b c:World}{g:Nat}(h:a.grownBy b (some g))(k:b.grownBy c (some g)):a.grownBy c (some g):=
 ⟨k.os.trans h.os,k.tape.trans h.tape,k.output.trans h.output,Nat.le_trans h.size k.size,fun i hi hn=>(k.block i (Nat.lt_of_lt_of_le hi h.size) hn).trans (h.block i hi hn)⟩
theorem nO(s:mO)(hp:s.part.length=64):(gV s)[72]? =some (iV (s.n:Int)):=by
 unfold gV;rw[List.getElem?_append_right (by simp[hp])];simp[hp]
theorem aFn(s:mO)(i:Nat)(c:UInt8)(h:i<s.part.length):(gV s).set (8+i) (bV c)=gV ⟨s.v,s.part.set i c,s.n⟩:=by
 unfold gV;rw[List.set_append_left _ _ (by simp;omega),List.set_append_right _ _ (by simp)];simp[List.map_set]
theorem aEu(s:mO)(hp:s.part.length=64)(n:Nat):(gV s).set 72 (iV (n:Int))=gV ⟨s.v,s.part,n⟩:=by
 unfold gV;rw[List.set_append_right _ _ (by simp[hp])];simp[hp]
theorem aAu(g:Nat)(s:mO)(c:UInt8)(w:World)(h:ak w g 370 (gV s))(hp:s.part.length=64)(hn:s.n<=100000000000):
  Calls prog 248 #[.pointer (some (tZ g 0)),bV c] w fun e w'=>e=.returned (.tuple #[])/\ak w' g 370 (gV (s.put c))/\w.grownBy w' (some g):=by
 obtain⟨v,part,n⟩:=s;simp only at hp hn;obtain⟨m,hm0⟩:∃m,n%64=m:=⟨_,rfl⟩;have HP:Hid ((mO.mk v part n).put c=if(n+1)%64=0 then⟨Nr (part.set m c) v,part.set m c,n+1⟩else⟨v,part.set m c,n+1⟩):=hid (by rw[<-hm0];rfl);generalize (mO.mk v part n).put c=S2 at*
 have hl:m<part.length:=by omega
 have hm64:m<64:=by omega
 have hm:(n:Int)%64=(m:Int):=by omega
 have hmt:(n:Int).tmod 64=(m:Int):=by rw[Int.tmod_eq_emod_of_nonneg (by omega)];exact hm
 have HM:=hid hm0;clear hm0;obtain⟨x,hx⟩:∃x,part[m]? =some x:=⟨_,List.getElem?_eq_getElem hl⟩;have c1:w.cell? (tZ g (8+m))=some (bV x):=h.cellAt (by rw[aE5 _ _ hl,hx];rfl);have c2:w.cell? (tZ g 72)=some (iV (n:Int)):=h.cellAt (nO _ hp);have f1:=h.frozen (8+m);have h1:=h.uh (8+m) (bV c);rw[aFn _ _ c hl]at h1;have JC:=dQ (aAc (g:=g) (Below.refl w.heap.size w)) (8+m) (bV c);have h2:=h1.uh 72 (iV ((n+1:Nat):Int));rw[aEu _ (by simpa using hp)]at h2;have Eu:=dQ JC 72 (iV ((n+1:Nat):Int));have d2:=h1.cellAt (nO _ (by simpa using hp));have f2:=h1.frozen 72;have e2:=h2.cellAt (nO _ (by simpa using hp));have hq:=hid (fun w h=>aGC g ⟨v,part.set m c,n+1⟩ w h (by simpa using hp));simp only at d2 f2 e2 h1 h2;have H1:=hid h1;have H2:=hid h2;have zg:=hid JC;have HG2:=hid Eu;have DW:=hid hp;clear h1 h2 JC Eu h hx hl hp;go_enter func248,ntmps248;go_wp2_with fail;go_region
 clear d2 f2 e2 H2 HG2 c1 c2 f1;obtain⟨w1,hw1,K1,KG⟩:∃w1,(w.setCell (tZ g (8+m)) (bV c)).drew=w1/\ak w1 g 370 (gV ⟨v,part.set m c,n⟩)/\w.grownBy w1 (some g):=⟨_,rfl,H1.out.drew,⟨zg.out.os,zg.out.tape,zg.out.output,zg.out.size,zg.out.block⟩⟩;rw[hw1];clear hw1 H1 zg;have d2:=K1.cellAt (nO ⟨v,part.set m c,n⟩ (by simpa using DW.out));simp only at d2;have f2:=K1.frozen 72;have h2:=K1.uh 72 (iV ((n+1:Nat):Int));rw[aEu _ (by simpa using DW.out)]at h2;have Eu:=dQ KG 72 (iV ((n+1:Nat):Int));simp only at h2;rw[show((n+1:Nat):Int)=(n:Int)+1 by omega]at h2 Eu;obtain⟨w2,hw2,K2,KG2⟩:∃w2,w1.setCell (tZ g 72) (iV ((n:Int)+1))=w2/\ak w2 g 370 (gV ⟨v,part.set m c,n+1⟩)/\w.grownBy w2 (some g):=⟨_,rfl,h2,Eu⟩;have e2:=K2.cellAt (nO ⟨v,part.set m c,n+1⟩ (by simpa using DW.out));simp only at e2;have L2:=hid K2;have LG2:=hid KG2;clear h2 Eu K1 KG K2 KG2 hm hmt;by_cases hz:(n+1)%64=0
 ·have t1:((((n+1:Nat):Int)%64)==0)=true:=by simp only[beq_iff_eq];omega
  have t2:((((n:Int)+1)%64)==0)=true:=by simp only[beq_iff_eq];omega
  have e3:w2.cell? (tZ g 72)=some (iV ((n:Int)+1)):=by rw[e2];simp
  have HZ:=hid hz;clear hz e2;go_wp2_with fail;refine(hq.out _ L2.out).mono ?_;rintro e w3⟨rfl,K3,G3⟩;go_wp2_with fail;go_end0
  exact⟨rfl,by rw[HP.out,if_pos HZ.out];exact K3,aA3 LG2.out G3⟩
 ·have t1:((((n+1:Nat):Int)%64)==0)=false:=by simp only[beq_eq_false_iff_ne];omega
  have t2:((((n:Int)+1)%64)==0)=false:=by simp only[beq_eq_false_iff_ne];omega
  have e3:w2.cell? (tZ g 72)=some (iV ((n:Int)+1)):=by rw[e2];simp
  have HZ:=hid hz;clear hz e2;go_wp2_with fail;go_end0
  exact⟨rfl,by rw[HP.out,if_neg HZ.out];exact L2.out,LG2.out⟩
theorem aEK(g:Nat)(s:mO)(A:Option Addr)(l c:Nat)(bs:List UInt8)(w:World)(h:ak w g 370 (gV s))(hp:s.part.length=64)(hr:ai w w.heap.size 1 A l (bs.map bV))(hn:s.n+l<=100000000000)
(hA:∀ad,A=some ad->0<l->ad.block≠g):
  Calls prog 178 #[.pointer (some (tZ g 0)),.slice A l c] w fun e w'=>e=.returned (.tuple #[])/\ak w' g 370 (gV (s.write bs))/\w.grownBy w' (some g):=by
 have hl:bs.length=l:=by simpa using hr.len
 have HL:=hid hl;have HP:=hid hp;have HN:=hid hn;have hl2:l<=100000000000:=by omega
 clear hl hp hn;have CX:=hid hA;clear hA;go_enter func178,ntmps178;go_wp2_with fail;go_loopw [10] (fun v10 wr=>∃k:Nat,k<=l/\v10=iV (k:Int)/\ak wr g 370 (gV (s.write (bs.take k)))/\w.grownBy wr (some g)) (fun v10 _=>l-(intOf v10).toNat)
 case atStart=>exact⟨0,by omega,rfl,h,aAc (Below.refl _ _)⟩
 case round=>
  obtain⟨k,hk,rfl,hblk,hgr⟩:=hrel;by_cases hkl:k<l
  ·obtain⟨ad,b,rfl,hab,hb,hcell⟩:=hr.He hkl;have hc2:wr.cell? (ad.add k)=some (bV b):=by
    rw[<-hcell];exact World.cell?_of_block (hgr.block _ (by rw[dw];exact hab) (fun e=>by injection e with e;rw[dw]at e;exact CX.out ad rfl (by omega) e))
   have HS:Hid (s.write (bs.take (k+1))=(s.write (bs.take k)).put b):=hid (by rw[List.take_add_one,hb,aAC];rfl);have hq:=hid (aAu g (s.write (bs.take k)) b wr hblk (by rw[aA6];exact HP.out) (by rw[aAt,List.length_take];have:=HN.out;omega));rw[<-HS.out]at hq;clear hb hcell hblk h hr;obtain⟨S2,yS⟩:∃S2,s.write (bs.take (k+1))=S2:=⟨_,rfl⟩;rw[yS]at hq;have yX:=hid yS;clear yS;go_wp2_with fail;refine hq.out.mono ?_;rintro e w2⟨rfl,hb2,hg2⟩;go_wp2_with fail;go_roundw;case rel=>exact⟨k+1,by omega,by go_num,by rw[yX.out];exact hb2,aA3 hgr hg2⟩
   case measure=>simp[intOf];omega
  ·obtain rfl:k=l:=by omega
   rw[List.take_of_length_le (by have:=HL.out;omega)]at hblk;go_wp2_with fail;go_end0
   exact⟨rfl,hblk,hgr⟩
def qB(f p wi pa:Int)(b s:Bool):List Value:=[iV f,iV p,iV wi,iV pa,.bool b,.bool s]
def Oe(t:aG)(F T:Nat):Value:=.agg #[iV ((T/F:Nat):Int),iV ((T%F:Nat):Int),iV (lW (kE ((T%F:Nat):Int)) t.wins),iV (oP t.wins ((T%F:Nat):Int)),.bool ((((T%F:Nat):Int))==0),.bool (o7 t.wins ((T%F:Nat):Int))]
theorem aLH(t:aG)(a:bM)(pos:Int)(w:World)(h:dM w t a)(hR:mD t):
  Calls prog 199 #[.agg #[iV t.frame,.slice a.A1 t.parts.length a.c1,.slice a.A2 t.wins.length a.c2,.slice a.A3 t.chans.length a.c3,iV t.trial],iV pos] w fun e w'=>e=.returned (iV (lW (kE pos) t.wins))/\Below w.heap.size w w':=by
 have:=aGG t a pos w h;unfold Jy at this;rw[if_pos ((bK t).2 hR)]at this;exact this
theorem aEP{w:World}{b:Nat}{T:TypeId}{cs:List Value}(h:ak w b T cs)(hl:cs.length=6)(v0 v1 v2 v3 v4 v5:Value):
  ∃w':World,(((((w.setCell (tZ b 0) v0).setCell (tZ b 1) v1).setCell (tZ b 2) v2).setCell (tZ b 3) v3).setCell (tZ b 4) v4).setCell (tZ b 5) v5=w'/\Below b w w'/\ak w' b T [v0,v1,v2,v3,v4,v5]:=by
 refine⟨_,rfl,((((((Below.refl _ _).setCell (p:=⟨b,0,none⟩) (Nat.le_refl _) _).setCell (p:=⟨b,1,none⟩) (Nat.le_refl _) _).setCell (p:=⟨b,2,none⟩) (Nat.le_refl _) _).setCell (p:=⟨b,3,none⟩) (Nat.le_refl _) _).setCell (p:=⟨b,4,none⟩) (Nat.le_refl _) _).setCell (p:=⟨b,5,none⟩) (Nat.le_refl _) _,?_⟩;have:=(((((h.uh 0 v0).uh 1 v1).uh 2 v2).uh 3 v3).uh 4 v4).uh 5 v5;match cs,hl with
 |[_,_,_,_,_,_],_=>exact this
theorem aOS(t:aG)(a:bM)(F T:Nat)(hF:t.frame=(F:Int))(hT:T<=9223372036854775807)(w:World)(h:dM w t a)(hR:mD t):
  Calls prog 127 #[.agg #[iV t.frame,.slice a.A1 t.parts.length a.c1,.slice a.A2 t.wins.length a.c2,.slice a.A3 t.chans.length a.c3,iV t.trial],iV (T:Int)] w fun e w'=>e=.returned (Oe t F T)/\Below w.heap.size w w':=by
 obtain⟨A1,k1,A2,k2,A3,k3⟩:=a;obtain⟨frame,parts,wins,chans,trial⟩:=t;simp only at hF ⊢;subst hF;have FN:=hR.f1;have hf2:=hR.f2;simp only at FN hf2;unfold Oe;simp only;obtain⟨w1,hw1,hb0,uJ,hs1⟩:=aM7 ⟨(F:Int),parts,wins,chans,trial⟩ ⟨A1,k1,A2,k2,A3,k3⟩ w;simp only at hw1;have xR:=h.belowS hb0;have e1:Int.tdiv (T:Int) (F:Int)=((T/F:Nat):Int):=by rw[Int.tdiv_eq_ediv_of_nonneg (by omega)];rfl
 have e2:Int.tmod (T:Int) (F:Int)=((T%F:Nat):Int):=by rw[Int.tmod_eq_emod_of_nonneg (by omega)];rfl
 have e3:(T:Int)/(F:Int)=((T/F:Nat):Int):=rfl;have e4:(T:Int)%(F:Int)=((T%F:Nat):Int):=rfl;have hDT:T/F<=9223372036854775807:=Nat.le_trans (Nat.div_le_self _ _) hT;have D9:=Nat.mod_lt T (show 0<F by omega);generalize T/F=D at*
 generalize T%F=M at*
 have hne:((F:Int)==0)=false:=beq_eq_false_iff_ne.2 (by omega);have hlt0:(0:Int)<(F:Int):=by omega
 have hn0:F≠0:=by omega
 have hD:D<=9223372036854775807:=hDT;have hM:M<=64:=by omega
 have hwD:IntKind.i64.wrap (D:Int)=(D:Int):=IntWalk.i64_in _ (by omega);have hwM:IntKind.i64.wrap (M:Int)=(M:Int):=IntWalk.i64_in _ (by omega);obtain⟨w2,hw2,hb2,Bq,hs2⟩:∃w2:World,w1.alloc (.cells #[iV 0,iV 0,iV 0,iV 0,.bool false,.bool false] 131)=w2/\Below w1.heap.size w1 w2/\ak w2 w1.heap.size 131 (qB 0 0 0 0 false false)/\w2.heap.size=w1.heap.size+1:=⟨_,rfl,(Below.refl _ _).alloc (Nat.le_refl _) _,ak.new w1 _ (qB 0 0 0 0 false false),by simp⟩;have uo:=uJ.belowS hb2;obtain⟨c0,c1,c2,c3,c4⟩:=bi uo;simp only at c0 c1 c2 c3 c4;clear uJ;go_enter func127,ntmps127;go_wp2_with fail;clear hw1 hw2;go_region_held3 (fun w'=>w'.cell? (tZ w.heap.size 0)=some (iV (F:Int))) (go_keep) (fail)
 go_wp2_with fail;obtain⟨w3,hw3,hb3,hwb⟩:∃w3:World,(w2.alloc (.cells #[iV (D:Int),iV (M:Int),iV 0,iV (-1),.bool false,.bool false] 131)).drew=w3/\Below w2.heap.size w2 w3/\ak w3 w2.heap.size 131 (qB D M 0 (-1) false false):=
  ⟨_,rfl,((Below.refl _ _).alloc (Nat.le_refl _) _).drew,(ak.new w2 _ (qB D M 0 (-1) false false)).drew⟩
 rw[hw3];clear hw3;have uO:=uo.belowS hb3;have Di:=Bq.belowS hb3;have DJ:=(xR.belowS hb2).belowS hb3;have vp:=ag (ag hb0 hb2) hb3;rw[hs2,hs1]at hwb;rw[hs1]at Di;clear c0 c1 c2 c3 c4 hb2 hb3 uo Bq xR e1 e2 e3 e4 hwD hwM;have hg1:=uO.lt;have hg2:=hwb.lt;have hg3:=Di.lt;clear hs1 hs2 hb0;generalize hg:w.heap.size=g at*
 have hgg:=hid hg;clear hg;have Ld:=hid hR;have HT:=hid h;clear hR h;obtain⟨c0,c1,c2,c3,c4⟩:=bi uO;simp only at c0 c1 c2 c3 c4;have d1:w3.cell? (tZ (g+1+1) 1)=some (iV (M:Int)):=hwb.cellAt rfl;have d2:w3.cell? (tZ (g+1+1) 2)=some (iV 0):=hwb.cellAt rfl;have d4:w3.cell? (tZ (g+1+1) 4)=some (.bool false):=hwb.cellAt rfl;have f2:w3.frozen? (tZ (g+1+1) 2)=false:=hwb.frozen 2;have f4:w3.frozen? (tZ (g+1+1) 4)=false:=hwb.frozen 4;have iW:=hid (fun w' hb=>aLH (⟨(F:Int),parts,wins,chans,trial⟩:aG) (⟨A1,k1,A2,k2,A3,k3⟩:bM) (M:Int) w' (DJ.belowS (w':=w') hb) Ld.out);simp only at iW;generalize hI:lW (kE (M:Int)) wins=I at iW ⊢;have HI:=hid hI;clear hI;have Hbk:=hid (And.intro uO (And.intro hwb Di));clear uO hwb Di;have hx1:g≠g+1+1:=by omega
 have hx2:g+1+1≠g:=by omega
 have v2:∀(w':World) u,(w'.setCell (tZ (g+1+1) 2) u).cell? (tZ (g+1+1) 1)=w'.cell? (tZ (g+1+1) 1):=fun w' u=>World.cell?_setCell_other w' _ _ u (by simp)
 have v4:∀(w':World) u,(w'.setCell (tZ (g+1+1) 4) u).cell? (tZ (g+1+1) 1)=w'.cell? (tZ (g+1+1) 1):=fun w' u=>World.cell?_setCell_other w' _ _ u (by simp)
 go_region_held3 (fun w'=>w'.cell? (tZ g 0)=some (iV (F:Int))/\w'.cell? (tZ g 1)=some (.slice A1 parts.length k1)/\w'.cell? (tZ g 2)=some (.slice A2 wins.length k2)/\w'.cell? (tZ g 3)=some (.slice A3 chans.length k3)/\w'.cell? (tZ g 4)=some (iV trial)/\w'.cell? (tZ (g+1+1) 1)=some (iV (M:Int))/\w'.frozen? (tZ (g+1+1) 2)=false/\w'.frozen? (tZ (g+1+1) 4)=false)
  (go_keep)
  ((refine(iW.out _ ?_).mono ?_;(first|exact Below.refl _ _|exact(Below.refl _ _).drew);rintro e w4 ⟨rfl,yC⟩;have hb4:Below w3.heap.size w3 w4:=⟨yC.os,yC.tape,yC.output,yC.size,yC.block⟩;clear yC;have z0:w4.cell? (tZ g 0)=_:=(hb4.cell (p:=⟨g,0,none⟩) hg1).trans c0;have z1:w4.cell? (tZ g 1)=_:=(hb4.cell (p:=⟨g,1,none⟩) hg1).trans c1;have z2:w4.cell? (tZ g 2)=_:=(hb4.cell (p:=⟨g,2,none⟩) hg1).trans c2;have z3:w4.cell? (tZ g 3)=_:=(hb4.cell (p:=⟨g,3,none⟩) hg1).trans c3;have z4:w4.cell? (tZ g 4)=_:=(hb4.cell (p:=⟨g,4,none⟩) hg1).trans c4;have y1:w4.cell? (tZ (g+1+1) 1)=_:=(hb4.cell (p:=⟨g+1+1,1,none⟩) hg2).trans d1;have y2:w4.cell? (tZ (g+1+1) 2)=_:=(hb4.cell (p:=⟨g+1+1,2,none⟩) hg2).trans d2;have y4:w4.cell? (tZ (g+1+1) 4)=_:=(hb4.cell (p:=⟨g+1+1,4,none⟩) hg2).trans d4;have x2:w4.frozen? (tZ (g+1+1) 2)=_:=(hb4.frozen (p:=⟨g+1+1,2,none⟩) hg2).trans f2;have x4:w4.frozen? (tZ (g+1+1) 4)=_:=(hb4.frozen (p:=⟨g+1+1,4,none⟩) hg2).trans f4))
 obtain⟨w5,zo,uP,zl⟩:∃w5:World,(w4.setCell (tZ (g+1+1) 2) (iV I)).setCell (tZ (g+1+1) 4) (.bool ((M:Int)==0))=w5/\Below (g+1+1) w4 w5/\ak w5 (g+1+1) 131 (qB D M I (-1) ((M:Int)==0) false):=
  ⟨_,rfl,((Below.refl _ _).setCell (p:=⟨g+1+1,2,none⟩) (Nat.le_refl _) _).setCell (p:=⟨g+1+1,4,none⟩) (Nat.le_refl _) _,((Hbk.out.2.1.belowS hb4).uh 2 _).uh 4 _⟩
 rw[zo];clear zo z0 z1 z2 z3 z4 y1 y2 y4 x2 x4 c0 c1 c2 c3 c4 d1 d2 d4 f2 f4;have wH:ak w5 g 26 _:=(Hbk.out.1.belowS hb4).below uP (by omega);have xx:ak w5 (g+1) 131 _:=(Hbk.out.2.2.belowS hb4).below uP (by omega);have aSc:Below (g+1+1) w3 w5:=(hb4.mono (by omega)).trans uP;have zV:Below g w w5:=vp.trans (aSc.mono (by omega));obtain⟨c0,c1,c2,c3,c4⟩:=bi wH;simp only at c0 c1 c2 c3 c4;have GN:=hid (aKl wins (M:Int));have F5:=hid (aLO wins (M:Int));rw[HI.out]at GN F5;by_cases hI:I<0
 ·have hf:=hid (GN.out hI);have hr1:Hid (oP wins (M:Int)= -1):=hid (by unfold oP;rw[hf.out]);have hr2:Hid (o7 wins (M:Int)=false):=hid (by unfold o7;rw[hf.out]);have Ei:decide (0<=I)=false:=decide_eq_false (by omega);obtain⟨d0,d1,d2,d3,d4,d5⟩:_/\_/\_/\_/\_/\_:=⟨zl.cellAt (i:=0) rfl,zl.cellAt (i:=1) rfl,zl.cellAt (i:=2) rfl,zl.cellAt (i:=3) rfl,zl.cellAt (i:=4) rfl,zl.cellAt (i:=5) rfl⟩;obtain⟨r0,r1,r2,r3,r4,r5⟩:_/\_/\_/\_/\_/\_:=⟨xx.cellAt (i:=0) rfl,xx.cellAt (i:=1) rfl,xx.cellAt (i:=2) rfl,xx.cellAt (i:=3) rfl,xx.cellAt (i:=4) rfl,xx.cellAt (i:=5) rfl⟩;obtain⟨s0,s1,s2,s3,s4,s5⟩:_/\_/\_/\_/\_/\_:=⟨xx.frozen 0,xx.frozen 1,xx.frozen 2,xx.frozen 3,xx.frozen 4,xx.frozen 5⟩;have aRn:=hid xx;clear hI wH zl xx aSc uP hb4 vp;go_wp2_with fail;obtain⟨w6,vU,uS,uQ⟩:=aEP aRn.out rfl (iV (D:Int)) (iV (M:Int)) (iV I) (iV (-1)) (.bool ((M:Int)==0)) (.bool false);rw[vU];clear vU r0 r1 r2 r3 r4 r5 s0 s1 s2 s3 s4 s5 c0 c1 c2 c3 c4 d0 d1 d2 d3 d4 d5;obtain⟨r0,r1,r2,r3,r4,r5⟩:_/\_/\_/\_/\_/\_:=⟨uQ.cellAt (i:=0) rfl,uQ.cellAt (i:=1) rfl,uQ.cellAt (i:=2) rfl,uQ.cellAt (i:=3) rfl,uQ.cellAt (i:=4) rfl,uQ.cellAt (i:=5) rfl⟩;have hfin:=hid (zV.trans (uS.mono (by omega)));refine bodyPost_ret (v:=.agg #[iV (D:Int),iV (M:Int),iV I,iV (-1),.bool ((M:Int)==0),.bool false]) (by simp[results,results127,go_sem,r0,r1,r2,r3,r4,r5]) rfl ?_
  exact⟨by rw[hr1.out,hr2.out,HI.out],by rw[hgg.out];exact hfin.out⟩
 ·obtain⟨k,rfl⟩:∃k:Nat,I=k:=⟨I.toNat,by omega⟩;obtain⟨x,hx,hf⟩:=F5.out k rfl;have hr1:Hid (oP wins (M:Int)=x.part):=hid (by unfold oP;rw[hf]);have hr2:Hid (o7 wins (M:Int)=(x.at_==(M:Int))):=hid (by unfold o7;rw[hf]);have Ci:=(HT.out.belowS (w':=w5) (by rw[hgg.out];exact zV)).zn.2.1;simp only at Ci;have hkn:=(List.getElem?_eq_some_iff.1 hx).1;obtain⟨ad,x',rfl,had,hx',hc0,hc⟩:=Ci.at_ hkn;rw[hx]at hx';injection hx' with hx'
  subst hx';have q0:=hc0 _ rfl;have q1:=hc 0 _ rfl;have q2:=hc 1 _ rfl;have Ei:decide ((0:Int)<=(k:Int))=true:=decide_eq_true (by omega);clear hc hc0 hx hf Ci hI;have d1:w5.cell? (tZ (g+1+1) 1)=some (iV (M:Int)):=zl.cellAt rfl;have d2:w5.cell? (tZ (g+1+1) 2)=some (iV (k:Int)):=zl.cellAt rfl;have uZ:=zl.lt;obtain⟨xp,xa,xl⟩:=x;simp only at q0 q1 q2 hr1 hr2;obtain⟨w6,vU,uS,hxb⟩:∃w6:World,w5.alloc (.cells #[iV xp,iV xa,iV xl] 89)=w6/\Below w5.heap.size w5 w6/\ak w6 w5.heap.size 89 [iV xp,iV xa,iV xl]:=⟨_,rfl,(Below.refl _ _).alloc (Nat.le_refl _) _,ak.new _ _ _⟩;have Dj:=zl.belowS uS;have aRn:=xx.belowS uS;have EL:Below g w w6:=zV.trans (uS.mono (by omega));generalize hxx:w5.heap.size=xb at*
  have hx3:xb≠g+1+1:=by omega
  have hx4:g+1+1≠xb:=by omega
  clear wH zl xx aSc uP hb4 vp;go_wp2_with fail;clear vU hxx c0 c1 c2 c3 c4 d1 d2 q0 q1 q2;have x0:w6.cell? (tZ xb 0)=some (iV xp):=hxb.cellAt rfl;have x1:w6.cell? (tZ xb 1)=some (iV xa):=hxb.cellAt rfl;have d1:w6.cell? (tZ (g+1+1) 1)=some (iV (M:Int)):=Dj.cellAt rfl;have d3:w6.cell? (tZ (g+1+1) 3)=some (iV (-1)):=Dj.cellAt rfl;have d5:w6.cell? (tZ (g+1+1) 5)=some (.bool false):=Dj.cellAt rfl;have f3:w6.frozen? (tZ (g+1+1) 3)=false:=Dj.frozen 3;have f5:w6.frozen? (tZ (g+1+1) 5)=false:=Dj.frozen 5;have v3:∀(w':World) u,(w'.setCell (tZ (g+1+1) 3) u).cell? (tZ (g+1+1) 1)=w'.cell? (tZ (g+1+1) 1):=fun w' u=>World.cell?_setCell_other w' _ _ u (by simp)
  have v5:∀(w':World) u,(w'.setCell (tZ (g+1+1) 5) u).cell? (tZ (g+1+1) 1)=w'.cell? (tZ (g+1+1) 1):=fun w' u=>World.cell?_setCell_other w' _ _ u (by simp)
  clear v2 v4;have Hk:=hid (And.intro Dj (And.intro aRn hxb));clear Dj aRn hxb;go_region_held3 (fun w'=>w'.cell? (tZ xb 0)=some (iV xp)/\w'.cell? (tZ xb 1)=some (iV xa)/\w'.cell? (tZ (g+1+1) 1)=some (iV (M:Int))/\w'.frozen? (tZ (g+1+1) 3)=false/\w'.frozen? (tZ (g+1+1) 5)=false) (go_keep) (fail)
  obtain⟨w7,Jl,xQ,Dk⟩:∃w7:World,((w6.setCell (tZ (g+1+1) 3) (iV xp)).setCell (tZ (g+1+1) 5) (.bool (xa==(M:Int)))).drew=w7/\Below (g+1+1) w6 w7/\ak w7 (g+1+1) 131 (qB D M k xp ((M:Int)==0) (xa==(M:Int))):=
   ⟨_,rfl,(((Below.refl _ _).setCell (p:=⟨g+1+1,3,none⟩) (Nat.le_refl _) _).setCell (p:=⟨g+1+1,5,none⟩) (Nat.le_refl _) _).drew,((Hk.out.1.uh 3 _).uh 5 _).drew⟩
  rw[Jl];clear Jl x0 x1 d1 d3 d5 f3 f5 v3 v5;have yI:ak w7 (g+1) 131 _:=Hk.out.2.1.below xQ (by omega);have hb07:Below g w w7:=EL.trans (xQ.mono (by omega));obtain⟨d0,d1,d2,d3,d4,d5⟩:_/\_/\_/\_/\_/\_:=⟨Dk.cellAt (i:=0) rfl,Dk.cellAt (i:=1) rfl,Dk.cellAt (i:=2) rfl,Dk.cellAt (i:=3) rfl,Dk.cellAt (i:=4) rfl,Dk.cellAt (i:=5) rfl⟩;obtain⟨r0,r1,r2,r3,r4,r5⟩:_/\_/\_/\_/\_/\_:=⟨yI.cellAt (i:=0) rfl,yI.cellAt (i:=1) rfl,yI.cellAt (i:=2) rfl,yI.cellAt (i:=3) rfl,yI.cellAt (i:=4) rfl,yI.cellAt (i:=5) rfl⟩;obtain⟨s0,s1,s2,s3,s4,s5⟩:_/\_/\_/\_/\_/\_:=⟨yI.frozen 0,yI.frozen 1,yI.frozen 2,yI.frozen 3,yI.frozen 4,yI.frozen 5⟩;have hrb8:=hid yI;clear yI Dk;go_wp2_with fail;obtain⟨w8,Gt,Ee,yR⟩:=aEP hrb8.out rfl (iV (D:Int)) (iV (M:Int)) (iV (k:Int)) (iV xp) (.bool ((M:Int)==0)) (.bool (xa==(M:Int)));rw[Gt];clear Gt r0 r1 r2 r3 r4 r5 s0 s1 s2 s3 s4 s5 d0 d1 d2 d3 d4 d5;obtain⟨r0,r1,r2,r3,r4,r5⟩:_/\_/\_/\_/\_/\_:=⟨yR.cellAt (i:=0) rfl,yR.cellAt (i:=1) rfl,yR.cellAt (i:=2) rfl,yR.cellAt (i:=3) rfl,yR.cellAt (i:=4) rfl,yR.cellAt (i:=5) rfl⟩;have hfin:=hid (hb07.trans (Ee.mono (by omega)));refine bodyPost_ret (v:=.agg #[iV (D:Int),iV (M:Int),iV (k:Int),iV xp,.bool ((M:Int)==0),.bool (xa==(M:Int))]) (by simp[results,results127,go_sem,r0,r1,r2,r3,r4,r5]) rfl ?_;exact⟨by rw[hr1.out,hr2.out,HI.out],by rw[hgg.out];exact hfin.out⟩
end Go.Proofs.YtfjkpigldogkeaaGreatDoor
