/- Contracts of functions that TopQuiet reaches, under the conditions that each states. -/
import Derived.Test.YtfjkpigldogkeaaGreatDoorQza
import Derived.Lib.AppendZerosOnto
set_option linter.all false
namespace Go.Proofs.YtfjkpigldogkeaaGreatDoor
open Go.RowKit Go.ChangeShapes Go.WideShapes Go.ChangeAt Go.Proofs.Tryz
theorem aCa(k:Nat):(Builtin.zeroCells (Value.int IntKind.u8 0).cells k).toList=(List.replicate k (0:UInt8)).map bV:=by
 rw[show(Value.int IntKind.u8 0).cells= #[.int .u8 0]from rfl];unfold Builtin.zeroCells;rw[List.map_replicate];apply List.ext_getElem
 ·simp
 ·intro j h1 h2;simp[Nat.mod_one]
theorem aDK(w:World)(ty g n cap:Nat)(cur:Array Value)(hg:w.heap[g]? =some (.cells cur 5 (0,0)))(k:Nat)(h0:0<k)(hroom:n+k<=cap)(hfit:n+k<=cur.size)(hlim:k<=140737488355328):
  (Builtin.append_ #[37,3] ty #[.slice (some (tZ g 0)) n cap,iV (k:Int)]).run prog w=
   .ok (.slice (some (tZ g 0)) (n+k) cap) (w.setRow g (cur.toList.take n++(List.replicate k (0:UInt8)).map bV++cur.toList.drop (n+k)).toArray):=by
 obtain⟨i0,hi0,hz0,hz1,hz2⟩:=info_parts aCx;have Bo:=aCa k;have h1:=iG (List.replicate k (0:UInt8));have hl:((List.replicate k (0:UInt8)).map bV).length=k:=by simp
 generalize (List.replicate k (0:UInt8)).map bV=L at*
 have hst:=run_storeCells_at prog g n 5 L 0 cur w hg (by rw[hl];simpa using hfit) h1;simp only[Nat.add_zero,hl]at hst;have hw:IntKind.i64.wrap (k:Int)=k:=by rw[IntKind.wrap_i64];omega
 have hneg:¬((k:Int)<0):=by omega
 have hns:¬(k=0):=by omega
 have h48:¬(281474976710656<(k:Int)):=by omega
 simp[Builtin.append_,run_underlying underlying37,run_underlying underlying3,sizeOf,typeInfo,zeroValue,hi0,hz0,hz1,hz2,asInt,asIntOf,hw,hneg,hns,h48,hroom,Bo,Addr.add_lit,hst]
theorem aLc(w:World)(ty base:Nat)(A0:Option Addr)(n c0:Nat)(bs:List UInt8)(hown:w.ownsRow base 5 1 (.slice A0 n c0) n (bs.map bV))(k:Nat)(h0:0<k)(hlim:n+k<=140737488355328)(hbase:base<=w.heap.size):
  ∃A' c' w',(Builtin.append_ #[37,3] ty #[.slice A0 n c0,iV (k:Int)]).run prog w=.ok (.slice A' (n+k) c') w'/\w'.ownsRow base 5 1 (.slice A' (n+k) c') (n+k) ((bs++List.replicate k 0).map bV)/\w.grownBy w' (Value.slice A0 n c0).ownBlock:=by
 obtain⟨i0,hi0,hz0,hz1,hz2⟩:=info_parts aCx;have Bo:=aCa k;have hl:((List.replicate k (0:UInt8)).map bV).length=k:=by simp
 have hbl:(bs.map bV).length=n:=by have:=hown.1;omega
 rw[List.map_append];have hlen:(bs.map bV++(List.replicate k (0:UInt8)).map bV).length=n+k:=by rw[List.length_append,hbl,hl]
 have grown:∀(old:Nat)(row:Option Nat),
   (w.drew.alloc (.cells ((bs.map bV).toArray++Builtin.zeroCells (Value.int IntKind.u8 0).cells k++Builtin.zeroCells (Value.int IntKind.u8 0).cells (grownCap w (n+k) old 5-(n+k))) 5)).ownsRow base 5 1
    (.slice (some (tZ w.heap.size 0)) (n+k) (grownCap w (n+k) old 5)) (n+k) (bs.map bV++(List.replicate k (0:UInt8)).map bV)/\
   w.grownBy (w.drew.alloc (.cells ((bs.map bV).toArray++Builtin.zeroCells (Value.int IntKind.u8 0).cells k++Builtin.zeroCells (Value.int IntKind.u8 0).cells (grownCap w (n+k) old 5-(n+k))) 5)) row:=by
  intro old row;have hge:=grownCap_ge w (n+k) old 5;have hcm:grownCap w (n+k) old 5<=maxLen:=grownCap_le_maxLen w (n+k) old 5 (by simp only[maxLen];omega);refine⟨⟨by rw[hlen,Nat.mul_one],.inr ⟨w.heap.size,_,_,rfl,hbase,heap_alloc_new w.drew _,hge,hcm,?_,?_⟩⟩,⟨rfl,rfl,rfl,by simp,fun k hk _=>heap_alloc_old w.drew _ hk⟩⟩
  ·simp only[Array.size_append,List.size_toArray,size_zeroCells,hbl];rw[show(Value.int IntKind.u8 0).cells.size=1 from rfl];omega
  ·simp only[Array.toList_append,List.append_assoc,Bo];rw[<-List.append_assoc,Nat.mul_one,<-hlen];exact List.take_left
 rcases hown.2 with⟨hv,hn0⟩|⟨g,cap,cur,hv,hbg,hg,hnc,hcm,hcs,htake⟩
 ·cases hv;have hx:bs.map bV=[]:=List.eq_nil_of_length_eq_zero hbl;have hr:=Lib.run_append_nil_zeros (P:=prog) w 37 3 ty 5 i0 _ .i64 .i64 underlying37 underlying3 hi0 hz0 k h0 (by omega) (by omega) (by rw[hz2];omega);have hgr:=grown 0 none;rw[hx]at hgr ⊢;simp only[Nat.zero_add,List.nil_append,Array.empty_append]at hgr ⊢;exact⟨_,_,_,hr,hgr.1,hgr.2⟩
 ·cases hv;by_cases hroom:n+k<=c0
  ·have hr:=aDK w ty g n c0 cur hg k h0 hroom (by omega) (by omega);refine⟨_,_,_,hr,⟨by rw[hlen,Nat.mul_one],.inr ⟨g,c0,_,rfl,hbg,setRow_heap w g cur _ _ _ hg,hroom,hcm,?_,?_⟩⟩,⟨rfl,rfl,rfl,by simp,fun k hk hk2=>setRow_other w g k _ (fun e=>hk2 (by simp[Value.ownBlock,e]))⟩⟩
   ·simp only[List.size_toArray,List.length_append,List.length_take,List.length_drop,Array.length_toList,hl];omega
   ·rw[Nat.mul_one]at htake;rw[htake,Nat.mul_one,<-hlen];exact List.take_left
  ·have holds:∀j u,(bs.map bV)[j]? =some u->w.cell? ((⟨g,0,none⟩:Addr).add j)=some u:=hown.cells (g:=g) rfl;have hold:=run_firstCells_some (P:=prog) w.drew i0.size n ⟨g,0,none⟩ n c0 (bs.map bV) (by rw[hz1];omega) holds;have hr:=Lib.run_append_grow_zeros (P:=prog) w 37 3 ty 5 i0 _ .i64 .i64 underlying37 underlying3 hi0 hz0 (some (tZ g 0)) n c0 (bs.map bV) hold k h0 (by omega) (by omega) (by omega) (by rw[hz2];omega) (by rw[hz2];exact growslice_fits (by omega) (by omega));have hgr:=grown c0 (Value.ownBlock (.slice (some (tZ g 0)) n c0));exact⟨_,_,_,hr,hgr.1,hgr.2⟩
theorem aQ6{ops:Array Oper}{rest:List Oper}{o:Oper}{a:Act}{Q:Exit->Act->World->Prop}(w:World)(hgd:o.guard=none)(s x:Operand)
(ho:o.op=.call {callee:=.builtin .append,args:= #[s,x],argTypes:= #[37,3]})
(base:Nat)(A0:Option Addr)(n c0:Nat)(bs:List UInt8)(hs:a.eval s=.slice A0 n c0)(hown:w.ownsRow base 5 1 (.slice A0 n c0) n (bs.map bV))
(k:Nat)(h0:0<k)(hx:a.eval x=iV (k:Int))(hlim:n+k<=140737488355328)(hbase:base<=w.heap.size)
(h:∀A' c' w',w'.ownsRow base 5 1 (.slice A' (n+k) c') (n+k) ((bs++List.replicate k 0).map bV)->w.grownBy w' (Value.slice A0 n c0).ownBlock->Below base w w'->wpList prog ops Q rest (a.put o.dst (.slice A' (n+k) c')) w'):wpList prog ops Q (o::rest) a w:=by
 obtain⟨A',c',w',hr,h1,h2⟩:=aLc w o.type base A0 n c0 bs hown k h0 hlim hbase;exact Lib.wpList_append_run w hgd s x _ _ ho _ _ hs hx _ _ hr (h A' c' w' h1 h2 (Jv (Below.refl _ _) hown h2 (Nat.le_refl _) hbase))
end Go.Proofs.YtfjkpigldogkeaaGreatDoor
