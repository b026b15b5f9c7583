/- Contracts of functions that TopQuiet reaches, under the conditions that each states. -/
import Derived.Test.YtfjkpigldogkeaaGreatDoorQaa
set_option linter.all false
namespace Go.Proofs.YtfjkpigldogkeaaGreatDoor
open Go.RowKit Go.ChangeShapes Go.WideShapes Go.ChangeAt Go.Proofs.Tryz
def mf(x:Int):Nat:=if x<1 then 1 else if x>6 then 6 else x.toNat
theorem aMc(x:Int):1<=mf x/\mf x<=6:=by unfold mf;split<;>(try split)<;>omega
def Hw(m w j:Nat):UInt8:=UInt8.ofNat (m/256^(w-1-j))
def qU(m w:Nat):List UInt8:=(List.range w).map (Hw m w)
def ry(n:Int)(w:Nat):Nat:=min n.toNat (256^w-1)
def aV(n:Int)(w:Nat):List UInt8:=qU (ry n w) w
def oU(t:List UInt8):List UInt8:=aV (min t.length 65535:Nat) 2++t.take 65535
theorem aGi(m w:Nat):(qU m w).length=w:=by simp[qU]
theorem aX(n:Int)(w:Nat):(aV n w).length=w:=aGi _ _
theorem aAH(m w k:Nat)(h:k<w):(qU m w).take (k+1)=(qU m w).take k++[Hw m w k]:=by
 rw[List.take_succ_eq_append_getElem (by simpa[qU]using h)];simp[qU]
theorem aBZ(w:Nat)(h1:1<=w)(h2:w<=6):w=1\/w=2\/w=3\/w=4\/w=5\/w=6:=by omega
theorem aB0(w:Nat)(h:w<=6):1<=256^w/\256^w<=281474976710656:=by
 have:w=0\/w=1\/w=2\/w=3\/w=4\/w=5\/w=6:=by omega
 rcases this with rfl|rfl|rfl|rfl|rfl|rfl|rfl<;>decide
theorem aIj(n:Int)(w:Nat)(h:w<=6):ry n w<256^w:=by have:=aB0 w h;unfold ry;omega
theorem aNe(m w k:Nat)(h:k<w):(m:Int)/2^(8*(w-k-1))%256=((Hw m w k).toNat:Int):=by
 unfold Hw;rw[show w-1-k=w-k-1 by omega,UInt8.toNat_ofNat',show(256:Nat)=2^8 from rfl,<-Nat.pow_mul];have e:((2^(8*(w-k-1)):Nat):Int)=2^(8*(w-k-1)):=by simp
 rw[<-e];omega
theorem aCx:(prog.info? 5).map (fun i=>(i.zero,i.size,i.bytes))=some (some (.int .u8 0),1,1):=by kernel_rfl
theorem aGu(x:Int)(w:World):
  Calls prog 247 #[iV x] w fun e w'=>e=.returned (iV (mf x))/\w=w':=by
 by_cases h1:x<1
 ·have hw:mf x=1:=by simp[mf,h1]
  rw[hw];clear hw;go_enter func247,ntmps247;go_wp2
  go_ret;exact⟨rfl,rfl⟩
 ·by_cases h2:x>6
  ·have hw:mf x=6:=by simp[mf,h1,h2]
   rw[hw];clear hw;go_enter func247,ntmps247;go_wp2
   go_ret;exact⟨rfl,rfl⟩
  ·have hw:mf x=x.toNat:=by simp[mf,h1,h2]
   rw[hw];clear hw;go_enter func247,ntmps247;go_wp2
   go_ret;exact⟨nz (by omega),rfl⟩
theorem JV{ops:Array Oper}{rest:List Oper}{o:Oper}{a:Act}{Q:Exit->Act->World->Prop}(w:World)(hgd:o.guard=none)(s x:Operand)
(ho:o.op=.call {callee:=.builtin .append,args:= #[s,x],argTypes:= #[37,37]})
(base:Nat)(A0:Option Addr)(n c0:Nat)(bs:List UInt8)(hs:a.eval s=.slice A0 n c0)(hown:w.ownsRow base 5 1 (.slice A0 n c0) n (bs.map bV))
(B:Nat)(A:Option Addr)(m c:Nat)(cs:List UInt8)(hx:a.eval x=.slice A m c)(hr:ai w B 1 A m (cs.map bV))(hlim:n+m<=140737488355328)(hbase:base<=w.heap.size)
(h:∀A' c' w',w'.ownsRow base 5 1 (.slice A' (n+m) c') (n+m) ((bs++cs).map bV)->w.grownBy w' (Value.slice A0 n c0).ownBlock->Below base w w'->wpList prog ops Q rest (a.put o.dst (.slice A' (n+m) c')) w'):wpList prog ops Q (o::rest) a w:=by
 obtain⟨i0,hi0,hz0,hz1,hz2⟩:=info_parts aCx;refine aAA w hgd s x _ ho base 5 i0 _ 1 1 underlying37 hi0 hz0 hz1 hz2 rfl (by decide) _ n (bs.map bV) hs hown B A m c (cs.map bV) hx hr (iG cs) (by simp[maxLen];omega) (by omega) hbase ?_;intro A' c' w' h1 h2 _;rw[<-List.map_append]at h1;exact h A' c' w' h1 h2 (Jv (Below.refl _ _) hown h2 (Nat.le_refl _) hbase)
theorem aBX(A:Option Addr)(n c:Nat)(bs:List UInt8)(w:World)(h:ai w w.heap.size 1 A n (bs.map bV))(hn:n<=100000000000):
  Calls prog 105 #[.slice A n c] w fun e w'=>∃A' c',e=.returned (.slice A' n c')/\w'.ownsRow w.heap.size 5 1 (.slice A' n c') n (bs.map bV)/\Below w.heap.size w w':=by
 have hnil:=fun(W:World) (a:Option Addr)=>Lib.run_eql_slice_nil (P:=prog) W 37 5 a n c 0 0 underlying37
 cases A with
 |none=>
  have hb:n=0:=by
   by_cases h0:0<n
   ·obtain⟨ad,he,_⟩:=h.form h0;cases he
   ·omega
  subst hb;have hb:bs=[]:=List.eq_nil_of_length_eq_zero (by simpa using h.len);subst hb;clear h;go_enter func105,ntmps105;go_wp2
  go_ret;exact⟨none,0,rfl,World.ownsRow_nil _ _ _ _,Below.refl _ _⟩
 |some ad=>
  go_enter func105,ntmps105;go_wp2_with (at_builtin;refine JV _ rfl (.tmp 5) (.tmp 6) rfl w.heap.size (some (tZ w.heap.size 0)) 0 0 [] rfl (World.ownsRow_made w _ 0 (Nat.le_refl _) (by simp[maxLen]) rfl) w.heap.size (some ad) n c bs rfl (h.alloc (Nat.le_refl _) _) (by omega) (by simp) ?_;intro A' c' w' hown hg hb)
  go_ret;exact⟨A',c',by simp,by simpa using hown,(((Below.refl _ _).alloc (Nat.le_refl _) _).trans hb)⟩
theorem aL0(W:Nat)(h:1<=W/\W<=6):∃P:Nat,wrap64 (2^(8*W))=(P:Int)/\256<=P/\P<=281474976710656/\Hid (P=256^W):=by
 refine⟨256^W,?_,?_,?_,rfl⟩
 ·rcases aBZ W h.1 h.2 with rfl|rfl|rfl|rfl|rfl|rfl<;>exact(IntWalk.wrap64_in _ ⟨by decide,by decide⟩).trans (by decide)
 ·rcases aBZ W h.1 h.2 with rfl|rfl|rfl|rfl|rfl|rfl<;>decide
 ·rcases aBZ W h.1 h.2 with rfl|rfl|rfl|rfl|rfl|rfl<;>decide
theorem aIQ(x:Int)(W P:Nat)(h:1<=W/\W<=6)(hP:Hid (P=256^W)):∃(m:Nat) (X0:Int),(if x<0 then 0 else x)=X0/\
  (if(P:Int)-1<X0 then(P:Int)-1 else X0)=(m:Int)/\m<281474976710656/\Hid (m=ry x W):=by
 refine⟨ry x W,_,rfl,?_,?_,rfl⟩
 ·have:=aB0 W h.2;rw[hP.out];unfold ry;split<;>split<;>omega
 ·have:=aB0 W h.2;have:=aIj x W h.2;omega
theorem Me(A:Option Addr)(n c:Nat)(bs:List UInt8)(x ww:Int)(w:World)(h:ai w w.heap.size 1 A n (bs.map bV))(hn:n<=100000000):
  Calls prog 174 #[.slice A n c,iV x,iV ww] w fun e w'=>∃A' c',e=.returned (.slice A' (n+mf ww) c')/\
   w'.ownsRow w.heap.size 5 1 (.slice A' (n+mf ww) c') (n+mf ww) ((bs++aV x (mf ww)).map bV)/\Below w.heap.size w w':=by
 have hw:=aMc ww;have zL:=hid (fun w=>aGu ww w);generalize mf ww=W at hw zL ⊢;go_enter func174,ntmps174;go_wp2_with fail;refine(zL.out _).mono ?_;rintro e w'⟨rfl,rfl⟩;clear zL;obtain⟨P,hP,F5,hP2,HP⟩:=aL0 W hw;obtain⟨m,X0,hX0,hM,hm2,Hm⟩:=aIQ x W P hw HP;go_wp2_with fail;refine(aBX A n c bs w h (by omega)).mono ?_;rintro e w1⟨A1,c1,rfl,hown,hb⟩;clear hP hX0 hM;go_wp2_with fail;go_loopw [7,8] (fun v i wr=>∃k A2 c2,k<=W/\i=iV ((W:Int)-(k:Int))/\v=.slice A2 (n+k) c2/\wr.ownsRow w.heap.size 5 1 (.slice A2 (n+k) c2) (n+k) ((bs++(qU m W).take k).map bV)/\Below w.heap.size w wr) (fun _ i _=>(intOf i).toNat)
 case atStart=>exact⟨0,A1,c1,by omega,by simp,by simp,by simpa using hown,hb⟩
 case round=>
  obtain⟨k,A2,c2,hk,rfl,rfl,hown2,hb2⟩:=hrel;by_cases hkW:k<W
  ·have hd:=aNe m W k hkW;have HD:=hid (aAH m W k hkW);go_wp2_with (at_builtin;refine JV _ rfl (.tmp 25) (.tmp 32) rfl w.heap.size A2 (n+k) c2 _ rfl (hown2.alloc _) (wr.heap.size+1) _ 1 1 [Hw m W k] rfl (ai.new wr _ _ 1 rfl) (by omega) (by have:=hb2.size;simp;omega) ?_;intro A3 c3 w3 uU hg3 hb3)
   have hb4:Below w.heap.size w w3:=(hb2.alloc hb2.size _).trans hb3;go_roundw;case rel=>exact⟨k+1,A3,c3,by omega,by go_num,rfl,by rw[HD.out,<-List.append_assoc];exact uU,hb4⟩
   case measure=>simp[intOf];omega
  ·obtain rfl:k=W:=by omega
   rw[List.take_of_length_le (by simp[qU])]at hown2;go_wp2_with fail;go_ret;exact⟨A2,c2,rfl,by rw[aV,<-Hm.out];exact hown2,hb2⟩
theorem aMT(x ww:Int)(w:World):
  Calls prog 174 #[.slice none 0 0,iV x,iV ww] w fun e w'=>∃A' c',e=.returned (.slice A' (mf ww) c')/\
   w'.ownsRow w.heap.size 5 1 (.slice A' (mf ww) c') (mf ww) ((aV x (mf ww)).map bV)/\Below w.heap.size w w':=
 (Me none 0 0 [] x ww w ai.empty (by omega)).mono fun e w' ⟨A',c',h1,h2,h3⟩=>⟨A',c',by simpa using h1,by simpa using h2,h3⟩
end Go.Proofs.YtfjkpigldogkeaaGreatDoor
