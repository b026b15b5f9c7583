/- Contracts of functions that TopQuiet reaches, under the conditions that each states. -/
import Derived.Test.YtfjkpigldogkeaaGreatDoorQai
import Derived.Deep.Fields
import Derived.ChangeSame
import Derived.Lib.SmallJoins
set_option linter.all false
set_option maxRecDepth 100000
set_option maxHeartbeats 2000000
namespace Go.Proofs.YtfjkpigldogkeaaGreatDoor
open Go.RowKit Go.ChangeShapes Go.WideShapes Go.ChangeAt Go.Proofs.Tryz
section
open Go.Deep Go.Joins
section
variable{H:Type}{enc:TypeId×Value->H}{P:Program}{W:World}
def aOA(q:Int×Int×Int):List Value:=[iV q.1,iV q.2.1,iV q.2.2]
theorem lh.conv{α β:Type}{w:World}{B size n:Nat}{A:Option Addr}{cells:α->List Value}{cells':β->List Value}{l:List α}(h:lh w B size A n cells l)(f:α->β)(hf:∀x,cells' (f x)=cells x):lh w B size A n cells' (l.map f):=by
 refine⟨by simpa using h.1,fun k y hy=>?_⟩;rw[List.getElem?_map]at hy;cases hx:l[k]? with
 |none=>rw[hx]at hy;simp at hy
 |some x=>
  rw[hx]at hy;simp at hy;subst hy;obtain⟨ad,e,hb,hc⟩:=h.2 k x hx;exact⟨ad,e,hb,fun j u hu=>hc j u (by rw[<-hf];exact hu)⟩
theorem aDd{t e:TypeId}{f0 f1 f2:Field}{v:Value}{x:DataW H×List MemPlace}{fuel:Nat}(ht:P.underlying t=some (.slice e))(he:P.underlying e=some (.struct #[f0,f1,f2]))
(hone:oneCellFields P #[f0,f1,f2]=true)(hC:P.cellsOf e=3)(i0:P.underlying f0.type=some (.int .i64))(i1:P.underlying f1.type=some (.int .i64))(i2:P.underlying f2.type=some (.int .i64))
(h:DataW.trod enc P W 0 (fun _=>true) true fuel t [v]=some x):
  ∃(A:Option Addr) (n c:Nat) (l:List (Int×Int×Int)),v=.slice A n c/\lh W W.heap.size 3 A n aOA l/\n<=c/\c<=maxLen/\
   ∀q∈l,(Lit.int .i64 q.1).wf=true/\(Lit.int .i64 q.2.1).wf=true/\(Lit.int .i64 q.2.2).wf=true:=by
 rcases open_slice ht h with⟨hcs,_⟩|⟨a,len,cap,m,n,D,Pl,hcs,_,hl,hm,hmm,_,hi⟩
 ·simp at hcs;subst hcs;exact⟨none,0,0,[],rfl,lh.nil,Nat.le_refl _,by simp[maxLen],by simp⟩
 ·simp at hcs;subst hcs;have hm2:m=cap:=by simpa using hmm
  have hex:∀i:Nat,∃q:Int×Int×Int,i<len->(∀j u,(aOA q)[j]? =some u->W.cell? (a.add (i*3+j))=some u)/\(Lit.int .i64 q.1).wf=true/\(Lit.int .i64 q.2.1).wf=true/\(Lit.int .i64 q.2.2).wf=true:=by
   intro i;by_cases hil:i<len
   ·obtain⟨cs',hc,ht'⟩:=hi i (by omega);rw[hC]at hc;obtain⟨ys,n',_,_,hlen,hyl,hf⟩:=DataW.trod_struct he ht';obtain⟨_,hcl,hat⟩:=World.cells?_some hc;have hval:∀(j:Nat)(f:Field),(#[f0,f1,f2]:Array Field)[j]? =some f->P.underlying f.type=some (.int .i64)->∃q:Int,cs'[j]? =some (iV q)/\(Lit.int .i64 q).wf=true:=by
     intro j f hj hu;obtain⟨ho,hk⟩:=hone_of hone j f hj;have hjl:j<3:=by have:=(Array.getElem?_eq_some_iff.1 hj).1;simpa using this
     have h1:=hf j f hj;rw[ho,hk]at h1;have hone':(cs'.drop j).take 1=[cs'[j]'(by omega)]:=by
      rw[List.drop_eq_getElem_cons (by omega)];rfl
     rw[hone']at h1;have hys:ys[j]? =some (ys[j]'(by simp at hyl;omega)):=List.getElem?_eq_getElem (by simp at hyl;omega);obtain⟨q,e1,_,w1⟩:=DataW.trod_int hu (h1.trans hys);refine⟨q,?_,w1⟩;rw[List.getElem?_eq_getElem (by omega)];simpa using e1
    obtain⟨q0,e0,w0⟩:=hval 0 f0 rfl i0;obtain⟨q1,e1,w1⟩:=hval 1 f1 rfl i1;obtain⟨q2,e2,w2⟩:=hval 2 f2 rfl i2;refine⟨(q0,q1,q2),fun _=>⟨fun j u hu=>?_,w0,w1,w2⟩⟩;have hj:j<3:=by have:=(List.getElem?_eq_some_iff.1 hu).1;simpa[aOA]using this
    have hcell:=hat j hj;rw[aBs]at hcell;rw[hcell,<-hu];have:j=0\/j=1\/j=2:=by omega
    rcases this with rfl|rfl|rfl
    ·exact e0
    ·exact e1
    ·exact e2
   ·exact⟨(0,0,0),fun h=>absurd h hil⟩
  refine⟨some a,len,cap,(List.range len).map (fun i=>(hex i).choose),rfl,⟨by simp,fun k q hk=>?_⟩,hl,hm,fun q hq=>?_⟩
  ·have Ew:k<len:=by
    have:=(List.getElem?_eq_some_iff.1 hk).1;simpa using this
   have hq2:q=(hex k).choose:=by
    rw[List.getElem?_map,List.getElem?_range Ew]at hk;simpa using hk.symm
   obtain⟨hc,_⟩:=(hex k).choose_spec Ew;rw[hq2];refine⟨a,rfl,?_,hc⟩;have:=World.block_lt_of_cell? W _ (hc 0 _ rfl);rwa[dw]at this
  ·obtain⟨k,hk,rfl⟩:=List.mem_map.1 hq;exact((hex k).choose_spec (by simpa using hk)).2
end
structure mg (W:World) (t:aG) (a:bM):Prop where
 zn:Jz W t a
 l1:t.parts.length<=9223372036854775807
 l2:t.wins.length<=9223372036854775807
 l3:t.chans.length<=9223372036854775807
 c1:t.parts.length<=a.c1
 c2:t.wins.length<=a.c2
 c3:t.chans.length<=a.c3
 m1:a.c1<=9223372036854775807
 m2:a.c2<=9223372036854775807
 m3:a.c3<=9223372036854775807
 f1: -9223372036854775808<=t.frame
 f2:t.frame<=9223372036854775807
 r1: -9223372036854775808<=t.trial
 r2:t.trial<=9223372036854775807
 ps:∀p∈t.parts,(Lit.int .i64 p.mem).wf=true/\(Lit.int .i64 p.fuel).wf=true/\(Lit.int .i64 p.uw).wf=true
 ws:∀p∈t.wins,(Lit.int .i64 p.part).wf=true/\(Lit.int .i64 p.at_).wf=true/\(Lit.int .i64 p.long).wf=true
 cs:∀p∈t.chans,(Lit.int .i64 p.src).wf=true/\(Lit.int .i64 p.dst).wf=true/\(Lit.int .i64 p.depth).wf=true
section
variable{H:Type}{enc:TypeId×Value->H}{W:World}
theorem aBO{fs:Array Field}{cs:List Value}{i:Nat}{f:Field}{n:Nat}{y:DataW H×List MemPlace}(hone:oneCellFields prog fs=true)(hf:fs[i]? =some f)(hl:i<cs.length)
(h:DataW.trod enc prog W 0 (fun _=>true) true n f.type ((cs.drop f.offset).take (prog.cellsOf f.type))=some y):DataW.trod enc prog W 0 (fun _=>true) true n f.type [cs[i]]=some y:=by
 obtain⟨ho,hk⟩:=hone_of hone i f hf;rw[ho,hk]at h;rwa[show(cs.drop i).take 1=[cs[i]] by rw[List.drop_eq_getElem_cons hl];rfl]at h
theorem aPB{α:Type}(l:List α)(h:l.length=5):∃a b c d e,l=[a,b,c,d,e]:=by
 match l,h with
 |[a,b,c,d,e],_=>exact⟨a,b,c,d,e,rfl⟩
end
end
abbrev gU(t:aG)(a:bM):Value:=.agg #[iV t.frame,.slice a.A1 t.parts.length a.c1,.slice a.A2 t.wins.length a.c2,.slice a.A3 t.chans.length a.c3,iV t.trial]
theorem aF5(t:aG)(p:Int):gG t p=(decide (0<=p)&&decide (p<t.parts.length)):=by
 unfold gG mG;congr 1
 rw[decide_eq_decide];omega
theorem Nk(t:aG)(a:bM)(w:World):∃w1:World,w.alloc (.cells #[iV t.frame,.slice a.A1 t.parts.length a.c1,.slice a.A2 t.wins.length a.c2,.slice a.A3 t.chans.length a.c3,iV t.trial] 26)=w1/\Below w.heap.size w w1/\ak w1 w.heap.size 26 (bI t a)/\w1.heap.size=w.heap.size+1:=
 ⟨_,rfl,(Below.refl _ _).alloc (Nat.le_refl _) _,ak.new _ _ _,by simp⟩
theorem aAP(t:aG)(a:bM)(p:Int)(w:World)(hn:t.parts.length<=100000):
  Calls prog 235 #[gU t a,iV p] w fun e w'=>e=.returned (.bool (gG t p))/\Below w.heap.size w w':=by
 have HB:=hid (aF5 t p);generalize gG t p=r at HB ⊢;obtain⟨w1,hw1,hb1,ub,hs1⟩:=Nk t a w;obtain⟨frame,parts,wins,chans,trial⟩:=t;obtain⟨A1,k1,A2,k2,A3,k3⟩:=a;simp only[gU,bI]at hn hw1 HB ub ⊢;generalize parts.length=n1 at*
 generalize wins.length=n2 at*
 generalize chans.length=n3 at*
 have c1:w1.cell? (tZ w.heap.size 1)=some (.slice A1 n1 k1):=ub.cellAt (i:=1) rfl;clear ub hs1;by_cases h0:0<=p
 ·have y0:decide (0<=p)=true:=decide_eq_true h0;by_cases h1:p<(n1:Int)
  ·have y1:decide (p<(n1:Int))=true:=decide_eq_true h1;have hr:r=true:=by rw[HB.out,y0,y1];rfl
   subst hr;clear h0 h1;go_enter func235,ntmps235;go_wp2_with fail;go_ret;exact⟨rfl,hb1⟩
  ·have y1:decide (p<(n1:Int))=false:=decide_eq_false h1;have hr:r=false:=by rw[HB.out,y0,y1];rfl
   subst hr;clear h0 h1;go_enter func235,ntmps235;go_wp2_with fail;go_ret;exact⟨rfl,hb1⟩
 ·have y0:decide (0<=p)=false:=decide_eq_false h0;have hr:r=false:=by rw[HB.out,y0];rfl
  subst hr;clear h0;go_enter func235,ntmps235;go_wp2_with fail;go_ret;exact⟨rfl,hb1⟩
theorem aH2(c:aB)(w:World):
  Calls prog 370 #[.agg #[iV c.src,iV c.dst,iV c.depth]] w fun e w'=>e=.returned (iV c.src)/\Below w.heap.size w w':=by
 obtain⟨x,y,z⟩:=c;simp only;have hb:Below w.heap.size w (w.alloc (.cells #[iV x,iV y,iV z] 75)):=(Below.refl _ _).alloc (Nat.le_refl _) _;go_enter func370,ntmps370;go_wp2_with fail;go_ret;exact⟨rfl,hb⟩
theorem aGV(c:aB)(w:World):
  Calls prog 371 #[.agg #[iV c.src,iV c.dst,iV c.depth]] w fun e w'=>e=.returned (iV c.dst)/\Below w.heap.size w w':=by
 obtain⟨x,y,z⟩:=c;simp only;have hb:Below w.heap.size w (w.alloc (.cells #[iV x,iV y,iV z] 75)):=(Below.refl _ _).alloc (Nat.le_refl _) _;go_enter func371,ntmps371;go_wp2_with fail;go_ret;exact⟨rfl,hb⟩
theorem aOK:∀m:Fin 16,∀k:Fin 4,m.val<2^k.val->bits BinOp.or IntKind.i64 (m.val:Int) ((2^k.val:Nat):Int)=((m.val+2^k.val:Nat):Int):=by decide+kernel
theorem aIp(k m:Nat)(hk:k<4)(hm:m<2^k):Value.int IntKind.i64 (bits BinOp.or IntKind.i64 (m:Int) (wrap64 (2^k)))=iV ((m+2^k:Nat):Int):=by
 have h4:k=0\/k=1\/k=2\/k=3:=by omega
 have hw:wrap64 ((2:Int)^k)=((2^k:Nat):Int):=by rcases h4 with rfl|rfl|rfl|rfl<;>decide+kernel
 have GV:m<16:=Nat.lt_of_lt_of_le hm (show 2^k<=2^4 from Nat.pow_le_pow_right (by omega) (by omega));rw[hw];exact congrArg _ (aOK ⟨m,GV⟩ ⟨k,hk⟩ hm)
theorem aBN(t:aG)(a:bM)(p:Int)(w:World)(h:dM w t a):
  Calls prog 369 #[gU t a,iV p,.func (Fn.func 370) #[] #[]] w fun e w'=>e=.returned (iV (fV aB.src t p:Nat))/\Below w.heap.size w w':=by
 obtain⟨A1,k1,A2,k2,A3,k3⟩:=a;obtain⟨w1,hw1,hb1,ub,hs1⟩:=Nk t ⟨A1,k1,A2,k2,A3,k3⟩ w;simp only[gU]at hw1 ⊢;have h1:=h.belowS hb1;have BV:=h.n1;have HC:=hid (show fV aB.src t p=if aS t&&gG t p then jL aB.src p t.chans else 0 from rfl);have i1:=hid (jq t ⟨A1,k1,A2,k2,A3,k3⟩ w1 h1);have i2:=hid (fun w=>aAP t ⟨A1,k1,A2,k2,A3,k3⟩ p w BV);have HN:=hid (fun hR=>((bK t).1 hR).c4);have Gs:=hid (fun w' (hb:Below w.heap.size w w')=>(h.zn.belowS hb).2.2);simp only[gU]at i1 i2;generalize aS t=r1 at*
 generalize gG t p=r2 at*
 generalize fV aB.src t p=R at HC ⊢;obtain⟨c0,c1,c2,c3,c4⟩:=bi ub;clear h h1 hs1;cases r1 with
 |false=>
  have hR:R=0:=by rw[HC.out];rfl
  subst hR;clear ub;go_enter func369,ntmps369;go_wp2_with fail;refine i1.out.mono ?_;rintro e w2⟨rfl,hb2⟩;go_wp2_with fail;go_ret;exact⟨rfl,ag hb1 hb2⟩
 |true=>
  go_enter func369,ntmps369;go_wp2_with fail;refine i1.out.mono ?_;rintro e w2⟨rfl,hb2⟩;have uo:=ub.belowS hb2;have wB:=ag hb1 hb2;clear c0 c1 c2 c3 c4 ub i1;obtain⟨c0,c1,c2,c3,c4⟩:=bi uo;go_wp2_with fail;refine(i2.out _).mono ?_;rintro e w3⟨rfl,hb3⟩;have uO:=uo.belowS hb3;have vp:=ag wB hb3;clear c0 c1 c2 c3 c4 uo i2;obtain⟨c0,c1,c2,c3,c4⟩:=bi uO;cases r2 with
  |false=>
   have hR:R=0:=by rw[HC.out];rfl
   subst hR;clear uO;go_wp2_with fail;go_ret;exact⟨rfl,vp⟩
  |true=>
   have HR:Hid (R=jL aB.src p t.chans):=hid (by rw[HC.out];rfl);have hn4:=HN.out trivial;clear HC HN hb2 hb3 wB hb1;have hbz:=uO.lt;go_wp2_with fail;clear c0 c1 c2 c3 c4 hw1;have yh:=hid uO;have vk:=hid vp;clear uO vp hbz;go_loopw [7,8,9,22] (fun v7 _ _ v22 wr=>∃(k m:Nat),k<=t.chans.length/\v22=iV (k:Int)/\v7=iV (m:Int)/\Hid (m=jL aB.src p (t.chans.take k))/\m<2^k/\Below w.heap.size w wr) (fun _ _ _ v22 _=>t.chans.length-(intOf v22).toNat)
   case atStart=>exact⟨0,0,by omega,rfl,rfl,hid (by simp[jL,qi,kM]),by omega,vk.out⟩
   case round=>
    clear vk yh;obtain⟨k,m,hk,rfl,rfl,HM,hmk,ui⟩:=hrel;by_cases hkn:k<t.chans.length
    ·obtain⟨ad,x,rfl,had,hx,hc0,hc⟩:=(Gs.out _ ui).at_ hkn;have d0:=hc0 _ rfl;have d1:=hc 0 _ rfl;have d2:=hc 1 _ rfl;clear hc0 hc;have HS:Hid (jL aB.src p (t.chans.take (k+1))=m+(x.src==p).toNat*2^k):=hid (by
      rw[List.take_add_one,hx];show jL aB.src p (t.chans.take k++[x])=_
      rw[aD5,<-HM.out,List.length_take,Nat.min_eq_left hk])
     have i3:=hid (aH2 x);obtain⟨x0,x1,x2⟩:=x;simp only at d0 d1 d2 HS i3;clear hx HM;by_cases he:x0=p
     ·have y0:(x0==p)=true:=by simpa using he
      rw[y0]at HS;clear y0;subst he;have y0:(x0==x0)=true:=by simp
      go_wp2_with fail;refine(i3.out _).mono ?_;rintro e w4⟨rfl,hb4⟩;go_wp2_with fail;go_roundw;case rel=>exact⟨k+1,m+2^k,by omega,by go_num,aIp k m (by omega) hmk,hid (by rw[HS.out];simp),by rw[Nat.pow_succ];omega,ag (aC ui _) hb4⟩
      case measure=>simp[intOf];omega
     ·have y0:(x0==p)=false:=by simpa using he
      rw[y0]at HS;clear he;go_wp2_with fail;refine(i3.out _).mono ?_;rintro e w4⟨rfl,hb4⟩;go_wp2_with fail;go_roundw;case rel=>exact⟨k+1,m,by omega,by go_num,rfl,hid (by rw[HS.out];simp),by rw[Nat.pow_succ];omega,ag (aC ui _) hb4⟩
      case measure=>simp[intOf];omega
    ·obtain rfl:k=t.chans.length:=by omega
     have hm:m=R:=by rw[HM.out,HR.out,List.take_length]
     subst hm;go_wp2_with fail;go_ret;exact⟨rfl,ui⟩
theorem aJm(t:aG)(a:bM)(p:Int)(w:World)(h:dM w t a):
  Calls prog 297 #[gU t a,iV p] w fun e w'=>e=.returned (iV (fV aB.src t p:Nat))/\Below w.heap.size w w':=by
 obtain⟨w1,hw1,hb1,ub,hs1⟩:=Nk t a w;have i1:=hid (aBN t a p w1 (h.belowS hb1));generalize fV aB.src t p=R at i1 ⊢;simp only[gU]at i1 hw1 ⊢;obtain⟨c0,c1,c2,c3,c4⟩:=bi ub;clear h ub hs1;go_enter func297,ntmps297;go_wp2_with fail;refine i1.out.mono ?_;rintro e w2⟨rfl,hb2⟩;go_wp2_with fail;go_ret;exact⟨rfl,ag hb1 hb2⟩
theorem aC3(t:aG)(a:bM)(p:Int)(w:World)(h:dM w t a):
  Calls prog 369 #[gU t a,iV p,.func (Fn.func 371) #[] #[]] w fun e w'=>e=.returned (iV (fV aB.dst t p:Nat))/\Below w.heap.size w w':=by
 obtain⟨A1,k1,A2,k2,A3,k3⟩:=a;obtain⟨w1,hw1,hb1,ub,hs1⟩:=Nk t ⟨A1,k1,A2,k2,A3,k3⟩ w;simp only[gU]at hw1 ⊢;have h1:=h.belowS hb1;have BV:=h.n1;have HC:=hid (show fV aB.dst t p=if aS t&&gG t p then jL aB.dst p t.chans else 0 from rfl);have i1:=hid (jq t ⟨A1,k1,A2,k2,A3,k3⟩ w1 h1);have i2:=hid (fun w=>aAP t ⟨A1,k1,A2,k2,A3,k3⟩ p w BV);have HN:=hid (fun hR=>((bK t).1 hR).c4);have Gs:=hid (fun w' (hb:Below w.heap.size w w')=>(h.zn.belowS hb).2.2);simp only[gU]at i1 i2;generalize aS t=r1 at*
 generalize gG t p=r2 at*
 generalize fV aB.dst t p=R at HC ⊢;obtain⟨c0,c1,c2,c3,c4⟩:=bi ub;clear h h1 hs1;cases r1 with
 |false=>
  have hR:R=0:=by rw[HC.out];rfl
  subst hR;clear ub;go_enter func369,ntmps369;go_wp2_with fail;refine i1.out.mono ?_;rintro e w2⟨rfl,hb2⟩;go_wp2_with fail;go_ret;exact⟨rfl,ag hb1 hb2⟩
 |true=>
  go_enter func369,ntmps369;go_wp2_with fail;refine i1.out.mono ?_;rintro e w2⟨rfl,hb2⟩;have uo:=ub.belowS hb2;have wB:=ag hb1 hb2;clear c0 c1 c2 c3 c4 ub i1;obtain⟨c0,c1,c2,c3,c4⟩:=bi uo;go_wp2_with fail;refine(i2.out _).mono ?_;rintro e w3⟨rfl,hb3⟩;have uO:=uo.belowS hb3;have vp:=ag wB hb3;clear c0 c1 c2 c3 c4 uo i2;obtain⟨c0,c1,c2,c3,c4⟩:=bi uO;cases r2 with
  |false=>
   have hR:R=0:=by rw[HC.out];rfl
   subst hR;clear uO;go_wp2_with fail;go_ret;exact⟨rfl,vp⟩
  |true=>
   have HR:Hid (R=jL aB.dst p t.chans):=hid (by rw[HC.out];rfl);have hn4:=HN.out trivial;clear HC HN hb2 hb3 wB hb1;have hbz:=uO.lt;go_wp2_with fail;clear c0 c1 c2 c3 c4 hw1;have yh:=hid uO;have vk:=hid vp;clear uO vp hbz;go_loopw [7,8,9,22] (fun v7 _ _ v22 wr=>∃(k m:Nat),k<=t.chans.length/\v22=iV (k:Int)/\v7=iV (m:Int)/\Hid (m=jL aB.dst p (t.chans.take k))/\m<2^k/\Below w.heap.size w wr) (fun _ _ _ v22 _=>t.chans.length-(intOf v22).toNat)
   case atStart=>exact⟨0,0,by omega,rfl,rfl,hid (by simp[jL,qi,kM]),by omega,vk.out⟩
   case round=>
    clear vk yh;obtain⟨k,m,hk,rfl,rfl,HM,hmk,ui⟩:=hrel;by_cases hkn:k<t.chans.length
    ·obtain⟨ad,x,rfl,had,hx,hc0,hc⟩:=(Gs.out _ ui).at_ hkn;have d0:=hc0 _ rfl;have d1:=hc 0 _ rfl;have d2:=hc 1 _ rfl;clear hc0 hc;have HS:Hid (jL aB.dst p (t.chans.take (k+1))=m+(x.dst==p).toNat*2^k):=hid (by
      rw[List.take_add_one,hx];show jL aB.dst p (t.chans.take k++[x])=_
      rw[aD5,<-HM.out,List.length_take,Nat.min_eq_left hk])
     have i3:=hid (aGV x);obtain⟨x0,x1,x2⟩:=x;simp only at d0 d1 d2 HS i3;clear hx HM;by_cases he:x1=p
     ·have y0:(x1==p)=true:=by simpa using he
      rw[y0]at HS;clear y0;subst he;have y0:(x1==x1)=true:=by simp
      go_wp2_with fail;refine(i3.out _).mono ?_;rintro e w4⟨rfl,hb4⟩;go_wp2_with fail;go_roundw;case rel=>exact⟨k+1,m+2^k,by omega,by go_num,aIp k m (by omega) hmk,hid (by rw[HS.out];simp),by rw[Nat.pow_succ];omega,ag (aC ui _) hb4⟩
      case measure=>simp[intOf];omega
     ·have y0:(x1==p)=false:=by simpa using he
      rw[y0]at HS;clear he;go_wp2_with fail;refine(i3.out _).mono ?_;rintro e w4⟨rfl,hb4⟩;go_wp2_with fail;go_roundw;case rel=>exact⟨k+1,m,by omega,by go_num,rfl,hid (by rw[HS.out];simp),by rw[Nat.pow_succ];omega,ag (aC ui _) hb4⟩
      case measure=>simp[intOf];omega
    ·obtain rfl:k=t.chans.length:=by omega
     have hm:m=R:=by rw[HM.out,HR.out,List.take_length]
     subst hm;go_wp2_with fail;go_ret;exact⟨rfl,ui⟩
theorem aEL(t:aG)(a:bM)(p:Int)(w:World)(h:dM w t a):
  Calls prog 298 #[gU t a,iV p] w fun e w'=>e=.returned (iV (fV aB.dst t p:Nat))/\Below w.heap.size w w':=by
 obtain⟨w1,hw1,hb1,ub,hs1⟩:=Nk t a w;have i1:=hid (aC3 t a p w1 (h.belowS hb1));generalize fV aB.dst t p=R at i1 ⊢;simp only[gU]at i1 hw1 ⊢;obtain⟨c0,c1,c2,c3,c4⟩:=bi ub;clear h ub hs1;go_enter func298,ntmps298;go_wp2_with fail;refine i1.out.mono ?_;rintro e w2⟨rfl,hb2⟩;go_wp2_with fail;go_ret;exact⟨rfl,ag hb1 hb2⟩
theorem aNB(w:World):∃w':World,w.alloc (.cells #[iV 0,iV 0,iV 0,iV 0,.bool false,.bool false] 131)=w'/\Below w.heap.size w w'/\ak w' w.heap.size 131 (qB 0 0 0 0 false false)/\w'.heap.size=w.heap.size+1:=⟨_,rfl,(Below.refl _ _).alloc (Nat.le_refl _) _,ak.new w _ (qB 0 0 0 0 false false),by simp⟩
theorem aPv(t:aG)(a:bM)(F T:Nat)(hF:t.frame=(F:Int))(hT:T<=9223372036854775807)(w:World)(h:dM w t a)(hR:mD t):
  Calls prog 58 #[.agg #[iV t.frame,.slice a.A1 t.parts.length a.c1,.slice a.A2 t.wins.length a.c2,.slice a.A3 t.chans.length a.c3,iV t.trial],iV (T:Int)] w fun e w'=>e=.returned (.tuple #[Oe t F T,iV 0])/\Below w.heap.size w w':=by
 obtain⟨A1,k1,A2,k2,A3,k3⟩:=a;simp only;obtain⟨w1,hw1,hb0,uJ,hs1⟩:=aM7 t ⟨A1,k1,A2,k2,A3,k3⟩ w;simp only at hw1;obtain⟨w2,hw2,hb2,Bq,hs2⟩:=aNB w1;have i1:=hid (jq t ⟨A1,k1,A2,k2,A3,k3⟩ w2 ((h.belowS hb0).belowS hb2));simp only at i1;rw[(bK t).2 hR]at i1;have i2:=hid (fun w' hb=>aOS t ⟨A1,k1,A2,k2,A3,k3⟩ F T hF hT w' (((h.belowS hb0).belowS hb2).belowS (w':=w') hb) hR);simp only at i2;unfold Oe at i2 ⊢;have ht0:decide ((T:Int)<0)=false:=decide_eq_false (by omega);have uo:=uJ.belowS hb2;obtain⟨c0,c1,c2,c3,c4⟩:=bi uo;simp only at c0 c1 c2 c3 c4;have hbb:=hid (ag hb0 hb2);clear h hR uJ hb0 hb2 hF;go_enter func58,ntmps58;go_wp2_with fail;clear hw1 hw2;refine i1.out.mono ?_;rintro e w3⟨rfl,hb3⟩;rw[<-hs1];have Di:=Bq.belowS hb3;have DX:=hid (ag hbb.out hb3);have hlt:w.heap.size<=w1.heap.size:=by omega
 have uO:=uo.belowS hb3;clear c0 c1 c2 c3 c4;obtain⟨c0,c1,c2,c3,c4⟩:=bi uO;simp only at c0 c1 c2 c3 c4;have i3:=hid (i2.out w3 hb3);clear hs1 hs2 Bq uo hb3 i2;generalize w1.heap.size=rb at*
 generalize hD:T/F=D at i3;have HD:=hid hD;clear hD;generalize hM:T%F=M at i3;have HM:=hid hM;clear hM;generalize hI:lW (kE (M:Int)) t.wins=I at i3;have HI:=hid hI;clear hI;generalize Au:oP t.wins (M:Int)=pa at i3;have HP:=hid Au;clear Au;generalize hst:o7 t.wins (M:Int)=st at i3;have HS:=hid hst;clear hst;go_wp2_with fail;refine i3.out.mono ?_;rintro e w4⟨rfl,hb4⟩;have yJ:=Di.belowS hb4;have xx:=hid yJ;have zi:=hid (ag DX.out hb4);obtain⟨r0,r1,r2,r3,r4,r5⟩:_/\_/\_/\_/\_/\_:=⟨yJ.cellAt (i:=0) rfl,yJ.cellAt (i:=1) rfl,yJ.cellAt (i:=2) rfl,yJ.cellAt (i:=3) rfl,yJ.cellAt (i:=4) rfl,yJ.cellAt (i:=5) rfl⟩;obtain⟨s0,s1,s2,s3,s4,s5⟩:_/\_/\_/\_/\_/\_:=⟨yJ.frozen 0,yJ.frozen 1,yJ.frozen 2,yJ.frozen 3,yJ.frozen 4,yJ.frozen 5⟩;clear yJ Di hb4 uO c0 c1 c2 c3 c4;go_wp2_with fail;obtain⟨w6,vU,uS,uQ⟩:=aEP xx.out rfl (iV (D:Int)) (iV (M:Int)) (iV I) (iV pa) (.bool ((M:Int)==0)) (.bool st);rw[vU];clear vU r0 r1 r2 r3 r4 r5 s0 s1 s2 s3 s4 s5;obtain⟨r0,r1,r2,r3,r4,r5⟩:_/\_/\_/\_/\_/\_:=⟨uQ.cellAt (i:=0) rfl,uQ.cellAt (i:=1) rfl,uQ.cellAt (i:=2) rfl,uQ.cellAt (i:=3) rfl,uQ.cellAt (i:=4) rfl,uQ.cellAt (i:=5) rfl⟩;refine bodyPost_ret (v:=.tuple #[.agg #[iV (D:Int),iV (M:Int),iV I,iV pa,.bool ((M:Int)==0),.bool st],iV 0]) (by simp[results,results58,go_sem,r0,r1,r2,r3,r4,r5]) rfl ?_;exact⟨by rw[HD.out,HM.out,HI.out,HP.out,HS.out],zi.out.trans (uS.mono (by omega))⟩
end Go.Proofs.YtfjkpigldogkeaaGreatDoor
