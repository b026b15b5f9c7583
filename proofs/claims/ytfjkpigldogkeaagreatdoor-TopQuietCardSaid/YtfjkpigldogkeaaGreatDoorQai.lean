/- Contracts of functions that TopQuiet reaches, under the conditions that each states. -/
import Derived.Test.YtfjkpigldogkeaaGreatDoorQah
import Derived.Test.YtfjkpigldogkeaaGreatDoorQza
import Derived.ProofKit
import Derived.OpenShut
import Derived.ShutString
import Derived.ChangeOld
import Derived.Below
import Derived.Deep.Slices
import Derived.Test.YtfjkpigldogkeaaGreatDoorRows
import Derived.Laws.StructEq
set_option linter.all false
set_option maxRecDepth 20000
set_option maxHeartbeats 2000000
namespace Go.Proofs.YtfjkpigldogkeaaGreatDoor
open Go.RowKit Go.ChangeShapes Go.WideShapes Go.ChangeAt Go.Proofs.Tryz
section
open Go.ChangeMaps (open_string shut_string)
section
variable{H:Type}{enc:TypeId×Value->H}{P:Program}{W:World}
theorem aHC{t e:TypeId}{k:IntKind}{v:Value}{x:DataW H×List MemPlace}{fuel:Nat}(ht:P.underlying t=some (.slice e))(he:P.underlying e=some (.int k))(hc:P.cellsOf e=1)
(hf:DataW.trod enc P W 0 (fun _=>true) true fuel t [v]=some x):
  ∃(A:Option Addr) (n c:Nat) (zs:List Int),v=.slice A n c/\ai W W.heap.size 1 A n (zs.map (Value.int k))/\n<=c/\c<=maxLen/\∀z∈zs,(Lit.int k z).wf=true:=by
 rcases open_ints ht he hc hf with⟨hcs,_⟩|⟨x,l,c,zs,hcs,_,hl,hm,hz,_,hcell,hwz⟩
 ·simp at hcs;subst hcs;exact⟨none,0,0,[],rfl,ai.empty,Nat.le_refl _,by simp[maxLen],by simp⟩
 ·simp at hcs;subst hcs;have hz':zs.length=c:=by simpa using hz
  refine⟨some x,l,c,zs.take l,rfl,⟨by simp;omega,fun hn=>⟨x,rfl,?_,fun j u hu=>?_⟩⟩,hl,hm,fun z h=>hwz z (List.mem_of_mem_take h)⟩
  ·have h0:=hcell 0 (by omega);have:=World.block_lt_of_cell? W _ h0;rwa[dw]at this
  ·rw[List.getElem?_map,List.getElem?_take]at hu;split at hu
   ·rw[hcell j (by omega)];rw[<-hu];simp[List.getD_eq_getElem?_getD,List.getElem?_eq_getElem (show j<zs.length by omega)]
   ·simp at hu
theorem aDH(zs:List Int)(h:∀z∈zs,(Lit.int .u8 z).wf=true):∃bs:List UInt8,zs.map (Value.int .u8)=bs.map bV:=by
 refine⟨zs.map fun z=>UInt8.ofNat z.toNat,?_⟩;rw[List.map_map];apply List.map_congr_left
 intro z hz;have:=bounds_u8 (h z hz);simp only[Function.comp,bV,UInt8.toNat_ofNat'];congr 1
 omega
theorem aDz{t e:TypeId}{v:Value}{x:DataW H×List MemPlace}{fuel:Nat}(ht:P.underlying t=some (.slice e))(he:P.underlying e=some (.int .u8))(hc:P.cellsOf e=1)
(hf:DataW.trod enc P W 0 (fun _=>true) true fuel t [v]=some x):
  ∃(A:Option Addr) (n c:Nat) (bs:List UInt8),v=.slice A n c/\ai W W.heap.size 1 A n (bs.map bV)/\n<=c/\c<=maxLen:=by
 obtain⟨A,n,c,zs,hv,hr,hc,hm,hw⟩:=aHC ht he hc hf;obtain⟨bs,hb⟩:=aDH zs hw;exact⟨A,n,c,bs,hv,by rw[<-hb];exact hr,hc,hm⟩
end
end
def KE:Array Value:=((List.replicate 32 (0:UInt8)).map bV).toArray
theorem aAw:KE.size=32:=by simp[KE]
theorem aCd(w:World):(zeroValue 273).run prog w=.ok (.agg KE) w:=by kernel_rfl
theorem aB6(l:List Value)(h:l.length=32):(prog.info? 273).map (·.size)=some l.toArray.size:=by
 have:(prog.info? 273).map (·.size)=some 32:=by kernel_rfl
 rw[this];simp[h]
theorem aCO(l:List UInt8):(l.map bV).toArray.all (·.oneCell')=true:=by
 rw[Array.all_eq_true_iff_forall_mem];intro v hv;simp at hv;obtain⟨b,_,rfl⟩:=hv;rfl
theorem aGl(w:World)(o:Obj)(t:TypeId)(cs:List Value):ak ((w.alloc o).alloc (.cells cs.toArray t)) (w.heap.size+1) t cs:=by
 have h:=ak.new (w.alloc o) t cs;have e:(w.alloc o).heap.size=w.heap.size+1:=by
  show(w.heap.push o).size=_
  simp
 rw[e]at h;exact h
theorem aEz(s:mO)(hp:s.part.length=64):(prog.info? 370).map (·.size)=some (gV s).toArray.size:=by
 have:(prog.info? 370).map (·.size)=some 73:=by kernel_rfl
 rw[this];simp[gV,hp]
theorem aJq(s:mO):(gV s).toArray.all (·.oneCell')=true:=by
 rw[Array.all_eq_true_iff_forall_mem];intro v hv;simp[gV]at hv;rcases hv with rfl|rfl|rfl|rfl|rfl|rfl|rfl|rfl|⟨b,_,rfl⟩|rfl<;>rfl
def aFk:Array Value:=(gV ⟨⟨0,0,0,0,0,0,0,0⟩,List.replicate 64 0,0⟩).toArray
theorem aCb:aFk.size=73:=by simp[aFk,gV]
theorem aHF(w:World):(zeroValue 370).run prog w=.ok (.agg aFk) w:=by kernel_rfl
def nAt(w:World)(g:Nat):Nat:=match w.cell? (tZ g 72)with|some (.int _ n)=>n.toNat|_=>0
theorem aL8{w:World}{g:Nat}{s:mO}(h:ak w g 370 (gV s))(hp:s.part.length=64):nAt w g=s.n:=by
 unfold nAt;rw[h.cellAt (nO s hp)];simp
theorem aGW(g:Nat)(s:mO)(w:World)(h:ak w g 370 (gV s))(hp:s.part.length=64)(hn:s.n<=10000000000):
  Calls prog 179 #[.pointer (some (tZ g 0))] w fun e w'=>e=.returned (.agg (s.sum.map bV).toArray)/\Below w.heap.size w w':=by
 have hz:=aCd;have hzs:=aAw;have hy:=aHF;have hys:=aCb;obtain⟨w2,hw2,zh,hb2,uJ,ub⟩:∃w2:World,(w.alloc (.cells KE 273)).alloc (.cells KE 273)=w2/\w2.heap.size=w.heap.size+1+1/\Below w.heap.size w w2/\ak w2 w.heap.size 273 ((List.replicate 32 (0:UInt8)).map bV)/\ak w2 (w.heap.size+1) 273 ((List.replicate 32 (0:UInt8)).map bV):=by
  exact⟨_,rfl,by simp,((Below.refl _ _).alloc (Nat.le_refl _) _).alloc (by simp) _,(ak.new w _ ((List.replicate 32 (0:UInt8)).map bV)).alloc _,aGl w _ _ _⟩
 have hg:=h.lt;have AO:=h.belowS hb2;obtain⟨w3,hw3,yg,hb3,yx⟩:∃w3:World,w2.alloc (.cells (gV s).toArray 370)=w3/\w3.heap.size=w2.heap.size+1/\Below w2.heap.size w2 w3/\ak w3 w2.heap.size 370 (gV s):=
  ⟨_,rfl,by simp,(Below.refl _ _).alloc (Nat.le_refl _) _,ak.new w2 _ _⟩
 have H0:=hid (uJ.belowS hb3);have H1:=hid (ub.belowS hb3);have HX:=hid yx;have HG2:=hid AO;have HG:=hid h;have Kz:=hid hw3;have HP:=hid hp;have HN:=hid hn;have zB:=hid (hb2.trans (hb3.mono (by omega)));have Gy:=hid (And.intro zh yg);clear uJ ub yx AO h hw3 hp hn hb2 hb3 zh yg;go_enter func179,ntmps179;go_wp2_with (first
  |(refine wpList_load_row rfl 370 _ rfl g rfl 370 (gV s).toArray (0,0) _ HG2.out underlying370 rfl (aEz s HP.out) ?_)
  |(refine wpList_store_row rfl 370 _ _ rfl w2.heap.size (gV s).toArray rfl rfl 370 aFk (heap_alloc_new w2 _) (aEz s HP.out) (by rw[aCb];simp[gV,HP.out]) (aJq s) ?_;rw[World.setRow_alloc_new,Kz.out]))
 clear hz hzs hy hys hw2;have zh:=Gy.out.1;have yg:=Gy.out.2;generalize hgx:w2.heap.size=gx at*
 obtain⟨r0,Dp⟩:∃r0,w.heap.size=r0:=⟨_,rfl⟩;rw[Dp]at zh H0 H1 zB hg ⊢;have Ag:=hid Dp;have uC:=hid (And.intro zh yg);have hgx0:r0<gx:=by omega
 have hgx1:r0+1<gx:=by omega
 have hggx:g≠gx:=by omega
 clear zh yg Dp hgx;refine(aAu gx s 128 w3 HX.out HP.out (by have:=HN.out;omega)).mono ?_;rintro e w4⟨rfl,hb4,hG4⟩;obtain⟨s1,hs1⟩:∃s1,s.put 128=s1:=⟨_,rfl⟩;rw[hs1]at hb4;have hp1:s1.part.length=64:=by rw[<-hs1,aBe];exact HP.out
 have BV:s1.n=s.n+1:=by rw[<-hs1,aD6]
 have zA:=hid hs1;have GR:=hid hp1;have HN1:=hid BV;have hgw3:gx<w3.heap.size:=HX.out.lt;have hg3:g<w3.heap.size:=by omega
 clear hs1 hp1 BV;go_wp2_with fail;go_loopw [16] (fun _ wr=>∃(j:Nat) (S:mO),j<=kY s1.n/\ak wr gx 370 (gV S)/\S.part.length=64/\S.n=s1.n+j/\S.pad (64-j)=s1.pad 64/\w3.grownBy wr (some gx)) (fun _ wr=>s1.n+kY s1.n-nAt wr gx)
 case atStart=>exact⟨0,s1,Nat.zero_le _,hb4,GR.out,rfl,rfl,hG4⟩
 case round=>
  clear hb4 hG4;obtain⟨j,S,hj,hblk,Jf,KF,aRb,hG⟩:=hrel;have hzl:=aHm s1.n;have hze:=aG3 s1.n;have JL:=HN1.out;have Eg:=HN.out;have cN:=hblk.cellAt (nO S Jf);have IV:=aL8 hblk Jf;obtain⟨q,hq⟩:∃q,S.n=q:=⟨_,rfl⟩;rw[hq]at cN IV KF;have hq0:q<=10000000100:=by omega
  by_cases Ny:q%64=56
  ·have t1:(((q:Int)%64) !=56)=false:=by
    have:(q:Int)%64=56:=by omega
    rw[this];rfl
   have t2:(((q:Int)%64)==56)=true:=by
    have:(q:Int)%64=56:=by omega
    rw[this];rfl
   have yS:S=s1.pad 64:=by
    rw[<-aRb];obtain⟨m,hm⟩:∃m,64-j=m+1:=⟨63-j,by omega⟩;rw[hm,aGg S m (by rw[hq];exact Ny)]
   have yX:=hid yS;have uz:=hid hblk;have MV:=hid hG;have HPS:=hid Jf;have HQ:=hid (And.intro hq KF);clear yS hblk hG Jf hq KF aRb IV hze JL Ny hj;go_wp2_with fail;obtain⟨wo,rfl⟩:∃wo:World,wo=wr:=⟨_,rfl⟩;obtain⟨N,hN⟩:∃N,s.n=N:=⟨_,rfl⟩;have HNN:=hid hN;have LI:N<=10000000000:=by rw[<-hN];exact HN.out
   clear hN t1 t2 Eg cN;go_loopw [5] (fun v5 wr=>∃(j:Nat) (sh:Int),j<=8/\v5=iV sh/\Hid (sh=56-8*(j:Int))/\ak wr gx 370 (gV (S.write ((lN N).take j)))/\w3.grownBy wr (some gx)) (fun v5 _=>(intOf v5+8).toNat)
   case atStart=>exact⟨0,56,by omega,rfl,hid (by omega),uz.out,MV.out⟩
   case round=>
    clear uz MV;obtain⟨j2,sh,D7,rfl,HSH,hblk,hG⟩:=hrel;have hsh:=HSH.out;by_cases hj8:j2<8
    ·have hs0:0<=sh:=by omega
     have hs56:sh<=56:=by omega
     have t3:decide (0<=sh)=true:=by simp;omega
     obtain⟨c,hc⟩:∃c,(lN N)[j2]? =some c:=⟨_,aEi N j2 hj8⟩;have hcv:(N:Int)*8/2^sh.toNat%256=(c.toNat:Int):=by
      have h:=aEi N j2 hj8;rw[hc]at h;injection h with h
      rw[h,show sh.toNat=56-8*j2 by omega,UInt8.toNat_ofNat'];push_cast
      rfl
     have hTK:Hid (S.write ((lN N).take (j2+1))=(S.write ((lN N).take j2)).put c):=hid (by
      rw[List.take_add_one,hc];exact aDS _ _ _)
     have hpw:(S.write ((lN N).take j2)).part.length=64:=by rw[aA6];exact HPS.out
     have hnw:(S.write ((lN N).take j2)).n<=100000000000:=by
      rw[aAt,List.length_take,HQ.out.1];omega
     have hput:=hid (aAu gx _ c wr hblk hpw hnw);rw[<-hTK.out]at hput;obtain⟨S3,Aj⟩:∃S3,S.write ((lN N).take (j2+1))=S3:=⟨_,rfl⟩;rw[Aj]at hput;have G0:=hid Aj;have cg:wr.cell? (tZ g 72)=some (iV (N:Int)):=by
      rw[World.cell?_of_block (hG.block g hg3 (fun e=>by injection e with e;exact hggx e))];rw[<-HNN.out];have hh:=(HG.out.below zB.out hg);exact hh.cellAt (nO s HP.out)
     have hp1:(0:Int)<2^sh.toNat:=Int.pow_pos (by omega);clear hsh Aj hc hblk hpw hnw;go_wp2_with fail;refine hput.out.mono ?_;rintro e w5⟨rfl,uP,hG5⟩;go_wp2_with fail;go_roundw;case rel=>exact⟨j2+1,sh-8,by omega,rfl,hid (by have:=HSH.out;omega),by rw[G0.out];exact uP,aA3 hG hG5⟩
     case measure=>simp[intOf];omega
    ·obtain rfl:j2=8:=by omega
     have t3:decide (0<=sh)=false:=by simp;omega
     rw[List.take_of_length_le (by rw[aK2];exact Nat.le_refl _)]at hblk;have aRX:Hid (s.sum=rV (S.write (lN N)).v):=hid (by rw[aOw,zA.out,<-yX.out,HNN.out]);have hb0:=(H0.out).grown hG (by intro e;injection e with e;omega);have hb1:=(H1.out).grown hG (by intro e;injection e with e;omega);have ui:=zB.out.grown hG (by omega) (fun k hk=>by injection hk with hk;omega);obtain⟨c0,c1,c2,c3,c4,c5,c6,c7⟩:_/\_/\_/\_/\_/\_/\_/\_:=⟨hblk.cellAt (i:=0) rfl,hblk.cellAt (i:=1) rfl,hblk.cellAt (i:=2) rfl,hblk.cellAt (i:=3) rfl,hblk.cellAt (i:=4) rfl,hblk.cellAt (i:=5) rfl,hblk.cellAt (i:=6) rfl,hblk.cellAt (i:=7) rfl⟩;generalize (S.write (lN N)).v=V at*
     have Ig:=hid hb0;have vw:=hid hb1;have yh:=hid ui;clear hblk hG hsh hb0 hb1 ui;go_wp2_with fail;clear c0 c1 c2 c3 c4 c5 c6 c7;obtain⟨wo,rfl⟩:∃wo:World,wo=wr:=⟨_,rfl⟩;go_loopw [60] (fun v60 wr=>∃i:Nat,i<=8/\v60=iV (i:Int)/\ak wr (r0+1) 273 ((qc (rV V) (4*i)).map bV)/\ak wr r0 273 ((List.replicate 32 (0:UInt8)).map bV)/\Below r0 w wr) (fun v60 _=>8-(intOf v60).toNat)
     case atStart=>exact⟨0,by omega,rfl,by rw[Nat.mul_zero,aJR];exact vw.out,Ig.out,yh.out⟩
     case round=>
      clear Ig vw yh;obtain⟨i,hi,rfl,hb1,hb0,ui⟩:=hrel;by_cases Nw:i<8
      ·have hdi:decide ((i:Int)<8)=true:=by simp;omega
       have Aq:=aI9 V.list rfl i Nw;have HGET:=hid (fun k hk=>aLw V i k Nw hk);generalize V.list.getD i 0=x at*
       have h1:V.list.map wV=[wV V.a,wV V.b,wV V.c,wV V.d,wV V.e,wV V.f,wV V.g,wV V.h]:=rfl;rw[h1]at Aq;clear h1;have K1:=hid hb1;have K0:=hid hb0;have KB:=hid ui;clear hb1 hb0 ui;go_wp2_with fail;clear Aq;obtain⟨wq,rfl⟩:∃wq:World,wq=wr:=⟨_,rfl⟩;go_loopw [64] (fun v64 wr=>∃k:Nat,k<=4/\v64=iV (k:Int)/\ak wr (r0+1) 273 ((qc (rV V) (4*i+k)).map bV)/\ak wr r0 273 ((List.replicate 32 (0:UInt8)).map bV)/\Below r0 w wr) (fun v64 _=>4-(intOf v64).toNat)
       case atStart=>exact⟨0,by omega,rfl,K1.out,K0.out,KB.out⟩
       case round=>
        clear K0 K1 KB;obtain⟨k,hk,rfl,hb1,hb0,ui⟩:=hrel;by_cases hk4:k<4
        ·obtain⟨c,hc⟩:∃c,UInt8.ofNat (x.toNat/2^(24-8*k))=c:=⟨_,rfl⟩;have CH:=HGET.out k hk4;rw[hc]at CH;have hcv:(x.toNat:Int)/2^(24-8*(k:Int)).toNat%256=(c.toNat:Int):=by
          rw[<-hc,show(24-8*(k:Int)).toNat=24-8*k by omega,UInt8.toNat_ofNat'];push_cast
          rfl
         have hcv2:(x.toNat:Int)/2^(24-8*k)%256=(c.toNat:Int):=by
          rw[<-hcv,show(24-8*(k:Int)).toNat=24-8*k by omega]
         have i1:(0:Int)<=24-8*(k:Int):=by omega
         have i2:24-8*(k:Int)<=32:=by omega
         obtain⟨j,hj⟩:∃j,4*i+k=j:=⟨_,rfl⟩;have AY:4*(i:Int)+(k:Int)=(j:Int):=by omega
         have hj0:(0:Int)<=(j:Int):=by omega
         have hj32:(j:Int)<32:=by omega
         have hjn:j<32:=by omega
         rw[hj]at CH hb1;have aT1:=aKT (rV V) j c (aDy V) hjn CH;have hcell:wr.cell? (tZ (r0+1) j)=some (bV ((qc (rV V) j).getD j 0)):=hb1.cellAt (by
          have:j<(qc (rV V) j).length:=by rw[aMI _ _ (aDy V) (by omega)];exact hjn
          rw[List.getElem?_map,List.getD_eq_getElem?_getD,List.getElem?_eq_getElem this];rfl)
         have Gv:=hb1.frozen j;have hs1:=hb1.uh j (bV c);rw[<-List.map_set,aT1]at hs1;have hs0:=hb0.far (p:=⟨r0+1,j,none⟩) (by simp) (bV c);have aT2:=ui.setCell (p:=⟨r0+1,j,none⟩) (Nat.le_succ r0) (bV c);have HS1':=hid hs1;have HS0':=hid hs0;have HSB':=hid aT2;have HJ:=hid hj;clear hc CH aT1 hs1 hs0 aT2 hb1 hb0 ui hj;go_wp2_with fail;go_roundw;case rel=>exact⟨k+1,by omega,by go_num,by rw[show 4*i+(k+1)=j+1 by have:=HJ.out;omega];exact HS1'.out,HS0'.out,HSB'.out⟩
         case measure=>simp[intOf];omega
        ·obtain rfl:k=4:=by omega
         rw[show 4*i+4=4*(i+1) by omega]at hb1;go_wp2_with fail;go_roundw;case rel=>exact⟨i+1,by omega,by go_num,hb1,hb0,ui⟩
         case measure=>simp[intOf];omega
      ·obtain rfl:i=8:=by omega
       rw[show 4*8=32 from rfl,aKI _ (aDy V),<-aRX.out]at hb1;have hsl:s.sum.length=32:=by rw[aRX.out];rfl
       have Fb:=hid hsl;obtain⟨SU,Ih⟩:∃SU,s.sum=SU:=⟨_,rfl⟩;rw[Ih]at hb1 Fb;have HU:=hid Ih;have K1:=hid hb1;have K0:=hid hb0;have KB:=hid ui;clear hb1 hb0 ui hsl Ih aRX;go_wp2_with (first
        |(refine wpList_load_row rfl 273 _ rfl (r0+1) rfl 273 (SU.map bV).toArray (0,0) _ K1.out underlying273 rfl (aB6 _ (by simp[Fb.out])) ?_)
        |(refine wpList_store_row rfl 273 _ _ rfl r0 (SU.map bV).toArray rfl rfl 273 _ K0.out (aB6 _ (by simp[Fb.out])) (by simp[Fb.out]) (aCO _) ?_))
       have hrow:=setRow_heap wr r0 _ (SU.map bV).toArray 273 (0,0) K0.out;refine bodyPost_ret (v:=.agg (SU.map bV).toArray) (results_cell_row (P:=prog) (fn:=Tryz.f179) (p:=2) (ty:=273) (by rfl) _ _ r0 273 (SU.map bV).toArray (0,0) _ (by rfl) hrow underlying273 (by rfl) (aB6 _ (by simp[Fb.out]))) rfl ?_;rw[HU.out,Ag.out];exact⟨rfl,aAv KB.out _ _ (Nat.le_refl _)⟩
  ·have t1:(((q:Int)%64) !=56)=true:=by
    simp only[bne_iff_ne];omega
   have t2:(((q:Int)%64)==56)=false:=by
    simp only[beq_eq_false_iff_ne];omega
   have hjz:j<kY s1.n:=by
    rcases Nat.lt_or_ge j (kY s1.n)with h|h
    ·exact h
    ·exfalso;apply Ny;rw[KF,show j=kY s1.n by omega];exact hze
   have HPAD:Hid ((S.put 0).pad (64-(j+1))=s1.pad 64):=hid (by
    rw[<-aRb,show 64-j=(64-(j+1))+1 by omega,aFI S _ (by rw[hq];exact Ny)])
   have hput:=hid (aAu gx S 0 wr hblk Jf (by omega));have HQ:=hid hq;have HNM:=hid IV;have Nz:=hid KF;have HPS:=hid Jf;clear aRb hq IV KF Jf hblk hze JL Ny;go_wp2_with fail;refine hput.out.mono ?_;rintro e w5⟨rfl,uP,hG5⟩;have hn5:(S.put 0).n=q+1:=by rw[aD6,HQ.out]
   have hp5:(S.put 0).part.length=64:=by rw[aBe];exact HPS.out
   have hm5:=aL8 uP hp5;go_wp2_with fail;go_roundw;case rel=>exact⟨j+1,S.put 0,by omega,uP,hp5,by have:=Nz.out;omega,HPAD.out,aA3 hG hG5⟩
   case measure=>have:=HNM.out;have:=Nz.out;omega
theorem aHS(w:World)(t:TypeId)(cs:Array Value)(l:List Value)(h:cs=l.toArray):ak (w.alloc (.cells cs t)) w.heap.size t l:=by
 rw[h];exact ak.new w t l
theorem aHV(w:World):
  Calls prog 176 #[] w fun e w'=>e=.returned (.pointer (some (tZ w.heap.size 0)))/\ak w' w.heap.size 370 (gV qp)/\Below w.heap.size w w':=by
 go_enter func176,ntmps176;go_wp2_with fail;go_ret;exact⟨rfl,aHS w _ _ _ (by kernel_rfl),(Below.refl _ _).alloc (Nat.le_refl _) _⟩
theorem aCR:qp.part.length=64:=rfl
theorem aDE(s:mO)(b:List UInt8)(h:s.part.length=64):(s.write b).part.length=64:=by rw[aA6];exact h
theorem aD7(b:List UInt8):(qp.write b).n=b.length:=by rw[aAt];simp[qp]
theorem ak.reads{w:World}{g:Nat}{t:TypeId}{l:List Value}(h:ak w g t l)(k:Nat)(hk:k<=l.length):ai w w.heap.size 1 (some (tZ g 0)) k (l.take k):=by
 refine⟨by simp;omega,fun _=>⟨_,rfl,h.lt,fun j u hu=>?_⟩⟩;rw[lT,h.cell];rw[List.getElem?_take]at hu;split at hu
 ·simpa using hu
 ·cases hu
/-! ### ShaNil: from the walk to the given statement -/
namespace lawShaNil
end lawShaNil
end Go.Proofs.YtfjkpigldogkeaaGreatDoor
