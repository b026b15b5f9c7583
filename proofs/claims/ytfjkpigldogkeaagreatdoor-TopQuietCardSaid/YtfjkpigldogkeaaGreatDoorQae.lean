/- Contracts of functions that TopQuiet reaches, under the conditions that each states. -/
import Derived.Test.YtfjkpigldogkeaaGreatDoorQab
set_option linter.all false
set_option maxRecDepth 100000
set_option maxHeartbeats 8000000
namespace Go.Proofs.YtfjkpigldogkeaaGreatDoor
open Go.RowKit Go.ChangeShapes Go.WideShapes Go.ChangeAt Go.Proofs.Tryz
def oV(b:Bool):Value:=.bool b
theorem aKj:(prog.info? 4).map (fun i=>(i.zero,i.size,i.bytes))=some (some (.bool false),1,1):=by kernel_rfl
theorem aLn(w:World){ops:Array Oper}{rest:List Oper}{o:Oper}{a:Act}{Q:Exit->Act->World->Prop}
(hg:o.guard=none)(l:Operand)(hop:o.op=Op.makeSlice 165 l l)(x:Int)(n:Nat)(hl:a.eval l=iV x)(hx:x=(n:Int))(hn:n<=100000)
(hK:∀w',w'.ownsRow w.heap.size 4 1 (.slice (some (tZ w.heap.size 0)) n n) n ((List.replicate n false).map oV)->Below w.heap.size w w'->wpList prog ops Q rest (a.put o.dst (.slice (some (tZ w.heap.size 0)) n n)) w'):
  wpList prog ops Q (o::rest) a w:=by
 subst hx;obtain⟨i0,hi0,hz0,hz1,hz2⟩:=info_parts aKj;refine wpList_make_full w hg l l _ hop w.heap.size 4 i0 _ 1 underlying165 hi0 hz0 hz1 .i64 .i64 _ _ n hl hl rfl rfl (by rw[hz2];omega) (by simp[maxLen];omega) (Nat.le_refl _) ?_;intro w' h1 h2;refine hK w' ?_ ((Below.refl _ _).grown h2 (Nat.le_refl _) (by simp));have e:(madeCells (Value.bool false).cells (n*1)).toList=(List.replicate n false).map oV:=by
  rw[show(Value.bool false).cells= #[.bool false]from rfl,toList_madeCells_one];simp[oV]
 rw[e]at h1;exact h1
theorem or6(a b c d e f:Bool)(h:(a||b||c||d||e||f)=true):a=true\/(a=false/\b=true)\/(a=false/\b=false/\c=true)\/(a=false/\b=false/\c=false/\d=true)\/(a=false/\b=false/\c=false/\d=false/\e=true)\/(a=false/\b=false/\c=false/\d=false/\e=false/\f=true):=by
 revert h
 cases a<;>cases b<;>cases c<;>cases d<;>cases e<;>cases f<;>simp
def aIv(w:World)(B F:Nat)(u:List Bool):Prop:=w.ownsRow B 4 1 (.slice (some (tZ B 0)) F F) F (u.map oV)
theorem Value.aQh{w:World}{B F:Nat}{u:List Bool}(h:aIv w B F u):B<w.heap.size:=(h.lt B rfl).2
def JF(F:Nat)(t:aG)(a:bM):List Value:=[iV (F:Int),.slice a.A1 t.parts.length a.c1,.slice a.A2 t.wins.length a.c2,.slice a.A3 t.chans.length a.c3,iV t.trial]
theorem LJ{F:Nat}{w:World}{g:Nat}{t:aG}{a:bM}(h:ak w g 26 (JF F t a)):
  w.cell? (tZ g 0)=some (iV (F:Int))/\w.cell? (tZ g 1)=some (.slice a.A1 t.parts.length a.c1)/\w.cell? (tZ g 2)=some (.slice a.A2 t.wins.length a.c2)/\w.cell? (tZ g 3)=some (.slice a.A3 t.chans.length a.c3)/\w.cell? (tZ g 4)=some (iV t.trial):=
 (by and_intros<;>exact h.cellAt rfl)
def jZ(t:aG):Bool:=decide (t.frame<1)||decide (64<t.frame)||decide ((t.parts.length:Int)<2)||decide (4<(t.parts.length:Int))||decide (t.trial<1)||decide (7<t.trial)||decide (8<(t.wins.length:Int))||decide (4<(t.chans.length:Int))
theorem aBq(t:aG)(a:bM)(w:World)(hh:jZ t=true):
  Calls prog 32 #[.agg #[iV t.frame,.slice a.A1 t.parts.length a.c1,.slice a.A2 t.wins.length a.c2,.slice a.A3 t.chans.length a.c3,iV t.trial]] w fun e w'=>e=.returned (.bool (aS t))/\Below w.heap.size w w':=by
 obtain⟨A1,k1,A2,k2,A3,k3⟩:=a;simp only;have hb0:Below w.heap.size w (w.alloc (.cells (bI t ⟨A1,k1,A2,k2,A3,k3⟩).toArray 26)):=(Below.refl _ _).alloc (Nat.le_refl _) _;have uJ:ak (w.alloc (.cells (bI t ⟨A1,k1,A2,k2,A3,k3⟩).toArray 26)) w.heap.size 26 (bI t ⟨A1,k1,A2,k2,A3,k3⟩):=ak.new w _ _;obtain⟨c0,c1,c2,c3,c4⟩:=bi uJ;have hr:Hid (aS t=false):=by
  refine hid ?_;cases hr:aS t with
  |false=>rfl
  |true=>
   exfalso
   have R:=(bK t).1 hr;obtain⟨f1,f2,r1,r2,p1,p2,_,_,_,w8,c4',_⟩:=R;have:jZ t=false:=by
    unfold jZ;simp only[Bool.or_eq_false_iff,decide_eq_false_iff_not];omega
   rw[this]at hh;cases hh
 unfold jZ at hh;go_enter func32,ntmps32;go_wp2_with fail;all_goals
  go_ret;exact⟨by rw[hr.out];rfl,hb0⟩
theorem aDA(t:aG)(a:bM)(F:Nat)(hF:t.frame=(F:Int))(w:World)(h:dM w t a)(hh:jZ t=false):
  Calls prog 32 #[.agg #[iV (F:Int),.slice a.A1 t.parts.length a.c1,.slice a.A2 t.wins.length a.c2,.slice a.A3 t.chans.length a.c3,iV t.trial]] w fun e w'=>e=.returned (.bool (aS t))/\Below w.heap.size w w':=by
 obtain⟨A1,k1,A2,k2,A3,k3⟩:=a;simp only;have hb0:Below w.heap.size w (w.alloc (.cells (JF F t ⟨A1,k1,A2,k2,A3,k3⟩).toArray 26)):=(Below.refl _ _).alloc (Nat.le_refl _) _;have uJ:ak (w.alloc (.cells (JF F t ⟨A1,k1,A2,k2,A3,k3⟩).toArray 26)) w.heap.size 26 (JF F t ⟨A1,k1,A2,k2,A3,k3⟩):=ak.new w _ _;have HO:=hid (h.belowS hb0);clear h;obtain⟨c0,c1,c2,c3,c4⟩:=LJ uJ;have HH:=hid hh;have HF:=hid hF;unfold jZ at hh;rw[hF]at hh;clear hF;simp only[Bool.or_eq_false_iff]at hh;obtain⟨⟨⟨⟨⟨⟨⟨n1,n2⟩,n3⟩,n4⟩,n5⟩,n6⟩,n7⟩,n8⟩:=hh;have hfr1:1<=(F:Int):=by simpa using n1
 have hfr2:(F:Int)<=64:=by simpa using n2
 have FQ:(t.parts.length:Int)<=4:=by simpa using n4
 have Gt:(t.wins.length:Int)<=8:=by simpa using n7
 have FO:(t.chans.length:Int)<=4:=by simpa using n8
 have BD:=HO.out.zn.1;simp only at BD;go_enter func32,ntmps32;go_wp2_with fail;clear n1 n2 n3 n4 n5 n6 n7 n8 c0 c1 c2 c3 c4;have xC:Hid (∀p∈t.parts,jP p=true->aS t=false):=by
  refine hid fun p hp hb=>?_
  cases hr:aS t with
  |false=>rfl
  |true=>
   have R:=((bK t).1 hr).ps p hp;simp only[jP,mG,Bool.or_eq_true,Bool.not_eq_true',Bool.and_eq_false_iff,decide_eq_false_iff_not]at hb;omega
 generalize hw1:w.alloc (.cells #[iV (F:Int),.slice A1 t.parts.length k1,.slice A2 t.wins.length k2,.slice A3 t.chans.length k3,iV t.trial] 26)=w1;have hb1:Below w.heap.size w w1:=by rw[<-hw1];exact hb0
 have ub:ak w1 w.heap.size 26 (JF F t ⟨A1,k1,A2,k2,A3,k3⟩):=by rw[<-hw1];exact uJ
 have D8:Hid (dM w1 t ⟨A1,k1,A2,k2,A3,k3⟩):=by rw[<-hw1];exact HO
 clear hw1 hb0 uJ HO BD;have BD:=D8.out.zn.1;simp only at BD;go_loopw [4] (fun v4 wr=>∃k:Nat,k<=t.parts.length/\v4=iV (k:Int)/\Hid (∀p∈t.parts.take k,jP p=false)/\Below w1.heap.size w1 wr) (fun v4 _=>t.parts.length-(intOf v4).toNat)
 case atStart=>exact⟨0,by omega,rfl,by refine hid ?_;simp,Below.refl _ _⟩
 case round=>
  obtain⟨k,hk,rfl,HK,ui⟩:=hrel;have uo:=ub.belowS ui;obtain⟨c0,c1,c2,c3,c4⟩:=LJ uo;by_cases hkn:k<t.parts.length
  ·obtain⟨ad,x,rfl,had,hx,hc0,hc⟩:=(BD.belowS ui).at_ hkn;have q0:=hc0 _ rfl;have q1:=hc 0 _ rfl;have q2:=hc 1 _ rfl;have HX:=hid hx;have yT:=aC ui (.cells #[iV x.mem,iV x.fuel,iV x.uw] 164);have hnx:=hid (xC.out x (List.mem_of_getElem? hx));clear hc hc0 hx;by_cases hb:jP x=true
   ·have hr:=hid (hnx.out hb);have hbb:(decide (x.mem<1)||decide (16<x.mem)||decide (x.fuel<1)||decide (32<x.fuel)||decide (x.uw<0)||decide (65535<x.uw))=true:=by
     simp only[jP,mG,Bool.or_eq_true,Bool.not_eq_true',Bool.and_eq_false_iff,decide_eq_false_iff_not,decide_eq_true_eq]at hb ⊢;omega
    clear hb BD;obtain⟨xm,xf,xh⟩:=x;simp only at q0 q1 q2 hbb yT;go_wp2_with fail;all_goals
     go_ret;exact⟨by rw[hr.out];rfl,ag hb1 yT⟩
   ·have hb':jP x=false:=by simpa using hb
    have HS:=hid (Ls jP t.parts k x HX.out hb' HK.out);simp only[jP,mG,Bool.or_eq_false_iff,Bool.not_eq_false',Bool.and_eq_true,decide_eq_true_eq]at hb';have m1:decide (x.mem<1)=false:=decide_eq_false (by omega);have m2:decide (16<x.mem)=false:=decide_eq_false (by omega);have m3:decide (x.fuel<1)=false:=decide_eq_false (by omega);have m4:decide (32<x.fuel)=false:=decide_eq_false (by omega);have m5:decide (x.uw<0)=false:=decide_eq_false (by omega);have m6:decide (65535<x.uw)=false:=decide_eq_false (by omega);clear hb hb' BD;go_wp2_with fail;go_roundw;case rel=>exact⟨k+1,by omega,by go_num,HS,yT⟩
    case measure=>simp[intOf];omega
  ·obtain rfl:k=t.parts.length:=by omega
   have HP:Hid (∀p∈t.parts,jP p=false):=hid (fun p hp=>HK.out p (by rw[List.take_length];exact hp));have aSn:F<=64:=by omega
   have hb2:=ag hb1 ui;clear hk hkn HK;clear BD;generalize hwr:wr=w2 at ui uo c0 c1 c2 c3 c4 hb2 ⊢;clear hwr;go_wp2_with (at_make;refine aLn w2 rfl (.tmp 94) rfl (F:Int) F rfl rfl (by omega) ?_;intro w3 uU hb3)
   clear c0 c1 c2 c3 c4;have xW:w.heap.size<w2.heap.size:=uo.lt;have uO:=uo.belowS hb3;have Iw:=hid (D8.out.belowS ui);generalize hBB:w2.heap.size=B at uU hb3 xW ⊢;have zB:=hid hBB;clear hBB;have yg:=hb3.size;obtain⟨B2,AO⟩:∃B2,w3.heap.size=B2:=⟨_,rfl⟩;go_loopw [7,8,9,10,11] (fun v7 v8 v9 _ _ wr=>∃(k:Nat) (DC:Int) (u:List Bool),k<=t.wins.length/\v9=iV (k:Int)/\v7=iV DC/\v8=.bool (jg (t.wins.take k))/\Hid (eu t 0 (t.wins.take k)=true)/\Hid (JE t F DC (oH 0 (t.wins.take k)) u)/\aIv wr B F u/\Below B w2 wr) (fun _ _ v9 _ _ _=>t.wins.length-(intOf v9).toNat)
   case atStart=>exact⟨0,-1,List.replicate F false,by omega,rfl,rfl,rfl,hid rfl,hid (aJv t F),uU,hb3⟩
   case round=>
    obtain⟨k,DC,u,hk,rfl,rfl,rfl,HK,HU,hown,hbl⟩:=hrel;have zC:ak wr w.heap.size 26 (JF F t ⟨A1,k1,A2,k2,A3,k3⟩):=uo.below hbl (by omega);have Cf:Below w2.heap.size w2 wr:=hbl.mono (by have:=zB.out;omega);obtain⟨c0,c1,c2,c3,c4⟩:=LJ zC;have hsr:=hbl.size;have hu2:=zB.out;by_cases hkn:k<t.wins.length
    ·have Ci:=(Iw.out.belowS Cf).zn.2.1;simp only at Ci;obtain⟨ad,x,rfl,had,hx,hc0,hc⟩:=Ci.at_ hkn;have q0:=hc0 _ rfl;have q1:=hc 0 _ rfl;have q2:=hc 1 _ rfl;have yT:Below B w2 (wr.alloc (.cells #[iV x.part,iV x.at_,iV x.long] 89)):=hbl.alloc (by omega) _;have xC:=hid (fun hb=>aDT t k x hx hb);have yx:=zC.alloc (.cells #[iV x.part,iV x.at_,iV x.long] 89);obtain⟨d0,_,_,_,_⟩:=LJ yx;have HX:=hid hx;clear hc hc0 hx Ci yg;by_cases h6:(decide (x.part<0)||decide ((t.parts.length:Int)<=x.part)||decide (x.at_<0)||decide ((F:Int)<=x.at_)||decide (x.long<1)||decide (64<x.long))=true
     ·have hr:Hid (aS t=false):=by
       refine hid (xC.out ?_);have:=HF.out;have:=HU.out.e0;simp only[kQ,gG,mG,Bool.or_eq_true,Bool.not_eq_true',Bool.and_eq_false_iff,decide_eq_false_iff_not,decide_eq_true_eq]at h6 ⊢;omega
      have hend:Hid (Below w.heap.size w (wr.alloc (.cells #[iV x.part,iV x.at_,iV x.long] 89))):=hid (hb2.trans (yT.mono (by omega)));clear yT Cf hbl zC hown xC;clear yx;obtain⟨xp,xa,xl⟩:=x;simp only at q0 q1 q2 h6 hend d0;rcases or6 _ _ _ _ _ _ h6 with h|⟨h1,h⟩|⟨h1,h2,h⟩|⟨h1,h2,h3,h⟩|⟨h1,h2,h3,h4,h⟩|⟨h1,h2,h3,h4,h5,h⟩
      all_goals
       clear h6;go_wp2_with fail;go_ret;exact⟨by rw[hr.out];rfl,hend.out⟩
     ·have h6':(decide (x.part<0)||decide ((t.parts.length:Int)<=x.part)||decide (x.at_<0)||decide ((F:Int)<=x.at_)||decide (x.long<1)||decide (64<x.long))=false:=by simpa using h6
      clear h6;simp only[Bool.or_eq_false_iff]at h6';obtain⟨⟨⟨⟨⟨h1,h2⟩,h3⟩,h4⟩,h5⟩,h6⟩:=h6';have hcn:=hid (aIX t k x HX.out);have hen:=hid (aKs t k x HX.out);have hwn:=hid (fun hb=>aFK t k x HX.out HK.out hb);obtain⟨xp,xa,xl⟩:=x;simp only at q0 q1 q2 h1 h2 h3 h4 h5 h6 yT yx d0 hcn hen hwn xC;have g1:=of_decide_eq_false h1;have g2:=of_decide_eq_false h2;have g3:=of_decide_eq_false h3;have g4:=of_decide_eq_false h4;have g5:=of_decide_eq_false h5;have g6:=of_decide_eq_false h6;obtain⟨s,rfl⟩:∃s:Nat,xa=s:=⟨xa.toNat,by omega⟩;obtain⟨lg,rfl⟩:∃lg:Nat,xl=lg:=⟨xl.toNat,by omega⟩;have HD:Hid (kQ t (oH 0 (t.wins.take k)) ⟨xp,(s:Int),(lg:Int)⟩=(decide ((s:Int)<oH 0 (t.wins.take k))||decide ((F:Int)<(s:Int)+(lg:Int)))):=by
       refine hid ?_;rw[Bool.eq_iff_iff];simp only[kQ,gG,mG,Bool.or_eq_true,Bool.not_eq_true',Bool.and_eq_false_iff,decide_eq_false_iff_not,decide_eq_true_eq];have:=HF.out;omega
      have vV:=HX;clear HX;have hsl:(s:Int)+(lg:Int)<=128:=by omega
      by_cases h8:(F:Int)<(s:Int)+(lg:Int)
      ·have hr:Hid (aS t=false):=by
        refine hid (xC.out ?_);rw[HD.out,decide_eq_true h8,Bool.or_true]
       have h8':=decide_eq_true h8;have hend:Hid (Below w.heap.size w (wr.alloc (.cells #[iV xp,iV (s:Int),iV (lg:Int)] 89))):=hid (hb2.trans (yT.mono (by omega)));clear yT Cf hbl zC hown xC yx vV h8;go_wp2_with fail;go_ret;exact⟨by rw[hr.out];rfl,hend.out⟩
      ·have h8':=decide_eq_false h8;have h8n:s+lg<=F:=by omega
       have hU:=HU.out;by_cases h9:(s:Int)<=DC
       ·have hr:Hid (aS t=false):=by
         refine hid (xC.out ?_);have:=hU.l2;rw[HD.out,decide_eq_true (show(s:Int)<oH 0 (t.wins.take k) by omega),Bool.true_or]
        have h9':=decide_eq_true h9;have hend:Hid (Below w.heap.size w (wr.alloc (.cells #[iV xp,iV (s:Int),iV (lg:Int)] 89))):=hid (hb2.trans (yT.mono (by omega)));clear yT Cf hbl zC hown xC yx vV h9 h8 hU;go_wp2_with fail;go_ret;exact⟨by rw[hr.out];rfl,hend.out⟩
       ·have h9':=decide_eq_false h9;have yz:ak (wr.alloc (.cells #[iV xp,iV (s:Int),iV (lg:Int)] 89)) wr.heap.size 89 [iV xp,iV (s:Int),iV (lg:Int)]:=ak.new _ _ _;have BF:aIv (wr.alloc (.cells #[iV xp,iV (s:Int),iV (lg:Int)] 89)) B F u:=World.ownsRow.alloc hown _;have hBr:B<wr.heap.size:=((Value.aQh hown));have HU2:=HU;clear Cf hbl zC hown yx;have JG:s<F:=by omega
        have hlen:=hU.len;by_cases hE:(s:Int)<oH 0 (t.wins.take k)
        ·have hr:Hid (aS t=false):=by
          refine hid (xC.out ?_);rw[HD.out,decide_eq_true hE,Bool.true_or]
         have hus:u[s]? =some true:=by
          have:=hU.l2;exact hU.yes s (by omega) hE (by omega)
         obtain⟨b0,hb0,hcb,hfb⟩:=dW BF (k:=s) (by omega);rw[hus]at hb0;injection hb0 with hb0
         subst hb0;have hend:Hid (Below w.heap.size w (wr.alloc (.cells #[iV xp,iV (s:Int),iV (lg:Int)] 89))):=hid (hb2.trans (yT.mono (by omega)));have hsl2:decide ((s:Int)<(s:Int)+(lg:Int))=true:=decide_eq_true (by omega);clear yT xC vV h9 h8 hE hU BF hus;go_wp2_with fail;obtain⟨x0,x1,x2⟩:_/\_/\_:=⟨yz.cellAt (i:=0) rfl,yz.cellAt (i:=1) rfl,yz.cellAt (i:=2) rfl⟩;generalize wr.alloc (.cells #[iV xp,iV (s:Int),iV (lg:Int)] 89)=w5 at*
         go_loopw [11] (fun v11 wz=>v11=iV (s:Int)/\wz=w5) (fun _ _=>0)
         case atStart=>exact⟨rfl,rfl⟩
         case round=>
          obtain⟨rfl,rfl⟩:=hrel;go_wp2_with fail;go_ret;exact⟨by rw[hr.out];rfl,hend.out⟩
        ·have HW:=hid (hwn.out (by rw[HD.out,decide_eq_false hE,Bool.false_or];exact h8'));have hE2:=hE;clear hE xC hwn h9 h8 HD;have hM0:=hid (hU.mid (s:=s) (by omega));clear hU;generalize hcb:jg (t.wins.take k)=cb at hcn ⊢;clear hcb;go_wp2_with fail;clear c0 c1 c2 c3 c4;generalize wr.alloc (.cells #[iV xp,iV (s:Int),iV (lg:Int)] 89)=w5 at*
         generalize wr.heap.size=xb at*
         go_loopw [11] (fun v11 wr=>∃(q:Nat) (u':List Bool),s<=q/\q<=s+lg/\v11=iV (q:Int)/\Hid (tj F s q u')/\aIv wr B F u'/\Below B w2 wr/\ak wr xb 89 [iV xp,iV (s:Int),iV (lg:Int)]) (fun v11 _=>s+lg-(intOf v11).toNat)
         case atStart=>exact⟨s,u,by omega,by omega,rfl,hM0,BF,yT,yz⟩
         case round=>
          obtain⟨q,u',hq1,hq2,rfl,HM,Hl,hbz,LK⟩:=hrel;have x0:=LK.cellAt (i:=0) rfl;have x1:=LK.cellAt (i:=1) rfl;have x2:=LK.cellAt (i:=2) rfl;by_cases hq:q<s+lg
          ·have hq':decide ((q:Int)<(s:Int)+(lg:Int))=true:=decide_eq_true (by omega);have huq:u'[q]? =some false:=HM.out.no q (by omega) (by omega);obtain⟨b0,hb0,hcb,hfb⟩:=dW Hl (k:=q) (by omega);rw[huq]at hb0;injection hb0 with hb0
           subst hb0;have hst:=hid (aHD (f:=oV) Hl q true);have hxf:=hid (LK.far (p:=⟨B,q,none⟩) (by simp only;omega) (.bool true));have hbf:=hid (hbz.setCell (p:=⟨B,q,none⟩) (Nat.le_refl _) (.bool true));have JH:=hid (HM.out.next (by omega));clear huq Hl hbz LK BF yT yz;go_wp2_with fail;go_roundw;case rel=>exact⟨q+1,u'.set q true,by omega,by omega,by go_num,JH.out,hst.out.1,hbf.out,hxf.out⟩
           case measure=>simp[intOf];omega
          ·have hq':decide ((q:Int)<(s:Int)+(lg:Int))=false:=decide_eq_false (by omega);have LM:Hid (JE t F (s:Int) (oH 0 (t.wins.take (k+1))) u'):=by
            refine hid ?_;rw[hen.out,show(s:Int)+(lg:Int)=(q:Int) by omega];exact HM.out.used (by omega) (by omega)
           clear hq BF yT yz;cases cb
           ·by_cases hp0:xp=0
            ·have hp1:(xp==0)=true:=by simpa using hp0
             have hc2:Hid (jg (t.wins.take (k+1))=true):=hid (by rw[hcn.out,hp1];rfl);clear hp0;go_wp2_with fail;go_roundw;case rel=>exact⟨k+1,s,u',by omega,by go_num,rfl,by rw[hc2.out],HW,LM,Hl,hbz⟩
             case measure=>simp[intOf];omega
            ·have hp1:(xp==0)=false:=by simpa using hp0
             have hc2:Hid (jg (t.wins.take (k+1))=false):=hid (by rw[hcn.out,hp1];rfl);clear hp0;go_wp2_with fail;go_roundw;case rel=>exact⟨k+1,s,u',by omega,by go_num,rfl,by rw[hc2.out],HW,LM,Hl,hbz⟩
             case measure=>simp[intOf];omega
           ·have hc2:Hid (jg (t.wins.take (k+1))=true):=hid (by rw[hcn.out];rfl);go_wp2_with fail;go_roundw;case rel=>exact⟨k+1,s,u',by omega,by go_num,rfl,by rw[hc2.out],HW,LM,Hl,hbz⟩
            case measure=>simp[intOf];omega
    ·obtain rfl:k=t.wins.length:=by omega
     rw[List.take_length]at HK;rw[show t.wins.take t.wins.length=t.wins from List.take_length ..];have hHH:=HH.out;have hFF:=HF.out;unfold jZ at hHH;simp only[Bool.or_eq_false_iff,decide_eq_false_iff_not]at hHH;have Gu:Hid ((∀c∈t.chans,df t c=false)->aS t=jg t.wins):=hid (fun hc=>aIS t (by omega) (by omega) (by omega) (by omega) (by omega) (by omega) (by omega) (by omega) HP.out HK.out hc);have hOO:=Iw.out.belowS Cf;have aQW:=hOO.zn.2.2;simp only at aQW;have Ho:Below w.heap.size w wr:=hb2.trans (Cf.mono (by omega));generalize jg t.wins=cb at Gu ⊢;clear hHH hOO hown yg hFF;go_wp2_with fail;clear c0 c1 c2 c3 c4;obtain⟨w7,rfl⟩:∃w7:World,w7=wr:=⟨_,rfl⟩;go_loopw [12,13] (fun v12 _ wr=>∃(j:Nat),j<=t.chans.length/\v12=iV (j:Int)/\Hid (∀c∈t.chans.take j,df t c=false)/\Below w7.heap.size w7 wr) (fun v12 _ _=>t.chans.length-(intOf v12).toNat)
     case atStart=>exact⟨0,by omega,rfl,by refine hid ?_;simp,Below.refl _ _⟩
     case round=>
      obtain⟨j,hj,rfl,HJ,hbj⟩:=hrel;have aSo:=zC.belowS hbj;obtain⟨c0,c1,c2,c3,c4⟩:=LJ aSo;have aRD:=ag Ho hbj;by_cases hjn:j<t.chans.length
      ·obtain⟨ad,x,rfl,had,hx,hc0,hc⟩:=(aQW.belowS hbj).at_ hjn;have q0:=hc0 _ rfl;have q1:=hc 0 _ rfl;have q2:=hc 1 _ rfl;have HX:=hid hx;have yT:=aC hbj (.cells #[iV x.src,iV x.dst,iV x.depth] 75);have hbew:=hid (aC aRD (.cells #[iV x.src,iV x.dst,iV x.depth] 75));have hcb:df t x=(decide (x.src<0)||decide ((t.parts.length:Int)<=x.src)||decide (x.dst<0)||decide ((t.parts.length:Int)<=x.dst)||(x.src==x.dst)||decide (x.depth<0)||decide (4<x.depth)):=by
        rw[Bool.eq_iff_iff];simp only[df,gG,mG,Bool.or_eq_true,Bool.not_eq_true',Bool.and_eq_false_iff,decide_eq_false_iff_not,decide_eq_true_eq,beq_iff_eq];omega
       clear hc hc0 hx;by_cases hb:df t x=true
       ·have hr:=hid (aDq t x (List.mem_of_getElem? HX.out) hb);rw[hcb]at hb;clear hcb aQW;obtain⟨xs,xd,xe⟩:=x;simp only at q0 q1 q2 hb hbew yT;go_wp2_with fail;all_goals
         go_ret;exact⟨by rw[hr.out];rfl,aC aRD _⟩
       ·have hb':df t x=false:=by simpa using hb
        have HS:=hid (Ls (df t) t.chans j x HX.out hb' HJ.out);rw[hcb]at hb';simp only[Bool.or_eq_false_iff]at hb';obtain⟨⟨⟨⟨⟨⟨m1,m2⟩,m3⟩,m4⟩,m5⟩,m6⟩,m7⟩:=hb';clear hb hcb aQW;obtain⟨xs,xd,xe⟩:=x;simp only at q0 q1 q2 m1 m2 m3 m4 m5 m6 m7 yT;go_wp2_with fail;go_roundw;case rel=>exact⟨j+1,by omega,by go_num,HS.out,yT⟩
        case measure=>simp[intOf];omega
      ·obtain rfl:j=t.chans.length:=by omega
       rw[List.take_length]at HJ;have hr:=hid (Gu.out HJ.out);go_wp2_with fail;go_ret;exact⟨by rw[hr.out];rfl,aRD⟩
theorem aBz(t:aG)(a:bM)(w:World)(h:dM w t a):
  Calls prog 32 #[.agg #[iV t.frame,.slice a.A1 t.parts.length a.c1,.slice a.A2 t.wins.length a.c2,.slice a.A3 t.chans.length a.c3,iV t.trial]] w fun e w'=>e=.returned (.bool (aS t))/\Below w.heap.size w w':=by
 by_cases hh:jZ t=true
 ·exact aBq t a w hh
 ·have hh':jZ t=false:=by simpa using hh
  have h1:=hh';unfold jZ at h1;simp only[Bool.or_eq_false_iff,decide_eq_false_iff_not]at h1;have e:t.frame=((t.frame.toNat:Nat):Int):=by omega
  rw[e];exact aDA t a t.frame.toNat e w h hh'
end Go.Proofs.YtfjkpigldogkeaaGreatDoor
