/- Contracts of functions that TopQuiet reaches, under the conditions that each states. -/
import Derived.Test.YtfjkpigldogkeaaGreatDoorQas
import Derived.Test.YtfjkpigldogkeaaGreatDoorQat
import Derived.Test.YtfjkpigldogkeaaGreatDoorQau
import Derived.Test.YtfjkpigldogkeaaGreatDoorQav
import Derived.Test.YtfjkpigldogkeaaGreatDoorQak
import Derived.Test.YtfjkpigldogkeaaGreatDoorQaq
import Derived.Test.YtfjkpigldogkeaaGreatDoorQzb
import Derived.BigRegion
import Derived.Laws.BytesString
import Derived.Laws.BytesArg
set_option linter.all false
set_option maxRecDepth 100000
set_option maxHeartbeats 2000000
namespace Go.Proofs.YtfjkpigldogkeaaGreatDoor
open Go.RowKit Go.ChangeShapes Go.WideShapes Go.ChangeAt Go.Proofs.Tryz
theorem aEc(m w:Nat)(hm:m<256^w):∀k,k<=w->lL ((qU m w).take k)=m/256^(w-k)
 |0,_=>by rw[List.take_zero,Nat.sub_zero,Nat.div_eq_of_lt hm];rfl
 |k+1,hk=>by
  rw[aAH m w k (by omega),aBc,aEc m w hm k (by omega)];unfold Hw;rw[UInt8.toNat_ofNat',show w-k=(w-1-k)+1 by omega,Nat.pow_succ,<-Nat.div_div_eq_div_mul,show w-(k+1)=w-1-k by omega];have:=Nat.div_add_mod (m/256^(w-1-k)) 256;omega
theorem aCP(n:Int)(w:Nat)(hw:w<=6):lL (aV n w)=ry n w:=by
 unfold aV;have h:=aEc (ry n w) w (aIj n w hw) w (Nat.le_refl _);rw[List.take_of_length_le (by simp[qU])]at h;rw[h];simp
structure lq where
 part:Int
 seq:Int
 act:Int
 uD:Int
 left:Int
 bad:Int
deriving DecidableEq
structure oG where
 uq:Int
 size:Int
 uF:Int
deriving DecidableEq
def nU(r:lq):List (Int×Nat):=[(r.part,1),(r.seq,4),(r.act,1),(r.uD,1),(r.left,1),(r.bad,1)]
def nY(s:oG):List (Int×Nat):=[(s.uq,2),(s.size,2),(s.uF,2)]
def iC(mark:Nat)(fs:List (Int×Nat)):List UInt8:=aV (mark:Int) 2++fs.flatMap fun f=>aV f.1 f.2
def rU(b:List UInt8):List UInt8:=aV ((gY b).toNat:Int) 4
def JZ(mark:Nat)(fs:List (Int×Nat)):List UInt8:=iC mark fs++rU (iC mark fs)++List.replicate (64-(iC mark fs++rU (iC mark fs)).length) 0
def iM(r:lq):List UInt8:=JZ 19523 (nU r)
def je(s:oG):List UInt8:=JZ 19539 (nY s)
def qK(n a b:Int):Bool:=decide (a<=n)&&decide (n<=b)
def aO4(bad act uD:Int):Bool:=if act=0/\uD=0 then decide (bad=0\/bad=2)else if act=1/\uD=1 then decide (bad=0\/bad=1)else decide (bad=0)
def jT(r:lq):Bool:=qK r.part 0 3&&qK r.seq 1 4294967295&&qK r.act 0 1&&qK r.uD 0 1&&qK r.left 0 7&&(decide (r.left=0)||decide (r.act≠r.uD))&&qK r.bad 0 3&&aO4 r.bad r.act r.uD
def ng(size:Int):Nat:=if size<1 then 0 else((size-1)/16).toNat+1
def ji(s:oG):Bool:=qK s.uq 1 65535&&qK s.size 1 160&&qK s.uF 0 ((2^ng s.size:Nat)-1)
def fv(b:List UInt8)(k w:Nat):Nat:=((b.drop k).take w).foldl (fun n c=>n*256+c.toNat) 0
def J0(b:List UInt8):lq:=⟨fv b 2 1,fv b 3 4,fv b 7 1,fv b 8 1,fv b 9 1,fv b 10 1⟩
def qj(b:List UInt8):oG:=⟨fv b 2 2,fv b 4 2,fv b 6 2⟩
def aEE(b:List UInt8):Bool:=decide (fv b 0 2=19523)&&decide (b.drop 15=List.replicate 49 0)&&decide (fv b 11 4=(gY (b.take 11)).toNat)
def aEJ(b:List UInt8):Bool:=decide (fv b 0 2=19539)&&decide (b.drop 12=List.replicate 52 0)&&decide (fv b 8 4=(gY (b.take 8)).toNat)
def aFb(b:List UInt8):Option lq:=if aEE b=true/\jT (J0 b)=true then some (J0 b)else none
def aED(b:List UInt8):Option oG:=if aEJ b=true/\ji (qj b)=true then some (qj b)else none
theorem lX{n a b:Int}:qK n a b=true↔a<=n/\n<=b:=by simp[qK]
theorem di(a rest:List UInt8)(k w n:Nat)(h:a.length=n):fv (a++rest) (n+k) w=fv rest k w:=by
 unfold fv;rw[List.drop_append,List.drop_eq_nil_of_le (by omega),List.nil_append,h,Nat.add_sub_cancel_left]
theorem kH(x:Int)(w:Nat)(rest:List UInt8)(hw:w<=6)(h0:0<=x)(h1:x<((256^w:Nat):Int)):(fv (aV x w++rest) 0 w:Int)=x:=by
 unfold fv;rw[List.drop_zero,List.take_left' (aX _ _)];have:=aCP x w hw;unfold lL at this;rw[this];unfold ry;omega
theorem aBg(x w:Nat)(rest:List UInt8)(hw:w<=6)(h1:x<256^w):fv (aV (x:Int) w++rest) 0 w=x:=by
 have:=kH (x:Int) w rest hw (by omega) (by omega);omega
theorem p1:256^1=256:=by decide
theorem p2:256^2=65536:=by decide
theorem p4:256^4=4294967296:=by decide
theorem aHl(r:lq)(rest:List UInt8):iC 19523 (nU r)++rest=aV ((19523:Nat):Int) 2++(aV r.part 1++(aV r.seq 4++(aV r.act 1++(aV r.uD 1++(aV r.left 1++(aV r.bad 1++rest)))))):=by
 unfold iC nU;simp only[List.flatMap_cons,List.flatMap_nil,List.append_assoc,List.append_nil]
theorem aHT(s:oG)(rest:List UInt8):iC 19539 (nY s)++rest=aV ((19539:Nat):Int) 2++(aV s.uq 2++(aV s.size 2++(aV s.uF 2++rest))):=by
 unfold iC nY;simp only[List.flatMap_cons,List.flatMap_nil,List.append_assoc,List.append_nil]
theorem MC(r:lq):(iC 19523 (nU r)).length=11:=by
 unfold iC nU;simp only[List.flatMap_cons,List.flatMap_nil,List.length_append,aX,List.length_nil]
theorem MF(s:oG):(iC 19539 (nY s)).length=8:=by
 unfold iC nY;simp only[List.flatMap_cons,List.flatMap_nil,List.length_append,aX,List.length_nil]
theorem lF(b:List UInt8):(rU b).length=4:=aX _ _
theorem MG(r:lq):iM r=iC 19523 (nU r)++(rU (iC 19523 (nU r))++List.replicate 49 0):=by
 unfold iM JZ;rw[List.append_assoc,List.length_append,MC,lF]
theorem MH(s:oG):je s=iC 19539 (nY s)++(rU (iC 19539 (nY s))++List.replicate 52 0):=by
 unfold je JZ;rw[List.append_assoc,List.length_append,MF,lF]
theorem aD0(r:lq):(iM r).length=64:=by
 rw[MG,List.length_append,List.length_append,MC,lF,List.length_replicate]
theorem aBp(s:oG):(je s).length=64:=by
 rw[MH,List.length_append,List.length_append,MF,lF,List.length_replicate]
theorem aG8{r:lq}(h:jT r=true):(0<=r.part/\r.part<=3)/\(1<=r.seq/\r.seq<=4294967295)/\(0<=r.act/\r.act<=1)/\(0<=r.uD/\r.uD<=1)/\(0<=r.left/\r.left<=7)/\(r.left=0\/r.act≠r.uD)/\(0<=r.bad/\r.bad<=3)/\aO4 r.bad r.act r.uD=true:=by
 unfold jT at h;simp only[Bool.and_eq_true,lX,Bool.or_eq_true,decide_eq_true_eq]at h;obtain⟨⟨⟨⟨⟨⟨⟨a,b⟩,c⟩,d⟩,e⟩,f⟩,g⟩,x⟩:=h;exact⟨a,b,c,d,e,f,g,x⟩
theorem aHQ{n:Int}(h:n<=160):ng n<=10:=by
 unfold ng;split<;>omega
theorem aCe{s:oG}(h:ji s=true):(1<=s.uq/\s.uq<=65535)/\(1<=s.size/\s.size<=160)/\0<=s.uF/\s.uF<=((2^ng s.size:Nat):Int)-1:=by
 unfold ji at h;simp only[Bool.and_eq_true,lX]at h;obtain⟨⟨a,b⟩,c⟩:=h;exact⟨a,b,c⟩
theorem aFm{s:oG}(h:ji s=true):s.uF<=1023:=by
 obtain⟨_,hb,_,hc⟩:=aCe h;have h1:2^ng s.size<=2^10:=Nat.pow_le_pow_right (by omega) (aHQ hb.2);have h2:(2:Nat)^10=1024:=by decide
 omega
theorem aCg{r:lq}(h:jT r=true):aFb (iM r)=some r:=by
 obtain⟨b0,b1,b2,b3,b4,-,b6,-⟩:=aG8 h;have e:iM r=aV ((19523:Nat):Int) 2++(aV r.part 1++(aV r.seq 4++(aV r.act 1++(aV r.uD 1++(aV r.left 1++(aV r.bad 1++(rU (iC 19523 (nU r))++List.replicate 49 0))))))):=by
  rw[MG,aHl]
 have hc:=(gY (iC 19523 (nU r))).isLt;have l2:=fun x:Int=>aX x 2
 have l1:=fun x:Int=>aX x 1
 have l4:=fun x:Int=>aX x 4
 have f0:fv (iM r) 0 2=19523:=by rw[e];exact aBg 19523 2 _ (by omega) (by rw[p2];omega)
 have f1:(fv (iM r) 2 1:Int)=r.part:=by
  rw[e,show(2:Nat)=2+0 from rfl,di _ _ _ _ _ (l2 _)];exact kH _ 1 _ (by omega) (by omega) (by rw[p1];omega)
 have f2:(fv (iM r) 3 4:Int)=r.seq:=by
  rw[e,show(3:Nat)=2+(1+0)from rfl,di _ _ _ _ _ (l2 _),di _ _ _ _ _ (l1 _)];exact kH _ 4 _ (by omega) (by omega) (by rw[p4];omega)
 have f3:(fv (iM r) 7 1:Int)=r.act:=by
  rw[e,show(7:Nat)=2+(1+(4+0))from rfl,di _ _ _ _ _ (l2 _),di _ _ _ _ _ (l1 _),di _ _ _ _ _ (l4 _)];exact kH _ 1 _ (by omega) (by omega) (by rw[p1];omega)
 have f4:(fv (iM r) 8 1:Int)=r.uD:=by
  rw[e,show(8:Nat)=2+(1+(4+(1+0)))from rfl,di _ _ _ _ _ (l2 _),di _ _ _ _ _ (l1 _),di _ _ _ _ _ (l4 _),di _ _ _ _ _ (l1 _)];exact kH _ 1 _ (by omega) (by omega) (by rw[p1];omega)
 have f5:(fv (iM r) 9 1:Int)=r.left:=by
  rw[e,show(9:Nat)=2+(1+(4+(1+(1+0))))from rfl,di _ _ _ _ _ (l2 _),di _ _ _ _ _ (l1 _),di _ _ _ _ _ (l4 _),di _ _ _ _ _ (l1 _),di _ _ _ _ _ (l1 _)];exact kH _ 1 _ (by omega) (by omega) (by rw[p1];omega)
 have f6:(fv (iM r) 10 1:Int)=r.bad:=by
  rw[e,show(10:Nat)=2+(1+(4+(1+(1+(1+0)))))from rfl,di _ _ _ _ _ (l2 _),di _ _ _ _ _ (l1 _),di _ _ _ _ _ (l4 _),di _ _ _ _ _ (l1 _),di _ _ _ _ _ (l1 _),di _ _ _ _ _ (l1 _)];exact kH _ 1 _ (by omega) (by omega) (by rw[p1];omega)
 have f7:fv (iM r) 11 4=(gY (iC 19523 (nU r))).toNat:=by
  rw[MG,show(11:Nat)=11+0 from rfl,di _ _ _ _ _ (MC r)];exact aBg _ 4 _ (by omega) (by rw[p4];omega)
 have f8:(iM r).take 11=iC 19523 (nU r):=by rw[MG];exact List.take_left' (MC r)
 have f9:(iM r).drop 15=List.replicate 49 0:=by
  rw[MG,<-List.append_assoc];exact List.drop_left' (by rw[List.length_append,MC,lF])
 have hr:J0 (iM r)=r:=by unfold J0;rw[f1,f2,f3,f4,f5,f6]
 unfold aFb aEE;rw[hr,f0,f7,f8,f9,if_pos ⟨by simp,h⟩]
theorem aCm{s:oG}(h:ji s=true):aED (je s)=some s:=by
 obtain⟨b0,b1,b2,_⟩:=aCe h;have b3:=aFm h;have e:je s=aV ((19539:Nat):Int) 2++(aV s.uq 2++(aV s.size 2++(aV s.uF 2++(rU (iC 19539 (nY s))++List.replicate 52 0)))):=by
  rw[MH,aHT]
 have hc:=(gY (iC 19539 (nY s))).isLt;have l2:=fun x:Int=>aX x 2
 have f0:fv (je s) 0 2=19539:=by rw[e];exact aBg 19539 2 _ (by omega) (by rw[p2];omega)
 have f1:(fv (je s) 2 2:Int)=s.uq:=by
  rw[e,show fv _ 2 2=fv _ (2+0) 2 from rfl,di _ _ _ _ _ (l2 _)];exact kH _ 2 _ (by omega) (by omega) (by rw[p2];omega)
 have f2:(fv (je s) 4 2:Int)=s.size:=by
  rw[e,show fv _ 4 2=fv _ (2+(2+0)) 2 from rfl,di _ _ _ _ _ (l2 _),di _ _ _ _ _ (l2 _)];exact kH _ 2 _ (by omega) (by omega) (by rw[p2];omega)
 have f3:(fv (je s) 6 2:Int)=s.uF:=by
  rw[e,show fv _ 6 2=fv _ (2+(2+(2+0))) 2 from rfl,di _ _ _ _ _ (l2 _),di _ _ _ _ _ (l2 _),di _ _ _ _ _ (l2 _)];exact kH _ 2 _ (by omega) (by omega) (by rw[p2];omega)
 have f7:fv (je s) 8 4=(gY (iC 19539 (nY s))).toNat:=by
  rw[MH,show(8:Nat)=8+0 from rfl,di _ _ _ _ _ (MF s)];exact aBg _ 4 _ (by omega) (by rw[p4];omega)
 have f8:(je s).take 8=iC 19539 (nY s):=by rw[MH];exact List.take_left' (MF s)
 have f9:(je s).drop 12=List.replicate 52 0:=by
  rw[MH,<-List.append_assoc];exact List.drop_left' (by rw[List.length_append,MF,lF])
 have hr:qj (je s)=s:=by unfold qj;rw[f1,f2,f3]
 unfold aED aEJ;rw[hr,f0,f7,f8,f9,if_pos ⟨by simp,h⟩]
section
variable{w w' w0:World}
theorem aCh(n a b:Int)(w:World):Calls prog 318 #[iV n,iV a,iV b] w fun e w'=>e=.returned (.bool (qK n a b))/\w'=w:=by
 go_enter func318,ntmps318;by_cases h:a<=n
 ·have g:decide (a<=n)=true:=by simpa using h
  have e:qK n a b=decide (n<=b):=by simp[qK,h]
  go_wp2_with fail;refine bodyPost_ret (v:=.bool (decide (n<=b))) (by simp[results,results318,go_sem]) rfl ?_;exact⟨by rw[e],rfl⟩
 ·have g:decide (a<=n)=false:=by simpa using h
  have e:qK n a b=false:=by simp[qK,h]
  go_wp2_with fail;refine bodyPost_ret (v:=.bool false) (by simp[results,results318,go_sem]) rfl ?_;exact⟨rfl,rfl⟩
def aQ(p:Nat):lq:=⟨p,1,0,0,0,0⟩
def lC(r:lq):Value:=.agg #[iV r.part,iV r.seq,iV r.act,iV r.uD,iV r.left,iV r.bad]
theorem aCq(p:Nat)(hp:p<4)(w:World):Calls prog 257 #[lC (aQ p)] w fun e w'=>e=.returned (.bool true)/\Below w.heap.size w w':=by
 have hP:qK (p:Int) 0 3=true:=lX.2 (by omega);have hb:=hid (fun(n a b:Int) (h:qK n a b=true) w=>(aCh n a b w).mono (fun e w' (he:e=.returned (.bool (qK n a b))/\w'=w)=>show e=.returned (.bool true)/\w'=w from⟨by rw[he.1,h],he.2⟩));unfold lC aQ;dsimp only;go_enter func257,ntmps257;go_wp2_with fail;go_quiet ((go_at_call 318;exact Calls.quiet_of_same (hb.out _ _ _ (by first|exact hP|rfl) _)))
 have hq:bits BinOp.and IntKind.i64 0 (bits BinOp.or IntKind.i64 1 1)=0:=by decide
 go_wp2_with fail;refine bodyPost_ret (v:=.bool true) (by simp[results,results257,go_sem,hq]) rfl ?_;exact⟨rfl,bW (ah w _) _⟩
end
section
variable{w w' w0:World}
def rS(g k n:Nat):List Value:=[.pointer (some (tZ g k)),iV n]
def aIe(g:Nat):List Value:=rS g 0 1++rS g 1 4++rS g 2 1++rS g 3 1++rS g 4 1++rS g 5 1
theorem aBd(g:Nat)(w:World)(h:g<w.heap.size):Calls prog 256 #[.pointer (some (tZ g 0))] w fun e w'=>∃b,e=.returned (.slice (some (tZ b 0)) 6 6)/\Below w.heap.size w w'/\w.heap.size<=b/\ak w' b 445 (aIe g):=by
 go_enter func256,ntmps256;go_wp2_with fail;go_region
 go_wp2_with fail;go_ret;exact⟨_,rfl,((Below.refl _ _).alloc (Nat.le_refl _) _).drew,Nat.le_refl _,ak.drew (ak.new w 445 (aIe g))⟩
end
def J3(w:World)(b g:Nat)(fs:List (Int×Nat)):Prop:=b<w.heap.size/\g<w.heap.size/\∀k f,fs[k]? =some f->w.cell? (tZ b (k*2))=some (.pointer (some (tZ g k)))/\w.cell? (tZ b (k*2+1))=some (iV (f.2:Int))/\w.cell? (tZ g k)=some (iV f.1)
theorem J3.belowS{w w':World}{b g:Nat}{fs:List (Int×Nat)}(h:J3 w b g fs)(hb:Below w.heap.size w w'):J3 w' b g fs:=
 ⟨Nat.lt_of_lt_of_le h.1 hb.size,Nat.lt_of_lt_of_le h.2.1 hb.size,fun k f hf=>by
  obtain⟨h1,h2,h3⟩:=h.2.2 k f hf;exact⟨(hb.cell h.1).trans h1,(hb.cell h.1).trans h2,(hb.cell h.2.1).trans h3⟩⟩
def tC(fs:List (Int×Nat)):List UInt8:=fs.flatMap fun f=>aV f.1 f.2
theorem aMn(fs:List (Int×Nat))(k:Nat)(f:Int×Nat)(h:fs[k]? =some f):tC (fs.take (k+1))=tC (fs.take k)++aV f.1 f.2:=by
 rw[List.take_add_one,h];show tC (fs.take k++[f])=_
 simp[tC]
section
variable{w w' w0:World}
theorem aD2(mark b g:Nat)(fs:List (Int×Nat))(c:Nat)(w:World)(h:J3 w b g fs)(hfs:∀f∈fs,mf (f.2:Int)=f.2/\f.2<=4)(hn:fs.length<=6)(PB:List UInt8)(yt:PB=JZ mark fs):
  Calls prog 306 #[iV (mark:Int),.slice (some (tZ b 0)) fs.length c] w fun e w'=>∃A' c',e=.returned (.slice A' 64 c')/\w'.ownsRow w.heap.size 5 1 (.slice A' 64 c') 64 (PB.map bV)/\Below w.heap.size w w':=by
 have i1:=hid (aMT (mark:Int) 2 w);have HF:=hid h;have HS:=hid hfs;have HP:=hid yt;clear h hfs yt;go_enter func306,ntmps306;go_wp2_with fail;refine i1.out.mono ?_;rintro e w1⟨A1,d1,rfl,hown1,hb1⟩;rw[show mf 2=2 by decide]at hown1 ⊢;have MJ:=hid (HF.out.belowS hb1);have hl1:=hb1.size;clear i1 HF;go_wp2_with fail;go_loopw [5,7,12] (fun v5 _ v12 wr=>∃(k n:Nat) (B:Option Addr) (d:Nat),k<=fs.length/\v12=iV (k:Int)/\v5=.slice B n d/\n<=4*k+2/\wr.ownsRow w.heap.size 5 1 (.slice B n d) n ((aV (mark:Int) 2++tC (fs.take k)).map bV)/\Below w1.heap.size w1 wr) (fun _ _ v12 _=>fs.length-(intOf v12).toNat)
 case atStart=>exact⟨0,2,A1,d1,by omega,rfl,rfl,by omega,by simpa[tC]using hown1,Below.refl _ _⟩
 obtain⟨k,n,B,d,hk,rfl,rfl,BB,hown,ui⟩:=hrel;by_cases hkn:k<fs.length
 ·have aRL:decide ((k:Int)<(fs.length:Int))=true:=decide_eq_true (by omega);have IW:=hid (MJ.out.belowS ui);obtain⟨f,hf⟩:∃f,fs[k]? =some f:=⟨_,List.getElem?_eq_getElem hkn⟩;obtain⟨q0,q1,q2⟩:=IW.out.2.2 k f hf;obtain⟨Ec,hw4⟩:=HS.out f (List.mem_of_getElem? hf);have xX:=hid (aMn fs k f hf);have hg:=IW.out.2.1;have hbb:=IW.out.1;clear hf;obtain⟨X,W⟩:=f;dsimp only at q0 q1 q2 Ec hw4 xX;have k2:(k:Int)*2=((k*2:Nat):Int):=by omega
  have HOW:=hid hown;have yh:=hid ui;clear hown ui;go_wp2_with fail;generalize hwx:wr.alloc _=wx;have yz:Below wr.heap.size wr wx:=by rw[<-hwx];exact(Below.refl _ _).alloc (Nat.le_refl _) _
  have hblk:ak wx wr.heap.size 444 [.pointer (some (tZ g k)),iV W]:=by rw[<-hwx];exact ak.new wr _ [_,_]
  clear hwx;have HXX:Hid (∀w',Below wx.heap.size wx w'->w'.cell? (tZ wr.heap.size 0)=some (.pointer (some (tZ g k)))/\w'.cell? (tZ wr.heap.size 1)=some (iV W)/\w'.cell? (tZ g k)=some (iV X)):=hid (fun w' hb=>⟨(hb.cell hblk.lt).trans (hblk.cellAt rfl),(hb.cell hblk.lt).trans (hblk.cellAt rfl),(hb.cell (Nat.lt_of_lt_of_le hg yz.size)).trans ((yz.cell hg).trans q2)⟩);have yD:=HXX.out wx (Below.refl _ _);have HO:=hid (kG HOW.out yz.drew);have IU:=hid (ag yh.out yz);have hn9:n<=100:=by omega
  clear yz hblk q0 q1 q2 IW hg hbb;go_region_held3 (fun w'=>w'.cell? (tZ wr.heap.size 0)=some (.pointer (some (tZ g k)))/\w'.cell? (tZ wr.heap.size 1)=some (iV W)/\w'.cell? (tZ g k)=some (iV X)) (go_keep)
   (first|(go_at_call 174;refine(Me _ _ _ (aV (mark:Int) 2++tC (fs.take k)) _ _ _ (ai.uA HO.out) (by omega)).mono ?_;rintro e wc ⟨B2,d2,rfl,hown2,Be⟩;rw[Ec]at hown2 ⊢;have hbc:Below wx.heap.size wx wc:=⟨Be.os,Be.tape,Be.output,Be.size,Be.block⟩;clear Be;have zc:=HXX.out _ hbc))
  all_goals(
   have hF:=hid (bh hown2 (show w.heap.size<=wx.heap.size from Nat.le_trans hl1 IU.out.size));have hbF:=hid (ag IU.out hbc);clear hown2 zc yD;go_wp2_with fail;go_roundw;case rel=>exact⟨k+1,n+W,B2,d2,by omega,by go_num,rfl,by omega,by rw[xX.out,<-List.append_assoc];exact hF.out,hbF.out⟩
   case measure=>simp[intOf];omega)
 ·obtain rfl:k=fs.length:=by omega
  have aRL:decide ((fs.length:Int)<(fs.length:Int))=false:=decide_eq_false (by omega);rw[List.take_length]at hown;have hnl:n=2+(tC fs).length:=by
   have h:=hown.1;simp only[List.length_map,List.length_append,aX]at h;omega
  have HNL:=hid hnl;have hltr:=hid (Nat.le_trans hl1 ui.size);have HO:=hid hown;have yP:=hid (ag hb1 ui);have hn9:n<=26:=by omega
  clear hnl hown ui hb1 hown1 MJ;go_wp2_with fail;refine(aD1 _).mono ?_;rintro e w6⟨gt,rfl,hgt,EK,uS⟩;have xn:=kG HO.out uS;have CN:=hid (ai.uA xn);have CO:Hid (PB=(aV (mark:Int) 2++tC fs++rU (aV (mark:Int) 2++tC fs))++List.replicate (64-(n+4)) 0):=hid (by
   rw[HP.out];unfold JZ;rw[show iC mark fs=aV (mark:Int) 2++tC fs from rfl,List.length_append,lF,List.length_append,aX,HNL.out])
  have hBl:Hid ((aV (mark:Int) 2++tC fs).length=n):=hid (by have:=HNL.out;simp[aX];omega);generalize aV (mark:Int) 2++tC fs=BS at HO CN CO hBl;unfold rU at CO;have j1:=hid (aFa gt B n d BS _ w6 EK CN.out (by omega));have j2:=hid (fun(X:Nat)=>Me B n d BS (X:Int) 4 w6 CN.out (by omega));unfold uV at j1;have Ed:(gY BS).toNat<4294967296:=(gY BS).isLt;generalize (gY BS).toNat=X at j1 CO Ed;have hXw:IntKind.i64.wrap (X:Int)=(X:Int):=IntWalk.i64_in _ (by omega);have EL:=hid (ag yP.out uS);clear xn EK uS hgt;go_wp2_with fail;refine j1.out.mono ?_;rintro e w7⟨rfl,rfl⟩;go_wp2_with fail;refine(j2.out X).mono ?_;rintro e w8⟨B4,d4,rfl,BK,Ee⟩;have hw4:mf 4=4:=by decide
  rw[hw4]at BK ⊢;have zN:=bh BK EL.out.size;have aSG:w.heap.size<=w8.heap.size:=Nat.le_trans EL.out.size Ee.size;have hk9:(64:Int)-((n:Int)+4)=((64-(n+4):Nat):Int):=by omega
  have hk8:0<64-(n+4):=by omega
  have hk7:n+4+(64-(n+4))=64:=by omega
  have hb08:=hid (ag EL.out Ee);clear BK Ee j1 j2;generalize 64-(n+4)=K at hk9 hk8 hk7 CO;have HK9:=hid hk9;clear hk9;go_wp2_with (at_builtin;refine aQ6 _ rfl (.tmp 31) (.tmp 34) rfl w.heap.size _ (n+4) d4 _ rfl zN K hk8 (congrArg (Value.int .i64) HK9.out) (by omega) aSG ?_;intro B5 d5 w9 aQI wG yB)
  rw[hk7,<-CO.out]at aQI;go_ret;exact⟨B5,d5,rfl,aQI,hb08.out.trans yB⟩
end
theorem aMF(g:Nat)(s:RS)(w:World)(h:jk w g s)(he:s.e=0):
  Calls prog 317 #[.pointer (some (tZ g 0))] w fun e w'=>e=.returned (iV (s.b.length:Int))/\w=w':=by
 obtain⟨A,n,c,h0,h1,_,_,_,_,_,_,hl⟩:=h.cells;rw[he]at h1;rw[hl];clear hl he;go_enter func317,ntmps317;go_wp2_with fail;refine(jc g w h1).mono ?_;rintro e w'⟨rfl,rfl⟩;go_wp2_with fail;go_ret;exact⟨rfl,rfl⟩
theorem aCT(w:World){B n:Nat}{A:Option Addr}{bs:List UInt8}(c:Nat)(h:ai w B 1 A n (bs.map bV)):
  (convert 37 9 (.slice A n c)).run prog w=.ok (.string ⟨bs.toArray⟩) w:=by
 by_cases hn:0<n
 ·obtain⟨ad,rfl,hb,hc⟩:=h.form hn;have hl:bs.length=n:=by simpa using h.len
  rw[run_convert_bytes_string w 37 9 5 _ n c underlying37 underlying5 underlying9];have Hj:(loadCells ad n).run prog w=.ok ((bs.map fun b=>(b.toNat:Int)).map (Value.int .u8)).toArray w:=by
   have:=run_loadCells_list (P:=prog) w ad (bs.map bV) (fun j v hj=>hc j v hj);rw[List.length_map,hl]at this;rw[this,List.map_map];rfl
  rw[run_bytesToString w ad n c _ Hj,foldl_push_bytes];have hid2:((fun n:Int=>UInt8.ofNat n.toNat)∘fun b:UInt8=>(b.toNat:Int))=id:=by
   funext b
   simp[Function.comp]
  congr 2
  simp[ByteArray.empty,ByteArray.emptyWithCapacity];rw[hid2];simp;rfl
 ·have hn0:n=0:=by omega
  subst hn0;have hl:bs.length=0:=by simpa using h.len
  have:bs=[]:=List.eq_nil_of_length_eq_zero hl;subst this;rw[run_convert_bytes_string w 37 9 5 _ 0 c underlying37 underlying5 underlying9];cases A<;>simp[Conv.bytesToString,loadCells]
  all_goals rfl
theorem aC0(A1 A2:Option Addr)(n1 n2 c1 c2:Nat)(xs bs:List UInt8)(w:World){B1 B2:Nat}(h1:ai w B1 1 A1 n1 (xs.map bV))(h2:ai w B2 1 A2 n2 (bs.map bV)):
  Calls prog 263 #[.slice A1 n1 c1,.slice A2 n2 c2] w fun e w'=>e=.returned (.bool (decide (xs=bs)))/\Below w.heap.size w w':=by
 have x1:=aCT w c1 h1;have x2:=aCT w c2 h2;go_enter func263,ntmps263;go_wp2_with fail;go_ret;refine⟨cZ ?_,Below.refl _ _⟩;by_cases h:xs=bs<;>simp[h]
structure ja where
 laid:List (List UInt8)
 waits:List (Nat×List UInt8)
 yu:Int
 down:Bool
def ja.off(s:ja):Bool:=s.down||s.yu==0
def ja.um(s:ja):ja:=if s.off=true then {s with down:=true} else {s with yu:=max (s.yu-1) (-1)}
def ja.put(s:ja)(at_:Nat)(b:List UInt8):ja:={s with waits:=s.waits++[(at_,b)]}
def lY(is:Nat->Bool):Nat->List (Nat×List UInt8)->List (List UInt8)->List (List UInt8)
 |_,[],l=>l
 |i,w::r,l=>lY is (i+1) r (if is i=true then l.set w.1 w.2 else l)
def ja.lay(s:ja)(is:Nat->Bool):ja:={s with laid:=lY is 0 s.waits s.laid,waits:=[]}
def ja.zQ(s:ja)(is:Nat->Bool):ja:={s.lay is with yu:= -1,down:=false}
def ja.yY(s:ja)(n:Int):ja:=if s.down=true then s else {s with yu:=max n (-1)}
structure eX (s:ja):Prop where
 laid:∀x∈s.laid,x.length=64
 waits:∀x∈s.waits,x.1<s.laid.length/\x.2.length=64
 l1:1<=s.laid.length
 l2:s.laid.length<=128
 w1:s.waits.length<=1000000
 f1: -1<=s.yu
 f2:s.yu<=9223372036854775807
def nZ(n:Nat):ja:=⟨List.replicate n (List.replicate 64 0),[],-1,false⟩
theorem aIa{n:Nat}(h1:1<=n)(h2:n<=128):eX (nZ n):=
 ⟨fun x hx=>by rw[(List.mem_replicate.1 hx).2];simp,fun x hx=>by simp[nZ]at hx,by simpa[nZ]using h1,by simpa[nZ]using h2,by simp[nZ],by simp[nZ],by simp[nZ]⟩
theorem aB2(is:Nat->Bool):∀(i:Nat)(ws:List (Nat×List UInt8))(l:List (List UInt8)),(lY is i ws l).length=l.length
 |_,[],_=>rfl
 |i,w::r,l=>by
  rw[lY,aB2 is (i+1) r];split<;>simp
theorem aDi(is:Nat->Bool):∀(i:Nat)(ws:List (Nat×List UInt8))(l:List (List UInt8)),(∀x∈l,x.length=64)->(∀x∈ws,x.2.length=64)->∀x∈lY is i ws l,x.length=64
 |_,[],_,h,_=>h
 |i,w::r,l,h,hw=>by
  rw[lY];refine aDi is (i+1) r _ (fun x hx=>?_) fun x hx=>hw x (List.mem_cons_of_mem _ hx)
  split at hx
  ·rcases List.mem_or_eq_of_mem_set hx with h1|h1
   ·exact h x h1
   ·rw[h1];exact hw w (List.mem_cons_self ..)
  ·exact h x hx
theorem eX.lay{s:ja}(h:eX s)(is:Nat->Bool):eX (s.lay is):=
 ⟨aDi is 0 s.waits s.laid h.laid fun x hx=>(h.waits x hx).2,fun x hx=>by simp[ja.lay]at hx,by rw[show(s.lay is).laid.length=s.laid.length from aB2 ..];exact h.l1,by rw[show(s.lay is).laid.length=s.laid.length from aB2 ..];exact h.l2,by simp[ja.lay],h.f1,h.f2⟩
theorem eX.zQ{s:ja}(h:eX s)(is:Nat->Bool):eX (s.zQ is):=by
 have:=h.lay is;exact⟨this.laid,this.waits,this.l1,this.l2,this.w1,by simp[ja.zQ],by simp[ja.zQ]⟩
theorem eX.yY{s:ja}(h:eX s){n:Int}(hn:n<=9223372036854775807):eX (s.yY n):=by
 unfold ja.yY;split
 ·exact h
 ·exact⟨h.laid,h.waits,h.l1,h.l2,h.w1,by simp only;omega,by simp only;omega⟩
theorem eX.um{s:ja}(h:eX s):eX s.um:=by
 have:=h.f1;have:=h.f2;unfold ja.um;split
 ·exact⟨h.laid,h.waits,h.l1,h.l2,h.w1,h.f1,h.f2⟩
 ·exact⟨h.laid,h.waits,h.l1,h.l2,h.w1,by simp only;omega,by simp only;omega⟩
theorem eX.put{s:ja}(h:eX s){at_:Nat}{b:List UInt8}(ha:at_<s.laid.length)(hb:b.length=64)(hw:s.waits.length<1000000):eX (s.put at_ b):=
 ⟨h.laid,fun x hx=>(List.mem_append.1 hx).elim (h.waits x) fun h9=>by rw[List.mem_singleton.1 h9];exact⟨ha,hb⟩,h.l1,h.l2,by simp[ja.put];omega,h.f1,h.f2⟩
section
theorem MW(n m:Int)(h0:0<=n)(h1:n<m)(w:World):Calls prog 316 #[iV n,iV m] w fun e w'=>e=.returned (.bool true)/\w'=w:=by
 have g0:decide (0<=n)=true:=by simpa using h0
 have g1:decide (n<m)=true:=by simpa using h1
 go_enter func316,ntmps316;go_wp2_with fail;go_ret;exact⟨rfl,rfl⟩
theorem aHj(p:Int)(w:World):Calls prog 315 #[iV p] w fun e w'=>e=.returned (.func (Fn.func 380) #[] #[.pointer (some (tZ w.heap.size 0))])/\w'=w.alloc (.cells #[iV p] 3):=by
 go_enter func315,ntmps315;go_wp2_with fail;go_ret;exact⟨rfl,rfl⟩
theorem aFl(p far g:Nat)(hp:p<4)(hf:far<10)(w:World)(hc:w.cell? (tZ g 0)=some (iV (p:Int))):Calls prog 380 #[iV (far:Int),.bool true,.pointer (some (tZ g 0))] w fun e w'=>e=.returned (.tuple #[iV ((10*p+far:Nat):Int),.bool true])/\w'=w:=by
 have g0:decide ((p:Int)<0)=false:=by simp
 have g1:decide ((4:Int)<=(p:Int))=false:=by simp;omega
 go_enter func380,ntmps380;go_wp2_with fail;go_ret2;exact⟨by go_num,rfl⟩
theorem aJ6(p c:Nat)(hp:p<4)(hc:c<2)(w:World):Calls prog 253 #[iV (p:Int),iV (c:Int)] w fun e w'=>e=.returned (.tuple #[iV ((10*p+c:Nat):Int),.bool true])/\Below w.heap.size w w':=by
 have i1:=hid (aHj (p:Int) w);have i2:=hid (fun w=>MW (c:Int) 2 (by omega) (by omega) w);obtain⟨w1,hw1,hb1,hc1⟩:∃w1:World,w.alloc (.cells #[iV (p:Int)] 3)=w1/\Below w.heap.size w w1/\w1.cell? (tZ w.heap.size 0)=some (iV (p:Int)):=
  ⟨_,rfl,(Below.refl _ _).alloc (Nat.le_refl _) _,(ak.new w 3 [iV (p:Int)]).cellAt rfl⟩
 rw[hw1]at i1;have i3:=hid (aFl p c w.heap.size hp (by omega) w1 hc1);clear hw1 hc1;go_enter func253,ntmps253;go_wp2_with fail;refine i1.out.mono ?_;rintro e w2⟨rfl,rfl⟩;go_wp2_with fail;refine(i2.out _).mono ?_;rintro e w2⟨rfl,rfl⟩;go_wp2_with fail;refine i3.out.mono ?_;rintro e w2⟨rfl,rfl⟩;go_wp2_with fail;go_ret2;exact⟨rfl,hb1⟩
theorem aDj(p c:Nat)(hp:p<4)(hc:c<2)(w:World):Calls prog 258 #[iV (p:Int),iV (c:Int)] w fun e w'=>e=.returned (.tuple #[iV ((10*p+(2+c*4):Nat):Int),.bool true])/\Below w.heap.size w w':=by
 have i1:=hid (aHj (p:Int) w);have i2:=hid (fun w=>MW (c:Int) 2 (by omega) (by omega) w);obtain⟨w1,hw1,hb1,hc1⟩:∃w1:World,w.alloc (.cells #[iV (p:Int)] 3)=w1/\Below w.heap.size w w1/\w1.cell? (tZ w.heap.size 0)=some (iV (p:Int)):=
  ⟨_,rfl,(Below.refl _ _).alloc (Nat.le_refl _) _,(ak.new w 3 [iV (p:Int)]).cellAt rfl⟩
 rw[hw1]at i1;obtain⟨F,hF⟩:∃F,F=2+c*4:=⟨_,rfl⟩;rw[<-hF];have i3:=hid (aFl p F w.heap.size hp (by omega) w1 hc1);have BG:2+(c:Int)*4=(F:Int):=by omega
 clear hw1 hc1 hF;go_enter func258,ntmps258;go_wp2_with fail;refine(i2.out _).mono ?_;rintro e w2⟨rfl,rfl⟩;go_wp2_with fail;refine i1.out.mono ?_;rintro e w2⟨rfl,rfl⟩;go_wp2_with fail;refine i3.out.mono ?_;rintro e w2⟨rfl,rfl⟩;go_wp2_with fail;go_ret2;exact⟨rfl,hb1⟩
theorem aCu(p c i:Nat)(hp:p<4)(hc:c<2)(hi:i<3)(w:World):Calls prog 259 #[iV (p:Int),iV (c:Int),iV (i:Int)] w fun e w'=>e=.returned (.tuple #[iV ((10*p+(2+c*4+1+i):Nat):Int),.bool true])/\Below w.heap.size w w':=by
 have i1:=hid (aHj (p:Int) w);have i2:=hid (fun w=>MW (c:Int) 2 (by omega) (by omega) w);have i4:=hid (fun w=>MW (i:Int) 3 (by omega) (by omega) w);obtain⟨w1,hw1,hb1,hc1⟩:∃w1:World,w.alloc (.cells #[iV (p:Int)] 3)=w1/\Below w.heap.size w w1/\w1.cell? (tZ w.heap.size 0)=some (iV (p:Int)):=
  ⟨_,rfl,(Below.refl _ _).alloc (Nat.le_refl _) _,(ak.new w 3 [iV (p:Int)]).cellAt rfl⟩
 rw[hw1]at i1;obtain⟨F,hF⟩:∃F,F=2+c*4+1+i:=⟨_,rfl⟩;rw[<-hF];have i3:=hid (aFl p F w.heap.size hp (by omega) w1 hc1);have BG:2+(c:Int)*4+1+(i:Int)=(F:Int):=by omega
 clear hw1 hc1 hF;go_enter func259,ntmps259;go_wp2_with fail;refine(i2.out _).mono ?_;rintro e w2⟨rfl,rfl⟩;go_wp2_with fail;refine(i4.out _).mono ?_;rintro e w2⟨rfl,rfl⟩;go_wp2_with fail;refine i1.out.mono ?_;rintro e w2⟨rfl,rfl⟩;go_wp2_with fail;refine i3.out.mono ?_;rintro e w2⟨rfl,rfl⟩;go_wp2_with fail;go_ret2;exact⟨rfl,hb1⟩
theorem aL6(n:Nat)(hn:n<10)(w:World):Calls prog 304 #[iV (n:Int)] w fun e w'=>e=.returned (.tuple #[iV ((n/4:Nat):Int),iV ((n%4*16:Nat):Int),.bool true])/\w'=w:=by
 have i2:=hid (fun w=>MW (n:Int) 10 (by omega) (by omega) w);go_enter func304,ntmps304;go_wp2_with fail;refine(i2.out _).mono ?_;rintro e w2⟨rfl,rfl⟩;go_wp2_with fail;refine bodyPost_ret (v:=.tuple #[iV ((n:Int)/4),iV ((n:Int)%4*16),.bool true]) (by simp[results,results304,go_sem]) rfl ?_;exact⟨by go_num,rfl⟩
theorem aJQ(n:Nat)(h0:1<=n)(h1:n<=4)(w:World):Calls prog 183 #[iV (n:Int)] w fun e w'=>e=.returned (iV ((10*n:Nat):Int))/\w'=w:=by
 have g1:max (n:Int) 1=(n:Int):=by omega
 have g2:min (n:Int) 4=(n:Int):=by omega
 go_enter func183,ntmps183;go_wp2_with fail;go_ret;exact⟨by go_num,rfl⟩
end
def aNm(b:List UInt8):List UInt8:=aV ((gY b).toNat:Int) 4
theorem aI6{w:World}{b:Nat}{T:TypeId}{cs:List Value}(h:ak w b T cs)(hl:cs.length=8)(v0 v1 v2 v3 v4 v5 v6 v7:Value):
  ∃w':World,((((((((w.setCell (tZ b 0) v0).setCell (tZ b 1) v1).setCell (tZ b 2) v2).setCell (tZ b 3) v3).setCell (tZ b 4) v4).setCell (tZ b 5) v5).setCell (tZ b 6) v6).setCell (tZ b 7) v7)=w'/\Below b w w'/\ak w' b T [v0,v1,v2,v3,v4,v5,v6,v7]:=aLW h hl v0 v1 v2 v3 v4 v5 v6 v7
theorem aEW{w w':World}{g k:Nat}{t:TypeId}{cs:List Value}(h:ak w k t cs)(hg:w.grownBy w' (some g))(hne:k≠g):ak w' k t cs:=h.grown hg (fun e=>hne (by injection e))
theorem oq(g:Nat)(s:RS)(W:Int)(v:Nat)(s':RS)(he:bT s W=(v,s'))(w:World)(h:jk w g s)(hs:s.b.length<=100000000):
  Calls prog 208 #[.pointer (some (tZ g 0)),iV W] w fun e w'=>e=.returned (iV (v:Int))/\jk w' g s'/\w.grownBy w' (some g):=by
 refine(JY g s W w h hs).mono (fun e w' hp=>?_);unfold JX at hp;rw[he]at hp;exact hp
theorem aMV(g:Nat)(s:RS)(W:Int)(t:List UInt8)(s':RS)(he:jR s W=(t,s'))(w:World)(h:jk w g s)(hs:s.b.length<=100000000):
  Calls prog 322 #[.pointer (some (tZ g 0)),iV W] w fun e w'=>∃A' m c',e=.returned (.slice A' m c')/\w'.ownsRow w.heap.size 5 1 (.slice A' m c') m (t.map bV)/\jk w' g s'/\w.grownBy w' (some g):=by
 refine(aJC g s W w h hs).mono (fun e w' hp=>?_);unfold aGp at hp;rw[he]at hp;exact hp
theorem nS{s s':RS}{W:Int}{v M:Nat}(he:bT s W=(v,s'))(h:s.b.length<=M):s'.b.length<=M:=by
 have:=kC s W;rw[he]at this;exact Nat.le_trans this h
theorem aML{s s':RS}{W:Int}{t:List UInt8}{M:Nat}(he:jR s W=(t,s'))(h:s.b.length<=M):s'.b.length<=M:=by
 have:=aHM s W;rw[he]at this;exact Nat.le_trans this h
theorem aJ{w:World}{base:Nat}{e:TypeId}{size:Nat}{v:Value}{n:Nat}{xs:List Value}(h:w.ownsRow base e size v n xs){a:Addr}(ha:a.block<base)(u:Value):(w.setCell a u).ownsRow base e size v n xs:=by
 refine⟨h.1,?_⟩;rcases h.2 with h2|⟨g',cap,cur,hv,hg',hh,r⟩
 ·exact .inl h2
 ·exact .inr ⟨g',cap,cur,hv,hg',(heap_setCell_other w a g' u (by omega)).trans hh,r⟩
theorem aKR(b:List UInt8)(W:Nat)(h1:1<=W)(h6:W<=6):bT ⟨b,0⟩ (W:Int)=if b.length<W then(0,⟨b,1⟩)else(lL (b.take W),⟨b.drop W,0⟩):=by
 have hw:mf (W:Int)=W:=by unfold mf;rw[if_neg (by omega),if_neg (by omega)];omega
 unfold bT dL;rw[hw];rw[if_neg (by simp;omega)];by_cases h:b.length<W
 ·rw[if_pos h,if_pos (by show((b.length:Int)<(W:Int));omega)];rfl
 ·rw[if_neg h,if_neg (by show ¬((b.length:Int)<(W:Int));omega)];simp
def At(b:List UInt8)(p:Nat)(s:RS):Prop:=(s=⟨b.drop p,0⟩/\p<=b.length)\/s.e=1
theorem aJi(i:aO)(k:Nat)(hk:k<=4):(mV i k).length=7+k:=by
 unfold mV Nq;simp only[List.length_append,aX];have:(((qW i).take k).flatMap fun x=>aV x 1).length=k:=by
  have h:k=0\/k=1\/k=2\/k=3\/k=4:=by omega
  rcases h with rfl|rfl|rfl|rfl|rfl<;>simp[qW,aX]
 omega
theorem aCt(t:List UInt8)(h:t.length<=65535):oU t=aV (t.length:Int) 2++t:=by
 unfold oU;rw[List.take_of_length_le h,show min t.length 65535=t.length by omega]
structure aPC (p:Prop):Prop where
 out:p
theorem later{p:Prop}(h:aPC p):p:=h.out
namespace topQuiet
theorem j0:(fun(P:Program) (f:FuncId) (fn:Func) (s:ChangeSpec) (c:OpenClaim)=>(c.wf (OpenSpec.ofChange s):Bool)) prog 4 Tryz.f4 Rows.topQuietSpec Rows.topQuietRow=true:=by kernel_rfl
theorem j1:(fun(P:Program) (f:FuncId) (fn:Func) (s:ChangeSpec) (c:OpenClaim)=>(laidOutB P:Bool)) prog 4 Tryz.f4 Rows.topQuietSpec Rows.topQuietRow=true:=by kernel_rfl
theorem j2:(fun(P:Program) (f:FuncId) (fn:Func) (s:ChangeSpec) (c:OpenClaim)=>(mapsRowed P:Bool)) prog 4 Tryz.f4 Rows.topQuietSpec Rows.topQuietRow=true:=by kernel_rfl
theorem j3:(fun(P:Program) (f:FuncId) (fn:Func) (s:ChangeSpec) (c:OpenClaim)=>(fn.params.all (P.readableRec ·):Bool)) prog 4 Tryz.f4 Rows.topQuietSpec Rows.topQuietRow=true:=by kernel_rfl
theorem j4:(fun(P:Program) (f:FuncId) (fn:Func) (s:ChangeSpec) (c:OpenClaim)=>(namedTie P c.named s.vars:Bool)) prog 4 Tryz.f4 Rows.topQuietSpec Rows.topQuietRow=true:=by kernel_rfl
theorem j5:(fun(P:Program) (f:FuncId) (fn:Func) (s:ChangeSpec) (c:OpenClaim)=>((c.stops==[]):Bool)) prog 4 Tryz.f4 Rows.topQuietSpec Rows.topQuietRow=true:=by kernel_rfl
theorem j6:(fun(P:Program) (f:FuncId) (fn:Func) (s:ChangeSpec) (c:OpenClaim)=>((P.stops==[]):Bool)) prog 4 Tryz.f4 Rows.topQuietSpec Rows.topQuietRow=true:=by kernel_rfl
theorem j7:(fun(P:Program) (f:FuncId) (fn:Func) (s:ChangeSpec) (c:OpenClaim)=>((c.knobs==[]):Bool)) prog 4 Tryz.f4 Rows.topQuietSpec Rows.topQuietRow=true:=by kernel_rfl
theorem j8:(fun(P:Program) (f:FuncId) (fn:Func) (s:ChangeSpec) (c:OpenClaim)=>((P.stopKnobs==[]):Bool)) prog 4 Tryz.f4 Rows.topQuietSpec Rows.topQuietRow=true:=by kernel_rfl
theorem j13:(fun(P:Program) (f:FuncId) (fn:Func) (s:ChangeSpec) (c:OpenClaim)=>((c.maps==(fn.params.toList++s.plain.varTypes P).any (P.mapsRec ·)):Bool)) prog 4 Tryz.f4 Rows.topQuietSpec Rows.topQuietRow=true:=by kernel_rfl
theorem j14:(fun(P:Program) (f:FuncId) (fn:Func) (s:ChangeSpec) (c:OpenClaim)=>((c.ifaces==(fn.params.toList++s.plain.varTypes P).any (P.ifacesRec ·)):Bool)) prog 4 Tryz.f4 Rows.topQuietSpec Rows.topQuietRow=true:=by kernel_rfl
theorem j15:(fun(P:Program) (f:FuncId) (fn:Func) (s:ChangeSpec) (c:OpenClaim)=>((c.mapsOut==P.mapsAmong fn.resultTypes.toList):Bool)) prog 4 Tryz.f4 Rows.topQuietSpec Rows.topQuietRow=true:=by kernel_rfl
theorem j16:(fun(P:Program) (f:FuncId) (fn:Func) (s:ChangeSpec) (c:OpenClaim)=>((c.loops==(fn.params.toList++s.plain.varTypes P).any (P.loopsFrom ·)):Bool)) prog 4 Tryz.f4 Rows.topQuietSpec Rows.topQuietRow=true:=by kernel_rfl
theorem j17:(fun(P:Program) (f:FuncId) (fn:Func) (s:ChangeSpec) (c:OpenClaim)=>((c.wideKeys==(fn.params.toList++s.plain.varTypes P++fn.resultTypes.toList).any (P.wideKeysFrom ·)):Bool)) prog 4 Tryz.f4 Rows.topQuietSpec Rows.topQuietRow=true:=by kernel_rfl
theorem j18:(fun(P:Program) (f:FuncId) (fn:Func) (s:ChangeSpec) (c:OpenClaim)=>(s.vars.all (P.varReadable ·):Bool)) prog 4 Tryz.f4 Rows.topQuietSpec Rows.topQuietRow=true:=by kernel_rfl
theorem j19:(fun(P:Program) (f:FuncId) (fn:Func) (s:ChangeSpec) (c:OpenClaim)=>(fn.resultTypes.all (fun t=>P.readableRec t&&decide (t<P.types.size)):Bool)) prog 4 Tryz.f4 Rows.topQuietSpec Rows.topQuietRow=true:=by kernel_rfl
theorem j20:(fun(P:Program) (f:FuncId) (fn:Func) (s:ChangeSpec) (c:OpenClaim)=>((c.ifacesOut==fn.resultTypes.toList.any (P.ifacesRec ·)):Bool)) prog 4 Tryz.f4 Rows.topQuietSpec Rows.topQuietRow=true:=by kernel_rfl
theorem j21:(fun(P:Program) (f:FuncId) (fn:Func) (s:ChangeSpec) (c:OpenClaim)=>((c.loopsOut==fn.resultTypes.toList.any (P.loopsFrom ·)):Bool)) prog 4 Tryz.f4 Rows.topQuietSpec Rows.topQuietRow=true:=by kernel_rfl
theorem j22:(fun(P:Program) (f:FuncId) (fn:Func) (s:ChangeSpec) (c:OpenClaim)=>((c.plainKeys==P.plainKeys):Bool)) prog 4 Tryz.f4 Rows.topQuietSpec Rows.topQuietRow=true:=by kernel_rfl
theorem j23:(fun(P:Program) (f:FuncId) (fn:Func) (s:ChangeSpec) (c:OpenClaim)=>(c.shortTexts.isNone:Bool)) prog 4 Tryz.f4 Rows.topQuietSpec Rows.topQuietRow=true:=by kernel_rfl
theorem j24:(fun(P:Program) (f:FuncId) (fn:Func) (s:ChangeSpec) (c:OpenClaim)=>(P.stopsHeard:Bool)) prog 4 Tryz.f4 Rows.topQuietSpec Rows.topQuietRow=true:=by kernel_rfl
theorem j25:(fun(P:Program) (f:FuncId) (fn:Func) (s:ChangeSpec) (c:OpenClaim)=>(P.mayEnter:Bool)) prog 4 Tryz.f4 Rows.topQuietSpec Rows.topQuietRow=true:=by kernel_rfl
theorem j26:(fun(P:Program) (f:FuncId) (fn:Func) (s:ChangeSpec) (c:OpenClaim)=>((c.lifted==P.liftsFinal):Bool)) prog 4 Tryz.f4 Rows.topQuietSpec Rows.topQuietRow=true:=by kernel_rfl
theorem j27:(fun(P:Program) (f:FuncId) (fn:Func) (s:ChangeSpec) (c:OpenClaim)=>((P.make==some c.make):Bool)) prog 4 Tryz.f4 Rows.topQuietSpec Rows.topQuietRow=true:=by kernel_rfl
theorem j28:(fun(P:Program) (f:FuncId) (fn:Func) (s:ChangeSpec) (c:OpenClaim)=>((c.kinds==(if c.domain.isEmpty then[]else fn.params.toList.map fun t=>match P.underlying t with|some (.int k)=>some k|_=>none)):Bool)) prog 4 Tryz.f4 Rows.topQuietSpec Rows.topQuietRow=true:=by kernel_rfl
theorem j29:(fun(P:Program) (f:FuncId) (fn:Func) (s:ChangeSpec) (c:OpenClaim)=>((c.pinned==c.pinnedBy):Bool)) prog 4 Tryz.f4 Rows.topQuietSpec Rows.topQuietRow=true:=by kernel_rfl
theorem j30:(fun(P:Program) (f:FuncId) (fn:Func) (s:ChangeSpec) (c:OpenClaim)=>((c.veiled==(fn.params.toList++s.plain.varTypes P++fn.resultTypes.toList).any (P.veiledRec ·)):Bool)) prog 4 Tryz.f4 Rows.topQuietSpec Rows.topQuietRow=true:=by kernel_rfl
theorem j31:(fun(P:Program) (f:FuncId) (fn:Func) (s:ChangeSpec) (c:OpenClaim)=>(c.veiledFits P fn.params.toList (fn.params.toList++s.plain.varTypes P++fn.resultTypes.toList):Bool)) prog 4 Tryz.f4 Rows.topQuietSpec Rows.topQuietRow=true:=by kernel_rfl
end topQuiet
namespace topQuiet
theorem fH{a b:Bool}(h:a=true)(k:b=true):(a&&b)=true:=by rw[h,k];rfl
theorem aKy{P:Program}{f:FuncId}{fn:Func}{s:ChangeSpec}{c:OpenClaim}
(h0:(fun(P:Program) (f:FuncId) (fn:Func) (s:ChangeSpec) (c:OpenClaim)=>(c.wf (OpenSpec.ofChange s):Bool)) P f fn s c=true)
(h1:(fun(P:Program) (f:FuncId) (fn:Func) (s:ChangeSpec) (c:OpenClaim)=>(laidOutB P:Bool)) P f fn s c=true)
(h2:(fun(P:Program) (f:FuncId) (fn:Func) (s:ChangeSpec) (c:OpenClaim)=>(mapsRowed P:Bool)) P f fn s c=true)
(h3:(fun(P:Program) (f:FuncId) (fn:Func) (s:ChangeSpec) (c:OpenClaim)=>(fn.params.all (P.readableRec ·):Bool)) P f fn s c=true)
(h4:(fun(P:Program) (f:FuncId) (fn:Func) (s:ChangeSpec) (c:OpenClaim)=>(namedTie P c.named s.vars:Bool)) P f fn s c=true)
(h5:(fun(P:Program) (f:FuncId) (fn:Func) (s:ChangeSpec) (c:OpenClaim)=>((c.stops==[]):Bool)) P f fn s c=true)
(h6:(fun(P:Program) (f:FuncId) (fn:Func) (s:ChangeSpec) (c:OpenClaim)=>((P.stops==[]):Bool)) P f fn s c=true)
(h7:(fun(P:Program) (f:FuncId) (fn:Func) (s:ChangeSpec) (c:OpenClaim)=>((c.knobs==[]):Bool)) P f fn s c=true)
(h8:(fun(P:Program) (f:FuncId) (fn:Func) (s:ChangeSpec) (c:OpenClaim)=>((P.stopKnobs==[]):Bool)) P f fn s c=true)
(h9:(fun(P:Program) (f:FuncId) (fn:Func) (s:ChangeSpec) (c:OpenClaim)=>((c.inPlace==P.inPlace f):Bool)) P f fn s c=true)
(h10:(fun(P:Program) (f:FuncId) (fn:Func) (s:ChangeSpec) (c:OpenClaim)=>((c.unfollowed==P.unfollowed f):Bool)) P f fn s c=true)
(h11:(fun(P:Program) (f:FuncId) (fn:Func) (s:ChangeSpec) (c:OpenClaim)=>((c.recurses==P.recurses f):Bool)) P f fn s c=true)
(h12:(fun(P:Program) (f:FuncId) (fn:Func) (s:ChangeSpec) (c:OpenClaim)=>((c.named==P.varsNamed f):Bool)) P f fn s c=true)
(Lr:(fun(P:Program) (f:FuncId) (fn:Func) (s:ChangeSpec) (c:OpenClaim)=>((c.maps==(fn.params.toList++s.plain.varTypes P).any (P.mapsRec ·)):Bool)) P f fn s c=true)
(zk:(fun(P:Program) (f:FuncId) (fn:Func) (s:ChangeSpec) (c:OpenClaim)=>((c.ifaces==(fn.params.toList++s.plain.varTypes P).any (P.ifacesRec ·)):Bool)) P f fn s c=true)
(Ie:(fun(P:Program) (f:FuncId) (fn:Func) (s:ChangeSpec) (c:OpenClaim)=>((c.mapsOut==P.mapsAmong fn.resultTypes.toList):Bool)) P f fn s c=true)
(GV:(fun(P:Program) (f:FuncId) (fn:Func) (s:ChangeSpec) (c:OpenClaim)=>((c.loops==(fn.params.toList++s.plain.varTypes P).any (P.loopsFrom ·)):Bool)) P f fn s c=true)
(h17:(fun(P:Program) (f:FuncId) (fn:Func) (s:ChangeSpec) (c:OpenClaim)=>((c.wideKeys==(fn.params.toList++s.plain.varTypes P++fn.resultTypes.toList).any (P.wideKeysFrom ·)):Bool)) P f fn s c=true)
(JM:(fun(P:Program) (f:FuncId) (fn:Func) (s:ChangeSpec) (c:OpenClaim)=>(s.vars.all (P.varReadable ·):Bool)) P f fn s c=true)
(h19:(fun(P:Program) (f:FuncId) (fn:Func) (s:ChangeSpec) (c:OpenClaim)=>(fn.resultTypes.all (fun t=>P.readableRec t&&decide (t<P.types.size)):Bool)) P f fn s c=true)
(h20:(fun(P:Program) (f:FuncId) (fn:Func) (s:ChangeSpec) (c:OpenClaim)=>((c.ifacesOut==fn.resultTypes.toList.any (P.ifacesRec ·)):Bool)) P f fn s c=true)
(h21:(fun(P:Program) (f:FuncId) (fn:Func) (s:ChangeSpec) (c:OpenClaim)=>((c.loopsOut==fn.resultTypes.toList.any (P.loopsFrom ·)):Bool)) P f fn s c=true)
(h22:(fun(P:Program) (f:FuncId) (fn:Func) (s:ChangeSpec) (c:OpenClaim)=>((c.plainKeys==P.plainKeys):Bool)) P f fn s c=true)
(h23:(fun(P:Program) (f:FuncId) (fn:Func) (s:ChangeSpec) (c:OpenClaim)=>(c.shortTexts.isNone:Bool)) P f fn s c=true)
(h24:(fun(P:Program) (f:FuncId) (fn:Func) (s:ChangeSpec) (c:OpenClaim)=>(P.stopsHeard:Bool)) P f fn s c=true)
(h25:(fun(P:Program) (f:FuncId) (fn:Func) (s:ChangeSpec) (c:OpenClaim)=>(P.mayEnter:Bool)) P f fn s c=true)
(h26:(fun(P:Program) (f:FuncId) (fn:Func) (s:ChangeSpec) (c:OpenClaim)=>((c.lifted==P.liftsFinal):Bool)) P f fn s c=true)
(h27:(fun(P:Program) (f:FuncId) (fn:Func) (s:ChangeSpec) (c:OpenClaim)=>((P.make==some c.make):Bool)) P f fn s c=true)
(h28:(fun(P:Program) (f:FuncId) (fn:Func) (s:ChangeSpec) (c:OpenClaim)=>((c.kinds==(if c.domain.isEmpty then[]else fn.params.toList.map fun t=>match P.underlying t with|some (.int k)=>some k|_=>none)):Bool)) P f fn s c=true)
(h29:(fun(P:Program) (f:FuncId) (fn:Func) (s:ChangeSpec) (c:OpenClaim)=>((c.pinned==c.pinnedBy):Bool)) P f fn s c=true)
(h30:(fun(P:Program) (f:FuncId) (fn:Func) (s:ChangeSpec) (c:OpenClaim)=>((c.veiled==(fn.params.toList++s.plain.varTypes P++fn.resultTypes.toList).any (P.veiledRec ·)):Bool)) P f fn s c=true)
(h31:(fun(P:Program) (f:FuncId) (fn:Func) (s:ChangeSpec) (c:OpenClaim)=>(c.veiledFits P fn.params.toList (fn.params.toList++s.plain.varTypes P++fn.resultTypes.toList):Bool)) P f fn s c=true):joinedFacts P f fn s c=true:=by
 unfold joinedFacts;exact(fH (fH (fH (fH (fH (fH (fH (fH (fH (fH (fH (fH (fH (fH (fH (fH (fH (fH (fH (fH (fH (fH (fH (fH (fH (fH (fH (fH (fH (fH (fH h0 h1) h2) h3) h4) h5) h6) h7) h8) h9) h10) h11) h12) Lr) zk) Ie) GV) h17) JM) h19) h20) h21) h22) h23) h24) h25) h26) h27) h28) h29) h30) h31)
theorem aP4:joinedFacts prog 4 Tryz.f4 Rows.topQuietSpec Rows.topQuietRow=true:=aKy j0 j1 j2 j3 j4 j5 j6 j7 j8 j9 j10 j11 j12 j13 j14 j15 j16 j17 j18 j19 j20 j21 j22 j23 j24 j25 j26 j27 j28 j29 j30 j31
end topQuiet
end Go.Proofs.YtfjkpigldogkeaaGreatDoor
