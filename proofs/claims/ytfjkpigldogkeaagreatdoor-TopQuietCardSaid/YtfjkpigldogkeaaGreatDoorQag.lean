/- Contracts of functions that TopQuiet reaches, under the conditions that each states. -/
import Derived.Test.YtfjkpigldogkeaaGreatDoorQaf
import Derived.Deep.WholeRow
import Derived.Laws.Rows
import Derived.IntWalk
set_option linter.all false
set_option maxRecDepth 100000
set_option maxHeartbeats 2000000
namespace Go.Proofs.YtfjkpigldogkeaaGreatDoor
open Go.RowKit Go.ChangeShapes Go.WideShapes Go.ChangeAt Go.Proofs.Tryz
def dn(x:BitVec 32):BitVec 32:=if x.toNat%2=1 then(x>>>1)^^^0xedb88320#32 else x>>>1
def rM:Nat->BitVec 32->BitVec 32
 |0,x=>x
 |k+1,x=>dn (rM k x)
def JU(x:BitVec 32)(c:UInt8):BitVec 32:=rM 8 (x^^^BitVec.ofNat 32 c.toNat)
def oW(x:BitVec 32)(l:List UInt8):BitVec 32:=l.foldl JU x
def gY(l:List UInt8):BitVec 32:=4294967295#32-oW 4294967295#32 l
theorem aE3(x:BitVec 32):(x>>>1).toNat=x.toNat/2:=by rw[BitVec.toNat_ushiftRight,Nat.shiftRight_eq_div_pow]
theorem aOr(x:BitVec 32)(h:x.toNat%2=1):(dn x).toNat=(x.toNat/2)^^^3988292384:=by
 unfold dn;rw[if_pos h,BitVec.toNat_xor,aE3];rfl
theorem aNC(x:BitVec 32)(h:x.toNat%2=0):(dn x).toNat=x.toNat/2:=by
 unfold dn;rw[if_neg (by omega),aE3]
theorem aKG(a b:Nat):(a^^^b)%2=(a+b)%2:=by
 have h:=Nat.testBit_xor a b 0;simp only[Nat.testBit_zero]at h;have hx:(a^^^b)%2=1↔¬(a%2=1↔b%2=1):=by
  by_cases ha:a%2=1<;>by_cases hb:b%2=1<;>simp only[ha,hb,decide_true,decide_false]at h ⊢
  ·simpa using h
  ·simpa using h
  ·simpa using h
  ·simpa using h
 omega
theorem aPa(x y:BitVec 32):dn (x^^^y)=dn x^^^dn y:=by
 unfold dn;rw[BitVec.toNat_xor,aKG,BitVec.ushiftRight_xor_distrib];by_cases hx:x.toNat%2=1<;>by_cases hy:y.toNat%2=1
 ·rw[if_neg (by omega),if_pos hx,if_pos hy];rw[BitVec.xor_assoc,<-BitVec.xor_assoc (x:=3988292384#32),BitVec.xor_comm 3988292384#32,BitVec.xor_assoc,BitVec.xor_self,BitVec.xor_zero]
 ·rw[if_pos (by omega),if_pos hx,if_neg hy];rw[BitVec.xor_assoc,BitVec.xor_assoc,BitVec.xor_comm (y>>>1)]
 ·rw[if_pos (by omega),if_neg hx,if_pos hy,BitVec.xor_assoc]
 ·rw[if_neg (by omega),if_neg hx,if_neg hy]
theorem aMS(k:Nat)(x y:BitVec 32):rM k (x^^^y)=rM k x^^^rM k y:=by
 induction k with
 |zero=>rfl
 |succ k ih=>simp only[rM];rw[ih,aPa]
theorem aKh(k:Nat)(hk:k<=8)(x:BitVec 32)(h:x.toNat%256=0):rM k x=x>>>k:=by
 induction k with
 |zero=>simp[rM]
 |succ k ih=>
  simp only[rM];rw[ih (by omega)];have e:(x>>>k).toNat=x.toNat/2^k:=by rw[BitVec.toNat_ushiftRight,Nat.shiftRight_eq_div_pow]
  have h2:(x>>>k).toNat%2=0:=by
   rw[e];obtain⟨q,hq⟩:=Nat.dvd_of_mod_eq_zero h;have h8:256=2^k*(2*2^(7-k)):=by
    rw[<-Nat.pow_succ',<-Nat.pow_add];rw[show k+(7-k+1)=8 by omega]
   rw[hq,h8,Nat.mul_assoc,Nat.mul_div_cancel_left _ (Nat.pow_pos (by omega)),Nat.mul_assoc,Nat.mul_mod_right]
  unfold dn;rw[if_neg (by omega)];apply BitVec.eq_of_toNat_eq
  simp only[BitVec.toNat_ushiftRight,Nat.shiftRight_add]
def rO(x:BitVec 32)(c:UInt8):Nat:=(x.toNat%256)^^^c.toNat
theorem aNq(x:BitVec 32)(c:UInt8):rO x c<256:=Nat.xor_lt_two_pow (n:=8) (by omega) (by have:=c.toNat_lt;omega)
theorem aFP(x:BitVec 32)(c:UInt8):JU x c=(x>>>8)^^^rM 8 (BitVec.ofNat 32 (rO x c)):=by
 unfold JU;have hs:x^^^BitVec.ofNat 32 c.toNat=(x>>>8)<<<8^^^BitVec.ofNat 32 (rO x c):=by
  apply BitVec.eq_of_getLsbD_eq
  intro i hi;have hc:=c.toNat_lt;simp only[BitVec.getLsbD_xor,BitVec.getLsbD_ofNat,BitVec.getLsbD_shiftLeft,BitVec.getLsbD_ushiftRight,rO,Nat.testBit_xor];rw[show(256:Nat)=2^8 from rfl,Nat.testBit_mod_two_pow,BitVec.testBit_toNat];by_cases h8:i<8
  ·simp[h8,hi]
  ·have hct:c.toNat.testBit i=false:=Nat.testBit_lt_two_pow (Nat.lt_of_lt_of_le hc (Nat.pow_le_pow_right (by omega) (by omega)));simp[h8,hi,hct,show 8+(i-8)=i by omega]
 rw[hs,aMS,aKh 8 (Nat.le_refl _)]
 ·congr 1
  apply BitVec.eq_of_getLsbD_eq
  intro i hi;simp only[BitVec.getLsbD_ushiftRight,BitVec.getLsbD_shiftLeft];by_cases h:8+i<32
  ·simp[h]
  ·simp only[h,decide_false,Bool.false_and];rw[BitVec.getLsbD_of_ge _ _ (by omega)]
 ·rw[BitVec.toNat_shiftLeft,Nat.shiftLeft_eq];omega
theorem aFi(x:BitVec 32)(a b:List UInt8):oW x (a++b)=oW (oW x a) b:=List.foldl_append
theorem aPb(a b:List UInt8):gY a=gY b↔oW 4294967295#32 a=oW 4294967295#32 b:=by
 constructor
 ·intro h;have e1:∀z:BitVec 32,4294967295#32-z= ~~~z:=by
   intro z;apply BitVec.eq_of_toNat_eq
   have:=z.isLt;rw[BitVec.toNat_sub,BitVec.toNat_not];simp;omega
  unfold gY at h;rw[e1,e1]at h;simpa using congrArg (fun z=> ~~~z) h
 ·intro h;unfold gY;rw[h]
theorem aM6(x:BitVec 32):4294967295^^^x.toNat=(4294967295#32-x).toNat:=by
 have h:4294967295#32-x= ~~~x:=by
  apply BitVec.eq_of_toNat_eq
  have:=x.isLt;rw[BitVec.toNat_sub,BitVec.toNat_not];simp;omega
 rw[h,<-BitVec.xor_allOnes,BitVec.toNat_xor,Nat.xor_comm];rfl
abbrev uV(x:BitVec 32):Value:=.int .u32 (x.toNat:Int)
theorem aL2(x:BitVec 32):bits BinOp.xor IntKind.u32 ((x.toNat:Int)/2) (3988292384*bits BinOp.and IntKind.u32 (x.toNat:Int) 1%4294967296)=((dn x).toNat:Int):=by
 have hx:=x.isLt;have h1:=u32_and_nat x.toNat 1 hx (by decide);rw[Nat.and_one_is_mod]at h1;rw[show((1:Nat):Int)=1 from rfl]at h1;rw[h1,show((x.toNat:Int)/2)=((x.toNat/2:Nat):Int) by omega];rcases Nat.mod_two_eq_zero_or_one x.toNat with h|h
 ·rw[h,aNC x h];have:=u32_xor_nat (x.toNat/2) 0 (by omega) (by decide);rw[Nat.xor_zero]at this;exact this
 ·rw[h,aOr x h];exact u32_xor_nat (x.toNat/2) 3988292384 (by omega) (by decide)
theorem aKX(x:BitVec 32)(w:World):
  Calls prog 249 #[uV x] w fun e w'=>e=.returned (uV (dn x))/\w=w':=by
 go_enter func249,ntmps249;go_wp2_with fail;go_ret;exact⟨nz (aL2 x),rfl⟩
/-! ### The table -/
def tab(k:Nat):List (BitVec 32):=(List.range 256).map fun j=>if j<k then rM 8 (BitVec.ofNat 32 j)else 0#32
theorem aIG(k j:Nat)(h:j<256):(tab k)[j]? =some (if j<k then rM 8 (BitVec.ofNat 32 j)else 0#32):=by simp[tab,h]
theorem aNw(k:Nat)(h:k<256):(tab k).set k (rM 8 (BitVec.ofNat 32 k))=tab (k+1):=by
 apply List.ext_getElem
 ·simp[tab]
 ·intro i h1 h2;simp[tab]at h2;simp only[tab,List.getElem_set,List.getElem_map,List.getElem_range];by_cases hi:k=i
  ·subst hi;rw[if_pos rfl,if_pos (by omega)]
  ·rw[if_neg hi];by_cases hj:i<k
   ·rw[if_pos hj,if_pos (by omega)]
   ·rw[if_neg hj,if_neg (by omega)]
def aPw:Array Value:=((tab 0).map uV).toArray
theorem aNO(w:World):(zeroValue 375).run prog w=.ok (.agg aPw) w:=by kernel_rfl
def MI(w:World)(g:Nat):Prop:=ak w g 375 ((tab 256).map uV)
theorem aD1(w:World):
  Calls prog 180 #[] w fun e w'=>∃g,e=.returned (.pointer (some (tZ g 0)))/\w.heap.size<=g/\MI w' g/\Below w.heap.size w w':=by
 have hz:=aNO;go_enter func180,ntmps180;go_wp2_with fail;have hb0:ak (w.alloc (.cells aPw 375)) w.heap.size 375 ((tab 0).map uV):=ak.new w _ _;clear hz;go_loopw [4] (fun v4 wr=>∃k:Nat,k<=256/\v4=iV (k:Int)/\ak wr w.heap.size 375 ((tab k).map uV)/\Below w.heap.size w wr) (fun v4 _=>256-(intOf v4).toNat)
 case atStart=>exact⟨0,by omega,rfl,hb0,(Below.refl _ _).alloc (Nat.le_refl _) _⟩
 case round=>
  clear hb0;obtain⟨k,hk,rfl,hblk,ui⟩:=hrel;obtain⟨wo,rfl⟩:∃wo:World,wo=wr:=⟨_,rfl⟩;by_cases hk2:k<256
  ·obtain⟨x0,hx0⟩:∃x0,x0=BitVec.ofNat 32 k:=⟨_,rfl⟩;have hx1:(k:Int)=(x0.toNat:Int):=by rw[hx0,BitVec.toNat_ofNat];omega
   have HX:=hid hx0;have yj:=hid hx1;clear hx0 hx1;have hc:=hblk.cellAt (i:=k) (by rw[List.getElem?_map,aIG k k hk2];rfl);have hf:=hblk.frozen k;have hs:=hblk.uh k (uV (rM 8 x0));rw[<-List.map_set,HX.out,aNw k hk2,<-HX.out]at hs;have hbs:=ui.setCell (p:=⟨w.heap.size,k,none⟩) (Nat.le_refl _) (uV (rM 8 x0));have JA:decide ((k:Int)<256)=true:=by simp;omega
   go_wp2_with fail;go_loop [3,9] (fun v3 v9=>∃(j:Nat) (y:BitVec 32),j<=8/\v9=iV (j:Int)/\v3=uV y/\Hid (y=rM j x0)) (fun _ v9=>8-(intOf v9).toNat)
   case atStart=>exact⟨0,x0,by omega,rfl,by rw[yj.out],rfl⟩
   case round=>
    obtain⟨j,y,hj,rfl,rfl,HY⟩:=hrel;by_cases hj8:j<8
    ·have HS:Hid (dn y=rM (j+1) x0):=by refine hid ?_;rw[HY.out];rfl
     go_wp2_with fail;refine(aKX y _).mono ?_;rintro e w'⟨rfl,rfl⟩;go_wp2_with fail;go_round;case rel=>exact⟨j+1,dn y,by omega,by go_num,rfl,HS⟩
     case measure=>simp[intOf];omega
    ·obtain rfl:j=8:=by omega
     obtain rfl:y=rM 8 x0:=HY.out;go_wp2_with fail;go_roundw;case rel=>exact⟨k+1,by omega,by go_num,hs,hbs⟩
     case measure=>simp[intOf];omega
  ·obtain rfl:k=256:=by omega
   go_wp2_with fail;go_ret;exact⟨_,rfl,Nat.le_refl _,hblk,ui⟩
theorem aNH(x:BitVec 32)(c:UInt8):bits BinOp.xor IntKind.u8 ((x.toNat:Int)%256) (c.toNat:Int)=((rO x c:Nat):Int):=by
 have hc:=c.toNat_lt;have:=u8_xor_nat (x.toNat%256) c.toNat (by omega) (by omega);exact this
theorem aKB(x:BitVec 32)(c:UInt8):bits BinOp.xor IntKind.u32 ((x.toNat:Int)/256) ((rM 8 (BitVec.ofNat 32 (rO x c))).toNat:Int)=((JU x c).toNat:Int):=by
 have hx:=x.isLt;have:=u32_xor_nat (x.toNat/256) (rM 8 (BitVec.ofNat 32 (rO x c))).toNat (by omega) (BitVec.isLt _);rw[aFP,BitVec.toNat_xor,BitVec.toNat_ushiftRight,Nat.shiftRight_eq_div_pow];exact this
theorem aLS(g:Nat)(x:BitVec 32)(A:Option Addr)(n c:Nat)(bs:List UInt8)(B:Nat)(w:World)(ht:MI w g)(h:ai w B 1 A n (bs.map bV))(hn:n<=100000000000):
  Calls prog 251 #[.pointer (some (tZ g 0)),uV x,.slice A n c] w fun e w'=>e=.returned (uV (oW x bs))/\w=w':=by
 have hl:bs.length=n:=by simpa using h.len
 have HL:=hid hl;clear hl;go_enter func251,ntmps251;go_wp2_with fail;go_loop [1,14] (fun v1 v14=>∃(k:Nat) (y:BitVec 32),k<=n/\v14=iV (k:Int)/\v1=uV y/\Hid (y=oW x (bs.take k))) (fun _ v14=>n-(intOf v14).toNat)
 case atStart=>exact⟨0,x,by omega,rfl,rfl,by refine hid ?_;simp[oW]⟩
 case round=>
  obtain⟨k,y,hk,rfl,rfl,HY⟩:=hrel;by_cases hkn:k<n
  ·obtain⟨ad,b,rfl,_,hb,hc⟩:=h.He hkn;have HS:Hid (JU y b=oW x (bs.take (k+1))):=by
    refine hid ?_;rw[List.take_add_one,hb,aFi,<-HY.out];rfl
   clear hb h;have hlow:=aNH y b;have hL:=aNq y b;have hcell:=ht.cellAt (i:=rO y b) (by rw[List.getElem?_map,aIG 256 _ hL,if_pos hL];rfl);have hx:=aKB y b;generalize rO y b=L at hlow hL hcell hx;generalize rM 8 (BitVec.ofNat 32 L)=T at hcell hx;go_wp2_with fail;go_round;case rel=>exact⟨k+1,JU y b,by omega,by go_num,rfl,HS⟩
   case measure=>simp[intOf];omega
  ·obtain rfl:k=n:=by omega
   go_wp2_with fail;go_ret;exact⟨by rw[HY.out,List.take_of_length_le (by have:=HL.out;omega)];rfl,rfl⟩
theorem aNg(x:BitVec 32)(w:World):Calls prog 313 #[uV x] w fun e w'=>e=.returned (uV (4294967295#32-x))/\w=w':=by
 have hv:bits BinOp.xor IntKind.u32 IntKind.u32.max (x.toNat:Int)=((4294967295#32-x).toNat:Int):=by
  rw[<-aM6];exact u32_xor_nat 4294967295 x.toNat (by decide) x.isLt
 have HV:=hid hv;clear hv;go_enter func313,ntmps313;go_wp2_with fail;go_ret;exact⟨nz HV.out,rfl⟩
theorem aKb(w:World):Calls prog 314 #[] w fun e w'=>e=.returned (uV 4294967295#32)/\w=w':=by
 go_enter func314,ntmps314;go_wp2_with fail;go_ret;exact⟨rfl,rfl⟩
theorem aJG(g:Nat)(A:Option Addr)(n c:Nat)(bs:List UInt8)(B:Nat)(w:World)(ht:MI w g)(h:ai w B 1 A n (bs.map bV))(hn:n<=100000000000):
  Calls prog 250 #[.func (Fn.func 251) #[.pointer (some (tZ g 0))] #[],.slice A n c] w fun e w'=>e=.returned (uV (gY bs))/\w=w':=by
 go_enter func250,ntmps250;go_wp2_with fail;refine(aKb w).mono ?_;rintro e w'⟨rfl,rfl⟩;go_wp2_with fail;refine(aLS g _ A n c bs B w ht h hn).mono ?_;rintro e w'⟨rfl,rfl⟩;go_wp2_with fail;refine(aNg _ w).mono ?_;rintro e w'⟨rfl,rfl⟩;go_wp2_with fail;go_ret;exact⟨rfl,rfl⟩
theorem aFa(g:Nat)(A:Option Addr)(n c:Nat)(bs:List UInt8)(B:Nat)(w:World)(ht:MI w g)(h:ai w B 1 A n (bs.map bV))(hn:n<=100000000000):
  Calls prog 181 #[.pointer (some (tZ g 0)),.slice A n c] w fun e w'=>e=.returned (uV (gY bs))/\w=w':=by
 go_enter func181,ntmps181;go_wp2_with fail;refine(aJG g A n c bs B w ht h hn).mono ?_;rintro e w'⟨rfl,rfl⟩;go_wp2_with fail;go_ret;exact⟨rfl,rfl⟩
theorem aCp(x:BitVec 32)(a b n:Nat)(a0:0<a)(a1:a<32)(b0:0<b)(b1:b<32)(n1:n<=32)(w:World):
  Calls prog 411 #[wV x,iV (a:Int),iV (b:Int),iV (n:Int)] w fun e w'=>e=.returned (wV (cG x a b n))/\Below w.heap.size w w':=
 (aDJ x a b n a0 a1 b0 b1 n1 w).mono fun _ _ ⟨h,k,hk⟩=>⟨h,by rw[hk];exact bW (Below.refl _ _) k⟩
def gV(s:mO):List Value:=[wV s.v.a,wV s.v.b,wV s.v.c,wV s.v.d,wV s.v.e,wV s.v.f,wV s.v.g,wV s.v.h]++s.part.map bV++[iV (s.n:Int)]
theorem aE5(s:mO)(j:Nat)(hj:j<s.part.length):(gV s)[8+j]? =(s.part[j]?).map bV:=by
 unfold gV;rw[List.getElem?_append_left (by simp;omega),List.getElem?_append_right (by simp)];simp
def nT:Array Value:=(List.replicate 64 (wV 0)).toArray
theorem aAE:nT.size=64:=by simp[nT]
theorem aCZ(w:World):(zeroValue 481).run prog w=.ok (.agg nT) w:=by kernel_rfl
theorem aB3(l:List Value)(h:l.length=64):(prog.info? 481).map (·.size)=some l.toArray.size:=by
 have:(prog.info? 481).map (·.size)=some 64:=by kernel_rfl
 rw[this];simp[h]
theorem aBL(l:List (BitVec 32)):(l.map wV).toArray.all (·.oneCell')=true:=by
 rw[Array.all_eq_true_iff_forall_mem];intro v hv;simp at hv;obtain⟨b,_,rfl⟩:=hv;rfl
theorem aNk(g o k:Nat)(hk:k<16):∃A c,c<=maxLen/\4<=c/\(∀j,A.add j=⟨g,o+4*k+j,none⟩)/\A.block=g/\∀w,(Instr.sliceAt 279 (.pointer (some (tZ g o))) (some (iV (4*(k:Int)))) (some (iV (4*(k:Int)+4))) none).run prog w=.ok (.slice (some A) 4 c) w:=by
 refine⟨⟨g,o+4*k,none⟩,64-4*k,by simp[maxLen];omega,by omega,fun j=>by rw[lT],rfl,fun w=>?_⟩;have hlen:prog.arrayLen 279=64:=by kernel_rfl
 have hun:prog.underlying 279=some (.array (prog.arrayLen 279) (prog.elem 279)):=by kernel_rfl
 have JG:∀w,(sizeOf (prog.elem 279)).run prog w=.ok 1 w:=fun w=>by kernel_rfl
 rw[run_sliceAt_array_lh w 279 ⟨g,o,none⟩ hun .i64 .i64 (4*(k:Int)) (4*(k:Int)+4) (by omega) (by omega) (by rw[hlen];omega),JG,hlen];simp only[Result.andThen_ok,slicedAt];rw[if_neg (by omega),lT,show(4*(k:Int)).toNat=4*k by omega,show(4*(k:Int)+4).toNat=4*k+4 by omega,show 4*k+4-4*k=4 by omega,Nat.mul_one]
theorem aAv{B:Nat}{w w':World}(h:Below B w w')(g:Nat)(cs:Array Value)(hg:B<=g):Below B w (w'.setRow g cs):=
 ⟨h.os,h.tape,h.output,by simpa using h.size,fun i hi=>(setRow_other w' g i cs (by omega)).trans (h.block i hi)⟩
theorem aAf{w:World}{g i k:Nat}{u v:Value}(h:i≠k)(hc:w.cell? (tZ g i)=some u):(w.setCell (tZ g k) v).cell? (tZ g i)=some u:=
 (World.cell?_setCell_other w _ _ v (fun e=>by injection e with _ e;exact h (by omega))).trans hc
theorem aDW{w:World}{g i k:Nat}{v:Value}(hc:w.frozen? (tZ g i)=false):(w.setCell (tZ g k) v).frozen? (tZ g i)=false:=by
 simpa using hc
theorem aF7(g:Nat)(s:mO)(w:World)(h:ak w g 370 (gV s))(hp:s.part.length=64):
  Calls prog 374 #[.pointer (some (tZ g 8))] w fun e w'=>e=.returned (.agg ((eH s.part 64).map wV).toArray)/\Below w.heap.size w w':=by
 have hz:=aCZ;have hzs:=aAE;have hg:=h.lt;have HP:=hid hp;have HB:=hid h;clear hp h;obtain⟨WL,GY⟩:∃WL,eH s.part 64=WL:=⟨_,rfl⟩;have BM:Hid (∀n,n=64->WL.length=n):=hid (fun n hn=>by rw[<-GY,hn];exact fJ s.part 64);rw[GY];have IX:Hid (∀n,n=64->mX s.part n=WL):=hid (fun n hn=>by rw[hn,aLf];exact GY);clear GY;obtain⟨w2,hw2,zh,hb2,uJ,ub⟩:∃w2:World,(w.alloc (.cells nT 481)).alloc (.cells nT 481)=w2/\w2.heap.size=w.heap.size+1+1/\Below w.heap.size w w2/\
   ak w2 w.heap.size 481 (List.replicate 64 (wV 0))/\ak w2 (w.heap.size+1) 481 ((mX s.part 0).map wV):=by
  refine⟨_,rfl,by simp,((Below.refl _ _).alloc (Nat.le_refl _) _).alloc (by simp) _,(ak.new w _ (List.replicate 64 (wV 0))).alloc _,?_⟩;have:=ak.new (w.alloc (.cells nT 481)) 481 ((mX s.part 0).map wV);simpa[mX,eH,nT]using this
 go_enter func374,ntmps374;go_wp2_with fail;clear hw2 hz hzs;generalize hr:w.heap.size=r at*
 have HR:=hid hr;clear hr;have hBg:∀wr,Below r w wr->ak wr g 370 (gV s):=fun wr hb=>HB.out.below hb hg
 have DD:=hid hBg;clear hBg;have hne:r≠r+1:=by omega
 have DI:r+1≠r:=by omega
 have hgr:r+1≠g:=by omega
 have hgr':g≠r+1:=by omega
 go_loopw [7] (fun v7 wr=>∃k:Nat,k<=64/\v7=iV (k:Int)/\ak wr (r+1) 481 ((mX s.part k).map wV)/\ak wr r 481 (List.replicate 64 (wV 0))/\Below r w wr) (fun v7 _=>64-(intOf v7).toNat)
 case atStart=>exact⟨0,by omega,rfl,ub,uJ,hb2⟩
 case round=>
  clear uJ ub hb2;obtain⟨k,hk,rfl,ub,uJ,ui⟩:=hrel;obtain⟨wo,rfl⟩:∃wo:World,wo=wr:=⟨_,rfl⟩;by_cases hk2:k<64
  ·by_cases hk3:k<16
   ·have DU:=ub.lt;have hbg:=hid (DD.out _ ui);have H1:=hid ub;have H0:=hid uJ;have HL:=hid ui;clear ub uJ ui;have JA:decide ((k:Int)<64)=true:=by simp;omega
    have hdk3:decide ((k:Int)<16)=true:=by simp;omega
    obtain⟨A,c,hc0,hc1,hA,hAb,hsl⟩:=aNk g 8 k hk3;have vW:∀wr,Below r w wr->ai wr wr.heap.size 1 (some A) 4 ((mr s.part k).map bV):=fun wr hb=>by
     refine⟨by simp[aCK s.part k HP.out hk3],fun _=>⟨A,rfl,by rw[hAb];exact(DD.out wr hb).lt,fun j u hu=>?_⟩⟩;rw[List.getElem?_map]at hu;have hj:j<4:=by
      rcases Nat.lt_or_ge j 4 with h|h
      ·exact h
      ·rw[List.getElem?_eq_none (by rw[aCK s.part k HP.out hk3];omega)]at hu;simp at hu
     rw[aLQ s.part k j HP.out hk3 hj]at hu;rw[hA,(DD.out wr hb).cell,show 8+4*k+j=8+(4*k+j) by omega,aE5 s _ (by rw[HP.out];omega)];exact hu
    have GZ:=hid vW;have hL0:=aKk s.part k hk2;have Je:=aG6 s.part k hk2;rw[aJj s.part k hk3]at Je;have HL0:=hid hL0;have Gg:=hid Je;have HFL:=hid (aCK s.part k HP.out hk3);have HLL:=hid (aLY s.part k hk);clear hA vW hL0 Je hAb;generalize mX s.part k=L at*
    generalize mr s.part k=q at*
    go_wp2_with fail;clear hsl;go_loopw [21,6] (fun v21 v6 wr=>∃j:Nat,j<=4/\v21=iV (j:Int)/\ak wr (r+1) 481 ((L.set k (kV (q.take j))).map wV)/\ak wr r 481 (List.replicate 64 (wV 0))/\Below r w wr) (fun v21 _ _=>4-(intOf v21).toNat)
    case atStart=>exact⟨0,by omega,rfl,by rw[HL0.out];exact H1.out,H0.out,HL.out⟩
    case round=>
     obtain⟨j,hj,rfl,hb1,hb0,ui⟩:=hrel;by_cases hj4:j<4
     ·obtain⟨ad,c1,hAd,_,hc,hcell⟩:=(GZ.out _ ui).He hj4;injection hAd with hAd
      subst hAd;obtain⟨y,hy⟩:∃y,y=kV (q.take (j+1)):=⟨_,rfl⟩;have HW:Hid (kV (q.take (j+1))=kV (q.take j)*256#32+BitVec.ofNat 32 c1.toNat):=hid (by
       rw[List.take_add_one,hc];exact aH0 _ _)
      have hv:((kV (q.take j)).toNat:Int)*256%4294967296+(c1.toNat:Int)=(y.toNat:Int):=by
       have h:=aJJ (kV (q.take j)) c1;have hcb:=c1.toNat_lt;rw[hy,HW.out,<-h];omega
      have hx:((L.set k (kV (q.take j))).map wV)[k]? =some (wV (kV (q.take j))):=by
       rw[List.getElem?_map,List.getElem?_set_self (by rw[HLL.out];omega)];rfl
      have hx1:=hb1.cellAt hx;have hx2:=hb1.frozen k;have hs:=hb1.uh k (wV y);rw[<-List.map_set,List.set_set]at hs;have hs0:=hb0.far (p:=⟨r+1,k,none⟩) hne (wV y);have hbs:=ui.setCell (p:=⟨r+1,k,none⟩) (Nat.le_succ r) (wV y);clear hb1 hb0 ui hx hc;generalize kV (q.take j)=x at*
      have HS:=hid hs;have zq:=hid hs0;have HBS:=hid hbs;have HY:=hid hy;clear hs hs0 hbs hy;have hcb:=c1.toNat_lt;go_wp2_with fail;go_roundw;case rel=>exact⟨j+1,by omega,by go_num,by rw[<-HY.out];exact HS.out,zq.out,HBS.out⟩
      case measure=>simp[intOf];omega
     ·obtain rfl:j=4:=by omega
      rw[List.take_of_length_le (by have:=HFL.out;omega),Gg.out]at hb1;go_wp2_with fail;go_roundw;case rel=>exact⟨k+1,by omega,by go_num,hb1,hb0,ui⟩
      case measure=>simp[intOf];omega
   ·have DU:=ub.lt;have JA:decide ((k:Int)<64)=true:=by simp;omega
    have hdk3:decide ((k:Int)<16)=false:=by simp;omega
    obtain⟨i2,i15,i7,i16,e2,Ns,e7,e16⟩:∃i2 i15 i7 i16:Nat,(k-2=i2/\i2<k/\(k:Int)-2=(i2:Int))/\(k-15=i15/\i15<k/\(k:Int)-15=(i15:Int))/\(k-7=i7/\i7<k/\(k:Int)-7=(i7:Int))/\(k-16=i16/\i16<k/\(k:Int)-16=(i16:Int)):=
     ⟨k-2,k-15,k-7,k-16,⟨rfl,by omega,by omega⟩,⟨rfl,by omega,by omega⟩,⟨rfl,by omega,by omega⟩,⟨rfl,by omega,by omega⟩⟩
    have Je:=aG6 s.part k hk2;rw[aHI s.part k (by omega),e2.1,Ns.1,e7.1,e16.1]at Je;have Gg:=hid Je;clear Je;have p2:=aBC s.part k i2 e2.2.1;have p15:=aBC s.part k i15 Ns.2.1;have p7:=aBC s.part k i7 e7.2.1;have p16:=aBC s.part k i16 e16.2.1;generalize (eH s.part k).getD i2 0=x2 at*
    generalize (eH s.part k).getD i15 0=Gh at*
    generalize (eH s.part k).getD i7 0=x7 at*
    generalize (eH s.part k).getD i16 0=Nu at*
    have HG:Hid (∀w',ak w' (r+1) 481 ((mX s.part k).map wV)->(w'.cell? (tZ (r+1) i2)=some (wV x2)/\w'.cell? (tZ (r+1) i15)=some (wV Gh)/\w'.cell? (tZ (r+1) i7)=some (wV x7)/\w'.cell? (tZ (r+1) i16)=some (wV Nu)/\w'.frozen? (tZ (r+1) k)=false/\w'.cell? (tZ (r+1) k)=some (wV 0))):=hid fun w' h=>
     ⟨h.cellAt (by rw[List.getElem?_map,p2];rfl),h.cellAt (by rw[List.getElem?_map,p15];rfl),h.cellAt (by rw[List.getElem?_map,p7];rfl),h.cellAt (by rw[List.getElem?_map,p16];rfl),h.frozen k,h.cellAt (by rw[List.getElem?_map,aFQ s.part k hk2];rfl)⟩
    have w2':IntKind.i64.wrap ((k:Int)-2)=(i2:Int):=by rw[<-e2.2.2];exact IntWalk.i64_in _ (by omega)
    have w15':IntKind.i64.wrap ((k:Int)-15)=(i15:Int):=by rw[<-Ns.2.2];exact IntWalk.i64_in _ (by omega)
    have w7':IntKind.i64.wrap ((k:Int)-7)=(i7:Int):=by rw[<-e7.2.2];exact IntWalk.i64_in _ (by omega)
    have w16':IntKind.i64.wrap ((k:Int)-16)=(i16:Int):=by rw[<-e16.2.2];exact IntWalk.i64_in _ (by omega)
    have b2:(0:Int)<=(i2:Int)/\(i2:Int)<64:=by omega
    have b15:(0:Int)<=(i15:Int)/\(i15:Int)<64:=by omega
    have b7:(0:Int)<=(i7:Int)/\(i7:Int)<64:=by omega
    have b16:(0:Int)<=(i16:Int)/\(i16:Int)<64:=by omega
    have bk:(0:Int)<=(k:Int)/\(k:Int)<64:=by omega
    have n2:i2≠k:=by omega
    have n15:i15≠k:=by omega
    have n7:i7≠k:=by omega
    have n16:i16≠k:=by omega
    have m2:k≠i2:=by omega
    have m15:k≠i15:=by omega
    have m7:k≠i7:=by omega
    have m16:k≠i16:=by omega
    obtain⟨b2a,b2b⟩:=b2;obtain⟨b15a,b15b⟩:=b15;obtain⟨b7a,b7b⟩:=b7;obtain⟨b16a,b16b⟩:=b16;obtain⟨bka,bkb⟩:=bk;obtain⟨c2,c15,c7,c16,ck,ckk⟩:=HG.out _ ub;have H1:=hid ub;have H0:=hid uJ;have HL:=hid ui;have HE:=hid (And.intro e2 (And.intro Ns (And.intro e7 e16)));have q1:=hid (fun w=>aCp x2 17 19 10 (by omega) (by omega) (by omega) (by omega) (by omega) w);have q2:=hid (fun w=>aCp Gh 7 18 3 (by omega) (by omega) (by omega) (by omega) (by omega) w);have v1:=hid (fU (cG x2 17 19 10) (cG Gh 7 18 3));have v2:=hid (fU (cG x2 17 19 10+cG Gh 7 18 3) x7);have v3:=hid (fU (cG x2 17 19 10+cG Gh 7 18 3+x7) Nu);generalize cG x2 17 19 10+cG Gh 7 18 3+x7+Nu=z3 at*
    generalize cG x2 17 19 10+cG Gh 7 18 3+x7=z2 at*
    generalize cG x2 17 19 10+cG Gh 7 18 3=z1 at*
    generalize cG x2 17 19 10=s1 at*
    generalize cG Gh 7 18 3=s2 at*
    clear ub uJ ui p2 p15 p7 p16 e2 Ns e7 e16;go_wp2_with fail;go_region_held3 (fun w'=>w'.cell? (tZ (r+1) i2)=some (wV x2)/\w'.cell? (tZ (r+1) i15)=some (wV Gh)/\w'.cell? (tZ (r+1) i7)=some (wV x7)/\w'.cell? (tZ (r+1) i16)=some (wV Nu)/\w'.frozen? (tZ (r+1) k)=false) (first|exact⟨aAf n2 c2b,aAf n15 aSU,aAf n7 c7b,aAf n16 aSV,aDW ckb⟩|go_keep)
     (first
      |(go_at_call_of 411 (wV x2);refine(q1.out _).mono ?_;rintro e5 w5 ⟨rfl,vP⟩;have uP:Below wo.heap.size wo w5:=⟨vP.os,vP.tape,vP.output,vP.size,vP.block⟩;clear vP;have Ie:=H1.out.belowS uP;obtain⟨c2a,c15a,c7a,c16a,cka,ckka⟩:=HG.out _ Ie)
      |(go_at_call 411;refine(q2.out _).mono ?_;rintro e6 w6 ⟨rfl,DV⟩;have uS:Below w5.heap.size w5 w6:=⟨DV.os,DV.tape,DV.output,DV.size,DV.block⟩;clear DV;have GV:=Ie.belowS uS;obtain⟨c2b,aSU,c7b,aSV,ckb,ckkb⟩:=HG.out _ GV))
    have k1:IntKind.u32.wrap ((s1.toNat:Int)+(s2.toNat:Int))=(z1.toNat:Int):=v1.out;have k2:IntKind.u32.wrap ((z1.toNat:Int)+(x7.toNat:Int))=(z2.toNat:Int):=v2.out;have k3:IntKind.u32.wrap ((z2.toNat:Int)+(Nu.toNat:Int))=(z3.toNat:Int):=v3.out;have hb1:=GV.uh k (wV z3);rw[<-List.map_set,Gg.out]at hb1;have hbB:=uP.trans (uS.mono uP.size);have hb0:=(H0.out.belowS hbB).far (p:=⟨r+1,k,none⟩) hne (wV z3);have ui:=(HL.out.trans (hbB.mono (by omega))).setCell (p:=⟨r+1,k,none⟩) (Nat.le_succ r) (wV z3);rw[k1,k2,k3];generalize w6.setCell (tZ (r+1) k) (wV z3)=w7 at*
    clear k1 k2 k3 c2 c15 c7 c16 ck ckk c2a c15a c7a c16a cka ckka c2b aSU c7b aSV ckb ckkb Ie GV w2' w15' w7' w16';have H1':=hid hb1;have H0':=hid hb0;have HL':=hid ui;clear hb1 hb0 ui;go_wp2_with fail;go_roundw;case rel=>exact⟨k+1,by omega,by go_num,H1'.out,H0'.out,HL'.out⟩
    case measure=>simp[intOf];omega
  ·obtain rfl:k=64:=by omega
   rw[IX.out _ rfl]at ub;have HL:=hid ui;have H1:=hid ub;have H0:=hid uJ;clear ub uJ ui;go_wp2_with (first
    |(refine wpList_load_row rfl 481 _ rfl (r+1) rfl 481 (WL.map wV).toArray (0,0) _ H1.out underlying481 rfl (aB3 _ (by simp[BM.out 64 rfl])) ?_)
    |(refine wpList_store_row rfl 481 _ _ rfl r (WL.map wV).toArray rfl rfl 481 (List.replicate 64 (wV 0)).toArray H0.out (aB3 _ (by simp[BM.out 64 rfl])) (by simp[BM.out 64 rfl]) (aBL _) ?_))
   have hrow:=setRow_heap wo r (List.replicate 64 (wV 0)).toArray (WL.map wV).toArray 481 (0,0) H0.out;refine bodyPost_ret (v:=.agg (WL.map wV).toArray) (results_cell_row (P:=prog) (fn:=Tryz.f374) (p:=2) (ty:=481) (by rfl) _ _ r 481 (WL.map wV).toArray (0,0) _ (by rfl) hrow underlying481 (by rfl) (aB3 _ (by simp[BM.out 64 rfl]))) rfl ?_;refine⟨rfl,?_⟩;rw[HR.out];exact aAv HL.out _ _ (Nat.le_refl _)
theorem aFZ(v o:oz)(w:World):
  Calls prog 379 #[rP v,rP o] w fun e w'=>e=.returned (rP (v.plus o))/\Below w.heap.size w w':=by
 obtain⟨a,b,c,d,e,f,g,h⟩:=v;obtain⟨a',b',c',d',e',f',g',h'⟩:=o;have ka:=fU a a';have kb:=fU b b';have kc:=fU c c';have kd:=fU d d';have ke:=fU e e';have kf:=fU f f';have kg:=fU g g';have kh:=fU h h';have HR:Hid ((oz.mk a b c d e f g h).plus ⟨a',b',c',d',e',f',g',h'⟩=⟨a+a',b+b',c+c',d+d',e+e',f+f',g+g',h+h'⟩):=hid rfl;generalize (oz.mk a b c d e f g h).plus ⟨a',b',c',d',e',f',g',h'⟩=R at*
 generalize a+a'=sa at*
 generalize b+b'=sb at*
 generalize c+c'=sc at*
 generalize d+d'=sd at*
 generalize e+e'=se at*
 generalize f+f'=sf at*
 generalize g+g'=sg at*
 generalize h+h'=sh at*
 simp only[rP]at*
 go_enter func379,ntmps379;go_wp2_with fail;have hR:=HR.out;subst hR;refine bodyPost_ret (v:=rP ⟨sa,sb,sc,sd,se,sf,sg,sh⟩) (by simp[results,results379,go_sem]) rfl ?_;exact⟨rfl,(((Below.refl _ _).alloc (Nat.le_refl _) _).alloc (by simp) _).alloc (by simp;omega) _⟩
def oQ:Array Value:= #[.int .u32 1116352408,.int .u32 1899447441,.int .u32 3049323471,.int .u32 3921009573,.int .u32 961987163,.int .u32 1508970993,.int .u32 2453635748,.int .u32 2870763221,.int .u32 3624381080,.int .u32 310598401,.int .u32 607225278,.int .u32 1426881987,.int .u32 1925078388,.int .u32 2162078206,.int .u32 2614888103,.int .u32 3248222580,.int .u32 3835390401,.int .u32 4022224774,.int .u32 264347078,.int .u32 604807628,.int .u32 770255983,.int .u32 1249150122,.int .u32 1555081692,.int .u32 1996064986,.int .u32 2554220882,.int .u32 2821834349,.int .u32 2952996808,.int .u32 3210313671,.int .u32 3336571891,.int .u32 3584528711,.int .u32 113926993,.int .u32 338241895,.int .u32 666307205,.int .u32 773529912,.int .u32 1294757372,.int .u32 1396182291,.int .u32 1695183700,.int .u32 1986661051,.int .u32 2177026350,.int .u32 2456956037,.int .u32 2730485921,.int .u32 2820302411,.int .u32 3259730800,.int .u32 3345764771,.int .u32 3516065817,.int .u32 3600352804,.int .u32 4094571909,.int .u32 275423344,.int .u32 430227734,.int .u32 506948616,.int .u32 659060556,.int .u32 883997877,.int .u32 958139571,.int .u32 1322822218,.int .u32 1537002063,.int .u32 1747873779,.int .u32 1955562222,.int .u32 2024104815,.int .u32 2227730452,.int .u32 2361852424,.int .u32 2428436474,.int .u32 2756734187,.int .u32 3204031479,.int .u32 3329325298]
theorem aM8:(qP.map wV).toArray=oQ:=by
 simp[qP,oQ]
def oZ:Array Value:=(List.replicate 64 (wV 0)).toArray
theorem aCk:oZ.size=64:=by simp[oZ]
theorem aHv(w:World):(zeroValue 484).run prog w=.ok (.agg oZ) w:=by kernel_rfl
theorem aJn:oQ.all (·.oneCell')=true:=by kernel_rfl
theorem aCL:(prog.info? 484).map (·.size)=some oQ.size:=by kernel_rfl
theorem aBK(w:World):
  Calls prog 375 #[] w fun e w'=>e=.returned (.agg (qP.map wV).toArray)/\Below w.heap.size w w':=by
 rw[aM8];have hz:=aHv;have hzs:=aCk;go_enter func375,ntmps375;go_wp2_with ((refine wpList_store_row rfl 484 _ _ rfl w.heap.size oQ rfl (by as_aux_lemma=>kernel_rfl) 484 oZ (heap_alloc_new w _) aCL (by rw[aCk];rfl) aJn ?_))
 have hrow:((w.alloc (.cells oZ 484)).setRow w.heap.size oQ).heap[w.heap.size]? =some (.cells oQ 484 (0,0)):=
  setRow_heap (w.alloc (.cells oZ 484)) w.heap.size oZ oQ 484 (0,0) (heap_alloc_new w _)
 refine bodyPost_ret (v:=.agg oQ) (results_cell_row (P:=prog) (fn:=Tryz.f375) (p:=0) (ty:=484) (by rfl) _ _ w.heap.size 484 oQ (0,0) _ (by rfl) hrow underlying484 (by rfl) aCL) rfl ?_;refine⟨rfl,?_⟩;rw[World.setRow_alloc_new];exact(Below.refl _ _).alloc (Nat.le_refl _) _
end Go.Proofs.YtfjkpigldogkeaaGreatDoor
