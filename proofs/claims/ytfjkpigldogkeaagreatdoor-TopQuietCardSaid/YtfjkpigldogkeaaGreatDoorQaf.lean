/- Contracts of functions that TopQuiet reaches, under the conditions that each states. -/
import Derived.Test.YtfjkpigldogkeaaGreatDoorQaa
import Derived.Laws.BitsAllLaws
import Derived.Deep.RegionHeld3
import Derived.RegionTactic
set_option linter.all false
set_option maxRecDepth 20000
set_option maxHeartbeats 2000000
namespace Go.Proofs.YtfjkpigldogkeaaGreatDoor
open Go.RowKit Go.ChangeShapes Go.WideShapes Go.ChangeAt Go.Proofs.Tryz
structure oz where
 a:BitVec 32
 b:BitVec 32
 c:BitVec 32
 d:BitVec 32
 e:BitVec 32
 f:BitVec 32
 g:BitVec 32
 h:BitVec 32
def oz.upper(v:oz):BitVec 32:=(((v.a.rotateRight 9^^^v.a).rotateRight 11^^^v.a).rotateRight 2)+(((v.a|||v.b)&&&v.c)|||(v.a&&&v.b))
def oz.lower(v:oz):BitVec 32:=v.h+(((v.e.rotateRight 14^^^v.e).rotateRight 5^^^v.e).rotateRight 6)+(((v.f^^^v.g)&&&v.e)^^^v.g)
def oz.round(v:oz)(w:BitVec 32):oz:=⟨v.lower+w+v.upper,v.a,v.b,v.c,v.d+(v.lower+w),v.e,v.f,v.g⟩
def oz.plus(v o:oz):oz:=⟨v.a+o.a,v.b+o.b,v.c+o.c,v.d+o.d,v.e+o.e,v.f+o.f,v.g+o.g,v.h+o.h⟩
def cG(x:BitVec 32)(one two lost:Nat):BitVec 32:=x.rotateRight one^^^x.rotateRight two^^^(x>>>lost)
def qP:List (BitVec 32):=[
 0x428a2f98#32,0x71374491#32,0xb5c0fbcf#32,0xe9b5dba5#32,0x3956c25b#32,0x59f111f1#32,0x923f82a4#32,0xab1c5ed5#32,
 0xd807aa98#32,0x12835b01#32,0x243185be#32,0x550c7dc3#32,0x72be5d74#32,0x80deb1fe#32,0x9bdc06a7#32,0xc19bf174#32,
 0xe49b69c1#32,0xefbe4786#32,0x0fc19dc6#32,0x240ca1cc#32,0x2de92c6f#32,0x4a7484aa#32,0x5cb0a9dc#32,0x76f988da#32,
 0x983e5152#32,0xa831c66d#32,0xb00327c8#32,0xbf597fc7#32,0xc6e00bf3#32,0xd5a79147#32,0x06ca6351#32,0x14292967#32,
 0x27b70a85#32,0x2e1b2138#32,0x4d2c6dfc#32,0x53380d13#32,0x650a7354#32,0x766a0abb#32,0x81c2c92e#32,0x92722c85#32,
 0xa2bfe8a1#32,0xa81a664b#32,0xc24b8b70#32,0xc76c51a3#32,0xd192e819#32,0xd6990624#32,0xf40e3585#32,0x106aa070#32,
 0x19a4c116#32,0x1e376c08#32,0x2748774c#32,0x34b0bcb5#32,0x391c0cb3#32,0x4ed8aa4a#32,0x5b9cca4f#32,0x682e6ff3#32,
 0x748f82ee#32,0x78a5636f#32,0x84c87814#32,0x8cc70208#32,0x90befffa#32,0xa4506ceb#32,0xbef9a3f7#32,0xc67178f2#32]
def kV(b:List UInt8):BitVec 32:=b.foldl (fun w c=>w*256#32+BitVec.ofNat 32 c.toNat) 0#32
def rC(p:List UInt8)(w:List (BitVec 32)):BitVec 32:=
 let i:=w.length
 if i<16 then kV ((p.drop (4*i)).take 4)else
  cG (w.getD (i-2) 0) 17 19 10+cG (w.getD (i-15) 0) 7 18 3+w.getD (i-7) 0+w.getD (i-16) 0
def eH(p:List UInt8):Nat->List (BitVec 32)
 |0=>[]
 |n+1=>eH p n++[rC p (eH p n)]
def jW(w:List (BitVec 32))(v:oz):Nat->oz
 |0=>v
 |n+1=>(jW w v n).round (qP.getD n 0+w.getD n 0)
def Nr(p:List UInt8)(v:oz):oz:=v.plus (jW (eH p 64) v 64)
structure mO where
 v:oz
 part:List UInt8
 n:Nat
def qp:mO:=⟨⟨0x6a09e667#32,0xbb67ae85#32,0x3c6ef372#32,0xa54ff53a#32,0x510e527f#32,0x9b05688c#32,0x1f83d9ab#32,0x5be0cd19#32⟩,List.replicate 64 0,0⟩
def mO.put(s:mO)(c:UInt8):mO:=
 let p:=s.part.set (s.n%64) c
 if(s.n+1)%64=0 then⟨Nr p s.v,p,s.n+1⟩else⟨s.v,p,s.n+1⟩
def mO.write(s:mO)(b:List UInt8):mO:=b.foldl mO.put s
def mO.pad(s:mO):Nat->mO
 |0=>s
 |k+1=>if s.n%64=56 then s else(s.put 0).pad k
def lN(n:Nat):List UInt8:=(List.range 8).map fun j=>UInt8.ofNat (n*8/2^(56-8*j))
def oM(x:BitVec 32):List UInt8:=(List.range 4).map fun k=>UInt8.ofNat (x.toNat/2^(24-8*k))
def mO.sum(s:mO):List UInt8:=
 let x:=((s.put 0x80).pad 64).write (lN s.n)
 oM x.v.a++oM x.v.b++oM x.v.c++oM x.v.d++oM x.v.e++oM x.v.f++oM x.v.g++oM x.v.h
def pR(b:List UInt8):List UInt8:=(qp.write b).sum
theorem aD6(s:mO)(c:UInt8):(s.put c).n=s.n+1:=by unfold mO.put;simp only;split<;>rfl
theorem aBe(s:mO)(c:UInt8):(s.put c).part.length=s.part.length:=by unfold mO.put;simp only;split<;>simp
theorem aAC(s:mO)(a b:List UInt8):s.write (a++b)=(s.write a).write b:=List.foldl_append
theorem aAt:∀(b:List UInt8)(s:mO),(s.write b).n=s.n+b.length
 |[],s=>rfl
 |c::b,s=>by
  show((s.put c).write b).n=_
  rw[aAt b,aD6];simp only[List.length_cons];omega
theorem aA6:∀(b:List UInt8)(s:mO),(s.write b).part.length=s.part.length
 |[],s=>rfl
 |c::b,s=>by
  show((s.put c).write b).part.length=_
  rw[aA6 b,aBe]
abbrev wV(x:BitVec 32):Value:=.int .u32 (x.toNat:Int)
theorem lZ(x y:BitVec 32):bits BinOp.xor IntKind.u32 (x.toNat:Int) (y.toNat:Int)=((x^^^y).toNat:Int):=by
 rw[u32_xor_nat _ _ x.isLt y.isLt,BitVec.toNat_xor]
theorem aF6(x y:BitVec 32):bits BinOp.and IntKind.u32 (x.toNat:Int) (y.toNat:Int)=((x&&&y).toNat:Int):=by
 rw[u32_and_nat _ _ x.isLt y.isLt,BitVec.toNat_and]
theorem aMw(x y:BitVec 32):bits BinOp.or IntKind.u32 (x.toNat:Int) (y.toNat:Int)=((x|||y).toNat:Int):=by
 rw[u32_or_nat _ _ x.isLt y.isLt,BitVec.toNat_or]
theorem fU(x y:BitVec 32):((x.toNat:Int)+(y.toNat:Int))%4294967296=((x+y).toNat:Int):=by
 rw[BitVec.toNat_add];omega
theorem aNs(x:BitVec 32)(n:Nat):(x.toNat:Int)/(2^n:Nat)=((x>>>n).toNat:Int):=by
 rw[BitVec.toNat_ushiftRight,Nat.shiftRight_eq_div_pow];omega
theorem aHB(x:BitVec 32)(n:Nat)(h0:0<n)(h1:n<32):
  bits BinOp.or IntKind.u32 (((x.toNat*2^(32-n):Nat):Int)%4294967296) ((x.toNat/2^n:Nat):Int)=((x.rotateRight n).toNat:Int):=by
 have hx:=x.isLt;have h2:x.toNat/2^n<4294967296:=Nat.lt_of_le_of_lt (Nat.div_le_self _ _) hx;have h3:x.toNat*2^(32-n)%4294967296<4294967296:=Nat.mod_lt _ (by decide);have:=u32_or_nat (x.toNat*2^(32-n)%4294967296) (x.toNat/2^n) h3 h2;rw[show(((x.toNat*2^(32-n)%4294967296:Nat)):Int)=((x.toNat*2^(32-n):Nat):Int)%4294967296 by omega]at this;rw[this];congr 1
 rw[BitVec.rotateRight_def,BitVec.toNat_or,BitVec.toNat_ushiftRight,BitVec.toNat_shiftLeft,Nat.shiftRight_eq_div_pow,Nat.shiftLeft_eq,Nat.mod_eq_of_lt h1,Nat.or_comm]
theorem aDV(x:BitVec 32)(n:Nat)(h0:0<n)(h1:n<32)(w:World):
  Calls prog 421 #[wV x,.int .i64 ((32-n:Nat):Int)] w fun e w'=>e=.returned (wV (x.rotateRight n))/\w=w':=by
 have hv:=hid (aHB x n h0 h1);have hb:bits BinOp.and IntKind.u64 ((32-n:Nat):Int) 31=((32-n:Nat):Int):=by
  have:=u64_and_nat (32-n) 31 (by omega) (by decide);rw[show((31:Nat):Int)=31 from rfl]at this;rw[this,show 31=2^5-1 from rfl,Nat.and_two_pow_sub_one_eq_mod,Nat.mod_eq_of_lt (by omega)]
 have HM:Hid (n=32-(32-n)):=hid (by omega);have hm0:0<32-n:=by omega
 have hm1:32-n<32:=by omega
 have HE:Hid ((x.toNat/2^n:Nat)=x.toNat/2^(32-(32-n))):=hid (by rw[<-HM.out]);generalize x.rotateRight n=R at hv ⊢;generalize 32-n=m at*
 clear h0 h1;go_enter func421,ntmps421;go_wp2_with fail;go_ret;refine⟨nz ?_,rfl⟩;rw[<-hv.out,HE.out];push_cast
 rfl
theorem aFc(x:BitVec 32)(n:Nat)(h0:0<n)(h1:n<32)(w:World):
  Calls prog 412 #[wV x,.int .i64 (n:Int)] w fun e w'=>e=.returned (wV (x.rotateRight n))/\w=w':=by
 have hc:=hid (aDV x n h0 h1 w);have hm:(32:Int)-(n:Int)=((32-n:Nat):Int):=by omega
 rw[<-hm]at hc;clear hm;go_enter func412,ntmps412;go_wp2_with fail;refine hc.out.mono ?_;rintro e w'⟨rfl,rfl⟩;go_wp2_with fail;go_ret;exact⟨rfl,rfl⟩
theorem jd(x:BitVec 32)(n:Nat)(h0:0<n)(h1:n<32)(w:World):
  Calls prog 412 #[wV x,.int .i64 (n:Int)] w fun e w'=>e=.returned (wV (x.rotateRight n))/\w'=w:=(aFc x n h0 h1 w).mono fun _ _ h=>⟨h.1,h.2.symm⟩
theorem aDJ(x:BitVec 32)(a b n:Nat)(a0:0<a)(a1:a<32)(b0:0<b)(b1:b<32)(n1:n<=32)(w:World):
  Calls prog 411 #[wV x,.int .i64 (a:Int),.int .i64 (b:Int),.int .i64 (n:Int)] w fun e w'=>e=.returned (wV (cG x a b n))/\∃k,w'=w.drewN k:=by
 have ha:=hid (fun w=>jd x a a0 a1 w);have hb:=hid (fun w=>jd x b b0 b1 w);have hv:bits BinOp.xor IntKind.u32 (bits BinOp.xor IntKind.u32 ((x.rotateRight a).toNat:Int) ((x.rotateRight b).toNat:Int)) ((x.toNat:Int)/2^n)=((cG x a b n).toNat:Int):=by
  have h:=aNs x n;push_cast at h
  rw[h,lZ,lZ];rfl
 have HV:=hid hv;clear hv a0 a1 b0 b1;generalize x.rotateRight a=ra at*
 generalize x.rotateRight b=rb at*
 generalize cG x a b n=S at*
 go_enter func411,ntmps411;go_wp2_with fail;go_quiet (first|(go_at_call_of 412 (Value.int .i64 (a:Int));exact Calls.quiet_of_same (ha.out _))|(go_at_call 412;exact Calls.quiet_of_same (hb.out _)))
 go_wp2_with fail;go_ret;exact⟨nz HV.out,_,rfl⟩
theorem aEI(v:oz)(w:World):
  Calls prog 377 #[.agg #[wV v.a,wV v.b,wV v.c,wV v.d,wV v.e,wV v.f,wV v.g,wV v.h]] w fun e w'=>e=.returned (wV v.upper)/\Below w.heap.size w w':=by
 obtain⟨a,b,c,d,e,f,g,h⟩:=v;simp only;have hv:bits BinOp.or IntKind.u32 (bits BinOp.and IntKind.u32 (bits BinOp.or IntKind.u32 (a.toNat:Int) (b.toNat:Int)) (c.toNat:Int)) (bits BinOp.and IntKind.u32 (a.toNat:Int) (b.toNat:Int))=((((a|||b)&&&c)|||(a&&&b)).toNat:Int):=by
  rw[aMw,aF6,aF6,aMw]
 have hv2:=fU (((a.rotateRight 9^^^a).rotateRight 11^^^a).rotateRight 2) (((a|||b)&&&c)|||(a&&&b));have hx1:=lZ (a.rotateRight 9) a;have hx2:=lZ ((a.rotateRight 9^^^a).rotateRight 11) a;have q1:=hid (fun w=>jd a 9 (by omega) (by omega) w);have q2:=hid (fun w=>jd (a.rotateRight 9^^^a) 11 (by omega) (by omega) w);have q3:=hid (fun w=>jd ((a.rotateRight 9^^^a).rotateRight 11^^^a) 2 (by omega) (by omega) w);have HU:Hid ((oz.mk a b c d e f g h).upper=(((a.rotateRight 9^^^a).rotateRight 11^^^a).rotateRight 2)+(((a|||b)&&&c)|||(a&&&b))):=hid rfl;generalize (oz.mk a b c d e f g h).upper=U at*
 generalize (((a|||b)&&&c)|||(a&&&b))=T at*
 generalize ((a.rotateRight 9^^^a).rotateRight 11^^^a).rotateRight 2=R3 at*
 generalize ((a.rotateRight 9^^^a).rotateRight 11^^^a)=X2 at*
 generalize (a.rotateRight 9^^^a).rotateRight 11=R2 at*
 generalize (a.rotateRight 9^^^a)=X1 at*
 generalize a.rotateRight 9=R1 at*
 have GX:=hid hv2;clear hv2;go_enter func377,ntmps377;go_wp2_with fail;go_quiet (first|(go_at_call_of 412 (Value.int .i64 9);exact Calls.quiet_of_same (q1.out _))|(go_at_call_of 412 (Value.int .i64 11);exact Calls.quiet_of_same (q2.out _))|(go_at_call 412;exact Calls.quiet_of_same (q3.out _)))
 go_wp2_with fail;go_ret;refine⟨nz ?_,bW ((Below.refl _ _).alloc (Nat.le_refl _) _) nq⟩;rw[HU.out];exact GX.out
theorem aF3(v:oz)(w:World):
  Calls prog 378 #[.agg #[wV v.a,wV v.b,wV v.c,wV v.d,wV v.e,wV v.f,wV v.g,wV v.h]] w fun e w'=>e=.returned (wV v.lower)/\Below w.heap.size w w':=by
 obtain⟨a,b,c,d,e,f,g,h⟩:=v;simp only;have hv:bits BinOp.xor IntKind.u32 (bits BinOp.and IntKind.u32 (bits BinOp.xor IntKind.u32 (f.toNat:Int) (g.toNat:Int)) (e.toNat:Int)) (g.toNat:Int)=((((f^^^g)&&&e)^^^g).toNat:Int):=by
  rw[lZ,aF6,lZ]
 have hv2:=fU (h+(((e.rotateRight 14^^^e).rotateRight 5^^^e).rotateRight 6)) (((f^^^g)&&&e)^^^g);rw[<-fU h]at hv2;have hx1:=lZ (e.rotateRight 14) e;have hx2:=lZ ((e.rotateRight 14^^^e).rotateRight 5) e;have q1:=hid (fun w=>jd e 14 (by omega) (by omega) w);have q2:=hid (fun w=>jd (e.rotateRight 14^^^e) 5 (by omega) (by omega) w);have q3:=hid (fun w=>jd ((e.rotateRight 14^^^e).rotateRight 5^^^e) 6 (by omega) (by omega) w);have HU:Hid ((oz.mk a b c d e f g h).lower=h+(((e.rotateRight 14^^^e).rotateRight 5^^^e).rotateRight 6)+(((f^^^g)&&&e)^^^g)):=hid rfl;generalize (oz.mk a b c d e f g h).lower=U at*
 generalize (((f^^^g)&&&e)^^^g)=T at*
 generalize ((e.rotateRight 14^^^e).rotateRight 5^^^e).rotateRight 6=R3 at*
 generalize ((e.rotateRight 14^^^e).rotateRight 5^^^e)=X2 at*
 generalize (e.rotateRight 14^^^e).rotateRight 5=R2 at*
 generalize (e.rotateRight 14^^^e)=X1 at*
 generalize e.rotateRight 14=R1 at*
 have GX:=hid hv2;clear hv2;go_enter func378,ntmps378;go_wp2_with fail;go_quiet (first|(go_at_call_of 412 (Value.int .i64 14);exact Calls.quiet_of_same (q1.out _))|(go_at_call_of 412 (Value.int .i64 5);exact Calls.quiet_of_same (q2.out _))|(go_at_call 412;exact Calls.quiet_of_same (q3.out _)))
 go_wp2_with fail;go_ret;refine⟨nz ?_,bW ((Below.refl _ _).alloc (Nat.le_refl _) _) nq⟩;rw[HU.out];exact GX.out
theorem aLW{w:World}{b:Nat}{T:TypeId}{cs:List Value}(h:ak w b T cs)(hl:cs.length=8)(v0 v1 v2 v3 v4 v5 v6 v7:Value):
  ∃w':World,((((((((w.setCell (tZ b 0) v0).setCell (tZ b 1) v1).setCell (tZ b 2) v2).setCell (tZ b 3) v3).setCell (tZ b 4) v4).setCell (tZ b 5) v5).setCell (tZ b 6) v6).setCell (tZ b 7) v7)=w'/\Below b w w'/\ak w' b T [v0,v1,v2,v3,v4,v5,v6,v7]:=by
 refine⟨_,rfl,(((((((((Below.refl _ _).setCell (p:=⟨b,0,none⟩) (Nat.le_refl _) _).setCell (p:=⟨b,1,none⟩) (Nat.le_refl _) _).setCell (p:=⟨b,2,none⟩) (Nat.le_refl _) _).setCell (p:=⟨b,3,none⟩) (Nat.le_refl _) _).setCell (p:=⟨b,4,none⟩) (Nat.le_refl _) _).setCell (p:=⟨b,5,none⟩) (Nat.le_refl _) _).setCell (p:=⟨b,6,none⟩) (Nat.le_refl _) _).setCell (p:=⟨b,7,none⟩) (Nat.le_refl _) _),?_⟩;have:=((((((((h.uh 0 v0).uh 1 v1).uh 2 v2).uh 3 v3).uh 4 v4).uh 5 v5).uh 6 v6).uh 7 v7);match cs,hl with
 |[_,_,_,_,_,_,_,_],_=>exact this
abbrev rP(v:oz):Value:=.agg #[wV v.a,wV v.b,wV v.c,wV v.d,wV v.e,wV v.f,wV v.g,wV v.h]
theorem aEM(v:oz)(x:BitVec 32)(w:World):
  Calls prog 376 #[rP v,wV x,.func (Fn.func 377) #[] #[],.func (Fn.func 378) #[] #[]] w fun e w'=>e=.returned (rP (v.round x))/\Below w.heap.size w w':=by
 have ql:=hid (fun w=>aF3 v w);have qu:=hid (fun w=>aEI v w);have H1:=hid (fU v.lower x);have H2:=hid (fU (v.lower+x) v.upper);have H3:=hid (fU v.d (v.lower+x));have HR:Hid (v.round x=⟨v.lower+x+v.upper,v.a,v.b,v.c,v.d+(v.lower+x),v.e,v.f,v.g⟩):=hid rfl;generalize v.round x=R at*
 generalize v.lower=L at*
 generalize v.upper=U at*
 obtain⟨a,b,c,d,e,f,g,h⟩:=v;simp only[rP]at*
 generalize d+(L+x)=D at*
 generalize L+x+U=Z at*
 generalize L+x=Y at*
 go_enter func376,ntmps376;go_wp2_with fail;obtain⟨w2,hw2,zh,hb2,vK,vz⟩:∃w2:World,(w.alloc (.cells #[wV a,wV b,wV c,wV d,wV e,wV f,wV g,wV h] 368)).alloc (.cells #[.int .u32 0,.int .u32 0,.int .u32 0,.int .u32 0,.int .u32 0,.int .u32 0,.int .u32 0,.int .u32 0] 368)=w2/\w2.heap.size=w.heap.size+1+1/\Below w.heap.size w w2/\
   ak w2 w.heap.size 368 [wV a,wV b,wV c,wV d,wV e,wV f,wV g,wV h]/\ak w2 (w.heap.size+1) 368 [.int .u32 0,.int .u32 0,.int .u32 0,.int .u32 0,.int .u32 0,.int .u32 0,.int .u32 0,.int .u32 0]:=by
  refine⟨_,rfl,by simp,((Below.refl _ _).alloc (Nat.le_refl _) _).alloc (by simp) _,(ak.new w _ [wV a,wV b,wV c,wV d,wV e,wV f,wV g,wV h]).alloc _,?_⟩;have:=ak.new (w.alloc (.cells #[wV a,wV b,wV c,wV d,wV e,wV f,wV g,wV h] 368)) 368 [.int .u32 0,.int .u32 0,.int .u32 0,.int .u32 0,.int .u32 0,.int .u32 0,.int .u32 0,.int .u32 0];simpa using this
 rw[hw2];clear hw2;generalize hr:w.heap.size=r at*
 refine(ql.out _).mono ?_;rintro e3 w3⟨rfl,hb3⟩;replace vK:=vK.belowS hb3;replace vz:=vz.belowS hb3;have GU:=hb2.trans (hb3.mono (by omega));have hS4:=hb3.size;clear hb3 hb2;obtain⟨c0,c1,c2,c3,c4,c5,c6,c7⟩:_/\_/\_/\_/\_/\_/\_/\_:=⟨vK.cellAt (i:=0) rfl,vK.cellAt (i:=1) rfl,vK.cellAt (i:=2) rfl,vK.cellAt (i:=3) rfl,vK.cellAt (i:=4) rfl,vK.cellAt (i:=5) rfl,vK.cellAt (i:=6) rfl,vK.cellAt (i:=7) rfl⟩;obtain⟨f0,f1,f2,f3,f4,f5,f6,f7⟩:_/\_/\_/\_/\_/\_/\_/\_:=⟨vz.frozen 0,vz.frozen 1,vz.frozen 2,vz.frozen 3,vz.frozen 4,vz.frozen 5,vz.frozen 6,vz.frozen 7⟩;obtain⟨d0,d1,d2,d3,d4,d5,d6,d7⟩:_/\_/\_/\_/\_/\_/\_/\_:=⟨vz.cellAt (i:=0) rfl,vz.cellAt (i:=1) rfl,vz.cellAt (i:=2) rfl,vz.cellAt (i:=3) rfl,vz.cellAt (i:=4) rfl,vz.cellAt (i:=5) rfl,vz.cellAt (i:=6) rfl,vz.cellAt (i:=7) rfl⟩;have h1':=H1.out;have h3':=H3.out;have h2':=H2.out;have aSG:=vz.lt;have H4:=hid vK;have H8:=hid vz;have HW:=hid GU;have HREQ:=hid hr;clear vK vz GU hr;have hne:r≠r+1:=by omega
 have DI:r+1≠r:=by omega
 go_wp2_with fail;go_region_held3 (fun w'=>w'.cell? (tZ r 0)=some (wV a)/\w'.cell? (tZ r 1)=some (wV b)/\w'.cell? (tZ r 2)=some (wV c)/\w'.cell? (tZ r 3)=some (wV d)/\w'.cell? (tZ r 4)=some (wV e)/\w'.cell? (tZ r 5)=some (wV f)/\w'.cell? (tZ r 6)=some (wV g)/\w'.cell? (tZ r 7)=some (wV h)/\w'.frozen? (tZ (r+1) 0)=false/\w'.frozen? (tZ (r+1) 1)=false/\w'.frozen? (tZ (r+1) 2)=false/\w'.frozen? (tZ (r+1) 3)=false/\w'.frozen? (tZ (r+1) 4)=false/\w'.frozen? (tZ (r+1) 5)=false/\w'.frozen? (tZ (r+1) 6)=false/\w'.frozen? (tZ (r+1) 7)=false) (go_keep)
  ((go_at_call 377;refine(qu.out _).mono ?_;rintro e5 w5 ⟨rfl,vP⟩;have uP:Below w3.heap.size w3 w5:=⟨vP.os,vP.tape,vP.output,vP.size,vP.block⟩;clear vP;have Bv:=H8.out.belowS uP;have h45:=H4.out.belowS uP;obtain⟨x0,x1,x2,x3,x4,x5,x6,x7⟩:_/\_/\_/\_/\_/\_/\_/\_:=⟨Bv.cellAt (i:=0) rfl,Bv.cellAt (i:=1) rfl,Bv.cellAt (i:=2) rfl,Bv.cellAt (i:=3) rfl,Bv.cellAt (i:=4) rfl,Bv.cellAt (i:=5) rfl,Bv.cellAt (i:=6) rfl,Bv.cellAt (i:=7) rfl⟩;obtain⟨y0,y1,y2,y3,y4,y5,y6,y7⟩:_/\_/\_/\_/\_/\_/\_/\_:=⟨Bv.frozen 0,Bv.frozen 1,Bv.frozen 2,Bv.frozen 3,Bv.frozen 4,Bv.frozen 5,Bv.frozen 6,Bv.frozen 7⟩;obtain⟨z0,z1,z2,z3,z4,z5,z6,z7⟩:_/\_/\_/\_/\_/\_/\_/\_:=⟨h45.cellAt (i:=0) rfl,h45.cellAt (i:=1) rfl,h45.cellAt (i:=2) rfl,h45.cellAt (i:=3) rfl,h45.cellAt (i:=4) rfl,h45.cellAt (i:=5) rfl,h45.cellAt (i:=6) rfl,h45.cellAt (i:=7) rfl⟩))
 obtain⟨w6,vU,uS,uQ⟩:=aLW Bv rfl (wV Z) (wV a) (wV b) (wV c) (wV D) (wV e) (wV f) (wV g);have k2:IntKind.u32.wrap ((Y.toNat:Int)+(U.toNat:Int))=(Z.toNat:Int):=by rw[<-h2'];rfl
 have k3:IntKind.u32.wrap ((d.toNat:Int)+(Y.toNat:Int))=(D.toNat:Int):=by rw[<-h3'];rfl
 rw[k2,k3,vU];clear k2 k3;have hB6:=(HW.out.trans (uP.mono (by omega))).trans (uS.mono (Nat.le_succ _));have CN:=hid uQ;have hR:=HR.out;subst hR;clear vU uQ Bv h45 x0 x1 x2 x3 x4 x5 x6 x7 y0 y1 y2 y3 y4 y5 y6 y7 z0 z1 z2 z3 z4 z5 z6 z7 d0 d1 d2 d3 d4 d5 d6 d7 f0 f1 f2 f3 f4 f5 f6 f7 c0 c1 c2 c3 c4 c5 c6 c7 h1' h2' h3' uP uS;go_wp2_with fail;obtain⟨r0,r1,r2,r3,r4,r5,r6,r7⟩:_/\_/\_/\_/\_/\_/\_/\_:=⟨CN.out.cellAt (i:=0) rfl,CN.out.cellAt (i:=1) rfl,CN.out.cellAt (i:=2) rfl,CN.out.cellAt (i:=3) rfl,CN.out.cellAt (i:=4) rfl,CN.out.cellAt (i:=5) rfl,CN.out.cellAt (i:=6) rfl,CN.out.cellAt (i:=7) rfl⟩;refine bodyPost_ret (v:=rP ⟨Z,a,b,c,D,e,f,g⟩) (by simp[results,results376,go_sem];simp[r0,r1,r2,r3,r4,r5,r6,r7]) rfl ?_;exact⟨rfl,by rw[HREQ.out];exact hB6⟩
theorem fJ(p:List UInt8):∀n,(eH p n).length=n
 |0=>rfl
 |n+1=>by simp[eH,fJ p n]
def mX(p:List UInt8)(k:Nat):List (BitVec 32):=eH p k++List.replicate (64-k) 0#32
theorem aLY(p:List UInt8)(k:Nat)(h:k<=64):(mX p k).length=64:=by simp[mX,fJ];omega
theorem aBC(p:List UInt8)(k i:Nat)(h:i<k):(mX p k)[i]? =some ((eH p k).getD i 0):=by
 have hl:i<(eH p k).length:=by rw[fJ];exact h
 unfold mX;rw[List.getElem?_append_left hl,List.getD_eq_getElem?_getD,List.getElem?_eq_getElem hl];rfl
theorem aFQ(p:List UInt8)(k:Nat)(h:k<64):(mX p k)[k]? =some 0#32:=by
 unfold mX;rw[List.getElem?_append_right (by rw[fJ];omega),fJ,Nat.sub_self,List.getElem?_replicate,if_pos (by omega)]
theorem aG6(p:List UInt8)(k:Nat)(h:k<64):(mX p k).set k (rC p (eH p k))=mX p (k+1):=by
 unfold mX;rw[List.set_append_right _ _ (by rw[fJ];omega),fJ,Nat.sub_self];obtain⟨m,hm⟩:∃m,64-k=m+1:=⟨63-k,by omega⟩;rw[hm,show 64-(k+1)=m by omega,List.replicate_succ,List.set_cons_zero];show _=(eH p k++[rC p (eH p k)])++_
 simp
theorem aLf(p:List UInt8):mX p 64=eH p 64:=by simp[mX]
def mr(p:List UInt8)(k:Nat):List UInt8:=(p.drop (4*k)).take 4
theorem aCK(p:List UInt8)(k:Nat)(hp:p.length=64)(h:k<16):(mr p k).length=4:=by simp[mr];omega
theorem aLQ(p:List UInt8)(k j:Nat)(hp:p.length=64)(h:k<16)(hj:j<4):(mr p k)[j]? =p[4*k+j]? :=by
 simp[mr,hj]
theorem aH0(l:List UInt8)(c:UInt8):kV (l++[c])=kV l*256#32+BitVec.ofNat 32 c.toNat:=by simp[kV]
theorem aJJ(x:BitVec 32)(c:UInt8):((x.toNat:Int)*256%4294967296+(c.toNat:Int))%4294967296=((x*256#32+BitVec.ofNat 32 c.toNat).toNat:Int):=by
 have hc:=c.toNat_lt;rw[BitVec.toNat_add,BitVec.toNat_mul];simp only[BitVec.toNat_ofNat];omega
theorem aJj(p:List UInt8)(k:Nat)(h:k<16):rC p (eH p k)=kV (mr p k):=by
 unfold rC;simp only[fJ,if_pos h];rfl
theorem aHI(p:List UInt8)(k:Nat)(h:16<=k):rC p (eH p k)=cG ((eH p k).getD (k-2) 0) 17 19 10+cG ((eH p k).getD (k-15) 0) 7 18 3+(eH p k).getD (k-7) 0+(eH p k).getD (k-16) 0:=by
 unfold rC;simp only[fJ,if_neg (show ¬k<16 by omega)]
theorem aKk(p:List UInt8)(k:Nat)(hk2:k<64):(mX p k).set k (kV ((mr p k).take 0))=mX p k:=by
 apply List.ext_getElem
 ·simp
 ·intro i h1 h2;rw[List.getElem_set];split
  ·rename_i h;subst h
   have:=aFQ p k hk2;rw[List.getElem?_eq_getElem (by simpa using h1)]at this;injection this with this
   rw[this];simp[kV]
  ·rfl
def kY(n:Nat):Nat:=(56+64-n%64)%64
theorem aHm(n:Nat):kY n<64:=by unfold kY;omega
theorem aG3(n:Nat):(n+kY n)%64=56:=by unfold kY;omega
theorem aFI(s:mO)(k:Nat)(h:s.n%64≠56):s.pad (k+1)=(s.put 0).pad k:=by
 show(if s.n%64=56 then s else(s.put 0).pad k)=_
 rw[if_neg h]
theorem aGg(s:mO)(k:Nat)(h:s.n%64=56):s.pad (k+1)=s:=by
 show(if s.n%64=56 then s else(s.put 0).pad k)=_
 rw[if_pos h]
theorem aK2(n:Nat):(lN n).length=8:=by simp[lN]
theorem aEi(n j:Nat)(h:j<8):(lN n)[j]? =some (UInt8.ofNat (n*8/2^(56-8*j))):=by simp[lN,h]
def oz.list(v:oz):List (BitVec 32):=[v.a,v.b,v.c,v.d,v.e,v.f,v.g,v.h]
def rV(v:oz):List UInt8:=oM v.a++oM v.b++oM v.c++oM v.d++oM v.e++oM v.f++oM v.g++oM v.h
theorem aOw(s:mO):s.sum=rV (((s.put 0x80).pad 64).write (lN s.n)).v:=rfl
theorem aDy(v:oz):(rV v).length=32:=rfl
theorem aLw(v:oz)(i k:Nat)(hi:i<8)(hk:k<4):(rV v)[4*i+k]? =some (UInt8.ofNat ((v.list.getD i 0).toNat/2^(24-8*k))):=by
 have:i=0\/i=1\/i=2\/i=3\/i=4\/i=5\/i=6\/i=7:=by omega
 have h2:k=0\/k=1\/k=2\/k=3:=by omega
 rcases this with rfl|rfl|rfl|rfl|rfl|rfl|rfl|rfl<;>rcases h2 with rfl|rfl|rfl|rfl<;>rfl
def qc(l:List UInt8)(j:Nat):List UInt8:=l.take j++List.replicate (32-j) 0
theorem aMI(l:List UInt8)(j:Nat)(hl:l.length=32)(h:j<=32):(qc l j).length=32:=by simp[qc,hl];omega
theorem aKI(l:List UInt8)(hl:l.length=32):qc l 32=l:=by simp[qc,<-hl]
theorem aJR(l:List UInt8):qc l 0=List.replicate 32 0:=by simp[qc]
theorem aKT(l:List UInt8)(j:Nat)(x:UInt8)(hl:l.length=32)(h:j<32)(hx:l[j]? =some x):(qc l j).set j x=qc l (j+1):=by
 unfold qc;have h1:(l.take j).length=j:=by rw[List.length_take];omega
 rw[List.set_append_right _ _ (by omega),h1,Nat.sub_self];obtain⟨m,hm⟩:∃m,32-j=m+1:=⟨31-j,by omega⟩;rw[hm,show 32-(j+1)=m by omega,List.replicate_succ,List.set_cons_zero,List.take_add_one,hx];simp
theorem aDS(s:mO)(l:List UInt8)(c:UInt8):s.write (l++[c])=(s.write l).put c:=by rw[aAC];rfl
end Go.Proofs.YtfjkpigldogkeaaGreatDoor
