/- Contracts of functions that TopQuiet reaches, under the conditions that each states. -/
import Derived.Test.YtfjkpigldogkeaaGreatDoorQaa
import Derived.Deep.RegionHeld3
import Derived.Deep.RegionLaw
import Derived.IntWalk
set_option linter.all false
set_option maxHeartbeats 2000000
namespace Go.Proofs.YtfjkpigldogkeaaGreatDoor
open Go.RowKit Go.ChangeShapes Go.WideShapes Go.ChangeAt Go.Proofs.Tryz
def dK(p:gW):List Value:=[iV p.mem,iV p.fuel,iV p.uw]
def iP(x:ik):List Value:=[iV x.part,iV x.at_,iV x.long]
def fQ(x:aB):List Value:=[iV x.src,iV x.dst,iV x.depth]
theorem nV(n a b:Int)(w:World):
  Calls prog 144 #[iV n,iV a,iV b] w fun e w'=>e=.returned (.bool (mG n a b))/\w=w':=by
 by_cases h1:a<=n
 ·by_cases h2:n<=b
  ·have h:mG n a b=true:=by simp[mG,h1,h2]
   rw[h];clear h;go_enter func144,ntmps144;go_wp2_with fail;go_ret;exact⟨rfl,rfl⟩
  ·have h:mG n a b=false:=by simp[mG,h2]
   rw[h];clear h;go_enter func144,ntmps144;go_wp2_with fail;go_ret;exact⟨rfl,rfl⟩
 ·have h:mG n a b=false:=by simp[mG,h1]
  have h3:decide (a<=n)=false:=by simp;omega
  rw[h];clear h;go_enter func144,ntmps144;go_wp2_with fail;go_ret;exact⟨rfl,rfl⟩
theorem aNT(p:gW)(w:World):
  Calls prog 146 #[.agg #[iV p.mem,iV p.fuel,iV p.uw]] w fun e w'=>e=.returned (.bool (jP p))/\Below w.heap.size w w':=by
 obtain⟨m,f,h⟩:=p;simp only;have HB:Hid (jP ⟨m,f,h⟩=(!(mG m 1 16)|| !(mG f 1 32)|| !(mG h 0 65535))):=rfl;have hb:Below w.heap.size w (w.alloc (.cells #[iV m,iV f,iV h] 164)):=(Below.refl _ _).alloc (Nat.le_refl _) _;have i1:=hid (fun w=>nV m 1 16 w);have i2:=hid (fun w=>nV f 1 32 w);have i3:=hid (fun w=>nV h 0 65535 w);generalize mG m 1 16=b1 at HB i1;generalize mG f 1 32=b2 at HB i2;generalize mG h 0 65535=b3 at HB i3;generalize jP ⟨m,f,h⟩=r at HB ⊢;have hr:=HB.out;clear HB;cases b1<;>cases b2<;>simp only[Bool.not_false,Bool.not_true,Bool.true_or,Bool.or_true,Bool.false_or,Bool.or_false]at hr<;>subst hr
 all_goals
  go_enter func146,ntmps146;go_wp2_with (first|(go_at_call_of 144 (Value.int IntKind.i64 16);refine(i1.out _).mono ?_;rintro e w' ⟨rfl,rfl⟩)|(go_at_call_of 144 (Value.int IntKind.i64 32);refine(i2.out _).mono ?_;rintro e w' ⟨rfl,rfl⟩)|(go_at_call_of 144 (Value.int IntKind.i64 65535);refine(i3.out _).mono ?_;rintro e w' ⟨rfl,rfl⟩))
  go_ret;exact⟨rfl,hb⟩
theorem aDF(A:Option Addr)(n c:Nat)(l:List gW)(w:World)(h:lh w w.heap.size 3 A n dK l)(hn:n<=100000):
  Calls prog 219 #[.slice A n c,.func (Fn.func 146) #[] #[]] w fun e w'=>e=.returned (iV (lW jP l))/\Below w.heap.size w w':=by
 go_enter func219,ntmps219;go_wp2_with fail;go_loopw [4,5,8] (fun _ _ v8 wr=>∃k:Nat,k<=n/\v8=iV (k:Int)/\Hid (∀x∈l.take k,jP x=false)/\Below w.heap.size w wr) (fun _ _ v8 _=>n-(intOf v8).toNat)
 case atStart=>exact⟨0,by omega,rfl,by refine hid ?_;simp,Below.refl _ _⟩
 case round=>
  obtain⟨k,hk,rfl,HK,ui⟩:=hrel;by_cases hkn:k<n
  ·obtain⟨ad,x,rfl,had,hx,hc0,hc⟩:=(h.belowS ui).at_ hkn;have c0:=hc0 _ rfl;have c1:=hc 0 _ rfl;have c2:=hc 1 _ rfl;have HX:=hid hx;have hbad:=hid (aNT x wr);clear hc hc0 hx;by_cases hb:jP x=true
   ·have hfi:=hid (aFh jP l k x HX.out hb HK.out);rw[hb]at hbad;clear hb;go_wp2_with fail;refine hbad.out.mono ?_;rintro e w2⟨rfl,hb2⟩;go_wp2_with fail;go_ret;exact⟨by rw[hfi.out];rfl,ag ui hb2⟩
   ·have hb':jP x=false:=by simpa using hb
    rw[hb']at hbad;have HS:=hid (Ls jP l k x HX.out hb' HK.out);clear hb hb';go_wp2_with fail;refine hbad.out.mono ?_;rintro e w2⟨rfl,hb2⟩;go_wp2_with fail;go_roundw;case rel=>exact⟨k+1,by omega,by go_num,HS,ag ui hb2⟩
    case measure=>simp[intOf];omega
  ·obtain rfl:k=n:=by omega
   have hfi:=hid (aBT jP l (fun x hx=>HK.out x (by rw[List.take_of_length_le (by rw[h.len];exact Nat.le_refl _)];exact hx)));go_wp2_with fail;go_ret;exact⟨by rw[hfi.out];rfl,ui⟩
theorem aBR(A:Option Addr)(n c:Nat)(l:List gW)(w:World)(h:lh w w.heap.size 3 A n dK l)(hn:n<=100000):
  Calls prog 145 #[.slice A n c,.func (Fn.func 146) #[] #[]] w fun e w'=>e=.returned (.bool (l.any jP))/\Below w.heap.size w w':=by
 have hi:=hid (aDF A n c l w h hn);have hd:=hid (aCn jP l);generalize lW jP l=i at hi hd;generalize l.any jP=r at hd ⊢;go_enter func145,ntmps145;go_wp2_with fail;refine hi.out.mono ?_;rintro e w1⟨rfl,hb⟩;go_wp2_with fail;go_ret;exact⟨cZ hd.out,hb⟩
/-! ### A table by value: its five cells; where its three lists lie. -/
structure bM where
 A1:Option Addr
 c1:Nat
 A2:Option Addr
 c2:Nat
 A3:Option Addr
 c3:Nat
def bI(t:aG)(a:bM):List Value:=[iV t.frame,.slice a.A1 t.parts.length a.c1,.slice a.A2 t.wins.length a.c2,.slice a.A3 t.chans.length a.c3,iV t.trial]
def Jz(w:World)(t:aG)(a:bM):Prop:=
 lh w w.heap.size 3 a.A1 t.parts.length dK t.parts/\lh w w.heap.size 3 a.A2 t.wins.length iP t.wins/\lh w w.heap.size 3 a.A3 t.chans.length fQ t.chans
theorem Jz.belowS{w w':World}{t:aG}{a:bM}(h:Jz w t a)(hb:Below w.heap.size w w'):Jz w' t a:=⟨h.1.belowS hb,h.2.1.belowS hb,h.2.2.belowS hb⟩
theorem aEB(t:aG)(a:bM)(p:Int)(w:World)(hn:t.parts.length<=100000):
  Calls prog 150 #[.agg #[iV t.frame,.slice a.A1 t.parts.length a.c1,.slice a.A2 t.wins.length a.c2,.slice a.A3 t.chans.length a.c3,iV t.trial],iV p] w fun e w'=>e=.returned (.bool (gG t p))/\Below w.heap.size w w':=by
 obtain⟨frame,parts,wins,chans,trial⟩:=t;obtain⟨A1,c1,A2,c2,A3,c3⟩:=a;simp only at hn ⊢;have hi:=hid (fun w=>nV p 0 ((parts.length:Int)-1) w);unfold gG;simp only;generalize mG p 0 ((parts.length:Int)-1)=r at hi ⊢;generalize parts.length=n1 at hn hi ⊢;generalize wins.length=n2;generalize chans.length=n3;have hb:Below w.heap.size w (w.alloc (.cells #[iV frame,.slice A1 n1 c1,.slice A2 n2 c2,.slice A3 n3 c3,iV trial] 26)):=(Below.refl _ _).alloc (Nat.le_refl _) _;go_enter func150,ntmps150;go_wp2_with fail;refine(hi.out _).mono ?_;rintro e w1⟨rfl,rfl⟩;go_wp2_with fail;go_ret;exact⟨rfl,hb⟩
theorem bi{w:World}{g:Nat}{t:aG}{a:bM}(h:ak w g 26 (bI t a)):
  w.cell? (tZ g 0)=some (iV t.frame)/\w.cell? (tZ g 1)=some (.slice a.A1 t.parts.length a.c1)/\w.cell? (tZ g 2)=some (.slice a.A2 t.wins.length a.c2)/\w.cell? (tZ g 3)=some (.slice a.A3 t.chans.length a.c3)/\w.cell? (tZ g 4)=some (iV t.trial):=
 (by and_intros<;>exact h.cellAt rfl)
theorem aHa(t:aG)(a:bM)(c:aB)(g:Nat)(w:World)(hblk:ak w g 26 (bI t a))(hn:t.parts.length<=100000):
  Calls prog 149 #[.agg #[iV c.src,iV c.dst,iV c.depth],.pointer (some (tZ g 0))] w fun e w'=>e=.returned (.bool (df t c))/\Below w.heap.size w w':=by
 obtain⟨src,dst,depth⟩:=c;simp only;have HB:Hid (df t ⟨src,dst,depth⟩=(!(gG t src)|| !(gG t dst)||(src==dst)|| !(mG depth 0 4))):=rfl;have i1:=hid (fun w=>aEB t a src w hn);have i2:=hid (fun w=>aEB t a dst w hn);have i3:=hid (fun w=>nV depth 0 4 w);generalize gG t src=b1 at HB i1;generalize gG t dst=b2 at HB i2;generalize mG depth 0 4=b3 at HB i3;generalize df t ⟨src,dst,depth⟩=r at HB ⊢;have hb0:Below w.heap.size w (w.alloc (.cells #[iV src,iV dst,iV depth] 75)):=(Below.refl _ _).alloc (Nat.le_refl _) _;have ub:=hblk.alloc (.cells #[iV src,iV dst,iV depth] 75);obtain⟨c0,c1,c2,c3,c4⟩:=bi ub;have hsrc:ak (w.alloc (.cells #[iV src,iV dst,iV depth] 75)) w.heap.size 75 [iV src,iV dst,iV depth]:=ak.new w _ _;have hr:=HB.out;clear HB;cases b1
 ·simp only[Bool.not_false,Bool.true_or]at hr;subst hr;clear hsrc ub hblk;go_enter func149,ntmps149;go_wp2_with fail;refine(i1.out _).mono ?_;rintro e w1⟨rfl,hb1⟩;go_wp2_with fail;go_ret;exact⟨rfl,ag hb0 hb1⟩
 ·simp only[Bool.not_true,Bool.false_or]at hr;go_enter func149,ntmps149;go_wp2_with fail;refine(i1.out _).mono ?_;rintro e w1⟨rfl,hb1⟩;have BA:=hsrc.belowS hb1;have uo:=ub.belowS hb1;have s0:=BA.cellAt (i:=0) rfl;have s1:=BA.cellAt (i:=1) rfl;have s2:=BA.cellAt (i:=2) rfl;clear c0 c1 c2 c3 c4;obtain⟨c0,c1,c2,c3,c4⟩:=bi uo;cases b2
  ·simp only[Bool.not_false,Bool.true_or]at hr;subst hr;clear hsrc ub hblk BA uo;go_wp2_with fail;refine(i2.out _).mono ?_;rintro e w2⟨rfl,hb2⟩;go_wp2_with fail;go_ret;exact⟨rfl,ag (ag hb0 hb1) hb2⟩
  ·simp only[Bool.not_true,Bool.false_or]at hr;have HR:=hid hr;clear hr;go_wp2_with fail;refine(i2.out _).mono ?_;rintro e w2⟨rfl,hb2⟩;have zu:=BA.belowS hb2;clear s0 s1 s2 c0 c1 c2 c3 c4;have s0:=zu.cellAt (i:=0) rfl;have s1:=zu.cellAt (i:=1) rfl;have s2:=zu.cellAt (i:=2) rfl;by_cases hsd:src=dst
   ·have hrt:r=true:=by rw[HR.out];simp[hsd]
    subst hrt hsd;go_wp2_with fail;go_ret;exact⟨rfl,ag (ag hb0 hb1) hb2⟩
   ·have hsdb:(src==dst)=false:=by simpa using hsd
    have hrt:r= !b3:=by rw[HR.out,hsdb];rfl
    subst hrt;clear hsd;go_wp2_with fail;refine(i3.out _).mono ?_;rintro e w3⟨rfl,rfl⟩;go_wp2_with fail;go_ret;exact⟨rfl,ag (ag hb0 hb1) hb2⟩
theorem aDM(A:Option Addr)(n c:Nat)(l:List aB)(t:aG)(a:bM)(g:Nat)(w:World)(h:lh w w.heap.size 3 A n fQ l)(hn:n<=100000)(hblk:ak w g 26 (bI t a))(BB:t.parts.length<=100000):
  Calls prog 220 #[.slice A n c,.func (Fn.func 149) #[] #[.pointer (some (tZ g 0))]] w fun e w'=>e=.returned (iV (lW (df t) l))/\Below w.heap.size w w':=by
 go_enter func220,ntmps220;go_wp2_with fail;go_loopw [4,5,8] (fun _ _ v8 wr=>∃k:Nat,k<=n/\v8=iV (k:Int)/\Hid (∀x∈l.take k,(df t) x=false)/\Below w.heap.size w wr) (fun _ _ v8 _=>n-(intOf v8).toNat)
 case atStart=>exact⟨0,by omega,rfl,by refine hid ?_;simp,Below.refl _ _⟩
 case round=>
  obtain⟨k,hk,rfl,HK,ui⟩:=hrel;by_cases hkn:k<n
  ·obtain⟨ad,x,rfl,had,hx,hc0,hc⟩:=(h.belowS ui).at_ hkn;have c0:=hc0 _ rfl;have c1:=hc 0 _ rfl;have c2:=hc 1 _ rfl;have HX:=hid hx;have hbad:=hid (aHa t a x g wr (hblk.belowS ui) BB);clear hc hc0 hx;by_cases hb:(df t) x=true
   ·have hfi:=hid (aFh (df t) l k x HX.out hb HK.out);rw[hb]at hbad;clear hb;go_wp2_with fail;refine hbad.out.mono ?_;rintro e w2⟨rfl,hb2⟩;go_wp2_with fail;go_ret;exact⟨by rw[hfi.out];rfl,ag ui hb2⟩
   ·have hb':(df t) x=false:=by simpa using hb
    rw[hb']at hbad;have HS:=hid (Ls (df t) l k x HX.out hb' HK.out);clear hb hb';go_wp2_with fail;refine hbad.out.mono ?_;rintro e w2⟨rfl,hb2⟩;go_wp2_with fail;go_roundw;case rel=>exact⟨k+1,by omega,by go_num,HS,ag ui hb2⟩
    case measure=>simp[intOf];omega
  ·obtain rfl:k=n:=by omega
   have hfi:=hid (aBT (df t) l (fun x hx=>HK.out x (by rw[List.take_of_length_le (by rw[h.len];exact Nat.le_refl _)];exact hx)));go_wp2_with fail;go_ret;exact⟨by rw[hfi.out];rfl,ui⟩
theorem aBM(A:Option Addr)(n c:Nat)(l:List aB)(t:aG)(a:bM)(g:Nat)(w:World)(h:lh w w.heap.size 3 A n fQ l)(hn:n<=100000)(hblk:ak w g 26 (bI t a))(BB:t.parts.length<=100000):
  Calls prog 148 #[.slice A n c,.func (Fn.func 149) #[] #[.pointer (some (tZ g 0))]] w fun e w'=>e=.returned (.bool (l.any (df t)))/\Below w.heap.size w w':=by
 have hi:=hid (aDM A n c l t a g w h hn hblk BB);have hd:=hid (aCn (df t) l);generalize lW (df t) l=i at hi hd;generalize l.any (df t)=r at hd ⊢;go_enter func148,ntmps148;go_wp2_with fail;refine hi.out.mono ?_;rintro e w1⟨rfl,hb⟩;go_wp2_with fail;go_ret;exact⟨cZ hd.out,hb⟩
theorem aGt(t:aG)(a:bM)(w:World)(BV:t.parts.length<=100000)(BB:t.wins.length<=100000)(h:lh w w.heap.size 3 a.A2 t.wins.length iP t.wins)(FN: -9223372036854775808<=t.frame)(hf2:t.frame<=9223372036854775807):
  Calls prog 147 #[.agg #[iV t.frame,.slice a.A1 t.parts.length a.c1,.slice a.A2 t.wins.length a.c2,.slice a.A3 t.chans.length a.c3,iV t.trial]] w fun e w'=>e=.returned (.bool (mQ t))/\Below w.heap.size w w':=by
 obtain⟨A1,k1,A2,k2,A3,k3⟩:=a;simp only at h ⊢;have hb0:Below w.heap.size w (w.alloc (.cells (bI t ⟨A1,k1,A2,k2,A3,k3⟩).toArray 26)):=(Below.refl _ _).alloc (Nat.le_refl _) _;have hblk:ak (w.alloc (.cells (bI t ⟨A1,k1,A2,k2,A3,k3⟩).toArray 26)) w.heap.size 26 (bI t ⟨A1,k1,A2,k2,A3,k3⟩):=ak.new w _ _;go_enter func147,ntmps147;go_wp2_with fail;go_loopw [3,4,10] (fun v3 v4 v10 wr=>∃(k:Nat) (E:Int) (Ba:Bool),k<=t.wins.length/\v10=iV (k:Int)/\v3=iV E/\v4=.bool Ba/\0<=E/\E<=9223372036854775807/\Hid (eu t 0 t.wins=eu t E (t.wins.drop k))/\Hid (jg t.wins=(Ba||jg (t.wins.drop k)))/\Below w.heap.size w wr/\ak wr w.heap.size 26 (bI t ⟨A1,k1,A2,k2,A3,k3⟩)) (fun _ _ v10 _=>t.wins.length-(intOf v10).toNat)
 case atStart=>exact⟨0,0,false,by omega,rfl,rfl,rfl,by omega,by omega,rfl,by refine hid ?_;simp,hb0,hblk⟩
 case round=>
  clear hblk hb0;obtain⟨k,E,Ba,hk,rfl,rfl,rfl,Lu,hE2,HW,HC,ui,hblk⟩:=hrel;obtain⟨q0,q1,q2,q3,q4⟩:=bi hblk;by_cases hkn:k<t.wins.length
  ·obtain⟨ad,x,rfl,had,hx,hc0,hc⟩:=(h.belowS ui).at_ hkn;have c0:=hc0 _ rfl;have c1:=hc 0 _ rfl;have c2:=hc 1 _ rfl;clear hc hc0;obtain⟨p,f,lg⟩:=x;simp only at c0 c1 c2;have JA:t.wins.drop k=⟨p,f,lg⟩::t.wins.drop (k+1):=by
    obtain⟨hlt,hv⟩:=List.getElem?_eq_some_iff.1 hx;rw[List.drop_eq_getElem_cons hlt,hv]
   have Ce:Hid (kQ t E ⟨p,f,lg⟩=(!(gG t p)||decide (f<E)||decide (t.frame<f)||decide (lg<1)||decide (t.frame-f<lg))):=rfl;have Hg:Hid (eu t 0 t.wins=(!(kQ t E ⟨p,f,lg⟩)&&eu t (f+lg) (t.wins.drop (k+1)))):=by
    refine hid ?_;rw[HW.out,JA];rfl
   have Hh:Hid (jg t.wins=((Ba||p==0)||jg (t.wins.drop (k+1)))):=by
    refine hid ?_;rw[HC.out,JA];unfold jg;rw[List.any_cons,Bool.or_assoc]
   have i1:=hid (fun w=>aEB t ⟨A1,k1,some ad,k2,A3,k3⟩ p w BV);simp only at i1;generalize gG t p=b1 at Ce i1;have hno:kQ t E ⟨p,f,lg⟩=true->mQ t=false:=fun h=>by unfold mQ;rw[Hg.out,h];rfl
   have LC:=hid hno;clear hno JA hx HW HC;have ub:=hblk.alloc (.cells #[iV p,iV f,iV lg] 89);have hsrc:ak (wr.alloc (.cells #[iV p,iV f,iV lg] 89)) wr.heap.size 89 [iV p,iV f,iV lg]:=ak.new wr _ _;have aRq:=aC ui (.cells #[iV p,iV f,iV lg] 89);clear q0 q1 q2 q3 q4;obtain⟨q0,q1,q2,q3,q4⟩:=bi ub;go_wp2_with fail;refine(i1.out _).mono ?_;rintro e w1⟨rfl,hb1⟩;have uo:=ub.belowS hb1;have zu:=hsrc.belowS hb1;have zx:=ag aRq hb1;clear q0 q1 q2 q3 q4 hblk ub hsrc aRq ui hb1 c0 c1 c2;obtain⟨q0,q1,q2,q3,q4⟩:=bi uo;have s0:=zu.cellAt (i:=0) rfl;have s1:=zu.cellAt (i:=1) rfl;have s2:=zu.cellAt (i:=2) rfl;cases b1
   ·have hw:=LC.out (by rw[Ce.out];rfl);have Gp:=hid hw;clear hw;go_wp2_with fail;go_ret;exact⟨by rw[Gp.out];rfl,zx⟩
   ·by_cases d1:f<E
    ·have Gp:=hid (LC.out (by rw[Ce.out];simp[d1]));go_wp2_with fail;go_ret;exact⟨by rw[Gp.out];rfl,zx⟩
    ·have e1:decide (f<E)=false:=by simp;omega
     by_cases d2:t.frame<f
     ·have Gp:=hid (LC.out (by rw[Ce.out];simp[d2]));go_wp2_with fail;go_ret;exact⟨by rw[Gp.out];rfl,zx⟩
     ·have e2:decide (t.frame<f)=false:=by simp;omega
      by_cases d3:lg<1
      ·have Gp:=hid (LC.out (by rw[Ce.out];simp[d3]));go_wp2_with fail;go_ret;exact⟨by rw[Gp.out];rfl,zx⟩
      ·have e3:decide (lg<1)=false:=by simp;omega
       by_cases d4:t.frame-f<lg
       ·have Gp:=hid (LC.out (by rw[Ce.out];simp[d4]));go_wp2_with fail;go_ret;exact⟨by rw[Gp.out];rfl,zx⟩
       ·have e4:decide (t.frame-f<lg)=false:=by simp;omega
        have HOk:Hid (eu t 0 t.wins=eu t (f+lg) (t.wins.drop (k+1))):=by
         refine hid ?_;rw[Hg.out,Ce.out,e1,e2,e3,e4];rfl
        cases Ba
        ·have HC3:Hid (jg t.wins=((p==0)||jg (t.wins.drop (k+1)))):=by refine hid ?_;rw[Hh.out];simp
         go_wp2_with fail;go_roundw;case rel=>exact⟨k+1,f+lg,(p==0),by omega,by go_num,rfl,rfl,by omega,by omega,HOk,HC3,zx,uo⟩
         case measure=>simp[intOf];omega
        ·have HC3:Hid (jg t.wins=(true||jg (t.wins.drop (k+1)))):=by refine hid ?_;rw[Hh.out];simp
         go_wp2_with fail;go_roundw;case rel=>exact⟨k+1,f+lg,true,by omega,by go_num,rfl,rfl,by omega,by omega,HOk,HC3,zx,uo⟩
         case measure=>simp[intOf];omega
  ·obtain rfl:k=t.wins.length:=by omega
   have HE:Hid (mQ t=(Ba&&decide (t.wins.length<=8))):=by
    refine hid ?_;unfold mQ;rw[HW.out,HC.out,List.drop_length];simp[eu,jg]
   cases Ba
   ·have D6:Hid (mQ t=false):=by refine hid ?_;rw[HE.out];rfl
    go_wp2_with fail;go_ret;exact⟨by rw[D6.out];rfl,ui⟩
   ·by_cases h8:t.wins.length<=8
    ·have D6:Hid (mQ t=true):=by refine hid ?_;rw[HE.out];simp[h8]
     go_wp2_with fail;go_ret;exact⟨by rw[D6.out];simp;omega,ui⟩
    ·have D6:Hid (mQ t=false):=by refine hid ?_;rw[HE.out];simp[h8]
     go_wp2_with fail;go_ret;exact⟨by rw[D6.out];simp;omega,ui⟩
structure dM (w:World) (t:aG) (a:bM):Prop where
 zn:Jz w t a
 n1:t.parts.length<=100000
 n2:t.wins.length<=100000
 n3:t.chans.length<=100000
 f1: -9223372036854775808<=t.frame
 f2:t.frame<=9223372036854775807
theorem dM.belowS{w w':World}{t:aG}{a:bM}(h:dM w t a)(hb:Below w.heap.size w w'):dM w' t a:=⟨h.zn.belowS hb,h.n1,h.n2,h.n3,h.f1,h.f2⟩
theorem jq(t:aG)(a:bM)(w:World)(h:dM w t a):
  Calls prog 73 #[.agg #[iV t.frame,.slice a.A1 t.parts.length a.c1,.slice a.A2 t.wins.length a.c2,.slice a.A3 t.chans.length a.c3,iV t.trial]] w fun e w'=>e=.returned (.bool (aS t))/\Below w.heap.size w w':=by
 have HB:Hid (aS t=(mG t.frame 1 64&&mG t.trial 1 7&&mG (t.parts.length:Int) 2 4&& !(t.parts.any jP)&&mQ t&&decide (t.chans.length<=4)&& !(t.chans.any (df t)))):=rfl;have hb0:Below w.heap.size w (w.alloc (.cells (bI t a).toArray 26)):=(Below.refl _ _).alloc (Nat.le_refl _) _;have uJ:ak (w.alloc (.cells (bI t a).toArray 26)) w.heap.size 26 (bI t a):=ak.new w _ _;have h1:=h.belowS hb0;have i1:=hid (fun w=>nV t.frame 1 64 w);have i2:=hid (fun w=>nV t.trial 1 7 w);have i3:=hid (fun w=>nV (t.parts.length:Int) 2 4 w);have i4:=hid (fun w (h:dM w t a)=>aBR a.A1 t.parts.length a.c1 t.parts w h.zn.1 h.n1);have i5:=hid (fun w (h:dM w t a)=>aGt t a w h.n1 h.n2 h.zn.2.1 h.f1 h.f2);have i7:=hid (fun w (h:dM w t a) (g:Nat) (hblk:ak w g 26 (bI t a))=>aBM a.A3 t.chans.length a.c3 t.chans t a g w h.zn.2.2 h.n3 hblk h.n1);have LD:=h.n3;generalize aS t=r at HB ⊢;generalize mG t.frame 1 64=b1 at HB i1;generalize mG t.trial 1 7=b2 at HB i2;generalize mG (t.parts.length:Int) 2 4=b3 at HB i3;generalize t.parts.any jP=b4 at HB i4;generalize mQ t=b5 at HB i5;generalize t.chans.any (df t)=b7 at HB i7;obtain⟨c0,c1,c2,c3,c4⟩:=bi uJ;have hr:=HB.out;clear HB;cases b1
 ·simp only[Bool.false_and]at hr;subst hr;clear uJ;go_enter func73,ntmps73;go_wp2_with fail;refine(i1.out _).mono ?_;rintro e w'⟨rfl,rfl⟩;go_wp2_with fail;go_ret;exact⟨rfl,hb0⟩
 ·cases b2
  ·simp only[Bool.false_and,Bool.and_false]at hr;subst hr;go_enter func73,ntmps73;go_wp2_with fail;refine(i1.out _).mono ?_;rintro e w'⟨rfl,rfl⟩;go_wp2_with fail;refine(i2.out _).mono ?_;rintro e w'⟨rfl,rfl⟩;go_wp2_with fail;go_ret;exact⟨rfl,hb0⟩
  ·go_enter func73,ntmps73;go_wp2_with fail;refine(i1.out _).mono ?_;rintro e w'⟨rfl,rfl⟩;go_wp2_with fail;refine(i2.out _).mono ?_;rintro e w'⟨rfl,rfl⟩;go_wp2_with fail;refine(i3.out _).mono ?_;rintro e w'⟨rfl,rfl⟩;cases b3
   ·simp only[Bool.false_and,Bool.and_false]at hr;subst hr;go_wp2_with fail;go_ret;exact⟨rfl,hb0⟩
   ·simp only[Bool.true_and]at hr;have HR:=hid hr;clear hr;go_wp2_with fail;refine(i4.out _ h1).mono ?_;rintro e w2⟨rfl,hb2⟩;have uo:=uJ.belowS hb2;have h2:=h1.belowS hb2;have wB:=ag hb0 hb2;clear c0 c1 c2 c3 c4;obtain⟨c0,c1,c2,c3,c4⟩:=bi uo;cases b4
    ·have Dn:Hid (r=(b5&&decide (t.chans.length<=4)&& !b7)):=by refine hid ?_;rw[HR.out];simp
     go_wp2_with fail;refine(i5.out _ h2).mono ?_;rintro e w3⟨rfl,hb3⟩;have uO:=uo.belowS hb3;have h3:=h2.belowS hb3;have vp:=ag wB hb3;clear c0 c1 c2 c3 c4;obtain⟨c0,c1,c2,c3,c4⟩:=bi uO;cases b5
     ·have hf:r=false:=by rw[Dn.out];rfl
      subst hf;go_wp2_with fail;go_ret;exact⟨rfl,vp⟩
     ·by_cases FO:t.chans.length<=4
      ·have hf:r= !b7:=by rw[Dn.out];simp[FO]
       have hd:decide (4<(t.chans.length:Int))=false:=by simp;omega
       subst hf;go_wp2_with fail;refine(i7.out _ h3 _ uO).mono ?_;rintro e w4⟨rfl,hb4⟩;go_wp2_with fail;go_ret;exact⟨rfl,ag vp hb4⟩
      ·have hf:r=false:=by rw[Dn.out];simp[FO]
       have hd:decide (4<(t.chans.length:Int))=true:=by simp;omega
       subst hf;go_wp2_with fail;go_ret;exact⟨rfl,vp⟩
    ·have hf:r=false:=by rw[HR.out];simp
     subst hf;go_wp2_with fail;go_ret;exact⟨rfl,wB⟩
section
variable{α:Type}{w:World}{B n:Nat}{A:Option Addr}{cells:α->List Value}{l:List α}
theorem aDs(h3:∀x,(cells x).length=3):∀(l:List α)(k j:Nat)(x:α),l[k]? =some x->j<3->(l.flatMap cells)[k*3+j]? =(cells x)[j]?
 |[],k,j,x,h,_=>by simp at h
 |y::l,0,j,x,h,hj=>by
  simp at h;subst h;rw[List.flatMap_cons,List.getElem?_append_left (by rw[h3];omega)];congr 1
  omega
 |y::l,k+1,j,x,h,hj=>by
  rw[List.flatMap_cons,List.getElem?_append_right (by rw[h3];omega),h3,show(k+1)*3+j-3=k*3+j by omega];exact aDs h3 l k j x (by simpa using h) hj
theorem aBk(h3:∀x,(cells x).length=3):∀l:List α,(l.flatMap cells).length=l.length*3
 |[]=>rfl
 |y::l=>by rw[List.flatMap_cons,List.length_append,h3,aBk h3 l,List.length_cons];omega
theorem lh.reads(h:lh w B 3 A n cells l)(h3:∀x,(cells x).length=3):ai w B 3 A n (l.flatMap cells):=by
 refine⟨by rw[aBk h3,h.1],fun hn=>?_⟩;have hl:=h.1;obtain⟨ad,e,hb,_⟩:=h.2 0 l[0] (List.getElem?_eq_getElem (by omega));refine⟨ad,e,hb,fun j u hu=>?_⟩;have hj:=(List.getElem?_eq_some_iff.1 hu).1;rw[aBk h3]at hj;have hk:j/3<l.length:=by omega
 have hx:=List.getElem?_eq_getElem hk;obtain⟨ad',e',_,hc⟩:=h.2 (j/3) _ hx;rw[e]at e';injection e' with e'
 subst e';have h1:=aDs h3 l (j/3) (j%3) _ hx (by omega);rw[show j/3*3+j%3=j by omega,hu]at h1;have h2:=hc (j%3) u h1.symm;rwa[show j/3*3+j%3=j by omega]at h2
theorem ai.Es(h:ai w B 3 A n (l.flatMap cells))(h3:∀x,(cells x).length=3):lh w B 3 A n cells l:=by
 have hl:l.length=n:=by have:=h.1;rw[aBk h3]at this;omega
 refine⟨hl,fun k x hx=>?_⟩;have hk:=(List.getElem?_eq_some_iff.1 hx).1;obtain⟨ad,e,hb,hc⟩:=h.2 (by omega);refine⟨ad,e,hb,fun j u hu=>hc _ u ?_⟩;rw[aDs h3 l k j x hx (by have:=(List.getElem?_eq_some_iff.1 hu).1;rw[h3]at this;omega),hu]
end
structure aO where
 part:Int
 ver:Int
 uw:Int
 mem:Int
 fuel:Int
 sends:Int
 uj:Int
 code:List UInt8
def eC(n a b:Int):Bool:=decide (a<=n)&&decide (n<=b)
def sZ(i:aO):List Bool:=[eC i.part 0 3,eC i.ver 1 65535,eC i.uw 0 65535,eC i.mem 1 16,eC i.fuel 1 32,eC i.sends 0 15,eC i.uj 0 15,eC (i.code.length:Int) 1 96]
def uu(i:aO):Bool:=(sZ i).all id
theorem aLX(i:aO):(sZ i).length=8:=rfl
theorem aGk(n a b:Int):eC n a b=true↔a<=n/\n<=b:=by simp[eC]
def eU(i:aO):Prop:=(0<=i.part/\i.part<=3)/\(1<=i.ver/\i.ver<=65535)/\(0<=i.uw/\i.uw<=65535)/\(1<=i.mem/\i.mem<=16)/\(1<=i.fuel/\i.fuel<=32)/\(0<=i.sends/\i.sends<=15)/\(0<=i.uj/\i.uj<=15)/\(1<=(i.code.length:Int)/\(i.code.length:Int)<=96)
theorem eQ(i:aO):uu i=true↔eU i:=by
 simp[uu,sZ,eU,aGk]
theorem aJ2{l:List Bool}{k:Nat}(h:l[k]? =some false):l.all id=false:=by
 rw[List.all_eq_false];exact⟨false,List.mem_of_getElem? h,by simp⟩
theorem aM1{l:List Bool}(h:∀j,j<l.length->l[j]? =some true):l.all id=true:=by
 rw[List.all_eq_true];intro x hx;obtain⟨j,hj,e⟩:=List.mem_iff_getElem.1 hx;have:=h j hj;rw[List.getElem?_eq_getElem hj,e]at this;injection this
abbrev eM(i:aO)(A:Option Addr)(c:Nat):Value:=.agg #[iV i.part,iV i.ver,iV i.uw,iV i.mem,iV i.fuel,iV i.sends,iV i.uj,.slice A i.code.length c]
theorem aHb(n a b:Int)(w:World):
  Calls prog 173 #[iV n,iV a,iV b] w fun e w'=>e=.returned (.bool (eC n a b))/\w=w':=by
 have HW:Hid (eC n a b=(decide (a<=n)&&decide (n<=b))):=hid rfl;generalize eC n a b=R at*
 by_cases h:a<=n
 ·have h1:decide (a<=n)=true:=by simpa using h
  go_enter func173,ntmps173;go_wp2_with fail;go_ret;exact⟨cZ (by rw[HW.out,h1];rfl),rfl⟩
 ·have h1:decide (a<=n)=false:=by simpa using h
  go_enter func173,ntmps173;go_wp2_with fail;go_ret;exact⟨cZ (by rw[HW.out,h1];rfl),rfl⟩
theorem LU(i:aO)(A:Option Addr)(c:Nat)(w:World)(hl:i.code.length<=9223372036854775807):
  Calls prog 112 #[eM i A c] w fun e w'=>e=.returned (.bool (uu i))/\Below w.heap.size w w':=by
 have HR:Hid (uu i=(sZ i).all id):=hid rfl;have hlen:=aLX i;obtain⟨L,hL⟩:∃L,sZ i=L:=⟨_,rfl⟩;have HA:Hid (sZ i=L):=hid hL;rw[hL]at HR hlen;clear hL;generalize uu i=R at*
 obtain⟨pt,vr,hd,mm,fl,sd,rc,code⟩:=i;simp only[sZ]at HA;simp only at hl;obtain⟨n,hn⟩:∃n,code.length=n:=⟨_,rfl⟩;simp only[eM];rw[hn]at HA hl ⊢;clear hn;go_enter func112,ntmps112;go_wp2_with fail;obtain⟨w1,hw1,hb1,hsz1,hblk⟩:∃w1:World,w.alloc (.cells #[iV pt,iV vr,iV hd,iV mm,iV fl,iV sd,iV rc,.slice A n c] 39)=w1/\Below w.heap.size w w1/\w1.heap.size=w.heap.size+1/\ak w1 w.heap.size 39 [iV pt,iV vr,iV hd,iV mm,iV fl,iV sd,iV rc,.slice A n c]:=
  ⟨_,rfl,(Below.refl _ _).alloc (Nat.le_refl _) _,by simp,ak.new w _ [iV pt,iV vr,iV hd,iV mm,iV fl,iV sd,iV rc,.slice A n c]⟩
 rw[hw1];obtain⟨c0,c1,c2,c3,c4,c5,c6,c7⟩:_/\_/\_/\_/\_/\_/\_/\_:=⟨hblk.cellAt (i:=0) rfl,hblk.cellAt (i:=1) rfl,hblk.cellAt (i:=2) rfl,hblk.cellAt (i:=3) rfl,hblk.cellAt (i:=4) rfl,hblk.cellAt (i:=5) rfl,hblk.cellAt (i:=6) rfl,hblk.cellAt (i:=7) rfl⟩;have HB:=hid hblk;have vw:=hid hb1;have Gy:=hid hsz1;clear hw1 hblk hb1 hsz1;go_region_held3 (fun w'=>w'.cell? (tZ w.heap.size 0)=some (iV pt)/\w'.cell? (tZ w.heap.size 1)=some (iV vr)/\w'.cell? (tZ w.heap.size 2)=some (iV hd)/\w'.cell? (tZ w.heap.size 3)=some (iV mm)/\w'.cell? (tZ w.heap.size 4)=some (iV fl)/\w'.cell? (tZ w.heap.size 5)=some (iV sd)/\w'.cell? (tZ w.heap.size 6)=some (iV rc)/\w'.cell? (tZ w.heap.size 7)=some (.slice A n c)) (go_keep)
  ((go_at_call 173;refine(aHb _ _ _ _).mono ?_;rintro e wz ⟨rfl,rfl⟩))
 obtain⟨w2,hw2,hb2,uo⟩:∃w2:World,(w1.alloc (.cells #[.bool (eC pt 0 3),.bool (eC vr 1 65535),.bool (eC hd 0 65535),.bool (eC mm 1 16),.bool (eC fl 1 32),.bool (eC sd 0 15),.bool (eC rc 0 15),.bool (eC (n:Int) 1 96)] 4)).drew=w2/\Below w.heap.size w w2/\ak w2 w1.heap.size 4 (L.map Value.bool):=
  ⟨_,rfl,(aC vw.out _).drew,by rw[<-HA.out];exact(ak.new w1 _ _).drew⟩
 first|rw[hw2]|skip
 clear hw2 c0 c1 c2 c3 c4 c5 c6 c7;have H2:=hid uo;clear uo;go_wp2_with fail;go_loop [32] (fun v32=>∃k:Nat,k<=8/\v32=iV (k:Int)/\Hid (∀j,j<k->L[j]? =some true)) (fun v32=>8-(intOf v32).toNat)
 case atStart=>exact⟨0,by omega,rfl,hid (fun j hj=>absurd hj (by omega))⟩
 case round=>
  obtain⟨k,hk,rfl,HK⟩:=hrel;by_cases hk8:k<8
  ·obtain⟨b,hb⟩:∃b,L[k]? =some b:=⟨_,List.getElem?_eq_getElem (by omega)⟩;have hcell:w2.cell? (tZ w1.heap.size k)=some (.bool b):=H2.out.cellAt (by rw[List.getElem?_map,hb];rfl);have HB':=hid hb;clear hb;cases b with
   |true=>
    go_wp2_with fail;go_round;case rel=>exact⟨k+1,by omega,by go_num,hid (fun j hj=>by
     rcases Nat.lt_or_ge j k with h|h
     ·exact HK.out j h
     ·rw[show j=k by omega];exact HB'.out)⟩
    case measure=>simp[intOf];omega
   |false=>
    go_wp2_with fail;go_ret;exact⟨cZ (by rw[HR.out];exact(aJ2 HB'.out).symm),hb2⟩
  ·obtain rfl:k=8:=by omega
   go_wp2_with fail;go_ret;exact⟨cZ (by rw[HR.out];exact(aM1 (fun j hj=>HK.out j (by omega))).symm),hb2⟩
def kM:List Bool->Nat
 |[]=>0
 |b::l=>b.toNat+2*kM l
theorem aDu(b:Bool):∀l:List Bool,kM (l++[b])=kM l+b.toNat*2^l.length
 |[]=>by simp[kM]
 |x::l=>by
  simp only[List.cons_append,kM,aDu b l,List.length_cons,Nat.pow_succ];rw[Nat.mul_add,<-Nat.mul_assoc,Nat.mul_comm 2 (b.toNat),Nat.mul_assoc,Nat.mul_comm 2 (2^l.length),Nat.add_assoc]
theorem aFH:∀l:List Bool,kM l<2^l.length
 |[]=>by simp[kM]
 |x::l=>by
  have:=aFH l;simp only[kM,List.length_cons,Nat.pow_succ];have:x.toNat<=1:=Bool.toNat_le x;omega
theorem aEq:∀(l:List Bool)(k:Nat),kM l/2^k%2=(l.getD k false).toNat
 |[],k=>by simp[kM]
 |x::l,0=>by
  simp only[kM,Nat.pow_zero,Nat.div_one,List.getD_cons_zero];have:x.toNat<=1:=Bool.toNat_le x;omega
 |x::l,k+1=>by
  simp only[kM,List.getD_cons_succ,Nat.pow_succ];rw[<-aEq l k,Nat.mul_comm (2^k) 2,<-Nat.div_div_eq_div_mul];have:x.toNat<=1:=Bool.toNat_le x;rw[show(x.toNat+2*kM l)/2=kM l by omega]
def qi(f:aB->Int)(p:Int)(l:List aB):List Bool:=l.map fun c=>f c==p
def jL(f:aB->Int)(p:Int)(l:List aB):Nat:=kM (qi f p l)
theorem aD5(f:aB->Int)(p:Int)(l:List aB)(c:aB):jL f p (l++[c])=jL f p l+(f c==p).toNat*2^l.length:=by
 unfold jL qi;rw[List.map_append,List.map_singleton,aDu,List.length_map]
theorem aMt(f:aB->Int)(p:Int)(l:List aB):jL f p l<2^l.length:=by
 have:=aFH (qi f p l);unfold jL;rwa[show(qi f p l).length=l.length by simp[qi]]at this
theorem aH9(f:aB->Int)(p:Int)(l:List aB)(h:l.length<=4):jL f p l<16:=by
 have h1:=aMt f p l;have h2:2^l.length<=2^4:=Nat.pow_le_pow_right (by omega) h;omega
def fV(f:aB->Int)(t:aG)(p:Int):Nat:=if aS t&&gG t p then jL f p t.chans else 0
theorem aEo(f:aB->Int)(t:aG)(p:Int):fV f t p<16:=by
 unfold fV;split
 ·rename_i h
  rw[Bool.and_eq_true]at h;exact aH9 f p _ ((bK t).1 h.1).c4
 ·omega
def jM(n k:Nat):Bool:=n/2^k%2==1
theorem aAz(f:aB->Int)(t:aG)(p:Int)(k:Nat)(h:aS t=true)(hp:gG t p=true):jM (fV f t p) k=(t.chans[k]?.map fun c=>f c==p).getD false:=by
 unfold fV jM jL;rw[h,hp];simp only[Bool.and_self,if_true];rw[aEq,List.getD_eq_getElem?_getD];unfold qi;rw[List.getElem?_map];cases(t.chans[k]?.map fun c=>f c==p).getD false<;>rfl
def sG(a b:Nat):Bool:=(!jM a 0||jM b 0)&&(!jM a 1||jM b 1)&&(!jM a 2||jM b 2)&&(!jM a 3||jM b 3)
def pO(t:aG)(q:gW)(p:Int)(i:aO):Bool:=(i.part==p)&&(i.uw==q.uw)
def mY(q:gW)(i:aO):Bool:=decide (i.mem<=q.mem)&&decide (i.fuel<=q.fuel)
def jU(t:aG)(p:Int)(i:aO):Bool:=sG i.sends.toNat (fV aB.src t p)&&sG i.uj.toNat (fV aB.dst t p)
def fA(t:aG)(p:Int):gW:=t.parts.getD p.toNat ⟨0,0,0⟩
def fG(t:aG)(p:Int)(i:aO)(v:Int):Int:=
 if aS t=false then 9 else if gG t p=false\/uu i=false then 3 else if pO t (fA t p) p i=false then 12
 else if mY (fA t p) i=false then 14 else if jU t p i=false then 15 else if decide (v<i.ver)=false then 13 else 0
theorem aEH(l:List aB):∀u∈l.flatMap fQ,u.oneCell'=true:=by
 intro u hu;obtain⟨x,_,hx⟩:=List.mem_flatMap.1 hu;simp only[fQ,List.mem_cons,List.not_mem_nil,or_false]at hx;rcases hx with rfl|rfl|rfl<;>rfl
theorem aGB(l:List ik):∀u∈l.flatMap iP,u.oneCell'=true:=by
 intro u hu;obtain⟨x,_,hx⟩:=List.mem_flatMap.1 hu;simp only[iP,List.mem_cons,List.not_mem_nil,or_false]at hx;rcases hx with rfl|rfl|rfl<;>rfl
theorem aE8:(prog.info? 75).map (fun i=>(i.zero,i.size,i.bytes))=some (some (.agg #[iV 0,iV 0,iV 0]),3,24):=by kernel_rfl
theorem aFW:(prog.info? 89).map (fun i=>(i.zero,i.size,i.bytes))=some (some (.agg #[iV 0,iV 0,iV 0]),3,24):=by kernel_rfl
theorem aFR(x:ik)(pos:Int)(g:Nat)(w:World)(hblk:ak w g 3 [iV pos])(hs: -9223372036854775808<=x.at_+x.long/\x.at_+x.long<=9223372036854775807):
  Calls prog 271 #[.agg #[iV x.part,iV x.at_,iV x.long],.pointer (some (tZ g 0))] w fun e w'=>e=.returned (.bool (kE pos x))/\Below w.heap.size w w':=by
 obtain⟨p,f,lg⟩:=x;simp only at hs ⊢;have HB:Hid (kE pos ⟨p,f,lg⟩=(decide (f<=pos)&&decide (pos<f+lg))):=rfl;have hb0:Below w.heap.size w (w.alloc (.cells #[iV p,iV f,iV lg] 89)):=(Below.refl _ _).alloc (Nat.le_refl _) _;have c0:=(hblk.alloc (.cells #[iV p,iV f,iV lg] 89)).cellAt (i:=0) rfl;by_cases h1:f<=pos
 ·have uz:Hid (kE pos ⟨p,f,lg⟩=decide (pos<f+lg)):=by refine hid ?_;rw[HB.out];simp[h1]
  go_enter func271,ntmps271;go_wp2_with fail;go_ret;exact⟨by rw[uz.out];rfl,hb0⟩
 ·have uz:Hid (kE pos ⟨p,f,lg⟩=false):=by refine hid ?_;rw[HB.out];simp[h1]
  have hd:decide (f<=pos)=false:=by simp;omega
  go_enter func271,ntmps271;go_wp2_with fail;go_ret;exact⟨by rw[uz.out];rfl,hb0⟩
theorem aF8(A:Option Addr)(n c:Nat)(l:List ik)(pos:Int)(g:Nat)(w:World)(h:lh w w.heap.size 3 A n iP l)(hn:n<=100000)(hblk:ak w g 3 [iV pos])(hall:∀x∈l,-9223372036854775808<=x.at_+x.long/\x.at_+x.long<=9223372036854775807):
  Calls prog 270 #[.slice A n c,.func (Fn.func 271) #[] #[.pointer (some (tZ g 0))]] w fun e w'=>e=.returned (iV (lW (kE pos) l))/\Below w.heap.size w w':=by
 go_enter func270,ntmps270;go_wp2_with fail;go_loopw [4,5,8] (fun _ _ v8 wr=>∃k:Nat,k<=n/\v8=iV (k:Int)/\Hid (∀x∈l.take k,(kE pos) x=false)/\Below w.heap.size w wr) (fun _ _ v8 _=>n-(intOf v8).toNat)
 case atStart=>exact⟨0,by omega,rfl,by refine hid ?_;simp,Below.refl _ _⟩
 case round=>
  obtain⟨k,hk,rfl,HK,ui⟩:=hrel;by_cases hkn:k<n
  ·obtain⟨ad,x,rfl,had,hx,hc0,hc⟩:=(h.belowS ui).at_ hkn;have c0:=hc0 _ rfl;have c1:=hc 0 _ rfl;have c2:=hc 1 _ rfl;have HX:=hid hx;have hbad:=hid (aFR x pos g wr (hblk.belowS ui) (hall x (List.mem_of_getElem? hx)));clear hc hc0 hx;by_cases hb:(kE pos) x=true
   ·have hfi:=hid (aFh (kE pos) l k x HX.out hb HK.out);rw[hb]at hbad;clear hb;go_wp2_with fail;refine hbad.out.mono ?_;rintro e w2⟨rfl,hb2⟩;go_wp2_with fail;go_ret;exact⟨by rw[hfi.out];rfl,ag ui hb2⟩
   ·have hb':(kE pos) x=false:=by simpa using hb
    rw[hb']at hbad;have HS:=hid (Ls (kE pos) l k x HX.out hb' HK.out);clear hb hb';go_wp2_with fail;refine hbad.out.mono ?_;rintro e w2⟨rfl,hb2⟩;go_wp2_with fail;go_roundw;case rel=>exact⟨k+1,by omega,by go_num,HS,ag ui hb2⟩
    case measure=>simp[intOf];omega
  ·obtain rfl:k=n:=by omega
   have hfi:=hid (aBT (kE pos) l (fun x hx=>HK.out x (by rw[List.take_of_length_le (by rw[h.len];exact Nat.le_refl _)];exact hx)));go_wp2_with fail;go_ret;exact⟨by rw[hfi.out];rfl,ui⟩
theorem aGG(t:aG)(a:bM)(pos:Int)(w:World)(h:dM w t a):
  Calls prog 199 #[.agg #[iV t.frame,.slice a.A1 t.parts.length a.c1,.slice a.A2 t.wins.length a.c2,.slice a.A3 t.chans.length a.c3,iV t.trial],iV pos] w fun e w'=>e=.returned (iV (Jy t pos))/\Below w.heap.size w w':=by
 have hb0:Below w.heap.size w ((w.alloc (.cells (bI t a).toArray 26)).alloc (.cells #[iV pos] 3)):=((Below.refl _ _).alloc (Nat.le_refl _) _).alloc (by simp) _;have uJ:ak ((w.alloc (.cells (bI t a).toArray 26)).alloc (.cells #[iV pos] 3)) w.heap.size 26 (bI t a):=(ak.new w _ _).alloc _;have aTE:ak ((w.alloc (.cells (bI t a).toArray 26)).alloc (.cells #[iV pos] 3)) (w.heap.size+1) 3 [iV pos]:=by
  have:=ak.new (w.alloc (.cells (bI t a).toArray 26)) 3 [iV pos];simpa using this
 have h1:=h.belowS hb0;obtain⟨c0,c1,c2,c3,c4⟩:=bi uJ;have iR:=hid (jq t a _ h1);by_cases hr:aS t=true
 ·have hw:Hid (Jy t pos=lW (kE pos) t.wins):=by refine hid ?_;unfold Jy;rw[if_pos hr]
  have hR:=(bK t).1 hr;have hall:∀x∈t.wins,-9223372036854775808<=x.at_+x.long/\x.at_+x.long<=9223372036854775807:=by
   intro x hx;obtain⟨_,_,h3,h4,h5⟩:=hR.win x hx;have:=hR.f2;omega
  have DL:=hid hall;rw[hr]at iR;clear hr hall;go_enter func199,ntmps199;go_wp2_with fail;refine iR.out.mono ?_;rintro e w1⟨rfl,hb1⟩;have ub:=uJ.belowS hb1;have aTF:=aTE.belowS hb1;have h2:=h1.belowS hb1;clear c0 c1 c2 c3 c4;obtain⟨c0,c1,c2,c3,c4⟩:=bi ub;go_wp2_with fail;refine(aF8 a.A2 t.wins.length a.c2 t.wins pos _ w1 h2.zn.2.1 h2.n2 aTF DL.out).mono ?_;rintro e w2⟨rfl,hb2⟩;go_wp2_with fail;go_ret;exact⟨by rw[hw.out];rfl,ag (ag hb0 hb1) hb2⟩
 ·have hw:Hid (Jy t pos= -1):=by refine hid ?_;unfold Jy;rw[if_neg hr]
  have hr':aS t=false:=by simpa using hr
  rw[hr']at iR;clear hr hr';go_enter func199,ntmps199;go_wp2_with fail;refine iR.out.mono ?_;rintro e w1⟨rfl,hb1⟩;go_wp2_with fail;go_ret;exact⟨by rw[hw.out];rfl,ag hb0 hb1⟩
def oP(l:List ik)(pos:Int):Int:=match l.find? (kE pos)with|some w=>w.part|none=> -1
def o7(l:List ik)(pos:Int):Bool:=match l.find? (kE pos)with|some w=>w.at_==pos|none=>false
theorem aLO(l:List ik)(pos:Int):∀k:Nat,lW (kE pos) l=(k:Int)->∃w,l[k]? =some w/\l.find? (kE pos)=some w:=by
 intro k hk;unfold lW at hk;cases h:l.findIdx? (kE pos)with
 |none=>rw[h]at hk;simp only at hk;omega
 |some i=>
  rw[h]at hk;simp only at hk;have:i=k:=by omega
  subst this;obtain⟨hi,hp,hlt⟩:=List.findIdx?_eq_some_iff_getElem.1 h;refine⟨l[i],List.getElem?_eq_getElem hi,?_⟩;rw[List.find?_eq_some_iff_getElem];exact⟨hp,i,hi,rfl,fun j hj=>by simpa using hlt j hj⟩
theorem aKl(l:List ik)(pos:Int)(h:lW (kE pos) l<0):l.find? (kE pos)=none:=by
 unfold lW at h;cases hi:l.findIdx? (kE pos)with
 |none=>rw[List.find?_eq_none];intro w hw;have:=List.findIdx?_eq_none_iff.1 hi w hw;simp[this]
 |some i=>rw[hi]at h;simp only at h;omega
theorem aKE{t:aG}(h:mD t)(pos:Int): -1<=oP t.wins pos/\oP t.wins pos<t.parts.length:=by
 unfold oP;have:=h.p1;cases hf:t.wins.find? (kE pos)with
 |none=>simp only;omega
 |some w=>
  have:=h.win w (List.mem_of_find?_eq_some hf);simp only;have h1:=this.1;have h2:=this.2.1;omega
structure B4 where
 a:Bool
 b:Bool
 c:Bool
 d:Bool
deriving DecidableEq
/-! ### Paths of at most so many channels. -/
theorem aM7(t:aG)(a:bM)(w:World):∃w1:World,w.alloc (.cells #[iV t.frame,.slice a.A1 t.parts.length a.c1,.slice a.A2 t.wins.length a.c2,.slice a.A3 t.chans.length a.c3,iV t.trial] 26)=w1/\
  Below w.heap.size w w1/\ak w1 w.heap.size 26 (bI t a)/\w1.heap.size=w.heap.size+1:=
 ⟨_,rfl,(Below.refl _ _).alloc (Nat.le_refl _) _,ak.new w _ (bI t a),by simp⟩
theorem aNz(k:Nat)(w:World)(hk:k<=15):
  Calls prog 167 #[iV (k:Int)] w fun e w'=>e=.returned (iV ((2^k:Nat):Int))/\w=w':=by
 have HP:Hid (∀j,j<=k->2^j<=32768):=hid (fun j hj=>(show 2^j<=2^15 from Nat.pow_le_pow_right (by omega) (by omega)));have HS:Hid (∀j,2^(j+1)=2^j+2^j):=hid (fun j=>by rw[Nat.pow_succ];omega);obtain⟨P,hP⟩:∃P,2^k=P:=⟨_,rfl⟩;rw[hP];have HQ:=hid hP;clear hP;go_enter func167,ntmps167;go_wp2_with fail;go_loop [3,4] (fun v3 v4=>∃j m:Nat,j<=k/\v4=iV (j:Int)/\v3=iV (m:Int)/\Hid (m=2^j)/\m<=32768) (fun _ v4=>k-(intOf v4).toNat)
 case atStart=>exact⟨0,1,by omega,rfl,rfl,hid rfl,by omega⟩
 case round=>
  obtain⟨j,m,hj,rfl,rfl,HM,hm⟩:=hrel;by_cases hjk:j<k
  ·have hm2:m+m<=32768:=by rw[HM.out,<-HS.out];exact HP.out _ (by omega)
   have JH:Hid (m+m=2^(j+1)):=hid (by rw[HS.out,HM.out]);go_wp2_with fail;go_round;case rel=>exact⟨j+1,m+m,by omega,by go_num,by go_num,JH,hm2⟩
   case measure=>simp[intOf];omega
  ·obtain rfl:j=k:=by omega
   obtain rfl:m=P:=by rw[HM.out,HQ.out]
   go_wp2_with fail;go_ret;exact⟨rfl,rfl⟩
theorem aDt(n k:Nat)(w:World)(hn:n<16)(hk:k<=15):
  Calls prog 101 #[iV (n:Int),iV (k:Int)] w fun e w'=>e=.returned (.bool (jM n k))/\w=w':=by
 have i1:=hid (aNz k w hk);have HB:Hid (jM n k=((n/2^k%2==1))):=hid rfl;have hP:0<2^k:=Nat.two_pow_pos k;have hP2:2^k<=32768:=(show 2^k<=2^15 from Nat.pow_le_pow_right (by omega) hk);generalize 2^k=P at*
 have hm:(n:Int)%65536=(n:Int):=by omega
 have y0:((P:Int)==0)=false:=by simp;omega
 have y1:decide ((k:Int)<0)=false:=by simp
 have y2:decide ((15:Int)<(k:Int))=false:=by simp;omega
 have y3:decide ((n:Int)<0)=false:=by simp
 go_enter func101,ntmps101;go_wp2_with fail;refine i1.out.mono ?_;rintro e w1⟨rfl,rfl⟩;go_wp2_with fail;go_ret;refine⟨cZ ?_,rfl⟩;rw[HB.out];have h1:n/P<=n:=Nat.div_le_self n P;rw[show(n:Int)/(P:Int)=((n/P:Nat):Int)from(Int.natCast_ediv n P).symm];generalize n/P=q at*
 rw[IntWalk.wrap64_in _ ⟨by omega,by omega⟩,show Int.tmod ((q:Nat):Int) 2=((q%2:Nat):Int)from by rw[Int.tmod_eq_emod_of_nonneg (by omega)];omega];rw[Bool.eq_iff_iff,beq_iff_eq,beq_iff_eq];omega
end Go.Proofs.YtfjkpigldogkeaaGreatDoor
