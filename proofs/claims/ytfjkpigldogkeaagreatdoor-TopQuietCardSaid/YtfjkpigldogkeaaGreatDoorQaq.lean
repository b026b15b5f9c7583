/- Contracts of functions that TopQuiet reaches, under the conditions that each states. -/
import Derived.Test.YtfjkpigldogkeaaGreatDoorQae
import Derived.Test.YtfjkpigldogkeaaGreatDoorQaj
import Derived.LaidEqlPtr
set_option linter.all false
set_option maxHeartbeats 2000000
namespace Go.Proofs.YtfjkpigldogkeaaGreatDoor
open Go.RowKit Go.ChangeShapes Go.WideShapes Go.ChangeAt Go.Proofs.Tryz
structure RS where
 b:List UInt8
 e:Int
def dL(s:RS)(n:Int):List UInt8×RS:=
 if s.e≠0\/n<=0 then([],s)else if(s.b.length:Int)<n then([],⟨s.b,1⟩)else(s.b.take n.toNat,⟨s.b.drop n.toNat,s.e⟩)
def lL(l:List UInt8):Nat:=l.foldl (fun n c=>n*256+c.toNat) 0
def bT(s:RS)(w:Int):Nat×RS:=(lL (dL s (mf w)).1,(dL s (mf w)).2)
def jk(w:World)(g:Nat)(s:RS):Prop:=∃A n c,ak w g 408 [.slice A n c,iV s.e]/\ai w g 1 A n (s.b.map bV)/\n<=c/\c<=maxLen
section
variable{a b c w w':World}{g:Nat}{s:RS}
theorem iw(h:a.grownBy b (some g))(k:b.grownBy c (some g)):a.grownBy c (some g):=
 ⟨k.os.trans h.os,k.tape.trans h.tape,k.output.trans h.output,Nat.le_trans h.size k.size,fun i hi hn=>(k.block i (Nat.lt_of_lt_of_le hi h.size) hn).trans (h.block i hi hn)⟩
theorem aE6(w:World)(r:Option Nat):w.grownBy w r:=⟨rfl,rfl,rfl,Nat.le_refl _,fun _ _ _=>rfl⟩
theorem jp(h:Below a.heap.size a b)(r:Option Nat):a.grownBy b r:=⟨h.os,h.tape,h.output,h.size,fun i hi _=>h.block i hi⟩
theorem lS(w:World)(o:Nat)(u:Value):w.grownBy (w.setCell (tZ g o) u) (some g):=
 ⟨rfl,rfl,rfl,by simp[World.setCell],fun i _ hn=>Below.heap_setCell w ⟨g,o,none⟩ u i (fun e=>hn (by rw[e]))⟩
theorem jk.lt(h:jk w g s):g<w.heap.size:=by obtain⟨_,_,_,h,_⟩:=h;exact h.lt
theorem jk.below(h:jk w g s)(hb:Below w.heap.size w w'):jk w' g s:=by
 obtain⟨A,n,c,h1,h2,h3,h4⟩:=h;exact⟨A,n,c,h1.belowS hb,h2.below (hb.mono (Nat.le_of_lt h1.lt)),h3,h4⟩
theorem jk.aSF(h:jk w g s)(e:Int):jk (w.setCell (tZ g 1) (iV e)) g ⟨s.b,e⟩:=by
 obtain⟨A,n,c,h1,h2,h3,h4⟩:=h;exact⟨A,n,c,h1.uh 1 _,h2.setCell (Nat.le_refl _) _,h3,h4⟩
theorem jk.cells(h:jk w g s):∃A n c,w.cell? (tZ g 0)=some (.slice A n c)/\w.cell? (tZ g 1)=some (iV s.e)/\w.frozen? (tZ g 0)=false/\w.frozen? (tZ g 1)=false/\
  ak w g 408 [.slice A n c,iV s.e]/\ai w g 1 A n (s.b.map bV)/\n<=c/\c<=maxLen/\s.b.length=n:=by
 obtain⟨A,n,c,h1,h2,h3,h4⟩:=h;exact⟨A,n,c,h1.cellAt rfl,h1.cellAt rfl,h1.frozen 0,h1.frozen 1,h1,h2,h3,h4,by simpa using h2.len⟩
end
theorem jc(g:Nat)(w:World)(hc:w.cell? (tZ g 1)=some (iV 0)):
  Calls prog 277 #[.pointer (some (tZ g 0))] w fun e w'=>e=.returned (.bool true)/\w=w':=by
 go_enter func277,ntmps277;go_wp2_with fail;go_ret;exact⟨rfl,rfl⟩
theorem JW(g:Nat)(e:Int)(w:World)(hc:w.cell? (tZ g 1)=some (iV e))(he:e≠0):
  Calls prog 277 #[.pointer (some (tZ g 0))] w fun e w'=>e=.returned (.bool false)/\w=w':=by
 have hb:((e:Int)==0)=false:=by simp[he]
 clear he;go_enter func277,ntmps277;go_wp2_with fail;go_ret;exact⟨rfl,rfl⟩
theorem aFU(g:Nat)(e0:Int)(w:World)(hc:w.cell? (tZ g 1)=some (iV 0))(hf:w.frozen? (tZ g 1)=false):
  Calls prog 278 #[.pointer (some (tZ g 0)),iV e0] w fun e w'=>e=.returned (.tuple #[])/\w.setCell (tZ g 1) (iV e0)=w':=by
 go_enter func278,ntmps278;go_wp2_with fail;refine(jc g w hc).mono ?_;rintro e w'⟨rfl,rfl⟩;go_wp2_with fail;go_end0
 exact⟨rfl,rfl⟩
theorem aHK(g:Nat)(e n:Int)(w:World)(hc:w.cell? (tZ g 1)=some (iV e))(h:e≠0\/n<=0):
  Calls prog 212 #[.pointer (some (tZ g 0)),iV n] w fun e w'=>e=.returned (.slice none 0 0)/\w=w':=by
 by_cases he:e=0
 ·have hn:n<=0:=by rcases h with h|h;exact absurd he h;exact h
  clear h;subst he;go_enter func212,ntmps212;go_wp2_with fail;refine(jc g w hc).mono ?_;rintro e w'⟨rfl,rfl⟩;go_wp2_with fail;go_ret;exact⟨rfl,rfl⟩
 ·clear h;go_enter func212,ntmps212;go_wp2_with fail;refine(JW g e w hc he).mono ?_;rintro e w'⟨rfl,rfl⟩;go_wp2_with fail;go_ret;exact⟨rfl,rfl⟩
theorem aFL(g:Nat)(A:Option Addr)(m c:Nat)(n:Int)(w:World)(h0:w.cell? (tZ g 0)=some (.slice A m c))(hc:w.cell? (tZ g 1)=some (iV 0))(hf:w.frozen? (tZ g 1)=false)(hn:(m:Int)<n):
  Calls prog 212 #[.pointer (some (tZ g 0)),iV n] w fun e w'=>e=.returned (.slice none 0 0)/\w.setCell (tZ g 1) (iV 1)=w':=by
 go_enter func212,ntmps212;go_wp2_with fail;refine(jc g w hc).mono ?_;rintro e w'⟨rfl,rfl⟩;go_wp2_with fail;refine(aFU g 1 w hc hf).mono ?_;rintro e w'⟨rfl,rfl⟩;go_wp2_with fail;go_ret;exact⟨rfl,rfl⟩
def aC6(w:World)(g:Nat)(bs:List UInt8)(n:Nat)(e:Ending)(w':World):Prop:=
 ∃A' c',e=.returned (.slice A' n c')/\w'.ownsRow w.heap.size 5 1 (.slice A' n c') n ((bs.take n).map bV)/\jk w' g ⟨bs.drop n,0⟩/\w.grownBy w' (some g)
theorem aCo{w w1:World}{g n m c1 C2:Nat}{A1 X:Option Addr}{v:Value}{bs:List UInt8}(hblk:ak w g 408 [v,iV 0])(hown:w1.ownsRow w.heap.size 5 1 (.slice A1 n c1) n ((bs.take n).map bV))(hb:Below w.heap.size w w1)
(hX:ai w g 1 X (m-n) ((bs.drop n).map bV))(h1:m-n<=C2)(h2:C2<=maxLen):aC6 w g bs n (.returned (.slice A1 n c1)) (w1.setCell (tZ g 0) (.slice X (m-n) C2)):=by
 refine⟨A1,c1,rfl,ownsRow_setCell_below hown hblk.lt _,?_,iw (jp hb _) (lS w1 0 _)⟩;exact⟨X,m-n,C2,(hblk.belowS hb).uh 0 _,(hX.below (hb.mono (Nat.le_of_lt hblk.lt))).setCell (Nat.le_refl _) _,h1,h2⟩
theorem aEh(g:Nat)(bs:List UInt8)(n:Nat)(w:World)(h:jk w g ⟨bs,0⟩)(hn:0<n)(hl:n<=bs.length)(hs:bs.length<=100000000):
  Calls prog 212 #[.pointer (some (tZ g 0)),iV (n:Int)] w (aC6 w g bs n):=by
 obtain⟨A,m,c,h0,h1,f0,f1,hblk,hr,hmc,hcm,hbl⟩:=h.cells;simp only at h1 hblk hr hbl;have IV:n<=m:=by omega
 have hm:m<=100000000:=by omega
 have yh:=hid hbl;clear hbl hl hs h;have hcm':=hcm;unfold maxLen at hcm;have Gv:=(hr.front IV).more (Nat.le_of_lt hblk.lt);rw[Nat.mul_one,<-List.map_take]at Gv;obtain⟨ad,rfl,had,_⟩:=hr.form (show 0<m by omega);have hcut:=hr.cut IV hmc;rw[Nat.mul_one,<-List.map_drop]at hcut;go_enter func212,ntmps212;go_wp2_with fail;refine(jc g w h1).mono ?_;rintro e w'⟨rfl,rfl⟩;go_wp2_with fail;refine(aBX (some ad) n c _ w Gv (by omega)).mono ?_;rintro e w1⟨A1,c1,rfl,hown,hb⟩;have ub:=hblk.belowS hb;have k0:=ub.cellAt (i:=0) rfl;have k1:=ub.frozen 0;go_wp2_with fail
 ·have hc:c=n:=by assumption
  go_ret;rw[if_pos hc]at hcut;exact aCo hblk hown hb hcut (by omega) (by simp[maxLen])
 ·have hc:¬c=n:=by assumption
  go_ret;rw[if_neg hc]at hcut;rw[Option.map_some]at hcut;exact aCo hblk hown hb hcut (by omega) (by unfold maxLen;omega)
def aO8(w:World)(g:Nat)(s:RS)(n:Int)(e:Ending)(w':World):Prop:=
 ∃A' m c',e=.returned (.slice A' m c')/\w'.ownsRow w.heap.size 5 1 (.slice A' m c') m ((dL s n).1.map bV)/\jk w' g (dL s n).2/\w.grownBy w' (some g)/\m<=s.b.length
theorem aAS(g:Nat)(s:RS)(n:Int)(w:World)(h:jk w g s)(hs:s.b.length<=100000000):
  Calls prog 212 #[.pointer (some (tZ g 0)),iV n] w (aO8 w g s n):=by
 obtain⟨A,m,c,h0,h1,f0,f1,hblk,hr,hmc,hcm,hbl⟩:=h.cells;by_cases hno:s.e≠0\/n<=0
 ·refine(aHK g s.e n w h1 hno).mono ?_;rintro e w'⟨rfl,rfl⟩;have e1:dL s n=([],s):=by unfold dL;rw[if_pos hno]
  exact⟨none,0,0,rfl,by rw[e1];exact World.ownsRow_nil _ _ _ _,by rw[e1];exact h,aE6 _ _,Nat.zero_le _⟩
 ·have he:s.e=0:=Classical.byContradiction fun hc=>hno (.inl hc)
  have hn:¬n<=0:=fun hc=>hno (.inr hc)
  rw[he]at h1;by_cases hsh:(s.b.length:Int)<n
  ·refine(aFL g A m c n w h0 h1 f1 (by omega)).mono ?_;rintro e w'⟨rfl,rfl⟩;have e1:dL s n=([],⟨s.b,1⟩):=by unfold dL;rw[if_neg hno,if_pos hsh]
   exact⟨none,0,0,rfl,by rw[e1];exact World.ownsRow_nil _ _ _ _,by rw[e1];exact h.aSF 1,lS w 1 _,Nat.zero_le _⟩
  ·obtain⟨k,rfl⟩:=Int.eq_ofNat_of_zero_le (show 0<=n by omega);obtain⟨bs,e0⟩:=s;simp only at he hsh hs hbl;subst he;refine(aEh g bs k w h (by omega) (by omega) hs).mono ?_;rintro e w'⟨A',c',rfl,h2,h3,h4⟩;have e1:dL ⟨bs,0⟩ (k:Int)=(bs.take k,⟨bs.drop k,0⟩):=by unfold dL;rw[if_neg hno,if_neg hsh];simp
   exact⟨A',k,c',rfl,by rw[e1];exact h2,by rw[e1];exact h3,h4,by simp only;omega⟩
theorem aBc(l:List UInt8)(c:UInt8):lL (l++[c])=lL l*256+c.toNat:=by unfold lL;rw[List.foldl_append];rfl
theorem aGb(l:List UInt8):lL l<256^l.length:=by
 have key:∀(k:Nat)(l:List UInt8),l.length=k->lL l<256^k:=by
  intro k;induction k with
  |zero=>
   intro l hl;rw[List.eq_nil_of_length_eq_zero hl];decide
  |succ k ih=>
   intro l hl;have hne:l≠[]:=by intro h;rw[h]at hl;simp at hl
   rw[<-List.dropLast_concat_getLast hne,aBc];have h1:=ih l.dropLast (by simp;omega);have h2:=(l.getLast hne).toNat_lt;rw[Nat.pow_succ];omega
 exact key _ l rfl
theorem aNY(m:Nat)(c:UInt8)(hm:m<1099511627776):bits BinOp.or IntKind.i64 ((m:Int)*256) (c.toNat:Int)=((m*256+c.toNat:Nat):Int):=by
 have hc:=c.toNat_lt;have e:m*256|||c.toNat=m*256+c.toNat:=by
  rw[show(256:Nat)=2^8 from rfl,<-Nat.shiftLeft_eq,<-Nat.shiftLeft_add_eq_or_of_lt (by omega)]
 have hx:m*256|||c.toNat<2^63:=by rw[e];omega
 have hof:∀a:Nat,a<9223372036854775808->(BitVec.ofInt 64 (a:Int)).toNat=a:=by
  intro a ha;rw[BitVec.ofInt_natCast,BitVec.toNat_ofNat];exact Nat.mod_eq_of_lt (by omega)
 rw[show(m:Int)*256=((m*256:Nat):Int) by omega];show IntKind.i64.wrap ((BitVec.ofInt 64 ((m*256:Nat):Int)|||BitVec.ofInt 64 (c.toNat:Int)).toNat:Int)=_
 rw[BitVec.toNat_or,hof _ (by omega),hof _ (by omega),e,IntKind.wrap_i64];omega
def JX(w:World)(g:Nat)(s:RS)(ww:Int)(e:Ending)(w':World):Prop:=
 e=.returned (iV ((bT s ww).1:Int))/\jk w' g (bT s ww).2/\w.grownBy w' (some g)
theorem aDw(s:RS)(n:Int)(h:0<=n):((dL s n).1.length:Int)<=n:=by
 unfold dL;split
 ·simpa using h
 ·split
  ·simpa using h
  ·simp;omega
theorem JY(g:Nat)(s:RS)(ww:Int)(w:World)(h:jk w g s)(hs:s.b.length<=100000000):
  Calls prog 208 #[.pointer (some (tZ g 0)),iV ww] w (JX w g s ww):=by
 have hw:=aMc ww;have hlen:=aDw s (mf ww) (by omega);have hby:=hid (aAS g s (mf ww) w h hs);have zL:=hid (aGu ww w);have HN:Hid (bT s ww=(lL (dL s (mf ww)).1,(dL s (mf ww)).2)):=rfl;unfold aO8 at hby;generalize (dL s (mf ww)).1=out at hby HN hlen;generalize (dL s (mf ww)).2=s' at hby HN;generalize mf ww=W at hby zL hw hlen;go_enter func208,ntmps208;go_wp2_with fail;refine zL.out.mono ?_;rintro e w'⟨rfl,rfl⟩;go_wp2_with fail;refine hby.out.mono ?_;rintro e w1⟨A',m,c',rfl,hown,vW,hg,D9⟩;have hr:=ai.uA hown;have hol:out.length=m:=by simpa using hr.len
 have HO:=hid hol;clear hby zL hown;have hm6:m<=6:=by omega
 clear hol;go_wp2_with fail;go_loop [6,16] (fun v6 v16=>∃(k q:Nat),k<=m/\v16=iV (k:Int)/\v6=iV (q:Int)/\q<281474976710656/\Hid (q=lL (out.take k))) (fun _ v16=>m-(intOf v16).toNat)
 case atStart=>exact⟨0,0,by omega,rfl,rfl,by omega,by refine hid ?_;simp[lL]⟩
 case round=>
  obtain⟨k,q,hk,rfl,rfl,hq,HQ⟩:=hrel;by_cases IG:k<m
  ·obtain⟨ad,b,rfl,_,hb,hc⟩:=hr.He IG;have hb2:=b.toNat_lt;have HS:Hid (q*256+b.toNat=lL (out.take (k+1))):=by
    refine hid ?_;rw[List.take_add_one,hb,HQ.out];exact(aBc _ _).symm
   have hq5:q<1099511627776:=by
    have h1:=aGb (out.take k);rw[<-HQ.out]at h1;have h2:256^(out.take k).length<=256^5:=Nat.pow_le_pow_right (by omega) (by rw[List.length_take];omega);have h3:(256:Nat)^5=1099511627776:=by decide
    omega
   have Et:=aNY q b hq5;clear hb hr;go_wp2_with fail;go_round;case rel=>exact⟨k+1,q*256+b.toNat,by omega,by go_num,by go_num,by omega,HS⟩
   case measure=>simp[intOf];omega
  ·obtain rfl:k=m:=by omega
   go_wp2_with fail;go_ret;refine⟨?_,?_,hg⟩
   ·rw[HN.out,HQ.out,List.take_of_length_le (by have:=HO.out;omega)];rfl
   ·rw[HN.out];exact vW
def jR(s:RS)(most:Int):List UInt8×RS:=
 if s.e≠0 then([],s)else
  let s1:=(bT s 2).2
  let s2:=if s1.e=0/\most<((bT s 2).1:Int)then⟨s1.b,4⟩else s1
  let r:=dL s2 ((bT s 2).1:Int)
  if r.2.e=0 then r else(r.1,⟨s.b,r.2.e⟩)
def aGp(w:World)(g:Nat)(s:RS)(most:Int)(e:Ending)(w':World):Prop:=
 ∃A' m c',e=.returned (.slice A' m c')/\w'.ownsRow w.heap.size 5 1 (.slice A' m c') m ((jR s most).1.map bV)/\jk w' g (jR s most).2/\w.grownBy w' (some g)
theorem jk.back{w w3:World}{g n c:Nat}{A:Option Addr}{s s3:RS}(h:ai w g 1 A n (s.b.map bV))(hg:g<w.heap.size)(hnc:n<=c)(hcm:c<=maxLen)(h3:jk w3 g s3)(ho:w.grownBy w3 (some g)):
  jk (w3.setCell (tZ g 0) (.slice A n c)) g ⟨s.b,s3.e⟩:=by
 obtain⟨A3,n3,c3,k1,_,_,_⟩:=h3;exact⟨A,n,c,k1.uh 0 _,(h.grown ho (Nat.le_of_lt hg) (by intro x hx;injection hx with hx;omega)).setCell (Nat.le_refl _) _,hnc,hcm⟩
theorem aC8(s:RS)(n:Int):(dL s n).2.b.length<=s.b.length:=by
 unfold dL;split
 ·exact Nat.le_refl _
 ·split
  ·exact Nat.le_refl _
  ·simp
theorem kC(s:RS)(n:Int):(bT s n).2.b.length<=s.b.length:=aC8 s _
theorem aJC(g:Nat)(s:RS)(most:Int)(w:World)(h:jk w g s)(hs:s.b.length<=100000000):
  Calls prog 322 #[.pointer (some (tZ g 0)),iV most] w (aGp w g s most):=by
 obtain⟨A,n,c,h0,h1,f0,f1,hblk,hr,hnc,hcm,hbl⟩:=h.cells;have BJ:=hblk.lt;by_cases he:s.e=0
 ·have EI:=hid (JY g s 2 w h hs);have hrest:=kC s 2;have HT:Hid (jR s most=(let r:=dL (if(bT s 2).2.e=0/\most<((bT s 2).1:Int)then⟨(bT s 2).2.b,4⟩else(bT s 2).2) ((bT s 2).1:Int)
   if r.2.e=0 then r else(r.1,⟨s.b,r.2.e⟩))):=by
   refine hid ?_;unfold jR;rw[if_neg (by simp[he])]
  unfold JX at EI;generalize (bT s 2).1=N at EI HT;generalize (bT s 2).2=s1 at EI HT hrest;have h1':=h1;rw[he]at h1';clear h1;go_enter func322,ntmps322;go_wp2_with fail;refine(jc g w h1').mono ?_;rintro e w'⟨rfl,rfl⟩;go_wp2_with fail;refine EI.out.mono ?_;rintro e w1⟨rfl,CJ,yw⟩;obtain⟨A1,n1,c1,k0,k1,q0,q1,ub,hr1,_,_,hbl1⟩:=CJ.cells;clear EI h1' h0 f0 f1;by_cases Dy:s1.e=0
  ·have MB:=k1;rw[Dy]at MB;clear k1;by_cases hm:most<(N:Int)
   ·have hd:decide (most<(N:Int))=true:=by simp[hm]
    go_wp2_with fail;refine(jc g w1 MB).mono ?_;rintro e w'⟨rfl,rfl⟩;go_wp2_with fail;refine(aFU g 4 w1 MB q1).mono ?_;rintro e w2⟨rfl,rfl⟩;have CM:=CJ.aSF 4;have Hy:=iw yw (lS w1 1 (iV 4));clear hd;go_wp2_with fail;refine(aAS g ⟨s1.b,4⟩ (N:Int) _ CM (by simp only;omega)).mono ?_;rintro e w3⟨A3,m3,c3,rfl,uU,xJ,AP,hm3⟩;have zM:=iw Hy AP;have vX:=bh uU (show w.heap.size<=_ from Hy.size);rw[if_pos (show s1.e=0/\most<(N:Int)from⟨Dy,hm⟩)]at HT;obtain⟨r,Dp⟩:∃r,r=dL ⟨s1.b,4⟩ (N:Int):=⟨_,rfl⟩;rw[<-Dp]at vX xJ HT;obtain⟨A4,n4,c4,k40,EJ,q40,q41,vK,_,_,_,_⟩:=xJ.cells;clear Dp uU;by_cases Du:r.2.e=0
    ·have xg:Hid (jR s most=r):=by refine hid ?_;rw[HT.out];rw[if_pos Du]
     rw[Du]at EJ;go_wp2_with fail;refine(jc g _ EJ).mono ?_;rintro e w'⟨rfl,rfl⟩;go_wp2_with fail;go_ret;exact⟨A3,m3,c3,rfl,by rw[xg.out];exact vX,by rw[xg.out];exact xJ,zM⟩
    ·have xg:Hid (jR s most=(r.1,⟨s.b,r.2.e⟩)):=by refine hid ?_;rw[HT.out];rw[if_neg Du]
     have hback:=jk.back hr BJ hnc hcm xJ zM;go_wp2_with fail;refine(JW g _ _ EJ Du).mono ?_;rintro e w'⟨rfl,rfl⟩;go_wp2_with fail;go_ret;exact⟨A3,m3,c3,rfl,by rw[xg.out];exact ownsRow_setCell_below vX BJ _,by rw[xg.out];exact hback,iw zM (lS w3 0 _)⟩
   ·have hd:decide (most<(N:Int))=false:=by simp;omega
    go_wp2_with fail;refine(jc g w1 MB).mono ?_;rintro e w'⟨rfl,rfl⟩;go_wp2_with fail;clear hd;refine(aAS g s1 (N:Int) _ CJ (by omega)).mono ?_;rintro e w3⟨A3,m3,c3,rfl,uU,xJ,AP,hm3⟩;have zM:=iw yw AP;have vX:=bh uU (show w.heap.size<=_ from yw.size);rw[if_neg (show ¬(s1.e=0/\most<(N:Int))from fun hc=>by have:=hc.2;omega)]at HT;obtain⟨r,Dp⟩:∃r,r=dL s1 (N:Int):=⟨_,rfl⟩;rw[<-Dp]at vX xJ HT;obtain⟨A4,n4,c4,k40,EJ,q40,q41,vK,_,_,_,_⟩:=xJ.cells;clear Dp uU;by_cases Du:r.2.e=0
    ·have xg:Hid (jR s most=r):=by refine hid ?_;rw[HT.out];rw[if_pos Du]
     rw[Du]at EJ;go_wp2_with fail;refine(jc g _ EJ).mono ?_;rintro e w'⟨rfl,rfl⟩;go_wp2_with fail;go_ret;exact⟨A3,m3,c3,rfl,by rw[xg.out];exact vX,by rw[xg.out];exact xJ,zM⟩
    ·have xg:Hid (jR s most=(r.1,⟨s.b,r.2.e⟩)):=by refine hid ?_;rw[HT.out];rw[if_neg Du]
     have hback:=jk.back hr BJ hnc hcm xJ zM;go_wp2_with fail;refine(JW g _ _ EJ Du).mono ?_;rintro e w'⟨rfl,rfl⟩;go_wp2_with fail;go_ret;exact⟨A3,m3,c3,rfl,by rw[xg.out];exact ownsRow_setCell_below vX BJ _,by rw[xg.out];exact hback,iw zM (lS w3 0 _)⟩
  ·go_wp2_with fail;refine(JW g _ w1 k1 Dy).mono ?_;rintro e w'⟨rfl,rfl⟩;go_wp2_with fail;refine(aAS g s1 (N:Int) _ CJ (by omega)).mono ?_;rintro e w3⟨A3,m3,c3,rfl,uU,xJ,AP,hm3⟩;have zM:=iw yw AP;have vX:=bh uU (show w.heap.size<=_ from yw.size);rw[if_neg (show ¬(s1.e=0/\most<(N:Int))from fun hc=>Dy hc.1)]at HT;obtain⟨r,Dp⟩:∃r,r=dL s1 (N:Int):=⟨_,rfl⟩;rw[<-Dp]at vX xJ HT;obtain⟨A4,n4,c4,k40,EJ,q40,q41,vK,_,_,_,_⟩:=xJ.cells;clear Dp uU;by_cases Du:r.2.e=0
   ·have xg:Hid (jR s most=r):=by refine hid ?_;rw[HT.out];rw[if_pos Du]
    rw[Du]at EJ;go_wp2_with fail;refine(jc g _ EJ).mono ?_;rintro e w'⟨rfl,rfl⟩;go_wp2_with fail;go_ret;exact⟨A3,m3,c3,rfl,by rw[xg.out];exact vX,by rw[xg.out];exact xJ,zM⟩
   ·have xg:Hid (jR s most=(r.1,⟨s.b,r.2.e⟩)):=by refine hid ?_;rw[HT.out];rw[if_neg Du]
    have hback:=jk.back hr BJ hnc hcm xJ zM;go_wp2_with fail;refine(JW g _ _ EJ Du).mono ?_;rintro e w'⟨rfl,rfl⟩;go_wp2_with fail;go_ret;exact⟨A3,m3,c3,rfl,by rw[xg.out];exact ownsRow_setCell_below vX BJ _,by rw[xg.out];exact hback,iw zM (lS w3 0 _)⟩
 ·have HT:Hid (jR s most=([],s)):=by refine hid ?_;unfold jR;rw[if_pos he]
  go_enter func322,ntmps322;go_wp2_with fail;refine(JW g _ w h1 he).mono ?_;rintro e w'⟨rfl,rfl⟩;go_wp2_with fail;go_ret;exact⟨none,0,0,rfl,by rw[HT.out];exact World.ownsRow_nil _ _ _ _,by rw[HT.out];exact h,aE6 _ _⟩
theorem aHM(s:RS)(m:Int):(jR s m).2.b.length<=s.b.length:=by
 have hb:=kC s 2;unfold jR;split
 ·exact Nat.le_refl _
 ·simp only;generalize (bT s 2).2=s1 at hb;generalize (bT s 2).1=N;have h2:(if s1.e=0/\m<(N:Int)then(⟨s1.b,4⟩:RS)else s1).b.length<=s.b.length:=by split<;>exact hb
  generalize (if s1.e=0/\m<(N:Int)then(⟨s1.b,4⟩:RS)else s1)=s2 at h2;have h3:=aC8 s2 (N:Int);split
  ·omega
  ·exact Nat.le_refl _
def nP(s:RS):Int:=if s.e≠0 then s.e else if s.b=[]then 0 else 2
theorem aLz(g:Nat)(s:RS)(w:World)(h:jk w g s)(hs:s.b.length<=100000000):
  Calls prog 213 #[.pointer (some (tZ g 0))] w fun e w'=>e=.returned (iV (nP s))/\w=w':=by
 obtain⟨A,n,c,h0,h1,_,_,_,_,_,_,hl⟩:=h.cells;by_cases he:s.e=0
 ·have h1':=h1;rw[he]at h1';by_cases hn:s.b=[]
  ·have h2:nP s=0:=by unfold nP;rw[if_neg (by simp[he]),if_pos hn]
   have hn0:n=0:=by rw[<-hl,hn];rfl
   rw[h2];subst hn0;clear h1 h2 hl he hn;go_enter func213,ntmps213;go_wp2_with fail;go_ret;exact⟨rfl,rfl⟩
  ·have h2:nP s=2:=by unfold nP;rw[if_neg (by simp[he]),if_neg hn]
   have hn0:0<n:=by rw[<-hl];exact List.length_pos_iff.2 hn
   rw[h2];clear h1 h2 hl he hn;go_enter func213,ntmps213;go_wp2_with fail;go_ret;exact⟨rfl,rfl⟩
 ·have h2:nP s=s.e:=by unfold nP;rw[if_pos he]
  rw[h2];have hb:(s.e==0)=false:=by simp[he]
  have hb2:(s.e !=0)=true:=by simp[he]
  clear h2 hl he;go_enter func213,ntmps213;go_wp2_with fail;go_ret;exact⟨rfl,rfl⟩
theorem aCN(A:Option Addr)(n c:Nat)(bs:List UInt8)(w:World)(h:ai w w.heap.size 1 A n (bs.map bV))(hn:n<=100000000):
  Calls prog 207 #[.slice A n c] w fun e w'=>∃g,e=.returned (.pointer (some (tZ g 0)))/\w.heap.size<=g/\jk w' g ⟨bs,0⟩/\Below w.heap.size w w':=by
 go_enter func207,ntmps207;go_wp2_with fail;refine(aBX A n c bs w h (by omega)).mono ?_;rintro e w1⟨A1,c1,rfl,hown,hb⟩;go_wp2_with fail;go_ret;have hcap:=nB hown;exact⟨w1.heap.size,rfl,hb.size,⟨A1,n,c1,ak.new w1 _ _,(ai.uA hown).alloc (Nat.le_refl _) _,hcap.1,hcap.2⟩,aC hb _⟩
theorem aLB(W:Nat)(ww:Int)(hW:mf ww=W)(A:Option Addr)(n c:Nat)(bs:List UInt8)(x:Int)(w:World)(h:ai w w.heap.size 1 A n (bs.map bV))(hn:n<=100000000):
  Calls prog 174 #[.slice A n c,iV x,iV ww] w fun e w'=>∃A' c',e=.returned (.slice A' (n+W) c')/\
   w'.ownsRow w.heap.size 5 1 (.slice A' (n+W) c') (n+W) ((bs++aV x W).map bV)/\Below w.heap.size w w':=by
 subst hW;exact Me A n c bs x ww w h hn
theorem aMi(A1 A2:Option Addr)(n m c1 c2:Nat)(bs ts:List UInt8)(w:World)(h1:ai w w.heap.size 1 A1 n (bs.map bV))(h2:ai w w.heap.size 1 A2 m (ts.map bV))(hn:n<=100000)(hm:m<=c2)(hc:c2<=maxLen):
  Calls prog 175 #[.slice A1 n c1,.slice A2 m c2] w fun e w'=>∃A' c',e=.returned (.slice A' (n+2+min m 65535) c')/\
   w'.ownsRow w.heap.size 5 1 (.slice A' (n+2+min m 65535) c') (n+2+min m 65535) ((bs++oU ts).map bV)/\Below w.heap.size w w':=by
 have ht:ts.length=m:=by simpa using h2.len
 have HT:Hid (oU ts=aV ((min m 65535:Nat):Int) 2++ts.take (min m 65535)):=by
  refine hid ?_;unfold oU;rw[ht];congr 1
  rw[<-List.take_length (l:=ts),ht,List.take_take,List.take_take];congr 1
  omega
 clear ht;unfold maxLen at hc;obtain⟨M,hM,FT,Bg⟩:∃M:Nat,min m 65535=M/\M<=m/\M<=65535:=⟨_,rfl,by omega,by omega⟩;have h3:=h2.front FT;rw[hM]at HT ⊢;have hMi:(if(65535:Int)<(m:Int)then(65535:Int)else(m:Int))=(M:Int):=by split<;>omega
 rw[Nat.mul_one,<-List.map_take]at h3;have hp:=hid (aLB 2 2 rfl A1 n c1 bs (M:Int) w h1 (by omega));clear h1 h2 hM;go_enter func175,ntmps175;go_wp2_with fail;refine hp.out.mono ?_;rintro e w1⟨A',c',rfl,hown,hb⟩;clear hp hMi;go_wp2_with (at_builtin;refine JV _ rfl (.tmp 13) (.tmp 14) rfl w.heap.size _ (n+2) _ _ rfl hown w.heap.size A2 M c2 (ts.take M) rfl (h3.below hb) (by omega) hb.size ?_;intro A3 c3 w3 uU hg3 hb3)
 go_ret;exact⟨A3,c3,rfl,by rw[HT.out,<-List.append_assoc];exact uU,hb.trans hb3⟩
def qW(i:aO):List Int:=[i.mem,i.fuel,i.sends,i.uj]
def Nq(i:aO):List UInt8:=aV 19529 2++aV i.part 1++aV i.ver 2++aV i.uw 2
def mV(i:aO)(k:Nat):List UInt8:=Nq i++((qW i).take k).flatMap fun x=>aV x 1
def jD(i:aO):List UInt8:=mV i 4++oU i.code
theorem aGJ(i:aO):mV i 0=Nq i:=by simp[mV]
theorem aHu(i:aO)(k:Nat)(x:Int)(h:(qW i)[k]? =some x):mV i (k+1)=mV i k++aV x 1:=by
 unfold mV;rw[List.take_add_one,h,List.append_assoc];simp
theorem Ky(W:Nat)(ww:Int)(hW:mf ww=W)(N:Nat)(A:Option Addr)(n c:Nat)(hN:n+W=N)(bs:List UInt8)(x:Int)(w:World)(h:ai w w.heap.size 1 A n (bs.map bV))(hn:n<=100000000):
  Calls prog 174 #[.slice A n c,iV x,iV ww] w fun e w'=>∃A' c',e=.returned (.slice A' N c')/\
   w'.ownsRow w.heap.size 5 1 (.slice A' N c') N ((bs++aV x W).map bV)/\Below w.heap.size w w':=by
 subst hN;exact aLB W ww hW A n c bs x w h hn
theorem aO0(a b c d:Int)(k:Nat)(h:k<4):∀w,(Instr.index 267 (.agg #[iV a,iV b,iV c,iV d]) (iV (k:Int))).run prog w=.ok (iV ([a,b,c,d].getD k 0)) w:=by
 have:k=0\/k=1\/k=2\/k=3:=by omega
 rcases this with rfl|rfl|rfl|rfl<;>(intro w;kernel_rfl)
theorem aMa(i:aO)(A:Option Addr)(c:Nat)(w:World)(hr:ai w w.heap.size 1 A i.code.length (i.code.map bV))(hlc:i.code.length<=c)(hc:c<=maxLen):
  Calls prog 113 #[eM i A c] w fun e w'=>∃A' c',e=.returned (.slice A' (13+min i.code.length 65535) c')/\w'.ownsRow w.heap.size 5 1 (.slice A' (13+min i.code.length 65535) c') (13+min i.code.length 65535) ((jD i).map bV)/\Below w.heap.size w w':=by
 have HH:Hid (jD i=mV i 4++oU i.code):=hid rfl;have HA:Hid (Nq i=aV 19529 2++aV i.part 1++aV i.ver 2++aV i.uw 2):=hid rfl;have HK:=hid (aHu i);have H0:=hid (aGJ i);have HF:Hid (qW i=[i.mem,i.fuel,i.sends,i.uj]):=hid rfl;generalize jD i=HB' at*
 obtain⟨n,hn⟩:∃n,i.code.length=n:=⟨_,rfl⟩;simp only[eM];rw[hn]at hr hlc ⊢;have HN:=hid hn;clear hn;have hmin:min n 65535<=n:=Nat.min_le_left _ _;obtain⟨w1,hw1,hb1,hsz1,hblk⟩:∃w1:World,w.alloc (.cells #[iV i.part,iV i.ver,iV i.uw,iV i.mem,iV i.fuel,iV i.sends,iV i.uj,.slice A n c] 39)=w1/\Below w.heap.size w w1/\w1.heap.size=w.heap.size+1/\ak w1 w.heap.size 39 [iV i.part,iV i.ver,iV i.uw,iV i.mem,iV i.fuel,iV i.sends,iV i.uj,.slice A n c]:=
  ⟨_,rfl,(Below.refl _ _).alloc (Nat.le_refl _) _,by simp,ak.new w _ [iV i.part,iV i.ver,iV i.uw,iV i.mem,iV i.fuel,iV i.sends,iV i.uj,.slice A n c]⟩
 have HR:=hid (hr.belowS hb1);clear hr;have Gy:=hid hsz1;have hb0:=hb1;clear hsz1;go_enter func113,ntmps113;go_wp2_with fail;refine(Ky 2 2 rfl 2 none 0 0 rfl [] 19529 w1 ai.empty (by decide)).mono ?_;rintro e w2⟨A2,c2,rfl,hown2,hb2⟩;have aSS:=ag hb1 hb2;have uo:=hblk.belowS hb2;have d0:=uo.cellAt (i:=0) rfl;clear hw1;go_wp2_with fail;refine(Ky 1 1 rfl 3 A2 2 c2 rfl _ i.part w2 (ai.uA hown2) (by decide)).mono ?_;rintro e w3⟨A3,c3,rfl,uU,hb3⟩;have aST:=ag aSS hb3;have uO:=uo.belowS hb3;have d1:=uO.cellAt (i:=1) rfl;clear hown2 d0 uo;go_wp2_with fail;refine(Ky 2 2 rfl 5 A3 3 c3 rfl _ i.ver w3 (ai.uA uU) (by decide)).mono ?_;rintro e w4⟨A4,c4,rfl,wI,hb4⟩;have aRW:=ag aST hb4;have vK:=uO.belowS hb4;have d2:=vK.cellAt (i:=2) rfl;clear uU d1 uO;go_wp2_with fail;refine(Ky 2 2 rfl 7 A4 5 c4 rfl _ i.uw w4 (ai.uA wI) (by decide)).mono ?_;rintro e w5⟨A5,c5,rfl,vG,uP⟩;have hbx5:=ag aRW uP;have wH:=vK.belowS uP;obtain⟨e3,e4,e5,e6⟩:_/\_/\_/\_:=⟨wH.cellAt (i:=3) rfl,wH.cellAt (i:=4) rfl,wH.cellAt (i:=5) rfl,wH.cellAt (i:=6) rfl⟩;have hbs4:=aRW.size;have xy:=hid (ag (ag (ag hb2 hb3) hb4) uP);clear wI d2 vK hb1 hb2 hb3 hb4 aSS aST aRW;rw[List.nil_append,<-HA.out,<-H0.out]at vG;have yN:=bh (base':=w.heap.size) vG hbs4;clear vG;go_wp2_with fail;have wP:=hid wH;have HO5:=hid yN
 clear e3 e4 e5 e6 wH yN hbx5 uP hblk;go_loopw [28,3] (fun v28 v3 wr=>∃(k:Nat) (A3:Option Addr) (c3:Nat),k<=4/\v28=iV (k:Int)/\v3=.slice A3 (7+k) c3/\wr.ownsRow w.heap.size 5 1 (.slice A3 (7+k) c3) (7+k) ((mV i k).map bV)/\ak wr w.heap.size 39 [iV i.part,iV i.ver,iV i.uw,iV i.mem,iV i.fuel,iV i.sends,iV i.uj,.slice A n c]/\Below w1.heap.size w1 wr) (fun v28 _ _=>4-(intOf v28).toNat)
 case atStart=>exact⟨0,A5,c5,by omega,rfl,rfl,HO5.out,wP.out,xy.out⟩
 case round=>
  clear wP HO5 xy;obtain⟨k,A3,c3,hk,rfl,rfl,hown,hblk,ui⟩:=hrel;by_cases hk4:k<4
  ·have Aq:=aO0 i.mem i.fuel i.sends i.uj k hk4;obtain⟨x,hx⟩:∃x,[i.mem,i.fuel,i.sends,i.uj].getD k 0=x:=⟨_,rfl⟩;rw[hx]at Aq;have hx2:(qW i)[k]? =some x:=by
    rw[HF.out,<-hx];have:k=0\/k=1\/k=2\/k=3:=by omega
    rcases this with rfl|rfl|rfl|rfl<;>rfl
   have HS:=hid (HK.out k x hx2);have hput:=hid (Ky 1 1 rfl (7+(k+1)) A3 (7+k) c3 (by omega) (mV i k) x wr (ai.uA hown) (by omega));rw[<-HS.out]at hput;have HB:=hid hblk;have yh:=hid ui;have hsz:=ui.size;clear hx hx2 hown hblk ui;go_wp2_with fail;refine hput.out.mono ?_;rintro e w6⟨A6,c6,rfl,xn,uS⟩;have hbase:w.heap.size<=wr.heap.size:=by have:=Gy.out;omega
   clear Aq;go_wp2_with fail;go_roundw;case rel=>exact⟨k+1,A6,c6,by omega,by go_num,rfl,bh xn hbase,HB.out.belowS uS,ag yh.out uS⟩
   case measure=>simp[intOf];omega
  ·obtain rfl:k=4:=by omega
   have c7:=hblk.cellAt (i:=7) rfl;have htx:=hid (aMi A3 A 11 n c3 c (mV i 4) i.code wr (ai.uA hown) (HR.out.belowS ui) (by decide) hlc hc);rw[<-HH.out]at htx;have yh:=hid ui;have hsz:=ui.size;have hbase:w.heap.size<=wr.heap.size:=by have:=Gy.out;omega
   clear hown hblk ui;go_wp2_with fail;refine htx.out.mono ?_;rintro e w6⟨A6,c6,rfl,xn,uS⟩;go_wp2_with fail;go_ret;exact⟨A6,c6,rfl,bh xn hbase,hb0.trans ((yh.out.mono (by have:=Gy.out;omega)).trans (uS.mono hbase))⟩
def pg(b:List UInt8):List UInt8:=b++pR b
def pI(i:aO):List UInt8:=pg (jD i)++aV ((gY (pg (jD i))).toNat:Int) 4
theorem aMM(g gh:Nat)(s:mO)(A:Option Addr)(n c cc:Nat)(bs:List UInt8)(w:World)(hl:w.cell? (tZ g 0)=some (.slice A n c))(h:ak w gh 370 (gV s))(hp:s.part.length=64)(hr:ai w w.heap.size 1 A n (bs.map bV))(hn:s.n+n<=100000000000)
(hA:∀ad,A=some ad->0<n->ad.block≠gh):
  Calls prog 177 #[.func (Fn.func 178) #[.pointer (some (tZ gh 0))] #[],.slice (some (tZ g 0)) 1 cc] w fun e w'=>e=.returned (.tuple #[])/\ak w' gh 370 (gV (s.write bs))/\w.grownBy w' (some gh):=by
 have hq:=hid (aEK gh s A n c bs w h hp hr hn hA);have H:=hid h;have hl':=hl;clear hr hA h;go_enter func177,ntmps177;go_wp2_with fail;go_loopw [8] (fun v8 wr=>(v8=iV ((0:Nat):Int)/\wr=w)\/(v8=iV ((1:Nat):Int)/\ak wr gh 370 (gV (s.write bs))/\w.grownBy wr (some gh))) (fun v8 _=>1-(intOf v8).toNat)
 case atStart=>exact .inl ⟨rfl,rfl⟩
 case round=>
  rcases hrel with⟨rfl,rfl⟩|⟨rfl,hb,hg⟩
  ·go_wp2_with fail;refine hq.out.mono ?_;rintro e w2⟨rfl,hb,hg⟩;go_wp2_with fail;go_roundw;case rel=>exact .inr ⟨rfl,hb,hg⟩
   case measure=>simp[intOf]
  ·clear hl hl';go_wp2_with fail;go_end0
   exact⟨rfl,hb,hg⟩
theorem aKL(g:Nat):∀w,(Instr.sliceAt 273 (.pointer (some (tZ g 0))) none none none).run prog w=.ok (.slice (some (tZ g 0)) 32 32) w:=by
 intro w;have hlen:prog.arrayLen 273=32:=by kernel_rfl
 have hun:prog.underlying 273=some (.array (prog.arrayLen 273) (prog.elem 273)):=by kernel_rfl
 have JG:∀w,(sizeOf (prog.elem 273)).run prog w=.ok 1 w:=fun w=>by kernel_rfl
 rw[run_sliceAt_array_all w 273 ⟨g,0,none⟩ hun,JG,hlen];simp only[Result.andThen_ok,slicedAt];rw[if_neg (by decide)];rfl
theorem aDn(A:Option Addr)(n c:Nat)(bs:List UInt8)(w:World)(hr:ai w w.heap.size 1 A n (bs.map bV))(hn:n<=1000000000):
  Calls prog 114 #[.slice A n c] w fun e w'=>∃g,e=.returned (.slice (some (tZ g 0)) 32 32)/\ai w' w'.heap.size 1 (some (tZ g 0)) 32 ((pR bs).map bV)/\Below w.heap.size w w':=by
 have hbl:bs.length=n:=by simpa using hr.len
 have yh:=hid hbl;have HR:=hid hr;clear hbl hr;obtain⟨SU,Ih⟩:∃SU,pR bs=SU:=⟨_,rfl⟩;have Fb:Hid (SU.length=32):=hid (by rw[<-Ih];rfl);have HU:Hid (∀x,x=bs->(qp.write x).sum=SU):=hid (fun x hx=>by rw[hx];exact Ih);rw[Ih];clear Ih;have hz:=aCd;have hzs:=aAw;go_enter func114,ntmps114;go_wp2_with fail;refine(aHV w).mono ?_;rintro e w1⟨rfl,hx,hb1⟩;have hgl:=hx.lt;go_wp2_with fail;have hcell:(w1.alloc (.cells #[.slice A n c] 37)).cell? (tZ w1.heap.size 0)=some (.slice A n c):=(ak.new w1 37 [.slice A n c]).cellAt rfl;refine(aMM w1.heap.size w.heap.size qp A n c 1 bs _ hcell (hx.alloc _) aCR (((HR.out.belowS hb1).alloc (Nat.le_refl _) _).more (by simp)) (by show 0+n<=_;omega) (fun ad h h0=>by
  obtain⟨ad2,e2,hlt,_⟩:=HR.out.form h0;rw[h]at e2;injection e2 with e2
  subst e2;omega)).mono ?_
 rintro e w3⟨rfl,hx3,hg3⟩;have DX:=(aC hb1 (.cells #[.slice A n c] 37)).grown hg3 (by have:=hb1.size;simp;omega) (fun k hk=>by injection hk with hk;omega);clear hcell hx;go_wp2_with fail;refine(aGW w.heap.size (qp.write bs) w3 hx3 (aDE _ _ aCR) (by rw[aD7,yh.out];omega)).mono ?_;rintro e w4⟨rfl,hb4⟩;rw[HU.out _ rfl];have zi:=ag DX hb4;clear hx3 hg3 DX hb4 hb1;obtain⟨w5,zo,uP,hblk⟩:∃w5:World,w4.alloc (.cells (SU.map bV).toArray 273)=w5/\Below w4.heap.size w4 w5/\ak w5 w4.heap.size 273 (SU.map bV):=
  ⟨_,rfl,(Below.refl _ _).alloc (Nat.le_refl _) _,ak.new w4 _ _⟩
 have H5:=hid zo;have wP:=hid hblk;have zB:=hid (ag zi uP);clear zo hblk uP zi;have hsl:=aKL w4.heap.size;go_wp2_with (refine wpList_store_row rfl 273 _ _ rfl w4.heap.size (SU.map bV).toArray rfl rfl 273 KE (heap_alloc_new w4 _) (aB6 _ (by simp[Fb.out])) (by simp[Fb.out,aAw]) (aCO _) ?_;rw[World.setRow_alloc_new,H5.out])
 go_ret;exact⟨w4.heap.size,rfl,by have:=wP.out.reads 32 (by rw[List.length_map,Fb.out];exact Nat.le_refl _);rw[List.take_of_length_le (by rw[List.length_map,Fb.out];exact Nat.le_refl _)]at this;exact this,zB.out⟩
theorem aDr(A:Option Addr)(n c:Nat)(bs:List UInt8)(w:World)(hr:ai w w.heap.size 1 A n (bs.map bV))(hn:n<=1000000000):
  Calls prog 115 #[.slice A n c] w fun e w'=>∃A' c',e=.returned (.slice A' 4 c')/\w'.ownsRow w.heap.size 5 1 (.slice A' 4 c') 4 ((aV ((gY bs).toNat:Int) 4).map bV)/\Below w.heap.size w w':=by
 have HR:=hid hr;clear hr;have hlt:=(gY bs).isLt;obtain⟨X,hX⟩:∃X,gY bs=X:=⟨_,rfl⟩;rw[hX]at hlt ⊢;have HX:=hid hX;clear hX;obtain⟨P4,Dv⟩:∃P4,aV (X.toNat:Int) 4=P4:=⟨_,rfl⟩;rw[Dv];have G5:=hid Dv;clear Dv;go_enter func115,ntmps115;go_wp2_with fail;refine(aD1 w).mono ?_;rintro e w1⟨g,rfl,hg,ht,hb1⟩;have hq:=hid (aFa g A n c bs _ w1 ht (HR.out.belowS hb1) (by omega));rw[HX.out]at hq;clear ht;go_wp2_with fail;refine hq.out.mono ?_;rintro e w2⟨rfl,rfl⟩;go_wp2_with fail;refine(Ky 4 4 rfl 4 none 0 0 rfl [] (X.toNat:Int) w1 ai.empty (by decide)).mono ?_;rintro e w3⟨A3,c3,rfl,hown,hb3⟩;rw[List.nil_append,G5.out]at hown;have hown2:=bh hown hb1.size;go_wp2_with fail;go_ret;exact⟨A3,c3,rfl,hown2,ag hb1 hb3⟩
theorem aHW(i:aO)(A:Option Addr)(c:Nat)(w:World)(hr:ai w w.heap.size 1 A i.code.length (i.code.map bV))(hlc:i.code.length<=c)(hc:c<=maxLen)(h:uu i=true):
  Calls prog 53 #[eM i A c] w fun e w'=>∃A' c',e=.returned (.tuple #[.slice A' (49+i.code.length) c',iV 0])/\w'.ownsRow w.heap.size 5 1 (.slice A' (49+i.code.length) c') (49+i.code.length) ((pI i).map bV)/\Below w.heap.size w w':=by
 have KH:=(eQ i).1 h;have hn96:i.code.length<=96:=by have:=KH.2.2.2.2.2.2.2.2;omega
 have hq:=hid (fun w=>LU i A c w (by omega));have hh:=hid (fun w h=>aMa i A c w h hlc hc);rw[h]at hq;have HI:Hid (pI i=pg (jD i)++aV ((gY (pg (jD i))).toNat:Int) 4):=hid rfl;have HD:Hid (pg (jD i)=jD i++pR (jD i)):=hid rfl;generalize pI i=IB at*
 generalize jD i=hb at*
 obtain⟨n,hn⟩:∃n,i.code.length=n:=⟨_,rfl⟩;have hmin:min n 65535=n:=by omega
 simp only[eM]at hq hh ⊢;rw[hn]at hq hh hr hlc hn96 ⊢;rw[hmin]at hh;clear hn h KH hmin;have HR:=hid hr;obtain⟨w1,hw1,hb1,hblk⟩:∃w1:World,w.alloc (.cells #[iV i.part,iV i.ver,iV i.uw,iV i.mem,iV i.fuel,iV i.sends,iV i.uj,.slice A n c] 39)=w1/\Below w.heap.size w w1/\ak w1 w.heap.size 39 [iV i.part,iV i.ver,iV i.uw,iV i.mem,iV i.fuel,iV i.sends,iV i.uj,.slice A n c]:=
  ⟨_,rfl,(Below.refl _ _).alloc (Nat.le_refl _) _,ak.new w _ [iV i.part,iV i.ver,iV i.uw,iV i.mem,iV i.fuel,iV i.sends,iV i.uj,.slice A n c]⟩
 obtain⟨b0,b1,b2,b3,b4,b5,b6,b7⟩:_/\_/\_/\_/\_/\_/\_/\_:=⟨hblk.cellAt (i:=0) rfl,hblk.cellAt (i:=1) rfl,hblk.cellAt (i:=2) rfl,hblk.cellAt (i:=3) rfl,hblk.cellAt (i:=4) rfl,hblk.cellAt (i:=5) rfl,hblk.cellAt (i:=6) rfl,hblk.cellAt (i:=7) rfl⟩;go_enter func53,ntmps53;go_wp2_with fail;refine(hq.out _).mono ?_;rintro e w2⟨rfl,hb2⟩;clear b0 b1 b2 b3 b4 b5 b6 b7;have aRY:=ag hb1 hb2;have uo:=hblk.belowS hb2;obtain⟨c0,c1,c2,c3,c4,c5,c6,c7⟩:_/\_/\_/\_/\_/\_/\_/\_:=⟨uo.cellAt (i:=0) rfl,uo.cellAt (i:=1) rfl,uo.cellAt (i:=2) rfl,uo.cellAt (i:=3) rfl,uo.cellAt (i:=4) rfl,uo.cellAt (i:=5) rfl,uo.cellAt (i:=6) rfl,uo.cellAt (i:=7) rfl⟩;clear hw1 hr hblk uo;go_wp2_with fail;refine(hh.out w2 (HR.out.belowS aRY)).mono ?_;rintro e w3⟨A3,GI,rfl,uU,hb3⟩;have DX:=ag aRY hb3;have hs2:=aRY.size;clear c0 c1 c2 c3 c4 c5 c6 c7;go_wp2_with fail;refine(aDn A3 (13+n) GI hb w3 (ai.uA uU) (by omega)).mono ?_;rintro e w4⟨g4,rfl,hr4,hb4⟩;have wI:=kG uU hb4;have zi:=ag DX hb4;have hs4:=hb4.size;have hs3:=hb3.size;clear uU;go_wp2_with (at_builtin;refine JV _ rfl _ _ rfl w2.heap.size A3 (13+n) GI hb rfl wI _ (some (tZ g4 0)) 32 32 (pR hb) rfl hr4 (by omega) (by omega) ?_;intro A5 c5 w5 vG uZ uP)
 rw[<-HD.out]at vG;have aT3:=zi.trans (uP.mono hs2);have hs5:=aT3.size;have hz5:=uP.size;have aT4:=hid (aDr A5 (13+n+32) c5 (pg hb) w5 (ai.uA vG) (by omega));obtain⟨P4,Dv⟩:∃P4,aV ((gY (pg hb)).toNat:Int) 4=P4:=⟨_,rfl⟩;rw[Dv]at aT4;have HI2:Hid (IB=pg hb++P4):=hid (by rw[HI.out,Dv]);clear Dv HI hr4 wI uZ;refine aT4.out.mono ?_;rintro e w6⟨A6,c6,rfl,xn,uS⟩;have yN:=kG vG uS;have hb16:=ag aT3 uS;have hs6:=uS.size;clear vG;go_wp2_with (at_builtin;refine JV _ rfl _ _ rfl w2.heap.size A5 (13+n+32) c5 (pg hb) rfl yN _ A6 4 c6 P4 rfl (ai.uA xn) (by omega) (by omega) ?_;intro A7 c7 w7 aQK BO xQ;rw[<-HI2.out]at aQK;obtain⟨N,hN⟩:∃N,13+n+32+4=N:=⟨_,rfl⟩;rw[hN]at aQK ⊢)
 have BK:=bh aQK hs2;have hb17:=hb16.trans (xQ.mono hs2);obtain rfl:N=49+n:=by omega
 go_ret2;exact⟨A7,c7,rfl,BK,hb17⟩
theorem aDP{w0 w:World}(t:aG)(a:bM)(h:mg w0 t a)(hb:Below w0.heap.size w0 w):
  Calls prog 32 #[.agg #[iV t.frame,.slice a.A1 t.parts.length a.c1,.slice a.A2 t.wins.length a.c2,.slice a.A3 t.chans.length a.c3,iV t.trial]] w fun e w'=>e=.returned (.bool (aS t))/\Below w.heap.size w w':=by
 by_cases hh:jZ t=true
 ·exact aBq t a w hh
 ·have hh':jZ t=false:=by simpa using hh
  have h1:=hh';unfold jZ at h1;simp only[Bool.or_eq_false_iff,decide_eq_false_iff_not]at h1;exact aBz t a w ⟨h.zn.belowS hb,by omega,by omega,by omega,h.f1,h.f2⟩
theorem aIb{w0 w:World}{t:aG}{a:bM}(h:mg w0 t a)(hb:Below w0.heap.size w0 w)(hr:aS t=true):dM w t a:=by
 have hR:=(bK t).1 hr;exact⟨h.zn.belowS hb,by have:=hR.p2;omega,by have:=hR.w8;omega,by have:=hR.c4;omega,h.f1,h.f2⟩
end Go.Proofs.YtfjkpigldogkeaaGreatDoor
