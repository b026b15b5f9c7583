/- Contracts of functions that TopQuiet reaches, under the conditions that each states. -/
import Derived.Test.YtfjkpigldogkeaaGreatDoorQad
import Derived.Test.YtfjkpigldogkeaaGreatDoorQae
import Derived.Test.YtfjkpigldogkeaaGreatDoorQaj
set_option linter.all false
set_option maxHeartbeats 2000000
namespace Go.Proofs.YtfjkpigldogkeaaGreatDoor
open Go.RowKit Go.ChangeShapes Go.WideShapes Go.ChangeAt Go.Proofs.Tryz
theorem ah(w:World)(o:Obj):Below w.heap.size w (w.alloc o):=(Below.refl _ _).alloc (Nat.le_refl _) _
theorem dh{w:World}{p:Addr}{u:Value}(h:w.cell? p=some u)(o:Obj):(w.alloc o).cell? p=some u:=(JB (Below.heap_alloc _ _ _ (World.block_lt_of_cell? w p h))).trans h
def tG(d:Int):bP->Prop
 | .last m is=>d=0/\(is=false->m=0)
 | .row l D=>d=(D:Int)/\0<D/\l.length<=D
def jA(cs:List aB)(ss:Nat->bP):Prop:=∀k,k<cs.length->tG (ju cs k) (ss k)
def hL(ss:Nat->bP)(j:Nat):List Int:=aPW (ss j)
theorem jA.uh{cs:List aB}{ss:Nat->bP}(h:jA cs ss){k:Nat}{s:bP}(hs:tG (ju cs k) s):jA cs (kF ss k s):=fun j hj=>by
 by_cases e:j=k
 ·subst e;rw[dV];exact hs
 ·rw[eP _ _ _ _ e];exact h j hj
theorem tG.send{d:Int}{s:bP}(h:tG d s)(v:Int):tG d (rB v s):=by
 cases s with
 |last m is=>exact⟨h.1,fun e=>by cases e⟩
 |row l D=>
  by_cases hl:l.length=D
  ·rw[show rB v (.row l D)=.row l D from if_pos hl];exact h
  ·rw[show rB v (.row l D)=.row (l++[v]) D from if_neg hl];refine⟨h.1,h.2.1,?_⟩;have:=h.2.2;simp;omega
theorem tG.get{d:Int}{s:bP}(h:tG d s):tG d (LG s):=by
 cases s with
 |last m is=>exact h
 |row l D=>
  cases l with
  |nil=>exact h
  |cons x l=>
   refine⟨h.1,h.2.1,?_⟩;have h9:l.length+1<=D:=h.2.2;omega
theorem tG.small{d:Int}{s:bP}(h:tG d s)(hd:d<=4):aFF s:=by
 cases s with
 |last m is=>trivial
 |row l D=>
  have h1:=h.1;have h2:=h.2.2;show l.length<=100000
  omega
theorem tG.zero{d:Int}(h:0<=d):tG d (qZ d):=by
 by_cases h0:0<d
 ·rw[aBI h0];exact⟨by omega,by omega,Nat.zero_le _⟩
 ·rw[aC1 h0];exact⟨by omega,fun _=>rfl⟩
def kP(cs:List aB)(k:Int):Option aB:=if 0<=k then cs[k.toNat]? else none
theorem aAg{cs:List aB}{k:Int}{x:aB}(h:kP cs k=some x):∃j:Nat,k=(j:Int)/\cs[j]? =some x:=by
 unfold kP at h;split at h
 ·exact⟨k.toNat,by omega,h⟩
 ·cases h
theorem aCj{cs:List aB}{k:Int}(h:kP cs k=none):¬(0<=k/\k<cs.length):=by
 rintro⟨h1,h2⟩;unfold kP at h;rw[if_pos h1,List.getElem?_eq_getElem (show k.toNat<cs.length by omega)]at h;cases h
def wC(cs:List aB)(ss:Nat->bP)(p k v:Int):Bool×Int×(Nat->bP):=
 match kP cs k with
 |none=>(false,15,ss)
 |some x=>if x.src≠p then(false,15,ss)else if v<0\/65535<v then(false,3,ss)else(aIl (ss k.toNat),0,kF ss k.toNat (rB v (ss k.toNat)))
def xE(cs:List aB)(ss:Nat->bP)(p k:Int):Int×Bool×Int×(Nat->bP):=
 match kP cs k with
 |none=>(0,false,15,ss)
 |some x=>if x.dst≠p then(0,false,15,ss)else(aPt (ss k.toNat),aPy (ss k.toNat),0,kF ss k.toNat (LG (ss k.toNat)))
section
variable{cs:List aB}{ss:Nat->bP}
theorem jA.wC(h:jA cs ss)(p k v:Int):jA cs (wC cs ss p k v).2.2:=by
 unfold Go.Proofs.YtfjkpigldogkeaaGreatDoor.wC;cases hx:kP cs k with
 |none=>exact h
 |some x=>
  obtain⟨j,rfl,hj⟩:=aAg hx;simp only;split
  ·exact h
  ·split
   ·exact h
   ·rw[Int.toNat_natCast];exact h.uh ((h j (List.getElem?_eq_some_iff.1 hj).1).send v)
theorem jA.xE(h:jA cs ss)(p k:Int):jA cs (xE cs ss p k).2.2.2:=by
 unfold Go.Proofs.YtfjkpigldogkeaaGreatDoor.xE;cases hx:kP cs k with
 |none=>exact h
 |some x=>
  obtain⟨j,rfl,hj⟩:=aAg hx;simp only;split
  ·exact h
  ·rw[Int.toNat_natCast];exact h.uh (h j (List.getElem?_eq_some_iff.1 hj).1).get
variable{w:World}{F:Nat->Prop}{g gR:Nat}
theorem aJO(h:eG w F g cs ss)(hK:jA cs ss)(hd:∀k,k<cs.length->ju cs k<=4)(p k v:Int):
  Calls prog 445 #[.pointer (some (tZ g 0)),iV p,iV k,iV v] w (kU F w g cs (.returned (.tuple #[.bool (wC cs ss p k v).1,iV (wC cs ss p k v).2.1])) (wC cs ss p k v).2.2):=by
 unfold wC;cases hx:kP cs k with
 |none=>exact(aC9 h p k v (.inl (aCj hx))).mono fun e w' ⟨he,hw⟩=>kU.same h he (by rw[hw];exact Below.refl _ _)
 |some x=>
  obtain⟨j,rfl,hj⟩:=aAg hx;have hjl:=(List.getElem?_eq_some_iff.1 hj).1;simp only;by_cases hp:x.src=p
  ·subst hp;rw[if_neg (by simp)];by_cases hv:v<0\/65535<v
   ·rw[if_pos hv];exact(aJV h hj v hv).mono fun e w' ⟨he,hw⟩=>kU.same h he (by rw[hw];exact Below.refl _ _)
   ·rw[if_neg hv,Int.toNat_natCast];exact aNL h hj ((hK j hjl).small (hd j hjl)) v (by omega) (by omega)
  ·rw[if_pos hp];exact(aC9 h p (j:Int) v (.inr ⟨x,by rw[Int.toNat_natCast];exact hj,Int.natCast_nonneg _,hp⟩)).mono fun e w' ⟨he,hw⟩=>kU.same h he (by rw[hw];exact Below.refl _ _)
theorem aLE(h:eG w F g cs ss)(p k:Int):
  Calls prog 443 #[.pointer (some (tZ g 0)),iV p,iV k] w (kU F w g cs (.returned (.tuple #[iV (xE cs ss p k).1,.bool (xE cs ss p k).2.1,iV (xE cs ss p k).2.2.1])) (xE cs ss p k).2.2.2):=by
 unfold xE;cases hx:kP cs k with
 |none=>exact(aCz h p k (.inl (aCj hx))).mono fun e w' ⟨he,hw⟩=>kU.same h he (by rw[hw];exact Below.refl _ _)
 |some x=>
  obtain⟨j,rfl,hj⟩:=aAg hx;simp only;by_cases hp:x.dst=p
  ·subst hp;rw[if_neg (by simp),Int.toNat_natCast];exact aOk h hj
  ·rw[if_pos hp];exact(aCz h p (j:Int) (.inr ⟨x,by rw[Int.toNat_natCast];exact hj,Int.natCast_nonneg _,hp⟩)).mono fun e w' ⟨he,hw⟩=>kU.same h he (by rw[hw];exact Below.refl _ _)
end
def sH(n:Int):Int:=n%65536
theorem aP0(n:Int):0<=sH n:=Int.emod_nonneg _ (by decide)
theorem aP3(n:Int):sH n<=65535:=by have:=Int.emod_lt_of_pos n (show(0:Int)<65536 by decide);unfold sH;omega
structure nM where
 pc:Int
 stack:List Int
 mem:List Int
 ticks:Int
 fault:Int
structure nJ where
 stack:List Int
 mem:List Int
 next:Int
 sent:List (Int×Int)
 uD:Bool
 ss:Nat->bP
def LN(o:Nat):Bool:=o==1||o==10||o==11||o==12||o==13||o==14||o==15
def rI(code:List UInt8)(pc:Int):Option (Nat×Int×Int):=
 if pc<0 then none else
 match code[pc.toNat]? with
 |none=>none
 |some b=>if 18<b.toNat then none else
  if LN b.toNat=false then some (b.toNat,0,pc+1)else
  match code[pc.toNat+1]? with
  |none=>none
  |some c=>some (b.toNat,(c.toNat:Int),pc+2)
def cu(n take lay:Nat):Int:=if n<take then 5 else if 8<n-take+lay then 14 else 0
def fL(s:List Int)(take:Nat)(lay:List Int):List Int:=s.take (s.length-take)++lay.map sH
def fE(s:List Int)(k:Nat):Int:=s.getD (s.length-1-k) 0
def qI(take:Nat)(lay:List Int)(d:nJ):Int×nJ:=
 if cu d.stack.length take lay.length=0 then(0,{d with stack:=fL d.stack take lay})else(cu d.stack.length take lay.length,d)
def jB(f:Int->Int->Int)(d:nJ):Int×nJ:=qI 2 [f (fE d.stack 1) (fE d.stack 0)] d
def pF(b:Bool):Int:=if b then 1 else 0
def rW(n k:Int):Bool:=decide (n/2^k.toNat%2=1)
def bG(i:aO)(cs:List aB)(ticks:Int)(o:Nat)(a:Int)(d:nJ):Int×nJ:=
 match o with
 |0=>(0,d)
 |1=>qI 0 [a] d
 |2=>qI 1 [] d
 |3=>if cu d.stack.length 1 2=0 then(0,{d with stack:=fL d.stack 0 [fE d.stack 0]})else(cu d.stack.length 1 2,d)
 |4=>qI 2 [fE d.stack 0,fE d.stack 1] d
 |5=>jB (fun x y=>x+y) d
 |6=>jB (fun x y=>x-y) d
 |7=>jB (fun x y=>x*y) d
 |8=>jB (fun x y=>pF (decide (x<y))) d
 |9=>jB (fun x y=>pF (decide (x=y))) d
 |10=>if(d.mem.length:Int)<=a then(3,d)else qI 0 [d.mem.getD a.toNat 0] d
 |11=>if(d.mem.length:Int)<=a then(3,d)else
   if cu d.stack.length 1 0=0 then(0,{d with stack:=fL d.stack 1 [],mem:=d.mem.set a.toNat (fE d.stack 0)})else(cu d.stack.length 1 0,d)
 |12=>if(i.code.length:Int)<=a then(3,d)else(0,{d with next:=a})
 |13=>if(i.code.length:Int)<=a then(3,d)else
   if cu d.stack.length 1 0=0 then(0,{d with stack:=fL d.stack 1 [],next:=if fE d.stack 0=0 then a else d.next})else(cu d.stack.length 1 0,d)
 |14=>if rW i.sends a=false then(15,d)else
   if cu d.stack.length 1 0=0 then
    (if(wC cs d.ss i.part a (fE d.stack 0)).2.1=0 then(0,{d with stack:=fL d.stack 1 [],sent:=d.sent++[(a,fE d.stack 0)],ss:=(wC cs d.ss i.part a (fE d.stack 0)).2.2})else(15,d))
   else(cu d.stack.length 1 0,d)
 |15=>if rW i.uj a=false then(15,d)else
   if cu d.stack.length 0 2=0 then
    (if(xE cs d.ss i.part a).2.2.1=0 then(0,{d with stack:=fL d.stack 0 (if(xE cs d.ss i.part a).2.1 then[(xE cs d.ss i.part a).1,1]else[0]),ss:=(xE cs d.ss i.part a).2.2.2})else(15,d))
   else(cu d.stack.length 0 2,d)
 |16=>(0,{d with uD:=true})
 |17=>(16,d)
 |_=>qI 0 [ticks] d
def lH(i:aO)(cs:List aB)(ticks:Int):Nat->Int->nJ->Int×Int×nJ
 |0,pc,d=>(pc,0,d)
 |n+1,pc,d=>
  match rI i.code pc with
  |none=>(pc,19,d)
  |some (o,a,nx)=>
   if(bG i cs ticks o a {d with next:=nx}).1=0 then
    (if o=0 then((bG i cs ticks o a {d with next:=nx}).2.next,0,(bG i cs ticks o a {d with next:=nx}).2)
     else lH i cs ticks n (bG i cs ticks o a {d with next:=nx}).2.next (bG i cs ticks o a {d with next:=nx}).2)
   else(pc,(bG i cs ticks o a {d with next:=nx}).1,(bG i cs ticks o a {d with next:=nx}).2)
def jQ(s:nM)(ss:Nat->bP):nJ:=⟨s.stack,s.mem,0,[],false,ss⟩
def gp(i:aO)(cs:List aB)(s:nM)(ss:Nat->bP):nM×(Nat->bP)×List (Int×Int)×Bool:=
 if s.fault≠0 then(s,ss,[],false)else
 let r:=lH i cs s.ticks i.fuel.toNat s.pc (jQ s ss)
 (⟨r.1,r.2.2.stack,r.2.2.mem,s.ticks+1,r.2.1⟩,r.2.2.ss,r.2.2.sent,r.2.2.uD)
structure qQ (i:aO) (d:nJ):Prop where
 len:d.stack.length<=8
 st:∀x∈d.stack,0<=x/\x<=65535
 xG:(d.mem.length:Int)=i.mem
 me:∀x∈d.mem,0<=x/\x<=65535
theorem LO{g b:Nat}:bH (some (tZ g 0)) b↔b=g:=by
 unfold bH;constructor
 ·rintro⟨a,ha,rfl⟩;injection ha with ha;subst ha;rfl
 ·rintro rfl;exact⟨_,rfl,rfl⟩
theorem aN{A:Option Addr}{n c:Nat}{b:Nat}:(Value.slice A n c).ownBlock=some b↔bH A b:=by
 unfold Value.ownBlock bH;cases A<;>simp
def JI(w:World)(b:Nat)(T:TypeId):Prop:=∃cur m,w.heap[b]? =some (.cells cur T m)
theorem JI.yA{w:World}{b b':Nat}{T T':TypeId}(h:JI w b T)(h':JI w b' T')(hne:T≠T'):b≠b':=by
 rintro rfl;obtain⟨c,m,h⟩:=h;obtain⟨c',m',h'⟩:=h';rw[h]at h';injection h' with h'
 injection h' with _ ht
 exact hne ht
section
variable{w w':World}{T e:TypeId}{g base size n c:Nat}{cs xs:List Value}{A:Option Addr}
theorem ak.ty(h:ak w g T cs):JI w g T:=⟨_,_,h⟩
theorem jb.ty(h:jb w e A n c xs){b:Nat}(hb:bH A b):JI w b e:=by
 obtain⟨a,ha,rfl⟩:=hb;rcases h.2.2.2 with⟨h1,_⟩|⟨g',cur,h1,h2,_⟩
 ·rw[h1]at ha;cases ha
 ·rw[h1]at ha;injection ha with ha;subst ha;exact⟨_,_,h2⟩
theorem JJ(h:w.ownsRow base e size (.slice A n c) n xs){b:Nat}(hb:bH A b):JI w b e:=by
 rcases h.2 with⟨hv,_⟩|⟨g',cap,cur,hv,hg,hh,r⟩
 ·injection hv with hv
  subst hv;obtain⟨a,ha,_⟩:=hb;cases ha
 ·injection hv with hv
  subst hv;obtain⟨a,ha,rfl⟩:=hb;injection ha with ha
  subst ha;exact⟨_,_,hh⟩
theorem dS(h:w.ownsRow base e size (.slice A n c) n xs)(hk:∀b,bH A b->w'.heap[b]? =w.heap[b]?):w'.ownsRow base e size (.slice A n c) n xs:=by
 refine⟨h.1,?_⟩;rcases h.2 with h2|⟨g,cap,cur,hv,hg,hh,r⟩
 ·exact .inl h2
 ·exact .inr ⟨g,cap,cur,hv,hg,(hk g (by injection hv with hv;exact⟨_,hv,rfl⟩)).trans hh,r⟩
theorem pq(h:w.ownsRow base e size (.slice A n c) n xs){b:Nat}(hb:bH A b):b<w.heap.size:=(h.lt b (aN.2 hb)).2
theorem jb.uA(h:w.ownsRow base e 1 (.slice A n c) n xs):jb w e A n c xs:=by
 have hcap:=nB h;refine⟨by simpa using h.1,hcap.1,hcap.2,?_⟩;rcases h.2 with⟨hv,_⟩|⟨g,cap,cur,hv,hg,hh,h1,h2,h3,h4⟩
 ·injection hv with h5 _ h6
  exact .inl ⟨h5,h6⟩
 ·injection hv with h5 _ h6
  subst h6;exact .inr ⟨g,cur,h5,hh,by simp at h3;omega,by simpa using h4⟩
end
structure su where
 Ac:Option Addr
 cc:Nat
 As:Option Addr
 cS:Nat
 Am:Option Addr
 cM:Nat
def nC(i:aO)(a:su)(s:nM):List Value:=[iV i.part,iV i.ver,iV i.uw,iV i.mem,iV i.fuel,iV i.sends,iV i.uj,.slice a.Ac i.code.length a.cc,iV s.pc,.slice a.As s.stack.length a.cS,.slice a.Am s.mem.length a.cM,iV s.ticks,iV s.fault]
structure dm (w:World) (g:Nat) (i:aO) (a:su) (s:nM):Prop where
 blk:ak w g 336 (nC i a s)
 cd:jb w 5 a.Ac i.code.length a.cc (i.code.map bV)
 st:jb w 3 a.As s.stack.length a.cS (s.stack.map iV)
 me:jb w 3 a.Am s.mem.length a.cM (s.mem.map iV)
 ap:∀b,bH a.As b->¬bH a.Am b
def fK(g:Nat)(a:su)(b:Nat):Prop:=b=g\/bH a.Ac b\/bH a.As b\/bH a.Am b
def nK(w:World)(F:Nat->Prop)(g:Nat)(i:aO)(s:nM):Prop:=∃a,dm w g i a s/\∀b,F b↔fK g a b
section
variable{w w':World}{F:Nat->Prop}{g:Nat}{i:aO}{a:su}{s:nM}
theorem dm.lt(h:dm w g i a s){b:Nat}(hb:fK g a b):b<w.heap.size:=by
 rcases hb with rfl|hb|hb|hb
 ·exact h.blk.lt
 ·exact h.cd.lt hb
 ·exact h.st.lt hb
 ·exact h.me.lt hb
theorem dm.keep(h:dm w g i a s)(hk:∀b,fK g a b->w'.heap[b]? =w.heap[b]?):dm w' g i a s:=
 ⟨(hk g (.inl rfl)).trans h.blk,h.cd.keep fun b hb=>hk b (.inr (.inl hb)),h.st.keep fun b hb=>hk b (.inr (.inr (.inl hb))),h.me.keep fun b hb=>hk b (.inr (.inr (.inr hb))),h.ap⟩
theorem dm.belowS(h:dm w g i a s)(hb:Below w.heap.size w w'):dm w' g i a s:=h.keep fun b hf=>hb.block b (h.lt hf)
theorem nK.lt(h:nK w F g i s){b:Nat}(hb:F b):b<w.heap.size:=by
 obtain⟨a,h1,h2⟩:=h;exact h1.lt ((h2 b).1 hb)
theorem nK.keep(h:nK w F g i s)(hk:∀b,F b->w'.heap[b]? =w.heap[b]?):nK w' F g i s:=by
 obtain⟨a,h1,h2⟩:=h;exact⟨a,h1.keep fun b hb=>hk b ((h2 b).2 hb),h2⟩
theorem nK.belowS(h:nK w F g i s)(hb:Below w.heap.size w w'):nK w' F g i s:=h.keep fun b hf=>hb.block b (h.lt hf)
theorem dm.at_(h:dm w g i a s):nK w (fK g a) g i s:=⟨a,h,fun _=>Iff.rfl⟩
theorem dm.off(h:dm w g i a s):¬bH a.Ac g/\¬bH a.As g/\¬bH a.Am g:=
 ⟨fun hf=>(h.cd.ty hf).yA h.blk.ty (by decide) rfl,fun hf=>(h.st.ty hf).yA h.blk.ty (by decide) rfl,fun hf=>(h.me.ty hf).yA h.blk.ty (by decide) rfl⟩
theorem dm.aSp(h:dm w g i a s){b:Nat}(hb:bH a.Ac b):¬bH a.As b/\¬bH a.Am b:=
 ⟨fun hf=>(h.cd.ty hb).yA (h.st.ty hf) (by decide) rfl,fun hf=>(h.cd.ty hb).yA (h.me.ty hf) (by decide) rfl⟩
theorem dm.stack(h:dm w g i a s){A':Option Addr}{c':Nat}{st':List Int}{s':nM}(hs:s'.stack=st')(hm:s'.mem=s.mem)(ha:bD (fun b=>b=g\/bH a.As b) w w')(hblk:ak w' g 336 (nC i {a with As:=A',cS:=c'} s'))
(hr:jb w' 3 A' st'.length c' (st'.map iV))(hA:∀b,bH A' b->bH a.As b\/w.heap.size<=b):
  dm w' g i {a with As:=A',cS:=c'} s'/\bZ (fK g a) w (fK g {a with As:=A',cS:=c'}) w':=by
 subst hs;refine⟨⟨hblk,h.cd.keep fun b hb=>ha.block b (h.cd.lt hb) (fun Et=>Et.elim (fun e=>h.off.1 (e▸hb)) (h.aSp hb).1),hr,?_,fun b hb hb2=>?_⟩,⟨⟨ha.os,ha.tape,ha.output,ha.size,fun b hb hF=>ha.block b hb (fun Et=>hF (Et.elim .inl (fun h9=>.inr (.inr (.inl h9)))))⟩,fun b hb=>?_⟩⟩
 ·rw[hm];exact h.me.keep fun b hb=>ha.block b (h.me.lt hb) (fun Et=>Et.elim (fun e=>h.off.2.2 (e▸hb)) (fun h9=>h.ap b h9 hb))
 ·rcases hA b hb with h9|h9
  ·exact h.ap b h9 hb2
  ·have:=h.me.lt hb2;omega
 ·rcases hb with rfl|hb|hb|hb
  ·exact .inl (.inl rfl)
  ·exact .inl (.inr (.inl hb))
  ·exact(hA b hb).imp_left fun h9=>.inr (.inr (.inl h9))
  ·exact .inl (.inr (.inr (.inr hb)))
theorem dm.word(h:dm w g i a s){am:Nat}(Hq:a.Am=some (tZ am 0))(k:Nat)(x:Int):
  dm (w.setCell (tZ am k) (iV x)) g i a {s with mem:=s.mem.set k x}/\bZ (fK g a) w (fK g a) (w.setCell (tZ am k) (iV x)):=by
 have hf:bH a.Am am:=⟨_,Hq,rfl⟩;have hk:∀b,b≠am->(w.setCell (tZ am k) (iV x)).heap[b]? =w.heap[b]? :=fun b hb=>Below.heap_setCell _ _ _ _ hb
 refine⟨⟨?_,h.cd.keep fun b hb=>hk b (fun e=>(h.aSp hb).2 (e▸hf)),h.st.keep fun b hb=>hk b (fun e=>h.ap b hb (e▸hf)),?_,h.ap⟩,⟨(bD.refl _ _).setCell (.inl (.inr (.inr (.inr hf)))) _,fun _ h=>.inl h⟩⟩
 ·have:=(hk g (fun e=>h.off.2.2 (e▸hf))).trans h.blk;show ak _ g _ (nC i a _)
  unfold nC;simp only[List.length_set];exact this
 ·have h1:=h.me;rw[Hq]at h1 ⊢;simp only[List.length_set,List.map_set];exact h1.uh k (iV x)
end
def gq(q:Int×Int):List Value:=[iV q.1,iV q.2]
def rF(g gs:Nat)(arg next:Int)(Ao:Option Addr)(n cO:Nat)(uD:Bool):List Value:=[.pointer (some (tZ g 0)),.iface 121 (.pointer (some (tZ gs 0))),iV arg,iV next,.slice Ao n cO,.bool uD]
structure jY (w:World) (h g gs:Nat) (arg:Int) (Ao:Option Addr) (cO:Nat) (d:nJ):Prop where
 blk:ak w h 417 (rF g gs arg d.next Ao d.sent.length cO d.uD)
 out:w.ownsRow 0 77 2 (.slice Ao d.sent.length cO) d.sent.length (d.sent.flatMap gq)
def o9(h:Nat)(Ao:Option Addr)(b:Nat):Prop:=b=h\/bH Ao b
def mP(pc ticks fault:Int)(d:nJ):nM:=⟨pc,d.stack,d.mem,ticks,fault⟩
def aF(w:World)(F:Nat->Prop)(h g gs:Nat)(i:aO)(cs:List aB)(pc ticks fault arg:Int)(d:nJ):Prop:=
 ∃a Ao cO F2,dm w g i a (mP pc ticks fault d)/\jY w h g gs arg Ao cO d/\eG w F2 gs cs d.ss/\(∀b,F2 b->¬fK g a b/\¬o9 h Ao b)/\∀b,F b↔fK g a b\/o9 h Ao b\/F2 b
section
variable{w w':World}{F:Nat->Prop}{h g gs:Nat}{i:aO}{a:su}{cs:List aB}{pc ticks fault arg:Int}{Ao:Option Addr}{cO:Nat}{d:nJ}
theorem jY.lt(r:jY w h g gs arg Ao cO d){b:Nat}(hb:o9 h Ao b):b<w.heap.size:=by
 rcases hb with rfl|hb
 ·exact r.blk.lt
 ·exact pq r.out hb
theorem jY.keep(r:jY w h g gs arg Ao cO d)(hk:∀b,o9 h Ao b->w'.heap[b]? =w.heap[b]?):jY w' h g gs arg Ao cO d:=
 ⟨(hk h (.inl rfl)).trans r.blk,dS r.out fun b hb=>hk b (.inr hb)⟩
theorem jY.off(r:jY w h g gs arg Ao cO d):¬bH Ao h:=fun hf=>(JJ r.out hf).yA r.blk.ty (by decide) rfl
theorem jY.apart(r:jY w h g gs arg Ao cO d){s:nM}(m:dm w g i a s){b:Nat}(hb:o9 h Ao b):¬fK g a b:=by
 rintro(rfl|h1|h1|h1)
 ·rcases hb with hb|hb
  ·exact m.blk.ty.yA r.blk.ty (by decide) hb
  ·exact m.blk.ty.yA (JJ r.out hb) (by decide) rfl
 ·rcases hb with rfl|hb
  ·exact(m.cd.ty h1).yA r.blk.ty (by decide) rfl
  ·exact(m.cd.ty h1).yA (JJ r.out hb) (by decide) rfl
 ·rcases hb with rfl|hb
  ·exact(m.st.ty h1).yA r.blk.ty (by decide) rfl
  ·exact(m.st.ty h1).yA (JJ r.out hb) (by decide) rfl
 ·rcases hb with rfl|hb
  ·exact(m.me.ty h1).yA r.blk.ty (by decide) rfl
  ·exact(m.me.ty h1).yA (JJ r.out hb) (by decide) rfl
theorem aF.lt(t:aF w F h g gs i cs pc ticks fault arg d){b:Nat}(hb:F b):b<w.heap.size:=by
 obtain⟨a,Ao,cO,F2,h1,h2,h3,_,h5⟩:=t;rcases(h5 b).1 hb with h6|h6|h6
 ·exact h1.lt h6
 ·exact h2.lt h6
 ·exact h3.lt h6
theorem aF.keep(t:aF w F h g gs i cs pc ticks fault arg d)(hs:w.heap.size<=w'.heap.size)(hk:∀b,F b->w'.heap[b]? =w.heap[b]?):aF w' F h g gs i cs pc ticks fault arg d:=by
 obtain⟨a,Ao,cO,F2,h1,h2,h3,h4,h5⟩:=t;exact⟨a,Ao,cO,F2,h1.keep fun b hb=>hk b ((h5 b).2 (.inl hb)),h2.keep fun b hb=>hk b ((h5 b).2 (.inr (.inl hb))),h3.keep hs fun b hb=>hk b ((h5 b).2 (.inr (.inr hb))),h4,h5⟩
theorem aF.belowS(t:aF w F h g gs i cs pc ticks fault arg d)(hb:Below w.heap.size w w'):aF w' F h g gs i cs pc ticks fault arg d:=t.keep hb.size fun b hf=>hb.block b (t.lt hf)
def bY(F:Nat->Prop)(w:World)(h g gs:Nat)(i:aO)(cs:List aB)(pc ticks fault arg:Int)(r:Int×nJ)(e:Ending)(w':World):Prop:=
 ∃F',e=.returned (iV r.1)/\aF w' F' h g gs i cs pc ticks fault arg r.2/\bZ F w F' w'
theorem bY.same{e:Ending}{E:Int}(t:aF w F h g gs i cs pc ticks fault arg d)(he:e=.returned (iV E))(hb:Below w.heap.size w w'):bY F w h g gs i cs pc ticks fault arg (E,d) e w':=
 ⟨F,he,t.belowS hb,bZ.of_below hb⟩
theorem bZ.Dz{G F':Nat->Prop}(hF:∀b,F b↔G b)(hg:bZ G w F' w'):bZ F w F' w':=
 ⟨⟨hg.apart.os,hg.apart.tape,hg.apart.output,hg.apart.size,fun b hb hf=>hg.apart.block b hb (fun wG=>hf ((hF b).2 wG))⟩,fun b hb=>(hg.foot b hb).imp_left (hF b).2⟩
theorem aF.mach{d':nJ}{pc' ticks' fault':Int}{F2:Nat->Prop}{a':su}(h1:dm w g i a (mP pc ticks fault d))(h2:jY w h g gs arg Ao cO d)(h3:eG w F2 gs cs d.ss)(h4:∀b,F2 b->¬fK g a b/\¬o9 h Ao b)(h5:∀b,F b↔fK g a b\/o9 h Ao b\/F2 b)
(hm:dm w' g i a' (mP pc' ticks' fault' d'))(hg:bZ (fK g a) w (fK g a') w')(hn:d'.next=d.next)(hs:d'.sent=d.sent)(hc:d'.uD=d.uD)(hss:d'.ss=d.ss):
  ∃F',aF w' F' h g gs i cs pc' ticks' fault' arg d'/\bZ F w F' w':=by
 have r':jY w' h g gs arg Ao cO d':=by
  have:=h2.keep (w':=w') fun b hb=>hg.apart.block b (h2.lt hb) (h2.apart h1 hb)
  refine⟨?_,?_⟩
  ·rw[hn,hs,hc];exact this.blk
  ·rw[hs];exact this.out
 refine⟨fun b=>fK g a' b\/o9 h Ao b\/F2 b,⟨a',Ao,cO,F2,hm,r',?_,fun b hb=>⟨fun hf=>?_,(h4 b hb).2⟩,fun b=>Iff.rfl⟩,bZ.Dz h5 ⟨⟨hg.apart.os,hg.apart.tape,hg.apart.output,hg.apart.size,fun b hb hF=>hg.apart.block b hb (fun hf=>hF (.inl hf))⟩,fun b hb=>?_⟩⟩
 ·rw[hss];exact h3.apart hg.apart fun b hb=>(h4 b hb).1
 ·rcases hg.foot b hf with h6|h6
  ·exact(h4 b hb).1 h6
  ·have:=h3.lt hb;omega
 ·rcases hb with hb|hb
  ·exact(hg.foot b hb).imp_left .inl
  ·exact .inl (.inr hb)
end
section
variable{w w':World}{F:Nat->Prop}{h g gs:Nat}{i:aO}{a:su}{s:nM}{cs:List aB}{pc ticks fault arg:Int}{Ao:Option Addr}{cO:Nat}{d:nJ}
theorem aLm(m:dm w g i a s)(r:jY w h g gs arg Ao cO d)(hl:s.stack.length<=100)(take lay:Nat)(tI lI:Int)(ht:tI=take)(hy:lI=lay)(h1:take<=8)(h2:lay<=8):
  Calls prog 384 #[.pointer (some (tZ h 0)),iV tI,iV lI] w fun e w'=>e=.returned (iV (cu s.stack.length take lay))/\w'=w:=by
 subst ht hy;have c0:w.cell? (tZ h 0)=some (.pointer (some (tZ g 0))):=r.blk.cellAt rfl;have c1:w.cell? (tZ g 9)=some (.slice a.As s.stack.length a.cS):=m.blk.cellAt rfl;clear m r;generalize s.stack.length=n at*
 by_cases hn:n<take
 ·have y0:decide ((n:Int)<(take:Int))=true:=decide_eq_true (by omega);have BZ:decide (n<take)=true:=decide_eq_true hn;have hr:Hid (cu n take lay=5):=hid (if_pos hn);clear hn;go_enter func384,ntmps384;go_wp2_with fail;go_ret;exact⟨by rw[hr.out];rfl,by first|trivial|rfl⟩
 have y0:decide ((n:Int)<(take:Int))=false:=decide_eq_false (by omega);have BZ:decide (n<take)=false:=decide_eq_false hn;by_cases h8:8<n-take+lay
 ·have y1:decide ((8:Int)<(n:Int)-(take:Int)+(lay:Int))=true:=decide_eq_true (by omega);have hr:Hid (cu n take lay=14):=hid (by unfold cu;rw[if_neg hn,if_pos h8]);clear h8;go_enter func384,ntmps384;go_wp2_with fail;go_ret;exact⟨by rw[hr.out];rfl,by first|trivial|rfl⟩
 ·have y1:decide ((8:Int)<(n:Int)-(take:Int)+(lay:Int))=false:=decide_eq_false (by omega);have hr:Hid (cu n take lay=0):=hid (by unfold cu;rw[if_neg hn,if_neg h8]);clear h8;go_enter func384,ntmps384;go_wp2_with fail;go_ret;exact⟨by rw[hr.out];rfl,by first|trivial|rfl⟩
theorem aNi(m:dm w g i a s)(r:jY w h g gs arg Ao cO d)(hl:s.stack.length<=100)(k:Nat)(kI:Int)(hk:kI=k)(hkl:k<s.stack.length):
  Calls prog 386 #[.pointer (some (tZ h 0)),iV kI] w fun e w'=>e=.returned (iV (fE s.stack k))/\∃q,w'=w.drewN q:=by
 subst hk;have c0:w.cell? (tZ h 0)=some (.pointer (some (tZ g 0))):=r.blk.cellAt rfl;have c1:w.cell? (tZ g 9)=some (.slice a.As s.stack.length a.cS):=m.blk.cellAt rfl;obtain⟨ga,hA,hga⟩:=m.st.form (by omega);obtain⟨p,hp⟩:∃p,s.stack.length=p+k+1:=⟨s.stack.length-1-k,by omega⟩;have hx:Hid (fE s.stack k=s.stack.getD p 0):=hid (by unfold fE;congr 1;omega);have hpl:p<s.stack.length:=by omega
 have hst:=m.st;rw[hA]at hst c1;have c2:w.cell? (tZ ga p)=some (iV (s.stack.getD p 0)):=hst.cell (by rw[List.getElem?_map,List.getElem?_eq_getElem hpl,List.getD_eq_getElem?_getD,List.getElem?_eq_getElem hpl];rfl);generalize s.stack.getD p 0=x at c2 hx;rw[hp]at c1 hl;clear m r hst hA hp hkl hpl;have e1:IntKind.i64.wrap (((p+k+1:Nat):Int)-1)=((p+k:Nat):Int):=by rw[show((p+k+1:Nat):Int)-1=((p+k:Nat):Int) by omega];exact IntWalk.i64_in _ (by omega)
 have e2:IntKind.i64.wrap (((p+k:Nat):Int)-(k:Int))=(p:Int):=by rw[show((p+k:Nat):Int)-(k:Int)=(p:Int) by omega];exact IntWalk.i64_in _ (by omega)
 generalize hn:((p+k+1:Nat):Int)=N at*
 go_enter func386,ntmps386;go_wp2_with fail;go_quiet (fail)
 go_wp2_with fail;go_ret;exact⟨by rw[hx.out];rfl,_,rfl⟩
end
theorem aJp:(prog.info? 3).map (fun i=>(i.zero,i.size,i.bytes))=some (some (iV 0),1,8):=by kernel_rfl
theorem aOq(y:Int):(wrap64 (y.tmod 65536+65536)).tmod 65536=sH y:=by
 have h1:=Int.mul_tdiv_add_tmod y 65536;have h2:y.tmod 65536<65536:=Int.tmod_lt_of_pos _ (by decide);have h3: -65536<y.tmod 65536:=Int.lt_tmod_of_pos _ (by decide);rw[IntWalk.wrap64_in _ ⟨by omega,by omega⟩,Int.tmod_eq_emod_of_nonneg (by omega)];unfold sH;omega
def rN(st lay:List Int)(p n j:Nat):List Int:=st.take p++(lay.take (n-j)++(lay.drop (n-j)).map sH)
theorem aKm(st lay:List Int)(p n:Nat)(h:lay.length=n):rN st lay p n 0=st.take p++lay:=by
 unfold rN;rw[Nat.sub_zero,List.take_of_length_le (l:=lay) (by omega),List.drop_of_length_le (l:=lay) (by omega)];simp
theorem aKD(st lay:List Int)(p n:Nat):rN st lay p n n=st.take p++lay.map sH:=by
 unfold rN;simp
theorem aMk{st lay:List Int}{p n u j:Nat}(hn:n=u+j+1)(h:lay.length=n)(hp:p<=st.length):(rN st lay p n j)[p+u]? =lay[u]? :=by
 unfold rN;have h1:(st.take p).length=p:=by rw[List.length_take];omega
 rw[List.getElem?_append_right (by omega),h1,Nat.add_sub_cancel_left,List.getElem?_append_left (by rw[List.length_take];omega),List.getElem?_take,if_pos (by omega)]
theorem aJD{st lay:List Int}{p n u j:Nat}{y:Int}(hn:n=u+j+1)(h:lay.length=n)(hp:p<=st.length)(hy:lay[u]? =some y):(rN st lay p n j).set (p+u) (sH y)=rN st lay p n (j+1):=by
 unfold rN;have h1:(st.take p).length=p:=by rw[List.length_take];omega
 rw[List.set_append_right _ _ (by omega),h1,Nat.add_sub_cancel_left];congr 1
 rw[show n-j=u+1 by omega,show n-(j+1)=u by omega,List.take_add_one,hy,List.append_assoc];have h2:(lay.take u).length=u:=by rw[List.length_take];omega
 rw[List.set_append_right _ _ (by omega),h2,Nat.sub_self];have h3:lay.drop u=y::lay.drop (u+1):=by
  have hk:=(List.getElem?_eq_some_iff.1 hy).1;rw[List.drop_eq_getElem_cons hk];congr 1
  exact(List.getElem?_eq_some_iff.1 hy).2
 rw[h3];rfl
section
variable{w w':World}{F:Nat->Prop}{h g gs:Nat}{i:aO}{a:su}{s:nM}{cs:List aB}{pc ticks fault arg:Int}{Ao:Option Addr}{cO:Nat}{d:nJ}
theorem aMj(m:dm w g i a s)(r:jY w h g gs arg Ao cO d)(hl:s.stack.length<=100)(take:Nat)(tI:Int)(htI:tI=take)(ht:take<=s.stack.length)(lay:List Int)(A2:Option Addr)(n2 c2:Nat)(BB:lay.length=n2)(h2:n2<=2)(hr:ai w w.heap.size 1 A2 n2 (lay.map iV)):
  Calls prog 385 #[.pointer (some (tZ h 0)),iV tI,.slice A2 n2 c2] w fun e w'=>e=.returned (.tuple #[])/\∃a',dm w' g i a' {s with stack:=fL s.stack take lay}/\bZ (fK g a) w (fK g a') w':=by
 subst htI;obtain⟨p,hp⟩:∃p,s.stack.length=p+take:=⟨s.stack.length-take,by omega⟩;have c0:w.cell? (tZ h 0)=some (.pointer (some (tZ g 0))):=r.blk.cellAt rfl;have c1:w.cell? (tZ g 9)=some (.slice a.As s.stack.length a.cS):=m.blk.cellAt rfl;have hcut:=hid (m.st.cut (i:=p) (by omega));have hcap:=m.st.cap;obtain⟨i0,hi0,hz0,hz1,hz2⟩:=info_parts aJp;have hsw:Hid (fL s.stack take lay=s.stack.take p++lay.map sH):=hid (by unfold fL;rw[hp,Nat.add_sub_cancel]);have M:=hid m;have R:=hid r;have HR:=hid hr;have hps:Hid (p<=s.stack.length):=hid (by omega);rw[hp]at c1 hcap hl;have HP:=hid hp;unfold maxLen at hcap;clear m r hr ht hp;go_enter func385,ntmps385;go_wp2_with (at_builtin;refine aAy _ rfl (.tmp 26) (.tmp 27) _ rfl 3 i0 _ 8 underlying53 hi0 hz0 hz1 hz2 rfl a.As p p ((s.stack.map iV).take p) rfl hcut.out w.heap.size A2 n2 c2 (lay.map iV) rfl HR.out (aIM lay) (by simp[maxLen];omega) (by omega) (p+n2) rfl ?_;intro A' c' w2 hrow hg hA)
 have hAf:∀b,bH A' b->bH a.As b\/w.heap.size<=b:=fun b hb=>by
  rcases hA with e|e
  ·rw[e]at hb;exact .inl hb
  ·rw[e]at hb;obtain⟨x,hx,rfl⟩:=hb;injection hx with hx
   subst hx;exact .inr (Nat.le_refl _)
 have hap:bD (fun b=>b=g\/bH a.As b) w w2:=(bD.refl _ _).grown hg (fun b hb=>.inl (.inr (aN.1 hb)));have Iy:=hid hAf;have hrow':=hid hrow;rw[<-List.map_take,<-List.map_append,<-aKm s.stack lay p n2 BB]at hrow';have HAP:=hid hap;have hoff:Hid (¬bH A' g/\¬bH A' h):=hid ⟨fun hf=>(hAf g hf).elim M.out.off.2.1 (fun h9=>by have:=M.out.blk.lt;omega),fun hf=>(hAf h hf).elim (fun h9=>(M.out.st.ty h9).yA R.out.blk.ty (by decide) rfl) (fun h9=>by have:=R.out.blk.lt;omega)⟩;have HA':=hid hA;have HG:=hid hg;clear hrow hg hA hAf hap c0 c1;go_loopw [7,8,31] (fun v7 v8 v31 wr=>∃j:Nat,j<=n2/\v31=iV (j:Int)/\jb wr 3 A' (p+n2) c' ((rN s.stack lay p n2 j).map iV)/\bD (fun b=>b=g\/bH a.As b) w wr/\ak wr g 336 (nC i a s)/\ak wr h 417 (rF g gs arg d.next Ao d.sent.length cO d.uD)) (fun _ _ v31 _=>n2-(intOf v31).toNat)
 case atStart=>
  refine⟨0,by omega,rfl,hrow'.out,HAP.out,?_,?_⟩
  ·exact(HG.out.block g M.out.blk.lt (fun e=>M.out.off.2.1 (aN.1 e.symm))).trans M.out.blk
  ·exact(HG.out.block h R.out.blk.lt (fun e=>(M.out.st.ty (aN.1 e.symm)).yA R.out.blk.ty (by decide) rfl)).trans R.out.blk
 case round=>
  obtain⟨j,hj,rfl,hrow,hap,hbg,hbh⟩:=hrel;by_cases hjn:j<n2
  ·obtain⟨u,hu⟩:∃u,n2=u+j+1:=⟨n2-1-j,by omega⟩;obtain⟨gA,rfl,hgA⟩:=hrow.form (by omega);obtain⟨y,hy⟩:∃y,lay[u]? =some y:=⟨_,List.getElem?_eq_getElem (by omega)⟩;have hcell:wr.cell? (tZ gA (p+u))=some (iV y):=hrow.cell (by rw[List.getElem?_map,aMk hu BB hps.out,hy];rfl);have Gv:=hrow.frozen (p+u);have hst:=hid (hrow.uh (p+u) (iV (sH y)));rw[<-List.map_set,aJD hu BB hps.out hy]at hst;obtain⟨N,hN⟩:∃N,N=p+n2:=⟨_,rfl⟩;obtain⟨M1,FT⟩:∃M1,M1=p+u+j:=⟨_,rfl⟩;obtain⟨q,hq⟩:∃q,q=p+u:=⟨_,rfl⟩;have e1:wrap64 ((N:Int)-1)=(M1:Int):=by rw[IntWalk.wrap64_in _ ⟨by omega,by omega⟩];omega
   have e2:wrap64 ((M1:Int)-(j:Int))=(q:Int):=by rw[IntWalk.wrap64_in _ ⟨by omega,by omega⟩];omega
   have x0:(0:Int)<=(q:Int):=by omega
   have x1:(q:Int)<(N:Int):=by omega
   have hjn':decide ((j:Int)<(n2:Int))=true:=decide_eq_true (by omega);have hjn'':decide (j<n2)=true:=decide_eq_true hjn;have HAP2:=hid (hap.setCell (p:=⟨gA,q,none⟩) (by rcases Iy.out gA (LO.2 rfl)with h9|h9;exact .inl (.inr h9);exact .inr h9) (iV (sH y)));rw[<-hq]at hcell Gv hst;rw[<-hN]at hst ⊢;have HU:=hid hu;have HBG0:=hid hbg;have HBH0:=hid hbh;have aSq:=hoff;have HNN:=hid hN;clear hu hN FT hq hy hrow hap hbg hbh hrow';have e3:=aOq y;have DD:=hid (HBG0.out.far (p:=⟨gA,q,none⟩) (fun e=>aSq.out.1 (LO.2 e)) (iV (sH y)));have HBH:=hid (HBH0.out.far (p:=⟨gA,q,none⟩) (fun e=>aSq.out.2 (LO.2 e)) (iV (sH y)));generalize sH y=z at*
   go_wp2_with fail;go_roundw;case rel=>exact⟨j+1,by omega,by go_num,hst.out,HAP2.out,DD.out,HBH.out⟩
   case measure=>simp[intOf];omega
  ·obtain rfl:j=n2:=by omega
   have d0:wr.cell? (tZ h 0)=some (.pointer (some (tZ g 0))):=hbh.cellAt rfl;have f0:=hbg.frozen 9;have d1:wr.cell? (tZ g 9)=some (.slice a.As s.stack.length a.cS):=hbg.cellAt rfl;rw[aKD,<-hsw.out]at hrow;have HRW:=hid hrow;have HAP3:=hid hap;have DD:=hid hbg;have hjn':decide ((j:Int)<(j:Int))=false:=decide_eq_false (by omega);obtain⟨N,hN⟩:∃N,N=p+j:=⟨_,rfl⟩;rw[<-hN]at HRW ⊢;have hlen:Hid ((fL s.stack take lay).length=N):=hid (by have:=HRW.out.len;simpa using this);clear hrow hap hbg hbh hN hrow';go_wp2_with fail;refine bodyPost_end (v:=.tuple #[]) (by simp[results,results385,go_sem]) rfl ?_;have hl:=hlen.out;subst hl;have yB:=DD.out.uh 9 (.slice A' (fL s.stack take lay).length c');have hst:=M.out.stack (s':={s with stack:=fL s.stack take lay}) rfl rfl (HAP3.out.setCell (p:=⟨g,9,none⟩) (.inl (.inl rfl)) _) yB (HRW.out.far (p:=⟨g,9,none⟩) (fun hf=>hoff.out.1 hf) _) Iy.out;exact⟨rfl,_,hst.1,hst.2⟩
end
def mN(x:Int):Prop:=0<=x/\x<=65535
theorem aOg(n:Int):mN (sH n):=⟨aP0 n,aP3 n⟩
theorem ig{n take lay:Nat}(h:cu n take lay=0):take<=n/\n-take+lay<=8:=by
 unfold cu at h;split at h
 ·cases h
 ·split at h
  ·cases h
  ·omega
theorem kz{s:List Int}{t:Nat}{l:List Int}(h:cu s.length t l.length=0):(fL s t l).length<=8:=by
 have:=ig h;simp only[fL,List.length_append,List.length_take,List.length_map];omega
theorem JK{s:List Int}(hs:∀x∈s,mN x)(t:Nat)(l:List Int):∀x∈fL s t l,mN x:=by
 intro x hx;rcases List.mem_append.1 hx with h|h
 ·exact hs x (List.mem_of_mem_take h)
 ·obtain⟨y,_,rfl⟩:=List.mem_map.1 h;exact aOg y
theorem jE{s:List Int}(hs:∀x∈s,mN x)(k:Nat):mN (fE s k):=by
 unfold fE;rw[List.getD_eq_getElem?_getD];cases h:s[s.length-1-k]? with
 |none=>exact⟨by simp,by simp⟩
 |some x=>exact hs x (List.mem_of_getElem? h)
theorem aOs{s:List Int}(hs:∀x∈s,mN x)(k:Nat){y:Int}(hy:mN y):∀x∈s.set k y,mN x:=by
 intro x hx;rcases List.mem_or_eq_of_mem_set hx with h|h
 ·exact hs x h
 ·rw[h];exact hy
theorem aGz{i:aO}{d:nJ}(h:qQ i d)(t:Nat)(l:List Int):qQ i (qI t l d).2:=by
 unfold qI;split
 ·next h0=>exact⟨kz h0,JK h.st t l,h.xG,h.me⟩
 ·exact h
theorem aLd{n:Nat}(h:cu n 1 2=0):cu n 0 1=0:=by
 have:=ig h;unfold cu;rw[if_neg (by omega),if_neg (by omega)]
theorem aKq{n:Nat}(h:cu n 0 2=0):cu n 0 1=0:=by
 have:=ig h;unfold cu;rw[if_neg (by omega),if_neg (by omega)]
theorem aDx{i:aO}{d:nJ}(h:qQ i d)(cs:List aB)(ticks:Int)(o:Nat)(a:Int):qQ i (bG i cs ticks o a d).2:=by
 unfold bG jB;split
 all_goals first
  |exact h
  |exact aGz h _ _
  |exact⟨h.len,h.st,h.xG,h.me⟩
  |skip
 ·split
  ·next h0=>exact⟨kz (l:=[_]) (aLd h0),JK h.st _ _,h.xG,h.me⟩
  ·exact h
 ·split
  ·exact h
  ·exact aGz h _ _
 ·split
  ·exact h
  ·split
   ·next h0=>exact⟨kz (l:=[]) h0,JK h.st _ _,by simpa using h.xG,aOs h.me _ (jE h.st 0)⟩
   ·exact h
 ·split
  ·exact h
  ·exact⟨h.len,h.st,h.xG,h.me⟩
 ·split
  ·exact h
  ·split
   ·next h0=>exact⟨kz (l:=[]) h0,JK h.st _ _,h.xG,h.me⟩
   ·exact h
 ·split
  ·exact h
  ·split
   ·next h0=>
    split
    ·exact⟨kz (l:=[]) h0,JK h.st _ _,h.xG,h.me⟩
    ·exact h
   ·exact h
 ·split
  ·exact h
  ·split
   ·next h0=>
    split
    ·refine⟨?_,JK h.st _ _,h.xG,h.me⟩;show(fL _ _ _).length<=8
     split
     ·exact kz (l:=[_,_]) h0
     ·exact kz (l:=[_]) (aKq h0)
    ·exact h
   ·exact h
def mF(i:aO)(q:Int×Int):Prop:=0<=q.1/\rW i.sends q.1=true/\mN q.2
theorem aM5(t:Nat)(l:List Int)(d:nJ):(qI t l d).2.sent=d.sent:=by unfold qI;split<;>rfl
theorem aOR(t:Nat)(l:List Int)(d:nJ):(qI t l d).2.ss=d.ss:=by unfold qI;split<;>rfl
theorem aCU{i:aO}{d:nJ}(h:qQ i d)(cs:List aB)(ticks:Int)(o:Nat){a:Int}(ha:0<=a)(hs:∀q∈d.sent,mF i q):
  (∀q∈(bG i cs ticks o a d).2.sent,mF i q)/\(bG i cs ticks o a d).2.sent.length<=d.sent.length+1:=by
 have hd:(∀q∈d.sent,mF i q)/\d.sent.length<=d.sent.length+1:=⟨hs,by omega⟩;have ho:∀t l,(∀q∈(qI t l d).2.sent,mF i q)/\(qI t l d).2.sent.length<=d.sent.length+1:=fun t l=>by rw[aM5];exact hd
 unfold bG jB;split
 all_goals first
  |exact hd
  |exact ho _ _
  |skip
 ·split
  ·exact hd
  ·exact hd
 ·split
  ·exact hd
  ·exact ho _ _
 ·split
  ·exact hd
  ·split
   ·exact hd
   ·exact hd
 ·split
  ·exact hd
  ·exact hd
 ·split
  ·exact hd
  ·split
   ·exact hd
   ·exact hd
 ·split
  ·exact hd
  ·next hb=>
   split
   ·split
    ·refine⟨fun q hq=>?_,by simp⟩;rcases List.mem_append.1 hq with h9|h9
     ·exact hs q h9
     ·rw[List.mem_singleton.1 h9];exact⟨ha,by simpa using hb,jE h.st 0⟩
    ·exact hd
   ·exact hd
 ·split
  ·exact hd
  ·split
   ·split
    ·exact hd
    ·exact hd
   ·exact hd
theorem aDb{i:aO}{d:nJ}{cs:List aB}(hK:jA cs d.ss)(ticks:Int)(o:Nat)(a:Int):jA cs (bG i cs ticks o a d).2.ss:=by
 have ho:∀t l,jA cs (qI t l d).2.ss:=fun t l=>by rw[aOR];exact hK
 unfold bG jB;split
 all_goals first
  |exact hK
  |exact ho _ _
  |skip
 ·split<;>exact hK
 ·split
  ·exact hK
  ·exact ho _ _
 ·split
  ·exact hK
  ·split<;>exact hK
 ·split<;>exact hK
 ·split
  ·exact hK
  ·split<;>exact hK
 ·split
  ·exact hK
  ·split
   ·split
    ·exact hK.wC _ _ _
    ·exact hK
   ·exact hK
 ·split
  ·exact hK
  ·split
   ·split
    ·exact hK.xE _ _
    ·exact hK
   ·exact hK
theorem aCI{code:List UInt8}{pc:Int}{o:Nat}{a nx:Int}(h:rI code pc=some (o,a,nx)):0<=a/\a<=255/\o<=18/\0<=pc/\pc<code.length/\0<=nx/\nx<=code.length:=by
 unfold rI at h;split at h
 ·cases h
 ·next hpc=>
  split at h
  ·cases h
  ·next b hb=>
   have hlt:=(List.getElem?_eq_some_iff.1 hb).1;split at h
   ·cases h
   ·split at h
    ·injection h with h
     injection h with h1 h
     injection h with h2 h3
     omega
    ·split at h
     ·cases h
     ·next c hc=>
      have xW:=(List.getElem?_eq_some_iff.1 hc).1;injection h with h
      injection h with h1 h
      injection h with h2 h3
      have:=c.toNat_lt;omega
theorem aHX{i:aO}{cs:List aB}{ticks:Int}(n:Nat):∀(pc:Int)(d:nJ),qQ i d->jA cs d.ss->(∀q∈d.sent,mF i q)->
  qQ i (lH i cs ticks n pc d).2.2/\jA cs (lH i cs ticks n pc d).2.2.ss/\(∀q∈(lH i cs ticks n pc d).2.2.sent,mF i q)/\(lH i cs ticks n pc d).2.2.sent.length<=d.sent.length+n:=by
 induction n with
 |zero=>intro pc d h1 h2 h3;exact⟨h1,h2,h3,by simp[lH]⟩
 |succ n ih=>
  intro pc d h1 h2 h3;unfold lH;cases hat:rI i.code pc with
  |none=>exact⟨h1,h2,h3,by simp⟩
  |some x=>
   obtain⟨o,a,nx⟩:=x;have h0:=aCI hat;have h1':qQ i {d with next:=nx}:=⟨h1.len,h1.st,h1.xG,h1.me⟩;have g1:=aDx h1' cs ticks o a;have g2:jA cs (bG i cs ticks o a {d with next:=nx}).2.ss:=aDb (d:={d with next:=nx}) h2 ticks o a;have g3:=aCU h1' cs ticks o h0.1 h3;simp only;generalize bG i cs ticks o a {d with next:=nx}=r at*
   have g4:r.2.sent.length<=d.sent.length+1:=g3.2;split
   ·split
    ·exact⟨g1,g2,g3.1,by simp;omega⟩
    ·have:=ih r.2.next r.2 g1 g2 g3.1;exact⟨this.1,this.2.1,this.2.2.1,by omega⟩
   ·exact⟨g1,g2,g3.1,by simp;omega⟩
structure lM (i:aO) (s:nM):Prop where
 len:s.stack.length<=8
 st:∀x∈s.stack,mN x
 xG:(s.mem.length:Int)=i.mem
 me:∀x∈s.mem,mN x
theorem aCs{i:aO}{cs:List aB}{s:nM}{ss:Nat->bP}(h:lM i s)(hK:jA cs ss):
  lM i (gp i cs s ss).1/\jA cs (gp i cs s ss).2.1/\(∀q∈(gp i cs s ss).2.2.1,mF i q)/\(gp i cs s ss).2.2.1.length<=i.fuel.toNat:=by
 unfold gp;split
 ·exact⟨h,hK,by simp,by simp⟩
 ·have:=aHX (i:=i) (cs:=cs) (ticks:=s.ticks) i.fuel.toNat s.pc (jQ s ss) ⟨h.len,h.st,h.xG,h.me⟩ hK (by simp[jQ]);obtain⟨h1,h2,h3,h4⟩:=this;exact⟨⟨h1.len,h1.st,h1.xG,h1.me⟩,h2,h3,by simpa[jQ]using h4⟩
end Go.Proofs.YtfjkpigldogkeaaGreatDoor
