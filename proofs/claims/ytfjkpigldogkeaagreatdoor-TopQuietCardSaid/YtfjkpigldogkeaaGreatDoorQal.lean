/- Contracts of functions that TopQuiet reaches, under the conditions that each states. -/
import Derived.Test.YtfjkpigldogkeaaGreatDoorQak
set_option linter.all false
set_option maxRecDepth 100000
namespace Go.Proofs.YtfjkpigldogkeaaGreatDoor
open Go.RowKit Go.ChangeShapes Go.WideShapes Go.ChangeAt Go.Proofs.Tryz
section
variable{w w':World}{F:Nat->Prop}{h g gs:Nat}{i:aO}{a:su}{cs:List aB}{pc ticks fault arg:Int}{Ao:Option Addr}{cO:Nat}{d:nJ}
theorem aF.fits(t:aF w F h g gs i cs pc ticks fault arg d)(hl:d.stack.length<=100)(take lay:Nat)(tI lI:Int)(ht:tI=take)(hy:lI=lay)(h1:take<=8)(h2:lay<=8):
  Calls prog 384 #[.pointer (some (tZ h 0)),iV tI,iV lI] w fun e w'=>e=.returned (iV (cu d.stack.length take lay))/\w'=w:=by
 obtain⟨a,Ao,cO,F2,m,r,_⟩:=t;exact aLm m r hl take lay tI lI ht hy h1 h2
theorem aF.top(t:aF w F h g gs i cs pc ticks fault arg d)(hl:d.stack.length<=100)(k:Nat)(kI:Int)(hk:kI=k)(hkl:k<d.stack.length):
  Calls prog 386 #[.pointer (some (tZ h 0)),iV kI] w fun e w'=>e=.returned (iV (fE d.stack k))/\∃q,w'=w.drewN q:=by
 obtain⟨a,Ao,cO,F2,m,r,_⟩:=t;exact aNi m r hl k kI hk hkl
theorem aF.swap(t:aF w F h g gs i cs pc ticks fault arg d)(hl:d.stack.length<=100)(take:Nat)(tI:Int)(htI:tI=take)(ht:take<=d.stack.length)(lay:List Int)(A2:Option Addr)(n2 c2:Nat)(BB:lay.length=n2)(h2:n2<=2)(hr:ai w w.heap.size 1 A2 n2 (lay.map iV)):
  Calls prog 385 #[.pointer (some (tZ h 0)),iV tI,.slice A2 n2 c2] w fun e w'=>e=.returned (.tuple #[])/\∃F',aF w' F' h g gs i cs pc ticks fault arg {d with stack:=fL d.stack take lay}/\bZ F w F' w':=by
 obtain⟨a,Ao,cO,F2,m,r,h3,h4,h5⟩:=t;refine(aMj m r hl take tI htI ht lay A2 n2 c2 BB h2 hr).mono ?_;rintro e w'⟨rfl,a',hm,hg⟩;exact⟨rfl,aF.mach (d':={d with stack:=fL d.stack take lay}) (pc':=pc) (ticks':=ticks) (fault':=fault) m r h3 h4 h5 hm hg rfl rfl rfl rfl⟩
theorem aF.cells(t:aF w F h g gs i cs pc ticks fault arg d):∃a Ao cO,w.cell? (tZ h 0)=some (.pointer (some (tZ g 0)))/\w.cell? (tZ h 1)=some (.iface 121 (.pointer (some (tZ gs 0))))/\w.cell? (tZ h 2)=some (iV arg)/\w.cell? (tZ h 3)=some (iV d.next)/\w.cell? (tZ h 4)=some (.slice Ao d.sent.length cO)/\w.cell? (tZ h 5)=some (.bool d.uD)/\
  w.cell? (tZ g 0)=some (iV i.part)/\w.cell? (tZ g 5)=some (iV i.sends)/\w.cell? (tZ g 6)=some (iV i.uj)/\w.cell? (tZ g 7)=some (.slice (su.Ac a) i.code.length a.cc)/\w.cell? (tZ g 10)=some (.slice a.Am d.mem.length a.cM)/\w.cell? (tZ g 11)=some (iV ticks)/\(∀k,w.frozen? (tZ h k)=false):=by
 obtain⟨a,Ao,cO,F2,m,r,_⟩:=t;exact⟨a,Ao,cO,r.blk.cellAt rfl,r.blk.cellAt rfl,r.blk.cellAt rfl,r.blk.cellAt rfl,r.blk.cellAt rfl,r.blk.cellAt rfl,m.blk.cellAt rfl,m.blk.cellAt rfl,m.blk.cellAt rfl,m.blk.cellAt rfl,m.blk.cellAt rfl,m.blk.cellAt rfl,fun k=>r.blk.frozen k⟩
theorem aF.zD(t:aF w F h g gs i cs pc ticks fault arg d){k:Nat}{v:Value}{d':nJ}{arg':Int}(h1:d'.stack=d.stack)(h2:d'.mem=d.mem)(h3:d'.sent=d.sent)(h4:d'.ss=d.ss)(hr:∀Ao cO,(rF g gs arg d.next Ao d.sent.length cO d.uD).set k v=rF g gs arg' d'.next Ao d.sent.length cO d'.uD):
  aF (w.setCell (tZ h k) v) F h g gs i cs pc ticks fault arg' d'/\bZ F w F (w.setCell (tZ h k) v):=by
 obtain⟨a,Ao,cO,F2,m,r,hs,ha,hF⟩:=t;have hk:∀b,b≠h->(w.setCell (tZ h k) v).heap[b]? =w.heap[b]? :=fun b hb=>Below.heap_setCell _ _ _ _ hb
 have hms:mP pc ticks fault d'=mP pc ticks fault d:=by unfold mP;rw[h1,h2]
 refine⟨⟨a,Ao,cO,F2,?_,⟨?_,?_⟩,?_,ha,hF⟩,⟨(bD.refl _ _).setCell (.inl ((hF h).2 (.inr (.inl (.inl rfl))))) _,fun _ h9=>.inl h9⟩⟩
 ·rw[hms];exact m.keep fun b hb=>hk b (fun e=>r.apart m (.inl e) hb)
 ·have:=r.blk.uh k v;rw[hr Ao cO]at this;rw[h3];exact this
 ·rw[h3];exact dS r.out fun b hb=>hk b (fun e=>r.off (e▸hb))
 ·rw[h4];exact hs.keep (by simp[World.setCell]) fun b hb=>hk b (fun e=>(ha b hb).2 (.inl e))
theorem qx(w:World)(x:Int):ai (w.alloc (.cells #[iV x] 3)) (w.alloc (.cells #[iV x] 3)).heap.size 1 (some (tZ w.heap.size 0)) 1 ([x].map iV):=ai.lit (heap_alloc_new w _) rfl
theorem aOb(w:World)(x y:Int):ai (w.alloc (.cells #[iV x,iV y] 3)) (w.alloc (.cells #[iV x,iV y] 3)).heap.size 1 (some (tZ w.heap.size 0)) 2 ([x,y].map iV):=ai.lit (heap_alloc_new w _) rfl
theorem aF.drewN(t:aF w F h g gs i cs pc ticks fault arg d)(q:Nat):aF (w.drewN q) F h g gs i cs pc ticks fault arg d:=t.belowS (aP q)
theorem aFr(t:aF w F h g gs i cs pc ticks fault arg d)(hl:d.stack.length<=100)(n:Int):
  Calls prog 383 #[.pointer (some (tZ h 0)),iV n] w (bY F w h g gs i cs pc ticks fault arg (qI 0 [n] d)):=by
 have i1:=t.fits hl 0 1 0 1 rfl rfl (by omega) (by omega);have T:=hid t;have i2:=hid ((t.belowS (ah w (.cells #[iV n] 3))).swap hl 0 0 rfl (by omega) [n] (some (tZ w.heap.size 0)) 1 1 rfl (by omega) (qx w n));obtain⟨E,hE⟩:∃E,cu d.stack.length 0 1=E:=⟨_,rfl⟩;rw[hE]at i1;have I1:=hid i1;clear i1 t;by_cases h0:E=0
 ·subst h0;have ir:Hid (qI 0 [n] d=(0,{d with stack:=fL d.stack 0 [n]})):=hid (if_pos hE);clear hE;go_enter func383,ntmps383;go_wp2_with fail;refine I1.out.mono ?_;rintro e w1⟨rfl,rfl⟩;go_wp2_with fail;refine i2.out.mono ?_;rintro e w2⟨rfl,F',ht,hg⟩;go_wp2_with fail;go_ret;rw[ir.out];exact⟨F',rfl,ht,(bZ.of_below (ah w1 _)).trans hg⟩
 ·have ir:Hid (qI 0 [n] d=(E,d)):=hid (by unfold qI;rw[if_neg (by rw[show[n].length=1 from rfl,hE];exact h0),show[n].length=1 from rfl,hE]);have y0:(E !=0)=true:=by simpa using h0
  clear hE h0 i2;go_enter func383,ntmps383;go_wp2_with fail;refine I1.out.mono ?_;rintro e w1⟨rfl,rfl⟩;go_wp2_with fail;go_ret;rw[ir.out];exact bY.same T.out rfl (Below.refl _ _)
theorem aHP(t:aF w F h g gs i cs pc ticks fault arg d):
  Calls prog 331 #[.pointer (some (tZ h 0))] w (bY F w h g gs i cs pc ticks fault arg (bG i cs ticks 0 arg d)):=by
 have T:=hid t;clear t;go_enter func331,ntmps331;go_wp2_with fail;go_ret;exact bY.same T.out rfl (Below.refl _ _)
theorem aJw(t:aF w F h g gs i cs pc ticks fault arg d):
  Calls prog 348 #[.pointer (some (tZ h 0))] w (bY F w h g gs i cs pc ticks fault arg (bG i cs ticks 17 arg d)):=by
 have T:=hid t;clear t;go_enter func348,ntmps348;go_wp2_with fail;go_ret;exact bY.same T.out rfl (Below.refl _ _)
theorem aFt(t:aF w F h g gs i cs pc ticks fault arg d):
  Calls prog 347 #[.pointer (some (tZ h 0))] w (bY F w h g gs i cs pc ticks fault arg (bG i cs ticks 16 arg d)):=by
 obtain⟨a,Ao,cO,c0,c1,c2,c3,c4,c5,_,_,_,_,_,_,hf⟩:=t.cells;have f0:=hf 5;have T:=hid t;clear t hf c0 c1 c2 c3 c4;go_enter func347,ntmps347;go_wp2_with fail;go_ret;have hs:=T.out.zD (k:=5) (v:=.bool true) (d':={d with uD:=true}) (arg':=arg) rfl rfl rfl rfl (fun _ _=>rfl);exact⟨F,rfl,hs.1,hs.2⟩
theorem aK5(t:aF w F h g gs i cs pc ticks fault arg d)(hl:d.stack.length<=100):
  Calls prog 332 #[.pointer (some (tZ h 0))] w (bY F w h g gs i cs pc ticks fault arg (bG i cs ticks 1 arg d)):=by
 obtain⟨a,Ao,cO,c0,_,c2,_,_,_,_,_,_,_,_,c11,_⟩:=t.cells;show Calls _ _ _ _ (bY F w h g gs i cs pc ticks fault arg (qI 0 [arg] d))
 have i1:=hid (aFr t hl arg);generalize qI 0 [arg] d=r at i1 ⊢;clear t;go_enter func332,ntmps332;go_wp2_with fail;refine i1.out.mono ?_;rintro e w1⟨F',rfl,ht,hg⟩;have K:=hid (And.intro ht hg);clear ht hg;go_wp2_with fail;go_ret;exact⟨F',rfl,K.out.1,K.out.2⟩
theorem aLP(t:aF w F h g gs i cs pc ticks fault arg d)(hl:d.stack.length<=100):
  Calls prog 349 #[.pointer (some (tZ h 0))] w (bY F w h g gs i cs pc ticks fault arg (bG i cs ticks 18 arg d)):=by
 obtain⟨a,Ao,cO,c0,_,c2,_,_,_,_,_,_,_,_,c11,_⟩:=t.cells;show Calls _ _ _ _ (bY F w h g gs i cs pc ticks fault arg (qI 0 [ticks] d))
 have i1:=hid (aFr t hl ticks);generalize qI 0 [ticks] d=r at i1 ⊢;clear t;go_enter func349,ntmps349;go_wp2_with fail;refine i1.out.mono ?_;rintro e w1⟨F',rfl,ht,hg⟩;have K:=hid (And.intro ht hg);clear ht hg;go_wp2_with fail;go_ret;exact⟨F',rfl,K.out.1,K.out.2⟩
theorem aJ0(t:aF w F h g gs i cs pc ticks fault arg d)(hl:d.stack.length<=100):
  Calls prog 333 #[.pointer (some (tZ h 0))] w (bY F w h g gs i cs pc ticks fault arg (bG i cs ticks 2 arg d)):=by
 have i1:=t.fits hl 1 0 1 0 rfl rfl (by omega) (by omega);have T:=hid t;obtain⟨E,hE⟩:∃E,cu d.stack.length 1 0=E:=⟨_,rfl⟩;rw[hE]at i1;have I1:=hid i1;clear i1 t;by_cases h0:E=0
 ·subst h0;have hlen:=(ig hE).1;have ir:Hid (bG i cs ticks 2 arg d=(0,{d with stack:=fL d.stack 1 []})):=hid (if_pos hE);clear hE;go_enter func333,ntmps333;go_wp2_with fail;refine I1.out.mono ?_;rintro e w1⟨rfl,rfl⟩;go_wp2_with fail;refine(T.out.swap hl 1 1 rfl (by omega) [] none 0 0 rfl (by omega) ai.empty).mono ?_;rintro e w4⟨rfl,F',ht,hg⟩;have K:=hid (And.intro ht hg);clear ht hg;go_wp2_with fail;go_ret;rw[ir.out];exact⟨F',rfl,K.out.1,K.out.2⟩
 ·have ir:Hid (bG i cs ticks 2 arg d=(E,d)):=hid (by have e0:¬(cu d.stack.length 1 0=0):=(by rw[hE];exact h0);rw[<-hE];exact if_neg e0);have y0:(E==0)=false:=by simpa using h0
  clear hE h0;go_enter func333,ntmps333;go_wp2_with fail;refine I1.out.mono ?_;rintro e w1⟨rfl,rfl⟩;go_wp2_with fail;go_ret;rw[ir.out];exact bY.same T.out rfl (Below.refl _ _)
theorem aL5(t:aF w F h g gs i cs pc ticks fault arg d)(hl:d.stack.length<=100):
  Calls prog 334 #[.pointer (some (tZ h 0))] w (bY F w h g gs i cs pc ticks fault arg (bG i cs ticks 3 arg d)):=by
 have i1:=t.fits hl 1 2 1 2 rfl rfl (by omega) (by omega);have T:=hid t;obtain⟨E,hE⟩:∃E,cu d.stack.length 1 2=E:=⟨_,rfl⟩;rw[hE]at i1;have I1:=hid i1;clear i1 t;by_cases h0:E=0
 ·subst h0;have hlen:=(ig hE).1;have ir:Hid (bG i cs ticks 3 arg d=(0,{d with stack:=fL d.stack 0 [fE d.stack 0]})):=hid (if_pos hE);clear hE;obtain⟨x0,hx0⟩:∃x,fE d.stack 0=x:=⟨_,rfl⟩;have j0:=hid (fun q=>(T.out.drewN q).top hl 0 0 rfl (by omega));rw[hx0]at j0 ir;clear hx0;go_enter func334,ntmps334;go_wp2_with fail;refine I1.out.mono ?_;rintro e w1⟨rfl,rfl⟩;go_wp2_with fail;refine(j0.out 0).mono ?_;rintro e w2⟨rfl,q1,hq1⟩;have hb2:Below w1.heap.size w1 w2:=by rw[hq1];exact aP q1
  clear hq1;have T2:=hid (T.out.belowS hb2);have i2:=hid ((T2.out.belowS (ah w2 (.cells #[iV x0] 3))).swap hl 0 0 rfl (by omega) [x0] (some (tZ w2.heap.size 0)) 1 1 rfl (by omega) (qx w2 x0));have uz:=hid hb2;clear hb2;go_wp2_with fail;refine i2.out.mono ?_;rintro e w4⟨rfl,F',ht,hg⟩;have K:=hid (And.intro ht hg);clear ht hg;go_wp2_with fail;go_ret;rw[ir.out];exact⟨F',rfl,K.out.1,((bZ.of_below uz.out).trans (bZ.of_below (ah _ _))).trans K.out.2⟩
 ·have ir:Hid (bG i cs ticks 3 arg d=(E,d)):=hid (by have e0:¬(cu d.stack.length 1 2=0):=(by rw[hE];exact h0);rw[<-hE];exact if_neg e0);have y0:(E==0)=false:=by simpa using h0
  clear hE h0;go_enter func334,ntmps334;go_wp2_with fail;refine I1.out.mono ?_;rintro e w1⟨rfl,rfl⟩;go_wp2_with fail;go_ret;rw[ir.out];exact bY.same T.out rfl (Below.refl _ _)
theorem aJ1(t:aF w F h g gs i cs pc ticks fault arg d)(hl:d.stack.length<=100):
  Calls prog 335 #[.pointer (some (tZ h 0))] w (bY F w h g gs i cs pc ticks fault arg (bG i cs ticks 4 arg d)):=by
 have i1:=t.fits hl 2 2 2 2 rfl rfl (by omega) (by omega);have T:=hid t;obtain⟨E,hE⟩:∃E,cu d.stack.length 2 2=E:=⟨_,rfl⟩;rw[hE]at i1;have I1:=hid i1;clear i1 t;by_cases h0:E=0
 ·subst h0;have hlen:=(ig hE).1;have ir:Hid (bG i cs ticks 4 arg d=(0,{d with stack:=fL d.stack 2 [fE d.stack 0,fE d.stack 1]})):=hid (if_pos hE);clear hE;obtain⟨x0,hx0⟩:∃x,fE d.stack 0=x:=⟨_,rfl⟩;have j0:=hid (fun q=>(T.out.drewN q).top hl 0 0 rfl (by omega));rw[hx0]at j0 ir;clear hx0;obtain⟨x1,hx1⟩:∃x,fE d.stack 1=x:=⟨_,rfl⟩;have j1:=hid (fun q=>(T.out.drewN q).top hl 1 1 rfl (by omega));rw[hx1]at j1 ir;clear hx1;go_enter func335,ntmps335;go_wp2_with fail;refine I1.out.mono ?_;rintro e w1⟨rfl,rfl⟩;go_wp2_with fail;refine(j0.out 0).mono ?_;rintro e w2⟨rfl,q1,hq1⟩;rw[hq1];go_wp2_with fail;refine(j1.out _).mono ?_;rintro e w3⟨rfl,q2,hq2⟩;have hb2:Below w1.heap.size w1 w3:=by rw[hq2];exact ag (aP _) (aP q2)
  clear hq2 hq1;have T2:=hid (T.out.belowS hb2);have i2:=hid ((T2.out.belowS (ah w3 (.cells #[iV x0,iV x1] 3))).swap hl 2 2 rfl (by omega) [x0,x1] (some (tZ w3.heap.size 0)) 2 2 rfl (by omega) (aOb w3 x0 x1));have uz:=hid hb2;clear hb2;go_wp2_with fail;refine i2.out.mono ?_;rintro e w4⟨rfl,F',ht,hg⟩;have K:=hid (And.intro ht hg);clear ht hg;go_wp2_with fail;go_ret;rw[ir.out];exact⟨F',rfl,K.out.1,((bZ.of_below uz.out).trans (bZ.of_below (ah _ _))).trans K.out.2⟩
 ·have ir:Hid (bG i cs ticks 4 arg d=(E,d)):=hid (by have e0:¬(cu d.stack.length 2 2=0):=(by rw[hE];exact h0);rw[<-hE];exact if_neg e0);have y0:(E==0)=false:=by simpa using h0
  clear hE h0;go_enter func335,ntmps335;go_wp2_with fail;refine I1.out.mono ?_;rintro e w1⟨rfl,rfl⟩;go_wp2_with fail;go_ret;rw[ir.out];exact bY.same T.out rfl (Below.refl _ _)
end
section
variable{w w':World}{F:Nat->Prop}{h g gs:Nat}{i:aO}{a:su}{cs:List aB}{pc ticks fault arg:Int}{Ao:Option Addr}{cO:Nat}{d:nJ}
theorem aF.word(t:aF w F h g gs i cs pc ticks fault arg d){k:Nat}(hk:k<d.mem.length):∃am cM,w.cell? (tZ g 10)=some (.slice (some (tZ am 0)) d.mem.length cM)/\w.cell? (tZ am k)=some (iV (d.mem.getD k 0))/\am≠h/\am≠g/\
  ∀w':World,w.heap.size<=w'.heap.size->(∀b,F b->w'.heap[b]? =w.heap[b]?)->w'.frozen? (tZ am k)=false/\∀x,aF (w'.setCell (tZ am k) (iV x)) F h g gs i cs pc ticks fault arg {d with mem:=d.mem.set k x}/\bZ F w' F (w'.setCell (tZ am k) (iV x)):=by
 obtain⟨a,Ao,cO,F2,m,r,hs,ha,hF⟩:=t;have hk':k<(mP pc ticks fault d).mem.length:=hk;obtain⟨am,Hq,hlt⟩:=m.me.form (by omega);have hme:=m.me;rw[Hq]at hme;have Ey:bH a.Am am:=⟨_,Hq,rfl⟩;refine⟨am,a.cM,?_,?_,fun e=>r.apart m (.inl e) (.inr (.inr (.inr Ey))),fun e=>m.off.2.2 (e▸Ey),fun w' hsz aQC=>?_⟩
 ·rw[<-Hq];exact m.blk.cellAt rfl
 ·exact hme.cell (by rw[List.getElem?_map,List.getElem?_eq_getElem hk',List.getD_eq_getElem?_getD,List.getElem?_eq_getElem (show k<d.mem.length from hk)];rfl)
 ·have m':dm w' g i a (mP pc ticks fault d):=m.keep fun b hb=>aQC b ((hF b).2 (.inl hb))
  have r':jY w' h g gs arg Ao cO d:=r.keep fun b hb=>aQC b ((hF b).2 (.inr (.inl hb)))
  have aSr:=m'.me;rw[Hq]at aSr;refine⟨aSr.frozen k,fun x=>?_⟩;have hw:=m'.word Hq k x;have hk2:∀b,b≠am->(w'.setCell (tZ am k) (iV x)).heap[b]? =w'.heap[b]? :=fun b hb=>Below.heap_setCell _ _ _ _ hb
  have hFa:F am:=(hF am).2 (.inl (.inr (.inr (.inr Ey))));have hs':eG (w'.setCell (tZ am k) (iV x)) F2 gs cs d.ss:=by
   refine(hs.keep hsz (fun b hb=>aQC b ((hF b).2 (.inr (.inr hb))))).keep (by simp[World.setCell]) (fun b hb=>hk2 b (fun e=>(ha b hb).1 (e▸(.inr (.inr (.inr Ey))))))
  refine⟨⟨a,Ao,cO,F2,hw.1,?_,hs',ha,hF⟩,⟨(bD.refl _ _).setCell (.inl hFa) _,fun _ h9=>.inl h9⟩⟩;have rk:=r'.keep (w':=w'.setCell (tZ am k) (iV x)) fun b hb=>hk2 b (fun e=>r'.apart m' (e▸hb) (.inr (.inr (.inr Ey))))
  exact⟨rk.blk,rk.out⟩
theorem aF.drew(t:aF w F h g gs i cs pc ticks fault arg d):aF w.drew F h g gs i cs pc ticks fault arg d:=t.belowS ⟨rfl,rfl,rfl,Nat.le_refl _,fun _ _=>rfl⟩
theorem aJ3(t:aF w F h g gs i cs pc ticks fault arg d)(hl:d.stack.length<=100)(_:d.mem.length<=1000)(ha0:0<=arg):
  Calls prog 341 #[.pointer (some (tZ h 0))] w (bY F w h g gs i cs pc ticks fault arg (bG i cs ticks 10 arg d)):=by
 obtain⟨k,rfl⟩:∃k:Nat,arg=(k:Int):=⟨arg.toNat,by omega⟩;obtain⟨a,Ao,cO,c0,c1,c2,c3,c4,c5,g0,g5,g6,g7,g10,g11,hf⟩:=t.cells;have T:=hid t;by_cases hk:(d.mem.length:Int)<=(k:Int)
 ·have ir:Hid (bG i cs ticks 10 (k:Int) d=(3,d)):=hid (if_pos hk);have y0:decide ((d.mem.length:Int)<=(k:Int))=true:=decide_eq_true hk;have BZ:decide (d.mem.length<=k)=true:=decide_eq_true (by omega);clear hk t hf;go_enter func341,ntmps341;go_wp2_with fail;go_quiet (fail)
  go_wp2_with fail;go_ret;rw[ir.out];exact bY.same T.out rfl (aP _)
 have hkl:k<d.mem.length:=by omega
 have y0:decide ((d.mem.length:Int)<=(k:Int))=false:=decide_eq_false hk;have BZ:decide (d.mem.length<=k)=false:=decide_eq_false (by omega);have x0:(0:Int)<=(k:Int):=Int.natCast_nonneg _;have x1:(k:Int)<(d.mem.length:Int):=by omega
 obtain⟨am,cM,Ez,gk,aRE,DF,hall⟩:=t.word hkl;have ir:Hid (bG i cs ticks 10 (k:Int) d=qI 0 [d.mem.getD k 0] d):=hid (by show(if _ then _ else _)=_;rw[if_neg hk,Int.toNat_natCast]);have iL:=hid (fun W (tW:aF W F h g gs i cs pc ticks fault (k:Int) d)=>aFr tW hl (d.mem.getD k 0));generalize qI 0 [d.mem.getD k 0] d=r at iL ir;generalize d.mem.getD k 0=x at gk iL;clear t hf hall hk g10;go_enter func341,ntmps341;go_wp2_with fail;go_quiet (fail)
 go_wp2_with fail;obtain⟨w1,hw1⟩:∃w1,w.drewN nq=w1:=⟨_,rfl⟩;have hb1:Below w.heap.size w w1:=by rw[<-hw1];exact aP nq
 have hk1:∀b:Nat,w1.heap[b]? =w.heap[b]? :=fun b=>by rw[<-hw1];rfl
 have T1:=hid (T.out.belowS hb1);have vw:=hid hb1;have e0:w1.cell? (tZ h 0)=some (.pointer (some (tZ g 0))):=(World.cell?_of_block (hk1 h)).trans c0;have e2:w1.cell? (tZ h 2)=some (iV (k:Int)):=(World.cell?_of_block (hk1 h)).trans c2;have e10:w1.cell? (tZ g 10)=some (.slice (some (tZ am 0)) d.mem.length cM):=(World.cell?_of_block (hk1 g)).trans Ez;have ek:w1.cell? (tZ am k)=some (iV x):=(World.cell?_of_block (hk1 am)).trans gk;rw[hw1];clear hw1 hb1 hk1 c0 c1 c2 c3 c4 c5 g0 g5 g6 g7 g11 Ez gk;go_still_tail 15,(by kernel_rfl)
 go_wp2_with fail;refine(iL.out _ T1.out.drew).mono ?_;rintro e w2⟨F',rfl,ht,hg⟩;have K:=hid (And.intro ht hg);clear ht hg;go_wp2_with fail;go_ret;rw[ir.out];exact⟨F',rfl,K.out.1,((bZ.of_below vw.out).trans (bZ.of_below (w':=w1.drew) ⟨rfl,rfl,rfl,Nat.le_refl _,fun _ _=>rfl⟩)).trans K.out.2⟩
theorem aJ8(t:aF w F h g gs i cs pc ticks fault arg d)(_:d.stack.length<=100)(ha0:0<=arg):
  Calls prog 343 #[.pointer (some (tZ h 0))] w (bY F w h g gs i cs pc ticks fault arg (bG i cs ticks 12 arg d)):=by
 obtain⟨k,rfl⟩:∃k:Nat,arg=(k:Int):=⟨arg.toNat,by omega⟩;obtain⟨a,Ao,cO,c0,c1,c2,c3,c4,c5,g0,g5,g6,g7,g10,g11,hf⟩:=t.cells;have T:=hid t;by_cases hk:(i.code.length:Int)<=(k:Int)
 ·have ir:Hid (bG i cs ticks 12 (k:Int) d=(3,d)):=hid (if_pos hk);have y0:decide ((i.code.length:Int)<=(k:Int))=true:=decide_eq_true hk;have BZ:decide (i.code.length<=k)=true:=decide_eq_true (by omega);clear hk t hf;go_enter func343,ntmps343;go_wp2_with fail;go_quiet (fail)
  go_wp2_with fail;go_ret;rw[ir.out];exact bY.same T.out rfl (aP _)
 have hkl:k<i.code.length:=by omega
 have y0:decide ((i.code.length:Int)<=(k:Int))=false:=decide_eq_false hk;have BZ:decide (i.code.length<=k)=false:=decide_eq_false (by omega);have x0:(0:Int)<=(k:Int):=Int.natCast_nonneg _;have x1:(k:Int)<(i.code.length:Int):=by omega
 have ir:Hid (bG i cs ticks 12 (k:Int) d=(0,{d with next:=(k:Int)})):=hid (if_neg hk);have f0:=hf 3;clear t hf hk;go_enter func343,ntmps343;go_wp2_with fail;go_quiet (fail)
 go_wp2_with fail;go_ret;rw[ir.out];have hs:=(T.out.drewN nq).zD (k:=3) (v:=iV (k:Int)) (d':={d with next:=(k:Int)}) (arg':=(k:Int)) rfl rfl rfl rfl (fun _ _=>rfl);exact⟨F,rfl,hs.1,(bZ.of_below (aP nq)).trans hs.2⟩
theorem aJT(t:aF w F h g gs i cs pc ticks fault arg d)(hl:d.stack.length<=100)(ha0:0<=arg):
  Calls prog 344 #[.pointer (some (tZ h 0))] w (bY F w h g gs i cs pc ticks fault arg (bG i cs ticks 13 arg d)):=by
 obtain⟨k,rfl⟩:∃k:Nat,arg=(k:Int):=⟨arg.toNat,by omega⟩;obtain⟨a,Ao,cO,c0,c1,c2,c3,c4,c5,g0,g5,g6,g7,g10,g11,hf⟩:=t.cells;have T:=hid t;by_cases hk:(i.code.length:Int)<=(k:Int)
 ·have ir:Hid (bG i cs ticks 13 (k:Int) d=(3,d)):=hid (if_pos hk);have y0:decide ((i.code.length:Int)<=(k:Int))=true:=decide_eq_true hk;have BZ:decide (i.code.length<=k)=true:=decide_eq_true (by omega);clear hk t hf;go_enter func344,ntmps344;go_wp2_with fail;go_quiet (fail)
  go_wp2_with fail;go_ret;rw[ir.out];exact bY.same T.out rfl (aP _)
 have hkl:k<i.code.length:=by omega
 have y0:decide ((i.code.length:Int)<=(k:Int))=false:=decide_eq_false hk;have BZ:decide (i.code.length<=k)=false:=decide_eq_false (by omega);have x0:(0:Int)<=(k:Int):=Int.natCast_nonneg _;have x1:(k:Int)<(i.code.length:Int):=by omega
 have I1:=hid (fun q=>(t.drewN q).fits hl 1 0 1 0 rfl rfl (by omega) (by omega));obtain⟨E,hE⟩:∃E,cu d.stack.length 1 0=E:=⟨_,rfl⟩;rw[hE]at I1;by_cases h0:E=0
 ·subst h0;have hlen:=(ig hE).1;have ir:Hid (bG i cs ticks 13 (k:Int) d=(0,{d with stack:=fL d.stack 1 [],next:=if fE d.stack 0=0 then(k:Int)else d.next})):=hid (by show(if _ then _ else _)=_;rw[if_neg hk];exact if_pos hE);have f0:=hf 3;obtain⟨x0',hx0⟩:∃x,fE d.stack 0=x:=⟨_,rfl⟩;have j0:=hid (fun q=>(T.out.drewN q).top hl 0 0 rfl (by omega));rw[hx0]at j0 ir;clear hx0 hE t hf hk;by_cases hz:x0'=0
  ·subst hz;rw[if_pos rfl]at ir;go_enter func344,ntmps344;go_wp2_with fail;go_quiet (fail)
   go_wp2_with fail;refine(I1.out _).mono ?_;rintro e w1⟨rfl,rfl⟩;go_wp2_with fail;refine(j0.out _).mono ?_;rintro e w2⟨rfl,q1,hq1⟩;have hb2:Below w.heap.size w w2:=by rw[hq1];exact⟨rfl,rfl,rfl,Nat.le_refl _,fun _ _=>rfl⟩
   have T2:=hid (T.out.belowS hb2);have uz:=hid hb2;clear hb2 hq1 c0 c1 c2 c3 c4 c5 f0;obtain⟨a2,Ao2,cO2,c0,c1,c2,c3,c4,c5,_,_,_,_,_,_,hf⟩:=T2.out.cells;have f0:=hf 3;clear hf;go_wp2_with fail;have hs:=T2.out.zD (k:=3) (v:=iV (k:Int)) (d':={d with next:=(k:Int)}) (arg':=(k:Int)) rfl rfl rfl rfl (fun _ _=>rfl);have HS:=hid hs;clear hs c0 c1 c2 c3 c4 c5 f0;generalize w2.setCell (tZ h 3) (iV (k:Int))=w3 at HS ⊢;refine(HS.out.1.swap hl 1 1 rfl hlen [] none 0 0 rfl (by omega) ai.empty).mono ?_;rintro e w4⟨rfl,F',ht,hg⟩;have K:=hid (And.intro ht hg);clear ht hg;go_wp2_with fail;go_ret;rw[ir.out];exact⟨F',rfl,K.out.1,((bZ.of_below uz.out).trans HS.out.2).trans K.out.2⟩
  ·have hz':(x0'==0)=false:=by simpa using hz
   rw[if_neg hz]at ir;clear hz;go_enter func344,ntmps344;go_wp2_with fail;go_quiet (fail)
   go_wp2_with fail;refine(I1.out _).mono ?_;rintro e w1⟨rfl,rfl⟩;go_wp2_with fail;refine(j0.out _).mono ?_;rintro e w2⟨rfl,q1,hq1⟩;have hb2:Below w.heap.size w w2:=by rw[hq1];exact⟨rfl,rfl,rfl,Nat.le_refl _,fun _ _=>rfl⟩
   have T2:=hid (T.out.belowS hb2);have uz:=hid hb2;clear hb2 hq1 c0 c1 c2 c3 c4 c5 f0;go_wp2_with fail;refine(T2.out.swap hl 1 1 rfl hlen [] none 0 0 rfl (by omega) ai.empty).mono ?_;rintro e w4⟨rfl,F',ht,hg⟩;have K:=hid (And.intro ht hg);clear ht hg;go_wp2_with fail;go_ret;rw[ir.out];exact⟨F',rfl,K.out.1,(bZ.of_below uz.out).trans K.out.2⟩
 ·have ir:Hid (bG i cs ticks 13 (k:Int) d=(E,d)):=hid (by have e0:¬(cu d.stack.length 1 0=0):=(by rw[hE];exact h0);rw[<-hE];show(if _ then _ else _)=_;rw[if_neg hk];exact if_neg e0);have y1:(E==0)=false:=by simpa using h0
  clear hE h0 t hf hk;go_enter func344,ntmps344;go_wp2_with fail;go_quiet (fail)
  go_wp2_with fail;refine(I1.out _).mono ?_;rintro e w1⟨rfl,rfl⟩;go_wp2_with fail;go_ret;rw[ir.out];exact bY.same T.out rfl (aP _)
theorem aGH(t:aF w F h g gs i cs pc ticks fault arg d)(hl:d.stack.length<=100)(_:d.mem.length<=1000)(ha0:0<=arg):
  Calls prog 342 #[.pointer (some (tZ h 0))] w (bY F w h g gs i cs pc ticks fault arg (bG i cs ticks 11 arg d)):=by
 obtain⟨k,rfl⟩:∃k:Nat,arg=(k:Int):=⟨arg.toNat,by omega⟩;obtain⟨a,Ao,cO,c0,c1,c2,c3,c4,c5,g0,g5,g6,g7,g10,g11,hf⟩:=t.cells;have T:=hid t;by_cases hk:(d.mem.length:Int)<=(k:Int)
 ·have ir:Hid (bG i cs ticks 11 (k:Int) d=(3,d)):=hid (if_pos hk);have y0:decide ((d.mem.length:Int)<=(k:Int))=true:=decide_eq_true hk;have BZ:decide (d.mem.length<=k)=true:=decide_eq_true (by omega);clear hk t hf;go_enter func342,ntmps342;go_wp2_with fail;go_quiet (fail)
  go_wp2_with fail;go_ret;rw[ir.out];exact bY.same T.out rfl (aP _)
 have hkl:k<d.mem.length:=by omega
 have y0:decide ((d.mem.length:Int)<=(k:Int))=false:=decide_eq_false hk;have BZ:decide (d.mem.length<=k)=false:=decide_eq_false (by omega);have x0:(0:Int)<=(k:Int):=Int.natCast_nonneg _;have x1:(k:Int)<(d.mem.length:Int):=by omega
 have I1:=hid (fun q=>(t.drewN q).fits hl 1 0 1 0 rfl rfl (by omega) (by omega));obtain⟨E,hE⟩:∃E,cu d.stack.length 1 0=E:=⟨_,rfl⟩;rw[hE]at I1;by_cases h0:E=0
 ·subst h0;have hlen:=(ig hE).1;have ir:Hid (bG i cs ticks 11 (k:Int) d=(0,{d with stack:=fL d.stack 1 [],mem:=d.mem.set k (fE d.stack 0)})):=hid (by show(if _ then _ else _)=_;rw[if_neg hk,Int.toNat_natCast];exact if_pos hE);obtain⟨am,cM,Ez,gk,aRE,DF,hall⟩:=t.word hkl;obtain⟨x0',hx0⟩:∃x,fE d.stack 0=x:=⟨_,rfl⟩;have j0:=hid (fun W (tW:aF W F h g gs i cs pc ticks fault (k:Int) d)=>tW.top hl 0 0 rfl (by omega));rw[hx0]at ir;simp only[hx0]at j0;have HA:=hid hall;clear hx0 hE t hf hk hall g10;go_enter func342,ntmps342;go_wp2_with fail;go_quiet (fail)
  go_wp2_with fail;refine(I1.out _).mono ?_;rintro e w1⟨rfl,rfl⟩;go_wp2_with fail;obtain⟨w1,hw1⟩:∃w1,w.drewN nq=w1:=⟨_,rfl⟩;have hb1:Below w.heap.size w w1:=by rw[<-hw1];exact aP nq
  have hk1:∀b:Nat,w1.heap[b]? =w.heap[b]? :=fun b=>by rw[<-hw1];rfl
  have T1:=hid (T.out.belowS hb1);have vw:=hid hb1;have Gw:=hid hk1;have e0:w1.cell? (tZ h 0)=some (.pointer (some (tZ g 0))):=(World.cell?_of_block (hk1 h)).trans c0;have e2:w1.cell? (tZ h 2)=some (iV (k:Int)):=(World.cell?_of_block (hk1 h)).trans c2;have e10:w1.cell? (tZ g 10)=some (.slice (some (tZ am 0)) d.mem.length cM):=(World.cell?_of_block (hk1 g)).trans Ez;have ek:w1.cell? (tZ am k)=some (iV (d.mem.getD k 0)):=(World.cell?_of_block (hk1 am)).trans gk;have ef:w1.frozen? (tZ am k)=false:=(HA.out w1 hb1.size (fun b _=>hk1 b)).1;rw[hw1];have BV:h≠am:=fun e=>aRE e.symm
  have BB:g≠am:=fun e=>DF e.symm
  clear hw1 hb1 hk1 c0 c1 c2 c3 c4 c5 g0 g5 g6 g7 g11 Ez gk;go_region_held3 (fun w'=>w'.cell? (tZ h 0)=some (.pointer (some (tZ g 0)))/\w'.cell? (tZ h 2)=some (iV (k:Int))/\w'.cell? (tZ g 10)=some (.slice (some (tZ am 0)) d.mem.length cM)/\w'.frozen? (tZ am k)=false) (go_keep)
   (first|(go_at_call 386;refine(j0.out _ ?_).mono ?_;(first|exact T1.out|exact T1.out.belowS ⟨rfl,rfl,rfl,Nat.le_refl _,fun _ _=>rfl⟩);rintro e w2 ⟨rfl,q1,hq1⟩;have hk2:∀b:Nat,w2.heap[b]? =w1.heap[b]? :=(fun b=>by rw[hq1];rfl);have hs2:w2.heap.size=w1.heap.size:=(by rw[hq1];rfl);have hb2:Below w1.heap.size w1 w2:=(by rw[hq1];exact⟨rfl,rfl,rfl,Nat.le_refl _,fun _ _=>rfl⟩);have uz:=hid hb2;have LP:=hid hk2;have u0:w2.cell? (tZ h 0)=some (.pointer (some (tZ g 0))):=(World.cell?_of_block (hk2 h)).trans e0;have u2:w2.cell? (tZ h 2)=some (iV (k:Int)):=(World.cell?_of_block (hk2 h)).trans e2;have u10:w2.cell? (tZ g 10)=some (.slice (some (tZ am 0)) d.mem.length cM):=(World.cell?_of_block (hk2 g)).trans e10;have uk:w2.cell? (tZ am k)=some (iV (d.mem.getD k 0)):=(World.cell?_of_block (hk2 am)).trans ek;have uf:w2.frozen? (tZ am k)=false:=(HA.out w2 (Nat.le_trans vw.out.size hb2.size) (fun b _=>(hk2 b).trans (Gw.out b))).1;clear hq1 hk2 hs2 hb2))
  have hW:=(HA.out w2 (Nat.le_trans vw.out.size uz.out.size) (fun b _=>(LP.out b).trans (Gw.out b))).2 x0';have HW:=hid hW;clear hW u0 u2 u10 uk uf e0 e2 e10 ek ef aRE DF BV BB;go_wp2_with fail;refine(HW.out.1.swap hl 1 1 rfl hlen [] none 0 0 rfl (by omega) ai.empty).mono ?_;rintro e w4⟨rfl,F',ht,hg⟩;have K:=hid (And.intro ht hg);clear ht hg;go_wp2_with fail;go_ret;rw[ir.out];exact⟨F',rfl,K.out.1,(((bZ.of_below vw.out).trans (bZ.of_below uz.out)).trans HW.out.2).trans K.out.2⟩
 ·have ir:Hid (bG i cs ticks 11 (k:Int) d=(E,d)):=hid (by have e0:¬(cu d.stack.length 1 0=0):=(by rw[hE];exact h0);rw[<-hE];show(if _ then _ else _)=_;rw[if_neg hk];exact if_neg e0);have y1:(E==0)=false:=by simpa using h0
  clear hE h0 t hf hk;go_enter func342,ntmps342;go_wp2_with fail;go_quiet (fail)
  go_wp2_with fail;refine(I1.out _).mono ?_;rintro e w1⟨rfl,rfl⟩;go_wp2_with fail;go_ret;rw[ir.out];exact bY.same T.out rfl (aP _)
end
end Go.Proofs.YtfjkpigldogkeaaGreatDoor
