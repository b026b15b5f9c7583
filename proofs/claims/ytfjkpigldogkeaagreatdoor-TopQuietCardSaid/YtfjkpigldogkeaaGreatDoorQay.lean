/- Contracts of functions that TopQuiet reaches, under the conditions that each states. -/
import Derived.Test.YtfjkpigldogkeaaGreatDoorQap
import Derived.Test.YtfjkpigldogkeaaGreatDoorQax
set_option linter.all false
set_option maxRecDepth 100000
set_option maxHeartbeats 2000000
namespace Go.Proofs.YtfjkpigldogkeaaGreatDoor
open Go.RowKit Go.ChangeShapes Go.WideShapes Go.ChangeAt Go.Proofs.Tryz
theorem aJI{i:aO}(h:eU i):lM i (jF i.mem.toNat):=
 ⟨by simp[jF],by simp[jF],by have:=h.2.2.2.1;simp[jF];omega,fun x hx=>by
  simp only[jF,List.mem_replicate]at hx;rw[hx.2];exact⟨by omega,by omega⟩⟩
theorem aO6(cs:List aB)(h:∀x∈cs,0<=x.depth):jA cs (gJ cs):=fun k hk=>by
 obtain⟨x,hx⟩:∃x,cs[k]? =some x:=⟨_,List.getElem?_eq_getElem hk⟩;unfold gJ;rw[aAO hx];exact tG.zero (h x (List.mem_of_getElem? hx))
section
variable{w0 w w':World}{g gs:Nat}{i:aO}{cs:List aB}{s:nM}{ss:Nat->bP}{X:Nat->Prop}
theorem aLZ{F1 F2:Nat->Prop}(hM:nK w F1 g i s)(hS:eG w F2 gs cs ss)(Bc:∀b,F1 b->¬F2 b)(hI:eU i)(hs:lM i s)(hK:jA cs ss)(hd:∀k,k<cs.length->ju cs k<=4)(ht0:0<=s.ticks)(ht1:s.ticks<=1000000000):
  Calls prog 217 #[.pointer (some (tZ g 0)),.iface 121 (.pointer (some (tZ gs 0)))] w (aKS F1 F2 w g gs i cs (gp i cs s ss)):=by
 by_cases hf:s.fault=0
 ·exact aKW hM hS Bc hI hs hK hd hf ht0 ht1
 ·have e:gp i cs s ss=(s,ss,[],false):=by unfold gp;rw[if_pos hf]
  rw[e];refine(aI1 hM hf _).mono ?_;rintro e w'⟨rfl,hb⟩;have hno:∀b,¬bH none b:=fun b h9=>by obtain⟨x,hx,_⟩:=h9;cases hx
  exact⟨F1,F2,none,0,rfl,hM.belowS hb,hS.belowS hb,Bc,fun b h9=>absurd h9 (hno b),World.ownsRow_nil _ _ _ _,⟨bD.of_below hb,fun b h9=>.inl (h9.imp_right fun h8=>h8.resolve_right (hno b))⟩⟩
end
def qo(g:Nat)(i:aO)(s:nM):ay:=⟨fun w F=>nK w F g i s,fun h _ hk=>h.keep hk,fun h hb=>h.lt hb⟩
def kZ(gs:Nat)(cs:List aB)(ss:Nat->bP):ay:=⟨fun w F=>eG w F gs cs ss,fun h hs hk=>h.keep hs hk,fun h hb=>h.lt hb⟩
def aA(e:TypeId)(size:Nat)(A:Option Addr)(n c:Nat)(xs:List Value):ay:=
 ⟨fun w F=>w.ownsRow 0 e size (.slice A n c) n xs/\∀b,F b↔bH A b,fun h _ hk=>⟨dS h.1 fun b hb=>hk b ((h.2 b).2 hb),h.2⟩,fun h hb=>pq h.1 ((h.2 _).1 hb)⟩
section
variable{w w' w0:World}{g gs:Nat}{i:aO}{cs:List aB}{s:nM}{ss:Nat->bP}{l:List ay}
theorem ae.aSD(h:ae w0 (qo g i s::kZ gs cs ss::l) w)(hI:eU i)(hs:lM i s)(hK:jA cs ss)(hd:∀k,k<cs.length->ju cs k<=4)(ht0:0<=s.ticks)(ht1:s.ticks<=1000000000):
  Calls prog 217 #[.pointer (some (tZ g 0)),.iface 121 (.pointer (some (tZ gs 0)))] w fun e w'=>∃A c,e=.returned (qg A (gp i cs s ss).2.2.1.length c (gp i cs s ss).2.2.2)/\
   ae w0 (qo g i (gp i cs s ss).1::kZ gs cs (gp i cs s ss).2.1::aA 77 2 A (gp i cs s ss).2.2.1.length c ((gp i cs s ss).2.2.1.flatMap gq)::l) w':=by
 obtain⟨F1,F2,h1,h2,Bc,hcl⟩:=h.step2;refine(aLZ h1 h2 Bc hI hs hK hd ht0 ht1).mono ?_;rintro e w'⟨BW,IE,A,c,rfl,hM',Iu,aSE,hA,hown,hG⟩;refine⟨A,c,rfl,?_⟩;exact hcl w' [qo g i (gp i cs s ss).1,kZ gs cs (gp i cs s ss).2.1,aA 77 2 A (gp i cs s ss).2.2.1.length c ((gp i cs s ss).2.2.1.flatMap gq)] (fun b=>BW b\/IE b\/bH A b)
  ⟨BW,fun b=>IE b\/bH A b,hM',dX.two (C:=kZ gs cs (gp i cs s ss).2.1) (D:=aA 77 2 A (gp i cs s ss).2.2.1.length c ((gp i cs s ss).2.2.1.flatMap gq)) Iu ⟨hown,fun _=>Iff.rfl⟩ fun b hb hf=>(hA b hf).2 hb,fun b hb hf=>hf.elim (aSE b hb) (fun hf=>(hA b hf).1 hb),fun _=>Iff.rfl⟩ hG
theorem ae.aQF(h:ae w0 (qo g i s::l) w)(hI:eU i)(hs:lM i s):
  Calls prog 218 #[.pointer (some (tZ g 0))] w fun e w'=>∃A1 c1 A2 c2,e=.returned (JO s A1 c1 A2 c2)/\w'.ownsRow w.heap.size 3 1 (.slice A1 s.stack.length c1) s.stack.length (s.stack.map iV)/\w'.ownsRow w.heap.size 3 1 (.slice A2 s.mem.length c2) s.mem.length (s.mem.map iV)/\Below w.heap.size w w':=by
 obtain⟨F1,h1,_⟩:=h.get;exact aKd h1 (by have:=hs.len;omega) (by have:=hs.xG;have:=hI.2.2.2.1;omega)
theorem ae.aRI(h:ae w0 (qo g i s::l) w)(hI:eU i):
  Calls prog 140 #[.pointer (some (tZ g 0))] w fun e w'=>∃A c,e=.returned (eM i A c)/\w'.ownsRow w.heap.size 5 1 (.slice A i.code.length c) i.code.length (i.code.map bV)/\Below w.heap.size w w':=by
 obtain⟨F1,h1,_⟩:=h.get;exact aJz h1 (by have:=hI.2.2.2.2.2.2.2;omega)
theorem ae.uT{e:TypeId}{size:Nat}{A:Option Addr}{n c:Nat}{xs:List Value}(h:ae w0 (aA e size A n c xs::l) w):ai w w.heap.size size A n xs:=by
 obtain⟨F1,h1,_⟩:=h.get;exact ai.uA h1.1
theorem ae.blk{b:Nat}{T:TypeId}{xs:List Value}(h:ae w0 (aj b T xs::l) w):ak w b T xs:=by
 obtain⟨F1,h1,_⟩:=h.get;exact h1.1
theorem ae.made{T:TypeId}{xs:List Value}(h:ae w0 l w):ae w0 (aj w.heap.size T xs::l) (w.alloc (.cells xs.toArray T)):=
 h.push (ah w _) (C:=aj w.heap.size T xs) (F1:=fun b=>b=w.heap.size) ⟨ak.new w T xs,fun _=>Iff.rfl⟩ fun b hb=>Nat.le_of_eq hb.symm
end
def ou(p:Nat)(m:Option Nat)(b:Int):ay:=aj p 227 [.pointer (m.map fun g=>⟨g,0,none⟩),iV b]
section
variable{w w' w0:World}{p g gs:Nat}{i:aO}{cs:List aB}{s:nM}{ss:Nat->bP}{l:List ay}{b:Int}{m:Option Nat}
theorem ae.xP(h:ae w0 (ou p m b::l) w):w.cell? (tZ p 0)=some (.pointer (m.map fun g=>⟨g,0,none⟩))/\w.cell? (tZ p 1)=some (iV b)/\∀k,w.frozen? (tZ p k)=false:=by
 have hb:ak w p 227 [.pointer (m.map fun g=>⟨g,0,none⟩),iV b]:=ae.blk h;exact⟨hb.cellAt rfl,hb.cellAt rfl,hb.frozen⟩
theorem aFD(w:World):Calls prog 126 #[] w fun e w'=>e=.returned (.pointer (some (tZ w.heap.size 0)))/\w'=w.alloc (.cells #[.pointer none,iV 0] 227):=by
 go_enter func126,ntmps126;go_wp2_with fail;go_ret;exact⟨rfl,by first|trivial|rfl⟩
theorem aB5(h:ae w0 (ou p m b::l) w):Calls prog 139 #[.pointer (some (tZ p 0))] w fun e w'=>e=.returned (.bool m.isNone)/\w=w':=by
 obtain⟨c0,_,_⟩:=h.xP;cases m with
 |none=>
  simp only[Option.map_none]at c0;clear h;go_enter func139,ntmps139;go_wp2_with fail;go_ret;exact⟨rfl,rfl⟩
 |some g=>
  simp only[Option.map_some]at c0;clear h;go_enter func139,ntmps139;go_wp2_with fail;go_ret;exact⟨rfl,rfl⟩
theorem aJ9(v0 v1 v2 v3 v4:Value)(w:World):(Instr.field 55 (.agg #[v0,v1,v2,v3,v4]) 4).run prog w=.ok v4 w:=by kernel_rfl
theorem aGQ(h:ae w0 (ou p (some g) b::qo g i s::l) w)(hI:eU i)(hs:lM i s):Calls prog 272 #[.pointer (some (tZ p 0))] w fun e w'=>e=.returned (.bool (s.fault !=0))/\Below w.heap.size w w':=by
 have i1:=hid (aB5 h);have i2:=hid (h.drop.aQF hI hs);obtain⟨c0,_,_⟩:=h.xP;simp only[Option.map_some]at c0;have hf:=aJ9;unfold JO at i2;obtain⟨f,Ey⟩:∃f,s.fault=f:=⟨_,rfl⟩;simp only[Ey]at i2 ⊢;clear h Ey;go_enter func272,ntmps272;go_wp2_with fail;refine i1.out.mono ?_;rintro e w'⟨rfl,rfl⟩;go_wp2_with fail;refine i2.out.mono ?_;rintro e w2⟨A1,c1,A2,c2,rfl,_,_,hb2⟩;go_wp2_with fail;go_ret;exact⟨rfl,hb2⟩
theorem aEe(h:ae w0 (ou p none b::l) w):Calls prog 200 #[.pointer (some (tZ p 0))] w fun e w'=>e=.returned (.bool false)/\w=w':=by
 have i1:=hid (aB5 h);clear h;go_enter func200,ntmps200;go_wp2_with fail;refine i1.out.mono ?_;rintro e w'⟨rfl,rfl⟩;go_wp2_with fail;go_ret;exact⟨rfl,rfl⟩
theorem aDo(h:ae w0 (ou p (some g) b::qo g i s::l) w)(hI:eU i)(hs:lM i s):Calls prog 200 #[.pointer (some (tZ p 0))] w fun e w'=>e=.returned (.bool (s.fault==0))/\Below w.heap.size w w':=by
 have i1:=hid (aB5 h);have i2:=hid (aGQ h hI hs);have hz:Hid ((s.fault==0)= !(s.fault !=0)):=hid (by simp[bne]);generalize (s.fault !=0)=f at*
 clear h;go_enter func200,ntmps200;go_wp2_with fail;refine i1.out.mono ?_;rintro e w'⟨rfl,rfl⟩;go_wp2_with fail;refine i2.out.mono ?_;rintro e w2⟨rfl,hb2⟩;go_wp2_with fail;go_ret;exact⟨by rw[hz.out];rfl,hb2⟩
end
section
variable{w w' w0:World}{p g gs:Nat}{i:aO}{cs:List aB}{s:nM}{ss:Nat->bP}{l:List ay}{b:Int}{m:Option Nat}
theorem aI0(h:ae w0 (ou p (some g) b::qo g i s::l) w)(hI:eU i):
  Calls prog 64 #[.pointer (some (tZ p 0))] w fun e w'=>∃A c,e=.returned (.tuple #[eM i A c,.bool true])/\w'.ownsRow w.heap.size 5 1 (.slice A i.code.length c) i.code.length (i.code.map bV)/\Below w.heap.size w w':=by
 obtain⟨w1,hw1,hX1,hb1,hs1⟩:∃W,w.alloc (.cells #[iV 0,iV 0,iV 0,iV 0,iV 0,iV 0,iV 0,.slice none 0 0] 39)=W/\ak W w.heap.size 39 [iV 0,iV 0,iV 0,iV 0,iV 0,iV 0,iV 0,.slice none 0 0]/\Below w.heap.size w W/\W.heap.size=w.heap.size+1:=⟨_,rfl,ak.new w _ [iV 0,iV 0,iV 0,iV 0,iV 0,iV 0,iV 0,.slice none 0 0],ah _ _,by simp⟩;have H1:=hid (h.belowS hb1);have i1:=hid (aB5 H1.out);have i2:=hid (H1.out.drop.aRI hI);obtain⟨c0,_,_⟩:=H1.out.xP;simp only[Option.map_some]at c0;have yj:=hid hX1;have vw:=hid hb1;have zA:=hid hs1;unfold eM at i2 ⊢;obtain⟨N,hN⟩:∃N,i.code.length=N:=⟨_,rfl⟩;rw[hN]at i2;rw[hN];clear h hX1 hb1 hs1 hN hI;go_enter func64,ntmps64;go_wp2_with fail;refine i1.out.mono ?_;rintro e w'⟨rfl,rfl⟩;go_wp2_with fail;refine i2.out.mono ?_;rintro e w2⟨A1,c1,rfl,yw,hb2⟩;have vh:=yj.out.belowS hb2;have z0:w2.cell? (tZ w.heap.size 0)=some (iV 0):=vh.cellAt rfl;have z1:w2.cell? (tZ w.heap.size 1)=some (iV 0):=vh.cellAt rfl;have z2:w2.cell? (tZ w.heap.size 2)=some (iV 0):=vh.cellAt rfl;have z3:w2.cell? (tZ w.heap.size 3)=some (iV 0):=vh.cellAt rfl;have z4:w2.cell? (tZ w.heap.size 4)=some (iV 0):=vh.cellAt rfl;have z5:w2.cell? (tZ w.heap.size 5)=some (iV 0):=vh.cellAt rfl;have z6:w2.cell? (tZ w.heap.size 6)=some (iV 0):=vh.cellAt rfl
 have z7:w2.cell? (tZ w.heap.size 7)=some (.slice none 0 0):=vh.cellAt rfl;have zf:=vh.frozen;have vV:=hid vh;have D8:=hid yw;have uz:=hid (ag vw.out hb2);clear vh yw hb2 c0;go_wp2_with fail;obtain⟨w3,hw3,hb3,hk3,hr3⟩:=LV vV.out rfl (iV i.part) (iV i.ver) (iV i.uw) (iV i.mem) (iV i.fuel) (iV i.sends) (iV i.uj) (.slice A1 N c1);rw[hw3];clear hw3 z0 z1 z2 z3 z4 z5 z6 z7 zf;obtain⟨r0,r1,r2,r3,r4,r5,r6,r7⟩:_/\_/\_/\_/\_/\_/\_/\_:=⟨hr3.cellAt (i:=0) rfl,hr3.cellAt (i:=1) rfl,hr3.cellAt (i:=2) rfl,hr3.cellAt (i:=3) rfl,hr3.cellAt (i:=4) rfl,hr3.cellAt (i:=5) rfl,hr3.cellAt (i:=6) rfl,hr3.cellAt (i:=7) rfl⟩;refine bodyPost_ret (v:=.tuple #[.agg #[iV i.part,iV i.ver,iV i.uw,iV i.mem,iV i.fuel,iV i.sends,iV i.uj,.slice A1 N c1],.bool true]) (by simp[results,results64,go_sem,r0,r1,r2,r3,r4,r5,r6,r7]) rfl ?_;have hh:=zA.out;exact⟨A1,c1,rfl,bh (dS D8.out fun x hx=>hk3 x (by have:=(D8.out.lt x (aN.2 hx)).1;omega)) (by omega),uz.out.trans (hb3.mono (Nat.le_refl _))⟩
end
theorem aET{w:World}{b:Nat}{T:TypeId}{cs:List Value}(h:ak w b T cs)(hl:cs.length=7)(v0 v1 v2 v3 v4 v5 v6:Value):
  ∃w':World,((((((w.setCell (tZ b 0) v0).setCell (tZ b 1) v1).setCell (tZ b 2) v2).setCell (tZ b 3) v3).setCell (tZ b 4) v4).setCell (tZ b 5) v5).setCell (tZ b 6) v6=w'/\Below b w w'/\(∀k,k≠b->w'.heap[k]? =w.heap[k]?)/\ak w' b T [v0,v1,v2,v3,v4,v5,v6]:=by
 refine⟨_,rfl,(((((((Below.refl _ _).setCell (p:=⟨b,0,none⟩) (Nat.le_refl _) _).setCell (p:=⟨b,1,none⟩) (Nat.le_refl _) _).setCell (p:=⟨b,2,none⟩) (Nat.le_refl _) _).setCell (p:=⟨b,3,none⟩) (Nat.le_refl _) _).setCell (p:=⟨b,4,none⟩) (Nat.le_refl _) _).setCell (p:=⟨b,5,none⟩) (Nat.le_refl _) _).setCell (p:=⟨b,6,none⟩) (Nat.le_refl _) _,fun k hk=>(Below.heap_setCell _ _ _ _ hk).trans ((Below.heap_setCell _ _ _ _ hk).trans ((Below.heap_setCell _ _ _ _ hk).trans ((Below.heap_setCell _ _ _ _ hk).trans ((Below.heap_setCell _ _ _ _ hk).trans ((Below.heap_setCell _ _ _ _ hk).trans (Below.heap_setCell _ _ _ _ hk)))))),?_⟩;have:=(((((((h.uh 0 v0).uh 1 v1).uh 2 v2).uh 3 v3).uh 4 v4).uh 5 v5).uh 6 v6);match cs,hl with
 |[_,_,_,_,_,_,_],_=>exact this
section
variable{w w' w0:World}{p g gs:Nat}{i:aO}{cs:List aB}{s:nM}{ss:Nat->bP}{l:List ay}{b:Int}{m:Option Nat}{T:TypeId}
theorem ae.store{x:Nat}{xs:List Value}(h:ae w0 (aj x T xs::l) w)(k:Nat)(v:Value):ae w0 (aj x T (xs.set k v)::l) (w.setCell (tZ x k) v):=by
 obtain⟨F1,h1,hcl⟩:=h.step1;have hb:ak w x T xs/\_:=h1;exact hcl _ (aj x T (xs.set k v)) F1 ⟨hb.1.uh k v,hb.2⟩ ⟨(bD.refl _ _).setCell (.inl ((hb.2 x).2 rfl)) _,fun _ h9=>.inl h9⟩
theorem aNa(h:ae w0 (ou p m b::l) w)(A:Option Addr)(c:Nat)(vW:ai w w.heap.size 1 A i.code.length (i.code.map bV))(hR:uu i=true)(hb0:0<=b)(yB:b<=1000000):
  Calls prog 131 #[.pointer (some (tZ p 0)),eM i A c] w fun e w'=>e=.returned (iV 0)/\∃g',ae w0 (ou p (some g') (b+1)::qo g' i (jF i.mem.toNat)::l) w':=by
 obtain⟨w1,hw1,hb1,xO,hs1⟩:=aKF i A c w;obtain⟨c0,c1,c2,c3,c4,c5,c6,c7⟩:=jI xO;have H1:=hid (h.belowS hb1);have i1:=hid (aM2 i A c w1 (vW.belowS hb1) hR);unfold eM at i1 ⊢;clear hb1 xO hR hs1 h vW;go_enter func131,ntmps131;go_wp2_with fail;refine i1.out.mono ?_;rintro e w2⟨F1,g',rfl,hM,hb2,BG⟩;have hP:=(H1.out.push hb2 (C:=qo g' i (jF i.mem.toNat)) hM BG).perm (List.Perm.swap _ _ _);obtain⟨q0,q1,qf⟩:=hP.xP;have HP:=hid hP;clear hM hb2 BG hP i1 c0 c1 c2 c3 c4 c5 c6 c7;go_wp2_with fail;go_ret;refine⟨rfl,g',?_⟩;have h9:ae w0 (aj p 227 [.pointer (m.map fun g=>⟨g,0,none⟩),iV b]::qo g' i (jF i.mem.toNat)::l) w2:=HP.out;exact(h9.store 0 (.pointer (some (tZ g' 0)))).store 1 (iV (b+1))
def qV(A:Option Addr)(n c:Nat)(cf:Bool)(s:nM)(A1:Option Addr)(c1:Nat)(A2:Option Addr)(c2:Nat):Value:=.agg #[.slice A n c,.bool cf,iV s.pc,.slice A1 s.stack.length c1,.slice A2 s.mem.length c2,iV s.ticks,iV s.fault]
theorem aMG(h:ae w0 (ou p none b::l) w)(x:Value):Calls prog 137 #[.pointer (some (tZ p 0)),x] w fun e w'=>e=.returned (.tuple #[qV none 0 0 false ⟨0,[],[],0,0⟩ none 0 none 0,.bool false])/\Below w.heap.size w w':=by
 have i1:=hid (fun W (hb:Below w.heap.size w W)=>aEe (h.belowS hb));clear h;go_enter func137,ntmps137;go_wp2_with fail;refine(i1.out _ (ah _ _)).mono ?_;rintro e w'⟨rfl,rfl⟩;go_wp2_with fail;go_returns
 exact⟨rfl,ah _ _⟩
theorem aK8(h:ae w0 (ou p (some g) b::qo g i s::l) w)(hI:eU i)(hs:lM i s)(hf:s.fault≠0)(x:Value):Calls prog 137 #[.pointer (some (tZ p 0)),x] w fun e w'=>e=.returned (.tuple #[qV none 0 0 false ⟨0,[],[],0,0⟩ none 0 none 0,.bool false])/\Below w.heap.size w w':=by
 have i1:=hid (fun W (hb:Below w.heap.size w W)=>aDo (h.belowS hb) hI hs);rw[show(s.fault==0)=false by simpa using hf]at i1;clear h hf;go_enter func137,ntmps137;obtain⟨w1,hw1,hX1,hb1⟩:∃W,w.alloc (.cells #[.slice none 0 0,.bool false,iV 0,.slice none 0 0,.slice none 0 0,iV 0,iV 0] 219)=W/\Hid (ak W w.heap.size 219 [.slice none 0 0,.bool false,iV 0,.slice none 0 0,.slice none 0 0,iV 0,iV 0])/\Hid (Below w.heap.size w W):=⟨_,rfl,hid (ak.new w _ [.slice none 0 0,.bool false,iV 0,.slice none 0 0,.slice none 0 0,iV 0,iV 0]),hid (ah _ _)⟩;go_wp2_with fail;refine(i1.out _ hb1.out).mono ?_;rintro e w2⟨rfl,hb2⟩;have vh:=hX1.out.belowS hb2;have z0:w2.cell? (tZ w.heap.size 0)=some (.slice none 0 0):=vh.cellAt rfl;have z1:w2.cell? (tZ w.heap.size 1)=some (.bool false):=vh.cellAt rfl;have z2:w2.cell? (tZ w.heap.size 2)=some (iV 0):=vh.cellAt rfl;have z3:w2.cell? (tZ w.heap.size 3)=some (.slice none 0 0):=vh.cellAt rfl;have z4:w2.cell? (tZ w.heap.size 4)=some (.slice none 0 0):=vh.cellAt rfl;have z5:w2.cell? (tZ w.heap.size 5)=some (iV 0):=vh.cellAt rfl;have z6:w2.cell? (tZ w.heap.size 6)=some (iV 0):=vh.cellAt rfl;have zf:=vh.frozen;have vV:=hid vh;have uz:=hid (ag hb1.out hb2);clear vh hb2 hw1 hX1 hb1 i1;go_wp2_with fail
 obtain⟨w3,hw3,hb3,hk3,hr3⟩:=aET vV.out rfl (.slice none 0 0) (.bool false) (iV 0) (.slice none 0 0) (.slice none 0 0) (iV 0) (iV 0);rw[hw3];clear hw3 z0 z1 z2 z3 z4 z5 z6 zf;obtain⟨r0,r1,r2,r3,r4,r5,r6⟩:_/\_/\_/\_/\_/\_/\_:=⟨hr3.cellAt (i:=0) rfl,hr3.cellAt (i:=1) rfl,hr3.cellAt (i:=2) rfl,hr3.cellAt (i:=3) rfl,hr3.cellAt (i:=4) rfl,hr3.cellAt (i:=5) rfl,hr3.cellAt (i:=6) rfl⟩;refine bodyPost_ret (v:=.tuple #[.agg #[.slice none 0 0,.bool false,iV 0,.slice none 0 0,.slice none 0 0,iV 0,iV 0],.bool false]) (by simp[results,results137,go_sem,r0,r1,r2,r3,r4,r5,r6]) rfl ?_;exact⟨rfl,uz.out.trans (hb3.mono (Nat.le_refl _))⟩
end
def ay.all(L:List ay):ay:=⟨fun w F=>dX L w F,fun h hs hk=>h.keep hs hk,fun h hb=>h.lt hb⟩
def ay.ex{α:Type}(f:α->ay):ay:=⟨fun w F=>∃a,(f a).p w F,fun⟨a,h⟩ hs hk=>⟨a,(f a).keep h hs hk⟩,fun⟨a,h⟩ hb=>(f a).lt h hb⟩
def ay.fact(P:Prop):ay:=⟨fun _ F=>P/\∀b,¬F b,fun h _ _=>h,fun h hb=>absurd hb (h.2 _)⟩
section
variable{w w' w0:World}{F G:Nat->Prop}{C D:ay}{L l:List ay}{α:Type}{f:α->ay}{P:Prop}
theorem dX.aQG(h:dX (ay.all L::l) w F):dX (L++l) w F:=by
 obtain⟨F1,F2,h1,h2,h3,h4⟩:=h;exact(dX.app (show dX L w F1 from h1) h2 h3).Dz h4
theorem dX.all_cons(h:dX (L++l) w F):dX (ay.all L::l) w F:=by
 obtain⟨F1,F2,h1,h2,h3,h4⟩:=h.step;exact⟨F1,F2,h1,h2,h3,h4⟩
theorem ae.xI(h:ae w0 (ay.all L::l) w):ae w0 (L++l) w:=by
 obtain⟨F,h1,h2⟩:=h;exact⟨F,h1.aQG,h2⟩
theorem ae.all(h:ae w0 (L++l) w):ae w0 (ay.all L::l) w:=by
 obtain⟨F,h1,h2⟩:=h;exact⟨F,h1.all_cons,h2⟩
theorem ae.aRJ(h:ae w0 (ay.ex f::l) w):∃a,ae w0 (f a::l) w:=by
 obtain⟨F,⟨F1,F2,⟨a,h1⟩,h2⟩,h3⟩:=h;exact⟨a,F,⟨F1,F2,h1,h2⟩,h3⟩
theorem ae.ex(a:α)(h:ae w0 (f a::l) w):ae w0 (ay.ex f::l) w:=by
 obtain⟨F,⟨F1,F2,h1,h2⟩,h3⟩:=h;exact⟨F,⟨F1,F2,⟨a,h1⟩,h2⟩,h3⟩
theorem ae.aRK(h:ae w0 (ay.fact P::l) w):P/\ae w0 l w:=by
 refine⟨?_,h.drop⟩;obtain⟨F,⟨F1,F2,h1,h2⟩,h3⟩:=h;exact h1.1
theorem ae.fact(hP:P)(h:ae w0 l w):ae w0 (ay.fact P::l) w:=by
 obtain⟨F,h1,h2⟩:=h;exact⟨F,⟨fun _=>False,F,⟨hP,fun _ h=>h⟩,h1,fun _ h=>h.elim,fun b=>⟨.inr,fun h=>h.elim (fun h=>h.elim) id⟩⟩,h2⟩
theorem aIw{l:List ay}{i:Nat}{C:ay}(hi:l[i]? =some C):l.Perm (C::l.eraseIdx i):=by
 induction l generalizing i with
 |nil=>simp at hi
 |cons D l ih=>
  cases i with
  |zero=>
   simp only[List.getElem?_cons_zero,Option.some.injEq]at hi;subst hi;exact List.Perm.refl _
  |succ i=>
   simp only[List.getElem?_cons_succ]at hi;exact((ih hi).cons D).trans (List.Perm.swap _ _ _)
theorem aGc{l:List ay}{i:Nat}(C:ay)(hi:i<l.length):(C::l.eraseIdx i).Perm (l.set i C):=by
 induction l generalizing i with
 |nil=>simp at hi
 |cons D l ih=>
  cases i with
  |zero=>exact List.Perm.refl _
  |succ i=>
   simp only[List.length_cons,Nat.add_lt_add_iff_right]at hi;exact(List.Perm.swap _ _ _).trans ((ih hi).cons D)
theorem ae.at_(h:ae w0 l w)(i:Nat)(hi:l[i]? =some C):ae w0 (C::l.eraseIdx i) w:=h.perm (aIw hi)
theorem ae.aQY{i:Nat}(h:ae w0 (C::l.eraseIdx i) w)(hi:i<l.length):ae w0 (l.set i C) w:=h.perm (aGc C hi)
theorem ae.head(h:ae w0 (C::l) w):ae w0 [C] w:=h.sub (List.Sublist.cons_cons _ (List.nil_sublist _))
theorem ae.tail(h:ae w0 (L++l) w):ae w0 l w:=h.sub (List.sublist_append_right _ _)
theorem ae.aQH{L1 L2:List ay}(h:ae w0 (L1++(L2++l)) w):ae w0 (L2++(L1++l)) w:=by
 refine h.perm ?_;rw[<-List.append_assoc,<-List.append_assoc];exact List.perm_append_comm.append_right l
theorem ae.drew(h:ae w0 l w):ae w0 l w.drew:=h.belowS ⟨rfl,rfl,rfl,Nat.le_refl _,fun _ _=>rfl⟩
theorem ae.drewN(h:ae w0 l w)(n:Nat):ae w0 l (w.drewN n):=h.belowS (bW (Below.refl _ _) n)
theorem ae.alloc(h:ae w0 l w)(o:Obj):ae w0 l (w.alloc o):=h.belowS ((Below.refl _ _).alloc (Nat.le_refl _) _)
end
end Go.Proofs.YtfjkpigldogkeaaGreatDoor
