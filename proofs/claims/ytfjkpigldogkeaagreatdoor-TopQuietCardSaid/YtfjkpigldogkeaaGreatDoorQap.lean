/- Contracts of functions that TopQuiet reaches, under the conditions that each states. -/
import Derived.Test.YtfjkpigldogkeaaGreatDoorQao
set_option linter.all false
set_option maxRecDepth 100000
set_option maxHeartbeats 4000000
namespace Go.Proofs.YtfjkpigldogkeaaGreatDoor
open Go.RowKit Go.ChangeShapes Go.WideShapes Go.ChangeAt Go.Proofs.Tryz
theorem aIK{i:aO}{cs:List aB}{ticks:Int}{n:Nat}{pc:Int}{d:nJ}{o:Nat}{a nx:Int}(h:rI i.code pc=some (o,a,nx)):lH i cs ticks (n+1) pc d=
  if(bG i cs ticks o a {d with next:=nx}).1=0 then(if o=0 then((bG i cs ticks o a {d with next:=nx}).2.next,0,(bG i cs ticks o a {d with next:=nx}).2)else lH i cs ticks n (bG i cs ticks o a {d with next:=nx}).2.next (bG i cs ticks o a {d with next:=nx}).2)
  else(pc,(bG i cs ticks o a {d with next:=nx}).1,(bG i cs ticks o a {d with next:=nx}).2):=by
 rw[lH,h]
def qg(A:Option Addr)(n c:Nat)(uD:Bool):Value:=.agg #[.slice A n c,.bool uD]
theorem aMR(o:Nat)(ho:o<=18):tH[o]? =some (.func (.func (aI8 o)) #[] #[]):=by
 have h19:o=0\/o=1\/o=2\/o=3\/o=4\/o=5\/o=6\/o=7\/o=8\/o=9\/o=10\/o=11\/o=12\/o=13\/o=14\/o=15\/o=16\/o=17\/o=18:=by omega
 rcases h19 with rfl|rfl|rfl|rfl|rfl|rfl|rfl|rfl|rfl|rfl|rfl|rfl|rfl|rfl|rfl|rfl|rfl|rfl|rfl<;>rfl
section
variable{w w':World}{F F1 F2:Nat->Prop}{h g gs:Nat}{i:aO}{a:su}{s:nM}{cs:List aB}{ss:Nat->bP}{pc ticks fault arg:Int}{Ao:Option Addr}{cO:Nat}{d:nJ}
theorem aI1(hM:nK w F g i s)(hf:s.fault≠0)(p:Value):Calls prog 217 #[.pointer (some (tZ g 0)),p] w fun e w'=>e=.returned (qg none 0 0 false)/\Below w.heap.size w w':=by
 obtain⟨a,m,_⟩:=hM;have c0:w.cell? (tZ g 12)=some (iV s.fault):=m.blk.cellAt rfl;have d0:=fun o=>dh c0 o
 have y0:(s.fault !=0)=true:=by simpa using hf
 generalize s.fault=f at*
 clear m hf;go_enter func217,ntmps217;go_wp2_with fail;go_returns
 exact⟨rfl,(Below.refl _ _).alloc (Nat.le_refl _) _⟩
theorem aHw(hM:nK w F1 g i s)(hS:eG w F2 gs cs ss)(Bc:∀b,F1 b->¬F2 b)(hb:Below w.heap.size w w')(hH:ak w' h 417 (rF g gs 0 0 none 0 0 false))(hh:w.heap.size<=h):
  aF w' (fun b=>F1 b\/F2 b\/b=h) h g gs i cs s.pc s.ticks s.fault 0 (jQ s ss):=by
 obtain⟨a,m,BG⟩:=hM;have hlt:∀b,fK g a b->b<w.heap.size:=fun b h9=>m.lt h9
 have hno:∀b,¬bH none b:=fun b h9=>by obtain⟨x,hx,_⟩:=h9;cases hx
 refine⟨a,none,0,F2,m.belowS hb,⟨hH,World.ownsRow_nil _ _ _ _⟩,hS.belowS hb,fun b h9=>⟨fun h8=>Bc b ((BG b).2 h8) h9,?_⟩,fun b=>?_⟩
 ·rintro(rfl|h8)
  ·have:=hS.lt h9;omega
  ·exact hno b h8
 ·constructor
  ·rintro(h9|h9|h9)
   ·exact .inl ((BG b).1 h9)
   ·exact .inr (.inr h9)
   ·exact .inr (.inl (.inl h9))
  ·rintro(h9|(h9|h9)|h9)
   ·exact .inl ((BG b).2 h9)
   ·exact .inr (.inr h9)
   ·exact absurd h9 (hno b)
   ·exact .inr (.inl h9)
def aKS(F1 F2:Nat->Prop)(w:World)(g gs:Nat)(i:aO)(cs:List aB)(r:nM×(Nat->bP)×List (Int×Int)×Bool)(e:Ending)(w':World):Prop:=
 ∃BW IE A c,e=.returned (qg A r.2.2.1.length c r.2.2.2)/\nK w' BW g i r.1/\eG w' IE gs cs r.2.1/\(∀b,BW b->¬IE b)/\(∀b,bH A b->¬BW b/\¬IE b)/\
  w'.ownsRow 0 77 2 (.slice A r.2.2.1.length c) r.2.2.1.length (r.2.2.1.flatMap gq)/\bZ (fun b=>F1 b\/F2 b) w (fun b=>BW b\/IE b\/bH A b) w'
theorem aBF{w3 wz wf:World}{Fz Hv:Nat->Prop}{R:Nat}{s':nM}(mz:dm wz g i a (mP pc ticks fault d))(rz:jY wz h g gs arg Ao cO d)(hsz:eG wz Hv gs cs d.ss)(Cm:∀b,Hv b->¬fK g a b/\¬o9 h Ao b)(Bd:∀b,Fz b↔fK g a b\/o9 h Ao b\/Hv b)
(hG:bZ (fun b=>F1 b\/F2 b\/b=h) w3 Fz wz)(hb:Below w.heap.size w w3)(hh:w.heap.size<=h)(hRw:w.heap.size<=R)(hR:¬Fz R)
(hblk:ak wf g 336 (nC i a s'))(h1:s'.stack=d.stack)(h2:s'.mem=d.mem)(hk:∀b,b≠g->b≠R->wf.heap[b]? =wz.heap[b]?)(hsize:wz.heap.size<=wf.heap.size)(hos:wf.os=wz.os)(htp:wf.tape=wz.tape)(Hl:wf.output=wz.output)
(r:nM×(Nat->bP)×List (Int×Int)×Bool)(hr:r=(s',d.ss,d.sent,d.uD)):aKS F1 F2 w g gs i cs r (.returned (qg Ao d.sent.length cO d.uD)) wf:=by
 subst hr;have hg0:Fz g:=(Bd g).2 (.inl (.inl rfl));have CC:∀b,Fz b->b≠R:=fun b hf e=>hR (e▸hf)
 have IG:∀b,fK g a b->b≠g->wf.heap[b]? =wz.heap[b]? :=fun b hm hn=>hk b hn (CC b ((Bd b).2 (.inl hm)))
 have hm:dm wf g i a s':=by
  obtain⟨q1,q2,q3,q4,q5⟩:=s';simp only at h1 h2;subst h1 h2;exact⟨hblk,mz.cd.keep fun b h9=>IG b (.inr (.inl h9)) (fun e=>mz.off.1 (e▸h9)),mz.st.keep fun b h9=>IG b (.inr (.inr (.inl h9))) (fun e=>mz.off.2.1 (e▸h9)),mz.me.keep fun b h9=>IG b (.inr (.inr (.inr h9))) (fun e=>mz.off.2.2 (e▸h9)),mz.ap⟩
 refine⟨fK g a,Hv,Ao,cO,rfl,hm.at_,hsz.keep hsize fun b h9=>hk b (fun e=>(Cm b h9).1 (.inl e)) (CC b ((Bd b).2 (.inr (.inr h9)))),fun b h9 h8=>(Cm b h8).1 h9,fun b h9=>⟨rz.apart mz (.inr h9),fun h8=>(Cm b h8).2 (.inr h9)⟩,dS rz.out fun b h9=>hk b (fun e=>rz.apart mz (.inr h9) (.inl e)) (CC b ((Bd b).2 (.inr (.inl (.inr h9))))),⟨⟨?_,?_,?_,?_,?_⟩,?_⟩⟩
 ·exact hos.trans (hG.apart.os.trans hb.os)
 ·exact htp.trans (hG.apart.tape.trans hb.tape)
 ·exact Hl.trans (hG.apart.output.trans hb.output)
 ·exact Nat.le_trans hb.size (Nat.le_trans hG.apart.size hsize)
 ·intro b hlt hn;have hn0:¬(F1 b\/F2 b\/b=h):=fun h9=>h9.elim (fun h8=>hn (.inl h8)) (fun h8=>h8.elim (fun h7=>hn (.inr h7)) (fun h7=>by omega))
  have hz:¬Fz b:=fun hf=>(hG.foot b hf).elim hn0 (fun h9=>by have:=hb.size;omega)
  exact(hk b (fun e=>hz (e▸hg0)) (by omega)).trans ((hG.apart.block b (Nat.lt_of_lt_of_le hlt hb.size) hn0).trans (hb.block b hlt))
 ·intro b yB;have hz:Fz b:=by
   rcases yB with h9|h9|h9
   ·exact(Bd b).2 (.inl h9)
   ·exact(Bd b).2 (.inr (.inr h9))
   ·exact(Bd b).2 (.inr (.inl (.inr h9)))
  rcases hG.foot b hz with h9|h9
  ·rcases h9 with h9|h9|h9
   ·exact .inl (.inl h9)
   ·exact .inl (.inr h9)
   ·exact .inr (by omega)
  ·exact .inr (Nat.le_trans hb.size h9)
theorem aKW(hM:nK w F1 g i s)(hS:eG w F2 gs cs ss)(Bc:∀b,F1 b->¬F2 b)(hI:eU i)(hs:lM i s)(hK:jA cs ss)(hd:∀k,k<cs.length->ju cs k<=4)(hf:s.fault=0)(ht0:0<=s.ticks)(ht1:s.ticks<=1000000000):
  Calls prog 217 #[.pointer (some (tZ g 0)),.iface 121 (.pointer (some (tZ gs 0)))] w (aKS F1 F2 w g gs i cs (gp i cs s ss)):=by
 have hM0:=hM;obtain⟨a,m,_⟩:=hM0;have c0:w.cell? (tZ g 12)=some (iV 0):=by rw[<-hf];exact m.blk.cellAt rfl
 have d0:=fun o=>dh c0 o
 obtain⟨fu,II⟩:∃fu:Nat,i.fuel=(fu:Int):=⟨i.fuel.toNat,by have:=hI.2.2.2.2.1;omega⟩;have hfu32:fu<=32:=by have:=hI.2.2.2.2.1;omega
 have c4:w.cell? (tZ g 4)=some (iV (fu:Int)):=by rw[<-II];exact m.blk.cellAt rfl
 have HM:=hid hM;have HS:=hid hS;have HFU:=hid II;have HMM:=hid m;have HF:=hid hf;have Hdis:=hid Bc;have LW:=hid hI;have HHS:=hid hs;have HHK:=hid hK;have HHd:=hid hd;clear hM hS II m hf Bc hI hs hK hd;obtain⟨FA,LX⟩:∃FA:Array Value,tH.toArray=FA:=⟨_,rfl⟩;have FW:FA.size=19:=by rw[<-LX];rfl
 have BG:FA.all (·.oneCell')=true:=by rw[<-LX];simp[tH,Value.oneCell']
 have iD:=hid aIV;rw[LX]at iD;have HFA:=hid LX;clear LX;go_enter func217,ntmps217;go_wp2_with fail;obtain⟨w1,hw1,JQ,hH1,hb1,hs1⟩:∃W,((w.alloc (.cells #[.slice none 0 0,.bool false] 332)).alloc (.cells #[.pointer (some (tZ g 0)),.iface 121 (.pointer (some (tZ gs 0))),iV 0,iV 0,.slice none 0 0,.bool false] 417))=W/\ak W w.heap.size 332 [.slice none 0 0,.bool false]/\ak W (w.heap.size+1) 417 (rF g gs 0 0 none 0 0 false)/\Below w.heap.size w W/\w.heap.size+2<=W.heap.size:=
  ⟨_,rfl,(ak.new w _ [.slice none 0 0,.bool false]).alloc _,(by
   have:=ak.new (w.alloc (.cells #[.slice none 0 0,.bool false] 332)) 417 (rF g gs 0 0 none 0 0 false);rw[show(w.alloc (.cells #[.slice none 0 0,.bool false] 332)).heap.size=w.heap.size+1 by simp]at this;exact this),aC ((Below.refl w.heap.size w).alloc (Nat.le_refl _) _) _,by simp⟩
 rw[hw1];clear hw1 d0;refine(iD.out _).mono ?_;rintro e w2⟨rfl,hb2⟩;have e4:=fun o=>dh (show w2.cell? (tZ g 4)=some (iV (fu:Int))from((HMM.out.belowS (ag hb1 hb2)).blk.cellAt rfl).trans (by rw[HFU.out])) o
 obtain⟨w3,hw3,DJ,LY,hH3,hb3,yg⟩:∃W,w2.alloc (.cells FA ru)=W/\ak W w2.heap.size ru tH/\ak W w.heap.size 332 [.slice none 0 0,.bool false]/\ak W (w.heap.size+1) 417 (rF g gs 0 0 none 0 0 false)/\Below w.heap.size w W/\W.heap.size=w2.heap.size+1:=
  ⟨_,rfl,by rw[<-HFA.out];exact ak.new w2 _ tH,(JQ.belowS hb2).alloc _,(hH1.belowS hb2).alloc _,aC (ag hb1 hb2) _,by simp⟩
 have xW:w.heap.size+2<=w2.heap.size:=Nat.le_trans hs1 hb2.size;have c43:w3.cell? (tZ g 4)=some (iV (fu:Int)):=by rw[<-hw3];exact e4 _
 have HT3:=hid DJ;have BH:=hid LY;have HH3:=hid hH3;have vk:=hid hb3;have HSZ3:=hid yg;have HLT2:=hid xW;clear JQ hH1 hb1 hs1 hb2 DJ LY hH3 hb3 yg xW;go_wp2_with (refine wpList_store_row rfl ru _ _ rfl w2.heap.size FA rfl (by rfl) ru aOX.toArray (heap_alloc_new w2 _) (aF2 _ FW) (by rw[FW];rfl) BG ?_;rw[World.setRow_alloc_new])
 clear hw3 e4 c43;have HG0:=hid (aHw HM.out HS.out Hdis.out vk.out HH3.out (by omega));rw[HF.out]at HG0;have aSu:Hid (qQ i (jQ s ss)):=hid ⟨HHS.out.len,HHS.out.st,HHS.out.xG,HHS.out.me⟩;have IJ:Hid (∀r,lH i cs s.ticks fu s.pc (jQ s ss)=r->gp i cs s ss=(⟨r.1,r.2.2.stack,r.2.2.mem,s.ticks+1,r.2.1⟩,r.2.2.ss,r.2.2.sent,r.2.2.uD)):=hid (fun r hr=>by
  unfold gp;rw[if_neg (by rw[HF.out];simp),HFU.out,Int.toNat_natCast,hr])
 have HKS:Hid (jA cs (jQ s ss).ss):=hid HHK.out;have HSS:Hid ((jQ s ss).sent.length=0):=hid rfl;have zq:Hid (∀q∈(jQ s ss).sent,mF i q):=hid (by simp[jQ]);have zq:Hid (∀q∈(jQ s ss).sent,mF i q):=hid (by simp[jQ]);have GG:Hid (∀b,(F1 b\/F2 b\/b=w.heap.size+1)->b≠w.heap.size/\b≠w2.heap.size):=hid (fun b hb=>by
  have h2:=HLT2.out;rcases hb with h9|h9|h9
  ·have:=HM.out.lt h9;omega
  ·have:=HS.out.lt h9;omega
  ·omega)
 generalize JR:w.heap.size=R at*
 generalize hTB:w2.heap.size=TB at*
 generalize jQ s ss=d0 at*
 generalize aSv:s.pc=IK at*
 generalize htk:s.ticks=tk at*
 have Ak:=hid JR;have HTB:=hid hTB;have HPC:=hid aSv;have HTK:=hid htk;clear JR hTB aSv htk c0 c4 iD;go_loopg [7,8,9,31] fu (fun m v7 v8 v9 v31 wr=>∃(k:Nat) (pc arg:Int) (d:nJ) (F':Nat->Prop),k+m=fu/\v31=iV (k:Int)/\aF wr F' (R+1) g gs i cs pc tk 0 arg d/\bZ (fun b=>F1 b\/F2 b\/b=R+1) w3 F' wr/\qQ i d/\jA cs d.ss/\d.sent.length<=k/\(∀q∈d.sent,mF i q)/\lH i cs tk fu IK d0=lH i cs tk m pc d)
 case atStart=>exact⟨0,_,0,_,_,by omega,rfl,HG0.out,bZ.refl _ _,aSu.out,HKS.out,by rw[HSS.out];exact Nat.le_refl _,zq.out,rfl⟩
 case round=>
  obtain⟨k,pc,arg,d,F',IG,rfl,hT,hG,IL,hKd,JL,hok,hrun⟩:=hrel;have T:=hid hT;have G:=hid hG;have FI:=hid IL;have KD:=hid hKd;have RN:=hid hrun;have OK:=hid hok;clear hT hG IL hKd hrun hok;by_cases LZ:k<fu;case neg=>
   have Dt:gk=0:=by omega
   have GH:Hid (lH i cs tk fu IK d0=(pc,0,d)):=hid (by rw[RN.out,Dt];rfl);obtain rfl:k=fu:=by omega
   have y0:decide ((k:Int)<(k:Int))=false:=decide_eq_false (by omega);clear IG Dt LZ RN;obtain⟨az,zH,zI,Hv,mz,rz,hsz,Cm,Bd⟩:=T.out;have yO:=BH.out.apart G.out.apart (fun h9=>(GG.out R h9).1 rfl);have CC:¬_:=fun h9=>(G.out.foot R h9).elim (fun h8=>(GG.out R h8).1 rfl) (fun h8=>by have:=BH.out.lt;omega)
   have CE:g≠R:=fun e=>mz.blk.ty.yA yO.ty (by decide) e
   have zJ:R≠g:=fun e=>CE e.symm
   have IP:g≠R+1:=fun e=>mz.blk.ty.yA rz.blk.ty (by decide) e
   have aRF:R+1≠g:=fun e=>IP e.symm
   have t11:wr.cell? (tZ g 11)=some (iV tk):=mz.blk.cellAt rfl;have tf:=mz.blk.frozen 11;have t4:wr.cell? (tZ (R+1) 4)=some (.slice zH (d).sent.length zI):=rz.blk.cellAt rfl;have t5:wr.cell? (tZ (R+1) 5)=some (.bool (d).uD):=rz.blk.cellAt rfl;have r0:wr.cell? (tZ R 0)=some (.slice none 0 0):=yO.cellAt rfl;have r1:wr.cell? (tZ R 1)=some (.bool false):=yO.cellAt rfl;have rf:∀k,wr.frozen? (tZ R k)=false:=fun k=>yO.frozen k
   have MZ:=hid mz;have RZ:=hid rz;have SZ:=hid hsz;have AZ:=hid Cm;have FZ:=hid Bd;have EG:=hid yO;have NR:=hid CC;clear mz rz hsz Cm Bd yO CC;go_wp2_with fail;have q0:(((wr.setCell (tZ g 11) (iV (tk+1))).setCell (tZ R 0) (.slice zH (d).sent.length zI)).setCell (tZ R 1) (.bool (d).uD)).cell? (tZ R 0)=some (.slice zH (d).sent.length zI):=(((EG.out.far (p:=⟨g,11,none⟩) zJ _).uh 0 _).uh 1 _).cellAt (i:=0) rfl;have q1:(((wr.setCell (tZ g 11) (iV (tk+1))).setCell (tZ R 0) (.slice zH (d).sent.length zI)).setCell (tZ R 1) (.bool (d).uD)).cell? (tZ R 1)=some (.bool (d).uD):=(((EG.out.far (p:=⟨g,11,none⟩) zJ _).uh 0 _).uh 1 _).cellAt (i:=1) rfl;refine bodyPost_ret (v:=qg zH (d).sent.length zI (d).uD) (by simp[results,qg,results217,go_sem,q0,q1]) rfl ?_;have IQ:=IJ.out _ GH.out;exact aBF (s':=⟨pc,(d).stack,(d).mem,tk+1,0⟩) MZ.out RZ.out SZ.out AZ.out FZ.out G.out (by rw[Ak.out];exact vk.out) (by have:=Ak.out;omega) (Nat.le_of_eq Ak.out) NR.out
    (((MZ.out.blk.uh 11 (iV (tk+1))).far (p:=⟨R,0,none⟩) CE _).far (p:=⟨R,1,none⟩) CE _) rfl rfl
    (fun b h8 h9=>(Below.heap_setCell _ _ _ _ h9).trans ((Below.heap_setCell _ _ _ _ h9).trans (Below.heap_setCell _ _ _ _ h8))) (by simp[World.setCell]) rfl rfl rfl _ IQ
  have y0:decide ((k:Int)<(fu:Int))=true:=decide_eq_true (by omega);have BZ:decide (k<fu)=true:=decide_eq_true LZ;obtain⟨m,hm⟩:∃m,gk=m+1:=⟨gk-1,by omega⟩;obtain⟨a7,Ao7,cO7,F27,m7,r7,_⟩:=T.out;have c7:wr.cell? (tZ g 7)=some (.slice a7.Ac i.code.length a7.cc):=m7.blk.cellAt rfl;have c8:wr.cell? (tZ g 8)=some (iV pc):=m7.blk.cellAt rfl;have hcl:i.code.length<=1000000:=by have:=LW.out.2.2.2.2.2.2.2;omega
  have iAt:=hid (fun W (hb:Below wr.heap.size wr W)=>aLL a7.Ac i.code.length a7.cc i.code pc W (m7.cd.reads.belowS hb) hcl);have Eb:=m7.blk.lt;clear m7 r7;obtain⟨OP,AR,NX,E,hatV,aRs⟩:∃OP AR NX E:Int,tP (rI i.code pc)=.tuple #[.agg #[iV OP,iV AR],iV NX,iV E]/\((rI i.code pc=none/\E=19)\/∃o:Nat,rI i.code pc=some (o,AR,NX)/\OP=(o:Int)/\E=0):=by
   cases hat:rI i.code pc with
   |none=>exact⟨0,0,0,19,rfl,.inl ⟨rfl,rfl⟩⟩
   |some x=>exact⟨_,_,_,0,rfl,.inr ⟨_,rfl,rfl,rfl⟩⟩
  rw[hatV]at iAt;have aQE:=hid aRs;clear aRs hatV;have n1:g≠wr.heap.size:=by omega
  have n2:wr.heap.size≠g:=by omega
  go_upto_region 6 with fail
  go_cut [7,8,9] (fun s7 s8 s9 wc=>∃yb:Nat,s7=.pointer (some (tZ yb 0))/\s8=iV NX/\s9=iV E/\ak wc yb 247 [iV OP,iV AR]/\Below wr.heap.size wr wc/\wr.heap.size<=yb)
  case first=>
   go_region_held3 (fun w'=>w'.cell? (tZ g 7)=some (.slice a7.Ac i.code.length a7.cc)/\w'.cell? (tZ g 8)=some (iV pc)) (go_keep)
    (first
     |(go_at_call 283;refine(iAt.out _ ?_).mono ?_;(first|exact Below.refl _ _|exact dD (Below.refl _ _)|exact aC (Below.refl _ _) _|exact dD (aC (Below.refl _ _) _));rintro e wA ⟨rfl,CG⟩;have hbA:Below wr.heap.size wr wA:=(by first|exact CG|exact ag (aC (Below.refl wr.heap.size wr) _) CG|exact ag (dD (aC (Below.refl wr.heap.size wr) _)) CG|exact ag (dD (Below.refl wr.heap.size wr)) CG);have HBA:=hid hbA;(try(have yz:ak wA wr.heap.size 247 [.int .i64 0,.int .i64 0]:=(by first|exact(ak.new wr _ [.int .i64 0,.int .i64 0]).belowS CG|exact((ak.new wr _ [.int .i64 0,.int .i64 0]).drew).belowS CG)));(try(have s0:wA.cell? (tZ wr.heap.size 0)=some (.int .i64 0):=yz.cellAt rfl));(try(have s1:wA.cell? (tZ wr.heap.size 1)=some (.int .i64 0):=yz.cellAt rfl));(try(have sf:∀k,wA.frozen? (tZ wr.heap.size k)=false:=fun k=>yz.frozen k));(try have IU:=hid yz);(try clear yz);have z7:wA.cell? (tZ g 7)=some (.slice a7.Ac i.code.length a7.cc):=(hbA.cell (p:=⟨g,7,none⟩) Eb).trans c7;have z8:wA.cell? (tZ g 8)=some (.int .i64 pc):=(hbA.cell (p:=⟨g,8,none⟩) Eb).trans c8;have z7a:=(fun o=>jm z7 o);have z8a:=(fun o=>jm z8 o);clear hbA CG))
   all_goals
    clear z7 z8 z7a z8a c7 c8 n1 n2;first
     |(go_wp2_with fail;go_meet;exact⟨_,rfl,rfl,rfl,ak.new _ _ [iV OP,iV AR],aC HBA.out _,HBA.out.size⟩)
     |(go_wp2_with fail;go_meet;exact⟨_,rfl,rfl,rfl,(IU.out.uh 0 _).uh 1 _,(HBA.out.setCell (p:=⟨wr.heap.size,0,none⟩) (Nat.le_refl _) _).setCell (p:=⟨wr.heap.size,1,none⟩) (Nat.le_refl _) _,Nat.le_refl _⟩)
  case rest=>
   obtain⟨yb,rfl,rfl,rfl,hbI,hbc,hge⟩:=hcut;have hTc:=T.out.belowS hbc;have hGc:=G.out.trans (bZ.of_below (F:=F') hbc);have hyF:¬F' yb:=fun h9=>by have:=T.out.lt h9;omega
   obtain⟨ac,Aoc,cOc,t0,t1,t2,t3,t4,t5,_,_,_,_,_,_,tf⟩:=hTc.cells;have tf2:=tf 2;have tf3:=tf 3;have b1:wc.cell? (tZ yb 1)=some (iV AR):=hbI.cellAt rfl;have b0:wc.cell? (tZ yb 0)=some (iV OP):=hbI.cellAt rfl;have hs2:=hTc.zD (k:=2) (v:=iV AR) (d':=d) (arg':=AR) rfl rfl rfl rfl (fun _ _=>rfl);have hs3:=hs2.1.zD (k:=3) (v:=iV NX) (d':={d with next:=NX}) (arg':=AR) rfl rfl rfl rfl (fun _ _=>rfl);have hFh:F' (R+1):=by
    obtain⟨_,_,_,_,_,_,_,_,h5⟩:=hTc;exact(h5 _).2 (.inr (.inl (.inl rfl)))
   have Mc:yb≠R+1:=fun e=>hyF (e▸hFh)
   have aSw:R+1≠yb:=fun e=>Mc e.symm
   have aSx:=(hbI.far (p:=⟨R+1,2,none⟩) Mc (iV AR)).far (p:=⟨R+1,3,none⟩) Mc (iV NX);have hG3:=(hGc.trans hs2.2).trans hs3.2;have T3:=hid hs3.1;have G3:=hid hG3;have I3:=hid aSx;have HYF:=hid hyF;clear hTc hGc hyF tf hs2 hs3 hG3 aSx hbI hbc hge T G t0 t1 t4 t5 hFh iAt c7 c8 n1 n2 Eb;rcases aQE.out with⟨hat,hE⟩|⟨o,hat,hOP,hE⟩
   ·subst hE;have GH:Hid (lH i cs tk fu IK d0=(pc,19,d)):=hid (by rw[RN.out,hm];unfold lH;rw[hat]);have CH:wc.frozen? (tZ g 12)=false/\wc.cell? (tZ g 12)=some (iV 0)/\g≠R+1:=by
     obtain⟨a9,A9,c9,F9,m9,r9,_⟩:=T3.out;have hgh:g≠R+1:=fun e=>m9.blk.ty.yA r9.blk.ty (by decide) e
     have e1:((wc.setCell (tZ (R+1) 2) (iV AR)).setCell (tZ (R+1) 3) (iV NX)).heap[g]? =wc.heap[g]? :=(Below.heap_setCell _ _ _ _ hgh).trans (Below.heap_setCell _ _ _ _ hgh);have yB:ak wc g 336 (nC i a9 (mP pc tk 0 {d with next:=NX})):=e1.symm.trans m9.blk;exact⟨yB.frozen 12,yB.cellAt rfl,hgh⟩
    obtain⟨gf12,g12,aSy⟩:=CH;have ngh1:R+1≠g:=fun e=>aSy e.symm
    clear hat aQE RN;go_upto_region 15 with fail
    have hs4:=T3.out.aQ9 (k:=12) (v:=iV 19) (pc':=pc) (ticks':=tk) (fault':=19) (fun _=>rfl);obtain⟨wz,hwz,Tz,Gz⟩:∃W,((wc.setCell (tZ (R+1) 2) (iV AR)).setCell (tZ (R+1) 3) (iV NX)).setCell (tZ g 12) (iV 19)=W/\aF W F' (R+1) g gs i cs pc tk 19 AR {d with next:=NX}/\bZ (fun b=>F1 b\/F2 b\/b=R+1) w3 F' W:=⟨_,rfl,hs4.1,G3.out.trans hs4.2⟩;rw[hwz];clear hwz hs4 t2 t3 tf2 tf3 b0 b1 gf12 g12 aSy ngh1 Mc aSw;obtain⟨az,zH,zI,Hv,mz,rz,hsz,Cm,Bd⟩:=Tz;have yO:=BH.out.apart Gz.apart (fun h9=>(GG.out R h9).1 rfl);have CC:¬_:=fun h9=>(Gz.foot R h9).elim (fun h8=>(GG.out R h8).1 rfl) (fun h8=>by have:=BH.out.lt;omega)
    have CE:g≠R:=fun e=>mz.blk.ty.yA yO.ty (by decide) e
    have zJ:R≠g:=fun e=>CE e.symm
    have IP:g≠R+1:=fun e=>mz.blk.ty.yA rz.blk.ty (by decide) e
    have aRF:R+1≠g:=fun e=>IP e.symm
    have t11:wz.cell? (tZ g 11)=some (iV tk):=mz.blk.cellAt rfl;have tf:=mz.blk.frozen 11;have t4:wz.cell? (tZ (R+1) 4)=some (.slice zH ({d with next:=NX}).sent.length zI):=rz.blk.cellAt rfl;have t5:wz.cell? (tZ (R+1) 5)=some (.bool ({d with next:=NX}).uD):=rz.blk.cellAt rfl;have r0:wz.cell? (tZ R 0)=some (.slice none 0 0):=yO.cellAt rfl;have r1:wz.cell? (tZ R 1)=some (.bool false):=yO.cellAt rfl;have rf:∀k,wz.frozen? (tZ R k)=false:=fun k=>yO.frozen k
    have MZ:=hid mz;have RZ:=hid rz;have SZ:=hid hsz;have AZ:=hid Cm;have FZ:=hid Bd;have EG:=hid yO;have NR:=hid CC;clear mz rz hsz Cm Bd yO CC;go_wp2_with fail;have q0:(((wz.setCell (tZ g 11) (iV (tk+1))).setCell (tZ R 0) (.slice zH ({d with next:=NX}).sent.length zI)).setCell (tZ R 1) (.bool ({d with next:=NX}).uD)).cell? (tZ R 0)=some (.slice zH ({d with next:=NX}).sent.length zI):=(((EG.out.far (p:=⟨g,11,none⟩) zJ _).uh 0 _).uh 1 _).cellAt (i:=0) rfl;have q1:(((wz.setCell (tZ g 11) (iV (tk+1))).setCell (tZ R 0) (.slice zH ({d with next:=NX}).sent.length zI)).setCell (tZ R 1) (.bool ({d with next:=NX}).uD)).cell? (tZ R 1)=some (.bool ({d with next:=NX}).uD):=(((EG.out.far (p:=⟨g,11,none⟩) zJ _).uh 0 _).uh 1 _).cellAt (i:=1) rfl;refine bodyPost_ret (v:=qg zH ({d with next:=NX}).sent.length zI ({d with next:=NX}).uD) (by simp[results,qg,results217,go_sem,q0,q1]) rfl ?_;have IQ:=IJ.out _ GH.out;exact aBF (s':=⟨pc,({d with next:=NX}).stack,({d with next:=NX}).mem,tk+1,19⟩) MZ.out RZ.out SZ.out AZ.out FZ.out Gz (by rw[Ak.out];exact vk.out) (by have:=Ak.out;omega) (Nat.le_of_eq Ak.out) NR.out
     (((MZ.out.blk.uh 11 (iV (tk+1))).far (p:=⟨R,0,none⟩) CE _).far (p:=⟨R,1,none⟩) CE _) rfl rfl
     (fun b h8 h9=>(Below.heap_setCell _ _ _ _ h9).trans ((Below.heap_setCell _ _ _ _ h9).trans (Below.heap_setCell _ _ _ _ h8))) (by simp[World.setCell]) rfl rfl rfl _ IQ
   ·subst hE;subst hOP;have FX:0<=AR/\o<=18:=⟨(aCI hat).1,(aCI hat).2.2.1⟩;have IL:qQ i {d with next:=NX}:=⟨FI.out.len,FI.out.st,FI.out.xG,FI.out.me⟩;obtain⟨r,hr⟩:∃r,bG i cs tk o AR {d with next:=NX}=r:=⟨_,rfl⟩;have hFr:=aDx IL cs tk o AR;have hKr:jA cs (bG i cs tk o AR {d with next:=NX}).2.ss:=aDb (d:={d with next:=NX}) KD.out tk o AR;have Md:=aCU IL cs tk o FX.1 OK.out;rw[hr]at hFr hKr Md;have yU:Hid (lH i cs tk fu IK d0=if r.1=0 then(if o=0 then(r.2.next,0,r.2)else lH i cs tk m r.2.next r.2)else(pc,r.1,r.2)):=hid (by rw[RN.out,hm,aIK hat,hr]);have BI:=hid (fun W (tW:aF W F' (R+1) g gs i cs pc tk 0 AR {d with next:=NX})=>aMh tW LW.out IL KD.out HHd.out (show d.sent.length<=1000 by omega) FX.1 o FX.2);simp only[hr]at BI;obtain⟨E1,d1⟩:=r;simp only at hFr hKr Md yU BI;have hS1:d1.sent.length<=k+1:=by
     have h9:d1.sent.length<=d.sent.length+1:=Md.2;omega
    have FR:=hid hFr;have KR:=hid hKr;have OR:=hid Md.1;have HO18:=hid FX.2;have HKM:Hid (k+1+m=fu/\m<gk):=hid (by omega);clear hFr hKr Md IL hr hat aQE RN FI KD OK hm;go_upto_region 9 with fail
    obtain⟨w9,Ec,T9,G9,I9⟩:∃W,(wc.setCell (tZ (R+1) 2) (iV AR)).setCell (tZ (R+1) 3) (iV NX)=W/\Hid (aF W F' (R+1) g gs i cs pc tk 0 AR {d with next:=NX})/\Hid (bZ (fun b=>F1 b\/F2 b\/b=R+1) w3 F' W)/\Hid (ak W yb 247 [iV (o:Int),iV AR]):=⟨_,rfl,T3,G3,I3⟩;rw[Ec];clear Ec T3 G3 I3 t2 t3 tf2 tf3 b0 b1 Mc aSw;have b0:w9.cell? (tZ yb 0)=some (iV (o:Int)):=I9.out.cellAt rfl;have fO:w9.cell? (tZ TB o)=some (.func (.func (aI8 o)) #[] #[]):=(HT3.out.apart G9.out.apart (fun h9=>(GG.out TB h9).2 rfl)).cellAt (aMR o FX.2);go_cut [9] (fun s9 wx=>∃F9,s9=iV E1/\aF wx F9 (R+1) g gs i cs pc tk 0 AR d1/\bZ F' w9 F9 wx)
    case first=>
     have h19:o=0\/o=1\/o=2\/o=3\/o=4\/o=5\/o=6\/o=7\/o=8\/o=9\/o=10\/o=11\/o=12\/o=13\/o=14\/o=15\/o=16\/o=17\/o=18:=by omega
     clear yU FX HO18;rcases h19 with rfl|rfl|rfl|rfl|rfl|rfl|rfl|rfl|rfl|rfl|rfl|rfl|rfl|rfl|rfl|rfl|rfl|rfl|rfl
     all_goals
      simp only[aI8]at fO BI;go_wp2_with fail;refine(BI.out _ T9.out).mono ?_;rintro e wx⟨F9,rfl,ht,hg⟩;have K:=hid (And.intro ht hg);clear ht hg b0 fO;go_wp2_with fail;go_meet
      exact⟨F9,rfl,K.out.1,K.out.2⟩
    case rest=>
     obtain⟨F9,rfl,aRG,aRH⟩:=hcut;have EH:ak wc yb 247 [iV (o:Int),iV AR]:=I9.out.apart aRH.apart HYF.out;have ybo:wc.cell? (tZ yb 0)=some (iV (o:Int)):=EH.cellAt rfl;have aSz:=G9.out.trans aRH;have aSA:wc.cell? (tZ (R+1) 3)=some (iV d1.next)/\wc.cell? (tZ g 8)=some (iV pc)/\wc.cell? (tZ g 12)=some (iV 0)/\(∀k,wc.frozen? (tZ g k)=false)/\g≠yb:=by
      obtain⟨a9,A9,c9,F99,m9,r9,_⟩:=aRG;exact⟨r9.blk.cellAt rfl,m9.blk.cellAt rfl,m9.blk.cellAt rfl,fun k=>m9.blk.frozen k,fun e=>m9.blk.ty.yA EH.ty (by decide) e⟩
     obtain⟨h3c,g8c,aSB,gfz,hgy⟩:=aSA;have aSC:yb≠g:=fun e=>hgy e.symm
     have T10:=hid aRG;have G11:=hid aSz;clear aRG aRH aSz EH T9 G9 I9 BI b0 fO;by_cases Lu:E1=0;case neg=>
      have GH:Hid (lH i cs tk fu IK d0=(pc,E1,d1)):=hid (by rw[yU.out,if_neg Lu]);have y1:(E1 !=0)=true:=by simpa using Lu
      clear yU Lu;go_upto_region 15 with fail
      have hs4:=T10.out.aQ9 (k:=12) (v:=iV E1) (pc':=pc) (ticks':=tk) (fault':=E1) (fun _=>rfl);obtain⟨wz,hwz,Tz,Gz⟩:∃W,wc.setCell (tZ g 12) (iV E1)=W/\aF W F9 (R+1) g gs i cs pc tk E1 AR d1/\bZ (fun b=>F1 b\/F2 b\/b=R+1) w3 F9 W:=⟨_,rfl,hs4.1,G11.out.trans hs4.2⟩;rw[hwz];clear hwz hs4 h3c g8c aSB gfz hgy aSC ybo;obtain⟨az,zH,zI,Hv,mz,rz,hsz,Cm,Bd⟩:=Tz;have yO:=BH.out.apart Gz.apart (fun h9=>(GG.out R h9).1 rfl);have CC:¬_:=fun h9=>(Gz.foot R h9).elim (fun h8=>(GG.out R h8).1 rfl) (fun h8=>by have:=BH.out.lt;omega)
      have CE:g≠R:=fun e=>mz.blk.ty.yA yO.ty (by decide) e
      have zJ:R≠g:=fun e=>CE e.symm
      have IP:g≠R+1:=fun e=>mz.blk.ty.yA rz.blk.ty (by decide) e
      have aRF:R+1≠g:=fun e=>IP e.symm
      have t11:wz.cell? (tZ g 11)=some (iV tk):=mz.blk.cellAt rfl;have tf:=mz.blk.frozen 11;have t4:wz.cell? (tZ (R+1) 4)=some (.slice zH (d1).sent.length zI):=rz.blk.cellAt rfl;have t5:wz.cell? (tZ (R+1) 5)=some (.bool (d1).uD):=rz.blk.cellAt rfl;have r0:wz.cell? (tZ R 0)=some (.slice none 0 0):=yO.cellAt rfl;have r1:wz.cell? (tZ R 1)=some (.bool false):=yO.cellAt rfl;have rf:∀k,wz.frozen? (tZ R k)=false:=fun k=>yO.frozen k
      have MZ:=hid mz;have RZ:=hid rz;have SZ:=hid hsz;have AZ:=hid Cm;have FZ:=hid Bd;have EG:=hid yO;have NR:=hid CC;clear mz rz hsz Cm Bd yO CC;go_wp2_with fail;have q0:(((wz.setCell (tZ g 11) (iV (tk+1))).setCell (tZ R 0) (.slice zH (d1).sent.length zI)).setCell (tZ R 1) (.bool (d1).uD)).cell? (tZ R 0)=some (.slice zH (d1).sent.length zI):=(((EG.out.far (p:=⟨g,11,none⟩) zJ _).uh 0 _).uh 1 _).cellAt (i:=0) rfl;have q1:(((wz.setCell (tZ g 11) (iV (tk+1))).setCell (tZ R 0) (.slice zH (d1).sent.length zI)).setCell (tZ R 1) (.bool (d1).uD)).cell? (tZ R 1)=some (.bool (d1).uD):=(((EG.out.far (p:=⟨g,11,none⟩) zJ _).uh 0 _).uh 1 _).cellAt (i:=1) rfl;refine bodyPost_ret (v:=qg zH (d1).sent.length zI (d1).uD) (by simp[results,qg,results217,go_sem,q0,q1]) rfl ?_;have IQ:=IJ.out _ GH.out;exact aBF (s':=⟨pc,(d1).stack,(d1).mem,tk+1,E1⟩) MZ.out RZ.out SZ.out AZ.out FZ.out Gz (by rw[Ak.out];exact vk.out) (by have:=Ak.out;omega) (Nat.le_of_eq Ak.out) NR.out
       (((MZ.out.blk.uh 11 (iV (tk+1))).far (p:=⟨R,0,none⟩) CE _).far (p:=⟨R,1,none⟩) CE _) rfl rfl
       (fun b h8 h9=>(Below.heap_setCell _ _ _ _ h9).trans ((Below.heap_setCell _ _ _ _ h9).trans (Below.heap_setCell _ _ _ _ h8))) (by simp[World.setCell]) rfl rfl rfl _ IQ
     subst Lu;by_cases ho:o=0;case pos=>
      have GH:Hid (lH i cs tk fu IK d0=(d1.next,0,d1)):=hid (by rw[yU.out,if_pos rfl,if_pos ho]);have y1:(((o:Nat):Int)==0)=true:=by simp[ho]
      clear yU ho;go_upto_region 15 with fail
      have hs4:=T10.out.aQ9 (k:=8) (v:=iV d1.next) (pc':=d1.next) (ticks':=tk) (fault':=0) (fun _=>rfl);obtain⟨wz,hwz,Tz,Gz⟩:∃W,wc.setCell (tZ g 8) (iV d1.next)=W/\aF W F9 (R+1) g gs i cs d1.next tk 0 AR d1/\bZ (fun b=>F1 b\/F2 b\/b=R+1) w3 F9 W:=⟨_,rfl,hs4.1,G11.out.trans hs4.2⟩;rw[hwz];clear hwz hs4 h3c g8c aSB gfz hgy aSC ybo;obtain⟨az,zH,zI,Hv,mz,rz,hsz,Cm,Bd⟩:=Tz;have yO:=BH.out.apart Gz.apart (fun h9=>(GG.out R h9).1 rfl);have CC:¬_:=fun h9=>(Gz.foot R h9).elim (fun h8=>(GG.out R h8).1 rfl) (fun h8=>by have:=BH.out.lt;omega)
      have CE:g≠R:=fun e=>mz.blk.ty.yA yO.ty (by decide) e
      have zJ:R≠g:=fun e=>CE e.symm
      have IP:g≠R+1:=fun e=>mz.blk.ty.yA rz.blk.ty (by decide) e
      have aRF:R+1≠g:=fun e=>IP e.symm
      have t11:wz.cell? (tZ g 11)=some (iV tk):=mz.blk.cellAt rfl;have tf:=mz.blk.frozen 11;have t4:wz.cell? (tZ (R+1) 4)=some (.slice zH (d1).sent.length zI):=rz.blk.cellAt rfl;have t5:wz.cell? (tZ (R+1) 5)=some (.bool (d1).uD):=rz.blk.cellAt rfl;have r0:wz.cell? (tZ R 0)=some (.slice none 0 0):=yO.cellAt rfl;have r1:wz.cell? (tZ R 1)=some (.bool false):=yO.cellAt rfl;have rf:∀k,wz.frozen? (tZ R k)=false:=fun k=>yO.frozen k
      have MZ:=hid mz;have RZ:=hid rz;have SZ:=hid hsz;have AZ:=hid Cm;have FZ:=hid Bd;have EG:=hid yO;have NR:=hid CC;clear mz rz hsz Cm Bd yO CC;go_wp2_with fail;have q0:(((wz.setCell (tZ g 11) (iV (tk+1))).setCell (tZ R 0) (.slice zH (d1).sent.length zI)).setCell (tZ R 1) (.bool (d1).uD)).cell? (tZ R 0)=some (.slice zH (d1).sent.length zI):=(((EG.out.far (p:=⟨g,11,none⟩) zJ _).uh 0 _).uh 1 _).cellAt (i:=0) rfl;have q1:(((wz.setCell (tZ g 11) (iV (tk+1))).setCell (tZ R 0) (.slice zH (d1).sent.length zI)).setCell (tZ R 1) (.bool (d1).uD)).cell? (tZ R 1)=some (.bool (d1).uD):=(((EG.out.far (p:=⟨g,11,none⟩) zJ _).uh 0 _).uh 1 _).cellAt (i:=1) rfl;refine bodyPost_ret (v:=qg zH (d1).sent.length zI (d1).uD) (by simp[results,qg,results217,go_sem,q0,q1]) rfl ?_;have IQ:=IJ.out _ GH.out;exact aBF (s':=⟨d1.next,(d1).stack,(d1).mem,tk+1,0⟩) MZ.out RZ.out SZ.out AZ.out FZ.out Gz (by rw[Ak.out];exact vk.out) (by have:=Ak.out;omega) (Nat.le_of_eq Ak.out) NR.out
       (((MZ.out.blk.uh 11 (iV (tk+1))).far (p:=⟨R,0,none⟩) CE _).far (p:=⟨R,1,none⟩) CE _) rfl rfl
       (fun b h8 h9=>(Below.heap_setCell _ _ _ _ h9).trans ((Below.heap_setCell _ _ _ _ h9).trans (Below.heap_setCell _ _ _ _ h8))) (by simp[World.setCell]) rfl rfl rfl _ IQ
     have GH:Hid (lH i cs tk fu IK d0=lH i cs tk m d1.next d1):=hid (by rw[yU.out,if_pos rfl,if_neg ho]);have y1:(((o:Nat):Int)==0)=false:=by simp[ho]
     have y1':(o==0)=false:=by simp[ho]
     have hs4:=T10.out.aQ9 (k:=8) (v:=iV d1.next) (pc':=d1.next) (ticks':=tk) (fault':=0) (fun _=>rfl);have FY:=hid (And.intro hs4.1 (G11.out.trans hs4.2));clear yU ho hs4;go_wp2_with fail;go_roundg m
     case rel=>exact⟨k+1,d1.next,AR,d1,F9,HKM.out.1,by go_num,FY.out.1,FY.out.2,FR.out,KR.out,hS1,OR.out,GH.out⟩
     case measure=>exact HKM.out.2
end
end Go.Proofs.YtfjkpigldogkeaaGreatDoor
