/- Contracts of functions that TopQuiet reaches, under the conditions that each states. -/
import Derived.Test.YtfjkpigldogkeaaGreatDoorQbo
set_option linter.all false
set_option maxRecDepth 100000
set_option maxHeartbeats 8000000
namespace Go.Proofs.YtfjkpigldogkeaaGreatDoor
open Go.RowKit Go.ChangeShapes Go.WideShapes Go.ChangeAt Go.Proofs.Tryz
section
variable{w w' w0:World}{d cI:Nat}{AI:Option Addr}{L:List (List UInt8)}{t:aG}{ta:bM}{li:List fD}{l:List ay}
theorem dE.made{a:KA}{ps:List Nat}(hr:aS t=true)(hN:sU t)(zk:1<=t.parts.length/\t.parts.length<=4)(hn:li.length=t.parts.length)(hps:ps.length=t.parts.length)(hx:a.xs.map Prod.snd=li.map fun x=>49+x.p.code.length)(hd:eX (dH L (-1)))
(hL:10*t.parts.length<=L.length)(hH:∀(p:Nat)(x:fD),li[p]? =some x->oO L p x.p)(hE:∀(p:Nat)(x:fD),li[p]? =some x->fG t (p:Int) x.p 0=0)(hlen:(mM t).length<=1000000)(nb:Int)(hnb:0<=nb)(fu:Int)(II:eX (dH L fu)):
  dE t (li.map fD.p) a (ps.map PM.new) (gJ t.chans) L fu nb nb:=by
 have back:∀(p:Nat)(i:aO),(li.map fD.p)[p]? =some i->∃x,li[p]? =some x/\x.p=i:=fun p i h=>by
  rw[List.getElem?_map]at h;cases hx:li[p]? with
  |none=>rw[hx]at h;cases h
  |some x=>rw[hx]at h;exact⟨x,rfl,by simpa using h⟩
 refine⟨hr,hN,zk.1,zk.2,by rw[List.length_map,hn],by rw[List.length_map,hps],by rw[hx,List.map_map];rfl,II,hL,fun p i h=>?_,fun p i h=>?_,fun p i x y _ h h2=>?_,fun x h=>?_,?_,hlen⟩
 ·obtain⟨x,h1,rfl⟩:=back p i h;exact hH p x h1
 ·obtain⟨x,h1,rfl⟩:=back p i h;exact hE p x h1
 ·rw[List.getElem?_map]at h;cases h3:ps[p]? with
  |none=>rw[h3]at h;cases h
  |some z=>rw[h3]at h;simp only[Option.map_some,Option.some.injEq]at h;rw[<-h]at h2;cases h2
 ·obtain⟨z,_,rfl⟩:=List.mem_map.1 h;exact⟨Int.le_refl _,hnb⟩
 ·exact aO6 _ fun x hx=>(((bK t).1 hr).cs x hx).2.2.2.2.2.1
theorem aIk(h:ae w0 (dU d (dH L (-1))::l) w)(hs:eX (dH L (-1)))(hT:∀W,ae w0 l W->dM W t ta)(hI:∀W,ae w0 l W->pz W AI li)(hr:aS t=true)(zk:1<=t.parts.length/\t.parts.length<=4)(hn:li.length=t.parts.length)
(hL:10*t.parts.length<=L.length)(hz:∀k,k<L.length->L[k]? =some (List.replicate 64 (0:UInt8)))(hE:∀(p:Nat)(x:fD),li[p]? =some x->fG t (p:Int) x.p 0=0)(hlen:(mM t).length<=1000000):
  Calls prog 34 #[.pointer (some (tZ d 0)),gU t ta,.slice AI li.length cI] w fun e w'=>∃kb lk,e=.returned (.tuple #[.pointer (some (tZ kb 0)),iV 0])/\lm w0 kb lk t (li.map fD.p) l false 0 w':=by
 have hA:=h.made (T:=26) (xs:=bI t ta);obtain⟨W,hW⟩:∃W,w.alloc (.cells (bI t ta).toArray 26)=W:=⟨_,rfl⟩;rw[hW]at hA;obtain⟨tb,NY⟩:∃tb,w.heap.size=tb:=⟨_,rfl⟩;rw[NY]at hA;have hN:=(hT w h.drop).nums;have i1:=hid (aOW (AI:=AI) (cI:=cI) (hA.pn 2 [1,0]) hs (fun W h=>hT W h.drop) (fun W h=>hI W h.drop) hr zk hn hL hz hE hlen);have HC:Hid (∀(W':World)(l':List ay)(_:ae w0 (aj tb 26 (bI t ta)::l') W'),W'.cell? (tZ tb 0)=some (iV t.frame)/\W'.cell? (tZ tb 1)=some (.slice ta.A1 t.parts.length ta.c1)/\W'.cell? (tZ tb 2)=some (.slice ta.A2 t.wins.length ta.c2)/\W'.cell? (tZ tb 3)=some (.slice ta.A3 t.chans.length ta.c3)/\W'.cell? (tZ tb 4)=some (iV t.trial)):=hid fun W' l' hB=>⟨hB.blk.cellAt (i:=0) rfl,hB.blk.cellAt (i:=1) rfl,hB.blk.cellAt (i:=2) rfl,hB.blk.cellAt (i:=3) rfl,hB.blk.cellAt (i:=4) rfl⟩
 obtain⟨c0,c1,c2,c3,c4⟩:=HC.out _ _ hA;have HT:=hid hT;have HR:=hid hr;have HE:=hid hE;have KO:=hid hL;have C0:=hid zk;have HN:=hid hn;have HTN:=hid hN;have HTL:=hid hlen;simp only[bI]at hW;unfold gU at i1 ⊢;clear h hA hI hT hE hz hL zk hs hlen hr hN hn;go_enter func34,ntmps34;go_wp2_with fail;refine i1.out.mono ?_;rintro e w2⟨b,tb2,Al,cl,xs,L',rfl,vN,hns,hok,hlL,hH⟩;obtain⟨d0,d1,d2,d3,d4⟩:=HC.out _ _ (vN.at_ 2 rfl);have i2:=hid (aOG (HT.out w2 vN.drop.drop.drop));unfold gU at i2;have vY:=hid vN;have HX:=hid hns;have HD:=hid hok;have EF:=hid hlL;have HH:=hid hH;clear vN hns hok hlL hH hW c0 c1 c2 c3 c4 i1;go_wp2_with fail;refine i2.out.mono ?_;rintro e w3⟨Dh,rfl,hO,hb3⟩;have vS:=hid (vY.out.aQe hb3 hO);clear hO hb3 i2 d0 d1 d2 d3 d4 vY;go_wp2_with fail;refine(aPu w3).mono ?_;rintro e w4⟨rfl,hw4⟩;have wQ:=vS.out.made (T:=182) (xs:=[.slice none 0 0,.slice none 0 0]);rw[show(w3.alloc (.cells ([.slice none 0 0,.slice none 0 0]:List Value).toArray 182))=w4 from hw4]at wQ;obtain⟨lk,hlk⟩:∃lk,w3.heap.size=lk:=⟨_,rfl⟩;rw[hlk]at wQ ⊢;obtain⟨w5,zo⟩:∃w5,w4.alloc (.cells #[.pointer (some (tZ d 0)),iV t.frame,.slice Dh.A1 t.parts.length Dh.c1,.slice Dh.A2 t.wins.length Dh.c2,.slice Dh.A3 t.chans.length Dh.c3,iV t.trial,.pointer none,.pointer none,.pointer none,.slice none 0 0,.slice none 0 0,.pointer (some (tZ lk 0)),iV 0] 124)=w5:=⟨_,rfl⟩
 have wZ:=wQ.made (T:=124) (xs:=qL d t Dh (.pointer none) (.pointer none) (.pointer none) (.slice none 0 0) (.slice none 0 0) lk 0);rw[show(w4.alloc (.cells (qL d t Dh (.pointer none) (.pointer none) (.pointer none) (.slice none 0 0) (.slice none 0 0) lk 0).toArray 124))=w5 from zo]at wZ;obtain⟨kb,hkb⟩:∃kb,w4.heap.size=kb:=⟨_,rfl⟩;rw[hkb]at wZ;have Nj:ae w0 (aj kb 124 (qL d t Dh (.pointer none) (.pointer none) (.pointer none) (.slice none 0 0) (.slice none 0 0) lk 0)::aA 164 3 Dh.A1 t.parts.length Dh.c1 (t.parts.flatMap dK)::aA 89 3 Dh.A2 t.wins.length Dh.c2 (t.wins.flatMap iP)::aA 75 3 Dh.A3 t.chans.length Dh.c3 (t.chans.flatMap fQ)::rQ b d t tb2 Al cl xs::dU d (dH L' (-1))::aj lk 182 [.slice none 0 0,.slice none 0 0]::l) w5:=wZ.pn 8 [0,2,3,4,5,6,1];have i5:=hid (aIo (s:=b) Nj (fun W hW=>hW.BQ HTN.out) HR.out C0.out.2);clear wQ wZ Nj hw4 vS;go_wp2_with fail;refine i5.out.mono ?_;rintro e w6⟨rfl,lg,tm,mv,mt,gs,Ap,cp,As,cs,ps,hB⟩;have HB:=hid hB;clear hB i5 zo;go_wp2_with fail;go_ret2;refine⟨kb,lk,rfl,_,_,_,_,_,rfl,HB.out.ker (by rw[List.length_map,HN.out]),?_,fun h=>by cases h⟩;exact dE.made HR.out HTN.out C0.out HN.out HB.out.len HX.out HD.out (by rw[EF.out];exact KO.out) HH.out HE.out HTL.out 0 (Int.le_refl _) _ HD.out
end
section
variable{w w' w0:World}{kb lk T:Nat}{t:aG}{is:List aO}{l:List ay}{up:Bool}
theorem lm.fresh{a:KA}{ms:List PM}{ss:Nat->bP}{L:List (List UInt8)}{fu:Int}{nb nt:Int}(hk:dE t is a ms ss L fu nb nt)(hnb:0<=nb)(hnt:0<=nt){a':KA}{ps:List Nat}{fu':Int}(II:eX (dH L fu'))(hps:ps.length=t.parts.length)(hx:a'.xs.map Prod.snd=is.map fun i=>49+i.code.length):
  dE t is a' (ps.map PM.new) (gJ t.chans) L fu' nb nt:=by
 refine⟨hk.right,hk.tab,hk.n1,hk.n4,hk.yH,by rw[List.length_map,hps],hx,II,hk.zY,hk.has,hk.Df,fun p i x y _ h h2=>?_,fun x h=>?_,?_,hk.AB⟩
 ·rw[List.getElem?_map]at h;cases h3:ps[p]? with
  |none=>rw[h3]at h;cases h
  |some z=>rw[h3]at h;simp only[Option.map_some,Option.some.injEq]at h;rw[<-h]at h2;cases h2
 ·obtain⟨z,_,rfl⟩:=List.mem_map.1 h;exact⟨Int.le_refl _,hnb⟩
 ·exact aO6 _ fun x hx=>(((bK t).1 hk.right).cs x hx).2.2.2.2.2.1
theorem lm.aS9(h:lm w0 kb lk t is l up T w):tJ w lk/\w.cell? (tZ kb 11)=some (.pointer (some (tZ lk 0)))/\w.cell? (tZ kb 12)=some (iV (T:Int))/\∀k,w.frozen? (tZ kb k)=false:=by
 obtain⟨a,ms,ss,L,fu,rfl,hA,_⟩:=h;exact⟨hA.kLk,hA.uY.cellAt rfl,hA.uY.cellAt rfl,hA.uY.frozen⟩
theorem lm.belowS(h:lm w0 kb lk t is l up T w)(hb:Below w.heap.size w w'):lm w0 kb lk t is l up T w':=by
 obtain⟨a,ms,ss,L,fu,h1,hA,h2⟩:=h;exact⟨a,ms,ss,L,fu,h1,hA.belowS hb,h2⟩
theorem ae.aRl{H P:List ay}(h:ae w0 (H++(P++l)) w):ae w0 (H++l) w:=h.sub ((List.Sublist.refl H).append (List.sublist_append_right P l))
theorem aN3(h:lm w0 kb lk t is l up T w):Calls prog 38 #[.pointer (some (tZ kb 0))] w fun e w'=>e=.returned (.pointer (some (tZ lk 0)))/\w=w':=by
 obtain⟨_,c11,_,_⟩:=h.aS9;clear h;go_enter func38,ntmps38;go_wp2_with fail;go_ret;exact⟨rfl,rfl⟩
theorem aN1(h:lm w0 kb lk t is l up T w):Calls prog 157 #[.pointer (some (tZ kb 0))] w fun e w'=>e=.returned (iV (T:Int))/\w=w':=by
 obtain⟨_,_,c12,_⟩:=h.aS9;clear h;go_enter func157,ntmps157;go_wp2_with fail;go_ret;exact⟨rfl,rfl⟩
theorem aNM(h:lm w0 kb lk t is l up T w)(n:Int)(hn:n<=9223372036854775807):Calls prog 50 #[.pointer (some (tZ kb 0)),iV n] w fun e w'=>e=.returned (.tuple #[])/\lm w0 kb lk t is l up T w':=by
 obtain⟨a,ms,ss,L,fu,hlk,hA,hk,hu⟩:=h;have i1:=hid (aHz (hA.at_ 10 rfl) n);have c0:w.cell? (tZ kb 0)=some (.pointer (some (tZ a.d 0))):=hA.uY.cellAt rfl;have HK:=hid hk;clear hA hk;go_enter func50,ntmps50;go_wp2_with fail;refine i1.out.mono ?_;rintro e w1⟨rfl,h1⟩;have xY:Hid (ae w0 (dC kb t a ms ss L (max n (-1)) T++(lw ms is++l)) w1):=hid (ae.aQY (i:=10) (l:=dC kb t a ms ss L fu T++(lw ms is++l)) h1 (by simp[dC]));clear h1 i1 c0;go_wp2_with fail;refine bodyPost_end (v:=.tuple #[]) (by simp[results,results50,go_sem]) rfl ?_;have hd:eX (dH L (max n (-1))):=by
  have:=HK.out.dk.yY hn;simpa[ja.yY,dH]using this
 exact⟨rfl,a,ms,ss,L,_,hlk,xY.out,⟨HK.out.right,HK.out.tab,HK.out.n1,HK.out.n4,HK.out.yH,HK.out.xN,HK.out.xs,hd,HK.out.zY,HK.out.has,HK.out.Df,HK.out.fine,HK.out.wL,HK.out.AA,HK.out.AB⟩,hu⟩
theorem aLs(h:lm w0 kb lk t is l up T w)(keep:Int):Calls prog 18 #[.pointer (some (tZ kb 0)),.int .u64 keep] w fun e w'=>e=.returned (iV 0)/\lm w0 kb lk t is l false T w':=by
 obtain⟨a,ms,ss,L,fu,hlk,hA,hk,hu⟩:=h;have i1:=hid (aFX (hA.at_ 10 rfl) hk.dk keep);have c0:w.cell? (tZ kb 0)=some (.pointer (some (tZ a.d 0))):=hA.uY.cellAt rfl;have HK:=hid hk;have hd:eX (dH L (-1)):=hk.dk.zQ (dI keep);clear hA hk hu;go_enter func18,ntmps18;go_wp2_with fail;refine i1.out.mono ?_;rintro e w1⟨rfl,h1⟩;have vH:ae w0 (dU a.d (dH L (-1))::(dC kb t a ms ss L fu T++(lw ms is++l)).eraseIdx 10) w1:=h1;have i2:=hid (fun W (hb:Below w1.heap.size w1 W)=>aPi (ta:=a.ta) (t:=t) (is:=is) (vH.belowS hb) hd.laid (fun W' h'=>(h'.pn 11 [6,7,8] (hN:=by simp[dC])).BQ HK.out.tab) HK.out.right ⟨HK.out.n1,HK.out.n4⟩ HK.out.yH HK.out.zY HK.out.Df HK.out.has HK.out.AB);have hB:=(vH.at_ 1 rfl).blk;have d0:w1.cell? (tZ kb 0)=some (.pointer (some (tZ a.d 0))):=hB.cellAt rfl;have d1:w1.cell? (tZ kb 1)=some (iV t.frame):=hB.cellAt rfl;have d2:w1.cell? (tZ kb 2)=some (.slice a.ta.A1 t.parts.length a.ta.c1):=hB.cellAt rfl;have d3:w1.cell? (tZ kb 3)=some (.slice a.ta.A2 t.wins.length a.ta.c2):=hB.cellAt rfl;have d4:w1.cell? (tZ kb 4)=some (.slice a.ta.A3 t.chans.length a.ta.c3):=hB.cellAt rfl;have d5:w1.cell? (tZ kb 5)=some (iV t.trial):=hB.cellAt rfl
 have yD:w1.cell? (tZ kb 0)=some (.pointer (some (tZ a.d 0)))/\w1.cell? (tZ kb 1)=some (iV t.frame)/\w1.cell? (tZ kb 2)=some (.slice a.ta.A1 t.parts.length a.ta.c1)/\w1.cell? (tZ kb 3)=some (.slice a.ta.A2 t.wins.length a.ta.c2)/\w1.cell? (tZ kb 4)=some (.slice a.ta.A3 t.chans.length a.ta.c3)/\w1.cell? (tZ kb 5)=some (iV t.trial):=⟨d0,d1,d2,d3,d4,d5⟩;unfold gU at i2;clear h1 vH hB i1 c0;go_wp2_with fail;go_region_held3 (fun w'=>w'.cell? (tZ kb 0)=some (.pointer (some (tZ a.d 0)))/\w'.cell? (tZ kb 1)=some (iV t.frame)/\w'.cell? (tZ kb 2)=some (.slice a.ta.A1 t.parts.length a.ta.c1)/\w'.cell? (tZ kb 3)=some (.slice a.ta.A2 t.wins.length a.ta.c2)/\w'.cell? (tZ kb 4)=some (.slice a.ta.A3 t.chans.length a.ta.c3)/\w'.cell? (tZ kb 5)=some (iV t.trial)) (go_keep)
  (first|(go_at_call 55;refine(i2.out _ (by first|exact Below.refl _ _|exact dD (Below.refl _ _))).mono ?_;rintro e w2 ⟨b,tb',Al',cl',xs',rfl,h2,hx⟩;have hB:=(h2.at_ 2 rfl).blk;have z0:w2.cell? (tZ kb 0)=some (.pointer (some (tZ a.d 0))):=hB.cellAt rfl;have z1:w2.cell? (tZ kb 1)=some (iV t.frame):=hB.cellAt rfl;have z2:w2.cell? (tZ kb 2)=some (.slice a.ta.A1 t.parts.length a.ta.c1):=hB.cellAt rfl;have z3:w2.cell? (tZ kb 3)=some (.slice a.ta.A2 t.wins.length a.ta.c2):=hB.cellAt rfl;have z4:w2.cell? (tZ kb 4)=some (.slice a.ta.A3 t.chans.length a.ta.c3):=hB.cellAt rfl;have z5:w2.cell? (tZ kb 5)=some (iV t.trial):=hB.cellAt rfl;have H2:=hid h2;have HX:=hid hx;clear h2 hx hB))
 have hB6:ae w0 (aj kb 124 (qL a.d t a.ta (dR a.s) (dR a.lg) (dR a.gs) (.slice a.Ap ms.length a.cp) (.slice a.As ms.length a.cs) a.lk T)::aA 164 3 a.ta.A1 t.parts.length a.ta.c1 (t.parts.flatMap dK)::aA 89 3 a.ta.A2 t.wins.length a.ta.c2 (t.wins.flatMap iP)::aA 75 3 a.ta.A3 t.chans.length a.ta.c3 (t.chans.flatMap fQ)::rQ b a.d t tb' Al' cl' xs'::dU a.d (dH L (-1))::aj a.lk 182 [.slice none 0 0,.slice none 0 0]::(lw ms is++l)) w2:=H2.out.pn 13 [2,8,9,10,0,1,12] (hN:=by simp[dC]);have i5:=hid (aIo (s:=b) (ae.aRl (H:=[aj kb 124 _,_,_,_,_,_,_]) (P:=lw ms is) hB6) (fun W hW=>hW.BQ HK.out.tab) HK.out.right HK.out.n4);clear z0 z1 z2 z3 z4 z5 d0 d1 d2 d3 d4 d5 yD i2 H2 hB6;go_wp2_with fail;refine i5.out.mono ?_;rintro e w6⟨rfl,lg,tm,mv,mt,gs,Ap,cp,As,cs,ps,hB⟩;have HB:=hid hB;clear hB i5;go_wp2_with fail;go_ret;exact⟨rfl,⟨a.d,b,lg,tm,gs,a.lk,a.ta,tb',Al',cl',xs',0,mv,mt,Ap,cp,As,cs⟩,ps.map PM.new,gJ t.chans,L,-1,hlk,HB.out.ker HK.out.yH,lm.fresh HK.out (Int.natCast_nonneg _) (Int.natCast_nonneg _) hd HB.out.len HX.out,fun h=>by cases h⟩
end
section
variable{w w' w0:World}{kb sb:Nat}{t:aG}{is:List aO}{a:KA}{ms:List PM}{ss:Nat->bP}{L:List (List UInt8)}{fu nb nt tick:Int}{R:List ay}{CB:ay}{wf wp wi wR uI:Int}{wb wO:Bool}{vB:Value}{rest:List Value}
theorem aN9(h:ae w0 (aj sb 133 (fM kb wf wp wi wR wb wO uI vB rest)::CB::(dC kb t a ms ss L fu tick++R)) w):
  Calls prog 60 #[.pointer (some (tZ sb 0))] w fun e w'=>e=.returned (iV 0)/\∃zW,ae w0 (aj sb 133 (fM kb wf wp wi wR wb wO uI vB rest)::CB::(dC kb t {a with now:=zW} ms ss L fu tick++R)) w':=by
 have i1:=hid (fun W (hb:Below w.heap.size w W)=>aOi tick ((h.belowS hb).pn 14 [6,7,0,1,2,3,4,5,8,9,10,11,12,13] (hN:=by simp[dC])));have yD:w.cell? (tZ sb 0)=some (.pointer (some (tZ kb 0)))/\w.cell? (tZ kb 7)=some (.pointer (some (tZ a.lg 0)))/\w.cell? (tZ kb 12)=some (iV tick):=⟨h.blk.cellAt rfl,h.drop.drop.uY.cellAt rfl,h.drop.drop.uY.cellAt rfl⟩;obtain⟨s0,s1,s2⟩:=yD;have yD:w.cell? (tZ sb 0)=some (.pointer (some (tZ kb 0)))/\w.cell? (tZ kb 7)=some (.pointer (some (tZ a.lg 0)))/\w.cell? (tZ kb 12)=some (iV tick):=⟨s0,s1,s2⟩;clear h;go_enter func60,ntmps60;go_wp2_with fail;go_region_held3 (fun w'=>w'.cell? (tZ sb 0)=some (.pointer (some (tZ kb 0)))/\w'.cell? (tZ kb 7)=some (.pointer (some (tZ a.lg 0)))/\w'.cell? (tZ kb 12)=some (iV tick)) (go_keep)
  (first|(go_at_call 132;refine(i1.out _ (by first|exact Below.refl _ _|exact dD (Below.refl _ _))).mono ?_;rintro e w2 ⟨rfl,zW,h2⟩;have h3:=h2.pn 14 [2,3,4,5,6,7,0,1,8,9,10,11,12,13];have z0:w2.cell? (tZ sb 0)=some (.pointer (some (tZ kb 0))):=h3.blk.cellAt rfl;have z1:w2.cell? (tZ kb 7)=some (.pointer (some (tZ a.lg 0))):=(h3.at_ 2 rfl).blk.cellAt rfl;have z2:w2.cell? (tZ kb 12)=some (iV tick):=(h3.at_ 2 rfl).blk.cellAt rfl;have H3:=hid h3;clear h2 h3))
 go_wp2_with fail;go_ret;exact⟨rfl,zW,H3.out⟩
theorem aN8(h:ae w0 (aj sb 133 (fM kb wf wp wi wR wb wO uI vB rest)::CB::(dC kb t a ms ss L fu tick++R)) w):
  Calls prog 61 #[.pointer (some (tZ sb 0))] w fun e w'=>e=.returned (iV 0)/\Below w.heap.size w w':=by
 have i1:=hid (aOl h.drop.drop.kLk);have s0:w.cell? (tZ sb 0)=some (.pointer (some (tZ kb 0))):=h.blk.cellAt rfl;have s4:w.cell? (tZ sb 4)=some (iV wR):=h.blk.cellAt rfl;have s11:w.cell? (tZ kb 11)=some (.pointer (some (tZ a.lk 0))):=h.drop.drop.uY.cellAt rfl;clear h;go_enter func61,ntmps61;go_wp2_with fail
 ·go_ret;exact⟨rfl,Below.refl _ _⟩
 ·refine i1.out.mono ?_;rintro e w2⟨rfl,hb2⟩;have uz:=hid hb2;clear hb2 i1;go_wp2_with fail;go_ret;exact⟨rfl,uz.out⟩
end
def tq(t:aG)(ta:bM)(A:Option Addr)(n c:Nat):List Value:=[iV t.frame,.slice ta.A1 t.parts.length ta.c1,.slice ta.A2 t.wins.length ta.c2,.slice ta.A3 t.chans.length ta.c3,iV t.trial,.slice A n c]
def tY(t:aG)(ta:bM)(A:Option Addr)(n c:Nat):Value:=.agg #[iV t.frame,.slice ta.A1 t.parts.length ta.c1,.slice ta.A2 t.wins.length ta.c2,.slice ta.A3 t.chans.length ta.c3,iV t.trial,.slice A n c]
theorem lh.aSf{α:Type}{w:World}{B size m k:Nat}{A:Option Addr}{cells:α->List Value}{l:List α}(h:lh w B size A m cells l)(hk:k<=m):lh w B size A (l.take k).length cells (l.take k):=by
 have hl:(l.take k).length=k:=by rw[List.length_take,h.1];omega
 rw[hl];refine⟨hl,fun j x hj=>?_⟩;rw[List.getElem?_take]at hj;split at hj
 ·exact h.2 j x hj
 ·cases hj
section
variable{w w' w0:World}{t:aG}{ta:bM}{li:List fD}{A:Option Addr}{c:Nat}
theorem aKf(n:Nat)(h1:1<=n)(h4:n<=4)(w:World):Calls prog 36 #[iV (n:Int)] w fun e w'=>e=.returned (iV ((10*n:Nat):Int))/\w=w':=by
 have q1:decide ((n:Int)<1)=false:=decide_eq_false (by omega);have q2:decide ((4:Int)<(n:Int))=false:=decide_eq_false (by omega);have q1':decide (n<1)=false:=decide_eq_false (by omega);have q2':decide (4<n)=false:=decide_eq_false (by omega);have q3:IntKind.i64.wrap (10*(n:Int))=((10*n:Nat):Int):=by rw[IntWalk.i64_in _ (by omega)];omega
 go_enter func36,ntmps36;go_wp2_with fail;all_goals(first|(exfalso;omega)|skip)
 go_ret;exact⟨by first|rfl|(congr 1),rfl⟩
theorem aPg(hT:dM w t ta)(hI:pz w A li)(hr:aS t=true)(hn:t.parts.length<=li.length)(h10:li.length<=10)(hc:li.length<=c)(hE:∀(p:Nat)(x:fD),p<t.parts.length->li[p]? =some x->fG t (p:Int) x.p 0=0)(hlen:(mM t).length<=1000000):
  Calls prog 13 #[tY t ta A li.length c] w fun e w'=>∃kb lk,e=.returned (.pointer (some (tZ kb 0)))/\ae w [dJ kb lk t ((li.take t.parts.length).map fD.p) false 0] w':=by
 have hR:=(bK t).1 hr;have zk:1<=t.parts.length/\t.parts.length<=4:=⟨by have:=hR.p1;omega,hR.p2⟩;obtain⟨n,hN⟩:∃n,t.parts.length=n:=⟨_,rfl⟩;have vH:=(ae.nil (Below.refl w.heap.size w)).made (T:=29) (xs:=tq t ta A li.length c);obtain⟨w1,hw1⟩:∃w1,w.alloc (.cells (tq t ta A li.length c).toArray 29)=w1:=⟨_,rfl⟩;rw[hw1]at vH;simp only[tq]at hw1;obtain⟨yb,EH⟩:∃yb,w.heap.size=yb:=⟨_,rfl⟩;rw[EH]at vH;have i1:=hid (fun W=>aKf n (by omega) (by omega) W);have i2:=hid (fun W (hW:Below w1.heap.size w1 W)=>aEj (vH.belowS hW) (10*n) (by omega) (by omega));have hlt:(li.take n).length=n:=by rw[List.length_take];omega
 have i3:=hid (fun W d (hW:ae w (dU d (nZ (10*n))::[aj yb 29 (tq t ta A li.length c)]) W)=>aIk (AI:=A) (cI:=c) (li:=li.take n) (L:=List.replicate (10*n) (List.replicate 64 0)) hW (aIa (by omega) (by omega)) (fun W h=>hT.belowS h.bel) (fun W h=>⟨by
  have h1:=hI.rd.belowS h.bel;exact lh.aSf h1 (by omega),fun x hx=>by
  have h1:=hI.im x (List.mem_of_mem_take hx);exact⟨h1.1.belowS h.bel,h1.2⟩⟩) hr zk (by rw[hlt,hN]) (by rw[List.length_replicate,hN];exact Nat.le_refl _) (fun k hk=>by
  rw[List.length_replicate]at hk;rw[List.getElem?_replicate,if_pos hk]) (fun p x hp=>by
  rw[List.getElem?_take]at hp;split at hp
  ·exact hE p x (by omega) hp
  ·cases hp) hlen)
 simp only[hlt]at i3;unfold gU at i3;have HA:=hid vH;have q2:(0:Int)<=(n:Int):=Int.natCast_nonneg _;have q3:(n:Int)<=(li.length:Int):=by omega
 have q4:(li.length:Int)<=(c:Int):=by omega
 have q5:(n:Int)<=(c:Int):=by omega
 have y1:w1.cell? (tZ yb 1)=some (.slice ta.A1 t.parts.length ta.c1):=vH.blk.cellAt rfl;rw[hN]at y1 i3;rw[hN];have HN:=hid hN;have c0:w1.cell? (tZ yb 0)=some (iV t.frame):=vH.blk.cellAt rfl;have c1:w1.cell? (tZ yb 1)=some (.slice ta.A1 n ta.c1):=y1;have c2:w1.cell? (tZ yb 2)=some (.slice ta.A2 t.wins.length ta.c2):=vH.blk.cellAt rfl;have c3:w1.cell? (tZ yb 3)=some (.slice ta.A3 t.chans.length ta.c3):=vH.blk.cellAt rfl;have c4:w1.cell? (tZ yb 4)=some (iV t.trial):=vH.blk.cellAt rfl;have c5:w1.cell? (tZ yb 5)=some (.slice A li.length c):=vH.blk.cellAt rfl;unfold tY;rw[hN]at hw1 ⊢;generalize li.length=m at*
 clear hT hI hr hn h10 hc hE hlen hR zk hN vH hlt y1;go_enter func13,ntmps13;go_wp2_with fail;refine wp_region_held_drew (S:=(fun w'=>w'.cell? (tZ yb 0)=some (iV t.frame)/\w'.cell? (tZ yb 1)=some (.slice ta.A1 n ta.c1)/\w'.cell? (tZ yb 2)=some (.slice ta.A2 t.wins.length ta.c2)/\w'.cell? (tZ yb 3)=some (.slice ta.A3 t.chans.length ta.c3)/\w'.cell? (tZ yb 4)=some (iV t.trial)/\w'.cell? (tZ yb 5)=some (.slice A m c))) (by kernel_rfl) ⟨c0,c1,c2,c3,c4,c5⟩ (fun hHeld=>?_);refine bJ 7 [(0,11),(3,14),(4,15),(5,16),(6,17),(7,18),(8,19)] rfl (by kernel_rfl) (by kernel_rfl) (fun _ _ _ _ _ h=>h) (by assumption) ?_;iterate 7 (refine aI rfl rfl rfl (v:=?_) ?_ ?_;rotate_left 1;focus(intro wS hSw;(try dsimp only at hSw);go_simp;try with_reducible rfl);try simp only[Act.put,aY,aZ,aU])
 refine au ?_;refine dO 1 rfl (by kernel_rfl) fun K hK=>?_
 go_simp;(go_at_call 36;refine(i1.out _).mono ?_;rintro e wx ⟨rfl,rfl⟩)
 refine hK.out _ _ ⟨c0,c1,c2,c3,c4,c5⟩ (fun hHeld=>?_);clear hK K;try simp only[Act.put,aY,aZ,aU]
 refine dO 2 rfl (by kernel_rfl) fun K hK=>?_
 go_simp;(go_at_call 35;refine(i2.out _ eY.out).mono ?_;rintro e w2 ⟨d,rfl,h2⟩;have H2:=hid h2;clear h2)
 refine hK.out _ _ (by have h9:=H2.out.drop.blk;rw[show tq t ta A m c=[iV t.frame,.slice ta.A1 t.parts.length ta.c1,.slice ta.A2 t.wins.length ta.c2,.slice ta.A3 t.chans.length ta.c3,iV t.trial,.slice A m c]from rfl,HN.out]at h9;exact(by and_intros<;>exact h9.cellAt rfl)) (fun hHeld=>?_);clear hK K;try simp only[Act.put,aY,aZ,aU]
 refine dO 9 rfl (by kernel_rfl) fun K hK=>?_
 go_simp;(go_at_call 34;refine(i3.out _ _ H2.out).mono ?_;rintro e w3 ⟨kb,lk,rfl,h3⟩;have H3:=hid h3.all;clear h3)
 refine hK.out _ _ (by have h9:=H3.out.drop.blk;rw[show tq t ta A m c=[iV t.frame,.slice ta.A1 t.parts.length ta.c1,.slice ta.A2 t.wins.length ta.c2,.slice ta.A3 t.chans.length ta.c3,iV t.trial,.slice A m c]from rfl,HN.out]at h9;exact(by and_intros<;>exact h9.cellAt rfl)) (fun hHeld=>?_);clear hK K;try simp only[Act.put,aY,aZ,aU]
 refine bJ 5 [(10,10),(11,21),(12,22),(13,4),(14,5)] rfl (by kernel_rfl) (by kernel_rfl) (fun _ _ _ _ _ h=>h) (by assumption) ?_;iterate 5 (refine aI rfl rfl rfl (v:=?_) ?_ ?_;rotate_left 1;focus(intro wS hSw;(try dsimp only at hSw);go_simp;try with_reducible rfl);try simp only[Act.put,aY,aZ,aU])
 refine au ?_;refine wpAnyH_done (by kernel_rfl) ?_ _;go_wp2_with fail;go_ret;exact⟨kb,lk,rfl,H3.out.head⟩
end
end Go.Proofs.YtfjkpigldogkeaaGreatDoor
