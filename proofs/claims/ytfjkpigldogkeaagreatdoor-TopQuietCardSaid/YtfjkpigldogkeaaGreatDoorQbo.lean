/- Contracts of functions that TopQuiet reaches, under the conditions that each states. -/
import Derived.Test.YtfjkpigldogkeaaGreatDoorQbn
set_option linter.all false
set_option maxRecDepth 100000
set_option maxHeartbeats 8000000
namespace Go.Proofs.YtfjkpigldogkeaaGreatDoor
open Go.RowKit Go.ChangeShapes Go.WideShapes Go.ChangeAt Go.Proofs.Tryz
theorem aEs(v0 v1 v2 v3 v4 v5:Value)(w:World):(Instr.field 68 (.agg #[v0,v1,v2,v3,v4,v5]) 2).run prog w=.ok v2 w:=by kernel_rfl
section
variable{w w' w0:World}{kb:Nat}{t:aG}{is:List aO}{a:KA}{ms:List PM}{ss:Nat->bP}{L:List (List UInt8)}{fu nb nt tick:Int}{l:List ay}
theorem aCy{R:List ay}(h:ae w0 (dC kb t a ms ss L fu tick++R) w)(hk:dE t is a ms ss L fu nb nt){p:Nat}(hp:p<t.parts.length):
  Calls prog 71 #[.pointer (some (tZ a.s 0)),iV (p:Int)] w fun e w'=>e=.returned (lC (aQ p))/\Below w.heap.size w w':=by
 have hl:a.xs.length=t.parts.length:=by
  have:=congrArg List.length hk.xs;rwa[List.length_map,List.length_map,hk.yH]at this
 refine aLk (h.aTB hk.tab) (a:=(a.xs[p]'(by omega)).1) (n:=(a.xs[p]'(by omega)).2) ?_ ?_
 ·rw[List.getElem?_map,List.getElem?_eq_getElem (by omega)];rfl
 ·rw[List.getElem?_map,List.getElem?_eq_getElem (by omega)];rfl
theorem dE.img{p:Nat}(hk:dE t is a ms ss L fu nb nt)(hp:p<t.parts.length):∃i,is[p]? =some i:=⟨_,List.getElem?_eq_getElem (by rw[hk.yH];exact hp)⟩
theorem aPG(h:ae w0 (dC kb t a ms ss L fu tick++(lw ms is++l)) w)(hk:dE t is a ms ss L fu nb nt){p:Nat}{x:PM}(hp:ms[p]? =some x):
  Calls prog 128 #[.pointer (some (tZ kb 0)),iV (p:Int)] w fun e w'=>e=.returned (.bool (pW x))/\Below w.heap.size w w':=by
 have zt:p<ms.length:=(List.getElem?_eq_some_iff.1 hp).1;have hpt:p<t.parts.length:=by rw[<-hk.xN];exact zt
 obtain⟨i,hi⟩:=hk.img hpt;have i1:=hid (fun W (hb:Below w.heap.size w W)=>aP8 ((h.belowS hb).FC hp hi) (hk.uu hi) fun y hy=>(hk.fine p i x y hi hp hy).1);have i2:=hid (fun W (hb:Below w.heap.size w W)=>aCy (p:=p) (h.belowS hb) hk hpt);obtain⟨g1,hg1,_,FD⟩:=dG h.vM (by omega);obtain⟨g2,hg2,_,hgl2⟩:=dG h.xj (by omega);have HK:Hid (∀W,Below w.heap.size w W->W.cell? (tZ kb 9)=some (.slice (some (tZ g1 0)) ms.length a.cp)/\W.cell? (tZ kb 10)=some (.slice (some (tZ g2 0)) ms.length a.cs)/\W.cell? (tZ kb 6)=some (.pointer (some (tZ a.s 0)))/\W.cell? (tZ g1 p)=some (.pointer (some (tZ x.p 0)))/\W.cell? (tZ g2 p)=some (sF x)):=hid fun W hb=>by
  have h1:=h.belowS hb;have hA:=h1.vM;have hB:=h1.xj;have hC:=h1.uY;rw[hg1,hg2]at hC;rw[hg1]at hA;rw[hg2]at hB;obtain⟨y,hy,AX,_⟩:=dW hA zt;obtain⟨z,hz,Bo,_⟩:=dW hB zt;rw[hp]at hy hz;cases hy;cases hz;exact⟨hC.cellAt rfl,hC.cellAt rfl,hC.cellAt rfl,AX,Bo⟩
 obtain⟨c9,c10,c6,cp,cs⟩:=HK.out w (Below.refl _ _);have q1:(0:Int)<=(p:Int):=Int.natCast_nonneg _;have q2:(p:Int)<(ms.length:Int):=by omega
 generalize ms.length=M at*
 have hsl:Hid (pW x=false->sF x=iV 0):=hid fun hd=>by
  unfold pW at hd;unfold sF;cases hq:x.q with
  |none=>rw[hq]at hd;cases hd
  |some y=>rfl
 clear h hk hg1 hg2 FD hgl2 hp hi zt hpt;cases hd:pW x with
 |true=>
  rw[hd]at i1;simp only[Bool.not_true]at i1;clear hd hsl i2 c10 c6 cs;go_enter func128,ntmps128;go_wp2_with fail;refine wp_region_held_drew (S:=(fun w'=>w'.cell? (tZ kb 9)=some (.slice (some (tZ g1 0)) M a.cp)/\w'.cell? (tZ g1 p)=some (.pointer (some (tZ x.p 0))))) (by kernel_rfl) ⟨c9,cp⟩ (fun hHeld=>?_);refine bJ 7 [(0,5),(1,6),(2,7),(3,8),(4,9),(5,10),(6,11)] rfl (by kernel_rfl) (by kernel_rfl) (fun _ _ _ _ _ h=>h) (by assumption) ?_;iterate 7 (refine aI rfl rfl rfl (v:=?_) ?_ ?_;rotate_left 1;focus(intro wS hSw;(try dsimp only at hSw);go_simp;try with_reducible rfl);try simp only[Act.put,aY,aZ,aU])
  refine au ?_;refine dO 7 rfl (by kernel_rfl) fun K hK=>?_
  go_simp;(go_at_call 200;refine(i1.out _ (Below.refl _ _).drew).mono ?_;rintro e w2 ⟨rfl,hb2⟩;have uz:=hid (show Below w.heap.size w w2 from⟨hb2.os,hb2.tape,hb2.output,hb2.size,hb2.block⟩);clear hb2)
  refine hK.out _ _ ⟨(HK.out w2 uz.out).1,(HK.out w2 uz.out).2.2.2.1⟩ (fun hHeld=>?_);clear hK K;try simp only[Act.put,aY,aZ,aU]
  refine bJ 19 [(8,13),(9,14),(10,15),(11,16),(12,17),(13,18),(14,19),(15,20),(16,21),(17,22),(18,23),(19,24),(20,25),(21,26),(22,27),(23,28),(24,29),(25,30),(26,4)] rfl (by kernel_rfl) (by kernel_rfl) (fun _ _ _ _ _ h=>h) (by assumption) ?_;iterate 19 ((first|refine rq rfl rfl rfl ?_|(refine aI rfl rfl rfl (v:=?_) ?_ ?_;rotate_left 1;focus(intro wS hSw;(try dsimp only at hSw);go_simp;try with_reducible rfl)));try simp only[Act.put,aY,aZ,aU])
  refine au ?_;refine wpAnyH_done (by kernel_rfl) ?_ _;go_wp2_with fail;go_ret;exact⟨rfl,uz.out⟩
 |false=>
  rw[hd]at i1;simp only[Bool.not_false]at i1;have hs0:=hsl.out hd;rw[hs0]at cs;have HK:=HK;simp only[hs0]at HK;unfold lC aQ at i2;simp only at i2;have Ey:= @aEs;clear hd hsl hs0;go_enter func128,ntmps128;go_wp2_with fail;have yD:w.cell? (tZ kb 9)=some (.slice (some (tZ g1 0)) M a.cp)/\w.cell? (tZ kb 10)=some (.slice (some (tZ g2 0)) M a.cs)/\w.cell? (tZ kb 6)=some (.pointer (some (tZ a.s 0)))/\w.cell? (tZ g1 p)=some (.pointer (some (tZ x.p 0)))/\w.cell? (tZ g2 p)=some (iV 0):=⟨c9,c10,c6,cp,cs⟩;go_region_held3 (fun w'=>w'.cell? (tZ kb 9)=some (.slice (some (tZ g1 0)) M a.cp)/\w'.cell? (tZ kb 10)=some (.slice (some (tZ g2 0)) M a.cs)/\w'.cell? (tZ kb 6)=some (.pointer (some (tZ a.s 0)))/\w'.cell? (tZ g1 p)=some (.pointer (some (tZ x.p 0)))/\w'.cell? (tZ g2 p)=some (iV 0)) (go_keep)
   (first
    |(go_at_call 200;refine(i1.out _ (by first|exact Below.refl _ _|exact dD (Below.refl _ _))).mono ?_;rintro e w2 ⟨rfl,hb2⟩;have yQ:Below w.heap.size w w2:=(by first|exact hb2|exact ag (dD (Below.refl _ _)) hb2);obtain⟨z9,AU,z6,zp,zs⟩:=HK.out w2 yQ;have uz:=hid yQ;clear hb2 yQ)
    |(go_at_call 71;refine(i2.out _ (by first|exact uz.out|exact dD uz.out)).mono ?_;rintro e w3 ⟨rfl,hb3⟩;have wW:Below w.heap.size w w3:=(by first|exact ag uz.out hb3|exact ag (dD uz.out) hb3);obtain⟨y9,Ha,y6,yp,ys⟩:=HK.out w3 wW;have vk:=hid wW;clear hb3 wW))
  go_wp2_with fail;go_ret;exact⟨rfl,vk.out⟩
end
def fM(kb:Nat)(wf wp wi wR:Int)(wb wO:Bool)(tick:Int)(vB:Value)(rest:List Value):List Value:=
 dR kb:: iV wf:: iV wp:: iV wi:: iV wR:: .bool wb:: .bool wO:: iV tick::vB::rest
def iY(x:Int×Int):List Value:=[iV x.1,iV x.2,iV 0]
section
variable{w w' w0:World}{kb sb gs:Nat}{t:aG}{is:List aO}{a:KA}{ms:List PM}{ss:Nat->bP}{L:List (List UInt8)}{fu nb nt tick:Int}{l:List ay}{cs:List aB}
theorem ae.aS8(h:ae w0 (kZ gs cs ss::l) w)(hn:cs.length<=1000000)(p:Int):
  Calls prog 129 #[.pointer (some (tZ gs 0)),iV p] w fun e w'=>e=.returned (.tuple #[])/\ae w0 (kZ gs cs (fZ cs p cs.length ss)::l) w':=by
 obtain⟨F1,h1,hcl⟩:=h.step1;refine(aLv h1 hn p).mono ?_;rintro e w'⟨F',rfl,hS,hG⟩;exact⟨rfl,hcl w' (kZ gs cs (fZ cs p cs.length ss)) F' hS hG⟩
theorem jA.drain(h:jA cs ss)(p:Int)(k:Nat):jA cs (fZ cs p k ss):=fun j hj=>by
 unfold fZ;split
 ·have:=h j hj;revert this
  cases ss j with
  |last m is=>exact fun h=>⟨h.1,fun _=>rfl⟩
  |row l d=>exact fun h=>⟨h.1,h.2.1,Nat.zero_le _⟩
 ·exact h j hj
theorem sD(w:World)(cs:Array Value)(T:TypeId):(w.alloc (.cells cs T)).heap[w.heap.size]? =some (.cells cs T (0,0)):=by
 have:=ak.new w T cs.toList;exact this
theorem ae.aQz{xs:List Value}{e:TypeId}{g n c size:Nat}(h:ae w0 (aA e size (some (tZ g 0)) n c xs::l) w)(k:Nat)(v:Value):
  ae w0 (aA e size (some (tZ g 0)) n c (xs.set k v)::l) (w.setCell (tZ g k) v):=by
 obtain⟨F1,h1,hcl⟩:=h.step1;have hF:F1 g:=(h1.2 g).2 ⟨_,rfl,rfl⟩;exact hcl _ (aA e size (some (tZ g 0)) n c (xs.set k v)) F1 ⟨(h1.1.stored k v).1,h1.2⟩ ⟨(bD.refl _ _).setCell (.inl hF) _,fun _ h9=>.inl h9⟩
theorem ae.aQS{A:Option Addr}{xs:List Value}{e:TypeId}{g n c size:Nat}(h:ae w0 (aA e size A n c xs::l) w)(hA:A=some (tZ g 0))(k:Nat)(v:Value):
  ae w0 (aA e size A n c (xs.set k v)::l) (w.setCell (tZ g k) v):=by
 subst hA;exact h.aQz k v
theorem ae.aQr{A:Option Addr}{xs:List Value}{e T:TypeId}{g b n c size:Nat}{us:List Value}(h:ae w0 (aA e size A n c xs::aj b T us::l) w)(hA:A=some (tZ g 0)):g≠b:=by
 obtain⟨F,⟨F1,F2,h1,⟨F3,F4,h3,_,_,hi2⟩,hd,_⟩,_,_⟩:=h;intro e9;subst hA;exact hd g ((h1.2 g).2 ⟨_,rfl,rfl⟩) ((hi2 g).2 (.inl ((h3.2 g).2 e9)))
theorem aFw{k:Nat}{x x':PM}(hp:ms[k]? =some x)(hx:x'.p=x.p):dC kb t a (ms.set k x') ss L fu tick=(dC kb t a ms ss L fu tick).set 2 (aA 3 1 a.As ms.length a.cs ((ms.map sF).set k (sF x'))):=by
 have e1:(ms.set k x').map (fun x=>dR x.p)=ms.map (fun x=>dR x.p):=by
  apply List.ext_getElem?
  intro j;rw[List.getElem?_map,List.getElem?_map,List.getElem?_set];by_cases hj:k=j
  ·subst hj;have hl:k<ms.length:=(List.getElem?_eq_some_iff.1 hp).1;rw[if_pos rfl,if_pos hl,hp,Option.map_some,Option.map_some,hx]
  ·rw[if_neg hj]
 unfold dC;rw[List.length_set,e1,List.map_set];rfl
end
structure aI7 (w0:World) (kb sb:Nat) (t:aG) (is:List aO) (a:KA) (L:List (List UInt8)) (fu nb nt tick:Int) (l:List ay) (wf wp wi wR:Int) (wO:Bool) (uI:Int) (rest:List Value) (k:Nat) (A:Option Addr) (c:Nat) (bo:List (Int×Int)) (ms:List PM) (ss:Nat->bP) (wr:World):Prop where
 le:bo.length<=k
 ok:dE t is a ms ss L fu (nb+1) nt
 up:∀(j:Nat)(x:PM),j<k->ms[j]? =some x->x.q.isSome=true
 bs:∀(j:Nat)(x:PM),k<=j->ms[j]? =some x->x.b<=nb
 all:ae w0 (aj sb 133 (fM kb wf wp wi wR true wO uI (.slice A bo.length c) rest)::aA 73 3 A bo.length c (bo.flatMap iY)::(dC kb t a ms ss L fu tick++(lw ms is++l))) wr
theorem aJM:(prog.info? 73).map (fun i=>(i.zero,i.size,i.bytes))=some (some (.agg #[iV 0,iV 0,iV 0]),3,24):=by kernel_rfl
theorem dE.uh{t:aG}{is:List aO}{a:KA}{ms:List PM}{ss ss':Nat->bP}{L:List (List UInt8)}{fu nb nt KY:Int}(hk:dE t is a ms ss L fu nb nt){k:Nat}{x':PM}(hb:0<=x'.b/\x'.b<=nb)(hnt:nt<=KY)(hf:∀i y,is[k]? =some i->x'.q=some y->lM i y.2/\0<=y.2.ticks/\y.2.ticks<=KY)(hK:jA t.chans ss'):
  dE t is a (ms.set k x') ss' L fu nb KY:=by
 refine⟨hk.right,hk.tab,hk.n1,hk.n4,hk.yH,by rw[List.length_set];exact hk.xN,hk.xs,hk.dk,hk.zY,hk.has,hk.Df,fun p i x y hi hx hy=>?_,fun x hx=>?_,hK,hk.AB⟩
 ·rw[List.getElem?_set]at hx;by_cases hp:k=p
  ·subst hp;rw[if_pos rfl]at hx;split at hx
   ·cases hx;exact hf i y hi hy
   ·cases hx
  ·rw[if_neg hp]at hx;have:=hk.fine p i x y hi hx hy;exact⟨this.1,this.2.1,by omega⟩
 ·rcases List.mem_or_eq_of_mem_set hx with h1|h1
  ·exact hk.wL x h1
  ·rw[h1];exact hb
section
variable{w w' w0:World}{kb sb:Nat}{t:aG}{is:List aO}{a:KA}{ms:List PM}{ss:Nat->bP}{L:List (List UInt8)}{fu nb nt tick:Int}{l:List ay}{wf wp wi wR uI:Int}{wO:Bool}{rest:List Value}
theorem aMW(h:ae w0 (aj sb 133 (fM kb wf wp wi wR true wO uI (.slice none 0 0) rest)::(dC kb t a ms ss L fu tick++(lw ms is++l))) w)(hk:dE t is a ms ss L fu nb nt)(aTC:0<=nb)(hnb:nb<=900000)(hnt:0<=nt):
  Calls prog 59 #[.pointer (some (tZ sb 0))] w fun e w'=>e=.returned (iV 0)/\∃A c bo yM ss',aI7 w0 kb sb t is a L fu nb nt tick l wf wp wi wR wO uI rest t.parts.length A c bo yM ss' w':=by
 have hok:dE t is a ms ss L fu (nb+1) nt:=⟨hk.right,hk.tab,hk.n1,hk.n4,hk.yH,hk.xN,hk.xs,hk.dk,hk.zY,hk.has,hk.Df,hk.fine,fun x hx=>⟨(hk.wL x hx).1,by have:=(hk.wL x hx).2;omega⟩,hk.AA,hk.AB⟩;have Ag:Hid (aI7 w0 kb sb t is a L fu nb nt tick l wf wp wi wR wO uI rest 0 none 0 [] ms ss w):=hid ⟨by simp,hok,fun j x hj=>absurd hj (Nat.not_lt_zero _),fun j x _ hx=>(hk.wL x (List.mem_of_getElem? hx)).2,(h.uX 73 3).pn 2 [1,0]⟩;have hlM:=hk.xN;have h4:=hk.n4;have b0:w.cell? (tZ sb 0)=some (.pointer (some (tZ kb 0))):=h.blk.cellAt rfl;have b5:w.cell? (tZ sb 5)=some (.bool true):=h.blk.cellAt rfl;have k9:w.cell? (tZ kb 9)=some (.slice a.Ap t.parts.length a.cp):=by
  have:=h.drop.uY;rw[hlM]at this;exact this.cellAt rfl
 clear h hk hok;go_enter func59,ntmps59;go_wp2_with fail;clear b0 b5 k9;go_loopw [20] (fun v20 wr=>∃(k:Nat) (A:Option Addr) (c:Nat) (bo:List (Int×Int)) (ms:List PM) (ss:Nat->bP),k<=t.parts.length/\v20=iV (k:Int)/\Hid (aI7 w0 kb sb t is a L fu nb nt tick l wf wp wi wR wO uI rest k A c bo ms ss wr)) (fun v20 _=>t.parts.length-(Lib.intOf v20).toNat)
 case atStart=>exact⟨0,none,0,[],ms,ss,by omega,rfl,Ag⟩
 clear Ag hlM;obtain⟨k,A,c,bo,ms,ss,hk,rfl,Az⟩:=hrel;by_cases hkn:k<t.parts.length
 ·have hR:=Az.out;have hlM:=hR.ok.xN;obtain⟨x,hx⟩:∃x,ms[k]? =some x:=⟨_,List.getElem?_eq_getElem (by omega)⟩;obtain⟨i,hi⟩:=hR.ok.img hkn;have b0:wr.cell? (tZ sb 0)=some (.pointer (some (tZ kb 0))):=hR.all.blk.cellAt rfl;have i1:=hid (aPG hR.all.drop.drop hR.ok hx);have hk4:k<4:=by omega
  go_wp2_with fail;refine i1.out.mono ?_;rintro e w1⟨rfl,hb1⟩;have xY:=hid (hR.all.belowS hb1);cases hd:pW x with
  |false=>
   clear hb1 i1 b0;go_wp2_with fail;go_roundw;case rel=>
    refine⟨k+1,A,c,bo,ms,ss,by omega,by go_num,hid ⟨by have:=hR.le;omega,hR.ok,fun j y hj hy=>?_,fun j y hj hy=>hR.bs j y (by omega) hy,xY.out⟩⟩;by_cases hjk:j=k
    ·subst hjk;rw[hx]at hy;cases hy;unfold pW at hd;cases hq:x.q with
     |none=>rw[hq]at hd;cases hd
     |some y=>rfl
    ·exact hR.up j y (by omega) hy
   case measure=>simp[Lib.intOf];omega
  |true=>
   have b0:w1.cell? (tZ sb 0)=some (.pointer (some (tZ kb 0))):=xY.out.blk.cellAt rfl;have k8:w1.cell? (tZ kb 8)=some (.pointer (some (tZ a.gs 0))):=xY.out.drop.drop.uY.cellAt rfl;have ND:t.chans.length<=1000000:=by have:=hR.ok.tab.2.2.1;omega
   have i2:=hid ((xY.out.at_ 5 rfl).aS8 ND (k:Int));clear hb1 i1;go_wp2_with fail;refine i2.out.mono ?_;rintro e w2⟨rfl,h2⟩;have vY:Hid (ae w0 (aj sb 133 (fM kb wf wp wi wR true wO uI (.slice A bo.length c) rest)::aA 73 3 A bo.length c (bo.flatMap iY)::(dC kb t a ms (fZ t.chans k t.chans.length ss) L fu tick++(lw ms is++l))) w2):=hid (h2.aQY (by simp[dC]));have b0:w2.cell? (tZ sb 0)=some (.pointer (some (tZ kb 0))):=vY.out.blk.cellAt rfl;have k6:w2.cell? (tZ kb 6)=some (.pointer (some (tZ a.s 0))):=vY.out.drop.drop.uY.cellAt rfl;obtain⟨gl,Ad,ca,hro⟩:=vY.out.drop.drop.kDk;have hxl:a.xs.length=t.parts.length:=by
    have:=congrArg List.length hR.ok.xs;rwa[List.length_map,List.length_map,hR.ok.yH]at this
   have hn':(a.xs.map Prod.snd)[k]? =some (49+i.code.length):=by rw[hR.ok.xs,List.getElem?_map,hi];rfl
   have hp':(a.xs.map Prod.fst)[k]? =some (a.xs[k]'(by omega)).1:=by rw[List.getElem?_map,List.getElem?_eq_getElem (by omega)];rfl
   have i3:=hid (aON i (vY.out.drop.drop.aTB hR.ok.tab) hro hR.ok.dk.laid hp' hn' hk4 (by have:=hR.ok.zY;omega) (hR.ok.has k i hi) (hR.ok.uu hi) (hR.ok.Df k i hi));unfold eM at i3;clear h2 i2 k8 xY hn' hp' hxl hro;go_wp2_with fail;refine i3.out.mono ?_;rintro e w3⟨A',c',rfl,AP,hb3⟩;have vS:=hid (vY.out.vJ hb3 AP);obtain⟨w4,hw4⟩:∃w4,w3.alloc (.cells #[iV i.part,iV i.ver,iV i.uw,iV i.mem,iV i.fuel,iV i.sends,iV i.uj,.slice A' i.code.length c'] 39)=w4:=⟨_,rfl⟩;obtain⟨im,him⟩:∃im,w3.heap.size=im:=⟨_,rfl⟩;obtain⟨Dx,aSa⟩:∃Dx,fZ t.chans (k:Int) t.chans.length ss=Dx:=⟨_,rfl⟩;rw[aSa]at vS;have wQ:ae w0 (aj im 39 (qG i A' c')::aA 5 1 A' i.code.length c' (i.code.map bV)::aj sb 133 (fM kb wf wp wi wR true wO uI (.slice A bo.length c) rest)::aA 73 3 A bo.length c (bo.flatMap iY)::(dC kb t a ms Dx L fu tick++(lw ms is++l))) w4:=by
    rw[<-hw4,<-him];exact vS.out.made (T:=39) (xs:=qG i A' c')
   obtain⟨g1,hq1,_,_⟩:=dG wQ.drop.drop.drop.drop.vM (by omega);obtain⟨g2,hq2,_,_⟩:=dG wQ.drop.drop.drop.drop.xj (by omega);have zg:=hid hq1;have HG2:=hid hq2;clear hq1 hq2;have hng:g2≠kb/\g2≠sb/\g2≠im:=⟨(wQ.pn 16 [6,4] (hN:=by simp[dC])).aQr HG2.out,(wQ.pn 16 [6,2] (hN:=by simp[dC])).aQr HG2.out,(wQ.pn 16 [6,0] (hN:=by simp[dC])).aQr HG2.out⟩;have i4:=hid (fun W (hb:Below w4.heap.size w4 W)=>aNa (p:=x.p) (m:=x.q.map Prod.fst) (b:=x.b) (i:=i) ((wQ.belowS hb).FC (H:=_::_::_::_::dC kb t a ms Dx L fu tick) hx hi).pmPt A' c' ((wQ.at_ 1 rfl).uT.belowS hb) (NW (hR.ok.Df k i hi)) (hR.ok.wL x (List.mem_of_getElem? hx)).1 (by have:=hR.bs k x (Nat.le_refl _) hx;omega));unfold eM at i4;have c9:w4.cell? (tZ kb 9)=some (.slice (some (tZ g1 0)) ms.length a.cp):=by rw[<-zg.out];exact wQ.drop.drop.drop.drop.uY.cellAt rfl
   have cp:w4.cell? (tZ g1 k)=some (.pointer (some (tZ x.p 0))):=by
    have:=wQ.drop.drop.drop.drop.vM;rw[zg.out]at this;obtain⟨y,hy,AX,_⟩:=dW this (k:=k) (by omega);rw[hx]at hy;cases hy;exact AX
   have s0:w4.cell? (tZ sb 0)=some (.pointer (some (tZ kb 0))):=(wQ.at_ 2 rfl).blk.cellAt rfl;obtain⟨m0,m1,m2,m3,m4,m5,m6,m7⟩:=jI wQ.blk;have q1:(0:Int)<=(k:Int):=Int.natCast_nonneg _;have q2:(k:Int)<(ms.length:Int):=by omega
   have EY:=hid wQ;clear i3 AP hb3 wQ b0 k6 vS vY;go_wp2_with fail;go_region_held3 (fun w'=>w'.cell? (tZ kb 9)=some (.slice (some (tZ g1 0)) ms.length a.cp)/\w'.cell? (tZ g1 k)=some (.pointer (some (tZ x.p 0)))/\w'.cell? (tZ sb 0)=some (.pointer (some (tZ kb 0)))/\w'.cell? (tZ im 0)=some (iV i.part)/\w'.cell? (tZ im 1)=some (iV i.ver)/\w'.cell? (tZ im 2)=some (iV i.uw)/\w'.cell? (tZ im 3)=some (iV i.mem)/\w'.cell? (tZ im 4)=some (iV i.fuel)/\w'.cell? (tZ im 5)=some (iV i.sends)/\w'.cell? (tZ im 6)=some (iV i.uj)/\w'.cell? (tZ im 7)=some (.slice A' i.code.length c')) (go_keep)
    (first|(go_at_call 131;refine(i4.out _ (by first|exact Below.refl _ _|exact dD (Below.refl _ _))).mono ?_;rintro e w6 ⟨rfl,g',h6⟩;have h7:ae w0 (aj im 39 (qG i A' c')::aA 5 1 A' i.code.length c' (i.code.map bV)::aj sb 133 (fM kb wf wp wi wR true wO uI (.slice A bo.length c) rest)::aA 73 3 A bo.length c (bo.flatMap iY)::(dC kb t a ms Dx L fu tick++(lw (ms.set k ⟨x.p,some (g',jF i.mem.toNat),x.b+1⟩) is++l))) w6:=(ae.aQR (y:=(g',jF i.mem.toNat)) h6).aRB (H:=_::_::_::_::dC kb t a ms Dx L fu tick) (by omega) hi;have z9:w6.cell? (tZ kb 9)=some (.slice (some (tZ g1 0)) ms.length a.cp):=(by rw[<-zg.out];exact h7.drop.drop.drop.drop.uY.cellAt rfl);have zp:w6.cell? (tZ g1 k)=some (.pointer (some (tZ x.p 0))):=(by have:=h7.drop.drop.drop.drop.vM;rw[zg.out]at this;obtain⟨y,hy,AX,_⟩:=dW this (k:=k) (by omega);rw[hx]at hy;cases hy;exact AX);have z0:w6.cell? (tZ sb 0)=some (.pointer (some (tZ kb 0))):=(h7.at_ 2 rfl).blk.cellAt rfl;obtain⟨n0,n1,n2,n3,n4,n5,n6,n7⟩:=jI h7.blk;have H7:=hid h7;clear h6 h7))
   obtain⟨x',hx'⟩:∃x':PM,(⟨x.p,some (g',jF i.mem.toNat),x.b+1⟩:PM)=x':=⟨_,rfl⟩;have hok1:dE t is a (ms.set k x') Dx L fu (nb+1) nt:=by
    rw[<-aSa,<-hx'];exact hR.ok.uh ⟨by have:=(hR.ok.wL x (List.mem_of_getElem? hx)).1;simp only;omega,by have:=hR.bs k x (Nat.le_refl _) hx;simp only;omega⟩ (Int.le_refl _) (fun j y hj hy=>by rw[hi]at hj;cases hj;cases hy;exact⟨aJI (hR.ok.uu hi),Int.le_refl _,hnt⟩) (hR.ok.AA.drain _ _)
   rw[hx']at H7;have Gw:Hid (∀W,Below w6.heap.size w6 W->W.cell? (tZ sb 0)=some (.pointer (some (tZ kb 0)))/\W.cell? (tZ kb 10)=some (.slice (some (tZ g2 0)) ms.length a.cs)/\W.cell? (tZ kb 6)=some (.pointer (some (tZ a.s 0)))/\W.frozen? (tZ g2 k)=false/\W.cell? (tZ g2 k)=some (sF x)):=hid fun W hb=>by
    have h1:=H7.out.belowS hb;have h2:=h1.drop.drop.drop.drop.xj;rw[HG2.out]at h2;obtain⟨y,hy,AX,hyf⟩:=dW h2 (k:=k) (by omega);rw[hx]at hy;cases hy;exact⟨(h1.at_ 2 rfl).blk.cellAt rfl,by rw[<-HG2.out];exact h1.drop.drop.drop.drop.uY.cellAt rfl,h1.drop.drop.drop.drop.uY.cellAt rfl,hyf,AX⟩
   have i5:=hid (fun W (hb:Below w6.heap.size w6 W)=>aCy (p:=k) (ss:=Dx) (H7.out.belowS hb).drop.drop.drop.drop (show dE t is a ms Dx L fu (nb+1) nt from⟨hR.ok.right,hR.ok.tab,hR.ok.n1,hR.ok.n4,hR.ok.yH,hR.ok.xN,hR.ok.xs,hR.ok.dk,hR.ok.zY,hR.ok.has,hR.ok.Df,hR.ok.fine,hR.ok.wL,aSa▸hR.ok.AA.drain _ _,hR.ok.AB⟩) hkn);unfold lC aQ at i5;simp only at i5;have Ey:= @aEs;clear c9 cp s0 m0 m1 m2 m3 m4 m5 m6 m7 z9 zp z0 n0 n1 n2 n3 n4 n5 n6 n7 i4 EY hw4;obtain⟨z0,AU,z6,zf,zc⟩:=Gw.out w6 (Below.refl _ _);have yD:w6.cell? (tZ sb 0)=some (.pointer (some (tZ kb 0)))/\w6.cell? (tZ kb 10)=some (.slice (some (tZ g2 0)) ms.length a.cs)/\w6.cell? (tZ kb 6)=some (.pointer (some (tZ a.s 0)))/\w6.frozen? (tZ g2 k)=false:=⟨z0,AU,z6,zf⟩;obtain⟨e1,e2,e3⟩:=hng;have e1':=e1.symm;have e2':=e2.symm;go_wp2_with fail;go_region_held3 (fun w'=>w'.cell? (tZ sb 0)=some (.pointer (some (tZ kb 0)))/\w'.cell? (tZ kb 10)=some (.slice (some (tZ g2 0)) ms.length a.cs)/\w'.cell? (tZ kb 6)=some (.pointer (some (tZ a.s 0)))/\w'.frozen? (tZ g2 k)=false) (go_keep)
    (first|(go_at_call 71;refine(i5.out _ (by first|exact Below.refl _ _|exact dD (Below.refl _ _))).mono ?_;rintro e w7 ⟨rfl,xQ⟩;have aSb:Below w6.heap.size w6 w7:=(by first|exact xQ|exact ag (dD (Below.refl _ _)) xQ);obtain⟨y0,Ha,y6,yf,yc⟩:=Gw.out w7 aSb;have H8:=hid (H7.out.belowS aSb);clear xQ aSb))
   have hs0:sF x'=iV 0:=by rw[<-hx'];rfl
   have KT:x'.p=x.p:=by rw[<-hx']
   have h8:ae w0 (aj im 39 (qG i A' c')::aA 5 1 A' i.code.length c' (i.code.map bV)::aj sb 133 (fM kb wf wp wi wR true wO uI (.slice A bo.length c) rest)::aA 73 3 A bo.length c (bo.flatMap iY)::(dC kb t a (ms.set k x') Dx L fu tick++(lw (ms.set k x') is++l))) (w7.setCell (tZ g2 k) (iV 0)):=by
    rw[aFw hx KT,hs0];exact((H8.out.at_ 6 rfl).aQS HG2.out k (iV 0)).aQY (by simp[dC])
   generalize w7.setCell (tZ g2 k) (iV 0)=w8 at h8 ⊢;have hlk:(ms.set k x').length=ms.length:=List.length_set ..;have HC:Hid (∀W,Below w8.heap.size w8 W->W.cell? (tZ sb 0)=some (.pointer (some (tZ kb 0)))/\W.cell? (tZ sb 8)=some (.slice A bo.length c)/\W.cell? (tZ kb 10)=some (.slice (some (tZ g2 0)) ms.length a.cs)/\W.cell? (tZ im 1)=some (iV i.ver)/\W.cell? (tZ g2 k)=some (iV 0)):=hid fun W hb=>by
    have h1:=h8.belowS hb;have h2:=h1.drop.drop.drop.drop.xj;rw[HG2.out]at h2;obtain⟨y,hy,AX,hyf⟩:=dW h2 (k:=k) (by omega);rw[List.getElem?_set_self (by omega)]at hy;cases hy;rw[hs0]at AX;exact⟨(h1.at_ 2 rfl).blk.cellAt rfl,(h1.at_ 2 rfl).blk.cellAt rfl,by rw[<-HG2.out,<-hlk];exact h1.drop.drop.drop.drop.uY.cellAt rfl,h1.blk.cellAt rfl,AX⟩
   have H8':=hid h8;obtain⟨i0,hi0,hz0,hz1,hz2⟩:=info_parts aJM;have FX:=hR.le;clear z0 AU z6 zf zc y0 Ha y6 yf yc yD h8 H8 i5 Gw e1 e2 e3 e1' e2' Ey;obtain⟨z0,z8,AU,z1,zc⟩:=HC.out w8 (Below.refl _ _);have zf:=(H8'.out.at_ 2 rfl).blk.frozen;have z8a:∀o,(w8.alloc o).cell? (tZ sb 8)=some (.slice A bo.length c):=fun o=>(HC.out _ (ah w8 o)).2.1
   go_wp2_with fail;refine dZ (S:=(fun w'=>w'.cell? (tZ sb 0)=some (.pointer (some (tZ kb 0)))/\w'.cell? (tZ sb 8)=some (.slice A bo.length c)/\w'.cell? (tZ kb 10)=some (.slice (some (tZ g2 0)) ms.length a.cs)/\w'.cell? (tZ im 1)=some (iV i.ver)/\w'.cell? (tZ g2 k)=some (iV 0))) 25 (by kernel_rfl) ⟨z0,z8,AU,z1,zc⟩ (fun hHeld=>?_);refine iO 20 [(0,85),(1,86),(2,87),(3,88),(4,89),(5,90),(6,91),(7,92),(8,93),(9,94),(10,95),(11,96),(12,97),(13,98),(14,99),(15,100),(16,101),(17,102),(18,103),(19,104)] rfl (by kernel_rfl) (by kernel_rfl) (fun _ _ _ _ _ h=>h) (by assumption) ?_;iterate 20 (refine aI rfl rfl rfl (v:=?_) ?_ ?_;rotate_left 1;focus(intro wS hSw;(try dsimp only at hSw);go_simp;try with_reducible rfl);try simp only[Act.put,aY,aZ,aU])
   refine au ?_;refine fB 20 rfl (by kernel_rfl) fun K hK=>?_
   go_simp;skip;refine hK.out _ _ (HC.out _ eY.out) (fun hHeld=>?_);clear hK K;try simp only[Act.put,aY,aZ,aU]
   refine fB 21 rfl (by kernel_rfl) fun K hK=>?_
   (refine ed _ rfl (.tmp 90) (.tmp 105) 51 rfl 73 i0 _ 3 24 underlying51 hi0 hz0 hz1 hz2 rfl (by decide) (.slice A bo.length c) bo.length (bo.flatMap iY) rfl ?_ _ _ 1 1 _ rfl (ai.lit (sD _ _ _) rfl) ?_ ?_ ?_ (bo.length+1) rfl ?_;(focus exact((H8'.out.belowS eY.out).at_ 3 rfl).own);(focus simp[Value.oneCell']);(focus(simp[maxLen];omega));(focus omega);intro A6 c6 w9 xM wG yB;have h9:=((((H8'.out.belowS eY.out).at_ 3 rfl).uG xM wG yB).pn 16 [3,0,1,2,4,5,6,7,8,9,10,11,12,13,14,15] (hN:=by simp[dC]));have H9:=hid h9;clear xM wG yB h9)
   refine hK.out _ _ (by have h9:=H9.out;have h2:=h9.drop.drop.drop.drop.xj;rw[HG2.out]at h2;obtain⟨y,hy,AX,hyf⟩:=dW h2 (k:=k) (by omega);rw[List.getElem?_set_self (by omega)]at hy;cases hy;rw[hs0]at AX;exact⟨h9.blk.cellAt rfl,h9.blk.cellAt rfl,by rw[<-HG2.out,<-hlk];exact h9.drop.drop.drop.drop.uY.cellAt rfl,(h9.at_ 2 rfl).blk.cellAt rfl,AX⟩) (fun hHeld=>?_);clear hK K;try simp only[Act.put,aY,aZ,aU]
   refine dB 3 [(22,107),(23,108),(24,109)] rfl (by kernel_rfl) (by kernel_rfl) (fun _ _ _ _ _ h=>h) (fun _=>by assumption) ?_;iterate 3 (refine aI rfl rfl rfl (v:=?_) ?_ ?_;rotate_left 1;focus(intro wS _;go_simp;try with_reducible rfl);try simp only[Act.put,aY,aZ,aU])
   refine au ?_;have y8:w9.cell? (tZ sb 8)=some (.slice A bo.length c):=H9.out.blk.cellAt rfl;have yf:=H9.out.blk.frozen;refine iQ 25 rfl (by kernel_rfl) (by kernel_rfl) fun K hK=>?_
   go_simp;skip;refine hK.out _ _ ?_;clear hK K;try simp only[Act.put,aY,aZ,aU]
   refine bU (by kernel_rfl) ?_ _;have h10:ae w0 (aj sb 133 (fM kb wf wp wi wR true wO uI (.slice A6 (bo.length+1) c6) rest)::aA 73 3 A6 (bo.length+1) c6 (bo.flatMap iY++[iV (k:Int),iV i.ver,iV 0])::(dC kb t a (ms.set k x') Dx L fu tick++(lw (ms.set k x') is++l))) (w9.setCell (tZ sb 8) (.slice A6 (bo.length+1) c6)):=(H9.out.pn 4 [0,1] (by decide) (Nat.le_add_left 4 _)).store 8 (.slice A6 (bo.length+1) c6);have IJ:Hid (aI7 w0 kb sb t is a L fu nb nt tick l wf wp wi wR wO uI rest (k+1) A6 c6 (bo++[((k:Int),i.ver)]) (ms.set k x') Dx (w9.setCell (tZ sb 8) (.slice A6 (bo.length+1) c6))):=hid ⟨by simp;omega,hok1,fun j y hj hy=>by
    rw[List.getElem?_set]at hy;by_cases hjk:k=j
    ·subst hjk;rw[if_pos rfl,if_pos (by omega)]at hy;cases hy;rw[<-hx'];rfl
    ·rw[if_neg hjk]at hy;exact hR.up j y (by omega) hy,fun j y hj hy=>by
    rw[List.getElem?_set_ne (by omega)]at hy;exact hR.bs j y (by omega) hy,by
    rw[show(bo++[((k:Int),i.ver)]).length=bo.length+1 by simp,show(bo++[((k:Int),i.ver)]).flatMap iY=bo.flatMap iY++[iV (k:Int),iV i.ver,iV 0] by simp[iY]];exact h10⟩
   generalize w9.setCell (tZ sb 8) (.slice A6 (bo.length+1) c6)=xZ at IJ ⊢;clear h10 H9 y8 yf H8' HC z0 z8 AU z1 zc zf z8a;go_wp2_with fail;go_roundw;case rel=>exact⟨k+1,A6,c6,bo++[((k:Int),i.ver)],ms.set k x',Dx,by omega,by go_num,IJ⟩
   case measure=>simp[Lib.intOf];omega
 ·obtain rfl:k=t.parts.length:=by omega
  go_wp2_with fail;go_ret;exact⟨rfl,A,c,bo,ms,ss,Az.out⟩
end
end Go.Proofs.YtfjkpigldogkeaaGreatDoor
