/- Contracts of functions that TopQuiet reaches, under the conditions that each states. -/
import Derived.Test.YtfjkpigldogkeaaGreatDoorQbh
import Derived.Test.YtfjkpigldogkeaaGreatDoorQbi
import Derived.Test.YtfjkpigldogkeaaGreatDoorQbj
set_option linter.all false
set_option maxRecDepth 100000
set_option maxHeartbeats 8000000
namespace Go.Proofs.YtfjkpigldogkeaaGreatDoor
open Go.RowKit Go.ChangeShapes Go.WideShapes Go.ChangeAt Go.Proofs.Tryz
def NH:Array Value:=(List.replicate 16 (Value.int .u8 0)).toArray
theorem aGO(w:World):(Instr.makeSlice 37 (iV 16) (iV 16)).run prog w=.ok (.slice (some (tZ w.heap.size 0)) 16 16) (w.alloc (.cells NH 5)):=by
 have e:madeCells #[Value.int .u8 0] 16=NH:=by kernel_rfl
 rw[<-e];exact run_make_row' (P:=prog) 37 5 (.int .u8 0) 1 underlying37 aEt rfl .i64 .i64 16 (by decide) (by decide) w
section
variable{w w' w0:World}{d sl p:Nat}{has:Bool}{s0 z0 h0:Nat}{L:List (List UInt8)}{l:List ay}
theorem aOh(i:aO)(A:Option Addr)(c:Nat)(h:ae w0 (cH sl d p 0 has s0 z0 h0::dU d (dH L (-1))::l) w)(hs:eX (dH L (-1)))(hp:p<4)(hL:10*p+9<L.length)(hr:uu i=true)(aS2:i.code.length<=111)
(hi:∀W,ae w0 l W->ai W W.heap.size 1 A i.code.length (i.code.map bV))(hlc:i.code.length<=c)(hc:c<=maxLen):
  Calls prog 169 #[.pointer (some (tZ sl 0)),eM i A c] w fun e w'=>e=.returned (iV 0)/\∃L',jr L L' p (49+i.code.length) ((49+i.code.length-1)/16+1) (pI i)/\(pI i).length=49+i.code.length/\ae w0 (cH sl d p 0 true 1 (49+i.code.length) (fP ((49+i.code.length-1)/16+1))::dU d (dH L' (-1))::l) w':=by
 have hA:=h.alloc (.cells #[iV i.part,iV i.ver,iV i.uw,iV i.mem,iV i.fuel,iV i.sends,iV i.uj,.slice A i.code.length c] 39);obtain⟨W,hW,hX⟩:∃W,w.alloc (.cells #[iV i.part,iV i.ver,iV i.uw,iV i.mem,iV i.fuel,iV i.sends,iV i.uj,.slice A i.code.length c] 39)=W/\ak W w.heap.size 39 [iV i.part,iV i.ver,iV i.uw,iV i.mem,iV i.fuel,iV i.sends,iV i.uj,.slice A i.code.length c]:=
  ⟨_,rfl,ak.new w _ [iV i.part,iV i.ver,iV i.uw,iV i.mem,iV i.fuel,iV i.sends,iV i.uj,.slice A i.code.length c]⟩
 rw[hW]at hA;have i1:=hid (aHW i A c W (hi W hA.drop.drop) hlc hc hr);obtain⟨r0,r1,r2,r3,r4,r5,r6,r7⟩:_/\_/\_/\_/\_/\_/\_/\_:=⟨hX.cellAt (i:=0) rfl,hX.cellAt (i:=1) rfl,hX.cellAt (i:=2) rfl,hX.cellAt (i:=3) rfl,hX.cellAt (i:=4) rfl,hX.cellAt (i:=5) rfl,hX.cellAt (i:=6) rfl,hX.cellAt (i:=7) rfl⟩;have HA:=hid hA;unfold eM at i1 ⊢;generalize hb:pI i=b at*
 obtain⟨M,hM⟩:∃M,49+i.code.length=M:=⟨_,rfl⟩;rw[hM]at i1 ⊢;have FT:1<=M/\M<=160:=by omega
 have i2:=hid (fun(l':List ay) W' (h:ae w0 (cH sl d p 0 has s0 z0 h0::dU d (dH L (-1))::l') W')=>aJe h hs hp (by omega) (by omega) 1 M (by omega) FT);have LF:=hid (jr.first (size:=M) b hs hL);have HL:=hid hL;obtain⟨NB,hNB⟩:∃NB,(M-1)/16+1=NB:=⟨_,rfl⟩;rw[hNB];clear h hi hlc hc hr aS2 hA hX hb;go_enter func169,ntmps169;go_wp2_with fail;clear hW;refine i1.out.mono ?_;rintro e w1⟨A1,c1,rfl,yw,hb1⟩;have hbl:b.length=M:=by simpa using(ai.uA yw).len
 have h1:=((HA.out.vJ hb1 yw).zK).pn 3 [1,2,0];have hcc:=nB yw;have HI:=hid (i2.out _ w1 h1);clear yw hb1 HA i1 i2 r0 r1 r2 r3 r4 r5 r6 r7;go_wp2_with fail;refine HI.out.mono ?_;rintro e w2⟨rfl,h2⟩;have h2':ae w0 (cH sl d p 0 true 1 M 0::dU d (dH (sQ L p 0 (je (jV 1 M 0))) (-1))::iI 1 A1 M (b.map bV)::l) w2:=h2;obtain⟨ad,rfl,_,_⟩:=(ae.rd (h2'.at_ 2 rfl)).form (by omega);have H2:=hid h2';clear h2 h2' h1 HI;go_wp2_with fail;go_loopw [8,9,10] (fun v8 _ _ wr=>∃(m:Nat) (L':List (List UInt8)),m<=NB/\v8=iV (m:Int)/\Hid (jr L L' p M m b)/\Hid (ae w0 (cH sl d p 0 true 1 M (fP m)::dU d (dH L' (-1))::iI 1 (some ad) M (b.map bV)::l) wr)) (fun v8 _ _ _=>NB-(Lib.intOf v8).toNat)
 case atStart=>exact⟨0,_,by omega,rfl,LF,H2⟩
 obtain⟨m,L',hm,rfl,Gg,HA⟩:=hrel;by_cases hmn:m<NB
 ·have g1:decide ((m:Int)*16<(M:Int))=true:=decide_eq_true (by omega);have g2:decide (0<=(m:Int)*16)=true:=decide_eq_true (by omega);have hmk:=aGO;have vH:=HA.out.made (T:=5) (xs:=List.replicate 16 (Value.int .u8 0));have vW:=(ae.rd ((HA.out.alloc (.cells NH 5)).at_ 2 rfl)).cut (k:=m*16) (cap:=c1) (by omega) hcc.1;rw[if_neg (by omega),Option.map_some,Nat.mul_one,<-List.map_drop]at vW;have AQ:=aAY (o:=0) (n:=16) (dc:=16) (c:=c1-m*16) (bs:=b.drop (m*16)) vH.blk (by simp;omega) vW (by omega);have etk:(b.drop (m*16)).take (min (M-m*16) 16)=(b.drop (m*16)).take 16:=by
   by_cases GV:16<=M-m*16
   ·rw[Nat.min_eq_right GV]
   ·rw[List.take_of_length_le (by rw[List.length_drop];omega),List.take_of_length_le (by rw[List.length_drop];omega)]
  rw[etk]at AQ;have vN:=vH.setCells (((b.drop (m*16)).take 16).map bV) 0 (by simp;omega);rw[aGS]at vN;have Ah:=((vN.aQo (size:=1) (n:=16) (by rw[List.length_map,aCS]) (by unfold maxLen;omega)).zK).pn 4 [1,2,0,3];obtain⟨W2,hW2⟩:∃W2,(wr.alloc (.cells NH 5)).setCells wr.heap.size 0 (((b.drop (m*16)).take 16).map bV)=W2:=⟨_,rfl⟩;obtain⟨rv,Jg⟩:∃rv,(goInt ((((b.drop (m*16)).take 16).map bV).length:Nat))=rv:=⟨_,rfl⟩;have hcp':(Builtin.copy_ #[37,37] 3 #[.slice (some (tZ wr.heap.size 0)) 16 16,.slice (some (ad.add (m*16))) (M-m*16) (c1-m*16)]).run prog (wr.alloc (.cells NH 5))=.ok rv W2:=by rw[<-hW2,<-Jg];exact AQ
  have wQ:ae w0 (cH sl d p 0 true 1 M (fP m)::dU d (dH L' (-1))::iI 1 (some (tZ wr.heap.size 0)) 16 ((rX b m).map bV)::iI 1 (some ad) M (b.map bV)::l) W2:=by rw[<-hW2];exact Ah
  have h64:=Gg.out.aQO (k:=10*p+3+m/4) (by have:=HL.out;omega);have i3:=hid (aNS m (some (tZ wr.heap.size 0)) 16 (rX b m) (L'.getD (10*p+3+m/4) []) wQ Gg.out.ok hp (by omega) (by omega) FT (by omega) (by have:=Gg.out.len;have:=HL.out;omega) (by have:=Gg.out.len;have:=HL.out;omega) (by rw[show 10*p+(2+0*4+1+m/4)=10*p+3+m/4 by omega];exact h64.2));clear vH vW AQ etk vN Ah hW2 wQ Jg h64;go_wp2_with fail;refine i3.out.mono ?_;rintro e w3⟨rfl,h3⟩;have H3:=hid (h3.pn 4 [0,1,3]);have G0:=hid (Gg.out.step HL.out (by omega));clear h3 i3;go_wp2_with fail;go_roundw;case rel=>exact⟨m+1,_,by omega,by go_num,G0,H3⟩
  case measure=>simp[Lib.intOf];omega
 ·have g1:decide ((m:Int)*16<(M:Int))=false:=decide_eq_false (by omega);obtain rfl:m=NB:=by omega
  go_wp2_with fail;go_ret;exact⟨rfl,L',Gg.out,hbl,HA.out.pn 3 [0,1]⟩
end
def aOY(d p:Nat)(a:qy)(n:Nat):List ay:=[aj a.own 196 (qR (dR a.lg) (dR a.s0) (dR a.s1)),o8 a.lg d p (10*p) (10*p+1) 0 (aQ p),cH a.s0 d p 0 true 1 n (fP ((n-1)/16+1)),cH a.s1 d p 1 false 0 0 0]
def paC(d p:Nat)(a:qy)(n:Nat):ay:=ay.all (aOY d p a n)
def pJ(d:Nat)(xs:List (qy×Nat)):List ay:=xs.mapIdx fun p x=>paC d p x.1 x.2
def lK(b:Nat)(t:aG)(ta:bM)(Al:Option Addr)(n cl:Nat)(os:List Nat):List ay:=
 [aj b 188 (bI t ta++[.slice Al n cl]),aA 164 3 ta.A1 t.parts.length ta.c1 (t.parts.flatMap dK),aA 89 3 ta.A2 t.wins.length ta.c2 (t.wins.flatMap iP),aA 75 3 ta.A3 t.chans.length ta.c3 (t.chans.flatMap fQ),aA 192 1 Al n cl (os.map dR)]
def rQ(b d:Nat)(t:aG)(ta:bM)(Al:Option Addr)(cl:Nat)(xs:List (qy×Nat)):ay:=ay.all (lK b t ta Al xs.length cl (xs.map fun x=>x.1.own)++pJ d xs)
def sU(t:aG):Prop:=t.parts.length<=100000/\t.wins.length<=100000/\t.chans.length<=100000∧-9223372036854775808<=t.frame/\t.frame<=9223372036854775807
theorem dM.nums{w:World}{t:aG}{ta:bM}(h:dM w t ta):sU t:=⟨h.n1,h.n2,h.n3,h.f1,h.f2⟩
section
variable{w w' w0:World}{b d p n cl:Nat}{t:aG}{ta:bM}{Al:Option Addr}{xs:List (qy×Nat)}{l:List ay}{a:qy}
theorem ae.pa(h:ae w0 (paC d p a n::l) w):Kw w d p a n:=by
 have h1:=h.xI;exact⟨(h1.at_ 0 rfl).blk,(h1.at_ 1 rfl).blk,(h1.at_ 2 rfl).blk,(h1.at_ 3 rfl).blk⟩
theorem ae.sto(h:ae w0 (rQ b d t ta Al cl xs::l) w)(hN:sU t):nN w b d t ta Al cl (xs.map Prod.fst) (xs.map Prod.snd):=by
 have h1:=h.xI;rw[List.append_assoc]at h1;refine⟨?_,⟨⟨((h1.at_ 1 rfl).uT).Es (fun _=>rfl),((h1.at_ 2 rfl).uT).Es (fun _=>rfl),((h1.at_ 3 rfl).uT).Es (fun _=>rfl)⟩,hN.1,hN.2.1,hN.2.2.1,hN.2.2.2.1,hN.2.2.2.2⟩,?_,fun p a n ha hn=>?_⟩
 ·have:=(h1.at_ 0 rfl).blk;rwa[List.length_map]
 ·have:=(h1.at_ 4 rfl).uT;rw[List.length_map];rw[List.map_map]at this ⊢;exact this
 ·have h2:ae w0 (pJ d xs++l) w:=h1.tail;have hx:xs[p]? =some (a,n):=by
   rw[List.getElem?_map]at ha hn;cases hp:xs[p]? with
   |none=>simp[hp]at ha
   |some x=>
    rw[hp]at ha hn;simp only[Option.map_some,Option.some.injEq]at ha hn;rw[<-ha,<-hn]
  have h3:(pJ d xs)[p]? =some (paC d p a n):=by
   unfold pJ;rw[List.getElem?_mapIdx,hx];rfl
  have hl:p<(pJ d xs).length:=(List.getElem?_eq_some_iff.1 h3).1;exact(h2.at_ p (by rw[List.getElem?_append_left hl];exact h3)).pa
theorem aG1(d:Nat)(xs:List (qy×Nat))(a:qy)(n:Nat):pJ d (xs++[(a,n)])=pJ d xs++[paC d xs.length a n]:=by
 unfold pJ;rw[List.mapIdx_concat]
end
section
variable{w w' w0:World}{t:aG}{ta:bM}{l:List ay}{B:Nat}
theorem ae.aQe(h:ae w0 l w)(hb:Below w.heap.size w w')(ho:ny w' w.heap.size t ta):
  ae w0 (aA 164 3 ta.A1 t.parts.length ta.c1 (t.parts.flatMap dK)::aA 89 3 ta.A2 t.wins.length ta.c2 (t.wins.flatMap iP)::aA 75 3 ta.A3 t.chans.length ta.c3 (t.chans.flatMap fQ)::l) w':=by
 have k1:(aA 164 3 ta.A1 t.parts.length ta.c1 (t.parts.flatMap dK)).p w' (bH ta.A1):=⟨bh ho.o1 (Nat.zero_le _),fun _=>Iff.rfl⟩;have k2:(aA 89 3 ta.A2 t.wins.length ta.c2 (t.wins.flatMap iP)).p w' (bH ta.A2):=⟨bh ho.o2 (Nat.zero_le _),fun _=>Iff.rfl⟩;have k3:(aA 75 3 ta.A3 t.chans.length ta.c3 (t.chans.flatMap fQ)).p w' (bH ta.A3):=⟨bh ho.o3 (Nat.zero_le _),fun _=>Iff.rfl⟩;have s23:=dX.two k2 k3 ho.d23;have s123:=dX.app (dX.one k1) s23 (fun b h1 h2=>h2.elim (ho.d12 b h1) (ho.d13 b h1));exact(h.push hb (C:=ay.all [aA 164 3 ta.A1 t.parts.length ta.c1 (t.parts.flatMap dK),aA 89 3 ta.A2 t.wins.length ta.c2 (t.wins.flatMap iP),aA 75 3 ta.A3 t.chans.length ta.c3 (t.chans.flatMap fQ)]) (F1:=fun b=>bH ta.A1 b\/bH ta.A2 b\/bH ta.A3 b) s123 fun b hb=>hb.elim (fun h1=>(aH ho.o1 h1).1) (fun h1=>h1.elim (fun h1=>(aH ho.o2 h1).1) (fun h1=>(aH ho.o3 h1).1))).xI
theorem aKA(hT:dM w t ta)(hr:aS t=true)(hlen:(mM t).length<=1000000):
  Calls prog 119 #[gU t ta] w fun e w'=>∃wK,e=.returned (gU t wK)/\ny w' w.heap.size t wK/\Below w.heap.size w w':=by
 obtain⟨W,hW,hX,hY,hb⟩:∃W,(w.alloc (.cells (bI t ta).toArray 26)).alloc (.cells (bI lD ⟨none,0,none,0,none,0⟩).toArray 26)=W/\ak W w.heap.size 26 (bI t ta)/\ak W (w.heap.size+1) 26 (bI lD ⟨none,0,none,0,none,0⟩)/\Below w.heap.size w W:=
  ⟨_,rfl,(ak.new w _ _).belowS (ah _ _),by have:=ak.new (w.alloc (.cells (bI t ta).toArray 26)) 26 (bI lD ⟨none,0,none,0,none,0⟩);rwa[World.size_alloc]at this,((Below.refl _ _).alloc (Nat.le_refl _) _).alloc (by rw[World.size_alloc];omega) _⟩
 have i1:=hid (aP7 t ta W (hT.belowS hb) hr);have HP:=hid (aK7 t hr);generalize mM t=bs at i1 HP hlen;generalize hbn:bs.length=bn at i1 hlen;obtain⟨t0,t1,t2,t3,t4⟩:=t;have c0:W.cell? (tZ w.heap.size 0)=some (iV t0):=hX.cellAt rfl;have c1:W.cell? (tZ w.heap.size 1)=some (.slice ta.A1 t1.length ta.c1):=hX.cellAt rfl;have c2:W.cell? (tZ w.heap.size 2)=some (.slice ta.A2 t2.length ta.c2):=hX.cellAt rfl;have c3:W.cell? (tZ w.heap.size 3)=some (.slice ta.A3 t3.length ta.c3):=hX.cellAt rfl;have c4:W.cell? (tZ w.heap.size 4)=some (iV t4):=hX.cellAt rfl;have HX:=hid hX;have HY:=hid hY;have HB:=hid hb;unfold gU;simp only[bI,iV,lD,List.length_nil]at hW;dsimp only at i1 ⊢;clear hT hr hX hY hb;go_enter func119,ntmps119;go_wp2_with fail;refine i1.out.mono ?_;rintro e w1⟨A1,c1',rfl,yw,hb1⟩;have yj:=hid (HX.out.belowS hb1);have HY1:=hid (HY.out.belowS hb1);have vw:=hid (ag HB.out hb1);have i2:=hid (aNd A1 bn c1' bs w1 (ai.uA yw) hlen);unfold aIC at i2;rw[HP.out]at i2;dsimp only at i2;clear hW c0 c1 c2 c3 c4 HX HY HB yw hb1 i1 HP;go_wp2_with fail;refine i2.out.mono ?_;rintro e w2⟨a,rfl,hO,hb2⟩;have vh:=yj.out.belowS hb2;have hY2:=HY1.out.belowS hb2;obtain⟨z0,z1,z2,z3,z4⟩:_/\_/\_/\_/\_:=⟨vh.cellAt (i:=0) rfl,vh.cellAt (i:=1) rfl,vh.cellAt (i:=2) rfl,vh.cellAt (i:=3) rfl,vh.cellAt (i:=4) rfl⟩;have zf:=vh.frozen;have DU:=hid (show w.heap.size+1<w1.heap.size from HY1.out.lt);have vV:=hid vh;have HY2:=hid hY2
 have HO:=hid hO;have uz:=hid (ag vw.out hb2);clear vh hY2 hO hb2 yj HY1 vw i2 hlen;simp only[iV]at z0 z1 z2 z3 z4;have kw:=KL vV.out rfl (iV t0) (.slice a.A1 t1.length a.c1) (.slice a.A2 t2.length a.c2) (.slice a.A3 t3.length a.c3) (iV t4);unfold iV at kw;obtain⟨w3,hw3,hb3,hk3,hr3⟩:=kw;have hY3:ak w3 (w.heap.size+1) 26 _:=(hk3 _ (by omega)).trans HY2.out;have BH:=hid hr3;have Jk:=hid hY3;have HK3:=hid hk3;have vk:=hid hb3;clear hb3 hk3 hr3 hY3;have x0:w3.cell? (tZ w.heap.size 0)=some (iV t0):=BH.out.cellAt rfl;have x1:w3.cell? (tZ w.heap.size 1)=some (.slice a.A1 t1.length a.c1):=BH.out.cellAt rfl;have x2:w3.cell? (tZ w.heap.size 2)=some (.slice a.A2 t2.length a.c2):=BH.out.cellAt rfl;have x3:w3.cell? (tZ w.heap.size 3)=some (.slice a.A3 t3.length a.c3):=BH.out.cellAt rfl;have x4:w3.cell? (tZ w.heap.size 4)=some (iV t4):=BH.out.cellAt rfl;have y0:w3.cell? (tZ (w.heap.size+1) 0)=some (iV 0):=Jk.out.cellAt rfl;have y1:w3.cell? (tZ (w.heap.size+1) 1)=some (.slice none 0 0):=Jk.out.cellAt rfl;have y2:w3.cell? (tZ (w.heap.size+1) 2)=some (.slice none 0 0):=Jk.out.cellAt rfl;have y3:w3.cell? (tZ (w.heap.size+1) 3)=some (.slice none 0 0):=Jk.out.cellAt rfl;have y4:w3.cell? (tZ (w.heap.size+1) 4)=some (iV 0):=Jk.out.cellAt rfl;have yf:=Jk.out.frozen;go_wp2_with fail;have kq:=KL Jk.out rfl (iV t0) (.slice a.A1 t1.length a.c1) (.slice a.A2 t2.length a.c2) (.slice a.A3 t3.length a.c3) (iV t4);unfold iV at kq
 obtain⟨w4,hw4,hb4,hk4,hr4⟩:=kq;rw[hw4];clear hw4 x0 x1 x2 x3 x4 y0 y1 y2 y3 y4 yf;have r0:w4.cell? (tZ (w.heap.size+1) 0)=some (iV t0):=hr4.cellAt rfl;have r1:w4.cell? (tZ (w.heap.size+1) 1)=some (.slice a.A1 t1.length a.c1):=hr4.cellAt rfl;have r2:w4.cell? (tZ (w.heap.size+1) 2)=some (.slice a.A2 t2.length a.c2):=hr4.cellAt rfl;have r3:w4.cell? (tZ (w.heap.size+1) 3)=some (.slice a.A3 t3.length a.c3):=hr4.cellAt rfl;have r4:w4.cell? (tZ (w.heap.size+1) 4)=some (iV t4):=hr4.cellAt rfl;have hkk:∀x,w1.heap.size<=x->w4.heap[x]? =w2.heap[x]? :=fun x hx=>by
  have:=DU.out;rw[hk4 x (by omega),HK3.out x (by omega)]
 refine bodyPost_ret (v:=.agg #[iV t0,.slice a.A1 t1.length a.c1,.slice a.A2 t2.length a.c2,.slice a.A3 t3.length a.c3,iV t4]) (by simp[results,results119,go_sem,r0,r1,r2,r3,r4]) rfl ?_;have ho:=HO.out;have hq:=DU.out;exact⟨a,rfl,⟨bh (bu ho.o1 fun b hb=>hkk b (aH ho.o1 hb).1) (by omega),bh (bu ho.o2 fun b hb=>hkk b (aH ho.o2 hb).1) (by omega),bh (bu ho.o3 fun b hb=>hkk b (aH ho.o3 hb).1) (by omega),ho.d12,ho.d13,ho.d23⟩,uz.out.trans ((vk.out).trans (hb4.mono (by omega)))⟩
end
theorem aDl{L L':List (List UInt8)}{base n:Nat}(hn:n<=192)(h:∀j,j<3->L'[base+j]? =L[base+j]?):kX L' base n=kX L base n:=by
 unfold kX;refine List.map_congr_left fun j hj=>?_
 rw[List.mem_range]at hj;unfold mW;rw[List.getD_eq_getElem?_getD (l:=L'),List.getD_eq_getElem?_getD (l:=L),h (j/64) (by omega)]
theorem oO.same{L L':List (List UInt8)}{p:Nat}{i:aO}(h:oO L p i)(hc:i.code.length<=111)(hs:∀j,j<10->L'[10*p+j]? =L[10*p+j]?):oO L' p i:=by
 refine⟨?_,?_,?_,?_,?_⟩
 ·have:=hs 0 (by omega);rw[Nat.add_zero]at this;rw[this,h.r0]
 ·rw[hs 1 (by omega),h.r1]
 ·rw[hs 2 (by omega),h.s0]
 ·rw[hs 6 (by omega),h.s1]
 ·rw[<-h.dt];refine aDl (by omega) fun j hj=>?_
  rw[show 10*p+3+j=10*p+(3+j) by omega];exact hs _ (by omega)
structure pG (L0 L:List (List UInt8)) (k:Nat) (is:List aO):Prop where
 ok:eX (dH L (-1))
 len:L.length=L0.length
 has:∀p i,p<k->is[p]? =some i->oO L p i
 rest:∀j,10*k<=j->j<L0.length->L[j]? =some (List.replicate 64 (0:UInt8))
theorem pG.first{L0:List (List UInt8)}{is:List aO}(h:eX (dH L0 (-1)))(hz:∀k,k<L0.length->L0[k]? =some (List.replicate 64 (0:UInt8))):pG L0 L0 0 is:=
 ⟨h,rfl,fun p i hp=>by omega,fun j _ hj=>hz j hj⟩
theorem pG.step{L0 L L2:List (List UInt8)}{k:Nat}{is:List aO}{i:aO}(h:pG L0 L k is)(hi:is[k]? =some i)(hc:∀x∈is,x.code.length<=111)(hL:10*(k+1)<=L0.length)
(h2:jr L L2 k (49+i.code.length) ((49+i.code.length-1)/16+1) (pI i))(hl:(pI i).length=49+i.code.length):
  pG L0 ((L2.set (10*k+1) gm).set (10*k) (iM (aQ k))) (k+1) is:=by
 have hlen:=h2.len;have hlen0:=h.len;have hz:∀j,10*k<=j->j<L0.length->L[j]? =some (List.replicate 64 (0:UInt8)):=h.rest;have CX:∀j,j≠10*k->j≠10*k+1->((L2.set (10*k+1) gm).set (10*k) (iM (aQ k)))[j]? =L2[j]? :=fun j h1 h3=>by
  rw[List.getElem?_set_ne (by omega),List.getElem?_set_ne (by omega)]
 refine⟨gZ (gZ h2.ok (by unfold gm;simp)) (aD0 _),by simp only[List.length_set];omega,fun p x hp hx=>?_,fun j hj D7=>?_⟩
 ·by_cases hpk:p=k
  ·subst hpk;rw[hi]at hx;injection hx with hx
   subst hx;refine⟨?_,?_,?_,?_,?_⟩
   ·rw[List.getElem?_set_self (by rw[List.length_set];omega)]
   ·rw[List.getElem?_set_ne (by omega),List.getElem?_set_self (by omega)];rfl
   ·rw[CX _ (by omega) (by omega),h2.st]
   ·rw[CX _ (by omega) (by omega),h2.far _ (by omega),hz _ (by omega) (by omega)]
   ·rw[<-h2.all hl (by omega)];have:=hc _ (List.mem_of_getElem? hi);exact aDl (by omega) fun j hj=>CX _ (by omega) (by omega)
  ·refine(h.has p x (by omega) hx).same (hc x (List.mem_of_getElem? hx)) fun j hj=>?_
   rw[CX _ (by omega) (by omega),h2.far _ (by omega)]
 ·rw[CX _ (by omega) (by omega),h2.far _ (by omega),hz _ (by omega) D7]
theorem gX{P:Program}(w:World){ops:Array Oper}{rest:List Oper}{o:Oper}{a:Act}{Q:Exit->Act->World->Prop}(hgd:o.guard=none)(s x:Operand)(t:TypeId)
(ho:o.op=.call {callee:=.builtin .append,args:= #[s,x],argTypes:= #[t,t]})
(e:TypeId)(i:TypeInfo)(z:Value)(size bytes:Nat)(ht:P.underlying t=some (.slice e))(hi:P.info? e=some i)(hz:i.zero=some z)
(hsize:i.size=size)(hby:i.bytes=bytes)(hzs:z.cells.size=size)(hsz:0<size)
(v:Value)(n:Nat)(xs:List Value)(hs:a.eval s=v)(hown:w.ownsRow 0 e size v n xs)
(B:Nat)(A:Option Addr)(m c:Nat)(news:List Value)(hx:a.eval x=.slice A m c)(hr:ai w B size A m news)(h1:∀u∈news,u.oneCell'=true)
(h63:n+m<=maxLen)(hbytes:(n+m)*bytes<=140737488355328)(N:Nat)(hN:n+m=N)
(h:∀A' c' w',w'.ownsRow 0 e size (.slice A' N c') N (xs++news)->w.grownBy w' v.ownBlock->((Value.slice A' N c').ownBlock=v.ownBlock\/(Value.slice A' N c').ownBlock=some w.heap.size)->wpList P ops Q rest (a.put o.dst (.slice A' N c')) w'):wpList P ops Q (o::rest) a w:=by
 subst hN;exact wpList_plain hgd fun _ hK=>Jw w s x t ho 0 e i z size bytes ht hi hz hsize hby hzs hsz v n xs hs hown B A m c news hx hr h1 h63 hbytes (Nat.zero_le _) fun A' c' w' h2 h3 h4=>hK _ _ (h A' c' w' h2 h3 h4)
theorem aEx:(prog.info? 192).map (fun i=>(i.zero,i.size,i.bytes))=some (some (.pointer none),1,8):=by kernel_rfl
structure fD where
 p:aO
 A:Option Addr
 c:Nat
def gQ(x:fD):List Value:=qG x.p x.A x.c
structure pz (W:World) (AI:Option Addr) (li:List fD):Prop where
 rd:lh W W.heap.size 8 AI li.length gQ li
 im:∀x∈li,ai W W.heap.size 1 x.A x.p.code.length (x.p.code.map bV)/\x.p.code.length<=x.c/\x.c<=maxLen
theorem NW{t:aG}{p v:Int}{i:aO}(h:fG t p i v=0):uu i=true:=by
 unfold fG at h;by_cases h1:aS t=false
 ·rw[if_pos h1]at h;cases h
 ·rw[if_neg h1]at h;by_cases h2:gG t p=false\/uu i=false
  ·rw[if_pos h2]at h;cases h
  ·cases hr:uu i with
   |true=>rfl
   |false=>exact absurd (.inr hr) h2
theorem aC5{i:aO}(h:uu i=true):i.code.length<=111:=by
 have:=((eQ i).1 h).2.2.2.2.2.2.2.2;omega
theorem ae.toEnd{w w0:World}{C:ay}{H R l:List ay}(h:ae w0 (C::(H++(R++l))) w):ae w0 (H++((R++[C])++l)) w:=h.perm (by
 have e1:C::(H++(R++l))=C::((H++R)++l):=by simp
 have e2:H++((R++[C])++l)=(H++R)++C::l:=by simp
 rw[e1,e2];exact List.perm_middle.symm)
structure aO5 (w0:World) (l:List ay) (d tb:Nat) (t:aG) (ta:bM) (b:Nat) (wK:bM) (L:List (List UInt8)) (is:List aO) (k:Nat) (Al:Option Addr) (cl:Nat) (xs:List (qy×Nat)) (L':List (List UInt8)) (wr:World):Prop where
 len:xs.length=k
 ns:xs.map Prod.snd=(is.take k).map fun i=>49+i.code.length
 dk:pG L L' k is
 all:ae w0 (dU d (dH L' (-1))::aj tb 26 (bI t ta)::(lK b t wK Al k cl (xs.map fun x=>x.1.own)++(pJ d xs++l))) wr
section
variable{w w' w0:World}{d cI:Nat}{AI:Option Addr}{L:List (List UInt8)}{t:aG}{ta:bM}{li:List fD}{l:List ay}
theorem aOW(h:ae w0 (dU d (dH L (-1))::l) w)(hs:eX (dH L (-1)))(hT:∀W,ae w0 l W->dM W t ta)(hI:∀W,ae w0 l W->pz W AI li)(hr:aS t=true)(zk:1<=t.parts.length/\t.parts.length<=4)(hn:li.length=t.parts.length)
(hL:10*t.parts.length<=L.length)(hz:∀k,k<L.length->L[k]? =some (List.replicate 64 (0:UInt8)))(hE:∀(p:Nat)(x:fD),li[p]? =some x->fG t (p:Int) x.p 0=0)(hlen:(mM t).length<=1000000):
  Calls prog 102 #[.pointer (some (tZ d 0)),gU t ta,.slice AI li.length cI] w fun e w'=>∃b wK Al cl xs L',e=.returned (.tuple #[.pointer (some (tZ b 0)),iV 0])/\ae w0 (rQ b d t wK Al cl xs::dU d (dH L' (-1))::l) w'/\
   xs.map Prod.snd=li.map (fun x=>49+x.p.code.length)/\eX (dH L' (-1))/\L'.length=L.length/\∀(p:Nat)(x:fD),li[p]? =some x->oO L' p x.p:=by
 have hA:=h.made (T:=26) (xs:=bI t ta);obtain⟨W,hW⟩:∃W,w.alloc (.cells (bI t ta).toArray 26)=W:=⟨_,rfl⟩;rw[hW]at hA;obtain⟨tb,NY⟩:∃tb,w.heap.size=tb:=⟨_,rfl⟩;rw[NY]at hA;obtain⟨gl,Ad,ca,hro⟩:=(hA.at_ 1 rfl).zS;have i1:=hid (aCY hro (hT W hA.drop.drop) hr zk.1 zk.2 hL);have HI:=hid hI;have HT:=hid hT;have aRe:Hid (∀x∈li.map fD.p,x.code.length<=111):=hid fun x hx=>by
  obtain⟨y,hy,rfl⟩:=List.mem_map.1 hx;obtain⟨q,hq⟩:=List.getElem?_of_mem hy;exact aC5 (NW (hE q y hq))
 obtain⟨i0,hi0,hz0,hz1,hz2⟩:=info_parts aEx;have HE:=hid hE;have i2:=hid (fun W' (hb:ae w0 l W')=>aKA (hT W' hb) hr hlen);have HZ:=hid hz;have KO:=hid hL;have C0:=hid zk;have HN:=hid hn;have HS:=hid hs;have HA:=hid hA;have HC:Hid (∀(W':World)(l':List ay)(_:ae w0 (aj tb 26 (bI t ta)::l') W'),W'.cell? (tZ tb 0)=some (iV t.frame)/\W'.cell? (tZ tb 1)=some (.slice ta.A1 t.parts.length ta.c1)/\W'.cell? (tZ tb 2)=some (.slice ta.A2 t.wins.length ta.c2)/\W'.cell? (tZ tb 3)=some (.slice ta.A3 t.chans.length ta.c3)/\W'.cell? (tZ tb 4)=some (iV t.trial)):=hid fun W' l' hB=>⟨hB.blk.cellAt (i:=0) rfl,hB.blk.cellAt (i:=1) rfl,hB.blk.cellAt (i:=2) rfl,hB.blk.cellAt (i:=3) rfl,hB.blk.cellAt (i:=4) rfl⟩
 obtain⟨c0,c1,c2,c3,c4⟩:=HC.out _ _ hA;have hcmp:True:=trivial;have hW9:=hid hW;simp only[bI]at hW;unfold gU at i1 i2 ⊢;clear h hA hI hT hE hz hL zk hs hlen hr hro;go_enter func102,ntmps102;go_wp2_with fail;clear hW;refine i1.out.mono ?_;rintro e w1⟨rfl,hb1⟩;have xY:=hid (HA.out.belowS hb1);obtain⟨d0,d1,d2,d3,d4⟩:=HC.out _ _ xY.out;have aTx:(((t.parts.length:Int)) !=(t.parts.length:Int))=false:=by simp
 rw[HN.out];clear c0 c1 c2 c3 c4 hb1 i1 hn hcmp;go_wp2_with fail;clear d0 d1 d2 d3 d4 aTx;go_loopw [9,10,11,34] (fun _ _ _ v34 wr=>∃(k:Nat),k<=t.parts.length/\v34=iV (k:Int)/\Hid (ae w0 (aj tb 26 (bI t ta)::dU d (dH L (-1))::l) wr)) (fun _ _ _ v34 _=>t.parts.length-(Lib.intOf v34).toNat)
 case atStart=>exact⟨0,by omega,rfl,xY⟩
 obtain⟨k,hk,rfl,KP⟩:=hrel;by_cases hkn:k<t.parts.length
 ·have KQ:=HI.out _ KP.out.drop.drop;obtain⟨ad,x,rfl,_,hx,hc0,hc⟩:=KQ.rd.at_ (k:=k) (by rw[HN.out];exact hkn);have hxi:=KQ.im _ (List.mem_of_getElem? hx);have NZ:=HE.out k _ hx;obtain⟨⟨p0,p1,p2,p3,p4,p5,p6,code⟩,Ax,cx⟩:=x;have e0:wr.cell? (ad.add (k*8))=some (iV p0):=hc0 _ rfl;have e1:wr.cell? (tZ ((ad.add (k*8)).block) ((ad.add (k*8)).off+1))=some (iV p1):=hc 0 _ rfl;have e2:wr.cell? (tZ ((ad.add (k*8)).block) ((ad.add (k*8)).off+2))=some (iV p2):=hc 1 _ rfl;have e3:wr.cell? (tZ ((ad.add (k*8)).block) ((ad.add (k*8)).off+3))=some (iV p3):=hc 2 _ rfl;have e4:wr.cell? (tZ ((ad.add (k*8)).block) ((ad.add (k*8)).off+4))=some (iV p4):=hc 3 _ rfl;have e5:wr.cell? (tZ ((ad.add (k*8)).block) ((ad.add (k*8)).off+5))=some (iV p5):=hc 4 _ rfl;have e6:wr.cell? (tZ ((ad.add (k*8)).block) ((ad.add (k*8)).off+6))=some (iV p6):=hc 5 _ rfl;have e7:wr.cell? (tZ ((ad.add (k*8)).block) ((ad.add (k*8)).off+7))=some (.slice Ax code.length cx):=hc 6 _ rfl;have hk4:k<4:=by have:=C0.out;omega
  have q1:(0:Int)<=(k:Int):=Int.natCast_nonneg _;have q2:(k:Int)<(t.parts.length:Int):=by omega
  have hM:=KP.out.made (T:=39) (xs:=[iV p0,iV p1,iV p2,iV p3,iV p4,iV p5,iV p6,.slice Ax code.length cx]);obtain⟨w2,hw2⟩:∃w2,wr.alloc (.cells #[iV p0,iV p1,iV p2,iV p3,iV p4,iV p5,iV p6,.slice Ax code.length cx] 39)=w2:=⟨_,rfl⟩;have Bg:ae w0 (aj wr.heap.size 39 [iV p0,iV p1,iV p2,iV p3,iV p4,iV p5,iV p6,.slice Ax code.length cx]::aj tb 26 (bI t ta)::dU d (dH L (-1))::l) w2:=by rw[<-hw2];exact hM
  obtain⟨d0,d1,d2,d3,d4⟩:=HC.out _ _ Bg.drop;have g0:w2.cell? (tZ wr.heap.size 0)=some (iV p0):=Bg.blk.cellAt rfl;have g1:w2.cell? (tZ wr.heap.size 1)=some (iV p1):=Bg.blk.cellAt rfl;have g2:w2.cell? (tZ wr.heap.size 2)=some (iV p2):=Bg.blk.cellAt rfl;have g3:w2.cell? (tZ wr.heap.size 3)=some (iV p3):=Bg.blk.cellAt rfl;have g4:w2.cell? (tZ wr.heap.size 4)=some (iV p4):=Bg.blk.cellAt rfl;have g5:w2.cell? (tZ wr.heap.size 5)=some (iV p5):=Bg.blk.cellAt rfl;have g6:w2.cell? (tZ wr.heap.size 6)=some (iV p6):=Bg.blk.cellAt rfl;have g7:w2.cell? (tZ wr.heap.size 7)=some (.slice Ax code.length cx):=Bg.blk.cellAt rfl;have i3:=hid (aEg t ta k ⟨p0,p1,p2,p3,p4,p5,p6,code⟩ Ax cx 0 w2 (HT.out _ Bg.drop.drop.drop) (Nat.le_trans hxi.2.1 hxi.2.2));rw[NZ]at i3;unfold gU eM at i3;have JH:=hid Bg;clear KQ hx hc0 hc hxi NZ hM Bg;go_wp2_with fail;refine i3.out.mono ?_;rintro e w3⟨rfl,hb3⟩;have vS:=hid (JH.out.drop.belowS hb3);clear hb3 JH i3 e0 e1 e2 e3 e4 e5 e6 e7 d0 d1 d2 d3 d4 g0 g1 g2 g3 g4 g5 g6 g7 hw2;go_wp2_with fail;go_roundw;case rel=>exact⟨k+1,by omega,by go_num,vS⟩
  case measure=>simp[Lib.intOf];omega
 ·obtain rfl:k=t.parts.length:=by omega
  obtain⟨d0,d1,d2,d3,d4⟩:=HC.out _ _ KP.out;have i3:=hid (i2.out _ KP.out.drop.drop);clear hk hkn xY i2;go_wp2_with fail;refine i3.out.mono ?_;rintro e w3⟨wK,rfl,hO,hb3⟩;have Ah:=KP.out.aQe hb3 hO;have wQ:=(Ah.uX 192 1).made (T:=188) (xs:=bI t wK++[Value.slice none 0 0]);obtain⟨w4,hw4⟩:∃w4,w3.alloc (.cells (bI t wK++[Value.slice none 0 0]).toArray 188)=w4:=⟨_,rfl⟩;rw[hw4]at wQ;have EY:=hid (wQ.pn 7 [6,5,0,2,3,4,1]);simp only[bI,iV,List.cons_append,List.nil_append]at hw4;clear Ah wQ hO hb3 i3 d0 d1 d2 d3 d4 KP;go_wp2_with fail;have Ag:Hid (aO5 w0 l d tb t ta w3.heap.size wK L (li.map fD.p) 0 none 0 [] L w4):=hid ⟨rfl,by simp,pG.first HS.out HZ.out,EY.out⟩;clear hw4 EY;generalize w3.heap.size=sb at*
  go_loopw [13,14,15,16,17,18,19,53] (fun _ _ _ _ _ _ _ v53 wr=>∃(k:Nat) (Al:Option Addr) (cl:Nat) (xs:List (qy×Nat)) (L':List (List UInt8)),k<=t.parts.length/\v53=iV (k:Int)/\Hid (aO5 w0 l d tb t ta sb wK L (li.map fD.p) k Al cl xs L' wr)) (fun _ _ _ _ _ _ _ v53 _=>t.parts.length-(Lib.intOf v53).toNat)
  case atStart=>exact⟨0,none,0,[],L,by omega,rfl,Ag⟩
  clear Ag;obtain⟨k,Al,cl,xs,L',hk,rfl,HR⟩:=hrel;by_cases hkn:k<t.parts.length
  ·have hR:=HR.out;have hk4:k<4:=by have:=C0.out;omega
   have aS5:10*(k+1)<=L.length:=by have:=KO.out;omega
   have hLL:=hR.dk.len;have KQ:=HI.out _ hR.all.drop.drop.tail.tail;obtain⟨ad,x,rfl,_,hx,hc0,hc⟩:=KQ.rd.at_ (k:=k) (by rw[HN.out];exact hkn);have NZ:=HE.out k _ hx;have KT:(li.map fD.p)[k]? =some x.p:=by rw[List.getElem?_map,hx];rfl
   have N7:=List.mem_of_getElem? hx;obtain⟨⟨p0,p1,p2,p3,p4,p5,p6,code⟩,Ax,cx⟩:=x;have e0:wr.cell? (ad.add (k*8))=some (iV p0):=hc0 _ rfl;have e1:wr.cell? (tZ ((ad.add (k*8)).block) ((ad.add (k*8)).off+1))=some (iV p1):=hc 0 _ rfl;have e2:wr.cell? (tZ ((ad.add (k*8)).block) ((ad.add (k*8)).off+2))=some (iV p2):=hc 1 _ rfl;have e3:wr.cell? (tZ ((ad.add (k*8)).block) ((ad.add (k*8)).off+3))=some (iV p3):=hc 2 _ rfl;have e4:wr.cell? (tZ ((ad.add (k*8)).block) ((ad.add (k*8)).off+4))=some (iV p4):=hc 3 _ rfl;have e5:wr.cell? (tZ ((ad.add (k*8)).block) ((ad.add (k*8)).off+5))=some (iV p5):=hc 4 _ rfl;have e6:wr.cell? (tZ ((ad.add (k*8)).block) ((ad.add (k*8)).off+6))=some (iV p6):=hc 5 _ rfl;have e7:wr.cell? (tZ ((ad.add (k*8)).block) ((ad.add (k*8)).off+7))=some (.slice Ax code.length cx):=hc 6 _ rfl;have q1:(0:Int)<=(k:Int):=Int.natCast_nonneg _;have q2:(k:Int)<(t.parts.length:Int):=by omega
   obtain⟨w2,hw2⟩:∃w2,wr.alloc (.cells #[iV p0,iV p1,iV p2,iV p3,iV p4,iV p5,iV p6,.slice Ax code.length cx] 39)=w2:=⟨_,rfl⟩;have Bg:ae w0 (aj wr.heap.size 39 [iV p0,iV p1,iV p2,iV p3,iV p4,iV p5,iV p6,.slice Ax code.length cx]::dU d (dH L' (-1))::aj tb 26 (bI t ta)::(lK sb t wK Al k cl (xs.map fun x=>x.1.own)++(pJ d xs++l))) w2:=by
    rw[<-hw2];exact hR.all.made (T:=39) (xs:=[iV p0,iV p1,iV p2,iV p3,iV p4,iV p5,iV p6,.slice Ax code.length cx])
   obtain⟨w3,hw3⟩:∃w3,w2.alloc (.cells #[.pointer none,.pointer none,.pointer none] 196)=w3:=⟨_,rfl⟩;have hM3:ae w0 (aj w2.heap.size 196 (qR (.pointer none) (.pointer none) (.pointer none))::aj wr.heap.size 39 [iV p0,iV p1,iV p2,iV p3,iV p4,iV p5,iV p6,.slice Ax code.length cx]::dU d (dH L' (-1))::aj tb 26 (bI t ta)::(lK sb t wK Al k cl (xs.map fun x=>x.1.own)++(pJ d xs++l))) w3:=by
    rw[<-hw3];exact Bg.made (T:=196) (xs:=qR (.pointer none) (.pointer none) (.pointer none))
   have h64:=hR.dk.ok.laid;have i4:=hid (aE9 (d:=d) (p:=k) (S0:=iU d k 0 false 0 0 0) (S1:=iU d k 1 false 0 0 0) hM3
    (fun W hW=>by obtain⟨gl,A,ca,hro⟩:=(hW.at_ 1 rfl).zS;exact aAK hro h64 hk4 (by omega) (by omega) (hR.dk.rest _ (by omega) (by omega)))
    (fun W hW=>by obtain⟨gl,A,ca,hro⟩:=(hW.at_ 1 rfl).zS;exact aAK hro h64 hk4 (by omega) (by omega) (hR.dk.rest _ (by omega) (by omega))))
   have hrI:uu ⟨p0,p1,p2,p3,p4,p5,p6,code⟩=true:=NW NZ;have aS2:code.length<=111:=aC5 hrI;have HXM:=hid N7;have i5:Hid (∀(l2:List ay)(yZ:Nat)(W:World),ae w0 (cH yZ d k 0 false 0 0 0::dU d (dH L' (-1))::(l2++(lK sb t wK Al k cl (xs.map fun x=>x.1.own)++(pJ d xs++l)))) W->_):=hid (fun l2 yZ W h=>aOh ⟨p0,p1,p2,p3,p4,p5,p6,code⟩ Ax cx h hR.dk.ok hk4 (by omega) hrI aS2 (fun W' hW'=>((HI.out W' hW'.tail.tail.tail).im _ HXM.out).1) ((HI.out W h.drop.drop.tail.tail.tail).im _ HXM.out).2.1 ((HI.out W h.drop.drop.tail.tail.tail).im _ HXM.out).2.2);unfold eM at i5;dsimp only at i5;have HXP:=hid KT;clear hR KQ hx hc0 hc NZ KT N7 Bg hM3 h64 hrI;go_wp2_with fail;refine i4.out.mono ?_;rintro e w4⟨yZ,Aw,rfl,h4⟩;have h4':ae w0 (cH yZ d k 0 false 0 0 0::dU d (dH L' (-1))::([aj w2.heap.size 196 (qR (.pointer none) (.pointer (some (tZ yZ 0))) (.pointer (some (tZ Aw 0)))),aj Aw 390 (iU d k 1 false 0 0 0),aj wr.heap.size 39 [iV p0,iV p1,iV p2,iV p3,iV p4,iV p5,iV p6,.slice Ax code.length cx],aj tb 26 (bI t ta)]++(lK sb t wK Al k cl (xs.map fun x=>x.1.own)++(pJ d xs++l)))) w4:=h4.pn 6 [1,4,0,2,3,5]
   have HQ:Hid (∀(w':World)(C D:ay),ae w0 (C::D::([aj w2.heap.size 196 (qR (.pointer none) (.pointer (some (tZ yZ 0))) (.pointer (some (tZ Aw 0)))),aj Aw 390 (iU d k 1 false 0 0 0),aj wr.heap.size 39 [iV p0,iV p1,iV p2,iV p3,iV p4,iV p5,iV p6,.slice Ax code.length cx],aj tb 26 (bI t ta)]++(lK sb t wK Al k cl (xs.map fun x=>x.1.own)++(pJ d xs++l)))) w'->w'.cell? (tZ w2.heap.size 1)=some (.pointer (some (tZ yZ 0)))/\w'.cell? (tZ wr.heap.size 0)=some (iV p0)/\w'.cell? (tZ wr.heap.size 1)=some (iV p1)/\w'.cell? (tZ wr.heap.size 2)=some (iV p2)/\w'.cell? (tZ wr.heap.size 3)=some (iV p3)/\w'.cell? (tZ wr.heap.size 4)=some (iV p4)/\w'.cell? (tZ wr.heap.size 5)=some (iV p5)/\w'.cell? (tZ wr.heap.size 6)=some (iV p6)/\w'.cell? (tZ wr.heap.size 7)=some (.slice Ax code.length cx)):=hid fun w' C D h=>(by and_intros<;>first|exact(h.at_ 2 rfl).blk.cellAt rfl|exact(h.at_ 4 rfl).blk.cellAt rfl)
   obtain⟨o1,r0,r1,r2,r3,r4,r5,r6,r7⟩:=HQ.out _ _ _ h4';have yD:w4.cell? (tZ w2.heap.size 1)=some (.pointer (some (tZ yZ 0)))/\w4.cell? (tZ wr.heap.size 0)=some (iV p0)/\w4.cell? (tZ wr.heap.size 1)=some (iV p1)/\w4.cell? (tZ wr.heap.size 2)=some (iV p2)/\w4.cell? (tZ wr.heap.size 3)=some (iV p3)/\w4.cell? (tZ wr.heap.size 4)=some (iV p4)/\w4.cell? (tZ wr.heap.size 5)=some (iV p5)/\w4.cell? (tZ wr.heap.size 6)=some (iV p6)/\w4.cell? (tZ wr.heap.size 7)=some (.slice Ax code.length cx):=⟨o1,r0,r1,r2,r3,r4,r5,r6,r7⟩;have i6:=hid (i5.out _ _ _ h4'.drew);clear h4 h4' i4 i5 e0 e1 e2 e3 e4 e5 e6 e7 hw2 hw3;go_wp2_with fail;go_region_held3 (fun w'=>w'.cell? (tZ w2.heap.size 1)=some (.pointer (some (tZ yZ 0)))/\w'.cell? (tZ wr.heap.size 0)=some (iV p0)/\w'.cell? (tZ wr.heap.size 1)=some (iV p1)/\w'.cell? (tZ wr.heap.size 2)=some (iV p2)/\w'.cell? (tZ wr.heap.size 3)=some (iV p3)/\w'.cell? (tZ wr.heap.size 4)=some (iV p4)/\w'.cell? (tZ wr.heap.size 5)=some (iV p5)/\w'.cell? (tZ wr.heap.size 6)=some (iV p6)/\w'.cell? (tZ wr.heap.size 7)=some (.slice Ax code.length cx)) (go_keep)
    (first|(go_at_call 169;refine i6.out.mono ?_;rintro e w5 ⟨rfl,L2,hL2,hl2,h5⟩;have EF:=hid hL2;have Hl2:=hid hl2;have H5:=hid h5;obtain⟨z1,z2,z3,z4,z5,z6,z7,z8,z9⟩:=HQ.out _ _ _ h5;clear h5 hL2 hl2))
   have h7:=(H5.out.pn 2 [1,0]);have i7:=hid (aKg h7 EF.out.ok k hk4 (by have:=EF.out.len;omega));have HDK:=hid (HR.out.dk.step HXP.out aRe.out aS5 EF.out Hl2.out);clear h7 H5 EF Hl2 HQ o1 r0 r1 r2 r3 r4 r5 r6 r7 z1 z2 z3 z4 z5 z6 z7 z8 z9 yD i6;go_wp2_with fail;refine i7.out.mono ?_;rintro e w6⟨lg,rfl,h6⟩;have h6':ae w0 ([o8 lg d k (10*k) (10*k+1) 0 (aQ k),dU d (dH ((L2.set (10*k+1) gm).set (10*k) (iM (aQ k))) (-1)),cH yZ d k 0 true 1 (49+code.length) (fP ((49+code.length-1)/16+1)),aj w2.heap.size 196 (qR (.pointer none) (.pointer (some (tZ yZ 0))) (.pointer (some (tZ Aw 0)))),aj Aw 390 (iU d k 1 false 0 0 0),aj wr.heap.size 39 [iV p0,iV p1,iV p2,iV p3,iV p4,iV p5,iV p6,.slice Ax code.length cx],aj tb 26 (bI t ta)]++(lK sb t wK Al k cl (xs.map fun x=>x.1.own)++(pJ d xs++l))) w6:=h6;have c0:w6.cell? (tZ w2.heap.size 0)=some (.pointer none):=(h6'.at_ 3 rfl).blk.cellAt rfl;have f0:=(h6'.at_ 3 rfl).blk.frozen 0;obtain⟨w7,Jl⟩:∃w7,w6.setCell (tZ w2.heap.size 0) (.pointer (some (tZ lg 0)))=w7:=⟨_,rfl⟩;have h7:=(h6'.at_ 3 rfl).store 0 (.pointer (some (tZ lg 0)));rw[Jl]at h7;have c5:w7.cell? (tZ sb 5)=some (.slice Al k cl):=(h7.at_ 7 rfl).blk.cellAt rfl;have h8:=(h7.alloc (.cells #[.pointer (some (tZ w2.heap.size 0))] 192)).at_ 11 rfl;have vW:=ai.new w7 #[.pointer (some (tZ w2.heap.size 0))] 192 1 rfl;have H8:=hid h8;have KU:=h8.own
   clear h6 h6' h7 h8 i7;go_wp2_with (at_builtin;refine gX _ rfl (.tmp 94) (.tmp 96) _ rfl 192 i0 _ 1 8 underlying186 hi0 hz0 hz1 hz2 rfl (by decide) _ k _ rfl KU _ _ 1 1 _ rfl vW (by simp[Value.oneCell']) (by unfold maxLen;omega) (by omega) (k+1) rfl ?_;intro A9 c9 w9 xM wG zT;have h9:=(H8.out.uG xM wG zT).at_ 8 rfl;have c59:w9.cell? (tZ sb 5)=some (.slice Al k cl):=h9.blk.cellAt rfl;have f59:=h9.blk.frozen 5;have H9:=hid (h9.store 5 (.slice A9 (k+1) c9));clear h9 xM wG zT)
   have hE9:=H9.out.pn 12 [2,3,5,6,4,8,0,9,10,11,1] (by decide) (Nat.le_add_left 12 (pJ d xs++l).length);have hlen:=HR.out.len;have hns:=HR.out.ns;have KT:=HXP.out;refine⟨⟨k+1,A9,c9,xs++[(⟨w2.heap.size,lg,yZ,Aw⟩,49+code.length)],_,by omega,by go_num,hid ⟨by rw[List.length_append,hlen];rfl,?_,HDK.out,?_⟩⟩,by simp[Lib.intOf];omega⟩
   ·rw[List.map_append,hns,List.take_add_one,List.map_append,KT];rfl
   ·have hq:ae w0 (aOY d k ⟨w2.heap.size,lg,yZ,Aw⟩ (49+code.length)++((dU d (dH ((L2.set (10*k+1) gm).set (10*k) (iM (aQ k))) (-1))::aj tb 26 (bI t ta)::lK sb t wK A9 (k+1) c9 (xs.map (fun x=>x.1.own)++[w2.heap.size]))++(pJ d xs++l))) (w9.setCell (tZ sb 5) (.slice A9 (k+1) c9)):=by
     unfold lK;rw[List.map_append];exact hE9
    have hq2:=ae.toEnd hq.all;rw[aG1,hlen,List.map_append];exact hq2
  ·obtain rfl:k=t.parts.length:=by omega
   go_wp2_with fail;go_ret2;have hR:=HR.out;have h1:=hR.all.pn 2 [0];have h2:ae w0 ((lK sb t wK Al t.parts.length cl (xs.map fun x=>x.1.own)++pJ d xs)++(dU d (dH L' (-1))::l)) wr:=ae.perm h1 (by
    have e1:sO (dU d (dH L' (-1))::aj tb 26 (bI t ta)::(lK sb t wK Al t.parts.length cl (xs.map fun x=>x.1.own)++(pJ d xs++l))) [0]++(dU d (dH L' (-1))::aj tb 26 (bI t ta)::(lK sb t wK Al t.parts.length cl (xs.map fun x=>x.1.own)++(pJ d xs++l))).drop 2=dU d (dH L' (-1))::((lK sb t wK Al t.parts.length cl (xs.map fun x=>x.1.own)++pJ d xs)++l):=by
     rw[List.append_assoc];rfl
    rw[e1];exact List.perm_middle.symm)
   rw[show t.parts.length=xs.length from hR.len.symm]at h2;refine⟨sb,wK,Al,cl,xs,L',rfl,h2.all,?_,hR.dk.ok,hR.dk.len,fun p x hx=>?_⟩
   ·rw[hR.ns,List.take_of_length_le (by rw[List.length_map,HN.out];exact Nat.le_refl _),List.map_map];rfl
   ·have hp:=(List.getElem?_eq_some_iff.1 hx).1;rw[HN.out]at hp;exact hR.dk.has p x.p hp (by rw[List.getElem?_map,hx];rfl)
end
end Go.Proofs.YtfjkpigldogkeaaGreatDoor
