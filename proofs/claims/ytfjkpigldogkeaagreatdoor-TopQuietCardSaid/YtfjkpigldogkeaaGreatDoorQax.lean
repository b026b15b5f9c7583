/- Contracts of functions that TopQuiet reaches, under the conditions that each states. -/
import Derived.Test.YtfjkpigldogkeaaGreatDoorQao
import Derived.Test.YtfjkpigldogkeaaGreatDoorQaw
import Derived.Deep.OwnRows
set_option linter.all false
set_option maxRecDepth 100000
set_option maxHeartbeats 8000000
namespace Go.Proofs.YtfjkpigldogkeaaGreatDoor
open Go.RowKit Go.ChangeShapes Go.WideShapes Go.ChangeAt Go.Proofs.Tryz
def qG(i:aO)(A:Option Addr)(c:Nat):List Value:=[iV i.part,iV i.ver,iV i.uw,iV i.mem,iV i.fuel,iV i.sends,iV i.uj,.slice A i.code.length c]
theorem aKF(i:aO)(A:Option Addr)(c:Nat)(w:World):∃w1:World,w.alloc (.cells #[iV i.part,iV i.ver,iV i.uw,iV i.mem,iV i.fuel,iV i.sends,iV i.uj,.slice A i.code.length c] 39)=w1/\Below w.heap.size w w1/\ak w1 w.heap.size 39 (qG i A c)/\w1.heap.size=w.heap.size+1:=
 ⟨_,rfl,(Below.refl _ _).alloc (Nat.le_refl _) _,ak.new w _ (qG i A c),by simp⟩
theorem jI{w:World}{b:Nat}{i:aO}{A:Option Addr}{c:Nat}(h:ak w b 39 (qG i A c)):
  w.cell? (tZ b 0)=some (iV i.part)/\w.cell? (tZ b 1)=some (iV i.ver)/\w.cell? (tZ b 2)=some (iV i.uw)/\w.cell? (tZ b 3)=some (iV i.mem)/\w.cell? (tZ b 4)=some (iV i.fuel)/\w.cell? (tZ b 5)=some (iV i.sends)/\w.cell? (tZ b 6)=some (iV i.uj)/\w.cell? (tZ b 7)=some (.slice A i.code.length c):=
 (by and_intros<;>exact h.cellAt rfl)
theorem aM2(i:aO)(A:Option Addr)(c:Nat)(w:World)(h:ai w w.heap.size 1 A i.code.length (i.code.map bV))(hR:uu i=true):
  Calls prog 203 #[eM i A c] w fun e w'=>∃F g,e=.returned (.tuple #[.pointer (some (tZ g 0)),iV 0])/\nK w' F g i (jF i.mem.toNat)/\Below w.heap.size w w'/\∀b,F b->w.heap.size<=b:=by
 have hRI:=(eQ i).1 hR;have D9:i.mem.toNat<=1000:=by have:=hRI.2.2.2.1;omega
 have hmem:i.mem=((i.mem.toNat:Nat):Int):=by have:=hRI.2.2.2.1;omega
 have hcl:i.code.length<=1000:=by have:=hRI.2.2.2.2.2.2.2;omega
 obtain⟨w1,hw1,hb1,xO,hs1⟩:=aKF i A c w;obtain⟨c0,c1,c2,c3,c4,c5,c6,c7⟩:=jI xO;have i1:=hid (LU i A c w1 (by omega));rw[hR]at i1;have HR:=hid (h.belowS hb1);have vw:=hid hb1;have yj:=hid xO;have HM:=hid hmem;have zA:=hid hs1;unfold eM at i1 ⊢;clear hb1 xO h hmem hRI hR hs1;go_enter func203,ntmps203;go_wp2_with fail;refine i1.out.mono ?_;rintro e w2⟨rfl,hb2⟩;have vh:=yj.out.belowS hb2;clear c0 c1 c2 c3 c4 c5 c6 c7;obtain⟨c0,c1,c2,c3,c4,c5,c6,c7⟩:=jI vh;have vV:=hid vh;have uz:=hid (ag vw.out hb2);have i2:=hid (aCA A i.code.length c i.code w2 (HR.out.belowS hb2) (by omega));clear vh hb2 i1;go_wp2_with fail;refine i2.out.mono ?_;rintro e w3⟨A3,GI,rfl,AP,hb3⟩;have JS:=vV.out.belowS hb3;clear c0 c1 c2 c3 c4 c5 c6 c7;obtain⟨c0,c1,c2,c3,c4,c5,c6,c7⟩:=jI JS;have qf:=JS.frozen 7;have yl:=hid JS;have vk:=hid (ag uz.out hb3);have EE:=hid AP;have HLT:=hid vV.out.lt;clear JS hb3 i2 AP;go_wp2_with fail;clear c0 c1 c2 c3 c4 c5 c6 c7 qf;obtain⟨w4,hw4,hk4,hb4,hs4⟩:∃W,w3.setCell (tZ w.heap.size 7) (.slice A3 i.code.length GI)=W/\(∀b,b≠w.heap.size->W.heap[b]? =w3.heap[b]?)/\Below w.heap.size w W/\W.heap.size=w3.heap.size:=
  ⟨_,rfl,fun b hb=>Below.heap_setCell _ _ _ _ hb,vk.out.setCell (p:=⟨w.heap.size,7,none⟩) (Nat.le_refl _) _,by simp[World.setCell]⟩
 rw[hw4];have Ht:w4.ownsRow w2.heap.size 5 1 (.slice A3 i.code.length GI) i.code.length (i.code.map bV):=dS EE.out fun b hb=>hk4 b (by have:=(EE.out.lt b (aN.2 hb)).1;have:=HLT.out;omega)
 have hm:dm (w4.alloc (.cells (nC i ⟨A3,GI,none,0,none,0⟩ ⟨0,[],[],0,0⟩).toArray 336)) w3.heap.size i ⟨A3,GI,none,0,none,0⟩ ⟨0,[],[],0,0⟩:=by
  rw[<-hs4];exact⟨ak.new w4 _ _,(jb.uA Ht).alloc _,jb.nil _ _,jb.nil _ _,fun b hb=>by obtain⟨x,hx,_⟩:=hb;cases hx⟩
 have i3:=hid (aL9 hm i.mem.toNat HM.out D9);have vI:=hid hb4;have HF:Hid (∀b,bH A3 b->w.heap.size<=b):=hid fun b hb=>by have:=(EE.out.lt b (aN.2 hb)).1;have:=HLT.out;omega
 have Gy:=hid vk.out.size;clear hw4 hk4 hb4 hs4 Ht hm;go_wp2_with fail;refine i3.out.mono ?_;rintro e w5⟨rfl,a',hm5,uZ⟩;have HM5:=hid hm5;have Cj:=hid uZ;clear hm5 uZ;go_wp2_with fail;go_ret2;have hFm:∀b,fK w3.heap.size ⟨A3,GI,none,0,none,0⟩ b->w.heap.size<=b:=fun b hb=>by
  rcases hb with rfl|hb|hb|hb
  ·exact Gy.out
  ·exact HF.out b hb
  ·obtain⟨x,hx,_⟩:=hb;cases hx
  ·obtain⟨x,hx,_⟩:=hb;cases hx
 have hx:=Cj.out.bel (aC vI.out (.cells (nC i ⟨A3,GI,none,0,none,0⟩ ⟨0,[],[],0,0⟩).toArray 336)) (Nat.le_refl _) hFm;exact⟨_,_,rfl,HM5.out.at_,hx.1,hx.2⟩
section
variable{w w' w0:World}
def oJ(r:lq):List Value:=[iV r.part,iV r.seq,iV r.act,iV r.uD,iV r.left,iV r.bad]
theorem aMC(r:lq)(b g:Nat)(hb:ak w b 445 (aIe g))(hg:ak w g 68 (oJ r)):J3 w b g (nU r):=by
 refine⟨hb.lt,hg.lt,fun k f hf=>?_⟩;have hk:k<6:=(List.getElem?_eq_some_iff.1 hf).1;have hc:k=0\/k=1\/k=2\/k=3\/k=4\/k=5:=by omega
 rcases hc with rfl|rfl|rfl|rfl|rfl|rfl
 all_goals(
  cases hf;exact⟨hb.cellAt rfl,hb.cellAt rfl,hg.cellAt rfl⟩)
theorem aP1(r:lq):∀f∈nU r,mf (f.2:Int)=f.2/\f.2<=4:=by
 intro f hf;simp only[nU,List.mem_cons,List.not_mem_nil,or_false]at hf;rcases hf with rfl|rfl|rfl|rfl|rfl|rfl<;>exact⟨by dsimp only;decide,by dsimp only;decide⟩
theorem aHt(p:Nat)(hp:p<4)(w:World):Calls prog 242 #[lC (aQ p)] w fun e w'=>∃A' c',e=.returned (.tuple #[.slice A' 64 c',iV 0])/\w'.ownsRow w.heap.size 5 1 (.slice A' 64 c') 64 ((iM (aQ p)).map bV)/\Below w.heap.size w w':=by
 obtain⟨w1,hw1,hb1,hX1⟩:∃w1:World,w.alloc (.cells #[iV (p:Int),iV 1,iV 0,iV 0,iV 0,iV 0] 68)=w1/\Below w.heap.size w w1/\ak w1 w.heap.size 68 (oJ (aQ p)):=
  ⟨_,rfl,(Below.refl _ _).alloc (Nat.le_refl _) _,ak.new w _ (oJ (aQ p))⟩
 have i1:=hid (aCq p hp w1);have c0:w1.cell? (tZ w.heap.size 0)=some (iV (p:Int)):=hX1.cellAt rfl;have c1:w1.cell? (tZ w.heap.size 1)=some (iV 1):=hX1.cellAt rfl;have c2:w1.cell? (tZ w.heap.size 2)=some (iV 0):=hX1.cellAt rfl;have c3:w1.cell? (tZ w.heap.size 3)=some (iV 0):=hX1.cellAt rfl;have c4:w1.cell? (tZ w.heap.size 4)=some (iV 0):=hX1.cellAt rfl;have c5:w1.cell? (tZ w.heap.size 5)=some (iV 0):=hX1.cellAt rfl;have HX:=hid hX1;clear hX1;obtain⟨PB,yt⟩:∃PB,PB=iM (aQ p):=⟨_,rfl⟩;rw[<-yt];have F7:=hid yt;clear yt;unfold lC aQ;dsimp only;go_enter func242,ntmps242;go_wp2_with fail;clear hw1;refine i1.out.mono ?_;rintro e w2⟨rfl,hb2⟩;have vV:=hid (HX.out.belowS hb2);have uz:=hid (ag hb1 hb2);have i2:=hid (aBd w.heap.size w2 vV.out.lt);clear c0 c1 c2 c3 c4 c5 i1 hb1 hb2 HX;go_wp2_with fail;refine i2.out.mono ?_;rintro e w3⟨b,rfl,hb3,hbb,hblk⟩;have i3:=hid (aD2 19523 b w.heap.size (nU (aQ p)) 6 w3 (aMC _ b _ hblk (vV.out.belowS hb3)) (aP1 _) (by simp[nU]) PB F7.out);have vk:=hid (ag uz.out hb3);rw[show(nU (aQ p)).length=6 from rfl]at i3;clear hb3 hblk;go_wp2_with fail;refine i3.out.mono ?_;rintro e w4⟨A',c',rfl,hown,hb4⟩;have HO:=hid (bh hown vk.out.size);have vI:=hid (ag vk.out hb4);clear hown hb4;go_wp2_with fail;go_ret2;exact⟨A',c',rfl,HO.out,vI.out⟩
end
section
variable{w w' w0:World}
theorem aDv(n:Nat)(h0:1<=n)(h1:n<=160)(w:World):Calls prog 262 #[iV (n:Int)] w fun e w'=>e=.returned (iV (((n-1)/16+1:Nat):Int))/\w'=w:=by
 have g1:decide ((n:Int)<1)=false:=by simp;omega
 go_enter func262,ntmps262;go_wp2_with fail;go_ret;exact⟨by go_num,rfl⟩
def aIu(g:Nat):List Value:=rS g 0 2++rS g 1 2++rS g 2 2
theorem aAj(g:Nat)(w:World)(h:g<w.heap.size):Calls prog 319 #[.pointer (some (tZ g 0))] w fun e w'=>∃b,e=.returned (.slice (some (tZ b 0)) 3 3)/\Below w.heap.size w w'/\w.heap.size<=b/\ak w' b 489 (aIu g):=by
 go_enter func319,ntmps319;go_wp2_with fail;go_region
 go_wp2_with fail;go_ret;exact⟨_,rfl,((Below.refl _ _).alloc (Nat.le_refl _) _).drew,Nat.le_refl _,ak.drew (ak.new w 489 (aIu g))⟩
def sS(uq size uF:Nat):Value:=.agg #[iV (uq:Int),iV (size:Int),iV (uF:Int)]
theorem aHr:∀B,B<11->wrap64 (2^B)=((2^B:Nat):Int):=by decide+kernel
theorem aDm(uq size uF:Nat)(h1:1<=uq/\uq<=65535)(h2:1<=size/\size<=160)(h3:uF<2^((size-1)/16+1))(w:World):Calls prog 320 #[sS uq size uF] w fun e w'=>e=.returned (.bool true)/\Below w.heap.size w w':=by
 have hq1:qK (uq:Int) 1 65535=true:=lX.2 (by omega);have hq2:qK (size:Int) 1 160=true:=lX.2 (by omega);have hb:=hid (fun(n a b:Int) (h:qK n a b=true) w=>(aCh n a b w).mono (fun e w' (he:e=.returned (.bool (qK n a b))/\w'=w)=>show e=.returned (.bool true)/\w'=w from⟨by rw[he.1,h],he.2⟩));have hbl:=hid (fun w=>aDv size h2.1 h2.2 w);have hB:(size-1)/16+1<11:=by omega
 generalize (size-1)/16+1=B at*
 have hp:=aHr B hB;have h21:1<=2^B:=Nat.one_le_two_pow;have hP9:2^B<100000:=Nat.lt_of_le_of_lt (Nat.pow_le_pow_right (by omega) (show B<=10 by omega)) (by decide);generalize 2^B=P at hp h3 h21 hP9;have hP:Hid (wrap64 (2^B)=(P:Int)):=hid hp;have hq3:qK (uF:Int) 0 ((P:Int)-1)=true:=lX.2 (by omega);unfold sS;go_enter func320,ntmps320;go_wp2_with fail;go_quiet ((first|(go_at_call 262;exact Calls.quiet_of_same (hbl.out _))|(go_at_call 318;exact Calls.quiet_of_same (hb.out _ _ _ (by first|exact hq1|exact hq2|exact hq3) _))))
 go_wp2_with fail;refine bodyPost_ret (v:=.bool true) (by simp[results,results320,go_sem]) rfl ?_;exact⟨rfl,bW (ah w _) _⟩
end
section
variable{w w' w0:World}
def nH(uq size uF:Nat):List Value:=[iV (uq:Int),iV (size:Int),iV (uF:Int)]
def jV(uq size uF:Nat):oG:=⟨uq,size,uF⟩
theorem aMq(uq size uF b g:Nat)(hb:ak w b 489 (aIu g))(hg:ak w g 388 (nH uq size uF)):J3 w b g (nY (jV uq size uF)):=by
 refine⟨hb.lt,hg.lt,fun k f hf=>?_⟩;have hk:k<3:=(List.getElem?_eq_some_iff.1 hf).1;have hc:k=0\/k=1\/k=2:=by omega
 rcases hc with rfl|rfl|rfl
 all_goals(
  cases hf;exact⟨hb.cellAt rfl,hb.cellAt rfl,hg.cellAt rfl⟩)
theorem aOE(s:oG):∀f∈nY s,mf (f.2:Int)=f.2/\f.2<=4:=by
 intro f hf;simp only[nY,List.mem_cons,List.not_mem_nil,or_false]at hf;rcases hf with rfl|rfl|rfl<;>exact⟨by dsimp only;decide,by dsimp only;decide⟩
theorem aKY(uq size uF:Nat)(h1:1<=uq/\uq<=65535)(h2:1<=size/\size<=160)(h3:uF<2^((size-1)/16+1))(w:World):Calls prog 299 #[sS uq size uF] w fun e w'=>∃A' c',e=.returned (.tuple #[.slice A' 64 c',iV 0])/\w'.ownsRow w.heap.size 5 1 (.slice A' 64 c') 64 ((je (jV uq size uF)).map bV)/\Below w.heap.size w w':=by
 obtain⟨w1,hw1,hb1,hX1⟩:∃w1:World,w.alloc (.cells #[iV (uq:Int),iV (size:Int),iV (uF:Int)] 388)=w1/\Below w.heap.size w w1/\ak w1 w.heap.size 388 (nH uq size uF):=
  ⟨_,rfl,(Below.refl _ _).alloc (Nat.le_refl _) _,ak.new w _ (nH uq size uF)⟩
 have i1:=hid (aDm uq size uF h1 h2 h3 w1);clear h1 h2 h3;have c0:w1.cell? (tZ w.heap.size 0)=some (iV (uq:Int)):=hX1.cellAt rfl;have c1:w1.cell? (tZ w.heap.size 1)=some (iV (size:Int)):=hX1.cellAt rfl;have c2:w1.cell? (tZ w.heap.size 2)=some (iV (uF:Int)):=hX1.cellAt rfl;have HX:=hid hX1;clear hX1;obtain⟨PB,yt⟩:∃PB,PB=je (jV uq size uF):=⟨_,rfl⟩;rw[<-yt];have F7:=hid yt;clear yt;unfold sS at i1 ⊢;go_enter func299,ntmps299;go_wp2_with fail;clear hw1;refine i1.out.mono ?_;rintro e w2⟨rfl,hb2⟩;have vV:=hid (HX.out.belowS hb2);have uz:=hid (ag hb1 hb2);have i2:=hid (aAj w.heap.size w2 vV.out.lt);clear c0 c1 c2 i1 hb1 hb2 HX;go_wp2_with fail;refine i2.out.mono ?_;rintro e w3⟨b,rfl,hb3,hbb,hblk⟩;have i3:=hid (aD2 19539 b w.heap.size (nY (jV uq size uF)) 3 w3 (aMq _ _ _ b _ hblk (vV.out.belowS hb3)) (aOE _) (by simp[nY]) PB F7.out);have vk:=hid (ag uz.out hb3);rw[show(nY (jV uq size uF)).length=3 from rfl]at i3;clear hb3 hblk;go_wp2_with fail;refine i3.out.mono ?_;rintro e w4⟨A',c',rfl,hown,hb4⟩;have HO:=hid (bh hown vk.out.size);have vI:=hid (ag vk.out hb4);clear hown hb4;go_wp2_with fail;go_ret2;exact⟨A',c',rfl,HO.out,vI.out⟩
end
theorem aDk(bs:List UInt8)(o W:Nat)(h0:0<W)(hw:mf (W:Int)=W)(hl:o+W<=bs.length):bT ⟨bs.drop o,0⟩ (W:Int)=(fv bs o W,⟨bs.drop (o+W),0⟩):=by
 have e:dL ⟨bs.drop o,0⟩ (W:Int)=((bs.drop o).take W,⟨bs.drop (o+W),0⟩):=by
  unfold dL;rw[if_neg (by simp;omega),if_neg (by simp;omega)];simp
 unfold bT;rw[hw,e];rfl
def qF(ws:List Nat)(k:Nat):Nat:=2+(ws.take k).sum
theorem aEn(ws:List Nat)(k W:Nat)(h:ws[k]? =some W):qF ws (k+1)=qF ws k+W:=by
 unfold qF;rw[List.take_add_one,h];simp[Nat.add_assoc]
theorem aO2(ws:List Nat)(k d:Nat):qF ws k<=qF ws (k+d):=by
 induction d with
 |zero=>exact Nat.le_refl _
 |succ d ih=>
  refine Nat.le_trans ih ?_;rw[<-Nat.add_assoc];unfold qF;rw[List.take_add_one (i:=k+d)];simp
def J4(w:World)(b g:Nat)(ws:List Nat):Prop:=b<w.heap.size/\∀(k W:Nat),ws[k]? =some W->w.cell? (tZ b (k*2))=some (.pointer (some (tZ g k)))/\w.cell? (tZ b (k*2+1))=some (iV (W:Int))
def oh(bs:List UInt8)(ws:List Nat)(k:Nat):List Value:=(List.range k).map fun j=>iV ((fv bs (qF ws j) (ws.getD j 0):Nat):Int)
theorem aBl(bs:List UInt8)(ws:List Nat)(k:Nat):(oh bs ws k).length=k:=by simp[oh]
theorem aKO(bs:List UInt8)(ws:List Nat)(k W F:Nat)(cs:List Value)(hk:k<cs.length)(hW:ws[k]? =some W)(hF:fv bs (qF ws k) W=F):
  (oh bs ws k++cs.drop k).set k (iV (F:Int))=oh bs ws (k+1)++cs.drop (k+1):=by
 rw[List.set_append_right _ _ (by rw[aBl];exact Nat.le_refl _),aBl,Nat.sub_self,List.drop_eq_getElem_cons hk,List.set_cons_zero];unfold oh;rw[List.range_succ,List.map_append,List.append_assoc,List.map_cons,List.map_nil,List.getD_eq_getElem?_getD,hW];simp[hF]
theorem aNA(bs:List UInt8)(ws:List Nat)(k:Nat)(cs:List Value)(hk:k<cs.length):∃v,(oh bs ws k++cs.drop k)[k]? =some v:=by
 rw[List.getElem?_append_right (by rw[aBl];exact Nat.le_refl _),aBl,Nat.sub_self,List.drop_eq_getElem_cons hk];exact⟨_,rfl⟩
theorem J4.grown{w w':World}{b g:Nat}{ws:List Nat}(h:J4 w b g ws)(hg:w.grownBy w' (some g))(hn:b≠g):J4 w' b g ws:=
 ⟨Nat.lt_of_lt_of_le h.1 hg.size,fun k W hk=>by
  obtain⟨h1,h2⟩:=h.2 k W hk;have hb:=hg.block b h.1 (by intro e;injection e with e;exact hn e);exact⟨(World.cell?_of_block hb).trans h1,(World.cell?_of_block hb).trans h2⟩⟩
theorem jl{a b c:World}{g gr:Nat}(h:a.grownBy b (some g))(k:b.grownBy c (some gr))(hn:a.heap.size<=gr):a.grownBy c (some g):=
 ⟨k.os.trans h.os,k.tape.trans h.tape,k.output.trans h.output,Nat.le_trans h.size k.size,fun i hi hne=>(k.block i (Nat.lt_of_lt_of_le hi h.size) (by intro e;injection e with e;omega)).trans (h.block i hi hne)⟩
theorem aLe(w:World)(n:Nat)(T:TypeId):ai (w.alloc (.cells (madeCells #[.int .u8 0] n) T)) (w.alloc (.cells (madeCells #[.int .u8 0] n) T)).heap.size 1 (some (tZ w.heap.size 0)) n ((List.replicate n (0:UInt8)).map bV):=by
 have h:=(ai.lit (n:=n) (size:=1) (heap_alloc_new w (.cells (madeCells #[.int .u8 0] n) T)) (by simp[madeCells])).more (B':=w.heap.size+1) (by simp);rw[toList_madeCells_one]at h;simpa[bV]using h
theorem aHx{w w':World}{gr n:Nat}{T:TypeId}(hg:(w.alloc (.cells (madeCells #[.int .u8 0] n) T)).grownBy w' (some gr))(hne:w.heap.size≠gr):ai w' w'.heap.size 1 (some (tZ w.heap.size 0)) n ((List.replicate n (0:UInt8)).map bV):=by
 have h:=(hg.block w.heap.size (by simp) (by intro e;injection e with e;exact hne e)).trans (heap_alloc_new w _);have h2:=ai.lit (n:=n) (size:=1) h (by simp[madeCells]);rw[toList_madeCells_one]at h2;simpa[bV]using h2
theorem ai.aRM{w:World}{B n g k:Nat}{A:Option Addr}{bs:List UInt8}{T:TypeId}{cs:List Value}(v:Value)(h:ai w B 1 A n (bs.map bV))(hB:ak w g T cs)(hc:∀u∈cs,∃x,u=iV x):ai (w.setCell (tZ g k) v) B 1 A n (bs.map bV):=by
 refine⟨h.1,fun hn=>?_⟩;obtain⟨ad,e,hb,hcell⟩:=h.2 hn;refine⟨ad,e,hb,fun j u hu=>?_⟩;have hne:ad.block≠g:=by
  intro he;have hl:0<bs.length:=by have:=h.1;simp at this;omega
  have h0:=hcell 0 (bV bs[0]) (by rw[List.getElem?_map,List.getElem?_eq_getElem hl];rfl);have e0:ad.add 0=ad:=by unfold Addr.add;simp
  rw[e0]at h0;unfold World.cell? at h0;unfold ak at hB;rw[he,hB]at h0;simp only at h0;split at h0
  ·cases h0
  ·obtain⟨x,hx⟩:=hc _ (List.mem_of_getElem? (by simpa using h0));simp[bV]at hx
 rw[World.cell?_setCell_other _ _ _ _ (fun e9=>hne (by have:=congrArg Addr.block e9;rw[dw]at this;first|exact this|exact this.symm))];exact hcell j u hu
theorem aLr(bs:List UInt8)(ws:List Nat)(k:Nat){cs:List Value}(hc:∀u∈cs,∃x,u=iV x):∀u∈oh bs ws k++cs.drop k,∃x,u=iV x:=by
 intro u hu;rcases List.mem_append.1 hu with h|h
 ·obtain⟨j,_,rfl⟩:=List.mem_map.1 h;exact⟨_,rfl⟩
 ·exact hc u (List.mem_of_mem_drop h)
def jX(mark:Int)(bs:List UInt8)(N:Nat):Int:=
 if(fv bs 0 2:Int)=mark/\bs.drop (N+4)=List.replicate (60-N) 0 then(if fv bs N 4=(gY (bs.take N)).toNat then 0 else 10)else 2
section
variable{w w' w0:World}
theorem aAB(mark:Int)(b g m:Nat)(T:TypeId)(ws:List Nat)(cs:List Value)(A:Option Addr)(c cf:Nat)(bs:List UInt8)(w:World)
(hr:ai w g 1 A 64 (bs.map bV))(hc64:64<=c)(hf:J4 w b g ws)(hbg:b≠g)(hB:ak w g T cs)(hcs:cs.length=m)(hm:ws.length=m)(hm6:m<=6)
(hws:∀W∈ws,mf (W:Int)=W/\0<W/\W<=4)(N:Nat)(hN:qF ws m=N)(hN4:N<=26)(hci:∀u∈cs,∃x,u=iV x):
  Calls prog 255 #[.slice A 64 c,iV mark,.slice (some (tZ b 0)) m cf] w fun e w'=>e=.returned (iV (jX mark bs N))/\ak w' g T (oh bs ws m)/\w.grownBy w' (some g):=by
 have hl:bs.length=64:=by simpa using hr.len
 have i1:=hid (aCN A 64 c bs w (hr.more (Nat.le_of_lt hB.lt)) (by omega));have HR:=hid hr;have HF:=hid hf;have HB:=hid hB;have HL:=hid hl;have HS:=hid hws;have HN:=hid hN;have BJ:=hB.lt;have HM:=hid hm;have HC:=hid hcs;have HCI:=hid hci;obtain⟨F0,hF0⟩:∃F0,fv bs 0 2=F0:=⟨_,rfl⟩;have HF0:=hid hF0;obtain⟨bg,aSH⟩:∃bg,((F0:Int)==mark)=bg:=⟨_,rfl⟩;have DD:=hid aSH;clear hr hf hB hl hws hN hm hcs hF0 hci;go_enter func255,ntmps255;go_wp2_with fail;refine i1.out.mono ?_;rintro e w1⟨gr,rfl,hgr,CJ,hb1⟩;have i2:=JY gr ⟨bs,0⟩ 2 w1 CJ (by have:=HL.out;simp only;omega);unfold JX at i2;have hn0:bT ⟨bs,0⟩ 2=(F0,⟨bs.drop 2,0⟩):=by
  have:=aDk bs 0 2 (by omega) (by decide) (by have:=HL.out;omega);rw[HF0.out]at this;simpa using this
 rw[hn0]at i2;have I2:=hid i2;have zg:=hid (jp hb1 (some g));have vw:=hid (HB.out.belowS hb1);clear i2 hn0 i1 hb1 CJ;go_wp2_with fail;refine I2.out.mono ?_;rintro e w2⟨rfl,CM,hg2⟩;have HG2:=hid (jl zg.out hg2 hgr);have Ef:=hid CM;have uz:=hid (vw.out.grown hg2 (by intro e;injection e with e;omega));clear hg2 CM I2;go_wp2_with fail;go_loopw [9,11,24] (fun v9 _ v24 wr=>∃(k O:Nat),k<=m/\v24=iV (k:Int)/\v9=iV (O:Int)/\Hid (qF ws k=O)/\Hid (jk wr gr ⟨bs.drop O,0⟩)/\Hid (ak wr g T (oh bs ws k++cs.drop k))/\Hid (w.grownBy wr (some g))) (fun _ _ v24 _=>m-(intOf v24).toNat)
 case atStart=>exact⟨0,2,by omega,rfl,rfl,hid (by simp[qF]),Ef,hid (by simpa[oh]using uz.out),HG2⟩
 obtain⟨k,O,hk,rfl,rfl,HO,HRr,yP,MK⟩:=hrel;by_cases hkn:k<m
 ·have aRL:decide ((k:Int)<(m:Int))=true:=decide_eq_true (by omega);have IW:=hid (HF.out.grown MK.out hbg);obtain⟨W,hW⟩:∃W,ws[k]? =some W:=⟨_,List.getElem?_eq_getElem (by rw[HM.out];exact hkn)⟩;obtain⟨q0,q1⟩:=IW.out.2 k W hW;obtain⟨Ec,hw0,hw4⟩:=HS.out W (List.mem_of_getElem? hW);have hO2:O+W<=N:=by
   have h1:=aEn ws k W hW;have h2:=aO2 ws (k+1) (m-(k+1));rw[show k+1+(m-(k+1))=m by omega,HN.out,h1,HO.out]at h2;exact h2
  obtain⟨F,hFv⟩:∃F,fv bs O W=F:=⟨_,rfl⟩;have xX:=hid (aKO bs ws k W F cs (by rw[HC.out];exact hkn) hW (by rw[HO.out];exact hFv));have D8:=hid (show qF ws (k+1)=O+W by rw[aEn ws k W hW,HO.out]);obtain⟨v0,hv0⟩:=aNA bs ws k cs (by rw[HC.out];exact hkn);have ML:=hid hv0;have i3:Hid (∀W',jk W' gr ⟨bs.drop O,0⟩->Calls prog 208 #[.pointer (some (tZ gr 0)),iV (W:Int)] W' fun e w'=>e=.returned (iV (F:Int))/\jk w' gr ⟨bs.drop (O+W),0⟩/\W'.grownBy w' (some gr)):=hid (fun W' h=>by
   have h9:=JY gr ⟨bs.drop O,0⟩ (W:Int) W' h (by have:=HL.out;simp only[List.length_drop];omega);unfold JX at h9;rw[aDk bs O W hw0 Ec (by have:=HL.out;omega),hFv]at h9;exact h9)
  have hrl:=hid (HRr.out.lt);have k2:(k:Int)*2=((k*2:Nat):Int):=by omega
  have hwl:=hid MK.out.size;clear hW hFv hv0 Ec hw0;go_wp2_with fail;generalize hwx:wr.alloc _=wx;have yz:Below wr.heap.size wr wx:=by rw[<-hwx];exact(Below.refl _ _).alloc (Nat.le_refl _) _
  have hblk:ak wx wr.heap.size 444 [.pointer (some (tZ g k)),iV W]:=by rw[<-hwx];exact ak.new wr _ [_,_]
  clear hwx;have HXX:=hid hblk;have HRx:=hid (HRr.out.below yz);have HBx:=hid (yP.out.belowS yz);have HGx:=hid (jl MK.out (jp yz (some gr)) hgr);have s0:wx.cell? (tZ wr.heap.size 0)=some (.pointer (some (tZ g k))):=hblk.cellAt rfl;have s1:wx.cell? (tZ wr.heap.size 1)=some (iV W):=hblk.cellAt rfl;have yD:wx.cell? (tZ wr.heap.size 0)=some (.pointer (some (tZ g k)))/\wx.cell? (tZ wr.heap.size 1)=some (iV W):=⟨s0,s1⟩;have n1:g≠wr.heap.size:=by have:=hwl.out;omega
  have n2:wr.heap.size≠g:=n1.symm;have n3:gr≠wr.heap.size:=by have:=hrl.out;omega
  clear yz hblk q0 q1 IW yP HRr;go_region_held3 (fun w'=>w'.cell? (tZ wr.heap.size 0)=some (.pointer (some (tZ g k)))/\w'.cell? (tZ wr.heap.size 1)=some (iV W)) (go_keep)
   (first|(go_at_call 208;refine(i3.out _ ?_).mono ?_;exact HRx.out;rintro e wc ⟨rfl,aQZ,DK⟩;have CH:wx.grownBy wc (some gr):=⟨DK.os,DK.tape,DK.output,DK.size,DK.block⟩;clear DK;have Hz:=HXX.out.grown CH (by intro e;injection e with e;omega);have z0:wc.cell? (tZ wr.heap.size 0)=some (.pointer (some (tZ g k))):=Hz.cellAt rfl;have z1:wc.cell? (tZ wr.heap.size 1)=some (iV W):=Hz.cellAt rfl;have hbc:=HBx.out.grown CH (by intro e;injection e with e;omega);have zc:wc.cell? (tZ g k)=some v0:=hbc.cellAt ML.out;have zf:wc.frozen? (tZ g k)=false:=hbc.frozen k;have HXc:=hid Hz;have HBc:=hid hbc;have HGc:=hid (jl HGx.out CH hgr);have HRc:=hid aQZ;clear Hz hbc CH aQZ))
  have e1:(wc.setCell (tZ g k) (iV (F:Int))).cell? (tZ wr.heap.size 1)=some (iV W):=(HXc.out.far (p:=⟨g,k,none⟩) n2 _).cellAt rfl;have hB9:=hid (HBc.out.uh k (iV (F:Int)));rw[xX.out]at hB9;have hR9:Hid (jk (wc.setCell (tZ g k) (iV (F:Int))) gr ⟨bs.drop (O+W),0⟩):=hid (by
   obtain⟨A3,n3',c3,k1,k2',k3,k4⟩:=HRc.out;exact⟨A3,n3',c3,k1.far (fun e=>by have e2:gr=g:=e;omega) _,k2'.aRM _ HBc.out (aLr bs ws k HCI.out),k3,k4⟩)
  have hG9:Hid (w.grownBy (wc.setCell (tZ g k) (iV (F:Int))) (some g)):=hid (iw HGc.out (lS wc k _));generalize wc.setCell (tZ g k) (iV (F:Int))=wz at*
  clear z0 z1 zc zf yD s0 s1;go_wp2_with fail;go_roundw;case rel=>exact⟨k+1,O+W,by omega,by go_num,by go_num,D8,hR9,hB9,hG9⟩
  case measure=>simp[intOf];omega
 ·obtain rfl:k=m:=by omega
  have aRL:decide ((k:Int)<(k:Int))=false:=decide_eq_false (by omega);obtain rfl:O=N:=by rw[<-HO.out,HN.out]
  obtain⟨F1,BG⟩:∃F1,fv bs O 4=F1:=⟨_,rfl⟩;have MJ:=hid BG;have i4:Hid (Calls prog 208 #[.pointer (some (tZ gr 0)),iV 4] wr fun e w'=>e=.returned (iV (F1:Int))/\jk w' gr ⟨bs.drop (O+4),0⟩/\wr.grownBy w' (some gr)):=hid (by
   have h9:=JY gr ⟨bs.drop O,0⟩ 4 wr HRr.out (by have:=HL.out;simp only[List.length_drop];omega);unfold JX at h9;have h8:bT ⟨bs.drop O,0⟩ 4=(F1,⟨bs.drop (O+4),0⟩):=by
    have:=aDk bs O 4 (by omega) (by decide) (by have:=HL.out;omega);rw[MJ.out]at this;simpa using this
   rw[h8]at h9;exact h9)
  clear BG;have aSI:Hid (ak wr g T (oh bs ws k)):=hid (by have:=yP.out;rwa[List.drop_eq_nil_of_le (by rw[HC.out];exact Nat.le_refl _),List.append_nil]at this);go_wp2_with fail;refine i4.out.mono ?_;rintro e w5⟨rfl,EM,uZ⟩;have wP:=hid (aSI.out.grown uZ (by intro e;injection e with e;have:=MK.out.size;omega));have Cj:=hid (jl MK.out uZ hgr);have GK:=hid EM;clear EM uZ i4 yP;cases bg with
  |false=>
   have HE:Hid (jX mark bs O=2):=hid (by
    have h9:=DD.out;unfold jX;rw[HF0.out,if_neg];rintro⟨h1,_⟩;rw[h1]at h9;simp at h9)
   go_wp2_with fail;go_region
   all_goals(
    go_wp2_with fail;go_ret;exact⟨by rw[HE.out];rfl,wP.out,⟨Cj.out.os,Cj.out.tape,Cj.out.output,Cj.out.size,Cj.out.block⟩⟩)
  |true=>
   have hMk:(F0:Int)=mark:=by simpa using DD.out
   obtain⟨K,hK⟩:∃K,60-O=K:=⟨_,rfl⟩;obtain⟨D,hD⟩:∃D,bs.drop (O+4)=D:=⟨_,rfl⟩;have hDl:D.length=K:=by rw[<-hD,List.length_drop,HL.out];omega
   obtain⟨E,hE⟩:∃E,decide (D=List.replicate K 0)=E:=⟨_,rfl⟩;obtain⟨X,hX⟩:∃X,(gY (bs.take O)).toNat=X:=⟨_,rfl⟩;have HE:Hid (jX mark bs O=if E=true then(if F1=X then 0 else 10)else 2):=hid (by
    unfold jX;rw[HF0.out,MJ.out,hK,hD,hX,<-hE];simp only[hMk,true_and,decide_eq_true_eq])
   have HX:=hid hX;have Ed:X<4294967296:=by rw[<-hX];exact(gY (bs.take O)).isLt
   rw[hD]at GK;have HDL:=hid hDl;have hK0:0<K:=by omega
   have hK60:K<=60:=by omega
   have hw1:IntKind.i64.wrap (64-(O:Int))=64-(O:Int):=IntWalk.i64_in _ (by omega);have hw2:IntKind.i64.wrap (64-(O:Int)-4)=(K:Int):=by rw[IntWalk.i64_in _ (by omega)];omega
   have hgr5:=GK.out.lt;have hglt5:=wP.out.lt;have iL:=hid (fun W (h:jk W gr ⟨D,0⟩)=>aMF gr ⟨D,0⟩ W h rfl);simp only[hDl]at iL;have iB:=hid (fun W (h:jk W gr ⟨D,0⟩)=>aEh gr D K W h hK0 (by rw[hDl];exact Nat.le_refl _) (by rw[hDl];omega));unfold aC6 at iB;rw[List.take_of_length_le (by rw[hDl];exact Nat.le_refl _)]at iB;have iE:Hid (∀A1 A2 c1 c2 W,ai W W.heap.size 1 A1 K (D.map bV)->ai W W.heap.size 1 A2 K ((List.replicate K (0:UInt8)).map bV)->Calls prog 263 #[.slice A1 K c1,.slice A2 K c2] W fun e w'=>e=.returned (.bool E)/\Below W.heap.size W w'):=hid (fun A1 A2 c1 c2 W h1 h2=>by
    have:=aC0 A1 A2 K K c1 c2 D (List.replicate K 0) W h1 h2;rwa[hE]at this)
   have hmk:=run_make_row' (P:=prog) 37 5 (.int .u8 0) 1 underlying37 aCx rfl .i64 .i64 K (by omega) (by omega);have aRN:w.grownBy w5.drew (some g):=⟨Cj.out.os,Cj.out.tape,Cj.out.output,Cj.out.size,Cj.out.block⟩;have aRO:some g≠some gr:=by intro e;injection e with e;have:=Cj.out.size;omega
   have aSJ:w5.heap.size≠gr:=by omega
   have aRP:=hid (fun(o:Obj)=>(show Below w5.heap.size w5 (w5.drew.alloc o)from(Below.refl _ _).drew.alloc (Nat.le_refl _) _));clear hK hD hDl hE hX aSI HF HB HS HN HM HC zg vw HG2 Ef uz aSH HCI;go_wp2_with fail;go_region_held3 (fun _=>True) (exact trivial) (first
    |(go_at_call 317;refine(iL.out _ ?_).mono ?_;(first|exact GK.out|exact GK.out.below (aRP.out _));rintro e wl ⟨rfl,rfl⟩)
    |(go_at_call 212;refine(iB.out _ ?_).mono ?_;(first|exact GK.out|exact GK.out.below (aRP.out _));rintro e wb ⟨Ab,cb,rfl,aRt,Bq,hgb⟩;have hx1:=ai.uA aRt;have hBb:ak wb g T (oh bs ws k):=(by first|exact wP.out.drew.grown hgb aRO|exact(wP.out.drew.alloc _).grown hgb aRO);have hGb:w.grownBy wb (some g):=(by first|exact jl aRN hgb hgr|exact jl (jl aRN (jp (ah w5.drew _) (some gr)) hgr) hgb hgr);(first|(have J5:(w5.alloc (.cells (madeCells #[.int .u8 0] K) 5)).drew.grownBy wb (some gr):=(by with_reducible exact hgb);have hyk:=aHx (w:=w5) ⟨J5.os,J5.tape,J5.output,J5.size,J5.block⟩ aSJ;clear J5)|skip))
    |(go_at_call 263;refine(iE.out _ _ _ _ _ ?_ ?_).mono ?_;(first|exact hx1|exact(hx1.alloc (Nat.le_refl _) _).more (by simp));(first|exact hyk|exact aLe _ _ _);rintro e we ⟨rfl,yT⟩;have hBe:ak we g T (oh bs ws k):=(by first|exact hBb.belowS yT|exact(hBb.alloc _).belowS yT);have hGe:w.grownBy we (some g):=(by first|exact jl hGb (jp yT (some gr)) hgr|exact jl (jl hGb (jp (ah wb _) (some gr)) hgr) (jp yT (some gr)) hgr)))
   all_goals(
    have HBe:=hid hBe;have HGe:=hid hGe;clear hBe hGe hBb hGb hx1 aRt Bq hgb yT hmk hw1 hw2 iL iB iE aRP aRN aRO aSJ;try clear hyk
    cases E with
    |false=>
     have D6:Hid (jX mark bs O=2):=hid (by rw[HE.out];rfl);simp only[Exit.then];rw[show(!false)=true from rfl];go_wp2_with fail;go_ret;exact⟨by rw[D6.out];rfl,HBe.out,HGe.out⟩
    |true=>
     have hRe:=(HR.out.grown HGe.out (Nat.le_of_lt BJ) (fun g' e=>by injection e with e;omega)).front (k:=O) (by omega);rw[Nat.mul_one,<-List.map_take]at hRe;have MM:=hid hRe;have iS:Hid (∀W gt cc,Below we.heap.size we W->MI W gt->Calls prog 181 #[.pointer (some (tZ gt 0)),.slice A O cc] W fun e w'=>e=.returned (.int .u32 (X:Int))/\W=w'):=hid (fun W gt cc hb ht=>by
      have h9:=aFa gt A O cc (bs.take O) g W ht (MM.out.below (hb.mono (Nat.le_of_lt (HBe.out.lt)))) (by omega);unfold uV at h9;rwa[HX.out]at h9)
     have hOc:(O:Int)<=(c:Int):=by omega
     have hXw:IntKind.i64.wrap (X:Int)=(X:Int):=IntWalk.i64_in _ (by omega);have HF:Hid (jX mark bs O=if F1=X then 0 else 10):=hid (by rw[HE.out];rfl);clear hRe;obtain⟨nb,hnb⟩:∃nb,((F1:Int) !=(X:Int))=nb:=⟨_,rfl⟩;have HNB:=hid hnb;simp only[Exit.then];rw[show(!true)=false from rfl];go_wp2_with fail;go_region_held3 (fun _=>True) (exact trivial) (first
      |(go_at_call 180;refine(aD1 _).mono ?_;rintro e wm ⟨gt,rfl,hgt,EK,J6⟩;have aR0:Below we.heap.size we wm:=⟨J6.os,J6.tape,J6.output,J6.size,J6.block⟩;clear J6 hgt)
      |(go_at_call 181;refine(iS.out _ _ _ aR0 EK).mono ?_;rintro e wv ⟨rfl,rfl⟩))
     all_goals(
      have HBm:=hid (HBe.out.belowS aR0);have HGm:=hid (jl HGe.out (jp aR0 (some gr)) hgr);clear EK aR0;cases nb with
      |false=>
       have h9:F1=X:=by have:=HNB.out;simp at this;omega
       have Gu:=hid (show jX mark bs O=0 by rw[HF.out,if_pos h9]);clear h9;go_wp2_with fail;go_ret;exact⟨by rw[Gu.out];rfl,HBm.out,HGm.out⟩
      |true=>
       have h9:F1≠X:=by have:=HNB.out;simp at this;omega
       have Gu:=hid (show jX mark bs O=10 by rw[HF.out,if_neg h9]);clear h9;go_wp2_with fail;go_ret;exact⟨by rw[Gu.out];rfl,HBm.out,HGm.out⟩))
end
abbrev tJ(w:World)(g:Nat):Prop:=ak w g 182 [.slice none 0 0,.slice none 0 0]
def oI(way:Int):Int:=if way<0\/2<=way then 3 else 5
theorem aPu(w:World):Calls prog 104 #[] w fun e w'=>e=.returned (.pointer (some (tZ w.heap.size 0)))/\w.alloc (.cells #[.slice none 0 0,.slice none 0 0] 182)=w':=by
 go_enter func104,ntmps104;go_wp2_with fail;go_ret;exact⟨rfl,rfl⟩
theorem aFx(g:Nat)(way:Int)(A:Option Addr)(n c:Nat)(w:World)(h:way<0\/2<=way):Calls prog 108 #[.pointer (some (tZ g 0)),iV way,.slice A n c] w fun e w'=>e=.returned (iV 3)/\w=w':=by
 rcases h with h|h
 ·go_enter func108,ntmps108;go_wp2_with fail;go_ret;exact⟨rfl,rfl⟩
 ·have h2:decide (way<0)=false:=by simp;omega
  go_enter func108,ntmps108;go_wp2_with fail;go_ret;exact⟨rfl,rfl⟩
theorem aIB{w:World}{g n c:Nat}(i:Int)(b:Nat)(way:Int)(h:tJ w g)(hn:0<n)(hc:w.cell? (tZ b 0)=some (iV i)):Calls prog 108 #[.pointer (some (tZ g 0)),iV way,.slice (some (tZ b 0)) n c] w fun e w'=>e=.returned (iV (oI way))/\w=w':=by
 unfold oI;by_cases hw:way<0\/2<=way
 ·rw[if_pos hw];exact aFx g way _ _ _ _ hw
 ·rw[if_neg hw];have hk:way=0\/way=1:=by omega
  have e0:w.cell? (tZ g 0)=some (.slice none 0 0):=h.cellAt rfl;have e1:w.cell? (tZ g 1)=some (.slice none 0 0):=h.cellAt rfl;have hp:decide ((0:Int)<(n:Int))=true:=by simp;omega
  clear hw;by_cases hi:i<0
  ·rcases hk with rfl|rfl
   ·go_enter func108,ntmps108;go_wp2_with fail;refine wp_loop_rounds (0+1) ?_;rw[rounds_succ];go_wp2_with fail;go_ret;exact⟨rfl,rfl⟩
   ·go_enter func108,ntmps108;go_wp2_with fail;refine wp_loop_rounds (0+1) ?_;rw[rounds_succ];go_wp2_with fail;go_ret;exact⟨rfl,rfl⟩
  ·have h0:decide (i<0)=false:=by simpa using hi
   have h1:decide ((0:Int)<=i)=true:=by simp;omega
   clear hi;rcases hk with rfl|rfl
   ·go_enter func108,ntmps108;go_wp2_with fail;refine wp_loop_rounds (0+1) ?_;rw[rounds_succ];go_wp2_with fail;go_ret;exact⟨rfl,rfl⟩
   ·go_enter func108,ntmps108;go_wp2_with fail;refine wp_loop_rounds (0+1) ?_;rw[rounds_succ];go_wp2_with fail;go_ret;exact⟨rfl,rfl⟩
theorem aBA(way:Int):((oI way)==0)=false/\((oI way) !=0)=true:=by
 unfold oI;split<;>exact⟨rfl,rfl⟩
section
variable{w:World}{g:Nat}
theorem aIs(i way:Int)(h:tJ w g):Calls prog 108 #[.pointer (some (tZ g 0)),iV way,.slice (some (tZ w.heap.size 0)) 1 1] (w.alloc (.cells #[iV i] 3)) fun e w'=>e=.returned (iV (oI way))/\w.alloc (.cells #[iV i] 3)=w':=
 aIB i _ way (h.belowS (ah _ _)) (by omega) (ak.new w 3 [iV i]|>.cellAt rfl)
theorem aPm(i j way:Int)(h:tJ w g):Calls prog 108 #[.pointer (some (tZ g 0)),iV way,.slice (some (tZ w.heap.size 0)) 2 2] (w.alloc (.cells #[iV i,iV j] 3)) fun e w'=>e=.returned (iV (oI way))/\w.alloc (.cells #[iV i,iV j] 3)=w':=
 aIB i _ way (h.belowS (ah _ _)) (by omega) (ak.new w 3 [iV i,iV j]|>.cellAt rfl)
theorem aOl(h:tJ w g):Calls prog 133 #[.pointer (some (tZ g 0)),iV 0] w fun e w'=>e=.returned (.tuple #[.slice none 0 0,.bool false])/\Below w.heap.size w w':=by
 have i1:=hid (aIs 0 0 h);have hb:=hid (ah w (.cells #[iV 0] 3));clear h;go_enter func133,ntmps133;go_wp2_with fail;refine i1.out.mono ?_;rintro e w1⟨rfl,h9⟩;rw[h9]at hb;clear h9;rw[show oI 0=5 from rfl];go_wp2_with fail;go_ret2;exact⟨rfl,hb.out⟩
theorem aOn(way i:Int)(h:tJ w g):Calls prog 41 #[.pointer (some (tZ g 0)),iV way,iV i] w fun e w'=>e=.returned (iV (oI way))/\Below w.heap.size w w':=by
 have i1:=hid (aIs i way h);have hb:=hid (ah w (.cells #[iV i] 3));obtain⟨k1,k2⟩:=aBA way;generalize oI way=x at*
 clear h;go_enter func41,ntmps41;go_wp2_with fail;refine i1.out.mono ?_;rintro e w1⟨rfl,h9⟩;rw[h9]at hb;clear h9;go_wp2_with fail;go_ret;exact⟨rfl,hb.out⟩
theorem aNW(way i:Int)(h:tJ w g):Calls prog 43 #[.pointer (some (tZ g 0)),iV way,iV i] w fun e w'=>e=.returned (iV (oI way))/\Below w.heap.size w w':=by
 have i1:=hid (aIs i way h);have hb:=hid (ah w (.cells #[iV i] 3));obtain⟨k1,k2⟩:=aBA way;generalize oI way=x at*
 clear h;go_enter func43,ntmps43;go_wp2_with fail;refine i1.out.mono ?_;rintro e w1⟨rfl,h9⟩;rw[h9]at hb;clear h9;go_wp2_with fail;go_ret;exact⟨rfl,hb.out⟩
theorem aOC(way i j:Int)(h:tJ w g):Calls prog 45 #[.pointer (some (tZ g 0)),iV way,iV i,iV j] w fun e w'=>e=.returned (iV (oI way))/\Below w.heap.size w w':=by
 have i1:=hid (aPm i j way h);have hb:=hid (ah w (.cells #[iV i,iV j] 3));obtain⟨k1,k2⟩:=aBA way;generalize oI way=x at*
 clear h;go_enter func45,ntmps45;go_wp2_with fail;refine i1.out.mono ?_;rintro e w1⟨rfl,h9⟩;rw[h9]at hb;clear h9;go_wp2_with fail;go_ret;exact⟨rfl,hb.out⟩
theorem aMY(way i j k:Int)(h:tJ w g):Calls prog 47 #[.pointer (some (tZ g 0)),iV way,iV i,iV j,iV k] w fun e w'=>e=.returned (iV (oI way))/\Below w.heap.size w w':=by
 have i1:=hid (aIs i way h);have hb:=hid (ah w (.cells #[iV i] 3));obtain⟨k1,k2⟩:=aBA way;generalize oI way=x at*
 clear h;go_enter func47,ntmps47;go_wp2_with fail;refine i1.out.mono ?_;rintro e w1⟨rfl,h9⟩;rw[h9]at hb;clear h9;go_wp2_with fail;go_ret;exact⟨rfl,hb.out⟩
end
end Go.Proofs.YtfjkpigldogkeaaGreatDoor
