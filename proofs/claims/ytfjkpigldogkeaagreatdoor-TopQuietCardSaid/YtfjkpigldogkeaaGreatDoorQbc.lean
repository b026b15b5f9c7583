/- Contracts of functions that TopQuiet reaches, under the conditions that each states. -/
import Derived.Test.YtfjkpigldogkeaaGreatDoorQba
import Derived.Test.YtfjkpigldogkeaaGreatDoorQbb
set_option linter.all false
set_option maxRecDepth 100000
set_option maxHeartbeats 8000000
namespace Go.Proofs.YtfjkpigldogkeaaGreatDoor
open Go.RowKit Go.ChangeShapes Go.WideShapes Go.ChangeAt Go.Proofs.Tryz
section
variable{w w' w0:World}{d:Nat}{s s':ja}{l:List ay}
theorem aFX(h:ae w0 (dU d s::l) w)(hs:eX s)(keep:Int):
  Calls prog 54 #[.pointer (some (tZ d 0)),.int .u64 keep] w fun e w'=>e=.returned (.tuple #[])/\ae w0 (dU d (s.zQ (dI keep))::l) w':=by
 have i1:=hid (aGN w.heap.size keep ((h.made (T:=31) (xs:=[.int .u64 keep])).perm (List.Perm.swap _ _ _)) hs);clear h;go_enter func54,ntmps54;go_wp2_with fail;refine i1.out.mono ?_;rintro e w1⟨rfl,hA⟩;obtain⟨⟨gl,A,ca⟩,hD⟩:=ae.xK ((hA.perm (List.Perm.swap _ _ _)).drop);obtain⟨_,_,_,_,cf⟩:=hD.uN;obtain⟨_,_,c2,c3,_⟩:=hD.uN;have HD:=hid hD;clear hA hD;go_wp2_with fail;refine bodyPost_end (v:=.tuple #[]) (by simp[results,results54,go_sem]) rfl ?_;refine⟨rfl,?_⟩;have h1:ae w0 (aj d 173 [.slice (some (tZ gl 0)) (s.lay (dI keep)).laid.length (s.lay (dI keep)).laid.length,.slice A (s.lay (dI keep)).waits.length ca,iV (s.lay (dI keep)).yu,.bool (s.lay (dI keep)).down]::qO (s.lay (dI keep)) ⟨gl,A,ca⟩::rE (s.lay (dI keep)) ⟨gl,A,ca⟩::l) w1:=HD.out;exact ae.vT (s:=s.zQ (dI keep)) (a:=⟨gl,A,ca⟩) ((h1.store 2 (iV (-1))).store 3 (.bool false))
end
theorem aHE:(prog.info? 280).map (fun i=>(i.zero,i.size,i.bytes))=some (some (.agg dA),64,64):=by kernel_rfl
theorem aJs(m:Nat):madeCells dA m=(List.replicate m (Value.int .u8 0)).toArray:=by
 apply Array.ext
 ·simp[madeCells]
 ·intro i h1 h2;have h3:i%64<dA.size:=by rw[aA5];exact Nat.mod_lt _ (by decide)
  simp only[madeCells,Array.getElem_map,Array.getElem_range,aA5];rw[getElem!_pos dA _ h3];have e:∀j (h:j<dA.size),dA[j]'h=Value.int .u8 0:=by
   intro j h;have e2:dA[j]'h∈dA:=Array.getElem_mem h;simpa using List.eq_of_mem_replicate (Array.mem_toList_iff.2 e2)
  rw[e _ h3];simp
theorem aGY(n:Nat):(nZ n).laid.flatMap aT=List.replicate (n*64) (Value.int .u8 0):=by
 have e:aT (List.replicate 64 0)=List.replicate 64 (Value.int .u8 0):=by
  rw[aT,List.map_replicate];rfl
 rw[nZ,List.flatMap_replicate,e,List.flatten_replicate_replicate]
theorem aES(n:Nat)(h:n<=128)(w:World):(Instr.makeSlice 170 (iV (n:Int)) (iV (n:Int))).run prog w=.ok (.slice (some (tZ w.heap.size 0)) n n) (w.alloc (.cells ((nZ n).laid.flatMap aT).toArray 280)):=by
 obtain⟨i,hi,hzz⟩:=Option.map_eq_some_iff.1 aHE;simp only[Prod.mk.injEq]at hzz;obtain⟨hz,hs,hb⟩:=hzz;have e:=run_make (P:=prog) w 170 280 i (.agg dA) underlying170 hi hz .i64 .i64 (n:Int) (n:Int) (by omega) (by omega) (by rw[hb];omega) (by omega);rw[e,hs,aGY,<-aJs];rfl
section
variable{w w' w0:World}{d:Nat}{s s':ja}{l:List ay}
theorem aEj(h:ae w0 l w)(n:Nat)(h1:1<=n)(h2:n<=128):
  Calls prog 35 #[iV (n:Int)] w fun e w'=>∃d,e=.returned (.pointer (some (tZ d 0)))/\ae w0 (dU d (nZ n)::l) w':=by
 have g1:max (n:Int) 1=(n:Int):=by omega
 have g2:min (n:Int) 128=(n:Int):=by omega
 have hmk:=aES n h2;have H:=hid h;clear h;go_enter func35,ntmps35;go_wp2_with fail;refine bodyPost_ret (v:=.pointer (some (tZ (w.heap.size+1) 0))) (by simp[results,results35,go_sem]) rfl ?_;refine⟨_,rfl,?_⟩;have h3:=(((H.out).made (T:=280) (xs:=(nZ n).laid.flatMap aT)).uX 282 65).made (T:=173) (xs:=[.slice (some (tZ w.heap.size 0)) n n,.slice none 0 0,iV (-1),.bool false]);rw[show(w.alloc (.cells ((nZ n).laid.flatMap aT).toArray 280)).heap.size=w.heap.size+1 by simp]at h3;have h4:=h3.perm (List.Perm.cons _ (List.Perm.swap _ _ _));have e:(nZ n).laid.length=n:=by simp[nZ]
 refine ae.vT (a:=⟨w.heap.size,none,0⟩) ?_;rw[pX,e];exact h4
end
structure nI (w:World) (d gl:Nat) (A:Option Addr) (ca:Nat) (L:List (List UInt8)) (fu:Int):Prop where
 blk:ak w d 173 [.slice (some (tZ gl 0)) L.length L.length,.slice A 0 ca,iV fu,.bool false]
 laid:ak w gl 280 (L.flatMap aT)
theorem nI.belowS{w w':World}{d gl:Nat}{A:Option Addr}{ca:Nat}{L:List (List UInt8)}{fu:Int}(h:nI w d gl A ca L fu)(hb:Below w.heap.size w w'):nI w' d gl A ca L fu:=⟨h.blk.belowS hb,h.laid.belowS hb⟩
def dH(L:List (List UInt8))(fu:Int):ja:=⟨L,[],fu,false⟩
section
variable{w w' w0:World}{d gl ca:Nat}{A:Option Addr}{L:List (List UInt8)}{fu:Int}{l:List ay}
theorem ae.zS(h:ae w0 (dU d (dH L fu)::l) w):∃gl A ca,nI w d gl A ca L fu:=by
 obtain⟨⟨gl,A,ca⟩,h⟩:=h.xK;exact⟨gl,A,ca,ae.blk h,ae.blk (h.at_ 1 rfl)⟩
theorem aAV(h:nI w d gl A ca L fu):Calls prog 182 #[.pointer (some (tZ d 0))] w fun e w'=>e=.returned (iV (L.length:Int))/\w=w':=by
 have c0:w.cell? (tZ d 0)=some (.slice (some (tZ gl 0)) L.length L.length):=h.blk.cellAt rfl;clear h;go_enter func182,ntmps182;go_wp2_with fail;go_ret;exact⟨rfl,rfl⟩
theorem aHL(h:nI w d gl A ca L fu):Calls prog 57 #[.pointer (some (tZ d 0))] w fun e w'=>e=.returned (.bool false)/\w=w':=by
 have c3:w.cell? (tZ d 3)=some (.bool false):=h.blk.cellAt rfl;clear h;go_enter func57,ntmps57;go_wp2_with fail;go_ret;exact⟨rfl,rfl⟩
theorem aGx(h:nI w d gl A ca L fu)(k:Nat)(hk:k<L.length):Calls prog 254 #[.pointer (some (tZ d 0)),iV (k:Int)] w fun e w'=>e=.returned (iV 0)/\w=w':=by
 have c0:w.cell? (tZ d 0)=some (.slice (some (tZ gl 0)) L.length L.length):=h.blk.cellAt rfl;have g1:decide ((k:Int)<0)=false:=decide_eq_false (by omega);have g2:decide ((L.length:Int)<=(k:Int))=false:=decide_eq_false (by omega);have g2':decide (L.length<=k)=false:=decide_eq_false (by omega);generalize L.length=N at*
 clear h hk;go_enter func254,ntmps254;go_wp2_with fail;go_ret;exact⟨rfl,rfl⟩
theorem Ko(h:nI w d gl A ca L fu)(h64:∀x∈L,x.length=64)(k:Nat)(hk:k<L.length)(b:List UInt8)(hb:L[k]? =some b):
  Calls prog 187 #[.pointer (some (tZ d 0)),iV (k:Int)] w fun e w'=>∃g,e=.returned (.tuple #[.slice (some (tZ g 0)) 64 64,iV 0])/\w.heap.size<=g/\ak w' g 5 (b.map bV)/\Below w.heap.size w w':=by
 have i1:=hid (aGx h k hk);have c0:w.cell? (tZ d 0)=some (.slice (some (tZ gl 0)) L.length L.length):=h.blk.cellAt rfl;have c1:w.cell? (tZ d 1)=some (.slice A 0 ca):=h.blk.cellAt rfl;have c3:w.cell? (tZ d 3)=some (.bool false):=h.blk.cellAt rfl;have hdlt:=h.blk.lt;obtain⟨N,hN⟩:∃N,L.length=N:=⟨_,rfl⟩;have BL:=h64 b (List.mem_of_getElem? hb);have hrg:w.rangeAt gl (k*64) (aT b):=h.laid.range _ _ fun j v hv=>by
  have hj:=(List.getElem?_eq_some_iff.1 hv).1;simp[aT,BL]at hj;rw[aGy _ k j b h64 hb hj];exact hv
 have hsl:(aT b).length=64:=by simp[aT,BL]
 have GL:(prog.info? 280).map (·.size)=some (aT b).length:=by rw[hsl];exact aC4
 have DR:(prog.info? 280).map (·.size)=some (aT b).toArray.size:=by rw[List.size_toArray];exact GL
 have hs1:(aT b).toArray.all (·.oneCell')=true:=all_oneCell_toArray (iG _);have hzs:dA.size=(aT b).toArray.size:=by
  rw[aA5];simp[hsl]
 have hz:=aFd;have hz2:=aA5;have hM:=hid (ak.new w 280 (aT b));have MN:∀o,(w.alloc o).cell? (tZ d 1)=some (.slice A 0 ca):=fun o=>(World.cell?_alloc_lt w o ⟨d,1,none⟩ hdlt).trans c1
 have Kq:=hid (ah w (.cells (aT b).toArray 280));rw[hN]at c0 hk;have q1:(0:Int)<=(k:Int):=Int.natCast_nonneg _;have q2:(k:Int)<(N:Int):=by omega
 have CP:=hid BL;clear h hN hb BL h64;go_enter func187,ntmps187;go_wp2_with fail;refine i1.out.mono ?_;rintro e w1⟨rfl,rfl⟩;go_wp2_with (first
  |(refine wpList_load_mid rfl 280 _ rfl gl (k*64) rfl (aT b) _ hrg underlying280 rfl GL ?_)
  |(refine wpList_store_row rfl 280 _ _ rfl w.heap.size (aT b).toArray rfl rfl 280 dA (heap_alloc_new w _) DR hzs hs1 ?_;rw[World.setRow_alloc_new]))
 have HM:=hid hM.out;clear hM c0 c1 MN c3 hrg hsl GL DR hs1 hzs i1 q1 q2;obtain⟨W1,hW1⟩:∃W1,w.alloc (.cells (aT b).toArray 280)=W1:=⟨_,rfl⟩;rw[hW1]at HM Kq ⊢;clear hW1;have Eg:=hid Kq.out.size;generalize hgg:w.heap.size=gg at*
 have MV:=hid hgg;clear hgg;refine wp_loop_rounds 1 ?_;rw[rounds_succ];have hsl:=aFA gg 0;have hmk:=aBf;have vH:=hid (ak.new W1 5 (List.replicate 64 (Value.int .u8 0)));have xQ:=HM.out.alloc (.cells dA 5);have vW:ai (W1.alloc (.cells dA 5)) (W1.alloc (.cells dA 5)).heap.size 1 (some (tZ gg 0)) 64 (b.map bV):=ai.lit (cs:=(aT b).toArray) xQ (by simp[aT,CP.out]);have AQ:=aAY (o:=0) (n:=64) (dc:=64) (c:=64) (bs:=b) vH.out (by simp) vW (by omega);rw[show min 64 64=64 from rfl,List.take_of_length_le (by rw[CP.out];exact Nat.le_refl _),List.length_map,CP.out]at AQ;have vN:=ak.aQc vH.out (b.map bV) (by simp[CP.out]);have hk2:=gB W1.heap.size (b.map bV) 0 (W1.alloc (.cells dA 5));obtain⟨W2,hW2⟩:∃W2,(W1.alloc (.cells dA 5)).setCells W1.heap.size 0 (b.map bV)=W2:=⟨_,rfl⟩;have hcp':(Builtin.copy_ #[37,37] 3 #[.slice (some (tZ W1.heap.size 0)) 64 64,.slice (some (tZ gg 0)) 64 64]).run prog (W1.alloc (.cells dA 5))=.ok (goInt (64:Nat)) W2:=by rw[<-hW2];exact AQ
 rw[show(W1.alloc (.cells (List.replicate 64 (Value.int .u8 0)).toArray 5)).setCells W1.heap.size 0 (b.map bV)=W2 from hW2]at vN;rw[hW2]at hk2;have AO:Below W1.heap.size W1 W2:=⟨hk2.1,hk2.2.1,hk2.2.2.1,by rw[hk2.2.2.2.1];simp,fun k hk=>(hk2.2.2.2.2 k (by omega)).trans (Below.heap_alloc W1 _ k hk)⟩;have vY:=hid vN;have HBE:=hid (Kq.out.trans (AO.mono Eg.out));have hgs:=Eg;clear vH vW AQ vN hW2 AO hk2 xQ;go_wp2_with fail;go_ret2;exact⟨_,rfl,by rw[MV.out];exact hgs.out,vY.out,by rw[MV.out];exact HBE.out⟩
end
def rH:lq:=⟨0,0,0,0,0,0⟩
def qJ(d p a0 a1:Nat)(held:Int)(r:lq):List Value:=.pointer (some (tZ d 0)):: iV (p:Int):: iV (a0:Int):: iV (a1:Int):: iV held::oJ r
section
variable{w w' w0:World}{d gl ca:Nat}{A:Option Addr}{L:List (List UInt8)}{fu:Int}{l:List ay}
theorem aFT(h:nI w d gl A ca L fu)(p:Nat)(hp:p<4)(hl:10*p+1<L.length):
  Calls prog 186 #[.pointer (some (tZ d 0)),iV (p:Int)] w fun e w'=>∃lg,e=.returned (.tuple #[.pointer (some (tZ lg 0)),iV 0])/\w.heap.size<=lg/\ak w' lg 287 (qJ d p (10*p) (10*p+1) (-1) rH)/\Below w.heap.size w w':=by
 have i0:=hid (fun c (hc:c<2) w=>aJ6 p c hp hc w);have i1:=hid (fun W (hb:Below w.heap.size w W)=>aAV (h.belowS hb));obtain⟨W,hW,hX,hbW,hsW⟩:∃W,w.alloc (.cells #[.pointer (some (tZ d 0)),iV (p:Int),iV 0,iV 0,iV (-1),iV 0,iV 0,iV 0,iV 0,iV 0,iV 0] 287)=W/\ak W w.heap.size 287 (qJ d p 0 0 (-1) rH)/\Below w.heap.size w W/\W.heap.size=w.heap.size+1:=
  ⟨_,rfl,ak.new w 287 (qJ d p 0 0 (-1) rH),ah _ _,by simp⟩
 have HX:=hid hX;have IZ:=hid hbW;obtain⟨N,hN⟩:∃N,L.length=N:=⟨_,rfl⟩;rw[hN]at i1 hl;have g0:decide ((N:Int)<=((10*p+0:Nat):Int))=false:=decide_eq_false (by omega);have g1:decide ((N:Int)<=((10*p+1:Nat):Int))=false:=decide_eq_false (by omega);have g0':decide (N<=10*p+0)=false:=decide_eq_false (by omega);have g1':decide (N<=10*p+1)=false:=decide_eq_false (by omega);obtain⟨P0,GN⟩:∃P0:Nat,10*p+0=P0:=⟨_,rfl⟩;obtain⟨P1,F5⟩:∃P1:Nat,10*p+1=P1:=⟨_,rfl⟩;have j0:=hid (i0.out 0 (by omega));have j1:=hid (i0.out 1 (by omega));rw[GN]at j0 g0 g0';rw[F5]at j1 g1 g1';have Eh:=hid GN;have GR:=hid F5;clear h hX hbW hN GN F5 i0 hsW;go_enter func186,ntmps186;go_wp2_with fail;clear hW;refine wp_loop_rounds 3 ?_;rw[rounds_succ];go_wp2_with fail;refine(j0.out _).mono ?_;rintro e w2⟨rfl,hb2⟩;have uz:=hid (IZ.out.trans (hb2.mono IZ.out.size));have vh:=HX.out.belowS hb2;have z2:w2.cell? (tZ w.heap.size 2)=some (iV 0):=vh.cellAt rfl;have zf:=vh.frozen;have vV:=hid vh;clear hb2 vh j0;go_wp2_with fail;refine(i1.out _ uz.out).mono ?_;rintro e w3⟨rfl,rfl⟩;go_wp2_with fail;have JS:=hid (vV.out.uh 2 (iV (P0:Int)));have GU:=hid (uz.out.setCell (p:=⟨w.heap.size,2,none⟩) (Nat.le_refl _) (iV (P0:Int)));generalize w2.setCell (tZ w.heap.size 2) (iV (P0:Int))=w3 at*
 clear z2 zf;rw[rounds_succ];go_wp2_with fail;refine(j1.out _).mono ?_;rintro e w4⟨rfl,hb4⟩;have vI:=hid (GU.out.trans (hb4.mono GU.out.size));have Bf:=JS.out.belowS hb4;have z3:w4.cell? (tZ w.heap.size 3)=some (iV 0):=Bf.cellAt rfl;have zf:=Bf.frozen;have wX:=hid Bf;clear hb4 Bf j1;go_wp2_with fail;refine(i1.out _ vI.out).mono ?_;rintro e w5⟨rfl,rfl⟩;go_wp2_with fail;have I0:=hid (wX.out.uh 3 (iV (P1:Int)));have I4:=hid (vI.out.setCell (p:=⟨w.heap.size,3,none⟩) (Nat.le_refl _) (iV (P1:Int)));generalize w4.setCell (tZ w.heap.size 3) (iV (P1:Int))=w5 at*
 clear z3 zf;rw[rounds_succ];go_wp2_with fail;go_ret2;exact⟨_,rfl,Nat.le_refl _,by rw[show 10*p+1=P1 from GR.out,show 10*p=P0 from Eh.out];exact I0.out,I4.out⟩
end
def o8(lg d p a0 a1:Nat)(held:Int)(r:lq):ay:=aj lg 287 (qJ d p a0 a1 held r)
theorem aOm{L:List (List UInt8)}(h64:∀x∈L,x.length=64)(h1:1<=L.length)(h2:L.length<=128):eX (dH L (-1)):=
 ⟨h64,fun x hx=>by simp[dH]at hx,h1,h2,by simp[dH],by simp[dH],by simp[dH]⟩
theorem aIz(L:List (List UInt8)):(dH L (-1)).off=false:=rfl
theorem aBP(L:List (List UInt8)):(dH L (-1)).um=dH L (-1):=by
 unfold ja.um;rw[if_neg (by rw[aIz];decide)];rfl
theorem aGn(L:List (List UInt8))(k:Nat)(b:List UInt8):((dH L (-1)).um.put k b).off=false:=by rw[aBP];rfl
theorem aGv(L:List (List UInt8))(k:Nat)(b:List UInt8):(((dH L (-1)).um.put k b).um.lay fun _=>true)=dH (L.set k b) (-1):=by
 rw[aBP];have e:((dH L (-1)).put k b).um=(dH L (-1)).put k b:=by
  unfold ja.um;rw[if_neg (by rw[show((dH L (-1)).put k b).off=false from rfl];decide)];rfl
 rw[e];rfl
theorem aH4{L:List (List UInt8)}(h:eX (dH L (-1))){k:Nat}{b:List UInt8}(hk:k<L.length)(hb:b.length=64):eX ((dH L (-1)).um.put k b):=by
 rw[aBP];exact h.put hk hb (by simp[dH])
theorem gZ{L:List (List UInt8)}(h:eX (dH L (-1))){k:Nat}{b:List UInt8}(hb:b.length=64):eX (dH (L.set k b) (-1)):=
 aOm (fun x hx=>(List.mem_or_eq_of_mem_set hx).elim (h.laid x) (fun e=>by rw[e];exact hb)) (by rw[List.length_set];exact h.l1) (by rw[List.length_set];exact h.l2)
section
variable{w w' w0:World}{d:Nat}{A:Option Addr}{L:List (List UInt8)}{l:List ay}
theorem aBo(A:Option Addr)(c:Nat)(b:List UInt8)(h:ae w0 (dU d (dH L (-1))::iI 1 A 64 (b.map bV)::l) w)(hs:eX (dH L (-1)))(k:Nat)(hk:k<L.length):
  Calls prog 307 #[.pointer (some (tZ d 0)),iV (k:Int),.slice A 64 c] w fun e w'=>e=.returned (iV 0)/\ae w0 (dU d ((dH L (-1)).um.put k b)::iI 1 A 64 (b.map bV)::l) w':=
 aGD A c b h hs k hk (aIz L)
theorem aAX{b:List UInt8}{k:Nat}(h:ae w0 (dU d ((dH L (-1)).um.put k b)::l) w)(hs:eX (dH L (-1)))(hk:k<L.length)(hb:b.length=64):
  Calls prog 308 #[.pointer (some (tZ d 0))] w fun e w'=>e=.returned (iV 0)/\ae w0 (dU d (dH (L.set k b) (-1))::l) w':=by
 have:=aGF h (aH4 hs hk hb) (aGn L k b);rwa[aGv]at this
theorem aE7{lg p a0 a1:Nat}{held:Int}{r:lq}(A:Option Addr)(cap:Nat)(b:List UInt8)(h:ae w0 (dU d (dH L (-1))::iI 1 A 64 (b.map bV)::o8 lg d p a0 a1 held r::l) w)(hs:eX (dH L (-1)))(c k:Nat)(hc:c<2)(hck:(qJ d p a0 a1 held r)[2+c]? =some (iV (k:Int)))(hk:k<L.length)(hb:b.length=64):
  Calls prog 243 #[.pointer (some (tZ lg 0)),iV (c:Int),.slice A 64 cap] w fun e w'=>e=.returned (iV 0)/\ae w0 (dU d (dH (L.set k b) (-1))::iI 1 A 64 (b.map bV)::o8 lg d p a0 a1 held r::l) w':=by
 have hB:∀W s,ae w0 (dU d s::iI 1 A 64 (b.map bV)::o8 lg d p a0 a1 held r::l) W->W.cell? (tZ lg 0)=some (.pointer (some (tZ d 0)))/\W.cell? (tZ lg (2+c))=some (iV (k:Int)):=fun W s h=>by
  have:=ae.blk (h.at_ 2 rfl);exact⟨this.cellAt rfl,this.cellAt hck⟩
 have HB:=hid hB;have yD:=hB _ _ h;obtain⟨q0,q1⟩:=yD;have yD:=hB _ _ h;have i1:=hid (aBo A cap b h.drew hs k hk);have i2:=hid (fun W (h:ae w0 (dU d ((dH L (-1)).um.put k b)::iI 1 A 64 (b.map bV)::o8 lg d p a0 a1 held r::l) W)=>aAX h hs hk hb);have x1:(0:Int)<=(c:Int):=Int.natCast_nonneg _;have x2:(c:Int)<2:=by omega
 clear h hs hck hk hb hB;go_enter func243,ntmps243;go_wp2_with fail;go_region_held3 (fun w'=>w'.cell? (tZ lg 0)=some (.pointer (some (tZ d 0)))/\w'.cell? (tZ lg (2+c))=some (iV (k:Int))) (go_keep)
  (first|(go_at_call 307;refine i1.out.mono ?_;rintro e w1 ⟨rfl,vH⟩;have xY:=hid vH;obtain⟨z0,z1⟩:=HB.out _ _ vH;clear vH))
 all_goals(
  go_wp2_with fail;refine(i2.out _ xY.out).mono ?_;rintro e w2⟨rfl,vN⟩;have vY:=hid vN;clear vN;go_wp2_with fail;go_ret;exact⟨rfl,vY.out⟩)
end
def iU(d p k:Nat)(has:Bool)(uq size uF:Nat):List Value:=[.pointer (some (tZ d 0)),iV (p:Int),iV (k:Int),.bool has,iV (uq:Int),iV (size:Int),iV (uF:Int)]
def cH(sl d p k:Nat)(has:Bool)(uq size uF:Nat):ay:=aj sl 390 (iU d p k has uq size uF)
section
variable{w w' w0:World}{d sl p k:Nat}{has:Bool}{uq size uF:Nat}{A:Option Addr}{L:List (List UInt8)}{l:List ay}
theorem aIi(h:ak w sl 390 (iU d p k has uq size uF))(hp:p<4)(hk:k<2):
  Calls prog 301 #[.pointer (some (tZ sl 0))] w fun e w'=>e=.returned (iV ((10*p+(2+k*4):Nat):Int))/\Below w.heap.size w w':=by
 have c1:w.cell? (tZ sl 1)=some (iV (p:Int)):=h.cellAt rfl;have c2:w.cell? (tZ sl 2)=some (iV (k:Int)):=h.cellAt rfl;have yD:w.cell? (tZ sl 1)=some (iV (p:Int))/\w.cell? (tZ sl 2)=some (iV (k:Int)):=⟨c1,c2⟩;have HX:=hid h;have i1:=hid (fun w=>aDj p k hp hk w);generalize 10*p+(2+k*4)=P at i1 ⊢;clear h hp hk;go_enter func301,ntmps301;go_wp2_with fail;go_region_held3 (fun w'=>w'.cell? (tZ sl 1)=some (iV (p:Int))/\w'.cell? (tZ sl 2)=some (iV (k:Int))) (go_keep)
  (first|(go_at_call 258;refine(i1.out _).mono ?_;rintro e w1 ⟨rfl,hb1⟩;have hx1:=HX.out.drew.belowS hb1;have z1:w1.cell? (tZ sl 1)=some (iV (p:Int)):=hx1.cellAt rfl;have z2:w1.cell? (tZ sl 2)=some (iV (k:Int)):=hx1.cellAt rfl;have HB:=hid (show Below w.heap.size w w1 from⟨hb1.os,hb1.tape,hb1.output,hb1.size,hb1.block⟩);clear hx1 hb1))
 all_goals(
  go_wp2_with fail;go_ret;exact⟨rfl,HB.out⟩)
theorem aKP(gs cs:Nat)(A0:Option Addr)(c0 k0:Nat)(b0:List UInt8)(Dt:k0<L.length)(hb0:b0.length=64)(h:ae w0 (dU d (dH L (-1))::iI 1 A0 64 (b0.map bV)::aj gs 433 [iV (k0:Int),.slice A0 64 c0]::cH sl d p k has uq size uF::l) w)(hs:eX (dH L (-1))):
  Calls prog 300 #[.pointer (some (tZ sl 0)),.slice (some (tZ gs 0)) 1 cs] w fun e w'=>e=.returned (iV 0)/\ae w0 (dU d (dH (L.set k0 b0) (-1))::iI 1 A0 64 (b0.map bV)::aj gs 433 [iV (k0:Int),.slice A0 64 c0]::cH sl d p k has uq size uF::l) w':=by
 have HB:Hid (∀W s l',ae w0 (dU d s::iI 1 A0 64 (b0.map bV)::aj gs 433 [iV (k0:Int),.slice A0 64 c0]::cH sl d p k has uq size uF::l') W->W.cell? (tZ sl 0)=some (.pointer (some (tZ d 0)))/\W.cell? (tZ gs 0)=some (iV (k0:Int))/\W.cell? (tZ gs 1)=some (.slice A0 64 c0)):=hid (fun W s l' h=>by
  have h1:=ae.blk (h.at_ 2 rfl);have h2:=ae.blk (h.at_ 3 rfl);exact⟨h2.cellAt rfl,h1.cellAt rfl,h1.cellAt rfl⟩)
 have zq:=hid hs;have zA:=hid (gZ zq.out (k:=k0) hb0);have i0:Hid (∀W l',ae w0 (dU d (dH L (-1))::iI 1 A0 64 (b0.map bV)::aj gs 433 [iV (k0:Int),.slice A0 64 c0]::cH sl d p k has uq size uF::l') W->Calls prog 307 #[.pointer (some (tZ d 0)),iV (k0:Int),.slice A0 64 c0] W fun e w'=>e=.returned (iV 0)/\ae w0 (dU d ((dH L (-1)).um.put k0 b0)::iI 1 A0 64 (b0.map bV)::aj gs 433 [iV (k0:Int),.slice A0 64 c0]::cH sl d p k has uq size uF::l') w'):=hid (fun W l' h=>(aBo A0 c0 b0 (h) zq.out k0 (by simpa using Dt)).mono (fun e w' hh=>⟨hh.1,hh.2⟩));have i1:=hid (fun W l' (h:ae w0 (dU d ((dH L (-1)).um.put k0 b0)::iI 1 A0 64 (b0.map bV)::aj gs 433 [iV (k0:Int),.slice A0 64 c0]::cH sl d p k has uq size uF::l') W)=>aAX h zq.out (by simpa using Dt) hb0);have HA:=hid h;clear h hs Dt hb0 zq zA;go_enter func300,ntmps300;go_wp2_with fail;refine wp_loop_rounds 2 ?_;rw[rounds_succ];obtain⟨q,p0,s0⟩:=HB.out _ _ _ HA.out;go_wp2_with fail
 obtain⟨EW,hwx,hx,MX⟩:∃W,w.alloc (.cells #[iV (k0:Int),.slice A0 64 c0] 433)=W/\Hid (ak W w.heap.size 433 [iV (k0:Int),.slice A0 64 c0])/\Hid (ae w0 (dU d (dH L (-1))::iI 1 A0 64 (b0.map bV)::aj gs 433 [iV (k0:Int),.slice A0 64 c0]::cH sl d p k has uq size uF::aj w.heap.size 433 [iV (k0:Int),.slice A0 64 c0]::l) W):=⟨_,rfl,hid (ak.new w _ [iV (k0:Int),.slice A0 64 c0]),hid ((HA.out.made (T:=433) (xs:=[iV (k0:Int),.slice A0 64 c0])).perm (List.Perm.append_right (l) (List.perm_append_comm (l₁:=[aj w.heap.size 433 [iV (k0:Int),.slice A0 64 c0]]) (l₂:=[dU d (dH L (-1)),iI 1 A0 64 (b0.map bV),aj gs 433 [iV (k0:Int),.slice A0 64 c0],cH sl d p k has uq size uF]))))⟩;rw[hwx];clear hwx q p0 s0;obtain⟨q,_⟩:=HB.out _ _ _ MX.out;have y0:EW.cell? (tZ w.heap.size 0)=some (iV (k0:Int)):=hx.out.cellAt rfl;have y1:EW.cell? (tZ w.heap.size 1)=some (.slice A0 64 c0):=hx.out.cellAt rfl;have yD:EW.cell? (tZ sl 0)=some (.pointer (some (tZ d 0)))/\EW.cell? (tZ w.heap.size 0)=some (iV (k0:Int))/\EW.cell? (tZ w.heap.size 1)=some (.slice A0 64 c0):=⟨q,y0,y1⟩;have HF:=hid (fun W s (h:ae w0 (dU d s::iI 1 A0 64 (b0.map bV)::aj gs 433 [iV (k0:Int),.slice A0 64 c0]::cH sl d p k has uq size uF::aj w.heap.size 433 [iV (k0:Int),.slice A0 64 c0]::l) W)=>ae.blk (h.at_ 4 rfl))
 go_region_held3 (fun w'=>w'.cell? (tZ sl 0)=some (.pointer (some (tZ d 0)))/\w'.cell? (tZ w.heap.size 0)=some (iV (k0:Int))/\w'.cell? (tZ w.heap.size 1)=some (.slice A0 64 c0)) (go_keep)
  (first|(go_at_call 307;refine(i0.out _ _ MX.out.drew).mono ?_;rintro e v0 ⟨rfl,vH⟩;have ML:=hid vH;obtain⟨z0,_⟩:=HB.out _ _ _ vH;have EX:=HF.out _ _ vH;have z1:v0.cell? (tZ w.heap.size 0)=some (iV (k0:Int)):=EX.cellAt rfl;have z2:v0.cell? (tZ w.heap.size 1)=some (.slice A0 64 c0):=EX.cellAt rfl;clear vH EX))
 all_goals(
  clear q y0 y1 yD z1 z2 HF;go_wp2_with fail;refine(i1.out _ _ ML.out).mono ?_;rintro e u0⟨rfl,vN⟩;have Na:=hid vN;clear vN z0;go_wp2_with fail;rw[rounds_succ];obtain⟨q,p0,s0⟩:=HB.out _ _ _ Na.out;go_wp2_with fail;go_ret;exact⟨rfl,(Na.out.perm (List.Perm.append_right l (List.perm_append_comm (l₁:=[dU d (dH (L.set k0 b0) (-1)),iI 1 A0 64 (b0.map bV),aj gs 433 [iV (k0:Int),.slice A0 64 c0],cH sl d p k has uq size uF]) (l₂:=[aj w.heap.size 433 [iV (k0:Int),.slice A0 64 c0]])))).drop⟩)
theorem aMl(gs cs:Nat)(A0:Option Addr)(c0 k0:Nat)(b0:List UInt8)(Dt:k0<L.length)(hb0:b0.length=64)(A1:Option Addr)(c1 k1:Nat)(b1:List UInt8)(hk1:k1<L.length)(hb1:b1.length=64)(h:ae w0 (dU d (dH L (-1))::iI 1 A0 64 (b0.map bV)::iI 1 A1 64 (b1.map bV)::aj gs 433 [iV (k0:Int),.slice A0 64 c0,iV (k1:Int),.slice A1 64 c1]::cH sl d p k has uq size uF::l) w)(hs:eX (dH L (-1))):
  Calls prog 300 #[.pointer (some (tZ sl 0)),.slice (some (tZ gs 0)) 2 cs] w fun e w'=>e=.returned (iV 0)/\ae w0 (dU d (dH ((L.set k0 b0).set k1 b1) (-1))::iI 1 A0 64 (b0.map bV)::iI 1 A1 64 (b1.map bV)::aj gs 433 [iV (k0:Int),.slice A0 64 c0,iV (k1:Int),.slice A1 64 c1]::cH sl d p k has uq size uF::l) w':=by
 have HB:Hid (∀W s l',ae w0 (dU d s::iI 1 A0 64 (b0.map bV)::iI 1 A1 64 (b1.map bV)::aj gs 433 [iV (k0:Int),.slice A0 64 c0,iV (k1:Int),.slice A1 64 c1]::cH sl d p k has uq size uF::l') W->W.cell? (tZ sl 0)=some (.pointer (some (tZ d 0)))/\W.cell? (tZ gs 0)=some (iV (k0:Int))/\W.cell? (tZ gs 1)=some (.slice A0 64 c0)/\W.cell? (tZ gs 2)=some (iV (k1:Int))/\W.cell? (tZ gs 3)=some (.slice A1 64 c1)):=hid (fun W s l' h=>by
  have h1:=ae.blk (h.at_ 3 rfl);have h2:=ae.blk (h.at_ 4 rfl);exact(by and_intros<;>first|exact h2.cellAt rfl|exact h1.cellAt rfl))
 have zq:=hid hs;have zA:=hid (gZ zq.out (k:=k0) hb0);have yX:=hid (gZ zA.out (k:=k1) hb1);have i0:Hid (∀W l',ae w0 (dU d (dH L (-1))::iI 1 A0 64 (b0.map bV)::iI 1 A1 64 (b1.map bV)::aj gs 433 [iV (k0:Int),.slice A0 64 c0,iV (k1:Int),.slice A1 64 c1]::cH sl d p k has uq size uF::l') W->Calls prog 307 #[.pointer (some (tZ d 0)),iV (k0:Int),.slice A0 64 c0] W fun e w'=>e=.returned (iV 0)/\ae w0 (dU d ((dH L (-1)).um.put k0 b0)::iI 1 A0 64 (b0.map bV)::iI 1 A1 64 (b1.map bV)::aj gs 433 [iV (k0:Int),.slice A0 64 c0,iV (k1:Int),.slice A1 64 c1]::cH sl d p k has uq size uF::l') w'):=hid (fun W l' h=>(aBo A0 c0 b0 (h) zq.out k0 (by simpa using Dt)).mono (fun e w' hh=>⟨hh.1,hh.2⟩));have i1:=hid (fun W l' (h:ae w0 (dU d ((dH L (-1)).um.put k0 b0)::iI 1 A0 64 (b0.map bV)::iI 1 A1 64 (b1.map bV)::aj gs 433 [iV (k0:Int),.slice A0 64 c0,iV (k1:Int),.slice A1 64 c1]::cH sl d p k has uq size uF::l') W)=>aAX h zq.out (by simpa using Dt) hb0)
 have i2:Hid (∀W l',ae w0 (dU d (dH (L.set k0 b0) (-1))::iI 1 A0 64 (b0.map bV)::iI 1 A1 64 (b1.map bV)::aj gs 433 [iV (k0:Int),.slice A0 64 c0,iV (k1:Int),.slice A1 64 c1]::cH sl d p k has uq size uF::l') W->Calls prog 307 #[.pointer (some (tZ d 0)),iV (k1:Int),.slice A1 64 c1] W fun e w'=>e=.returned (iV 0)/\ae w0 (dU d ((dH (L.set k0 b0) (-1)).um.put k1 b1)::iI 1 A0 64 (b0.map bV)::iI 1 A1 64 (b1.map bV)::aj gs 433 [iV (k0:Int),.slice A0 64 c0,iV (k1:Int),.slice A1 64 c1]::cH sl d p k has uq size uF::l') w'):=hid (fun W l' h=>(aBo A1 c1 b1 (h.perm (List.Perm.cons _ (List.Perm.swap _ _ _))) zA.out k1 (by simpa using hk1)).mono (fun e w' hh=>⟨hh.1,hh.2.perm (List.Perm.cons _ (List.Perm.swap _ _ _))⟩));have i3:=hid (fun W l' (h:ae w0 (dU d ((dH (L.set k0 b0) (-1)).um.put k1 b1)::iI 1 A0 64 (b0.map bV)::iI 1 A1 64 (b1.map bV)::aj gs 433 [iV (k0:Int),.slice A0 64 c0,iV (k1:Int),.slice A1 64 c1]::cH sl d p k has uq size uF::l') W)=>aAX h zA.out (by simpa using hk1) hb1);have HA:=hid h;clear h hs Dt hb0 hk1 hb1 zq zA yX;go_enter func300,ntmps300;go_wp2_with fail;refine wp_loop_rounds 3 ?_;rw[rounds_succ];obtain⟨q,p0,s0,p1,s1⟩:=HB.out _ _ _ HA.out;go_wp2_with fail
 obtain⟨EW,hwx,hx,MX⟩:∃W,w.alloc (.cells #[iV (k0:Int),.slice A0 64 c0] 433)=W/\Hid (ak W w.heap.size 433 [iV (k0:Int),.slice A0 64 c0])/\Hid (ae w0 (dU d (dH L (-1))::iI 1 A0 64 (b0.map bV)::iI 1 A1 64 (b1.map bV)::aj gs 433 [iV (k0:Int),.slice A0 64 c0,iV (k1:Int),.slice A1 64 c1]::cH sl d p k has uq size uF::aj w.heap.size 433 [iV (k0:Int),.slice A0 64 c0]::l) W):=⟨_,rfl,hid (ak.new w _ [iV (k0:Int),.slice A0 64 c0]),hid ((HA.out.made (T:=433) (xs:=[iV (k0:Int),.slice A0 64 c0])).perm (List.Perm.append_right (l) (List.perm_append_comm (l₁:=[aj w.heap.size 433 [iV (k0:Int),.slice A0 64 c0]]) (l₂:=[dU d (dH L (-1)),iI 1 A0 64 (b0.map bV),iI 1 A1 64 (b1.map bV),aj gs 433 [iV (k0:Int),.slice A0 64 c0,iV (k1:Int),.slice A1 64 c1],cH sl d p k has uq size uF]))))⟩;rw[hwx];clear hwx q p0 s0 p1 s1;obtain⟨q,_⟩:=HB.out _ _ _ MX.out;have y0:EW.cell? (tZ w.heap.size 0)=some (iV (k0:Int)):=hx.out.cellAt rfl;have y1:EW.cell? (tZ w.heap.size 1)=some (.slice A0 64 c0):=hx.out.cellAt rfl;have yD:EW.cell? (tZ sl 0)=some (.pointer (some (tZ d 0)))/\EW.cell? (tZ w.heap.size 0)=some (iV (k0:Int))/\EW.cell? (tZ w.heap.size 1)=some (.slice A0 64 c0):=⟨q,y0,y1⟩
 have HF:=hid (fun W s (h:ae w0 (dU d s::iI 1 A0 64 (b0.map bV)::iI 1 A1 64 (b1.map bV)::aj gs 433 [iV (k0:Int),.slice A0 64 c0,iV (k1:Int),.slice A1 64 c1]::cH sl d p k has uq size uF::aj w.heap.size 433 [iV (k0:Int),.slice A0 64 c0]::l) W)=>ae.blk (h.at_ 5 rfl));go_region_held3 (fun w'=>w'.cell? (tZ sl 0)=some (.pointer (some (tZ d 0)))/\w'.cell? (tZ w.heap.size 0)=some (iV (k0:Int))/\w'.cell? (tZ w.heap.size 1)=some (.slice A0 64 c0)) (go_keep)
  (first|(go_at_call 307;refine(i0.out _ _ MX.out.drew).mono ?_;rintro e v0 ⟨rfl,vH⟩;have ML:=hid vH;obtain⟨z0,_⟩:=HB.out _ _ _ vH;have EX:=HF.out _ _ vH;have z1:v0.cell? (tZ w.heap.size 0)=some (iV (k0:Int)):=EX.cellAt rfl;have z2:v0.cell? (tZ w.heap.size 1)=some (.slice A0 64 c0):=EX.cellAt rfl;clear vH EX))
 all_goals(
  clear q y0 y1 yD z1 z2 HF;go_wp2_with fail;refine(i1.out _ _ ML.out).mono ?_;rintro e u0⟨rfl,vN⟩;have Na:=hid vN;clear vN z0;go_wp2_with fail;rw[rounds_succ];obtain⟨q,p0,s0,p1,s1⟩:=HB.out _ _ _ Na.out;go_wp2_with fail;obtain⟨I5,hwx,hx,yj⟩:∃W,u0.alloc (.cells #[iV (k1:Int),.slice A1 64 c1] 433)=W/\Hid (ak W u0.heap.size 433 [iV (k1:Int),.slice A1 64 c1])/\Hid (ae w0 (dU d (dH (L.set k0 b0) (-1))::iI 1 A0 64 (b0.map bV)::iI 1 A1 64 (b1.map bV)::aj gs 433 [iV (k0:Int),.slice A0 64 c0,iV (k1:Int),.slice A1 64 c1]::cH sl d p k has uq size uF::aj u0.heap.size 433 [iV (k1:Int),.slice A1 64 c1]::aj w.heap.size 433 [iV (k0:Int),.slice A0 64 c0]::l) W):=⟨_,rfl,hid (ak.new u0 _ [iV (k1:Int),.slice A1 64 c1]),hid ((Na.out.made (T:=433) (xs:=[iV (k1:Int),.slice A1 64 c1])).perm (List.Perm.append_right (aj w.heap.size 433 [iV (k0:Int),.slice A0 64 c0]::l) (List.perm_append_comm (l₁:=[aj u0.heap.size 433 [iV (k1:Int),.slice A1 64 c1]]) (l₂:=[dU d (dH (L.set k0 b0) (-1)),iI 1 A0 64 (b0.map bV),iI 1 A1 64 (b1.map bV),aj gs 433 [iV (k0:Int),.slice A0 64 c0,iV (k1:Int),.slice A1 64 c1],cH sl d p k has uq size uF]))))⟩;rw[hwx];clear hwx q p0 s0 p1 s1;obtain⟨q,_⟩:=HB.out _ _ _ yj.out;have y0:I5.cell? (tZ u0.heap.size 0)=some (iV (k1:Int)):=hx.out.cellAt rfl;have y1:I5.cell? (tZ u0.heap.size 1)=some (.slice A1 64 c1):=hx.out.cellAt rfl
  have yD:I5.cell? (tZ sl 0)=some (.pointer (some (tZ d 0)))/\I5.cell? (tZ u0.heap.size 0)=some (iV (k1:Int))/\I5.cell? (tZ u0.heap.size 1)=some (.slice A1 64 c1):=⟨q,y0,y1⟩;have HF:=hid (fun W s (h:ae w0 (dU d s::iI 1 A0 64 (b0.map bV)::iI 1 A1 64 (b1.map bV)::aj gs 433 [iV (k0:Int),.slice A0 64 c0,iV (k1:Int),.slice A1 64 c1]::cH sl d p k has uq size uF::aj u0.heap.size 433 [iV (k1:Int),.slice A1 64 c1]::aj w.heap.size 433 [iV (k0:Int),.slice A0 64 c0]::l) W)=>ae.blk (h.at_ 5 rfl));go_region_held3 (fun w'=>w'.cell? (tZ sl 0)=some (.pointer (some (tZ d 0)))/\w'.cell? (tZ u0.heap.size 0)=some (iV (k1:Int))/\w'.cell? (tZ u0.heap.size 1)=some (.slice A1 64 c1)) (go_keep)
   (first|(go_at_call 307;refine(i2.out _ _ yj.out.drew).mono ?_;rintro e v1 ⟨rfl,vH⟩;have HV1:=hid vH;obtain⟨z0,_⟩:=HB.out _ _ _ vH;have EX:=HF.out _ _ vH;have z1:v1.cell? (tZ u0.heap.size 0)=some (iV (k1:Int)):=EX.cellAt rfl;have z2:v1.cell? (tZ u0.heap.size 1)=some (.slice A1 64 c1):=EX.cellAt rfl;clear vH EX))
  all_goals(
   clear q y0 y1 yD z1 z2 HF;go_wp2_with fail;refine(i3.out _ _ HV1.out).mono ?_;rintro e u1⟨rfl,vN⟩;have Nb:=hid vN;clear vN z0;go_wp2_with fail;rw[rounds_succ];obtain⟨q,p0,s0,p1,s1⟩:=HB.out _ _ _ Nb.out;go_wp2_with fail;go_ret;exact⟨rfl,(Nb.out.perm (List.Perm.append_right l (List.perm_append_comm (l₁:=[dU d (dH ((L.set k0 b0).set k1 b1) (-1)),iI 1 A0 64 (b0.map bV),iI 1 A1 64 (b1.map bV),aj gs 433 [iV (k0:Int),.slice A0 64 c0,iV (k1:Int),.slice A1 64 c1],cH sl d p k has uq size uF]) (l₂:=[aj u0.heap.size 433 [iV (k1:Int),.slice A1 64 c1],aj w.heap.size 433 [iV (k0:Int),.slice A0 64 c0]])))).drop.drop⟩))
end
end Go.Proofs.YtfjkpigldogkeaaGreatDoor
