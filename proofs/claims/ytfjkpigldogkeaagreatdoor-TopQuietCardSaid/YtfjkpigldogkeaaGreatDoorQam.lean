/- Contracts of functions that TopQuiet reaches, under the conditions that each states. -/
import Derived.Test.YtfjkpigldogkeaaGreatDoorQal
set_option linter.all false
set_option maxRecDepth 100000
set_option maxHeartbeats 2000000
namespace Go.Proofs.YtfjkpigldogkeaaGreatDoor
open Go.RowKit Go.ChangeShapes Go.WideShapes Go.ChangeAt Go.Proofs.Tryz
theorem aMu:∀q:Fin 16,(bits BinOp.and IntKind.i64 (q.val:Int) 1==0)= !(decide ((q.val:Int)%2=1)):=by decide+kernel
theorem aFE(r:Nat):(1:Int)<=2^r:=by
 induction r with
 |zero=>simp
 |succ n ih=>rw[Int.pow_succ];omega
theorem aId(m:Nat)(h:4<=m)(n:Int)(h0:0<=n)(h1:n<=15):n/2^m=0:=by
 obtain⟨r,rfl⟩:∃r,m=4+r:=⟨m-4,by omega⟩;have h2:(16:Int)<=2^(4+r):=by
  rw[Int.pow_add];have:(1:Int)<=2^r:=aFE r;omega
 exact Int.ediv_eq_zero_of_lt h0 (by omega)
theorem aLU{n:Int}(h0:0<=n)(h1:n<=15)(k:Nat):(bits BinOp.and IntKind.i64 (n/2^min k 64) 1==0)= !(rW n (k:Int)):=by
 have hd:∀m:Nat,0<=n/2^m/\n/2^m<=15:=fun m=>by
  have hp:(1:Int)<=2^m:=aFE m;exact⟨Int.ediv_nonneg h0 (by omega),Int.le_trans (Int.ediv_le_self _ h0) h1⟩
 have he:n/2^min k 64=n/2^k:=by
  by_cases hk:k<=64
  ·rw[Nat.min_eq_left hk]
  ·rw[Nat.min_eq_right (by omega),aId 64 (by omega) n h0 h1,aId k (by omega) n h0 h1]
 rw[he];have hq:=hd k;unfold rW;rw[Int.toNat_natCast];generalize n/2^k=q at hq ⊢;obtain⟨j,rfl⟩:∃j:Nat,q=(j:Int):=⟨q.toNat,by omega⟩;exact aMu ⟨j,by omega⟩
theorem aHR(cs:List aB)(ss:Nat->bP)(p k v:Int)(h:(wC cs ss p k v).2.1≠0):(wC cs ss p k v).2.2=ss:=by
 unfold wC at h ⊢;cases hx:kP cs k with
 |none=>rfl
 |some x=>
  rw[hx]at h;simp only at h ⊢;split
  ·rfl
  ·next h1=>
   split
   ·rfl
   ·next h2=>
    rw[if_neg h1,if_neg h2]at h;exact absurd rfl h
theorem aJg(cs:List aB)(ss:Nat->bP)(p k:Int)(h:(xE cs ss p k).2.2.1≠0):(xE cs ss p k).2.2.2=ss:=by
 unfold xE at h ⊢;cases hx:kP cs k with
 |none=>rfl
 |some x=>
  rw[hx]at h;simp only at h ⊢;split
  ·rfl
  ·next h1=>
   rw[if_neg h1]at h;exact absurd rfl h
theorem aKv{P:Program}(w:World){ops:Array Oper}{o:Oper}{a:Act}{K:Act->World->Prop}{Q:Exit->Act->World->Prop}{E:Prop}(hgd:o.guard=none)(s x:Operand)(t:TypeId)
(ho:o.op=.call {callee:=.builtin .append,args:= #[s,x],argTypes:= #[t,t]})
(base:Nat)(e:TypeId)(i:TypeInfo)(z:Value)(size bytes:Nat)(ht:P.underlying t=some (.slice e))(hi:P.info? e=some i)(hz:i.zero=some z)
(hsize:i.size=size)(hby:i.bytes=bytes)(hzs:z.cells.size=size)(hsz:0<size)
(v:Value)(n:Nat)(xs:List Value)(hs:a.eval s=v)(hown:w.ownsRow base e size v n xs)
(B:Nat)(A:Option Addr)(m c:Nat)(news:List Value)(hx:a.eval x=.slice A m c)(hr:ai w B size A m news)(h1:∀u∈news,u.oneCell'=true)
(h63:n+m<=maxLen)(hbytes:(n+m)*bytes<=140737488355328)(hbase:base<=w.heap.size)(N:Nat)(hN:n+m=N)
(h:∀A' c' w',w'.ownsRow base e size (.slice A' N c') N (xs++news)->w.grownBy w' v.ownBlock->((Value.slice A' N c').ownBlock=v.ownBlock\/(Value.slice A' N c').ownBlock=some w.heap.size)->K (a.put o.dst (.slice A' N c')) w'):
  if Region.wanted o (yielded ops a.tmps)=true then Oper.wp P o a w K Q else E:=by
 have hw:Region.wanted o (yielded ops a.tmps)=true:=by simp[Region.wanted,hgd]
 rw[if_pos hw];subst hN;exact Jw w s x t ho base e i z size bytes ht hi hz hsize hby hzs hsz v n xs hs hown B A m c news hx hr h1 h63 hbytes hbase fun A' c' w' h2 h3 h4=>h A' c' w' h2 h3 h4
theorem aHJ:(prog.info? 77).map (fun i=>(i.zero,i.size,i.bytes))=some (some (.agg #[iV 0,iV 0]),2,16):=by kernel_rfl
section
variable{w w':World}{F:Nat->Prop}{h g gs:Nat}{i:aO}{a:su}{cs:List aB}{pc ticks fault arg:Int}{Ao:Option Addr}{cO:Nat}{d:nJ}
theorem aF.chans(t:aF w F h g gs i cs pc ticks fault arg d){e0:Ending}{ss':Nat->bP}{f:Nat}{args:Array Value}(hc:∀F2,eG w F2 gs cs d.ss->Calls prog f args w (kU F2 w gs cs e0 ss')):
  Calls prog f args w fun e w'=>e=e0/\(∃F',aF w' F' h g gs i cs pc ticks fault arg {d with ss:=ss'}/\bZ F w F' w')/\w.heap.size<=w'.heap.size/\w'.heap[h]? =w.heap[h]?∧w'.heap[g]? =w.heap[g]? :=by
 obtain⟨a,Ao,cO,F2,m,r,hs,ha,hF⟩:=t;refine(hc F2 hs).mono ?_;rintro e w'⟨F',rfl,hS,hG⟩;have hm:∀b,fK g a b->w'.heap[b]? =w.heap[b]? :=fun b hb=>hG.apart.block b (m.lt hb) (fun hf=>(ha b hf).1 hb)
 have hr:∀b,o9 h Ao b->w'.heap[b]? =w.heap[b]? :=fun b hb=>hG.apart.block b (r.lt hb) (fun hf=>(ha b hf).2 hb)
 have r':=r.keep hr;refine⟨rfl,⟨fun b=>fK g a b\/o9 h Ao b\/F' b,⟨a,Ao,cO,F',m.keep hm,⟨r'.blk,r'.out⟩,hS,fun b hb=>?_,fun b=>Iff.rfl⟩,bZ.Dz hF ⟨⟨hG.apart.os,hG.apart.tape,hG.apart.output,hG.apart.size,fun b hb hf=>hG.apart.block b hb (fun h9=>hf (.inr (.inr h9)))⟩,fun b hb=>?_⟩⟩,hG.apart.size,hr h (.inl rfl),hm g (.inl rfl)⟩
 ·rcases hG.foot b hb with h9|h9
  ·exact ha b h9
  ·exact⟨fun hf=>by have:=m.lt hf;omega,fun hf=>by have:=r.lt hf;omega⟩
 ·rcases hb with hb|hb|hb
  ·exact .inl (.inl hb)
  ·exact .inl (.inr (.inl hb))
  ·exact(hG.foot b hb).imp_left fun h9=>.inr (.inr h9)
theorem aF.more{Ao:Option Addr}{cO:Nat}{F2:Nat->Prop}{w1 w2:World}(m:dm w g i a (mP pc ticks fault d))(r:jY w h g gs arg Ao cO d)(hs:eG w F2 gs cs d.ss)(ha:∀b,F2 b->¬fK g a b/\¬o9 h Ao b)(hF:∀b,F b↔fK g a b\/o9 h Ao b\/F2 b)
(hb:Below w.heap.size w w1){A':Option Addr}{N c':Nat}{x y:Int}(hN:d.sent.length+1=N)(hown:w2.ownsRow 0 77 2 (.slice A' N c') N (d.sent.flatMap gq++[iV x,iV y]))(hg:w1.grownBy w2 (Value.slice Ao d.sent.length cO).ownBlock)
(hA:(Value.slice A' N c').ownBlock=(Value.slice Ao d.sent.length cO).ownBlock\/(Value.slice A' N c').ownBlock=some w1.heap.size):
  ∃F',aF (w2.setCell (tZ h 4) (.slice A' N c')) F' h g gs i cs pc ticks fault arg {d with sent:=d.sent++[(x,y)]}/\bZ F w F' (w2.setCell (tZ h 4) (.slice A' N c')):=by
 subst hN;have hf':∀b,bH A' b->bH Ao b\/w.heap.size<=b:=fun b yB=>by
  have h9:=aN (n:=d.sent.length+1) (c:=c').2 yB;rcases hA with e|e
  ·rw[e]at h9;exact .inl (aN.1 h9)
  ·rw[e]at h9;injection h9 with h9
   have:=hb.size;exact .inr (by omega)
 have hold:∀b,b<w.heap.size->¬bH Ao b->b≠h->(w2.setCell (tZ h 4) (.slice A' (d.sent.length+1) c')).heap[b]? =w.heap[b]? :=fun b hl hno hne=>
  (Below.heap_setCell _ _ _ _ hne).trans ((hg.block b (Nat.lt_of_lt_of_le hl hb.size) (fun e=>hno (aN.1 e.symm))).trans (hb.block b hl))
 have hh2:ak w2 h 417 (rF g gs arg d.next Ao d.sent.length cO d.uD):=(hg.block h (Nat.lt_of_lt_of_le r.blk.lt hb.size) (fun e=>r.off (aN.1 e.symm))).trans ((hb.block h r.blk.lt).trans r.blk);have hsz:w.heap.size<=(w2.setCell (tZ h 4) (.slice A' (d.sent.length+1) c')).heap.size:=by
  have h1:=hb.size;have h2:=hg.size;simp[World.setCell];omega
 have hnh:¬bH A' h:=fun hf=>(JJ hown hf).yA hh2.ty (by decide) rfl
 refine⟨fun b=>fK g a b\/o9 h A' b\/F2 b,⟨a,A',c',F2,?_,⟨?_,?_⟩,?_,fun b h2=>⟨(ha b h2).1,?_⟩,fun b=>Iff.rfl⟩,bZ.Dz hF ⟨⟨hg.os.trans hb.os,hg.tape.trans hb.tape,hg.output.trans hb.output,hsz,fun b hl hn=>hold b hl (fun hf=>hn (.inr (.inl (.inr hf)))) (fun e=>hn (.inr (.inl (.inl e))))⟩,fun b h2=>?_⟩⟩
 ·exact m.keep fun b h2=>hold b (m.lt h2) (fun hf=>r.apart m (.inr hf) h2) (fun e=>r.apart m (.inl e) h2)
 ·have:=hh2.uh 4 (.slice A' (d.sent.length+1) c');rw[show({d with sent:=d.sent++[(x,y)]}:nJ).sent.length=d.sent.length+1 by simp];exact this
 ·have e:({d with sent:=d.sent++[(x,y)]}:nJ).sent.flatMap gq=d.sent.flatMap gq++[iV x,iV y]:=by simp[gq]
  rw[e,show({d with sent:=d.sent++[(x,y)]}:nJ).sent.length=d.sent.length+1 by simp];exact dS hown fun b h2=>Below.heap_setCell _ _ _ _ (fun e=>hnh (by subst e;exact h2))
 ·exact hs.keep hsz fun b h2=>hold b (hs.lt h2) (fun hf=>(ha b h2).2 (.inr hf)) (fun e=>(ha b h2).2 (.inl e))
 ·rintro(h3|h3)
  ·exact(ha b h2).2 (.inl h3)
  ·rcases hf' b h3 with h4|h4
   ·exact(ha b h2).2 (.inr h4)
   ·have:=hs.lt h2;omega
 ·rcases h2 with h2|h2|h2
  ·exact .inl (.inl h2)
  ·rcases h2 with h2|h2
   ·exact .inl (.inr (.inl (.inl h2)))
   ·exact(hf' b h2).imp_left fun h9=>.inr (.inl (.inr h9))
  ·exact .inl (.inr (.inr h2))
theorem aJa(t:aF w F h g gs i cs pc ticks fault arg d)(hl:d.stack.length<=100)(ha0:0<=arg)(hi0:0<=i.sends/\i.sends<=15)(hK:jA cs d.ss)(hd:∀k,k<cs.length->ju cs k<=4)(JL:d.sent.length<=1000):
  Calls prog 345 #[.pointer (some (tZ h 0))] w (bY F w h g gs i cs pc ticks fault arg (bG i cs ticks 14 arg d)):=by
 obtain⟨k,rfl⟩:∃k:Nat,arg=(k:Int):=⟨arg.toNat,by omega⟩;obtain⟨a,Ao,cO,c0,c1,c2,c3,c4,c5,g0,g5,g6,g7,g10,g11,hf⟩:=t.cells;have x0:(0:Int)<=(k:Int):=Int.natCast_nonneg _;have T:=hid t;have hbg:=aLU (n:=i.sends) hi0.1 hi0.2 k;by_cases xH:rW i.sends (k:Int)=false
 ·have ir:Hid (bG i cs ticks 14 (k:Int) d=(15,d)):=hid (if_pos xH);rw[xH]at hbg;have y0:(bits BinOp.and IntKind.i64 (i.sends/2^min k 64) 1==0)=true:=hbg;clear xH hbg t hf;go_enter func345,ntmps345;go_wp2_with fail;go_quiet (fail)
  go_wp2_with fail;go_ret;rw[ir.out];exact bY.same T.out rfl (aP _)
 have zE:rW i.sends (k:Int)=true:=by simpa using xH
 rw[zE]at hbg;have y0:(bits BinOp.and IntKind.i64 (i.sends/2^min k 64) 1==0)=false:=hbg;have I1:=hid (fun q=>(t.drewN q).fits hl 1 0 1 0 rfl rfl (by omega) (by omega));obtain⟨E,hE⟩:∃E,cu d.stack.length 1 0=E:=⟨_,rfl⟩;rw[hE]at I1;by_cases h0:E=0;case neg=>
  have ir:Hid (bG i cs ticks 14 (k:Int) d=(E,d)):=hid (by have e0:¬(cu d.stack.length 1 0=0):=(by rw[hE];exact h0);rw[<-hE];show(if _ then _ else _)=_;rw[if_neg xH];exact if_neg e0);have y1:(E !=0)=true:=by simpa using h0
  clear hE h0 t hf xH zE hbg;go_enter func345,ntmps345;go_wp2_with fail;go_quiet (fail)
  go_wp2_with fail;refine(I1.out _).mono ?_;rintro e w1⟨rfl,rfl⟩;go_wp2_with fail;go_ret;rw[ir.out];exact bY.same T.out rfl (aP _)
 subst h0;have hlen:=ig hE;obtain⟨x,hx⟩:∃x,fE d.stack 0=x:=⟨_,rfl⟩;have j0:=hid (fun W ss' (tW:aF W F h g gs i cs pc ticks fault (k:Int) {d with ss:=ss'})=>tW.top hl 0 0 rfl (show 0<d.stack.length by have:=hlen.1;omega));have j1:=hid (fun W F' ss' (tW:aF W F' h g gs i cs pc ticks fault (k:Int) {d with ss:=ss'})=>tW.top hl 0 0 rfl (show 0<d.stack.length by have:=hlen.1;omega));simp only[hx]at j0 j1;have iS:=hid (fun W (tW:aF W F h g gs i cs pc ticks fault (k:Int) d)=>tW.chans fun F2 hs=>aJO hs hK hd i.part (k:Int) x);obtain⟨R,hR⟩:∃R,wC cs d.ss i.part (k:Int) x=R:=⟨_,rfl⟩;have hsame:R.2.1≠0->R.2.2=d.ss:=fun hne=>by rw[<-hR]at hne ⊢;exact aHR _ _ _ _ _ hne
 have ir:Hid (bG i cs ticks 14 (k:Int) d=if R.2.1=0 then(0,{d with stack:=fL d.stack 1 [],sent:=d.sent++[((k:Int),x)],ss:=R.2.2})else(15,d)):=hid (by
  rw[<-hR,<-hx];show(if _ then _ else _)=_
  rw[if_neg xH];exact if_pos hE)
 rw[hR]at iS;obtain⟨bR,ER,ssR⟩:=R;simp only at iS hsame ir;clear hx hR hE xH zE hbg t hf hK hd;go_enter func345,ntmps345;go_wp2_with fail;go_quiet (fail)
 go_wp2_with fail;refine(I1.out _).mono ?_;rintro e w1⟨rfl,rfl⟩;go_wp2_with fail;obtain⟨w1,hw1⟩:∃w1,w.drewN nq=w1:=⟨_,rfl⟩;have hb1:Below w.heap.size w w1:=by rw[<-hw1];exact aP nq
 have hk1:∀b:Nat,w1.heap[b]? =w.heap[b]? :=fun b=>by rw[<-hw1];rfl
 have T1:=hid (T.out.belowS hb1);have vw:=hid hb1;have e0:w1.cell? (tZ h 0)=some (.pointer (some (tZ g 0))):=(World.cell?_of_block (hk1 h)).trans c0;have e1:w1.cell? (tZ h 1)=some (.iface 121 (.pointer (some (tZ gs 0)))):=(World.cell?_of_block (hk1 h)).trans c1;have e2:w1.cell? (tZ h 2)=some (iV (k:Int)):=(World.cell?_of_block (hk1 h)).trans c2;have eg:w1.cell? (tZ g 0)=some (iV i.part):=(World.cell?_of_block (hk1 g)).trans g0;rw[hw1];clear hw1 hb1 hk1 c0 c1 c2 c3 c4 c5 g0 g5 g6 g7 g10 g11 y0 hi0;go_region_held3 (fun w'=>w'.cell? (tZ h 0)=some (.pointer (some (tZ g 0)))/\w'.cell? (tZ h 1)=some (.iface 121 (.pointer (some (tZ gs 0))))/\w'.cell? (tZ h 2)=some (iV (k:Int))/\w'.cell? (tZ g 0)=some (iV i.part)) (go_keep)
  (first
   |(go_at_call 386;refine(j0.out _ d.ss ?_).mono ?_;(first|exact T1.out|exact T1.out.drew);rintro e w2 ⟨rfl,q1,hq1⟩;have hk2:∀b:Nat,w2.heap[b]? =w1.heap[b]? :=(fun b=>by rw[hq1];rfl);have hb2:Below w1.heap.size w1 w2:=(by rw[hq1];exact⟨rfl,rfl,rfl,Nat.le_refl _,fun _ _=>rfl⟩);have uz:=hid hb2;have LP:=hid hk2;have T2:=hid (T1.out.belowS hb2);have u0:w2.cell? (tZ h 0)=some (.pointer (some (tZ g 0))):=(World.cell?_of_block (hk2 h)).trans e0;have u1:w2.cell? (tZ h 1)=some (.iface 121 (.pointer (some (tZ gs 0)))):=(World.cell?_of_block (hk2 h)).trans e1;have u2:w2.cell? (tZ h 2)=some (iV (k:Int)):=(World.cell?_of_block (hk2 h)).trans e2;have ug:w2.cell? (tZ g 0)=some (iV i.part):=(World.cell?_of_block (hk2 g)).trans eg;clear hq1 hk2 hb2)
   |(go_at_call 445;refine(iS.out _ ?_).mono ?_;(first|exact T2.out|exact T2.out.drew);rintro e w3 ⟨rfl,⟨F3,LQ,hg3⟩,hs3,Gx,EC⟩;have v0:w3.cell? (tZ h 0)=some (.pointer (some (tZ g 0))):=(World.cell?_of_block Gx).trans u0;have v1:w3.cell? (tZ h 1)=some (.iface 121 (.pointer (some (tZ gs 0)))):=(World.cell?_of_block Gx).trans u1;have v2:w3.cell? (tZ h 2)=some (iV (k:Int)):=(World.cell?_of_block Gx).trans u2;have vg:w3.cell? (tZ g 0)=some (iV i.part):=(World.cell?_of_block EC).trans ug;have T3:=hid LQ;have LR:=hid hg3;clear LQ hg3 hs3 Gx EC))
 clear e0 e1 e2 eg u0 u1 u2 ug v0 v1 v2 vg;have DG:=hid (((bZ.of_below (F:=F) vw.out).trans (bZ.of_below uz.out)).trans LR.out);clear j0 iS I1 T1 T2 LP LR vw uz;by_cases ED:ER=0;case neg=>
  rw[if_neg ED]at ir;have hs:=hsame ED;subst hs;have y2:(ER !=0)=true:=by simpa using ED
  clear ED hsame;go_wp2_with fail;go_ret;rw[ir.out];exact⟨F3,rfl,T3.out,DG.out⟩
 subst ED;rw[if_pos rfl]at ir;clear hsame;obtain⟨i0,hi0,hz0,hz1,hz2⟩:=info_parts aHJ;obtain⟨a3,Iz,IA,F23,m3,r3,hs3,ha3,hF3⟩:=T3.out;have z0:w3.cell? (tZ h 2)=some (iV (k:Int)):=r3.blk.cellAt rfl;have z4:w3.cell? (tZ h 4)=some (.slice Iz d.sent.length IA):=r3.blk.cellAt rfl;have M3:=hid m3;have R3:=hid r3;have S3:=hid hs3;have A3:=hid ha3;have F3':=hid hF3;have hnl:d.sent.length+1<=2000:=by omega
 clear m3 r3 hs3 ha3 hF3;go_wp2_with fail;go_region_law (first
  |(refine aKv _ (by rfl) _ _ _ (by rfl) 0 77 i0 _ 2 16 underlying52 hi0 hz0 hz1 hz2 rfl (by decide) (.slice Iz d.sent.length IA) d.sent.length (d.sent.flatMap gq) (by rfl) (by first|exact LS.out _|exact(dS (LS.out _) (fun _ _=>rfl))) (w4.heap.size+1) (some (tZ w4.heap.size 0)) 1 1 [iV (k:Int),iV x] (by rfl) (by first|exact HN4.out|exact HN4.out.drew) (by simp[Value.oneCell',iV]) (by simp[maxLen];omega) (by omega) (Nat.zero_le _) (d.sent.length+1) rfl ?_;intro A' c' w5 vG uZ wZ;have vO:(w4.alloc (.cells #[.int .i64 (k:Int),.int .i64 x] 77)).grownBy w5 (Value.slice Iz d.sent.length IA).ownBlock:=(by first|exact uZ|exact⟨uZ.os,uZ.tape,uZ.output,uZ.size,uZ.block⟩);have wH:ak w5 h 417 (rF g gs (k:Int) d.next Iz d.sent.length IA d.uD):=((vO.block h (by have:=R3.out.blk.lt;have:=vI.out.size;simp;omega) (fun e=>R3.out.off (aN.1 e.symm))).trans ((Below.heap_alloc _ _ _ (Nat.lt_of_lt_of_le R3.out.blk.lt vI.out.size)).trans ((HK4.out h).trans R3.out.blk)));have yN:=hid vG;have Cj:=hid vO;have Af:=hid wZ;have y4:w5.cell? (tZ h 4)=some (.slice Iz d.sent.length IA):=wH.cellAt rfl;have yf:=wH.frozen 4;clear vG uZ wZ vO wH)
  |(go_simp;go_at_call 386;refine(j1.out _ F3 ssR ?_).mono ?_;(first|exact T3.out|exact T3.out.drew);rintro e w4 ⟨rfl,q4,hq4⟩;have hk4:∀b:Nat,w4.heap[b]? =w3.heap[b]? :=(fun b=>by rw[hq4];rfl);have hb4:Below w3.heap.size w3 w4:=(by rw[hq4];exact⟨rfl,rfl,rfl,Nat.le_refl _,fun _ _=>rfl⟩);have HK4:=hid hk4;have vI:=hid hb4;have LS:Hid (∀o,(w4.alloc o).ownsRow 0 77 2 (.slice Iz d.sent.length IA) d.sent.length (d.sent.flatMap gq)):=hid (fun o=>dS R3.out.out (fun b hb=>(Below.heap_alloc _ _ _ (Nat.lt_of_lt_of_le (pq R3.out.out hb) hb4.size)).trans (hk4 b)));have HN4:Hid (ai (w4.alloc (.cells #[.int .i64 (k:Int),.int .i64 x] 77)) (w4.heap.size+1) 2 (some (tZ w4.heap.size 0)) 1 [iV (k:Int),iV x]):=hid ((ai.lit (n:=1) (size:=2) (heap_alloc_new w4 (.cells #[.int .i64 (k:Int),.int .i64 x] 77)) rfl).more (by simp));have t2:w4.cell? (tZ h 2)=some (.int .i64 (k:Int)):=(World.cell?_of_block (hk4 h)).trans z0;have t4:w4.cell? (tZ h 4)=some (.slice Iz d.sent.length IA):=(World.cell?_of_block (hk4 h)).trans z4;have t2a:=(fun o=>dh t2 o);have t4a:=(fun o=>dh t4 o);clear hq4 hk4 hb4))
 all_goals
  obtain⟨F6,ht6,zF⟩:=aF.more (x:=(k:Int)) (y:=x) M3.out R3.out S3.out A3.out F3'.out (aC vI.out _) rfl yN.out Cj.out Af.out;have K6:=hid (And.intro ht6 zF);clear ht6 zF t2 t4 t2a t4a z0 z4 y4 yf;go_wp2_with fail;refine(K6.out.1.swap hl 1 1 rfl hlen.1 [] none 0 0 rfl (by omega) ai.empty).mono ?_;rintro e w7⟨rfl,F',ht,hg⟩;have K:=hid (And.intro ht hg);clear ht hg;go_wp2_with fail;go_ret;rw[ir.out];exact⟨F',rfl,K.out.1,DG.out.trans (K6.out.2.trans K.out.2)⟩
theorem aMA(t:aF w F h g gs i cs pc ticks fault arg d)(hl:d.stack.length<=100)(ha0:0<=arg)(hi0:0<=i.uj/\i.uj<=15):
  Calls prog 346 #[.pointer (some (tZ h 0))] w (bY F w h g gs i cs pc ticks fault arg (bG i cs ticks 15 arg d)):=by
 obtain⟨k,rfl⟩:∃k:Nat,arg=(k:Int):=⟨arg.toNat,by omega⟩;obtain⟨a,Ao,cO,c0,c1,c2,c3,c4,c5,g0,g5,g6,g7,g10,g11,hf⟩:=t.cells;have x0:(0:Int)<=(k:Int):=Int.natCast_nonneg _;have T:=hid t;have hbg:=aLU (n:=i.uj) hi0.1 hi0.2 k;by_cases xH:rW i.uj (k:Int)=false
 ·have ir:Hid (bG i cs ticks 15 (k:Int) d=(15,d)):=hid (if_pos xH);rw[xH]at hbg;have y0:(bits BinOp.and IntKind.i64 (i.uj/2^min k 64) 1==0)=true:=hbg;clear xH hbg t hf;go_enter func346,ntmps346;go_wp2_with fail;go_quiet (fail)
  go_wp2_with fail;go_ret;rw[ir.out];exact bY.same T.out rfl (aP _)
 have zE:rW i.uj (k:Int)=true:=by simpa using xH
 rw[zE]at hbg;have y0:(bits BinOp.and IntKind.i64 (i.uj/2^min k 64) 1==0)=false:=hbg;have I1:=hid (fun q=>(t.drewN q).fits hl 0 2 0 2 rfl rfl (by omega) (by omega));obtain⟨E,hE⟩:∃E,cu d.stack.length 0 2=E:=⟨_,rfl⟩;rw[hE]at I1;by_cases h0:E=0;case neg=>
  have ir:Hid (bG i cs ticks 15 (k:Int) d=(E,d)):=hid (by have e0:¬(cu d.stack.length 0 2=0):=(by rw[hE];exact h0);rw[<-hE];show(if _ then _ else _)=_;rw[if_neg xH];exact if_neg e0);have y1:(E !=0)=true:=by simpa using h0
  clear hE h0 t hf xH zE hbg;go_enter func346,ntmps346;go_wp2_with fail;go_quiet (fail)
  go_wp2_with fail;refine(I1.out _).mono ?_;rintro e w1⟨rfl,rfl⟩;go_wp2_with fail;go_ret;rw[ir.out];exact bY.same T.out rfl (aP _)
 subst h0;have hlen:=ig hE;have iS:=hid (fun W (tW:aF W F h g gs i cs pc ticks fault (k:Int) d)=>tW.chans fun F2 hs=>aLE hs i.part (k:Int));obtain⟨R,hR⟩:∃R,xE cs d.ss i.part (k:Int)=R:=⟨_,rfl⟩;have hsame:R.2.2.1≠0->R.2.2.2=d.ss:=fun hne=>by rw[<-hR]at hne ⊢;exact aJg _ _ _ _ hne
 have ir:Hid (bG i cs ticks 15 (k:Int) d=if R.2.2.1=0 then(0,{d with stack:=fL d.stack 0 (if R.2.1 then[R.1,1]else[0]),ss:=R.2.2.2})else(15,d)):=hid (by
  rw[<-hR];show(if _ then _ else _)=_
  rw[if_neg xH];exact if_pos hE)
 rw[hR]at iS;obtain⟨nR,bR,ER,ssR⟩:=R;simp only at iS hsame ir;clear hR hE xH zE hbg t hf;go_enter func346,ntmps346;go_wp2_with fail;go_quiet (fail)
 go_wp2_with fail;refine(I1.out _).mono ?_;rintro e w1⟨rfl,rfl⟩;go_wp2_with fail;obtain⟨w1,hw1⟩:∃w1,w.drewN nq=w1:=⟨_,rfl⟩;have hb1:Below w.heap.size w w1:=by rw[<-hw1];exact aP nq
 have hk1:∀b:Nat,w1.heap[b]? =w.heap[b]? :=fun b=>by rw[<-hw1];rfl
 have T1:=hid (T.out.belowS hb1);have vw:=hid hb1;have e0:w1.cell? (tZ h 0)=some (.pointer (some (tZ g 0))):=(World.cell?_of_block (hk1 h)).trans c0;have e1:w1.cell? (tZ h 1)=some (.iface 121 (.pointer (some (tZ gs 0)))):=(World.cell?_of_block (hk1 h)).trans c1;have e2:w1.cell? (tZ h 2)=some (iV (k:Int)):=(World.cell?_of_block (hk1 h)).trans c2;have eg:w1.cell? (tZ g 0)=some (iV i.part):=(World.cell?_of_block (hk1 g)).trans g0;rw[hw1];clear hw1 hb1 hk1 c0 c1 c2 c3 c4 c5 g0 g5 g6 g7 g10 g11 y0 hi0;go_region_held3 (fun w'=>w'.cell? (tZ h 0)=some (.pointer (some (tZ g 0)))/\w'.cell? (tZ h 1)=some (.iface 121 (.pointer (some (tZ gs 0))))/\w'.cell? (tZ h 2)=some (iV (k:Int))/\w'.cell? (tZ g 0)=some (iV i.part)) (go_keep)
  (first
   |(go_at_call 443;refine(iS.out _ ?_).mono ?_;(first|exact T1.out|exact T1.out.drew);rintro e w3 ⟨rfl,⟨F3,LQ,hg3⟩,hs3,Gx,EC⟩;have v0:w3.cell? (tZ h 0)=some (.pointer (some (tZ g 0))):=(World.cell?_of_block Gx).trans e0;have v1:w3.cell? (tZ h 1)=some (.iface 121 (.pointer (some (tZ gs 0)))):=(World.cell?_of_block Gx).trans e1;have v2:w3.cell? (tZ h 2)=some (iV (k:Int)):=(World.cell?_of_block Gx).trans e2;have vg:w3.cell? (tZ g 0)=some (iV i.part):=(World.cell?_of_block EC).trans eg;have T3:=hid LQ;have LR:Hid (bZ F w1 F3 w3):=hid (by first|exact hg3|exact⟨⟨hg3.apart.os,hg3.apart.tape,hg3.apart.output,hg3.apart.size,hg3.apart.block⟩,hg3.foot⟩);clear LQ hg3 hs3 Gx EC))
 clear e0 e1 e2 eg v0 v1 v2 vg;have DG:=hid ((bZ.of_below (F:=F) vw.out).trans LR.out);clear iS I1 T1 LR vw;by_cases ED:ER=0;case neg=>
  rw[if_neg ED]at ir;have hs:=hsame ED;subst hs;have y2:(ER !=0)=true:=by simpa using ED
  clear ED hsame;go_wp2_with fail;go_ret;rw[ir.out];exact⟨F3,rfl,T3.out,DG.out⟩
 subst ED;rw[if_pos rfl]at ir;clear hsame;cases bR with
 |true=>
  rw[if_pos rfl]at ir;have T4:=hid (T3.out.belowS (ah w3 (.cells #[iV nR,iV 1] 3)));go_wp2_with fail;refine(T4.out.swap hl 0 0 rfl (by omega) [nR,1] (some (tZ w3.heap.size 0)) 2 2 rfl (by omega) (aOb w3 nR 1)).mono ?_;rintro e w7⟨rfl,F',ht,hg⟩;have K:=hid (And.intro ht hg);clear ht hg;go_wp2_with fail;go_ret;rw[ir.out];exact⟨F',rfl,K.out.1,DG.out.trans ((bZ.of_below (ah w3 _)).trans K.out.2)⟩
 |false=>
  rw[if_neg (by decide)]at ir;have T4:=hid (T3.out.belowS (ah w3 (.cells #[iV 0] 3)));go_wp2_with fail;refine(T4.out.swap hl 0 0 rfl (by omega) [0] (some (tZ w3.heap.size 0)) 1 1 rfl (by omega) (qx w3 0)).mono ?_;rintro e w7⟨rfl,F',ht,hg⟩;have K:=hid (And.intro ht hg);clear ht hg;go_wp2_with fail;go_ret;rw[ir.out];exact⟨F',rfl,K.out.1,DG.out.trans ((bZ.of_below (ah w3 _)).trans K.out.2)⟩
end
end Go.Proofs.YtfjkpigldogkeaaGreatDoor
