/- Contracts of functions that TopQuiet reaches, under the conditions that each states. -/
import Derived.Test.YtfjkpigldogkeaaGreatDoorQbm
import Derived.Test.YtfjkpigldogkeaaGreatDoorQbp
import Derived.Test.YtfjkpigldogkeaaGreatDoorQbr
set_option linter.all false
set_option maxRecDepth 100000
set_option maxHeartbeats 8000000
namespace Go.Proofs.YtfjkpigldogkeaaGreatDoor
open Go.RowKit Go.ChangeShapes Go.WideShapes Go.ChangeAt Go.Proofs.Tryz
structure kJ where
 tick:Int
 A1:Option Addr
 c1:Nat
 bo:List (Int×Int)
 r:KZ
def lj(e:kJ):List Value:=iV e.tick:: .slice e.A1 e.bo.length e.c1::lG e.r
def lu(e:kJ):ay:=ay.all (aA 73 3 e.A1 e.bo.length e.c1 (e.bo.flatMap iY)::qM e.r)
def Le(e:kJ):Value:=.agg (lj e).toArray
structure sW (e:kJ):Prop where
 bo:e.bo.length<=4
 r:La e.r
section
variable{w w' w0:World}{kb lk:Nat}{t:aG}{is:List aO}{l:List ay}{up:Bool}
theorem aMH{sb:Nat}{wf wp wi wR:Int}{wO:Bool}{tick:Int}{vB:Value}{rest:List Value}(h:ak w sb 133 (fM kb wf wp wi wR false wO tick vB rest)):
  Calls prog 59 #[.pointer (some (tZ sb 0))] w fun e w'=>e=.returned (iV 0)/\w=w':=by
 have b5:w.cell? (tZ sb 5)=some (.bool false):=h.cellAt rfl;clear h;go_enter func59,ntmps59;go_wp2_with fail;go_ret;exact⟨rfl,rfl⟩
theorem ae.aTG{C1:ay}{H P R:List ay}(h:ae w0 (R++(C1::(H++(P++l)))) w):ae w0 (C1::(H++(P++(R++l)))) w:=h.perm (by
 have e1:R++(C1::(H++(P++l)))=(R++(C1::(H++P)))++l:=by simp
 have e2:C1::(H++(P++(R++l)))=((C1::(H++P))++R)++l:=by simp
 rw[e1,e2];exact List.Perm.append_right l List.perm_append_comm)
theorem ae.toEv{C1 CB RV:ay}{H P R:List ay}(h:ae w0 (C1::CB::(H++(P++(R++(RV::l))))) w):ae w0 (H++(P++(ay.all (CB::R)::l))) w:=by
 have h1:ae w0 (CB::(H++(P++(R++l)))) w:=h.drop.sub (List.Sublist.cons_cons _ ((List.Sublist.refl H).append ((List.Sublist.refl P).append ((List.Sublist.refl R).append (List.sublist_cons_self _ l)))));have e1:H++(P++(R++l))=((H++P)++R)++l:=by simp
 have e2:R++((H++P)++l)=(R++(H++P))++l:=by simp
 have hp:(H++(P++(R++l))).Perm (R++((H++P)++l)):=by
  rw[e1,e2];exact List.Perm.append_right l List.perm_append_comm
 have h2:ae w0 (ay.all (CB::R)::((H++P)++l)) w:=ae.all (h1.perm (List.Perm.cons _ hp));have h3:=h2.perm (List.perm_middle (a:=ay.all (CB::R)) (l₁:=H++P) (l₂:=l)).symm;rwa[List.append_assoc]at h3
theorem ae.aTH{C1 CB RV:ay}{H P R:List ay}(h:ae w0 (C1::CB::(H++(P++(R++(RV::l))))) w):ae w0 (RV::((C1::CB::(H++(P++R)))++l)) w:=h.perm (by
 have e1:C1::CB::(H++(P++(R++(RV::l))))=(C1::CB::(H++(P++R)))++(RV::l):=by simp
 rw[e1];exact List.perm_middle)
theorem ae.rvIn{C1 CB RV:ay}{H P R:List ay}(h:ae w0 (RV::((C1::CB::(H++(P++R)))++l)) w):ae w0 (C1::CB::(H++(P++(R++(RV::l))))) w:=h.perm (by
 have e1:C1::CB::(H++(P++(R++(RV::l))))=(C1::CB::(H++(P++R)))++(RV::l):=by simp
 rw[e1];exact List.perm_middle.symm)
theorem dE.now{a:KA}{ms:List PM}{ss:Nat->bP}{L:List (List UInt8)}{fu nb nt:Int}(hk:dE t is a ms ss L fu nb nt)(x:Int):dE t is {a with now:=x} ms ss L fu nb nt:=
 ⟨hk.right,hk.tab,hk.n1,hk.n4,hk.yH,hk.xN,hk.xs,hk.dk,hk.zY,hk.has,hk.Df,hk.fine,hk.wL,hk.AA,hk.AB⟩
theorem dE.aTI{a:KA}{ms:List PM}{ss:Nat->bP}{L:List (List UInt8)}{fu nb nb' nt:Int}(hk:dE t is a ms ss L fu nb nt)(h:nb<=nb'):dE t is a ms ss L fu nb' nt:=
 ⟨hk.right,hk.tab,hk.n1,hk.n4,hk.yH,hk.xN,hk.xs,hk.dk,hk.zY,hk.has,hk.Df,hk.fine,fun x hx=>⟨(hk.wL x hx).1,by have:=(hk.wL x hx).2;omega⟩,hk.AA,hk.AB⟩
theorem aOc{sb:Nat}{wf wp wi wR uI:Int}{wb wO:Bool}{rest:List Value}{a:KA}{ms:List PM}{ss:Nat->bP}{L:List (List UInt8)}{fu nb nt tick:Int}
(h:ae w0 (aj sb 133 (fM kb wf wp wi wR wb wO uI (.slice none 0 0) rest)::(dC kb t a ms ss L fu tick++(lw ms is++l))) w)(hk:dE t is a ms ss L fu nb nt)(aTC:0<=nb)(hnb:nb<=900000)(hnt:0<=nt)(hu:up=true->∀x∈ms,x.q.isSome=true):
  Calls prog 59 #[.pointer (some (tZ sb 0))] w fun e w'=>e=.returned (iV 0)/\∃(A:Option Addr) (c:Nat) (bo:List (Int×Int)) (yM:List PM) (ss':Nat->bP),bo.length<=4/\ae w0 (aj sb 133 (fM kb wf wp wi wR wb wO uI (.slice A bo.length c) rest)::aA 73 3 A bo.length c (bo.flatMap iY)::(dC kb t a yM ss' L fu tick++(lw yM is++l))) w'/\dE t is a yM ss' L fu (nb+1) nt/\((up||wb)=true->∀x∈yM,x.q.isSome=true):=by
 cases wb with
 |false=>
  refine(aMH h.blk).mono fun e w' ⟨h1,h2⟩=>⟨h1,none,0,[],ms,ss,Nat.zero_le _,?_,hk.aTI (by omega),fun h9=>hu (by simpa using h9)⟩
  rw[<-h2];exact(h.uX 73 3).pn 2 [1,0]
 |true=>
  refine(aMW h hk aTC hnb hnt).mono ?_;rintro e w'⟨h1,A,c,bo,yM,ss',hB⟩;refine⟨h1,A,c,bo,yM,ss',by have:=hB.le;have:=hB.ok.n4;omega,hB.all,hB.ok,fun _ x hx=>?_⟩;obtain⟨j,hj⟩:=List.getElem?_of_mem hx;exact hB.up j x (by rw[<-hB.ok.xN];exact(List.getElem?_eq_some_iff.1 hj).1) hj
theorem aJE(f0 f1 f2 f3:Value)(w:World):(Instr.index 138 (.agg #[f0,f1,f2,f3]) (iV 0)).run prog w=.ok f0 w:=by kernel_rfl
theorem aKi(f0 f1 f2 f3:Value)(w:World):(Instr.index 138 (.agg #[f0,f1,f2,f3]) (iV 1)).run prog w=.ok f1 w:=by kernel_rfl
theorem aK1(f0 f1 f2 f3:Value)(w:World):(Instr.index 138 (.agg #[f0,f1,f2,f3]) (iV 2)).run prog w=.ok f2 w:=by kernel_rfl
theorem aIY(f0 f1 f2 f3:Value)(w:World):(Instr.index 138 (.agg #[f0,f1,f2,f3]) (iV 3)).run prog w=.ok f3 w:=by kernel_rfl
theorem aPc(F T:Nat)(hF:t.frame=(F:Int))(h:lm w0 kb lk t is l up T w)(hT:T<=800000):
  Calls prog 19 #[.pointer (some (tZ kb 0))] w fun e w'=>∃ev,sW ev/\e=.returned (.tuple #[Le ev,iV 0])/\lm w0 kb lk t is (lu ev::l) (up||((T%F:Nat):Int)==0) (T+1) w':=by
 obtain⟨a,ms,ss,L,fu,hlk,hA,hk,hu⟩:=h;have hR:=(bK t).1 hk.right;have vH:=hA.made (T:=57) (xs:=[iV 0,.slice none 0 0,iV 0,.slice none 0 0,.bool false,iV 0,.slice none 0 0,.slice none 0 0,iV 0,iV 0,.bool false]);obtain⟨w1,hw1⟩:∃w1,w.alloc (.cells #[iV 0,.slice none 0 0,iV 0,.slice none 0 0,.bool false,iV 0,.slice none 0 0,.slice none 0 0,iV 0,iV 0,.bool false] 57)=w1:=⟨_,rfl⟩;rw[show(w.alloc (.cells ([iV 0,.slice none 0 0,iV 0,.slice none 0 0,.bool false,iV 0,.slice none 0 0,.slice none 0 0,iV 0,iV 0,.bool false]:List Value).toArray 57))=w1 from hw1]at vH;obtain⟨gl,Ad,ca,hro⟩:=vH.drop.kDk;have i1:=hid (aHL hro);have c0:w1.cell? (tZ kb 0)=some (.pointer (some (tZ a.d 0))):=vH.drop.uY.cellAt rfl;have c12:w1.cell? (tZ kb 12)=some (iV (T:Int)):=vH.drop.uY.cellAt rfl;obtain⟨rv,Jg⟩:∃rv,w.heap.size=rv:=⟨_,rfl⟩;rw[Jg]at vH;have vN:=vH.made (T:=133) (xs:=fM kb 0 0 0 0 false false T (.slice none 0 0) (lG oL));obtain⟨w2,hw2⟩:∃w2,w1.alloc (.cells #[.pointer (some (tZ kb 0)),iV 0,iV 0,iV 0,iV 0,.bool false,.bool false,iV (T:Int),.slice none 0 0,iV (-1),.slice none 0 0,.bool false,iV 0,.slice none 0 0,.slice none 0 0,iV 0,iV 0,.bool false] 133)=w2:=⟨_,rfl⟩;rw[show(w1.alloc (.cells (fM kb 0 0 0 0 false false T (.slice none 0 0) (lG oL)).toArray 133))=w2 from hw2]at vN
 obtain⟨sb,Eg⟩:∃sb,w1.heap.size=sb:=⟨_,rfl⟩;rw[Eg]at vN;have i2:=hid (fun W (hb:Below w2.heap.size w2 W)=>aPv t a.ta F T hF (by omega) W ((vN.belowS hb).drop.drop.kTab hk.tab) hR);have hpb:=aKE hR (((T%F:Nat):Int));unfold Oe at i2;obtain⟨wf,hwf⟩:∃x,((T/F:Nat):Int)=x:=⟨_,rfl⟩;obtain⟨wp,Ik⟩:∃x,((T%F:Nat):Int)=x:=⟨_,rfl⟩;rw[hwf]at i2;simp only[Ik]at i2 hpb ⊢;obtain⟨wi,hwi⟩:∃x,lW (kE wp) t.wins=x:=⟨_,rfl⟩;obtain⟨wR,aSd⟩:∃x,oP t.wins wp=x:=⟨_,rfl⟩;obtain⟨wO,aTJ⟩:∃x,o7 t.wins wp=x:=⟨_,rfl⟩;obtain⟨wb,hwb⟩:∃x,(wp==0)=x:=⟨_,rfl⟩;rw[hwi,aSd,aTJ,hwb]at i2;rw[aSd]at hpb;have F7:=hid hpb;have HWB:=hid hwb;rw[hwb];have HA:=hid vN;have HK:=hid hk;have HU:=hid hu;have HHK:=hid hlk;clear hwf Ik hwi aSd aTJ hwb hpb;clear hA vH vN hk hu hro hR hlk hF;go_enter func19,ntmps19;go_wp2_with fail;refine i1.out.mono ?_;rintro e wx⟨rfl,rfl⟩;go_wp2_with fail;clear hw1 hw2 c0 c12 i1;refine wp_region_held_drew (S:=(fun w'=>w'.cell? (tZ kb 1)=some (iV t.frame)/\w'.cell? (tZ kb 2)=some (.slice a.ta.A1 t.parts.length a.ta.c1)/\w'.cell? (tZ kb 3)=some (.slice a.ta.A2 t.wins.length a.ta.c2)/\w'.cell? (tZ kb 4)=some (.slice a.ta.A3 t.chans.length a.ta.c3)/\w'.cell? (tZ kb 5)=some (iV t.trial)/\w'.cell? (tZ kb 12)=some (iV (T:Int)))) (by kernel_rfl) (by and_intros<;>exact(HA.out.drew).drop.drop.uY.cellAt rfl) (fun hHeld=>?_)
 refine bJ 9 [(0,28),(1,29),(2,30),(3,31),(4,32),(5,33),(6,34),(7,35),(8,36)] rfl (by kernel_rfl) (by kernel_rfl) (fun _ _ _ _ _ h=>h) (by assumption) ?_;iterate 9 (refine aI rfl rfl rfl (v:=?_) ?_ ?_;rotate_left 1;focus(intro wS hSw;(try dsimp only at hSw);go_simp;try with_reducible rfl);try simp only[Act.put,aY,aZ,aU])
 refine au ?_;refine dO 9 rfl (by kernel_rfl) fun K hK=>?_
 go_simp;go_at_call 58
 refine(i2.out _ eY.out).mono ?_;rintro e w3⟨rfl,hb3⟩;have HB:=hid (HA.out.belowS (show Below w2.heap.size w2 w3 from⟨hb3.os,hb3.tape,hb3.output,hb3.size,hb3.block⟩));refine hK.out _ _ (by and_intros<;>exact(HB.out).drop.drop.uY.cellAt rfl) (fun hHeld=>?_);clear hK K hb3 HA i2;have HA:=HB;clear HB;try simp only[Act.put,aY,aZ,aU]
 refine bJ 5 [(10,27),(11,38),(12,39),(13,40),(14,41)] rfl (by kernel_rfl) (by kernel_rfl) (fun _ _ _ _ _ h=>h) (by assumption) ?_;iterate 5 (refine aI rfl rfl rfl (v:=?_) ?_ ?_;rotate_left 1;focus(intro wS hSw;(try dsimp only at hSw);go_simp;try with_reducible rfl);try simp only[Act.put,aY,aZ,aU])
 refine au ?_;have v1:w3.cell? (tZ sb 1)=some (iV 0):=HA.out.blk.cellAt rfl;have v2:w3.cell? (tZ sb 2)=some (iV 0):=HA.out.blk.cellAt rfl;have v3:w3.cell? (tZ sb 3)=some (iV 0):=HA.out.blk.cellAt rfl;have v4:w3.cell? (tZ sb 4)=some (iV 0):=HA.out.blk.cellAt rfl;have v5:w3.cell? (tZ sb 5)=some (.bool false):=HA.out.blk.cellAt rfl;have v6:w3.cell? (tZ sb 6)=some (.bool false):=HA.out.blk.cellAt rfl;have vf:=HA.out.blk.frozen;refine dO 15 rfl (by kernel_rfl) fun K hK=>?_
 go_simp;have HB:=hid ((((((HA.out.store 1 (iV wf)).store 2 (iV wp)).store 3 (iV wi)).store 4 (iV wR)).store 5 (.bool wb)).store 6 (.bool wO));generalize (((((w3.setCell (tZ sb 1) (iV wf)).setCell (tZ sb 2) (iV wp)).setCell (tZ sb 3) (iV wi)).setCell (tZ sb 4) (iV wR)).setCell (tZ sb 5) (.bool wb)).setCell (tZ sb 6) (.bool wO)=w4 at HB ⊢;refine hK.out _ _ (by and_intros<;>exact(HB.out).drop.drop.uY.cellAt rfl) (fun hHeld=>?_);clear hK K v1 v2 v3 v4 v5 v6 vf HA;have HA:=HB;clear HB;try simp only[Act.put,aY,aZ,aU]
 refine wpAnyH_done (by kernel_rfl) ?_ _;have hx0:= @aJE;have hx1:= @aKi;have hx2:= @aK1;have hx3:= @aIY;have xY:Hid (ae w0 (aj sb 133 (fM kb wf wp wi wR wb wO T (.slice none 0 0) (lG oL))::(dC kb t a ms ss L fu T++(lw ms is++(aj rv 57 [iV 0,.slice none 0 0,iV 0,.slice none 0 0,.bool false,iV 0,.slice none 0 0,.slice none 0 0,iV 0,iV 0,.bool false]::l)))) w4):=hid (ae.aTG (R:=[_]) (HA.out.pn 2 [1,0] (by decide) (Nat.le_add_left 2 _)));have i3:=hid (aOc (up:=up) xY.out HK.out (Int.natCast_nonneg _) (by omega) (Int.natCast_nonneg _) HU.out);clear HA xY hHeld;go_wp2_with fail;refine wp_loop_rounds 5 ?_;rw[rounds_succ];go_wp2_with fail;refine i3.out.mono ?_;rintro e w5⟨rfl,A,c,bo,ms1,Dx,FX,vH,hk1,hu1⟩;have i4:=hid (aN9 (R:=lw ms1 is++(aj rv 57 [iV 0,.slice none 0 0,iV 0,.slice none 0 0,.bool false,iV 0,.slice none 0 0,.slice none 0 0,iV 0,iV 0,.bool false]::l)) vH);have Gw:=hid hk1;have Nb:=hid hu1;have HBO:=hid FX;clear i3 vH hk1 hu1 FX HK HU;go_wp2_with fail;rw[rounds_succ];go_wp2_with fail;refine i4.out.mono ?_;rintro e w6⟨rfl,zW,vN⟩;have vY:=hid vN;have i5:=hid (aN8 vN);clear i4 vN;go_wp2_with fail;rw[rounds_succ];go_wp2_with fail;refine i5.out.mono ?_;rintro e w7⟨rfl,xQ⟩;have i6:=hid (aPh (vY.out.belowS xQ) (Gw.out.now zW) (by omega) (by
  have h1:=F7.out.1;have h2:=F7.out.2;by_cases h3:wR<0
  ·exact .inl h3
  ·exact .inr ⟨wR.toNat,by omega,by omega⟩))
 clear i5 xQ vY;go_wp2_with fail;rw[rounds_succ];go_wp2_with fail;refine i6.out.mono ?_;rintro e w8⟨rfl,r,BR,Em,Bq,Ah,hk3,hms⟩;have vS:=hid Ah;have HK3:=hid hk3;have Ak:=hid Bq;have LM:Hid ((up||wb)=true->∀x∈BR,x.q.isSome=true):=hid fun h9 x hx=>by
  have h1:x.q.isSome∈BR.map (fun x=>x.q.isSome):=List.mem_map_of_mem hx;rw[hms]at h1;obtain⟨y,hy,hy2⟩:=List.mem_map.1 h1;rw[<-hy2];exact Nb.out h9 y hy
 have c12:w8.cell? (tZ kb 12)=some (iV (T:Int)):=(vS.out.at_ 2 rfl).blk.cellAt rfl;have cf12:=(vS.out.at_ 2 rfl).blk.frozen;have hTw:IntKind.i64.wrap ((T:Int)+1)=(T:Int)+1:=IntWalk.i64_in _ (by omega);obtain⟨w9,Ec⟩:∃w9,w8.setCell (tZ kb 12) (iV ((T:Int)+1))=w9:=⟨_,rfl⟩;have CQ:Hid (ae w0 (aj sb 133 (fM kb wf wp wi wR wb wO T (.slice A bo.length c) (lG r))::aA 73 3 A bo.length c (bo.flatMap iY)::(dC kb t {a with now:=zW} BR Em L fu ((T:Int)+1)++(lw BR is++(qM r++(aj rv 57 [iV 0,.slice none 0 0,iV 0,.slice none 0 0,.bool false,iV 0,.slice none 0 0,.slice none 0 0,iV 0,iV 0,.bool false]::l))))) w9):=hid (by
  rw[<-Ec];exact ae.aQY (i:=2) (l:=aj sb 133 (fM kb wf wp wi wR wb wO T (.slice A bo.length c) (lG r))::aA 73 3 A bo.length c (bo.flatMap iY)::(dC kb t {a with now:=zW} BR Em L fu T++(lw BR is++(qM r++(aj rv 57 [iV 0,.slice none 0 0,iV 0,.slice none 0 0,.bool false,iV 0,.slice none 0 0,.slice none 0 0,iV 0,iV 0,.bool false]::l))))) ((vS.out.at_ 2 rfl).store 12 (iV ((T:Int)+1))) (by simp[dC]))
 clear vS;have D5:=hid CQ.out.aTH;have s7:w9.cell? (tZ sb 7)=some (iV (T:Int)):=CQ.out.blk.cellAt rfl;have s8:w9.cell? (tZ sb 8)=some (.slice A bo.length c):=CQ.out.blk.cellAt rfl;have s9:w9.cell? (tZ sb 9)=some (iV r.part):=CQ.out.blk.cellAt rfl;have s10:w9.cell? (tZ sb 10)=some (.slice r.A2 r.sn.length r.c2):=CQ.out.blk.cellAt rfl;have s11:w9.cell? (tZ sb 11)=some (.bool r.cf):=CQ.out.blk.cellAt rfl;have s12:w9.cell? (tZ sb 12)=some (iV r.pc):=CQ.out.blk.cellAt rfl;have s13:w9.cell? (tZ sb 13)=some (.slice r.A3 r.st.length r.c3):=CQ.out.blk.cellAt rfl;have s14:w9.cell? (tZ sb 14)=some (.slice r.A4 r.me.length r.c4):=CQ.out.blk.cellAt rfl;have s15:w9.cell? (tZ sb 15)=some (iV r.tk):=CQ.out.blk.cellAt rfl;have s16:w9.cell? (tZ sb 16)=some (iV r.fa):=CQ.out.blk.cellAt rfl;have s17:w9.cell? (tZ sb 17)=some (.bool false):=CQ.out.blk.cellAt rfl;have v0:w9.cell? (tZ rv 0)=some (iV 0):=D5.out.blk.cellAt rfl;have v1:w9.cell? (tZ rv 1)=some (.slice none 0 0):=D5.out.blk.cellAt rfl;have v2:w9.cell? (tZ rv 2)=some (iV 0):=D5.out.blk.cellAt rfl;have v3:w9.cell? (tZ rv 3)=some (.slice none 0 0):=D5.out.blk.cellAt rfl;have v4:w9.cell? (tZ rv 4)=some (.bool false):=D5.out.blk.cellAt rfl;have v5:w9.cell? (tZ rv 5)=some (iV 0):=D5.out.blk.cellAt rfl;have v6:w9.cell? (tZ rv 6)=some (.slice none 0 0):=D5.out.blk.cellAt rfl
 have v7:w9.cell? (tZ rv 7)=some (.slice none 0 0):=D5.out.blk.cellAt rfl;have v8:w9.cell? (tZ rv 8)=some (iV 0):=D5.out.blk.cellAt rfl;have v9:w9.cell? (tZ rv 9)=some (iV 0):=D5.out.blk.cellAt rfl;have v10:w9.cell? (tZ rv 10)=some (.bool false):=D5.out.blk.cellAt rfl;have rvf:=D5.out.blk.frozen;clear i6 Ah hk3 Bq hms Gw Nb;go_wp2_with fail;rw[rounds_succ];go_wp2_with fail;obtain⟨ev,hev⟩:∃ev:kJ,(⟨T,A,c,bo,r⟩:kJ)=ev:=⟨_,rfl⟩;have h10:ae w0 (aj rv 57 (lj ev)::((aj sb 133 (fM kb wf wp wi wR wb wO T (.slice A bo.length c) (lG r))::aA 73 3 A bo.length c (bo.flatMap iY)::(dC kb t {a with now:=zW} BR Em L fu ((T:Int)+1)++(lw BR is++qM r)))++l)) (((((((((((w9.setCell (tZ rv 0) (iV (T:Int))).setCell (tZ rv 1) (.slice A bo.length c)).setCell (tZ rv 2) (iV r.part)).setCell (tZ rv 3) (.slice r.A2 r.sn.length r.c2)).setCell (tZ rv 4) (.bool r.cf)).setCell (tZ rv 5) (iV r.pc)).setCell (tZ rv 6) (.slice r.A3 r.st.length r.c3)).setCell (tZ rv 7) (.slice r.A4 r.me.length r.c4)).setCell (tZ rv 8) (iV r.tk)).setCell (tZ rv 9) (iV r.fa)).setCell (tZ rv 10) (.bool false)):=by
  rw[<-hev];exact(((((((((((D5.out.store 0 (iV (T:Int))).store 1 (.slice A bo.length c)).store 2 (iV r.part)).store 3 (.slice r.A2 r.sn.length r.c2)).store 4 (.bool r.cf)).store 5 (iV r.pc)).store 6 (.slice r.A3 r.st.length r.c3)).store 7 (.slice r.A4 r.me.length r.c4)).store 8 (iV r.tk)).store 9 (iV r.fa)).store 10 (.bool false))
 generalize (((((((((((w9.setCell (tZ rv 0) (iV (T:Int))).setCell (tZ rv 1) (.slice A bo.length c)).setCell (tZ rv 2) (iV r.part)).setCell (tZ rv 3) (.slice r.A2 r.sn.length r.c2)).setCell (tZ rv 4) (.bool r.cf)).setCell (tZ rv 5) (iV r.pc)).setCell (tZ rv 6) (.slice r.A3 r.st.length r.c3)).setCell (tZ rv 7) (.slice r.A4 r.me.length r.c4)).setCell (tZ rv 8) (iV r.tk)).setCell (tZ rv 9) (iV r.fa)).setCell (tZ rv 10) (.bool false))=xZ at h10 ⊢;obtain⟨r0,r1,r2,r3,r4,r5,r6,r7,r8,r9,r10⟩:_/\_/\_/\_/\_/\_/\_/\_/\_/\_/\_:=⟨h10.blk.cellAt (i:=0) rfl,h10.blk.cellAt (i:=1) rfl,h10.blk.cellAt (i:=2) rfl,h10.blk.cellAt (i:=3) rfl,h10.blk.cellAt (i:=4) rfl,h10.blk.cellAt (i:=5) rfl,h10.blk.cellAt (i:=6) rfl,h10.blk.cellAt (i:=7) rfl,h10.blk.cellAt (i:=8) rfl,h10.blk.cellAt (i:=9) rfl,h10.blk.cellAt (i:=10) rfl⟩;refine bodyPost_ret (v:=.tuple #[Le ev,iV 0]) (by simp[results,results19,go_sem,r0,r1,r2,r3,r4,r5,r6,r7,r8,r9,r10,Le,lj,lG]) rfl ?_;refine⟨ev,by rw[<-hev];exact⟨HBO.out,Ak.out⟩,rfl,⟨{a with now:=zW},BR,Em,L,fu,HHK.out,?_,HK3.out,LM.out⟩⟩;rw[<-hev];rw[<-hev]at h10;exact h10.rvIn.toEv
end
def kJ.pl(e:kJ):kJ:={e with A1:=none,c1:=0,r:={e.r with A2:=none,c2:=0,A3:=none,c3:=0,A4:=none,c4:=0}}
theorem aA7{α β:Type}(f:α->List β)(n:Nat)(hf:∀x,(f x).length=n):∀l:List α,(l.flatMap f).length=l.length*n
 |[]=>by simp
 |x::l=>by rw[List.flatMap_cons,List.length_append,hf,aA7 f n hf l,List.length_cons,Nat.succ_mul];omega
theorem Og{α β:Type}(f:α->List β)(n:Nat)(hf:∀x,(f x).length=n):∀(l:List α)(i:Nat)(x:α)(j:Nat),l[i]? =some x->j<n->(l.flatMap f)[i*n+j]? =(f x)[j]?
 |[],i,x,j,h,_=>by simp at h
 |y::l,0,x,j,h,hj=>by
  simp only[List.getElem?_cons_zero,Option.some.injEq]at h;subst h;rw[List.flatMap_cons,Nat.zero_mul,Nat.zero_add,List.getElem?_append_left (by rw[hf];exact hj)]
 |y::l,i+1,x,j,h,hj=>by
  rw[List.getElem?_cons_succ]at h;rw[List.flatMap_cons,List.getElem?_append_right (by rw[hf,Nat.succ_mul];omega),hf,show(i+1)*n+j-n=i*n+j by rw[Nat.succ_mul];omega];exact Og f n hf l i x j h hj
theorem aCl{α β:Type}(f:α->List β)(n:Nat)(hf:∀x,(f x).length=n)(v:β)(y:α)(j:Nat)(hj:j<n):∀(l:List α)(i:Nat)(x:α),l[i]? =some x->f y=(f x).set j v->(l.flatMap f).set (i*n+j) v=(l.set i y).flatMap f
 |[],i,x,h,_=>by simp at h
 |z::l,0,x,h,hy=>by
  simp only[List.getElem?_cons_zero,Option.some.injEq]at h;subst h;rw[List.set_cons_zero,List.flatMap_cons,List.flatMap_cons,Nat.zero_mul,Nat.zero_add,List.set_append_left _ _ (by rw[hf];exact hj),hy]
 |z::l,i+1,x,h,hy=>by
  rw[List.getElem?_cons_succ]at h;rw[List.set_cons_succ,List.flatMap_cons,List.flatMap_cons,List.set_append_right _ _ (by rw[hf,Nat.succ_mul];omega),hf,show(i+1)*n+j-n=i*n+j by rw[Nat.succ_mul];omega,aCl f n hf v y j hj l i x h hy]
theorem Oh(e:kJ):(lj e).length=11:=rfl
section
variable{w w' w0:World}{l:List ay}
theorem ae.aSe{e:kJ}(h:ae w0 (lu e::l) w):ai w w.heap.size 3 e.A1 e.bo.length (e.bo.flatMap iY)/\ai w w.heap.size 2 e.r.A2 e.r.sn.length (e.r.sn.flatMap gq)/\ai w w.heap.size 1 e.r.A3 e.r.st.length (e.r.st.map iV)/\ai w w.heap.size 1 e.r.A4 e.r.me.length (e.r.me.map iV):=by
 have h1:=h.xI;have h2:=(h1.at_ 1 rfl).aTz;exact⟨(h1.at_ 0 rfl).uT,(h1.at_ 2 rfl).uT,h2.1,h2.2⟩
theorem ae.aQa{H:List ay}{evs:List kJ}{i:Nat}{e:kJ}(h:ae w0 (H++(evs.map lu++l)) w)(hi:evs[i]? =some e):ai w w.heap.size 3 e.A1 e.bo.length (e.bo.flatMap iY)/\ai w w.heap.size 2 e.r.A2 e.r.sn.length (e.r.sn.flatMap gq)/\ai w w.heap.size 1 e.r.A3 e.r.st.length (e.r.st.map iV)/\ai w w.heap.size 1 e.r.A4 e.r.me.length (e.r.me.map iV):=
 (h.aRA i (by rw[List.getElem?_map,hi];rfl)).aSe
theorem ae.aRo{A1 A2:Option Addr}{n1 c1 n2 c2:Nat}{x1 x2:List Value}(h:ae w0 (aA 3 1 A1 n1 c1 x1::aA 3 1 A2 n2 c2 x2::l) w):ae w0 (kD A1 n1 c1 x1 A2 n2 c2 x2::l) w:=by
 obtain⟨F,⟨F1,F2,hC,⟨F3,F4,hD,hR,hd2,hi2⟩,hd,hi⟩,h2,h3⟩:=h;refine⟨F,⟨fun b=>F1 b\/F3 b,F4,⟨hC.1,hD.1,fun b=>by show F1 b\/F3 b↔_;rw[hC.2 b,hD.2 b]⟩,hR,?_,fun b=>?_⟩,h2,h3⟩
 ·rintro b (hb|hb) hf
  ·exact hd b hb ((hi2 b).2 (.inr hf))
  ·exact hd2 b hb hf
 ·rw[hi b,hi2 b,or_assoc]
end
def jK(rb kk ll:Nat):List (Value×Value):=
 [(iV 0,.func (.func 39) #[.pointer (some (tZ rb 0))] #[]),(iV 1,.func (.func 40) #[] #[.pointer (some (tZ ll 0))]),(iV 2,.func (.func 42) #[] #[.pointer (some (tZ ll 0))]),(iV 3,.func (.func 44) #[] #[.pointer (some (tZ ll 0))]),(iV 4,.func (.func 46) #[] #[.pointer (some (tZ ll 0))]),(iV 5,.func (.func 48) #[] #[.pointer (some (tZ kk 0))]),(iV 6,.func (.func 49) #[] #[.pointer (some (tZ kk 0))]),(iV 7,.func (.func 51) #[] #[.pointer (some (tZ ll 0))])]
structure RA where
 kk:Nat
 ll:Nat
 m:Nat
 A:Option Addr
 c:Nat
def lV(rb kb lk:Nat)(x:RA)(evs:List kJ):List ay:=
 [aj rb 105 [dR kb,.pointer none,.slice x.A evs.length x.c,.map (some x.m)],aj x.kk 35 [dR kb],aj x.ll 109 [dR lk],pM x.m (jK rb x.kk x.ll),aA 57 11 x.A evs.length x.c (evs.flatMap lj)]
def oC(rb kb lk:Nat)(evs:List kJ):ay:=ay.ex fun x:RA=>ay.all (lV rb kb lk x evs++evs.map lu)
section
variable{w w' w0:World}{kb lk T:Nat}{t:aG}{is:List aO}{l:List ay}{up:Bool}
theorem aGf(h:ae w0 (dJ kb lk t is up T::l) w):
  Calls prog 15 #[.pointer (some (tZ kb 0)),.pointer none] w fun e w'=>∃rb,e=.returned (.tuple #[.pointer (some (tZ rb 0)),iV 0])/\ae w0 (oC rb kb lk []::dJ kb lk t is up T::l) w':=by
 have hmm:= @run_makeMap prog;have h1:=h.made (T:=35) (xs:=[dR kb]);obtain⟨w1,hw1⟩:∃w1,w.alloc (.cells #[.pointer (some (tZ kb 0))] 35)=w1:=⟨_,rfl⟩;rw[show(w.alloc (.cells ([dR kb]:List Value).toArray 35))=w1 from hw1]at h1;obtain⟨kk,hkk⟩:∃kk,w.heap.size=kk:=⟨_,rfl⟩;rw[hkk]at h1;have h2:=h1.made (T:=105) (xs:=[dR kb,.pointer none,.slice none 0 0,.map none]);obtain⟨w2,hw2⟩:∃w2,w1.alloc (.cells #[.pointer (some (tZ kb 0)),.pointer none,.slice none 0 0,.map none] 105)=w2:=⟨_,rfl⟩;rw[show(w1.alloc (.cells ([dR kb,.pointer none,.slice none 0 0,.map none]:List Value).toArray 105))=w2 from hw2]at h2;obtain⟨rb,Bq⟩:∃rb,w1.heap.size=rb:=⟨_,rfl⟩;rw[Bq]at h2;have c0:w1.cell? (tZ kk 0)=some (.pointer (some (tZ kb 0))):=h1.blk.cellAt rfl;have d0:w2.cell? (tZ kk 0)=some (.pointer (some (tZ kb 0))):=(h2.at_ 1 rfl).blk.cellAt rfl;have i1:=hid (aN3 (h2.at_ 2 rfl).AK);obtain⟨w3,hw3⟩:∃w3,w2.alloc (.cells #[.pointer (some (tZ lk 0))] 109)=w3:=⟨_,rfl⟩;obtain⟨ll,hll⟩:∃ll,w2.heap.size=ll:=⟨_,rfl⟩;have h3:ae w0 (aj ll 109 [dR lk]::aj rb 105 [dR kb,.pointer none,.slice none 0 0,.map none]::aj kk 35 [dR kb]::dJ kb lk t is up T::l) w3:=by
  rw[<-hw3,<-hll];exact h2.made (T:=109) (xs:=[dR lk])
 have h4:=h3.aQp;have H1:=hid h4;clear h h1 h2 h3 h4;go_enter func15,ntmps15;go_wp2_with fail;refine i1.out.mono ?_;rintro e wx⟨rfl,rfl⟩;go_wp2_with (first|((with_reducible refine aM3 ?_);go_loud (refine aAh _ rfl _ _ _ _ rfl (k:=3) underlying103 underlying3 rfl H1.out.map ?_ ?_ ?_ ?_ ?_ ?_ ?_;rotate_left 2;(focus(simp[go_sem]<;>rfl));(focus(simp[go_sem]<;>rfl));(focus rfl);(focus rfl);intro w4 Gf hg4;replace H1:=hid (H1.out.aQq Gf hg4);simp only[List.nil_append,List.cons_append]at H1;have q8:w4.cell? (tZ rb 3)=some (.map none):=(H1.out.at_ 2 rfl).blk.cellAt rfl;have q9:=(H1.out.at_ 2 rfl).blk.frozen 3;clear Gf hg4))|fail)
 go_ret2;refine⟨rb,rfl,?_⟩;have h5:=((((H1.out.at_ 2 rfl).store 3 (.map (some w3.heap.size))).uX 57 11)).pn 6 [1,4,3,2,0,5];exact ae.ex (⟨kk,ll,w3.heap.size,none,0⟩:RA) (ae.all (L:=lV rb kb lk ⟨kk,ll,w3.heap.size,none,0⟩ []++([]:List kJ).map lu) h5)
end
structure rY where
 k:Int
 a:Int
 b:Int
 c:Int
 d:Int
 keep:Int
 A:Option Addr
 n:Nat
 cc:Nat
def pU(x:rY):List Value:=[iV x.k,iV x.a,iV x.b,iV x.c,iV x.d,.int .u64 x.keep,.slice x.A x.n x.cc]
def qC(x:rY):Value:=.agg #[iV x.k,iV x.a,iV x.b,iV x.c,iV x.d,.int .u64 x.keep,.slice x.A x.n x.cc]
section
variable{w w' w0:World}{kb lk T rb:Nat}{t:aG}{is:List aO}{l:List ay}{up:Bool}{evs:List kJ}
theorem ae.aQg(h:ae w0 (oC rb kb lk evs::l) w):∃x:RA,ae w0 (lV rb kb lk x evs++(evs.map lu++l)) w:=by
 obtain⟨x,h1⟩:=h.aRJ;refine⟨x,?_⟩;have h2:=h1.xI;rwa[List.append_assoc]at h2
theorem ae.aQs{x:RA}(h:ae w0 (lV rb kb lk x evs++(evs.map lu++l)) w):ae w0 (oC rb kb lk evs::l) w:=by
 refine ae.ex x (ae.all (L:=lV rb kb lk x evs++evs.map lu) ?_);rwa[List.append_assoc]
theorem ae.aTK{C:ay}{X:List ay}(h:ae w0 (X++(C::l)) w):ae w0 (C::(X++l)) w:=h.perm List.perm_middle
theorem aNy(F:Nat)(hF:t.frame=(F:Int))(h:ae w0 (oC rb kb lk evs::dJ kb lk t is up T::l) w)(hT:T<=800000)(hn:evs.length<=100000)(x:rY):
  Calls prog 39 #[.pointer (some (tZ rb 0)),qC x] w fun e w'=>e=.returned (iV 0)/\∃ev,sW ev/\ae w0 (oC rb kb lk (evs++[ev])::dJ kb lk t is (up||((T%F:Nat):Int)==0) (T+1)::l) w':=by
 obtain⟨y,hA⟩:=h.aQg;have hB:=hA.made (T:=48) (xs:=pU x);obtain⟨w1,hw1⟩:∃w1,w.alloc (.cells #[iV x.k,iV x.a,iV x.b,iV x.c,iV x.d,.int .u64 x.keep,.slice x.A x.n x.cc] 48)=w1:=⟨_,rfl⟩;rw[show(w.alloc (.cells (pU x).toArray 48))=w1 from hw1]at hB;have c0:w1.cell? (tZ rb 0)=some (.pointer (some (tZ kb 0))):=(hB.at_ 1 rfl).blk.cellAt rfl;have hC:ae w0 (dJ kb lk t is up T::((aj w.heap.size 48 (pU x)::(lV rb kb lk y evs++evs.map lu))++l)) w1:=ae.aTK (X:=aj w.heap.size 48 (pU x)::(lV rb kb lk y evs++evs.map lu)) (by
  have e1:(aj w.heap.size 48 (pU x)::(lV rb kb lk y evs++evs.map lu))++(dJ kb lk t is up T::l)=aj w.heap.size 48 (pU x)::(lV rb kb lk y evs++(evs.map lu++(dJ kb lk t is up T::l))):=by simp
  rw[e1];exact hB)
 have i1:=hid (aPc F T hF hC.AK hT);generalize (up||((T%F:Nat):Int)==0)=BU at i1 ⊢;clear h hA hB hC hF;unfold qC;go_enter func39,ntmps39;go_wp2_with fail;refine i1.out.mono ?_;rintro e w2⟨ev,hev,rfl,hK⟩;have Iq:=hid hev;have hD:=hK.all.made (T:=57) (xs:=lj ev);obtain⟨ve,hve⟩:∃ve,Le ev=ve:=⟨_,rfl⟩;unfold Le lj lG at hve;obtain⟨wY,A1,c1,bo,⟨pa,A2,c2,sn,cf,pc,A3,c3,st,A4,c4,me,tk,fa⟩⟩:=ev;simp only at hve;unfold Le lj lG;simp only;obtain⟨i0,hi0,hz0,hz1,hz2⟩:=info_parts aCf;clear hK i1 hve hev hw1 c0;go_wp2_with fail;obtain⟨w3,hw3⟩:∃w3,w2.alloc (.cells #[iV wY,.slice A1 bo.length c1,iV pa,.slice A2 sn.length c2,.bool cf,iV pc,.slice A3 st.length c3,.slice A4 me.length c4,iV tk,iV fa,.bool false] 57)=w3:=⟨_,rfl⟩;have HA:Hid (ae w0 (aA 57 11 y.A evs.length y.c (evs.flatMap lj)::aj rb 105 [dR kb,.pointer none,.slice y.A evs.length y.c,.map (some y.m)]::aj w2.heap.size 57 (lj ⟨wY,A1,c1,bo,⟨pa,A2,c2,sn,cf,pc,A3,c3,st,A4,c4,me,tk,fa⟩⟩)::dJ kb lk t is BU (T+1)::lu ⟨wY,A1,c1,bo,⟨pa,A2,c2,sn,cf,pc,A3,c3,st,A4,c4,me,tk,fa⟩⟩::aj y.kk 35 [dR kb]::aj y.ll 109 [dR lk]::pM y.m (jK rb y.kk y.ll)::(evs.map lu++l)) w3):=hid (by
  rw[<-hw3];have h9:=hD.pn 9 [8,4,0,1,2,5,6,7] (by decide) (Nat.le_add_left 9 _);exact h9)
 rw[hw3];generalize w2.heap.size=vb at HA ⊢;clear hD hw3;refine dZ (S:=(fun w'=>w'.cell? (tZ rb 2)=some (.slice y.A evs.length y.c)/\w'.cell? (tZ vb 0)=some (iV wY)/\w'.cell? (tZ vb 1)=some (.slice A1 bo.length c1)/\w'.cell? (tZ vb 2)=some (iV pa)/\w'.cell? (tZ vb 3)=some (.slice A2 sn.length c2)/\w'.cell? (tZ vb 4)=some (.bool cf)/\w'.cell? (tZ vb 5)=some (iV pc)/\w'.cell? (tZ vb 6)=some (.slice A3 st.length c3)/\w'.cell? (tZ vb 7)=some (.slice A4 me.length c4)/\w'.cell? (tZ vb 8)=some (iV tk)/\w'.cell? (tZ vb 9)=some (iV fa)/\w'.cell? (tZ vb 10)=some (.bool false))) 10 (by kernel_rfl) (by and_intros<;>first|exact((HA.out.drew).at_ 1 rfl).blk.cellAt rfl|exact((HA.out.drew).at_ 2 rfl).blk.cellAt rfl) (fun hHeld=>?_);refine iO 6 [(0,18),(1,19),(2,20),(3,21),(4,22),(5,23)] rfl (by kernel_rfl) (by kernel_rfl) (fun _ _ _ _ _ h=>h) (by assumption) ?_;iterate 6 (refine aI rfl rfl rfl (v:=?_) ?_ ?_;rotate_left 1;focus(intro wS hSw;(try dsimp only at hSw);go_simp;try with_reducible rfl);try simp only[Act.put,aY,aZ,aU])
 refine au ?_;refine fB 6 rfl (by kernel_rfl) fun K hK=>?_
 go_simp;skip;refine hK.out _ _ (by and_intros<;>first|exact((HA.out.belowS eY.out).at_ 1 rfl).blk.cellAt rfl|exact((HA.out.belowS eY.out).at_ 2 rfl).blk.cellAt rfl) (fun hHeld=>?_);clear hK K;try simp only[Act.put,aY,aZ,aU]
 refine fB 7 rfl (by kernel_rfl) fun K hK=>?_
 (refine ed _ rfl (.tmp 22) (.tmp 24) 64 rfl 57 i0 _ 11 152 underlying64 hi0 hz0 hz1 hz2 rfl (by decide) (.slice y.A evs.length y.c) evs.length (evs.flatMap lj) rfl ?_ _ _ 1 1 _ rfl (ai.lit (sD _ _ _) rfl) ?_ ?_ ?_ (evs.length+1) rfl ?_;(focus exact((HA.out.belowS eY.out)).own);(focus simp[Value.oneCell']);(focus(simp[maxLen];omega));(focus omega);intro A6 c6 w9 xM wG yB;have h9:=(HA.out.belowS eY.out).uG xM wG yB;have HC:=hid h9;clear xM wG yB h9)
 refine hK.out _ _ (by and_intros<;>first|exact((HC.out).at_ 1 rfl).blk.cellAt rfl|exact((HC.out).at_ 2 rfl).blk.cellAt rfl) (fun hHeld=>?_);clear hK K;try simp only[Act.put,aY,aZ,aU]
 refine dB 2 [(8,26),(9,27)] rfl (by kernel_rfl) (by kernel_rfl) (fun _ _ _ _ _ h=>h) (fun _=>by assumption) ?_;iterate 2 (refine aI rfl rfl rfl (v:=?_) ?_ ?_;rotate_left 1;focus(intro wS _;go_simp;try with_reducible rfl);try simp only[Act.put,aY,aZ,aU])
 refine au ?_;have y2:w9.cell? (tZ rb 2)=some (.slice y.A evs.length y.c):=(HC.out.at_ 1 rfl).blk.cellAt rfl;have yf:=(HC.out.at_ 1 rfl).blk.frozen;refine iQ 10 rfl (by kernel_rfl) (by kernel_rfl) fun K hK=>?_
 go_simp;skip;refine hK.out _ _ ?_;clear hK K;try simp only[Act.put,aY,aZ,aU]
 refine bU (by kernel_rfl) ?_ _;have h10:=(HC.out.at_ 1 rfl).store 2 (.slice A6 (evs.length+1) c6);have y1:(w9.setCell (tZ rb 2) (.slice A6 (evs.length+1) c6)).cell? (tZ rb 1)=some (.pointer none):=h10.blk.cellAt rfl;have CZ:=hid h10;generalize w9.setCell (tZ rb 2) (.slice A6 (evs.length+1) c6)=xZ at CZ y1 ⊢;clear h10 HC y2 yf;go_wp2_with fail;go_ret;obtain⟨ev,hev⟩:∃ev:kJ,(⟨wY,A1,c1,bo,⟨pa,A2,c2,sn,cf,pc,A3,c3,st,A4,c4,me,tk,fa⟩⟩:kJ)=ev:=⟨_,rfl⟩;refine⟨rfl,ev,hev▸Iq.out,ae.aQs (x:=⟨y.kk,y.ll,y.m,A6,c6⟩) ?_⟩;have h11:=(CZ.out.pn 8 [0,5,6,7,1,4,3] (by decide) (Nat.le_add_left 8 _));have h12:=ae.aQy (H:=[_,_,_,_,_]) (A:=[_,_]) (B:=evs.map lu) h11;have e1:(evs++[ev]).length=evs.length+1:=by simp
 have e2:(evs++[ev]).flatMap lj=evs.flatMap lj++lj ev:=by simp[List.flatMap_append]
 have e3:(evs++[ev]).map lu++(dJ kb lk t is BU (T+1)::l)=evs.map lu++(lu ev::dJ kb lk t is BU (T+1)::l):=by simp
 unfold lV;rw[e1,e2,e3,<-hev];exact h12
end
end Go.Proofs.YtfjkpigldogkeaaGreatDoor
