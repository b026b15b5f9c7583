/- Contracts of functions that TopQuiet reaches, under the conditions that each states. -/
import Derived.Test.YtfjkpigldogkeaaGreatDoorQab
import Derived.Shelf.Slices.Cells
set_option linter.all false
set_option maxRecDepth 100000
namespace Go.Proofs.YtfjkpigldogkeaaGreatDoor
open Go.RowKit Go.ChangeShapes Go.WideShapes Go.ChangeAt Go.Proofs.Tryz
structure bD (F:Nat->Prop) (w w':World):Prop where
 os:w'.os=w.os
 tape:w'.tape=w.tape
 output:w'.output=w.output
 size:w.heap.size<=w'.heap.size
 block:∀k,k<w.heap.size->¬F k->w'.heap[k]? =w.heap[k]?
section
variable{F G:Nat->Prop}{w w' w'':World}
theorem bD.refl(F:Nat->Prop)(w:World):bD F w w:=⟨rfl,rfl,rfl,Nat.le_refl _,fun _ _ _=>rfl⟩
theorem bD.trans(h:bD F w w')(k:bD G w' w'')(hG:∀b,b<w.heap.size->G b->F b):bD F w w'':=
 ⟨k.os.trans h.os,k.tape.trans h.tape,k.output.trans h.output,Nat.le_trans h.size k.size,fun i hi hF=>(k.block i (Nat.lt_of_lt_of_le hi h.size) (fun hg=>hF (hG i hi hg))).trans (h.block i hi hF)⟩
theorem bD.of_below(h:Below w.heap.size w w'):bD F w w':=⟨h.os,h.tape,h.output,h.size,fun k hk _=>h.block k hk⟩
theorem bD.below{B:Nat}(h:bD F w w')(hB:B<=w.heap.size)(hF:∀b,F b->B<=b):Below B w w':=
 ⟨h.os,h.tape,h.output,h.size,fun k hk=>h.block k (by omega) (fun hf=>by have:=hF k hf;omega)⟩
theorem bD.alloc(h:bD F w w')(o:Obj):bD F w (w'.alloc o):=h.trans (G:=fun _=>False) (bD.of_below ((Below.refl _ _).alloc (Nat.le_refl _) _)) (fun _ _ h=>h.elim)
theorem bD.setCell(h:bD F w w'){p:Addr}(hp:F p.block\/w.heap.size<=p.block)(u:Value):bD F w (w'.setCell p u):=
 ⟨h.os,h.tape,h.output,by simpa[World.setCell]using h.size,fun k hk hF=>(Below.heap_setCell _ _ _ _ (fun e=>by subst e;rcases hp with hp|hp;exact hF hp;omega)).trans (h.block k hk hF)⟩
theorem bD.grown{row:Option Nat}(h:bD F w w')(hg:w'.grownBy w'' row)(hr:∀k,row=some k->F k\/w.heap.size<=k):bD F w w'':=
 ⟨hg.os.trans h.os,hg.tape.trans h.tape,hg.output.trans h.output,Nat.le_trans h.size hg.size,fun k hk hF=>(hg.block k (Nat.lt_of_lt_of_le hk h.size) (fun e=>by rcases hr k e.symm with hf|hf;exact hF hf;omega)).trans (h.block k hk hF)⟩
theorem ak.apart{g:Nat}{t:TypeId}{cs:List Value}(h:ak w g t cs)(hb:bD F w w')(hg:¬F g):ak w' g t cs:=(hb.block g h.lt hg).trans h
end
def jb(w:World)(e:TypeId)(A:Option Addr)(n c:Nat)(xs:List Value):Prop:=
 xs.length=n/\n<=c/\c<=maxLen/\
 ((A=none/\c=0)\/∃g cur,A=some (tZ g 0)/\w.heap[g]? =some (.cells cur e (0,0))/\c<=cur.size/\cur.toList.take n=xs)
def bH(A:Option Addr)(b:Nat):Prop:=∃a,A=some a/\a.block=b
section
variable{w w':World}{e:TypeId}{A:Option Addr}{n c:Nat}{xs:List Value}
theorem jb.len(h:jb w e A n c xs):xs.length=n:=h.1
theorem jb.cap(h:jb w e A n c xs):n<=c/\c<=maxLen:=⟨h.2.1,h.2.2.1⟩
theorem jb.nil(w:World)(e:TypeId):jb w e none 0 0 []:=⟨rfl,Nat.le_refl _,by simp[maxLen],.inl ⟨rfl,rfl⟩⟩
theorem jb.lt(h:jb w e A n c xs){b:Nat}(hb:bH A b):b<w.heap.size:=by
 obtain⟨a,ha,rfl⟩:=hb;rcases h.2.2.2 with⟨h1,_⟩|⟨g,cur,h1,h2,_⟩
 ·rw[h1]at ha;cases ha
 ·rw[h1]at ha;injection ha with ha;subst ha;exact(Array.getElem?_eq_some_iff.1 h2).1
theorem jb.keep(h:jb w e A n c xs)(hk:∀b,bH A b->w'.heap[b]? =w.heap[b]?):jb w' e A n c xs:=by
 refine⟨h.1,h.2.1,h.2.2.1,?_⟩;rcases h.2.2.2 with h1|⟨g,cur,h1,h2,h3⟩
 ·exact .inl h1
 ·exact .inr ⟨g,cur,h1,(hk g ⟨_,h1,rfl⟩).trans h2,h3⟩
theorem jb.alloc(h:jb w e A n c xs)(o:Obj):jb (w.alloc o) e A n c xs:=h.keep fun b hf=>Below.heap_alloc _ _ _ (h.lt hf)
theorem jb.far(h:jb w e A n c xs){p:Addr}(hp:¬bH A p.block)(u:Value):jb (w.setCell p u) e A n c xs:=h.keep fun b hf=>Below.heap_setCell _ _ _ _ (fun e=>by subst e;exact hp hf)
theorem jb.form(h:jb w e A n c xs)(hn:0<n):∃g,A=some (tZ g 0)/\g<w.heap.size:=by
 rcases h.2.2.2 with⟨_,h1⟩|⟨g,cur,h1,h2,_⟩
 ·have:=h.2.1;omega
 ·exact⟨g,h1,(Array.getElem?_eq_some_iff.1 h2).1⟩
theorem jb.reads(h:jb w e A n c xs):ai w w.heap.size 1 A n xs:=by
 refine⟨by rw[h.1];omega,fun hn=>?_⟩;rcases h.2.2.2 with⟨_,h1⟩|⟨g,cur,h1,h2,h3,h4⟩
 ·have:=h.2.1;omega
 ·refine⟨_,h1,(Array.getElem?_eq_some_iff.1 h2).1,fun j u hu=>?_⟩;rw[lT,cell_of_row w g _ cur e (0,0) h2];rw[<-h4,List.getElem?_take]at hu;split at hu
  ·simpa using hu
  ·cases hu
theorem jb.cell{g:Nat}(h:jb w e (some (tZ g 0)) n c xs){j:Nat}{u:Value}(hu:xs[j]? =some u):w.cell? (tZ g j)=some u:=by
 have hj:=(List.getElem?_eq_some_iff.1 hu).1;obtain⟨ad,e1,_,hc⟩:=h.reads.2 (by rw[<-h.1];omega);injection e1 with e1
 subst e1;have:=hc j u hu;rwa[lT,Nat.zero_add]at this
theorem jb.frozen{g:Nat}(h:jb w e (some (tZ g 0)) n c xs)(j:Nat):w.frozen? (tZ g j)=false:=by
 rcases h.2.2.2 with⟨h1,_⟩|⟨g',cur,h1,h2,_⟩
 ·cases h1
 ·injection h1 with h1
  injection h1 with h1
  subst h1;exact frozen_of_row w g j cur e h2
theorem jb.cut(h:jb w e A n c xs){i:Nat}(hi:i<=n):jb w e A i i (xs.take i):=by
 have h1:=h.1;have h2:=h.2.1;have h3:=h.2.2.1;refine⟨by rw[List.length_take];omega,Nat.le_refl _,by omega,?_⟩;rcases h.2.2.2 with⟨h4,h5⟩|⟨g,cur,h4,h5,h6,h7⟩
 ·exact .inl ⟨h4,by omega⟩
 ·refine .inr ⟨g,cur,h4,h5,by omega,?_⟩;rw[<-h7,List.take_take];congr 1
  omega
theorem jb.uh{g:Nat}(h:jb w e (some (tZ g 0)) n c xs)(j:Nat)(u:Value):jb (w.setCell (tZ g j) u) e (some (tZ g 0)) n c (xs.set j u):=by
 rcases h.2.2.2 with⟨h1,_⟩|⟨g',cur,h1,h2,h3,h4⟩
 ·cases h1
 ·injection h1 with h1
  injection h1 with h1
  subst h1;refine⟨by rw[List.length_set];exact h.1,h.2.1,h.2.2.1,.inr ⟨g,cur.setIfInBounds j u,rfl,heap_setCell_same w g j cur e u h2,by simpa using h3,?_⟩⟩;rw[<-h4,Array.toList_setIfInBounds,List.take_set]
end
section
variable{P:Program}(w:World)
theorem aCE(t ty e:TypeId)(i:TypeInfo)(z:Value)(bytes:Nat)(ht:P.underlying t=some (.slice e))(hi:P.info? e=some i)(hz:i.zero=some z)
(hsize:i.size=1)(hby:i.bytes=bytes)(hzs:z.cells.size=1)
(A:Option Addr)(n c:Nat)(xs:List Value)(hown:jb w e A n c xs)
(B:Nat)(A2:Option Addr)(m c2:Nat)(news:List Value)(hr:ai w B 1 A2 m news)(h1:∀u∈news,u.oneCell'=true)
(h63:n+m<=maxLen)(hbytes:(n+m)*bytes<=140737488355328):
  ∃A' c' w',(Builtin.append_ #[t,t] ty #[.slice A n c,.slice A2 m c2]).run P w=.ok (.slice A' (n+m) c') w'/\jb w' e A' (n+m) c' (xs++news)/\w.grownBy w' (Value.slice A n c).ownBlock/\
   (A'=A\/A'=some (tZ w.heap.size 0)):=by
 have hl:news.length=m:=by have:=hr.1;omega
 have hx:xs.length=n:=hown.1;have hsmall:n+m<=9223372036854775807:=by simp only[maxLen]at h63;omega
 by_cases hm:m=0
 ·subst hm;have hn:news=[]:=List.eq_nil_of_length_eq_zero hl;subst hn;have hnc:=hown.2.1;refine⟨A,c,w,?_,by simpa using hown,⟨rfl,rfl,rfl,Nat.le_refl _,fun _ _ _=>rfl⟩,.inl rfl⟩;cases A2<;>simp[Builtin.append_,run_underlying ht,sizeOf,typeInfo,hi,Builtin.lenOf,Builtin.firstCells,hnc,loadCells,loadCellsFrom]
  all_goals
   rcases hown.2.2.2 with⟨rfl,rfl⟩|⟨g,cur,rfl,_,_⟩
   ·simp[Sem.run_bind,Sem.run_pure,storeCells]
   ·simp[storeCells]
 ·obtain⟨ad,rfl,_,hcells⟩:=hr.2 (by omega);have grown:∀old:Nat,old<n+m->
    jb (w.drew.alloc (.cells (xs.toArray++news.toArray++Builtin.zeroCells z.cells (grownCap w (n+m) old e-(n+m))) e)) e (some (tZ w.heap.size 0)) (n+m) (grownCap w (n+m) old e) (xs++news):=by
   intro old ho;have hge:=grownCap_ge w (n+m) old e;have hcm:=grownCap_le_maxLen w (n+m) old e h63;refine⟨by rw[List.length_append,hx,hl],hge,hcm,.inr ⟨w.heap.size,_,rfl,heap_alloc_new w.drew _,?_,?_⟩⟩
   ·simp only[Array.size_append,List.size_toArray,size_zeroCells,hzs,hx,hl];omega
   ·simp only[Array.toList_append,List.append_assoc];rw[<-List.append_assoc];rw[show n+m=(xs++news).length by rw[List.length_append,hx,hl]];exact List.take_left
  have hgr:∀old row,w.grownBy (w.drew.alloc (.cells (xs.toArray++news.toArray++Builtin.zeroCells z.cells (grownCap w (n+m) old e-(n+m))) e)) row:=
   fun old row=>⟨rfl,rfl,rfl,by simp,fun k hk _=>Below.heap_alloc w.drew _ k hk⟩
  rcases hown.2.2.2 with⟨rfl,rfl⟩|⟨g,cur,rfl,hg,hc,htake⟩
  ·have hn0:n=0:=by have:=hown.2.1;omega
   subst hn0;have hx0:xs=[]:=List.eq_nil_of_length_eq_zero hx;subst hx0;have hr2:=run_append_nil (P:=P) w t ty e i z ht hi hz ad m c2 news (by rw[hsize,hl];omega) hcells (by omega) (by omega) (by rw[hby];have hb:=hbytes;simp only[Nat.zero_add]at hb;omega);have h1':=grown 0 (by omega);have h2':=hgr 0 (Value.ownBlock (.slice none 0 0));simp only[Nat.zero_add,List.nil_append,Array.empty_append]at h1' h2' hr2 ⊢;exact⟨_,_,_,hr2,h1',h2',.inr rfl⟩
  ·by_cases hroom:n+m<=c
   ·have hr2:=run_append_room (P:=P) w t ty e i ht hi g n c cur hg ad m c2 news (by rw[hsize,hl];omega) hcells h1 hroom (by rw[hsize,hl];omega);refine⟨_,_,_,hr2,⟨by rw[List.length_append,hx,hl],hroom,hown.2.2.1,.inr ⟨g,_,rfl,setRow_heap w g cur _ e _ hg,?_,?_⟩⟩,⟨rfl,rfl,rfl,by simp,fun k hk hk2=>setRow_other w g k _ (fun e=>hk2 (by simp[Value.ownBlock,e]))⟩,.inl rfl⟩
    ·simp only[List.size_toArray,List.length_append,List.length_take,List.length_drop,Array.length_toList];omega
    ·rw[hsize,Nat.mul_one,htake];rw[show n+m=(xs++news).length by rw[List.length_append,hx,hl]];exact List.take_left
   ·have holds:∀j u,xs[j]? =some u->w.cell? ((⟨g,0,none⟩:Addr).add j)=some u:=by
     intro j u hu;rw[lT,Nat.zero_add];exact hown.cell hu
    have hr2:=run_append_grow (P:=P) w t ty e i z ht hi hz ⟨g,0,none⟩ n c xs (by rw[hsize,hx];omega) holds ad m c2 news (by rw[hsize,hl];omega) hcells (by omega) (by omega) (growslice_fits (by omega) (by rw[hby];exact hbytes));exact⟨_,_,_,hr2,grown c (by omega),hgr c _,.inr rfl⟩
theorem aDN{o:Oper}{a:Act}{K:Act->World->Prop}{Q:Exit->Act->World->Prop}(s x:Operand)(t:TypeId)
(ho:o.op=.call {callee:=.builtin .append,args:= #[s,x],argTypes:= #[t,t]})
(e:TypeId)(i:TypeInfo)(z:Value)(bytes:Nat)(ht:P.underlying t=some (.slice e))(hi:P.info? e=some i)(hz:i.zero=some z)
(hsize:i.size=1)(hby:i.bytes=bytes)(hzs:z.cells.size=1)
(A:Option Addr)(n c:Nat)(xs:List Value)(hs:a.eval s=.slice A n c)(hown:jb w e A n c xs)
(B:Nat)(A2:Option Addr)(m c2:Nat)(news:List Value)(hx:a.eval x=.slice A2 m c2)(hr:ai w B 1 A2 m news)(h1:∀u∈news,u.oneCell'=true)
(h63:n+m<=maxLen)(hbytes:(n+m)*bytes<=140737488355328)(N:Nat)(hN:n+m=N)
(h:∀A' c' w',jb w' e A' N c' (xs++news)->w.grownBy w' (Value.slice A n c).ownBlock->(A'=A\/A'=some (tZ w.heap.size 0))->K (a.put o.dst (.slice A' N c')) w'):o.wp P a w K Q:=by
 subst hN;obtain⟨A',c',w',hrun,h2,h3,h4⟩:=aCE (P:=P) w t o.type e i z bytes ht hi hz hsize hby hzs A n c xs hown B A2 m c2 news hr h1 h63 hbytes;unfold Oper.wp execOp;simp only[ho,resolve,invoke,builtin,Sem.run_bind,Sem.run_pure,Result.andThen_ok,List.map_toArray,List.map_cons,List.map_nil,hs,hx,hrun];exact h A' c' w' h2 h3 h4
theorem aAy{ops:Array Oper}{rest:List Oper}{o:Oper}{a:Act}{Q:Exit->Act->World->Prop}(hgd:o.guard=none)(s x:Operand)(t:TypeId)
(ho:o.op=.call {callee:=.builtin .append,args:= #[s,x],argTypes:= #[t,t]})
(e:TypeId)(i:TypeInfo)(z:Value)(bytes:Nat)(ht:P.underlying t=some (.slice e))(hi:P.info? e=some i)(hz:i.zero=some z)
(hsize:i.size=1)(hby:i.bytes=bytes)(hzs:z.cells.size=1)
(A:Option Addr)(n c:Nat)(xs:List Value)(hs:a.eval s=.slice A n c)(hown:jb w e A n c xs)
(B:Nat)(A2:Option Addr)(m c2:Nat)(news:List Value)(hx:a.eval x=.slice A2 m c2)(hr:ai w B 1 A2 m news)(h1:∀u∈news,u.oneCell'=true)
(h63:n+m<=maxLen)(hbytes:(n+m)*bytes<=140737488355328)(N:Nat)(hN:n+m=N)
(h:∀A' c' w',jb w' e A' N c' (xs++news)->w.grownBy w' (Value.slice A n c).ownBlock->(A'=A\/A'=some (tZ w.heap.size 0))->wpList P ops Q rest (a.put o.dst (.slice A' N c')) w'):wpList P ops Q (o::rest) a w:=
 wpList_plain hgd fun _ hK=>aDN w s x t ho e i z bytes ht hi hz hsize hby hzs A n c xs hs hown B A2 m c2 news hx hr h1 h63 hbytes N hN fun A' c' w' h2 h3 h4=>hK _ _ (h A' c' w' h2 h3 h4)
end
structure jH (w:World) (g:Nat) (A:Option Addr) (c:Nat) (l:List Int) (d:Nat):Prop where
 blk:ak w g 307 [.slice A l.length c,iV (d:Int)]
 row:jb w 3 A l.length c (l.map iV)
 off:¬bH A g
def mL(w:World)(g:Nat)(n:Int)(is:Bool):Prop:=ak w g 304 [iV n,.bool is]
theorem aEX(g:Nat)(m n:Int)(is:Bool)(w:World)(h:mL w g m is):
  Calls prog 450 #[.pointer (some (tZ g 0)),iV n] w fun e w'=>e=.returned (.bool true)/\mL w' g n true/\bD (fun b=>b=g) w w':=by
 have c0:w.cell? (tZ g 0)=some (iV m):=ak.cellAt h rfl;have c1:w.cell? (tZ g 1)=some (.bool is):=ak.cellAt h rfl;have f0:=ak.frozen h 0;have f1:=ak.frozen h 1;have H:=hid h;clear h;go_enter func450,ntmps450;go_wp2_with fail;go_ret;exact⟨rfl,ak.uh (ak.uh H.out 0 (iV n)) 1 (.bool true),((bD.refl (fun b=>b=g) w).setCell (p:=⟨g,0,none⟩) (.inl rfl) _).setCell (p:=⟨g,1,none⟩) (.inl rfl) _⟩
theorem aFM(g:Nat)(n:Int)(is:Bool)(w:World)(h:mL w g n is):
  Calls prog 449 #[.pointer (some (tZ g 0))] w fun e w'=>e=.returned (.tuple #[iV n,.bool is])/\∃q,w'=w.drewN q:=by
 have c0:w.cell? (tZ g 0)=some (iV n):=ak.cellAt h rfl;have c1:w.cell? (tZ g 1)=some (.bool is):=ak.cellAt h rfl;clear h;go_enter func449,ntmps449;go_wp2_with fail;go_quiet (fail)
 go_wp2_with fail;go_ret2;exact⟨rfl,nq,rfl⟩
theorem aEG(g:Nat)(A:Option Addr)(c:Nat)(l:List Int)(d:Nat)(n:Int)(w:World)(h:jH w g A c l d)(hl:l.length=d):
  Calls prog 454 #[.pointer (some (tZ g 0)),iV n] w fun e w'=>e=.returned (.bool false)/\∃q,w'=w.drewN q:=by
 have c0:w.cell? (tZ g 0)=some (.slice A l.length c):=h.blk.cellAt rfl;have c1:w.cell? (tZ g 1)=some (iV (d:Int)):=h.blk.cellAt rfl;have g0:((l.length:Int)==(d:Int))=true:=by simp[hl]
 clear h hl;go_enter func454,ntmps454;go_wp2_with fail;go_quiet (fail)
 go_wp2_with fail;go_ret;exact⟨rfl,nq,rfl⟩
theorem aBi:(prog.info? 3).map (fun i=>(i.zero,i.size,i.bytes))=some (some (iV 0),1,8):=by kernel_rfl
theorem aHi(g:Nat)(A:Option Addr)(c:Nat)(l:List Int)(d:Nat)(n:Int)(w:World)(h:jH w g A c l d)(hl:l.length≠d)(hm:l.length<=100000):
  Calls prog 454 #[.pointer (some (tZ g 0)),iV n] w fun e w'=>e=.returned (.bool true)/\∃A' c',jH w' g A' c' (l++[n]) d/\bD (fun b=>b=g\/bH A b) w w'/\∀b,bH A' b->bH A b\/w.heap.size<=b:=by
 have c0:w.cell? (tZ g 0)=some (.slice A l.length c):=h.blk.cellAt rfl;have c1:w.cell? (tZ g 1)=some (iV (d:Int)):=h.blk.cellAt rfl;have g0:((l.length:Int)==(d:Int))=false:=by simp;omega
 have H:=hid h;have hlt:=h.blk.lt;clear h;have hne:some g≠(Value.slice A l.length c).ownBlock:=by
  cases A with
  |none=>simp[Value.ownBlock]
  |some a=>
   intro e;injection e with e
   exact H.out.off ⟨a,rfl,e.symm⟩
 have HNE:=hid hne;clear hne;obtain⟨i0,hi0,hz0,hz1,hz2⟩:=info_parts aBi;go_enter func454,ntmps454;go_wp2_with fail;go_quiet (fail)
 have hB:∀o,((w.drewN nq).alloc o).heap.size=w.heap.size+1:=fun o=>by simp
 go_wp2_with (at_builtin;refine aAy _ rfl (.tmp 19) (.tmp 21) _ rfl 3 i0 _ 8 underlying53 hi0 hz0 hz1 hz2 rfl A l.length c (l.map iV) rfl ((H.out.row:jb (w.drewN nq) _ _ _ _ _).alloc _) (w.heap.size+1) (some (tZ w.heap.size 0)) 1 1 [iV n] rfl (ai.new (w.drewN nq) #[iV n] 3 1 rfl) (by simp[iV,Value.oneCell']) (by simp[maxLen];omega) (by omega) (l.length+1) rfl ?_;intro A' c' w2 hrow2 hg2 vN;have hb2:ak w2 g 307 [.slice A l.length c,iV (d:Int)]:=(hg2.block g (by simp;omega) HNE.out).trans ((H.out.blk.drewN nq).alloc _);have x0:w2.cell? (tZ g 0)=some (.slice A l.length c):=hb2.cellAt rfl;have y0:=hb2.frozen 0)
 go_ret;have BC:∀b,bH A' b->bH A b\/w.heap.size<=b:=by
  intro b hb;rcases vN with e|e
  ·rw[e]at hb;exact .inl hb
  ·rw[e]at hb;obtain⟨a,ha,hb⟩:=hb;injection ha with ha
   right;rw[<-hb,<-ha];simp
 have hoff:¬bH A' g:=fun hf=>by
  rcases BC g hf with h|h
  ·exact H.out.off h
  ·omega
 refine⟨rfl,A',c',⟨?_,?_,hoff⟩,?_,BC⟩
 ·have h:=hb2.uh 0 (.slice A' (l.length+1) c');have e:(l++[n]).length=l.length+1:=by simp
  rw[e];exact h
 ·have e:(l++[n]).length=l.length+1:=by simp
  rw[e,List.map_append];exact hrow2.far (p:=⟨g,0,none⟩) hoff _
 ·refine bD.setCell ?_ (p:=⟨g,0,none⟩) (.inl (.inl rfl)) _;have h0:bD (fun b=>b=g\/bH A b) w ((w.drewN nq).alloc (.cells #[iV n] 3)):=(⟨rfl,rfl,rfl,Nat.le_refl _,fun _ _ _=>rfl⟩:bD (fun b=>b=g\/bH A b) w (w.drewN nq)).alloc _;refine h0.grown hg2 (fun k hk=>?_);cases A with
  |none=>simp[Value.ownBlock]at hk
  |some a=>
   injection hk with hk
   exact .inl (.inr ⟨a,rfl,hk⟩)
theorem aGK(l:List Int):∀u∈l.map iV,u.oneCell'=true:=by intro u hu;obtain⟨b,_,rfl⟩:=List.mem_map.1 hu;rfl
theorem aCC(A:Option Addr)(n c:Nat)(l:List Int)(w:World)(h:ai w w.heap.size 1 A n (l.map iV))(hn:n<=1000000000):
  Calls prog 69 #[.slice A n c] w fun e w'=>∃A' c',e=.returned (.slice A' n c')/\w'.ownsRow w.heap.size 3 1 (.slice A' n c') n (l.map iV)/\Below w.heap.size w w':=by
 have hnil:=fun(W:World) (a:Option Addr)=>Lib.run_eql_slice_nil (P:=prog) W 53 3 a n c 0 0 underlying53
 obtain⟨i0,hi0,hz0,hz1,hz2⟩:=info_parts aBi;cases A with
 |none=>
  have hb:n=0:=by
   by_cases h0:0<n
   ·obtain⟨ad,he,_⟩:=h.form h0;cases he
   ·omega
  subst hb;have hb:l=[]:=List.eq_nil_of_length_eq_zero (by simpa using h.len);subst hb;clear h;go_enter func69,ntmps69;go_wp2
  go_ret;exact⟨none,0,rfl,World.ownsRow_nil _ _ _ _,Below.refl _ _⟩
 |some ad=>
  go_enter func69,ntmps69;go_wp2_with (at_builtin;refine aAA _ rfl (.tmp 5) (.tmp 6) _ rfl w.heap.size 3 i0 _ 1 8 underlying53 hi0 hz0 hz1 hz2 rfl (by decide) (.slice (some (tZ w.heap.size 0)) 0 0) 0 [] rfl (World.ownsRow_made w _ 0 (Nat.le_refl _) (by simp[maxLen]) rfl) w.heap.size (some ad) n c (l.map iV) rfl (h.alloc (Nat.le_refl _) _) (aGK l) (by simp[maxLen];omega) (by omega) (by simp) ?_;intro A' c' w' hown hg hb)
  go_ret;refine⟨A',c',by simp,by simpa using hown,?_⟩;exact Jv ((Below.refl w.heap.size w).alloc (Nat.le_refl _) _) (World.ownsRow_made (size:=1) w _ 0 (Nat.le_refl _) (by simp[maxLen]) rfl) hg (Nat.le_refl _) (by simp)
theorem aF9(g:Nat)(A:Option Addr)(c:Nat)(l:List Int)(d:Nat)(w:World)(h:jH w g A c l d):
  Calls prog 452 #[.pointer (some (tZ g 0))] w fun e w'=>e=.returned (.tuple #[])/\jH w' g none 0 [] d/\bD (fun b=>b=g) w w':=by
 have c0:w.cell? (tZ g 0)=some (.slice A l.length c):=h.blk.cellAt rfl;have f0:=h.blk.frozen 0;have H:=hid h;clear h;go_enter func452,ntmps452;go_wp2_with fail;refine bodyPost_end (v:=.tuple #[]) (by simp[results,results452,go_sem]) rfl ?_;exact⟨rfl,⟨H.out.blk.uh 0 (.slice none 0 0),jb.nil _ _,fun h=>by obtain⟨a,ha,_⟩:=h;cases ha⟩,(bD.refl (fun b=>b=g) w).setCell (p:=⟨g,0,none⟩) (.inl rfl) _⟩
theorem aDR(g:Nat)(m:Int)(is:Bool)(w:World)(h:mL w g m is):
  Calls prog 448 #[.pointer (some (tZ g 0))] w fun e w'=>e=.returned (.tuple #[])/\mL w' g 0 false/\bD (fun b=>b=g) w w':=by
 have c0:w.cell? (tZ g 0)=some (iV m):=ak.cellAt h rfl;have c1:w.cell? (tZ g 1)=some (.bool is):=ak.cellAt h rfl;have f0:=ak.frozen h 0;have f1:=ak.frozen h 1;have H:=hid h;clear h;go_enter func448,ntmps448;go_wp2_with fail;refine bodyPost_end (v:=.tuple #[]) (by simp[results,results448,go_sem]) rfl ?_;exact⟨rfl,ak.uh (ak.uh H.out 0 (iV 0)) 1 (.bool false),((bD.refl (fun b=>b=g) w).setCell (p:=⟨g,0,none⟩) (.inl rfl) _).setCell (p:=⟨g,1,none⟩) (.inl rfl) _⟩
def aPE(n:Int)(is:Bool):List Int:=if is then[n]else[]
def aOp:Go.Shelf.Ren:=⟨fun n=>if n=23 then 455 else n,fun n=>if n=3 then 3 else if n=4 then 4 else if n=22 then 53 else n,fun n=>n⟩
theorem aND:Go.Proofs.Lays2.n23 prog aOp where
 mixed:=by kernel_rfl
 f23:=func455.trans (congrArg some (by kernel_rfl))
 t0:=by kernel_rfl
 a0:=fun w=>by kernel_rfl
 z0:=fun w=>by kernel_rfl
 v0:=fun w=>by kernel_rfl
 t3:=by kernel_rfl
 a3:=fun w=>by kernel_rfl
 z3:=fun w=>by kernel_rfl
 v3:=fun w=>by kernel_rfl
 t4:=by kernel_rfl
 a4:=fun w=>by kernel_rfl
 z4:=fun w=>by kernel_rfl
 v4:=fun w=>by kernel_rfl
 t22:=by kernel_rfl
 a22:=fun w=>by kernel_rfl
 z22:=fun w=>by kernel_rfl
 v22:=fun w=>by kernel_rfl
 i3:=by kernel_rfl
section
variable{w w':World}{e:TypeId}{A:Option Addr}{n c g:Nat}{xs:List Value}
theorem jb.short(h:jb w e A n c xs){i:Nat}(hi:i<=n):jb w e A i c (xs.take i):=by
 have hl:=h.len;have hc:=h.cap;refine⟨by rw[List.length_take];omega,by omega,hc.2,?_⟩;rcases h.2.2.2 with⟨h1,h2⟩|⟨g,cur,h1,h2,h3,h4⟩
 ·exact .inl ⟨h1,h2⟩
 ·refine .inr ⟨g,cur,h1,h2,h3,?_⟩;rw[<-h4,List.take_take,Nat.min_eq_left hi]
theorem bD.setCells{F:Nat->Prop}{b:Nat}(hb:F b):∀(vs:List Value)(o:Nat)(w':World),bD F w w'->bD F w (w'.setCells b o vs)
 |[],_,_,h=>h
 |v::vs,o,w',h=>bD.setCells hb vs (o+1) _ (h.setCell (p:=⟨b,o,none⟩) (.inl hb) v)
theorem jb.aQA:∀(vs:List Value)(o:Nat)(w:World)(xs:List Value),jb w e (some (tZ g 0)) n c xs->o+vs.length<=n->jb (w.setCells g o vs) e (some (tZ g 0)) n c (xs.take o++vs++xs.drop (o+vs.length))
 |[],o,w,xs,h,_=>by
  show jb w e _ n c _
  simp only[List.append_nil,List.length_nil,Nat.add_zero,List.take_append_drop];exact h
 |v::vs,o,w,xs,h,ho=>by
  have hl:=h.len;simp only[List.length_cons]at ho;have h1:=h.uh o v;have h2:=jb.aQA vs (o+1) _ _ h1 (by omega);show jb ((w.setCell (tZ g o) v).setCells g (o+1) vs) e _ n c _
  have e1:(xs.set o v).take (o+1)++vs++(xs.set o v).drop (o+1+vs.length)=xs.take o++(v::vs)++xs.drop (o+(v::vs).length):=by
   rw[List.drop_set_of_lt (by omega),List.take_add_one,List.take_set_of_le (by omega),List.getElem?_set_self (by omega)];simp only[Option.toList_some,List.append_assoc,List.singleton_append,List.length_cons,List.cons_append,List.nil_append];rw[show o+1+vs.length=o+(vs.length+1) by omega]
  rw[<-e1];exact h2
end
theorem aK4(g:Nat)(A:Option Addr)(c:Nat)(d:Nat)(w:World)(h:jH w g A c [] d):
  Calls prog 453 #[.pointer (some (tZ g 0))] w fun e w'=>e=.returned (.tuple #[iV 0,.bool false])/\w'=w:=by
 have c0:w.cell? (tZ g 0)=some (.slice A 0 c):=h.blk.cellAt rfl;clear h;go_enter func453,ntmps453;go_wp2_with fail;go_ret2;exact⟨rfl,by first|trivial|rfl⟩
theorem aH6(g:Nat)(A:Option Addr)(c:Nat)(x:Int)(l:List Int)(d:Nat)(w:World)(h:jH w g A c (x::l) d):
  Calls prog 453 #[.pointer (some (tZ g 0))] w fun e w'=>e=.returned (.tuple #[iV x,.bool true])/\jH w' g A c l d/\bD (fun b=>b=g\/bH A b) w w':=by
 obtain⟨b,rfl,hb⟩:=h.row.form (by simp);have hcap:=h.row.cap;unfold maxLen at hcap;have hbg:b≠g:=fun e=>h.off ⟨_,rfl,e⟩
 have c0:w.cell? (tZ g 0)=some (.slice (some (tZ b 0)) (l.length+1) c):=h.blk.cellAt rfl;have d0:w.cell? (tZ b 0)=some (iV x):=h.row.cell (j:=0) rfl;have i1:=hid (Any.slices_Delete_int_cells aND b 0 (l.length+1) c 0 1 (x::l) w (by simp) (by simpa using hcap.1) (by omega) (by omega) (by omega) (fun j hj=>by
  rw[Nat.zero_add];refine h.row.cell (j:=j) ?_;rw[List.getElem?_map,List.getElem?_eq_getElem hj,List.getD_eq_getElem?_getD,List.getElem?_eq_getElem hj];rfl) (fun j _=>by rw[Nat.zero_add];exact h.row.frozen j))
 have hv:(((x::l).take (l.length+1)).take 0++((x::l).take (l.length+1)).drop 1++List.replicate (1-0) 0).map (Value.int .i64)=(l++[0]).map iV:=by
  rw[List.take_of_length_le (show(x::l).length<=l.length+1 by simp)];rfl
 simp only[hv,show l.length+1-(1-0)=l.length by omega]at i1;have H:=hid h;have hltg:=h.blk.lt;clear h hv;go_enter func453,ntmps453;have k0:((l.length:Int)+1==0)=false:=by simp;omega
 go_wp2_with fail;refine i1.out.mono ?_;rintro e w1⟨rfl,q,hw1⟩;have zy:bD (fun k=>k=b) w w1:=by
  rw[hw1];have h0:bD (fun k=>k=b) w (w.drewN q):=⟨rfl,rfl,rfl,Nat.le_refl _,fun _ _ _=>rfl⟩;exact bD.setCells (F:=fun k=>k=b) (b:=b) rfl ((l++[0]).map iV) 0 (w.drewN q) h0
 have hrow:jb w1 3 (some (tZ b 0)) l.length c (l.map iV):=by
  have Dp:jb (w.drewN q) 3 (some (tZ b 0)) (l.length+1) c ((x::l).map iV):=H.out.row;have h1:=jb.aQA ((l++[0]).map iV) 0 (w.drewN q) _ Dp (by simp);have h2:=h1.short (i:=l.length) (by omega);rw[<-hw1]at h2;have e:((((x::l).map iV).take 0++(l++[0]).map iV++((x::l).map iV).drop (0+((l++[0]).map iV).length)).take l.length)=l.map iV:=by
   rw[List.take_zero,List.nil_append,List.take_append_of_le_length (by simp),List.map_append,List.take_left' (by simp)]
  rw[e]at h2;exact h2
 have hblk:ak w1 g 307 [.slice (some (tZ b 0)) (x::l).length c,iV (d:Int)]:=H.out.blk.apart zy (fun e=>hbg e.symm);have x0:w1.cell? (tZ g 0)=some (.slice (some (tZ b 0)) (x::l).length c):=hblk.cellAt rfl;have y0:=hblk.frozen 0;have HH:=hid (And.intro zy (And.intro hrow hblk));clear hw1 zy hrow hblk c0 d0 i1 k0;go_wp2_with fail;go_ret2;obtain⟨zy,hrow,hblk⟩:=HH.out;have hoff:¬bH (some (tZ b 0)) g:=H.out.off;refine⟨rfl,⟨hblk.uh 0 (.slice (some (tZ b 0)) l.length c),hrow.far (p:=⟨g,0,none⟩) hoff _,hoff⟩,?_⟩;refine bD.setCell ?_ (p:=⟨g,0,none⟩) (.inl (.inl rfl)) _;exact⟨zy.os,zy.tape,zy.output,zy.size,fun k hk hf=>zy.block k hk (fun e=>hf (.inr ⟨_,rfl,e.symm⟩))⟩
def ku(w:World)(g:Nat)(AE:Option Addr)(cE:Nat)(AW:Option Addr)(n cW:Nat):Prop:=ak w g 236 [.slice AE n cE,.slice AW n cW]
theorem gK(g:Nat)(AE AW:Option Addr)(n cE cW:Nat)(k:Int)(w:World)(h:ku w g AE cE AW n cW):
  Calls prog 143 #[.pointer (some (tZ g 0)),iV k] w fun e w'=>e=.returned (.bool (decide (0<=k)&&decide (k<n)))/\w'=w:=by
 have c1:w.cell? (tZ g 1)=some (.slice AW n cW):=ak.cellAt h rfl;clear h;go_enter func143,ntmps143;by_cases h0:0<=k
 ·have y0:decide (0<=k)=true:=decide_eq_true h0;by_cases h1:k<n
  ·have y1:decide (k<(n:Int))=true:=decide_eq_true h1;have hr:Hid ((decide (0<=k)&&decide (k<(n:Int)))=true):=hid (by rw[y0,y1];rfl);clear h0 h1;go_wp2_with fail;go_ret;exact⟨by rw[hr.out];rfl,by first|trivial|rfl⟩
  ·have y1:decide (k<(n:Int))=false:=decide_eq_false h1;have hr:Hid ((decide (0<=k)&&decide (k<(n:Int)))=false):=hid (by rw[y0,y1];rfl);clear h0 h1;go_wp2_with fail;go_ret;exact⟨by rw[hr.out];rfl,by first|trivial|rfl⟩
 ·have y0:decide (0<=k)=false:=decide_eq_false h0;have hr:Hid ((decide (0<=k)&&decide (k<(n:Int)))=false):=hid (by rw[y0];rfl);clear h0;go_wp2_with fail;go_ret;exact⟨by rw[hr.out];rfl,by first|trivial|rfl⟩
theorem aHU(g:Nat)(uB uy:Addr)(N cE cW k:Nat)(src v:Int)(gr:Nat)(A:Option Addr)(c:Nat)(l:List Int)(d:Nat)(w:World)(h:ku w g (some uB) cE (some uy) N cW)(hk:k<N)
(hs:w.cell? (uB.add (k*3))=some (iV src))(hw:w.cell? (uy.add k)=some (.iface 305 (.pointer (some (tZ gr 0)))))(hr:jH w gr A c l d)(hl:l.length≠d)(hm:l.length<=100000)(hv0:0<=v)(hv1:v<=65535):
  Calls prog 445 #[.pointer (some (tZ g 0)),iV src,iV (k:Int),iV v] w fun e w'=>e=.returned (.tuple #[.bool true,iV 0])/\∃A' c',jH w' gr A' c' (l++[v]) d/\bD (fun b=>b=gr\/bH A b) w w'/\∀b,bH A' b->bH A b\/w.heap.size<=b:=by
 have c0:w.cell? (tZ g 0)=some (.slice (some uB) N cE):=ak.cellAt h rfl;have c1:w.cell? (tZ g 1)=some (.slice (some uy) N cW):=ak.cellAt h rfl;have i1:=hid (gK g (some uB) (some uy) N cE cW (k:Int) w h);rw[decide_eq_true (show(0:Int)<=(k:Int) by omega),decide_eq_true (show(k:Int)<(N:Int) by omega)]at i1;have i2:=hid (aHi gr A c l d v w hr hl hm);have y0:decide (v<0)=false:=decide_eq_false (by omega);have y1:decide ((65535:Int)<v)=false:=decide_eq_false (by omega);have k0:(0:Int)<=(k:Int):=Int.natCast_nonneg _;have k1:(k:Int)<(N:Int):=by omega
 clear h hr hv0 hv1 hk;go_enter func445,ntmps445;go_wp2_with fail;refine i1.out.mono ?_;rintro e w1⟨rfl,rfl⟩;go_wp2_with fail;refine i2.out.mono ?_;rintro e w2⟨rfl,hp⟩;go_wp2_with fail;go_ret2;exact⟨rfl,hp⟩
theorem aER(g:Nat)(uB uy:Addr)(N cE cW k:Nat)(src v:Int)(gr:Nat)(A:Option Addr)(c:Nat)(l:List Int)(d:Nat)(w:World)(h:ku w g (some uB) cE (some uy) N cW)(hk:k<N)
(hs:w.cell? (uB.add (k*3))=some (iV src))(hw:w.cell? (uy.add k)=some (.iface 305 (.pointer (some (tZ gr 0)))))(hr:jH w gr A c l d)(hl:l.length=d)(hv0:0<=v)(hv1:v<=65535):
  Calls prog 445 #[.pointer (some (tZ g 0)),iV src,iV (k:Int),iV v] w fun e w'=>e=.returned (.tuple #[.bool false,iV 0])/\∃q,w'=w.drewN q:=by
 have c0:w.cell? (tZ g 0)=some (.slice (some uB) N cE):=ak.cellAt h rfl;have c1:w.cell? (tZ g 1)=some (.slice (some uy) N cW):=ak.cellAt h rfl;have i1:=hid (gK g (some uB) (some uy) N cE cW (k:Int) w h);rw[decide_eq_true (show(0:Int)<=(k:Int) by omega),decide_eq_true (show(k:Int)<(N:Int) by omega)]at i1;have i2:=hid (aEG gr A c l d v w hr hl);have y0:decide (v<0)=false:=decide_eq_false (by omega);have y1:decide ((65535:Int)<v)=false:=decide_eq_false (by omega);have k0:(0:Int)<=(k:Int):=Int.natCast_nonneg _;have k1:(k:Int)<(N:Int):=by omega
 clear h hr hv0 hv1 hk;go_enter func445,ntmps445;go_wp2_with fail;refine i1.out.mono ?_;rintro e w1⟨rfl,rfl⟩;go_wp2_with fail;refine i2.out.mono ?_;rintro e w2⟨rfl,hp⟩;go_wp2_with fail;go_ret2;exact⟨rfl,hp⟩
theorem aFo(g:Nat)(uB uy:Addr)(N cE cW k:Nat)(src v:Int)(gr:Nat)(m:Int)(is:Bool)(w:World)(h:ku w g (some uB) cE (some uy) N cW)(hk:k<N)
(hs:w.cell? (uB.add (k*3))=some (iV src))(hw:w.cell? (uy.add k)=some (.iface 302 (.pointer (some (tZ gr 0)))))(hr:mL w gr m is)(hv0:0<=v)(hv1:v<=65535):
  Calls prog 445 #[.pointer (some (tZ g 0)),iV src,iV (k:Int),iV v] w fun e w'=>e=.returned (.tuple #[.bool true,iV 0])/\mL w' gr v true/\bD (fun b=>b=gr) w w':=by
 have c0:w.cell? (tZ g 0)=some (.slice (some uB) N cE):=ak.cellAt h rfl;have c1:w.cell? (tZ g 1)=some (.slice (some uy) N cW):=ak.cellAt h rfl;have i1:=hid (gK g (some uB) (some uy) N cE cW (k:Int) w h);rw[decide_eq_true (show(0:Int)<=(k:Int) by omega),decide_eq_true (show(k:Int)<(N:Int) by omega)]at i1;have i2:=hid (aEX gr m v is w hr);have y0:decide (v<0)=false:=decide_eq_false (by omega);have y1:decide ((65535:Int)<v)=false:=decide_eq_false (by omega);have k0:(0:Int)<=(k:Int):=Int.natCast_nonneg _;have k1:(k:Int)<(N:Int):=by omega
 clear h hr hv0 hv1 hk;go_enter func445,ntmps445;go_wp2_with fail;refine i1.out.mono ?_;rintro e w1⟨rfl,rfl⟩;go_wp2_with fail;refine i2.out.mono ?_;rintro e w2⟨rfl,hp⟩;go_wp2_with fail;go_ret2;exact⟨rfl,hp⟩
theorem aKx(g:Nat)(uB uy:Addr)(N cE cW k:Nat)(dst:Int)(gr:Nat)(A:Option Addr)(c:Nat)(d:Nat)(w:World)(h:ku w g (some uB) cE (some uy) N cW)(hk:k<N)
(hs:w.cell? (tZ ((uB.add (k*3)).block) ((uB.add (k*3)).off+1))=some (iV dst))(hw:w.cell? (uy.add k)=some (.iface 305 (.pointer (some (tZ gr 0)))))(hr:jH w gr A c [] d):
  Calls prog 443 #[.pointer (some (tZ g 0)),iV dst,iV (k:Int)] w fun e w'=>e=.returned (.tuple #[iV 0,.bool false,iV 0])/\w'=w:=by
 have c0:w.cell? (tZ g 0)=some (.slice (some uB) N cE):=ak.cellAt h rfl;have c1:w.cell? (tZ g 1)=some (.slice (some uy) N cW):=ak.cellAt h rfl;have i1:=hid (gK g (some uB) (some uy) N cE cW (k:Int) w h);rw[decide_eq_true (show(0:Int)<=(k:Int) by omega),decide_eq_true (show(k:Int)<(N:Int) by omega)]at i1;have i2:=hid (aK4 gr A c d w hr);have k0:(0:Int)<=(k:Int):=Int.natCast_nonneg _;have k1:(k:Int)<(N:Int):=by omega
 clear h hr hk;go_enter func443,ntmps443;go_wp2_with fail;refine i1.out.mono ?_;rintro e w1⟨rfl,rfl⟩;go_wp2_with fail;refine i2.out.mono ?_;rintro e w2⟨rfl,rfl⟩;go_wp2_with fail;refine bodyPost_ret (v:=.tuple #[iV 0,.bool false,iV 0]) (by simp[results,results443,go_sem]) rfl ?_;exact⟨rfl,by first|trivial|rfl⟩
theorem aHh(g:Nat)(uB uy:Addr)(N cE cW k:Nat)(dst:Int)(gr:Nat)(A:Option Addr)(c:Nat)(x:Int)(l:List Int)(d:Nat)(w:World)(h:ku w g (some uB) cE (some uy) N cW)(hk:k<N)
(hs:w.cell? (tZ ((uB.add (k*3)).block) ((uB.add (k*3)).off+1))=some (iV dst))(hw:w.cell? (uy.add k)=some (.iface 305 (.pointer (some (tZ gr 0)))))(hr:jH w gr A c (x::l) d):
  Calls prog 443 #[.pointer (some (tZ g 0)),iV dst,iV (k:Int)] w fun e w'=>e=.returned (.tuple #[iV x,.bool true,iV 0])/\jH w' gr A c l d/\bD (fun b=>b=gr\/bH A b) w w':=by
 have c0:w.cell? (tZ g 0)=some (.slice (some uB) N cE):=ak.cellAt h rfl;have c1:w.cell? (tZ g 1)=some (.slice (some uy) N cW):=ak.cellAt h rfl;have i1:=hid (gK g (some uB) (some uy) N cE cW (k:Int) w h);rw[decide_eq_true (show(0:Int)<=(k:Int) by omega),decide_eq_true (show(k:Int)<(N:Int) by omega)]at i1;have i2:=hid (aH6 gr A c x l d w hr);have k0:(0:Int)<=(k:Int):=Int.natCast_nonneg _;have k1:(k:Int)<(N:Int):=by omega
 clear h hr hk;go_enter func443,ntmps443;go_wp2_with fail;refine i1.out.mono ?_;rintro e w1⟨rfl,rfl⟩;go_wp2_with fail;refine i2.out.mono ?_;rintro e w2⟨rfl,hp⟩;go_wp2_with fail;refine bodyPost_ret (v:=.tuple #[iV x,.bool true,iV 0]) (by simp[results,results443,go_sem]) rfl ?_;exact⟨rfl,hp⟩
theorem aFy(g:Nat)(uB uy:Addr)(N cE cW k:Nat)(dst:Int)(gr:Nat)(m:Int)(is:Bool)(w:World)(h:ku w g (some uB) cE (some uy) N cW)(hk:k<N)
(hs:w.cell? (tZ ((uB.add (k*3)).block) ((uB.add (k*3)).off+1))=some (iV dst))(hw:w.cell? (uy.add k)=some (.iface 302 (.pointer (some (tZ gr 0)))))(hr:mL w gr m is):
  Calls prog 443 #[.pointer (some (tZ g 0)),iV dst,iV (k:Int)] w fun e w'=>e=.returned (.tuple #[iV m,.bool is,iV 0])/\∃q,w'=w.drewN q:=by
 have c0:w.cell? (tZ g 0)=some (.slice (some uB) N cE):=ak.cellAt h rfl;have c1:w.cell? (tZ g 1)=some (.slice (some uy) N cW):=ak.cellAt h rfl;have i1:=hid (gK g (some uB) (some uy) N cE cW (k:Int) w h);rw[decide_eq_true (show(0:Int)<=(k:Int) by omega),decide_eq_true (show(k:Int)<(N:Int) by omega)]at i1;have i2:=hid (aFM gr m is w hr);have k0:(0:Int)<=(k:Int):=Int.natCast_nonneg _;have k1:(k:Int)<(N:Int):=by omega
 clear h hr hk;go_enter func443,ntmps443;go_wp2_with fail;refine i1.out.mono ?_;rintro e w1⟨rfl,rfl⟩;go_wp2_with fail;refine i2.out.mono ?_;rintro e w2⟨rfl,hp⟩;go_wp2_with fail;refine bodyPost_ret (v:=.tuple #[iV m,.bool is,iV 0]) (by simp[results,results443,go_sem]) rfl ?_;exact⟨rfl,hp⟩
theorem aKK(g:Nat)(AE AW:Option Addr)(N cE cW:Nat)(p k v:Int)(w:World)(h:ku w g AE cE AW N cW)(hk:¬(0<=k/\k<N)):
  Calls prog 445 #[.pointer (some (tZ g 0)),iV p,iV k,iV v] w fun e w'=>e=.returned (.tuple #[.bool false,iV 15])/\w'=w:=by
 have i1:=hid (gK g AE AW N cE cW k w h);have hf:(decide (0<=k)&&decide (k<(N:Int)))=false:=by
  rw[Bool.and_eq_false_iff,decide_eq_false_iff_not,decide_eq_false_iff_not];omega
 rw[hf]at i1;clear h hk hf;go_enter func445,ntmps445;go_wp2_with fail;refine i1.out.mono ?_;rintro e w1⟨rfl,rfl⟩;go_wp2_with fail;go_ret2;exact⟨rfl,by first|trivial|rfl⟩
theorem aNp(g:Nat)(AE AW:Option Addr)(N cE cW:Nat)(p k:Int)(w:World)(h:ku w g AE cE AW N cW)(hk:¬(0<=k/\k<N)):
  Calls prog 443 #[.pointer (some (tZ g 0)),iV p,iV k] w fun e w'=>e=.returned (.tuple #[iV 0,.bool false,iV 15])/\w'=w:=by
 have i1:=hid (gK g AE AW N cE cW k w h);have hf:(decide (0<=k)&&decide (k<(N:Int)))=false:=by
  rw[Bool.and_eq_false_iff,decide_eq_false_iff_not,decide_eq_false_iff_not];omega
 rw[hf]at i1;clear h hk hf;go_enter func443,ntmps443;go_wp2_with fail;refine i1.out.mono ?_;rintro e w1⟨rfl,rfl⟩;go_wp2_with fail;refine bodyPost_ret (v:=.tuple #[iV 0,.bool false,iV 15]) (by simp[results,results443,go_sem]) rfl ?_;exact⟨rfl,by first|trivial|rfl⟩
theorem aMD(g:Nat)(uB uy:Addr)(N cE cW k:Nat)(src p v:Int)(w:World)(h:ku w g (some uB) cE (some uy) N cW)(hk:k<N)(hs:w.cell? (uB.add (k*3))=some (iV src))(hp:src≠p):
  Calls prog 445 #[.pointer (some (tZ g 0)),iV p,iV (k:Int),iV v] w fun e w'=>e=.returned (.tuple #[.bool false,iV 15])/\w'=w:=by
 have c0:w.cell? (tZ g 0)=some (.slice (some uB) N cE):=ak.cellAt h rfl;have c1:w.cell? (tZ g 1)=some (.slice (some uy) N cW):=ak.cellAt h rfl;have i1:=hid (gK g (some uB) (some uy) N cE cW (k:Int) w h);rw[decide_eq_true (show(0:Int)<=(k:Int) by omega),decide_eq_true (show(k:Int)<(N:Int) by omega)]at i1;have k0:(0:Int)<=(k:Int):=Int.natCast_nonneg _;have k1:(k:Int)<(N:Int):=by omega
 have z0:(src !=p)=true:=by simpa using hp
 clear h hk hp;go_enter func445,ntmps445;go_wp2_with fail;refine i1.out.mono ?_;rintro e w1⟨rfl,rfl⟩;go_wp2_with fail;go_ret2;exact⟨rfl,by first|trivial|rfl⟩
theorem aNN(g:Nat)(uB uy:Addr)(N cE cW k:Nat)(dst p:Int)(w:World)(h:ku w g (some uB) cE (some uy) N cW)(hk:k<N)(hs:w.cell? (tZ ((uB.add (k*3)).block) ((uB.add (k*3)).off+1))=some (iV dst))(hp:dst≠p):
  Calls prog 443 #[.pointer (some (tZ g 0)),iV p,iV (k:Int)] w fun e w'=>e=.returned (.tuple #[iV 0,.bool false,iV 15])/\w'=w:=by
 have c0:w.cell? (tZ g 0)=some (.slice (some uB) N cE):=ak.cellAt h rfl;have c1:w.cell? (tZ g 1)=some (.slice (some uy) N cW):=ak.cellAt h rfl;have i1:=hid (gK g (some uB) (some uy) N cE cW (k:Int) w h);rw[decide_eq_true (show(0:Int)<=(k:Int) by omega),decide_eq_true (show(k:Int)<(N:Int) by omega)]at i1;have k0:(0:Int)<=(k:Int):=Int.natCast_nonneg _;have k1:(k:Int)<(N:Int):=by omega
 have z0:(dst !=p)=true:=by simpa using hp
 clear h hk hp;go_enter func443,ntmps443;go_wp2_with fail;refine i1.out.mono ?_;rintro e w1⟨rfl,rfl⟩;go_wp2_with fail;refine bodyPost_ret (v:=.tuple #[iV 0,.bool false,iV 15]) (by simp[results,results443,go_sem]) rfl ?_;exact⟨rfl,by first|trivial|rfl⟩
theorem aHO(g:Nat)(uB uy:Addr)(N cE cW k:Nat)(src v:Int)(w:World)(h:ku w g (some uB) cE (some uy) N cW)(hk:k<N)(hs:w.cell? (uB.add (k*3))=some (iV src))(hv:v<0\/65535<v):
  Calls prog 445 #[.pointer (some (tZ g 0)),iV src,iV (k:Int),iV v] w fun e w'=>e=.returned (.tuple #[.bool false,iV 3])/\w'=w:=by
 have c0:w.cell? (tZ g 0)=some (.slice (some uB) N cE):=ak.cellAt h rfl;have c1:w.cell? (tZ g 1)=some (.slice (some uy) N cW):=ak.cellAt h rfl;have i1:=hid (gK g (some uB) (some uy) N cE cW (k:Int) w h);rw[decide_eq_true (show(0:Int)<=(k:Int) by omega),decide_eq_true (show(k:Int)<(N:Int) by omega)]at i1;have k0:(0:Int)<=(k:Int):=Int.natCast_nonneg _;have k1:(k:Int)<(N:Int):=by omega
 clear h hk;by_cases h0:v<0
 ·have y0:decide (v<0)=true:=decide_eq_true h0;clear h0 hv;go_enter func445,ntmps445;go_wp2_with fail;refine i1.out.mono ?_;rintro e w1⟨rfl,rfl⟩;go_wp2_with fail;go_ret2;exact⟨rfl,by first|trivial|rfl⟩
 ·have y0:decide (v<0)=false:=decide_eq_false h0;have y1:decide ((65535:Int)<v)=true:=decide_eq_true (by omega);clear h0 hv;go_enter func445,ntmps445;go_wp2_with fail;refine i1.out.mono ?_;rintro e w1⟨rfl,rfl⟩;go_wp2_with fail;go_ret2;exact⟨rfl,by first|trivial|rfl⟩
theorem aH7:(prog.info? 75).map (fun i=>(i.zero,i.size,i.bytes))=some (some (.agg #[iV 0,iV 0,iV 0]),3,24):=by kernel_rfl
theorem aDU(l:List aB):∀u∈l.flatMap fQ,u.oneCell'=true:=by
 intro u hu;obtain⟨x,_,hx⟩:=List.mem_flatMap.1 hu;simp only[fQ,List.mem_cons,List.not_mem_nil,or_false]at hx;rcases hx with rfl|rfl|rfl<;>rfl
theorem aI4(A:Option Addr)(n c:Nat)(l:List aB)(w:World)(h:ai w w.heap.size 3 A n (l.flatMap fQ))(hn:n<=1000000000):
  Calls prog 198 #[.slice A n c] w fun e w'=>∃A' c',e=.returned (.slice A' n c')/\w'.ownsRow w.heap.size 75 3 (.slice A' n c') n (l.flatMap fQ)/\Below w.heap.size w w':=by
 have hnil:=fun(W:World) (a:Option Addr)=>Lib.run_eql_slice_nil (P:=prog) W 24 75 a n c 0 0 underlying24
 obtain⟨i0,hi0,hz0,hz1,hz2⟩:=info_parts aH7;cases A with
 |none=>
  have hb:n=0:=by
   by_cases h0:0<n
   ·obtain⟨ad,he,_⟩:=h.form h0;cases he
   ·omega
  subst hb;have hb:l.flatMap fQ=[]:=List.eq_nil_of_length_eq_zero (by simpa using h.len);rw[hb];clear h hb;go_enter func198,ntmps198;go_wp2
  go_ret;exact⟨none,0,rfl,World.ownsRow_nil _ _ _ _,Below.refl _ _⟩
 |some ad=>
  go_enter func198,ntmps198;go_wp2_with (at_builtin;refine aAA _ rfl (.tmp 5) (.tmp 6) _ rfl w.heap.size 75 i0 _ 3 24 underlying24 hi0 hz0 hz1 hz2 rfl (by decide) (.slice (some (tZ w.heap.size 0)) 0 0) 0 [] rfl (World.ownsRow_made w _ 0 (Nat.le_refl _) (by simp[maxLen]) rfl) w.heap.size (some ad) n c (l.flatMap fQ) rfl (h.alloc (Nat.le_refl _) _) (aDU l) (by simp[maxLen];omega) (by omega) (by simp) ?_;intro A' c' w' hown hg hb)
  go_ret;refine⟨A',c',by simp,by simpa using hown,?_⟩;exact Jv ((Below.refl w.heap.size w).alloc (Nat.le_refl _) _) (World.ownsRow_made (size:=3) w _ 0 (Nat.le_refl _) (by simp[maxLen]) rfl) hg (Nat.le_refl _) (by simp)
theorem aNK(t:aG)(a:bM)(w:World):∃w1:World,w.alloc (.cells #[iV t.frame,.slice a.A1 t.parts.length a.c1,.slice a.A2 t.wins.length a.c2,.slice a.A3 t.chans.length a.c3,iV t.trial] 26)=w1/\Below w.heap.size w w1/\ak w1 w.heap.size 26 [iV t.frame,.slice a.A1 t.parts.length a.c1,.slice a.A2 t.wins.length a.c2,.slice a.A3 t.chans.length a.c3,iV t.trial]/\w1.heap.size=w.heap.size+1:=
 ⟨_,rfl,(Below.refl _ _).alloc (Nat.le_refl _) _,ak.new _ _ _,by simp⟩
end Go.Proofs.YtfjkpigldogkeaaGreatDoor
