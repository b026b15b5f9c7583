/- Contracts of functions that TopQuiet reaches, under the conditions that each states. -/
import Derived.Test.YtfjkpigldogkeaaGreatDoorQbs
set_option linter.all false
set_option maxRecDepth 100000
set_option maxHeartbeats 8000000
namespace Go.Proofs.YtfjkpigldogkeaaGreatDoor
open Go.RowKit Go.ChangeShapes Go.WideShapes Go.ChangeAt Go.Proofs.Tryz
structure kO (line word rest:ByteArray):Prop where
 size:line.size<=1000
 c1:(⟨(Lib.cut line.data.toList (⟨#[32]⟩:ByteArray).data.toList).1.toArray⟩:ByteArray)=word
 c2:(⟨(Lib.cut line.data.toList (⟨#[32]⟩:ByteArray).data.toList).2.1.toArray⟩:ByteArray)=rest
 c3:(Lib.cut line.data.toList (⟨#[32]⟩:ByteArray).data.toList).2.2=true
 ne:¬rest=⟨#[]⟩
theorem aIA{line word rest:ByteArray}(h:kO line word rest)(m:Int)(w:World)(hm:w.cell? (tZ 0 0)=some (iV m)):
  Calls prog 222 #[.string line,.string ⟨#[32]⟩] w fun e w'=>e=.returned (.tuple #[.string word,.string rest,.bool true])/\Below w.heap.size w w':=
 (Tryz.strings_Cut line ⟨#[32]⟩ m w (by have:=h.size;omega) hm).mono fun e w' ⟨h1,n,h2⟩=>⟨by rw[h1,h.c1,h.c2,h.c3],h2▸bW (Below.refl _ _) n⟩
theorem aLJ(f sb:Nat)(w:World):(Go.binOp .eql 157 (.func (.func f) #[.pointer (some (tZ sb 0))] #[]) .nilFunc).run prog w=.ok (.bool false) w:=by kernel_rfl
theorem aMb(f sb:Nat)(w:World):(Go.binOp .neq 157 (.func (.func f) #[.pointer (some (tZ sb 0))] #[]) .nilFunc).run prog w=.ok (.bool true) w:=by kernel_rfl
theorem aIc(w:World):(Go.binOp .eql 157 .nilFunc .nilFunc).run prog w=.ok (.bool true) w:=by kernel_rfl
theorem aIh(w:World):(Go.binOp .neq 157 .nilFunc .nilFunc).run prog w=.ok (.bool false) w:=by kernel_rfl
section
variable{w w' w0:World}{l:List ay}{m:Int}{sb mb:Nat}{xs:List Value}{ml:List (Value×Value)}
theorem jJ(hm:w0.cell? (tZ 0 0)=some (iV m))(h:ae w0 (aj sb 155 xs::pM mb ml::l) w){line word rest:ByteArray}(hL:kO line word rest)(nn:Int)(md:Bool)(f:Nat)(kp:Option Addr)(G7:md=kp.isSome)
(h7:xs[7]? =some (.pointer kp))(h10:xs[10]? =some (.map (some mb)))(hf:∀d,prog.underlying 9=some d->kL d (.string word) ml=some (some (.agg #[iV nn,.bool md,.func (.func f) #[.pointer (some (tZ sb 0))] #[],.nilFunc])))
{ss:List ByteArray}{ds:List Int}(hN:lQ rest ss ds)(hnn:nn<0\/nn=(ds.length:Int))(he:∀args w,(callFunc f args).run prog w=.ok (.enter f args) w){R:ByteArray->World->Prop}
(hc:∀(A:Option Addr)(c:Nat)(W:World),ae w0 (aA 3 1 A ds.length c (ds.map iV)::aj sb 155 xs::pM mb ml::l) W->Calls prog f #[.pointer (some (tZ sb 0)),.slice A ds.length c] W fun e w'=>∃t,e=.returned (.tuple #[.string t,iV 0])/\R t w'):
  Calls prog 166 #[.pointer (some (tZ sb 0)),.string line] w fun e w'=>∃t,e=.returned (.tuple #[.string t,iV 0])/\R t w':=by
 have i1:=hid (aIA hL m w (h.lib hm));have b1:=aLJ f sb;have b2:=aMb f sb;have b3:=aIc;have b4:=aIh;have hds:=underlying9;have G8:Hid (∀W,jO W mb ml->(Instr.lookup 153 (.map (some mb)) (.string word) true).run prog W=.ok (.tuple #[.agg #[iV nn,.bool md,.func (.func f) #[.pointer (some (tZ sb 0))] #[],.nilFunc],.bool true]) W):=hid fun W hM=>aBG underlying153 hds trivial hM (hf _ hds)
 have i2:=hid (fun(l:List ay) (W:World) (hW:ae w0 l W)=>aBW hm hW hN nn hnn);have hne:=hL.ne;have e1:=N8 hne;have e2:=aFs hne;have HK:Hid (∀W,ae w0 (aj sb 155 xs::pM mb ml::l) W->W.cell? (tZ sb 7)=some (.pointer kp)/\W.cell? (tZ sb 10)=some (.map (some mb))/\jO W mb ml):=hid fun W hW=>⟨hW.blk.cellAt h7,hW.blk.cellAt h10,(hW.at_ 1 rfl).map⟩
 have HA:=hid h;have HC:=hid hc;have HE:=hid G7;clear hm h hL h7 h10 hf hN hc hds G7;go_enter func166,ntmps166;go_wp2_with fail;refine i1.out.mono ?_;rintro e w1⟨rfl,hb1⟩;have H1:=hid (HA.out.belowS hb1);obtain⟨c7,c10,hM⟩:=HK.out _ H1.out;have hq:=G8.out w1 hM;clear hb1 i1 HA hM;go_wp2_with fail;obtain⟨w2,hw2⟩:∃w2,w1.alloc (.cells #[iV nn,.bool md,.func (.func f) #[.pointer (some (tZ sb 0))] #[],.nilFunc] 159)=w2:=⟨_,rfl⟩;have h2:=H1.out.made (T:=159) (xs:=[iV nn,.bool md,.func (.func f) #[.pointer (some (tZ sb 0))] #[],.nilFunc]);rw[show(w1.alloc (.cells ([iV nn,.bool md,.func (.func f) #[.pointer (some (tZ sb 0))] #[],.nilFunc]:List Value).toArray 159))=w2 from hw2]at h2;rw[hw2];obtain⟨vb,hvb⟩:∃vb,w1.heap.size=vb:=⟨_,rfl⟩;rw[hvb]at h2 ⊢;have i3:=hid (i2.out _ _ h2);have GX:=hid (fun(i:Nat) (v:Value) (hv:([iV nn,.bool md,.func (.func f) #[.pointer (some (tZ sb 0))] #[],.nilFunc]:List Value)[i]? =some v)=>h2.blk.cellAt hv);have g0:w2.cell? (tZ vb 0)=some (iV nn):=GX.out 0 _ rfl;clear i2 h2 hw2 H1 c7 c10 hq hvb GX;go_wp2_with fail;refine i3.out.mono ?_;rintro e w3⟨A,c,rfl,h3⟩;have H3:=hid h3;obtain⟨c7,c10,_⟩:=HK.out _ (H3.out.pn 3 [2]);have g1:w3.cell? (tZ vb 1)=some (.bool md):=(h3.at_ 1 rfl).blk.cellAt rfl;have g2:w3.cell? (tZ vb 2)=some (.func (.func f) #[.pointer (some (tZ sb 0))] #[]):=(h3.at_ 1 rfl).blk.cellAt rfl;have g3:w3.cell? (tZ vb 3)=some (.nilFunc):=(h3.at_ 1 rfl).blk.cellAt rfl;have G7:=HE.out
 subst G7;clear i3 h3 g0 HE c10;rcases kp with _|kp
 ·simp only[Option.isSome_none,Option.isSome_some]at g1 ⊢;go_wp2_with fail;go_region_held3 (fun w'=>w'.cell? (tZ vb 1)=some (.bool false)/\w'.cell? (tZ sb 7)=some (.pointer none)) (go_keep) (fail)
  go_wp2_with fail;refine(HC.out A c _ (H3.out.pn 3 [0,2]).drew).mono ?_;rintro e w5⟨t,rfl,hR⟩;have HR:=hid hR;clear hR;go_wp2_with fail;go_ret2;exact⟨t,rfl,HR.out⟩
 ·simp only[Option.isSome_none,Option.isSome_some]at g1 ⊢;go_wp2_with fail;go_region_held3 (fun w'=>w'.cell? (tZ vb 1)=some (.bool true)/\w'.cell? (tZ sb 7)=some (.pointer (some kp))) (go_keep) (fail)
  go_wp2_with fail;refine(HC.out A c _ (H3.out.pn 3 [0,2]).drew).mono ?_;rintro e w5⟨t,rfl,hR⟩;have HR:=hid hR;clear hR;go_wp2_with fail;go_ret2;exact⟨t,rfl,HR.out⟩
theorem aCM(hm:w0.cell? (tZ 0 0)=some (iV m))(h:ae w0 (aj sb 155 xs::pM mb ml::l) w){line word rest:ByteArray}(hL:kO line word rest)(nn:Int)(md:Bool)(f:Nat)(kp:Option Addr)(G7:md=kp.isSome)
(h7:xs[7]? =some (.pointer kp))(h10:xs[10]? =some (.map (some mb)))(hf:∀d,prog.underlying 9=some d->kL d (.string word) ml=some (some (.agg #[iV nn,.bool md,.nilFunc,.func (.func f) #[.pointer (some (tZ sb 0))] #[]])))
(hN:∀(l:List ay)(W:World),ae w0 l W->Calls prog 155 #[.string rest,iV nn] W fun e w'=>∃A n c b,e=.returned (.tuple #[.slice A n c,.bool b])/\ae w0 l w')(he:∀args w,(callFunc f args).run prog w=.ok (.enter f args) w){R:ByteArray->World->Prop}
(hc:∀(W:World),ae w0 (aj sb 155 xs::pM mb ml::l) W->Calls prog f #[.pointer (some (tZ sb 0)),.string rest] W fun e w'=>∃t,e=.returned (.tuple #[.string t,iV 0])/\R t w'):
  Calls prog 166 #[.pointer (some (tZ sb 0)),.string line] w fun e w'=>∃t,e=.returned (.tuple #[.string t,iV 0])/\R t w':=by
 have i1:=hid (aIA hL m w (h.lib hm));have b1:=aLJ f sb;have b2:=aMb f sb;have b3:=aIc;have b4:=aIh;have hds:=underlying9;have G8:Hid (∀W,jO W mb ml->(Instr.lookup 153 (.map (some mb)) (.string word) true).run prog W=.ok (.tuple #[.agg #[iV nn,.bool md,.nilFunc,.func (.func f) #[.pointer (some (tZ sb 0))] #[]],.bool true]) W):=hid fun W hM=>aBG underlying153 hds trivial hM (hf _ hds)
 have i2:=hid hN;have hne:=hL.ne;have e1:=N8 hne;have e2:=aFs hne;have HK:Hid (∀W,ae w0 (aj sb 155 xs::pM mb ml::l) W->W.cell? (tZ sb 7)=some (.pointer kp)/\W.cell? (tZ sb 10)=some (.map (some mb))/\jO W mb ml):=hid fun W hW=>⟨hW.blk.cellAt h7,hW.blk.cellAt h10,(hW.at_ 1 rfl).map⟩
 have HA:=hid h;have HC:=hid hc;have HE:=hid G7;clear hm h hL h7 h10 hf hN hc hds G7;go_enter func166,ntmps166;go_wp2_with fail;refine i1.out.mono ?_;rintro e w1⟨rfl,hb1⟩;have H1:=hid (HA.out.belowS hb1);obtain⟨c7,c10,hM⟩:=HK.out _ H1.out;have hq:=G8.out w1 hM;clear hb1 i1 HA hM;go_wp2_with fail;obtain⟨w2,hw2⟩:∃w2,w1.alloc (.cells #[iV nn,.bool md,.nilFunc,.func (.func f) #[.pointer (some (tZ sb 0))] #[]] 159)=w2:=⟨_,rfl⟩;have h2:=H1.out.made (T:=159) (xs:=[iV nn,.bool md,.nilFunc,.func (.func f) #[.pointer (some (tZ sb 0))] #[]]);rw[show(w1.alloc (.cells ([iV nn,.bool md,.nilFunc,.func (.func f) #[.pointer (some (tZ sb 0))] #[]]:List Value).toArray 159))=w2 from hw2]at h2;rw[hw2];obtain⟨vb,hvb⟩:∃vb,w1.heap.size=vb:=⟨_,rfl⟩;rw[hvb]at h2 ⊢;have i3:=hid (i2.out _ _ h2);have GX:=hid (fun(i:Nat) (v:Value) (hv:([iV nn,.bool md,.nilFunc,.func (.func f) #[.pointer (some (tZ sb 0))] #[]]:List Value)[i]? =some v)=>h2.blk.cellAt hv);have g0:w2.cell? (tZ vb 0)=some (iV nn):=GX.out 0 _ rfl;clear i2 h2 hw2 H1 c7 c10 hq hvb GX;go_wp2_with fail;refine i3.out.mono ?_;rintro e w3⟨A,n,c,b,rfl,h3⟩;have H3:=hid h3;obtain⟨c7,c10,_⟩:=HK.out _ (H3.out.pn 2 [1]);have g1:w3.cell? (tZ vb 1)=some (.bool md):=(h3.at_ 0 rfl).blk.cellAt rfl;have g2:w3.cell? (tZ vb 2)=some (.nilFunc):=(h3.at_ 0 rfl).blk.cellAt rfl;have g3:w3.cell? (tZ vb 3)=some (.func (.func f) #[.pointer (some (tZ sb 0))] #[]):=(h3.at_ 0 rfl).blk.cellAt rfl
 have G7:=HE.out;subst G7;clear i3 h3 g0 HE c10;rcases kp with _|kp
 ·simp only[Option.isSome_none,Option.isSome_some]at g1 ⊢;go_wp2_with fail;go_region_held3 (fun w'=>w'.cell? (tZ vb 1)=some (.bool false)/\w'.cell? (tZ sb 7)=some (.pointer none)) (go_keep) (fail)
  go_wp2_with fail;refine(HC.out _ (H3.out.pn 2 [1]).drew).mono ?_;rintro e w5⟨t,rfl,hR⟩;have HR:=hid hR;clear hR;go_wp2_with fail;go_ret2;exact⟨t,rfl,HR.out⟩
 ·simp only[Option.isSome_none,Option.isSome_some]at g1 ⊢;go_wp2_with fail;go_region_held3 (fun w'=>w'.cell? (tZ vb 1)=some (.bool true)/\w'.cell? (tZ sb 7)=some (.pointer (some kp))) (go_keep) (fail)
  go_wp2_with fail;refine(HC.out _ (H3.out.pn 2 [1]).drew).mono ?_;rintro e w5⟨t,rfl,hR⟩;have HR:=hid hR;clear hR;go_wp2_with fail;go_ret2;exact⟨t,rfl,HR.out⟩
theorem mJ(line:ByteArray){R:ByteArray->World->Prop}(h:Calls prog 166 #[.pointer (some (tZ sb 0)),.string line] w fun e w'=>∃t,e=.returned (.tuple #[.string t,iV 0])/\R t w'):
  Calls prog 99 #[.pointer (some (tZ sb 0)),.string line] w fun e w'=>∃t,e=.returned (.string t)/\R t w':=by
 have i1:=hid h;clear h;go_enter func99,ntmps99;go_wp2_with fail;refine i1.out.mono ?_;rintro e w1⟨t,rfl,hR⟩;have HR:=hid hR;clear hR;go_wp2_with fail;go_ret;exact⟨t,rfl,HR.out⟩
end
structure Oj (w0:World) (H:List ay) (l:List ay) (A:Option Addr) (n c:Nat) (evs:List kJ) (k:Nat) (es:List kJ) (wr:World):Prop where
 len:es.length=n
 pl:es.map kJ.pl=evs.map kJ.pl
 rest:∀j,k<=j->es[j]? =evs[j]?
 all:ae w0 (aA 57 11 A n c (es.flatMap lj)::((es.take k).map lu++(H++(evs.map lu++l)))) wr
theorem aFS(l:List kJ):∀u∈l.flatMap lj,u.oneCell'=true:=by
 intro u hu;obtain⟨x,_,hx⟩:=List.mem_flatMap.1 hu;simp only[lj,lG,List.mem_cons,List.not_mem_nil,or_false]at hx;rcases hx with rfl|rfl|rfl|rfl|rfl|rfl|rfl|rfl|rfl|rfl|rfl<;>rfl
theorem aDG(l:List (Int×Int)):∀u∈l.flatMap iY,u.oneCell'=true:=by
 intro u hu;obtain⟨x,_,hx⟩:=List.mem_flatMap.1 hu;simp only[iY,List.mem_cons,List.not_mem_nil,or_false]at hx;rcases hx with rfl|rfl|rfl<;>rfl
theorem aB9(l:List (Int×Int)):∀u∈l.flatMap gq,u.oneCell'=true:=by
 intro u hu;obtain⟨x,_,hx⟩:=List.mem_flatMap.1 hu;simp only[gq,List.mem_cons,List.not_mem_nil,or_false]at hx;rcases hx with rfl|rfl<;>rfl
theorem aAi(l:List Int):∀u∈l.map iV,u.oneCell'=true:=by
 intro u hu;obtain⟨x,_,rfl⟩:=List.mem_map.1 hu;rfl
section
variable{w w' w0:World}{g n c k:Nat}{l:List ay}{es:List kJ}{ev:kJ}
theorem gI(h:ae w0 (aA 57 11 (some (tZ g 0)) n c (es.flatMap lj)::l) w)(hes:es[k]? =some ev)(j:Nat)(v:Value)(hv:(lj ev)[j]? =some v):w.cell? (tZ g (k*11+j))=some v/\w.frozen? (tZ g (k*11+j))=false:=by
 have ho:=h.own;have hl:=aIx ho;rw[aA7 lj 11 Oh]at hl;have hj:j<11:=(List.getElem?_eq_some_iff.1 hv).1;have hk:k<es.length:=(List.getElem?_eq_some_iff.1 hes).1;have h1:=ho.cellAt (k*11+j) (by omega);rw[Og lj 11 Oh es k _ j hes hj]at h1;exact⟨h1.trans hv,ho.frozenAt _⟩
theorem aBj(h:ae w0 (aA 57 11 (some (tZ g 0)) n c (es.flatMap lj)::l) w)(hes:es[k]? =some ev)(ev':kJ)(j:Nat)(hj:j<11)(v:Value)(hv:lj ev'=(lj ev).set j v):
  ae w0 (aA 57 11 (some (tZ g 0)) n c ((es.set k ev').flatMap lj)::l) (w.setCell (tZ g (k*11+j)) v):=by
 rw[<-aCl lj 11 Oh v ev' j hj es k ev hes hv];exact h.aQz (k*11+j) v
theorem ae.lgEv{A:Option Addr}{xs:List Value}{e:kJ}(h:ae w0 (kD e.r.A3 e.r.st.length e.r.c3 (e.r.st.map iV) e.r.A4 e.r.me.length e.r.c4 (e.r.me.map iV)::aA 73 3 e.A1 e.bo.length e.c1 (e.bo.flatMap iY)::aA 77 2 e.r.A2 e.r.sn.length e.r.c2 (e.r.sn.flatMap gq)::aA 57 11 A n c xs::l) w):
  ae w0 (aA 57 11 A n c xs::lu e::l) w:=by
 have h1:=ae.all (L:=aA 73 3 e.A1 e.bo.length e.c1 (e.bo.flatMap iY)::qM e.r) (h.pn 4 [1,0,2,3] (by decide) (Nat.le_add_left 4 _));exact h1.pn 2 [1,0] (by decide) (Nat.le_add_left 2 _)
theorem aPk{H:List ay}{A:Option Addr}{evs:List kJ}{e4:kJ}{wr:World}(hR:Oj w0 H l A n c evs k es wr)(hes:es[k]? =some ev)(hpl:e4.pl=ev.pl)(h:ae w0 (aA 57 11 A n c ((es.set k e4).flatMap lj)::lu e4::((es.take k).map lu++(H++(evs.map lu++l)))) w'):Oj w0 H l A n c evs (k+1) (es.set k e4) w':=by
 have hk:k<es.length:=(List.getElem?_eq_some_iff.1 hes).1;refine⟨by rw[List.length_set];exact hR.len,?_,fun j hj=>?_,?_⟩
 ·rw[<-hR.pl];apply List.ext_getElem?
  intro j;rw[List.getElem?_map,List.getElem?_map,List.getElem?_set];by_cases hj:k=j
  ·subst hj;rw[if_pos rfl,if_pos hk,hes,Option.map_some,Option.map_some,hpl]
  ·rw[if_neg hj]
 ·rw[List.getElem?_set_ne (by omega)];exact hR.rest j (by omega)
 ·have e1:(es.set k e4).take (k+1)=es.take k++[e4]:=by
   rw[List.take_add_one,List.take_set_of_le (Nat.le_refl k),List.getElem?_set_self hk];rfl
  rw[e1,List.map_append,List.append_assoc];exact h.perm (List.Perm.cons _ List.perm_middle.symm)
end
section
variable{w w' w0:World}{rb kb lk:Nat}{l:List ay}{evs:List kJ}
theorem aPA(h:ae w0 (oC rb kb lk evs::l) w)(hn:evs.length<=100000)(hb:∀e∈evs,sW e):
  Calls prog 22 #[.pointer (some (tZ rb 0))] w fun e w'=>∃(A:Option Addr) (c:Nat) (es:List kJ),e=.returned (.slice A evs.length c)/\es.map kJ.pl=evs.map kJ.pl/\ae w0 (aA 57 11 A evs.length c (es.flatMap lj)::(es.map lu++(oC rb kb lk evs::l))) w':=by
 obtain⟨y,hA⟩:=h.aQg;have c2:w.cell? (tZ rb 2)=some (.slice y.A evs.length y.c):=(hA.at_ 0 rfl).blk.cellAt rfl;have i1:=hid (aHp (c:=y.c) (hA.at_ 4 rfl).uT (aFS _) hn);have HA:=hid hA;have HB:=hid hb;obtain⟨n,hN⟩:∃n,evs.length=n:=⟨_,rfl⟩;have HN:=hid hN;rw[hN]at i1 c2 hn ⊢;clear h hA hb hN;go_enter func22,ntmps22;go_wp2_with fail;refine i1.out.mono ?_;rintro e w1⟨A,c,rfl,ho,hb1⟩;have Ag:Hid (Oj w0 (lV rb kb lk y evs) l A n c evs 0 evs w1):=hid ⟨HN.out,rfl,fun _ _=>rfl,by
  have h9:=HA.out.vJ hb1 ho;exact h9⟩
 clear i1 ho hb1 c2 HA;go_wp2_with fail;go_loopw [15] (fun v15 wr=>∃(k:Nat) (es:List kJ),k<=n/\v15=iV (k:Int)/\Hid (Oj w0 (lV rb kb lk y evs) l A n c evs k es wr)) (fun v15 _=>n-(Lib.intOf v15).toNat)
 case atStart=>exact⟨0,evs,by omega,rfl,Ag⟩
 clear Ag;obtain⟨k,es,hk,rfl,Az⟩:=hrel;by_cases hkn:k<n
 ·have hR:=Az.out;obtain⟨ev,hev⟩:∃ev,evs[k]? =some ev:=⟨_,List.getElem?_eq_getElem (by rw[HN.out];exact hkn)⟩;have hes:es[k]? =some ev:=(hR.rest k (Nat.le_refl _)).trans hev;have Jq:=HB.out ev (List.mem_of_getElem? hev);obtain⟨g,hg,_,_⟩:=dG hR.all.own (by omega);subst hg;obtain⟨wY,A1,c1,bo,⟨pa,A2,c2,sn,cf,pc,A3,c3,st,A4,c4,me,tk,fa⟩⟩:=ev;have hcell:∀(W:World)(_:Below wr.heap.size wr W)(j:Nat)(v:Value),(lj ⟨wY,A1,c1,bo,⟨pa,A2,c2,sn,cf,pc,A3,c3,st,A4,c4,me,tk,fa⟩⟩)[j]? =some v->W.cell? (tZ g (k*11+j))=some v/\W.frozen? (tZ g (k*11+j))=false:=fun W hW j v hv=>by
   have ho:=(hR.all.belowS hW).own;have hj:j<11:=(List.getElem?_eq_some_iff.1 hv).1;have h1:=ho.cellAt (k*11+j) (by omega);rw[Og lj 11 Oh es k _ j hes hj]at h1;exact⟨h1.trans hv,ho.frozenAt _⟩
  have Jr:=hid hcell;have FU:k<100000:=by omega
  have q1:(0:Int)<=(k:Int):=Int.natCast_nonneg _;have q2:(k:Int)<(n:Int):=by omega
  clear hcell;go_wp2_with fail;have HA:=hid hR.all;have GZ:Hid (∀W,Below wr.heap.size wr W->ai W W.heap.size 3 A1 bo.length (bo.flatMap iY)/\ai W W.heap.size 2 A2 sn.length (sn.flatMap gq)/\ai W W.heap.size 1 A3 st.length (st.map iV)/\ai W W.heap.size 1 A4 me.length (me.map iV)):=hid fun W hW=>by
   have h9:=hR.all.belowS hW;have h10:ae w0 ((aA 57 11 (some (tZ g 0)) n c (es.flatMap lj)::((es.take k).map lu++lV rb kb lk y evs))++(evs.map lu++l)) W:=by
    rw[List.cons_append,List.append_assoc];exact h9
   exact h10.aQa hev
  have i5:=hid (fun W (hW:Below wr.heap.size wr W)=>aJN (c:=c1) (GZ.out W hW).1 (aDG _) (by have:=Jq.bo;simp only at this;omega));have i6:=hid (fun W (hW:Below wr.heap.size wr W)=>aEm (c:=c2) (GZ.out W hW).2.1 (aB9 _) (by have:=Jq.r.sn;simp only at this;omega));have Lm:=hid hes;have Iq:=hid hev;have Js:=hid Jq;clear hR hev Jq hes;generalize hRR:(es.take k).map lu++(lV rb kb lk y evs++(evs.map lu++l))=RR at HA;have HRR:=hid hRR;clear hRR;obtain⟨y1,_⟩:=Jr.out wr (Below.refl _ _) 1 _ rfl;obtain⟨y3,_⟩:=Jr.out wr (Below.refl _ _) 3 _ rfl;refine dZ (S:=(fun w'=>w'.cell? (tZ g (k*11+1))=some (.slice A1 bo.length c1)/\w'.cell? (tZ g (k*11+3))=some (.slice A2 sn.length c2))) 14 (by kernel_rfl) ⟨y1,y3⟩ (fun hHeld=>?_);refine iO 1 [(0,21)] rfl (by kernel_rfl) (by kernel_rfl) (fun _ _ _ _ _ h=>h) (by assumption) ?_;(refine aI rfl rfl rfl (v:=?_) ?_ ?_;rotate_left 1;focus(intro wS hSw;(try dsimp only at hSw);go_simp;try with_reducible rfl);try simp only[Act.put,aY,aZ,aU])
  refine au ?_;refine dB 1 [(1,22)] rfl (by kernel_rfl) (by kernel_rfl) (fun _ _ _ _ _ h=>h) (fun _=>by assumption) ?_;(refine aI rfl rfl rfl (v:=?_) ?_ ?_;rotate_left 1;focus(intro wS _;go_simp;try with_reducible rfl);try simp only[Act.put,aY,aZ,aU])
  refine au ?_;refine iO 4 [(2,23),(3,24),(4,25),(5,26)] rfl (by kernel_rfl) (by kernel_rfl) (fun _ _ _ _ _ h=>h) (by assumption) ?_;iterate 4 (refine aI rfl rfl rfl (v:=?_) ?_ ?_;rotate_left 1;focus(intro wS hSw;(try dsimp only at hSw);go_simp;try with_reducible rfl);try simp only[Act.put,aY,aZ,aU])
  refine au ?_;refine dB 3 [(7,28),(8,29),(9,30)] rfl (by kernel_rfl) (by kernel_rfl) (fun _ _ _ _ _ h=>h) (fun _=>by assumption) ?_;iterate 3 (refine aI rfl rfl rfl (v:=?_) ?_ ?_;rotate_left 1;focus(intro wS _;go_simp;try with_reducible rfl);try simp only[Act.put,aY,aZ,aU])
  refine au ?_;refine iO 1 [(10,31)] rfl (by kernel_rfl) (by kernel_rfl) (fun _ _ _ _ _ h=>h) (by assumption) ?_;(refine aI rfl rfl rfl (v:=?_) ?_ ?_;rotate_left 1;focus(intro wS hSw;(try dsimp only at hSw);go_simp;try with_reducible rfl);try simp only[Act.put,aY,aZ,aU])
  refine au ?_;refine fB 6 rfl (by kernel_rfl) fun K hK=>?_
  go_simp;(go_at_call 67;refine(i5.out _ eY.out).mono ?_;rintro e w5 ⟨B1,d1,rfl,ho,hb⟩;have Ol:=hid ((HA.out.belowS eY.out).vJ hb ho);have aRp:=hid (ag (show Below wr.heap.size wr _ from eY.out) hb);clear ho hb)
  refine hK.out _ _ ⟨(Jr.out _ aRp.out 1 _ rfl).1,(Jr.out _ aRp.out 3 _ rfl).1⟩ (fun hHeld=>?_);clear hK K;try simp only[Act.put,aY,aZ,aU]
  refine fB 11 rfl (by kernel_rfl) fun K hK=>?_
  go_simp;(go_at_call 68;refine(i6.out _ aRp.out).mono ?_;rintro e w6 ⟨B2,d2,rfl,ho,hb⟩;have Hh:=hid ((Ol.out).vJ hb ho);have aTM:=hid (ag (show Below wr.heap.size wr _ from aRp.out) hb);clear ho hb)
  refine hK.out _ _ ⟨(Jr.out _ aTM.out 1 _ rfl).1,(Jr.out _ aTM.out 3 _ rfl).1⟩ (fun hHeld=>?_);clear hK K;try simp only[Act.put,aY,aZ,aU]
  refine dB 2 [(12,33),(13,34)] rfl (by kernel_rfl) (by kernel_rfl) (fun _ _ _ _ _ h=>h) (fun _=>by assumption) ?_;iterate 2 (refine aI rfl rfl rfl (v:=?_) ?_ ?_;rotate_left 1;focus(intro wS _;go_simp;try with_reducible rfl);try simp only[Act.put,aY,aZ,aU])
  refine au ?_;have Eh:=hid (Hh.out.at_ 2 rfl);obtain⟨v0,vf⟩:=gI Eh.out Lm.out 1 _ rfl;refine iQ 14 rfl (by kernel_rfl) (by kernel_rfl) fun K hK=>?_
  go_simp;skip;refine hK.out _ _ ?_;clear hK K;try simp only[Act.put,aY,aZ,aU]
  have GR:=hid (aBj Eh.out Lm.out ⟨wY,B1,d1,bo,⟨pa,A2,c2,sn,cf,pc,A3,c3,st,A4,c4,me,tk,fa⟩⟩ 1 (by decide) (.slice B1 bo.length d1) rfl);have aSg:Hid ((es.set k ⟨wY,B1,d1,bo,⟨pa,A2,c2,sn,cf,pc,A3,c3,st,A4,c4,me,tk,fa⟩⟩)[k]? =some ⟨wY,B1,d1,bo,⟨pa,A2,c2,sn,cf,pc,A3,c3,st,A4,c4,me,tk,fa⟩⟩):=hid (List.getElem?_set_self (List.getElem?_eq_some_iff.1 Lm.out).1);generalize w6.setCell (tZ g (k*11+1)) (.slice B1 bo.length d1)=w7 at GR ⊢;clear v0 vf Eh Ol Hh;refine dB 2 [(15,35),(16,36)] rfl (by kernel_rfl) (by kernel_rfl) (fun _ _ _ _ _ h=>h) (fun h9=>by cases h9) ?_;iterate 2 (refine aI rfl rfl rfl (v:=?_) ?_ ?_;rotate_left 1;focus(intro wS _;go_simp;try with_reducible rfl);try simp only[Act.put,aY,aZ,aU])
  refine au ?_;obtain⟨v0,vf⟩:=gI GR.out aSg.out 3 _ rfl;refine iQ 17 rfl (by kernel_rfl) (by kernel_rfl) fun K hK=>?_
  go_simp;skip;refine hK.out _ _ ?_;clear hK K;try simp only[Act.put,aY,aZ,aU]
  refine bU (by kernel_rfl) ?_ _;have Jt:=hid (aBj GR.out aSg.out ⟨wY,B1,d1,bo,⟨pa,B2,d2,sn,cf,pc,A3,c3,st,A4,c4,me,tk,fa⟩⟩ 3 (by decide) (.slice B2 sn.length d2) rfl);rw[List.set_set]at Jt;have FH:Hid ((es.set k ⟨wY,B1,d1,bo,⟨pa,B2,d2,sn,cf,pc,A3,c3,st,A4,c4,me,tk,fa⟩⟩)[k]? =some ⟨wY,B1,d1,bo,⟨pa,B2,d2,sn,cf,pc,A3,c3,st,A4,c4,me,tk,fa⟩⟩):=hid (List.getElem?_set_self (List.getElem?_eq_some_iff.1 Lm.out).1);generalize w7.setCell (tZ g (k*11+3)) (.slice B2 sn.length d2)=w8 at Jt ⊢;clear v0 vf GR aSg y1 y3;have aSh:Hid (∀W,Below w8.heap.size w8 W->ai W W.heap.size 1 A3 st.length (st.map iV)/\ai W W.heap.size 1 A4 me.length (me.map iV)):=hid fun W hW=>by
   have h9:=Jt.out.belowS hW;rw[<-HRR.out]at h9;have h10:ae w0 ((aA 57 11 (some (tZ g 0)) n c ((es.set k ⟨wY,B1,d1,bo,⟨pa,B2,d2,sn,cf,pc,A3,c3,st,A4,c4,me,tk,fa⟩⟩).flatMap lj)::aA 77 2 B2 sn.length d2 (sn.flatMap gq)::aA 73 3 B1 bo.length d1 (bo.flatMap iY)::((es.take k).map lu++lV rb kb lk y evs))++(evs.map lu++l)) W:=by
    rw[List.cons_append,List.cons_append,List.cons_append,List.append_assoc];exact h9
   exact(h10.aQa Iq.out).2.2
  have i7:=hid (fun W (hW:Below w8.heap.size w8 W)=>aBx (c:=c3) (aSh.out W hW).1 (aAi _) (by have:=Js.out.r.st;simp only at this;omega));have i8:=hid (fun W (hW:Below w8.heap.size w8 W)=>aBx (c:=c4) (aSh.out W hW).2 (aAi _) (by have:=Js.out.r.me;simp only at this;omega));have HCF:Hid (∀W,Below w8.heap.size w8 W->W.cell? (tZ g (k*11+6))=some (.slice A3 st.length c3)/\W.cell? (tZ g (k*11+7))=some (.slice A4 me.length c4)):=hid fun W hW=>⟨(gI (Jt.out.belowS hW) FH.out 6 _ rfl).1,(gI (Jt.out.belowS hW) FH.out 7 _ rfl).1⟩
  clear i5 i6 GZ HA Jr;go_wp2_with fail;refine dZ (S:=(fun w'=>w'.cell? (tZ g (k*11+6))=some (.slice A3 st.length c3)/\w'.cell? (tZ g (k*11+7))=some (.slice A4 me.length c4))) 17 (by kernel_rfl) (HCF.out _ eY.out) (fun hHeld=>?_);refine iO 1 [(0,37)] rfl (by kernel_rfl) (by kernel_rfl) (fun _ _ _ _ _ h=>h) (by assumption) ?_;(refine aI rfl rfl rfl (v:=?_) ?_ ?_;rotate_left 1;focus(intro wS hSw;(try dsimp only at hSw);go_simp;try with_reducible rfl);try simp only[Act.put,aY,aZ,aU])
  refine au ?_;refine dB 1 [(1,38)] rfl (by kernel_rfl) (by kernel_rfl) (fun _ _ _ _ _ h=>h) (fun _=>by assumption) ?_;(refine aI rfl rfl rfl (v:=?_) ?_ ?_;rotate_left 1;focus(intro wS _;go_simp;try with_reducible rfl);try simp only[Act.put,aY,aZ,aU])
  refine au ?_;refine iO 5 [(2,39),(3,40),(4,41),(5,42),(6,43)] rfl (by kernel_rfl) (by kernel_rfl) (fun _ _ _ _ _ h=>h) (by assumption) ?_;iterate 5 (refine aI rfl rfl rfl (v:=?_) ?_ ?_;rotate_left 1;focus(intro wS hSw;(try dsimp only at hSw);go_simp;try with_reducible rfl);try simp only[Act.put,aY,aZ,aU])
  refine au ?_;refine dB 4 [(8,45),(9,46),(10,47),(11,48)] rfl (by kernel_rfl) (by kernel_rfl) (fun _ _ _ _ _ h=>h) (fun _=>by assumption) ?_;iterate 4 (refine aI rfl rfl rfl (v:=?_) ?_ ?_;rotate_left 1;focus(intro wS _;go_simp;try with_reducible rfl);try simp only[Act.put,aY,aZ,aU])
  refine au ?_;refine iO 1 [(12,49)] rfl (by kernel_rfl) (by kernel_rfl) (fun _ _ _ _ _ h=>h) (by assumption) ?_;(refine aI rfl rfl rfl (v:=?_) ?_ ?_;rotate_left 1;focus(intro wS hSw;(try dsimp only at hSw);go_simp;try with_reducible rfl);try simp only[Act.put,aY,aZ,aU])
  refine au ?_;refine fB 7 rfl (by kernel_rfl) fun K hK=>?_
  go_simp;(go_at_call 69;refine(i7.out _ eY.out).mono ?_;rintro e w9 ⟨B3,d3,rfl,ho,hb⟩;have Ol:=hid ((Jt.out.belowS eY.out).vJ hb ho);have aSi:=hid (ag (show Below w8.heap.size w8 _ from eY.out) hb);clear ho hb)
  refine hK.out _ _ (HCF.out _ aSi.out) (fun hHeld=>?_);clear hK K;try simp only[Act.put,aY,aZ,aU]
  refine fB 13 rfl (by kernel_rfl) fun K hK=>?_
  go_simp;(go_at_call 69;refine(i8.out _ aSi.out).mono ?_;rintro e wa ⟨B4,d4,rfl,ho,hb⟩;have Hh:=hid ((Ol.out).vJ hb ho);have HBwa:=hid (ag (show Below w8.heap.size w8 _ from aSi.out) hb);clear ho hb)
  refine hK.out _ _ (HCF.out _ HBwa.out) (fun hHeld=>?_);clear hK K;try simp only[Act.put,aY,aZ,aU]
  refine dB 3 [(14,51),(15,52),(16,53)] rfl (by kernel_rfl) (by kernel_rfl) (fun _ _ _ _ _ h=>h) (fun _=>by assumption) ?_;iterate 3 (refine aI rfl rfl rfl (v:=?_) ?_ ?_;rotate_left 1;focus(intro wS _;go_simp;try with_reducible rfl);try simp only[Act.put,aY,aZ,aU])
  refine au ?_;have HP3:=hid (Hh.out.at_ 2 rfl);obtain⟨v0,vf⟩:=gI HP3.out FH.out 6 _ rfl;refine iQ 17 rfl (by kernel_rfl) (by kernel_rfl) fun K hK=>?_
  go_simp;skip;refine hK.out _ _ ?_;clear hK K;try simp only[Act.put,aY,aZ,aU]
  have G5:=hid (aBj HP3.out FH.out ⟨wY,B1,d1,bo,⟨pa,B2,d2,sn,cf,pc,B3,d3,st,A4,c4,me,tk,fa⟩⟩ 6 (by decide) (.slice B3 st.length d3) rfl);rw[List.set_set]at G5;have aSj:Hid ((es.set k ⟨wY,B1,d1,bo,⟨pa,B2,d2,sn,cf,pc,B3,d3,st,A4,c4,me,tk,fa⟩⟩)[k]? =some ⟨wY,B1,d1,bo,⟨pa,B2,d2,sn,cf,pc,B3,d3,st,A4,c4,me,tk,fa⟩⟩):=hid (List.getElem?_set_self (List.getElem?_eq_some_iff.1 Lm.out).1);generalize wa.setCell (tZ g (k*11+6)) (.slice B3 st.length d3)=wb at G5 ⊢;clear v0 vf HP3 Ol Hh;refine dB 3 [(18,54),(19,55),(20,56)] rfl (by kernel_rfl) (by kernel_rfl) (fun _ _ _ _ _ h=>h) (fun h9=>by cases h9) ?_;iterate 3 (refine aI rfl rfl rfl (v:=?_) ?_ ?_;rotate_left 1;focus(intro wS _;go_simp;try with_reducible rfl);try simp only[Act.put,aY,aZ,aU])
  refine au ?_;obtain⟨v0,vf⟩:=gI G5.out aSj.out 7 _ rfl;refine iQ 21 rfl (by kernel_rfl) (by kernel_rfl) fun K hK=>?_
  go_simp;skip;refine hK.out _ _ ?_;clear hK K;try simp only[Act.put,aY,aZ,aU]
  refine bU (by kernel_rfl) ?_ _;have Gm:=hid (aBj G5.out aSj.out ⟨wY,B1,d1,bo,⟨pa,B2,d2,sn,cf,pc,B3,d3,st,B4,d4,me,tk,fa⟩⟩ 7 (by decide) (.slice B4 me.length d4) rfl);rw[List.set_set]at Gm;generalize wb.setCell (tZ g (k*11+7)) (.slice B4 me.length d4)=wc at Gm ⊢;clear v0 vf G5 aSj Jt FH HCF aSh i7 i8;have HN5:Hid (Oj w0 (lV rb kb lk y evs) l (some (tZ g 0)) n c evs (k+1) (es.set k ⟨wY,B1,d1,bo,⟨pa,B2,d2,sn,cf,pc,B3,d3,st,B4,d4,me,tk,fa⟩⟩) wc):=hid (by
   refine aPk Az.out Lm.out rfl ?_;rw[HRR.out];have h9:=(Gm.out.pn 5 [1,2,4,3,0] (by decide) (Nat.le_add_left 5 _));have h10:=ae.aRo (h9.pn 5 [1,0,2,3,4] (by decide) (Nat.le_add_left 5 _));exact ae.lgEv h10)
  clear Gm HRR;go_wp2_with fail;go_roundw;case rel=>exact⟨k+1,es.set k ⟨wY,B1,d1,bo,⟨pa,B2,d2,sn,cf,pc,B3,d3,st,B4,d4,me,tk,fa⟩⟩,by omega,by go_num,HN5⟩
  case measure=>simp[Lib.intOf];omega
 ·obtain rfl:k=n:=by omega
  go_wp2_with fail;go_ret;have hR:=Az.out;refine⟨_,c,es,rfl,hR.pl,?_⟩;have h9:=hR.all;rw[List.take_of_length_le (by rw[hR.len];exact Nat.le_refl _)]at h9;have h10:ae w0 ((aA 57 11 A k c (es.flatMap lj)::es.map lu)++((lV rb kb lk y evs++evs.map lu)++l)) wr:=by
   rw[List.append_assoc (lV rb kb lk y evs)];exact h9
  have h11:=h10.aQH;rw[List.append_assoc]at h11;exact h11.aQs.perm (List.perm_middle (a:=oC rb kb lk evs) (l₁:=aA 57 11 A k c (es.flatMap lj)::es.map lu) (l₂:=l)).symm
end
section
open Go.Deep Go.Joins
theorem aPl{α:Type}(l:List α)(h:l.length=8):∃a b c d e f g x,l=[a,b,c,d,e,f,g,x]:=by
 match l,h with
 |[a,b,c,d,e,f,g,x],_=>exact⟨a,b,c,d,e,f,g,x,rfl⟩
section
variable{H:Type}{enc:TypeId×Value->H}{W:World}
theorem aKz{l:List Value}{x:DataW H×List MemPlace}{fuel:Nat}(Jo:l.length=5)(hf:DataW.trod enc prog W 0 (fun _=>true) true fuel 26 l=some x):
  ∃(t:aG) (a:bM),l=bI t a/\mg W t a:=by
 obtain⟨xs,n,_,_,hlen,_,hg⟩:=DataW.trod_struct underlying26 hf;have key:∀(i:Nat)(hi:i<l.length)(f:Field),_->∃y,DataW.trod enc prog W 0 (fun _=>true) true n f.type [l[i]]=some y:=fun i hi f hfi=>by
  have h1:=hg i f hfi;exact⟨_,aBO (by kernel_rfl) hfi hi (h1.trans (List.getElem?_eq_getElem (by have:=(Array.getElem?_eq_some_iff.1 hfi).1;omega)))⟩
 obtain⟨v0,v1,v2,v3,v4,rfl⟩:=aPB l Jo;obtain⟨y0,h0⟩:=key 0 (by simp) _ rfl;obtain⟨y1,h1⟩:=key 1 (by simp) _ rfl;obtain⟨y2,h2⟩:=key 2 (by simp) _ rfl;obtain⟨y3,h3⟩:=key 3 (by simp) _ rfl;obtain⟨y4,h4⟩:=key 4 (by simp) _ rfl;clear key hg hf hlen;obtain⟨frame,e0,_,wf⟩:=DataW.trod_int underlying3 h0;obtain⟨trial,e4,_,wt⟩:=DataW.trod_int underlying3 h4;obtain⟨A1,n1,c1,q1,e1,r1,k1,m1,w1⟩:=aDd underlying22 underlying164 (by kernel_rfl) (by kernel_rfl) underlying3 underlying3 underlying3 h1;obtain⟨A2,n2,c2,q2,e2,r2,k2,m2,w2⟩:=aDd underlying23 underlying89 (by kernel_rfl) (by kernel_rfl) underlying3 underlying3 underlying3 h2;obtain⟨A3,n3,c3,q3,e3,r3,k3,m3,w3⟩:=aDd underlying24 underlying75 (by kernel_rfl) (by kernel_rfl) underlying3 underlying3 underlying3 h3;have b0:=bounds_i64 wf;have b4:=bounds_i64 wt;have p1:=r1.conv (cells':=dK) (fun q=>(⟨q.1,q.2.1,q.2.2⟩:gW)) (fun _=>rfl);have p2:=r2.conv (cells':=iP) (fun q=>(⟨q.1,q.2.1,q.2.2⟩:ik)) (fun _=>rfl);have p3:=r3.conv (cells':=fQ) (fun q=>(⟨q.1,q.2.1,q.2.2⟩:aB)) (fun _=>rfl);have l1:=p1.len;have l2:=p2.len;have l3:=p3.len;unfold maxLen at m1 m2 m3;refine⟨⟨frame,q1.map fun q=>⟨q.1,q.2.1,q.2.2⟩,q2.map fun q=>⟨q.1,q.2.1,q.2.2⟩,q3.map fun q=>⟨q.1,q.2.1,q.2.2⟩,trial⟩,⟨A1,c1,A2,c2,A3,c3⟩,?_,?_⟩
 ·simp only[bI,l1,l2,l3];simp at e0 e1 e2 e3 e4;subst e0 e1 e2 e3 e4;rfl
 ·refine⟨⟨by simp only[l1];exact p1,by simp only[l2];exact p2,by simp only[l3];exact p3⟩,by simp only[l1];omega,by simp only[l2];omega,by simp only[l3];omega,by simp only[l1];exact k1,by simp only[l2];exact k2,by simp only[l3];exact k3,by simp only;omega,by simp only;omega,by simp only;omega,b0.1,b0.2,b4.1,b4.2,?_,?_,?_⟩
  ·intro p hp;obtain⟨q,hq,rfl⟩:=List.mem_map.1 hp;exact w1 q hq
  ·intro p hp;obtain⟨q,hq,rfl⟩:=List.mem_map.1 hp;exact w2 q hq
  ·intro p hp;obtain⟨q,hq,rfl⟩:=List.mem_map.1 hp;exact w3 q hq
theorem aJf{l:List Value}{x:DataW H×List MemPlace}{fuel:Nat}(hl9:l.length=8)(hf:DataW.trod enc prog W 0 (fun _=>true) true fuel 39 l=some x):
  ∃y:fD,l=gQ y/\ai W W.heap.size 1 y.A y.p.code.length (y.p.code.map bV)/\y.p.code.length<=y.c/\y.c<=maxLen:=by
 obtain⟨xs,n,_,_,hlen,_,hg⟩:=DataW.trod_struct underlying39 hf;have key:∀(i:Nat)(hi:i<l.length)(f:Field),_->∃y,DataW.trod enc prog W 0 (fun _=>true) true n f.type [l[i]]=some y:=fun i hi f hfi=>by
  have h1:=hg i f hfi;exact⟨_,aBO (by kernel_rfl) hfi hi (h1.trans (List.getElem?_eq_getElem (by have:=(Array.getElem?_eq_some_iff.1 hfi).1;omega)))⟩
 obtain⟨v0,v1,v2,v3,v4,v5,v6,v7,rfl⟩:=aPl l hl9;obtain⟨y0,h0⟩:=key 0 (by simp) _ rfl;obtain⟨y1,h1⟩:=key 1 (by simp) _ rfl;obtain⟨y2,h2⟩:=key 2 (by simp) _ rfl;obtain⟨y3,h3⟩:=key 3 (by simp) _ rfl;obtain⟨y4,h4⟩:=key 4 (by simp) _ rfl;obtain⟨y5,h5⟩:=key 5 (by simp) _ rfl;obtain⟨y6,h6⟩:=key 6 (by simp) _ rfl;obtain⟨y7,h7⟩:=key 7 (by simp) _ rfl;clear key hg hf hlen;obtain⟨q0,e0,_,f0⟩:=DataW.trod_int underlying3 h0;obtain⟨q1,e1,_,f1⟩:=DataW.trod_int underlying3 h1;obtain⟨q2,e2,_,f2⟩:=DataW.trod_int underlying3 h2;obtain⟨q3,e3,_,f3⟩:=DataW.trod_int underlying3 h3;obtain⟨q4,e4,_,f4⟩:=DataW.trod_int underlying3 h4;obtain⟨q5,e5,_,f5⟩:=DataW.trod_int underlying3 h5;obtain⟨q6,e6,_,f6⟩:=DataW.trod_int underlying3 h6;obtain⟨A,m,c,bs,e7,r7,k7,m7⟩:=aDz underlying37 underlying5 (by kernel_rfl) h7;have hbl:bs.length=m:=by simpa using r7.len
 subst hbl;simp at e0 e1 e2 e3 e4 e5 e6 e7;subst e0 e1 e2 e3 e4 e5 e6 e7;exact⟨⟨⟨q0,q1,q2,q3,q4,q5,q6,bs⟩,A,c⟩,rfl,r7,k7,m7⟩
theorem aEA{α:Type}{t e:TypeId}{size:Nat}{cells:α->List Value}(good:α->Prop)(dflt:α)(ht:prog.underlying t=some (.slice e))(hC:prog.cellsOf e=size)(hcl:∀x,(cells x).length=size)(hs:0<size)
(hel:∀(l:List Value)(x:DataW H×List MemPlace)(fuel:Nat),l.length=size->DataW.trod enc prog W 0 (fun _=>true) true fuel e l=some x->∃y,l=cells y/\good y)
{v:Value}{x:DataW H×List MemPlace}{fuel:Nat}(hf:DataW.trod enc prog W 0 (fun _=>true) true fuel t [v]=some x):
  ∃(A:Option Addr) (n c:Nat) (l:List α),v=.slice A n c/\lh W W.heap.size size A n cells l/\n<=c/\c<=maxLen/\∀q∈l,good q:=by
 rcases open_slice ht hf with⟨hcs,_⟩|⟨a,len,cap,m,n,D,Pl,hcs,_,hl,hm,hmm,_,hi⟩
 ·simp at hcs;subst hcs;exact⟨none,0,0,[],rfl,lh.nil,Nat.le_refl _,by simp[maxLen],by simp⟩
 ·simp at hcs;subst hcs;have hm2:m=cap:=by simpa using hmm
  have hex:∀i:Nat,∃q:α,i<len->(∀j u,(cells q)[j]? =some u->W.cell? (a.add (i*size+j))=some u)/\good q:=by
   intro i;by_cases hil:i<len
   ·obtain⟨cs',hc,ht'⟩:=hi i (by omega);rw[hC]at hc;obtain⟨_,hcl',hat⟩:=World.cells?_some hc;obtain⟨y,e,hw⟩:=hel _ _ _ hcl' ht';refine⟨y,fun _=>⟨fun j u hu=>?_,hw⟩⟩;have hj:j<size:=by rw[<-hcl y];exact(List.getElem?_eq_some_iff.1 hu).1
    have hcell:=hat j hj;rw[aBs]at hcell;rw[hcell,<-hu,e]
   ·exact⟨dflt,fun h=>absurd h hil⟩
  refine⟨some a,len,cap,(List.range len).map (fun i=>(hex i).choose),rfl,⟨by simp,fun k q hk=>?_⟩,hl,hm,fun q hq=>?_⟩
  ·have Ew:k<len:=by
    have:=(List.getElem?_eq_some_iff.1 hk).1;simpa using this
   have hq2:q=(hex k).choose:=by
    rw[List.getElem?_map,List.getElem?_range Ew]at hk;simpa using hk.symm
   obtain⟨hc,_⟩:=(hex k).choose_spec Ew;rw[hq2];refine⟨a,rfl,?_,hc⟩;obtain⟨u,hu⟩:∃u,(cells (hex k).choose)[0]? =some u:=⟨_,List.getElem?_eq_getElem (by rw[hcl];exact hs)⟩;have:=World.block_lt_of_cell? W _ (hc 0 _ hu);rwa[dw]at this
  ·obtain⟨k,hk,rfl⟩:=List.mem_map.1 hq;exact((hex k).choose_spec (by simpa using hk)).2
theorem aPz{α:Type}(l:List α)(h:l.length=7):∃a b c d e f g,l=[a,b,c,d,e,f,g]:=by
 match l,h with
 |[a,b,c,d,e,f,g],_=>exact⟨a,b,c,d,e,f,g,rfl⟩
theorem aPD{α:Type}(l:List α)(h:l.length=6):∃a b c d e f,l=[a,b,c,d,e,f]:=by
 match l,h with
 |[a,b,c,d,e,f],_=>exact⟨a,b,c,d,e,f,rfl⟩
theorem aJA{l:List Value}{x:DataW H×List MemPlace}{fuel:Nat}(hl9:l.length=7)(hf:DataW.trod enc prog W 0 (fun _=>true) true fuel 48 l=some x):
  ∃y:rY,l=pU y/\y.a<=9223372036854775807:=by
 obtain⟨xs,n,_,_,hlen,_,hg⟩:=DataW.trod_struct underlying48 hf;have key:∀(i:Nat)(hi:i<l.length)(f:Field),_->∃y,DataW.trod enc prog W 0 (fun _=>true) true n f.type [l[i]]=some y:=fun i hi f hfi=>by
  have h1:=hg i f hfi;exact⟨_,aBO (by kernel_rfl) hfi hi (h1.trans (List.getElem?_eq_getElem (by have:=(Array.getElem?_eq_some_iff.1 hfi).1;omega)))⟩
 obtain⟨v0,v1,v2,v3,v4,v5,v6,rfl⟩:=aPz l hl9;obtain⟨y0,h0⟩:=key 0 (by simp) _ rfl;obtain⟨y1,h1⟩:=key 1 (by simp) _ rfl;obtain⟨y2,h2⟩:=key 2 (by simp) _ rfl;obtain⟨y3,h3⟩:=key 3 (by simp) _ rfl;obtain⟨y4,h4⟩:=key 4 (by simp) _ rfl;obtain⟨y5,h5⟩:=key 5 (by simp) _ rfl;obtain⟨y6,h6⟩:=key 6 (by simp) _ rfl;clear key hg hf hlen;obtain⟨q0,e0,_,f0⟩:=DataW.trod_int underlying3 h0;obtain⟨q1,e1,_,f1⟩:=DataW.trod_int underlying3 h1;obtain⟨q2,e2,_,f2⟩:=DataW.trod_int underlying3 h2;obtain⟨q3,e3,_,f3⟩:=DataW.trod_int underlying3 h3;obtain⟨q4,e4,_,f4⟩:=DataW.trod_int underlying3 h4;obtain⟨q5,e5,_,f5⟩:=DataW.trod_int underlying31 h5;obtain⟨A,m,c,bs,e6,r7,k7,m7⟩:=aDz underlying37 underlying5 (by kernel_rfl) h6;simp at e0 e1 e2 e3 e4 e5 e6;subst e0 e1 e2 e3 e4 e5 e6;exact⟨⟨q0,q1,q2,q3,q4,q5,A,m,c⟩,rfl,(bounds_i64 f1).2⟩
theorem aGX{v:Value}{d:DataW H}{ps:List MemPlace}{r:Reach}{b0:Nat}
(hval:Value.okWide prog W r b0 30 v)(h:DataW.Trod enc prog W 0 (fun _=>true) true 30 v d ps):
  ∃(A:Option Addr) (n c:Nat) (l:List rY),v=.slice A n c/\lh W W.heap.size 7 A n pU l/\n<=c/\c<=maxLen/\∀q∈l,q.a<=9223372036854775807:=by
 obtain⟨a0,len0,cap0,rfl⟩:=okWide_slice underlying30 hval;obtain⟨fuel,hf⟩:=h;exact aEA (cells:=pU) (fun q=>q.a<=9223372036854775807) ⟨0,0,0,0,0,0,none,0,0⟩ underlying30 (by kernel_rfl) (fun _=>rfl) (by decide) (fun l x fuel h1 h2=>aJA h1 h2) hf
theorem aL7{v:Value}{d:DataW H}{ps:List MemPlace}{r:Reach}{b0:Nat}
(hval:Value.okWide prog W r b0 29 v)(h:DataW.Trod enc prog W 0 (fun _=>true) true 29 v d ps):
  ∃(t:aG) (a:bM) (A:Option Addr) (c:Nat) (li:List fD),v=tY t a A li.length c/\mg W t a/\pz W A li/\li.length<=c/\c<=maxLen:=by
 obtain⟨cs,rfl,hsz⟩:=okWide_struct underlying29 hval;obtain⟨l⟩:=cs;obtain⟨fuel,hf⟩:=h;obtain⟨xs,n,_,_,_,hlen,hg⟩:=DataW.trod_struct underlying29 hf;have hl6:l.length=6:=by
  have:prog.cellsOf 29=6:=by kernel_rfl
  rw[<-this,<-hsz];rfl
 have h0:=hg 0 _ rfl;have h1:=hg 1 _ rfl;obtain⟨v0,v1,v2,v3,v4,v5,rfl⟩:=aPD l hl6;have h0':=h0.trans (List.getElem?_eq_getElem (by rw[hlen];decide));have h1':=h1.trans (List.getElem?_eq_getElem (by rw[hlen];decide));have G6:prog.cellsOf 26=5:=by kernel_rfl
 have hc1:prog.cellsOf 27=1:=by kernel_rfl
 change DataW.trod enc prog W 0 (fun _=>true) true n 26 (([v0,v1,v2,v3,v4,v5].drop 0).take (prog.cellsOf 26))=_ at h0'
 change DataW.trod enc prog W 0 (fun _=>true) true n 27 (([v0,v1,v2,v3,v4,v5].drop 5).take (prog.cellsOf 27))=_ at h1'
 rw[G6]at h0';rw[hc1]at h1';obtain⟨t,a,e0,hT⟩:=aKz (by rfl) h0';obtain⟨A,m,c,li,e1,hr,k1,k2,hg2⟩:=aEA (cells:=gQ) (fun y=>ai W W.heap.size 1 y.A y.p.code.length (y.p.code.map bV)/\y.p.code.length<=y.c/\y.c<=maxLen) ⟨⟨0,0,0,0,0,0,0,[]⟩,none,0⟩ underlying27 (by kernel_rfl) (fun _=>rfl) (by decide) (fun l x fuel h1 h2=>aJf h1 h2) (v:=v5) h1';have hlm:=hr.len;subst hlm;simp only[bI,iV,List.drop_zero,List.take_succ_cons,List.take_zero,List.cons.injEq,and_true]at e0;obtain⟨rfl,rfl,rfl,rfl,rfl⟩:=e0;subst e1;exact⟨t,a,A,c,li,rfl,hT,⟨hr,hg2⟩,k1,k2⟩
end
end
end Go.Proofs.YtfjkpigldogkeaaGreatDoor
