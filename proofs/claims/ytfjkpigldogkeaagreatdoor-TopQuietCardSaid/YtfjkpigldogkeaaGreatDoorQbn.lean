/- Contracts of functions that TopQuiet reaches, under the conditions that each states. -/
import Derived.Test.YtfjkpigldogkeaaGreatDoorQbl
set_option linter.all false
set_option maxRecDepth 100000
set_option maxHeartbeats 4000000
namespace Go.Proofs.YtfjkpigldogkeaaGreatDoor
open Go.RowKit Go.ChangeShapes Go.WideShapes Go.ChangeAt Go.Proofs.Tryz
def qL(d:Nat)(t:aG)(ta:bM)(v6 v7 v8 v9 v10:Value)(lk:Nat)(tick:Int):List Value:=[dR d,iV t.frame,.slice ta.A1 t.parts.length ta.c1,.slice ta.A2 t.wins.length ta.c2,.slice ta.A3 t.chans.length ta.c3,iV t.trial,v6,v7,v8,v9,v10,dR lk,iV tick]
structure KW (w0:World) (l:List ay) (kb d:Nat) (t:aG) (ta:bM) (s lg gs lk:Nat) (tick:Int) (k:Nat) (Ap:Option Addr) (cp:Nat) (As:Option Addr) (cs:Nat) (ps:List Nat) (wr:World):Prop where
 len:ps.length=k
 all:ae w0 (aj kb 124 (qL d t ta (dR s) (dR lg) (dR gs) (.slice Ap k cp) (.slice As k cs) lk tick)::aA 140 1 Ap k cp (ps.map dR)::aA 3 1 As k cs (List.replicate k (iV (-1)))::((ps.map fun p=>ou p none 0)++l)) wr
theorem aI3:(prog.info? 140).map (fun i=>(i.zero,i.size,i.bytes))=some (some (.pointer none),1,8):=by kernel_rfl
section
variable{w w' w0 W cur:World}{C1 C2 C3:ay}{pl R T:List ay}{e:TypeId}{size n c N c':Nat}{A A':Option Addr}{xs ys:List Value}
theorem aOB(h:ae w0 (C1::C2::C3::(pl++R)) W)(hb:Below W.heap.size W cur):ae w0 (C1::C2::C3::((ou cur.heap.size none 0::pl)++R)) (cur.alloc (.cells #[.pointer none,iV 0] 227)):=
 ((h.belowS hb).made (T:=227) (xs:=[.pointer none,iV 0])).pn 4 [1,2,3,0]
theorem tN(w:World)(v:Value)(T:TypeId):ai (w.alloc (.cells #[v] T)) (w.heap.size+1) 1 (some (tZ w.heap.size 0)) 1 [v]:=ai.new w #[v] T 1 rfl
theorem rdB(w:World)(o:Obj)(v:Value)(T:TypeId):ai ((w.alloc o).alloc (.cells #[v] T)) (w.heap.size+1+1) 1 (some (tZ (w.heap.size+1) 0)) 1 [v]:=by
 have:=ai.new (w.alloc o) #[v] T 1 rfl;rwa[World.size_alloc]at this
theorem aNG(w:World)(o:Obj)(v:Value)(T:TypeId):ai ((w.alloc (.cells #[v] T)).alloc o) (w.heap.size+1) 1 (some (tZ w.heap.size 0)) 1 [v]:=(tN w v T).alloc (by rw[World.size_alloc];exact Nat.le_refl _) o
theorem KX(w:World)(v:Value)(T:TypeId):(w.alloc (.cells #[v] T)).heap[w.heap.size]? =some (.cells #[v] T (0,0)):=ak.new w T [v]
theorem aNv(w:World)(o:Obj)(v:Value)(T:TypeId):((w.alloc o).alloc (.cells #[v] T)).heap[w.heap.size+1]? =some (.cells #[v] T (0,0)):=by
 have:=KX (w.alloc o) v T;rwa[World.size_alloc]at this
theorem aNx(w:World)(o:Obj)(v:Value)(T:TypeId):((w.alloc (.cells #[v] T)).alloc o).heap[w.heap.size]? =some (.cells #[v] T (0,0)):=
 (Below.heap_alloc _ _ _ (by rw[World.size_alloc];omega)).trans (KX w v T)
theorem Oa{w:World}{x:Nat}{o o':Obj}(h:w.heap[x]? =some o):(w.alloc o').heap[x]? =some o:=
 (Below.heap_alloc _ _ _ (Array.getElem?_eq_some_iff.1 h).1).trans h
theorem kR{w:World}{x:Nat}{v:Value}{T:TypeId}(h:w.heap[x]? =some (.cells #[v] T (0,0))):ai w w.heap.size 1 (some (tZ x 0)) 1 [v]:=ai.lit h rfl
theorem aB7{B:Nat}(hA:∀b,bH A b->b<B)(hg:cur.grownBy w' (Value.slice A n c).ownBlock):∀(x:Nat)(o:Obj),B<=x->cur.heap[x]? =some o->w'.heap[x]? =some o:=fun x o hx h=>
 (hg.block x (Array.getElem?_eq_some_iff.1 h).1 fun e=>by have:=hA x (aN.1 e.symm);omega).trans h
theorem aCB(h:ae w0 (C1::C2::C3::(pl++R)) W)(hb:Below W.heap.size W cur):Calls prog 126 #[] cur fun e w'=>e=.returned (.pointer (some (tZ cur.heap.size 0)))/\ae w0 (C1::C2::C3::((ou cur.heap.size none 0::pl)++R)) w'/\W.heap.size<=w'.heap.size/\∀(x:Nat)(o:Obj),cur.heap[x]? =some o->w'.heap[x]? =some o:=
 (aFD cur).mono fun e w' ⟨h1,h2⟩=>⟨h1,h2▸aOB h hb,by have:=hb.size;rw[h2,World.size_alloc];omega,fun x o h=>h2▸Oa h⟩
theorem aFq(h:ae w0 (C1::aA e size A n c xs::C3::T) W)(hb:Below W.heap.size W cur)(ho:w'.ownsRow 0 e size (.slice A' N c') N ys)(hg:cur.grownBy w' (Value.slice A n c).ownBlock)(ha:(Value.slice A' N c').ownBlock=(Value.slice A n c).ownBlock\/(Value.slice A' N c').ownBlock=some cur.heap.size):
  ae w0 (C1::aA e size A' N c' ys::C3::T) w':=(((h.belowS hb).at_ 1 rfl).uG ho hg ha).pn 3 [1,0,2]
theorem aEY(h:ae w0 (C1::C2::aA e size A n c xs::T) W)(hb:Below W.heap.size W cur)(ho:w'.ownsRow 0 e size (.slice A' N c') N ys)(hg:cur.grownBy w' (Value.slice A n c).ownBlock)(ha:(Value.slice A' N c').ownBlock=(Value.slice A n c).ownBlock\/(Value.slice A' N c').ownBlock=some cur.heap.size):
  ae w0 (C1::C2::aA e size A' N c' ys::T) w':=(((h.belowS hb).at_ 2 rfl).uG ho hg ha).pn 3 [1,2,0]
end
theorem nX{w0 wr:World}{l:List ay}{kb d:Nat}{t:aG}{ta:bM}{s lg gs lk:Nat}{tick:Int}{k:Nat}{A6 A7:Option Addr}{c6 c7:Nat}{ps:List Nat}{p:Nat}(hl:ps.length=k)
(h:ae w0 (aj kb 124 (qL d t ta (dR s) (dR lg) (dR gs) (.slice A6 (k+1) c6) (.slice A7 (k+1) c7) lk tick)::aA 140 1 A6 (k+1) c6 (ps.map dR++[dR p])::aA 3 1 A7 (k+1) c7 (List.replicate k (iV (-1))++[iV (-1)])::((ou p none 0::ps.map fun p=>ou p none 0)++l)) wr):
  KW w0 l kb d t ta s lg gs lk tick (k+1) A6 c6 A7 c7 (ps++[p]) wr:=by
 refine⟨by rw[List.length_append,hl];rfl,?_⟩;rw[List.map_append,List.map_append,List.replicate_succ'];refine h.perm (List.Perm.cons _ (List.Perm.cons _ (List.Perm.cons _ ?_)));rw[List.append_assoc];exact(List.perm_append_comm_assoc [ou p none 0] (ps.map fun p=>ou p none 0) l)
section
variable{w w' w0:World}{kb d s lk:Nat}{tick:Int}{t:aG}{ta:bM}{l:List ay}{v6 v7 v8 v9 v10:Value}
theorem aIo(h:ae w0 (aj kb 124 (qL d t ta v6 v7 v8 v9 v10 lk tick)::l) w)(hT:∀W,ae w0 l W->dM W t ta)(hr:aS t=true)(h4:t.parts.length<=4):
  Calls prog 56 #[.pointer (some (tZ kb 0)),.pointer (some (tZ s 0))] w fun e w'=>e=.returned (.tuple #[])/\∃lg tm mv mt gs Ap cp As cs ps,
   KW w0 (kZ gs t.chans (gJ t.chans)::aj lg 299 (tu s tm 0 mv)::aj tm 397 (sV mt)::l) kb d t ta s lg gs lk tick t.parts.length Ap cp As cs ps w':=by
 have i1:=hid (aPF (s:=s) h);have HT:=hid hT;have HR:=hid hr;clear h hT hr;go_enter func56,ntmps56;go_wp2_with fail;refine i1.out.mono ?_;rintro e w1⟨lg,tm,mv,mt,rfl,h1⟩;have h1':=h1.at_ 2 rfl;have f6:=h1'.blk.frozen;have c6:w1.cell? (tZ kb 6)=some v6:=h1'.blk.cellAt rfl;have c7:w1.cell? (tZ kb 7)=some v7:=h1'.blk.cellAt rfl;obtain⟨w2,hw2⟩:∃w2,(w1.setCell (tZ kb 6) (.pointer (some (tZ s 0)))).setCell (tZ kb 7) (.pointer (some (tZ lg 0)))=w2:=⟨_,rfl⟩;have h2:ae w0 (aj kb 124 (qL d t ta (dR s) (dR lg) v8 v9 v10 lk tick)::aj lg 299 (tu s tm 0 mv)::aj tm 397 (sV mt)::l) w2:=by
  rw[<-hw2];exact(h1'.store 6 (.pointer (some (tZ s 0)))).store 7 (.pointer (some (tZ lg 0)))
 have b2:=h2.blk;have k1:w2.cell? (tZ kb 1)=some (iV t.frame):=b2.cellAt rfl;have k2:w2.cell? (tZ kb 2)=some (.slice ta.A1 t.parts.length ta.c1):=b2.cellAt rfl;have k3:w2.cell? (tZ kb 3)=some (.slice ta.A2 t.wins.length ta.c2):=b2.cellAt rfl;have k4:w2.cell? (tZ kb 4)=some (.slice ta.A3 t.chans.length ta.c3):=b2.cellAt rfl;have k5:w2.cell? (tZ kb 5)=some (iV t.trial):=b2.cellAt rfl;have i2:=hid (aOM t ta w2 (HT.out _ h2.drop.drop.drop) HR.out);have H2:=hid h2;clear h1 h1' h2 b2 i1;go_wp2_with fail;refine i2.out.mono ?_;rintro e w3⟨F,gs,rfl,hS,hb3,hF⟩;have h3:=(H2.out.push hb3 (C:=kZ gs t.chans (gJ t.chans)) (F1:=F) hS hF).at_ 1 rfl;have f8:=h3.blk.frozen;have c8:w3.cell? (tZ kb 8)=some v8:=h3.blk.cellAt rfl;have c9:w3.cell? (tZ kb 9)=some v9:=h3.blk.cellAt rfl;have c10:w3.cell? (tZ kb 10)=some v10:=h3.blk.cellAt rfl;obtain⟨w4,hw4⟩:∃w4,((w3.setCell (tZ kb 8) (.pointer (some (tZ gs 0)))).setCell (tZ kb 9) (.slice none 0 0)).setCell (tZ kb 10) (.slice none 0 0)=w4:=⟨_,rfl⟩;have h4':ae w0 (aj kb 124 (qL d t ta (dR s) (dR lg) (dR gs) (.slice none 0 0) (.slice none 0 0) lk tick)::kZ gs t.chans (gJ t.chans)::aj lg 299 (tu s tm 0 mv)::aj tm 397 (sV mt)::l) w4:=by
  rw[<-hw4];exact((h3.store 8 (.pointer (some (tZ gs 0)))).store 9 (.slice none 0 0)).store 10 (.slice none 0 0)
 have x2:w4.cell? (tZ kb 2)=some (.slice ta.A1 t.parts.length ta.c1):=h4'.blk.cellAt rfl;have Ag:Hid (KW w0 (kZ gs t.chans (gJ t.chans)::aj lg 299 (tu s tm 0 mv)::aj tm 397 (sV mt)::l) kb d t ta s lg gs lk tick 0 none 0 none 0 [] w4):=hid ⟨rfl,((h4'.uX 3 1).uX 140 1).pn 3 [2,0,1]⟩;clear h3 h4' hS hb3 hF H2 i2 k1 k2 k3 k4 k5 c6 c7 f6;go_wp2_with fail;clear hw4 x2 c8 c9 c10 f8;go_loopw [36] (fun v36 wr=>∃(k:Nat) (Ap:Option Addr) (cp:Nat) (As:Option Addr) (cs:Nat) (ps:List Nat),k<=t.parts.length/\v36=iV (k:Int)/\Hid (KW w0 (kZ gs t.chans (gJ t.chans)::aj lg 299 (tu s tm 0 mv)::aj tm 397 (sV mt)::l) kb d t ta s lg gs lk tick k Ap cp As cs ps wr)) (fun v36 _=>t.parts.length-(Lib.intOf v36).toNat)
 case atStart=>exact⟨0,none,0,none,0,[],by omega,rfl,Ag⟩
 clear Ag;obtain⟨k,Ap,cp,As,cs,ps,hk,rfl,Az⟩:=hrel;by_cases hkn:k<t.parts.length
 ·have HA:=hid Az.out.all;obtain⟨i0,hi0,hz0,hz1,hz2⟩:=info_parts aI3;obtain⟨i1,hi1,hy0,hy1,hy2⟩:=info_parts aBi;have c9:wr.cell? (tZ kb 9)=some (.slice Ap k cp):=HA.out.blk.cellAt rfl;have c10:wr.cell? (tZ kb 10)=some (.slice As k cs):=HA.out.blk.cellAt rfl;have c9a:∀o,(wr.alloc o).cell? (tZ kb 9)=some (.slice Ap k cp):=fun o=>(HA.out.alloc o).blk.cellAt rfl
  have c10a:∀o,(wr.alloc o).cell? (tZ kb 10)=some (.slice As k cs):=fun o=>(HA.out.alloc o).blk.cellAt rfl
  go_wp2_with fail;have hk4:k<4:=by omega
  have HC:=HA;have HFt:Hid (∀b,bH Ap b->b<wr.heap.size):=hid fun b hb=>pq (HA.out.at_ 1 rfl).own hb
  clear HA c9a c10a;refine dZ (S:=(fun w'=>w'.cell? (tZ kb 9)=some (.slice Ap k cp)/\w'.cell? (tZ kb 10)=some (.slice As k cs))) 17 (by kernel_rfl) ⟨c9,c10⟩ (fun hHeld=>?_);refine iO 1 [(0,38)] rfl (by kernel_rfl) (by kernel_rfl) (fun _ _ _ _ _ h=>h) (by assumption) ?_;(refine aI rfl rfl rfl (v:=?_) ?_ ?_;rotate_left 1;focus(intro wS hSw;(try dsimp only at hSw);go_simp;try with_reducible rfl);try simp only[Act.put,aY,aZ,aU])
  refine au ?_;refine dB 1 [(1,39)] rfl (by kernel_rfl) (by kernel_rfl) (fun _ _ _ _ _ h=>h) (fun _=>by assumption) ?_;(refine aI rfl rfl rfl (v:=?_) ?_ ?_;rotate_left 1;focus(intro wS _;go_simp;try with_reducible rfl);try simp only[Act.put,aY,aZ,aU])
  refine au ?_;refine iO 4 [(2,40),(3,41),(4,42),(5,43)] rfl (by kernel_rfl) (by kernel_rfl) (fun _ _ _ _ _ h=>h) (by assumption) ?_;iterate 4 (refine aI rfl rfl rfl (v:=?_) ?_ ?_;rotate_left 1;focus(intro wS hSw;(try dsimp only at hSw);go_simp;try with_reducible rfl);try simp only[Act.put,aY,aZ,aU])
  refine au ?_;refine dB 3 [(9,47),(10,48),(11,49)] rfl (by kernel_rfl) (by kernel_rfl) (fun _ _ _ _ _ h=>h) (fun _=>by assumption) ?_;iterate 3 (refine aI rfl rfl rfl (v:=?_) ?_ ?_;rotate_left 1;focus(intro wS _;go_simp;try with_reducible rfl);try simp only[Act.put,aY,aZ,aU])
  refine au ?_;refine iO 1 [(12,50)] rfl (by kernel_rfl) (by kernel_rfl) (fun _ _ _ _ _ h=>h) (by assumption) ?_;(refine aI rfl rfl rfl (v:=?_) ?_ ?_;rotate_left 1;focus(intro wS hSw;(try dsimp only at hSw);go_simp;try with_reducible rfl);try simp only[Act.put,aY,aZ,aU])
  refine au ?_;refine gy (rs:=[6,13]) (by kernel_rfl) (by simp) ?_;refine bz.wU (i:=6) (o:=_) rfl (fun K hK=>?_) (bz.wU (i:=13) (o:=_) rfl (fun K hK=>?_) bz.nil)
  ·go_simp;(go_at_call 126;refine(aCB HC.out eY.out).mono ?_;rintro e w5 ⟨rfl,h5,hs5,Jo⟩;replace HC:=hid h5;have Ob:=hid Jo;have FY:=hid hs5;have I8:=hid (Nat.le_succ_of_le FY.out);clear h5 Jo hs5)
   refine hK.out _ _ ⟨(HC.out.belowS eY.out).blk.cellAt rfl,(HC.out.belowS eY.out).blk.cellAt rfl⟩ (fun hHeld=>?_);clear hK K;try simp only[Act.put,aY,aZ,aU]
   refine gy (rs:=[7,13]) (by kernel_rfl) (by simp) ?_;refine bz.wU (i:=7) (o:=_) rfl (fun K hK=>?_) (bz.wU (i:=13) (o:=_) rfl (fun K hK=>?_) bz.nil)
   ·go_simp;skip;refine hK.out _ _ ⟨(HC.out.belowS eY.out).blk.cellAt rfl,(HC.out.belowS eY.out).blk.cellAt rfl⟩ (fun hHeld=>?_);clear hK K;try simp only[Act.put,aY,aZ,aU]
    refine gy (rs:=[8,13]) (by kernel_rfl) (by simp) ?_;refine bz.wU (i:=8) (o:=_) rfl (fun K hK=>?_) (bz.wU (i:=13) (o:=_) rfl (fun K hK=>?_) bz.nil)
    ·(refine ed _ rfl (.tmp 43) (.tmp 45) 122 rfl 140 i0 _ 1 8 underlying122 hi0 hz0 hz1 hz2 rfl (by decide) (.slice Ap k cp) k (ps.map dR) rfl ?_ ?_ _ 1 1 ?_ rfl ?_ ?_ ?_ ?_ (k+1) rfl ?_;(focus exact((HC.out.belowS eY.out).at_ 1 rfl).own);rotate_left 2;(focus(first|exact tN _ _ _|exact rdB _ _ _ _|exact aNG _ _ _ _));(focus simp[Value.oneCell']);(focus(simp[maxLen];omega));(focus omega);intro A6 c6 w6 Fv zF uS;have C9:=hid (aB7 HFt.out zF);replace HC:=hid (aFq HC.out eY.out Fv zF uS);clear Fv zF uS)
     refine hK.out _ _ ⟨(HC.out.belowS eY.out).blk.cellAt rfl,(HC.out.belowS eY.out).blk.cellAt rfl⟩ (fun hHeld=>?_);clear hK K;try simp only[Act.put,aY,aZ,aU]
     refine fB 13 rfl (by kernel_rfl) fun K hK=>?_
     go_simp;skip;refine hK.out _ _ ⟨(HC.out.belowS eY.out).blk.cellAt rfl,(HC.out.belowS eY.out).blk.cellAt rfl⟩ (fun hHeld=>?_);clear hK K;try simp only[Act.put,aY,aZ,aU]
     refine fB 14 rfl (by kernel_rfl) fun K hK=>?_
     (refine ed _ rfl (.tmp 50) (.tmp 51) 53 rfl 3 i1 _ 1 8 underlying53 hi1 hy0 hy1 hy2 rfl (by decide) (.slice As k cs) k (List.replicate k (iV (-1))) rfl ?_ ?_ _ 1 1 ?_ rfl ?_ ?_ ?_ ?_ (k+1) rfl ?_;(focus exact((HC.out.belowS eY.out).at_ 2 rfl).own);rotate_left 2;(focus(first|exact tN _ _ _|exact kR (C9.out (w5.heap.size+1) _ I8.out (aNv _ _ _ _))|exact kR (C9.out w5.heap.size _ FY.out (aNx _ _ _ _))|exact kR (C9.out wr.heap.size _ (Nat.le_refl _) (Oa (Ob.out _ _ (KX _ _ _))))));(focus simp[Value.oneCell']);(focus(simp[maxLen];omega));(focus omega);intro A7 c7 w7 FB BO xQ;replace HC:=hid (aEY HC.out eY.out FB BO xQ);clear FB BO xQ)
     refine hK.out _ _ ⟨(HC.out.belowS eY.out).blk.cellAt rfl,(HC.out.belowS eY.out).blk.cellAt rfl⟩ (fun hHeld=>?_);clear hK K;try simp only[Act.put,aY,aZ,aU]
     refine dB 2 [(15,53),(16,54)] rfl (by kernel_rfl) (by kernel_rfl) (fun _ _ _ _ _ h=>h) (fun _=>by assumption) ?_;iterate 2 (refine aI rfl rfl rfl (v:=?_) ?_ ?_;rotate_left 1;focus(intro wS _;go_simp;try with_reducible rfl);try simp only[Act.put,aY,aZ,aU])
     refine au ?_;have z9:w7.cell? (tZ kb 9)=some (.slice Ap k cp):=HC.out.blk.cellAt rfl;have zf:=HC.out.blk.frozen;refine iQ 17 rfl (by kernel_rfl) (by kernel_rfl) fun K hK=>?_
     go_simp;skip;refine hK.out _ _ ?_;clear hK K;try simp only[Act.put,aY,aZ,aU]
     have zX:=hid (HC.out.store 9 (.slice A6 (k+1) c6));generalize w7.setCell (tZ kb 9) (.slice A6 (k+1) c6)=w8 at zX ⊢;clear z9 zf;refine dB 2 [(18,55),(19,56)] rfl (by kernel_rfl) (by kernel_rfl) (fun _ _ _ _ _ h=>h) (fun h9=>by cases h9) ?_;iterate 2 (refine aI rfl rfl rfl (v:=?_) ?_ ?_;rotate_left 1;focus(intro wS _;go_simp;try with_reducible rfl);try simp only[Act.put,aY,aZ,aU])
     refine au ?_;have AU:w8.cell? (tZ kb 10)=some (.slice As k cs):=zX.out.blk.cellAt rfl;have zf:=zX.out.blk.frozen;refine iQ 20 rfl (by kernel_rfl) (by kernel_rfl) fun K hK=>?_
     go_simp;skip;refine hK.out _ _ ?_;clear hK K;try simp only[Act.put,aY,aZ,aU]
     refine bU (by kernel_rfl) ?_ _;have Dc:=hid (zX.out.store 10 (.slice A7 (k+1) c7));generalize w8.setCell (tZ kb 10) (.slice A7 (k+1) c7)=w9 at Dc ⊢;clear AU zf zX HC;go_wp2_with fail;go_roundw;case rel=>exact⟨k+1,A6,c6,A7,c7,_,by omega,by go_num,hid (by first|exact nX Az.out.len Dc.out|(have h9:=Dc.out;rw[show(wr.alloc (.cells #[iV (-1)] 3)).drew.heap.size=wr.heap.size+1 from size_alloc _ _]at h9;exact nX Az.out.len h9))⟩
     case measure=>simp[Lib.intOf];omega
    ·go_simp;skip;refine hK.out _ _ ⟨(HC.out.belowS eY.out).blk.cellAt rfl,(HC.out.belowS eY.out).blk.cellAt rfl⟩ (fun hHeld=>?_);clear hK K;try simp only[Act.put,aY,aZ,aU]
     refine fB 8 rfl (by kernel_rfl) fun K hK=>?_
     (refine ed _ rfl (.tmp 43) (.tmp 45) 122 rfl 140 i0 _ 1 8 underlying122 hi0 hz0 hz1 hz2 rfl (by decide) (.slice Ap k cp) k (ps.map dR) rfl ?_ ?_ _ 1 1 ?_ rfl ?_ ?_ ?_ ?_ (k+1) rfl ?_;(focus exact((HC.out.belowS eY.out).at_ 1 rfl).own);rotate_left 2;(focus(first|exact tN _ _ _|exact rdB _ _ _ _|exact aNG _ _ _ _));(focus simp[Value.oneCell']);(focus(simp[maxLen];omega));(focus omega);intro A6 c6 w6 Fv zF uS;have C9:=hid (aB7 HFt.out zF);replace HC:=hid (aFq HC.out eY.out Fv zF uS);clear Fv zF uS)
     refine hK.out _ _ ⟨(HC.out.belowS eY.out).blk.cellAt rfl,(HC.out.belowS eY.out).blk.cellAt rfl⟩ (fun hHeld=>?_);clear hK K;try simp only[Act.put,aY,aZ,aU]
     refine fB 14 rfl (by kernel_rfl) fun K hK=>?_
     (refine ed _ rfl (.tmp 50) (.tmp 51) 53 rfl 3 i1 _ 1 8 underlying53 hi1 hy0 hy1 hy2 rfl (by decide) (.slice As k cs) k (List.replicate k (iV (-1))) rfl ?_ ?_ _ 1 1 ?_ rfl ?_ ?_ ?_ ?_ (k+1) rfl ?_;(focus exact((HC.out.belowS eY.out).at_ 2 rfl).own);rotate_left 2;(focus(first|exact tN _ _ _|exact kR (C9.out (w5.heap.size+1) _ I8.out (aNv _ _ _ _))|exact kR (C9.out w5.heap.size _ FY.out (aNx _ _ _ _))|exact kR (C9.out wr.heap.size _ (Nat.le_refl _) (Oa (Ob.out _ _ (KX _ _ _))))));(focus simp[Value.oneCell']);(focus(simp[maxLen];omega));(focus omega);intro A7 c7 w7 FB BO xQ;replace HC:=hid (aEY HC.out eY.out FB BO xQ);clear FB BO xQ)
     refine hK.out _ _ ⟨(HC.out.belowS eY.out).blk.cellAt rfl,(HC.out.belowS eY.out).blk.cellAt rfl⟩ (fun hHeld=>?_);clear hK K;try simp only[Act.put,aY,aZ,aU]
     refine dB 2 [(15,53),(16,54)] rfl (by kernel_rfl) (by kernel_rfl) (fun _ _ _ _ _ h=>h) (fun _=>by assumption) ?_;iterate 2 (refine aI rfl rfl rfl (v:=?_) ?_ ?_;rotate_left 1;focus(intro wS _;go_simp;try with_reducible rfl);try simp only[Act.put,aY,aZ,aU])
     refine au ?_;have z9:w7.cell? (tZ kb 9)=some (.slice Ap k cp):=HC.out.blk.cellAt rfl;have zf:=HC.out.blk.frozen;refine iQ 17 rfl (by kernel_rfl) (by kernel_rfl) fun K hK=>?_
     go_simp;skip;refine hK.out _ _ ?_;clear hK K;try simp only[Act.put,aY,aZ,aU]
     have zX:=hid (HC.out.store 9 (.slice A6 (k+1) c6));generalize w7.setCell (tZ kb 9) (.slice A6 (k+1) c6)=w8 at zX ⊢;clear z9 zf;refine dB 2 [(18,55),(19,56)] rfl (by kernel_rfl) (by kernel_rfl) (fun _ _ _ _ _ h=>h) (fun h9=>by cases h9) ?_;iterate 2 (refine aI rfl rfl rfl (v:=?_) ?_ ?_;rotate_left 1;focus(intro wS _;go_simp;try with_reducible rfl);try simp only[Act.put,aY,aZ,aU])
     refine au ?_;have AU:w8.cell? (tZ kb 10)=some (.slice As k cs):=zX.out.blk.cellAt rfl;have zf:=zX.out.blk.frozen;refine iQ 20 rfl (by kernel_rfl) (by kernel_rfl) fun K hK=>?_
     go_simp;skip;refine hK.out _ _ ?_;clear hK K;try simp only[Act.put,aY,aZ,aU]
     refine bU (by kernel_rfl) ?_ _;have Dc:=hid (zX.out.store 10 (.slice A7 (k+1) c7));generalize w8.setCell (tZ kb 10) (.slice A7 (k+1) c7)=w9 at Dc ⊢;clear AU zf zX HC;go_wp2_with fail;go_roundw;case rel=>exact⟨k+1,A6,c6,A7,c7,_,by omega,by go_num,hid (by first|exact nX Az.out.len Dc.out|(have h9:=Dc.out;rw[show(wr.alloc (.cells #[iV (-1)] 3)).drew.heap.size=wr.heap.size+1 from size_alloc _ _]at h9;exact nX Az.out.len h9))⟩
     case measure=>simp[Lib.intOf];omega
   ·go_simp;skip;refine hK.out _ _ ⟨(HC.out.belowS eY.out).blk.cellAt rfl,(HC.out.belowS eY.out).blk.cellAt rfl⟩ (fun hHeld=>?_);clear hK K;try simp only[Act.put,aY,aZ,aU]
    refine fB 7 rfl (by kernel_rfl) fun K hK=>?_
    go_simp;skip;refine hK.out _ _ ⟨(HC.out.belowS eY.out).blk.cellAt rfl,(HC.out.belowS eY.out).blk.cellAt rfl⟩ (fun hHeld=>?_);clear hK K;try simp only[Act.put,aY,aZ,aU]
    refine fB 8 rfl (by kernel_rfl) fun K hK=>?_
    (refine ed _ rfl (.tmp 43) (.tmp 45) 122 rfl 140 i0 _ 1 8 underlying122 hi0 hz0 hz1 hz2 rfl (by decide) (.slice Ap k cp) k (ps.map dR) rfl ?_ ?_ _ 1 1 ?_ rfl ?_ ?_ ?_ ?_ (k+1) rfl ?_;(focus exact((HC.out.belowS eY.out).at_ 1 rfl).own);rotate_left 2;(focus(first|exact tN _ _ _|exact rdB _ _ _ _|exact aNG _ _ _ _));(focus simp[Value.oneCell']);(focus(simp[maxLen];omega));(focus omega);intro A6 c6 w6 Fv zF uS;have C9:=hid (aB7 HFt.out zF);replace HC:=hid (aFq HC.out eY.out Fv zF uS);clear Fv zF uS)
    refine hK.out _ _ ⟨(HC.out.belowS eY.out).blk.cellAt rfl,(HC.out.belowS eY.out).blk.cellAt rfl⟩ (fun hHeld=>?_);clear hK K;try simp only[Act.put,aY,aZ,aU]
    refine fB 14 rfl (by kernel_rfl) fun K hK=>?_
    (refine ed _ rfl (.tmp 50) (.tmp 51) 53 rfl 3 i1 _ 1 8 underlying53 hi1 hy0 hy1 hy2 rfl (by decide) (.slice As k cs) k (List.replicate k (iV (-1))) rfl ?_ ?_ _ 1 1 ?_ rfl ?_ ?_ ?_ ?_ (k+1) rfl ?_;(focus exact((HC.out.belowS eY.out).at_ 2 rfl).own);rotate_left 2;(focus(first|exact tN _ _ _|exact kR (C9.out (w5.heap.size+1) _ I8.out (aNv _ _ _ _))|exact kR (C9.out w5.heap.size _ FY.out (aNx _ _ _ _))|exact kR (C9.out wr.heap.size _ (Nat.le_refl _) (Oa (Ob.out _ _ (KX _ _ _))))));(focus simp[Value.oneCell']);(focus(simp[maxLen];omega));(focus omega);intro A7 c7 w7 FB BO xQ;replace HC:=hid (aEY HC.out eY.out FB BO xQ);clear FB BO xQ)
    refine hK.out _ _ ⟨(HC.out.belowS eY.out).blk.cellAt rfl,(HC.out.belowS eY.out).blk.cellAt rfl⟩ (fun hHeld=>?_);clear hK K;try simp only[Act.put,aY,aZ,aU]
    refine dB 2 [(15,53),(16,54)] rfl (by kernel_rfl) (by kernel_rfl) (fun _ _ _ _ _ h=>h) (fun _=>by assumption) ?_;iterate 2 (refine aI rfl rfl rfl (v:=?_) ?_ ?_;rotate_left 1;focus(intro wS _;go_simp;try with_reducible rfl);try simp only[Act.put,aY,aZ,aU])
    refine au ?_;have z9:w7.cell? (tZ kb 9)=some (.slice Ap k cp):=HC.out.blk.cellAt rfl;have zf:=HC.out.blk.frozen;refine iQ 17 rfl (by kernel_rfl) (by kernel_rfl) fun K hK=>?_
    go_simp;skip;refine hK.out _ _ ?_;clear hK K;try simp only[Act.put,aY,aZ,aU]
    have zX:=hid (HC.out.store 9 (.slice A6 (k+1) c6));generalize w7.setCell (tZ kb 9) (.slice A6 (k+1) c6)=w8 at zX ⊢;clear z9 zf;refine dB 2 [(18,55),(19,56)] rfl (by kernel_rfl) (by kernel_rfl) (fun _ _ _ _ _ h=>h) (fun h9=>by cases h9) ?_;iterate 2 (refine aI rfl rfl rfl (v:=?_) ?_ ?_;rotate_left 1;focus(intro wS _;go_simp;try with_reducible rfl);try simp only[Act.put,aY,aZ,aU])
    refine au ?_;have AU:w8.cell? (tZ kb 10)=some (.slice As k cs):=zX.out.blk.cellAt rfl;have zf:=zX.out.blk.frozen;refine iQ 20 rfl (by kernel_rfl) (by kernel_rfl) fun K hK=>?_
    go_simp;skip;refine hK.out _ _ ?_;clear hK K;try simp only[Act.put,aY,aZ,aU]
    refine bU (by kernel_rfl) ?_ _;have Dc:=hid (zX.out.store 10 (.slice A7 (k+1) c7));generalize w8.setCell (tZ kb 10) (.slice A7 (k+1) c7)=w9 at Dc ⊢;clear AU zf zX HC;go_wp2_with fail;go_roundw;case rel=>exact⟨k+1,A6,c6,A7,c7,_,by omega,by go_num,hid (by first|exact nX Az.out.len Dc.out|(have h9:=Dc.out;rw[show(wr.alloc (.cells #[iV (-1)] 3)).drew.heap.size=wr.heap.size+1 from size_alloc _ _]at h9;exact nX Az.out.len h9))⟩
    case measure=>simp[Lib.intOf];omega
  ·go_simp;skip;refine hK.out _ _ ⟨(HC.out.belowS eY.out).blk.cellAt rfl,(HC.out.belowS eY.out).blk.cellAt rfl⟩ (fun hHeld=>?_);clear hK K;try simp only[Act.put,aY,aZ,aU]
   refine fB 6 rfl (by kernel_rfl) fun K hK=>?_
   go_simp;(go_at_call 126;refine(aCB HC.out eY.out).mono ?_;rintro e w5 ⟨rfl,h5,hs5,Jo⟩;replace HC:=hid h5;have Ob:=hid Jo;have FY:=hid hs5;have I8:=hid (Nat.le_succ_of_le FY.out);clear h5 Jo hs5)
   refine hK.out _ _ ⟨(HC.out.belowS eY.out).blk.cellAt rfl,(HC.out.belowS eY.out).blk.cellAt rfl⟩ (fun hHeld=>?_);clear hK K;try simp only[Act.put,aY,aZ,aU]
   refine fB 7 rfl (by kernel_rfl) fun K hK=>?_
   go_simp;skip;refine hK.out _ _ ⟨(HC.out.belowS eY.out).blk.cellAt rfl,(HC.out.belowS eY.out).blk.cellAt rfl⟩ (fun hHeld=>?_);clear hK K;try simp only[Act.put,aY,aZ,aU]
   refine fB 8 rfl (by kernel_rfl) fun K hK=>?_
   (refine ed _ rfl (.tmp 43) (.tmp 45) 122 rfl 140 i0 _ 1 8 underlying122 hi0 hz0 hz1 hz2 rfl (by decide) (.slice Ap k cp) k (ps.map dR) rfl ?_ ?_ _ 1 1 ?_ rfl ?_ ?_ ?_ ?_ (k+1) rfl ?_;(focus exact((HC.out.belowS eY.out).at_ 1 rfl).own);rotate_left 2;(focus(first|exact tN _ _ _|exact rdB _ _ _ _|exact aNG _ _ _ _));(focus simp[Value.oneCell']);(focus(simp[maxLen];omega));(focus omega);intro A6 c6 w6 Fv zF uS;have C9:=hid (aB7 HFt.out zF);replace HC:=hid (aFq HC.out eY.out Fv zF uS);clear Fv zF uS)
   refine hK.out _ _ ⟨(HC.out.belowS eY.out).blk.cellAt rfl,(HC.out.belowS eY.out).blk.cellAt rfl⟩ (fun hHeld=>?_);clear hK K;try simp only[Act.put,aY,aZ,aU]
   refine fB 14 rfl (by kernel_rfl) fun K hK=>?_
   (refine ed _ rfl (.tmp 50) (.tmp 51) 53 rfl 3 i1 _ 1 8 underlying53 hi1 hy0 hy1 hy2 rfl (by decide) (.slice As k cs) k (List.replicate k (iV (-1))) rfl ?_ ?_ _ 1 1 ?_ rfl ?_ ?_ ?_ ?_ (k+1) rfl ?_;(focus exact((HC.out.belowS eY.out).at_ 2 rfl).own);rotate_left 2;(focus(first|exact tN _ _ _|exact kR (C9.out (w5.heap.size+1) _ I8.out (aNv _ _ _ _))|exact kR (C9.out w5.heap.size _ FY.out (aNx _ _ _ _))|exact kR (C9.out wr.heap.size _ (Nat.le_refl _) (Oa (Ob.out _ _ (KX _ _ _))))));(focus simp[Value.oneCell']);(focus(simp[maxLen];omega));(focus omega);intro A7 c7 w7 FB BO xQ;replace HC:=hid (aEY HC.out eY.out FB BO xQ);clear FB BO xQ)
   refine hK.out _ _ ⟨(HC.out.belowS eY.out).blk.cellAt rfl,(HC.out.belowS eY.out).blk.cellAt rfl⟩ (fun hHeld=>?_);clear hK K;try simp only[Act.put,aY,aZ,aU]
   refine dB 2 [(15,53),(16,54)] rfl (by kernel_rfl) (by kernel_rfl) (fun _ _ _ _ _ h=>h) (fun _=>by assumption) ?_;iterate 2 (refine aI rfl rfl rfl (v:=?_) ?_ ?_;rotate_left 1;focus(intro wS _;go_simp;try with_reducible rfl);try simp only[Act.put,aY,aZ,aU])
   refine au ?_;have z9:w7.cell? (tZ kb 9)=some (.slice Ap k cp):=HC.out.blk.cellAt rfl;have zf:=HC.out.blk.frozen;refine iQ 17 rfl (by kernel_rfl) (by kernel_rfl) fun K hK=>?_
   go_simp;skip;refine hK.out _ _ ?_;clear hK K;try simp only[Act.put,aY,aZ,aU]
   have zX:=hid (HC.out.store 9 (.slice A6 (k+1) c6));generalize w7.setCell (tZ kb 9) (.slice A6 (k+1) c6)=w8 at zX ⊢;clear z9 zf;refine dB 2 [(18,55),(19,56)] rfl (by kernel_rfl) (by kernel_rfl) (fun _ _ _ _ _ h=>h) (fun h9=>by cases h9) ?_;iterate 2 (refine aI rfl rfl rfl (v:=?_) ?_ ?_;rotate_left 1;focus(intro wS _;go_simp;try with_reducible rfl);try simp only[Act.put,aY,aZ,aU])
   refine au ?_;have AU:w8.cell? (tZ kb 10)=some (.slice As k cs):=zX.out.blk.cellAt rfl;have zf:=zX.out.blk.frozen;refine iQ 20 rfl (by kernel_rfl) (by kernel_rfl) fun K hK=>?_
   go_simp;skip;refine hK.out _ _ ?_;clear hK K;try simp only[Act.put,aY,aZ,aU]
   refine bU (by kernel_rfl) ?_ _;have Dc:=hid (zX.out.store 10 (.slice A7 (k+1) c7));generalize w8.setCell (tZ kb 10) (.slice A7 (k+1) c7)=w9 at Dc ⊢;clear AU zf zX HC;go_wp2_with fail;go_roundw;case rel=>exact⟨k+1,A6,c6,A7,c7,_,by omega,by go_num,hid (by first|exact nX Az.out.len Dc.out|(have h9:=Dc.out;rw[show(wr.alloc (.cells #[iV (-1)] 3)).drew.heap.size=wr.heap.size+1 from size_alloc _ _]at h9;exact nX Az.out.len h9))⟩
   case measure=>simp[Lib.intOf];omega
 ·obtain rfl:k=t.parts.length:=by omega
  go_wp2_with fail;refine bodyPost_end (v:=.tuple #[]) (by simp[results,results56,go_sem]) rfl ?_;exact⟨rfl,lg,tm,mv,mt,gs,Ap,cp,As,cs,ps,Az.out⟩
end
structure KA where
 d:Nat
 s:Nat
 lg:Nat
 tm:Nat
 gs:Nat
 lk:Nat
 ta:bM
 tb:bM
 Al:Option Addr
 cl:Nat
 xs:List (qy×Nat)
 now:Int
 mv:Value
 mt:Value
 Ap:Option Addr
 cp:Nat
 As:Option Addr
 cs:Nat
structure PM where
 p:Nat
 q:Option (Nat×nM)
 b:Int
def PM.new(p:Nat):PM:=⟨p,none,0⟩
def tK(x:PM)(i:aO):ay:=
 match x.q with
 |none=>ou x.p none x.b
 |some y=>ay.all [ou x.p (some y.1) x.b,qo y.1 i y.2]
def lw(ms:List PM)(is:List aO):List ay:=List.zipWith tK ms is
def sF(x:PM):Value:=iV (if x.q.isSome=true then 0 else-1)
def dC(kb:Nat)(t:aG)(a:KA)(ms:List PM)(ss:Nat->bP)(L:List (List UInt8))(fu tick:Int):List ay:=
 [aj kb 124 (qL a.d t a.ta (dR a.s) (dR a.lg) (dR a.gs) (.slice a.Ap ms.length a.cp) (.slice a.As ms.length a.cs) a.lk tick),
  aA 140 1 a.Ap ms.length a.cp (ms.map fun x=>dR x.p),aA 3 1 a.As ms.length a.cs (ms.map sF),
  kZ a.gs t.chans ss,aj a.lg 299 (tu a.s a.tm a.now a.mv),aj a.tm 397 (sV a.mt),
  aA 164 3 a.ta.A1 t.parts.length a.ta.c1 (t.parts.flatMap dK),aA 89 3 a.ta.A2 t.wins.length a.ta.c2 (t.wins.flatMap iP),aA 75 3 a.ta.A3 t.chans.length a.ta.c3 (t.chans.flatMap fQ),
  rQ a.s a.d t a.tb a.Al a.cl a.xs,dU a.d (dH L fu),aj a.lk 182 [.slice none 0 0,.slice none 0 0]]
structure dE (t:aG) (is:List aO) (a:KA) (ms:List PM) (ss:Nat->bP) (L:List (List UInt8)) (fu nb nt:Int):Prop where
 right:aS t=true
 tab:sU t
 n1:1<=t.parts.length
 n4:t.parts.length<=4
 yH:is.length=t.parts.length
 xN:ms.length=t.parts.length
 xs:a.xs.map Prod.snd=is.map fun i=>49+i.code.length
 dk:eX (dH L fu)
 zY:10*t.parts.length<=L.length
 has:∀(p:Nat)(i:aO),is[p]? =some i->oO L p i
 Df:∀(p:Nat)(i:aO),is[p]? =some i->fG t (p:Int) i 0=0
 fine:∀(p:Nat)(i:aO)(x:PM)(y:Nat×nM),is[p]? =some i->ms[p]? =some x->x.q=some y->lM i y.2/\0<=y.2.ticks/\y.2.ticks<=nt
 wL:∀x∈ms,0<=x.b/\x.b<=nb
 AA:jA t.chans ss
 AB:(mM t).length<=1000000
def lm(w0:World)(kb lk:Nat)(t:aG)(is:List aO)(l:List ay)(up:Bool)(tick:Nat)(w:World):Prop:=
 ∃(a:KA) (ms:List PM) (ss:Nat->bP) (L:List (List UInt8)) (fu:Int),a.lk=lk/\ae w0 (dC kb t a ms ss L fu tick++(lw ms is++l)) w/\dE t is a ms ss L fu tick tick/\(up=true->∀x∈ms,x.q.isSome=true)
section
variable{w w' w0:World}{kb d:Nat}{t:aG}{ta:bM}{is:List aO}{a:KA}{ms:List PM}{ss:Nat->bP}{L:List (List UInt8)}{fu nb nt tick:Int}{l:List ay}
theorem ae.BQ(h:ae w0 (aA 164 3 ta.A1 t.parts.length ta.c1 (t.parts.flatMap dK)::aA 89 3 ta.A2 t.wins.length ta.c2 (t.wins.flatMap iP)::aA 75 3 ta.A3 t.chans.length ta.c3 (t.chans.flatMap fQ)::l) w)(hN:sU t):dM w t ta:=
 ⟨⟨((h.at_ 0 rfl).uT).Es (fun _=>rfl),((h.at_ 1 rfl).uT).Es (fun _=>rfl),((h.at_ 2 rfl).uT).Es (fun _=>rfl)⟩,hN.1,hN.2.1,hN.2.2.1,hN.2.2.2.1,hN.2.2.2.2⟩
theorem aIr:∀(ps:List Nat)(is:List aO),is.length=ps.length->lw (ps.map PM.new) is=ps.map fun p=>ou p none 0
 |[],[],_=>rfl
 |p::ps,i::is,h=>by
  have:=aIr ps is (by simpa using h);simp only[lw,List.map_cons,List.zipWith_cons_cons]at this ⊢;rw[this];rfl
theorem ae.aQy{H A B:List ay}(h:ae w0 (H++(A++(B++l))) w):ae w0 (H++(B++(A++l))) w:=h.perm (List.Perm.append_left H (by
 rw[<-List.append_assoc,<-List.append_assoc];exact List.Perm.append_right l List.perm_append_comm))
theorem KW.ker{s lg gs lk:Nat}{tm n:Nat}{mv mt:Value}{tb:bM}{Al Ap As:Option Addr}{cl cp cs:Nat}{xs:List (qy×Nat)}{ps:List Nat}
(h:KW w0 (kZ gs t.chans (gJ t.chans)::aj lg 299 (tu s tm 0 mv)::aj tm 397 (sV mt)::aA 164 3 ta.A1 t.parts.length ta.c1 (t.parts.flatMap dK)::aA 89 3 ta.A2 t.wins.length ta.c2 (t.wins.flatMap iP)::aA 75 3 ta.A3 t.chans.length ta.c3 (t.chans.flatMap fQ)::rQ s d t tb Al cl xs::dU d (dH L fu)::aj lk 182 [.slice none 0 0,.slice none 0 0]::l) kb d t ta s lg gs lk tick n Ap cp As cs ps w)(hn:is.length=n):
  ae w0 (dC kb t ⟨d,s,lg,tm,gs,lk,ta,tb,Al,cl,xs,0,mv,mt,Ap,cp,As,cs⟩ (ps.map PM.new) (gJ t.chans) L fu tick++(lw (ps.map PM.new) is++l)) w:=by
 have h1:=h.all;have hl:=h.len;rw[aIr ps is (by rw[hn,hl])];have h2:ae w0 ([aj kb 124 (qL d t ta (dR s) (dR lg) (dR gs) (.slice Ap n cp) (.slice As n cs) lk tick),aA 140 1 Ap n cp (ps.map dR),aA 3 1 As n cs (List.replicate n (iV (-1)))]++((ps.map fun p=>ou p none 0)++([kZ gs t.chans (gJ t.chans),aj lg 299 (tu s tm 0 mv),aj tm 397 (sV mt),aA 164 3 ta.A1 t.parts.length ta.c1 (t.parts.flatMap dK),aA 89 3 ta.A2 t.wins.length ta.c2 (t.wins.flatMap iP),aA 75 3 ta.A3 t.chans.length ta.c3 (t.chans.flatMap fQ),rQ s d t tb Al cl xs,dU d (dH L fu),aj lk 182 [.slice none 0 0,.slice none 0 0]]++l))) w:=h1;have h3:=h2.aQy;have e1:(ps.map PM.new).length=n:=by rw[List.length_map,hl]
 have e2:(ps.map PM.new).map (fun x=>dR x.p)=ps.map dR:=by rw[List.map_map];rfl
 have e3:(ps.map PM.new).map sF=List.replicate n (iV (-1)):=by
  rw[List.map_map,<-hl];exact List.map_const' (l:=ps) (b:=Value.int .i64 (-1))
 unfold dC;rw[e1,e2,e3];exact h3
theorem ae.aRA{H P:List ay}{C:ay}(h:ae w0 (H++(P++l)) w)(p:Nat)(hp:P[p]? =some C):ae w0 (C::(H++(P.eraseIdx p++l))) w:=h.perm (by
 have e1:(H++(P++l)).Perm (H++(C::(P.eraseIdx p++l))):=List.Perm.append_left H (List.Perm.append_right l (aIw hp));exact e1.trans List.perm_middle)
theorem ae.aS7{H P:List ay}{C:ay}{p:Nat}(h:ae w0 (C::(H++(P.eraseIdx p++l))) w)(hp:p<P.length):ae w0 (H++(P.set p C++l)) w:=h.perm (by
 have e1:(H++(C::(P.eraseIdx p++l))).Perm (H++(P.set p C++l)):=List.Perm.append_left H (List.Perm.append_right l (aGc C hp));exact List.perm_middle.symm.trans e1)
theorem aPe{p:Nat}{x:PM}{i:aO}(hp:ms[p]? =some x)(hi:is[p]? =some i):(lw ms is)[p]? =some (tK x i):=by
 unfold lw;rw[List.getElem?_zipWith,hp,hi]
theorem aNu{p:Nat}{x:PM}{i:aO}(hi:is[p]? =some i):lw (ms.set p x) is=(lw ms is).set p (tK x i):=by
 apply List.ext_getElem?
 intro j;unfold lw;rw[List.getElem?_zipWith,List.getElem?_set,List.getElem?_set,List.getElem?_zipWith,List.length_zipWith];by_cases h:p=j
 ·subst h;have hl:p<is.length:=(List.getElem?_eq_some_iff.1 hi).1;rw[hi,if_pos rfl,if_pos rfl];by_cases hm:p<ms.length
  ·rw[if_pos hm,if_pos (by omega)]
  ·rw[if_neg hm,if_neg (by omega)]
 ·rw[if_neg h,if_neg h]
theorem ae.FC{H:List ay}{p:Nat}{x:PM}{i:aO}(h:ae w0 (H++(lw ms is++l)) w)(hp:ms[p]? =some x)(hi:is[p]? =some i):ae w0 (tK x i::(H++((lw ms is).eraseIdx p++l))) w:=h.aRA p (aPe hp hi)
theorem ae.aRB{H:List ay}{p:Nat}{x:PM}{i:aO}(h:ae w0 (tK x i::(H++((lw ms is).eraseIdx p++l))) w)(hp:p<ms.length)(hi:is[p]? =some i):ae w0 (H++(lw (ms.set p x) is++l)) w:=by
 rw[aNu hi];refine h.aS7 ?_;have hl:p<is.length:=(List.getElem?_eq_some_iff.1 hi).1;unfold lw;rw[List.length_zipWith];omega
theorem ae.pmPt{x:PM}{i:aO}{l:List ay}(h:ae w0 (tK x i::l) w):ae w0 (ou x.p (x.q.map Prod.fst) x.b::l) w:=by
 obtain⟨p,q,b⟩:=x;cases q with
 |none=>exact h
 |some y=>exact h.xI.pn 2 [0]
theorem ae.aQQ{p b:Nat}{y:Nat×nM}{i:aO}{l:List ay}{bb:Int}(h:ae w0 (tK ⟨p,some y,bb⟩ i::l) w):ae w0 (ou p (some y.1) bb::qo y.1 i y.2::l) w:=h.xI
theorem ae.aQR{p:Nat}{y:Nat×nM}{i:aO}{l:List ay}{bb:Int}(h:ae w0 (ou p (some y.1) bb::qo y.1 i y.2::l) w):ae w0 (tK ⟨p,some y,bb⟩ i::l) w:=
 ae.all (L:=[ou p (some y.1) bb,qo y.1 i y.2]) h
theorem ae.uY{R:List ay}(h:ae w0 (dC kb t a ms ss L fu tick++R) w):ak w kb 124 (qL a.d t a.ta (dR a.s) (dR a.lg) (dR a.gs) (.slice a.Ap ms.length a.cp) (.slice a.As ms.length a.cs) a.lk tick):=(h.at_ 0 rfl).blk
theorem ae.vM{R:List ay}(h:ae w0 (dC kb t a ms ss L fu tick++R) w):w.ownsRow 0 140 1 (.slice a.Ap ms.length a.cp) ms.length (ms.map fun x=>dR x.p):=(h.at_ 1 rfl).own
theorem ae.xj{R:List ay}(h:ae w0 (dC kb t a ms ss L fu tick++R) w):w.ownsRow 0 3 1 (.slice a.As ms.length a.cs) ms.length (ms.map sF):=(h.at_ 2 rfl).own
theorem ae.aTB{R:List ay}(h:ae w0 (dC kb t a ms ss L fu tick++R) w)(hN:sU t):nN w a.s a.d t a.tb a.Al a.cl (a.xs.map Prod.fst) (a.xs.map Prod.snd):=(h.at_ 9 rfl).sto hN
theorem ae.kDk{R:List ay}(h:ae w0 (dC kb t a ms ss L fu tick++R) w):∃gl A ca,nI w a.d gl A ca L fu:=(h.at_ 10 rfl).zS
theorem ae.kTab{R:List ay}(h:ae w0 (dC kb t a ms ss L fu tick++R) w)(hN:sU t):dM w t a.ta:=(h.pn 12 [6,7,8] (hN:=by simp[dC])).BQ hN
theorem ae.kLk{R:List ay}(h:ae w0 (dC kb t a ms ss L fu tick++R) w):tJ w a.lk:=(h.at_ 11 rfl).blk
theorem dE.uu{p:Nat}{i:aO}(h:dE t is a ms ss L fu nb nt)(hi:is[p]? =some i):eU i:=(eQ i).1 (NW (h.Df p i hi))
theorem dE.depth(h:dE t is a ms ss L fu nb nt):∀k,k<t.chans.length->ju t.chans k<=4:=fun k hk=>by
 obtain⟨x,hx⟩:∃x,t.chans[k]? =some x:=⟨_,List.getElem?_eq_getElem hk⟩;rw[aAO hx];exact(((bK t).1 h.right).cs x (List.mem_of_getElem? hx)).2.2.2.2.2.2
def pW(x:PM):Bool:=
 match x.q with
 |none=>true
 |some y=>y.2.fault !=0
theorem aP8{x:PM}{i:aO}{l:List ay}(h:ae w0 (tK x i::l) w)(hI:eU i)(hf:∀y,x.q=some y->lM i y.2):
  Calls prog 200 #[.pointer (some (tZ x.p 0))] w fun e w'=>e=.returned (.bool (!(pW x)))/\Below w.heap.size w w':=by
 obtain⟨p,q,b⟩:=x;cases q with
 |none=>exact(aEe (b:=b) h).mono fun e w' ⟨h1,h2⟩=>⟨h1,h2▸Below.refl _ _⟩
 |some y=>
  refine(aDo h.xI hI (hf y rfl)).mono fun e w' ⟨h1,h2⟩=>⟨h1.trans ?_,h2⟩
  simp[pW,bne]
def dJ(kb lk:Nat)(t:aG)(is:List aO)(up:Bool)(T:Nat):ay:=
 ay.ex fun x:KA×List PM×(Nat->bP)×List (List UInt8)×Int=>ay.all (ay.fact (x.1.lk=lk/\dE t is x.1 x.2.1 x.2.2.1 x.2.2.2.1 x.2.2.2.2 T T/\(up=true->∀y∈x.2.1,y.q.isSome=true))::(dC kb t x.1 x.2.1 x.2.2.1 x.2.2.2.1 x.2.2.2.2 T++lw x.2.1 is))
theorem lm.all{lk T:Nat}{up:Bool}(h:lm w0 kb lk t is l up T w):ae w0 (dJ kb lk t is up T::l) w:=by
 obtain⟨a,ms,ss,L,fu,h1,hA,h2,h3⟩:=h;refine ae.ex (a,ms,ss,L,fu) (ae.all ?_);refine ae.fact (P:=a.lk=lk/\dE t is a ms ss L fu T T/\(up=true->∀y∈ms,y.q.isSome=true)) ⟨h1,h2,h3⟩ ?_;show ae w0 ((dC kb t a ms ss L fu T++lw ms is)++l) w
 rwa[List.append_assoc]
theorem ae.AK{lk T:Nat}{up:Bool}(h:ae w0 (dJ kb lk t is up T::l) w):lm w0 kb lk t is l up T w:=by
 obtain⟨⟨a,ms,ss,L,fu⟩,h1⟩:=h.aRJ;have h2:ae w0 (ay.fact (a.lk=lk/\dE t is a ms ss L fu T T/\(up=true->∀y∈ms,y.q.isSome=true))::((dC kb t a ms ss L fu T++lw ms is)++l)) w:=h1.xI;obtain⟨⟨h3,h4,h5⟩,h6⟩:=h2.aRK;rw[List.append_assoc]at h6;exact⟨a,ms,ss,L,fu,h3,h6,h4,h5⟩
end
end Go.Proofs.YtfjkpigldogkeaaGreatDoor
