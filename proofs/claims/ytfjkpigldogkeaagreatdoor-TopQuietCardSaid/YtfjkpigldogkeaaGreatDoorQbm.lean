/- Contracts of functions that TopQuiet reaches, under the conditions that each states. -/
import Derived.Test.YtfjkpigldogkeaaGreatDoorQar
import Derived.Test.YtfjkpigldogkeaaGreatDoorQbl
import Derived.Shelf.Strings.SlTrimAscii
set_option linter.all false
set_option maxRecDepth 100000
set_option maxHeartbeats 40000000
namespace Go.Proofs.YtfjkpigldogkeaaGreatDoor
open Go.RowKit Go.ChangeShapes Go.WideShapes Go.ChangeAt Go.Proofs.Tryz
theorem N8{s:ByteArray}(h:¬s=⟨#[]⟩):¬s.toList=[]:=by
 rw[ByteArray.toList_eq];intro e;obtain⟨a⟩:=s;exact h (by rw[show a= #[]from by simpa using e])
theorem aFs{s:ByteArray}(h:¬s=⟨#[]⟩):s.toList.isEmpty=false:=by
 have h1:=N8 h;cases hl:s.toList with
 |nil=>exact absurd hl h1
 |cons=>rfl
def aEQ:List UInt8:=[48,49,50,51,52,53,54,55,56,57]
structure qE (s:ByteArray) (d:Int):Prop where
 size:s.size=1
 trim:Lib.trimS s.data.toList aEQ=[]
 atoi:Lib.atoi s.data.toList=some d
 nn:0<=d
theorem aLj(s:ByteArray)(hs:s.size<=1000)(w:World):Calls prog 288 #[.string s,.string ⟨#[48,49,50,51,52,53,54,55,56,57]⟩] w fun e w'=>e=.returned (.string ⟨(Lib.trimS s.data.toList aEQ).toArray⟩)/\Below w.heap.size w w':=
 Any.strings_Trim_laid Tryz.aRg (by kernel_rfl) s _ w (by omega) (by decide) (ascii_of_all (by decide))
theorem aOJ(s:ByteArray)(d:Int)(hs:s.size<=18)(h:Lib.atoi s.data.toList=some d)(w:World):Calls prog 289 #[.string s] w fun e w'=>e=.returned (.tuple #[iV d,.nilIface])/\Below w.heap.size w w':=
 (Tryz.strconv_Atoi s d hs h w).mono fun e w' ⟨h1,t,h2⟩=>⟨h1,h2▸Go.Joins.below_bytesWorld _ w _ t (Nat.le_refl _)⟩
theorem aLR(s:ByteArray)(d:Int)(h:qE s d)(w:World):
  Calls prog 228 #[.string s] w fun e w'=>e=.returned (iV d)/\Below w.heap.size w w':=by
 have h1:=h.size;have i1:=hid (fun w=>aLj s (by omega) w);have i2:=hid (fun w=>aOJ s d (by omega) h.atoi w);have hne:¬s=⟨#[]⟩:=fun h=>by rw[h]at h1;cases h1
 have e1:=N8 hne;have e2:=aFs hne;rw[h.trim]at i1;clear h;go_enter func228,ntmps228;go_wp2_with fail;refine(i1.out _).mono ?_;rintro e w1⟨rfl,hb1⟩;have vw:=hid hb1;clear hb1;go_wp2_with fail;refine(i2.out _).mono ?_;rintro e w2⟨rfl,hb2⟩;have uz:=hid (ag vw.out hb2);clear hb2;go_wp2_with fail;go_ret;exact⟨rfl,uz.out⟩
theorem aME:(prog.info? 3).map (fun i=>(i.zero,i.size,i.bytes))=some (some (iV 0),1,8):=by kernel_rfl
theorem aGs:(prog.info? 9).map (fun i=>(i.zero,i.size,i.bytes))=some (some (.string ⟨#[]⟩),1,16):=by kernel_rfl
section
variable{w w' w0:World}{l:List ay}{m:Int}
theorem ae.lib(h:ae w0 l w)(hm:w0.cell? (tZ 0 0)=some (iV m)):w.cell? (tZ 0 0)=some (iV m):=
 (h.bel.cell (p:=⟨0,0,none⟩) (World.block_lt_of_cell? _ _ hm)).trans hm
structure lQ (t:ByteArray) (ss:List ByteArray) (ds:List Int):Prop where
 ne:¬t=⟨#[]⟩
 size:t.size<=1000
 cnt:Lib.countB t ⟨#[32]⟩+1=ss.length
 spl:Lib.splitB ⟨#[32]⟩ 0 (Lib.countB t ⟨#[32]⟩) t=ss
 len:ds.length=ss.length
 most:ss.length<=100
 Hw:∀(k:Nat)(s:ByteArray)(d:Int),ss[k]? =some s->ds[k]? =some d->qE s d
theorem aBW(hm:w0.cell? (tZ 0 0)=some (iV m))(h:ae w0 l w){t:ByteArray}{ss:List ByteArray}{ds:List Int}(ht:lQ t ss ds)(n:Int)(hn:n<0\/n=(ds.length:Int)):
  Calls prog 155 #[.string t,iV n] w fun e w'=>∃A c,e=.returned (.tuple #[.slice A ds.length c,.bool true])/\ae w0 (aA 3 1 A ds.length c (ds.map iV)::l) w':=by
 have i1:=hid (Tryz.strings_Split t ⟨#[32]⟩ m w (by have:=ht.size;omega) (h.lib hm) (by decide));obtain⟨N,hN⟩:∃N,ss.length=N:=⟨_,rfl⟩;rw[ht.cnt,ht.spl,hN]at i1;have hA:=h.made (T:=9) (xs:=ss.map Value.string);obtain⟨w1,hw1⟩:∃w1,w.alloc (.cells (ss.map Value.string).toArray 9)=w1:=⟨_,rfl⟩;rw[hw1]at i1 hA;obtain⟨sb,Eg⟩:∃sb,w.heap.size=sb:=⟨_,rfl⟩;rw[Eg]at i1 hA;have Kr:ds.length=N:=ht.len.trans hN;have hne:=ht.ne;have e1:=N8 hne;have e2:=aFs hne;have hNm:N<=100:=hN▸ht.most;have HD:=hid ht.Hw;have HSS:=hid hN;have HDS:=hid Kr;have Fj:Hid (ae w0 (aA 3 1 none 0 0 ((ds.take 0).map iV)::aj sb 9 (ss.map Value.string)::l) w1):=hid (hA.uX _ _);obtain⟨i0,hi0,hz0,hz1,hz2⟩:=info_parts aME;have hn':n<0\/(¬n<0/\n=(N:Int)):=by omega
 rw[Kr];clear h ht hN Kr hw1 Eg hA hn;go_enter func155,ntmps155;go_wp2_with fail;refine i1.out.mono ?_;rintro e wx⟨rfl,rfl⟩;clear i1;go_wp2_with fail;go_loopw [17,6] (fun v17 v6 wr=>∃(k:Nat) (A:Option Addr) (c:Nat),k<=N/\v17=iV (k:Int)/\v6=.slice A k c/\Hid (ae w0 (aA 3 1 A k c ((ds.take k).map iV)::aj sb 9 (ss.map Value.string)::l) wr)) (fun v17 _ _=>N-(Lib.intOf v17).toNat)
 case atStart=>exact⟨0,none,0,by omega,rfl,rfl,Fj⟩
 clear Fj;obtain⟨k,A,c,hk,rfl,rfl,HR⟩:=hrel;by_cases hkn:k<N
 ·obtain⟨s,hs⟩:∃s,ss[k]? =some s:=⟨_,List.getElem?_eq_getElem (by rw[HSS.out];exact hkn)⟩;obtain⟨d,hd⟩:∃d,ds[k]? =some d:=⟨_,List.getElem?_eq_getElem (by rw[HDS.out];exact hkn)⟩;have i2:=hid (fun w=>aLR s d (HD.out k s d hs hd) w);have c0:wr.cell? (tZ sb k)=some (.string s):=(HR.out.at_ 1 rfl).blk.cellAt (by rw[List.getElem?_map,hs];rfl);have q1:(0:Int)<=(k:Int):=Int.natCast_nonneg _;have q2:(k:Int)<(N:Int):=by omega
  have HTK:Hid ((ds.take (k+1)).map iV=(ds.take k).map iV++[iV d]):=hid (by rw[List.take_add_one,hd,List.map_append];rfl);have hd0:decide (d<0)=false:=decide_eq_false (by have:=(HD.out k s d hs hd).nn;omega);clear hs hd;go_wp2_with fail;refine(i2.out _).mono ?_;rintro e w3⟨rfl,hb3⟩;have H3:=hid (HR.out.belowS hb3);have H4:=hid (H3.out.alloc (.cells #[iV d] 3));have vW:=ai.new w3 #[iV d] 3 1 rfl;have ho:=H4.out.own;clear hb3 i2 c0;go_wp2_with (at_builtin;refine gX _ rfl (.tmp 25) (.tmp 27) _ rfl 3 i0 _ 1 8 underlying53 hi0 hz0 hz1 hz2 rfl (by decide) _ k _ rfl ho _ _ 1 1 _ rfl vW (by simp[Value.oneCell']) (by unfold maxLen;omega) (by omega) (k+1) rfl ?_;intro A9 c9 w9 xM wG zT;have H9:=hid (H4.out.uG xM wG zT);clear xM wG zT)
  go_roundw;case rel=>exact⟨k+1,A9,c9,by omega,by go_num,rfl,hid (by rw[HTK.out];exact H9.out)⟩
  case measure=>simp[Lib.intOf];omega
 ·obtain rfl:k=N:=by omega
  have HQ:Hid (ae w0 (aA 3 1 A k c (ds.map iV)::l) wr):=hid (by
   have h1:=HR.out;rw[List.take_of_length_le (by rw[HDS.out];exact Nat.le_refl _)]at h1;exact h1.pn 2 [0])
  clear HR;rcases hn' with hq|⟨hq,rfl⟩
  ·have hd1:decide (n<0)=true:=decide_eq_true hq;go_wp2_with fail;go_ret2;exact⟨A,c,rfl,HQ.out⟩
  ·have hd1:decide ((k:Int)<0)=false:=decide_eq_false (by omega);go_wp2_with fail;go_ret2;exact⟨A,c,rfl,HQ.out⟩
end
theorem aFg{P:Program}{w:World}{b:Nat}{l:List (Value×Value)}{d:TypeDesc}{t k e:TypeId}{key v:Value}{o:Oper}{a:Act}{next:Act->World->Prop}{Q:Exit->Act->World->Prop}
(ht:P.underlying t=some (.map k e))(hd:P.underlying k=some d)(hk:MapKept.IsKey d key)(h:jO w b l)(hf:kL d key l=some none)
(hK:∀w',jO w' b (l++[(key,v)])->w.grownBy w' (some b)->next (a.put o.dst undef) w'):
  Oper.upon P o a next Q (((Instr.mapUpdate t (.map (some b)) key v).run P w).andThen fun _ w'=>.ok .skip w'):=by
 obtain⟨w',hrun,r1,r2⟩:=aCr (v:=v) ht hd hk h hf;rw[hrun];exact hK w' r1 r2
def dN(sb:Nat)(v1 v2 v3 v4 v5 v6:Value):List (Value×Value):=
 [(.string ⟨#[102,114,97,109,101]⟩,.agg #[iV 2,.bool false,.func (.func 75) #[.pointer (some (tZ sb 0))] #[],.nilFunc]),
  (.string ⟨#[112,97,114,116]⟩,.agg #[iV 3,.bool false,.func (.func 76) #[.pointer (some (tZ sb 0))] #[],.nilFunc]),
  (.string ⟨#[119,105,110,100,111,119]⟩,.agg #[iV 3,.bool false,.func (.func 77) #[.pointer (some (tZ sb 0))] #[],.nilFunc]),
  (.string ⟨#[99,104,97,110,110,101,108]⟩,.agg #[iV 3,.bool false,.func (.func 78) #[.pointer (some (tZ sb 0))] #[],.nilFunc]),
  (.string ⟨#[99,111,100,101]⟩,.agg #[iV (-1),.bool false,.nilFunc,.func (.func 79) #[.pointer (some (tZ sb 0))] #[]]),
  (.string ⟨#[105,109,97,103,101]⟩,.agg #[iV 7,.bool false,.func (.func 80) #[.pointer (some (tZ sb 0))] #[],.nilFunc]),
  (.string ⟨#[109,97,107,101]⟩,.agg #[iV (-1),.bool false,.nilFunc,.func (.func 81) #[.pointer (some (tZ sb 0))] #[]]),
  (.string ⟨#[108,111,97,100]⟩,.agg #[iV 2,.bool true,.func (.func 82) #[.pointer (some (tZ sb 0))] #[],.nilFunc]),
  (.string ⟨#[115,116,101,112]⟩,.agg #[iV 1,.bool true,.func (.func 83) #[.pointer (some (tZ sb 0))] #[],.nilFunc]),
  (.string ⟨#[112,111,119,101,114]⟩,.agg #[iV 1,.bool true,v1,.nilFunc]),
  (.string ⟨#[102,117,115,101]⟩,.agg #[iV 1,.bool true,v2,.nilFunc]),
  (.string ⟨#[108,111,115,101]⟩,.agg #[iV 2,.bool true,v3,.nilFunc]),
  (.string ⟨#[116,119,105,99,101]⟩,.agg #[iV 2,.bool true,v4,.nilFunc]),
  (.string ⟨#[115,119,97,112]⟩,.agg #[iV 3,.bool true,v5,.nilFunc]),
  (.string ⟨#[115,112,111,105,108]⟩,.agg #[iV 4,.bool true,v6,.nilFunc]),
  (.string ⟨#[115,101,110,100]⟩,.agg #[iV (-1),.bool true,.nilFunc,.func (.func 91) #[.pointer (some (tZ sb 0))] #[]]),
  (.string ⟨#[114,117,110,115]⟩,.agg #[iV 1,.bool true,.func (.func 92) #[.pointer (some (tZ sb 0))] #[],.nilFunc]),
  (.string ⟨#[114,101,99,111,114,100]⟩,.agg #[iV 1,.bool true,.func (.func 93) #[.pointer (some (tZ sb 0))] #[],.nilFunc]),
  (.string ⟨#[104,97,115]⟩,.agg #[iV 1,.bool true,.func (.func 94) #[.pointer (some (tZ sb 0))] #[],.nilFunc]),
  (.string ⟨#[112,104,97,115,101]⟩,.agg #[iV 0,.bool true,.func (.func 95) #[.pointer (some (tZ sb 0))] #[],.nilFunc]),
  (.string ⟨#[119,97,105,116,115]⟩,.agg #[iV 1,.bool true,.func (.func 96) #[.pointer (some (tZ sb 0))] #[],.nilFunc]),
  (.string ⟨#[115,101,110,116]⟩,.agg #[iV 1,.bool true,.func (.func 97) #[.pointer (some (tZ sb 0))] #[],.nilFunc]),
  (.string ⟨#[115,119,105,116,99,104,101,115]⟩,.agg #[iV 1,.bool true,.func (.func 98) #[.pointer (some (tZ sb 0))] #[],.nilFunc])]
structure tX where
 fr:Int
 A1:Option Addr
 n1:Nat
 c1:Nat
 A2:Option Addr
 n2:Nat
 c2:Nat
 A3:Option Addr
 n3:Nat
 c3:Nat
 tr:Int
 Ac:Option Addr
 nc:Nat
 cc:Nat
 Ai:Option Addr
 ni:Nat
 ci:Nat
 k:Option Addr
 r:Option Addr
 m:Nat
def qH(x:tX):List Value:=[iV x.fr,.slice x.A1 x.n1 x.c1,.slice x.A2 x.n2 x.c2,.slice x.A3 x.n3 x.c3,iV x.tr,.slice x.Ac x.nc x.cc,.slice x.Ai x.ni x.ci,.pointer x.k,.pointer x.r,.bool false,.map (some x.m)]
section
variable{w w' w0:World}{l:List ay}
theorem aKU(sb f:Nat)(w:World):
  Calls prog 84 #[.pointer (some (tZ sb 0)),.func (.func f) #[] #[]] w fun e w'=>∃a b,e=.returned (.func (.func 158) #[] #[.pointer (some (tZ a 0)),.pointer (some (tZ b 0))])/\Below w.heap.size w w':=by
 go_enter func84,ntmps84;go_wp2_with fail;go_ret;exact⟨_,_,rfl,((Below.refl _ w).alloc (Nat.le_refl _) _).alloc (by simp) _⟩
theorem aMN(h:ae w0 l w):
  Calls prog 30 #[] w fun e w'=>∃(sb mb:Nat) (v1 v2 v3 v4 v5 v6:Value),e=.returned (.pointer (some (tZ sb 0)))/\ae w0 (aj sb 155 (qH ⟨0,none,0,0,none,0,0,none,0,0,0,none,0,0,none,0,0,none,none,mb⟩)::pM mb (dN sb v1 v2 v3 v4 v5 v6)::l) w':=by
 have hmm:= @run_makeMap prog;have h1:=h.made (T:=155) (xs:=[iV 0,.slice none 0 0,.slice none 0 0,.slice none 0 0,iV 0,.slice none 0 0,.slice none 0 0,.pointer none,.pointer none,.bool false,.map none]);obtain⟨w1,hw1⟩:∃w1,w.alloc (.cells #[iV 0,.slice none 0 0,.slice none 0 0,.slice none 0 0,iV 0,.slice none 0 0,.slice none 0 0,.pointer none,.pointer none,.bool false,.map none] 155)=w1:=⟨_,rfl⟩;rw[show(w.alloc (.cells ([iV 0,.slice none 0 0,.slice none 0 0,.slice none 0 0,iV 0,.slice none 0 0,.slice none 0 0,.pointer none,.pointer none,.bool false,.map none]:List Value).toArray 155))=w1 from hw1]at h1;obtain⟨sb,Eg⟩:∃sb,w.heap.size=sb:=⟨_,rfl⟩;rw[Eg]at h1;have h2:=h1.aQp;obtain⟨mb,hmb⟩:∃mb,w1.heap.size=mb:=⟨_,rfl⟩;rw[hmb]at h2;have H1:=hid h2;have q8:True:=trivial;have q9:True:=trivial;have i1:=hid (aKU sb);clear h h1 h2;go_enter func30,ntmps30;go_wp2_with (first|(refine aFg underlying153 underlying9 trivial H1.out.map (by kernel_rfl) ?_;intro w4 Gf hg4;replace H1:=hid (H1.out.aQq Gf hg4);simp only[List.nil_append,List.cons_append]at H1;replace q8:w4.cell? (tZ sb 10)=some (.map none):=(H1.out.at_ 1 rfl).blk.cellAt rfl;replace q9:=(H1.out.at_ 1 rfl).blk.frozen 10;clear Gf hg4)|(go_at_call 84;refine(i1.out _ _).mono ?_;rintro e w4 ⟨a4,b4,rfl,hb4⟩;replace H1:=hid (H1.out.belowS hb4);clear hb4))
 go_ret;have h5:=((H1.out.at_ 1 rfl).store 10 (.map (some mb)));exact⟨sb,mb,_,_,_,_,_,_,rfl,h5⟩
end
theorem aGq(w:World):Calls prog 228 #[.string ⟨#[121,105,101,108,100]⟩] w fun e w'=>e=.returned (iV (-1))/\Below w.heap.size w w':=by
 have i1:=hid (fun w=>aLj ⟨#[121,105,101,108,100]⟩ (by decide) w);rw[show(⟨(Lib.trimS (⟨#[121,105,101,108,100]⟩:ByteArray).data.toList aEQ).toArray⟩:ByteArray)=⟨#[121,105,101,108,100]⟩ by kernel_rfl]at i1;go_enter func228,ntmps228;go_wp2_with fail;refine(i1.out _).mono ?_;rintro e w1⟨rfl,hb1⟩;have vw:=hid hb1;clear hb1;go_wp2_with fail;go_ret;exact⟨rfl,vw.out⟩
theorem aDB(m:Int)(w:World)(hm:w.cell? (tZ 0 0)=some (iV m)):Calls prog 151 #[.string ⟨#[121,105,101,108,100]⟩,.string ⟨#[32]⟩] w fun e w'=>e=.returned (.slice (some (tZ w.heap.size 0)) 1 1)/\w'=w.alloc (.cells #[.string ⟨#[121,105,101,108,100]⟩] 9):=
 (Tryz.strings_Split ⟨#[121,105,101,108,100]⟩ ⟨#[32]⟩ m w (by decide) hm (by decide)).mono fun e w' ⟨h1,h2⟩=>⟨h1.trans (by kernel_rfl),h2.trans (by kernel_rfl)⟩
theorem aFp{w w0:World}{l:List ay}{m:Int}(hm:w0.cell? (tZ 0 0)=some (iV m))(h:ae w0 l w):
  Calls prog 155 #[.string ⟨#[121,105,101,108,100]⟩,iV (-1)] w fun e w'=>∃A n c b,e=.returned (.tuple #[.slice A n c,.bool b])/\ae w0 l w':=by
 have i1:=hid (aDB m w (h.lib hm));have hA:=h.made (T:=9) (xs:=[.string ⟨#[121,105,101,108,100]⟩]);obtain⟨w1,hw1⟩:∃w1,w.alloc (.cells #[.string ⟨#[121,105,101,108,100]⟩] 9)=w1:=⟨_,rfl⟩;rw[show(w.alloc (.cells ([.string ⟨#[121,105,101,108,100]⟩]:List Value).toArray 9))=w1 from hw1]at hA;rw[hw1]at i1;obtain⟨gb,hgb⟩:∃gb,w.heap.size=gb:=⟨_,rfl⟩;rw[hgb]at hA i1;have s0:w1.cell? (tZ gb 0)=some (.string ⟨#[121,105,101,108,100]⟩):=hA.blk.cellAt rfl;have i2:=hid (aGq w1);have H1:=hid hA.drop;clear h hA hw1 hgb hm;go_enter func155,ntmps155;go_wp2_with fail;refine i1.out.mono ?_;rintro e wx⟨rfl,rfl⟩;go_wp2_with fail;refine wp_loop_rounds 1 ?_;rw[rounds_succ];go_wp2_with fail;refine i2.out.mono ?_;rintro e w2⟨rfl,hb2⟩;have H2:=hid (H1.out.belowS hb2);clear hb2 i1 i2 s0;go_wp2_with fail;go_ret2;exact⟨none,0,0,false,rfl,H2.out⟩
theorem aN5(w:World):Calls prog 290 #[iV 0] w fun e w'=>e=.returned (.bool true)/\w=w':=by
 go_enter func290,ntmps290;go_wp2_with fail;go_ret;exact⟨rfl,rfl⟩
theorem aIF(w:World):Calls prog 226 #[iV 0] w fun e w'=>e=.returned (.bool false)/\w=w':=by
 go_enter func226,ntmps226;go_wp2_with fail;go_ret;exact⟨rfl,rfl⟩
theorem aEa(w:World):Calls prog 225 #[.agg #[iV 0,iV 0]] w fun e w'=>e=.returned (.bool true)/\Below w.heap.size w w':=by
 have i1:=hid aN5;have i2:=hid aIF;have hb:Hid (Below w.heap.size w (w.alloc (.cells #[iV 0,iV 0] 247))):=hid (ah _ _);go_enter func225,ntmps225;go_wp2_with fail;refine(i1.out _).mono ?_;rintro e w1⟨rfl,rfl⟩;go_wp2_with fail;refine(i2.out _).mono ?_;rintro e w1⟨rfl,rfl⟩;go_wp2_with fail;go_ret;exact⟨rfl,hb.out⟩
def pV:List Value:=[.string ⟨#[121,105,101,108,100]⟩,.bool false,.string ⟨#[112,117,115,104]⟩,.bool true,.string ⟨#[100,114,111,112]⟩,.bool false,.string ⟨#[100,117,112]⟩,.bool false,.string ⟨#[115,119,97,112]⟩,.bool false,.string ⟨#[97,100,100]⟩,.bool false,.string ⟨#[115,117,98]⟩,.bool false,.string ⟨#[109,117,108]⟩,.bool false,.string ⟨#[108,101,115,115]⟩,.bool false,.string ⟨#[115,97,109,101]⟩,.bool false,.string ⟨#[108,111,97,100]⟩,.bool true,.string ⟨#[115,116,111,114,101]⟩,.bool true,.string ⟨#[106,117,109,112]⟩,.bool true,.string ⟨#[122,101,114,111]⟩,.bool true,.string ⟨#[115,101,110,100]⟩,.bool true,.string ⟨#[103,101,116]⟩,.bool true,.string ⟨#[99,111,110,102,105,114,109]⟩,.bool false,.string ⟨#[104,97,108,116]⟩,.bool false,.string ⟨#[110,111,119]⟩,.bool false]
def aO9:List Value:=[.string ⟨#[]⟩,.bool false,.string ⟨#[]⟩,.bool false,.string ⟨#[]⟩,.bool false,.string ⟨#[]⟩,.bool false,.string ⟨#[]⟩,.bool false,.string ⟨#[]⟩,.bool false,.string ⟨#[]⟩,.bool false,.string ⟨#[]⟩,.bool false,.string ⟨#[]⟩,.bool false,.string ⟨#[]⟩,.bool false,.string ⟨#[]⟩,.bool false,.string ⟨#[]⟩,.bool false,.string ⟨#[]⟩,.bool false,.string ⟨#[]⟩,.bool false,.string ⟨#[]⟩,.bool false,.string ⟨#[]⟩,.bool false,.string ⟨#[]⟩,.bool false,.string ⟨#[]⟩,.bool false,.string ⟨#[]⟩,.bool false]
abbrev sK:TypeId:=344
theorem aKQ:(prog.info? sK).map (·.size)=some 38:=by kernel_rfl
theorem aI5(cs:Array Value)(h:cs.size=38):(prog.info? sK).map (·.size)=some cs.size:=by rw[h];exact aKQ
theorem aNV(w:World):Calls prog 223 #[] w fun e w'=>e=.returned (.agg pV.toArray)/\Below w.heap.size w w':=by
 obtain⟨Z,hZ⟩:∃Z:Array Value,aO9.toArray=Z:=⟨_,rfl⟩;have hZs:Z.size=38:=by rw[<-hZ];rfl
 have FW:pV.toArray.size=38:=rfl;have BG:pV.toArray.all (·.oneCell')=true:=by simp[pV,Value.oneCell']
 go_enter func223,ntmps223;go_upto_region 1 with fail
 change Code.wp _ _ _ _ (w.alloc (.cells aO9.toArray sK))
 rw[hZ];go_wp2_with (refine wpList_store_row rfl sK _ _ rfl w.heap.size pV.toArray rfl (by rfl) sK Z (heap_alloc_new w _) (aI5 _ FW) (by rw[hZs,FW]) BG ?_;rw[World.setRow_alloc_new])
 refine bodyPost_ret (v:=.agg pV.toArray) (results_cell_row (P:=prog) (fn:=Tryz.f223) (p:=0) (ty:=sK) (by rfl) _ _ w.heap.size sK pV.toArray (0,0) _ (by rfl) (heap_alloc_new w _) underlying344 (by rfl) (aI5 _ FW)) rfl ?_;exact⟨rfl,(Below.refl _ _).alloc (Nat.le_refl _) _⟩
theorem aJ7(w:World):(Instr.index 344 (.agg pV.toArray) (iV 0)).run prog w=.ok (.agg #[.string ⟨#[121,105,101,108,100]⟩,.bool false]) w:=by kernel_rfl
theorem aIT(m:Int)(w:World)(hm:w.cell? (tZ 0 0)=some (iV m)):Calls prog 222 #[.string ⟨#[121,105,101,108,100]⟩,.string ⟨#[32]⟩] w fun e w'=>e=.returned (.tuple #[.string ⟨#[121,105,101,108,100]⟩,.string ⟨#[]⟩,.bool false])/\Below w.heap.size w w':=
 (Tryz.strings_Cut ⟨#[121,105,101,108,100]⟩ ⟨#[32]⟩ m w (by decide) hm).mono fun e w' ⟨h1,n,h2⟩=>⟨h1.trans (by kernel_rfl),h2▸bW (Below.refl _ _) n⟩
theorem aMZ(m:Int)(w:World)(hm:w.cell? (tZ 0 0)=some (iV m)):
  Calls prog 152 #[.string ⟨#[121,105,101,108,100]⟩] w fun e w'=>e=.returned (.tuple #[.agg #[iV 0,iV 0],.bool true])/\Below w.heap.size w w':=by
 have i0:=hid aNV;have i1:=hid aEa;obtain⟨w1,hw1⟩:∃w1,w.alloc (.cells #[iV 0,iV 0] 247)=w1:=⟨_,rfl⟩;have hb1:Below w.heap.size w w1:=hw1▸ah _ _;have hB:=ak.new w 247 [iV 0,iV 0];rw[show w.alloc (.cells ([iV 0,iV 0]:List Value).toArray 247)=w1 from hw1]at hB;have i2:=hid (aIT m w1 ((hb1.cell (p:=⟨0,0,none⟩) (World.block_lt_of_cell? _ _ hm)).trans hm));have vw:=hid hb1;have HI:=hid hB;have HX:=hid aJ7;obtain⟨ib,hib⟩:∃ib,w.heap.size=ib:=⟨_,rfl⟩;have HIB:=hid hib;rw[hib]at HI;obtain⟨KA,Nv⟩:∃KA:Array Value,pV.toArray=KA:=⟨_,rfl⟩;rw[Nv]at i0 HX;clear hm hb1 hB Nv;go_enter func152,ntmps152;go_wp2_with fail;refine i2.out.mono ?_;rintro e w2⟨rfl,hb2⟩;have uz:=hid (ag vw.out hb2);have HI2:=hid (HI.out.belowS hb2);clear hb2 HI hw1;go_wp2_with fail;refine(i0.out _).mono ?_;rintro e w3⟨rfl,hb3⟩;have vk:=hid (ag uz.out hb3);have HI3:=hid (HI2.out.belowS hb3);clear hb3 HI2;go_wp2_with fail;refine wp_loop_rounds 1 ?_;rw[rounds_succ];have hx:=HX.out w3;go_wp2_with fail;have hX:=ak.new (w3.alloc (.cells #[.string ⟨#[121,105,101,108,100]⟩,.bool false] 343)) 247 [iV 0,iV 0];rw[World.size_alloc]at hX;refine(i1.out _).mono ?_;rintro e w4⟨rfl,hb4⟩;have Bf:=hX.belowS hb4;have CW:=((HI3.out.alloc _).alloc _).belowS hb4;have x0:w4.cell? (tZ (w3.heap.size+1) 0)=some (iV 0):=Bf.cellAt rfl;have x1:w4.cell? (tZ (w3.heap.size+1) 1)=some (iV 0):=Bf.cellAt rfl
 have z0:w4.cell? (tZ ib 0)=some (iV 0):=CW.cellAt rfl;have z1:w4.cell? (tZ ib 1)=some (iV 0):=CW.cellAt rfl;have zf:=CW.frozen;have vI:Hid (Below w.heap.size w w4):=hid (ag (ag vk.out (((Below.refl _ w3).alloc (Nat.le_refl _) _).alloc (by simp) _)) hb4);have HI4:=hid CW;clear hb4 hX Bf CW hx HI3;go_wp2_with fail;have Jm:=(HI4.out.uh 0 (iV 0)).uh 1 (iV 0);have I4:=(vI.out.setCell (p:=⟨ib,0,none⟩) (Nat.le_of_eq HIB.out) (iV 0)).setCell (p:=⟨ib,1,none⟩) (Nat.le_of_eq HIB.out) (iV 0);generalize (w4.setCell (tZ ib 0) (iV 0)).setCell (tZ ib 1) (iV 0)=w5 at Jm I4 ⊢;have q0:w5.cell? (tZ ib 0)=some (iV 0):=Jm.cellAt rfl;have q1:w5.cell? (tZ ib 1)=some (iV 0):=Jm.cellAt rfl;refine bodyPost_ret (v:=.tuple #[.agg #[iV 0,iV 0],.bool true]) (by simp[results,results152,go_sem,q0,q1]) rfl ?_;exact⟨rfl,I4⟩
theorem aHn:(prog.info? 247).map (fun i=>(i.zero,i.size,i.bytes))=some (some (.agg #[iV 0,iV 0]),2,16):=by kernel_rfl
theorem aJx:(prog.info? 5).map (fun i=>(i.zero,i.size,i.bytes))=some (some (.int .u8 0),1,1):=by kernel_rfl
section
variable{w w' w0:World}{l:List ay}{c:Nat}
theorem aNX{g:Nat}(h:ae w0 l w)(c0:w.cell? (tZ g 0)=some (iV 0))(c1:w.cell? (tZ g 1)=some (iV 0)):
  Calls prog 153 #[.slice (some (tZ g 0)) 1 c] w fun e w'=>∃A' c',e=.returned (.tuple #[.slice A' 1 c',iV 0])/\ae w0 (aA 5 1 A' 1 c' [.int .u8 0]::l) w':=by
 have i1:=hid aEa;have i2:=hid aIF;obtain⟨i0,hi0,hz0,hz1,hz2⟩:=info_parts aJx;have HA:=hid h;clear h;go_enter func153,ntmps153;go_wp2_with fail;refine wp_loop_rounds 2 ?_;rw[rounds_succ];go_wp2_with fail;have h1:=HA.out.made (T:=247) (xs:=[iV 0,iV 0]);obtain⟨w1,hw1⟩:∃w1,w.alloc (.cells #[iV 0,iV 0] 247)=w1:=⟨_,rfl⟩;rw[show(w.alloc (.cells ([iV 0,iV 0]:List Value).toArray 247))=w1 from hw1]at h1;rw[hw1];obtain⟨ib,hib⟩:∃ib,w.heap.size=ib:=⟨_,rfl⟩;rw[hib]at h1 ⊢;have H1:=hid h1;clear h1 hw1 c0 c1 HA;refine(i1.out _).mono ?_;rintro e w2⟨rfl,hb2⟩;have H2:=hid (H1.out.belowS hb2);have d0:w2.cell? (tZ ib 0)=some (iV 0):=H2.out.blk.cellAt rfl;have H3:=hid ((H2.out.uX 5 1).alloc (.cells #[.int .u8 0] 5));have vW:=ai.new w2 #[.int .u8 0] 5 1 rfl;have ho:=H3.out.own;clear hb2;go_wp2_with (at_builtin;refine gX _ rfl (.tmp 16) (.tmp 20) _ rfl 5 i0 _ 1 1 underlying37 hi0 hz0 hz1 hz2 rfl (by decide) _ 0 _ rfl ho _ _ 1 1 _ rfl vW (by simp[Value.oneCell']) (by decide) (by decide) 1 rfl ?_;intro A9 c9 w9 xM wG zT;have H9:=hid (H3.out.uG xM wG zT);have e0:w9.cell? (tZ ib 0)=some (iV 0):=(H9.out.at_ 1 rfl).blk.cellAt rfl;clear xM wG zT)
 refine(i2.out _).mono ?_;rintro e wx⟨rfl,rfl⟩;go_wp2_with fail;rw[rounds_succ];go_wp2_with fail;go_ret2;exact⟨A9,c9,rfl,H9.out.pn 2 [0]⟩
end
theorem aF1(m:Int)(w:World)(hm:w.cell? (tZ 0 0)=some (iV m)):Calls prog 151 #[.string ⟨#[121,105,101,108,100]⟩,.string ⟨#[44,32]⟩] w fun e w'=>e=.returned (.slice (some (tZ w.heap.size 0)) 1 1)/\w'=w.alloc (.cells #[.string ⟨#[121,105,101,108,100]⟩] 9):=
 (Tryz.strings_Split ⟨#[121,105,101,108,100]⟩ ⟨#[44,32]⟩ m w (by decide) hm (by decide)).mono fun e w' ⟨h1,h2⟩=>⟨h1.trans (by kernel_rfl),h2.trans (by kernel_rfl)⟩
section
variable{w w' w0:World}{l:List ay}{m0:Int}{sb:Nat}
theorem aKw(hm:w0.cell? (tZ 0 0)=some (iV m0))(x:tX)(h:ae w0 (aj sb 155 (qH x)::l) w):
  Calls prog 79 #[.pointer (some (tZ sb 0)),.string ⟨#[121,105,101,108,100]⟩] w fun e w'=>e=.returned (.tuple #[.string ⟨#[111,107]⟩,iV 0])/\∃A c,ae w0 (aj sb 155 (qH {x with Ac:=A,nc:=1,cc:=c})::aA 5 1 A 1 c [.int .u8 0]::l) w':=by
 have i1:=hid (aF1 m0 w (h.lib hm));have hA:=h.made (T:=9) (xs:=[.string ⟨#[121,105,101,108,100]⟩]);obtain⟨w1,hw1⟩:∃w1,w.alloc (.cells #[.string ⟨#[121,105,101,108,100]⟩] 9)=w1:=⟨_,rfl⟩;rw[show(w.alloc (.cells ([.string ⟨#[121,105,101,108,100]⟩]:List Value).toArray 9))=w1 from hw1]at hA;rw[hw1]at i1;obtain⟨gb,hgb⟩:∃gb,w.heap.size=gb:=⟨_,rfl⟩;rw[hgb]at hA i1;have s0:w1.cell? (tZ gb 0)=some (.string ⟨#[121,105,101,108,100]⟩):=hA.blk.cellAt rfl;have i2:=hid (aMZ m0 w1 (hA.lib hm));have H1:=hid hA;obtain⟨i0,hi0,hz0,hz1,hz2⟩:=info_parts aHn;obtain⟨fr,A1,n1,c1,A2,n2,c2,A3,n3,c3,tr,Ac,nc,cc,Ai,ni,ci,k,r,m⟩:=x;simp only[qH]at H1 ⊢;clear h hA hw1 hgb hm;go_enter func79,ntmps79;go_wp2_with fail;refine i1.out.mono ?_;rintro e wx⟨rfl,rfl⟩;go_wp2_with fail;refine wp_loop_rounds 2 ?_;rw[rounds_succ];go_wp2_with fail;refine i2.out.mono ?_;rintro e w2⟨rfl,hb2⟩;have H2:=hid (H1.out.belowS hb2);clear hb2 i1 i2 s0 H1;go_wp2_with fail;obtain⟨cap,hcap⟩:∃cap,(Question.appendCap 1 0 247).cut (w2.tape w2.drawn (Question.appendCap 1 0 247))=cap:=⟨_,rfl⟩;rw[hcap];clear hcap;have hX:ak (((w2.alloc (.cells #[iV 0,iV 0] 247)).alloc (.cells #[iV 0,iV 0] 247)).alloc (.cells (#[iV 0,iV 0]++Builtin.zeroCells #[iV 0,iV 0] (cap-1)) 247)).drew (w2.heap.size+1+1) 247 ([iV 0,iV 0]++(Builtin.zeroCells #[iV 0,iV 0] (cap-1)).toList):=by
  have h9:=ak.new ((w2.alloc (.cells #[iV 0,iV 0] 247)).alloc (.cells #[iV 0,iV 0] 247)) 247 ([iV 0,iV 0]++(Builtin.zeroCells #[iV 0,iV 0] (cap-1)).toList);rw[show(([iV 0,iV 0]:List Value)++(Builtin.zeroCells #[iV 0,iV 0] (cap-1)).toList).toArray= #[iV 0,iV 0]++Builtin.zeroCells #[iV 0,iV 0] (cap-1)from by simp,World.size_alloc,World.size_alloc]at h9;exact h9
 have h3:=(((H2.out.alloc (.cells #[iV 0,iV 0] 247)).alloc (.cells #[iV 0,iV 0] 247)).alloc (.cells (#[iV 0,iV 0]++Builtin.zeroCells #[iV 0,iV 0] (cap-1)) 247)).drew;obtain⟨w3,hw3⟩:∃w3,(((w2.alloc (.cells #[iV 0,iV 0] 247)).alloc (.cells #[iV 0,iV 0] 247)).alloc (.cells (#[iV 0,iV 0]++Builtin.zeroCells #[iV 0,iV 0] (cap-1)) 247)).drew=w3:=⟨_,rfl⟩;rw[hw3]at hX h3 ⊢;obtain⟨g3,hg3⟩:∃g3,w2.heap.size+1+1=g3:=⟨_,rfl⟩;rw[hg3]at hX ⊢;have i3:=hid (aNX (c:=cap) h3.drop (hX.cellAt rfl) (hX.cellAt rfl));clear hw3 hg3 hX h3;rw[rounds_succ];go_wp2_with fail;refine i3.out.mono ?_;rintro e w4⟨A4,c4,rfl,h4⟩;have f1:w4.cell? (tZ sb 5)=some (.slice Ac nc cc):=(h4.at_ 1 rfl).blk.cellAt rfl;have ff:=(h4.at_ 1 rfl).blk.frozen;have H5:=hid ((h4.at_ 1 rfl).store 5 (.slice A4 1 c4));clear h4 i3 H2;go_wp2_with fail;go_ret2;exact⟨rfl,A4,c4,H5.out⟩
end
section
variable{w:World}{A:Option Addr}{n c:Nat}{xs:List Value}
theorem aCf:(prog.info? 57).map (fun i=>(i.zero,i.size,i.bytes))=some (some (.agg #[iV 0,.slice none 0 0,iV 0,.slice none 0 0,.bool false,iV 0,.slice none 0 0,.slice none 0 0,iV 0,iV 0,.bool false]),11,152):=by kernel_rfl
theorem aHp(h:ai w w.heap.size 11 A n xs)(h1:∀u∈xs,u.oneCell'=true)(hn:n<=100000):
  Calls prog 66 #[.slice A n c] w fun e w'=>∃A' c',e=.returned (.slice A' n c')/\w'.ownsRow w.heap.size 57 11 (.slice A' n c') n xs/\Below w.heap.size w w':=by
 obtain⟨i0,hi0,hz0,hz1,hz2⟩:=info_parts aCf;have hnil:=fun(W:World) (a:Option Addr)=>Lib.run_eql_slice_nil (P:=prog) W 64 57 a n c 0 0 underlying64
 cases A with
 |none=>
  have hn0:n=0:=by
   rcases Nat.eq_zero_or_pos n with h0|h0
   ·exact h0
   ·obtain⟨ad,h9,_⟩:=h.form h0;cases h9
  subst hn0;have hx:xs=[]:=by
   have:=h.len;rw[Nat.zero_mul]at this;exact List.length_eq_zero_iff.1 this
  subst hx;clear h h1 hn;go_enter func66,ntmps66;go_wp2_with fail;go_ret;exact⟨none,0,rfl,World.ownsRow_nil _ _ _ _,Below.refl _ _⟩
 |some ad=>
  go_enter func66,ntmps66;go_wp2_with (at_builtin;refine jo _ rfl (.tmp 5) (.tmp 6) _ rfl _ 57 i0 _ 11 152 underlying64 hi0 hz0 hz1 hz2 rfl (by decide) rfl w rfl rfl (some ad) n c _ rfl h h1 (by unfold maxLen;omega) (by omega) ?_;intro A1 d1 w1 yw hb1)
  go_ret;exact⟨A1,d1,rfl,yw,hb1⟩
theorem aGM:(prog.info? 73).map (fun i=>(i.zero,i.size,i.bytes))=some (some (.agg #[iV 0,iV 0,iV 0]),3,24):=by kernel_rfl
theorem aJN(h:ai w w.heap.size 3 A n xs)(h1:∀u∈xs,u.oneCell'=true)(hn:n<=100000):
  Calls prog 67 #[.slice A n c] w fun e w'=>∃A' c',e=.returned (.slice A' n c')/\w'.ownsRow w.heap.size 73 3 (.slice A' n c') n xs/\Below w.heap.size w w':=by
 obtain⟨i0,hi0,hz0,hz1,hz2⟩:=info_parts aGM;have hnil:=fun(W:World) (a:Option Addr)=>Lib.run_eql_slice_nil (P:=prog) W 51 73 a n c 0 0 underlying51
 cases A with
 |none=>
  have hn0:n=0:=by
   rcases Nat.eq_zero_or_pos n with h0|h0
   ·exact h0
   ·obtain⟨ad,h9,_⟩:=h.form h0;cases h9
  subst hn0;have hx:xs=[]:=by
   have:=h.len;rw[Nat.zero_mul]at this;exact List.length_eq_zero_iff.1 this
  subst hx;clear h h1 hn;go_enter func67,ntmps67;go_wp2_with fail;go_ret;exact⟨none,0,rfl,World.ownsRow_nil _ _ _ _,Below.refl _ _⟩
 |some ad=>
  go_enter func67,ntmps67;go_wp2_with (at_builtin;refine jo _ rfl (.tmp 5) (.tmp 6) _ rfl _ 73 i0 _ 3 24 underlying51 hi0 hz0 hz1 hz2 rfl (by decide) rfl w rfl rfl (some ad) n c _ rfl h h1 (by unfold maxLen;omega) (by omega) ?_;intro A1 d1 w1 yw hb1)
  go_ret;exact⟨A1,d1,rfl,yw,hb1⟩
theorem aHq:(prog.info? 77).map (fun i=>(i.zero,i.size,i.bytes))=some (some (.agg #[iV 0,iV 0]),2,16):=by kernel_rfl
theorem aEm(h:ai w w.heap.size 2 A n xs)(h1:∀u∈xs,u.oneCell'=true)(hn:n<=100000):
  Calls prog 68 #[.slice A n c] w fun e w'=>∃A' c',e=.returned (.slice A' n c')/\w'.ownsRow w.heap.size 77 2 (.slice A' n c') n xs/\Below w.heap.size w w':=by
 obtain⟨i0,hi0,hz0,hz1,hz2⟩:=info_parts aHq;have hnil:=fun(W:World) (a:Option Addr)=>Lib.run_eql_slice_nil (P:=prog) W 52 77 a n c 0 0 underlying52
 cases A with
 |none=>
  have hn0:n=0:=by
   rcases Nat.eq_zero_or_pos n with h0|h0
   ·exact h0
   ·obtain⟨ad,h9,_⟩:=h.form h0;cases h9
  subst hn0;have hx:xs=[]:=by
   have:=h.len;rw[Nat.zero_mul]at this;exact List.length_eq_zero_iff.1 this
  subst hx;clear h h1 hn;go_enter func68,ntmps68;go_wp2_with fail;go_ret;exact⟨none,0,rfl,World.ownsRow_nil _ _ _ _,Below.refl _ _⟩
 |some ad=>
  go_enter func68,ntmps68;go_wp2_with (at_builtin;refine jo _ rfl (.tmp 5) (.tmp 6) _ rfl _ 77 i0 _ 2 16 underlying52 hi0 hz0 hz1 hz2 rfl (by decide) rfl w rfl rfl (some ad) n c _ rfl h h1 (by unfold maxLen;omega) (by omega) ?_;intro A1 d1 w1 yw hb1)
  go_ret;exact⟨A1,d1,rfl,yw,hb1⟩
theorem aIW:(prog.info? 3).map (fun i=>(i.zero,i.size,i.bytes))=some (some (iV 0),1,8):=by kernel_rfl
theorem aBx(h:ai w w.heap.size 1 A n xs)(h1:∀u∈xs,u.oneCell'=true)(hn:n<=100000):
  Calls prog 69 #[.slice A n c] w fun e w'=>∃A' c',e=.returned (.slice A' n c')/\w'.ownsRow w.heap.size 3 1 (.slice A' n c') n xs/\Below w.heap.size w w':=by
 obtain⟨i0,hi0,hz0,hz1,hz2⟩:=info_parts aIW;have hnil:=fun(W:World) (a:Option Addr)=>Lib.run_eql_slice_nil (P:=prog) W 53 3 a n c 0 0 underlying53
 cases A with
 |none=>
  have hn0:n=0:=by
   rcases Nat.eq_zero_or_pos n with h0|h0
   ·exact h0
   ·obtain⟨ad,h9,_⟩:=h.form h0;cases h9
  subst hn0;have hx:xs=[]:=by
   have:=h.len;rw[Nat.zero_mul]at this;exact List.length_eq_zero_iff.1 this
  subst hx;clear h h1 hn;go_enter func69,ntmps69;go_wp2_with fail;go_ret;exact⟨none,0,rfl,World.ownsRow_nil _ _ _ _,Below.refl _ _⟩
 |some ad=>
  go_enter func69,ntmps69;go_wp2_with (at_builtin;refine jo _ rfl (.tmp 5) (.tmp 6) _ rfl _ 3 i0 _ 1 8 underlying53 hi0 hz0 hz1 hz2 rfl (by decide) rfl w rfl rfl (some ad) n c _ rfl h h1 (by unfold maxLen;omega) (by omega) ?_;intro A1 d1 w1 yw hb1)
  go_ret;exact⟨A1,d1,rfl,yw,hb1⟩
end
end Go.Proofs.YtfjkpigldogkeaaGreatDoor
