/- Contracts of functions that TopQuiet reaches, under the conditions that each states. -/
import Derived.Test.YtfjkpigldogkeaaGreatDoorQbu
import Derived.Test.YtfjkpigldogkeaaGreatDoorQbv
set_option linter.all false
set_option maxRecDepth 100000
set_option maxHeartbeats 8000000
namespace Go.Proofs.YtfjkpigldogkeaaGreatDoor
open Go.RowKit Go.ChangeShapes Go.WideShapes Go.ChangeAt Go.Proofs.Tryz
def sN(sb mb:Nat)(VL:List (Value×Value)):Nat->List ay->Prop
 |0,H=>H=[aj sb 155 (qH ⟨0,none,0,0,none,0,0,none,0,0,0,none,0,0,none,0,0,none,none,mb⟩),pM mb VL]
 |1,H=>H=[aj sb 155 (qH ⟨4,none,0,0,none,0,0,none,0,0,2,none,0,0,none,0,0,none,none,mb⟩),pM mb VL]
 |2,H=>∃A1 c1,H=[aj sb 155 (qH ⟨4,A1,1,c1,none,0,0,none,0,0,2,none,0,0,none,0,0,none,none,mb⟩),pM mb VL,aA 164 3 A1 1 c1 (([⟨4,4,0⟩]:List gW).flatMap dK)]
 |3,H=>∃A1 c1,H=[aj sb 155 (qH ⟨4,A1,2,c1,none,0,0,none,0,0,2,none,0,0,none,0,0,none,none,mb⟩),pM mb VL,aA 164 3 A1 2 c1 (([⟨4,4,0⟩,⟨4,4,0⟩]:List gW).flatMap dK)]
 |4,H=>∃A1 c1 A2 c2,H=[aj sb 155 (qH ⟨4,A1,2,c1,A2,1,c2,none,0,0,2,none,0,0,none,0,0,none,none,mb⟩),pM mb VL,aA 164 3 A1 2 c1 (wT.parts.flatMap dK),aA 89 3 A2 1 c2 (wT.wins.flatMap iP)]
 |5,H=>∃A1 c1 A2 c2 Ac cc,H=[aj sb 155 (qH ⟨4,A1,2,c1,A2,1,c2,none,0,0,2,Ac,1,cc,none,0,0,none,none,mb⟩),pM mb VL,aA 164 3 A1 2 c1 (wT.parts.flatMap dK),aA 89 3 A2 1 c2 (wT.wins.flatMap iP),aA 5 1 Ac 1 cc [.int .u8 0]]
 |6,H=>∃A1 c1 A2 c2 Ac cc Ai ci,H=[aj sb 155 (qH ⟨4,A1,2,c1,A2,1,c2,none,0,0,2,Ac,1,cc,Ai,1,ci,none,none,mb⟩),pM mb VL,aA 164 3 A1 2 c1 (wT.parts.flatMap dK),aA 89 3 A2 1 c2 (wT.wins.flatMap iP),aA 5 1 Ac 1 cc [.int .u8 0],aA 39 8 Ai 1 ci (([⟨qX,Ac,cc⟩]:List fD).flatMap gQ)]
 |7,H=>∃A1 c1 A2 c2 Ac cc Ai ci,H=[aj sb 155 (qH ⟨4,A1,2,c1,A2,1,c2,none,0,0,2,Ac,1,cc,Ai,2,ci,none,none,mb⟩),pM mb VL,aA 164 3 A1 2 c1 (wT.parts.flatMap dK),aA 89 3 A2 1 c2 (wT.wins.flatMap iP),aA 5 1 Ac 1 cc [.int .u8 0],aA 39 8 Ai 2 ci (([⟨qX,Ac,cc⟩,⟨rD,Ac,cc⟩]:List fD).flatMap gQ)]
 |8,H=>∃A1 c1 A2 c2 Ac cc Ai ci kb lk rb,H=[aj sb 155 (tV A1 c1 A2 c2 Ac cc Ai ci kb rb mb),pM mb VL,oC rb kb lk [],dJ kb lk wT [qX,rD] false 0]
 |9,H=>∃A1 c1 A2 c2 Ac cc Ai ci kb lk rb evs,H=[aj sb 155 (tV A1 c1 A2 c2 Ac cc Ai ci kb rb mb),pM mb VL,oC rb kb lk evs,dJ kb lk wT [qX,rD] true 3]
 |_,H=>H=[]
def Ll:List ByteArray:=[⟨#[102,114,97,109,101,32,52,32,50]⟩,⟨#[112,97,114,116,32,52,32,52,32,48]⟩,⟨#[112,97,114,116,32,52,32,52,32,48]⟩,⟨#[119,105,110,100,111,119,32,48,32,48,32,49]⟩,⟨#[99,111,100,101,32,121,105,101,108,100]⟩,⟨#[105,109,97,103,101,32,48,32,49,32,48,32,49,32,49,32,48,32,48]⟩,⟨#[105,109,97,103,101,32,49,32,49,32,48,32,49,32,49,32,48,32,48]⟩,⟨#[109,97,107,101,32,48,32,49]⟩,⟨#[115,116,101,112,32,51]⟩,⟨#[114,117,110,115,32,49]⟩]
section
variable{w w' w0:World}{l:List ay}{m0:Int}{sb mb:Nat}{v1 v2 v3 v4 v5 v6:Value}{H:List ay}
def rG(w0:World)(sb mb:Nat)(VL:List (Value×Value))(k:Nat)(l:List ay)(t:ByteArray)(w:World):Prop:=(k=8->t=⟨#[51]⟩)/\(k=9->t=⟨#[49,32,48]⟩)/\∃H,sN sb mb VL (k+1) H/\ae w0 (H++l) w
theorem Oi(b:UInt8)(d:Int)(h:Lib.trimS [b] aEQ=[])(h2:Lib.atoi [b]=some d)(h3:0<=d):qE ⟨#[b]⟩ d:=⟨rfl,h,h2,h3⟩
theorem qY:qE ⟨#[48]⟩ 0:=Oi 48 0 (by decide) (by decide) (by decide)
theorem rL:qE ⟨#[49]⟩ 1:=Oi 49 1 (by decide) (by decide) (by decide)
theorem aPX:qE ⟨#[50]⟩ 2:=Oi 50 2 (by decide) (by decide) (by decide)
theorem aPP:qE ⟨#[51]⟩ 3:=Oi 51 3 (by decide) (by decide) (by decide)
theorem aOy:qE ⟨#[52]⟩ 4:=Oi 52 4 (by decide) (by decide) (by decide)
theorem aN7:lQ ⟨#[52,32,50]⟩ [⟨#[52]⟩,⟨#[50]⟩] [4,2]:=⟨by decide,by decide,by kernel_rfl,by kernel_rfl,rfl,by decide,fun k s d h1 h2=>by
  match k,h1 with
  |0,h1=>(injection h1 with h1;injection h2 with h2;subst h1;subst h2;exact aOy)
  |1,h1=>(injection h1 with h1;injection h2 with h2;subst h1;subst h2;exact aPX)
  |k+2,h1=>simp at h1⟩
theorem aFY:lQ ⟨#[52,32,52,32,48]⟩ [⟨#[52]⟩,⟨#[52]⟩,⟨#[48]⟩] [4,4,0]:=⟨by decide,by decide,by kernel_rfl,by kernel_rfl,rfl,by decide,fun k s d h1 h2=>by
  match k,h1 with
  |0,h1=>(injection h1 with h1;injection h2 with h2;subst h1;subst h2;exact aOy)
  |1,h1=>(injection h1 with h1;injection h2 with h2;subst h1;subst h2;exact aOy)
  |2,h1=>(injection h1 with h1;injection h2 with h2;subst h1;subst h2;exact qY)
  |k+3,h1=>simp at h1⟩
theorem aLK:lQ ⟨#[48,32,48,32,49]⟩ [⟨#[48]⟩,⟨#[48]⟩,⟨#[49]⟩] [0,0,1]:=⟨by decide,by decide,by kernel_rfl,by kernel_rfl,rfl,by decide,fun k s d h1 h2=>by
  match k,h1 with
  |0,h1=>(injection h1 with h1;injection h2 with h2;subst h1;subst h2;exact qY)
  |1,h1=>(injection h1 with h1;injection h2 with h2;subst h1;subst h2;exact qY)
  |2,h1=>(injection h1 with h1;injection h2 with h2;subst h1;subst h2;exact rL)
  |k+3,h1=>simp at h1⟩
theorem aEZ:lQ ⟨#[48,32,49,32,48,32,49,32,49,32,48,32,48]⟩ [⟨#[48]⟩,⟨#[49]⟩,⟨#[48]⟩,⟨#[49]⟩,⟨#[49]⟩,⟨#[48]⟩,⟨#[48]⟩] [0,1,0,1,1,0,0]:=⟨by decide,by decide,by kernel_rfl,by kernel_rfl,rfl,by decide,fun k s d h1 h2=>by
  match k,h1 with
  |0,h1=>(injection h1 with h1;injection h2 with h2;subst h1;subst h2;exact qY)
  |1,h1=>(injection h1 with h1;injection h2 with h2;subst h1;subst h2;exact rL)
  |2,h1=>(injection h1 with h1;injection h2 with h2;subst h1;subst h2;exact qY)
  |3,h1=>(injection h1 with h1;injection h2 with h2;subst h1;subst h2;exact rL)
  |4,h1=>(injection h1 with h1;injection h2 with h2;subst h1;subst h2;exact rL)
  |5,h1=>(injection h1 with h1;injection h2 with h2;subst h1;subst h2;exact qY)
  |6,h1=>(injection h1 with h1;injection h2 with h2;subst h1;subst h2;exact qY)
  |k+7,h1=>simp at h1⟩
theorem aF0:lQ ⟨#[49,32,49,32,48,32,49,32,49,32,48,32,48]⟩ [⟨#[49]⟩,⟨#[49]⟩,⟨#[48]⟩,⟨#[49]⟩,⟨#[49]⟩,⟨#[48]⟩,⟨#[48]⟩] [1,1,0,1,1,0,0]:=⟨by decide,by decide,by kernel_rfl,by kernel_rfl,rfl,by decide,fun k s d h1 h2=>by
  match k,h1 with
  |0,h1=>(injection h1 with h1;injection h2 with h2;subst h1;subst h2;exact rL)
  |1,h1=>(injection h1 with h1;injection h2 with h2;subst h1;subst h2;exact rL)
  |2,h1=>(injection h1 with h1;injection h2 with h2;subst h1;subst h2;exact qY)
  |3,h1=>(injection h1 with h1;injection h2 with h2;subst h1;subst h2;exact rL)
  |4,h1=>(injection h1 with h1;injection h2 with h2;subst h1;subst h2;exact rL)
  |5,h1=>(injection h1 with h1;injection h2 with h2;subst h1;subst h2;exact qY)
  |6,h1=>(injection h1 with h1;injection h2 with h2;subst h1;subst h2;exact qY)
  |k+7,h1=>simp at h1⟩
theorem aIE:lQ ⟨#[48,32,49]⟩ [⟨#[48]⟩,⟨#[49]⟩] [0,1]:=⟨by decide,by decide,by kernel_rfl,by kernel_rfl,rfl,by decide,fun k s d h1 h2=>by
  match k,h1 with
  |0,h1=>(injection h1 with h1;injection h2 with h2;subst h1;subst h2;exact qY)
  |1,h1=>(injection h1 with h1;injection h2 with h2;subst h1;subst h2;exact rL)
  |k+2,h1=>simp at h1⟩
theorem aOz:lQ ⟨#[51]⟩ [⟨#[51]⟩] [3]:=⟨by decide,by decide,by kernel_rfl,by kernel_rfl,rfl,by decide,fun k s d h1 h2=>by
  match k,h1 with
  |0,h1=>(injection h1 with h1;injection h2 with h2;subst h1;subst h2;exact aPP)
  |k+1,h1=>simp at h1⟩
theorem aOU:lQ ⟨#[49]⟩ [⟨#[49]⟩] [1]:=⟨by decide,by decide,by kernel_rfl,by kernel_rfl,rfl,by decide,fun k s d h1 h2=>by
  match k,h1 with
  |0,h1=>(injection h1 with h1;injection h2 with h2;subst h1;subst h2;exact rL)
  |k+1,h1=>simp at h1⟩
theorem aOx:kO ⟨#[102,114,97,109,101,32,52,32,50]⟩ ⟨#[102,114,97,109,101]⟩ ⟨#[52,32,50]⟩:=⟨by decide,by kernel_rfl,by kernel_rfl,by kernel_rfl,by decide⟩
theorem aMe:kO ⟨#[112,97,114,116,32,52,32,52,32,48]⟩ ⟨#[112,97,114,116]⟩ ⟨#[52,32,52,32,48]⟩:=⟨by decide,by kernel_rfl,by kernel_rfl,by kernel_rfl,by decide⟩
theorem aOd:kO ⟨#[119,105,110,100,111,119,32,48,32,48,32,49]⟩ ⟨#[119,105,110,100,111,119]⟩ ⟨#[48,32,48,32,49]⟩:=⟨by decide,by kernel_rfl,by kernel_rfl,by kernel_rfl,by decide⟩
theorem aP6:kO ⟨#[99,111,100,101,32,121,105,101,108,100]⟩ ⟨#[99,111,100,101]⟩ ⟨#[121,105,101,108,100]⟩:=⟨by decide,by kernel_rfl,by kernel_rfl,by kernel_rfl,by decide⟩
theorem aOP:kO ⟨#[105,109,97,103,101,32,48,32,49,32,48,32,49,32,49,32,48,32,48]⟩ ⟨#[105,109,97,103,101]⟩ ⟨#[48,32,49,32,48,32,49,32,49,32,48,32,48]⟩:=⟨by decide,by kernel_rfl,by kernel_rfl,by kernel_rfl,by decide⟩
theorem aOH:kO ⟨#[105,109,97,103,101,32,49,32,49,32,48,32,49,32,49,32,48,32,48]⟩ ⟨#[105,109,97,103,101]⟩ ⟨#[49,32,49,32,48,32,49,32,49,32,48,32,48]⟩:=⟨by decide,by kernel_rfl,by kernel_rfl,by kernel_rfl,by decide⟩
theorem aP9:kO ⟨#[109,97,107,101,32,48,32,49]⟩ ⟨#[109,97,107,101]⟩ ⟨#[48,32,49]⟩:=⟨by decide,by kernel_rfl,by kernel_rfl,by kernel_rfl,by decide⟩
theorem aOj:kO ⟨#[115,116,101,112,32,51]⟩ ⟨#[115,116,101,112]⟩ ⟨#[51]⟩:=⟨by decide,by kernel_rfl,by kernel_rfl,by kernel_rfl,by decide⟩
theorem aOZ:kO ⟨#[114,117,110,115,32,49]⟩ ⟨#[114,117,110,115]⟩ ⟨#[49]⟩:=⟨by decide,by kernel_rfl,by kernel_rfl,by kernel_rfl,by decide⟩
theorem aPQ(hm:w0.cell? (tZ 0 0)=some (iV m0))(hH:sN sb mb (dN sb v1 v2 v3 v4 v5 v6) 0 H)(h:ae w0 (H++l) w):Calls prog 99 #[.pointer (some (tZ sb 0)),.string ⟨#[102,114,97,109,101,32,52,32,50]⟩] w fun e w'=>∃t,e=.returned (.string t)/\rG w0 sb mb (dN sb v1 v2 v3 v4 v5 v6) 0 l t w':=by
 obtain rfl:=hH;refine mJ _ (jJ (l:=l) hm h aOx 2 false 75 none rfl rfl rfl (fun d hd=>by rw[underlying9]at hd;cases hd;kernel_rfl) aN7 (.inr rfl) (enters_of func75 (by kernel_rfl) rfl) (R:=rG w0 sb mb (dN sb v1 v2 v3 v4 v5 v6) 0 l) fun A c W hW=>?_);exact(aK6 _ 4 2 hW).mono fun e w' ⟨h1,h2⟩=>⟨_,h1,(fun h9=>by cases h9),(fun h9=>by cases h9),_,rfl,h2⟩
theorem aPU(hm:w0.cell? (tZ 0 0)=some (iV m0))(hH:sN sb mb (dN sb v1 v2 v3 v4 v5 v6) 1 H)(h:ae w0 (H++l) w):Calls prog 99 #[.pointer (some (tZ sb 0)),.string ⟨#[112,97,114,116,32,52,32,52,32,48]⟩] w fun e w'=>∃t,e=.returned (.string t)/\rG w0 sb mb (dN sb v1 v2 v3 v4 v5 v6) 1 l t w':=by
 obtain rfl:=hH;refine mJ _ (jJ (l:=l) hm h aMe 3 false 76 none rfl rfl rfl (fun d hd=>by rw[underlying9]at hd;cases hd;kernel_rfl) aFY (.inr rfl) (enters_of func76 (by kernel_rfl) rfl) (R:=rG w0 sb mb (dN sb v1 v2 v3 v4 v5 v6) 1 l) fun A c W hW=>?_);exact(aFO _ [] 4 4 0 ((hW.uX 164 3).pn 4 [1,2,0,3]) (by simp)).mono fun e w' ⟨h1,A1,c1,h2⟩=>⟨_,h1,(fun h9=>by cases h9),(fun h9=>by cases h9),_,⟨A1,c1,rfl⟩,h2.pn 3 [0,2,1]⟩
theorem aPO(hm:w0.cell? (tZ 0 0)=some (iV m0))(hH:sN sb mb (dN sb v1 v2 v3 v4 v5 v6) 2 H)(h:ae w0 (H++l) w):Calls prog 99 #[.pointer (some (tZ sb 0)),.string ⟨#[112,97,114,116,32,52,32,52,32,48]⟩] w fun e w'=>∃t,e=.returned (.string t)/\rG w0 sb mb (dN sb v1 v2 v3 v4 v5 v6) 2 l t w':=by
 obtain⟨A1,c1,rfl⟩:=hH;refine mJ _ (jJ (l:=aA 164 3 A1 1 c1 (([⟨4,4,0⟩]:List gW).flatMap dK)::l) hm h aMe 3 false 76 none rfl rfl rfl (fun d hd=>by rw[underlying9]at hd;cases hd;kernel_rfl) aFY (.inr rfl) (enters_of func76 (by kernel_rfl) rfl) (R:=rG w0 sb mb (dN sb v1 v2 v3 v4 v5 v6) 2 l) fun A c W hW=>?_);exact(aFO _ [⟨4,4,0⟩] 4 4 0 (hW.pn 4 [0,1,3,2]) (by simp)).mono fun e w' ⟨h1,A1,c1,h2⟩=>⟨_,h1,(fun h9=>by cases h9),(fun h9=>by cases h9),_,⟨A1,c1,rfl⟩,h2.pn 3 [0,2,1]⟩
theorem aPZ(hm:w0.cell? (tZ 0 0)=some (iV m0))(hH:sN sb mb (dN sb v1 v2 v3 v4 v5 v6) 3 H)(h:ae w0 (H++l) w):Calls prog 99 #[.pointer (some (tZ sb 0)),.string ⟨#[119,105,110,100,111,119,32,48,32,48,32,49]⟩] w fun e w'=>∃t,e=.returned (.string t)/\rG w0 sb mb (dN sb v1 v2 v3 v4 v5 v6) 3 l t w':=by
 obtain⟨A1,c1,rfl⟩:=hH;refine mJ _ (jJ (l:=aA 164 3 A1 2 c1 (([⟨4,4,0⟩,⟨4,4,0⟩]:List gW).flatMap dK)::l) hm h aOd 3 false 77 none rfl rfl rfl (fun d hd=>by rw[underlying9]at hd;cases hd;kernel_rfl) aLK (.inr rfl) (enters_of func77 (by kernel_rfl) rfl) (R:=rG w0 sb mb (dN sb v1 v2 v3 v4 v5 v6) 3 l) fun A c W hW=>?_);exact(aHA _ [] 0 0 1 ((hW.uX 89 3).pn 5 [1,2,0,3,4]) (by simp)).mono fun e w' ⟨h1,A2,c2,h2⟩=>⟨_,h1,(fun h9=>by cases h9),(fun h9=>by cases h9),_,⟨A1,c1,A2,c2,rfl⟩,h2.pn 4 [0,2,3,1]⟩
theorem aQ1(hm:w0.cell? (tZ 0 0)=some (iV m0))(hH:sN sb mb (dN sb v1 v2 v3 v4 v5 v6) 4 H)(h:ae w0 (H++l) w):Calls prog 99 #[.pointer (some (tZ sb 0)),.string ⟨#[99,111,100,101,32,121,105,101,108,100]⟩] w fun e w'=>∃t,e=.returned (.string t)/\rG w0 sb mb (dN sb v1 v2 v3 v4 v5 v6) 4 l t w':=by
 obtain⟨A1,c1,A2,c2,rfl⟩:=hH;refine mJ _ (aCM (l:=aA 164 3 A1 2 c1 (wT.parts.flatMap dK)::aA 89 3 A2 1 c2 (wT.wins.flatMap iP)::l) hm h aP6 (-1) false 79 none rfl rfl rfl (fun d hd=>by rw[underlying9]at hd;cases hd;kernel_rfl) (fun l W hW=>aFp hm hW) (enters_of func79 (by kernel_rfl) rfl) (R:=rG w0 sb mb (dN sb v1 v2 v3 v4 v5 v6) 4 l) fun W hW=>?_);exact(aKw hm _ hW).mono fun e w' ⟨h1,Ac,cc,h2⟩=>⟨_,h1,(fun h9=>by cases h9),(fun h9=>by cases h9),_,⟨A1,c1,A2,c2,Ac,cc,rfl⟩,h2.pn 5 [0,2,3,4,1]⟩
theorem aPH(hm:w0.cell? (tZ 0 0)=some (iV m0))(hH:sN sb mb (dN sb v1 v2 v3 v4 v5 v6) 5 H)(h:ae w0 (H++l) w):Calls prog 99 #[.pointer (some (tZ sb 0)),.string ⟨#[105,109,97,103,101,32,48,32,49,32,48,32,49,32,49,32,48,32,48]⟩] w fun e w'=>∃t,e=.returned (.string t)/\rG w0 sb mb (dN sb v1 v2 v3 v4 v5 v6) 5 l t w':=by
 obtain⟨A1,c1,A2,c2,Ac,cc,rfl⟩:=hH;refine mJ _ (jJ (l:=aA 164 3 A1 2 c1 (wT.parts.flatMap dK)::aA 89 3 A2 1 c2 (wT.wins.flatMap iP)::aA 5 1 Ac 1 cc [.int .u8 0]::l) hm h aOP 7 false 80 none rfl rfl rfl (fun d hd=>by rw[underlying9]at hd;cases hd;kernel_rfl) aEZ (.inr rfl) (enters_of func80 (by kernel_rfl) rfl) (R:=rG w0 sb mb (dN sb v1 v2 v3 v4 v5 v6) 5 l) fun A c W hW=>?_);exact(aEr _ [] qX ((hW.uX 39 8).pn 7 [1,2,0,3,4,5,6]) (by simp) rfl (by kernel_rfl)).mono fun e w' ⟨t,h1,Ai,ci,h2⟩=>⟨t,h1,(fun h9=>by cases h9),(fun h9=>by cases h9),_,⟨A1,c1,A2,c2,Ac,cc,Ai,ci,rfl⟩,h2.pn 6 [0,2,3,4,5,1]⟩
theorem aQ4(hm:w0.cell? (tZ 0 0)=some (iV m0))(hH:sN sb mb (dN sb v1 v2 v3 v4 v5 v6) 6 H)(h:ae w0 (H++l) w):Calls prog 99 #[.pointer (some (tZ sb 0)),.string ⟨#[105,109,97,103,101,32,49,32,49,32,48,32,49,32,49,32,48,32,48]⟩] w fun e w'=>∃t,e=.returned (.string t)/\rG w0 sb mb (dN sb v1 v2 v3 v4 v5 v6) 6 l t w':=by
 obtain⟨A1,c1,A2,c2,Ac,cc,Ai,ci,rfl⟩:=hH;refine mJ _ (jJ (l:=aA 164 3 A1 2 c1 (wT.parts.flatMap dK)::aA 89 3 A2 1 c2 (wT.wins.flatMap iP)::aA 5 1 Ac 1 cc [.int .u8 0]::aA 39 8 Ai 1 ci (([⟨qX,Ac,cc⟩]:List fD).flatMap gQ)::l) hm h aOH 7 false 80 none rfl rfl rfl (fun d hd=>by rw[underlying9]at hd;cases hd;kernel_rfl) aF0 (.inr rfl) (enters_of func80 (by kernel_rfl) rfl) (R:=rG w0 sb mb (dN sb v1 v2 v3 v4 v5 v6) 6 l) fun A c W hW=>?_);exact(aEr _ [⟨qX,Ac,cc⟩] rD (hW.pn 7 [0,1,6,2,3,4,5]) (by simp) rfl (by kernel_rfl)).mono fun e w' ⟨t,h1,Ai,ci,h2⟩=>⟨t,h1,(fun h9=>by cases h9),(fun h9=>by cases h9),_,⟨A1,c1,A2,c2,Ac,cc,Ai,ci,rfl⟩,h2.pn 6 [0,2,3,4,5,1]⟩
theorem aPJ(hm:w0.cell? (tZ 0 0)=some (iV m0))(hH:sN sb mb (dN sb v1 v2 v3 v4 v5 v6) 7 H)(h:ae w0 (H++l) w):Calls prog 99 #[.pointer (some (tZ sb 0)),.string ⟨#[109,97,107,101,32,48,32,49]⟩] w fun e w'=>∃t,e=.returned (.string t)/\rG w0 sb mb (dN sb v1 v2 v3 v4 v5 v6) 7 l t w':=by
 obtain⟨A1,c1,A2,c2,Ac,cc,Ai,ci,rfl⟩:=hH;refine mJ _ (aCM (l:=aA 164 3 A1 2 c1 (wT.parts.flatMap dK)::aA 89 3 A2 1 c2 (wT.wins.flatMap iP)::aA 5 1 Ac 1 cc [.int .u8 0]::aA 39 8 Ai 2 ci (([⟨qX,Ac,cc⟩,⟨rD,Ac,cc⟩]:List fD).flatMap gQ)::l) hm h aP9 (-1) false 81 none rfl rfl rfl (fun d hd=>by rw[underlying9]at hd;cases hd;kernel_rfl) (fun l W hW=>(aBW hm hW aIE (-1) (.inl (by decide))).mono fun e w' ⟨A,c,h1,h2⟩=>⟨A,_,c,true,h1,h2.drop⟩) (enters_of func81 (by kernel_rfl) rfl) (R:=rG w0 sb mb (dN sb v1 v2 v3 v4 v5 v6) 7 l) fun W hW=>?_);exact(aLF (l:=pM mb (dN sb v1 v2 v3 v4 v5 v6)::l) hm aIE ((hW.uX 75 3).pn 7 [1,3,4,0,5,6,2])).mono fun e w' ⟨h1,kb,lk,rb,h2⟩=>⟨_,h1,(fun h9=>by cases h9),(fun h9=>by cases h9),_,⟨A1,c1,A2,c2,Ac,cc,Ai,ci,kb,lk,rb,rfl⟩,h2.pn 4 [0,3,1,2]⟩
theorem aPL(hm:w0.cell? (tZ 0 0)=some (iV m0))(hH:sN sb mb (dN sb v1 v2 v3 v4 v5 v6) 8 H)(h:ae w0 (H++l) w):Calls prog 99 #[.pointer (some (tZ sb 0)),.string ⟨#[115,116,101,112,32,51]⟩] w fun e w'=>∃t,e=.returned (.string t)/\rG w0 sb mb (dN sb v1 v2 v3 v4 v5 v6) 8 l t w':=by
 obtain⟨A1,c1,A2,c2,Ac,cc,Ai,ci,kb,lk,rb,rfl⟩:=hH;refine mJ _ (jJ (l:=oC rb kb lk []::dJ kb lk wT [qX,rD] false 0::l) hm h aOj 1 true 83 (some (tZ kb 0)) rfl rfl rfl (fun d hd=>by rw[underlying9]at hd;cases hd;kernel_rfl) aOz (.inr rfl) (enters_of func83 (by kernel_rfl) rfl) (R:=rG w0 sb mb (dN sb v1 v2 v3 v4 v5 v6) 8 l) fun A c W hW=>?_);exact(aLV (l:=pM mb (dN sb v1 v2 v3 v4 v5 v6)::l) (hW.pn 5 [0,1,3,4,2])).mono fun e w' ⟨h1,evs,h2⟩=>⟨_,h1,fun _=>rfl,(fun h9=>by cases h9),_,⟨A1,c1,A2,c2,Ac,cc,Ai,ci,kb,lk,rb,evs,rfl⟩,h2.pn 4 [0,3,1,2]⟩
theorem aPI(hm:w0.cell? (tZ 0 0)=some (iV m0))(hH:sN sb mb (dN sb v1 v2 v3 v4 v5 v6) 9 H)(h:ae w0 (H++l) w):Calls prog 99 #[.pointer (some (tZ sb 0)),.string ⟨#[114,117,110,115,32,49]⟩] w fun e w'=>∃t,e=.returned (.string t)/\rG w0 sb mb (dN sb v1 v2 v3 v4 v5 v6) 9 l t w':=by
 obtain⟨A1,c1,A2,c2,Ac,cc,Ai,ci,kb,lk,rb,evs,rfl⟩:=hH;refine mJ _ (jJ (l:=oC rb kb lk evs::dJ kb lk wT [qX,rD] true 3::l) hm h aOZ 1 true 92 (some (tZ kb 0)) rfl rfl rfl (fun d hd=>by rw[underlying9]at hd;cases hd;kernel_rfl) aOU (.inr rfl) (enters_of func92 (by kernel_rfl) rfl) (R:=rG w0 sb mb (dN sb v1 v2 v3 v4 v5 v6) 9 l) fun A c W hW=>?_);exact(aMo (l:=pM mb (dN sb v1 v2 v3 v4 v5 v6)::l) (hW.pn 5 [0,1,3,4,2])).mono fun e w' ⟨h1,h2⟩=>⟨_,h1,(fun h9=>by cases h9),fun _=>rfl,[],rfl,(hW.belowS h2).pn 5 []⟩
theorem aPK(hm:w0.cell? (tZ 0 0)=some (iV m0)){k:Nat}{s:ByteArray}(hs:Ll[k]? =some s)(hH:sN sb mb (dN sb v1 v2 v3 v4 v5 v6) k H)(h:ae w0 (H++l) w):Calls prog 99 #[.pointer (some (tZ sb 0)),.string s] w fun e w'=>∃t,e=.returned (.string t)/\rG w0 sb mb (dN sb v1 v2 v3 v4 v5 v6) k l t w':=by
 match k,hs with
 |0,hs=>(injection hs with hs;subst hs;exact aPQ hm hH h)
 |1,hs=>(injection hs with hs;subst hs;exact aPU hm hH h)
 |2,hs=>(injection hs with hs;subst hs;exact aPO hm hH h)
 |3,hs=>(injection hs with hs;subst hs;exact aPZ hm hH h)
 |4,hs=>(injection hs with hs;subst hs;exact aQ1 hm hH h)
 |5,hs=>(injection hs with hs;subst hs;exact aPH hm hH h)
 |6,hs=>(injection hs with hs;subst hs;exact aQ4 hm hH h)
 |7,hs=>(injection hs with hs;subst hs;exact aPJ hm hH h)
 |8,hs=>(injection hs with hs;subst hs;exact aPL hm hH h)
 |9,hs=>(injection hs with hs;subst hs;exact aPI hm hH h)
 |k+10,hs=>cases hs
end
section
variable{w w' w0:World}{l:List ay}{m0:Int}{sb mb:Nat}{v1 v2 v3 v4 v5 v6:Value}
theorem aFj{C:ay}{X:List ay}(h:ae w0 (X++(C::l)) w):ae w0 (C::(X++l)) w:=h.perm List.perm_middle
theorem aP5{C:ay}{X:List ay}(h:ae w0 (C::(X++l)) w):ae w0 (X++(C::l)) w:=h.perm List.perm_middle.symm
theorem aNr(hm:w0.cell? (tZ 0 0)=some (iV m0)){gb:Nat}(h:ae w0 (aj gb 9 (Ll.map Value.string)::aj sb 155 (qH ⟨0,none,0,0,none,0,0,none,0,0,0,none,0,0,none,0,0,none,none,mb⟩)::pM mb (dN sb v1 v2 v3 v4 v5 v6)::l) w):
  Calls prog 31 #[.pointer (some (tZ sb 0)),.slice (some (tZ gb 0)) 10 10] w fun e w'=>∃(A:Option Addr) (c:Nat) (ts:List ByteArray),e=.returned (.slice A 10 c)/\ae w0 (aA 9 1 A 10 c (ts.map Value.string)::l) w'/\ts[8]? =some (⟨#[51]⟩:ByteArray)/\ts[9]? =some (⟨#[49,32,48]⟩:ByteArray):=by
 obtain⟨i0,hi0,hz0,hz1,hz2⟩:=info_parts aGs;have HM:=hid hm;have H0:Hid (∃(ts:List ByteArray) (H:List ay),ts.length=0/\(8<0->ts[8]? =some (⟨#[51]⟩:ByteArray))/\(9<0->ts[9]? =some (⟨#[49,32,48]⟩:ByteArray))/\sN sb mb (dN sb v1 v2 v3 v4 v5 v6) 0 H/\ae w0 (aA 9 1 none 0 0 (ts.map Value.string)::(H++(aj gb 9 (Ll.map Value.string)::l))) w):=
  hid ⟨[],_,rfl,fun h=>by omega,fun h=>by omega,rfl,(h.pn 3 [1,2,0]).uX _ _⟩
 have HL:Hid (∀(k:Nat),k<10->∃s,Ll[k]? =some s):=hid fun k hk=>⟨_,List.getElem?_eq_getElem (by exact hk)⟩
 obtain⟨LL,hLL⟩:∃LL,Ll=LL:=⟨_,rfl⟩;have HLL:=hid hLL;rw[hLL]at H0 HL;clear h hm hLL;go_enter func31,ntmps31;go_wp2_with fail;go_loopw [10,5] (fun v10 o5 wr=>∃(k:Nat) (A:Option Addr) (c:Nat),k<=10/\v10=iV (k:Int)/\o5=.slice A k c/\Hid (∃(ts:List ByteArray) (H:List ay),ts.length=k/\(8<k->ts[8]? =some (⟨#[51]⟩:ByteArray))/\(9<k->ts[9]? =some (⟨#[49,32,48]⟩:ByteArray))/\sN sb mb (dN sb v1 v2 v3 v4 v5 v6) k H/\ae w0 (aA 9 1 A k c (ts.map Value.string)::(H++(aj gb 9 (LL.map Value.string)::l))) wr)) (fun v10 _ _=>10-(Lib.intOf v10).toNat)
 case atStart=>exact⟨0,none,0,by omega,rfl,rfl,H0⟩
 clear H0;obtain⟨k,A,c,hk,rfl,rfl,HR⟩:=hrel;by_cases hk3:k<10
 ·obtain⟨s,hs⟩:=HL.out k hk3;obtain⟨ts,H,h1,h2,h3,h4,h5⟩:=HR.out;have c0:wr.cell? (tZ gb k)=some (.string s):=(aFj h5.drop).blk.cellAt (by rw[List.getElem?_map,hs];rfl);have i1:=hid (aPK (l:=aA 9 1 A k c (ts.map Value.string)::aj gb 9 (LL.map Value.string)::l) HM.out (by rw[HLL.out];exact hs) h4 (aP5 h5));have HT:=hid (⟨h1,h2,h3⟩:ts.length=k/\(8<k->ts[8]? =some (⟨#[51]⟩:ByteArray))/\(9<k->ts[9]? =some (⟨#[49,32,48]⟩:ByteArray)));have q1:(0:Int)<=(k:Int):=Int.natCast_nonneg _;have q2:(k:Int)<10:=by omega
  clear h1 h2 h3 h4 h5 HR hs;go_wp2_with fail;refine i1.out.mono ?_;rintro e w2⟨t,rfl,h8,h9,H',hH',h6⟩;have H6:=hid (aFj h6);have xg:=hid (⟨h8,h9,hH'⟩:(k=8->t=⟨#[51]⟩)/\(k=9->t=⟨#[49,32,48]⟩)/\sN sb mb (dN sb v1 v2 v3 v4 v5 v6) (k+1) H');have H7:=hid (H6.out.alloc (.cells #[.string t] 9));have vW:=ai.new w2 #[.string t] 9 1 rfl;have ho:=H7.out.own;clear i1 h6 h8 h9 hH' c0;go_wp2_with (at_builtin;refine gX _ rfl (.tmp 14) (.tmp 18) _ rfl 9 i0 _ 1 16 underlying93 hi0 hz0 hz1 hz2 rfl (by decide) _ k _ rfl ho _ _ 1 1 _ rfl vW (by simp[Value.oneCell']) (by unfold maxLen;omega) (by omega) (k+1) rfl ?_;intro A9 c9 w9 xM wG zT;have H9:=hid (H7.out.uG xM wG zT);clear xM wG zT)
  go_roundw;case rel=>
   refine⟨k+1,A9,c9,by omega,by go_num,rfl,hid ⟨ts++[t],H',by rw[List.length_append,HT.out.1];rfl,fun h9=>?_,fun h9=>?_,xg.out.2.2,?_⟩⟩
   ·by_cases h8:8<k
    ·rw[List.getElem?_append_left (by rw[HT.out.1];exact h8)];exact HT.out.2.1 h8
    ·have h7:k=8:=by omega
     rw[List.getElem?_append_right (by rw[HT.out.1];omega),HT.out.1,h7,xg.out.1 h7];rfl
   ·have h7:k=9:=by omega
    rw[List.getElem?_append_right (by rw[HT.out.1];omega),HT.out.1,h7,xg.out.2.1 h7];rfl
   ·have h7:=H9.out;rw[List.map_append];exact h7
  case measure=>simp[Lib.intOf];omega
 ·obtain rfl:k=10:=by omega
  obtain⟨ts,H,h1,h2,h3,h4,h5⟩:=HR.out;have HF:=hid (⟨h2 (by omega),h3 (by omega)⟩:ts[8]? =some (⟨#[51]⟩:ByteArray)/\ts[9]? =some (⟨#[49,32,48]⟩:ByteArray));have h6:ae w0 (aA 9 1 A 10 c (ts.map Value.string)::(H++l)) wr:=((aFj (l:=l) (X:=aA 9 1 A 10 c (ts.map Value.string)::H) h5).drop);have h7:ae w0 (aA 9 1 A 10 c (ts.map Value.string)::l) wr:=ae.sub h6 (List.Sublist.cons_cons _ (List.sublist_append_right _ _));have H7:=hid h7;clear h1 h2 h3 h4 h5 h6 h7 HR;go_wp2_with fail;go_ret;exact⟨A,c,ts,rfl,H7.out,HF.out⟩
theorem aNP(w:World)(hm:w.cell? (tZ 0 0)=some (iV m0)):Calls prog 10 #[] w fun e w'=>e=.returned (.bool true)/\Below w.heap.size w w':=by
 have i1:=hid (aMN (ae.nil (Below.refl w.heap.size w)));have HM:=hid hm;clear hm;go_enter func10,ntmps10;go_wp2_with fail;refine i1.out.mono ?_;rintro e w1⟨sb,mb,v1,v2,v3,v4,v5,v6,rfl,h1⟩;have h2:=h1.made (T:=9) (xs:=Ll.map Value.string);have i2:=hid (aNr HM.out h2);clear h1 h2 i1;go_wp2_with fail;refine i2.out.mono ?_;rintro e w2⟨A,c,ts,rfl,h3,h4,h5⟩;obtain⟨g,hg,_,_⟩:=dG h3.own (by omega);subst hg;have d8:w2.cell? (tZ g 8)=some (.string ⟨#[51]⟩):=(h3.own.cellAt 8 (by omega)).trans (by rw[List.getElem?_map,h4];rfl);have d9:w2.cell? (tZ g 9)=some (.string ⟨#[49,32,48]⟩):=(h3.own.cellAt 9 (by omega)).trans (by rw[List.getElem?_map,h5];rfl);have HB:=hid h3.bel;clear i2 h3 h4 h5;go_wp2_with fail;go_ret;exact⟨rfl,HB.out⟩
end
section
variable{w w' w0:World}{t:aG}{ta:bM}{li:List fD}{A AD:Option Addr}{c nD cD:Nat}{ds:List rY}
theorem aNb{w w':World}{t:aG}{a:bM}(h:mg w t a)(hb:Below w.heap.size w w'):mg w' t a:=⟨h.zn.belowS hb,h.l1,h.l2,h.l3,h.c1,h.c2,h.c3,h.m1,h.m2,h.m3,h.f1,h.f2,h.r1,h.r2,h.ps,h.ws,h.cs⟩
theorem aMK(w:World):(Op.equalIn 10000 68 (.agg #[iV 0,iV 1,iV 0,iV 0,iV 0,iV 0]) (.agg #[iV 0,iV 1,iV 0,iV 0,iV 0,iV 0])).run prog w=.ok true w:=by kernel_rfl
theorem aN4(w:World):(Op.equalIn 10000 68 (.agg #[iV 1,iV 1,iV 0,iV 0,iV 0,iV 0]) (.agg #[iV 1,iV 1,iV 0,iV 0,iV 0,iV 0])).run prog w=.ok true w:=by kernel_rfl
theorem aMP(w:World):(Op.equalIn 10000 68 (.agg #[iV 2,iV 1,iV 0,iV 0,iV 0,iV 0]) (.agg #[iV 2,iV 1,iV 0,iV 0,iV 0,iV 0])).run prog w=.ok true w:=by kernel_rfl
theorem aNj(w:World):(Op.equalIn 10000 68 (.agg #[iV 3,iV 1,iV 0,iV 0,iV 0,iV 0]) (.agg #[iV 3,iV 1,iV 0,iV 0,iV 0,iV 0])).run prog w=.ok true w:=by kernel_rfl
theorem aOT(p:Nat)(hp:p<4)(w:World):(Op.equalIn 10000 68 (.agg #[iV (p:Int),iV 1,iV 0,iV 0,iV 0,iV 0]) (.agg #[iV (p:Int),iV 1,iV 0,iV 0,iV 0,iV 0])).run prog w=.ok true w:=by
 have h:p=0\/p=1\/p=2\/p=3:=by omega
 rcases h with rfl|rfl|rfl|rfl
 ·exact aMK w
 ·exact aN4 w
 ·exact aMP w
 ·exact aNj w
theorem aOv{es evs:List kJ}(h:es.map kJ.pl=evs.map kJ.pl)(hb:∀e∈evs,sW e):∀e∈es,sW e:=by
 intro e he;have h1:e.pl∈es.map kJ.pl:=List.mem_map_of_mem he;rw[h]at h1;obtain⟨f,hf,hfe⟩:=List.mem_map.1 h1;have h2:=hb f hf;obtain⟨a1,a2,a3,a4,⟨b1,b2,b3,b4,b5,b6,b7,b8,b9,b10,b11,b12,b13,b14⟩⟩:=e;obtain⟨d1,d2,d3,d4,⟨e1,e2,e3,e4,e5,e6,e7,e8,e9,e10,e11,e12,e13,e14⟩⟩:=f;simp only[kJ.pl,kJ.mk.injEq,KZ.mk.injEq]at hfe;obtain⟨rfl,_,_,rfl,rfl,_,_,rfl,rfl,rfl,_,_,rfl,_,_,rfl,rfl,rfl⟩:=hfe;exact⟨h2.bo,⟨h2.r.sn,h2.r.st,h2.r.me⟩⟩
theorem aNF{m0:Int}(D9:w.cell? (tZ 0 0)=some (iV m0))(hT:mg w t ta)(hI:pz w A li)(hm:li.length<=9223372036854775807)(hc:li.length<=c)(hD:lh w w.heap.size 7 AD nD pU ds)(hnD:nD<=9223372036854775807)(ha:∀d∈ds,d.a<=9223372036854775807):
  Calls prog 4 #[tY t ta A li.length c,.slice AD nD cD] w fun e w'=>e=.returned (.bool true)/\Below w.heap.size w w':=by
 obtain⟨w1,hw1⟩:∃w1,w.alloc (.cells (tq t ta A li.length c).toArray 29)=w1:=⟨_,rfl⟩;have hb1:Below w.heap.size w w1:=hw1▸ah _ _;have hX:ak w1 w.heap.size 29 (tq t ta A li.length c):=hw1▸ak.new w _ (tq t ta A li.length c);simp only[tq]at hw1;obtain⟨yb,EH⟩:∃yb,w.heap.size=yb:=⟨_,rfl⟩;have HYB:=hid EH;rw[EH]at hX;have HX:Hid (∀W,Below w1.heap.size w1 W->W.cell? (tZ yb 0)=some (iV t.frame)/\W.cell? (tZ yb 1)=some (.slice ta.A1 t.parts.length ta.c1)/\W.cell? (tZ yb 2)=some (.slice ta.A2 t.wins.length ta.c2)/\W.cell? (tZ yb 3)=some (.slice ta.A3 t.chans.length ta.c3)/\W.cell? (tZ yb 4)=some (iV t.trial)/\W.cell? (tZ yb 5)=some (.slice A li.length c)):=hid fun W hb=>by
  have h1:=hX.belowS hb;exact(by and_intros<;>exact h1.cellAt rfl)
 have IM:∀W,Below w.heap.size w W->pz W A li:=fun W hW=>⟨hI.rd.belowS hW,fun x hx=>⟨(hI.im x hx).1.belowS hW,(hI.im x hx).2⟩⟩
 have i2:=hid (fun W (hW:Below w.heap.size w W)=>aPf (c:=c) (aNb hT hW) (IM W hW) hm);have i3:=hid (fun W (hW:Below w.heap.size w W)=>aP2 (c:=cD) (hD.belowS hW) hnD);have i4:=hid (fun W (hW:Below w.heap.size w W) (hF:aO7 t li)=>aPg (c:=c) (aIb hT hW hF.right) (IM W hW) hF.right hF.parts hF.most hc hF.Df (by
  have h1:=aEk ((bK t).1 hF.right);omega))
 have HD:=hid (fun W (hW:Below w.heap.size w W)=>hD.belowS hW);have HAD:=hid ha;have HB:=hid hb1;have HM1:Hid (w1.cell? (tZ 0 0)=some (iV m0)):=hid ((hb1.cell (p:=⟨0,0,none⟩) (World.block_lt_of_cell? _ _ D9)).trans D9);unfold tY at i2 i4 ⊢;clear D9 hT hI hm hc hD hnD ha hb1 hX IM;go_enter func4,ntmps4;go_wp2_with fail;refine(aNP w1 HM1.out).mono ?_;rintro e w2⟨rfl,hb2⟩;have uz:=hid (ag HB.out hb2);have aS0:=hid hb2;obtain⟨d0,d1,d2,d3,d4,d5⟩:=HX.out w2 hb2;clear hb2 hw1;go_wp2_with fail;refine(i2.out _ uz.out).mono ?_;rintro e w3⟨b,rfl,hfit,hb3⟩;have vk:=hid (ag uz.out hb3);have HB13:=hid (ag aS0.out hb3);have HFT:=hid hfit;clear hb3 i2 hfit d0 d1 d2 d3 d4 d5;cases b with
 |false=>
  go_wp2_with fail;go_ret;exact⟨rfl,vk.out⟩
 |true=>
  go_wp2_with fail;refine(i3.out _ vk.out).mono ?_;rintro e w4⟨b,rfl,aRC,hb4⟩;have vI:=hid (ag vk.out hb4);have aRd:=hid (ag HB13.out hb4);obtain⟨d0,d1,d2,d3,d4,d5⟩:=HX.out w4 aRd.out;cases b with
  |true=>
   clear hb4 i3;go_wp2_with fail;go_ret;exact⟨rfl,vI.out⟩
  |false=>
   have LD:=aRC rfl;have HFP:=hid (HFT.out (by first|trivial|rfl));have i5:=hid (i4.out _ vI.out HFP.out);clear hb4 i3 aRC i4;go_wp2_with fail;refine i5.out.mono ?_;rintro e w5⟨kb,lk,rfl,FU⟩;have i6:=hid (aGf FU);clear i5 FU;go_wp2_with fail;refine i6.out.mono ?_;rintro e w6⟨rb,rfl,uQ⟩;have CN:=hid uQ;clear i6 uQ d0 d1 d2 d3 d4 d5;go_wp2_with fail;have HF:Hid (t.frame=((t.frame.toNat:Nat):Int)):=hid (by have:=((bK t).1 HFP.out.right).f1;omega);obtain⟨wo,hwo⟩:∃wo,w4=wo:=⟨_,rfl⟩;have wP:Hid (∀W,Below w4.heap.size w4 W->Below w.heap.size w W):=hid fun W hW=>ag vI.out hW
   have Ag:Hid (∃(evs:List kJ) (up:Bool) (T:Nat),evs.length<=0/\T<=0/\(∀e∈evs,sW e)/\ae w4 [oC rb kb lk evs,dJ kb lk t ((li.take t.parts.length).map fD.p) up T] w6):=hid ⟨[],false,0,Nat.le_refl _,Nat.le_refl _,fun e he=>(by cases he),CN.out⟩;clear CN;go_loopw [33] (fun v33 wr=>∃(k:Nat),k<=nD/\v33=iV (k:Int)/\Hid (∃(evs:List kJ) (up:Bool) (T:Nat),evs.length<=k/\T<=k/\(∀e∈evs,sW e)/\ae w4 [oC rb kb lk evs,dJ kb lk t ((li.take t.parts.length).map fD.p) up T] wr)) (fun v33 _=>nD-(Lib.intOf v33).toNat)
   case atStart=>exact⟨0,by omega,rfl,Ag⟩
   clear Ag;obtain⟨k,hk,rfl,Az⟩:=hrel;by_cases hkn:k<nD
   ·have hk3:k<300:=by omega
    obtain⟨evs,up,T,h1,h2,h3,h4⟩:=Az.out;obtain⟨ad,x,hA,_,hx,hc0,hc⟩:=(HD.out wr (wP.out _ h4.bel)).at_ hkn;subst hA;have hxa:=HAD.out x (List.mem_of_getElem? hx);have e0:wr.cell? (ad.add (k*7))=some (iV x.k):=hc0 _ rfl;have e1:wr.cell? (tZ ((ad.add (k*7)).block) ((ad.add (k*7)).off+1))=some (iV x.a):=hc 0 _ rfl;have e2:wr.cell? (tZ ((ad.add (k*7)).block) ((ad.add (k*7)).off+2))=some (iV x.b):=hc 1 _ rfl;have e3:wr.cell? (tZ ((ad.add (k*7)).block) ((ad.add (k*7)).off+3))=some (iV x.c):=hc 2 _ rfl;have e4:wr.cell? (tZ ((ad.add (k*7)).block) ((ad.add (k*7)).off+4))=some (iV x.d):=hc 3 _ rfl;have e5:wr.cell? (tZ ((ad.add (k*7)).block) ((ad.add (k*7)).off+5))=some (.int .u64 x.keep):=hc 4 _ rfl;have e6:wr.cell? (tZ ((ad.add (k*7)).block) ((ad.add (k*7)).off+6))=some (.slice x.A x.n x.cc):=hc 5 _ rfl;have q1:(0:Int)<=(k:Int):=Int.natCast_nonneg _;have q2:(k:Int)<(nD:Int):=by omega
    have H4:=hid h4;have yl:=hid h3;have i7:=hid (fun W (hW:Below wr.heap.size wr W) (h7:x.k≠7)=>aPR t.frame.toNat HF.out (h4.belowS hW) (by omega) (by omega) x hxa h7);unfold qC at i7;have yB:Hid (∀o,Below wr.heap.size wr (wr.alloc o)):=hid fun o=>ah wr o
    clear hc0 hc hx h4 h3 hxa;by_cases h7:x.k=7
    ·have q7:(x.k !=7)=false:=by simpa using h7
     clear h7;go_wp2_with fail;go_roundw;case rel=>exact⟨k+1,by omega,rfl,hid ⟨evs,up,T,by omega,by omega,yl.out,H4.out.belowS (yB.out _)⟩⟩
     case measure=>simp[Lib.intOf];omega
    ·have q7:(x.k !=7)=true:=by simpa using h7
     have i8:=hid (fun W (hW:Below wr.heap.size wr W)=>i7.out W hW h7);clear i7 h7;go_wp2_with fail;refine(i8.out _ (yB.out _)).mono ?_;rintro e w8⟨z,rfl,Bi,BU,T',g1,g2,g3,g4⟩;have HG:=hid g4;clear g4 i8;go_wp2_with fail;go_roundw;case rel=>exact⟨k+1,by omega,rfl,hid ⟨Bi,BU,T',by omega,by omega,g2 yl.out,HG.out⟩⟩
     case measure=>simp[Lib.intOf];omega
   ·obtain rfl:k=nD:=by omega
    obtain⟨evs,up,T,h1,h2,h3,h4⟩:=Az.out;have i9:=hid (fun W (hW:ae w4 [oC rb kb lk evs,dJ kb lk t ((li.take t.parts.length).map fD.p) up T] W)=>aPA hW (by omega) h3);have HV:=hid h4;have HE:=hid h3;have i10:=hid (i9.out _ h4);clear h4 h3 Az;go_wp2_with fail;refine i10.out.mono ?_;rintro e w9⟨A9,c9,es,rfl,hpl,h9⟩;have HL:=hid h9;clear i10 h9;go_wp2_with fail;have hN3:evs.length<=300:=by omega
    have HV9:Hid (ae w4 [oC rb kb lk evs,dJ kb lk t ((li.take t.parts.length).map fD.p) up T] w9):=hid (ae.tail (L:=aA 57 11 A9 evs.length c9 (es.flatMap lj)::es.map lu) HL.out);obtain⟨wz,hwz⟩:∃wz,wz=wr:=⟨_,rfl⟩;have hbz:Below w4.heap.size w4 wr:=HV.out.bel;clear HV;subst hwz;go_loopw [47] (fun v47 wr=>∃(j:Nat),j<=evs.length/\v47=iV (j:Int)/\Hid (ae w4 (aA 57 11 A9 evs.length c9 (es.flatMap lj)::(es.map lu++[oC rb kb lk evs,dJ kb lk t ((li.take t.parts.length).map fD.p) up T])) wr)) (fun v47 _=>evs.length-(Lib.intOf v47).toNat)
    case atStart=>exact⟨0,by omega,rfl,HL⟩
    obtain⟨j,hj,rfl,Dl⟩:=hrel;by_cases hjn:j<evs.length
    ·have hes:es.length=evs.length:=by
      have:=congrArg List.length hpl;simpa using this
     obtain⟨ev,hev⟩:∃ev,es[j]? =some ev:=⟨_,List.getElem?_eq_getElem (by omega)⟩;obtain⟨g,hg,_,_⟩:=dG Dl.out.own (by omega);subst hg;have ve0:=(gI Dl.out hev 0 _ rfl).1;have ve1:=(gI Dl.out hev 1 _ rfl).1;have ve2:=(gI Dl.out hev 2 _ rfl).1;have ve3:=(gI Dl.out hev 3 _ rfl).1;have ve4:=(gI Dl.out hev 4 _ rfl).1;have ve5:=(gI Dl.out hev 5 _ rfl).1;have ve6:=(gI Dl.out hev 6 _ rfl).1;have ve7:=(gI Dl.out hev 7 _ rfl).1;have ve8:=(gI Dl.out hev 8 _ rfl).1;have ve9:=(gI Dl.out hev 9 _ rfl).1;have ve10:=(gI Dl.out hev 10 _ rfl).1;rw[Nat.add_zero]at ve0;have q1:(0:Int)<=(j:Int):=Int.natCast_nonneg _;have q2:(j:Int)<(evs.length:Int):=by omega
     have hj3:j<300:=by omega
     have HLo:Hid (∀o,ae w4 (aA 57 11 (some (tZ g 0)) evs.length c9 (es.flatMap lj)::(es.map lu++[oC rb kb lk evs,dJ kb lk t ((li.take t.parts.length).map fD.p) up T])) (wr.alloc o)):=hid fun o=>Dl.out.alloc o
     go_wp2_with fail;go_roundw;case rel=>exact⟨j+1,by omega,rfl,hid (HLo.out _)⟩
     case measure=>simp[Lib.intOf];omega
    ·obtain rfl:j=evs.length:=by omega
     have Gl:Hid (ae w4 [oC rb kb lk evs,dJ kb lk t ((li.take t.parts.length).map fD.p) up T] wr):=hid (ae.tail (L:=aA 57 11 A9 evs.length c9 (es.flatMap lj)::es.map lu) Dl.out);obtain⟨d0,d1,d2,d3,d4,d5⟩:=HX.out wr (ag aRd.out Gl.out.bel);clear Dl HL hpl hbz HV9;go_wp2_with fail;clear d0 d1 d2 d3 d4 d5;have hpT:Hid (t.parts.length<=4):=hid ((bK t).1 HFP.out.right).p2;obtain⟨wz,hwz⟩:∃wz,wz=wr:=⟨_,rfl⟩;subst hwz;go_loopw [58] (fun v58 wr=>∃(p:Nat),p<=t.parts.length/\v58=iV (p:Int)/\Hid (ae w4 [oC rb kb lk evs,dJ kb lk t ((li.take t.parts.length).map fD.p) up T] wr)) (fun v58 _=>t.parts.length-(Lib.intOf v58).toNat)
     case atStart=>exact⟨0,by omega,rfl,Gl⟩
     obtain⟨p,hp,rfl,HP⟩:=hrel;by_cases Gi:p<t.parts.length
     ·have FQ:p<4:=by have:=hpT.out;omega
      have i11:=hid (i9.out _ HP.out);go_wp2_with fail;refine i11.out.mono ?_;rintro e wa⟨Aa,ca,ea,rfl,FM,hLa⟩;have i12:=hid (aHy (c:=ca) (by have h1:=congrArg List.length FM;simp only[List.length_map]at h1;rw[<-h1]at hLa;exact hLa) (by have h1:=congrArg List.length FM;simp only[List.length_map]at h1;omega) (aOv FM HE.out) p);rw[show ea.length=evs.length from by have h1:=congrArg List.length FM;simpa using h1]at i12;have HPa:Hid (ae w4 [oC rb kb lk evs,dJ kb lk t ((li.take t.parts.length).map fD.p) up T] wa):=hid (ae.tail (L:=aA 57 11 Aa evs.length ca (ea.flatMap lj)::ea.map lu) hLa);clear i11 hLa FM;go_wp2_with fail;refine i12.out.mono ?_;rintro e wb⟨rfl,hbb⟩;have HPb:=hid (HPa.out.belowS hbb);have i13:=hid (aOf (HPb.out.at_ 1 rfl).AK Gi);unfold lC aQ at i13;simp only at i13;have hnq:=fun w=>aOT p FQ w
      clear i12 hbb;go_wp2_with fail;refine i13.out.mono ?_;rintro e wc⟨rfl,hbc⟩;have HPc:=hid (HPb.out.belowS hbc);clear i13 hbc;go_wp2_with fail;go_roundw;case rel=>exact⟨p+1,by omega,rfl,HPc⟩
      case measure=>simp[Lib.intOf];omega
     ·obtain rfl:p=t.parts.length:=by omega
      go_wp2_with fail;go_ret;exact⟨rfl,wP.out _ HP.out.bel⟩
end
end Go.Proofs.YtfjkpigldogkeaaGreatDoor
