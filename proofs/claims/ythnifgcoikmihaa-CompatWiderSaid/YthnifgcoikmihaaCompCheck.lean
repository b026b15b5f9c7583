/-
  Package compat: Check, Fits.
-/
import Derived.Test.YthnifgcoikmihaaCompAsk
import Derived.Laws.EntriesVeiled
namespace Go.Proofs.Ythnifgcoikmihaa
open Go.RowKit

def firstBad : List (Bool × Int) → Int
  | [] => 0
  | (b, e) :: l => if b then firstBad l else e
def asksB (t : TabS) (p : Int) (i : ImgS) (v : Int) : List (Bool × Int) := [(mineB t (partQ t p) p i, 12), (smallB (partQ t p) i, 14), (wiredB t p i, 15), (decide (v < i.ver), 13)]
theorem checkE_bad (t : TabS) (p : Int) (i : ImgS) (v : Int) (h1 : rightB t = true) (h2 : hasB t p = true) (h3 : rightI i = true) : checkE t p i v = firstBad (asksB t p i v) := by
  unfold checkE asksB firstBad firstBad firstBad firstBad firstBad
  rw [h1, h2, h3]
  cases mineB t (partQ t p) p i <;> cases smallB (partQ t p) i <;> cases wiredB t p i <;> cases decide (v < i.ver) <;> rfl
def imgC (i : ImgS) (A : Option Addr) (c : Nat) : List Value := [.int .i64 i.part, .int .i64 i.ver, .int .i64 i.hard, .int .i64 i.mem, .int .i64 i.fuel, .int .i64 i.sends, .int .i64 i.recvs, .slice A i.code.length c]
theorem two_box (t : TabS) (a : TabA) (i : ImgS) (A : Option Addr) (c : Nat) (w : World) : ∃ w1 : World, (w.alloc (.cells #[.int .i64 t.frame, .slice a.A1 t.parts.length a.c1, .slice a.A2 t.wins.length a.c2, .slice a.A3 t.chans.length a.c3, .int .i64 t.trial] 55)).alloc (.cells #[.int .i64 i.part, .int .i64 i.ver, .int .i64 i.hard, .int .i64 i.mem, .int .i64 i.fuel, .int .i64 i.sends, .int .i64 i.recvs, .slice A i.code.length c] 63) = w1 ∧ Below w.heap.size w w1 ∧ Blk w1 w.heap.size 55 (tabC t a) ∧ Blk w1 (w.heap.size + 1) 63 (imgC i A c) := by
  refine ⟨_, rfl, ((Below.refl _ _).alloc (Nat.le_refl _) _).alloc (by simp) _, (Blk.new w _ (tabC t a)).alloc _, ?_⟩
  have := Blk.new (w.alloc (.cells #[.int .i64 t.frame, .slice a.A1 t.parts.length a.c1, .slice a.A2 t.wins.length a.c2, .slice a.A3 t.chans.length a.c3, .int .i64 t.trial] 55)) 63 (imgC i A c)
  rw [World.size_alloc] at this
  exact this
theorem img_cellsC {w : World} {g : Nat} {i : ImgS} {A : Option Addr} {c : Nat} (h : Blk w g 63 (imgC i A c)) :
    w.cell? ⟨g, 0, none⟩ = some (.int .i64 i.part) ∧ w.cell? ⟨g, 1, none⟩ = some (.int .i64 i.ver) ∧ w.cell? ⟨g, 2, none⟩ = some (.int .i64 i.hard) ∧ w.cell? ⟨g, 3, none⟩ = some (.int .i64 i.mem) ∧ w.cell? ⟨g, 4, none⟩ = some (.int .i64 i.fuel) ∧ w.cell? ⟨g, 5, none⟩ = some (.int .i64 i.sends) ∧ w.cell? ⟨g, 6, none⟩ = some (.int .i64 i.recvs) ∧ w.cell? ⟨g, 7, none⟩ = some (.slice A i.code.length c) :=
  ⟨h.cellAt rfl, h.cellAt rfl, h.cellAt rfl, h.cellAt rfl, h.cellAt rfl, h.cellAt rfl, h.cellAt rfl, h.cellAt rfl⟩
abbrev arrV : Value := .agg #[.func (Fn.func 51) #[] #[], .int .i64 12, .func (Fn.func 52) #[] #[], .int .i64 14, .func (Fn.func 53) #[] #[], .int .i64 15, .func (Fn.func 54) #[] #[], .int .i64 13]
theorem arr0 (w : World) : (Instr.index 98 arrV (.int .i64 0)).run Try.prog w = .ok (.agg #[.func (Fn.func 51) #[] #[], .int .i64 12]) w := by kernel_rfl
theorem arr1 (w : World) : (Instr.index 98 arrV (.int .i64 1)).run Try.prog w = .ok (.agg #[.func (Fn.func 52) #[] #[], .int .i64 14]) w := by kernel_rfl
theorem arr2 (w : World) : (Instr.index 98 arrV (.int .i64 2)).run Try.prog w = .ok (.agg #[.func (Fn.func 53) #[] #[], .int .i64 15]) w := by kernel_rfl
theorem arr3 (w : World) : (Instr.index 98 arrV (.int .i64 3)).run Try.prog w = .ok (.agg #[.func (Fn.func 54) #[] #[], .int .i64 13]) w := by kernel_rfl
set_option maxRecDepth 100000 in
set_option maxHeartbeats 4000000 in
theorem check_any (t : TabS) (a : TabA) (p : Int) (i : ImgS) (A : Option Addr) (c : Nat) (v : Int) (w : World) (h : TabOk w t a) (hl : i.code.length ≤ 9223372036854775807) :
    Calls Try.prog 33 #[tabV t a, .int .i64 p, imgV i A c, .int .i64 v] w fun e w' => e = .returned (.int .i64 (checkE t p i v)) ∧ Below w.heap.size w w' := by
  obtain ⟨w1, hw1, hb1, hT, hI⟩ := two_box t a i A c w
  have HE : Hid (checkE t p i v = if rightB t = false then 9 else if hasB t p = false ∨ rightI i = false then 3 else if mineB t (partQ t p) p i = false then 12
  else if smallB (partQ t p) i = false then 14 else if wiredB t p i = false then 15 else if decide (v < i.ver) = false then 13 else 0) := hid rfl
  have HF := hid (fun a b c => (checkE_bad t p i v a b c).trans (show firstBad (asksB t p i v) = firstBad [(mineB t (partQ t p) p i, 12), (smallB (partQ t p) i, 14), (wiredB t p i, 15), (decide (v < i.ver), 13)] from rfl))
  have HOK := hid (fun w' (hb : Below w.heap.size w w') => h.belowS hb)
  have hn1 := h.n1
  have j1 := hid (right_any t a w1 (h.belowS hb1))
  have j2 := hid (fun w => compHas_any t a p w hn1)
  have j3 := hid (fun w => imgRight_any i A c w hl)
  have k1 := hid (fun w' (hb : Below w.heap.size w w') (hp : hasB t p = true) => mine_any t a p i A c v w' (h.belowS hb) hp)
  have k2 := hid (fun w' (hb : Below w.heap.size w w') (hp : hasB t p = true) => small_any t a p i A c v w' (h.belowS hb) hp)
  have k3 := hid (fun w' (hb : Below w.heap.size w w') (hp : hasB t p = true) (hi : rightI i = true) => wired_any t a p i A c v w' (h.belowS hb) hp ((rightI_iff i).1 hi).2.2.2.2.2.1.1 ((rightI_iff i).1 hi).2.2.2.2.2.1.2 ((rightI_iff i).1 hi).2.2.2.2.2.2.1.1 ((rightI_iff i).1 hi).2.2.2.2.2.2.1.2)
  have k4 := hid (fun w' => newer_any t a p i A c v w')
  have em : mineB t (partQ t p) p i = ((i.part == p) && (i.hard == (partQ t p).hard)) := rfl
  have es : smallB (partQ t p) i = (decide (i.mem ≤ (partQ t p).mem) && decide (i.fuel ≤ (partQ t p).fuel)) := rfl
  rw [← em] at k1
  rw [← es] at k2
  clear h em es
  obtain ⟨A1, q1, A2, q2, A3, q3⟩ := a
  obtain ⟨i0, i1, i2, i3, i4, i5, i6, code⟩ := i
  simp only [tabV, imgV, askV] at hw1 j1 j2 j3 k1 k2 k3 k4 hl ⊢
  generalize checkE t p ⟨i0, i1, i2, i3, i4, i5, i6, code⟩ v = R at *
  generalize rightB t = r1 at *
  generalize hasB t p = r2 at *
  generalize rightI ⟨i0, i1, i2, i3, i4, i5, i6, code⟩ = r3 at *
  generalize mineB t (partQ t p) p ⟨i0, i1, i2, i3, i4, i5, i6, code⟩ = b1 at *
  generalize smallB (partQ t p) ⟨i0, i1, i2, i3, i4, i5, i6, code⟩ = b2 at *
  generalize wiredB t p ⟨i0, i1, i2, i3, i4, i5, i6, code⟩ = b3 at *
  generalize hb4 : decide (v < i1) = b4 at *
  clear hb4
  simp only [tabC] at hT
  simp only [imgC] at hI
  generalize code.length = n at *
  obtain ⟨c0, c1, c2, c3, c4⟩ : _ ∧ _ ∧ _ ∧ _ ∧ _ := ⟨hT.cellAt (i := 0) rfl, hT.cellAt (i := 1) rfl, hT.cellAt (i := 2) rfl, hT.cellAt (i := 3) rfl, hT.cellAt (i := 4) rfl⟩
  go_enter Try.func33, Try.ntmps33
  go_wp2_with fail
  clear hw1
  refine j1.out.mono ?_
  rintro e w2 ⟨rfl, hb2⟩
  have hT2 := hT.belowS hb2
  have hI2 := hI.belowS hb2
  have hb02 := bel_trans hb1 hb2
  clear c0 c1 c2 c3 c4 hT hI hb1 hb2 j1
  cases r1 with
  | false =>
    have hR : R = 9 := by rw [HE.out]; rfl
    subst hR
    clear hT2 hI2
    go_wp2_with fail
    go_ret
    exact ⟨rfl, hb02⟩
  | true =>
    obtain ⟨c0, c1, c2, c3, c4⟩ : _ ∧ _ ∧ _ ∧ _ ∧ _ := ⟨hT2.cellAt (i := 0) rfl, hT2.cellAt (i := 1) rfl, hT2.cellAt (i := 2) rfl, hT2.cellAt (i := 3) rfl, hT2.cellAt (i := 4) rfl⟩
    go_wp2_with fail
    refine (j2.out _).mono ?_
    rintro e w3 ⟨rfl, hb3⟩
    have hT3 := hT2.belowS hb3
    have hI3 := hI2.belowS hb3
    have hb03 := bel_trans hb02 hb3
    clear c0 c1 c2 c3 c4 hT2 hI2 hb02 hb3 j2
    cases r2 with
    | false =>
      have hR : R = 3 := by rw [HE.out]; rfl
      subst hR
      clear hT3 hI3
      go_wp2_with fail
      go_ret
      exact ⟨rfl, hb03⟩
    | true =>
      obtain ⟨d0, d1, d2, d3, d4, d5, d6, d7⟩ : _ ∧ _ ∧ _ ∧ _ ∧ _ ∧ _ ∧ _ ∧ _ := ⟨hI3.cellAt (i := 0) rfl, hI3.cellAt (i := 1) rfl, hI3.cellAt (i := 2) rfl, hI3.cellAt (i := 3) rfl, hI3.cellAt (i := 4) rfl, hI3.cellAt (i := 5) rfl, hI3.cellAt (i := 6) rfl, hI3.cellAt (i := 7) rfl⟩
      go_wp2_with fail
      refine (j3.out _).mono ?_
      rintro e w4 ⟨rfl, hb4⟩
      have hT4 := hT3.belowS hb4
      have hI4 := hI3.belowS hb4
      have hb04 := bel_trans hb03 hb4
      clear d0 d1 d2 d3 d4 d5 d6 d7 hT3 hI3 hb03 hb4 j3
      cases r3 with
      | false =>
        have hR : R = 3 := by rw [HE.out]; rfl
        subst hR
        clear hT4 hI4
        go_wp2_with fail
        go_ret
        exact ⟨rfl, hb04⟩
      | true =>
        have HR := hid (HF.out (by first | trivial | rfl) (by first | trivial | rfl) (by first | trivial | rfl))
        clear HE HF
        go_wp2_with fail
        have HB4 := hid hb04
        have HT4 := hid hT4
        have HI4 := hid hI4
        clear hb04 hT4 hI4
        go_loopw [8, 10, 30] (fun _ _ v30 wr => ∃ k : Nat, k ≤ 4 ∧ v30 = .int .i64 (k : Int) ∧ Hid (R = firstBad (List.drop k [(b1, 12), (b2, 14), (b3, 15), (b4, 13)])) ∧ Below w.heap.size w wr ∧ Blk wr w.heap.size 55 [.int .i64 t.frame, .slice A1 t.parts.length q1, .slice A2 t.wins.length q2, .slice A3 t.chans.length q3, .int .i64 t.trial] ∧ Blk wr (w.heap.size + 1) 63 [.int .i64 i0, .int .i64 i1, .int .i64 i2, .int .i64 i3, .int .i64 i4, .int .i64 i5, .int .i64 i6, .slice A n c]) (fun _ _ v30 _ => 4 - (intOf v30).toNat)
        case atStart => exact ⟨0, by omega, rfl, HR, HB4.out, HT4.out, HI4.out⟩
        case round =>
          clear HB4 HT4 HI4 HR
          obtain ⟨k, hk, rfl, HR, hbel, hT, hI⟩ := hrel
          have hk5 : k = 0 ∨ k = 1 ∨ k = 2 ∨ k = 3 ∨ k = 4 := by omega
          rcases hk5 with rfl | rfl | rfl | rfl | rfl
          · have a0 := arr0
            have hT1 := fun o => hT.alloc (w := wr) o
            have hI1 := fun o => hI.alloc (w := wr) o
            have c0 := fun o => (hT1 o).cellAt (i := 0) rfl
            have c1 := fun o => (hT1 o).cellAt (i := 1) rfl
            have c2 := fun o => (hT1 o).cellAt (i := 2) rfl
            have c3 := fun o => (hT1 o).cellAt (i := 3) rfl
            have c4 := fun o => (hT1 o).cellAt (i := 4) rfl
            have d0 := fun o => (hI1 o).cellAt (i := 0) rfl
            have d1 := fun o => (hI1 o).cellAt (i := 1) rfl
            have d2 := fun o => (hI1 o).cellAt (i := 2) rfl
            have d3 := fun o => (hI1 o).cellAt (i := 3) rfl
            have d4 := fun o => (hI1 o).cellAt (i := 4) rfl
            have d5 := fun o => (hI1 o).cellAt (i := 5) rfl
            have d6 := fun o => (hI1 o).cellAt (i := 6) rfl
            have d7 := fun o => (hI1 o).cellAt (i := 7) rfl
            go_wp2_with fail
            refine (k1.out _ (bel_alloc hbel _) trivial).mono ?_
            rintro e wz ⟨rfl, hbz⟩
            have HZ := hid (bel_trans (bel_alloc hbel _) hbz)
            have hTz := hid ((hT1 _).belowS hbz)
            have hIz := hid ((hI1 _).belowS hbz)
            have e1 : wz.cell? ⟨wr.heap.size, 1, none⟩ = some (.int .i64 12) := (Blk.new wr 97 [.func (Fn.func 51) #[] #[], .int .i64 12]).belowS hbz |>.cellAt rfl
            clear c0 c1 c2 c3 c4 d0 d1 d2 d3 d4 d5 d6 d7 hT1 hI1
            cases b1 with
            | false =>
              have hR : R = 12 := by rw [HR.out]; rfl
              subst hR
              go_wp2_with fail
              go_ret
              exact ⟨rfl, HZ.out⟩
            | true =>
              have HR2 : Hid (R = firstBad (List.drop 1 [(true, 12), (b2, 14), (b3, 15), (b4, 13)])) := hid (by rw [HR.out]; rfl)
              go_wp2_with fail
              go_roundw
              case rel => exact ⟨1, by omega, by go_num, HR2, HZ.out, hTz.out, hIz.out⟩
              case measure => simp [intOf]
          · have a1 := arr1
            have hT1 := fun o => hT.alloc (w := wr) o
            have hI1 := fun o => hI.alloc (w := wr) o
            have c0 := fun o => (hT1 o).cellAt (i := 0) rfl
            have c1 := fun o => (hT1 o).cellAt (i := 1) rfl
            have c2 := fun o => (hT1 o).cellAt (i := 2) rfl
            have c3 := fun o => (hT1 o).cellAt (i := 3) rfl
            have c4 := fun o => (hT1 o).cellAt (i := 4) rfl
            have d0 := fun o => (hI1 o).cellAt (i := 0) rfl
            have d1 := fun o => (hI1 o).cellAt (i := 1) rfl
            have d2 := fun o => (hI1 o).cellAt (i := 2) rfl
            have d3 := fun o => (hI1 o).cellAt (i := 3) rfl
            have d4 := fun o => (hI1 o).cellAt (i := 4) rfl
            have d5 := fun o => (hI1 o).cellAt (i := 5) rfl
            have d6 := fun o => (hI1 o).cellAt (i := 6) rfl
            have d7 := fun o => (hI1 o).cellAt (i := 7) rfl
            go_wp2_with fail
            refine (k2.out _ (bel_alloc hbel _) trivial).mono ?_
            rintro e wz ⟨rfl, hbz⟩
            have HZ := hid (bel_trans (bel_alloc hbel _) hbz)
            have hTz := hid ((hT1 _).belowS hbz)
            have hIz := hid ((hI1 _).belowS hbz)
            have e1 : wz.cell? ⟨wr.heap.size, 1, none⟩ = some (.int .i64 14) := (Blk.new wr 97 [.func (Fn.func 52) #[] #[], .int .i64 14]).belowS hbz |>.cellAt rfl
            clear c0 c1 c2 c3 c4 d0 d1 d2 d3 d4 d5 d6 d7 hT1 hI1
            cases b2 with
            | false =>
              have hR : R = 14 := by rw [HR.out]; rfl
              subst hR
              go_wp2_with fail
              go_ret
              exact ⟨rfl, HZ.out⟩
            | true =>
              have HR2 : Hid (R = firstBad (List.drop 2 [(b1, 12), (true, 14), (b3, 15), (b4, 13)])) := hid (by rw [HR.out]; rfl)
              go_wp2_with fail
              go_roundw
              case rel => exact ⟨2, by omega, by go_num, HR2, HZ.out, hTz.out, hIz.out⟩
              case measure => simp [intOf]
          · have a2 := arr2
            have hT1 := fun o => hT.alloc (w := wr) o
            have hI1 := fun o => hI.alloc (w := wr) o
            have c0 := fun o => (hT1 o).cellAt (i := 0) rfl
            have c1 := fun o => (hT1 o).cellAt (i := 1) rfl
            have c2 := fun o => (hT1 o).cellAt (i := 2) rfl
            have c3 := fun o => (hT1 o).cellAt (i := 3) rfl
            have c4 := fun o => (hT1 o).cellAt (i := 4) rfl
            have d0 := fun o => (hI1 o).cellAt (i := 0) rfl
            have d1 := fun o => (hI1 o).cellAt (i := 1) rfl
            have d2 := fun o => (hI1 o).cellAt (i := 2) rfl
            have d3 := fun o => (hI1 o).cellAt (i := 3) rfl
            have d4 := fun o => (hI1 o).cellAt (i := 4) rfl
            have d5 := fun o => (hI1 o).cellAt (i := 5) rfl
            have d6 := fun o => (hI1 o).cellAt (i := 6) rfl
            have d7 := fun o => (hI1 o).cellAt (i := 7) rfl
            go_wp2_with fail
            refine (k3.out _ (bel_alloc hbel _) trivial trivial).mono ?_
            rintro e wz ⟨rfl, hbz⟩
            have HZ := hid (bel_trans (bel_alloc hbel _) hbz)
            have hTz := hid ((hT1 _).belowS hbz)
            have hIz := hid ((hI1 _).belowS hbz)
            have e1 : wz.cell? ⟨wr.heap.size, 1, none⟩ = some (.int .i64 15) := (Blk.new wr 97 [.func (Fn.func 53) #[] #[], .int .i64 15]).belowS hbz |>.cellAt rfl
            clear c0 c1 c2 c3 c4 d0 d1 d2 d3 d4 d5 d6 d7 hT1 hI1
            cases b3 with
            | false =>
              have hR : R = 15 := by rw [HR.out]; rfl
              subst hR
              go_wp2_with fail
              go_ret
              exact ⟨rfl, HZ.out⟩
            | true =>
              have HR2 : Hid (R = firstBad (List.drop 3 [(b1, 12), (b2, 14), (true, 15), (b4, 13)])) := hid (by rw [HR.out]; rfl)
              go_wp2_with fail
              go_roundw
              case rel => exact ⟨3, by omega, by go_num, HR2, HZ.out, hTz.out, hIz.out⟩
              case measure => simp [intOf]
          · have a3 := arr3
            have hT1 := fun o => hT.alloc (w := wr) o
            have hI1 := fun o => hI.alloc (w := wr) o
            have c0 := fun o => (hT1 o).cellAt (i := 0) rfl
            have c1 := fun o => (hT1 o).cellAt (i := 1) rfl
            have c2 := fun o => (hT1 o).cellAt (i := 2) rfl
            have c3 := fun o => (hT1 o).cellAt (i := 3) rfl
            have c4 := fun o => (hT1 o).cellAt (i := 4) rfl
            have d0 := fun o => (hI1 o).cellAt (i := 0) rfl
            have d1 := fun o => (hI1 o).cellAt (i := 1) rfl
            have d2 := fun o => (hI1 o).cellAt (i := 2) rfl
            have d3 := fun o => (hI1 o).cellAt (i := 3) rfl
            have d4 := fun o => (hI1 o).cellAt (i := 4) rfl
            have d5 := fun o => (hI1 o).cellAt (i := 5) rfl
            have d6 := fun o => (hI1 o).cellAt (i := 6) rfl
            have d7 := fun o => (hI1 o).cellAt (i := 7) rfl
            go_wp2_with fail
            refine (k4.out _).mono ?_
            rintro e wz ⟨rfl, hbz⟩
            have HZ := hid (bel_trans (bel_alloc hbel _) hbz)
            have hTz := hid ((hT1 _).belowS hbz)
            have hIz := hid ((hI1 _).belowS hbz)
            have e1 : wz.cell? ⟨wr.heap.size, 1, none⟩ = some (.int .i64 13) := (Blk.new wr 97 [.func (Fn.func 54) #[] #[], .int .i64 13]).belowS hbz |>.cellAt rfl
            clear c0 c1 c2 c3 c4 d0 d1 d2 d3 d4 d5 d6 d7 hT1 hI1
            cases b4 with
            | false =>
              have hR : R = 13 := by rw [HR.out]; rfl
              subst hR
              go_wp2_with fail
              go_ret
              exact ⟨rfl, HZ.out⟩
            | true =>
              have HR2 : Hid (R = firstBad (List.drop 4 [(b1, 12), (b2, 14), (b3, 15), (true, 13)])) := hid (by rw [HR.out]; rfl)
              go_wp2_with fail
              go_roundw
              case rel => exact ⟨4, by omega, by go_num, HR2, HZ.out, hTz.out, hIz.out⟩
              case measure => simp [intOf]
          · have hR : R = 0 := by rw [HR.out]; rfl
            subst hR
            go_wp2_with fail
            go_ret
            exact ⟨rfl, hbel⟩
end Go.Proofs.Ythnifgcoikmihaa
