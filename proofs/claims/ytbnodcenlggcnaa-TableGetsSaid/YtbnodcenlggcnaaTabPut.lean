/-
  table.Put: the bytes of a table that is right.
-/
import Derived.Test.YtbnodcenlggcnaaTabGA
import Derived.Test.YtbnodcenlggcnaaTabR
namespace Go.Proofs.Ytbnodcenlggcnaa
open Go.RowKit

theorem cell_allocH {w : World} {p : Addr} {u : Value} (h : w.cell? p = some u) (o : Obj) : (w.alloc o).cell? p = some u := (World.cell?_of_block (Below.heap_alloc _ _ _ (World.block_lt_of_cell? w p h))).trans h
theorem tab_inG (t : TabS) (a : TabA) (w : World) : ∃ w1 : World, w.alloc (.cells #[.int .i64 t.frame, .slice a.A1 t.parts.length a.c1, .slice a.A2 t.wins.length a.c2, .slice a.A3 t.chans.length a.c3, .int .i64 t.trial] 26) = w1 ∧ Below w.heap.size w w1 ∧ Blk w1 w.heap.size 26 (tabC t a) :=
  ⟨_, rfl, (Below.refl _ _).alloc (Nat.le_refl _) _, Blk.new w _ (tabC t a)⟩
/-- A variable that holds bytes of the call's own. -/
def BufAt (w : World) (g : Nat) (bs : List UInt8) : Prop := ∃ A c, Blk w g 62 [.slice A bs.length c] ∧ w.ownsRow (g + 1) 5 1 (.slice A bs.length c) bs.length (bs.map bV)
section
variable {w w' : World} {g : Nat} {bs cs : List UInt8}
theorem BufAt.lt (h : BufAt w g bs) : g < w.heap.size := by obtain ⟨_, _, h, _⟩ := h; exact h.lt
theorem BufAt.belowS (h : BufAt w g bs) (hb : Below w.heap.size w w') : BufAt w' g bs := by
  obtain ⟨A, c, h1, h2⟩ := h
  exact ⟨A, c, h1.belowS hb, own_below h2 hb⟩
theorem BufAt.store (h : BufAt w g bs) (hb : Below w.heap.size w w') {N : Nat} (hN : cs.length = N) {A : Option Addr} {c : Nat} (ho : w'.ownsRow w.heap.size 5 1 (.slice A N c) N (cs.map bV)) :
    BufAt (w'.setCell ⟨g, 0, none⟩ (.slice A N c)) g cs ∧ w.grownBy (w'.setCell ⟨g, 0, none⟩ (.slice A N c)) (some g) := by
  subst hN
  have hl := h.lt
  obtain ⟨A1, c1, h1, h2⟩ := h
  refine ⟨⟨A, c, (h1.belowS hb).set_ 0 _, own_keepG (own_mono ho (by omega)) fun b hb2 => Below.heap_setCell _ _ _ _ (fun e => by have := (own_rng ho hb2).1; simp at e; omega)⟩, hb.os, hb.tape, hb.output, by simpa [World.setCell] using hb.size, fun k hk hne => (Below.heap_setCell _ _ _ _ (fun e => hne (by simp at e; rw [e]))).trans (hb.block k hk)⟩
end
def puts (l : List Int) : List UInt8 := l.flatMap fun x => putB x 1
theorem puts_snoc (l : List Int) (x : Int) : puts (l ++ [x]) = puts l ++ putB x 1 := by simp [puts]
theorem puts_len (l : List Int) : (puts l).length = l.length := by
  induction l with
  | nil => rfl
  | cons x l ih => simp only [puts, List.flatMap_cons, List.length_append, putB_length, List.length_cons] at ih ⊢; omega
theorem putW (W : Nat) (ww : Int) (hW : wid ww = W) (A : Option Addr) (n c : Nat) (bs : List UInt8) (x : Int) (w : World) (h : Reads w w.heap.size 1 A n (bs.map bV)) (hn : n ≤ 100000000) :
    Calls Try.prog 55 #[.slice A n c, .int .i64 x, .int .i64 ww] w fun e w' => ∃ A' c', e = .returned (.slice A' (n + W) c') ∧ w'.ownsRow w.heap.size 5 1 (.slice A' (n + W) c') (n + W) ((bs ++ putB x W).map bV) ∧ Below w.heap.size w w' := by
  subst hW
  exact put_any A n c bs x ww w h hn
theorem grown_trans1 {a b c : World} {g : Nat} (h : a.grownBy b (some g)) (k : b.grownBy c (some g)) : a.grownBy c (some g) :=
  ⟨k.os.trans h.os, k.tape.trans h.tape, k.output.trans h.output, Nat.le_trans h.size k.size, fun i hi hne => (k.block i (Nat.lt_of_lt_of_le hi h.size) hne).trans (h.block i hi hne)⟩
set_option maxRecDepth 100000 in
set_option maxHeartbeats 2000000 in
theorem put1_any (g : Nat) (bs : List UInt8) (l : List Int) (AL : Option Addr) (cl : Nat) (w : World) (h : BufAt w g bs) (hl : Reads w w.heap.size 1 AL l.length (l.map iV)) (hne : ∀ ad, AL = some ad → ad.block ≠ g) (hn : bs.length + l.length ≤ 100000) :
    Calls Try.prog 54 #[.slice AL l.length cl, .pointer (some ⟨g, 0, none⟩)] w fun e w' => e = .returned (.tuple #[]) ∧ BufAt w' g (bs ++ puts l) ∧ w.grownBy w' (some g) := by
  obtain ⟨n, hln⟩ : ∃ n, l.length = n := ⟨_, rfl⟩
  have HLN := hid hln
  rw [hln] at hl hn ⊢
  have HLC : Hid (∀ wr, w.grownBy wr (some g) → ∀ k, k < n → ∃ ad x, AL = some ad ∧ l[k]? = some x ∧ wr.cell? (ad.add k) = some (iV x)) := hid (fun wr hg k hk => by
    obtain ⟨ad, x, h1, h2, h3, h4⟩ := hl.atM hk
    exact ⟨ad, x, h1, h3, (World.cell?_of_block (hg.block _ (by rw [block_add]; exact h2) (fun e => by injection e with e; rw [block_add] at e; exact hne ad h1 e))).trans h4⟩)
  have HB := hid h
  clear h hl hne hln
  go_enter Try.func54, Try.ntmps54
  go_wp2_with fail
  go_loopw [7] (fun v7 wr => ∃ k : Nat, k ≤ n ∧ v7 = .int .i64 (k : Int) ∧ BufAt wr g (bs ++ puts (l.take k)) ∧ w.grownBy wr (some g)) (fun v7 _ => n - (intOf v7).toNat)
  case atStart => exact ⟨0, by omega, rfl, by simpa [puts] using HB.out, ⟨rfl, rfl, rfl, Nat.le_refl _, fun _ _ _ => rfl⟩⟩
  case round =>
    obtain ⟨k, hk, rfl, hbuf, hgr⟩ := hrel
    by_cases hkn : k < n
    · have y0 : decide ((k : Int) < (n : Int)) = true := decide_eq_true (by omega)
      obtain ⟨ad, x, rfl, hx, hc⟩ := HLC.out wr hgr k hkn
      have HNX := hid (show bs ++ puts (l.take (k + 1)) = (bs ++ puts (l.take k)) ++ putB x 1 by rw [List.take_add_one, hx]; show bs ++ puts (l.take k ++ [x]) = _; rw [puts_snoc, List.append_assoc])
      have HCL := hid (show (bs ++ puts (l.take k)).length ≤ 100000 by rw [List.length_append, puts_len, List.length_take]; have := HLN.out; omega)
      have HBU := hid hbuf
      have HG := hid hgr
      generalize bs ++ puts (l.take k) = cs at *
      obtain ⟨A, c, hblk, hown⟩ := hbuf
      have c0 : wr.cell? ⟨g, 0, none⟩ = some (.slice A cs.length c) := hblk.cellAt rfl
      have i1 := hid (putW 1 1 (by decide) A cs.length c cs x wr (Reads.of_own hown) (by have := HCL.out; omega))
      have HBL := hid hblk
      clear hx hgr hblk hown
      go_wp2_with fail
      refine i1.out.mono ?_
      rintro e w1 ⟨A', c', rfl, ho, hb⟩
      have f0 := (HBL.out.belowS hb).frozen 0
      have c1 : w1.cell? ⟨g, 0, none⟩ = some (.slice A cs.length c) := (HBL.out.belowS hb).cellAt rfl
      have hst := hid (HBU.out.store hb (cs := cs ++ putB x 1) (N := cs.length + 1) (by rw [List.length_append, putB_length]) ho)
      clear ho hb c0 hc i1
      go_wp2_with fail
      go_roundw
      case rel => exact ⟨k + 1, by omega, by go_num, by rw [HNX.out]; exact hst.out.1, grown_trans1 HG.out hst.out.2⟩
      case measure => simp [intOf]; omega
    · obtain rfl : k = n := by omega
      have HBU := hid (show BufAt wr g (bs ++ puts l) by rw [List.take_of_length_le (by rw [HLN.out]; exact Nat.le_refl _)] at hbuf; exact hbuf)
      have HG := hid hgr
      clear hbuf hgr
      go_wp2_with fail
      go_end0
      exact ⟨rfl, HBU.out, HG.out⟩

set_option maxRecDepth 100000 in
theorem Put_bad (t : TabS) (a : TabA) (w : World) (h : TabOk w t a) (hr : rightB t = false) :
    Calls Try.prog 35 #[.agg #[.int .i64 t.frame, .slice a.A1 t.parts.length a.c1, .slice a.A2 t.wins.length a.c2, .slice a.A3 t.chans.length a.c3, .int .i64 t.trial]] w fun e w' => e = .returned (.tuple #[.slice none 0 0, .int .i64 9]) ∧ Below w.heap.size w w' := by
  obtain ⟨w1, hw1, hb1, hX1⟩ := tab_inG t a w
  obtain ⟨c0, c1, c2, c3, c4⟩ := tab_cells hX1
  have iR := hid (right_any t a w1 (h.belowS hb1))
  rw [hr] at iR
  clear h hr hX1
  go_enter Try.func35, Try.ntmps35
  go_wp2_with fail
  refine iR.out.mono ?_
  rintro e w2 ⟨rfl, hb2⟩
  go_wp2_with fail
  go_ret2
  exact ⟨rfl, bel_trans hb1 hb2⟩

theorem headT_puts (t : TabS) : puts [t.frame, t.trial, (t.parts.length : Int), (t.wins.length : Int), (t.chans.length : Int)] = headT t := by simp [puts, headT]
theorem partB_puts (m f h : Int) : puts [m, f] ++ putB h 2 = partB ⟨m, f, h⟩ := by simp [puts, partB]
theorem winBy_puts (m f h : Int) : puts [m, f, h] = winBy ⟨m, f, h⟩ := by simp [puts, winBy]
theorem chanBy_puts (m f h : Int) : puts [m, f, h] = chanBy ⟨m, f, h⟩ := by simp [puts, chanBy]
theorem flat_take {α : Type} (g : α → List UInt8) (l : List α) (k : Nat) (x : α) (h : l[k]? = some x) (bs : List UInt8) : bs ++ (l.take (k + 1)).flatMap g = (bs ++ (l.take k).flatMap g) ++ g x := by
  rw [List.take_add_one, h]
  show bs ++ (l.take k ++ [x]).flatMap g = _
  rw [List.flatMap_append, List.append_assoc]
  simp
set_option maxRecDepth 100000 in
set_option maxHeartbeats 4000000 in
theorem Put_ok (t : TabS) (a : TabA) (w : World) (h : TabOk w t a) (hr : rightB t = true) :
    Calls Try.prog 35 #[.agg #[.int .i64 t.frame, .slice a.A1 t.parts.length a.c1, .slice a.A2 t.wins.length a.c2, .slice a.A3 t.chans.length a.c3, .int .i64 t.trial]] w fun e w' => ∃ A' c', e = .returned (.tuple #[.slice A' (tabB t).length c', .int .i64 0]) ∧ w'.ownsRow w.heap.size 5 1 (.slice A' (tabB t).length c') (tabB t).length ((tabB t).map bV) ∧ Below w.heap.size w w' := by
  obtain ⟨w1, hw1, hb1, hX1⟩ := tab_inG t a w
  obtain ⟨c0, c1, c2, c3, c4⟩ := tab_cells hX1
  have iR := hid (right_any t a w1 (h.belowS hb1))
  rw [hr] at iR
  have HRT := hid ((rightB_iff t).1 hr)
  have HTB : Hid (tabB t = headT t ++ t.parts.flatMap partB ++ t.wins.flatMap winBy ++ t.chans.flatMap chanBy) := hid rfl
  have HIN := hid h.inn
  have HX1 := hid hX1
  have HHT := hid (headT_puts t)
  have HHL := hid (headT_len t)
  have hlp := HRT.out.p2
  have hlw := HRT.out.w8
  have hlc := HRT.out.c4
  obtain ⟨HT, hHT⟩ : ∃ x, headT t = x := ⟨_, rfl⟩
  rw [hHT] at HTB HHT HHL
  obtain ⟨TBS, hTBS⟩ : ∃ x, tabB t = x := ⟨_, rfl⟩
  rw [hTBS] at HTB ⊢
  clear h hr hX1 hHT hTBS
  obtain ⟨fr, parts, wins, chans, tr⟩ := t
  obtain ⟨A1, k1, A2, k2, A3, k3⟩ := a
  simp only at *
  go_enter Try.func35, Try.ntmps35
  go_wp2_with fail
  refine iR.out.mono ?_
  rintro e w2 ⟨rfl, hb2⟩
  have HX2 := hid (HX1.out.belowS hb2)
  have HB2 := hid (bel_trans hb1 hb2)
  have HIN2 := hid (HIN.out.belowS HB2.out)
  have hlt2 : w.heap.size < w2.heap.size := HX2.out.lt
  clear c0 c1 c2 c3 c4 iR hb2 hb1 hw1 HX1 HIN
  obtain ⟨c0, c1, c2, c3, c4⟩ := tab_cells HX2.out
  simp only at c0 c1 c2 c3 c4
  obtain ⟨w3, hw3, hB3, hb3⟩ : ∃ W : World, w2.alloc (.cells #[.slice none 0 0] 62) = W ∧ BufAt W w2.heap.size [] ∧ Below w2.heap.size w2 W := ⟨_, rfl, ⟨none, 0, Blk.new w2 _ [.slice none 0 0], World.ownsRow_nil _ _ _ _⟩, (Below.refl _ _).alloc (Nat.le_refl _) _⟩
  obtain ⟨g, hg⟩ : ∃ g, w2.heap.size = g := ⟨_, rfl⟩
  rw [hg] at hlt2
  have hb3' := hb3
  rw [hg] at hB3 hb3'
  have d0 : w3.cell? ⟨w.heap.size, 0, none⟩ = _ := (hb3'.cell (p := ⟨w.heap.size, 0, none⟩) hlt2).trans c0
  have d1 : w3.cell? ⟨w.heap.size, 1, none⟩ = _ := (hb3'.cell (p := ⟨w.heap.size, 1, none⟩) hlt2).trans c1
  have d2 : w3.cell? ⟨w.heap.size, 2, none⟩ = _ := (hb3'.cell (p := ⟨w.heap.size, 2, none⟩) hlt2).trans c2
  have d3 : w3.cell? ⟨w.heap.size, 3, none⟩ = _ := (hb3'.cell (p := ⟨w.heap.size, 3, none⟩) hlt2).trans c3
  have d4 : w3.cell? ⟨w.heap.size, 4, none⟩ = _ := (hb3'.cell (p := ⟨w.heap.size, 4, none⟩) hlt2).trans c4
  have HB3 := hid hb3'
  have HF3 := hid hB3
  go_wp2_with fail
  clear hw3 c0 c1 c2 c3 c4 d0 d1 d2 d3 d4 hb3 hb3' hB3
  have hal := (Below.refl w3.heap.size w3).alloc (Nat.le_refl _) (.cells #[.int .i64 fr, .int .i64 tr, .int .i64 (parts.length : Int), .int .i64 (wins.length : Int), .int .i64 (chans.length : Int)] 3)
  have i1 := hid (put1_any g [] [fr, tr, (parts.length : Int), (wins.length : Int), (chans.length : Int)] (some ⟨w3.heap.size, 0, none⟩) 5 _ (HF3.out.belowS hal) (Reads.lit (n := 5) (size := 1) (heap_alloc_new w3 (.cells #[.int .i64 fr, .int .i64 tr, .int .i64 (parts.length : Int), .int .i64 (wins.length : Int), .int .i64 (chans.length : Int)] 3)) rfl) (fun ad h => by injection h with h; subst h; have := HF3.out.lt; simp only; omega) (by simp))
  rw [List.nil_append, HHT.out] at i1
  have HAL := hid hal
  clear hal
  refine i1.out.mono ?_
  rintro e w4 ⟨rfl, hF4, hg4⟩
  have HB4 : Hid (Below g w2 w4) := hid (HB3.out.trans ((HAL.out.mono (Nat.le_of_lt HF3.out.lt)).grown hg4 (by have := HF3.out.lt; simp; omega) (fun k hk => by injection hk with hk; omega)))
  have HF4 := hid hF4
  clear hF4 hg4 i1 HAL HF3 HB3
  have c1 : w4.cell? ⟨w.heap.size, 1, none⟩ = some (.slice A1 parts.length k1) := (HX2.out.below HB4.out hlt2).cellAt rfl
  go_wp2_with fail
  clear c1
  go_loopw [35] (fun vC wr => ∃ k : Nat, k ≤ parts.length ∧ vC = .int .i64 (k : Int) ∧ BufAt wr g (HT ++ (parts.take k).flatMap partB) ∧ Below g w2 wr) (fun vC _ => parts.length - (intOf vC).toNat)
  case atStart => exact ⟨0, by omega, rfl, by simpa using HF4.out, HB4.out⟩
  case round =>
    obtain ⟨k, hk, rfl, hbuf, hbel⟩ := hrel
    have HBUF := hid hbuf
    have HBEL := hid hbel
    clear hbuf
    by_cases hkn : k < parts.length
    · have y0 : decide ((k : Int) < (parts.length : Int)) = true := decide_eq_true (by omega)
      have y0' : decide (k < parts.length) = true := decide_eq_true hkn
      have z0 : (0 : Int) ≤ (k : Int) := Int.natCast_nonneg _
      have z1 : (k : Int) < (parts.length : Int) := by omega
      have hRd := HIN2.out.1.below (B := w2.heap.size) (by rw [hg]; exact hbel)
      obtain ⟨ad, x, hAx, had, hx, q0, qq⟩ := hRd.at_ hkn
      have u0 := q0 _ rfl
      have u1 := qq 0 _ rfl
      have u2 := qq 1 _ rfl
      have HNX := hid (flat_take partB parts k x hx HT)
      have HLN := hid (show (HT ++ (parts.take k).flatMap partB).length ≤ 5000 from by rw [List.length_append, HHL.out, flatMap_len partB 4 partB_len, List.length_take]; omega)
      clear q0 qq hRd hx
      obtain ⟨e1, e2, e3⟩ := x
      simp only at u0 u1 u2
      subst hAx
      generalize HT ++ (parts.take k).flatMap partB = cs at *
      have hgr := HBUF.out.lt
      obtain ⟨wp, hwp, hPB, hbp⟩ : ∃ W : World, wr.alloc (.cells #[.int .i64 e1, .int .i64 e2, .int .i64 e3] 77) = W ∧ Blk W wr.heap.size 77 [.int .i64 e1, .int .i64 e2, .int .i64 e3] ∧ Below wr.heap.size wr W := ⟨_, rfl, Blk.new wr _ [.int .i64 e1, .int .i64 e2, .int .i64 e3], (Below.refl _ _).alloc (Nat.le_refl _) _⟩
      have m0 : wp.cell? ⟨wr.heap.size, 0, none⟩ = some (.int .i64 e1) := hPB.cellAt rfl
      have m1 : wp.cell? ⟨wr.heap.size, 1, none⟩ = some (.int .i64 e2) := hPB.cellAt rfl
      have m2 : wp.cell? ⟨wr.heap.size, 2, none⟩ = some (.int .i64 e3) := hPB.cellAt rfl
      have HPB := hid hPB
      have HBP := hid hbp
      have hwpl : wr.heap.size < wp.heap.size := hPB.lt
      clear hPB hbp hbel
      go_wp2_with fail
      clear hwp u0 u1 u2 m0 m1 m2
      have hal := (Below.refl wp.heap.size wp).alloc (Nat.le_refl _) (.cells #[.int .i64 e1, .int .i64 e2] 3)
      have i1 := hid (put1_any g cs [e1, e2] (some ⟨wp.heap.size, 0, none⟩) 2 _ ((HBUF.out.belowS HBP.out).belowS hal) (Reads.lit (n := 2) (size := 1) (heap_alloc_new wp (.cells #[.int .i64 e1, .int .i64 e2] 3)) rfl) (fun ad h => by injection h with h; subst h; simp only; omega) (by have := HLN.out; simp; omega))
      have HAL := hid hal
      clear hal
      refine i1.out.mono ?_
      rintro e w5 ⟨rfl, hF5, hg5⟩
      have HB5 : Hid (Below g wr w5) := hid ((HBP.out.mono (Nat.le_of_lt hgr)).trans ((HAL.out.mono (show g ≤ wp.heap.size by omega)).grown hg5 (by simp; omega) (fun k hk => by injection hk with hk; omega)))
      have hpb5 : w5.heap[wr.heap.size]? = _ := (hg5.block wr.heap.size (by simp; omega) (fun e => by injection e with e; omega)).trans ((HAL.out.block _ hwpl).trans HPB.out)
      have m2 : w5.cell? ⟨wr.heap.size, 2, none⟩ = some (.int .i64 e3) := Blk.cellAt (w := w5) (t := 77) (cs := [.int .i64 e1, .int .i64 e2, .int .i64 e3]) hpb5 (i := 2) rfl
      have HF5 := hid hF5
      have HLN2 := hid (show (cs ++ puts [e1, e2]).length ≤ 6000 by rw [List.length_append, puts_len]; have := HLN.out; simp; omega)
      have HNX2 := hid (show HT ++ (parts.take (k + 1)).flatMap partB = (cs ++ puts [e1, e2]) ++ putB e3 2 by rw [HNX.out, List.append_assoc, partB_puts])
      clear hpb5 hg5 i1 HAL
      generalize cs ++ puts [e1, e2] = cs2 at *
      obtain ⟨A, c, hblk, hown⟩ := hF5
      have n0 : w5.cell? ⟨g, 0, none⟩ = some (.slice A cs2.length c) := hblk.cellAt rfl
      have HBK := hid hblk
      have i2 := hid (putW 2 2 (by decide) A cs2.length c cs2 e3 w5 (Reads.of_own hown) (by have := HLN2.out; omega))
      clear hblk hown
      go_wp2_with fail
      refine i2.out.mono ?_
      rintro e w6 ⟨A', c', rfl, ho, hb6⟩
      have f0 := (HBK.out.belowS hb6).frozen 0
      have p0 : w6.cell? ⟨g, 0, none⟩ = some (.slice A cs2.length c) := (HBK.out.belowS hb6).cellAt rfl
      have hst := hid (HF5.out.store hb6 (cs := cs2 ++ putB e3 2) (N := cs2.length + 2) (by rw [List.length_append, putB_length]) ho)
      have HB6 : Hid (Below g wr (w6.setCell ⟨g, 0, none⟩ (.slice A' (cs2.length + 2) c'))) := hid (HB5.out.grown hst.out.2 (by have := HB5.out.size; omega) (fun k hk => by injection hk with hk; omega))
      clear ho hb6 n0 m2 i2
      go_wp2_with fail
      go_roundw
      case rel => exact ⟨k + 1, by omega, by go_num, by rw [HNX2.out]; exact hst.out.1, HBEL.out.trans HB6.out⟩
      case measure => simp [intOf]; omega
    · obtain rfl : k = parts.length := by omega
      have HF6 := hid (show BufAt wr g (HT ++ parts.flatMap partB) by have h9 := HBUF.out; rw [List.take_length] at h9; exact h9)
      have HB6f := hid HBEL.out
      clear HBUF HBEL hbel hkn hk
      have c1 : wr.cell? ⟨w.heap.size, 2, none⟩ = some (.slice A2 wins.length k2) := (HX2.out.below HB6f.out hlt2).cellAt rfl
      obtain ⟨wq1, hwq⟩ : ∃ W : World, wr = W := ⟨_, rfl⟩
      subst hwq
      go_wp2_with fail
      clear c1
      go_loopw [54] (fun vC wr => ∃ k : Nat, k ≤ wins.length ∧ vC = .int .i64 (k : Int) ∧ BufAt wr g ((HT ++ parts.flatMap partB) ++ (wins.take k).flatMap winBy) ∧ Below g w2 wr) (fun vC _ => wins.length - (intOf vC).toNat)
      case atStart => exact ⟨0, by omega, rfl, by simpa using HF6.out, HB6f.out⟩
      case round =>
        obtain ⟨k, hk, rfl, hbuf, hbel⟩ := hrel
        have HBUF := hid hbuf
        have HBEL := hid hbel
        clear hbuf
        by_cases hkn : k < wins.length
        · have y0 : decide ((k : Int) < (wins.length : Int)) = true := decide_eq_true (by omega)
          have y0' : decide (k < wins.length) = true := decide_eq_true hkn
          have z0 : (0 : Int) ≤ (k : Int) := Int.natCast_nonneg _
          have z1 : (k : Int) < (wins.length : Int) := by omega
          have hRd := HIN2.out.2.1.below (B := w2.heap.size) (by rw [hg]; exact hbel)
          obtain ⟨ad, x, hAx, had, hx, q0, qq⟩ := hRd.at_ hkn
          have u0 := q0 _ rfl
          have u1 := qq 0 _ rfl
          have u2 := qq 1 _ rfl
          have HNX := hid (flat_take winBy wins k x hx (HT ++ parts.flatMap partB))
          have HLN := hid (show ((HT ++ parts.flatMap partB) ++ (wins.take k).flatMap winBy).length ≤ 5000 from by rw [List.length_append, List.length_append, HHL.out, flatMap_len partB 4 partB_len, flatMap_len winBy 3 winBy_len, List.length_take]; omega)
          clear q0 qq hRd hx
          obtain ⟨e1, e2, e3⟩ := x
          simp only at u0 u1 u2
          subst hAx
          generalize (HT ++ parts.flatMap partB) ++ (wins.take k).flatMap winBy = cs at *
          have hgr := HBUF.out.lt
          obtain ⟨wp, hwp, hPB, hbp⟩ : ∃ W : World, wr.alloc (.cells #[.int .i64 e1, .int .i64 e2, .int .i64 e3] 30) = W ∧ Blk W wr.heap.size 30 [.int .i64 e1, .int .i64 e2, .int .i64 e3] ∧ Below wr.heap.size wr W := ⟨_, rfl, Blk.new wr _ [.int .i64 e1, .int .i64 e2, .int .i64 e3], (Below.refl _ _).alloc (Nat.le_refl _) _⟩
          have m0 : wp.cell? ⟨wr.heap.size, 0, none⟩ = some (.int .i64 e1) := hPB.cellAt rfl
          have m1 : wp.cell? ⟨wr.heap.size, 1, none⟩ = some (.int .i64 e2) := hPB.cellAt rfl
          have m2 : wp.cell? ⟨wr.heap.size, 2, none⟩ = some (.int .i64 e3) := hPB.cellAt rfl
          have HPB := hid hPB
          have HBP := hid hbp
          have hwpl : wr.heap.size < wp.heap.size := hPB.lt
          clear hPB hbp hbel
          go_wp2_with fail
          clear hwp u0 u1 u2 m0 m1 m2
          have hal := (Below.refl wp.heap.size wp).alloc (Nat.le_refl _) (.cells #[.int .i64 e1, .int .i64 e2, .int .i64 e3] 3)
          have i1 := hid (put1_any g cs [e1, e2, e3] (some ⟨wp.heap.size, 0, none⟩) 3 _ ((HBUF.out.belowS HBP.out).belowS hal) (Reads.lit (n := 3) (size := 1) (heap_alloc_new wp (.cells #[.int .i64 e1, .int .i64 e2, .int .i64 e3] 3)) rfl) (fun ad h => by injection h with h; subst h; simp only; omega) (by have := HLN.out; simp; omega))
          have HAL := hid hal
          clear hal
          refine i1.out.mono ?_
          rintro e w5 ⟨rfl, hF5, hg5⟩
          have HB5 : Hid (Below g wr w5) := hid ((HBP.out.mono (Nat.le_of_lt hgr)).trans ((HAL.out.mono (show g ≤ wp.heap.size by omega)).grown hg5 (by simp; omega) (fun k hk => by injection hk with hk; omega)))
          have HF5 := hid (show BufAt w5 g ((HT ++ parts.flatMap partB) ++ (wins.take (k + 1)).flatMap winBy) by rw [HNX.out, ← winBy_puts]; exact hF5)
          clear hF5 hg5 i1 HAL
          go_wp2_with fail
          go_roundw
          case rel => exact ⟨k + 1, by omega, by go_num, HF5.out, HBEL.out.trans HB5.out⟩
          case measure => simp [intOf]; omega
        · obtain rfl : k = wins.length := by omega
          have HF7 := hid (show BufAt wr g ((HT ++ parts.flatMap partB) ++ wins.flatMap winBy) by have h9 := HBUF.out; rw [List.take_length] at h9; exact h9)
          have HB7f := hid HBEL.out
          clear HBUF HBEL hbel hkn hk
          have c1 : wr.cell? ⟨w.heap.size, 3, none⟩ = some (.slice A3 chans.length k3) := (HX2.out.below HB7f.out hlt2).cellAt rfl
          obtain ⟨wq2, hwq⟩ : ∃ W : World, wr = W := ⟨_, rfl⟩
          subst hwq
          go_wp2_with fail
          clear c1
          go_loopw [71] (fun vC wr => ∃ k : Nat, k ≤ chans.length ∧ vC = .int .i64 (k : Int) ∧ BufAt wr g ((HT ++ parts.flatMap partB ++ wins.flatMap winBy) ++ (chans.take k).flatMap chanBy) ∧ Below g w2 wr) (fun vC _ => chans.length - (intOf vC).toNat)
          case atStart => exact ⟨0, by omega, rfl, by simpa using HF7.out, HB7f.out⟩
          case round =>
            obtain ⟨k, hk, rfl, hbuf, hbel⟩ := hrel
            have HBUF := hid hbuf
            have HBEL := hid hbel
            clear hbuf
            by_cases hkn : k < chans.length
            · have y0 : decide ((k : Int) < (chans.length : Int)) = true := decide_eq_true (by omega)
              have y0' : decide (k < chans.length) = true := decide_eq_true hkn
              have z0 : (0 : Int) ≤ (k : Int) := Int.natCast_nonneg _
              have z1 : (k : Int) < (chans.length : Int) := by omega
              have hRd := HIN2.out.2.2.below (B := w2.heap.size) (by rw [hg]; exact hbel)
              obtain ⟨ad, x, hAx, had, hx, q0, qq⟩ := hRd.at_ hkn
              have u0 := q0 _ rfl
              have u1 := qq 0 _ rfl
              have u2 := qq 1 _ rfl
              have HNX := hid (flat_take chanBy chans k x hx (HT ++ parts.flatMap partB ++ wins.flatMap winBy))
              have HLN := hid (show ((HT ++ parts.flatMap partB ++ wins.flatMap winBy) ++ (chans.take k).flatMap chanBy).length ≤ 5000 from by rw [List.length_append, List.length_append, List.length_append, HHL.out, flatMap_len partB 4 partB_len, flatMap_len winBy 3 winBy_len, flatMap_len chanBy 3 chanBy_len, List.length_take]; omega)
              clear q0 qq hRd hx
              obtain ⟨e1, e2, e3⟩ := x
              simp only at u0 u1 u2
              subst hAx
              generalize (HT ++ parts.flatMap partB ++ wins.flatMap winBy) ++ (chans.take k).flatMap chanBy = cs at *
              have hgr := HBUF.out.lt
              obtain ⟨wp, hwp, hPB, hbp⟩ : ∃ W : World, wr.alloc (.cells #[.int .i64 e1, .int .i64 e2, .int .i64 e3] 34) = W ∧ Blk W wr.heap.size 34 [.int .i64 e1, .int .i64 e2, .int .i64 e3] ∧ Below wr.heap.size wr W := ⟨_, rfl, Blk.new wr _ [.int .i64 e1, .int .i64 e2, .int .i64 e3], (Below.refl _ _).alloc (Nat.le_refl _) _⟩
              have m0 : wp.cell? ⟨wr.heap.size, 0, none⟩ = some (.int .i64 e1) := hPB.cellAt rfl
              have m1 : wp.cell? ⟨wr.heap.size, 1, none⟩ = some (.int .i64 e2) := hPB.cellAt rfl
              have m2 : wp.cell? ⟨wr.heap.size, 2, none⟩ = some (.int .i64 e3) := hPB.cellAt rfl
              have HPB := hid hPB
              have HBP := hid hbp
              have hwpl : wr.heap.size < wp.heap.size := hPB.lt
              clear hPB hbp hbel
              go_wp2_with fail
              clear hwp u0 u1 u2 m0 m1 m2
              have hal := (Below.refl wp.heap.size wp).alloc (Nat.le_refl _) (.cells #[.int .i64 e1, .int .i64 e2, .int .i64 e3] 3)
              have i1 := hid (put1_any g cs [e1, e2, e3] (some ⟨wp.heap.size, 0, none⟩) 3 _ ((HBUF.out.belowS HBP.out).belowS hal) (Reads.lit (n := 3) (size := 1) (heap_alloc_new wp (.cells #[.int .i64 e1, .int .i64 e2, .int .i64 e3] 3)) rfl) (fun ad h => by injection h with h; subst h; simp only; omega) (by have := HLN.out; simp; omega))
              have HAL := hid hal
              clear hal
              refine i1.out.mono ?_
              rintro e w5 ⟨rfl, hF5, hg5⟩
              have HB5 : Hid (Below g wr w5) := hid ((HBP.out.mono (Nat.le_of_lt hgr)).trans ((HAL.out.mono (show g ≤ wp.heap.size by omega)).grown hg5 (by simp; omega) (fun k hk => by injection hk with hk; omega)))
              have HF5 := hid (show BufAt w5 g ((HT ++ parts.flatMap partB ++ wins.flatMap winBy) ++ (chans.take (k + 1)).flatMap chanBy) by rw [HNX.out, ← chanBy_puts]; exact hF5)
              clear hF5 hg5 i1 HAL
              go_wp2_with fail
              go_roundw
              case rel => exact ⟨k + 1, by omega, by go_num, HF5.out, HBEL.out.trans HB5.out⟩
              case measure => simp [intOf]; omega
            · obtain rfl : k = chans.length := by omega
              have HF8 := hid (show BufAt wr g ((HT ++ parts.flatMap partB ++ wins.flatMap winBy) ++ chans.flatMap chanBy) by have h9 := HBUF.out; rw [List.take_length] at h9; exact h9)
              have HB8f := hid HBEL.out
              clear HBUF HBEL hbel hkn hk
              have HFIN : Hid (BufAt wr g TBS) := hid (by rw [HTB.out]; exact HF8.out)
              obtain ⟨A, c, hblk, hown⟩ := HFIN.out
              have n0 : wr.cell? ⟨g, 0, none⟩ = some (.slice A TBS.length c) := hblk.cellAt rfl
              have HO := hid (own_mono hown (show w.heap.size ≤ g + 1 by omega))
              have HBE : Hid (Below w.heap.size w wr) := hid (HB2.out.trans (HB8f.out.mono (by omega)))
              clear hblk hown
              go_wp2_with fail
              go_ret2
              exact ⟨A, c, rfl, HO.out, HBE.out⟩
end Go.Proofs.Ytbnodcenlggcnaa
