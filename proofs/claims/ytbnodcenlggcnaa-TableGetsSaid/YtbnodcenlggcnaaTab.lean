/-
  Package table: what each function computes.
-/
import Derived.Test.YtbnodcenlggcnaaBase
import Derived.Test.YtbnodcenlggcnaaTabPlain
namespace Go.Proofs.Ytbnodcenlggcnaa
open Go.RowKit

def partC (p : PartS) : List Value := [iV p.mem, iV p.fuel, iV p.hard]
def winC (x : WinS) : List Value := [iV x.part, iV x.at_, iV x.long]
def chanC (x : ChanS) : List Value := [iV x.src, iV x.dst, iV x.depth]

theorem in_any (n a b : Int) (w : World) :
    Calls Try.prog 42 #[.int .i64 n, .int .i64 a, .int .i64 b] w fun e w' => e = .returned (.bool (inB n a b)) ∧ w = w' := by
  by_cases h1 : a ≤ n
  · by_cases h2 : n ≤ b
    · have h : inB n a b = true := by simp [inB, h1, h2]
      rw [h]
      clear h
      go_enter Try.func42, Try.ntmps42
      go_wp2_with fail
      go_ret
      exact ⟨rfl, rfl⟩
    · have h : inB n a b = false := by simp [inB, h2]
      rw [h]
      clear h
      go_enter Try.func42, Try.ntmps42
      go_wp2_with fail
      go_ret
      exact ⟨rfl, rfl⟩
  · have h : inB n a b = false := by simp [inB, h1]
    have h3 : decide (a ≤ n) = false := by simp; omega
    rw [h]
    clear h
    go_enter Try.func42, Try.ntmps42
    go_wp2_with fail
    go_ret
    exact ⟨rfl, rfl⟩
theorem bad_any (p : PartS) (w : World) :
    Calls Try.prog 44 #[.agg #[.int .i64 p.mem, .int .i64 p.fuel, .int .i64 p.hard]] w fun e w' => e = .returned (.bool (badB p)) ∧ Below w.heap.size w w' := by
  obtain ⟨m, f, h⟩ := p
  simp only
  have HB : Hid (badB ⟨m, f, h⟩ = (!(inB m 1 16) || !(inB f 1 32) || !(inB h 0 65535))) := rfl
  have hb : Below w.heap.size w (w.alloc (.cells #[.int .i64 m, .int .i64 f, .int .i64 h] 77)) := (Below.refl _ _).alloc (Nat.le_refl _) _
  have i1 := hid (fun w => in_any m 1 16 w)
  have i2 := hid (fun w => in_any f 1 32 w)
  have i3 := hid (fun w => in_any h 0 65535 w)
  generalize inB m 1 16 = b1 at HB i1
  generalize inB f 1 32 = b2 at HB i2
  generalize inB h 0 65535 = b3 at HB i3
  generalize badB ⟨m, f, h⟩ = r at HB ⊢
  have hr := HB.out
  clear HB
  cases b1 <;> cases b2 <;> simp only [Bool.not_false, Bool.not_true, Bool.true_or, Bool.or_true, Bool.false_or, Bool.or_false] at hr <;> subst hr
  all_goals
    go_enter Try.func44, Try.ntmps44
    go_wp2_with (first | (go_at_call_of 42 (Value.int IntKind.i64 16); refine (i1.out _).mono ?_; rintro e w' ⟨rfl, rfl⟩) | (go_at_call_of 42 (Value.int IntKind.i64 32); refine (i2.out _).mono ?_; rintro e w' ⟨rfl, rfl⟩) | (go_at_call_of 42 (Value.int IntKind.i64 65535); refine (i3.out _).mono ?_; rintro e w' ⟨rfl, rfl⟩))
    go_ret
    exact ⟨rfl, hb⟩
theorem indexPart_any (A : Option Addr) (n c : Nat) (l : List PartS) (w : World) (h : RdS w w.heap.size 3 A n partC l) (hn : n ≤ 100000) :
    Calls Try.prog 61 #[.slice A n c, .func (Fn.func 44) #[] #[]] w fun e w' => e = .returned (.int .i64 (idxB badB l)) ∧ Below w.heap.size w w' := by
  go_enter Try.func61, Try.ntmps61
  go_wp2_with fail
  go_loopw [4, 5, 8] (fun _ _ v8 wr => ∃ k : Nat, k ≤ n ∧ v8 = .int .i64 (k : Int) ∧ Hid (∀ x ∈ l.take k, badB x = false) ∧ Below w.heap.size w wr) (fun _ _ v8 _ => n - (intOf v8).toNat)
  case atStart => exact ⟨0, by omega, rfl, by refine hid ?_; simp, Below.refl _ _⟩
  case round =>
    obtain ⟨k, hk, rfl, HK, hbel⟩ := hrel
    by_cases hkn : k < n
    · obtain ⟨ad, x, rfl, had, hx, hc0, hc⟩ := (h.belowS hbel).at_ hkn
      have c0 := hc0 _ rfl
      have c1 := hc 0 _ rfl
      have c2 := hc 1 _ rfl
      have HX := hid hx
      have hbad := hid (bad_any x wr)
      clear hc hc0 hx
      by_cases hb : badB x = true
      · have hfi := hid (idxB_at badB l k x HX.out hb HK.out)
        rw [hb] at hbad
        clear hb
        go_wp2_with fail
        refine hbad.out.mono ?_
        rintro e w2 ⟨rfl, hb2⟩
        go_wp2_with fail
        go_ret
        exact ⟨by rw [hfi.out]; rfl, bel_trans hbel hb2⟩
      · have hb' : badB x = false := by simpa using hb
        rw [hb'] at hbad
        have HS := hid (any_take badB l k x HX.out hb' HK.out)
        clear hb hb'
        go_wp2_with fail
        refine hbad.out.mono ?_
        rintro e w2 ⟨rfl, hb2⟩
        go_wp2_with fail
        go_roundw
        case rel => exact ⟨k + 1, by omega, by go_num, HS, bel_trans hbel hb2⟩
        case measure => simp [intOf]; omega
    · obtain rfl : k = n := by omega
      have hfi := hid (idxB_none badB l (fun x hx => HK.out x (by rw [List.take_of_length_le (by rw [h.len]; exact Nat.le_refl _)]; exact hx)))
      go_wp2_with fail
      go_ret
      exact ⟨by rw [hfi.out]; rfl, hbel⟩
theorem containsPart_any (A : Option Addr) (n c : Nat) (l : List PartS) (w : World) (h : RdS w w.heap.size 3 A n partC l) (hn : n ≤ 100000) :
    Calls Try.prog 43 #[.slice A n c, .func (Fn.func 44) #[] #[]] w fun e w' => e = .returned (.bool (l.any badB)) ∧ Below w.heap.size w w' := by
  have hi := hid (indexPart_any A n c l w h hn)
  have hd := hid (idxB_nonneg badB l)
  generalize idxB badB l = i at hi hd
  generalize l.any badB = r at hd ⊢
  go_enter Try.func43, Try.ntmps43
  go_wp2_with fail
  refine hi.out.mono ?_
  rintro e w1 ⟨rfl, hb⟩
  go_wp2_with fail
  go_ret
  exact ⟨ret_bool hd.out, hb⟩
/-! ### A table by value: its five cells; where its three lists lie. -/
/-- Where a table's lists lie. -/
structure TabA where
  A1 : Option Addr
  c1 : Nat
  A2 : Option Addr
  c2 : Nat
  A3 : Option Addr
  c3 : Nat
/-- A table's cells. -/
def tabC (t : TabS) (a : TabA) : List Value := [iV t.frame, .slice a.A1 t.parts.length a.c1, .slice a.A2 t.wins.length a.c2, .slice a.A3 t.chans.length a.c3, iV t.trial]
def TabIn (w : World) (t : TabS) (a : TabA) : Prop :=
  RdS w w.heap.size 3 a.A1 t.parts.length partC t.parts ∧ RdS w w.heap.size 3 a.A2 t.wins.length winC t.wins ∧ RdS w w.heap.size 3 a.A3 t.chans.length chanC t.chans
theorem TabIn.belowS {w w' : World} {t : TabS} {a : TabA} (h : TabIn w t a) (hb : Below w.heap.size w w') : TabIn w' t a := ⟨h.1.belowS hb, h.2.1.belowS hb, h.2.2.belowS hb⟩
theorem has_any (t : TabS) (a : TabA) (p : Int) (w : World) (hn : t.parts.length ≤ 100000) :
    Calls Try.prog 48 #[.agg #[.int .i64 t.frame, .slice a.A1 t.parts.length a.c1, .slice a.A2 t.wins.length a.c2, .slice a.A3 t.chans.length a.c3, .int .i64 t.trial], .int .i64 p] w fun e w' => e = .returned (.bool (hasB t p)) ∧ Below w.heap.size w w' := by
  obtain ⟨frame, parts, wins, chans, trial⟩ := t
  obtain ⟨A1, c1, A2, c2, A3, c3⟩ := a
  simp only at hn ⊢
  have hi := hid (fun w => in_any p 0 ((parts.length : Int) - 1) w)
  unfold hasB
  simp only
  generalize inB p 0 ((parts.length : Int) - 1) = r at hi ⊢
  generalize parts.length = n1 at hn hi ⊢
  generalize wins.length = n2
  generalize chans.length = n3
  have hb : Below w.heap.size w (w.alloc (.cells #[.int .i64 frame, .slice A1 n1 c1, .slice A2 n2 c2, .slice A3 n3 c3, .int .i64 trial] 26)) := (Below.refl _ _).alloc (Nat.le_refl _) _
  go_enter Try.func48, Try.ntmps48
  go_wp2_with fail
  refine (hi.out _).mono ?_
  rintro e w1 ⟨rfl, rfl⟩
  go_wp2_with fail
  go_ret
  exact ⟨rfl, hb⟩
/-- The cells of a block that holds a table. -/
theorem tab_cells {w : World} {g : Nat} {t : TabS} {a : TabA} (h : Blk w g 26 (tabC t a)) :
    w.cell? ⟨g, 0, none⟩ = some (.int .i64 t.frame) ∧ w.cell? ⟨g, 1, none⟩ = some (.slice a.A1 t.parts.length a.c1) ∧ w.cell? ⟨g, 2, none⟩ = some (.slice a.A2 t.wins.length a.c2) ∧ w.cell? ⟨g, 3, none⟩ = some (.slice a.A3 t.chans.length a.c3) ∧ w.cell? ⟨g, 4, none⟩ = some (.int .i64 t.trial) :=
  ⟨h.cellAt rfl, h.cellAt rfl, h.cellAt rfl, h.cellAt rfl, h.cellAt rfl⟩
theorem right1_any (t : TabS) (a : TabA) (c : ChanS) (g : Nat) (w : World) (hblk : Blk w g 26 (tabC t a)) (hn : t.parts.length ≤ 100000) :
    Calls Try.prog 47 #[.agg #[.int .i64 c.src, .int .i64 c.dst, .int .i64 c.depth], .pointer (some ⟨g, 0, none⟩)] w fun e w' => e = .returned (.bool (chanBad t c)) ∧ Below w.heap.size w w' := by
  obtain ⟨src, dst, depth⟩ := c
  simp only
  have HB : Hid (chanBad t ⟨src, dst, depth⟩ = (!(hasB t src) || !(hasB t dst) || (src == dst) || !(inB depth 0 4))) := rfl
  have i1 := hid (fun w => has_any t a src w hn)
  have i2 := hid (fun w => has_any t a dst w hn)
  have i3 := hid (fun w => in_any depth 0 4 w)
  generalize hasB t src = b1 at HB i1
  generalize hasB t dst = b2 at HB i2
  generalize inB depth 0 4 = b3 at HB i3
  generalize chanBad t ⟨src, dst, depth⟩ = r at HB ⊢
  have hb0 : Below w.heap.size w (w.alloc (.cells #[.int .i64 src, .int .i64 dst, .int .i64 depth] 34)) := (Below.refl _ _).alloc (Nat.le_refl _) _
  have hblk1 := hblk.alloc (.cells #[.int .i64 src, .int .i64 dst, .int .i64 depth] 34)
  obtain ⟨c0, c1, c2, c3, c4⟩ := tab_cells hblk1
  have hsrc : Blk (w.alloc (.cells #[.int .i64 src, .int .i64 dst, .int .i64 depth] 34)) w.heap.size 34 [.int .i64 src, .int .i64 dst, .int .i64 depth] := Blk.new w _ _
  have hr := HB.out
  clear HB
  cases b1
  · simp only [Bool.not_false, Bool.true_or] at hr
    subst hr
    clear hsrc hblk1 hblk
    go_enter Try.func47, Try.ntmps47
    go_wp2_with fail
    refine (i1.out _).mono ?_
    rintro e w1 ⟨rfl, hb1⟩
    go_wp2_with fail
    go_ret
    exact ⟨rfl, bel_trans hb0 hb1⟩
  · simp only [Bool.not_true, Bool.false_or] at hr
    go_enter Try.func47, Try.ntmps47
    go_wp2_with fail
    refine (i1.out _).mono ?_
    rintro e w1 ⟨rfl, hb1⟩
    have hsrc1 := hsrc.belowS hb1
    have hblk2 := hblk1.belowS hb1
    have s0 := hsrc1.cellAt (i := 0) rfl
    have s1 := hsrc1.cellAt (i := 1) rfl
    have s2 := hsrc1.cellAt (i := 2) rfl
    clear c0 c1 c2 c3 c4
    obtain ⟨c0, c1, c2, c3, c4⟩ := tab_cells hblk2
    cases b2
    · simp only [Bool.not_false, Bool.true_or] at hr
      subst hr
      clear hsrc hblk1 hblk hsrc1 hblk2
      go_wp2_with fail
      refine (i2.out _).mono ?_
      rintro e w2 ⟨rfl, hb2⟩
      go_wp2_with fail
      go_ret
      exact ⟨rfl, bel_trans (bel_trans hb0 hb1) hb2⟩
    · simp only [Bool.not_true, Bool.false_or] at hr
      have HR := hid hr
      clear hr
      go_wp2_with fail
      refine (i2.out _).mono ?_
      rintro e w2 ⟨rfl, hb2⟩
      have hsrc2 := hsrc1.belowS hb2
      clear s0 s1 s2 c0 c1 c2 c3 c4
      have s0 := hsrc2.cellAt (i := 0) rfl
      have s1 := hsrc2.cellAt (i := 1) rfl
      have s2 := hsrc2.cellAt (i := 2) rfl
      by_cases hsd : src = dst
      · have hrt : r = true := by rw [HR.out]; simp [hsd]
        subst hrt hsd
        go_wp2_with fail
        go_ret
        exact ⟨rfl, bel_trans (bel_trans hb0 hb1) hb2⟩
      · have hsdb : (src == dst) = false := by simpa using hsd
        have hrt : r = !b3 := by rw [HR.out, hsdb]; rfl
        subst hrt
        clear hsd
        go_wp2_with fail
        refine (i3.out _).mono ?_
        rintro e w3 ⟨rfl, rfl⟩
        go_wp2_with fail
        go_ret
        exact ⟨rfl, bel_trans (bel_trans hb0 hb1) hb2⟩
theorem indexChan_any (A : Option Addr) (n c : Nat) (l : List ChanS) (t : TabS) (a : TabA) (g : Nat) (w : World) (h : RdS w w.heap.size 3 A n chanC l) (hn : n ≤ 100000) (hblk : Blk w g 26 (tabC t a)) (hn2 : t.parts.length ≤ 100000) :
    Calls Try.prog 62 #[.slice A n c, .func (Fn.func 47) #[] #[.pointer (some ⟨g, 0, none⟩)]] w fun e w' => e = .returned (.int .i64 (idxB (chanBad t) l)) ∧ Below w.heap.size w w' := by
  go_enter Try.func62, Try.ntmps62
  go_wp2_with fail
  go_loopw [4, 5, 8] (fun _ _ v8 wr => ∃ k : Nat, k ≤ n ∧ v8 = .int .i64 (k : Int) ∧ Hid (∀ x ∈ l.take k, (chanBad t) x = false) ∧ Below w.heap.size w wr) (fun _ _ v8 _ => n - (intOf v8).toNat)
  case atStart => exact ⟨0, by omega, rfl, by refine hid ?_; simp, Below.refl _ _⟩
  case round =>
    obtain ⟨k, hk, rfl, HK, hbel⟩ := hrel
    by_cases hkn : k < n
    · obtain ⟨ad, x, rfl, had, hx, hc0, hc⟩ := (h.belowS hbel).at_ hkn
      have c0 := hc0 _ rfl
      have c1 := hc 0 _ rfl
      have c2 := hc 1 _ rfl
      have HX := hid hx
      have hbad := hid (right1_any t a x g wr (hblk.belowS hbel) hn2)
      clear hc hc0 hx
      by_cases hb : (chanBad t) x = true
      · have hfi := hid (idxB_at (chanBad t) l k x HX.out hb HK.out)
        rw [hb] at hbad
        clear hb
        go_wp2_with fail
        refine hbad.out.mono ?_
        rintro e w2 ⟨rfl, hb2⟩
        go_wp2_with fail
        go_ret
        exact ⟨by rw [hfi.out]; rfl, bel_trans hbel hb2⟩
      · have hb' : (chanBad t) x = false := by simpa using hb
        rw [hb'] at hbad
        have HS := hid (any_take (chanBad t) l k x HX.out hb' HK.out)
        clear hb hb'
        go_wp2_with fail
        refine hbad.out.mono ?_
        rintro e w2 ⟨rfl, hb2⟩
        go_wp2_with fail
        go_roundw
        case rel => exact ⟨k + 1, by omega, by go_num, HS, bel_trans hbel hb2⟩
        case measure => simp [intOf]; omega
    · obtain rfl : k = n := by omega
      have hfi := hid (idxB_none (chanBad t) l (fun x hx => HK.out x (by rw [List.take_of_length_le (by rw [h.len]; exact Nat.le_refl _)]; exact hx)))
      go_wp2_with fail
      go_ret
      exact ⟨by rw [hfi.out]; rfl, hbel⟩
theorem containsChan_any (A : Option Addr) (n c : Nat) (l : List ChanS) (t : TabS) (a : TabA) (g : Nat) (w : World) (h : RdS w w.heap.size 3 A n chanC l) (hn : n ≤ 100000) (hblk : Blk w g 26 (tabC t a)) (hn2 : t.parts.length ≤ 100000) :
    Calls Try.prog 46 #[.slice A n c, .func (Fn.func 47) #[] #[.pointer (some ⟨g, 0, none⟩)]] w fun e w' => e = .returned (.bool (l.any (chanBad t))) ∧ Below w.heap.size w w' := by
  have hi := hid (indexChan_any A n c l t a g w h hn hblk hn2)
  have hd := hid (idxB_nonneg (chanBad t) l)
  generalize idxB (chanBad t) l = i at hi hd
  generalize l.any (chanBad t) = r at hd ⊢
  go_enter Try.func46, Try.ntmps46
  go_wp2_with fail
  refine hi.out.mono ?_
  rintro e w1 ⟨rfl, hb⟩
  go_wp2_with fail
  go_ret
  exact ⟨ret_bool hd.out, hb⟩
end Go.Proofs.Ytbnodcenlggcnaa
