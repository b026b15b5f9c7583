/-
  The document's own Get of a table.
-/
import Derived.Test.YtbnodcenlggcnaaTabGet
import Derived.Test.YtbnodcenlggcnaaRefRd
import Derived.Test.YtbnodcenlggcnaaRefRight
namespace Go.Proofs.Ytbnodcenlggcnaa
open Go.RowKit

theorem Rdr2.low {w w' : World} {g : Nat} {s : RS} (h : Rdr2 w g s) (hb : Below (g + 1) w w') : Rdr2 w' g s := h.belowG hb (Nat.lt_succ_self g)
theorem num_s2 {w0 w : World} {g T : Nat} {t : TabS} {a : TabA} {s s' : RS} {v : Nat} (ww : Int) (hr : rNum s ww = (v, s')) (h : GetAt Rdr2 w0 g T t a s w) :
    Calls Try.prog 59 #[.pointer (some ⟨g, 0, none⟩), .int .i64 ww] w fun e w' => e = .returned (.int .i64 (v : Int)) ∧ GetAt Rdr2 w0 g T t a s' w' ∧ w.grownBy w' (some g) :=
  (num2_any g s ww w h.hg).mono fun e w' ⟨h1, h2, h3⟩ => by
    rw [hr] at h1 h2
    exact ⟨h1, h.num h3 h2, h3⟩
/-- Behind a store elsewhere. -/
theorem GetAt.setB {Rd : World → Nat → RS → Prop} {w0 w : World} {g T : Nat} {t : TabS} {a : TabA} {s : RS} (h : GetAt Rd w0 g T t a s w) {b : Nat} (hb : T < b) (h1 : ¬ FootG a.A1 b) (h2 : ¬ FootG a.A2 b) (h3 : ¬ FootG a.A3 b) (k : Nat) (u : Value) : GetAt Rd w0 g T t a s (w.setCell ⟨b, k, none⟩ u) := by
  have l1 := h.lt1
  have l2 := h.lt2
  have hk := setT_heap w b k u
  have hbl : Below (T + 1) w (w.setCell ⟨b, k, none⟩ u) := (Below.refl _ _).setCell (p := ⟨b, k, none⟩) (by simp only; omega) _
  exact ⟨h.bel.setCell (p := ⟨b, k, none⟩) (by simp only; omega) _, h.hR.far (p := ⟨b, k, none⟩) (by simp only; omega) _, h.lo _ _ _ h.hg (hbl.mono (by omega)), h.lo, h.hT.far (p := ⟨b, k, none⟩) (by simp only; omega) _, l1, l2,
    own_keepG h.o1 fun x hx => hk x (fun e => h1 (e ▸ hx)), own_keepG h.o2 fun x hx => hk x (fun e => h2 (e ▸ hx)), own_keepG h.o3 fun x hx => hk x (fun e => h3 (e ▸ hx)), h.d12, h.d13, h.d23⟩
def RGetPost (bs : List UInt8) (w : World) (e : Ending) (w' : World) : Prop :=
  ∃ a : TabA, e = .returned (.tuple #[.agg #[.int .i64 (getB bs).1.frame, .slice a.A1 (getB bs).1.parts.length a.c1, .slice a.A2 (getB bs).1.wins.length a.c2, .slice a.A3 (getB bs).1.chans.length a.c3, .int .i64 (getB bs).1.trial], .int .i64 (getB bs).2]) ∧ TabIn w' (getB bs).1 a ∧ Below w.heap.size w w'

set_option maxRecDepth 100000 in
set_option maxHeartbeats 4000000 in
theorem refGetT_any (A : Option Addr) (n c : Nat) (bs : List UInt8) (w : World) (h : Reads w w.heap.size 1 A n (bs.map bV)) (hn : n ≤ 1000000) (hnc : n ≤ c) (hcm : c ≤ maxLen) :
    Calls Try.prog 40 #[.slice A n c] w (RGetPost bs w) := by
  have hbl : bs.length = n := by simpa using h.len
  -- what is read
  obtain ⟨⟨v1, s1⟩, e1⟩ : ∃ r, rNum ⟨bs, 0⟩ 1 = r := ⟨_, rfl⟩
  obtain ⟨⟨v2, s2⟩, e2⟩ : ∃ r, rNum s1 1 = r := ⟨_, rfl⟩
  obtain ⟨⟨P, s3⟩, e3⟩ : ∃ r, rNum s2 1 = r := ⟨_, rfl⟩
  obtain ⟨⟨Q, s4⟩, e4⟩ : ∃ r, rNum s3 1 = r := ⟨_, rfl⟩
  obtain ⟨⟨C, s5⟩, e5⟩ : ∃ r, rNum s4 1 = r := ⟨_, rfl⟩
  obtain ⟨⟨ps, s6⟩, e6⟩ : ∃ r, rdMany rdPart P s5 = r := ⟨_, rfl⟩
  obtain ⟨⟨ws, s7⟩, e7⟩ : ∃ r, rdMany rdWin Q s6 = r := ⟨_, rfl⟩
  obtain ⟨⟨cs, s8⟩, e8⟩ : ∃ r, rdMany rdChan C s7 = r := ⟨_, rfl⟩
  have b1 : P < 256 := by have := rNum_bd1 s2; rw [e3] at this; exact this
  have b2 : Q < 256 := by have := rNum_bd1 s3; rw [e4] at this; exact this
  have b3 : C < 256 := by have := rNum_bd1 s4; rw [e5] at this; exact this
  have bf : v1 < 256 := by have := rNum_bd1 ⟨bs, 0⟩; rw [e1] at this; exact this
  have hG : getT bs = (⟨v1, ps, ws, cs, v2⟩, s8) := by
    unfold getT rdHead
    simp only [e1, e2, e3, e4, e5, e6, e7, e8]
  have HGB : Hid (getB bs = if rEnd s8 ≠ 0 then (tabZ, rEnd s8) else if rightB ⟨v1, ps, ws, cs, v2⟩ = true then (⟨v1, ps, ws, cs, v2⟩, 0) else (tabZ, 9)) := hid (by unfold getB; rw [hG])
  have m1 := hid (fun g T t a W (hA : GetAt Rdr2 w g T t a ⟨bs, 0⟩ W) => num_s2 1 e1 hA)
  have m2 := hid (fun g T t a W (hA : GetAt Rdr2 w g T t a s1 W) => num_s2 1 e2 hA)
  have m3 := hid (fun g T t a W (hA : GetAt Rdr2 w g T t a s2 W) => num_s2 1 e3 hA)
  have m4 := hid (fun g T t a W (hA : GetAt Rdr2 w g T t a s3 W) => num_s2 1 e4 hA)
  have m5 := hid (fun g T t a W (hA : GetAt Rdr2 w g T t a s4 W) => num_s2 1 e5 hA)
  have E6 := hid e6
  have E7 := hid e7
  have E8 := hid e8
  clear e1 e2 e3 e4 e5 e6 e7 e8 hG
  obtain ⟨w3, hw3, H3⟩ : ∃ W : World, ((w.alloc (.cells #[.int .i64 0, .slice none 0 0, .slice none 0 0, .slice none 0 0, .int .i64 0] 26)).alloc (.cells #[.slice A n c, .int .i64 0, .int .i64 0] 94)).alloc (.cells #[.int .i64 0, .slice none 0 0, .slice none 0 0, .slice none 0 0, .int .i64 0] 26) = W ∧ Hid (GetAt Rdr2 w (w.heap.size + 1) (w.heap.size + 2) tabZ ⟨none, 0, none, 0, none, 0⟩ ⟨bs, 0⟩ W) := ⟨_, rfl, hid (by
    have hf : ∀ b, ¬ FootG none b := fun b hb => by obtain ⟨a, h, _⟩ := hb; cases h
    have hb3 : Below w.heap.size w (((w.alloc (.cells #[.int .i64 0, .slice none 0 0, .slice none 0 0, .slice none 0 0, .int .i64 0] 26)).alloc (.cells #[.slice A n c, .int .i64 0, .int .i64 0] 94)).alloc (.cells #[.int .i64 0, .slice none 0 0, .slice none 0 0, .slice none 0 0, .int .i64 0] 26)) := (((Below.refl _ _).alloc (Nat.le_refl _) _).alloc (by simp) _).alloc (by simp <;> omega) _
    have hr1 := ((Blk.new w 26 (tabC tabZ ⟨none, 0, none, 0, none, 0⟩)).alloc (.cells #[.slice A n c, .int .i64 0, .int .i64 0] 94)).alloc (.cells #[.int .i64 0, .slice none 0 0, .slice none 0 0, .slice none 0 0, .int .i64 0] 26)
    have hr2 := (Blk.new (w.alloc (.cells #[.int .i64 0, .slice none 0 0, .slice none 0 0, .slice none 0 0, .int .i64 0] 26)) 94 [.slice A n c, .int .i64 0, .int .i64 0]).alloc (.cells #[.int .i64 0, .slice none 0 0, .slice none 0 0, .slice none 0 0, .int .i64 0] 26)
    have hr3 := Blk.new ((w.alloc (.cells #[.int .i64 0, .slice none 0 0, .slice none 0 0, .slice none 0 0, .int .i64 0] 26)).alloc (.cells #[.slice A n c, .int .i64 0, .int .i64 0] 94)) 26 (tabC tabZ ⟨none, 0, none, 0, none, 0⟩)
    rw [show (w.alloc (.cells #[.int .i64 0, .slice none 0 0, .slice none 0 0, .slice none 0 0, .int .i64 0] 26)).heap.size = w.heap.size + 1 by simp] at hr2
    rw [show ((w.alloc (.cells #[.int .i64 0, .slice none 0 0, .slice none 0 0, .slice none 0 0, .int .i64 0] 26)).alloc (.cells #[.slice A n c, .int .i64 0, .int .i64 0] 94)).heap.size = w.heap.size + 2 by simp] at hr3
    exact ⟨hb3, hr1, ⟨A, n, c, 0, hr2, ⟨bs, (h.below hb3).more (by omega), rfl⟩, Nat.zero_le _, hnc, hcm, by omega⟩, fun _ _ _ h1 h2 => h1.low h2, hr3, by omega, by omega, World.ownsRow_nil _ _ _ _, World.ownsRow_nil _ _ _ _, World.ownsRow_nil _ _ _ _, fun b hb => absurd hb (hf b), fun b hb => absurd hb (hf b), fun b hb => absurd hb (hf b)⟩)⟩
  obtain ⟨g, hgE⟩ : ∃ g, w.heap.size + 1 = g := ⟨_, rfl⟩
  obtain ⟨T, hTE⟩ : ∃ T, w.heap.size + 2 = T := ⟨_, rfl⟩
  rw [hgE, hTE] at H3
  have HW3 := hid hw3
  have HgE := hid hgE
  have HTE : Hid (g + 1 = T) := hid (by omega)
  clear h hw3 hgE hTE hbl hn hnc hcm
  go_enter Try.func40, Try.ntmps40
  go_wp2_with fail
  rw [HW3.out, HgE.out, HTE.out]
  clear HW3 HgE HTE
  refine (m1.out _ _ _ _ _ H3.out).mono ?_
  rintro e w4 ⟨rfl, h4, -⟩
  obtain ⟨c0, c1, c2, c3, c4⟩ := tab_cells h4.hT
  have f0 := h4.hT.frozen 0
  have H4 := hid (h4.frame v1)
  clear h4 H3 m1
  go_wp2_with fail
  clear c0 c1 c2 c3 c4 f0
  refine (m2.out _ _ _ _ _ H4.out).mono ?_
  rintro e w5 ⟨rfl, h5, -⟩
  obtain ⟨c0, c1, c2, c3, c4⟩ := tab_cells h5.hT
  have f4 := h5.hT.frozen 4
  have H5 := hid (h5.trial v2)
  clear h5 H4 m2
  go_wp2_with fail
  clear c0 c1 c2 c3 c4 f4
  have H6 : Hid (GetAt Rdr2 w g T ⟨v1, [], [], [], v2⟩ ⟨none, 0, none, 0, none, 0⟩ s2 (w5.setCell ⟨T, 4, none⟩ (iV v2))) := H5
  refine (m3.out _ _ _ _ _ H6.out).mono ?_
  rintro e w7 ⟨rfl, h7, -⟩
  have H7 := hid h7
  clear h7 H6 H5 m3
  go_wp2_with fail
  refine (m4.out _ _ _ _ _ H7.out).mono ?_
  rintro e w8 ⟨rfl, h8, -⟩
  have H8 := hid h8
  clear h8 H7 m4
  go_wp2_with fail
  refine (m5.out _ _ _ _ _ H8.out).mono ?_
  rintro e w9 ⟨rfl, h9, -⟩
  have H9 := hid h9
  clear h9 H8 m5
  have HB1 := hid b1
  have HB2 := hid b2
  have HB3 := hid b3
  have HBF := hid bf
  clear b1 b2 b3 bf
  go_wp2_with fail
  go_loopw [9] (fun vC wr => ∃ (k : Nat) (a : TabA), k ≤ P ∧ vC = .int .i64 (k : Int) ∧ GetAt Rdr2 w g T ⟨(v1 : Int), (rdMany rdPart k s5).1, [], [], (v2 : Int)⟩ a (rdMany rdPart k s5).2 wr) (fun vC _ => P - (intOf vC).toNat)
  case atStart => exact ⟨0, ⟨none, 0, none, 0, none, 0⟩, by omega, rfl, H9.out⟩
  case round =>
    obtain ⟨k, a1, hk, rfl, hA⟩ := hrel
    have hfull : k = P → GetAt Rdr2 w g T ⟨(v1 : Int), (rdMany rdPart P s5).1, [], [], (v2 : Int)⟩ a1 (rdMany rdPart P s5).2 wr := fun e => by subst e; exact hA
    have HFUL := hid hfull
    clear hfull
    have HCi := hid (rdMany_len rdPart s5 k)
    have HNX := hid (show rdMany rdPart (k + 1) s5 = ((rdMany rdPart k s5).1 ++ [(rdPart (rdMany rdPart k s5).2).1], (rdPart (rdMany rdPart k s5).2).2) from rfl)
    obtain ⟨⟨ps9, t0⟩, ek⟩ : ∃ r, rdMany rdPart k s5 = r := ⟨_, rfl⟩
    rw [ek] at hA HCi HNX
    simp only at hA HCi HNX
    clear ek
    have kN : k ≤ P := hk
    by_cases hkn : k < P
    · have y0 : decide ((k : Int) < (P : Int)) = true := decide_eq_true (by omega)
      have y0' : decide (k < P) = true := decide_eq_true hkn
      obtain ⟨⟨x1, t1⟩, e1⟩ : ∃ r, rNum t0 1 = r := ⟨_, rfl⟩
      obtain ⟨⟨x2, t2⟩, e2⟩ : ∃ r, rNum t1 1 = r := ⟨_, rfl⟩
      obtain ⟨⟨x3, t3⟩, e3⟩ : ∃ r, rNum t2 2 = r := ⟨_, rfl⟩
      have hrd : rdPart t0 = (⟨x1, x2, x3⟩, t3) := by
        show rd3 _ _ _ = _
        unfold rd3
        simp only [e1, e2, e3, Int.cast_ofNat_Int]
      rw [hrd] at HNX
      simp only at HNX
      have i1 := hid (fun W (hA : GetAt Rdr2 w g T ⟨(v1 : Int), ps9, [], [], (v2 : Int)⟩ a1 t0 W) => num_s2 1 e1 hA)
      have i2 := hid (fun W (hA : GetAt Rdr2 w g T ⟨(v1 : Int), ps9, [], [], (v2 : Int)⟩ a1 t1 W) => num_s2 1 e2 hA)
      have i3 := hid (fun W (hA : GetAt Rdr2 w g T ⟨(v1 : Int), ps9, [], [], (v2 : Int)⟩ a1 t2 W) => num_s2 2 e3 hA)
      have hpl : Hid (ps9.length ≤ 256) := hid (by have := HCi.out; have := HB1.out; omega)
      obtain ⟨wp, hwp, HAp, HPp, HFo⟩ : ∃ W : World, wr.alloc (.cells #[.int .i64 0, .int .i64 0, .int .i64 0] 77) = W ∧ Hid (GetAt Rdr2 w g T ⟨(v1 : Int), ps9, [], [], (v2 : Int)⟩ a1 t0 W) ∧ Hid (Blk W wr.heap.size 77 [.int .i64 0, .int .i64 0, .int .i64 0]) ∧ Hid (T < wr.heap.size ∧ g < T ∧ ¬ FootG a1.A1 wr.heap.size ∧ ¬ FootG a1.A2 wr.heap.size ∧ ¬ FootG a1.A3 wr.heap.size) := ⟨_, rfl, hid (hA.belowS ((Below.refl _ _).alloc (Nat.le_refl _) _)), hid (Blk.new wr _ [.int .i64 0, .int .i64 0, .int .i64 0]), hid ⟨hA.size, hA.lt2, fun h => by have := (own_rng hA.o1 h).2; omega, fun h => by have := (own_rng hA.o2 h).2; omega, fun h => by have := (own_rng hA.o3 h).2; omega⟩⟩
      have HWP := hid hwp
      clear hA e1 e2 e3 hrd hwp
      go_wp2_with fail
      rw [HWP.out]
      clear HWP
      generalize wr.heap.size = pb at *
      refine (i1.out _ HAp.out).mono ?_
      rintro e wa ⟨rfl, ha, hga⟩
      have HPa := hid ((hga.block _ HPp.out.lt (fun e => by injection e with e; have := HFo.out; omega)).trans HPp.out)
      have HPa : Hid (Blk wa pb 77 [.int .i64 0, .int .i64 0, .int .i64 0]) := HPa
      have a0 : wa.cell? ⟨pb, 0, none⟩ = some (.int .i64 0) := HPa.out.cellAt rfl
      have af := HPa.out.frozen 0
      have HA1 := hid (ha.setB HFo.out.1 HFo.out.2.2.1 HFo.out.2.2.2.1 HFo.out.2.2.2.2 0 (iV x1))
      have HP1 : Hid (Blk (wa.setCell ⟨pb, 0, none⟩ (iV x1)) pb 77 [iV x1, .int .i64 0, .int .i64 0]) := hid (HPa.out.set_ 0 (iV x1))
      clear ha hga HAp HPp i1
      go_wp2_with fail
      clear a0 af HPa
      refine (i2.out _ HA1.out).mono ?_
      rintro e wb ⟨rfl, hb, hgb⟩
      have HPa := hid ((hgb.block _ HP1.out.lt (fun e => by injection e with e; have := HFo.out; omega)).trans HP1.out)
      have HPa : Hid (Blk wb pb 77 [iV x1, .int .i64 0, .int .i64 0]) := HPa
      have a0 : wb.cell? ⟨pb, 1, none⟩ = some (.int .i64 0) := HPa.out.cellAt rfl
      have af := HPa.out.frozen 1
      have HA2 := hid (hb.setB HFo.out.1 HFo.out.2.2.1 HFo.out.2.2.2.1 HFo.out.2.2.2.2 1 (iV x2))
      have HP2 : Hid (Blk (wb.setCell ⟨pb, 1, none⟩ (iV x2)) pb 77 [iV x1, iV x2, .int .i64 0]) := hid (HPa.out.set_ 1 (iV x2))
      clear hb hgb HA1 HP1 i2
      go_wp2_with fail
      clear a0 af HPa
      refine (i3.out _ HA2.out).mono ?_
      rintro e wc ⟨rfl, hc, hgc⟩
      have HPa := hid ((hgc.block _ HP2.out.lt (fun e => by injection e with e; have := HFo.out; omega)).trans HP2.out)
      have HPa : Hid (Blk wc pb 77 [iV x1, iV x2, .int .i64 0]) := HPa
      have a0 : wc.cell? ⟨pb, 2, none⟩ = some (.int .i64 0) := HPa.out.cellAt rfl
      have af := HPa.out.frozen 2
      obtain ⟨wd, hwd, HA3, HP3⟩ : ∃ W : World, wc.setCell ⟨pb, 2, none⟩ (iV x3) = W ∧ Hid (GetAt Rdr2 w g T ⟨(v1 : Int), ps9, [], [], (v2 : Int)⟩ a1 t3 W) ∧ Hid (Blk W pb 77 [iV x1, iV x2, iV x3]) := ⟨_, rfl, hid (hc.setB HFo.out.1 HFo.out.2.2.1 HFo.out.2.2.2.1 HFo.out.2.2.2.2 2 (iV x3)), hid (HPa.out.set_ 2 (iV x3))⟩
      have p0 : wd.cell? ⟨pb, 0, none⟩ = some (.int .i64 (x1 : Int)) := HP3.out.cellAt rfl
      have p1 : wd.cell? ⟨pb, 1, none⟩ = some (.int .i64 (x2 : Int)) := HP3.out.cellAt rfl
      have p2 : wd.cell? ⟨pb, 2, none⟩ = some (.int .i64 (x3 : Int)) := HP3.out.cellAt rfl
      have q0 : wd.cell? ⟨T, 1, none⟩ = some (.slice a1.A1 ps9.length a1.c1) := HA3.out.hT.cellAt rfl
      have HA3b := hid (HA3.out.belowS ((Below.refl _ _).alloc (Nat.le_refl _) (.cells #[.int .i64 (x1 : Int), .int .i64 (x2 : Int), .int .i64 (x3 : Int)] 77)))
      have HN3 : Hid (Reads (wd.alloc (.cells #[.int .i64 (x1 : Int), .int .i64 (x2 : Int), .int .i64 (x3 : Int)] 77)) (wd.heap.size + 1) 3 (some ⟨wd.heap.size, 0, none⟩) 1 [iV x1, iV x2, iV x3]) := hid ((Reads.lit (n := 1) (size := 3) (heap_alloc_new wd (.cells #[.int .i64 (x1 : Int), .int .i64 (x2 : Int), .int .i64 (x3 : Int)] 77)) rfl).more (by simp))
      obtain ⟨i0, hi0, hz0, hz1, hz2⟩ := info_parts info_part
      clear hc hgc HA2 HP2 HPa i3
      have hbnd := HB1.out
      go_wp2_with (at_builtin; refine wpList_app _ rfl (.tmp 47) (.tmp 49) _ rfl (T + 1) 77 i0 _ 3 24 Try.underlying22 hi0 hz0 hz1 hz2 rfl (by decide) (.slice a1.A1 ps9.length a1.c1) ps9.length (ps9.flatMap partC) rfl HA3b.out.o1 (wd.heap.size + 1) (some ⟨wd.heap.size, 0, none⟩) 1 1 [iV x1, iV x2, iV x3] rfl HN3.out (by simp [Value.oneCell', iV]) (by have := hpl.out; simp [maxLen]; omega) (by have := hpl.out; omega) (Nat.le_trans HA3.out.size (by simp)) ?_; intro A' c' w5 hown5 hg5 hA5; have HF := hid (HA3b.out.part ⟨x1, x2, x3⟩ (wd.heap.size + 1) (by simp) hown5 hg5 (by simpa using hA5)); have hb5 : Below (T + 1) (wd.alloc (.cells #[.int .i64 (x1 : Int), .int .i64 (x2 : Int), .int .i64 (x3 : Int)] 77)) w5 := ⟨hg5.os, hg5.tape, hg5.output, hg5.size, fun b hb => hg5.block b (by have := HA3.out.size; simp; omega) (fun e => by have := (own_rng HA3.out.o1 (ownBlock_footG.1 e.symm)).1; omega)⟩; have hT5 := HA3b.out.hT.below hb5 (by omega); have y4 : w5.cell? ⟨T, 1, none⟩ = some (.slice a1.A1 ps9.length a1.c1) := hT5.cellAt rfl; have yf := hT5.frozen 1; clear hown5 hg5 hA5 hb5 hT5)
      clear a0 af p0 p1 p2 q0 y4 yf hwd HN3
      go_roundw
      case rel => exact ⟨k + 1, { a1 with A1 := A', c1 := c' }, by omega, by go_num, by rw [HNX.out]; exact HF.out⟩
      case measure => simp [intOf]; omega
    · have hkN : P = k := by omega
      subst hkN
      clear hkn hk
      have hfull := HFUL.out rfl
      have hA1 : GetAt Rdr2 w g T ⟨(v1 : Int), ps, [], [], (v2 : Int)⟩ a1 s6 wr := by
        have h9 := hfull
        rw [E6.out] at h9
        exact h9
      have H10 := hid hA1
      clear hA1 hfull hA HCi HNX
      obtain ⟨wx1, hwx⟩ : ∃ W : World, wr = W := ⟨_, rfl⟩
      subst hwx
      go_wp2_with fail
      go_loopw [11] (fun vC wr => ∃ (k : Nat) (a : TabA), k ≤ Q ∧ vC = .int .i64 (k : Int) ∧ GetAt Rdr2 w g T ⟨(v1 : Int), ps, (rdMany rdWin k s6).1, [], (v2 : Int)⟩ a (rdMany rdWin k s6).2 wr) (fun vC _ => Q - (intOf vC).toNat)
      case atStart => exact ⟨0, a1, by omega, rfl, H10.out⟩
      case round =>
        obtain ⟨k, a2, hk, rfl, hA⟩ := hrel
        have hfull : k = Q → GetAt Rdr2 w g T ⟨(v1 : Int), ps, (rdMany rdWin Q s6).1, [], (v2 : Int)⟩ a2 (rdMany rdWin Q s6).2 wr := fun e => by subst e; exact hA
        have HFUL := hid hfull
        clear hfull
        have HCi := hid (rdMany_len rdWin s6 k)
        have HNX := hid (show rdMany rdWin (k + 1) s6 = ((rdMany rdWin k s6).1 ++ [(rdWin (rdMany rdWin k s6).2).1], (rdWin (rdMany rdWin k s6).2).2) from rfl)
        obtain ⟨⟨ps9, t0⟩, ek⟩ : ∃ r, rdMany rdWin k s6 = r := ⟨_, rfl⟩
        rw [ek] at hA HCi HNX
        simp only at hA HCi HNX
        clear ek
        have kN : k ≤ Q := hk
        by_cases hkn : k < Q
        · have y0 : decide ((k : Int) < (Q : Int)) = true := decide_eq_true (by omega)
          have y0' : decide (k < Q) = true := decide_eq_true hkn
          obtain ⟨⟨x1, t1⟩, e1⟩ : ∃ r, rNum t0 1 = r := ⟨_, rfl⟩
          obtain ⟨⟨x2, t2⟩, e2⟩ : ∃ r, rNum t1 1 = r := ⟨_, rfl⟩
          obtain ⟨⟨x3, t3⟩, e3⟩ : ∃ r, rNum t2 1 = r := ⟨_, rfl⟩
          have hrd : rdWin t0 = (⟨x1, x2, x3⟩, t3) := by
            show rd3 _ _ _ = _
            unfold rd3
            simp only [e1, e2, e3, Int.cast_ofNat_Int]
          rw [hrd] at HNX
          simp only at HNX
          have i1 := hid (fun W (hA : GetAt Rdr2 w g T ⟨(v1 : Int), ps, ps9, [], (v2 : Int)⟩ a2 t0 W) => num_s2 1 e1 hA)
          have i2 := hid (fun W (hA : GetAt Rdr2 w g T ⟨(v1 : Int), ps, ps9, [], (v2 : Int)⟩ a2 t1 W) => num_s2 1 e2 hA)
          have i3 := hid (fun W (hA : GetAt Rdr2 w g T ⟨(v1 : Int), ps, ps9, [], (v2 : Int)⟩ a2 t2 W) => num_s2 1 e3 hA)
          have hpl : Hid (ps9.length ≤ 256) := hid (by have := HCi.out; have := HB2.out; omega)
          obtain ⟨wp, hwp, HAp, HPp, HFo⟩ : ∃ W : World, wr.alloc (.cells #[.int .i64 0, .int .i64 0, .int .i64 0] 30) = W ∧ Hid (GetAt Rdr2 w g T ⟨(v1 : Int), ps, ps9, [], (v2 : Int)⟩ a2 t0 W) ∧ Hid (Blk W wr.heap.size 30 [.int .i64 0, .int .i64 0, .int .i64 0]) ∧ Hid (T < wr.heap.size ∧ g < T ∧ ¬ FootG a2.A1 wr.heap.size ∧ ¬ FootG a2.A2 wr.heap.size ∧ ¬ FootG a2.A3 wr.heap.size) := ⟨_, rfl, hid (hA.belowS ((Below.refl _ _).alloc (Nat.le_refl _) _)), hid (Blk.new wr _ [.int .i64 0, .int .i64 0, .int .i64 0]), hid ⟨hA.size, hA.lt2, fun h => by have := (own_rng hA.o1 h).2; omega, fun h => by have := (own_rng hA.o2 h).2; omega, fun h => by have := (own_rng hA.o3 h).2; omega⟩⟩
          have HWP := hid hwp
          clear hA e1 e2 e3 hrd hwp
          go_wp2_with fail
          rw [HWP.out]
          clear HWP
          generalize wr.heap.size = pb at *
          refine (i1.out _ HAp.out).mono ?_
          rintro e wa ⟨rfl, ha, hga⟩
          have HPa := hid ((hga.block _ HPp.out.lt (fun e => by injection e with e; have := HFo.out; omega)).trans HPp.out)
          have HPa : Hid (Blk wa pb 30 [.int .i64 0, .int .i64 0, .int .i64 0]) := HPa
          have a0 : wa.cell? ⟨pb, 0, none⟩ = some (.int .i64 0) := HPa.out.cellAt rfl
          have af := HPa.out.frozen 0
          have HA1 := hid (ha.setB HFo.out.1 HFo.out.2.2.1 HFo.out.2.2.2.1 HFo.out.2.2.2.2 0 (iV x1))
          have HP1 : Hid (Blk (wa.setCell ⟨pb, 0, none⟩ (iV x1)) pb 30 [iV x1, .int .i64 0, .int .i64 0]) := hid (HPa.out.set_ 0 (iV x1))
          clear ha hga HAp HPp i1
          go_wp2_with fail
          clear a0 af HPa
          refine (i2.out _ HA1.out).mono ?_
          rintro e wb ⟨rfl, hb, hgb⟩
          have HPa := hid ((hgb.block _ HP1.out.lt (fun e => by injection e with e; have := HFo.out; omega)).trans HP1.out)
          have HPa : Hid (Blk wb pb 30 [iV x1, .int .i64 0, .int .i64 0]) := HPa
          have a0 : wb.cell? ⟨pb, 1, none⟩ = some (.int .i64 0) := HPa.out.cellAt rfl
          have af := HPa.out.frozen 1
          have HA2 := hid (hb.setB HFo.out.1 HFo.out.2.2.1 HFo.out.2.2.2.1 HFo.out.2.2.2.2 1 (iV x2))
          have HP2 : Hid (Blk (wb.setCell ⟨pb, 1, none⟩ (iV x2)) pb 30 [iV x1, iV x2, .int .i64 0]) := hid (HPa.out.set_ 1 (iV x2))
          clear hb hgb HA1 HP1 i2
          go_wp2_with fail
          clear a0 af HPa
          refine (i3.out _ HA2.out).mono ?_
          rintro e wc ⟨rfl, hc, hgc⟩
          have HPa := hid ((hgc.block _ HP2.out.lt (fun e => by injection e with e; have := HFo.out; omega)).trans HP2.out)
          have HPa : Hid (Blk wc pb 30 [iV x1, iV x2, .int .i64 0]) := HPa
          have a0 : wc.cell? ⟨pb, 2, none⟩ = some (.int .i64 0) := HPa.out.cellAt rfl
          have af := HPa.out.frozen 2
          obtain ⟨wd, hwd, HA3, HP3⟩ : ∃ W : World, wc.setCell ⟨pb, 2, none⟩ (iV x3) = W ∧ Hid (GetAt Rdr2 w g T ⟨(v1 : Int), ps, ps9, [], (v2 : Int)⟩ a2 t3 W) ∧ Hid (Blk W pb 30 [iV x1, iV x2, iV x3]) := ⟨_, rfl, hid (hc.setB HFo.out.1 HFo.out.2.2.1 HFo.out.2.2.2.1 HFo.out.2.2.2.2 2 (iV x3)), hid (HPa.out.set_ 2 (iV x3))⟩
          have p0 : wd.cell? ⟨pb, 0, none⟩ = some (.int .i64 (x1 : Int)) := HP3.out.cellAt rfl
          have p1 : wd.cell? ⟨pb, 1, none⟩ = some (.int .i64 (x2 : Int)) := HP3.out.cellAt rfl
          have p2 : wd.cell? ⟨pb, 2, none⟩ = some (.int .i64 (x3 : Int)) := HP3.out.cellAt rfl
          have q0 : wd.cell? ⟨T, 2, none⟩ = some (.slice a2.A2 ps9.length a2.c2) := HA3.out.hT.cellAt rfl
          have HA3b := hid (HA3.out.belowS ((Below.refl _ _).alloc (Nat.le_refl _) (.cells #[.int .i64 (x1 : Int), .int .i64 (x2 : Int), .int .i64 (x3 : Int)] 30)))
          have HN3 : Hid (Reads (wd.alloc (.cells #[.int .i64 (x1 : Int), .int .i64 (x2 : Int), .int .i64 (x3 : Int)] 30)) (wd.heap.size + 1) 3 (some ⟨wd.heap.size, 0, none⟩) 1 [iV x1, iV x2, iV x3]) := hid ((Reads.lit (n := 1) (size := 3) (heap_alloc_new wd (.cells #[.int .i64 (x1 : Int), .int .i64 (x2 : Int), .int .i64 (x3 : Int)] 30)) rfl).more (by simp))
          obtain ⟨i0, hi0, hz0, hz1, hz2⟩ := info_parts info_win
          clear hc hgc HA2 HP2 HPa i3
          have hbnd := HB2.out
          go_wp2_with (at_builtin; refine wpList_app _ rfl (.tmp 68) (.tmp 70) _ rfl (T + 1) 30 i0 _ 3 24 Try.underlying23 hi0 hz0 hz1 hz2 rfl (by decide) (.slice a2.A2 ps9.length a2.c2) ps9.length (ps9.flatMap winC) rfl HA3b.out.o2 (wd.heap.size + 1) (some ⟨wd.heap.size, 0, none⟩) 1 1 [iV x1, iV x2, iV x3] rfl HN3.out (by simp [Value.oneCell', iV]) (by have := hpl.out; simp [maxLen]; omega) (by have := hpl.out; omega) (Nat.le_trans HA3.out.size (by simp)) ?_; intro A' c' w5 hown5 hg5 hA5; have HF := hid (HA3b.out.win ⟨x1, x2, x3⟩ (wd.heap.size + 1) (by simp) hown5 hg5 (by simpa using hA5)); have hb5 : Below (T + 1) (wd.alloc (.cells #[.int .i64 (x1 : Int), .int .i64 (x2 : Int), .int .i64 (x3 : Int)] 30)) w5 := ⟨hg5.os, hg5.tape, hg5.output, hg5.size, fun b hb => hg5.block b (by have := HA3.out.size; simp; omega) (fun e => by have := (own_rng HA3.out.o2 (ownBlock_footG.1 e.symm)).1; omega)⟩; have hT5 := HA3b.out.hT.below hb5 (by omega); have y4 : w5.cell? ⟨T, 2, none⟩ = some (.slice a2.A2 ps9.length a2.c2) := hT5.cellAt rfl; have yf := hT5.frozen 2; clear hown5 hg5 hA5 hb5 hT5)
          clear a0 af p0 p1 p2 q0 y4 yf hwd HN3
          go_roundw
          case rel => exact ⟨k + 1, { a2 with A2 := A', c2 := c' }, by omega, by go_num, by rw [HNX.out]; exact HF.out⟩
          case measure => simp [intOf]; omega
        · have hkN : Q = k := by omega
          subst hkN
          clear hkn hk
          have hfull := HFUL.out rfl
          have hA2 : GetAt Rdr2 w g T ⟨(v1 : Int), ps, ws, [], (v2 : Int)⟩ a2 s7 wr := by
            have h9 := hfull
            rw [E7.out] at h9
            exact h9
          have H11 := hid hA2
          clear hA2 hfull hA HCi HNX
          obtain ⟨wx1, hwx⟩ : ∃ W : World, wr = W := ⟨_, rfl⟩
          subst hwx
          go_wp2_with fail
          go_loopw [13] (fun vC wr => ∃ (k : Nat) (a : TabA), k ≤ C ∧ vC = .int .i64 (k : Int) ∧ GetAt Rdr2 w g T ⟨(v1 : Int), ps, ws, (rdMany rdChan k s7).1, (v2 : Int)⟩ a (rdMany rdChan k s7).2 wr) (fun vC _ => C - (intOf vC).toNat)
          case atStart => exact ⟨0, a2, by omega, rfl, H11.out⟩
          case round =>
            obtain ⟨k, a, hk, rfl, hA⟩ := hrel
            have hfull : k = C → GetAt Rdr2 w g T ⟨(v1 : Int), ps, ws, (rdMany rdChan C s7).1, (v2 : Int)⟩ a (rdMany rdChan C s7).2 wr := fun e => by subst e; exact hA
            have HFUL := hid hfull
            clear hfull
            have HCi := hid (rdMany_len rdChan s7 k)
            have HNX := hid (show rdMany rdChan (k + 1) s7 = ((rdMany rdChan k s7).1 ++ [(rdChan (rdMany rdChan k s7).2).1], (rdChan (rdMany rdChan k s7).2).2) from rfl)
            obtain ⟨⟨ps9, t0⟩, ek⟩ : ∃ r, rdMany rdChan k s7 = r := ⟨_, rfl⟩
            rw [ek] at hA HCi HNX
            simp only at hA HCi HNX
            clear ek
            have kN : k ≤ C := hk
            by_cases hkn : k < C
            · have y0 : decide ((k : Int) < (C : Int)) = true := decide_eq_true (by omega)
              have y0' : decide (k < C) = true := decide_eq_true hkn
              obtain ⟨⟨x1, t1⟩, e1⟩ : ∃ r, rNum t0 1 = r := ⟨_, rfl⟩
              obtain ⟨⟨x2, t2⟩, e2⟩ : ∃ r, rNum t1 1 = r := ⟨_, rfl⟩
              obtain ⟨⟨x3, t3⟩, e3⟩ : ∃ r, rNum t2 1 = r := ⟨_, rfl⟩
              have hrd : rdChan t0 = (⟨x1, x2, x3⟩, t3) := by
                show rd3 _ _ _ = _
                unfold rd3
                simp only [e1, e2, e3, Int.cast_ofNat_Int]
              rw [hrd] at HNX
              simp only at HNX
              have i1 := hid (fun W (hA : GetAt Rdr2 w g T ⟨(v1 : Int), ps, ws, ps9, (v2 : Int)⟩ a t0 W) => num_s2 1 e1 hA)
              have i2 := hid (fun W (hA : GetAt Rdr2 w g T ⟨(v1 : Int), ps, ws, ps9, (v2 : Int)⟩ a t1 W) => num_s2 1 e2 hA)
              have i3 := hid (fun W (hA : GetAt Rdr2 w g T ⟨(v1 : Int), ps, ws, ps9, (v2 : Int)⟩ a t2 W) => num_s2 1 e3 hA)
              have hpl : Hid (ps9.length ≤ 256) := hid (by have := HCi.out; have := HB3.out; omega)
              obtain ⟨wp, hwp, HAp, HPp, HFo⟩ : ∃ W : World, wr.alloc (.cells #[.int .i64 0, .int .i64 0, .int .i64 0] 34) = W ∧ Hid (GetAt Rdr2 w g T ⟨(v1 : Int), ps, ws, ps9, (v2 : Int)⟩ a t0 W) ∧ Hid (Blk W wr.heap.size 34 [.int .i64 0, .int .i64 0, .int .i64 0]) ∧ Hid (T < wr.heap.size ∧ g < T ∧ ¬ FootG a.A1 wr.heap.size ∧ ¬ FootG a.A2 wr.heap.size ∧ ¬ FootG a.A3 wr.heap.size) := ⟨_, rfl, hid (hA.belowS ((Below.refl _ _).alloc (Nat.le_refl _) _)), hid (Blk.new wr _ [.int .i64 0, .int .i64 0, .int .i64 0]), hid ⟨hA.size, hA.lt2, fun h => by have := (own_rng hA.o1 h).2; omega, fun h => by have := (own_rng hA.o2 h).2; omega, fun h => by have := (own_rng hA.o3 h).2; omega⟩⟩
              have HWP := hid hwp
              clear hA e1 e2 e3 hrd hwp
              go_wp2_with fail
              rw [HWP.out]
              clear HWP
              generalize wr.heap.size = pb at *
              refine (i1.out _ HAp.out).mono ?_
              rintro e wa ⟨rfl, ha, hga⟩
              have HPa := hid ((hga.block _ HPp.out.lt (fun e => by injection e with e; have := HFo.out; omega)).trans HPp.out)
              have HPa : Hid (Blk wa pb 34 [.int .i64 0, .int .i64 0, .int .i64 0]) := HPa
              have a0 : wa.cell? ⟨pb, 0, none⟩ = some (.int .i64 0) := HPa.out.cellAt rfl
              have af := HPa.out.frozen 0
              have HA1 := hid (ha.setB HFo.out.1 HFo.out.2.2.1 HFo.out.2.2.2.1 HFo.out.2.2.2.2 0 (iV x1))
              have HP1 : Hid (Blk (wa.setCell ⟨pb, 0, none⟩ (iV x1)) pb 34 [iV x1, .int .i64 0, .int .i64 0]) := hid (HPa.out.set_ 0 (iV x1))
              clear ha hga HAp HPp i1
              go_wp2_with fail
              clear a0 af HPa
              refine (i2.out _ HA1.out).mono ?_
              rintro e wb ⟨rfl, hb, hgb⟩
              have HPa := hid ((hgb.block _ HP1.out.lt (fun e => by injection e with e; have := HFo.out; omega)).trans HP1.out)
              have HPa : Hid (Blk wb pb 34 [iV x1, .int .i64 0, .int .i64 0]) := HPa
              have a0 : wb.cell? ⟨pb, 1, none⟩ = some (.int .i64 0) := HPa.out.cellAt rfl
              have af := HPa.out.frozen 1
              have HA2 := hid (hb.setB HFo.out.1 HFo.out.2.2.1 HFo.out.2.2.2.1 HFo.out.2.2.2.2 1 (iV x2))
              have HP2 : Hid (Blk (wb.setCell ⟨pb, 1, none⟩ (iV x2)) pb 34 [iV x1, iV x2, .int .i64 0]) := hid (HPa.out.set_ 1 (iV x2))
              clear hb hgb HA1 HP1 i2
              go_wp2_with fail
              clear a0 af HPa
              refine (i3.out _ HA2.out).mono ?_
              rintro e wc ⟨rfl, hc, hgc⟩
              have HPa := hid ((hgc.block _ HP2.out.lt (fun e => by injection e with e; have := HFo.out; omega)).trans HP2.out)
              have HPa : Hid (Blk wc pb 34 [iV x1, iV x2, .int .i64 0]) := HPa
              have a0 : wc.cell? ⟨pb, 2, none⟩ = some (.int .i64 0) := HPa.out.cellAt rfl
              have af := HPa.out.frozen 2
              obtain ⟨wd, hwd, HA3, HP3⟩ : ∃ W : World, wc.setCell ⟨pb, 2, none⟩ (iV x3) = W ∧ Hid (GetAt Rdr2 w g T ⟨(v1 : Int), ps, ws, ps9, (v2 : Int)⟩ a t3 W) ∧ Hid (Blk W pb 34 [iV x1, iV x2, iV x3]) := ⟨_, rfl, hid (hc.setB HFo.out.1 HFo.out.2.2.1 HFo.out.2.2.2.1 HFo.out.2.2.2.2 2 (iV x3)), hid (HPa.out.set_ 2 (iV x3))⟩
              have p0 : wd.cell? ⟨pb, 0, none⟩ = some (.int .i64 (x1 : Int)) := HP3.out.cellAt rfl
              have p1 : wd.cell? ⟨pb, 1, none⟩ = some (.int .i64 (x2 : Int)) := HP3.out.cellAt rfl
              have p2 : wd.cell? ⟨pb, 2, none⟩ = some (.int .i64 (x3 : Int)) := HP3.out.cellAt rfl
              have q0 : wd.cell? ⟨T, 3, none⟩ = some (.slice a.A3 ps9.length a.c3) := HA3.out.hT.cellAt rfl
              have HA3b := hid (HA3.out.belowS ((Below.refl _ _).alloc (Nat.le_refl _) (.cells #[.int .i64 (x1 : Int), .int .i64 (x2 : Int), .int .i64 (x3 : Int)] 34)))
              have HN3 : Hid (Reads (wd.alloc (.cells #[.int .i64 (x1 : Int), .int .i64 (x2 : Int), .int .i64 (x3 : Int)] 34)) (wd.heap.size + 1) 3 (some ⟨wd.heap.size, 0, none⟩) 1 [iV x1, iV x2, iV x3]) := hid ((Reads.lit (n := 1) (size := 3) (heap_alloc_new wd (.cells #[.int .i64 (x1 : Int), .int .i64 (x2 : Int), .int .i64 (x3 : Int)] 34)) rfl).more (by simp))
              obtain ⟨i0, hi0, hz0, hz1, hz2⟩ := info_parts info_chan
              clear hc hgc HA2 HP2 HPa i3
              have hbnd := HB3.out
              go_wp2_with (at_builtin; refine wpList_app _ rfl (.tmp 89) (.tmp 91) _ rfl (T + 1) 34 i0 _ 3 24 Try.underlying24 hi0 hz0 hz1 hz2 rfl (by decide) (.slice a.A3 ps9.length a.c3) ps9.length (ps9.flatMap chanC) rfl HA3b.out.o3 (wd.heap.size + 1) (some ⟨wd.heap.size, 0, none⟩) 1 1 [iV x1, iV x2, iV x3] rfl HN3.out (by simp [Value.oneCell', iV]) (by have := hpl.out; simp [maxLen]; omega) (by have := hpl.out; omega) (Nat.le_trans HA3.out.size (by simp)) ?_; intro A' c' w5 hown5 hg5 hA5; have HF := hid (HA3b.out.chan ⟨x1, x2, x3⟩ (wd.heap.size + 1) (by simp) hown5 hg5 (by simpa using hA5)); have hb5 : Below (T + 1) (wd.alloc (.cells #[.int .i64 (x1 : Int), .int .i64 (x2 : Int), .int .i64 (x3 : Int)] 34)) w5 := ⟨hg5.os, hg5.tape, hg5.output, hg5.size, fun b hb => hg5.block b (by have := HA3.out.size; simp; omega) (fun e => by have := (own_rng HA3.out.o3 (ownBlock_footG.1 e.symm)).1; omega)⟩; have hT5 := HA3b.out.hT.below hb5 (by omega); have y4 : w5.cell? ⟨T, 3, none⟩ = some (.slice a.A3 ps9.length a.c3) := hT5.cellAt rfl; have yf := hT5.frozen 3; clear hown5 hg5 hA5 hb5 hT5)
              clear a0 af p0 p1 p2 q0 y4 yf hwd HN3
              go_roundw
              case rel => exact ⟨k + 1, { a with A3 := A', c3 := c' }, by omega, by go_num, by rw [HNX.out]; exact HF.out⟩
              case measure => simp [intOf]; omega
            · have hkN : C = k := by omega
              subst hkN
              clear hkn hk
              have hfull := HFUL.out rfl
              have hA3 : GetAt Rdr2 w g T ⟨(v1 : Int), ps, ws, cs, (v2 : Int)⟩ a s8 wr := by
                have h9 := hfull
                rw [E8.out] at h9
                exact h9
              clear hfull hA HCi HNX
              have H12 := hid hA3
              have iE := hid (fun W (hA : GetAt Rdr2 w g T ⟨(v1 : Int), ps, ws, cs, (v2 : Int)⟩ a s8 W) => (end2_any g s8 W hA.hg).mono (fun e w' (h : EPost2 W g s8 e w') => (⟨h.1, hA.num h.2.2 h.2.1⟩ : e = .returned (.int .i64 (rEnd s8)) ∧ GetAt Rdr2 w g T ⟨(v1 : Int), ps, ws, cs, (v2 : Int)⟩ a s8 w')))
              clear hA3
              have hlp : ps.length = P := by have := rdMany_len rdPart s5 P; rw [E6.out] at this; exact this
              have hlw : ws.length = Q := by have := rdMany_len rdWin s6 Q; rw [E7.out] at this; exact this
              have hlc : cs.length = C := by have := rdMany_len rdChan s7 C; rw [E8.out] at this; exact this
              have iR := hid (fun W (hA : GetAt Rdr2 w g T ⟨(v1 : Int), ps, ws, cs, (v2 : Int)⟩ a s8 W) => refRight_any ⟨(v1 : Int), ps, ws, cs, (v2 : Int)⟩ a W ⟨hA.tabIn, by simp only; have := HB1.out; omega, by simp only; have := HB2.out; omega, by simp only; have := HB3.out; omega, by simp only; omega, by simp only; have := HBF.out; omega⟩)
              clear hlp hlw hlc
              go_wp2_with fail
              refine (iE.out _ H12.out).mono ?_
              rintro e wE ⟨rfl, h13⟩
              have H13 := hid h13
              clear h13
              obtain ⟨z0, z1, z2, z3, z4⟩ := tab_cells H13.out.hR
              obtain ⟨c0, c1, c2, c3, c4⟩ := tab_cells H13.out.hT
              have HRb := hid H13.out.hR
              have zf := HRb.out.frozen
              have hne : w.heap.size ≠ T := by have := H13.out.lt1; have := H13.out.lt2; omega
              have hne' : T ≠ w.heap.size := fun h => hne h.symm
              by_cases hE : rEnd s8 = 0
              case neg =>
                have y1 : (rEnd s8 != 0) = true := by simpa using hE
                have HGE := hid (show getB bs = (tabZ, rEnd s8) by rw [HGB.out, if_pos hE])
                have iE2 := hid (iE.out _ H13.out)
                generalize rEnd s8 = E at *
                clear hE c0 c1 c2 c3 c4 iE z0 z1 z2 z3 z4 zf
                go_wp2_with fail
                refine iE2.out.mono ?_
                rintro e wG ⟨rfl, h14⟩
                have H13 := hid h14
                have HRb := hid h14.hR
                obtain ⟨z0, z1, z2, z3, z4⟩ := tab_cells h14.hR
                have zf := HRb.out.frozen
                clear h14 iE2
                go_wp2_with fail
                obtain ⟨wq, hwq, hbq, hkq, hrq⟩ := store5T HRb.out rfl (.int .i64 0) (.slice none 0 0) (.slice none 0 0) (.slice none 0 0) (.int .i64 0)
                rw [hwq]
                clear hwq z0 z1 z2 z3 z4 zf
                obtain ⟨r0, r1, r2, r3, r4⟩ : _ ∧ _ ∧ _ ∧ _ ∧ _ := ⟨hrq.cellAt (i := 0) rfl, hrq.cellAt (i := 1) rfl, hrq.cellAt (i := 2) rfl, hrq.cellAt (i := 3) rfl, hrq.cellAt (i := 4) rfl⟩
                have HFin := hid (H13.out.bel.trans hbq)
                refine bodyPost_ret (v := .tuple #[.agg #[.int .i64 0, .slice none 0 0, .slice none 0 0, .slice none 0 0, .int .i64 0], .int .i64 E]) (by simp [results, Try.results40, go_sem, r0, r1, r2, r3, r4]) rfl ?_
                refine ⟨⟨none, 0, none, 0, none, 0⟩, by rw [HGE.out]; rfl, ?_, HFin.out⟩
                rw [HGE.out]
                exact ⟨RdS.nil, RdS.nil, RdS.nil⟩
              have HGE := hid (show getB bs = if rightB ⟨v1, ps, ws, cs, v2⟩ = true then (⟨v1, ps, ws, cs, v2⟩, 0) else (tabZ, 9) by rw [HGB.out, if_neg (by omega)])
              rw [hE]
              clear hE HGB iE
              go_wp2_with fail
              refine (iR.out _ H13.out).mono ?_
              rintro e wF ⟨he, hbF⟩
              have H14 := hid (H13.out.belowS hbF)
              clear z0 z1 z2 z3 z4 c0 c1 c2 c3 c4 iR hbF HRb zf
              obtain ⟨z0, z1, z2, z3, z4⟩ := tab_cells H14.out.hR
              obtain ⟨c0, c1, c2, c3, c4⟩ := tab_cells H14.out.hT
              have HRb := hid H14.out.hR
              have zf := HRb.out.frozen
              by_cases hr : rightB ⟨v1, ps, ws, cs, v2⟩ = true
              case neg =>
                have hr' : rightB ⟨v1, ps, ws, cs, v2⟩ = false := by simpa using hr
                rw [hr'] at he
                have HG2 := hid (show getB bs = (tabZ, 9) by rw [HGE.out, if_neg hr])
                subst he
                clear hr hr' c0 c1 c2 c3 c4 HGE
                go_wp2_with fail
                obtain ⟨wq, hwq, hbq, hkq, hrq⟩ := store5T HRb.out rfl (.int .i64 0) (.slice none 0 0) (.slice none 0 0) (.slice none 0 0) (.int .i64 0)
                rw [hwq]
                clear hwq z0 z1 z2 z3 z4 zf
                obtain ⟨r0, r1, r2, r3, r4⟩ : _ ∧ _ ∧ _ ∧ _ ∧ _ := ⟨hrq.cellAt (i := 0) rfl, hrq.cellAt (i := 1) rfl, hrq.cellAt (i := 2) rfl, hrq.cellAt (i := 3) rfl, hrq.cellAt (i := 4) rfl⟩
                have HFin := hid (H14.out.bel.trans hbq)
                refine bodyPost_ret (v := .tuple #[.agg #[.int .i64 0, .slice none 0 0, .slice none 0 0, .slice none 0 0, .int .i64 0], .int .i64 9]) (by simp [results, Try.results40, go_sem, r0, r1, r2, r3, r4]) rfl ?_
                refine ⟨⟨none, 0, none, 0, none, 0⟩, by rw [HG2.out]; rfl, ?_, HFin.out⟩
                rw [HG2.out]
                exact ⟨RdS.nil, RdS.nil, RdS.nil⟩
              rw [hr] at he
              have HG2 := hid (show getB bs = (⟨v1, ps, ws, cs, v2⟩, 0) by rw [HGE.out, if_pos hr])
              subst he
              clear hr HGE
              simp only at c0 c1 c2 c3 c4
              go_wp2_with fail
              obtain ⟨wq, hwq, hbq, hkq, hrq⟩ := store5T HRb.out rfl (iV v1) (.slice a.A1 ps.length a.c1) (.slice a.A2 ws.length a.c2) (.slice a.A3 cs.length a.c3) (iV v2)
              rw [hwq]
              clear hwq z0 z1 z2 z3 z4 zf c0 c1 c2 c3 c4
              obtain ⟨r0, r1, r2, r3, r4⟩ : _ ∧ _ ∧ _ ∧ _ ∧ _ := ⟨hrq.cellAt (i := 0) rfl, hrq.cellAt (i := 1) rfl, hrq.cellAt (i := 2) rfl, hrq.cellAt (i := 3) rfl, hrq.cellAt (i := 4) rfl⟩
              have HFin := hid (H14.out.bel.trans hbq)
              have HTI : Hid (TabIn wq ⟨v1, ps, ws, cs, v2⟩ a) := hid (by
                have h9 := H14.out
                have hlt := h9.lt1
                have hlt2 := h9.lt2
                exact ⟨(Reads.of_own (own_keepG h9.o1 fun b hb => hkq b (by have := (own_rng h9.o1 hb).1; omega))).rds (fun _ => rfl), (Reads.of_own (own_keepG h9.o2 fun b hb => hkq b (by have := (own_rng h9.o2 hb).1; omega))).rds (fun _ => rfl), (Reads.of_own (own_keepG h9.o3 fun b hb => hkq b (by have := (own_rng h9.o3 hb).1; omega))).rds (fun _ => rfl)⟩)
              refine bodyPost_ret (v := .tuple #[.agg #[.int .i64 (v1 : Int), .slice a.A1 ps.length a.c1, .slice a.A2 ws.length a.c2, .slice a.A3 cs.length a.c3, .int .i64 (v2 : Int)], .int .i64 0]) (by simp [results, Try.results40, go_sem, r0, r1, r2, r3, r4]) rfl ?_
              exact ⟨a, by rw [HG2.out], by rw [HG2.out]; exact HTI.out, HFin.out⟩
end Go.Proofs.Ytbnodcenlggcnaa
