/-
  table.Get: any bytes, read.
-/
import Derived.Test.YtbnodcenlggcnaaTabGA
import Derived.Test.YtbnodcenlggcnaaTabR
import Derived.Deep.RegionLaw
namespace Go.Proofs.Ytbnodcenlggcnaa
open Go.RowKit

theorem info_part : (Try.prog.info? 77).map (fun i => (i.zero, i.size, i.bytes)) = some (some (.agg #[.int .i64 0, .int .i64 0, .int .i64 0]), 3, 24) := by kernel_rfl
theorem cell_allocG {w : World} {p : Addr} {u : Value} (h : w.cell? p = some u) (o : Obj) : (w.alloc o).cell? p = some u := (World.cell?_of_block (Below.heap_alloc _ _ _ (World.block_lt_of_cell? w p h))).trans h
theorem bel_drewG {B : Nat} {w w' : World} (h : Below B w w') : Below B w w'.drew := ⟨h.os, h.tape, h.output, h.size, h.block⟩
theorem step_app4 {P : Program} (w : World) {ops : Array Oper} {o : Oper} {a : Act} {K : Act → World → Prop} {Q : Exit → Act → World → Prop} {E : Prop} (hgd : o.guard = none) (s x : Operand) (t : TypeId)
    (ho : o.op = .call { callee := .builtin .append, args := #[s, x], argTypes := #[t, t] })
    (base : Nat) (e : TypeId) (i : TypeInfo) (z : Value) (size bytes : Nat) (ht : P.underlying t = some (.slice e)) (hi : P.info? e = some i) (hz : i.zero = some z)
    (hsize : i.size = size) (hby : i.bytes = bytes) (hzs : z.cells.size = size) (hsz : 0 < size)
    (v : Value) (n : Nat) (xs : List Value) (hs : a.eval s = v) (hown : w.ownsRow base e size v n xs)
    (B : Nat) (A : Option Addr) (m c : Nat) (news : List Value) (hx : a.eval x = .slice A m c) (hr : Reads w B size A m news) (h1 : ∀ u ∈ news, u.oneCell' = true)
    (h63 : n + m ≤ maxLen) (hbytes : (n + m) * bytes ≤ 140737488355328) (hbase : base ≤ w.heap.size) (N : Nat) (hN : n + m = N)
    (h : ∀ A' c' w', w'.ownsRow base e size (.slice A' N c') N (xs ++ news) → w.grownBy w' v.ownBlock → ((Value.slice A' N c').ownBlock = v.ownBlock ∨ (Value.slice A' N c').ownBlock = some w.heap.size) → K (a.put o.dst (.slice A' N c')) w') :
    if Region.wanted o (yielded ops a.tmps) = true then Oper.wp P o a w K Q else E := by
  have hw : Region.wanted o (yielded ops a.tmps) = true := by simp [Region.wanted, hgd]
  rw [if_pos hw]
  subst hN
  exact wp_append_src w s x t ho base e i z size bytes ht hi hz hsize hby hzs hsz v n xs hs hown B A m c news hx hr h1 h63 hbytes hbase fun A' c' w' h2 h3 h4 => h A' c' w' h2 h3 h4
/-- The next number. -/
theorem num_s {w0 w : World} {g T : Nat} {t : TabS} {a : TabA} {s s' : RS} {v : Nat} (ww : Int) (hr : rNum s ww = (v, s')) (hs : s.b.length ≤ 100000000) (h : GetAt Rdr w0 g T t a s w) :
    Calls Try.prog 57 #[.pointer (some ⟨g, 0, none⟩), .int .i64 ww] w fun e w' => e = .returned (.int .i64 (v : Int)) ∧ GetAt Rdr w0 g T t a s' w' :=
  (num_any g s ww w h.hg hs).mono fun e w' ⟨h1, h2, h3⟩ => by
    rw [hr] at h1 h2
    exact ⟨h1, h.num h3 h2⟩
theorem rNum_shrink {s s' : RS} {ww : Int} {v : Nat} (h : rNum s ww = (v, s')) {L : Nat} (hs : s.b.length ≤ L) : s'.b.length ≤ L := by
  have := rNum_len s ww
  rw [h] at this
  exact Nat.le_trans this hs
theorem store5T {w : World} {b : Nat} {T : TypeId} {cs : List Value} (h : Blk w b T cs) (hl : cs.length = 5) (v0 v1 v2 v3 v4 : Value) :
    ∃ w' : World, ((((w.setCell ⟨b, 0, none⟩ v0).setCell ⟨b, 1, none⟩ v1).setCell ⟨b, 2, none⟩ v2).setCell ⟨b, 3, none⟩ v3).setCell ⟨b, 4, none⟩ v4 = w' ∧ Below b w w' ∧ (∀ k, k ≠ b → w'.heap[k]? = w.heap[k]?) ∧ Blk w' b T [v0, v1, v2, v3, v4] := by
  refine ⟨_, rfl, (((((Below.refl _ _).setCell (p := ⟨b, 0, none⟩) (Nat.le_refl _) _).setCell (p := ⟨b, 1, none⟩) (Nat.le_refl _) _).setCell (p := ⟨b, 2, none⟩) (Nat.le_refl _) _).setCell (p := ⟨b, 3, none⟩) (Nat.le_refl _) _).setCell (p := ⟨b, 4, none⟩) (Nat.le_refl _) _, fun k hk => (Below.heap_setCell _ _ _ _ hk).trans ((Below.heap_setCell _ _ _ _ hk).trans ((Below.heap_setCell _ _ _ _ hk).trans ((Below.heap_setCell _ _ _ _ hk).trans (Below.heap_setCell _ _ _ _ hk)))), ?_⟩
  have := (((((h.set_ 0 v0).set_ 1 v1).set_ 2 v2).set_ 3 v3).set_ 4 v4)
  match cs, hl with
  | [_, _, _, _, _], _ => exact this
def GetPost (bs : List UInt8) (w : World) (e : Ending) (w' : World) : Prop :=
  ∃ a : TabA, e = .returned (.tuple #[.agg #[.int .i64 (getB bs).1.frame, .slice a.A1 (getB bs).1.parts.length a.c1, .slice a.A2 (getB bs).1.wins.length a.c2, .slice a.A3 (getB bs).1.chans.length a.c3, .int .i64 (getB bs).1.trial], .int .i64 (getB bs).2]) ∧ TabIn w' (getB bs).1 a ∧ Below w.heap.size w w'
theorem GetAt.tabIn {Rd : World → Nat → RS → Prop} {w0 w : World} {g T : Nat} {t : TabS} {a : TabA} {s : RS} (h : GetAt Rd w0 g T t a s w) : TabIn w t a :=
  ⟨(Reads.of_own h.o1).rds (fun _ => rfl), (Reads.of_own h.o2).rds (fun _ => rfl), (Reads.of_own h.o3).rds (fun _ => rfl)⟩

set_option maxRecDepth 100000 in
set_option maxHeartbeats 4000000 in
theorem Get_any (A : Option Addr) (n c : Nat) (bs : List UInt8) (w : World) (h : Reads w w.heap.size 1 A n (bs.map bV)) (hn : n ≤ 1000000) :
    Calls Try.prog 36 #[.slice A n c] w (GetPost bs w) := by
  have hbl : bs.length = n := by simpa using h.len
  obtain ⟨w1, hw1, hb1, hR1⟩ : ∃ w1 : World, w.alloc (.cells #[.int .i64 0, .slice none 0 0, .slice none 0 0, .slice none 0 0, .int .i64 0] 26) = w1 ∧ Below w.heap.size w w1 ∧ Blk w1 w.heap.size 26 (tabC tabZ ⟨none, 0, none, 0, none, 0⟩) := ⟨_, rfl, (Below.refl _ _).alloc (Nat.le_refl _) _, Blk.new w _ (tabC tabZ ⟨none, 0, none, 0, none, 0⟩)⟩
  have HR := hid (h.belowS hb1)
  have hlt1 := hR1.lt
  clear h
  -- what is read
  obtain ⟨⟨v1, s1⟩, e1⟩ : ∃ r, rNum ⟨bs, 0⟩ 1 = r := ⟨_, rfl⟩
  obtain ⟨⟨v2, s2⟩, e2⟩ : ∃ r, rNum s1 1 = r := ⟨_, rfl⟩
  obtain ⟨⟨P, s3⟩, e3⟩ : ∃ r, rNum s2 1 = r := ⟨_, rfl⟩
  obtain ⟨⟨Q, s4⟩, e4⟩ : ∃ r, rNum s3 1 = r := ⟨_, rfl⟩
  obtain ⟨⟨C, s5⟩, e5⟩ : ∃ r, rNum s4 1 = r := ⟨_, rfl⟩
  obtain ⟨⟨ps, s6⟩, e6⟩ : ∃ r, rdMany rdPart P s5 = r := ⟨_, rfl⟩
  obtain ⟨⟨ws, s7⟩, e7⟩ : ∃ r, rdMany rdWin Q s6 = r := ⟨_, rfl⟩
  obtain ⟨⟨cs, s8⟩, e8⟩ : ∃ r, rdMany rdChan C s7 = r := ⟨_, rfl⟩
  have l0 : (⟨bs, 0⟩ : RS).b.length ≤ 1000000 := by simp only; omega
  have l1 := rNum_shrink e1 l0
  have l2 := rNum_shrink e2 l1
  have l3 := rNum_shrink e3 l2
  have l4 := rNum_shrink e4 l3
  have l5 := rNum_shrink e5 l4
  have l6 : s6.b.length ≤ 1000000 := by have := rdMany_rest rdPart (rd3_rest _ _) s5 P; rw [e6] at this; exact Nat.le_trans this l5
  have l7 : s7.b.length ≤ 1000000 := by have := rdMany_rest rdWin (rd3_rest _ _) s6 Q; rw [e7] at this; exact Nat.le_trans this l6
  have l8 : s8.b.length ≤ 1000000 := by have := rdMany_rest rdChan (rd3_rest _ _) s7 C; rw [e8] at this; exact Nat.le_trans this l7
  have b1 : P < 256 := by have := rNum_bd1 s2; rw [e3] at this; exact this
  have b2 : Q < 256 := by have := rNum_bd1 s3; rw [e4] at this; exact this
  have b3 : C < 256 := by have := rNum_bd1 s4; rw [e5] at this; exact this
  have bf : v1 < 256 := by have := rNum_bd1 ⟨bs, 0⟩; rw [e1] at this; exact this
  have hG : getT bs = (⟨v1, ps, ws, cs, v2⟩, s8) := by
    unfold getT rdHead
    simp only [e1, e2, e3, e4, e5, e6, e7, e8]
  have HGB : Hid (getB bs = if rEnd s8 ≠ 0 then (tabZ, rEnd s8) else if rightB ⟨v1, ps, ws, cs, v2⟩ = true then (⟨v1, ps, ws, cs, v2⟩, 0) else (tabZ, 9)) := hid (by unfold getB; rw [hG])
  have m1 := hid (fun g T t a W (hA : GetAt Rdr w g T t a ⟨bs, 0⟩ W) => num_s 1 e1 (by omega) hA)
  have m2 := hid (fun g T t a W (hA : GetAt Rdr w g T t a s1 W) => num_s 1 e2 (by omega) hA)
  have m3 := hid (fun g T t a W (hA : GetAt Rdr w g T t a s2 W) => num_s 1 e3 (by omega) hA)
  have m4 := hid (fun g T t a W (hA : GetAt Rdr w g T t a s3 W) => num_s 1 e4 (by omega) hA)
  have m5 := hid (fun g T t a W (hA : GetAt Rdr w g T t a s4 W) => num_s 1 e5 (by omega) hA)
  have E6 := hid e6
  have E7 := hid e7
  have E8 := hid e8
  have L5 := hid l5
  have L6 := hid l6
  have L7 := hid l7
  have L8 := hid l8
  clear e1 e2 e3 e4 e5 e6 e7 e8 l0 l1 l2 l3 l4 l5 l6 l7 l8 hG
  go_enter Try.func36, Try.ntmps36
  go_wp2_with fail

  clear hw1
  refine (read_any A n c bs w1 HR.out (by omega)).mono ?_
  rintro e w2 ⟨g, rfl, hg, hrd, hb2⟩
  go_wp2_with fail
  obtain ⟨w3, hw3, H3⟩ : ∃ W : World, w2.alloc (.cells #[.int .i64 0, .slice none 0 0, .slice none 0 0, .slice none 0 0, .int .i64 0] 26) = W ∧ Hid (GetAt Rdr w g w2.heap.size tabZ ⟨none, 0, none, 0, none, 0⟩ ⟨bs, 0⟩ W) := ⟨_, rfl, hid (by
    have hal := (Below.refl w2.heap.size w2).alloc (Nat.le_refl _) (.cells #[.int .i64 0, .slice none 0 0, .slice none 0 0, .slice none 0 0, .int .i64 0] 26)
    have hf : ∀ b, ¬ FootG none b := fun b hb => by obtain ⟨a, h, _⟩ := hb; cases h
    exact ⟨bel_trans (bel_trans hb1 hb2) hal, (hR1.belowS hb2).belowS hal, hrd.below hal, fun _ _ _ h1 h2 => h1.low h2, Blk.new w2 _ (tabC tabZ ⟨none, 0, none, 0, none, 0⟩), by omega, hrd.lt, World.ownsRow_nil _ _ _ _, World.ownsRow_nil _ _ _ _, World.ownsRow_nil _ _ _ _, fun b hb => absurd hb (hf b), fun b hb => absurd hb (hf b), fun b hb => absurd hb (hf b)⟩)⟩
  rw [hw3]
  obtain ⟨T, hT⟩ : ∃ T, w2.heap.size = T := ⟨_, rfl⟩
  rw [hT] at H3 ⊢
  clear hw3 hT hg hrd hb2 hb1 hR1 hlt1 HR
  refine (m1.out _ _ _ _ _ H3.out).mono ?_
  rintro e w4 ⟨rfl, h4⟩
  have H4 := hid h4
  clear h4 H3 m1
  go_wp2_with fail
  refine (m2.out _ _ _ _ _ H4.out).mono ?_
  rintro e w5 ⟨rfl, h5⟩
  obtain ⟨c0, c1, c2, c3, c4⟩ := tab_cells h5.hT
  have f0 := h5.hT.frozen 0
  have f4 := h5.hT.frozen 4
  have H5 := hid ((h5.frame v1).trial v2)
  clear h5 H4 m2
  go_wp2_with fail
  obtain ⟨w6, hw6⟩ : ∃ W : World, (w5.setCell ⟨T, 0, none⟩ (iV v1)).setCell ⟨T, 4, none⟩ (iV v2) = W := ⟨_, rfl⟩
  rw [hw6] at H5 ⊢
  have H6 : Hid (GetAt Rdr w g T ⟨v1, [], [], [], v2⟩ ⟨none, 0, none, 0, none, 0⟩ s2 w6) := H5
  clear hw6 H5 c0 c1 c2 c3 c4 f0 f4
  refine (m3.out _ _ _ _ _ H6.out).mono ?_
  rintro e w7 ⟨rfl, h7⟩
  have H7 := hid h7
  clear h7 H6 m3
  go_wp2_with fail
  refine (m4.out _ _ _ _ _ H7.out).mono ?_
  rintro e w8 ⟨rfl, h8⟩
  have H8 := hid h8
  clear h8 H7 m4
  go_wp2_with fail
  refine (m5.out _ _ _ _ _ H8.out).mono ?_
  rintro e w9 ⟨rfl, h9⟩
  have H9 := hid h9
  clear h9 H8 m5
  have HB1 := hid b1
  have HB2 := hid b2
  have HB3 := hid b3
  have HBF := hid bf
  clear b1 b2 b3 bf hbl hn
  go_wp2_with fail
  go_loopw [25] (fun vC wr => ∃ (k : Nat) (a : TabA), k ≤ P ∧ vC = .int .i64 (k : Int) ∧ GetAt Rdr w g T ⟨(v1 : Int), (rdMany rdPart k s5).1, [], [], (v2 : Int)⟩ a (rdMany rdPart k s5).2 wr) (fun vC _ => P - (intOf vC).toNat)
  case atStart => exact ⟨0, ⟨none, 0, none, 0, none, 0⟩, by omega, rfl, H9.out⟩
  case round =>
    obtain ⟨k, a1, hk, rfl, hA⟩ := hrel
    have hfull : k = P → GetAt Rdr w g T ⟨(v1 : Int), (rdMany rdPart P s5).1, [], [], (v2 : Int)⟩ a1 (rdMany rdPart P s5).2 wr := fun e => by subst e; exact hA
    have HFUL := hid hfull
    clear hfull
    have HCi := hid (rdMany_len rdPart s5 k)
    have HLk := hid (show (rdMany rdPart k s5).2.b.length ≤ 1000000 from Nat.le_trans (rdMany_rest rdPart (rd3_rest _ _) s5 k) L5.out)
    have HNX := hid (show rdMany rdPart (k + 1) s5 = ((rdMany rdPart k s5).1 ++ [(rdPart (rdMany rdPart k s5).2).1], (rdPart (rdMany rdPart k s5).2).2) from rfl)
    obtain ⟨⟨ps9, t0⟩, ek⟩ : ∃ r, rdMany rdPart k s5 = r := ⟨_, rfl⟩
    rw [ek] at hA HCi HLk HNX
    simp only at hA HCi HLk HNX
    clear ek
    have kN : k ≤ P := hk
    by_cases hkn : k < P
    · have y0 : decide ((k : Int) < (P : Int)) = true := decide_eq_true (by omega)
      have y0' : decide (k < P) = true := decide_eq_true hkn
      obtain ⟨⟨x1, t1⟩, e1⟩ : ∃ r, rNum t0 1 = r := ⟨_, rfl⟩
      obtain ⟨⟨x2, t2⟩, e2⟩ : ∃ r, rNum t1 1 = r := ⟨_, rfl⟩
      obtain ⟨⟨x3, t3⟩, e3⟩ : ∃ r, rNum t2 2 = r := ⟨_, rfl⟩
      have hrd : rdPart t0 = (⟨x1, x2, x3⟩, t3) := by
        show rd3 _ _ _ = _
        unfold rd3
        simp only [e1, e2, e3, Int.cast_ofNat_Int]
      rw [hrd] at HNX
      simp only at HNX
      have i1 := hid (fun W (hA : GetAt Rdr w g T ⟨(v1 : Int), ps9, [], [], (v2 : Int)⟩ a1 t0 W) => num_s 1 e1 (by have := HLk.out; omega) hA)
      have i2 := hid (fun W (hA : GetAt Rdr w g T ⟨(v1 : Int), ps9, [], [], (v2 : Int)⟩ a1 t1 W) => num_s 1 e2 (by have := rNum_shrink e1 HLk.out; omega) hA)
      have i3 := hid (fun W (hA : GetAt Rdr w g T ⟨(v1 : Int), ps9, [], [], (v2 : Int)⟩ a1 t2 W) => num_s 2 e3 (by have := rNum_shrink e2 (rNum_shrink e1 HLk.out); omega) hA)
      have q0 : wr.cell? ⟨T, 1, none⟩ = some (.slice a1.A1 ps9.length a1.c1) := hA.hT.cellAt rfl
      have HA0 := hid hA
      have hpl : Hid (ps9.length ≤ 256) := hid (by have := HCi.out; have := HB1.out; omega)
      obtain ⟨i0, hi0, hz0, hz1, hz2⟩ := info_parts info_part
      clear hA e1 e2 e3 hrd
      go_wp2_with fail
      go_region_law (first
        | (refine step_app4 _ (by rfl) _ _ _ (by rfl) (T + 1) 77 i0 _ 3 24 Try.underlying22 hi0 hz0 hz1 hz2 rfl (by decide) (.slice a1.A1 ps9.length a1.c1) ps9.length (ps9.flatMap partC) (by rfl) (by first | exact (HA3.out.belowS ((Below.refl _ _).alloc (Nat.le_refl _) _)).o1 | exact (HA3.out.belowS ((Below.refl _ _).alloc (Nat.le_refl _) _)).drew.o1) (w3.heap.size + 1) (some ⟨w3.heap.size, 0, none⟩) 1 1 [iV x1, iV x2, iV x3] (by rfl) (by first | exact HN3.out | exact HN3.out.drew) (by simp [Value.oneCell', iV]) (by have := hpl.out; simp [maxLen]; omega) (by have := hpl.out; omega) (by first | exact Nat.le_trans HA3.out.size (by simp) | exact Nat.le_trans HA3.out.size (by simp [World.drew])) (ps9.length + 1) rfl ?_; intro A' c' w5 hown5 hg5 hA5; have hg5' : (w3.alloc (.cells #[.int .i64 (x1 : Int), .int .i64 (x2 : Int), .int .i64 (x3 : Int)] 77)).grownBy w5 (Value.slice a1.A1 ps9.length a1.c1).ownBlock := (by first | exact hg5 | exact ⟨hg5.os, hg5.tape, hg5.output, hg5.size, hg5.block⟩); have HF := hid ((HA3.out.belowS ((Below.refl _ _).alloc (Nat.le_refl _) (.cells #[.int .i64 (x1 : Int), .int .i64 (x2 : Int), .int .i64 (x3 : Int)] 77))).part ⟨x1, x2, x3⟩ (w3.heap.size + 1) (by simp) hown5 hg5' (by first | exact hA5 | simpa using hA5 | simpa [World.drew] using hA5)); have hb5 : Below (T + 1) (w3.alloc (.cells #[.int .i64 (x1 : Int), .int .i64 (x2 : Int), .int .i64 (x3 : Int)] 77)) w5 := ⟨hg5'.os, hg5'.tape, hg5'.output, hg5'.size, fun b hb => hg5'.block b (by have := HA3.out.size; simp; omega) (fun e => by have := (own_rng HA3.out.o1 (ownBlock_footG.1 e.symm)).1; omega)⟩; have hT5 := ((HA3.out.belowS ((Below.refl _ _).alloc (Nat.le_refl _) (.cells #[.int .i64 (x1 : Int), .int .i64 (x2 : Int), .int .i64 (x3 : Int)] 77))).hT.below hb5 (by omega)); have y4 : w5.cell? ⟨T, 1, none⟩ = some (.slice a1.A1 ps9.length a1.c1) := hT5.cellAt rfl; have yf := hT5.frozen 1; clear hown5 hg5 hA5 hg5' hb5 hT5)
        | (go_simp; go_at_call 57; refine (i1.out _ ?_).mono ?_; (first | exact HA0.out | exact HA0.out.drew); rintro e w1 ⟨rfl, h1⟩; have HA1 := hid h1; have q1 : w1.cell? ⟨T, 1, none⟩ = some (.slice a1.A1 ps9.length a1.c1) := h1.hT.cellAt rfl; clear h1 i1; try dsimp only)
        | (go_simp; go_at_call 57; refine (i2.out _ ?_).mono ?_; (first | exact HA1.out | exact HA1.out.drew); rintro e w2 ⟨rfl, h2⟩; have HA2 := hid h2; have q2 : w2.cell? ⟨T, 1, none⟩ = some (.slice a1.A1 ps9.length a1.c1) := h2.hT.cellAt rfl; clear h2 i2; try dsimp only)
        | (go_simp; go_at_call 57; refine (i3.out _ ?_).mono ?_; (first | exact HA2.out | exact HA2.out.drew); rintro e w3 ⟨rfl, h3⟩; have HA3 := hid h3; have q3 : w3.cell? ⟨T, 1, none⟩ = some (.slice a1.A1 ps9.length a1.c1) := h3.hT.cellAt rfl; have q3a := (fun o => cell_allocG q3 o); have HN3 : Hid (Reads (w3.alloc (.cells #[.int .i64 (x1 : Int), .int .i64 (x2 : Int), .int .i64 (x3 : Int)] 77)) (w3.heap.size + 1) 3 (some ⟨w3.heap.size, 0, none⟩) 1 [iV x1, iV x2, iV x3]) := hid ((Reads.lit (n := 1) (size := 3) (heap_alloc_new w3 (.cells #[.int .i64 (x1 : Int), .int .i64 (x2 : Int), .int .i64 (x3 : Int)] 77)) rfl).more (by simp)); clear h3 i3; try dsimp only))
      all_goals
        clear q0 q1 q2 q3 q3a y4 yf HN3
        have hbnd := HB1.out
        go_wp2_with fail
        go_roundw
        case rel => exact ⟨k + 1, { a1 with A1 := A', c1 := c' }, by omega, by go_num, by rw [HNX.out]; exact HF.out⟩
        case measure => simp [intOf]; omega
    · have hkN : P = k := by omega
      subst hkN
      clear hkn hk
      have hfull := HFUL.out rfl
      have hA1 : GetAt Rdr w g T ⟨(v1 : Int), ps, [], [], (v2 : Int)⟩ a1 s6 wr := by
        have h9 := hfull
        rw [E6.out] at h9
        exact h9
      have H10 := hid hA1
      clear hA1 hfull hA HCi HLk HNX
      obtain ⟨wx1, hwx⟩ : ∃ W : World, wr = W := ⟨_, rfl⟩
      subst hwx
      go_wp2_with fail
      go_loopw [41] (fun vC wr => ∃ (k : Nat) (a : TabA), k ≤ Q ∧ vC = .int .i64 (k : Int) ∧ GetAt Rdr w g T ⟨(v1 : Int), ps, (rdMany rdWin k s6).1, [], (v2 : Int)⟩ a (rdMany rdWin k s6).2 wr) (fun vC _ => Q - (intOf vC).toNat)
      case atStart => exact ⟨0, a1, by omega, rfl, H10.out⟩
      case round =>
        obtain ⟨k, a2, hk, rfl, hA⟩ := hrel
        have hfull : k = Q → GetAt Rdr w g T ⟨(v1 : Int), ps, (rdMany rdWin Q s6).1, [], (v2 : Int)⟩ a2 (rdMany rdWin Q s6).2 wr := fun e => by subst e; exact hA
        have HFUL := hid hfull
        clear hfull
        have HCi := hid (rdMany_len rdWin s6 k)
        have HLk := hid (show (rdMany rdWin k s6).2.b.length ≤ 1000000 from Nat.le_trans (rdMany_rest rdWin (rd3_rest _ _) s6 k) L6.out)
        have HNX := hid (show rdMany rdWin (k + 1) s6 = ((rdMany rdWin k s6).1 ++ [(rdWin (rdMany rdWin k s6).2).1], (rdWin (rdMany rdWin k s6).2).2) from rfl)
        obtain ⟨⟨ps9, t0⟩, ek⟩ : ∃ r, rdMany rdWin k s6 = r := ⟨_, rfl⟩
        rw [ek] at hA HCi HLk HNX
        simp only at hA HCi HLk HNX
        clear ek
        have kN : k ≤ Q := hk
        by_cases hkn : k < Q
        · have y0 : decide ((k : Int) < (Q : Int)) = true := decide_eq_true (by omega)
          have y0' : decide (k < Q) = true := decide_eq_true hkn
          obtain ⟨⟨x1, t1⟩, e1⟩ : ∃ r, rNum t0 1 = r := ⟨_, rfl⟩
          obtain ⟨⟨x2, t2⟩, e2⟩ : ∃ r, rNum t1 1 = r := ⟨_, rfl⟩
          obtain ⟨⟨x3, t3⟩, e3⟩ : ∃ r, rNum t2 1 = r := ⟨_, rfl⟩
          have hrd : rdWin t0 = (⟨x1, x2, x3⟩, t3) := by
            show rd3 _ _ _ = _
            unfold rd3
            simp only [e1, e2, e3, Int.cast_ofNat_Int]
          rw [hrd] at HNX
          simp only at HNX
          have i1 := hid (fun W (hA : GetAt Rdr w g T ⟨(v1 : Int), ps, ps9, [], (v2 : Int)⟩ a2 t0 W) => num_s 1 e1 (by have := HLk.out; omega) hA)
          have i2 := hid (fun W (hA : GetAt Rdr w g T ⟨(v1 : Int), ps, ps9, [], (v2 : Int)⟩ a2 t1 W) => num_s 1 e2 (by have := rNum_shrink e1 HLk.out; omega) hA)
          have i3 := hid (fun W (hA : GetAt Rdr w g T ⟨(v1 : Int), ps, ps9, [], (v2 : Int)⟩ a2 t2 W) => num_s 1 e3 (by have := rNum_shrink e2 (rNum_shrink e1 HLk.out); omega) hA)
          have q0 : wr.cell? ⟨T, 2, none⟩ = some (.slice a2.A2 ps9.length a2.c2) := hA.hT.cellAt rfl
          have HA0 := hid hA
          have hpl : Hid (ps9.length ≤ 256) := hid (by have := HCi.out; have := HB2.out; omega)
          obtain ⟨i0, hi0, hz0, hz1, hz2⟩ := info_parts info_win
          clear hA e1 e2 e3 hrd
          go_wp2_with fail
          go_region_law (first
            | (refine step_app4 _ (by rfl) _ _ _ (by rfl) (T + 1) 30 i0 _ 3 24 Try.underlying23 hi0 hz0 hz1 hz2 rfl (by decide) (.slice a2.A2 ps9.length a2.c2) ps9.length (ps9.flatMap winC) (by rfl) (by first | exact (HA3.out.belowS ((Below.refl _ _).alloc (Nat.le_refl _) _)).o2 | exact (HA3.out.belowS ((Below.refl _ _).alloc (Nat.le_refl _) _)).drew.o2) (w3.heap.size + 1) (some ⟨w3.heap.size, 0, none⟩) 1 1 [iV x1, iV x2, iV x3] (by rfl) (by first | exact HN3.out | exact HN3.out.drew) (by simp [Value.oneCell', iV]) (by have := hpl.out; simp [maxLen]; omega) (by have := hpl.out; omega) (by first | exact Nat.le_trans HA3.out.size (by simp) | exact Nat.le_trans HA3.out.size (by simp [World.drew])) (ps9.length + 1) rfl ?_; intro A' c' w5 hown5 hg5 hA5; have hg5' : (w3.alloc (.cells #[.int .i64 (x1 : Int), .int .i64 (x2 : Int), .int .i64 (x3 : Int)] 30)).grownBy w5 (Value.slice a2.A2 ps9.length a2.c2).ownBlock := (by first | exact hg5 | exact ⟨hg5.os, hg5.tape, hg5.output, hg5.size, hg5.block⟩); have HF := hid ((HA3.out.belowS ((Below.refl _ _).alloc (Nat.le_refl _) (.cells #[.int .i64 (x1 : Int), .int .i64 (x2 : Int), .int .i64 (x3 : Int)] 30))).win ⟨x1, x2, x3⟩ (w3.heap.size + 1) (by simp) hown5 hg5' (by first | exact hA5 | simpa using hA5 | simpa [World.drew] using hA5)); have hb5 : Below (T + 1) (w3.alloc (.cells #[.int .i64 (x1 : Int), .int .i64 (x2 : Int), .int .i64 (x3 : Int)] 30)) w5 := ⟨hg5'.os, hg5'.tape, hg5'.output, hg5'.size, fun b hb => hg5'.block b (by have := HA3.out.size; simp; omega) (fun e => by have := (own_rng HA3.out.o2 (ownBlock_footG.1 e.symm)).1; omega)⟩; have hT5 := ((HA3.out.belowS ((Below.refl _ _).alloc (Nat.le_refl _) (.cells #[.int .i64 (x1 : Int), .int .i64 (x2 : Int), .int .i64 (x3 : Int)] 30))).hT.below hb5 (by omega)); have y4 : w5.cell? ⟨T, 2, none⟩ = some (.slice a2.A2 ps9.length a2.c2) := hT5.cellAt rfl; have yf := hT5.frozen 2; clear hown5 hg5 hA5 hg5' hb5 hT5)
            | (go_simp; go_at_call 57; refine (i1.out _ ?_).mono ?_; (first | exact HA0.out | exact HA0.out.drew); rintro e w1 ⟨rfl, h1⟩; have HA1 := hid h1; have q1 : w1.cell? ⟨T, 2, none⟩ = some (.slice a2.A2 ps9.length a2.c2) := h1.hT.cellAt rfl; clear h1 i1; try dsimp only)
            | (go_simp; go_at_call 57; refine (i2.out _ ?_).mono ?_; (first | exact HA1.out | exact HA1.out.drew); rintro e w2 ⟨rfl, h2⟩; have HA2 := hid h2; have q2 : w2.cell? ⟨T, 2, none⟩ = some (.slice a2.A2 ps9.length a2.c2) := h2.hT.cellAt rfl; clear h2 i2; try dsimp only)
            | (go_simp; go_at_call 57; refine (i3.out _ ?_).mono ?_; (first | exact HA2.out | exact HA2.out.drew); rintro e w3 ⟨rfl, h3⟩; have HA3 := hid h3; have q3 : w3.cell? ⟨T, 2, none⟩ = some (.slice a2.A2 ps9.length a2.c2) := h3.hT.cellAt rfl; have q3a := (fun o => cell_allocG q3 o); have HN3 : Hid (Reads (w3.alloc (.cells #[.int .i64 (x1 : Int), .int .i64 (x2 : Int), .int .i64 (x3 : Int)] 30)) (w3.heap.size + 1) 3 (some ⟨w3.heap.size, 0, none⟩) 1 [iV x1, iV x2, iV x3]) := hid ((Reads.lit (n := 1) (size := 3) (heap_alloc_new w3 (.cells #[.int .i64 (x1 : Int), .int .i64 (x2 : Int), .int .i64 (x3 : Int)] 30)) rfl).more (by simp)); clear h3 i3; try dsimp only))
          all_goals
            clear q0 q1 q2 q3 q3a y4 yf HN3
            have hbnd := HB2.out
            go_wp2_with fail
            go_roundw
            case rel => exact ⟨k + 1, { a2 with A2 := A', c2 := c' }, by omega, by go_num, by rw [HNX.out]; exact HF.out⟩
            case measure => simp [intOf]; omega
        · have hkN : Q = k := by omega
          subst hkN
          clear hkn hk
          have hfull := HFUL.out rfl
          have hA2 : GetAt Rdr w g T ⟨(v1 : Int), ps, ws, [], (v2 : Int)⟩ a2 s7 wr := by
            have h9 := hfull
            rw [E7.out] at h9
            exact h9
          have H11 := hid hA2
          clear hA2 hfull hA HCi HLk HNX
          obtain ⟨wx1, hwx⟩ : ∃ W : World, wr = W := ⟨_, rfl⟩
          subst hwx
          go_wp2_with fail
          go_loopw [57] (fun vC wr => ∃ (k : Nat) (a : TabA), k ≤ C ∧ vC = .int .i64 (k : Int) ∧ GetAt Rdr w g T ⟨(v1 : Int), ps, ws, (rdMany rdChan k s7).1, (v2 : Int)⟩ a (rdMany rdChan k s7).2 wr) (fun vC _ => C - (intOf vC).toNat)
          case atStart => exact ⟨0, a2, by omega, rfl, H11.out⟩
          case round =>
            obtain ⟨k, a, hk, rfl, hA⟩ := hrel
            have hfull : k = C → GetAt Rdr w g T ⟨(v1 : Int), ps, ws, (rdMany rdChan C s7).1, (v2 : Int)⟩ a (rdMany rdChan C s7).2 wr := fun e => by subst e; exact hA
            have HFUL := hid hfull
            clear hfull
            have HCi := hid (rdMany_len rdChan s7 k)
            have HLk := hid (show (rdMany rdChan k s7).2.b.length ≤ 1000000 from Nat.le_trans (rdMany_rest rdChan (rd3_rest _ _) s7 k) L7.out)
            have HNX := hid (show rdMany rdChan (k + 1) s7 = ((rdMany rdChan k s7).1 ++ [(rdChan (rdMany rdChan k s7).2).1], (rdChan (rdMany rdChan k s7).2).2) from rfl)
            obtain ⟨⟨ps9, t0⟩, ek⟩ : ∃ r, rdMany rdChan k s7 = r := ⟨_, rfl⟩
            rw [ek] at hA HCi HLk HNX
            simp only at hA HCi HLk HNX
            clear ek
            have kN : k ≤ C := hk
            by_cases hkn : k < C
            · have y0 : decide ((k : Int) < (C : Int)) = true := decide_eq_true (by omega)
              have y0' : decide (k < C) = true := decide_eq_true hkn
              obtain ⟨⟨x1, t1⟩, e1⟩ : ∃ r, rNum t0 1 = r := ⟨_, rfl⟩
              obtain ⟨⟨x2, t2⟩, e2⟩ : ∃ r, rNum t1 1 = r := ⟨_, rfl⟩
              obtain ⟨⟨x3, t3⟩, e3⟩ : ∃ r, rNum t2 1 = r := ⟨_, rfl⟩
              have hrd : rdChan t0 = (⟨x1, x2, x3⟩, t3) := by
                show rd3 _ _ _ = _
                unfold rd3
                simp only [e1, e2, e3, Int.cast_ofNat_Int]
              rw [hrd] at HNX
              simp only at HNX
              have i1 := hid (fun W (hA : GetAt Rdr w g T ⟨(v1 : Int), ps, ws, ps9, (v2 : Int)⟩ a t0 W) => num_s 1 e1 (by have := HLk.out; omega) hA)
              have i2 := hid (fun W (hA : GetAt Rdr w g T ⟨(v1 : Int), ps, ws, ps9, (v2 : Int)⟩ a t1 W) => num_s 1 e2 (by have := rNum_shrink e1 HLk.out; omega) hA)
              have i3 := hid (fun W (hA : GetAt Rdr w g T ⟨(v1 : Int), ps, ws, ps9, (v2 : Int)⟩ a t2 W) => num_s 1 e3 (by have := rNum_shrink e2 (rNum_shrink e1 HLk.out); omega) hA)
              have q0 : wr.cell? ⟨T, 3, none⟩ = some (.slice a.A3 ps9.length a.c3) := hA.hT.cellAt rfl
              have HA0 := hid hA
              have hpl : Hid (ps9.length ≤ 256) := hid (by have := HCi.out; have := HB3.out; omega)
              obtain ⟨i0, hi0, hz0, hz1, hz2⟩ := info_parts info_chan
              clear hA e1 e2 e3 hrd
              go_wp2_with fail
              go_region_law (first
                | (refine step_app4 _ (by rfl) _ _ _ (by rfl) (T + 1) 34 i0 _ 3 24 Try.underlying24 hi0 hz0 hz1 hz2 rfl (by decide) (.slice a.A3 ps9.length a.c3) ps9.length (ps9.flatMap chanC) (by rfl) (by first | exact (HA3.out.belowS ((Below.refl _ _).alloc (Nat.le_refl _) _)).o3 | exact (HA3.out.belowS ((Below.refl _ _).alloc (Nat.le_refl _) _)).drew.o3) (w3.heap.size + 1) (some ⟨w3.heap.size, 0, none⟩) 1 1 [iV x1, iV x2, iV x3] (by rfl) (by first | exact HN3.out | exact HN3.out.drew) (by simp [Value.oneCell', iV]) (by have := hpl.out; simp [maxLen]; omega) (by have := hpl.out; omega) (by first | exact Nat.le_trans HA3.out.size (by simp) | exact Nat.le_trans HA3.out.size (by simp [World.drew])) (ps9.length + 1) rfl ?_; intro A' c' w5 hown5 hg5 hA5; have hg5' : (w3.alloc (.cells #[.int .i64 (x1 : Int), .int .i64 (x2 : Int), .int .i64 (x3 : Int)] 34)).grownBy w5 (Value.slice a.A3 ps9.length a.c3).ownBlock := (by first | exact hg5 | exact ⟨hg5.os, hg5.tape, hg5.output, hg5.size, hg5.block⟩); have HF := hid ((HA3.out.belowS ((Below.refl _ _).alloc (Nat.le_refl _) (.cells #[.int .i64 (x1 : Int), .int .i64 (x2 : Int), .int .i64 (x3 : Int)] 34))).chan ⟨x1, x2, x3⟩ (w3.heap.size + 1) (by simp) hown5 hg5' (by first | exact hA5 | simpa using hA5 | simpa [World.drew] using hA5)); have hb5 : Below (T + 1) (w3.alloc (.cells #[.int .i64 (x1 : Int), .int .i64 (x2 : Int), .int .i64 (x3 : Int)] 34)) w5 := ⟨hg5'.os, hg5'.tape, hg5'.output, hg5'.size, fun b hb => hg5'.block b (by have := HA3.out.size; simp; omega) (fun e => by have := (own_rng HA3.out.o3 (ownBlock_footG.1 e.symm)).1; omega)⟩; have hT5 := ((HA3.out.belowS ((Below.refl _ _).alloc (Nat.le_refl _) (.cells #[.int .i64 (x1 : Int), .int .i64 (x2 : Int), .int .i64 (x3 : Int)] 34))).hT.below hb5 (by omega)); have y4 : w5.cell? ⟨T, 3, none⟩ = some (.slice a.A3 ps9.length a.c3) := hT5.cellAt rfl; have yf := hT5.frozen 3; clear hown5 hg5 hA5 hg5' hb5 hT5)
                | (go_simp; go_at_call 57; refine (i1.out _ ?_).mono ?_; (first | exact HA0.out | exact HA0.out.drew); rintro e w1 ⟨rfl, h1⟩; have HA1 := hid h1; have q1 : w1.cell? ⟨T, 3, none⟩ = some (.slice a.A3 ps9.length a.c3) := h1.hT.cellAt rfl; clear h1 i1; try dsimp only)
                | (go_simp; go_at_call 57; refine (i2.out _ ?_).mono ?_; (first | exact HA1.out | exact HA1.out.drew); rintro e w2 ⟨rfl, h2⟩; have HA2 := hid h2; have q2 : w2.cell? ⟨T, 3, none⟩ = some (.slice a.A3 ps9.length a.c3) := h2.hT.cellAt rfl; clear h2 i2; try dsimp only)
                | (go_simp; go_at_call 57; refine (i3.out _ ?_).mono ?_; (first | exact HA2.out | exact HA2.out.drew); rintro e w3 ⟨rfl, h3⟩; have HA3 := hid h3; have q3 : w3.cell? ⟨T, 3, none⟩ = some (.slice a.A3 ps9.length a.c3) := h3.hT.cellAt rfl; have q3a := (fun o => cell_allocG q3 o); have HN3 : Hid (Reads (w3.alloc (.cells #[.int .i64 (x1 : Int), .int .i64 (x2 : Int), .int .i64 (x3 : Int)] 34)) (w3.heap.size + 1) 3 (some ⟨w3.heap.size, 0, none⟩) 1 [iV x1, iV x2, iV x3]) := hid ((Reads.lit (n := 1) (size := 3) (heap_alloc_new w3 (.cells #[.int .i64 (x1 : Int), .int .i64 (x2 : Int), .int .i64 (x3 : Int)] 34)) rfl).more (by simp)); clear h3 i3; try dsimp only))
              all_goals
                clear q0 q1 q2 q3 q3a y4 yf HN3
                have hbnd := HB3.out
                go_wp2_with fail
                go_roundw
                case rel => exact ⟨k + 1, { a with A3 := A', c3 := c' }, by omega, by go_num, by rw [HNX.out]; exact HF.out⟩
                case measure => simp [intOf]; omega
            · have hkN : C = k := by omega
              subst hkN
              clear hkn hk
              have hfull := HFUL.out rfl
              have hA3 : GetAt Rdr w g T ⟨(v1 : Int), ps, ws, cs, (v2 : Int)⟩ a s8 wr := by
                have h9 := hfull
                rw [E8.out] at h9
                exact h9
              clear hfull hA HCi HLk HNX
              have H12 := hid hA3
              have iE := hid (fun W (hA : GetAt Rdr w g T ⟨(v1 : Int), ps, ws, cs, (v2 : Int)⟩ a s8 W) => end_rd g s8 W hA.hg (by have := L8.out; omega))
              clear hA3
              have hlp : ps.length = P := by have := rdMany_len rdPart s5 P; rw [E6.out] at this; exact this
              have hlw : ws.length = Q := by have := rdMany_len rdWin s6 Q; rw [E7.out] at this; exact this
              have hlc : cs.length = C := by have := rdMany_len rdChan s7 C; rw [E8.out] at this; exact this
              have iR := hid (fun W (hA : GetAt Rdr w g T ⟨(v1 : Int), ps, ws, cs, (v2 : Int)⟩ a s8 W) => right_any ⟨(v1 : Int), ps, ws, cs, (v2 : Int)⟩ a W ⟨hA.tabIn, by simp only; have := HB1.out; omega, by simp only; have := HB2.out; omega, by simp only; have := HB3.out; omega, by simp only; omega, by simp only; have := HBF.out; omega⟩)
              clear hlp hlw hlc
              go_wp2_with fail
              refine (iE.out _ H12.out).mono ?_
              rintro e wE ⟨rfl, rfl⟩
              have H13 := hid H12.out
              obtain ⟨z0, z1, z2, z3, z4⟩ := tab_cells H13.out.hR
              obtain ⟨c0, c1, c2, c3, c4⟩ := tab_cells H13.out.hT
              have HRb := hid H13.out.hR
              have zf := HRb.out.frozen
              have hne : w.heap.size ≠ T := by have := H13.out.lt1; have := H13.out.lt2; omega
              have hne' : T ≠ w.heap.size := fun h => hne h.symm
              clear iE
              by_cases hE : rEnd s8 = 0
              case neg =>
                have y1 : (rEnd s8 != 0) = true := by simpa using hE
                have HGE := hid (show getB bs = (tabZ, rEnd s8) by rw [HGB.out, if_pos hE])
                generalize rEnd s8 = E at *
                clear hE c0 c1 c2 c3 c4
                go_wp2_with fail
                obtain ⟨wq, hwq, hbq, hkq, hrq⟩ := store5T HRb.out rfl (.int .i64 0) (.slice none 0 0) (.slice none 0 0) (.slice none 0 0) (.int .i64 0)
                rw [hwq]
                clear hwq z0 z1 z2 z3 z4 zf
                obtain ⟨r0, r1, r2, r3, r4⟩ : _ ∧ _ ∧ _ ∧ _ ∧ _ := ⟨hrq.cellAt (i := 0) rfl, hrq.cellAt (i := 1) rfl, hrq.cellAt (i := 2) rfl, hrq.cellAt (i := 3) rfl, hrq.cellAt (i := 4) rfl⟩
                have HFin := hid (H13.out.bel.trans hbq)
                refine bodyPost_ret (v := .tuple #[.agg #[.int .i64 0, .slice none 0 0, .slice none 0 0, .slice none 0 0, .int .i64 0], .int .i64 E]) (by simp [results, Try.results36, go_sem, r0, r1, r2, r3, r4]) rfl ?_
                refine ⟨⟨none, 0, none, 0, none, 0⟩, by rw [HGE.out]; rfl, ?_, HFin.out⟩
                rw [HGE.out]
                exact ⟨RdS.nil, RdS.nil, RdS.nil⟩
              have HGE := hid (show getB bs = if rightB ⟨v1, ps, ws, cs, v2⟩ = true then (⟨v1, ps, ws, cs, v2⟩, 0) else (tabZ, 9) by rw [HGB.out, if_neg (by omega)])
              rw [hE]
              clear hE HGB
              go_wp2_with fail
              refine (iR.out _ H13.out).mono ?_
              rintro e wF ⟨he, hbF⟩
              have H14 := hid (H13.out.belowS hbF)
              clear z0 z1 z2 z3 z4 c0 c1 c2 c3 c4 iR hbF HRb zf
              obtain ⟨z0, z1, z2, z3, z4⟩ := tab_cells H14.out.hR
              obtain ⟨c0, c1, c2, c3, c4⟩ := tab_cells H14.out.hT
              have HRb := hid H14.out.hR
              have zf := HRb.out.frozen
              by_cases hr : rightB ⟨v1, ps, ws, cs, v2⟩ = true
              case neg =>
                have hr' : rightB ⟨v1, ps, ws, cs, v2⟩ = false := by simpa using hr
                rw [hr'] at he
                have HG2 := hid (show getB bs = (tabZ, 9) by rw [HGE.out, if_neg hr])
                subst he
                clear hr hr' c0 c1 c2 c3 c4 HGE
                go_wp2_with fail
                obtain ⟨wq, hwq, hbq, hkq, hrq⟩ := store5T HRb.out rfl (.int .i64 0) (.slice none 0 0) (.slice none 0 0) (.slice none 0 0) (.int .i64 0)
                rw [hwq]
                clear hwq z0 z1 z2 z3 z4 zf
                obtain ⟨r0, r1, r2, r3, r4⟩ : _ ∧ _ ∧ _ ∧ _ ∧ _ := ⟨hrq.cellAt (i := 0) rfl, hrq.cellAt (i := 1) rfl, hrq.cellAt (i := 2) rfl, hrq.cellAt (i := 3) rfl, hrq.cellAt (i := 4) rfl⟩
                have HFin := hid (H14.out.bel.trans hbq)
                refine bodyPost_ret (v := .tuple #[.agg #[.int .i64 0, .slice none 0 0, .slice none 0 0, .slice none 0 0, .int .i64 0], .int .i64 9]) (by simp [results, Try.results36, go_sem, r0, r1, r2, r3, r4]) rfl ?_
                refine ⟨⟨none, 0, none, 0, none, 0⟩, by rw [HG2.out]; rfl, ?_, HFin.out⟩
                rw [HG2.out]
                exact ⟨RdS.nil, RdS.nil, RdS.nil⟩
              rw [hr] at he
              have HG2 := hid (show getB bs = (⟨v1, ps, ws, cs, v2⟩, 0) by rw [HGE.out, if_pos hr])
              subst he
              clear hr HGE
              simp only at c0 c1 c2 c3 c4
              go_wp2_with fail
              obtain ⟨wq, hwq, hbq, hkq, hrq⟩ := store5T HRb.out rfl (iV v1) (.slice a.A1 ps.length a.c1) (.slice a.A2 ws.length a.c2) (.slice a.A3 cs.length a.c3) (iV v2)
              rw [hwq]
              clear hwq z0 z1 z2 z3 z4 zf c0 c1 c2 c3 c4
              obtain ⟨r0, r1, r2, r3, r4⟩ : _ ∧ _ ∧ _ ∧ _ ∧ _ := ⟨hrq.cellAt (i := 0) rfl, hrq.cellAt (i := 1) rfl, hrq.cellAt (i := 2) rfl, hrq.cellAt (i := 3) rfl, hrq.cellAt (i := 4) rfl⟩
              have HFin := hid (H14.out.bel.trans hbq)
              have HTI : Hid (TabIn wq ⟨v1, ps, ws, cs, v2⟩ a) := hid (by
                have h9 := H14.out
                have hlt := h9.lt1
                have hlt2 := h9.lt2
                exact ⟨(Reads.of_own (own_keepG h9.o1 fun b hb => hkq b (by have := (own_rng h9.o1 hb).1; omega))).rds (fun _ => rfl), (Reads.of_own (own_keepG h9.o2 fun b hb => hkq b (by have := (own_rng h9.o2 hb).1; omega))).rds (fun _ => rfl), (Reads.of_own (own_keepG h9.o3 fun b hb => hkq b (by have := (own_rng h9.o3 hb).1; omega))).rds (fun _ => rfl)⟩)
              refine bodyPost_ret (v := .tuple #[.agg #[.int .i64 (v1 : Int), .slice a.A1 ps.length a.c1, .slice a.A2 ws.length a.c2, .slice a.A3 cs.length a.c3, .int .i64 (v2 : Int)], .int .i64 0]) (by simp [results, Try.results36, go_sem, r0, r1, r2, r3, r4]) rfl ?_
              exact ⟨a, by rw [HG2.out], by rw [HG2.out]; exact HTI.out, HFin.out⟩
end Go.Proofs.Ytbnodcenlggcnaa
