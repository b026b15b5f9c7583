/-
  Package compat: what a check is asked: own, mine, small, wired, newer.
-/
import Derived.Test.YthnifgcoikmihaaComp
import Derived.Test.YthnifgcoikmihaaImgRight
import Derived.Test.YthnifgcoikmihaaTk
namespace Go.Proofs.Ythnifgcoikmihaa
open Go.RowKit

abbrev askV (t : TabS) (a : TabA) (p : Int) (i : ImgS) (A : Option Addr) (c : Nat) (v : Int) : Value := .agg #[.int .i64 t.frame, .slice a.A1 t.parts.length a.c1, .slice a.A2 t.wins.length a.c2, .slice a.A3 t.chans.length a.c3, .int .i64 t.trial, .int .i64 p,
   .int .i64 i.part, .int .i64 i.ver, .int .i64 i.hard, .int .i64 i.mem, .int .i64 i.fuel, .int .i64 i.sends, .int .i64 i.recvs, .slice A i.code.length c, .int .i64 v]
def askC (t : TabS) (a : TabA) (p : Int) (i : ImgS) (A : Option Addr) (c : Nat) (v : Int) : List Value :=
  [.int .i64 t.frame, .slice a.A1 t.parts.length a.c1, .slice a.A2 t.wins.length a.c2, .slice a.A3 t.chans.length a.c3, .int .i64 t.trial, .int .i64 p,
   .int .i64 i.part, .int .i64 i.ver, .int .i64 i.hard, .int .i64 i.mem, .int .i64 i.fuel, .int .i64 i.sends, .int .i64 i.recvs, .slice A i.code.length c, .int .i64 v]
theorem ask_box (t : TabS) (a : TabA) (p : Int) (i : ImgS) (A : Option Addr) (c : Nat) (v : Int) (w : World) : ∃ w1 : World, w.alloc (.cells #[.int .i64 t.frame, .slice a.A1 t.parts.length a.c1, .slice a.A2 t.wins.length a.c2, .slice a.A3 t.chans.length a.c3, .int .i64 t.trial, .int .i64 p,
   .int .i64 i.part, .int .i64 i.ver, .int .i64 i.hard, .int .i64 i.mem, .int .i64 i.fuel, .int .i64 i.sends, .int .i64 i.recvs, .slice A i.code.length c, .int .i64 v] 95) = w1 ∧ Below w.heap.size w w1 ∧ Blk w1 w.heap.size 95 (askC t a p i A c v) ∧ w1.heap.size = w.heap.size + 1 :=
  ⟨_, rfl, (Below.refl _ _).alloc (Nat.le_refl _) _, Blk.new _ _ _, by simp⟩
abbrev partV (q : PartS) : Value := .agg #[.int .i64 q.mem, .int .i64 q.fuel, .int .i64 q.hard]
theorem partQ_at (t : TabS) (k : Nat) (x : PartS) (h : t.parts[k]? = some x) : partQ t (k : Int) = x := by
  unfold partQ
  rw [List.getD_eq_getElem?_getD, Int.toNat_natCast, h]
  rfl
theorem own_any (t : TabS) (a : TabA) (p : Int) (i : ImgS) (A : Option Addr) (c : Nat) (v : Int) (w : World) (h : TabOk w t a) (hp : hasB t p = true) :
    Calls Try.prog 64 #[askV t a p i A c v] w fun e w' => e = .returned (partV (partQ t p)) ∧ Below w.heap.size w w' := by
  rw [hasB_eq, Bool.and_eq_true, decide_eq_true_eq, decide_eq_true_eq] at hp
  obtain ⟨k, rfl⟩ : ∃ k : Nat, p = (k : Int) := ⟨p.toNat, by omega⟩
  have hk : k < t.parts.length := by omega
  obtain ⟨w1, hw1, hb1, hblk1, hs1⟩ := ask_box t a (k : Int) i A c v w
  obtain ⟨ad, x, hA, had, hx, hc0, hc⟩ := (h.inn.1.belowS hb1).at_ hk
  have hq := partQ_at t k x hx
  rw [hq]
  have d0 := hc0 _ rfl
  have d1 := hc 0 _ rfl
  have d2 := hc 1 _ rfl
  clear hc0 hc hq hx
  have hn1 := h.n1
  clear h
  obtain ⟨A1, k1, A2, k2, A3, k3⟩ := a
  simp only at hA
  subst hA
  obtain ⟨x0, x1, x2⟩ := x
  obtain ⟨i0, i1, i2, i3, i4, i5, i6, code⟩ := i
  simp only [askV, tabV, imgV, partV, askC] at d0 d1 d2 hw1 hblk1 ⊢
  generalize code.length = n at *
  have c1 : w1.cell? ⟨w.heap.size, 1, none⟩ = some (.slice (some ad) t.parts.length k1) := hblk1.cellAt (i := 1) rfl
  have c5 : w1.cell? ⟨w.heap.size, 5, none⟩ = some (.int .i64 (k : Int)) := hblk1.cellAt (i := 5) rfl
  clear hblk1 hp
  have e0 : ∀ o, (w1.alloc o).cell? (ad.add (k * 3)) = some (.int .i64 x0) := fun o => (World.cell?_alloc_lt w1 o _ (by rw [block_add]; omega)).trans d0
  have e1 : ∀ o, (w1.alloc o).cell? ⟨(ad.add (k * 3)).block, (ad.add (k * 3)).off + 1, none⟩ = some (.int .i64 x1) := fun o => (World.cell?_alloc_lt w1 o _ (by show (ad.add (k * 3)).block < _; rw [block_add]; omega)).trans d1
  have e2 : ∀ o, (w1.alloc o).cell? ⟨(ad.add (k * 3)).block, (ad.add (k * 3)).off + 2, none⟩ = some (.int .i64 x2) := fun o => (World.cell?_alloc_lt w1 o _ (by show (ad.add (k * 3)).block < _; rw [block_add]; omega)).trans d2
  have hlt : w.heap.size < w1.heap.size := by omega
  have hlt : w.heap.size < w1.heap.size := by omega
  have hlt : w.heap.size < w1.heap.size := by omega
  have hlt : w.heap.size < w1.heap.size := by omega
  clear d0 d1 d2 hs1
  go_enter Try.func64, Try.ntmps64
  go_wp2_with fail
  go_returns
  exact ⟨rfl, hb1.alloc hb1.size _⟩

/-- The cells of what is asked, in any world where its block is known. -/
theorem ask_cells {w : World} {g : Nat} {t : TabS} {a : TabA} {p : Int} {i : ImgS} {A : Option Addr} {c : Nat} {v : Int} (h : Blk w g 95 (askC t a p i A c v)) (j : Nat) (u : Value) (hu : (askC t a p i A c v)[j]? = some u) : w.cell? ⟨g, j, none⟩ = some u := h.cellAt hu
theorem newer_any (t : TabS) (a : TabA) (p : Int) (i : ImgS) (A : Option Addr) (c : Nat) (v : Int) (w : World) :
    Calls Try.prog 54 #[askV t a p i A c v] w fun e w' => e = .returned (.bool (decide (v < i.ver))) ∧ Below w.heap.size w w' := by
  obtain ⟨w1, hw1, hb1, hblk1, hs1⟩ := ask_box t a p i A c v w
  have c7 := ask_cells hblk1 7 _ rfl
  have c14 := ask_cells hblk1 14 _ rfl
  clear hblk1 hs1
  go_enter Try.func54, Try.ntmps54
  go_wp2_with fail
  go_ret
  exact ⟨rfl, hb1⟩
theorem field_part0 (q0 q1 q2 : Int) (w : World) : (Instr.field 66 (.agg #[.int .i64 q0, .int .i64 q1, .int .i64 q2]) 0).run Try.prog w = .ok (.int .i64 q0) w := by kernel_rfl
theorem field_part1 (q0 q1 q2 : Int) (w : World) : (Instr.field 66 (.agg #[.int .i64 q0, .int .i64 q1, .int .i64 q2]) 1).run Try.prog w = .ok (.int .i64 q1) w := by kernel_rfl
theorem field_part2 (q0 q1 q2 : Int) (w : World) : (Instr.field 66 (.agg #[.int .i64 q0, .int .i64 q1, .int .i64 q2]) 2).run Try.prog w = .ok (.int .i64 q2) w := by kernel_rfl
set_option maxRecDepth 100000 in
theorem mine_any (t : TabS) (a : TabA) (p : Int) (i : ImgS) (A : Option Addr) (c : Nat) (v : Int) (w : World) (h : TabOk w t a) (hp : hasB t p = true) :
    Calls Try.prog 51 #[askV t a p i A c v] w fun e w' => e = .returned (.bool ((i.part == p) && (i.hard == (partQ t p).hard))) ∧ Below w.heap.size w w' := by
  obtain ⟨w1, hw1, hb1, hblk1, hs1⟩ := ask_box t a p i A c v w
  have i1 := hid (fun w' (hb : Below w1.heap.size w1 w') => own_any t a p i A c v w' ((h.belowS hb1).belowS hb) hp)
  have HOK := hid (h.belowS hb1)
  clear h hp hs1
  obtain ⟨a0, a1, a2, a3, a4, a5, a6, code⟩ := i
  obtain ⟨A1, k1, A2, k2, A3, k3⟩ := a
  simp only [askV, partV, tabV] at hw1 i1 ⊢
  simp only [askC] at hblk1
  have HBLK := hid hblk1
  have HB1 := hid hb1
  generalize partQ t p = q at i1 ⊢
  obtain ⟨q0, q1, q2⟩ := q
  simp only at i1 ⊢
  have c0 := hblk1.cellAt (i := 0) rfl
  have c1 := hblk1.cellAt (i := 1) rfl
  have c2 := hblk1.cellAt (i := 2) rfl
  have c3 := hblk1.cellAt (i := 3) rfl
  have c4 := hblk1.cellAt (i := 4) rfl
  have c5 := hblk1.cellAt (i := 5) rfl
  have c6 := hblk1.cellAt (i := 6) rfl
  have c7 := hblk1.cellAt (i := 7) rfl
  have c8 := hblk1.cellAt (i := 8) rfl
  have c9 := hblk1.cellAt (i := 9) rfl
  have c10 := hblk1.cellAt (i := 10) rfl
  have c11 := hblk1.cellAt (i := 11) rfl
  have c12 := hblk1.cellAt (i := 12) rfl
  have c13 := hblk1.cellAt (i := 13) rfl
  have c14 := hblk1.cellAt (i := 14) rfl
  clear hblk1 hb1
  by_cases h0 : a0 = p
  · subst h0
    have hr : ((a0 == a0) && (a2 == q2)) = (a2 == q2) := by simp
    rw [hr]
    clear hr
    have y0 : (a0 == a0) = true := by simp
    go_enter Try.func51, Try.ntmps51
    go_wp2_with fail
    first | rw [hw1] | skip
    have HR := hid (Below.refl w1.heap.size w1)
    have f0 := field_part0
    have f1 := field_part1
    have f2 := field_part2
    go_region_held3 (fun w' => w'.cell? ⟨w.heap.size, 0, none⟩ = some (.int .i64 t.frame) ∧ w'.cell? ⟨w.heap.size, 1, none⟩ = some (.slice A1 t.parts.length k1) ∧ w'.cell? ⟨w.heap.size, 2, none⟩ = some (.slice A2 t.wins.length k2) ∧ w'.cell? ⟨w.heap.size, 3, none⟩ = some (.slice A3 t.chans.length k3) ∧ w'.cell? ⟨w.heap.size, 4, none⟩ = some (.int .i64 t.trial) ∧ w'.cell? ⟨w.heap.size, 5, none⟩ = some (.int .i64 a0) ∧ w'.cell? ⟨w.heap.size, 6, none⟩ = some (.int .i64 a0) ∧ w'.cell? ⟨w.heap.size, 7, none⟩ = some (.int .i64 a1) ∧ w'.cell? ⟨w.heap.size, 8, none⟩ = some (.int .i64 a2) ∧ w'.cell? ⟨w.heap.size, 9, none⟩ = some (.int .i64 a3) ∧ w'.cell? ⟨w.heap.size, 10, none⟩ = some (.int .i64 a4) ∧ w'.cell? ⟨w.heap.size, 11, none⟩ = some (.int .i64 a5) ∧ w'.cell? ⟨w.heap.size, 12, none⟩ = some (.int .i64 a6) ∧ w'.cell? ⟨w.heap.size, 13, none⟩ = some (.slice A code.length c) ∧ w'.cell? ⟨w.heap.size, 14, none⟩ = some (.int .i64 v)) (go_keep)
      ((go_at_call 64; refine (i1.out _ ?_).mono ?_; (first | exact HR.out | exact HR.out.drew); rintro e wa ⟨rfl, hba'⟩; have hba : Below w1.heap.size w1 wa := ⟨hba'.os, hba'.tape, hba'.output, hba'.size, hba'.block⟩; clear hba'; have hqwa := hid (HBLK.out.belowS hba); have HHa := hid hba; have zwa0 := hqwa.out.cellAt (i := 0) rfl; have zwa1 := hqwa.out.cellAt (i := 1) rfl; have zwa2 := hqwa.out.cellAt (i := 2) rfl; have zwa3 := hqwa.out.cellAt (i := 3) rfl; have zwa4 := hqwa.out.cellAt (i := 4) rfl; have zwa5 := hqwa.out.cellAt (i := 5) rfl; have zwa6 := hqwa.out.cellAt (i := 6) rfl; have zwa7 := hqwa.out.cellAt (i := 7) rfl; have zwa8 := hqwa.out.cellAt (i := 8) rfl; have zwa9 := hqwa.out.cellAt (i := 9) rfl; have zwa10 := hqwa.out.cellAt (i := 10) rfl; have zwa11 := hqwa.out.cellAt (i := 11) rfl; have zwa12 := hqwa.out.cellAt (i := 12) rfl; have zwa13 := hqwa.out.cellAt (i := 13) rfl; have zwa14 := hqwa.out.cellAt (i := 14) rfl))
    have hfin := hid (bel_trans HB1.out HHa.out)
    go_wp2_with fail
    go_ret
    exact ⟨rfl, hfin.out⟩
  · have y0 : (a0 == p) = false := by simpa using h0
    have hr : ((a0 == p) && (a2 == q2)) = false := by rw [y0]; rfl
    rw [hr]
    clear hr h0
    go_enter Try.func51, Try.ntmps51
    go_wp2_with fail
    go_quiet (fail)
    go_wp2_with fail
    go_ret
    exact ⟨rfl, below_drewN HB1.out _⟩
set_option maxHeartbeats 1000000 in
set_option maxRecDepth 100000 in
theorem small_any (t : TabS) (a : TabA) (p : Int) (i : ImgS) (A : Option Addr) (c : Nat) (v : Int) (w : World) (h : TabOk w t a) (hp : hasB t p = true) :
    Calls Try.prog 52 #[askV t a p i A c v] w fun e w' => e = .returned (.bool (decide (i.mem ≤ (partQ t p).mem) && decide (i.fuel ≤ (partQ t p).fuel))) ∧ Below w.heap.size w w' := by
  obtain ⟨w1, hw1, hb1, hblk1, hs1⟩ := ask_box t a p i A c v w
  have i1 := hid (fun w' (hb : Below w1.heap.size w1 w') => own_any t a p i A c v w' ((h.belowS hb1).belowS hb) hp)
  have HOK := hid (h.belowS hb1)
  clear h hp hs1
  obtain ⟨a0, a1, a2, a3, a4, a5, a6, code⟩ := i
  obtain ⟨A1, k1, A2, k2, A3, k3⟩ := a
  simp only [askV, partV, tabV] at hw1 i1 ⊢
  simp only [askC] at hblk1
  have HBLK := hid hblk1
  have HB1 := hid hb1
  generalize partQ t p = q at i1 ⊢
  obtain ⟨q0, q1, q2⟩ := q
  simp only at i1 ⊢
  have c0 := hblk1.cellAt (i := 0) rfl
  have c1 := hblk1.cellAt (i := 1) rfl
  have c2 := hblk1.cellAt (i := 2) rfl
  have c3 := hblk1.cellAt (i := 3) rfl
  have c4 := hblk1.cellAt (i := 4) rfl
  have c5 := hblk1.cellAt (i := 5) rfl
  have c6 := hblk1.cellAt (i := 6) rfl
  have c7 := hblk1.cellAt (i := 7) rfl
  have c8 := hblk1.cellAt (i := 8) rfl
  have c9 := hblk1.cellAt (i := 9) rfl
  have c10 := hblk1.cellAt (i := 10) rfl
  have c11 := hblk1.cellAt (i := 11) rfl
  have c12 := hblk1.cellAt (i := 12) rfl
  have c13 := hblk1.cellAt (i := 13) rfl
  have c14 := hblk1.cellAt (i := 14) rfl
  clear hblk1 hb1
  by_cases h0 : a3 ≤ q0
  · have y0 : decide (a3 ≤ q0) = true := decide_eq_true h0
    rw [y0]
    simp only [Bool.true_and]
    clear h0
    go_enter Try.func52, Try.ntmps52
    go_wp2_with fail
    first | rw [hw1] | skip
    have HR := hid (Below.refl w1.heap.size w1)
    have f0 := field_part0
    have f1 := field_part1
    have f2 := field_part2
    go_region_held3 (fun w' => w'.cell? ⟨w.heap.size, 0, none⟩ = some (.int .i64 t.frame) ∧ w'.cell? ⟨w.heap.size, 1, none⟩ = some (.slice A1 t.parts.length k1) ∧ w'.cell? ⟨w.heap.size, 2, none⟩ = some (.slice A2 t.wins.length k2) ∧ w'.cell? ⟨w.heap.size, 3, none⟩ = some (.slice A3 t.chans.length k3) ∧ w'.cell? ⟨w.heap.size, 4, none⟩ = some (.int .i64 t.trial) ∧ w'.cell? ⟨w.heap.size, 5, none⟩ = some (.int .i64 p) ∧ w'.cell? ⟨w.heap.size, 6, none⟩ = some (.int .i64 a0) ∧ w'.cell? ⟨w.heap.size, 7, none⟩ = some (.int .i64 a1) ∧ w'.cell? ⟨w.heap.size, 8, none⟩ = some (.int .i64 a2) ∧ w'.cell? ⟨w.heap.size, 9, none⟩ = some (.int .i64 a3) ∧ w'.cell? ⟨w.heap.size, 10, none⟩ = some (.int .i64 a4) ∧ w'.cell? ⟨w.heap.size, 11, none⟩ = some (.int .i64 a5) ∧ w'.cell? ⟨w.heap.size, 12, none⟩ = some (.int .i64 a6) ∧ w'.cell? ⟨w.heap.size, 13, none⟩ = some (.slice A code.length c) ∧ w'.cell? ⟨w.heap.size, 14, none⟩ = some (.int .i64 v)) (go_keep)
      (first
        | (go_at_call 64; refine (i1.out _ ?_).mono ?_; (first | exact HHa.out | exact HHa.out.drew); rintro e wb ⟨rfl, hba'⟩; have hbb : Below w1.heap.size w1 wb := bel_trans HHa.out hba'; clear hba'; have hqwb := hid (HBLK.out.belowS hbb); have HHb := hid hbb; clear HHa zwa0 zwa1 zwa2 zwa3 zwa4 zwa5 zwa6 zwa7 zwa8 zwa9 zwa10 zwa11 zwa12 zwa13 zwa14; have zwb0 := hqwb.out.cellAt (i := 0) rfl; have zwb1 := hqwb.out.cellAt (i := 1) rfl; have zwb2 := hqwb.out.cellAt (i := 2) rfl; have zwb3 := hqwb.out.cellAt (i := 3) rfl; have zwb4 := hqwb.out.cellAt (i := 4) rfl; have zwb5 := hqwb.out.cellAt (i := 5) rfl; have zwb6 := hqwb.out.cellAt (i := 6) rfl; have zwb7 := hqwb.out.cellAt (i := 7) rfl; have zwb8 := hqwb.out.cellAt (i := 8) rfl; have zwb9 := hqwb.out.cellAt (i := 9) rfl; have zwb10 := hqwb.out.cellAt (i := 10) rfl; have zwb11 := hqwb.out.cellAt (i := 11) rfl; have zwb12 := hqwb.out.cellAt (i := 12) rfl; have zwb13 := hqwb.out.cellAt (i := 13) rfl; have zwb14 := hqwb.out.cellAt (i := 14) rfl)
        | (go_at_call 64; refine (i1.out _ ?_).mono ?_; (first | exact HR.out | exact HR.out.drew); rintro e wa ⟨rfl, hba'⟩; have hba : Below w1.heap.size w1 wa := ⟨hba'.os, hba'.tape, hba'.output, hba'.size, hba'.block⟩; clear hba'; have hqwa := hid (HBLK.out.belowS hba); have HHa := hid hba; clear HR; have zwa0 := hqwa.out.cellAt (i := 0) rfl; have zwa1 := hqwa.out.cellAt (i := 1) rfl; have zwa2 := hqwa.out.cellAt (i := 2) rfl; have zwa3 := hqwa.out.cellAt (i := 3) rfl; have zwa4 := hqwa.out.cellAt (i := 4) rfl; have zwa5 := hqwa.out.cellAt (i := 5) rfl; have zwa6 := hqwa.out.cellAt (i := 6) rfl; have zwa7 := hqwa.out.cellAt (i := 7) rfl; have zwa8 := hqwa.out.cellAt (i := 8) rfl; have zwa9 := hqwa.out.cellAt (i := 9) rfl; have zwa10 := hqwa.out.cellAt (i := 10) rfl; have zwa11 := hqwa.out.cellAt (i := 11) rfl; have zwa12 := hqwa.out.cellAt (i := 12) rfl; have zwa13 := hqwa.out.cellAt (i := 13) rfl; have zwa14 := hqwa.out.cellAt (i := 14) rfl))
    have hfin := hid (bel_trans HB1.out HHb.out)
    go_wp2_with fail
    go_ret
    exact ⟨rfl, hfin.out⟩
  · have y0 : decide (a3 ≤ q0) = false := decide_eq_false h0
    have hr : (decide (a3 ≤ q0) && decide (a4 ≤ q1)) = false := by rw [y0]; rfl
    rw [hr]
    clear hr h0
    go_enter Try.func52, Try.ntmps52
    go_wp2_with fail
    first | rw [hw1] | skip
    have HR := hid (Below.refl w1.heap.size w1)
    have f0 := field_part0
    have f1 := field_part1
    have f2 := field_part2
    have HK : Hid (∀ w2, Below w1.heap.size w1 w2 → (fun w' => w'.cell? ⟨w.heap.size, 0, none⟩ = some (.int .i64 t.frame) ∧ w'.cell? ⟨w.heap.size, 1, none⟩ = some (.slice A1 t.parts.length k1) ∧ w'.cell? ⟨w.heap.size, 2, none⟩ = some (.slice A2 t.wins.length k2) ∧ w'.cell? ⟨w.heap.size, 3, none⟩ = some (.slice A3 t.chans.length k3) ∧ w'.cell? ⟨w.heap.size, 4, none⟩ = some (.int .i64 t.trial) ∧ w'.cell? ⟨w.heap.size, 5, none⟩ = some (.int .i64 p) ∧ w'.cell? ⟨w.heap.size, 6, none⟩ = some (.int .i64 a0) ∧ w'.cell? ⟨w.heap.size, 7, none⟩ = some (.int .i64 a1) ∧ w'.cell? ⟨w.heap.size, 8, none⟩ = some (.int .i64 a2) ∧ w'.cell? ⟨w.heap.size, 9, none⟩ = some (.int .i64 a3) ∧ w'.cell? ⟨w.heap.size, 10, none⟩ = some (.int .i64 a4) ∧ w'.cell? ⟨w.heap.size, 11, none⟩ = some (.int .i64 a5) ∧ w'.cell? ⟨w.heap.size, 12, none⟩ = some (.int .i64 a6) ∧ w'.cell? ⟨w.heap.size, 13, none⟩ = some (.slice A code.length c) ∧ w'.cell? ⟨w.heap.size, 14, none⟩ = some (.int .i64 v)) w2) := hid (fun w2 hb => by
      have hq := HBLK.out.belowS hb
      exact ⟨hq.cellAt (i := 0) rfl, hq.cellAt (i := 1) rfl, hq.cellAt (i := 2) rfl, hq.cellAt (i := 3) rfl, hq.cellAt (i := 4) rfl, hq.cellAt (i := 5) rfl, hq.cellAt (i := 6) rfl, hq.cellAt (i := 7) rfl, hq.cellAt (i := 8) rfl, hq.cellAt (i := 9) rfl, hq.cellAt (i := 10) rfl, hq.cellAt (i := 11) rfl, hq.cellAt (i := 12) rfl, hq.cellAt (i := 13) rfl, hq.cellAt (i := 14) rfl⟩)
    refine wp_region_held_drew (S := (fun w' => w'.cell? ⟨w.heap.size, 0, none⟩ = some (.int .i64 t.frame) ∧ w'.cell? ⟨w.heap.size, 1, none⟩ = some (.slice A1 t.parts.length k1) ∧ w'.cell? ⟨w.heap.size, 2, none⟩ = some (.slice A2 t.wins.length k2) ∧ w'.cell? ⟨w.heap.size, 3, none⟩ = some (.slice A3 t.chans.length k3) ∧ w'.cell? ⟨w.heap.size, 4, none⟩ = some (.int .i64 t.trial) ∧ w'.cell? ⟨w.heap.size, 5, none⟩ = some (.int .i64 p) ∧ w'.cell? ⟨w.heap.size, 6, none⟩ = some (.int .i64 a0) ∧ w'.cell? ⟨w.heap.size, 7, none⟩ = some (.int .i64 a1) ∧ w'.cell? ⟨w.heap.size, 8, none⟩ = some (.int .i64 a2) ∧ w'.cell? ⟨w.heap.size, 9, none⟩ = some (.int .i64 a3) ∧ w'.cell? ⟨w.heap.size, 10, none⟩ = some (.int .i64 a4) ∧ w'.cell? ⟨w.heap.size, 11, none⟩ = some (.int .i64 a5) ∧ w'.cell? ⟨w.heap.size, 12, none⟩ = some (.int .i64 a6) ∧ w'.cell? ⟨w.heap.size, 13, none⟩ = some (.slice A code.length c) ∧ w'.cell? ⟨w.heap.size, 14, none⟩ = some (.int .i64 v))) (by kernel_rfl) (HK.out _ (Below.refl _ _).drew) (fun hHeld => ?_)
    refine tk_first 0 3 rfl rfl (v := ?_) (by kernel_rfl) (by kernel_rfl) (by kernel_rfl) (fun _ _ _ h => h) (Or.inl ⟨by rfl, ?_⟩) (by assumption) ?_
    rotate_left 1
    focus (intro wS hSw; (try dsimp only at hSw); go_simp; try with_reducible rfl)
    try simp only [Act.put, List.setIfInBounds_toArray, List.set_cons_zero, List.set_cons_succ]
    refine tk_first 1 4 rfl rfl (v := ?_) (by kernel_rfl) (by kernel_rfl) (by kernel_rfl) (fun _ _ _ h => h) (Or.inl ⟨by rfl, ?_⟩) (by assumption) ?_
    rotate_left 1
    focus (intro wS hSw; (try dsimp only at hSw); go_simp; try with_reducible rfl)
    try simp only [Act.put, List.setIfInBounds_toArray, List.set_cons_zero, List.set_cons_succ]
    refine tk_first 2 5 rfl rfl (v := ?_) (by kernel_rfl) (by kernel_rfl) (by kernel_rfl) (fun _ _ _ h => h) (Or.inl ⟨by rfl, ?_⟩) (by assumption) ?_
    rotate_left 1
    focus (intro wS hSw; (try dsimp only at hSw); go_simp; try with_reducible rfl)
    try simp only [Act.put, List.setIfInBounds_toArray, List.set_cons_zero, List.set_cons_succ]
    refine tk_first 3 6 rfl rfl (v := ?_) (by kernel_rfl) (by kernel_rfl) (by kernel_rfl) (fun _ _ _ h => h) (Or.inl ⟨by rfl, ?_⟩) (by assumption) ?_
    rotate_left 1
    focus (intro wS hSw; (try dsimp only at hSw); go_simp; try with_reducible rfl)
    try simp only [Act.put, List.setIfInBounds_toArray, List.set_cons_zero, List.set_cons_succ]
    refine wpAnyH_ready (rs := [4]) (by kernel_rfl) (by simp) ?_
    refine AllReadyH.cons (i := 4) (o := _) rfl (fun K hK => ?_) AllReadyH.nil
    go_simp
    (go_at_call 64; refine (i1.out _ ?_).mono ?_; (first | exact HR.out | exact HR.out.drew); rintro e wa ⟨rfl, hba'⟩; have hba : Below w1.heap.size w1 wa := ⟨hba'.os, hba'.tape, hba'.output, hba'.size, hba'.block⟩; clear hba'; have hqwa := hid (HBLK.out.belowS hba); have HHa := hid hba)
    refine hK.out _ _ (HK.out _ hba) (fun hHeld => ?_)
    clear hK K
    try simp only [Act.put, List.setIfInBounds_toArray, List.set_cons_zero, List.set_cons_succ]
    refine tk_first 5 8 rfl rfl (v := ?_) (by kernel_rfl) (by kernel_rfl) (by kernel_rfl) (fun _ _ _ h => h) (Or.inl ⟨by rfl, ?_⟩) (by assumption) ?_
    rotate_left 1
    focus (intro wS hSw; (try dsimp only at hSw); go_simp; try with_reducible rfl)
    try simp only [Act.put, List.setIfInBounds_toArray, List.set_cons_zero, List.set_cons_succ]
    refine tk_first 6 9 rfl rfl (v := ?_) (by kernel_rfl) (by kernel_rfl) (by kernel_rfl) (fun _ _ _ h => h) (Or.inl ⟨by rfl, ?_⟩) (by assumption) ?_
    rotate_left 1
    focus (intro wS hSw; (try dsimp only at hSw); go_simp; try with_reducible rfl)
    try simp only [Act.put, List.setIfInBounds_toArray, List.set_cons_zero, List.set_cons_succ]
    refine tk_first 7 10 rfl rfl (v := ?_) (by kernel_rfl) (by kernel_rfl) (by kernel_rfl) (fun _ _ _ h => h) (Or.inl ⟨by rfl, ?_⟩) (by assumption) ?_
    rotate_left 1
    focus (intro wS hSw; (try dsimp only at hSw); go_simp; try with_reducible rfl)
    try simp only [Act.put, List.setIfInBounds_toArray, List.set_cons_zero, List.set_cons_succ]
    refine tk_first 8 11 rfl rfl (v := undef) (by kernel_rfl) (by kernel_rfl) (by kernel_rfl) (fun _ _ _ h => h) (Or.inr ⟨by rfl, rfl⟩) (by assumption) ?_
    try simp only [Act.put, List.setIfInBounds_toArray, List.set_cons_zero, List.set_cons_succ]
    refine tk_first 9 12 rfl rfl (v := undef) (by kernel_rfl) (by kernel_rfl) (by kernel_rfl) (fun _ _ _ h => h) (Or.inr ⟨by rfl, rfl⟩) (by assumption) ?_
    try simp only [Act.put, List.setIfInBounds_toArray, List.set_cons_zero, List.set_cons_succ]
    refine tk_first 10 13 rfl rfl (v := undef) (by kernel_rfl) (by kernel_rfl) (by kernel_rfl) (fun _ _ _ h => h) (Or.inr ⟨by rfl, rfl⟩) (by assumption) ?_
    try simp only [Act.put, List.setIfInBounds_toArray, List.set_cons_zero, List.set_cons_succ]
    refine tk_first 11 14 rfl rfl (v := undef) (by kernel_rfl) (by kernel_rfl) (by kernel_rfl) (fun _ _ _ h => h) (Or.inr ⟨by rfl, rfl⟩) (by assumption) ?_
    try simp only [Act.put, List.setIfInBounds_toArray, List.set_cons_zero, List.set_cons_succ]
    refine tk_first 12 15 rfl rfl (v := undef) (by kernel_rfl) (by kernel_rfl) (by kernel_rfl) (fun _ _ _ h => h) (Or.inr ⟨by rfl, rfl⟩) (by assumption) ?_
    try simp only [Act.put, List.setIfInBounds_toArray, List.set_cons_zero, List.set_cons_succ]
    refine tk_first 13 16 rfl rfl (v := undef) (by kernel_rfl) (by kernel_rfl) (by kernel_rfl) (fun _ _ _ h => h) (Or.inr ⟨by rfl, rfl⟩) (by assumption) ?_
    try simp only [Act.put, List.setIfInBounds_toArray, List.set_cons_zero, List.set_cons_succ]
    refine tk_first 14 17 rfl rfl (v := undef) (by kernel_rfl) (by kernel_rfl) (by kernel_rfl) (fun _ _ _ h => h) (Or.inr ⟨by rfl, rfl⟩) (by assumption) ?_
    try simp only [Act.put, List.setIfInBounds_toArray, List.set_cons_zero, List.set_cons_succ]
    refine tk_first 15 18 rfl rfl (v := ?_) (by kernel_rfl) (by kernel_rfl) (by kernel_rfl) (fun _ _ _ h => h) (Or.inl ⟨by rfl, ?_⟩) (by assumption) ?_
    rotate_left 1
    focus (intro wS hSw; (try dsimp only at hSw); go_simp; try with_reducible rfl)
    try simp only [Act.put, List.setIfInBounds_toArray, List.set_cons_zero, List.set_cons_succ]
    refine tk_first 16 2 rfl rfl (v := ?_) (by kernel_rfl) (by kernel_rfl) (by kernel_rfl) (fun _ _ _ h => h) (Or.inl ⟨by rfl, ?_⟩) (by assumption) ?_
    rotate_left 1
    focus (intro wS hSw; (try dsimp only at hSw); go_simp; try with_reducible rfl)
    try simp only [Act.put, List.setIfInBounds_toArray, List.set_cons_zero, List.set_cons_succ]
    refine wpAnyH_done (by kernel_rfl) ?_ _
    have hfin := hid (bel_trans HB1.out HHa.out)
    go_wp2_with fail
    go_ret
    exact ⟨rfl, hfin.out⟩
theorem andNot_all : ∀ m R : Fin 16, (bits BinOp.andNot IntKind.i64 (m.val : Int) (R.val : Int) == 0) = subB m.val R.val := by decide +kernel
theorem andNot_sub (s : Int) (R : Nat) (h0 : 0 ≤ s) (h1 : s ≤ 15) (hR : R < 16) : (bits BinOp.andNot IntKind.i64 s (R : Int) == 0) = subB s.toNat R := by
  obtain ⟨m, rfl⟩ : ∃ m : Nat, s = (m : Int) := ⟨s.toNat, by omega⟩
  exact andNot_all ⟨m, by omega⟩ ⟨R, hR⟩
set_option maxHeartbeats 2000000 in
set_option maxRecDepth 100000 in
theorem wired_any (t : TabS) (a : TabA) (p : Int) (i : ImgS) (A : Option Addr) (c : Nat) (v : Int) (w : World) (h : TabOk w t a) (hp : hasB t p = true) (s0 : 0 ≤ i.sends) (s1 : i.sends ≤ 15) (r0 : 0 ≤ i.recvs) (r1 : i.recvs ≤ 15) :
    Calls Try.prog 53 #[askV t a p i A c v] w fun e w' => e = .returned (.bool (wiredB t p i)) ∧ Below w.heap.size w w' := by
  obtain ⟨w1, hw1, hb1, hblk1, hs1⟩ := ask_box t a p i A c v w
  have i1 := hid (fun w' (hb : Below w1.heap.size w1 w') => sends_any t a p w' ((h.belowS hb1).belowS hb))
  have i2 := hid (fun w' (hb : Below w1.heap.size w1 w') => receives_any t a p w' ((h.belowS hb1).belowS hb))
  have hr : wiredB t p i = (subB i.sends.toNat (chansB ChanS.src t p) && subB i.recvs.toNat (chansB ChanS.dst t p)) := rfl
  have q1 := andNot_sub i.sends _ s0 s1 (chansB_lt ChanS.src t p)
  have q2 := andNot_sub i.recvs _ r0 r1 (chansB_lt ChanS.dst t p)
  rw [hr, ← q1, ← q2]
  clear hr q1 q2 s0 s1 r0 r1
  have HOK := hid (h.belowS hb1)
  clear h hp hs1
  obtain ⟨a0, a1, a2, a3, a4, a5, a6, code⟩ := i
  obtain ⟨A1, k1, A2, k2, A3, k3⟩ := a
  simp only [askV, partV, tabV] at hw1 i1 i2 ⊢
  simp only [askC] at hblk1
  have HBLK := hid hblk1
  have HB1 := hid hb1
  generalize chansB ChanS.src t p = R1 at *
  generalize chansB ChanS.dst t p = R2 at *
  obtain ⟨X1, hX1⟩ : ∃ X1, bits BinOp.andNot IntKind.i64 a5 (R1 : Int) = X1 := ⟨_, rfl⟩
  obtain ⟨X2, hX2⟩ : ∃ X2, bits BinOp.andNot IntKind.i64 a6 (R2 : Int) = X2 := ⟨_, rfl⟩
  rw [hX1, hX2]
  have c0 := hblk1.cellAt (i := 0) rfl
  have c1 := hblk1.cellAt (i := 1) rfl
  have c2 := hblk1.cellAt (i := 2) rfl
  have c3 := hblk1.cellAt (i := 3) rfl
  have c4 := hblk1.cellAt (i := 4) rfl
  have c5 := hblk1.cellAt (i := 5) rfl
  have c6 := hblk1.cellAt (i := 6) rfl
  have c7 := hblk1.cellAt (i := 7) rfl
  have c8 := hblk1.cellAt (i := 8) rfl
  have c9 := hblk1.cellAt (i := 9) rfl
  have c10 := hblk1.cellAt (i := 10) rfl
  have c11 := hblk1.cellAt (i := 11) rfl
  have c12 := hblk1.cellAt (i := 12) rfl
  have c13 := hblk1.cellAt (i := 13) rfl
  have c14 := hblk1.cellAt (i := 14) rfl
  clear hblk1 hb1
  by_cases h0 : (X1 == 0) = true
  · rw [h0]
    simp only [Bool.true_and]
    go_enter Try.func53, Try.ntmps53
    go_wp2_with fail
    first | rw [hw1] | skip
    have HR := hid (Below.refl w1.heap.size w1)
    go_region_held3 (fun w' => w'.cell? ⟨w.heap.size, 0, none⟩ = some (.int .i64 t.frame) ∧ w'.cell? ⟨w.heap.size, 1, none⟩ = some (.slice A1 t.parts.length k1) ∧ w'.cell? ⟨w.heap.size, 2, none⟩ = some (.slice A2 t.wins.length k2) ∧ w'.cell? ⟨w.heap.size, 3, none⟩ = some (.slice A3 t.chans.length k3) ∧ w'.cell? ⟨w.heap.size, 4, none⟩ = some (.int .i64 t.trial) ∧ w'.cell? ⟨w.heap.size, 5, none⟩ = some (.int .i64 p) ∧ w'.cell? ⟨w.heap.size, 6, none⟩ = some (.int .i64 a0) ∧ w'.cell? ⟨w.heap.size, 7, none⟩ = some (.int .i64 a1) ∧ w'.cell? ⟨w.heap.size, 8, none⟩ = some (.int .i64 a2) ∧ w'.cell? ⟨w.heap.size, 9, none⟩ = some (.int .i64 a3) ∧ w'.cell? ⟨w.heap.size, 10, none⟩ = some (.int .i64 a4) ∧ w'.cell? ⟨w.heap.size, 11, none⟩ = some (.int .i64 a5) ∧ w'.cell? ⟨w.heap.size, 12, none⟩ = some (.int .i64 a6) ∧ w'.cell? ⟨w.heap.size, 13, none⟩ = some (.slice A code.length c) ∧ w'.cell? ⟨w.heap.size, 14, none⟩ = some (.int .i64 v)) (go_keep)
      (first
        | (go_at_call 29; refine (i1.out _ ?_).mono ?_; (first | exact HR.out | exact HR.out.drew); rintro e wa ⟨rfl, hba'⟩; have hba : Below w1.heap.size w1 wa := ⟨hba'.os, hba'.tape, hba'.output, hba'.size, hba'.block⟩; clear hba'; have hqwa := hid (HBLK.out.belowS hba); have HHa := hid hba; clear HR; have zwa0 := hqwa.out.cellAt (i := 0) rfl; have zwa1 := hqwa.out.cellAt (i := 1) rfl; have zwa2 := hqwa.out.cellAt (i := 2) rfl; have zwa3 := hqwa.out.cellAt (i := 3) rfl; have zwa4 := hqwa.out.cellAt (i := 4) rfl; have zwa5 := hqwa.out.cellAt (i := 5) rfl; have zwa6 := hqwa.out.cellAt (i := 6) rfl; have zwa7 := hqwa.out.cellAt (i := 7) rfl; have zwa8 := hqwa.out.cellAt (i := 8) rfl; have zwa9 := hqwa.out.cellAt (i := 9) rfl; have zwa10 := hqwa.out.cellAt (i := 10) rfl; have zwa11 := hqwa.out.cellAt (i := 11) rfl; have zwa12 := hqwa.out.cellAt (i := 12) rfl; have zwa13 := hqwa.out.cellAt (i := 13) rfl; have zwa14 := hqwa.out.cellAt (i := 14) rfl)
        | (go_at_call 30; refine (i2.out _ ?_).mono ?_; (first | exact HHa.out | exact HHa.out.drew); rintro e wb ⟨rfl, hba'⟩; have hbb : Below w1.heap.size w1 wb := bel_trans HHa.out hba'; clear hba'; have hqwb := hid (HBLK.out.belowS hbb); have HHb := hid hbb; clear HHa zwa0 zwa1 zwa2 zwa3 zwa4 zwa5 zwa6 zwa7 zwa8 zwa9 zwa10 zwa11 zwa12 zwa13 zwa14; have zwb0 := hqwb.out.cellAt (i := 0) rfl; have zwb1 := hqwb.out.cellAt (i := 1) rfl; have zwb2 := hqwb.out.cellAt (i := 2) rfl; have zwb3 := hqwb.out.cellAt (i := 3) rfl; have zwb4 := hqwb.out.cellAt (i := 4) rfl; have zwb5 := hqwb.out.cellAt (i := 5) rfl; have zwb6 := hqwb.out.cellAt (i := 6) rfl; have zwb7 := hqwb.out.cellAt (i := 7) rfl; have zwb8 := hqwb.out.cellAt (i := 8) rfl; have zwb9 := hqwb.out.cellAt (i := 9) rfl; have zwb10 := hqwb.out.cellAt (i := 10) rfl; have zwb11 := hqwb.out.cellAt (i := 11) rfl; have zwb12 := hqwb.out.cellAt (i := 12) rfl; have zwb13 := hqwb.out.cellAt (i := 13) rfl; have zwb14 := hqwb.out.cellAt (i := 14) rfl))
    have hfin := hid (bel_trans HB1.out HHb.out)
    go_wp2_with fail
    go_ret
    exact ⟨rfl, hfin.out⟩
  · have h1 : (X1 == 0) = false := by simpa using h0
    rw [h1]
    simp only [Bool.false_and]
    clear h0
    go_enter Try.func53, Try.ntmps53
    go_wp2_with fail
    first | rw [hw1] | skip
    have HR := hid (Below.refl w1.heap.size w1)
    have HK : Hid (∀ w2, Below w1.heap.size w1 w2 → (fun w' => w'.cell? ⟨w.heap.size, 0, none⟩ = some (.int .i64 t.frame) ∧ w'.cell? ⟨w.heap.size, 1, none⟩ = some (.slice A1 t.parts.length k1) ∧ w'.cell? ⟨w.heap.size, 2, none⟩ = some (.slice A2 t.wins.length k2) ∧ w'.cell? ⟨w.heap.size, 3, none⟩ = some (.slice A3 t.chans.length k3) ∧ w'.cell? ⟨w.heap.size, 4, none⟩ = some (.int .i64 t.trial) ∧ w'.cell? ⟨w.heap.size, 5, none⟩ = some (.int .i64 p) ∧ w'.cell? ⟨w.heap.size, 6, none⟩ = some (.int .i64 a0) ∧ w'.cell? ⟨w.heap.size, 7, none⟩ = some (.int .i64 a1) ∧ w'.cell? ⟨w.heap.size, 8, none⟩ = some (.int .i64 a2) ∧ w'.cell? ⟨w.heap.size, 9, none⟩ = some (.int .i64 a3) ∧ w'.cell? ⟨w.heap.size, 10, none⟩ = some (.int .i64 a4) ∧ w'.cell? ⟨w.heap.size, 11, none⟩ = some (.int .i64 a5) ∧ w'.cell? ⟨w.heap.size, 12, none⟩ = some (.int .i64 a6) ∧ w'.cell? ⟨w.heap.size, 13, none⟩ = some (.slice A code.length c) ∧ w'.cell? ⟨w.heap.size, 14, none⟩ = some (.int .i64 v)) w2) := hid (fun w2 hb => by
      have hq := HBLK.out.belowS hb
      exact ⟨hq.cellAt (i := 0) rfl, hq.cellAt (i := 1) rfl, hq.cellAt (i := 2) rfl, hq.cellAt (i := 3) rfl, hq.cellAt (i := 4) rfl, hq.cellAt (i := 5) rfl, hq.cellAt (i := 6) rfl, hq.cellAt (i := 7) rfl, hq.cellAt (i := 8) rfl, hq.cellAt (i := 9) rfl, hq.cellAt (i := 10) rfl, hq.cellAt (i := 11) rfl, hq.cellAt (i := 12) rfl, hq.cellAt (i := 13) rfl, hq.cellAt (i := 14) rfl⟩)
    refine wp_region_held_drew (S := (fun w' => w'.cell? ⟨w.heap.size, 0, none⟩ = some (.int .i64 t.frame) ∧ w'.cell? ⟨w.heap.size, 1, none⟩ = some (.slice A1 t.parts.length k1) ∧ w'.cell? ⟨w.heap.size, 2, none⟩ = some (.slice A2 t.wins.length k2) ∧ w'.cell? ⟨w.heap.size, 3, none⟩ = some (.slice A3 t.chans.length k3) ∧ w'.cell? ⟨w.heap.size, 4, none⟩ = some (.int .i64 t.trial) ∧ w'.cell? ⟨w.heap.size, 5, none⟩ = some (.int .i64 p) ∧ w'.cell? ⟨w.heap.size, 6, none⟩ = some (.int .i64 a0) ∧ w'.cell? ⟨w.heap.size, 7, none⟩ = some (.int .i64 a1) ∧ w'.cell? ⟨w.heap.size, 8, none⟩ = some (.int .i64 a2) ∧ w'.cell? ⟨w.heap.size, 9, none⟩ = some (.int .i64 a3) ∧ w'.cell? ⟨w.heap.size, 10, none⟩ = some (.int .i64 a4) ∧ w'.cell? ⟨w.heap.size, 11, none⟩ = some (.int .i64 a5) ∧ w'.cell? ⟨w.heap.size, 12, none⟩ = some (.int .i64 a6) ∧ w'.cell? ⟨w.heap.size, 13, none⟩ = some (.slice A code.length c) ∧ w'.cell? ⟨w.heap.size, 14, none⟩ = some (.int .i64 v))) (by kernel_rfl) (HK.out _ (Below.refl _ _).drew) (fun hHeld => ?_)
    refine tk_first 0 3 rfl rfl (v := ?_) (by kernel_rfl) (by kernel_rfl) (by kernel_rfl) (fun _ _ _ h => h) (Or.inl ⟨by rfl, ?_⟩) (by assumption) ?_
    rotate_left 1
    focus (intro wS hSw; (try dsimp only at hSw); go_simp; try with_reducible rfl)
    try simp only [Act.put, List.setIfInBounds_toArray, List.set_cons_zero, List.set_cons_succ]
    refine tk_first 1 4 rfl rfl (v := ?_) (by kernel_rfl) (by kernel_rfl) (by kernel_rfl) (fun _ _ _ h => h) (Or.inl ⟨by rfl, ?_⟩) (by assumption) ?_
    rotate_left 1
    focus (intro wS hSw; (try dsimp only at hSw); go_simp; try with_reducible rfl)
    try simp only [Act.put, List.setIfInBounds_toArray, List.set_cons_zero, List.set_cons_succ]
    refine tk_first 2 5 rfl rfl (v := ?_) (by kernel_rfl) (by kernel_rfl) (by kernel_rfl) (fun _ _ _ h => h) (Or.inl ⟨by rfl, ?_⟩) (by assumption) ?_
    rotate_left 1
    focus (intro wS hSw; (try dsimp only at hSw); go_simp; try with_reducible rfl)
    try simp only [Act.put, List.setIfInBounds_toArray, List.set_cons_zero, List.set_cons_succ]
    refine tk_first 3 6 rfl rfl (v := ?_) (by kernel_rfl) (by kernel_rfl) (by kernel_rfl) (fun _ _ _ h => h) (Or.inl ⟨by rfl, ?_⟩) (by assumption) ?_
    rotate_left 1
    focus (intro wS hSw; (try dsimp only at hSw); go_simp; try with_reducible rfl)
    try simp only [Act.put, List.setIfInBounds_toArray, List.set_cons_zero, List.set_cons_succ]
    refine tk_first 4 7 rfl rfl (v := ?_) (by kernel_rfl) (by kernel_rfl) (by kernel_rfl) (fun _ _ _ h => h) (Or.inl ⟨by rfl, ?_⟩) (by assumption) ?_
    rotate_left 1
    focus (intro wS hSw; (try dsimp only at hSw); go_simp; try with_reducible rfl)
    try simp only [Act.put, List.setIfInBounds_toArray, List.set_cons_zero, List.set_cons_succ]
    refine tk_first 5 8 rfl rfl (v := ?_) (by kernel_rfl) (by kernel_rfl) (by kernel_rfl) (fun _ _ _ h => h) (Or.inl ⟨by rfl, ?_⟩) (by assumption) ?_
    rotate_left 1
    focus (intro wS hSw; (try dsimp only at hSw); go_simp; try with_reducible rfl)
    try simp only [Act.put, List.setIfInBounds_toArray, List.set_cons_zero, List.set_cons_succ]
    refine tk_first 6 9 rfl rfl (v := ?_) (by kernel_rfl) (by kernel_rfl) (by kernel_rfl) (fun _ _ _ h => h) (Or.inl ⟨by rfl, ?_⟩) (by assumption) ?_
    rotate_left 1
    focus (intro wS hSw; (try dsimp only at hSw); go_simp; try with_reducible rfl)
    try simp only [Act.put, List.setIfInBounds_toArray, List.set_cons_zero, List.set_cons_succ]
    refine wpAnyH_ready (rs := [7]) (by kernel_rfl) (by simp) ?_
    refine AllReadyH.cons (i := 7) (o := _) rfl (fun K hK => ?_) AllReadyH.nil
    go_simp
    (go_at_call 29; refine (i1.out _ ?_).mono ?_; (first | exact HR.out | exact HR.out.drew); rintro e wa ⟨rfl, hba'⟩; have hba : Below w1.heap.size w1 wa := ⟨hba'.os, hba'.tape, hba'.output, hba'.size, hba'.block⟩; clear hba'; have hqwa := hid (HBLK.out.belowS hba); have HHa := hid hba)
    refine hK.out _ _ (HK.out _ hba) (fun hHeld => ?_)
    clear hK K
    try simp only [Act.put, List.setIfInBounds_toArray, List.set_cons_zero, List.set_cons_succ]
    refine tk_first 8 11 rfl rfl (v := ?_) (by kernel_rfl) (by kernel_rfl) (by kernel_rfl) (fun _ _ _ h => h) (Or.inl ⟨by rfl, ?_⟩) (by assumption) ?_
    rotate_left 1
    focus (intro wS hSw; (try dsimp only at hSw); go_simp; try with_reducible rfl)
    try simp only [Act.put, List.setIfInBounds_toArray, List.set_cons_zero, List.set_cons_succ]
    refine tk_first 9 12 rfl rfl (v := ?_) (by kernel_rfl) (by kernel_rfl) (by kernel_rfl) (fun _ _ _ h => h) (Or.inl ⟨by rfl, ?_⟩) (by assumption) ?_
    rotate_left 1
    focus (intro wS hSw; (try dsimp only at hSw); go_simp; try with_reducible rfl)
    try simp only [Act.put, List.setIfInBounds_toArray, List.set_cons_zero, List.set_cons_succ]
    refine tk_first 10 13 rfl rfl (v := ?_) (by kernel_rfl) (by kernel_rfl) (by kernel_rfl) (fun _ _ _ h => h) (Or.inl ⟨by rfl, ?_⟩) (by assumption) ?_
    rotate_left 1
    focus (intro wS hSw; (try dsimp only at hSw); go_simp; try with_reducible rfl)
    try simp only [Act.put, List.setIfInBounds_toArray, List.set_cons_zero, List.set_cons_succ]
    refine tk_first 11 14 rfl rfl (v := undef) (by kernel_rfl) (by kernel_rfl) (by kernel_rfl) (fun _ _ _ h => h) (Or.inr ⟨by rfl, rfl⟩) (by assumption) ?_
    try simp only [Act.put, List.setIfInBounds_toArray, List.set_cons_zero, List.set_cons_succ]
    refine tk_first 12 15 rfl rfl (v := undef) (by kernel_rfl) (by kernel_rfl) (by kernel_rfl) (fun _ _ _ h => h) (Or.inr ⟨by rfl, rfl⟩) (by assumption) ?_
    try simp only [Act.put, List.setIfInBounds_toArray, List.set_cons_zero, List.set_cons_succ]
    refine tk_first 13 16 rfl rfl (v := undef) (by kernel_rfl) (by kernel_rfl) (by kernel_rfl) (fun _ _ _ h => h) (Or.inr ⟨by rfl, rfl⟩) (by assumption) ?_
    try simp only [Act.put, List.setIfInBounds_toArray, List.set_cons_zero, List.set_cons_succ]
    refine tk_first 14 17 rfl rfl (v := undef) (by kernel_rfl) (by kernel_rfl) (by kernel_rfl) (fun _ _ _ h => h) (Or.inr ⟨by rfl, rfl⟩) (by assumption) ?_
    try simp only [Act.put, List.setIfInBounds_toArray, List.set_cons_zero, List.set_cons_succ]
    refine tk_first 15 18 rfl rfl (v := undef) (by kernel_rfl) (by kernel_rfl) (by kernel_rfl) (fun _ _ _ h => h) (Or.inr ⟨by rfl, rfl⟩) (by assumption) ?_
    try simp only [Act.put, List.setIfInBounds_toArray, List.set_cons_zero, List.set_cons_succ]
    refine tk_first 16 19 rfl rfl (v := undef) (by kernel_rfl) (by kernel_rfl) (by kernel_rfl) (fun _ _ _ h => h) (Or.inr ⟨by rfl, rfl⟩) (by assumption) ?_
    try simp only [Act.put, List.setIfInBounds_toArray, List.set_cons_zero, List.set_cons_succ]
    refine tk_first 17 20 rfl rfl (v := undef) (by kernel_rfl) (by kernel_rfl) (by kernel_rfl) (fun _ _ _ h => h) (Or.inr ⟨by rfl, rfl⟩) (by assumption) ?_
    try simp only [Act.put, List.setIfInBounds_toArray, List.set_cons_zero, List.set_cons_succ]
    refine tk_first 18 21 rfl rfl (v := undef) (by kernel_rfl) (by kernel_rfl) (by kernel_rfl) (fun _ _ _ h => h) (Or.inr ⟨by rfl, rfl⟩) (by assumption) ?_
    try simp only [Act.put, List.setIfInBounds_toArray, List.set_cons_zero, List.set_cons_succ]
    refine tk_first 19 22 rfl rfl (v := undef) (by kernel_rfl) (by kernel_rfl) (by kernel_rfl) (fun _ _ _ h => h) (Or.inr ⟨by rfl, rfl⟩) (by assumption) ?_
    try simp only [Act.put, List.setIfInBounds_toArray, List.set_cons_zero, List.set_cons_succ]
    refine tk_first 20 23 rfl rfl (v := undef) (by kernel_rfl) (by kernel_rfl) (by kernel_rfl) (fun _ _ _ h => h) (Or.inr ⟨by rfl, rfl⟩) (by assumption) ?_
    try simp only [Act.put, List.setIfInBounds_toArray, List.set_cons_zero, List.set_cons_succ]
    refine tk_first 21 24 rfl rfl (v := ?_) (by kernel_rfl) (by kernel_rfl) (by kernel_rfl) (fun _ _ _ h => h) (Or.inl ⟨by rfl, ?_⟩) (by assumption) ?_
    rotate_left 1
    focus (intro wS hSw; (try dsimp only at hSw); go_simp; try with_reducible rfl)
    try simp only [Act.put, List.setIfInBounds_toArray, List.set_cons_zero, List.set_cons_succ]
    refine tk_first 22 2 rfl rfl (v := ?_) (by kernel_rfl) (by kernel_rfl) (by kernel_rfl) (fun _ _ _ h => h) (Or.inl ⟨by rfl, ?_⟩) (by assumption) ?_
    rotate_left 1
    focus (intro wS hSw; (try dsimp only at hSw); go_simp; try with_reducible rfl)
    try simp only [Act.put, List.setIfInBounds_toArray, List.set_cons_zero, List.set_cons_succ]
    refine wpAnyH_done (by kernel_rfl) ?_ _
    have hfin := hid (bel_trans HB1.out HHa.out)
    go_wp2_with fail
    go_ret
    exact ⟨rfl, hfin.out⟩
end Go.Proofs.Ythnifgcoikmihaa
