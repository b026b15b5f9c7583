/-
  What instructions do: memory and jumps.
-/
import Derived.Test.YtidlahljhgglcaaGreatVmDeeds
import Derived.StillTailTactics
import Derived.Deep.RegionHeld3
namespace Go.Proofs.YtidlahljhgglcaaGreat
open Go.RowKit Go.ChangeShapes Go.WideShapes Go.ChangeAt

section
variable {w w' : World} {F : Nat → Prop} {h g gs : Nat} {i : ImgS} {a : VmA} {cs : List ChanS} {pc ticks fault arg : Int} {Ao : Option Addr} {cO : Nat} {d : VmD}
theorem TickAt.word (t : TickAt w F h g gs i cs pc ticks fault arg d) {k : Nat} (hk : k < d.mem.length) : ∃ am cM, w.cell? ⟨g, 10, none⟩ = some (.slice (some ⟨am, 0, none⟩) d.mem.length cM) ∧ w.cell? ⟨am, k, none⟩ = some (.int .i64 (d.mem.getD k 0)) ∧ am ≠ h ∧ am ≠ g ∧
    ∀ w' : World, w.heap.size ≤ w'.heap.size → (∀ b, F b → w'.heap[b]? = w.heap[b]?) → w'.frozen? ⟨am, k, none⟩ = false ∧ ∀ x, TickAt (w'.setCell ⟨am, k, none⟩ (.int .i64 x)) F h g gs i cs pc ticks fault arg { d with mem := d.mem.set k x } ∧ Goes F w' F (w'.setCell ⟨am, k, none⟩ (.int .i64 x)) := by
  obtain ⟨a, Ao, cO, F2, m, r, hs, ha, hF⟩ := t
  have hk' : k < (machS pc ticks fault d).mem.length := hk
  obtain ⟨am, hAm, hlt⟩ := m.me.form (by omega)
  have hme := m.me
  rw [hAm] at hme
  have hfa : Foot a.Am am := ⟨_, hAm, rfl⟩
  refine ⟨am, a.cM, ?_, ?_, fun e => r.apart m (.inl e) (.inr (.inr (.inr hfa))), fun e => m.off.2.2 (e ▸ hfa), fun w' hsz hkeep => ?_⟩
  · rw [← hAm]; exact m.blk.cellAt rfl
  · exact hme.cell (by rw [List.getElem?_map, List.getElem?_eq_getElem hk', List.getD_eq_getElem?_getD, List.getElem?_eq_getElem (show k < d.mem.length from hk)]; rfl)
  · have m' : MachIn w' g i a (machS pc ticks fault d) := m.keep fun b hb => hkeep b ((hF b).2 (.inl hb))
    have r' : RunIn w' h g gs arg Ao cO d := r.keep fun b hb => hkeep b ((hF b).2 (.inr (.inl hb)))
    have hme' := m'.me
    rw [hAm] at hme'
    refine ⟨hme'.frozen k, fun x => ?_⟩
    have hw := m'.word hAm k x
    have hk2 : ∀ b, b ≠ am → (w'.setCell ⟨am, k, none⟩ (iV x)).heap[b]? = w'.heap[b]? := fun b hb => Below.heap_setCell _ _ _ _ hb
    have hFa : F am := (hF am).2 (.inl (.inr (.inr (.inr hfa))))
    have hs' : SetAt (w'.setCell ⟨am, k, none⟩ (iV x)) F2 gs cs d.ss := by
      refine (hs.keep hsz (fun b hb => hkeep b ((hF b).2 (.inr (.inr hb))))).keep (by simp [World.setCell]) (fun b hb => hk2 b (fun e => (ha b hb).1 (e ▸ (.inr (.inr (.inr hfa))))))
    refine ⟨⟨a, Ao, cO, F2, hw.1, ?_, hs', ha, hF⟩, ⟨(Apart.refl _ _).setCell (.inl hFa) _, fun _ h9 => .inl h9⟩⟩
    have rk := r'.keep (w' := w'.setCell ⟨am, k, none⟩ (iV x)) fun b hb => hk2 b (fun e => r'.apart m' (e ▸ hb) (.inr (.inr (.inr hfa))))
    exact ⟨rk.blk, rk.out⟩
theorem TickAt.drew (t : TickAt w F h g gs i cs pc ticks fault arg d) : TickAt w.drew F h g gs i cs pc ticks fault arg d := t.belowS ⟨rfl, rfl, rfl, Nat.le_refl _, fun _ _ => rfl⟩
theorem bel_drewD (w : World) (q : Nat) : Below w.heap.size w (w.drewN q).drew := ⟨rfl, rfl, rfl, Nat.le_refl _, fun _ _ => rfl⟩
set_option maxRecDepth 100000 in
theorem deed_load (t : TickAt w F h g gs i cs pc ticks fault arg d) (hl : d.stack.length ≤ 100) (_ : d.mem.length ≤ 1000) (ha0 : 0 ≤ arg) :
    Calls Tryz.prog 70 #[.pointer (some ⟨h, 0, none⟩)] w (DPost F w h g gs i cs pc ticks fault arg (deedF i cs ticks 10 arg d)) := by
  obtain ⟨k, rfl⟩ : ∃ k : Nat, arg = (k : Int) := ⟨arg.toNat, by omega⟩
  obtain ⟨a, Ao, cO, c0, c1, c2, c3, c4, c5, g0, g5, g6, g7, g10, g11, hf⟩ := t.cells
  have T := hid t
  by_cases hk : (d.mem.length : Int) ≤ (k : Int)
  · have ir : Hid (deedF i cs ticks 10 (k : Int) d = (3, d)) := hid (if_pos hk)
    have y0 : decide ((d.mem.length : Int) ≤ (k : Int)) = true := decide_eq_true hk
    have y0' : decide (d.mem.length ≤ k) = true := decide_eq_true (by omega)
    clear hk t hf
    go_enter Tryz.func70, Tryz.ntmps70
    go_wp2_with fail
    go_quiet (fail)
    go_wp2_with fail
    go_ret
    rw [ir.out]
    exact DPost.same T.out rfl (below_drewS _)
  have hkl : k < d.mem.length := by omega
  have y0 : decide ((d.mem.length : Int) ≤ (k : Int)) = false := decide_eq_false hk
  have y0' : decide (d.mem.length ≤ k) = false := decide_eq_false (by omega)
  have x0 : (0 : Int) ≤ (k : Int) := Int.natCast_nonneg _
  have x1 : (k : Int) < (d.mem.length : Int) := by omega
  obtain ⟨am, cM, g10', gk, hne1, hne2, hall⟩ := t.word hkl
  have ir : Hid (deedF i cs ticks 10 (k : Int) d = onF 0 [d.mem.getD k 0] d) := hid (by show (if _ then _ else _) = _; rw [if_neg hk, Int.toNat_natCast])
  have iL := hid (fun W (tW : TickAt W F h g gs i cs pc ticks fault (k : Int) d) => lay_any tW hl (d.mem.getD k 0))
  generalize onF 0 [d.mem.getD k 0] d = r at iL ir
  generalize d.mem.getD k 0 = x at gk iL
  clear t hf hall hk g10
  go_enter Tryz.func70, Tryz.ntmps70
  go_wp2_with fail
  go_quiet (fail)
  go_wp2_with fail
  obtain ⟨w1, hw1⟩ : ∃ w1, w.drewN nq = w1 := ⟨_, rfl⟩
  have hb1 : Below w.heap.size w w1 := by rw [← hw1]; exact below_drewS nq
  have hk1 : ∀ b : Nat, w1.heap[b]? = w.heap[b]? := fun b => by rw [← hw1]; rfl
  have T1 := hid (T.out.belowS hb1)
  have HB1 := hid hb1
  have e0 : w1.cell? ⟨h, 0, none⟩ = some (.pointer (some ⟨g, 0, none⟩)) := (World.cell?_of_block (hk1 h)).trans c0
  have e2 : w1.cell? ⟨h, 2, none⟩ = some (.int .i64 (k : Int)) := (World.cell?_of_block (hk1 h)).trans c2
  have e10 : w1.cell? ⟨g, 10, none⟩ = some (.slice (some ⟨am, 0, none⟩) d.mem.length cM) := (World.cell?_of_block (hk1 g)).trans g10'
  have ek : w1.cell? ⟨am, k, none⟩ = some (.int .i64 x) := (World.cell?_of_block (hk1 am)).trans gk
  rw [hw1]
  clear hw1 hb1 hk1 c0 c1 c2 c3 c4 c5 g0 g5 g6 g7 g11 g10' gk
  go_still_tail 15, (by kernel_rfl)
  go_wp2_with fail
  refine (iL.out _ T1.out.drew).mono ?_
  rintro e w2 ⟨F', rfl, ht, hg⟩
  have K := hid (And.intro ht hg)
  clear ht hg
  go_wp2_with fail
  go_ret
  rw [ir.out]
  exact ⟨F', rfl, K.out.1, ((Goes.of_below HB1.out).trans (Goes.of_below (w' := w1.drew) ⟨rfl, rfl, rfl, Nat.le_refl _, fun _ _ => rfl⟩)).trans K.out.2⟩
set_option maxRecDepth 100000 in
theorem deed_jump (t : TickAt w F h g gs i cs pc ticks fault arg d) (_ : d.stack.length ≤ 100) (ha0 : 0 ≤ arg) :
    Calls Tryz.prog 72 #[.pointer (some ⟨h, 0, none⟩)] w (DPost F w h g gs i cs pc ticks fault arg (deedF i cs ticks 12 arg d)) := by
  obtain ⟨k, rfl⟩ : ∃ k : Nat, arg = (k : Int) := ⟨arg.toNat, by omega⟩
  obtain ⟨a, Ao, cO, c0, c1, c2, c3, c4, c5, g0, g5, g6, g7, g10, g11, hf⟩ := t.cells
  have T := hid t
  by_cases hk : (i.code.length : Int) ≤ (k : Int)
  · have ir : Hid (deedF i cs ticks 12 (k : Int) d = (3, d)) := hid (if_pos hk)
    have y0 : decide ((i.code.length : Int) ≤ (k : Int)) = true := decide_eq_true hk
    have y0' : decide (i.code.length ≤ k) = true := decide_eq_true (by omega)
    clear hk t hf
    go_enter Tryz.func72, Tryz.ntmps72
    go_wp2_with fail
    go_quiet (fail)
    go_wp2_with fail
    go_ret
    rw [ir.out]
    exact DPost.same T.out rfl (below_drewS _)
  have hkl : k < i.code.length := by omega
  have y0 : decide ((i.code.length : Int) ≤ (k : Int)) = false := decide_eq_false hk
  have y0' : decide (i.code.length ≤ k) = false := decide_eq_false (by omega)
  have x0 : (0 : Int) ≤ (k : Int) := Int.natCast_nonneg _
  have x1 : (k : Int) < (i.code.length : Int) := by omega
  have ir : Hid (deedF i cs ticks 12 (k : Int) d = (0, { d with next := (k : Int) })) := hid (if_neg hk)
  have f0 := hf 3
  clear t hf hk
  go_enter Tryz.func72, Tryz.ntmps72
  go_wp2_with fail
  go_quiet (fail)
  go_wp2_with fail
  go_ret
  rw [ir.out]
  have hs := (T.out.drewN nq).runSet (k := 3) (v := .int .i64 (k : Int)) (d' := { d with next := (k : Int) }) (arg' := (k : Int)) rfl rfl rfl rfl (fun _ _ => rfl)
  exact ⟨F, rfl, hs.1, (Goes.of_below (below_drewS nq)).trans hs.2⟩
set_option maxRecDepth 100000 in
theorem deed_zero (t : TickAt w F h g gs i cs pc ticks fault arg d) (hl : d.stack.length ≤ 100) (ha0 : 0 ≤ arg) :
    Calls Tryz.prog 73 #[.pointer (some ⟨h, 0, none⟩)] w (DPost F w h g gs i cs pc ticks fault arg (deedF i cs ticks 13 arg d)) := by
  obtain ⟨k, rfl⟩ : ∃ k : Nat, arg = (k : Int) := ⟨arg.toNat, by omega⟩
  obtain ⟨a, Ao, cO, c0, c1, c2, c3, c4, c5, g0, g5, g6, g7, g10, g11, hf⟩ := t.cells
  have T := hid t
  by_cases hk : (i.code.length : Int) ≤ (k : Int)
  · have ir : Hid (deedF i cs ticks 13 (k : Int) d = (3, d)) := hid (if_pos hk)
    have y0 : decide ((i.code.length : Int) ≤ (k : Int)) = true := decide_eq_true hk
    have y0' : decide (i.code.length ≤ k) = true := decide_eq_true (by omega)
    clear hk t hf
    go_enter Tryz.func73, Tryz.ntmps73
    go_wp2_with fail
    go_quiet (fail)
    go_wp2_with fail
    go_ret
    rw [ir.out]
    exact DPost.same T.out rfl (below_drewS _)
  have hkl : k < i.code.length := by omega
  have y0 : decide ((i.code.length : Int) ≤ (k : Int)) = false := decide_eq_false hk
  have y0' : decide (i.code.length ≤ k) = false := decide_eq_false (by omega)
  have x0 : (0 : Int) ≤ (k : Int) := Int.natCast_nonneg _
  have x1 : (k : Int) < (i.code.length : Int) := by omega
  have I1 := hid (fun q => (t.drewN q).fits hl 1 0 1 0 rfl rfl (by omega) (by omega))
  obtain ⟨E, hE⟩ : ∃ E, fitsE d.stack.length 1 0 = E := ⟨_, rfl⟩
  rw [hE] at I1
  by_cases h0 : E = 0
  · subst h0
    have hlen := (fits_ok hE).1
    have ir : Hid (deedF i cs ticks 13 (k : Int) d = (0, { d with stack := swapV d.stack 1 [], next := if topV d.stack 0 = 0 then (k : Int) else d.next })) := hid (by show (if _ then _ else _) = _; rw [if_neg hk]; exact if_pos hE)
    have f0 := hf 3
    obtain ⟨x0', hx0⟩ : ∃ x, topV d.stack 0 = x := ⟨_, rfl⟩
    have j0 := hid (fun q => (T.out.drewN q).top hl 0 0 rfl (by omega))
    rw [hx0] at j0 ir
    clear hx0 hE t hf hk
    by_cases hz : x0' = 0
    · subst hz
      rw [if_pos rfl] at ir
      go_enter Tryz.func73, Tryz.ntmps73
      go_wp2_with fail
      go_quiet (fail)
      go_wp2_with fail
      refine (I1.out _).mono ?_
      rintro e w1 ⟨rfl, rfl⟩
      go_wp2_with fail
      refine (j0.out _).mono ?_
      rintro e w2 ⟨rfl, q1, hq1⟩
      have hb2 : Below w.heap.size w w2 := by rw [hq1]; exact ⟨rfl, rfl, rfl, Nat.le_refl _, fun _ _ => rfl⟩
      have T2 := hid (T.out.belowS hb2)
      have HB2 := hid hb2
      clear hb2 hq1 c0 c1 c2 c3 c4 c5 f0
      obtain ⟨a2, Ao2, cO2, c0, c1, c2, c3, c4, c5, _, _, _, _, _, _, hf⟩ := T2.out.cells
      have f0 := hf 3
      clear hf
      go_wp2_with fail
      have hs := T2.out.runSet (k := 3) (v := .int .i64 (k : Int)) (d' := { d with next := (k : Int) }) (arg' := (k : Int)) rfl rfl rfl rfl (fun _ _ => rfl)
      have HS := hid hs
      clear hs c0 c1 c2 c3 c4 c5 f0
      generalize w2.setCell ⟨h, 3, none⟩ (.int .i64 (k : Int)) = w3 at HS ⊢
      refine (HS.out.1.swap hl 1 1 rfl hlen [] none 0 0 rfl (by omega) Reads.empty).mono ?_
      rintro e w4 ⟨rfl, F', ht, hg⟩
      have K := hid (And.intro ht hg)
      clear ht hg
      go_wp2_with fail
      go_ret
      rw [ir.out]
      exact ⟨F', rfl, K.out.1, ((Goes.of_below HB2.out).trans HS.out.2).trans K.out.2⟩
    · have hz' : (x0' == 0) = false := by simpa using hz
      rw [if_neg hz] at ir
      clear hz
      go_enter Tryz.func73, Tryz.ntmps73
      go_wp2_with fail
      go_quiet (fail)
      go_wp2_with fail
      refine (I1.out _).mono ?_
      rintro e w1 ⟨rfl, rfl⟩
      go_wp2_with fail
      refine (j0.out _).mono ?_
      rintro e w2 ⟨rfl, q1, hq1⟩
      have hb2 : Below w.heap.size w w2 := by rw [hq1]; exact ⟨rfl, rfl, rfl, Nat.le_refl _, fun _ _ => rfl⟩
      have T2 := hid (T.out.belowS hb2)
      have HB2 := hid hb2
      clear hb2 hq1 c0 c1 c2 c3 c4 c5 f0
      go_wp2_with fail
      refine (T2.out.swap hl 1 1 rfl hlen [] none 0 0 rfl (by omega) Reads.empty).mono ?_
      rintro e w4 ⟨rfl, F', ht, hg⟩
      have K := hid (And.intro ht hg)
      clear ht hg
      go_wp2_with fail
      go_ret
      rw [ir.out]
      exact ⟨F', rfl, K.out.1, (Goes.of_below HB2.out).trans K.out.2⟩
  · have ir : Hid (deedF i cs ticks 13 (k : Int) d = (E, d)) := hid (by have e0 : ¬ (fitsE d.stack.length 1 0 = 0) := (by rw [hE]; exact h0); rw [← hE]; show (if _ then _ else _) = _; rw [if_neg hk]; exact if_neg e0)
    have y1 : (E == 0) = false := by simpa using h0
    clear hE h0 t hf hk
    go_enter Tryz.func73, Tryz.ntmps73
    go_wp2_with fail
    go_quiet (fail)
    go_wp2_with fail
    refine (I1.out _).mono ?_
    rintro e w1 ⟨rfl, rfl⟩
    go_wp2_with fail
    go_ret
    rw [ir.out]
    exact DPost.same T.out rfl (below_drewS _)
set_option maxRecDepth 100000 in
theorem deed_store (t : TickAt w F h g gs i cs pc ticks fault arg d) (hl : d.stack.length ≤ 100) (_ : d.mem.length ≤ 1000) (ha0 : 0 ≤ arg) :
    Calls Tryz.prog 71 #[.pointer (some ⟨h, 0, none⟩)] w (DPost F w h g gs i cs pc ticks fault arg (deedF i cs ticks 11 arg d)) := by
  obtain ⟨k, rfl⟩ : ∃ k : Nat, arg = (k : Int) := ⟨arg.toNat, by omega⟩
  obtain ⟨a, Ao, cO, c0, c1, c2, c3, c4, c5, g0, g5, g6, g7, g10, g11, hf⟩ := t.cells
  have T := hid t
  by_cases hk : (d.mem.length : Int) ≤ (k : Int)
  · have ir : Hid (deedF i cs ticks 11 (k : Int) d = (3, d)) := hid (if_pos hk)
    have y0 : decide ((d.mem.length : Int) ≤ (k : Int)) = true := decide_eq_true hk
    have y0' : decide (d.mem.length ≤ k) = true := decide_eq_true (by omega)
    clear hk t hf
    go_enter Tryz.func71, Tryz.ntmps71
    go_wp2_with fail
    go_quiet (fail)
    go_wp2_with fail
    go_ret
    rw [ir.out]
    exact DPost.same T.out rfl (below_drewS _)
  have hkl : k < d.mem.length := by omega
  have y0 : decide ((d.mem.length : Int) ≤ (k : Int)) = false := decide_eq_false hk
  have y0' : decide (d.mem.length ≤ k) = false := decide_eq_false (by omega)
  have x0 : (0 : Int) ≤ (k : Int) := Int.natCast_nonneg _
  have x1 : (k : Int) < (d.mem.length : Int) := by omega
  have I1 := hid (fun q => (t.drewN q).fits hl 1 0 1 0 rfl rfl (by omega) (by omega))
  obtain ⟨E, hE⟩ : ∃ E, fitsE d.stack.length 1 0 = E := ⟨_, rfl⟩
  rw [hE] at I1
  by_cases h0 : E = 0
  · subst h0
    have hlen := (fits_ok hE).1
    have ir : Hid (deedF i cs ticks 11 (k : Int) d = (0, { d with stack := swapV d.stack 1 [], mem := d.mem.set k (topV d.stack 0) })) := hid (by show (if _ then _ else _) = _; rw [if_neg hk, Int.toNat_natCast]; exact if_pos hE)
    obtain ⟨am, cM, g10', gk, hne1, hne2, hall⟩ := t.word hkl
    obtain ⟨x0', hx0⟩ : ∃ x, topV d.stack 0 = x := ⟨_, rfl⟩
    have j0 := hid (fun W (tW : TickAt W F h g gs i cs pc ticks fault (k : Int) d) => tW.top hl 0 0 rfl (by omega))
    rw [hx0] at ir
    simp only [hx0] at j0
    have HA := hid hall
    clear hx0 hE t hf hk hall g10
    go_enter Tryz.func71, Tryz.ntmps71
    go_wp2_with fail
    go_quiet (fail)
    go_wp2_with fail
    refine (I1.out _).mono ?_
    rintro e w1 ⟨rfl, rfl⟩
    go_wp2_with fail
    obtain ⟨w1, hw1⟩ : ∃ w1, w.drewN nq = w1 := ⟨_, rfl⟩
    have hb1 : Below w.heap.size w w1 := by rw [← hw1]; exact below_drewS nq
    have hk1 : ∀ b : Nat, w1.heap[b]? = w.heap[b]? := fun b => by rw [← hw1]; rfl
    have T1 := hid (T.out.belowS hb1)
    have HB1 := hid hb1
    have HK1 := hid hk1
    have e0 : w1.cell? ⟨h, 0, none⟩ = some (.pointer (some ⟨g, 0, none⟩)) := (World.cell?_of_block (hk1 h)).trans c0
    have e2 : w1.cell? ⟨h, 2, none⟩ = some (.int .i64 (k : Int)) := (World.cell?_of_block (hk1 h)).trans c2
    have e10 : w1.cell? ⟨g, 10, none⟩ = some (.slice (some ⟨am, 0, none⟩) d.mem.length cM) := (World.cell?_of_block (hk1 g)).trans g10'
    have ek : w1.cell? ⟨am, k, none⟩ = some (.int .i64 (d.mem.getD k 0)) := (World.cell?_of_block (hk1 am)).trans gk
    have ef : w1.frozen? ⟨am, k, none⟩ = false := (HA.out w1 hb1.size (fun b _ => hk1 b)).1
    rw [hw1]
    have hn1 : h ≠ am := fun e => hne1 e.symm
    have hn2 : g ≠ am := fun e => hne2 e.symm
    clear hw1 hb1 hk1 c0 c1 c2 c3 c4 c5 g0 g5 g6 g7 g11 g10' gk
    go_region_held3 (fun w' => w'.cell? ⟨h, 0, none⟩ = some (.pointer (some ⟨g, 0, none⟩)) ∧ w'.cell? ⟨h, 2, none⟩ = some (.int .i64 (k : Int)) ∧ w'.cell? ⟨g, 10, none⟩ = some (.slice (some ⟨am, 0, none⟩) d.mem.length cM) ∧ w'.frozen? ⟨am, k, none⟩ = false) (go_keep)
      (first | (go_at_call 90; refine (j0.out _ ?_).mono ?_; (first | exact T1.out | exact T1.out.belowS ⟨rfl, rfl, rfl, Nat.le_refl _, fun _ _ => rfl⟩); rintro e w2 ⟨rfl, q1, hq1⟩; have hk2 : ∀ b : Nat, w2.heap[b]? = w1.heap[b]? := (fun b => by rw [hq1]; rfl); have hs2 : w2.heap.size = w1.heap.size := (by rw [hq1]; rfl); have hb2 : Below w1.heap.size w1 w2 := (by rw [hq1]; exact ⟨rfl, rfl, rfl, Nat.le_refl _, fun _ _ => rfl⟩); have HB2 := hid hb2; have HK2 := hid hk2; have u0 : w2.cell? ⟨h, 0, none⟩ = some (.pointer (some ⟨g, 0, none⟩)) := (World.cell?_of_block (hk2 h)).trans e0; have u2 : w2.cell? ⟨h, 2, none⟩ = some (.int .i64 (k : Int)) := (World.cell?_of_block (hk2 h)).trans e2; have u10 : w2.cell? ⟨g, 10, none⟩ = some (.slice (some ⟨am, 0, none⟩) d.mem.length cM) := (World.cell?_of_block (hk2 g)).trans e10; have uk : w2.cell? ⟨am, k, none⟩ = some (.int .i64 (d.mem.getD k 0)) := (World.cell?_of_block (hk2 am)).trans ek; have uf : w2.frozen? ⟨am, k, none⟩ = false := (HA.out w2 (Nat.le_trans HB1.out.size hb2.size) (fun b _ => (hk2 b).trans (HK1.out b))).1; clear hq1 hk2 hs2 hb2))
    have hW := (HA.out w2 (Nat.le_trans HB1.out.size HB2.out.size) (fun b _ => (HK2.out b).trans (HK1.out b))).2 x0'
    have HW := hid hW
    clear hW u0 u2 u10 uk uf e0 e2 e10 ek ef hne1 hne2 hn1 hn2
    go_wp2_with fail
    refine (HW.out.1.swap hl 1 1 rfl hlen [] none 0 0 rfl (by omega) Reads.empty).mono ?_
    rintro e w4 ⟨rfl, F', ht, hg⟩
    have K := hid (And.intro ht hg)
    clear ht hg
    go_wp2_with fail
    go_ret
    rw [ir.out]
    exact ⟨F', rfl, K.out.1, (((Goes.of_below HB1.out).trans (Goes.of_below HB2.out)).trans HW.out.2).trans K.out.2⟩
  · have ir : Hid (deedF i cs ticks 11 (k : Int) d = (E, d)) := hid (by have e0 : ¬ (fitsE d.stack.length 1 0 = 0) := (by rw [hE]; exact h0); rw [← hE]; show (if _ then _ else _) = _; rw [if_neg hk]; exact if_neg e0)
    have y1 : (E == 0) = false := by simpa using h0
    clear hE h0 t hf hk
    go_enter Tryz.func71, Tryz.ntmps71
    go_wp2_with fail
    go_quiet (fail)
    go_wp2_with fail
    refine (I1.out _).mono ?_
    rintro e w1 ⟨rfl, rfl⟩
    go_wp2_with fail
    go_ret
    rw [ir.out]
    exact DPost.same T.out rfl (below_drewS _)
end
end Go.Proofs.YtidlahljhgglcaaGreat
