/-
  What instructions do: those without channels.
-/
import Derived.Test.YtidlahljhgglcaaGreatVmOps
import Derived.Test.YtidlahljhgglcaaGreatVmFine
import Derived.StillTailTactics
import Derived.Deep.RegionHeld3
namespace Go.Proofs.YtidlahljhgglcaaGreat
open Go.RowKit Go.ChangeShapes Go.WideShapes Go.ChangeAt

section
variable {w w' : World} {F : Nat → Prop} {h g gs : Nat} {i : ImgS} {a : VmA} {cs : List ChanS} {pc ticks fault arg : Int} {Ao : Option Addr} {cO : Nat} {d : VmD}
theorem TickAt.fits (t : TickAt w F h g gs i cs pc ticks fault arg d) (hl : d.stack.length ≤ 100) (take lay : Nat) (tI lI : Int) (ht : tI = take) (hy : lI = lay) (h1 : take ≤ 8) (h2 : lay ≤ 8) :
    Calls Tryz.prog 88 #[.pointer (some ⟨h, 0, none⟩), .int .i64 tI, .int .i64 lI] w fun e w' => e = .returned (.int .i64 (fitsE d.stack.length take lay)) ∧ w' = w := by
  obtain ⟨a, Ao, cO, F2, m, r, _⟩ := t
  exact fits_any m r hl take lay tI lI ht hy h1 h2
theorem TickAt.top (t : TickAt w F h g gs i cs pc ticks fault arg d) (hl : d.stack.length ≤ 100) (k : Nat) (kI : Int) (hk : kI = k) (hkl : k < d.stack.length) :
    Calls Tryz.prog 90 #[.pointer (some ⟨h, 0, none⟩), .int .i64 kI] w fun e w' => e = .returned (.int .i64 (topV d.stack k)) ∧ ∃ q, w' = w.drewN q := by
  obtain ⟨a, Ao, cO, F2, m, r, _⟩ := t
  exact top_any m r hl k kI hk hkl
theorem TickAt.swap (t : TickAt w F h g gs i cs pc ticks fault arg d) (hl : d.stack.length ≤ 100) (take : Nat) (tI : Int) (htI : tI = take) (ht : take ≤ d.stack.length) (lay : List Int) (A2 : Option Addr) (n2 c2 : Nat) (hn2 : lay.length = n2) (h2 : n2 ≤ 2) (hr : Reads w w.heap.size 1 A2 n2 (lay.map iV)) :
    Calls Tryz.prog 89 #[.pointer (some ⟨h, 0, none⟩), .int .i64 tI, .slice A2 n2 c2] w fun e w' => e = .returned (.tuple #[]) ∧ ∃ F', TickAt w' F' h g gs i cs pc ticks fault arg { d with stack := swapV d.stack take lay } ∧ Goes F w F' w' := by
  obtain ⟨a, Ao, cO, F2, m, r, h3, h4, h5⟩ := t
  refine (swap_any m r hl take tI htI ht lay A2 n2 c2 hn2 h2 hr).mono ?_
  rintro e w' ⟨rfl, a', hm, hg⟩
  exact ⟨rfl, TickAt.mach (d' := { d with stack := swapV d.stack take lay }) (pc' := pc) (ticks' := ticks) (fault' := fault) m r h3 h4 h5 hm hg rfl rfl rfl rfl⟩
theorem TickAt.cells (t : TickAt w F h g gs i cs pc ticks fault arg d) : ∃ a Ao cO, w.cell? ⟨h, 0, none⟩ = some (.pointer (some ⟨g, 0, none⟩)) ∧ w.cell? ⟨h, 1, none⟩ = some (.iface 31 (.pointer (some ⟨gs, 0, none⟩))) ∧ w.cell? ⟨h, 2, none⟩ = some (.int .i64 arg) ∧ w.cell? ⟨h, 3, none⟩ = some (.int .i64 d.next) ∧ w.cell? ⟨h, 4, none⟩ = some (.slice Ao d.sent.length cO) ∧ w.cell? ⟨h, 5, none⟩ = some (.bool d.conf) ∧
    w.cell? ⟨g, 0, none⟩ = some (.int .i64 i.part) ∧ w.cell? ⟨g, 5, none⟩ = some (.int .i64 i.sends) ∧ w.cell? ⟨g, 6, none⟩ = some (.int .i64 i.recvs) ∧ w.cell? ⟨g, 7, none⟩ = some (.slice (VmA.Ac a) i.code.length a.cc) ∧ w.cell? ⟨g, 10, none⟩ = some (.slice a.Am d.mem.length a.cM) ∧ w.cell? ⟨g, 11, none⟩ = some (.int .i64 ticks) ∧ (∀ k, w.frozen? ⟨h, k, none⟩ = false) := by
  obtain ⟨a, Ao, cO, F2, m, r, _⟩ := t
  exact ⟨a, Ao, cO, r.blk.cellAt rfl, r.blk.cellAt rfl, r.blk.cellAt rfl, r.blk.cellAt rfl, r.blk.cellAt rfl, r.blk.cellAt rfl, m.blk.cellAt rfl, m.blk.cellAt rfl, m.blk.cellAt rfl, m.blk.cellAt rfl, m.blk.cellAt rfl, m.blk.cellAt rfl, fun k => r.blk.frozen k⟩
/-- A word of a tick's own. -/
theorem TickAt.runSet (t : TickAt w F h g gs i cs pc ticks fault arg d) {k : Nat} {v : Value} {d' : VmD} {arg' : Int} (h1 : d'.stack = d.stack) (h2 : d'.mem = d.mem) (h3 : d'.sent = d.sent) (h4 : d'.ss = d.ss) (hr : ∀ Ao cO, (runC g gs arg d.next Ao d.sent.length cO d.conf).set k v = runC g gs arg' d'.next Ao d.sent.length cO d'.conf) :
    TickAt (w.setCell ⟨h, k, none⟩ v) F h g gs i cs pc ticks fault arg' d' ∧ Goes F w F (w.setCell ⟨h, k, none⟩ v) := by
  obtain ⟨a, Ao, cO, F2, m, r, hs, ha, hF⟩ := t
  have hk : ∀ b, b ≠ h → (w.setCell ⟨h, k, none⟩ v).heap[b]? = w.heap[b]? := fun b hb => Below.heap_setCell _ _ _ _ hb
  have hms : machS pc ticks fault d' = machS pc ticks fault d := by unfold machS; rw [h1, h2]
  refine ⟨⟨a, Ao, cO, F2, ?_, ⟨?_, ?_⟩, ?_, ha, hF⟩, ⟨(Apart.refl _ _).setCell (.inl ((hF h).2 (.inr (.inl (.inl rfl))))) _, fun _ h9 => .inl h9⟩⟩
  · rw [hms]
    exact m.keep fun b hb => hk b (fun e => r.apart m (.inl e) hb)
  · have := r.blk.set_ k v
    rw [hr Ao cO] at this
    rw [h3]
    exact this
  · rw [h3]
    exact own_keep r.out fun b hb => hk b (fun e => r.off (e ▸ hb))
  · rw [h4]
    exact hs.keep (by simp [World.setCell]) fun b hb => hk b (fun e => (ha b hb).2 (.inl e))
theorem lit1V (w : World) (x : Int) : Reads (w.alloc (.cells #[.int .i64 x] 3)) (w.alloc (.cells #[.int .i64 x] 3)).heap.size 1 (some ⟨w.heap.size, 0, none⟩) 1 ([x].map iV) := Reads.lit (heap_alloc_new w _) rfl
theorem lit2V (w : World) (x y : Int) : Reads (w.alloc (.cells #[.int .i64 x, .int .i64 y] 3)) (w.alloc (.cells #[.int .i64 x, .int .i64 y] 3)).heap.size 1 (some ⟨w.heap.size, 0, none⟩) 2 ([x, y].map iV) := Reads.lit (heap_alloc_new w _) rfl
theorem DPost.trans {F' : Nat → Prop} {r : Int × VmD} {w1 : World} {e : Ending} (hg : Goes F w F' w1) (hp : DPost F' w1 h g gs i cs pc ticks fault arg r e w') : DPost F w h g gs i cs pc ticks fault arg r e w' := by
  obtain ⟨F2, he, ht, hg2⟩ := hp
  exact ⟨F2, he, ht, hg.trans hg2⟩
theorem TickAt.drewN (t : TickAt w F h g gs i cs pc ticks fault arg d) (q : Nat) : TickAt (w.drewN q) F h g gs i cs pc ticks fault arg d := t.belowS (below_drewS q)
theorem lay_any (t : TickAt w F h g gs i cs pc ticks fault arg d) (hl : d.stack.length ≤ 100) (n : Int) :
    Calls Tryz.prog 87 #[.pointer (some ⟨h, 0, none⟩), .int .i64 n] w (DPost F w h g gs i cs pc ticks fault arg (onF 0 [n] d)) := by
  have i1 := t.fits hl 0 1 0 1 rfl rfl (by omega) (by omega)
  have T := hid t
  have i2 := hid ((t.belowS (below_alloc1 w (.cells #[.int .i64 n] 3))).swap hl 0 0 rfl (by omega) [n] (some ⟨w.heap.size, 0, none⟩) 1 1 rfl (by omega) (lit1V w n))
  obtain ⟨E, hE⟩ : ∃ E, fitsE d.stack.length 0 1 = E := ⟨_, rfl⟩
  rw [hE] at i1
  have I1 := hid i1
  clear i1 t
  by_cases h0 : E = 0
  · subst h0
    have ir : Hid (onF 0 [n] d = (0, { d with stack := swapV d.stack 0 [n] })) := hid (if_pos hE)
    clear hE
    go_enter Tryz.func87, Tryz.ntmps87
    go_wp2_with fail
    refine I1.out.mono ?_
    rintro e w1 ⟨rfl, rfl⟩
    go_wp2_with fail
    refine i2.out.mono ?_
    rintro e w2 ⟨rfl, F', ht, hg⟩
    go_wp2_with fail
    go_ret
    rw [ir.out]
    exact ⟨F', rfl, ht, (Goes.of_below (below_alloc1 w1 _)).trans hg⟩
  · have ir : Hid (onF 0 [n] d = (E, d)) := hid (by unfold onF; rw [if_neg (by rw [show [n].length = 1 from rfl, hE]; exact h0), show [n].length = 1 from rfl, hE])
    have y0 : (E != 0) = true := by simpa using h0
    clear hE h0 i2
    go_enter Tryz.func87, Tryz.ntmps87
    go_wp2_with fail
    refine I1.out.mono ?_
    rintro e w1 ⟨rfl, rfl⟩
    go_wp2_with fail
    go_ret
    rw [ir.out]
    exact DPost.same T.out rfl (Below.refl _ _)
theorem deed_yield (t : TickAt w F h g gs i cs pc ticks fault arg d) :
    Calls Tryz.prog 60 #[.pointer (some ⟨h, 0, none⟩)] w (DPost F w h g gs i cs pc ticks fault arg (deedF i cs ticks 0 arg d)) := by
  have T := hid t
  clear t
  go_enter Tryz.func60, Tryz.ntmps60
  go_wp2_with fail
  go_ret
  exact DPost.same T.out rfl (Below.refl _ _)
theorem deed_halt (t : TickAt w F h g gs i cs pc ticks fault arg d) :
    Calls Tryz.prog 77 #[.pointer (some ⟨h, 0, none⟩)] w (DPost F w h g gs i cs pc ticks fault arg (deedF i cs ticks 17 arg d)) := by
  have T := hid t
  clear t
  go_enter Tryz.func77, Tryz.ntmps77
  go_wp2_with fail
  go_ret
  exact DPost.same T.out rfl (Below.refl _ _)
theorem deed_confirm (t : TickAt w F h g gs i cs pc ticks fault arg d) :
    Calls Tryz.prog 76 #[.pointer (some ⟨h, 0, none⟩)] w (DPost F w h g gs i cs pc ticks fault arg (deedF i cs ticks 16 arg d)) := by
  obtain ⟨a, Ao, cO, c0, c1, c2, c3, c4, c5, _, _, _, _, _, _, hf⟩ := t.cells
  have f0 := hf 5
  have T := hid t
  clear t hf c0 c1 c2 c3 c4
  go_enter Tryz.func76, Tryz.ntmps76
  go_wp2_with fail
  go_ret
  have hs := T.out.runSet (k := 5) (v := .bool true) (d' := { d with conf := true }) (arg' := arg) rfl rfl rfl rfl (fun _ _ => rfl)
  exact ⟨F, rfl, hs.1, hs.2⟩
theorem deed_push (t : TickAt w F h g gs i cs pc ticks fault arg d) (hl : d.stack.length ≤ 100) :
    Calls Tryz.prog 61 #[.pointer (some ⟨h, 0, none⟩)] w (DPost F w h g gs i cs pc ticks fault arg (deedF i cs ticks 1 arg d)) := by
  obtain ⟨a, Ao, cO, c0, _, c2, _, _, _, _, _, _, _, _, c11, _⟩ := t.cells
  show Calls _ _ _ _ (DPost F w h g gs i cs pc ticks fault arg (onF 0 [arg] d))
  have i1 := hid (lay_any t hl arg)
  generalize onF 0 [arg] d = r at i1 ⊢
  clear t
  go_enter Tryz.func61, Tryz.ntmps61
  go_wp2_with fail
  refine i1.out.mono ?_
  rintro e w1 ⟨F', rfl, ht, hg⟩
  have K := hid (And.intro ht hg)
  clear ht hg
  go_wp2_with fail
  go_ret
  exact ⟨F', rfl, K.out.1, K.out.2⟩
theorem deed_now (t : TickAt w F h g gs i cs pc ticks fault arg d) (hl : d.stack.length ≤ 100) :
    Calls Tryz.prog 78 #[.pointer (some ⟨h, 0, none⟩)] w (DPost F w h g gs i cs pc ticks fault arg (deedF i cs ticks 18 arg d)) := by
  obtain ⟨a, Ao, cO, c0, _, c2, _, _, _, _, _, _, _, _, c11, _⟩ := t.cells
  show Calls _ _ _ _ (DPost F w h g gs i cs pc ticks fault arg (onF 0 [ticks] d))
  have i1 := hid (lay_any t hl ticks)
  generalize onF 0 [ticks] d = r at i1 ⊢
  clear t
  go_enter Tryz.func78, Tryz.ntmps78
  go_wp2_with fail
  refine i1.out.mono ?_
  rintro e w1 ⟨F', rfl, ht, hg⟩
  have K := hid (And.intro ht hg)
  clear ht hg
  go_wp2_with fail
  go_ret
  exact ⟨F', rfl, K.out.1, K.out.2⟩
theorem deed_drop (t : TickAt w F h g gs i cs pc ticks fault arg d) (hl : d.stack.length ≤ 100) :
    Calls Tryz.prog 62 #[.pointer (some ⟨h, 0, none⟩)] w (DPost F w h g gs i cs pc ticks fault arg (deedF i cs ticks 2 arg d)) := by
  have i1 := t.fits hl 1 0 1 0 rfl rfl (by omega) (by omega)
  have T := hid t
  obtain ⟨E, hE⟩ : ∃ E, fitsE d.stack.length 1 0 = E := ⟨_, rfl⟩
  rw [hE] at i1
  have I1 := hid i1
  clear i1 t
  by_cases h0 : E = 0
  · subst h0
    have hlen := (fits_ok hE).1
    have ir : Hid (deedF i cs ticks 2 arg d = (0, { d with stack := swapV d.stack 1 [] })) := hid (if_pos hE)
    clear hE
    go_enter Tryz.func62, Tryz.ntmps62
    go_wp2_with fail
    refine I1.out.mono ?_
    rintro e w1 ⟨rfl, rfl⟩
    go_wp2_with fail
    refine (T.out.swap hl 1 1 rfl (by omega) [] none 0 0 rfl (by omega) Reads.empty).mono ?_
    rintro e w4 ⟨rfl, F', ht, hg⟩
    have K := hid (And.intro ht hg)
    clear ht hg
    go_wp2_with fail
    go_ret
    rw [ir.out]
    exact ⟨F', rfl, K.out.1, K.out.2⟩
  · have ir : Hid (deedF i cs ticks 2 arg d = (E, d)) := hid (by have e0 : ¬ (fitsE d.stack.length 1 0 = 0) := (by rw [hE]; exact h0); rw [← hE]; exact if_neg e0)
    have y0 : (E == 0) = false := by simpa using h0
    clear hE h0
    go_enter Tryz.func62, Tryz.ntmps62
    go_wp2_with fail
    refine I1.out.mono ?_
    rintro e w1 ⟨rfl, rfl⟩
    go_wp2_with fail
    go_ret
    rw [ir.out]
    exact DPost.same T.out rfl (Below.refl _ _)
theorem deed_dup (t : TickAt w F h g gs i cs pc ticks fault arg d) (hl : d.stack.length ≤ 100) :
    Calls Tryz.prog 63 #[.pointer (some ⟨h, 0, none⟩)] w (DPost F w h g gs i cs pc ticks fault arg (deedF i cs ticks 3 arg d)) := by
  have i1 := t.fits hl 1 2 1 2 rfl rfl (by omega) (by omega)
  have T := hid t
  obtain ⟨E, hE⟩ : ∃ E, fitsE d.stack.length 1 2 = E := ⟨_, rfl⟩
  rw [hE] at i1
  have I1 := hid i1
  clear i1 t
  by_cases h0 : E = 0
  · subst h0
    have hlen := (fits_ok hE).1
    have ir : Hid (deedF i cs ticks 3 arg d = (0, { d with stack := swapV d.stack 0 [topV d.stack 0] })) := hid (if_pos hE)
    clear hE
    obtain ⟨x0, hx0⟩ : ∃ x, topV d.stack 0 = x := ⟨_, rfl⟩
    have j0 := hid (fun q => (T.out.drewN q).top hl 0 0 rfl (by omega))
    rw [hx0] at j0 ir
    clear hx0
    go_enter Tryz.func63, Tryz.ntmps63
    go_wp2_with fail
    refine I1.out.mono ?_
    rintro e w1 ⟨rfl, rfl⟩
    go_wp2_with fail
    refine (j0.out 0).mono ?_
    rintro e w2 ⟨rfl, q1, hq1⟩
    have hb2 : Below w1.heap.size w1 w2 := by rw [hq1]; exact below_drewS q1
    clear hq1
    have T2 := hid (T.out.belowS hb2)
    have i2 := hid ((T2.out.belowS (below_alloc1 w2 (.cells #[.int .i64 x0] 3))).swap hl 0 0 rfl (by omega) [x0] (some ⟨w2.heap.size, 0, none⟩) 1 1 rfl (by omega) (lit1V w2 x0))
    have HB2 := hid hb2
    clear hb2
    go_wp2_with fail
    refine i2.out.mono ?_
    rintro e w4 ⟨rfl, F', ht, hg⟩
    have K := hid (And.intro ht hg)
    clear ht hg
    go_wp2_with fail
    go_ret
    rw [ir.out]
    exact ⟨F', rfl, K.out.1, ((Goes.of_below HB2.out).trans (Goes.of_below (below_alloc1 _ _))).trans K.out.2⟩
  · have ir : Hid (deedF i cs ticks 3 arg d = (E, d)) := hid (by have e0 : ¬ (fitsE d.stack.length 1 2 = 0) := (by rw [hE]; exact h0); rw [← hE]; exact if_neg e0)
    have y0 : (E == 0) = false := by simpa using h0
    clear hE h0
    go_enter Tryz.func63, Tryz.ntmps63
    go_wp2_with fail
    refine I1.out.mono ?_
    rintro e w1 ⟨rfl, rfl⟩
    go_wp2_with fail
    go_ret
    rw [ir.out]
    exact DPost.same T.out rfl (Below.refl _ _)
theorem deed_turn (t : TickAt w F h g gs i cs pc ticks fault arg d) (hl : d.stack.length ≤ 100) :
    Calls Tryz.prog 64 #[.pointer (some ⟨h, 0, none⟩)] w (DPost F w h g gs i cs pc ticks fault arg (deedF i cs ticks 4 arg d)) := by
  have i1 := t.fits hl 2 2 2 2 rfl rfl (by omega) (by omega)
  have T := hid t
  obtain ⟨E, hE⟩ : ∃ E, fitsE d.stack.length 2 2 = E := ⟨_, rfl⟩
  rw [hE] at i1
  have I1 := hid i1
  clear i1 t
  by_cases h0 : E = 0
  · subst h0
    have hlen := (fits_ok hE).1
    have ir : Hid (deedF i cs ticks 4 arg d = (0, { d with stack := swapV d.stack 2 [topV d.stack 0, topV d.stack 1] })) := hid (if_pos hE)
    clear hE
    obtain ⟨x0, hx0⟩ : ∃ x, topV d.stack 0 = x := ⟨_, rfl⟩
    have j0 := hid (fun q => (T.out.drewN q).top hl 0 0 rfl (by omega))
    rw [hx0] at j0 ir
    clear hx0
    obtain ⟨x1, hx1⟩ : ∃ x, topV d.stack 1 = x := ⟨_, rfl⟩
    have j1 := hid (fun q => (T.out.drewN q).top hl 1 1 rfl (by omega))
    rw [hx1] at j1 ir
    clear hx1
    go_enter Tryz.func64, Tryz.ntmps64
    go_wp2_with fail
    refine I1.out.mono ?_
    rintro e w1 ⟨rfl, rfl⟩
    go_wp2_with fail
    refine (j0.out 0).mono ?_
    rintro e w2 ⟨rfl, q1, hq1⟩
    rw [hq1]
    go_wp2_with fail
    refine (j1.out _).mono ?_
    rintro e w3 ⟨rfl, q2, hq2⟩
    have hb2 : Below w1.heap.size w1 w3 := by rw [hq2]; exact bel_trans (below_drewS _) (below_drewS q2)
    clear hq2 hq1
    have T2 := hid (T.out.belowS hb2)
    have i2 := hid ((T2.out.belowS (below_alloc1 w3 (.cells #[.int .i64 x0, .int .i64 x1] 3))).swap hl 2 2 rfl (by omega) [x0, x1] (some ⟨w3.heap.size, 0, none⟩) 2 2 rfl (by omega) (lit2V w3 x0 x1))
    have HB2 := hid hb2
    clear hb2
    go_wp2_with fail
    refine i2.out.mono ?_
    rintro e w4 ⟨rfl, F', ht, hg⟩
    have K := hid (And.intro ht hg)
    clear ht hg
    go_wp2_with fail
    go_ret
    rw [ir.out]
    exact ⟨F', rfl, K.out.1, ((Goes.of_below HB2.out).trans (Goes.of_below (below_alloc1 _ _))).trans K.out.2⟩
  · have ir : Hid (deedF i cs ticks 4 arg d = (E, d)) := hid (by have e0 : ¬ (fitsE d.stack.length 2 2 = 0) := (by rw [hE]; exact h0); rw [← hE]; exact if_neg e0)
    have y0 : (E == 0) = false := by simpa using h0
    clear hE h0
    go_enter Tryz.func64, Tryz.ntmps64
    go_wp2_with fail
    refine I1.out.mono ?_
    rintro e w1 ⟨rfl, rfl⟩
    go_wp2_with fail
    go_ret
    rw [ir.out]
    exact DPost.same T.out rfl (Below.refl _ _)
end
end Go.Proofs.YtidlahljhgglcaaGreat
