/-
  Law 23: what stands between two acts.
-/
import Derived.Test.YtidlahljhgglcaaGreatRvPart
import Derived.Test.YtidlahljhgglcaaGreatPartE
import Derived.Test.YtidlahljhgglcaaGreatOpenPart
import Derived.Test.YtidlahljhgglcaaGreatQc
namespace Go.Proofs.YtidlahljhgglcaaGreat
open Go.RowKit Go.ChangeShapes Go.WideShapes Go.ChangeAt

def noC : Comp := blkC 0 3 []
def pickL (l : List Comp) (ix : List Nat) : List Comp := ix.map fun n => l.getD n noC
theorem pickL_range (l : List Comp) : pickL l (List.range l.length) = l := by
  unfold pickL
  apply List.ext_getElem
  · simp
  · intro n h1 h2
    simp at h1
    simp [List.getD, h1]
section
variable {w w' w0 : World} {p q g gr gs gR : Nat} {i : ImgS} {cs : List ChanS} {s : VmS} {ss : Nat → WayS} {l t : List Comp} {b : Int} {m : Option Nat}
/-- Some of the first ones, in any order. -/
theorem AllS.pickT (h : AllS w0 (l ++ t) w) (ix rest : List Nat) {N : Nat} (hp : (List.range N).Perm (ix ++ rest)) (hN : l.length = N) : AllS w0 (pickL l ix ++ t) w := by
  subst hN
  have h2 : (pickL l (List.range l.length)).Perm (pickL l (ix ++ rest)) := hp.map _
  rw [pickL_range] at h2
  have h3 := h.perm (h2.append_right t)
  have h4 : pickL l (ix ++ rest) = pickL l ix ++ pickL l rest := by simp [pickL]
  rw [h4] at h3
  exact h3.sub (List.Sublist.append_right (List.sublist_append_left _ _) t)
theorem AllS.pick (h : AllS w0 l w) (ix rest : List Nat) {N : Nat} (hp : (List.range N).Perm (ix ++ rest)) (hN : l.length = N) : AllS w0 (pickL l ix) w := by
  have h1 : AllS w0 (l ++ []) w := by rwa [List.append_nil]
  have h2 := h1.pickT ix rest hp hN
  rwa [List.append_nil] at h2
/-- Two machines that run the same. -/
structure Runner where
  g : Nat
  gr : Nat
  i : ImgS
  s : VmS
def machL : Option Runner → List Comp
  | none => []
  | some r => [vmC r.g r.i r.s, rvC r.gr r.i r.s]
def gP (o : Option Runner) : Option Nat := o.map Runner.g
def gQ (o : Option Runner) : Option Nat := o.map Runner.gr
def FineR (o : Option Runner) (k : Int) : Prop := ∀ r, o = some r → RightI r.i ∧ FineS r.i r.s ∧ 0 ≤ r.s.ticks ∧ r.s.ticks ≤ k
def IdleR (o : Option Runner) : Prop := ∀ r, o = some r → r.s.fault ≠ 0
theorem FineR.more {o : Option Runner} {k k' : Int} (h : FineR o k) (hk : k ≤ k') : FineR o k' := fun r hr => ⟨(h r hr).1, (h r hr).2.1, (h r hr).2.2.1, Int.le_trans (h r hr).2.2.2 hk⟩
theorem run_idle {o : Option Runner} {k : Int} (h : AllS w0 (ptC p (gP o) b :: rpC q (gQ o) b :: setC gs cs ss :: refC gR cs (hL ss) :: machL o) w) (hf : FineR o k) (hi : IdleR o) (x : Value) :
    Calls Tryz.prog 11 #[.pointer (some ⟨p, 0, none⟩), x] w fun e w' => e = .returned (.tuple #[seenV none 0 0 false ⟨0, [], [], 0, 0⟩ none 0 none 0, .bool false]) ∧ Below w.heap.size w w' := by
  cases o with
  | none => exact run_none h x
  | some r =>
    have h1 := hf r rfl
    have h2 : AllS w0 [ptC p (some r.g) b, vmC r.g r.i r.s] w := AllS.pick (l := [ptC p (some r.g) b, rpC q (some r.gr) b, setC gs cs ss, refC gR cs (hL ss), vmC r.g r.i r.s, rvC r.gr r.i r.s]) h [0, 4] [1, 2, 3, 5] (show (List.range 6).Perm _ by decide) rfl
    exact run_fault h2 h1.1 h1.2.1 (hi r rfl) x
theorem rRun_idle {o : Option Runner} (h : AllS w0 (ptC p (gP o) b :: rpC q (gQ o) b :: setC gs cs ss :: refC gR cs (hL ss) :: machL o) w) (hi : IdleR o) (x : Value) :
    Calls Tryz.prog 12 #[.pointer (some ⟨q, 0, none⟩), x] w fun e w' => e = .returned (rrunV none 0 0 false false) ∧ Below w.heap.size w w' := by
  cases o with
  | none => exact rRun_none (AllS.pick (l := [ptC p none b, rpC q none b, setC gs cs ss, refC gR cs (hL ss)]) h [1] [0, 2, 3] (show (List.range 4).Perm _ by decide) rfl) x
  | some r =>
    have h2 : AllS w0 [rpC q (some r.gr) b, rvC r.gr r.i r.s] w := AllS.pick (l := [ptC p (some r.g) b, rpC q (some r.gr) b, setC gs cs ss, refC gR cs (hL ss), vmC r.g r.i r.s, rvC r.gr r.i r.s]) h [1, 5] [0, 2, 3, 4] (show (List.range 6).Perm _ by decide) rfl
    exact rRun_fault h2 (hi r rfl) x
/-- The image that the reference holds. -/
theorem AllS.rvImg (h : AllS w0 (rvC gr i s :: l) w) : ∃ A c, (w.cell? ⟨gr, 0, none⟩ = some (.int .i64 i.part) ∧ w.cell? ⟨gr, 1, none⟩ = some (.int .i64 i.ver) ∧ w.cell? ⟨gr, 2, none⟩ = some (.int .i64 i.hard) ∧ w.cell? ⟨gr, 3, none⟩ = some (.int .i64 i.mem) ∧ w.cell? ⟨gr, 4, none⟩ = some (.int .i64 i.fuel) ∧ w.cell? ⟨gr, 5, none⟩ = some (.int .i64 i.sends) ∧ w.cell? ⟨gr, 6, none⟩ = some (.int .i64 i.recvs) ∧ w.cell? ⟨gr, 7, none⟩ = some (.slice A i.code.length c)) ∧ Reads w w.heap.size 1 A i.code.length (i.code.map bV) := by
  obtain ⟨F1, ⟨a, m, _⟩, _⟩ := h.get
  exact ⟨_, _, ⟨m.blk.cellAt rfl, m.blk.cellAt rfl, m.blk.cellAt rfl, m.blk.cellAt rfl, m.blk.cellAt rfl, m.blk.cellAt rfl, m.blk.cellAt rfl, m.blk.cellAt rfl⟩, m.cd.reads⟩
theorem img_inP (i : ImgS) (A : Option Addr) (c : Nat) (w : World) : ∃ w1 : World, w.alloc (.cells #[.int .i64 i.part, .int .i64 i.ver, .int .i64 i.hard, .int .i64 i.mem, .int .i64 i.fuel, .int .i64 i.sends, .int .i64 i.recvs, .slice A i.code.length c] 47) = w1 ∧ Below w.heap.size w w1 ∧ Blk w1 w.heap.size 47 (imgC i A c) :=
  ⟨_, rfl, below_alloc1 _ _, Blk.new w _ (imgC i A c)⟩
end
theorem tab_inP (t : TabS) (a : TabA) (w : World) : ∃ w1 : World, w.alloc (.cells #[.int .i64 t.frame, .slice a.A1 t.parts.length a.c1, .slice a.A2 t.wins.length a.c2, .slice a.A3 t.chans.length a.c3, .int .i64 t.trial] 26) = w1 ∧ Below w.heap.size w w1 ∧ Blk w1 w.heap.size 26 (tabC t a) :=
  ⟨_, rfl, below_alloc1 _ _, Blk.new w _ (tabC t a)⟩
theorem imgs2_inP (p : ImgS) (A1 : Option Addr) (c1 : Nat) (A2 : Option Addr) (c2 : Nat) (w : World) : ∃ w1 : World, (w.alloc (.cells #[.int .i64 p.part, .int .i64 p.ver, .int .i64 p.hard, .int .i64 p.mem, .int .i64 p.fuel, .int .i64 p.sends, .int .i64 p.recvs, .slice A1 p.code.length c1] 47)).alloc (.cells #[.int .i64 p.part, .int .i64 p.ver, .int .i64 p.hard, .int .i64 p.mem, .int .i64 p.fuel, .int .i64 p.sends, .int .i64 p.recvs, .slice A2 p.code.length c2] 47) = w1 ∧ Below w.heap.size w w1 ∧ Blk w1 w.heap.size 47 (imgC p A1 c1) ∧ Blk w1 (w.heap.size + 1) 47 (imgC p A2 c2) :=
  ⟨_, rfl, bel_alloc ((Below.refl _ _).alloc (Nat.le_refl _) _) _, (Blk.new w _ (imgC p A1 c1)).alloc _, by
    have := Blk.new (w.alloc (.cells (imgC p A1 c1).toArray 47)) 47 (imgC p A2 c2)
    rw [show (w.alloc (.cells (imgC p A1 c1).toArray 47)).heap.size = w.heap.size + 1 by simp] at this
    exact this⟩
set_option maxRecDepth 100000 in
set_option maxHeartbeats 4000000 in
theorem refSameEqP (p : ImgS) (A1 : Option Addr) (c1 : Nat) (A2 : Option Addr) (c2 : Nat) (w : World) (h1 : Reads w w.heap.size 1 A1 p.code.length (p.code.map bV)) (h2 : Reads w w.heap.size 1 A2 p.code.length (p.code.map bV)) (l1 : p.code.length ≤ 100000000) :
    Calls Tryz.prog 20 #[imgV p A1 c1, imgV p A2 c2] w fun e w' => e = .returned (.bool true) ∧ Below w.heap.size w w' := by
  obtain ⟨w1, hw1, hb1, hp1, hq1⟩ := imgs2_inP p A1 c1 A2 c2 w
  have i1 := hid (same_b A1 A2 p.code.length p.code.length c1 c2 p.code p.code w1 (h1.belowS hb1) (h2.belowS hb1) (by omega) (by omega))
  simp only [decide_true] at i1
  obtain ⟨a0, a1, a2, a3, a4, a5, a6, a7⟩ := img_cells hp1
  obtain ⟨d0, d1, d2, d3, d4, d5, d6, d7⟩ := img_cells hq1
  unfold imgV
  clear h1 h2 l1 hp1 hq1
  go_enter Tryz.func20, Tryz.ntmps20
  go_wp2_with fail
  refine i1.out.mono ?_
  rintro e w2 ⟨rfl, hb2⟩
  go_wp2_with fail
  go_ret
  exact ⟨rfl, bel_trans hb1 hb2⟩
end Go.Proofs.YtidlahljhgglcaaGreat
