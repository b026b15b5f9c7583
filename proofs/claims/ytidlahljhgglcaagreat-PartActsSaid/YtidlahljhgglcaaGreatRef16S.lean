/-
  The reference of layer 16: Send.
-/
import Derived.Test.YtidlahljhgglcaaGreatRef16
namespace Go.Proofs.YtidlahljhgglcaaGreat
open Go.RowKit Go.ChangeShapes Go.WideShapes Go.ChangeAt

theorem cell_alloc {w : World} {p : Addr} {u : Value} (h : w.cell? p = some u) (o : Obj) : (w.alloc o).cell? p = some u := (cell_keep (Below.heap_alloc _ _ _ (World.block_lt_of_cell? w p h))).trans h
theorem Goes.of_iff {F G F' : Nat → Prop} {w w' : World} (h : ∀ b, F b ↔ G b) (hg : Goes G w F' w') : Goes F w F' w' :=
  ⟨⟨hg.apart.os, hg.apart.tape, hg.apart.output, hg.apart.size, fun b hb hF => hg.apart.block b hb (fun hf => hF ((h b).2 hf))⟩, fun b hb => (hg.foot b hb).imp_left (h b).2⟩
theorem bel_alloc_drew {B : Nat} {a : World} (h : B ≤ a.heap.size) (o : Obj) : Below B a (a.alloc o) ∧ Below B a (a.alloc o).drew := ⟨(Below.refl _ _).alloc h o, (⟨rfl, rfl, rfl, by simp [World.drew], fun k hk => Below.heap_alloc a o k (by omega)⟩ : Below B a (a.alloc o).drew)⟩
section
variable {w : World} {F : Nat → Prop} {gR : Nat} {cs : List ChanS} {ls : Nat → List Int}
set_option maxRecDepth 100000 in
theorem refSend_bad (h : RefAt w F gR cs ls) (p k v : Int) (hk : ¬ (0 ≤ k ∧ k < cs.length) ∨ ∃ x, cs[k.toNat]? = some x ∧ 0 ≤ k ∧ x.src ≠ p) :
    Calls Tryz.prog 18 #[.pointer (some ⟨gR, 0, none⟩), .int .i64 p, .int .i64 k, .int .i64 v] w fun e w' => e = .returned (toldV 0 false 15) ∧ Below w.heap.size w w' := by
  rcases hk with hk | ⟨x, hx, h0, hp⟩
  · obtain ⟨AC, cC, gL, ra, rc, h1, h2⟩ := h
    have c0 : ∀ o, (w.alloc o).cell? ⟨gR, 0, none⟩ = some (.slice AC cs.length cC) := fun o => (h1.blk.alloc o).cellAt rfl
    clear h1 h2
    by_cases hk0 : k < 0
    · have y0 : decide (k < 0) = true := decide_eq_true hk0
      clear hk0 hk
      go_enter Tryz.func18, Tryz.ntmps18
      go_wp2_with fail
      go_returns
      exact ⟨rfl, below_alloc1 _ _⟩
    · have y0 : decide (k < 0) = false := decide_eq_false hk0
      have y1 : decide ((cs.length : Int) ≤ k) = true := decide_eq_true (by omega)
      clear hk0 hk
      go_enter Tryz.func18, Tryz.ntmps18
      go_wp2_with fail
      go_returns
      exact ⟨rfl, below_alloc1 _ _⟩
  · obtain ⟨j, rfl⟩ : ∃ j : Nat, k = (j : Int) := ⟨k.toNat, by omega⟩
    rw [Int.toNat_natCast] at hx
    obtain ⟨ad, cC, gL, A, c, a0, a1, b0, b1, b2, e0⟩ := h.rcells hx
    have c0 := cell_alloc a0
    have c1 := cell_alloc a1
    have d0 := cell_alloc b0
    have d1 := cell_alloc b1
    have d2 := cell_alloc b2
    have f0 := cell_alloc e0
    have hj := (List.getElem?_eq_some_iff.1 hx).1
    have y0 : decide ((j : Int) < 0) = false := decide_eq_false (by omega)
    have y1 : decide ((cs.length : Int) ≤ (j : Int)) = false := decide_eq_false (by omega)
    have y1' : decide (cs.length ≤ j) = false := decide_eq_false (by omega)
    have y2 : (x.src == p) = false := by simpa using hp
    have y3 : (0 : Int) ≤ (j : Int) := by omega
    have y4 : (j : Int) < (cs.length : Int) := by omega
    clear hp h0 hx h
    go_enter Tryz.func18, Tryz.ntmps18
    go_wp2_with fail
    go_returns
    exact ⟨rfl, below_alloc1 _ _⟩
set_option maxRecDepth 100000 in
theorem refSend_range (h : RefAt w F gR cs ls) {k : Nat} {x : ChanS} (hx : cs[k]? = some x) (v : Int) (hv : v < 0 ∨ 65535 < v) :
    Calls Tryz.prog 18 #[.pointer (some ⟨gR, 0, none⟩), .int .i64 x.src, .int .i64 (k : Int), .int .i64 v] w fun e w' => e = .returned (toldV 0 false 3) ∧ Below w.heap.size w w' := by
  obtain ⟨ad, cC, gL, A, c, a0, a1, b0, b1, b2, e0⟩ := h.rcells hx
  have c0 := cell_alloc a0
  have c1 := cell_alloc a1
  have d0 := cell_alloc b0
  have d1 := cell_alloc b1
  have d2 := cell_alloc b2
  have f0 := cell_alloc e0
  have hj := (List.getElem?_eq_some_iff.1 hx).1
  have y0 : decide ((k : Int) < 0) = false := decide_eq_false (by omega)
  have y1 : decide ((cs.length : Int) ≤ (k : Int)) = false := decide_eq_false (by omega)
  have y1' : decide (cs.length ≤ k) = false := decide_eq_false (by omega)
  have y3 : (0 : Int) ≤ (k : Int) := by omega
  have y4 : (k : Int) < (cs.length : Int) := by omega
  clear hx h hj
  by_cases hv0 : v < 0
  · have z0 : decide (v < 0) = true := decide_eq_true hv0
    clear hv hv0
    go_enter Tryz.func18, Tryz.ntmps18
    go_wp2_with fail
    go_returns
    exact ⟨rfl, below_alloc1 _ _⟩
  · have z0 : decide (v < 0) = false := decide_eq_false hv0
    have z1 : decide ((65535 : Int) < v) = true := decide_eq_true (by omega)
    clear hv hv0
    go_enter Tryz.func18, Tryz.ntmps18
    go_wp2_with fail
    go_returns
    exact ⟨rfl, below_alloc1 _ _⟩
set_option maxRecDepth 100000 in
theorem refSend_full (h : RefAt w F gR cs ls) {k : Nat} {x : ChanS} (hx : cs[k]? = some x) (v : Int) (hv0 : 0 ≤ v) (hv1 : v ≤ 65535) (hd : x.depth ≠ 0) (hl : ((ls k).length : Int) = x.depth) :
    Calls Tryz.prog 18 #[.pointer (some ⟨gR, 0, none⟩), .int .i64 x.src, .int .i64 (k : Int), .int .i64 v] w fun e w' => e = .returned (toldV 0 false 0) ∧ Below w.heap.size w w' := by
  obtain ⟨ad, cC, gL, A, c, a0, a1, b0, b1, b2, e0⟩ := h.rcells hx
  have c0 := cell_alloc a0
  have c1 := cell_alloc a1
  have d0 := cell_alloc b0
  have d1 := cell_alloc b1
  have d2 := cell_alloc b2
  have f0 := cell_alloc e0
  have hj := (List.getElem?_eq_some_iff.1 hx).1
  have y0 : decide ((k : Int) < 0) = false := decide_eq_false (by omega)
  have y1 : decide ((cs.length : Int) ≤ (k : Int)) = false := decide_eq_false (by omega)
  have y1' : decide (cs.length ≤ k) = false := decide_eq_false (by omega)
  have y3 : (0 : Int) ≤ (k : Int) := by omega
  have y4 : (k : Int) < (cs.length : Int) := by omega
  have z0 : decide (v < 0) = false := decide_eq_false (by omega)
  have z1 : decide ((65535 : Int) < v) = false := decide_eq_false (by omega)
  have z2 : (x.depth == 0) = false := by simpa using hd
  have z3 : (((ls k).length : Int) == x.depth) = true := by simpa using hl
  clear hx h hj hv0 hv1 hd hl
  go_enter Tryz.func18, Tryz.ntmps18
  go_wp2_with fail
  go_quiet (fail)
  go_wp2_with fail
  go_returns
  exact ⟨rfl, (((below_drewN (below_alloc1 w _) nq).setCell (Nat.le_refl _) _).setCell (Nat.le_refl _) _).setCell (Nat.le_refl _) _⟩
/-- A new list stored for one channel, and the answer told. -/
theorem RefIn.put {AC : Option Addr} {cC gL : Nat} {ra : Nat → Option Addr} {rc : Nat → Nat} {w3 : World} (h : RefIn w gR cs AC cC gL ra rc ls) {k : Nat} (hk : k < cs.length) {A3 : Option Addr} {c3 : Nat} {l' : List Int} {u : Value}
    (ha : Apart (fun b => b = gL) w w3) (hrow : Blk w3 gL 51 ((rowCs cs.length ra rc ls).set k u)) (hr : Row w3 3 A3 l'.length c3 (l'.map iV)) (hA : ∀ b, Foot A3 b → w.heap.size < b) (x y z : Value) :
    ∃ F', RefAt ((((w3.setCell ⟨gL, k, none⟩ (.slice A3 l'.length c3)).setCell ⟨w.heap.size, 0, none⟩ x).setCell ⟨w.heap.size, 1, none⟩ y).setCell ⟨w.heap.size, 2, none⟩ z) F' gR cs (setS ls k l') ∧
      Goes (RefF cs.length gR gL AC ra) w F' ((((w3.setCell ⟨gL, k, none⟩ (.slice A3 l'.length c3)).setCell ⟨w.heap.size, 0, none⟩ x).setCell ⟨w.heap.size, 1, none⟩ y).setCell ⟨w.heap.size, 2, none⟩ z) := by
  have hgl := h.row.lt
  have hap := (((ha.setCell (p := ⟨gL, k, none⟩) (.inl rfl) (.slice A3 l'.length c3)).setCell (p := ⟨w.heap.size, 0, none⟩) (.inr (Nat.le_refl _)) x).setCell (p := ⟨w.heap.size, 1, none⟩) (.inr (Nat.le_refl _)) y).setCell (p := ⟨w.heap.size, 2, none⟩) (.inr (Nat.le_refl _)) z
  have hbl := (((hrow.set_ k (.slice A3 l'.length c3)).far (p := ⟨w.heap.size, 0, none⟩) (by show gL ≠ w.heap.size; omega) x).far (p := ⟨w.heap.size, 1, none⟩) (by show gL ≠ w.heap.size; omega) y).far (p := ⟨w.heap.size, 2, none⟩) (by show gL ≠ w.heap.size; omega) z
  rw [List.set_set] at hbl
  have hnf : ¬ Foot A3 gL := fun hf => by have := hA gL hf; omega
  have hnb : ¬ Foot A3 w.heap.size := fun hf => by have := hA _ hf; omega
  have hro := (((hr.far (p := ⟨gL, k, none⟩) hnf (.slice A3 l'.length c3)).far (p := ⟨w.heap.size, 0, none⟩) hnb x).far (p := ⟨w.heap.size, 1, none⟩) hnb y).far (p := ⟨w.heap.size, 2, none⟩) hnb z
  exact ⟨_, (h.step hk hap hbl hro.reads hro.cap (fun b hb => ⟨fun e => hnf (e ▸ hb), hro.lt hb⟩)).at_, h.goes hk hap (fun b hb => .inr (Nat.le_of_lt (hA b hb)))⟩
theorem rowCs_self {n : Nat} {ra : Nat → Option Addr} {rc : Nat → Nat} {k : Nat} (hk : k < n) : (rowCs n ra rc ls).set k (.slice (ra k) (ls k).length (rc k)) = rowCs n ra rc ls := by
  rw [rowCs_set, setS_self, setS_self, setS_self]
set_option maxRecDepth 100000 in
set_option maxHeartbeats 1000000 in
theorem refSend_ok (h : RefAt w F gR cs ls) {k : Nat} {x : ChanS} (hx : cs[k]? = some x) (v : Int) (hv0 : 0 ≤ v) (hv1 : v ≤ 65535) (hd : x.depth ≠ 0) (hl : ((ls k).length : Int) ≠ x.depth) (hs : (ls k).length ≤ 100000) :
    Calls Tryz.prog 18 #[.pointer (some ⟨gR, 0, none⟩), .int .i64 x.src, .int .i64 (k : Int), .int .i64 v] w (RPost F w gR cs (.returned (toldV 0 true 0)) (setS ls k (ls k ++ [v]))) := by
  obtain ⟨AC, cC, gL, ra, rc, h1, h2⟩ := h
  have hk := (List.getElem?_eq_some_iff.1 hx).1
  obtain ⟨ad, yy, rfl, _, hy, e0, e1⟩ := h1.ends.at_ hk
  rw [hx] at hy
  injection hy with hy
  subst hy
  have a0 : w.cell? ⟨gR, 0, none⟩ = some (.slice (some ad) cs.length cC) := h1.blk.cellAt rfl
  have a1 : w.cell? ⟨gR, 1, none⟩ = some (.slice (some ⟨gL, 0, none⟩) cs.length cs.length) := h1.blk.cellAt rfl
  have a2 : w.cell? ⟨gL, k, none⟩ = some (.slice (ra k) (ls k).length (rc k)) := h1.row.cellAt (rowCs_get hk)
  have c0 := cell_alloc a0
  have c1 := cell_alloc a1
  have d0 := cell_alloc (e0 _ rfl)
  have d1 := cell_alloc (e1 0 _ rfl)
  have d2 := cell_alloc (e1 1 _ rfl)
  have f0 := cell_alloc a2
  have y0 : decide ((k : Int) < 0) = false := decide_eq_false (by omega)
  have y1 : decide ((cs.length : Int) ≤ (k : Int)) = false := decide_eq_false (by omega)
  have y1' : decide (cs.length ≤ k) = false := decide_eq_false (by omega)
  have y3 : (0 : Int) ≤ (k : Int) := by omega
  have y4 : (k : Int) < (cs.length : Int) := by omega
  have z0 : decide (v < 0) = false := decide_eq_false (by omega)
  have z1 : decide ((65535 : Int) < v) = false := decide_eq_false (by omega)
  have z2 : (x.depth == 0) = false := by simpa using hd
  have z3 : (((ls k).length : Int) == x.depth) = false := by simpa using hl
  have H := hid h1
  have H2 := hid h2
  obtain ⟨i0, hi0, hz0, hz1, hz2⟩ := info_parts info_int
  clear hx hv0 hv1 hd hl e0 e1 a0 a1 a2 h1 h2
  go_enter Tryz.func18, Tryz.ntmps18
  go_wp2_with fail
  go_quiet (fail)
  obtain ⟨W1, hwq, hb1, hx1⟩ : ∃ W, (w.alloc (.cells #[.int .i64 0, .bool false, .int .i64 0] 71)).drewN nq = W ∧ Below w.heap.size w W ∧ Blk W w.heap.size 71 [.int .i64 0, .bool false, .int .i64 0] := ⟨_, rfl, below_drewN (below_alloc1 w _) nq, (Blk.new w _ [.int .i64 0, .bool false, .int .i64 0]).drewN nq⟩
  rw [hwq]
  have hszW : W1.heap.size = w.heap.size + 1 := by rw [← hwq]; simp [World.drewN]
  clear hwq c0 c1 d0 d1 d2 f0
  have H1 := hid (H.out.keep hb1.size (fun b hb => hb1.block b (H.out.lt hb)))
  have c1 : W1.cell? ⟨gR, 1, none⟩ = some (.slice (some ⟨gL, 0, none⟩) cs.length cs.length) := H1.out.blk.cellAt rfl
  have f0 : W1.cell? ⟨gL, k, none⟩ = some (.slice (ra k) (ls k).length (rc k)) := H1.out.row.cellAt (rowCs_get hk)
  have HSZ := hid hszW
  clear hszW
  go_wp2_with (at_builtin; refine wpList_row W1 rfl (.tmp 74) (.tmp 81) _ rfl 3 i0 _ 8 Tryz.underlying51 hi0 hz0 hz1 hz2 rfl none 0 0 [] rfl (Row.nil _ _) W1.heap.size (ra k) (ls k).length (rc k) ((ls k).map iV) rfl (H1.out.rds k hk).1 (oneCell_is _) (by simp [maxLen]; omega) (by omega) (ls k).length (Nat.zero_add _) ?_; intro A2 c2 w2 hrow2 hg2 hA2; have hb2 : Below W1.heap.size W1 w2 := (Below.refl _ _).grown hg2 (Nat.le_refl _) (fun k hk => by cases hk); have z1 : w2.cell? ⟨gR, 1, none⟩ = some (.slice (some ⟨gL, 0, none⟩) cs.length cs.length) := (H1.out.blk.belowS hb2).cellAt rfl)
  have hrow2' : Row w2 3 A2 (ls k).length c2 ((ls k).map iV) := by simpa using hrow2
  have HR2 := hid hrow2'
  have HG2 := hid (H1.out.keep hb2.size (fun b hb => hb2.block b (H1.out.lt hb)))
  have hx2 := hid (hx1.belowS hb2)
  have hk2 : ∀ j, (Value.slice A2 (ls k).length c2).ownBlock = some j → W1.heap.size ≤ j := fun j hj => by
    rcases hA2 with e | e
    · subst e; simp [Value.ownBlock] at hj
    · subst e; simp [Value.ownBlock] at hj; omega
  have hfA2 : ∀ b, Foot A2 b → W1.heap.size ≤ b := fun b hb => by
    obtain ⟨a, ha, rfl⟩ := hb
    exact hk2 a.block (by rw [ha]; rfl)
  have HK2 := hid hk2
  have HFA := hid hfA2
  have hle2 := hid hb2.size
  have hb02 := hid (hb1.trans (hb2.mono hb1.size))
  have hgr : gR < W1.heap.size := H1.out.blk.lt
  have hgl : gL < W1.heap.size := H1.out.row.lt
  have hgl0 : gL < w.heap.size := H.out.row.lt
  have hgr0 : gR < w.heap.size := H.out.blk.lt
  have c1 : w2.cell? ⟨gR, 1, none⟩ = some (.slice (some ⟨gL, 0, none⟩) cs.length cs.length) := HG2.out.blk.cellAt rfl
  have f0 : w2.cell? ⟨gL, k, none⟩ = some (.slice (ra k) (ls k).length (rc k)) := HG2.out.row.cellAt (rowCs_get hk)
  have g1 := HG2.out.row.frozen k
  have g2 : ∀ o, (w2.alloc o).frozen? ⟨gL, k, none⟩ = false := fun o => (HG2.out.row.alloc o).frozen k
  have g3 : ∀ o, (w2.alloc o).drew.frozen? ⟨gL, k, none⟩ = false := fun o => (HG2.out.row.alloc o).drew.frozen k
  have hne1 := H.out.n1
  have hne2 := H.out.n1.symm
  clear hrow2 hrow2' hA2 hk2 hfA2 hb2 z1 hg2 hx1
  go_region_held3 (fun w' => w'.cell? ⟨gR, 1, none⟩ = some (.slice (some ⟨gL, 0, none⟩) cs.length cs.length) ∧ w'.frozen? ⟨gL, k, none⟩ = false) (go_keep)
    (first | (refine step_row _ (by rfl) _ _ _ (by rfl) 3 i0 _ 8 Tryz.underlying51 hi0 hz0 hz1 hz2 rfl A2 (ls k).length c2 ((ls k).map iV) (by rfl) (by first | exact HR2.out.alloc _ | exact (HR2.out.alloc _).drew) (w2.heap.size + 1) (some ⟨w2.heap.size, 0, none⟩) 1 1 [iV v] (by rfl) (by first | exact Reads.new w2 #[iV v] _ 1 rfl | exact (Reads.new w2 #[iV v] _ 1 rfl).drew) (by simp [iV, Value.oneCell']) (by simp [maxLen]; omega) (by omega) (ls k ++ [v]).length (by simp) ?_; intro A3 c3 w3 hrow3 hg3 hA3; have hb3 : Below W1.heap.size w2 w3 := (by first | exact (bel_alloc_drew hle2.out _).1.grown hg3 (Nat.le_trans hle2.out (by simp)) HK2.out | exact (bel_alloc_drew hle2.out _).2.grown hg3 (Nat.le_trans hle2.out (by simp [World.drew])) HK2.out); have HB3 := hid hb3; have HR3 := hid hrow3; have HA3 := hid hA3; have z1 : w3.cell? ⟨gR, 1, none⟩ = some (.slice (some ⟨gL, 0, none⟩) cs.length cs.length) := (hb3.cell (p := ⟨gR, 1, none⟩) hgr).trans c1; have z2 : w3.frozen? ⟨gL, k, none⟩ = false := (hb3.frozen (p := ⟨gL, k, none⟩) hgl).trans g1; have z3 : w3.cell? ⟨gL, k, none⟩ = some (.slice (ra k) (ls k).length (rc k)) := (hb3.cell (p := ⟨gL, k, none⟩) hgl).trans f0; clear hb3 hg3 hrow3 hA3))
  have hx3 := hid (hx2.out.below HB3.out (by have := HSZ.out; omega))
  have m1 : gL ≠ w.heap.size := by omega
  have m2 : w.heap.size ≠ gL := by omega
  have t0 : ∀ u, (w3.setCell ⟨gL, k, none⟩ u).cell? ⟨w.heap.size, 0, none⟩ = some (.int .i64 0) := fun u => (hx3.out.far (p := ⟨gL, k, none⟩) m2 u).cellAt rfl
  have t1 : ∀ u, (w3.setCell ⟨gL, k, none⟩ u).cell? ⟨w.heap.size, 1, none⟩ = some (.bool false) := fun u => (hx3.out.far (p := ⟨gL, k, none⟩) m2 u).cellAt rfl
  have t2 : ∀ u, (w3.setCell ⟨gL, k, none⟩ u).cell? ⟨w.heap.size, 2, none⟩ = some (.int .i64 0) := fun u => (hx3.out.far (p := ⟨gL, k, none⟩) m2 u).cellAt rfl
  have s0 : ∀ u i, (w3.setCell ⟨gL, k, none⟩ u).frozen? ⟨w.heap.size, i, none⟩ = false := fun u i => (hx3.out.far (p := ⟨gL, k, none⟩) m2 u).frozen i
  clear z1 z2 z3 c1 f0 g1 g2 g3
  go_wp2_with fail
  have r0 : ∀ U a, ((w3.setCell ⟨gL, k, none⟩ U).setCell ⟨w.heap.size, 0, none⟩ a).cell? ⟨w.heap.size, 0, none⟩ = some a := fun U a => ((hx3.out.far (p := ⟨gL, k, none⟩) m2 U).set_ 0 a).cellAt (i := 0) rfl
  have r1 : ∀ U a b, (((w3.setCell ⟨gL, k, none⟩ U).setCell ⟨w.heap.size, 0, none⟩ a).setCell ⟨w.heap.size, 1, none⟩ b).cell? ⟨w.heap.size, 1, none⟩ = some b := fun U a b => (((hx3.out.far (p := ⟨gL, k, none⟩) m2 U).set_ 0 a).set_ 1 b).cellAt (i := 1) rfl
  have r2 : ∀ U a b c, ((((w3.setCell ⟨gL, k, none⟩ U).setCell ⟨w.heap.size, 0, none⟩ a).setCell ⟨w.heap.size, 1, none⟩ b).setCell ⟨w.heap.size, 2, none⟩ c).cell? ⟨w.heap.size, 2, none⟩ = some c := fun U a b c => ((((hx3.out.far (p := ⟨gL, k, none⟩) m2 U).set_ 0 a).set_ 1 b).set_ 2 c).cellAt (i := 2) rfl
  refine bodyPost_ret (v := toldV 0 true 0) (by simp [results, Tryz.results18, go_sem, r0, r1, r2, toldV]) rfl ?_
  have hB03 : Below w.heap.size w w3 := hb02.out.trans (HB3.out.mono hb1.size)
  have hrow3 : Row w3 3 A3 (ls k ++ [v]).length c3 ((ls k ++ [v]).map iV) := by
    have h9 := HR3.out
    rw [List.map_append]
    exact h9
  have hA3 : ∀ b, Foot A3 b → w.heap.size < b := fun b hb => by
    have h8 := HSZ.out
    rcases HA3.out with e | e
    · rw [e] at hb
      have := HFA.out b hb
      omega
    · obtain ⟨a, ha, rfl⟩ := hb
      rw [e] at ha
      injection ha with ha
      subst ha
      have := hle2.out
      simp [World.drew]
      omega
  obtain ⟨F', hF1, hF2⟩ := H.out.put hk (l' := ls k ++ [v]) (u := .slice (ra k) (ls k).length (rc k)) (Apart.of_below hB03) (by rw [rowCs_self hk]; exact H.out.row.belowS hB03) hrow3 hA3 (.int .i64 0) (.bool true) (.int .i64 0)
  exact ⟨F', rfl, by simpa using hF1, Goes.of_iff H2.out (by simpa using hF2)⟩
set_option maxRecDepth 100000 in
set_option maxHeartbeats 1000000 in
theorem refSend_last (h : RefAt w F gR cs ls) {k : Nat} {x : ChanS} (hx : cs[k]? = some x) (v : Int) (hv0 : 0 ≤ v) (hv1 : v ≤ 65535) (hd : x.depth = 0) :
    Calls Tryz.prog 18 #[.pointer (some ⟨gR, 0, none⟩), .int .i64 x.src, .int .i64 (k : Int), .int .i64 v] w (RPost F w gR cs (.returned (toldV 0 true 0)) (setS ls k [v])) := by
  obtain ⟨AC, cC, gL, ra, rc, h1, h2⟩ := h
  have hk := (List.getElem?_eq_some_iff.1 hx).1
  obtain ⟨ad, yy, rfl, _, hy, e0, e1⟩ := h1.ends.at_ hk
  rw [hx] at hy
  injection hy with hy
  subst hy
  have a0 : w.cell? ⟨gR, 0, none⟩ = some (.slice (some ad) cs.length cC) := h1.blk.cellAt rfl
  have a1 : w.cell? ⟨gR, 1, none⟩ = some (.slice (some ⟨gL, 0, none⟩) cs.length cs.length) := h1.blk.cellAt rfl
  have a2 : w.cell? ⟨gL, k, none⟩ = some (.slice (ra k) (ls k).length (rc k)) := h1.row.cellAt (rowCs_get hk)
  have c0 := cell_alloc a0
  have c1 := cell_alloc a1
  have d0 := cell_alloc (e0 _ rfl)
  have d1 := cell_alloc (e1 0 _ rfl)
  have d2 := cell_alloc (e1 1 _ rfl)
  have f0 := cell_alloc a2
  have y0 : decide ((k : Int) < 0) = false := decide_eq_false (by omega)
  have y1 : decide ((cs.length : Int) ≤ (k : Int)) = false := decide_eq_false (by omega)
  have y1' : decide (cs.length ≤ k) = false := decide_eq_false (by omega)
  have y3 : (0 : Int) ≤ (k : Int) := by omega
  have y4 : (k : Int) < (cs.length : Int) := by omega
  have z0 : decide (v < 0) = false := decide_eq_false (by omega)
  have z1 : decide ((65535 : Int) < v) = false := decide_eq_false (by omega)
  have z2 : (x.depth == 0) = true := by simpa using hd
  have H := hid h1
  have H2 := hid h2
  obtain ⟨i0, hi0, hz0, hz1, hz2⟩ := info_parts info_int
  obtain ⟨o, ho⟩ : ∃ o, o = Obj.cells #[.int .i64 0, .bool false, .int .i64 0] 71 := ⟨_, rfl⟩
  obtain ⟨W1, hW1⟩ : ∃ W1, W1 = (w.setCell ⟨gL, k, none⟩ (.slice none 0 0)).alloc o := ⟨_, rfl⟩
  have hgl0 : gL < w.heap.size := h1.row.lt
  have hap1 : Apart (fun b => b = gL) w W1 := by
    rw [hW1]
    have h9 : Apart (fun b => b = gL) w (w.setCell ⟨gL, k, none⟩ (.slice none 0 0)) := (Apart.refl (fun b => b = gL) w).setCell (p := ⟨gL, k, none⟩) (.inl rfl) _
    exact h9.alloc o
  have hrow1 : Blk W1 gL 51 ((rowCs cs.length ra rc ls).set k (.slice none 0 0)) := by rw [hW1]; exact (h1.row.set_ k _).alloc o
  have hx1 : Blk W1 w.heap.size 71 [.int .i64 0, .bool false, .int .i64 0] := by
    rw [hW1, ho]
    exact Blk.newAt _ _ [.int .i64 0, .bool false, .int .i64 0] _ (by simp [World.setCell])
  have HSZ : Hid (W1.heap.size = w.heap.size + 1) := hid (by rw [hW1]; simp [World.setCell])
  have H1 := hid (h1.step hk (A' := none) (c' := 0) (l' := []) hap1 hrow1 Reads.empty ⟨Nat.le_refl _, by simp [maxLen]⟩ (fun b hb => by obtain ⟨a, ha, _⟩ := hb; cases ha))
  have HAP := hid hap1
  have HRW := hid hrow1
  have HX1 := hid hx1
  have HO := hid ho
  have HW := hid hW1
  have fr0 : ∀ o, (w.alloc o).frozen? ⟨gL, k, none⟩ = false := fun o => (h1.row.alloc o).frozen k
  have c5 : ∀ o u, ((w.setCell ⟨gL, k, none⟩ u).alloc o).cell? ⟨gR, 1, none⟩ = some (.slice (some ⟨gL, 0, none⟩) cs.length cs.length) := fun o u => ((h1.blk.far (p := ⟨gL, k, none⟩) h1.n1.symm u).alloc o).cellAt rfl
  have c6 : ∀ o u, ((w.setCell ⟨gL, k, none⟩ u).alloc o).cell? ⟨gL, k, none⟩ = some u := fun o u => ((h1.row.set_ k u).alloc o).cellAt (by rw [List.getElem?_set, if_pos rfl, if_pos (by unfold rowCs; simpa using hk)])
  clear hW1 ho hap1 hrow1 hx1 hx hv0 hv1 hd e0 e1 a0 a1 a2 h1 h2
  go_enter Tryz.func18, Tryz.ntmps18
  go_wp2_with (at_builtin; refine wpList_row _ rfl (.tmp 74) (.tmp 81) _ rfl 3 i0 _ 8 Tryz.underlying51 hi0 hz0 hz1 hz2 rfl none 0 0 [] rfl (Row.nil _ _) 0 none 0 0 [] rfl Reads.empty (by simp) (by simp [maxLen]) (by omega) 0 rfl ?_; intro A2 c2 w2 hrow2 hg2' hA2'; have hW1 := HW.out; rw [HO.out] at hW1; have hg2 : W1.grownBy w2 (Value.slice none 0 0).ownBlock := (by rw [hW1]; exact hg2'); have hA2 : A2 = none ∨ A2 = some ⟨W1.heap.size, 0, none⟩ := (by rw [hW1]; exact hA2'); have hb2 : Below W1.heap.size W1 w2 := (Below.refl _ _).grown hg2 (Nat.le_refl _) (fun k hk => by cases hk); have z1 : w2.cell? ⟨gR, 1, none⟩ = some (.slice (some ⟨gL, 0, none⟩) cs.length cs.length) := (H1.out.blk.belowS hb2).cellAt rfl; clear hg2' hA2' hW1)
  clear c5 c6 fr0 c0 c1 d0 d1 d2 f0
  have hx1 := HX1.out
  have hrow2' : Row w2 3 A2 0 c2 [] := by simpa using hrow2
  have HR2 := hid hrow2'
  have HG2 := hid (H1.out.keep hb2.size (fun b hb => hb2.block b (H1.out.lt hb)))
  have hx2 := hid (hx1.belowS hb2)
  have hk2 : ∀ j, (Value.slice A2 0 c2).ownBlock = some j → W1.heap.size ≤ j := fun j hj => by
    rcases hA2 with e | e
    · subst e; simp [Value.ownBlock] at hj
    · subst e; simp [Value.ownBlock] at hj; omega
  have hfA2 : ∀ b, Foot A2 b → W1.heap.size ≤ b := fun b hb => by
    obtain ⟨a, ha, rfl⟩ := hb
    exact hk2 a.block (by rw [ha]; rfl)
  have HK2 := hid hk2
  have HFA := hid hfA2
  have hle2 := hid hb2.size
  have hW1s : w.heap.size ≤ W1.heap.size := by have := HSZ.out; omega
  have HB2 := hid hb2
  have hap02 := hid (HAP.out.trans (Apart.of_below (F := fun _ => False) hb2) (fun _ _ h => h.elim))
  have hgr : gR < W1.heap.size := H1.out.blk.lt
  have hgl : gL < W1.heap.size := H1.out.row.lt
  have hgr0 : gR < w.heap.size := H.out.blk.lt
  have c1 : w2.cell? ⟨gR, 1, none⟩ = some (.slice (some ⟨gL, 0, none⟩) cs.length cs.length) := HG2.out.blk.cellAt rfl
  have f0 : w2.cell? ⟨gL, k, none⟩ = some (.slice none 0 0) := by have h := HG2.out.row.cellAt (rowCs_get hk); simpa [setS_same] using h
  have g1 := HG2.out.row.frozen k
  have g2 : ∀ o, (w2.alloc o).frozen? ⟨gL, k, none⟩ = false := fun o => (HG2.out.row.alloc o).frozen k
  have g3 : ∀ o, (w2.alloc o).drew.frozen? ⟨gL, k, none⟩ = false := fun o => (HG2.out.row.alloc o).drew.frozen k
  have hne1 := H.out.n1
  have hne2 := H.out.n1.symm
  clear hrow2 hrow2' hA2 hk2 hfA2 hb2 z1 hg2 hx1
  go_region_held3 (fun w' => w'.cell? ⟨gR, 1, none⟩ = some (.slice (some ⟨gL, 0, none⟩) cs.length cs.length) ∧ w'.frozen? ⟨gL, k, none⟩ = false) (go_keep)
    (first | (refine step_row _ (by rfl) _ _ _ (by rfl) 3 i0 _ 8 Tryz.underlying51 hi0 hz0 hz1 hz2 rfl A2 0 c2 [] (by rfl) (by first | exact HR2.out.alloc _ | exact (HR2.out.alloc _).drew) (w2.heap.size + 1) (some ⟨w2.heap.size, 0, none⟩) 1 1 [iV v] (by rfl) (by first | exact Reads.new w2 #[iV v] _ 1 rfl | exact (Reads.new w2 #[iV v] _ 1 rfl).drew) (by simp [iV, Value.oneCell']) (by first | (simp [maxLen]; done) | (simp [maxLen]; omega)) (by omega) 1 rfl ?_; intro A3 c3 w3 hrow3 hg3 hA3; have hb3 : Below W1.heap.size w2 w3 := (by first | exact (bel_alloc_drew hle2.out _).1.grown hg3 (Nat.le_trans hle2.out (by simp)) HK2.out | exact (bel_alloc_drew hle2.out _).2.grown hg3 (Nat.le_trans hle2.out (by simp [World.drew])) HK2.out); have HB3 := hid hb3; have HR3 := hid hrow3; have HA3 := hid hA3; have z1 : w3.cell? ⟨gR, 1, none⟩ = some (.slice (some ⟨gL, 0, none⟩) cs.length cs.length) := (hb3.cell (p := ⟨gR, 1, none⟩) hgr).trans c1; have z2 : w3.frozen? ⟨gL, k, none⟩ = false := (hb3.frozen (p := ⟨gL, k, none⟩) hgl).trans g1; have z3 : w3.cell? ⟨gL, k, none⟩ = some (.slice none 0 0) := (hb3.cell (p := ⟨gL, k, none⟩) hgl).trans f0; clear hb3 hg3 hrow3 hA3))
  have hx3 := hid (hx2.out.below HB3.out (by have := HSZ.out; omega))
  have m1 : gL ≠ w.heap.size := by omega
  have m2 : w.heap.size ≠ gL := by omega
  have t0 : ∀ u, (w3.setCell ⟨gL, k, none⟩ u).cell? ⟨w.heap.size, 0, none⟩ = some (.int .i64 0) := fun u => (hx3.out.far (p := ⟨gL, k, none⟩) m2 u).cellAt rfl
  have t1 : ∀ u, (w3.setCell ⟨gL, k, none⟩ u).cell? ⟨w.heap.size, 1, none⟩ = some (.bool false) := fun u => (hx3.out.far (p := ⟨gL, k, none⟩) m2 u).cellAt rfl
  have t2 : ∀ u, (w3.setCell ⟨gL, k, none⟩ u).cell? ⟨w.heap.size, 2, none⟩ = some (.int .i64 0) := fun u => (hx3.out.far (p := ⟨gL, k, none⟩) m2 u).cellAt rfl
  have s0 : ∀ u i, (w3.setCell ⟨gL, k, none⟩ u).frozen? ⟨w.heap.size, i, none⟩ = false := fun u i => (hx3.out.far (p := ⟨gL, k, none⟩) m2 u).frozen i
  clear z1 z2 z3 c1 f0 g1 g2 g3
  go_wp2_with fail
  have r0 : ∀ U a, ((w3.setCell ⟨gL, k, none⟩ U).setCell ⟨w.heap.size, 0, none⟩ a).cell? ⟨w.heap.size, 0, none⟩ = some a := fun U a => ((hx3.out.far (p := ⟨gL, k, none⟩) m2 U).set_ 0 a).cellAt (i := 0) rfl
  have r1 : ∀ U a b, (((w3.setCell ⟨gL, k, none⟩ U).setCell ⟨w.heap.size, 0, none⟩ a).setCell ⟨w.heap.size, 1, none⟩ b).cell? ⟨w.heap.size, 1, none⟩ = some b := fun U a b => (((hx3.out.far (p := ⟨gL, k, none⟩) m2 U).set_ 0 a).set_ 1 b).cellAt (i := 1) rfl
  have r2 : ∀ U a b c, ((((w3.setCell ⟨gL, k, none⟩ U).setCell ⟨w.heap.size, 0, none⟩ a).setCell ⟨w.heap.size, 1, none⟩ b).setCell ⟨w.heap.size, 2, none⟩ c).cell? ⟨w.heap.size, 2, none⟩ = some c := fun U a b c => ((((hx3.out.far (p := ⟨gL, k, none⟩) m2 U).set_ 0 a).set_ 1 b).set_ 2 c).cellAt (i := 2) rfl
  refine bodyPost_ret (v := toldV 0 true 0) (by simp [results, Tryz.results18, go_sem, r0, r1, r2, toldV]) rfl ?_
  have hB03 : Apart (fun b => b = gL) w w3 := hap02.out.trans (G := fun b => W1.heap.size ≤ b) ⟨HB3.out.os, HB3.out.tape, HB3.out.output, HB3.out.size, fun k _ hG => HB3.out.block k (by omega)⟩ (fun b h1 h2 => by omega)
  have hRW3 := (HRW.out.belowS HB2.out).below HB3.out hgl
  have hrow3 : Row w3 3 A3 ([v]).length c3 (([v]).map iV) := by
    simpa using HR3.out
  have hA3 : ∀ b, Foot A3 b → w.heap.size < b := fun b hb => by
    have h8 := HSZ.out
    rcases HA3.out with e | e
    · rw [e] at hb
      have := HFA.out b hb
      omega
    · obtain ⟨a, ha, rfl⟩ := hb
      rw [e] at ha
      injection ha with ha
      subst ha
      have := hle2.out
      simp [World.drew]
      omega
  obtain ⟨F', hF1, hF2⟩ := H.out.put hk (l' := [v]) (u := .slice none 0 0) hB03 hRW3 hrow3 hA3 (.int .i64 0) (.bool true) (.int .i64 0)
  exact ⟨F', rfl, by simpa using hF1, Goes.of_iff H2.out (by simpa using hF2)⟩
end
end Go.Proofs.YtidlahljhgglcaaGreat
