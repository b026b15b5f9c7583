/-
  The reference of layer 16: Get, Drain, New.
-/
import Derived.Test.YtidlahljhgglcaaGreatRef16S
namespace Go.Proofs.YtidlahljhgglcaaGreat
open Go.RowKit Go.ChangeShapes Go.WideShapes Go.ChangeAt

section
variable {w : World} {F : Nat → Prop} {gR : Nat} {cs : List ChanS} {ls : Nat → List Int}
/-- A list's rest stored for one channel, and the answer told. -/
theorem RefIn.put3 {AC : Option Addr} {cC gL : Nat} {ra : Nat → Option Addr} {rc : Nat → Nat} {w3 : World} (h : RefIn w gR cs AC cC gL ra rc ls) {k : Nat} (hk : k < cs.length)
    (ha : Apart (fun b => b = gL) w w3) {u : Value} (hrow : Blk w3 gL 51 ((rowCs cs.length ra rc ls).set k u)) {A3 : Option Addr} {c3 : Nat} {l' : List Int} (hu : u = .slice A3 l'.length c3) (hA : ∀ b, Foot A3 b → Foot (ra k) b) (hr : Reads w w.heap.size 1 A3 l'.length (l'.map iV)) (hc : l'.length ≤ c3 ∧ c3 ≤ maxLen) (x y z : Value) :
    ∃ F', RefAt (((w3.setCell ⟨w.heap.size, 0, none⟩ x).setCell ⟨w.heap.size, 1, none⟩ y).setCell ⟨w.heap.size, 2, none⟩ z) F' gR cs (setS ls k l') ∧
      Goes (RefF cs.length gR gL AC ra) w F' (((w3.setCell ⟨w.heap.size, 0, none⟩ x).setCell ⟨w.heap.size, 1, none⟩ y).setCell ⟨w.heap.size, 2, none⟩ z) := by
  subst hu
  have hgl := h.row.lt
  have hap := ((ha.setCell (p := ⟨w.heap.size, 0, none⟩) (.inr (Nat.le_refl _)) x).setCell (p := ⟨w.heap.size, 1, none⟩) (.inr (Nat.le_refl _)) y).setCell (p := ⟨w.heap.size, 2, none⟩) (.inr (Nat.le_refl _)) z
  have hbl := ((hrow.far (p := ⟨w.heap.size, 0, none⟩) (by show gL ≠ w.heap.size; omega) x).far (p := ⟨w.heap.size, 1, none⟩) (by show gL ≠ w.heap.size; omega) y).far (p := ⟨w.heap.size, 2, none⟩) (by show gL ≠ w.heap.size; omega) z
  have hno : ∀ b, Foot A3 b → b ≠ gL ∧ b < w.heap.size := fun b hb => ⟨fun e => h.n3 k hk (e ▸ hA b hb), h.fl k hk b (hA b hb)⟩
  exact ⟨_, (h.step hk hap hbl (hr.keepF hap.size (fun b hb => hap.block b (hno b hb).2 (hno b hb).1)) hc (fun b hb => ⟨(hno b hb).1, Nat.lt_of_lt_of_le (hno b hb).2 hap.size⟩)).at_, h.goes hk hap (fun b hb => .inl (hA b hb))⟩
set_option maxRecDepth 100000 in
theorem refGet_bad (h : RefAt w F gR cs ls) (p k : Int) (hk : ¬ (0 ≤ k ∧ k < cs.length) ∨ ∃ x, cs[k.toNat]? = some x ∧ 0 ≤ k ∧ x.dst ≠ p) :
    Calls Tryz.prog 84 #[.pointer (some ⟨gR, 0, none⟩), .int .i64 p, .int .i64 k] w fun e w' => e = .returned (toldV 0 false 15) ∧ Below w.heap.size w w' := by
  rcases hk with hk | ⟨x, hx, h0, hp⟩
  · obtain ⟨AC, cC, gL, ra, rc, h1, h2⟩ := h
    have c0 : ∀ o, (w.alloc o).cell? ⟨gR, 0, none⟩ = some (.slice AC cs.length cC) := fun o => (h1.blk.alloc o).cellAt rfl
    clear h1 h2
    by_cases hk0 : k < 0
    · have y0 : decide (k < 0) = true := decide_eq_true hk0
      clear hk0 hk
      go_enter Tryz.func84, Tryz.ntmps84
      go_wp2_with fail
      go_returns
      exact ⟨rfl, below_alloc1 _ _⟩
    · have y0 : decide (k < 0) = false := decide_eq_false hk0
      have y1 : decide ((cs.length : Int) ≤ k) = true := decide_eq_true (by omega)
      clear hk0 hk
      go_enter Tryz.func84, Tryz.ntmps84
      go_wp2_with fail
      go_returns
      exact ⟨rfl, below_alloc1 _ _⟩
  · obtain ⟨j, rfl⟩ : ∃ j : Nat, k = (j : Int) := ⟨k.toNat, by omega⟩
    rw [Int.toNat_natCast] at hx
    obtain ⟨ad, cC, gL, A, c, a0, a1, b0, b1, b2, e0⟩ := h.rcells hx
    have c0 := cell_alloc a0
    have c1 := cell_alloc a1
    have d0 := cell_alloc b0
    have d1 := cell_alloc b1
    have d2 := cell_alloc b2
    have f0 := cell_alloc e0
    have hj := (List.getElem?_eq_some_iff.1 hx).1
    have y0 : decide ((j : Int) < 0) = false := decide_eq_false (by omega)
    have y1 : decide ((cs.length : Int) ≤ (j : Int)) = false := decide_eq_false (by omega)
    have y1' : decide (cs.length ≤ j) = false := decide_eq_false (by omega)
    have y2 : (x.dst == p) = false := by simpa using hp
    have y3 : (0 : Int) ≤ (j : Int) := by omega
    have y4 : (j : Int) < (cs.length : Int) := by omega
    clear hp h0 hx h
    go_enter Tryz.func84, Tryz.ntmps84
    go_wp2_with fail
    go_returns
    exact ⟨rfl, below_alloc1 _ _⟩
set_option maxRecDepth 100000 in
theorem refGet_none (h : RefAt w F gR cs ls) {k : Nat} {x : ChanS} (hx : cs[k]? = some x) (hl : ls k = []) :
    Calls Tryz.prog 84 #[.pointer (some ⟨gR, 0, none⟩), .int .i64 x.dst, .int .i64 (k : Int)] w fun e w' => e = .returned (toldV 0 false 0) ∧ Below w.heap.size w w' := by
  obtain ⟨ad, cC, gL, A, c, a0, a1, b0, b1, b2, e0⟩ := h.rcells hx
  have c0 := cell_alloc a0
  have c1 := cell_alloc a1
  have d0 := cell_alloc b0
  have d1 := cell_alloc b1
  have d2 := cell_alloc b2
  have f0 := cell_alloc e0
  have hj := (List.getElem?_eq_some_iff.1 hx).1
  have y0 : decide ((k : Int) < 0) = false := decide_eq_false (by omega)
  have y1 : decide ((cs.length : Int) ≤ (k : Int)) = false := decide_eq_false (by omega)
  have y1' : decide (cs.length ≤ k) = false := decide_eq_false (by omega)
  have y3 : (0 : Int) ≤ (k : Int) := by omega
  have y4 : (k : Int) < (cs.length : Int) := by omega
  rw [hl] at f0
  clear hx h hj hl e0
  go_enter Tryz.func84, Tryz.ntmps84
  go_wp2_with fail
  go_returns
  exact ⟨rfl, below_alloc1 _ _⟩
set_option maxRecDepth 100000 in
set_option maxHeartbeats 1000000 in
theorem refGet_last (h : RefAt w F gR cs ls) {k : Nat} {x : ChanS} (hx : cs[k]? = some x) {y : Int} {l : List Int} (hl : ls k = y :: l) (hd : x.depth = 0) :
    Calls Tryz.prog 84 #[.pointer (some ⟨gR, 0, none⟩), .int .i64 x.dst, .int .i64 (k : Int)] w fun e w' => e = .returned (toldV y true 0) ∧ Below w.heap.size w w' := by
  obtain ⟨AC, cC, gL, ra, rc, h1, h2⟩ := h
  have hk := (List.getElem?_eq_some_iff.1 hx).1
  obtain ⟨ad, yy, rfl, _, hy, e0, e1⟩ := h1.ends.at_ hk
  rw [hx] at hy
  injection hy with hy
  subst hy
  have a0 : w.cell? ⟨gR, 0, none⟩ = some (.slice (some ad) cs.length cC) := h1.blk.cellAt rfl
  have a1 : w.cell? ⟨gR, 1, none⟩ = some (.slice (some ⟨gL, 0, none⟩) cs.length cs.length) := h1.blk.cellAt rfl
  have hrk := h1.rds k hk
  have a2 : w.cell? ⟨gL, k, none⟩ = some (.slice (ra k) (ls k).length (rc k)) := h1.row.cellAt (rowCs_get hk)
  rw [hl] at hrk a2
  obtain ⟨adL, u, hra, hadl, hu, a3⟩ := hrk.1.at_ (k := 0) (by simp)
  obtain rfl : iV y = u := by simpa using hu
  rw [Addr.add_zero'] at a3
  rw [hra] at a2
  have c0 := cell_alloc a0
  have c1 := cell_alloc a1
  have d0 := cell_alloc (e0 _ rfl)
  have d1 := cell_alloc (e1 0 _ rfl)
  have d2 := cell_alloc (e1 1 _ rfl)
  have f0 := cell_alloc a2
  have f1 := cell_alloc a3
  have y5 : (0 : Int) < (l.length : Int) + 1 := by omega
  have y6 : (((l.length : Int) + 1) == 0) = false := by simp; omega
  have y7 : (((l.length + 1 : Nat) : Int) == 0) = false := by simp; omega
  have y8 : (1 : Int) ≤ (l.length : Int) + 1 := by omega
  have y0 : decide ((k : Int) < 0) = false := decide_eq_false (by omega)
  have y1 : decide ((cs.length : Int) ≤ (k : Int)) = false := decide_eq_false (by omega)
  have y1' : decide (cs.length ≤ k) = false := decide_eq_false (by omega)
  have y3 : (0 : Int) ≤ (k : Int) := by omega
  have y4 : (k : Int) < (cs.length : Int) := by omega
  have z2 : decide (0 < x.depth) = false := decide_eq_false (by omega)
  clear hx h1 h2 hrk a0 a1 a2 a3 e0 e1 hl hu hra hd
  go_enter Tryz.func84, Tryz.ntmps84
  go_wp2_with fail
  go_returns
  exact ⟨rfl, below_alloc1 _ _⟩
set_option maxRecDepth 100000 in
set_option maxHeartbeats 1000000 in
theorem refGet_row (h : RefAt w F gR cs ls) {k : Nat} {x : ChanS} (hx : cs[k]? = some x) {y : Int} {l : List Int} (hl : ls k = y :: l) (hd : 0 < x.depth) :
    Calls Tryz.prog 84 #[.pointer (some ⟨gR, 0, none⟩), .int .i64 x.dst, .int .i64 (k : Int)] w (RPost F w gR cs (.returned (toldV y true 0)) (setS ls k l)) := by
  obtain ⟨AC, cC, gL, ra, rc, h1, h2⟩ := h
  have hk := (List.getElem?_eq_some_iff.1 hx).1
  obtain ⟨ad, yy, rfl, _, hy, e0, e1⟩ := h1.ends.at_ hk
  rw [hx] at hy
  injection hy with hy
  subst hy
  have a0 : w.cell? ⟨gR, 0, none⟩ = some (.slice (some ad) cs.length cC) := h1.blk.cellAt rfl
  have a1 : w.cell? ⟨gR, 1, none⟩ = some (.slice (some ⟨gL, 0, none⟩) cs.length cs.length) := h1.blk.cellAt rfl
  have hrk := h1.rds k hk
  have a2 : w.cell? ⟨gL, k, none⟩ = some (.slice (ra k) (ls k).length (rc k)) := h1.row.cellAt (rowCs_get hk)
  rw [hl] at hrk a2
  obtain ⟨adL, u, hra, hadl, hu, a3⟩ := hrk.1.at_ (k := 0) (by simp)
  obtain rfl : iV y = u := by simpa using hu
  rw [Addr.add_zero'] at a3
  rw [hra] at a2
  have c0 := cell_alloc a0
  have c1 := cell_alloc a1
  have d0 := cell_alloc (e0 _ rfl)
  have d1 := cell_alloc (e1 0 _ rfl)
  have d2 := cell_alloc (e1 1 _ rfl)
  have f0 := cell_alloc a2
  have f1 := cell_alloc a3
  have y5 : (0 : Int) < (l.length : Int) + 1 := by omega
  have y6 : (((l.length : Int) + 1) == 0) = false := by simp; omega
  have y7 : (((l.length + 1 : Nat) : Int) == 0) = false := by simp; omega
  have y8 : (1 : Int) ≤ (l.length : Int) + 1 := by omega
  have y0 : decide ((k : Int) < 0) = false := decide_eq_false (by omega)
  have y1 : decide ((cs.length : Int) ≤ (k : Int)) = false := decide_eq_false (by omega)
  have y1' : decide (cs.length ≤ k) = false := decide_eq_false (by omega)
  have y3 : (0 : Int) ≤ (k : Int) := by omega
  have y4 : (k : Int) < (cs.length : Int) := by omega
  have z2 : decide (0 < x.depth) = true := decide_eq_true hd
  have g1 : ∀ o, (w.alloc o).frozen? ⟨gL, k, none⟩ = false := fun o => (h1.row.alloc o).frozen k
  have H := hid h1
  have H2 := hid h2
  have HL := hid hl
  have HRA := hid hra
  have HRK := hid hrk
  have y9 : ((l.length : Int) + 1) ≤ (rc k : Int) := by have := hrk.2.1; simp at this; omega
  have y10 : (1 : Int) ≤ (rc k : Int) := by omega
  have y11 : (rc k : Int) ≤ 9223372036854775807 := by have := hrk.2.2; simp only [maxLen] at this; omega
  clear hx h1 h2 hrk a0 a1 a2 a3 e0 e1 hl hu hra hd
  go_enter Tryz.func84, Tryz.ntmps84
  go_wp2_with fail
  go_region
  obtain ⟨AA, hAA⟩ : ∃ AA, AA = (if rc k = 1 then some adL else some (⟨adL.block, adL.off + 1, none⟩ : Addr)) := ⟨_, rfl⟩
  rw [← hAA]
  have HAA := hid hAA
  clear hAA
  obtain ⟨U, hU⟩ : ∃ U, U = Value.slice AA l.length (rc k - 1) := ⟨_, rfl⟩
  rw [← hU]
  have hgl : gL < w.heap.size := H.out.row.lt
  have m1 : gL ≠ w.heap.size := by omega
  have m2 : w.heap.size ≠ gL := by omega
  obtain ⟨W, hwq, hapW, hrowW, hxW⟩ : ∃ W, ((w.alloc (.cells #[.int .i64 0, .bool false, .int .i64 0] 71)).setCell ⟨gL, k, none⟩ U).drew = W ∧ Apart (fun b => b = gL) w W ∧ Blk W gL 51 ((rowCs cs.length ra rc ls).set k U) ∧ Blk W w.heap.size 71 [.int .i64 0, .bool false, .int .i64 0] := by
    have h9 : Apart (fun b => b = gL) w (w.alloc (.cells #[.int .i64 0, .bool false, .int .i64 0] 71)) := Apart.of_below (below_alloc1 w _)
    exact ⟨_, rfl, (h9.setCell (p := ⟨gL, k, none⟩) (.inl rfl) U).drew, ((H.out.row.alloc _).set_ k U).drew, ((Blk.new w _ [.int .i64 0, .bool false, .int .i64 0]).far (p := ⟨gL, k, none⟩) m2 U).drew⟩
  rw [hwq]
  have t0 : W.cell? ⟨w.heap.size, 0, none⟩ = some (.int .i64 0) := hxW.cellAt rfl
  have t1 : W.cell? ⟨w.heap.size, 1, none⟩ = some (.bool false) := hxW.cellAt rfl
  have t2 : W.cell? ⟨w.heap.size, 2, none⟩ = some (.int .i64 0) := hxW.cellAt rfl
  have s0 : ∀ i, W.frozen? ⟨w.heap.size, i, none⟩ = false := fun i => hxW.frozen i
  have HAP := hid hapW
  have HRW := hid hrowW
  have HXW := hid hxW
  have HU := hid hU
  clear hwq hapW hrowW hxW hU c0 c1 d0 d1 d2 f0 f1 g1
  go_wp2_with fail
  have r0 : ∀ a, (W.setCell ⟨w.heap.size, 0, none⟩ a).cell? ⟨w.heap.size, 0, none⟩ = some a := fun a => (HXW.out.set_ 0 a).cellAt (i := 0) rfl
  have r1 : ∀ a b, ((W.setCell ⟨w.heap.size, 0, none⟩ a).setCell ⟨w.heap.size, 1, none⟩ b).cell? ⟨w.heap.size, 1, none⟩ = some b := fun a b => ((HXW.out.set_ 0 a).set_ 1 b).cellAt (i := 1) rfl
  have r2 : ∀ a b c, (((W.setCell ⟨w.heap.size, 0, none⟩ a).setCell ⟨w.heap.size, 1, none⟩ b).setCell ⟨w.heap.size, 2, none⟩ c).cell? ⟨w.heap.size, 2, none⟩ = some c := fun a b c => (((HXW.out.set_ 0 a).set_ 1 b).set_ 2 c).cellAt (i := 2) rfl
  refine bodyPost_ret (v := toldV y true 0) (by simp [results, Tryz.results84, go_sem, r0, r1, r2, toldV, iV]) rfl ?_
  have hF := H.out.put3 hk HAP.out (u := U) HRW.out HU.out (A3 := AA) (l' := l) (fun b hb => by
      rw [HRA.out]
      obtain ⟨a, ha, rfl⟩ := hb
      rw [HAA.out] at ha
      by_cases h1 : rc k = 1
      · rw [if_pos h1] at ha
        injection ha with ha
        exact ⟨adL, rfl, by rw [ha]⟩
      · rw [if_neg h1] at ha
        injection ha with ha
        exact ⟨adL, rfl, by rw [← ha]⟩)
    (by
      have h9 := HRK.out.1
      rw [HRA.out] at h9
      rw [HAA.out]
      refine ⟨by simp, fun hn => ?_⟩
      have h8 := HRK.out.2.1
      rw [if_neg (by simp at h8; omega)]
      obtain ⟨a', e, hb, hc⟩ := h9.2 (by simp)
      injection e with e
      subst e
      refine ⟨_, rfl, hb, fun j u hu => ?_⟩
      have := hc (j + 1) u (by simpa using hu)
      rw [Addr.add_succ'] at this
      rw [Addr.add_lit, show adL.off + 1 + j = adL.off + (j + 1) by omega]
      exact this)
    (by have h8 := HRK.out.2; simp at h8; omega) (iV y) (.bool true) (.int .i64 0)
  obtain ⟨F', hF1, hF2⟩ := hF
  exact ⟨F', rfl, hF1, Goes.of_iff H2.out hF2⟩
/-! ### Drain. -/
def drainL (cs : List ChanS) (p : Int) (k : Nat) (ls : Nat → List Int) (j : Nat) : List Int := if j < k ∧ (cs.getD j ⟨0, 0, 0⟩).dst = p then [] else ls j
theorem drainL_zero (cs : List ChanS) (p : Int) (ls : Nat → List Int) : drainL cs p 0 ls = ls := by funext j; simp [drainL]
theorem drainL_yes (cs : List ChanS) (p : Int) (k : Nat) (ls : Nat → List Int) (h : (cs.getD k ⟨0, 0, 0⟩).dst = p) : setS (drainL cs p k ls) k [] = drainL cs p (k + 1) ls := by
  funext j
  by_cases hjk : j = k
  · subst hjk
    rw [setS_same]
    unfold drainL
    rw [if_pos ⟨Nat.lt_succ_self _, h⟩]
  · rw [setS_other _ _ _ _ hjk]
    unfold drainL
    have : (j < k) = (j < k + 1) := by apply propext; omega
    simp only [this]
theorem drainL_no (cs : List ChanS) (p : Int) (k : Nat) (ls : Nat → List Int) (h : (cs.getD k ⟨0, 0, 0⟩).dst ≠ p) : drainL cs p k ls = drainL cs p (k + 1) ls := by
  funext j
  unfold drainL
  by_cases hjk : j = k
  · subst hjk
    rw [if_neg (fun e => absurd e.1 (Nat.lt_irrefl _)), if_neg (fun e => h e.2)]
  · have : (j < k) = (j < k + 1) := by apply propext; omega
    simp only [this]
end
/-! ### New. -/
theorem info_ints : (Tryz.prog.info? 51).map (fun i => (i.zero, i.size, i.bytes)) = some (some (.slice none 0 0), 1, 24) := by kernel_rfl
set_option maxRecDepth 100000 in
theorem makeRows (w : World) {ops : Array Oper} {rest : List Oper} {o : Oper} {a : Act} {Q : Exit → Act → World → Prop}
    (hg : o.guard = none) (l : Operand) (hop : o.op = Op.makeSlice 98 l l) (n : Nat) (hl : a.eval l = .int .i64 (n : Int)) (hn : n ≤ 100000)
    (hK : ∀ w', Blk w' w.heap.size 51 (rowCs n (fun _ => none) (fun _ => 0) (fun _ => [])) → Below w.heap.size w w' → wpList Tryz.prog ops Q rest (a.put o.dst (.slice (some ⟨w.heap.size, 0, none⟩) n n)) w') :
    wpList Tryz.prog ops Q (o :: rest) a w := by
  obtain ⟨i0, hi0, hz0, hz1, hz2⟩ := info_parts info_ints
  refine wpList_make_full w hg l l _ hop w.heap.size 51 i0 _ 1 Tryz.underlying98 hi0 hz0 hz1 .i64 .i64 _ _ n hl hl rfl rfl (by rw [hz2]; omega) (by simp [maxLen]; omega) (Nat.le_refl _) ?_
  intro w' h1 h2
  refine hK w' ?_ ((Below.refl _ _).grown h2 (Nat.le_refl _) (by simp))
  have e : (madeCells (Value.slice none 0 0).cells (n * 1)).toList = rowCs n (fun _ => none) (fun _ => 0) (fun _ => []) := by
    rw [show (Value.slice none 0 0).cells = #[.slice none 0 0] from rfl, toList_madeCells_one]
    apply List.ext_getElem?
    intro j
    by_cases hj : j < n
    · rw [rowCs_get hj, List.getElem?_replicate, if_pos (by omega)]
      rfl
    · rw [List.getElem?_replicate, if_neg (by omega), eq_comm, List.getElem?_eq_none_iff]
      unfold rowCs
      simp
      omega
  rw [e] at h1
  rcases h1.2 with ⟨hv, _⟩ | ⟨g, cap, cur, hv, _, hgc, _, _, hcs, htk⟩
  · injection hv with hv
    cases hv
  · injection hv with hv1 _ hv3
    injection hv1 with hv1
    injection hv1 with hv1
    subst hv3
    rw [← hv1] at hgc
    have e2 : cur.toList = rowCs n (fun _ => none) (fun _ => 0) (fun _ => []) := by
      rw [← htk, List.take_of_length_le (by simp; omega)]
    show w'.heap[w.heap.size]? = some (.cells (rowCs n (fun _ => none) (fun _ => 0) (fun _ => [])).toArray 51 (0, 0))
    rw [hgc, ← e2]
theorem step_srcR {P : Program} (w : World) {ops : Array Oper} {o : Oper} {a : Act} {K : Act → World → Prop} {Q : Exit → Act → World → Prop} {E : Prop} (hgd : o.guard = none) (s x : Operand) (t : TypeId)
    (ho : o.op = .call { callee := .builtin .append, args := #[s, x], argTypes := #[t, t] })
    (base : Nat) (e : TypeId) (i : TypeInfo) (z : Value) (size bytes : Nat) (ht : P.underlying t = some (.slice e)) (hi : P.info? e = some i) (hz : i.zero = some z)
    (hsize : i.size = size) (hby : i.bytes = bytes) (hzs : z.cells.size = size) (hsz : 0 < size)
    (v : Value) (n : Nat) (xs : List Value) (hs : a.eval s = v) (hown : w.ownsRow base e size v n xs)
    (B : Nat) (A : Option Addr) (m c : Nat) (news : List Value) (hx : a.eval x = .slice A m c) (hr : Reads w B size A m news) (h1 : ∀ u ∈ news, u.oneCell' = true)
    (h63 : n + m ≤ maxLen) (hbytes : (n + m) * bytes ≤ 140737488355328) (hbase : base ≤ w.heap.size) (N : Nat) (hN : n + m = N)
    (h : ∀ A' c' w', w'.ownsRow base e size (.slice A' N c') N (xs ++ news) → w.grownBy w' v.ownBlock → Below base w w' → K (a.put o.dst (.slice A' N c')) w') :
    if Region.wanted o (yielded ops a.tmps) = true then Oper.wp P o a w K Q else E := by
  have hw : Region.wanted o (yielded ops a.tmps) = true := by simp [Region.wanted, hgd]
  rw [if_pos hw]
  subst hN
  exact wp_append_src w s x t ho base e i z size bytes ht hi hz hsize hby hzs hsz v n xs hs hown B A m c news hx hr h1 h63 hbytes hbase fun A' c' w' h2 h3 _ => h A' c' w' h2 h3 (below_own (Below.refl _ _) hown h3 (Nat.le_refl _) hbase)
theorem refNew (t : TabS) (a : TabA) (w : World) (h : TabOk w t a) :
    Calls Tryz.prog 7 #[.agg #[.int .i64 t.frame, .slice a.A1 t.parts.length a.c1, .slice a.A2 t.wins.length a.c2, .slice a.A3 t.chans.length a.c3, .int .i64 t.trial]] w fun e w' => ∃ F g, e = .returned (.pointer (some ⟨g, 0, none⟩)) ∧ RefAt w' F g t.chans (fun _ => []) ∧ Below w.heap.size w w' ∧ ∀ b, F b → w.heap.size ≤ b := by
  obtain ⟨A1, k1, A2, k2, A3, k3⟩ := a
  simp only
  obtain ⟨w1, hw1, hb1, hblk1, hs1⟩ := tabP_in t ⟨A1, k1, A2, k2, A3, k3⟩ w
  simp only at hw1 hblk1
  obtain ⟨c0, c1, c2, c3, c4⟩ : _ ∧ _ ∧ _ ∧ _ ∧ _ := ⟨hblk1.cellAt (i := 0) rfl, hblk1.cellAt (i := 1) rfl, hblk1.cellAt (i := 2) rfl, hblk1.cellAt (i := 3) rfl, hblk1.cellAt (i := 4) rfl⟩
  have hn3 := h.n3
  have HIN := hid (fun w' (hb : Below w.heap.size w w') => (h.inn.belowS hb).2.2)
  have HS1 := hid hs1
  have HB1 := hid hb1
  have HK1 := hid hblk1
  clear h hs1 hb1 hblk1
  obtain ⟨j0, hj0, hy0, hy1, hy2⟩ := info_parts info_chanP
  go_enter Tryz.func7, Tryz.ntmps7
  go_wp2_with (at_make; refine makeRows _ rfl (.tmp 6) rfl t.chans.length rfl (by omega) ?_; intro w2 hrow2 hb2)
  clear hw1 c0 c1 c2 c3 c4
  have hrow2' : Blk w2 w1.heap.size 51 (rowCs t.chans.length (fun _ => none) (fun _ => 0) (fun _ => [])) := hrow2
  have hK2 := HK1.out.belowS hb2
  obtain ⟨W, hwq, hbW, hrW, hkW, hsW⟩ : ∃ W, w2.alloc (.cells #[.slice none 0 0, .slice (some ⟨w1.heap.size, 0, none⟩) t.chans.length t.chans.length] 100) = W ∧ Below w1.heap.size w1 W ∧ Blk W w1.heap.size 51 (rowCs t.chans.length (fun _ => none) (fun _ => 0) (fun _ => [])) ∧ Blk W w.heap.size 26 [.int .i64 t.frame, .slice A1 t.parts.length k1, .slice A2 t.wins.length k2, .slice A3 t.chans.length k3, .int .i64 t.trial] ∧ Blk W w2.heap.size 100 [.slice none 0 0, .slice (some ⟨w1.heap.size, 0, none⟩) t.chans.length t.chans.length] :=
    ⟨_, rfl, bel_alloc hb2 _, hrow2'.alloc _, hK2.alloc _, Blk.new w2 _ _⟩
  rw [hwq]
  have hsz2 : Hid (W.heap.size = w2.heap.size + 1) := hid (by rw [← hwq]; simp)
  have hlt12 : w1.heap.size < w2.heap.size := hrow2'.lt
  have hlt01 : w.heap.size < w1.heap.size := by have := HS1.out; omega
  have hbw := bel_trans HB1.out hbW
  have hrd := hid ((HIN.out W hbw).reads (fun _ => rfl))
  have e0 : W.cell? ⟨w2.heap.size, 0, none⟩ = some (.slice none 0 0) := hsW.cellAt rfl
  have e3 : W.cell? ⟨w.heap.size, 3, none⟩ = some (.slice A3 t.chans.length k3) := hkW.cellAt (i := 3) rfl
  have g0 : W.frozen? ⟨w2.heap.size, 0, none⟩ = false := hsW.frozen 0
  have m1 : w2.heap.size ≠ w.heap.size := by omega
  have m2 : w.heap.size ≠ w2.heap.size := by omega
  have HBW := hid hbW
  have HRW := hid hrW
  have HKW := hid hkW
  have HSW := hid hsW
  have HBw := hid hbw
  clear hwq hrow2 hrow2' hK2 hb2 hbW hrW hkW hsW hbw
  go_region_law (refine step_srcR _ (by rfl) _ _ _ (by rfl) W.heap.size 69 j0 _ 3 24 Tryz.underlying24 hj0 hy0 hy1 hy2 rfl (by decide) (.slice none 0 0) 0 [] (by rfl) (World.ownsRow_nil _ _ _ _) W.heap.size A3 t.chans.length k3 _ (by rfl) (by first | exact hrd.out | exact hrd.out.drew) (oneCell_chanP _) (by simp [maxLen]; omega) (by omega) (by first | exact Nat.le_refl _ | simp [World.drew]) t.chans.length (Nat.zero_add _) ?_; intro AE cE w3 hown3 hg3 hbel3'; have hbel3 : Below W.heap.size W w3 := (by first | exact hbel3' | exact ⟨hbel3'.os, hbel3'.tape, hbel3'.output, hbel3'.size, hbel3'.block⟩); have HB3 := hid hbel3; have HO3 := hid hown3; have z0 : w3.cell? ⟨w.heap.size, 3, none⟩ = some (.slice A3 t.chans.length k3) := (HKW.out.belowS hbel3).cellAt (i := 3) rfl; have z1 : w3.frozen? ⟨w2.heap.size, 0, none⟩ = false := (HSW.out.belowS hbel3).frozen 0; have z2 : w3.cell? ⟨w2.heap.size, 0, none⟩ = some (.slice none 0 0) := (HSW.out.belowS hbel3).cellAt rfl; clear hbel3 hbel3' hown3 hg3)
  all_goals
    try clear z0 z1 z2
    clear e0 e3 g0
    go_wp2_with fail
    go_ret
    have hown : w3.ownsRow W.heap.size 69 3 (.slice AE t.chans.length cE) t.chans.length (t.chans.flatMap chanC) := by simpa using HO3.out
    have hfE : ∀ b, Foot AE b → W.heap.size ≤ b ∧ b < w3.heap.size := fun b hb => by
      obtain ⟨a, rfl, rfl⟩ := hb
      exact hown.lt _ rfl
    have hno : ∀ b, ¬ Foot none b := fun b hb => by obtain ⟨a, ha, _⟩ := hb; cases ha
    have hgE : ¬ Foot AE w2.heap.size := fun hf => by have := (hfE _ hf).1; have := hsz2.out; omega
    have hbl3 := HSW.out.belowS HB3.out
    have hro3 := HRW.out.belowS HB3.out
    have hrd3 : RdS w3 w3.heap.size 3 AE t.chans.length chanC t.chans := (Reads.of_own hown).rds (fun _ => rfl)
    have hin : RefIn (w3.setCell ⟨w2.heap.size, 0, none⟩ (.slice AE t.chans.length cE)) w2.heap.size t.chans AE cE w1.heap.size (fun _ => none) (fun _ => 0) (fun _ => []) := by
      refine ⟨hbl3.set_ 0 (.slice AE t.chans.length cE), hrd3.keepF (by simp [World.setCell]) (fun b hb => Below.heap_setCell _ _ _ _ (fun e => hgE (by rw [← show b = w2.heap.size from e]; exact hb))), hro3.far (p := ⟨w2.heap.size, 0, none⟩) (by show w1.heap.size ≠ w2.heap.size; omega) _, fun k hk => ⟨Reads.empty, Nat.le_refl _, by simp [maxLen]⟩, by omega, fun hf => ?_, fun k hk => hno _, fun k hk b hb => absurd hb (hno b), fun b hb => ?_⟩
      · have := (hfE _ hf).1; have := hsz2.out; omega
      · have := (hfE _ hb).2
        simpa [World.setCell] using this
    refine ⟨_, _, rfl, hin.at_, ?_, fun b hb => ?_⟩
    · exact (HBw.out.trans (HB3.out.mono HBw.out.size)).setCell (by show w.heap.size ≤ w2.heap.size; omega) _
    · rcases hb with rfl | rfl | hb | ⟨k, hk, hb⟩
      · omega
      · omega
      · have := (hfE _ hb).1; have := hsz2.out; omega
      · exact absurd hb (hno b)
end Go.Proofs.YtidlahljhgglcaaGreat
