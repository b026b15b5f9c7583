/-
  port.New of a right table (under way: the walk stands at the loop).
-/
import Derived.Test.YtidlahljhgglcaaGreatQa
namespace Go.Proofs.YtidlahljhgglcaaGreat
open Go.RowKit Go.ChangeShapes Go.WideShapes Go.ChangeAt

theorem info_way : (Tryz.prog.info? 94).map (fun i => (i.zero, i.size, i.bytes)) = some (some .nilIface, 1, 16) := by kernel_rfl
theorem zeroS_pos {d : Int} (h : 0 < d) : zeroS d = .row [] d.toNat := if_pos h
theorem zeroS_neg {d : Int} (h : ¬ 0 < d) : zeroS d = .last 0 false := if_neg h

/-- What the start of the set, and of one round, leaves. -/
theorem NewIn.start {w3 : World} {n : Nat} {cs : List ChanS} {AE : Option Addr} {cE B : Nat} (hown : w3.ownsRow B 69 3 (.slice AE n cE) n (cs.flatMap chanC)) (hn : cs.length = n) (hB : B ≤ w3.heap.size) :
    NewIn (w3.alloc (.cells #[.slice AE n cE, .slice none 0 0] 89)) w3.heap.size B cs 0 AE cE none 0 (fun _ => 0) := by
  subst hn
  have hlt : ∀ b, Foot AE b → B ≤ b ∧ b < w3.heap.size := fun b hb => by
    obtain ⟨a, rfl, rfl⟩ := hb
    exact hown.lt _ rfl
  have hno : ∀ b, ¬ Foot none b := fun b hb => by obtain ⟨a, ha, _⟩ := hb; cases ha
  have hb1 : Below w3.heap.size w3 (w3.alloc (.cells #[.slice AE cs.length cE, .slice none 0 0] 89)) := (Below.refl _ _).alloc (Nat.le_refl _) _
  refine ⟨Blk.new _ _ _, ((Reads.of_own hown).rds (fun _ => rfl)).belowS hb1, Row.nil _ _, fun j hj => by omega, fun i j hi => by omega, fun j hj => by omega, ⟨fun j hj => by omega, fun b hb => ?_⟩, fun b hb => ?_, fun h => ?_, hno _, fun b _ => hno b⟩
  · rcases hb with rfl | hb | hb
    · exact hB
    · exact (hlt b hb).1
    · exact absurd hb (hno b)
  · rcases hb with rfl | hb | hb
    · simp
    · have := (hlt b hb).2
      simp
      omega
    · exact absurd hb (hno b)
  · have := (hlt _ h).2
    omega
section
variable {wr w4 w5 : World} {g B : Nat} {cs : List ChanS} {k : Nat} {AE : Option Addr} {cE : Nat} {adW : Option Addr} {cW : Nat} {gs : Nat → Nat}
theorem NewIn.own (hN : NewIn wr g B cs k AE cE adW cW gs) : some g ≠ (Value.slice adW k cW).ownBlock := by
  cases adW with
  | none => simp [Value.ownBlock]
  | some a =>
    intro e
    injection e with e
    exact hN.ne2 ⟨a, rfl, e.symm⟩
theorem NewIn.pre (hN : NewIn wr g B cs k AE cE adW cW gs) (hb : Below wr.heap.size wr w4) (hg : w4.grownBy w5 (Value.slice adW k cW).ownBlock) : Blk w5 g 89 [.slice AE cs.length cE, .slice adW k cW] :=
  (hg.block g (Nat.lt_of_lt_of_le hN.blk.lt hb.size) hN.own).trans ((hb.block g hN.blk.lt).trans hN.blk)
theorem NewIn.post (hN : NewIn wr g B cs k AE cE adW cW gs) (hB : B ≤ wr.heap.size) (hb : Below wr.heap.size wr w4) {gk : Nat} (hgk : wr.heap.size ≤ gk) (hgl : gk < w4.heap.size) (hw : WayIn w4 ⟨gk, none, 0⟩ (zeroW cs k)) {A' : Option Addr} {c' : Nat} {v : Value}
    (hg : w4.grownBy w5 (Value.slice adW k cW).ownBlock) (hrow : Row w5 94 A' (k + 1) c' (((List.range k).map fun j => wayIV (P0 gs j) (zeroW cs j)) ++ [v])) (hv : v = wayIV ⟨gk, none, 0⟩ (zeroW cs k)) (hA : A' = adW ∨ A' = some ⟨w4.heap.size, 0, none⟩) :
    NewIn (w5.setCell ⟨g, 1, none⟩ (.slice A' (k + 1) c')) g B cs (k + 1) AE cE A' c' (setS gs k gk) ∧ Below B wr (w5.setCell ⟨g, 1, none⟩ (.slice A' (k + 1) c')) := by
  subst hv
  have hWl : ∀ b, Foot adW b → b < wr.heap.size := fun b hb => hN.fl b (.inr (.inr hb))
  have hfoot : ∀ b, Foot A' b → Foot adW b ∨ (wr.heap.size ≤ b ∧ b ≠ gk) := by
    intro b hb1
    rcases hA with e | e
    · rw [e] at hb1; exact .inl hb1
    · rw [e] at hb1
      obtain ⟨a, ha, rfl⟩ := hb1
      injection ha with ha
      subst ha
      right
      have := hb.size
      simp only
      omega
  have hgA : ¬ Foot A' g := fun hf => by
    rcases hfoot g hf with h | ⟨h, _⟩
    · exact hN.ne2 h
    · have := hN.blk.lt; omega
  have hap0 : Apart (fun b => b = g ∨ Foot adW b) wr w5 := (Apart.of_below hb).grown hg (fun j hj => by
    cases adW with
    | none => simp [Value.ownBlock] at hj
    | some a =>
      injection hj with hj
      exact .inl (.inr ⟨a, rfl, hj⟩))
  have hap : Apart (fun b => b = g ∨ Foot adW b) wr (w5.setCell ⟨g, 1, none⟩ (.slice A' (k + 1) c')) := hap0.setCell (p := ⟨g, 1, none⟩) (.inl (.inl rfl)) _
  refine ⟨hN.step hB hap ((hN.pre hb hg).set_ 1 (.slice A' (k + 1) c')) (hrow.far (p := ⟨g, 1, none⟩) hgA _) hfoot (hw.keep fun b hb1 => ?_) hgk hN.blk.lt, hap.below hB fun b hb1 => ?_⟩
  · have e : b = gk := by
      rcases hb1 with h | ⟨a, h, _⟩
      · exact h
      · cases h
    subst e
    refine (Below.heap_setCell _ _ _ _ (fun e => ?_)).trans (hg.block b hgl fun e => ?_)
    · have := hN.blk.lt
      simp only at e
      omega
    · cases adW with
      | none => simp [Value.ownBlock] at e
      | some a =>
        injection e with e
        have := hWl b ⟨a, rfl, e.symm⟩
        omega
  · rcases hb1 with rfl | hb1
    · exact hN.lo.2 b (.inl rfl)
    · exact hN.lo.2 b (.inr (.inr hb1))
theorem rd2 (w : World) (o1 o2 : Obj) (v : Value) : Reads (((w.alloc o1).alloc o2).alloc (.cells #[v] 94)) (w.heap.size + 1 + 1 + 1) 1 (some ⟨w.heap.size + 1 + 1, 0, none⟩) 1 [v] := by
  have h := Reads.new ((w.alloc o1).alloc o2) #[v] 94 1 rfl
  simpa using h
theorem rd3 (w : World) (o1 o2 o3 : Obj) (v : Value) : Reads ((((w.alloc o1).alloc o2).alloc o3).alloc (.cells #[v] 94)) (w.heap.size + 1 + 1 + 1 + 1) 1 (some ⟨w.heap.size + 1 + 1 + 1, 0, none⟩) 1 [v] := by
  have h := Reads.new (((w.alloc o1).alloc o2).alloc o3) #[v] 94 1 rfl
  simpa using h
theorem way2 (w : World) (o1 o3 : Obj) (d : Int) (h : ¬ 0 < d) : WayIn (((w.alloc o1).alloc (.cells #[.int .i64 0, .bool false] 92)).alloc o3) ⟨w.heap.size + 1, none, 0⟩ (zeroS d) := by
  rw [zeroS_neg h]
  have h1 := (Blk.new (w.alloc o1) 92 [.int .i64 0, .bool false]).alloc o3
  exact ⟨by unfold LastIn; simpa using h1, rfl⟩
theorem way3 (w : World) (o1 o2 o4 : Obj) (d : Int) (h : 0 < d) : WayIn ((((w.alloc o1).alloc o2).alloc (.cells #[.slice none 0 0, .int .i64 d] 97)).alloc o4) ⟨w.heap.size + 1 + 1, none, 0⟩ (zeroS d) := by
  rw [zeroS_pos h]
  have h1 := (Blk.new ((w.alloc o1).alloc o2) 97 [.slice none 0 0, .int .i64 d]).alloc o4
  have e : ((d.toNat : Nat) : Int) = d := by omega
  exact ⟨by rw [e]; simpa using h1, Row.nil _ _, fun h => by obtain ⟨a, ha, _⟩ := h; cases ha⟩
theorem bel2 (w : World) (o1 o2 o3 : Obj) : Below w.heap.size w (((w.alloc o1).alloc o2).alloc o3) := (((Below.refl _ _).alloc (Nat.le_refl _) o1).alloc (by simp) o2).alloc (by simp; omega) o3
theorem bel3 (w : World) (o1 o2 o3 o4 : Obj) : Below w.heap.size w ((((w.alloc o1).alloc o2).alloc o3).alloc o4) := (bel2 w o1 o2 o3).alloc (by simp; omega) o4
end
set_option maxRecDepth 100000 in
set_option maxHeartbeats 2000000 in
theorem New_ok (t : TabS) (a : TabA) (w : World) (h : TabOk w t a) (hR : rightB t = true) :
    Calls Tryz.prog 6 #[.agg #[.int .i64 t.frame, .slice a.A1 t.parts.length a.c1, .slice a.A2 t.wins.length a.c2, .slice a.A3 t.chans.length a.c3, .int .i64 t.trial]] w fun e w' => ∃ F g, e = .returned (.tuple #[.pointer (some ⟨g, 0, none⟩), .int .i64 0]) ∧ SetAt w' F g t.chans (zeroW t.chans) ∧ Below w.heap.size w w' ∧ ∀ b, F b → w.heap.size ≤ b := by
  obtain ⟨A1, k1, A2, k2, A3, k3⟩ := a
  simp only
  obtain ⟨w1, hw1, hb1, hblk1, hs1⟩ := tabP_in t ⟨A1, k1, A2, k2, A3, k3⟩ w
  simp only at hw1 hblk1
  have i1 := hid (right_any t ⟨A1, k1, A2, k2, A3, k3⟩ w1 (h.belowS hb1))
  rw [hR] at i1
  simp only at i1
  obtain ⟨c0, c1, c2, c3, c4⟩ : _ ∧ _ ∧ _ ∧ _ ∧ _ := ⟨hblk1.cellAt (i := 0) rfl, hblk1.cellAt (i := 1) rfl, hblk1.cellAt (i := 2) rfl, hblk1.cellAt (i := 3) rfl, hblk1.cellAt (i := 4) rfl⟩
  clear hR
  have hn3 := h.n3
  have HIN := hid (fun w' (hb : Below w.heap.size w w') => (h.inn.belowS hb).2.2)
  clear h
  obtain ⟨i0, hi0, hz0, hz1, hz2⟩ := info_parts info_way
  go_enter Tryz.func6, Tryz.ntmps6
  go_wp2_with fail
  clear hw1 hs1
  refine i1.out.mono ?_
  rintro e w2 ⟨rfl, hb2⟩
  have hblk2 := hblk1.belowS hb2
  have hb02 := bel_trans hb1 hb2
  clear c0 c1 c2 c3 c4 i1 hblk1
  obtain ⟨c0, c1, c2, c3, c4⟩ : _ ∧ _ ∧ _ ∧ _ ∧ _ := ⟨hblk2.cellAt (i := 0) rfl, hblk2.cellAt (i := 1) rfl, hblk2.cellAt (i := 2) rfl, hblk2.cellAt (i := 3) rfl, hblk2.cellAt (i := 4) rfl⟩
  go_wp2_with fail
  refine (cloneC_any A3 t.chans.length k3 t.chans w2 ((HIN.out _ hb02).reads (fun _ => rfl)) (by omega)).mono ?_
  rintro e w3 ⟨AE, cE, rfl, hownE, hb3⟩
  have hb03 := bel_trans hb02 hb3
  have hblk3 := hblk2.belowS hb3
  clear c0 c1 c2 c3 c4 hblk2
  have d3 : ∀ o, (w3.alloc o).cell? ⟨w.heap.size, 3, none⟩ = some (.slice A3 t.chans.length k3) := fun o => (hblk3.alloc o).cellAt (i := 3) rfl
  have hN0 := hid (NewIn.start hownE rfl hb3.size)
  have hb04 := hid (bel_alloc hb03 (.cells #[.slice AE t.chans.length cE, .slice none 0 0] 89))
  have hsz : w.heap.size ≤ w2.heap.size := hb02.size
  go_wp2_with fail
  generalize w3.alloc (.cells #[.slice AE t.chans.length cE, .slice none 0 0] 89) = w4 at hN0 hb04 ⊢
  clear d3 hblk3 hb3 hb03 hownE
  generalize w3.heap.size = g at hN0 ⊢
  go_loopw [6, 7, 19] (fun v6 v7 v19 wr => ∃ (k : Nat) (adW : Option Addr) (cW : Nat) (gs : Nat → Nat), k ≤ t.chans.length ∧ v19 = .int .i64 (k : Int) ∧ NewIn wr g w2.heap.size t.chans k AE cE adW cW gs ∧ Below w.heap.size w wr) (fun _ _ v19 _ => t.chans.length - (intOf v19).toNat)
  case atStart => exact ⟨0, none, 0, _, by omega, rfl, hN0.out, hb04.out⟩
  case round =>
    clear hN0 hb04
    obtain ⟨k, adW, cW, gs, hk, rfl, hN, hbel⟩ := hrel
    by_cases hkn : k < t.chans.length
    · obtain ⟨ad, x, rfl, had, hx, hc0, hc⟩ := (HIN.out wr hbel).at_ hkn
      have c0 := hc0 _ rfl
      have c1 := hc 0 _ rfl
      have c2 := hc 1 _ rfl
      clear hc hc0
      obtain ⟨src, dst, dep⟩ := x
      simp only at c0 c1 c2
      have hz : Hid (zeroW t.chans k = zeroS dep) := hid (by unfold zeroW; rw [depthAt_get hx])
      clear hx
      have hgl := hN.blk.lt
      have q1 : ∀ o1 o2, ((wr.alloc o1).alloc o2).cell? ⟨g, 1, none⟩ = some (.slice adW k cW) := fun o1 o2 => ((hN.blk.alloc o1).alloc o2).cellAt (i := 1) rfl
      have q2 : ∀ o1 o2 o3, (((wr.alloc o1).alloc o2).alloc o3).cell? ⟨g, 1, none⟩ = some (.slice adW k cW) := fun o1 o2 o3 => (((hN.blk.alloc o1).alloc o2).alloc o3).cellAt (i := 1) rfl
      have q3 : ∀ o2, ((wr.alloc (.cells #[.int .i64 src, .int .i64 dst, .int .i64 dep] 69)).alloc o2).cell? ⟨wr.heap.size, 2, none⟩ = some (.int .i64 dep) := fun o2 => ((Blk.new wr 69 [.int .i64 src, .int .i64 dst, .int .i64 dep]).alloc o2).cellAt (i := 2) rfl
      have hNN := hid hN
      clear hN
      by_cases hd : 0 < dep
      · have y0 : decide (0 < dep) = true := decide_eq_true hd
        have hdd := hid hd
        clear hd
        go_wp2_with (at_builtin; refine wpList_row _ rfl (.tmp 38) (.tmp 40) _ rfl 94 i0 _ 16 Tryz.underlying87 hi0 hz0 hz1 hz2 rfl adW k cW _ rfl ((((hNN.out.row.alloc _).alloc _).alloc _).alloc _) (wr.heap.size + 1 + 1 + 1 + 1) (some ⟨wr.heap.size + 1 + 1 + 1, 0, none⟩) 1 1 [_] rfl (rd3 _ _ _ _ _) (by simp [Value.oneCell']) (by simp [maxLen]; omega) (by omega) (k + 1) rfl ?_; intro A' c' w5 hrow5 hg5 hA5; have hpre := hNN.out.pre (bel3 wr _ _ _ _) hg5; have x1 : w5.cell? ⟨g, 1, none⟩ = some (.slice adW k cW) := hpre.cellAt rfl; have y1 := hpre.frozen 1)
        have hp := hNN.out.post (gk := wr.heap.size + 1 + 1) (Nat.le_of_lt (Nat.lt_of_le_of_lt (hNN.out.lo.2 g (.inl rfl)) hNN.out.blk.lt)) (bel3 wr _ _ _ _) (by omega) (by simp) (by rw [hz.out]; exact way3 wr _ _ _ dep hdd.out) hg5 hrow5 (by rw [hz.out, zeroS_pos hdd.out]; rfl) hA5
        go_roundw
        case rel => exact ⟨k + 1, A', c', _, by omega, by go_num, hp.1, hbel.trans (hp.2.mono hsz)⟩
        case measure => simp [intOf]; omega
      · have y0 : decide (0 < dep) = false := decide_eq_false hd
        have hdd := hid hd
        clear hd
        go_wp2_with (at_builtin; refine wpList_row _ rfl (.tmp 38) (.tmp 40) _ rfl 94 i0 _ 16 Tryz.underlying87 hi0 hz0 hz1 hz2 rfl adW k cW _ rfl (((hNN.out.row.alloc _).alloc _).alloc _) (wr.heap.size + 1 + 1 + 1) (some ⟨wr.heap.size + 1 + 1, 0, none⟩) 1 1 [_] rfl (rd2 _ _ _ _) (by simp [Value.oneCell']) (by simp [maxLen]; omega) (by omega) (k + 1) rfl ?_; intro A' c' w5 hrow5 hg5 hA5; have hpre := hNN.out.pre (bel2 wr _ _ _) hg5; have x1 : w5.cell? ⟨g, 1, none⟩ = some (.slice adW k cW) := hpre.cellAt rfl; have y1 := hpre.frozen 1)
        have hp := hNN.out.post (gk := wr.heap.size + 1) (Nat.le_of_lt (Nat.lt_of_le_of_lt (hNN.out.lo.2 g (.inl rfl)) hNN.out.blk.lt)) (bel2 wr _ _ _) (by omega) (by simp) (by rw [hz.out]; exact way2 wr _ _ dep hdd.out) hg5 hrow5 (by rw [hz.out, zeroS_neg hdd.out]; rfl) hA5
        go_roundw
        case rel => exact ⟨k + 1, A', c', _, by omega, by go_num, hp.1, hbel.trans (hp.2.mono hsz)⟩
        case measure => simp [intOf]; omega
    · obtain rfl : k = t.chans.length := by omega
      obtain ⟨F, hS, hF⟩ := hN.done
      go_wp2_with fail
      go_ret2
      exact ⟨F, g, rfl, hS, hbel, fun b hb => Nat.le_trans hsz (hF b hb)⟩
end Go.Proofs.YtidlahljhgglcaaGreat
