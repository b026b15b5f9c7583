/-
  The reference of layer 20: cut, Take, New.
-/
import Derived.Test.YthnifgcoikmihaaRef20a
import Derived.Test.YthnifgcoikmihaaLinkOrder
namespace Go.Proofs.Ythnifgcoikmihaa
open Go.RowKit Go.ChangeShapes Go.WideShapes Go.ChangeAt

def cutB (x : List BE) (i : Nat) : List BE := x.take i ++ x.drop (i + 1)
def cutTo (x : List BE) (i k : Nat) : List BE := if k ≤ i then x.take k else x.take i ++ (x.take k).drop (i + 1)
theorem cutTo_zero (x : List BE) (i : Nat) : cutTo x i 0 = [] := by unfold cutTo; rw [if_pos (by omega)]; rfl
theorem cutTo_step {x : List BE} {i k : Nat} {e : BE} (he : x[k]? = some e) (h : k ≠ i) : cutTo x i (k + 1) = cutTo x i k ++ [e] := by
  have hk := (List.getElem?_eq_some_iff.1 he).1
  unfold cutTo
  by_cases h1 : k + 1 ≤ i
  · rw [if_pos h1, if_pos (by omega), List.take_add_one, he]
    rfl
  · rw [if_neg h1, if_neg (by omega), List.take_add_one, he, List.drop_append_of_le_length (by rw [List.length_take]; omega), List.append_assoc]
    rfl
theorem cutTo_at (x : List BE) (i : Nat) : cutTo x i (i + 1) = cutTo x i i := by
  unfold cutTo
  rw [if_neg (by omega), if_pos (Nat.le_refl _), List.drop_of_length_le (by rw [List.length_take]; omega), List.append_nil]
theorem cutTo_end {x : List BE} {i : Nat} (h : i < x.length) : cutTo x i x.length = cutB x i := by
  unfold cutTo cutB
  rw [if_neg (by omega), List.take_of_length_le (Nat.le_refl _)]
theorem cutTo_len (x : List BE) (i k : Nat) : (cutTo x i k).length ≤ k := by
  unfold cutTo
  split
  · simp; omega
  · simp; omega
theorem cutB_mem {x : List BE} {i : Nat} {e : BE} (h : e ∈ cutB x i) : e ∈ x := by
  unfold cutB at h
  rcases List.mem_append.1 h with h | h
  · exact List.mem_of_mem_take h
  · exact List.mem_of_mem_drop h
theorem cutB_len {x : List BE} {i : Nat} (h : i < x.length) : (cutB x i).length + 1 = x.length := by simp [cutB]; omega
theorem cutB_map (x : List BE) (i : Nat) : (cutB x i).map (·.l) = cutL (x.map (·.l)) i := by simp [cutB, cutL, List.map_take, List.map_drop]
section
variable {w w' : World} {F : Nat → Prop} {gR gW k : Nat} {A : Option Addr} {c : Nat} {x : List BE} {A' : Option Addr} {c' : Nat} {y : List BE} {q : Ways}
set_option maxRecDepth 100000 in
set_option maxHeartbeats 2000000 in
theorem cutR_any (hk : k < 2) (h : RIn w gR gW k A c x A' c' y) {i : Nat} (hi : i < x.length) :
    Calls Try.prog 39 #[.pointer (some ⟨gR, 0, none⟩), .int .i64 (k : Int), .int .i64 (i : Int)] w fun e w' => e = .returned (.tuple #[]) ∧ ∃ A1 c1, RIn w' gR gW k A1 c1 (cutB x i) A' c' y ∧ Goes (RF gR gW A A' x y) w (RF gR gW A1 A' (cutB x i) y) w' ∧ Apart (fun b => b = gW ∨ Foot A b) w w' := by
  have H := hid h
  have hn32 := h.n
  have k0 : (0 : Int) ≤ (k : Int) := Int.natCast_nonneg _
  have k1 : (k : Int) < 2 := by omega
  obtain ⟨i0, hi0, hz0, hz1, hz2⟩ := info_parts info_bytesR
  clear h
  go_enter Try.func39, Try.ntmps39
  go_wp2_with fail
  go_loopw [6, 7] (fun v6 v7 wr => ∃ (j : Nat) (A1 : Option Addr) (c1 N : Nat), j ≤ x.length ∧ v7 = .int .i64 (j : Int) ∧ v6 = .slice A1 N c1 ∧ (cutTo x i j).length = N ∧ Row wr 26 A1 N c1 ((cutTo x i j).map eC) ∧ (∀ b, Foot A1 b → w.heap.size ≤ b) ∧ Below w.heap.size w wr) (fun _ v7 _ => x.length - (intOf v7).toNat)
  case atStart => exact ⟨0, none, 0, 0, by omega, rfl, rfl, by rw [cutTo_zero]; rfl, by rw [cutTo_zero]; exact Row.nil _ _, (fun b hb => by obtain ⟨a, ha, _⟩ := hb; cases ha), Below.refl _ _⟩
  case round =>
    obtain ⟨j, A1, c1, N, hj, rfl, rfl, hN, hrow, hf, hbel⟩ := hrel
    have HI := hid (H.out.keep hbel.size (fun b hb => hbel.block b (H.out.lt hb)))
    obtain ⟨c0, cW⟩ := HI.out.cells hk
    by_cases hjn : j < x.length
    · obtain ⟨ad, e, hA, hadl, he, hcell⟩ := HI.out.r.reads.atM hjn
      by_cases hji : j = i
      · have y0 : ((j : Int) == (i : Int)) = true := by simp [hji]
        have HJ := hid hji
        have hN' := hid hN
        have HROW := hid hrow
        clear hji hN hrow he hcell hA
        go_wp2_with fail
        go_roundw
        case rel => exact ⟨j + 1, A1, c1, N, by omega, by go_num, rfl, by rw [show cutTo x i (j + 1) = cutTo x i j by rw [HJ.out]; exact cutTo_at x i]; exact hN'.out, by rw [show cutTo x i (j + 1) = cutTo x i j by rw [HJ.out]; exact cutTo_at x i]; exact HROW.out, hf, hbel⟩
        case measure => simp [intOf]; omega
      · have y0 : ((j : Int) == (i : Int)) = false := by simp; omega
        have hst := hid (cutTo_step he hji)
        subst hA
        have d0 := cell_alloc c0
        have hN' := hid hN
        have hNb : N ≤ j := by rw [← hN]; exact cutTo_len x i j
        have y3 : (j : Int) < (x.length : Int) := by omega
        have y4 : (0 : Int) ≤ (j : Int) := by omega
        have hcell' : wr.cell? (ad.add j) = some (.slice e.A e.l.length e.c) := hcell
        have HROW := hid hrow
        clear hji hN hrow he hcell
        go_wp2_with (at_builtin; refine wpList_row _ rfl (.tmp 23) (.tmp 34) _ rfl 26 i0 _ 24 Try.underlying22 hi0 hz0 hz1 hz2 rfl A1 N c1 ((cutTo x i j).map eC) rfl (HROW.out.alloc _) (wr.heap.size + 1) (some ⟨wr.heap.size, 0, none⟩) 1 1 [_] rfl (Reads.new wr #[_] 26 1 rfl) (by simp [Value.oneCell']) (by simp [maxLen]; omega) (by omega) (N + 1) rfl ?_; intro A2 c2 w2 hrow2 hg2 hA2)
        have hsz : wr.heap.size ≤ w2.heap.size := by have := hg2.size; simp at this; omega
        have hA2' : ∀ b, Foot A2 b → w.heap.size ≤ b := fun b hb => by
          rcases hA2 with e1 | e1
          · rw [e1] at hb; exact hf b hb
          · rw [e1] at hb
            obtain ⟨a, ha, rfl⟩ := hb
            injection ha with ha
            subst ha
            have := hbel.size
            simp
            omega
        have hb2 : Below w.heap.size w w2 := (bel_alloc hbel _).grown hg2 (by have := hbel.size; simp; omega) (fun b hb => hf b (ownBlock_foot.1 hb))
        go_roundw
        case rel => exact ⟨j + 1, A2, c2, N + 1, by omega, by go_num, rfl, by rw [hst.out]; simp [hN'.out], by rw [hst.out, List.map_append]; exact hrow2, hA2', hb2⟩
        case measure => simp [intOf]; omega
    · obtain rfl : j = x.length := by omega
      have f0 := HI.out.wb.frozen k
      have HROW := hid hrow
      have HN := hid hN
      have HF := hid hf
      clear hrow hN hf
      go_wp2_with fail
      refine bodyPost_end (v := .tuple #[]) (by simp [results, Try.results39, go_sem]) rfl ?_
      have hlen : (cutB x i).length = N := by rw [← cutTo_end hi]; exact HN.out
      have hrow := HROW.out
      rw [cutTo_end hi] at hrow
      subst hlen
      have hgw := H.out.wb.lt
      have hnf : ¬ Foot A1 gW := fun hb => by have := HF.out gW hb; omega
      have hap := (Apart.of_below (F := fun b => b = gW ∨ Foot A b) hbel).setCell (p := ⟨gW, k, none⟩) (.inl (.inl rfl)) (.slice A1 (cutB x i).length c1)
      have hwb := HI.out.wb.set_ k (.slice A1 (cutB x i).length c1)
      rw [lcells_set hk] at hwb
      have hst := H.out.step hap hwb (hrow.far (p := ⟨gW, k, none⟩) hnf _) (fun b hb => .inr (HF.out b hb)) (by have := cutB_len hi; omega) (fun e he => .inl (cutB_mem he))
      exact ⟨rfl, A1, c1, hst.1, hst.2, hap⟩
theorem takeR_none (h : RefL w F gR q) (way : Int) (hq : (way < 0 ∨ 2 ≤ way) ∨ q way.toNat = []) :
    Calls Try.prog 22 #[.pointer (some ⟨gR, 0, none⟩), .int .i64 way] w fun e w' => e = .returned (.agg #[.slice none 0 0, .bool false]) ∧ Below w.heap.size w w' := by
  by_cases h0 : way < 0
  · have y0 : decide (way < 0) = true := decide_eq_true h0
    clear h h0 hq
    go_enter Try.func22, Try.ntmps22
    go_wp2_with fail
    go_returns
    exact ⟨rfl, below_alloc1 _ _⟩
  have y0 : decide (way < 0) = false := decide_eq_false h0
  by_cases h1 : 1 < way
  · have y1 : decide ((1 : Int) < way) = true := decide_eq_true h1
    clear h h0 h1 hq
    go_enter Try.func22, Try.ntmps22
    go_wp2_with fail
    go_returns
    exact ⟨rfl, below_alloc1 _ _⟩
  obtain ⟨k, rfl⟩ : ∃ k : Nat, way = (k : Int) := ⟨way.toNat, by omega⟩
  have hk : k < 2 := by omega
  have y1 : decide ((1 : Int) < (k : Int)) = false := decide_eq_false h1
  have y1' : decide (1 < k) = false := decide_eq_false (by omega)
  have k0 : (0 : Int) ≤ (k : Int) := Int.natCast_nonneg _
  have k1 : (k : Int) < 2 := by omega
  obtain ⟨gW, A, c, x, A', c', y, h2, h3, h4, h5⟩ := h.one hk
  obtain ⟨c0, c1⟩ := h2.cells hk
  have hx : x = [] := by
    have := hq.resolve_left (by omega)
    rw [Int.toNat_natCast, ← h3] at this
    simpa using this
  rw [hx] at c1
  have d0 := cell_alloc c0
  have d1 := cell_alloc c1
  clear h h0 h1 h2 h3 h4 h5 hq hx c0 c1
  go_enter Try.func22, Try.ntmps22
  go_wp2_with fail
  go_returns
  exact ⟨rfl, below_alloc1 _ _⟩
set_option maxRecDepth 100000 in
set_option maxHeartbeats 2000000 in
theorem takeR_some (h : RefL w F gR q) (hk : k < 2) {f : List UInt8} {r : List (List UInt8)} (hq : q k = f :: r) :
    Calls Try.prog 22 #[.pointer (some ⟨gR, 0, none⟩), .int .i64 (k : Int)] w fun e w' => ∃ F' B d, e = .returned (.agg #[.slice B f.length d, .bool true]) ∧ Reads w' w'.heap.size 1 B f.length (f.map bV) ∧ RefL w' F' gR (upd q k r) ∧ Goes F w F' w' := by
  obtain ⟨gW, A, c, x, A', c', y, h2, h3, h4, h5⟩ := h.one hk
  obtain ⟨o, ho⟩ : ∃ o, o = Obj.cells #[.slice none 0 0, .bool false] 44 := ⟨_, rfl⟩
  have y0 : decide ((k : Int) < 0) = false := decide_eq_false (by omega)
  have y1 : decide ((1 : Int) < (k : Int)) = false := decide_eq_false (by omega)
  have y1' : decide (1 < k) = false := decide_eq_false (by omega)
  have k0 : (0 : Int) ≤ (k : Int) := Int.natCast_nonneg _
  have k1 : (k : Int) < 2 := by omega
  rw [hq] at h3
  obtain ⟨e0, x', rfl⟩ : ∃ e0 x', x = e0 :: x' := by
    cases x with
    | nil => cases h3
    | cons e0 x' => exact ⟨_, _, rfl⟩
  have hf : e0.l = f := by injection h3
  have hr : x'.map (·.l) = r := by injection h3
  subst hf
  obtain ⟨c0, c1⟩ := h2.cells hk
  obtain ⟨ad, u, hA, hadl, hu, hcell⟩ := h2.r.reads.at_ (k := 0) (by simp)
  obtain rfl : eC e0 = u := by simpa using hu
  rw [Addr.add_zero'] at hcell
  rw [hA] at c1
  have hcell' : w.cell? ad = some (.slice e0.A e0.l.length e0.c) := hcell
  have d0 := cell_alloc c0
  have d1 := cell_alloc c1
  have d2 := cell_alloc hcell'
  have H := hid h2
  have H5 := hid h5
  have H4 := hid h4
  have HR := hid hr
  have i1 := hid (fun o => cutR_any hk (h2.keep (w' := w.alloc o) (by simp) (fun b hb => Below.heap_alloc _ _ _ (h2.lt hb))) (i := 0) (by simp))
  have hbox := hid (Blk.new w 44 [.slice none 0 0, .bool false])
  have y2 : (((x'.length : Int) + 1) == 0) = false := by simp; omega
  have y3 : (0 : Int) < (x'.length : Int) + 1 := by omega
  clear h h2 h3 h4 h5 hr hq c0 c1 hcell hcell' hu hA ho o
  go_enter Try.func22, Try.ntmps22
  go_wp2_with fail
  refine (i1.out _).mono ?_
  rintro e w2 ⟨rfl, A1, c1, hR2, hG2, hap2⟩
  have HRd := hid (H.out.by_ e0 (.inl (by simp))).1
  have hnb : ∀ b, Foot e0.A b → b < w.heap.size ∧ ¬ (b = gW ∨ Foot A b) := fun b hb => by
    have := H.out.bo e0 (.inl (by simp)) b hb
    exact ⟨this.2.2.2, fun hor => hor.elim this.1 this.2.1⟩
  have hnx : ¬ (w.heap.size = gW ∨ Foot A w.heap.size) := fun hor => hor.elim (fun e => by have := H.out.wb.lt; omega) (fun hf => by have := H.out.r.lt hf; omega)
  have hB2 := hid (hbox.out.apart hap2 hnx)
  have t0 : w2.cell? ⟨w.heap.size, 0, none⟩ = some (.slice none 0 0) := hB2.out.cellAt rfl
  have t1 : w2.cell? ⟨w.heap.size, 1, none⟩ = some (.bool false) := hB2.out.cellAt rfl
  have s0 : ∀ i, w2.frozen? ⟨w.heap.size, i, none⟩ = false := fun i => hB2.out.frozen i
  have HR2 := hid hR2
  have HG2 := hid hG2
  have HA2 := hid hap2
  have HNB := hid hnb
  clear i1 d0 d1 d2 hR2 hG2 hap2 hnb hnx
  go_wp2_with fail
  have r0 : ∀ a, (w2.setCell ⟨w.heap.size, 0, none⟩ a).cell? ⟨w.heap.size, 0, none⟩ = some a := fun a => (hB2.out.set_ 0 a).cellAt (i := 0) rfl
  have r1 : ∀ a b, ((w2.setCell ⟨w.heap.size, 0, none⟩ a).setCell ⟨w.heap.size, 1, none⟩ b).cell? ⟨w.heap.size, 1, none⟩ = some b := fun a b => ((hB2.out.set_ 0 a).set_ 1 b).cellAt (i := 1) rfl
  refine bodyPost_ret (v := .agg #[.slice e0.A e0.l.length e0.c, .bool true]) (by simp [results, Try.results22, go_sem, r0, r1]) rfl ?_
  have hG0 : Goes (RF gR gW A A' (e0 :: x') y) w (RF gR gW A1 A' (cutB (e0 :: x') 0) y) w2 := (Goes.of_below (below_alloc1 w _)).trans HG2.out
  have hnR : ¬ RF gR gW A1 A' (cutB (e0 :: x') 0) y w.heap.size := fun hb => by
    rcases HG2.out.foot _ hb with h9 | h9
    · have := H.out.lt h9; omega
    · simp at h9; omega
  have hapf := (hG0.apart.setCell (p := ⟨w.heap.size, 0, none⟩) (.inr (Nat.le_refl _)) (.slice e0.A e0.l.length e0.c)).setCell (p := ⟨w.heap.size, 1, none⟩) (.inr (Nat.le_refl _)) (.bool true)
  have hkeep : ∀ b, b ≠ w.heap.size → ((w2.setCell ⟨w.heap.size, 0, none⟩ (.slice e0.A e0.l.length e0.c)).setCell ⟨w.heap.size, 1, none⟩ (.bool true)).heap[b]? = w2.heap[b]? := fun b hb => (Below.heap_setCell _ _ _ _ hb).trans (Below.heap_setCell _ _ _ _ hb)
  have hRf := HR2.out.keep (w' := (w2.setCell ⟨w.heap.size, 0, none⟩ (.slice e0.A e0.l.length e0.c)).setCell ⟨w.heap.size, 1, none⟩ (.bool true)) (by simp [World.setCell]) (fun b hb => hkeep b (fun e => hnR (e ▸ hb)))
  refine ⟨_, e0.A, e0.c, rfl, readsF HRd.out hapf.size (fun b hb => ?_), hRf.at_ hk (by rw [cutB_map]; show cutL (e0.l :: x'.map (·.l)) 0 = r; rw [HR.out]; simp [cutL]) H4.out, Goes.of_iff H5.out ⟨hapf, hG0.foot⟩⟩
  have h9 := HNB.out b hb
  refine (hkeep b (by omega)).trans ((HA2.out.block b (by simp; omega) h9.2).trans (Below.heap_alloc _ _ _ h9.1))
end
theorem info_frames : (Try.prog.info? 22).map (fun i => (i.zero, i.size, i.bytes)) = some (some (.slice none 0 0), 1, 24) := by kernel_rfl
set_option maxRecDepth 100000 in
theorem makeTwo (w : World) {ops : Array Oper} {rest : List Oper} {o : Oper} {a : Act} {Q : Exit → Act → World → Prop}
    (hg : o.guard = none) (l : Operand) (hop : o.op = Op.makeSlice 80 l l) (hl : a.eval l = .int .i64 2)
    (hK : ∀ w', Blk w' w.heap.size 22 [.slice none 0 0, .slice none 0 0] → Below w.heap.size w w' → wpList Try.prog ops Q rest (a.put o.dst (.slice (some ⟨w.heap.size, 0, none⟩) 2 2)) w') :
    wpList Try.prog ops Q (o :: rest) a w := by
  obtain ⟨i0, hi0, hz0, hz1, hz2⟩ := info_parts info_frames
  refine wpList_make_full w hg l l _ hop w.heap.size 22 i0 _ 1 Try.underlying80 hi0 hz0 hz1 .i64 .i64 _ _ 2 hl hl rfl rfl (by rw [hz2]; omega) (by simp [maxLen]) (Nat.le_refl _) ?_
  intro w' h1 h2
  refine hK w' ?_ ((Below.refl _ _).grown h2 (Nat.le_refl _) (by simp))
  have e : (madeCells (Value.slice none 0 0).cells (2 * 1)).toList = [.slice none 0 0, .slice none 0 0] := by
    rw [show (Value.slice none 0 0).cells = #[.slice none 0 0] from rfl, toList_madeCells_one]
    rfl
  rw [e] at h1
  rcases h1.2 with ⟨hv, _⟩ | ⟨g, cap, cur, hv, _, hgc, _, _, hcs, htk⟩
  · injection hv with hv
    cases hv
  · injection hv with hv1 _ hv3
    injection hv1 with hv1
    injection hv1 with hv1
    subst hv3
    rw [← hv1] at hgc
    have e2 : cur.toList = [.slice none 0 0, .slice none 0 0] := by
      rw [← htk, List.take_of_length_le (by simp; omega)]
    show w'.heap[w.heap.size]? = some (.cells [Value.slice none 0 0, .slice none 0 0].toArray 22 (0, 0))
    rw [hgc, ← e2]
theorem newR_any (w : World) : Calls Try.prog 21 #[] w fun e w' => ∃ F g, e = .returned (.pointer (some ⟨g, 0, none⟩)) ∧ RefL w' F g (two [] []) ∧ Below w.heap.size w w' ∧ ∀ b, F b → w.heap.size ≤ b := by
  go_enter Try.func21, Try.ntmps21
  go_wp2_with (at_make; refine makeTwo w rfl (.const (.int .i64 2)) rfl rfl ?_; intro w1 hrow1 hb1)
  go_ret
  have hno : ∀ b, ¬ Foot none b := fun b hb => by obtain ⟨a, ha, _⟩ := hb; cases ha
  refine ⟨RF w1.heap.size w.heap.size none none [] [], w1.heap.size, rfl, ⟨w.heap.size, none, 0, [], none, 0, [], ⟨Blk.new w1 _ [.slice (some ⟨w.heap.size, 0, none⟩) 2 2], hrow1.alloc _, Row.nil _ _, Row.nil _ _, fun b _ => hno b, by simp, by simp, fun e he => by simp at he, fun e he => by simp at he⟩, rfl, rfl, fun b => Iff.rfl⟩, bel_alloc hb1 _, fun b hb => ?_⟩
  rcases hb with rfl | rfl | hb | hb | ⟨e, he, _⟩
  · exact hb1.size
  · exact Nat.le_refl _
  · exact absurd hb (hno b)
  · exact absurd hb (hno b)
  · simp at he
end Go.Proofs.Ythnifgcoikmihaa
