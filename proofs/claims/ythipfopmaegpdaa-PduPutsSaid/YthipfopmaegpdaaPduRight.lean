/-
  pdu.Right: a message is right where its fields lie in their widths.
-/
import Derived.Test.YthipfopmaegpdaaPdu
namespace Go.Proofs.Ythipfopmaegpdaa
open Go.RowKit Go.ChangeShapes Go.WideShapes Go.ChangeAt

theorem pdu_in (p : PduS) (A : Option Addr) (c : Nat) (w : World) : ∃ w1 : World, w.alloc (.cells #[.int .i64 p.kind, .int .i64 p.ses, .int .i64 p.part, .int .i64 p.no, .int .i64 p.size, .int .i64 p.what, .int .i64 p.code, .int .i64 p.hav, .slice A p.data.length c] 24) = w1 ∧ Below w.heap.size w w1 ∧ Blk w1 w.heap.size 24 (pduC p A c) ∧ w1.heap.size = w.heap.size + 1 :=
  ⟨_, rfl, (Below.refl _ _).alloc (Nat.le_refl _) _, Blk.new _ _ _, by simp⟩
theorem pdu_cells {w : World} {g : Nat} {p : PduS} {A : Option Addr} {c : Nat} (h : Blk w g 24 (pduC p A c)) :
    w.cell? ⟨g, 0, none⟩ = some (.int .i64 p.kind) ∧ w.cell? ⟨g, 1, none⟩ = some (.int .i64 p.ses) ∧ w.cell? ⟨g, 2, none⟩ = some (.int .i64 p.part) ∧ w.cell? ⟨g, 3, none⟩ = some (.int .i64 p.no) ∧ w.cell? ⟨g, 4, none⟩ = some (.int .i64 p.size) ∧ w.cell? ⟨g, 5, none⟩ = some (.int .i64 p.what) ∧ w.cell? ⟨g, 6, none⟩ = some (.int .i64 p.code) ∧ w.cell? ⟨g, 7, none⟩ = some (.int .i64 p.hav) ∧ w.cell? ⟨g, 8, none⟩ = some (.slice A p.data.length c) :=
  ⟨h.cellAt rfl, h.cellAt rfl, h.cellAt rfl, h.cellAt rfl, h.cellAt rfl, h.cellAt rfl, h.cellAt rfl, h.cellAt rfl, h.cellAt rfl⟩
theorem pdu_f {w : World} {g : Nat} {p : PduS} {A : Option Addr} {c : Nat} (h : Blk w g 24 (pduC p A c)) {k : Nat} (hk : k < 7) : w.cell? ⟨g, k + 1, none⟩ = some (.int .i64 (p.f k)) := by
  obtain ⟨_, c1, c2, c3, c4, c5, c6, c7, _⟩ := pdu_cells h
  have : k = 0 ∨ k = 1 ∨ k = 2 ∨ k = 3 ∨ k = 4 ∨ k = 5 ∨ k = 6 := by omega
  rcases this with rfl | rfl | rfl | rfl | rfl | rfl | rfl
  · exact c1
  · exact c2
  · exact c3
  · exact c4
  · exact c5
  · exact c6
  · exact c7
theorem most_f {w : World} {g : Nat} {L : List Nat} (h : Blk w g 88 (mostC L)) {k : Nat} (hk : k < 7) : w.cell? ⟨g, k, none⟩ = some (.int .i64 (mostAt L k)) := h.cellAt (mostC_get L k hk)
theorem idxW0 : ∀ w, (Instr.index 88 (.agg #[.int .i64 2, .int .i64 1, .int .i64 1, .int .i64 2, .int .i64 1, .int .i64 1, .int .i64 2]) (.int .i64 0)).run Try.prog w = .ok (.int .i64 2) w := by intro w; kernel_rfl
theorem idxP0 (g : Nat) : ∀ w, (Instr.index 85 (.agg #[.pointer (some ⟨g, 1, none⟩), .pointer (some ⟨g, 2, none⟩), .pointer (some ⟨g, 3, none⟩), .pointer (some ⟨g, 4, none⟩), .pointer (some ⟨g, 5, none⟩), .pointer (some ⟨g, 6, none⟩), .pointer (some ⟨g, 7, none⟩)]) (.int .i64 0)).run Try.prog w = .ok (.pointer (some ⟨g, 1, none⟩)) w := by intro w; kernel_rfl
theorem idxW1 : ∀ w, (Instr.index 88 (.agg #[.int .i64 2, .int .i64 1, .int .i64 1, .int .i64 2, .int .i64 1, .int .i64 1, .int .i64 2]) (.int .i64 1)).run Try.prog w = .ok (.int .i64 1) w := by intro w; kernel_rfl
theorem idxP1 (g : Nat) : ∀ w, (Instr.index 85 (.agg #[.pointer (some ⟨g, 1, none⟩), .pointer (some ⟨g, 2, none⟩), .pointer (some ⟨g, 3, none⟩), .pointer (some ⟨g, 4, none⟩), .pointer (some ⟨g, 5, none⟩), .pointer (some ⟨g, 6, none⟩), .pointer (some ⟨g, 7, none⟩)]) (.int .i64 1)).run Try.prog w = .ok (.pointer (some ⟨g, 2, none⟩)) w := by intro w; kernel_rfl
theorem idxW2 : ∀ w, (Instr.index 88 (.agg #[.int .i64 2, .int .i64 1, .int .i64 1, .int .i64 2, .int .i64 1, .int .i64 1, .int .i64 2]) (.int .i64 2)).run Try.prog w = .ok (.int .i64 1) w := by intro w; kernel_rfl
theorem idxP2 (g : Nat) : ∀ w, (Instr.index 85 (.agg #[.pointer (some ⟨g, 1, none⟩), .pointer (some ⟨g, 2, none⟩), .pointer (some ⟨g, 3, none⟩), .pointer (some ⟨g, 4, none⟩), .pointer (some ⟨g, 5, none⟩), .pointer (some ⟨g, 6, none⟩), .pointer (some ⟨g, 7, none⟩)]) (.int .i64 2)).run Try.prog w = .ok (.pointer (some ⟨g, 3, none⟩)) w := by intro w; kernel_rfl
theorem idxW3 : ∀ w, (Instr.index 88 (.agg #[.int .i64 2, .int .i64 1, .int .i64 1, .int .i64 2, .int .i64 1, .int .i64 1, .int .i64 2]) (.int .i64 3)).run Try.prog w = .ok (.int .i64 2) w := by intro w; kernel_rfl
theorem idxP3 (g : Nat) : ∀ w, (Instr.index 85 (.agg #[.pointer (some ⟨g, 1, none⟩), .pointer (some ⟨g, 2, none⟩), .pointer (some ⟨g, 3, none⟩), .pointer (some ⟨g, 4, none⟩), .pointer (some ⟨g, 5, none⟩), .pointer (some ⟨g, 6, none⟩), .pointer (some ⟨g, 7, none⟩)]) (.int .i64 3)).run Try.prog w = .ok (.pointer (some ⟨g, 4, none⟩)) w := by intro w; kernel_rfl
theorem idxW4 : ∀ w, (Instr.index 88 (.agg #[.int .i64 2, .int .i64 1, .int .i64 1, .int .i64 2, .int .i64 1, .int .i64 1, .int .i64 2]) (.int .i64 4)).run Try.prog w = .ok (.int .i64 1) w := by intro w; kernel_rfl
theorem idxP4 (g : Nat) : ∀ w, (Instr.index 85 (.agg #[.pointer (some ⟨g, 1, none⟩), .pointer (some ⟨g, 2, none⟩), .pointer (some ⟨g, 3, none⟩), .pointer (some ⟨g, 4, none⟩), .pointer (some ⟨g, 5, none⟩), .pointer (some ⟨g, 6, none⟩), .pointer (some ⟨g, 7, none⟩)]) (.int .i64 4)).run Try.prog w = .ok (.pointer (some ⟨g, 5, none⟩)) w := by intro w; kernel_rfl
theorem idxW5 : ∀ w, (Instr.index 88 (.agg #[.int .i64 2, .int .i64 1, .int .i64 1, .int .i64 2, .int .i64 1, .int .i64 1, .int .i64 2]) (.int .i64 5)).run Try.prog w = .ok (.int .i64 1) w := by intro w; kernel_rfl
theorem idxP5 (g : Nat) : ∀ w, (Instr.index 85 (.agg #[.pointer (some ⟨g, 1, none⟩), .pointer (some ⟨g, 2, none⟩), .pointer (some ⟨g, 3, none⟩), .pointer (some ⟨g, 4, none⟩), .pointer (some ⟨g, 5, none⟩), .pointer (some ⟨g, 6, none⟩), .pointer (some ⟨g, 7, none⟩)]) (.int .i64 5)).run Try.prog w = .ok (.pointer (some ⟨g, 6, none⟩)) w := by intro w; kernel_rfl
theorem idxW6 : ∀ w, (Instr.index 88 (.agg #[.int .i64 2, .int .i64 1, .int .i64 1, .int .i64 2, .int .i64 1, .int .i64 1, .int .i64 2]) (.int .i64 6)).run Try.prog w = .ok (.int .i64 2) w := by intro w; kernel_rfl
theorem idxP6 (g : Nat) : ∀ w, (Instr.index 85 (.agg #[.pointer (some ⟨g, 1, none⟩), .pointer (some ⟨g, 2, none⟩), .pointer (some ⟨g, 3, none⟩), .pointer (some ⟨g, 4, none⟩), .pointer (some ⟨g, 5, none⟩), .pointer (some ⟨g, 6, none⟩), .pointer (some ⟨g, 7, none⟩)]) (.int .i64 6)).run Try.prog w = .ok (.pointer (some ⟨g, 7, none⟩)) w := by intro w; kernel_rfl
theorem rightP_bad {p : PduS} {k : Nat} (hk : k < 7) (h : p.f k < 0 ∨ mostAt (fieldsK p.kind) k < p.f k) : rightP p = false := by
  unfold rightP
  have : (List.range 7).all (okF p) = false := by
    rw [Bool.eq_false_iff]
    intro ha
    have := List.all_eq_true.1 ha k (List.mem_range.2 hk)
    simp only [okF, Bool.and_eq_true, decide_eq_true_eq] at this
    omega
  rw [this, Bool.false_and]
theorem rightP_ok {p : PduS} (h : ∀ j, j < 7 → okF p j = true) : rightP p = if p.kind = 2 then decide (p.data.length = 16) else (decide (0 < (fieldsK p.kind).length) && decide (p.data.length = 0)) := by
  unfold rightP
  rw [List.all_eq_true.2 (fun k hk => h k (List.mem_range.1 hk)), Bool.true_and]

set_option maxRecDepth 100000 in
set_option maxHeartbeats 4000000 in
theorem right_any (p : PduS) (A : Option Addr) (c : Nat) (w : World) :
    Calls Try.prog 35 #[.agg #[.int .i64 p.kind, .int .i64 p.ses, .int .i64 p.part, .int .i64 p.no, .int .i64 p.size, .int .i64 p.what, .int .i64 p.code, .int .i64 p.hav, .slice A p.data.length c]] w fun e w' => e = .returned (.bool (rightP p)) ∧ Below w.heap.size w w' := by
  obtain ⟨w1, hw1, hb1, hblk1, hs1⟩ := pdu_in p A c w
  obtain ⟨c0, -, -, -, -, -, -, -, c8⟩ := pdu_cells hblk1
  have HLL := hid (fieldsK_lt p.kind)
  have hL4 := fieldsK_len p.kind
  have i1 := hid (named_any p.kind)
  unfold NamedPost at i1
  have hbad := hid (fun k hk h => @rightP_bad p k hk h)
  have hgood := hid (@rightP_ok p)
  have hok : Hid (∀ k, 0 ≤ p.f k → p.f k ≤ mostAt (fieldsK p.kind) k → okF p k = true) := hid (fun k h1 h2 => by
    simp only [okF, Bool.and_eq_true, decide_eq_true_eq]
    omega)
  generalize hL : fieldsK p.kind = L at i1 HLL hL4 hbad hgood hok
  generalize hR : rightP p = R at hbad hgood
  clear hL hR
  go_enter Try.func35, Try.ntmps35
  go_wp2_with fail
  clear hw1 hs1
  refine (i1.out _).mono ?_
  rintro e w2 ⟨AL, cL, rfl, hRL, hb2⟩
  have hblk2 := hblk1.belowS hb2
  have hb02 := bel_trans hb1 hb2
  clear c0 c8 hblk1 i1
  have hDK : Hid (decide (p.kind = 2) = true ↔ p.kind = 2) := hid decide_eq_true_iff
  generalize decide (p.kind = 2) = DD at hDK ⊢
  obtain ⟨w3, hw3, hb3, hm3⟩ : ∃ w3 : World, w2.alloc (.cells #[.int .i64 0, .int .i64 0, .int .i64 0, .int .i64 0, .int .i64 0, .int .i64 0, .int .i64 0] 88) = w3 ∧ Below w2.heap.size w2 w3 ∧ Blk w3 w2.heap.size 88 (mostC []) := ⟨_, rfl, (Below.refl _ _).alloc (Nat.le_refl _) _, Blk.new _ _ _⟩
  have HW := hid hw3
  clear hw3
  go_wp2_with fail
  rw [HW.out]
  clear HW
  have hgl : w.heap.size < w2.heap.size := hblk2.lt
  generalize w2.heap.size = g5 at *
  go_loopw [7, 19] (fun _ v19 wr => ∃ k : Nat, k ≤ L.length ∧ v19 = .int .i64 (k : Int) ∧ Blk wr g5 88 (mostC (L.take k)) ∧ Below g5 w2 wr) (fun _ v19 _ => L.length - (intOf v19).toNat)
  case atStart => exact ⟨0, by omega, rfl, hm3, hb3⟩
  obtain ⟨k, hk, rfl, hm, hbel⟩ := hrel
  by_cases hkn : k < L.length
  · have HOr := hid (hRL.below hbel)
    obtain ⟨ad, f, rfl, had, hf, hc⟩ := HOr.out.atM hkn
    have hf7 := HLL.out f (List.mem_of_getElem? hf)
    have hk0 : (0 : Int) ≤ (k : Int) := Int.natCast_nonneg _
    have hk1 : (k : Int) < (L.length : Int) := by omega
    have hknd : decide ((k : Int) < (L.length : Int)) = true := decide_eq_true hk1
    have hset : Hid (∀ w' : World, Blk w' g5 88 (mostC (L.take k)) → Blk (w'.setCell ⟨g5, f, none⟩ (.int .i64 (mostF f))) g5 88 (mostC (L.take (k + 1)))) := hid (fun w' h => by
      have h2 := h.set_ f (.int .i64 (mostF f))
      rw [mostC_set _ _ hf7] at h2
      rw [List.take_add_one, hf]
      exact h2)
    have hmf := hid (fun w' (h : Blk w' g5 88 (mostC (L.take k))) => most_f h hf7)
    simp only [nV] at hc
    clear hf HOr hm3
    have hcs : f = 0 ∨ f = 1 ∨ f = 2 ∨ f = 3 ∨ f = 4 ∨ f = 5 ∨ f = 6 := by omega
    clear hf7
    rcases hcs with rfl | rfl | rfl | rfl | rfl | rfl | rfl
    all_goals (
      go_wp2_with fail
      have x0 := idxW0
      have x1 := idxW1
      have x2 := idxW2
      have x3 := idxW3
      have x4 := idxW4
      have x5 := idxW5
      have x6 := idxW6
      refine (widths_any _).mono ?_
      rintro e w4 ⟨rfl, hb4⟩
      have hm4 := hm.belowS hb4
      have hm5 := hid (hset.out _ hm4)
      have d0 := hmf.out _ hm4
      have f0 := hm4.frozen
      have hbel4 := hid (hbel.trans (hb4.mono (Nat.le_of_lt hm.lt)))
      simp only [mostF] at hm5
      clear hc hset hmf
      generalize mostAt (L.take k) _ = mk at d0
      have f1 := f0 0
      have f2 := f0 1
      have f3 := f0 2
      have f4 := f0 3
      have f5 := f0 4
      have f6 := f0 5
      have f7 := f0 6
      clear f0
      go_wp2_with fail
      go_roundw
      case rel => exact ⟨k + 1, by omega, by go_num, hm5.out, hbel4.out.setCell (Nat.le_refl _) _⟩
      case measure => simp [intOf]; omega)
  · obtain rfl : k = L.length := by omega
    rw [List.take_length] at hm
    have hblk3 := hblk2.below hbel hgl
    have hb0r : Below w.heap.size w wr := hb02.trans (hbel.mono (Nat.le_of_lt hgl))
    obtain ⟨wo, rfl⟩ : ∃ wo : World, wo = wr := ⟨_, rfl⟩
    clear hm3 hblk2 hb2 hb3 hb02 hbel
    go_wp2_with fail
    refine (numbers_any _ _ _ hblk3).mono ?_
    rintro e w4 ⟨rfl, hb4⟩
    have hblk4 := hblk3.belowS hb4
    have hm4 := hm.belowS hb4
    have hb04 := bel_trans hb0r hb4
    clear hblk3 hm hb0r hb4
    go_wp2_with fail
    go_loopw [8, 9, 33] (fun _ _ v33 wr => ∃ k : Nat, k ≤ 7 ∧ v33 = .int .i64 (k : Int) ∧ Hid (∀ j, j < k → okF p j = true) ∧ Below w4.heap.size w4 wr) (fun _ _ v33 _ => 7 - (intOf v33).toNat)
    case atStart => exact ⟨0, by omega, rfl, hid (fun j hj => absurd hj (by omega)), Below.refl _ _⟩
    obtain ⟨k, hk, rfl, HK, hbel⟩ := hrel
    have hblk5 := hblk4.belowS hbel
    have hm5 := hm4.belowS hbel
    have hb05 := hid (bel_trans hb04 hbel)
    by_cases hk7 : k < 7
    · have cX := pdu_f hblk5 hk7
      have cM := most_f hm5 hk7
      have HX : Hid (p.f k < 0 ∨ mostAt L k < p.f k → R = false) := hid (hbad.out k hk7)
      have HY : Hid (¬ (p.f k < 0) → ¬ (mostAt L k < p.f k) → ∀ j, j < k + 1 → okF p j = true) := hid (fun h1 h2 j hj => if e : j = k then by rw [e]; exact hok.out k (by omega) (by omega) else HK.out j (by omega))
      generalize p.f k = X at cX HX HY
      generalize mostAt L k = M at cM HX HY
      have gk : decide ((k : Int) < 7) = true := decide_eq_true (by omega)
      have x0 := idxP0 w.heap.size
      have x1 := idxP1 w.heap.size
      have x2 := idxP2 w.heap.size
      have x3 := idxP3 w.heap.size
      have x4 := idxP4 w.heap.size
      have x5 := idxP5 w.heap.size
      have x6 := idxP6 w.heap.size
      clear hblk5 hm5 HK
      by_cases hX0 : X < 0
      · have hRf := hid (HX.out (.inl hX0))
        have g0 : decide (X < 0) = true := decide_eq_true hX0
        clear HX HY hX0
        have hcs : k = 0 ∨ k = 1 ∨ k = 2 ∨ k = 3 ∨ k = 4 ∨ k = 5 ∨ k = 6 := by omega
        clear hk7 hk gk
        rcases hcs with rfl | rfl | rfl | rfl | rfl | rfl | rfl
        all_goals (
          simp only [Nat.reduceAdd] at cX
          go_wp2_with fail
          go_quiet (fail)
          go_wp2_with fail
          go_ret
          exact ⟨by rw [hRf.out]; rfl, below_drewN hb05.out _⟩)
      · by_cases hXM : M < X
        · have hRf := hid (HX.out (.inr hXM))
          have g0 : decide (X < 0) = false := decide_eq_false hX0
          have g1 : decide (M < X) = true := decide_eq_true hXM
          clear HX HY hX0 hXM
          have hcs : k = 0 ∨ k = 1 ∨ k = 2 ∨ k = 3 ∨ k = 4 ∨ k = 5 ∨ k = 6 := by omega
          clear hk7 hk gk
          rcases hcs with rfl | rfl | rfl | rfl | rfl | rfl | rfl
          all_goals (
            simp only [Nat.reduceAdd] at cX
            go_wp2_with fail
            go_quiet (fail)
            go_wp2_with fail
            go_ret
            exact ⟨by rw [hRf.out]; rfl, below_drewN hb05.out _⟩)
        · have hKK := hid (HY.out hX0 hXM)
          have g0 : decide (X < 0) = false := decide_eq_false hX0
          have g1 : decide (M < X) = false := decide_eq_false hXM
          clear HX HY hX0 hXM
          have hcs : k = 0 ∨ k = 1 ∨ k = 2 ∨ k = 3 ∨ k = 4 ∨ k = 5 ∨ k = 6 := by omega
          clear hk7 hk gk
          rcases hcs with rfl | rfl | rfl | rfl | rfl | rfl | rfl
          all_goals (
            simp only [Nat.reduceAdd] at cX hKK
            go_wp2_with fail
            go_quiet (fail)
            go_wp2_with fail
            go_roundw
            case rel => exact ⟨_, by decide, rfl, hid hKK.out, below_drewN hbel _⟩
            case measure => simp [intOf])
    · obtain rfl : k = 7 := by omega
      have hRR := hid (hgood.out (fun j hj => HK.out j hj))
      obtain ⟨c0, -, -, -, -, -, -, -, c8⟩ := pdu_cells hblk5
      clear hblk5 hm5 HK
      cases hDe : DD with
      | true =>
        have hRe := hid (hRR.out.trans (if_pos (hDK.out.1 hDe)))
        clear hDe
        go_wp2_with fail
        go_ret
        refine ⟨?_, hb05.out⟩
        rw [hRe.out]
        exact ret_bool (by by_cases h : p.data.length = 16 <;> simp [h] <;> omega)
      | false =>
        have hRe := hid (hRR.out.trans (if_neg (fun h => by have := hDK.out.2 h; rw [hDe] at this; exact absurd this (by simp))))
        clear hDe
        by_cases h0 : 0 < L.length
        · have g0 : decide ((0 : Int) < (L.length : Int)) = true := decide_eq_true (by omega)
          have h0' := hid h0
          clear h0
          go_wp2_with fail
          go_ret
          refine ⟨?_, hb05.out⟩
          rw [hRe.out]
          have := h0'.out
          exact ret_bool (by by_cases h : p.data.length = 0 <;> simp [h, this] <;> omega)
        · have g0 : decide ((0 : Int) < (L.length : Int)) = false := decide_eq_false (by omega)
          have h0' := hid h0
          clear h0
          go_wp2_with fail
          go_ret
          refine ⟨?_, hb05.out⟩
          rw [hRe.out]
          have := h0'.out
          exact ret_bool (by simp; omega)
end Go.Proofs.Ythipfopmaegpdaa
