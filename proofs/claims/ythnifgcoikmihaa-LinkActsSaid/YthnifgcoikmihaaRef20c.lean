/-
  The reference of layer 20: Do.
-/
import Derived.Test.YthnifgcoikmihaaRef20b
namespace Go.Proofs.Ythnifgcoikmihaa
open Go.RowKit Go.ChangeShapes Go.WideShapes Go.ChangeAt

theorem actR_in (kind way i kk at_ by_ : Int) (B : Option Addr) (n d : Nat) (w : World) : ∃ w1 : World, w.alloc (.cells #[.int .i64 kind, .int .i64 way, .int .i64 i, .int .i64 kk, .int .i64 at_, .int .i64 by_, .slice B n d] 42) = w1 ∧ Below w.heap.size w w1 ∧ Blk w1 w.heap.size 42 [.int .i64 kind, .int .i64 way, .int .i64 i, .int .i64 kk, .int .i64 at_, .int .i64 by_, .slice B n d] ∧ w1.heap.size = w.heap.size + 1 :=
  ⟨_, rfl, below_alloc1 _ _, Blk.new _ _ _, by simp⟩
section
variable {w w' : World} {F : Nat → Prop} {gR gW k : Nat} {A : Option Addr} {c : Nat} {x : List BE} {A' : Option Addr} {c' : Nat} {y : List BE} {q : Ways}
theorem doR_way (kind way i kk at_ by_ : Int) (B : Option Addr) (n d : Nat) (hw : way < 0 ∨ 2 ≤ way) :
    Calls Try.prog 24 #[.pointer (some ⟨gR, 0, none⟩), .agg #[.int .i64 kind, .int .i64 way, .int .i64 i, .int .i64 kk, .int .i64 at_, .int .i64 by_, .slice B n d]] w fun e w' => e = .returned (.int .i64 3) ∧ Below w.heap.size w w' := by
  obtain ⟨w1, hw1, hb1, hbx, hs1⟩ := actR_in kind way i kk at_ by_ B n d w
  have q0 : w1.cell? ⟨w.heap.size, 0, none⟩ = some (.int .i64 kind) := hbx.cellAt rfl
  have q1 : w1.cell? ⟨w.heap.size, 1, none⟩ = some (.int .i64 way) := hbx.cellAt rfl
  have q2 : w1.cell? ⟨w.heap.size, 2, none⟩ = some (.int .i64 i) := hbx.cellAt rfl
  have q3 : w1.cell? ⟨w.heap.size, 3, none⟩ = some (.int .i64 kk) := hbx.cellAt rfl
  have q4 : w1.cell? ⟨w.heap.size, 4, none⟩ = some (.int .i64 at_) := hbx.cellAt rfl
  have q5 : w1.cell? ⟨w.heap.size, 5, none⟩ = some (.int .i64 by_) := hbx.cellAt rfl
  have q6 : w1.cell? ⟨w.heap.size, 6, none⟩ = some (.slice B n d) := hbx.cellAt rfl
  have HS1 := hid hs1
  have HBX := hid hbx
  clear hs1 hbx
  by_cases h0 : way < 0
  · have y0 : decide (way < 0) = true := decide_eq_true h0
    clear h0 hw
    go_enter Try.func24, Try.ntmps24
    go_wp2_with fail
    go_ret
    exact ⟨rfl, hb1⟩
  · have y0 : decide (way < 0) = false := decide_eq_false h0
    have y1 : decide ((1 : Int) < way) = true := decide_eq_true (by omega)
    clear h0 hw
    go_enter Try.func24, Try.ntmps24
    go_wp2_with fail
    go_ret
    exact ⟨rfl, hb1⟩
theorem doR_put (h : RefL w F gR q) (hk : k < 2) (i kk at_ by_ : Int) (B : Option Addr) (n d : Nat) (l : List UInt8) (hr : Reads w w.heap.size 1 B n (l.map bV)) (hn : n ≤ 100000) :
    Calls Try.prog 24 #[.pointer (some ⟨gR, 0, none⟩), .agg #[.int .i64 0, .int .i64 (k : Int), .int .i64 i, .int .i64 kk, .int .i64 at_, .int .i64 by_, .slice B n d]] w (RLPost F w gR (.returned (.int .i64 (putE (q k)))) (putQ q k l)) := by
  obtain ⟨w1, hw1, hb1, hbx, hs1⟩ := actR_in 0 (k : Int) i kk at_ by_ B n d w
  have q0 : w1.cell? ⟨w.heap.size, 0, none⟩ = some (.int .i64 0) := hbx.cellAt rfl
  have q1 : w1.cell? ⟨w.heap.size, 1, none⟩ = some (.int .i64 (k : Int)) := hbx.cellAt rfl
  have q2 : w1.cell? ⟨w.heap.size, 2, none⟩ = some (.int .i64 i) := hbx.cellAt rfl
  have q3 : w1.cell? ⟨w.heap.size, 3, none⟩ = some (.int .i64 kk) := hbx.cellAt rfl
  have q4 : w1.cell? ⟨w.heap.size, 4, none⟩ = some (.int .i64 at_) := hbx.cellAt rfl
  have q5 : w1.cell? ⟨w.heap.size, 5, none⟩ = some (.int .i64 by_) := hbx.cellAt rfl
  have q6 : w1.cell? ⟨w.heap.size, 6, none⟩ = some (.slice B n d) := hbx.cellAt rfl
  have HS1 := hid hs1
  have HBX := hid hbx
  clear hs1 hbx
  have y0 : decide ((k : Int) < 0) = false := decide_eq_false (by omega)
  have y1 : decide ((1 : Int) < (k : Int)) = false := decide_eq_false (by omega)
  have y1' : decide (1 < k) = false := decide_eq_false (by omega)
  have k0 : (0 : Int) ≤ (k : Int) := Int.natCast_nonneg _
  have k1 : (k : Int) < 2 := by omega
  obtain ⟨gW, A, c, x, A', c', y, h2, h3, h4, h5⟩ := h.one hk
  have H1 := hid (h2.keep hb1.size (fun b hb => hb1.block b (h2.lt hb)))
  have H0 := hid h2
  have H3 := hid h3
  have H4 := hid h4
  have H5 := hid h5
  have HB1 := hid hb1
  by_cases hx : x.length = 32
  · have i1 := hid (putR_full hk H1.out B n d hx)
    have e1 : putE (q k) = 4 := by unfold putE; rw [← h3, if_pos (by simpa using hx)]
    have e2 : putQ q k l = q := by unfold putQ; rw [← h3, if_pos (by simpa using hx)]
    rw [e1, e2]
    have HH := hid h
    clear h2 h3 h4 h5 hb1 hr h e1 e2 hx
    go_enter Try.func24, Try.ntmps24
    go_wp2_with fail
    refine i1.out.mono ?_
    rintro e w2 ⟨rfl, rfl⟩
    go_wp2_with fail
    go_ret
    exact ⟨F, rfl, HH.out.belowS HB1.out, Goes.of_below HB1.out⟩
  · have i1 := hid (putR_room hk H1.out B n d l (hr.belowS hb1) hn hx)
    have e1 : putE (q k) = 0 := by unfold putE; rw [← h3, if_neg (by simpa using hx)]
    have e2 : putQ q k l = upd q k (q k ++ [l]) := by unfold putQ; rw [← h3, if_neg (by simpa using hx)]
    rw [e1, e2]
    clear h2 h3 h4 h5 hb1 hr h e1 e2 hx
    go_enter Try.func24, Try.ntmps24
    go_wp2_with fail
    refine i1.out.mono ?_
    rintro e w2 ⟨rfl, A1, c1, e1, he1, hR2, hG2⟩
    have HR2 := hid hR2
    have HG2 := hid hG2
    clear hR2 hG2
    go_wp2_with fail
    go_ret
    refine ⟨_, rfl, HR2.out.at_ hk ?_ H4.out, Goes.of_iff H5.out ((Goes.of_below HB1.out).trans HG2.out)⟩
    rw [List.map_append, H3.out]
    simp [he1]
theorem outR {x : List BE} {i : Int} : (decide (0 ≤ i) && decide (i < x.length)) = !(outB (x.map (·.l)) i) := by
  unfold outB
  rw [List.length_map]
  by_cases h0 : 0 ≤ i
  · by_cases h1 : i < (x.length : Int)
    · rw [decide_eq_true h0, decide_eq_true h1, decide_eq_false (show ¬ i < 0 by omega), decide_eq_false (show ¬ (x.length : Int) ≤ i by omega)]; rfl
    · rw [decide_eq_true h0, decide_eq_false h1, decide_eq_false (show ¬ i < 0 by omega), decide_eq_true (show (x.length : Int) ≤ i by omega)]; rfl
  · rw [decide_eq_false h0, decide_eq_true (show i < 0 by omega)]; simp
theorem doR_none (h : RefL w F gR q) (hk : k < 2) (kind i kk at_ by_ : Int) (B : Option Addr) (n d : Nat) (hkd : kind ≠ 0) (ho : outB (q k) i = true ∨ (kind = 4 ∧ outB (q k) kk = true)) :
    Calls Try.prog 24 #[.pointer (some ⟨gR, 0, none⟩), .agg #[.int .i64 kind, .int .i64 (k : Int), .int .i64 i, .int .i64 kk, .int .i64 at_, .int .i64 by_, .slice B n d]] w fun e w' => e = .returned (.int .i64 5) ∧ Below w.heap.size w w' := by
  obtain ⟨w1, hw1, hb1, hbx, hs1⟩ := actR_in kind (k : Int) i kk at_ by_ B n d w
  have q0 : w1.cell? ⟨w.heap.size, 0, none⟩ = some (.int .i64 kind) := hbx.cellAt rfl
  have q1 : w1.cell? ⟨w.heap.size, 1, none⟩ = some (.int .i64 (k : Int)) := hbx.cellAt rfl
  have q2 : w1.cell? ⟨w.heap.size, 2, none⟩ = some (.int .i64 i) := hbx.cellAt rfl
  have q3 : w1.cell? ⟨w.heap.size, 3, none⟩ = some (.int .i64 kk) := hbx.cellAt rfl
  have q4 : w1.cell? ⟨w.heap.size, 4, none⟩ = some (.int .i64 at_) := hbx.cellAt rfl
  have q5 : w1.cell? ⟨w.heap.size, 5, none⟩ = some (.int .i64 by_) := hbx.cellAt rfl
  have q6 : w1.cell? ⟨w.heap.size, 6, none⟩ = some (.slice B n d) := hbx.cellAt rfl
  have HS1 := hid hs1
  have HBX := hid hbx
  clear hs1 hbx
  have y0 : decide ((k : Int) < 0) = false := decide_eq_false (by omega)
  have y1 : decide ((1 : Int) < (k : Int)) = false := decide_eq_false (by omega)
  have y1' : decide (1 < k) = false := decide_eq_false (by omega)
  have k0 : (0 : Int) ≤ (k : Int) := Int.natCast_nonneg _
  have k1 : (k : Int) < 2 := by omega
  obtain ⟨gW, A, c, x, A', c', y, h2, h3, h4, h5⟩ := h.one hk
  have H1 := hid (h2.keep hb1.size (fun b hb => hb1.block b (h2.lt hb)))
  have H0 := hid h2
  have H3 := hid h3
  have H4 := hid h4
  have H5 := hid h5
  have HB1 := hid hb1
  have iT := hid (fun j => thereR_any hk H1.out j)
  have z0 : (kind == 0) = false := by simpa using hkd
  rw [← h3] at ho
  have e1 := outR (x := x) (i := i)
  have e2 := outR (x := x) (i := kk)
  have iT1 := hid (iT.out i)
  have iT2 := hid (iT.out kk)
  rw [e1] at iT1
  rw [e2] at iT2
  by_cases h9 : outB (x.map (·.l)) i = true
  · rw [h9] at iT1
    simp only [Bool.not_true] at iT1
    clear h2 h3 h4 h5 hb1 h ho h9 e1 e2 iT hkd
    go_enter Try.func24, Try.ntmps24
    go_wp2_with fail
    refine iT1.out.mono ?_
    rintro e w2 ⟨rfl, rfl⟩
    go_wp2_with fail
    go_ret
    exact ⟨rfl, HB1.out⟩
  · obtain ⟨rfl, h8⟩ := ho.resolve_left h9
    rw [show outB (x.map (·.l)) i = false by simpa using h9] at iT1
    rw [h8] at iT2
    simp only [Bool.not_true, Bool.not_false] at iT1 iT2
    clear h2 h3 h4 h5 hb1 h ho h9 e1 e2 iT hkd h8
    go_enter Try.func24, Try.ntmps24
    go_wp2_with fail
    refine iT1.out.mono ?_
    rintro e w2 ⟨rfl, rfl⟩
    go_wp2_with fail
    refine iT2.out.mono ?_
    rintro e w3 ⟨rfl, rfl⟩
    go_wp2_with fail
    go_ret
    exact ⟨rfl, HB1.out⟩
set_option maxRecDepth 100000 in
theorem doR_lose (h : RefL w F gR q) (hk : k < 2) {i : Nat} (hi : i < (q k).length) (kk at_ by_ : Int) (B : Option Addr) (n d : Nat) :
    Calls Try.prog 24 #[.pointer (some ⟨gR, 0, none⟩), .agg #[.int .i64 2, .int .i64 (k : Int), .int .i64 (i : Int), .int .i64 kk, .int .i64 at_, .int .i64 by_, .slice B n d]] w (RLPost F w gR (.returned (.int .i64 0)) (upd q k (cutL (q k) i))) := by
  obtain ⟨w1, hw1, hb1, hbx, hs1⟩ := actR_in 2 (k : Int) (i : Int) kk at_ by_ B n d w
  have q0 : w1.cell? ⟨w.heap.size, 0, none⟩ = some (.int .i64 2) := hbx.cellAt rfl
  have q1 : w1.cell? ⟨w.heap.size, 1, none⟩ = some (.int .i64 (k : Int)) := hbx.cellAt rfl
  have q2 : w1.cell? ⟨w.heap.size, 2, none⟩ = some (.int .i64 (i : Int)) := hbx.cellAt rfl
  have q3 : w1.cell? ⟨w.heap.size, 3, none⟩ = some (.int .i64 kk) := hbx.cellAt rfl
  have q4 : w1.cell? ⟨w.heap.size, 4, none⟩ = some (.int .i64 at_) := hbx.cellAt rfl
  have q5 : w1.cell? ⟨w.heap.size, 5, none⟩ = some (.int .i64 by_) := hbx.cellAt rfl
  have q6 : w1.cell? ⟨w.heap.size, 6, none⟩ = some (.slice B n d) := hbx.cellAt rfl
  have HS1 := hid hs1
  have HBX := hid hbx
  clear hs1 hbx
  have y0 : decide ((k : Int) < 0) = false := decide_eq_false (by omega)
  have y1 : decide ((1 : Int) < (k : Int)) = false := decide_eq_false (by omega)
  have y1' : decide (1 < k) = false := decide_eq_false (by omega)
  have k0 : (0 : Int) ≤ (k : Int) := Int.natCast_nonneg _
  have k1 : (k : Int) < 2 := by omega
  obtain ⟨gW, A, c, x, A', c', y, h2, h3, h4, h5⟩ := h.one hk
  have H1 := hid (h2.keep hb1.size (fun b hb => hb1.block b (h2.lt hb)))
  have H0 := hid h2
  have H3 := hid h3
  have H4 := hid h4
  have H5 := hid h5
  have HB1 := hid hb1
  have hlx : i < x.length := by
    have := hi
    rw [← h3] at this
    simpa using this
  have iT1 := hid (thereR_any hk H1.out (i : Int))
  rw [decide_eq_true (show (0 : Int) ≤ (i : Int) by omega), decide_eq_true (show (i : Int) < (x.length : Int) by omega)] at iT1
  obtain ⟨e0, he0⟩ : ∃ e0, x[i]? = some e0 := ⟨_, List.getElem?_eq_getElem hlx⟩
  obtain ⟨ad, u, hA, hadl, hu, hcell⟩ := H1.out.r.reads.at_ (k := i) hlx
  obtain rfl : eC e0 = u := by
    rw [List.getElem?_map, he0] at hu
    simpa using hu
  obtain ⟨c0, c1⟩ := H1.out.cells hk
  have hcell' : w1.cell? (ad.add i) = some (.slice e0.A e0.l.length e0.c) := hcell
  have x0 : (0 : Int) ≤ (i : Int) := by omega
  have x1 : (i : Int) < (x.length : Int) := by omega
  have HE := hid he0
  have hq : Hid ((q k)[i]? = some e0.l) := hid (by rw [← h3, List.getElem?_map, he0]; rfl)
  have i2 := hid (fun nq => cutR_any hk (H1.out.keep (w' := w1.drewN nq) (Nat.le_refl _) (fun _ _ => rfl)) hlx)
  have HA := hid hA
  subst hA
  clear h h2 h3 h4 h5 hb1 hi hu hcell he0
  go_enter Try.func24, Try.ntmps24
  go_wp2_with fail
  refine iT1.out.mono ?_
  rintro e w2 ⟨rfl, rfl⟩
  go_wp2_with fail
  go_quiet (fail)
  go_wp2_with fail
  refine (i2.out _).mono ?_
  rintro e w3 ⟨rfl, A1, c1, hR3, hG3, _⟩
  have HR3 := hid hR3
  have HG3 := hid hG3
  clear hR3 hG3
  go_wp2_with fail
  go_ret
  have hb0 : Below w.heap.size w (w2.drewN nq) := below_drewN HB1.out nq
  refine ⟨_, rfl, HR3.out.at_ hk ?_ H4.out, Goes.of_iff H5.out ((Goes.of_below hb0).trans HG3.out)⟩
  rw [cutB_map, H3.out]
set_option maxRecDepth 100000 in
theorem doR_twice (h : RefL w F gR q) (hk : k < 2) {i : Nat} {f : List UInt8} (hf : (q k)[i]? = some f) (hfl : f.length ≤ 100000) (kk at_ by_ : Int) (B : Option Addr) (n d : Nat) :
    Calls Try.prog 24 #[.pointer (some ⟨gR, 0, none⟩), .agg #[.int .i64 3, .int .i64 (k : Int), .int .i64 (i : Int), .int .i64 kk, .int .i64 at_, .int .i64 by_, .slice B n d]] w (RLPost F w gR (.returned (.int .i64 (putE (q k)))) (putQ q k f)) := by
  have hi := (List.getElem?_eq_some_iff.1 hf).1
  obtain ⟨w1, hw1, hb1, hbx, hs1⟩ := actR_in 3 (k : Int) (i : Int) kk at_ by_ B n d w
  have q0 : w1.cell? ⟨w.heap.size, 0, none⟩ = some (.int .i64 3) := hbx.cellAt rfl
  have q1 : w1.cell? ⟨w.heap.size, 1, none⟩ = some (.int .i64 (k : Int)) := hbx.cellAt rfl
  have q2 : w1.cell? ⟨w.heap.size, 2, none⟩ = some (.int .i64 (i : Int)) := hbx.cellAt rfl
  have q3 : w1.cell? ⟨w.heap.size, 3, none⟩ = some (.int .i64 kk) := hbx.cellAt rfl
  have q4 : w1.cell? ⟨w.heap.size, 4, none⟩ = some (.int .i64 at_) := hbx.cellAt rfl
  have q5 : w1.cell? ⟨w.heap.size, 5, none⟩ = some (.int .i64 by_) := hbx.cellAt rfl
  have q6 : w1.cell? ⟨w.heap.size, 6, none⟩ = some (.slice B n d) := hbx.cellAt rfl
  have HS1 := hid hs1
  have HBX := hid hbx
  clear hs1 hbx
  have y0 : decide ((k : Int) < 0) = false := decide_eq_false (by omega)
  have y1 : decide ((1 : Int) < (k : Int)) = false := decide_eq_false (by omega)
  have y1' : decide (1 < k) = false := decide_eq_false (by omega)
  have k0 : (0 : Int) ≤ (k : Int) := Int.natCast_nonneg _
  have k1 : (k : Int) < 2 := by omega
  obtain ⟨gW, A, c, x, A', c', y, h2, h3, h4, h5⟩ := h.one hk
  have H1 := hid (h2.keep hb1.size (fun b hb => hb1.block b (h2.lt hb)))
  have H0 := hid h2
  have H3 := hid h3
  have H4 := hid h4
  have H5 := hid h5
  have HB1 := hid hb1
  have hlx : i < x.length := by
    have := hi
    rw [← h3] at this
    simpa using this
  have iT1 := hid (thereR_any hk H1.out (i : Int))
  rw [decide_eq_true (show (0 : Int) ≤ (i : Int) by omega), decide_eq_true (show (i : Int) < (x.length : Int) by omega)] at iT1
  obtain ⟨e0, he0⟩ : ∃ e0, x[i]? = some e0 := ⟨_, List.getElem?_eq_getElem hlx⟩
  obtain ⟨ad, u, hA, hadl, hu, hcell⟩ := H1.out.r.reads.at_ (k := i) hlx
  obtain rfl : eC e0 = u := by
    rw [List.getElem?_map, he0] at hu
    simpa using hu
  obtain ⟨c0, c1⟩ := H1.out.cells hk
  have hcell' : w1.cell? (ad.add i) = some (.slice e0.A e0.l.length e0.c) := hcell
  have x0 : (0 : Int) ≤ (i : Int) := by omega
  have x1 : (i : Int) < (x.length : Int) := by omega
  have HE := hid he0
  have hq : Hid ((q k)[i]? = some e0.l) := hid (by rw [← h3, List.getElem?_map, he0]; rfl)
  have hff : e0.l = f := by
    have := hq.out
    rw [hf] at this
    exact (Option.some.inj this).symm
  subst hff
  have hbk := (H1.out.by_ e0 (.inl (List.mem_of_getElem? he0))).1
  subst hA
  by_cases hx : x.length = 32
  · have i2 := hid (fun nq => putR_full hk (H1.out.keep (w' := w1.drewN nq) (Nat.le_refl _) (fun _ _ => rfl)) e0.A e0.l.length e0.c hx)
    have e1 : putE (q k) = 4 := by unfold putE; rw [← h3, if_pos (by simpa using hx)]
    have e2 : putQ q k e0.l = q := by unfold putQ; rw [← h3, if_pos (by simpa using hx)]
    rw [e1, e2]
    have HH := hid h
    clear h h2 h3 h4 h5 hb1 hi hu hcell he0 e1 e2 hf hbk hx
    go_enter Try.func24, Try.ntmps24
    go_wp2_with fail
    refine iT1.out.mono ?_
    rintro e w2 ⟨rfl, rfl⟩
    go_wp2_with fail
    go_quiet (fail)
    go_wp2_with fail
    refine (i2.out _).mono ?_
    rintro e w3 ⟨rfl, rfl⟩
    go_wp2_with fail
    go_ret
    have hb0 : Below w.heap.size w (w2.drewN nq) := below_drewN HB1.out nq
    exact ⟨F, rfl, HH.out.belowS hb0, Goes.of_below hb0⟩
  · have i2 := hid (fun nq => putR_room hk (H1.out.keep (w' := w1.drewN nq) (Nat.le_refl _) (fun _ _ => rfl)) e0.A e0.l.length e0.c e0.l (hbk.belowS (w' := w1.drewN nq) ⟨rfl, rfl, rfl, Nat.le_refl _, fun _ _ => rfl⟩) hfl hx)
    have e1 : putE (q k) = 0 := by unfold putE; rw [← h3, if_neg (by simpa using hx)]
    have e2 : putQ q k e0.l = upd q k (q k ++ [e0.l]) := by unfold putQ; rw [← h3, if_neg (by simpa using hx)]
    rw [e1, e2]
    clear h h2 h3 h4 h5 hb1 hi hu hcell he0 e1 e2 hf hbk hx
    go_enter Try.func24, Try.ntmps24
    go_wp2_with fail
    refine iT1.out.mono ?_
    rintro e w2 ⟨rfl, rfl⟩
    go_wp2_with fail
    go_quiet (fail)
    go_wp2_with fail
    refine (i2.out _).mono ?_
    rintro e w3 ⟨rfl, A1, c1, e1, he1, hR2, hG2⟩
    have HR2 := hid hR2
    have HG2 := hid hG2
    clear hR2 hG2
    go_wp2_with fail
    go_ret
    have hb0 : Below w.heap.size w (w2.drewN nq) := below_drewN HB1.out nq
    refine ⟨_, rfl, HR2.out.at_ hk ?_ H4.out, Goes.of_iff H5.out ((Goes.of_below hb0).trans HG2.out)⟩
    rw [List.map_append, H3.out]
    simp [he1]
end
end Go.Proofs.Ythnifgcoikmihaa
