/-
  Are messages alike? pdu.Same, and the document's own answer.
-/
import Derived.Test.YthipfopmaegpdaaPduRight
import Derived.Test.YthipfopmaegpdaaBytesEq
namespace Go.Proofs.Ythipfopmaegpdaa
open Go.RowKit Go.ChangeShapes Go.WideShapes Go.ChangeAt

def sameP (p q : PduS) : Bool := (List.range 7).all (fun f => p.f f == q.f f) && (p.kind == q.kind) && decide (p.data = q.data)
theorem sameP_refl (p : PduS) : sameP p p = true := by simp [sameP]
theorem sameP_f {p q : PduS} {k : Nat} (hk : k < 7) (h : p.f k ≠ q.f k) : sameP p q = false := by
  unfold sameP
  have : (List.range 7).all (fun f => p.f f == q.f f) = false := by
    rw [Bool.eq_false_iff]
    intro ha
    have := List.all_eq_true.1 ha k (List.mem_range.2 hk)
    exact h (by simpa using this)
  rw [this]
  rfl
theorem sameP_kind {p q : PduS} (h : p.kind ≠ q.kind) : sameP p q = false := by
  unfold sameP
  have : (p.kind == q.kind) = false := by simpa using h
  rw [this]
  simp
theorem sameP_all {p q : PduS} (h : ∀ k, k < 7 → p.f k = q.f k) (hk : p.kind = q.kind) : sameP p q = decide (p.data = q.data) := by
  unfold sameP
  have h1 : (List.range 7).all (fun f => p.f f == q.f f) = true := List.all_eq_true.2 (fun k hk => by simp [h k (List.mem_range.1 hk)])
  have h2 : (p.kind == q.kind) = true := by simpa using hk
  rw [h1, h2]
  rfl
theorem Blk.new2 (w : World) (o1 : Obj) (t : TypeId) (cs : List Value) : Blk ((w.alloc o1).alloc (.cells cs.toArray t)) (w.heap.size + 1) t cs := by
  have h := Blk.new (w.alloc o1) t cs
  rw [show (w.alloc o1).heap.size = w.heap.size + 1 by simp] at h
  exact h
theorem two_in (p q : PduS) (A1 : Option Addr) (c1 : Nat) (A2 : Option Addr) (c2 : Nat) (w : World) : ∃ w1 : World, (w.alloc (.cells #[.int .i64 p.kind, .int .i64 p.ses, .int .i64 p.part, .int .i64 p.no, .int .i64 p.size, .int .i64 p.what, .int .i64 p.code, .int .i64 p.hav, .slice A1 p.data.length c1] 24)).alloc (.cells #[.int .i64 q.kind, .int .i64 q.ses, .int .i64 q.part, .int .i64 q.no, .int .i64 q.size, .int .i64 q.what, .int .i64 q.code, .int .i64 q.hav, .slice A2 q.data.length c2] 24) = w1 ∧ Below w.heap.size w w1 ∧ Blk w1 w.heap.size 24 (pduC p A1 c1) ∧ Blk w1 (w.heap.size + 1) 24 (pduC q A2 c2) := by
  refine ⟨_, rfl, ((Below.refl _ _).alloc (Nat.le_refl _) _).alloc (by simp) _, (Blk.new w 24 (pduC p A1 c1)).alloc _, ?_⟩
  exact Blk.new2 w _ _ (pduC q A2 c2)

set_option maxRecDepth 100000 in
set_option maxHeartbeats 2000000 in
theorem refSameP_any (p q : PduS) (A1 : Option Addr) (c1 : Nat) (A2 : Option Addr) (c2 : Nat) (w : World) (h1 : Reads w w.heap.size 1 A1 p.data.length (p.data.map bV)) (h2 : Reads w w.heap.size 1 A2 q.data.length (q.data.map bV)) (l1 : p.data.length ≤ 100000000) (l2 : q.data.length ≤ 100000000) :
    Calls Try.prog 17 #[.agg #[.int .i64 p.kind, .int .i64 p.ses, .int .i64 p.part, .int .i64 p.no, .int .i64 p.size, .int .i64 p.what, .int .i64 p.code, .int .i64 p.hav, .slice A1 p.data.length c1], .agg #[.int .i64 q.kind, .int .i64 q.ses, .int .i64 q.part, .int .i64 q.no, .int .i64 q.size, .int .i64 q.what, .int .i64 q.code, .int .i64 q.hav, .slice A2 q.data.length c2]] w fun e w' => e = .returned (.bool (sameP p q)) ∧ Below w.heap.size w w' := by
  obtain ⟨w1, hw1, hb1, hp1, hq1⟩ := two_in p q A1 c1 A2 c2 w
  have i1 := hid (same_b A1 A2 p.data.length q.data.length c1 c2 p.data q.data w1 (h1.belowS hb1) (h2.belowS hb1) (by omega) (by omega))
  obtain ⟨c0, c1', c2', c3, c4, c5, c6, c7, c8⟩ := pdu_cells hp1
  obtain ⟨d0, d1, d2, d3, d4, d5, d6, d7, d8⟩ := pdu_cells hq1
  clear h1 h2 l1 l2 hp1 hq1
  go_enter Try.func17, Try.ntmps17
  by_cases e0 : p.kind = q.kind
  rotate_left
  · have hs := hid (sameP_kind e0)
    have g0 : (p.kind == q.kind) = false := by simpa using e0
    clear e0
    go_wp2_with fail
    go_ret
    exact ⟨by rw [hs.out]; rfl, hb1⟩
  have g0 : (p.kind == q.kind) = true := by simpa using e0
  by_cases e1 : p.ses = q.ses
  rotate_left
  · have hs := hid (sameP_f (k := 0) (by omega) e1)
    have g1 : (p.ses == q.ses) = false := by simpa using e1
    clear e0 e1
    go_wp2_with fail
    go_ret
    exact ⟨by rw [hs.out]; rfl, hb1⟩
  have g1 : (p.ses == q.ses) = true := by simpa using e1
  by_cases e2 : p.part = q.part
  rotate_left
  · have hs := hid (sameP_f (k := 1) (by omega) e2)
    have g2 : (p.part == q.part) = false := by simpa using e2
    clear e0 e1 e2
    go_wp2_with fail
    go_ret
    exact ⟨by rw [hs.out]; rfl, hb1⟩
  have g2 : (p.part == q.part) = true := by simpa using e2
  by_cases e3 : p.no = q.no
  rotate_left
  · have hs := hid (sameP_f (k := 2) (by omega) e3)
    have g3 : (p.no == q.no) = false := by simpa using e3
    clear e0 e1 e2 e3
    go_wp2_with fail
    go_ret
    exact ⟨by rw [hs.out]; rfl, hb1⟩
  have g3 : (p.no == q.no) = true := by simpa using e3
  by_cases e4 : p.size = q.size
  rotate_left
  · have hs := hid (sameP_f (k := 3) (by omega) e4)
    have g4 : (p.size == q.size) = false := by simpa using e4
    clear e0 e1 e2 e3 e4
    go_wp2_with fail
    go_ret
    exact ⟨by rw [hs.out]; rfl, hb1⟩
  have g4 : (p.size == q.size) = true := by simpa using e4
  by_cases e5 : p.what = q.what
  rotate_left
  · have hs := hid (sameP_f (k := 4) (by omega) e5)
    have g5 : (p.what == q.what) = false := by simpa using e5
    clear e0 e1 e2 e3 e4 e5
    go_wp2_with fail
    go_ret
    exact ⟨by rw [hs.out]; rfl, hb1⟩
  have g5 : (p.what == q.what) = true := by simpa using e5
  by_cases e6 : p.code = q.code
  rotate_left
  · have hs := hid (sameP_f (k := 5) (by omega) e6)
    have g6 : (p.code == q.code) = false := by simpa using e6
    clear e0 e1 e2 e3 e4 e5 e6
    go_wp2_with fail
    go_ret
    exact ⟨by rw [hs.out]; rfl, hb1⟩
  have g6 : (p.code == q.code) = true := by simpa using e6
  by_cases e7 : p.hav = q.hav
  rotate_left
  · have hs := hid (sameP_f (k := 6) (by omega) e7)
    have g7 : (p.hav == q.hav) = false := by simpa using e7
    clear e0 e1 e2 e3 e4 e5 e6 e7
    go_wp2_with fail
    go_ret
    exact ⟨by rw [hs.out]; rfl, hb1⟩
  have g7 : (p.hav == q.hav) = true := by simpa using e7
  have hs := hid (sameP_all (p := p) (q := q) (fun k hk => by
    have : k = 0 ∨ k = 1 ∨ k = 2 ∨ k = 3 ∨ k = 4 ∨ k = 5 ∨ k = 6 := by omega
    rcases this with rfl | rfl | rfl | rfl | rfl | rfl | rfl
    · exact e1
    · exact e2
    · exact e3
    · exact e4
    · exact e5
    · exact e6
    · exact e7) e0)
  clear e0 e1 e2 e3 e4 e5 e6 e7
  go_wp2_with fail
  refine i1.out.mono ?_
  rintro e w2 ⟨rfl, hb2⟩
  go_wp2_with fail
  go_ret
  exact ⟨by rw [hs.out]; rfl, bel_trans hb1 hb2⟩
/-- The pointers of numbers, as cells. -/
def ptrC (g : Nat) : List Value := (List.range 7).map fun k => .pointer (some ⟨g, k + 1, none⟩)
theorem ptrC_get (g k : Nat) (h : k < 7) : (ptrC g)[k]? = some (.pointer (some ⟨g, k + 1, none⟩)) := by simp [ptrC, h]

set_option maxRecDepth 100000 in
set_option maxHeartbeats 2000000 in
theorem Same_any (p q : PduS) (A1 : Option Addr) (c1 : Nat) (A2 : Option Addr) (c2 : Nat) (w : World) (h1 : Reads w w.heap.size 1 A1 p.data.length (p.data.map bV)) (h2 : Reads w w.heap.size 1 A2 q.data.length (q.data.map bV)) :
    Calls Try.prog 16 #[.agg #[.int .i64 p.kind, .int .i64 p.ses, .int .i64 p.part, .int .i64 p.no, .int .i64 p.size, .int .i64 p.what, .int .i64 p.code, .int .i64 p.hav, .slice A1 p.data.length c1], .agg #[.int .i64 q.kind, .int .i64 q.ses, .int .i64 q.part, .int .i64 q.no, .int .i64 q.size, .int .i64 q.what, .int .i64 q.code, .int .i64 q.hav, .slice A2 q.data.length c2]] w fun e w' => e = .returned (.bool (sameP p q)) ∧ Below w.heap.size w w' := by
  obtain ⟨w1, hw1, hb1, hp1, hq1⟩ := two_in p q A1 c1 A2 c2 w
  have H1 := hid (h1.belowS hb1)
  have H2 := hid (h2.belowS hb1)
  clear h1 h2
  go_enter Try.func16, Try.ntmps16
  go_wp2_with fail
  clear hw1
  refine (numbers_any _ _ _ hp1).mono ?_
  rintro e w2 ⟨rfl, hb2⟩
  have hp2 := hp1.belowS hb2
  have hq2 := hq1.belowS hb2
  have hb02 := bel_trans hb1 hb2
  have H12 := hid (H1.out.belowS hb2)
  have H22 := hid (H2.out.belowS hb2)
  clear hp1 hq1 hb1 hb2 H1 H2
  go_wp2_with fail
  refine (numbers_any _ _ _ hq2).mono ?_
  rintro e w3 ⟨rfl, hb3⟩
  have hp3 := hp2.belowS hb3
  have hq3 := hq2.belowS hb3
  have hb03 := bel_trans hb02 hb3
  have H13 := hid (H12.out.belowS hb3)
  have H23 := hid (H22.out.belowS hb3)
  clear hp2 hq2 hb02 hb3 H12 H22
  obtain ⟨w4, hw4, hb4, hm4, hn4⟩ : ∃ w4 : World, (w3.alloc (.cells #[.pointer (some ⟨w.heap.size, 1, none⟩), .pointer (some ⟨w.heap.size, 2, none⟩), .pointer (some ⟨w.heap.size, 3, none⟩), .pointer (some ⟨w.heap.size, 4, none⟩), .pointer (some ⟨w.heap.size, 5, none⟩), .pointer (some ⟨w.heap.size, 6, none⟩), .pointer (some ⟨w.heap.size, 7, none⟩)] 85)).alloc (.cells #[.pointer (some ⟨w.heap.size + 1, 1, none⟩), .pointer (some ⟨w.heap.size + 1, 2, none⟩), .pointer (some ⟨w.heap.size + 1, 3, none⟩), .pointer (some ⟨w.heap.size + 1, 4, none⟩), .pointer (some ⟨w.heap.size + 1, 5, none⟩), .pointer (some ⟨w.heap.size + 1, 6, none⟩), .pointer (some ⟨w.heap.size + 1, 7, none⟩)] 85) = w4 ∧ Below w3.heap.size w3 w4 ∧ Blk w4 w3.heap.size 85 (ptrC w.heap.size) ∧ Blk w4 (w3.heap.size + 1) 85 (ptrC (w.heap.size + 1)) :=
    ⟨_, rfl, ((Below.refl _ _).alloc (Nat.le_refl _) _).alloc (by simp) _, (Blk.new w3 _ (ptrC w.heap.size)).alloc _, Blk.new2 w3 _ _ (ptrC (w.heap.size + 1))⟩
  have HW := hid hw4
  clear hw4
  go_wp2_with fail
  rw [HW.out]
  clear HW
  have hp4 := hp3.belowS hb4
  have hq4 := hq3.belowS hb4
  have hb04 := bel_trans hb03 hb4
  have H14 := hid (H13.out.belowS hb4)
  have H24 := hid (H23.out.belowS hb4)
  generalize w3.heap.size = b5 at *
  clear hp3 hq3 hb03 hb4 H13 H23
  go_loopw [7, 10] (fun _ v10 wr => ∃ k : Nat, k ≤ 7 ∧ v10 = .int .i64 (k : Int) ∧ Hid (∀ j, j < k → p.f j = q.f j) ∧ Below w4.heap.size w4 wr) (fun _ v10 _ => 7 - (intOf v10).toNat)
  case atStart => exact ⟨0, by omega, rfl, hid (fun j hj => absurd hj (by omega)), Below.refl _ _⟩
  obtain ⟨k, hk, rfl, HK, hbel⟩ := hrel
  have hb0r := hid (bel_trans hb04 hbel)
  by_cases hk7 : k < 7
  · have x1 : wr.cell? ⟨b5, k, none⟩ = some (.pointer (some ⟨w.heap.size, k + 1, none⟩)) := (hm4.belowS hbel).cellAt (ptrC_get _ k hk7)
    have x2 : wr.cell? ⟨b5 + 1, k, none⟩ = some (.pointer (some ⟨w.heap.size + 1, k + 1, none⟩)) := (hn4.belowS hbel).cellAt (ptrC_get _ k hk7)
    have y1 := pdu_f (hp4.belowS hbel) hk7
    have y2 := pdu_f (hq4.belowS hbel) hk7
    have gk : decide ((k : Int) < 7) = true := decide_eq_true (by omega)
    have hk0 : (0 : Int) ≤ (k : Int) := Int.natCast_nonneg _
    have hk6 : (k : Int) < 7 := by omega
    have HX : Hid (p.f k ≠ q.f k → sameP p q = false) := hid (fun h => sameP_f hk7 h)
    have HY : Hid (p.f k = q.f k → ∀ j, j < k + 1 → p.f j = q.f j) := hid (fun h j hj => if e : j = k then by rw [e]; exact h else HK.out j (by omega))
    generalize p.f k = X at y1 HX HY
    generalize q.f k = Y at y2 HX HY
    clear HK
    by_cases hXY : X = Y
    · have HZ := hid (HY.out hXY)
      have g0 : (X != Y) = false := by simp [hXY]
      clear hXY HX HY
      go_wp2_with fail
      go_quiet (fail)
      go_wp2_with fail
      go_roundw
      case rel => exact ⟨k + 1, by omega, by go_num, hid HZ.out, below_drewN hbel _⟩
      case measure => simp [intOf]; omega
    · have HZ := hid (HX.out hXY)
      have g0 : (X != Y) = true := by simpa using hXY
      clear hXY HX HY
      go_wp2_with fail
      go_quiet (fail)
      go_wp2_with fail
      go_ret
      exact ⟨by rw [HZ.out]; rfl, below_drewN hb0r.out _⟩
  · obtain rfl : k = 7 := by omega
    have hp5 := hp4.belowS hbel
    have hq5 := hq4.belowS hbel
    obtain ⟨c0, -, -, -, -, -, -, -, c8⟩ := pdu_cells hp5
    obtain ⟨d0, -, -, -, -, -, -, -, d8⟩ := pdu_cells hq5
    have i1 := hid (equal_any A1 A2 p.data.length q.data.length c1 c2 p.data q.data wr (H14.out.belowS hbel) (H24.out.belowS hbel))
    have HR : Hid (p.kind = q.kind → sameP p q = decide (p.data = q.data)) := hid (fun h => sameP_all HK.out h)
    clear hp5 hq5 HK
    by_cases e0 : p.kind = q.kind
    · have hs := hid (HR.out e0)
      have g0 : (p.kind == q.kind) = true := by simpa using e0
      clear e0
      go_wp2_with fail
      refine i1.out.mono ?_
      rintro e w6 ⟨rfl, hb6⟩
      go_wp2_with fail
      go_ret
      exact ⟨by rw [hs.out]; rfl, bel_trans hb0r.out hb6⟩
    · have hs := hid (sameP_kind e0)
      have g0 : (p.kind == q.kind) = false := by simpa using e0
      clear e0
      go_wp2_with fail
      go_ret
      exact ⟨by rw [hs.out]; rfl, hb0r.out⟩
end Go.Proofs.Ythipfopmaegpdaa
