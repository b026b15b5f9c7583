/-
  The reference of layer 20: own, there, Len, put.
-/
import Derived.Test.YthnifgcoikmihaaRef20
namespace Go.Proofs.Ythnifgcoikmihaa
open Go.RowKit Go.ChangeShapes Go.WideShapes Go.ChangeAt

theorem info_u8R : (Try.prog.info? 5).map (fun i => (i.zero, i.size, i.bytes)) = some (some (.int .u8 0), 1, 1) := by kernel_rfl
theorem info_bytesR : (Try.prog.info? 26).map (fun i => (i.zero, i.size, i.bytes)) = some (some (.slice none 0 0), 1, 24) := by kernel_rfl
/-- make of so many bytes. -/
theorem makeB20 (w : World) {ops : Array Oper} {rest : List Oper} {o : Oper} {a : Act} {Q : Exit → Act → World → Prop}
    (hg : o.guard = none) (l : Operand) (hop : o.op = Op.makeSlice 26 l l) (n : Nat) (hl : a.eval l = .int .i64 (n : Int)) (hn : n ≤ 100000000000)
    (hK : ∀ w', w'.ownsRow w.heap.size 5 1 (.slice (some ⟨w.heap.size, 0, none⟩) n n) n ((List.replicate n (0 : UInt8)).map bV) → Below w.heap.size w w' → wpList Try.prog ops Q rest (a.put o.dst (.slice (some ⟨w.heap.size, 0, none⟩) n n)) w') :
    wpList Try.prog ops Q (o :: rest) a w := by
  obtain ⟨i0, hi0, hz0, hz1, hz2⟩ := info_parts info_u8R
  refine wpList_make_full w hg l l _ hop w.heap.size 5 i0 _ 1 Try.underlying26 hi0 hz0 hz1 .i64 .i64 _ _ n hl hl rfl rfl (by rw [hz2]; omega) (by simp [maxLen]; omega) (Nat.le_refl _) ?_
  intro w' h1 h2
  refine hK w' ?_ ((Below.refl _ _).grown h2 (Nat.le_refl _) (by simp))
  have e : (madeCells (Value.int IntKind.u8 0).cells (n * 1)).toList = (List.replicate n (0 : UInt8)).map bV := by
    rw [show (Value.int IntKind.u8 0).cells = #[.int .u8 0] from rfl, toList_madeCells_one]
    simp [bV]
  rw [e] at h1
  exact h1
def ownL (l : List UInt8) (n k : Nat) : List UInt8 := l.take k ++ List.replicate (n - k) 0
theorem ownL_zero (l : List UInt8) (n : Nat) : ownL l n 0 = List.replicate n 0 := by simp [ownL]
theorem ownL_all (l : List UInt8) (n : Nat) (h : l.length = n) : ownL l n n = l := by simp [ownL, List.take_of_length_le (show l.length ≤ n by omega)]
theorem ownL_step {l : List UInt8} {n k : Nat} {x : UInt8} (hx : l[k]? = some x) (hl : l.length = n) : (ownL l n k).set k x = ownL l n (k + 1) := by
  have hk := (List.getElem?_eq_some_iff.1 hx).1
  unfold ownL
  rw [List.take_add_one, hx, List.set_append_right _ _ (by rw [List.length_take]; omega), List.length_take, show k - min k l.length = 0 by omega, show n - k = (n - (k + 1)) + 1 by omega, List.replicate_succ]
  simp
theorem ownR_any (A : Option Addr) (n c : Nat) (l : List UInt8) (w : World) (h : Reads w w.heap.size 1 A n (l.map bV)) (hn : n ≤ 100000) :
    Calls Try.prog 42 #[.slice A n c] w fun e w' => e = .returned (.slice (some ⟨w.heap.size, 0, none⟩) n n) ∧ w'.ownsRow w.heap.size 5 1 (.slice (some ⟨w.heap.size, 0, none⟩) n n) n (l.map bV) ∧ Below w.heap.size w w' := by
  have H := hid h
  have hll : l.length = n := by simpa using h.len
  clear h
  go_enter Try.func42, Try.ntmps42
  go_wp2_with (at_make; refine makeB20 w rfl (.tmp 6) rfl n rfl (by omega) ?_; intro w1 hown1 hb1)
  have HLL := hid hll
  generalize hB : w.heap.size = B at hown1 hb1 ⊢
  have HB := hid hB
  clear hB hll
  go_loopw [4] (fun v4 wr => ∃ k : Nat, k ≤ n ∧ v4 = .int .i64 (k : Int) ∧ wr.ownsRow B 5 1 (.slice (some ⟨B, 0, none⟩) n n) n ((ownL l n k).map bV) ∧ Below B w wr) (fun v4 _ => n - (intOf v4).toNat)
  case atStart => exact ⟨0, by omega, rfl, by rw [ownL_zero]; exact hown1, hb1⟩
  case round =>
    clear hown1 hb1
    obtain ⟨k, hk, rfl, hown, hbel⟩ := hrel
    by_cases hkn : k < n
    · have hbel' : Below w.heap.size w wr := by rw [HB.out]; exact hbel
      obtain ⟨ad, y, rfl, hadl, hy, hcell⟩ := (H.out.below hbel').atM hkn
      obtain ⟨z, hz, hcz, hfz⟩ := own_cellM hown hkn
      have hst := hid (own_storeM hown k y)
      rw [ownL_step hy HLL.out] at hst
      have HBL := hid hbel
      clear hown hbel hbel' hy hz
      go_wp2_with fail
      go_roundw
      case rel => exact ⟨k + 1, by omega, by go_num, hst.out.1, HBL.out.trans hst.out.2⟩
      case measure => simp [intOf]; omega
    · obtain rfl : k = n := by omega
      rw [ownL_all l k HLL.out] at hown
      have HO := hid hown
      clear hown
      go_wp2_with fail
      go_ret
      exact ⟨by rw [HB.out]; rfl, by rw [HB.out]; exact HO.out, by rw [HB.out]; exact hbel⟩
theorem bel_drew20 {B : Nat} {w w' : World} (h : Below B w w') : Below B w w'.drew := ⟨h.os, h.tape, h.output, h.size, h.block⟩
theorem cell_of_apart {F : Nat → Prop} {w w' : World} (h : Apart F w w') {p : Addr} (hp : p.block < w.heap.size) (hF : ¬ F p.block) : w'.cell? p = w.cell? p := World.cell?_of_block (h.block _ hp hF)
section
variable {w w' : World} {F : Nat → Prop} {gR gW k : Nat} {A : Option Addr} {c : Nat} {x : List BE} {A' : Option Addr} {c' : Nat} {y : List BE} {q : Ways}
theorem RIn.cells (hk : k < 2) (h : RIn w gR gW k A c x A' c' y) : w.cell? ⟨gR, 0, none⟩ = some (.slice (some ⟨gW, 0, none⟩) 2 2) ∧ w.cell? ⟨gW, k, none⟩ = some (.slice A x.length c) := by
  refine ⟨h.blk.cellAt rfl, ?_⟩
  have hk2 : k = 0 ∨ k = 1 := by omega
  rcases hk2 with rfl | rfl <;> exact h.wb.cellAt rfl
theorem thereR_any (hk : k < 2) (h : RIn w gR gW k A c x A' c' y) (i : Int) :
    Calls Try.prog 41 #[.pointer (some ⟨gR, 0, none⟩), .int .i64 (k : Int), .int .i64 i] w fun e w' => e = .returned (.bool (decide (0 ≤ i) && decide (i < x.length))) ∧ w' = w := by
  obtain ⟨c0, c1⟩ := h.cells hk
  clear h
  have k0 : (0 : Int) ≤ (k : Int) := Int.natCast_nonneg _
  have k1 : (k : Int) < 2 := by omega
  by_cases h0 : 0 ≤ i
  · have y0 : decide (0 ≤ i) = true := decide_eq_true h0
    by_cases h1 : i < x.length
    · have y1 : decide (i < (x.length : Int)) = true := decide_eq_true h1
      have hr : Hid ((decide (0 ≤ i) && decide (i < (x.length : Int))) = true) := hid (by rw [y0, y1]; rfl)
      clear h0 h1
      go_enter Try.func41, Try.ntmps41
      go_wp2_with fail
      go_ret
      exact ⟨by rw [hr.out]; rfl, by first | trivial | rfl⟩
    · have y1 : decide (i < (x.length : Int)) = false := decide_eq_false h1
      have hr : Hid ((decide (0 ≤ i) && decide (i < (x.length : Int))) = false) := hid (by rw [y0, y1]; rfl)
      clear h0 h1
      go_enter Try.func41, Try.ntmps41
      go_wp2_with fail
      go_ret
      exact ⟨by rw [hr.out]; rfl, by first | trivial | rfl⟩
  · have y0 : decide (0 ≤ i) = false := decide_eq_false h0
    have hr : Hid ((decide (0 ≤ i) && decide (i < (x.length : Int))) = false) := hid (by rw [y0]; rfl)
    clear h0
    go_enter Try.func41, Try.ntmps41
    go_wp2_with fail
    go_ret
    exact ⟨by rw [hr.out]; rfl, by first | trivial | rfl⟩
theorem lenR_any (h : RefL w F gR q) (way : Int) : Calls Try.prog 25 #[.pointer (some ⟨gR, 0, none⟩), .int .i64 way] w fun e w' => e = .returned (.int .i64 (lenQ q way)) ∧ w' = w := by
  by_cases h0 : way < 0
  · have y0 : decide (way < 0) = true := decide_eq_true h0
    have hr : Hid (lenQ q way = 0) := hid (if_pos (.inl h0))
    clear h h0
    go_enter Try.func25, Try.ntmps25
    go_wp2_with fail
    go_ret
    exact ⟨by rw [hr.out]; rfl, by first | trivial | rfl⟩
  have y0 : decide (way < 0) = false := decide_eq_false h0
  by_cases h1 : 1 < way
  · have y1 : decide ((1 : Int) < way) = true := decide_eq_true h1
    have hr : Hid (lenQ q way = 0) := hid (if_pos (.inr (by omega)))
    clear h h0 h1
    go_enter Try.func25, Try.ntmps25
    go_wp2_with fail
    go_ret
    exact ⟨by rw [hr.out]; rfl, by first | trivial | rfl⟩
  obtain ⟨k, rfl⟩ : ∃ k : Nat, way = (k : Int) := ⟨way.toNat, by omega⟩
  have hk : k < 2 := by omega
  have y1 : decide ((1 : Int) < (k : Int)) = false := decide_eq_false h1
  have y1' : decide (1 < k) = false := decide_eq_false (by omega)
  have k0 : (0 : Int) ≤ (k : Int) := Int.natCast_nonneg _
  have k1 : (k : Int) < 2 := by omega
  obtain ⟨gW, A, c, x, A', c', y, h2, h3, h4, h5⟩ := h.one hk
  obtain ⟨c0, c1⟩ := h2.cells hk
  have hr : Hid (lenQ q (k : Int) = (x.length : Int)) := hid (by
    unfold lenQ
    rw [if_neg (by omega), Int.toNat_natCast, ← h3]
    simp)
  clear h h0 h1 h2 h3 h4 h5
  go_enter Try.func25, Try.ntmps25
  go_wp2_with fail
  go_ret
  exact ⟨by rw [hr.out]; rfl, by first | trivial | rfl⟩
theorem putR_full (hk : k < 2) (h : RIn w gR gW k A c x A' c' y) (B : Option Addr) (n d : Nat) (hx : x.length = 32) :
    Calls Try.prog 40 #[.pointer (some ⟨gR, 0, none⟩), .int .i64 (k : Int), .slice B n d] w fun e w' => e = .returned (.int .i64 4) ∧ w' = w := by
  obtain ⟨c0, c1⟩ := h.cells hk
  rw [hx] at c1
  clear h
  have k0 : (0 : Int) ≤ (k : Int) := Int.natCast_nonneg _
  have k1 : (k : Int) < 2 := by omega
  go_enter Try.func40, Try.ntmps40
  go_wp2_with fail
  go_ret
  exact ⟨rfl, by first | trivial | rfl⟩
theorem RIn.put (hk : k < 2) (h : RIn w gR gW k A c x A' c' y) {w1 w2 : World} {n : Nat} {l : List UInt8} (hb : Below w.heap.size w w1) (hl : l.length = n) (hown : w1.ownsRow w.heap.size 5 1 (.slice (some ⟨w.heap.size, 0, none⟩) n n) n (l.map bV))
    (hap : Apart (Foot A) w1 w2) {A2 : Option Addr} {c2 : Nat} (hr : Row w2 26 A2 (x.length + 1) c2 (x.map eC ++ [.slice (some ⟨w.heap.size, 0, none⟩) n n])) (hA : ∀ b, Foot A2 b → Foot A b ∨ w1.heap.size ≤ b) (hx : x.length ≠ 32) :
    RIn (w2.setCell ⟨gW, k, none⟩ (.slice A2 (x.length + 1) c2)) gR gW k A2 c2 (x ++ [⟨some ⟨w.heap.size, 0, none⟩, n, l⟩]) A' c' y ∧
      Goes (RF gR gW A A' x y) w (RF gR gW A2 A' (x ++ [⟨some ⟨w.heap.size, 0, none⟩, n, l⟩]) y) (w2.setCell ⟨gW, k, none⟩ (.slice A2 (x.length + 1) c2)) := by
  subst hl
  obtain ⟨n1, n2, n3, n4, n5⟩ := h.nr
  have hlt := (hown.lt _ rfl).2
  have hsz := hb.size
  have hn := h.n
  have hAl : ∀ b, Foot A b → b < w.heap.size := fun b hf => h.r.lt hf
  have hn2 : ¬ Foot A2 gW := fun hf => (hA gW hf).elim n4 (fun h9 => by have := h.wb.lt; omega)
  have hap0 : Apart (fun b => b = gW ∨ Foot A b) w w2 := (Apart.of_below (F := fun b => b = gW ∨ Foot A b) hb).trans hap (fun b _ hf => .inr hf)
  have hapf := hap0.setCell (p := ⟨gW, k, none⟩) (.inl (.inl rfl)) (.slice A2 (x.length + 1) c2)
  have hw1 : Blk w1 gW 22 (lcells k (.slice A x.length c) (.slice A' y.length c')) := h.wb.belowS hb
  have hwb := (hw1.apart hap n4).set_ k (.slice A2 (x.length + 1) c2)
  rw [lcells_set hk] at hwb
  have hlen : (x ++ [⟨some ⟨w.heap.size, 0, none⟩, l.length, l⟩] : List BE).length = x.length + 1 := by simp
  refine h.step hapf (by rw [hlen]; exact hwb) (by rw [hlen, List.map_append]; exact hr.far (p := ⟨gW, k, none⟩) hn2 _) (fun b hf => (hA b hf).imp_right (fun h9 => by omega)) (by rw [hlen]; omega) (fun e he => ?_)
  rcases List.mem_append.1 he with he | he
  · exact .inl he
  · right; right
    rw [List.mem_singleton.1 he]
    have hcap := own_cap hown
    have hnew : ¬ Foot A w.heap.size := fun hf => by have := hAl _ hf; omega
    refine ⟨⟨readsF (readsF (Reads.of_own hown) hap.size (fun b hf => ?_)) (by simp [World.setCell]) (fun b hf => Below.heap_setCell _ _ _ _ (fun e => ?_)), hcap⟩, fun b hf => ?_⟩
    · obtain ⟨a, ha, rfl⟩ := hf
      injection ha with ha
      subst ha
      exact hap.block _ hlt hnew
    · obtain ⟨a, ha, rfl⟩ := hf
      injection ha with ha
      subst ha
      have := h.wb.lt
      simp only at e
      omega
    · obtain ⟨a, ha, rfl⟩ := hf
      injection ha with ha
      subst ha
      refine ⟨Nat.le_refl _, fun hf => (hA _ hf).elim hnew (fun h9 => by have h10 : w1.heap.size ≤ w.heap.size := h9; omega), ?_⟩
      have h11 : w.heap.size < w2.heap.size := Nat.lt_of_lt_of_le hlt hap.size
      simpa [World.setCell] using h11
set_option maxHeartbeats 2000000 in
theorem putR_room (hk : k < 2) (h : RIn w gR gW k A c x A' c' y) (B : Option Addr) (n d : Nat) (l : List UInt8) (hr : Reads w w.heap.size 1 B n (l.map bV)) (hn : n ≤ 100000) (hx : x.length ≠ 32) :
    Calls Try.prog 40 #[.pointer (some ⟨gR, 0, none⟩), .int .i64 (k : Int), .slice B n d] w fun e w' => e = .returned (.int .i64 0) ∧ ∃ A1 c1 e1, e1.l = l ∧ RIn w' gR gW k A1 c1 (x ++ [e1]) A' c' y ∧ Goes (RF gR gW A A' x y) w (RF gR gW A1 A' (x ++ [e1]) y) w' := by
  obtain ⟨c0, c1⟩ := h.cells hk
  have hn32 := h.n
  have y0 : decide ((32 : Int) ≤ (x.length : Int)) = false := decide_eq_false (by omega)
  have y0' : decide (32 ≤ x.length) = false := decide_eq_false (by omega)
  have k0 : (0 : Int) ≤ (k : Int) := Int.natCast_nonneg _
  have k1 : (k : Int) < 2 := by omega
  have H := hid h
  have hwlt := h.wb.lt
  have hrlt := h.blk.lt
  have f0 := h.wb.frozen k
  have i1 := hid (fun W (hb : Below w.heap.size w W) => ownR_any B n d l W (hr.belowS hb) hn)
  have HL : Hid (l.length = n) := hid (by simpa using hr.len)
  have hne1 := h.nr.1
  have hne2 : gW ≠ gR := fun e => h.nr.1 e.symm
  obtain ⟨i0, hi0, hz0, hz1, hz2⟩ := info_parts info_bytesR
  have hx := hid hx
  clear h hr
  go_enter Try.func40, Try.ntmps40
  go_wp2_with fail
  have HR0 := hid (Below.refl w.heap.size w)
  have HNR := hid H.out.nr
  go_region_law (first
    | (refine step_row _ (by rfl) _ _ _ (by rfl) 26 i0 _ 24 Try.underlying22 hi0 hz0 hz1 hz2 rfl A x.length c (x.map eC) (by rfl) (by first | exact H1.out.r.alloc _ | exact (H1.out.r.alloc _).drew) (w1.heap.size + 1) (some ⟨w1.heap.size, 0, none⟩) 1 1 [_] (by rfl) (by first | exact Reads.new w1 #[_] _ 1 rfl | exact (Reads.new w1 #[_] _ 1 rfl).drew) (by simp [Value.oneCell']) (by simp [maxLen]; omega) (by omega) (x.length + 1) (by simp) ?_; intro A2 c2 w2 hrow hgrow hA2; have hap' : Apart (Foot A) w1 w2 := (apart_app (w := w1) (by first | exact (Apart.refl _ _).alloc _ | exact ((Apart.refl _ _).alloc _).drew) hgrow); have hap := hid hap'; have hrw := hid hrow; have HA2 := hid hA2; have u0 : w2.cell? ⟨gR, 0, none⟩ = some (.slice (some ⟨gW, 0, none⟩) 2 2) := (H1.out.blk.apart hap' HNR.out.2.1).cellAt rfl; have u1 : w2.cell? ⟨gW, k, none⟩ = some (.slice A x.length c) := (cell_of_apart hap' H1.out.wb.lt HNR.out.2.2.2.1).trans z1; have u2 : w2.frozen? ⟨gW, k, none⟩ = false := (H1.out.wb.apart hap' HNR.out.2.2.2.1).frozen k; clear hap' hrow hA2 hgrow)
    | (go_simp; go_at_call 42; refine (i1.out _ ?_).mono ?_; (first | exact HR0.out | exact bel_drew20 HR0.out); rintro e w1 ⟨rfl, hown', hb1'⟩; have hb1 : Below w.heap.size w w1 := (by first | exact hb1' | exact ⟨hb1'.os, hb1'.tape, hb1'.output, hb1'.size, hb1'.block⟩); have hown := hid hown'; have H1 := hid (H.out.keep hb1.size (fun b hb => hb1.block b (H.out.lt hb))); have HB1 := hid hb1; have z0 := (H1.out.cells hk).1; have z1 := (H1.out.cells hk).2; have z2 := H1.out.wb.frozen k; have z3 := cell_alloc z0; have z4 := cell_alloc z1; clear hb1 hb1' hown'; try dsimp only))
  all_goals
    have hA2 : ∀ b, Foot A2 b → Foot A b ∨ w1.heap.size ≤ b := fun b hb => by
      rcases HA2.out with e | e
      · rw [e] at hb; exact .inl hb
      · rw [e] at hb
        obtain ⟨a, ha, rfl⟩ := hb
        injection ha with ha
        subst ha
        right
        first
          | exact Nat.le_refl _
          | (simp [World.drew]; done)
          | (simp; done)
    have hp := hid (H.out.put hk HB1.out HL.out hown.out hap.out hrw.out hA2 hx.out)
    clear z0 z1 z2 z3 z4 u0 u1 u2 c0 c1 f0 hA2
    go_wp2_with fail
    go_ret
    exact ⟨rfl, _, _, _, rfl, hp.out.1, hp.out.2⟩
end
end Go.Proofs.Ythnifgcoikmihaa
