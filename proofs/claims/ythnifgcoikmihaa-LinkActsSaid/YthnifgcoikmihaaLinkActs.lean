/-
  Package link: what is sent, taken, lost, doubled, turned about, spoilt.
-/
import Derived.Test.YthnifgcoikmihaaLinkOps
import Derived.Lib.ConvBytes
import Derived.Laws.IdiomStrings
import Derived.Laws.BytesArg
namespace Go.Proofs.Ythnifgcoikmihaa
open Go.RowKit

/-! ### Texts and bytes. -/
theorem string_of {w : World} {B : Nat} {A : Option Addr} {n c : Nat} {l : List UInt8} (h : Reads w B 1 A n (l.map bV)) :
    (convert 26 9 (.slice A n c)).run Try.prog w = .ok (.string ⟨l.toArray⟩) w := by
  have hl : l.length = n := by simpa using h.len
  cases A with
  | none =>
    have h0 : n = 0 := by
      by_cases h0 : 0 < n
      · obtain ⟨ad, he, _⟩ := h.form h0
        cases he
      · omega
    subst h0
    have : l = [] := List.eq_nil_of_length_eq_zero hl
    subst this
    exact run_convert_bytes_nil w 26 5 Try.underlying26 Try.underlying5 0 c 9 Try.underlying9
  | some a =>
    subst hl
    refine run_convert_bytes_back w 26 9 5 a c l Try.underlying26 Try.underlying5 Try.underlying9 (fun j hj => ?_)
    obtain ⟨ad, x, he, _, hx, hc⟩ := h.atM hj
    injection he with he
    subst he
    rw [hc]
    rw [List.getElem?_eq_getElem hj] at hx
    injection hx with hx
    rw [hx]
theorem bytes_of (w : World) (f : List UInt8) :
    (convert 9 26 (.string ⟨f.toArray⟩)).run Try.prog w = .ok (.slice (some ⟨w.heap.size, 0, none⟩) f.length (grownCap w f.length 0 5)) (Lib.bytesWorld w 5 ⟨f.toArray⟩) :=
  Lib.run_convert_string_bytes w 9 26 5 ⟨f.toArray⟩ Try.underlying9 Try.underlying26 Try.underlying5
/-- Bytes in a block of their own. -/
def Mine (w : World) (h : Nat) (n : Nat) (l : List UInt8) : Prop :=
  l.length = n ∧ ∃ cur : Array Value, w.heap[h]? = some (.cells cur 5 (cur.size, cur.size + 1)) ∧ n ≤ cur.size ∧ cur.toList.take n = l.map bV
theorem Mine.lt {w : World} {h n : Nat} {l : List UInt8} (hm : Mine w h n l) : h < w.heap.size := by
  obtain ⟨_, cur, h1, _⟩ := hm
  exact (Array.getElem?_eq_some_iff.1 h1).1
theorem Mine.keep {w w' : World} {h n : Nat} {l : List UInt8} (hm : Mine w h n l) (hk : w'.heap[h]? = w.heap[h]?) : Mine w' h n l := by
  obtain ⟨h0, cur, h1, h2⟩ := hm
  exact ⟨h0, cur, hk.trans h1, h2⟩
theorem Mine.cell {w : World} {h n : Nat} {l : List UInt8} (hm : Mine w h n l) {j : Nat} {x : UInt8} (hj : l[j]? = some x) : w.cell? ⟨h, j, none⟩ = some (bV x) := by
  obtain ⟨h0, cur, h1, h2, h3⟩ := hm
  rw [cell_of_row w h j cur _ _ h1]
  have : (l.map bV)[j]? = some (bV x) := by rw [List.getElem?_map, hj]; rfl
  rw [← h3, List.getElem?_take] at this
  split at this
  · simpa using this
  · cases this
theorem Mine.reads {w : World} {h n : Nat} {l : List UInt8} (hm : Mine w h n l) : Reads w w.heap.size 1 (some ⟨h, 0, none⟩) n (l.map bV) := by
  refine ⟨by simpa using hm.1, fun _ => ⟨_, rfl, hm.lt, fun j u hu => ?_⟩⟩
  rw [add_none, Nat.zero_add]
  rw [List.getElem?_map] at hu
  cases hx : l[j]? with
  | none => rw [hx] at hu; cases hu
  | some x => rw [hx] at hu; injection hu with hu; subst hu; exact hm.cell hx
theorem mine_new (w : World) (f : List UInt8) : Mine (Lib.bytesWorld w 5 ⟨f.toArray⟩) w.heap.size f.length f := by
  refine ⟨rfl, _, Lib.bytesWorld_at_new w _ _, ?_, ?_⟩
  · simp [Lib.bytesCells]
  · simp [Lib.bytesCells]
theorem below_bytes (w : World) (f : List UInt8) : Below w.heap.size w (Lib.bytesWorld w 5 ⟨f.toArray⟩) :=
  ⟨rfl, rfl, rfl, by rw [Lib.bytesWorld_size]; omega, fun k hk => Lib.bytesWorld_at_old w _ _ k hk⟩
theorem size_bytes (w : World) (f : List UInt8) : (Lib.bytesWorld w 5 ⟨f.toArray⟩).heap.size = w.heap.size + 1 := Lib.bytesWorld_size w _ _

/-! ### The acts. -/
theorem two_of {way : Int} (h : ¬ (way < 0 ∨ 2 ≤ way)) : ∃ k : Nat, way = (k : Int) ∧ k < 2 := ⟨way.toNat, by omega, by omega⟩
theorem len_nil (way : Int) (w : World) : Calls Try.prog 17 #[.pointer none, .int .i64 way] w fun e w' => e = .returned (.int .i64 0) ∧ w = w' := by
  go_enter Try.func17, Try.ntmps17
  go_wp2_with fail
  refine (wrong_nil _ _ _ _ _).mono ?_
  rintro e w1 ⟨rfl, rfl⟩
  go_wp2_with fail
  go_ret
  exact ⟨rfl, rfl⟩
def lenQ (q : Ways) (way : Int) : Int := if way < 0 ∨ 2 ≤ way then 0 else ((q way.toNat).length : Int)
theorem len_any (F : Nat → Prop) (g : Nat) (q : Ways) (way : Int) (w : World) (h : LinkAt w F g q) : Calls Try.prog 17 #[.pointer (some ⟨g, 0, none⟩), .int .i64 way] w fun e w' => e = .returned (.int .i64 (lenQ q way)) ∧ w = w' := by
  by_cases hw : way < 0 ∨ 2 ≤ way
  · have hr : lenQ q way = 0 := by unfold lenQ; rw [if_pos hw]
    rw [hr]
    have i1 := hid (wrong_way g way none 0 0 w hw)
    clear hw hr
    go_enter Try.func17, Try.ntmps17
    go_wp2_with fail
    refine i1.out.mono ?_
    rintro e w1 ⟨rfl, rfl⟩
    go_wp2_with fail
    go_ret
    exact ⟨rfl, rfl⟩
  · have hr : lenQ q way = ((q way.toNat).length : Int) := by unfold lenQ; rw [if_neg hw]
    rw [hr]
    clear hr
    obtain ⟨k, rfl, hk⟩ := two_of hw
    obtain ⟨A, c, A', c', hin, HF⟩ := h.one hk
    have hcell := lcell0 hk hin.blk
    have hn := hin.n
    rw [Int.toNat_natCast]
    generalize q k = x at hcell hn ⊢
    have hk0 : (0 : Int) ≤ (k : Int) := Int.natCast_nonneg _
    have hk2 : (k : Int) < 2 := by omega
    have i1 := hid (wrong_any g k hk none 0 0 [] A c x w Reads.empty (by omega) hcell (by omega))
    clear hin HF h hw
    go_enter Try.func17, Try.ntmps17
    go_wp2_with fail
    refine i1.out.mono ?_
    rintro e w1 ⟨rfl, rfl⟩
    rw [wrongE_no rfl]
    go_wp2_with fail
    go_ret
    exact ⟨rfl, rfl⟩
theorem send_nil (way : Int) (A : Option Addr) (n c : Nat) (w : World) : Calls Try.prog 14 #[.pointer none, .int .i64 way, .slice A n c] w fun e w' => e = .returned (.int .i64 7) ∧ w = w' := by
  go_enter Try.func14, Try.ntmps14
  go_wp2_with fail
  refine (wrong_nil _ _ _ _ _).mono ?_
  rintro e w1 ⟨rfl, rfl⟩
  go_wp2_with fail
  go_ret
  exact ⟨rfl, rfl⟩
def sendE (q : Ways) (way : Int) : Int := if way < 0 ∨ 2 ≤ way then 3 else putE (q way.toNat)
def sendQ (q : Ways) (way : Int) (f : List UInt8) : Ways := if way < 0 ∨ 2 ≤ way then q else putQ q way.toNat f
theorem put_any (F : Nat → Prop) (g k : Nat) (hk : k < 2) (q : Ways) (f : List UInt8) (w : World) (h : LinkAt w F g q) :
    Calls Try.prog 37 #[.pointer (some ⟨g, 0, none⟩), .int .i64 k, .string ⟨f.toArray⟩] w (LPost F w g (.returned (.int .i64 (putE (q k)))) (putQ q k f)) := by
  unfold putE putQ
  by_cases hf : (q k).length = 32
  · rw [if_pos hf, if_pos hf]
    refine (put_full F g k hk q f w h hf).mono ?_
    rintro e w' ⟨rfl, rfl⟩
    exact ⟨F, rfl, h, Goes.refl _ _⟩
  · rw [if_neg hf, if_neg hf]
    exact put_room F g k hk q f w h hf
theorem send_any (F : Nat → Prop) (g : Nat) (q : Ways) (way : Int) (A : Option Addr) (n c : Nat) (f : List UInt8) (w : World) (h : LinkAt w F g q) (hr : Reads w w.heap.size 1 A n (f.map bV)) :
    Calls Try.prog 14 #[.pointer (some ⟨g, 0, none⟩), .int .i64 way, .slice A n c] w (LPost F w g (.returned (.int .i64 (sendE q way))) (sendQ q way f)) := by
  by_cases hw : way < 0 ∨ 2 ≤ way
  · unfold sendE sendQ
    rw [if_pos hw, if_pos hw]
    have i1 := hid (wrong_way g way none 0 0 w hw)
    have HL := hid h
    clear hw h hr
    go_enter Try.func14, Try.ntmps14
    go_wp2_with fail
    refine i1.out.mono ?_
    rintro e w1 ⟨rfl, rfl⟩
    go_wp2_with fail
    go_ret
    exact ⟨F, rfl, HL.out, Goes.refl _ _⟩
  · unfold sendE sendQ
    rw [if_neg hw, if_neg hw]
    obtain ⟨k, rfl, hk⟩ := two_of hw
    obtain ⟨A1, c1, A', c', hin, HF⟩ := h.one hk
    have hcell := lcell0 hk hin.blk
    have hn := hin.n
    rw [Int.toNat_natCast]
    have i1 := hid (wrong_any g k hk none 0 0 [] A1 c1 (q k) w Reads.empty (by omega) hcell (by omega))
    have i2 := hid (put_any F g k hk q f w h)
    have kb := string_of (c := c) hr
    clear hin HF h hw hr hcell hn
    go_enter Try.func14, Try.ntmps14
    go_wp2_with fail
    refine i1.out.mono ?_
    rintro e w1 ⟨rfl, rfl⟩
    rw [wrongE_no rfl]
    go_wp2_with fail
    refine i2.out.mono ?_
    rintro e w1 ⟨F', rfl, hl, hgo⟩
    go_wp2_with fail
    go_ret
    exact ⟨F', rfl, hl, hgo⟩
theorem take_nil (way : Int) (w : World) : Calls Try.prog 15 #[.pointer none, .int .i64 way] w fun e w' => e = .returned (.tuple #[.slice none 0 0, .bool false]) ∧ Below w.heap.size w w' := by
  have hb := (Below.refl w.heap.size w).alloc (Nat.le_refl _) (.cells #[.int .i64 0] 3)
  go_enter Try.func15, Try.ntmps15
  go_wp2_with fail
  refine (wrong_nil _ _ _ _ _).mono ?_
  rintro e w1 ⟨rfl, rfl⟩
  go_wp2_with fail
  go_ret2
  exact ⟨rfl, hb⟩
/-- The list of frames asked for, laid down. -/
theorem lit1 (w : World) (i : Int) : Reads (w.alloc (.cells #[.int .i64 i] 3)) (w.alloc (.cells #[.int .i64 i] 3)).heap.size 1 (some ⟨w.heap.size, 0, none⟩) 1 ([i].map iV) := Reads.lit (heap_alloc_new w _) rfl
theorem lit2 (w : World) (i j : Int) : Reads (w.alloc (.cells #[.int .i64 i, .int .i64 j] 3)) (w.alloc (.cells #[.int .i64 i, .int .i64 j] 3)).heap.size 1 (some ⟨w.heap.size, 0, none⟩) 2 ([i, j].map iV) := Reads.lit (heap_alloc_new w _) rfl
theorem wrongE_one (x : List (List UInt8)) (i : Int) : wrongE x [i] = if outB x i then 5 else 0 := by simp [wrongE]
theorem LinkAt.cell {w : World} {F : Nat → Prop} {g : Nat} {q : Ways} (h : LinkAt w F g q) {k : Nat} (hk : k < 2) : ∃ A c, w.cell? ⟨g, k, none⟩ = some (.slice A (q k).length c) ∧ (q k).length ≤ 32 ∧ Row w 9 A (q k).length c ((q k).map sV) := by
  obtain ⟨A, c, A', c', hin, _⟩ := h.one hk
  exact ⟨A, c, lcell0 hk hin.blk, hin.n, hin.r⟩
/-- Nothing is taken. -/
theorem take_none (F : Nat → Prop) (g : Nat) (q : Ways) (way : Int) (w : World) (h : LinkAt w F g q) (hq : (way < 0 ∨ 2 ≤ way) ∨ q way.toNat = []) :
    Calls Try.prog 15 #[.pointer (some ⟨g, 0, none⟩), .int .i64 way] w fun e w' => e = .returned (.tuple #[.slice none 0 0, .bool false]) ∧ Below w.heap.size w w' := by
  have hb := (Below.refl w.heap.size w).alloc (Nat.le_refl _) (.cells #[.int .i64 0] 3)
  by_cases hw : way < 0 ∨ 2 ≤ way
  · have i1 := hid (fun A n c w => wrong_way g way A n c w hw)
    clear hw hq h
    go_enter Try.func15, Try.ntmps15
    go_wp2_with fail
    refine (i1.out _ _ _ _).mono ?_
    rintro e w1 ⟨rfl, rfl⟩
    go_wp2_with fail
    go_ret2
    exact ⟨rfl, hb⟩
  · have hq := hq.resolve_left hw
    obtain ⟨k, rfl, hk⟩ := two_of hw
    rw [Int.toNat_natCast] at hq
    obtain ⟨A, c, hc, hn, _⟩ := (h.alloc (.cells #[.int .i64 0] 3)).cell hk
    rw [hq] at hc
    have i1 := hid (wrong_any g k hk _ 1 1 [0] A c [] _ (lit1 w 0) (by omega) hc (by simp))
    rw [wrongE_yes (by simp [outB])] at i1
    clear hw hq h hc hn
    go_enter Try.func15, Try.ntmps15
    go_wp2_with fail
    refine i1.out.mono ?_
    rintro e w1 ⟨rfl, rfl⟩
    go_wp2_with fail
    go_ret2
    exact ⟨rfl, hb⟩
/-- The first frame is taken. -/
theorem take_some (F : Nat → Prop) (g k : Nat) (hk : k < 2) (q : Ways) (f : List UInt8) (r : List (List UInt8)) (w : World) (h : LinkAt w F g q) (hq : q k = f :: r) :
    Calls Try.prog 15 #[.pointer (some ⟨g, 0, none⟩), .int .i64 k] w fun e w' => ∃ F' b c, e = .returned (.tuple #[.slice (some ⟨b, 0, none⟩) f.length c, .bool true]) ∧ LinkAt w' F' g (upd q k r) ∧ Goes F w F' w' ∧ Mine w' b f.length f ∧ w.heap.size ≤ b ∧ ¬ F' b := by
  have hb := hid ((Below.refl w.heap.size w).alloc (Nat.le_refl _) (.cells #[.int .i64 0] 3))
  have h1 := h.alloc (.cells #[.int .i64 0] 3)
  obtain ⟨A, c, hc, hn, _⟩ := h1.cell hk
  have i1 := hid (wrong_any g k hk _ 1 1 [0] A c (q k) _ (lit1 w 0) (by omega) hc (by omega))
  rw [wrongE_no (by rw [hq]; simp [outB])] at i1
  have i2 := hid (cut_any F g k 0 hk q _ h1 (by rw [hq]; simp) f (by rw [hq]; rfl))
  rw [hq, show cutL (f :: r) 0 = r by simp [cutL]] at i2
  have kc := bytes_of
  clear h h1 hc hn hq
  go_enter Try.func15, Try.ntmps15
  go_wp2_with fail
  refine i1.out.mono ?_
  rintro e w1 ⟨rfl, rfl⟩
  go_wp2_with fail
  refine i2.out.mono ?_
  rintro e w1 ⟨F', rfl, hl, hgo⟩
  unfold sV
  go_wp2_with fail
  go_ret2
  have hg0 := (Goes.of_below (F := F) hb.out).trans hgo
  have hbb := below_bytes w1 f
  refine ⟨F', w1.heap.size, _, rfl, hl.belowS hbb, hg0.trans (Goes.of_below hbb), mine_new w1 f, hg0.apart.size, fun hf => ?_⟩
  have := hl.lt hf
  omega
theorem lose_nil (way i : Int) (w : World) : Calls Try.prog 20 #[.pointer none, .int .i64 way, .int .i64 i] w fun e w' => e = .returned (.int .i64 7) ∧ Below w.heap.size w w' := by
  have hb := (Below.refl w.heap.size w).alloc (Nat.le_refl _) (.cells #[.int .i64 i] 3)
  go_enter Try.func20, Try.ntmps20
  go_wp2_with fail
  refine (wrong_nil _ _ _ _ _).mono ?_
  rintro e w1 ⟨rfl, rfl⟩
  go_wp2_with fail
  go_ret
  exact ⟨rfl, hb⟩
theorem twice_nil (way i : Int) (w : World) : Calls Try.prog 18 #[.pointer none, .int .i64 way, .int .i64 i] w fun e w' => e = .returned (.int .i64 7) ∧ Below w.heap.size w w' := by
  have hb := (Below.refl w.heap.size w).alloc (Nat.le_refl _) (.cells #[.int .i64 i] 3)
  go_enter Try.func18, Try.ntmps18
  go_wp2_with fail
  refine (wrong_nil _ _ _ _ _).mono ?_
  rintro e w1 ⟨rfl, rfl⟩
  go_wp2_with fail
  go_ret
  exact ⟨rfl, hb⟩
theorem swap_nil (way i j : Int) (w : World) : Calls Try.prog 19 #[.pointer none, .int .i64 way, .int .i64 i, .int .i64 j] w fun e w' => e = .returned (.int .i64 7) ∧ Below w.heap.size w w' := by
  have hb := (Below.refl w.heap.size w).alloc (Nat.le_refl _) (.cells #[.int .i64 i, .int .i64 j] 3)
  go_enter Try.func19, Try.ntmps19
  go_wp2_with fail
  refine (wrong_nil _ _ _ _ _).mono ?_
  rintro e w1 ⟨rfl, rfl⟩
  go_wp2_with fail
  go_ret
  exact ⟨rfl, hb⟩
theorem spoil_nil (way i j k : Int) (w : World) : Calls Try.prog 26 #[.pointer none, .int .i64 way, .int .i64 i, .int .i64 j, .int .i64 k] w fun e w' => e = .returned (.int .i64 7) ∧ Below w.heap.size w w' := by
  have hb := (Below.refl w.heap.size w).alloc (Nat.le_refl _) (.cells #[.int .i64 i] 3)
  go_enter Try.func26, Try.ntmps26
  go_wp2_with fail
  refine (wrong_nil _ _ _ _ _).mono ?_
  rintro e w1 ⟨rfl, rfl⟩
  go_wp2_with fail
  go_ret
  exact ⟨rfl, hb⟩
/-- What is wrong with a way, and one frame of it. -/
def oneE (q : Ways) (way i : Int) : Int := if way < 0 ∨ 2 ≤ way then 3 else if outB (q way.toNat) i then 5 else 0
def loseQ (q : Ways) (way i : Int) : Ways := if oneE q way i = 0 then upd q way.toNat (cutL (q way.toNat) i.toNat) else q
/-- 'wrong' asked for one frame, whatever the way. -/
theorem wrong_one (F : Nat → Prop) (g : Nat) (q : Ways) (way i : Int) (w : World) (h : LinkAt w F g q) : Calls Try.prog 36 #[.pointer (some ⟨g, 0, none⟩), .int .i64 way, .slice (some ⟨w.heap.size, 0, none⟩) 1 1] (w.alloc (.cells #[.int .i64 i] 3)) fun e w' => e = .returned (.int .i64 (oneE q way i)) ∧ w.alloc (.cells #[.int .i64 i] 3) = w' := by
  unfold oneE
  by_cases hw : way < 0 ∨ 2 ≤ way
  · rw [if_pos hw]
    exact wrong_way g way _ _ _ _ hw
  · rw [if_neg hw]
    obtain ⟨k, rfl, hk⟩ := two_of hw
    rw [Int.toNat_natCast]
    obtain ⟨A, c, hc, hn, _⟩ := (h.alloc (.cells #[.int .i64 i] 3)).cell hk
    rw [← wrongE_one]
    exact wrong_any g k hk _ 1 1 [i] A c (q k) _ (lit1 w i) (by omega) hc (by omega)
theorem oneE_bad {q : Ways} {way i : Int} (h : oneE q way i ≠ 0) : ((oneE q way i) == 0) = false := by simpa using h
theorem oneE_ok {q : Ways} {way i : Int} (h : oneE q way i = 0) : ∃ k j : Nat, way = k ∧ i = j ∧ k < 2 ∧ j < (q k).length := by
  unfold oneE at h
  by_cases hw : way < 0 ∨ 2 ≤ way
  · rw [if_pos hw] at h; omega
  · rw [if_neg hw] at h
    obtain ⟨k, rfl, hk⟩ := two_of hw
    rw [Int.toNat_natCast] at h
    by_cases ho : outB (q k) i = true
    · rw [if_pos ho] at h; omega
    · simp only [outB, Bool.or_eq_true, decide_eq_true_eq] at ho
      exact ⟨k, i.toNat, rfl, by omega, hk, by omega⟩
theorem lose_any (F : Nat → Prop) (g : Nat) (q : Ways) (way i : Int) (w : World) (h : LinkAt w F g q) :
    Calls Try.prog 20 #[.pointer (some ⟨g, 0, none⟩), .int .i64 way, .int .i64 i] w (LPost F w g (.returned (.int .i64 (oneE q way i))) (loseQ q way i)) := by
  have hb := hid ((Below.refl w.heap.size w).alloc (Nat.le_refl _) (.cells #[.int .i64 i] 3))
  have HL := hid (h.alloc (.cells #[.int .i64 i] 3))
  have i1 := hid (wrong_one F g q way i w h)
  unfold loseQ
  by_cases he : oneE q way i = 0
  · obtain ⟨k, j, rfl, rfl, hk, hj⟩ := oneE_ok he
    rw [if_pos he]
    rw [he] at i1 ⊢
    rw [Int.toNat_natCast, Int.toNat_natCast]
    have i2 := hid (cut_any F g k j hk q _ HL.out hj _ (List.getElem?_eq_getElem hj))
    generalize (q k)[j] = f at i2
    clear he hj h
    go_enter Try.func20, Try.ntmps20
    go_wp2_with fail
    refine i1.out.mono ?_
    rintro e w1 ⟨rfl, rfl⟩
    go_wp2_with fail
    refine i2.out.mono ?_
    rintro e w1 ⟨F', rfl, hl, hgo⟩
    go_wp2_with fail
    go_ret
    exact ⟨F', rfl, hl, (Goes.of_below hb.out).trans hgo⟩
  · rw [if_neg he]
    have he2 := oneE_bad he
    generalize oneE q way i = x at i1 he2 ⊢
    clear he h
    go_enter Try.func20, Try.ntmps20
    go_wp2_with fail
    refine i1.out.mono ?_
    rintro e w1 ⟨rfl, rfl⟩
    go_wp2_with fail
    go_ret
    exact ⟨F, rfl, HL.out, Goes.of_below hb.out⟩
def twiceE (q : Ways) (way i : Int) : Int := if oneE q way i = 0 then putE (q way.toNat) else oneE q way i
def twiceQ (q : Ways) (way i : Int) : Ways := if oneE q way i = 0 then putQ q way.toNat ((q way.toNat).getD i.toNat []) else q
theorem twice_any (F : Nat → Prop) (g : Nat) (q : Ways) (way i : Int) (w : World) (h : LinkAt w F g q) :
    Calls Try.prog 18 #[.pointer (some ⟨g, 0, none⟩), .int .i64 way, .int .i64 i] w (LPost F w g (.returned (.int .i64 (twiceE q way i))) (twiceQ q way i)) := by
  have hb := hid ((Below.refl w.heap.size w).alloc (Nat.le_refl _) (.cells #[.int .i64 i] 3))
  have HL := hid (h.alloc (.cells #[.int .i64 i] 3))
  have i1 := hid (wrong_one F g q way i w h)
  unfold twiceQ twiceE
  by_cases he : oneE q way i = 0
  · obtain ⟨k, j, rfl, rfl, hk, hj⟩ := oneE_ok he
    rw [if_pos he, if_pos he]
    rw [he] at i1
    rw [Int.toNat_natCast, Int.toNat_natCast, show (q k).getD j [] = (q k)[j] by simp [List.getD, hj]]
    obtain ⟨A, c, hc, hn, hrow⟩ := HL.out.cell hk
    obtain ⟨a0, rfl, _⟩ := hrow.form (by omega)
    have hs := hrow.cell (j := j) (u := sV (q k)[j]) (by rw [List.getElem?_map, List.getElem?_eq_getElem hj]; rfl)
    have i2 := hid (put_any F g k hk q (q k)[j] _ HL.out)
    generalize (q k)[j] = f at i2 hs ⊢
    unfold sV at hs
    generalize putQ q k f = q' at i2 ⊢
    generalize putE (q k) = x at i2 ⊢
    generalize (q k).length = n at hc hn hj
    have hk0 : (0 : Int) ≤ (k : Int) := Int.natCast_nonneg _
    have hk2 : (k : Int) < 2 := by omega
    have hj0 : (0 : Int) ≤ (j : Int) := Int.natCast_nonneg _
    clear he h hrow
    go_enter Try.func18, Try.ntmps18
    go_wp2_with fail
    refine i1.out.mono ?_
    rintro e w1 ⟨rfl, rfl⟩
    go_wp2_with fail
    refine i2.out.mono ?_
    rintro e w1 ⟨F', rfl, hl, hgo⟩
    go_wp2_with fail
    go_ret
    exact ⟨F', rfl, hl, (Goes.of_below hb.out).trans hgo⟩
  · rw [if_neg he, if_neg he]
    have he2 := oneE_bad he
    generalize oneE q way i = x at i1 he2 ⊢
    clear he h
    go_enter Try.func18, Try.ntmps18
    go_wp2_with fail
    refine i1.out.mono ?_
    rintro e w1 ⟨rfl, rfl⟩
    go_wp2_with fail
    go_ret
    exact ⟨F, rfl, HL.out, Goes.of_below hb.out⟩
end Go.Proofs.Ythnifgcoikmihaa
