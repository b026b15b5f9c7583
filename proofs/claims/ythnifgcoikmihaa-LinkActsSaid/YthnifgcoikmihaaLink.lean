/-
  Package link: two ways of at most 32 frames; what each function does to them.
-/
import Derived.Test.YthnifgcoikmihaaLinkRow
import Derived.Test.YthnifgcoikmihaaTabPlain
import Derived.Deep.RegionLaw
import Derived.RegionTactic
import Derived.Handy
namespace Go.Proofs.Ythnifgcoikmihaa
open Go.RowKit

/-- A text, as the machine holds it. -/
def sV (b : List UInt8) : Value := .string ⟨b.toArray⟩
/-- Two ways' frames. -/
abbrev Ways := Nat → List (List UInt8)
def upd (q : Ways) (k : Nat) (x : List (List UInt8)) : Ways := fun j => if j = k then x else q j
theorem upd_same (q : Ways) (k : Nat) (x : List (List UInt8)) : upd q k x k = x := by simp [upd]
theorem upd_other (q : Ways) (k j : Nat) (x : List (List UInt8)) (h : j ≠ k) : upd q k x j = q j := by simp [upd, h]
/-- A pair of cells, one way's first or second. -/
def lcells (k : Nat) (s s' : Value) : List Value := if k = 0 then [s, s'] else [s', s]
/-- A link, seen from one way: its slice (A, c), its frames x; the other way's (A', c'), y. -/
structure LinkIn (w : World) (g k : Nat) (A : Option Addr) (c : Nat) (x : List (List UInt8)) (A' : Option Addr) (c' : Nat) (y : List (List UInt8)) : Prop where
  blk : Blk w g 76 (lcells k (.slice A x.length c) (.slice A' y.length c'))
  r : Row w 9 A x.length c (x.map sV)
  r' : Row w 9 A' y.length c' (y.map sV)
  ap : ∀ b, Foot A b → ¬ Foot A' b
  n : x.length ≤ 32
  n' : y.length ≤ 32
def LF (g : Nat) (A A' : Option Addr) (b : Nat) : Prop := b = g ∨ Foot A b ∨ Foot A' b
def LinkAt (w : World) (F : Nat → Prop) (g : Nat) (q : Ways) : Prop := ∃ A c A' c', LinkIn w g 0 A c (q 0) A' c' (q 1) ∧ ∀ b, F b ↔ LF g A A' b
theorem LinkIn.swap {w : World} {g : Nat} {A : Option Addr} {c : Nat} {x : List (List UInt8)} {A' : Option Addr} {c' : Nat} {y : List (List UInt8)} {k : Nat} (hk : k < 2) (h : LinkIn w g k A c x A' c' y) : LinkIn w g (1 - k) A' c' y A c x := by
  refine ⟨?_, h.r', h.r, fun b h1 h2 => h.ap b h2 h1, h.n', h.n⟩
  have := h.blk
  have hk2 : k = 0 ∨ k = 1 := by omega
  rcases hk2 with rfl | rfl <;> exact this
theorem LinkAt.one {w : World} {F : Nat → Prop} {g : Nat} {q : Ways} (h : LinkAt w F g q) {k : Nat} (hk : k < 2) : ∃ A c A' c', LinkIn w g k A c (q k) A' c' (q (1 - k)) ∧ ∀ b, F b ↔ LF g A A' b := by
  obtain ⟨A, c, A', c', h1, h2⟩ := h
  have hk2 : k = 0 ∨ k = 1 := by omega
  rcases hk2 with rfl | rfl
  · exact ⟨A, c, A', c', h1, h2⟩
  · exact ⟨A', c', A, c, h1.swap (by omega), fun b => (h2 b).trans ⟨fun h => h.imp_right Or.symm, fun h => h.imp_right Or.symm⟩⟩
theorem LinkIn.at_ {w : World} {g k : Nat} {A : Option Addr} {c : Nat} {x : List (List UInt8)} {A' : Option Addr} {c' : Nat} {q : Ways} (hk : k < 2) (h : LinkIn w g k A c x A' c' (q (1 - k))) : LinkAt w (LF g A A') g (upd q k x) := by
  have hk2 : k = 0 ∨ k = 1 := by omega
  rcases hk2 with rfl | rfl
  · exact ⟨A, c, A', c', h, fun b => Iff.rfl⟩
  · exact ⟨A', c', A, c, h.swap (by omega), fun b => ⟨fun h => h.imp_right Or.symm, fun h => h.imp_right Or.symm⟩⟩
theorem LinkAt.fol {w w' : World} {F : Nat → Prop} {g : Nat} {q : Ways} (h : LinkAt w F g q) (hk : ∀ b, F b → w'.heap[b]? = w.heap[b]?) : LinkAt w' F g q := by
  obtain ⟨A, c, A', c', h1, h2⟩ := h
  refine ⟨A, c, A', c', ⟨(hk g ((h2 g).2 (.inl rfl))).trans h1.blk, h1.r.keep fun b hb => hk b ((h2 b).2 (.inr (.inl hb))), h1.r'.keep fun b hb => hk b ((h2 b).2 (.inr (.inr hb))), h1.ap, h1.n, h1.n'⟩, h2⟩
theorem LinkAt.lt {w : World} {F : Nat → Prop} {g : Nat} {q : Ways} (h : LinkAt w F g q) {b : Nat} (hb : F b) : b < w.heap.size := by
  obtain ⟨A, c, A', c', h1, h2⟩ := h
  rcases (h2 b).1 hb with rfl | hb | hb
  · exact h1.blk.lt
  · exact h1.r.lt hb
  · exact h1.r'.lt hb
theorem LinkAt.belowS {w w' : World} {F : Nat → Prop} {g : Nat} {q : Ways} (h : LinkAt w F g q) (hb : Below w.heap.size w w') : LinkAt w' F g q := h.fol fun b hf => hb.block b (h.lt hf)
theorem LinkAt.alloc {w : World} {F : Nat → Prop} {g : Nat} {q : Ways} (h : LinkAt w F g q) (o : Obj) : LinkAt (w.alloc o) F g q := h.fol fun b hf => Below.heap_alloc _ _ _ (h.lt hf)
theorem LinkAt.small {w : World} {F : Nat → Prop} {g : Nat} {q : Ways} (h : LinkAt w F g q) : (q 0).length ≤ 32 ∧ (q 1).length ≤ 32 := by
  obtain ⟨A, c, A', c', h1, h2⟩ := h
  exact ⟨h1.n, h1.n'⟩
/-- From the blocks F to the blocks F'. -/
structure Goes (F : Nat → Prop) (w : World) (F' : Nat → Prop) (w' : World) : Prop where
  apart : Apart F w w'
  foot : ∀ b, F' b → F b ∨ w.heap.size ≤ b
theorem Goes.refl (F : Nat → Prop) (w : World) : Goes F w F w := ⟨Apart.refl _ _, fun _ h => .inl h⟩
theorem Goes.trans {F F' F'' : Nat → Prop} {w w' w'' : World} (h : Goes F w F' w') (k : Goes F' w' F'' w'') : Goes F w F'' w'' :=
  ⟨h.apart.trans k.apart (fun b hb hf => (h.foot b hf).resolve_right (by omega)), fun b hb => (k.foot b hb).elim (h.foot b) (fun hs => .inr (Nat.le_trans h.apart.size hs))⟩
theorem Goes.of_below {F : Nat → Prop} {w w' : World} (h : Below w.heap.size w w') : Goes F w F w' := ⟨Apart.of_below h, fun _ h => .inl h⟩
theorem Goes.below {F F' : Nat → Prop} {w w' : World} {B : Nat} (h : Goes F w F' w') (hB : B ≤ w.heap.size) (hF : ∀ b, F b → B ≤ b) : Below B w w' ∧ ∀ b, F' b → B ≤ b :=
  ⟨h.apart.below hB hF, fun b hb => (h.foot b hb).elim (hF b) (fun hs => by omega)⟩
theorem Goes.bel {F F' : Nat → Prop} {a w w' : World} {B : Nat} (h0 : Below B a w) (hB : B ≤ a.heap.size) (hF : ∀ b, F b → B ≤ b) (h : Goes F w F' w') : Below B a w' ∧ ∀ b, F' b → B ≤ b :=
  have hx := h.below (Nat.le_trans hB h0.size) hF
  ⟨h0.trans hx.1, hx.2⟩
/-- What an act on a link leaves. -/
def LPost (F : Nat → Prop) (w : World) (g : Nat) (e0 : Ending) (q' : Ways) (e : Ending) (w' : World) : Prop := ∃ F', e = e0 ∧ LinkAt w' F' g q' ∧ Goes F w F' w'
theorem LPost.mk' {F F' : Nat → Prop} {w w' : World} {g : Nat} {e0 e : Ending} {q' : Ways} (he : e = e0) (h : LinkAt w' F' g q') (k : Goes F w F' w') : LPost F w g e0 q' e w' := ⟨F', he, h, k⟩
theorem info_str : (Try.prog.info? 9).map (fun i => (i.zero, i.size, i.bytes)) = some (some (.string ⟨#[]⟩), 1, 16) := by kernel_rfl
theorem oneCell_s (l : List (List UInt8)) : ∀ u ∈ l.map sV, u.oneCell' = true := by intro u hu; obtain ⟨b, _, rfl⟩ := List.mem_map.1 hu; rfl

theorem new_any (w : World) : Calls Try.prog 13 #[] w fun e w' => e = .returned (.pointer (some ⟨w.heap.size, 0, none⟩)) ∧ LinkAt w' (fun b => b = w.heap.size) w.heap.size (fun _ => []) ∧ Below w.heap.size w w' := by
  have hl : LinkAt (w.alloc (.cells #[.slice none 0 0, .slice none 0 0] 76)) (fun b => b = w.heap.size) w.heap.size (fun _ => []) := by
    refine ⟨none, 0, none, 0, ⟨Blk.new w _ _, Row.nil _ _, Row.nil _ _, fun b hb => (by obtain ⟨a, h, _⟩ := hb; cases h), by simp, by simp⟩, fun b => ?_⟩
    unfold LF Foot
    simp
  have hb := (Below.refl w.heap.size w).alloc (Nat.le_refl _) (.cells #[.slice none 0 0, .slice none 0 0] 76)
  go_enter Try.func13, Try.ntmps13
  go_wp2_with fail
  go_ret
  exact ⟨rfl, hl, hb⟩
theorem wrong_nil (way : Int) (A : Option Addr) (n c : Nat) (w : World) : Calls Try.prog 36 #[.pointer none, .int .i64 way, .slice A n c] w fun e w' => e = .returned (.int .i64 7) ∧ w = w' := by
  go_enter Try.func36, Try.ntmps36
  go_wp2_with fail
  go_ret
  exact ⟨rfl, rfl⟩
theorem wrong_way (g : Nat) (way : Int) (A : Option Addr) (n c : Nat) (w : World) (h : way < 0 ∨ 2 ≤ way) : Calls Try.prog 36 #[.pointer (some ⟨g, 0, none⟩), .int .i64 way, .slice A n c] w fun e w' => e = .returned (.int .i64 3) ∧ w = w' := by
  rcases h with h | h
  · go_enter Try.func36, Try.ntmps36
    go_wp2_with fail
    go_ret
    exact ⟨rfl, rfl⟩
  · have h2 : decide (way < 0) = false := by simp; omega
    go_enter Try.func36, Try.ntmps36
    go_wp2_with fail
    go_ret
    exact ⟨rfl, rfl⟩
/-- Is there a frame? -/
def outB (x : List (List UInt8)) (i : Int) : Bool := decide (i < 0) || decide ((x.length : Int) ≤ i)
theorem lcell0 {w : World} {g k : Nat} {s s' : Value} (hk : k < 2) (h : Blk w g 76 (lcells k s s')) : w.cell? ⟨g, k, none⟩ = some s := by
  have hk2 : k = 0 ∨ k = 1 := by omega
  rcases hk2 with rfl | rfl <;> exact h.cellAt rfl
def wrongE (x : List (List UInt8)) (fs : List Int) : Int := if fs.any (outB x) then 5 else 0
theorem wrongE_yes {x : List (List UInt8)} {fs : List Int} (h : fs.any (outB x) = true) : wrongE x fs = 5 := by unfold wrongE; rw [if_pos h]
theorem wrongE_no {x : List (List UInt8)} {fs : List Int} (h : fs.any (outB x) = false) : wrongE x fs = 0 := by unfold wrongE; rw [if_neg (by simp [h])]
theorem wrong_any (g k : Nat) (hk : k < 2) (A : Option Addr) (n c : Nat) (fs : List Int) (A1 : Option Addr) (c1 : Nat) (x : List (List UInt8)) (w : World) (h : Reads w w.heap.size 1 A n (fs.map iV)) (hn : n ≤ 100)
    (hcell : w.cell? ⟨g, k, none⟩ = some (.slice A1 x.length c1)) (hx : x.length ≤ 100) : Calls Try.prog 36 #[.pointer (some ⟨g, 0, none⟩), .int .i64 k, .slice A n c] w fun e w' => e = .returned (.int .i64 (wrongE x fs)) ∧ w = w' := by
  have hk0 : decide ((k : Int) < 0) = false := decide_eq_false (by omega)
  have hk1 : decide ((2 : Int) ≤ (k : Int)) = false := decide_eq_false (by omega)
  have hl := hid h.len
  go_enter Try.func36, Try.ntmps36
  go_wp2_with fail
  clear hk0 hk1
  go_loop [8, 21] (fun _ v21 => ∃ j : Nat, j ≤ n ∧ v21 = .int .i64 (j : Int) ∧ Hid (∀ i ∈ fs.take j, outB x i = false)) (fun _ v21 => n - (intOf v21).toNat)
  case atStart => exact ⟨0, by omega, rfl, by refine hid ?_; simp⟩
  case round =>
    obtain ⟨j, hj, rfl, HJ⟩ := hrel
    by_cases hjn : j < n
    · obtain ⟨ad, i, rfl, had, hi, hc⟩ := h.atM hjn
      have HI := hid hi
      clear hi
      by_cases hb : outB x i = true
      · have hr : Hid (wrongE x fs = 5) := hid (wrongE_yes (List.any_eq_true.2 ⟨i, List.mem_of_getElem? HI.out, hb⟩))
        unfold outB at hb
        by_cases h0 : i < 0
        · clear hb
          go_wp2_with fail
          go_ret
          exact ⟨by rw [hr.out]; rfl, rfl⟩
        · have h0' : decide (i < 0) = false := by simp; omega
          have h1 : decide ((x.length : Int) ≤ i) = true := by simpa [h0'] using hb
          clear hb h0
          go_wp2_with fail
          go_ret
          exact ⟨by rw [hr.out]; rfl, rfl⟩
      · have hb' : outB x i = false := by simpa using hb
        have HN : Hid (∀ i ∈ fs.take (j + 1), outB x i = false) := hid (any_take (outB x) fs j i HI.out hb' HJ.out)
        unfold outB at hb'
        simp only [Bool.or_eq_false_iff] at hb'
        obtain ⟨h0, h1⟩ := hb'
        clear hb
        go_wp2_with fail
        go_round
        case rel => exact ⟨j + 1, by omega, by go_num, HN⟩
        case measure => simp [intOf]; omega
    · obtain rfl : j = n := by omega
      have hr : Hid (wrongE x fs = 0) := by
        refine hid (wrongE_no ?_)
        rw [List.any_eq_false]
        intro i hi
        have := HJ.out i (by rw [List.take_of_length_le (by have := hl.out; simp at this; omega)]; exact hi)
        simp [this]
      go_wp2_with fail
      go_ret
      exact ⟨by rw [hr.out]; rfl, rfl⟩
end Go.Proofs.Ythnifgcoikmihaa
