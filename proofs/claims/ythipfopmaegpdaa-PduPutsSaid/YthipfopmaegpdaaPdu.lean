/-
  pdu's parts: widths, numbers, named.
-/
import Derived.Test.YthipfopmaegpdaaPduPlain
import Derived.Test.YthipfopmaegpdaaNum
import Derived.Test.YthipfopmaegpdaaCrc
import Derived.Deep.RegionHeld3
import Derived.RegionTactic
import Derived.Handy
namespace Go.Proofs.Ythipfopmaegpdaa
open Go.RowKit Go.ChangeShapes Go.WideShapes Go.ChangeAt

def pduC (p : PduS) (A : Option Addr) (c : Nat) : List Value := [.int .i64 p.kind, .int .i64 p.ses, .int .i64 p.part, .int .i64 p.no, .int .i64 p.size, .int .i64 p.what, .int .i64 p.code, .int .i64 p.hav, .slice A p.data.length c]
def nV (f : Nat) : Value := .int .i64 (f : Int)

theorem widths_any (w : World) :
    Calls Try.prog 43 #[] w fun e w' => e = .returned (.agg #[.int .i64 2, .int .i64 1, .int .i64 1, .int .i64 2, .int .i64 1, .int .i64 1, .int .i64 2]) ∧ Below w.heap.size w w' := by
  go_enter Try.func43, Try.ntmps43
  go_wp2_with fail
  refine bodyPost_ret (v := .agg #[.int .i64 2, .int .i64 1, .int .i64 1, .int .i64 2, .int .i64 1, .int .i64 1, .int .i64 2]) (by simp [results, Try.results43, go_sem]) rfl ?_
  exact ⟨rfl, (Below.refl _ _).alloc (Nat.le_refl _) _⟩

theorem store7 {w : World} {b : Nat} {T : TypeId} {cs : List Value} (h : Blk w b T cs) (hl : cs.length = 7) (v0 v1 v2 v3 v4 v5 v6 : Value) :
    ∃ w' : World, (((((((w.setCell ⟨b, 0, none⟩ v0).setCell ⟨b, 1, none⟩ v1).setCell ⟨b, 2, none⟩ v2).setCell ⟨b, 3, none⟩ v3).setCell ⟨b, 4, none⟩ v4).setCell ⟨b, 5, none⟩ v5).setCell ⟨b, 6, none⟩ v6) = w' ∧ Below b w w' ∧ Blk w' b T [v0, v1, v2, v3, v4, v5, v6] := by
  refine ⟨_, rfl, ((((((((Below.refl _ _).setCell (p := ⟨b, 0, none⟩) (Nat.le_refl _) _).setCell (p := ⟨b, 1, none⟩) (Nat.le_refl _) _).setCell (p := ⟨b, 2, none⟩) (Nat.le_refl _) _).setCell (p := ⟨b, 3, none⟩) (Nat.le_refl _) _).setCell (p := ⟨b, 4, none⟩) (Nat.le_refl _) _).setCell (p := ⟨b, 5, none⟩) (Nat.le_refl _) _).setCell (p := ⟨b, 6, none⟩) (Nat.le_refl _) _), ?_⟩
  have := (((((((h.set_ 0 v0).set_ 1 v1).set_ 2 v2).set_ 3 v3).set_ 4 v4).set_ 5 v5).set_ 6 v6)
  match cs, hl with
  | [_, _, _, _, _, _, _], _ => exact this
theorem numbers_any (g : Nat) (cs : List Value) (w : World) (h : Blk w g 24 cs) :
    Calls Try.prog 42 #[.pointer (some ⟨g, 0, none⟩)] w fun e w' => e = .returned (.agg #[.pointer (some ⟨g, 1, none⟩), .pointer (some ⟨g, 2, none⟩), .pointer (some ⟨g, 3, none⟩), .pointer (some ⟨g, 4, none⟩), .pointer (some ⟨g, 5, none⟩), .pointer (some ⟨g, 6, none⟩), .pointer (some ⟨g, 7, none⟩)]) ∧ Below w.heap.size w w' := by
  go_enter Try.func42, Try.ntmps42
  go_wp2_with fail
  obtain ⟨w1, hw1, hb1, hblk1⟩ : ∃ w1 : World, w.alloc (.cells #[.pointer none, .pointer none, .pointer none, .pointer none, .pointer none, .pointer none, .pointer none] 85) = w1 ∧ Below w.heap.size w w1 ∧ Blk w1 w.heap.size 85 [.pointer none, .pointer none, .pointer none, .pointer none, .pointer none, .pointer none, .pointer none] := ⟨_, rfl, (Below.refl _ _).alloc (Nat.le_refl _) _, Blk.new _ _ _⟩
  rw [hw1]
  clear hw1
  generalize hg : w.heap.size = r at *
  obtain ⟨s0, s1, s2, s3, s4, s5, s6⟩ : _ ∧ _ ∧ _ ∧ _ ∧ _ ∧ _ ∧ _ := ⟨hblk1.frozen 0, hblk1.frozen 1, hblk1.frozen 2, hblk1.frozen 3, hblk1.frozen 4, hblk1.frozen 5, hblk1.frozen 6⟩
  obtain ⟨d0, d1, d2, d3, d4, d5, d6⟩ : _ ∧ _ ∧ _ ∧ _ ∧ _ ∧ _ ∧ _ := ⟨hblk1.cellAt (i := 0) rfl, hblk1.cellAt (i := 1) rfl, hblk1.cellAt (i := 2) rfl, hblk1.cellAt (i := 3) rfl, hblk1.cellAt (i := 4) rfl, hblk1.cellAt (i := 5) rfl, hblk1.cellAt (i := 6) rfl⟩
  go_region_held3 (fun w' => w'.frozen? ⟨r, 0, none⟩ = false ∧ w'.frozen? ⟨r, 1, none⟩ = false ∧ w'.frozen? ⟨r, 2, none⟩ = false ∧ w'.frozen? ⟨r, 3, none⟩ = false ∧ w'.frozen? ⟨r, 4, none⟩ = false ∧ w'.frozen? ⟨r, 5, none⟩ = false ∧ w'.frozen? ⟨r, 6, none⟩ = false) (go_keep) (fail)
  obtain ⟨w2, hw2, hb2, hr2⟩ := store7 hblk1 rfl (.pointer (some ⟨g, 1, none⟩)) (.pointer (some ⟨g, 2, none⟩)) (.pointer (some ⟨g, 3, none⟩)) (.pointer (some ⟨g, 4, none⟩)) (.pointer (some ⟨g, 5, none⟩)) (.pointer (some ⟨g, 6, none⟩)) (.pointer (some ⟨g, 7, none⟩))
  rw [hw2]
  clear hw2 d0 d1 d2 d3 d4 d5 d6 s0 s1 s2 s3 s4 s5 s6 hblk1
  go_wp2_with fail
  have hr3 : Blk w2.drew r 85 _ := hr2
  obtain ⟨r0, r1, r2, r3, r4, r5, r6⟩ : _ ∧ _ ∧ _ ∧ _ ∧ _ ∧ _ ∧ _ := ⟨hr3.cellAt (i := 0) rfl, hr3.cellAt (i := 1) rfl, hr3.cellAt (i := 2) rfl, hr3.cellAt (i := 3) rfl, hr3.cellAt (i := 4) rfl, hr3.cellAt (i := 5) rfl, hr3.cellAt (i := 6) rfl⟩
  refine bodyPost_ret (v := .agg #[.pointer (some ⟨g, 1, none⟩), .pointer (some ⟨g, 2, none⟩), .pointer (some ⟨g, 3, none⟩), .pointer (some ⟨g, 4, none⟩), .pointer (some ⟨g, 5, none⟩), .pointer (some ⟨g, 6, none⟩), .pointer (some ⟨g, 7, none⟩)]) (by simp [results, Try.results42, go_sem] at *; simp [r0, r1, r2, r3, r4, r5, r6]) rfl ?_
  exact ⟨rfl, by rw [hg]; exact (hb1.trans hb2).drew⟩

theorem reads_new (w : World) (cs : List Value) (e : TypeId) (n : Nat) (hn : cs.length = n) : Reads (w.alloc (.cells cs.toArray e)) (w.alloc (.cells cs.toArray e)).heap.size 1 (some ⟨w.heap.size, 0, none⟩) n cs := by
  have h := Reads.new w cs.toArray e n (by simpa using hn)
  simpa using h
def NamedPost (k : Int) (w : World) (e : Ending) (w' : World) : Prop := ∃ A c, e = .returned (.tuple #[.slice A (fieldsK k).length c, .bool (decide (k = 2))]) ∧ Reads w' w'.heap.size 1 A (fieldsK k).length ((fieldsK k).map nV) ∧ Below w.heap.size w w'
theorem named_any (k : Int) (w : World) :
    Calls Try.prog 41 #[.int .i64 k] w (NamedPost k w) := by
  go_enter Try.func41, Try.ntmps41
  by_cases h1 : k = 1
  · subst h1
    go_wp2_with fail
    go_ret2
    exact ⟨_, _, rfl, reads_new w ((fieldsK 1).map nV) 83 _ (by rfl), (Below.refl _ _).alloc (Nat.le_refl _) _⟩
  by_cases h2 : k = 2
  · subst h2
    go_wp2_with fail
    go_ret2
    exact ⟨_, _, rfl, reads_new w ((fieldsK 2).map nV) 83 _ (by rfl), (Below.refl _ _).alloc (Nat.le_refl _) _⟩
  by_cases h3 : k = 3
  · subst h3
    go_wp2_with fail
    go_ret2
    exact ⟨_, _, rfl, reads_new w ((fieldsK 3).map nV) 83 _ (by rfl), (Below.refl _ _).alloc (Nat.le_refl _) _⟩
  by_cases h4 : k = 4
  · subst h4
    go_wp2_with fail
    go_ret2
    exact ⟨_, _, rfl, reads_new w ((fieldsK 4).map nV) 83 _ (by rfl), (Below.refl _ _).alloc (Nat.le_refl _) _⟩
  by_cases h5 : k = 5
  · subst h5
    go_wp2_with fail
    go_ret2
    exact ⟨_, _, rfl, reads_new w ((fieldsK 5).map nV) 83 _ (by rfl), (Below.refl _ _).alloc (Nat.le_refl _) _⟩
  by_cases h6 : k = 6
  · subst h6
    go_wp2_with fail
    go_ret2
    exact ⟨_, _, rfl, reads_new w ((fieldsK 6).map nV) 83 _ (by rfl), (Below.refl _ _).alloc (Nat.le_refl _) _⟩
  by_cases h7 : k = 7
  · subst h7
    go_wp2_with fail
    go_ret2
    exact ⟨_, _, rfl, reads_new w ((fieldsK 7).map nV) 83 _ (by rfl), (Below.refl _ _).alloc (Nat.le_refl _) _⟩
  by_cases h8 : k = 8
  · subst h8
    go_wp2_with fail
    go_ret2
    exact ⟨_, _, rfl, reads_new w ((fieldsK 8).map nV) 83 _ (by rfl), (Below.refl _ _).alloc (Nat.le_refl _) _⟩
  have g1 : (k == 1) = false := by simpa using h1
  have g2 : (k == 2) = false := by simpa using h2
  have g3 : (k == 3) = false := by simpa using h3
  have g4 : (k == 4) = false := by simpa using h4
  have g5 : (k == 5) = false := by simpa using h5
  have g6 : (k == 6) = false := by simpa using h6
  have g7 : (k == 7) = false := by simpa using h7
  have g8 : (k == 8) = false := by simpa using h8
  have hf : fieldsK k = [] := by
    unfold fieldsK
    simp only [if_neg h1, if_neg h2, if_neg h3, if_neg h4, if_neg h5, if_neg h6, if_neg h7, if_neg h8]
  have hk2 : decide (k = 2) = false := decide_eq_false h2
  have HF := hid hf
  have HK := hid hk2
  clear hf hk2 h1 h2 h3 h4 h5 h6 h7 h8
  go_wp2_with fail
  go_ret2
  refine ⟨none, 0, ?_, ?_, Below.refl _ _⟩
  · rw [HF.out, HK.out]; rfl
  · rw [HF.out]; exact Reads.empty
end Go.Proofs.Ythipfopmaegpdaa
