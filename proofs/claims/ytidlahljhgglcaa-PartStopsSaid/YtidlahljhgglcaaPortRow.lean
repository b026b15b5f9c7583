/-
  The two kinds of channels: what their methods do.
-/
import Derived.Test.YtidlahljhgglcaaLinkRow
import Derived.Test.YtidlahljhgglcaaPortNil
namespace Go.Proofs.Ytidlahljhgglcaa
open Go.RowKit Go.ChangeShapes Go.WideShapes Go.ChangeAt

/-- A queue: its block, its slice. -/
structure RowIn (w : World) (g : Nat) (A : Option Addr) (c : Nat) (l : List Int) (d : Nat) : Prop where
  blk : Blk w g 105 [.slice A l.length c, .int .i64 (d : Int)]
  row : Row w 3 A l.length c (l.map iV)
  off : ¬ Foot A g
def LastIn (w : World) (g : Nat) (n : Int) (is : Bool) : Prop := Blk w g 100 [.int .i64 n, .bool is]

theorem lastSend_any (g : Nat) (m n : Int) (is : Bool) (w : World) (h : LastIn w g m is) :
    Calls Try.prog 128 #[.pointer (some ⟨g, 0, none⟩), .int .i64 n] w fun e w' => e = .returned (.bool true) ∧ LastIn w' g n true ∧ Apart (fun b => b = g) w w' := by
  have c0 : w.cell? ⟨g, 0, none⟩ = some (.int .i64 m) := Blk.cellAt h rfl
  have c1 : w.cell? ⟨g, 1, none⟩ = some (.bool is) := Blk.cellAt h rfl
  have f0 := Blk.frozen h 0
  have f1 := Blk.frozen h 1
  have H := hid h
  clear h
  go_enter Try.func128, Try.ntmps128
  go_wp2_with fail
  go_ret
  exact ⟨rfl, Blk.set_ (Blk.set_ H.out 0 (.int .i64 n)) 1 (.bool true), ((Apart.refl (fun b => b = g) w).setCell (p := ⟨g, 0, none⟩) (.inl rfl) _).setCell (p := ⟨g, 1, none⟩) (.inl rfl) _⟩
theorem lastGet_any (g : Nat) (n : Int) (is : Bool) (w : World) (h : LastIn w g n is) :
    Calls Try.prog 127 #[.pointer (some ⟨g, 0, none⟩)] w fun e w' => e = .returned (.tuple #[.int .i64 n, .bool is]) ∧ ∃ q, w' = w.drewN q := by
  have c0 : w.cell? ⟨g, 0, none⟩ = some (.int .i64 n) := Blk.cellAt h rfl
  have c1 : w.cell? ⟨g, 1, none⟩ = some (.bool is) := Blk.cellAt h rfl
  clear h
  go_enter Try.func127, Try.ntmps127
  go_wp2_with fail
  go_quiet (fail)
  go_wp2_with fail
  go_ret2
  exact ⟨rfl, nq, rfl⟩

theorem rowSend_full (g : Nat) (A : Option Addr) (c : Nat) (l : List Int) (d : Nat) (n : Int) (w : World) (h : RowIn w g A c l d) (hl : l.length = d) :
    Calls Try.prog 132 #[.pointer (some ⟨g, 0, none⟩), .int .i64 n] w fun e w' => e = .returned (.bool false) ∧ ∃ q, w' = w.drewN q := by
  have c0 : w.cell? ⟨g, 0, none⟩ = some (.slice A l.length c) := h.blk.cellAt rfl
  have c1 : w.cell? ⟨g, 1, none⟩ = some (.int .i64 (d : Int)) := h.blk.cellAt rfl
  have g0 : ((l.length : Int) == (d : Int)) = true := by simp [hl]
  clear h hl
  go_enter Try.func132, Try.ntmps132
  go_wp2_with fail
  go_quiet (fail)
  go_wp2_with fail
  go_ret
  exact ⟨rfl, nq, rfl⟩
theorem info_int : (Try.prog.info? 3).map (fun i => (i.zero, i.size, i.bytes)) = some (some (.int .i64 0), 1, 8) := by kernel_rfl
set_option maxRecDepth 100000 in
theorem rowSend_ok (g : Nat) (A : Option Addr) (c : Nat) (l : List Int) (d : Nat) (n : Int) (w : World) (h : RowIn w g A c l d) (hl : l.length ≠ d) (hm : l.length ≤ 100000) :
    Calls Try.prog 132 #[.pointer (some ⟨g, 0, none⟩), .int .i64 n] w fun e w' => e = .returned (.bool true) ∧ ∃ A' c', RowIn w' g A' c' (l ++ [n]) d ∧ Apart (fun b => b = g ∨ Foot A b) w w' ∧ ∀ b, Foot A' b → Foot A b ∨ w.heap.size ≤ b := by
  have c0 : w.cell? ⟨g, 0, none⟩ = some (.slice A l.length c) := h.blk.cellAt rfl
  have c1 : w.cell? ⟨g, 1, none⟩ = some (.int .i64 (d : Int)) := h.blk.cellAt rfl
  have g0 : ((l.length : Int) == (d : Int)) = false := by simp; omega
  have H := hid h
  have hlt := h.blk.lt
  clear h
  have hne : some g ≠ (Value.slice A l.length c).ownBlock := by
    cases A with
    | none => simp [Value.ownBlock]
    | some a =>
      intro e
      injection e with e
      exact H.out.off ⟨a, rfl, e.symm⟩
  have HNE := hid hne
  clear hne
  obtain ⟨i0, hi0, hz0, hz1, hz2⟩ := info_parts info_int
  go_enter Try.func132, Try.ntmps132
  go_wp2_with fail
  go_quiet (fail)
  have hB : ∀ o, ((w.drewN nq).alloc o).heap.size = w.heap.size + 1 := fun o => by simp
  go_wp2_with (at_builtin; refine wpList_row _ rfl (.tmp 19) (.tmp 21) _ rfl 3 i0 _ 8 Try.underlying40 hi0 hz0 hz1 hz2 rfl A l.length c (l.map iV) rfl ((H.out.row : Row (w.drewN nq) _ _ _ _ _).alloc _) (w.heap.size + 1) (some ⟨w.heap.size, 0, none⟩) 1 1 [iV n] rfl (Reads.new (w.drewN nq) #[.int .i64 n] 3 1 rfl) (by simp [iV, Value.oneCell']) (by simp [maxLen]; omega) (by omega) (l.length + 1) rfl ?_; intro A' c' w2 hrow2 hg2 hA2; have hb2 : Blk w2 g 105 [.slice A l.length c, .int .i64 (d : Int)] := (hg2.block g (by simp; omega) HNE.out).trans ((H.out.blk.drewN nq).alloc _); have x0 : w2.cell? ⟨g, 0, none⟩ = some (.slice A l.length c) := hb2.cellAt rfl; have y0 := hb2.frozen 0)
  go_ret
  have hfoot : ∀ b, Foot A' b → Foot A b ∨ w.heap.size ≤ b := by
    intro b hb
    rcases hA2 with e | e
    · rw [e] at hb; exact .inl hb
    · rw [e] at hb
      obtain ⟨a, ha, hb⟩ := hb
      injection ha with ha
      right
      rw [← hb, ← ha]
      simp
  have hoff : ¬ Foot A' g := fun hf => by
    rcases hfoot g hf with h | h
    · exact H.out.off h
    · omega
  refine ⟨rfl, A', c', ⟨?_, ?_, hoff⟩, ?_, hfoot⟩
  · have h := hb2.set_ 0 (.slice A' (l.length + 1) c')
    have e : (l ++ [n]).length = l.length + 1 := by simp
    rw [e]
    exact h
  · have e : (l ++ [n]).length = l.length + 1 := by simp
    rw [e, List.map_append]
    exact hrow2.far (p := ⟨g, 0, none⟩) hoff _
  · refine Apart.setCell ?_ (p := ⟨g, 0, none⟩) (.inl (.inl rfl)) _
    have h0 : Apart (fun b => b = g ∨ Foot A b) w ((w.drewN nq).alloc (.cells #[.int .i64 n] 3)) := (⟨rfl, rfl, rfl, Nat.le_refl _, fun _ _ _ => rfl⟩ : Apart (fun b => b = g ∨ Foot A b) w (w.drewN nq)).alloc _
    refine h0.grown hg2 (fun k hk => ?_)
    cases A with
    | none => simp [Value.ownBlock] at hk
    | some a =>
      injection hk with hk
      exact .inl (.inr ⟨a, rfl, hk⟩)
end Go.Proofs.Ytidlahljhgglcaa
