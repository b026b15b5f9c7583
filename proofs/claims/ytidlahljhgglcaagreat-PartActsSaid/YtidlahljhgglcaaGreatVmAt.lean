/-
  The instruction at a place of a code (op.At); a copy of bytes.
-/
import Derived.Test.YtidlahljhgglcaaGreatVmPlain
import Derived.Test.YtidlahljhgglcaaGreatQa
namespace Go.Proofs.YtidlahljhgglcaaGreat
open Go.RowKit

theorem info_u8V : (Tryz.prog.info? 5).map (fun i => (i.zero, i.size, i.bytes)) = some (some (.int .u8 0), 1, 1) := by kernel_rfl
theorem cloneB_any (A : Option Addr) (n c : Nat) (l : List UInt8) (w : World) (h : Reads w w.heap.size 1 A n (l.map bV)) (hn : n ≤ 1000000000) :
    Calls Tryz.prog 47 #[.slice A n c] w fun e w' => ∃ A' c', e = .returned (.slice A' n c') ∧ w'.ownsRow w.heap.size 5 1 (.slice A' n c') n (l.map bV) ∧ Below w.heap.size w w' := by
  have hnil := fun (W : World) (a : Option Addr) => Lib.run_eql_slice_nil (P := Tryz.prog) W 45 5 a n c 0 0 Tryz.underlying45
  obtain ⟨i0, hi0, hz0, hz1, hz2⟩ := info_parts info_u8V
  cases A with
  | none =>
    have hb : n = 0 := by
      by_cases h0 : 0 < n
      · obtain ⟨ad, he, _⟩ := h.form h0
        cases he
      · omega
    subst hb
    have hb : l = [] := List.eq_nil_of_length_eq_zero (by simpa using h.len)
    subst hb
    clear h
    go_enter Tryz.func47, Tryz.ntmps47
    go_wp2
    go_ret
    exact ⟨none, 0, rfl, World.ownsRow_nil _ _ _ _, Below.refl _ _⟩
  | some ad =>
    go_enter Tryz.func47, Tryz.ntmps47
    go_wp2_with (at_builtin; refine wpList_app _ rfl (.tmp 5) (.tmp 6) _ rfl w.heap.size 5 i0 _ 1 1 Tryz.underlying45 hi0 hz0 hz1 hz2 rfl (by decide) (.slice (some ⟨w.heap.size, 0, none⟩) 0 0) 0 [] rfl (World.ownsRow_made w _ 0 (Nat.le_refl _) (by simp [maxLen]) rfl) w.heap.size (some ad) n c (l.map bV) rfl (h.alloc (Nat.le_refl _) _) (oneCell_b l) (by simp [maxLen]; omega) (by omega) (by simp) ?_; intro A' c' w' hown hg hb)
    go_ret
    refine ⟨A', c', by simp, by simpa using hown, ?_⟩
    exact below_own ((Below.refl w.heap.size w).alloc (Nat.le_refl _) _) (World.ownsRow_made (size := 1) w _ 0 (Nat.le_refl _) (by simp [maxLen]) rfl) hg (Nat.le_refl _) (by simp)
theorem known_any (o : Nat) (ho : o ≤ 255) (w : World) : Calls Tryz.prog 79 #[.int .i64 (o : Int)] w fun e w' => e = .returned (.bool (decide (o ≤ 18))) ∧ w' = w := by
  by_cases h : o ≤ 18
  · have y0 : decide ((0 : Int) ≤ (o : Int)) = true := decide_eq_true (by omega)
    have y1 : decide ((o : Int) ≤ 18) = true := decide_eq_true (by omega)
    have y1' : decide (o ≤ 18) = true := decide_eq_true h
    have hr : Hid (decide (o ≤ 18) = true) := hid y1'
    clear h
    go_enter Tryz.func79, Tryz.ntmps79
    go_wp2_with fail
    go_ret
    exact ⟨by rw [hr.out]; rfl, by first | trivial | rfl⟩
  · have y0 : decide ((0 : Int) ≤ (o : Int)) = true := decide_eq_true (by omega)
    have y1 : decide ((o : Int) ≤ 18) = false := decide_eq_false (by omega)
    have y1' : decide (o ≤ 18) = false := decide_eq_false h
    have hr : Hid (decide (o ≤ 18) = false) := hid y1'
    clear h
    go_enter Tryz.func79, Tryz.ntmps79
    go_wp2_with fail
    go_ret
    exact ⟨by rw [hr.out]; rfl, by first | trivial | rfl⟩
theorem hasOp_any (o : Nat) (ho : o ≤ 18) (w : World) : Calls Tryz.prog 80 #[.int .i64 (o : Int)] w fun e w' => e = .returned (.bool (hasArg o)) ∧ w' = w := by
  have h19 : o = 0 ∨ o = 1 ∨ o = 2 ∨ o = 3 ∨ o = 4 ∨ o = 5 ∨ o = 6 ∨ o = 7 ∨ o = 8 ∨ o = 9 ∨ o = 10 ∨ o = 11 ∨ o = 12 ∨ o = 13 ∨ o = 14 ∨ o = 15 ∨ o = 16 ∨ o = 17 ∨ o = 18 := by omega
  clear ho
  rcases h19 with rfl | rfl | rfl | rfl | rfl | rfl | rfl | rfl | rfl | rfl | rfl | rfl | rfl | rfl | rfl | rfl | rfl | rfl | rfl
  all_goals
    go_enter Tryz.func80, Tryz.ntmps80
    go_wp2_with fail
    go_ret
    exact ⟨rfl, by first | trivial | rfl⟩
/-- What op.At tells. -/
def atV (r : Option (Nat × Int × Int)) : Value := match r with
  | none => .tuple #[.agg #[.int .i64 0, .int .i64 0], .int .i64 0, .int .i64 19]
  | some (o, a, nx) => .tuple #[.agg #[.int .i64 (o : Int), .int .i64 a], .int .i64 nx, .int .i64 0]
theorem cell_allocT {w : World} {p : Addr} {u : Value} (h : w.cell? p = some u) (o : Obj) : (w.alloc o).cell? p = some u := (World.cell?_of_block (Below.heap_alloc _ _ _ (World.block_lt_of_cell? w p h))).trans h
theorem opAt_any (A : Option Addr) (n c : Nat) (l : List UInt8) (pc : Int) (w : World) (h : Reads w w.heap.size 1 A n (l.map bV)) (hn : n ≤ 1000000) :
    Calls Tryz.prog 50 #[.slice A n c, .int .i64 pc] w fun e w' => e = .returned (atV (atF l pc)) ∧ Below w.heap.size w w' := by
  have hl : l.length = n := by simpa using h.len
  by_cases hpc : pc < 0
  · have y0 : decide (pc < 0) = true := decide_eq_true hpc
    have hr : Hid (atV (atF l pc) = .tuple #[.agg #[.int .i64 0, .int .i64 0], .int .i64 0, .int .i64 19]) := hid (by rw [show atF l pc = none from if_pos hpc]; rfl)
    clear h hl hpc
    go_enter Tryz.func50, Tryz.ntmps50
    go_wp2_with fail
    go_returns
    exact ⟨by rw [hr.out], (Below.refl w.heap.size w).alloc (Nat.le_refl _) _⟩
  have y0 : decide (pc < 0) = false := decide_eq_false hpc
  obtain ⟨k, rfl⟩ : ∃ k : Nat, pc = (k : Int) := ⟨pc.toNat, by omega⟩
  by_cases hk : n ≤ k
  · have y1 : decide ((n : Int) ≤ (k : Int)) = true := decide_eq_true (by omega)
    have y1' : decide (n ≤ k) = true := decide_eq_true hk
    have hr : Hid (atV (atF l (k : Int)) = .tuple #[.agg #[.int .i64 0, .int .i64 0], .int .i64 0, .int .i64 19]) := hid (by
      have hx : l[(k : Int).toNat]? = none := List.getElem?_eq_none (by rw [Int.toNat_natCast]; omega)
      rw [show atF l (k : Int) = none by unfold atF; rw [if_neg hpc, hx]]
      rfl)
    clear h hl hpc hk
    go_enter Tryz.func50, Tryz.ntmps50
    go_wp2_with fail
    go_returns
    exact ⟨by rw [hr.out], (Below.refl w.heap.size w).alloc (Nat.le_refl _) _⟩
  have y1 : decide ((n : Int) ≤ (k : Int)) = false := decide_eq_false (by omega)
  have y1' : decide (n ≤ k) = false := decide_eq_false hk
  obtain ⟨ad, b, rfl, had, hx, hcell⟩ := h.atM (k := k) (by omega)
  have x0 : (0 : Int) ≤ (k : Int) := Int.natCast_nonneg _
  have x1 : (k : Int) < (n : Int) := by omega
  have d0 := fun o => cell_allocT hcell o
  have d1 := fun o o' => cell_allocT (cell_allocT hcell o) o'
  have hb255 : b.toNat ≤ 255 := by have := b.toNat_lt; omega
  have iK := hid (fun w => known_any b.toNat hb255 w)
  have hat0 : Hid (∀ r, (if 18 < b.toNat then none else if hasArg b.toNat = false then some (b.toNat, 0, (k : Int) + 1) else match l[k + 1]? with | none => none | some c => some (b.toNat, (c.toNat : Int), (k : Int) + 2)) = r → atF l (k : Int) = r) := hid (fun r hr => by
    unfold atF
    rw [if_neg hpc, Int.toNat_natCast, hx]
    exact hr)
  by_cases h18 : 18 < b.toNat
  · have hr : Hid (atV (atF l (k : Int)) = .tuple #[.agg #[.int .i64 0, .int .i64 0], .int .i64 0, .int .i64 19]) := hid (by rw [hat0.out none (if_pos h18)]; rfl)
    rw [decide_eq_false (show ¬ b.toNat ≤ 18 by omega)] at iK
    clear h hl hx
    go_enter Tryz.func50, Tryz.ntmps50
    go_wp2_with fail
    refine (iK.out _).mono ?_
    rintro e w1 ⟨rfl, rfl⟩
    go_wp2_with fail
    go_returns
    exact ⟨by rw [hr.out], (Below.refl w.heap.size w).alloc (Nat.le_refl _) _⟩
  rw [decide_eq_true (show b.toNat ≤ 18 by omega)] at iK
  have iH := hid (fun w => hasOp_any b.toNat (by omega) w)
  have y2 : IntKind.i64.wrap ((k : Int) + 1) = ((k + 1 : Nat) : Int) := by rw [IntWalk.i64_in _ (by omega)]; omega
  by_cases ha : hasArg b.toNat = false
  · have hr : Hid (atV (atF l (k : Int)) = .tuple #[.agg #[.int .i64 (b.toNat : Int), .int .i64 0], .int .i64 ((k : Int) + 1), .int .i64 0]) := hid (by rw [hat0.out _ ((if_neg h18).trans (if_pos ha))]; rfl)
    rw [ha] at iH
    clear h hl hx
    go_enter Tryz.func50, Tryz.ntmps50
    go_wp2_with fail
    refine (iK.out _).mono ?_
    rintro e w1 ⟨rfl, rfl⟩
    go_wp2_with fail
    refine (iH.out _).mono ?_
    rintro e w1 ⟨rfl, rfl⟩
    go_wp2_with fail
    go_returns
    refine ⟨by first | (rw [hr.out]; done) | (rw [hr.out]; rfl) | (rw [hr.out]; simp; done) | (rw [hr.out]; simp; exact ⟨IntWalk.wrap64_in _ ⟨by omega, by omega⟩, by omega⟩), ?_⟩
    first
      | exact bel_alloc ((Below.refl w.heap.size w).alloc (Nat.le_refl _) _) _
      | exact (bel_alloc ((Below.refl w.heap.size w).alloc (Nat.le_refl _) _) _).setCell (by simp) _
      | exact ((bel_alloc ((Below.refl w.heap.size w).alloc (Nat.le_refl _) _) _).setCell (by simp) _).setCell (by simp) _
      | trace_state
  have ha' : hasArg b.toNat = true := by simpa using ha
  rw [ha'] at iH
  by_cases hk1 : k + 1 = n
  · have hr : Hid (atV (atF l (k : Int)) = .tuple #[.agg #[.int .i64 0, .int .i64 0], .int .i64 0, .int .i64 19]) := hid (by
      rw [hat0.out none ((if_neg h18).trans ((if_neg ha).trans (by rw [List.getElem?_eq_none (by omega)])))]; rfl)
    have y3 : (((k + 1 : Nat) : Int) == (n : Int)) = true := by simp; omega
    have y3' : (((k : Int) + 1) == (n : Int)) = true := by simp; omega
    clear h hl hx hk1 hpc
    go_enter Tryz.func50, Tryz.ntmps50
    go_wp2_with fail
    refine (iK.out _).mono ?_
    rintro e w1 ⟨rfl, rfl⟩
    go_wp2_with fail
    refine (iH.out _).mono ?_
    rintro e w1 ⟨rfl, rfl⟩
    go_wp2_with fail
    go_returns
    refine ⟨by first | (rw [hr.out]; done) | (rw [hr.out]; rfl) | (rw [hr.out]; simp; done) | (rw [hr.out]; simp; exact ⟨IntWalk.wrap64_in _ ⟨by omega, by omega⟩, by omega⟩), ?_⟩
    first
      | exact bel_alloc ((Below.refl w.heap.size w).alloc (Nat.le_refl _) _) _
      | exact (bel_alloc ((Below.refl w.heap.size w).alloc (Nat.le_refl _) _) _).setCell (by simp) _
      | exact ((bel_alloc ((Below.refl w.heap.size w).alloc (Nat.le_refl _) _) _).setCell (by simp) _).setCell (by simp) _
      | trace_state
  · have hk1l : k + 1 < n := by omega
    obtain ⟨ad', b1, hae, _, hx1, hcell1⟩ := h.atM hk1l
    injection hae with hae
    subst hae
    have hb1 := b1.toNat_lt
    have hr : Hid (atV (atF l (k : Int)) = .tuple #[.agg #[.int .i64 (b.toNat : Int), .int .i64 (b1.toNat : Int)], .int .i64 ((k : Int) + 2), .int .i64 0]) := hid (by
      rw [hat0.out _ ((if_neg h18).trans ((if_neg ha).trans (by rw [hx1])))]; rfl)
    have y3 : (((k + 1 : Nat) : Int) == (n : Int)) = false := by simp; omega
    have y3' : (((k : Int) + 1) == (n : Int)) = false := by simp; omega
    have hadd : ad.add (k + 1) = ⟨ad.block, ad.off + (k + 1), none⟩ := by unfold Addr.add; rw [if_neg (by omega)]
    rw [hadd] at hcell1
    have f1 := fun o o' => cell_allocT (cell_allocT hcell1 o) o'
    clear hadd
    have x2 : (0 : Int) ≤ (k : Int) + 1 := by omega
    have x3 : (k : Int) + 1 < (n : Int) := by omega
    clear h hl hx hk1 hk1l hx1 hpc
    go_enter Tryz.func50, Tryz.ntmps50
    go_wp2_with fail
    refine (iK.out _).mono ?_
    rintro e w1 ⟨rfl, rfl⟩
    go_wp2_with fail
    refine (iH.out _).mono ?_
    rintro e w1 ⟨rfl, rfl⟩
    go_wp2_with fail
    go_returns
    refine ⟨by first | (rw [hr.out]; done) | (rw [hr.out]; rfl) | (rw [hr.out]; simp; done) | (rw [hr.out]; simp; exact ⟨IntWalk.wrap64_in _ ⟨by omega, by omega⟩, by omega⟩), ?_⟩
    first
      | exact bel_alloc ((Below.refl w.heap.size w).alloc (Nat.le_refl _) _) _
      | exact (bel_alloc ((Below.refl w.heap.size w).alloc (Nat.le_refl _) _) _).setCell (by simp) _
      | exact ((bel_alloc ((Below.refl w.heap.size w).alloc (Nat.le_refl _) _) _).setCell (by simp) _).setCell (by simp) _
      | trace_state
end Go.Proofs.YtidlahljhgglcaaGreat
