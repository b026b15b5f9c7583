/-
  The reference of layer 15: the instruction at a place.
-/
import Derived.Test.YtidlahljhgglcaaGreatRvHas
namespace Go.Proofs.YtidlahljhgglcaaGreat
open Go.RowKit Go.ChangeShapes Go.WideShapes Go.ChangeAt

/-- What it tells. -/
def gotC (r : Option (Nat × Int × Int)) : List Value := match r with
  | none => [.int .i64 0, .int .i64 0, .int .i64 0, .bool false]
  | some (o, a, nx) => [.int .i64 (o : Int), .int .i64 a, .int .i64 nx, .bool true]
def gotV (r : Option (Nat × Int × Int)) : Value := .agg (gotC r).toArray
set_option maxHeartbeats 4000000 in
theorem refAt_any (A : Option Addr) (n c : Nat) (l : List UInt8) (pc : Int) (w : World) (h : Reads w w.heap.size 1 A n (l.map bV)) (hn : n ≤ 1000000) :
    Calls Tryz.prog 52 #[.slice A n c, .int .i64 pc] w fun e w' => e = .returned (gotV (atF l pc)) ∧ Below w.heap.size w w' := by
  have hl : l.length = n := by simpa using h.len
  by_cases hpc : pc < 0
  · have y0 : decide (pc < 0) = true := decide_eq_true hpc
    have hr : Hid (gotV (atF l pc) = gotV none) := hid (by rw [show atF l pc = none from if_pos hpc])
    clear h hl hpc
    go_enter Tryz.func52, Tryz.ntmps52
    go_wp2_with fail
    go_returns
    exact ⟨by rw [hr.out]; rfl, (Below.refl w.heap.size w).alloc (Nat.le_refl _) _⟩
  have y0 : decide (pc < 0) = false := decide_eq_false hpc
  obtain ⟨k, rfl⟩ : ∃ k : Nat, pc = (k : Int) := ⟨pc.toNat, by omega⟩
  by_cases hk : n ≤ k
  · have y1 : decide ((n : Int) ≤ (k : Int)) = true := decide_eq_true (by omega)
    have y1' : decide (n ≤ k) = true := decide_eq_true hk
    have hr : Hid (gotV (atF l (k : Int)) = gotV none) := hid (by
      have hx : l[(k : Int).toNat]? = none := List.getElem?_eq_none (by rw [Int.toNat_natCast]; omega)
      rw [show atF l (k : Int) = none by unfold atF; rw [if_neg hpc, hx]])
    clear h hl hpc hk
    go_enter Tryz.func52, Tryz.ntmps52
    go_wp2_with fail
    go_returns
    exact ⟨by rw [hr.out]; rfl, (Below.refl w.heap.size w).alloc (Nat.le_refl _) _⟩
  have y1 : decide ((n : Int) ≤ (k : Int)) = false := decide_eq_false (by omega)
  have y1' : decide (n ≤ k) = false := decide_eq_false hk
  obtain ⟨ad, b, rfl, had, hx, hcell⟩ := h.atM (k := k) (by omega)
  have x0 : (0 : Int) ≤ (k : Int) := Int.natCast_nonneg _
  have x1 : (k : Int) < (n : Int) := by omega
  have d0 := fun o => cell_allocT hcell o
  have d1 := fun o o' => cell_allocT (cell_allocT hcell o) o'
  have hb255 : b.toNat ≤ 255 := by have := b.toNat_lt; omega
  have hat0 : Hid (∀ r, (if 18 < b.toNat then none else if hasArg b.toNat = false then some (b.toNat, 0, (k : Int) + 1) else match l[k + 1]? with | none => none | some c => some (b.toNat, (c.toNat : Int), (k : Int) + 2)) = r → atF l (k : Int) = r) := hid (fun r hr => by
    unfold atF
    rw [if_neg hpc, Int.toNat_natCast, hx]
    exact hr)
  by_cases h18 : 18 < b.toNat
  · have hr : Hid (gotV (atF l (k : Int)) = gotV none) := hid (by rw [hat0.out none (if_pos h18)])
    have y2 : decide ((18 : Int) < (b.toNat : Int)) = true := decide_eq_true (by omega)
    have y2' : decide (18 < b.toNat) = true := decide_eq_true h18
    clear h hl hx
    go_enter Tryz.func52, Tryz.ntmps52
    go_wp2_with fail
    go_returns
    exact ⟨by rw [hr.out]; rfl, (Below.refl w.heap.size w).alloc (Nat.le_refl _) _⟩
  have y2 : decide ((18 : Int) < (b.toNat : Int)) = false := decide_eq_false (by omega)
  have y2' : decide (18 < b.toNat) = false := decide_eq_false h18
  have iH := hid (fun w => argR_any b.toNat (by omega) w)
  have y3 : IntKind.i64.wrap ((k : Int) + 1) = ((k + 1 : Nat) : Int) := by rw [IntWalk.i64_in _ (by omega)]; omega
  by_cases ha : hasArg b.toNat = false
  · have hr : Hid (gotV (atF l (k : Int)) = gotV (some (b.toNat, 0, (k : Int) + 1))) := hid (by rw [hat0.out _ ((if_neg h18).trans (if_pos ha))])
    rw [ha] at iH
    clear h hl hx
    go_enter Tryz.func52, Tryz.ntmps52
    go_wp2_with fail
    refine (iH.out _).mono ?_
    rintro e w1 ⟨rfl, rfl⟩
    go_wp2_with fail
    go_returns
    refine ⟨by first | (rw [hr.out]; rfl) | (rw [hr.out]; simp [gotV, gotC]; done), ?_⟩
    first
      | exact bel_alloc ((Below.refl w.heap.size w).alloc (Nat.le_refl _) _) _
      | exact (Below.refl w.heap.size w).alloc (Nat.le_refl _) _
      | exact (bel_alloc ((Below.refl w.heap.size w).alloc (Nat.le_refl _) _) _).setCell (by simp) _
      | exact ((bel_alloc ((Below.refl w.heap.size w).alloc (Nat.le_refl _) _) _).setCell (by simp) _).setCell (by simp) _
  have ha' : hasArg b.toNat = true := by simpa using ha
  rw [ha'] at iH
  by_cases hk1 : n ≤ k + 1
  · have hr : Hid (gotV (atF l (k : Int)) = gotV none) := hid (by
      rw [hat0.out none ((if_neg h18).trans ((if_neg ha).trans (by rw [List.getElem?_eq_none (by omega)])))])
    have y4 : decide ((n : Int) ≤ (k : Int) + 1) = true := decide_eq_true (by omega)
    have y4' : decide (n ≤ k + 1) = true := decide_eq_true hk1
    clear h hl hx hk1 hpc
    go_enter Tryz.func52, Tryz.ntmps52
    go_wp2_with fail
    refine (iH.out _).mono ?_
    rintro e w1 ⟨rfl, rfl⟩
    go_wp2_with fail
    go_returns
    refine ⟨by first | (rw [hr.out]; rfl) | (rw [hr.out]; simp [gotV, gotC]; done), ?_⟩
    first
      | exact bel_alloc ((Below.refl w.heap.size w).alloc (Nat.le_refl _) _) _
      | exact (Below.refl w.heap.size w).alloc (Nat.le_refl _) _
      | exact (bel_alloc ((Below.refl w.heap.size w).alloc (Nat.le_refl _) _) _).setCell (by simp) _
      | exact ((bel_alloc ((Below.refl w.heap.size w).alloc (Nat.le_refl _) _) _).setCell (by simp) _).setCell (by simp) _
  · have hk1l : k + 1 < n := by omega
    obtain ⟨ad', b1, hae, _, hx1, hcell1⟩ := h.atM hk1l
    injection hae with hae
    subst hae
    have hb1 := b1.toNat_lt
    have hr : Hid (gotV (atF l (k : Int)) = gotV (some (b.toNat, (b1.toNat : Int), (k : Int) + 2))) := hid (by
      rw [hat0.out _ ((if_neg h18).trans ((if_neg ha).trans (by rw [hx1])))])
    have y4 : decide ((n : Int) ≤ (k : Int) + 1) = false := decide_eq_false (by omega)
    have y4' : decide (n ≤ k + 1) = false := decide_eq_false hk1
    have hadd : ad.add (k + 1) = ⟨ad.block, ad.off + (k + 1), none⟩ := by unfold Addr.add; rw [if_neg (by omega)]
    rw [hadd] at hcell1
    have f1 := fun o o' => cell_allocT (cell_allocT hcell1 o) o'
    clear hadd
    have x2 : (0 : Int) ≤ (k : Int) + 1 := by omega
    have x3 : (k : Int) + 1 < (n : Int) := by omega
    clear h hl hx hk1 hk1l hx1 hpc
    go_enter Tryz.func52, Tryz.ntmps52
    go_wp2_with fail
    refine (iH.out _).mono ?_
    rintro e w1 ⟨rfl, rfl⟩
    go_wp2_with fail
    go_returns
    refine ⟨by first | (rw [hr.out]; rfl) | (rw [hr.out]; simp [gotV, gotC]; done), ?_⟩
    first
      | exact bel_alloc ((Below.refl w.heap.size w).alloc (Nat.le_refl _) _) _
      | exact (Below.refl w.heap.size w).alloc (Nat.le_refl _) _
      | exact (bel_alloc ((Below.refl w.heap.size w).alloc (Nat.le_refl _) _) _).setCell (by simp) _
      | exact ((bel_alloc ((Below.refl w.heap.size w).alloc (Nat.le_refl _) _) _).setCell (by simp) _).setCell (by simp) _
end Go.Proofs.YtidlahljhgglcaaGreat
