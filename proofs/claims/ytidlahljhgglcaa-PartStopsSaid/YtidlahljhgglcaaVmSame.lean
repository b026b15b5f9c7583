/-
  Layer 17's reference: are states alike, are messages alike?
-/
import Derived.Test.YtidlahljhgglcaaVmMach
namespace Go.Proofs.Ytidlahljhgglcaa
open Go.RowKit Go.ChangeShapes Go.WideShapes Go.ChangeAt

theorem st_in (s : VmS) (A1 : Option Addr) (c1 : Nat) (A2 : Option Addr) (c2 : Nat) (B1 : Option Addr) (d1 : Nat) (B2 : Option Addr) (d2 : Nat) (w : World) :
    ∃ w2 : World, ((w.alloc (.cells #[.int .i64 s.pc, .slice A1 s.stack.length c1, .slice A2 s.mem.length c2, .int .i64 s.ticks, .int .i64 s.fault] 42)).alloc (.cells #[.int .i64 s.pc, .slice B1 s.stack.length d1, .slice B2 s.mem.length d2, .int .i64 s.ticks, .int .i64 s.fault] 42)) = w2 ∧ Below w.heap.size w w2 ∧
      Blk w2 w.heap.size 42 [.int .i64 s.pc, .slice A1 s.stack.length c1, .slice A2 s.mem.length c2, .int .i64 s.ticks, .int .i64 s.fault] ∧ Blk w2 (w.heap.size + 1) 42 [.int .i64 s.pc, .slice B1 s.stack.length d1, .slice B2 s.mem.length d2, .int .i64 s.ticks, .int .i64 s.fault] :=
  ⟨_, rfl, bel_alloc ((Below.refl w.heap.size w).alloc (Nat.le_refl _) _) _, (Blk.new w _ [.int .i64 s.pc, .slice A1 s.stack.length c1, .slice A2 s.mem.length c2, .int .i64 s.ticks, .int .i64 s.fault]).alloc _, by
    have := Blk.new (w.alloc (.cells #[.int .i64 s.pc, .slice A1 s.stack.length c1, .slice A2 s.mem.length c2, .int .i64 s.ticks, .int .i64 s.fault] 42)) 42 [.int .i64 s.pc, .slice B1 s.stack.length d1, .slice B2 s.mem.length d2, .int .i64 s.ticks, .int .i64 s.fault]
    rw [show (w.alloc (.cells #[.int .i64 s.pc, .slice A1 s.stack.length c1, .slice A2 s.mem.length c2, .int .i64 s.ticks, .int .i64 s.fault] 42)).heap.size = w.heap.size + 1 by simp] at this
    exact this⟩
set_option maxRecDepth 100000 in
set_option maxHeartbeats 2000000 in
theorem sameSt_any (s : VmS) (A1 : Option Addr) (c1 : Nat) (A2 : Option Addr) (c2 : Nat) (B1 : Option Addr) (d1 : Nat) (B2 : Option Addr) (d2 : Nat) (w : World)
    (h1 : Reads w w.heap.size 1 A1 s.stack.length (s.stack.map iV)) (h2 : Reads w w.heap.size 1 A2 s.mem.length (s.mem.map iV)) (h3 : Reads w w.heap.size 1 B1 s.stack.length (s.stack.map iV)) (h4 : Reads w w.heap.size 1 B2 s.mem.length (s.mem.map iV)) (hl : s.stack.length ≤ 1000000) (hm : s.mem.length ≤ 1000000) :
    Calls Try.prog 18 #[stateV s A1 c1 A2 c2, stateV s B1 d1 B2 d2] w fun e w' => e = .returned (.bool true) ∧ Below w.heap.size w w' := by
  obtain ⟨w2, hw2, hb2, hX, hY⟩ := st_in s A1 c1 A2 c2 B1 d1 B2 d2 w
  obtain ⟨pc, st, me, ticks, fault⟩ := s
  simp only at hw2 hX hY h1 h2 h3 h4 hl hm
  unfold stateV
  simp only
  have x0 : w2.cell? ⟨w.heap.size, 0, none⟩ = some (.int .i64 pc) := hX.cellAt rfl
  have x1 : w2.cell? ⟨w.heap.size, 1, none⟩ = some (.slice A1 st.length c1) := hX.cellAt rfl
  have x2 : w2.cell? ⟨w.heap.size, 2, none⟩ = some (.slice A2 me.length c2) := hX.cellAt rfl
  have x3 : w2.cell? ⟨w.heap.size, 3, none⟩ = some (.int .i64 ticks) := hX.cellAt rfl
  have x4 : w2.cell? ⟨w.heap.size, 4, none⟩ = some (.int .i64 fault) := hX.cellAt rfl
  have y0 : w2.cell? ⟨w.heap.size + 1, 0, none⟩ = some (.int .i64 pc) := hY.cellAt rfl
  have y1 : w2.cell? ⟨w.heap.size + 1, 1, none⟩ = some (.slice B1 st.length d1) := hY.cellAt rfl
  have y2 : w2.cell? ⟨w.heap.size + 1, 2, none⟩ = some (.slice B2 me.length d2) := hY.cellAt rfl
  have y3 : w2.cell? ⟨w.heap.size + 1, 3, none⟩ = some (.int .i64 ticks) := hY.cellAt rfl
  have y4 : w2.cell? ⟨w.heap.size + 1, 4, none⟩ = some (.int .i64 fault) := hY.cellAt rfl
  have R1 := hid (h1.belowS hb2)
  have R2 := hid (h2.belowS hb2)
  have R3 := hid (h3.belowS hb2)
  have R4 := hid (h4.belowS hb2)
  have HB := hid hb2
  clear hX hY h1 h2 h3 h4 hb2
  generalize hN : st.length = N at *
  generalize hM : me.length = M at *
  have HN := hid hN
  have HM := hid hM
  clear hN hM
  go_enter Try.func18, Try.ntmps18
  go_wp2_with fail
  go_loopw [5] (fun v5 wr => ∃ k : Nat, k ≤ N ∧ v5 = .int .i64 (k : Int) ∧ ∃ q, wr = w2.drewN q) (fun v5 _ => N - (intOf v5).toNat)
  case atStart => exact ⟨0, by omega, rfl, 0, rfl⟩
  case round =>
    obtain ⟨k, hk, rfl, q, rfl⟩ := hrel
    by_cases hkn : k < N
    · obtain ⟨ad, x, rfl, _, hx1, hc1⟩ := R1.out.atM hkn
      obtain ⟨ad', x', rfl, _, hx2, hc2⟩ := R3.out.atM hkn
      have : x = x' := by rw [hx1] at hx2; exact Option.some.inj hx2
      subst this
      have z0 : (0 : Int) ≤ (k : Int) := Int.natCast_nonneg _
      have z1 : (k : Int) < (N : Int) := by omega
      clear hx1 hx2
      go_wp2_with fail
      go_quiet (fail)
      go_wp2_with fail
      go_roundw
      case rel => exact ⟨k + 1, by omega, by go_num, _, rfl⟩
      case measure => simp [intOf]; omega
    · obtain rfl : k = N := by omega
      have hkn' : decide ((k : Int) < (k : Int)) = false := decide_eq_false (by omega)
      go_wp2_with fail
      go_loopw [6] (fun v6 wr => ∃ k : Nat, k ≤ M ∧ v6 = .int .i64 (k : Int) ∧ ∃ q, wr = w2.drewN q) (fun v6 _ => M - (intOf v6).toNat)
      case atStart => exact ⟨0, by omega, rfl, q, rfl⟩
      case round =>
        obtain ⟨j, hj, rfl, q', rfl⟩ := hrel
        by_cases hjn : j < M
        · obtain ⟨ad, x, rfl, _, hx1, hc1⟩ := R2.out.atM hjn
          obtain ⟨ad', x', rfl, _, hx2, hc2⟩ := R4.out.atM hjn
          have : x = x' := by rw [hx1] at hx2; exact Option.some.inj hx2
          subst this
          have z0 : (0 : Int) ≤ (j : Int) := Int.natCast_nonneg _
          have z1 : (j : Int) < (M : Int) := by omega
          clear hx1 hx2
          go_wp2_with fail
          go_quiet (fail)
          go_wp2_with fail
          go_roundw
          case rel => exact ⟨j + 1, by omega, by go_num, _, rfl⟩
          case measure => simp [intOf]; omega
        · obtain rfl : j = M := by omega
          go_wp2_with fail
          go_ret
          exact ⟨rfl, below_drewN HB.out _⟩
set_option maxRecDepth 100000 in
set_option maxHeartbeats 2000000 in
theorem sameSent_any (l : List (Int × Int)) (A1 A2 : Option Addr) (n c1 c2 : Nat) (w : World) (h1 : RdS w w.heap.size 2 A1 n sentC l) (h2 : RdS w w.heap.size 2 A2 n sentC l) (hn : n ≤ 1000000) :
    Calls Try.prog 21 #[.slice A1 n c1, .slice A2 n c2] w fun e w' => e = .returned (.bool true) ∧ Below w.heap.size w w' := by
  go_enter Try.func21, Try.ntmps21
  go_wp2_with fail
  go_loopw [5] (fun v5 wr => ∃ k : Nat, k ≤ n ∧ v5 = .int .i64 (k : Int) ∧ ∃ q, wr = w.drewN q) (fun v5 _ => n - (intOf v5).toNat)
  case atStart => exact ⟨0, by omega, rfl, 0, rfl⟩
  case round =>
    obtain ⟨k, hk, rfl, q, rfl⟩ := hrel
    by_cases hkn : k < n
    · obtain ⟨ad, x, rfl, _, hx1, p0, p1⟩ := h1.at_ hkn
      obtain ⟨ad', x', rfl, _, hx2, q0, q1⟩ := h2.at_ hkn
      have : x = x' := by rw [hx1] at hx2; exact Option.some.inj hx2
      subst this
      have a0 := p0 _ rfl
      have a1 := p1 0 _ rfl
      have b0 := q0 _ rfl
      have b1 := q1 0 _ rfl
      obtain ⟨xa, xb⟩ := x
      simp only at a0 a1 b0 b1
      have z0 : (0 : Int) ≤ (k : Int) := Int.natCast_nonneg _
      have z1 : (k : Int) < (n : Int) := by omega
      clear hx1 hx2 p0 p1 q0 q1
      go_wp2_with fail
      go_quiet (fail)
      go_wp2_with fail
      go_roundw
      case rel => exact ⟨k + 1, by omega, by go_num, _, rfl⟩
      case measure => simp [intOf]; omega
    · obtain rfl : k = n := by omega
      go_wp2_with fail
      go_ret
      exact ⟨rfl, below_drewN (Below.refl _ _) _⟩
end Go.Proofs.Ytidlahljhgglcaa
