/-
  The reference of layer 17: how an instruction fails.
-/
import Derived.Test.YtidlahljhgglcaaGreatRvOps
import Derived.Test.YtidlahljhgglcaaGreatRvHas
namespace Go.Proofs.YtidlahljhgglcaaGreat
open Go.RowKit Go.ChangeShapes Go.WideShapes Go.ChangeAt

def failR (i : ImgS) (s : VmS) (o k : Nat) : Int :=
  if o = 17 then 16
  else if ((o = 10 ∨ o = 11) ∧ s.mem.length ≤ k) ∨ ((o = 12 ∨ o = 13) ∧ i.code.length ≤ k) then 3
  else if (o = 14 ∧ bitI i.sends k = false) ∨ (o = 15 ∧ bitI i.recvs k = false) then 15
  else if s.stack.length < (needF o).1 then 5
  else if 8 + (needF o).1 < s.stack.length + (needF o).2 then 14 else 0
theorem quiet_add_same {P : Program} {f : FuncId} {args : Array Value} {w : World} {a n : Nat} {v : Value}
    (h : Calls P f args (w.drewN (a + n)) fun e w' => e = .returned v ∧ w' = w.drewN (a + n)) :
    Calls P f args (w.drewN (a + n)) fun e w'' => e = .returned v ∧ ∃ m, w'' = w.drewN (a + m) :=
  h.mono fun _ _ ⟨he, hm⟩ => ⟨he, n, hm⟩
section
variable {w w' : World} {F : Nat → Prop} {g : Nat} {i : ImgS} {s : VmS}
set_option maxRecDepth 100000 in
set_option maxHeartbeats 8000000 in
theorem rvFail_0 (t : RvAt w F g i s) (hs : 0 ≤ i.sends ∧ i.sends ≤ 15) (hr : 0 ≤ i.recvs ∧ i.recvs ≤ 15) (hl : s.stack.length ≤ 90) (k : Nat) :
    Calls Tryz.prog 53 #[.pointer (some ⟨g, 0, none⟩), insV 0 (k : Int)] w fun e w' => e = .returned (.int .i64 (failR i s 0 k)) ∧ Below w.heap.size w w' := by
  obtain ⟨w1, hw1, hb1, hB, hs1⟩ := ins_in 0 (k : Int) w
  have x0 : w1.cell? ⟨w.heap.size, 0, none⟩ = some (.int .i64 0) := hB.cellAt rfl
  have x1 : w1.cell? ⟨w.heap.size, 1, none⟩ = some (.int .i64 (k : Int)) := hB.cellAt rfl
  have t1 := t.belowS hb1
  obtain ⟨am, m, hF⟩ := t1
  obtain ⟨n, hn⟩ : ∃ n, s.stack.length = n := ⟨_, rfl⟩
  obtain ⟨nm, hnm⟩ : ∃ nm, s.mem.length = nm := ⟨_, rfl⟩
  obtain ⟨nc, hnc⟩ : ∃ nc, i.code.length = nc := ⟨_, rfl⟩
  obtain ⟨sd, hsd⟩ : ∃ sd : Nat, i.sends = (sd : Int) := ⟨i.sends.toNat, by omega⟩
  obtain ⟨rc, hrc⟩ : ∃ rc : Nat, i.recvs = (rc : Int) := ⟨i.recvs.toNat, by omega⟩
  rw [hn] at hl
  rw [hsd] at hs
  rw [hrc] at hr
  have y5 : w1.cell? ⟨g, 5, none⟩ = some (.int .i64 (sd : Int)) := by rw [← hsd]; exact m.blk.cellAt rfl
  have y6 : w1.cell? ⟨g, 6, none⟩ = some (.int .i64 (rc : Int)) := by rw [← hrc]; exact m.blk.cellAt rfl
  have y7 : w1.cell? ⟨g, 7, none⟩ = some (.slice am.Ac nc am.cc) := by rw [← hnc]; exact m.blk.cellAt rfl
  have y9 : w1.cell? ⟨g, 9, none⟩ = some (.slice am.As n am.cS) := by rw [← hn]; exact m.blk.cellAt rfl
  have y10 : w1.cell? ⟨g, 10, none⟩ = some (.slice am.Am nm am.cM) := by rw [← hnm]; exact m.blk.cellAt rfl
  have HB1 := hid hb1
  have HR : Hid (∀ r, (if (0 : Nat) = 17 then (16 : Int) else if (((0 : Nat) = 10 ∨ (0 : Nat) = 11) ∧ nm ≤ k) ∨ (((0 : Nat) = 12 ∨ (0 : Nat) = 13) ∧ nc ≤ k) then 3 else if ((0 : Nat) = 14 ∧ bitI (sd : Int) k = false) ∨ ((0 : Nat) = 15 ∧ bitI (rc : Int) k = false) then 15 else if n < 0 then 5 else if 8 + 0 < n + 0 then 14 else 0) = r → failR i s 0 k = r) := hid (fun r h => by
    rw [← h]
    unfold failR
    rw [hn, hnm, hnc, hsd, hrc]
    rfl)
  have iN := hid (fun W => needs_any 0 (by omega) W)
  have iH := hid (fun W => hasR_any sd k W (by omega))
  have iG := hid (fun W => hasR_any rc k W (by omega))
  have hg1 := m.blk.lt
  have HBK : Hid (w1.heap[w.heap.size]? = some (.cells #[.int .i64 0, .int .i64 (k : Int)] 136 (0, 0))) := hid hB
  clear hb1 hB hs1 t m hF hn hnm hnc hsd hrc hs hr
  have z2 : decide ((n : Int) < 0) = false := decide_eq_false (by omega)
  by_cases hx : 8 + 0 < n + 0
  · have z3 : decide ((8 : Int) < (n : Int) - 0 + 0) = true := decide_eq_true (by omega)
    have z6 : decide ((8 : Int) < (n : Int)) = true := decide_eq_true (by omega)
    have z7 : decide (8 < n) = true := decide_eq_true (by omega)
    have hr0 := hid (HR.out 14 (by simp [hx]; try omega))
    clear HR
    unfold insV
    go_enter Tryz.func53, Tryz.ntmps53
    go_wp2_with fail
    go_quiet (fail)
    go_wp2_with fail
    go_quiet (fail)
    go_wp2_with fail
    refine (iN.out _).mono ?_
    rintro e w3 ⟨rfl, hb3⟩
    have hb3' : Below w1.heap.size w1 w3 := bel_trans (below_drewS _) hb3
    have y9 : w3.cell? ⟨g, 9, none⟩ = some (.slice am.As n am.cS) := (hb3'.cell (p := ⟨g, 9, none⟩) hg1).trans y9
    have d9 := fun o => cell_alloc y9 o
    have HB3 := hid (bel_trans HB1.out hb3')
    unfold needF
    clear x0 x1 y5 y6 y7 y10 hb3 hb3'
    go_wp2_with fail
    go_quiet (fail)
    go_wp2_with fail
    go_quiet (fail)
    go_wp2_with fail
    go_ret
    exact ⟨by rw [hr0.out]; rfl, by first | exact below_drewN (bel_alloc HB3.out _) _ | exact below_drewN (below_drewN (bel_alloc HB3.out _) _) _⟩
  · have z3 : decide ((8 : Int) < (n : Int) - 0 + 0) = false := decide_eq_false (by omega)
    have z6 : decide ((8 : Int) < (n : Int)) = false := decide_eq_false (by omega)
    have z7 : decide (8 < n) = false := decide_eq_false (by omega)
    have hr0 := hid (HR.out 0 (by simp [hx]; try omega))
    clear HR
    unfold insV
    go_enter Tryz.func53, Tryz.ntmps53
    go_wp2_with fail
    go_quiet (fail)
    go_wp2_with fail
    go_quiet (fail)
    go_wp2_with fail
    refine (iN.out _).mono ?_
    rintro e w3 ⟨rfl, hb3⟩
    have hb3' : Below w1.heap.size w1 w3 := bel_trans (below_drewS _) hb3
    have y9 : w3.cell? ⟨g, 9, none⟩ = some (.slice am.As n am.cS) := (hb3'.cell (p := ⟨g, 9, none⟩) hg1).trans y9
    have d9 := fun o => cell_alloc y9 o
    have HB3 := hid (bel_trans HB1.out hb3')
    unfold needF
    clear x0 x1 y5 y6 y7 y10 hb3 hb3'
    go_wp2_with fail
    go_quiet (fail)
    go_wp2_with fail
    go_quiet (fail)
    go_wp2_with fail
    go_ret
    exact ⟨by rw [hr0.out]; rfl, by first | exact below_drewN (bel_alloc HB3.out _) _ | exact below_drewN (below_drewN (bel_alloc HB3.out _) _) _⟩
set_option maxRecDepth 100000 in
set_option maxHeartbeats 8000000 in
theorem rvFail_1 (t : RvAt w F g i s) (hs : 0 ≤ i.sends ∧ i.sends ≤ 15) (hr : 0 ≤ i.recvs ∧ i.recvs ≤ 15) (hl : s.stack.length ≤ 90) (k : Nat) :
    Calls Tryz.prog 53 #[.pointer (some ⟨g, 0, none⟩), insV 1 (k : Int)] w fun e w' => e = .returned (.int .i64 (failR i s 1 k)) ∧ Below w.heap.size w w' := by
  obtain ⟨w1, hw1, hb1, hB, hs1⟩ := ins_in 1 (k : Int) w
  have x0 : w1.cell? ⟨w.heap.size, 0, none⟩ = some (.int .i64 1) := hB.cellAt rfl
  have x1 : w1.cell? ⟨w.heap.size, 1, none⟩ = some (.int .i64 (k : Int)) := hB.cellAt rfl
  have t1 := t.belowS hb1
  obtain ⟨am, m, hF⟩ := t1
  obtain ⟨n, hn⟩ : ∃ n, s.stack.length = n := ⟨_, rfl⟩
  obtain ⟨nm, hnm⟩ : ∃ nm, s.mem.length = nm := ⟨_, rfl⟩
  obtain ⟨nc, hnc⟩ : ∃ nc, i.code.length = nc := ⟨_, rfl⟩
  obtain ⟨sd, hsd⟩ : ∃ sd : Nat, i.sends = (sd : Int) := ⟨i.sends.toNat, by omega⟩
  obtain ⟨rc, hrc⟩ : ∃ rc : Nat, i.recvs = (rc : Int) := ⟨i.recvs.toNat, by omega⟩
  rw [hn] at hl
  rw [hsd] at hs
  rw [hrc] at hr
  have y5 : w1.cell? ⟨g, 5, none⟩ = some (.int .i64 (sd : Int)) := by rw [← hsd]; exact m.blk.cellAt rfl
  have y6 : w1.cell? ⟨g, 6, none⟩ = some (.int .i64 (rc : Int)) := by rw [← hrc]; exact m.blk.cellAt rfl
  have y7 : w1.cell? ⟨g, 7, none⟩ = some (.slice am.Ac nc am.cc) := by rw [← hnc]; exact m.blk.cellAt rfl
  have y9 : w1.cell? ⟨g, 9, none⟩ = some (.slice am.As n am.cS) := by rw [← hn]; exact m.blk.cellAt rfl
  have y10 : w1.cell? ⟨g, 10, none⟩ = some (.slice am.Am nm am.cM) := by rw [← hnm]; exact m.blk.cellAt rfl
  have HB1 := hid hb1
  have HR : Hid (∀ r, (if (1 : Nat) = 17 then (16 : Int) else if (((1 : Nat) = 10 ∨ (1 : Nat) = 11) ∧ nm ≤ k) ∨ (((1 : Nat) = 12 ∨ (1 : Nat) = 13) ∧ nc ≤ k) then 3 else if ((1 : Nat) = 14 ∧ bitI (sd : Int) k = false) ∨ ((1 : Nat) = 15 ∧ bitI (rc : Int) k = false) then 15 else if n < 0 then 5 else if 8 + 0 < n + 1 then 14 else 0) = r → failR i s 1 k = r) := hid (fun r h => by
    rw [← h]
    unfold failR
    rw [hn, hnm, hnc, hsd, hrc]
    rfl)
  have iN := hid (fun W => needs_any 1 (by omega) W)
  have iH := hid (fun W => hasR_any sd k W (by omega))
  have iG := hid (fun W => hasR_any rc k W (by omega))
  have hg1 := m.blk.lt
  have HBK : Hid (w1.heap[w.heap.size]? = some (.cells #[.int .i64 1, .int .i64 (k : Int)] 136 (0, 0))) := hid hB
  clear hb1 hB hs1 t m hF hn hnm hnc hsd hrc hs hr
  have z2 : decide ((n : Int) < 0) = false := decide_eq_false (by omega)
  by_cases hx : 8 + 0 < n + 1
  · have z3 : decide ((8 : Int) < (n : Int) - 0 + 1) = true := decide_eq_true (by omega)
    have z5 : decide ((8 : Int) < (n : Int) + 1) = true := decide_eq_true (by omega)
    have hr0 := hid (HR.out 14 (by simp [hx]; try omega))
    clear HR
    unfold insV
    go_enter Tryz.func53, Tryz.ntmps53
    go_wp2_with fail
    go_quiet (fail)
    go_wp2_with fail
    go_quiet (fail)
    go_wp2_with fail
    refine (iN.out _).mono ?_
    rintro e w3 ⟨rfl, hb3⟩
    have hb3' : Below w1.heap.size w1 w3 := bel_trans (below_drewS _) hb3
    have y9 : w3.cell? ⟨g, 9, none⟩ = some (.slice am.As n am.cS) := (hb3'.cell (p := ⟨g, 9, none⟩) hg1).trans y9
    have d9 := fun o => cell_alloc y9 o
    have HB3 := hid (bel_trans HB1.out hb3')
    unfold needF
    clear x0 x1 y5 y6 y7 y10 hb3 hb3'
    go_wp2_with fail
    go_quiet (fail)
    go_wp2_with fail
    go_quiet (fail)
    go_wp2_with fail
    go_ret
    exact ⟨by rw [hr0.out]; rfl, by first | exact below_drewN (bel_alloc HB3.out _) _ | exact below_drewN (below_drewN (bel_alloc HB3.out _) _) _⟩
  · have z3 : decide ((8 : Int) < (n : Int) - 0 + 1) = false := decide_eq_false (by omega)
    have z5 : decide ((8 : Int) < (n : Int) + 1) = false := decide_eq_false (by omega)
    have hr0 := hid (HR.out 0 (by simp [hx]; try omega))
    clear HR
    unfold insV
    go_enter Tryz.func53, Tryz.ntmps53
    go_wp2_with fail
    go_quiet (fail)
    go_wp2_with fail
    go_quiet (fail)
    go_wp2_with fail
    refine (iN.out _).mono ?_
    rintro e w3 ⟨rfl, hb3⟩
    have hb3' : Below w1.heap.size w1 w3 := bel_trans (below_drewS _) hb3
    have y9 : w3.cell? ⟨g, 9, none⟩ = some (.slice am.As n am.cS) := (hb3'.cell (p := ⟨g, 9, none⟩) hg1).trans y9
    have d9 := fun o => cell_alloc y9 o
    have HB3 := hid (bel_trans HB1.out hb3')
    unfold needF
    clear x0 x1 y5 y6 y7 y10 hb3 hb3'
    go_wp2_with fail
    go_quiet (fail)
    go_wp2_with fail
    go_quiet (fail)
    go_wp2_with fail
    go_ret
    exact ⟨by rw [hr0.out]; rfl, by first | exact below_drewN (bel_alloc HB3.out _) _ | exact below_drewN (below_drewN (bel_alloc HB3.out _) _) _⟩
set_option maxRecDepth 100000 in
set_option maxHeartbeats 8000000 in
theorem rvFail_2 (t : RvAt w F g i s) (hs : 0 ≤ i.sends ∧ i.sends ≤ 15) (hr : 0 ≤ i.recvs ∧ i.recvs ≤ 15) (hl : s.stack.length ≤ 90) (k : Nat) :
    Calls Tryz.prog 53 #[.pointer (some ⟨g, 0, none⟩), insV 2 (k : Int)] w fun e w' => e = .returned (.int .i64 (failR i s 2 k)) ∧ Below w.heap.size w w' := by
  obtain ⟨w1, hw1, hb1, hB, hs1⟩ := ins_in 2 (k : Int) w
  have x0 : w1.cell? ⟨w.heap.size, 0, none⟩ = some (.int .i64 2) := hB.cellAt rfl
  have x1 : w1.cell? ⟨w.heap.size, 1, none⟩ = some (.int .i64 (k : Int)) := hB.cellAt rfl
  have t1 := t.belowS hb1
  obtain ⟨am, m, hF⟩ := t1
  obtain ⟨n, hn⟩ : ∃ n, s.stack.length = n := ⟨_, rfl⟩
  obtain ⟨nm, hnm⟩ : ∃ nm, s.mem.length = nm := ⟨_, rfl⟩
  obtain ⟨nc, hnc⟩ : ∃ nc, i.code.length = nc := ⟨_, rfl⟩
  obtain ⟨sd, hsd⟩ : ∃ sd : Nat, i.sends = (sd : Int) := ⟨i.sends.toNat, by omega⟩
  obtain ⟨rc, hrc⟩ : ∃ rc : Nat, i.recvs = (rc : Int) := ⟨i.recvs.toNat, by omega⟩
  rw [hn] at hl
  rw [hsd] at hs
  rw [hrc] at hr
  have y5 : w1.cell? ⟨g, 5, none⟩ = some (.int .i64 (sd : Int)) := by rw [← hsd]; exact m.blk.cellAt rfl
  have y6 : w1.cell? ⟨g, 6, none⟩ = some (.int .i64 (rc : Int)) := by rw [← hrc]; exact m.blk.cellAt rfl
  have y7 : w1.cell? ⟨g, 7, none⟩ = some (.slice am.Ac nc am.cc) := by rw [← hnc]; exact m.blk.cellAt rfl
  have y9 : w1.cell? ⟨g, 9, none⟩ = some (.slice am.As n am.cS) := by rw [← hn]; exact m.blk.cellAt rfl
  have y10 : w1.cell? ⟨g, 10, none⟩ = some (.slice am.Am nm am.cM) := by rw [← hnm]; exact m.blk.cellAt rfl
  have HB1 := hid hb1
  have HR : Hid (∀ r, (if (2 : Nat) = 17 then (16 : Int) else if (((2 : Nat) = 10 ∨ (2 : Nat) = 11) ∧ nm ≤ k) ∨ (((2 : Nat) = 12 ∨ (2 : Nat) = 13) ∧ nc ≤ k) then 3 else if ((2 : Nat) = 14 ∧ bitI (sd : Int) k = false) ∨ ((2 : Nat) = 15 ∧ bitI (rc : Int) k = false) then 15 else if n < 1 then 5 else if 8 + 1 < n + 0 then 14 else 0) = r → failR i s 2 k = r) := hid (fun r h => by
    rw [← h]
    unfold failR
    rw [hn, hnm, hnc, hsd, hrc]
    rfl)
  have iN := hid (fun W => needs_any 2 (by omega) W)
  have iH := hid (fun W => hasR_any sd k W (by omega))
  have iG := hid (fun W => hasR_any rc k W (by omega))
  have hg1 := m.blk.lt
  have HBK : Hid (w1.heap[w.heap.size]? = some (.cells #[.int .i64 2, .int .i64 (k : Int)] 136 (0, 0))) := hid hB
  clear hb1 hB hs1 t m hF hn hnm hnc hsd hrc hs hr
  by_cases hn : n < 1
  · have z2 : decide ((n : Int) < 1) = true := decide_eq_true (by omega)
    have z2' : decide (n < 1) = true := decide_eq_true hn
    have hr0 := hid (HR.out 5 (by simp [hn]))
    clear HR
    unfold insV
    go_enter Tryz.func53, Tryz.ntmps53
    go_wp2_with fail
    go_quiet (fail)
    go_wp2_with fail
    go_quiet (fail)
    go_wp2_with fail
    refine (iN.out _).mono ?_
    rintro e w3 ⟨rfl, hb3⟩
    have hb3' : Below w1.heap.size w1 w3 := bel_trans (below_drewS _) hb3
    have y9 : w3.cell? ⟨g, 9, none⟩ = some (.slice am.As n am.cS) := (hb3'.cell (p := ⟨g, 9, none⟩) hg1).trans y9
    have d9 := fun o => cell_alloc y9 o
    have HB3 := hid (bel_trans HB1.out hb3')
    unfold needF
    clear x0 x1 y5 y6 y7 y10 hb3 hb3'
    go_wp2_with fail
    go_quiet (fail)
    go_wp2_with fail
    go_ret
    exact ⟨by rw [hr0.out]; rfl, by first | exact below_drewN (bel_alloc HB3.out _) _ | exact below_drewN (below_drewN (bel_alloc HB3.out _) _) _⟩
  have z2 : decide ((n : Int) < 1) = false := decide_eq_false (by omega)
  have z2' : decide (n < 1) = false := decide_eq_false hn
  by_cases hx : 8 + 1 < n + 0
  · have z3 : decide ((8 : Int) < (n : Int) - 1 + 0) = true := decide_eq_true (by omega)
    have z4 : decide ((8 : Int) < (n : Int) - 1) = true := decide_eq_true (by omega)
    have hr0 := hid (HR.out 14 (by simp [hn, hx]; try omega))
    clear HR
    unfold insV
    go_enter Tryz.func53, Tryz.ntmps53
    go_wp2_with fail
    go_quiet (fail)
    go_wp2_with fail
    go_quiet (fail)
    go_wp2_with fail
    refine (iN.out _).mono ?_
    rintro e w3 ⟨rfl, hb3⟩
    have hb3' : Below w1.heap.size w1 w3 := bel_trans (below_drewS _) hb3
    have y9 : w3.cell? ⟨g, 9, none⟩ = some (.slice am.As n am.cS) := (hb3'.cell (p := ⟨g, 9, none⟩) hg1).trans y9
    have d9 := fun o => cell_alloc y9 o
    have HB3 := hid (bel_trans HB1.out hb3')
    unfold needF
    clear x0 x1 y5 y6 y7 y10 hb3 hb3'
    go_wp2_with fail
    go_quiet (fail)
    go_wp2_with fail
    go_quiet (fail)
    go_wp2_with fail
    go_ret
    exact ⟨by rw [hr0.out]; rfl, by first | exact below_drewN (bel_alloc HB3.out _) _ | exact below_drewN (below_drewN (bel_alloc HB3.out _) _) _⟩
  · have z3 : decide ((8 : Int) < (n : Int) - 1 + 0) = false := decide_eq_false (by omega)
    have z4 : decide ((8 : Int) < (n : Int) - 1) = false := decide_eq_false (by omega)
    have hr0 := hid (HR.out 0 (by simp [hn, hx]; try omega))
    clear HR
    unfold insV
    go_enter Tryz.func53, Tryz.ntmps53
    go_wp2_with fail
    go_quiet (fail)
    go_wp2_with fail
    go_quiet (fail)
    go_wp2_with fail
    refine (iN.out _).mono ?_
    rintro e w3 ⟨rfl, hb3⟩
    have hb3' : Below w1.heap.size w1 w3 := bel_trans (below_drewS _) hb3
    have y9 : w3.cell? ⟨g, 9, none⟩ = some (.slice am.As n am.cS) := (hb3'.cell (p := ⟨g, 9, none⟩) hg1).trans y9
    have d9 := fun o => cell_alloc y9 o
    have HB3 := hid (bel_trans HB1.out hb3')
    unfold needF
    clear x0 x1 y5 y6 y7 y10 hb3 hb3'
    go_wp2_with fail
    go_quiet (fail)
    go_wp2_with fail
    go_quiet (fail)
    go_wp2_with fail
    go_ret
    exact ⟨by rw [hr0.out]; rfl, by first | exact below_drewN (bel_alloc HB3.out _) _ | exact below_drewN (below_drewN (bel_alloc HB3.out _) _) _⟩
set_option maxRecDepth 100000 in
set_option maxHeartbeats 8000000 in
theorem rvFail_3 (t : RvAt w F g i s) (hs : 0 ≤ i.sends ∧ i.sends ≤ 15) (hr : 0 ≤ i.recvs ∧ i.recvs ≤ 15) (hl : s.stack.length ≤ 90) (k : Nat) :
    Calls Tryz.prog 53 #[.pointer (some ⟨g, 0, none⟩), insV 3 (k : Int)] w fun e w' => e = .returned (.int .i64 (failR i s 3 k)) ∧ Below w.heap.size w w' := by
  obtain ⟨w1, hw1, hb1, hB, hs1⟩ := ins_in 3 (k : Int) w
  have x0 : w1.cell? ⟨w.heap.size, 0, none⟩ = some (.int .i64 3) := hB.cellAt rfl
  have x1 : w1.cell? ⟨w.heap.size, 1, none⟩ = some (.int .i64 (k : Int)) := hB.cellAt rfl
  have t1 := t.belowS hb1
  obtain ⟨am, m, hF⟩ := t1
  obtain ⟨n, hn⟩ : ∃ n, s.stack.length = n := ⟨_, rfl⟩
  obtain ⟨nm, hnm⟩ : ∃ nm, s.mem.length = nm := ⟨_, rfl⟩
  obtain ⟨nc, hnc⟩ : ∃ nc, i.code.length = nc := ⟨_, rfl⟩
  obtain ⟨sd, hsd⟩ : ∃ sd : Nat, i.sends = (sd : Int) := ⟨i.sends.toNat, by omega⟩
  obtain ⟨rc, hrc⟩ : ∃ rc : Nat, i.recvs = (rc : Int) := ⟨i.recvs.toNat, by omega⟩
  rw [hn] at hl
  rw [hsd] at hs
  rw [hrc] at hr
  have y5 : w1.cell? ⟨g, 5, none⟩ = some (.int .i64 (sd : Int)) := by rw [← hsd]; exact m.blk.cellAt rfl
  have y6 : w1.cell? ⟨g, 6, none⟩ = some (.int .i64 (rc : Int)) := by rw [← hrc]; exact m.blk.cellAt rfl
  have y7 : w1.cell? ⟨g, 7, none⟩ = some (.slice am.Ac nc am.cc) := by rw [← hnc]; exact m.blk.cellAt rfl
  have y9 : w1.cell? ⟨g, 9, none⟩ = some (.slice am.As n am.cS) := by rw [← hn]; exact m.blk.cellAt rfl
  have y10 : w1.cell? ⟨g, 10, none⟩ = some (.slice am.Am nm am.cM) := by rw [← hnm]; exact m.blk.cellAt rfl
  have HB1 := hid hb1
  have HR : Hid (∀ r, (if (3 : Nat) = 17 then (16 : Int) else if (((3 : Nat) = 10 ∨ (3 : Nat) = 11) ∧ nm ≤ k) ∨ (((3 : Nat) = 12 ∨ (3 : Nat) = 13) ∧ nc ≤ k) then 3 else if ((3 : Nat) = 14 ∧ bitI (sd : Int) k = false) ∨ ((3 : Nat) = 15 ∧ bitI (rc : Int) k = false) then 15 else if n < 1 then 5 else if 8 + 1 < n + 2 then 14 else 0) = r → failR i s 3 k = r) := hid (fun r h => by
    rw [← h]
    unfold failR
    rw [hn, hnm, hnc, hsd, hrc]
    rfl)
  have iN := hid (fun W => needs_any 3 (by omega) W)
  have iH := hid (fun W => hasR_any sd k W (by omega))
  have iG := hid (fun W => hasR_any rc k W (by omega))
  have hg1 := m.blk.lt
  have HBK : Hid (w1.heap[w.heap.size]? = some (.cells #[.int .i64 3, .int .i64 (k : Int)] 136 (0, 0))) := hid hB
  clear hb1 hB hs1 t m hF hn hnm hnc hsd hrc hs hr
  by_cases hn : n < 1
  · have z2 : decide ((n : Int) < 1) = true := decide_eq_true (by omega)
    have z2' : decide (n < 1) = true := decide_eq_true hn
    have hr0 := hid (HR.out 5 (by simp [hn]))
    clear HR
    unfold insV
    go_enter Tryz.func53, Tryz.ntmps53
    go_wp2_with fail
    go_quiet (fail)
    go_wp2_with fail
    go_quiet (fail)
    go_wp2_with fail
    refine (iN.out _).mono ?_
    rintro e w3 ⟨rfl, hb3⟩
    have hb3' : Below w1.heap.size w1 w3 := bel_trans (below_drewS _) hb3
    have y9 : w3.cell? ⟨g, 9, none⟩ = some (.slice am.As n am.cS) := (hb3'.cell (p := ⟨g, 9, none⟩) hg1).trans y9
    have d9 := fun o => cell_alloc y9 o
    have HB3 := hid (bel_trans HB1.out hb3')
    unfold needF
    clear x0 x1 y5 y6 y7 y10 hb3 hb3'
    go_wp2_with fail
    go_quiet (fail)
    go_wp2_with fail
    go_ret
    exact ⟨by rw [hr0.out]; rfl, by first | exact below_drewN (bel_alloc HB3.out _) _ | exact below_drewN (below_drewN (bel_alloc HB3.out _) _) _⟩
  have z2 : decide ((n : Int) < 1) = false := decide_eq_false (by omega)
  have z2' : decide (n < 1) = false := decide_eq_false hn
  by_cases hx : 8 + 1 < n + 2
  · have z3 : decide ((8 : Int) < (n : Int) - 1 + 2) = true := decide_eq_true (by omega)
    have hr0 := hid (HR.out 14 (by simp [hn, hx]; try omega))
    clear HR
    unfold insV
    go_enter Tryz.func53, Tryz.ntmps53
    go_wp2_with fail
    go_quiet (fail)
    go_wp2_with fail
    go_quiet (fail)
    go_wp2_with fail
    refine (iN.out _).mono ?_
    rintro e w3 ⟨rfl, hb3⟩
    have hb3' : Below w1.heap.size w1 w3 := bel_trans (below_drewS _) hb3
    have y9 : w3.cell? ⟨g, 9, none⟩ = some (.slice am.As n am.cS) := (hb3'.cell (p := ⟨g, 9, none⟩) hg1).trans y9
    have d9 := fun o => cell_alloc y9 o
    have HB3 := hid (bel_trans HB1.out hb3')
    unfold needF
    clear x0 x1 y5 y6 y7 y10 hb3 hb3'
    go_wp2_with fail
    go_quiet (fail)
    go_wp2_with fail
    go_quiet (fail)
    go_wp2_with fail
    go_ret
    exact ⟨by rw [hr0.out]; rfl, by first | exact below_drewN (bel_alloc HB3.out _) _ | exact below_drewN (below_drewN (bel_alloc HB3.out _) _) _⟩
  · have z3 : decide ((8 : Int) < (n : Int) - 1 + 2) = false := decide_eq_false (by omega)
    have hr0 := hid (HR.out 0 (by simp [hn, hx]; try omega))
    clear HR
    unfold insV
    go_enter Tryz.func53, Tryz.ntmps53
    go_wp2_with fail
    go_quiet (fail)
    go_wp2_with fail
    go_quiet (fail)
    go_wp2_with fail
    refine (iN.out _).mono ?_
    rintro e w3 ⟨rfl, hb3⟩
    have hb3' : Below w1.heap.size w1 w3 := bel_trans (below_drewS _) hb3
    have y9 : w3.cell? ⟨g, 9, none⟩ = some (.slice am.As n am.cS) := (hb3'.cell (p := ⟨g, 9, none⟩) hg1).trans y9
    have d9 := fun o => cell_alloc y9 o
    have HB3 := hid (bel_trans HB1.out hb3')
    unfold needF
    clear x0 x1 y5 y6 y7 y10 hb3 hb3'
    go_wp2_with fail
    go_quiet (fail)
    go_wp2_with fail
    go_quiet (fail)
    go_wp2_with fail
    go_ret
    exact ⟨by rw [hr0.out]; rfl, by first | exact below_drewN (bel_alloc HB3.out _) _ | exact below_drewN (below_drewN (bel_alloc HB3.out _) _) _⟩
set_option maxRecDepth 100000 in
set_option maxHeartbeats 8000000 in
theorem rvFail_4 (t : RvAt w F g i s) (hs : 0 ≤ i.sends ∧ i.sends ≤ 15) (hr : 0 ≤ i.recvs ∧ i.recvs ≤ 15) (hl : s.stack.length ≤ 90) (k : Nat) :
    Calls Tryz.prog 53 #[.pointer (some ⟨g, 0, none⟩), insV 4 (k : Int)] w fun e w' => e = .returned (.int .i64 (failR i s 4 k)) ∧ Below w.heap.size w w' := by
  obtain ⟨w1, hw1, hb1, hB, hs1⟩ := ins_in 4 (k : Int) w
  have x0 : w1.cell? ⟨w.heap.size, 0, none⟩ = some (.int .i64 4) := hB.cellAt rfl
  have x1 : w1.cell? ⟨w.heap.size, 1, none⟩ = some (.int .i64 (k : Int)) := hB.cellAt rfl
  have t1 := t.belowS hb1
  obtain ⟨am, m, hF⟩ := t1
  obtain ⟨n, hn⟩ : ∃ n, s.stack.length = n := ⟨_, rfl⟩
  obtain ⟨nm, hnm⟩ : ∃ nm, s.mem.length = nm := ⟨_, rfl⟩
  obtain ⟨nc, hnc⟩ : ∃ nc, i.code.length = nc := ⟨_, rfl⟩
  obtain ⟨sd, hsd⟩ : ∃ sd : Nat, i.sends = (sd : Int) := ⟨i.sends.toNat, by omega⟩
  obtain ⟨rc, hrc⟩ : ∃ rc : Nat, i.recvs = (rc : Int) := ⟨i.recvs.toNat, by omega⟩
  rw [hn] at hl
  rw [hsd] at hs
  rw [hrc] at hr
  have y5 : w1.cell? ⟨g, 5, none⟩ = some (.int .i64 (sd : Int)) := by rw [← hsd]; exact m.blk.cellAt rfl
  have y6 : w1.cell? ⟨g, 6, none⟩ = some (.int .i64 (rc : Int)) := by rw [← hrc]; exact m.blk.cellAt rfl
  have y7 : w1.cell? ⟨g, 7, none⟩ = some (.slice am.Ac nc am.cc) := by rw [← hnc]; exact m.blk.cellAt rfl
  have y9 : w1.cell? ⟨g, 9, none⟩ = some (.slice am.As n am.cS) := by rw [← hn]; exact m.blk.cellAt rfl
  have y10 : w1.cell? ⟨g, 10, none⟩ = some (.slice am.Am nm am.cM) := by rw [← hnm]; exact m.blk.cellAt rfl
  have HB1 := hid hb1
  have HR : Hid (∀ r, (if (4 : Nat) = 17 then (16 : Int) else if (((4 : Nat) = 10 ∨ (4 : Nat) = 11) ∧ nm ≤ k) ∨ (((4 : Nat) = 12 ∨ (4 : Nat) = 13) ∧ nc ≤ k) then 3 else if ((4 : Nat) = 14 ∧ bitI (sd : Int) k = false) ∨ ((4 : Nat) = 15 ∧ bitI (rc : Int) k = false) then 15 else if n < 2 then 5 else if 8 + 2 < n + 2 then 14 else 0) = r → failR i s 4 k = r) := hid (fun r h => by
    rw [← h]
    unfold failR
    rw [hn, hnm, hnc, hsd, hrc]
    rfl)
  have iN := hid (fun W => needs_any 4 (by omega) W)
  have iH := hid (fun W => hasR_any sd k W (by omega))
  have iG := hid (fun W => hasR_any rc k W (by omega))
  have hg1 := m.blk.lt
  have HBK : Hid (w1.heap[w.heap.size]? = some (.cells #[.int .i64 4, .int .i64 (k : Int)] 136 (0, 0))) := hid hB
  clear hb1 hB hs1 t m hF hn hnm hnc hsd hrc hs hr
  by_cases hn : n < 2
  · have z2 : decide ((n : Int) < 2) = true := decide_eq_true (by omega)
    have z2' : decide (n < 2) = true := decide_eq_true hn
    have hr0 := hid (HR.out 5 (by simp [hn]))
    clear HR
    unfold insV
    go_enter Tryz.func53, Tryz.ntmps53
    go_wp2_with fail
    go_quiet (fail)
    go_wp2_with fail
    go_quiet (fail)
    go_wp2_with fail
    refine (iN.out _).mono ?_
    rintro e w3 ⟨rfl, hb3⟩
    have hb3' : Below w1.heap.size w1 w3 := bel_trans (below_drewS _) hb3
    have y9 : w3.cell? ⟨g, 9, none⟩ = some (.slice am.As n am.cS) := (hb3'.cell (p := ⟨g, 9, none⟩) hg1).trans y9
    have d9 := fun o => cell_alloc y9 o
    have HB3 := hid (bel_trans HB1.out hb3')
    unfold needF
    clear x0 x1 y5 y6 y7 y10 hb3 hb3'
    go_wp2_with fail
    go_quiet (fail)
    go_wp2_with fail
    go_ret
    exact ⟨by rw [hr0.out]; rfl, by first | exact below_drewN (bel_alloc HB3.out _) _ | exact below_drewN (below_drewN (bel_alloc HB3.out _) _) _⟩
  have z2 : decide ((n : Int) < 2) = false := decide_eq_false (by omega)
  have z2' : decide (n < 2) = false := decide_eq_false hn
  by_cases hx : 8 + 2 < n + 2
  · have z3 : decide ((8 : Int) < (n : Int) - 2 + 2) = true := decide_eq_true (by omega)
    have hr0 := hid (HR.out 14 (by simp [hn, hx]; try omega))
    clear HR
    unfold insV
    go_enter Tryz.func53, Tryz.ntmps53
    go_wp2_with fail
    go_quiet (fail)
    go_wp2_with fail
    go_quiet (fail)
    go_wp2_with fail
    refine (iN.out _).mono ?_
    rintro e w3 ⟨rfl, hb3⟩
    have hb3' : Below w1.heap.size w1 w3 := bel_trans (below_drewS _) hb3
    have y9 : w3.cell? ⟨g, 9, none⟩ = some (.slice am.As n am.cS) := (hb3'.cell (p := ⟨g, 9, none⟩) hg1).trans y9
    have d9 := fun o => cell_alloc y9 o
    have HB3 := hid (bel_trans HB1.out hb3')
    unfold needF
    clear x0 x1 y5 y6 y7 y10 hb3 hb3'
    go_wp2_with fail
    go_quiet (fail)
    go_wp2_with fail
    go_quiet (fail)
    go_wp2_with fail
    go_ret
    exact ⟨by rw [hr0.out]; rfl, by first | exact below_drewN (bel_alloc HB3.out _) _ | exact below_drewN (below_drewN (bel_alloc HB3.out _) _) _⟩
  · have z3 : decide ((8 : Int) < (n : Int) - 2 + 2) = false := decide_eq_false (by omega)
    have hr0 := hid (HR.out 0 (by simp [hn, hx]; try omega))
    clear HR
    unfold insV
    go_enter Tryz.func53, Tryz.ntmps53
    go_wp2_with fail
    go_quiet (fail)
    go_wp2_with fail
    go_quiet (fail)
    go_wp2_with fail
    refine (iN.out _).mono ?_
    rintro e w3 ⟨rfl, hb3⟩
    have hb3' : Below w1.heap.size w1 w3 := bel_trans (below_drewS _) hb3
    have y9 : w3.cell? ⟨g, 9, none⟩ = some (.slice am.As n am.cS) := (hb3'.cell (p := ⟨g, 9, none⟩) hg1).trans y9
    have d9 := fun o => cell_alloc y9 o
    have HB3 := hid (bel_trans HB1.out hb3')
    unfold needF
    clear x0 x1 y5 y6 y7 y10 hb3 hb3'
    go_wp2_with fail
    go_quiet (fail)
    go_wp2_with fail
    go_quiet (fail)
    go_wp2_with fail
    go_ret
    exact ⟨by rw [hr0.out]; rfl, by first | exact below_drewN (bel_alloc HB3.out _) _ | exact below_drewN (below_drewN (bel_alloc HB3.out _) _) _⟩
set_option maxRecDepth 100000 in
set_option maxHeartbeats 8000000 in
theorem rvFail_5 (t : RvAt w F g i s) (hs : 0 ≤ i.sends ∧ i.sends ≤ 15) (hr : 0 ≤ i.recvs ∧ i.recvs ≤ 15) (hl : s.stack.length ≤ 90) (k : Nat) :
    Calls Tryz.prog 53 #[.pointer (some ⟨g, 0, none⟩), insV 5 (k : Int)] w fun e w' => e = .returned (.int .i64 (failR i s 5 k)) ∧ Below w.heap.size w w' := by
  obtain ⟨w1, hw1, hb1, hB, hs1⟩ := ins_in 5 (k : Int) w
  have x0 : w1.cell? ⟨w.heap.size, 0, none⟩ = some (.int .i64 5) := hB.cellAt rfl
  have x1 : w1.cell? ⟨w.heap.size, 1, none⟩ = some (.int .i64 (k : Int)) := hB.cellAt rfl
  have t1 := t.belowS hb1
  obtain ⟨am, m, hF⟩ := t1
  obtain ⟨n, hn⟩ : ∃ n, s.stack.length = n := ⟨_, rfl⟩
  obtain ⟨nm, hnm⟩ : ∃ nm, s.mem.length = nm := ⟨_, rfl⟩
  obtain ⟨nc, hnc⟩ : ∃ nc, i.code.length = nc := ⟨_, rfl⟩
  obtain ⟨sd, hsd⟩ : ∃ sd : Nat, i.sends = (sd : Int) := ⟨i.sends.toNat, by omega⟩
  obtain ⟨rc, hrc⟩ : ∃ rc : Nat, i.recvs = (rc : Int) := ⟨i.recvs.toNat, by omega⟩
  rw [hn] at hl
  rw [hsd] at hs
  rw [hrc] at hr
  have y5 : w1.cell? ⟨g, 5, none⟩ = some (.int .i64 (sd : Int)) := by rw [← hsd]; exact m.blk.cellAt rfl
  have y6 : w1.cell? ⟨g, 6, none⟩ = some (.int .i64 (rc : Int)) := by rw [← hrc]; exact m.blk.cellAt rfl
  have y7 : w1.cell? ⟨g, 7, none⟩ = some (.slice am.Ac nc am.cc) := by rw [← hnc]; exact m.blk.cellAt rfl
  have y9 : w1.cell? ⟨g, 9, none⟩ = some (.slice am.As n am.cS) := by rw [← hn]; exact m.blk.cellAt rfl
  have y10 : w1.cell? ⟨g, 10, none⟩ = some (.slice am.Am nm am.cM) := by rw [← hnm]; exact m.blk.cellAt rfl
  have HB1 := hid hb1
  have HR : Hid (∀ r, (if (5 : Nat) = 17 then (16 : Int) else if (((5 : Nat) = 10 ∨ (5 : Nat) = 11) ∧ nm ≤ k) ∨ (((5 : Nat) = 12 ∨ (5 : Nat) = 13) ∧ nc ≤ k) then 3 else if ((5 : Nat) = 14 ∧ bitI (sd : Int) k = false) ∨ ((5 : Nat) = 15 ∧ bitI (rc : Int) k = false) then 15 else if n < 2 then 5 else if 8 + 2 < n + 1 then 14 else 0) = r → failR i s 5 k = r) := hid (fun r h => by
    rw [← h]
    unfold failR
    rw [hn, hnm, hnc, hsd, hrc]
    rfl)
  have iN := hid (fun W => needs_any 5 (by omega) W)
  have iH := hid (fun W => hasR_any sd k W (by omega))
  have iG := hid (fun W => hasR_any rc k W (by omega))
  have hg1 := m.blk.lt
  have HBK : Hid (w1.heap[w.heap.size]? = some (.cells #[.int .i64 5, .int .i64 (k : Int)] 136 (0, 0))) := hid hB
  clear hb1 hB hs1 t m hF hn hnm hnc hsd hrc hs hr
  by_cases hn : n < 2
  · have z2 : decide ((n : Int) < 2) = true := decide_eq_true (by omega)
    have z2' : decide (n < 2) = true := decide_eq_true hn
    have hr0 := hid (HR.out 5 (by simp [hn]))
    clear HR
    unfold insV
    go_enter Tryz.func53, Tryz.ntmps53
    go_wp2_with fail
    go_quiet (fail)
    go_wp2_with fail
    go_quiet (fail)
    go_wp2_with fail
    refine (iN.out _).mono ?_
    rintro e w3 ⟨rfl, hb3⟩
    have hb3' : Below w1.heap.size w1 w3 := bel_trans (below_drewS _) hb3
    have y9 : w3.cell? ⟨g, 9, none⟩ = some (.slice am.As n am.cS) := (hb3'.cell (p := ⟨g, 9, none⟩) hg1).trans y9
    have d9 := fun o => cell_alloc y9 o
    have HB3 := hid (bel_trans HB1.out hb3')
    unfold needF
    clear x0 x1 y5 y6 y7 y10 hb3 hb3'
    go_wp2_with fail
    go_quiet (fail)
    go_wp2_with fail
    go_ret
    exact ⟨by rw [hr0.out]; rfl, by first | exact below_drewN (bel_alloc HB3.out _) _ | exact below_drewN (below_drewN (bel_alloc HB3.out _) _) _⟩
  have z2 : decide ((n : Int) < 2) = false := decide_eq_false (by omega)
  have z2' : decide (n < 2) = false := decide_eq_false hn
  by_cases hx : 8 + 2 < n + 1
  · have z3 : decide ((8 : Int) < (n : Int) - 2 + 1) = true := decide_eq_true (by omega)
    have hr0 := hid (HR.out 14 (by simp [hn, hx]; try omega))
    clear HR
    unfold insV
    go_enter Tryz.func53, Tryz.ntmps53
    go_wp2_with fail
    go_quiet (fail)
    go_wp2_with fail
    go_quiet (fail)
    go_wp2_with fail
    refine (iN.out _).mono ?_
    rintro e w3 ⟨rfl, hb3⟩
    have hb3' : Below w1.heap.size w1 w3 := bel_trans (below_drewS _) hb3
    have y9 : w3.cell? ⟨g, 9, none⟩ = some (.slice am.As n am.cS) := (hb3'.cell (p := ⟨g, 9, none⟩) hg1).trans y9
    have d9 := fun o => cell_alloc y9 o
    have HB3 := hid (bel_trans HB1.out hb3')
    unfold needF
    clear x0 x1 y5 y6 y7 y10 hb3 hb3'
    go_wp2_with fail
    go_quiet (fail)
    go_wp2_with fail
    go_quiet (fail)
    go_wp2_with fail
    go_ret
    exact ⟨by rw [hr0.out]; rfl, by first | exact below_drewN (bel_alloc HB3.out _) _ | exact below_drewN (below_drewN (bel_alloc HB3.out _) _) _⟩
  · have z3 : decide ((8 : Int) < (n : Int) - 2 + 1) = false := decide_eq_false (by omega)
    have hr0 := hid (HR.out 0 (by simp [hn, hx]; try omega))
    clear HR
    unfold insV
    go_enter Tryz.func53, Tryz.ntmps53
    go_wp2_with fail
    go_quiet (fail)
    go_wp2_with fail
    go_quiet (fail)
    go_wp2_with fail
    refine (iN.out _).mono ?_
    rintro e w3 ⟨rfl, hb3⟩
    have hb3' : Below w1.heap.size w1 w3 := bel_trans (below_drewS _) hb3
    have y9 : w3.cell? ⟨g, 9, none⟩ = some (.slice am.As n am.cS) := (hb3'.cell (p := ⟨g, 9, none⟩) hg1).trans y9
    have d9 := fun o => cell_alloc y9 o
    have HB3 := hid (bel_trans HB1.out hb3')
    unfold needF
    clear x0 x1 y5 y6 y7 y10 hb3 hb3'
    go_wp2_with fail
    go_quiet (fail)
    go_wp2_with fail
    go_quiet (fail)
    go_wp2_with fail
    go_ret
    exact ⟨by rw [hr0.out]; rfl, by first | exact below_drewN (bel_alloc HB3.out _) _ | exact below_drewN (below_drewN (bel_alloc HB3.out _) _) _⟩
set_option maxRecDepth 100000 in
set_option maxHeartbeats 8000000 in
theorem rvFail_6 (t : RvAt w F g i s) (hs : 0 ≤ i.sends ∧ i.sends ≤ 15) (hr : 0 ≤ i.recvs ∧ i.recvs ≤ 15) (hl : s.stack.length ≤ 90) (k : Nat) :
    Calls Tryz.prog 53 #[.pointer (some ⟨g, 0, none⟩), insV 6 (k : Int)] w fun e w' => e = .returned (.int .i64 (failR i s 6 k)) ∧ Below w.heap.size w w' := by
  obtain ⟨w1, hw1, hb1, hB, hs1⟩ := ins_in 6 (k : Int) w
  have x0 : w1.cell? ⟨w.heap.size, 0, none⟩ = some (.int .i64 6) := hB.cellAt rfl
  have x1 : w1.cell? ⟨w.heap.size, 1, none⟩ = some (.int .i64 (k : Int)) := hB.cellAt rfl
  have t1 := t.belowS hb1
  obtain ⟨am, m, hF⟩ := t1
  obtain ⟨n, hn⟩ : ∃ n, s.stack.length = n := ⟨_, rfl⟩
  obtain ⟨nm, hnm⟩ : ∃ nm, s.mem.length = nm := ⟨_, rfl⟩
  obtain ⟨nc, hnc⟩ : ∃ nc, i.code.length = nc := ⟨_, rfl⟩
  obtain ⟨sd, hsd⟩ : ∃ sd : Nat, i.sends = (sd : Int) := ⟨i.sends.toNat, by omega⟩
  obtain ⟨rc, hrc⟩ : ∃ rc : Nat, i.recvs = (rc : Int) := ⟨i.recvs.toNat, by omega⟩
  rw [hn] at hl
  rw [hsd] at hs
  rw [hrc] at hr
  have y5 : w1.cell? ⟨g, 5, none⟩ = some (.int .i64 (sd : Int)) := by rw [← hsd]; exact m.blk.cellAt rfl
  have y6 : w1.cell? ⟨g, 6, none⟩ = some (.int .i64 (rc : Int)) := by rw [← hrc]; exact m.blk.cellAt rfl
  have y7 : w1.cell? ⟨g, 7, none⟩ = some (.slice am.Ac nc am.cc) := by rw [← hnc]; exact m.blk.cellAt rfl
  have y9 : w1.cell? ⟨g, 9, none⟩ = some (.slice am.As n am.cS) := by rw [← hn]; exact m.blk.cellAt rfl
  have y10 : w1.cell? ⟨g, 10, none⟩ = some (.slice am.Am nm am.cM) := by rw [← hnm]; exact m.blk.cellAt rfl
  have HB1 := hid hb1
  have HR : Hid (∀ r, (if (6 : Nat) = 17 then (16 : Int) else if (((6 : Nat) = 10 ∨ (6 : Nat) = 11) ∧ nm ≤ k) ∨ (((6 : Nat) = 12 ∨ (6 : Nat) = 13) ∧ nc ≤ k) then 3 else if ((6 : Nat) = 14 ∧ bitI (sd : Int) k = false) ∨ ((6 : Nat) = 15 ∧ bitI (rc : Int) k = false) then 15 else if n < 2 then 5 else if 8 + 2 < n + 1 then 14 else 0) = r → failR i s 6 k = r) := hid (fun r h => by
    rw [← h]
    unfold failR
    rw [hn, hnm, hnc, hsd, hrc]
    rfl)
  have iN := hid (fun W => needs_any 6 (by omega) W)
  have iH := hid (fun W => hasR_any sd k W (by omega))
  have iG := hid (fun W => hasR_any rc k W (by omega))
  have hg1 := m.blk.lt
  have HBK : Hid (w1.heap[w.heap.size]? = some (.cells #[.int .i64 6, .int .i64 (k : Int)] 136 (0, 0))) := hid hB
  clear hb1 hB hs1 t m hF hn hnm hnc hsd hrc hs hr
  by_cases hn : n < 2
  · have z2 : decide ((n : Int) < 2) = true := decide_eq_true (by omega)
    have z2' : decide (n < 2) = true := decide_eq_true hn
    have hr0 := hid (HR.out 5 (by simp [hn]))
    clear HR
    unfold insV
    go_enter Tryz.func53, Tryz.ntmps53
    go_wp2_with fail
    go_quiet (fail)
    go_wp2_with fail
    go_quiet (fail)
    go_wp2_with fail
    refine (iN.out _).mono ?_
    rintro e w3 ⟨rfl, hb3⟩
    have hb3' : Below w1.heap.size w1 w3 := bel_trans (below_drewS _) hb3
    have y9 : w3.cell? ⟨g, 9, none⟩ = some (.slice am.As n am.cS) := (hb3'.cell (p := ⟨g, 9, none⟩) hg1).trans y9
    have d9 := fun o => cell_alloc y9 o
    have HB3 := hid (bel_trans HB1.out hb3')
    unfold needF
    clear x0 x1 y5 y6 y7 y10 hb3 hb3'
    go_wp2_with fail
    go_quiet (fail)
    go_wp2_with fail
    go_ret
    exact ⟨by rw [hr0.out]; rfl, by first | exact below_drewN (bel_alloc HB3.out _) _ | exact below_drewN (below_drewN (bel_alloc HB3.out _) _) _⟩
  have z2 : decide ((n : Int) < 2) = false := decide_eq_false (by omega)
  have z2' : decide (n < 2) = false := decide_eq_false hn
  by_cases hx : 8 + 2 < n + 1
  · have z3 : decide ((8 : Int) < (n : Int) - 2 + 1) = true := decide_eq_true (by omega)
    have hr0 := hid (HR.out 14 (by simp [hn, hx]; try omega))
    clear HR
    unfold insV
    go_enter Tryz.func53, Tryz.ntmps53
    go_wp2_with fail
    go_quiet (fail)
    go_wp2_with fail
    go_quiet (fail)
    go_wp2_with fail
    refine (iN.out _).mono ?_
    rintro e w3 ⟨rfl, hb3⟩
    have hb3' : Below w1.heap.size w1 w3 := bel_trans (below_drewS _) hb3
    have y9 : w3.cell? ⟨g, 9, none⟩ = some (.slice am.As n am.cS) := (hb3'.cell (p := ⟨g, 9, none⟩) hg1).trans y9
    have d9 := fun o => cell_alloc y9 o
    have HB3 := hid (bel_trans HB1.out hb3')
    unfold needF
    clear x0 x1 y5 y6 y7 y10 hb3 hb3'
    go_wp2_with fail
    go_quiet (fail)
    go_wp2_with fail
    go_quiet (fail)
    go_wp2_with fail
    go_ret
    exact ⟨by rw [hr0.out]; rfl, by first | exact below_drewN (bel_alloc HB3.out _) _ | exact below_drewN (below_drewN (bel_alloc HB3.out _) _) _⟩
  · have z3 : decide ((8 : Int) < (n : Int) - 2 + 1) = false := decide_eq_false (by omega)
    have hr0 := hid (HR.out 0 (by simp [hn, hx]; try omega))
    clear HR
    unfold insV
    go_enter Tryz.func53, Tryz.ntmps53
    go_wp2_with fail
    go_quiet (fail)
    go_wp2_with fail
    go_quiet (fail)
    go_wp2_with fail
    refine (iN.out _).mono ?_
    rintro e w3 ⟨rfl, hb3⟩
    have hb3' : Below w1.heap.size w1 w3 := bel_trans (below_drewS _) hb3
    have y9 : w3.cell? ⟨g, 9, none⟩ = some (.slice am.As n am.cS) := (hb3'.cell (p := ⟨g, 9, none⟩) hg1).trans y9
    have d9 := fun o => cell_alloc y9 o
    have HB3 := hid (bel_trans HB1.out hb3')
    unfold needF
    clear x0 x1 y5 y6 y7 y10 hb3 hb3'
    go_wp2_with fail
    go_quiet (fail)
    go_wp2_with fail
    go_quiet (fail)
    go_wp2_with fail
    go_ret
    exact ⟨by rw [hr0.out]; rfl, by first | exact below_drewN (bel_alloc HB3.out _) _ | exact below_drewN (below_drewN (bel_alloc HB3.out _) _) _⟩
end
end Go.Proofs.YtidlahljhgglcaaGreat
