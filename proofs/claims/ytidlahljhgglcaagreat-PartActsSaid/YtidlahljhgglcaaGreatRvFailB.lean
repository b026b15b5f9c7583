/-
  The reference of layer 17: how an instruction fails (more).
-/
import Derived.Test.YtidlahljhgglcaaGreatRvFailA
namespace Go.Proofs.YtidlahljhgglcaaGreat
open Go.RowKit Go.ChangeShapes Go.WideShapes Go.ChangeAt

section
variable {w w' : World} {F : Nat → Prop} {g : Nat} {i : ImgS} {s : VmS}
set_option maxRecDepth 100000 in
set_option maxHeartbeats 8000000 in
theorem rvFail_7 (t : RvAt w F g i s) (hs : 0 ≤ i.sends ∧ i.sends ≤ 15) (hr : 0 ≤ i.recvs ∧ i.recvs ≤ 15) (hl : s.stack.length ≤ 90) (k : Nat) :
    Calls Tryz.prog 53 #[.pointer (some ⟨g, 0, none⟩), insV 7 (k : Int)] w fun e w' => e = .returned (.int .i64 (failR i s 7 k)) ∧ Below w.heap.size w w' := by
  obtain ⟨w1, hw1, hb1, hB, hs1⟩ := ins_in 7 (k : Int) w
  have x0 : w1.cell? ⟨w.heap.size, 0, none⟩ = some (.int .i64 7) := hB.cellAt rfl
  have x1 : w1.cell? ⟨w.heap.size, 1, none⟩ = some (.int .i64 (k : Int)) := hB.cellAt rfl
  have t1 := t.belowS hb1
  obtain ⟨am, m, hF⟩ := t1
  obtain ⟨n, hn⟩ : ∃ n, s.stack.length = n := ⟨_, rfl⟩
  obtain ⟨nm, hnm⟩ : ∃ nm, s.mem.length = nm := ⟨_, rfl⟩
  obtain ⟨nc, hnc⟩ : ∃ nc, i.code.length = nc := ⟨_, rfl⟩
  obtain ⟨sd, hsd⟩ : ∃ sd : Nat, i.sends = (sd : Int) := ⟨i.sends.toNat, by omega⟩
  obtain ⟨rc, hrc⟩ : ∃ rc : Nat, i.recvs = (rc : Int) := ⟨i.recvs.toNat, by omega⟩
  rw [hn] at hl
  rw [hsd] at hs
  rw [hrc] at hr
  have y5 : w1.cell? ⟨g, 5, none⟩ = some (.int .i64 (sd : Int)) := by rw [← hsd]; exact m.blk.cellAt rfl
  have y6 : w1.cell? ⟨g, 6, none⟩ = some (.int .i64 (rc : Int)) := by rw [← hrc]; exact m.blk.cellAt rfl
  have y7 : w1.cell? ⟨g, 7, none⟩ = some (.slice am.Ac nc am.cc) := by rw [← hnc]; exact m.blk.cellAt rfl
  have y9 : w1.cell? ⟨g, 9, none⟩ = some (.slice am.As n am.cS) := by rw [← hn]; exact m.blk.cellAt rfl
  have y10 : w1.cell? ⟨g, 10, none⟩ = some (.slice am.Am nm am.cM) := by rw [← hnm]; exact m.blk.cellAt rfl
  have HB1 := hid hb1
  have HR : Hid (∀ r, (if (7 : Nat) = 17 then (16 : Int) else if (((7 : Nat) = 10 ∨ (7 : Nat) = 11) ∧ nm ≤ k) ∨ (((7 : Nat) = 12 ∨ (7 : Nat) = 13) ∧ nc ≤ k) then 3 else if ((7 : Nat) = 14 ∧ bitI (sd : Int) k = false) ∨ ((7 : Nat) = 15 ∧ bitI (rc : Int) k = false) then 15 else if n < 2 then 5 else if 8 + 2 < n + 1 then 14 else 0) = r → failR i s 7 k = r) := hid (fun r h => by
    rw [← h]
    unfold failR
    rw [hn, hnm, hnc, hsd, hrc]
    rfl)
  have iN := hid (fun W => needs_any 7 (by omega) W)
  have iH := hid (fun W => hasR_any sd k W (by omega))
  have iG := hid (fun W => hasR_any rc k W (by omega))
  have hg1 := m.blk.lt
  have HBK : Hid (w1.heap[w.heap.size]? = some (.cells #[.int .i64 7, .int .i64 (k : Int)] 136 (0, 0))) := hid hB
  clear hb1 hB hs1 t m hF hn hnm hnc hsd hrc hs hr
  by_cases hn : n < 2
  · have z2 : decide ((n : Int) < 2) = true := decide_eq_true (by omega)
    have z2' : decide (n < 2) = true := decide_eq_true hn
    have hr0 := hid (HR.out 5 (by simp [hn]))
    clear HR
    unfold insV
    go_enter Tryz.func53, Tryz.ntmps53
    go_wp2_with fail
    go_quiet (fail)
    go_wp2_with fail
    go_quiet (fail)
    go_wp2_with fail
    refine (iN.out _).mono ?_
    rintro e w3 ⟨rfl, hb3⟩
    have hb3' : Below w1.heap.size w1 w3 := bel_trans (below_drewS _) hb3
    have y9 : w3.cell? ⟨g, 9, none⟩ = some (.slice am.As n am.cS) := (hb3'.cell (p := ⟨g, 9, none⟩) hg1).trans y9
    have d9 := fun o => cell_alloc y9 o
    have HB3 := hid (bel_trans HB1.out hb3')
    unfold needF
    clear x0 x1 y5 y6 y7 y10 hb3 hb3'
    go_wp2_with fail
    go_quiet (fail)
    go_wp2_with fail
    go_ret
    exact ⟨by rw [hr0.out]; rfl, by first | exact below_drewN (bel_alloc HB3.out _) _ | exact below_drewN (below_drewN (bel_alloc HB3.out _) _) _⟩
  have z2 : decide ((n : Int) < 2) = false := decide_eq_false (by omega)
  have z2' : decide (n < 2) = false := decide_eq_false hn
  by_cases hx : 8 + 2 < n + 1
  · have z3 : decide ((8 : Int) < (n : Int) - 2 + 1) = true := decide_eq_true (by omega)
    have hr0 := hid (HR.out 14 (by simp [hn, hx]; try omega))
    clear HR
    unfold insV
    go_enter Tryz.func53, Tryz.ntmps53
    go_wp2_with fail
    go_quiet (fail)
    go_wp2_with fail
    go_quiet (fail)
    go_wp2_with fail
    refine (iN.out _).mono ?_
    rintro e w3 ⟨rfl, hb3⟩
    have hb3' : Below w1.heap.size w1 w3 := bel_trans (below_drewS _) hb3
    have y9 : w3.cell? ⟨g, 9, none⟩ = some (.slice am.As n am.cS) := (hb3'.cell (p := ⟨g, 9, none⟩) hg1).trans y9
    have d9 := fun o => cell_alloc y9 o
    have HB3 := hid (bel_trans HB1.out hb3')
    unfold needF
    clear x0 x1 y5 y6 y7 y10 hb3 hb3'
    go_wp2_with fail
    go_quiet (fail)
    go_wp2_with fail
    go_quiet (fail)
    go_wp2_with fail
    go_ret
    exact ⟨by rw [hr0.out]; rfl, by first | exact below_drewN (bel_alloc HB3.out _) _ | exact below_drewN (below_drewN (bel_alloc HB3.out _) _) _⟩
  · have z3 : decide ((8 : Int) < (n : Int) - 2 + 1) = false := decide_eq_false (by omega)
    have hr0 := hid (HR.out 0 (by simp [hn, hx]; try omega))
    clear HR
    unfold insV
    go_enter Tryz.func53, Tryz.ntmps53
    go_wp2_with fail
    go_quiet (fail)
    go_wp2_with fail
    go_quiet (fail)
    go_wp2_with fail
    refine (iN.out _).mono ?_
    rintro e w3 ⟨rfl, hb3⟩
    have hb3' : Below w1.heap.size w1 w3 := bel_trans (below_drewS _) hb3
    have y9 : w3.cell? ⟨g, 9, none⟩ = some (.slice am.As n am.cS) := (hb3'.cell (p := ⟨g, 9, none⟩) hg1).trans y9
    have d9 := fun o => cell_alloc y9 o
    have HB3 := hid (bel_trans HB1.out hb3')
    unfold needF
    clear x0 x1 y5 y6 y7 y10 hb3 hb3'
    go_wp2_with fail
    go_quiet (fail)
    go_wp2_with fail
    go_quiet (fail)
    go_wp2_with fail
    go_ret
    exact ⟨by rw [hr0.out]; rfl, by first | exact below_drewN (bel_alloc HB3.out _) _ | exact below_drewN (below_drewN (bel_alloc HB3.out _) _) _⟩
set_option maxRecDepth 100000 in
set_option maxHeartbeats 8000000 in
theorem rvFail_8 (t : RvAt w F g i s) (hs : 0 ≤ i.sends ∧ i.sends ≤ 15) (hr : 0 ≤ i.recvs ∧ i.recvs ≤ 15) (hl : s.stack.length ≤ 90) (k : Nat) :
    Calls Tryz.prog 53 #[.pointer (some ⟨g, 0, none⟩), insV 8 (k : Int)] w fun e w' => e = .returned (.int .i64 (failR i s 8 k)) ∧ Below w.heap.size w w' := by
  obtain ⟨w1, hw1, hb1, hB, hs1⟩ := ins_in 8 (k : Int) w
  have x0 : w1.cell? ⟨w.heap.size, 0, none⟩ = some (.int .i64 8) := hB.cellAt rfl
  have x1 : w1.cell? ⟨w.heap.size, 1, none⟩ = some (.int .i64 (k : Int)) := hB.cellAt rfl
  have t1 := t.belowS hb1
  obtain ⟨am, m, hF⟩ := t1
  obtain ⟨n, hn⟩ : ∃ n, s.stack.length = n := ⟨_, rfl⟩
  obtain ⟨nm, hnm⟩ : ∃ nm, s.mem.length = nm := ⟨_, rfl⟩
  obtain ⟨nc, hnc⟩ : ∃ nc, i.code.length = nc := ⟨_, rfl⟩
  obtain ⟨sd, hsd⟩ : ∃ sd : Nat, i.sends = (sd : Int) := ⟨i.sends.toNat, by omega⟩
  obtain ⟨rc, hrc⟩ : ∃ rc : Nat, i.recvs = (rc : Int) := ⟨i.recvs.toNat, by omega⟩
  rw [hn] at hl
  rw [hsd] at hs
  rw [hrc] at hr
  have y5 : w1.cell? ⟨g, 5, none⟩ = some (.int .i64 (sd : Int)) := by rw [← hsd]; exact m.blk.cellAt rfl
  have y6 : w1.cell? ⟨g, 6, none⟩ = some (.int .i64 (rc : Int)) := by rw [← hrc]; exact m.blk.cellAt rfl
  have y7 : w1.cell? ⟨g, 7, none⟩ = some (.slice am.Ac nc am.cc) := by rw [← hnc]; exact m.blk.cellAt rfl
  have y9 : w1.cell? ⟨g, 9, none⟩ = some (.slice am.As n am.cS) := by rw [← hn]; exact m.blk.cellAt rfl
  have y10 : w1.cell? ⟨g, 10, none⟩ = some (.slice am.Am nm am.cM) := by rw [← hnm]; exact m.blk.cellAt rfl
  have HB1 := hid hb1
  have HR : Hid (∀ r, (if (8 : Nat) = 17 then (16 : Int) else if (((8 : Nat) = 10 ∨ (8 : Nat) = 11) ∧ nm ≤ k) ∨ (((8 : Nat) = 12 ∨ (8 : Nat) = 13) ∧ nc ≤ k) then 3 else if ((8 : Nat) = 14 ∧ bitI (sd : Int) k = false) ∨ ((8 : Nat) = 15 ∧ bitI (rc : Int) k = false) then 15 else if n < 2 then 5 else if 8 + 2 < n + 1 then 14 else 0) = r → failR i s 8 k = r) := hid (fun r h => by
    rw [← h]
    unfold failR
    rw [hn, hnm, hnc, hsd, hrc]
    rfl)
  have iN := hid (fun W => needs_any 8 (by omega) W)
  have iH := hid (fun W => hasR_any sd k W (by omega))
  have iG := hid (fun W => hasR_any rc k W (by omega))
  have hg1 := m.blk.lt
  have HBK : Hid (w1.heap[w.heap.size]? = some (.cells #[.int .i64 8, .int .i64 (k : Int)] 136 (0, 0))) := hid hB
  clear hb1 hB hs1 t m hF hn hnm hnc hsd hrc hs hr
  by_cases hn : n < 2
  · have z2 : decide ((n : Int) < 2) = true := decide_eq_true (by omega)
    have z2' : decide (n < 2) = true := decide_eq_true hn
    have hr0 := hid (HR.out 5 (by simp [hn]))
    clear HR
    unfold insV
    go_enter Tryz.func53, Tryz.ntmps53
    go_wp2_with fail
    go_quiet (fail)
    go_wp2_with fail
    go_quiet (fail)
    go_wp2_with fail
    refine (iN.out _).mono ?_
    rintro e w3 ⟨rfl, hb3⟩
    have hb3' : Below w1.heap.size w1 w3 := bel_trans (below_drewS _) hb3
    have y9 : w3.cell? ⟨g, 9, none⟩ = some (.slice am.As n am.cS) := (hb3'.cell (p := ⟨g, 9, none⟩) hg1).trans y9
    have d9 := fun o => cell_alloc y9 o
    have HB3 := hid (bel_trans HB1.out hb3')
    unfold needF
    clear x0 x1 y5 y6 y7 y10 hb3 hb3'
    go_wp2_with fail
    go_quiet (fail)
    go_wp2_with fail
    go_ret
    exact ⟨by rw [hr0.out]; rfl, by first | exact below_drewN (bel_alloc HB3.out _) _ | exact below_drewN (below_drewN (bel_alloc HB3.out _) _) _⟩
  have z2 : decide ((n : Int) < 2) = false := decide_eq_false (by omega)
  have z2' : decide (n < 2) = false := decide_eq_false hn
  by_cases hx : 8 + 2 < n + 1
  · have z3 : decide ((8 : Int) < (n : Int) - 2 + 1) = true := decide_eq_true (by omega)
    have hr0 := hid (HR.out 14 (by simp [hn, hx]; try omega))
    clear HR
    unfold insV
    go_enter Tryz.func53, Tryz.ntmps53
    go_wp2_with fail
    go_quiet (fail)
    go_wp2_with fail
    go_quiet (fail)
    go_wp2_with fail
    refine (iN.out _).mono ?_
    rintro e w3 ⟨rfl, hb3⟩
    have hb3' : Below w1.heap.size w1 w3 := bel_trans (below_drewS _) hb3
    have y9 : w3.cell? ⟨g, 9, none⟩ = some (.slice am.As n am.cS) := (hb3'.cell (p := ⟨g, 9, none⟩) hg1).trans y9
    have d9 := fun o => cell_alloc y9 o
    have HB3 := hid (bel_trans HB1.out hb3')
    unfold needF
    clear x0 x1 y5 y6 y7 y10 hb3 hb3'
    go_wp2_with fail
    go_quiet (fail)
    go_wp2_with fail
    go_quiet (fail)
    go_wp2_with fail
    go_ret
    exact ⟨by rw [hr0.out]; rfl, by first | exact below_drewN (bel_alloc HB3.out _) _ | exact below_drewN (below_drewN (bel_alloc HB3.out _) _) _⟩
  · have z3 : decide ((8 : Int) < (n : Int) - 2 + 1) = false := decide_eq_false (by omega)
    have hr0 := hid (HR.out 0 (by simp [hn, hx]; try omega))
    clear HR
    unfold insV
    go_enter Tryz.func53, Tryz.ntmps53
    go_wp2_with fail
    go_quiet (fail)
    go_wp2_with fail
    go_quiet (fail)
    go_wp2_with fail
    refine (iN.out _).mono ?_
    rintro e w3 ⟨rfl, hb3⟩
    have hb3' : Below w1.heap.size w1 w3 := bel_trans (below_drewS _) hb3
    have y9 : w3.cell? ⟨g, 9, none⟩ = some (.slice am.As n am.cS) := (hb3'.cell (p := ⟨g, 9, none⟩) hg1).trans y9
    have d9 := fun o => cell_alloc y9 o
    have HB3 := hid (bel_trans HB1.out hb3')
    unfold needF
    clear x0 x1 y5 y6 y7 y10 hb3 hb3'
    go_wp2_with fail
    go_quiet (fail)
    go_wp2_with fail
    go_quiet (fail)
    go_wp2_with fail
    go_ret
    exact ⟨by rw [hr0.out]; rfl, by first | exact below_drewN (bel_alloc HB3.out _) _ | exact below_drewN (below_drewN (bel_alloc HB3.out _) _) _⟩
set_option maxRecDepth 100000 in
set_option maxHeartbeats 8000000 in
theorem rvFail_9 (t : RvAt w F g i s) (hs : 0 ≤ i.sends ∧ i.sends ≤ 15) (hr : 0 ≤ i.recvs ∧ i.recvs ≤ 15) (hl : s.stack.length ≤ 90) (k : Nat) :
    Calls Tryz.prog 53 #[.pointer (some ⟨g, 0, none⟩), insV 9 (k : Int)] w fun e w' => e = .returned (.int .i64 (failR i s 9 k)) ∧ Below w.heap.size w w' := by
  obtain ⟨w1, hw1, hb1, hB, hs1⟩ := ins_in 9 (k : Int) w
  have x0 : w1.cell? ⟨w.heap.size, 0, none⟩ = some (.int .i64 9) := hB.cellAt rfl
  have x1 : w1.cell? ⟨w.heap.size, 1, none⟩ = some (.int .i64 (k : Int)) := hB.cellAt rfl
  have t1 := t.belowS hb1
  obtain ⟨am, m, hF⟩ := t1
  obtain ⟨n, hn⟩ : ∃ n, s.stack.length = n := ⟨_, rfl⟩
  obtain ⟨nm, hnm⟩ : ∃ nm, s.mem.length = nm := ⟨_, rfl⟩
  obtain ⟨nc, hnc⟩ : ∃ nc, i.code.length = nc := ⟨_, rfl⟩
  obtain ⟨sd, hsd⟩ : ∃ sd : Nat, i.sends = (sd : Int) := ⟨i.sends.toNat, by omega⟩
  obtain ⟨rc, hrc⟩ : ∃ rc : Nat, i.recvs = (rc : Int) := ⟨i.recvs.toNat, by omega⟩
  rw [hn] at hl
  rw [hsd] at hs
  rw [hrc] at hr
  have y5 : w1.cell? ⟨g, 5, none⟩ = some (.int .i64 (sd : Int)) := by rw [← hsd]; exact m.blk.cellAt rfl
  have y6 : w1.cell? ⟨g, 6, none⟩ = some (.int .i64 (rc : Int)) := by rw [← hrc]; exact m.blk.cellAt rfl
  have y7 : w1.cell? ⟨g, 7, none⟩ = some (.slice am.Ac nc am.cc) := by rw [← hnc]; exact m.blk.cellAt rfl
  have y9 : w1.cell? ⟨g, 9, none⟩ = some (.slice am.As n am.cS) := by rw [← hn]; exact m.blk.cellAt rfl
  have y10 : w1.cell? ⟨g, 10, none⟩ = some (.slice am.Am nm am.cM) := by rw [← hnm]; exact m.blk.cellAt rfl
  have HB1 := hid hb1
  have HR : Hid (∀ r, (if (9 : Nat) = 17 then (16 : Int) else if (((9 : Nat) = 10 ∨ (9 : Nat) = 11) ∧ nm ≤ k) ∨ (((9 : Nat) = 12 ∨ (9 : Nat) = 13) ∧ nc ≤ k) then 3 else if ((9 : Nat) = 14 ∧ bitI (sd : Int) k = false) ∨ ((9 : Nat) = 15 ∧ bitI (rc : Int) k = false) then 15 else if n < 2 then 5 else if 8 + 2 < n + 1 then 14 else 0) = r → failR i s 9 k = r) := hid (fun r h => by
    rw [← h]
    unfold failR
    rw [hn, hnm, hnc, hsd, hrc]
    rfl)
  have iN := hid (fun W => needs_any 9 (by omega) W)
  have iH := hid (fun W => hasR_any sd k W (by omega))
  have iG := hid (fun W => hasR_any rc k W (by omega))
  have hg1 := m.blk.lt
  have HBK : Hid (w1.heap[w.heap.size]? = some (.cells #[.int .i64 9, .int .i64 (k : Int)] 136 (0, 0))) := hid hB
  clear hb1 hB hs1 t m hF hn hnm hnc hsd hrc hs hr
  by_cases hn : n < 2
  · have z2 : decide ((n : Int) < 2) = true := decide_eq_true (by omega)
    have z2' : decide (n < 2) = true := decide_eq_true hn
    have hr0 := hid (HR.out 5 (by simp [hn]))
    clear HR
    unfold insV
    go_enter Tryz.func53, Tryz.ntmps53
    go_wp2_with fail
    go_quiet (fail)
    go_wp2_with fail
    go_quiet (fail)
    go_wp2_with fail
    refine (iN.out _).mono ?_
    rintro e w3 ⟨rfl, hb3⟩
    have hb3' : Below w1.heap.size w1 w3 := bel_trans (below_drewS _) hb3
    have y9 : w3.cell? ⟨g, 9, none⟩ = some (.slice am.As n am.cS) := (hb3'.cell (p := ⟨g, 9, none⟩) hg1).trans y9
    have d9 := fun o => cell_alloc y9 o
    have HB3 := hid (bel_trans HB1.out hb3')
    unfold needF
    clear x0 x1 y5 y6 y7 y10 hb3 hb3'
    go_wp2_with fail
    go_quiet (fail)
    go_wp2_with fail
    go_ret
    exact ⟨by rw [hr0.out]; rfl, by first | exact below_drewN (bel_alloc HB3.out _) _ | exact below_drewN (below_drewN (bel_alloc HB3.out _) _) _⟩
  have z2 : decide ((n : Int) < 2) = false := decide_eq_false (by omega)
  have z2' : decide (n < 2) = false := decide_eq_false hn
  by_cases hx : 8 + 2 < n + 1
  · have z3 : decide ((8 : Int) < (n : Int) - 2 + 1) = true := decide_eq_true (by omega)
    have hr0 := hid (HR.out 14 (by simp [hn, hx]; try omega))
    clear HR
    unfold insV
    go_enter Tryz.func53, Tryz.ntmps53
    go_wp2_with fail
    go_quiet (fail)
    go_wp2_with fail
    go_quiet (fail)
    go_wp2_with fail
    refine (iN.out _).mono ?_
    rintro e w3 ⟨rfl, hb3⟩
    have hb3' : Below w1.heap.size w1 w3 := bel_trans (below_drewS _) hb3
    have y9 : w3.cell? ⟨g, 9, none⟩ = some (.slice am.As n am.cS) := (hb3'.cell (p := ⟨g, 9, none⟩) hg1).trans y9
    have d9 := fun o => cell_alloc y9 o
    have HB3 := hid (bel_trans HB1.out hb3')
    unfold needF
    clear x0 x1 y5 y6 y7 y10 hb3 hb3'
    go_wp2_with fail
    go_quiet (fail)
    go_wp2_with fail
    go_quiet (fail)
    go_wp2_with fail
    go_ret
    exact ⟨by rw [hr0.out]; rfl, by first | exact below_drewN (bel_alloc HB3.out _) _ | exact below_drewN (below_drewN (bel_alloc HB3.out _) _) _⟩
  · have z3 : decide ((8 : Int) < (n : Int) - 2 + 1) = false := decide_eq_false (by omega)
    have hr0 := hid (HR.out 0 (by simp [hn, hx]; try omega))
    clear HR
    unfold insV
    go_enter Tryz.func53, Tryz.ntmps53
    go_wp2_with fail
    go_quiet (fail)
    go_wp2_with fail
    go_quiet (fail)
    go_wp2_with fail
    refine (iN.out _).mono ?_
    rintro e w3 ⟨rfl, hb3⟩
    have hb3' : Below w1.heap.size w1 w3 := bel_trans (below_drewS _) hb3
    have y9 : w3.cell? ⟨g, 9, none⟩ = some (.slice am.As n am.cS) := (hb3'.cell (p := ⟨g, 9, none⟩) hg1).trans y9
    have d9 := fun o => cell_alloc y9 o
    have HB3 := hid (bel_trans HB1.out hb3')
    unfold needF
    clear x0 x1 y5 y6 y7 y10 hb3 hb3'
    go_wp2_with fail
    go_quiet (fail)
    go_wp2_with fail
    go_quiet (fail)
    go_wp2_with fail
    go_ret
    exact ⟨by rw [hr0.out]; rfl, by first | exact below_drewN (bel_alloc HB3.out _) _ | exact below_drewN (below_drewN (bel_alloc HB3.out _) _) _⟩
set_option maxRecDepth 100000 in
set_option maxHeartbeats 8000000 in
theorem rvFail_10 (t : RvAt w F g i s) (hs : 0 ≤ i.sends ∧ i.sends ≤ 15) (hr : 0 ≤ i.recvs ∧ i.recvs ≤ 15) (hl : s.stack.length ≤ 90) (k : Nat) :
    Calls Tryz.prog 53 #[.pointer (some ⟨g, 0, none⟩), insV 10 (k : Int)] w fun e w' => e = .returned (.int .i64 (failR i s 10 k)) ∧ Below w.heap.size w w' := by
  obtain ⟨w1, hw1, hb1, hB, hs1⟩ := ins_in 10 (k : Int) w
  have x0 : w1.cell? ⟨w.heap.size, 0, none⟩ = some (.int .i64 10) := hB.cellAt rfl
  have x1 : w1.cell? ⟨w.heap.size, 1, none⟩ = some (.int .i64 (k : Int)) := hB.cellAt rfl
  have t1 := t.belowS hb1
  obtain ⟨am, m, hF⟩ := t1
  obtain ⟨n, hn⟩ : ∃ n, s.stack.length = n := ⟨_, rfl⟩
  obtain ⟨nm, hnm⟩ : ∃ nm, s.mem.length = nm := ⟨_, rfl⟩
  obtain ⟨nc, hnc⟩ : ∃ nc, i.code.length = nc := ⟨_, rfl⟩
  obtain ⟨sd, hsd⟩ : ∃ sd : Nat, i.sends = (sd : Int) := ⟨i.sends.toNat, by omega⟩
  obtain ⟨rc, hrc⟩ : ∃ rc : Nat, i.recvs = (rc : Int) := ⟨i.recvs.toNat, by omega⟩
  rw [hn] at hl
  rw [hsd] at hs
  rw [hrc] at hr
  have y5 : w1.cell? ⟨g, 5, none⟩ = some (.int .i64 (sd : Int)) := by rw [← hsd]; exact m.blk.cellAt rfl
  have y6 : w1.cell? ⟨g, 6, none⟩ = some (.int .i64 (rc : Int)) := by rw [← hrc]; exact m.blk.cellAt rfl
  have y7 : w1.cell? ⟨g, 7, none⟩ = some (.slice am.Ac nc am.cc) := by rw [← hnc]; exact m.blk.cellAt rfl
  have y9 : w1.cell? ⟨g, 9, none⟩ = some (.slice am.As n am.cS) := by rw [← hn]; exact m.blk.cellAt rfl
  have y10 : w1.cell? ⟨g, 10, none⟩ = some (.slice am.Am nm am.cM) := by rw [← hnm]; exact m.blk.cellAt rfl
  have HB1 := hid hb1
  have HR : Hid (∀ r, (if (10 : Nat) = 17 then (16 : Int) else if (((10 : Nat) = 10 ∨ (10 : Nat) = 11) ∧ nm ≤ k) ∨ (((10 : Nat) = 12 ∨ (10 : Nat) = 13) ∧ nc ≤ k) then 3 else if ((10 : Nat) = 14 ∧ bitI (sd : Int) k = false) ∨ ((10 : Nat) = 15 ∧ bitI (rc : Int) k = false) then 15 else if n < 0 then 5 else if 8 + 0 < n + 1 then 14 else 0) = r → failR i s 10 k = r) := hid (fun r h => by
    rw [← h]
    unfold failR
    rw [hn, hnm, hnc, hsd, hrc]
    rfl)
  have iN := hid (fun W => needs_any 10 (by omega) W)
  have iH := hid (fun W => hasR_any sd k W (by omega))
  have iG := hid (fun W => hasR_any rc k W (by omega))
  have hg1 := m.blk.lt
  have HBK : Hid (w1.heap[w.heap.size]? = some (.cells #[.int .i64 10, .int .i64 (k : Int)] 136 (0, 0))) := hid hB
  clear hb1 hB hs1 t m hF hn hnm hnc hsd hrc hs hr
  by_cases hk : nm ≤ k
  · have z1 : decide ((nm : Int) ≤ (k : Int)) = true := decide_eq_true (by omega)
    have z1' : decide (nm ≤ k) = true := decide_eq_true hk
    have hr0 := hid (HR.out 3 (by simp [hk]))
    clear HR
    unfold insV
    go_enter Tryz.func53, Tryz.ntmps53
    go_wp2_with fail
    go_quiet (fail)
    go_wp2_with fail
    go_ret
    exact ⟨by rw [hr0.out]; rfl, by first | exact below_drewN HB1.out _ | exact below_drewN (below_drewN HB1.out _) _⟩
  have z1 : decide ((nm : Int) ≤ (k : Int)) = false := decide_eq_false (by omega)
  have z1' : decide (nm ≤ k) = false := decide_eq_false hk
  have z2 : decide ((n : Int) < 0) = false := decide_eq_false (by omega)
  by_cases hx : 8 + 0 < n + 1
  · have z3 : decide ((8 : Int) < (n : Int) - 0 + 1) = true := decide_eq_true (by omega)
    have z5 : decide ((8 : Int) < (n : Int) + 1) = true := decide_eq_true (by omega)
    have hr0 := hid (HR.out 14 (by simp [hk, hx]; try omega))
    clear HR
    unfold insV
    go_enter Tryz.func53, Tryz.ntmps53
    go_wp2_with fail
    go_quiet (fail)
    go_wp2_with fail
    go_quiet (fail)
    go_wp2_with fail
    refine (iN.out _).mono ?_
    rintro e w3 ⟨rfl, hb3⟩
    have hb3' : Below w1.heap.size w1 w3 := bel_trans (below_drewS _) hb3
    have y9 : w3.cell? ⟨g, 9, none⟩ = some (.slice am.As n am.cS) := (hb3'.cell (p := ⟨g, 9, none⟩) hg1).trans y9
    have d9 := fun o => cell_alloc y9 o
    have HB3 := hid (bel_trans HB1.out hb3')
    unfold needF
    clear x0 x1 y5 y6 y7 y10 hb3 hb3'
    go_wp2_with fail
    go_quiet (fail)
    go_wp2_with fail
    go_quiet (fail)
    go_wp2_with fail
    go_ret
    exact ⟨by rw [hr0.out]; rfl, by first | exact below_drewN (bel_alloc HB3.out _) _ | exact below_drewN (below_drewN (bel_alloc HB3.out _) _) _⟩
  · have z3 : decide ((8 : Int) < (n : Int) - 0 + 1) = false := decide_eq_false (by omega)
    have z5 : decide ((8 : Int) < (n : Int) + 1) = false := decide_eq_false (by omega)
    have hr0 := hid (HR.out 0 (by simp [hk, hx]; try omega))
    clear HR
    unfold insV
    go_enter Tryz.func53, Tryz.ntmps53
    go_wp2_with fail
    go_quiet (fail)
    go_wp2_with fail
    go_quiet (fail)
    go_wp2_with fail
    refine (iN.out _).mono ?_
    rintro e w3 ⟨rfl, hb3⟩
    have hb3' : Below w1.heap.size w1 w3 := bel_trans (below_drewS _) hb3
    have y9 : w3.cell? ⟨g, 9, none⟩ = some (.slice am.As n am.cS) := (hb3'.cell (p := ⟨g, 9, none⟩) hg1).trans y9
    have d9 := fun o => cell_alloc y9 o
    have HB3 := hid (bel_trans HB1.out hb3')
    unfold needF
    clear x0 x1 y5 y6 y7 y10 hb3 hb3'
    go_wp2_with fail
    go_quiet (fail)
    go_wp2_with fail
    go_quiet (fail)
    go_wp2_with fail
    go_ret
    exact ⟨by rw [hr0.out]; rfl, by first | exact below_drewN (bel_alloc HB3.out _) _ | exact below_drewN (below_drewN (bel_alloc HB3.out _) _) _⟩
set_option maxRecDepth 100000 in
set_option maxHeartbeats 8000000 in
theorem rvFail_11 (t : RvAt w F g i s) (hs : 0 ≤ i.sends ∧ i.sends ≤ 15) (hr : 0 ≤ i.recvs ∧ i.recvs ≤ 15) (hl : s.stack.length ≤ 90) (k : Nat) :
    Calls Tryz.prog 53 #[.pointer (some ⟨g, 0, none⟩), insV 11 (k : Int)] w fun e w' => e = .returned (.int .i64 (failR i s 11 k)) ∧ Below w.heap.size w w' := by
  obtain ⟨w1, hw1, hb1, hB, hs1⟩ := ins_in 11 (k : Int) w
  have x0 : w1.cell? ⟨w.heap.size, 0, none⟩ = some (.int .i64 11) := hB.cellAt rfl
  have x1 : w1.cell? ⟨w.heap.size, 1, none⟩ = some (.int .i64 (k : Int)) := hB.cellAt rfl
  have t1 := t.belowS hb1
  obtain ⟨am, m, hF⟩ := t1
  obtain ⟨n, hn⟩ : ∃ n, s.stack.length = n := ⟨_, rfl⟩
  obtain ⟨nm, hnm⟩ : ∃ nm, s.mem.length = nm := ⟨_, rfl⟩
  obtain ⟨nc, hnc⟩ : ∃ nc, i.code.length = nc := ⟨_, rfl⟩
  obtain ⟨sd, hsd⟩ : ∃ sd : Nat, i.sends = (sd : Int) := ⟨i.sends.toNat, by omega⟩
  obtain ⟨rc, hrc⟩ : ∃ rc : Nat, i.recvs = (rc : Int) := ⟨i.recvs.toNat, by omega⟩
  rw [hn] at hl
  rw [hsd] at hs
  rw [hrc] at hr
  have y5 : w1.cell? ⟨g, 5, none⟩ = some (.int .i64 (sd : Int)) := by rw [← hsd]; exact m.blk.cellAt rfl
  have y6 : w1.cell? ⟨g, 6, none⟩ = some (.int .i64 (rc : Int)) := by rw [← hrc]; exact m.blk.cellAt rfl
  have y7 : w1.cell? ⟨g, 7, none⟩ = some (.slice am.Ac nc am.cc) := by rw [← hnc]; exact m.blk.cellAt rfl
  have y9 : w1.cell? ⟨g, 9, none⟩ = some (.slice am.As n am.cS) := by rw [← hn]; exact m.blk.cellAt rfl
  have y10 : w1.cell? ⟨g, 10, none⟩ = some (.slice am.Am nm am.cM) := by rw [← hnm]; exact m.blk.cellAt rfl
  have HB1 := hid hb1
  have HR : Hid (∀ r, (if (11 : Nat) = 17 then (16 : Int) else if (((11 : Nat) = 10 ∨ (11 : Nat) = 11) ∧ nm ≤ k) ∨ (((11 : Nat) = 12 ∨ (11 : Nat) = 13) ∧ nc ≤ k) then 3 else if ((11 : Nat) = 14 ∧ bitI (sd : Int) k = false) ∨ ((11 : Nat) = 15 ∧ bitI (rc : Int) k = false) then 15 else if n < 1 then 5 else if 8 + 1 < n + 0 then 14 else 0) = r → failR i s 11 k = r) := hid (fun r h => by
    rw [← h]
    unfold failR
    rw [hn, hnm, hnc, hsd, hrc]
    rfl)
  have iN := hid (fun W => needs_any 11 (by omega) W)
  have iH := hid (fun W => hasR_any sd k W (by omega))
  have iG := hid (fun W => hasR_any rc k W (by omega))
  have hg1 := m.blk.lt
  have HBK : Hid (w1.heap[w.heap.size]? = some (.cells #[.int .i64 11, .int .i64 (k : Int)] 136 (0, 0))) := hid hB
  clear hb1 hB hs1 t m hF hn hnm hnc hsd hrc hs hr
  by_cases hk : nm ≤ k
  · have z1 : decide ((nm : Int) ≤ (k : Int)) = true := decide_eq_true (by omega)
    have z1' : decide (nm ≤ k) = true := decide_eq_true hk
    have hr0 := hid (HR.out 3 (by simp [hk]))
    clear HR
    unfold insV
    go_enter Tryz.func53, Tryz.ntmps53
    go_wp2_with fail
    go_quiet (fail)
    go_wp2_with fail
    go_ret
    exact ⟨by rw [hr0.out]; rfl, by first | exact below_drewN HB1.out _ | exact below_drewN (below_drewN HB1.out _) _⟩
  have z1 : decide ((nm : Int) ≤ (k : Int)) = false := decide_eq_false (by omega)
  have z1' : decide (nm ≤ k) = false := decide_eq_false hk
  by_cases hn : n < 1
  · have z2 : decide ((n : Int) < 1) = true := decide_eq_true (by omega)
    have z2' : decide (n < 1) = true := decide_eq_true hn
    have hr0 := hid (HR.out 5 (by simp [hk, hn]))
    clear HR
    unfold insV
    go_enter Tryz.func53, Tryz.ntmps53
    go_wp2_with fail
    go_quiet (fail)
    go_wp2_with fail
    go_quiet (fail)
    go_wp2_with fail
    refine (iN.out _).mono ?_
    rintro e w3 ⟨rfl, hb3⟩
    have hb3' : Below w1.heap.size w1 w3 := bel_trans (below_drewS _) hb3
    have y9 : w3.cell? ⟨g, 9, none⟩ = some (.slice am.As n am.cS) := (hb3'.cell (p := ⟨g, 9, none⟩) hg1).trans y9
    have d9 := fun o => cell_alloc y9 o
    have HB3 := hid (bel_trans HB1.out hb3')
    unfold needF
    clear x0 x1 y5 y6 y7 y10 hb3 hb3'
    go_wp2_with fail
    go_quiet (fail)
    go_wp2_with fail
    go_ret
    exact ⟨by rw [hr0.out]; rfl, by first | exact below_drewN (bel_alloc HB3.out _) _ | exact below_drewN (below_drewN (bel_alloc HB3.out _) _) _⟩
  have z2 : decide ((n : Int) < 1) = false := decide_eq_false (by omega)
  have z2' : decide (n < 1) = false := decide_eq_false hn
  by_cases hx : 8 + 1 < n + 0
  · have z3 : decide ((8 : Int) < (n : Int) - 1 + 0) = true := decide_eq_true (by omega)
    have z4 : decide ((8 : Int) < (n : Int) - 1) = true := decide_eq_true (by omega)
    have hr0 := hid (HR.out 14 (by simp [hk, hn, hx]; try omega))
    clear HR
    unfold insV
    go_enter Tryz.func53, Tryz.ntmps53
    go_wp2_with fail
    go_quiet (fail)
    go_wp2_with fail
    go_quiet (fail)
    go_wp2_with fail
    refine (iN.out _).mono ?_
    rintro e w3 ⟨rfl, hb3⟩
    have hb3' : Below w1.heap.size w1 w3 := bel_trans (below_drewS _) hb3
    have y9 : w3.cell? ⟨g, 9, none⟩ = some (.slice am.As n am.cS) := (hb3'.cell (p := ⟨g, 9, none⟩) hg1).trans y9
    have d9 := fun o => cell_alloc y9 o
    have HB3 := hid (bel_trans HB1.out hb3')
    unfold needF
    clear x0 x1 y5 y6 y7 y10 hb3 hb3'
    go_wp2_with fail
    go_quiet (fail)
    go_wp2_with fail
    go_quiet (fail)
    go_wp2_with fail
    go_ret
    exact ⟨by rw [hr0.out]; rfl, by first | exact below_drewN (bel_alloc HB3.out _) _ | exact below_drewN (below_drewN (bel_alloc HB3.out _) _) _⟩
  · have z3 : decide ((8 : Int) < (n : Int) - 1 + 0) = false := decide_eq_false (by omega)
    have z4 : decide ((8 : Int) < (n : Int) - 1) = false := decide_eq_false (by omega)
    have hr0 := hid (HR.out 0 (by simp [hk, hn, hx]; try omega))
    clear HR
    unfold insV
    go_enter Tryz.func53, Tryz.ntmps53
    go_wp2_with fail
    go_quiet (fail)
    go_wp2_with fail
    go_quiet (fail)
    go_wp2_with fail
    refine (iN.out _).mono ?_
    rintro e w3 ⟨rfl, hb3⟩
    have hb3' : Below w1.heap.size w1 w3 := bel_trans (below_drewS _) hb3
    have y9 : w3.cell? ⟨g, 9, none⟩ = some (.slice am.As n am.cS) := (hb3'.cell (p := ⟨g, 9, none⟩) hg1).trans y9
    have d9 := fun o => cell_alloc y9 o
    have HB3 := hid (bel_trans HB1.out hb3')
    unfold needF
    clear x0 x1 y5 y6 y7 y10 hb3 hb3'
    go_wp2_with fail
    go_quiet (fail)
    go_wp2_with fail
    go_quiet (fail)
    go_wp2_with fail
    go_ret
    exact ⟨by rw [hr0.out]; rfl, by first | exact below_drewN (bel_alloc HB3.out _) _ | exact below_drewN (below_drewN (bel_alloc HB3.out _) _) _⟩
set_option maxRecDepth 100000 in
set_option maxHeartbeats 8000000 in
theorem rvFail_12 (t : RvAt w F g i s) (hs : 0 ≤ i.sends ∧ i.sends ≤ 15) (hr : 0 ≤ i.recvs ∧ i.recvs ≤ 15) (hl : s.stack.length ≤ 90) (k : Nat) :
    Calls Tryz.prog 53 #[.pointer (some ⟨g, 0, none⟩), insV 12 (k : Int)] w fun e w' => e = .returned (.int .i64 (failR i s 12 k)) ∧ Below w.heap.size w w' := by
  obtain ⟨w1, hw1, hb1, hB, hs1⟩ := ins_in 12 (k : Int) w
  have x0 : w1.cell? ⟨w.heap.size, 0, none⟩ = some (.int .i64 12) := hB.cellAt rfl
  have x1 : w1.cell? ⟨w.heap.size, 1, none⟩ = some (.int .i64 (k : Int)) := hB.cellAt rfl
  have t1 := t.belowS hb1
  obtain ⟨am, m, hF⟩ := t1
  obtain ⟨n, hn⟩ : ∃ n, s.stack.length = n := ⟨_, rfl⟩
  obtain ⟨nm, hnm⟩ : ∃ nm, s.mem.length = nm := ⟨_, rfl⟩
  obtain ⟨nc, hnc⟩ : ∃ nc, i.code.length = nc := ⟨_, rfl⟩
  obtain ⟨sd, hsd⟩ : ∃ sd : Nat, i.sends = (sd : Int) := ⟨i.sends.toNat, by omega⟩
  obtain ⟨rc, hrc⟩ : ∃ rc : Nat, i.recvs = (rc : Int) := ⟨i.recvs.toNat, by omega⟩
  rw [hn] at hl
  rw [hsd] at hs
  rw [hrc] at hr
  have y5 : w1.cell? ⟨g, 5, none⟩ = some (.int .i64 (sd : Int)) := by rw [← hsd]; exact m.blk.cellAt rfl
  have y6 : w1.cell? ⟨g, 6, none⟩ = some (.int .i64 (rc : Int)) := by rw [← hrc]; exact m.blk.cellAt rfl
  have y7 : w1.cell? ⟨g, 7, none⟩ = some (.slice am.Ac nc am.cc) := by rw [← hnc]; exact m.blk.cellAt rfl
  have y9 : w1.cell? ⟨g, 9, none⟩ = some (.slice am.As n am.cS) := by rw [← hn]; exact m.blk.cellAt rfl
  have y10 : w1.cell? ⟨g, 10, none⟩ = some (.slice am.Am nm am.cM) := by rw [← hnm]; exact m.blk.cellAt rfl
  have HB1 := hid hb1
  have HR : Hid (∀ r, (if (12 : Nat) = 17 then (16 : Int) else if (((12 : Nat) = 10 ∨ (12 : Nat) = 11) ∧ nm ≤ k) ∨ (((12 : Nat) = 12 ∨ (12 : Nat) = 13) ∧ nc ≤ k) then 3 else if ((12 : Nat) = 14 ∧ bitI (sd : Int) k = false) ∨ ((12 : Nat) = 15 ∧ bitI (rc : Int) k = false) then 15 else if n < 0 then 5 else if 8 + 0 < n + 0 then 14 else 0) = r → failR i s 12 k = r) := hid (fun r h => by
    rw [← h]
    unfold failR
    rw [hn, hnm, hnc, hsd, hrc]
    rfl)
  have iN := hid (fun W => needs_any 12 (by omega) W)
  have iH := hid (fun W => hasR_any sd k W (by omega))
  have iG := hid (fun W => hasR_any rc k W (by omega))
  have hg1 := m.blk.lt
  have HBK : Hid (w1.heap[w.heap.size]? = some (.cells #[.int .i64 12, .int .i64 (k : Int)] 136 (0, 0))) := hid hB
  clear hb1 hB hs1 t m hF hn hnm hnc hsd hrc hs hr
  by_cases hk : nc ≤ k
  · have z1 : decide ((nc : Int) ≤ (k : Int)) = true := decide_eq_true (by omega)
    have z1' : decide (nc ≤ k) = true := decide_eq_true hk
    have hr0 := hid (HR.out 3 (by simp [hk]))
    clear HR
    unfold insV
    go_enter Tryz.func53, Tryz.ntmps53
    go_wp2_with fail
    go_quiet (fail)
    go_wp2_with fail
    go_ret
    exact ⟨by rw [hr0.out]; rfl, by first | exact below_drewN HB1.out _ | exact below_drewN (below_drewN HB1.out _) _⟩
  have z1 : decide ((nc : Int) ≤ (k : Int)) = false := decide_eq_false (by omega)
  have z1' : decide (nc ≤ k) = false := decide_eq_false hk
  have z2 : decide ((n : Int) < 0) = false := decide_eq_false (by omega)
  by_cases hx : 8 + 0 < n + 0
  · have z3 : decide ((8 : Int) < (n : Int) - 0 + 0) = true := decide_eq_true (by omega)
    have z6 : decide ((8 : Int) < (n : Int)) = true := decide_eq_true (by omega)
    have z7 : decide (8 < n) = true := decide_eq_true (by omega)
    have hr0 := hid (HR.out 14 (by simp [hk, hx]; try omega))
    clear HR
    unfold insV
    go_enter Tryz.func53, Tryz.ntmps53
    go_wp2_with fail
    go_quiet (fail)
    go_wp2_with fail
    go_quiet (fail)
    go_wp2_with fail
    refine (iN.out _).mono ?_
    rintro e w3 ⟨rfl, hb3⟩
    have hb3' : Below w1.heap.size w1 w3 := bel_trans (below_drewS _) hb3
    have y9 : w3.cell? ⟨g, 9, none⟩ = some (.slice am.As n am.cS) := (hb3'.cell (p := ⟨g, 9, none⟩) hg1).trans y9
    have d9 := fun o => cell_alloc y9 o
    have HB3 := hid (bel_trans HB1.out hb3')
    unfold needF
    clear x0 x1 y5 y6 y7 y10 hb3 hb3'
    go_wp2_with fail
    go_quiet (fail)
    go_wp2_with fail
    go_quiet (fail)
    go_wp2_with fail
    go_ret
    exact ⟨by rw [hr0.out]; rfl, by first | exact below_drewN (bel_alloc HB3.out _) _ | exact below_drewN (below_drewN (bel_alloc HB3.out _) _) _⟩
  · have z3 : decide ((8 : Int) < (n : Int) - 0 + 0) = false := decide_eq_false (by omega)
    have z6 : decide ((8 : Int) < (n : Int)) = false := decide_eq_false (by omega)
    have z7 : decide (8 < n) = false := decide_eq_false (by omega)
    have hr0 := hid (HR.out 0 (by simp [hk, hx]; try omega))
    clear HR
    unfold insV
    go_enter Tryz.func53, Tryz.ntmps53
    go_wp2_with fail
    go_quiet (fail)
    go_wp2_with fail
    go_quiet (fail)
    go_wp2_with fail
    refine (iN.out _).mono ?_
    rintro e w3 ⟨rfl, hb3⟩
    have hb3' : Below w1.heap.size w1 w3 := bel_trans (below_drewS _) hb3
    have y9 : w3.cell? ⟨g, 9, none⟩ = some (.slice am.As n am.cS) := (hb3'.cell (p := ⟨g, 9, none⟩) hg1).trans y9
    have d9 := fun o => cell_alloc y9 o
    have HB3 := hid (bel_trans HB1.out hb3')
    unfold needF
    clear x0 x1 y5 y6 y7 y10 hb3 hb3'
    go_wp2_with fail
    go_quiet (fail)
    go_wp2_with fail
    go_quiet (fail)
    go_wp2_with fail
    go_ret
    exact ⟨by rw [hr0.out]; rfl, by first | exact below_drewN (bel_alloc HB3.out _) _ | exact below_drewN (below_drewN (bel_alloc HB3.out _) _) _⟩
end
end Go.Proofs.YtidlahljhgglcaaGreat
