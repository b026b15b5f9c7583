/-
  The reference of layer 17: how an instruction fails (more).
-/
import Derived.Test.YtidlahljhgglcaaGreatRvFailA
namespace Go.Proofs.YtidlahljhgglcaaGreat
open Go.RowKit Go.ChangeShapes Go.WideShapes Go.ChangeAt

section
variable {w w' : World} {F : Nat → Prop} {g : Nat} {i : ImgS} {s : VmS}
set_option maxRecDepth 100000 in
set_option maxHeartbeats 8000000 in
theorem rvFail_13 (t : RvAt w F g i s) (hs : 0 ≤ i.sends ∧ i.sends ≤ 15) (hr : 0 ≤ i.recvs ∧ i.recvs ≤ 15) (hl : s.stack.length ≤ 90) (k : Nat) :
    Calls Tryz.prog 53 #[.pointer (some ⟨g, 0, none⟩), insV 13 (k : Int)] w fun e w' => e = .returned (.int .i64 (failR i s 13 k)) ∧ Below w.heap.size w w' := by
  obtain ⟨w1, hw1, hb1, hB, hs1⟩ := ins_in 13 (k : Int) w
  have x0 : w1.cell? ⟨w.heap.size, 0, none⟩ = some (.int .i64 13) := hB.cellAt rfl
  have x1 : w1.cell? ⟨w.heap.size, 1, none⟩ = some (.int .i64 (k : Int)) := hB.cellAt rfl
  have t1 := t.belowS hb1
  obtain ⟨am, m, hF⟩ := t1
  obtain ⟨n, hn⟩ : ∃ n, s.stack.length = n := ⟨_, rfl⟩
  obtain ⟨nm, hnm⟩ : ∃ nm, s.mem.length = nm := ⟨_, rfl⟩
  obtain ⟨nc, hnc⟩ : ∃ nc, i.code.length = nc := ⟨_, rfl⟩
  obtain ⟨sd, hsd⟩ : ∃ sd : Nat, i.sends = (sd : Int) := ⟨i.sends.toNat, by omega⟩
  obtain ⟨rc, hrc⟩ : ∃ rc : Nat, i.recvs = (rc : Int) := ⟨i.recvs.toNat, by omega⟩
  rw [hn] at hl
  rw [hsd] at hs
  rw [hrc] at hr
  have y5 : w1.cell? ⟨g, 5, none⟩ = some (.int .i64 (sd : Int)) := by rw [← hsd]; exact m.blk.cellAt rfl
  have y6 : w1.cell? ⟨g, 6, none⟩ = some (.int .i64 (rc : Int)) := by rw [← hrc]; exact m.blk.cellAt rfl
  have y7 : w1.cell? ⟨g, 7, none⟩ = some (.slice am.Ac nc am.cc) := by rw [← hnc]; exact m.blk.cellAt rfl
  have y9 : w1.cell? ⟨g, 9, none⟩ = some (.slice am.As n am.cS) := by rw [← hn]; exact m.blk.cellAt rfl
  have y10 : w1.cell? ⟨g, 10, none⟩ = some (.slice am.Am nm am.cM) := by rw [← hnm]; exact m.blk.cellAt rfl
  have HB1 := hid hb1
  have HR : Hid (∀ r, (if (13 : Nat) = 17 then (16 : Int) else if (((13 : Nat) = 10 ∨ (13 : Nat) = 11) ∧ nm ≤ k) ∨ (((13 : Nat) = 12 ∨ (13 : Nat) = 13) ∧ nc ≤ k) then 3 else if ((13 : Nat) = 14 ∧ bitI (sd : Int) k = false) ∨ ((13 : Nat) = 15 ∧ bitI (rc : Int) k = false) then 15 else if n < 1 then 5 else if 8 + 1 < n + 0 then 14 else 0) = r → failR i s 13 k = r) := hid (fun r h => by
    rw [← h]
    unfold failR
    rw [hn, hnm, hnc, hsd, hrc]
    rfl)
  have iN := hid (fun W => needs_any 13 (by omega) W)
  have iH := hid (fun W => hasR_any sd k W (by omega))
  have iG := hid (fun W => hasR_any rc k W (by omega))
  have hg1 := m.blk.lt
  have HBK : Hid (w1.heap[w.heap.size]? = some (.cells #[.int .i64 13, .int .i64 (k : Int)] 136 (0, 0))) := hid hB
  clear hb1 hB hs1 t m hF hn hnm hnc hsd hrc hs hr
  by_cases hk : nc ≤ k
  · have z1 : decide ((nc : Int) ≤ (k : Int)) = true := decide_eq_true (by omega)
    have z1' : decide (nc ≤ k) = true := decide_eq_true hk
    have hr0 := hid (HR.out 3 (by simp [hk]))
    clear HR
    unfold insV
    go_enter Tryz.func53, Tryz.ntmps53
    go_wp2_with fail
    go_quiet (fail)
    go_wp2_with fail
    go_ret
    exact ⟨by rw [hr0.out]; rfl, by first | exact below_drewN HB1.out _ | exact below_drewN (below_drewN HB1.out _) _⟩
  have z1 : decide ((nc : Int) ≤ (k : Int)) = false := decide_eq_false (by omega)
  have z1' : decide (nc ≤ k) = false := decide_eq_false hk
  by_cases hn : n < 1
  · have z2 : decide ((n : Int) < 1) = true := decide_eq_true (by omega)
    have z2' : decide (n < 1) = true := decide_eq_true hn
    have hr0 := hid (HR.out 5 (by simp [hk, hn]))
    clear HR
    unfold insV
    go_enter Tryz.func53, Tryz.ntmps53
    go_wp2_with fail
    go_quiet (fail)
    go_wp2_with fail
    go_quiet (fail)
    go_wp2_with fail
    refine (iN.out _).mono ?_
    rintro e w3 ⟨rfl, hb3⟩
    have hb3' : Below w1.heap.size w1 w3 := bel_trans (below_drewS _) hb3
    have y9 : w3.cell? ⟨g, 9, none⟩ = some (.slice am.As n am.cS) := (hb3'.cell (p := ⟨g, 9, none⟩) hg1).trans y9
    have d9 := fun o => cell_alloc y9 o
    have HB3 := hid (bel_trans HB1.out hb3')
    unfold needF
    clear x0 x1 y5 y6 y7 y10 hb3 hb3'
    go_wp2_with fail
    go_quiet (fail)
    go_wp2_with fail
    go_ret
    exact ⟨by rw [hr0.out]; rfl, by first | exact below_drewN (bel_alloc HB3.out _) _ | exact below_drewN (below_drewN (bel_alloc HB3.out _) _) _⟩
  have z2 : decide ((n : Int) < 1) = false := decide_eq_false (by omega)
  have z2' : decide (n < 1) = false := decide_eq_false hn
  by_cases hx : 8 + 1 < n + 0
  · have z3 : decide ((8 : Int) < (n : Int) - 1 + 0) = true := decide_eq_true (by omega)
    have z4 : decide ((8 : Int) < (n : Int) - 1) = true := decide_eq_true (by omega)
    have hr0 := hid (HR.out 14 (by simp [hk, hn, hx]; try omega))
    clear HR
    unfold insV
    go_enter Tryz.func53, Tryz.ntmps53
    go_wp2_with fail
    go_quiet (fail)
    go_wp2_with fail
    go_quiet (fail)
    go_wp2_with fail
    refine (iN.out _).mono ?_
    rintro e w3 ⟨rfl, hb3⟩
    have hb3' : Below w1.heap.size w1 w3 := bel_trans (below_drewS _) hb3
    have y9 : w3.cell? ⟨g, 9, none⟩ = some (.slice am.As n am.cS) := (hb3'.cell (p := ⟨g, 9, none⟩) hg1).trans y9
    have d9 := fun o => cell_alloc y9 o
    have HB3 := hid (bel_trans HB1.out hb3')
    unfold needF
    clear x0 x1 y5 y6 y7 y10 hb3 hb3'
    go_wp2_with fail
    go_quiet (fail)
    go_wp2_with fail
    go_quiet (fail)
    go_wp2_with fail
    go_ret
    exact ⟨by rw [hr0.out]; rfl, by first | exact below_drewN (bel_alloc HB3.out _) _ | exact below_drewN (below_drewN (bel_alloc HB3.out _) _) _⟩
  · have z3 : decide ((8 : Int) < (n : Int) - 1 + 0) = false := decide_eq_false (by omega)
    have z4 : decide ((8 : Int) < (n : Int) - 1) = false := decide_eq_false (by omega)
    have hr0 := hid (HR.out 0 (by simp [hk, hn, hx]; try omega))
    clear HR
    unfold insV
    go_enter Tryz.func53, Tryz.ntmps53
    go_wp2_with fail
    go_quiet (fail)
    go_wp2_with fail
    go_quiet (fail)
    go_wp2_with fail
    refine (iN.out _).mono ?_
    rintro e w3 ⟨rfl, hb3⟩
    have hb3' : Below w1.heap.size w1 w3 := bel_trans (below_drewS _) hb3
    have y9 : w3.cell? ⟨g, 9, none⟩ = some (.slice am.As n am.cS) := (hb3'.cell (p := ⟨g, 9, none⟩) hg1).trans y9
    have d9 := fun o => cell_alloc y9 o
    have HB3 := hid (bel_trans HB1.out hb3')
    unfold needF
    clear x0 x1 y5 y6 y7 y10 hb3 hb3'
    go_wp2_with fail
    go_quiet (fail)
    go_wp2_with fail
    go_quiet (fail)
    go_wp2_with fail
    go_ret
    exact ⟨by rw [hr0.out]; rfl, by first | exact below_drewN (bel_alloc HB3.out _) _ | exact below_drewN (below_drewN (bel_alloc HB3.out _) _) _⟩
set_option maxRecDepth 100000 in
set_option maxHeartbeats 8000000 in
theorem rvFail_14 (t : RvAt w F g i s) (hs : 0 ≤ i.sends ∧ i.sends ≤ 15) (hr : 0 ≤ i.recvs ∧ i.recvs ≤ 15) (hl : s.stack.length ≤ 90) (k : Nat) :
    Calls Tryz.prog 53 #[.pointer (some ⟨g, 0, none⟩), insV 14 (k : Int)] w fun e w' => e = .returned (.int .i64 (failR i s 14 k)) ∧ Below w.heap.size w w' := by
  obtain ⟨w1, hw1, hb1, hB, hs1⟩ := ins_in 14 (k : Int) w
  have x0 : w1.cell? ⟨w.heap.size, 0, none⟩ = some (.int .i64 14) := hB.cellAt rfl
  have x1 : w1.cell? ⟨w.heap.size, 1, none⟩ = some (.int .i64 (k : Int)) := hB.cellAt rfl
  have t1 := t.belowS hb1
  obtain ⟨am, m, hF⟩ := t1
  obtain ⟨n, hn⟩ : ∃ n, s.stack.length = n := ⟨_, rfl⟩
  obtain ⟨nm, hnm⟩ : ∃ nm, s.mem.length = nm := ⟨_, rfl⟩
  obtain ⟨nc, hnc⟩ : ∃ nc, i.code.length = nc := ⟨_, rfl⟩
  obtain ⟨sd, hsd⟩ : ∃ sd : Nat, i.sends = (sd : Int) := ⟨i.sends.toNat, by omega⟩
  obtain ⟨rc, hrc⟩ : ∃ rc : Nat, i.recvs = (rc : Int) := ⟨i.recvs.toNat, by omega⟩
  rw [hn] at hl
  rw [hsd] at hs
  rw [hrc] at hr
  have y5 : w1.cell? ⟨g, 5, none⟩ = some (.int .i64 (sd : Int)) := by rw [← hsd]; exact m.blk.cellAt rfl
  have y6 : w1.cell? ⟨g, 6, none⟩ = some (.int .i64 (rc : Int)) := by rw [← hrc]; exact m.blk.cellAt rfl
  have y7 : w1.cell? ⟨g, 7, none⟩ = some (.slice am.Ac nc am.cc) := by rw [← hnc]; exact m.blk.cellAt rfl
  have y9 : w1.cell? ⟨g, 9, none⟩ = some (.slice am.As n am.cS) := by rw [← hn]; exact m.blk.cellAt rfl
  have y10 : w1.cell? ⟨g, 10, none⟩ = some (.slice am.Am nm am.cM) := by rw [← hnm]; exact m.blk.cellAt rfl
  have HB1 := hid hb1
  have HR : Hid (∀ r, (if (14 : Nat) = 17 then (16 : Int) else if (((14 : Nat) = 10 ∨ (14 : Nat) = 11) ∧ nm ≤ k) ∨ (((14 : Nat) = 12 ∨ (14 : Nat) = 13) ∧ nc ≤ k) then 3 else if ((14 : Nat) = 14 ∧ bitI (sd : Int) k = false) ∨ ((14 : Nat) = 15 ∧ bitI (rc : Int) k = false) then 15 else if n < 1 then 5 else if 8 + 1 < n + 0 then 14 else 0) = r → failR i s 14 k = r) := hid (fun r h => by
    rw [← h]
    unfold failR
    rw [hn, hnm, hnc, hsd, hrc]
    rfl)
  have iN := hid (fun W => needs_any 14 (by omega) W)
  have iH := hid (fun W => hasR_any sd k W (by omega))
  have iG := hid (fun W => hasR_any rc k W (by omega))
  have hg1 := m.blk.lt
  have HBK : Hid (w1.heap[w.heap.size]? = some (.cells #[.int .i64 14, .int .i64 (k : Int)] 136 (0, 0))) := hid hB
  clear hb1 hB hs1 t m hF hn hnm hnc hsd hrc hs hr
  by_cases hk : bitI (sd : Int) (k : Int) = false
  · rw [hk] at iH
    have hr0 := hid (HR.out 15 (by simp [hk]))
    clear HR
    unfold insV
    go_enter Tryz.func53, Tryz.ntmps53
    go_wp2_with fail
    go_quiet (fail)
    go_wp2_with fail
    go_quiet ((go_at_call 82; exact quiet_add_same (iH.out _)))
    go_wp2_with fail
    go_ret
    exact ⟨by rw [hr0.out]; rfl, by first | exact below_drewN HB1.out _ | exact below_drewN (below_drewN HB1.out _) _⟩
  have hk' : bitI (sd : Int) (k : Int) = true := by simpa using hk
  rw [hk'] at iH
  by_cases hn : n < 1
  · have z2 : decide ((n : Int) < 1) = true := decide_eq_true (by omega)
    have z2' : decide (n < 1) = true := decide_eq_true hn
    have hr0 := hid (HR.out 5 (by simp [hk', hn]))
    clear HR
    unfold insV
    go_enter Tryz.func53, Tryz.ntmps53
    go_wp2_with fail
    go_quiet (fail)
    go_wp2_with fail
    go_quiet ((go_at_call 82; exact quiet_add_same (iH.out _)))
    go_wp2_with fail
    refine (iN.out _).mono ?_
    rintro e w3 ⟨rfl, hb3⟩
    have hb3' : Below w1.heap.size w1 w3 := bel_trans (below_drewS _) hb3
    have y9 : w3.cell? ⟨g, 9, none⟩ = some (.slice am.As n am.cS) := (hb3'.cell (p := ⟨g, 9, none⟩) hg1).trans y9
    have d9 := fun o => cell_alloc y9 o
    have HB3 := hid (bel_trans HB1.out hb3')
    unfold needF
    clear x0 x1 y5 y6 y7 y10 hb3 hb3'
    go_wp2_with fail
    go_quiet (fail)
    go_wp2_with fail
    go_ret
    exact ⟨by rw [hr0.out]; rfl, by first | exact below_drewN (bel_alloc HB3.out _) _ | exact below_drewN (below_drewN (bel_alloc HB3.out _) _) _⟩
  have z2 : decide ((n : Int) < 1) = false := decide_eq_false (by omega)
  have z2' : decide (n < 1) = false := decide_eq_false hn
  by_cases hx : 8 + 1 < n + 0
  · have z3 : decide ((8 : Int) < (n : Int) - 1 + 0) = true := decide_eq_true (by omega)
    have z4 : decide ((8 : Int) < (n : Int) - 1) = true := decide_eq_true (by omega)
    have hr0 := hid (HR.out 14 (by simp [hk', hn, hx]; try omega))
    clear HR
    unfold insV
    go_enter Tryz.func53, Tryz.ntmps53
    go_wp2_with fail
    go_quiet (fail)
    go_wp2_with fail
    go_quiet ((go_at_call 82; exact quiet_add_same (iH.out _)))
    go_wp2_with fail
    refine (iN.out _).mono ?_
    rintro e w3 ⟨rfl, hb3⟩
    have hb3' : Below w1.heap.size w1 w3 := bel_trans (below_drewS _) hb3
    have y9 : w3.cell? ⟨g, 9, none⟩ = some (.slice am.As n am.cS) := (hb3'.cell (p := ⟨g, 9, none⟩) hg1).trans y9
    have d9 := fun o => cell_alloc y9 o
    have HB3 := hid (bel_trans HB1.out hb3')
    unfold needF
    clear x0 x1 y5 y6 y7 y10 hb3 hb3'
    go_wp2_with fail
    go_quiet (fail)
    go_wp2_with fail
    go_quiet (fail)
    go_wp2_with fail
    go_ret
    exact ⟨by rw [hr0.out]; rfl, by first | exact below_drewN (bel_alloc HB3.out _) _ | exact below_drewN (below_drewN (bel_alloc HB3.out _) _) _⟩
  · have z3 : decide ((8 : Int) < (n : Int) - 1 + 0) = false := decide_eq_false (by omega)
    have z4 : decide ((8 : Int) < (n : Int) - 1) = false := decide_eq_false (by omega)
    have hr0 := hid (HR.out 0 (by simp [hk', hn, hx]; try omega))
    clear HR
    unfold insV
    go_enter Tryz.func53, Tryz.ntmps53
    go_wp2_with fail
    go_quiet (fail)
    go_wp2_with fail
    go_quiet ((go_at_call 82; exact quiet_add_same (iH.out _)))
    go_wp2_with fail
    refine (iN.out _).mono ?_
    rintro e w3 ⟨rfl, hb3⟩
    have hb3' : Below w1.heap.size w1 w3 := bel_trans (below_drewS _) hb3
    have y9 : w3.cell? ⟨g, 9, none⟩ = some (.slice am.As n am.cS) := (hb3'.cell (p := ⟨g, 9, none⟩) hg1).trans y9
    have d9 := fun o => cell_alloc y9 o
    have HB3 := hid (bel_trans HB1.out hb3')
    unfold needF
    clear x0 x1 y5 y6 y7 y10 hb3 hb3'
    go_wp2_with fail
    go_quiet (fail)
    go_wp2_with fail
    go_quiet (fail)
    go_wp2_with fail
    go_ret
    exact ⟨by rw [hr0.out]; rfl, by first | exact below_drewN (bel_alloc HB3.out _) _ | exact below_drewN (below_drewN (bel_alloc HB3.out _) _) _⟩
set_option maxRecDepth 100000 in
set_option maxHeartbeats 8000000 in
theorem rvFail_15 (t : RvAt w F g i s) (hs : 0 ≤ i.sends ∧ i.sends ≤ 15) (hr : 0 ≤ i.recvs ∧ i.recvs ≤ 15) (hl : s.stack.length ≤ 90) (k : Nat) :
    Calls Tryz.prog 53 #[.pointer (some ⟨g, 0, none⟩), insV 15 (k : Int)] w fun e w' => e = .returned (.int .i64 (failR i s 15 k)) ∧ Below w.heap.size w w' := by
  obtain ⟨w1, hw1, hb1, hB, hs1⟩ := ins_in 15 (k : Int) w
  have x0 : w1.cell? ⟨w.heap.size, 0, none⟩ = some (.int .i64 15) := hB.cellAt rfl
  have x1 : w1.cell? ⟨w.heap.size, 1, none⟩ = some (.int .i64 (k : Int)) := hB.cellAt rfl
  have t1 := t.belowS hb1
  obtain ⟨am, m, hF⟩ := t1
  obtain ⟨n, hn⟩ : ∃ n, s.stack.length = n := ⟨_, rfl⟩
  obtain ⟨nm, hnm⟩ : ∃ nm, s.mem.length = nm := ⟨_, rfl⟩
  obtain ⟨nc, hnc⟩ : ∃ nc, i.code.length = nc := ⟨_, rfl⟩
  obtain ⟨sd, hsd⟩ : ∃ sd : Nat, i.sends = (sd : Int) := ⟨i.sends.toNat, by omega⟩
  obtain ⟨rc, hrc⟩ : ∃ rc : Nat, i.recvs = (rc : Int) := ⟨i.recvs.toNat, by omega⟩
  rw [hn] at hl
  rw [hsd] at hs
  rw [hrc] at hr
  have y5 : w1.cell? ⟨g, 5, none⟩ = some (.int .i64 (sd : Int)) := by rw [← hsd]; exact m.blk.cellAt rfl
  have y6 : w1.cell? ⟨g, 6, none⟩ = some (.int .i64 (rc : Int)) := by rw [← hrc]; exact m.blk.cellAt rfl
  have y7 : w1.cell? ⟨g, 7, none⟩ = some (.slice am.Ac nc am.cc) := by rw [← hnc]; exact m.blk.cellAt rfl
  have y9 : w1.cell? ⟨g, 9, none⟩ = some (.slice am.As n am.cS) := by rw [← hn]; exact m.blk.cellAt rfl
  have y10 : w1.cell? ⟨g, 10, none⟩ = some (.slice am.Am nm am.cM) := by rw [← hnm]; exact m.blk.cellAt rfl
  have HB1 := hid hb1
  have HR : Hid (∀ r, (if (15 : Nat) = 17 then (16 : Int) else if (((15 : Nat) = 10 ∨ (15 : Nat) = 11) ∧ nm ≤ k) ∨ (((15 : Nat) = 12 ∨ (15 : Nat) = 13) ∧ nc ≤ k) then 3 else if ((15 : Nat) = 14 ∧ bitI (sd : Int) k = false) ∨ ((15 : Nat) = 15 ∧ bitI (rc : Int) k = false) then 15 else if n < 0 then 5 else if 8 + 0 < n + 2 then 14 else 0) = r → failR i s 15 k = r) := hid (fun r h => by
    rw [← h]
    unfold failR
    rw [hn, hnm, hnc, hsd, hrc]
    rfl)
  have iN := hid (fun W => needs_any 15 (by omega) W)
  have iH := hid (fun W => hasR_any sd k W (by omega))
  have iG := hid (fun W => hasR_any rc k W (by omega))
  have hg1 := m.blk.lt
  have HBK : Hid (w1.heap[w.heap.size]? = some (.cells #[.int .i64 15, .int .i64 (k : Int)] 136 (0, 0))) := hid hB
  clear hb1 hB hs1 t m hF hn hnm hnc hsd hrc hs hr
  by_cases hk : bitI (rc : Int) (k : Int) = false
  · rw [hk] at iG
    have hr0 := hid (HR.out 15 (by simp [hk]))
    clear HR
    unfold insV
    go_enter Tryz.func53, Tryz.ntmps53
    go_wp2_with fail
    go_quiet (fail)
    go_wp2_with fail
    go_quiet ((go_at_call 82; exact quiet_add_same (iG.out _)))
    go_wp2_with fail
    go_ret
    exact ⟨by rw [hr0.out]; rfl, by first | exact below_drewN HB1.out _ | exact below_drewN (below_drewN HB1.out _) _⟩
  have hk' : bitI (rc : Int) (k : Int) = true := by simpa using hk
  rw [hk'] at iG
  have z2 : decide ((n : Int) < 0) = false := decide_eq_false (by omega)
  by_cases hx : 8 + 0 < n + 2
  · have z3 : decide ((8 : Int) < (n : Int) - 0 + 2) = true := decide_eq_true (by omega)
    have z5 : decide ((8 : Int) < (n : Int) + 2) = true := decide_eq_true (by omega)
    have hr0 := hid (HR.out 14 (by simp [hk', hx]; try omega))
    clear HR
    unfold insV
    go_enter Tryz.func53, Tryz.ntmps53
    go_wp2_with fail
    go_quiet (fail)
    go_wp2_with fail
    go_quiet ((go_at_call 82; exact quiet_add_same (iG.out _)))
    go_wp2_with fail
    refine (iN.out _).mono ?_
    rintro e w3 ⟨rfl, hb3⟩
    have hb3' : Below w1.heap.size w1 w3 := bel_trans (below_drewS _) hb3
    have y9 : w3.cell? ⟨g, 9, none⟩ = some (.slice am.As n am.cS) := (hb3'.cell (p := ⟨g, 9, none⟩) hg1).trans y9
    have d9 := fun o => cell_alloc y9 o
    have HB3 := hid (bel_trans HB1.out hb3')
    unfold needF
    clear x0 x1 y5 y6 y7 y10 hb3 hb3'
    go_wp2_with fail
    go_quiet (fail)
    go_wp2_with fail
    go_quiet (fail)
    go_wp2_with fail
    go_ret
    exact ⟨by rw [hr0.out]; rfl, by first | exact below_drewN (bel_alloc HB3.out _) _ | exact below_drewN (below_drewN (bel_alloc HB3.out _) _) _⟩
  · have z3 : decide ((8 : Int) < (n : Int) - 0 + 2) = false := decide_eq_false (by omega)
    have z5 : decide ((8 : Int) < (n : Int) + 2) = false := decide_eq_false (by omega)
    have hr0 := hid (HR.out 0 (by simp [hk', hx]; try omega))
    clear HR
    unfold insV
    go_enter Tryz.func53, Tryz.ntmps53
    go_wp2_with fail
    go_quiet (fail)
    go_wp2_with fail
    go_quiet ((go_at_call 82; exact quiet_add_same (iG.out _)))
    go_wp2_with fail
    refine (iN.out _).mono ?_
    rintro e w3 ⟨rfl, hb3⟩
    have hb3' : Below w1.heap.size w1 w3 := bel_trans (below_drewS _) hb3
    have y9 : w3.cell? ⟨g, 9, none⟩ = some (.slice am.As n am.cS) := (hb3'.cell (p := ⟨g, 9, none⟩) hg1).trans y9
    have d9 := fun o => cell_alloc y9 o
    have HB3 := hid (bel_trans HB1.out hb3')
    unfold needF
    clear x0 x1 y5 y6 y7 y10 hb3 hb3'
    go_wp2_with fail
    go_quiet (fail)
    go_wp2_with fail
    go_quiet (fail)
    go_wp2_with fail
    go_ret
    exact ⟨by rw [hr0.out]; rfl, by first | exact below_drewN (bel_alloc HB3.out _) _ | exact below_drewN (below_drewN (bel_alloc HB3.out _) _) _⟩
set_option maxRecDepth 100000 in
set_option maxHeartbeats 8000000 in
theorem rvFail_16 (t : RvAt w F g i s) (hs : 0 ≤ i.sends ∧ i.sends ≤ 15) (hr : 0 ≤ i.recvs ∧ i.recvs ≤ 15) (hl : s.stack.length ≤ 90) (k : Nat) :
    Calls Tryz.prog 53 #[.pointer (some ⟨g, 0, none⟩), insV 16 (k : Int)] w fun e w' => e = .returned (.int .i64 (failR i s 16 k)) ∧ Below w.heap.size w w' := by
  obtain ⟨w1, hw1, hb1, hB, hs1⟩ := ins_in 16 (k : Int) w
  have x0 : w1.cell? ⟨w.heap.size, 0, none⟩ = some (.int .i64 16) := hB.cellAt rfl
  have x1 : w1.cell? ⟨w.heap.size, 1, none⟩ = some (.int .i64 (k : Int)) := hB.cellAt rfl
  have t1 := t.belowS hb1
  obtain ⟨am, m, hF⟩ := t1
  obtain ⟨n, hn⟩ : ∃ n, s.stack.length = n := ⟨_, rfl⟩
  obtain ⟨nm, hnm⟩ : ∃ nm, s.mem.length = nm := ⟨_, rfl⟩
  obtain ⟨nc, hnc⟩ : ∃ nc, i.code.length = nc := ⟨_, rfl⟩
  obtain ⟨sd, hsd⟩ : ∃ sd : Nat, i.sends = (sd : Int) := ⟨i.sends.toNat, by omega⟩
  obtain ⟨rc, hrc⟩ : ∃ rc : Nat, i.recvs = (rc : Int) := ⟨i.recvs.toNat, by omega⟩
  rw [hn] at hl
  rw [hsd] at hs
  rw [hrc] at hr
  have y5 : w1.cell? ⟨g, 5, none⟩ = some (.int .i64 (sd : Int)) := by rw [← hsd]; exact m.blk.cellAt rfl
  have y6 : w1.cell? ⟨g, 6, none⟩ = some (.int .i64 (rc : Int)) := by rw [← hrc]; exact m.blk.cellAt rfl
  have y7 : w1.cell? ⟨g, 7, none⟩ = some (.slice am.Ac nc am.cc) := by rw [← hnc]; exact m.blk.cellAt rfl
  have y9 : w1.cell? ⟨g, 9, none⟩ = some (.slice am.As n am.cS) := by rw [← hn]; exact m.blk.cellAt rfl
  have y10 : w1.cell? ⟨g, 10, none⟩ = some (.slice am.Am nm am.cM) := by rw [← hnm]; exact m.blk.cellAt rfl
  have HB1 := hid hb1
  have HR : Hid (∀ r, (if (16 : Nat) = 17 then (16 : Int) else if (((16 : Nat) = 10 ∨ (16 : Nat) = 11) ∧ nm ≤ k) ∨ (((16 : Nat) = 12 ∨ (16 : Nat) = 13) ∧ nc ≤ k) then 3 else if ((16 : Nat) = 14 ∧ bitI (sd : Int) k = false) ∨ ((16 : Nat) = 15 ∧ bitI (rc : Int) k = false) then 15 else if n < 0 then 5 else if 8 + 0 < n + 0 then 14 else 0) = r → failR i s 16 k = r) := hid (fun r h => by
    rw [← h]
    unfold failR
    rw [hn, hnm, hnc, hsd, hrc]
    rfl)
  have iN := hid (fun W => needs_any 16 (by omega) W)
  have iH := hid (fun W => hasR_any sd k W (by omega))
  have iG := hid (fun W => hasR_any rc k W (by omega))
  have hg1 := m.blk.lt
  have HBK : Hid (w1.heap[w.heap.size]? = some (.cells #[.int .i64 16, .int .i64 (k : Int)] 136 (0, 0))) := hid hB
  clear hb1 hB hs1 t m hF hn hnm hnc hsd hrc hs hr
  have z2 : decide ((n : Int) < 0) = false := decide_eq_false (by omega)
  by_cases hx : 8 + 0 < n + 0
  · have z3 : decide ((8 : Int) < (n : Int) - 0 + 0) = true := decide_eq_true (by omega)
    have z6 : decide ((8 : Int) < (n : Int)) = true := decide_eq_true (by omega)
    have z7 : decide (8 < n) = true := decide_eq_true (by omega)
    have hr0 := hid (HR.out 14 (by simp [hx]; try omega))
    clear HR
    unfold insV
    go_enter Tryz.func53, Tryz.ntmps53
    go_wp2_with fail
    go_quiet (fail)
    go_wp2_with fail
    go_quiet (fail)
    go_wp2_with fail
    refine (iN.out _).mono ?_
    rintro e w3 ⟨rfl, hb3⟩
    have hb3' : Below w1.heap.size w1 w3 := bel_trans (below_drewS _) hb3
    have y9 : w3.cell? ⟨g, 9, none⟩ = some (.slice am.As n am.cS) := (hb3'.cell (p := ⟨g, 9, none⟩) hg1).trans y9
    have d9 := fun o => cell_alloc y9 o
    have HB3 := hid (bel_trans HB1.out hb3')
    unfold needF
    clear x0 x1 y5 y6 y7 y10 hb3 hb3'
    go_wp2_with fail
    go_quiet (fail)
    go_wp2_with fail
    go_quiet (fail)
    go_wp2_with fail
    go_ret
    exact ⟨by rw [hr0.out]; rfl, by first | exact below_drewN (bel_alloc HB3.out _) _ | exact below_drewN (below_drewN (bel_alloc HB3.out _) _) _⟩
  · have z3 : decide ((8 : Int) < (n : Int) - 0 + 0) = false := decide_eq_false (by omega)
    have z6 : decide ((8 : Int) < (n : Int)) = false := decide_eq_false (by omega)
    have z7 : decide (8 < n) = false := decide_eq_false (by omega)
    have hr0 := hid (HR.out 0 (by simp [hx]; try omega))
    clear HR
    unfold insV
    go_enter Tryz.func53, Tryz.ntmps53
    go_wp2_with fail
    go_quiet (fail)
    go_wp2_with fail
    go_quiet (fail)
    go_wp2_with fail
    refine (iN.out _).mono ?_
    rintro e w3 ⟨rfl, hb3⟩
    have hb3' : Below w1.heap.size w1 w3 := bel_trans (below_drewS _) hb3
    have y9 : w3.cell? ⟨g, 9, none⟩ = some (.slice am.As n am.cS) := (hb3'.cell (p := ⟨g, 9, none⟩) hg1).trans y9
    have d9 := fun o => cell_alloc y9 o
    have HB3 := hid (bel_trans HB1.out hb3')
    unfold needF
    clear x0 x1 y5 y6 y7 y10 hb3 hb3'
    go_wp2_with fail
    go_quiet (fail)
    go_wp2_with fail
    go_quiet (fail)
    go_wp2_with fail
    go_ret
    exact ⟨by rw [hr0.out]; rfl, by first | exact below_drewN (bel_alloc HB3.out _) _ | exact below_drewN (below_drewN (bel_alloc HB3.out _) _) _⟩
set_option maxRecDepth 100000 in
set_option maxHeartbeats 8000000 in
theorem rvFail_17 (t : RvAt w F g i s) (hs : 0 ≤ i.sends ∧ i.sends ≤ 15) (hr : 0 ≤ i.recvs ∧ i.recvs ≤ 15) (hl : s.stack.length ≤ 90) (k : Nat) :
    Calls Tryz.prog 53 #[.pointer (some ⟨g, 0, none⟩), insV 17 (k : Int)] w fun e w' => e = .returned (.int .i64 (failR i s 17 k)) ∧ Below w.heap.size w w' := by
  obtain ⟨w1, hw1, hb1, hB, hs1⟩ := ins_in 17 (k : Int) w
  have x0 : w1.cell? ⟨w.heap.size, 0, none⟩ = some (.int .i64 17) := hB.cellAt rfl
  have x1 : w1.cell? ⟨w.heap.size, 1, none⟩ = some (.int .i64 (k : Int)) := hB.cellAt rfl
  have t1 := t.belowS hb1
  obtain ⟨am, m, hF⟩ := t1
  obtain ⟨n, hn⟩ : ∃ n, s.stack.length = n := ⟨_, rfl⟩
  obtain ⟨nm, hnm⟩ : ∃ nm, s.mem.length = nm := ⟨_, rfl⟩
  obtain ⟨nc, hnc⟩ : ∃ nc, i.code.length = nc := ⟨_, rfl⟩
  obtain ⟨sd, hsd⟩ : ∃ sd : Nat, i.sends = (sd : Int) := ⟨i.sends.toNat, by omega⟩
  obtain ⟨rc, hrc⟩ : ∃ rc : Nat, i.recvs = (rc : Int) := ⟨i.recvs.toNat, by omega⟩
  rw [hn] at hl
  rw [hsd] at hs
  rw [hrc] at hr
  have y5 : w1.cell? ⟨g, 5, none⟩ = some (.int .i64 (sd : Int)) := by rw [← hsd]; exact m.blk.cellAt rfl
  have y6 : w1.cell? ⟨g, 6, none⟩ = some (.int .i64 (rc : Int)) := by rw [← hrc]; exact m.blk.cellAt rfl
  have y7 : w1.cell? ⟨g, 7, none⟩ = some (.slice am.Ac nc am.cc) := by rw [← hnc]; exact m.blk.cellAt rfl
  have y9 : w1.cell? ⟨g, 9, none⟩ = some (.slice am.As n am.cS) := by rw [← hn]; exact m.blk.cellAt rfl
  have y10 : w1.cell? ⟨g, 10, none⟩ = some (.slice am.Am nm am.cM) := by rw [← hnm]; exact m.blk.cellAt rfl
  have HB1 := hid hb1
  have HR : Hid (∀ r, (if (17 : Nat) = 17 then (16 : Int) else if (((17 : Nat) = 10 ∨ (17 : Nat) = 11) ∧ nm ≤ k) ∨ (((17 : Nat) = 12 ∨ (17 : Nat) = 13) ∧ nc ≤ k) then 3 else if ((17 : Nat) = 14 ∧ bitI (sd : Int) k = false) ∨ ((17 : Nat) = 15 ∧ bitI (rc : Int) k = false) then 15 else if n < 0 then 5 else if 8 + 0 < n + 0 then 14 else 0) = r → failR i s 17 k = r) := hid (fun r h => by
    rw [← h]
    unfold failR
    rw [hn, hnm, hnc, hsd, hrc]
    rfl)
  have iN := hid (fun W => needs_any 17 (by omega) W)
  have iH := hid (fun W => hasR_any sd k W (by omega))
  have iG := hid (fun W => hasR_any rc k W (by omega))
  have hg1 := m.blk.lt
  have HBK : Hid (w1.heap[w.heap.size]? = some (.cells #[.int .i64 17, .int .i64 (k : Int)] 136 (0, 0))) := hid hB
  clear hb1 hB hs1 t m hF hn hnm hnc hsd hrc hs hr
  have hr0 := hid (HR.out 16 (by rfl))
  clear HR
  unfold insV
  go_enter Tryz.func53, Tryz.ntmps53
  go_wp2_with fail
  go_ret
  exact ⟨by rw [hr0.out]; rfl, HB1.out⟩
set_option maxRecDepth 100000 in
set_option maxHeartbeats 8000000 in
theorem rvFail_18 (t : RvAt w F g i s) (hs : 0 ≤ i.sends ∧ i.sends ≤ 15) (hr : 0 ≤ i.recvs ∧ i.recvs ≤ 15) (hl : s.stack.length ≤ 90) (k : Nat) :
    Calls Tryz.prog 53 #[.pointer (some ⟨g, 0, none⟩), insV 18 (k : Int)] w fun e w' => e = .returned (.int .i64 (failR i s 18 k)) ∧ Below w.heap.size w w' := by
  obtain ⟨w1, hw1, hb1, hB, hs1⟩ := ins_in 18 (k : Int) w
  have x0 : w1.cell? ⟨w.heap.size, 0, none⟩ = some (.int .i64 18) := hB.cellAt rfl
  have x1 : w1.cell? ⟨w.heap.size, 1, none⟩ = some (.int .i64 (k : Int)) := hB.cellAt rfl
  have t1 := t.belowS hb1
  obtain ⟨am, m, hF⟩ := t1
  obtain ⟨n, hn⟩ : ∃ n, s.stack.length = n := ⟨_, rfl⟩
  obtain ⟨nm, hnm⟩ : ∃ nm, s.mem.length = nm := ⟨_, rfl⟩
  obtain ⟨nc, hnc⟩ : ∃ nc, i.code.length = nc := ⟨_, rfl⟩
  obtain ⟨sd, hsd⟩ : ∃ sd : Nat, i.sends = (sd : Int) := ⟨i.sends.toNat, by omega⟩
  obtain ⟨rc, hrc⟩ : ∃ rc : Nat, i.recvs = (rc : Int) := ⟨i.recvs.toNat, by omega⟩
  rw [hn] at hl
  rw [hsd] at hs
  rw [hrc] at hr
  have y5 : w1.cell? ⟨g, 5, none⟩ = some (.int .i64 (sd : Int)) := by rw [← hsd]; exact m.blk.cellAt rfl
  have y6 : w1.cell? ⟨g, 6, none⟩ = some (.int .i64 (rc : Int)) := by rw [← hrc]; exact m.blk.cellAt rfl
  have y7 : w1.cell? ⟨g, 7, none⟩ = some (.slice am.Ac nc am.cc) := by rw [← hnc]; exact m.blk.cellAt rfl
  have y9 : w1.cell? ⟨g, 9, none⟩ = some (.slice am.As n am.cS) := by rw [← hn]; exact m.blk.cellAt rfl
  have y10 : w1.cell? ⟨g, 10, none⟩ = some (.slice am.Am nm am.cM) := by rw [← hnm]; exact m.blk.cellAt rfl
  have HB1 := hid hb1
  have HR : Hid (∀ r, (if (18 : Nat) = 17 then (16 : Int) else if (((18 : Nat) = 10 ∨ (18 : Nat) = 11) ∧ nm ≤ k) ∨ (((18 : Nat) = 12 ∨ (18 : Nat) = 13) ∧ nc ≤ k) then 3 else if ((18 : Nat) = 14 ∧ bitI (sd : Int) k = false) ∨ ((18 : Nat) = 15 ∧ bitI (rc : Int) k = false) then 15 else if n < 0 then 5 else if 8 + 0 < n + 1 then 14 else 0) = r → failR i s 18 k = r) := hid (fun r h => by
    rw [← h]
    unfold failR
    rw [hn, hnm, hnc, hsd, hrc]
    rfl)
  have iN := hid (fun W => needs_any 18 (by omega) W)
  have iH := hid (fun W => hasR_any sd k W (by omega))
  have iG := hid (fun W => hasR_any rc k W (by omega))
  have hg1 := m.blk.lt
  have HBK : Hid (w1.heap[w.heap.size]? = some (.cells #[.int .i64 18, .int .i64 (k : Int)] 136 (0, 0))) := hid hB
  clear hb1 hB hs1 t m hF hn hnm hnc hsd hrc hs hr
  have z2 : decide ((n : Int) < 0) = false := decide_eq_false (by omega)
  by_cases hx : 8 + 0 < n + 1
  · have z3 : decide ((8 : Int) < (n : Int) - 0 + 1) = true := decide_eq_true (by omega)
    have z5 : decide ((8 : Int) < (n : Int) + 1) = true := decide_eq_true (by omega)
    have hr0 := hid (HR.out 14 (by simp [hx]; try omega))
    clear HR
    unfold insV
    go_enter Tryz.func53, Tryz.ntmps53
    go_wp2_with fail
    go_quiet (fail)
    go_wp2_with fail
    go_quiet (fail)
    go_wp2_with fail
    refine (iN.out _).mono ?_
    rintro e w3 ⟨rfl, hb3⟩
    have hb3' : Below w1.heap.size w1 w3 := bel_trans (below_drewS _) hb3
    have y9 : w3.cell? ⟨g, 9, none⟩ = some (.slice am.As n am.cS) := (hb3'.cell (p := ⟨g, 9, none⟩) hg1).trans y9
    have d9 := fun o => cell_alloc y9 o
    have HB3 := hid (bel_trans HB1.out hb3')
    unfold needF
    clear x0 x1 y5 y6 y7 y10 hb3 hb3'
    go_wp2_with fail
    go_quiet (fail)
    go_wp2_with fail
    go_quiet (fail)
    go_wp2_with fail
    go_ret
    exact ⟨by rw [hr0.out]; rfl, by first | exact below_drewN (bel_alloc HB3.out _) _ | exact below_drewN (below_drewN (bel_alloc HB3.out _) _) _⟩
  · have z3 : decide ((8 : Int) < (n : Int) - 0 + 1) = false := decide_eq_false (by omega)
    have z5 : decide ((8 : Int) < (n : Int) + 1) = false := decide_eq_false (by omega)
    have hr0 := hid (HR.out 0 (by simp [hx]; try omega))
    clear HR
    unfold insV
    go_enter Tryz.func53, Tryz.ntmps53
    go_wp2_with fail
    go_quiet (fail)
    go_wp2_with fail
    go_quiet (fail)
    go_wp2_with fail
    refine (iN.out _).mono ?_
    rintro e w3 ⟨rfl, hb3⟩
    have hb3' : Below w1.heap.size w1 w3 := bel_trans (below_drewS _) hb3
    have y9 : w3.cell? ⟨g, 9, none⟩ = some (.slice am.As n am.cS) := (hb3'.cell (p := ⟨g, 9, none⟩) hg1).trans y9
    have d9 := fun o => cell_alloc y9 o
    have HB3 := hid (bel_trans HB1.out hb3')
    unfold needF
    clear x0 x1 y5 y6 y7 y10 hb3 hb3'
    go_wp2_with fail
    go_quiet (fail)
    go_wp2_with fail
    go_quiet (fail)
    go_wp2_with fail
    go_ret
    exact ⟨by rw [hr0.out]; rfl, by first | exact below_drewN (bel_alloc HB3.out _) _ | exact below_drewN (below_drewN (bel_alloc HB3.out _) _) _⟩
end
end Go.Proofs.YtidlahljhgglcaaGreat
