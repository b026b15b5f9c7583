/-
  Law 08: any message is right, and has the bytes, as the document says; what is put is got (PduPuts).
-/
import Derived.Test.YthipfopmaegpdaaRefRight2
import Derived.Test.YthipfopmaegpdaaRefGet
import Derived.Test.YthipfopmaegpdaaPduWakes
import Derived.Test.YthipfopmaegpdaaOpenPdu
namespace Go.Proofs.Ythipfopmaegpdaa
open Go.RowKit Go.ChangeShapes Go.WideShapes Go.ChangeAt

def asksB (k : Int) : Bool := decide (1 ≤ k) && decide (k ≤ 5)
theorem asks8_any (p : PduS) (A : Option Addr) (c : Nat) (w : World) :
    Calls Try.prog 36 #[.agg #[.int .i64 p.kind, .int .i64 p.ses, .int .i64 p.part, .int .i64 p.no, .int .i64 p.size, .int .i64 p.what, .int .i64 p.code, .int .i64 p.hav, .slice A p.data.length c]] w fun e w' => e = .returned (.bool (asksB p.kind)) ∧ Below w.heap.size w w' := by
  obtain ⟨w1, hw1, hb1, hblk1, hs1⟩ := pdu_in p A c w
  obtain ⟨c0, c1, c2, c3, c4, c5, c6, c7, c8⟩ := pdu_cells hblk1
  have HA := hid (rfl : asksB p.kind = (decide (1 ≤ p.kind) && decide (p.kind ≤ 5)))
  go_enter Try.func36, Try.ntmps36
  by_cases a1 : 1 ≤ p.kind
  · have y1 : decide (1 ≤ p.kind) = true := decide_eq_true a1
    by_cases a5 : p.kind ≤ 5
    · have y2 : decide (p.kind ≤ 5) = true := decide_eq_true a5
      have hr : Hid (asksB p.kind = true) := hid (by unfold asksB; rw [y1, y2]; rfl)
      clear a1 a5 HA
      go_wp2_with fail
      go_ret
      exact ⟨by rw [hr.out]; rfl, hb1⟩
    · have y2 : decide (p.kind ≤ 5) = false := decide_eq_false a5
      have hr : Hid (asksB p.kind = false) := hid (by unfold asksB; rw [y1, y2]; rfl)
      clear a1 a5 HA
      go_wp2_with fail
      go_ret
      exact ⟨by rw [hr.out]; rfl, hb1⟩
  · have y1 : decide (1 ≤ p.kind) = false := decide_eq_false a1
    have hr : Hid (asksB p.kind = false) := hid (by unfold asksB; rw [y1]; rfl)
    clear a1 HA
    go_wp2_with fail
    go_ret
    exact ⟨by rw [hr.out]; rfl, hb1⟩

set_option maxRecDepth 100000 in
set_option maxHeartbeats 16000000 in
theorem puts_any (w : World) (p : PduS) (A : Option Addr) (c : Nat) (hr : Reads w w.heap.size 1 A p.data.length (p.data.map bV)) :
    Calls Try.prog 13 #[.agg #[.int .i64 p.kind, .int .i64 p.ses, .int .i64 p.part, .int .i64 p.no, .int .i64 p.size, .int .i64 p.what, .int .i64 p.code, .int .i64 p.hav, .slice A p.data.length c]] w fun e w' => e = .returned (.bool true) ∧ Below w.heap.size w w' := by
  obtain ⟨w1, hw1, hb1, hblk1, hs1⟩ := pdu_in p A c w
  have HRD : Hid (∀ w', Below w.heap.size w w' → Reads w' w'.heap.size 1 A p.data.length (p.data.map bV)) := hid (fun w' hb => hr.belowS hb)
  clear hr
  go_enter Try.func13, Try.ntmps13
  go_wp2_with fail
  clear hw1 hs1
  refine (pduWakes_any _).mono ?_
  rintro e w2 ⟨rfl, hb2⟩
  have hblk2 := hblk1.belowS hb2
  have hb02 := bel_trans hb1 hb2
  obtain ⟨c0, c1, c2, c3, c4, c5, c6, c7, c8⟩ := pdu_cells hblk2
  clear hblk1 hb1 hb2
  by_cases h300 : 300 < p.data.length
  · have g1 : decide ((300 : Int) < (p.data.length : Int)) = true := decide_eq_true (by omega)
    clear h300
    go_wp2_with fail
    go_ret
    exact ⟨rfl, hb02⟩
  have g1 : decide ((300 : Int) < (p.data.length : Int)) = false := decide_eq_false (by omega)
  have hdl : p.data.length ≤ 300 := by omega
  clear h300
  have JA := hid (fun w' => asks8_any p A c w')
  have JR := hid (fun w' hb => refRightP_any p A c w' (HRD.out w' hb) (by omega))
  have JP := hid (fun w' => right_any p A c w')
  have HASK : Hid (asksB p.kind = (decide (1 ≤ p.kind) && decide (p.kind ≤ 5))) := hid rfl
  by_cases hR : rightP p = true
  · have j := hid (Put_ok p A c w2 hR (HRD.out _ hb02))
    have hk1 := (kind_of hR).1
    have hGB := hid (getP_back hR)
    have hHB := hid (head_right hR)
    have hPB : Hid (pduB p = bodyP p ++ sumB (bodyP p)) := hid rfl
    have hN2 : (pduB p).length ≤ 100 := by
      rw [pduB_len]
      have h1 := rightP_data hR
      have h2 := fldB_take p (fieldsK p.kind) (fieldsK_len _)
      omega
    rw [hR] at JR JP
    generalize pduB p = PB at *
    obtain ⟨N, hNN⟩ : ∃ N, PB.length = N := ⟨_, rfl⟩
    rw [hNN] at j hN2
    have HNN := hid hNN
    have y1 : decide (1 ≤ p.kind) = true := decide_eq_true hk1
    clear hR hNN
    go_wp2_with fail
    refine j.out.mono ?_
    rintro e w3 ⟨A3, d3, rfl, hown3, hb3⟩
    have hb03 := bel_trans hb02 hb3
    have hcap3 := own_cap hown3
    have HR3 : Hid (∀ w', Below w3.heap.size w3 w' → Reads w' w'.heap.size 1 A3 N (PB.map bV)) := hid (fun w' hb => (Reads.of_own hown3).belowS hb)
    have hblk3 := hblk2.belowS hb3
    have HA3 : Hid (∀ w', Below w3.heap.size w3 w' → w'.cell? ⟨w.heap.size, 0, none⟩ = some (.int .i64 p.kind) ∧ w'.cell? ⟨w.heap.size, 1, none⟩ = some (.int .i64 p.ses) ∧ w'.cell? ⟨w.heap.size, 2, none⟩ = some (.int .i64 p.part) ∧ w'.cell? ⟨w.heap.size, 3, none⟩ = some (.int .i64 p.no) ∧ w'.cell? ⟨w.heap.size, 4, none⟩ = some (.int .i64 p.size) ∧ w'.cell? ⟨w.heap.size, 5, none⟩ = some (.int .i64 p.what) ∧ w'.cell? ⟨w.heap.size, 6, none⟩ = some (.int .i64 p.code) ∧ w'.cell? ⟨w.heap.size, 7, none⟩ = some (.int .i64 p.hav) ∧ w'.cell? ⟨w.heap.size, 8, none⟩ = some (.slice A p.data.length c)) := hid (fun w' hb => pdu_cells (hblk3.belowS hb))
    clear c0 c1 c2 c3 c4 c5 c6 c7 c8 hblk2 hb02 j hown3 hb3 g1
    obtain ⟨c0, c1, c2, c3, c4, c5, c6, c7, c8⟩ := pdu_cells hblk3
    have hyy : ∃ b5, decide (p.kind ≤ 5) = b5 := ⟨_, rfl⟩
    obtain ⟨b5, y2⟩ := hyy
    rw [HASK.out, y1, y2, Bool.true_and] at JA
    clear HASK hk1
    cases b5
    all_goals (
      go_wp2_with fail
      go_region_held3 (fun w' => w'.cell? ⟨w.heap.size, 0, none⟩ = some (.int .i64 p.kind) ∧ w'.cell? ⟨w.heap.size, 1, none⟩ = some (.int .i64 p.ses) ∧ w'.cell? ⟨w.heap.size, 2, none⟩ = some (.int .i64 p.part) ∧ w'.cell? ⟨w.heap.size, 3, none⟩ = some (.int .i64 p.no) ∧ w'.cell? ⟨w.heap.size, 4, none⟩ = some (.int .i64 p.size) ∧ w'.cell? ⟨w.heap.size, 5, none⟩ = some (.int .i64 p.what) ∧ w'.cell? ⟨w.heap.size, 6, none⟩ = some (.int .i64 p.code) ∧ w'.cell? ⟨w.heap.size, 7, none⟩ = some (.int .i64 p.hav) ∧ w'.cell? ⟨w.heap.size, 8, none⟩ = some (.slice A p.data.length c)) (go_keep)
        (first
          | (go_at_call 36; refine (JA.out _).mono ?_; rintro e w4 ⟨rfl, hb4'⟩; have hb4 : Below w3.heap.size w3 w4 := ⟨hb4'.os, hb4'.tape, hb4'.output, hb4'.size, hb4'.block⟩; clear hb4'; obtain ⟨z0, z1, z2, z3, z4, z5, z6, z7, z8⟩ := HA3.out _ hb4))
      have hblk4 := hblk3.belowS hb4
      have hb04 := bel_trans hb03 hb4
      have H34 := hid hb4
      clear c0 c1 c2 c3 c4 c5 c6 c7 c8 z0 z1 z2 z3 z4 z5 z6 z7 z8 hblk3 hb03 HA3 y1 y2 JA
      obtain ⟨c0, c1, c2, c3, c4, c5, c6, c7, c8⟩ := pdu_cells hblk4
      go_wp2_with fail
      refine (JR.out _ hb04).mono ?_
      rintro e w5 ⟨rfl, hb5⟩
      have hblk5 := hblk4.belowS hb5
      have hb05 := bel_trans hb04 hb5
      have H35 := hid (bel_trans H34.out hb5)
      clear c0 c1 c2 c3 c4 c5 c6 c7 c8 hblk4 hb04 H34 JR
      have jG := hid (Get_any A3 N d3 PB w5 (HR3.out _ H35.out) (by omega) hcap3.1 hcap3.2)
      unfold GetPost at jG
      simp only [hGB.out] at jG
      clear hGB
      go_wp2_with fail
      refine jG.out.mono ?_
      rintro e w6 ⟨A6, cap6, rfl, hR6, hl6, hb6⟩
      have hblk6 := hblk5.belowS hb6
      obtain ⟨w7, hw7, hb7, hp7, hs7⟩ := pdu_in p A6 cap6 w6
      have HW := hid hw7
      have hblk7 := hblk6.belowS hb7
      have hb07 := bel_trans hb05 (bel_trans hb6 hb7)
      have H37 := hid (bel_trans H35.out (bel_trans hb6 hb7))
      have HQ7 : Hid (∀ w', Below w7.heap.size w7 w' → Reads w' w'.heap.size 1 A6 p.data.length (p.data.map bV)) := hid (fun w' hb => (hR6.belowS hb7).belowS hb)
      have c0 : ∀ o, (w6.alloc o).cell? ⟨w.heap.size, 0, none⟩ = some (.int .i64 p.kind) := fun o => (hblk6.alloc o).cellAt rfl
      have c1 : ∀ o, (w6.alloc o).cell? ⟨w.heap.size, 1, none⟩ = some (.int .i64 p.ses) := fun o => (hblk6.alloc o).cellAt rfl
      have c2 : ∀ o, (w6.alloc o).cell? ⟨w.heap.size, 2, none⟩ = some (.int .i64 p.part) := fun o => (hblk6.alloc o).cellAt rfl
      have c3 : ∀ o, (w6.alloc o).cell? ⟨w.heap.size, 3, none⟩ = some (.int .i64 p.no) := fun o => (hblk6.alloc o).cellAt rfl
      have c4 : ∀ o, (w6.alloc o).cell? ⟨w.heap.size, 4, none⟩ = some (.int .i64 p.size) := fun o => (hblk6.alloc o).cellAt rfl
      have c5 : ∀ o, (w6.alloc o).cell? ⟨w.heap.size, 5, none⟩ = some (.int .i64 p.what) := fun o => (hblk6.alloc o).cellAt rfl
      have c6 : ∀ o, (w6.alloc o).cell? ⟨w.heap.size, 6, none⟩ = some (.int .i64 p.code) := fun o => (hblk6.alloc o).cellAt rfl
      have c7 : ∀ o, (w6.alloc o).cell? ⟨w.heap.size, 7, none⟩ = some (.int .i64 p.hav) := fun o => (hblk6.alloc o).cellAt rfl
      have c8 : ∀ o, (w6.alloc o).cell? ⟨w.heap.size, 8, none⟩ = some (.slice A p.data.length c) := fun o => (hblk6.alloc o).cellAt rfl
      have hl7 := hp7.lt
      clear hw7 hs7 hb5 hb6 hb7 hblk5 hblk6 hb05 H35 hR6 jG
      go_wp2_with fail
      rw [HW.out]
      clear HW c0 c1 c2 c3 c4 c5 c6 c7 c8
      have HP7 : Hid (∀ w', Below w7.heap.size w7 w' → Blk w' w6.heap.size 24 (pduC p A6 cap6)) := hid (fun w' hb => hp7.belowS hb)
      have HB7 : Hid (∀ w', Below w7.heap.size w7 w' → Blk w' w.heap.size 24 (pduC p A c)) := hid (fun w' hb => hblk7.belowS hb)
      generalize w6.heap.size = b6 at *
      clear hp7 hblk7 hl7
      refine (JP.out _).mono ?_
      rintro e w8 ⟨rfl, hb8⟩
      have h78 := hb8
      obtain ⟨c0, c1, c2, c3, c4, c5, c6, c7, c8⟩ := pdu_cells (HB7.out _ h78)
      have hHd := hid (head_any p A c w8 (HRD.out _ (bel_trans hb07 h78)) (by omega))
      unfold HeadPost at hHd
      rw [hHB.out] at hHd
      clear hb8 JP
      go_wp2_with fail
      refine hHd.out.mono ?_
      rintro e w9 ⟨A9', n9, d9, rfl, hown9, hb9⟩
      have hn9 : (bodyP p).length = n9 := by simpa using hown9.1
      have h79 := bel_trans h78 hb9
      have hbl9 : n9 ≤ 1000 := by
        have := HNN.out
        rw [hPB.out, List.length_append, hn9] at this
        omega
      have jT := hid (tail_any A9' n9 d9 (bodyP p) w9 (Reads.of_own hown9) (by omega))
      rw [← hPB.out] at jT
      clear c0 c1 c2 c3 c4 c5 c6 c7 c8 hHd hown9 hb9 h78
      go_wp2_with fail
      refine jT.out.mono ?_
      rintro e w10 ⟨AT, dT, rfl, hownT, hbT⟩
      have h710 := bel_trans h79 hbT
      have hnT : n9 + 4 = N := by
        have := hownT.1
        rw [List.length_map, HNN.out] at this
        omega
      rw [hnT] at hownT ⊢
      clear hnT
      have jS := hid (same_b A3 AT N N d3 dT PB PB w10 (HR3.out _ (bel_trans H37.out h710)) (Reads.of_own hownT) (by omega) (by omega))
      rw [decide_eq_true (rfl : PB = PB)] at jS
      clear jT hownT hbT h79
      go_wp2_with fail
      refine jS.out.mono ?_
      rintro e w11 ⟨rfl, hb11⟩
      have h711 := bel_trans h710 hb11
      obtain ⟨c0, c1, c2, c3, c4, c5, c6, c7, c8⟩ := pdu_cells (HB7.out _ h711)
      obtain ⟨m0, m1, m2, m3, m4, m5, m6, m7, m8⟩ := pdu_cells (HP7.out _ h711)
      have j12 := hid (refSameP_any p p A6 cap6 A c w11 (HQ7.out _ h711) (HRD.out _ (bel_trans hb07 h711)) (by omega) (by omega))
      simp only [sameP_refl] at j12
      clear jS hb11 h710
      go_wp2_with fail
      refine j12.out.mono ?_
      rintro e w12 ⟨rfl, hb12⟩
      have h712 := bel_trans h711 hb12
      clear c0 c1 c2 c3 c4 c5 c6 c7 c8 m0 m1 m2 m3 m4 m5 m6 m7 m8 j12
      obtain ⟨c0, c1, c2, c3, c4, c5, c6, c7, c8⟩ := pdu_cells (HB7.out _ h712)
      obtain ⟨m0, m1, m2, m3, m4, m5, m6, m7, m8⟩ := pdu_cells (HP7.out _ h712)
      have j13 := hid (Same_any p p A6 cap6 A c w12 (HQ7.out _ h712) (HRD.out _ (bel_trans hb07 h712)))
      simp only [sameP_refl] at j13
      clear hb12 h711
      go_wp2_with fail
      refine j13.out.mono ?_
      rintro e w13 ⟨rfl, hb13⟩
      have hfin := hid (bel_trans (bel_trans hb07 h712) hb13)
      go_wp2_with fail
      go_ret
      exact ⟨rfl, hfin.out⟩)
  · have hR' : rightP p = false := by simpa using hR
    have j := hid (Put_bad p A c w2 hR')
    rw [hR'] at JR JP
    clear hR hR'
    go_wp2_with fail
    refine j.out.mono ?_
    rintro e w3 ⟨rfl, hb3⟩
    have hb03 := bel_trans hb02 hb3
    have hblk3 := hblk2.belowS hb3
    have HA3 : Hid (∀ w', Below w3.heap.size w3 w' → w'.cell? ⟨w.heap.size, 0, none⟩ = some (.int .i64 p.kind) ∧ w'.cell? ⟨w.heap.size, 1, none⟩ = some (.int .i64 p.ses) ∧ w'.cell? ⟨w.heap.size, 2, none⟩ = some (.int .i64 p.part) ∧ w'.cell? ⟨w.heap.size, 3, none⟩ = some (.int .i64 p.no) ∧ w'.cell? ⟨w.heap.size, 4, none⟩ = some (.int .i64 p.size) ∧ w'.cell? ⟨w.heap.size, 5, none⟩ = some (.int .i64 p.what) ∧ w'.cell? ⟨w.heap.size, 6, none⟩ = some (.int .i64 p.code) ∧ w'.cell? ⟨w.heap.size, 7, none⟩ = some (.int .i64 p.hav) ∧ w'.cell? ⟨w.heap.size, 8, none⟩ = some (.slice A p.data.length c)) := hid (fun w' hb => pdu_cells (hblk3.belowS hb))
    clear c0 c1 c2 c3 c4 c5 c6 c7 c8 hblk2 hb02 j hb3 g1
    obtain ⟨c0, c1, c2, c3, c4, c5, c6, c7, c8⟩ := pdu_cells hblk3
    obtain ⟨b1, y1⟩ : ∃ b1, decide (1 ≤ p.kind) = b1 := ⟨_, rfl⟩
    obtain ⟨b5, y2⟩ : ∃ b5, decide (p.kind ≤ 5) = b5 := ⟨_, rfl⟩
    rw [HASK.out, y1, y2] at JA
    clear HASK
    cases b1 <;> cases b5
    all_goals (
      simp only [Bool.and_true, Bool.and_false, Bool.false_and] at JA
      go_wp2_with fail
      first | (go_region_with (first
        | (go_at_call 36; refine (JA.out _).mono ?_; rintro e w4 ⟨rfl, hb4'⟩; have hb4 : Below w3.heap.size w3 w4 := ⟨hb4'.os, hb4'.tape, hb4'.output, hb4'.size, hb4'.block⟩; clear hb4'; obtain ⟨z0, z1, z2, z3, z4, z5, z6, z7, z8⟩ := HA3.out _ hb4))) | skip
      all_goals (
        have hblk4 := hblk3.belowS hb4
        have hb04 := bel_trans hb03 hb4
        clear c0 c1 c2 c3 c4 c5 c6 c7 c8 z0 z1 z2 z3 z4 z5 z6 z7 z8 hblk3 hb03 HA3 y1 y2 JA
        obtain ⟨c0, c1, c2, c3, c4, c5, c6, c7, c8⟩ := pdu_cells hblk4
        go_wp2_with fail
        refine (JR.out _ hb04).mono ?_
        rintro e w5 ⟨rfl, hb5⟩
        have hblk5 := hblk4.belowS hb5
        have hb05 := bel_trans hb04 hb5
        clear c0 c1 c2 c3 c4 c5 c6 c7 c8 hblk4 hb04
        obtain ⟨c0, c1, c2, c3, c4, c5, c6, c7, c8⟩ := pdu_cells hblk5
        go_wp2_with fail
        refine (JP.out _).mono ?_
        rintro e w6 ⟨rfl, hb6⟩
        have hfin := hid (bel_trans hb05 hb6)
        go_wp2_with fail
        go_ret
        exact ⟨rfl, hfin.out⟩))
theorem puts_law (w : World) (p : PduS) (A : Option Addr) (c : Nat) (h : PduCame w p A c) :
    Calls Try.prog 13 #[.agg #[.int .i64 p.kind, .int .i64 p.ses, .int .i64 p.part, .int .i64 p.no, .int .i64 p.size, .int .i64 p.what, .int .i64 p.code, .int .i64 p.hav, .slice A p.data.length c]] w fun e w' => e = .returned (.bool true) ∧ Below w.heap.size w w' := puts_any w p A c h.rd
/-! ### PduPuts: from the walk to the given statement -/
namespace lawPduPuts
theorem own : ownKnob Try.prog.godebug = none := by kernel_rfl
theorem laidOut : laidOutB Try.prog = true := by kernel_rfl
set_option maxRecDepth 100000 in
theorem lifted (os : Os) (started : os.Started) (H : Type) (enc : TypeId × Value → H) :
    ReturnsInHanded {} Try.checked os 13 .any (Rows.pduPutsSpec.pre6 enc Try.prog Try.f13 Rows.pduPutsRow.domain false) (Rows.pduPutsSpec.post enc Try.prog Try.f13 false true false false) := by
  refine returnsInHanded_of_change (C := Try.checked) own started (by kernel_rfl) Try.func13
    (ChangeSpec.witness6 (enc := enc) (C := Try.checked) false ⟨#[], #[.agg #[.int .i64 0, .int .i64 0, .int .i64 0, .int .i64 0, .int .i64 0, .int .i64 0, .int .i64 0, .int .i64 0, .slice none 0 0]], []⟩ 8 (by kernel_rfl) (by kernel_rfl) (by kernel_rfl) (by kernel_rfl)) ?_
  intro W base args ds gs before hval0 hW hcnd _
  have hval : ∀ (j : Nat) t v, Try.f13.params[j]? = some t → args[j]? = some v → Value.okWide Try.prog W .any base t v := hval0
  have hW' := hW
  obtain ⟨p, q, hA0, hV, rfl, hfz, hnd⟩ := hW
  have hA : DataW.TrodAll enc Try.prog W 0 (fun _ => true) true Try.f13.params.toList args.toList ds p := hA0
  rw [Try.params13] at hA hval
  obtain ⟨v0, vs0, d0, ds0, p0, q0, hargs, rfl, rfl, h0, r0⟩ := trodAll_cons hA
  obtain ⟨rfl, rfl, rfl⟩ := trodAll_nil r0
  obtain rfl : args = #[v0] := by cases args; simp_all
  obtain ⟨rfl, rfl⟩ := trodVars_none hV
  have k0 := h0
  have lt0 : ∀ x ∈ p0, x.block < W.heap.size := by obtain ⟨m, hm⟩ := k0; exact DataW.trod_lt m _ _ _ hm
  obtain ⟨p0, A0, c0, rfl, w0⟩ := open_pdu (hval 0 24 v0 rfl rfl) h0
  clear hA0 hval0
  refine (puts_law W p0 A0 c0 w0).mono fun e W' ⟨he, bel⟩ => ?_
  subst he
  exact ⟨_, rfl, _, _, _, [], _, [], hW', trodAll_mk1 (shut_bool Try.underlying4 _), (trodAll_cons_mk (Below.trod laidOut (by kernel_rfl) (of_decide_eq_true (by kernel_rfl)) k0 bel lt0) trodAll_mk0), rfl, bel.frame _, fun h => by cases h⟩
theorem over : Rows.pduPutsRow.holds Try.pinned (OpenSpec.ofChange Rows.pduPutsSpec) :=
  OpenClaim.holds_of_wide 13 Try.f13 rfl rfl rfl rfl rfl rfl rfl ⟨rfl, rfl, rfl, rfl, rfl⟩ rfl rfl rfl rfl rfl (by kernel_rfl) Try.func13 (by kernel_rfl)
    (of_decide_eq_true (by kernel_rfl)) (by unfold Func.isWrapper; first | (rw [if_pos (by decide +kernel)]; kernel_rfl) | (rw [if_neg (by decide +kernel)]; exact ⟨rfl, rfl⟩))
    (fun os started H enc _ => lifted os started H enc)
theorem proved : Rows.PduPutsSaid := over
#print axioms proved
end lawPduPuts
end Go.Proofs.Ythipfopmaegpdaa
