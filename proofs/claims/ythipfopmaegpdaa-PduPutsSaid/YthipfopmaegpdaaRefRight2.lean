/-
  The document's own 'right' of a message is pdu.Right.
-/
import Derived.Test.YthipfopmaegpdaaRefHead
import Derived.Test.YthipfopmaegpdaaRefParse
import Derived.Test.YthipfopmaegpdaaPduBack
namespace Go.Proofs.Ythipfopmaegpdaa
open Go.RowKit Go.ChangeShapes Go.WideShapes Go.ChangeAt

theorem putB_one {x : Int} (h0 : 0 ≤ x) (h1 : x ≤ 255) : putB x 1 = [hB x] := by
  obtain ⟨m, rfl⟩ : ∃ m : Nat, x = m := ⟨x.toNat, by omega⟩
  have hc : clip (m : Int) 1 = m := by unfold clip; omega
  show digs (clip (m : Int) 1) 1 = _
  rw [hc]
  show [UInt8.ofNat (m / 256 ^ 0)] = [UInt8.ofNat (((m : Int) % 256).toNat)]
  have e : ((m : Int) % 256).toNat = m := by omega
  rw [e, Nat.pow_zero, Nat.div_one]
theorem putB_two {x : Int} (h0 : 0 ≤ x) (h1 : x ≤ 65535) : putB x 2 = [hB (wrap64 (Int.tdiv x 256)), hB x] := by
  obtain ⟨m, rfl⟩ : ∃ m : Nat, x = m := ⟨x.toNat, by omega⟩
  have hc : clip (m : Int) 2 = m := by unfold clip; omega
  have hq : Int.tdiv (m : Int) 256 = ((m / 256 : Nat) : Int) := by rw [Int.tdiv_eq_ediv_of_nonneg (by omega)]; omega
  have hw : wrap64 ((m / 256 : Nat) : Int) = ((m / 256 : Nat) : Int) := by unfold wrap64; omega
  show digs (clip (m : Int) 2) 2 = _
  rw [hc, hq, hw]
  show [UInt8.ofNat (m / 256 ^ 1), UInt8.ofNat (m / 256 ^ 0)] = [UInt8.ofNat (((m / 256 : Nat) : Int) % 256).toNat, UInt8.ofNat ((m : Int) % 256).toNat]
  have e1 : (((m / 256 : Nat) : Int) % 256).toNat = m / 256 := by omega
  have e2 : ((m : Int) % 256).toNat = m % 256 := by omega
  rw [e1, e2, Nat.pow_zero, Nat.div_one, Nat.pow_one]
  congr 2
  apply UInt8.toNat_inj.1
  rw [UInt8.toNat_ofNat', UInt8.toNat_ofNat']
  omega
theorem head_right {p : PduS} (h : rightP p = true) : headB p = bodyP p := by
  obtain ⟨hk1, hk8, hL, hd⟩ := kind_of h
  have hF := rightP_parts h
  have hks : p.kind = 1 ∨ p.kind = 2 ∨ p.kind = 3 ∨ p.kind = 4 ∨ p.kind = 5 ∨ p.kind = 6 ∨ p.kind = 7 ∨ p.kind = 8 := by omega
  have f0 := hF 0 (by omega)
  have f1 := hF 1 (by omega)
  have f2 := hF 2 (by omega)
  have f3 := hF 3 (by omega)
  have f4 := hF 4 (by omega)
  have f5 := hF 5 (by omega)
  have f6 := hF 6 (by omega)
  have ek : putB p.kind 1 = [hB p.kind] := putB_one (by omega) (by omega)
  simp only [PduS.f] at f0 f1 f2 f3 f4 f5 f6
  unfold bodyP headB
  rw [ek]
  rcases hks with e | e | e | e | e | e | e | e
  all_goals (
    rw [e] at f0 f1 f2 f3 f4 f5 f6 hd ⊢
    simp only [Int.reduceEq, reduceIte] at hd
    simp [fieldsK, mostAt, mostF] at f0 f1 f2 f3 f4 f5 f6
    simp only [Int.reduceEq, reduceIte, fieldsK, fldB, List.flatMap_cons, List.flatMap_nil, PduS.f, widS])
  · rw [putB_two f0.1 f0.2, putB_one f1.1 f1.2, putB_two f3.1 f3.2]
    rw [List.eq_nil_of_length_eq_zero hd]
    simp
  · rw [putB_two f0.1 f0.2, putB_one f2.1 f2.2]
    simp
  · rw [putB_two f0.1 f0.2]
    rw [List.eq_nil_of_length_eq_zero hd]
    simp
  · rw [putB_two f0.1 f0.2]
    rw [List.eq_nil_of_length_eq_zero hd]
    simp
  · rw [putB_two f0.1 f0.2]
    rw [List.eq_nil_of_length_eq_zero hd]
    simp
  · rw [putB_two f0.1 f0.2, putB_one f4.1 f4.2, putB_one f2.1 f2.2]
    rw [List.eq_nil_of_length_eq_zero hd]
    simp
  · rw [putB_two f0.1 f0.2, putB_one f4.1 f4.2, putB_one f2.1 f2.2, putB_one f5.1 f5.2]
    rw [List.eq_nil_of_length_eq_zero hd]
    simp
  · rw [putB_two f0.1 f0.2, putB_one f1.1 f1.2, putB_two f3.1 f3.2, putB_two f6.1 f6.2]
    rw [List.eq_nil_of_length_eq_zero hd]
    simp
theorem sameP_eq {p q : PduS} (h : sameP p q = true) : p = q := by
  simp only [sameP, Bool.and_eq_true, decide_eq_true_eq] at h
  obtain ⟨⟨h1, h2⟩, h3⟩ := h
  refine pdu_ext (by simpa using h2) h3 (fun f hf => ?_)
  have := List.all_eq_true.1 h1 f (List.mem_range.2 hf)
  simpa using this
theorem right_iff (p : PduS) : rightP p = (((bodyG (headB p)).2 == 0) && sameP (bodyG (headB p)).1 p) := by
  cases hr : rightP p with
  | true =>
    rw [head_right hr, bodyG_back hr]
    simp [sameP_refl]
  | false =>
    symm
    rw [Bool.eq_false_iff]
    intro h
    simp only [Bool.and_eq_true] at h
    have h1 : (bodyG (headB p)).2 = 0 := by simpa using h.1
    have h2 := bodyG_right h1
    rw [sameP_eq h.2, hr] at h2
    exact absurd h2 (by simp)

set_option maxRecDepth 100000 in
set_option maxHeartbeats 4000000 in
theorem refRightP_any (p : PduS) (A : Option Addr) (c : Nat) (w : World) (hr : Reads w w.heap.size 1 A p.data.length (p.data.map bV)) (hd : p.data.length ≤ 1000) :
    Calls Try.prog 37 #[.agg #[.int .i64 p.kind, .int .i64 p.ses, .int .i64 p.part, .int .i64 p.no, .int .i64 p.size, .int .i64 p.what, .int .i64 p.code, .int .i64 p.hav, .slice A p.data.length c]] w fun e w' => e = .returned (.bool (rightP p)) ∧ Below w.heap.size w w' := by
  obtain ⟨w1, hw1, hb1, hblk1, hs1⟩ := pdu_in p A c w
  obtain ⟨c0, c1, c2, c3, c4, c5, c6, c7, c8⟩ := pdu_cells hblk1
  have HRD := hid (hr.belowS hb1)
  clear hr
  have HI := hid (right_iff p)
  have HK : Hid (p.kind < 1 ∨ 8 < p.kind → rightP p = false) := hid (fun h => by
    rw [Bool.eq_false_iff]
    intro h2
    have h3 := kind_of h2
    omega)
  go_enter Try.func37, Try.ntmps37
  by_cases k1 : p.kind < 1
  · have y1 : decide (p.kind < 1) = true := decide_eq_true k1
    have hf := hid (HK.out (.inl k1))
    clear k1
    go_wp2_with fail
    go_ret
    exact ⟨by rw [hf.out]; rfl, hb1⟩
  have y1 : decide (p.kind < 1) = false := decide_eq_false k1
  by_cases k8 : 8 < p.kind
  · have y2 : decide (8 < p.kind) = true := decide_eq_true k8
    have hf := hid (HK.out (.inr k8))
    clear k1 k8
    go_wp2_with fail
    go_ret
    exact ⟨by rw [hf.out]; rfl, hb1⟩
  have y2 : decide (8 < p.kind) = false := decide_eq_false k8
  have j1 := hid (fun w' (h : Reads w' w'.heap.size 1 A p.data.length (p.data.map bV)) => head_any p A c w' h hd)
  unfold HeadPost at j1
  have hHL : Hid ((headB p).length ≤ 100000) := hid (by
    unfold headB
    repeat' split
    all_goals (simp <;> omega))
  clear k1 k8 HK
  go_wp2_with fail
  clear hw1 hs1
  refine (j1.out _ HRD.out).mono ?_
  rintro e w2 ⟨A2, n2, d2, rfl, hown2, hb2⟩
  have hn2 : (headB p).length = n2 := by simpa using hown2.1
  have hcap := own_cap hown2
  have hblk2 := hblk1.belowS hb2
  have hb02 := bel_trans hb1 hb2
  have HRD2 := hid (HRD.out.belowS hb2)
  have j2 := hid (parse_any A2 n2 d2 (headB p) w2 (Reads.of_own hown2) (by have := hHL.out; omega) hcap.1 hcap.2)
  unfold BodyPost at j2
  generalize bodyG (headB p) = Q at *
  clear c0 c1 c2 c3 c4 c5 c6 c7 c8 hblk1 hb1 hb2 HRD hown2 hcap hn2 y1 y2 j1
  go_wp2_with fail
  refine j2.out.mono ?_
  rintro e w3 ⟨A3, d3, rfl, hR3, hl3, hb3, -⟩
  obtain ⟨w4, hw4, hb4, hp4, hs4⟩ := pdu_in Q.1 A3 d3 w3
  have HW := hid hw4
  have hb34 := bel_trans hb3 hb4
  have hblk4 := hblk2.belowS hb34
  have hb04 := bel_trans hb02 hb34
  have c0 : ∀ o, (w3.alloc o).cell? ⟨w.heap.size, 0, none⟩ = some (.int .i64 p.kind) := fun o => ((hblk2.belowS hb3).alloc o).cellAt rfl
  have c1 : ∀ o, (w3.alloc o).cell? ⟨w.heap.size, 1, none⟩ = some (.int .i64 p.ses) := fun o => ((hblk2.belowS hb3).alloc o).cellAt rfl
  have c2 : ∀ o, (w3.alloc o).cell? ⟨w.heap.size, 2, none⟩ = some (.int .i64 p.part) := fun o => ((hblk2.belowS hb3).alloc o).cellAt rfl
  have c3 : ∀ o, (w3.alloc o).cell? ⟨w.heap.size, 3, none⟩ = some (.int .i64 p.no) := fun o => ((hblk2.belowS hb3).alloc o).cellAt rfl
  have c4 : ∀ o, (w3.alloc o).cell? ⟨w.heap.size, 4, none⟩ = some (.int .i64 p.size) := fun o => ((hblk2.belowS hb3).alloc o).cellAt rfl
  have c5 : ∀ o, (w3.alloc o).cell? ⟨w.heap.size, 5, none⟩ = some (.int .i64 p.what) := fun o => ((hblk2.belowS hb3).alloc o).cellAt rfl
  have c6 : ∀ o, (w3.alloc o).cell? ⟨w.heap.size, 6, none⟩ = some (.int .i64 p.code) := fun o => ((hblk2.belowS hb3).alloc o).cellAt rfl
  have c7 : ∀ o, (w3.alloc o).cell? ⟨w.heap.size, 7, none⟩ = some (.int .i64 p.hav) := fun o => ((hblk2.belowS hb3).alloc o).cellAt rfl
  have c8 : ∀ o, (w3.alloc o).cell? ⟨w.heap.size, 8, none⟩ = some (.slice A p.data.length c) := fun o => ((hblk2.belowS hb3).alloc o).cellAt rfl
  have j3 := hid (refSameP_any Q.1 p A3 d3 A c w4 (hR3.belowS hb4) (HRD2.out.belowS hb34) (by omega) (by omega))
  have HI2 := hid HI.out
  clear hw4 hb3 hb4 hb34 hp4 hblk4 hblk2 hR3 HRD2 hb02 j2 hs4 HI
  by_cases hq : Q.2 = 0
  · have y0 : (Q.2 == 0) = true := by simp [hq]
    have hfin := hid (HI2.out.trans (by rw [y0, Bool.true_and]))
    clear hq
    go_wp2_with fail
    rw [HW.out]
    refine j3.out.mono ?_
    rintro e w5 ⟨rfl, hb5⟩
    go_wp2_with fail
    go_ret
    exact ⟨by rw [hfin.out]; rfl, bel_trans hb04 hb5⟩
  · have y0 : (Q.2 == 0) = false := by simpa using hq
    have hfin := hid (HI2.out.trans (by rw [y0, Bool.false_and]))
    clear hq
    go_wp2_with fail
    try rw [HW.out]
    go_ret
    exact ⟨by rw [hfin.out]; rfl, hb04⟩
end Go.Proofs.Ythipfopmaegpdaa
