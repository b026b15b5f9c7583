/-
  Law 08: any bytes, as they are, and with their sum behind them, are the message that the document says, or refused by its error; what is got is right (PduGets).
-/
import Derived.Test.YthipfopmaegpdaaRefGet
import Derived.Test.YthipfopmaegpdaaPduFine
import Derived.Test.YthipfopmaegpdaaPduWakes
import Derived.Test.YthipfopmaegpdaaOpenPdu
namespace Go.Proofs.Ythipfopmaegpdaa
open Go.RowKit Go.ChangeShapes Go.WideShapes Go.ChangeAt

set_option maxRecDepth 100000 in
set_option maxHeartbeats 8000000 in
theorem gets_any (w : World) (A : Option Addr) (n c : Nat) (bs : List UInt8) (hr : Reads w w.heap.size 1 A n (bs.map bV)) (hnc : n ≤ c) (hcm : c ≤ maxLen) :
    Calls Try.prog 10 #[.slice A n c] w fun e w' => e = .returned (.bool true) ∧ Below w.heap.size w w' := by
  go_enter Try.func10, Try.ntmps10
  go_wp2_with fail
  refine (pduWakes_any _).mono ?_
  rintro e w2 ⟨rfl, hb2⟩
  have hr2 := hr.belowS hb2
  clear hr
  by_cases h200 : 200 < n
  · have g1 : decide ((200 : Int) < (n : Int)) = true := decide_eq_true (by omega)
    have g1' : decide (200 < n) = true := decide_eq_true h200
    clear h200
    go_wp2_with fail
    go_ret
    exact ⟨rfl, hb2⟩
  have g1 : decide ((200 : Int) < (n : Int)) = false := decide_eq_false (by omega)
  have g1' : decide (200 < n) = false := decide_eq_false h200
  go_wp2_with fail
  clear g1 g1'
  refine (tail_any A n c bs w2 hr2 (by omega)).mono ?_
  rintro e w3 ⟨A1, c1, rfl, hown3, hb3⟩
  have hcap := own_cap hown3
  have HT3 := hid (Reads.of_own hown3)
  obtain ⟨w4, hw4, hb4, hm4⟩ : ∃ w4 : World, w3.alloc (.cells #[.slice A n c, .slice A1 (n + 4) c1] 22) = w4 ∧ Below w3.heap.size w3 w4 ∧ Blk w4 w3.heap.size 22 [.slice A n c, .slice A1 (n + 4) c1] := ⟨_, rfl, (Below.refl _ _).alloc (Nat.le_refl _) _, Blk.new _ _ _⟩
  have HW := hid hw4
  have hb04 := bel_trans (bel_trans hb2 hb3) hb4
  have H1 := hid ((hr2.belowS hb3).belowS hb4)
  have H2 := hid (HT3.out.belowS hb4)
  have HALL : Hid (∀ k : Nat, k < 2 → ∃ At nt ct bt, (∀ wr, Below w4.heap.size w4 wr → wr.cell? ⟨w3.heap.size, k, none⟩ = some (.slice At nt ct)) ∧ (∀ wr, Below w4.heap.size w4 wr → Reads wr wr.heap.size 1 At nt ((bt : List UInt8).map bV)) ∧ nt ≤ 204 ∧ nt ≤ ct ∧ ct ≤ maxLen) := hid (fun k hk => by
    have hkk : k = 0 ∨ k = 1 := by omega
    rcases hkk with rfl | rfl
    · exact ⟨A, n, c, bs, fun wr hb => (hm4.belowS hb).cellAt rfl, fun wr hb => H1.out.belowS hb, by omega, hnc, hcm⟩
    · exact ⟨A1, n + 4, c1, bs ++ sumB bs, fun wr hb => (hm4.belowS hb).cellAt rfl, fun wr hb => H2.out.belowS hb, by omega, hcap.1, hcap.2⟩)
  clear hw4 hb2 hb3 hb4 hm4 H1 H2 hcap HT3 hown3 hr2 h200
  go_wp2_with fail
  rw [HW.out]
  clear HW
  go_loopw [4, 5, 6, 7, 8, 19] (fun _ _ _ _ _ v19 wr => ∃ k : Nat, k ≤ 2 ∧ v19 = .int .i64 (k : Int) ∧ Below w4.heap.size w4 wr) (fun _ _ _ _ _ v19 _ => 2 - (intOf v19).toNat)
  case atStart => exact ⟨0, by omega, rfl, Below.refl _ _⟩
  obtain ⟨k, hk, rfl, hbel⟩ := hrel
  have hb0r := hb04.trans (hbel.mono hb04.size)
  by_cases hk2 : k < 2
  · obtain ⟨At, nt, ct, bt, hcell, hrt, hnt, hnct, hctm⟩ := HALL.out k hk2
    have x0 := hcell wr hbel
    have HRT := hid (hrt wr hbel)
    have gk : decide ((k : Int) < 2) = true := decide_eq_true (by omega)
    have hk0 : (0 : Int) ≤ (k : Int) := Int.natCast_nonneg _
    have hk1 : (k : Int) < 2 := by omega
    clear hcell hrt
    go_wp2_with (at_builtin; refine copyB _ rfl (.tmp 24) (.tmp 25) rfl rfl At nt ct bt rfl HRT.out (by omega) ?_; intro A5 c5 w5 hown5 hb5)
    clear x0
    have HD5 := hid (Reads.of_own hown5)
    have hcap5 := own_cap hown5
    have hb05 := hid (hb0r.trans (hb5.mono hb0r.size))
    have hr5 := hid (HRT.out.belowS hb5)
    have hb45 := hid (hbel.trans (hb5.mono hbel.size))
    clear hown5 hb5
    refine (Get_any A5 nt c5 bt w5 HD5.out (by omega) hcap5.1 hcap5.2).mono ?_
    rintro e w6 ⟨A6, c6, rfl, hR6, hl6, hb6⟩
    have HRT0 : Hid ((getP bt).2 = 0 → rightP (getP bt).1 = true) := hid getP_right
    have jr := hid (fun w' (h : Reads w' w'.heap.size 1 At nt (bt.map bV)) => refGet_any At nt ct bt w' h (by omega) hnct hctm)
    unfold GetPost at jr
    generalize getP bt = Q at *
    obtain ⟨w7, hw7, hb7, hp7, hs7⟩ := pdu_in Q.1 A6 c6 w6
    have HW := hid hw7
    have hr7 := hid ((hr5.out.belowS hb6).belowS hb7)
    have hR7 := hR6.belowS hb7
    have hb67 := bel_trans hb6 hb7
    have hb07 := hid (bel_trans hb05.out hb67)
    have hb47 := hid (hb45.out.trans (hb67.mono hb45.out.size))
    clear hw7 hb6 hb7 hcap5 hR6 hs7
    go_wp2_with fail
    rw [HW.out]
    clear HW
    refine (jr.out w7 hr7.out).mono ?_
    rintro e w8 ⟨A8, c8, rfl, hR8, hl8, hb8⟩
    obtain ⟨w9, hw9, hb9, hp9, hs9⟩ := pdu_in Q.1 A8 c8 w8
    have HW := hid hw9
    have hb89 := bel_trans hb8 hb9
    have hp79 := hp7.belowS hb89
    have hR79 := hR7.belowS hb89
    have hR89 := hR8.belowS hb9
    have hb09 := hid (bel_trans hb07.out hb89)
    have hb49 := hid (hb47.out.trans (hb89.mono hb47.out.size))
    have j1 := hid (refSameP_any Q.1 Q.1 A6 c6 A8 c8 w9 hR79 hR89 (by omega) (by omega))
    simp only [sameP_refl] at j1
    have m0 : ∀ o, (w8.alloc o).cell? ⟨w6.heap.size, 0, none⟩ = some (.int .i64 Q.1.kind) := fun o => ((hp7.belowS hb8).alloc o).cellAt rfl
    have m1 : ∀ o, (w8.alloc o).cell? ⟨w6.heap.size, 1, none⟩ = some (.int .i64 Q.1.ses) := fun o => ((hp7.belowS hb8).alloc o).cellAt rfl
    have m2 : ∀ o, (w8.alloc o).cell? ⟨w6.heap.size, 2, none⟩ = some (.int .i64 Q.1.part) := fun o => ((hp7.belowS hb8).alloc o).cellAt rfl
    have m3 : ∀ o, (w8.alloc o).cell? ⟨w6.heap.size, 3, none⟩ = some (.int .i64 Q.1.no) := fun o => ((hp7.belowS hb8).alloc o).cellAt rfl
    have m4 : ∀ o, (w8.alloc o).cell? ⟨w6.heap.size, 4, none⟩ = some (.int .i64 Q.1.size) := fun o => ((hp7.belowS hb8).alloc o).cellAt rfl
    have m5 : ∀ o, (w8.alloc o).cell? ⟨w6.heap.size, 5, none⟩ = some (.int .i64 Q.1.what) := fun o => ((hp7.belowS hb8).alloc o).cellAt rfl
    have m6 : ∀ o, (w8.alloc o).cell? ⟨w6.heap.size, 6, none⟩ = some (.int .i64 Q.1.code) := fun o => ((hp7.belowS hb8).alloc o).cellAt rfl
    have m7 : ∀ o, (w8.alloc o).cell? ⟨w6.heap.size, 7, none⟩ = some (.int .i64 Q.1.hav) := fun o => ((hp7.belowS hb8).alloc o).cellAt rfl
    have m8 : ∀ o, (w8.alloc o).cell? ⟨w6.heap.size, 8, none⟩ = some (.slice A6 Q.1.data.length c6) := fun o => ((hp7.belowS hb8).alloc o).cellAt rfl
    have HP := hid hp79
    have gq : (Q.2 != Q.2) = false := by simp
    clear hw9 hb8 hb9 hb89 hp7 hp9 hR7 hR8 hR79 hR89 hs9 jr hp79
    have jR := hid (fun w' => right_any Q.1 A6 c6 w')
    by_cases hq : Q.2 = 0
    · have y0 : (Q.2 == 0) = true := by simp [hq]
      have hqr := HRT0.out hq
      rw [hqr] at jR
      clear hq hqr
      go_wp2_with fail
      rw [HW.out]
      refine j1.out.mono ?_
      rintro e w10 ⟨rfl, hb10⟩
      clear m0 m1 m2 m3 m4 m5 m6 m7 m8
      have hp10 := HP.out.belowS hb10
      obtain ⟨m0, m1, m2, m3, m4, m5, m6, m7, m8⟩ := pdu_cells hp10
      clear hp10
      go_wp2_with fail
      refine (jR.out _).mono ?_
      rintro e w11 ⟨rfl, hb11⟩
      have hfin := hid (hb49.out.trans ((bel_trans hb10 hb11).mono hb49.out.size))
      go_wp2_with fail
      go_roundw
      case rel => exact ⟨k + 1, by omega, by go_num, hfin.out⟩
      case measure => simp [intOf]; omega
    · have y0 : (Q.2 == 0) = false := by simpa using hq
      clear hq
      go_wp2_with fail
      rw [HW.out]
      refine j1.out.mono ?_
      rintro e w10 ⟨rfl, hb10⟩
      have hfin := hid (hb49.out.trans (hb10.mono hb49.out.size))
      go_wp2_with fail
      go_roundw
      case rel => exact ⟨k + 1, by omega, by go_num, hfin.out⟩
      case measure => simp [intOf]; omega
  · obtain rfl : k = 2 := by omega
    go_wp2_with fail
    go_ret
    exact ⟨rfl, hb0r⟩
theorem gets_law (w : World) (A : Option Addr) (n c : Nat) (bs : List UInt8) (hr : Reads w w.heap.size 1 A n (bs.map bV)) (hnc : n ≤ c) (hcm : c ≤ maxLen) :
    Calls Try.prog 10 #[.slice A n c] w fun e w' => e = .returned (.bool true) ∧ Below w.heap.size w w' := gets_any w A n c bs hr hnc hcm
/-! ### PduGets: from the walk to the given statement -/
namespace lawPduGets
theorem own : ownKnob Try.prog.godebug = none := by kernel_rfl
theorem laidOut : laidOutB Try.prog = true := by kernel_rfl
set_option maxRecDepth 100000 in
theorem lifted (os : Os) (started : os.Started) (H : Type) (enc : TypeId × Value → H) :
    ReturnsInHanded {} Try.checked os 10 .any (Rows.pduGetsSpec.pre6 enc Try.prog Try.f10 Rows.pduGetsRow.domain false) (Rows.pduGetsSpec.post enc Try.prog Try.f10 false true false false) := by
  refine returnsInHanded_of_change (C := Try.checked) own started (by kernel_rfl) Try.func10
    (ChangeSpec.witness6 (enc := enc) (C := Try.checked) false ⟨#[], #[.slice none 0 0], []⟩ 8 (by kernel_rfl) (by kernel_rfl) (by kernel_rfl) (by kernel_rfl)) ?_
  intro W base args ds gs before hval0 hW hcnd _
  have hval : ∀ (j : Nat) t v, Try.f10.params[j]? = some t → args[j]? = some v → Value.okWide Try.prog W .any base t v := hval0
  have hW' := hW
  obtain ⟨p, q, hA0, hV, rfl, hfz, hnd⟩ := hW
  have hA : DataW.TrodAll enc Try.prog W 0 (fun _ => true) true Try.f10.params.toList args.toList ds p := hA0
  rw [Try.params10] at hA hval
  obtain ⟨v0, vs0, d0, ds0, p0, q0, hargs, rfl, rfl, h0, r0⟩ := trodAll_cons hA
  obtain ⟨rfl, rfl, rfl⟩ := trodAll_nil r0
  obtain rfl : args = #[v0] := by cases args; simp_all
  obtain ⟨rfl, rfl⟩ := trodVars_none hV
  have k0 := h0
  have lt0 : ∀ x ∈ p0, x.block < W.heap.size := by obtain ⟨m, hm⟩ := k0; exact DataW.trod_lt m _ _ _ hm
  obtain ⟨A0, n0, c0, b0, rfl, w0, g0, l0⟩ := open_bytes Try.underlying22 Try.underlying5 (by kernel_rfl) (hval 0 22 v0 rfl rfl) h0
  clear hA0 hval0
  refine (gets_law W A0 n0 c0 b0 w0 g0 l0).mono fun e W' ⟨he, bel⟩ => ?_
  subst he
  exact ⟨_, rfl, _, _, _, [], _, [], hW', trodAll_mk1 (shut_bool Try.underlying4 _), (trodAll_cons_mk (Below.trod laidOut (by kernel_rfl) (of_decide_eq_true (by kernel_rfl)) k0 bel lt0) trodAll_mk0), rfl, bel.frame _, fun h => by cases h⟩
theorem over : Rows.pduGetsRow.holds Try.pinned (OpenSpec.ofChange Rows.pduGetsSpec) :=
  OpenClaim.holds_of_wide 10 Try.f10 rfl rfl rfl rfl rfl rfl rfl ⟨rfl, rfl, rfl, rfl, rfl⟩ rfl rfl rfl rfl rfl (by kernel_rfl) Try.func10 (by kernel_rfl)
    (of_decide_eq_true (by kernel_rfl)) (by unfold Func.isWrapper; first | (rw [if_pos (by decide +kernel)]; kernel_rfl) | (rw [if_neg (by decide +kernel)]; exact ⟨rfl, rfl⟩))
    (fun os started H enc _ => lifted os started H enc)
theorem proved : Rows.PduGetsSaid := over
#print axioms proved
end lawPduGets
end Go.Proofs.Ythipfopmaegpdaa
