/-
  Law 08: no beginning of a message's bytes is a message, nor they with a byte behind, but by a sum that is right by chance for these (PduCut).
-/
import Derived.Test.YthipfopmaegpdaaRefGet
import Derived.Test.YthipfopmaegpdaaRefHead
import Derived.Test.YthipfopmaegpdaaPduWakes
import Derived.Test.YthipfopmaegpdaaOpenPdu
namespace Go.Proofs.Ythipfopmaegpdaa
open Go.RowKit Go.ChangeShapes Go.WideShapes Go.ChangeAt

set_option maxRecDepth 100000 in
set_option maxHeartbeats 8000000 in
theorem cut_any (w : World) (p : PduS) (A : Option Addr) (c : Nat) (hr : Reads w w.heap.size 1 A p.data.length (p.data.map bV)) (a : Nat) (ha : a < 256) (d : UInt8) :
    Calls Try.prog 12 #[.agg #[.int .i64 p.kind, .int .i64 p.ses, .int .i64 p.part, .int .i64 p.no, .int .i64 p.size, .int .i64 p.what, .int .i64 p.code, .int .i64 p.hav, .slice A p.data.length c], .int .u8 (a : Int), bV d] w fun e w' => e = .returned (.bool true) ∧ Below w.heap.size w w' := by
  obtain ⟨w1, hw1, hb1, hblk1, hs1⟩ := pdu_in p A c w
  have HRD := hid (hr.belowS hb1)
  clear hr
  have ib := hid (fun w' => Put_bad p A c w')
  have io := hid (fun w' => Put_ok p A c w')
  simp only [bV]
  go_enter Try.func12, Try.ntmps12
  go_wp2_with fail
  clear hw1 hs1
  refine (pduWakes_any _).mono ?_
  rintro e w2 ⟨rfl, hb2⟩
  have hblk2 := hblk1.belowS hb2
  have hb02 := bel_trans hb1 hb2
  have HRD2 := hid (HRD.out.belowS hb2)
  obtain ⟨c0, c1, c2, c3, c4, c5, c6, c7, c8⟩ := pdu_cells hblk2
  clear hblk1 hb1 hb2 HRD
  by_cases hR : rightP p = true
  · have j := hid (io.out w2 hR HRD2.out)
    have hN1 : 5 ≤ (pduB p).length := by rw [pduB_len]; omega
    have hN2 : (pduB p).length ≤ 100 := by
      rw [pduB_len]
      have h1 := rightP_data hR
      have h2 := fldB_take p (fieldsK p.kind) (fieldsK_len _)
      omega
    generalize pduB p = PB at *
    obtain ⟨N, hNN⟩ : ∃ N, PB.length = N := ⟨_, rfl⟩
    rw [hNN] at j hN1 hN2
    have HNN := hid hNN
    clear hR io ib hNN
    go_wp2_with fail
    refine j.out.mono ?_
    rintro e w3 ⟨A3, d3, rfl, hown3, hb3⟩
    have hb03 := bel_trans hb02 hb3
    have hcap3 := own_cap hown3
    have HR3 := hid (Reads.of_own hown3)
    clear c0 c1 c2 c3 c4 c5 c6 c7 c8 hblk2 hb02 j HRD2 hown3 hb3
    obtain ⟨K, hK, hK2⟩ : ∃ K : Nat, (a : Int) % (N : Int) = (K : Int) ∧ K < N := ⟨a % N, rfl, Nat.mod_lt _ (by omega)⟩
    have haw : IntKind.i64.wrap (a : Int) = (a : Int) := IntWalk.i64_in _ (by omega)
    have hz : ((N : Int) == 0) = false := by simp; omega
    have hk0 : (0 : Int) ≤ (K : Int) := Int.natCast_nonneg _
    have hkd : (K : Int) ≤ (d3 : Int) := by omega
    have hF3 := hid ((HR3.out.front (k := K) (by omega)))
    go_wp2_with (first | (at_builtin; refine copyB _ rfl (.tmp 36) (.tmp 37) rfl rfl A3 N d3 PB rfl HR3.out (by omega) ?_; intro A5 d5 w5 hown5 hb5) | (at_builtin; refine appB _ rfl (.tmp 38) (.tmp 40) rfl w3.heap.size A5 N d5 PB rfl (own_below hown5 ((Below.refl _ _).alloc (Nat.le_refl _) _)) _ (some ⟨w5.heap.size, 0, none⟩) 1 1 [d] rfl (reads_new w5 ([d].map bV) 5 1 rfl) (by omega) (by have := hb5.size; simp; omega) ?_; intro A6 d6 w6 hown6 hg6 hb6))
    have hb36 : Below w3.heap.size w3 w6 := (hb5.alloc hb5.size _).trans hb6
    have hcap6 := own_cap hown6
    have HR6 := hid (Reads.of_own hown6)
    obtain ⟨w4, hw4, hb4, hm4⟩ : ∃ w4 : World, w6.alloc (.cells #[.slice A3 K d3, .slice A6 (N + 1) d6] 22) = w4 ∧ Below w6.heap.size w6 w4 ∧ Blk w4 w6.heap.size 22 [.slice A3 K d3, .slice A6 (N + 1) d6] := ⟨_, rfl, (Below.refl _ _).alloc (Nat.le_refl _) _, Blk.new _ _ _⟩
    rw [hw4]
    clear hw4
    have hb34 := bel_trans hb36 hb4
    have hb04 := bel_trans hb03 hb34
    have H1 := hid (hF3.out.belowS hb34)
    have H2 := hid (HR6.out.belowS hb4)
    have HALL : Hid (∀ k : Nat, k < 2 → ∃ At nt ct bt, (∀ wr, Below w4.heap.size w4 wr → wr.cell? ⟨w6.heap.size, k, none⟩ = some (.slice At nt ct)) ∧ (∀ wr, Below w4.heap.size w4 wr → Reads wr wr.heap.size 1 At nt ((bt : List UInt8).map bV)) ∧ nt ≤ 204 ∧ nt ≤ ct ∧ ct ≤ maxLen ∧ nt ≠ N) := hid (fun k hk => by
      have hkk : k = 0 ∨ k = 1 := by omega
      rcases hkk with rfl | rfl
      · refine ⟨A3, K, d3, PB.take K, fun wr hb => (hm4.belowS hb).cellAt rfl, fun wr hb => ?_, by omega, by omega, hcap3.2, by omega⟩
        have h := H1.out.belowS hb
        rw [Nat.mul_one, ← List.map_take] at h
        exact h
      · exact ⟨A6, N + 1, d6, PB ++ [d], fun wr hb => (hm4.belowS hb).cellAt rfl, fun wr hb => H2.out.belowS hb, by omega, hcap6.1, hcap6.2, by omega⟩)
    clear hb36 hcap6 HR6 hm4 hb34 H1 H2 hown6 hg6 hb6 hown5 hb5 hb4 hF3 hK hK2 haw hz hkd hk0 HR3 hcap3 hb03
    go_loopw [12, 13, 14, 15, 16, 46] (fun _ _ _ _ _ v46 wr => ∃ k : Nat, k ≤ 2 ∧ v46 = .int .i64 (k : Int) ∧ Below w4.heap.size w4 wr) (fun _ _ _ _ _ v46 _ => 2 - (intOf v46).toNat)
    case atStart => exact ⟨0, by omega, rfl, Below.refl _ _⟩
    obtain ⟨k, hk, rfl, hbel⟩ := hrel
    have hb0r := hb04.trans (hbel.mono hb04.size)
    by_cases hk2 : k < 2
    · obtain ⟨At, nt, ct, bt, hcell, hrt, hnt, hnct, hctm, hntN⟩ := HALL.out k hk2
      have x0 := hcell wr hbel
      have HRT := hid (hrt wr hbel)
      have gk : decide ((k : Int) < 2) = true := decide_eq_true (by omega)
      have hk0 : (0 : Int) ≤ (k : Int) := Int.natCast_nonneg _
      have hk1 : (k : Int) < 2 := by omega
      have jG := hid (Get_any At nt ct bt wr HRT.out (by omega) hnct hctm)
      have jr := hid (fun w' (h : Reads w' w'.heap.size 1 At nt (bt.map bV)) => refGet_any At nt ct bt w' h (by omega) hnct hctm)
      unfold GetPost at jG jr
      generalize getP bt = Q at jG jr
      have hlN : ((nt : Int) == (N : Int)) = false := by simp; omega
      clear hcell hrt
      go_wp2_with fail
      clear x0
      refine jG.out.mono ?_
      rintro e w6 ⟨A6, c6, rfl, hR6, hl6, hb6⟩
      obtain ⟨w7, hw7, hb7, hp7, hs7⟩ := pdu_in Q.1 A6 c6 w6
      have HW := hid hw7
      have hr7 := hid ((HRT.out.belowS hb6).belowS hb7)
      have hR7 := hR6.belowS hb7
      have hb67 := bel_trans hb6 hb7
      have hb47 := hid (hbel.trans (hb67.mono hbel.size))
      clear hw7 hb6 hb7 hR6 hs7 jG
      go_wp2_with fail
      rw [HW.out]
      clear HW
      refine (jr.out w7 hr7.out).mono ?_
      rintro e w8 ⟨A8, c8, rfl, hR8, hl8, hb8⟩
      obtain ⟨w9, hw9, hb9, hp9, hs9⟩ := pdu_in Q.1 A8 c8 w8
      have HW := hid hw9
      have hb89 := bel_trans hb8 hb9
      have hR79 := hR7.belowS hb89
      have hR89 := hR8.belowS hb9
      have hb49 := hid (hb47.out.trans (hb89.mono hb47.out.size))
      have j1 := hid (refSameP_any Q.1 Q.1 A6 c6 A8 c8 w9 hR79 hR89 (by omega) (by omega))
      simp only [sameP_refl] at j1
      have m0 : ∀ o, (w8.alloc o).cell? ⟨w6.heap.size, 0, none⟩ = some (.int .i64 Q.1.kind) := fun o => ((hp7.belowS hb8).alloc o).cellAt rfl
      have m1 : ∀ o, (w8.alloc o).cell? ⟨w6.heap.size, 1, none⟩ = some (.int .i64 Q.1.ses) := fun o => ((hp7.belowS hb8).alloc o).cellAt rfl
      have m2 : ∀ o, (w8.alloc o).cell? ⟨w6.heap.size, 2, none⟩ = some (.int .i64 Q.1.part) := fun o => ((hp7.belowS hb8).alloc o).cellAt rfl
      have m3 : ∀ o, (w8.alloc o).cell? ⟨w6.heap.size, 3, none⟩ = some (.int .i64 Q.1.no) := fun o => ((hp7.belowS hb8).alloc o).cellAt rfl
      have m4 : ∀ o, (w8.alloc o).cell? ⟨w6.heap.size, 4, none⟩ = some (.int .i64 Q.1.size) := fun o => ((hp7.belowS hb8).alloc o).cellAt rfl
      have m5 : ∀ o, (w8.alloc o).cell? ⟨w6.heap.size, 5, none⟩ = some (.int .i64 Q.1.what) := fun o => ((hp7.belowS hb8).alloc o).cellAt rfl
      have m6 : ∀ o, (w8.alloc o).cell? ⟨w6.heap.size, 6, none⟩ = some (.int .i64 Q.1.code) := fun o => ((hp7.belowS hb8).alloc o).cellAt rfl
      have m7 : ∀ o, (w8.alloc o).cell? ⟨w6.heap.size, 7, none⟩ = some (.int .i64 Q.1.hav) := fun o => ((hp7.belowS hb8).alloc o).cellAt rfl
      have m8 : ∀ o, (w8.alloc o).cell? ⟨w6.heap.size, 8, none⟩ = some (.slice A6 Q.1.data.length c6) := fun o => ((hp7.belowS hb8).alloc o).cellAt rfl
      have gq : (Q.2 != Q.2) = false := by simp
      clear hw9 hb8 hb9 hb89 hp7 hp9 hR7 hR8 hR79 hR89 hs9 jr
      go_wp2_with fail
      rw [HW.out]
      refine j1.out.mono ?_
      rintro e w10 ⟨rfl, hb10⟩
      clear m0 m1 m2 m3 m4 m5 m6 m7 m8 gq
      have hfin := hid (hb49.out.trans (hb10.mono hb49.out.size))
      by_cases hq : Q.2 = 0
      · have y0 : (Q.2 == 0) = true := by simp [hq]
        clear hq
        go_wp2_with fail
        go_roundw
        case rel => exact ⟨k + 1, by omega, by go_num, hfin.out⟩
        case measure => simp [intOf]; omega
      · have y0 : (Q.2 == 0) = false := by simpa using hq
        clear hq
        go_wp2_with fail
        go_roundw
        case rel => exact ⟨k + 1, by omega, by go_num, hfin.out⟩
        case measure => simp [intOf]; omega
    · obtain rfl : k = 2 := by omega
      go_wp2_with fail
      go_ret
      exact ⟨rfl, hb0r⟩
  · have hR' : rightP p = false := by simpa using hR
    have j := hid (ib.out w2 hR')
    clear hR hR' io ib
    go_wp2_with fail
    refine j.out.mono ?_
    rintro e w3 ⟨rfl, hb3⟩
    have hb03 := hid (bel_trans hb02 hb3)
    go_wp2_with fail
    go_ret
    exact ⟨rfl, hb03.out⟩
theorem cut_law (w : World) (p : PduS) (A : Option Addr) (c : Nat) (h : PduCame w p A c) (x : Int) (hx : (Lit.int .u8 x).wf = true) (d : Int) (hd : (Lit.int .u8 d).wf = true) :
    Calls Try.prog 12 #[.agg #[.int .i64 p.kind, .int .i64 p.ses, .int .i64 p.part, .int .i64 p.no, .int .i64 p.size, .int .i64 p.what, .int .i64 p.code, .int .i64 p.hav, .slice A p.data.length c], .int .u8 x, .int .u8 d] w fun e w' => e = .returned (.bool true) ∧ Below w.heap.size w w' := by
  have hb := bounds_u8 hx
  have hb2 := bounds_u8 hd
  have e : x = ((x.toNat : Nat) : Int) := by omega
  have e2 : d = ((UInt8.ofNat d.toNat).toNat : Int) := by rw [UInt8.toNat_ofNat']; omega
  rw [e, e2]
  exact cut_any w p A c h.rd _ (by omega) _
/-! ### PduCut: from the walk to the given statement -/
namespace lawPduCut
theorem own : ownKnob Try.prog.godebug = none := by kernel_rfl
theorem laidOut : laidOutB Try.prog = true := by kernel_rfl
set_option maxRecDepth 100000 in
theorem lifted (os : Os) (started : os.Started) (H : Type) (enc : TypeId × Value → H) :
    ReturnsInHanded {} Try.checked os 12 .any (Rows.pduCutSpec.pre6 enc Try.prog Try.f12 Rows.pduCutRow.domain false) (Rows.pduCutSpec.post enc Try.prog Try.f12 false true false false) := by
  refine returnsInHanded_of_change (C := Try.checked) own started (by kernel_rfl) Try.func12
    (ChangeSpec.witness6 (enc := enc) (C := Try.checked) false ⟨#[], #[.agg #[.int .i64 0, .int .i64 0, .int .i64 0, .int .i64 0, .int .i64 0, .int .i64 0, .int .i64 0, .int .i64 0, .slice none 0 0], .int .u8 0, .int .u8 0], []⟩ 8 (by kernel_rfl) (by kernel_rfl) (by kernel_rfl) (by kernel_rfl)) ?_
  intro W base args ds gs before hval0 hW hcnd _
  have hval : ∀ (j : Nat) t v, Try.f12.params[j]? = some t → args[j]? = some v → Value.okWide Try.prog W .any base t v := hval0
  have hW' := hW
  obtain ⟨p, q, hA0, hV, rfl, hfz, hnd⟩ := hW
  have hA : DataW.TrodAll enc Try.prog W 0 (fun _ => true) true Try.f12.params.toList args.toList ds p := hA0
  rw [Try.params12] at hA hval
  obtain ⟨v0, vs0, d0, ds0, p0, q0, hargs, rfl, rfl, h0, r0⟩ := trodAll_cons hA
  obtain ⟨v1, vs1, d1, ds1, p1, q1, rfl, rfl, rfl, h1, r1⟩ := trodAll_cons r0
  obtain ⟨v2, vs2, d2, ds2, p2, q2, rfl, rfl, rfl, h2, r2⟩ := trodAll_cons r1
  obtain ⟨rfl, rfl, rfl⟩ := trodAll_nil r2
  obtain rfl : args = #[v0, v1, v2] := by cases args; simp_all
  obtain ⟨rfl, rfl⟩ := trodVars_none hV
  have k0 := h0
  have lt0 : ∀ x ∈ p0, x.block < W.heap.size := by obtain ⟨m, hm⟩ := k0; exact DataW.trod_lt m _ _ _ hm
  have k1 := h1
  have lt1 : ∀ x ∈ p1, x.block < W.heap.size := by obtain ⟨m, hm⟩ := k1; exact DataW.trod_lt m _ _ _ hm
  have k2 := h2
  have lt2 : ∀ x ∈ p2, x.block < W.heap.size := by obtain ⟨m, hm⟩ := k2; exact DataW.trod_lt m _ _ _ hm
  obtain ⟨p0, A0, c0, rfl, w0⟩ := open_pdu (hval 0 24 v0 rfl rfl) h0
  obtain ⟨a1, rfl, rfl, rfl, w1⟩ := open_int Try.underlying5 (hval 1 5 v1 rfl rfl) h1
  obtain ⟨a2, rfl, rfl, rfl, w2⟩ := open_int Try.underlying5 (hval 2 5 v2 rfl rfl) h2
  clear hA0 hval0
  refine (cut_law W p0 A0 c0 w0 a1 w1 a2 w2).mono fun e W' ⟨he, bel⟩ => ?_
  subst he
  exact ⟨_, rfl, _, _, _, [], _, [], hW', trodAll_mk1 (shut_bool Try.underlying4 _), (trodAll_cons_mk (Below.trod laidOut (by kernel_rfl) (of_decide_eq_true (by kernel_rfl)) k0 bel lt0) (trodAll_cons_mk (Below.trod laidOut (by kernel_rfl) (of_decide_eq_true (by kernel_rfl)) k1 bel lt1) (trodAll_cons_mk (Below.trod laidOut (by kernel_rfl) (of_decide_eq_true (by kernel_rfl)) k2 bel lt2) trodAll_mk0))), rfl, bel.frame _, fun h => by cases h⟩
theorem over : Rows.pduCutRow.holds Try.pinned (OpenSpec.ofChange Rows.pduCutSpec) :=
  OpenClaim.holds_of_wide 12 Try.f12 rfl rfl rfl rfl rfl rfl rfl ⟨rfl, rfl, rfl, rfl, rfl⟩ rfl rfl rfl rfl rfl (by kernel_rfl) Try.func12 (by kernel_rfl)
    (of_decide_eq_true (by kernel_rfl)) (by unfold Func.isWrapper; first | (rw [if_pos (by decide +kernel)]; kernel_rfl) | (rw [if_neg (by decide +kernel)]; exact ⟨rfl, rfl⟩))
    (fun os started H enc _ => lifted os started H enc)
theorem proved : Rows.PduCutSaid := over
#print axioms proved
end lawPduCut
end Go.Proofs.Ythipfopmaegpdaa
