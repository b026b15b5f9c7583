/-
  Law 08: of a message's bytes of which one is turned nothing is got (PduTurned).
-/
import Derived.Test.YthipfopmaegpdaaPduSame
import Derived.Test.YthipfopmaegpdaaPduGet
import Derived.Test.YthipfopmaegpdaaPduWakes
import Derived.Test.YthipfopmaegpdaaOpenPdu
namespace Go.Proofs.Ythipfopmaegpdaa
open Go.RowKit Go.ChangeShapes Go.WideShapes Go.ChangeAt

theorem xorB8 (a b : UInt8) : bits BinOp.xor IntKind.u8 (a.toNat : Int) (b.toNat : Int) = ((a ^^^ b).toNat : Int) := by
  rw [UInt8.toNat_xor]
  exact u8_xor_nat _ _ (UInt8.toNat_lt a) (UInt8.toNat_lt b)
theorem xorB_ne (a b : UInt8) (h : b ≠ 0) : a ^^^ b ≠ a := by
  intro e
  apply h
  have : a ^^^ (a ^^^ b) = a ^^^ a := by rw [e]
  rwa [← UInt8.xor_assoc, UInt8.xor_self, UInt8.zero_xor] at this
theorem sum_len (b : List UInt8) : (sumB b).length = 4 := putB_length _ _
theorem numOf_sum (b : List UInt8) : numOf (sumB b) = (crcOf b).toNat := by
  unfold sumB
  rw [numOf_pB _ _ (by omega)]
  have := (crcOf b).isLt
  unfold clip
  have h : (256 : Nat) ^ 4 = 4294967296 := by decide
  rw [h, Int.toNat_natCast]
  omega
/-- A byte that is turned spoils the sum. -/
theorem turned_sum (b : List UInt8) (k : Nat) (hk : k < b.length + 4) (x : UInt8) (hx : (b ++ sumB b)[k]? ≠ some x) :
    (crcOf (((b ++ sumB b).set k x).take b.length)).toNat ≠ numOf (((b ++ sumB b).set k x).drop b.length) := by
  by_cases h : k < b.length
  · rw [List.set_append_left _ _ h, List.take_left' (by simp), List.drop_left' (by simp), numOf_sum]
    intro he
    have h2 := BitVec.eq_of_toNat_eq he
    refine crc_turned b k h x ?_ h2.symm
    intro e
    apply hx
    rw [List.getElem?_append_left h, List.getElem?_eq_getElem h, e]
  · rw [List.set_append_right _ _ (by omega), List.take_left' rfl, List.drop_left' rfl, ← numOf_sum]
    intro he
    have h2 := numOf_inj 4 _ _ (sum_len b) (by rw [List.length_set]; exact sum_len b) he
    apply hx
    rw [List.getElem?_append_right (by omega), h2]
    rw [List.getElem?_set_self (by rw [sum_len]; omega)]
theorem Blk.zero_in (w : World) : ∃ w1 : World, w.alloc (.cells #[.int .i64 0, .int .i64 0, .int .i64 0, .int .i64 0, .int .i64 0, .int .i64 0, .int .i64 0, .int .i64 0, .slice none 0 0] 24) = w1 ∧ Below w.heap.size w w1 ∧ Blk w1 w.heap.size 24 [.int .i64 0, .int .i64 0, .int .i64 0, .int .i64 0, .int .i64 0, .int .i64 0, .int .i64 0, .int .i64 0, .slice none 0 0] := ⟨_, rfl, (Below.refl _ _).alloc (Nat.le_refl _) _, Blk.new _ _ _⟩

set_option maxRecDepth 100000 in
set_option maxHeartbeats 4000000 in
theorem turned_any (w : World) (p : PduS) (A : Option Addr) (c : Nat) (hr : Reads w w.heap.size 1 A p.data.length (p.data.map bV)) (a : Nat) (ha : a < 256) (d : UInt8) :
    Calls Try.prog 11 #[.agg #[.int .i64 p.kind, .int .i64 p.ses, .int .i64 p.part, .int .i64 p.no, .int .i64 p.size, .int .i64 p.what, .int .i64 p.code, .int .i64 p.hav, .slice A p.data.length c], .int .u8 (a : Int), bV d] w fun e w' => e = .returned (.bool true) ∧ Below w.heap.size w w' := by
  obtain ⟨w1, hw1, hb1, hblk1, hs1⟩ := pdu_in p A c w
  have HRD := hid (hr.belowS hb1)
  clear hr
  have ib := hid (fun w' => Put_bad p A c w')
  have io := hid (fun w' => Put_ok p A c w')
  simp only [bV]
  go_enter Try.func11, Try.ntmps11
  go_wp2_with fail
  clear hw1 hs1
  refine (pduWakes_any _).mono ?_
  rintro e w2 ⟨rfl, hb2⟩
  have hblk2 := hblk1.belowS hb2
  have hb02 := bel_trans hb1 hb2
  have HRD2 := hid (HRD.out.belowS hb2)
  obtain ⟨c0, c1, c2, c3, c4, c5, c6, c7, c8⟩ := pdu_cells hblk2
  clear hblk1 hb1 hb2 HRD
  by_cases hR : rightP p = true
  · have j := hid (io.out w2 hR HRD2.out)
    obtain ⟨B, hB, hBl⟩ : ∃ B : List UInt8, pduB p = B ++ sumB B ∧ 1 ≤ B.length ∧ B.length ≤ 1000 := ⟨bodyP p, rfl, by simp [bodyP, putB_length], by
      have h1 := rightP_data hR
      have h2 := fldB_take p (fieldsK p.kind) (fieldsK_len _)
      simp [bodyP, putB_length]; omega⟩
    rw [hB] at j
    have hl : (B ++ sumB B).length = B.length + 4 := by rw [List.length_append, sum_len]
    rw [hl] at j
    have HT := hid (fun k (hk : k < B.length + 4) x hx => turned_sum B k hk x hx)
    have HL := hid hl
    generalize B ++ sumB B = PB at j HT HL
    obtain ⟨hM1, hM2⟩ := hBl
    generalize B.length = M at *
    clear hR io ib hB hl
    go_wp2_with fail
    refine j.out.mono ?_
    rintro e w3 ⟨A3, d3, rfl, hown3, hb3⟩
    have hb03 := bel_trans hb02 hb3
    have hb02' := hid hb03
    have hsz2 := hb02.size
    clear c0 c1 c2 c3 c4 c5 c6 c7 c8 hblk2 hb02 j HRD2
    by_cases hd0 : d = 0
    · have g0 : ((d.toNat : Int) == 0) = true := by subst hd0; rfl
      clear hd0
      go_wp2_with fail
      go_ret
      exact ⟨rfl, hb03⟩
    · have hd2 : ¬ d.toNat = 0 := fun h => hd0 (UInt8.toNat.inj h)
      have g0 : ((d.toNat : Int) == 0) = false := by simp; omega
      have HD := hid hd0
      clear hd0 hd2
      obtain ⟨K, hK, hK2⟩ : ∃ K : Nat, (a : Int) % ((M : Int) + 4) = (K : Int) ∧ K < M + 4 := ⟨a % (M + 4), by rw [show ((M : Int) + 4) = ((M + 4 : Nat) : Int) from rfl]; rfl, Nat.mod_lt _ (by omega)⟩
      have haw : IntKind.i64.wrap (a : Int) = (a : Int) := IntWalk.i64_in _ (by omega)
      have hz : ((M : Int) + 4 == 0) = false := by simp; omega
      obtain ⟨g, rfl, hg1, hg2⟩ := own_some hown3 (by omega)
      obtain ⟨b, hbk, hcell, hfr⟩ := own_cellM (k := K) hown3 hK2
      have hst := own_storeM hown3 K (b ^^^ d)
      have hcap := own_cap hown3
      have hxor := xorB8 b d
      have HB := hid hbk
      simp only [bV] at hcell
      have HST := hid hst
      have k1 : (0 : Int) ≤ (K : Int) := Int.natCast_nonneg _
      have k2 : (K : Int) < (M : Int) + 4 := by omega
      clear hst hbk hown3
      go_wp2_with fail
      simp only [hK]
      go_wp2_with fail
      obtain ⟨hown4, hb34⟩ := HST.out
      have hxe : Value.int .u8 ((b.toNat ^^^ d.toNat : Nat) : Int) = bV (b ^^^ d) := by simp [bV]
      rw [hxe]
      have hneq : PB[K]? ≠ some (b ^^^ d) := by
        rw [HB.out]
        intro h
        injection h with h
        exact xorB_ne b d HD.out h.symm
      have hb04 : Below w.heap.size w (w3.setCell ⟨g, K, none⟩ (bV (b ^^^ d))) := hb02'.out.trans (hb34.mono hsz2)
      generalize w3.setCell ⟨g, K, none⟩ (bV (b ^^^ d)) = w4 at hown4 hb34 hb04 ⊢
      have jg := Get_digest (some ⟨g, 0, none⟩) M d3 (PB.set K (b ^^^ d)) w4 (Reads.of_own hown4) hM1 (by omega) hcap.1 hcap.2 (HT.out K hK2 _ hneq)
      unfold zV at jg
      clear hown4 hb34 hxe hneq hcap HST HB hxor hcell hfr hK hz haw k1 k2 g0
      refine jg.mono ?_
      rintro e w5 ⟨rfl, hb5⟩
      have hb05 := hid (bel_trans hb04 hb5)
      obtain ⟨w6, hw6, hb6, hr6⟩ := Blk.zero_in w5
      have HW := hid hw6
      have j2 := hid (refSameP_any pduZ pduZ none 0 none 0 w6 Reads.empty Reads.empty (by decide) (by decide))
      simp only [pduZ, sameP_refl, List.length_nil] at j2
      obtain ⟨c0, c1, c2, c3, c4, c5, c6, c7, c8⟩ : _ ∧ _ ∧ _ ∧ _ ∧ _ ∧ _ ∧ _ ∧ _ ∧ _ := ⟨hr6.cellAt (i := 0) rfl, hr6.cellAt (i := 1) rfl, hr6.cellAt (i := 2) rfl, hr6.cellAt (i := 3) rfl, hr6.cellAt (i := 4) rfl, hr6.cellAt (i := 5) rfl, hr6.cellAt (i := 6) rfl, hr6.cellAt (i := 7) rfl, hr6.cellAt (i := 8) rfl⟩
      clear hw6 hb5 hb04 jg
      go_wp2_with fail
      rw [HW.out]
      go_wp2_with fail
      refine j2.out.mono ?_
      rintro e w7 ⟨rfl, hb7⟩
      have hfin := hid (bel_trans (bel_trans hb05.out hb6) hb7)
      go_wp2_with fail
      go_ret
      exact ⟨rfl, hfin.out⟩
  · have hR' : rightP p = false := by simpa using hR
    have j := hid (ib.out w2 hR')
    clear hR hR' io ib
    go_wp2_with fail
    refine j.out.mono ?_
    rintro e w3 ⟨rfl, hb3⟩
    have hb03 := hid (bel_trans hb02 hb3)
    go_wp2_with fail
    go_ret
    exact ⟨rfl, hb03.out⟩
theorem turned_law (w : World) (p : PduS) (A : Option Addr) (c : Nat) (h : PduCame w p A c) (x : Int) (hx : (Lit.int .u8 x).wf = true) (d : Int) (hd : (Lit.int .u8 d).wf = true) :
    Calls Try.prog 11 #[.agg #[.int .i64 p.kind, .int .i64 p.ses, .int .i64 p.part, .int .i64 p.no, .int .i64 p.size, .int .i64 p.what, .int .i64 p.code, .int .i64 p.hav, .slice A p.data.length c], .int .u8 x, .int .u8 d] w fun e w' => e = .returned (.bool true) ∧ Below w.heap.size w w' := by
  have hb := bounds_u8 hx
  have hb2 := bounds_u8 hd
  have e : x = ((x.toNat : Nat) : Int) := by omega
  have e2 : d = ((UInt8.ofNat d.toNat).toNat : Int) := by rw [UInt8.toNat_ofNat']; omega
  rw [e, e2]
  exact turned_any w p A c h.rd _ (by omega) _
/-! ### PduTurned: from the walk to the given statement -/
namespace lawPduTurned
theorem own : ownKnob Try.prog.godebug = none := by kernel_rfl
theorem laidOut : laidOutB Try.prog = true := by kernel_rfl
set_option maxRecDepth 100000 in
theorem lifted (os : Os) (started : os.Started) (H : Type) (enc : TypeId × Value → H) :
    ReturnsInHanded {} Try.checked os 11 .any (Rows.pduTurnedSpec.pre6 enc Try.prog Try.f11 Rows.pduTurnedRow.domain false) (Rows.pduTurnedSpec.post enc Try.prog Try.f11 false true false false) := by
  refine returnsInHanded_of_change (C := Try.checked) own started (by kernel_rfl) Try.func11
    (ChangeSpec.witness6 (enc := enc) (C := Try.checked) false ⟨#[], #[.agg #[.int .i64 0, .int .i64 0, .int .i64 0, .int .i64 0, .int .i64 0, .int .i64 0, .int .i64 0, .int .i64 0, .slice none 0 0], .int .u8 0, .int .u8 0], []⟩ 8 (by kernel_rfl) (by kernel_rfl) (by kernel_rfl) (by kernel_rfl)) ?_
  intro W base args ds gs before hval0 hW hcnd _
  have hval : ∀ (j : Nat) t v, Try.f11.params[j]? = some t → args[j]? = some v → Value.okWide Try.prog W .any base t v := hval0
  have hW' := hW
  obtain ⟨p, q, hA0, hV, rfl, hfz, hnd⟩ := hW
  have hA : DataW.TrodAll enc Try.prog W 0 (fun _ => true) true Try.f11.params.toList args.toList ds p := hA0
  rw [Try.params11] at hA hval
  obtain ⟨v0, vs0, d0, ds0, p0, q0, hargs, rfl, rfl, h0, r0⟩ := trodAll_cons hA
  obtain ⟨v1, vs1, d1, ds1, p1, q1, rfl, rfl, rfl, h1, r1⟩ := trodAll_cons r0
  obtain ⟨v2, vs2, d2, ds2, p2, q2, rfl, rfl, rfl, h2, r2⟩ := trodAll_cons r1
  obtain ⟨rfl, rfl, rfl⟩ := trodAll_nil r2
  obtain rfl : args = #[v0, v1, v2] := by cases args; simp_all
  obtain ⟨rfl, rfl⟩ := trodVars_none hV
  have k0 := h0
  have lt0 : ∀ x ∈ p0, x.block < W.heap.size := by obtain ⟨m, hm⟩ := k0; exact DataW.trod_lt m _ _ _ hm
  have k1 := h1
  have lt1 : ∀ x ∈ p1, x.block < W.heap.size := by obtain ⟨m, hm⟩ := k1; exact DataW.trod_lt m _ _ _ hm
  have k2 := h2
  have lt2 : ∀ x ∈ p2, x.block < W.heap.size := by obtain ⟨m, hm⟩ := k2; exact DataW.trod_lt m _ _ _ hm
  obtain ⟨p0, A0, c0, rfl, w0⟩ := open_pdu (hval 0 24 v0 rfl rfl) h0
  obtain ⟨a1, rfl, rfl, rfl, w1⟩ := open_int Try.underlying5 (hval 1 5 v1 rfl rfl) h1
  obtain ⟨a2, rfl, rfl, rfl, w2⟩ := open_int Try.underlying5 (hval 2 5 v2 rfl rfl) h2
  clear hA0 hval0
  refine (turned_law W p0 A0 c0 w0 a1 w1 a2 w2).mono fun e W' ⟨he, bel⟩ => ?_
  subst he
  exact ⟨_, rfl, _, _, _, [], _, [], hW', trodAll_mk1 (shut_bool Try.underlying4 _), (trodAll_cons_mk (Below.trod laidOut (by kernel_rfl) (of_decide_eq_true (by kernel_rfl)) k0 bel lt0) (trodAll_cons_mk (Below.trod laidOut (by kernel_rfl) (of_decide_eq_true (by kernel_rfl)) k1 bel lt1) (trodAll_cons_mk (Below.trod laidOut (by kernel_rfl) (of_decide_eq_true (by kernel_rfl)) k2 bel lt2) trodAll_mk0))), rfl, bel.frame _, fun h => by cases h⟩
theorem over : Rows.pduTurnedRow.holds Try.pinned (OpenSpec.ofChange Rows.pduTurnedSpec) :=
  OpenClaim.holds_of_wide 11 Try.f11 rfl rfl rfl rfl rfl rfl rfl ⟨rfl, rfl, rfl, rfl, rfl⟩ rfl rfl rfl rfl rfl (by kernel_rfl) Try.func11 (by kernel_rfl)
    (of_decide_eq_true (by kernel_rfl)) (by unfold Func.isWrapper; first | (rw [if_pos (by decide +kernel)]; kernel_rfl) | (rw [if_neg (by decide +kernel)]; exact ⟨rfl, rfl⟩))
    (fun os started H enc _ => lifted os started H enc)
theorem proved : Rows.PduTurnedSaid := over
#print axioms proved
end lawPduTurned
end Go.Proofs.Ythipfopmaegpdaa
