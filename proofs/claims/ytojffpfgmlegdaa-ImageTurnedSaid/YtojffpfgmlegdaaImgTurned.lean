/-
  ImageTurned: of an image's bytes of which one is turned nothing is got: the sum isn't right. For every input.
-/
import Derived.Test.YtojffpfgmlegdaaImgGet
import Derived.Test.YtojffpfgmlegdaaRefImgSame
import Derived.Test.YtojffpfgmlegdaaOpenImg
namespace Go.Proofs.Ytojffpfgmlegdaa
open Go.RowKit Go.ChangeShapes Go.WideShapes Go.ChangeAt

theorem xorI8 (a b : UInt8) : bits BinOp.xor IntKind.u8 (a.toNat : Int) (b.toNat : Int) = ((a ^^^ b).toNat : Int) := by
  rw [UInt8.toNat_xor]
  exact u8_xor_nat _ _ (UInt8.toNat_lt a) (UInt8.toNat_lt b)
theorem xorI_ne (a b : UInt8) (h : b ≠ 0) : a ^^^ b ≠ a := by
  intro e
  apply h
  have : a ^^^ (a ^^^ b) = a ^^^ a := by rw [e]
  rwa [← UInt8.xor_assoc, UInt8.xor_self, UInt8.zero_xor] at this
def imgEmpty : ImgS := ⟨0, 0, 0, 0, 0, 0, 0, []⟩
set_option maxRecDepth 100000 in
set_option maxHeartbeats 4000000 in
theorem imgTurned_any (w : World) (i : ImgS) (A : Option Addr) (c : Nat) (h : ImgCame w i A c) (a : Nat) (ha : a < 65536) (d : UInt8) :
    Calls Try.prog 8 #[imgV i A c, .int .u16 (a : Int), bV d] w fun e w' => e = .returned (.bool true) ∧ Below w.heap.size w w' := by
  obtain ⟨w1, hw1, hb1, hblk1, hs1⟩ := img_in i A c w
  have hcm := h.hm
  have hlc := h.hc
  have HRD := hid (h.rd.belowS hb1)
  have ib := hid (fun w' => imgPut_no i A c w' (by unfold maxLen at hcm; omega))
  have io := hid (fun w' hr => imgPut_yes i A c w' hr hlc hcm)
  have hn96 : rightI i = true → i.code.length ≤ 96 := fun hR => by have := ((rightI_iff i).1 hR).2.2.2.2.2.2.2.2; omega
  have HN96 := hid hn96
  clear h hn96
  unfold imgC at hblk1
  simp only [bV, imgV] at io ib ⊢
  go_enter Try.func8, Try.ntmps8
  go_wp2_with fail
  clear hw1 hs1
  refine (imgWakes_any _).mono ?_
  rintro e w2 ⟨rfl, hb2⟩
  have hblk2 := hblk1.belowS hb2
  have hb02 := bel_trans hb1 hb2
  have HRD2 := hid (HRD.out.belowS hb2)
  obtain ⟨c0, c1, c2, c3, c4, c5, c6, c7⟩ : _ ∧ _ ∧ _ ∧ _ ∧ _ ∧ _ ∧ _ ∧ _ := ⟨hblk2.cellAt (i := 0) rfl, hblk2.cellAt (i := 1) rfl, hblk2.cellAt (i := 2) rfl, hblk2.cellAt (i := 3) rfl, hblk2.cellAt (i := 4) rfl, hblk2.cellAt (i := 5) rfl, hblk2.cellAt (i := 6) rfl, hblk2.cellAt (i := 7) rfl⟩
  clear hblk1 hb1 hb2 HRD
  by_cases hR : rightI i = true
  · have j := hid (io.out w2 HRD2.out hR)
    have hn := HN96.out hR
    obtain ⟨B, hB⟩ : ∃ B : List UInt8, imgB i = B ++ sum4 B := ⟨digI (headB i), rfl⟩
    obtain ⟨D, hD⟩ : ∃ D, 13 + i.code.length = D := ⟨_, rfl⟩
    obtain ⟨N, hN⟩ : ∃ N, 49 + i.code.length = N := ⟨_, rfl⟩
    rw [hB, hN] at j
    have HT := hid (fun k (hk : k < B.length + 4) x hx => img_turned B k hk x hx)
    have HBL := hid (show (B ++ sum4 B).length = B.length + 4 by rw [List.length_append, sum4_len])
    generalize B ++ sum4 B = PB at j HT HBL
    generalize B.length = M at *
    have hND : N = D + 36 := by omega
    have hD2 : D ≤ 109 := by omega
    clear hR io ib hB hN hD HN96
    go_wp2_with fail
    refine j.out.mono ?_
    rintro e w3 ⟨A3, d3, rfl, hown3, hb3⟩
    have hMN : M + 4 = N := by
      have := own_len hown3
      rw [List.length_map, HBL.out] at this
      omega
    have hb03 := bel_trans hb02 hb3
    have hb02' := hid hb03
    have hsz2 := hb02.size
    clear c0 c1 c2 c3 c4 c5 c6 c7 hblk2 hb02 j HRD2
    by_cases hd0 : d = 0
    · have g0 : ((d.toNat : Int) == 0) = true := by subst hd0; rfl
      clear hd0
      go_wp2_with fail
      go_ret
      exact ⟨rfl, hb03⟩
    · have hd2 : ¬ d.toNat = 0 := fun h => hd0 (UInt8.toNat.inj h)
      have g0 : ((d.toNat : Int) == 0) = false := by simp; omega
      have HD := hid hd0
      clear hd0 hd2
      obtain ⟨K, hK, hK2⟩ : ∃ K : Nat, (a : Int) % (N : Int) = (K : Int) ∧ K < N := ⟨a % N, by omega, Nat.mod_lt _ (by omega)⟩
      have haw : IntKind.i64.wrap (a : Int) = (a : Int) := IntWalk.i64_in _ (by omega)
      have hz : ((N : Int) == 0) = false := by simp; omega
      obtain ⟨g, rfl, hg1, hg2⟩ := own_some hown3 (by omega)
      obtain ⟨b, hbk, hcell, hfr⟩ := own_cellM (k := K) hown3 hK2
      have hst := own_storeM hown3 K (b ^^^ d)
      have hcap := own_cap hown3
      have hxor := xorI8 b d
      have HB := hid hbk
      simp only [bV] at hcell
      have HST := hid hst
      have k1 : (0 : Int) ≤ (K : Int) := Int.natCast_nonneg _
      have k2 : (K : Int) < (N : Int) := by omega
      have HMN := hid hMN
      have HND := hid hND
      clear hst hbk hown3 hMN hND
      go_wp2_with fail
      obtain ⟨hown4, hb34⟩ := HST.out
      have hxe : Value.int .u8 ((b.toNat ^^^ d.toNat : Nat) : Int) = bV (b ^^^ d) := by simp [bV]
      rw [hxe]
      have hneq : PB[K]? ≠ some (b ^^^ d) := by
        rw [HB.out]
        intro h
        injection h with h
        exact xorI_ne b d HD.out h.symm
      have hb04 : Below w.heap.size w (w3.setCell ⟨g, K, none⟩ (bV (b ^^^ d))) := hb02'.out.trans (hb34.mono hsz2)
      generalize w3.setCell ⟨g, K, none⟩ (bV (b ^^^ d)) = w4 at hown4 hb34 hb04 ⊢
      have hNN := HND.out
      subst hNN
      have hMM : M = D + 32 := by have := HMN.out; omega
      subst hMM
      have jg := imgGet_bad (some ⟨g, 0, none⟩) D d3 (PB.set K (b ^^^ d)) w4 (Reads.of_own hown4) (by omega) hcap.1 hcap.2 (HT.out K (by omega) _ hneq)
      unfold imgZ at jg
      clear hown4 hb34 hxe hneq hcap HST HB hxor hcell hfr hK hz haw k1 k2 g0
      refine jg.mono ?_
      rintro e w5 ⟨rfl, hb5⟩
      have hb05 := hid (bel_trans hb04 hb5)
      obtain ⟨w6, hw6, hb6, hr6, hs6⟩ := img_in imgEmpty none 0 w5
      unfold imgC at hr6
      simp only [imgEmpty, List.length_nil] at hw6 hr6
      have HW := hid hw6
      have j2 := hid (refSameI_any imgEmpty imgEmpty none 0 none 0 w6 Reads.empty Reads.empty (by decide) (by decide))
      simp only [imgEmpty, imgV, sameI_refl, List.length_nil] at j2
      obtain ⟨c0, c1, c2, c3, c4, c5, c6, c7⟩ : _ ∧ _ ∧ _ ∧ _ ∧ _ ∧ _ ∧ _ ∧ _ := ⟨hr6.cellAt (i := 0) rfl, hr6.cellAt (i := 1) rfl, hr6.cellAt (i := 2) rfl, hr6.cellAt (i := 3) rfl, hr6.cellAt (i := 4) rfl, hr6.cellAt (i := 5) rfl, hr6.cellAt (i := 6) rfl, hr6.cellAt (i := 7) rfl⟩
      clear hw6 hb5 hb04 jg hs6
      go_wp2_with fail
      first | rw [HW.out] | skip
      go_wp2_with fail
      refine j2.out.mono ?_
      rintro e w7 ⟨rfl, hb7⟩
      have hfin := hid (bel_trans (bel_trans hb05.out hb6) hb7)
      go_wp2_with fail
      go_ret
      exact ⟨rfl, hfin.out⟩
  · have hR' : rightI i = false := by simpa using hR
    have j := hid (ib.out w2)
    have j2 := hid (j.out hR')
    clear hR hR' io ib j
    go_wp2_with fail
    refine j2.out.mono ?_
    rintro e w3 ⟨rfl, hb3⟩
    have hb03 := hid (bel_trans hb02 hb3)
    go_wp2_with fail
    go_ret
    exact ⟨rfl, hb03.out⟩
theorem imgTurned_law (w : World) (i : ImgS) (A : Option Addr) (c : Nat) (h : ImgCame w i A c) (x : Int) (hx : (Lit.int .u16 x).wf = true) (d : Int) (hd : (Lit.int .u8 d).wf = true) :
    Calls Try.prog 8 #[imgV i A c, .int .u16 x, .int .u8 d] w fun e w' => e = .returned (.bool true) ∧ Below w.heap.size w w' := by
  have hb := bounds_u16 hx
  have hb2 := bounds_u8 hd
  have e : x = ((x.toNat : Nat) : Int) := by omega
  have e2 : d = ((UInt8.ofNat d.toNat).toNat : Int) := by rw [UInt8.toNat_ofNat']; omega
  rw [e, e2]
  exact imgTurned_any w i A c h _ (by omega) _
/-! ### ImageTurned: from the walk to the given statement -/
namespace lawImageTurned
theorem own : ownKnob Try.prog.godebug = none := by kernel_rfl
theorem laidOut : laidOutB Try.prog = true := by kernel_rfl
set_option maxRecDepth 100000 in
theorem lifted (os : Os) (started : os.Started) (H : Type) (enc : TypeId × Value → H) :
    ReturnsInHanded {} Try.checked os 8 .any (Rows.imageTurnedSpec.pre6 enc Try.prog Try.f8 Rows.imageTurnedRow.domain false) (Rows.imageTurnedSpec.post enc Try.prog Try.f8 false true false false) := by
  refine returnsInHanded_of_change (C := Try.checked) own started (by kernel_rfl) Try.func8
    (ChangeSpec.witness6 (enc := enc) (C := Try.checked) false ⟨#[], #[.agg #[.int .i64 0, .int .i64 0, .int .i64 0, .int .i64 0, .int .i64 0, .int .i64 0, .int .i64 0, .slice none 0 0], .int .u16 0, .int .u8 0], []⟩ 8 (by kernel_rfl) (by kernel_rfl) (by kernel_rfl) (by kernel_rfl)) ?_
  intro W base args ds gs before hval0 hW hcnd _
  have hval : ∀ (j : Nat) t v, Try.f8.params[j]? = some t → args[j]? = some v → Value.okWide Try.prog W .any base t v := hval0
  have hW' := hW
  obtain ⟨p, q, hA0, hV, rfl, hfz, hnd⟩ := hW
  have hA : DataW.TrodAll enc Try.prog W 0 (fun _ => true) true Try.f8.params.toList args.toList ds p := hA0
  rw [Try.params8] at hA hval
  obtain ⟨v0, vs0, d0, ds0, p0, q0, hargs, rfl, rfl, h0, r0⟩ := trodAll_cons hA
  obtain ⟨v1, vs1, d1, ds1, p1, q1, rfl, rfl, rfl, h1, r1⟩ := trodAll_cons r0
  obtain ⟨v2, vs2, d2, ds2, p2, q2, rfl, rfl, rfl, h2, r2⟩ := trodAll_cons r1
  obtain ⟨rfl, rfl, rfl⟩ := trodAll_nil r2
  obtain rfl : args = #[v0, v1, v2] := by cases args; simp_all
  obtain ⟨rfl, rfl⟩ := trodVars_none hV
  have k0 := h0
  have lt0 : ∀ x ∈ p0, x.block < W.heap.size := by obtain ⟨m, hm⟩ := k0; exact DataW.trod_lt m _ _ _ hm
  have k1 := h1
  have lt1 : ∀ x ∈ p1, x.block < W.heap.size := by obtain ⟨m, hm⟩ := k1; exact DataW.trod_lt m _ _ _ hm
  have k2 := h2
  have lt2 : ∀ x ∈ p2, x.block < W.heap.size := by obtain ⟨m, hm⟩ := k2; exact DataW.trod_lt m _ _ _ hm
  obtain ⟨i0, A0, c0, rfl, w0⟩ := open_img (hval 0 41 v0 rfl rfl) h0
  obtain ⟨a1, rfl, rfl, rfl, w1⟩ := open_int Try.underlying43 (hval 1 43 v1 rfl rfl) h1
  obtain ⟨a2, rfl, rfl, rfl, w2⟩ := open_int Try.underlying5 (hval 2 5 v2 rfl rfl) h2
  clear hA0 hval0
  refine (imgTurned_law W i0 A0 c0 w0 a1 w1 a2 w2).mono fun e W' ⟨he, bel⟩ => ?_
  subst he
  exact ⟨_, rfl, _, _, _, [], _, [], hW', trodAll_mk1 (shut_bool Try.underlying4 _), (trodAll_cons_mk (Below.trod laidOut (by kernel_rfl) (of_decide_eq_true (by kernel_rfl)) k0 bel lt0) (trodAll_cons_mk (Below.trod laidOut (by kernel_rfl) (of_decide_eq_true (by kernel_rfl)) k1 bel lt1) (trodAll_cons_mk (Below.trod laidOut (by kernel_rfl) (of_decide_eq_true (by kernel_rfl)) k2 bel lt2) trodAll_mk0))), rfl, bel.frame _, fun h => by cases h⟩
theorem over : Rows.imageTurnedRow.holds Try.pinned (OpenSpec.ofChange Rows.imageTurnedSpec) :=
  OpenClaim.holds_of_wide 8 Try.f8 rfl rfl rfl rfl rfl rfl rfl ⟨rfl, rfl, rfl, rfl, rfl⟩ rfl rfl rfl rfl rfl (by kernel_rfl) Try.func8 (by kernel_rfl)
    (of_decide_eq_true (by kernel_rfl)) (by unfold Func.isWrapper; first | (rw [if_pos (by decide +kernel)]; kernel_rfl) | (rw [if_neg (by decide +kernel)]; exact ⟨rfl, rfl⟩))
    (fun os started H enc _ => lifted os started H enc)
theorem proved : Rows.ImageTurnedSaid := over
#print axioms proved
end lawImageTurned
end Go.Proofs.Ytojffpfgmlegdaa
