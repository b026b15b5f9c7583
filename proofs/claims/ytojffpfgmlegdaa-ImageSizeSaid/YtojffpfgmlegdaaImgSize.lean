/-
  ImageSize: an image's bytes are 49 more than its code's; no beginning of them is an image's. For every input.
-/
import Derived.Test.YtojffpfgmlegdaaImgGet2
import Derived.Test.YtojffpfgmlegdaaImgCut
import Derived.Test.YtojffpfgmlegdaaOpenImg
namespace Go.Proofs.Ytojffpfgmlegdaa
open Go.RowKit Go.ChangeShapes Go.WideShapes Go.ChangeAt

theorem sha_none : (shaOf []).take 1 ≠ [76] := by decide +kernel
theorem sha_one : (shaOf [76]).take 1 ≠ [73] := by decide +kernel
theorem imgB_head (i : ImgS) : ∃ r, imgB i = 76 :: 73 :: r := by
  have h : putB 19529 2 = [76, 73] := by decide
  have h2 : ∃ r, headB i = 76 :: 73 :: r := by
    unfold headB headK headA
    rw [h]
    exact ⟨_, rfl⟩
  obtain ⟨r, hr⟩ := h2
  unfold imgB digI
  rw [hr]
  exact ⟨_, rfl⟩
/-- What Get says of a beginning of an image's bytes: an error, ErrEnd or ErrDigest. -/
theorem cut_ways (i : ImgS) (h : RightI i) (A : Option Addr) (K c : Nat) (w : World) (hK : K < 49 + i.code.length) (hl : (imgB i).length = 49 + i.code.length) (hlh : (headB i).length = 13 + i.code.length) (hr : Reads w w.heap.size 1 A K (((imgB i).take K).map bV)) (hKc : K ≤ c) (hcm : c ≤ maxLen) :
    ∃ x : Int, (x = 1 ∨ x = 10) ∧ Calls Try.prog 24 #[.slice A K c] w fun e w' => e = .returned (.tuple #[imgZ, .int .i64 x]) ∧ Below w.heap.size w w' := by
  have hn96 : i.code.length ≤ 96 := by have := h.2.2.2.2.2.2.2.2; omega
  by_cases h36 : K < 36
  · exact ⟨1, .inl rfl, imgGet_short A K c w h36⟩
  obtain ⟨D, rfl⟩ : ∃ D, K = D + 36 := ⟨K - 36, by omega⟩
  by_cases hs : sum4 (((imgB i).take (D + 36)).take (D + 32)) = ((imgB i).take (D + 36)).drop (D + 32)
  · by_cases hd : shaOf (((imgB i).take (D + 36)).take D) = (((imgB i).take (D + 36)).take (D + 32)).drop D
    · have hbody : ((imgB i).take (D + 36)).take D = (headB i).take D := by
        rw [List.take_take, show min D (D + 36) = D by omega]
        unfold imgB digI
        rw [List.append_assoc, List.take_append_of_le_length (by omega)]
      have hdr : (((imgB i).take (D + 36)).take (D + 32)).drop D = ((imgB i).drop D).take 32 := by
        rw [List.take_take, show min (D + 32) (D + 36) = D + 32 by omega, List.drop_take]
        congr 1
        omega
      obtain ⟨r, hr2⟩ := imgB_head i
      have hD2 : 2 ≤ D := by
        rcases Nat.lt_or_ge D 2 with hlt | hge
        · exfalso
          have hb : ((imgB i).take (D + 36)).take D = (76 :: 73 :: r).take D := by rw [List.take_take, show min D (D + 36) = D by omega, hr2]
          rw [hdr, hb, hr2] at hd
          have h1 := congrArg (List.take 1) hd
          rw [List.take_take, show min 1 32 = 1 from rfl] at h1
          have : D = 0 ∨ D = 1 := by omega
          rcases this with rfl | rfl
          · exact sha_none h1
          · exact sha_one h1
        · exact hge
      refine ⟨1, .inl rfl, imgGet_thru A D c ((imgB i).take (D + 36)) w hr (by omega) hKc hcm hs hd 1 (fun ad w' hr' => ?_)⟩
      rw [hbody] at hr'
      obtain ⟨⟨v1, s1⟩, e1⟩ : ∃ p, rNum ⟨(headB i).take D, 0⟩ 2 = p := ⟨_, rfl⟩
      obtain ⟨⟨v2, s2⟩, e2⟩ : ∃ p, rNum s1 1 = p := ⟨_, rfl⟩
      obtain ⟨⟨v3, s3⟩, e3⟩ : ∃ p, rNum s2 2 = p := ⟨_, rfl⟩
      obtain ⟨⟨v4, s4⟩, e4⟩ : ∃ p, rNum s3 2 = p := ⟨_, rfl⟩
      obtain ⟨⟨v5, s5⟩, e5⟩ : ∃ p, rNum s4 1 = p := ⟨_, rfl⟩
      obtain ⟨⟨v6, s6⟩, e6⟩ : ∃ p, rNum s5 1 = p := ⟨_, rfl⟩
      obtain ⟨⟨v7, s7⟩, e7⟩ : ∃ p, rNum s6 1 = p := ⟨_, rfl⟩
      obtain ⟨⟨v8, s8⟩, e8⟩ : ∃ p, rNum s7 1 = p := ⟨_, rfl⟩
      obtain ⟨⟨T, s9⟩, et⟩ : ∃ p, rText s8 65535 = p := ⟨_, rfl⟩
      obtain ⟨rfl, hend⟩ := head_cut i h D hD2 (by omega) _ _ _ _ _ _ _ _ _ _ _ _ _ _ _ _ _ _ e1 e2 e3 e4 e5 e6 e7 e8 et
      exact parse_end (some ad) D c _ w' hr' (by omega) _ _ _ _ _ _ _ _ _ _ _ _ _ _ _ _ _ e1 e2 e3 e4 e5 e6 e7 e8 et 1 hend (by decide)
    · exact ⟨10, .inr rfl, imgGet_bad2 A D c _ w hr (by omega) hKc hcm hs hd⟩
  · exact ⟨10, .inr rfl, imgGet_bad A D c _ w hr (by omega) hKc hcm hs⟩
theorem headB_len (i : ImgS) (h : i.code.length ≤ 65535) : (headB i).length = 13 + i.code.length := by
  unfold headB
  rw [List.length_append, headK_len i 4 (by omega), textB_small _ h, List.length_append, putB_length]
  omega
set_option maxRecDepth 100000 in
set_option maxHeartbeats 4000000 in
theorem imgSize_any (w : World) (i : ImgS) (A : Option Addr) (c : Nat) (h : ImgCame w i A c) (a : Nat) (ha : a < 65536) :
    Calls Try.prog 9 #[imgV i A c, .int .u16 (a : Int)] w fun e w' => e = .returned (.bool true) ∧ Below w.heap.size w w' := by
  obtain ⟨w1, hw1, hb1, hblk1, hs1⟩ := img_in i A c w
  have hcm := h.hm
  have hlc := h.hc
  have HRD := hid (h.rd.belowS hb1)
  have ib := hid (fun w' => imgPut_no i A c w' (by unfold maxLen at hcm; omega))
  have io := hid (fun w' hr => imgPut_yes i A c w' hr hlc hcm)
  clear h
  unfold imgC at hblk1
  simp only [imgV] at io ib ⊢
  go_enter Try.func9, Try.ntmps9
  go_wp2_with fail
  clear hw1 hs1
  refine (imgWakes_any _).mono ?_
  rintro e w2 ⟨rfl, hb2⟩
  have hblk2 := hblk1.belowS hb2
  have hb02 := bel_trans hb1 hb2
  have HRD2 := hid (HRD.out.belowS hb2)
  obtain ⟨c0, c1, c2, c3, c4, c5, c6, c7⟩ : _ ∧ _ ∧ _ ∧ _ ∧ _ ∧ _ ∧ _ ∧ _ := ⟨hblk2.cellAt (i := 0) rfl, hblk2.cellAt (i := 1) rfl, hblk2.cellAt (i := 2) rfl, hblk2.cellAt (i := 3) rfl, hblk2.cellAt (i := 4) rfl, hblk2.cellAt (i := 5) rfl, hblk2.cellAt (i := 6) rfl, hblk2.cellAt (i := 7) rfl⟩
  clear hblk1 hb1 hb2 HRD
  by_cases hR : rightI i = true
  · have j := hid (io.out w2 HRD2.out hR)
    have hRI := hid ((rightI_iff i).1 hR)
    have hn : i.code.length ≤ 96 := by have := hRI.out.2.2.2.2.2.2.2.2; omega
    have HLH := hid (headB_len i (by omega))
    obtain ⟨N, hN⟩ : ∃ N, 49 + i.code.length = N := ⟨_, rfl⟩
    rw [hN] at j
    have HN := hid hN
    have hN49 : 49 ≤ N := by omega
    have hN145 : N ≤ 145 := by omega
    clear hR io ib hN
    go_wp2_with fail
    refine j.out.mono ?_
    rintro e w3 ⟨A3, d3, rfl, hown3, hb3⟩
    have hblk3 := hblk2.belowS hb3
    have hb03 := bel_trans hb02 hb3
    have hlen := own_len hown3
    rw [List.length_map, Nat.mul_one] at hlen
    have hcap := own_cap hown3
    obtain ⟨K, hK, hK2⟩ : ∃ K : Nat, (a : Int) % (N : Int) = (K : Int) ∧ K < N := ⟨a % N, by omega, Nat.mod_lt _ (by omega)⟩
    have haw : IntKind.i64.wrap (a : Int) = (a : Int) := IntWalk.i64_in _ (by omega)
    have hz : ((N : Int) == 0) = false := by simp; omega
    have hrk := (Reads.of_own hown3).front (k := K) (by omega)
    rw [Nat.mul_one, ← List.map_take] at hrk
    obtain ⟨x, hx, hget⟩ := cut_ways i hRI.out A3 K d3 w3 (by rw [HN.out]; exact hK2) (by rw [hlen, HN.out]) HLH.out hrk (by omega) hcap.2
    have HG := hid hget
    have HB3 := hid hblk3
    have HB03 := hid hb03
    have hcapm := hcap.2
    unfold maxLen at hcapm
    have hc1 := hcap.1
    have k0 : (0 : Int) ≤ (K : Int) := Int.natCast_nonneg _
    have k1 : (K : Int) ≤ (d3 : Int) := by omega
    have k2 : (K : Int) ≤ (N : Int) := by omega
    clear c0 c1 c2 c3 c4 c5 c6 c7 hblk2 hb02 j HRD2 hget hblk3 hb03 hown3 hrk hlen hcap
    go_wp2_with fail
    have hget := HG.out
    unfold imgZ at hget
    refine hget.mono ?_
    rintro e w4 ⟨rfl, hb4⟩
    have hblk4 := HB3.out.belowS hb4
    have hb04 := bel_trans HB03.out hb4
    have c7 := hblk4.cellAt (i := 7) rfl
    have hlt := hblk4.lt
    have hfin := hid (hb04)
    have hN1 : ((N : Int) == 49 + (i.code.length : Int)) = true := by
      have := HN.out
      simp only [beq_iff_eq]
      omega
    have hN2 : 49 + (i.code.length : Int) = (N : Int) := by have := HN.out; omega
    have hNN : ((N : Int) == (N : Int)) = true := by simp
    clear hget hblk4 hb04 hb4 HG HB3 hK hz haw hN1
    rcases hx with rfl | rfl
    all_goals
      go_wp2_with fail
      go_ret
      exact ⟨rfl, bel_alloc hfin.out _⟩
  · have hR' : rightI i = false := by simpa using hR
    have j := hid (ib.out w2)
    have j2 := hid (j.out hR')
    clear hR hR' io ib j
    go_wp2_with fail
    refine j2.out.mono ?_
    rintro e w3 ⟨rfl, hb3⟩
    have hb03 := hid (bel_trans hb02 hb3)
    go_wp2_with fail
    go_ret
    exact ⟨rfl, hb03.out⟩
theorem imgSize_law (w : World) (i : ImgS) (A : Option Addr) (c : Nat) (h : ImgCame w i A c) (x : Int) (hx : (Lit.int .u16 x).wf = true) :
    Calls Try.prog 9 #[imgV i A c, .int .u16 x] w fun e w' => e = .returned (.bool true) ∧ Below w.heap.size w w' := by
  have hb := bounds_u16 hx
  have e : x = ((x.toNat : Nat) : Int) := by omega
  rw [e]
  exact imgSize_any w i A c h _ (by omega)
/-! ### ImageSize: from the walk to the given statement -/
namespace lawImageSize
theorem own : ownKnob Try.prog.godebug = none := by kernel_rfl
theorem laidOut : laidOutB Try.prog = true := by kernel_rfl
set_option maxRecDepth 100000 in
theorem lifted (os : Os) (started : os.Started) (H : Type) (enc : TypeId × Value → H) :
    ReturnsInHanded {} Try.checked os 9 .any (Rows.imageSizeSpec.pre6 enc Try.prog Try.f9 Rows.imageSizeRow.domain false) (Rows.imageSizeSpec.post enc Try.prog Try.f9 false true false false) := by
  refine returnsInHanded_of_change (C := Try.checked) own started (by kernel_rfl) Try.func9
    (ChangeSpec.witness6 (enc := enc) (C := Try.checked) false ⟨#[], #[.agg #[.int .i64 0, .int .i64 0, .int .i64 0, .int .i64 0, .int .i64 0, .int .i64 0, .int .i64 0, .slice none 0 0], .int .u16 0], []⟩ 8 (by kernel_rfl) (by kernel_rfl) (by kernel_rfl) (by kernel_rfl)) ?_
  intro W base args ds gs before hval0 hW hcnd _
  have hval : ∀ (j : Nat) t v, Try.f9.params[j]? = some t → args[j]? = some v → Value.okWide Try.prog W .any base t v := hval0
  have hW' := hW
  obtain ⟨p, q, hA0, hV, rfl, hfz, hnd⟩ := hW
  have hA : DataW.TrodAll enc Try.prog W 0 (fun _ => true) true Try.f9.params.toList args.toList ds p := hA0
  rw [Try.params9] at hA hval
  obtain ⟨v0, vs0, d0, ds0, p0, q0, hargs, rfl, rfl, h0, r0⟩ := trodAll_cons hA
  obtain ⟨v1, vs1, d1, ds1, p1, q1, rfl, rfl, rfl, h1, r1⟩ := trodAll_cons r0
  obtain ⟨rfl, rfl, rfl⟩ := trodAll_nil r1
  obtain rfl : args = #[v0, v1] := by cases args; simp_all
  obtain ⟨rfl, rfl⟩ := trodVars_none hV
  have k0 := h0
  have lt0 : ∀ x ∈ p0, x.block < W.heap.size := by obtain ⟨m, hm⟩ := k0; exact DataW.trod_lt m _ _ _ hm
  have k1 := h1
  have lt1 : ∀ x ∈ p1, x.block < W.heap.size := by obtain ⟨m, hm⟩ := k1; exact DataW.trod_lt m _ _ _ hm
  obtain ⟨i0, A0, c0, rfl, w0⟩ := open_img (hval 0 41 v0 rfl rfl) h0
  obtain ⟨a1, rfl, rfl, rfl, w1⟩ := open_int Try.underlying43 (hval 1 43 v1 rfl rfl) h1
  clear hA0 hval0
  refine (imgSize_law W i0 A0 c0 w0 a1 w1).mono fun e W' ⟨he, bel⟩ => ?_
  subst he
  exact ⟨_, rfl, _, _, _, [], _, [], hW', trodAll_mk1 (shut_bool Try.underlying4 _), (trodAll_cons_mk (Below.trod laidOut (by kernel_rfl) (of_decide_eq_true (by kernel_rfl)) k0 bel lt0) (trodAll_cons_mk (Below.trod laidOut (by kernel_rfl) (of_decide_eq_true (by kernel_rfl)) k1 bel lt1) trodAll_mk0)), rfl, bel.frame _, fun h => by cases h⟩
theorem over : Rows.imageSizeRow.holds Try.pinned (OpenSpec.ofChange Rows.imageSizeSpec) :=
  OpenClaim.holds_of_wide 9 Try.f9 rfl rfl rfl rfl rfl rfl rfl ⟨rfl, rfl, rfl, rfl, rfl⟩ rfl rfl rfl rfl rfl (by kernel_rfl) Try.func9 (by kernel_rfl)
    (of_decide_eq_true (by kernel_rfl)) (by unfold Func.isWrapper; first | (rw [if_pos (by decide +kernel)]; kernel_rfl) | (rw [if_neg (by decide +kernel)]; exact ⟨rfl, rfl⟩))
    (fun os started H enc _ => lifted os started H enc)
theorem proved : Rows.ImageSizeSaid := over
#print axioms proved
end lawImageSize
end Go.Proofs.Ytojffpfgmlegdaa
