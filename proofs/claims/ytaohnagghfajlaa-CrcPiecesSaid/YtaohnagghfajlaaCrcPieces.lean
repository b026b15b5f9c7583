/-
  CrcPieces: fed piece by piece, wherever the pieces end, the sum is the whole's; the pieces stay as they were. For every input.
-/
import Derived.Test.YtaohnagghfajlaaCrcSums
namespace Go.Proofs.Ytaohnagghfajlaa
open Go.RowKit Go.ChangeShapes Go.WideShapes Go.ChangeAt

theorem crcPieces_any (A : Option Addr) (n c : Nat) (ls : List (List UInt8)) (w : World) (hr : Reads2 w w.heap.size A n ls) (hnc : n ≤ c) (hc : c ≤ maxLen) :
    Calls Try.prog 6 #[.slice A n c] w fun e w' => e = .returned (.bool true) ∧ Below w.heap.size w w' := by
  unfold maxLen at hc
  by_cases hn : 50 < n
  · go_enter Try.func6, Try.ntmps6
    go_wp2_with fail
    refine (crcWakes_any w).mono ?_
    rintro e w0 ⟨rfl, hb0⟩
    go_wp2_with fail
    go_ret
    exact ⟨rfl, hb0⟩
  · have hl := hr.len
    have HL := hid hl
    clear hl
    have hmk := hid begin_any
    obtain ⟨x0, hx0⟩ : ∃ x0 : BitVec 32, x0 = 4294967295#32 := ⟨_, rfl⟩
    rw [← hx0] at hmk
    have HX := hid hx0
    clear hx0
    go_enter Try.func6, Try.ntmps6
    go_wp2_with fail
    refine (crcWakes_any w).mono ?_
    rintro e w0 ⟨rfl, hb0⟩
    go_wp2_with fail
    refine (make_any _).mono ?_
    rintro e w1 ⟨g, rfl, hg, ht, hb1⟩
    have hb01 := bel_trans hb0 hb1
    have hr1 := hr.belowS hb01
    go_wp2_with fail
    refine (hmk.out _).mono ?_
    rintro e w' ⟨rfl, rfl⟩
    clear hr hmk
    go_wp2_with fail
    go_loopw [4, 5, 6, 16] (fun v4 v5 _ v16 wr => ∃ (k m c5 : Nat) (A5 : Option Addr) (y : BitVec 32), k ≤ n ∧ v16 = .int .i64 (k : Int) ∧ v4 = uV y ∧ v5 = .slice A5 m c5 ∧ Hid (y = feedL x0 (ls.take k).flatten) ∧ m ≤ 200 * k ∧ wr.ownsRow w1.heap.size 5 1 (.slice A5 m c5) m ((ls.take k).flatten.map bV) ∧ Below w1.heap.size w1 wr) (fun _ _ _ v16 _ => n - (intOf v16).toNat)
    case atStart => exact ⟨0, 0, 0, none, x0, by omega, rfl, rfl, rfl, by refine hid ?_; simp [feedL], by omega, World.ownsRow_nil _ _ _ _, Below.refl _ _⟩
    case round =>
      obtain ⟨k, m, c5, A5, y, hk, rfl, rfl, rfl, HY, hm, hown, hbel⟩ := hrel
      have hr2 := hr1.below hbel
      have htr := ht.belowS hbel
      clear hr1 ht
      by_cases hkn : k < n
      · obtain ⟨l, ad, A', c', hlk, rfl, had, hcell, hrl, hlc, hcm⟩ := hr2.at_ hkn
        have HLK := hid hlk
        obtain ⟨q, hq⟩ : ∃ q, q = l.length := ⟨_, rfl⟩
        rw [← hq] at hcell hrl hlc
        have HQ := hid hq
        clear hlk hq hr2
        unfold maxLen at hcm
        by_cases hbig : 200 < q
        · go_wp2_with fail
          go_ret
          exact ⟨rfl, hb01.trans (hbel.mono hb01.size)⟩
        · have HS : Hid (feedL y l = feedL x0 (ls.take (k + 1)).flatten) := by
            refine hid ?_
            rw [List.take_add_one, HLK.out, HY.out, ← feedL_append]
            simp
          have HF : Hid ((ls.take (k + 1)).flatten = (ls.take k).flatten ++ l) := by
            refine hid ?_
            rw [List.take_add_one, HLK.out]
            simp
          go_wp2_with fail
          refine (feed_any g y A' q c' l _ wr htr hrl (by omega)).mono ?_
          rintro e w' ⟨rfl, rfl⟩
          go_wp2_with (at_builtin; refine appB _ rfl (.tmp 32) (.tmp 36) rfl w1.heap.size A5 m c5 _ rfl hown _ A' q c' l rfl hrl (by omega) hbel.size ?_; intro A6 c6 w6 hown6 hg6 hb6)
          go_roundw
          case rel => exact ⟨k + 1, m + q, c6, A6, feedL y l, by omega, by go_num, rfl, rfl, HS, by omega, by rw [HF.out]; exact hown6, hbel.trans hb6⟩
          case measure => simp [intOf]; omega
      · obtain rfl : k = n := by omega
        have HT : Hid (ls.take k = ls) := hid (List.take_of_length_le (by have := HL.out; omega))
        rw [HT.out] at hown
        have HE : Hid (4294967295#32 - y = crcOf ls.flatten) := by
          refine hid ?_
          rw [HY.out, HT.out, HX.out]
          rfl
        have hend := hid (fun w => end_any y w)
        rw [HE.out] at hend
        go_wp2_with fail
        refine (hend.out _).mono ?_
        rintro e w' ⟨rfl, rfl⟩
        go_wp2_with fail
        refine (refSum_any A5 m c5 _ _ wr (Reads.of_own hown) (by omega)).mono ?_
        rintro e w' ⟨rfl, rfl⟩
        go_wp2_with fail
        go_ret
        exact ⟨by simp, hb01.trans (hbel.mono hb01.size)⟩

/-! ### CrcPieces: from the walk to the given statement -/
namespace lawCrcPieces
theorem own : ownKnob Try.prog.godebug = none := by kernel_rfl
theorem laidOut : laidOutB Try.prog = true := by kernel_rfl
set_option maxRecDepth 100000 in
theorem lifted (os : Os) (started : os.Started) (H : Type) (enc : TypeId × Value → H) :
    ReturnsInHanded {} Try.checked os 6 .any (Rows.crcPiecesSpec.pre6 enc Try.prog Try.f6 Rows.crcPiecesRow.domain false) (Rows.crcPiecesSpec.post enc Try.prog Try.f6 false true false false) := by
  refine returnsInHanded_of_change (C := Try.checked) own started (by kernel_rfl) Try.func6
    (ChangeSpec.witness6 (enc := enc) (C := Try.checked) false ⟨#[], #[.slice none 0 0], []⟩ 8 (by kernel_rfl) (by kernel_rfl) (by kernel_rfl) (by kernel_rfl)) ?_
  intro W base args ds gs before hval0 hW hcnd _
  have hval : ∀ (j : Nat) t v, Try.f6.params[j]? = some t → args[j]? = some v → Value.okWide Try.prog W .any base t v := hval0
  have hW' := hW
  obtain ⟨p, q, hA0, hV, rfl, hfz, hnd⟩ := hW
  have hA : DataW.TrodAll enc Try.prog W 0 (fun _ => true) true Try.f6.params.toList args.toList ds p := hA0
  rw [Try.params6] at hA hval
  obtain ⟨v0, vs0, d0, ds0, p0, q0, hargs, rfl, rfl, h0, r0⟩ := trodAll_cons hA
  obtain ⟨rfl, rfl, rfl⟩ := trodAll_nil r0
  obtain rfl : args = #[v0] := by cases args; simp_all
  obtain ⟨rfl, rfl⟩ := trodVars_none hV
  have k0 := h0
  have lt0 : ∀ x ∈ p0, x.block < W.heap.size := by obtain ⟨m, hm⟩ := k0; exact DataW.trod_lt m _ _ _ hm
  obtain ⟨A0, n0, c0, b0, rfl, w0, g0, l0⟩ := open_bytes2 Try.underlying40 Try.underlying23 Try.underlying5 (by kernel_rfl) (by kernel_rfl) (hval 0 40 v0 rfl rfl) h0
  clear hA0 hval0
  refine (crcPieces_any A0 n0 c0 b0 W w0 g0 l0).mono fun e W' ⟨he, bel⟩ => ?_
  subst he
  exact ⟨_, rfl, _, _, _, [], _, [], hW', trodAll_mk1 (shut_bool Try.underlying4 _), (trodAll_cons_mk (Below.trod laidOut (by kernel_rfl) (of_decide_eq_true (by kernel_rfl)) k0 bel lt0) trodAll_mk0), rfl, bel.frame _, fun h => by cases h⟩
theorem over : Rows.crcPiecesRow.holds Try.pinned (OpenSpec.ofChange Rows.crcPiecesSpec) :=
  OpenClaim.holds_of_wide 6 Try.f6 rfl rfl rfl rfl rfl rfl rfl ⟨rfl, rfl, rfl, rfl, rfl⟩ rfl rfl rfl rfl rfl (by kernel_rfl) Try.func6 (by kernel_rfl)
    (of_decide_eq_true (by kernel_rfl)) (by unfold Func.isWrapper; first | (rw [if_pos (by decide +kernel)]; kernel_rfl) | (rw [if_neg (by decide +kernel)]; exact ⟨rfl, rfl⟩))
    (fun os started H enc _ => lifted os started H enc)
theorem proved : Rows.CrcPiecesSaid := over
#print axioms proved
end lawCrcPieces
end Go.Proofs.Ytaohnagghfajlaa
