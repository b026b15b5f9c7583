/-
  CrcTurned: of bytes of which one is turned the sum is another one. For every input.
-/
import Derived.Test.YtaohnagghfajlaaCrcSums
namespace Go.Proofs.Ytaohnagghfajlaa
open Go.RowKit Go.ChangeShapes Go.WideShapes Go.ChangeAt

theorem xor_u8 (a b : UInt8) : bits BinOp.xor IntKind.u8 (a.toNat : Int) (b.toNat : Int) = ((a ^^^ b).toNat : Int) := by
  rw [UInt8.toNat_xor]
  exact u8_xor_nat _ _ (UInt8.toNat_lt a) (UInt8.toNat_lt b)
theorem xor_ne (a b : UInt8) (h : b ≠ 0) : a ^^^ b ≠ a := by
  intro e
  apply h
  have : a ^^^ (a ^^^ b) = a ^^^ a := by rw [e]
  rwa [← UInt8.xor_assoc, UInt8.xor_self, UInt8.zero_xor] at this
theorem crcTurned_any (A : Option Addr) (n c : Nat) (bs : List UInt8) (a : Nat) (d : UInt8) (w : World) (hr : Reads w w.heap.size 1 A n (bs.map bV)) (hnc : n ≤ c) (hc : c ≤ maxLen) (ha : a < 65536) :
    Calls Try.prog 7 #[.slice A n c, .int .u16 (a : Int), bV d] w fun e w' => e = .returned (.bool true) ∧ Below w.heap.size w w' := by
  unfold maxLen at hc
  by_cases hq : n = 0 ∨ 2000 < n ∨ d = 0
  · have hd : (n = 0) ∨ (¬ n = 0 ∧ 2000 < n) ∨ (¬ n = 0 ∧ ¬ 2000 < n ∧ d.toNat = 0) := by
      rcases hq with h | h | h
      · exact .inl h
      · exact .inr (.inl ⟨by omega, h⟩)
      · subst h
        by_cases h1 : n = 0
        · exact .inl h1
        · by_cases h2 : 2000 < n
          · exact .inr (.inl ⟨h1, h2⟩)
          · exact .inr (.inr ⟨h1, h2, rfl⟩)
    clear hq
    rcases hd with h | ⟨h1, h2⟩ | ⟨h1, h2, h3⟩
    all_goals
      go_enter Try.func7, Try.ntmps7
      go_wp2_with fail
      refine (crcWakes_any w).mono ?_
      rintro e w0 ⟨rfl, hb0⟩
      go_wp2_with fail
      go_ret
      exact ⟨rfl, hb0⟩
  · have hn0 : ¬ n = 0 := fun h => hq (.inl h)
    have hn1 : ¬ 2000 < n := fun h => hq (.inr (.inl h))
    have hd : d ≠ 0 := fun h => hq (.inr (.inr h))
    have hd2 : ¬ d.toNat = 0 := fun h => hd (UInt8.toNat.inj h)
    have HD := hid hd
    clear hq hd
    have hl : bs.length = n := by simpa using hr.len
    have HL := hid hl
    clear hl
    have hq1 : ((n : Int) == 0) = false := by simp; omega
    have hq2 : decide (2000 < (n : Int)) = false := by simp; omega
    have hq3 : ((d.toNat : Int) == 0) = false := by simp; omega
    obtain ⟨K, hK, hK2⟩ : ∃ K : Nat, (a : Int) % (n : Int) = (K : Int) ∧ K < n := ⟨a % n, by omega, Nat.mod_lt _ (by omega)⟩
    go_enter Try.func7, Try.ntmps7
    go_wp2_with fail
    refine (crcWakes_any w).mono ?_
    rintro e w0 ⟨rfl, hb0⟩
    have hr0 := hr.belowS hb0
    go_wp2_with (at_builtin; refine copyB _ rfl (.tmp 23) (.tmp 24) rfl rfl A n c bs rfl hr0 (by omega) ?_; intro A1 c1 w1 hown1 hb1; obtain ⟨g, rfl, hg1, hg2⟩ := own_some hown1 (by omega); obtain ⟨b, hbk, hcell, hfr⟩ := own_cellM (k := K) hown1 hK2; have hxor := xor_u8 b d; have hst := own_storeM hown1 K (b ^^^ d); have HB := hid hbk; clear hbk)
    clear hq1 hq2 hq3 hK hxor
    refine (make_any _).mono ?_
    rintro e w2 ⟨g2, rfl, hg2, ht, hb2⟩
    have hb12 : Below w0.heap.size w0 (w1.setCell ⟨g, K, none⟩ (bV (b ^^^ d))) := hb1.trans hst.2
    have hb02 := bel_trans hb12 hb2
    have hr2 := hr0.belowS hb02
    have hr3 := (Reads.of_own hst.1).belowS hb2
    go_wp2_with fail
    refine (sum_any g2 A n c bs _ w2 ht hr2 (by omega)).mono ?_
    rintro e w3 ⟨rfl, rfl⟩
    go_wp2_with fail
    refine (sum_any g2 _ n c1 _ _ w2 ht hr3 (by omega)).mono ?_
    rintro e w3 ⟨rfl, rfl⟩
    have hne : ((crcOf bs).toNat : Int) != ((crcOf (bs.set K (b ^^^ d))).toNat : Int) := by
      rw [bne_iff_ne]
      intro h
      have hlt : K < bs.length := by rw [HL.out]; exact hK2
      refine crc_turned bs K hlt (b ^^^ d) ?_ (BitVec.eq_of_toNat_eq (by omega))
      have hb : bs[K] = b := by have := HB.out; rw [List.getElem?_eq_getElem hlt] at this; injection this
      rw [hb]
      exact xor_ne b d HD.out
    generalize crcOf (bs.set K (b ^^^ d)) = z2 at hne
    generalize crcOf bs = z1 at hne
    go_wp2_with fail
    go_ret
    exact ⟨rfl, bel_trans hb0 hb02⟩
theorem crcTurned_law (A : Option Addr) (n c : Nat) (bs : List UInt8) (x d : Int) (w : World) (hr : Reads w w.heap.size 1 A n (bs.map bV)) (hnc : n ≤ c) (hc : c ≤ maxLen) (hx : (Lit.int .u16 x).wf = true) (hd : (Lit.int .u8 d).wf = true) :
    Calls Try.prog 7 #[.slice A n c, .int .u16 x, .int .u8 d] w fun e w' => e = .returned (.bool true) ∧ Below w.heap.size w w' := by
  have hb := bounds_u16 hx
  have hb2 := bounds_u8 hd
  have e : x = ((x.toNat : Nat) : Int) := by omega
  have e2 : d = ((UInt8.ofNat d.toNat).toNat : Int) := by rw [UInt8.toNat_ofNat']; omega
  rw [e, e2]
  exact crcTurned_any A n c bs _ _ w hr hnc hc (by omega)

/-! ### CrcTurned: from the walk to the given statement -/
namespace lawCrcTurned
theorem own : ownKnob Try.prog.godebug = none := by kernel_rfl
theorem laidOut : laidOutB Try.prog = true := by kernel_rfl
set_option maxRecDepth 100000 in
theorem lifted (os : Os) (started : os.Started) (H : Type) (enc : TypeId × Value → H) :
    ReturnsInHanded {} Try.checked os 7 .any (Rows.crcTurnedSpec.pre6 enc Try.prog Try.f7 Rows.crcTurnedRow.domain false) (Rows.crcTurnedSpec.post enc Try.prog Try.f7 false true false false) := by
  refine returnsInHanded_of_change (C := Try.checked) own started (by kernel_rfl) Try.func7
    (ChangeSpec.witness6 (enc := enc) (C := Try.checked) false ⟨#[], #[.slice none 0 0, .int .u16 0, .int .u8 0], []⟩ 8 (by kernel_rfl) (by kernel_rfl) (by kernel_rfl) (by kernel_rfl)) ?_
  intro W base args ds gs before hval0 hW hcnd _
  have hval : ∀ (j : Nat) t v, Try.f7.params[j]? = some t → args[j]? = some v → Value.okWide Try.prog W .any base t v := hval0
  have hW' := hW
  obtain ⟨p, q, hA0, hV, rfl, hfz, hnd⟩ := hW
  have hA : DataW.TrodAll enc Try.prog W 0 (fun _ => true) true Try.f7.params.toList args.toList ds p := hA0
  rw [Try.params7] at hA hval
  obtain ⟨v0, vs0, d0, ds0, p0, q0, hargs, rfl, rfl, h0, r0⟩ := trodAll_cons hA
  obtain ⟨v1, vs1, d1, ds1, p1, q1, rfl, rfl, rfl, h1, r1⟩ := trodAll_cons r0
  obtain ⟨v2, vs2, d2, ds2, p2, q2, rfl, rfl, rfl, h2, r2⟩ := trodAll_cons r1
  obtain ⟨rfl, rfl, rfl⟩ := trodAll_nil r2
  obtain rfl : args = #[v0, v1, v2] := by cases args; simp_all
  obtain ⟨rfl, rfl⟩ := trodVars_none hV
  have k0 := h0
  have lt0 : ∀ x ∈ p0, x.block < W.heap.size := by obtain ⟨m, hm⟩ := k0; exact DataW.trod_lt m _ _ _ hm
  have k1 := h1
  have lt1 : ∀ x ∈ p1, x.block < W.heap.size := by obtain ⟨m, hm⟩ := k1; exact DataW.trod_lt m _ _ _ hm
  have k2 := h2
  have lt2 : ∀ x ∈ p2, x.block < W.heap.size := by obtain ⟨m, hm⟩ := k2; exact DataW.trod_lt m _ _ _ hm
  obtain ⟨A0, n0, c0, b0, rfl, w0, g0, l0⟩ := open_bytes Try.underlying23 Try.underlying5 (by kernel_rfl) (hval 0 23 v0 rfl rfl) h0
  obtain ⟨a1, rfl, rfl, rfl, w1⟩ := open_int Try.underlying42 (hval 1 42 v1 rfl rfl) h1
  obtain ⟨a2, rfl, rfl, rfl, w2⟩ := open_int Try.underlying5 (hval 2 5 v2 rfl rfl) h2
  clear hA0 hval0
  refine (crcTurned_law A0 n0 c0 b0 a1 a2 W w0 g0 l0 w1 w2).mono fun e W' ⟨he, bel⟩ => ?_
  subst he
  exact ⟨_, rfl, _, _, _, [], _, [], hW', trodAll_mk1 (shut_bool Try.underlying4 _), (trodAll_cons_mk (Below.trod laidOut (by kernel_rfl) (of_decide_eq_true (by kernel_rfl)) k0 bel lt0) (trodAll_cons_mk (Below.trod laidOut (by kernel_rfl) (of_decide_eq_true (by kernel_rfl)) k1 bel lt1) (trodAll_cons_mk (Below.trod laidOut (by kernel_rfl) (of_decide_eq_true (by kernel_rfl)) k2 bel lt2) trodAll_mk0))), rfl, bel.frame _, fun h => by cases h⟩
theorem over : Rows.crcTurnedRow.holds Try.pinned (OpenSpec.ofChange Rows.crcTurnedSpec) :=
  OpenClaim.holds_of_wide 7 Try.f7 rfl rfl rfl rfl rfl rfl rfl ⟨rfl, rfl, rfl, rfl, rfl⟩ rfl rfl rfl rfl rfl (by kernel_rfl) Try.func7 (by kernel_rfl)
    (of_decide_eq_true (by kernel_rfl)) (by unfold Func.isWrapper; first | (rw [if_pos (by decide +kernel)]; kernel_rfl) | (rw [if_neg (by decide +kernel)]; exact ⟨rfl, rfl⟩))
    (fun os started H enc _ => lifted os started H enc)
theorem proved : Rows.CrcTurnedSaid := over
#print axioms proved
end lawCrcTurned
end Go.Proofs.Ytaohnagghfajlaa
