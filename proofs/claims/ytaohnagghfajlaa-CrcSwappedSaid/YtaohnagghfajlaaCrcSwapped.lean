/-
  CrcSwapped: of bytes of which two neighbours, that are unlike, change places the sum is another one. For every input.
-/
import Derived.Test.YtaohnagghfajlaaCrcSums
import Derived.RegionTactic
import Derived.BigRegion
import Derived.Deep.RegionWith
namespace Go.Proofs.Ytaohnagghfajlaa
open Go.RowKit Go.ChangeShapes Go.WideShapes Go.ChangeAt

theorem feedL_cons (x : BitVec 32) (c : UInt8) (l : List UInt8) : feedL x (c :: l) = feedL (feed1 x c) l := by unfold feedL; rw [List.foldl_cons]
/-- Two neighbours that change places: the register is the same just if they are. -/
theorem feed_swapped (s : BitVec 32) (l : List UInt8) (k : Nat) (a b : UInt8) (ha : l[k]? = some a) (hb : l[k + 1]? = some b) :
    feedL s l = feedL s ((l.set k b).set (k + 1) a) ↔ a = b := by
  have h1 : k + 1 < l.length := (List.getElem?_eq_some_iff.1 hb).1
  have e1 : l = l.take k ++ a :: b :: l.drop (k + 2) := by
    have hk : l[k] = a := by rw [List.getElem?_eq_getElem (by omega)] at ha; injection ha
    have hk1 : l[k + 1] = b := by rw [List.getElem?_eq_getElem h1] at hb; injection hb
    rw [← hk, ← hk1, List.getElem_cons_drop, List.getElem_cons_drop, List.take_append_drop]
  have e2 : (l.set k b).set (k + 1) a = l.take k ++ b :: a :: l.drop (k + 2) := by
    apply List.ext_getElem?
    intro i
    rw [List.getElem?_set, List.getElem?_set, List.getElem?_append]
    simp only [List.length_set, List.length_take, Nat.min_eq_left (show k ≤ l.length by omega)]
    by_cases hi : i < k
    · rw [if_neg (by omega), if_neg (by omega), if_pos hi, List.getElem?_take, if_pos hi]
    · rw [if_neg hi]
      by_cases hi1 : i = k
      · subst hi1
        simp [show i < l.length by omega]
      · by_cases hi2 : i = k + 1
        · subst hi2
          simp [h1]
        · rw [if_neg (by omega), if_neg (by omega)]
          rw [show i - k = (i - (k + 2)) + 1 + 1 by omega, List.getElem?_cons_succ, List.getElem?_cons_succ, List.getElem?_drop]
          congr 1
          omega
  rw [e2]
  rw [show feedL s l = feedL s (l.take k ++ a :: b :: l.drop (k + 2)) by rw [← e1]]
  rw [feedL_append, feedL_append]
  generalize feedL s (l.take k) = S
  rw [feedL_cons, feedL_cons, feedL_cons, feedL_cons]
  constructor
  · intro h
    exact (swap2 S a b).1 (feedL_inj_state _ _ _ h)
  · rintro rfl; rfl
theorem crc_swapped (l : List UInt8) (k : Nat) (a b : UInt8) (ha : l[k]? = some a) (hb : l[k + 1]? = some b) :
    crcOf l = crcOf ((l.set k b).set (k + 1) a) ↔ a = b := (crc_eq_iff _ _).trans (feed_swapped _ l k a b ha hb)

theorem sum_quiet (g : Nat) (A : Option Addr) (n c : Nat) (bs : List UInt8) (B : Nat) (w : World) (ht : IsTab w g) (h : Reads w B 1 A n (bs.map bV)) (hn : n ≤ 100000000000) :
    Calls Try.prog 22 #[.pointer (some ⟨g, 0, none⟩), .slice A n c] w fun e w' => e = .returned (uV (crcOf bs)) ∧ w' = w :=
  (sum_any g A n c bs B w ht h hn).mono fun _ _ ⟨p, q⟩ => ⟨p, q.symm⟩
set_option maxHeartbeats 400000 in
theorem crcSwapped_any (A : Option Addr) (n c : Nat) (bs : List UInt8) (a : Nat) (w : World) (hr : Reads w w.heap.size 1 A n (bs.map bV)) (hnc : n ≤ c) (hc : c ≤ maxLen) (ha : a < 65536) :
    Calls Try.prog 9 #[.slice A n c, .int .u16 (a : Int)] w fun e w' => e = .returned (.bool true) ∧ Below w.heap.size w w' := by
  unfold maxLen at hc
  by_cases hq : n < 2 ∨ 2000 < n
  · have hd : (n < 2) ∨ (¬ n < 2 ∧ 2000 < n) := by omega
    clear hq
    rcases hd with h | ⟨h1, h2⟩
    all_goals
      go_enter Try.func9, Try.ntmps9
      go_wp2_with fail
      refine (crcWakes_any w).mono ?_
      rintro e w0 ⟨rfl, hb0⟩
      go_wp2_with fail
      go_ret
      exact ⟨rfl, hb0⟩
  · have hn0 : ¬ n < 2 := fun h => hq (.inl h)
    have hn1 : ¬ 2000 < n := fun h => hq (.inr h)
    clear hq
    have hq1 : decide ((n : Int) < 2) = false := by simp; omega
    have hq2 : decide (2000 < (n : Int)) = false := by simp; omega
    obtain ⟨K, hK, hK2⟩ : ∃ K : Nat, (a : Int) % ((n : Int) - 1) = (K : Int) ∧ K + 1 < n := ⟨a % (n - 1), by rw [show ((n : Int) - 1) = ((n - 1 : Nat) : Int) by omega]; omega, by have := Nat.mod_lt a (show n - 1 > 0 by omega); omega⟩
    go_enter Try.func9, Try.ntmps9
    go_wp2_with fail
    refine (crcWakes_any w).mono ?_
    rintro e w0 ⟨rfl, hb0⟩
    have hr0 := hr.belowS hb0
    go_wp2_with (at_builtin; refine copyB _ rfl (.tmp 24) (.tmp 25) rfl rfl A n c bs rfl hr0 (by omega) ?_; intro A1 c1 w1 hown1 hb1; obtain ⟨g, rfl, hg1, hg2⟩ := own_some hown1 (by omega); obtain ⟨x, hbk, hcell, hfr⟩ := own_cellM (k := K) hown1 (by omega); obtain ⟨y, hbk2, hcell2, hfr2⟩ := own_cellM (k := K + 1) hown1 hK2; have HB := hid hbk; have HB2 := hid hbk2; clear hbk hbk2)
    go_region
    have hst1 := own_storeM hown1 K y
    have hst2 := own_storeM hst1.1 (K + 1) x
    have hb12 : Below w0.heap.size w0 ((w1.setCell ⟨g, K, none⟩ (bV y)).setCell ⟨g, K + 1, none⟩ (bV x)).drew := ((hb1.trans hst1.2).trans hst2.2).drew
    have hown2 : ((w1.setCell ⟨g, K, none⟩ (bV y)).setCell ⟨g, K + 1, none⟩ (bV x)).drew.ownsRow w0.heap.size 5 1 (.slice (some ⟨g, 0, none⟩) n c1) n (((bs.set K y).set (K + 1) x).map bV) := hst2.1.drew
    have hiff := crc_swapped bs K x y HB.out HB2.out
    have hcx : ∃ ad, A = some ad ∧ ad.block < w0.heap.size ∧ w0.cell? (ad.add K) = some (bV x) ∧ w0.cell? (ad.add (K + 1)) = some (bV y) := by
      obtain ⟨ad, u, rfl, hB, hu, h1⟩ := hr0.atM (k := K) (by omega)
      obtain ⟨ad', u', he', _, hu', h2⟩ := hr0.atM (k := K + 1) hK2
      injection he' with he'
      subst he'
      rw [HB.out] at hu
      rw [HB2.out] at hu'
      injection hu with hu
      injection hu' with hu'
      subst hu hu'
      exact ⟨ad, rfl, hB, h1, h2⟩
    generalize ((w1.setCell ⟨g, K, none⟩ (bV y)).setCell ⟨g, K + 1, none⟩ (bV x)).drew = w2 at hb12 hown2 ⊢
    clear hst1 hst2 hcell hfr hcell2 hfr2 hK hq1 hq2
    go_wp2_with fail
    refine (make_any _).mono ?_
    rintro e w3 ⟨g2, rfl, hg2, ht, hb2⟩
    have hb03 := bel_trans hb12 hb2
    have hr2 := hr0.belowS hb03
    have hr3 := (Reads.of_own hown2).belowS hb2
    obtain ⟨ad, rfl, hB, hx1, hy1⟩ := hcx
    have hx3 : w3.cell? (ad.add K) = some (bV x) := (hb03.cell (by rw [block_add]; exact hB)).trans hx1
    have hy3 : w3.cell? (ad.add (K + 1)) = some (bV y) := (hb03.cell (by rw [block_add]; exact hB)).trans hy1
    have hq1 := hid (fun m => sum_quiet g2 (some ad) n c bs _ (w3.drewN m) (ht.drewN m) (hr2.drewN m) (by omega))
    have hq2 := hid (fun m => sum_quiet g2 (some ⟨g, 0, none⟩) n c1 _ _ (w3.drewN m) (ht.drewN m) (hr3.drewN m) (by omega))
    have HI := hid hiff
    clear hiff hown2 hr2 hr3 ht hr0
    generalize crcOf bs = z1 at hq1 HI
    generalize crcOf ((bs.set K y).set (K + 1) x) = z2 at hq2 HI
    have hfin : Hid (Below w.heap.size w w3) := hid (bel_trans hb0 hb03)
    have hy4 : w3.cell? ⟨ad.block, ad.off + (K + 1), none⟩ = some (bV y) := by simpa [Addr.add] using hy3
    have hi1 : (K : Int) < (n : Int) := by omega
    have hi2 : (K : Int) + 1 < (n : Int) := by omega
    have hi3 : (0 : Int) ≤ (K : Int) + 1 := by omega
    have hi4 : ((K : Int) + 1).toNat = K + 1 := by omega
    have hi5 : IntKind.i64.wrap ((K : Int) + 1) = (K : Int) + 1 := IntWalk.i64_in _ (by omega)
    by_cases hxy : x = y
    · obtain rfl : z1 = z2 := HI.out.2 hxy
      subst hxy
      go_wp2_with fail
      go_quiet (first | (go_at_call_of 22 (Value.slice (some ad) n c); exact Calls.quiet_of_same (hq1.out _)) | (go_at_call 22; exact Calls.quiet_of_same (hq2.out _)))
      go_wp2_with fail
      go_ret
      exact ⟨by simp, below_drewN hfin.out _⟩
    · have hzn : ((z1.toNat : Int) == (z2.toNat : Int)) = false := by
        simp only [beq_eq_false_iff_ne, ne_eq]
        intro h
        exact hxy (HI.out.1 (BitVec.eq_of_toNat_eq (by omega)))
      have hxn : ((x.toNat : Int) == (y.toNat : Int)) = false := by
        simp only [beq_eq_false_iff_ne, ne_eq]
        intro h
        exact hxy (UInt8.toNat.inj (by omega))
      go_wp2_with fail
      go_quiet (first | (go_at_call_of 22 (Value.slice (some ad) n c); exact Calls.quiet_of_same (hq1.out _)) | (go_at_call 22; exact Calls.quiet_of_same (hq2.out _)))
      go_wp2_with fail
      go_ret
      exact ⟨by simp, below_drewN hfin.out _⟩
theorem crcSwapped_law (A : Option Addr) (n c : Nat) (bs : List UInt8) (x : Int) (w : World) (hr : Reads w w.heap.size 1 A n (bs.map bV)) (hnc : n ≤ c) (hc : c ≤ maxLen) (hx : (Lit.int .u16 x).wf = true) :
    Calls Try.prog 9 #[.slice A n c, .int .u16 x] w fun e w' => e = .returned (.bool true) ∧ Below w.heap.size w w' := by
  have hb := bounds_u16 hx
  have e : x = ((x.toNat : Nat) : Int) := by omega
  rw [e]
  exact crcSwapped_any A n c bs _ w hr hnc hc (by omega)

/-! ### CrcSwapped: from the walk to the given statement -/
namespace lawCrcSwapped
theorem own : ownKnob Try.prog.godebug = none := by kernel_rfl
theorem laidOut : laidOutB Try.prog = true := by kernel_rfl
set_option maxRecDepth 100000 in
theorem lifted (os : Os) (started : os.Started) (H : Type) (enc : TypeId × Value → H) :
    ReturnsInHanded {} Try.checked os 9 .any (Rows.crcSwappedSpec.pre6 enc Try.prog Try.f9 Rows.crcSwappedRow.domain false) (Rows.crcSwappedSpec.post enc Try.prog Try.f9 false true false false) := by
  refine returnsInHanded_of_change (C := Try.checked) own started (by kernel_rfl) Try.func9
    (ChangeSpec.witness6 (enc := enc) (C := Try.checked) false ⟨#[], #[.slice none 0 0, .int .u16 0], []⟩ 8 (by kernel_rfl) (by kernel_rfl) (by kernel_rfl) (by kernel_rfl)) ?_
  intro W base args ds gs before hval0 hW hcnd _
  have hval : ∀ (j : Nat) t v, Try.f9.params[j]? = some t → args[j]? = some v → Value.okWide Try.prog W .any base t v := hval0
  have hW' := hW
  obtain ⟨p, q, hA0, hV, rfl, hfz, hnd⟩ := hW
  have hA : DataW.TrodAll enc Try.prog W 0 (fun _ => true) true Try.f9.params.toList args.toList ds p := hA0
  rw [Try.params9] at hA hval
  obtain ⟨v0, vs0, d0, ds0, p0, q0, hargs, rfl, rfl, h0, r0⟩ := trodAll_cons hA
  obtain ⟨v1, vs1, d1, ds1, p1, q1, rfl, rfl, rfl, h1, r1⟩ := trodAll_cons r0
  obtain ⟨rfl, rfl, rfl⟩ := trodAll_nil r1
  obtain rfl : args = #[v0, v1] := by cases args; simp_all
  obtain ⟨rfl, rfl⟩ := trodVars_none hV
  have k0 := h0
  have lt0 : ∀ x ∈ p0, x.block < W.heap.size := by obtain ⟨m, hm⟩ := k0; exact DataW.trod_lt m _ _ _ hm
  have k1 := h1
  have lt1 : ∀ x ∈ p1, x.block < W.heap.size := by obtain ⟨m, hm⟩ := k1; exact DataW.trod_lt m _ _ _ hm
  obtain ⟨A0, n0, c0, b0, rfl, w0, g0, l0⟩ := open_bytes Try.underlying23 Try.underlying5 (by kernel_rfl) (hval 0 23 v0 rfl rfl) h0
  obtain ⟨a1, rfl, rfl, rfl, w1⟩ := open_int Try.underlying42 (hval 1 42 v1 rfl rfl) h1
  clear hA0 hval0
  refine (crcSwapped_law A0 n0 c0 b0 a1 W w0 g0 l0 w1).mono fun e W' ⟨he, bel⟩ => ?_
  subst he
  exact ⟨_, rfl, _, _, _, [], _, [], hW', trodAll_mk1 (shut_bool Try.underlying4 _), (trodAll_cons_mk (Below.trod laidOut (by kernel_rfl) (of_decide_eq_true (by kernel_rfl)) k0 bel lt0) (trodAll_cons_mk (Below.trod laidOut (by kernel_rfl) (of_decide_eq_true (by kernel_rfl)) k1 bel lt1) trodAll_mk0)), rfl, bel.frame _, fun h => by cases h⟩
theorem over : Rows.crcSwappedRow.holds Try.pinned (OpenSpec.ofChange Rows.crcSwappedSpec) :=
  OpenClaim.holds_of_wide 9 Try.f9 rfl rfl rfl rfl rfl rfl rfl ⟨rfl, rfl, rfl, rfl, rfl⟩ rfl rfl rfl rfl rfl (by kernel_rfl) Try.func9 (by kernel_rfl)
    (of_decide_eq_true (by kernel_rfl)) (by unfold Func.isWrapper; first | (rw [if_pos (by decide +kernel)]; kernel_rfl) | (rw [if_neg (by decide +kernel)]; exact ⟨rfl, rfl⟩))
    (fun os started H enc _ => lifted os started H enc)
theorem proved : Rows.CrcSwappedSaid := over
#print axioms proved
end lawCrcSwapped
end Go.Proofs.Ytaohnagghfajlaa
