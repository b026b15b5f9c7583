/-
  NumBack: numbers and a text, one behind the other, are read again. For every input.
-/
import Derived.Test.YtaohnagghfajlaaNumBack
namespace Go.Proofs.Ytaohnagghfajlaa
open Go.RowKit Go.ChangeShapes Go.WideShapes Go.ChangeAt

theorem numOf_range (m w : Nat) (hm : m < 256 ^ w) : ∀ k, k ≤ w → numOf ((digs m w).take k) = m / 256 ^ (w - k)
  | 0, _ => by rw [List.take_zero, Nat.sub_zero, Nat.div_eq_of_lt hm]; rfl
  | k + 1, hk => by
    rw [digs_take_succ m w k (by omega), numOf_snoc, numOf_range m w hm k (by omega)]
    unfold dig
    rw [UInt8.toNat_ofNat', show w - k = (w - 1 - k) + 1 by omega, Nat.pow_succ, ← Nat.div_div_eq_div_mul, show w - (k + 1) = w - 1 - k by omega]
    have := Nat.div_add_mod (m / 256 ^ (w - 1 - k)) 256
    omega
theorem numOf_putB (n : Int) (w : Nat) (hw : w ≤ 6) : numOf (putB n w) = clip n w := by
  unfold putB
  have h := numOf_range (clip n w) w (clip_lt n w hw) w (Nat.le_refl _)
  rw [List.take_of_length_le (by simp [digs])] at h
  rw [h]
  simp
theorem rNum_putB (n ww : Int) (rest : List UInt8) : rNum ⟨putB n (wid ww) ++ rest, 0⟩ ww = (clip n (wid ww), ⟨rest, 0⟩) := by
  have hw := wid_bd ww
  have e1 : rBytes ⟨putB n (wid ww) ++ rest, 0⟩ (wid ww : Int) = (putB n (wid ww), ⟨rest, 0⟩) := by
    unfold rBytes
    rw [if_neg (by simp; omega), if_neg (by simp [putB_length]; omega)]
    simp [putB_length]
  unfold rNum
  rw [e1, numOf_putB _ _ hw.2]
theorem rText_textB (t : List UInt8) (h : t.length ≤ 65535) : rText ⟨textB t, 0⟩ (t.length : Int) = (t, ⟨[], 0⟩) := by
  have hN : rNum ⟨textB t, 0⟩ 2 = (t.length, ⟨t, 0⟩) := by
    unfold textB
    rw [Nat.min_eq_left h, List.take_of_length_le h]
    have := rNum_putB (t.length : Int) 2 t
    rw [show wid 2 = 2 from rfl] at this
    rw [this]
    congr 1
    unfold clip
    rw [Int.toNat_natCast, Nat.min_eq_left]
    have : (256 : Nat) ^ 2 = 65536 := by decide
    omega
  unfold rText
  rw [if_neg (by simp), hN]
  have e1 : rBytes ⟨t, 0⟩ (t.length : Int) = (t, ⟨[], 0⟩) := by
    unfold rBytes
    by_cases h0 : t = []
    · subst h0; simp
    · have hp : 0 < t.length := List.length_pos_iff.2 h0
      rw [if_neg (by simp; exact h0), if_neg (by simp)]
      simp
  have e2 : (if (⟨t, 0⟩ : RS).e = 0 ∧ (t.length : Int) < ((t.length, (⟨t, 0⟩ : RS)).1 : Int) then (⟨t, 4⟩ : RS) else ⟨t, 0⟩) = ⟨t, 0⟩ := if_neg (by intro h; exact absurd h.2 (by simp))
  simp only at e2 ⊢
  rw [e2, e1]
  rfl
/-- The bytes of numbers, one behind the other. -/
def putAll (l : List Int) (w : Nat) : List UInt8 := (l.map (putB · w)).flatten
theorem putAll_length (l : List Int) (w : Nat) : (putAll l w).length = l.length * w := by
  induction l with
  | nil => simp [putAll]
  | cons a l ih =>
    have : putAll (a :: l) w = putB a w ++ putAll l w := rfl
    rw [this, List.length_append, putB_length, ih, List.length_cons, Nat.add_mul, Nat.one_mul, Nat.add_comm]
theorem putAll_snoc (l : List Int) (a : Int) (w : Nat) : putAll (l ++ [a]) w = putAll l w ++ putB a w := by simp [putAll]
theorem putAll_drop (l : List Int) (k : Nat) (a : Int) (w : Nat) (h : l[k]? = some a) : putAll (l.drop k) w = putB a w ++ putAll (l.drop (k + 1)) w := by
  obtain ⟨hk, hv⟩ := List.getElem?_eq_some_iff.1 h
  rw [List.drop_eq_getElem_cons hk, hv]
  rfl

set_option maxRecDepth 100000 in
set_option maxHeartbeats 800000 in
theorem numBack_any (A : Option Addr) (n c : Nat) (zs : List Int) (ww : Int) (A2 : Option Addr) (m c2 : Nat) (ts : List UInt8) (w : World) (hr : Reads w w.heap.size 1 A n (zs.map iV)) (hnc : n ≤ c) (hc : c ≤ maxLen)
    (hr2 : Reads w w.heap.size 1 A2 m (ts.map bV)) (hmc : m ≤ c2) (hc2 : c2 ≤ maxLen) :
    Calls Try.prog 11 #[.slice A n c, .int .i64 ww, .slice A2 m c2] w fun e w' => e = .returned (.bool true) ∧ Below w.heap.size w w' := by
  have hc' := hc
  have hc2' := hc2
  unfold maxLen at hc' hc2'
  by_cases hq : 100 < n ∨ 1000 < m
  · have hd : (100 < n) ∨ (¬ 100 < n ∧ 1000 < m) := by omega
    clear hq
    rcases hd with h | ⟨h1, h2⟩
    all_goals
      go_enter Try.func11, Try.ntmps11
      go_wp2_with fail
      refine (numWakes_any w).mono ?_
      rintro e w0 ⟨rfl, hb0⟩
      go_wp2_with fail
      go_ret
      exact ⟨rfl, hb0⟩
  · have hn : ¬ 100 < n := fun h => hq (.inl h)
    have hm : ¬ 1000 < m := fun h => hq (.inr h)
    clear hq
    have hq1 : decide (100 < (n : Int)) = false := by simp; omega
    have hq2 : decide (1000 < (m : Int)) = false := by simp; omega
    have hw := wid_bd ww
    have hwid := hid (fun w => width_any ww w)
    have hput := hid (fun A n c bs x w => put_any A n c bs x ww w)
    have hrn := hid (fun g s w (h : Rdr w g s) hs => num_any g s ww w h hs)
    have hrp := hid (fun x rest => rNum_putB x ww rest)
    generalize wid ww = W at hw hwid hput hrp
    obtain ⟨P, hP, hP1, hP2, HP⟩ := pow_name W hw
    have hl : zs.length = n := by simpa using hr.len
    have HL := hid hl
    have hl2 : ts.length = m := by simpa using hr2.len
    have HL2 := hid hl2
    clear hl hl2
    go_enter Try.func11, Try.ntmps11
    go_wp2_with fail
    refine (numWakes_any w).mono ?_
    rintro e w0 ⟨rfl, hb0⟩
    have hr0 := hr.belowS hb0
    have hr20 := hr2.belowS hb0
    clear hr hr2
    go_wp2_with fail
    go_loopw [7, 26] (fun v7 v26 wr => ∃ (k q c7 : Nat) (A7 : Option Addr), k ≤ n ∧ v26 = .int .i64 (k : Int) ∧ v7 = .slice A7 q c7 ∧ q ≤ 6 * k ∧ wr.ownsRow w0.heap.size 5 1 (.slice A7 q c7) q ((putAll (zs.take k) W).map bV) ∧ Below w0.heap.size w0 wr) (fun _ v26 _ => n - (intOf v26).toNat)
    case atStart => exact ⟨0, 0, 0, none, by omega, rfl, rfl, by omega, by simpa [putAll] using World.ownsRow_nil _ _ _ _, Below.refl _ _⟩
    case round =>
      obtain ⟨k, q, c7, A7, hk, rfl, rfl, hq6, hown, hbel⟩ := hrel
      have hrk := hr0.belowS hbel
      by_cases hkn : k < n
      · obtain ⟨ad, x, rfl, had, hx, hcell⟩ := hrk.atM hkn
        have HX := hid hx
        clear hx hrk hq1 hq2 hP
        go_wp2_with fail
        refine (hput.out A7 q c7 _ x wr (Reads.of_own hown) (by omega)).mono ?_
        rintro e w2 ⟨A8, c8, rfl, hown8, hb8⟩
        go_wp2_with fail
        go_roundw
        case rel =>
          refine ⟨k + 1, q + W, c8, A8, by omega, by go_num, rfl, by omega, ?_, bel_trans hbel hb8⟩
          rw [List.take_add_one, HX.out]
          simp only [Option.toList]
          rw [putAll_snoc]
          exact own_mono hown8 hbel.size
        case measure => simp [intOf]; omega
      · obtain rfl : k = n := by omega
        have hta : zs.take k = zs := List.take_of_length_le (by have := HL.out; omega)
        rw [hta] at hown
        clear hta
        have hr2k := hr20.belowS hbel
        have hr0z := hr0
        have hr20z := hr20
        have hT := hid (text_any A7 A2 q m c7 c2 _ ts wr (Reads.of_own hown) hr2k (by omega) hmc hc2)
        clear hr0 hr20
        go_wp2_with fail
        refine hT.out.mono ?_
        rintro e w2 ⟨A3, c3, rfl, hown3, hb3⟩
        have hr3 := Reads.of_own hown3
        clear hT hown hown3
        go_wp2_with fail
        refine (read_any A3 _ c3 _ w2 hr3 (by omega)).mono ?_
        rintro e w3 ⟨g, rfl, hg, hrd, hb4⟩
        have hb03 := bel_trans hbel (bel_trans hb3 hb4)
        have hz3 := hr0z.below hb03
        have hts3 := hr20z.below hb03
        have hg0 : w0.heap.size ≤ g := Nat.le_trans hbel.size (Nat.le_trans hb3.size hg)
        have hpl := hid (putAll_length zs W)
        clear hr3 hr0z hr20z hbel hb3 hb4 hr2k hput
        go_wp2_with fail
        refine (hwid.out w3).mono ?_
        rintro e w' ⟨rfl, rfl⟩
        clear hwid
        go_wp2_with fail
        clear hP
        go_loopw [13, 46] (fun _ v46 wr => ∃ j : Nat, j ≤ k ∧ v46 = .int .i64 (j : Int) ∧ Rdr wr g ⟨putAll (zs.drop j) W ++ textB ts, 0⟩ ∧ w3.grownBy wr (some g)) (fun _ v46 _ => k - (intOf v46).toNat)
        case atStart => exact ⟨0, by omega, rfl, by simpa using hrd, only_refl _ _⟩
        case round =>
          obtain ⟨j, hj, rfl, hrd2, ho2⟩ := hrel
          have hz := hz3.grown ho2 hb03.size (by intro x hx; injection hx with hx; omega)
          have hts := hts3.grown ho2 hb03.size (by intro x hx; injection hx with hx; omega)
          clear hz3 hts3 hrd
          by_cases hjk : j < k
          · obtain ⟨ad, x, rfl, had, hx, hcell⟩ := hz.atM hjk
            rw [putAll_drop zs j x W hx, List.append_assoc] at hrd2
            have hlen : (putB x W ++ (putAll (zs.drop (j + 1)) W ++ textB ts)).length ≤ 100000000 := by
              rw [List.length_append, List.length_append, putB_length, putAll_length, List.length_drop]
              have h1 : (textB ts).length ≤ 2 + 65535 := by unfold textB; rw [List.length_append, putB_length, List.length_take]; omega
              have h2 : zs.length = k := HL.out
              have h3 : (zs.length - (j + 1)) * W ≤ 100 * 6 := Nat.mul_le_mul (by omega) hw.2
              omega
            have hN := hrn.out g _ wr hrd2 hlen
            unfold NPost at hN
            rw [hrp.out x _] at hN
            have HN := hid hN
            obtain ⟨mm, X0, hX0, hM, hmm, Hm⟩ := clip_name x W P hw HP
            rw [← Hm.out] at HN
            clear hx hz hts hlen hN hrd2 hq1 hq2
            go_wp2_with fail
            refine HN.out.mono ?_
            rintro e w4 ⟨rfl, hrd4, ho4⟩
            go_wp2_with fail
            go_roundw
            case rel => exact ⟨j + 1, by omega, by go_num, hrd4, only_trans ho2 ho4⟩
            case measure => simp [intOf]; omega
          · obtain rfl : j = k := by omega
            have hdr : putAll (zs.drop j) W = [] := by rw [List.drop_eq_nil_of_le (by have := HL.out; omega)]; rfl
            rw [hdr, List.nil_append] at hrd2
            have hlt : (textB ts).length ≤ 100000000 := by unfold textB; rw [List.length_append, putB_length, List.length_take]; omega
            have hT := text2_any g _ (m : Int) wr hrd2 hlt
            unfold TPost at hT
            have htt := rText_textB ts (by have := HL2.out; omega)
            rw [HL2.out] at htt
            rw [htt] at hT
            have HT := hid hT
            clear hT htt hlt hdr hz
            go_wp2_with fail
            refine HT.out.mono ?_
            rintro e w4 ⟨A4, m4, c4, rfl, hown4, hrd4, ho4⟩
            have hm4 : ts.length = m4 := by simpa using own_len hown4
            have hm4' : m4 = m := by rw [← hm4]; exact HL2.out
            subst hm4'
            have hts4 := hts.grown ho4 (by have := ho2.size; have := hb03.size; omega) (by intro x hx; injection hx with hx; omega)
            have hsame := hid (same_b A4 A2 m4 m4 c4 c2 ts ts w4 (Reads.of_own hown4) (hts4.more (by have := ho4.size; have := ho2.size; have := hb03.size; omega)) (by omega) (by omega))
            clear hm4 HT hown4
            have hfin := hb03.grown (only_trans ho2 ho4) hb03.size (by intro x hx; injection hx with hx; omega)
            go_wp2_with fail
            refine hsame.out.mono ?_
            rintro e w5 ⟨rfl, hb5⟩
            have hrd5 := hrd4.below hb5
            have hL := hid (left_yes g _ w5 hrd5 rfl)
            have hE := hid (end_rd g _ w5 hrd5 (by simp))
            clear hsame
            go_wp2_with fail
            refine hL.out.mono ?_
            rintro e w' ⟨rfl, rfl⟩
            go_wp2_with fail
            refine hE.out.mono ?_
            rw [show rEnd ⟨[], 0⟩ = 0 from rfl]
            rintro e w' ⟨rfl, rfl⟩
            go_wp2_with fail
            go_ret
            exact ⟨rfl, (hb0.trans (hfin.mono hb0.size)).trans (hb5.mono (by have := hfin.size; have := hb0.size; omega))⟩

/-! ### NumBack: from the walk to the given statement -/
namespace lawNumBack
theorem own : ownKnob Try.prog.godebug = none := by kernel_rfl
theorem laidOut : laidOutB Try.prog = true := by kernel_rfl
set_option maxRecDepth 100000 in
theorem lifted (os : Os) (started : os.Started) (H : Type) (enc : TypeId × Value → H) :
    ReturnsInHanded {} Try.checked os 11 .any (Rows.numBackSpec.pre6 enc Try.prog Try.f11 Rows.numBackRow.domain false) (Rows.numBackSpec.post enc Try.prog Try.f11 false true false false) := by
  refine returnsInHanded_of_change (C := Try.checked) own started (by kernel_rfl) Try.func11
    (ChangeSpec.witness6 (enc := enc) (C := Try.checked) false ⟨#[], #[.slice none 0 0, .int .i64 0, .slice none 0 0], []⟩ 8 (by kernel_rfl) (by kernel_rfl) (by kernel_rfl) (by kernel_rfl)) ?_
  intro W base args ds gs before hval0 hW hcnd _
  have hval : ∀ (j : Nat) t v, Try.f11.params[j]? = some t → args[j]? = some v → Value.okWide Try.prog W .any base t v := hval0
  have hW' := hW
  obtain ⟨p, q, hA0, hV, rfl, hfz, hnd⟩ := hW
  have hA : DataW.TrodAll enc Try.prog W 0 (fun _ => true) true Try.f11.params.toList args.toList ds p := hA0
  rw [Try.params11] at hA hval
  obtain ⟨v0, vs0, d0, ds0, p0, q0, hargs, rfl, rfl, h0, r0⟩ := trodAll_cons hA
  obtain ⟨v1, vs1, d1, ds1, p1, q1, rfl, rfl, rfl, h1, r1⟩ := trodAll_cons r0
  obtain ⟨v2, vs2, d2, ds2, p2, q2, rfl, rfl, rfl, h2, r2⟩ := trodAll_cons r1
  obtain ⟨rfl, rfl, rfl⟩ := trodAll_nil r2
  obtain rfl : args = #[v0, v1, v2] := by cases args; simp_all
  obtain ⟨rfl, rfl⟩ := trodVars_none hV
  have k0 := h0
  have lt0 : ∀ x ∈ p0, x.block < W.heap.size := by obtain ⟨m, hm⟩ := k0; exact DataW.trod_lt m _ _ _ hm
  have k1 := h1
  have lt1 : ∀ x ∈ p1, x.block < W.heap.size := by obtain ⟨m, hm⟩ := k1; exact DataW.trod_lt m _ _ _ hm
  have k2 := h2
  have lt2 : ∀ x ∈ p2, x.block < W.heap.size := by obtain ⟨m, hm⟩ := k2; exact DataW.trod_lt m _ _ _ hm
  obtain ⟨A0, n0, c0, b0, rfl, w0, g0, l0, f0⟩ := open_intsL Try.underlying53 Try.underlying3 (by kernel_rfl) (hval 0 53 v0 rfl rfl) h0
  obtain ⟨a1, rfl, rfl, rfl, w1⟩ := open_int Try.underlying3 (hval 1 3 v1 rfl rfl) h1
  obtain ⟨A2, n2, c2, b2, rfl, w2, g2, l2⟩ := open_bytes Try.underlying23 Try.underlying5 (by kernel_rfl) (hval 2 23 v2 rfl rfl) h2
  clear hA0 hval0
  refine (numBack_any A0 n0 c0 b0 a1 A2 n2 c2 b2 W w0 g0 l0 w2 g2 l2).mono fun e W' ⟨he, bel⟩ => ?_
  subst he
  exact ⟨_, rfl, _, _, _, [], _, [], hW', trodAll_mk1 (shut_bool Try.underlying4 _), (trodAll_cons_mk (Below.trod laidOut (by kernel_rfl) (of_decide_eq_true (by kernel_rfl)) k0 bel lt0) (trodAll_cons_mk (Below.trod laidOut (by kernel_rfl) (of_decide_eq_true (by kernel_rfl)) k1 bel lt1) (trodAll_cons_mk (Below.trod laidOut (by kernel_rfl) (of_decide_eq_true (by kernel_rfl)) k2 bel lt2) trodAll_mk0))), rfl, bel.frame _, fun h => by cases h⟩
theorem over : Rows.numBackRow.holds Try.pinned (OpenSpec.ofChange Rows.numBackSpec) :=
  OpenClaim.holds_of_wide 11 Try.f11 rfl rfl rfl rfl rfl rfl rfl ⟨rfl, rfl, rfl, rfl, rfl⟩ rfl rfl rfl rfl rfl (by kernel_rfl) Try.func11 (by kernel_rfl)
    (of_decide_eq_true (by kernel_rfl)) (by unfold Func.isWrapper; first | (rw [if_pos (by decide +kernel)]; kernel_rfl) | (rw [if_neg (by decide +kernel)]; exact ⟨rfl, rfl⟩))
    (fun os started H enc _ => lifted os started H enc)
theorem proved : Rows.NumBackSaid := over
#print axioms proved
end lawNumBack
end Go.Proofs.Ytaohnagghfajlaa
