/-
  Law 22: in any so many frames a partition's windows start as often as it has windows, times the frames (SchedSums).
-/
import Derived.Test.YtbnodcenlggcnaaSchedStart
namespace Go.Proofs.Ytbnodcenlggcnaa
open Go.RowKit Go.ChangeShapes Go.WideShapes Go.ChangeAt

theorem stL_count (l : List WinS) (F : Nat) (p : Int) (a : Nat) : ∀ n : Nat, ((stL l F p a n).length : Int) = cntZ (fun i => stB l F p i.toNat) a n
  | 0 => rfl
  | n + 1 => by
    rw [stL_succ, cntZ_snoc, List.length_append, ← stL_count l F p a n]
    have e : ((a : Int) + (n : Int)).toNat = a + n := by omega
    simp only [e]
    by_cases h : stB l F p (a + n) = true
    · rw [if_pos h, if_pos h]; simp
    · rw [if_neg h, if_neg h]; simp
theorem stB_starts (l : List WinS) (F : Nat) (p : Int) (hp : 0 ≤ p) (T : Nat) : stB l F p T = startsB p l ((T % F : Nat) : Int) := by
  unfold stB startsB
  rw [hitB_part p l _ hp]
theorem cnt_frame (l : List WinS) (F : Nat) (p : Int) (hp : 0 ≤ p) (j : Nat) : cntZ (fun i => stB l F p i.toNat) ((j * F : Nat) : Int) F = cntZ (startsB p l) 0 F := by
  have h := cntZ_shift (fun i => stB l F p i.toNat) ((j * F : Nat) : Int) F 0
  rw [Int.zero_add] at h
  rw [h]
  refine cntZ_congr F 0 (fun i h1 h2 => ?_)
  obtain ⟨m, rfl⟩ : ∃ m : Nat, i = m := ⟨i.toNat, by omega⟩
  rw [stB_starts l F p hp]
  have e : ((m : Int) + ((j * F : Nat) : Int)).toNat = m + F * j := by rw [Nat.mul_comm F j]; omega
  rw [e, Nat.add_mul_mod_self_left, Nat.mod_eq_of_lt (by omega)]
theorem cnt_frames (l : List WinS) (F : Nat) (p : Int) (hp : 0 ≤ p) (j : Nat) : ∀ m : Nat, cntZ (fun i => stB l F p i.toNat) ((j * F : Nat) : Int) (m * F) = (m : Int) * cntZ (startsB p l) 0 F
  | 0 => by simp [cntZ]
  | m + 1 => by
    rw [show (m + 1) * F = m * F + F by rw [Nat.add_mul, Nat.one_mul], cntZ_add, cnt_frames l F p hp j m]
    have e : ((j * F : Nat) : Int) + ((m * F : Nat) : Int) = (((j + m) * F : Nat) : Int) := by rw [Nat.add_mul]; omega
    rw [e, cnt_frame l F p hp]
    rw [show ((m + 1 : Nat) : Int) = (m : Int) + 1 by omega, Int.add_mul]
    omega
theorem sums_law {t : TabS} (h : RightT t) {F : Nat} (hF : t.frame = (F : Int)) (p : Nat) (j m : Nat) : ((stL t.wins F (p : Int) (j * F) (m * F)).length : Int) = ((t.wins.filter fun w => w.part == (p : Int)).length : Int) * (m : Int) := by
  rw [stL_count, cnt_frames _ _ _ (by omega), cnt_starts t p t.wins 0 F h.ws (by omega), Int.mul_comm]
set_option maxRecDepth 100000 in
set_option maxHeartbeats 2000000 in
theorem sums_any (w : World) (t : TabS) (a : TabA) (hT : TabCame w t a) (fr : Nat) (hfr : fr < 256) (mn : Nat) (hmn : mn < 256) :
    Calls Try.prog 12 #[.agg #[.int .i64 t.frame, .slice a.A1 t.parts.length a.c1, .slice a.A2 t.wins.length a.c2, .slice a.A3 t.chans.length a.c3, .int .i64 t.trial], .int .u8 (fr : Int), .int .u8 (mn : Int)] w fun e w' => e = .returned (.bool true) ∧ Below w.heap.size w w' := by
  obtain ⟨A1, k1, A2, k2, A3, k3⟩ := a
  simp only
  obtain ⟨w1, hw1, hb0, hblk0, hs1⟩ := tab_in t ⟨A1, k1, A2, k2, A3, k3⟩ w
  simp only at hw1
  have iL := hid (fun w' => longS_any t ⟨A1, k1, A2, k2, A3, k3⟩ w' hT.l1 hT.l2 hT.l3)
  have HC := hid hT
  clear hT
  simp only at iL
  go_enter Try.func12, Try.ntmps12
  go_wp2_with fail
  clear hw1 hs1
  refine (wakesS_any _).mono ?_
  rintro e w2 ⟨rfl, hb2⟩
  have hb02 := bel_trans hb0 hb2
  have hblk2 := hblk0.belowS hb2
  obtain ⟨c0, c1, c2, c3, c4⟩ := tab_cells hblk2
  simp only at c0 c1 c2 c3 c4
  clear hblk0 hb2
  go_wp2_with fail
  refine (iL.out _).mono ?_
  rintro e w3 ⟨he, hb3⟩
  have hb03 := bel_trans hb02 hb3
  have hblk3 := hblk2.belowS hb3
  clear c0 c1 c2 c3 c4 hblk2 hb3 iL
  obtain ⟨c0, c1, c2, c3, c4⟩ := tab_cells hblk3
  simp only at c0 c1 c2 c3 c4
  by_cases hl : longB t = true
  · rw [hl] at he
    subst he
    clear hl hblk3
    go_wp2_with fail
    go_ret
    exact ⟨rfl, hb03⟩
  · have hl' : longB t = false := by simpa using hl
    rw [hl'] at he
    subst he
    have HO : Hid (∀ w', Below w.heap.size w w' → TabOk w' t ⟨A1, k1, A2, k2, A3, k3⟩) := hid (fun w' hb => HC.out.ok hl' hb)
    clear hl hl' HC
    have i1 := hid (refRight_any t ⟨A1, k1, A2, k2, A3, k3⟩ w3 (HO.out _ hb03))
    simp only at i1
    go_wp2_with fail
    refine i1.out.mono ?_
    rintro e w4 ⟨he, hb4⟩
    have hb04 := bel_trans hb03 hb4
    have hblk4 := hblk3.belowS hb4
    clear c0 c1 c2 c3 c4 hblk3 hb4 i1
    obtain ⟨c0, c1, c2, c3, c4⟩ := tab_cells hblk4
    simp only at c0 c1 c2 c3 c4
    by_cases hr : rightB t = true
    · rw [hr] at he
      subst he
      have hR := (rightB_iff t).1 hr
      obtain ⟨F, hF⟩ : ∃ F : Nat, t.frame = (F : Int) := ⟨t.frame.toNat, by have := hR.f1; omega⟩
      have hf1 := hR.f1
      have hf2 := hR.f2
      have hF1 : 1 ≤ F := by omega
      have hF2 : F ≤ 64 := by omega
      have hw8 := hR.w8
      have hp4 := hR.p2
      have hp1 := hR.p1
      obtain ⟨N, hN, hN20⟩ : ∃ N : Nat, (mn : Int) % 20 = (N : Int) ∧ N < 20 := ⟨mn % 20, by omega, Nat.mod_lt _ (by omega)⟩
      obtain ⟨NF, hNF⟩ : ∃ NF : Nat, N * F = NF := ⟨_, rfl⟩
      obtain ⟨FR, hFR⟩ : ∃ FR : Nat, fr * F = FR := ⟨_, rfl⟩
      have hNFle : NF ≤ 1280 := by rw [← hNF]; exact Nat.le_trans (Nat.mul_le_mul (by omega : N ≤ 20) hF2) (by omega)
      have hFRle : FR ≤ 16384 := by rw [← hFR]; exact Nat.le_trans (Nat.mul_le_mul (by omega : fr ≤ 256) hF2) (by omega)
      have e1 : (N : Int) * (F : Int) = (NF : Int) := by rw [← hNF]; simp
      have e2 : (fr : Int) * (F : Int) = (FR : Int) := by rw [← hFR]; simp
      have hsl := hid (fun (p : Nat) => sums_law hR hF p fr N)
      rw [hNF, hFR] at hsl
      have i1 := hid (fun (p : Nat) (hp : p < t.parts.length) w' hb => Starts_ok t ⟨A1, k1, A2, k2, A3, k3⟩ (p : Int) F FR NF (FR + NF) hF rfl (by omega) (by omega) w' (HO.out w' hb) hR (by unfold hasP; rw [decide_eq_true (show (0 : Int) ≤ (p : Int) by omega), decide_eq_true (show (p : Int) < (t.parts.length : Int) by omega)]; rfl))
      simp only at i1
      rw [show ((FR + NF : Nat) : Int) = (FR : Int) + (NF : Int) by omega] at i1
      rw [hF] at i1 c0
      have HF := hid hF
      clear hr hR hf1 hf2 hF hNF hFR
      go_wp2_with fail
      simp only [hN]
      clear hN
      have E1 := hid e1
      clear e1 e2 c0 c1 c2 c3 c4
      go_loopw [9, 10, 12, 13, 14, 35, 41] (fun _ _ _ _ _ v35 _ wr => ∃ k : Nat, k ≤ t.parts.length ∧ v35 = .int .i64 (k : Int) ∧ Below w4.heap.size w4 wr) (fun _ _ _ _ _ v35 _ _ => t.parts.length - (intOf v35).toNat)
      case atStart => exact ⟨0, by omega, rfl, Below.refl _ _⟩
      case round =>
        obtain ⟨k, hk, rfl, hbel⟩ := hrel
        by_cases hkn : k < t.parts.length
        · have hblkr := hblk4.belowS hbel
          have hb0r := bel_trans hb04 hbel
          obtain ⟨c0, c1, c2, c3, c4⟩ := tab_cells hblkr
          simp only at c0 c1 c2 c3 c4
          have hslk := hid (hsl.out k)
          have j1 := hid (i1.out k hkn)
          generalize stL t.wins F (k : Int) FR NF = sl at hslk j1
          have hinW := (HO.out _ hb0r).inn.2.1
          simp only at hinW
          go_wp2_with fail
          clear c0 c1 c2 c3 c4
          obtain ⟨wo, rfl⟩ : ∃ wo : World, wo = wr := ⟨_, rfl⟩
          go_loopw [10, 12, 41] (fun v10 _ v41 wr => ∃ j : Nat, j ≤ t.wins.length ∧ v41 = .int .i64 (j : Int) ∧ v10 = .int .i64 (((t.wins.take j).filter fun w => w.part == (k : Int)).length : Int) ∧ Below wo.heap.size wo wr) (fun _ _ v41 _ => t.wins.length - (intOf v41).toNat)
          case atStart => exact ⟨0, by omega, rfl, rfl, Below.refl _ _⟩
          case round =>
            obtain ⟨j, hj, rfl, rfl, hbj⟩ := hrel
            have hcl : ((t.wins.take j).filter fun w => w.part == (k : Int)).length ≤ 8 := by
              have h1 := List.length_filter_le (fun w : WinS => w.part == (k : Int)) (t.wins.take j)
              rw [List.length_take] at h1
              omega
            by_cases hjn : j < t.wins.length
            · obtain ⟨ad, x, rfl, had, hx, hc0, hc⟩ := (hinW.belowS hbj).at_ hjn
              have q0 := hc0 _ rfl
              have q1 := hc 0 _ rfl
              have q2 := hc 1 _ rfl
              have hnx : Hid ((t.wins.take (j + 1)).filter (fun w => w.part == (k : Int)) = (t.wins.take j).filter (fun w => w.part == (k : Int)) ++ if x.part == (k : Int) then [x] else []) := by
                refine hid ?_
                rw [List.take_add_one, hx, List.filter_append]
                show _ ++ List.filter _ [x] = _
                rw [List.filter_cons, List.filter_nil]
              have hbe := bel_alloc hbj (.cells #[.int .i64 x.part, .int .i64 x.at_, .int .i64 x.long] 30)
              generalize hfl : (t.wins.take j).filter (fun w => w.part == (k : Int)) = fl at hcl hnx ⊢
              clear hfl hc hc0 hx
              obtain ⟨xp, xa, xl⟩ := x
              simp only at q0 q1 q2 hnx hbe
              by_cases hp : xp = (k : Int)
              · have hpb : (xp == (k : Int)) = true := by simpa using hp
                have hlen : Hid ((t.wins.take (j + 1)).filter (fun w => w.part == (k : Int)) = fl ++ [⟨xp, xa, xl⟩]) := hid (by rw [hnx.out, hpb]; rfl)
                clear hp
                go_wp2_with fail
                go_roundw
                case rel => exact ⟨j + 1, by omega, by go_num, by rw [hlen.out]; simp, hbe⟩
                case measure => simp [intOf]; omega
              · have hpb : (xp == (k : Int)) = false := by simpa using hp
                have hlen : Hid ((t.wins.take (j + 1)).filter (fun w => w.part == (k : Int)) = fl) := hid (by rw [hnx.out, hpb]; simp)
                clear hp
                go_wp2_with fail
                go_roundw
                case rel => exact ⟨j + 1, by omega, by go_num, by rw [hlen.out], hbe⟩
                case measure => simp [intOf]; omega
            · obtain rfl : j = t.wins.length := by omega
              rw [List.take_length] at hcl
              rw [show t.wins.take t.wins.length = t.wins from List.take_length ..]
              have hb1 := bel_trans hb0r hbj
              have hbk := bel_trans hbel hbj
              have hblkj := hblkr.belowS hbj
              obtain ⟨c0, c1, c2, c3, c4⟩ := tab_cells hblkj
              simp only at c0 c1 c2 c3 c4
              rw [HF.out] at c0
              generalize hfl : (t.wins.filter fun w => w.part == (k : Int)).length = ow at hslk hcl ⊢
              clear hfl
              have e3 : (ow : Int) * (N : Int) = (sl.length : Int) := hslk.out.symm
              have hsll : (sl.length : Int) ≤ 1000000 := by
                rw [← e3]
                have : ow * N ≤ 8 * 20 := Nat.mul_le_mul hcl (by omega)
                have h2 : (ow : Int) * (N : Int) = ((ow * N : Nat) : Int) := by simp
                omega
              have E3 := hid e3
              clear e3 hblkj
              have e1 := E1.out
              go_wp2_with fail
              clear e1
              refine (j1.out _ hb1).mono ?_
              rintro e w6 ⟨A', c', rfl, _, hb6⟩
              clear c0 c1 c2 c3 c4
              have e3 := E3.out
              go_wp2_with fail
              clear e3
              go_roundw
              case rel => exact ⟨k + 1, by omega, by go_num, bel_trans hbk hb6⟩
              case measure => simp [intOf]; omega
        · obtain rfl : k = t.parts.length := by omega
          have hb0r := bel_trans hb04 hbel
          go_wp2_with fail
          go_ret
          exact ⟨rfl, hb0r⟩
    · have hr' : rightB t = false := by simpa using hr
      rw [hr'] at he
      subst he
      clear hr hr' hblk4
      go_wp2_with fail
      go_ret
      exact ⟨rfl, hb04⟩
theorem u8_nat {d : Int} (hd : (Lit.int .u8 d).wf = true) : ∃ m : Nat, d = (m : Int) ∧ m < 256 := by
  obtain ⟨h1, h2⟩ := bounds_u8 hd
  exact ⟨d.toNat, by omega, by omega⟩
theorem sums_laww (w : World) (t : TabS) (a : TabA) (hT : TabCame w t a) (d : Int) (hd : (Lit.int .u8 d).wf = true) (d2 : Int) (hd2 : (Lit.int .u8 d2).wf = true) :
    Calls Try.prog 12 #[.agg #[.int .i64 t.frame, .slice a.A1 t.parts.length a.c1, .slice a.A2 t.wins.length a.c2, .slice a.A3 t.chans.length a.c3, .int .i64 t.trial], .int .u8 d, .int .u8 d2] w fun e w' => e = .returned (.bool true) ∧ Below w.heap.size w w' := by
  obtain ⟨m, rfl, hm⟩ := u8_nat hd
  obtain ⟨m2, rfl, hm2⟩ := u8_nat hd2
  exact sums_any w t a hT m hm m2 hm2
/-! ### SchedSums: from the walk to the given statement -/
namespace lawSchedSums
theorem own : ownKnob Try.prog.godebug = none := by kernel_rfl
theorem laidOut : laidOutB Try.prog = true := by kernel_rfl
set_option maxRecDepth 100000 in
theorem lifted (os : Os) (started : os.Started) (H : Type) (enc : TypeId × Value → H) :
    ReturnsInHanded {} Try.checked os 12 .any (Rows.schedSumsSpec.pre6 enc Try.prog Try.f12 Rows.schedSumsRow.domain false) (Rows.schedSumsSpec.post enc Try.prog Try.f12 false true false false) := by
  refine returnsInHanded_of_change (C := Try.checked) own started (by kernel_rfl) Try.func12
    (ChangeSpec.witness6 (enc := enc) (C := Try.checked) false ⟨#[], #[.agg #[.int .i64 0, .slice none 0 0, .slice none 0 0, .slice none 0 0, .int .i64 0], .int .u8 0, .int .u8 0], []⟩ 8 (by kernel_rfl) (by kernel_rfl) (by kernel_rfl) (by kernel_rfl)) ?_
  intro W base args ds gs before hval0 hW hcnd _
  have hval : ∀ (j : Nat) t v, Try.f12.params[j]? = some t → args[j]? = some v → Value.okWide Try.prog W .any base t v := hval0
  have hW' := hW
  obtain ⟨p, q, hA0, hV, rfl, hfz, hnd⟩ := hW
  have hA : DataW.TrodAll enc Try.prog W 0 (fun _ => true) true Try.f12.params.toList args.toList ds p := hA0
  rw [Try.params12] at hA hval
  obtain ⟨v0, vs0, d0, ds0, p0, q0, hargs, rfl, rfl, h0, r0⟩ := trodAll_cons hA
  obtain ⟨v1, vs1, d1, ds1, p1, q1, rfl, rfl, rfl, h1, r1⟩ := trodAll_cons r0
  obtain ⟨v2, vs2, d2, ds2, p2, q2, rfl, rfl, rfl, h2, r2⟩ := trodAll_cons r1
  obtain ⟨rfl, rfl, rfl⟩ := trodAll_nil r2
  obtain rfl : args = #[v0, v1, v2] := by cases args; simp_all
  obtain ⟨rfl, rfl⟩ := trodVars_none hV
  have k0 := h0
  have lt0 : ∀ x ∈ p0, x.block < W.heap.size := by obtain ⟨m, hm⟩ := k0; exact DataW.trod_lt m _ _ _ hm
  have k1 := h1
  have lt1 : ∀ x ∈ p1, x.block < W.heap.size := by obtain ⟨m, hm⟩ := k1; exact DataW.trod_lt m _ _ _ hm
  have k2 := h2
  have lt2 : ∀ x ∈ p2, x.block < W.heap.size := by obtain ⟨m, hm⟩ := k2; exact DataW.trod_lt m _ _ _ hm
  obtain ⟨t0, a0, rfl, w0⟩ := open_tab (hval 0 26 v0 rfl rfl) h0
  obtain ⟨a1, rfl, rfl, rfl, w1⟩ := open_int Try.underlying5 (hval 1 5 v1 rfl rfl) h1
  obtain ⟨a2, rfl, rfl, rfl, w2⟩ := open_int Try.underlying5 (hval 2 5 v2 rfl rfl) h2
  clear hA0 hval0
  refine (sums_laww W t0 a0 w0 a1 w1 a2 w2).mono fun e W' ⟨he, bel⟩ => ?_
  subst he
  exact ⟨_, rfl, _, _, _, [], _, [], hW', trodAll_mk1 (shut_bool Try.underlying4 _), (trodAll_cons_mk (Below.trod laidOut (by kernel_rfl) (of_decide_eq_true (by kernel_rfl)) k0 bel lt0) (trodAll_cons_mk (Below.trod laidOut (by kernel_rfl) (of_decide_eq_true (by kernel_rfl)) k1 bel lt1) (trodAll_cons_mk (Below.trod laidOut (by kernel_rfl) (of_decide_eq_true (by kernel_rfl)) k2 bel lt2) trodAll_mk0))), rfl, bel.frame _, fun h => by cases h⟩
theorem over : Rows.schedSumsRow.holds Try.pinned (OpenSpec.ofChange Rows.schedSumsSpec) :=
  OpenClaim.holds_of_wide 12 Try.f12 rfl rfl rfl rfl rfl rfl rfl ⟨rfl, rfl, rfl, rfl, rfl⟩ rfl rfl rfl rfl rfl (by kernel_rfl) Try.func12 (by kernel_rfl)
    (of_decide_eq_true (by kernel_rfl)) (by unfold Func.isWrapper; first | (rw [if_pos (by decide +kernel)]; kernel_rfl) | (rw [if_neg (by decide +kernel)]; exact ⟨rfl, rfl⟩))
    (fun os started H enc _ => lifted os started H enc)
theorem proved : Rows.SchedSumsSaid := over
#print axioms proved
end lawSchedSums
end Go.Proofs.Ytbnodcenlggcnaa
