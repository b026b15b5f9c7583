/-
  Law 16: what is sent through a queue is got in order (PortOrder).
-/
import Derived.Test.YthipfopmaegpdaaPortQ
namespace Go.Proofs.Ythipfopmaegpdaa
open Go.RowKit Go.ChangeShapes Go.WideShapes Go.ChangeAt

set_option maxRecDepth 100000 in
set_option maxHeartbeats 4000000 in
theorem portOrder_any (w : World) (t : TabS) (a : TabA) (hT : TabCame w t a) (A : Option Addr) (n c : Nat) (ls : List Int) (hrd : Reads w w.heap.size 1 A n (ls.map (Value.int .u16))) (hnc : n ≤ c) (hcm : c ≤ maxLen) (hwf : ∀ z ∈ ls, (Lit.int .u16 z).wf = true) :
    Calls Try.prog 5 #[.agg #[.int .i64 t.frame, .slice a.A1 t.parts.length a.c1, .slice a.A2 t.wins.length a.c2, .slice a.A3 t.chans.length a.c3, .int .i64 t.trial], .slice A n c] w fun e w' => e = .returned (.bool true) ∧ Below w.heap.size w w' := by
  obtain ⟨A1, k1, A2, k2, A3, k3⟩ := a
  simp only
  have hb0 : Below w.heap.size w (w.alloc (.cells (tabC t ⟨A1, k1, A2, k2, A3, k3⟩).toArray 36)) := (Below.refl _ _).alloc (Nat.le_refl _) _
  have hblk0 : Blk (w.alloc (.cells (tabC t ⟨A1, k1, A2, k2, A3, k3⟩).toArray 36)) w.heap.size 36 (tabC t ⟨A1, k1, A2, k2, A3, k3⟩) := Blk.new w _ _
  have iL := hid (fun w' => longP_any t ⟨A1, k1, A2, k2, A3, k3⟩ w' hT.l1 hT.l2 hT.l3)
  have HC := hid hT
  clear hT
  simp only at iL
  unfold maxLen at hcm
  have hrd0 := hid hrd
  have hwf0 := hid hwf
  have hll := hrd.len
  have hll2 : (ls.length : Nat) = n := by simpa using hll
  clear hrd hwf hll
  go_enter Try.func5, Try.ntmps5
  go_wp2_with fail
  refine (wakesP_any _).mono ?_
  rintro e w1 ⟨rfl, hb1⟩
  have hb01 := bel_trans hb0 hb1
  have hblk1 := hblk0.belowS hb1
  clear hblk0 hb0 hb1
  obtain ⟨c0, c1, c2, c3, c4⟩ := tab_cells hblk1
  simp only at c0 c1 c2 c3 c4
  go_wp2_with fail
  refine (iL.out _).mono ?_
  rintro e w2 ⟨he, hb2⟩
  have hb02 := bel_trans hb01 hb2
  have hblk2 := hblk1.belowS hb2
  clear c0 c1 c2 c3 c4 hblk1 hb01 hb2 iL
  obtain ⟨c0, c1, c2, c3, c4⟩ := tab_cells hblk2
  simp only at c0 c1 c2 c3 c4
  by_cases hl : longB t = true
  · rw [hl] at he
    subst he
    clear hl hblk2
    go_wp2_with fail
    go_ret
    exact ⟨rfl, hb02⟩
  have hl' : longB t = false := by simpa using hl
  rw [hl'] at he
  subst he
  have HO : Hid (∀ w', Below w.heap.size w w' → TabOk w' t ⟨A1, k1, A2, k2, A3, k3⟩) := hid (fun w' hb => HC.out.ok hl' hb)
  clear hl hl'
  by_cases hn : 60 < n
  · have y0 : decide ((60 : Int) < (n : Int)) = true := decide_eq_true (by omega)
    clear hblk2
    go_wp2_with fail
    go_ret
    exact ⟨rfl, hb02⟩
  have y0 : decide ((60 : Int) < (n : Int)) = false := decide_eq_false (by omega)
  have hn60 : n ≤ 60 := by omega
  clear hn
  have i1 := hid (refRight_any t ⟨A1, k1, A2, k2, A3, k3⟩ w2 (HO.out _ hb02))
  simp only at i1
  go_wp2_with fail
  refine i1.out.mono ?_
  rintro e w3 ⟨he, hb3⟩
  have hb03 := bel_trans hb02 hb3
  have hblk3 := hblk2.belowS hb3
  clear c0 c1 c2 c3 c4 hblk2 hb02 hb3 i1
  obtain ⟨c0, c1, c2, c3, c4⟩ := tab_cells hblk3
  simp only at c0 c1 c2 c3 c4
  by_cases hr : rightB t = true
  case neg =>
    rw [show rightB t = false by simpa using hr] at he
    subst he
    clear hr hblk3
    go_wp2_with fail
    go_ret
    exact ⟨rfl, hb03⟩
  rw [hr] at he
  subst he
  have hR := hid ((rightB_iff t).1 hr)
  have i2 := hid (New_ok t ⟨A1, k1, A2, k2, A3, k3⟩ w3 (HO.out _ hb03) hr)
  simp only at i2
  have hc4 := hR.out.c4
  clear hr
  go_wp2_with fail
  refine i2.out.mono ?_
  rintro e w4 ⟨F, g, rfl, hS, hb4, hF⟩
  have hb04 := hid (bel_trans hb03 hb4)
  have hblk4 := hblk3.belowS hb4
  have hlt0 := hblk3.lt
  have hb03h := hid hb03
  clear c0 c1 c2 c3 c4 hblk3 hb03 i2
  obtain ⟨c0, c1, c2, c3, c4⟩ := tab_cells hblk4
  simp only at c0 c1 c2 c3 c4
  have hS0 := hid hS
  have hF0 := hid hF
  have hbw := hid hb4
  clear hS hF hb4
  have hll3 := hid hll2
  clear hll2
  go_wp2_with fail
  clear c0 c1 c2 c3 c4
  go_loopw [7, 8, 9, 11, 12, 13, 15, 16, 17, 19, 20, 21, 44] (fun v7 v8 v9 v11 v12 v13 v15 v16 v17 v19 v20 v21 v44 wr => ∃ (k : Nat) (F : Nat → Prop), k ≤ t.chans.length ∧ v44 = .int .i64 (k : Int) ∧ SetAt wr F g t.chans (zeroW t.chans) ∧ Below w3.heap.size w3 wr ∧ ∀ b, F b → w3.heap.size ≤ b) (fun _ _ _ _ _ _ _ _ _ _ _ _ v44 _ => t.chans.length - (intOf v44).toNat)
  case atStart => exact ⟨0, F, by omega, rfl, hS0.out, hbw.out, hF0.out⟩
  case round =>
    clear hS0 hF0 hbw hblk4 hb04
    obtain ⟨k, F, hk, rfl, hS, hbel, hF⟩ := hrel
    have hb0r := hid (bel_trans hb03h.out hbel)
    by_cases hkn : k < t.chans.length
    case neg =>
      obtain rfl : k = t.chans.length := by omega
      go_wp2_with fail
      go_ret
      exact ⟨rfl, hb0r.out⟩
    obtain ⟨ad, x, rfl, had, hx, hc0, hc⟩ := (HO.out wr hb0r.out).inn.2.2.at_ hkn
    have q0 := hc0 _ rfl
    have q1 := hc 0 _ rfl
    have q2 := hc 1 _ rfl
    clear hc hc0
    have hxb := hR.out.cs x (List.mem_of_getElem? hx)
    obtain ⟨src, dst, dep⟩ := x
    simp only at q0 q1 q2 hxb
    obtain ⟨D, rfl⟩ : ∃ D : Nat, dep = (D : Int) := ⟨dep.toNat, by omega⟩
    have hD4 : D ≤ 4 := by omega
    have HX := hid hx
    have hz : Hid (zeroW t.chans k = zeroS D) := hid (by unfold zeroW; rw [depthAt_get hx])
    clear hx hxb
    have hS0 := hid hS
    have hF0 := hid hF
    have hb0 := hid hbel
    clear hS hF hbel
    by_cases hD0 : D = 0
    case pos =>
      subst hD0
      have y1 : (((0 : Nat) : Int) == 0) = true := rfl
      go_wp2_with fail
      go_roundw
      case rel => exact ⟨k + 1, F, by omega, by go_num, hS0.out.alloc _, bel_alloc hb0.out _, hF0.out⟩
      case measure => simp [intOf]; omega
    have y1 : ((D : Int) == 0) = false := by simp; omega
    obtain ⟨m, hm⟩ : ∃ m, m = min n D := ⟨_, rfl⟩
    have hmn : m ≤ n := by omega
    have hmD : m ≤ D := by omega
    have hmi : min (n : Int) (D : Int) = (m : Int) := by omega
    have hQ : ∀ o, SetAt (wr.alloc o) F g t.chans (setS (zeroW t.chans) k (.row (ls.take 0) D)) := fun o => by
      have e : WayS.row (ls.take 0) D = zeroW t.chans k := by rw [hz.out, zeroS_pos (by omega)]; simp
      rw [e, setS_self]
      exact hS0.out.alloc _
    have hQ0 := hid (hQ (.cells #[.int .i64 src, .int .i64 dst, .int .i64 (D : Int)] 43))
    have hBx := hid (Blk.new wr 43 [.int .i64 src, .int .i64 dst, .int .i64 (D : Int)])
    have hfr := hid hS0.out.fresh
    have hba := hid (bel_alloc hb0.out (.cells #[.int .i64 src, .int .i64 dst, .int .i64 (D : Int)] 43))
    have hcc : (m : Int) ≤ (c : Int) := by omega
    have h1 := hid hm
    clear hQ hm hS0 hb0
    go_wp2_with fail
    generalize wr.alloc (.cells #[.int .i64 src, .int .i64 dst, .int .i64 (D : Int)] 43) = wb at hQ0 hBx hba ⊢
    generalize wr.heap.size = gc at hBx hfr ⊢
    clear hb0r
    go_loopw [11, 12, 13, 61] (fun v11 v12 v13 v61 wr => ∃ (j : Nat) (F : Nat → Prop), j ≤ m ∧ v61 = .int .i64 (j : Int) ∧ SetAt wr F g t.chans (setS (zeroW t.chans) k (.row (ls.take j) D)) ∧ Blk wr gc 43 [.int .i64 src, .int .i64 dst, .int .i64 (D : Int)] ∧ ¬ F gc ∧ Below w3.heap.size w3 wr ∧ ∀ b, F b → w3.heap.size ≤ b) (fun _ _ _ v61 _ => m - (intOf v61).toNat)
    case atStart => exact ⟨0, F, by omega, rfl, hQ0.out, hBx.out, hfr.out, hba.out, hF0.out⟩
    case round =>
      clear hQ0 hBx hfr hba hF0
      obtain ⟨j, F2, hj, rfl, hS2, hB2, hf2, hbel2, hF2⟩ := hrel
      have hb2r := hid (bel_trans hb03h.out hbel2)
      have b0 : wr.cell? ⟨gc, 0, none⟩ = some (.int .i64 src) := hB2.cellAt rfl
      have b1 : wr.cell? ⟨gc, 1, none⟩ = some (.int .i64 dst) := hB2.cellAt rfl
      have b2 : wr.cell? ⟨gc, 2, none⟩ = some (.int .i64 (D : Int)) := hB2.cellAt rfl
      by_cases hjm : j < m
      case pos =>
        obtain ⟨adl, y, rfl, hadl, hy, hcell⟩ := (hrd0.out.below hb2r.out).atM (k := j) (by omega)
        have hyb := bounds_u16 (hwf0.out y (List.mem_of_getElem? hy))
        have hlen : (ls.take j).length = j := by rw [List.length_take, hll3.out]; omega
        have i1 := hid (qSend hS2 HX.out (by rw [hlen]; omega) (by rw [hlen]; omega) y (by omega) (by omega))
        simp only at i1
        have hE : ls.take j ++ [y] = ls.take (j + 1) := by rw [List.take_add_one, hy]; rfl
        rw [hE] at i1
        clear hE hlen
        have HY := hid hy
        have HS2 := hid hS2
        have HB2 := hid hB2
        have HF2 := hid hF2
        have HBE := hid hbel2
        clear hy hS2 hB2 hF2 hbel2
        go_wp2_with fail
        refine i1.out.mono ?_
        rintro e w5 ⟨F5, rfl, hS5, hG5⟩
        have hx5 := hid (hG5.bel HBE.out (Nat.le_refl _) HF2.out)
        have hk5 := hid (hG5.blk HB2.out hf2)
        clear i1 hG5
        go_wp2_with fail
        go_roundw
        case rel => exact ⟨j + 1, F5, by omega, by go_num, hS5, hk5.out.1, hk5.out.2, hx5.out.1, hx5.out.2⟩
        case measure => simp [intOf]; omega
      case neg =>
        obtain rfl : j = m := by omega
        have HS2 := hid hS2
        have HB2 := hid hB2
        have HF2 := hid hF2
        have HBE := hid hbel2
        clear hS2 hB2 hF2 hbel2
        go_wp2_with fail
        clear b0 b1 b2 hb2r
        obtain ⟨w6, rfl⟩ : ∃ w6 : World, w6 = wr := ⟨_, rfl⟩
        go_loopw [15, 16, 17, 86] (fun v15 v16 v17 v86 wr => ∃ (i : Nat) (F : Nat → Prop), i ≤ j ∧ v86 = .int .i64 (i : Int) ∧ SetAt wr F g t.chans (setS (zeroW t.chans) k (.row ((ls.take j).drop i) D)) ∧ Blk wr gc 43 [.int .i64 src, .int .i64 dst, .int .i64 (D : Int)] ∧ ¬ F gc ∧ Below w3.heap.size w3 wr ∧ ∀ b, F b → w3.heap.size ≤ b) (fun _ _ _ v86 _ => j - (intOf v86).toNat)
        case atStart => exact ⟨0, F2, by omega, rfl, by simpa using HS2.out, HB2.out, hf2, HBE.out, HF2.out⟩
        case round =>
          clear HS2 HB2 hf2 HF2 HBE
          obtain ⟨i, F2, hi, rfl, hS2, hB2, hf2, hbel2, hF2⟩ := hrel
          have hb2r := hid (bel_trans hb03h.out hbel2)
          have b0 : wr.cell? ⟨gc, 0, none⟩ = some (.int .i64 src) := hB2.cellAt rfl
          have b1 : wr.cell? ⟨gc, 1, none⟩ = some (.int .i64 dst) := hB2.cellAt rfl
          have b2 : wr.cell? ⟨gc, 2, none⟩ = some (.int .i64 (D : Int)) := hB2.cellAt rfl
          by_cases hij : i < j
          case pos =>
            obtain ⟨adl, y, rfl, hadl, hy, hcell⟩ := (hrd0.out.below hb2r.out).atM (k := i) (by omega)
            have hyb := bounds_u16 (hwf0.out y (List.mem_of_getElem? hy))
            have hlen : (ls.take j).length = j := by rw [List.length_take, hll3.out]; omega
            have hE : (ls.take j).drop i = y :: (ls.take j).drop (i + 1) := by
              rw [List.drop_eq_getElem_cons (by omega)]
              congr 1
              rw [List.getElem_take]
              exact (List.getElem?_eq_some_iff.1 hy).2
            rw [hE] at hS2
            have i1 := hid (qGet_yes hS2 HX.out)
            simp only at i1
            clear hE hlen
            have HY := hid hy
            have HS2 := hid hS2
            have HB2 := hid hB2
            have HF2 := hid hF2
            have HBE := hid hbel2
            clear hy hS2 hB2 hF2 hbel2
            have hcell' := hcell
            go_wp2_with fail
            refine i1.out.mono ?_
            rintro e w5 ⟨F5, rfl, hS5, hG5⟩
            have hx5 := hid (hG5.bel HBE.out (Nat.le_refl _) HF2.out)
            have hk5 := hid (hG5.blk HB2.out hf2)
            clear i1 hG5 hcell hcell'
            go_wp2_with fail
            go_roundw
            case rel => exact ⟨i + 1, F5, by omega, by go_num, hS5, hk5.out.1, hk5.out.2, hx5.out.1, hx5.out.2⟩
            case measure => simp [intOf]; omega
          case neg =>
            obtain rfl : i = j := by omega
            have hE : (ls.take i).drop i = [] := List.drop_of_length_le (by rw [List.length_take]; omega)
            rw [hE] at hS2
            have i1 := hid (qGet_no hS2 HX.out)
            simp only at i1
            have HS2 := hid hS2
            have HB2 := hid hB2
            have HF2 := hid hF2
            have HBE := hid hbel2
            clear hE hS2 hB2 hF2 hbel2
            go_wp2_with fail
            refine i1.out.mono ?_
            rintro e w5 ⟨F5, rfl, hS5, hG5⟩
            have hx5 := hid (hG5.bel HBE.out (Nat.le_refl _) HF2.out)
            have e9 : setS (zeroW t.chans) k (.row [] D) = zeroW t.chans := by
              have e : WayS.row [] D = zeroW t.chans k := by rw [hz.out, zeroS_pos (by omega)]; simp
              rw [e, setS_self]
            rw [e9] at hS5
            clear i1 hG5 e9
            go_wp2_with fail
            go_roundw
            case rel => exact ⟨k + 1, F5, by omega, by go_num, hS5, hx5.out.1, hx5.out.2⟩
            case measure => simp [intOf]; omega
/-! ### PortOrder: from the walk to the given statement -/
namespace lawPortOrder
theorem own : ownKnob Try.prog.godebug = none := by kernel_rfl
theorem laidOut : laidOutB Try.prog = true := by kernel_rfl
set_option maxRecDepth 100000 in
theorem lifted (os : Os) (started : os.Started) (H : Type) (enc : TypeId × Value → H) :
    ReturnsInHanded {} Try.checked os 5 .any (Rows.portOrderSpec.pre6 enc Try.prog Try.f5 Rows.portOrderRow.domain false) (Rows.portOrderSpec.post enc Try.prog Try.f5 false true false false) := by
  refine returnsInHanded_of_change (C := Try.checked) own started (by kernel_rfl) Try.func5
    (ChangeSpec.witness6 (enc := enc) (C := Try.checked) false ⟨#[], #[.agg #[.int .i64 0, .slice none 0 0, .slice none 0 0, .slice none 0 0, .int .i64 0], .slice none 0 0], []⟩ 8 (by kernel_rfl) (by kernel_rfl) (by kernel_rfl) (by kernel_rfl)) ?_
  intro W base args ds gs before hval0 hW hcnd _
  have hval : ∀ (j : Nat) t v, Try.f5.params[j]? = some t → args[j]? = some v → Value.okWide Try.prog W .any base t v := hval0
  have hW' := hW
  obtain ⟨p, q, hA0, hV, rfl, hfz, hnd⟩ := hW
  have hA : DataW.TrodAll enc Try.prog W 0 (fun _ => true) true Try.f5.params.toList args.toList ds p := hA0
  rw [Try.params5] at hA hval
  obtain ⟨v0, vs0, d0, ds0, p0, q0, hargs, rfl, rfl, h0, r0⟩ := trodAll_cons hA
  obtain ⟨v1, vs1, d1, ds1, p1, q1, rfl, rfl, rfl, h1, r1⟩ := trodAll_cons r0
  obtain ⟨rfl, rfl, rfl⟩ := trodAll_nil r1
  obtain rfl : args = #[v0, v1] := by cases args; simp_all
  obtain ⟨rfl, rfl⟩ := trodVars_none hV
  have k0 := h0
  have lt0 : ∀ x ∈ p0, x.block < W.heap.size := by obtain ⟨m, hm⟩ := k0; exact DataW.trod_lt m _ _ _ hm
  have k1 := h1
  have lt1 : ∀ x ∈ p1, x.block < W.heap.size := by obtain ⟨m, hm⟩ := k1; exact DataW.trod_lt m _ _ _ hm
  obtain ⟨t0, a0, rfl, w0⟩ := open_tab (hval 0 36 v0 rfl rfl) h0
  obtain ⟨A1, n1, c1, b1, rfl, w1, g1, l1, f1⟩ := open_intsL Try.underlying37 Try.underlying44 (by kernel_rfl) (hval 1 37 v1 rfl rfl) h1
  clear hA0 hval0
  refine (portOrder_any W t0 a0 w0 A1 n1 c1 b1 w1 g1 l1 f1).mono fun e W' ⟨he, bel⟩ => ?_
  subst he
  exact ⟨_, rfl, _, _, _, [], _, [], hW', trodAll_mk1 (shut_bool Try.underlying4 _), (trodAll_cons_mk (Below.trod laidOut (by kernel_rfl) (of_decide_eq_true (by kernel_rfl)) k0 bel lt0) (trodAll_cons_mk (Below.trod laidOut (by kernel_rfl) (of_decide_eq_true (by kernel_rfl)) k1 bel lt1) trodAll_mk0)), rfl, bel.frame _, fun h => by cases h⟩
theorem over : Rows.portOrderRow.holds Try.pinned (OpenSpec.ofChange Rows.portOrderSpec) :=
  OpenClaim.holds_of_wide 5 Try.f5 rfl rfl rfl rfl rfl rfl rfl ⟨rfl, rfl, rfl, rfl, rfl⟩ rfl rfl rfl rfl rfl (by kernel_rfl) Try.func5 (by kernel_rfl)
    (of_decide_eq_true (by kernel_rfl)) (by unfold Func.isWrapper; first | (rw [if_pos (by decide +kernel)]; kernel_rfl) | (rw [if_neg (by decide +kernel)]; exact ⟨rfl, rfl⟩))
    (fun os started H enc _ => lifted os started H enc)
theorem proved : Rows.PortOrderSaid := over
#print axioms proved
end lawPortOrder
end Go.Proofs.Ythipfopmaegpdaa
