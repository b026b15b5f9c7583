/-
  Law 22: in each frame each partition runs as often as its share, at the same positions (SchedFrames).
-/
import Derived.Test.YtbnodcenlggcnaaSchedStart
namespace Go.Proofs.Ytbnodcenlggcnaa
open Go.RowKit Go.ChangeShapes Go.WideShapes Go.ChangeAt

/-- How often each of np partitions has run by a position. -/
def ranL (np : Nat) (l : List WinS) (k : Nat) : List Int := (List.range np).map fun (p : Nat) => cntZ (hitB (p : Int) l) 0 k
theorem ranL_len (np : Nat) (l : List WinS) (k : Nat) : (ranL np l k).length = np := by simp [ranL]
theorem ranL_get {np : Nat} (l : List WinS) (k : Nat) {p : Nat} (hp : p < np) : (ranL np l k)[p]? = some (cntZ (hitB (p : Int) l) 0 k) := by
  unfold ranL
  rw [List.getElem?_map, List.getElem?_range hp]
  rfl
theorem ranL_zero (np : Nat) (l : List WinS) : ranL np l 0 = List.replicate np 0 := by
  unfold ranL
  apply List.ext_getElem?
  intro i
  by_cases hi : i < np
  · rw [List.getElem?_map, List.getElem?_range hi, List.getElem?_replicate, if_pos hi]; rfl
  · rw [List.getElem?_eq_none (by simp; omega), List.getElem?_eq_none (by simp; omega)]
theorem ranL_yes {np : Nat} (l : List WinS) (k q : Nat) (hq : q < np) (hp : partL l (k : Int) = (q : Int)) : ranL np l (k + 1) = (ranL np l k).set q (cntZ (hitB (q : Int) l) 0 k + 1) := by
  apply List.ext_getElem?
  intro i
  by_cases hi : i < np
  · rw [ranL_get l (k + 1) hi, List.getElem?_set, ranL_len, ranL_get l k hi, cntZ_snoc, hitB_part _ _ _ (by omega), Int.zero_add, hp]
    by_cases hqi : q = i
    · subst hqi
      rw [if_pos rfl, if_pos hq]
      simp
    · rw [if_neg hqi]
      have : ((q : Int) == (i : Int)) = false := by simp; omega
      rw [this]
      simp
  · rw [List.getElem?_eq_none (by rw [ranL_len]; omega), List.getElem?_eq_none (by rw [List.length_set, ranL_len]; omega)]
theorem ranL_no {np : Nat} (l : List WinS) (k : Nat) (hp : partL l (k : Int) < 0) : ranL np l (k + 1) = ranL np l k := by
  apply List.ext_getElem?
  intro i
  by_cases hi : i < np
  · rw [ranL_get l (k + 1) hi, ranL_get l k hi, cntZ_snoc, hitB_part _ _ _ (by omega), Int.zero_add]
    have : (partL l (k : Int) == (i : Int)) = false := by simp; omega
    rw [this]
    simp
  · rw [List.getElem?_eq_none (by rw [ranL_len]; omega), List.getElem?_eq_none (by rw [ranL_len]; omega)]
/-- make of so many ints. -/
theorem makeInts (w : World) {ops : Array Oper} {rest : List Oper} {o : Oper} {a : Act} {Q : Exit → Act → World → Prop}
    (hg : o.guard = none) (l : Operand) (hop : o.op = Op.makeSlice 35 l l) (n : Nat) (hl : a.eval l = .int .i64 (n : Int)) (hn : n ≤ 100000)
    (hK : ∀ w', w'.ownsRow w.heap.size 3 1 (.slice (some ⟨w.heap.size, 0, none⟩) n n) n ((List.replicate n (0 : Int)).map iV) → Below w.heap.size w w' → wpList Try.prog ops Q rest (a.put o.dst (.slice (some ⟨w.heap.size, 0, none⟩) n n)) w') :
    wpList Try.prog ops Q (o :: rest) a w := by
  obtain ⟨i0, hi0, hz0, hz1, hz2⟩ := info_parts info_int
  refine wpList_make_full w hg l l _ hop w.heap.size 3 i0 _ 1 Try.underlying35 hi0 hz0 hz1 .i64 .i64 _ _ n hl hl rfl rfl (by rw [hz2]; omega) (by simp [maxLen]; omega) (Nat.le_refl _) ?_
  intro w' h1 h2
  refine hK w' ?_ ((Below.refl _ _).grown h2 (Nat.le_refl _) (by simp))
  have e : (madeCells (Value.int .i64 0).cells (n * 1)).toList = (List.replicate n (0 : Int)).map iV := by
    rw [show (Value.int .i64 0).cells = #[.int .i64 0] from rfl, toList_madeCells_one]
    simp [iV]
  rw [e] at h1
  exact h1
set_option maxRecDepth 100000 in
set_option maxHeartbeats 8000000 in
theorem frames_any (w : World) (t : TabS) (a : TabA) (hT : TabCame w t a) (fr : Nat) (hfr : fr < 65536) :
    Calls Try.prog 8 #[.agg #[.int .i64 t.frame, .slice a.A1 t.parts.length a.c1, .slice a.A2 t.wins.length a.c2, .slice a.A3 t.chans.length a.c3, .int .i64 t.trial], .int .u16 (fr : Int)] w fun e w' => e = .returned (.bool true) ∧ Below w.heap.size w w' := by
  obtain ⟨A1, k1, A2, k2, A3, k3⟩ := a
  simp only
  obtain ⟨w1, hw1, hb0, hblk0, hs1⟩ := tab_in t ⟨A1, k1, A2, k2, A3, k3⟩ w
  simp only at hw1
  have iL := hid (fun w' => longS_any t ⟨A1, k1, A2, k2, A3, k3⟩ w' hT.l1 hT.l2 hT.l3)
  have HC := hid hT
  clear hT
  simp only at iL
  go_enter Try.func8, Try.ntmps8
  go_wp2_with fail
  clear hw1 hs1
  refine (wakesS_any _).mono ?_
  rintro e w2 ⟨rfl, hb2⟩
  have hb02 := bel_trans hb0 hb2
  have hblk2 := hblk0.belowS hb2
  obtain ⟨c0, c1, c2, c3, c4⟩ := tab_cells hblk2
  simp only at c0 c1 c2 c3 c4
  clear hblk0 hb2
  go_wp2_with fail
  refine (iL.out _).mono ?_
  rintro e w3 ⟨he, hb3⟩
  have hb03 := bel_trans hb02 hb3
  have hblk3 := hblk2.belowS hb3
  clear c0 c1 c2 c3 c4 hblk2 hb3 iL
  obtain ⟨c0, c1, c2, c3, c4⟩ := tab_cells hblk3
  simp only at c0 c1 c2 c3 c4
  by_cases hl : longB t = true
  · rw [hl] at he
    subst he
    clear hl hblk3
    go_wp2_with fail
    go_ret
    exact ⟨rfl, hb03⟩
  · have hl' : longB t = false := by simpa using hl
    rw [hl'] at he
    subst he
    have HO : Hid (∀ w', Below w.heap.size w w' → TabOk w' t ⟨A1, k1, A2, k2, A3, k3⟩) := hid (fun w' hb => HC.out.ok hl' hb)
    clear hl hl' HC
    have i1 := hid (refRight_any t ⟨A1, k1, A2, k2, A3, k3⟩ w3 (HO.out _ hb03))
    simp only at i1
    go_wp2_with fail
    refine i1.out.mono ?_
    rintro e w4 ⟨he, hb4⟩
    have hb04 := bel_trans hb03 hb4
    have hblk4 := hblk3.belowS hb4
    clear c0 c1 c2 c3 c4 hblk3 hb4 i1
    obtain ⟨c0, c1, c2, c3, c4⟩ := tab_cells hblk4
    simp only at c0 c1 c2 c3 c4
    by_cases hr : rightB t = true
    · rw [hr] at he
      subst he
      have hR := (rightB_iff t).1 hr
      obtain ⟨F, hF⟩ : ∃ F : Nat, t.frame = (F : Int) := ⟨t.frame.toNat, by have := hR.f1; omega⟩
      have hf1 := hR.f1
      have hf2 := hR.f2
      have hF1 : 1 ≤ F := by omega
      have hF2 : F ≤ 64 := by omega
      have hp4 := hR.p2
      obtain ⟨FR, hFR⟩ : ∃ FR : Nat, fr * F = FR := ⟨_, rfl⟩
      have hFRle : FR ≤ 4194304 := by rw [← hFR]; exact Nat.le_trans (Nat.mul_le_mul (by omega : fr ≤ 65536) hF2) (by omega)
      have e2 : (fr : Int) * (F : Int) = (FR : Int) := by rw [← hFR]; simp
      have hd1 : ∀ k, k < F → (FR + k) / F = fr ∧ (FR + k) % F = k := fun k hk => by
        rw [← hFR, Nat.mul_comm fr F, Nat.mul_add_div (by omega), Nat.mul_add_mod, Nat.div_eq_of_lt hk, Nat.mod_eq_of_lt hk]
        exact ⟨rfl, rfl⟩
      have i1 := hid (fun (k : Nat) (hk : k < F) w' hb => At_ok t ⟨A1, k1, A2, k2, A3, k3⟩ F k hF (by omega) w' (HO.out w' hb) hR)
      have i2 := hid (fun (k : Nat) (hk : k < F) w' hb => At_ok t ⟨A1, k1, A2, k2, A3, k3⟩ F (FR + k) hF (by omega) w' (HO.out w' hb) hR)
      have i3 := hid (fun (p : Nat) w' hb => share_any t ⟨A1, k1, A2, k2, A3, k3⟩ (p : Int) w' (HO.out w' hb))
      have hpg := hid (fun k : Nat => partL_ge hR (k : Int))
      have hsh : Hid (∀ p : Nat, cntZ (hitB (p : Int) t.wins) 0 F = shareB t (p : Int)) := hid (fun p => by
        unfold shareB
        rw [if_pos hr]
        exact cnt_share t p t.wins 0 F hR.ws (by omega))
      simp only at i1 i2 i3
      unfold atV at i1 i2
      rw [hF] at i1 i2 i3 c0
      have HF := hid hF
      have HD := hid hd1
      have E2 := hid e2
      have hbz := hblk4.lt
      clear hr hR hf1 hf2 hF hFR hd1 e2
      go_wp2_with (at_make; refine makeInts w4 rfl (.tmp 23) rfl t.parts.length rfl (by omega) ?_; intro w5 hown5 hb5; have z0 : w5.cell? ⟨w.heap.size, 0, none⟩ = some (.int .i64 (F : Int)) := (hb5.cell (p := ⟨w.heap.size, 0, none⟩) hbz).trans c0)
      clear c0 c1 c2 c3 c4 z0
      have hb05 := bel_trans hb04 hb5
      have hblk5 := hblk4.belowS hb5
      generalize hBB : w4.heap.size = B at *
      have HBB := hid hBB
      clear hBB
      have hown50 : w5.ownsRow B 3 1 (.slice (some ⟨B, 0, none⟩) t.parts.length t.parts.length) t.parts.length ((ranL t.parts.length t.wins 0).map iV) := by rw [ranL_zero]; exact hown5
      clear hown5
      go_loopw [6, 7, 8, 9, 10, 27] (fun _ _ _ _ _ v27 wr => ∃ k : Nat, k ≤ F ∧ v27 = .int .i64 (k : Int) ∧ wr.ownsRow B 3 1 (.slice (some ⟨B, 0, none⟩) t.parts.length t.parts.length) t.parts.length ((ranL t.parts.length t.wins k).map iV) ∧ Below B w4 wr) (fun _ _ _ _ _ v27 _ => F - (intOf v27).toNat)
      case atStart => exact ⟨0, by omega, rfl, hown50, hb5⟩
      case round =>
        obtain ⟨k, hk, rfl, hown, hbel⟩ := hrel
        have hb4r : Below w4.heap.size w4 wr := by rw [HBB.out]; exact hbel
        have hb0r := bel_trans hb04 hb4r
        have hblkr := hblk4.belowS hb4r
        have hBr : B ≤ wr.heap.size := by have := hbel.size; have := HBB.out; omega
        obtain ⟨c0, c1, c2, c3, c4⟩ := tab_cells hblkr
        simp only at c0 c1 c2 c3 c4
        rw [HF.out] at c0
        have HOW := hid hown
        clear hown
        by_cases hkF : k < F
        · have j1 := hid (i1.out k hkF)
          have j2 := hid (i2.out k hkF)
          rw [Nat.div_eq_of_lt hkF, Nat.mod_eq_of_lt hkF] at j1
          rw [(HD.out k hkF).1, (HD.out k hkF).2] at j2
          rw [show ((FR + k : Nat) : Int) = (FR : Int) + (k : Int) by omega] at j2
          have hge := hpg.out k
          have hry := hid (fun q hq hp => ranL_yes t.wins k q hq hp (np := t.parts.length))
          have hrn := hid (fun hp => ranL_no t.wins k hp (np := t.parts.length))
          have hrg := hid (fun q hq => ranL_get t.wins k hq (np := t.parts.length) (p := q))
          have hcb := hid (fun q : Nat => cntZ_nonneg (hitB (q : Int) t.wins) k 0)
          generalize idxB (posB (k : Int)) t.wins = I at j1 j2
          generalize partL t.wins (k : Int) = pa at j1 j2 hge hry hrn
          generalize startL t.wins (k : Int) = st at j1 j2
          have e2 := E2.out
          go_wp2_with fail
          refine (j1.out _ hb0r).mono ?_
          rintro e w6 ⟨rfl, hb6⟩
          have hb06 := bel_trans hb0r hb6
          have hblk6 := hblkr.belowS hb6
          have hown6 := own_below HOW.out hb6
          have hbl6 : Below B w4 w6 := hbel.trans (hb6.mono hBr)
          have hB6 : B ≤ w6.heap.size := Nat.le_trans hBr hb6.size
          clear c0 c1 c2 c3 c4 hb6 j1 hblkr HOW
          obtain ⟨w7, hw7, hb7, hx7⟩ : ∃ w7 : World, w6.alloc (.cells #[.int .i64 0, .int .i64 (k : Int), .int .i64 I, .int .i64 pa, .bool ((k : Int) == 0), .bool st] 43) = w7 ∧ Below w6.heap.size w6 w7 ∧ Blk w7 w6.heap.size 43 (whenC 0 k I pa ((k : Int) == 0) st) := ⟨_, rfl, (Below.refl _ _).alloc (Nat.le_refl _) _, Blk.new _ _ (whenC 0 k I pa ((k : Int) == 0) st)⟩
          have hblk7 := hblk6.belowS hb7
          have hb07 := bel_trans hb06 hb7
          have hown7 := own_below hown6 hb7
          have hbl7 : Below B w4 w7 := hbl6.trans (hb7.mono hB6)
          have hB7 : B ≤ w7.heap.size := Nat.le_trans hB6 hb7.size
          clear hblk6 hown6 hb7
          obtain ⟨c0, c1, c2, c3, c4⟩ := tab_cells hblk7
          simp only at c0 c1 c2 c3 c4
          rw [HF.out] at c0
          generalize hxb : w6.heap.size = xb at *
          go_wp2_with fail
          clear hw7 e2 hxb
          refine (j2.out _ hb07).mono ?_
          rintro e w8 ⟨rfl, hb8⟩
          have hb08 := bel_trans hb07 hb8
          have hx8 := hx7.belowS hb8
          have hown8 := own_below hown7 hb8
          have hbl8 : Below B w4 w8 := hbl7.trans (hb8.mono hB7)
          have hB8 : B ≤ w8.heap.size := Nat.le_trans hB7 hb8.size
          clear c0 c1 c2 c3 c4 hb8 j2 hblk7 hown7 hx7
          obtain ⟨w9, hw9, hb9, hy9⟩ : ∃ w9 : World, w8.alloc (.cells #[.int .i64 (fr : Int), .int .i64 (k : Int), .int .i64 I, .int .i64 pa, .bool ((k : Int) == 0), .bool st] 43) = w9 ∧ Below w8.heap.size w8 w9 ∧ Blk w9 w8.heap.size 43 (whenC fr k I pa ((k : Int) == 0) st) := ⟨_, rfl, (Below.refl _ _).alloc (Nat.le_refl _) _, Blk.new _ _ (whenC fr k I pa ((k : Int) == 0) st)⟩
          have hx9 := hx8.belowS hb9
          have hown9 := own_below hown8 hb9
          have hbl9 := hid (hbl8.trans (hb9.mono hB8))
          clear hown8 hx8 hb9
          generalize hyb : w8.heap.size = yb at *
          obtain ⟨d0, d1, d2, d3, d4, d5⟩ : _ ∧ _ ∧ _ ∧ _ ∧ _ ∧ _ := ⟨hx9.cellAt (i := 0) rfl, hx9.cellAt (i := 1) rfl, hx9.cellAt (i := 2) rfl, hx9.cellAt (i := 3) rfl, hx9.cellAt (i := 4) rfl, hx9.cellAt (i := 5) rfl⟩
          obtain ⟨e0, e1, e2, e3, e4, e5⟩ : _ ∧ _ ∧ _ ∧ _ ∧ _ ∧ _ := ⟨hy9.cellAt (i := 0) rfl, hy9.cellAt (i := 1) rfl, hy9.cellAt (i := 2) rfl, hy9.cellAt (i := 3) rfl, hy9.cellAt (i := 4) rfl, hy9.cellAt (i := 5) rfl⟩
          have HOW := hid hown9
          clear hx9 hy9 hown9
          by_cases hpa : 0 ≤ pa
          · obtain ⟨q, rfl⟩ : ∃ q : Nat, pa = q := ⟨pa.toNat, by omega⟩
            have hq : q < t.parts.length := by omega
            have hg := hrg.out q hq
            have hcq := hcb.out q
            have hry2 := hid (hry.out q hq rfl)
            generalize cntZ (hitB (q : Int) t.wins) 0 k = cv at hg hcq hry2
            obtain ⟨v, hv, hcell, hfz⟩ := own_cellM HOW.out hq
            rw [hg] at hv
            injection hv with hv
            subst hv
            have hst := hid (own_storeM HOW.out q (cv + 1))
            have hq0 : (0 : Int) ≤ (q : Int) := Int.natCast_nonneg _
            have hq1 : decide ((0 : Int) ≤ (q : Int)) = true := decide_eq_true (by omega)
            clear hg hpa hge
            go_wp2_with fail
            clear hw9 hyb d0 d1 d2 d3 d4 d5 e0 e1 e2 e3 e4 e5
            go_roundw
            case rel => exact ⟨k + 1, by omega, by go_num, by rw [hry2.out]; exact hst.out.1, hbl9.out.trans hst.out.2⟩
            case measure => simp [intOf]; omega
          · have hrn2 := hid (hrn.out (by omega))
            have hq1 : decide ((0 : Int) ≤ pa) = false := decide_eq_false hpa
            clear hpa hge
            go_wp2_with fail
            clear hw9 hyb d0 d1 d2 d3 d4 d5 e0 e1 e2 e3 e4 e5
            go_roundw
            case rel => exact ⟨k + 1, by omega, by go_num, by rw [hrn2.out]; exact HOW.out, hbl9.out⟩
            case measure => simp [intOf]; omega
        · obtain rfl : k = F := by omega
          go_wp2_with fail
          clear c0 c1 c2 c3 c4
          obtain ⟨w6, rfl⟩ : ∃ w6 : World, w6 = wr := ⟨_, rfl⟩
          go_loopw [11, 96] (fun _ v96 wr => ∃ p : Nat, p ≤ t.parts.length ∧ v96 = .int .i64 (p : Int) ∧ Below w6.heap.size w6 wr) (fun _ v96 _ => t.parts.length - (intOf v96).toNat)
          case atStart => exact ⟨0, by omega, rfl, Below.refl _ _⟩
          case round =>
            obtain ⟨p, hp, rfl, hbp⟩ := hrel
            have hb0p := bel_trans hb0r hbp
            have hblkp := hblkr.belowS hbp
            have hownp := own_below HOW.out hbp
            obtain ⟨c0, c1, c2, c3, c4⟩ := tab_cells hblkp
            simp only at c0 c1 c2 c3 c4
            rw [HF.out] at c0
            by_cases hpn : p < t.parts.length
            · have hg := ranL_get t.wins k hpn (np := t.parts.length)
              rw [hsh.out] at hg
              obtain ⟨v, hv, hcell, hfz⟩ := own_cellM hownp hpn
              rw [hg] at hv
              injection hv with hv
              subst hv
              have j3 := hid (i3.out p)
              generalize shareB t (p : Int) = sv at hcell j3
              have hne : (sv != sv) = false := by simp
              have hp0 : (0 : Int) ≤ (p : Int) := Int.natCast_nonneg _
              have hp1 : (p : Int) < (t.parts.length : Int) := by omega
              clear hg hfz hownp hblkp
              go_wp2_with fail
              go_region_held3 (fun w' => w'.cell? ⟨B, p, none⟩ = some (iV sv) ∧ w'.cell? ⟨w.heap.size, 0, none⟩ = some (.int .i64 (k : Int)) ∧ w'.cell? ⟨w.heap.size, 1, none⟩ = some (.slice A1 t.parts.length k1) ∧ w'.cell? ⟨w.heap.size, 2, none⟩ = some (.slice A2 t.wins.length k2) ∧ w'.cell? ⟨w.heap.size, 3, none⟩ = some (.slice A3 t.chans.length k3) ∧ w'.cell? ⟨w.heap.size, 4, none⟩ = some (.int .i64 t.trial)) (go_keep)
                ((go_at_call 18; refine (j3.out _ ?_).mono ?_; (first | exact hb0p | exact hb0p.drew); rintro e w7 ⟨rfl, hb7'⟩; have hb7 : Below wr.heap.size wr w7 := ⟨hb7'.os, hb7'.tape, hb7'.output, hb7'.size, hb7'.block⟩; clear hb7'; have z0 : w7.cell? ⟨w.heap.size, 0, none⟩ = _ := (hb7.cell (p := ⟨w.heap.size, 0, none⟩) (World.block_lt_of_cell? wr _ c0)).trans c0; have z1 : w7.cell? ⟨w.heap.size, 1, none⟩ = _ := (hb7.cell (p := ⟨w.heap.size, 1, none⟩) (World.block_lt_of_cell? wr _ c1)).trans c1; have z2 : w7.cell? ⟨w.heap.size, 2, none⟩ = _ := (hb7.cell (p := ⟨w.heap.size, 2, none⟩) (World.block_lt_of_cell? wr _ c2)).trans c2; have z3 : w7.cell? ⟨w.heap.size, 3, none⟩ = _ := (hb7.cell (p := ⟨w.heap.size, 3, none⟩) (World.block_lt_of_cell? wr _ c3)).trans c3; have z4 : w7.cell? ⟨w.heap.size, 4, none⟩ = _ := (hb7.cell (p := ⟨w.heap.size, 4, none⟩) (World.block_lt_of_cell? wr _ c4)).trans c4; have z5 : w7.cell? ⟨B, p, none⟩ = _ := (hb7.cell (p := ⟨B, p, none⟩) (World.block_lt_of_cell? wr _ hcell)).trans hcell))
              clear z0 z1 z2 z3 z4 z5 c0 c1 c2 c3 c4 hcell
              go_wp2_with fail
              go_roundw
              case rel => exact ⟨p + 1, by omega, by go_num, bel_trans hbp hb7⟩
              case measure => simp [intOf]; omega
            · obtain rfl : p = t.parts.length := by omega
              go_wp2_with fail
              go_ret
              exact ⟨rfl, hb0p⟩
    · have hr' : rightB t = false := by simpa using hr
      rw [hr'] at he
      subst he
      clear hr hr' hblk4
      go_wp2_with fail
      go_ret
      exact ⟨rfl, hb04⟩
theorem frames_law (w : World) (t : TabS) (a : TabA) (hT : TabCame w t a) (d : Int) (hd : (Lit.int .u16 d).wf = true) :
    Calls Try.prog 8 #[.agg #[.int .i64 t.frame, .slice a.A1 t.parts.length a.c1, .slice a.A2 t.wins.length a.c2, .slice a.A3 t.chans.length a.c3, .int .i64 t.trial], .int .u16 d] w fun e w' => e = .returned (.bool true) ∧ Below w.heap.size w w' := by
  obtain ⟨h1, h2⟩ := bounds_u16 hd
  obtain ⟨m, rfl⟩ : ∃ m : Nat, d = m := ⟨d.toNat, by omega⟩
  exact frames_any w t a hT m (by omega)
/-! ### SchedFrames: from the walk to the given statement -/
namespace lawSchedFrames
theorem own : ownKnob Try.prog.godebug = none := by kernel_rfl
theorem laidOut : laidOutB Try.prog = true := by kernel_rfl
set_option maxRecDepth 100000 in
theorem lifted (os : Os) (started : os.Started) (H : Type) (enc : TypeId × Value → H) :
    ReturnsInHanded {} Try.checked os 8 .any (Rows.schedFramesSpec.pre6 enc Try.prog Try.f8 Rows.schedFramesRow.domain false) (Rows.schedFramesSpec.post enc Try.prog Try.f8 false true false false) := by
  refine returnsInHanded_of_change (C := Try.checked) own started (by kernel_rfl) Try.func8
    (ChangeSpec.witness6 (enc := enc) (C := Try.checked) false ⟨#[], #[.agg #[.int .i64 0, .slice none 0 0, .slice none 0 0, .slice none 0 0, .int .i64 0], .int .u16 0], []⟩ 8 (by kernel_rfl) (by kernel_rfl) (by kernel_rfl) (by kernel_rfl)) ?_
  intro W base args ds gs before hval0 hW hcnd _
  have hval : ∀ (j : Nat) t v, Try.f8.params[j]? = some t → args[j]? = some v → Value.okWide Try.prog W .any base t v := hval0
  have hW' := hW
  obtain ⟨p, q, hA0, hV, rfl, hfz, hnd⟩ := hW
  have hA : DataW.TrodAll enc Try.prog W 0 (fun _ => true) true Try.f8.params.toList args.toList ds p := hA0
  rw [Try.params8] at hA hval
  obtain ⟨v0, vs0, d0, ds0, p0, q0, hargs, rfl, rfl, h0, r0⟩ := trodAll_cons hA
  obtain ⟨v1, vs1, d1, ds1, p1, q1, rfl, rfl, rfl, h1, r1⟩ := trodAll_cons r0
  obtain ⟨rfl, rfl, rfl⟩ := trodAll_nil r1
  obtain rfl : args = #[v0, v1] := by cases args; simp_all
  obtain ⟨rfl, rfl⟩ := trodVars_none hV
  have k0 := h0
  have lt0 : ∀ x ∈ p0, x.block < W.heap.size := by obtain ⟨m, hm⟩ := k0; exact DataW.trod_lt m _ _ _ hm
  have k1 := h1
  have lt1 : ∀ x ∈ p1, x.block < W.heap.size := by obtain ⟨m, hm⟩ := k1; exact DataW.trod_lt m _ _ _ hm
  obtain ⟨t0, a0, rfl, w0⟩ := open_tab (hval 0 26 v0 rfl rfl) h0
  obtain ⟨a1, rfl, rfl, rfl, w1⟩ := open_int Try.underlying48 (hval 1 48 v1 rfl rfl) h1
  clear hA0 hval0
  refine (frames_law W t0 a0 w0 a1 w1).mono fun e W' ⟨he, bel⟩ => ?_
  subst he
  exact ⟨_, rfl, _, _, _, [], _, [], hW', trodAll_mk1 (shut_bool Try.underlying4 _), (trodAll_cons_mk (Below.trod laidOut (by kernel_rfl) (of_decide_eq_true (by kernel_rfl)) k0 bel lt0) (trodAll_cons_mk (Below.trod laidOut (by kernel_rfl) (of_decide_eq_true (by kernel_rfl)) k1 bel lt1) trodAll_mk0)), rfl, bel.frame _, fun h => by cases h⟩
theorem over : Rows.schedFramesRow.holds Try.pinned (OpenSpec.ofChange Rows.schedFramesSpec) :=
  OpenClaim.holds_of_wide 8 Try.f8 rfl rfl rfl rfl rfl rfl rfl ⟨rfl, rfl, rfl, rfl, rfl⟩ rfl rfl rfl rfl rfl (by kernel_rfl) Try.func8 (by kernel_rfl)
    (of_decide_eq_true (by kernel_rfl)) (by unfold Func.isWrapper; first | (rw [if_pos (by decide +kernel)]; kernel_rfl) | (rw [if_neg (by decide +kernel)]; exact ⟨rfl, rfl⟩))
    (fun os started H enc _ => lifted os started H enc)
theorem proved : Rows.SchedFramesSaid := over
#print axioms proved
end lawSchedFrames
end Go.Proofs.Ytbnodcenlggcnaa
