/-
  Law 22: at any tick of any table what is so is what the document says (SchedAt).
-/
import Derived.Test.YtbnodcenlggcnaaSchedLater
namespace Go.Proofs.Ytbnodcenlggcnaa
open Go.RowKit Go.ChangeShapes Go.WideShapes Go.ChangeAt

theorem start_neg {t : TabS} (h : RightT t) (pos : Int) (hp : partL t.wins pos < 0) : startL t.wins pos = false := by
  unfold partL at hp
  unfold startL
  cases hf : t.wins.find? (posB pos) with
  | none => rfl
  | some w =>
    rw [hf] at hp
    have := h.win w (List.mem_of_find?_eq_some hf)
    have := this.1
    simp only at hp
    omega
/-- What the walk of this law knows of the table in any later world. -/
def TabAt (g : Nat) (t : TabS) (a : TabA) (F : Nat) (w' : World) : Prop := w'.cell? ⟨g, 0, none⟩ = some (.int .i64 (F : Int)) ∧ w'.cell? ⟨g, 1, none⟩ = some (.slice a.A1 t.parts.length a.c1) ∧ w'.cell? ⟨g, 2, none⟩ = some (.slice a.A2 t.wins.length a.c2) ∧ w'.cell? ⟨g, 3, none⟩ = some (.slice a.A3 t.chans.length a.c3) ∧ w'.cell? ⟨g, 4, none⟩ = some (.int .i64 t.trial)
theorem tabAt {w : World} {g : Nat} {t : TabS} {a : TabA} {F : Nat} (h : Blk w g 26 (tabC t a)) (hF : t.frame = (F : Int)) : TabAt g t a F w := by
  obtain ⟨c0, c1, c2, c3, c4⟩ := tab_cells h
  rw [hF] at c0
  exact ⟨c0, c1, c2, c3, c4⟩
theorem bel8 {w x : World} (h : Below w.heap.size w x) : Below w.heap.size w x.drew := h.drew
theorem bel8a {w x : World} (h : Below w.heap.size w x) {o : Obj} : Below w.heap.size w (x.alloc o).drew := (h.alloc h.size o).drew
theorem bel8b {w x : World} (h : Below w.heap.size w x) {o : Obj} : Below w.heap.size w (x.alloc o) := h.alloc h.size o
theorem bel9b {w x y : World} {o : Obj} (h : Below w.heap.size w x) (k : Below (x.alloc o).heap.size (x.alloc o) y) : Below w.heap.size w y := bel_trans (h.alloc h.size o) k
theorem bel9y {x y : World} (k : Below (x.alloc (.cells #[.int .i64 0, .int .i64 0, .int .i64 0, .int .i64 0, .bool false, .bool false] 43)).heap.size (x.alloc (.cells #[.int .i64 0, .int .i64 0, .int .i64 0, .int .i64 0, .bool false, .bool false] 43)) y) : Blk y x.heap.size 43 (whenC 0 0 0 0 false false) :=
  Blk.belowS (w := x.alloc (.cells #[.int .i64 0, .int .i64 0, .int .i64 0, .int .i64 0, .bool false, .bool false] 43)) (Blk.new x _ (whenC 0 0 0 0 false false)) k
theorem box6 {w : World} {b : Nat} {T : TypeId} {v0 v1 v2 v3 v4 v5 : Value} (h : Blk w b T [v0, v1, v2, v3, v4, v5]) : (w.cell? ⟨b, 0, none⟩ = some v0 ∧ w.cell? ⟨b, 1, none⟩ = some v1 ∧ w.cell? ⟨b, 2, none⟩ = some v2 ∧ w.cell? ⟨b, 3, none⟩ = some v3 ∧ w.cell? ⟨b, 4, none⟩ = some v4 ∧ w.cell? ⟨b, 5, none⟩ = some v5) ∧
    (w.frozen? ⟨b, 0, none⟩ = false ∧ w.frozen? ⟨b, 1, none⟩ = false ∧ w.frozen? ⟨b, 2, none⟩ = false ∧ w.frozen? ⟨b, 3, none⟩ = false ∧ w.frozen? ⟨b, 4, none⟩ = false ∧ w.frozen? ⟨b, 5, none⟩ = false) :=
  ⟨⟨h.cellAt rfl, h.cellAt rfl, h.cellAt rfl, h.cellAt rfl, h.cellAt rfl, h.cellAt rfl⟩, h.frozen 0, h.frozen 1, h.frozen 2, h.frozen 3, h.frozen 4, h.frozen 5⟩
theorem bel9 {w x y : World} (h : Below w.heap.size w x) (k : Below x.drew.heap.size x.drew y) : Below w.heap.size w y := bel_trans h ⟨k.os, k.tape, k.output, k.size, k.block⟩
theorem bel9a {w x y : World} {o : Obj} (h : Below w.heap.size w x) (k : Below (x.alloc o).drew.heap.size (x.alloc o).drew y) : Below w.heap.size w y := bel_trans (h.alloc h.size o) ⟨k.os, k.tape, k.output, k.size, k.block⟩
theorem bel9z {x y : World} (k : Below x.drew.heap.size x.drew y) : Below x.heap.size x y := ⟨k.os, k.tape, k.output, k.size, k.block⟩
theorem bel9x {x y : World} (k : Below (x.alloc (.cells #[.int .i64 0, .int .i64 0, .int .i64 0, .int .i64 0, .bool false, .bool false] 43)).drew.heap.size (x.alloc (.cells #[.int .i64 0, .int .i64 0, .int .i64 0, .int .i64 0, .bool false, .bool false] 43)).drew y) : Blk y x.heap.size 43 (whenC 0 0 0 0 false false) := bel9y (bel9z k)
set_option maxRecDepth 100000 in
set_option maxHeartbeats 2000000 in
theorem atMain_any (w : World) (t : TabS) (a : TabA) (hT : TabCame w t a) (tick : Int) (hti : tick ≤ 9223372036854775807) :
    Calls Try.prog 7 #[.agg #[.int .i64 t.frame, .slice a.A1 t.parts.length a.c1, .slice a.A2 t.wins.length a.c2, .slice a.A3 t.chans.length a.c3, .int .i64 t.trial], .int .i64 tick] w fun e w' => e = .returned (.bool true) ∧ Below w.heap.size w w' := by
  obtain ⟨A1, k1, A2, k2, A3, k3⟩ := a
  simp only
  obtain ⟨w1, hw1, hb0, hblk0, hs1⟩ := tab_in t ⟨A1, k1, A2, k2, A3, k3⟩ w
  simp only at hw1
  have iL := hid (fun w' => longS_any t ⟨A1, k1, A2, k2, A3, k3⟩ w' hT.l1 hT.l2 hT.l3)
  have HC := hid hT
  clear hT
  simp only at iL
  go_enter Try.func7, Try.ntmps7
  go_wp2_with fail
  clear hw1 hs1
  refine (wakesS_any _).mono ?_
  rintro e w2 ⟨rfl, hb2⟩
  have hb02 := bel_trans hb0 hb2
  have hblk2 := hblk0.belowS hb2
  obtain ⟨c0, c1, c2, c3, c4⟩ := tab_cells hblk2
  simp only at c0 c1 c2 c3 c4
  clear hblk0 hb2
  go_wp2_with fail
  refine (iL.out _).mono ?_
  rintro e w3 ⟨he, hb3⟩
  have hb03 := bel_trans hb02 hb3
  have hblk3 := hblk2.belowS hb3
  clear c0 c1 c2 c3 c4 hblk2 hb3 iL
  obtain ⟨c0, c1, c2, c3, c4⟩ := tab_cells hblk3
  simp only at c0 c1 c2 c3 c4
  by_cases hl : longB t = true
  · rw [hl] at he
    subst he
    clear hl hblk3
    go_wp2_with fail
    go_ret
    exact ⟨rfl, hb03⟩
  · have hl' : longB t = false := by simpa using hl
    rw [hl'] at he
    subst he
    have HO : Hid (∀ w', Below w.heap.size w w' → TabOk w' t ⟨A1, k1, A2, k2, A3, k3⟩) := hid (fun w' hb => HC.out.ok hl' hb)
    clear hl hl' HC
    by_cases hr : rightB t = true
    · by_cases ht : tick < 0
      · have i1 := hid (fun w' hb => At_neg t ⟨A1, k1, A2, k2, A3, k3⟩ tick w' (HO.out w' hb) hr ht)
        have i2 := hid (fun w' hb => refRight_any t ⟨A1, k1, A2, k2, A3, k3⟩ w' (HO.out w' hb))
        rw [hr] at i2
        unfold atZ at i1
        simp only at i1 i2
        clear hr HO
        have ht2 := decide_eq_true ht
        clear ht
        go_wp2_with fail
        refine (i1.out _ hb03).mono ?_
        rintro e w4 ⟨rfl, hb4⟩
        have hb04 := bel_trans hb03 hb4
        have hblk4 := hblk3.belowS hb4
        obtain ⟨w6, hw6, hb6, hx6, hs6⟩ := when_in w4
        clear hs6
        have hblk6 := hblk4.belowS hb6
        have hb06 := bel_trans hb04 hb6
        clear c0 c1 c2 c3 c4 hblk3 hb4 i1 hblk4
        obtain ⟨c0, c1, c2, c3, c4⟩ := tab_cells hblk6
        simp only at c0 c1 c2 c3 c4
        subst hw6
        go_wp2_with fail
        refine (i2.out _ hb06).mono ?_
        rintro e w7 ⟨rfl, hb7⟩
        have hx7 := hx6.belowS hb7
        obtain ⟨e0, e1, e2, e3, e4, e5⟩ : _ ∧ _ ∧ _ ∧ _ ∧ _ ∧ _ := ⟨hx7.cellAt (i := 0) rfl, hx7.cellAt (i := 1) rfl, hx7.cellAt (i := 2) rfl, hx7.cellAt (i := 3) rfl, hx7.cellAt (i := 4) rfl, hx7.cellAt (i := 5) rfl⟩
        have hfin := hid (bel_trans hb06 hb7)
        clear c0 c1 c2 c3 c4 hx7 hx6 hblk6 hb6
        go_wp2_with fail
        go_ret
        exact ⟨rfl, hfin.out⟩
      · have hR := (rightB_iff t).1 hr
        obtain ⟨T, rfl⟩ : ∃ T : Nat, tick = T := ⟨tick.toNat, by omega⟩
        have hTi : T ≤ 9223372036854775807 := by omega
        obtain ⟨F, hF⟩ : ∃ F : Nat, t.frame = (F : Int) := ⟨t.frame.toNat, by have := hR.f1; omega⟩
        have hf1 := hR.f1
        have hf2 := hR.f2
        have hF1 : 1 ≤ F := by omega
        have hF2 : F ≤ 64 := by omega
        have i1 := hid (fun w' hb => At_ok t ⟨A1, k1, A2, k2, A3, k3⟩ F T hF hTi w' (HO.out w' hb) hR)
        have i2 := hid (fun w' hb => refRight_any t ⟨A1, k1, A2, k2, A3, k3⟩ w' (HO.out w' hb))
        have i3 := hid (fun w' => refPos_any t ⟨A1, k1, A2, k2, A3, k3⟩ F T hF hF1 hF2 hTi w')
        have i4 := hid (fun w' hb => refWindow_any t ⟨A1, k1, A2, k2, A3, k3⟩ ((T % F : Nat) : Int) w' (HO.out w' hb) hR)
        have i5 := hid (fun w' hb => refPart_any t ⟨A1, k1, A2, k2, A3, k3⟩ ((T % F : Nat) : Int) w' (HO.out w' hb) hR)
        have i6 := hid (fun w' hb => refStarts_any t ⟨A1, k1, A2, k2, A3, k3⟩ ((T % F : Nat) : Int) w' (HO.out w' hb))
        have hsn := hid (start_neg hR ((T % F : Nat) : Int))
        rw [← startL_any hR] at i6
        rw [hr] at i2
        unfold atV at i1
        simp only at i1 i2 i3 i4 i5 i6
        rw [hF] at i1 i2 i3 i4 i5 i6 c0
        have hDm := Nat.div_add_mod T F
        have hml := Nat.mod_lt T (show 0 < F by omega)
        obtain ⟨TM, hTM⟩ : ∃ TM : Nat, T - T % F = TM := ⟨_, rfl⟩
        have hq : TM / F = T / F := by
          have : TM = F * (T / F) := by omega
          rw [this, Nat.mul_div_cancel_left _ (by omega)]
        have hDT : T / F ≤ T := Nat.div_le_self _ _
        have hTM2 : (T : Int) - ((T % F : Nat) : Int) = (TM : Int) := by omega
        have hq1 : Int.tdiv (TM : Int) (F : Int) = ((T / F : Nat) : Int) := by rw [← hq, Int.tdiv_eq_ediv_of_nonneg (by omega)]; rfl
        have hq2 : (TM : Int) / (F : Int) = ((T / F : Nat) : Int) := by rw [← hq]; rfl
        have hTMle : TM ≤ 9223372036854775807 := by omega
        generalize T / F = D at *
        generalize T % F = M at *
        generalize idxB (posB (M : Int)) t.wins = I at *
        generalize partL t.wins (M : Int) = pa at *
        generalize startL t.wins (M : Int) = st at *
        have hDmx : D ≤ 9223372036854775807 := by omega
        have hM64 : M ≤ 64 := by omega
        have e1 : IntKind.i64.wrap ((T : Int) - (M : Int)) = (TM : Int) := by rw [hTM2]; exact IntWalk.i64_in _ (by omega)
        have e2 : IntKind.i64.wrap (D : Int) = (D : Int) := IntWalk.i64_in _ (by omega)
        have HE := hid (And.intro hTM2 (And.intro hq1 (And.intro hq2 (And.intro e1 e2))))
        have HF := hid hF
        have ht2 : decide ((T : Int) < 0) = false := decide_eq_false ht
        clear hr hR hf1 hf2 ht hti hDm hml hTM hq hTM2 hq1 hq2 e1 e2 hDT
        go_wp2_with fail
        refine (i1.out _ hb03).mono ?_
        rintro e w5 ⟨rfl, hb5⟩
        have hb05 := bel_trans hb03 hb5
        have hblk5 := hblk3.belowS hb5
        clear c0 c1 c2 c3 c4 hblk3 hb5 i1
        obtain ⟨w6, hw6, hb6, hx6, hs6⟩ : ∃ w6 : World, w5.alloc (.cells #[.int .i64 (D : Int), .int .i64 (M : Int), .int .i64 I, .int .i64 pa, .bool ((M : Int) == 0), .bool st] 43) = w6 ∧ Below w5.heap.size w5 w6 ∧ Blk w6 w5.heap.size 43 (whenC D M I pa ((M : Int) == 0) st) ∧ w6.heap.size = w5.heap.size + 1 := ⟨_, rfl, (Below.refl _ _).alloc (Nat.le_refl _) _, Blk.new _ _ (whenC D M I pa ((M : Int) == 0) st), by simp⟩
        have hblk6 := hblk5.belowS hb6
        have hb06 := bel_trans hb05 hb6
        obtain ⟨c0, c1, c2, c3, c4⟩ := tabAt hblk6 HF.out
        simp only at c1 c2 c3 c4
        go_wp2_with fail
        clear hw6 hs6
        refine (i2.out _ hb06).mono ?_
        rintro e w7 ⟨rfl, hb7⟩
        have hb07 := bel_trans hb06 hb7
        have hx7 := hx6.belowS hb7
        have hblk7 := hblk6.belowS hb7
        clear c0 c1 c2 c3 c4 hb6 hx6 hblk6 hblk5 i2
        obtain ⟨c0, c1, c2, c3, c4⟩ := tabAt hblk7 HF.out
        simp only at c1 c2 c3 c4
        generalize w5.heap.size = xb at *
        go_wp2_with fail
        refine (i3.out _).mono ?_
        rintro e w8 ⟨rfl, hb8⟩
        have hb08 := bel_trans hb07 hb8
        have hx8 := hx7.belowS hb8
        have hblk8 := hblk7.belowS hb8
        clear c0 c1 c2 c3 c4 hb7 hx7 hblk7 i3
        have HA : Hid (∀ w', Below w8.heap.size w8 w' → TabAt w.heap.size t ⟨A1, k1, A2, k2, A3, k3⟩ F w') := hid (fun w' hb => tabAt (hblk8.belowS hb) HF.out)
        have j4 := hid (fun w' hb => i4.out w' (bel_trans hb08 hb))
        have j5 := hid (fun w' hb => i5.out w' (bel_trans hb08 hb))
        obtain ⟨c0, c1, c2, c3, c4⟩ := HA.out w8 (Below.refl _ _)
        simp only at c1 c2 c3 c4
        obtain ⟨hTM2, hq1, hq2, e1, e2⟩ := HE.out
        have hne : ((F : Int) == 0) = false := beq_eq_false_iff_ne.2 (by omega)
        have hn0 : F ≠ 0 := by omega
        have hlt0 : (0 : Int) < (F : Int) := by omega
        have e1' : IntKind.i64.wrap (TM : Int) = (TM : Int) := IntWalk.i64_in _ (by omega)
        have hlt8 := hblk8.lt
        have n1 : w.heap.size ≠ w8.heap.size := by omega
        have n2 : w8.heap.size ≠ w.heap.size := by omega
        go_wp2_with fail
        go_region_held3 (fun w' => w'.cell? ⟨w.heap.size, 0, none⟩ = some (.int .i64 (F : Int)) ∧ w'.cell? ⟨w.heap.size, 1, none⟩ = some (.slice A1 t.parts.length k1) ∧ w'.cell? ⟨w.heap.size, 2, none⟩ = some (.slice A2 t.wins.length k2) ∧ w'.cell? ⟨w.heap.size, 3, none⟩ = some (.slice A3 t.chans.length k3) ∧ w'.cell? ⟨w.heap.size, 4, none⟩ = some (.int .i64 t.trial))
          (go_keep)
          (first
            | (go_at_call 24; refine (j4.out _ ?_).mono ?_; (first | exact Below.refl _ _ | exact bel8 (Below.refl _ _) | exact bel8b (Below.refl _ _) | exact bel8a (Below.refl _ _) | exact hbP | exact bel8 hbP | exact bel8b hbP | exact bel8a hbP); rintro e wa ⟨rfl, hba⟩; have hbW : Below w8.heap.size w8 wa := (by first | exact hba | exact bel9 (Below.refl _ _) hba | exact bel9b (Below.refl _ _) hba | exact bel9a (Below.refl _ _) hba | exact bel_trans hbP hba | exact bel9 hbP hba | exact bel9b hbP hba | exact bel9a hbP hba); (try (first | have hbx := bel9x hba | have hbx := bel9y hba)); (try (first | have hby := hbx2.belowS hba | have hby := hbx2.belowS (bel9z hba))); (try (first | have hbox := box6 hby | have hbox := box6 hbx)); have n3 : w.heap.size ≠ wa.heap.size := (by have := hbW.size; omega); have n4 : wa.heap.size ≠ w.heap.size := (by omega); obtain ⟨z0, z1, z2, z3, z4⟩ := HA.out _ hbW; simp only at z1 z2 z3 z4)
            | (go_at_call 30; refine (j5.out _ ?_).mono ?_; (first | exact Below.refl _ _ | exact bel8 (Below.refl _ _) | exact bel8b (Below.refl _ _) | exact bel8a (Below.refl _ _) | exact hbW | exact bel8 hbW | exact bel8b hbW | exact bel8a hbW); rintro e wb ⟨rfl, hbb⟩; have hbP : Below w8.heap.size w8 wb := (by first | exact hbb | exact bel9 (Below.refl _ _) hbb | exact bel9b (Below.refl _ _) hbb | exact bel9a (Below.refl _ _) hbb | exact bel_trans hbW hbb | exact bel9 hbW hbb | exact bel9b hbW hbb | exact bel9a hbW hbb); (try (first | have hbx2 := bel9x hbb | have hbx2 := bel9y hbb)); (try (first | have hby := hbx.belowS hbb | have hby := hbx.belowS (bel9z hbb))); (try (first | have hbox := box6 hby | have hbox := box6 hbx2)); have n5 : w.heap.size ≠ wb.heap.size := (by have := hbP.size; omega); have n6 : wb.heap.size ≠ w.heap.size := (by omega); obtain ⟨z0, z1, z2, z3, z4⟩ := HA.out _ hbP; simp only at z1 z2 z3 z4))
        all_goals
          clear n1 n2 n3 n4 n5 n6 e1' hTM2 hq1 hq2 e1 e2 hne hn0 hlt0 z0 z1 z2 z3 z4 c0 c1 c2 c3 c4
          first
            | (obtain ⟨yb, wc, hyb, hwc, hyge, hbc, hyc⟩ : ∃ (yb : Nat) (wc : World), wb.heap.size = yb ∧ wb.alloc (.cells #[.int .i64 (D : Int), .int .i64 (M : Int), .int .i64 I, .int .i64 pa, .bool ((M : Int) == 0), .bool false] 43) = wc ∧ w8.heap.size ≤ yb ∧ Below w8.heap.size w8 wc ∧ Blk wc yb 43 (whenC D M I pa ((M : Int) == 0) false) := ⟨_, _, rfl, rfl, hbP.size, hbP.alloc hbP.size _, Blk.new _ _ (whenC D M I pa ((M : Int) == 0) false)⟩
               rw [hwc, hyb]
               clear hwc hyb)
            | (obtain ⟨wc, hwc, hb6, hyc⟩ := store6 hbx2 rfl (.int .i64 (D : Int)) (.int .i64 (M : Int)) (.int .i64 I) (.int .i64 pa) (.bool ((M : Int) == 0)) (.bool false)
               rw [hwc]
               have hyge : w8.heap.size ≤ wa.heap.size := hbW.size
               have hbc : Below w8.heap.size w8 wc := hbP.trans (hb6.mono hyge)
               generalize wa.heap.size = yb at *
               clear hwc hbx2 hbox hb6)
            | (obtain ⟨wc, hwc, hb6, hyc⟩ := store6 hby rfl (.int .i64 (D : Int)) (.int .i64 (M : Int)) (.int .i64 I) (.int .i64 pa) (.bool ((M : Int) == 0)) (.bool false)
               rw [hwc]
               have hyge : w8.heap.size ≤ w8.heap.size := Nat.le_refl _
               have hbc : Below w8.heap.size w8 wc := hbP.trans (hb6.mono hyge)
               obtain ⟨yb, hyb⟩ : ∃ yb, w8.heap.size = yb := ⟨_, rfl⟩
               have hyge : w8.heap.size ≤ yb := by omega
               rw [hyb] at hyc ⊢
               clear hwc hby hbox hb6 hyb)
          have hxlt := hx8.lt
          have hxc := hx8.belowS hbc
          have hb0c := bel_trans hb08 hbc
          have hj6 := hid (i6.out wc hb0c)
          obtain ⟨c0, c1, c2, c3, c4⟩ := HA.out wc hbc
          simp only at c1 c2 c3 c4
          have e3 : wc.cell? ⟨yb, 3, none⟩ = some (.int .i64 pa) := hyc.cellAt rfl
          by_cases hpa : 0 ≤ pa
          · have hp1 := decide_eq_true hpa
            clear hpa
            go_wp2_with fail
            refine hj6.out.mono ?_
            rintro e wd ⟨rfl, hbd⟩
            have hyd := hyc.belowS hbd
            have hxd := hxc.belowS hbd
            have hbfin := hid ((bel_trans hb0c hbd).setCell (p := ⟨yb, 5, none⟩) (by have := hb08.size; simp only; omega) (.bool st))
            have f5 : wd.frozen? ⟨yb, 5, none⟩ = false := hyd.frozen 5
            have g5 : wd.cell? ⟨yb, 5, none⟩ = some (.bool false) := hyd.cellAt rfl
            obtain ⟨we, hwe⟩ : ∃ we : World, wd.setCell ⟨yb, 5, none⟩ (.bool st) = we := ⟨_, rfl⟩
            have hye := hyd.set_ 5 (.bool st)
            have hxe := hxd.far (p := ⟨yb, 5, none⟩) (by simp only; omega) (.bool st)
            rw [hwe] at hye hxe hbfin
            clear c0 c1 c2 c3 c4 e3
            obtain ⟨e0, e1, e2, e3, e4, e5⟩ : _ ∧ _ ∧ _ ∧ _ ∧ _ ∧ _ := ⟨hye.cellAt (i := 0) rfl, hye.cellAt (i := 1) rfl, hye.cellAt (i := 2) rfl, hye.cellAt (i := 3) rfl, hye.cellAt (i := 4) rfl, hye.cellAt (i := 5) rfl⟩
            obtain ⟨y0, y1, y2, y3, y4, y5⟩ : _ ∧ _ ∧ _ ∧ _ ∧ _ ∧ _ := ⟨hxe.cellAt (i := 0) rfl, hxe.cellAt (i := 1) rfl, hxe.cellAt (i := 2) rfl, hxe.cellAt (i := 3) rfl, hxe.cellAt (i := 4) rfl, hxe.cellAt (i := 5) rfl⟩
            clear hye hxe hyd hxd
            go_wp2_with fail
            go_ret
            exact ⟨rfl, hbfin.out⟩
          · have hp1 := decide_eq_false hpa
            have hst := hsn.out (by omega)
            subst hst
            clear hpa
            have f5 : wc.frozen? ⟨yb, 5, none⟩ = false := hyc.frozen 5
            have g5 : wc.cell? ⟨yb, 5, none⟩ = some (.bool false) := hyc.cellAt rfl
            have hbfin := hid (hb0c.setCell (p := ⟨yb, 5, none⟩) (by have := hb08.size; simp only; omega) (.bool false))
            obtain ⟨we, hwe⟩ : ∃ we : World, wc.setCell ⟨yb, 5, none⟩ (.bool false) = we := ⟨_, rfl⟩
            have hye := hyc.set_ 5 (.bool false)
            have hxe := hxc.far (p := ⟨yb, 5, none⟩) (by simp only; omega) (.bool false)
            rw [hwe] at hye hxe hbfin
            obtain ⟨e0, e1, e2, e3, e4, e5⟩ : _ ∧ _ ∧ _ ∧ _ ∧ _ ∧ _ := ⟨hye.cellAt (i := 0) rfl, hye.cellAt (i := 1) rfl, hye.cellAt (i := 2) rfl, hye.cellAt (i := 3) rfl, hye.cellAt (i := 4) rfl, hye.cellAt (i := 5) rfl⟩
            obtain ⟨y0, y1, y2, y3, y4, y5⟩ : _ ∧ _ ∧ _ ∧ _ ∧ _ ∧ _ := ⟨hxe.cellAt (i := 0) rfl, hxe.cellAt (i := 1) rfl, hxe.cellAt (i := 2) rfl, hxe.cellAt (i := 3) rfl, hxe.cellAt (i := 4) rfl, hxe.cellAt (i := 5) rfl⟩
            clear hye hxe
            go_wp2_with fail
            go_ret
            exact ⟨rfl, hbfin.out⟩
    · have hr' : rightB t = false := by simpa using hr
      have i1 := hid (fun w' hb => At_bad t ⟨A1, k1, A2, k2, A3, k3⟩ tick w' (HO.out w' hb) hr')
      have i2 := hid (fun w' hb => refRight_any t ⟨A1, k1, A2, k2, A3, k3⟩ w' (HO.out w' hb))
      rw [hr'] at i2
      unfold atZ at i1
      simp only at i1 i2
      clear hr hr' HO
      go_wp2_with fail
      refine (i1.out _ hb03).mono ?_
      rintro e w4 ⟨rfl, hb4⟩
      have hb04 := bel_trans hb03 hb4
      have hblk4 := hblk3.belowS hb4
      obtain ⟨w6, hw6, hb6, hx6, hs6⟩ := when_in w4
      clear hs6
      have hblk6 := hblk4.belowS hb6
      have hb06 := bel_trans hb04 hb6
      clear c0 c1 c2 c3 c4 hblk3 hb4 i1 hblk4
      obtain ⟨c0, c1, c2, c3, c4⟩ := tab_cells hblk6
      simp only at c0 c1 c2 c3 c4
      subst hw6
      go_wp2_with fail
      refine (i2.out _ hb06).mono ?_
      rintro e w7 ⟨rfl, hb7⟩
      have hx7 := hx6.belowS hb7
      obtain ⟨e0, e1, e2, e3, e4, e5⟩ : _ ∧ _ ∧ _ ∧ _ ∧ _ ∧ _ := ⟨hx7.cellAt (i := 0) rfl, hx7.cellAt (i := 1) rfl, hx7.cellAt (i := 2) rfl, hx7.cellAt (i := 3) rfl, hx7.cellAt (i := 4) rfl, hx7.cellAt (i := 5) rfl⟩
      have hfin := hid (bel_trans hb06 hb7)
      clear c0 c1 c2 c3 c4 hx7 hx6 hblk6 hb6
      go_wp2_with fail
      go_ret
      exact ⟨rfl, hfin.out⟩
theorem atMain_law (w : World) (t : TabS) (a : TabA) (hT : TabCame w t a) (d : Int) (hd : (Lit.int .i64 d).wf = true) :
    Calls Try.prog 7 #[.agg #[.int .i64 t.frame, .slice a.A1 t.parts.length a.c1, .slice a.A2 t.wins.length a.c2, .slice a.A3 t.chans.length a.c3, .int .i64 t.trial], .int .i64 d] w fun e w' => e = .returned (.bool true) ∧ Below w.heap.size w w' :=
  atMain_any w t a hT d (bounds_i64 hd).2
/-! ### SchedAt: from the walk to the given statement -/
namespace lawSchedAt
theorem own : ownKnob Try.prog.godebug = none := by kernel_rfl
theorem laidOut : laidOutB Try.prog = true := by kernel_rfl
set_option maxRecDepth 100000 in
theorem lifted (os : Os) (started : os.Started) (H : Type) (enc : TypeId × Value → H) :
    ReturnsInHanded {} Try.checked os 7 .any (Rows.schedAtSpec.pre6 enc Try.prog Try.f7 Rows.schedAtRow.domain false) (Rows.schedAtSpec.post enc Try.prog Try.f7 false true false false) := by
  refine returnsInHanded_of_change (C := Try.checked) own started (by kernel_rfl) Try.func7
    (ChangeSpec.witness6 (enc := enc) (C := Try.checked) false ⟨#[], #[.agg #[.int .i64 0, .slice none 0 0, .slice none 0 0, .slice none 0 0, .int .i64 0], .int .i64 0], []⟩ 8 (by kernel_rfl) (by kernel_rfl) (by kernel_rfl) (by kernel_rfl)) ?_
  intro W base args ds gs before hval0 hW hcnd _
  have hval : ∀ (j : Nat) t v, Try.f7.params[j]? = some t → args[j]? = some v → Value.okWide Try.prog W .any base t v := hval0
  have hW' := hW
  obtain ⟨p, q, hA0, hV, rfl, hfz, hnd⟩ := hW
  have hA : DataW.TrodAll enc Try.prog W 0 (fun _ => true) true Try.f7.params.toList args.toList ds p := hA0
  rw [Try.params7] at hA hval
  obtain ⟨v0, vs0, d0, ds0, p0, q0, hargs, rfl, rfl, h0, r0⟩ := trodAll_cons hA
  obtain ⟨v1, vs1, d1, ds1, p1, q1, rfl, rfl, rfl, h1, r1⟩ := trodAll_cons r0
  obtain ⟨rfl, rfl, rfl⟩ := trodAll_nil r1
  obtain rfl : args = #[v0, v1] := by cases args; simp_all
  obtain ⟨rfl, rfl⟩ := trodVars_none hV
  have k0 := h0
  have lt0 : ∀ x ∈ p0, x.block < W.heap.size := by obtain ⟨m, hm⟩ := k0; exact DataW.trod_lt m _ _ _ hm
  have k1 := h1
  have lt1 : ∀ x ∈ p1, x.block < W.heap.size := by obtain ⟨m, hm⟩ := k1; exact DataW.trod_lt m _ _ _ hm
  obtain ⟨t0, a0, rfl, w0⟩ := open_tab (hval 0 26 v0 rfl rfl) h0
  obtain ⟨a1, rfl, rfl, rfl, w1⟩ := open_int Try.underlying3 (hval 1 3 v1 rfl rfl) h1
  clear hA0 hval0
  refine (atMain_law W t0 a0 w0 a1 w1).mono fun e W' ⟨he, bel⟩ => ?_
  subst he
  exact ⟨_, rfl, _, _, _, [], _, [], hW', trodAll_mk1 (shut_bool Try.underlying4 _), (trodAll_cons_mk (Below.trod laidOut (by kernel_rfl) (of_decide_eq_true (by kernel_rfl)) k0 bel lt0) (trodAll_cons_mk (Below.trod laidOut (by kernel_rfl) (of_decide_eq_true (by kernel_rfl)) k1 bel lt1) trodAll_mk0)), rfl, bel.frame _, fun h => by cases h⟩
theorem over : Rows.schedAtRow.holds Try.pinned (OpenSpec.ofChange Rows.schedAtSpec) :=
  OpenClaim.holds_of_wide 7 Try.f7 rfl rfl rfl rfl rfl rfl rfl ⟨rfl, rfl, rfl, rfl, rfl⟩ rfl rfl rfl rfl rfl (by kernel_rfl) Try.func7 (by kernel_rfl)
    (of_decide_eq_true (by kernel_rfl)) (by unfold Func.isWrapper; first | (rw [if_pos (by decide +kernel)]; kernel_rfl) | (rw [if_neg (by decide +kernel)]; exact ⟨rfl, rfl⟩))
    (fun os started H enc _ => lifted os started H enc)
theorem proved : Rows.SchedAtSaid := over
#print axioms proved
end lawSchedAt
end Go.Proofs.Ytbnodcenlggcnaa
