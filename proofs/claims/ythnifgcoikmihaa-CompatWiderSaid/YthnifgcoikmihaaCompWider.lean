/-
  An image that may run may run where there is more memory, and more fuel; one that is refused for its size alone may run where there is as much as it needs. No condition.
-/
import Derived.Test.YthnifgcoikmihaaCompEx
import Derived.Test.YthnifgcoikmihaaRefRight
import Derived.Test.YthnifgcoikmihaaRds
import Derived.Test.YthnifgcoikmihaaOpenImg
import Derived.Test.YthnifgcoikmihaaOpenTab
import Derived.Test.YthnifgcoikmihaaRows
namespace Go.Proofs.Ythnifgcoikmihaa
open Go.RowKit Go.ChangeShapes Go.WideShapes Go.ChangeAt Go.Deep Go.Joins

def tabU (t : TabS) (k : Nat) (h : Int) : TabS := { t with parts := t.parts.set k ⟨16, 32, h⟩ }
theorem hasB_u (t : TabS) (k : Nat) (h p : Int) : hasB (tabU t k h) p = hasB t p := by
  unfold hasB tabU
  simp only [List.length_set]
theorem winBad_u (t : TabS) (k : Nat) (h e : Int) (x : WinS) : winBad (tabU t k h) e x = winBad t e x := by
  unfold winBad
  rw [hasB_u]
  rfl
theorem winsOk_u (t : TabS) (k : Nat) (h : Int) : ∀ (l : List WinS) (e : Int), winsOk (tabU t k h) e l = winsOk t e l
  | [], _ => rfl
  | x :: l, e => by
    unfold winsOk
    rw [winBad_u, winsOk_u t k h l]
theorem right_u (t : TabS) (k : Nat) (x : PartS) (hx : t.parts[k]? = some x) (hR : rightB t = true) : rightB (tabU t k x.hard) = true := by
  have r := (rightB_iff t).1 hR
  refine (rightB_iff _).2 ⟨r.f1, r.f2, r.r1, r.r2, by show 2 ≤ (t.parts.set k _).length; rw [List.length_set]; exact r.p1, by show (t.parts.set k _).length ≤ 4; rw [List.length_set]; exact r.p2, ?_, by rw [winsOk_u]; exact r.ws, r.care, r.w8, r.c4, ?_⟩
  · intro p hp
    rcases List.mem_or_eq_of_mem_set hp with h | h
    · exact r.ps p h
    · subst h
      have := r.ps x (List.mem_of_getElem? hx)
      exact ⟨by show (1 : Int) ≤ 16; decide, by show (16 : Int) ≤ 16; decide, by show (1 : Int) ≤ 32; decide, by show (32 : Int) ≤ 32; decide, this.2.2.2.2.1, this.2.2.2.2.2⟩
  · intro c hc
    have := r.cs c hc
    show 0 ≤ c.src ∧ c.src < ((t.parts.set k _).length : Int) ∧ 0 ≤ c.dst ∧ c.dst < ((t.parts.set k _).length : Int) ∧ c.src ≠ c.dst ∧ 0 ≤ c.depth ∧ c.depth ≤ 4
    rw [List.length_set]
    exact this
theorem wider_law (t : TabS) (i : ImgS) (k : Nat) (x : PartS) (v : Int) (hx : t.parts[k]? = some x) (hR : rightB t = true) (hp : hasB t (k : Int) = true) :
    (checkE t (k : Int) i v = 14 → checkE (tabU t k x.hard) (k : Int) i v ≠ 14) ∧ (checkE t (k : Int) i v ≠ 14 → checkE t (k : Int) i v = checkE (tabU t k x.hard) (k : Int) i v) := by
  have hkl := (List.getElem?_eq_some_iff.1 hx).1
  have q1 : partQ t (k : Int) = x := partQ_at t k x hx
  have q2 : partQ (tabU t k x.hard) (k : Int) = ⟨16, 32, x.hard⟩ := partQ_at _ k _ (by show (t.parts.set k _)[k]? = _; rw [List.getElem?_set_self hkl])
  have hRu := right_u t k x hx hR
  have hpu : hasB (tabU t k x.hard) (k : Int) = true := by rw [hasB_u]; exact hp
  have hch : ∀ f, chansB f (tabU t k x.hard) (k : Int) = chansB f t (k : Int) := fun f => by
    unfold chansB
    rw [hRu, hpu, hR, hp]
    rfl
  have hw : wiredB (tabU t k x.hard) (k : Int) i = wiredB t (k : Int) i := by unfold wiredB; rw [hch, hch]
  have hm : mineB (tabU t k x.hard) ⟨16, 32, x.hard⟩ (k : Int) i = mineB t x (k : Int) i := rfl
  unfold checkE
  rw [hRu, hpu, hR, hp, q1, q2, hw, hm]
  cases hI : rightI i
  · simp
  · have r := (rightI_iff i).1 hI
    have hs : smallB ⟨16, 32, x.hard⟩ i = true := by
      unfold smallB
      rw [decide_eq_true r.2.2.2.1.2, decide_eq_true r.2.2.2.2.1.2]
      rfl
    rw [hs]
    cases mineB t x (k : Int) i
    · simp
    · cases smallB x i
      · cases wiredB t (k : Int) i
        · simp
        · by_cases hv : v < i.ver <;> simp [hv]
      · cases wiredB t (k : Int) i
        · simp
        · by_cases hv : v < i.ver <;> simp [hv]
theorem set_flat : ∀ (l : List PartS) (k : Nat) (x : PartS), l[k]? = some x → ((l.flatMap partC).set (k * 3) (iV 16)).set (k * 3 + 1) (iV 32) = (l.set k ⟨16, 32, x.hard⟩).flatMap partC
  | [], k, x, hx => by simp at hx
  | y :: l, 0, x, hx => by
    simp at hx
    subst hx
    simp [partC]
  | y :: l, k + 1, x, hx => by
    have ih := set_flat l k x (by simpa using hx)
    rw [List.set_cons_succ, List.flatMap_cons, List.flatMap_cons, ← ih]
    have hl : (partC y).length = 3 := rfl
    rw [List.set_append_right _ _ (by omega), List.set_append_right _ _ (by omega), hl, show (k + 1) * 3 - 3 = k * 3 by omega, show (k + 1) * 3 + 1 - 3 = k * 3 + 1 by omega]
theorem rowFar {w : World} {base : Nat} {e : TypeId} {size : Nat} {v : Value} {n : Nat} {xs : List Value} (h : w.ownsRow base e size v n xs) {a : Addr} (ha : a.block < base) (u : Value) : (w.setCell a u).ownsRow base e size v n xs := by
  refine ⟨h.1, ?_⟩
  rcases h.2 with h2 | ⟨g, cap, cur, hv, hg, hh, r⟩
  · exact .inl h2
  · exact .inr ⟨g, cap, cur, hv, hg, (Below.heap_setCell w a u g (by omega)).trans hh, r⟩
theorem info_partW : (Try.prog.info? 66).map (fun i => (i.zero, i.size, i.bytes)) = some (some (.agg #[.int .i64 0, .int .i64 0, .int .i64 0]), 3, 24) := by kernel_rfl
theorem oneCell_part (l : List PartS) : ∀ u ∈ l.flatMap partC, u.oneCell' = true := by
  intro u hu
  obtain ⟨x, _, hx⟩ := List.mem_flatMap.1 hu
  simp only [partC, List.mem_cons, List.not_mem_nil, or_false] at hx
  rcases hx with rfl | rfl | rfl <;> rfl
set_option maxRecDepth 100000 in
set_option maxHeartbeats 8000000 in
theorem compatWider_any (w : World) (t : TabS) (a : TabA) (ht : TabCame w t a) (i : ImgS) (A : Option Addr) (c : Nat) (hi : ImgCame w i A c) (v : Int) (wv : (Lit.int .i64 v).wf = true) :
    Calls Try.prog 9 #[tabV t a, imgV i A c, .int .i64 v] w fun e w' => e = .returned (.bool true) ∧ Below w.heap.size w w' := by
  have bv := bounds_i64 wv
  have HO := hid (fun (l1 : t.parts.length ≤ 100000) (l2 : t.wins.length ≤ 100000) (l3 : t.chans.length ≤ 100000) w' (hb : Below w.heap.size w w') => (⟨ht.inn.belowS hb, l1, l2, l3, ht.f1, ht.f2⟩ : TabOk w' t a))
  have iL := hid (fun w => longC_any t a w ht.l1 ht.l2 ht.l3)
  have HL : Hid (longC t = (decide (20 < t.parts.length) || decide (40 < t.wins.length) || decide (20 < t.chans.length))) := hid rfl
  have hl : i.code.length ≤ 9223372036854775807 := by have h1 := hi.hc; have h2 := hi.hm; unfold maxLen at h2; omega
  have bver := bounds_i64 hi.w_ver
  have bpart := bounds_i64 hi.w_part
  have j1 := hid (fun w' h => check_any t a i.part i A c v w' h hl)
  have jR := hid (fun w' h => refRight_any t a w' h)
  have HHP := hid (hasB_eq t i.part)
  have HLAW := hid (fun k x hx hR hp => wider_law t i k x v hx hR hp)
  have JU := hid (fun (t' : TabS) (a' : TabA) (p' : Int) w' h => check_any t' a' p' i A c v w' h hl)
  have hc1 := ht.c1
  have hm1 := ht.m1
  have hf1 := ht.f1
  have hf2 := ht.f2
  obtain ⟨A1, q1, A2, q2, A3, q3⟩ := a
  obtain ⟨i0, i1, i2, i3, i4, i5, i6, code⟩ := i
  clear hi ht
  simp only [tabV, imgV] at *
  generalize longC t = L at *
  generalize hn0 : code.length = n at *
  have HN0 := hid hn0
  clear hn0
  have HR1 : Hid (∃ r, r = rightB t) := hid ⟨_, rfl⟩
  obtain ⟨w1, hw1, hb1, hT1, hI1⟩ : ∃ w1, ((w.alloc (.cells #[.int .i64 t.frame, .slice A1 t.parts.length q1, .slice A2 t.wins.length q2, .slice A3 t.chans.length q3, .int .i64 t.trial] 55)).alloc (.cells #[.int .i64 i0, .int .i64 i1, .int .i64 i2, .int .i64 i3, .int .i64 i4, .int .i64 i5, .int .i64 i6, .slice A n c] 63)) = w1 ∧ Below w.heap.size w w1 ∧ Blk w1 w.heap.size 55 [.int .i64 t.frame, .slice A1 t.parts.length q1, .slice A2 t.wins.length q2, .slice A3 t.chans.length q3, .int .i64 t.trial] ∧ Blk w1 (w.heap.size + 1) 63 [.int .i64 i0, .int .i64 i1, .int .i64 i2, .int .i64 i3, .int .i64 i4, .int .i64 i5, .int .i64 i6, .slice A n c] :=
    ⟨_, rfl, ((Below.refl _ _).alloc (Nat.le_refl _) _).alloc (by simp) _, (Blk.new w _ [.int .i64 t.frame, .slice A1 t.parts.length q1, .slice A2 t.wins.length q2, .slice A3 t.chans.length q3, .int .i64 t.trial]).alloc _, new_at (w.alloc _) _ [.int .i64 i0, .int .i64 i1, .int .i64 i2, .int .i64 i3, .int .i64 i4, .int .i64 i5, .int .i64 i6, .slice A n c] _ (by simp)⟩
  have HT := hid (fun w' (b : Blk w' w.heap.size 55 [.int .i64 t.frame, .slice A1 t.parts.length q1, .slice A2 t.wins.length q2, .slice A3 t.chans.length q3, .int .i64 t.trial]) => (⟨b.cellAt (i := 0) rfl, b.cellAt (i := 1) rfl, b.cellAt (i := 2) rfl, b.cellAt (i := 3) rfl, b.cellAt (i := 4) rfl⟩ : _ ∧ _ ∧ _ ∧ _ ∧ _))
  have HI := hid (fun w' (b : Blk w' (w.heap.size + 1) 63 [.int .i64 i0, .int .i64 i1, .int .i64 i2, .int .i64 i3, .int .i64 i4, .int .i64 i5, .int .i64 i6, .slice A n c]) => (⟨b.cellAt (i := 0) rfl, b.cellAt (i := 1) rfl, b.cellAt (i := 2) rfl, b.cellAt (i := 3) rfl, b.cellAt (i := 4) rfl, b.cellAt (i := 5) rfl, b.cellAt (i := 6) rfl, b.cellAt (i := 7) rfl⟩ : _ ∧ _ ∧ _ ∧ _ ∧ _ ∧ _ ∧ _ ∧ _))
  obtain ⟨c0, c1, c2, c3, c4⟩ := HT.out _ hT1
  obtain ⟨d0, d1, d2, d3, d4, d5, d6, d7⟩ := HI.out _ hI1
  go_enter Try.func9, Try.ntmps9
  go_wp2_with fail
  refine (wakesC_any _).mono ?_
  rintro e w2 ⟨rfl, hbz⟩
  clear hw1
  have hT2 := hT1.belowS hbz
  have hI2 := hI1.belowS hbz
  have hb2 := bel_trans hb1 hbz
  clear c0 c1 c2 c3 c4 d0 d1 d2 d3 d4 d5 d6 d7 hT1 hI1 hb1 hbz
  obtain ⟨c0, c1, c2, c3, c4⟩ := HT.out _ hT2
  obtain ⟨d0, d1, d2, d3, d4, d5, d6, d7⟩ := HI.out _ hI2
  go_wp2_with fail
  refine (iL.out _).mono ?_
  rintro e w3 ⟨rfl, hbz⟩
  have hT3 := hT2.belowS hbz
  have hI3 := hI2.belowS hbz
  have hb3 := bel_trans hb2 hbz
  clear c0 c1 c2 c3 c4 d0 d1 d2 d3 d4 d5 d6 d7 hT2 hI2 hb2 hbz
  obtain ⟨c0, c1, c2, c3, c4⟩ := HT.out _ hT3
  obtain ⟨d0, d1, d2, d3, d4, d5, d6, d7⟩ := HI.out _ hI3
  cases L with
  | true =>
    go_wp2_with fail
    go_ret
    exact ⟨rfl, hb3⟩
  | false =>
    have hl3 := HL.out
    have hl1 : t.parts.length ≤ 100000 ∧ t.wins.length ≤ 100000 ∧ t.chans.length ≤ 100000 := by
      have h4 := hl3.symm
      rw [Bool.or_eq_false_iff, Bool.or_eq_false_iff, decide_eq_false_iff_not, decide_eq_false_iff_not, decide_eq_false_iff_not] at h4
      omega
    clear hl3
    have hp5 := hl1.1
    have hw5 := hl1.2.1
    have hc5 := hl1.2.2
    have HOK := hid (HO.out hl1.1 hl1.2.1 hl1.2.2)
    clear hl1 HO HL iL
    by_cases h5 : 500 < n
    · have y5 : decide ((500 : Int) < (n : Int)) = true := by simp; omega
      clear h5
      go_wp2_with fail
      go_ret
      exact ⟨rfl, hb3⟩
    · have y5 : decide ((500 : Int) < (n : Int)) = false := by simp; omega
      clear h5
      go_wp2_with fail
      refine (jR.out _ (HOK.out _ hb3)).mono ?_
      rintro e w4 ⟨he, hbz⟩
      obtain ⟨r1, hr1⟩ : ∃ r, rightB t = r := ⟨_, rfl⟩
      rw [hr1] at he
      subst he
      have HRT := hid hr1
      clear hr1 y5 jR
      have hT4 := hT3.belowS hbz
      have hI4 := hI3.belowS hbz
      have hb4 := bel_trans hb3 hbz
      clear c0 c1 c2 c3 c4 d0 d1 d2 d3 d4 d5 d6 d7 hT3 hI3 hb3 hbz
      obtain ⟨c0, c1, c2, c3, c4⟩ := HT.out _ hT4
      obtain ⟨d0, d1, d2, d3, d4, d5, d6, d7⟩ := HI.out _ hI4
      cases r1 with
      | false =>
        go_wp2_with fail
        go_ret
        exact ⟨rfl, hb4⟩
      | true =>
        by_cases h6 : i0 < 0
        · have y6 : decide (i0 < 0) = true := decide_eq_true h6
          clear h6
          go_wp2_with fail
          go_ret
          exact ⟨rfl, hb4⟩
        · have y6 : decide (i0 < 0) = false := decide_eq_false h6
          obtain ⟨pk, rfl⟩ : ∃ k : Nat, i0 = (k : Int) := ⟨i0.toNat, by omega⟩
          by_cases h7 : t.parts.length ≤ pk
          · have y7 : decide ((t.parts.length : Int) ≤ (pk : Int)) = true := by simp; omega
            have y8 : decide (t.parts.length ≤ pk) = true := by simp; omega
            clear h6 h7
            go_wp2_with fail
            go_ret
            exact ⟨rfl, hb4⟩
          · have y7 : decide ((t.parts.length : Int) ≤ (pk : Int)) = false := by simp; omega
            have y8 : decide (t.parts.length ≤ pk) = false := by simp; omega
            have hpk : pk < t.parts.length := by omega
            obtain ⟨x, hx⟩ : ∃ x, t.parts[pk]? = some x := ⟨_, List.getElem?_eq_getElem hpk⟩
            have hhp : hasB t (pk : Int) = true := by rw [HHP.out, Bool.and_eq_true, decide_eq_true_eq, decide_eq_true_eq]; omega
            have HX := hid hx
            have HLW := hid (HLAW.out pk x hx HRT.out hhp)
            have HFL := hid (set_flat t.parts pk x hx)
            clear hx hhp HLAW HHP h6 h7 bver bpart bv
            generalize checkE t (pk : Int) ⟨(pk : Int), i1, i2, i3, i4, i5, i6, code⟩ v = E1 at *
            go_wp2_with fail
            refine (j1.out _ (HOK.out _ hb4)).mono ?_
            rintro e w5 ⟨rfl, hbz⟩
            have hT5 := hT4.belowS hbz
            have hI5 := hI4.belowS hbz
            have hb5 := bel_trans hb4 hbz
            clear c0 c1 c2 c3 c4 d0 d1 d2 d3 d4 d5 d6 d7 hT4 hI4 hb4 hbz
            obtain ⟨c0, c1, c2, c3, c4⟩ := HT.out _ hT5
            obtain ⟨d0, d1, d2, d3, d4, d5, d6, d7⟩ := HI.out _ hI5
            clear y6 y7 y8
            have hr := ((HOK.out _ hb5).inn.1).reads (fun _ => rfl)
            simp only at hr
            obtain ⟨w6, hw6, hz6, hbz, hU6⟩ : ∃ w6, w5.alloc (.cells #[.int .i64 t.frame, .slice A1 t.parts.length q1, .slice A2 t.wins.length q2, .slice A3 t.chans.length q3, .int .i64 t.trial] 55) = w6 ∧ w6.heap.size = w5.heap.size + 1 ∧ Below w5.heap.size w5 w6 ∧ Blk w6 w5.heap.size 55 [.int .i64 t.frame, .slice A1 t.parts.length q1, .slice A2 t.wins.length q2, .slice A3 t.chans.length q3, .int .i64 t.trial] := ⟨_, rfl, by simp, (Below.refl _ _).alloc (Nat.le_refl _) _, Blk.new _ _ [.int .i64 t.frame, .slice A1 t.parts.length q1, .slice A2 t.wins.length q2, .slice A3 t.chans.length q3, .int .i64 t.trial]⟩
            have hr6 := hr.belowS hbz
            have hT6 := hT5.belowS hbz
            have hI6 := hI5.belowS hbz
            have hb6 := bel_trans hb5 hbz
            have HZ6 := hid hz6
            have hlt6 : w5.heap.size < w6.heap.size := by omega
            have hltw : w.heap.size < w6.heap.size := hT6.lt
            have f1 : ∀ o, (w6.alloc o).cell? ⟨w.heap.size, 1, none⟩ = some (.slice A1 t.parts.length q1) := fun o => (hT6.alloc o).cellAt (i := 1) rfl
            have hT5' := hid hT5.lt
            have hI5' := hid hI5.lt
            have hb5' := hid hb5.size
            clear hr hbz hz6 hT5 hI5
            obtain ⟨i0', hi0, hz0, hz1, hz2⟩ := info_parts info_partW
            go_wp2_with (at_builtin; refine wpList_app _ rfl (.tmp 45) (.tmp 47) _ rfl w6.heap.size 66 i0' _ 3 24 Try.underlying51 hi0 hz0 hz1 hz2 rfl (by decide) (.slice (some ⟨w6.heap.size, 0, none⟩) 0 0) 0 [] rfl (World.ownsRow_made w6 _ 0 (Nat.le_refl _) (by simp [maxLen]) rfl) w6.heap.size A1 t.parts.length q1 (t.parts.flatMap partC) rfl (hr6.alloc (Nat.le_refl _) _) (oneCell_part t.parts) (by simp [maxLen]; omega) (by omega) (by simp) ?_; intro A' c' w7 hown hg hA'; have hb67 : Below w6.heap.size w6 w7 := below_own ((Below.refl w6.heap.size w6).alloc (Nat.le_refl _) _) (World.ownsRow_made (size := 3) w6 _ 0 (Nat.le_refl _) (by simp [maxLen]) rfl) hg (Nat.le_refl _) (by simp); have hU7 := hU6.belowS hb67; have x1 := hU7.cellAt (i := 1) rfl; have fz := hU7.frozen 1; clear hw6)
            simp only [Nat.zero_add, List.nil_append] at hown ⊢
            obtain ⟨gr, rfl, hgr0, hgr1⟩ := own_some hown (by omega)
            have hb7 := bel_trans hb6 hb67
            have hT7 := hT6.belowS hb67
            have hI7 := hI6.belowS hb67
            have hne1 : gr ≠ w5.heap.size := by omega
            obtain ⟨w8, hw8, hU8, hown8, hT8, hI8, hb8⟩ : ∃ w8, w7.setCell ⟨w5.heap.size, 1, none⟩ (.slice (some ⟨gr, 0, none⟩) t.parts.length c') = w8 ∧ Blk w8 w5.heap.size 55 [.int .i64 t.frame, .slice (some ⟨gr, 0, none⟩) t.parts.length c', .slice A2 t.wins.length q2, .slice A3 t.chans.length q3, .int .i64 t.trial] ∧ w8.ownsRow w6.heap.size 66 3 (.slice (some ⟨gr, 0, none⟩) t.parts.length c') t.parts.length (t.parts.flatMap partC) ∧ Blk w8 w.heap.size 55 [.int .i64 t.frame, .slice A1 t.parts.length q1, .slice A2 t.wins.length q2, .slice A3 t.chans.length q3, .int .i64 t.trial] ∧ Blk w8 (w.heap.size + 1) 63 [.int .i64 (pk : Int), .int .i64 i1, .int .i64 i2, .int .i64 i3, .int .i64 i4, .int .i64 i5, .int .i64 i6, .slice A n c] ∧ Below w.heap.size w w8 :=
              ⟨_, rfl, hU7.set_ 1 _, rowFar hown (a := ⟨w5.heap.size, 1, none⟩) hlt6 _, hT7.far (fun e => by have := hT5'.out; have e' : w.heap.size = w5.heap.size := e; omega) _, hI7.far (fun e => by have := hI5'.out; have e' : w.heap.size + 1 = w5.heap.size := e; omega) _, hb7.setCell hb5'.out _⟩
            rw [hw8]
            have g1 := hU8.cellAt (i := 1) rfl
            have g2 := hI8.cellAt (i := 0) rfl
            have hfl3 : (t.parts.flatMap partC).length = t.parts.length * 3 := flat_len (fun _ => rfl) _
            have e0 : ((⟨gr, 0, none⟩ : Addr).add (pk * 3)) = ⟨gr, pk * 3, none⟩ := by rw [add_none, Nat.zero_add]
            have a0 : w8.cell? ⟨gr, pk * 3, none⟩ = some (.int .i64 x.mem) := (hown8.cellAt (pk * 3) (by omega)).trans (flat_get (fun _ => rfl) t.parts pk 0 x HX.out (by omega))
            have a1 : w8.cell? ⟨gr, pk * 3 + 1, none⟩ = some (.int .i64 x.fuel) := (hown8.cellAt (pk * 3 + 1) (by omega)).trans (flat_get (fun _ => rfl) t.parts pk 1 x HX.out (by omega))
            have f0 := hown8.frozenAt (pk * 3)
            have f2 := hown8.frozenAt (pk * 3 + 1)
            obtain ⟨ad, had⟩ : ∃ ad, ad = (⟨gr, 0, none⟩ : Addr) := ⟨_, rfl⟩
            have z0 : (0 : Int) ≤ (pk : Int) := Int.natCast_nonneg _
            have z1 : (pk : Int) < (t.parts.length : Int) := by omega
            have HU8 := hid hU8
            have HO8 := hid hown8
            have HT8 := hid hT8
            have HI8 := hid hI8
            have HB8 := hid hb8
            clear hw8 hU8 hown8 hT8 hI8 hb8 hU7 hown hT7 hI7 hb7 hU6 hT6 hI6 hb6 x1 fz f1 hg hA' hb67 c0 c1 c2 c3 c4 d0 d1 d2 d3 d4 d5 d6 d7 hr6
            have ne1 : gr ≠ w.heap.size := by have := hT5'.out; omega
            have ne2 : gr ≠ w.heap.size + 1 := by have := hI5'.out; omega
            have ne3 := ne1.symm
            have ne4 := ne2.symm
            have ne5 := hne1.symm
            go_region
            obtain ⟨w9, hw9, hU9, hown9, hT9, hI9, hb9⟩ : ∃ w9, ((w8.setCell ⟨gr, pk * 3, none⟩ (.int .i64 16)).setCell ⟨gr, pk * 3 + 1, none⟩ (.int .i64 32)).drew = w9 ∧ Blk w9 w5.heap.size 55 [.int .i64 t.frame, .slice (some ⟨gr, 0, none⟩) t.parts.length c', .slice A2 t.wins.length q2, .slice A3 t.chans.length q3, .int .i64 t.trial] ∧ w9.ownsRow w6.heap.size 66 3 (.slice (some ⟨gr, 0, none⟩) t.parts.length c') t.parts.length ((t.parts.set pk ⟨16, 32, x.hard⟩).flatMap partC) ∧ Blk w9 w.heap.size 55 [.int .i64 t.frame, .slice A1 t.parts.length q1, .slice A2 t.wins.length q2, .slice A3 t.chans.length q3, .int .i64 t.trial] ∧ Blk w9 (w.heap.size + 1) 63 [.int .i64 (pk : Int), .int .i64 i1, .int .i64 i2, .int .i64 i3, .int .i64 i4, .int .i64 i5, .int .i64 i6, .slice A n c] ∧ Below w.heap.size w w9 :=
              ⟨_, rfl, ((HU8.out.far (p := ⟨gr, pk * 3, none⟩) ne5 _).far (p := ⟨gr, pk * 3 + 1, none⟩) ne5 _).drew, by rw [← HFL.out]; exact ((HO8.out.stored (pk * 3) (iV 16)).1.stored (pk * 3 + 1) (iV 32)).1, ((HT8.out.far (p := ⟨gr, pk * 3, none⟩) ne3 _).far (p := ⟨gr, pk * 3 + 1, none⟩) ne3 _).drew, ((HI8.out.far (p := ⟨gr, pk * 3, none⟩) ne4 _).far (p := ⟨gr, pk * 3 + 1, none⟩) ne4 _).drew, ((HB8.out.setCell (p := ⟨gr, pk * 3, none⟩) (by have := hb5'.out; show w.heap.size ≤ gr; omega) _).setCell (p := ⟨gr, pk * 3 + 1, none⟩) (by have := hb5'.out; show w.heap.size ≤ gr; omega) _).drew⟩
            rw [hw9]
            have hset : (t.parts.set pk ⟨16, 32, x.hard⟩).length = t.parts.length := List.length_set
            have hrd : RdS w9 w9.heap.size 3 (some ⟨gr, 0, none⟩) t.parts.length partC (t.parts.set pk ⟨16, 32, x.hard⟩) := (Reads.of_own hown9).rds (fun _ => rfl)
            have hok9 := HOK.out _ hb9
            have j9 := JU.out (tabU t pk x.hard) ⟨some ⟨gr, 0, none⟩, c', A2, q2, A3, q3⟩ (pk : Int) w9 ⟨⟨by show RdS w9 w9.heap.size 3 (some ⟨gr, 0, none⟩) (t.parts.set pk ⟨16, 32, x.hard⟩).length partC (t.parts.set pk ⟨16, 32, x.hard⟩); rw [hset]; exact hrd, hok9.inn.2.1, hok9.inn.2.2⟩, by show (t.parts.set pk ⟨16, 32, x.hard⟩).length ≤ 100000; rw [hset]; exact hok9.n1, hok9.n2, hok9.n3, hok9.f1, hok9.f2⟩
            generalize checkE (tabU t pk x.hard) (pk : Int) ⟨(pk : Int), i1, i2, i3, i4, i5, i6, code⟩ v = E2 at *
            simp only [tabU, hset, HN0.out] at j9
            have J9 := hid j9
            obtain ⟨c0, c1, c2, c3, c4⟩ : _ ∧ _ ∧ _ ∧ _ ∧ _ := ⟨hU9.cellAt (i := 0) rfl, hU9.cellAt (i := 1) rfl, hU9.cellAt (i := 2) rfl, hU9.cellAt (i := 3) rfl, hU9.cellAt (i := 4) rfl⟩
            obtain ⟨d0, d1, d2, d3, d4, d5, d6, d7⟩ := HI.out _ hI9
            clear hw9 j9 hset hrd hok9 g1 g2 hfl3 e0 a0 a1 f0 f2 had z0 z1 hU9 hT9 hI9 hown9 HU8 HO8 HT8 HI8 HB8 HOK JU
            obtain ⟨l1, l2⟩ := HLW.out
            clear HLW
            by_cases z : E1 = 14
            · have y : (E1 == 14) = true := by simpa using z
              have hl := l1 z
              have HLL := hid hl
              clear z l1 l2 hl
              go_wp2_with fail
              refine J9.out.mono ?_
              rintro e w10 ⟨rfl, hbz⟩
              go_wp2_with fail
              go_ret
              exact ⟨ret_bool (by simpa using HLL.out), bel_trans hb9 hbz⟩
            · have y : (E1 == 14) = false := by simpa using z
              have hl := l2 z
              have HLL := hid hl
              clear z l1 l2 hl
              go_wp2_with fail
              refine J9.out.mono ?_
              rintro e w10 ⟨rfl, hbz⟩
              go_wp2_with fail
              go_ret
              exact ⟨ret_bool (by simpa using HLL.out), bel_trans hb9 hbz⟩
/-! ### CompatWider: from the walk to the given statement -/
namespace lawCompatWider
theorem own : ownKnob Try.prog.godebug = none := by kernel_rfl
theorem laidOut : laidOutB Try.prog = true := by kernel_rfl
set_option maxRecDepth 100000 in
theorem lifted (os : Os) (started : os.Started) (H : Type) (enc : TypeId × Value → H) :
    ReturnsInHanded {} Try.checked os 9 .any (Rows.compatWiderSpec.pre6 enc Try.prog Try.f9 Rows.compatWiderRow.domain false) (Rows.compatWiderSpec.post enc Try.prog Try.f9 false true false false) := by
  refine returnsInHanded_of_change (C := Try.checked) own started (by kernel_rfl) Try.func9
    (ChangeSpec.witness6 (enc := enc) (C := Try.checked) false ⟨#[], #[.agg #[.int .i64 0, .slice none 0 0, .slice none 0 0, .slice none 0 0, .int .i64 0], .agg #[.int .i64 0, .int .i64 0, .int .i64 0, .int .i64 0, .int .i64 0, .int .i64 0, .int .i64 0, .slice none 0 0], .int .i64 0], []⟩ 8 (by kernel_rfl) (by kernel_rfl) (by kernel_rfl) (by kernel_rfl)) ?_
  intro W base args ds gs before hval0 hW hcnd _
  have hval : ∀ (j : Nat) t v, Try.f9.params[j]? = some t → args[j]? = some v → Value.okWide Try.prog W .any base t v := hval0
  have hW' := hW
  obtain ⟨p, q, hA0, hV, rfl, hfz, hnd⟩ := hW
  have hA : DataW.TrodAll enc Try.prog W 0 (fun _ => true) true Try.f9.params.toList args.toList ds p := hA0
  rw [Try.params9] at hA hval
  obtain ⟨v0, vs0, d0, ds0, p0, q0, hargs, rfl, rfl, h0, r0⟩ := trodAll_cons hA
  obtain ⟨v1, vs1, d1, ds1, p1, q1, rfl, rfl, rfl, h1, r1⟩ := trodAll_cons r0
  obtain ⟨v2, vs2, d2, ds2, p2, q2, rfl, rfl, rfl, h2, r2⟩ := trodAll_cons r1
  obtain ⟨rfl, rfl, rfl⟩ := trodAll_nil r2
  obtain rfl : args = #[v0, v1, v2] := by cases args; simp_all
  obtain ⟨rfl, rfl⟩ := trodVars_none hV
  have k0 := h0
  have lt0 : ∀ x ∈ p0, x.block < W.heap.size := by obtain ⟨m, hm⟩ := k0; exact DataW.trod_lt m _ _ _ hm
  have k1 := h1
  have lt1 : ∀ x ∈ p1, x.block < W.heap.size := by obtain ⟨m, hm⟩ := k1; exact DataW.trod_lt m _ _ _ hm
  have k2 := h2
  have lt2 : ∀ x ∈ p2, x.block < W.heap.size := by obtain ⟨m, hm⟩ := k2; exact DataW.trod_lt m _ _ _ hm
  obtain ⟨t0, a0, rfl, w0⟩ := open_tab (hval 0 55 v0 rfl rfl) h0
  obtain ⟨i1, A1, c1, rfl, w1⟩ := open_img (hval 1 63 v1 rfl rfl) h1
  obtain ⟨a2, rfl, rfl, rfl, w2⟩ := open_int Try.underlying3 (hval 2 3 v2 rfl rfl) h2
  clear hA0 hval0
  refine (compatWider_any W t0 a0 w0 i1 A1 c1 w1 a2 w2).mono fun e W' ⟨he, bel⟩ => ?_
  subst he
  exact ⟨_, rfl, _, _, _, [], _, [], hW', trodAll_mk1 (shut_bool Try.underlying4 _), (trodAll_cons_mk (Below.trod laidOut (by kernel_rfl) (of_decide_eq_true (by kernel_rfl)) k0 bel lt0) (trodAll_cons_mk (Below.trod laidOut (by kernel_rfl) (of_decide_eq_true (by kernel_rfl)) k1 bel lt1) (trodAll_cons_mk (Below.trod laidOut (by kernel_rfl) (of_decide_eq_true (by kernel_rfl)) k2 bel lt2) trodAll_mk0))), rfl, bel.frame _, fun h => by cases h⟩
theorem over : Rows.compatWiderRow.holds Try.pinned (OpenSpec.ofChange Rows.compatWiderSpec) :=
  OpenClaim.holds_of_wide 9 Try.f9 rfl rfl rfl rfl rfl rfl rfl ⟨rfl, rfl, rfl, rfl, rfl⟩ rfl rfl rfl rfl rfl (by kernel_rfl) Try.func9 (by kernel_rfl)
    (of_decide_eq_true (by kernel_rfl)) (by unfold Func.isWrapper; first | (rw [if_pos (by decide +kernel)]; kernel_rfl) | (rw [if_neg (by decide +kernel)]; exact ⟨rfl, rfl⟩))
    (fun os started H enc _ => lifted os started H enc)
theorem proved : Rows.CompatWiderSaid := over
#print axioms proved
end lawCompatWider

end Go.Proofs.Ythnifgcoikmihaa
