/-
  The reference's Right: the same as the program's.
-/
import Derived.Test.YtidlahljhgglcaaGreatQa
import Derived.Handy
import Derived.Test.YtidlahljhgglcaaGreatQb
namespace Go.Proofs.YtidlahljhgglcaaGreat
open Go.RowKit

def oV (b : Bool) : Value := .bool b
theorem info_bool : (Tryz.prog.info? 4).map (fun i => (i.zero, i.size, i.bytes)) = some (some (.bool false), 1, 1) := by kernel_rfl
/-- make of so many bools. -/
theorem makeBool (w : World) {ops : Array Oper} {rest : List Oper} {o : Oper} {a : Act} {Q : Exit → Act → World → Prop}
    (hg : o.guard = none) (l : Operand) (hop : o.op = Op.makeSlice 83 l l) (x : Int) (n : Nat) (hl : a.eval l = .int .i64 x) (hx : x = (n : Int)) (hn : n ≤ 100000)
    (hK : ∀ w', w'.ownsRow w.heap.size 4 1 (.slice (some ⟨w.heap.size, 0, none⟩) n n) n ((List.replicate n false).map oV) → Below w.heap.size w w' → wpList Tryz.prog ops Q rest (a.put o.dst (.slice (some ⟨w.heap.size, 0, none⟩) n n)) w') :
    wpList Tryz.prog ops Q (o :: rest) a w := by
  subst hx
  obtain ⟨i0, hi0, hz0, hz1, hz2⟩ := info_parts info_bool
  refine wpList_make_full w hg l l _ hop w.heap.size 4 i0 _ 1 Tryz.underlying83 hi0 hz0 hz1 .i64 .i64 _ _ n hl hl rfl rfl (by rw [hz2]; omega) (by simp [maxLen]; omega) (Nat.le_refl _) ?_
  intro w' h1 h2
  refine hK w' ?_ ((Below.refl _ _).grown h2 (Nat.le_refl _) (by simp))
  have e : (madeCells (Value.bool false).cells (n * 1)).toList = (List.replicate n false).map oV := by
    rw [show (Value.bool false).cells = #[.bool false] from rfl, toList_madeCells_one]
    simp [oV]
  rw [e] at h1
  exact h1
theorem or6 (a b c d e f : Bool) (h : (a || b || c || d || e || f) = true) : a = true ∨ (a = false ∧ b = true) ∨ (a = false ∧ b = false ∧ c = true) ∨ (a = false ∧ b = false ∧ c = false ∧ d = true) ∨ (a = false ∧ b = false ∧ c = false ∧ d = false ∧ e = true) ∨ (a = false ∧ b = false ∧ c = false ∧ d = false ∧ e = false ∧ f = true) := by
  revert h
  cases a <;> cases b <;> cases c <;> cases d <;> cases e <;> cases f <;> simp
/-- The positions used, in a row of the call's own. -/
def OwnsU (w : World) (B F : Nat) (u : List Bool) : Prop := w.ownsRow B 4 1 (.slice (some ⟨B, 0, none⟩) F F) F (u.map oV)
theorem Value.ownBlock_lt {w : World} {B F : Nat} {u : List Bool} (h : OwnsU w B F u) : B < w.heap.size := (h.lt B rfl).2
/-- A table's cells, the frame a natural number. -/
def tabF (F : Nat) (t : TabS) (a : TabA) : List Value := [iV (F : Int), .slice a.A1 t.parts.length a.c1, .slice a.A2 t.wins.length a.c2, .slice a.A3 t.chans.length a.c3, iV t.trial]
theorem tab_cellsF {F : Nat} {w : World} {g : Nat} {t : TabS} {a : TabA} (h : Blk w g 26 (tabF F t a)) :
    w.cell? ⟨g, 0, none⟩ = some (.int .i64 (F : Int)) ∧ w.cell? ⟨g, 1, none⟩ = some (.slice a.A1 t.parts.length a.c1) ∧ w.cell? ⟨g, 2, none⟩ = some (.slice a.A2 t.wins.length a.c2) ∧ w.cell? ⟨g, 3, none⟩ = some (.slice a.A3 t.chans.length a.c3) ∧ w.cell? ⟨g, 4, none⟩ = some (.int .i64 t.trial) :=
  ⟨h.cellAt rfl, h.cellAt rfl, h.cellAt rfl, h.cellAt rfl, h.cellAt rfl⟩
/-- What is tested first. -/
def headB (t : TabS) : Bool := decide (t.frame < 1) || decide (64 < t.frame) || decide ((t.parts.length : Int) < 2) || decide (4 < (t.parts.length : Int)) || decide (t.trial < 1) || decide (7 < t.trial) || decide (8 < (t.wins.length : Int)) || decide (4 < (t.chans.length : Int))
set_option maxRecDepth 100000 in
set_option maxHeartbeats 8000000 in
theorem refRight_bad (t : TabS) (a : TabA) (w : World) (hh : headB t = true) :
    Calls Tryz.prog 5 #[.agg #[.int .i64 t.frame, .slice a.A1 t.parts.length a.c1, .slice a.A2 t.wins.length a.c2, .slice a.A3 t.chans.length a.c3, .int .i64 t.trial]] w fun e w' => e = .returned (.bool (rightB t)) ∧ Below w.heap.size w w' := by
  --Q
  obtain ⟨A1, k1, A2, k2, A3, k3⟩ := a
  simp only
  have hb0 : Below w.heap.size w (w.alloc (.cells (tabC t ⟨A1, k1, A2, k2, A3, k3⟩).toArray 26)) := (Below.refl _ _).alloc (Nat.le_refl _) _
  have hblk0 : Blk (w.alloc (.cells (tabC t ⟨A1, k1, A2, k2, A3, k3⟩).toArray 26)) w.heap.size 26 (tabC t ⟨A1, k1, A2, k2, A3, k3⟩) := Blk.new w _ _
  obtain ⟨c0, c1, c2, c3, c4⟩ := tab_cells hblk0
  have hr : Hid (rightB t = false) := by
    refine hid ?_
    cases hr : rightB t with
    | false => rfl
    | true =>
      exfalso
      have R := (rightB_iff t).1 hr
      obtain ⟨f1, f2, r1, r2, p1, p2, _, _, _, w8, c4', _⟩ := R
      have : headB t = false := by
        unfold headB
        simp only [Bool.or_eq_false_iff, decide_eq_false_iff_not]
        omega
      rw [this] at hh
      cases hh
  unfold headB at hh
  go_enter Tryz.func5, Tryz.ntmps5
  go_wp2_with fail
  all_goals
    go_ret
    exact ⟨by rw [hr.out]; rfl, hb0⟩
set_option maxRecDepth 100000 in
set_option maxHeartbeats 8000000 in
theorem refRight_good (t : TabS) (a : TabA) (F : Nat) (hF : t.frame = (F : Int)) (w : World) (h : TabOk w t a) (hh : headB t = false) :
    Calls Tryz.prog 5 #[.agg #[.int .i64 (F : Int), .slice a.A1 t.parts.length a.c1, .slice a.A2 t.wins.length a.c2, .slice a.A3 t.chans.length a.c3, .int .i64 t.trial]] w fun e w' => e = .returned (.bool (rightB t)) ∧ Below w.heap.size w w' := by
  obtain ⟨A1, k1, A2, k2, A3, k3⟩ := a
  simp only
  have hb0 : Below w.heap.size w (w.alloc (.cells (tabF F t ⟨A1, k1, A2, k2, A3, k3⟩).toArray 26)) := (Below.refl _ _).alloc (Nat.le_refl _) _
  have hblk0 : Blk (w.alloc (.cells (tabF F t ⟨A1, k1, A2, k2, A3, k3⟩).toArray 26)) w.heap.size 26 (tabF F t ⟨A1, k1, A2, k2, A3, k3⟩) := Blk.new w _ _
  have HO := hid (h.belowS hb0)
  clear h
  obtain ⟨c0, c1, c2, c3, c4⟩ := tab_cellsF hblk0
  have HH := hid hh
  have HF := hid hF
  unfold headB at hh
  rw [hF] at hh
  clear hF
  simp only [Bool.or_eq_false_iff] at hh
  obtain ⟨⟨⟨⟨⟨⟨⟨n1, n2⟩, n3⟩, n4⟩, n5⟩, n6⟩, n7⟩, n8⟩ := hh
  have hfr1 : 1 ≤ (F : Int) := by simpa using n1
  have hfr2 : (F : Int) ≤ 64 := by simpa using n2
  have hp4 : (t.parts.length : Int) ≤ 4 := by simpa using n4
  have hw8 : (t.wins.length : Int) ≤ 8 := by simpa using n7
  have hc4 : (t.chans.length : Int) ≤ 4 := by simpa using n8
  have hinP := HO.out.inn.1
  simp only at hinP
  go_enter Tryz.func5, Tryz.ntmps5
  go_wp2_with fail
  clear n1 n2 n3 n4 n5 n6 n7 n8 c0 c1 c2 c3 c4
  have hnot : Hid (∀ p ∈ t.parts, badB p = true → rightB t = false) := by
    refine hid fun p hp hb => ?_
    cases hr : rightB t with
    | false => rfl
    | true =>
      have R := ((rightB_iff t).1 hr).ps p hp
      simp only [badB, inB, Bool.or_eq_true, Bool.not_eq_true', Bool.and_eq_false_iff, decide_eq_false_iff_not] at hb
      omega
  generalize hw1 : w.alloc (.cells #[.int .i64 (F : Int), .slice A1 t.parts.length k1, .slice A2 t.wins.length k2, .slice A3 t.chans.length k3, .int .i64 t.trial] 26) = w1
  have hb1 : Below w.heap.size w w1 := by rw [← hw1]; exact hb0
  have hblk1 : Blk w1 w.heap.size 26 (tabF F t ⟨A1, k1, A2, k2, A3, k3⟩) := by rw [← hw1]; exact hblk0
  have HO1 : Hid (TabOk w1 t ⟨A1, k1, A2, k2, A3, k3⟩) := by rw [← hw1]; exact HO
  clear hw1 hb0 hblk0 HO hinP
  have hinP := HO1.out.inn.1
  simp only at hinP
  go_loopw [4] (fun v4 wr => ∃ k : Nat, k ≤ t.parts.length ∧ v4 = .int .i64 (k : Int) ∧ Hid (∀ p ∈ t.parts.take k, badB p = false) ∧ Below w1.heap.size w1 wr) (fun v4 _ => t.parts.length - (intOf v4).toNat)
  case atStart => exact ⟨0, by omega, rfl, by refine hid ?_; simp, Below.refl _ _⟩
  case round =>
    obtain ⟨k, hk, rfl, HK, hbel⟩ := hrel
    have hblk2 := hblk1.belowS hbel
    obtain ⟨c0, c1, c2, c3, c4⟩ := tab_cellsF hblk2
    by_cases hkn : k < t.parts.length
    · obtain ⟨ad, x, rfl, had, hx, hc0, hc⟩ := (hinP.belowS hbel).at_ hkn
      have q0 := hc0 _ rfl
      have q1 := hc 0 _ rfl
      have q2 := hc 1 _ rfl
      have HX := hid hx
      have hbe := bel_alloc hbel (.cells #[.int .i64 x.mem, .int .i64 x.fuel, .int .i64 x.hard] 82)
      have hnx := hid (hnot.out x (List.mem_of_getElem? hx))
      clear hc hc0 hx
      by_cases hb : badB x = true
      · have hr := hid (hnx.out hb)
        have hbb : (decide (x.mem < 1) || decide (16 < x.mem) || decide (x.fuel < 1) || decide (32 < x.fuel) || decide (x.hard < 0) || decide (65535 < x.hard)) = true := by
          simp only [badB, inB, Bool.or_eq_true, Bool.not_eq_true', Bool.and_eq_false_iff, decide_eq_false_iff_not, decide_eq_true_eq] at hb ⊢
          omega
        clear hb hinP
        obtain ⟨xm, xf, xh⟩ := x
        simp only at q0 q1 q2 hbb hbe
        go_wp2_with fail
        all_goals
          go_ret
          exact ⟨by rw [hr.out]; rfl, bel_trans hb1 hbe⟩
      · have hb' : badB x = false := by simpa using hb
        have HS := hid (any_take badB t.parts k x HX.out hb' HK.out)
        simp only [badB, inB, Bool.or_eq_false_iff, Bool.not_eq_false', Bool.and_eq_true, decide_eq_true_eq] at hb'
        have m1 : decide (x.mem < 1) = false := decide_eq_false (by omega)
        have m2 : decide (16 < x.mem) = false := decide_eq_false (by omega)
        have m3 : decide (x.fuel < 1) = false := decide_eq_false (by omega)
        have m4 : decide (32 < x.fuel) = false := decide_eq_false (by omega)
        have m5 : decide (x.hard < 0) = false := decide_eq_false (by omega)
        have m6 : decide (65535 < x.hard) = false := decide_eq_false (by omega)
        clear hb hb' hinP
        go_wp2_with fail
        go_roundw
        case rel => exact ⟨k + 1, by omega, by go_num, HS, hbe⟩
        case measure => simp [intOf]; omega
    · obtain rfl : k = t.parts.length := by omega
      have HP : Hid (∀ p ∈ t.parts, badB p = false) := hid (fun p hp => HK.out p (by rw [List.take_length]; exact hp))
      have hF64 : F ≤ 64 := by omega
      have hb2 := bel_trans hb1 hbel
      clear hk hkn HK
      clear hinP
      generalize hwr : wr = w2 at hbel hblk2 c0 c1 c2 c3 c4 hb2 ⊢
      clear hwr
      go_wp2_with (at_make; refine makeBool w2 rfl (.tmp 94) rfl (F : Int) F rfl rfl (by omega) ?_; intro w3 hown3 hb3)
      clear c0 c1 c2 c3 c4
      have hlt2 : w.heap.size < w2.heap.size := hblk2.lt
      have hblk3 := hblk2.belowS hb3
      have HO2 := hid (HO1.out.belowS hbel)
      generalize hBB : w2.heap.size = B at hown3 hb3 hlt2 ⊢
      have HBB := hid hBB
      clear hBB
      have hsz3 := hb3.size
      obtain ⟨B2, hB2⟩ : ∃ B2, w3.heap.size = B2 := ⟨_, rfl⟩
      go_loopw [7, 8, 9, 10, 11] (fun v7 v8 v9 _ _ wr => ∃ (k : Nat) (lst : Int) (u : List Bool), k ≤ t.wins.length ∧ v9 = .int .i64 (k : Int) ∧ v7 = .int .i64 lst ∧ v8 = .bool (careB (t.wins.take k)) ∧ Hid (winsOk t 0 (t.wins.take k) = true) ∧ Hid (UsedT t F lst (endW 0 (t.wins.take k)) u) ∧ OwnsU wr B F u ∧ Below B w2 wr) (fun _ _ v9 _ _ _ => t.wins.length - (intOf v9).toNat)
      case atStart => exact ⟨0, -1, List.replicate F false, by omega, rfl, rfl, rfl, hid rfl, hid (usedT_new t F), hown3, hb3⟩
      case round =>
        obtain ⟨k, lst, u, hk, rfl, rfl, rfl, HK, HU, hown, hbl⟩ := hrel
        have hblkr : Blk wr w.heap.size 26 (tabF F t ⟨A1, k1, A2, k2, A3, k3⟩) := hblk2.below hbl (by omega)
        have hb2r : Below w2.heap.size w2 wr := hbl.mono (by have := HBB.out; omega)
        obtain ⟨c0, c1, c2, c3, c4⟩ := tab_cellsF hblkr
        have hsr := hbl.size
        have hu2 := HBB.out
        by_cases hkn : k < t.wins.length
        · have hinW := (HO2.out.belowS hb2r).inn.2.1
          simp only at hinW
          obtain ⟨ad, x, rfl, had, hx, hc0, hc⟩ := hinW.at_ hkn
          have q0 := hc0 _ rfl
          have q1 := hc 0 _ rfl
          have q2 := hc 1 _ rfl
          have hbe : Below B w2 (wr.alloc (.cells #[.int .i64 x.part, .int .i64 x.at_, .int .i64 x.long] 85)) := hbl.alloc (by omega) _
          have hnot := hid (fun hb => right_not_win t k x hx hb)
          have hblkx := hblkr.alloc (.cells #[.int .i64 x.part, .int .i64 x.at_, .int .i64 x.long] 85)
          obtain ⟨d0, _, _, _, _⟩ := tab_cellsF hblkx
          have HX := hid hx
          clear hc hc0 hx hinW hsz3
          by_cases h6 : (decide (x.part < 0) || decide ((t.parts.length : Int) ≤ x.part) || decide (x.at_ < 0) || decide ((F : Int) ≤ x.at_) || decide (x.long < 1) || decide (64 < x.long)) = true
          · have hr : Hid (rightB t = false) := by
              refine hid (hnot.out ?_)
              have := HF.out
              have := HU.out.e0
              simp only [winBad, hasB, inB, Bool.or_eq_true, Bool.not_eq_true', Bool.and_eq_false_iff, decide_eq_false_iff_not, decide_eq_true_eq] at h6 ⊢
              omega
            have hend : Hid (Below w.heap.size w (wr.alloc (.cells #[.int .i64 x.part, .int .i64 x.at_, .int .i64 x.long] 85))) := hid (hb2.trans (hbe.mono (by omega)))
            clear hbe hb2r hbl hblkr hown hnot
            clear hblkx
            obtain ⟨xp, xa, xl⟩ := x
            simp only at q0 q1 q2 h6 hend d0
            --Q
            rcases or6 _ _ _ _ _ _ h6 with h | ⟨h1, h⟩ | ⟨h1, h2, h⟩ | ⟨h1, h2, h3, h⟩ | ⟨h1, h2, h3, h4, h⟩ | ⟨h1, h2, h3, h4, h5, h⟩
            all_goals
              clear h6
              go_wp2_with fail
              go_ret
              exact ⟨by rw [hr.out]; rfl, hend.out⟩
          · have h6' : (decide (x.part < 0) || decide ((t.parts.length : Int) ≤ x.part) || decide (x.at_ < 0) || decide ((F : Int) ≤ x.at_) || decide (x.long < 1) || decide (64 < x.long)) = false := by simpa using h6
            clear h6
            simp only [Bool.or_eq_false_iff] at h6'
            obtain ⟨⟨⟨⟨⟨h1, h2⟩, h3⟩, h4⟩, h5⟩, h6⟩ := h6'
            have hcn := hid (care_next t k x HX.out)
            have hen := hid (endW_next t k x HX.out)
            have hwn := hid (fun hb => winsOk_next t k x HX.out HK.out hb)
            obtain ⟨xp, xa, xl⟩ := x
            simp only at q0 q1 q2 h1 h2 h3 h4 h5 h6 hbe hblkx d0 hcn hen hwn hnot
            have g1 := of_decide_eq_false h1
            have g2 := of_decide_eq_false h2
            have g3 := of_decide_eq_false h3
            have g4 := of_decide_eq_false h4
            have g5 := of_decide_eq_false h5
            have g6 := of_decide_eq_false h6
            obtain ⟨s, rfl⟩ : ∃ s : Nat, xa = s := ⟨xa.toNat, by omega⟩
            obtain ⟨lg, rfl⟩ : ∃ lg : Nat, xl = lg := ⟨xl.toNat, by omega⟩
            have HD : Hid (winBad t (endW 0 (t.wins.take k)) ⟨xp, (s : Int), (lg : Int)⟩ = (decide ((s : Int) < endW 0 (t.wins.take k)) || decide ((F : Int) < (s : Int) + (lg : Int)))) := by
              refine hid ?_
              rw [Bool.eq_iff_iff]
              simp only [winBad, hasB, inB, Bool.or_eq_true, Bool.not_eq_true', Bool.and_eq_false_iff, decide_eq_false_iff_not, decide_eq_true_eq]
              have := HF.out
              omega
            have HX2 := HX
            clear HX
            have hsl : (s : Int) + (lg : Int) ≤ 128 := by omega
            by_cases h8 : (F : Int) < (s : Int) + (lg : Int)
            · have hr : Hid (rightB t = false) := by
                refine hid (hnot.out ?_)
                rw [HD.out, decide_eq_true h8, Bool.or_true]
              --Q
              have h8' := decide_eq_true h8
              have hend : Hid (Below w.heap.size w (wr.alloc (.cells #[.int .i64 xp, .int .i64 (s : Int), .int .i64 (lg : Int)] 85))) := hid (hb2.trans (hbe.mono (by omega)))
              clear hbe hb2r hbl hblkr hown hnot hblkx HX2 h8
              go_wp2_with fail
              go_ret
              exact ⟨by rw [hr.out]; rfl, hend.out⟩
            · have h8' := decide_eq_false h8
              have h8n : s + lg ≤ F := by omega
              have hU := HU.out
              by_cases h9 : (s : Int) ≤ lst
              · have hr : Hid (rightB t = false) := by
                  refine hid (hnot.out ?_)
                  have := hU.l2
                  rw [HD.out, decide_eq_true (show (s : Int) < endW 0 (t.wins.take k) by omega), Bool.true_or]
                --Q
                have h9' := decide_eq_true h9
                have hend : Hid (Below w.heap.size w (wr.alloc (.cells #[.int .i64 xp, .int .i64 (s : Int), .int .i64 (lg : Int)] 85))) := hid (hb2.trans (hbe.mono (by omega)))
                clear hbe hb2r hbl hblkr hown hnot hblkx HX2 h9 h8 hU
                go_wp2_with fail
                go_ret
                exact ⟨by rw [hr.out]; rfl, hend.out⟩
              · have h9' := decide_eq_false h9
                have hbx : Blk (wr.alloc (.cells #[.int .i64 xp, .int .i64 (s : Int), .int .i64 (lg : Int)] 85)) wr.heap.size 85 [.int .i64 xp, .int .i64 (s : Int), .int .i64 (lg : Int)] := Blk.new _ _ _
                have hownx : OwnsU (wr.alloc (.cells #[.int .i64 xp, .int .i64 (s : Int), .int .i64 (lg : Int)] 85)) B F u := World.ownsRow.alloc hown _
                have hBr : B < wr.heap.size := ((Value.ownBlock_lt hown))
                have HU2 := HU
                clear hb2r hbl hblkr hown hblkx
                have hso : s < F := by omega
                have hlen := hU.len
                by_cases hE : (s : Int) < endW 0 (t.wins.take k)
                · have hr : Hid (rightB t = false) := by
                    refine hid (hnot.out ?_)
                    rw [HD.out, decide_eq_true hE, Bool.true_or]
                  have hus : u[s]? = some true := by
                    have := hU.l2
                    exact hU.yes s (by omega) hE (by omega)
                  obtain ⟨b0, hb0, hcb, hfb⟩ := own_cellM hownx (k := s) (by omega)
                  rw [hus] at hb0
                  injection hb0 with hb0
                  subst hb0
                  --Q
                  have hend : Hid (Below w.heap.size w (wr.alloc (.cells #[.int .i64 xp, .int .i64 (s : Int), .int .i64 (lg : Int)] 85))) := hid (hb2.trans (hbe.mono (by omega)))
                  have hsl2 : decide ((s : Int) < (s : Int) + (lg : Int)) = true := decide_eq_true (by omega)
                  clear hbe hnot HX2 h9 h8 hE hU hownx hus
                  go_wp2_with fail
                  obtain ⟨x0, x1, x2⟩ : _ ∧ _ ∧ _ := ⟨hbx.cellAt (i := 0) rfl, hbx.cellAt (i := 1) rfl, hbx.cellAt (i := 2) rfl⟩
                  generalize wr.alloc (.cells #[.int .i64 xp, .int .i64 (s : Int), .int .i64 (lg : Int)] 85) = w5 at *
                  go_loopw [11] (fun v11 wz => v11 = .int .i64 (s : Int) ∧ wz = w5) (fun _ _ => 0)
                  case atStart => exact ⟨rfl, rfl⟩
                  case round =>
                    obtain ⟨rfl, rfl⟩ := hrel
                    go_wp2_with fail
                    go_ret
                    exact ⟨by rw [hr.out]; rfl, hend.out⟩
                · have HW := hid (hwn.out (by rw [HD.out, decide_eq_false hE, Bool.false_or]; exact h8'))
                  have hE2 := hE
                  clear hE hnot hwn h9 h8 HD
                  have hM0 := hid (hU.mid (s := s) (by omega))
                  clear hU
                  generalize hcb : careB (t.wins.take k) = cb at hcn ⊢
                  clear hcb
                  go_wp2_with fail
                  clear c0 c1 c2 c3 c4
                  generalize wr.alloc (.cells #[.int .i64 xp, .int .i64 (s : Int), .int .i64 (lg : Int)] 85) = w5 at *
                  generalize wr.heap.size = xb at *
                  go_loopw [11] (fun v11 wr => ∃ (q : Nat) (u' : List Bool), s ≤ q ∧ q ≤ s + lg ∧ v11 = .int .i64 (q : Int) ∧ Hid (MidT F s q u') ∧ OwnsU wr B F u' ∧ Below B w2 wr ∧ Blk wr xb 85 [.int .i64 xp, .int .i64 (s : Int), .int .i64 (lg : Int)]) (fun v11 _ => s + lg - (intOf v11).toNat)
                  case atStart => exact ⟨s, u, by omega, by omega, rfl, hM0, hownx, hbe, hbx⟩
                  case round =>
                    obtain ⟨q, u', hq1, hq2, rfl, HM, hou, hbz, hxz⟩ := hrel
                    have x0 := hxz.cellAt (i := 0) rfl
                    have x1 := hxz.cellAt (i := 1) rfl
                    have x2 := hxz.cellAt (i := 2) rfl
                    by_cases hq : q < s + lg
                    · have hq' : decide ((q : Int) < (s : Int) + (lg : Int)) = true := decide_eq_true (by omega)
                      have huq : u'[q]? = some false := HM.out.no q (by omega) (by omega)
                      obtain ⟨b0, hb0, hcb, hfb⟩ := own_cellM hou (k := q) (by omega)
                      rw [huq] at hb0
                      injection hb0 with hb0
                      subst hb0
                      have hst := hid (own_storeM (f := oV) hou q true)
                      have hxf := hid (hxz.far (p := ⟨B, q, none⟩) (by simp only; omega) (.bool true))
                      have hbf := hid (hbz.setCell (p := ⟨B, q, none⟩) (Nat.le_refl _) (.bool true))
                      have HM2 := hid (HM.out.next (by omega))
                      clear huq hou hbz hxz hownx hbe hbx
                      go_wp2_with fail
                      go_roundw
                      case rel => exact ⟨q + 1, u'.set q true, by omega, by omega, by go_num, HM2.out, hst.out.1, hbf.out, hxf.out⟩
                      case measure => simp [intOf]; omega
                    · have hq' : decide ((q : Int) < (s : Int) + (lg : Int)) = false := decide_eq_false (by omega)
                      have HU3 : Hid (UsedT t F (s : Int) (endW 0 (t.wins.take (k + 1))) u') := by
                        refine hid ?_
                        rw [hen.out, show (s : Int) + (lg : Int) = (q : Int) by omega]
                        exact HM.out.used (by omega) (by omega)
                      clear hq hownx hbe hbx
                      cases cb
                      · by_cases hp0 : xp = 0
                        · have hp1 : (xp == 0) = true := by simpa using hp0
                          have hc2 : Hid (careB (t.wins.take (k + 1)) = true) := hid (by rw [hcn.out, hp1]; rfl)
                          clear hp0
                          go_wp2_with fail
                          go_roundw
                          case rel => exact ⟨k + 1, s, u', by omega, by go_num, rfl, by rw [hc2.out], HW, HU3, hou, hbz⟩
                          case measure => simp [intOf]; omega
                        · have hp1 : (xp == 0) = false := by simpa using hp0
                          have hc2 : Hid (careB (t.wins.take (k + 1)) = false) := hid (by rw [hcn.out, hp1]; rfl)
                          clear hp0
                          go_wp2_with fail
                          go_roundw
                          case rel => exact ⟨k + 1, s, u', by omega, by go_num, rfl, by rw [hc2.out], HW, HU3, hou, hbz⟩
                          case measure => simp [intOf]; omega
                      · have hc2 : Hid (careB (t.wins.take (k + 1)) = true) := hid (by rw [hcn.out]; rfl)
                        go_wp2_with fail
                        go_roundw
                        case rel => exact ⟨k + 1, s, u', by omega, by go_num, rfl, by rw [hc2.out], HW, HU3, hou, hbz⟩
                        case measure => simp [intOf]; omega
        · obtain rfl : k = t.wins.length := by omega
          rw [List.take_length] at HK
          rw [show t.wins.take t.wins.length = t.wins from List.take_length ..]
          have hHH := HH.out
          have hFF := HF.out
          unfold headB at hHH
          simp only [Bool.or_eq_false_iff, decide_eq_false_iff_not] at hHH
          have HF2 : Hid ((∀ c ∈ t.chans, chanBad t c = false) → rightB t = careB t.wins) := hid (fun hc => right_fin t (by omega) (by omega) (by omega) (by omega) (by omega) (by omega) (by omega) (by omega) HP.out HK.out hc)
          have hOO := HO2.out.belowS hb2r
          have hinC := hOO.inn.2.2
          simp only at hinC
          have hbw : Below w.heap.size w wr := hb2.trans (hb2r.mono (by omega))
          generalize careB t.wins = cb at HF2 ⊢
          clear hHH hOO hown hsz3 hFF
          go_wp2_with fail
          clear c0 c1 c2 c3 c4
          obtain ⟨w7, rfl⟩ : ∃ w7 : World, w7 = wr := ⟨_, rfl⟩
          go_loopw [12, 13] (fun v12 _ wr => ∃ (j : Nat), j ≤ t.chans.length ∧ v12 = .int .i64 (j : Int) ∧ Hid (∀ c ∈ t.chans.take j, chanBad t c = false) ∧ Below w7.heap.size w7 wr) (fun v12 _ _ => t.chans.length - (intOf v12).toNat)
          case atStart => exact ⟨0, by omega, rfl, by refine hid ?_; simp, Below.refl _ _⟩
          case round =>
            obtain ⟨j, hj, rfl, HJ, hbj⟩ := hrel
            have hblkj := hblkr.belowS hbj
            obtain ⟨c0, c1, c2, c3, c4⟩ := tab_cellsF hblkj
            have hbwj := bel_trans hbw hbj
            by_cases hjn : j < t.chans.length
            · obtain ⟨ad, x, rfl, had, hx, hc0, hc⟩ := (hinC.belowS hbj).at_ hjn
              have q0 := hc0 _ rfl
              have q1 := hc 0 _ rfl
              have q2 := hc 1 _ rfl
              have HX := hid hx
              have hbe := bel_alloc hbj (.cells #[.int .i64 x.src, .int .i64 x.dst, .int .i64 x.depth] 69)
              have hbew := hid (bel_alloc hbwj (.cells #[.int .i64 x.src, .int .i64 x.dst, .int .i64 x.depth] 69))
              have hcb : chanBad t x = (decide (x.src < 0) || decide ((t.parts.length : Int) ≤ x.src) || decide (x.dst < 0) || decide ((t.parts.length : Int) ≤ x.dst) || (x.src == x.dst) || decide (x.depth < 0) || decide (4 < x.depth)) := by
                rw [Bool.eq_iff_iff]
                simp only [chanBad, hasB, inB, Bool.or_eq_true, Bool.not_eq_true', Bool.and_eq_false_iff, decide_eq_false_iff_not, decide_eq_true_eq, beq_iff_eq]
                omega
              clear hc hc0 hx
              by_cases hb : chanBad t x = true
              · have hr := hid (right_not_chan t x (List.mem_of_getElem? HX.out) hb)
                rw [hcb] at hb
                clear hcb hinC
                obtain ⟨xs, xd, xe⟩ := x
                simp only at q0 q1 q2 hb hbew hbe
                go_wp2_with fail
                all_goals
                  go_ret
                  exact ⟨by rw [hr.out]; rfl, bel_alloc hbwj _⟩
              · have hb' : chanBad t x = false := by simpa using hb
                have HS := hid (any_take (chanBad t) t.chans j x HX.out hb' HJ.out)
                rw [hcb] at hb'
                simp only [Bool.or_eq_false_iff] at hb'
                obtain ⟨⟨⟨⟨⟨⟨m1, m2⟩, m3⟩, m4⟩, m5⟩, m6⟩, m7⟩ := hb'
                clear hb hcb hinC
                obtain ⟨xs, xd, xe⟩ := x
                simp only at q0 q1 q2 m1 m2 m3 m4 m5 m6 m7 hbe
                go_wp2_with fail
                go_roundw
                case rel => exact ⟨j + 1, by omega, by go_num, HS.out, hbe⟩
                case measure => simp [intOf]; omega
            · obtain rfl : j = t.chans.length := by omega
              rw [List.take_length] at HJ
              have hr := hid (HF2.out HJ.out)
              go_wp2_with fail
              go_ret
              exact ⟨by rw [hr.out]; rfl, hbwj⟩
theorem refRight_any (t : TabS) (a : TabA) (w : World) (h : TabOk w t a) :
    Calls Tryz.prog 5 #[.agg #[.int .i64 t.frame, .slice a.A1 t.parts.length a.c1, .slice a.A2 t.wins.length a.c2, .slice a.A3 t.chans.length a.c3, .int .i64 t.trial]] w fun e w' => e = .returned (.bool (rightB t)) ∧ Below w.heap.size w w' := by
  by_cases hh : headB t = true
  · exact refRight_bad t a w hh
  · have hh' : headB t = false := by simpa using hh
    have h1 := hh'
    unfold headB at h1
    simp only [Bool.or_eq_false_iff, decide_eq_false_iff_not] at h1
    have e : t.frame = ((t.frame.toNat : Nat) : Int) := by omega
    rw [e]
    exact refRight_good t a t.frame.toNat e w h hh'
end Go.Proofs.YtidlahljhgglcaaGreat
