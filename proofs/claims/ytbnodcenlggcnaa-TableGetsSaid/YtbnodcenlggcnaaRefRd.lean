/-
  The document's own reader (longeronref01.Reader): its bytes, numbers and end.
-/
import Derived.Test.YtbnodcenlggcnaaReader
import Derived.Test.YtbnodcenlggcnaaStep
namespace Go.Proofs.Ytbnodcenlggcnaa
open Go.RowKit Go.ChangeShapes Go.WideShapes Go.ChangeAt

def Rdr2 (w : World) (g : Nat) (s : RS) : Prop := ∃ A n c at_, Blk w g 94 [.slice A n c, .int .i64 ((at_ : Nat) : Int), .int .i64 s.e] ∧ (∃ full : List UInt8, Reads w g 1 A n (full.map bV) ∧ s.b = full.drop at_) ∧ at_ ≤ n ∧ n ≤ c ∧ c ≤ maxLen ∧ n ≤ 100000000
section
variable {w w' : World} {g B r : Nat} {s : RS}
theorem Rdr2.lt (h : Rdr2 w g s) : g < w.heap.size := by obtain ⟨_, _, _, _, h, _⟩ := h; exact h.lt
theorem Rdr2.belowG (h : Rdr2 w g s) (hb : Below B w w') (hg : g < B) : Rdr2 w' g s := by
  obtain ⟨A, n, c, at_, h1, ⟨full, h2, h3⟩, h4⟩ := h
  exact ⟨A, n, c, at_, h1.below hb hg, ⟨full, h2.below (hb.mono (Nat.le_of_lt hg)), h3⟩, h4⟩
theorem Rdr2.below (h : Rdr2 w g s) (hb : Below w.heap.size w w') : Rdr2 w' g s := h.belowG hb h.lt
end
def BPost2 (w : World) (g : Nat) (s : RS) (n : Int) (e : Ending) (w' : World) : Prop :=
  ∃ A' m c', e = .returned (.slice A' m c') ∧ w'.ownsRow w.heap.size 5 1 (.slice A' m c') m ((rBytes s n).1.map bV) ∧ Rdr2 w' g (rBytes s n).2 ∧ w.grownBy w' (some g)

set_option maxRecDepth 100000 in
set_option maxHeartbeats 2000000 in
theorem bytes2_any (g : Nat) (s : RS) (n : Int) (w : World) (h : Rdr2 w g s) (hn : n ≤ 100000000) (hn0 : -1 ≤ n) :
    Calls Try.prog 66 #[.pointer (some ⟨g, 0, none⟩), .int .i64 n] w (BPost2 w g s n) := by
  have HR := hid h
  obtain ⟨A, N, c, at_, hb, ⟨full, hr, hsb⟩, hat, hnc, hcm, hN⟩ := h
  have c0 : w.cell? ⟨g, 0, none⟩ = some (.slice A N c) := hb.cellAt rfl
  have c1 : w.cell? ⟨g, 1, none⟩ = some (.int .i64 (at_ : Int)) := hb.cellAt rfl
  have c2 : w.cell? ⟨g, 2, none⟩ = some (.int .i64 s.e) := hb.cellAt rfl
  have f1 := hb.frozen 1
  have f2 := hb.frozen 2
  have hfl : full.length = N := by simpa using hr.len
  have hsl : s.b.length = N - at_ := by rw [hsb, List.length_drop, hfl]
  go_enter Try.func66, Try.ntmps66
  by_cases hs : s.e ≠ 0 ∨ n ≤ 0
  · have hres : Hid (rBytes s n = ([], s)) := hid (by unfold rBytes; rw [if_pos hs])
    have hfin : Hid (BPost2 w g s n (.returned (.slice none 0 0)) w) := hid ⟨none, 0, 0, rfl, by rw [hres.out]; exact World.ownsRow_nil _ _ _ _, by rw [hres.out]; exact HR.out, only_refl _ _⟩
    by_cases he : s.e = 0
    · have g0 : (s.e != 0) = false := by simp [he]
      have g1 : decide (n ≤ 0) = true := decide_eq_true (by rcases hs with h | h; exact absurd he h; exact h)
      clear he hs hres
      go_wp2_with fail
      go_ret
      exact hfin.out
    · have g0 : (s.e != 0) = true := by simpa using he
      clear he hs hres
      go_wp2_with fail
      go_ret
      exact hfin.out
  · have he : s.e = 0 := by omega
    have hnp : 0 < n := by omega
    obtain ⟨k, rfl⟩ : ∃ k : Nat, n = k := ⟨n.toNat, by omega⟩
    have g0 : (s.e != 0) = false := by simp [he]
    have g1 : decide ((k : Int) ≤ 0) = false := decide_eq_false (by omega)
    obtain ⟨D, hD⟩ : ∃ D : Nat, D = N - at_ := ⟨_, rfl⟩
    have hDw : IntKind.i64.wrap ((N : Int) - (at_ : Int)) = (D : Int) := by
      rw [show (N : Int) - (at_ : Int) = (D : Int) by omega]
      exact IntWalk.i64_in _ (by omega)
    have g1' : decide (k = 0) = false := decide_eq_false (by omega)
    have HDD := hid hD
    have hsD : s.b.length = D := by omega
    have hDle : at_ + D = N := by omega
    clear hD hsl
    by_cases hk : D < k
    · have g2 : decide ((D : Int) < (k : Int)) = true := decide_eq_true (by omega)
      have g2' : decide (D < k) = true := decide_eq_true hk
      have hres : Hid (rBytes s (k : Int) = ([], ⟨s.b, 1⟩)) := hid (by unfold rBytes; rw [if_neg (by omega), if_pos (by omega)])
      have HB := hid hb
      have HRR := hid hr
      clear hb hr hs hk HR
      go_wp2_with fail
      go_quiet (fail)
      go_wp2_with fail
      go_ret
      refine ⟨none, 0, 0, rfl, by rw [hres.out]; exact World.ownsRow_nil _ _ _ _, ?_, ?_⟩
      · rw [hres.out]
        exact ⟨A, N, c, at_, HB.out.set_ 2 (.int .i64 1), ⟨full, HRR.out.setCell (Nat.le_refl _) _, hsb⟩, hat, hnc, hcm, hN⟩
      · exact only_trans (b := w.drewN nq) ⟨rfl, rfl, rfl, Nat.le_refl _, fun _ _ _ => rfl⟩ (only_set _ 2 _)
    · have g2 : decide ((D : Int) < (k : Int)) = false := decide_eq_false (by omega)
      have g2' : decide (D < k) = false := decide_eq_false hk
      have hres : Hid (rBytes s (k : Int) = (s.b.take k, ⟨s.b.drop k, s.e⟩)) := hid (by unfold rBytes; rw [if_neg (by omega), if_neg (by omega)]; rfl)
      obtain ⟨ad, rfl, had, -⟩ := hr.form (by omega)
      have hcut := hr.cut (k := at_) (cap := c) (by omega) hnc
      have hca : c ≠ at_ := by omega
      rw [if_neg hca, Nat.mul_one, ← List.map_drop, ← hsb] at hcut
      simp only [Option.map_some] at hcut
      have hfr := hcut.front (k := k) (by omega)
      rw [Nat.mul_one, ← List.map_take] at hfr
      have HFR := hid hfr
      have HB := hid hb
      have HRR := hid hr
      have hw1 : IntKind.i64.wrap ((at_ : Int) + (k : Int)) = (at_ : Int) + (k : Int) := IntWalk.i64_in _ (by omega)
      have hmm : ((at_ : Int) + (k : Int)).toNat - at_ = k := by omega
      have k1 : (0 : Int) ≤ (at_ : Int) := Int.natCast_nonneg _
      have k2 : (at_ : Int) ≤ (at_ : Int) + (k : Int) := by omega
      have k3 : (at_ : Int) + (k : Int) ≤ (c : Int) := by unfold maxLen at hcm; omega
      obtain ⟨i0, hi0, hz0, hz1, hz2⟩ := info_parts info_u8
      have hlt := HB.out.lt
      have HSZ := hid hfl
      have hkD := hid (Nat.le_of_not_lt hk)
      clear hb hr hs hk HR hcut hfr had hfl hsD
      go_wp2_with fail
      go_quiet (fail)
      go_wp2_with fail
      go_region_held3 (fun w' => w'.cell? ⟨g, 0, none⟩ = some (.slice (some ad) N c) ∧ w'.cell? ⟨g, 1, none⟩ = some (.int .i64 (at_ : Int))) (go_keep)
        (first
          | (refine step_app _ (by rfl) _ _ _ (by rfl) w.heap.size 5 i0 _ 1 1 Try.underlying62 hi0 hz0 hz1 hz2 rfl (by decide) (.slice none 0 0) 0 [] (by rfl) (World.ownsRow_nil _ _ _ _) g (some (ad.add at_)) k (c - at_) (((s.b.take k)).map bV) (by rfl) HFR.out (oneCell_b _) (by simp [maxLen]; omega) (by omega) (by simp) k (by omega) ?_; intro A3 c3 w3 hown3 hg3 hb3; have q0 : w3.cell? ⟨g, 0, none⟩ = some (.slice (some ad) N c) := (hb3.cell (p := ⟨g, 0, none⟩) hlt).trans c0; have q1 : w3.cell? ⟨g, 1, none⟩ = some (.int .i64 (at_ : Int)) := (hb3.cell (p := ⟨g, 1, none⟩) hlt).trans c1))
      have hb03 : Below w.heap.size w w3 := ⟨hb3.os, hb3.tape, hb3.output, hb3.size, hb3.block⟩
      have hB3 := HB.out.below hb03 hlt
      have f1 := hB3.frozen 1
      have HO := hid hown3
      clear q0 hown3 hg3 hb3 hmm k1 k2 k3 c0 c1 c2 f2
      go_wp2_with fail
      go_ret
      refine ⟨A3, k, c3, rfl, ?_, ?_, ?_⟩
      · rw [hres.out]
        have h := ownsRow_setCell_below HO.out (a := ⟨g, 1, none⟩) hlt (.int .i64 ((at_ : Int) + (k : Int)))
        simpa using h
      · rw [hres.out]
        refine ⟨some ad, N, c, at_ + k, ?_, ⟨full, (HRR.out.below (hb03.mono (Nat.le_of_lt hlt))).setCell (Nat.le_refl _) _, ?_⟩, by have := hkD.out; omega, hnc, hcm, hN⟩
        · have h := hB3.set_ 1 (.int .i64 ((at_ : Int) + (k : Int)))
          have e : (((at_ + k : Nat)) : Int) = (at_ : Int) + (k : Int) := by omega
          rw [e]
          exact h
        · show s.b.drop k = full.drop (at_ + k)
          rw [hsb, List.drop_drop]
      · exact only_trans (only_below (hb03) (some g)) (only_set _ 1 _)

def NPost2 (w : World) (g : Nat) (s : RS) (ww : Int) (e : Ending) (w' : World) : Prop :=
  e = .returned (.int .i64 ((rNum s ww).1 : Int)) ∧ Rdr2 w' g (rNum s ww).2 ∧ w.grownBy w' (some g)
set_option maxRecDepth 100000 in
set_option maxHeartbeats 2000000 in
theorem num2_any (g : Nat) (s : RS) (ww : Int) (w : World) (h : Rdr2 w g s) :
    Calls Try.prog 59 #[.pointer (some ⟨g, 0, none⟩), .int .i64 ww] w (NPost2 w g s ww) := by
  have hwb := wid_bd ww
  have i1 := hid (bytes2_any g s (wid ww : Int) w h (by omega) (by omega))
  have hlen := rBytes_len s (wid ww : Int) (by omega)
  unfold BPost2 at i1
  have HN : Hid (∀ l s2, rBytes s (wid ww : Int) = (l, s2) → rNum s ww = (numOf l, s2)) := hid (fun l s2 e => by unfold rNum; rw [e])
  obtain ⟨⟨l, s2⟩, hls⟩ : ∃ r, rBytes s (wid ww : Int) = r := ⟨_, rfl⟩
  have HN2 := hid (HN.out l s2 hls)
  rw [hls] at i1 hlen
  simp only at i1 hlen
  clear hls HN
  have i0 := hid (width_any ww w)
  have hl6 : l.length ≤ 6 := by omega
  generalize wid ww = W at i1 i0
  clear hlen hwb
  go_enter Try.func59, Try.ntmps59
  go_wp2_with fail
  refine i0.out.mono ?_
  rintro e w1 ⟨rfl, rfl⟩
  go_wp2_with fail
  refine i1.out.mono ?_
  rintro e w1 ⟨A1, m, d1, rfl, hown1, hrd1, hg1⟩
  obtain rfl : l.length = m := by simpa using hown1.1
  have HRL := hid (Reads.of_own hown1)
  have hfin := hid (And.intro hrd1 hg1)
  clear hown1 hrd1 hg1 i0 i1 h
  go_wp2_with fail
  go_loopw [6, 7] (fun v6 v7 wr => ∃ (k V : Nat), k ≤ l.length ∧ v7 = .int .i64 (k : Int) ∧ v6 = .int .i64 (V : Int) ∧ Hid (V = numOf (l.take k)) ∧ wr = w1) (fun _ v7 _ => l.length - (intOf v7).toNat)
  case atStart => exact ⟨0, 0, by omega, rfl, rfl, hid rfl, by first | trivial | rfl⟩
  obtain ⟨k, V, hk, rfl, rfl, HV, hw⟩ := hrel
  subst hw
  by_cases hkn : k < l.length
  · obtain ⟨ad, x, rfl, had, hx, hc⟩ := HRL.out.atM hkn
    have hV : V < 1099511627776 := by
      rw [HV.out]
      have h1 := numOf_lt (l.take k)
      have h2 : (l.take k).length ≤ 5 := by rw [List.length_take]; omega
      have h3 : (256 : Nat) ^ (l.take k).length ≤ 256 ^ 5 := Nat.pow_le_pow_right (by omega) h2
      omega
    have HV2 : Hid (V * 256 + x.toNat = numOf (l.take (k + 1))) := hid (by rw [List.take_add_one, hx, HV.out]; exact (numOf_snoc _ _).symm)
    have hx8 := x.toNat_lt
    simp only [bV] at hc
    have y1 : IntKind.i64.wrap (256 * (V : Int)) = 256 * (V : Int) := IntWalk.i64_in _ (by omega)
    have y2 : IntKind.i64.wrap (256 * (V : Int) + (x.toNat : Int)) = 256 * (V : Int) + (x.toNat : Int) := IntWalk.i64_in _ (by omega)
    have hk0 : (0 : Int) ≤ (k : Int) := Int.natCast_nonneg _
    have hk1 : (k : Int) < (l.length : Int) := by omega
    have hknd : decide ((k : Int) < (l.length : Int)) = true := decide_eq_true hk1
    clear hx HV had
    generalize x.toNat = X at *
    go_wp2_with fail
    go_roundw
    case rel => exact ⟨k + 1, V * 256 + X, by omega, by go_num, by go_num, hid HV2.out, by first | trivial | rfl⟩
    case measure => simp [intOf]; omega
  · obtain rfl : k = l.length := by omega
    have HF : Hid (NPost2 w g s ww (.returned (.int .i64 (V : Int))) wr) := hid ⟨by rw [HN2.out, HV.out, List.take_length], by rw [HN2.out]; exact hfin.out.1, hfin.out.2⟩
    clear HV
    go_wp2_with fail
    go_ret
    exact HF.out
def EPost2 (w : World) (g : Nat) (s : RS) (e : Ending) (w' : World) : Prop := e = .returned (.int .i64 (rEnd s)) ∧ Rdr2 w' g s ∧ w.grownBy w' (some g)
theorem end2_any (g : Nat) (s : RS) (w : World) (h : Rdr2 w g s) :
    Calls Try.prog 60 #[.pointer (some ⟨g, 0, none⟩)] w (EPost2 w g s) := by
  have HR := hid h
  obtain ⟨A, N, c, at_, hb, ⟨full, hr, hsb⟩, hat, hnc, hcm, hN⟩ := h
  have c0 : w.cell? ⟨g, 0, none⟩ = some (.slice A N c) := hb.cellAt rfl
  have c1 : w.cell? ⟨g, 1, none⟩ = some (.int .i64 (at_ : Int)) := hb.cellAt rfl
  have c2 : w.cell? ⟨g, 2, none⟩ = some (.int .i64 s.e) := hb.cellAt rfl
  have hfl : full.length = N := by simpa using hr.len
  have hsl : s.b.length = N - at_ := by rw [hsb, List.length_drop, hfl]
  have HX : Hid (∀ q, EPost2 w g s (.returned (.int .i64 (rEnd s))) (w.drewN q)) := hid (fun q => ⟨rfl, HR.out, ⟨rfl, rfl, rfl, Nat.le_refl _, fun _ _ _ => rfl⟩⟩)
  go_enter Try.func60, Try.ntmps60
  by_cases he : s.e = 0
  · have g0 : (s.e == 0) = true := by simp [he]
    by_cases hl : at_ < N
    · have g1 : decide ((at_ : Int) < (N : Int)) = true := decide_eq_true (by omega)
      have g1' : decide (at_ < N) = true := decide_eq_true hl
      have hre : rEnd s = 2 := by unfold rEnd; rw [if_neg (by omega), if_neg (fun h => by rw [h] at hsl; simp at hsl; omega)]
      rw [hre] at HX
      clear hb hr hsb hfl hsl hl hre HR he
      go_wp2_with fail
      go_quiet (fail)
      go_wp2_with fail
      go_ret
      exact HX.out nq
    · have g1 : decide ((at_ : Int) < (N : Int)) = false := decide_eq_false (by omega)
      have g1' : decide (at_ < N) = false := decide_eq_false hl
      have hre : rEnd s = 0 := by unfold rEnd; rw [if_neg (by omega), if_pos (List.eq_nil_of_length_eq_zero (by omega))]
      rw [hre] at HX
      rw [he] at c2
      clear hb hr hsb hfl hsl hl hre HR he
      go_wp2_with fail
      go_quiet (fail)
      go_wp2_with fail
      go_ret
      exact HX.out nq
  · have g0 : (s.e == 0) = false := by simpa using he
    have hre : rEnd s = s.e := by unfold rEnd; rw [if_pos he]
    rw [hre] at HX
    clear hb hr hsb hfl hsl hre HR he
    go_wp2_with fail
    go_quiet (fail)
    go_wp2_with fail
    go_ret
    exact HX.out nq
end Go.Proofs.Ytbnodcenlggcnaa
