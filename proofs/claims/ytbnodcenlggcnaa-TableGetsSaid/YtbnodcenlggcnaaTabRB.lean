/-
  The document's own bytes of a table that is right.
-/
import Derived.Test.YtbnodcenlggcnaaTabPut
namespace Go.Proofs.Ytbnodcenlggcnaa
open Go.RowKit

def by1 (x : Int) : UInt8 := UInt8.ofNat x.toNat
theorem by1_val {x : Int} (h : 0 ≤ x) : ((by1 x).toNat : Int) = x % 256 := by
  unfold by1
  rw [UInt8.toNat_ofNat']
  omega
theorem putB1 {x : Int} (h : 0 ≤ x) (h2 : x < 256) : putB x 1 = [by1 x] := by
  unfold putB digs clip dig by1
  simp
  congr 1
  omega
theorem putB2 {x : Int} (h : 0 ≤ x) (h2 : x < 65536) : putB x 2 = [by1 (x / 256), by1 (x % 256)] := by
  unfold putB digs clip dig by1
  have e : min x.toNat (256 ^ 2 - 1) = x.toNat := by have : (256 : Nat) ^ 2 = 65536 := by decide
                                                     omega
  rw [e]
  simp [List.range_succ]
  refine ⟨?_, ?_⟩
  · congr 1
    omega
  · apply UInt8.toNat_inj.1
    rw [UInt8.toNat_ofNat', UInt8.toNat_ofNat']
    omega
theorem bV_by1 {x : Int} (h : 0 ≤ x) : bV (by1 x) = .int .u8 (x % 256) := by unfold bV; rw [by1_val h]
theorem partB_by {x : PartS} (h : 1 ≤ x.mem ∧ x.mem ≤ 16 ∧ 1 ≤ x.fuel ∧ x.fuel ≤ 32 ∧ 0 ≤ x.hard ∧ x.hard ≤ 65535) : partB x = [by1 x.mem, by1 x.fuel, by1 (x.hard / 256), by1 (x.hard % 256)] := by
  unfold partB
  rw [putB1 (by omega) (by omega), putB1 (by omega) (by omega), putB2 (by omega) (by omega)]
  rfl
theorem winBy_by {x : WinS} (h : 0 ≤ x.part ∧ x.part < 256 ∧ 0 ≤ x.at_ ∧ x.at_ < 256 ∧ 0 ≤ x.long ∧ x.long < 256) : winBy x = [by1 x.part, by1 x.at_, by1 x.long] := by
  unfold winBy
  rw [putB1 (by omega) (by omega), putB1 (by omega) (by omega), putB1 (by omega) (by omega)]
  rfl
theorem chanBy_by {x : ChanS} (h : 0 ≤ x.src ∧ x.src < 256 ∧ 0 ≤ x.dst ∧ x.dst < 256 ∧ 0 ≤ x.depth ∧ x.depth < 256) : chanBy x = [by1 x.src, by1 x.dst, by1 x.depth] := by
  unfold chanBy
  rw [putB1 (by omega) (by omega), putB1 (by omega) (by omega), putB1 (by omega) (by omega)]
  rfl
theorem headT_by {t : TabS} (h : RightT t) : headT t = [by1 t.frame, by1 t.trial, by1 (t.parts.length : Int), by1 (t.wins.length : Int), by1 (t.chans.length : Int)] := by
  have f1 := h.f1
  have f2 := h.f2
  have r1 := h.r1
  have r2 := h.r2
  have p2 := h.p2
  have w8 := h.w8
  have c4 := h.c4
  unfold headT
  rw [putB1 (by omega) (by omega), putB1 (by omega) (by omega), putB1 (by omega) (by omega), putB1 (by omega) (by omega), putB1 (by omega) (by omega)]
  rfl
set_option maxRecDepth 100000 in
set_option maxHeartbeats 4000000 in
theorem refBytesT_any (t : TabS) (a : TabA) (w : World) (h : TabOk w t a) (hr : rightB t = true) :
    Calls Try.prog 38 #[.agg #[.int .i64 t.frame, .slice a.A1 t.parts.length a.c1, .slice a.A2 t.wins.length a.c2, .slice a.A3 t.chans.length a.c3, .int .i64 t.trial]] w fun e w' => ∃ A' c', e = .returned (.slice A' (tabB t).length c') ∧ w'.ownsRow w.heap.size 5 1 (.slice A' (tabB t).length c') (tabB t).length ((tabB t).map bV) ∧ Below w.heap.size w w' := by
  obtain ⟨w1, hw1, hb1, hX1⟩ := tab_inG t a w
  obtain ⟨c0, c1, c2, c3, c4⟩ := tab_cells hX1
  have hR := (rightB_iff t).1 hr
  have HRT := hid hR
  have HTB : Hid (tabB t = headT t ++ t.parts.flatMap partB ++ t.wins.flatMap winBy ++ t.chans.flatMap chanBy) := hid rfl
  have HX1 := hid hX1
  have HIN1 := hid (h.inn.belowS hb1)
  have hlp := hR.p2
  have hlw := hR.w8
  have hlc := hR.c4
  have hlt1 : w.heap.size < w1.heap.size := hX1.lt
  have HHT := hid (headT_by hR)
  have hval : ∀ x : Int, 0 ≤ x → Value.int .u8 (x % 256) = bV (by1 x) := fun x hx => (bV_by1 hx).symm
  have HV := hid hval
  have HBW1 := hid hb1
  obtain ⟨HT, hHT⟩ : ∃ x, headT t = x := ⟨_, rfl⟩
  rw [hHT] at HTB HHT
  obtain ⟨TBS, hTBS⟩ : ∃ x, tabB t = x := ⟨_, rfl⟩
  rw [hTBS] at HTB ⊢
  clear h hr hX1 hHT hTBS hR hval hb1
  obtain ⟨fr, parts, wins, chans, tr⟩ := t
  obtain ⟨A1, k1, A2, k2, A3, k3⟩ := a
  simp only at *
  go_enter Try.func38, Try.ntmps38
  go_wp2_with fail
  clear hw1 c0 c1 c2 c3 c4
  obtain ⟨w2, hw2, HO2, HB2⟩ : ∃ W : World, w1.alloc (.cells #[.int .u8 (fr % 256), .int .u8 (tr % 256), .int .u8 (parts.length : Int), .int .u8 (wins.length : Int), .int .u8 (chans.length : Int)] 5) = W ∧ Hid (W.ownsRow w1.heap.size 5 1 (.slice (some ⟨w1.heap.size, 0, none⟩) 5 5) 5 (HT.map bV)) ∧ Hid (Below w1.heap.size w1 W) := ⟨_, rfl, hid (by
    have h1 := World.ownsRow_lit (base := w1.heap.size) (e := 5) (size := 1) w1 #[.int .u8 (fr % 256), .int .u8 (tr % 256), .int .u8 (parts.length : Int), .int .u8 (wins.length : Int), .int .u8 (chans.length : Int)] 5 (Nat.le_refl _) (by simp [maxLen]) rfl
    rw [HHT.out]
    have f1 := HRT.out.f1
    have r1 := HRT.out.r1
    simp only at f1 r1
    have g1 := HV.out (parts.length : Int) (by omega)
    have g2 := HV.out (wins.length : Int) (by omega)
    have g3 := HV.out (chans.length : Int) (by omega)
    rw [show (parts.length : Int) % 256 = (parts.length : Int) by omega] at g1
    rw [show (wins.length : Int) % 256 = (wins.length : Int) by omega] at g2
    rw [show (chans.length : Int) % 256 = (chans.length : Int) by omega] at g3
    rw [HV.out fr (by omega), HV.out tr (by omega), g1, g2, g3] at h1 ⊢
    exact h1), hid ((Below.refl _ _).alloc (Nat.le_refl _) _)⟩
  rw [hw2]
  have HHL : Hid (HT.length = 5) := hid (by rw [HHT.out]; rfl)
  clear hw2
  have c1 := (HX1.out.belowS HB2.out).cellAt (i := 1) rfl
  go_loopw [4, 3] (fun vC vB wr => ∃ (k : Nat) (A : Option Addr) (c : Nat), k ≤ parts.length ∧ vC = .int .i64 (k : Int) ∧ vB = .slice A (5 + 4 * k) c ∧ wr.ownsRow w1.heap.size 5 1 (.slice A (5 + 4 * k) c) (5 + 4 * k) ((HT ++ (parts.take k).flatMap partB).map bV) ∧ Below w1.heap.size w1 wr) (fun vC _ _ => parts.length - (intOf vC).toNat)
  case atStart => exact ⟨0, some ⟨w1.heap.size, 0, none⟩, 5, by omega, rfl, rfl, by simpa using HO2.out, HB2.out⟩
  case round =>
    obtain ⟨k, Aq1, cq1, hk, rfl, rfl, hown, hbel⟩ := hrel
    have HOW := hid hown
    have HBEL := hid hbel
    have c1 : wr.cell? ⟨w.heap.size, 1, none⟩ = some (.slice A1 parts.length k1) := (HX1.out.belowS hbel).cellAt rfl
    clear hown
    by_cases hkn : k < parts.length
    · have y0 : decide ((k : Int) < (parts.length : Int)) = true := decide_eq_true (by omega)
      have y0' : decide (k < parts.length) = true := decide_eq_true hkn
      have z0 : (0 : Int) ≤ (k : Int) := Int.natCast_nonneg _
      have z1 : (k : Int) < (parts.length : Int) := by omega
      obtain ⟨ad, x, hAx, had, hx, q0, qq⟩ := (HIN1.out.1.belowS hbel).at_ hkn
      have u0 := q0 _ rfl
      have u1 := qq 0 _ rfl
      have u2 := qq 1 _ rfl
      have HNX := hid (flat_take partB parts k x hx HT)
      have hmem := List.mem_of_getElem? hx
      have hq := HRT.out.ps x hmem
      have HEQ := hid (partB_by hq)
      have HBY : Hid ([by1 x.mem, by1 x.fuel, by1 (x.hard / 256), by1 (x.hard % 256)].map bV = [.int .u8 (x.mem % 256), .int .u8 (x.fuel % 256), .int .u8 (x.hard / 256 % 256), .int .u8 (x.hard % 256 % 256)]) := hid (by simp only [List.map_cons, List.map_nil]; rw [bV_by1 (by omega), bV_by1 (by omega), bV_by1 (by omega), bV_by1 (by omega)])
      have hh1 : 0 ≤ x.hard := hq.2.2.2.2.1
      have hh2 : x.hard ≤ 65535 := hq.2.2.2.2.2
      clear hq
      clear q0 qq hx hmem
      obtain ⟨e1, e2, e3⟩ := x
      simp only at u0 u1 u2 HBY
      subst hAx
      simp only at hh1 hh2 HEQ
      obtain ⟨DD, hDD⟩ : ∃ D, e3 / 256 = D := ⟨_, rfl⟩
      obtain ⟨MM, hMM⟩ : ∃ D, e3 % 256 = D := ⟨_, rfl⟩
      have qd : wrap64 (e3.tdiv 256) = DD := by
        rw [Int.tdiv_eq_ediv_of_nonneg hh1, ← hDD]
        unfold wrap64; omega
      have qm : e3.tmod 256 = MM := by rw [Int.tmod_eq_emod_of_nonneg hh1, hMM]
      rw [hDD, hMM] at HBY HEQ
      clear hDD hMM hh1 hh2
      generalize HT ++ (parts.take k).flatMap partB = cs at *
      obtain ⟨wp, hwp, hPB, hbp⟩ : ∃ W : World, wr.alloc (.cells #[.int .i64 e1, .int .i64 e2, .int .i64 e3] 77) = W ∧ Blk W wr.heap.size 77 [.int .i64 e1, .int .i64 e2, .int .i64 e3] ∧ Below wr.heap.size wr W := ⟨_, rfl, Blk.new wr _ [.int .i64 e1, .int .i64 e2, .int .i64 e3], (Below.refl _ _).alloc (Nat.le_refl _) _⟩
      have m0 : wp.cell? ⟨wr.heap.size, 0, none⟩ = some (.int .i64 e1) := hPB.cellAt rfl
      have m1 : wp.cell? ⟨wr.heap.size, 1, none⟩ = some (.int .i64 e2) := hPB.cellAt rfl
      have m2 : wp.cell? ⟨wr.heap.size, 2, none⟩ = some (.int .i64 e3) := hPB.cellAt rfl
      have HOP := hid (own_below HOW.out hbp)
      have HBP := hid (hbel.trans (hbp.mono hbel.size))
      clear hPB hbp hbel
      have HN3 : Hid (Reads (wp.alloc (.cells #[.int .u8 (e1 % 256), .int .u8 (e2 % 256), .int .u8 (DD % 256), .int .u8 (MM % 256)] 5)) (wp.heap.size + 1) 1 (some ⟨wp.heap.size, 0, none⟩) 4 ([by1 e1, by1 e2, by1 DD, by1 MM].map bV)) := hid (by
        rw [HBY.out]
        exact Reads.new wp #[.int .u8 (e1 % 256), .int .u8 (e2 % 256), .int .u8 (DD % 256), .int .u8 (MM % 256)] 5 4 rfl)
      go_wp2_with (at_builtin; refine appB _ rfl (.tmp 41) (.tmp 56) rfl w1.heap.size Aq1 (5 + 4 * k) cq1 cs rfl (HOP.out.alloc _) (wp.heap.size + 1) _ 4 4 [by1 e1, by1 e2, by1 DD, by1 MM] rfl HN3.out (by omega) (by have := HBP.out.size; simp; omega) ?_; intro A' c' w5 hown5 hg5 hb5)
      have HF := hid hown5
      have HB5 : Hid (Below w1.heap.size w1 w5) := hid ((HBP.out.alloc HBP.out.size _).trans hb5)
      clear hwp u0 u1 u2 m0 m1 m2 hown5 hg5 hb5 HN3 c1
      have hnn : 5 + 4 * k + 4 = 5 + 4 * (k + 1) := by omega
      rw [hnn] at HF ⊢
      go_roundw
      case rel => exact ⟨k + 1, A', c', by omega, by go_num, rfl, by rw [HNX.out, HEQ.out]; exact HF.out, HB5.out⟩
      case measure => simp [intOf]; omega
    · obtain rfl : k = parts.length := by omega
      have HFN1 := hid (show wr.ownsRow w1.heap.size 5 1 (.slice Aq1 (5 + 4 * parts.length) cq1) (5 + 4 * parts.length) ((HT ++ parts.flatMap partB).map bV) by have h9 := HOW.out; rw [List.take_length] at h9; exact h9)
      have HBN1 := hid HBEL.out
      clear HOW HBEL hbel hkn hk
      obtain ⟨n1, hn1⟩ : ∃ n1, 5 + 4 * parts.length = n1 := ⟨_, rfl⟩
      rw [hn1] at HFN1 ⊢
      have HNB1 := hid (show n1 ≤ 21 by omega)
      have hnb1 := HNB1.out
      clear hn1
      go_wp2_with fail
      have c2 := (HX1.out.belowS HBN1.out).cellAt (i := 2) rfl
      go_loopw [6, 3] (fun vC vB wr => ∃ (k : Nat) (A : Option Addr) (c : Nat), k ≤ wins.length ∧ vC = .int .i64 (k : Int) ∧ vB = .slice A (n1 + 3 * k) c ∧ wr.ownsRow w1.heap.size 5 1 (.slice A (n1 + 3 * k) c) (n1 + 3 * k) (((HT ++ parts.flatMap partB) ++ (wins.take k).flatMap winBy).map bV) ∧ Below w1.heap.size w1 wr) (fun vC _ _ => wins.length - (intOf vC).toNat)
      case atStart => exact ⟨0, Aq1, cq1, by omega, rfl, rfl, by simpa using HFN1.out, HBN1.out⟩
      case round =>
        obtain ⟨k, Aq2, cq2, hk, rfl, rfl, hown, hbel⟩ := hrel
        have HOW := hid hown
        have HBEL := hid hbel
        have c2 : wr.cell? ⟨w.heap.size, 2, none⟩ = some (.slice A2 wins.length k2) := (HX1.out.belowS hbel).cellAt rfl
        clear hown
        by_cases hkn : k < wins.length
        · have y0 : decide ((k : Int) < (wins.length : Int)) = true := decide_eq_true (by omega)
          have y0' : decide (k < wins.length) = true := decide_eq_true hkn
          have z0 : (0 : Int) ≤ (k : Int) := Int.natCast_nonneg _
          have z1 : (k : Int) < (wins.length : Int) := by omega
          obtain ⟨ad, x, hAx, had, hx, q0, qq⟩ := (HIN1.out.2.1.belowS hbel).at_ hkn
          have u0 := q0 _ rfl
          have u1 := qq 0 _ rfl
          have u2 := qq 1 _ rfl
          have HNX := hid (flat_take winBy wins k x hx (HT ++ parts.flatMap partB))
          have hmem := List.mem_of_getElem? hx
          have hq := HRT.out.win x hmem
          have hf2 := HRT.out.f2
          simp only at hf2
          have hq2 : 0 ≤ x.part ∧ x.part < 256 ∧ 0 ≤ x.at_ ∧ x.at_ < 256 ∧ 0 ≤ x.long ∧ x.long < 256 := by obtain ⟨a1, a2, a3, a4, a5⟩ := hq; simp only at a1 a2 a3 a4 a5; omega
          have HEQ := hid (winBy_by hq2)
          have HBY : Hid ([by1 x.part, by1 x.at_, by1 x.long].map bV = [.int .u8 (x.part % 256), .int .u8 (x.at_ % 256), .int .u8 (x.long % 256)]) := hid (by simp only [List.map_cons, List.map_nil]; rw [bV_by1 (by omega), bV_by1 (by omega), bV_by1 (by omega)])
          clear hq hq2 hf2
          clear q0 qq hx hmem
          obtain ⟨e1, e2, e3⟩ := x
          simp only at u0 u1 u2 HBY
          subst hAx
          generalize (HT ++ parts.flatMap partB) ++ (wins.take k).flatMap winBy = cs at *
          obtain ⟨wp, hwp, hPB, hbp⟩ : ∃ W : World, wr.alloc (.cells #[.int .i64 e1, .int .i64 e2, .int .i64 e3] 30) = W ∧ Blk W wr.heap.size 30 [.int .i64 e1, .int .i64 e2, .int .i64 e3] ∧ Below wr.heap.size wr W := ⟨_, rfl, Blk.new wr _ [.int .i64 e1, .int .i64 e2, .int .i64 e3], (Below.refl _ _).alloc (Nat.le_refl _) _⟩
          have m0 : wp.cell? ⟨wr.heap.size, 0, none⟩ = some (.int .i64 e1) := hPB.cellAt rfl
          have m1 : wp.cell? ⟨wr.heap.size, 1, none⟩ = some (.int .i64 e2) := hPB.cellAt rfl
          have m2 : wp.cell? ⟨wr.heap.size, 2, none⟩ = some (.int .i64 e3) := hPB.cellAt rfl
          have HOP := hid (own_below HOW.out hbp)
          have HBP := hid (hbel.trans (hbp.mono hbel.size))
          clear hPB hbp hbel
          have HN3 : Hid (Reads (wp.alloc (.cells #[.int .u8 (e1 % 256), .int .u8 (e2 % 256), .int .u8 (e3 % 256)] 5)) (wp.heap.size + 1) 1 (some ⟨wp.heap.size, 0, none⟩) 3 ([by1 e1, by1 e2, by1 e3].map bV)) := hid (by
            rw [HBY.out]
            exact Reads.new wp #[.int .u8 (e1 % 256), .int .u8 (e2 % 256), .int .u8 (e3 % 256)] 5 3 rfl)
          go_wp2_with (at_builtin; refine appB _ rfl (.tmp 70) (.tmp 80) rfl w1.heap.size Aq2 (n1 + 3 * k) cq2 cs rfl (HOP.out.alloc _) (wp.heap.size + 1) _ 3 3 [by1 e1, by1 e2, by1 e3] rfl HN3.out (by omega) (by have := HBP.out.size; simp; omega) ?_; intro A' c' w5 hown5 hg5 hb5)
          have HF := hid hown5
          have HB5 : Hid (Below w1.heap.size w1 w5) := hid ((HBP.out.alloc HBP.out.size _).trans hb5)
          clear hwp u0 u1 u2 m0 m1 m2 hown5 hg5 hb5 HN3 c2
          have hnn : n1 + 3 * k + 3 = n1 + 3 * (k + 1) := by omega
          rw [hnn] at HF ⊢
          go_roundw
          case rel => exact ⟨k + 1, A', c', by omega, by go_num, rfl, by rw [HNX.out, HEQ.out]; exact HF.out, HB5.out⟩
          case measure => simp [intOf]; omega
        · obtain rfl : k = wins.length := by omega
          have HFN2 := hid (show wr.ownsRow w1.heap.size 5 1 (.slice Aq2 (n1 + 3 * wins.length) cq2) (n1 + 3 * wins.length) (((HT ++ parts.flatMap partB) ++ wins.flatMap winBy).map bV) by have h9 := HOW.out; rw [List.take_length] at h9; exact h9)
          have HBN2 := hid HBEL.out
          clear HOW HBEL hbel hkn hk
          obtain ⟨n2, hn2⟩ : ∃ n2, n1 + 3 * wins.length = n2 := ⟨_, rfl⟩
          rw [hn2] at HFN2 ⊢
          have HNB2 := hid (show n2 ≤ 45 by omega)
          have hnb2 := HNB2.out
          clear hn2
          go_wp2_with fail
          have c3 := (HX1.out.belowS HBN2.out).cellAt (i := 3) rfl
          go_loopw [8, 3] (fun vC vB wr => ∃ (k : Nat) (A : Option Addr) (c : Nat), k ≤ chans.length ∧ vC = .int .i64 (k : Int) ∧ vB = .slice A (n2 + 3 * k) c ∧ wr.ownsRow w1.heap.size 5 1 (.slice A (n2 + 3 * k) c) (n2 + 3 * k) (((HT ++ parts.flatMap partB ++ wins.flatMap winBy) ++ (chans.take k).flatMap chanBy).map bV) ∧ Below w1.heap.size w1 wr) (fun vC _ _ => chans.length - (intOf vC).toNat)
          case atStart => exact ⟨0, Aq2, cq2, by omega, rfl, rfl, by simpa using HFN2.out, HBN2.out⟩
          case round =>
            obtain ⟨k, Aq3, cq3, hk, rfl, rfl, hown, hbel⟩ := hrel
            have HOW := hid hown
            have HBEL := hid hbel
            have c3 : wr.cell? ⟨w.heap.size, 3, none⟩ = some (.slice A3 chans.length k3) := (HX1.out.belowS hbel).cellAt rfl
            clear hown
            by_cases hkn : k < chans.length
            · have y0 : decide ((k : Int) < (chans.length : Int)) = true := decide_eq_true (by omega)
              have y0' : decide (k < chans.length) = true := decide_eq_true hkn
              have z0 : (0 : Int) ≤ (k : Int) := Int.natCast_nonneg _
              have z1 : (k : Int) < (chans.length : Int) := by omega
              obtain ⟨ad, x, hAx, had, hx, q0, qq⟩ := (HIN1.out.2.2.belowS hbel).at_ hkn
              have u0 := q0 _ rfl
              have u1 := qq 0 _ rfl
              have u2 := qq 1 _ rfl
              have HNX := hid (flat_take chanBy chans k x hx (HT ++ parts.flatMap partB ++ wins.flatMap winBy))
              have hmem := List.mem_of_getElem? hx
              have hq := HRT.out.cs x hmem
              have hq2 : 0 ≤ x.src ∧ x.src < 256 ∧ 0 ≤ x.dst ∧ x.dst < 256 ∧ 0 ≤ x.depth ∧ x.depth < 256 := by obtain ⟨a1, a2, a3, a4, a5, a6, a7⟩ := hq; simp only at a1 a2 a3 a4 a5 a6 a7; omega
              have HEQ := hid (chanBy_by hq2)
              have HBY : Hid ([by1 x.src, by1 x.dst, by1 x.depth].map bV = [.int .u8 (x.src % 256), .int .u8 (x.dst % 256), .int .u8 (x.depth % 256)]) := hid (by simp only [List.map_cons, List.map_nil]; rw [bV_by1 (by omega), bV_by1 (by omega), bV_by1 (by omega)])
              clear hq hq2
              clear q0 qq hx hmem
              obtain ⟨e1, e2, e3⟩ := x
              simp only at u0 u1 u2 HBY
              subst hAx
              generalize (HT ++ parts.flatMap partB ++ wins.flatMap winBy) ++ (chans.take k).flatMap chanBy = cs at *
              obtain ⟨wp, hwp, hPB, hbp⟩ : ∃ W : World, wr.alloc (.cells #[.int .i64 e1, .int .i64 e2, .int .i64 e3] 34) = W ∧ Blk W wr.heap.size 34 [.int .i64 e1, .int .i64 e2, .int .i64 e3] ∧ Below wr.heap.size wr W := ⟨_, rfl, Blk.new wr _ [.int .i64 e1, .int .i64 e2, .int .i64 e3], (Below.refl _ _).alloc (Nat.le_refl _) _⟩
              have m0 : wp.cell? ⟨wr.heap.size, 0, none⟩ = some (.int .i64 e1) := hPB.cellAt rfl
              have m1 : wp.cell? ⟨wr.heap.size, 1, none⟩ = some (.int .i64 e2) := hPB.cellAt rfl
              have m2 : wp.cell? ⟨wr.heap.size, 2, none⟩ = some (.int .i64 e3) := hPB.cellAt rfl
              have HOP := hid (own_below HOW.out hbp)
              have HBP := hid (hbel.trans (hbp.mono hbel.size))
              clear hPB hbp hbel
              have HN3 : Hid (Reads (wp.alloc (.cells #[.int .u8 (e1 % 256), .int .u8 (e2 % 256), .int .u8 (e3 % 256)] 5)) (wp.heap.size + 1) 1 (some ⟨wp.heap.size, 0, none⟩) 3 ([by1 e1, by1 e2, by1 e3].map bV)) := hid (by
                rw [HBY.out]
                exact Reads.new wp #[.int .u8 (e1 % 256), .int .u8 (e2 % 256), .int .u8 (e3 % 256)] 5 3 rfl)
              go_wp2_with (at_builtin; refine appB _ rfl (.tmp 94) (.tmp 104) rfl w1.heap.size Aq3 (n2 + 3 * k) cq3 cs rfl (HOP.out.alloc _) (wp.heap.size + 1) _ 3 3 [by1 e1, by1 e2, by1 e3] rfl HN3.out (by omega) (by have := HBP.out.size; simp; omega) ?_; intro A' c' w5 hown5 hg5 hb5)
              have HF := hid hown5
              have HB5 : Hid (Below w1.heap.size w1 w5) := hid ((HBP.out.alloc HBP.out.size _).trans hb5)
              clear hwp u0 u1 u2 m0 m1 m2 hown5 hg5 hb5 HN3 c3
              have hnn : n2 + 3 * k + 3 = n2 + 3 * (k + 1) := by omega
              rw [hnn] at HF ⊢
              go_roundw
              case rel => exact ⟨k + 1, A', c', by omega, by go_num, rfl, by rw [HNX.out, HEQ.out]; exact HF.out, HB5.out⟩
              case measure => simp [intOf]; omega
            · obtain rfl : k = chans.length := by omega
              have HFN3 := hid (show wr.ownsRow w1.heap.size 5 1 (.slice Aq3 (n2 + 3 * chans.length) cq3) (n2 + 3 * chans.length) (((HT ++ parts.flatMap partB ++ wins.flatMap winBy) ++ chans.flatMap chanBy).map bV) by have h9 := HOW.out; rw [List.take_length] at h9; exact h9)
              have HBN3 := hid HBEL.out
              clear HOW HBEL hbel hkn hk
              have HFIN := hid (show wr.ownsRow w1.heap.size 5 1 (.slice Aq3 (n2 + 3 * chans.length) cq3) (n2 + 3 * chans.length) (TBS.map bV) by rw [HTB.out]; exact HFN3.out)
              have hNL : TBS.length = n2 + 3 * chans.length := by have := HFIN.out.1; rw [List.length_map] at this; omega
              have HNL := hid hNL
              have HBE := hid (HBW1.out.trans (HBN3.out.mono (by omega)))
              clear hNL
              go_wp2_with fail
              go_ret
              rw [HNL.out]
              exact ⟨Aq3, cq3, rfl, own_mono HFIN.out (by omega), HBE.out⟩
end Go.Proofs.Ytbnodcenlggcnaa
