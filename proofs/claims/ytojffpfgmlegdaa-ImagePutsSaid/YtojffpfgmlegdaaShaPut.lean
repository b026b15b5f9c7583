/-
  Package sha: a byte, and bytes, written.
-/
import Derived.Test.YtojffpfgmlegdaaShaFull
namespace Go.Proofs.Ytojffpfgmlegdaa
open Go.RowKit

theorem sh_grown_trans {a b c : World} {g : Nat} (h : a.grownBy b (some g)) (k : b.grownBy c (some g)) : a.grownBy c (some g) :=
  ⟨k.os.trans h.os, k.tape.trans h.tape, k.output.trans h.output, Nat.le_trans h.size k.size, fun i hi hn => (k.block i (Nat.lt_of_lt_of_le hi h.size) hn).trans (h.block i hi hn)⟩
theorem shaC_n (s : ShS) (hp : s.part.length = 64) : (shaC s)[72]? = some (.int .i64 (s.n : Int)) := by
  unfold shaC
  rw [List.getElem?_append_right (by simp [hp])]
  simp [hp]
theorem shaC_setPart (s : ShS) (i : Nat) (c : UInt8) (h : i < s.part.length) : (shaC s).set (8 + i) (bV c) = shaC ⟨s.v, s.part.set i c, s.n⟩ := by
  unfold shaC
  rw [List.set_append_left _ _ (by simp; omega), List.set_append_right _ _ (by simp)]
  simp [List.map_set]
theorem shaC_setN (s : ShS) (hp : s.part.length = 64) (n : Nat) : (shaC s).set 72 (.int .i64 (n : Int)) = shaC ⟨s.v, s.part, n⟩ := by
  unfold shaC
  rw [List.set_append_right _ _ (by simp [hp])]
  simp [hp]
set_option maxHeartbeats 1000000 in
theorem sh_put_any (g : Nat) (s : ShS) (c : UInt8) (w : World) (h : Blk w g 62 (shaC s)) (hp : s.part.length = 64) (hn : s.n ≤ 100000000000) :
    Calls Try.prog 33 #[.pointer (some ⟨g, 0, none⟩), bV c] w fun e w' => e = .returned (.tuple #[]) ∧ Blk w' g 62 (shaC (s.put c)) ∧ w.grownBy w' (some g) := by
  obtain ⟨v, part, n⟩ := s
  simp only at hp hn
  obtain ⟨m, hm0⟩ : ∃ m, n % 64 = m := ⟨_, rfl⟩
  have HP : Hid ((ShS.mk v part n).put c = if (n + 1) % 64 = 0 then ⟨fullV (part.set m c) v, part.set m c, n + 1⟩ else ⟨v, part.set m c, n + 1⟩) := hid (by rw [← hm0]; rfl)
  generalize (ShS.mk v part n).put c = S2 at *
  have hl : m < part.length := by omega
  have hm64 : m < 64 := by omega
  have hm : (n : Int) % 64 = (m : Int) := by omega
  have hmt : (n : Int).tmod 64 = (m : Int) := by rw [Int.tmod_eq_emod_of_nonneg (by omega)]; exact hm
  have HM := hid hm0
  clear hm0
  obtain ⟨x, hx⟩ : ∃ x, part[m]? = some x := ⟨_, List.getElem?_eq_getElem hl⟩
  have c1 : w.cell? ⟨g, 8 + m, none⟩ = some (bV x) := h.cellAt (by rw [shaC_part _ _ hl, hx]; rfl)
  have c2 : w.cell? ⟨g, 72, none⟩ = some (.int .i64 (n : Int)) := h.cellAt (shaC_n _ hp)
  have f1 := h.frozen (8 + m)
  have h1 := h.set_ (8 + m) (bV c)
  rw [shaC_setPart _ _ c hl] at h1
  have hG1 := sh_grown_set (sh_grown_below (g := g) (Below.refl w.heap.size w)) (8 + m) (bV c)
  have h2 := h1.set_ 72 (.int .i64 ((n + 1 : Nat) : Int))
  rw [shaC_setN _ (by simpa using hp)] at h2
  have hG2 := sh_grown_set hG1 72 (.int .i64 ((n + 1 : Nat) : Int))
  have d2 := h1.cellAt (shaC_n _ (by simpa using hp))
  have f2 := h1.frozen 72
  have e2 := h2.cellAt (shaC_n _ (by simpa using hp))
  have hq := hid (fun w h => sh_full_any g ⟨v, part.set m c, n + 1⟩ w h (by simpa using hp))
  simp only at d2 f2 e2 h1 h2
  have H1 := hid h1
  have H2 := hid h2
  have HG1 := hid hG1
  have HG2 := hid hG2
  have HLN := hid hp
  clear h1 h2 hG1 hG2 h hx hl hp
  go_enter Try.func33, Try.ntmps33
  go_wp2_with fail
  go_region
  clear d2 f2 e2 H2 HG2 c1 c2 f1
  obtain ⟨w1, hw1, K1, KG⟩ : ∃ w1, (w.setCell ⟨g, 8 + m, none⟩ (bV c)).drew = w1 ∧ Blk w1 g 62 (shaC ⟨v, part.set m c, n⟩) ∧ w.grownBy w1 (some g) := ⟨_, rfl, H1.out.drew, ⟨HG1.out.os, HG1.out.tape, HG1.out.output, HG1.out.size, HG1.out.block⟩⟩
  rw [hw1]
  clear hw1 H1 HG1
  have d2 := K1.cellAt (shaC_n ⟨v, part.set m c, n⟩ (by simpa using HLN.out))
  simp only at d2
  have f2 := K1.frozen 72
  have h2 := K1.set_ 72 (.int .i64 ((n + 1 : Nat) : Int))
  rw [shaC_setN _ (by simpa using HLN.out)] at h2
  have hG2 := sh_grown_set KG 72 (.int .i64 ((n + 1 : Nat) : Int))
  simp only at h2
  rw [show ((n + 1 : Nat) : Int) = (n : Int) + 1 by omega] at h2 hG2
  obtain ⟨w2, hw2, K2, KG2⟩ : ∃ w2, w1.setCell ⟨g, 72, none⟩ (.int .i64 ((n : Int) + 1)) = w2 ∧ Blk w2 g 62 (shaC ⟨v, part.set m c, n + 1⟩) ∧ w.grownBy w2 (some g) := ⟨_, rfl, h2, hG2⟩
  have e2 := K2.cellAt (shaC_n ⟨v, part.set m c, n + 1⟩ (by simpa using HLN.out))
  simp only at e2
  have L2 := hid K2
  have LG2 := hid KG2
  clear h2 hG2 K1 KG K2 KG2 hm hmt
  by_cases hz : (n + 1) % 64 = 0
  · have t1 : ((((n + 1 : Nat) : Int) % 64) == 0) = true := by simp only [beq_iff_eq]; omega
    have t2 : ((((n : Int) + 1) % 64) == 0) = true := by simp only [beq_iff_eq]; omega
    have e3 : w2.cell? ⟨g, 72, none⟩ = some (.int .i64 ((n : Int) + 1)) := by rw [e2]; simp
    have HZ := hid hz
    clear hz e2
    go_wp2_with fail
    refine (hq.out _ L2.out).mono ?_
    rintro e w3 ⟨rfl, K3, G3⟩
    go_wp2_with fail
    go_end0
    exact ⟨rfl, by rw [HP.out, if_pos HZ.out]; exact K3, sh_grown_trans LG2.out G3⟩
  · have t1 : ((((n + 1 : Nat) : Int) % 64) == 0) = false := by simp only [beq_eq_false_iff_ne]; omega
    have t2 : ((((n : Int) + 1) % 64) == 0) = false := by simp only [beq_eq_false_iff_ne]; omega
    have e3 : w2.cell? ⟨g, 72, none⟩ = some (.int .i64 ((n : Int) + 1)) := by rw [e2]; simp
    have HZ := hid hz
    clear hz e2
    go_wp2_with fail
    go_end0
    exact ⟨rfl, by rw [HP.out, if_neg HZ.out]; exact L2.out, LG2.out⟩
theorem sh_write_any (g : Nat) (s : ShS) (A : Option Addr) (l c : Nat) (bs : List UInt8) (w : World) (h : Blk w g 62 (shaC s)) (hp : s.part.length = 64) (hr : Reads w w.heap.size 1 A l (bs.map bV)) (hn : s.n + l ≤ 100000000000)
    (hA : ∀ ad, A = some ad → 0 < l → ad.block ≠ g) :
    Calls Try.prog 17 #[.pointer (some ⟨g, 0, none⟩), .slice A l c] w fun e w' => e = .returned (.tuple #[]) ∧ Blk w' g 62 (shaC (s.write bs)) ∧ w.grownBy w' (some g) := by
  have hl : bs.length = l := by simpa using hr.len
  have HL := hid hl
  have HP := hid hp
  have HN := hid hn
  have hl2 : l ≤ 100000000000 := by omega
  clear hl hp hn
  have hfar := hid hA
  clear hA
  go_enter Try.func17, Try.ntmps17
  go_wp2_with fail
  go_loopw [10] (fun v10 wr => ∃ k : Nat, k ≤ l ∧ v10 = .int .i64 (k : Int) ∧ Blk wr g 62 (shaC (s.write (bs.take k))) ∧ w.grownBy wr (some g)) (fun v10 _ => l - (intOf v10).toNat)
  case atStart => exact ⟨0, by omega, rfl, h, sh_grown_below (Below.refl _ _)⟩
  case round =>
    obtain ⟨k, hk, rfl, hblk, hgr⟩ := hrel
    by_cases hkl : k < l
    · obtain ⟨ad, b, rfl, hab, hb, hcell⟩ := hr.atM hkl
      have hc2 : wr.cell? (ad.add k) = some (bV b) := by
        rw [← hcell]
        exact World.cell?_of_block (hgr.block _ (by rw [block_add]; exact hab) (fun e => by injection e with e; rw [block_add] at e; exact hfar.out ad rfl (by omega) e))
      have HS : Hid (s.write (bs.take (k + 1)) = (s.write (bs.take k)).put b) := hid (by rw [List.take_add_one, hb, sh_write_append]; rfl)
      have hq := hid (sh_put_any g (s.write (bs.take k)) b wr hblk (by rw [sh_write_len]; exact HP.out) (by rw [sh_write_n, List.length_take]; have := HN.out; omega))
      rw [← HS.out] at hq
      clear hb hcell hblk h hr
      obtain ⟨S2, hS2⟩ : ∃ S2, s.write (bs.take (k + 1)) = S2 := ⟨_, rfl⟩
      rw [hS2] at hq
      have HS2 := hid hS2
      clear hS2
      go_wp2_with fail
      refine hq.out.mono ?_
      rintro e w2 ⟨rfl, hb2, hg2⟩
      go_wp2_with fail
      go_roundw
      case rel => exact ⟨k + 1, by omega, by go_num, by rw [HS2.out]; exact hb2, sh_grown_trans hgr hg2⟩
      case measure => simp [intOf]; omega
    · obtain rfl : k = l := by omega
      rw [List.take_of_length_le (by have := HL.out; omega)] at hblk
      go_wp2_with fail
      go_end0
      exact ⟨rfl, hblk, hgr⟩
theorem sh_write_nil (A : Option Addr) (l c : Nat) (w : World) :
    Calls Try.prog 17 #[.pointer none, .slice A l c] w fun e w' => e = .returned (.tuple #[]) ∧ w = w' := by
  go_enter Try.func17, Try.ntmps17
  go_wp2_with fail
  refine bodyPost_ret (v := .tuple #[]) (by simp [results, Try.results17, go_sem]) rfl ?_
  exact ⟨rfl, rfl⟩
theorem sh_long_any (g : Nat) (s : ShS) (w : World) (h : Blk w g 62 (shaC s)) (hp : s.part.length = 64) :
    Calls Try.prog 19 #[.pointer (some ⟨g, 0, none⟩)] w fun e w' => e = .returned (.int .i64 (s.n : Int)) ∧ w = w' := by
  have c := h.cellAt (shaC_n s hp)
  clear h
  go_enter Try.func19, Try.ntmps19
  go_wp2_with fail
  go_ret
  exact ⟨rfl, rfl⟩
theorem sh_long_nil (w : World) : Calls Try.prog 19 #[.pointer none] w fun e w' => e = .returned (.int .i64 0) ∧ w = w' := by
  go_enter Try.func19, Try.ntmps19
  go_wp2_with fail
  go_ret
  exact ⟨rfl, rfl⟩
end Go.Proofs.Ytojffpfgmlegdaa
