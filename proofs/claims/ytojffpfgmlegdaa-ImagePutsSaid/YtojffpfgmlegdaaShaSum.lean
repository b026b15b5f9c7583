/-
  Package sha: the digest so far.
-/
import Derived.Test.YtojffpfgmlegdaaShaPut
import Derived.Test.YtojffpfgmlegdaaShaPl3
namespace Go.Proofs.Ytojffpfgmlegdaa
open Go.RowKit

def zero32A : Array Value := ((List.replicate 32 (0 : UInt8)).map bV).toArray
theorem zero32A_size : zero32A.size = 32 := by simp [zero32A]
theorem zero32A_run (w : World) : (zeroValue 24).run Try.prog w = .ok (.agg zero32A) w := by kernel_rfl
theorem sh_info32 (l : List Value) (h : l.length = 32) : (Try.prog.info? 24).map (·.size) = some l.toArray.size := by
  have : (Try.prog.info? 24).map (·.size) = some 32 := by kernel_rfl
  rw [this]
  simp [h]
theorem oneCell_by (l : List UInt8) : (l.map bV).toArray.all (·.oneCell') = true := by
  rw [Array.all_eq_true_iff_forall_mem]
  intro v hv
  simp at hv
  obtain ⟨b, _, rfl⟩ := hv
  rfl
theorem sh_blk_new2 (w : World) (o : Obj) (t : TypeId) (cs : List Value) : Blk ((w.alloc o).alloc (.cells cs.toArray t)) (w.heap.size + 1) t cs := by
  have h := Blk.new (w.alloc o) t cs
  have e : (w.alloc o).heap.size = w.heap.size + 1 := by
    show (w.heap.push o).size = _
    simp
  rw [e] at h
  exact h
set_option maxHeartbeats 1000000 in
theorem sh_sum_none (w : World) :
    Calls Try.prog 18 #[.pointer none] w fun e w' => e = .returned (.agg ((List.replicate 32 0).map bV).toArray) ∧ Below w.heap.size w w' := by
  have hz := zero32A_run
  have hzs := zero32A_size
  obtain ⟨w2, hw2, hb2, hblk0, hblk1⟩ : ∃ w2 : World, (w.alloc (.cells zero32A 24)).alloc (.cells zero32A 24) = w2 ∧ Below w.heap.size w w2 ∧ Blk w2 w.heap.size 24 ((List.replicate 32 (0 : UInt8)).map bV) ∧ Blk w2 (w.heap.size + 1) 24 ((List.replicate 32 (0 : UInt8)).map bV) := by
    exact ⟨_, rfl, ((Below.refl _ _).alloc (Nat.le_refl _) _).alloc (by simp) _, (Blk.new w _ ((List.replicate 32 (0 : UInt8)).map bV)).alloc _, sh_blk_new2 w _ _ _⟩
  have H0 := hid hblk0
  have H1 := hid hblk1
  have HB := hid hb2
  clear hblk0 hblk1 hb2
  go_enter Try.func18, Try.ntmps18
  go_wp2_with (first
    | (refine wpList_load_row rfl 24 _ rfl (w.heap.size + 1) rfl 24 ((List.replicate 32 (0 : UInt8)).map bV).toArray (0, 0) _ H1.out Try.underlying24 rfl (sh_info32 _ (by simp)) ?_)
    | (refine wpList_store_row rfl 24 _ _ rfl w.heap.size ((List.replicate 32 (0 : UInt8)).map bV).toArray rfl rfl 24 _ H0.out (sh_info32 _ (by simp)) rfl (oneCell_by _) ?_))
  have hrow := setRow_heap w2 w.heap.size ((List.replicate 32 (0 : UInt8)).map bV).toArray ((List.replicate 32 (0 : UInt8)).map bV).toArray 24 (0, 0) H0.out
  refine bodyPost_ret (v := .agg ((List.replicate 32 (0 : UInt8)).map bV).toArray) (results_cell_row (P := Try.prog) (fn := Try.f18) (p := 2) (ty := 24) (by rfl) _ _ w.heap.size 24 ((List.replicate 32 (0 : UInt8)).map bV).toArray (0, 0) _ (by rfl) hrow Try.underlying24 (by rfl) (sh_info32 _ (by simp))) rfl ?_
  exact ⟨rfl, below_setRow HB.out _ _ (Nat.le_refl _)⟩

theorem sh_info73 (s : ShS) (hp : s.part.length = 64) : (Try.prog.info? 62).map (·.size) = some (shaC s).toArray.size := by
  have : (Try.prog.info? 62).map (·.size) = some 73 := by kernel_rfl
  rw [this]
  simp [shaC, hp]
theorem oneCell_h (s : ShS) : (shaC s).toArray.all (·.oneCell') = true := by
  rw [Array.all_eq_true_iff_forall_mem]
  intro v hv
  simp [shaC] at hv
  rcases hv with rfl | rfl | rfl | rfl | rfl | rfl | rfl | rfl | ⟨b, _, rfl⟩ | rfl <;> rfl
def zeroHA : Array Value := (shaC ⟨⟨0, 0, 0, 0, 0, 0, 0, 0⟩, List.replicate 64 0, 0⟩).toArray
theorem zeroHA_size : zeroHA.size = 73 := by simp [zeroHA, shaC]
theorem zeroHA_run (w : World) : (zeroValue 62).run Try.prog w = .ok (.agg zeroHA) w := by kernel_rfl
/-- The number of bytes that a digest at a place has taken. -/
def nAt (w : World) (g : Nat) : Nat := match w.cell? ⟨g, 72, none⟩ with | some (.int _ n) => n.toNat | _ => 0
theorem nAt_of {w : World} {g : Nat} {s : ShS} (h : Blk w g 62 (shaC s)) (hp : s.part.length = 64) : nAt w g = s.n := by
  unfold nAt
  rw [h.cellAt (shaC_n s hp)]
  simp

set_option maxRecDepth 20000 in
set_option maxHeartbeats 2000000 in
theorem sh_sum_any (g : Nat) (s : ShS) (w : World) (h : Blk w g 62 (shaC s)) (hp : s.part.length = 64) (hn : s.n ≤ 10000000000) :
    Calls Try.prog 18 #[.pointer (some ⟨g, 0, none⟩)] w fun e w' => e = .returned (.agg (s.sum.map bV).toArray) ∧ Below w.heap.size w w' := by
  have hz := zero32A_run
  have hzs := zero32A_size
  have hy := zeroHA_run
  have hys := zeroHA_size
  obtain ⟨w2, hw2, hsz2, hb2, hblk0, hblk1⟩ : ∃ w2 : World, (w.alloc (.cells zero32A 24)).alloc (.cells zero32A 24) = w2 ∧ w2.heap.size = w.heap.size + 1 + 1 ∧ Below w.heap.size w w2 ∧ Blk w2 w.heap.size 24 ((List.replicate 32 (0 : UInt8)).map bV) ∧ Blk w2 (w.heap.size + 1) 24 ((List.replicate 32 (0 : UInt8)).map bV) := by
    exact ⟨_, rfl, by simp, ((Below.refl _ _).alloc (Nat.le_refl _) _).alloc (by simp) _, (Blk.new w _ ((List.replicate 32 (0 : UInt8)).map bV)).alloc _, sh_blk_new2 w _ _ _⟩
  have hg := h.lt
  have hB2 := h.belowS hb2
  obtain ⟨w3, hw3, hsz3, hb3, hblkx⟩ : ∃ w3 : World, w2.alloc (.cells (shaC s).toArray 62) = w3 ∧ w3.heap.size = w2.heap.size + 1 ∧ Below w2.heap.size w2 w3 ∧ Blk w3 w2.heap.size 62 (shaC s) :=
    ⟨_, rfl, by simp, (Below.refl _ _).alloc (Nat.le_refl _) _, Blk.new w2 _ _⟩
  have H0 := hid (hblk0.belowS hb3)
  have H1 := hid (hblk1.belowS hb3)
  have HX := hid hblkx
  have HG2 := hid hB2
  have HG := hid h
  have HW3 := hid hw3
  have HP := hid hp
  have HN := hid hn
  have HBB := hid (hb2.trans (hb3.mono (by omega)))
  have HSZ := hid (And.intro hsz2 hsz3)
  clear hblk0 hblk1 hblkx hB2 h hw3 hp hn hb2 hb3 hsz2 hsz3
  go_enter Try.func18, Try.ntmps18
  go_wp2_with (first
    | (refine wpList_load_row rfl 62 _ rfl g rfl 62 (shaC s).toArray (0, 0) _ HG2.out Try.underlying62 rfl (sh_info73 s HP.out) ?_)
    | (refine wpList_store_row rfl 62 _ _ rfl w2.heap.size (shaC s).toArray rfl rfl 62 zeroHA (heap_alloc_new w2 _) (sh_info73 s HP.out) (by rw [zeroHA_size]; simp [shaC, HP.out]) (oneCell_h s) ?_; rw [World.setRow_alloc_new, HW3.out]))
  clear hz hzs hy hys hw2
  have hsz2 := HSZ.out.1
  have hsz3 := HSZ.out.2
  generalize hgx : w2.heap.size = gx at *
  obtain ⟨r0, hr0⟩ : ∃ r0, w.heap.size = r0 := ⟨_, rfl⟩
  rw [hr0] at hsz2 H0 H1 HBB hg ⊢
  have HR0 := hid hr0
  have HSX := hid (And.intro hsz2 hsz3)
  have hgx0 : r0 < gx := by omega
  have hgx1 : r0 + 1 < gx := by omega
  have hggx : g ≠ gx := by omega
  clear hsz2 hsz3 hr0 hgx
  refine (sh_put_any gx s 128 w3 HX.out HP.out (by have := HN.out; omega)).mono ?_
  rintro e w4 ⟨rfl, hb4, hG4⟩
  obtain ⟨s1, hs1⟩ : ∃ s1, s.put 128 = s1 := ⟨_, rfl⟩
  rw [hs1] at hb4
  have hp1 : s1.part.length = 64 := by rw [← hs1, sh_put_len]; exact HP.out
  have hn1 : s1.n = s.n + 1 := by rw [← hs1, sh_put_n]
  have HS1 := hid hs1
  have HP1 := hid hp1
  have HN1 := hid hn1
  have hgw3 : gx < w3.heap.size := HX.out.lt
  have hg3 : g < w3.heap.size := by omega
  clear hs1 hp1 hn1
  go_wp2_with fail
  go_loopw [16] (fun _ wr => ∃ (j : Nat) (S : ShS), j ≤ zerosTo s1.n ∧ Blk wr gx 62 (shaC S) ∧ S.part.length = 64 ∧ S.n = s1.n + j ∧ S.pad (64 - j) = s1.pad 64 ∧ w3.grownBy wr (some gx)) (fun _ wr => s1.n + zerosTo s1.n - nAt wr gx)
  case atStart => exact ⟨0, s1, Nat.zero_le _, hb4, HP1.out, rfl, rfl, hG4⟩
  case round =>
    clear hb4 hG4
    obtain ⟨j, S, hj, hblk, hpS, hnS, hpad, hG⟩ := hrel
    have hzl := zerosTo_lt s1.n
    have hze := zerosTo_end s1.n
    have hsn := HN1.out
    have hsb := HN.out
    have cN := hblk.cellAt (shaC_n S hpS)
    have hnm := nAt_of hblk hpS
    obtain ⟨q, hq⟩ : ∃ q, S.n = q := ⟨_, rfl⟩
    rw [hq] at cN hnm hnS
    have hq0 : q ≤ 10000000100 := by omega
    by_cases h56 : q % 64 = 56
    · have t1 : (((q : Int) % 64) != 56) = false := by
        have : (q : Int) % 64 = 56 := by omega
        rw [this]; rfl
      have t2 : (((q : Int) % 64) == 56) = true := by
        have : (q : Int) % 64 = 56 := by omega
        rw [this]; rfl
      have hS2 : S = s1.pad 64 := by
        rw [← hpad]
        obtain ⟨m, hm⟩ : ∃ m, 64 - j = m + 1 := ⟨63 - j, by omega⟩
        rw [hm, sh_pad_done S m (by rw [hq]; exact h56)]
      have HS2 := hid hS2
      have HB2 := hid hblk
      have HGG := hid hG
      have HPS := hid hpS
      have HQ := hid (And.intro hq hnS)
      clear hS2 hblk hG hpS hq hnS hpad hnm hze hsn h56 hj
      go_wp2_with fail
      obtain ⟨wo, rfl⟩ : ∃ wo : World, wo = wr := ⟨_, rfl⟩
      obtain ⟨N, hN⟩ : ∃ N, s.n = N := ⟨_, rfl⟩
      have HNN := hid hN
      have hN0 : N ≤ 10000000000 := by rw [← hN]; exact HN.out
      clear hN t1 t2 hsb cN
      go_loopw [5] (fun v5 wr => ∃ (j : Nat) (sh : Int), j ≤ 8 ∧ v5 = .int .i64 sh ∧ Hid (sh = 56 - 8 * (j : Int)) ∧ Blk wr gx 62 (shaC (S.write ((long8 N).take j))) ∧ w3.grownBy wr (some gx)) (fun v5 _ => (intOf v5 + 8).toNat)
      case atStart => exact ⟨0, 56, by omega, rfl, hid (by omega), HB2.out, HGG.out⟩
      case round =>
        clear HB2 HGG
        obtain ⟨j2, sh, hj2, rfl, HSH, hblk, hG⟩ := hrel
        have hsh := HSH.out
        by_cases hj8 : j2 < 8
        · have hs0 : 0 ≤ sh := by omega
          have hs56 : sh ≤ 56 := by omega
          have t3 : decide (0 ≤ sh) = true := by simp; omega
          obtain ⟨c, hc⟩ : ∃ c, (long8 N)[j2]? = some c := ⟨_, long8_get N j2 hj8⟩
          have hcv : (N : Int) * 8 / 2 ^ sh.toNat % 256 = (c.toNat : Int) := by
            have h := long8_get N j2 hj8
            rw [hc] at h
            injection h with h
            rw [h, show sh.toNat = 56 - 8 * j2 by omega, UInt8.toNat_ofNat']
            push_cast
            rfl
          have hTK : Hid (S.write ((long8 N).take (j2 + 1)) = (S.write ((long8 N).take j2)).put c) := hid (by
            rw [List.take_add_one, hc]; exact sh_write_snoc _ _ _)
          have hpw : (S.write ((long8 N).take j2)).part.length = 64 := by rw [sh_write_len]; exact HPS.out
          have hnw : (S.write ((long8 N).take j2)).n ≤ 100000000000 := by
            rw [sh_write_n, List.length_take, HQ.out.1]; omega
          have hput := hid (sh_put_any gx _ c wr hblk hpw hnw)
          rw [← hTK.out] at hput
          obtain ⟨S3, hS3⟩ : ∃ S3, S.write ((long8 N).take (j2 + 1)) = S3 := ⟨_, rfl⟩
          rw [hS3] at hput
          have HS3 := hid hS3
          have cg : wr.cell? ⟨g, 72, none⟩ = some (.int .i64 (N : Int)) := by
            rw [World.cell?_of_block (hG.block g hg3 (fun e => by injection e with e; exact hggx e))]
            rw [← HNN.out]
            have hh := (HG.out.below HBB.out hg)
            exact hh.cellAt (shaC_n s HP.out)
          have hp1 : (0 : Int) < 2 ^ sh.toNat := Int.pow_pos (by omega)
          clear hsh hS3 hc hblk hpw hnw
          go_wp2_with fail
          refine hput.out.mono ?_
          rintro e w5 ⟨rfl, hb5, hG5⟩
          go_wp2_with fail
          go_roundw
          case rel => exact ⟨j2 + 1, sh - 8, by omega, rfl, hid (by have := HSH.out; omega), by rw [HS3.out]; exact hb5, sh_grown_trans hG hG5⟩
          case measure => simp [intOf]; omega
        · obtain rfl : j2 = 8 := by omega
          have t3 : decide (0 ≤ sh) = false := by simp; omega
          rw [List.take_of_length_le (by rw [long8_len]; exact Nat.le_refl _)] at hblk
          have HSUM : Hid (s.sum = sumL (S.write (long8 N)).v) := hid (by rw [sum_eq, HS1.out, ← HS2.out, HNN.out])
          have hb0 := (H0.out).grown hG (by intro e; injection e with e; omega)
          have hb1 := (H1.out).grown hG (by intro e; injection e with e; omega)
          have hbel := HBB.out.grown hG (by omega) (fun k hk => by injection hk with hk; omega)
          obtain ⟨c0, c1, c2, c3, c4, c5, c6, c7⟩ : _ ∧ _ ∧ _ ∧ _ ∧ _ ∧ _ ∧ _ ∧ _ := ⟨hblk.cellAt (i := 0) rfl, hblk.cellAt (i := 1) rfl, hblk.cellAt (i := 2) rfl, hblk.cellAt (i := 3) rfl, hblk.cellAt (i := 4) rfl, hblk.cellAt (i := 5) rfl, hblk.cellAt (i := 6) rfl, hblk.cellAt (i := 7) rfl⟩
          generalize (S.write (long8 N)).v = V at *
          have HB0 := hid hb0
          have HB1 := hid hb1
          have HBL := hid hbel
          clear hblk hG hsh hb0 hb1 hbel
          go_wp2_with fail
          clear c0 c1 c2 c3 c4 c5 c6 c7
          obtain ⟨wo, rfl⟩ : ∃ wo : World, wo = wr := ⟨_, rfl⟩
          go_loopw [60] (fun v60 wr => ∃ i : Nat, i ≤ 8 ∧ v60 = .int .i64 (i : Int) ∧ Blk wr (r0 + 1) 24 ((layB (sumL V) (4 * i)).map bV) ∧ Blk wr r0 24 ((List.replicate 32 (0 : UInt8)).map bV) ∧ Below r0 w wr) (fun v60 _ => 8 - (intOf v60).toNat)
          case atStart => exact ⟨0, by omega, rfl, by rw [Nat.mul_zero, layB_zero]; exact HB1.out, HB0.out, HBL.out⟩
          case round =>
            clear HB0 HB1 HBL
            obtain ⟨i, hi, rfl, hb1, hb0, hbel⟩ := hrel
            by_cases hi8 : i < 8
            · have hdi : decide ((i : Int) < 8) = true := by simp; omega
              have hidx := sh_idx8 V.list rfl i hi8
              have HGET := hid (fun k hk => sumL_get V i k hi8 hk)
              generalize V.list.getD i 0 = x at *
              have h1 : V.list.map wV = [wV V.a, wV V.b, wV V.c, wV V.d, wV V.e, wV V.f, wV V.g, wV V.h] := rfl
              rw [h1] at hidx
              clear h1
              have K1 := hid hb1
              have K0 := hid hb0
              have KB := hid hbel
              clear hb1 hb0 hbel
              go_wp2_with fail
              clear hidx
              obtain ⟨wq, rfl⟩ : ∃ wq : World, wq = wr := ⟨_, rfl⟩
              go_loopw [64] (fun v64 wr => ∃ k : Nat, k ≤ 4 ∧ v64 = .int .i64 (k : Int) ∧ Blk wr (r0 + 1) 24 ((layB (sumL V) (4 * i + k)).map bV) ∧ Blk wr r0 24 ((List.replicate 32 (0 : UInt8)).map bV) ∧ Below r0 w wr) (fun v64 _ => 4 - (intOf v64).toNat)
              case atStart => exact ⟨0, by omega, rfl, K1.out, K0.out, KB.out⟩
              case round =>
                clear K0 K1 KB
                obtain ⟨k, hk, rfl, hb1, hb0, hbel⟩ := hrel
                by_cases hk4 : k < 4
                · obtain ⟨c, hc⟩ : ∃ c, UInt8.ofNat (x.toNat / 2 ^ (24 - 8 * k)) = c := ⟨_, rfl⟩
                  have hgc := HGET.out k hk4
                  rw [hc] at hgc
                  have hcv : (x.toNat : Int) / 2 ^ (24 - 8 * (k : Int)).toNat % 256 = (c.toNat : Int) := by
                    rw [← hc, show (24 - 8 * (k : Int)).toNat = 24 - 8 * k by omega, UInt8.toNat_ofNat']
                    push_cast
                    rfl
                  have hcv2 : (x.toNat : Int) / 2 ^ (24 - 8 * k) % 256 = (c.toNat : Int) := by
                    rw [← hcv, show (24 - 8 * (k : Int)).toNat = 24 - 8 * k by omega]
                  have i1 : (0 : Int) ≤ 24 - 8 * (k : Int) := by omega
                  have i2 : 24 - 8 * (k : Int) ≤ 32 := by omega
                  obtain ⟨j, hj⟩ : ∃ j, 4 * i + k = j := ⟨_, rfl⟩
                  have hji : 4 * (i : Int) + (k : Int) = (j : Int) := by omega
                  have hj0 : (0 : Int) ≤ (j : Int) := by omega
                  have hj32 : (j : Int) < 32 := by omega
                  have hjn : j < 32 := by omega
                  rw [hj] at hgc hb1
                  have hset := layB_set (sumL V) j c (sumL_len V) hjn hgc
                  have hcell : wr.cell? ⟨r0 + 1, j, none⟩ = some (bV ((layB (sumL V) j).getD j 0)) := hb1.cellAt (by
                    have : j < (layB (sumL V) j).length := by rw [layB_len _ _ (sumL_len V) (by omega)]; exact hjn
                    rw [List.getElem?_map, List.getD_eq_getElem?_getD, List.getElem?_eq_getElem this]; rfl)
                  have hfr := hb1.frozen j
                  have hs1 := hb1.set_ j (bV c)
                  rw [← List.map_set, hset] at hs1
                  have hs0 := hb0.far (p := ⟨r0 + 1, j, none⟩) (by simp) (bV c)
                  have hsb' := hbel.setCell (p := ⟨r0 + 1, j, none⟩) (Nat.le_succ r0) (bV c)
                  have HS1' := hid hs1
                  have HS0' := hid hs0
                  have HSB' := hid hsb'
                  have HJ := hid hj
                  clear hc hgc hset hs1 hs0 hsb' hb1 hb0 hbel hj
                  go_wp2_with fail
                  go_roundw
                  case rel => exact ⟨k + 1, by omega, by go_num, by rw [show 4 * i + (k + 1) = j + 1 by have := HJ.out; omega]; exact HS1'.out, HS0'.out, HSB'.out⟩
                  case measure => simp [intOf]; omega
                · obtain rfl : k = 4 := by omega
                  rw [show 4 * i + 4 = 4 * (i + 1) by omega] at hb1
                  go_wp2_with fail
                  go_roundw
                  case rel => exact ⟨i + 1, by omega, by go_num, hb1, hb0, hbel⟩
                  case measure => simp [intOf]; omega
            · obtain rfl : i = 8 := by omega
              rw [show 4 * 8 = 32 from rfl, layB_all _ (sumL_len V), ← HSUM.out] at hb1
              have hsl : s.sum.length = 32 := by rw [HSUM.out]; rfl
              have HSL := hid hsl
              obtain ⟨SU, hSU⟩ : ∃ SU, s.sum = SU := ⟨_, rfl⟩
              rw [hSU] at hb1 HSL
              have HU := hid hSU
              have K1 := hid hb1
              have K0 := hid hb0
              have KB := hid hbel
              clear hb1 hb0 hbel hsl hSU HSUM
              go_wp2_with (first
                | (refine wpList_load_row rfl 24 _ rfl (r0 + 1) rfl 24 (SU.map bV).toArray (0, 0) _ K1.out Try.underlying24 rfl (sh_info32 _ (by simp [HSL.out])) ?_)
                | (refine wpList_store_row rfl 24 _ _ rfl r0 (SU.map bV).toArray rfl rfl 24 _ K0.out (sh_info32 _ (by simp [HSL.out])) (by simp [HSL.out]) (oneCell_by _) ?_))
              have hrow := setRow_heap wr r0 _ (SU.map bV).toArray 24 (0, 0) K0.out
              refine bodyPost_ret (v := .agg (SU.map bV).toArray) (results_cell_row (P := Try.prog) (fn := Try.f18) (p := 2) (ty := 24) (by rfl) _ _ r0 24 (SU.map bV).toArray (0, 0) _ (by rfl) hrow Try.underlying24 (by rfl) (sh_info32 _ (by simp [HSL.out]))) rfl ?_
              rw [HU.out, HR0.out]
              exact ⟨rfl, below_setRow KB.out _ _ (Nat.le_refl _)⟩
    · have t1 : (((q : Int) % 64) != 56) = true := by
        simp only [bne_iff_ne]; omega
      have t2 : (((q : Int) % 64) == 56) = false := by
        simp only [beq_eq_false_iff_ne]; omega
      have hjz : j < zerosTo s1.n := by
        rcases Nat.lt_or_ge j (zerosTo s1.n) with h | h
        · exact h
        · exfalso; apply h56; rw [hnS, show j = zerosTo s1.n by omega]; exact hze
      have HPAD : Hid ((S.put 0).pad (64 - (j + 1)) = s1.pad 64) := hid (by
        rw [← hpad, show 64 - j = (64 - (j + 1)) + 1 by omega, sh_pad_succ S _ (by rw [hq]; exact h56)])
      have hput := hid (sh_put_any gx S 0 wr hblk hpS (by omega))
      have HQ := hid hq
      have HNM := hid hnm
      have HNS := hid hnS
      have HPS := hid hpS
      clear hpad hq hnm hnS hpS hblk hze hsn h56
      go_wp2_with fail
      refine hput.out.mono ?_
      rintro e w5 ⟨rfl, hb5, hG5⟩
      have hn5 : (S.put 0).n = q + 1 := by rw [sh_put_n, HQ.out]
      have hp5 : (S.put 0).part.length = 64 := by rw [sh_put_len]; exact HPS.out
      have hm5 := nAt_of hb5 hp5
      go_wp2_with fail
      go_roundw
      case rel => exact ⟨j + 1, S.put 0, by omega, hb5, hp5, by have := HNS.out; omega, HPAD.out, sh_grown_trans hG hG5⟩
      case measure => have := HNM.out; have := HNS.out; omega
end Go.Proofs.Ytojffpfgmlegdaa
