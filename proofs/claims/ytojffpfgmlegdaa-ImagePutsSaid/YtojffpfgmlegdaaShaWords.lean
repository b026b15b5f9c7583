/-
  Package sha: the words of a block, as the program lays them.
-/
import Derived.Test.YtojffpfgmlegdaaShaW
import Derived.Test.YtojffpfgmlegdaaShaPl2
import Derived.Deep.WholeRow
import Derived.Laws.Rows
import Derived.IntWalk
namespace Go.Proofs.Ytojffpfgmlegdaa
open Go.RowKit

theorem sh_spread_b (x : BitVec 32) (a b n : Nat) (a0 : 0 < a) (a1 : a < 32) (b0 : 0 < b) (b1 : b < 32) (n1 : n ≤ 32) (w : World) :
    Calls Try.prog 76 #[wV x, .int .i64 (a : Int), .int .i64 (b : Int), .int .i64 (n : Int)] w fun e w' => e = .returned (wV (sh_spread x a b n)) ∧ Below w.heap.size w w' :=
  (sh_spread_any x a b n a0 a1 b0 b1 n1 w).mono fun _ _ ⟨h, k, hk⟩ => ⟨h, by rw [hk]; exact below_drewN (Below.refl _ _) k⟩
def shaC (s : ShS) : List Value := [wV s.v.a, wV s.v.b, wV s.v.c, wV s.v.d, wV s.v.e, wV s.v.f, wV s.v.g, wV s.v.h] ++ s.part.map bV ++ [.int .i64 (s.n : Int)]
theorem shaC_part (s : ShS) (j : Nat) (hj : j < s.part.length) : (shaC s)[8 + j]? = (s.part[j]?).map bV := by
  unfold shaC
  rw [List.getElem?_append_left (by simp; omega), List.getElem?_append_right (by simp)]
  simp
def zeroWA : Array Value := (List.replicate 64 (wV 0)).toArray
theorem zeroWA_size : zeroWA.size = 64 := by simp [zeroWA]
theorem zeroWA_run (w : World) : (zeroValue 83).run Try.prog w = .ok (.agg zeroWA) w := by kernel_rfl
theorem sh_info64 (l : List Value) (h : l.length = 64) : (Try.prog.info? 83).map (·.size) = some l.toArray.size := by
  have : (Try.prog.info? 83).map (·.size) = some 64 := by kernel_rfl
  rw [this]
  simp [h]
theorem oneCell_w (l : List (BitVec 32)) : (l.map wV).toArray.all (·.oneCell') = true := by
  rw [Array.all_eq_true_iff_forall_mem]
  intro v hv
  simp at hv
  obtain ⟨b, _, rfl⟩ := hv
  rfl
/-- Four bytes of an array, cut out. -/
theorem sh_cut4 (g o k : Nat) (hk : k < 16) : ∃ A c, c ≤ maxLen ∧ 4 ≤ c ∧ (∀ j, A.add j = ⟨g, o + 4 * k + j, none⟩) ∧ A.block = g ∧ ∀ w, (Instr.sliceAt 60 (.pointer (some ⟨g, o, none⟩)) (some (.int .i64 (4 * (k : Int)))) (some (.int .i64 (4 * (k : Int) + 4))) none).run Try.prog w = .ok (.slice (some A) 4 c) w := by
  refine ⟨⟨g, o + 4 * k, none⟩, 64 - 4 * k, by simp [maxLen]; omega, by omega, fun j => by rw [add_none], rfl, fun w => ?_⟩
  have hlen : Try.prog.arrayLen 60 = 64 := by kernel_rfl
  have hun : Try.prog.underlying 60 = some (.array (Try.prog.arrayLen 60) (Try.prog.elem 60)) := by kernel_rfl
  have hso : ∀ w, (sizeOf (Try.prog.elem 60)).run Try.prog w = .ok 1 w := fun w => by kernel_rfl
  rw [run_sliceAt_array_lh w 60 ⟨g, o, none⟩ hun .i64 .i64 (4 * (k : Int)) (4 * (k : Int) + 4) (by omega) (by omega) (by rw [hlen]; omega), hso, hlen]
  simp only [Result.andThen_ok, slicedAt]
  rw [if_neg (by omega), add_none, show (4 * (k : Int)).toNat = 4 * k by omega, show (4 * (k : Int) + 4).toNat = 4 * k + 4 by omega, show 4 * k + 4 - 4 * k = 4 by omega, Nat.mul_one]
theorem below_setRow {B : Nat} {w w' : World} (h : Below B w w') (g : Nat) (cs : Array Value) (hg : B ≤ g) : Below B w (w'.setRow g cs) :=
  ⟨h.os, h.tape, h.output, by simpa using h.size, fun i hi => (setRow_other w' g i cs (by omega)).trans (h.block i hi)⟩
theorem sh_far_cell {w : World} {g i k : Nat} {u v : Value} (h : i ≠ k) (hc : w.cell? ⟨g, i, none⟩ = some u) : (w.setCell ⟨g, k, none⟩ v).cell? ⟨g, i, none⟩ = some u :=
  (World.cell?_setCell_other w _ _ v (fun e => by injection e with _ e; exact h (by omega))).trans hc
theorem sh_far_frozen {w : World} {g i k : Nat} {v : Value} (hc : w.frozen? ⟨g, i, none⟩ = false) : (w.setCell ⟨g, k, none⟩ v).frozen? ⟨g, i, none⟩ = false := by
  simpa using hc
set_option maxRecDepth 20000 in
set_option maxHeartbeats 2000000 in
theorem sh_words_any (g : Nat) (s : ShS) (w : World) (h : Blk w g 62 (shaC s)) (hp : s.part.length = 64) :
    Calls Try.prog 60 #[.pointer (some ⟨g, 8, none⟩)] w fun e w' => e = .returned (.agg ((wordsN s.part 64).map wV).toArray) ∧ Below w.heap.size w w' := by
  have hz := zeroWA_run
  have hzs := zeroWA_size
  have hg := h.lt
  have HP := hid hp
  have HB := hid h
  clear hp h
  obtain ⟨WL, hWL⟩ : ∃ WL, wordsN s.part 64 = WL := ⟨_, rfl⟩
  have HLen : Hid (∀ n, n = 64 → WL.length = n) := hid (fun n hn => by rw [← hWL, hn]; exact wordsN_len s.part 64)
  rw [hWL]
  have HWL : Hid (∀ n, n = 64 → layW s.part n = WL) := hid (fun n hn => by rw [hn, layW_all]; exact hWL)
  clear hWL
  obtain ⟨w2, hw2, hsz2, hb2, hblk0, hblk1⟩ : ∃ w2 : World, (w.alloc (.cells zeroWA 83)).alloc (.cells zeroWA 83) = w2 ∧ w2.heap.size = w.heap.size + 1 + 1 ∧ Below w.heap.size w w2 ∧
      Blk w2 w.heap.size 83 (List.replicate 64 (wV 0)) ∧ Blk w2 (w.heap.size + 1) 83 ((layW s.part 0).map wV) := by
    refine ⟨_, rfl, by simp, ((Below.refl _ _).alloc (Nat.le_refl _) _).alloc (by simp) _, (Blk.new w _ (List.replicate 64 (wV 0))).alloc _, ?_⟩
    have := Blk.new (w.alloc (.cells zeroWA 83)) 83 ((layW s.part 0).map wV)
    simpa [layW, wordsN, zeroWA] using this
  go_enter Try.func60, Try.ntmps60
  go_wp2_with fail
  clear hw2 hz hzs
  generalize hr : w.heap.size = r at *
  have HR := hid hr
  clear hr
  have hBg : ∀ wr, Below r w wr → Blk wr g 62 (shaC s) := fun wr hb => HB.out.below hb hg
  have HBG := hid hBg
  clear hBg
  have hne : r ≠ r + 1 := by omega
  have hne' : r + 1 ≠ r := by omega
  have hgr : r + 1 ≠ g := by omega
  have hgr' : g ≠ r + 1 := by omega
  go_loopw [7] (fun v7 wr => ∃ k : Nat, k ≤ 64 ∧ v7 = .int .i64 (k : Int) ∧ Blk wr (r + 1) 83 ((layW s.part k).map wV) ∧ Blk wr r 83 (List.replicate 64 (wV 0)) ∧ Below r w wr) (fun v7 _ => 64 - (intOf v7).toNat)
  case atStart => exact ⟨0, by omega, rfl, hblk1, hblk0, hb2⟩
  case round =>
    clear hblk0 hblk1 hb2
    obtain ⟨k, hk, rfl, hblk1, hblk0, hbel⟩ := hrel
    obtain ⟨wo, rfl⟩ : ∃ wo : World, wo = wr := ⟨_, rfl⟩
    by_cases hk2 : k < 64
    · by_cases hk3 : k < 16
      · have hlt1 := hblk1.lt
        have hbg := hid (HBG.out _ hbel)
        have H1 := hid hblk1
        have H0 := hid hblk0
        have HL := hid hbel
        clear hblk1 hblk0 hbel
        have hdk : decide ((k : Int) < 64) = true := by simp; omega
        have hdk3 : decide ((k : Int) < 16) = true := by simp; omega
        obtain ⟨A, c, hc0, hc1, hA, hAb, hsl⟩ := sh_cut4 g 8 k hk3
        have hrd : ∀ wr, Below r w wr → Reads wr wr.heap.size 1 (some A) 4 ((sh_four s.part k).map bV) := fun wr hb => by
          refine ⟨by simp [four_len s.part k HP.out hk3], fun _ => ⟨A, rfl, by rw [hAb]; exact (HBG.out wr hb).lt, fun j u hu => ?_⟩⟩
          rw [List.getElem?_map] at hu
          have hj : j < 4 := by
            rcases Nat.lt_or_ge j 4 with h | h
            · exact h
            · rw [List.getElem?_eq_none (by rw [four_len s.part k HP.out hk3]; omega)] at hu; simp at hu
          rw [four_get s.part k j HP.out hk3 hj] at hu
          rw [hA, (HBG.out wr hb).cell, show 8 + 4 * k + j = 8 + (4 * k + j) by omega, shaC_part s _ (by rw [HP.out]; omega)]
          exact hu
        have HRD := hid hrd
        have hL0 := layW_zero s.part k hk2
        have hLS := layW_set s.part k hk2
        rw [nextW_low s.part k hk3] at hLS
        have HL0 := hid hL0
        have HLS := hid hLS
        have HFL := hid (four_len s.part k HP.out hk3)
        have HLL := hid (layW_len s.part k hk)
        clear hA hrd hL0 hLS hAb
        generalize layW s.part k = L at *
        generalize sh_four s.part k = q at *
        go_wp2_with fail
        clear hsl
        go_loopw [21, 6] (fun v21 v6 wr => ∃ j : Nat, j ≤ 4 ∧ v21 = .int .i64 (j : Int) ∧ Blk wr (r + 1) 83 ((L.set k (word4 (q.take j))).map wV) ∧ Blk wr r 83 (List.replicate 64 (wV 0)) ∧ Below r w wr) (fun v21 _ _ => 4 - (intOf v21).toNat)
        case atStart => exact ⟨0, by omega, rfl, by rw [HL0.out]; exact H1.out, H0.out, HL.out⟩
        case round =>
          obtain ⟨j, hj, rfl, hb1, hb0, hbel⟩ := hrel
          by_cases hj4 : j < 4
          · obtain ⟨ad, c1, hAd, _, hc, hcell⟩ := (HRD.out _ hbel).atM hj4
            injection hAd with hAd
            subst hAd
            obtain ⟨y, hy⟩ : ∃ y, y = word4 (q.take (j + 1)) := ⟨_, rfl⟩
            have HW : Hid (word4 (q.take (j + 1)) = word4 (q.take j) * 256#32 + BitVec.ofNat 32 c1.toNat) := hid (by
              rw [List.take_add_one, hc]; exact word4_snoc _ _)
            have hv : ((word4 (q.take j)).toNat : Int) * 256 % 4294967296 + (c1.toNat : Int) = (y.toNat : Int) := by
              have h := word4_val (word4 (q.take j)) c1
              have hcb := c1.toNat_lt
              rw [hy, HW.out, ← h]
              omega
            have hx : ((L.set k (word4 (q.take j))).map wV)[k]? = some (wV (word4 (q.take j))) := by
              rw [List.getElem?_map, List.getElem?_set_self (by rw [HLL.out]; omega)]; rfl
            have hx1 := hb1.cellAt hx
            have hx2 := hb1.frozen k
            have hs := hb1.set_ k (wV y)
            rw [← List.map_set, List.set_set] at hs
            have hs0 := hb0.far (p := ⟨r + 1, k, none⟩) hne (wV y)
            have hbs := hbel.setCell (p := ⟨r + 1, k, none⟩) (Nat.le_succ r) (wV y)
            clear hb1 hb0 hbel hx hc
            generalize word4 (q.take j) = x at *
            have HS := hid hs
            have HS0 := hid hs0
            have HBS := hid hbs
            have HY := hid hy
            clear hs hs0 hbs hy
            have hcb := c1.toNat_lt
            go_wp2_with fail
            go_roundw
            case rel => exact ⟨j + 1, by omega, by go_num, by rw [← HY.out]; exact HS.out, HS0.out, HBS.out⟩
            case measure => simp [intOf]; omega
          · obtain rfl : j = 4 := by omega
            rw [List.take_of_length_le (by have := HFL.out; omega), HLS.out] at hb1
            go_wp2_with fail
            go_roundw
            case rel => exact ⟨k + 1, by omega, by go_num, hb1, hb0, hbel⟩
            case measure => simp [intOf]; omega
      · have hlt1 := hblk1.lt
        have hdk : decide ((k : Int) < 64) = true := by simp; omega
        have hdk3 : decide ((k : Int) < 16) = false := by simp; omega
        obtain ⟨i2, i15, i7, i16, e2, e15, e7, e16⟩ : ∃ i2 i15 i7 i16 : Nat, (k - 2 = i2 ∧ i2 < k ∧ (k : Int) - 2 = (i2 : Int)) ∧ (k - 15 = i15 ∧ i15 < k ∧ (k : Int) - 15 = (i15 : Int)) ∧ (k - 7 = i7 ∧ i7 < k ∧ (k : Int) - 7 = (i7 : Int)) ∧ (k - 16 = i16 ∧ i16 < k ∧ (k : Int) - 16 = (i16 : Int)) :=
          ⟨k - 2, k - 15, k - 7, k - 16, ⟨rfl, by omega, by omega⟩, ⟨rfl, by omega, by omega⟩, ⟨rfl, by omega, by omega⟩, ⟨rfl, by omega, by omega⟩⟩
        have hLS := layW_set s.part k hk2
        rw [nextW_high s.part k (by omega), e2.1, e15.1, e7.1, e16.1] at hLS
        have HLS := hid hLS
        clear hLS
        have p2 := layW_old s.part k i2 e2.2.1
        have p15 := layW_old s.part k i15 e15.2.1
        have p7 := layW_old s.part k i7 e7.2.1
        have p16 := layW_old s.part k i16 e16.2.1
        generalize (wordsN s.part k).getD i2 0 = x2 at *
        generalize (wordsN s.part k).getD i15 0 = x15 at *
        generalize (wordsN s.part k).getD i7 0 = x7 at *
        generalize (wordsN s.part k).getD i16 0 = x16 at *
        have HG : Hid (∀ w', Blk w' (r + 1) 83 ((layW s.part k).map wV) → (w'.cell? ⟨r + 1, i2, none⟩ = some (wV x2) ∧ w'.cell? ⟨r + 1, i15, none⟩ = some (wV x15) ∧ w'.cell? ⟨r + 1, i7, none⟩ = some (wV x7) ∧ w'.cell? ⟨r + 1, i16, none⟩ = some (wV x16) ∧ w'.frozen? ⟨r + 1, k, none⟩ = false ∧ w'.cell? ⟨r + 1, k, none⟩ = some (wV 0))) := hid fun w' h =>
          ⟨h.cellAt (by rw [List.getElem?_map, p2]; rfl), h.cellAt (by rw [List.getElem?_map, p15]; rfl), h.cellAt (by rw [List.getElem?_map, p7]; rfl), h.cellAt (by rw [List.getElem?_map, p16]; rfl), h.frozen k, h.cellAt (by rw [List.getElem?_map, layW_new s.part k hk2]; rfl)⟩
        have w2' : IntKind.i64.wrap ((k : Int) - 2) = (i2 : Int) := by rw [← e2.2.2]; exact IntWalk.i64_in _ (by omega)
        have w15' : IntKind.i64.wrap ((k : Int) - 15) = (i15 : Int) := by rw [← e15.2.2]; exact IntWalk.i64_in _ (by omega)
        have w7' : IntKind.i64.wrap ((k : Int) - 7) = (i7 : Int) := by rw [← e7.2.2]; exact IntWalk.i64_in _ (by omega)
        have w16' : IntKind.i64.wrap ((k : Int) - 16) = (i16 : Int) := by rw [← e16.2.2]; exact IntWalk.i64_in _ (by omega)
        have b2 : (0 : Int) ≤ (i2 : Int) ∧ (i2 : Int) < 64 := by omega
        have b15 : (0 : Int) ≤ (i15 : Int) ∧ (i15 : Int) < 64 := by omega
        have b7 : (0 : Int) ≤ (i7 : Int) ∧ (i7 : Int) < 64 := by omega
        have b16 : (0 : Int) ≤ (i16 : Int) ∧ (i16 : Int) < 64 := by omega
        have bk : (0 : Int) ≤ (k : Int) ∧ (k : Int) < 64 := by omega
        have n2 : i2 ≠ k := by omega
        have n15 : i15 ≠ k := by omega
        have n7 : i7 ≠ k := by omega
        have n16 : i16 ≠ k := by omega
        have m2 : k ≠ i2 := by omega
        have m15 : k ≠ i15 := by omega
        have m7 : k ≠ i7 := by omega
        have m16 : k ≠ i16 := by omega
        obtain ⟨b2a, b2b⟩ := b2
        obtain ⟨b15a, b15b⟩ := b15
        obtain ⟨b7a, b7b⟩ := b7
        obtain ⟨b16a, b16b⟩ := b16
        obtain ⟨bka, bkb⟩ := bk
        obtain ⟨c2, c15, c7, c16, ck, ckk⟩ := HG.out _ hblk1
        have H1 := hid hblk1
        have H0 := hid hblk0
        have HL := hid hbel
        have HE := hid (And.intro e2 (And.intro e15 (And.intro e7 e16)))
        have q1 := hid (fun w => sh_spread_b x2 17 19 10 (by omega) (by omega) (by omega) (by omega) (by omega) w)
        have q2 := hid (fun w => sh_spread_b x15 7 18 3 (by omega) (by omega) (by omega) (by omega) (by omega) w)
        have v1 := hid (b32_add (sh_spread x2 17 19 10) (sh_spread x15 7 18 3))
        have v2 := hid (b32_add (sh_spread x2 17 19 10 + sh_spread x15 7 18 3) x7)
        have v3 := hid (b32_add (sh_spread x2 17 19 10 + sh_spread x15 7 18 3 + x7) x16)
        generalize sh_spread x2 17 19 10 + sh_spread x15 7 18 3 + x7 + x16 = z3 at *
        generalize sh_spread x2 17 19 10 + sh_spread x15 7 18 3 + x7 = z2 at *
        generalize sh_spread x2 17 19 10 + sh_spread x15 7 18 3 = z1 at *
        generalize sh_spread x2 17 19 10 = s1 at *
        generalize sh_spread x15 7 18 3 = s2 at *
        clear hblk1 hblk0 hbel p2 p15 p7 p16 e2 e15 e7 e16
        go_wp2_with fail
        go_region_held3 (fun w' => w'.cell? ⟨r + 1, i2, none⟩ = some (wV x2) ∧ w'.cell? ⟨r + 1, i15, none⟩ = some (wV x15) ∧ w'.cell? ⟨r + 1, i7, none⟩ = some (wV x7) ∧ w'.cell? ⟨r + 1, i16, none⟩ = some (wV x16) ∧ w'.frozen? ⟨r + 1, k, none⟩ = false) (first | exact ⟨sh_far_cell n2 c2b, sh_far_cell n15 c15b, sh_far_cell n7 c7b, sh_far_cell n16 c16b, sh_far_frozen ckb⟩ | go_keep)
          (first
            | (go_at_call_of 76 (wV x2); refine (q1.out _).mono ?_; rintro e5 w5 ⟨rfl, hb5'⟩; have hb5 : Below wo.heap.size wo w5 := ⟨hb5'.os, hb5'.tape, hb5'.output, hb5'.size, hb5'.block⟩; clear hb5'; have h15 := H1.out.belowS hb5; obtain ⟨c2a, c15a, c7a, c16a, cka, ckka⟩ := HG.out _ h15)
            | (go_at_call 76; refine (q2.out _).mono ?_; rintro e6 w6 ⟨rfl, hb6'⟩; have hb6 : Below w5.heap.size w5 w6 := ⟨hb6'.os, hb6'.tape, hb6'.output, hb6'.size, hb6'.block⟩; clear hb6'; have h16 := h15.belowS hb6; obtain ⟨c2b, c15b, c7b, c16b, ckb, ckkb⟩ := HG.out _ h16))
        have k1 : IntKind.u32.wrap ((s1.toNat : Int) + (s2.toNat : Int)) = (z1.toNat : Int) := v1.out
        have k2 : IntKind.u32.wrap ((z1.toNat : Int) + (x7.toNat : Int)) = (z2.toNat : Int) := v2.out
        have k3 : IntKind.u32.wrap ((z2.toNat : Int) + (x16.toNat : Int)) = (z3.toNat : Int) := v3.out
        have hb1 := h16.set_ k (wV z3)
        rw [← List.map_set, HLS.out] at hb1
        have hbB := hb5.trans (hb6.mono hb5.size)
        have hb0 := (H0.out.belowS hbB).far (p := ⟨r + 1, k, none⟩) hne (wV z3)
        have hbel := (HL.out.trans (hbB.mono (by omega))).setCell (p := ⟨r + 1, k, none⟩) (Nat.le_succ r) (wV z3)
        rw [k1, k2, k3]
        generalize w6.setCell ⟨r + 1, k, none⟩ (wV z3) = w7 at *
        clear k1 k2 k3 c2 c15 c7 c16 ck ckk c2a c15a c7a c16a cka ckka c2b c15b c7b c16b ckb ckkb h15 h16 w2' w15' w7' w16'
        have H1' := hid hb1
        have H0' := hid hb0
        have HL' := hid hbel
        clear hb1 hb0 hbel
        go_wp2_with fail
        go_roundw
        case rel => exact ⟨k + 1, by omega, by go_num, H1'.out, H0'.out, HL'.out⟩
        case measure => simp [intOf]; omega
    · obtain rfl : k = 64 := by omega
      rw [HWL.out _ rfl] at hblk1
      have HL := hid hbel
      have H1 := hid hblk1
      have H0 := hid hblk0
      clear hblk1 hblk0 hbel
      go_wp2_with (first
        | (refine wpList_load_row rfl 83 _ rfl (r + 1) rfl 83 (WL.map wV).toArray (0, 0) _ H1.out Try.underlying83 rfl (sh_info64 _ (by simp [HLen.out 64 rfl])) ?_)
        | (refine wpList_store_row rfl 83 _ _ rfl r (WL.map wV).toArray rfl rfl 83 (List.replicate 64 (wV 0)).toArray H0.out (sh_info64 _ (by simp [HLen.out 64 rfl])) (by simp [HLen.out 64 rfl]) (oneCell_w _) ?_))
      have hrow := setRow_heap wo r (List.replicate 64 (wV 0)).toArray (WL.map wV).toArray 83 (0, 0) H0.out
      refine bodyPost_ret (v := .agg (WL.map wV).toArray) (results_cell_row (P := Try.prog) (fn := Try.f60) (p := 2) (ty := 83) (by rfl) _ _ r 83 (WL.map wV).toArray (0, 0) _ (by rfl) hrow Try.underlying83 (by rfl) (sh_info64 _ (by simp [HLen.out 64 rfl]))) rfl ?_
      refine ⟨rfl, ?_⟩
      rw [HR.out]
      exact below_setRow HL.out _ _ (Nat.le_refl _)
end Go.Proofs.Ytojffpfgmlegdaa
