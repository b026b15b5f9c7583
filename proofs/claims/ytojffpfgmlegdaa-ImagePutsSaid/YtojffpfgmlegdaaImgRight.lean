/-
  Package image: is an image right?
-/
import Derived.Test.YtojffpfgmlegdaaBase
import Derived.Test.YtojffpfgmlegdaaImgPlain
import Derived.Deep.RegionHeld3
namespace Go.Proofs.Ytojffpfgmlegdaa
open Go.RowKit

abbrev imgV (i : ImgS) (A : Option Addr) (c : Nat) : Value := .agg #[.int .i64 i.part, .int .i64 i.ver, .int .i64 i.hard, .int .i64 i.mem, .int .i64 i.fuel, .int .i64 i.sends, .int .i64 i.recvs, .slice A i.code.length c]
theorem within_any (n a b : Int) (w : World) :
    Calls Try.prog 39 #[.int .i64 n, .int .i64 a, .int .i64 b] w fun e w' => e = .returned (.bool (withinB n a b)) ∧ w = w' := by
  have HW : Hid (withinB n a b = (decide (a ≤ n) && decide (n ≤ b))) := hid rfl
  generalize withinB n a b = R at *
  by_cases h : a ≤ n
  · have h1 : decide (a ≤ n) = true := by simpa using h
    go_enter Try.func39, Try.ntmps39
    go_wp2_with fail
    go_ret
    exact ⟨ret_bool (by rw [HW.out, h1]; rfl), rfl⟩
  · have h1 : decide (a ≤ n) = false := by simpa using h
    go_enter Try.func39, Try.ntmps39
    go_wp2_with fail
    go_ret
    exact ⟨ret_bool (by rw [HW.out, h1]; rfl), rfl⟩
set_option maxHeartbeats 1000000 in
theorem imgRight_any (i : ImgS) (A : Option Addr) (c : Nat) (w : World) (hl : i.code.length ≤ 9223372036854775807) :
    Calls Try.prog 26 #[imgV i A c] w fun e w' => e = .returned (.bool (rightI i)) ∧ Below w.heap.size w w' := by
  have HR : Hid (rightI i = (askI i).all id) := hid rfl
  have hlen := askI_len i
  obtain ⟨L, hL⟩ : ∃ L, askI i = L := ⟨_, rfl⟩
  have HA : Hid (askI i = L) := hid hL
  rw [hL] at HR hlen
  clear hL
  generalize rightI i = R at *
  obtain ⟨pt, vr, hd, mm, fl, sd, rc, code⟩ := i
  simp only [askI] at HA
  simp only at hl
  obtain ⟨n, hn⟩ : ∃ n, code.length = n := ⟨_, rfl⟩
  simp only [imgV]
  rw [hn] at HA hl ⊢
  clear hn
  go_enter Try.func26, Try.ntmps26
  go_wp2_with fail
  obtain ⟨w1, hw1, hb1, hsz1, hblk⟩ : ∃ w1 : World, w.alloc (.cells #[.int .i64 pt, .int .i64 vr, .int .i64 hd, .int .i64 mm, .int .i64 fl, .int .i64 sd, .int .i64 rc, .slice A n c] 41) = w1 ∧ Below w.heap.size w w1 ∧ w1.heap.size = w.heap.size + 1 ∧ Blk w1 w.heap.size 41 [.int .i64 pt, .int .i64 vr, .int .i64 hd, .int .i64 mm, .int .i64 fl, .int .i64 sd, .int .i64 rc, .slice A n c] :=
    ⟨_, rfl, (Below.refl _ _).alloc (Nat.le_refl _) _, by simp, Blk.new w _ [.int .i64 pt, .int .i64 vr, .int .i64 hd, .int .i64 mm, .int .i64 fl, .int .i64 sd, .int .i64 rc, .slice A n c]⟩
  rw [hw1]
  obtain ⟨c0, c1, c2, c3, c4, c5, c6, c7⟩ : _ ∧ _ ∧ _ ∧ _ ∧ _ ∧ _ ∧ _ ∧ _ := ⟨hblk.cellAt (i := 0) rfl, hblk.cellAt (i := 1) rfl, hblk.cellAt (i := 2) rfl, hblk.cellAt (i := 3) rfl, hblk.cellAt (i := 4) rfl, hblk.cellAt (i := 5) rfl, hblk.cellAt (i := 6) rfl, hblk.cellAt (i := 7) rfl⟩
  have HB := hid hblk
  have HB1 := hid hb1
  have HSZ := hid hsz1
  clear hw1 hblk hb1 hsz1
  go_region_held3 (fun w' => w'.cell? ⟨w.heap.size, 0, none⟩ = some (.int .i64 pt) ∧ w'.cell? ⟨w.heap.size, 1, none⟩ = some (.int .i64 vr) ∧ w'.cell? ⟨w.heap.size, 2, none⟩ = some (.int .i64 hd) ∧ w'.cell? ⟨w.heap.size, 3, none⟩ = some (.int .i64 mm) ∧ w'.cell? ⟨w.heap.size, 4, none⟩ = some (.int .i64 fl) ∧ w'.cell? ⟨w.heap.size, 5, none⟩ = some (.int .i64 sd) ∧ w'.cell? ⟨w.heap.size, 6, none⟩ = some (.int .i64 rc) ∧ w'.cell? ⟨w.heap.size, 7, none⟩ = some (.slice A n c)) (go_keep)
    ((go_at_call 39; refine (within_any _ _ _ _).mono ?_; rintro e wz ⟨rfl, rfl⟩))
  obtain ⟨w2, hw2, hb2, hblk2⟩ : ∃ w2 : World, (w1.alloc (.cells #[.bool (withinB pt 0 3), .bool (withinB vr 1 65535), .bool (withinB hd 0 65535), .bool (withinB mm 1 16), .bool (withinB fl 1 32), .bool (withinB sd 0 15), .bool (withinB rc 0 15), .bool (withinB (n : Int) 1 96)] 4)).drew = w2 ∧ Below w.heap.size w w2 ∧ Blk w2 w1.heap.size 4 (L.map Value.bool) :=
    ⟨_, rfl, (bel_alloc HB1.out _).drew, by rw [← HA.out]; exact (Blk.new w1 _ _).drew⟩
  first | rw [hw2] | skip
  clear hw2 c0 c1 c2 c3 c4 c5 c6 c7
  have H2 := hid hblk2
  clear hblk2
  go_wp2_with fail
  go_loop [32] (fun v32 => ∃ k : Nat, k ≤ 8 ∧ v32 = .int .i64 (k : Int) ∧ Hid (∀ j, j < k → L[j]? = some true)) (fun v32 => 8 - (intOf v32).toNat)
  case atStart => exact ⟨0, by omega, rfl, hid (fun j hj => absurd hj (by omega))⟩
  case round =>
    obtain ⟨k, hk, rfl, HK⟩ := hrel
    by_cases hk8 : k < 8
    · obtain ⟨b, hb⟩ : ∃ b, L[k]? = some b := ⟨_, List.getElem?_eq_getElem (by omega)⟩
      have hcell : w2.cell? ⟨w1.heap.size, k, none⟩ = some (.bool b) := H2.out.cellAt (by rw [List.getElem?_map, hb]; rfl)
      have HB' := hid hb
      clear hb
      cases b with
      | true =>
        go_wp2_with fail
        go_round
        case rel => exact ⟨k + 1, by omega, by go_num, hid (fun j hj => by
          rcases Nat.lt_or_ge j k with h | h
          · exact HK.out j h
          · rw [show j = k by omega]; exact HB'.out)⟩
        case measure => simp [intOf]; omega
      | false =>
        go_wp2_with fail
        go_ret
        exact ⟨ret_bool (by rw [HR.out]; exact (all_false HB'.out).symm), hb2⟩
    · obtain rfl : k = 8 := by omega
      go_wp2_with fail
      go_ret
      exact ⟨ret_bool (by rw [HR.out]; exact (all_true (fun j hj => HK.out j (by omega))).symm), hb2⟩
end Go.Proofs.Ytojffpfgmlegdaa
