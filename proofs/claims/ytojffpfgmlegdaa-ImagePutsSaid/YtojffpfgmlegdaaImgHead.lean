/-
  Package image: what is ahead of the digest.
-/
import Derived.Test.YtojffpfgmlegdaaImgRight
import Derived.Test.YtojffpfgmlegdaaNumTx
namespace Go.Proofs.Ytojffpfgmlegdaa
open Go.RowKit

def four4 (i : ImgS) : List Int := [i.mem, i.fuel, i.sends, i.recvs]
def headA (i : ImgS) : List UInt8 := putB 19529 2 ++ putB i.part 1 ++ putB i.ver 2 ++ putB i.hard 2
def headK (i : ImgS) (k : Nat) : List UInt8 := headA i ++ ((four4 i).take k).flatMap fun x => putB x 1
def headB (i : ImgS) : List UInt8 := headK i 4 ++ textB i.code
theorem headK_zero (i : ImgS) : headK i 0 = headA i := by simp [headK]
theorem headK_succ (i : ImgS) (k : Nat) (x : Int) (h : (four4 i)[k]? = some x) : headK i (k + 1) = headK i k ++ putB x 1 := by
  unfold headK
  rw [List.take_add_one, h, List.append_assoc]
  simp
theorem put_to (W : Nat) (ww : Int) (hW : wid ww = W) (N : Nat) (A : Option Addr) (n c : Nat) (hN : n + W = N) (bs : List UInt8) (x : Int) (w : World) (h : Reads w w.heap.size 1 A n (bs.map bV)) (hn : n ≤ 100000000) :
    Calls Try.prog 47 #[.slice A n c, .int .i64 x, .int .i64 ww] w fun e w' => ∃ A' c', e = .returned (.slice A' N c') ∧
      w'.ownsRow w.heap.size 5 1 (.slice A' N c') N ((bs ++ putB x W).map bV) ∧ Below w.heap.size w w' := by
  subst hN
  exact put_at W ww hW A n c bs x w h hn
theorem index4i (a b c d : Int) (k : Nat) (h : k < 4) : ∀ w, (Instr.index 71 (.agg #[.int .i64 a, .int .i64 b, .int .i64 c, .int .i64 d]) (.int .i64 (k : Int))).run Try.prog w = .ok (.int .i64 ([a, b, c, d].getD k 0)) w := by
  have : k = 0 ∨ k = 1 ∨ k = 2 ∨ k = 3 := by omega
  rcases this with rfl | rfl | rfl | rfl <;> (intro w; kernel_rfl)
set_option maxHeartbeats 2000000 in
theorem head_any (i : ImgS) (A : Option Addr) (c : Nat) (w : World) (hr : Reads w w.heap.size 1 A i.code.length (i.code.map bV)) (hlc : i.code.length ≤ c) (hc : c ≤ maxLen) :
    Calls Try.prog 35 #[imgV i A c] w fun e w' => ∃ A' c', e = .returned (.slice A' (13 + min i.code.length 65535) c') ∧ w'.ownsRow w.heap.size 5 1 (.slice A' (13 + min i.code.length 65535) c') (13 + min i.code.length 65535) ((headB i).map bV) ∧ Below w.heap.size w w' := by
  have HH : Hid (headB i = headK i 4 ++ textB i.code) := hid rfl
  have HA : Hid (headA i = putB 19529 2 ++ putB i.part 1 ++ putB i.ver 2 ++ putB i.hard 2) := hid rfl
  have HK := hid (headK_succ i)
  have H0 := hid (headK_zero i)
  have HF : Hid (four4 i = [i.mem, i.fuel, i.sends, i.recvs]) := hid rfl
  generalize headB i = HB' at *
  obtain ⟨n, hn⟩ : ∃ n, i.code.length = n := ⟨_, rfl⟩
  simp only [imgV]
  rw [hn] at hr hlc ⊢
  have HN := hid hn
  clear hn
  have hmin : min n 65535 ≤ n := Nat.min_le_left _ _
  obtain ⟨w1, hw1, hb1, hsz1, hblk⟩ : ∃ w1 : World, w.alloc (.cells #[.int .i64 i.part, .int .i64 i.ver, .int .i64 i.hard, .int .i64 i.mem, .int .i64 i.fuel, .int .i64 i.sends, .int .i64 i.recvs, .slice A n c] 41) = w1 ∧ Below w.heap.size w w1 ∧ w1.heap.size = w.heap.size + 1 ∧ Blk w1 w.heap.size 41 [.int .i64 i.part, .int .i64 i.ver, .int .i64 i.hard, .int .i64 i.mem, .int .i64 i.fuel, .int .i64 i.sends, .int .i64 i.recvs, .slice A n c] :=
    ⟨_, rfl, (Below.refl _ _).alloc (Nat.le_refl _) _, by simp, Blk.new w _ [.int .i64 i.part, .int .i64 i.ver, .int .i64 i.hard, .int .i64 i.mem, .int .i64 i.fuel, .int .i64 i.sends, .int .i64 i.recvs, .slice A n c]⟩
  have HR := hid (hr.belowS hb1)
  clear hr
  have HSZ := hid hsz1
  have hb0 := hb1
  clear hsz1
  go_enter Try.func35, Try.ntmps35
  go_wp2_with fail
  refine (put_to 2 2 rfl 2 none 0 0 rfl [] 19529 w1 Reads.empty (by decide)).mono ?_
  rintro e w2 ⟨A2, c2, rfl, hown2, hb2⟩
  have hbx2 := bel_trans hb1 hb2
  have hblk2 := hblk.belowS hb2
  have d0 := hblk2.cellAt (i := 0) rfl
  clear hw1
  go_wp2_with fail
  refine (put_to 1 1 rfl 3 A2 2 c2 rfl _ i.part w2 (Reads.of_own hown2) (by decide)).mono ?_
  rintro e w3 ⟨A3, c3, rfl, hown3, hb3⟩
  have hbx3 := bel_trans hbx2 hb3
  have hblk3 := hblk2.belowS hb3
  have d1 := hblk3.cellAt (i := 1) rfl
  clear hown2 d0 hblk2
  go_wp2_with fail
  refine (put_to 2 2 rfl 5 A3 3 c3 rfl _ i.ver w3 (Reads.of_own hown3) (by decide)).mono ?_
  rintro e w4 ⟨A4, c4, rfl, hown4, hb4⟩
  have hbx4 := bel_trans hbx3 hb4
  have hblk4 := hblk3.belowS hb4
  have d2 := hblk4.cellAt (i := 2) rfl
  clear hown3 d1 hblk3
  go_wp2_with fail
  refine (put_to 2 2 rfl 7 A4 5 c4 rfl _ i.hard w4 (Reads.of_own hown4) (by decide)).mono ?_
  rintro e w5 ⟨A5, c5, rfl, hown5, hb5⟩
  have hbx5 := bel_trans hbx4 hb5
  have hblk5 := hblk4.belowS hb5
  obtain ⟨e3, e4, e5, e6⟩ : _ ∧ _ ∧ _ ∧ _ := ⟨hblk5.cellAt (i := 3) rfl, hblk5.cellAt (i := 4) rfl, hblk5.cellAt (i := 5) rfl, hblk5.cellAt (i := 6) rfl⟩
  have hbs4 := hbx4.size
  have HX5 := hid (bel_trans (bel_trans (bel_trans hb2 hb3) hb4) hb5)
  clear hown4 d2 hblk4 hb1 hb2 hb3 hb4 hbx2 hbx3 hbx4
  rw [List.nil_append, ← HA.out, ← H0.out] at hown5
  have hown5' := own_mono (base' := w.heap.size) hown5 hbs4
  clear hown5
  go_wp2_with fail
  have HB5 := hid hblk5
  have HO5 := hid hown5'
  clear e3 e4 e5 e6 hblk5 hown5' hbx5 hb5 hblk
  go_loopw [28, 3] (fun v28 v3 wr => ∃ (k : Nat) (A3 : Option Addr) (c3 : Nat), k ≤ 4 ∧ v28 = .int .i64 (k : Int) ∧ v3 = .slice A3 (7 + k) c3 ∧ wr.ownsRow w.heap.size 5 1 (.slice A3 (7 + k) c3) (7 + k) ((headK i k).map bV) ∧ Blk wr w.heap.size 41 [.int .i64 i.part, .int .i64 i.ver, .int .i64 i.hard, .int .i64 i.mem, .int .i64 i.fuel, .int .i64 i.sends, .int .i64 i.recvs, .slice A n c] ∧ Below w1.heap.size w1 wr) (fun v28 _ _ => 4 - (intOf v28).toNat)
  case atStart => exact ⟨0, A5, c5, by omega, rfl, rfl, HO5.out, HB5.out, HX5.out⟩
  case round =>
    clear HB5 HO5 HX5
    obtain ⟨k, A3, c3, hk, rfl, rfl, hown, hblk, hbel⟩ := hrel
    by_cases hk4 : k < 4
    · have hidx := index4i i.mem i.fuel i.sends i.recvs k hk4
      obtain ⟨x, hx⟩ : ∃ x, [i.mem, i.fuel, i.sends, i.recvs].getD k 0 = x := ⟨_, rfl⟩
      rw [hx] at hidx
      have hx2 : (four4 i)[k]? = some x := by
        rw [HF.out, ← hx]
        have : k = 0 ∨ k = 1 ∨ k = 2 ∨ k = 3 := by omega
        rcases this with rfl | rfl | rfl | rfl <;> rfl
      have HS := hid (HK.out k x hx2)
      have hput := hid (put_to 1 1 rfl (7 + (k + 1)) A3 (7 + k) c3 (by omega) (headK i k) x wr (Reads.of_own hown) (by omega))
      rw [← HS.out] at hput
      have HB := hid hblk
      have HBL := hid hbel
      have hsz := hbel.size
      clear hx hx2 hown hblk hbel
      go_wp2_with fail
      refine hput.out.mono ?_
      rintro e w6 ⟨A6, c6, rfl, hown6, hb6⟩
      have hbase : w.heap.size ≤ wr.heap.size := by have := HSZ.out; omega
      clear hidx
      go_wp2_with fail
      go_roundw
      case rel => exact ⟨k + 1, A6, c6, by omega, by go_num, rfl, own_mono hown6 hbase, HB.out.belowS hb6, bel_trans HBL.out hb6⟩
      case measure => simp [intOf]; omega
    · obtain rfl : k = 4 := by omega
      have c7 := hblk.cellAt (i := 7) rfl
      have htx := hid (text_any A3 A 11 n c3 c (headK i 4) i.code wr (Reads.of_own hown) (HR.out.belowS hbel) (by decide) hlc hc)
      rw [← HH.out] at htx
      have HBL := hid hbel
      have hsz := hbel.size
      have hbase : w.heap.size ≤ wr.heap.size := by have := HSZ.out; omega
      clear hown hblk hbel
      go_wp2_with fail
      refine htx.out.mono ?_
      rintro e w6 ⟨A6, c6, rfl, hown6, hb6⟩
      go_wp2_with fail
      go_ret
      exact ⟨A6, c6, rfl, own_mono hown6 hbase, hb0.trans ((HBL.out.mono (by have := HSZ.out; omega)).trans (hb6.mono hbase))⟩
end Go.Proofs.Ytojffpfgmlegdaa
