/-
  Package image: digest, sum, and an image's bytes.
-/
import Derived.Test.YtojffpfgmlegdaaImgHead
import Derived.Test.YtojffpfgmlegdaaShaNil
import Derived.Test.YtojffpfgmlegdaaCrc
namespace Go.Proofs.Ytojffpfgmlegdaa
open Go.RowKit

def digI (b : List UInt8) : List UInt8 := b ++ shaOf b
def imgB (i : ImgS) : List UInt8 := digI (headB i) ++ putB ((crcOf (digI (headB i))).toNat : Int) 4
set_option maxHeartbeats 1000000 in
theorem fed_any (g gh : Nat) (s : ShS) (A : Option Addr) (n c cc : Nat) (bs : List UInt8) (w : World) (hl : w.cell? ⟨g, 0, none⟩ = some (.slice A n c)) (h : Blk w gh 62 (shaC s)) (hp : s.part.length = 64) (hr : Reads w w.heap.size 1 A n (bs.map bV)) (hn : s.n + n ≤ 100000000000)
    (hA : ∀ ad, A = some ad → 0 < n → ad.block ≠ gh) :
    Calls Try.prog 49 #[.func (Fn.func 17) #[.pointer (some ⟨gh, 0, none⟩)] #[], .slice (some ⟨g, 0, none⟩) 1 cc] w fun e w' => e = .returned (.tuple #[]) ∧ Blk w' gh 62 (shaC (s.write bs)) ∧ w.grownBy w' (some gh) := by
  have hq := hid (sh_write_any gh s A n c bs w h hp hr hn hA)
  have H := hid h
  have hl' := hl
  clear hr hA h
  go_enter Try.func49, Try.ntmps49
  go_wp2_with fail
  go_loopw [8] (fun v8 wr => (v8 = .int .i64 ((0 : Nat) : Int) ∧ wr = w) ∨ (v8 = .int .i64 ((1 : Nat) : Int) ∧ Blk wr gh 62 (shaC (s.write bs)) ∧ w.grownBy wr (some gh))) (fun v8 _ => 1 - (intOf v8).toNat)
  case atStart => exact .inl ⟨rfl, rfl⟩
  case round =>
    rcases hrel with ⟨rfl, rfl⟩ | ⟨rfl, hb, hg⟩
    · go_wp2_with fail
      refine hq.out.mono ?_
      rintro e w2 ⟨rfl, hb, hg⟩
      go_wp2_with fail
      go_roundw
      case rel => exact .inr ⟨rfl, hb, hg⟩
      case measure => simp [intOf]
    · clear hl hl'
      go_wp2_with fail
      go_end0
      exact ⟨rfl, hb, hg⟩
theorem cutAll32 (g : Nat) : ∀ w, (Instr.sliceAt 24 (.pointer (some ⟨g, 0, none⟩)) none none none).run Try.prog w = .ok (.slice (some ⟨g, 0, none⟩) 32 32) w := by
  intro w
  have hlen : Try.prog.arrayLen 24 = 32 := by kernel_rfl
  have hun : Try.prog.underlying 24 = some (.array (Try.prog.arrayLen 24) (Try.prog.elem 24)) := by kernel_rfl
  have hso : ∀ w, (sizeOf (Try.prog.elem 24)).run Try.prog w = .ok 1 w := fun w => by kernel_rfl
  rw [run_sliceAt_array_all w 24 ⟨g, 0, none⟩ hun, hso, hlen]
  simp only [Result.andThen_ok, slicedAt]
  rw [if_neg (by decide)]
  rfl
set_option maxHeartbeats 1000000 in
theorem digest_any (A : Option Addr) (n c : Nat) (bs : List UInt8) (w : World) (hr : Reads w w.heap.size 1 A n (bs.map bV)) (hn : n ≤ 1000000000) :
    Calls Try.prog 36 #[.slice A n c] w fun e w' => ∃ g, e = .returned (.slice (some ⟨g, 0, none⟩) 32 32) ∧ Reads w' w'.heap.size 1 (some ⟨g, 0, none⟩) 32 ((shaOf bs).map bV) ∧ Below w.heap.size w w' := by
  have hbl : bs.length = n := by simpa using hr.len
  have HBL := hid hbl
  have HR := hid hr
  clear hbl hr
  obtain ⟨SU, hSU⟩ : ∃ SU, shaOf bs = SU := ⟨_, rfl⟩
  have HSL : Hid (SU.length = 32) := hid (by rw [← hSU]; rfl)
  have HU : Hid (∀ x, x = bs → (shNew.write x).sum = SU) := hid (fun x hx => by rw [hx]; exact hSU)
  rw [hSU]
  clear hSU
  have hz := zero32A_run
  have hzs := zero32A_size
  go_enter Try.func36, Try.ntmps36
  go_wp2_with fail
  refine (sh_new_any w).mono ?_
  rintro e w1 ⟨rfl, hx, hb1⟩
  have hgl := hx.lt
  go_wp2_with fail
  have hcell : (w1.alloc (.cells #[.slice A n c] 22)).cell? ⟨w1.heap.size, 0, none⟩ = some (.slice A n c) := (Blk.new w1 22 [.slice A n c]).cellAt rfl
  refine (fed_any w1.heap.size w.heap.size shNew A n c 1 bs _ hcell (hx.alloc _) shNew_part (((HR.out.belowS hb1).alloc (Nat.le_refl _) _).more (by simp)) (by show 0 + n ≤ _; omega) (fun ad h h0 => by
    obtain ⟨ad2, e2, hlt, _⟩ := HR.out.form h0
    rw [h] at e2
    injection e2 with e2
    subst e2
    omega)).mono ?_
  rintro e w3 ⟨rfl, hx3, hg3⟩
  have hb13 := (bel_alloc hb1 (.cells #[.slice A n c] 22)).grown hg3 (by have := hb1.size; simp; omega) (fun k hk => by injection hk with hk; omega)
  clear hcell hx
  go_wp2_with fail
  refine (sh_sum_any w.heap.size (shNew.write bs) w3 hx3 (sh_write_part _ _ shNew_part) (by rw [sh_write_new_n, HBL.out]; omega)).mono ?_
  rintro e w4 ⟨rfl, hb4⟩
  rw [HU.out _ rfl]
  have hb14 := bel_trans hb13 hb4
  clear hx3 hg3 hb13 hb4 hb1
  obtain ⟨w5, hw5, hb5, hblk⟩ : ∃ w5 : World, w4.alloc (.cells (SU.map bV).toArray 24) = w5 ∧ Below w4.heap.size w4 w5 ∧ Blk w5 w4.heap.size 24 (SU.map bV) :=
    ⟨_, rfl, (Below.refl _ _).alloc (Nat.le_refl _) _, Blk.new w4 _ _⟩
  have H5 := hid hw5
  have HB5 := hid hblk
  have HBB := hid (bel_trans hb14 hb5)
  clear hw5 hblk hb5 hb14
  have hsl := cutAll32 w4.heap.size
  go_wp2_with (refine wpList_store_row rfl 24 _ _ rfl w4.heap.size (SU.map bV).toArray rfl rfl 24 zero32A (heap_alloc_new w4 _) (sh_info32 _ (by simp [HSL.out])) (by simp [HSL.out, zero32A_size]) (oneCell_by _) ?_; rw [World.setRow_alloc_new, H5.out])
  go_ret
  exact ⟨w4.heap.size, rfl, by have := HB5.out.reads 32 (by rw [List.length_map, HSL.out]; exact Nat.le_refl _); rw [List.take_of_length_le (by rw [List.length_map, HSL.out]; exact Nat.le_refl _)] at this; exact this, HBB.out⟩
set_option maxHeartbeats 1000000 in
theorem imgSum_any (A : Option Addr) (n c : Nat) (bs : List UInt8) (w : World) (hr : Reads w w.heap.size 1 A n (bs.map bV)) (hn : n ≤ 1000000000) :
    Calls Try.prog 37 #[.slice A n c] w fun e w' => ∃ A' c', e = .returned (.slice A' 4 c') ∧ w'.ownsRow w.heap.size 5 1 (.slice A' 4 c') 4 ((putB ((crcOf bs).toNat : Int) 4).map bV) ∧ Below w.heap.size w w' := by
  have HR := hid hr
  clear hr
  have hlt := (crcOf bs).isLt
  obtain ⟨X, hX⟩ : ∃ X, crcOf bs = X := ⟨_, rfl⟩
  rw [hX] at hlt ⊢
  have HX := hid hX
  clear hX
  obtain ⟨P4, hP4⟩ : ∃ P4, putB (X.toNat : Int) 4 = P4 := ⟨_, rfl⟩
  rw [hP4]
  have HP4 := hid hP4
  clear hP4
  go_enter Try.func37, Try.ntmps37
  go_wp2_with fail
  refine (make_any w).mono ?_
  rintro e w1 ⟨g, rfl, hg, ht, hb1⟩
  have hq := hid (sum_any g A n c bs _ w1 ht (HR.out.belowS hb1) (by omega))
  rw [HX.out] at hq
  clear ht
  go_wp2_with fail
  refine hq.out.mono ?_
  rintro e w2 ⟨rfl, rfl⟩
  go_wp2_with fail
  refine (put_to 4 4 rfl 4 none 0 0 rfl [] (X.toNat : Int) w1 Reads.empty (by decide)).mono ?_
  rintro e w3 ⟨A3, c3, rfl, hown, hb3⟩
  rw [List.nil_append, HP4.out] at hown
  have hown2 := own_mono hown hb1.size
  go_wp2_with fail
  go_ret
  exact ⟨A3, c3, rfl, hown2, bel_trans hb1 hb3⟩
set_option maxHeartbeats 1000000 in
theorem imgPut_no (i : ImgS) (A : Option Addr) (c : Nat) (w : World) (hl : i.code.length ≤ 9223372036854775807) (h : rightI i = false) :
    Calls Try.prog 23 #[imgV i A c] w fun e w' => e = .returned (.tuple #[.slice none 0 0, .int .i64 3]) ∧ Below w.heap.size w w' := by
  have hq := hid (fun w => imgRight_any i A c w hl)
  rw [h] at hq
  obtain ⟨n, hn⟩ : ∃ n, i.code.length = n := ⟨_, rfl⟩
  simp only [imgV] at hq ⊢
  rw [hn] at hq hl ⊢
  clear hn h
  go_enter Try.func23, Try.ntmps23
  go_wp2_with fail
  refine (hq.out _).mono ?_
  rintro e w1 ⟨rfl, hb1⟩
  go_wp2_with fail
  go_ret2
  exact ⟨rfl, below_of_alloc hb1⟩
set_option maxHeartbeats 1000000 in
theorem imgPut_yes (i : ImgS) (A : Option Addr) (c : Nat) (w : World) (hr : Reads w w.heap.size 1 A i.code.length (i.code.map bV)) (hlc : i.code.length ≤ c) (hc : c ≤ maxLen) (h : rightI i = true) :
    Calls Try.prog 23 #[imgV i A c] w fun e w' => ∃ A' c', e = .returned (.tuple #[.slice A' (49 + i.code.length) c', .int .i64 0]) ∧ w'.ownsRow w.heap.size 5 1 (.slice A' (49 + i.code.length) c') (49 + i.code.length) ((imgB i).map bV) ∧ Below w.heap.size w w' := by
  have hri := (rightI_iff i).1 h
  have hn96 : i.code.length ≤ 96 := by have := hri.2.2.2.2.2.2.2.2; omega
  have hq := hid (fun w => imgRight_any i A c w (by omega))
  have hh := hid (fun w h => head_any i A c w h hlc hc)
  rw [h] at hq
  have HI : Hid (imgB i = digI (headB i) ++ putB ((crcOf (digI (headB i))).toNat : Int) 4) := hid rfl
  have HD : Hid (digI (headB i) = headB i ++ shaOf (headB i)) := hid rfl
  generalize imgB i = IB at *
  generalize headB i = hb at *
  obtain ⟨n, hn⟩ : ∃ n, i.code.length = n := ⟨_, rfl⟩
  have hmin : min n 65535 = n := by omega
  simp only [imgV] at hq hh ⊢
  rw [hn] at hq hh hr hlc hn96 ⊢
  rw [hmin] at hh
  clear hn h hri hmin
  have HR := hid hr
  obtain ⟨w1, hw1, hb1, hblk⟩ : ∃ w1 : World, w.alloc (.cells #[.int .i64 i.part, .int .i64 i.ver, .int .i64 i.hard, .int .i64 i.mem, .int .i64 i.fuel, .int .i64 i.sends, .int .i64 i.recvs, .slice A n c] 41) = w1 ∧ Below w.heap.size w w1 ∧ Blk w1 w.heap.size 41 [.int .i64 i.part, .int .i64 i.ver, .int .i64 i.hard, .int .i64 i.mem, .int .i64 i.fuel, .int .i64 i.sends, .int .i64 i.recvs, .slice A n c] :=
    ⟨_, rfl, (Below.refl _ _).alloc (Nat.le_refl _) _, Blk.new w _ [.int .i64 i.part, .int .i64 i.ver, .int .i64 i.hard, .int .i64 i.mem, .int .i64 i.fuel, .int .i64 i.sends, .int .i64 i.recvs, .slice A n c]⟩
  obtain ⟨b0, b1, b2, b3, b4, b5, b6, b7⟩ : _ ∧ _ ∧ _ ∧ _ ∧ _ ∧ _ ∧ _ ∧ _ := ⟨hblk.cellAt (i := 0) rfl, hblk.cellAt (i := 1) rfl, hblk.cellAt (i := 2) rfl, hblk.cellAt (i := 3) rfl, hblk.cellAt (i := 4) rfl, hblk.cellAt (i := 5) rfl, hblk.cellAt (i := 6) rfl, hblk.cellAt (i := 7) rfl⟩
  go_enter Try.func23, Try.ntmps23
  go_wp2_with fail
  refine (hq.out _).mono ?_
  rintro e w2 ⟨rfl, hb2⟩
  clear b0 b1 b2 b3 b4 b5 b6 b7
  have hb12 := bel_trans hb1 hb2
  have hblk2 := hblk.belowS hb2
  obtain ⟨c0, c1, c2, c3, c4, c5, c6, c7⟩ : _ ∧ _ ∧ _ ∧ _ ∧ _ ∧ _ ∧ _ ∧ _ := ⟨hblk2.cellAt (i := 0) rfl, hblk2.cellAt (i := 1) rfl, hblk2.cellAt (i := 2) rfl, hblk2.cellAt (i := 3) rfl, hblk2.cellAt (i := 4) rfl, hblk2.cellAt (i := 5) rfl, hblk2.cellAt (i := 6) rfl, hblk2.cellAt (i := 7) rfl⟩
  clear hw1 hr hblk hblk2
  go_wp2_with fail
  refine (hh.out w2 (HR.out.belowS hb12)).mono ?_
  rintro e w3 ⟨A3, c3', rfl, hown3, hb3⟩
  have hb13 := bel_trans hb12 hb3
  have hs2 := hb12.size
  clear c0 c1 c2 c3 c4 c5 c6 c7
  go_wp2_with fail
  refine (digest_any A3 (13 + n) c3' hb w3 (Reads.of_own hown3) (by omega)).mono ?_
  rintro e w4 ⟨g4, rfl, hr4, hb4⟩
  have hown4 := own_below hown3 hb4
  have hb14 := bel_trans hb13 hb4
  have hs4 := hb4.size
  have hs3 := hb3.size
  clear hown3
  go_wp2_with (at_builtin; refine appB _ rfl _ _ rfl w2.heap.size A3 (13 + n) c3' hb rfl hown4 _ (some ⟨g4, 0, none⟩) 32 32 (shaOf hb) rfl hr4 (by omega) (by omega) ?_; intro A5 c5 w5 hown5 hg5 hb5)
  rw [← HD.out] at hown5
  have hb15 := hb14.trans (hb5.mono hs2)
  have hs5 := hb15.size
  have hz5 := hb5.size
  have hsum := hid (imgSum_any A5 (13 + n + 32) c5 (digI hb) w5 (Reads.of_own hown5) (by omega))
  obtain ⟨P4, hP4⟩ : ∃ P4, putB ((crcOf (digI hb)).toNat : Int) 4 = P4 := ⟨_, rfl⟩
  rw [hP4] at hsum
  have HI2 : Hid (IB = digI hb ++ P4) := hid (by rw [HI.out, hP4])
  clear hP4 HI hr4 hown4 hg5
  refine hsum.out.mono ?_
  rintro e w6 ⟨A6, c6, rfl, hown6, hb6⟩
  have hown5' := own_below hown5 hb6
  have hb16 := bel_trans hb15 hb6
  have hs6 := hb6.size
  clear hown5
  go_wp2_with (at_builtin; refine appB _ rfl _ _ rfl w2.heap.size A5 (13 + n + 32) c5 (digI hb) rfl hown5' _ A6 4 c6 P4 rfl (Reads.of_own hown6) (by omega) (by omega) ?_; intro A7 c7 w7 hown7 hg7 hb7; rw [← HI2.out] at hown7; obtain ⟨N, hN⟩ : ∃ N, 13 + n + 32 + 4 = N := ⟨_, rfl⟩; rw [hN] at hown7 ⊢)
  have hown8 := own_mono hown7 hs2
  have hb17 := hb16.trans (hb7.mono hs2)
  obtain rfl : N = 49 + n := by omega
  go_ret2
  exact ⟨A7, c7, rfl, hown8, hb17⟩
end Go.Proofs.Ytojffpfgmlegdaa
