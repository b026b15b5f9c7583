/-
  Are images alike? The document's own answer.
  The reference's tail of an image: its digest and its sum.
  The reference's head of an image, and all its bytes.
  The reference of images: is one right?
-/
import Derived.Test.YtojffpfgmlegdaaImgWakes
import Derived.Test.YtojffpfgmlegdaaImgPut
import Derived.Test.YtojffpfgmlegdaaRefOf
import Derived.Test.YtojffpfgmlegdaaNumTx
import Derived.Test.YtojffpfgmlegdaaImgRight
namespace Go.Proofs.Ytojffpfgmlegdaa
open Go.RowKit Go.ChangeShapes Go.WideShapes Go.ChangeAt

def sameI (p q : ImgS) : Bool := (p.part == q.part) && (p.ver == q.ver) && (p.hard == q.hard) && (p.mem == q.mem) && (p.fuel == q.fuel) && (p.sends == q.sends) && (p.recvs == q.recvs) && decide (p.code = q.code)
theorem sameI_refl (p : ImgS) : sameI p p = true := by simp [sameI]
theorem imgs_in (p q : ImgS) (A1 : Option Addr) (c1 : Nat) (A2 : Option Addr) (c2 : Nat) (w : World) : ∃ w1 : World, (w.alloc (.cells #[.int .i64 p.part, .int .i64 p.ver, .int .i64 p.hard, .int .i64 p.mem, .int .i64 p.fuel, .int .i64 p.sends, .int .i64 p.recvs, .slice A1 p.code.length c1] 41)).alloc (.cells #[.int .i64 q.part, .int .i64 q.ver, .int .i64 q.hard, .int .i64 q.mem, .int .i64 q.fuel, .int .i64 q.sends, .int .i64 q.recvs, .slice A2 q.code.length c2] 41) = w1 ∧ Below w.heap.size w w1 ∧ Blk w1 w.heap.size 41 (imgC p A1 c1) ∧ Blk w1 (w.heap.size + 1) 41 (imgC q A2 c2) := by
  refine ⟨_, rfl, ((Below.refl _ _).alloc (Nat.le_refl _) _).alloc (by simp) _, (Blk.new w 41 (imgC p A1 c1)).alloc _, ?_⟩
  exact sh_blk_new2 w _ _ (imgC q A2 c2)
set_option maxRecDepth 100000 in
set_option maxHeartbeats 4000000 in
theorem refSameI_any (p q : ImgS) (A1 : Option Addr) (c1 : Nat) (A2 : Option Addr) (c2 : Nat) (w : World) (h1 : Reads w w.heap.size 1 A1 p.code.length (p.code.map bV)) (h2 : Reads w w.heap.size 1 A2 q.code.length (q.code.map bV)) (l1 : p.code.length ≤ 100000000) (l2 : q.code.length ≤ 100000000) :
    Calls Try.prog 22 #[imgV p A1 c1, imgV q A2 c2] w fun e w' => e = .returned (.bool (sameI p q)) ∧ Below w.heap.size w w' := by
  obtain ⟨w1, hw1, hb1, hp1, hq1⟩ := imgs_in p q A1 c1 A2 c2 w
  have i1 := hid (same_b A1 A2 p.code.length q.code.length c1 c2 p.code q.code w1 (h1.belowS hb1) (h2.belowS hb1) (by omega) (by omega))
  obtain ⟨a0, a1, a2, a3, a4, a5, a6, a7⟩ := img_cells hp1
  obtain ⟨d0, d1, d2, d3, d4, d5, d6, d7⟩ := img_cells hq1
  have HS : Hid (sameI p q = ((p.part == q.part) && (p.ver == q.ver) && (p.hard == q.hard) && (p.mem == q.mem) && (p.fuel == q.fuel) && (p.sends == q.sends) && (p.recvs == q.recvs) && decide (p.code = q.code))) := hid rfl
  clear h1 h2 l1 l2 hp1 hq1
  generalize sameI p q = R at *
  go_enter Try.func22, Try.ntmps22
  by_cases e0 : p.part = q.part
  rotate_left
  · have g0 : (p.part == q.part) = false := by simpa using e0
    have hs : R = false := by rw [HS.out, g0]; simp
    have HS2 := hid hs
    clear e0 hs
    go_wp2_with fail
    go_ret
    exact ⟨by rw [HS2.out]; rfl, hb1⟩
  have g0 : (p.part == q.part) = true := by simpa using e0
  clear e0
  by_cases e1 : p.ver = q.ver
  rotate_left
  · have g1 : (p.ver == q.ver) = false := by simpa using e1
    have hs : R = false := by rw [HS.out, g0, g1]; simp
    have HS2 := hid hs
    clear e1 hs
    go_wp2_with fail
    go_ret
    exact ⟨by rw [HS2.out]; rfl, hb1⟩
  have g1 : (p.ver == q.ver) = true := by simpa using e1
  clear e1
  by_cases e2 : p.hard = q.hard
  rotate_left
  · have g2 : (p.hard == q.hard) = false := by simpa using e2
    have hs : R = false := by rw [HS.out, g0, g1, g2]; simp
    have HS2 := hid hs
    clear e2 hs
    go_wp2_with fail
    go_ret
    exact ⟨by rw [HS2.out]; rfl, hb1⟩
  have g2 : (p.hard == q.hard) = true := by simpa using e2
  clear e2
  by_cases e3 : p.mem = q.mem
  rotate_left
  · have g3 : (p.mem == q.mem) = false := by simpa using e3
    have hs : R = false := by rw [HS.out, g0, g1, g2, g3]; simp
    have HS2 := hid hs
    clear e3 hs
    go_wp2_with fail
    go_ret
    exact ⟨by rw [HS2.out]; rfl, hb1⟩
  have g3 : (p.mem == q.mem) = true := by simpa using e3
  clear e3
  by_cases e4 : p.fuel = q.fuel
  rotate_left
  · have g4 : (p.fuel == q.fuel) = false := by simpa using e4
    have hs : R = false := by rw [HS.out, g0, g1, g2, g3, g4]; simp
    have HS2 := hid hs
    clear e4 hs
    go_wp2_with fail
    go_ret
    exact ⟨by rw [HS2.out]; rfl, hb1⟩
  have g4 : (p.fuel == q.fuel) = true := by simpa using e4
  clear e4
  by_cases e5 : p.sends = q.sends
  rotate_left
  · have g5 : (p.sends == q.sends) = false := by simpa using e5
    have hs : R = false := by rw [HS.out, g0, g1, g2, g3, g4, g5]; simp
    have HS2 := hid hs
    clear e5 hs
    go_wp2_with fail
    go_ret
    exact ⟨by rw [HS2.out]; rfl, hb1⟩
  have g5 : (p.sends == q.sends) = true := by simpa using e5
  clear e5
  by_cases e6 : p.recvs = q.recvs
  rotate_left
  · have g6 : (p.recvs == q.recvs) = false := by simpa using e6
    have hs : R = false := by rw [HS.out, g0, g1, g2, g3, g4, g5, g6]; simp
    have HS2 := hid hs
    clear e6 hs
    go_wp2_with fail
    go_ret
    exact ⟨by rw [HS2.out]; rfl, hb1⟩
  have g6 : (p.recvs == q.recvs) = true := by simpa using e6
  clear e6
  have hs : R = decide (p.code = q.code) := by rw [HS.out, g0, g1, g2, g3, g4, g5, g6]; simp
  have HS2 := hid hs
  clear hs
  go_wp2_with fail
  refine i1.out.mono ?_
  rintro e w2 ⟨rfl, hb2⟩
  go_wp2_with fail
  go_ret
  exact ⟨by rw [HS2.out]; simp, bel_trans hb1 hb2⟩
end Go.Proofs.Ytojffpfgmlegdaa
namespace Go.Proofs.Ytojffpfgmlegdaa
open Go.RowKit

def tailB (b : List UInt8) : List UInt8 := digI b ++ putB ((crcOf (digI b)).toNat : Int) 4
set_option maxRecDepth 20000 in
set_option maxHeartbeats 2000000 in
theorem refTail_any (A : Option Addr) (n c : Nat) (bs : List UInt8) (w : World) (hr : Reads w w.heap.size 1 A n (bs.map bV)) (hn : n ≤ 1000) :
    Calls Try.prog 40 #[.slice A n c] w fun e w' => ∃ A' c', e = .returned (.slice A' (n + 36) c') ∧ w'.ownsRow w.heap.size 5 1 (.slice A' (n + 36) c') (n + 36) ((tailB bs).map bV) ∧ Below w.heap.size w w' := by
  obtain ⟨i0, hi0, hz0, hz1, hz2⟩ := info_parts info_u8
  have HR := hid hr
  obtain ⟨SU, hSU⟩ : ∃ SU, shaOf bs = SU := ⟨_, rfl⟩
  have HSL : Hid (SU.length = 32) := hid (by rw [← hSU]; rfl)
  have HTB : Hid (tailB bs = bs ++ SU ++ putB ((crcOf (bs ++ SU)).toNat : Int) 4) := hid (by rw [← hSU]; rfl)
  go_enter Try.func40, Try.ntmps40
  go_wp2_with (at_builtin; refine appB _ rfl (.tmp 4) (.tmp 5) rfl w.heap.size none 0 0 [] rfl (World.ownsRow_nil _ _ _ _) w.heap.size A n c bs rfl hr (by omega) (Nat.le_refl _) ?_; intro A1 c1 w1 hown1' hg1 hb1; have hown1 : w1.ownsRow w.heap.size 5 1 (.slice A1 n c1) n (bs.map bV) := by rw [Nat.zero_add, List.nil_append] at hown1'; exact hown1')
  have hs1 := hb1.size
  refine (refKnow_any w1).mono ?_
  rintro e w2 ⟨AF, cF, AR, cR, rfl, hF, hK, hF1, hF2, hK1, hK2, hb2⟩
  have hb12 := hb1.trans (hb2.mono hs1)
  have hs2 := hb2.size
  go_wp2_with fail
  refine (refOf_any AF AR cF cR A n c bs w2 hF hK hF1 hF2 hK1 hK2 (HR.out.belowS hb12) (by omega)).mono ?_
  rw [hSU]
  rintro e w3 ⟨A3, c3, rfl, ho3, hb3⟩
  have hr3 := Reads.of_own ho3
  have hs3 := hb3.size
  have hO1 := own_below (own_below hown1 hb2) (hb3)
  have hb13 := hb12.trans (hb3.mono (by omega))
  have HB13 := hid hb13
  clear hb1 hb2 hb3 hb12 hF hK hown1 ho3 hr
  go_wp2_with (at_builtin; refine appB _ rfl (.tmp 7) (.tmp 10) rfl w.heap.size A1 n c1 bs rfl hO1 w3.heap.size A3 32 c3 SU rfl hr3 (by omega) (by omega) ?_; intro A4 c4 w4 hown4 hg4 hb4)
  have HO4 := hid hown4
  have HB4 : Hid (Below w.heap.size w w4) := hid (HB13.out.trans hb4)
  clear hown4 hg4 hb4 hO1 hr3
  obtain ⟨C, hC⟩ : ∃ C, (crcOf (bs ++ SU)).toNat = C := ⟨_, rfl⟩
  obtain ⟨PB, hPB⟩ : ∃ PB, putB (C : Int) 4 = PB := ⟨_, rfl⟩
  have HPB := hid hPB
  have hCl : C < 4294967296 := by rw [← hC]; exact (crcOf (bs ++ SU)).isLt
  have HC := hid hC
  refine (refSum_any A4 (n + 32) c4 (bs ++ SU) _ w4 (Reads.of_own HO4.out) (by omega)).mono ?_
  rintro e w5 ⟨rfl, rfl⟩
  rw [show uV (crcOf (bs ++ SU)) = .int .u32 (C : Int) by rw [← hC]]
  clear hC
  go_wp2_with fail
  refine (refPut_any (C : Int) 4 w4 (by omega)).mono ?_
  rw [show wid 4 = 4 by decide, hPB]
  clear hCl hPB
  rintro e w6 ⟨A6, c6, rfl, ho6, hb6⟩
  have hr6 := Reads.of_own ho6
  have hO4 := own_below HO4.out hb6
  have hs4 := HB4.out.size
  have hs6 := hb6.size
  have HB6 : Hid (Below w.heap.size w w6) := hid (HB4.out.trans (hb6.mono hs4))
  go_wp2_with (at_builtin; refine appB _ rfl (.tmp 12) (.tmp 16) rfl w.heap.size A4 (n + 32) c4 (bs ++ SU) rfl hO4 w6.heap.size A6 4 c6 PB rfl hr6 (by omega) (by omega) ?_; intro A7 c7 w7 hown7 hg7 hb7)
  go_ret
  exact ⟨A7, c7, rfl, by rw [HTB.out, HC.out, HPB.out]; exact hown7, HB6.out.trans hb7⟩
end Go.Proofs.Ytojffpfgmlegdaa
namespace Go.Proofs.Ytojffpfgmlegdaa
open Go.RowKit

theorem putB_1 (x : Nat) (h : x < 256) : putB (x : Int) 1 = [UInt8.ofNat x] := by
  rw [putB_small _ _ (by simp; omega)]
  simp [digs, dig, List.range_succ]
theorem putB_2 (x : Nat) (h : x < 65536) : putB (x : Int) 2 = [UInt8.ofNat (x / 256), UInt8.ofNat (x % 256)] := by
  rw [putB_small _ _ (by simp; omega)]
  simp [digs, dig, List.range_succ]
  exact UInt8.toNat_inj.1 (by rw [UInt8.toNat_ofNat', UInt8.toNat_ofNat', Nat.mod_mod])
def head11 (p0 p1 p2 p3 p4 p5 p6 : Nat) : List UInt8 := [76, 73, UInt8.ofNat p0, UInt8.ofNat (p1 / 256), UInt8.ofNat (p1 % 256), UInt8.ofNat (p2 / 256), UInt8.ofNat (p2 % 256), UInt8.ofNat p3, UInt8.ofNat p4, UInt8.ofNat p5, UInt8.ofNat p6]
theorem head11_eq (p0 p1 p2 p3 p4 p5 p6 : Nat) (code : List UInt8) (h0 : p0 ≤ 3) (h1 : p1 ≤ 65535) (h2 : p2 ≤ 65535) (h3 : p3 ≤ 16) (h4 : p4 ≤ 32) (h5 : p5 ≤ 15) (h6 : p6 ≤ 15) : headB ⟨p0, p1, p2, p3, p4, p5, p6, code⟩ = head11 p0 p1 p2 p3 p4 p5 p6 ++ textB code := by
  have e : putB 19529 2 = [76, 73] := by decide
  unfold headB headK headA four4 head11
  simp only [List.take, List.flatMap_cons, List.flatMap_nil, e, putB_1 p0 (by omega), putB_2 p1 (by omega), putB_2 p2 (by omega), putB_1 p3 (by omega), putB_1 p4 (by omega), putB_1 p5 (by omega), putB_1 p6 (by omega)]
  rfl
theorem head11_map (p0 p1 p2 p3 p4 p5 p6 : Nat) (h0 : p0 ≤ 3) (h1 : p1 ≤ 65535) (h2 : p2 ≤ 65535) (h3 : p3 ≤ 16) (h4 : p4 ≤ 32) (h5 : p5 ≤ 15) (h6 : p6 ≤ 15) : (head11 p0 p1 p2 p3 p4 p5 p6).map bV = [.int .u8 76, .int .u8 73, .int .u8 (p0 : Int), .int .u8 ((p1 : Int) / 256), .int .u8 ((p1 : Int) % 256), .int .u8 ((p2 : Int) / 256), .int .u8 ((p2 : Int) % 256), .int .u8 (p3 : Int), .int .u8 (p4 : Int), .int .u8 (p5 : Int), .int .u8 (p6 : Int)] := by
  have k : ∀ x : Nat, x < 256 → bV (UInt8.ofNat x) = .int .u8 (x : Int) := fun x hx => by rw [← byte_of2, Nat.mod_eq_of_lt hx]
  simp only [head11, List.map_cons, List.map_nil, k p0 (by omega), k (p1 / 256) (by omega), k (p1 % 256) (by omega), k (p2 / 256) (by omega), k (p2 % 256) (by omega), k p3 (by omega), k p4 (by omega), k p5 (by omega), k p6 (by omega)]
  rfl
theorem own_built2 (w : World) (o : Obj) (cs : List Value) (e : TypeId) (n : Nat) (hn : cs.length = n) (hm : n ≤ 1000) : ((w.alloc o).alloc (.cells cs.toArray e)).ownsRow w.heap.size e 1 (.slice (some ⟨w.heap.size + 1, 0, none⟩) n n) n cs := by
  have hh := heap_alloc_new (w.alloc o) (.cells cs.toArray e)
  rw [show (w.alloc o).heap.size = w.heap.size + 1 by simp] at hh
  refine ⟨by omega, .inr ⟨w.heap.size + 1, n, cs.toArray, rfl, by omega, hh, Nat.le_refl _, by simp [maxLen]; omega, by simp; omega, ?_⟩⟩
  rw [Nat.mul_one]
  exact List.take_of_length_le (by simp; omega)
set_option maxRecDepth 20000 in
set_option maxHeartbeats 2000000 in
theorem refHeadI_any (p0 p1 p2 p3 p4 p5 p6 : Nat) (code : List UInt8) (A : Option Addr) (c : Nat) (w : World) (hr : Reads w w.heap.size 1 A code.length (code.map bV)) (hlc : code.length ≤ c) (hc : c ≤ maxLen) (h : RightI ⟨p0, p1, p2, p3, p4, p5, p6, code⟩) :
    Calls Try.prog 41 #[.agg #[.int .i64 (p0 : Int), .int .i64 (p1 : Int), .int .i64 (p2 : Int), .int .i64 (p3 : Int), .int .i64 (p4 : Int), .int .i64 (p5 : Int), .int .i64 (p6 : Int), .slice A code.length c]] w fun e w' => ∃ A' c', e = .returned (.slice A' (13 + code.length) c') ∧ w'.ownsRow w.heap.size 5 1 (.slice A' (13 + code.length) c') (13 + code.length) ((headB ⟨p0, p1, p2, p3, p4, p5, p6, code⟩).map bV) ∧ Below w.heap.size w w' := by
  obtain ⟨⟨_, h0⟩, ⟨_, h1⟩, ⟨_, h2⟩, ⟨_, h3⟩, ⟨_, h4⟩, ⟨_, h5⟩, ⟨_, h6⟩, _, h7⟩ := h
  simp only at h0 h1 h2 h3 h4 h5 h6 h7
  go_enter Try.func41, Try.ntmps41
  go_wp2_with fail
  have HM := head11_map p0 p1 p2 p3 p4 p5 p6 (by omega) (by omega) (by omega) (by omega) (by omega) (by omega) (by omega)
  have HE := hid (head11_eq p0 p1 p2 p3 p4 p5 p6 code (by omega) (by omega) (by omega) (by omega) (by omega) (by omega) (by omega))
  have ho2 := own_built2 w (.cells #[.int .i64 (p0 : Int), .int .i64 (p1 : Int), .int .i64 (p2 : Int), .int .i64 (p3 : Int), .int .i64 (p4 : Int), .int .i64 (p5 : Int), .int .i64 (p6 : Int), .slice A code.length c] 41) ((head11 p0 p1 p2 p3 p4 p5 p6).map bV) 5 11 rfl (by decide)
  rw [HM] at ho2
  rw [← HM] at ho2
  have hb2 : Below w.heap.size w ((w.alloc (.cells #[.int .i64 (p0 : Int), .int .i64 (p1 : Int), .int .i64 (p2 : Int), .int .i64 (p3 : Int), .int .i64 (p4 : Int), .int .i64 (p5 : Int), .int .i64 (p6 : Int), .slice A code.length c] 41)).alloc (.cells ((head11 p0 p1 p2 p3 p4 p5 p6).map bV).toArray 5)) := ((Below.refl _ _).alloc (Nat.le_refl _) _).alloc (by simp) _
  rw [HM] at ho2 hb2
  obtain ⟨w2, hw2⟩ : ∃ W : World, ((w.alloc (.cells #[.int .i64 (p0 : Int), .int .i64 (p1 : Int), .int .i64 (p2 : Int), .int .i64 (p3 : Int), .int .i64 (p4 : Int), .int .i64 (p5 : Int), .int .i64 (p6 : Int), .slice A code.length c] 41)).alloc (.cells #[.int .u8 76, .int .u8 73, .int .u8 (p0 : Int), .int .u8 ((p1 : Int) / 256), .int .u8 ((p1 : Int) % 256), .int .u8 ((p2 : Int) / 256), .int .u8 ((p2 : Int) % 256), .int .u8 (p3 : Int), .int .u8 (p4 : Int), .int .u8 (p5 : Int), .int .u8 (p6 : Int)] 5)) = W := ⟨_, rfl⟩
  rw [hw2]
  rw [show (#[.int .u8 76, .int .u8 73, .int .u8 (p0 : Int), .int .u8 ((p1 : Int) / 256), .int .u8 ((p1 : Int) % 256), .int .u8 ((p2 : Int) / 256), .int .u8 ((p2 : Int) % 256), .int .u8 (p3 : Int), .int .u8 (p4 : Int), .int .u8 (p5 : Int), .int .u8 (p6 : Int)] : Array Value) = [.int .u8 76, .int .u8 73, .int .u8 (p0 : Int), .int .u8 ((p1 : Int) / 256), .int .u8 ((p1 : Int) % 256), .int .u8 ((p2 : Int) / 256), .int .u8 ((p2 : Int) % 256), .int .u8 (p3 : Int), .int .u8 (p4 : Int), .int .u8 (p5 : Int), .int .u8 (p6 : Int)].toArray from rfl] at hw2
  rw [hw2] at ho2 hb2
  rw [← HM] at ho2
  have hs2 := hb2.size
  refine (refText_any A code.length c code w2 (hr.belowS hb2) hlc hc).mono ?_
  rw [show 2 + min code.length 65535 = 2 + code.length by omega]
  rintro e w3 ⟨A3, c3, rfl, ho3, hb3⟩
  have hr3 := Reads.of_own ho3
  have ho2' := own_below ho2 hb3
  have hb23 := hb2.trans (hb3.mono hs2)
  have hs3 := hb23.size
  obtain ⟨H11, hH⟩ : ∃ H, head11 p0 p1 p2 p3 p4 p5 p6 = H := ⟨_, rfl⟩
  rw [hH] at ho2' HE
  clear hw2 HM hH ho2 ho3
  go_wp2_with (at_builtin; refine appB _ rfl (.tmp 36) (.tmp 39) rfl w.heap.size _ 11 11 H11 rfl ho2' w3.heap.size A3 (2 + code.length) c3 (textB code) rfl hr3 (by omega) hs3 ?_; intro A7 c7 w7 hown7 hg7 hb7)
  go_ret
  rw [show 13 + code.length = 11 + (2 + code.length) by omega]
  exact ⟨A7, c7, rfl, by rw [HE.out]; exact hown7, hb23.trans hb7⟩
/-- All bytes of an image that is right, as the reference lays them. -/
theorem refBytesI_any (p0 p1 p2 p3 p4 p5 p6 : Nat) (code : List UInt8) (A : Option Addr) (c : Nat) (w : World) (hr : Reads w w.heap.size 1 A code.length (code.map bV)) (hlc : code.length ≤ c) (hc : c ≤ maxLen) (h : RightI ⟨p0, p1, p2, p3, p4, p5, p6, code⟩) :
    Calls Try.prog 28 #[.agg #[.int .i64 (p0 : Int), .int .i64 (p1 : Int), .int .i64 (p2 : Int), .int .i64 (p3 : Int), .int .i64 (p4 : Int), .int .i64 (p5 : Int), .int .i64 (p6 : Int), .slice A code.length c]] w fun e w' => ∃ A' c', e = .returned (.slice A' (49 + code.length) c') ∧ w'.ownsRow w.heap.size 5 1 (.slice A' (49 + code.length) c') (49 + code.length) ((imgB ⟨p0, p1, p2, p3, p4, p5, p6, code⟩).map bV) ∧ Below w.heap.size w w' := by
  have hl : code.length ≤ 96 := by have := h.2.2.2.2.2.2.2.2; simp only at this; omega
  go_enter Try.func28, Try.ntmps28
  go_wp2_with fail
  obtain ⟨w0, hw0, hb0⟩ : ∃ W : World, (w.alloc (.cells #[.int .i64 (p0 : Int), .int .i64 (p1 : Int), .int .i64 (p2 : Int), .int .i64 (p3 : Int), .int .i64 (p4 : Int), .int .i64 (p5 : Int), .int .i64 (p6 : Int), .slice A code.length c] 41)) = W ∧ Below w.heap.size w W := ⟨_, rfl, (Below.refl _ _).alloc (Nat.le_refl _) _⟩
  rw [hw0]
  clear hw0
  have hs0 := hb0.size
  refine (refHeadI_any p0 p1 p2 p3 p4 p5 p6 code A c w0 (hr.belowS hb0) hlc hc h).mono ?_
  rintro e w1 ⟨A1, c1, rfl, ho1, hb1⟩
  have hs1 := hb1.size
  go_wp2_with fail
  refine (refTail_any A1 (13 + code.length) c1 _ w1 (Reads.of_own ho1) (by omega)).mono ?_
  rw [show 13 + code.length + 36 = 49 + code.length by omega]
  rintro e w2 ⟨A2, c2, rfl, ho2, hb2⟩
  go_wp2_with fail
  go_ret
  exact ⟨A2, c2, rfl, own_mono ho2 (by omega), hb0.trans ((hb1.trans (hb2.mono hs1)).mono hs0)⟩
end Go.Proofs.Ytojffpfgmlegdaa
namespace Go.Proofs.Ytojffpfgmlegdaa
open Go.RowKit

set_option maxRecDepth 100000 in
set_option maxHeartbeats 4000000 in
theorem refRightI_any (i : ImgS) (A : Option Addr) (c : Nat) (w : World) (hl : i.code.length ≤ 9223372036854775807) :
    Calls Try.prog 25 #[imgV i A c] w fun e w' => e = .returned (.bool (rightI i)) ∧ Below w.heap.size w w' := by
  have HI := hid (rightI_iff i)
  unfold RightI at HI
  obtain ⟨i0, i1, i2, i3, i4, i5, i6, code⟩ := i
  simp only [imgV] at HI hl ⊢
  generalize rightI ⟨i0, i1, i2, i3, i4, i5, i6, code⟩ = R at *
  generalize code.length = n at *
  obtain ⟨w1, hw1, hb1, hblk⟩ : ∃ w1 : World, w.alloc (.cells #[.int .i64 i0, .int .i64 i1, .int .i64 i2, .int .i64 i3, .int .i64 i4, .int .i64 i5, .int .i64 i6, .slice A n c] 41) = w1 ∧ Below w.heap.size w w1 ∧ Blk w1 w.heap.size 41 [.int .i64 i0, .int .i64 i1, .int .i64 i2, .int .i64 i3, .int .i64 i4, .int .i64 i5, .int .i64 i6, .slice A n c] :=
    ⟨_, rfl, (Below.refl _ _).alloc (Nat.le_refl _) _, Blk.new w _ [.int .i64 i0, .int .i64 i1, .int .i64 i2, .int .i64 i3, .int .i64 i4, .int .i64 i5, .int .i64 i6, .slice A n c]⟩
  have c0 := hblk.cellAt (i := 0) rfl
  have c1 := hblk.cellAt (i := 1) rfl
  have c2 := hblk.cellAt (i := 2) rfl
  have c3 := hblk.cellAt (i := 3) rfl
  have c4 := hblk.cellAt (i := 4) rfl
  have c5 := hblk.cellAt (i := 5) rfl
  have c6 := hblk.cellAt (i := 6) rfl
  have c7 := hblk.cellAt (i := 7) rfl
  clear hblk
  by_cases h0 : i0 < 0
  · have hR : R = false := Bool.eq_false_iff.2 (fun h => by have := HI.out.1 h; omega)
    subst hR
    have y0 : decide (i0 < 0) = true := by simp; omega
    clear h0 HI
    go_enter Try.func25, Try.ntmps25
    go_wp2_with fail
    go_ret
    exact ⟨ret_bool (by first | rfl | (simp; omega)), hb1⟩
  ·
    by_cases h1 : 3 < i0
    · have hR : R = false := Bool.eq_false_iff.2 (fun h => by have := HI.out.1 h; omega)
      subst hR
      have y0 : decide (i0 < 0) = false := by simp; omega
      have y1 : decide (3 < i0) = true := by simp; omega
      clear h0 h1 HI
      go_enter Try.func25, Try.ntmps25
      go_wp2_with fail
      go_ret
      exact ⟨ret_bool (by first | rfl | (simp; omega)), hb1⟩
    ·
      by_cases h2 : i1 < 1
      · have hR : R = false := Bool.eq_false_iff.2 (fun h => by have := HI.out.1 h; omega)
        subst hR
        have y0 : decide (i0 < 0) = false := by simp; omega
        have y1 : decide (3 < i0) = false := by simp; omega
        have y2 : decide (i1 < 1) = true := by simp; omega
        clear h0 h1 h2 HI
        go_enter Try.func25, Try.ntmps25
        go_wp2_with fail
        go_ret
        exact ⟨ret_bool (by first | rfl | (simp; omega)), hb1⟩
      ·
        by_cases h3 : 65535 < i1
        · have hR : R = false := Bool.eq_false_iff.2 (fun h => by have := HI.out.1 h; omega)
          subst hR
          have y0 : decide (i0 < 0) = false := by simp; omega
          have y1 : decide (3 < i0) = false := by simp; omega
          have y2 : decide (i1 < 1) = false := by simp; omega
          have y3 : decide (65535 < i1) = true := by simp; omega
          clear h0 h1 h2 h3 HI
          go_enter Try.func25, Try.ntmps25
          go_wp2_with fail
          go_ret
          exact ⟨ret_bool (by first | rfl | (simp; omega)), hb1⟩
        ·
          by_cases h4 : i2 < 0
          · have hR : R = false := Bool.eq_false_iff.2 (fun h => by have := HI.out.1 h; omega)
            subst hR
            have y0 : decide (i0 < 0) = false := by simp; omega
            have y1 : decide (3 < i0) = false := by simp; omega
            have y2 : decide (i1 < 1) = false := by simp; omega
            have y3 : decide (65535 < i1) = false := by simp; omega
            have y4 : decide (i2 < 0) = true := by simp; omega
            clear h0 h1 h2 h3 h4 HI
            go_enter Try.func25, Try.ntmps25
            go_wp2_with fail
            go_ret
            exact ⟨ret_bool (by first | rfl | (simp; omega)), hb1⟩
          ·
            by_cases h5 : 65535 < i2
            · have hR : R = false := Bool.eq_false_iff.2 (fun h => by have := HI.out.1 h; omega)
              subst hR
              have y0 : decide (i0 < 0) = false := by simp; omega
              have y1 : decide (3 < i0) = false := by simp; omega
              have y2 : decide (i1 < 1) = false := by simp; omega
              have y3 : decide (65535 < i1) = false := by simp; omega
              have y4 : decide (i2 < 0) = false := by simp; omega
              have y5 : decide (65535 < i2) = true := by simp; omega
              clear h0 h1 h2 h3 h4 h5 HI
              go_enter Try.func25, Try.ntmps25
              go_wp2_with fail
              go_ret
              exact ⟨ret_bool (by first | rfl | (simp; omega)), hb1⟩
            ·
              by_cases h6 : i3 < 1
              · have hR : R = false := Bool.eq_false_iff.2 (fun h => by have := HI.out.1 h; omega)
                subst hR
                have y0 : decide (i0 < 0) = false := by simp; omega
                have y1 : decide (3 < i0) = false := by simp; omega
                have y2 : decide (i1 < 1) = false := by simp; omega
                have y3 : decide (65535 < i1) = false := by simp; omega
                have y4 : decide (i2 < 0) = false := by simp; omega
                have y5 : decide (65535 < i2) = false := by simp; omega
                have y6 : decide (i3 < 1) = true := by simp; omega
                clear h0 h1 h2 h3 h4 h5 h6 HI
                go_enter Try.func25, Try.ntmps25
                go_wp2_with fail
                go_ret
                exact ⟨ret_bool (by first | rfl | (simp; omega)), hb1⟩
              ·
                by_cases h7 : 16 < i3
                · have hR : R = false := Bool.eq_false_iff.2 (fun h => by have := HI.out.1 h; omega)
                  subst hR
                  have y0 : decide (i0 < 0) = false := by simp; omega
                  have y1 : decide (3 < i0) = false := by simp; omega
                  have y2 : decide (i1 < 1) = false := by simp; omega
                  have y3 : decide (65535 < i1) = false := by simp; omega
                  have y4 : decide (i2 < 0) = false := by simp; omega
                  have y5 : decide (65535 < i2) = false := by simp; omega
                  have y6 : decide (i3 < 1) = false := by simp; omega
                  have y7 : decide (16 < i3) = true := by simp; omega
                  clear h0 h1 h2 h3 h4 h5 h6 h7 HI
                  go_enter Try.func25, Try.ntmps25
                  go_wp2_with fail
                  go_ret
                  exact ⟨ret_bool (by first | rfl | (simp; omega)), hb1⟩
                ·
                  by_cases h8 : i4 < 1
                  · have hR : R = false := Bool.eq_false_iff.2 (fun h => by have := HI.out.1 h; omega)
                    subst hR
                    have y0 : decide (i0 < 0) = false := by simp; omega
                    have y1 : decide (3 < i0) = false := by simp; omega
                    have y2 : decide (i1 < 1) = false := by simp; omega
                    have y3 : decide (65535 < i1) = false := by simp; omega
                    have y4 : decide (i2 < 0) = false := by simp; omega
                    have y5 : decide (65535 < i2) = false := by simp; omega
                    have y6 : decide (i3 < 1) = false := by simp; omega
                    have y7 : decide (16 < i3) = false := by simp; omega
                    have y8 : decide (i4 < 1) = true := by simp; omega
                    clear h0 h1 h2 h3 h4 h5 h6 h7 h8 HI
                    go_enter Try.func25, Try.ntmps25
                    go_wp2_with fail
                    go_ret
                    exact ⟨ret_bool (by first | rfl | (simp; omega)), hb1⟩
                  ·
                    by_cases h9 : 32 < i4
                    · have hR : R = false := Bool.eq_false_iff.2 (fun h => by have := HI.out.1 h; omega)
                      subst hR
                      have y0 : decide (i0 < 0) = false := by simp; omega
                      have y1 : decide (3 < i0) = false := by simp; omega
                      have y2 : decide (i1 < 1) = false := by simp; omega
                      have y3 : decide (65535 < i1) = false := by simp; omega
                      have y4 : decide (i2 < 0) = false := by simp; omega
                      have y5 : decide (65535 < i2) = false := by simp; omega
                      have y6 : decide (i3 < 1) = false := by simp; omega
                      have y7 : decide (16 < i3) = false := by simp; omega
                      have y8 : decide (i4 < 1) = false := by simp; omega
                      have y9 : decide (32 < i4) = true := by simp; omega
                      clear h0 h1 h2 h3 h4 h5 h6 h7 h8 h9 HI
                      go_enter Try.func25, Try.ntmps25
                      go_wp2_with fail
                      go_ret
                      exact ⟨ret_bool (by first | rfl | (simp; omega)), hb1⟩
                    ·
                      by_cases h10 : i5 < 0
                      · have hR : R = false := Bool.eq_false_iff.2 (fun h => by have := HI.out.1 h; omega)
                        subst hR
                        have y0 : decide (i0 < 0) = false := by simp; omega
                        have y1 : decide (3 < i0) = false := by simp; omega
                        have y2 : decide (i1 < 1) = false := by simp; omega
                        have y3 : decide (65535 < i1) = false := by simp; omega
                        have y4 : decide (i2 < 0) = false := by simp; omega
                        have y5 : decide (65535 < i2) = false := by simp; omega
                        have y6 : decide (i3 < 1) = false := by simp; omega
                        have y7 : decide (16 < i3) = false := by simp; omega
                        have y8 : decide (i4 < 1) = false := by simp; omega
                        have y9 : decide (32 < i4) = false := by simp; omega
                        have y10 : decide (i5 < 0) = true := by simp; omega
                        clear h0 h1 h2 h3 h4 h5 h6 h7 h8 h9 h10 HI
                        go_enter Try.func25, Try.ntmps25
                        go_wp2_with fail
                        go_ret
                        exact ⟨ret_bool (by first | rfl | (simp; omega)), hb1⟩
                      ·
                        by_cases h11 : 15 < i5
                        · have hR : R = false := Bool.eq_false_iff.2 (fun h => by have := HI.out.1 h; omega)
                          subst hR
                          have y0 : decide (i0 < 0) = false := by simp; omega
                          have y1 : decide (3 < i0) = false := by simp; omega
                          have y2 : decide (i1 < 1) = false := by simp; omega
                          have y3 : decide (65535 < i1) = false := by simp; omega
                          have y4 : decide (i2 < 0) = false := by simp; omega
                          have y5 : decide (65535 < i2) = false := by simp; omega
                          have y6 : decide (i3 < 1) = false := by simp; omega
                          have y7 : decide (16 < i3) = false := by simp; omega
                          have y8 : decide (i4 < 1) = false := by simp; omega
                          have y9 : decide (32 < i4) = false := by simp; omega
                          have y10 : decide (i5 < 0) = false := by simp; omega
                          have y11 : decide (15 < i5) = true := by simp; omega
                          clear h0 h1 h2 h3 h4 h5 h6 h7 h8 h9 h10 h11 HI
                          go_enter Try.func25, Try.ntmps25
                          go_wp2_with fail
                          go_ret
                          exact ⟨ret_bool (by first | rfl | (simp; omega)), hb1⟩
                        ·
                          by_cases h12 : i6 < 0
                          · have hR : R = false := Bool.eq_false_iff.2 (fun h => by have := HI.out.1 h; omega)
                            subst hR
                            have y0 : decide (i0 < 0) = false := by simp; omega
                            have y1 : decide (3 < i0) = false := by simp; omega
                            have y2 : decide (i1 < 1) = false := by simp; omega
                            have y3 : decide (65535 < i1) = false := by simp; omega
                            have y4 : decide (i2 < 0) = false := by simp; omega
                            have y5 : decide (65535 < i2) = false := by simp; omega
                            have y6 : decide (i3 < 1) = false := by simp; omega
                            have y7 : decide (16 < i3) = false := by simp; omega
                            have y8 : decide (i4 < 1) = false := by simp; omega
                            have y9 : decide (32 < i4) = false := by simp; omega
                            have y10 : decide (i5 < 0) = false := by simp; omega
                            have y11 : decide (15 < i5) = false := by simp; omega
                            have y12 : decide (i6 < 0) = true := by simp; omega
                            clear h0 h1 h2 h3 h4 h5 h6 h7 h8 h9 h10 h11 h12 HI
                            go_enter Try.func25, Try.ntmps25
                            go_wp2_with fail
                            go_ret
                            exact ⟨ret_bool (by first | rfl | (simp; omega)), hb1⟩
                          ·
                            by_cases h13 : 15 < i6
                            · have hR : R = false := Bool.eq_false_iff.2 (fun h => by have := HI.out.1 h; omega)
                              subst hR
                              have y0 : decide (i0 < 0) = false := by simp; omega
                              have y1 : decide (3 < i0) = false := by simp; omega
                              have y2 : decide (i1 < 1) = false := by simp; omega
                              have y3 : decide (65535 < i1) = false := by simp; omega
                              have y4 : decide (i2 < 0) = false := by simp; omega
                              have y5 : decide (65535 < i2) = false := by simp; omega
                              have y6 : decide (i3 < 1) = false := by simp; omega
                              have y7 : decide (16 < i3) = false := by simp; omega
                              have y8 : decide (i4 < 1) = false := by simp; omega
                              have y9 : decide (32 < i4) = false := by simp; omega
                              have y10 : decide (i5 < 0) = false := by simp; omega
                              have y11 : decide (15 < i5) = false := by simp; omega
                              have y12 : decide (i6 < 0) = false := by simp; omega
                              have y13 : decide (15 < i6) = true := by simp; omega
                              clear h0 h1 h2 h3 h4 h5 h6 h7 h8 h9 h10 h11 h12 h13 HI
                              go_enter Try.func25, Try.ntmps25
                              go_wp2_with fail
                              go_ret
                              exact ⟨ret_bool (by first | rfl | (simp; omega)), hb1⟩
                            ·
                              by_cases h14 : 1 ≤ (n : Int)
                              ·
                                by_cases h15 : (n : Int) ≤ 96
                                ·
                                  have hR : R = true := HI.out.2 (by omega)
                                  subst hR
                                  have y0 : decide (i0 < 0) = false := by simp; omega
                                  have y1 : decide (3 < i0) = false := by simp; omega
                                  have y2 : decide (i1 < 1) = false := by simp; omega
                                  have y3 : decide (65535 < i1) = false := by simp; omega
                                  have y4 : decide (i2 < 0) = false := by simp; omega
                                  have y5 : decide (65535 < i2) = false := by simp; omega
                                  have y6 : decide (i3 < 1) = false := by simp; omega
                                  have y7 : decide (16 < i3) = false := by simp; omega
                                  have y8 : decide (i4 < 1) = false := by simp; omega
                                  have y9 : decide (32 < i4) = false := by simp; omega
                                  have y10 : decide (i5 < 0) = false := by simp; omega
                                  have y11 : decide (15 < i5) = false := by simp; omega
                                  have y12 : decide (i6 < 0) = false := by simp; omega
                                  have y13 : decide (15 < i6) = false := by simp; omega
                                  have y14 : decide (1 ≤ (n : Int)) = true := by simp; omega
                                  have y15 : decide ((n : Int) ≤ 96) = true := by simp; omega
                                  clear h0 h1 h2 h3 h4 h5 h6 h7 h8 h9 h10 h11 h12 h13 h14 h15 HI
                                  go_enter Try.func25, Try.ntmps25
                                  go_wp2_with fail
                                  go_ret
                                  exact ⟨ret_bool (by first | rfl | (simp; omega)), hb1⟩
                                · have hR : R = false := Bool.eq_false_iff.2 (fun h => by have := HI.out.1 h; omega)
                                  subst hR
                                  have y0 : decide (i0 < 0) = false := by simp; omega
                                  have y1 : decide (3 < i0) = false := by simp; omega
                                  have y2 : decide (i1 < 1) = false := by simp; omega
                                  have y3 : decide (65535 < i1) = false := by simp; omega
                                  have y4 : decide (i2 < 0) = false := by simp; omega
                                  have y5 : decide (65535 < i2) = false := by simp; omega
                                  have y6 : decide (i3 < 1) = false := by simp; omega
                                  have y7 : decide (16 < i3) = false := by simp; omega
                                  have y8 : decide (i4 < 1) = false := by simp; omega
                                  have y9 : decide (32 < i4) = false := by simp; omega
                                  have y10 : decide (i5 < 0) = false := by simp; omega
                                  have y11 : decide (15 < i5) = false := by simp; omega
                                  have y12 : decide (i6 < 0) = false := by simp; omega
                                  have y13 : decide (15 < i6) = false := by simp; omega
                                  have y14 : decide (1 ≤ (n : Int)) = true := by simp; omega
                                  have y15 : decide ((n : Int) ≤ 96) = false := by simp; omega
                                  clear h0 h1 h2 h3 h4 h5 h6 h7 h8 h9 h10 h11 h12 h13 h14 h15 HI
                                  go_enter Try.func25, Try.ntmps25
                                  go_wp2_with fail
                                  go_ret
                                  exact ⟨ret_bool (by first | rfl | (simp; omega)), hb1⟩
                              · have hR : R = false := Bool.eq_false_iff.2 (fun h => by have := HI.out.1 h; omega)
                                subst hR
                                have y0 : decide (i0 < 0) = false := by simp; omega
                                have y1 : decide (3 < i0) = false := by simp; omega
                                have y2 : decide (i1 < 1) = false := by simp; omega
                                have y3 : decide (65535 < i1) = false := by simp; omega
                                have y4 : decide (i2 < 0) = false := by simp; omega
                                have y5 : decide (65535 < i2) = false := by simp; omega
                                have y6 : decide (i3 < 1) = false := by simp; omega
                                have y7 : decide (16 < i3) = false := by simp; omega
                                have y8 : decide (i4 < 1) = false := by simp; omega
                                have y9 : decide (32 < i4) = false := by simp; omega
                                have y10 : decide (i5 < 0) = false := by simp; omega
                                have y11 : decide (15 < i5) = false := by simp; omega
                                have y12 : decide (i6 < 0) = false := by simp; omega
                                have y13 : decide (15 < i6) = false := by simp; omega
                                have y14 : decide (1 ≤ (n : Int)) = false := by simp; omega
                                clear h0 h1 h2 h3 h4 h5 h6 h7 h8 h9 h10 h11 h12 h13 h14 HI
                                go_enter Try.func25, Try.ntmps25
                                go_wp2_with fail
                                go_ret
                                exact ⟨ret_bool (by first | rfl | (simp; omega)), hb1⟩
end Go.Proofs.Ytojffpfgmlegdaa
