/-
  Are images alike? The document's own answer.
-/
import Derived.Test.YtojffpfgmlegdaaImgWakes
namespace Go.Proofs.Ytojffpfgmlegdaa
open Go.RowKit Go.ChangeShapes Go.WideShapes Go.ChangeAt

def sameI (p q : ImgS) : Bool := (p.part == q.part) && (p.ver == q.ver) && (p.hard == q.hard) && (p.mem == q.mem) && (p.fuel == q.fuel) && (p.sends == q.sends) && (p.recvs == q.recvs) && decide (p.code = q.code)
theorem sameI_refl (p : ImgS) : sameI p p = true := by simp [sameI]
theorem imgs_in (p q : ImgS) (A1 : Option Addr) (c1 : Nat) (A2 : Option Addr) (c2 : Nat) (w : World) : ∃ w1 : World, (w.alloc (.cells #[.int .i64 p.part, .int .i64 p.ver, .int .i64 p.hard, .int .i64 p.mem, .int .i64 p.fuel, .int .i64 p.sends, .int .i64 p.recvs, .slice A1 p.code.length c1] 41)).alloc (.cells #[.int .i64 q.part, .int .i64 q.ver, .int .i64 q.hard, .int .i64 q.mem, .int .i64 q.fuel, .int .i64 q.sends, .int .i64 q.recvs, .slice A2 q.code.length c2] 41) = w1 ∧ Below w.heap.size w w1 ∧ Blk w1 w.heap.size 41 (imgC p A1 c1) ∧ Blk w1 (w.heap.size + 1) 41 (imgC q A2 c2) := by
  refine ⟨_, rfl, ((Below.refl _ _).alloc (Nat.le_refl _) _).alloc (by simp) _, (Blk.new w 41 (imgC p A1 c1)).alloc _, ?_⟩
  exact sh_blk_new2 w _ _ (imgC q A2 c2)
set_option maxRecDepth 100000 in
set_option maxHeartbeats 4000000 in
theorem refSameI_any (p q : ImgS) (A1 : Option Addr) (c1 : Nat) (A2 : Option Addr) (c2 : Nat) (w : World) (h1 : Reads w w.heap.size 1 A1 p.code.length (p.code.map bV)) (h2 : Reads w w.heap.size 1 A2 q.code.length (q.code.map bV)) (l1 : p.code.length ≤ 100000000) (l2 : q.code.length ≤ 100000000) :
    Calls Try.prog 22 #[imgV p A1 c1, imgV q A2 c2] w fun e w' => e = .returned (.bool (sameI p q)) ∧ Below w.heap.size w w' := by
  obtain ⟨w1, hw1, hb1, hp1, hq1⟩ := imgs_in p q A1 c1 A2 c2 w
  have i1 := hid (same_b A1 A2 p.code.length q.code.length c1 c2 p.code q.code w1 (h1.belowS hb1) (h2.belowS hb1) (by omega) (by omega))
  obtain ⟨a0, a1, a2, a3, a4, a5, a6, a7⟩ := img_cells hp1
  obtain ⟨d0, d1, d2, d3, d4, d5, d6, d7⟩ := img_cells hq1
  have HS : Hid (sameI p q = ((p.part == q.part) && (p.ver == q.ver) && (p.hard == q.hard) && (p.mem == q.mem) && (p.fuel == q.fuel) && (p.sends == q.sends) && (p.recvs == q.recvs) && decide (p.code = q.code))) := hid rfl
  clear h1 h2 l1 l2 hp1 hq1
  generalize sameI p q = R at *
  go_enter Try.func22, Try.ntmps22
  by_cases e0 : p.part = q.part
  rotate_left
  · have g0 : (p.part == q.part) = false := by simpa using e0
    have hs : R = false := by rw [HS.out, g0]; simp
    have HS2 := hid hs
    clear e0 hs
    go_wp2_with fail
    go_ret
    exact ⟨by rw [HS2.out]; rfl, hb1⟩
  have g0 : (p.part == q.part) = true := by simpa using e0
  clear e0
  by_cases e1 : p.ver = q.ver
  rotate_left
  · have g1 : (p.ver == q.ver) = false := by simpa using e1
    have hs : R = false := by rw [HS.out, g0, g1]; simp
    have HS2 := hid hs
    clear e1 hs
    go_wp2_with fail
    go_ret
    exact ⟨by rw [HS2.out]; rfl, hb1⟩
  have g1 : (p.ver == q.ver) = true := by simpa using e1
  clear e1
  by_cases e2 : p.hard = q.hard
  rotate_left
  · have g2 : (p.hard == q.hard) = false := by simpa using e2
    have hs : R = false := by rw [HS.out, g0, g1, g2]; simp
    have HS2 := hid hs
    clear e2 hs
    go_wp2_with fail
    go_ret
    exact ⟨by rw [HS2.out]; rfl, hb1⟩
  have g2 : (p.hard == q.hard) = true := by simpa using e2
  clear e2
  by_cases e3 : p.mem = q.mem
  rotate_left
  · have g3 : (p.mem == q.mem) = false := by simpa using e3
    have hs : R = false := by rw [HS.out, g0, g1, g2, g3]; simp
    have HS2 := hid hs
    clear e3 hs
    go_wp2_with fail
    go_ret
    exact ⟨by rw [HS2.out]; rfl, hb1⟩
  have g3 : (p.mem == q.mem) = true := by simpa using e3
  clear e3
  by_cases e4 : p.fuel = q.fuel
  rotate_left
  · have g4 : (p.fuel == q.fuel) = false := by simpa using e4
    have hs : R = false := by rw [HS.out, g0, g1, g2, g3, g4]; simp
    have HS2 := hid hs
    clear e4 hs
    go_wp2_with fail
    go_ret
    exact ⟨by rw [HS2.out]; rfl, hb1⟩
  have g4 : (p.fuel == q.fuel) = true := by simpa using e4
  clear e4
  by_cases e5 : p.sends = q.sends
  rotate_left
  · have g5 : (p.sends == q.sends) = false := by simpa using e5
    have hs : R = false := by rw [HS.out, g0, g1, g2, g3, g4, g5]; simp
    have HS2 := hid hs
    clear e5 hs
    go_wp2_with fail
    go_ret
    exact ⟨by rw [HS2.out]; rfl, hb1⟩
  have g5 : (p.sends == q.sends) = true := by simpa using e5
  clear e5
  by_cases e6 : p.recvs = q.recvs
  rotate_left
  · have g6 : (p.recvs == q.recvs) = false := by simpa using e6
    have hs : R = false := by rw [HS.out, g0, g1, g2, g3, g4, g5, g6]; simp
    have HS2 := hid hs
    clear e6 hs
    go_wp2_with fail
    go_ret
    exact ⟨by rw [HS2.out]; rfl, hb1⟩
  have g6 : (p.recvs == q.recvs) = true := by simpa using e6
  clear e6
  have hs : R = decide (p.code = q.code) := by rw [HS.out, g0, g1, g2, g3, g4, g5, g6]; simp
  have HS2 := hid hs
  clear hs
  go_wp2_with fail
  refine i1.out.mono ?_
  rintro e w2 ⟨rfl, hb2⟩
  go_wp2_with fail
  go_ret
  exact ⟨by rw [HS2.out]; simp, bel_trans hb1 hb2⟩
end Go.Proofs.Ytojffpfgmlegdaa
