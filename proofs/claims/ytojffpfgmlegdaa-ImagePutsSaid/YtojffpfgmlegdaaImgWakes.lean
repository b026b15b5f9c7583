/-
  Law 06: the example holds; an image that came in.
-/
import Derived.Test.YtojffpfgmlegdaaImgPut
namespace Go.Proofs.Ytojffpfgmlegdaa
open Go.RowKit Go.ChangeShapes Go.WideShapes Go.ChangeAt

def imgEx : ImgS := ⟨0, 1, 0, 1, 1, 0, 0, [0]⟩
theorem imgEx_right : rightI imgEx = true := by decide
set_option maxHeartbeats 1000000 in
theorem imgWakes_any (w : World) : Calls Try.prog 20 #[] w fun e w' => e = .returned (.bool true) ∧ Below w.heap.size w w' := by
  have hq := hid (imgPut_yes imgEx (some ⟨w.heap.size, 0, none⟩) 1 (w.alloc (.cells #[.int .u8 0] 5)) ((Reads.new w #[.int .u8 0] _ 1 rfl).more (by simp)) (by decide) (by decide) imgEx_right)
  have hl : (49 + imgEx.code.length) = 50 := by decide
  rw [hl] at hq
  clear hl
  generalize imgB imgEx = IB at *
  simp only [imgV, imgEx, List.length_cons, List.length_nil] at hq
  go_enter Try.func20, Try.ntmps20
  go_wp2_with fail
  refine hq.out.mono ?_
  rintro e w1 ⟨A1, c1, rfl, hown, hb1⟩
  go_wp2_with fail
  go_ret
  exact ⟨by simp, below_of_alloc hb1⟩
def imgC (i : ImgS) (A : Option Addr) (c : Nat) : List Value := [.int .i64 i.part, .int .i64 i.ver, .int .i64 i.hard, .int .i64 i.mem, .int .i64 i.fuel, .int .i64 i.sends, .int .i64 i.recvs, .slice A i.code.length c]
theorem img_in (i : ImgS) (A : Option Addr) (c : Nat) (w : World) : ∃ w1 : World, w.alloc (.cells #[.int .i64 i.part, .int .i64 i.ver, .int .i64 i.hard, .int .i64 i.mem, .int .i64 i.fuel, .int .i64 i.sends, .int .i64 i.recvs, .slice A i.code.length c] 41) = w1 ∧ Below w.heap.size w w1 ∧ Blk w1 w.heap.size 41 (imgC i A c) ∧ w1.heap.size = w.heap.size + 1 :=
  ⟨_, rfl, (Below.refl _ _).alloc (Nat.le_refl _) _, Blk.new w _ (imgC i A c), by simp⟩
theorem img_cells {w : World} {g : Nat} {i : ImgS} {A : Option Addr} {c : Nat} (h : Blk w g 41 (imgC i A c)) : w.cell? ⟨g, 0, none⟩ = some (.int .i64 i.part) ∧ w.cell? ⟨g, 1, none⟩ = some (.int .i64 i.ver) ∧ w.cell? ⟨g, 2, none⟩ = some (.int .i64 i.hard) ∧ w.cell? ⟨g, 3, none⟩ = some (.int .i64 i.mem) ∧ w.cell? ⟨g, 4, none⟩ = some (.int .i64 i.fuel) ∧ w.cell? ⟨g, 5, none⟩ = some (.int .i64 i.sends) ∧ w.cell? ⟨g, 6, none⟩ = some (.int .i64 i.recvs) ∧ w.cell? ⟨g, 7, none⟩ = some (.slice A i.code.length c) :=
  ⟨h.cellAt rfl, h.cellAt rfl, h.cellAt rfl, h.cellAt rfl, h.cellAt rfl, h.cellAt rfl, h.cellAt rfl, h.cellAt rfl⟩
end Go.Proofs.Ytojffpfgmlegdaa
