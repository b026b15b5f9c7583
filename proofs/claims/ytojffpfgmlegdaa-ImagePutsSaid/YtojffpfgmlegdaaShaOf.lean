/-
  Package sha: a new digest, and the digest of bytes.
-/
import Derived.Test.YtojffpfgmlegdaaShaSum
namespace Go.Proofs.Ytojffpfgmlegdaa
open Go.RowKit

theorem sh_blk_arr (w : World) (t : TypeId) (cs : Array Value) (l : List Value) (h : cs = l.toArray) : Blk (w.alloc (.cells cs t)) w.heap.size t l := by
  rw [h]; exact Blk.new w t l
set_option maxRecDepth 20000 in
theorem sh_new_any (w : World) :
    Calls Try.prog 16 #[] w fun e w' => e = .returned (.pointer (some ⟨w.heap.size, 0, none⟩)) ∧ Blk w' w.heap.size 62 (shaC shNew) ∧ Below w.heap.size w w' := by
  go_enter Try.func16, Try.ntmps16
  go_wp2_with fail
  go_ret
  exact ⟨rfl, sh_blk_arr w _ _ _ (by kernel_rfl), (Below.refl _ _).alloc (Nat.le_refl _) _⟩
theorem shNew_part : shNew.part.length = 64 := rfl
theorem sh_write_part (s : ShS) (b : List UInt8) (h : s.part.length = 64) : (s.write b).part.length = 64 := by rw [sh_write_len]; exact h
theorem sh_write_new_n (b : List UInt8) : (shNew.write b).n = b.length := by rw [sh_write_n]; simp [shNew]
theorem shaOf_len (b : List UInt8) : (shaOf b).length = 32 := rfl
set_option maxHeartbeats 1000000 in
theorem sh_of_any (A : Option Addr) (l c : Nat) (bs : List UInt8) (w : World) (hr : Reads w w.heap.size 1 A l (bs.map bV)) (hl : l ≤ 1000000000) :
    Calls Try.prog 12 #[.slice A l c] w fun e w' => e = .returned (.agg ((shaOf bs).map bV).toArray) ∧ Below w.heap.size w w' := by
  have hz := zero32A_run
  have hzs := zero32A_size
  have hbl : bs.length = l := by simpa using hr.len
  obtain ⟨w1, hw1, hsz1, hb1, hblk0⟩ : ∃ w1 : World, w.alloc (.cells zero32A 24) = w1 ∧ w1.heap.size = w.heap.size + 1 ∧ Below w.heap.size w w1 ∧ Blk w1 w.heap.size 24 ((List.replicate 32 (0 : UInt8)).map bV) :=
    ⟨_, rfl, by simp, (Below.refl _ _).alloc (Nat.le_refl _) _, Blk.new w _ ((List.replicate 32 (0 : UInt8)).map bV)⟩
  have H0 := hid hblk0
  have HR := hid (hr.belowS hb1)
  have HR0 := hid hr
  have HBL := hid hbl
  have HB1 := hid hb1
  have HSZ := hid hsz1
  obtain ⟨SU, hSU⟩ : ∃ SU, shaOf bs = SU := ⟨_, rfl⟩
  have HSL : Hid (SU.length = 32) := hid (by rw [← hSU]; rfl)
  have HU : Hid (∀ x, x = bs → (shNew.write x).sum = SU) := hid (fun x hx => by rw [hx]; exact hSU)
  rw [hSU]
  clear hSU hblk0 hbl hb1 hsz1 hr
  go_enter Try.func12, Try.ntmps12
  go_wp2_with fail
  refine (sh_new_any w1).mono ?_
  rintro e w2 ⟨rfl, hx, hb2⟩
  clear hz hzs hw1
  go_wp2_with fail
  refine (sh_write_any w1.heap.size shNew A l c bs w2 hx shNew_part (HR.out.belowS hb2) (by show 0 + l ≤ _; omega) (fun ad h h0 => by
    obtain ⟨ad', e', hlt, _⟩ := HR.out.form h0
    rw [h] at e'
    injection e' with e'
    subst e'
    omega)).mono ?_
  rintro e w3 ⟨rfl, hx3, hg3⟩
  have hb3 := hb2.grown hg3 hb2.size (fun k hk => by injection hk with hk; omega)
  go_wp2_with fail
  refine (sh_sum_any w1.heap.size (shNew.write bs) w3 hx3 (sh_write_part _ _ shNew_part) (by rw [sh_write_new_n, HBL.out]; omega)).mono ?_
  rintro e w4 ⟨rfl, hb4⟩
  rw [HU.out _ rfl]
  have hb14 := hb3.trans (hb4.mono hb3.size)
  have K0 := hid (H0.out.belowS hb14)
  have KB := hid (HB1.out.trans (hb14.mono (by have := HSZ.out; omega)))
  clear hb4 hb14 hb3 hx3 hg3 hb2 hx
  go_wp2_with ((refine wpList_store_row rfl 24 _ _ rfl w.heap.size (SU.map bV).toArray rfl rfl 24 _ K0.out (sh_info32 _ (by simp [HSL.out])) (by simp [HSL.out]) (oneCell_by _) ?_))
  have hrow := setRow_heap w4 w.heap.size _ (SU.map bV).toArray 24 (0, 0) K0.out
  refine bodyPost_ret (v := .agg (SU.map bV).toArray) (results_cell_row (P := Try.prog) (fn := Try.f12) (p := 2) (ty := 24) (by rfl) _ _ w.heap.size 24 (SU.map bV).toArray (0, 0) _ (by rfl) hrow Try.underlying24 (by rfl) (sh_info32 _ (by simp [HSL.out]))) rfl ?_
  exact ⟨rfl, below_setRow KB.out _ _ (Nat.le_refl _)⟩
end Go.Proofs.Ytojffpfgmlegdaa
