/-
  bytes.Equal: are bytes alike?
-/
import Derived.Test.YtojffpfgmlegdaaBase
import Derived.Laws.BytesString
import Derived.Laws.BytesArg
import Derived.RegionTactic
import Derived.Handy
namespace Go.Proofs.Ytojffpfgmlegdaa
open Go.RowKit Go.ChangeShapes Go.WideShapes Go.ChangeAt

theorem conv_bytes (w : World) {B n : Nat} {A : Option Addr} {bs : List UInt8} (c : Nat) (h : Reads w B 1 A n (bs.map bV)) :
    (convert 22 9 (.slice A n c)).run Try.prog w = .ok (.string ⟨bs.toArray⟩) w := by
  by_cases hn : 0 < n
  · obtain ⟨ad, rfl, hb, hc⟩ := h.form hn
    have hl : bs.length = n := by simpa using h.len
    rw [run_convert_bytes_string w 22 9 5 _ n c Try.underlying22 Try.underlying5 Try.underlying9]
    have hld : (loadCells ad n).run Try.prog w = .ok ((bs.map fun b => (b.toNat : Int)).map (Value.int .u8)).toArray w := by
      have := run_loadCells_list (P := Try.prog) w ad (bs.map bV) (fun j v hj => hc j v hj)
      rw [List.length_map, hl] at this
      rw [this, List.map_map]
      rfl
    rw [run_bytesToString w ad n c _ hld, foldl_push_bytes]
    have hid2 : ((fun n : Int => UInt8.ofNat n.toNat) ∘ fun b : UInt8 => (b.toNat : Int)) = id := by
      funext b
      simp [Function.comp]
    congr 2
    simp [ByteArray.empty, ByteArray.emptyWithCapacity]
    rw [hid2]
    simp
    rfl
  · have hn0 : n = 0 := by omega
    subst hn0
    have hl : bs.length = 0 := by simpa using h.len
    have : bs = [] := List.eq_nil_of_length_eq_zero hl
    subst this
    rw [run_convert_bytes_string w 22 9 5 _ 0 c Try.underlying22 Try.underlying5 Try.underlying9]
    cases A <;> simp [Conv.bytesToString, loadCells]
    all_goals rfl

theorem equal_any (A1 A2 : Option Addr) (n1 n2 c1 c2 : Nat) (xs bs : List UInt8) (w : World) {B1 B2 : Nat} (h1 : Reads w B1 1 A1 n1 (xs.map bV)) (h2 : Reads w B2 1 A2 n2 (bs.map bV)) :
    Calls Try.prog 34 #[.slice A1 n1 c1, .slice A2 n2 c2] w fun e w' => e = .returned (.bool (decide (xs = bs))) ∧ Below w.heap.size w w' := by
  have x1 := conv_bytes w c1 h1
  have x2 := conv_bytes w c2 h2
  go_enter Try.func34, Try.ntmps34
  go_wp2_with fail
  go_ret
  refine ⟨ret_bool ?_, Below.refl _ _⟩
  by_cases h : xs = bs <;> simp [h]
end Go.Proofs.Ytojffpfgmlegdaa
