/-
  Channels that are not there: what port's methods do on nil.
-/
import Derived.Test.YtidlahljhgglcaaTabR
namespace Go.Proofs.Ytidlahljhgglcaa
open Go.RowKit Go.ChangeShapes Go.WideShapes Go.ChangeAt

theorem portHas_nil (k : Int) (w : World) : Calls Try.prog 30 #[.pointer none, .int .i64 k] w fun e w' => e = .returned (.slice none 0 0) ∧ w' = w := by
  go_enter Try.func30, Try.ntmps30
  go_wp2_with fail
  go_ret
  exact ⟨rfl, by first | trivial | rfl⟩
theorem portSend_nil (p k n : Int) (w : World) : Calls Try.prog 27 #[.pointer none, .int .i64 p, .int .i64 k, .int .i64 n] w fun e w' => e = .returned (.tuple #[.bool false, .int .i64 7]) ∧ w' = w := by
  go_enter Try.func27, Try.ntmps27
  go_wp2_with fail
  go_ret2
  exact ⟨rfl, by first | trivial | rfl⟩
theorem portGet_nil (p k : Int) (w : World) : Calls Try.prog 123 #[.pointer none, .int .i64 p, .int .i64 k] w fun e w' => e = .returned (.tuple #[.int .i64 0, .bool false, .int .i64 7]) ∧ w' = w := by
  go_enter Try.func123, Try.ntmps123
  go_wp2_with fail
  refine bodyPost_ret (v := .tuple #[.int .i64 0, .bool false, .int .i64 7]) (by simp [results, Try.results123, go_sem]) rfl ?_
  exact ⟨rfl, by first | trivial | rfl⟩
end Go.Proofs.Ytidlahljhgglcaa
