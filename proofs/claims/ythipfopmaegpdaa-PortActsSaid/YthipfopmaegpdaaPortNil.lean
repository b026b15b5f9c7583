/-
  Channels that are not there: what port's methods do on nil.
-/
import Derived.Test.YthipfopmaegpdaaTabR
namespace Go.Proofs.Ythipfopmaegpdaa
open Go.RowKit Go.ChangeShapes Go.WideShapes Go.ChangeAt

theorem portLen_nil (w : World) : Calls Try.prog 26 #[.pointer none] w fun e w' => e = .returned (.int .i64 0) ∧ w' = w := by
  go_enter Try.func26, Try.ntmps26
  go_wp2_with fail
  go_ret
  exact ⟨rfl, by first | trivial | rfl⟩
theorem portHas_nil (k : Int) (w : World) : Calls Try.prog 24 #[.pointer none, .int .i64 k] w fun e w' => e = .returned (.slice none 0 0) ∧ w' = w := by
  go_enter Try.func24, Try.ntmps24
  go_wp2_with fail
  go_ret
  exact ⟨rfl, by first | trivial | rfl⟩
theorem portSend_nil (p k n : Int) (w : World) : Calls Try.prog 22 #[.pointer none, .int .i64 p, .int .i64 k, .int .i64 n] w fun e w' => e = .returned (.tuple #[.bool false, .int .i64 7]) ∧ w' = w := by
  go_enter Try.func22, Try.ntmps22
  go_wp2_with fail
  go_ret2
  exact ⟨rfl, by first | trivial | rfl⟩
theorem portGet_nil (p k : Int) (w : World) : Calls Try.prog 23 #[.pointer none, .int .i64 p, .int .i64 k] w fun e w' => e = .returned (.tuple #[.int .i64 0, .bool false, .int .i64 7]) ∧ w' = w := by
  go_enter Try.func23, Try.ntmps23
  go_wp2_with fail
  refine bodyPost_ret (v := .tuple #[.int .i64 0, .bool false, .int .i64 7]) (by simp [results, Try.results23, go_sem]) rfl ?_
  exact ⟨rfl, by first | trivial | rfl⟩
theorem portDrain_nil (p : Int) (w : World) : Calls Try.prog 30 #[.pointer none, .int .i64 p] w fun e w' => e = .returned (.tuple #[]) ∧ w' = w := by
  go_enter Try.func30, Try.ntmps30
  go_wp2_with fail
  refine bodyPost_ret (v := .tuple #[]) (by simp [results, Try.results30, go_sem]) rfl ?_
  exact ⟨rfl, by first | trivial | rfl⟩
end Go.Proofs.Ythipfopmaegpdaa
