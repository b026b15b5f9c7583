/-
  Arrays of bytes, compared.
-/
import Derived.Test.YtojffpfgmlegdaaBase
import Derived.Laws.StructEq
namespace Go.Proofs.Ytojffpfgmlegdaa
open Go.RowKit

theorem run_part1 {P : Program} (w : World) (e : TypeId) (cs : Array Value) (off : Nat) (v : Value) (hp : (isAgg e).run P w = .ok false w) (hv : cs[off]? = some v) : (part e cs off).run P w = .ok v w := by
  unfold part
  simp [Sem.run_bind, hp, hv]

theorem arr_loop {P : Program} (w : World) (d : Nat) (e : TypeId) (he : P.underlying e = some (.int .u8)) (hp : ∀ w, (isAgg e).run P w = .ok false w) (xa ya : Array Value) :
    ∀ (a b : List UInt8) (off : Nat), a.length = b.length → (∀ j x, a[j]? = some x → xa[off + j]? = some (bV x)) → (∀ j x, b[j]? = some x → ya[off + j]? = some (bV x)) →
    ((forIn (List.range' off a.length 1) ((none, ()) : Option Bool × PUnit) fun i (_ : Option Bool × PUnit) => do
        if !(← Op.equalIn (d + 1) e (← part e xa (i * 1)) (← part e ya (i * 1))) then pure (ForInStep.done (some false, ())) else pure (ForInStep.yield (none, ())) : Sem (Option Bool × PUnit)).run P w)
      = .ok (if a = b then (none, ()) else (some false, ())) w := by
  intro a
  induction a with
  | nil =>
    intro b off hl _ _
    obtain rfl : b = [] := List.eq_nil_of_length_eq_zero hl.symm
    simp
  | cons x a ih =>
    intro b off hl ha hb
    cases b with
    | nil => simp at hl
    | cons y b =>
      have h1 := run_part1 (P := P) w e xa (off * 1) (bV x) (hp w) (by have := ha 0 x rfl; simpa using this)
      have h2 := run_part1 (P := P) w e ya (off * 1) (bV y) (hp w) (by have := hb 0 y rfl; simpa using this)
      have h3 := run_equalIn_int (P := P) w d e .u8 .u8 (x.toNat : Int) (y.toNat : Int) he
      have h4 := ih b (off + 1) (by simpa using hl) (fun j z hj => by have := ha (j + 1) z (by simpa using hj); rw [show off + 1 + j = off + (j + 1) by omega]; exact this)
        (fun j z hj => by have := hb (j + 1) z (by simpa using hj); rw [show off + 1 + j = off + (j + 1) by omega]; exact this)
      simp only [List.length_cons, List.range'_succ, List.forIn_cons, Sem.run_bind, h1, h2, h3, Result.andThen_ok, Sem.run_ite]
      by_cases hxy : x = y
      · subst hxy
        simp only [beq_self_eq_true, Bool.not_true, Bool.false_eq_true, if_false, Sem.run_pure, Result.andThen_ok, h4, List.cons.injEq, true_and]
      · have hne : ((x.toNat : Int) == (y.toNat : Int)) = false := by
          rw [beq_eq_false_iff_ne]
          intro h
          exact hxy (UInt8.toNat_inj.1 (by exact_mod_cast h))
        simp only [hne, Bool.not_false, if_true, Sem.run_pure, Result.andThen_ok, List.cons.injEq, hxy, false_and, if_false]

theorem run_equalIn_arr {P : Program} (w : World) (d : Nat) (t e : TypeId) (n : Nat) (a b : List UInt8) (ht : P.underlying t = some (.array n e)) (he : P.underlying e = some (.int .u8)) (hs : ∀ w, (sizeOf e).run P w = .ok 1 w)
    (hp : ∀ w, (isAgg e).run P w = .ok false w) (ha : a.length = n) (hb : b.length = n) :
    (Op.equalIn (d + 2) t (.agg (a.map bV).toArray) (.agg (b.map bV).toArray)).run P w = .ok (decide (a = b)) w := by
  have h := arr_loop (P := P) w d e he hp (a.map bV).toArray (b.map bV).toArray a b 0 (by omega) (by intro j x hj; simp [hj]) (by intro j x hj; simp [hj])
  rw [show d + 2 = (d + 1) + 1 from rfl]
  generalize d + 1 = D at h ⊢
  simp only [Op.equalIn, Sem.run_bind, run_underlying ht, Result.andThen_ok, hs]
  rw [Std.Legacy.Range.forIn_eq_forIn_range']
  simp only [Std.Legacy.Range.size, Nat.sub_zero, Nat.add_sub_cancel, Nat.div_one]
  rw [ha] at h
  rw [h]
  by_cases hab : a = b
  · simp [hab]
  · simp [hab]
end Go.Proofs.Ytojffpfgmlegdaa
