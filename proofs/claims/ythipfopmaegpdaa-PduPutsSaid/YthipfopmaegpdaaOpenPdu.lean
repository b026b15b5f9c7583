/-
  From a row's reading of a message to the words of the walks.
-/
import Derived.Test.YthipfopmaegpdaaOpen
import Derived.Test.YthipfopmaegpdaaPduPlain
import Derived.Test.YthipfopmaegpdaaRows
import Derived.Deep.Slices
import Derived.Deep.Fields
import Derived.ChangeSame
import Derived.Lib.SmallJoins
namespace Go.Proofs.Ythipfopmaegpdaa
open Go.ChangeShapes Go.WideShapes Go.ChangeAt Go.RowKit Go.Deep Go.Joins

structure PduCame (W : World) (p : PduS) (A : Option Addr) (c : Nat) : Prop where
  rd : Reads W W.heap.size 1 A p.data.length (p.data.map bV)
  hc : p.data.length ≤ c
  hm : c ≤ maxLen

  w_kind : (Lit.int .i64 p.kind).wf = true
  w_ses : (Lit.int .i64 p.ses).wf = true
  w_part : (Lit.int .i64 p.part).wf = true
  w_no : (Lit.int .i64 p.no).wf = true
  w_size : (Lit.int .i64 p.size).wf = true
  w_what : (Lit.int .i64 p.what).wf = true
  w_code : (Lit.int .i64 p.code).wf = true
  w_hav : (Lit.int .i64 p.hav).wf = true
section
variable {H : Type} {enc : TypeId × Value → H} {W : World}
theorem field_one8 {fs : Array Field} {cs : List Value} {i : Nat} {f : Field} {n : Nat} {y : DataW H × List MemPlace} (hone : oneCellFields Try.prog fs = true) (hf : fs[i]? = some f) (hl : i < cs.length)
    (h : DataW.trod enc Try.prog W 0 (fun _ => true) true n f.type ((cs.drop f.offset).take (Try.prog.cellsOf f.type)) = some y) : DataW.trod enc Try.prog W 0 (fun _ => true) true n f.type [cs[i]] = some y := by
  obtain ⟨ho, hk⟩ := hone_of hone i f hf
  rw [ho, hk] at h
  have e : (cs.drop i).take 1 = [cs[i]] := by rw [List.drop_eq_getElem_cons hl, List.take_succ_cons, List.take_zero]
  rw [e] at h
  exact h
set_option maxRecDepth 10000 in
theorem list9 {α : Type} (l : List α) (h : l.length = 9) : ∃ a b c d e f g x y, l = [a, b, c, d, e, f, g, x, y] := by
  obtain ⟨a, l, rfl⟩ := List.exists_cons_of_length_eq_add_one (n := 8) (by simpa using h)
  simp only [List.length_cons, Nat.add_right_cancel_iff] at h
  obtain ⟨b, l, rfl⟩ := List.exists_cons_of_length_eq_add_one (n := 7) (by simpa using h)
  simp only [List.length_cons, Nat.add_right_cancel_iff] at h
  obtain ⟨c, l, rfl⟩ := List.exists_cons_of_length_eq_add_one (n := 6) (by simpa using h)
  simp only [List.length_cons, Nat.add_right_cancel_iff] at h
  obtain ⟨d, l, rfl⟩ := List.exists_cons_of_length_eq_add_one (n := 5) (by simpa using h)
  simp only [List.length_cons, Nat.add_right_cancel_iff] at h
  obtain ⟨e, l, rfl⟩ := List.exists_cons_of_length_eq_add_one (n := 4) (by simpa using h)
  simp only [List.length_cons, Nat.add_right_cancel_iff] at h
  obtain ⟨f, l, rfl⟩ := List.exists_cons_of_length_eq_add_one (n := 3) (by simpa using h)
  simp only [List.length_cons, Nat.add_right_cancel_iff] at h
  obtain ⟨g, l, rfl⟩ := List.exists_cons_of_length_eq_add_one (n := 2) (by simpa using h)
  simp only [List.length_cons, Nat.add_right_cancel_iff] at h
  obtain ⟨x, l, rfl⟩ := List.exists_cons_of_length_eq_add_one (n := 1) (by simpa using h)
  simp only [List.length_cons, Nat.add_right_cancel_iff] at h
  obtain ⟨y, l, rfl⟩ := List.exists_cons_of_length_eq_add_one (n := 0) (by simpa using h)
  obtain rfl : l = [] := by cases l with
    | nil => rfl
    | cons _ _ => simp at h
  exact ⟨a, b, c, d, e, f, g, x, y, rfl⟩
set_option maxRecDepth 10000 in
theorem open_pdu {v : Value} {d : DataW H} {ps : List MemPlace} {r : Reach} {b0 : Nat}
    (hval : Value.okWide Try.prog W r b0 24 v) (h : DataW.Trod enc Try.prog W 0 (fun _ => true) true 24 v d ps) :
    ∃ (p : PduS) (A : Option Addr) (c : Nat), v = .agg #[.int .i64 p.kind, .int .i64 p.ses, .int .i64 p.part, .int .i64 p.no, .int .i64 p.size, .int .i64 p.what, .int .i64 p.code, .int .i64 p.hav, .slice A p.data.length c] ∧ PduCame W p A c := by
  obtain ⟨cs, rfl, hsz⟩ := okWide_struct Try.underlying24 hval
  obtain ⟨l⟩ := cs
  obtain ⟨fuel, hf⟩ := h
  obtain ⟨xs, n, _, _, _, hlen, hg⟩ := DataW.trod_struct Try.underlying24 hf
  have hl9 : l.length = 9 := by
    have : Try.prog.cellsOf 24 = 9 := by kernel_rfl
    rw [← this, ← hsz]
    rfl
  have key : ∀ (i : Nat) (hi : i < l.length) (f : Field), _ → ∃ y, DataW.trod enc Try.prog W 0 (fun _ => true) true n f.type [l[i]] = some y := fun i hi f hfi => by
    have h1 := hg i f hfi
    exact ⟨_, field_one8 (by kernel_rfl) hfi hi (h1.trans (List.getElem?_eq_getElem (by have := (Array.getElem?_eq_some_iff.1 hfi).1; omega)))⟩
  obtain ⟨v0, v1, v2, v3, v4, v5, v6, v7, v8, rfl⟩ := list9 l hl9
  obtain ⟨y0, h0⟩ := key 0 (by simp) _ rfl
  obtain ⟨y1, h1⟩ := key 1 (by simp) _ rfl
  obtain ⟨y2, h2⟩ := key 2 (by simp) _ rfl
  obtain ⟨y3, h3⟩ := key 3 (by simp) _ rfl
  obtain ⟨y4, h4⟩ := key 4 (by simp) _ rfl
  obtain ⟨y5, h5⟩ := key 5 (by simp) _ rfl
  obtain ⟨y6, h6⟩ := key 6 (by simp) _ rfl
  obtain ⟨y7, h7⟩ := key 7 (by simp) _ rfl
  obtain ⟨y8, h8⟩ := key 8 (by simp) _ rfl
  clear key hg hf hval hlen
  obtain ⟨q0, e0, _, f0⟩ := DataW.trod_int Try.underlying3 h0
  obtain ⟨q1, e1, _, f1⟩ := DataW.trod_int Try.underlying3 h1
  obtain ⟨q2, e2, _, f2⟩ := DataW.trod_int Try.underlying3 h2
  obtain ⟨q3, e3, _, f3⟩ := DataW.trod_int Try.underlying3 h3
  obtain ⟨q4, e4, _, f4⟩ := DataW.trod_int Try.underlying3 h4
  obtain ⟨q5, e5, _, f5⟩ := DataW.trod_int Try.underlying3 h5
  obtain ⟨q6, e6, _, f6⟩ := DataW.trod_int Try.underlying3 h6
  obtain ⟨q7, e7, _, f7⟩ := DataW.trod_int Try.underlying3 h7
  obtain ⟨A, m, c, bs, e8, r8, k8, m8⟩ := trod_bytes Try.underlying22 Try.underlying5 (by kernel_rfl) h8
  have hbl : bs.length = m := by simpa using r8.len
  subst hbl
  simp at e0 e1 e2 e3 e4 e5 e6 e7 e8
  subst e0 e1 e2 e3 e4 e5 e6 e7 e8
  exact ⟨⟨q0, q1, q2, q3, q4, q5, q6, q7, bs⟩, A, c, rfl, ⟨r8, k8, m8, f0, f1, f2, f3, f4, f5, f6, f7⟩⟩
end
end Go.Proofs.Ythipfopmaegpdaa
