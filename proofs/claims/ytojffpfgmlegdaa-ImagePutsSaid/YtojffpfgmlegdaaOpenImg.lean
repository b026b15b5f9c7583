/-
  From a row's reading of an image to the words of the walks.
-/
import Derived.Test.YtojffpfgmlegdaaOpen
import Derived.Test.YtojffpfgmlegdaaImgWakes
import Derived.Test.YtojffpfgmlegdaaRows
import Derived.Deep.Slices
import Derived.Deep.Fields
import Derived.ChangeSame
import Derived.Lib.SmallJoins
namespace Go.Proofs.Ytojffpfgmlegdaa
open Go.ChangeShapes Go.WideShapes Go.ChangeAt Go.RowKit Go.Deep Go.Joins

structure ImgCame (W : World) (p : ImgS) (A : Option Addr) (c : Nat) : Prop where
  rd : Reads W W.heap.size 1 A p.code.length (p.code.map bV)
  hc : p.code.length ≤ c
  hm : c ≤ maxLen
  w_part : (Lit.int .i64 p.part).wf = true
  w_ver : (Lit.int .i64 p.ver).wf = true
  w_hard : (Lit.int .i64 p.hard).wf = true
  w_mem : (Lit.int .i64 p.mem).wf = true
  w_fuel : (Lit.int .i64 p.fuel).wf = true
  w_sends : (Lit.int .i64 p.sends).wf = true
  w_recvs : (Lit.int .i64 p.recvs).wf = true
section
variable {H : Type} {enc : TypeId × Value → H} {W : World}
theorem field_oneI {fs : Array Field} {cs : List Value} {i : Nat} {f : Field} {n : Nat} {y : DataW H × List MemPlace} (hone : oneCellFields Try.prog fs = true) (hf : fs[i]? = some f) (hl : i < cs.length)
    (h : DataW.trod enc Try.prog W 0 (fun _ => true) true n f.type ((cs.drop f.offset).take (Try.prog.cellsOf f.type)) = some y) : DataW.trod enc Try.prog W 0 (fun _ => true) true n f.type [cs[i]] = some y := by
  obtain ⟨ho, hk⟩ := hone_of hone i f hf
  rw [ho, hk] at h
  have e : (cs.drop i).take 1 = [cs[i]] := by rw [List.drop_eq_getElem_cons hl, List.take_succ_cons, List.take_zero]
  rw [e] at h
  exact h
set_option maxRecDepth 10000 in
theorem list8I {α : Type} (l : List α) (h : l.length = 8) : ∃ a b c d e f g x, l = [a, b, c, d, e, f, g, x] := by
  obtain ⟨a, l, rfl⟩ := List.exists_cons_of_length_eq_add_one (n := 7) (by simpa using h)
  simp only [List.length_cons, Nat.add_right_cancel_iff] at h
  obtain ⟨b, l, rfl⟩ := List.exists_cons_of_length_eq_add_one (n := 6) (by simpa using h)
  simp only [List.length_cons, Nat.add_right_cancel_iff] at h
  obtain ⟨c, l, rfl⟩ := List.exists_cons_of_length_eq_add_one (n := 5) (by simpa using h)
  simp only [List.length_cons, Nat.add_right_cancel_iff] at h
  obtain ⟨d, l, rfl⟩ := List.exists_cons_of_length_eq_add_one (n := 4) (by simpa using h)
  simp only [List.length_cons, Nat.add_right_cancel_iff] at h
  obtain ⟨e, l, rfl⟩ := List.exists_cons_of_length_eq_add_one (n := 3) (by simpa using h)
  simp only [List.length_cons, Nat.add_right_cancel_iff] at h
  obtain ⟨f, l, rfl⟩ := List.exists_cons_of_length_eq_add_one (n := 2) (by simpa using h)
  simp only [List.length_cons, Nat.add_right_cancel_iff] at h
  obtain ⟨g, l, rfl⟩ := List.exists_cons_of_length_eq_add_one (n := 1) (by simpa using h)
  simp only [List.length_cons, Nat.add_right_cancel_iff] at h
  obtain ⟨x, l, rfl⟩ := List.exists_cons_of_length_eq_add_one (n := 0) (by simpa using h)
  simp only [List.length_cons, Nat.add_right_cancel_iff] at h
  obtain rfl : l = [] := by cases l with
    | nil => rfl
    | cons _ _ => simp at h
  exact ⟨a, b, c, d, e, f, g, x, rfl⟩
set_option maxRecDepth 10000 in
theorem open_img {v : Value} {d : DataW H} {ps : List MemPlace} {r : Reach} {b0 : Nat}
    (hval : Value.okWide Try.prog W r b0 41 v) (h : DataW.Trod enc Try.prog W 0 (fun _ => true) true 41 v d ps) :
    ∃ (p : ImgS) (A : Option Addr) (c : Nat), v = imgV p A c ∧ ImgCame W p A c := by
  obtain ⟨cs, rfl, hsz⟩ := okWide_struct Try.underlying41 hval
  obtain ⟨l⟩ := cs
  obtain ⟨fuel, hf⟩ := h
  obtain ⟨xs, n, _, _, _, hlen, hg⟩ := DataW.trod_struct Try.underlying41 hf
  have hl9 : l.length = 8 := by
    have : Try.prog.cellsOf 41 = 8 := by kernel_rfl
    rw [← this, ← hsz]
    rfl
  have key : ∀ (i : Nat) (hi : i < l.length) (f : Field), _ → ∃ y, DataW.trod enc Try.prog W 0 (fun _ => true) true n f.type [l[i]] = some y := fun i hi f hfi => by
    have h1 := hg i f hfi
    exact ⟨_, field_oneI (by kernel_rfl) hfi hi (h1.trans (List.getElem?_eq_getElem (by have := (Array.getElem?_eq_some_iff.1 hfi).1; omega)))⟩
  obtain ⟨v0, v1, v2, v3, v4, v5, v6, v7, rfl⟩ := list8I l hl9
  obtain ⟨y0, h0⟩ := key 0 (by simp) _ rfl
  obtain ⟨y1, h1⟩ := key 1 (by simp) _ rfl
  obtain ⟨y2, h2⟩ := key 2 (by simp) _ rfl
  obtain ⟨y3, h3⟩ := key 3 (by simp) _ rfl
  obtain ⟨y4, h4⟩ := key 4 (by simp) _ rfl
  obtain ⟨y5, h5⟩ := key 5 (by simp) _ rfl
  obtain ⟨y6, h6⟩ := key 6 (by simp) _ rfl
  obtain ⟨y7, h7⟩ := key 7 (by simp) _ rfl
  clear key hg hf hval hlen
  obtain ⟨q0, e0, _, f0⟩ := DataW.trod_int Try.underlying3 h0
  obtain ⟨q1, e1, _, f1⟩ := DataW.trod_int Try.underlying3 h1
  obtain ⟨q2, e2, _, f2⟩ := DataW.trod_int Try.underlying3 h2
  obtain ⟨q3, e3, _, f3⟩ := DataW.trod_int Try.underlying3 h3
  obtain ⟨q4, e4, _, f4⟩ := DataW.trod_int Try.underlying3 h4
  obtain ⟨q5, e5, _, f5⟩ := DataW.trod_int Try.underlying3 h5
  obtain ⟨q6, e6, _, f6⟩ := DataW.trod_int Try.underlying3 h6
  obtain ⟨A, m, c, bs, e7, r7, k7, m7⟩ := trod_bytes Try.underlying22 Try.underlying5 (by kernel_rfl) h7
  have hbl : bs.length = m := by simpa using r7.len
  subst hbl
  simp at e0 e1 e2 e3 e4 e5 e6 e7
  subst e0 e1 e2 e3 e4 e5 e6 e7
  exact ⟨⟨q0, q1, q2, q3, q4, q5, q6, bs⟩, A, c, rfl, ⟨r7, k7, m7, f0, f1, f2, f3, f4, f5, f6⟩⟩
end
end Go.Proofs.Ytojffpfgmlegdaa
