/-
  From a row's reading of an image to the words of the walks.
  Are ints alike?
-/
import Derived.Test.YtidlahljhgglcaaQVmRuns5
import Derived.Test.YtidlahljhgglcaaQVmRuns11
import Derived.Test.YtidlahljhgglcaaRows
import Derived.Deep.Slices
import Derived.Deep.Fields
import Derived.ChangeSame
import Derived.Lib.SmallJoins
import Derived.Test.YtidlahljhgglcaaQVmRuns0
namespace Go.Proofs.Ytidlahljhgglcaa
open Go.ChangeShapes Go.WideShapes Go.ChangeAt Go.RowKit Go.Deep Go.Joins

structure ImgCame (W : World) (p : ImgS) (A : Option Addr) (c : Nat) : Prop where
  rd : Reads W W.heap.size 1 A p.code.length (p.code.map bV)
  hc : p.code.length ≤ c
  hm : c ≤ maxLen
  w_part : (Lit.int .i64 p.part).wf = true
  w_ver : (Lit.int .i64 p.ver).wf = true
  w_hard : (Lit.int .i64 p.hard).wf = true
  w_mem : (Lit.int .i64 p.mem).wf = true
  w_fuel : (Lit.int .i64 p.fuel).wf = true
  w_sends : (Lit.int .i64 p.sends).wf = true
  w_recvs : (Lit.int .i64 p.recvs).wf = true
section
variable {H : Type} {enc : TypeId × Value → H} {W : World}
theorem field_oneI {fs : Array Field} {cs : List Value} {i : Nat} {f : Field} {n : Nat} {y : DataW H × List MemPlace} (hone : oneCellFields Try.prog fs = true) (hf : fs[i]? = some f) (hl : i < cs.length)
    (h : DataW.trod enc Try.prog W 0 (fun _ => true) true n f.type ((cs.drop f.offset).take (Try.prog.cellsOf f.type)) = some y) : DataW.trod enc Try.prog W 0 (fun _ => true) true n f.type [cs[i]] = some y := by
  obtain ⟨ho, hk⟩ := hone_of hone i f hf
  rw [ho, hk] at h
  have e : (cs.drop i).take 1 = [cs[i]] := by rw [List.drop_eq_getElem_cons hl, List.take_succ_cons, List.take_zero]
  rw [e] at h
  exact h
set_option maxRecDepth 10000 in
theorem list8 {α : Type} (l : List α) (h : l.length = 8) : ∃ a b c d e f g x, l = [a, b, c, d, e, f, g, x] := by
  obtain ⟨a, l, rfl⟩ := List.exists_cons_of_length_eq_add_one (n := 7) (by simpa using h)
  simp only [List.length_cons, Nat.add_right_cancel_iff] at h
  obtain ⟨b, l, rfl⟩ := List.exists_cons_of_length_eq_add_one (n := 6) (by simpa using h)
  simp only [List.length_cons, Nat.add_right_cancel_iff] at h
  obtain ⟨c, l, rfl⟩ := List.exists_cons_of_length_eq_add_one (n := 5) (by simpa using h)
  simp only [List.length_cons, Nat.add_right_cancel_iff] at h
  obtain ⟨d, l, rfl⟩ := List.exists_cons_of_length_eq_add_one (n := 4) (by simpa using h)
  simp only [List.length_cons, Nat.add_right_cancel_iff] at h
  obtain ⟨e, l, rfl⟩ := List.exists_cons_of_length_eq_add_one (n := 3) (by simpa using h)
  simp only [List.length_cons, Nat.add_right_cancel_iff] at h
  obtain ⟨f, l, rfl⟩ := List.exists_cons_of_length_eq_add_one (n := 2) (by simpa using h)
  simp only [List.length_cons, Nat.add_right_cancel_iff] at h
  obtain ⟨g, l, rfl⟩ := List.exists_cons_of_length_eq_add_one (n := 1) (by simpa using h)
  simp only [List.length_cons, Nat.add_right_cancel_iff] at h
  obtain ⟨x, l, rfl⟩ := List.exists_cons_of_length_eq_add_one (n := 0) (by simpa using h)
  simp only [List.length_cons, Nat.add_right_cancel_iff] at h
  obtain rfl : l = [] := by cases l with
    | nil => rfl
    | cons _ _ => simp at h
  exact ⟨a, b, c, d, e, f, g, x, rfl⟩
set_option maxRecDepth 10000 in
theorem open_img {v : Value} {d : DataW H} {ps : List MemPlace} {r : Reach} {b0 : Nat}
    (hval : Value.okWide Try.prog W r b0 24 v) (h : DataW.Trod enc Try.prog W 0 (fun _ => true) true 24 v d ps) :
    ∃ (p : ImgS) (A : Option Addr) (c : Nat), v = imgV p A c ∧ ImgCame W p A c := by
  obtain ⟨cs, rfl, hsz⟩ := okWide_struct Try.underlying24 hval
  obtain ⟨l⟩ := cs
  obtain ⟨fuel, hf⟩ := h
  obtain ⟨xs, n, _, _, _, hlen, hg⟩ := DataW.trod_struct Try.underlying24 hf
  have hl9 : l.length = 8 := by
    have : Try.prog.cellsOf 24 = 8 := by kernel_rfl
    rw [← this, ← hsz]
    rfl
  have key : ∀ (i : Nat) (hi : i < l.length) (f : Field), _ → ∃ y, DataW.trod enc Try.prog W 0 (fun _ => true) true n f.type [l[i]] = some y := fun i hi f hfi => by
    have h1 := hg i f hfi
    exact ⟨_, field_oneI (by kernel_rfl) hfi hi (h1.trans (List.getElem?_eq_getElem (by have := (Array.getElem?_eq_some_iff.1 hfi).1; omega)))⟩
  obtain ⟨v0, v1, v2, v3, v4, v5, v6, v7, rfl⟩ := list8 l hl9
  obtain ⟨y0, h0⟩ := key 0 (by simp) _ rfl
  obtain ⟨y1, h1⟩ := key 1 (by simp) _ rfl
  obtain ⟨y2, h2⟩ := key 2 (by simp) _ rfl
  obtain ⟨y3, h3⟩ := key 3 (by simp) _ rfl
  obtain ⟨y4, h4⟩ := key 4 (by simp) _ rfl
  obtain ⟨y5, h5⟩ := key 5 (by simp) _ rfl
  obtain ⟨y6, h6⟩ := key 6 (by simp) _ rfl
  obtain ⟨y7, h7⟩ := key 7 (by simp) _ rfl
  clear key hg hf hval hlen
  obtain ⟨q0, e0, _, f0⟩ := DataW.trod_int Try.underlying3 h0
  obtain ⟨q1, e1, _, f1⟩ := DataW.trod_int Try.underlying3 h1
  obtain ⟨q2, e2, _, f2⟩ := DataW.trod_int Try.underlying3 h2
  obtain ⟨q3, e3, _, f3⟩ := DataW.trod_int Try.underlying3 h3
  obtain ⟨q4, e4, _, f4⟩ := DataW.trod_int Try.underlying3 h4
  obtain ⟨q5, e5, _, f5⟩ := DataW.trod_int Try.underlying3 h5
  obtain ⟨q6, e6, _, f6⟩ := DataW.trod_int Try.underlying3 h6
  obtain ⟨A, m, c, bs, e7, r7, k7, m7⟩ := trod_bytes Try.underlying22 Try.underlying5 (by kernel_rfl) h7
  have hbl : bs.length = m := by simpa using r7.len
  subst hbl
  simp at e0 e1 e2 e3 e4 e5 e6 e7
  subst e0 e1 e2 e3 e4 e5 e6 e7
  exact ⟨⟨q0, q1, q2, q3, q4, q5, q6, bs⟩, A, c, rfl, ⟨r7, k7, m7, f0, f1, f2, f3, f4, f5, f6⟩⟩
end
end Go.Proofs.Ytidlahljhgglcaa
namespace Go.Proofs.Ytidlahljhgglcaa
open Go.RowKit

theorem sameInts_any (A1 A2 : Option Addr) (n1 n2 c1 c2 : Nat) (xs bs : List Int) (w : World) (B1 B2 : Nat) (h1 : Reads w B1 1 A1 n1 (xs.map iV)) (h2 : Reads w B2 1 A2 n2 (bs.map iV)) (hn : n1 ≤ 9223372036854775807) (hm : n2 ≤ 9223372036854775807) :
    Calls Try.prog 29 #[.slice A1 n1 c1, .slice A2 n2 c2] w fun e w' => e = .returned (.bool (decide (xs = bs))) ∧ ∃ q, w' = w.drewN q := by
  have l1 : xs.length = n1 := by simpa using h1.len
  have l2 : bs.length = n2 := by simpa using h2.len
  by_cases hne : n1 = n2
  · have HL1 := hid l1
    have HL2 := hid l2
    clear l1 l2
    subst hne
    go_enter Try.func29, Try.ntmps29
    go_wp2_with fail
    go_loopw [5] (fun i wr => ∃ k : Nat, k ≤ n1 ∧ i = .int .i64 k ∧ (∃ q, wr = w.drewN q) ∧ xs.take k = bs.take k) (fun i _ => n1 - (intOf i).toNat)
    case atStart => exact ⟨0, by omega, rfl, ⟨0, rfl⟩, by simp⟩
    case round =>
      obtain ⟨k, hk, rfl, ⟨q, rfl⟩, htk⟩ := hrel
      have HT := hid htk
      clear htk
      by_cases hkn : k < n1
      · obtain ⟨ad1, x1, rfl, _, hx1, hc1⟩ := h1.atM hkn
        obtain ⟨ad2, x2, rfl, _, hx2, hc2⟩ := h2.atM hkn
        have HX1 := hid hx1
        have HX2 := hid hx2
        clear hx1 hx2 h1 h2
        by_cases hxe : x1 = x2
        · subst hxe
          go_wp2_with fail
          go_quiet (fail)
          go_wp2_with fail
          go_roundw
          case rel => exact ⟨k + 1, by omega, by go_num, ⟨_, rfl⟩, by rw [List.take_add_one, List.take_add_one, HT.out, HX1.out, HX2.out]⟩
          case measure => simp [intOf]; omega
        · have hd : decide (xs = bs) = false := by
            simp only [decide_eq_false_iff_not]
            rintro rfl
            rw [HX1.out] at HX2
            exact hxe (by injection HX2.out)
          have HD := hid hd
          have hne : (x1 == x2) = false := by simpa using hxe
          have hne2 : (x1 != x2) = true := by rw [bne, hne]; rfl
          clear hd hxe
          go_wp2_with fail
          go_quiet (fail)
          go_wp2_with fail
          go_ret
          exact ⟨by rw [HD.out]; rfl, q + nq, by rw [World.drewN_drewN]⟩
      · obtain rfl : k = n1 := by omega
        have hd : Hid (decide (xs = bs) = true) := by
          refine hid ?_
          have h := HT.out
          rw [List.take_of_length_le (by have := HL1.out; omega), List.take_of_length_le (by have := HL2.out; omega)] at h
          simpa using h
        go_wp2_with fail
        go_ret
        exact ⟨by rw [hd.out]; rfl, _, rfl⟩
  · have hd : decide (xs = bs) = false := by
      simp only [decide_eq_false_iff_not]
      rintro rfl
      omega
    have HD := hid hd
    clear hd l1 l2
    have hne1 : ((n1 : Int) != (n2 : Int)) = true := by rw [bne_iff_ne]; omega
    go_enter Try.func29, Try.ntmps29
    go_wp2_with fail
    go_ret
    exact ⟨by rw [HD.out]; rfl, 0, rfl⟩
theorem sameInts_b (A1 A2 : Option Addr) (n1 n2 c1 c2 : Nat) (xs bs : List Int) (w : World) (h1 : Reads w w.heap.size 1 A1 n1 (xs.map iV)) (h2 : Reads w w.heap.size 1 A2 n2 (bs.map iV)) (hn : n1 ≤ 9223372036854775807) (hm : n2 ≤ 9223372036854775807) :
    Calls Try.prog 29 #[.slice A1 n1 c1, .slice A2 n2 c2] w fun e w' => e = .returned (.bool (decide (xs = bs))) ∧ Below w.heap.size w w' :=
  (sameInts_any A1 A2 n1 n2 c1 c2 xs bs w _ _ h1 h2 hn hm).mono fun _ _ ⟨he, q, hw⟩ => ⟨he, by rw [hw]; exact below_drewN (Below.refl _ _) q⟩
end Go.Proofs.Ytidlahljhgglcaa
