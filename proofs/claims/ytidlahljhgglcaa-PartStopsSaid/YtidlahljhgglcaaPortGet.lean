/-
  A queue's get: the first one goes (slices.Delete by the kit's contract, laid by hand).
-/
import Derived.Test.YtidlahljhgglcaaPortAll
import Derived.Shelf.Slices.Cells
namespace Go.Proofs.Ytidlahljhgglcaa
open Go.RowKit Go.ChangeShapes Go.WideShapes Go.ChangeAt

def delRen : Go.Shelf.Ren := ⟨fun n => if n = 23 then 133 else n, fun n => if n = 3 then 3 else if n = 4 then 4 else if n = 22 then 40 else n, fun n => n⟩
theorem delLays : Go.Proofs.Lays2.n23 Try.prog delRen where
  mixed := by kernel_rfl
  f23 := Try.func133.trans (congrArg some (by kernel_rfl))
  t0 := by kernel_rfl
  a0 := fun w => by kernel_rfl
  z0 := fun w => by kernel_rfl
  v0 := fun w => by kernel_rfl
  t3 := by kernel_rfl
  a3 := fun w => by kernel_rfl
  z3 := fun w => by kernel_rfl
  v3 := fun w => by kernel_rfl
  t4 := by kernel_rfl
  a4 := fun w => by kernel_rfl
  z4 := fun w => by kernel_rfl
  v4 := fun w => by kernel_rfl
  t22 := by kernel_rfl
  a22 := fun w => by kernel_rfl
  z22 := fun w => by kernel_rfl
  v22 := fun w => by kernel_rfl
  i3 := by kernel_rfl

section
variable {w w' : World} {e : TypeId} {A : Option Addr} {n c g : Nat} {xs : List Value}
theorem Row.short (h : Row w e A n c xs) {i : Nat} (hi : i ≤ n) : Row w e A i c (xs.take i) := by
  have hl := h.len
  have hc := h.cap
  refine ⟨by rw [List.length_take]; omega, by omega, hc.2, ?_⟩
  rcases h.2.2.2 with ⟨h1, h2⟩ | ⟨g, cur, h1, h2, h3, h4⟩
  · exact .inl ⟨h1, h2⟩
  · refine .inr ⟨g, cur, h1, h2, h3, ?_⟩
    rw [← h4, List.take_take, Nat.min_eq_left hi]
theorem Apart.setCells {F : Nat → Prop} {b : Nat} (hb : F b) : ∀ (vs : List Value) (o : Nat) (w' : World), Apart F w w' → Apart F w (w'.setCells b o vs)
  | [], _, _, h => h
  | v :: vs, o, w', h => Apart.setCells hb vs (o + 1) _ (h.setCell (p := ⟨b, o, none⟩) (.inl hb) v)
theorem Row.setAll : ∀ (vs : List Value) (o : Nat) (w : World) (xs : List Value), Row w e (some ⟨g, 0, none⟩) n c xs → o + vs.length ≤ n → Row (w.setCells g o vs) e (some ⟨g, 0, none⟩) n c (xs.take o ++ vs ++ xs.drop (o + vs.length))
  | [], o, w, xs, h, _ => by
    show Row w e _ n c _
    simp only [List.append_nil, List.length_nil, Nat.add_zero, List.take_append_drop]
    exact h
  | v :: vs, o, w, xs, h, ho => by
    have hl := h.len
    simp only [List.length_cons] at ho
    have h1 := h.set_ o v
    have h2 := Row.setAll vs (o + 1) _ _ h1 (by omega)
    show Row ((w.setCell ⟨g, o, none⟩ v).setCells g (o + 1) vs) e _ n c _
    have e1 : (xs.set o v).take (o + 1) ++ vs ++ (xs.set o v).drop (o + 1 + vs.length) = xs.take o ++ (v :: vs) ++ xs.drop (o + (v :: vs).length) := by
      rw [List.drop_set_of_lt (by omega), List.take_add_one, List.take_set_of_le (by omega), List.getElem?_set_self (by omega)]
      simp only [Option.toList_some, List.append_assoc, List.singleton_append, List.length_cons, List.cons_append, List.nil_append]
      rw [show o + 1 + vs.length = o + (vs.length + 1) by omega]
    rw [← e1]
    exact h2
end

theorem rowGet_no (g : Nat) (A : Option Addr) (c : Nat) (d : Nat) (w : World) (h : RowIn w g A c [] d) :
    Calls Try.prog 131 #[.pointer (some ⟨g, 0, none⟩)] w fun e w' => e = .returned (.tuple #[.int .i64 0, .bool false]) ∧ w' = w := by
  have c0 : w.cell? ⟨g, 0, none⟩ = some (.slice A 0 c) := h.blk.cellAt rfl
  clear h
  go_enter Try.func131, Try.ntmps131
  go_wp2_with fail
  go_ret2
  exact ⟨rfl, by first | trivial | rfl⟩
theorem rowGet_yes (g : Nat) (A : Option Addr) (c : Nat) (x : Int) (l : List Int) (d : Nat) (w : World) (h : RowIn w g A c (x :: l) d) :
    Calls Try.prog 131 #[.pointer (some ⟨g, 0, none⟩)] w fun e w' => e = .returned (.tuple #[.int .i64 x, .bool true]) ∧ RowIn w' g A c l d ∧ Apart (fun b => b = g ∨ Foot A b) w w' := by
  obtain ⟨b, rfl, hb⟩ := h.row.form (by simp)
  have hcap := h.row.cap
  unfold maxLen at hcap
  have hbg : b ≠ g := fun e => h.off ⟨_, rfl, e⟩
  have c0 : w.cell? ⟨g, 0, none⟩ = some (.slice (some ⟨b, 0, none⟩) (l.length + 1) c) := h.blk.cellAt rfl
  have d0 : w.cell? ⟨b, 0, none⟩ = some (.int .i64 x) := h.row.cell (j := 0) rfl
  have i1 := hid (Any.slices_Delete_int_cells delLays b 0 (l.length + 1) c 0 1 (x :: l) w (by simp) (by simpa using hcap.1) (by omega) (by omega) (by omega) (fun j hj => by
    rw [Nat.zero_add]
    refine h.row.cell (j := j) ?_
    rw [List.getElem?_map, List.getElem?_eq_getElem hj, List.getD_eq_getElem?_getD, List.getElem?_eq_getElem hj]
    rfl) (fun j _ => by rw [Nat.zero_add]; exact h.row.frozen j))
  have hv : (((x :: l).take (l.length + 1)).take 0 ++ ((x :: l).take (l.length + 1)).drop 1 ++ List.replicate (1 - 0) 0).map (Value.int .i64) = (l ++ [0]).map iV := by
    rw [List.take_of_length_le (show (x :: l).length ≤ l.length + 1 by simp)]
    rfl
  simp only [hv, show l.length + 1 - (1 - 0) = l.length by omega] at i1
  have H := hid h
  have hltg := h.blk.lt
  clear h hv
  go_enter Try.func131, Try.ntmps131
  have k0 : ((l.length : Int) + 1 == 0) = false := by simp; omega
  go_wp2_with fail
  refine i1.out.mono ?_
  rintro e w1 ⟨rfl, q, hw1⟩
  have hap0 : Apart (fun k => k = b) w w1 := by
    rw [hw1]
    have h0 : Apart (fun k => k = b) w (w.drewN q) := ⟨rfl, rfl, rfl, Nat.le_refl _, fun _ _ _ => rfl⟩
    exact Apart.setCells (F := fun k => k = b) (b := b) rfl ((l ++ [0]).map iV) 0 (w.drewN q) h0
  have hrow : Row w1 3 (some ⟨b, 0, none⟩) l.length c (l.map iV) := by
    have hr0 : Row (w.drewN q) 3 (some ⟨b, 0, none⟩) (l.length + 1) c ((x :: l).map iV) := H.out.row
    have h1 := Row.setAll ((l ++ [0]).map iV) 0 (w.drewN q) _ hr0 (by simp)
    have h2 := h1.short (i := l.length) (by omega)
    rw [← hw1] at h2
    have e : ((((x :: l).map iV).take 0 ++ (l ++ [0]).map iV ++ ((x :: l).map iV).drop (0 + ((l ++ [0]).map iV).length)).take l.length) = l.map iV := by
      rw [List.take_zero, List.nil_append, List.take_append_of_le_length (by simp), List.map_append, List.take_left' (by simp)]
    rw [e] at h2
    exact h2
  have hblk : Blk w1 g 105 [.slice (some ⟨b, 0, none⟩) (x :: l).length c, .int .i64 (d : Int)] := H.out.blk.apart hap0 (fun e => hbg e.symm)
  have x0 : w1.cell? ⟨g, 0, none⟩ = some (.slice (some ⟨b, 0, none⟩) (x :: l).length c) := hblk.cellAt rfl
  have y0 := hblk.frozen 0
  have HH := hid (And.intro hap0 (And.intro hrow hblk))
  clear hw1 hap0 hrow hblk c0 d0 i1 k0
  go_wp2_with fail
  go_ret2
  obtain ⟨hap0, hrow, hblk⟩ := HH.out
  have hoff : ¬ Foot (some ⟨b, 0, none⟩) g := H.out.off
  refine ⟨rfl, ⟨hblk.set_ 0 (.slice (some ⟨b, 0, none⟩) l.length c), hrow.far (p := ⟨g, 0, none⟩) hoff _, hoff⟩, ?_⟩
  refine Apart.setCell ?_ (p := ⟨g, 0, none⟩) (.inl (.inl rfl)) _
  exact ⟨hap0.os, hap0.tape, hap0.output, hap0.size, fun k hk hf => hap0.block k hk (fun e => hf (.inr ⟨_, rfl, e.symm⟩))⟩
end Go.Proofs.Ytidlahljhgglcaa
