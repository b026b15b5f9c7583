/-
  A queue's get: the first one goes (slices.Delete by the kit's contract, laid by hand).
  Channels between partitions: the set in memory; there, Send.
  port.Set's Send and Get: what they refuse.
  slices.Clone of channels.
-/
import Derived.Test.YtidlahljhgglcaaQVmRuns1
import Derived.Shelf.Slices.Cells
namespace Go.Proofs.Ytidlahljhgglcaa
open Go.RowKit Go.ChangeShapes Go.WideShapes Go.ChangeAt

def delRen : Go.Shelf.Ren := ⟨fun n => if n = 23 then 133 else n, fun n => if n = 3 then 3 else if n = 4 then 4 else if n = 22 then 40 else n, fun n => n⟩
theorem delLays : Go.Proofs.Lays2.n23 Try.prog delRen where
  mixed := by kernel_rfl
  f23 := Try.func133.trans (congrArg some (by kernel_rfl))
  t0 := by kernel_rfl
  a0 := fun w => by kernel_rfl
  z0 := fun w => by kernel_rfl
  v0 := fun w => by kernel_rfl
  t3 := by kernel_rfl
  a3 := fun w => by kernel_rfl
  z3 := fun w => by kernel_rfl
  v3 := fun w => by kernel_rfl
  t4 := by kernel_rfl
  a4 := fun w => by kernel_rfl
  z4 := fun w => by kernel_rfl
  v4 := fun w => by kernel_rfl
  t22 := by kernel_rfl
  a22 := fun w => by kernel_rfl
  z22 := fun w => by kernel_rfl
  v22 := fun w => by kernel_rfl
  i3 := by kernel_rfl

section
variable {w w' : World} {e : TypeId} {A : Option Addr} {n c g : Nat} {xs : List Value}
theorem Row.short (h : Row w e A n c xs) {i : Nat} (hi : i ≤ n) : Row w e A i c (xs.take i) := by
  have hl := h.len
  have hc := h.cap
  refine ⟨by rw [List.length_take]; omega, by omega, hc.2, ?_⟩
  rcases h.2.2.2 with ⟨h1, h2⟩ | ⟨g, cur, h1, h2, h3, h4⟩
  · exact .inl ⟨h1, h2⟩
  · refine .inr ⟨g, cur, h1, h2, h3, ?_⟩
    rw [← h4, List.take_take, Nat.min_eq_left hi]
theorem Apart.setCells {F : Nat → Prop} {b : Nat} (hb : F b) : ∀ (vs : List Value) (o : Nat) (w' : World), Apart F w w' → Apart F w (w'.setCells b o vs)
  | [], _, _, h => h
  | v :: vs, o, w', h => Apart.setCells hb vs (o + 1) _ (h.setCell (p := ⟨b, o, none⟩) (.inl hb) v)
theorem Row.setAll : ∀ (vs : List Value) (o : Nat) (w : World) (xs : List Value), Row w e (some ⟨g, 0, none⟩) n c xs → o + vs.length ≤ n → Row (w.setCells g o vs) e (some ⟨g, 0, none⟩) n c (xs.take o ++ vs ++ xs.drop (o + vs.length))
  | [], o, w, xs, h, _ => by
    show Row w e _ n c _
    simp only [List.append_nil, List.length_nil, Nat.add_zero, List.take_append_drop]
    exact h
  | v :: vs, o, w, xs, h, ho => by
    have hl := h.len
    simp only [List.length_cons] at ho
    have h1 := h.set_ o v
    have h2 := Row.setAll vs (o + 1) _ _ h1 (by omega)
    show Row ((w.setCell ⟨g, o, none⟩ v).setCells g (o + 1) vs) e _ n c _
    have e1 : (xs.set o v).take (o + 1) ++ vs ++ (xs.set o v).drop (o + 1 + vs.length) = xs.take o ++ (v :: vs) ++ xs.drop (o + (v :: vs).length) := by
      rw [List.drop_set_of_lt (by omega), List.take_add_one, List.take_set_of_le (by omega), List.getElem?_set_self (by omega)]
      simp only [Option.toList_some, List.append_assoc, List.singleton_append, List.length_cons, List.cons_append, List.nil_append]
      rw [show o + 1 + vs.length = o + (vs.length + 1) by omega]
    rw [← e1]
    exact h2
end

theorem rowGet_no (g : Nat) (A : Option Addr) (c : Nat) (d : Nat) (w : World) (h : RowIn w g A c [] d) :
    Calls Try.prog 131 #[.pointer (some ⟨g, 0, none⟩)] w fun e w' => e = .returned (.tuple #[.int .i64 0, .bool false]) ∧ w' = w := by
  have c0 : w.cell? ⟨g, 0, none⟩ = some (.slice A 0 c) := h.blk.cellAt rfl
  clear h
  go_enter Try.func131, Try.ntmps131
  go_wp2_with fail
  go_ret2
  exact ⟨rfl, by first | trivial | rfl⟩
theorem rowGet_yes (g : Nat) (A : Option Addr) (c : Nat) (x : Int) (l : List Int) (d : Nat) (w : World) (h : RowIn w g A c (x :: l) d) :
    Calls Try.prog 131 #[.pointer (some ⟨g, 0, none⟩)] w fun e w' => e = .returned (.tuple #[.int .i64 x, .bool true]) ∧ RowIn w' g A c l d ∧ Apart (fun b => b = g ∨ Foot A b) w w' := by
  obtain ⟨b, rfl, hb⟩ := h.row.form (by simp)
  have hcap := h.row.cap
  unfold maxLen at hcap
  have hbg : b ≠ g := fun e => h.off ⟨_, rfl, e⟩
  have c0 : w.cell? ⟨g, 0, none⟩ = some (.slice (some ⟨b, 0, none⟩) (l.length + 1) c) := h.blk.cellAt rfl
  have d0 : w.cell? ⟨b, 0, none⟩ = some (.int .i64 x) := h.row.cell (j := 0) rfl
  have i1 := hid (Any.slices_Delete_int_cells delLays b 0 (l.length + 1) c 0 1 (x :: l) w (by simp) (by simpa using hcap.1) (by omega) (by omega) (by omega) (fun j hj => by
    rw [Nat.zero_add]
    refine h.row.cell (j := j) ?_
    rw [List.getElem?_map, List.getElem?_eq_getElem hj, List.getD_eq_getElem?_getD, List.getElem?_eq_getElem hj]
    rfl) (fun j _ => by rw [Nat.zero_add]; exact h.row.frozen j))
  have hv : (((x :: l).take (l.length + 1)).take 0 ++ ((x :: l).take (l.length + 1)).drop 1 ++ List.replicate (1 - 0) 0).map (Value.int .i64) = (l ++ [0]).map iV := by
    rw [List.take_of_length_le (show (x :: l).length ≤ l.length + 1 by simp)]
    rfl
  simp only [hv, show l.length + 1 - (1 - 0) = l.length by omega] at i1
  have H := hid h
  have hltg := h.blk.lt
  clear h hv
  go_enter Try.func131, Try.ntmps131
  have k0 : ((l.length : Int) + 1 == 0) = false := by simp; omega
  go_wp2_with fail
  refine i1.out.mono ?_
  rintro e w1 ⟨rfl, q, hw1⟩
  have hap0 : Apart (fun k => k = b) w w1 := by
    rw [hw1]
    have h0 : Apart (fun k => k = b) w (w.drewN q) := ⟨rfl, rfl, rfl, Nat.le_refl _, fun _ _ _ => rfl⟩
    exact Apart.setCells (F := fun k => k = b) (b := b) rfl ((l ++ [0]).map iV) 0 (w.drewN q) h0
  have hrow : Row w1 3 (some ⟨b, 0, none⟩) l.length c (l.map iV) := by
    have hr0 : Row (w.drewN q) 3 (some ⟨b, 0, none⟩) (l.length + 1) c ((x :: l).map iV) := H.out.row
    have h1 := Row.setAll ((l ++ [0]).map iV) 0 (w.drewN q) _ hr0 (by simp)
    have h2 := h1.short (i := l.length) (by omega)
    rw [← hw1] at h2
    have e : ((((x :: l).map iV).take 0 ++ (l ++ [0]).map iV ++ ((x :: l).map iV).drop (0 + ((l ++ [0]).map iV).length)).take l.length) = l.map iV := by
      rw [List.take_zero, List.nil_append, List.take_append_of_le_length (by simp), List.map_append, List.take_left' (by simp)]
    rw [e] at h2
    exact h2
  have hblk : Blk w1 g 105 [.slice (some ⟨b, 0, none⟩) (x :: l).length c, .int .i64 (d : Int)] := H.out.blk.apart hap0 (fun e => hbg e.symm)
  have x0 : w1.cell? ⟨g, 0, none⟩ = some (.slice (some ⟨b, 0, none⟩) (x :: l).length c) := hblk.cellAt rfl
  have y0 := hblk.frozen 0
  have HH := hid (And.intro hap0 (And.intro hrow hblk))
  clear hw1 hap0 hrow hblk c0 d0 i1 k0
  go_wp2_with fail
  go_ret2
  obtain ⟨hap0, hrow, hblk⟩ := HH.out
  have hoff : ¬ Foot (some ⟨b, 0, none⟩) g := H.out.off
  refine ⟨rfl, ⟨hblk.set_ 0 (.slice (some ⟨b, 0, none⟩) l.length c), hrow.far (p := ⟨g, 0, none⟩) hoff _, hoff⟩, ?_⟩
  refine Apart.setCell ?_ (p := ⟨g, 0, none⟩) (.inl (.inl rfl)) _
  exact ⟨hap0.os, hap0.tape, hap0.output, hap0.size, fun k hk hf => hap0.block k hk (fun e => hf (.inr ⟨_, rfl, e.symm⟩))⟩
end Go.Proofs.Ytidlahljhgglcaa
namespace Go.Proofs.Ytidlahljhgglcaa
open Go.RowKit Go.ChangeShapes Go.WideShapes Go.ChangeAt

/-- The set's own block. -/
def SetBlk (w : World) (g : Nat) (AE : Option Addr) (cE : Nat) (AW : Option Addr) (n cW : Nat) : Prop := Blk w g 97 [.slice AE n cE, .slice AW n cW]
theorem there_any (g : Nat) (AE AW : Option Addr) (n cE cW : Nat) (k : Int) (w : World) (h : SetBlk w g AE cE AW n cW) :
    Calls Try.prog 55 #[.pointer (some ⟨g, 0, none⟩), .int .i64 k] w fun e w' => e = .returned (.bool (decide (0 ≤ k) && decide (k < n))) ∧ w' = w := by
  have c1 : w.cell? ⟨g, 1, none⟩ = some (.slice AW n cW) := Blk.cellAt h rfl
  clear h
  go_enter Try.func55, Try.ntmps55
  by_cases h0 : 0 ≤ k
  · have y0 : decide (0 ≤ k) = true := decide_eq_true h0
    by_cases h1 : k < n
    · have y1 : decide (k < (n : Int)) = true := decide_eq_true h1
      have hr : Hid ((decide (0 ≤ k) && decide (k < (n : Int))) = true) := hid (by rw [y0, y1]; rfl)
      clear h0 h1
      go_wp2_with fail
      go_ret
      exact ⟨by rw [hr.out]; rfl, by first | trivial | rfl⟩
    · have y1 : decide (k < (n : Int)) = false := decide_eq_false h1
      have hr : Hid ((decide (0 ≤ k) && decide (k < (n : Int))) = false) := hid (by rw [y0, y1]; rfl)
      clear h0 h1
      go_wp2_with fail
      go_ret
      exact ⟨by rw [hr.out]; rfl, by first | trivial | rfl⟩
  · have y0 : decide (0 ≤ k) = false := decide_eq_false h0
    have hr : Hid ((decide (0 ≤ k) && decide (k < (n : Int))) = false) := hid (by rw [y0]; rfl)
    clear h0
    go_wp2_with fail
    go_ret
    exact ⟨by rw [hr.out]; rfl, by first | trivial | rfl⟩

set_option maxRecDepth 100000 in
theorem sendRow_ok (g : Nat) (adE adW : Addr) (N cE cW k : Nat) (src v : Int) (gr : Nat) (A : Option Addr) (c : Nat) (l : List Int) (d : Nat) (w : World) (h : SetBlk w g (some adE) cE (some adW) N cW) (hk : k < N)
    (hs : w.cell? (adE.add (k * 3)) = some (.int .i64 src)) (hw : w.cell? (adW.add k) = some (.iface 103 (.pointer (some ⟨gr, 0, none⟩)))) (hr : RowIn w gr A c l d) (hl : l.length ≠ d) (hm : l.length ≤ 100000) (hv0 : 0 ≤ v) (hv1 : v ≤ 65535) :
    Calls Try.prog 27 #[.pointer (some ⟨g, 0, none⟩), .int .i64 src, .int .i64 (k : Int), .int .i64 v] w fun e w' => e = .returned (.tuple #[.bool true, .int .i64 0]) ∧ ∃ A' c', RowIn w' gr A' c' (l ++ [v]) d ∧ Apart (fun b => b = gr ∨ Foot A b) w w' ∧ ∀ b, Foot A' b → Foot A b ∨ w.heap.size ≤ b := by
  have c0 : w.cell? ⟨g, 0, none⟩ = some (.slice (some adE) N cE) := Blk.cellAt h rfl
  have c1 : w.cell? ⟨g, 1, none⟩ = some (.slice (some adW) N cW) := Blk.cellAt h rfl
  have i1 := hid (there_any g (some adE) (some adW) N cE cW (k : Int) w h)
  rw [decide_eq_true (show (0 : Int) ≤ (k : Int) by omega), decide_eq_true (show (k : Int) < (N : Int) by omega)] at i1
  have i2 := hid (rowSend_ok gr A c l d v w hr hl hm)
  have y0 : decide (v < 0) = false := decide_eq_false (by omega)
  have y1 : decide ((65535 : Int) < v) = false := decide_eq_false (by omega)
  have k0 : (0 : Int) ≤ (k : Int) := Int.natCast_nonneg _
  have k1 : (k : Int) < (N : Int) := by omega
  clear h hr hv0 hv1 hk
  go_enter Try.func27, Try.ntmps27
  go_wp2_with fail
  refine i1.out.mono ?_
  rintro e w1 ⟨rfl, rfl⟩
  go_wp2_with fail
  refine i2.out.mono ?_
  rintro e w2 ⟨rfl, hp⟩
  go_wp2_with fail
  go_ret2
  exact ⟨rfl, hp⟩
set_option maxRecDepth 100000 in
theorem sendRow_full (g : Nat) (adE adW : Addr) (N cE cW k : Nat) (src v : Int) (gr : Nat) (A : Option Addr) (c : Nat) (l : List Int) (d : Nat) (w : World) (h : SetBlk w g (some adE) cE (some adW) N cW) (hk : k < N)
    (hs : w.cell? (adE.add (k * 3)) = some (.int .i64 src)) (hw : w.cell? (adW.add k) = some (.iface 103 (.pointer (some ⟨gr, 0, none⟩)))) (hr : RowIn w gr A c l d) (hl : l.length = d) (hv0 : 0 ≤ v) (hv1 : v ≤ 65535) :
    Calls Try.prog 27 #[.pointer (some ⟨g, 0, none⟩), .int .i64 src, .int .i64 (k : Int), .int .i64 v] w fun e w' => e = .returned (.tuple #[.bool false, .int .i64 0]) ∧ ∃ q, w' = w.drewN q := by
  have c0 : w.cell? ⟨g, 0, none⟩ = some (.slice (some adE) N cE) := Blk.cellAt h rfl
  have c1 : w.cell? ⟨g, 1, none⟩ = some (.slice (some adW) N cW) := Blk.cellAt h rfl
  have i1 := hid (there_any g (some adE) (some adW) N cE cW (k : Int) w h)
  rw [decide_eq_true (show (0 : Int) ≤ (k : Int) by omega), decide_eq_true (show (k : Int) < (N : Int) by omega)] at i1
  have i2 := hid (rowSend_full gr A c l d v w hr hl)
  have y0 : decide (v < 0) = false := decide_eq_false (by omega)
  have y1 : decide ((65535 : Int) < v) = false := decide_eq_false (by omega)
  have k0 : (0 : Int) ≤ (k : Int) := Int.natCast_nonneg _
  have k1 : (k : Int) < (N : Int) := by omega
  clear h hr hv0 hv1 hk
  go_enter Try.func27, Try.ntmps27
  go_wp2_with fail
  refine i1.out.mono ?_
  rintro e w1 ⟨rfl, rfl⟩
  go_wp2_with fail
  refine i2.out.mono ?_
  rintro e w2 ⟨rfl, hp⟩
  go_wp2_with fail
  go_ret2
  exact ⟨rfl, hp⟩
set_option maxRecDepth 100000 in
theorem sendLast_any (g : Nat) (adE adW : Addr) (N cE cW k : Nat) (src v : Int) (gr : Nat) (m : Int) (is : Bool) (w : World) (h : SetBlk w g (some adE) cE (some adW) N cW) (hk : k < N)
    (hs : w.cell? (adE.add (k * 3)) = some (.int .i64 src)) (hw : w.cell? (adW.add k) = some (.iface 98 (.pointer (some ⟨gr, 0, none⟩)))) (hr : LastIn w gr m is) (hv0 : 0 ≤ v) (hv1 : v ≤ 65535) :
    Calls Try.prog 27 #[.pointer (some ⟨g, 0, none⟩), .int .i64 src, .int .i64 (k : Int), .int .i64 v] w fun e w' => e = .returned (.tuple #[.bool true, .int .i64 0]) ∧ LastIn w' gr v true ∧ Apart (fun b => b = gr) w w' := by
  have c0 : w.cell? ⟨g, 0, none⟩ = some (.slice (some adE) N cE) := Blk.cellAt h rfl
  have c1 : w.cell? ⟨g, 1, none⟩ = some (.slice (some adW) N cW) := Blk.cellAt h rfl
  have i1 := hid (there_any g (some adE) (some adW) N cE cW (k : Int) w h)
  rw [decide_eq_true (show (0 : Int) ≤ (k : Int) by omega), decide_eq_true (show (k : Int) < (N : Int) by omega)] at i1
  have i2 := hid (lastSend_any gr m v is w hr)
  have y0 : decide (v < 0) = false := decide_eq_false (by omega)
  have y1 : decide ((65535 : Int) < v) = false := decide_eq_false (by omega)
  have k0 : (0 : Int) ≤ (k : Int) := Int.natCast_nonneg _
  have k1 : (k : Int) < (N : Int) := by omega
  clear h hr hv0 hv1 hk
  go_enter Try.func27, Try.ntmps27
  go_wp2_with fail
  refine i1.out.mono ?_
  rintro e w1 ⟨rfl, rfl⟩
  go_wp2_with fail
  refine i2.out.mono ?_
  rintro e w2 ⟨rfl, hp⟩
  go_wp2_with fail
  go_ret2
  exact ⟨rfl, hp⟩
set_option maxRecDepth 100000 in
theorem getRow_no (g : Nat) (adE adW : Addr) (N cE cW k : Nat) (dst : Int) (gr : Nat) (A : Option Addr) (c : Nat) (d : Nat) (w : World) (h : SetBlk w g (some adE) cE (some adW) N cW) (hk : k < N)
    (hs : w.cell? ⟨(adE.add (k * 3)).block, (adE.add (k * 3)).off + 1, none⟩ = some (.int .i64 dst)) (hw : w.cell? (adW.add k) = some (.iface 103 (.pointer (some ⟨gr, 0, none⟩)))) (hr : RowIn w gr A c [] d) :
    Calls Try.prog 123 #[.pointer (some ⟨g, 0, none⟩), .int .i64 dst, .int .i64 (k : Int)] w fun e w' => e = .returned (.tuple #[.int .i64 0, .bool false, .int .i64 0]) ∧ w' = w := by
  have c0 : w.cell? ⟨g, 0, none⟩ = some (.slice (some adE) N cE) := Blk.cellAt h rfl
  have c1 : w.cell? ⟨g, 1, none⟩ = some (.slice (some adW) N cW) := Blk.cellAt h rfl
  have i1 := hid (there_any g (some adE) (some adW) N cE cW (k : Int) w h)
  rw [decide_eq_true (show (0 : Int) ≤ (k : Int) by omega), decide_eq_true (show (k : Int) < (N : Int) by omega)] at i1
  have i2 := hid (rowGet_no gr A c d w hr)
  have k0 : (0 : Int) ≤ (k : Int) := Int.natCast_nonneg _
  have k1 : (k : Int) < (N : Int) := by omega
  clear h hr hk
  go_enter Try.func123, Try.ntmps123
  go_wp2_with fail
  refine i1.out.mono ?_
  rintro e w1 ⟨rfl, rfl⟩
  go_wp2_with fail
  refine i2.out.mono ?_
  rintro e w2 ⟨rfl, rfl⟩
  go_wp2_with fail
  refine bodyPost_ret (v := .tuple #[.int .i64 0, .bool false, .int .i64 0]) (by simp [results, Try.results123, go_sem]) rfl ?_
  exact ⟨rfl, by first | trivial | rfl⟩
set_option maxRecDepth 100000 in
theorem getRow_yes (g : Nat) (adE adW : Addr) (N cE cW k : Nat) (dst : Int) (gr : Nat) (A : Option Addr) (c : Nat) (x : Int) (l : List Int) (d : Nat) (w : World) (h : SetBlk w g (some adE) cE (some adW) N cW) (hk : k < N)
    (hs : w.cell? ⟨(adE.add (k * 3)).block, (adE.add (k * 3)).off + 1, none⟩ = some (.int .i64 dst)) (hw : w.cell? (adW.add k) = some (.iface 103 (.pointer (some ⟨gr, 0, none⟩)))) (hr : RowIn w gr A c (x :: l) d) :
    Calls Try.prog 123 #[.pointer (some ⟨g, 0, none⟩), .int .i64 dst, .int .i64 (k : Int)] w fun e w' => e = .returned (.tuple #[.int .i64 x, .bool true, .int .i64 0]) ∧ RowIn w' gr A c l d ∧ Apart (fun b => b = gr ∨ Foot A b) w w' := by
  have c0 : w.cell? ⟨g, 0, none⟩ = some (.slice (some adE) N cE) := Blk.cellAt h rfl
  have c1 : w.cell? ⟨g, 1, none⟩ = some (.slice (some adW) N cW) := Blk.cellAt h rfl
  have i1 := hid (there_any g (some adE) (some adW) N cE cW (k : Int) w h)
  rw [decide_eq_true (show (0 : Int) ≤ (k : Int) by omega), decide_eq_true (show (k : Int) < (N : Int) by omega)] at i1
  have i2 := hid (rowGet_yes gr A c x l d w hr)
  have k0 : (0 : Int) ≤ (k : Int) := Int.natCast_nonneg _
  have k1 : (k : Int) < (N : Int) := by omega
  clear h hr hk
  go_enter Try.func123, Try.ntmps123
  go_wp2_with fail
  refine i1.out.mono ?_
  rintro e w1 ⟨rfl, rfl⟩
  go_wp2_with fail
  refine i2.out.mono ?_
  rintro e w2 ⟨rfl, hp⟩
  go_wp2_with fail
  refine bodyPost_ret (v := .tuple #[.int .i64 x, .bool true, .int .i64 0]) (by simp [results, Try.results123, go_sem]) rfl ?_
  exact ⟨rfl, hp⟩
set_option maxRecDepth 100000 in
theorem getLast_any (g : Nat) (adE adW : Addr) (N cE cW k : Nat) (dst : Int) (gr : Nat) (m : Int) (is : Bool) (w : World) (h : SetBlk w g (some adE) cE (some adW) N cW) (hk : k < N)
    (hs : w.cell? ⟨(adE.add (k * 3)).block, (adE.add (k * 3)).off + 1, none⟩ = some (.int .i64 dst)) (hw : w.cell? (adW.add k) = some (.iface 98 (.pointer (some ⟨gr, 0, none⟩)))) (hr : LastIn w gr m is) :
    Calls Try.prog 123 #[.pointer (some ⟨g, 0, none⟩), .int .i64 dst, .int .i64 (k : Int)] w fun e w' => e = .returned (.tuple #[.int .i64 m, .bool is, .int .i64 0]) ∧ ∃ q, w' = w.drewN q := by
  have c0 : w.cell? ⟨g, 0, none⟩ = some (.slice (some adE) N cE) := Blk.cellAt h rfl
  have c1 : w.cell? ⟨g, 1, none⟩ = some (.slice (some adW) N cW) := Blk.cellAt h rfl
  have i1 := hid (there_any g (some adE) (some adW) N cE cW (k : Int) w h)
  rw [decide_eq_true (show (0 : Int) ≤ (k : Int) by omega), decide_eq_true (show (k : Int) < (N : Int) by omega)] at i1
  have i2 := hid (lastGet_any gr m is w hr)
  have k0 : (0 : Int) ≤ (k : Int) := Int.natCast_nonneg _
  have k1 : (k : Int) < (N : Int) := by omega
  clear h hr hk
  go_enter Try.func123, Try.ntmps123
  go_wp2_with fail
  refine i1.out.mono ?_
  rintro e w1 ⟨rfl, rfl⟩
  go_wp2_with fail
  refine i2.out.mono ?_
  rintro e w2 ⟨rfl, hp⟩
  go_wp2_with fail
  refine bodyPost_ret (v := .tuple #[.int .i64 m, .bool is, .int .i64 0]) (by simp [results, Try.results123, go_sem]) rfl ?_
  exact ⟨rfl, hp⟩
end Go.Proofs.Ytidlahljhgglcaa
namespace Go.Proofs.Ytidlahljhgglcaa
open Go.RowKit Go.ChangeShapes Go.WideShapes Go.ChangeAt

theorem send_out (g : Nat) (AE AW : Option Addr) (N cE cW : Nat) (p k v : Int) (w : World) (h : SetBlk w g AE cE AW N cW) (hk : ¬ (0 ≤ k ∧ k < N)) :
    Calls Try.prog 27 #[.pointer (some ⟨g, 0, none⟩), .int .i64 p, .int .i64 k, .int .i64 v] w fun e w' => e = .returned (.tuple #[.bool false, .int .i64 15]) ∧ w' = w := by
  have i1 := hid (there_any g AE AW N cE cW k w h)
  have hf : (decide (0 ≤ k) && decide (k < (N : Int))) = false := by
    rw [Bool.and_eq_false_iff, decide_eq_false_iff_not, decide_eq_false_iff_not]
    omega
  rw [hf] at i1
  clear h hk hf
  go_enter Try.func27, Try.ntmps27
  go_wp2_with fail
  refine i1.out.mono ?_
  rintro e w1 ⟨rfl, rfl⟩
  go_wp2_with fail
  go_ret2
  exact ⟨rfl, by first | trivial | rfl⟩
theorem get_out (g : Nat) (AE AW : Option Addr) (N cE cW : Nat) (p k : Int) (w : World) (h : SetBlk w g AE cE AW N cW) (hk : ¬ (0 ≤ k ∧ k < N)) :
    Calls Try.prog 123 #[.pointer (some ⟨g, 0, none⟩), .int .i64 p, .int .i64 k] w fun e w' => e = .returned (.tuple #[.int .i64 0, .bool false, .int .i64 15]) ∧ w' = w := by
  have i1 := hid (there_any g AE AW N cE cW k w h)
  have hf : (decide (0 ≤ k) && decide (k < (N : Int))) = false := by
    rw [Bool.and_eq_false_iff, decide_eq_false_iff_not, decide_eq_false_iff_not]
    omega
  rw [hf] at i1
  clear h hk hf
  go_enter Try.func123, Try.ntmps123
  go_wp2_with fail
  refine i1.out.mono ?_
  rintro e w1 ⟨rfl, rfl⟩
  go_wp2_with fail
  refine bodyPost_ret (v := .tuple #[.int .i64 0, .bool false, .int .i64 15]) (by simp [results, Try.results123, go_sem]) rfl ?_
  exact ⟨rfl, by first | trivial | rfl⟩
theorem send_src (g : Nat) (adE adW : Addr) (N cE cW k : Nat) (src p v : Int) (w : World) (h : SetBlk w g (some adE) cE (some adW) N cW) (hk : k < N) (hs : w.cell? (adE.add (k * 3)) = some (.int .i64 src)) (hp : src ≠ p) :
    Calls Try.prog 27 #[.pointer (some ⟨g, 0, none⟩), .int .i64 p, .int .i64 (k : Int), .int .i64 v] w fun e w' => e = .returned (.tuple #[.bool false, .int .i64 15]) ∧ w' = w := by
  have c0 : w.cell? ⟨g, 0, none⟩ = some (.slice (some adE) N cE) := Blk.cellAt h rfl
  have c1 : w.cell? ⟨g, 1, none⟩ = some (.slice (some adW) N cW) := Blk.cellAt h rfl
  have i1 := hid (there_any g (some adE) (some adW) N cE cW (k : Int) w h)
  rw [decide_eq_true (show (0 : Int) ≤ (k : Int) by omega), decide_eq_true (show (k : Int) < (N : Int) by omega)] at i1
  have k0 : (0 : Int) ≤ (k : Int) := Int.natCast_nonneg _
  have k1 : (k : Int) < (N : Int) := by omega
  have z0 : (src != p) = true := by simpa using hp
  clear h hk hp
  go_enter Try.func27, Try.ntmps27
  go_wp2_with fail
  refine i1.out.mono ?_
  rintro e w1 ⟨rfl, rfl⟩
  go_wp2_with fail
  go_ret2
  exact ⟨rfl, by first | trivial | rfl⟩
theorem get_dst (g : Nat) (adE adW : Addr) (N cE cW k : Nat) (dst p : Int) (w : World) (h : SetBlk w g (some adE) cE (some adW) N cW) (hk : k < N) (hs : w.cell? ⟨(adE.add (k * 3)).block, (adE.add (k * 3)).off + 1, none⟩ = some (.int .i64 dst)) (hp : dst ≠ p) :
    Calls Try.prog 123 #[.pointer (some ⟨g, 0, none⟩), .int .i64 p, .int .i64 (k : Int)] w fun e w' => e = .returned (.tuple #[.int .i64 0, .bool false, .int .i64 15]) ∧ w' = w := by
  have c0 : w.cell? ⟨g, 0, none⟩ = some (.slice (some adE) N cE) := Blk.cellAt h rfl
  have c1 : w.cell? ⟨g, 1, none⟩ = some (.slice (some adW) N cW) := Blk.cellAt h rfl
  have i1 := hid (there_any g (some adE) (some adW) N cE cW (k : Int) w h)
  rw [decide_eq_true (show (0 : Int) ≤ (k : Int) by omega), decide_eq_true (show (k : Int) < (N : Int) by omega)] at i1
  have k0 : (0 : Int) ≤ (k : Int) := Int.natCast_nonneg _
  have k1 : (k : Int) < (N : Int) := by omega
  have z0 : (dst != p) = true := by simpa using hp
  clear h hk hp
  go_enter Try.func123, Try.ntmps123
  go_wp2_with fail
  refine i1.out.mono ?_
  rintro e w1 ⟨rfl, rfl⟩
  go_wp2_with fail
  refine bodyPost_ret (v := .tuple #[.int .i64 0, .bool false, .int .i64 15]) (by simp [results, Try.results123, go_sem]) rfl ?_
  exact ⟨rfl, by first | trivial | rfl⟩
theorem send_range (g : Nat) (adE adW : Addr) (N cE cW k : Nat) (src v : Int) (w : World) (h : SetBlk w g (some adE) cE (some adW) N cW) (hk : k < N) (hs : w.cell? (adE.add (k * 3)) = some (.int .i64 src)) (hv : v < 0 ∨ 65535 < v) :
    Calls Try.prog 27 #[.pointer (some ⟨g, 0, none⟩), .int .i64 src, .int .i64 (k : Int), .int .i64 v] w fun e w' => e = .returned (.tuple #[.bool false, .int .i64 3]) ∧ w' = w := by
  have c0 : w.cell? ⟨g, 0, none⟩ = some (.slice (some adE) N cE) := Blk.cellAt h rfl
  have c1 : w.cell? ⟨g, 1, none⟩ = some (.slice (some adW) N cW) := Blk.cellAt h rfl
  have i1 := hid (there_any g (some adE) (some adW) N cE cW (k : Int) w h)
  rw [decide_eq_true (show (0 : Int) ≤ (k : Int) by omega), decide_eq_true (show (k : Int) < (N : Int) by omega)] at i1
  have k0 : (0 : Int) ≤ (k : Int) := Int.natCast_nonneg _
  have k1 : (k : Int) < (N : Int) := by omega
  clear h hk
  by_cases h0 : v < 0
  · have y0 : decide (v < 0) = true := decide_eq_true h0
    clear h0 hv
    go_enter Try.func27, Try.ntmps27
    go_wp2_with fail
    refine i1.out.mono ?_
    rintro e w1 ⟨rfl, rfl⟩
    go_wp2_with fail
    go_ret2
    exact ⟨rfl, by first | trivial | rfl⟩
  · have y0 : decide (v < 0) = false := decide_eq_false h0
    have y1 : decide ((65535 : Int) < v) = true := decide_eq_true (by omega)
    clear h0 hv
    go_enter Try.func27, Try.ntmps27
    go_wp2_with fail
    refine i1.out.mono ?_
    rintro e w1 ⟨rfl, rfl⟩
    go_wp2_with fail
    go_ret2
    exact ⟨rfl, by first | trivial | rfl⟩
end Go.Proofs.Ytidlahljhgglcaa
namespace Go.Proofs.Ytidlahljhgglcaa
open Go.RowKit Go.ChangeShapes Go.WideShapes Go.ChangeAt

theorem info_chanP : (Try.prog.info? 69).map (fun i => (i.zero, i.size, i.bytes)) = some (some (.agg #[.int .i64 0, .int .i64 0, .int .i64 0]), 3, 24) := by kernel_rfl
theorem oneCell_chanP (l : List ChanS) : ∀ u ∈ l.flatMap chanC, u.oneCell' = true := by
  intro u hu
  obtain ⟨x, _, hx⟩ := List.mem_flatMap.1 hu
  simp only [chanC, List.mem_cons, List.not_mem_nil, or_false] at hx
  rcases hx with rfl | rfl | rfl <;> rfl
theorem cloneC_any (A : Option Addr) (n c : Nat) (l : List ChanS) (w : World) (h : Reads w w.heap.size 3 A n (l.flatMap chanC)) (hn : n ≤ 1000000000) :
    Calls Try.prog 45 #[.slice A n c] w fun e w' => ∃ A' c', e = .returned (.slice A' n c') ∧ w'.ownsRow w.heap.size 69 3 (.slice A' n c') n (l.flatMap chanC) ∧ Below w.heap.size w w' := by
  have hnil := fun (W : World) (a : Option Addr) => Lib.run_eql_slice_nil (P := Try.prog) W 36 69 a n c 0 0 Try.underlying36
  obtain ⟨i0, hi0, hz0, hz1, hz2⟩ := info_parts info_chanP
  cases A with
  | none =>
    have hb : n = 0 := by
      by_cases h0 : 0 < n
      · obtain ⟨ad, he, _⟩ := h.form h0
        cases he
      · omega
    subst hb
    have hb : l.flatMap chanC = [] := List.eq_nil_of_length_eq_zero (by simpa using h.len)
    rw [hb]
    clear h hb
    go_enter Try.func45, Try.ntmps45
    go_wp2
    go_ret
    exact ⟨none, 0, rfl, World.ownsRow_nil _ _ _ _, Below.refl _ _⟩
  | some ad =>
    go_enter Try.func45, Try.ntmps45
    go_wp2_with (at_builtin; refine wpList_app _ rfl (.tmp 5) (.tmp 6) _ rfl w.heap.size 69 i0 _ 3 24 Try.underlying36 hi0 hz0 hz1 hz2 rfl (by decide) (.slice (some ⟨w.heap.size, 0, none⟩) 0 0) 0 [] rfl (World.ownsRow_made w _ 0 (Nat.le_refl _) (by simp [maxLen]) rfl) w.heap.size (some ad) n c (l.flatMap chanC) rfl (h.alloc (Nat.le_refl _) _) (oneCell_chanP l) (by simp [maxLen]; omega) (by omega) (by simp) ?_; intro A' c' w' hown hg hb)
    go_ret
    refine ⟨A', c', by simp, by simpa using hown, ?_⟩
    exact below_own ((Below.refl w.heap.size w).alloc (Nat.le_refl _) _) (World.ownsRow_made (size := 3) w _ 0 (Nat.le_refl _) (by simp [maxLen]) rfl) hg (Nat.le_refl _) (by simp)
end Go.Proofs.Ytidlahljhgglcaa
