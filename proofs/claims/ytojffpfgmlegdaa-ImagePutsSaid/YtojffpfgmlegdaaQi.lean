/-
  Package image: bytes ahead of the digest that are no image's.
  Package image: Get, where the bytes are too few, where the sum is right but the digest isn't, and where both are.
  An image is read: the good way.
  An image is got: the good way.
  An image's head that is cut: what the reader says of it, in plain words.
  What is put is got: an image's bytes are read again.
  An image's digest: the good way.
-/
import Derived.Test.YtojffpfgmlegdaaImgGet
import Derived.Deep.RegionHeld3
import Derived.Test.YtojffpfgmlegdaaImgRight
import Derived.Test.YtojffpfgmlegdaaCells
import Derived.Shelf.Spec.SlicesInsert
import Derived.Laws.IdiomCopy
import Derived.Deep.RegionLaw
namespace Go.Proofs.Ytojffpfgmlegdaa
open Go.RowKit

theorem blk_grown_ne {w w' : World} {g k : Nat} {t : TypeId} {cs : List Value} (h : Blk w k t cs) (hg : w.grownBy w' (some g)) (hne : k ≠ g) : Blk w' k t cs := h.grown hg (fun e => hne (by injection e))
theorem num_to (g : Nat) (s : RS) (W : Int) (v : Nat) (s' : RS) (he : rNum s W = (v, s')) (w : World) (h : Rdr w g s) (hs : s.b.length ≤ 100000000) :
    Calls Try.prog 53 #[.pointer (some ⟨g, 0, none⟩), .int .i64 W] w fun e w' => e = .returned (.int .i64 (v : Int)) ∧ Rdr w' g s' ∧ w.grownBy w' (some g) := by
  refine (num_any g s W w h hs).mono (fun e w' hp => ?_)
  unfold NPost at hp
  rw [he] at hp
  exact hp
theorem text_to (g : Nat) (s : RS) (W : Int) (t : List UInt8) (s' : RS) (he : rText s W = (t, s')) (w : World) (h : Rdr w g s) (hs : s.b.length ≤ 100000000) :
    Calls Try.prog 54 #[.pointer (some ⟨g, 0, none⟩), .int .i64 W] w fun e w' => ∃ A' m c', e = .returned (.slice A' m c') ∧ w'.ownsRow w.heap.size 5 1 (.slice A' m c') m (t.map bV) ∧ Rdr w' g s' ∧ w.grownBy w' (some g) := by
  refine (text2_any g s W w h hs).mono (fun e w' hp => ?_)
  unfold TPost at hp
  rw [he] at hp
  exact hp
theorem num_le {s s' : RS} {W : Int} {v M : Nat} (he : rNum s W = (v, s')) (h : s.b.length ≤ M) : s'.b.length ≤ M := by
  have := rNum_rest s W
  rw [he] at this
  exact Nat.le_trans this h
theorem text_le {s s' : RS} {W : Int} {t : List UInt8} {M : Nat} (he : rText s W = (t, s')) (h : s.b.length ≤ M) : s'.b.length ≤ M := by
  have := rText_rest s W
  rw [he] at this
  exact Nat.le_trans this h
theorem ownsRow_setCell_far {w : World} {base : Nat} {e : TypeId} {size : Nat} {v : Value} {n : Nat} {xs : List Value} (h : w.ownsRow base e size v n xs) {a : Addr} (ha : a.block < base) (u : Value) : (w.setCell a u).ownsRow base e size v n xs := by
  refine ⟨h.1, ?_⟩
  rcases h.2 with h2 | ⟨g', cap, cur, hv, hg', hh, r⟩
  · exact .inl h2
  · exact .inr ⟨g', cap, cur, hv, hg', (heap_setCell_other w a g' u (by omega)).trans hh, r⟩
set_option maxRecDepth 100000 in
set_option maxHeartbeats 4000000 in
theorem parse_form (A : Option Addr) (n c : Nat) (bs : List UInt8) (w : World) (h : Reads w w.heap.size 1 A n (bs.map bV)) (hn : n ≤ 100000000) (v1 : Nat) (s1 : RS) (e1 : rNum ⟨bs, 0⟩ 2 = (v1, s1)) (hv : v1 ≠ 19529) :
    Calls Try.prog 38 #[.slice A n c] w fun e w' => e = .returned (.tuple #[imgZ, .int .i64 2]) ∧ Below w.heap.size w w' := by
  obtain ⟨w1, hw1, hb1, hs1, hr1⟩ : ∃ w1 : World, w.alloc (.cells #[.int .i64 0, .int .i64 0, .int .i64 0, .int .i64 0, .int .i64 0, .int .i64 0, .int .i64 0, .slice none 0 0] 41) = w1 ∧ Below w.heap.size w w1 ∧ w1.heap.size = w.heap.size + 1 ∧ Blk w1 w.heap.size 41 [.int .i64 0, .int .i64 0, .int .i64 0, .int .i64 0, .int .i64 0, .int .i64 0, .int .i64 0, .slice none 0 0] := ⟨_, rfl, (Below.refl _ _).alloc (Nat.le_refl _) _, by simp, Blk.new _ _ _⟩
  have hbl : bs.length = n := by simpa using h.len
  have HR := hid (h.belowS hb1)
  have HBL := hid hbl
  have HR1 := hid hr1
  have HB1 := hid hb1
  have HE := hid e1
  have HS1 := hid hs1
  have hne : ((v1 : Int) == 19529) = false := by simp; omega
  have hne2 : ((v1 : Int) != 19529) = true := by simp; omega
  clear h hr1 hbl e1 hb1 hs1 hv
  go_enter Try.func38, Try.ntmps38
  go_wp2_with fail
  clear hw1
  refine (read_any A n c bs w1 HR.out hn).mono ?_
  rintro e w2 ⟨g, rfl, hg, hrd, hb2⟩
  go_wp2_with fail
  refine (num_to g ⟨bs, 0⟩ 2 v1 s1 HE.out w2 hrd (by rw [HBL.out]; exact hn)).mono ?_
  rintro e w3 ⟨rfl, hrd3, hg3⟩
  have hb13 := hb2.grown hg3 hb2.size (fun k hk => by injection hk with hk; omega)
  have hr3 := HR1.out.belowS hb13
  have hfin0 := hid (bel_trans HB1.out hb13)
  clear hrd hrd3 hb2 hg3 hb13
  obtain ⟨f0, f1, f2, f3, f4, f5, f6, f7⟩ : _ ∧ _ ∧ _ ∧ _ ∧ _ ∧ _ ∧ _ ∧ _ := ⟨hr3.frozen 0, hr3.frozen 1, hr3.frozen 2, hr3.frozen 3, hr3.frozen 4, hr3.frozen 5, hr3.frozen 6, hr3.frozen 7⟩
  obtain ⟨d0, d1, d2, d3, d4, d5, d6, d7⟩ : _ ∧ _ ∧ _ ∧ _ ∧ _ ∧ _ ∧ _ ∧ _ := ⟨hr3.cellAt (i := 0) rfl, hr3.cellAt (i := 1) rfl, hr3.cellAt (i := 2) rfl, hr3.cellAt (i := 3) rfl, hr3.cellAt (i := 4) rfl, hr3.cellAt (i := 5) rfl, hr3.cellAt (i := 6) rfl, hr3.cellAt (i := 7) rfl⟩
  have hr7 := hid hr3
  clear hr3
  go_wp2_with fail
  obtain ⟨w8, hw8, hb8, hr8⟩ := store8z hr7.out rfl (.int .i64 0) (.int .i64 0) (.int .i64 0) (.int .i64 0) (.int .i64 0) (.int .i64 0) (.int .i64 0) (.slice none 0 0)
  rw [hw8]
  clear hw8 f0 d0 f1 d1 f2 d2 f3 d3 f4 d4 f5 d5 f6 d6 f7 d7
  obtain ⟨r0, r1, r2, r3, r4, r5, r6, r7⟩ : _ ∧ _ ∧ _ ∧ _ ∧ _ ∧ _ ∧ _ ∧ _ := ⟨hr8.cellAt (i := 0) rfl, hr8.cellAt (i := 1) rfl, hr8.cellAt (i := 2) rfl, hr8.cellAt (i := 3) rfl, hr8.cellAt (i := 4) rfl, hr8.cellAt (i := 5) rfl, hr8.cellAt (i := 6) rfl, hr8.cellAt (i := 7) rfl⟩
  have hfin := hid (hfin0.out.trans hb8)
  refine bodyPost_ret (v := .tuple #[imgZ, .int .i64 2]) (by simp [results, Try.results38, go_sem, r0, r1, r2, r3, r4, r5, r6, r7, imgZ]) rfl ?_
  exact ⟨rfl, hfin.out⟩
set_option maxRecDepth 100000 in
set_option maxHeartbeats 4000000 in
theorem parse_end (A : Option Addr) (n c : Nat) (bs : List UInt8) (w : World) (h : Reads w w.heap.size 1 A n (bs.map bV)) (hn : n ≤ 100000000) (v2 v3 v4 v5 v6 v7 v8 : Nat) (s1 s2 s3 s4 s5 s6 s7 s8 s9 : RS) (t : List UInt8) (e1 : rNum ⟨bs, 0⟩ 2 = (19529, s1)) (e2 : rNum s1 1 = (v2, s2)) (e3 : rNum s2 2 = (v3, s3)) (e4 : rNum s3 2 = (v4, s4)) (e5 : rNum s4 1 = (v5, s5)) (e6 : rNum s5 1 = (v6, s6)) (e7 : rNum s6 1 = (v7, s7)) (e8 : rNum s7 1 = (v8, s8)) (et : rText s8 65535 = (t, s9)) (x : Int) (hx : rEnd s9 = x) (hx0 : x ≠ 0) :
    Calls Try.prog 38 #[.slice A n c] w fun e w' => e = .returned (.tuple #[imgZ, .int .i64 (x)]) ∧ Below w.heap.size w w' := by
  obtain ⟨w1, hw1, hb1, hs1, hr1⟩ : ∃ w1 : World, w.alloc (.cells #[.int .i64 0, .int .i64 0, .int .i64 0, .int .i64 0, .int .i64 0, .int .i64 0, .int .i64 0, .slice none 0 0] 41) = w1 ∧ Below w.heap.size w w1 ∧ w1.heap.size = w.heap.size + 1 ∧ Blk w1 w.heap.size 41 [.int .i64 0, .int .i64 0, .int .i64 0, .int .i64 0, .int .i64 0, .int .i64 0, .int .i64 0, .slice none 0 0] := ⟨_, rfl, (Below.refl _ _).alloc (Nat.le_refl _) _, by simp, Blk.new _ _ _⟩
  have hbl : bs.length = n := by simpa using h.len
  have HR := hid (h.belowS hb1)
  have HR1 := hid hr1
  have HB1 := hid hb1
  have l0 : (⟨bs, 0⟩ : RS).b.length ≤ 100000000 := by show bs.length ≤ _; omega
  have l1 := num_le e1 l0
  have l2 := num_le e2 l1
  have l3 := num_le e3 l2
  have l4 := num_le e4 l3
  have l5 := num_le e5 l4
  have l6 := num_le e6 l5
  have l7 := num_le e7 l6
  have l8 := num_le e8 l7
  have l9 := text_le et l8
  have E1 := hid e1
  have E2 := hid e2
  have E3 := hid e3
  have E4 := hid e4
  have E5 := hid e5
  have E6 := hid e6
  have E7 := hid e7
  have E8 := hid e8
  have ET := hid et
  have L0 := hid l0
  have L1 := hid l1
  have L2 := hid l2
  have L3 := hid l3
  have L4 := hid l4
  have L5 := hid l5
  have L6 := hid l6
  have L7 := hid l7
  have L8 := hid l8
  have L9 := hid l9
  have HS1 := hid hs1
  clear h hr1 hbl hb1 hs1 e1 e2 e3 e4 e5 e6 e7 e8 et l0 l1 l2 l3 l4 l5 l6 l7 l8 l9
  go_enter Try.func38, Try.ntmps38
  go_wp2_with fail
  clear hw1
  refine (read_any A n c bs w1 HR.out hn).mono ?_
  rintro e w2 ⟨g, rfl, hg, hrd2, hb2⟩
  have hG2 := hid (hb2)
  go_wp2_with fail
  refine (num_to g ⟨bs, 0⟩ 2 19529 s1 E1.out w2 hrd2 L0.out).mono ?_
  rintro e w3 ⟨rfl, hrd3, hg3⟩
  have hc3 : Below w1.heap.size w1 w3 := hb2.grown hg3 hb2.size (fun k hk => by injection hk with hk; omega)
  clear hrd2 hg3 hb2
  go_wp2_with fail
  refine (num_to g s1 1 v2 s2 E2.out w3 hrd3 L1.out).mono ?_
  rintro e w4 ⟨rfl, hrd4, hg4⟩
  have hc4 : Below w1.heap.size w1 w4 := hc3.grown hg4 hc3.size (fun k hk => by injection hk with hk; omega)
  clear hrd3 hg4 hc3
  go_wp2_with fail
  refine (num_to g s2 2 v3 s3 E3.out w4 hrd4 L2.out).mono ?_
  rintro e w5 ⟨rfl, hrd5, hg5⟩
  have hc5 : Below w1.heap.size w1 w5 := hc4.grown hg5 hc4.size (fun k hk => by injection hk with hk; omega)
  clear hrd4 hg5 hc4
  go_wp2_with fail
  refine (num_to g s3 2 v4 s4 E4.out w5 hrd5 L3.out).mono ?_
  rintro e w6 ⟨rfl, hrd6, hg6⟩
  have hc6 : Below w1.heap.size w1 w6 := hc5.grown hg6 hc5.size (fun k hk => by injection hk with hk; omega)
  clear hrd5 hg6 hc5
  go_wp2_with fail
  refine (num_to g s4 1 v5 s5 E5.out w6 hrd6 L4.out).mono ?_
  rintro e w7 ⟨rfl, hrd7, hg7⟩
  have hc7 : Below w1.heap.size w1 w7 := hc6.grown hg7 hc6.size (fun k hk => by injection hk with hk; omega)
  clear hrd6 hg7 hc6
  go_wp2_with fail
  refine (num_to g s5 1 v6 s6 E6.out w7 hrd7 L5.out).mono ?_
  rintro e w8 ⟨rfl, hrd8, hg8⟩
  have hc8 : Below w1.heap.size w1 w8 := hc7.grown hg8 hc7.size (fun k hk => by injection hk with hk; omega)
  clear hrd7 hg8 hc7
  go_wp2_with fail
  refine (num_to g s6 1 v7 s7 E7.out w8 hrd8 L6.out).mono ?_
  rintro e w9 ⟨rfl, hrd9, hg9⟩
  have hc9 : Below w1.heap.size w1 w9 := hc8.grown hg9 hc8.size (fun k hk => by injection hk with hk; omega)
  clear hrd8 hg9 hc8
  go_wp2_with fail
  refine (num_to g s7 1 v8 s8 E8.out w9 hrd9 L7.out).mono ?_
  rintro e w10 ⟨rfl, hrd10, hg10⟩
  have hc10 : Below w1.heap.size w1 w10 := hc9.grown hg10 hc9.size (fun k hk => by injection hk with hk; omega)
  clear hrd9 hg10 hc9
  obtain ⟨wa, hwa, hsa, hba, hblka⟩ : ∃ wa : World, w10.alloc (.cells #[.int .i64 (v2 : Int), .int .i64 (v3 : Int), .int .i64 (v4 : Int), .int .i64 (v5 : Int), .int .i64 (v6 : Int), .int .i64 (v7 : Int), .int .i64 (v8 : Int), .slice none 0 0] 41) = wa ∧ wa.heap.size = w10.heap.size + 1 ∧ Below w10.heap.size w10 wa ∧ Blk wa w10.heap.size 41 [.int .i64 (v2 : Int), .int .i64 (v3 : Int), .int .i64 (v4 : Int), .int .i64 (v5 : Int), .int .i64 (v6 : Int), .int .i64 (v7 : Int), .int .i64 (v8 : Int), .slice none 0 0] := ⟨_, rfl, by simp, (Below.refl _ _).alloc (Nat.le_refl _) _, Blk.new _ _ _⟩
  have hrda := hrd10.below hba
  have hca := bel_trans hc10 hba
  have HWA := hid hwa
  have hgl := hrd10.lt
  have hc10s := hc10.size
  clear hrd10 hc10 hba hwa
  go_wp2_with fail
  first | rw [HWA.out] | skip
  refine (text_to g s8 65535 t s9 ET.out wa hrda L8.out).mono ?_
  rintro e w11 ⟨A7, m7, c7, rfl, hown, hrd11, hg11⟩
  have hc11 : Below w1.heap.size w1 w11 := hca.grown hg11 hca.size (fun k hk => by injection hk with hk; omega)
  have hblk11 := blk_grown_ne hblka hg11 (by omega)
  have f7 := hblk11.frozen 7
  have d7 := hblk11.cellAt (i := 7) rfl
  have hz11 := hg11.size
  have hown12 := ownsRow_setCell_far hown (a := ⟨w10.heap.size, 7, none⟩) (by show w10.heap.size < wa.heap.size; omega) (.slice A7 m7 c7)
  have hblk12 := hblk11.set_ 7 (.slice A7 m7 c7)
  have hc12 : Below w1.heap.size w1 (w11.setCell ⟨w10.heap.size, 7, none⟩ (.slice A7 m7 c7)) := hc11.setCell (by omega) _
  have hrd12 : Rdr (w11.setCell ⟨w10.heap.size, 7, none⟩ (.slice A7 m7 c7)) g s9 := by
    obtain ⟨A0, n0, c0, q1, q2, q3, q4⟩ := hrd11
    exact ⟨A0, n0, c0, q1.far (p := ⟨w10.heap.size, 7, none⟩) (by show g ≠ w10.heap.size; omega) _, q2.setCell (by show g ≤ w10.heap.size; omega) _, q3, q4⟩
  have HO := hid hown12
  have HB12 := hid hblk12
  have HC12 := hid hc12
  have HRD := hid hrd12
  clear hown hown12 hblk11 hblk12 hc11 hc12 hrd11 hrd12 hg11 hrda hca hblka
  go_wp2_with fail
  generalize hw12 : w11.setCell ⟨w10.heap.size, 7, none⟩ (.slice A7 m7 c7) = w12 at *
  clear hw12 f7 d7
  refine (end_rd g s9 w12 HRD.out L9.out).mono ?_
  rintro e w13 ⟨rfl, rfl⟩
  have hr12 := HR1.out.below HC12.out (by have := HS1.out; omega)
  rw [hx]
  have t1 : (x == 0) = false := by simpa using hx0
  have t2 : (x != 0) = true := by simpa using hx0
  have HB0 := hid (HB1.out.trans (HC12.out.mono HB1.out.size))
  clear hx hx0
  obtain ⟨f0, f1, f2, f3, f4, f5, f6, f7⟩ : _ ∧ _ ∧ _ ∧ _ ∧ _ ∧ _ ∧ _ ∧ _ := ⟨hr12.frozen 0, hr12.frozen 1, hr12.frozen 2, hr12.frozen 3, hr12.frozen 4, hr12.frozen 5, hr12.frozen 6, hr12.frozen 7⟩
  obtain ⟨d0, d1, d2, d3, d4, d5, d6, d7⟩ : _ ∧ _ ∧ _ ∧ _ ∧ _ ∧ _ ∧ _ ∧ _ := ⟨hr12.cellAt (i := 0) rfl, hr12.cellAt (i := 1) rfl, hr12.cellAt (i := 2) rfl, hr12.cellAt (i := 3) rfl, hr12.cellAt (i := 4) rfl, hr12.cellAt (i := 5) rfl, hr12.cellAt (i := 6) rfl, hr12.cellAt (i := 7) rfl⟩
  have hr7 := hid hr12
  clear hr12
  go_wp2_with fail
  obtain ⟨w8', hw8, hb8, hr8⟩ := store8z hr7.out rfl (.int .i64 0) (.int .i64 0) (.int .i64 0) (.int .i64 0) (.int .i64 0) (.int .i64 0) (.int .i64 0) (.slice none 0 0)
  rw [hw8]
  clear hw8 f0 d0 f1 d1 f2 d2 f3 d3 f4 d4 f5 d5 f6 d6 f7 d7
  obtain ⟨r0, r1, r2, r3, r4, r5, r6, r7⟩ : _ ∧ _ ∧ _ ∧ _ ∧ _ ∧ _ ∧ _ ∧ _ := ⟨hr8.cellAt (i := 0) rfl, hr8.cellAt (i := 1) rfl, hr8.cellAt (i := 2) rfl, hr8.cellAt (i := 3) rfl, hr8.cellAt (i := 4) rfl, hr8.cellAt (i := 5) rfl, hr8.cellAt (i := 6) rfl, hr8.cellAt (i := 7) rfl⟩
  have hfin := hid (HB0.out.trans hb8)
  refine bodyPost_ret (v := .tuple #[imgZ, .int .i64 x]) (by simp [results, Try.results38, go_sem, r0, r1, r2, r3, r4, r5, r6, r7, imgZ]) rfl ?_
  exact ⟨rfl, hfin.out⟩
end Go.Proofs.Ytojffpfgmlegdaa
namespace Go.Proofs.Ytojffpfgmlegdaa
open Go.RowKit

set_option maxRecDepth 100000 in
set_option maxHeartbeats 2000000 in
theorem imgGet_short (A : Option Addr) (n c : Nat) (w : World) (hn : n < 36) :
    Calls Try.prog 24 #[.slice A n c] w fun e w' => e = .returned (.tuple #[imgZ, .int .i64 1]) ∧ Below w.heap.size w w' := by
  obtain ⟨w1, hw1, hb1, hr1⟩ : ∃ w1 : World, w.alloc (.cells #[.int .i64 0, .int .i64 0, .int .i64 0, .int .i64 0, .int .i64 0, .int .i64 0, .int .i64 0, .slice none 0 0] 41) = w1 ∧ Below w.heap.size w w1 ∧ Blk w1 w.heap.size 41 [.int .i64 0, .int .i64 0, .int .i64 0, .int .i64 0, .int .i64 0, .int .i64 0, .int .i64 0, .slice none 0 0] := ⟨_, rfl, (Below.refl _ _).alloc (Nat.le_refl _) _, Blk.new _ _ _⟩
  obtain ⟨f0, f1, f2, f3, f4, f5, f6, f7⟩ : _ ∧ _ ∧ _ ∧ _ ∧ _ ∧ _ ∧ _ ∧ _ := ⟨hr1.frozen 0, hr1.frozen 1, hr1.frozen 2, hr1.frozen 3, hr1.frozen 4, hr1.frozen 5, hr1.frozen 6, hr1.frozen 7⟩
  obtain ⟨e0, e1, e2, e3, e4, e5, e6, e7⟩ : _ ∧ _ ∧ _ ∧ _ ∧ _ ∧ _ ∧ _ ∧ _ := ⟨hr1.cellAt (i := 0) rfl, hr1.cellAt (i := 1) rfl, hr1.cellAt (i := 2) rfl, hr1.cellAt (i := 3) rfl, hr1.cellAt (i := 4) rfl, hr1.cellAt (i := 5) rfl, hr1.cellAt (i := 6) rfl, hr1.cellAt (i := 7) rfl⟩
  have hr7 := hid hr1
  have q0 : decide ((n : Int) < 36) = true := decide_eq_true (by omega)
  clear hr1
  go_enter Try.func24, Try.ntmps24
  go_wp2_with fail
  clear hw1
  obtain ⟨w8, hw8, hb8, hr8⟩ := store8z hr7.out rfl (.int .i64 0) (.int .i64 0) (.int .i64 0) (.int .i64 0) (.int .i64 0) (.int .i64 0) (.int .i64 0) (.slice none 0 0)
  first | rw [hw8] | skip
  clear hw8 f0 f1 f2 f3 f4 f5 f6 f7 e0 e1 e2 e3 e4 e5 e6 e7
  obtain ⟨r0, r1, r2, r3, r4, r5, r6, r7⟩ : _ ∧ _ ∧ _ ∧ _ ∧ _ ∧ _ ∧ _ ∧ _ := ⟨hr8.cellAt (i := 0) rfl, hr8.cellAt (i := 1) rfl, hr8.cellAt (i := 2) rfl, hr8.cellAt (i := 3) rfl, hr8.cellAt (i := 4) rfl, hr8.cellAt (i := 5) rfl, hr8.cellAt (i := 6) rfl, hr8.cellAt (i := 7) rfl⟩
  have hfin := hid (hb1.trans hb8)
  refine bodyPost_ret (v := .tuple #[imgZ, .int .i64 1]) (by simp [results, Try.results24, go_sem, r0, r1, r2, r3, r4, r5, r6, r7, imgZ]) rfl ?_
  exact ⟨rfl, hfin.out⟩
set_option maxRecDepth 100000 in
set_option maxHeartbeats 4000000 in
theorem imgGet_bad2 (A : Option Addr) (D c : Nat) (bs : List UInt8) (w : World) (h : Reads w w.heap.size 1 A (D + 36) (bs.map bV)) (hD : D ≤ 1000000) (hc : D + 36 ≤ c) (hcm : c ≤ maxLen) (hd : sum4 (bs.take (D + 32)) = bs.drop (D + 32)) (hde : shaOf (bs.take D) ≠ (bs.take (D + 32)).drop D) :
    Calls Try.prog 24 #[.slice A (D + 36) c] w fun e w' => e = .returned (.tuple #[imgZ, .int .i64 10]) ∧ Below w.heap.size w w' := by
  obtain ⟨w1, hw1, hb1, hr1⟩ : ∃ w1 : World, w.alloc (.cells #[.int .i64 0, .int .i64 0, .int .i64 0, .int .i64 0, .int .i64 0, .int .i64 0, .int .i64 0, .slice none 0 0] 41) = w1 ∧ Below w.heap.size w w1 ∧ Blk w1 w.heap.size 41 [.int .i64 0, .int .i64 0, .int .i64 0, .int .i64 0, .int .i64 0, .int .i64 0, .int .i64 0, .slice none 0 0] := ⟨_, rfl, (Below.refl _ _).alloc (Nat.le_refl _) _, Blk.new _ _ _⟩
  have HW := hid hw1
  clear hw1
  obtain ⟨ad, rfl, had, -⟩ := h.form (by omega)
  have hbl : bs.length = D + 36 := by simpa using h.len
  have hf := (h.front (k := D + 32) (by omega)).belowS hb1
  have hk := (h.cut (k := D + 32) (cap := c) (by omega) hc).belowS hb1
  rw [Nat.mul_one, ← List.map_take] at hf
  rw [Nat.mul_one, ← List.map_drop] at hk
  have hcM : c ≠ D + 32 := by omega
  have hcD : c ≠ D := by omega
  rw [if_neg hcM] at hk
  have hdg := ((h.front (k := D + 32) (by omega)).cut (k := D) (cap := c) (by omega) (by omega)).belowS hb1
  have hbd := (h.front (k := D) (by omega)).belowS hb1
  rw [Nat.mul_one, Nat.mul_one, ← List.map_take, ← List.map_drop] at hdg
  rw [Nat.mul_one, ← List.map_take] at hbd
  rw [if_neg hcD] at hdg
  simp only [Option.map_some] at hdg
  have HDG := hid hdg
  have HBD := hid hbd
  clear hdg hbd
  simp only [Option.map_some, Nat.mul_one] at hk
  have HF := hid hf
  have HK := hid hk
  clear h had hf hk
  unfold maxLen at hcm
  have HD := hid hd
  have HDE := hid hde
  clear hde
  obtain ⟨M, hM⟩ : ∃ M, D + 32 = M := ⟨_, rfl⟩
  obtain ⟨N, hN⟩ : ∃ N, D + 36 = N := ⟨_, rfl⟩
  rw [hM] at HF HK HD HDG HDE hcM
  rw [hN] at hbl hc HK ⊢
  clear hd
  have q0 : decide ((N : Int) < 36) = false := decide_eq_false (by omega)
  have q1 : IntKind.i64.wrap ((N : Int) - 36) = (D : Int) := by rw [IntWalk.i64_in _ (by omega)]; omega
  have q2 : IntKind.i64.wrap ((N : Int) - 4) = (M : Int) := by rw [IntWalk.i64_in _ (by omega)]; omega
  have q3 : (0 : Int) ≤ (D : Int) := Int.natCast_nonneg _
  have q4 : (D : Int) ≤ (c : Int) := by omega
  have q5 : (D : Int) ≤ (M : Int) := by omega
  have q6 : (M : Int) ≤ (c : Int) := by omega
  have q7 : (0 : Int) ≤ (M : Int) := Int.natCast_nonneg _
  have q8 : (M : Int) ≤ (N : Int) := by omega
  have q9 : (N : Int) ≤ (c : Int) := by omega
  have q10 : (D : Int) ≤ (N : Int) := by omega
  have HN4 : Hid (N = M + 4) := hid (by omega)
  have HM : Hid (M ≤ 1000000000) := hid (by omega)
  have HDB : Hid (D ≤ 1000000000) := hid (by omega)
  clear hM hN
  go_enter Try.func24, Try.ntmps24
  go_wp2_with fail
  first | rw [HW.out] | skip
  go_quiet (fail)
  go_wp2_with fail
  have HF2 : Hid (Reads (w1.drewN nq) (w1.drewN nq).heap.size 1 (some ad) M ((bs.take M).map bV)) := hid HF.out
  have HDG2 : Hid (Reads (w1.drewN nq) (w1.drewN nq).heap.size 1 (some (ad.add D)) (M - D) (((bs.take M).drop D).map bV)) := hid HDG.out
  have HBD2 : Hid (Reads (w1.drewN nq) (w1.drewN nq).heap.size 1 (some ad) D ((bs.take D).map bV)) := hid HBD.out
  have HK2 : Hid (Reads (w1.drewN nq) (w1.drewN nq).heap.size 1 (some (ad.add M)) (N - M) ((bs.drop M).map bV)) := hid HK.out
  have hb1' := below_drewN hb1 nq
  have HR1 : Hid (Blk (w1.drewN nq) w.heap.size 41 [.int .i64 0, .int .i64 0, .int .i64 0, .int .i64 0, .int .i64 0, .int .i64 0, .int .i64 0, .slice none 0 0]) := hid hr1
  have HB1 := hid hb1'
  clear hr1 hb1 hb1' HF HK HW HDG HBD
  generalize w1.drewN nq = w2 at *
  have hne : decide (sum4 (bs.take M) = bs.drop M) = true := decide_eq_true HD.out
  have HNE := hid hne
  have hne2 : decide (shaOf (bs.take D) = (bs.take M).drop D) = false := decide_eq_false HDE.out
  have HNE2 := hid hne2
  clear hne hne2
  go_region_held3 (fun _ => True) (trivial)
    (first
      | (go_at_call 37; refine (imgSum_any (some ad) M c (bs.take M) _ ?_ HM.out).mono ?_; (first | exact HF2.out | exact HF2.out.drew); rintro e wa ⟨Aa, ca, rfl, howna, hba'⟩; have hba : Below w2.heap.size w2 wa := ⟨hba'.os, hba'.tape, hba'.output, hba'.size, hba'.block⟩; clear hba')
      | (go_at_call_of 34 (Value.slice Aa 4 ca); refine (equal_any _ _ _ _ _ _ (sum4 (bs.take M)) (bs.drop M) _ (Reads.of_own howna) (HK2.out.below hba)).mono ?_; rw [HNE.out]; rintro e wb ⟨rfl, hbb'⟩; have hbb := bel_trans hba hbb'; clear hbb')
      | (go_at_call 36; refine (digest_any (some ad) D c (bs.take D) _ ?_ HDB.out).mono ?_; (first | exact HBD2.out.belowS hbb); rintro e wc ⟨gd, rfl, hrdc, hbc'⟩; have hbc := bel_trans hbb hbc'; clear hbc')
      | (go_at_call 34; refine (equal_any _ _ _ _ _ _ (shaOf (bs.take D)) ((bs.take M).drop D) _ hrdc (HDG2.out.below hbc)).mono ?_; rw [HNE2.out]; rintro e wd ⟨rfl, hbd'⟩; have hbd := bel_trans hbc hbd'; clear hbd'))
  all_goals (
    have hr6 := HR1.out.belowS hbd
    have hfin0 := hid (HB1.out.trans (hbd.mono HB1.out.size))
    obtain ⟨f0, f1, f2, f3, f4, f5, f6, f7⟩ : _ ∧ _ ∧ _ ∧ _ ∧ _ ∧ _ ∧ _ ∧ _ := ⟨hr6.frozen 0, hr6.frozen 1, hr6.frozen 2, hr6.frozen 3, hr6.frozen 4, hr6.frozen 5, hr6.frozen 6, hr6.frozen 7⟩
    obtain ⟨e0, e1, e2, e3, e4, e5, e6, e7⟩ : _ ∧ _ ∧ _ ∧ _ ∧ _ ∧ _ ∧ _ ∧ _ := ⟨hr6.cellAt (i := 0) rfl, hr6.cellAt (i := 1) rfl, hr6.cellAt (i := 2) rfl, hr6.cellAt (i := 3) rfl, hr6.cellAt (i := 4) rfl, hr6.cellAt (i := 5) rfl, hr6.cellAt (i := 6) rfl, hr6.cellAt (i := 7) rfl⟩
    have hr7 := hid hr6
    clear hr6
    go_wp2_with fail
    obtain ⟨w8, hw8, hb8, hr8⟩ := store8z hr7.out rfl (.int .i64 0) (.int .i64 0) (.int .i64 0) (.int .i64 0) (.int .i64 0) (.int .i64 0) (.int .i64 0) (.slice none 0 0)
    rw [hw8]
    clear hw8 f0 f1 f2 f3 f4 f5 f6 f7 e0 e1 e2 e3 e4 e5 e6 e7
    obtain ⟨r0, r1, r2, r3, r4, r5, r6, r7⟩ : _ ∧ _ ∧ _ ∧ _ ∧ _ ∧ _ ∧ _ ∧ _ := ⟨hr8.cellAt (i := 0) rfl, hr8.cellAt (i := 1) rfl, hr8.cellAt (i := 2) rfl, hr8.cellAt (i := 3) rfl, hr8.cellAt (i := 4) rfl, hr8.cellAt (i := 5) rfl, hr8.cellAt (i := 6) rfl, hr8.cellAt (i := 7) rfl⟩
    have hfin := hid (hfin0.out.trans hb8)
    refine bodyPost_ret (v := .tuple #[imgZ, .int .i64 10]) (by simp [results, Try.results24, go_sem, r0, r1, r2, r3, r4, r5, r6, r7, imgZ]) rfl ?_
    exact ⟨rfl, hfin.out⟩)
set_option maxRecDepth 100000 in
set_option maxHeartbeats 4000000 in
theorem imgGet_thru (A : Option Addr) (D c : Nat) (bs : List UInt8) (w : World) (h : Reads w w.heap.size 1 A (D + 36) (bs.map bV)) (hD : D ≤ 1000000) (hc : D + 36 ≤ c) (hcm : c ≤ maxLen) (hd : sum4 (bs.take (D + 32)) = bs.drop (D + 32)) (hde : shaOf (bs.take D) = (bs.take (D + 32)).drop D) (x : Int) (hp : ∀ (ad : Addr) w', Reads w' w'.heap.size 1 (some ad) D ((bs.take D).map bV) → Calls Try.prog 38 #[.slice (some ad) D c] w' fun e w'' => e = .returned (.tuple #[imgZ, .int .i64 x]) ∧ Below w'.heap.size w' w'') :
    Calls Try.prog 24 #[.slice A (D + 36) c] w fun e w' => e = .returned (.tuple #[imgZ, .int .i64 x]) ∧ Below w.heap.size w w' := by
  obtain ⟨w1, hw1, hb1, hr1⟩ : ∃ w1 : World, w.alloc (.cells #[.int .i64 0, .int .i64 0, .int .i64 0, .int .i64 0, .int .i64 0, .int .i64 0, .int .i64 0, .slice none 0 0] 41) = w1 ∧ Below w.heap.size w w1 ∧ Blk w1 w.heap.size 41 [.int .i64 0, .int .i64 0, .int .i64 0, .int .i64 0, .int .i64 0, .int .i64 0, .int .i64 0, .slice none 0 0] := ⟨_, rfl, (Below.refl _ _).alloc (Nat.le_refl _) _, Blk.new _ _ _⟩
  have HW := hid hw1
  clear hw1
  obtain ⟨ad, rfl, had, -⟩ := h.form (by omega)
  have hbl : bs.length = D + 36 := by simpa using h.len
  have hf := (h.front (k := D + 32) (by omega)).belowS hb1
  have hk := (h.cut (k := D + 32) (cap := c) (by omega) hc).belowS hb1
  rw [Nat.mul_one, ← List.map_take] at hf
  rw [Nat.mul_one, ← List.map_drop] at hk
  have hcM : c ≠ D + 32 := by omega
  have hcD : c ≠ D := by omega
  rw [if_neg hcM] at hk
  have hdg := ((h.front (k := D + 32) (by omega)).cut (k := D) (cap := c) (by omega) (by omega)).belowS hb1
  have hbd := (h.front (k := D) (by omega)).belowS hb1
  rw [Nat.mul_one, Nat.mul_one, ← List.map_take, ← List.map_drop] at hdg
  rw [Nat.mul_one, ← List.map_take] at hbd
  rw [if_neg hcD] at hdg
  simp only [Option.map_some] at hdg
  have HDG := hid hdg
  have HBD := hid hbd
  clear hdg hbd
  simp only [Option.map_some, Nat.mul_one] at hk
  have HF := hid hf
  have HK := hid hk
  clear h had hf hk
  unfold maxLen at hcm
  have HP := hid hp
  clear hp
  have HD := hid hd
  have HDE := hid hde
  clear hde
  obtain ⟨M, hM⟩ : ∃ M, D + 32 = M := ⟨_, rfl⟩
  obtain ⟨N, hN⟩ : ∃ N, D + 36 = N := ⟨_, rfl⟩
  rw [hM] at HF HK HD HDG HDE hcM
  rw [hN] at hbl hc HK ⊢
  clear hd
  have q0 : decide ((N : Int) < 36) = false := decide_eq_false (by omega)
  have q1 : IntKind.i64.wrap ((N : Int) - 36) = (D : Int) := by rw [IntWalk.i64_in _ (by omega)]; omega
  have q2 : IntKind.i64.wrap ((N : Int) - 4) = (M : Int) := by rw [IntWalk.i64_in _ (by omega)]; omega
  have q3 : (0 : Int) ≤ (D : Int) := Int.natCast_nonneg _
  have q4 : (D : Int) ≤ (c : Int) := by omega
  have q5 : (D : Int) ≤ (M : Int) := by omega
  have q6 : (M : Int) ≤ (c : Int) := by omega
  have q7 : (0 : Int) ≤ (M : Int) := Int.natCast_nonneg _
  have q8 : (M : Int) ≤ (N : Int) := by omega
  have q9 : (N : Int) ≤ (c : Int) := by omega
  have q10 : (D : Int) ≤ (N : Int) := by omega
  have HN4 : Hid (N = M + 4) := hid (by omega)
  have HM : Hid (M ≤ 1000000000) := hid (by omega)
  have HDB : Hid (D ≤ 1000000000) := hid (by omega)
  clear hM hN
  go_enter Try.func24, Try.ntmps24
  go_wp2_with fail
  first | rw [HW.out] | skip
  go_quiet (fail)
  go_wp2_with fail
  have HF2 : Hid (Reads (w1.drewN nq) (w1.drewN nq).heap.size 1 (some ad) M ((bs.take M).map bV)) := hid HF.out
  have HDG2 : Hid (Reads (w1.drewN nq) (w1.drewN nq).heap.size 1 (some (ad.add D)) (M - D) (((bs.take M).drop D).map bV)) := hid HDG.out
  have HBD2 : Hid (Reads (w1.drewN nq) (w1.drewN nq).heap.size 1 (some ad) D ((bs.take D).map bV)) := hid HBD.out
  have HK2 : Hid (Reads (w1.drewN nq) (w1.drewN nq).heap.size 1 (some (ad.add M)) (N - M) ((bs.drop M).map bV)) := hid HK.out
  have hb1' := below_drewN hb1 nq
  have HR1 : Hid (Blk (w1.drewN nq) w.heap.size 41 [.int .i64 0, .int .i64 0, .int .i64 0, .int .i64 0, .int .i64 0, .int .i64 0, .int .i64 0, .slice none 0 0]) := hid hr1
  have HB1 := hid hb1'
  clear hr1 hb1 hb1' HF HK HW HDG HBD
  generalize w1.drewN nq = w2 at *
  have hne : decide (sum4 (bs.take M) = bs.drop M) = true := decide_eq_true HD.out
  have HNE := hid hne
  have hne2 : decide (shaOf (bs.take D) = (bs.take M).drop D) = true := decide_eq_true HDE.out
  have HNE2 := hid hne2
  clear hne hne2
  go_region_held3 (fun _ => True) (trivial)
    (first
      | (go_at_call 37; refine (imgSum_any (some ad) M c (bs.take M) _ ?_ HM.out).mono ?_; (first | exact HF2.out | exact HF2.out.drew); rintro e wa ⟨Aa, ca, rfl, howna, hba'⟩; have hba : Below w2.heap.size w2 wa := ⟨hba'.os, hba'.tape, hba'.output, hba'.size, hba'.block⟩; clear hba')
      | (go_at_call_of 34 (Value.slice Aa 4 ca); refine (equal_any _ _ _ _ _ _ (sum4 (bs.take M)) (bs.drop M) _ (Reads.of_own howna) (HK2.out.below hba)).mono ?_; rw [HNE.out]; rintro e wb ⟨rfl, hbb'⟩; have hbb := bel_trans hba hbb'; clear hbb')
      | (go_at_call 36; refine (digest_any (some ad) D c (bs.take D) _ ?_ HDB.out).mono ?_; (first | exact HBD2.out.belowS hbb); rintro e wc ⟨gd, rfl, hrdc, hbc'⟩; have hbc := bel_trans hbb hbc'; clear hbc')
      | (go_at_call 34; refine (equal_any _ _ _ _ _ _ (shaOf (bs.take D)) ((bs.take M).drop D) _ hrdc (HDG2.out.below hbc)).mono ?_; rw [HNE2.out]; rintro e wd ⟨rfl, hbd'⟩; have hbd := bel_trans hbc hbd'; clear hbd'))
  all_goals (
    have hp := hid (HP.out ad wd (HBD2.out.belowS hbd))
    unfold imgZ at hp
    have hr5 := HR1.out.belowS hbd
    have hfin0 := hid (HB1.out.trans (hbd.mono HB1.out.size))
    have hrf := hid hr5
    have hsb := HB1.out.size
    clear hr5
    go_wp2_with fail
    refine hp.out.mono ?_
    rintro e wz ⟨rfl, hbz⟩
    have hr6 := hrf.out.belowS hbz
    have hfin1 := hid (hfin0.out.trans (hbz.mono hfin0.out.size))
    obtain ⟨f0, f1, f2, f3, f4, f5, f6, f7⟩ : _ ∧ _ ∧ _ ∧ _ ∧ _ ∧ _ ∧ _ ∧ _ := ⟨hr6.frozen 0, hr6.frozen 1, hr6.frozen 2, hr6.frozen 3, hr6.frozen 4, hr6.frozen 5, hr6.frozen 6, hr6.frozen 7⟩
    obtain ⟨e0, e1, e2, e3, e4, e5, e6, e7⟩ : _ ∧ _ ∧ _ ∧ _ ∧ _ ∧ _ ∧ _ ∧ _ := ⟨hr6.cellAt (i := 0) rfl, hr6.cellAt (i := 1) rfl, hr6.cellAt (i := 2) rfl, hr6.cellAt (i := 3) rfl, hr6.cellAt (i := 4) rfl, hr6.cellAt (i := 5) rfl, hr6.cellAt (i := 6) rfl, hr6.cellAt (i := 7) rfl⟩
    have hr7 := hid hr6
    clear hr6
    go_wp2_with fail
    obtain ⟨w8, hw8, hb8, hr8⟩ := store8z hr7.out rfl (.int .i64 0) (.int .i64 0) (.int .i64 0) (.int .i64 0) (.int .i64 0) (.int .i64 0) (.int .i64 0) (.slice none 0 0)
    rw [hw8]
    clear hw8 f0 f1 f2 f3 f4 f5 f6 f7 e0 e1 e2 e3 e4 e5 e6 e7
    obtain ⟨r0, r1, r2, r3, r4, r5, r6, r7⟩ : _ ∧ _ ∧ _ ∧ _ ∧ _ ∧ _ ∧ _ ∧ _ := ⟨hr8.cellAt (i := 0) rfl, hr8.cellAt (i := 1) rfl, hr8.cellAt (i := 2) rfl, hr8.cellAt (i := 3) rfl, hr8.cellAt (i := 4) rfl, hr8.cellAt (i := 5) rfl, hr8.cellAt (i := 6) rfl, hr8.cellAt (i := 7) rfl⟩
    have hfin := hid (hfin1.out.trans hb8)
    refine bodyPost_ret (v := .tuple #[imgZ, .int .i64 x]) (by simp [results, Try.results24, go_sem, r0, r1, r2, r3, r4, r5, r6, r7, imgZ]) rfl ?_
    exact ⟨rfl, hfin.out⟩)
end Go.Proofs.Ytojffpfgmlegdaa
namespace Go.Proofs.Ytojffpfgmlegdaa
open Go.RowKit
set_option maxRecDepth 100000 in
set_option maxHeartbeats 4000000 in
theorem parse_ok (A : Option Addr) (n c : Nat) (bs : List UInt8) (w : World) (h : Reads w w.heap.size 1 A n (bs.map bV)) (hn : n ≤ 100000000) (v2 v3 v4 v5 v6 v7 v8 : Nat) (s1 s2 s3 s4 s5 s6 s7 s8 s9 : RS) (t : List UInt8) (e1 : rNum ⟨bs, 0⟩ 2 = (19529, s1)) (e2 : rNum s1 1 = (v2, s2)) (e3 : rNum s2 2 = (v3, s3)) (e4 : rNum s3 2 = (v4, s4)) (e5 : rNum s4 1 = (v5, s5)) (e6 : rNum s5 1 = (v6, s6)) (e7 : rNum s6 1 = (v7, s7)) (e8 : rNum s7 1 = (v8, s8)) (et : rText s8 65535 = (t, s9)) (hx : rEnd s9 = 0) (hri : rightI ⟨v2, v3, v4, v5, v6, v7, v8, t⟩ = true) :
    Calls Try.prog 38 #[.slice A n c] w fun e w' => ∃ A' c', e = .returned (.tuple #[imgV ⟨v2, v3, v4, v5, v6, v7, v8, t⟩ A' c', .int .i64 0]) ∧ w'.ownsRow w.heap.size 5 1 (.slice A' t.length c') t.length (t.map bV) ∧ Below w.heap.size w w' := by
  obtain ⟨w1, hw1, hb1, hs1, hr1⟩ : ∃ w1 : World, w.alloc (.cells #[.int .i64 0, .int .i64 0, .int .i64 0, .int .i64 0, .int .i64 0, .int .i64 0, .int .i64 0, .slice none 0 0] 41) = w1 ∧ Below w.heap.size w w1 ∧ w1.heap.size = w.heap.size + 1 ∧ Blk w1 w.heap.size 41 [.int .i64 0, .int .i64 0, .int .i64 0, .int .i64 0, .int .i64 0, .int .i64 0, .int .i64 0, .slice none 0 0] := ⟨_, rfl, (Below.refl _ _).alloc (Nat.le_refl _) _, by simp, Blk.new _ _ _⟩
  have hbl : bs.length = n := by simpa using h.len
  have HR := hid (h.belowS hb1)
  have HR1 := hid hr1
  have HB1 := hid hb1
  have l0 : (⟨bs, 0⟩ : RS).b.length ≤ 100000000 := by show bs.length ≤ _; omega
  have l1 := num_le e1 l0
  have l2 := num_le e2 l1
  have l3 := num_le e3 l2
  have l4 := num_le e4 l3
  have l5 := num_le e5 l4
  have l6 := num_le e6 l5
  have l7 := num_le e7 l6
  have l8 := num_le e8 l7
  have l9 := text_le et l8
  have E1 := hid e1
  have E2 := hid e2
  have E3 := hid e3
  have E4 := hid e4
  have E5 := hid e5
  have E6 := hid e6
  have E7 := hid e7
  have E8 := hid e8
  have ET := hid et
  have L0 := hid l0
  have L1 := hid l1
  have L2 := hid l2
  have L3 := hid l3
  have L4 := hid l4
  have L5 := hid l5
  have L6 := hid l6
  have L7 := hid l7
  have L8 := hid l8
  have L9 := hid l9
  have HS1 := hid hs1
  clear h hr1 hbl hb1 hs1 e1 e2 e3 e4 e5 e6 e7 e8 et l0 l1 l2 l3 l4 l5 l6 l7 l8 l9
  go_enter Try.func38, Try.ntmps38
  go_wp2_with fail
  clear hw1
  refine (read_any A n c bs w1 HR.out hn).mono ?_
  rintro e w2 ⟨g, rfl, hg, hrd2, hb2⟩
  have hG2 := hid (hb2)
  go_wp2_with fail
  refine (num_to g ⟨bs, 0⟩ 2 19529 s1 E1.out w2 hrd2 L0.out).mono ?_
  rintro e w3 ⟨rfl, hrd3, hg3⟩
  have hc3 : Below w1.heap.size w1 w3 := hb2.grown hg3 hb2.size (fun k hk => by injection hk with hk; omega)
  clear hrd2 hg3 hb2
  go_wp2_with fail
  refine (num_to g s1 1 v2 s2 E2.out w3 hrd3 L1.out).mono ?_
  rintro e w4 ⟨rfl, hrd4, hg4⟩
  have hc4 : Below w1.heap.size w1 w4 := hc3.grown hg4 hc3.size (fun k hk => by injection hk with hk; omega)
  clear hrd3 hg4 hc3
  go_wp2_with fail
  refine (num_to g s2 2 v3 s3 E3.out w4 hrd4 L2.out).mono ?_
  rintro e w5 ⟨rfl, hrd5, hg5⟩
  have hc5 : Below w1.heap.size w1 w5 := hc4.grown hg5 hc4.size (fun k hk => by injection hk with hk; omega)
  clear hrd4 hg5 hc4
  go_wp2_with fail
  refine (num_to g s3 2 v4 s4 E4.out w5 hrd5 L3.out).mono ?_
  rintro e w6 ⟨rfl, hrd6, hg6⟩
  have hc6 : Below w1.heap.size w1 w6 := hc5.grown hg6 hc5.size (fun k hk => by injection hk with hk; omega)
  clear hrd5 hg6 hc5
  go_wp2_with fail
  refine (num_to g s4 1 v5 s5 E5.out w6 hrd6 L4.out).mono ?_
  rintro e w7 ⟨rfl, hrd7, hg7⟩
  have hc7 : Below w1.heap.size w1 w7 := hc6.grown hg7 hc6.size (fun k hk => by injection hk with hk; omega)
  clear hrd6 hg7 hc6
  go_wp2_with fail
  refine (num_to g s5 1 v6 s6 E6.out w7 hrd7 L5.out).mono ?_
  rintro e w8 ⟨rfl, hrd8, hg8⟩
  have hc8 : Below w1.heap.size w1 w8 := hc7.grown hg8 hc7.size (fun k hk => by injection hk with hk; omega)
  clear hrd7 hg8 hc7
  go_wp2_with fail
  refine (num_to g s6 1 v7 s7 E7.out w8 hrd8 L6.out).mono ?_
  rintro e w9 ⟨rfl, hrd9, hg9⟩
  have hc9 : Below w1.heap.size w1 w9 := hc8.grown hg9 hc8.size (fun k hk => by injection hk with hk; omega)
  clear hrd8 hg9 hc8
  go_wp2_with fail
  refine (num_to g s7 1 v8 s8 E8.out w9 hrd9 L7.out).mono ?_
  rintro e w10 ⟨rfl, hrd10, hg10⟩
  have hc10 : Below w1.heap.size w1 w10 := hc9.grown hg10 hc9.size (fun k hk => by injection hk with hk; omega)
  clear hrd9 hg10 hc9
  obtain ⟨wa, hwa, hsa, hba, hblka⟩ : ∃ wa : World, w10.alloc (.cells #[.int .i64 (v2 : Int), .int .i64 (v3 : Int), .int .i64 (v4 : Int), .int .i64 (v5 : Int), .int .i64 (v6 : Int), .int .i64 (v7 : Int), .int .i64 (v8 : Int), .slice none 0 0] 41) = wa ∧ wa.heap.size = w10.heap.size + 1 ∧ Below w10.heap.size w10 wa ∧ Blk wa w10.heap.size 41 [.int .i64 (v2 : Int), .int .i64 (v3 : Int), .int .i64 (v4 : Int), .int .i64 (v5 : Int), .int .i64 (v6 : Int), .int .i64 (v7 : Int), .int .i64 (v8 : Int), .slice none 0 0] := ⟨_, rfl, by simp, (Below.refl _ _).alloc (Nat.le_refl _) _, Blk.new _ _ _⟩
  have hrda := hrd10.below hba
  have hca := bel_trans hc10 hba
  have HWA := hid hwa
  have hgl := hrd10.lt
  have hc10s := hc10.size
  clear hrd10 hc10 hba hwa
  go_wp2_with fail
  first | rw [HWA.out] | skip
  refine (text_to g s8 65535 t s9 ET.out wa hrda L8.out).mono ?_
  rintro e w11 ⟨A7, m7, c7, rfl, hown, hrd11, hg11⟩
  have hc11 : Below w1.heap.size w1 w11 := hca.grown hg11 hca.size (fun k hk => by injection hk with hk; omega)
  have hblk11 := blk_grown_ne hblka hg11 (by omega)
  have f7 := hblk11.frozen 7
  have d7 := hblk11.cellAt (i := 7) rfl
  have hz11 := hg11.size
  have hown12 := ownsRow_setCell_far hown (a := ⟨w10.heap.size, 7, none⟩) (by show w10.heap.size < wa.heap.size; omega) (.slice A7 m7 c7)
  have hblk12 := hblk11.set_ 7 (.slice A7 m7 c7)
  have hc12 : Below w1.heap.size w1 (w11.setCell ⟨w10.heap.size, 7, none⟩ (.slice A7 m7 c7)) := hc11.setCell (by omega) _
  have hrd12 : Rdr (w11.setCell ⟨w10.heap.size, 7, none⟩ (.slice A7 m7 c7)) g s9 := by
    obtain ⟨A0, n0, c0, q1, q2, q3, q4⟩ := hrd11
    exact ⟨A0, n0, c0, q1.far (p := ⟨w10.heap.size, 7, none⟩) (by show g ≠ w10.heap.size; omega) _, q2.setCell (by show g ≤ w10.heap.size; omega) _, q3, q4⟩
  have HO := hid hown12
  have HB12 := hid hblk12
  have HC12 := hid hc12
  have HRD := hid hrd12
  clear hown hown12 hblk11 hblk12 hc11 hc12 hrd11 hrd12 hg11 hrda hca hblka
  go_wp2_with fail
  generalize hw12 : w11.setCell ⟨w10.heap.size, 7, none⟩ (.slice A7 m7 c7) = w12 at *
  clear hw12 f7 d7
  refine (end_rd g s9 w12 HRD.out L9.out).mono ?_
  rintro e w13 ⟨rfl, rfl⟩
  have hr12 := HR1.out.below HC12.out (by have := HS1.out; omega)
  rw [hx]
  have HB0 := hid (HB1.out.trans (HC12.out.mono HB1.out.size))
  have htl : t.length = m7 := by have := HO.out.1; simpa using this
  subst htl
  have hblk := HB12.out
  obtain ⟨d0, d1, d2, d3, d4, d5, d6, d7⟩ : _ ∧ _ ∧ _ ∧ _ ∧ _ ∧ _ ∧ _ ∧ _ := ⟨hblk.cellAt (i := 0) rfl, hblk.cellAt (i := 1) rfl, hblk.cellAt (i := 2) rfl, hblk.cellAt (i := 3) rfl, hblk.cellAt (i := 4) rfl, hblk.cellAt (i := 5) rfl, hblk.cellAt (i := 6) rfl, hblk.cellAt (i := 7) rfl⟩
  have HR12 := hid hr12
  have hcp := own_cap HO.out
  have hbl0 := hblk
  clear hr12 hblk hx
  go_wp2_with fail
  clear d0 d1 d2 d3 d4 d5 d6 d7
  unfold maxLen at hcp
  refine (imgRight_any ⟨v2, v3, v4, v5, v6, v7, v8, t⟩ A7 c7 _ (by show t.length ≤ _; omega)).mono ?_
  rw [hri]
  rintro e w14 ⟨rfl, hb14⟩
  have hblk := hbl0.belowS hb14
  have hr14 := HR12.out.belowS hb14
  have HO14 := hid (own_below HO.out hb14)
  have HB14 := hid (HB0.out.trans (hb14.mono HB0.out.size))
  have hws := HB0.out.size
  have hne : w.heap.size ≠ w10.heap.size := by have := HS1.out; omega
  clear hb14 hbl0 HR12
  obtain ⟨d0, d1, d2, d3, d4, d5, d6, d7⟩ : _ ∧ _ ∧ _ ∧ _ ∧ _ ∧ _ ∧ _ ∧ _ := ⟨hblk.cellAt (i := 0) rfl, hblk.cellAt (i := 1) rfl, hblk.cellAt (i := 2) rfl, hblk.cellAt (i := 3) rfl, hblk.cellAt (i := 4) rfl, hblk.cellAt (i := 5) rfl, hblk.cellAt (i := 6) rfl, hblk.cellAt (i := 7) rfl⟩
  obtain ⟨f0, f1, f2, f3, f4, f5, f6, f7⟩ : _ ∧ _ ∧ _ ∧ _ ∧ _ ∧ _ ∧ _ ∧ _ := ⟨hr14.frozen 0, hr14.frozen 1, hr14.frozen 2, hr14.frozen 3, hr14.frozen 4, hr14.frozen 5, hr14.frozen 6, hr14.frozen 7⟩
  obtain ⟨k0, k1, k2, k3, k4, k5, k6, k7⟩ : _ ∧ _ ∧ _ ∧ _ ∧ _ ∧ _ ∧ _ ∧ _ := ⟨hr14.cellAt (i := 0) rfl, hr14.cellAt (i := 1) rfl, hr14.cellAt (i := 2) rfl, hr14.cellAt (i := 3) rfl, hr14.cellAt (i := 4) rfl, hr14.cellAt (i := 5) rfl, hr14.cellAt (i := 6) rfl, hr14.cellAt (i := 7) rfl⟩
  have hr7 := hid hr14
  clear hr14 hblk
  go_wp2_with fail
  have hlt : w.heap.size < wa.heap.size := by have := HS1.out; omega
  have hown9 := ownsRow_setCell_far (ownsRow_setCell_far (ownsRow_setCell_far (ownsRow_setCell_far (ownsRow_setCell_far (ownsRow_setCell_far (ownsRow_setCell_far (ownsRow_setCell_far (HO14.out) (a := ⟨w.heap.size, 0, none⟩) hlt (.int .i64 (v2 : Int))) (a := ⟨w.heap.size, 1, none⟩) hlt (.int .i64 (v3 : Int))) (a := ⟨w.heap.size, 2, none⟩) hlt (.int .i64 (v4 : Int))) (a := ⟨w.heap.size, 3, none⟩) hlt (.int .i64 (v5 : Int))) (a := ⟨w.heap.size, 4, none⟩) hlt (.int .i64 (v6 : Int))) (a := ⟨w.heap.size, 5, none⟩) hlt (.int .i64 (v7 : Int))) (a := ⟨w.heap.size, 6, none⟩) hlt (.int .i64 (v8 : Int))) (a := ⟨w.heap.size, 7, none⟩) hlt (.slice A7 t.length c7)
  obtain ⟨w8', hw8, hb8, hr8⟩ := store8z hr7.out rfl (.int .i64 (v2 : Int)) (.int .i64 (v3 : Int)) (.int .i64 (v4 : Int)) (.int .i64 (v5 : Int)) (.int .i64 (v6 : Int)) (.int .i64 (v7 : Int)) (.int .i64 (v8 : Int)) (.slice A7 t.length c7)
  rw [hw8] at hown9 ⊢
  clear hw8 f0 d0 f1 d1 f2 d2 f3 d3 f4 d4 f5 d5 f6 d6 f7 d7 k0 k1 k2 k3 k4 k5 k6 k7
  obtain ⟨r0, r1, r2, r3, r4, r5, r6, r7⟩ : _ ∧ _ ∧ _ ∧ _ ∧ _ ∧ _ ∧ _ ∧ _ := ⟨hr8.cellAt (i := 0) rfl, hr8.cellAt (i := 1) rfl, hr8.cellAt (i := 2) rfl, hr8.cellAt (i := 3) rfl, hr8.cellAt (i := 4) rfl, hr8.cellAt (i := 5) rfl, hr8.cellAt (i := 6) rfl, hr8.cellAt (i := 7) rfl⟩
  have hfin := hid (HB14.out.trans hb8)
  refine bodyPost_ret (v := .tuple #[imgV ⟨v2, v3, v4, v5, v6, v7, v8, t⟩ A7 c7, .int .i64 0]) (by simp [results, Try.results38, go_sem, r0, r1, r2, r3, r4, r5, r6, r7, imgV]) rfl ?_
  exact ⟨A7, c7, rfl, own_mono hown9 (Nat.le_of_lt hlt), hfin.out⟩
end Go.Proofs.Ytojffpfgmlegdaa
namespace Go.Proofs.Ytojffpfgmlegdaa
open Go.RowKit
set_option maxRecDepth 100000 in
set_option maxHeartbeats 4000000 in
theorem imgGet_ok (A : Option Addr) (D c : Nat) (bs : List UInt8) (w : World) (h : Reads w w.heap.size 1 A (D + 36) (bs.map bV)) (hD : D ≤ 1000000) (hc : D + 36 ≤ c) (hcm : c ≤ maxLen) (hd : sum4 (bs.take (D + 32)) = bs.drop (D + 32)) (hde : shaOf (bs.take D) = (bs.take (D + 32)).drop D) (p : ImgS) (hp : ∀ (ad : Addr) w', Reads w' w'.heap.size 1 (some ad) D ((bs.take D).map bV) → Calls Try.prog 38 #[.slice (some ad) D c] w' fun e w'' => ∃ A' c', e = .returned (.tuple #[imgV p A' c', .int .i64 0]) ∧ w''.ownsRow w'.heap.size 5 1 (.slice A' p.code.length c') p.code.length (p.code.map bV) ∧ Below w'.heap.size w' w'') :
    Calls Try.prog 24 #[.slice A (D + 36) c] w fun e w' => ∃ A' c', e = .returned (.tuple #[imgV p A' c', .int .i64 0]) ∧ w'.ownsRow w.heap.size 5 1 (.slice A' p.code.length c') p.code.length (p.code.map bV) ∧ Below w.heap.size w w' := by
  obtain ⟨w1, hw1, hb1, hr1⟩ : ∃ w1 : World, w.alloc (.cells #[.int .i64 0, .int .i64 0, .int .i64 0, .int .i64 0, .int .i64 0, .int .i64 0, .int .i64 0, .slice none 0 0] 41) = w1 ∧ Below w.heap.size w w1 ∧ Blk w1 w.heap.size 41 [.int .i64 0, .int .i64 0, .int .i64 0, .int .i64 0, .int .i64 0, .int .i64 0, .int .i64 0, .slice none 0 0] := ⟨_, rfl, (Below.refl _ _).alloc (Nat.le_refl _) _, Blk.new _ _ _⟩
  have HW := hid hw1
  clear hw1
  obtain ⟨ad, rfl, had, -⟩ := h.form (by omega)
  have hbl : bs.length = D + 36 := by simpa using h.len
  have hf := (h.front (k := D + 32) (by omega)).belowS hb1
  have hk := (h.cut (k := D + 32) (cap := c) (by omega) hc).belowS hb1
  rw [Nat.mul_one, ← List.map_take] at hf
  rw [Nat.mul_one, ← List.map_drop] at hk
  have hcM : c ≠ D + 32 := by omega
  have hcD : c ≠ D := by omega
  rw [if_neg hcM] at hk
  have hdg := ((h.front (k := D + 32) (by omega)).cut (k := D) (cap := c) (by omega) (by omega)).belowS hb1
  have hbd := (h.front (k := D) (by omega)).belowS hb1
  rw [Nat.mul_one, Nat.mul_one, ← List.map_take, ← List.map_drop] at hdg
  rw [Nat.mul_one, ← List.map_take] at hbd
  rw [if_neg hcD] at hdg
  simp only [Option.map_some] at hdg
  have HDG := hid hdg
  have HBD := hid hbd
  clear hdg hbd
  simp only [Option.map_some, Nat.mul_one] at hk
  have HF := hid hf
  have HK := hid hk
  clear h had hf hk
  unfold maxLen at hcm
  have HP := hid hp
  clear hp
  have HD := hid hd
  have HDE := hid hde
  clear hde
  obtain ⟨M, hM⟩ : ∃ M, D + 32 = M := ⟨_, rfl⟩
  obtain ⟨N, hN⟩ : ∃ N, D + 36 = N := ⟨_, rfl⟩
  rw [hM] at HF HK HD HDG HDE hcM
  rw [hN] at hbl hc HK ⊢
  clear hd
  have q0 : decide ((N : Int) < 36) = false := decide_eq_false (by omega)
  have q1 : IntKind.i64.wrap ((N : Int) - 36) = (D : Int) := by rw [IntWalk.i64_in _ (by omega)]; omega
  have q2 : IntKind.i64.wrap ((N : Int) - 4) = (M : Int) := by rw [IntWalk.i64_in _ (by omega)]; omega
  have q3 : (0 : Int) ≤ (D : Int) := Int.natCast_nonneg _
  have q4 : (D : Int) ≤ (c : Int) := by omega
  have q5 : (D : Int) ≤ (M : Int) := by omega
  have q6 : (M : Int) ≤ (c : Int) := by omega
  have q7 : (0 : Int) ≤ (M : Int) := Int.natCast_nonneg _
  have q8 : (M : Int) ≤ (N : Int) := by omega
  have q9 : (N : Int) ≤ (c : Int) := by omega
  have q10 : (D : Int) ≤ (N : Int) := by omega
  have HN4 : Hid (N = M + 4) := hid (by omega)
  have HM : Hid (M ≤ 1000000000) := hid (by omega)
  have HDB : Hid (D ≤ 1000000000) := hid (by omega)
  clear hM hN
  go_enter Try.func24, Try.ntmps24
  go_wp2_with fail
  first | rw [HW.out] | skip
  go_quiet (fail)
  go_wp2_with fail
  have HF2 : Hid (Reads (w1.drewN nq) (w1.drewN nq).heap.size 1 (some ad) M ((bs.take M).map bV)) := hid HF.out
  have HDG2 : Hid (Reads (w1.drewN nq) (w1.drewN nq).heap.size 1 (some (ad.add D)) (M - D) (((bs.take M).drop D).map bV)) := hid HDG.out
  have HBD2 : Hid (Reads (w1.drewN nq) (w1.drewN nq).heap.size 1 (some ad) D ((bs.take D).map bV)) := hid HBD.out
  have HK2 : Hid (Reads (w1.drewN nq) (w1.drewN nq).heap.size 1 (some (ad.add M)) (N - M) ((bs.drop M).map bV)) := hid HK.out
  have hb1' := below_drewN hb1 nq
  have HR1 : Hid (Blk (w1.drewN nq) w.heap.size 41 [.int .i64 0, .int .i64 0, .int .i64 0, .int .i64 0, .int .i64 0, .int .i64 0, .int .i64 0, .slice none 0 0]) := hid hr1
  have HB1 := hid hb1'
  clear hr1 hb1 hb1' HF HK HW HDG HBD
  generalize w1.drewN nq = w2 at *
  have hne : decide (sum4 (bs.take M) = bs.drop M) = true := decide_eq_true HD.out
  have HNE := hid hne
  have hne2 : decide (shaOf (bs.take D) = (bs.take M).drop D) = true := decide_eq_true HDE.out
  have HNE2 := hid hne2
  clear hne hne2
  go_region_held3 (fun _ => True) (trivial)
    (first
      | (go_at_call 37; refine (imgSum_any (some ad) M c (bs.take M) _ ?_ HM.out).mono ?_; (first | exact HF2.out | exact HF2.out.drew); rintro e wa ⟨Aa, ca, rfl, howna, hba'⟩; have hba : Below w2.heap.size w2 wa := ⟨hba'.os, hba'.tape, hba'.output, hba'.size, hba'.block⟩; clear hba')
      | (go_at_call_of 34 (Value.slice Aa 4 ca); refine (equal_any _ _ _ _ _ _ (sum4 (bs.take M)) (bs.drop M) _ (Reads.of_own howna) (HK2.out.below hba)).mono ?_; rw [HNE.out]; rintro e wb ⟨rfl, hbb'⟩; have hbb := bel_trans hba hbb'; clear hbb')
      | (go_at_call 36; refine (digest_any (some ad) D c (bs.take D) _ ?_ HDB.out).mono ?_; (first | exact HBD2.out.belowS hbb); rintro e wc ⟨gd, rfl, hrdc, hbc'⟩; have hbc := bel_trans hbb hbc'; clear hbc')
      | (go_at_call 34; refine (equal_any _ _ _ _ _ _ (shaOf (bs.take D)) ((bs.take M).drop D) _ hrdc (HDG2.out.below hbc)).mono ?_; rw [HNE2.out]; rintro e wd ⟨rfl, hbd'⟩; have hbd := bel_trans hbc hbd'; clear hbd'))
  all_goals (
    have hp := hid (HP.out ad wd (HBD2.out.belowS hbd))
    unfold imgV at hp
    have hr5 := HR1.out.belowS hbd
    have hfin0 := hid (HB1.out.trans (hbd.mono HB1.out.size))
    have hrf := hid hr5
    have hsb := HB1.out.size
    clear hr5
    go_wp2_with fail
    refine hp.out.mono ?_
    rintro e wz ⟨A9, c9, rfl, hownz, hbz⟩
    have hltz := hrf.out.lt
    have HOZ := hid hownz
    clear hownz
    have hr6 := hrf.out.belowS hbz
    have hfin1 := hid (hfin0.out.trans (hbz.mono hfin0.out.size))
    obtain ⟨f0, f1, f2, f3, f4, f5, f6, f7⟩ : _ ∧ _ ∧ _ ∧ _ ∧ _ ∧ _ ∧ _ ∧ _ := ⟨hr6.frozen 0, hr6.frozen 1, hr6.frozen 2, hr6.frozen 3, hr6.frozen 4, hr6.frozen 5, hr6.frozen 6, hr6.frozen 7⟩
    obtain ⟨e0, e1, e2, e3, e4, e5, e6, e7⟩ : _ ∧ _ ∧ _ ∧ _ ∧ _ ∧ _ ∧ _ ∧ _ := ⟨hr6.cellAt (i := 0) rfl, hr6.cellAt (i := 1) rfl, hr6.cellAt (i := 2) rfl, hr6.cellAt (i := 3) rfl, hr6.cellAt (i := 4) rfl, hr6.cellAt (i := 5) rfl, hr6.cellAt (i := 6) rfl, hr6.cellAt (i := 7) rfl⟩
    have hr7 := hid hr6
    clear hr6
    go_wp2_with fail
    have hown9 := ownsRow_setCell_far (ownsRow_setCell_far (ownsRow_setCell_far (ownsRow_setCell_far (ownsRow_setCell_far (ownsRow_setCell_far (ownsRow_setCell_far (ownsRow_setCell_far (HOZ.out) (a := ⟨w.heap.size, 0, none⟩) hltz (.int .i64 p.part)) (a := ⟨w.heap.size, 1, none⟩) hltz (.int .i64 p.ver)) (a := ⟨w.heap.size, 2, none⟩) hltz (.int .i64 p.hard)) (a := ⟨w.heap.size, 3, none⟩) hltz (.int .i64 p.mem)) (a := ⟨w.heap.size, 4, none⟩) hltz (.int .i64 p.fuel)) (a := ⟨w.heap.size, 5, none⟩) hltz (.int .i64 p.sends)) (a := ⟨w.heap.size, 6, none⟩) hltz (.int .i64 p.recvs)) (a := ⟨w.heap.size, 7, none⟩) hltz (.slice A9 p.code.length c9)
    obtain ⟨w8, hw8, hb8, hr8⟩ := store8z hr7.out rfl (.int .i64 p.part) (.int .i64 p.ver) (.int .i64 p.hard) (.int .i64 p.mem) (.int .i64 p.fuel) (.int .i64 p.sends) (.int .i64 p.recvs) (.slice A9 p.code.length c9)
    rw [hw8] at hown9 ⊢
    clear hw8 f0 f1 f2 f3 f4 f5 f6 f7 e0 e1 e2 e3 e4 e5 e6 e7
    obtain ⟨r0, r1, r2, r3, r4, r5, r6, r7⟩ : _ ∧ _ ∧ _ ∧ _ ∧ _ ∧ _ ∧ _ ∧ _ := ⟨hr8.cellAt (i := 0) rfl, hr8.cellAt (i := 1) rfl, hr8.cellAt (i := 2) rfl, hr8.cellAt (i := 3) rfl, hr8.cellAt (i := 4) rfl, hr8.cellAt (i := 5) rfl, hr8.cellAt (i := 6) rfl, hr8.cellAt (i := 7) rfl⟩
    have hfin := hid (hfin1.out.trans hb8)
    refine bodyPost_ret (v := .tuple #[imgV p A9 c9, .int .i64 0]) (by simp [results, Try.results24, go_sem, r0, r1, r2, r3, r4, r5, r6, r7, imgV]) rfl ?_
    exact ⟨A9, c9, rfl, own_mono hown9 (Nat.le_of_lt hltz), hfin.out⟩)
end Go.Proofs.Ytojffpfgmlegdaa
namespace Go.Proofs.Ytojffpfgmlegdaa

theorem num_step (b : List UInt8) (W : Nat) (h1 : 1 ≤ W) (h6 : W ≤ 6) : rNum ⟨b, 0⟩ (W : Int) = if b.length < W then (0, ⟨b, 1⟩) else (numOf (b.take W), ⟨b.drop W, 0⟩) := by
  have hw : wid (W : Int) = W := by unfold wid; rw [if_neg (by omega), if_neg (by omega)]; omega
  unfold rNum rBytes
  rw [hw]
  rw [if_neg (by simp; omega)]
  by_cases h : b.length < W
  · rw [if_pos h, if_pos (by show ((b.length : Int) < (W : Int)); omega)]
    rfl
  · rw [if_neg h, if_neg (by show ¬ ((b.length : Int) < (W : Int)); omega)]
    simp
/-- The reader has read p bytes of b, or has failed with ErrEnd. -/
def At (b : List UInt8) (p : Nat) (s : RS) : Prop := (s = ⟨b.drop p, 0⟩ ∧ p ≤ b.length) ∨ s.e = 1
theorem At.num {b : List UInt8} {p : Nat} {s s' : RS} {v : Nat} (h : At b p s) (W : Nat) (h1 : 1 ≤ W) (h6 : W ≤ 6) (e : rNum s (W : Int) = (v, s')) : At b (p + W) s' := by
  rcases h with ⟨rfl, hp⟩ | he
  · rw [num_step _ W h1 h6] at e
    split at e
    · injection e with _ e
      subst e
      exact .inr rfl
    · rename_i hlt
      injection e with _ e
      subst e
      rw [List.length_drop] at hlt
      exact .inl ⟨by rw [List.drop_drop], by omega⟩
  · rw [rNum_err s _ (by omega)] at e
    injection e with _ e
    subst e
    exact .inr he
theorem rEnd_one {s : RS} (h : s.e = 1) : rEnd s = 1 := by unfold rEnd; rw [if_pos (by omega), h]
theorem headK_len (i : ImgS) (k : Nat) (hk : k ≤ 4) : (headK i k).length = 7 + k := by
  unfold headK headA
  simp only [List.length_append, putB_length]
  have : (((four4 i).take k).flatMap fun x => putB x 1).length = k := by
    have h : k = 0 ∨ k = 1 ∨ k = 2 ∨ k = 3 ∨ k = 4 := by omega
    rcases h with rfl | rfl | rfl | rfl | rfl <;> simp [four4, putB_length]
  omega
theorem textB_small (t : List UInt8) (h : t.length ≤ 65535) : textB t = putB (t.length : Int) 2 ++ t := by
  unfold textB
  rw [List.take_of_length_le h, show min t.length 65535 = t.length by omega]
theorem text_cut (t : List UInt8) (h : t.length ≤ 65535) (k : Nat) (hk : k < 2 + t.length) (T : List UInt8) (s' : RS) (e : rText ⟨(textB t).take k, 0⟩ 65535 = (T, s')) : s'.e = 1 := by
  rw [textB_small t h] at e
  unfold rText at e
  rw [if_neg (by simp)] at e
  have h2 := num_step ((putB (t.length : Int) 2 ++ t).take k) 2 (by omega) (by omega)
  have hl : ((putB (t.length : Int) 2 ++ t).take k).length = k := by rw [List.length_take, List.length_append, putB_length]; omega
  rw [hl] at h2
  rw [show ((2 : Nat) : Int) = 2 from rfl] at h2
  by_cases hk2 : k < 2
  · rw [if_pos hk2] at h2
    simp only [h2] at e
    unfold rBytes at e
    simp at e
    rw [← e.2]
  · rw [if_neg hk2] at h2
    have hn : numOf (((putB (t.length : Int) 2 ++ t).take k).take 2) = t.length := by
      rw [List.take_take, show min 2 k = 2 by omega, List.take_left' (putB_length _ _), numOf_pB _ _ (by omega)]
      unfold clip
      have : (256 : Nat) ^ 2 = 65536 := by decide
      rw [this, Int.toNat_natCast]
      omega
    rw [hn] at h2
    have hd : ((((putB (t.length : Int) 2 ++ t).take k).drop 2).length : Int) < (t.length : Int) := by rw [List.length_drop, hl]; omega
    have hm : ¬ ((65535 : Int) < (t.length : Int)) := by omega
    have hz : ¬ ((t.length : Int) ≤ 0) := by omega
    generalize ((putB (t.length : Int) 2 ++ t).take k).drop 2 = dd at *
    have hb : rBytes ⟨dd, 0⟩ (t.length : Int) = ([], ⟨dd, 1⟩) := by
      unfold rBytes
      rw [if_neg (fun h => h.elim (fun h => h rfl) hz), if_pos hd]
    simp only [h2, if_neg hm, true_and, hb] at e
    simp at e
    rw [← e.2]
/-- What the reader says of an image's head that is cut. -/
theorem head_cut (i : ImgS) (h : RightI i) (k : Nat) (h2 : 2 ≤ k) (hk : k < 13 + i.code.length) (v1 v2 v3 v4 v5 v6 v7 v8 : Nat) (s1 s2 s3 s4 s5 s6 s7 s8 s9 : RS) (T : List UInt8)
    (e1 : rNum ⟨(headB i).take k, 0⟩ 2 = (v1, s1)) (e2 : rNum s1 1 = (v2, s2)) (e3 : rNum s2 2 = (v3, s3)) (e4 : rNum s3 2 = (v4, s4)) (e5 : rNum s4 1 = (v5, s5)) (e6 : rNum s5 1 = (v6, s6)) (e7 : rNum s6 1 = (v7, s7)) (e8 : rNum s7 1 = (v8, s8)) (et : rText s8 65535 = (T, s9)) : v1 = 19529 ∧ rEnd s9 = 1 := by
  have hc : i.code.length ≤ 65535 := by have := h.2.2.2.2.2.2.2.2; omega
  have hK := headK_len i 4 (by omega)
  have hl : ((headB i).take k).length = k := by
    rw [List.length_take]
    unfold headB
    rw [List.length_append, hK, textB_small _ hc, List.length_append, putB_length]
    omega
  have hv : v1 = 19529 := by
    have := num_step ((headB i).take k) 2 (by omega) (by omega)
    rw [hl, if_neg (by omega), show ((2 : Nat) : Int) = 2 from rfl, e1] at this
    injection this with this _
    rw [this, List.take_take, show min 2 k = 2 by omega]
    have : (headB i).take 2 = putB 19529 2 := by
      unfold headB headK headA
      simp only [List.append_assoc]
      exact List.take_left' (putB_length _ _)
    rw [this, numOf_pB _ _ (by omega)]
    unfold clip
    decide
  refine ⟨hv, rEnd_one ?_⟩
  have a0 : At ((headB i).take k) 0 ⟨(headB i).take k, 0⟩ := .inl ⟨rfl, Nat.zero_le _⟩
  have a1 := a0.num 2 (by omega) (by omega) e1
  have a2 := a1.num 1 (by omega) (by omega) e2
  have a3 := a2.num 2 (by omega) (by omega) e3
  have a4 := a3.num 2 (by omega) (by omega) e4
  have a5 := a4.num 1 (by omega) (by omega) e5
  have a6 := a5.num 1 (by omega) (by omega) e6
  have a7 := a6.num 1 (by omega) (by omega) e7
  have a8 := a7.num 1 (by omega) (by omega) e8
  rcases a8 with ⟨rfl, hp⟩ | he
  · have hd : ((headB i).take k).drop 11 = (textB i.code).take (k - 11) := by
      rw [List.drop_take]
      unfold headB
      rw [List.drop_left' hK]
    rw [show 0 + 2 + 1 + 2 + 2 + 1 + 1 + 1 + 1 = 11 from rfl, hd] at et
    exact text_cut i.code hc (k - 11) (by omega) T s9 et
  · rw [rText_err s8 _ (by omega)] at et
    injection et with _ et
    subst et
    exact he
end Go.Proofs.Ytojffpfgmlegdaa
namespace Go.Proofs.Ytojffpfgmlegdaa
open Go.RowKit

theorem num_putB (x W : Nat) (rest : List UInt8) (h1 : 1 ≤ W) (h6 : W ≤ 6) (hx : x < 256 ^ W) : rNum ⟨putB (x : Int) W ++ rest, 0⟩ (W : Int) = (x, ⟨rest, 0⟩) := by
  rw [num_step _ W h1 h6, if_neg (by rw [List.length_append, putB_length]; omega), List.take_left' (putB_length _ _), List.drop_left' (putB_length _ _), numOf_pB _ _ h6]
  congr 1
  unfold clip
  rw [Int.toNat_natCast]
  omega
theorem text_putB (t : List UInt8) (h : t.length ≤ 65535) : rText ⟨textB t, 0⟩ 65535 = (t, ⟨[], 0⟩) := by
  have hN : rNum ⟨textB t, 0⟩ 2 = (t.length, ⟨t, 0⟩) := by
    rw [textB_small t h]
    exact num_putB t.length 2 t (by omega) (by omega) (by have : (256 : Nat) ^ 2 = 65536 := by decide
                                                          omega)
  unfold rText
  rw [if_neg (by simp), hN]
  have e1 : rBytes ⟨t, 0⟩ (t.length : Int) = (t, ⟨[], 0⟩) := by
    unfold rBytes
    by_cases h0 : t = []
    · subst h0; simp
    · have hp : 0 < t.length := List.length_pos_iff.2 h0
      rw [if_neg (by simp; exact h0), if_neg (by simp)]
      simp
  have e2 : (if (⟨t, 0⟩ : RS).e = 0 ∧ (65535 : Int) < ((t.length, (⟨t, 0⟩ : RS)).1 : Int) then (⟨t, 4⟩ : RS) else ⟨t, 0⟩) = ⟨t, 0⟩ := if_neg (by intro h2; have := h2.2; simp only at this; omega)
  simp only at e2 ⊢
  rw [e2, e1]
  rfl
theorem headB_form (p0 p1 p2 p3 p4 p5 p6 : Int) (code : List UInt8) : headB ⟨p0, p1, p2, p3, p4, p5, p6, code⟩ = putB 19529 2 ++ (putB p0 1 ++ (putB p1 2 ++ (putB p2 2 ++ (putB p3 1 ++ (putB p4 1 ++ (putB p5 1 ++ (putB p6 1 ++ textB code))))))) := by
  unfold headB headK headA four4
  simp only [List.take, List.flatMap_cons, List.flatMap_nil, List.append_assoc, List.append_nil]
theorem head_len13 (i : ImgS) (h : i.code.length ≤ 65535) : (headB i).length = 13 + i.code.length := by
  unfold headB
  rw [List.length_append, headK_len i 4 (by omega), textB_small _ h, List.length_append, putB_length]
  omega
/-- What parse says of a right image's head. -/
theorem parse_back (p0 p1 p2 p3 p4 p5 p6 : Nat) (code : List UInt8) (hr : RightI ⟨p0, p1, p2, p3, p4, p5, p6, code⟩) (A : Option Addr) (n c : Nat) (w : World) (hn : n = 13 + code.length) (h : Reads w w.heap.size 1 A n ((headB ⟨p0, p1, p2, p3, p4, p5, p6, code⟩).map bV)) :
    Calls Try.prog 38 #[.slice A n c] w fun e w' => ∃ A' c', e = .returned (.tuple #[imgV ⟨p0, p1, p2, p3, p4, p5, p6, code⟩ A' c', .int .i64 0]) ∧ w'.ownsRow w.heap.size 5 1 (.slice A' code.length c') code.length (code.map bV) ∧ Below w.heap.size w w' := by
  have hri := (rightI_iff _).2 hr
  obtain ⟨⟨_, h0⟩, ⟨_, h1⟩, ⟨_, h2⟩, ⟨_, h3⟩, ⟨_, h4⟩, ⟨_, h5⟩, ⟨_, h6⟩, _, h7⟩ := hr
  simp only at h0 h1 h2 h3 h4 h5 h6 h7
  rw [headB_form] at h
  have k1 : (256 : Nat) ^ 1 = 256 := by decide
  have k2 : (256 : Nat) ^ 2 = 65536 := by decide
  have e1 := fun r => num_putB 19529 2 r (by omega) (by omega) (by omega)
  have e2 := fun r => num_putB p0 1 r (by omega) (by omega) (by omega)
  have e3 := fun r => num_putB p1 2 r (by omega) (by omega) (by omega)
  have e4 := fun r => num_putB p2 2 r (by omega) (by omega) (by omega)
  have e5 := fun r => num_putB p3 1 r (by omega) (by omega) (by omega)
  have e6 := fun r => num_putB p4 1 r (by omega) (by omega) (by omega)
  have e7 := fun r => num_putB p5 1 r (by omega) (by omega) (by omega)
  have e8 := fun r => num_putB p6 1 r (by omega) (by omega) (by omega)
  have et := text_putB code (by omega)
  exact parse_ok A n c _ w h (by omega) p0 p1 p2 p3 p4 p5 p6 _ _ _ _ _ _ _ _ _ code (e1 _) (e2 _) (e3 _) (e4 _) (e5 _) (e6 _) (e7 _) (e8 _) et rfl hri
/-- Get of a right image's bytes. -/
theorem imgGet_back (p0 p1 p2 p3 p4 p5 p6 : Nat) (code : List UInt8) (hr : RightI ⟨p0, p1, p2, p3, p4, p5, p6, code⟩) (A : Option Addr) (n c : Nat) (w : World) (hn : n = 49 + code.length) (hc : n ≤ c) (hcm : c ≤ maxLen) (h : Reads w w.heap.size 1 A n ((imgB ⟨p0, p1, p2, p3, p4, p5, p6, code⟩).map bV)) :
    Calls Try.prog 24 #[.slice A n c] w fun e w' => ∃ A' c', e = .returned (.tuple #[imgV ⟨p0, p1, p2, p3, p4, p5, p6, code⟩ A' c', .int .i64 0]) ∧ w'.ownsRow w.heap.size 5 1 (.slice A' code.length c') code.length (code.map bV) ∧ Below w.heap.size w w' := by
  have h7 : (code.length : Int) ≤ 96 := hr.2.2.2.2.2.2.2.2
  obtain ⟨D, hD⟩ : ∃ D, 13 + code.length = D := ⟨_, rfl⟩
  obtain rfl : n = D + 36 := by omega
  have hl : (headB ⟨p0, p1, p2, p3, p4, p5, p6, code⟩).length = D := by rw [head_len13 _ (by simp only; omega)]; exact hD
  have hsl : (shaOf (headB ⟨p0, p1, p2, p3, p4, p5, p6, code⟩)).length = 32 := rfl
  have hb1 : (imgB ⟨p0, p1, p2, p3, p4, p5, p6, code⟩).take (D + 32) = digI (headB ⟨p0, p1, p2, p3, p4, p5, p6, code⟩) := List.take_left' (by unfold digI; rw [List.length_append, hl, hsl])
  have hb2 : (imgB ⟨p0, p1, p2, p3, p4, p5, p6, code⟩).drop (D + 32) = sum4 (digI (headB ⟨p0, p1, p2, p3, p4, p5, p6, code⟩)) := List.drop_left' (by unfold digI; rw [List.length_append, hl, hsl])
  have hb3 : (imgB ⟨p0, p1, p2, p3, p4, p5, p6, code⟩).take D = headB ⟨p0, p1, p2, p3, p4, p5, p6, code⟩ := by
    unfold imgB digI
    rw [List.append_assoc]
    exact List.take_left' hl
  refine imgGet_ok A D c _ w h (by omega) hc hcm (by rw [hb1, hb2]) ?_ _ ?_
  · rw [hb3, hb1]
    unfold digI
    exact (List.drop_left' hl).symm
  · intro ad w' h'
    rw [hb3] at h'
    exact parse_back p0 p1 p2 p3 p4 p5 p6 code hr (some ad) D c w' hD.symm h'
theorem img_digest (p0 p1 p2 p3 p4 p5 p6 : Nat) (code : List UInt8) (hr : RightI ⟨p0, p1, p2, p3, p4, p5, p6, code⟩) : ((imgB ⟨p0, p1, p2, p3, p4, p5, p6, code⟩).drop (13 + code.length)).take 32 = shaOf (headB ⟨p0, p1, p2, p3, p4, p5, p6, code⟩) := by
  have h7 : (code.length : Int) ≤ 96 := hr.2.2.2.2.2.2.2.2
  have hl : (headB ⟨p0, p1, p2, p3, p4, p5, p6, code⟩).length = 13 + code.length := head_len13 _ (by simp only; omega)
  unfold imgB digI
  rw [List.append_assoc, List.drop_left' hl]
  exact List.take_left' rfl
end Go.Proofs.Ytojffpfgmlegdaa
namespace Go.Proofs.Ytojffpfgmlegdaa
open Go.RowKit
set_option maxRecDepth 100000 in
set_option maxHeartbeats 4000000 in
theorem imgDigest_ok (A : Option Addr) (D c : Nat) (bs : List UInt8) (w : World) (h : Reads w w.heap.size 1 A (D + 36) (bs.map bV)) (hD : D ≤ 1000000) (hc : D + 36 ≤ c) (hcm : c ≤ maxLen) (p : ImgS) (hg : ∀ w', Below w.heap.size w w' → Calls Try.prog 24 #[.slice A (D + 36) c] w' fun e w'' => ∃ A' c', e = .returned (.tuple #[imgV p A' c', .int .i64 0]) ∧ w''.ownsRow w'.heap.size 5 1 (.slice A' p.code.length c') p.code.length (p.code.map bV) ∧ Below w'.heap.size w' w'') :
    Calls Try.prog 27 #[.slice A (D + 36) c] w fun e w' => e = .returned (.agg (((bs.drop D).take 32).map bV).toArray) ∧ Below w.heap.size w w' := by
  obtain ⟨ad, rfl, had, -⟩ := h.form (by omega)
  unfold maxLen at hcm
  have hcut := h.cut (k := D) (cap := c) (by omega) (by omega)
  have hcD : c ≠ D := by omega
  rw [if_neg hcD, Nat.mul_one, ← List.map_drop] at hcut
  simp only [Option.map_some, Nat.mul_one] at hcut
  have HCUT := hid hcut
  obtain ⟨N, hN⟩ : ∃ N, D + 36 = N := ⟨_, rfl⟩
  rw [hN] at hg ⊢ HCUT
  have q1 : IntKind.i64.wrap ((N : Int) - 36) = (D : Int) := by rw [IntWalk.i64_in _ (by omega)]; omega
  have q3 : (0 : Int) ≤ (D : Int) := Int.natCast_nonneg _
  have q4 : (D : Int) ≤ (c : Int) := by omega
  have q9 : (N : Int) ≤ (c : Int) := by omega
  have q10 : (D : Int) ≤ (N : Int) := by omega
  have HG := hid hg
  clear hg h hcut
  have hz := zero32A_run
  have hzs := zero32A_size
  go_enter Try.func27, Try.ntmps27
  go_wp2_with fail
  obtain ⟨w1, hw1, hb1, hk0, hk1, hs1⟩ : ∃ W : World, (w.alloc (.cells zero32A 24)).alloc (.cells zero32A 24) = W ∧ Below w.heap.size w W ∧ Blk W w.heap.size 24 zero32A.toList ∧ Blk W (w.heap.size + 1) 24 zero32A.toList ∧ W.heap.size = w.heap.size + 2 := ⟨_, rfl, ((Below.refl _ _).alloc (Nat.le_refl _) _).alloc (by simp) _, (Blk.new w 24 zero32A.toList).alloc _, by have := Blk.new (w.alloc (.cells zero32A 24)) 24 zero32A.toList; simpa using this, by simp⟩
  rw [hw1]
  clear hw1
  refine (HG.out w1 hb1).mono ?_
  rintro e w2 ⟨A', c', rfl, ho2, hb2⟩
  have hsl := cutAll32 (w.heap.size + 1)
  go_wp2_with fail
  obtain ⟨w3, hw3, hb23⟩ : ∃ w3 : World, w2.alloc (.cells #[.int .i64 p.part, .int .i64 p.ver, .int .i64 p.hard, .int .i64 p.mem, .int .i64 p.fuel, .int .i64 p.sends, .int .i64 p.recvs, .slice A' p.code.length c'] 41) = w3 ∧ Below w2.heap.size w2 w3 := ⟨_, rfl, (Below.refl _ _).alloc (Nat.le_refl _) _⟩
  rw [hw3]
  clear hw3 ho2
  have hb13 : Below w1.heap.size w1 w3 := hb2.trans (hb23.mono hb2.size)
  clear hb23 hb2
  have hk12 := hk1.belowS hb13
  have hk02 := hk0.belowS hb13
  have hb03 := hb1.trans (hb13.mono hb1.size)
  have HCT := hid (HCUT.out.belowS hb03)
  clear hk0 hk1 hs1 hb1 hb13 HG HCUT
  have HCS : Hid ((((bs.drop D).take 32).map bV).length = 32) := hid (by have := HCT.out.len; simp at this ⊢; omega)
  have HCP : Hid ((Builtin.copy_ #[22, 22] 3 #[.slice (some ⟨w.heap.size + 1, 0, none⟩) 32 32, .slice (some (ad.add D)) (N - D) (c - D)]).run Try.prog w3.drew = .ok (goInt (((bs.drop D).take 32).map bV).length) (w3.drew.setCells (w.heap.size + 1) 0 (((bs.drop D).take 32).map bV))) := hid (by
    refine run_copy_cells w3.drew _ _ _ 5 (w.heap.size + 1) 0 32 32 (ad.add D) (N - D) (c - D) _ Try.underlying22 (by kernel_rfl) ?_ ?_ ?_ ?_ (oneCell_b _)
    · rw [HCS.out]; show 32 = min (N - D) 32; omega
    · intro j v hj
      obtain ⟨ad2, e2, -, hc2⟩ := HCT.out.form (by omega)
      injection e2 with e2
      subst e2
      refine hc2 j v ?_
      rw [List.map_take, List.getElem?_take] at hj
      split at hj
      · exact hj
      · cases hj
    · intro j hj
      rw [HCS.out] at hj
      rw [Nat.zero_add]
      have := hk12.cellAt (i := j) (v := .int .u8 0) (by rw [show zero32A.toList = List.replicate 32 (Value.int .u8 0) from rfl, List.getElem?_replicate, if_pos hj])
      show (w3.cell? _).isSome = true
      rw [this]
      rfl
    · intro j _
      exact hk12.frozen _)
  have hk12' := hid hk12
  have hk02' := hid hk02
  have hb03' := hid hb03
  have HCS2 := hid HCS.out
  have HCS3 := hid HCS.out
  clear hk12 hk02 hb03 HCS
  go_region_law (first
    | (refine step_copy_runI rfl (.tmp 13) (.tmp 18) 22 22 (by rfl) (.slice (some ⟨w.heap.size + 1, 0, none⟩) 32 32) (.slice (some (ad.add D)) (N - D) (c - D)) (by simp [Act.eval, Act.put]) (by simp [Act.eval, Act.put]) (HCP.out) ?_))
  have e2 : List.take 32 (List.drop D (List.map bV bs)) = ((bs.drop D).take 32).map bV := by rw [List.map_take, List.map_drop]
  rw [e2]
  obtain ⟨V, hV⟩ : ∃ V, ((bs.drop D).take 32).map bV = V := ⟨_, rfl⟩
  have hVl : V.length = 32 := by rw [← hV]; exact HCS2.out
  rw [hV]
  have hkz : zero32A.toList.length = 32 := rfl
  have hk4 := hk12'.out.drew.setCells_all V (by rw [hVl, hkz])
  have hk5 := Blk.setCells_far (g := w.heap.size) (g' := w.heap.size + 1) (by omega) V 0 zero32A.toList w3.drew hk02'.out.drew
  have hb5 := below_setCells (w.heap.size + 1) (by omega) V 0 w3.drew (B := w.heap.size) (a := w) hb03'.out.drew
  generalize w3.drew.setCells (w.heap.size + 1) 0 V = w5 at *
  clear HCP HCT hk12' hk02' hb03' HCS2 e2 hsl hVl
  rename_i Qx Kx ax
  refine ax _ _ ?_
  clear ax Kx
  have hV1 : V.toArray.all (·.oneCell') = true := by rw [← hV]; exact oneCell_by _
  have hVs : V.toArray.size = 32 := by rw [← hV]; simpa using HCS3.out
  have hz1 := zero32A_size
  have hi := sh_info32 V (by simpa using hVs)
  have HV := hid hV
  clear hV
  go_wp2_with (first
    | (refine wpList_load_row rfl 24 _ rfl (w.heap.size + 1) rfl 24 V.toArray (0, 0) _ hk4 Try.underlying24 rfl hi ?_)
    | (refine wpList_store_row rfl 24 _ _ rfl w.heap.size V.toArray rfl rfl 24 zero32A hk5 hi (by rw [hVs, zero32A_size]) hV1 ?_))
  rw [HV.out]
  have hg5 := setRow_heap w5 w.heap.size zero32A V.toArray 24 (0, 0) hk5
  refine bodyPost_ret (v := .agg V.toArray) (results_cell_row Try.results27 _ _ w.heap.size 24 V.toArray (0, 0) _ rfl hg5 Try.underlying24 rfl hi) rfl ?_
  exact ⟨rfl, below_setRow hb5 _ _ (Nat.le_refl _)⟩
end Go.Proofs.Ytojffpfgmlegdaa
