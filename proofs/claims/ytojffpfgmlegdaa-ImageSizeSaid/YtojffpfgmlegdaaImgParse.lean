/-
  Package image: bytes ahead of the digest that are no image's.
-/
import Derived.Test.YtojffpfgmlegdaaImgGet
namespace Go.Proofs.Ytojffpfgmlegdaa
open Go.RowKit

theorem blk_grown_ne {w w' : World} {g k : Nat} {t : TypeId} {cs : List Value} (h : Blk w k t cs) (hg : w.grownBy w' (some g)) (hne : k ≠ g) : Blk w' k t cs := h.grown hg (fun e => hne (by injection e))
theorem num_to (g : Nat) (s : RS) (W : Int) (v : Nat) (s' : RS) (he : rNum s W = (v, s')) (w : World) (h : Rdr w g s) (hs : s.b.length ≤ 100000000) :
    Calls Try.prog 53 #[.pointer (some ⟨g, 0, none⟩), .int .i64 W] w fun e w' => e = .returned (.int .i64 (v : Int)) ∧ Rdr w' g s' ∧ w.grownBy w' (some g) := by
  refine (num_any g s W w h hs).mono (fun e w' hp => ?_)
  unfold NPost at hp
  rw [he] at hp
  exact hp
theorem text_to (g : Nat) (s : RS) (W : Int) (t : List UInt8) (s' : RS) (he : rText s W = (t, s')) (w : World) (h : Rdr w g s) (hs : s.b.length ≤ 100000000) :
    Calls Try.prog 54 #[.pointer (some ⟨g, 0, none⟩), .int .i64 W] w fun e w' => ∃ A' m c', e = .returned (.slice A' m c') ∧ w'.ownsRow w.heap.size 5 1 (.slice A' m c') m (t.map bV) ∧ Rdr w' g s' ∧ w.grownBy w' (some g) := by
  refine (text2_any g s W w h hs).mono (fun e w' hp => ?_)
  unfold TPost at hp
  rw [he] at hp
  exact hp
theorem num_le {s s' : RS} {W : Int} {v M : Nat} (he : rNum s W = (v, s')) (h : s.b.length ≤ M) : s'.b.length ≤ M := by
  have := rNum_rest s W
  rw [he] at this
  exact Nat.le_trans this h
theorem text_le {s s' : RS} {W : Int} {t : List UInt8} {M : Nat} (he : rText s W = (t, s')) (h : s.b.length ≤ M) : s'.b.length ≤ M := by
  have := rText_rest s W
  rw [he] at this
  exact Nat.le_trans this h
theorem ownsRow_setCell_far {w : World} {base : Nat} {e : TypeId} {size : Nat} {v : Value} {n : Nat} {xs : List Value} (h : w.ownsRow base e size v n xs) {a : Addr} (ha : a.block < base) (u : Value) : (w.setCell a u).ownsRow base e size v n xs := by
  refine ⟨h.1, ?_⟩
  rcases h.2 with h2 | ⟨g', cap, cur, hv, hg', hh, r⟩
  · exact .inl h2
  · exact .inr ⟨g', cap, cur, hv, hg', (heap_setCell_other w a g' u (by omega)).trans hh, r⟩
set_option maxRecDepth 100000 in
set_option maxHeartbeats 4000000 in
theorem parse_form (A : Option Addr) (n c : Nat) (bs : List UInt8) (w : World) (h : Reads w w.heap.size 1 A n (bs.map bV)) (hn : n ≤ 100000000) (v1 : Nat) (s1 : RS) (e1 : rNum ⟨bs, 0⟩ 2 = (v1, s1)) (hv : v1 ≠ 19529) :
    Calls Try.prog 38 #[.slice A n c] w fun e w' => e = .returned (.tuple #[imgZ, .int .i64 2]) ∧ Below w.heap.size w w' := by
  obtain ⟨w1, hw1, hb1, hs1, hr1⟩ : ∃ w1 : World, w.alloc (.cells #[.int .i64 0, .int .i64 0, .int .i64 0, .int .i64 0, .int .i64 0, .int .i64 0, .int .i64 0, .slice none 0 0] 41) = w1 ∧ Below w.heap.size w w1 ∧ w1.heap.size = w.heap.size + 1 ∧ Blk w1 w.heap.size 41 [.int .i64 0, .int .i64 0, .int .i64 0, .int .i64 0, .int .i64 0, .int .i64 0, .int .i64 0, .slice none 0 0] := ⟨_, rfl, (Below.refl _ _).alloc (Nat.le_refl _) _, by simp, Blk.new _ _ _⟩
  have hbl : bs.length = n := by simpa using h.len
  have HR := hid (h.belowS hb1)
  have HBL := hid hbl
  have HR1 := hid hr1
  have HB1 := hid hb1
  have HE := hid e1
  have HS1 := hid hs1
  have hne : ((v1 : Int) == 19529) = false := by simp; omega
  have hne2 : ((v1 : Int) != 19529) = true := by simp; omega
  clear h hr1 hbl e1 hb1 hs1 hv
  go_enter Try.func38, Try.ntmps38
  go_wp2_with fail
  clear hw1
  refine (read_any A n c bs w1 HR.out hn).mono ?_
  rintro e w2 ⟨g, rfl, hg, hrd, hb2⟩
  go_wp2_with fail
  refine (num_to g ⟨bs, 0⟩ 2 v1 s1 HE.out w2 hrd (by rw [HBL.out]; exact hn)).mono ?_
  rintro e w3 ⟨rfl, hrd3, hg3⟩
  have hb13 := hb2.grown hg3 hb2.size (fun k hk => by injection hk with hk; omega)
  have hr3 := HR1.out.belowS hb13
  have hfin0 := hid (bel_trans HB1.out hb13)
  clear hrd hrd3 hb2 hg3 hb13
  obtain ⟨f0, f1, f2, f3, f4, f5, f6, f7⟩ : _ ∧ _ ∧ _ ∧ _ ∧ _ ∧ _ ∧ _ ∧ _ := ⟨hr3.frozen 0, hr3.frozen 1, hr3.frozen 2, hr3.frozen 3, hr3.frozen 4, hr3.frozen 5, hr3.frozen 6, hr3.frozen 7⟩
  obtain ⟨d0, d1, d2, d3, d4, d5, d6, d7⟩ : _ ∧ _ ∧ _ ∧ _ ∧ _ ∧ _ ∧ _ ∧ _ := ⟨hr3.cellAt (i := 0) rfl, hr3.cellAt (i := 1) rfl, hr3.cellAt (i := 2) rfl, hr3.cellAt (i := 3) rfl, hr3.cellAt (i := 4) rfl, hr3.cellAt (i := 5) rfl, hr3.cellAt (i := 6) rfl, hr3.cellAt (i := 7) rfl⟩
  have hr7 := hid hr3
  clear hr3
  go_wp2_with fail
  obtain ⟨w8, hw8, hb8, hr8⟩ := store8z hr7.out rfl (.int .i64 0) (.int .i64 0) (.int .i64 0) (.int .i64 0) (.int .i64 0) (.int .i64 0) (.int .i64 0) (.slice none 0 0)
  rw [hw8]
  clear hw8 f0 d0 f1 d1 f2 d2 f3 d3 f4 d4 f5 d5 f6 d6 f7 d7
  obtain ⟨r0, r1, r2, r3, r4, r5, r6, r7⟩ : _ ∧ _ ∧ _ ∧ _ ∧ _ ∧ _ ∧ _ ∧ _ := ⟨hr8.cellAt (i := 0) rfl, hr8.cellAt (i := 1) rfl, hr8.cellAt (i := 2) rfl, hr8.cellAt (i := 3) rfl, hr8.cellAt (i := 4) rfl, hr8.cellAt (i := 5) rfl, hr8.cellAt (i := 6) rfl, hr8.cellAt (i := 7) rfl⟩
  have hfin := hid (hfin0.out.trans hb8)
  refine bodyPost_ret (v := .tuple #[imgZ, .int .i64 2]) (by simp [results, Try.results38, go_sem, r0, r1, r2, r3, r4, r5, r6, r7, imgZ]) rfl ?_
  exact ⟨rfl, hfin.out⟩
set_option maxRecDepth 100000 in
set_option maxHeartbeats 4000000 in
theorem parse_end (A : Option Addr) (n c : Nat) (bs : List UInt8) (w : World) (h : Reads w w.heap.size 1 A n (bs.map bV)) (hn : n ≤ 100000000) (v2 v3 v4 v5 v6 v7 v8 : Nat) (s1 s2 s3 s4 s5 s6 s7 s8 s9 : RS) (t : List UInt8) (e1 : rNum ⟨bs, 0⟩ 2 = (19529, s1)) (e2 : rNum s1 1 = (v2, s2)) (e3 : rNum s2 2 = (v3, s3)) (e4 : rNum s3 2 = (v4, s4)) (e5 : rNum s4 1 = (v5, s5)) (e6 : rNum s5 1 = (v6, s6)) (e7 : rNum s6 1 = (v7, s7)) (e8 : rNum s7 1 = (v8, s8)) (et : rText s8 65535 = (t, s9)) (x : Int) (hx : rEnd s9 = x) (hx0 : x ≠ 0) :
    Calls Try.prog 38 #[.slice A n c] w fun e w' => e = .returned (.tuple #[imgZ, .int .i64 (x)]) ∧ Below w.heap.size w w' := by
  obtain ⟨w1, hw1, hb1, hs1, hr1⟩ : ∃ w1 : World, w.alloc (.cells #[.int .i64 0, .int .i64 0, .int .i64 0, .int .i64 0, .int .i64 0, .int .i64 0, .int .i64 0, .slice none 0 0] 41) = w1 ∧ Below w.heap.size w w1 ∧ w1.heap.size = w.heap.size + 1 ∧ Blk w1 w.heap.size 41 [.int .i64 0, .int .i64 0, .int .i64 0, .int .i64 0, .int .i64 0, .int .i64 0, .int .i64 0, .slice none 0 0] := ⟨_, rfl, (Below.refl _ _).alloc (Nat.le_refl _) _, by simp, Blk.new _ _ _⟩
  have hbl : bs.length = n := by simpa using h.len
  have HR := hid (h.belowS hb1)
  have HR1 := hid hr1
  have HB1 := hid hb1
  have l0 : (⟨bs, 0⟩ : RS).b.length ≤ 100000000 := by show bs.length ≤ _; omega
  have l1 := num_le e1 l0
  have l2 := num_le e2 l1
  have l3 := num_le e3 l2
  have l4 := num_le e4 l3
  have l5 := num_le e5 l4
  have l6 := num_le e6 l5
  have l7 := num_le e7 l6
  have l8 := num_le e8 l7
  have l9 := text_le et l8
  have E1 := hid e1
  have E2 := hid e2
  have E3 := hid e3
  have E4 := hid e4
  have E5 := hid e5
  have E6 := hid e6
  have E7 := hid e7
  have E8 := hid e8
  have ET := hid et
  have L0 := hid l0
  have L1 := hid l1
  have L2 := hid l2
  have L3 := hid l3
  have L4 := hid l4
  have L5 := hid l5
  have L6 := hid l6
  have L7 := hid l7
  have L8 := hid l8
  have L9 := hid l9
  have HS1 := hid hs1
  clear h hr1 hbl hb1 hs1 e1 e2 e3 e4 e5 e6 e7 e8 et l0 l1 l2 l3 l4 l5 l6 l7 l8 l9
  go_enter Try.func38, Try.ntmps38
  go_wp2_with fail
  clear hw1
  refine (read_any A n c bs w1 HR.out hn).mono ?_
  rintro e w2 ⟨g, rfl, hg, hrd2, hb2⟩
  have hG2 := hid (hb2)
  go_wp2_with fail
  refine (num_to g ⟨bs, 0⟩ 2 19529 s1 E1.out w2 hrd2 L0.out).mono ?_
  rintro e w3 ⟨rfl, hrd3, hg3⟩
  have hc3 : Below w1.heap.size w1 w3 := hb2.grown hg3 hb2.size (fun k hk => by injection hk with hk; omega)
  clear hrd2 hg3 hb2
  go_wp2_with fail
  refine (num_to g s1 1 v2 s2 E2.out w3 hrd3 L1.out).mono ?_
  rintro e w4 ⟨rfl, hrd4, hg4⟩
  have hc4 : Below w1.heap.size w1 w4 := hc3.grown hg4 hc3.size (fun k hk => by injection hk with hk; omega)
  clear hrd3 hg4 hc3
  go_wp2_with fail
  refine (num_to g s2 2 v3 s3 E3.out w4 hrd4 L2.out).mono ?_
  rintro e w5 ⟨rfl, hrd5, hg5⟩
  have hc5 : Below w1.heap.size w1 w5 := hc4.grown hg5 hc4.size (fun k hk => by injection hk with hk; omega)
  clear hrd4 hg5 hc4
  go_wp2_with fail
  refine (num_to g s3 2 v4 s4 E4.out w5 hrd5 L3.out).mono ?_
  rintro e w6 ⟨rfl, hrd6, hg6⟩
  have hc6 : Below w1.heap.size w1 w6 := hc5.grown hg6 hc5.size (fun k hk => by injection hk with hk; omega)
  clear hrd5 hg6 hc5
  go_wp2_with fail
  refine (num_to g s4 1 v5 s5 E5.out w6 hrd6 L4.out).mono ?_
  rintro e w7 ⟨rfl, hrd7, hg7⟩
  have hc7 : Below w1.heap.size w1 w7 := hc6.grown hg7 hc6.size (fun k hk => by injection hk with hk; omega)
  clear hrd6 hg7 hc6
  go_wp2_with fail
  refine (num_to g s5 1 v6 s6 E6.out w7 hrd7 L5.out).mono ?_
  rintro e w8 ⟨rfl, hrd8, hg8⟩
  have hc8 : Below w1.heap.size w1 w8 := hc7.grown hg8 hc7.size (fun k hk => by injection hk with hk; omega)
  clear hrd7 hg8 hc7
  go_wp2_with fail
  refine (num_to g s6 1 v7 s7 E7.out w8 hrd8 L6.out).mono ?_
  rintro e w9 ⟨rfl, hrd9, hg9⟩
  have hc9 : Below w1.heap.size w1 w9 := hc8.grown hg9 hc8.size (fun k hk => by injection hk with hk; omega)
  clear hrd8 hg9 hc8
  go_wp2_with fail
  refine (num_to g s7 1 v8 s8 E8.out w9 hrd9 L7.out).mono ?_
  rintro e w10 ⟨rfl, hrd10, hg10⟩
  have hc10 : Below w1.heap.size w1 w10 := hc9.grown hg10 hc9.size (fun k hk => by injection hk with hk; omega)
  clear hrd9 hg10 hc9
  obtain ⟨wa, hwa, hsa, hba, hblka⟩ : ∃ wa : World, w10.alloc (.cells #[.int .i64 (v2 : Int), .int .i64 (v3 : Int), .int .i64 (v4 : Int), .int .i64 (v5 : Int), .int .i64 (v6 : Int), .int .i64 (v7 : Int), .int .i64 (v8 : Int), .slice none 0 0] 41) = wa ∧ wa.heap.size = w10.heap.size + 1 ∧ Below w10.heap.size w10 wa ∧ Blk wa w10.heap.size 41 [.int .i64 (v2 : Int), .int .i64 (v3 : Int), .int .i64 (v4 : Int), .int .i64 (v5 : Int), .int .i64 (v6 : Int), .int .i64 (v7 : Int), .int .i64 (v8 : Int), .slice none 0 0] := ⟨_, rfl, by simp, (Below.refl _ _).alloc (Nat.le_refl _) _, Blk.new _ _ _⟩
  have hrda := hrd10.below hba
  have hca := bel_trans hc10 hba
  have HWA := hid hwa
  have hgl := hrd10.lt
  have hc10s := hc10.size
  clear hrd10 hc10 hba hwa
  go_wp2_with fail
  first | rw [HWA.out] | skip
  refine (text_to g s8 65535 t s9 ET.out wa hrda L8.out).mono ?_
  rintro e w11 ⟨A7, m7, c7, rfl, hown, hrd11, hg11⟩
  have hc11 : Below w1.heap.size w1 w11 := hca.grown hg11 hca.size (fun k hk => by injection hk with hk; omega)
  have hblk11 := blk_grown_ne hblka hg11 (by omega)
  have f7 := hblk11.frozen 7
  have d7 := hblk11.cellAt (i := 7) rfl
  have hz11 := hg11.size
  have hown12 := ownsRow_setCell_far hown (a := ⟨w10.heap.size, 7, none⟩) (by show w10.heap.size < wa.heap.size; omega) (.slice A7 m7 c7)
  have hblk12 := hblk11.set_ 7 (.slice A7 m7 c7)
  have hc12 : Below w1.heap.size w1 (w11.setCell ⟨w10.heap.size, 7, none⟩ (.slice A7 m7 c7)) := hc11.setCell (by omega) _
  have hrd12 : Rdr (w11.setCell ⟨w10.heap.size, 7, none⟩ (.slice A7 m7 c7)) g s9 := by
    obtain ⟨A0, n0, c0, q1, q2, q3, q4⟩ := hrd11
    exact ⟨A0, n0, c0, q1.far (p := ⟨w10.heap.size, 7, none⟩) (by show g ≠ w10.heap.size; omega) _, q2.setCell (by show g ≤ w10.heap.size; omega) _, q3, q4⟩
  have HO := hid hown12
  have HB12 := hid hblk12
  have HC12 := hid hc12
  have HRD := hid hrd12
  clear hown hown12 hblk11 hblk12 hc11 hc12 hrd11 hrd12 hg11 hrda hca hblka
  go_wp2_with fail
  generalize hw12 : w11.setCell ⟨w10.heap.size, 7, none⟩ (.slice A7 m7 c7) = w12 at *
  clear hw12 f7 d7
  refine (end_rd g s9 w12 HRD.out L9.out).mono ?_
  rintro e w13 ⟨rfl, rfl⟩
  have hr12 := HR1.out.below HC12.out (by have := HS1.out; omega)
  rw [hx]
  have t1 : (x == 0) = false := by simpa using hx0
  have t2 : (x != 0) = true := by simpa using hx0
  have HB0 := hid (HB1.out.trans (HC12.out.mono HB1.out.size))
  clear hx hx0
  obtain ⟨f0, f1, f2, f3, f4, f5, f6, f7⟩ : _ ∧ _ ∧ _ ∧ _ ∧ _ ∧ _ ∧ _ ∧ _ := ⟨hr12.frozen 0, hr12.frozen 1, hr12.frozen 2, hr12.frozen 3, hr12.frozen 4, hr12.frozen 5, hr12.frozen 6, hr12.frozen 7⟩
  obtain ⟨d0, d1, d2, d3, d4, d5, d6, d7⟩ : _ ∧ _ ∧ _ ∧ _ ∧ _ ∧ _ ∧ _ ∧ _ := ⟨hr12.cellAt (i := 0) rfl, hr12.cellAt (i := 1) rfl, hr12.cellAt (i := 2) rfl, hr12.cellAt (i := 3) rfl, hr12.cellAt (i := 4) rfl, hr12.cellAt (i := 5) rfl, hr12.cellAt (i := 6) rfl, hr12.cellAt (i := 7) rfl⟩
  have hr7 := hid hr12
  clear hr12
  go_wp2_with fail
  obtain ⟨w8', hw8, hb8, hr8⟩ := store8z hr7.out rfl (.int .i64 0) (.int .i64 0) (.int .i64 0) (.int .i64 0) (.int .i64 0) (.int .i64 0) (.int .i64 0) (.slice none 0 0)
  rw [hw8]
  clear hw8 f0 d0 f1 d1 f2 d2 f3 d3 f4 d4 f5 d5 f6 d6 f7 d7
  obtain ⟨r0, r1, r2, r3, r4, r5, r6, r7⟩ : _ ∧ _ ∧ _ ∧ _ ∧ _ ∧ _ ∧ _ ∧ _ := ⟨hr8.cellAt (i := 0) rfl, hr8.cellAt (i := 1) rfl, hr8.cellAt (i := 2) rfl, hr8.cellAt (i := 3) rfl, hr8.cellAt (i := 4) rfl, hr8.cellAt (i := 5) rfl, hr8.cellAt (i := 6) rfl, hr8.cellAt (i := 7) rfl⟩
  have hfin := hid (HB0.out.trans hb8)
  refine bodyPost_ret (v := .tuple #[imgZ, .int .i64 x]) (by simp [results, Try.results38, go_sem, r0, r1, r2, r3, r4, r5, r6, r7, imgZ]) rfl ?_
  exact ⟨rfl, hfin.out⟩
end Go.Proofs.Ytojffpfgmlegdaa
