/-
  The reference's digest: the words behind a block.
-/
import Derived.Test.YtojffpfgmlegdaaRefSha
import Derived.Test.YtojffpfgmlegdaaRefShaPl
import Derived.Test.YtojffpfgmlegdaaStepApp
import Derived.Test.YtojffpfgmlegdaaAppKeep
import Derived.StillTailTactics
import Derived.Test.YtojffpfgmlegdaaShaPl3
namespace Go.Proofs.Ytojffpfgmlegdaa
open Go.RowKit

theorem info_int : (Try.prog.info? 3).map (fun i => (i.zero, i.size, i.bytes)) = some (some (.int .i64 0), 1, 8) := by kernel_rfl
theorem oneCell_nw (l : List (BitVec 32)) : ∀ u ∈ l.map nW, u.oneCell' = true := by intro u hu; obtain ⟨b, _, rfl⟩ := List.mem_map.1 hu; rfl
/-- Four bytes as a number, the way the reference reckons it. -/
theorem word4_num (a b c d : UInt8) : (a.toNat : Int) * 16777216 + (b.toNat : Int) * 65536 + (c.toNat : Int) * 256 + (d.toNat : Int) = ((word4 [a, b, c, d]).toNat : Int) := by
  have ha := a.toNat_lt
  have hb := b.toNat_lt
  have hc := c.toNat_lt
  have hd := d.toNat_lt
  unfold word4
  simp only [List.foldl_cons, List.foldl_nil, BitVec.toNat_add, BitVec.toNat_mul, BitVec.toNat_ofNat]
  omega
theorem four_list (p : List UInt8) (k : Nat) (hp : p.length = 64) (h : k < 16) : ∃ a b c d, sh_four p k = [a, b, c, d] ∧ p[4 * k]? = some a ∧ p[4 * k + 1]? = some b ∧ p[4 * k + 2]? = some c ∧ p[4 * k + 3]? = some d := by
  have g0 := four_get p k 0 hp h (by omega)
  have g1 := four_get p k 1 hp h (by omega)
  have g2 := four_get p k 2 hp h (by omega)
  have g3 := four_get p k 3 hp h (by omega)
  have hl := four_len p k hp h
  match hq : sh_four p k, hl with
  | [a, b, c, d], _ =>
    rw [hq] at g0 g1 g2 g3
    exact ⟨a, b, c, d, rfl, g0.symm, g1.symm, g2.symm, g3.symm⟩
theorem refTurn_b (x : BitVec 32) (n : Nat) (h0 : 0 < n) (h1 : n < 32) (w : World) : Calls Try.prog 43 #[nW x, .int .i64 (n : Int)] w fun e w' => e = .returned (nW (x.rotateRight n)) ∧ Below w.heap.size w w' :=
  (refTurn_any x n h0 h1 w).mono fun _ _ ⟨h, k, hk⟩ => ⟨h, by rw [hk]; exact below_drewN (Below.refl _ _) k⟩
theorem shr_quo (x : BitVec 32) (n : Nat) : (x.toNat : Int) / (2 ^ n : Nat) = ((x >>> n).toNat : Int) := by
  rw [BitVec.toNat_ushiftRight, Nat.shiftRight_eq_div_pow]; omega
theorem next_num (a b c d : BitVec 32) : (a.toNat + b.toNat + c.toNat + d.toNat) % 4294967296 = (d + b + c + a).toNat := by
  simp only [BitVec.toNat_add]
  omega
theorem x_num (v : Sh8) (k w : BitVec 32) : (v.h.toNat + (mixW v.e 6 11 25).toNat + ((v.e &&& v.f) ||| ((4294967295#32 - v.e) &&& v.g)).toNat + k.toNat + w.toNat) % 4294967296 = (refX v k w).toNat := by
  unfold refX
  rw [show mixW v.e 6 11 25 = v.e.rotateRight 6 ^^^ v.e.rotateRight 11 ^^^ v.e.rotateRight 25 from rfl]
  simp only [BitVec.toNat_add]
  omega
theorem y_num (v : Sh8) : ((mixW v.a 2 13 22).toNat + (((v.a &&& v.b) ||| (v.a &&& v.c)) ||| (v.b &&& v.c)).toNat) % 4294967296 = (refY v).toNat := by
  unfold refY
  rw [show mixW v.a 2 13 22 = v.a.rotateRight 2 ^^^ v.a.rotateRight 13 ^^^ v.a.rotateRight 22 from rfl]
  simp only [BitVec.toNat_add]
theorem not_num (e : BitVec 32) : (4294967295 : Int) - (e.toNat : Int) = ((4294967295#32 - e).toNat : Int) := by
  have := e.isLt
  rw [BitVec.toNat_sub]
  simp only [BitVec.toNat_ofNat]
  omega
theorem add_num (x y : BitVec 32) : (x.toNat + y.toNat) % 4294967296 = (x + y).toNat := by rw [BitVec.toNat_add]
theorem wrN {x : Int} {n : Nat} (h : x = (n : Int)) (hn : n < 9223372036854775808) : IntKind.i64.wrap x = (n : Int) ∧ wrap64 x = (n : Int) := by
  subst h
  exact ⟨IntWalk.i64_in _ (by omega), by unfold wrap64; omega⟩
theorem add_wr {x y : Nat} (Bx By : Nat) (hx : x < Bx) (hy : y < By) (hB : Bx + By ≤ 9223372036854775808) : ∃ n : Nat, x + y = n ∧ n < Bx + By ∧ IntKind.i64.wrap ((x : Int) + (y : Int)) = (n : Int) ∧ wrap64 ((x : Int) + (y : Int)) = (n : Int) :=
  ⟨x + y, rfl, by omega, (wrN (by omega) (by omega)).1, (wrN (by omega) (by omega)).2⟩
theorem plus_get (v o : Sh8) (i : Nat) (x y : BitVec 32) (hx : v.list[i]? = some x) (hy : o.list[i]? = some y) : (v.plus o).list[i]? = some (x + y) := by
  have hi : i < 8 := by have := (List.getElem?_eq_some_iff.1 hx).1; simpa [Sh8.list] using this
  have : i = 0 ∨ i = 1 ∨ i = 2 ∨ i = 3 ∨ i = 4 ∨ i = 5 ∨ i = 6 ∨ i = 7 := by omega
  rcases this with rfl | rfl | rfl | rfl | rfl | rfl | rfl | rfl <;> (simp [Sh8.list] at hx hy; subst hx hy; rfl)
theorem mod_still (n : Nat) (X : BitVec 32) (h : n % 4294967296 = X.toNat) (w : World) : Calls Try.prog 42 #[.int .i64 (n : Int)] w fun e w' => e = .returned (nW X) ∧ w' = w :=
  (refMod_any n w).mono fun _ _ ⟨h1, h2⟩ => ⟨by rw [h1, h], h2.symm⟩
theorem list8 (l : List (BitVec 32)) (v : Sh8) (h : l = v.list) : l.length = 8 := by rw [h]; rfl
set_option maxRecDepth 100000 in
set_option maxHeartbeats 40000000 in
theorem refBehind_any (F1 R1 : Option Addr) (f1 n1 r1 : Nat) (A V : Option Addr) (c d : Nat) (p : List UInt8) (v0 : Sh8) (w : World) (hp : p.length = 64) (hb : Reads w w.heap.size 1 A 64 (p.map bV)) (hR : Reads w w.heap.size 1 R1 64 (shaK.map nW)) (hV : Reads w w.heap.size 1 V 8 (v0.list.map nW)) (hc : 64 ≤ c) (hcm : c ≤ maxLen) (hd : 8 ≤ d) (hdm : d ≤ maxLen) (hr : 64 ≤ r1) (hrm : r1 ≤ maxLen) :
    Calls Try.prog 30 #[.agg #[.slice F1 f1 n1, .slice R1 64 r1], .slice V 8 d, .slice A 64 c] w fun e w' => ∃ A' c', e = .returned (.slice A' 8 c') ∧ w'.ownsRow w.heap.size 3 1 (.slice A' 8 c') 8 ((fullV p v0).list.map nW) ∧ Below w.heap.size w w' := by
  unfold maxLen at hcm hdm hrm
  obtain ⟨w1, hw1, hb1, hs1, hblk⟩ : ∃ w1 : World, w.alloc (.cells #[.slice F1 f1 n1, .slice R1 64 r1] 30) = w1 ∧ Below w.heap.size w w1 ∧ w1.heap.size = w.heap.size + 1 ∧ Blk w1 w.heap.size 30 [.slice F1 f1 n1, .slice R1 64 r1] := ⟨_, rfl, (Below.refl _ _).alloc (Nat.le_refl _) _, by simp, Blk.new _ _ _⟩
  have HB := hid (hb.belowS hb1)
  have HRR := hid (hR.belowS hb1)
  have HV := hid (hV.belowS hb1)
  have HP := hid hp
  have HBLK := hid hblk
  have HS1 := hid hs1
  have HB1 := hid hb1
  obtain ⟨i0, hi0, hz0, hz1, hz2⟩ := info_parts info_int
  have HI := hid (And.intro hi0 (And.intro hz0 (And.intro hz1 hz2)))
  clear hb hR hV hp hblk hs1 hb1 hi0 hz0 hz1 hz2
  go_enter Try.func30, Try.ntmps30
  go_wp2_with fail
  clear hw1
  go_loopw [8, 7] (fun v8 v7 wr => ∃ (k : Nat) (A7 : Option Addr) (c7 : Nat), k ≤ 64 ∧ v8 = .int .i64 (k : Int) ∧ v7 = .slice A7 k c7 ∧ wr.ownsRow w1.heap.size 3 1 (.slice A7 k c7) k ((wordsN p k).map nW) ∧ Below w1.heap.size w1 wr) (fun v8 _ _ => 64 - (intOf v8).toNat)
  case atStart => exact ⟨0, none, 0, by omega, rfl, rfl, World.ownsRow_nil _ _ _ _, Below.refl _ _⟩
  case round =>
    obtain ⟨k, A7, c7, hk, rfl, rfl, hown, hbel⟩ := hrel
    obtain ⟨wo, rfl⟩ : ∃ wo : World, wo = wr := ⟨_, rfl⟩
    by_cases hk2 : k < 64
    · by_cases hk3 : k < 16
      · have hdk : decide ((k : Int) < 64) = true := by simp; omega
        have hdk3 : decide ((k : Int) < 16) = true := by simp; omega
        obtain ⟨x0, x1, x2, x3, hx, g0, g1, g2, g3⟩ := four_list p k HP.out hk3
        have hnum := word4_num x0 x1 x2 x3
        rw [← hx] at hnum
        have HN : Hid (wordsN p (k + 1) = wordsN p k ++ [word4 (sh_four p k)]) := hid (by rw [← nextW_low p k hk3]; rfl)
        have hrd := HB.out.below hbel
        obtain ⟨ad, e0, hadb, hcells⟩ := hrd.form (by omega)
        subst e0
        have hcell : ∀ (w2 : World), Below wo.heap.size wo w2 → ∀ j x, p[j]? = some x → w2.cell? (ad.add j) = some (bV x) := fun w2 hb2 j x hj => by
          rw [hb2.cell (by rw [block_add]; have := hbel.size; omega)]
          exact hcells j _ (by rw [List.getElem?_map, hj]; rfl)
        have HC := hid hcell
        have lt0 := x0.toNat_lt
        have lt1 := x1.toNat_lt
        have lt2 := x2.toNat_lt
        have lt3 := x3.toNat_lt
        generalize word4 (sh_four p k) = X at *
        have hX := X.isLt
        obtain ⟨j0, j1, j2, j3, hj0, hj1, hj2, hj3⟩ : ∃ j0 j1 j2 j3, 4 * k = j0 ∧ 4 * k + 1 = j1 ∧ 4 * k + 2 = j2 ∧ 4 * k + 3 = j3 := ⟨_, _, _, _, rfl, rfl, rfl, rfl⟩
        have i0w : IntKind.i64.wrap (4 * (k : Int)) = (j0 : Int) := by rw [IntWalk.i64_in _ (by omega)]; omega
        have i1w : IntKind.i64.wrap ((j0 : Int) + 1) = (j1 : Int) := by rw [IntWalk.i64_in _ (by omega)]; omega
        have i2w : IntKind.i64.wrap ((j0 : Int) + 2) = (j2 : Int) := by rw [IntWalk.i64_in _ (by omega)]; omega
        have i3w : IntKind.i64.wrap ((j0 : Int) + 3) = (j3 : Int) := by rw [IntWalk.i64_in _ (by omega)]; omega
        obtain ⟨m0, m1, m2, t1, t2, hm0, hm1, hm2, ht1, ht2⟩ : ∃ m0 m1 m2 t1 t2, x0.toNat * 16777216 = m0 ∧ x1.toNat * 65536 = m1 ∧ x2.toNat * 256 = m2 ∧ m0 + m1 = t1 ∧ t1 + m2 = t2 := ⟨_, _, _, _, _, rfl, rfl, rfl, rfl, rfl⟩
        have b0' : IntKind.i64.wrap (x0.toNat : Int) = (x0.toNat : Int) := IntWalk.i64_in _ (by omega)
        have b1' : IntKind.i64.wrap (x1.toNat : Int) = (x1.toNat : Int) := IntWalk.i64_in _ (by omega)
        have b2' : IntKind.i64.wrap (x2.toNat : Int) = (x2.toNat : Int) := IntWalk.i64_in _ (by omega)
        have b3' : IntKind.i64.wrap (x3.toNat : Int) = (x3.toNat : Int) := IntWalk.i64_in _ (by omega)
        have w0' : IntKind.i64.wrap ((x0.toNat : Int) * 16777216) = (m0 : Int) := by rw [IntWalk.i64_in _ (by omega)]; omega
        have w1' : IntKind.i64.wrap ((x1.toNat : Int) * 65536) = (m1 : Int) := by rw [IntWalk.i64_in _ (by omega)]; omega
        have w2' : IntKind.i64.wrap ((x2.toNat : Int) * 256) = (m2 : Int) := by rw [IntWalk.i64_in _ (by omega)]; omega
        have w3' : IntKind.i64.wrap ((m0 : Int) + (m1 : Int)) = (t1 : Int) := by rw [IntWalk.i64_in _ (by omega)]; omega
        have w4' : IntKind.i64.wrap ((t1 : Int) + (m2 : Int)) = (t2 : Int) := by rw [IntWalk.i64_in _ (by omega)]; omega
        have w5' : IntKind.i64.wrap ((t2 : Int) + (x3.toNat : Int)) = (X.toNat : Int) := by rw [IntWalk.i64_in _ (by omega)]; omega
        have z0 : (0 : Int) ≤ (j0 : Int) ∧ (j0 : Int) < 64 := by omega
        have z1 : (0 : Int) ≤ (j1 : Int) ∧ (j1 : Int) < 64 := by omega
        have z2 : (0 : Int) ≤ (j2 : Int) ∧ (j2 : Int) < 64 := by omega
        have z3 : (0 : Int) ≤ (j3 : Int) ∧ (j3 : Int) < 64 := by omega
        obtain ⟨z0a, z0b⟩ := z0
        obtain ⟨z1a, z1b⟩ := z1
        obtain ⟨z2a, z2b⟩ := z2
        obtain ⟨z3a, z3b⟩ := z3
        have y0 : wo.cell? (ad.add (4 * k)) = some (bV x0) := HC.out wo (Below.refl _ _) _ _ g0
        have y1 : wo.cell? (ad.add (4 * k + 1)) = some (bV x1) := HC.out wo (Below.refl _ _) _ _ g1
        have y2 : wo.cell? (ad.add (4 * k + 2)) = some (bV x2) := HC.out wo (Below.refl _ _) _ _ g2
        have y3 : wo.cell? (ad.add (4 * k + 3)) = some (bV x3) := HC.out wo (Below.refl _ _) _ _ g3
        rw [hj0] at y0
        rw [hj1] at y1
        rw [hj2] at y2
        rw [hj3] at y3
        have HO := hid hown
        have HBE := hid hbel
        have hbs := hbel.size
        clear hj0 hj1 hj2 hj3 hm0 hm1 hm2 ht1 ht2 hnum hx g0 g1 g2 g3 hcells hcell hrd lt0 lt1 lt2 lt3 hown hbel
        obtain ⟨hi0, hz0, hz1, hz2⟩ := HI.out
        go_wp2_with fail
        go_region_held3 (fun w' => w'.cell? (ad.add j0) = some (bV x0) ∧ w'.cell? (ad.add j1) = some (bV x1) ∧ w'.cell? (ad.add j2) = some (bV x2) ∧ w'.cell? (ad.add j3) = some (bV x3)) (first | exact ⟨y0, y1, y2, y3⟩ | exact ⟨u0, u1, u2, u3⟩ | go_keep)
          ((refine step_append_src _ (by rfl) _ _ _ (by rfl) w1.heap.size 3 i0 _ 1 8 Try.underlying28 hi0 hz0 hz1 hz2 rfl (by decide) (.slice A7 k c7) k _ (by rfl) (HO.out.alloc _) (wo.heap.size + 1) (some ⟨wo.heap.size, 0, none⟩) 1 1 [nW X] (by rfl) (by exact (Reads.new wo #[nW X] _ 1 rfl).drew) (oneCell_nw [X]) (by simp [maxLen]; omega) (by omega) (by simp; omega) (k + 1) (by omega) ?_; intro A8 c8 w8 hown8 _ hb8'; have hb8 : Below w1.heap.size wo w8 := ((Below.refl _ _).alloc hbs _).trans ⟨hb8'.os, hb8'.tape, hb8'.output, hb8'.size, hb8'.block⟩; clear hb8'; have u0 : w8.cell? (ad.add j0) = some (bV x0) := (hb8.cell (by rw [block_add]; exact hadb)).trans y0; have u1 : w8.cell? (ad.add j1) = some (bV x1) := (hb8.cell (by rw [block_add]; exact hadb)).trans y1; have u2 : w8.cell? (ad.add j2) = some (bV x2) := (hb8.cell (by rw [block_add]; exact hadb)).trans y2; have u3 : w8.cell? (ad.add j3) = some (bV x3) := (hb8.cell (by rw [block_add]; exact hadb)).trans y3))
        have hown9 : w8.ownsRow w1.heap.size 3 1 (.slice A8 (k + 1) c8) (k + 1) ((wordsN p (k + 1)).map nW) := by rw [HN.out, List.map_append]; exact hown8
        have hb9 := HBE.out.trans hb8
        clear y0 y1 y2 y3 u0 u1 u2 u3 hown8 hb8 i0w i1w i2w i3w b0' b1' b2' b3' w0' w1' w2' w3' w4' w5' hi0 hz0 hz1 hz2
        have HO9 := hid hown9
        have HB9 := hid hb9
        clear hown9 hb9
        go_wp2_with fail
        go_roundw
        case rel => exact ⟨k + 1, A8, c8, by omega, by go_num, rfl, HO9.out, HB9.out⟩
        case measure => simp [intOf]; omega
      · have hdk : decide ((k : Int) < 64) = true := by simp; omega
        have hdk3 : decide ((k : Int) < 16) = false := by simp; omega
        obtain ⟨g7, rfl, hg7, hg7w⟩ := own_some hown (by omega)
        obtain ⟨i2, i15, i7, i16, e2, e15, e7, e16⟩ : ∃ i2 i15 i7 i16 : Nat, (k - 2 = i2 ∧ i2 < k ∧ (k : Int) - 2 = (i2 : Int)) ∧ (k - 15 = i15 ∧ i15 < k ∧ (k : Int) - 15 = (i15 : Int)) ∧ (k - 7 = i7 ∧ i7 < k ∧ (k : Int) - 7 = (i7 : Int)) ∧ (k - 16 = i16 ∧ i16 < k ∧ (k : Int) - 16 = (i16 : Int)) :=
          ⟨k - 2, k - 15, k - 7, k - 16, ⟨rfl, by omega, by omega⟩, ⟨rfl, by omega, by omega⟩, ⟨rfl, by omega, by omega⟩, ⟨rfl, by omega, by omega⟩⟩
        have HN := hid (show wordsN p (k + 1) = wordsN p k ++ [sh_spread ((wordsN p k).getD i2 0) 17 19 10 + sh_spread ((wordsN p k).getD i15 0) 7 18 3 + (wordsN p k).getD i7 0 + (wordsN p k).getD i16 0] by
          rw [← e2.1, ← e15.1, ← e7.1, ← e16.1, ← nextW_high p k (by omega)]; rfl)
        have HC : Hid (∀ w2 : World, w2.ownsRow w1.heap.size 3 1 (.slice (some ⟨g7, 0, none⟩) k c7) k ((wordsN p k).map nW) → ∀ i, i < k → w2.cell? ⟨g7, i, none⟩ = some (nW ((wordsN p k).getD i 0))) := hid fun w2 h i hi => by
          obtain ⟨x, hx, hcx, _⟩ := own_cellM h hi
          rw [hcx, List.getD_eq_getElem?_getD, hx]
          rfl
        have y2 := HC.out wo hown i2 e2.2.1
        have y15 := HC.out wo hown i15 e15.2.1
        have y7 := HC.out wo hown i7 e7.2.1
        have y16 := HC.out wo hown i16 e16.2.1
        have HC2 : Hid (∀ w2 : World, Below wo.heap.size wo w2 → w2.cell? ⟨g7, i7, none⟩ = some (nW ((wordsN p k).getD i7 0)) ∧ w2.cell? ⟨g7, i16, none⟩ = some (nW ((wordsN p k).getD i16 0))) := hid fun w2 hb =>
          ⟨(hb.cell (p := ⟨g7, i7, none⟩) hg7w).trans y7, (hb.cell (p := ⟨g7, i16, none⟩) hg7w).trans y16⟩
        generalize (wordsN p k).getD i2 0 = x2 at *
        generalize (wordsN p k).getD i15 0 = x15 at *
        generalize (wordsN p k).getD i7 0 = x7 at *
        generalize (wordsN p k).getD i16 0 = x16 at *
        have d2 : (k : Int) - 2 = (i2 : Int) := e2.2.2
        have d15 : (k : Int) - 15 = (i15 : Int) := e15.2.2
        have w7' : IntKind.i64.wrap ((k : Int) - 7) = (i7 : Int) := by rw [e7.2.2]; exact IntWalk.i64_in _ (by omega)
        have w16' : IntKind.i64.wrap ((k : Int) - 16) = (i16 : Int) := by rw [e16.2.2]; exact IntWalk.i64_in _ (by omega)
        have w2' : IntKind.i64.wrap ((k : Int) - 2) = (i2 : Int) := by rw [e2.2.2]; exact IntWalk.i64_in _ (by omega)
        have w15' : IntKind.i64.wrap ((k : Int) - 15) = (i15 : Int) := by rw [e15.2.2]; exact IntWalk.i64_in _ (by omega)
        have z7a : (0 : Int) ≤ (i7 : Int) := by omega
        have z16a : (0 : Int) ≤ (i16 : Int) := by omega
        have z2a : (0 : Int) ≤ (i2 : Int) := by omega
        have z15a : (0 : Int) ≤ (i15 : Int) := by omega
        have z7b : (i7 : Int) < (k : Int) := by omega
        have z16b : (i16 : Int) < (k : Int) := by omega
        have z2b : (i2 : Int) < (k : Int) := by omega
        have z15b : (i15 : Int) < (k : Int) := by omega
        have HE := hid (And.intro e2 (And.intro e15 (And.intro e7 e16)))
        have HO := hid hown
        have HBE := hid hbel
        have hbs := hbel.size
        clear hown hbel e2 e15 e7 e16
        go_wp2_with fail
        clear d2 d15 y2 y15 w2' w15'
        have q7 := hid (fun w => refTurn_b x15 7 (by omega) (by omega) w)
        have q18 := hid (fun w => refTurn_b x15 18 (by omega) (by omega) w)
        have q17 := hid (fun w => refTurn_b x2 17 (by omega) (by omega) w)
        have q19 := hid (fun w => refTurn_b x2 19 (by omega) (by omega) w)
        have s0 : sh_spread x15 7 18 3 = x15.rotateRight 7 ^^^ x15.rotateRight 18 ^^^ (x15 >>> 3) := rfl
        have s1 : sh_spread x2 17 19 10 = x2.rotateRight 17 ^^^ x2.rotateRight 19 ^^^ (x2 >>> 10) := rfl
        have p3 := shr_quo x15 3
        have p10 := shr_quo x2 10
        have hx15 := x15.isLt
        have hx2 := x2.isLt
        have t3 : (x15.toNat : Int).tdiv 8 = ((x15 >>> 3).toNat : Int) := by rw [Int.tdiv_eq_ediv_of_nonneg (by omega), ← p3]; rfl
        have t10 : (x2.toNat : Int).tdiv 1024 = ((x2 >>> 10).toNat : Int) := by rw [Int.tdiv_eq_ediv_of_nonneg (by omega), ← p10]; rfl
        have hnx := next_num x16 (sh_spread x15 7 18 3) x7 (sh_spread x2 17 19 10)
        generalize x15.rotateRight 7 = r7 at *
        generalize x15.rotateRight 18 = r18 at *
        generalize x2.rotateRight 17 = r17 at *
        generalize x2.rotateRight 19 = r19 at *
        have b1 := b64_xor r7 r18
        have b3 := b64_xor r17 r19
        have b2 := b64_xor (r7 ^^^ r18) (x15 >>> 3)
        have b4 := b64_xor (r17 ^^^ r19) (x2 >>> 10)
        rw [← s0] at b2
        rw [← s1] at b4
        generalize x15 >>> 3 = q3 at *
        generalize x2 >>> 10 = q10 at *
        generalize r7 ^^^ r18 = y1 at *
        generalize r17 ^^^ r19 = y3 at *
        generalize sh_spread x15 7 18 3 = S0 at *
        generalize sh_spread x2 17 19 10 = S1 at *
        have HX := hid hnx
        have l16 := x16.isLt
        have l7 := x7.isLt
        have l0 := S0.isLt
        have l1 := S1.isLt
        have l3 := q3.isLt
        have l10 := q10.isLt
        obtain ⟨n1, n2, n3, hn1, hn2, hn3⟩ : ∃ n1 n2 n3, x16.toNat + S0.toNat = n1 ∧ n1 + x7.toNat = n2 ∧ n2 + S1.toNat = n3 := ⟨_, _, _, rfl, rfl, rfl⟩
        have a1 : IntKind.i64.wrap ((x16.toNat : Int) + (S0.toNat : Int)) = (n1 : Int) := by rw [IntWalk.i64_in _ (by omega)]; omega
        have a2 : IntKind.i64.wrap ((n1 : Int) + (x7.toNat : Int)) = (n2 : Int) := by rw [IntWalk.i64_in _ (by omega)]; omega
        have a3 : IntKind.i64.wrap ((n2 : Int) + (S1.toNat : Int)) = (n3 : Int) := by rw [IntWalk.i64_in _ (by omega)]; omega
        have a4 : IntKind.i64.wrap (q3.toNat : Int) = (q3.toNat : Int) := IntWalk.i64_in _ (by omega)
        have a5 : IntKind.i64.wrap (q10.toNat : Int) = (q10.toNat : Int) := IntWalk.i64_in _ (by omega)
        have HX2 : Hid (n3 % 4294967296 = (S1 + S0 + x7 + x16).toNat) := hid (by rw [← hn3, ← hn2, ← hn1]; exact HX.out)
        have qm := hid (fun w => refMod_any n3 w)
        rw [HX2.out] at qm
        generalize S1 + S0 + x7 + x16 = NX at *
        clear s0 s1 p3 p10 hnx hn1 hn2 hn3
        obtain ⟨hi0, hz0, hz1, hz2⟩ := HI.out
        go_region_held3 (fun w' => w'.cell? ⟨g7, i7, none⟩ = some (nW x7) ∧ w'.cell? ⟨g7, i16, none⟩ = some (nW x16)) (first | exact ⟨y7, y16⟩ | exact ⟨u7, u16⟩ | exact HC2.out _ ha | exact HC2.out _ hbb | exact HC2.out _ hcc | exact HC2.out _ hdd | exact HC2.out _ hee | go_keep)
          (first
            | (go_at_call_of 43 (Value.int .i64 7); refine (q7.out _).mono ?_; rintro e wa ⟨rfl, ha'⟩; have ha : Below wo.heap.size wo wa := ⟨ha'.os, ha'.tape, ha'.output, ha'.size, ha'.block⟩; clear ha')
            | (go_at_call_of 43 (Value.int .i64 18); refine (q18.out _).mono ?_; rintro e wb ⟨rfl, hb'⟩; have hbb := bel_trans ha hb'; clear hb')
            | (go_at_call_of 43 (Value.int .i64 17); refine (q17.out _).mono ?_; rintro e wc ⟨rfl, hc'⟩; have hcc := bel_trans hbb hc'; clear hc')
            | (go_at_call 43; refine (q19.out _).mono ?_; rintro e wd ⟨rfl, hd'⟩; have hdd := bel_trans hcc hd'; clear hd')
            | (go_at_call 42; refine (qm.out _).mono ?_; rintro e we ⟨rfl, rfl⟩; have hee := hdd)
            | (refine step_append_keep _ (by rfl) _ _ _ (by rfl) w1.heap.size 3 i0 _ 8 Try.underlying28 hi0 hz0 hz1 hz2 rfl g7 k c7 _ (by rfl) ((own_below HO.out hee).alloc _) (wd.heap.size + 1) (some ⟨wd.heap.size, 0, none⟩) 1 1 [nW NX] (by rfl) (by first | exact (Reads.new wd #[nW NX] _ 1 rfl).drew | exact Reads.new wd #[nW NX] _ 1 rfl) (oneCell_nw [NX]) (by omega) (by simp [maxLen]; omega) (by omega) (by have := hee.size; simp; omega) (k + 1) (by omega) ?_; intro A8 c8 w8 hown8 hkp8 hb8'; have hb8 : Below w1.heap.size wo w8 := (hee.mono hbs).trans (((Below.refl _ _).alloc (Nat.le_trans hbs hee.size) _).trans ⟨hb8'.os, hb8'.tape, hb8'.output, hb8'.size, hb8'.block⟩); clear hb8'; have u7 : w8.cell? ⟨g7, i7, none⟩ = some (nW x7) := (hkp8 i7 (by omega)).trans (by exact (HC2.out _ (bel_alloc hee _)).1); have u16 : w8.cell? ⟨g7, i16, none⟩ = some (nW x16) := (hkp8 i16 (by omega)).trans (by exact (HC2.out _ (bel_alloc hee _)).2)))
        have hown9 : w8.ownsRow w1.heap.size 3 1 (.slice A8 (k + 1) c8) (k + 1) ((wordsN p (k + 1)).map nW) := by rw [HN.out, List.map_append]; exact hown8
        have hb9 := HBE.out.trans hb8
        clear y7 y16 u7 u16 hown8 hb8 hkp8
        have HO9 := hid hown9
        have HB9 := hid hb9
        clear hown9 hb9
        go_wp2_with fail
        go_roundw
        case rel => exact ⟨k + 1, A8, c8, by omega, by go_num, rfl, HO9.out, HB9.out⟩
        case measure => simp [intOf]; omega
    · have hk64 : k = 64 := by omega
      subst hk64
      have HO := hid hown
      have HBE := hid hbel
      have hbs := hbel.size
      clear hown hbel
      obtain ⟨hi0, hz0, hz1, hz2⟩ := HI.out
      go_wp2_with (at_builtin; refine wpList_app _ rfl (.tmp 104) (.tmp 105) _ rfl wo.heap.size 3 i0 _ 1 8 Try.underlying28 hi0 hz0 hz1 hz2 rfl (by decide) (.slice none 0 0) 0 [] rfl (World.ownsRow_nil _ _ _ _) wo.heap.size V 8 d (v0.list.map nW) rfl ((HV.out.below HBE.out).more hbs) (oneCell_nw v0.list) (by simp [maxLen]) (by omega) (Nat.le_refl _) ?_; intro A5 c5 w5 hown5 hgr5 _)
      clear HB
      have HOW := hid (own_below HO.out (Below.refl _ _))
      obtain ⟨g7, hA7, hg7, hg7w⟩ := own_some HO.out (by omega)
      subst hA7
      obtain ⟨WL, hWL⟩ : ∃ L, wordsN p 64 = L := ⟨_, rfl⟩
      have HO7 : Hid (wo.ownsRow w1.heap.size 3 1 (.slice (some ⟨g7, 0, none⟩) 64 c7) 64 (WL.map nW)) := hid (by rw [← hWL]; exact HO.out)
      have HFULL : Hid (fullV p v0 = v0.plus (roundsN WL v0 64)) := hid (by unfold fullV; rw [hWL])
      have H5 := hid (show w5.ownsRow wo.heap.size 3 1 (.slice A5 8 c5) 8 (v0.list.map nW) by simpa using hown5)
      have HB5 : Hid (Below wo.heap.size wo w5) := hid ((Below.refl _ _).grown hgr5 (Nat.le_refl _) (fun k hk => by cases hk))
      clear hown5 hgr5 hWL HO HOW
      go_loopw [12, 11] (fun v12 v11 wr => ∃ (i : Nat) (AV : Option Addr) (cV : Nat), i ≤ 64 ∧ v12 = .int .i64 (i : Int) ∧ v11 = .slice AV 8 cV ∧ wr.ownsRow wo.heap.size 3 1 (.slice AV 8 cV) 8 ((roundsN WL v0 i).list.map nW) ∧ Below wo.heap.size wo wr) (fun v12 _ _ => 64 - (intOf v12).toNat)
      case atStart => exact ⟨0, A5, c5, by omega, rfl, rfl, H5.out, HB5.out⟩
      case round =>
        obtain ⟨i, AV, cV, hi, rfl, rfl, hown, hbel⟩ := hrel
        obtain ⟨gv, hAV, hgv, hgvw⟩ := own_some hown (by omega)
        subst hAV
        have HOV := hid hown
        have HBE2 := hid hbel
        by_cases hi2 : i < 64
        · have y0 : decide ((i : Int) < 64) = true := decide_eq_true (by omega)
          have z0 : (0 : Int) ≤ (i : Int) := Int.natCast_nonneg _
          have z1 : (i : Int) < 64 := by omega
          obtain ⟨adK, kB, hR1, hadK, hkB, hcK⟩ := (HRR.out.below (HBE.out.trans (hbel.mono hbs))).atM hi2
          subst hR1
          obtain ⟨wB, hwB, hcW, _⟩ := own_cellM HO7.out hi2
          have HNX := hid (show roundsN WL v0 (i + 1) = ⟨refX (roundsN WL v0 i) kB wB + refY (roundsN WL v0 i), (roundsN WL v0 i).a, (roundsN WL v0 i).b, (roundsN WL v0 i).c, (roundsN WL v0 i).d + refX (roundsN WL v0 i) kB wB, (roundsN WL v0 i).e, (roundsN WL v0 i).f, (roundsN WL v0 i).g⟩ by
            rw [← round_eq]
            show (roundsN WL v0 i).round (shaK.getD i 0 + WL.getD i 0) = _
            rw [List.getD_eq_getElem?_getD, List.getD_eq_getElem?_getD, hkB, hwB]
            rfl)
          have kR : wr.cell? ⟨w.heap.size, 1, none⟩ = some (.slice (some adK) 64 r1) := (HBLK.out.below (HBE.out.trans (hbel.mono hbs)) (by have := HS1.out; omega)).cellAt rfl
          have kK : wr.cell? (adK.add i) = some (nW kB) := hcK
          have kW : wr.cell? ⟨g7, i, none⟩ = some (nW wB) := (hbel.cell (p := ⟨g7, i, none⟩) hg7w).trans hcW
          have hX := x_num (roundsN WL v0 i) kB wB
          have hY := y_num (roundsN WL v0 i)
          generalize roundsN WL v0 i = S at *
          obtain ⟨a, b, c9, d9, e, f, g, h⟩ := S
          simp only at hX hY HNX
          have v0' : wr.cell? ⟨gv, 0, none⟩ = some (nW a) := own_cell0 hown 0 (by omega)
          have v1' : wr.cell? ⟨gv, 1, none⟩ = some (nW b) := own_cell0 hown 1 (by omega)
          have v2' : wr.cell? ⟨gv, 2, none⟩ = some (nW c9) := own_cell0 hown 2 (by omega)
          have v3' : wr.cell? ⟨gv, 3, none⟩ = some (nW d9) := own_cell0 hown 3 (by omega)
          have v4' : wr.cell? ⟨gv, 4, none⟩ = some (nW e) := own_cell0 hown 4 (by omega)
          have v5' : wr.cell? ⟨gv, 5, none⟩ = some (nW f) := own_cell0 hown 5 (by omega)
          have v6' : wr.cell? ⟨gv, 6, none⟩ = some (nW g) := own_cell0 hown 6 (by omega)
          have v7' : wr.cell? ⟨gv, 7, none⟩ = some (nW h) := own_cell0 hown 7 (by omega)
          generalize refX ⟨a, b, c9, d9, e, f, g, h⟩ kB wB = X at *
          generalize refY ⟨a, b, c9, d9, e, f, g, h⟩ = Y at *
          have hne := not_num e
          have hle := e.isLt
          generalize 4294967295#32 - e = NE at *
          have hnl := NE.isLt
          have ne1 := (wrN hne (by omega)).1
          have ne2 := (wrN hne (by omega)).2
          have q1 := hid (fun w => refMix_any e 6 11 25 (by omega) (by omega) (by omega) (by omega) (by omega) (by omega) w)
          have q2 := hid (fun w => refMix_any a 2 13 22 (by omega) (by omega) (by omega) (by omega) (by omega) (by omega) w)
          have f1 := b64_and e f
          have f2 := b64_and NE g
          have f3 := b64_or (e &&& f) (NE &&& g)
          have g1 := b64_and a b
          have g2 := b64_and a c9
          have g3 := b64_or (a &&& b) (a &&& c9)
          have g4 := b64_and b c9
          have g5 := b64_or ((a &&& b) ||| (a &&& c9)) (b &&& c9)
          generalize mixW e 6 11 25 = M at *
          generalize mixW a 2 13 22 = M2 at *
          generalize (e &&& f) ||| (NE &&& g) = F3 at *
          generalize e &&& f = F1 at *
          generalize NE &&& g = F2 at *
          generalize ((a &&& b) ||| (a &&& c9)) ||| (b &&& c9) = G5 at *
          generalize (a &&& b) ||| (a &&& c9) = G3 at *
          generalize a &&& b = G1 at *
          generalize a &&& c9 = G2 at *
          generalize b &&& c9 = G4 at *
          obtain ⟨n1, hn1, ln1, a1a, a1b⟩ := add_wr (x := h.toNat) (y := M.toNat) 4294967296 4294967296 h.isLt M.isLt (by decide)
          obtain ⟨n2, hn2, ln2, a2a, a2b⟩ := add_wr (x := n1) (y := F3.toNat) 8589934592 4294967296 ln1 F3.isLt (by decide)
          obtain ⟨n3, hn3, ln3, a3a, a3b⟩ := add_wr (x := n2) (y := kB.toNat) 12884901888 4294967296 ln2 kB.isLt (by decide)
          obtain ⟨n4, hn4, ln4, a4a, a4b⟩ := add_wr (x := n3) (y := wB.toNat) 17179869184 4294967296 ln3 wB.isLt (by decide)
          obtain ⟨m1, hm1, lm1, a5a, a5b⟩ := add_wr (x := M2.toNat) (y := G5.toNat) 4294967296 4294967296 M2.isLt G5.isLt (by decide)
          obtain ⟨s1, hs1, ls1, a6a, a6b⟩ := add_wr (x := X.toNat) (y := Y.toNat) 4294967296 4294967296 X.isLt Y.isLt (by decide)
          obtain ⟨s2, hs2, ls2, a7a, a7b⟩ := add_wr (x := d9.toNat) (y := X.toNat) 4294967296 4294967296 d9.isLt X.isLt (by decide)
          have hx' : n4 % 4294967296 = X.toNat := by rw [← hn4, ← hn3, ← hn2, ← hn1]; exact hX
          have hy' : m1 % 4294967296 = Y.toNat := by rw [← hm1]; exact hY
          have hz1' : s1 % 4294967296 = (X + Y).toNat := by rw [← hs1]; exact add_num X Y
          have hz2' : s2 % 4294967296 = (d9 + X).toNat := by rw [← hs2]; exact add_num d9 X
          have qm1 := hid (fun w => mod_still n4 X hx' w)
          have qm2 := hid (fun w => mod_still m1 Y hy' w)
          have qm3 := hid (fun w => mod_still s1 (X + Y) hz1' w)
          have qm4 := hid (fun w => mod_still s2 (d9 + X) hz2' w)
          generalize X + Y = XY at *
          generalize d9 + X = DX at *
          clear hX hY hne hn1 hn2 hn3 hn4 hm1 hs1 hs2 hx' hy' hz1' hz2' ln1 ln2 ln3 ln4 lm1 ls1 ls2 hle hnl hkB hwB hcW hcK hown hbel
          go_wp2_with fail
          go_quiet (first | (go_at_call 44; exact Calls.quiet_of (q1.out _)) | (go_at_call 42; exact Calls.quiet_of_same (qm1.out _)))
          go_wp2_with fail
          obtain ⟨wq, hw9⟩ : ∃ W, wr.drewN nq = W := ⟨_, rfl⟩
          have HQ : Hid (wr.drewN nq = wq) := hid hw9
          rw [hw9]
          clear hw9
          replace v0' : wq.cell? ⟨gv, 0, none⟩ = some (nW a) := by rw [← HQ.out]; exact v0'
          replace v1' : wq.cell? ⟨gv, 1, none⟩ = some (nW b) := by rw [← HQ.out]; exact v1'
          replace v2' : wq.cell? ⟨gv, 2, none⟩ = some (nW c9) := by rw [← HQ.out]; exact v2'
          replace v3' : wq.cell? ⟨gv, 3, none⟩ = some (nW d9) := by rw [← HQ.out]; exact v3'
          replace v4' : wq.cell? ⟨gv, 4, none⟩ = some (nW e) := by rw [← HQ.out]; exact v4'
          replace v5' : wq.cell? ⟨gv, 5, none⟩ = some (nW f) := by rw [← HQ.out]; exact v5'
          replace v6' : wq.cell? ⟨gv, 6, none⟩ = some (nW g) := by rw [← HQ.out]; exact v6'
          replace v7' : wq.cell? ⟨gv, 7, none⟩ = some (nW h) := by rw [← HQ.out]; exact v7'
          replace kR : wq.cell? ⟨w.heap.size, 1, none⟩ = some (.slice (some adK) 64 r1) := by rw [← HQ.out]; exact kR
          replace kK : wq.cell? (adK.add i) = some (nW kB) := by rw [← HQ.out]; exact kK
          replace kW : wq.cell? ⟨g7, i, none⟩ = some (nW wB) := by rw [← HQ.out]; exact kW
          have HBwq : Hid (Below wo.heap.size wo wq) := hid (by rw [← HQ.out]; exact below_drewN HBE2.out _)
          have HOwq : Hid (wq.ownsRow wo.heap.size 3 1 (.slice (some ⟨gv, 0, none⟩) 8 cV) 8 _) := hid (by rw [← HQ.out]; exact HOV.out)
          clear HQ
          go_quiet (first | (go_at_call 44; exact Calls.quiet_of (q2.out _)) | (go_at_call 42; exact Calls.quiet_of_same (qm2.out _)))
          go_wp2_with fail
          obtain ⟨wu, hw9⟩ : ∃ W, wq.drewN nq = W := ⟨_, rfl⟩
          have HQ : Hid (wq.drewN nq = wu) := hid hw9
          rw [hw9]
          clear hw9
          replace v0' : wu.cell? ⟨gv, 0, none⟩ = some (nW a) := by rw [← HQ.out]; exact v0'
          replace v1' : wu.cell? ⟨gv, 1, none⟩ = some (nW b) := by rw [← HQ.out]; exact v1'
          replace v2' : wu.cell? ⟨gv, 2, none⟩ = some (nW c9) := by rw [← HQ.out]; exact v2'
          replace v3' : wu.cell? ⟨gv, 3, none⟩ = some (nW d9) := by rw [← HQ.out]; exact v3'
          replace v4' : wu.cell? ⟨gv, 4, none⟩ = some (nW e) := by rw [← HQ.out]; exact v4'
          replace v5' : wu.cell? ⟨gv, 5, none⟩ = some (nW f) := by rw [← HQ.out]; exact v5'
          replace v6' : wu.cell? ⟨gv, 6, none⟩ = some (nW g) := by rw [← HQ.out]; exact v6'
          replace v7' : wu.cell? ⟨gv, 7, none⟩ = some (nW h) := by rw [← HQ.out]; exact v7'
          replace kR : wu.cell? ⟨w.heap.size, 1, none⟩ = some (.slice (some adK) 64 r1) := by rw [← HQ.out]; exact kR
          replace kK : wu.cell? (adK.add i) = some (nW kB) := by rw [← HQ.out]; exact kK
          replace kW : wu.cell? ⟨g7, i, none⟩ = some (nW wB) := by rw [← HQ.out]; exact kW
          have HBwu : Hid (Below wo.heap.size wo wu) := hid (by rw [← HQ.out]; exact below_drewN HBwq.out _)
          have HOwu : Hid (wu.ownsRow wo.heap.size 3 1 (.slice (some ⟨gv, 0, none⟩) 8 cV) 8 _) := hid (by rw [← HQ.out]; exact HOwq.out)
          clear HQ
          have hgvu : gv < wu.heap.size := Nat.lt_of_lt_of_le (World.block_lt_of_cell? wu _ v0') (Nat.le_refl _)
          have hbu := HBwu.out.size
          have HN8 : Hid (Reads (wu.alloc (.cells #[nW XY, nW a, nW b, nW c9, nW DX, nW e, nW f, nW g] 3)) (wu.heap.size + 1) 1 (some ⟨wu.heap.size, 0, none⟩) 8 ((⟨XY, a, b, c9, DX, e, f, g⟩ : Sh8).list.map nW)) := hid (Reads.new wu #[nW XY, nW a, nW b, nW c9, nW DX, nW e, nW f, nW g] 3 8 rfl)
          clear kR kK kW
          go_region_held3 (fun w' => w'.cell? ⟨gv, 0, none⟩ = some (nW a) ∧ w'.cell? ⟨gv, 1, none⟩ = some (nW b) ∧ w'.cell? ⟨gv, 2, none⟩ = some (nW c9) ∧ w'.cell? ⟨gv, 3, none⟩ = some (nW d9) ∧ w'.cell? ⟨gv, 4, none⟩ = some (nW e) ∧ w'.cell? ⟨gv, 5, none⟩ = some (nW f) ∧ w'.cell? ⟨gv, 6, none⟩ = some (nW g) ∧ w'.cell? ⟨gv, 7, none⟩ = some (nW h)) (first | exact ⟨v0', v1', v2', v3', v4', v5', v6', v7'⟩ | exact ⟨u0, u1, u2, u3, u4, u5, u6, u7⟩ | go_keep)
            (first
              | (go_at_call_of 42 (Value.int .i64 (s1 : Int)); refine (qm3.out _).mono ?_; rintro e9 we ⟨rfl, rfl⟩)
              | (go_at_call 42; refine (qm4.out _).mono ?_; rintro e9 we ⟨rfl, rfl⟩)
              | (refine step_append_src _ (by rfl) _ _ _ (by rfl) wu.heap.size 3 i0 _ 1 8 Try.underlying28 hi0 hz0 hz1 hz2 rfl (by decide) (.slice none 0 0) 0 [] (by rfl) (World.ownsRow_nil _ _ _ _) (wu.heap.size + 1) (some ⟨wu.heap.size, 0, none⟩) 8 8 ((⟨XY, a, b, c9, DX, e, f, g⟩ : Sh8).list.map nW) (by rfl) (by first | exact HN8.out | exact HN8.out.drew) (oneCell_nw _) (by simp [maxLen]) (by omega) (by first | (simp; done) | (simp [World.drew]; done)) 8 (by rfl) ?_; intro A6 c6 w6 hown6 _ hb6'; have hb6 : Below wu.heap.size wu w6 := ((Below.refl _ _).alloc (Nat.le_refl _) _).trans ⟨hb6'.os, hb6'.tape, hb6'.output, hb6'.size, hb6'.block⟩; clear hb6'; have u0 := (hb6.cell (p := ⟨gv, 0, none⟩) hgvu).trans v0'; have u1 := (hb6.cell (p := ⟨gv, 1, none⟩) hgvu).trans v1'; have u2 := (hb6.cell (p := ⟨gv, 2, none⟩) hgvu).trans v2'; have u3 := (hb6.cell (p := ⟨gv, 3, none⟩) hgvu).trans v3'; have u4 := (hb6.cell (p := ⟨gv, 4, none⟩) hgvu).trans v4'; have u5 := (hb6.cell (p := ⟨gv, 5, none⟩) hgvu).trans v5'; have u6 := (hb6.cell (p := ⟨gv, 6, none⟩) hgvu).trans v6'; have u7 := (hb6.cell (p := ⟨gv, 7, none⟩) hgvu).trans v7'))
          clear v0' v1' v2' v3' v4' v5' v6' v7' u0 u1 u2 u3 u4 u5 u6 u7 HN8
          have HF6 : Hid (w6.ownsRow wo.heap.size 3 1 (.slice A6 8 c6) 8 ((⟨XY, a, b, c9, DX, e, f, g⟩ : Sh8).list.map nW)) := hid (own_mono (by simpa using hown6) hbu)
          have HG6 : Hid (Below wo.heap.size wo w6) := hid (HBwu.out.trans (hb6.mono hbu))
          clear hown6 hb6
          go_wp2_with fail
          go_roundw
          case rel => exact ⟨i + 1, A6, c6, by omega, by go_num, rfl, by rw [HNX.out]; exact HF6.out, HG6.out⟩
          case measure => simp [intOf]; omega
        · have hi64 : i = 64 := by omega
          have y0 : decide ((i : Int) < 64) = false := decide_eq_false (by omega)
          have HFULL : Hid (fullV p v0 = v0.plus (roundsN WL v0 i)) := hid (by rw [hi64]; exact HFULL.out)
          obtain ⟨SV, hSV⟩ : ∃ S, roundsN WL v0 i = S := ⟨_, rfl⟩
          clear hi64 hi2
          rw [hSV] at HFULL HOV
          obtain ⟨FV, hFV⟩ : ∃ S, fullV p v0 = S := ⟨_, rfl⟩
          rw [hFV] at HFULL
          have HFV := hid hFV
          obtain ⟨ww, rfl⟩ : ∃ W : World, W = wr := ⟨_, rfl⟩
          have hbw := HBE2.out.size
          clear hSV hFV hown hbel
          go_wp2_with fail
          go_loopw [18, 17] (fun v18 v17 wr => ∃ (k : Nat) (AO : Option Addr) (cO : Nat), k ≤ 8 ∧ v18 = .int .i64 (k : Int) ∧ v17 = .slice AO k cO ∧ wr.ownsRow ww.heap.size 3 1 (.slice AO k cO) k ((FV.list.take k).map nW) ∧ Below ww.heap.size ww wr) (fun v18 _ _ => 8 - (intOf v18).toNat)
          case atStart => exact ⟨0, none, 0, by omega, rfl, rfl, World.ownsRow_nil _ _ _ _, Below.refl _ _⟩
          case round =>
            obtain ⟨k, AO, cO, hk, rfl, rfl, hown, hbel⟩ := hrel
            have HOO := hid hown
            have HBO := hid hbel
            by_cases hk8 : k < 8
            · have y0 : decide ((k : Int) < 8) = true := decide_eq_true (by omega)
              have z0 : (0 : Int) ≤ (k : Int) := Int.natCast_nonneg _
              have z1 : (k : Int) < 8 := by omega
              have HBA := hid (HBE.out.trans ((HBE2.out.trans (hbel.mono hbw)).mono hbs))
              obtain ⟨adV, x, hV1, hadV, hx, hcx⟩ := (HV.out.below HBA.out).atM hk8
              subst hV1
              obtain ⟨y, hy, hcy0, _⟩ := own_cellM HOV.out hk8
              have hcy : wr.cell? ⟨gv, k, none⟩ = some (nW y) := (hbel.cell (p := ⟨gv, k, none⟩) hgvw).trans hcy0
              have hxy := plus_get v0 SV k x y hx hy
              rw [← HFULL.out] at hxy
              have HNX := hid (show FV.list.take (k + 1) = FV.list.take k ++ [x + y] by rw [List.take_add_one, hxy]; rfl)
              obtain ⟨s1, hs1, ls1, a1a, a1b⟩ := add_wr (x := x.toNat) (y := y.toNat) 4294967296 4294967296 x.isLt y.isLt (by decide)
              have qm := hid (fun w => mod_still s1 (x + y) (by rw [← hs1]; exact add_num x y) w)
              generalize x + y = XY at *
              clear hxy hs1 ls1 hx hy hown hbel hcy0
              go_wp2_with fail
              have hbt := HBO.out.size
              have hadw : adV.block < ww.heap.size := by omega
              have hw9 := hgvw
              go_region_held3 (fun w' => w'.cell? (adV.add k) = some (nW x) ∧ w'.cell? ⟨gv, k, none⟩ = some (nW y)) (first | exact ⟨hcx, hcy⟩ | exact ⟨u0, u1⟩ | go_keep)
                (first
                  | (go_at_call 42; refine (qm.out _).mono ?_; rintro e9 we ⟨rfl, rfl⟩)
                  | (refine step_append_src _ (by rfl) _ _ _ (by rfl) ww.heap.size 3 i0 _ 1 8 Try.underlying28 hi0 hz0 hz1 hz2 rfl (by decide) (.slice AO k cO) k ((FV.list.take k).map nW) (by rfl) (by first | exact HOO.out.alloc _ | exact (HOO.out.alloc _).drew) (wr.heap.size + 1) (some ⟨wr.heap.size, 0, none⟩) 1 1 [nW XY] (by rfl) (by first | exact Reads.new wr #[nW XY] 3 1 rfl | exact (Reads.new wr #[nW XY] 3 1 rfl).drew) (oneCell_nw [XY]) (by simp [maxLen]; omega) (by omega) (by first | (simp; omega) | (simp [World.drew]; omega)) (k + 1) (by rfl) ?_; intro A6 c6 w6 hown6 _ hb6'; have hb6 : Below ww.heap.size wr w6 := ((Below.refl _ _).alloc hbt _).trans ⟨hb6'.os, hb6'.tape, hb6'.output, hb6'.size, hb6'.block⟩; clear hb6'; have u0 := (hb6.cell (p := adV.add k) (by rw [block_add]; exact hadw)).trans hcx; have u1 := (hb6.cell (p := ⟨gv, k, none⟩) hgvw).trans hcy))
              clear hcx hcy u0 u1
              have HF6 : Hid (w6.ownsRow ww.heap.size 3 1 (.slice A6 (k + 1) c6) (k + 1) ((FV.list.take (k + 1)).map nW)) := hid (by rw [HNX.out, List.map_append]; exact hown6)
              have HG6 : Hid (Below ww.heap.size ww w6) := hid (HBO.out.trans hb6)
              clear hown6 hb6
              go_wp2_with fail
              go_roundw
              case rel => exact ⟨k + 1, A6, c6, by omega, by go_num, rfl, HF6.out, HG6.out⟩
              case measure => simp [intOf]; omega
            · have hk9 : k = 8 := by omega
              subst hk9
              have HFN := hid (show wr.ownsRow w.heap.size 3 1 (.slice AO 8 cO) 8 (FV.list.map nW) from own_mono (by have h9 := HOO.out; rw [List.take_of_length_le (Nat.le_of_eq (list8 _ FV rfl))] at h9; exact h9) (by have := HS1.out; omega))
              have HBN := hid (HB1.out.trans ((HBE.out.trans ((HBE2.out.trans (HBO.out.mono hbw)).mono hbs)).mono (by have := HS1.out; omega)))
              clear hown hbel HOO HBO
              go_wp2_with fail
              go_ret
              exact ⟨AO, cO, rfl, by rw [HFV.out]; exact HFN.out, HBN.out⟩
end Go.Proofs.Ytojffpfgmlegdaa
