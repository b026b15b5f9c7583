/-
  ShaOwn: bytes that were written may change then: the digest is that of what they were; a digest that was told stays as it is when more is written. For every input.
-/
import Derived.Test.YtojffpfgmlegdaaShaPieces
import Derived.Test.YtojffpfgmlegdaaStepApp
import Derived.Deep.MidRow
import Derived.IntWalk
import Derived.Deep.RegionHeld3
import Derived.Deep.RegionLaw
namespace Go.Proofs.Ytojffpfgmlegdaa
open Go.RowKit Go.ChangeShapes Go.WideShapes Go.ChangeAt

theorem rangeOf {w : World} {g : Nat} {t : TypeId} {cs : List Value} (h : w.heap[g]? = some (.cells cs.toArray t (0, 0))) : ∀ w', Below w.heap.size w w' → w'.rangeAt g 0 cs := fun w' hb j v hv => by
  have h2 := (hb.block g (Array.getElem?_eq_some_iff.1 h).1).trans h
  rw [cell_of_row w' g (0 + j) _ t (0, 0) h2]
  simpa using hv
theorem lcf (w : World) (g : Nat) (cs : List Value) (h : w.rangeAt g 0 cs) (hl : cs.length = 32) : (loadCellsFrom ⟨g, 0, none⟩ 0 32 #[]).run Try.prog w = .ok cs.toArray w := by
  have := run_loadCells_list (P := Try.prog) w ⟨g, 0, none⟩ cs (fun j v hv => by
    rw [add_none]
    exact h j v hv)
  rw [hl] at this
  simpa [loadCells] using this
theorem list32 (l : List Value) (h : l.length = 32) : ∃ z0 z1 z2 z3 z4 z5 z6 z7 z8 z9 z10 z11 z12 z13 z14 z15 z16 z17 z18 z19 z20 z21 z22 z23 z24 z25 z26 z27 z28 z29 z30 z31 : Value, l = [z0, z1, z2, z3, z4, z5, z6, z7, z8, z9, z10, z11, z12, z13, z14, z15, z16, z17, z18, z19, z20, z21, z22, z23, z24, z25, z26, z27, z28, z29, z30, z31] := by
  match l, h with
  | [z0, z1, z2, z3, z4, z5, z6, z7, z8, z9, z10, z11, z12, z13, z14, z15, z16, z17, z18, z19, z20, z21, z22, z23, z24, z25, z26, z27, z28, z29, z30, z31], _ => exact ⟨_, _, _, _, _, _, _, _, _, _, _, _, _, _, _, _, _, _, _, _, _, _, _, _, _, _, _, _, _, _, _, _, rfl⟩
theorem cells32 {w : World} {g : Nat} {z0 z1 z2 z3 z4 z5 z6 z7 z8 z9 z10 z11 z12 z13 z14 z15 z16 z17 z18 z19 z20 z21 z22 z23 z24 z25 z26 z27 z28 z29 z30 z31 : Value} (h : w.rangeAt g 0 [z0, z1, z2, z3, z4, z5, z6, z7, z8, z9, z10, z11, z12, z13, z14, z15, z16, z17, z18, z19, z20, z21, z22, z23, z24, z25, z26, z27, z28, z29, z30, z31]) : w.cell? ⟨g, 0, none⟩ = some z0 ∧ w.cell? ⟨g, 1, none⟩ = some z1 ∧ w.cell? ⟨g, 2, none⟩ = some z2 ∧ w.cell? ⟨g, 3, none⟩ = some z3 ∧ w.cell? ⟨g, 4, none⟩ = some z4 ∧ w.cell? ⟨g, 5, none⟩ = some z5 ∧ w.cell? ⟨g, 6, none⟩ = some z6 ∧ w.cell? ⟨g, 7, none⟩ = some z7 ∧ w.cell? ⟨g, 8, none⟩ = some z8 ∧ w.cell? ⟨g, 9, none⟩ = some z9 ∧ w.cell? ⟨g, 10, none⟩ = some z10 ∧ w.cell? ⟨g, 11, none⟩ = some z11 ∧ w.cell? ⟨g, 12, none⟩ = some z12 ∧ w.cell? ⟨g, 13, none⟩ = some z13 ∧ w.cell? ⟨g, 14, none⟩ = some z14 ∧ w.cell? ⟨g, 15, none⟩ = some z15 ∧ w.cell? ⟨g, 16, none⟩ = some z16 ∧ w.cell? ⟨g, 17, none⟩ = some z17 ∧ w.cell? ⟨g, 18, none⟩ = some z18 ∧ w.cell? ⟨g, 19, none⟩ = some z19 ∧ w.cell? ⟨g, 20, none⟩ = some z20 ∧ w.cell? ⟨g, 21, none⟩ = some z21 ∧ w.cell? ⟨g, 22, none⟩ = some z22 ∧ w.cell? ⟨g, 23, none⟩ = some z23 ∧ w.cell? ⟨g, 24, none⟩ = some z24 ∧ w.cell? ⟨g, 25, none⟩ = some z25 ∧ w.cell? ⟨g, 26, none⟩ = some z26 ∧ w.cell? ⟨g, 27, none⟩ = some z27 ∧ w.cell? ⟨g, 28, none⟩ = some z28 ∧ w.cell? ⟨g, 29, none⟩ = some z29 ∧ w.cell? ⟨g, 30, none⟩ = some z30 ∧ w.cell? ⟨g, 31, none⟩ = some z31 :=
  ⟨by have := h 0 z0 rfl; rwa [Nat.zero_add] at this, by have := h 1 z1 rfl; rwa [Nat.zero_add] at this, by have := h 2 z2 rfl; rwa [Nat.zero_add] at this, by have := h 3 z3 rfl; rwa [Nat.zero_add] at this, by have := h 4 z4 rfl; rwa [Nat.zero_add] at this, by have := h 5 z5 rfl; rwa [Nat.zero_add] at this, by have := h 6 z6 rfl; rwa [Nat.zero_add] at this, by have := h 7 z7 rfl; rwa [Nat.zero_add] at this, by have := h 8 z8 rfl; rwa [Nat.zero_add] at this, by have := h 9 z9 rfl; rwa [Nat.zero_add] at this, by have := h 10 z10 rfl; rwa [Nat.zero_add] at this, by have := h 11 z11 rfl; rwa [Nat.zero_add] at this, by have := h 12 z12 rfl; rwa [Nat.zero_add] at this, by have := h 13 z13 rfl; rwa [Nat.zero_add] at this, by have := h 14 z14 rfl; rwa [Nat.zero_add] at this, by have := h 15 z15 rfl; rwa [Nat.zero_add] at this, by have := h 16 z16 rfl; rwa [Nat.zero_add] at this, by have := h 17 z17 rfl; rwa [Nat.zero_add] at this, by have := h 18 z18 rfl; rwa [Nat.zero_add] at this, by have := h 19 z19 rfl; rwa [Nat.zero_add] at this, by have := h 20 z20 rfl; rwa [Nat.zero_add] at this, by have := h 21 z21 rfl; rwa [Nat.zero_add] at this, by have := h 22 z22 rfl; rwa [Nat.zero_add] at this, by have := h 23 z23 rfl; rwa [Nat.zero_add] at this, by have := h 24 z24 rfl; rwa [Nat.zero_add] at this, by have := h 25 z25 rfl; rwa [Nat.zero_add] at this, by have := h 26 z26 rfl; rwa [Nat.zero_add] at this, by have := h 27 z27 rfl; rwa [Nat.zero_add] at this, by have := h 28 z28 rfl; rwa [Nat.zero_add] at this, by have := h 29 z29 rfl; rwa [Nat.zero_add] at this, by have := h 30 z30 rfl; rwa [Nat.zero_add] at this, by have := h 31 z31 rfl; rwa [Nat.zero_add] at this⟩
section
variable {P : Program} (w : World)
theorem step_srcD {ops : Array Oper} {o : Oper} {a : Act} {K : Act → World → Prop} {Q : Exit → Act → World → Prop} {E : Prop} (dd : Nat) (hdst : o.dst = some dd) (hw : Region.wanted o (yielded ops a.tmps) = true) (s x : Operand) (t : TypeId)
    (ho : o.op = .call { callee := .builtin .append, args := #[s, x], argTypes := #[t, t] })
    (base : Nat) (e : TypeId) (i : TypeInfo) (z : Value) (size bytes : Nat) (ht : P.underlying t = some (.slice e)) (hi : P.info? e = some i) (hz : i.zero = some z)
    (hsize : i.size = size) (hby : i.bytes = bytes) (hzs : z.cells.size = size) (hsz : 0 < size)
    (v : Value) (n : Nat) (xs : List Value) (hs : a.eval s = v) (hown : w.ownsRow base e size v n xs)
    (B : Nat) (A : Option Addr) (m c : Nat) (news : List Value) (hx : a.eval x = .slice A m c) (hr : Reads w B size A m news) (h1 : ∀ u ∈ news, u.oneCell' = true)
    (h63 : n + m ≤ maxLen) (hbytes : (n + m) * bytes ≤ 140737488355328) (hbase : base ≤ w.heap.size) (N : Nat) (hN : n + m = N)
    (h : ∀ A' c' w', w'.ownsRow base e size (.slice A' N c') N (xs ++ news) → w.grownBy w' v.ownBlock → Below base w w' → K (a.put (some dd) (.slice A' N c')) w') :
    if Region.wanted o (yielded ops a.tmps) = true then Oper.wp P o a w K Q else E :=
  step_append_srcG w hw s x t ho base e i z size bytes ht hi hz hsize hby hzs hsz v n xs hs hown B A m c news hx hr h1 h63 hbytes hbase N hN (fun A' c' w' a1 a2 a3 => by rw [hdst]; exact h A' c' w' a1 a2 a3)
theorem step_copyD {ops : Array Oper} {o : Oper} {a : Act} {K : Act → World → Prop} {Q : Exit → Act → World → Prop} {E : Prop} (dd : Nat) (hdst : o.dst = some dd) (hw : Region.wanted o (yielded ops a.tmps) = true) (s x : Operand) (t : TypeId)
    (ho : o.op = .call { callee := .builtin .append, args := #[s, x], argTypes := #[t, t] })
    (e : TypeId) (i : TypeInfo) (z : Value) (size bytes : Nat) (ht : P.underlying t = some (.slice e)) (hi : P.info? e = some i) (hz : i.zero = some z)
    (hsize : i.size = size) (hby : i.bytes = bytes) (hzs : z.cells.size = size) (hsz : 0 < size)
    (hs : a.eval s = .slice (some ⟨w.heap.size, 0, none⟩) 0 0)
    (A : Option Addr) (m c : Nat) (news : List Value) (hx : a.eval x = .slice A m c) (hr : Reads w w.heap.size size A m news) (h1 : ∀ u ∈ news, u.oneCell' = true)
    (h63 : m ≤ maxLen) (hbytes : m * bytes ≤ 140737488355328)
    (h : ∀ A' c' w', w'.ownsRow w.heap.size e size (.slice A' m c') m news → Below w.heap.size w w' → K (a.put (some dd) (.slice A' m c')) w') :
    if Region.wanted o (yielded ops a.tmps) = true then Oper.wp P o a (w.alloc (.cells #[] e)) K Q else E :=
  step_copyG w hw s x t ho e i z size bytes ht hi hz hsize hby hzs hsz hs A m c news hx hr h1 h63 hbytes (fun A' c' w' a1 a2 => by rw [hdst]; exact h A' c' w' a1 a2)
end
theorem tk_first {P : Program} {ops : Array Oper} {Q : Exit → Act → World → Prop} {md : Region.Mode} {S : World → Prop} (i d : Nat) {oi : Oper} {v : Value} {fuel : Nat} {listed : Array Bool} {a : Act} {w : World} (hi : ops[i]? = some oi) (hd : oi.dst = some d)
    (hs : Region.noSelect ops = true) (hf : Region.free md ops listed i = true) (hr : (Region.ready md ops listed).contains i = true)
    (hQ : ∀ c a w, Q (.panic c) (a.put oi.dst v) w → Q (.panic c) a w) (hy : YieldsIf P ops S oi v a) (hS : S w)
    (h : wpAnyH P md ops Q S fuel (listed.setIfInBounds i true) (a.put (some d) v) w) : wpAnyH P md ops Q S (fuel + 1) listed a w :=
  wpAnyH_take hi hs hf hr hQ hy hS (by rw [hd]; exact h)
theorem sh_own_grown2 {w w' : World} {base g : Nat} {e : TypeId} {size : Nat} {v : Value} {n : Nat} {xs : List Value} (h : w.ownsRow base e size v n xs) (hg : w.grownBy w' (some g)) (hne : v.ownBlock ≠ some g) : w'.ownsRow base e size v n xs := by
  refine ⟨h.1, ?_⟩
  rcases h.2 with h2 | ⟨g', cap, cur, hv, hg', hh, r⟩
  · exact .inl h2
  · subst hv
    exact .inr ⟨g', cap, cur, rfl, hg', (hg.block g' (Array.getElem?_eq_some_iff.1 hh).1 hne).trans hh, r⟩
set_option maxRecDepth 20000 in
set_option maxHeartbeats 40000000 in
theorem shaOwn_any (A : Option Addr) (n c : Nat) (xs : List UInt8) (B : Option Addr) (m d : Nat) (ys : List UInt8) (w : World) (hr : Reads w w.heap.size 1 A n (xs.map bV)) (hs : Reads w w.heap.size 1 B m (ys.map bV)) (hc : c ≤ maxLen) (hd : d ≤ maxLen) (hnc : n ≤ c) (hmd : m ≤ d) :
    Calls Try.prog 6 #[.slice A n c, .slice B m d] w fun e w' => e = .returned (.bool true) ∧ Below w.heap.size w w' := by
  unfold maxLen at hc hd
  by_cases hn : 500 < n
  · go_enter Try.func6, Try.ntmps6
    go_wp2_with fail
    refine (shaWakes_any w).mono ?_
    rintro e w0 ⟨rfl, hb0⟩
    have hn' : decide ((500 : Int) < (n : Int)) = true := by simp; omega
    go_wp2_with fail
    go_ret
    exact ⟨rfl, hb0⟩
  by_cases hm : 500 < m
  · go_enter Try.func6, Try.ntmps6
    go_wp2_with fail
    refine (shaWakes_any w).mono ?_
    rintro e w0 ⟨rfl, hb0⟩
    have hn' : decide ((500 : Int) < (n : Int)) = false := by simp; omega
    have hm' : decide ((500 : Int) < (m : Int)) = true := by simp; omega
    go_wp2_with fail
    go_ret
    exact ⟨rfl, hb0⟩
  have hn' : decide ((500 : Int) < (n : Int)) = false := by simp; omega
  have hm' : decide ((500 : Int) < (m : Int)) = false := by simp; omega
  have hxl : xs.length = n := by simpa using hr.len
  have hyl : ys.length = m := by simpa using hs.len
  have HXL := hid hxl
  have HYL := hid hyl
  clear hxl hyl
  go_enter Try.func6, Try.ntmps6
  go_wp2_with fail
  refine (shaWakes_any w).mono ?_
  rintro e w0 ⟨rfl, hb0⟩
  have HR := hid (hr.belowS hb0)
  have HS := hid (hs.belowS hb0)
  have hrs := hr.belowS hb0
  clear hr hs
  go_wp2_with (at_builtin; refine copyB _ rfl _ _ rfl rfl A n c xs rfl (by exact hrs) (by omega) ?_; intro A1 c1 w1 hown1 hb1)
  have hsw1 := hb1.size
  obtain ⟨gh, hgh⟩ : ∃ gh, w1.heap.size = gh := ⟨_, rfl⟩
  have hA1 : ∀ g1, (Value.slice A1 n c1).ownBlock = some g1 → w0.heap.size ≤ g1 ∧ g1 < gh := fun g1 h => by rw [← hgh]; exact hown1.lt g1 h
  have hA1n : (Value.slice A1 n c1).ownBlock ≠ some gh := fun h => by have := (hA1 gh h).2; omega
  refine (sh_new_any w1).mono ?_
  rintro e w2 ⟨rfl, hx2, hb2⟩
  have hown2 := own_below hown1 hb2
  rw [hgh] at hx2 hsw1 ⊢
  have hsw2 := hx2.lt
  have HB2 := hid (hb1.trans (hb2.mono (by omega)))
  have HNE := hid hA1n
  have HA1 := hid hA1
  have HGH := hid hgh
  clear hrs hb1 hb2 hown1 hgh hA1 hA1n
  go_wp2_with fail
  refine (sh_write_any gh shNew A1 n c1 xs w2 hx2 shNew_part (Reads.of_own hown2) (by show 0 + n ≤ _; omega) (fun ad h h0 => by
    obtain ⟨g1, e1, _, _⟩ := own_some hown2 h0
    rw [h] at e1
    injection e1 with e1
    subst e1
    have := (HA1.out g1 (by rw [h]; rfl)).2
    show g1 ≠ gh
    omega)).mono ?_
  rintro e w3 ⟨rfl, hx3, hg3⟩
  have hown3 := sh_own_grown2 hown2 hg3 HNE.out
  have hbel3 := HB2.out.grown hg3 (by omega) (fun k hk => by injection hk with hk; omega)
  obtain ⟨S1, hS1⟩ : ∃ S1, shNew.write xs = S1 := ⟨_, rfl⟩
  rw [hS1] at hx3
  have HS1 := hid hS1
  have hnc1 := (own_cap hown3).1
  have hcm1 := (own_cap hown3).2
  unfold maxLen at hcm1
  clear hx2 hg3 hown2 hS1
  go_wp2_with fail
  go_loopw [29] (fun v29 wr => ∃ (k : Nat) (zs : List UInt8), k ≤ n ∧ v29 = .int .i64 (k : Int) ∧ wr.ownsRow w0.heap.size 5 1 (.slice A1 n c1) n (zs.map bV) ∧ Blk wr gh 62 (shaC S1) ∧ Below w0.heap.size w0 wr) (fun v29 _ => n - (intOf v29).toNat)
  case atStart => exact ⟨0, xs, Nat.zero_le _, rfl, hown3, hx3, hbel3⟩
  case round =>
    clear hown3 hx3 hbel3
    obtain ⟨k, zs, hk, rfl, hown, hx, hbel⟩ := hrel
    by_cases hkn : k < n
    · obtain ⟨g1, rfl, hg1, hg1w⟩ := own_some hown (by omega)
      obtain ⟨z, hz, hcell, hfr⟩ := own_cellM hown hkn
      have hst := own_storeM hown k (z + 1)
      have hgn : gh ≠ g1 := by have := (HA1.out g1 rfl).2; omega
      have hx' := hx.far (p := ⟨g1, k, none⟩) hgn (bV (z + 1))
      have hbel' := hbel.trans hst.2
      have hzv : ((z.toNat : Int) + 1) % 256 = ((z + 1).toNat : Int) := by
        rw [UInt8.toNat_add]; simp
      have K1 := hid hst.1
      have K2 := hid hx'
      have K3 := hid hbel'
      clear hst hx' hbel' hown hx hbel hz
      generalize z + 1 = z1 at *
      go_wp2_with fail
      go_roundw
      case rel => exact ⟨k + 1, _, by omega, by go_num, K1.out, K2.out, K3.out⟩
      case measure => simp [intOf]; omega
    · obtain rfl : k = n := by omega
      have HOWN := hid hown
      have HX := hid hx
      have HBL := hid hbel
      clear hown hx hbel
      obtain ⟨Z, hZ⟩ : ∃ Z, ((shaOf xs).map bV).toArray = Z := ⟨_, rfl⟩
      have hZs : Z.size = 32 := by rw [← hZ]; rfl
      have hZ1 : Z.all (·.oneCell') = true := by rw [← hZ]; exact oneCell_by _
      have hZi : (Try.prog.info? 24).map (·.size) = some Z.size := by rw [← hZ]; exact sh_info32 _ (by simp [shaOf_len])
      have heq : ∀ w, (Op.equalIn 10000 24 (.agg Z) (.agg Z)).run Try.prog w = .ok true w := fun w => by
        rw [← hZ, eqArr (shaOf xs) (shaOf xs) rfl rfl w]; simp
      obtain ⟨ZL, hZL⟩ : ∃ ZL : List Value, Z = ZL.toArray := ⟨Z.toList, by simp⟩
      subst hZL
      obtain ⟨Y, hY⟩ : ∃ Y, ((shaOf (xs ++ ys)).map bV).toArray = Y := ⟨_, rfl⟩
      have heqY : ∀ w, (Op.equalIn 10000 24 (.agg Y) (.agg Y)).run Try.prog w = .ok true w := fun w => by
        rw [← hY, eqArr (shaOf (xs ++ ys)) (shaOf (xs ++ ys)) rfl rfl w]; simp
      have hS1p : S1.part.length = 64 := by rw [← HS1.out]; exact sh_write_part _ _ shNew_part
      have hS1n : S1.n = k := by rw [← HS1.out, sh_write_new_n, HXL.out]
      have HSum1 := hid (fun w h => sh_sum_any gh S1 w h hS1p (by omega))
      rw [show S1.sum = shaOf xs by rw [← HS1.out]; rfl, hZ] at HSum1
      obtain ⟨S2, hS2⟩ : ∃ S2, S1.write ys = S2 := ⟨_, rfl⟩
      have hS2e : S2 = shNew.write (xs ++ ys) := by rw [← hS2, ← HS1.out, sh_write_append]
      have hS2p : S2.part.length = 64 := by rw [hS2e]; exact sh_write_part _ _ shNew_part
      have hS2n : S2.n = k + m := by rw [hS2e, sh_write_new_n, List.length_append, HXL.out, HYL.out]
      have HSum2 := hid (fun w h => sh_sum_any gh S2 w h hS2p (by omega))
      rw [show S2.sum = shaOf (xs ++ ys) by rw [hS2e]; rfl, hY] at HSum2
      have HLong := hid (fun w h => sh_long_any gh S2 w h hS2p)
      rw [hS2n] at HLong
      have HWr := hid (fun w h hr => sh_write_any gh S1 B m d ys w h hS1p hr (by omega) (fun ad h h0 => by
        obtain ⟨ad2, e2, hlt, _⟩ := HS.out.form h0
        rw [h] at e2
        injection e2 with e2
        subst e2
        omega))
      rw [hS2] at HWr
      have HOf1 := hid (fun w h => sh_of_any A k c xs w h (by omega))
      rw [hZ] at HOf1
      have HOf2 := hid (fun A c w h => sh_of_any A (k + m) c (xs ++ ys) w h (by omega))
      rw [hY] at HOf2
      clear hZ hY hS1p hS1n hS2 hS2e hS2p hS2n
      go_wp2_with fail
      refine (HSum1.out wr HX.out).mono ?_
      rintro e w5 ⟨rfl, hb5⟩
      have hx5 := HX.out.belowS hb5
      have hbl5 := bel_trans HBL.out hb5
      obtain ⟨w6, hw6, hsz6, hb6, hblk6⟩ : ∃ w6 : World, w5.alloc (.cells ZL.toArray 24) = w6 ∧ w6.heap.size = w5.heap.size + 1 ∧ Below w5.heap.size w5 w6 ∧ w6.heap[w5.heap.size]? = some (.cells ZL.toArray 24 (0, 0)) :=
        ⟨_, rfl, by simp, (Below.refl _ _).alloc (Nat.le_refl _) _, heap_alloc_new w5 _⟩
      obtain ⟨w7, hw7, hsz7, hb7, hblk7⟩ : ∃ w7 : World, w6.alloc (.cells ZL.toArray 24) = w7 ∧ w7.heap.size = w6.heap.size + 1 ∧ Below w6.heap.size w6 w7 ∧ w7.heap[w6.heap.size]? = some (.cells ZL.toArray 24 (0, 0)) :=
        ⟨_, rfl, by simp, (Below.refl _ _).alloc (Nat.le_refl _) _, heap_alloc_new w6 _⟩
      have hz := zero32A_run
      have hzs := zero32A_size
      have H6 := hid hw6
      have H7 := hid hw7
      have HB6 := hid hblk6
      have HX7 := hid ((hx5.belowS hb6).belowS hb7)
      have HBL7 := hid (bel_trans (bel_trans hbl5 hb6) hb7)
      have HD8 := hid ((hb7.block _ (by omega)).trans hblk6)
      have HD9 := hid hblk7
      have HSZ := hid (And.intro hsz6 hsz7)
      have hsw5 := hbl5.size
      have hghw := hx5.lt
      have hg8 : gh ≠ w5.heap.size := by omega
      clear hw6 hw7 hblk6 hblk7 hx5 hbl5 hb6 hb7 hsz6 hsz7 hb5
      go_wp2_with (first
        | (refine wpList_store_row rfl 24 _ _ rfl w5.heap.size ZL.toArray rfl rfl 24 zero32A (heap_alloc_new w5 _) hZi (by rw [zero32A_size, hZs]) hZ1 ?_; rw [World.setRow_alloc_new, H6.out])
        | (refine wpList_load_row rfl 24 _ rfl w5.heap.size rfl 24 ZL.toArray (0, 0) _ HB6.out Try.underlying24 rfl hZi ?_)
        | (refine wpList_store_row rfl 24 _ _ rfl w6.heap.size ZL.toArray rfl rfl 24 zero32A (heap_alloc_new w6 _) hZi (by rw [zero32A_size, hZs]) hZ1 ?_; rw [World.setRow_alloc_new, H7.out]))
      have hs7 : w7.heap.size = w5.heap.size + 2 := by have := HSZ.out; omega
      have hs0w : w0.heap.size ≤ w7.heap.size := HBL7.out.size
      have hrs7 := HS.out.belowS HBL7.out
      refine (HWr.out w7 HX7.out hrs7).mono ?_
      rintro e w8 ⟨rfl, hx8, hg8'⟩
      have hBL8 := HBL7.out.grown hg8' (by omega) (fun g hg => by injection hg with hg; omega)
      have hd8 := (hg8'.block w5.heap.size (by omega) (fun e => by injection e with e; omega)).trans HD8.out
      have hd9 := (hg8'.block w6.heap.size (by have := HSZ.out; omega) (fun e => by injection e with e; have := HSZ.out; omega)).trans HD9.out
      clear hrs7 hz hzs
      go_wp2_with fail
      refine (HSum2.out w8 hx8).mono ?_
      rintro e w9 ⟨rfl, hb9⟩
      have hx9 := hid (hx8.belowS hb9)
      have hBL9 := hid (bel_trans hBL8 hb9)
      have hd8' := hid ((hb9.block _ (Array.getElem?_eq_some_iff.1 hd8).1).trans hd8)
      have hd9' := hid ((hb9.block _ (Array.getElem?_eq_some_iff.1 hd9).1).trans hd9)
      have HR8 := hid (rangeOf hd8'.out)
      have HR9 := hid (rangeOf hd9'.out)
      clear hx8 hb9 hg8' hBL8 hd8 hd9 hs7 hs0w
      have hU := Try.underlying24
      have hZi2 : (Try.prog.info? 24).map (·.size) = some ZL.length := by rw [hZi]; simp
      have hr8 := HR8.out _ (Below.refl _ _)
      have hr9 := HR9.out _ (Below.refl _ _)
      have HRX := hid (HR.out.belowS hBL9.out)
      have HRY := hid (HS.out.belowS hBL9.out)
      obtain ⟨q, hq⟩ : ∃ q, k + m = q := ⟨_, rfl⟩
      rw [hq] at HLong HOf2
      have hq1 : IntKind.i64.wrap ((k : Int) + (m : Int)) = (q : Int) := by rw [IntWalk.i64_in _ (by omega)]; omega
      have hq2 : (k : Int) + (m : Int) = (q : Int) := by omega
      have hqb : k + m ≤ q := by omega
      have hqc : q ≤ k + m := by omega
      have hqt : ((q : Int) == (q : Int)) = true := by simp
      have hqw : IntKind.i64.wrap (q : Int) = (q : Int) := IntWalk.i64_in _ (by omega)
      clear hq
      obtain ⟨i0, hi0, hz0, hz1, hz2⟩ := info_parts info_u8
      go_wp2_with fail
      have HZS := hid hZs
      clear hZs hZ1 hZi
      have HKP : Hid (∀ w2, Below w9.heap.size w9 w2 → (w2.rangeAt w5.heap.size 0 ZL ∧ w2.rangeAt w6.heap.size 0 ZL)) := hid fun w2 hb => ⟨HR8.out _ hb, HR9.out _ hb⟩
      have HSW9 := hid (And.intro hr8 hr9)
      clear hr8 hr9 HD8 HD9 hd8' hd9'
      refine wp_region_held_drew (S := fun w' => w'.rangeAt w5.heap.size 0 ZL ∧ w'.rangeAt w6.heap.size 0 ZL) (by kernel_rfl) (HKP.out _ (Below.refl _ _).drew) (fun hHeld => ?_)
      · 
        refine tk_first 0 47 rfl rfl (v := .agg ZL.toArray) (by kernel_rfl) (by kernel_rfl) (by kernel_rfl) (fun _ _ _ h => h) (yieldsIf_load_mid (by rfl) _ _ rfl w5.heap.size 0 rfl ZL _ (fun w hS => hS.1) hU rfl hZi2) (by assumption) ?_
        try simp only [Act.put, List.setIfInBounds_toArray, List.set_cons_zero, List.set_cons_succ]
        refine tk_first 1 48 rfl rfl (v := .agg ZL.toArray) (by kernel_rfl) (by kernel_rfl) (by kernel_rfl) (fun _ _ _ h => h) (yieldsIf_load_mid (by rfl) _ _ rfl w6.heap.size 0 rfl ZL _ (fun w hS => hS.2) hU rfl hZi2) (by assumption) ?_
        try simp only [Act.put, List.setIfInBounds_toArray, List.set_cons_zero, List.set_cons_succ]
        refine tk_first 2 49 rfl rfl (v := ?_) (by kernel_rfl) (by kernel_rfl) (by kernel_rfl) (fun _ _ _ h => h) (Or.inl ⟨by rfl, ?_⟩) (by assumption) ?_
        rotate_left 1
        focus (intro wS hSw; (try dsimp only at hSw); go_simp; try with_reducible rfl)
        try simp only [Act.put, List.setIfInBounds_toArray, List.set_cons_zero, List.set_cons_succ]
        refine tk_first 3 50 rfl rfl (v := ?_) (by kernel_rfl) (by kernel_rfl) (by kernel_rfl) (fun _ _ _ h => h) (Or.inl ⟨by rfl, ?_⟩) (by assumption) ?_
        rotate_left 1
        focus (intro wS hSw; (try dsimp only at hSw); go_simp; try with_reducible rfl)
        try simp only [Act.put, List.setIfInBounds_toArray, List.set_cons_zero, List.set_cons_succ]
        refine tk_first 4 51 rfl rfl (v := .agg ZL.toArray) (by kernel_rfl) (by kernel_rfl) (by kernel_rfl) (fun _ _ _ h => h) (yieldsIf_load_mid (by rfl) _ _ rfl w5.heap.size 0 rfl ZL _ (fun w hS => hS.1) hU rfl hZi2) (by assumption) ?_
        try simp only [Act.put, List.setIfInBounds_toArray, List.set_cons_zero, List.set_cons_succ]
        refine tk_first 5 52 rfl rfl (v := ?_) (by kernel_rfl) (by kernel_rfl) (by kernel_rfl) (fun _ _ _ h => h) (Or.inl ⟨by rfl, ?_⟩) (by assumption) ?_
        rotate_left 1
        focus (intro wS hSw; (try dsimp only at hSw); go_simp; try with_reducible rfl)
        try simp only [Act.put, List.setIfInBounds_toArray, List.set_cons_zero, List.set_cons_succ]
        refine wpAnyH_ready (rs := [6]) (by kernel_rfl) (by simp) ?_
        refine AllReadyH.cons (i := 6) (o := _) rfl (fun K hK => ?_) AllReadyH.nil
        go_simp
        (go_at_call 12; refine (HOf1.out _ HRX.out.drew).mono ?_; rintro e wa ⟨rfl, hba'⟩; have hba : Below w9.heap.size w9 wa := ⟨hba'.os, hba'.tape, hba'.output, hba'.size, hba'.block⟩; clear hba')
        refine hK.out _ _ (HKP.out _ hba) (fun hHeld => ?_)
        clear hK K
        try simp only [Act.put, List.setIfInBounds_toArray, List.set_cons_zero, List.set_cons_succ]
        refine tk_first 7 54 rfl rfl (v := ?_) (by kernel_rfl) (by kernel_rfl) (by kernel_rfl) (fun _ _ _ h => h) (Or.inl ⟨by rfl, ?_⟩) (by assumption) ?_
        rotate_left 1
        focus (intro wS hSw; (try dsimp only at hSw); go_simp; try with_reducible rfl)
        try simp only [Act.put, List.setIfInBounds_toArray, List.set_cons_zero, List.set_cons_succ]
        refine tk_first 8 55 rfl rfl (v := ?_) (by kernel_rfl) (by kernel_rfl) (by kernel_rfl) (fun _ _ _ h => h) (Or.inl ⟨by rfl, ?_⟩) (by assumption) ?_
        rotate_left 1
        focus (intro wS hSw; (try dsimp only at hSw); go_simp; try with_reducible rfl)
        try simp only [Act.put, List.setIfInBounds_toArray, List.set_cons_zero, List.set_cons_succ]
        refine tk_first 9 56 rfl rfl (v := ?_) (by kernel_rfl) (by kernel_rfl) (by kernel_rfl) (fun _ _ _ h => h) (Or.inl ⟨by rfl, ?_⟩) (by assumption) ?_
        rotate_left 1
        focus (intro wS hSw; (try dsimp only at hSw); go_simp; try with_reducible rfl)
        try simp only [Act.put, List.setIfInBounds_toArray, List.set_cons_zero, List.set_cons_succ]
        refine tk_first 10 57 rfl rfl (v := ?_) (by kernel_rfl) (by kernel_rfl) (by kernel_rfl) (fun _ _ _ h => h) (Or.inl ⟨by rfl, ?_⟩) (by assumption) ?_
        rotate_left 1
        focus (intro wS hSw; (try dsimp only at hSw); go_simp; try with_reducible rfl)
        try simp only [Act.put, List.setIfInBounds_toArray, List.set_cons_zero, List.set_cons_succ]
        refine tk_first 13 60 rfl rfl (v := ?_) (by kernel_rfl) (by kernel_rfl) (by kernel_rfl) (fun _ _ _ h => h) (Or.inl ⟨by rfl, ?_⟩) (by assumption) ?_
        rotate_left 1
        focus (intro wS hSw; (try dsimp only at hSw); go_simp; try with_reducible rfl)
        try simp only [Act.put, List.setIfInBounds_toArray, List.set_cons_zero, List.set_cons_succ]
        refine tk_first 15 62 rfl rfl (v := ?_) (by kernel_rfl) (by kernel_rfl) (by kernel_rfl) (fun _ _ _ h => h) (Or.inl ⟨by rfl, ?_⟩) (by assumption) ?_
        rotate_left 1
        focus (intro wS hSw; (try dsimp only at hSw); go_simp; try with_reducible rfl)
        try simp only [Act.put, List.setIfInBounds_toArray, List.set_cons_zero, List.set_cons_succ]
        refine wpAnyH_ready (rs := [11, 12]) (by kernel_rfl) (by simp) ?_
        refine AllReadyH.cons (i := 11) (o := _) rfl (fun K hK => ?_) (AllReadyH.cons (i := 12) (o := _) rfl (fun K hK => ?_) AllReadyH.nil)
        ·
          go_simp
          (go_at_call 18; refine (HSum2.out _ (hx9.out.belowS hba)).mono ?_; rintro e wb ⟨rfl, hbb'⟩; have hbb := bel_trans hba hbb'; clear hbb')
          refine hK.out _ _ (HKP.out _ hbb) (fun hHeld => ?_)
          clear hK K
          try simp only [Act.put, List.setIfInBounds_toArray, List.set_cons_zero, List.set_cons_succ]
          refine wpAnyH_ready (rs := [12]) (by kernel_rfl) (by simp) ?_
          refine AllReadyH.cons (i := 12) (o := _) rfl (fun K hK => ?_) AllReadyH.nil
          go_simp
          refine hK.out _ _ (HKP.out _ (bel_alloc hbb _)) (fun hHeld => ?_)
          clear hK K
          try simp only [Act.put, List.setIfInBounds_toArray, List.set_cons_zero, List.set_cons_succ]
          refine wpAnyH_ready (rs := [14]) (by kernel_rfl) (by simp) ?_
          refine AllReadyH.cons (i := 14) (o := _) rfl (fun K hK => ?_) AllReadyH.nil
          (refine step_copyD wb 61 rfl (by rfl) _ _ _ (by rfl) 5 i0 _ 1 1 Try.underlying22 hi0 hz0 hz1 hz2 rfl (by decide) (by rfl) A k c _ (by rfl) (HRX.out.belowS hbb) (oneCell_b _) (by simp [maxLen]; omega) (by omega) ?_; intro A4 c4 w4 hown4 hb4'; have hb4 := bel_trans hbb hb4'; have hbz := hb4'.size; clear hb4'; have hbs := hbb.size)
          refine hK.out _ _ (HKP.out _ hb4) (fun hHeld => ?_)
          clear hK K
          try simp only [Act.put, List.setIfInBounds_toArray, List.set_cons_zero, List.set_cons_succ]
          refine wpAnyH_ready (rs := [16]) (by kernel_rfl) (by simp) ?_
          refine AllReadyH.cons (i := 16) (o := _) rfl (fun K hK => ?_) AllReadyH.nil
          (refine step_srcD w4 63 rfl (by rfl) _ _ _ (by rfl) _ 5 i0 _ 1 1 Try.underlying22 hi0 hz0 hz1 hz2 rfl (by decide) _ k _ (by rfl) hown4 w9.heap.size B m d _ (by rfl) (HRY.out.below hb4) (oneCell_b _) (by simp [maxLen]; omega) (by omega) hbz q (by omega) ?_; intro A6 c6 w6' hown6 _ hb6'; have hb6 := hb4.trans (hb6'.mono hbs); clear hb6')
          refine hK.out _ _ (HKP.out _ hb6) (fun hHeld => ?_)
          clear hK K
          try simp only [Act.put, List.setIfInBounds_toArray, List.set_cons_zero, List.set_cons_succ]
          refine wpAnyH_ready (rs := [17]) (by kernel_rfl) (by simp) ?_
          refine AllReadyH.cons (i := 17) (o := _) rfl (fun K hK => ?_) AllReadyH.nil
          go_simp
          (go_at_call 12; refine (HOf2.out A6 c6 _ (by have := Reads.of_own hown6; rw [← List.map_append] at this; exact this)).mono ?_; rintro e wf ⟨rfl, hbf'⟩; have hbf := bel_trans hb6 hbf'; clear hbf')
          refine hK.out _ _ (HKP.out _ hbf) (fun hHeld => ?_)
          clear hK K
          try simp only [Act.put, List.setIfInBounds_toArray, List.set_cons_zero, List.set_cons_succ]
          refine tk_first 18 65 rfl rfl (v := ?_) (by kernel_rfl) (by kernel_rfl) (by kernel_rfl) (fun _ _ _ h => h) (Or.inl ⟨by rfl, ?_⟩) (by assumption) ?_
          rotate_left 1
          focus (intro wS hSw; (try dsimp only at hSw); go_simp; try with_reducible rfl)
          try simp only [Act.put, List.setIfInBounds_toArray, List.set_cons_zero, List.set_cons_succ]
          refine tk_first 19 66 rfl rfl (v := ?_) (by kernel_rfl) (by kernel_rfl) (by kernel_rfl) (fun _ _ _ h => h) (Or.inl ⟨by rfl, ?_⟩) (by assumption) ?_
          rotate_left 1
          focus (intro wS hSw; (try dsimp only at hSw); go_simp; try with_reducible rfl)
          try simp only [Act.put, List.setIfInBounds_toArray, List.set_cons_zero, List.set_cons_succ]
          refine tk_first 20 67 rfl rfl (v := ?_) (by kernel_rfl) (by kernel_rfl) (by kernel_rfl) (fun _ _ _ h => h) (Or.inl ⟨by rfl, ?_⟩) (by assumption) ?_
          rotate_left 1
          focus (intro wS hSw; (try dsimp only at hSw); go_simp; try with_reducible rfl)
          try simp only [Act.put, List.setIfInBounds_toArray, List.set_cons_zero, List.set_cons_succ]
          refine tk_first 21 68 rfl rfl (v := ?_) (by kernel_rfl) (by kernel_rfl) (by kernel_rfl) (fun _ _ _ h => h) (Or.inl ⟨by rfl, ?_⟩) (by assumption) ?_
          rotate_left 1
          focus (intro wS hSw; (try dsimp only at hSw); go_simp; try with_reducible rfl)
          try simp only [Act.put, List.setIfInBounds_toArray, List.set_cons_zero, List.set_cons_succ]
          refine tk_first 23 70 rfl rfl (v := ?_) (by kernel_rfl) (by kernel_rfl) (by kernel_rfl) (fun _ _ _ h => h) (Or.inl ⟨by rfl, ?_⟩) (by assumption) ?_
          rotate_left 1
          focus (intro wS hSw; (try dsimp only at hSw); go_simp; try with_reducible rfl)
          try simp only [Act.put, List.setIfInBounds_toArray, List.set_cons_zero, List.set_cons_succ]
          refine tk_first 24 71 rfl rfl (v := ?_) (by kernel_rfl) (by kernel_rfl) (by kernel_rfl) (fun _ _ _ h => h) (Or.inl ⟨by rfl, ?_⟩) (by assumption) ?_
          rotate_left 1
          focus (intro wS hSw; (try dsimp only at hSw); go_simp; try with_reducible rfl)
          try simp only [Act.put, List.setIfInBounds_toArray, List.set_cons_zero, List.set_cons_succ]
          refine tk_first 25 72 rfl rfl (v := ?_) (by kernel_rfl) (by kernel_rfl) (by kernel_rfl) (fun _ _ _ h => h) (Or.inl ⟨by rfl, ?_⟩) (by assumption) ?_
          rotate_left 1
          focus (intro wS hSw; (try dsimp only at hSw); go_simp; try with_reducible rfl)
          try simp only [Act.put, List.setIfInBounds_toArray, List.set_cons_zero, List.set_cons_succ]
          refine tk_first 26 73 rfl rfl (v := ?_) (by kernel_rfl) (by kernel_rfl) (by kernel_rfl) (fun _ _ _ h => h) (Or.inl ⟨by rfl, ?_⟩) (by assumption) ?_
          rotate_left 1
          focus (intro wS hSw; (try dsimp only at hSw); go_simp; try with_reducible rfl)
          try simp only [Act.put, List.setIfInBounds_toArray, List.set_cons_zero, List.set_cons_succ]
          refine tk_first 27 74 rfl rfl (v := ?_) (by kernel_rfl) (by kernel_rfl) (by kernel_rfl) (fun _ _ _ h => h) (Or.inl ⟨by rfl, ?_⟩) (by assumption) ?_
          rotate_left 1
          focus (intro wS hSw; (try dsimp only at hSw); go_simp; try with_reducible rfl)
          try simp only [Act.put, List.setIfInBounds_toArray, List.set_cons_zero, List.set_cons_succ]
          refine wpAnyH_ready (rs := [22]) (by kernel_rfl) (by simp) ?_
          refine AllReadyH.cons (i := 22) (o := _) rfl (fun K hK => ?_) AllReadyH.nil
          go_simp
          (go_at_call 19; refine (HLong.out _ (hx9.out.belowS hbf)).mono ?_; rintro e wl ⟨rfl, rfl⟩)
          refine hK.out _ _ (HKP.out _ hbf) (fun hHeld => ?_)
          clear hK K
          try simp only [Act.put, List.setIfInBounds_toArray, List.set_cons_zero, List.set_cons_succ]
          refine tk_first 28 75 rfl rfl (v := ?_) (by kernel_rfl) (by kernel_rfl) (by kernel_rfl) (fun _ _ _ h => h) (Or.inl ⟨by rfl, ?_⟩) (by assumption) ?_
          rotate_left 1
          focus (intro wS hSw; (try dsimp only at hSw); go_simp; try with_reducible rfl)
          try simp only [Act.put, List.setIfInBounds_toArray, List.set_cons_zero, List.set_cons_succ]
          refine tk_first 29 76 rfl rfl (v := ?_) (by kernel_rfl) (by kernel_rfl) (by kernel_rfl) (fun _ _ _ h => h) (Or.inl ⟨by rfl, ?_⟩) (by assumption) ?_
          rotate_left 1
          focus (intro wS hSw; (try dsimp only at hSw); go_simp; try with_reducible rfl)
          try simp only [Act.put, List.setIfInBounds_toArray, List.set_cons_zero, List.set_cons_succ]
          refine tk_first 30 4 rfl rfl (v := ?_) (by kernel_rfl) (by kernel_rfl) (by kernel_rfl) (fun _ _ _ h => h) (Or.inl ⟨by rfl, ?_⟩) (by assumption) ?_
          rotate_left 1
          focus (intro wS hSw; (try dsimp only at hSw); go_simp; try with_reducible rfl)
          try simp only [Act.put, List.setIfInBounds_toArray, List.set_cons_zero, List.set_cons_succ]
          refine wpAnyH_done (by kernel_rfl) ?_ _
          have hfin := hid (bel_trans hb0 (bel_trans hBL9.out hbf))
          go_wp2_with fail
          go_ret
          exact ⟨by simp, hfin.out⟩
        ·
          go_simp
          refine hK.out _ _ (HKP.out _ (bel_alloc hba _)) (fun hHeld => ?_)
          clear hK K
          try simp only [Act.put, List.setIfInBounds_toArray, List.set_cons_zero, List.set_cons_succ]
          refine wpAnyH_ready (rs := [11]) (by kernel_rfl) (by simp) ?_
          refine AllReadyH.cons (i := 11) (o := _) rfl (fun K hK => ?_) AllReadyH.nil
          go_simp
          (go_at_call 18; refine (HSum2.out _ ((hx9.out.belowS hba).alloc _)).mono ?_; rintro e wb ⟨rfl, hbb'⟩; have hown0 := own_below (World.ownsRow_made (e := 5) (size := 1) wa #[] 0 (Nat.le_refl _) (by simp [maxLen]) (by simp)) hbb'; have hwab : wa.heap.size ≤ wb.heap.size := Nat.le_trans (by simp) hbb'.size; have hbb := bel_trans (bel_alloc hba _) hbb'; clear hbb')
          refine hK.out _ _ (HKP.out _ hbb) (fun hHeld => ?_)
          clear hK K
          try simp only [Act.put, List.setIfInBounds_toArray, List.set_cons_zero, List.set_cons_succ]
          refine wpAnyH_ready (rs := [14]) (by kernel_rfl) (by simp) ?_
          refine AllReadyH.cons (i := 14) (o := _) rfl (fun K hK => ?_) AllReadyH.nil
          (refine step_srcD wb 61 rfl (by rfl) _ _ _ (by rfl) wa.heap.size 5 i0 _ 1 1 Try.underlying22 hi0 hz0 hz1 hz2 rfl (by decide) _ 0 [] (by rfl) hown0 w9.heap.size A k c _ (by rfl) (HRX.out.below hbb) (oneCell_b _) (by simp [maxLen]; omega) (by omega) (by have := hbb.size; omega) k (by omega) ?_; intro A4 c4 w4 hown4 _ hb4'; rw [List.nil_append] at hown4; have hb4 := hbb.trans (hb4'.mono hba.size); have hbz := Nat.le_trans hwab hb4'.size; clear hb4'; have hbs := hba.size)
          refine hK.out _ _ (HKP.out _ hb4) (fun hHeld => ?_)
          clear hK K
          try simp only [Act.put, List.setIfInBounds_toArray, List.set_cons_zero, List.set_cons_succ]
          refine wpAnyH_ready (rs := [16]) (by kernel_rfl) (by simp) ?_
          refine AllReadyH.cons (i := 16) (o := _) rfl (fun K hK => ?_) AllReadyH.nil
          (refine step_srcD w4 63 rfl (by rfl) _ _ _ (by rfl) _ 5 i0 _ 1 1 Try.underlying22 hi0 hz0 hz1 hz2 rfl (by decide) _ k _ (by rfl) hown4 w9.heap.size B m d _ (by rfl) (HRY.out.below hb4) (oneCell_b _) (by simp [maxLen]; omega) (by omega) hbz q (by omega) ?_; intro A6 c6 w6' hown6 _ hb6'; have hb6 := hb4.trans (hb6'.mono hbs); clear hb6')
          refine hK.out _ _ (HKP.out _ hb6) (fun hHeld => ?_)
          clear hK K
          try simp only [Act.put, List.setIfInBounds_toArray, List.set_cons_zero, List.set_cons_succ]
          refine wpAnyH_ready (rs := [17]) (by kernel_rfl) (by simp) ?_
          refine AllReadyH.cons (i := 17) (o := _) rfl (fun K hK => ?_) AllReadyH.nil
          go_simp
          (go_at_call 12; refine (HOf2.out A6 c6 _ (by have := Reads.of_own hown6; rw [← List.map_append] at this; exact this)).mono ?_; rintro e wf ⟨rfl, hbf'⟩; have hbf := bel_trans hb6 hbf'; clear hbf')
          refine hK.out _ _ (HKP.out _ hbf) (fun hHeld => ?_)
          clear hK K
          try simp only [Act.put, List.setIfInBounds_toArray, List.set_cons_zero, List.set_cons_succ]
          refine tk_first 18 65 rfl rfl (v := ?_) (by kernel_rfl) (by kernel_rfl) (by kernel_rfl) (fun _ _ _ h => h) (Or.inl ⟨by rfl, ?_⟩) (by assumption) ?_
          rotate_left 1
          focus (intro wS hSw; (try dsimp only at hSw); go_simp; try with_reducible rfl)
          try simp only [Act.put, List.setIfInBounds_toArray, List.set_cons_zero, List.set_cons_succ]
          refine tk_first 19 66 rfl rfl (v := ?_) (by kernel_rfl) (by kernel_rfl) (by kernel_rfl) (fun _ _ _ h => h) (Or.inl ⟨by rfl, ?_⟩) (by assumption) ?_
          rotate_left 1
          focus (intro wS hSw; (try dsimp only at hSw); go_simp; try with_reducible rfl)
          try simp only [Act.put, List.setIfInBounds_toArray, List.set_cons_zero, List.set_cons_succ]
          refine tk_first 20 67 rfl rfl (v := ?_) (by kernel_rfl) (by kernel_rfl) (by kernel_rfl) (fun _ _ _ h => h) (Or.inl ⟨by rfl, ?_⟩) (by assumption) ?_
          rotate_left 1
          focus (intro wS hSw; (try dsimp only at hSw); go_simp; try with_reducible rfl)
          try simp only [Act.put, List.setIfInBounds_toArray, List.set_cons_zero, List.set_cons_succ]
          refine tk_first 21 68 rfl rfl (v := ?_) (by kernel_rfl) (by kernel_rfl) (by kernel_rfl) (fun _ _ _ h => h) (Or.inl ⟨by rfl, ?_⟩) (by assumption) ?_
          rotate_left 1
          focus (intro wS hSw; (try dsimp only at hSw); go_simp; try with_reducible rfl)
          try simp only [Act.put, List.setIfInBounds_toArray, List.set_cons_zero, List.set_cons_succ]
          refine tk_first 23 70 rfl rfl (v := ?_) (by kernel_rfl) (by kernel_rfl) (by kernel_rfl) (fun _ _ _ h => h) (Or.inl ⟨by rfl, ?_⟩) (by assumption) ?_
          rotate_left 1
          focus (intro wS hSw; (try dsimp only at hSw); go_simp; try with_reducible rfl)
          try simp only [Act.put, List.setIfInBounds_toArray, List.set_cons_zero, List.set_cons_succ]
          refine tk_first 24 71 rfl rfl (v := ?_) (by kernel_rfl) (by kernel_rfl) (by kernel_rfl) (fun _ _ _ h => h) (Or.inl ⟨by rfl, ?_⟩) (by assumption) ?_
          rotate_left 1
          focus (intro wS hSw; (try dsimp only at hSw); go_simp; try with_reducible rfl)
          try simp only [Act.put, List.setIfInBounds_toArray, List.set_cons_zero, List.set_cons_succ]
          refine tk_first 25 72 rfl rfl (v := ?_) (by kernel_rfl) (by kernel_rfl) (by kernel_rfl) (fun _ _ _ h => h) (Or.inl ⟨by rfl, ?_⟩) (by assumption) ?_
          rotate_left 1
          focus (intro wS hSw; (try dsimp only at hSw); go_simp; try with_reducible rfl)
          try simp only [Act.put, List.setIfInBounds_toArray, List.set_cons_zero, List.set_cons_succ]
          refine tk_first 26 73 rfl rfl (v := ?_) (by kernel_rfl) (by kernel_rfl) (by kernel_rfl) (fun _ _ _ h => h) (Or.inl ⟨by rfl, ?_⟩) (by assumption) ?_
          rotate_left 1
          focus (intro wS hSw; (try dsimp only at hSw); go_simp; try with_reducible rfl)
          try simp only [Act.put, List.setIfInBounds_toArray, List.set_cons_zero, List.set_cons_succ]
          refine tk_first 27 74 rfl rfl (v := ?_) (by kernel_rfl) (by kernel_rfl) (by kernel_rfl) (fun _ _ _ h => h) (Or.inl ⟨by rfl, ?_⟩) (by assumption) ?_
          rotate_left 1
          focus (intro wS hSw; (try dsimp only at hSw); go_simp; try with_reducible rfl)
          try simp only [Act.put, List.setIfInBounds_toArray, List.set_cons_zero, List.set_cons_succ]
          refine wpAnyH_ready (rs := [22]) (by kernel_rfl) (by simp) ?_
          refine AllReadyH.cons (i := 22) (o := _) rfl (fun K hK => ?_) AllReadyH.nil
          go_simp
          (go_at_call 19; refine (HLong.out _ (hx9.out.belowS hbf)).mono ?_; rintro e wl ⟨rfl, rfl⟩)
          refine hK.out _ _ (HKP.out _ hbf) (fun hHeld => ?_)
          clear hK K
          try simp only [Act.put, List.setIfInBounds_toArray, List.set_cons_zero, List.set_cons_succ]
          refine tk_first 28 75 rfl rfl (v := ?_) (by kernel_rfl) (by kernel_rfl) (by kernel_rfl) (fun _ _ _ h => h) (Or.inl ⟨by rfl, ?_⟩) (by assumption) ?_
          rotate_left 1
          focus (intro wS hSw; (try dsimp only at hSw); go_simp; try with_reducible rfl)
          try simp only [Act.put, List.setIfInBounds_toArray, List.set_cons_zero, List.set_cons_succ]
          refine tk_first 29 76 rfl rfl (v := ?_) (by kernel_rfl) (by kernel_rfl) (by kernel_rfl) (fun _ _ _ h => h) (Or.inl ⟨by rfl, ?_⟩) (by assumption) ?_
          rotate_left 1
          focus (intro wS hSw; (try dsimp only at hSw); go_simp; try with_reducible rfl)
          try simp only [Act.put, List.setIfInBounds_toArray, List.set_cons_zero, List.set_cons_succ]
          refine tk_first 30 4 rfl rfl (v := ?_) (by kernel_rfl) (by kernel_rfl) (by kernel_rfl) (fun _ _ _ h => h) (Or.inl ⟨by rfl, ?_⟩) (by assumption) ?_
          rotate_left 1
          focus (intro wS hSw; (try dsimp only at hSw); go_simp; try with_reducible rfl)
          try simp only [Act.put, List.setIfInBounds_toArray, List.set_cons_zero, List.set_cons_succ]
          refine wpAnyH_done (by kernel_rfl) ?_ _
          have hfin := hid (bel_trans hb0 (bel_trans hBL9.out hbf))
          go_wp2_with fail
          go_ret
          exact ⟨by simp, hfin.out⟩
theorem shaOwn_law (w : World) (A : Option Addr) (n c : Nat) (xs : List UInt8) (hr : Reads w w.heap.size 1 A n (xs.map bV)) (hnc : n ≤ c) (hc : c ≤ maxLen) (B : Option Addr) (m d : Nat) (ys : List UInt8) (hs : Reads w w.heap.size 1 B m (ys.map bV)) (hmd : m ≤ d) (hd : d ≤ maxLen) :
    Calls Try.prog 6 #[.slice A n c, .slice B m d] w fun e w' => e = .returned (.bool true) ∧ Below w.heap.size w w' :=
  shaOwn_any A n c xs B m d ys w hr hs hc hd hnc hmd
/-! ### ShaOwn: from the walk to the given statement -/
namespace lawShaOwn
theorem own : ownKnob Try.prog.godebug = none := by kernel_rfl
theorem laidOut : laidOutB Try.prog = true := by kernel_rfl
set_option maxRecDepth 100000 in
theorem lifted (os : Os) (started : os.Started) (H : Type) (enc : TypeId × Value → H) :
    ReturnsInHanded {} Try.checked os 6 .any (Rows.shaOwnSpec.pre6 enc Try.prog Try.f6 Rows.shaOwnRow.domain false) (Rows.shaOwnSpec.post enc Try.prog Try.f6 false true false false) := by
  refine returnsInHanded_of_change (C := Try.checked) own started (by kernel_rfl) Try.func6
    (ChangeSpec.witness6 (enc := enc) (C := Try.checked) false ⟨#[], #[.slice none 0 0, .slice none 0 0], []⟩ 8 (by kernel_rfl) (by kernel_rfl) (by kernel_rfl) (by kernel_rfl)) ?_
  intro W base args ds gs before hval0 hW hcnd _
  have hval : ∀ (j : Nat) t v, Try.f6.params[j]? = some t → args[j]? = some v → Value.okWide Try.prog W .any base t v := hval0
  have hW' := hW
  obtain ⟨p, q, hA0, hV, rfl, hfz, hnd⟩ := hW
  have hA : DataW.TrodAll enc Try.prog W 0 (fun _ => true) true Try.f6.params.toList args.toList ds p := hA0
  rw [Try.params6] at hA hval
  obtain ⟨v0, vs0, d0, ds0, p0, q0, hargs, rfl, rfl, h0, r0⟩ := trodAll_cons hA
  obtain ⟨v1, vs1, d1, ds1, p1, q1, rfl, rfl, rfl, h1, r1⟩ := trodAll_cons r0
  obtain ⟨rfl, rfl, rfl⟩ := trodAll_nil r1
  obtain rfl : args = #[v0, v1] := by cases args; simp_all
  obtain ⟨rfl, rfl⟩ := trodVars_none hV
  have k0 := h0
  have lt0 : ∀ x ∈ p0, x.block < W.heap.size := by obtain ⟨m, hm⟩ := k0; exact DataW.trod_lt m _ _ _ hm
  have k1 := h1
  have lt1 : ∀ x ∈ p1, x.block < W.heap.size := by obtain ⟨m, hm⟩ := k1; exact DataW.trod_lt m _ _ _ hm
  obtain ⟨A0, n0, c0, b0, rfl, w0, g0, l0⟩ := open_bytes Try.underlying22 Try.underlying5 (by kernel_rfl) (hval 0 22 v0 rfl rfl) h0
  obtain ⟨A1, n1, c1, b1, rfl, w1, g1, l1⟩ := open_bytes Try.underlying22 Try.underlying5 (by kernel_rfl) (hval 1 22 v1 rfl rfl) h1
  clear hA0 hval0
  refine (shaOwn_law W A0 n0 c0 b0 w0 g0 l0 A1 n1 c1 b1 w1 g1 l1).mono fun e W' ⟨he, bel⟩ => ?_
  subst he
  exact ⟨_, rfl, _, _, _, [], _, [], hW', trodAll_mk1 (shut_bool Try.underlying4 _), (trodAll_cons_mk (Below.trod laidOut (by kernel_rfl) (of_decide_eq_true (by kernel_rfl)) k0 bel lt0) (trodAll_cons_mk (Below.trod laidOut (by kernel_rfl) (of_decide_eq_true (by kernel_rfl)) k1 bel lt1) trodAll_mk0)), rfl, bel.frame _, fun h => by cases h⟩
theorem over : Rows.shaOwnRow.holds Try.pinned (OpenSpec.ofChange Rows.shaOwnSpec) :=
  OpenClaim.holds_of_wide 6 Try.f6 rfl rfl rfl rfl rfl rfl rfl ⟨rfl, rfl, rfl, rfl, rfl⟩ rfl rfl rfl rfl rfl (by kernel_rfl) Try.func6 (by kernel_rfl)
    (of_decide_eq_true (by kernel_rfl)) (by unfold Func.isWrapper; first | (rw [if_pos (by decide +kernel)]; kernel_rfl) | (rw [if_neg (by decide +kernel)]; exact ⟨rfl, rfl⟩))
    (fun os started H enc _ => lifted os started H enc)
theorem proved : Rows.ShaOwnSaid := over
#print axioms proved
end lawShaOwn
end Go.Proofs.Ytojffpfgmlegdaa
