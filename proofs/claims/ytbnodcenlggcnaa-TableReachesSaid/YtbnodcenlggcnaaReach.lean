/-
  Package table: what a partition reaches.
-/
import Derived.Test.YtbnodcenlggcnaaSchedStart
namespace Go.Proofs.Ytbnodcenlggcnaa
open Go.RowKit

/-- Four marks, as the machine holds them. -/
def b4C (m : B4) : List Value := [.bool m.a, .bool m.b, .bool m.c, .bool m.d]
theorem b4C_get (m : B4) {i : Nat} (hi : i < 4) : (b4C m)[i]? = some (.bool (m.get i)) := by
  have : i = 0 ∨ i = 1 ∨ i = 2 ∨ i = 3 := by omega
  rcases this with rfl | rfl | rfl | rfl <;> rfl
theorem b4C_set (m : B4) {i : Nat} (hi : i < 4) (x : Bool) : (b4C m).set i (.bool x) = b4C (m.put i x) := by
  have : i = 0 ∨ i = 1 ∨ i = 2 ∨ i = 3 := by omega
  rcases this with rfl | rfl | rfl | rfl <;> rfl
def bAt (w : World) (g i : Nat) : Bool := match w.cell? ⟨g, i, none⟩ with | some (.bool b) => b | _ => false
def b4At (w : World) (g : Nat) : B4 := ⟨bAt w g 0, bAt w g 1, bAt w g 2, bAt w g 3⟩
theorem b4At_blk {w : World} {g : Nat} {T : TypeId} {m : B4} (h : Blk w g T (b4C m)) : b4At w g = m := by
  unfold b4At bAt
  rw [h.cellAt (i := 0) rfl, h.cellAt (i := 1) rfl, h.cellAt (i := 2) rfl, h.cellAt (i := 3) rfl]
theorem b4_cells {w : World} {g : Nat} {T : TypeId} {m : B4} (h : Blk w g T (b4C m)) : w.cell? ⟨g, 0, none⟩ = some (.bool m.a) ∧ w.cell? ⟨g, 1, none⟩ = some (.bool m.b) ∧ w.cell? ⟨g, 2, none⟩ = some (.bool m.c) ∧ w.cell? ⟨g, 3, none⟩ = some (.bool m.d) :=
  ⟨h.cellAt rfl, h.cellAt rfl, h.cellAt rfl, h.cellAt rfl⟩
theorem store4 {w : World} {b : Nat} {T : TypeId} {cs : List Value} (h : Blk w b T cs) (hl : cs.length = 4) (v0 v1 v2 v3 : Value) :
    ∃ w' : World, (((w.setCell ⟨b, 0, none⟩ v0).setCell ⟨b, 1, none⟩ v1).setCell ⟨b, 2, none⟩ v2).setCell ⟨b, 3, none⟩ v3 = w' ∧ Below b w w' ∧ (∀ g T' cs', g ≠ b → Blk w g T' cs' → Blk w' g T' cs') ∧ Blk w' b T [v0, v1, v2, v3] := by
  refine ⟨_, rfl, (((Below.refl _ _).setCell (p := ⟨b, 0, none⟩) (Nat.le_refl _) _).setCell (p := ⟨b, 1, none⟩) (Nat.le_refl _) _).setCell (p := ⟨b, 2, none⟩) (Nat.le_refl _) _ |>.setCell (p := ⟨b, 3, none⟩) (Nat.le_refl _) _, fun g T' cs' hg hb => (((hb.far (p := ⟨b, 0, none⟩) hg _).far (p := ⟨b, 1, none⟩) hg _).far (p := ⟨b, 2, none⟩) hg _).far (p := ⟨b, 3, none⟩) hg _, ?_⟩
  have := (((h.set_ 0 v0).set_ 1 v1).set_ 2 v2).set_ 3 v3
  match cs, hl with
  | [_, _, _, _], _ => exact this
theorem met_round {l : List ChanS} {a : Nat} {m : B4} (h : Met l a m) (hd : ∀ c ∈ l, c.dst.toNat < 4) : Met l a (metR m l) := by
  refine ⟨metR_le l m hd a h.1, ?_⟩
  have : ∀ (l' : List ChanS) (m : B4), (∀ c ∈ l', c ∈ l) → (∀ i, m.get i = true → Rch l a i) → ∀ i, (metR m l').get i = true → Rch l a i := by
    intro l'
    induction l' with
    | nil => intro m _ h; exact h
    | cons c l' ih =>
      intro m hs hm
      exact ih _ (fun x hx => hs x (List.mem_cons_of_mem _ hx)) (metC_rch (hd c (hs c (List.mem_cons_self ..))) (hs c (List.mem_cons_self ..)) hm)
  exact this l m (fun _ h => h) h.2
/-- Arrays of four bools, compared. -/
theorem eq4 (a b c d e f g h : Bool) (w : World) : (Op.equalIn 10000 81 (.agg #[.bool a, .bool b, .bool c, .bool d]) (.agg #[.bool e, .bool f, .bool g, .bool h])).run Try.prog w = .ok (decide ((⟨a, b, c, d⟩ : B4) = ⟨e, f, g, h⟩)) w := by
  cases a <;> cases b <;> cases c <;> cases d <;> cases e <;> cases f <;> cases g <;> cases h <;> kernel_rfl
theorem eq4m (m z : B4) (w : World) : (Op.equalIn 10000 81 (.agg #[.bool m.a, .bool m.b, .bool m.c, .bool m.d]) (.agg #[.bool z.a, .bool z.b, .bool z.c, .bool z.d])).run Try.prog w = .ok (decide (m = z)) w := eq4 _ _ _ _ _ _ _ _ w
/-- An array of four bools, asked. -/
theorem index4 (m : B4) {k : Nat} (hk : k < 4) : ∀ w, (Instr.index 81 (.agg #[.bool m.a, .bool m.b, .bool m.c, .bool m.d]) (.int .i64 (k : Int))).run Try.prog w = .ok (.bool (m.get k)) w := by
  have : k = 0 ∨ k = 1 ∨ k = 2 ∨ k = 3 := by omega
  rcases this with rfl | rfl | rfl | rfl <;> (intro w; kernel_rfl)
set_option maxRecDepth 100000 in
set_option maxHeartbeats 1000000 in
theorem Reach_no (t : TabS) (a : TabA) (p : Int) (w : World) (h : TabOk w t a) (hno : rightB t = false ∨ hasB t p = false) :
    Calls Try.prog 19 #[.agg #[.int .i64 t.frame, .slice a.A1 t.parts.length a.c1, .slice a.A2 t.wins.length a.c2, .slice a.A3 t.chans.length a.c3, .int .i64 t.trial], .int .i64 p] w fun e w' => e = .returned (.slice none 0 0) ∧ Below w.heap.size w w' := by
  obtain ⟨A1, k1, A2, k2, A3, k3⟩ := a
  simp only
  obtain ⟨w1, hw1, hb0, hblk0, hs1⟩ := tab_in t ⟨A1, k1, A2, k2, A3, k3⟩ w
  simp only at hw1
  have i1 := hid (right_any t ⟨A1, k1, A2, k2, A3, k3⟩ w1 (h.belowS hb0))
  have i2 := hid (fun w' => has_any t ⟨A1, k1, A2, k2, A3, k3⟩ p w' h.n1)
  simp only at i1 i2
  obtain ⟨c0, c1, c2, c3, c4⟩ := tab_cells hblk0
  simp only at c0 c1 c2 c3 c4
  clear h
  go_enter Try.func19, Try.ntmps19
  go_wp2_with fail
  clear hw1 hs1
  refine i1.out.mono ?_
  rintro e w2 ⟨he, hb2⟩
  have hb02 := bel_trans hb0 hb2
  have hblk2 := hblk0.belowS hb2
  clear c0 c1 c2 c3 c4
  obtain ⟨c0, c1, c2, c3, c4⟩ := tab_cells hblk2
  simp only at c0 c1 c2 c3 c4
  clear hblk0 hblk2 i1
  by_cases hr : rightB t = true
  · have hh := hno.resolve_left (by rw [hr]; simp)
    rw [hr] at he
    subst he
    rw [hh] at i2
    clear hr hh hno
    go_wp2_with fail
    refine (i2.out _).mono ?_
    rintro e w3 ⟨rfl, hb3⟩
    go_wp2_with fail
    go_ret
    exact ⟨rfl, bel_trans hb02 hb3⟩
  · have hr' : rightB t = false := by simpa using hr
    rw [hr'] at he
    subst he
    clear hr hr' hno
    go_wp2_with fail
    go_ret
    exact ⟨rfl, hb02⟩
set_option maxRecDepth 100000 in
set_option maxHeartbeats 2000000 in
theorem Reach_ok (t : TabS) (a : TabA) (p : Nat) (w : World) (h : TabOk w t a) (hR : RightT t) (hp : p < t.parts.length) :
    Calls Try.prog 19 #[.agg #[.int .i64 t.frame, .slice a.A1 t.parts.length a.c1, .slice a.A2 t.wins.length a.c2, .slice a.A3 t.chans.length a.c3, .int .i64 t.trial], .int .i64 (p : Int)] w fun e w' => ∃ A' c', e = .returned (.slice A' (rchL t.chans p).length c') ∧ w'.ownsRow w.heap.size 3 1 (.slice A' (rchL t.chans p).length c') (rchL t.chans p).length ((rchL t.chans p).map iV) ∧ Below w.heap.size w w' := by
  obtain ⟨A1, k1, A2, k2, A3, k3⟩ := a
  simp only
  obtain ⟨w1, hw1, hb0, hblk0, hs1⟩ := tab_in t ⟨A1, k1, A2, k2, A3, k3⟩ w
  simp only at hw1
  have i1 := hid (right_any t ⟨A1, k1, A2, k2, A3, k3⟩ w1 (h.belowS hb0))
  have i2 := hid (fun w' => has_any t ⟨A1, k1, A2, k2, A3, k3⟩ (p : Int) w' h.n1)
  simp only at i1 i2
  rw [(rightB_iff t).2 hR] at i1
  rw [show hasB t (p : Int) = true by unfold hasB; rw [inB_iff]; omega] at i2
  have HT := hid h
  have hp4 : p < 4 := by have := hR.p2; omega
  have hc4 := hR.c4
  have hcs := hid (fun c hc => (hR.cs c hc))
  have hpl := hR.p2
  obtain ⟨c0, c1, c2, c3, c4⟩ := tab_cells hblk0
  simp only at c0 c1 c2 c3 c4
  clear h hR
  go_enter Try.func19, Try.ntmps19
  go_wp2_with fail
  clear hw1 hs1
  refine i1.out.mono ?_
  rintro e w2 ⟨rfl, hb2⟩
  have hb02 := bel_trans hb0 hb2
  have hblk2 := hblk0.belowS hb2
  clear c0 c1 c2 c3 c4
  obtain ⟨c0, c1, c2, c3, c4⟩ := tab_cells hblk2
  simp only at c0 c1 c2 c3 c4
  clear hblk0 i1
  go_wp2_with fail
  refine (i2.out _).mono ?_
  rintro e w3 ⟨rfl, hb3⟩
  have hb03 := bel_trans hb02 hb3
  have hblk3 := hblk2.belowS hb3
  clear c0 c1 c2 c3 c4 hblk2 i2 hb0 hb2 hb3
  obtain ⟨w4, hw4, hb4, hm4, hs4⟩ : ∃ w4 : World, w3.alloc (.cells #[.bool false, .bool false, .bool false, .bool false] 81) = w4 ∧ Below w3.heap.size w3 w4 ∧ Blk w4 w3.heap.size 81 (b4C B4.none) ∧ w4.heap.size = w3.heap.size + 1 := ⟨_, rfl, (Below.refl _ _).alloc (Nat.le_refl _) _, Blk.new _ _ (b4C B4.none), by simp⟩
  obtain ⟨w5, hw5, hb5, hz5⟩ : ∃ w5 : World, w4.alloc (.cells #[.bool false, .bool false, .bool false, .bool false] 81) = w5 ∧ Below w4.heap.size w4 w5 ∧ Blk w5 w4.heap.size 81 (b4C B4.none) := ⟨_, rfl, (Below.refl _ _).alloc (Nat.le_refl _) _, Blk.new _ _ (b4C B4.none)⟩
  have hm5 := hm4.belowS hb5
  have hblk5 := (hblk3.belowS hb4).belowS hb5
  have hb35 : Below w3.heap.size w3 w5 := bel_trans hb4 hb5
  have hB3 := hblk3.lt
  have f1 : w5.cell? ⟨w3.heap.size, p, none⟩ = some (.bool false) := by rw [hm5.cell]; rw [b4C_get _ hp4, B4.get_none]
  have f2 : w5.frozen? ⟨w3.heap.size, p, none⟩ = false := hm5.frozen p
  have hp0 : (0 : Int) ≤ (p : Int) := Int.natCast_nonneg _
  have hp1 : (p : Int) < 4 := by omega
  clear hm4 hb4 hb5
  go_wp2_with fail
  have hm6 := hm5.set_ p (.bool true)
  rw [b4C_set _ hp4] at hm6
  have hz6 := hz5.far (p := ⟨w3.heap.size, p, none⟩) (by simp only; omega) (.bool true)
  have hb36 : Below w3.heap.size w3 (w5.setCell ⟨w3.heap.size, p, none⟩ (.bool true)) := hb35.setCell (p := ⟨w3.heap.size, p, none⟩) (Nat.le_refl _) _
  rw [hs4] at hz6
  clear hw4 hw5 hm5 hz5 hblk5 hb35 f1 f2
  have hne : w4.heap.size = w3.heap.size + 1 := hs4
  first | rw [hs4] | skip
  clear hs4 hne
  generalize w5.setCell ⟨w3.heap.size, p, none⟩ (.bool true) = w6 at *
  have hwB : w.heap.size ≤ w3.heap.size := hb03.size
  generalize hBB : w3.heap.size = B at *
  have HBB := hid hBB
  clear hBB
  have hmet0 : Met t.chans p (B4.none.put p true) := ⟨by rw [B4.get_put hp4, if_pos rfl], fun i hi => by
    rw [B4.get_put hp4] at hi
    split at hi
    · next e => subst e; exact .refl
    · rw [B4.get_none] at hi; cases hi⟩
  have hne0 : B4.none.put p true ≠ B4.none := fun e => by
    have h1 : (B4.none.put p true).get p = true := by rw [B4.get_put hp4, if_pos rfl]
    rw [e, B4.get_none] at h1
    cases h1
  have HM0 := hid hmet0
  have HN0 := hid hne0
  clear hmet0 hne0
  go_loopw [8, 30] (fun _ _ wr => ∃ m z : B4, Blk wr B 81 (b4C m) ∧ Blk wr (B + 1) 81 (b4C z) ∧ Hid (Met t.chans p m) ∧ Hid (m = z → metR m t.chans = m) ∧ Below B w3 wr) (fun _ _ wr => 2 * (b4At wr B).free + if b4At wr B = b4At wr (B + 1) then 0 else 1)
  case atStart => exact ⟨_, _, hm6, hz6, HM0, hid (fun e => absurd e HN0.out), hb36⟩
  case round =>
    obtain ⟨m, z, hm, hz, HM, HF, hbel⟩ := hrel
    have hb3r : Below w3.heap.size w3 wr := by rw [HBB.out]; exact hbel
    have hblkr := hblk3.belowS hb3r
    obtain ⟨c0, c1, c2, c3, c4⟩ := tab_cells hblkr
    simp only at c0 c1 c2 c3 c4
    obtain ⟨m0, m1, m2, m3⟩ := b4_cells hm
    obtain ⟨z0, z1, z2, z3⟩ := b4_cells hz
    have heq := eq4m m z wr
    by_cases hmz : m = z
    · have hclosed := hid (HF.out hmz)
      rw [decide_eq_true hmz] at heq
      have hdone : Hid (∀ i, m.get i = rchB t.chans p i) := hid (fun i => met_done HM.out (fun c hc => by have := hcs.out c hc; omega) hclosed.out i)
      have hbr := hid (hb03.trans (hbel.mono hwB))
      clear hmz
      go_wp2_with fail
      clear c0 c1 c2 c3 c4 m0 m1 m2 m3 z0 z1 z2 z3 heq
      have hfl : Hid (filB m 4 = rchL t.chans p) := hid (filB_done hdone.out)
      obtain ⟨w7, rfl⟩ : ∃ w7 : World, w7 = wr := ⟨_, rfl⟩
      have hw7 : w.heap.size ≤ w7.heap.size := hbr.out.size
      go_loopw [9, 10, 11, 49] (fun v9 _ _ v49 wr => ∃ (k : Nat) (A' : Option Addr) (c' : Nat), k ≤ 4 ∧ v49 = .int .i64 (k : Int) ∧ v9 = .slice A' (filB m k).length c' ∧ wr.ownsRow w7.heap.size 3 1 (.slice A' (filB m k).length c') (filB m k).length ((filB m k).map iV) ∧ Below w7.heap.size w7 wr) (fun _ _ _ v49 _ => 4 - (intOf v49).toNat)
      case atStart => exact ⟨0, none, 0, by omega, rfl, rfl, World.ownsRow_nil _ _ _ _, Below.refl _ _⟩
      case round =>
        obtain ⟨k, A', c', hk, rfl, rfl, hown, hbk⟩ := hrel
        have hlk := filB_len m k
        have HOW := hid hown
        have hwk := hbk.size
        clear hown
        by_cases hk4 : k < 4
        · have hix := index4 m hk4
          have hsu := hid (filB_succ m k)
          cases hg : m.get k with
          | true =>
            rw [hg] at hix
            have hsx : Hid (filB m (k + 1) = filB m k ++ [(k : Int)]) := hid (by rw [hsu.out, if_pos hg])
            clear hg
            generalize filB m k = fl at HOW hlk hsx ⊢
            go_wp2_with (at_builtin; refine appI wr rfl (.tmp 54) (.tmp 56) rfl w7.heap.size A' fl.length c' fl (k : Int) rfl HOW.out wr.heap.size rfl rfl (by omega) hwk (fl ++ [(k : Int)]).length (by simp) ?_; intro A2 c2 w9 hown9 hbl9)
            have hfin := hid (hbk.trans hbl9)
            clear hix
            go_roundw
            case rel => exact ⟨k + 1, A2, c2, by omega, by go_num, by rw [hsx.out]; simp, by rw [hsx.out]; exact hown9, hfin.out⟩
            case measure => simp [intOf]; omega
          | false =>
            rw [hg] at hix
            have hsx : Hid (filB m (k + 1) = filB m k) := hid (by rw [hsu.out, if_neg (by rw [hg]; simp), List.append_nil])
            clear hg
            generalize filB m k = fl at HOW hlk hsx ⊢
            go_wp2_with fail
            clear hix
            go_roundw
            case rel => exact ⟨k + 1, A', c', by omega, by go_num, by rw [hsx.out], by rw [hsx.out]; exact HOW.out, hbk⟩
            case measure => simp [intOf]; omega
        · obtain rfl : k = 4 := by omega
          rw [hfl.out] at HOW ⊢
          have hfin := hid (hbr.out.trans (hbk.mono hw7))
          have hown2 := hid (own_mono HOW.out hw7)
          go_wp2_with fail
          go_ret
          exact ⟨A', c', rfl, hown2.out, hfin.out⟩
    · rw [decide_eq_false hmz] at heq
      have y0 := hz.frozen 0
      have y1 := hz.frozen 1
      have y2 := hz.frozen 2
      have y3 := hz.frozen 3
      have HMZ := hid hmz
      have HZ := hid hz
      clear hmz hz
      have hm' := hid hm
      go_wp2_with fail
      obtain ⟨w7, hw7, hb7, hk7, hz7⟩ := store4 HZ.out rfl (.bool m.a) (.bool m.b) (.bool m.c) (.bool m.d)
      rw [hw7]
      have hm7 : Blk w7 B 81 (b4C m) := hk7 _ _ _ (by omega) hm'.out
      have hbel7 : Below B w3 w7 := hbel.trans (hb7.mono (by omega))
      have hz7' : Blk w7 (B + 1) 81 (b4C m) := hz7
      have hmeas := hid (And.intro (b4At_blk hm) (b4At_blk HZ.out))
      clear hw7 hb7 hk7 hz7 c0 c1 c2 c3 c4 m0 m1 m2 m3 z0 z1 z2 z3 heq y0 y1 y2 y3 hm hblkr hb3r
      obtain ⟨w8, rfl⟩ : ∃ w8 : World, w8 = w7 := ⟨_, rfl⟩
      go_loopw [8, 30] (fun _ v30 wr => ∃ k : Nat, k ≤ t.chans.length ∧ v30 = .int .i64 (k : Int) ∧ Blk wr B 81 (b4C (metR m (t.chans.take k))) ∧ Blk wr (B + 1) 81 (b4C m) ∧ Below B w3 wr) (fun _ v30 _ => t.chans.length - (intOf v30).toNat)
      case atStart => exact ⟨0, by omega, rfl, hm7, hz7', hbel7⟩
      case round =>
        obtain ⟨k, hk, rfl, hmk, hzk, hbk⟩ := hrel
        have hb3k : Below w3.heap.size w3 wr := by rw [HBB.out]; exact hbk
        have hblkk := hblk3.belowS hb3k
        obtain ⟨c0, c1, c2, c3, c4⟩ := tab_cells hblkk
        simp only at c0 c1 c2 c3 c4
        have hb0k := bel_trans hb03 hb3k
        by_cases hkn : k < t.chans.length
        · have hinC := (HT.out.belowS hb0k).inn.2.2
          simp only at hinC
          obtain ⟨ad, x, rfl, had, hx, hc0, hc⟩ := hinC.at_ hkn
          have q0 := hc0 _ rfl
          have q1 := hc 0 _ rfl
          have q2 := hc 1 _ rfl
          obtain ⟨r1, r2, r3, r4, _⟩ := hcs.out x (List.mem_of_getElem? hx)
          have hmx : Hid (metR m (t.chans.take (k + 1)) = metC (metR m (t.chans.take k)) x) := by
            refine hid ?_
            rw [List.take_add_one, hx]
            exact metR_snoc _ _ _
          clear hc hc0 hx hinC
          obtain ⟨xs, xd, xe⟩ := x
          simp only at q0 q1 q2 r1 r2 r3 r4
          obtain ⟨sn, rfl⟩ : ∃ sn : Nat, xs = sn := ⟨xs.toNat, by omega⟩
          obtain ⟨dn, rfl⟩ : ∃ dn : Nat, xd = dn := ⟨xd.toNat, by omega⟩
          have hs4 : sn < 4 := by omega
          have hd4 : dn < 4 := by omega
          unfold metC at hmx
          simp only [Int.toNat_natCast] at hmx
          generalize metR m (t.chans.take k) = mk at hmk hmx
          obtain ⟨w9, hw9, hb9, hx9⟩ : ∃ w9 : World, wr.alloc (.cells #[.int .i64 (sn : Int), .int .i64 (dn : Int), .int .i64 xe] 34) = w9 ∧ Below wr.heap.size wr w9 ∧ Blk w9 wr.heap.size 34 [.int .i64 (sn : Int), .int .i64 (dn : Int), .int .i64 xe] := ⟨_, rfl, (Below.refl _ _).alloc (Nat.le_refl _) _, Blk.new _ _ _⟩
          have hmk9 := hmk.belowS hb9
          have hzk9 := hzk.belowS hb9
          have hbk9 : Below B w3 w9 := hbk.trans (hb9.mono (by have := hmk.lt; omega))
          have hBx : B < wr.heap.size := hmk.lt
          generalize hxb : wr.heap.size = xb at *
          go_wp2_with fail
          clear hw9 hxb c0 c1 c2 c3 c4 q0 q1 q2
          have x0 : w9.cell? ⟨xb, 0, none⟩ = some (.int .i64 (sn : Int)) := hx9.cellAt rfl
          have x1 : w9.cell? ⟨xb, 1, none⟩ = some (.int .i64 (dn : Int)) := hx9.cellAt rfl
          have y0 : w9.cell? ⟨B, sn, none⟩ = some (.bool (mk.get sn)) := by rw [hmk9.cell]; exact b4C_get _ hs4
          have y1 : w9.cell? ⟨B, dn, none⟩ = some (.bool (mk.get dn)) := by rw [hmk9.cell]; exact b4C_get _ hd4
          have y2 : w9.frozen? ⟨B, dn, none⟩ = false := hmk9.frozen dn
          have s0 : (0 : Int) ≤ (sn : Int) := Int.natCast_nonneg _
          have s1 : (sn : Int) < 4 := by omega
          have d0 : (0 : Int) ≤ (dn : Int) := Int.natCast_nonneg _
          have d1 : (dn : Int) < 4 := by omega
          have hfin : ∀ v, Hid (metR m (t.chans.take (k + 1)) = mk.put dn v) → Blk (w9.setCell ⟨B, dn, none⟩ (.bool v)) B 81 (b4C (metR m (t.chans.take (k + 1)))) := fun v hv => by
            rw [hv.out, ← b4C_set _ hd4]
            exact hmk9.set_ dn _
          have hfz : ∀ v, Blk (w9.setCell ⟨B, dn, none⟩ (.bool v)) (B + 1) 81 (b4C m) := fun v => hzk9.far (p := ⟨B, dn, none⟩) (by simp only; omega) _
          have hfb : ∀ v, Below B w3 (w9.setCell ⟨B, dn, none⟩ (.bool v)) := fun v => hbk9.setCell (p := ⟨B, dn, none⟩) (Nat.le_refl _) _
          have HFIN := hid (And.intro hfin (And.intro hfz hfb))
          clear hfin hfz hfb hmk hzk hmk9 hzk9 hbk9 hx9 hb9
          cases hg : mk.get dn with
          | true =>
            rw [hg] at y1
            have hv : Hid (metR m (t.chans.take (k + 1)) = mk.put dn true) := hid (by rw [hmx.out, hg]; rfl)
            clear hg
            go_region
            go_wp2_with fail
            go_roundw
            case rel => exact ⟨k + 1, by omega, by go_num, HFIN.out.1 _ hv, HFIN.out.2.1 _, (HFIN.out.2.2 _).drew⟩
            case measure => simp [intOf]; omega
          | false =>
            rw [hg] at y1
            have hv : Hid (metR m (t.chans.take (k + 1)) = mk.put dn (mk.get sn)) := hid (by rw [hmx.out, hg]; rfl)
            clear hg
            generalize mk.get sn = sv at y0 hv
            go_region
            go_wp2_with fail
            go_roundw
            case rel => exact ⟨k + 1, by omega, by go_num, HFIN.out.1 _ hv, HFIN.out.2.1 _, (HFIN.out.2.2 _).drew⟩
            case measure => simp [intOf]; omega
        · obtain rfl : k = t.chans.length := by omega
          rw [List.take_length] at hmk
          have hmet : Hid (Met t.chans p (metR m t.chans)) := hid (met_round HM.out (fun c hc => by have := hcs.out c hc; omega))
          have hstop : Hid (metR m t.chans = m → metR (metR m t.chans) t.chans = metR m t.chans) := hid (fun e => by rw [e, e])
          have hle := metR_le t.chans m (fun c hc => by have := hcs.out c hc; omega)
          have hb4a := hid (And.intro (b4At_blk hmk) (b4At_blk hzk))
          have HL := hid hle
          go_wp2_with fail
          go_roundw
          case rel => exact ⟨_, _, hmk, hzk, hmet, hstop, hbk⟩
          case measure =>
            rw [hb4a.out.1, hb4a.out.2, hmeas.out.1, hmeas.out.2, if_neg HMZ.out]
            by_cases e : metR m t.chans = m
            · rw [if_pos e, e]; omega
            · rw [if_neg e]
              have := B4.free_lt HL.out (fun h => e h.symm)
              omega
end Go.Proofs.Ytbnodcenlggcnaa
