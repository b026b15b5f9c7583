/-
  Package link: two frames change places; a byte is spoilt.
-/
import Derived.Test.YthnifgcoikmihaaLinkActs
import Derived.BigRegion
namespace Go.Proofs.Ythnifgcoikmihaa
open Go.RowKit

theorem cut2 {P : Prop} (h : P) : P := h
theorem Mine.frozen {w : World} {h n : Nat} {l : List UInt8} (hm : Mine w h n l) (j : Nat) (hj : j < n) : w.frozen? ⟨h, j, none⟩ = false := by
  obtain ⟨h0, cur, h1, h2, h3⟩ := hm
  simp [World.frozen?, h1]
  omega
theorem Mine.set_ {w : World} {h n : Nat} {l : List UInt8} (hm : Mine w h n l) (j : Nat) (x : UInt8) : Mine (w.setCell ⟨h, j, none⟩ (bV x)) h n (l.set j x) := by
  obtain ⟨h0, cur, h1, h2, h3⟩ := hm
  refine ⟨by simpa using h0, cur.setIfInBounds j (bV x), ?_, by simpa using h2, ?_⟩
  · have := (Array.getElem?_eq_some_iff.1 h1).1
    simp only [World.setCell, Array.getElem?_modify, h1]
    simp
  · rw [Array.toList_setIfInBounds, List.take_set, h3, List.map_set]
/-- 'wrong' asked for two frames. -/
def twoE (q : Ways) (way i j : Int) : Int := if way < 0 ∨ 2 ≤ way then 3 else if outB (q way.toNat) i || outB (q way.toNat) j then 5 else 0
theorem wrong_two (F : Nat → Prop) (g : Nat) (q : Ways) (way i j : Int) (w : World) (h : LinkAt w F g q) : Calls Try.prog 36 #[.pointer (some ⟨g, 0, none⟩), .int .i64 way, .slice (some ⟨w.heap.size, 0, none⟩) 2 2] (w.alloc (.cells #[.int .i64 i, .int .i64 j] 3)) fun e w' => e = .returned (.int .i64 (twoE q way i j)) ∧ w.alloc (.cells #[.int .i64 i, .int .i64 j] 3) = w' := by
  unfold twoE
  by_cases hw : way < 0 ∨ 2 ≤ way
  · rw [if_pos hw]
    exact wrong_way g way _ _ _ _ hw
  · rw [if_neg hw]
    obtain ⟨k, rfl, hk⟩ := two_of hw
    rw [Int.toNat_natCast]
    obtain ⟨A, c, hc, hn, _⟩ := (h.alloc (.cells #[.int .i64 i, .int .i64 j] 3)).cell hk
    have : (if outB (q k) i || outB (q k) j then 5 else 0) = wrongE (q k) [i, j] := by simp [wrongE]
    rw [this]
    exact wrong_any g k hk _ 2 2 [i, j] A c (q k) _ (lit2 w i j) (by omega) hc (by omega)
theorem out_no {x : List (List UInt8)} {i : Int} (h : outB x i = false) : ∃ j : Nat, i = j ∧ j < x.length := by
  simp only [outB, Bool.or_eq_false_iff, decide_eq_false_iff_not] at h
  exact ⟨i.toNat, by omega, by omega⟩
theorem twoE_ok {q : Ways} {way i j : Int} (h : twoE q way i j = 0) : ∃ k a b : Nat, way = k ∧ i = a ∧ j = b ∧ k < 2 ∧ a < (q k).length ∧ b < (q k).length := by
  unfold twoE at h
  by_cases hw : way < 0 ∨ 2 ≤ way
  · rw [if_pos hw] at h; omega
  · rw [if_neg hw] at h
    obtain ⟨k, rfl, hk⟩ := two_of hw
    rw [Int.toNat_natCast] at h
    by_cases ho : (outB (q k) i || outB (q k) j) = true
    · rw [if_pos ho] at h; omega
    · have ho' : (outB (q k) i || outB (q k) j) = false := by simpa using ho
      rw [Bool.or_eq_false_iff] at ho'
      obtain ⟨a, h1, h2⟩ := out_no ho'.1
      obtain ⟨b, h3, h4⟩ := out_no ho'.2
      exact ⟨k, a, b, rfl, h1, h3, hk, h2, h4⟩
/-- A way whose frames were written in place. -/
theorem link_write {w w' : World} {F : Nat → Prop} {g k a0 : Nat} (hk : k < 2) {c : Nat} {x y : List (List UInt8)} {A' : Option Addr} {c' : Nat} {q : Ways}
    (h : LinkIn w g k (some ⟨a0, 0, none⟩) c x A' c' (q (1 - k))) (hF : ∀ b, F b ↔ LF g (some ⟨a0, 0, none⟩) A' b) (hb : Apart (fun b => b = a0) w w') (hr : Row w' 9 (some ⟨a0, 0, none⟩) y.length c (y.map sV)) (hl : y.length = x.length) :
    LinkAt w' F g (upd q k y) ∧ Goes F w F w' := by
  have hgA : ¬ Foot (some ⟨a0, 0, none⟩) g := h.r.type_ne h.blk (by decide)
  rw [foot_some] at hgA
  have hin : LinkIn w' g k (some ⟨a0, 0, none⟩) c y A' c' (q (1 - k)) := by
    refine ⟨?_, hr, h.r'.apart hb (fun b h1 h2 => h.ap b (foot_some.2 h2) h1), h.ap, by rw [hl]; exact h.n, h.n'⟩
    rw [hl]
    exact h.blk.apart hb hgA
  have hat := hin.at_ hk
  have he : LF g (some ⟨a0, 0, none⟩) A' = F := funext fun b => propext (hF b).symm
  rw [he] at hat
  refine ⟨hat, ⟨⟨hb.os, hb.tape, hb.output, hb.size, fun b hbs hf => hb.block b hbs (fun e => hf ((hF b).2 (.inr (.inl (foot_some.2 e)))))⟩, fun b hf => .inl hf⟩⟩
theorem row_two {w : World} {a0 n c a b : Nat} {x : List (List UInt8)} {fa fb : List UInt8} (h : Row w 9 (some ⟨a0, 0, none⟩) n c (x.map sV)) :
    Row (((w.setCell ⟨a0, a, none⟩ (sV fb)).setCell ⟨a0, b, none⟩ (sV fa)).drew) 9 (some ⟨a0, 0, none⟩) n c (((x.set a fb).set b fa).map sV) ∧ Apart (fun b => b = a0) w (((w.setCell ⟨a0, a, none⟩ (sV fb)).setCell ⟨a0, b, none⟩ (sV fa)).drew) := by
  refine ⟨?_, (((Apart.refl (fun b => b = a0) w).setCell (p := ⟨a0, a, none⟩) (.inl rfl) _).setCell (p := ⟨a0, b, none⟩) (.inl rfl) _).drew⟩
  have := (h.set_ a (sV fb)).set_ b (sV fa)
  rw [List.map_set, List.map_set]
  exact this.drew
def swapL (x : List (List UInt8)) (a b : Nat) : List (List UInt8) := (x.set a (x.getD b [])).set b (x.getD a [])
def swapQ (q : Ways) (way i j : Int) : Ways := if twoE q way i j = 0 then upd q way.toNat (swapL (q way.toNat) i.toNat j.toNat) else q
theorem twoE_bad {q : Ways} {way i j : Int} (h : twoE q way i j ≠ 0) : ((twoE q way i j) == 0) = false := by simpa using h
theorem swapL_len (x : List (List UInt8)) (a b : Nat) : (swapL x a b).length = x.length := by simp [swapL]
set_option maxHeartbeats 2000000 in
theorem swap_any (F : Nat → Prop) (g : Nat) (q : Ways) (way i j : Int) (w : World) (h : LinkAt w F g q) :
    Calls Try.prog 19 #[.pointer (some ⟨g, 0, none⟩), .int .i64 way, .int .i64 i, .int .i64 j] w (LPost F w g (.returned (.int .i64 (twoE q way i j))) (swapQ q way i j)) := by
  have hb := hid ((Below.refl w.heap.size w).alloc (Nat.le_refl _) (.cells #[.int .i64 i, .int .i64 j] 3))
  have HL := hid (h.alloc (.cells #[.int .i64 i, .int .i64 j] 3))
  have i1 := hid (wrong_two F g q way i j w h)
  unfold swapQ
  by_cases he : twoE q way i j = 0
  · obtain ⟨k, a, b, rfl, rfl, rfl, hk, ha, hbl⟩ := twoE_ok he
    rw [if_pos he]
    rw [he] at i1 ⊢
    rw [Int.toNat_natCast, Int.toNat_natCast, Int.toNat_natCast]
    obtain ⟨A, c, A', c', hin, HF⟩ := HL.out.one hk
    generalize hx : q k = x at ha hbl hin ⊢
    have hc := lcell0 hk hin.blk
    have hn := hin.n
    obtain ⟨a0, rfl, _⟩ := hin.r.form (by omega)
    have hs := hin.r.cell (j := a) (u := sV x[a]) (by rw [List.getElem?_map, List.getElem?_eq_getElem ha]; rfl)
    have hs2 := hin.r.cell (j := b) (u := sV x[b]) (by rw [List.getElem?_map, List.getElem?_eq_getElem hbl]; rfl)
    have hz := hin.r.frozen
    have hz1 := hz a
    have hz2 := hz b
    have hw1 : Hid (swapL x a b = (x.set a x[b]).set b x[a]) := by
      refine hid ?_
      unfold swapL
      simp [List.getD, ha, hbl]
    have Hin := hid hin
    have HF := hid HF
    generalize x[a] = fa at hs hw1
    generalize x[b] = fb at hs2 hw1
    have hk0 : (0 : Int) ≤ (k : Int) := Int.natCast_nonneg _
    have hk2 : (k : Int) < 2 := by omega
    have ha0 : (0 : Int) ≤ (a : Int) := Int.natCast_nonneg _
    have hb0 : (0 : Int) ≤ (b : Int) := Int.natCast_nonneg _
    unfold sV at hs hs2
    clear he h hx hin hz
    by_cases hab : a = b
    · subst hab
      go_enter Try.func19, Try.ntmps19
      go_wp2_with fail
      refine i1.out.mono ?_
      rintro e w1 ⟨rfl, rfl⟩
      go_wp2_with fail
      generalize w.alloc (.cells #[.int .i64 a, .int .i64 a] 3) = w1 at *
      go_region
      all_goals
        go_wp2_with fail
        go_ret
        obtain ⟨h1, h2⟩ := row_two (a := a) (b := a) (fa := fa) (fb := fa) Hin.out.r
        obtain ⟨h3, h4⟩ := link_write hk Hin.out HF.out h2 (y := swapL x a a) (by rw [swapL_len, hw1.out, List.set_set, ← List.set_set (a := fa)]; exact h1) (swapL_len _ _ _)
        exact ⟨F, rfl, h3, (Goes.of_below hb.out).trans h4⟩
    · have hab2 : b ≠ a := fun e => hab e.symm
      go_enter Try.func19, Try.ntmps19
      go_wp2_with fail
      refine i1.out.mono ?_
      rintro e w1 ⟨rfl, rfl⟩
      go_wp2_with fail
      generalize w.alloc (.cells #[.int .i64 a, .int .i64 b] 3) = w1 at *
      go_region
      all_goals
        go_wp2_with fail
        go_ret
        obtain ⟨h1, h2⟩ := row_two (a := a) (b := b) (fa := fa) (fb := fb) Hin.out.r
        obtain ⟨h3, h4⟩ := link_write hk Hin.out HF.out h2 (y := swapL x a b) (by rw [swapL_len, hw1.out]; exact h1) (swapL_len _ _ _)
        exact ⟨F, rfl, h3, (Goes.of_below hb.out).trans h4⟩
  · rw [if_neg he]
    have he2 := twoE_bad he
    generalize twoE q way i j = x at i1 he2 ⊢
    clear he h
    go_enter Try.func19, Try.ntmps19
    go_wp2_with fail
    refine i1.out.mono ?_
    rintro e w1 ⟨rfl, rfl⟩
    go_wp2_with fail
    go_ret
    exact ⟨F, rfl, HL.out, Goes.of_below hb.out⟩
/-- A byte of a frame is spoilt. -/
def spoilF (f : List UInt8) (at_ : Nat) (d : Int) : List UInt8 := f.set at_ (UInt8.ofNat (((f.getD at_ 0).toNat + d) % 256).toNat)
def spoilE (q : Ways) (way i at_ : Int) : Int :=
  if oneE q way i = 0 then if at_ < 0 ∨ (((q way.toNat).getD i.toNat []).length : Int) ≤ at_ then 6 else 0 else oneE q way i
def spoilQ (q : Ways) (way i at_ d : Int) : Ways :=
  if spoilE q way i at_ = 0 then upd q way.toNat ((q way.toNat).set i.toNat (spoilF ((q way.toNat).getD i.toNat []) at_.toNat d)) else q
set_option maxHeartbeats 2000000 in
theorem spoil_any (F : Nat → Prop) (g : Nat) (q : Ways) (way i at_ d : Int) (w : World) (h : LinkAt w F g q) :
    Calls Try.prog 26 #[.pointer (some ⟨g, 0, none⟩), .int .i64 way, .int .i64 i, .int .i64 at_, .int .i64 d] w (LPost F w g (.returned (.int .i64 (spoilE q way i at_))) (spoilQ q way i at_ d)) := by
  have hb := hid ((Below.refl w.heap.size w).alloc (Nat.le_refl _) (.cells #[.int .i64 i] 3))
  have HL := hid (h.alloc (.cells #[.int .i64 i] 3))
  have i1 := hid (wrong_one F g q way i w h)
  unfold spoilQ spoilE
  by_cases he : oneE q way i = 0
  · obtain ⟨k, a, rfl, rfl, hk, ha⟩ := oneE_ok he
    rw [if_pos he]
    rw [he] at i1
    rw [Int.toNat_natCast, Int.toNat_natCast]
    obtain ⟨A, c, A', c', hin, HF⟩ := HL.out.one hk
    generalize hx : q k = x at ha hin ⊢
    have hc := lcell0 hk hin.blk
    have hn := hin.n
    obtain ⟨a0, rfl, ha00⟩ := hin.r.form (by omega)
    have hs := hin.r.cell (j := a) (u := sV x[a]) (by rw [List.getElem?_map, List.getElem?_eq_getElem ha]; rfl)
    rw [show x.getD a [] = x[a] by simp [List.getD, ha]]
    generalize x[a] = f at hs ⊢
    unfold sV at hs
    have hk0 : (0 : Int) ≤ (k : Int) := Int.natCast_nonneg _
    have hk2 : (k : Int) < 2 := by omega
    have ha0 : (0 : Int) ≤ (a : Int) := Int.natCast_nonneg _
    have Hin := hid hin
    have HF := hid HF
    have kc := bytes_of
    clear he h hx hin
    by_cases hat : at_ < 0 ∨ (f.length : Int) ≤ at_
    · rw [if_pos hat, if_neg (by decide)]
      rcases hat with hat | hat
      · have hat2 : decide (at_ < 0) = true := decide_eq_true hat
        go_enter Try.func26, Try.ntmps26
        go_wp2_with fail
        refine i1.out.mono ?_
        rintro e w1 ⟨rfl, rfl⟩
        go_wp2_with fail
        go_ret
        have hbb := below_bytes (w.alloc (.cells #[.int .i64 a] 3)) f
        exact ⟨F, rfl, HL.out.belowS hbb, (Goes.of_below hb.out).trans (Goes.of_below hbb)⟩
      · have hat2 : decide (at_ < 0) = false := decide_eq_false (by omega)
        go_enter Try.func26, Try.ntmps26
        go_wp2_with fail
        refine i1.out.mono ?_
        rintro e w1 ⟨rfl, rfl⟩
        go_wp2_with fail
        go_ret
        have hbb := below_bytes (w.alloc (.cells #[.int .i64 a] 3)) f
        exact ⟨F, rfl, HL.out.belowS hbb, (Goes.of_below hb.out).trans (Goes.of_below hbb)⟩
    · rw [if_neg hat]
      obtain ⟨p, rfl⟩ : ∃ p : Nat, at_ = p := ⟨at_.toNat, by omega⟩
      have hp : p < f.length := by omega
      have hp0 : (0 : Int) ≤ (p : Int) := Int.natCast_nonneg _
      have hat2 : decide ((p : Int) < 0) = false := decide_eq_false (by omega)
      have hat3 : decide ((f.length : Int) ≤ (p : Int)) = false := decide_eq_false (by omega)
      rw [if_pos rfl, Int.toNat_natCast]
      clear hat
      go_enter Try.func26, Try.ntmps26
      go_wp2_with fail
      refine i1.out.mono ?_
      rintro e w1 ⟨rfl, rfl⟩
      generalize w.alloc (.cells #[.int .i64 a] 3) = w1 at *
      have hm := mine_new w1 f
      have hmc := hm.cell (j := p) (x := f[p]) (List.getElem?_eq_getElem hp)
      have hmf := hm.frozen p hp
      have hfp : Hid (spoilF f p d = f.set p (UInt8.ofNat (((f[p].toNat : Int) + d) % 256).toNat)) := by
        refine hid ?_
        unfold spoilF
        simp [List.getD, hp]
      obtain ⟨b2, hb2, hb3⟩ : ∃ b2 : UInt8, ((f[p].toNat : Int) + d) % 256 = (b2.toNat : Int) ∧ UInt8.ofNat (((f[p].toNat : Int) + d) % 256).toNat = b2 := by
        refine ⟨UInt8.ofNat (((f[p].toNat : Int) + d) % 256).toNat, ?_, rfl⟩
        rw [UInt8.toNat_ofNat']
        omega
      rw [hb3] at hfp
      go_wp2_with fail
      have hbw : Below w1.heap.size w1 ((Lib.bytesWorld w1 5 ⟨f.toArray⟩).setCell ⟨w1.heap.size, p, none⟩ (.int .u8 (b2.toNat : Int))) := (below_bytes w1 f).setCell (p := ⟨w1.heap.size, p, none⟩) (Nat.le_refl _) _
      have hm2 := hm.set_ p b2
      clear hb2 hb3 kc hm hmc hmf i1
      generalize (Lib.bytesWorld w1 5 ⟨f.toArray⟩).setCell ⟨w1.heap.size, p, none⟩ (.int .u8 (b2.toNat : Int)) = w2 at *
      have hm3 : Reads w2 w2.heap.size 1 (some ⟨w1.heap.size, 0, none⟩) f.length ((f.set p b2).map bV) := hm2.reads
      have kb := string_of (c := grownCap w1 f.length 0 5) hm3
      have kb2 := string_of (c := grownCap w1 f.length 0 5) hm3.drew
      have Hin2 : Hid (LinkIn w2 g k (some ⟨a0, 0, none⟩) c x A' c' (q (1 - k))) := hid ⟨Hin.out.blk.belowS hbw, Hin.out.r.belowS hbw, Hin.out.r'.belowS hbw, Hin.out.ap, Hin.out.n, Hin.out.n'⟩
      have hc2 := lcell0 hk Hin2.out.blk
      have hs3 : w2.cell? ⟨a0, a, none⟩ = some (.string ⟨f.toArray⟩) := (hbw.cell (p := ⟨a0, a, none⟩) (Hin.out.r.lt (foot_some.2 rfl))).trans hs
      have hz2 := Hin2.out.r.frozen a
      clear hc hs hm3 hm2
      have Hbw := hid hbw
      clear hbw
      go_region
      all_goals
        go_wp2_with fail
        go_ret
        have h1 : Row ((w2.setCell ⟨a0, a, none⟩ (sV (f.set p b2))).drew) 9 (some ⟨a0, 0, none⟩) x.length c ((x.set a (f.set p b2)).map sV) := by
          rw [List.map_set]
          exact (Hin2.out.r.set_ a _).drew
        obtain ⟨h3, h4⟩ := link_write hk Hin2.out HF.out (((Apart.refl (fun b => b = a0) w2).setCell (p := ⟨a0, a, none⟩) (.inl rfl) (sV (f.set p b2))).drew) (y := x.set a (f.set p b2)) (by rw [List.length_set]; exact h1) (List.length_set ..)
        rw [hfp.out]
        exact ⟨F, rfl, h3, ((Goes.of_below hb.out).trans (Goes.of_below Hbw.out)).trans h4⟩
  · rw [if_neg he, if_neg he]
    have he2 := oneE_bad he
    generalize oneE q way i = x at i1 he2 ⊢
    clear he h
    go_enter Try.func26, Try.ntmps26
    go_wp2_with fail
    refine i1.out.mono ?_
    rintro e w1 ⟨rfl, rfl⟩
    go_wp2_with fail
    go_ret
    exact ⟨F, rfl, HL.out, Goes.of_below hb.out⟩
end Go.Proofs.Ythnifgcoikmihaa
