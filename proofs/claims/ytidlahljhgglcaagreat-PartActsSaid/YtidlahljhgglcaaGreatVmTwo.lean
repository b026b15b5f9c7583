/-
  What instructions do: those of two numbers.
-/
import Derived.Test.YtidlahljhgglcaaGreatVmDeeds
import Derived.StillTailTactics
import Derived.Deep.RegionHeld3
namespace Go.Proofs.YtidlahljhgglcaaGreat
open Go.RowKit Go.ChangeShapes Go.WideShapes Go.ChangeAt

section
variable {w w' : World} {F : Nat → Prop} {h g gs : Nat} {i : ImgS} {a : VmA} {cs : List ChanS} {pc ticks fault arg : Int} {Ao : Option Addr} {cO : Nat} {d : VmD}
theorem two_add (hf : ∀ (x y : Int) (w : World), InW x → InW y → Calls Tryz.prog 92 #[.int .i64 x, .int .i64 y] w fun e w' => e = .returned (.int .i64 ((fun x y => x + y) x y)) ∧ w' = w) (t : TickAt w F h g gs i cs pc ticks fault arg d) (hl : d.stack.length ≤ 100) (hst : ∀ x ∈ d.stack, InW x) :
    Calls Tryz.prog 91 #[.pointer (some ⟨h, 0, none⟩), .func (.func 92) #[] #[]] w (DPost F w h g gs i cs pc ticks fault arg (twoF (fun x y => x + y) d)) := by
  obtain ⟨f, hff⟩ : ∃ f : Int → Int → Int, (fun x y => x + y) = f := ⟨_, rfl⟩
  rw [hff] at hf ⊢
  clear hff
  have i1 := t.fits hl 2 1 2 1 rfl rfl (by omega) (by omega)
  have T := hid t
  obtain ⟨E, hE⟩ : ∃ E, fitsE d.stack.length 2 1 = E := ⟨_, rfl⟩
  rw [hE] at i1
  have I1 := hid i1
  clear i1 t
  by_cases h0 : E = 0
  · subst h0
    have hlen := (fits_ok hE).1
    have ir : Hid (twoF f d = (0, { d with stack := swapV d.stack 2 [f (topV d.stack 1) (topV d.stack 0)] })) := hid (if_pos hE)
    have hw1 := topV_in hst 1
    have hw0 := topV_in hst 0
    clear hE
    obtain ⟨x1, hx1⟩ : ∃ x, topV d.stack 1 = x := ⟨_, rfl⟩
    have j1 := hid (fun q => (T.out.drewN q).top hl 1 1 rfl (by omega))
    rw [hx1] at j1 ir hw1
    clear hx1
    obtain ⟨x0, hx0⟩ : ∃ x, topV d.stack 0 = x := ⟨_, rfl⟩
    have j0 := hid (fun q => (T.out.drewN q).top hl 0 0 rfl (by omega))
    rw [hx0] at j0 ir hw0
    clear hx0
    have jf := hid (fun w => hf x1 x0 w hw1 hw0)
    generalize f x1 x0 = z at jf ir
    clear hf
    go_enter Tryz.func91, Tryz.ntmps91
    go_wp2_with fail
    refine I1.out.mono ?_
    rintro e w1 ⟨rfl, rfl⟩
    go_wp2_with fail
    refine (j1.out 0).mono ?_
    rintro e w2 ⟨rfl, q1, hq1⟩
    rw [hq1]
    go_wp2_with fail
    refine (j0.out _).mono ?_
    rintro e w3 ⟨rfl, q2, hq2⟩
    have hb2 : Below w1.heap.size w1 w3 := by rw [hq2]; exact bel_trans (below_drewS _) (below_drewS q2)
    clear hq2 hq1
    have T2 := hid (T.out.belowS hb2)
    have HB2 := hid hb2
    clear hb2
    go_wp2_with fail
    refine (jf.out _).mono ?_
    rintro e w4 ⟨rfl, rfl⟩
    have i2 := hid ((T2.out.belowS (below_alloc1 w4 (.cells #[.int .i64 z] 3))).swap hl 2 2 rfl (by omega) [z] (some ⟨w4.heap.size, 0, none⟩) 1 1 rfl (by omega) (lit1V w4 z))
    go_wp2_with fail
    refine i2.out.mono ?_
    rintro e w5 ⟨rfl, F', ht, hg⟩
    have K := hid (And.intro ht hg)
    clear ht hg
    go_wp2_with fail
    go_ret
    rw [ir.out]
    exact ⟨F', rfl, K.out.1, ((Goes.of_below HB2.out).trans (Goes.of_below (below_alloc1 _ _))).trans K.out.2⟩
  · have ir : Hid (twoF f d = (E, d)) := hid (by have e0 : ¬ (fitsE d.stack.length 2 1 = 0) := (by rw [hE]; exact h0); rw [← hE]; exact if_neg e0)
    have y0 : (E != 0) = true := by simpa using h0
    clear hE h0 hf
    go_enter Tryz.func91, Tryz.ntmps91
    go_wp2_with fail
    refine I1.out.mono ?_
    rintro e w1 ⟨rfl, rfl⟩
    go_wp2_with fail
    go_ret
    rw [ir.out]
    exact DPost.same T.out rfl (Below.refl _ _)
theorem two_sub (hf : ∀ (x y : Int) (w : World), InW x → InW y → Calls Tryz.prog 93 #[.int .i64 x, .int .i64 y] w fun e w' => e = .returned (.int .i64 ((fun x y => x - y) x y)) ∧ w' = w) (t : TickAt w F h g gs i cs pc ticks fault arg d) (hl : d.stack.length ≤ 100) (hst : ∀ x ∈ d.stack, InW x) :
    Calls Tryz.prog 91 #[.pointer (some ⟨h, 0, none⟩), .func (.func 93) #[] #[]] w (DPost F w h g gs i cs pc ticks fault arg (twoF (fun x y => x - y) d)) := by
  obtain ⟨f, hff⟩ : ∃ f : Int → Int → Int, (fun x y => x - y) = f := ⟨_, rfl⟩
  rw [hff] at hf ⊢
  clear hff
  have i1 := t.fits hl 2 1 2 1 rfl rfl (by omega) (by omega)
  have T := hid t
  obtain ⟨E, hE⟩ : ∃ E, fitsE d.stack.length 2 1 = E := ⟨_, rfl⟩
  rw [hE] at i1
  have I1 := hid i1
  clear i1 t
  by_cases h0 : E = 0
  · subst h0
    have hlen := (fits_ok hE).1
    have ir : Hid (twoF f d = (0, { d with stack := swapV d.stack 2 [f (topV d.stack 1) (topV d.stack 0)] })) := hid (if_pos hE)
    have hw1 := topV_in hst 1
    have hw0 := topV_in hst 0
    clear hE
    obtain ⟨x1, hx1⟩ : ∃ x, topV d.stack 1 = x := ⟨_, rfl⟩
    have j1 := hid (fun q => (T.out.drewN q).top hl 1 1 rfl (by omega))
    rw [hx1] at j1 ir hw1
    clear hx1
    obtain ⟨x0, hx0⟩ : ∃ x, topV d.stack 0 = x := ⟨_, rfl⟩
    have j0 := hid (fun q => (T.out.drewN q).top hl 0 0 rfl (by omega))
    rw [hx0] at j0 ir hw0
    clear hx0
    have jf := hid (fun w => hf x1 x0 w hw1 hw0)
    generalize f x1 x0 = z at jf ir
    clear hf
    go_enter Tryz.func91, Tryz.ntmps91
    go_wp2_with fail
    refine I1.out.mono ?_
    rintro e w1 ⟨rfl, rfl⟩
    go_wp2_with fail
    refine (j1.out 0).mono ?_
    rintro e w2 ⟨rfl, q1, hq1⟩
    rw [hq1]
    go_wp2_with fail
    refine (j0.out _).mono ?_
    rintro e w3 ⟨rfl, q2, hq2⟩
    have hb2 : Below w1.heap.size w1 w3 := by rw [hq2]; exact bel_trans (below_drewS _) (below_drewS q2)
    clear hq2 hq1
    have T2 := hid (T.out.belowS hb2)
    have HB2 := hid hb2
    clear hb2
    go_wp2_with fail
    refine (jf.out _).mono ?_
    rintro e w4 ⟨rfl, rfl⟩
    have i2 := hid ((T2.out.belowS (below_alloc1 w4 (.cells #[.int .i64 z] 3))).swap hl 2 2 rfl (by omega) [z] (some ⟨w4.heap.size, 0, none⟩) 1 1 rfl (by omega) (lit1V w4 z))
    go_wp2_with fail
    refine i2.out.mono ?_
    rintro e w5 ⟨rfl, F', ht, hg⟩
    have K := hid (And.intro ht hg)
    clear ht hg
    go_wp2_with fail
    go_ret
    rw [ir.out]
    exact ⟨F', rfl, K.out.1, ((Goes.of_below HB2.out).trans (Goes.of_below (below_alloc1 _ _))).trans K.out.2⟩
  · have ir : Hid (twoF f d = (E, d)) := hid (by have e0 : ¬ (fitsE d.stack.length 2 1 = 0) := (by rw [hE]; exact h0); rw [← hE]; exact if_neg e0)
    have y0 : (E != 0) = true := by simpa using h0
    clear hE h0 hf
    go_enter Tryz.func91, Tryz.ntmps91
    go_wp2_with fail
    refine I1.out.mono ?_
    rintro e w1 ⟨rfl, rfl⟩
    go_wp2_with fail
    go_ret
    rw [ir.out]
    exact DPost.same T.out rfl (Below.refl _ _)
theorem two_mul (hf : ∀ (x y : Int) (w : World), InW x → InW y → Calls Tryz.prog 94 #[.int .i64 x, .int .i64 y] w fun e w' => e = .returned (.int .i64 ((fun x y => x * y) x y)) ∧ w' = w) (t : TickAt w F h g gs i cs pc ticks fault arg d) (hl : d.stack.length ≤ 100) (hst : ∀ x ∈ d.stack, InW x) :
    Calls Tryz.prog 91 #[.pointer (some ⟨h, 0, none⟩), .func (.func 94) #[] #[]] w (DPost F w h g gs i cs pc ticks fault arg (twoF (fun x y => x * y) d)) := by
  obtain ⟨f, hff⟩ : ∃ f : Int → Int → Int, (fun x y => x * y) = f := ⟨_, rfl⟩
  rw [hff] at hf ⊢
  clear hff
  have i1 := t.fits hl 2 1 2 1 rfl rfl (by omega) (by omega)
  have T := hid t
  obtain ⟨E, hE⟩ : ∃ E, fitsE d.stack.length 2 1 = E := ⟨_, rfl⟩
  rw [hE] at i1
  have I1 := hid i1
  clear i1 t
  by_cases h0 : E = 0
  · subst h0
    have hlen := (fits_ok hE).1
    have ir : Hid (twoF f d = (0, { d with stack := swapV d.stack 2 [f (topV d.stack 1) (topV d.stack 0)] })) := hid (if_pos hE)
    have hw1 := topV_in hst 1
    have hw0 := topV_in hst 0
    clear hE
    obtain ⟨x1, hx1⟩ : ∃ x, topV d.stack 1 = x := ⟨_, rfl⟩
    have j1 := hid (fun q => (T.out.drewN q).top hl 1 1 rfl (by omega))
    rw [hx1] at j1 ir hw1
    clear hx1
    obtain ⟨x0, hx0⟩ : ∃ x, topV d.stack 0 = x := ⟨_, rfl⟩
    have j0 := hid (fun q => (T.out.drewN q).top hl 0 0 rfl (by omega))
    rw [hx0] at j0 ir hw0
    clear hx0
    have jf := hid (fun w => hf x1 x0 w hw1 hw0)
    generalize f x1 x0 = z at jf ir
    clear hf
    go_enter Tryz.func91, Tryz.ntmps91
    go_wp2_with fail
    refine I1.out.mono ?_
    rintro e w1 ⟨rfl, rfl⟩
    go_wp2_with fail
    refine (j1.out 0).mono ?_
    rintro e w2 ⟨rfl, q1, hq1⟩
    rw [hq1]
    go_wp2_with fail
    refine (j0.out _).mono ?_
    rintro e w3 ⟨rfl, q2, hq2⟩
    have hb2 : Below w1.heap.size w1 w3 := by rw [hq2]; exact bel_trans (below_drewS _) (below_drewS q2)
    clear hq2 hq1
    have T2 := hid (T.out.belowS hb2)
    have HB2 := hid hb2
    clear hb2
    go_wp2_with fail
    refine (jf.out _).mono ?_
    rintro e w4 ⟨rfl, rfl⟩
    have i2 := hid ((T2.out.belowS (below_alloc1 w4 (.cells #[.int .i64 z] 3))).swap hl 2 2 rfl (by omega) [z] (some ⟨w4.heap.size, 0, none⟩) 1 1 rfl (by omega) (lit1V w4 z))
    go_wp2_with fail
    refine i2.out.mono ?_
    rintro e w5 ⟨rfl, F', ht, hg⟩
    have K := hid (And.intro ht hg)
    clear ht hg
    go_wp2_with fail
    go_ret
    rw [ir.out]
    exact ⟨F', rfl, K.out.1, ((Goes.of_below HB2.out).trans (Goes.of_below (below_alloc1 _ _))).trans K.out.2⟩
  · have ir : Hid (twoF f d = (E, d)) := hid (by have e0 : ¬ (fitsE d.stack.length 2 1 = 0) := (by rw [hE]; exact h0); rw [← hE]; exact if_neg e0)
    have y0 : (E != 0) = true := by simpa using h0
    clear hE h0 hf
    go_enter Tryz.func91, Tryz.ntmps91
    go_wp2_with fail
    refine I1.out.mono ?_
    rintro e w1 ⟨rfl, rfl⟩
    go_wp2_with fail
    go_ret
    rw [ir.out]
    exact DPost.same T.out rfl (Below.refl _ _)
theorem two_less (hf : ∀ (x y : Int) (w : World), InW x → InW y → Calls Tryz.prog 95 #[.int .i64 x, .int .i64 y] w fun e w' => e = .returned (.int .i64 ((fun x y => oneI (decide (x < y))) x y)) ∧ w' = w) (t : TickAt w F h g gs i cs pc ticks fault arg d) (hl : d.stack.length ≤ 100) (hst : ∀ x ∈ d.stack, InW x) :
    Calls Tryz.prog 91 #[.pointer (some ⟨h, 0, none⟩), .func (.func 95) #[] #[]] w (DPost F w h g gs i cs pc ticks fault arg (twoF (fun x y => oneI (decide (x < y))) d)) := by
  obtain ⟨f, hff⟩ : ∃ f : Int → Int → Int, (fun x y => oneI (decide (x < y))) = f := ⟨_, rfl⟩
  rw [hff] at hf ⊢
  clear hff
  have i1 := t.fits hl 2 1 2 1 rfl rfl (by omega) (by omega)
  have T := hid t
  obtain ⟨E, hE⟩ : ∃ E, fitsE d.stack.length 2 1 = E := ⟨_, rfl⟩
  rw [hE] at i1
  have I1 := hid i1
  clear i1 t
  by_cases h0 : E = 0
  · subst h0
    have hlen := (fits_ok hE).1
    have ir : Hid (twoF f d = (0, { d with stack := swapV d.stack 2 [f (topV d.stack 1) (topV d.stack 0)] })) := hid (if_pos hE)
    have hw1 := topV_in hst 1
    have hw0 := topV_in hst 0
    clear hE
    obtain ⟨x1, hx1⟩ : ∃ x, topV d.stack 1 = x := ⟨_, rfl⟩
    have j1 := hid (fun q => (T.out.drewN q).top hl 1 1 rfl (by omega))
    rw [hx1] at j1 ir hw1
    clear hx1
    obtain ⟨x0, hx0⟩ : ∃ x, topV d.stack 0 = x := ⟨_, rfl⟩
    have j0 := hid (fun q => (T.out.drewN q).top hl 0 0 rfl (by omega))
    rw [hx0] at j0 ir hw0
    clear hx0
    have jf := hid (fun w => hf x1 x0 w hw1 hw0)
    generalize f x1 x0 = z at jf ir
    clear hf
    go_enter Tryz.func91, Tryz.ntmps91
    go_wp2_with fail
    refine I1.out.mono ?_
    rintro e w1 ⟨rfl, rfl⟩
    go_wp2_with fail
    refine (j1.out 0).mono ?_
    rintro e w2 ⟨rfl, q1, hq1⟩
    rw [hq1]
    go_wp2_with fail
    refine (j0.out _).mono ?_
    rintro e w3 ⟨rfl, q2, hq2⟩
    have hb2 : Below w1.heap.size w1 w3 := by rw [hq2]; exact bel_trans (below_drewS _) (below_drewS q2)
    clear hq2 hq1
    have T2 := hid (T.out.belowS hb2)
    have HB2 := hid hb2
    clear hb2
    go_wp2_with fail
    refine (jf.out _).mono ?_
    rintro e w4 ⟨rfl, rfl⟩
    have i2 := hid ((T2.out.belowS (below_alloc1 w4 (.cells #[.int .i64 z] 3))).swap hl 2 2 rfl (by omega) [z] (some ⟨w4.heap.size, 0, none⟩) 1 1 rfl (by omega) (lit1V w4 z))
    go_wp2_with fail
    refine i2.out.mono ?_
    rintro e w5 ⟨rfl, F', ht, hg⟩
    have K := hid (And.intro ht hg)
    clear ht hg
    go_wp2_with fail
    go_ret
    rw [ir.out]
    exact ⟨F', rfl, K.out.1, ((Goes.of_below HB2.out).trans (Goes.of_below (below_alloc1 _ _))).trans K.out.2⟩
  · have ir : Hid (twoF f d = (E, d)) := hid (by have e0 : ¬ (fitsE d.stack.length 2 1 = 0) := (by rw [hE]; exact h0); rw [← hE]; exact if_neg e0)
    have y0 : (E != 0) = true := by simpa using h0
    clear hE h0 hf
    go_enter Tryz.func91, Tryz.ntmps91
    go_wp2_with fail
    refine I1.out.mono ?_
    rintro e w1 ⟨rfl, rfl⟩
    go_wp2_with fail
    go_ret
    rw [ir.out]
    exact DPost.same T.out rfl (Below.refl _ _)
theorem two_same (hf : ∀ (x y : Int) (w : World), InW x → InW y → Calls Tryz.prog 97 #[.int .i64 x, .int .i64 y] w fun e w' => e = .returned (.int .i64 ((fun x y => oneI (decide (x = y))) x y)) ∧ w' = w) (t : TickAt w F h g gs i cs pc ticks fault arg d) (hl : d.stack.length ≤ 100) (hst : ∀ x ∈ d.stack, InW x) :
    Calls Tryz.prog 91 #[.pointer (some ⟨h, 0, none⟩), .func (.func 97) #[] #[]] w (DPost F w h g gs i cs pc ticks fault arg (twoF (fun x y => oneI (decide (x = y))) d)) := by
  obtain ⟨f, hff⟩ : ∃ f : Int → Int → Int, (fun x y => oneI (decide (x = y))) = f := ⟨_, rfl⟩
  rw [hff] at hf ⊢
  clear hff
  have i1 := t.fits hl 2 1 2 1 rfl rfl (by omega) (by omega)
  have T := hid t
  obtain ⟨E, hE⟩ : ∃ E, fitsE d.stack.length 2 1 = E := ⟨_, rfl⟩
  rw [hE] at i1
  have I1 := hid i1
  clear i1 t
  by_cases h0 : E = 0
  · subst h0
    have hlen := (fits_ok hE).1
    have ir : Hid (twoF f d = (0, { d with stack := swapV d.stack 2 [f (topV d.stack 1) (topV d.stack 0)] })) := hid (if_pos hE)
    have hw1 := topV_in hst 1
    have hw0 := topV_in hst 0
    clear hE
    obtain ⟨x1, hx1⟩ : ∃ x, topV d.stack 1 = x := ⟨_, rfl⟩
    have j1 := hid (fun q => (T.out.drewN q).top hl 1 1 rfl (by omega))
    rw [hx1] at j1 ir hw1
    clear hx1
    obtain ⟨x0, hx0⟩ : ∃ x, topV d.stack 0 = x := ⟨_, rfl⟩
    have j0 := hid (fun q => (T.out.drewN q).top hl 0 0 rfl (by omega))
    rw [hx0] at j0 ir hw0
    clear hx0
    have jf := hid (fun w => hf x1 x0 w hw1 hw0)
    generalize f x1 x0 = z at jf ir
    clear hf
    go_enter Tryz.func91, Tryz.ntmps91
    go_wp2_with fail
    refine I1.out.mono ?_
    rintro e w1 ⟨rfl, rfl⟩
    go_wp2_with fail
    refine (j1.out 0).mono ?_
    rintro e w2 ⟨rfl, q1, hq1⟩
    rw [hq1]
    go_wp2_with fail
    refine (j0.out _).mono ?_
    rintro e w3 ⟨rfl, q2, hq2⟩
    have hb2 : Below w1.heap.size w1 w3 := by rw [hq2]; exact bel_trans (below_drewS _) (below_drewS q2)
    clear hq2 hq1
    have T2 := hid (T.out.belowS hb2)
    have HB2 := hid hb2
    clear hb2
    go_wp2_with fail
    refine (jf.out _).mono ?_
    rintro e w4 ⟨rfl, rfl⟩
    have i2 := hid ((T2.out.belowS (below_alloc1 w4 (.cells #[.int .i64 z] 3))).swap hl 2 2 rfl (by omega) [z] (some ⟨w4.heap.size, 0, none⟩) 1 1 rfl (by omega) (lit1V w4 z))
    go_wp2_with fail
    refine i2.out.mono ?_
    rintro e w5 ⟨rfl, F', ht, hg⟩
    have K := hid (And.intro ht hg)
    clear ht hg
    go_wp2_with fail
    go_ret
    rw [ir.out]
    exact ⟨F', rfl, K.out.1, ((Goes.of_below HB2.out).trans (Goes.of_below (below_alloc1 _ _))).trans K.out.2⟩
  · have ir : Hid (twoF f d = (E, d)) := hid (by have e0 : ¬ (fitsE d.stack.length 2 1 = 0) := (by rw [hE]; exact h0); rw [← hE]; exact if_neg e0)
    have y0 : (E != 0) = true := by simpa using h0
    clear hE h0 hf
    go_enter Tryz.func91, Tryz.ntmps91
    go_wp2_with fail
    refine I1.out.mono ?_
    rintro e w1 ⟨rfl, rfl⟩
    go_wp2_with fail
    go_ret
    rw [ir.out]
    exact DPost.same T.out rfl (Below.refl _ _)
theorem clo_add (x y : Int) (w : World) (hx : InW x) (hy : InW y) : Calls Tryz.prog 92 #[.int .i64 x, .int .i64 y] w fun e w' => e = .returned (.int .i64 (x + y)) ∧ w' = w := by
  obtain ⟨hx0, hx1⟩ := hx
  obtain ⟨hy0, hy1⟩ := hy
  go_enter Tryz.func92, Tryz.ntmps92
  go_wp2_with fail
  go_ret
  exact ⟨rfl, by first | trivial | rfl⟩
theorem clo_sub (x y : Int) (w : World) (hx : InW x) (hy : InW y) : Calls Tryz.prog 93 #[.int .i64 x, .int .i64 y] w fun e w' => e = .returned (.int .i64 (x - y)) ∧ w' = w := by
  obtain ⟨hx0, hx1⟩ := hx
  obtain ⟨hy0, hy1⟩ := hy
  go_enter Tryz.func93, Tryz.ntmps93
  go_wp2_with fail
  go_ret
  exact ⟨rfl, by first | trivial | rfl⟩
theorem clo_mul (x y : Int) (w : World) (hx : InW x) (hy : InW y) : Calls Tryz.prog 94 #[.int .i64 x, .int .i64 y] w fun e w' => e = .returned (.int .i64 (x * y)) ∧ w' = w := by
  obtain ⟨hx0, hx1⟩ := hx
  obtain ⟨hy0, hy1⟩ := hy
  have h1 : 0 ≤ x * y := Int.mul_nonneg hx0 hy0
  have h2 : x * y ≤ 65535 * 65535 := Int.mul_le_mul hx1 hy1 hy0 (by decide)
  have e1 : wrap64 (x * y) = x * y := IntWalk.wrap64_in _ ⟨by omega, by omega⟩
  go_enter Tryz.func94, Tryz.ntmps94
  go_wp2_with fail
  go_ret
  exact ⟨rfl, by first | trivial | rfl⟩
theorem one_any (b : Bool) (w : World) : Calls Tryz.prog 96 #[.bool b] w fun e w' => e = .returned (.int .i64 (oneI b)) ∧ w' = w := by
  cases b
  · go_enter Tryz.func96, Tryz.ntmps96
    go_wp2_with fail
    go_ret
    exact ⟨rfl, by first | trivial | rfl⟩
  · go_enter Tryz.func96, Tryz.ntmps96
    go_wp2_with fail
    go_ret
    exact ⟨rfl, by first | trivial | rfl⟩
theorem clo_less (x y : Int) (w : World) (hx : InW x) (hy : InW y) : Calls Tryz.prog 95 #[.int .i64 x, .int .i64 y] w fun e w' => e = .returned (.int .i64 (oneI (decide (x < y)))) ∧ w' = w := by
  obtain ⟨hx0, hx1⟩ := hx
  obtain ⟨hy0, hy1⟩ := hy
  go_enter Tryz.func95, Tryz.ntmps95
  go_wp2_with fail
  refine (one_any _ _).mono ?_
  rintro e w1 ⟨rfl, rfl⟩
  go_wp2_with fail
  go_ret
  exact ⟨rfl, by first | trivial | rfl⟩
theorem clo_same (x y : Int) (w : World) (hx : InW x) (hy : InW y) : Calls Tryz.prog 97 #[.int .i64 x, .int .i64 y] w fun e w' => e = .returned (.int .i64 (oneI (decide (x = y)))) ∧ w' = w := by
  obtain ⟨hx0, hx1⟩ := hx
  obtain ⟨hy0, hy1⟩ := hy
  have e0 : (x == y) = decide (x = y) := by by_cases hh : x = y <;> simp [hh]
  go_enter Tryz.func97, Tryz.ntmps97
  go_wp2_with fail
  refine (one_any _ _).mono ?_
  rintro e w1 ⟨rfl, rfl⟩
  go_wp2_with fail
  go_ret
  exact ⟨rfl, by first | trivial | rfl⟩
theorem deed_add (t : TickAt w F h g gs i cs pc ticks fault arg d) (hl : d.stack.length ≤ 100) (hst : ∀ x ∈ d.stack, InW x) :
    Calls Tryz.prog 65 #[.pointer (some ⟨h, 0, none⟩)] w (DPost F w h g gs i cs pc ticks fault arg (deedF i cs ticks 5 arg d)) := by
  show Calls _ _ _ _ (DPost F w h g gs i cs pc ticks fault arg (twoF (fun x y => x + y) d))
  have i1 := hid (two_add clo_add t hl hst)
  generalize twoF (fun x y => x + y) d = r at i1 ⊢
  clear t
  go_enter Tryz.func65, Tryz.ntmps65
  go_wp2_with fail
  refine i1.out.mono ?_
  rintro e w1 ⟨F', rfl, ht, hg⟩
  have K := hid (And.intro ht hg)
  clear ht hg
  go_wp2_with fail
  go_ret
  exact ⟨F', rfl, K.out.1, K.out.2⟩
theorem deed_sub (t : TickAt w F h g gs i cs pc ticks fault arg d) (hl : d.stack.length ≤ 100) (hst : ∀ x ∈ d.stack, InW x) :
    Calls Tryz.prog 66 #[.pointer (some ⟨h, 0, none⟩)] w (DPost F w h g gs i cs pc ticks fault arg (deedF i cs ticks 6 arg d)) := by
  show Calls _ _ _ _ (DPost F w h g gs i cs pc ticks fault arg (twoF (fun x y => x - y) d))
  have i1 := hid (two_sub clo_sub t hl hst)
  generalize twoF (fun x y => x - y) d = r at i1 ⊢
  clear t
  go_enter Tryz.func66, Tryz.ntmps66
  go_wp2_with fail
  refine i1.out.mono ?_
  rintro e w1 ⟨F', rfl, ht, hg⟩
  have K := hid (And.intro ht hg)
  clear ht hg
  go_wp2_with fail
  go_ret
  exact ⟨F', rfl, K.out.1, K.out.2⟩
theorem deed_mul (t : TickAt w F h g gs i cs pc ticks fault arg d) (hl : d.stack.length ≤ 100) (hst : ∀ x ∈ d.stack, InW x) :
    Calls Tryz.prog 67 #[.pointer (some ⟨h, 0, none⟩)] w (DPost F w h g gs i cs pc ticks fault arg (deedF i cs ticks 7 arg d)) := by
  show Calls _ _ _ _ (DPost F w h g gs i cs pc ticks fault arg (twoF (fun x y => x * y) d))
  have i1 := hid (two_mul clo_mul t hl hst)
  generalize twoF (fun x y => x * y) d = r at i1 ⊢
  clear t
  go_enter Tryz.func67, Tryz.ntmps67
  go_wp2_with fail
  refine i1.out.mono ?_
  rintro e w1 ⟨F', rfl, ht, hg⟩
  have K := hid (And.intro ht hg)
  clear ht hg
  go_wp2_with fail
  go_ret
  exact ⟨F', rfl, K.out.1, K.out.2⟩
theorem deed_less (t : TickAt w F h g gs i cs pc ticks fault arg d) (hl : d.stack.length ≤ 100) (hst : ∀ x ∈ d.stack, InW x) :
    Calls Tryz.prog 68 #[.pointer (some ⟨h, 0, none⟩)] w (DPost F w h g gs i cs pc ticks fault arg (deedF i cs ticks 8 arg d)) := by
  show Calls _ _ _ _ (DPost F w h g gs i cs pc ticks fault arg (twoF (fun x y => oneI (decide (x < y))) d))
  have i1 := hid (two_less clo_less t hl hst)
  generalize twoF (fun x y => oneI (decide (x < y))) d = r at i1 ⊢
  clear t
  go_enter Tryz.func68, Tryz.ntmps68
  go_wp2_with fail
  refine i1.out.mono ?_
  rintro e w1 ⟨F', rfl, ht, hg⟩
  have K := hid (And.intro ht hg)
  clear ht hg
  go_wp2_with fail
  go_ret
  exact ⟨F', rfl, K.out.1, K.out.2⟩
theorem deed_same (t : TickAt w F h g gs i cs pc ticks fault arg d) (hl : d.stack.length ≤ 100) (hst : ∀ x ∈ d.stack, InW x) :
    Calls Tryz.prog 69 #[.pointer (some ⟨h, 0, none⟩)] w (DPost F w h g gs i cs pc ticks fault arg (deedF i cs ticks 9 arg d)) := by
  show Calls _ _ _ _ (DPost F w h g gs i cs pc ticks fault arg (twoF (fun x y => oneI (decide (x = y))) d))
  have i1 := hid (two_same clo_same t hl hst)
  generalize twoF (fun x y => oneI (decide (x = y))) d = r at i1 ⊢
  clear t
  go_enter Tryz.func69, Tryz.ntmps69
  go_wp2_with fail
  refine i1.out.mono ?_
  rintro e w1 ⟨F', rfl, ht, hg⟩
  have K := hid (And.intro ht hg)
  clear ht hg
  go_wp2_with fail
  go_ret
  exact ⟨F', rfl, K.out.1, K.out.2⟩
end
end Go.Proofs.YtidlahljhgglcaaGreat
