/-
  The reference of images: is one right?
-/
import Derived.Test.YtidlahljhgglcaaGreatImgRight
namespace Go.Proofs.YtidlahljhgglcaaGreat
open Go.RowKit

set_option maxRecDepth 100000 in
set_option maxHeartbeats 4000000 in
theorem refRightI_any (i : ImgS) (A : Option Addr) (c : Nat) (w : World) (hl : i.code.length ≤ 9223372036854775807) :
    Calls Tryz.prog 30 #[imgV i A c] w fun e w' => e = .returned (.bool (rightI i)) ∧ Below w.heap.size w w' := by
  have HI := hid (rightI_iff i)
  unfold RightI at HI
  obtain ⟨i0, i1, i2, i3, i4, i5, i6, code⟩ := i
  simp only [imgV] at HI hl ⊢
  generalize rightI ⟨i0, i1, i2, i3, i4, i5, i6, code⟩ = R at *
  generalize code.length = n at *
  obtain ⟨w1, hw1, hb1, hblk⟩ : ∃ w1 : World, w.alloc (.cells #[.int .i64 i0, .int .i64 i1, .int .i64 i2, .int .i64 i3, .int .i64 i4, .int .i64 i5, .int .i64 i6, .slice A n c] 47) = w1 ∧ Below w.heap.size w w1 ∧ Blk w1 w.heap.size 47 [.int .i64 i0, .int .i64 i1, .int .i64 i2, .int .i64 i3, .int .i64 i4, .int .i64 i5, .int .i64 i6, .slice A n c] :=
    ⟨_, rfl, (Below.refl _ _).alloc (Nat.le_refl _) _, Blk.new w _ [.int .i64 i0, .int .i64 i1, .int .i64 i2, .int .i64 i3, .int .i64 i4, .int .i64 i5, .int .i64 i6, .slice A n c]⟩
  have c0 := hblk.cellAt (i := 0) rfl
  have c1 := hblk.cellAt (i := 1) rfl
  have c2 := hblk.cellAt (i := 2) rfl
  have c3 := hblk.cellAt (i := 3) rfl
  have c4 := hblk.cellAt (i := 4) rfl
  have c5 := hblk.cellAt (i := 5) rfl
  have c6 := hblk.cellAt (i := 6) rfl
  have c7 := hblk.cellAt (i := 7) rfl
  clear hblk
  by_cases h0 : i0 < 0
  · have hR : R = false := Bool.eq_false_iff.2 (fun h => by have := HI.out.1 h; omega)
    subst hR
    have y0 : decide (i0 < 0) = true := by simp; omega
    clear h0 HI
    go_enter Tryz.func30, Tryz.ntmps30
    go_wp2_with fail
    go_ret
    exact ⟨ret_bool (by first | rfl | (simp; omega)), hb1⟩
  ·
    by_cases h1 : 3 < i0
    · have hR : R = false := Bool.eq_false_iff.2 (fun h => by have := HI.out.1 h; omega)
      subst hR
      have y0 : decide (i0 < 0) = false := by simp; omega
      have y1 : decide (3 < i0) = true := by simp; omega
      clear h0 h1 HI
      go_enter Tryz.func30, Tryz.ntmps30
      go_wp2_with fail
      go_ret
      exact ⟨ret_bool (by first | rfl | (simp; omega)), hb1⟩
    ·
      by_cases h2 : i1 < 1
      · have hR : R = false := Bool.eq_false_iff.2 (fun h => by have := HI.out.1 h; omega)
        subst hR
        have y0 : decide (i0 < 0) = false := by simp; omega
        have y1 : decide (3 < i0) = false := by simp; omega
        have y2 : decide (i1 < 1) = true := by simp; omega
        clear h0 h1 h2 HI
        go_enter Tryz.func30, Tryz.ntmps30
        go_wp2_with fail
        go_ret
        exact ⟨ret_bool (by first | rfl | (simp; omega)), hb1⟩
      ·
        by_cases h3 : 65535 < i1
        · have hR : R = false := Bool.eq_false_iff.2 (fun h => by have := HI.out.1 h; omega)
          subst hR
          have y0 : decide (i0 < 0) = false := by simp; omega
          have y1 : decide (3 < i0) = false := by simp; omega
          have y2 : decide (i1 < 1) = false := by simp; omega
          have y3 : decide (65535 < i1) = true := by simp; omega
          clear h0 h1 h2 h3 HI
          go_enter Tryz.func30, Tryz.ntmps30
          go_wp2_with fail
          go_ret
          exact ⟨ret_bool (by first | rfl | (simp; omega)), hb1⟩
        ·
          by_cases h4 : i2 < 0
          · have hR : R = false := Bool.eq_false_iff.2 (fun h => by have := HI.out.1 h; omega)
            subst hR
            have y0 : decide (i0 < 0) = false := by simp; omega
            have y1 : decide (3 < i0) = false := by simp; omega
            have y2 : decide (i1 < 1) = false := by simp; omega
            have y3 : decide (65535 < i1) = false := by simp; omega
            have y4 : decide (i2 < 0) = true := by simp; omega
            clear h0 h1 h2 h3 h4 HI
            go_enter Tryz.func30, Tryz.ntmps30
            go_wp2_with fail
            go_ret
            exact ⟨ret_bool (by first | rfl | (simp; omega)), hb1⟩
          ·
            by_cases h5 : 65535 < i2
            · have hR : R = false := Bool.eq_false_iff.2 (fun h => by have := HI.out.1 h; omega)
              subst hR
              have y0 : decide (i0 < 0) = false := by simp; omega
              have y1 : decide (3 < i0) = false := by simp; omega
              have y2 : decide (i1 < 1) = false := by simp; omega
              have y3 : decide (65535 < i1) = false := by simp; omega
              have y4 : decide (i2 < 0) = false := by simp; omega
              have y5 : decide (65535 < i2) = true := by simp; omega
              clear h0 h1 h2 h3 h4 h5 HI
              go_enter Tryz.func30, Tryz.ntmps30
              go_wp2_with fail
              go_ret
              exact ⟨ret_bool (by first | rfl | (simp; omega)), hb1⟩
            ·
              by_cases h6 : i3 < 1
              · have hR : R = false := Bool.eq_false_iff.2 (fun h => by have := HI.out.1 h; omega)
                subst hR
                have y0 : decide (i0 < 0) = false := by simp; omega
                have y1 : decide (3 < i0) = false := by simp; omega
                have y2 : decide (i1 < 1) = false := by simp; omega
                have y3 : decide (65535 < i1) = false := by simp; omega
                have y4 : decide (i2 < 0) = false := by simp; omega
                have y5 : decide (65535 < i2) = false := by simp; omega
                have y6 : decide (i3 < 1) = true := by simp; omega
                clear h0 h1 h2 h3 h4 h5 h6 HI
                go_enter Tryz.func30, Tryz.ntmps30
                go_wp2_with fail
                go_ret
                exact ⟨ret_bool (by first | rfl | (simp; omega)), hb1⟩
              ·
                by_cases h7 : 16 < i3
                · have hR : R = false := Bool.eq_false_iff.2 (fun h => by have := HI.out.1 h; omega)
                  subst hR
                  have y0 : decide (i0 < 0) = false := by simp; omega
                  have y1 : decide (3 < i0) = false := by simp; omega
                  have y2 : decide (i1 < 1) = false := by simp; omega
                  have y3 : decide (65535 < i1) = false := by simp; omega
                  have y4 : decide (i2 < 0) = false := by simp; omega
                  have y5 : decide (65535 < i2) = false := by simp; omega
                  have y6 : decide (i3 < 1) = false := by simp; omega
                  have y7 : decide (16 < i3) = true := by simp; omega
                  clear h0 h1 h2 h3 h4 h5 h6 h7 HI
                  go_enter Tryz.func30, Tryz.ntmps30
                  go_wp2_with fail
                  go_ret
                  exact ⟨ret_bool (by first | rfl | (simp; omega)), hb1⟩
                ·
                  by_cases h8 : i4 < 1
                  · have hR : R = false := Bool.eq_false_iff.2 (fun h => by have := HI.out.1 h; omega)
                    subst hR
                    have y0 : decide (i0 < 0) = false := by simp; omega
                    have y1 : decide (3 < i0) = false := by simp; omega
                    have y2 : decide (i1 < 1) = false := by simp; omega
                    have y3 : decide (65535 < i1) = false := by simp; omega
                    have y4 : decide (i2 < 0) = false := by simp; omega
                    have y5 : decide (65535 < i2) = false := by simp; omega
                    have y6 : decide (i3 < 1) = false := by simp; omega
                    have y7 : decide (16 < i3) = false := by simp; omega
                    have y8 : decide (i4 < 1) = true := by simp; omega
                    clear h0 h1 h2 h3 h4 h5 h6 h7 h8 HI
                    go_enter Tryz.func30, Tryz.ntmps30
                    go_wp2_with fail
                    go_ret
                    exact ⟨ret_bool (by first | rfl | (simp; omega)), hb1⟩
                  ·
                    by_cases h9 : 32 < i4
                    · have hR : R = false := Bool.eq_false_iff.2 (fun h => by have := HI.out.1 h; omega)
                      subst hR
                      have y0 : decide (i0 < 0) = false := by simp; omega
                      have y1 : decide (3 < i0) = false := by simp; omega
                      have y2 : decide (i1 < 1) = false := by simp; omega
                      have y3 : decide (65535 < i1) = false := by simp; omega
                      have y4 : decide (i2 < 0) = false := by simp; omega
                      have y5 : decide (65535 < i2) = false := by simp; omega
                      have y6 : decide (i3 < 1) = false := by simp; omega
                      have y7 : decide (16 < i3) = false := by simp; omega
                      have y8 : decide (i4 < 1) = false := by simp; omega
                      have y9 : decide (32 < i4) = true := by simp; omega
                      clear h0 h1 h2 h3 h4 h5 h6 h7 h8 h9 HI
                      go_enter Tryz.func30, Tryz.ntmps30
                      go_wp2_with fail
                      go_ret
                      exact ⟨ret_bool (by first | rfl | (simp; omega)), hb1⟩
                    ·
                      by_cases h10 : i5 < 0
                      · have hR : R = false := Bool.eq_false_iff.2 (fun h => by have := HI.out.1 h; omega)
                        subst hR
                        have y0 : decide (i0 < 0) = false := by simp; omega
                        have y1 : decide (3 < i0) = false := by simp; omega
                        have y2 : decide (i1 < 1) = false := by simp; omega
                        have y3 : decide (65535 < i1) = false := by simp; omega
                        have y4 : decide (i2 < 0) = false := by simp; omega
                        have y5 : decide (65535 < i2) = false := by simp; omega
                        have y6 : decide (i3 < 1) = false := by simp; omega
                        have y7 : decide (16 < i3) = false := by simp; omega
                        have y8 : decide (i4 < 1) = false := by simp; omega
                        have y9 : decide (32 < i4) = false := by simp; omega
                        have y10 : decide (i5 < 0) = true := by simp; omega
                        clear h0 h1 h2 h3 h4 h5 h6 h7 h8 h9 h10 HI
                        go_enter Tryz.func30, Tryz.ntmps30
                        go_wp2_with fail
                        go_ret
                        exact ⟨ret_bool (by first | rfl | (simp; omega)), hb1⟩
                      ·
                        by_cases h11 : 15 < i5
                        · have hR : R = false := Bool.eq_false_iff.2 (fun h => by have := HI.out.1 h; omega)
                          subst hR
                          have y0 : decide (i0 < 0) = false := by simp; omega
                          have y1 : decide (3 < i0) = false := by simp; omega
                          have y2 : decide (i1 < 1) = false := by simp; omega
                          have y3 : decide (65535 < i1) = false := by simp; omega
                          have y4 : decide (i2 < 0) = false := by simp; omega
                          have y5 : decide (65535 < i2) = false := by simp; omega
                          have y6 : decide (i3 < 1) = false := by simp; omega
                          have y7 : decide (16 < i3) = false := by simp; omega
                          have y8 : decide (i4 < 1) = false := by simp; omega
                          have y9 : decide (32 < i4) = false := by simp; omega
                          have y10 : decide (i5 < 0) = false := by simp; omega
                          have y11 : decide (15 < i5) = true := by simp; omega
                          clear h0 h1 h2 h3 h4 h5 h6 h7 h8 h9 h10 h11 HI
                          go_enter Tryz.func30, Tryz.ntmps30
                          go_wp2_with fail
                          go_ret
                          exact ⟨ret_bool (by first | rfl | (simp; omega)), hb1⟩
                        ·
                          by_cases h12 : i6 < 0
                          · have hR : R = false := Bool.eq_false_iff.2 (fun h => by have := HI.out.1 h; omega)
                            subst hR
                            have y0 : decide (i0 < 0) = false := by simp; omega
                            have y1 : decide (3 < i0) = false := by simp; omega
                            have y2 : decide (i1 < 1) = false := by simp; omega
                            have y3 : decide (65535 < i1) = false := by simp; omega
                            have y4 : decide (i2 < 0) = false := by simp; omega
                            have y5 : decide (65535 < i2) = false := by simp; omega
                            have y6 : decide (i3 < 1) = false := by simp; omega
                            have y7 : decide (16 < i3) = false := by simp; omega
                            have y8 : decide (i4 < 1) = false := by simp; omega
                            have y9 : decide (32 < i4) = false := by simp; omega
                            have y10 : decide (i5 < 0) = false := by simp; omega
                            have y11 : decide (15 < i5) = false := by simp; omega
                            have y12 : decide (i6 < 0) = true := by simp; omega
                            clear h0 h1 h2 h3 h4 h5 h6 h7 h8 h9 h10 h11 h12 HI
                            go_enter Tryz.func30, Tryz.ntmps30
                            go_wp2_with fail
                            go_ret
                            exact ⟨ret_bool (by first | rfl | (simp; omega)), hb1⟩
                          ·
                            by_cases h13 : 15 < i6
                            · have hR : R = false := Bool.eq_false_iff.2 (fun h => by have := HI.out.1 h; omega)
                              subst hR
                              have y0 : decide (i0 < 0) = false := by simp; omega
                              have y1 : decide (3 < i0) = false := by simp; omega
                              have y2 : decide (i1 < 1) = false := by simp; omega
                              have y3 : decide (65535 < i1) = false := by simp; omega
                              have y4 : decide (i2 < 0) = false := by simp; omega
                              have y5 : decide (65535 < i2) = false := by simp; omega
                              have y6 : decide (i3 < 1) = false := by simp; omega
                              have y7 : decide (16 < i3) = false := by simp; omega
                              have y8 : decide (i4 < 1) = false := by simp; omega
                              have y9 : decide (32 < i4) = false := by simp; omega
                              have y10 : decide (i5 < 0) = false := by simp; omega
                              have y11 : decide (15 < i5) = false := by simp; omega
                              have y12 : decide (i6 < 0) = false := by simp; omega
                              have y13 : decide (15 < i6) = true := by simp; omega
                              clear h0 h1 h2 h3 h4 h5 h6 h7 h8 h9 h10 h11 h12 h13 HI
                              go_enter Tryz.func30, Tryz.ntmps30
                              go_wp2_with fail
                              go_ret
                              exact ⟨ret_bool (by first | rfl | (simp; omega)), hb1⟩
                            ·
                              by_cases h14 : 1 ≤ (n : Int)
                              ·
                                by_cases h15 : (n : Int) ≤ 96
                                ·
                                  have hR : R = true := HI.out.2 (by omega)
                                  subst hR
                                  have y0 : decide (i0 < 0) = false := by simp; omega
                                  have y1 : decide (3 < i0) = false := by simp; omega
                                  have y2 : decide (i1 < 1) = false := by simp; omega
                                  have y3 : decide (65535 < i1) = false := by simp; omega
                                  have y4 : decide (i2 < 0) = false := by simp; omega
                                  have y5 : decide (65535 < i2) = false := by simp; omega
                                  have y6 : decide (i3 < 1) = false := by simp; omega
                                  have y7 : decide (16 < i3) = false := by simp; omega
                                  have y8 : decide (i4 < 1) = false := by simp; omega
                                  have y9 : decide (32 < i4) = false := by simp; omega
                                  have y10 : decide (i5 < 0) = false := by simp; omega
                                  have y11 : decide (15 < i5) = false := by simp; omega
                                  have y12 : decide (i6 < 0) = false := by simp; omega
                                  have y13 : decide (15 < i6) = false := by simp; omega
                                  have y14 : decide (1 ≤ (n : Int)) = true := by simp; omega
                                  have y15 : decide ((n : Int) ≤ 96) = true := by simp; omega
                                  clear h0 h1 h2 h3 h4 h5 h6 h7 h8 h9 h10 h11 h12 h13 h14 h15 HI
                                  go_enter Tryz.func30, Tryz.ntmps30
                                  go_wp2_with fail
                                  go_ret
                                  exact ⟨ret_bool (by first | rfl | (simp; omega)), hb1⟩
                                · have hR : R = false := Bool.eq_false_iff.2 (fun h => by have := HI.out.1 h; omega)
                                  subst hR
                                  have y0 : decide (i0 < 0) = false := by simp; omega
                                  have y1 : decide (3 < i0) = false := by simp; omega
                                  have y2 : decide (i1 < 1) = false := by simp; omega
                                  have y3 : decide (65535 < i1) = false := by simp; omega
                                  have y4 : decide (i2 < 0) = false := by simp; omega
                                  have y5 : decide (65535 < i2) = false := by simp; omega
                                  have y6 : decide (i3 < 1) = false := by simp; omega
                                  have y7 : decide (16 < i3) = false := by simp; omega
                                  have y8 : decide (i4 < 1) = false := by simp; omega
                                  have y9 : decide (32 < i4) = false := by simp; omega
                                  have y10 : decide (i5 < 0) = false := by simp; omega
                                  have y11 : decide (15 < i5) = false := by simp; omega
                                  have y12 : decide (i6 < 0) = false := by simp; omega
                                  have y13 : decide (15 < i6) = false := by simp; omega
                                  have y14 : decide (1 ≤ (n : Int)) = true := by simp; omega
                                  have y15 : decide ((n : Int) ≤ 96) = false := by simp; omega
                                  clear h0 h1 h2 h3 h4 h5 h6 h7 h8 h9 h10 h11 h12 h13 h14 h15 HI
                                  go_enter Tryz.func30, Tryz.ntmps30
                                  go_wp2_with fail
                                  go_ret
                                  exact ⟨ret_bool (by first | rfl | (simp; omega)), hb1⟩
                              · have hR : R = false := Bool.eq_false_iff.2 (fun h => by have := HI.out.1 h; omega)
                                subst hR
                                have y0 : decide (i0 < 0) = false := by simp; omega
                                have y1 : decide (3 < i0) = false := by simp; omega
                                have y2 : decide (i1 < 1) = false := by simp; omega
                                have y3 : decide (65535 < i1) = false := by simp; omega
                                have y4 : decide (i2 < 0) = false := by simp; omega
                                have y5 : decide (65535 < i2) = false := by simp; omega
                                have y6 : decide (i3 < 1) = false := by simp; omega
                                have y7 : decide (16 < i3) = false := by simp; omega
                                have y8 : decide (i4 < 1) = false := by simp; omega
                                have y9 : decide (32 < i4) = false := by simp; omega
                                have y10 : decide (i5 < 0) = false := by simp; omega
                                have y11 : decide (15 < i5) = false := by simp; omega
                                have y12 : decide (i6 < 0) = false := by simp; omega
                                have y13 : decide (15 < i6) = false := by simp; omega
                                have y14 : decide (1 ≤ (n : Int)) = false := by simp; omega
                                clear h0 h1 h2 h3 h4 h5 h6 h7 h8 h9 h10 h11 h12 h13 h14 HI
                                go_enter Tryz.func30, Tryz.ntmps30
                                go_wp2_with fail
                                go_ret
                                exact ⟨ret_bool (by first | rfl | (simp; omega)), hb1⟩
end Go.Proofs.YtidlahljhgglcaaGreat
