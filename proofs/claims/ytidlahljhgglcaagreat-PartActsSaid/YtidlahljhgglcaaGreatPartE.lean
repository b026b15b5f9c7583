/-
  Law 23: the example holds.
-/
import Derived.Test.YtidlahljhgglcaaGreatPartR
import Derived.Test.YtidlahljhgglcaaGreatQc
import Derived.Test.YtidlahljhgglcaaGreatPortQ
namespace Go.Proofs.YtidlahljhgglcaaGreat
open Go.RowKit Go.ChangeShapes Go.WideShapes Go.ChangeAt

def exTP : TabS := ⟨4, [⟨4, 8, 0⟩, ⟨4, 8, 0⟩], [⟨0, 0, 1⟩], [], 1⟩
def exIP : ImgS := ⟨0, 1, 0, 1, 1, 0, 0, [17]⟩
theorem exTPr : rightB exTP = true := by decide
theorem exIPr : rightI exIP = true := by decide
theorem exPTick : (tickF exIP [] (freshS 1) (zeroW [])).1.fault = 16 := by rfl
theorem dNil : ∀ k, k < ([] : List ChanS).length → depthAt [] k ≤ 4 := by decide
theorem examplePt_any (w : World) :
    Calls Tryz.prog 26 #[] w fun e w' => (∃ A1 c1 A2 c2, e = .returned (.agg #[.int .i64 4, .slice A1 2 c1, .slice A2 1 c2, .slice none 0 0, .int .i64 1]) ∧ TabOk w' exTP ⟨A1, c1, A2, c2, none, 0⟩) ∧ Below w.heap.size w w' := by
  go_enter Tryz.func26, Tryz.ntmps26
  go_wp2_with fail
  go_returns
  refine ⟨⟨_, _, _, _, rfl, ⟨⟨?_, ?_, RdS.nil⟩, by simp [exTP], by simp [exTP], by simp [exTP], by simp [exTP], by simp [exTP]⟩⟩, ((((Below.refl _ _).alloc (Nat.le_refl _) _).alloc (by first | (simp; done) | (simp; omega)) _).alloc (by first | (simp; done) | (simp; omega)) _).alloc (by first | (simp; done) | (simp; omega)) _⟩
  · refine rds_two (T := 82) (Blk.alloc ?_ _) rfl
    exact Blk.newAt _ 82 (partC ⟨4, 8, 0⟩ ++ partC ⟨4, 8, 0⟩) _ (by simp)
  · exact rds_one (T := 85) (Blk.newAt _ 85 (winC ⟨0, 0, 1⟩) _ (by simp))
set_option maxRecDepth 100000 in
set_option maxHeartbeats 4000000 in
theorem wakesPt_any (w : World) : Calls Tryz.prog 4 #[] w fun e w' => e = .returned (.bool true) ∧ Below w.heap.size w w' := by
  go_enter Tryz.func4, Tryz.ntmps4
  go_wp2_with fail
  refine (examplePt_any _).mono ?_
  rintro e w2 ⟨⟨A1, c1, A2, c2, rfl, hT⟩, hb2⟩
  have i2 := hid (New_ok exTP ⟨A1, c1, A2, c2, none, 0⟩ w2 hT exTPr)
  have HB2 := hid hb2
  clear hT hb2
  go_wp2_with fail
  refine i2.out.mono ?_
  rintro e w3 ⟨F2, gs, rfl, hS, hb3, hF2⟩
  have HA3 := hid ((AllS.nil HB2.out).push hb3 (C := setC gs [] (zeroW [])) hS hF2)
  clear i2 hb3 hF2 hS HB2
  go_wp2_with fail
  refine (newPart_any _).mono ?_
  rintro e w4 ⟨rfl, rfl⟩
  have HA4 := hid (show AllS w [ptC w3.heap.size none 0, setC gs [] (zeroW [])] _ from HA3.out.made (T := 105) (xs := [.pointer none, .int .i64 0]))
  generalize w3.alloc (.cells #[.pointer none, .int .i64 0] 105) = w4 at HA4 ⊢
  generalize w3.heap.size = p at *
  have i5 := hid (boot_ok (HA4.out.belowS (below_alloc1 w4 (.cells #[.int .u8 17] 5))) (i := exIP) (some ⟨w4.heap.size, 0, none⟩) 1 (Reads.lit (n := 1) (size := 1) (heap_alloc_new w4 (.cells #[.int .u8 17] 5)) rfl) exIPr (by decide) (by decide))
  unfold imgV exIP at i5
  simp only [List.length_cons, List.length_nil] at i5
  clear HA3
  go_wp2_with fail
  refine i5.out.mono ?_
  rintro e w5 ⟨rfl, g, hA5⟩
  have HA5 := hid (show AllS w [ptC p (some g) 1, vmC g exIP (freshS exIP.mem.toNat), setC gs [] (zeroW [])] w5 from hA5)
  have hI := (rightI_iff _).1 exIPr
  have i6 := hid (run_ok HA5.out hI (fineFresh hI) (kZero [] (by decide)) dNil rfl (by decide) (by decide))
  have hfu : (tickF exIP [] (freshS exIP.mem.toNat) (zeroW [])).1.fault = 16 := exPTick
  have HFI := hid (tickF_keeps (cs := []) (fineFresh hI) (kZero [] (by decide))).1
  generalize tickF exIP [] (freshS exIP.mem.toNat) (zeroW []) = r at i6 hfu HFI
  obtain ⟨s', ss', sent, cf⟩ := r
  simp only at hfu
  have HFU := hid hfu
  clear hA5 i5 HA4 hfu
  go_wp2_with fail
  refine i6.out.mono ?_
  rintro e w6 ⟨A, c, B1, k1, B2, k2, rfl, hA6, _, _⟩
  unfold seenV
  simp only
  obtain ⟨N, hN⟩ : ∃ N, sent.length = N := ⟨_, rfl⟩
  obtain ⟨N1, hN1⟩ : ∃ N, s'.stack.length = N := ⟨_, rfl⟩
  obtain ⟨M1, hM1⟩ : ∃ N, s'.mem.length = N := ⟨_, rfl⟩
  rw [hN, hN1, hM1]
  have HA6 := hid hA6.drop
  clear hA6 i6 hN hN1 hM1
  have hI := hid ((rightI_iff _).1 exIPr)
  have j1 := hid (fun W (hb : Below w6.heap.size w6 W) => stands_any (HA6.out.belowS hb) hI.out HFI.out)
  have j2 := hid (fun W (hb : Below w6.heap.size w6 W) => runs_any (HA6.out.belowS hb) hI.out HFI.out)
  have j3 := hid (fun W (hb : Below w6.heap.size w6 W) => boots_any (HA6.out.belowS hb))
  simp only [HFU.out] at j1 j2
  rw [show ((16 : Int) != 0) = true from rfl] at j1
  rw [show ((16 : Int) == 0) = false from rfl] at j2
  go_wp2_with fail
  refine (j1.out _ (below_alloc1 _ _)).mono ?_
  rintro e w8 ⟨rfl, hb8⟩
  have HB8 := hid (bel_trans (below_alloc1 _ _) hb8)
  clear hb8 j1
  go_wp2_with fail
  refine (j2.out _ HB8.out).mono ?_
  rintro e w9 ⟨rfl, hb9⟩
  have HB9 := hid (bel_trans HB8.out hb9)
  clear hb9 j2
  go_wp2_with fail
  refine (j3.out _ HB9.out).mono ?_
  rintro e w10 ⟨rfl, rfl⟩
  have HBE := hid (bel_trans HA6.out.bel HB9.out)
  clear j3
  go_wp2_with fail
  go_ret
  exact ⟨rfl, HBE.out⟩
end Go.Proofs.YtidlahljhgglcaaGreat
