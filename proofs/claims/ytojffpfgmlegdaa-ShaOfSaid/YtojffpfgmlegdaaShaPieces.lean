/-
  ShaPieces: written piece by piece, and asked in between, the digest is the whole's; as many bytes are told as were written. For every input.
-/
import Derived.Test.YtojffpfgmlegdaaShaNil
namespace Go.Proofs.Ytojffpfgmlegdaa
open Go.RowKit Go.ChangeShapes Go.WideShapes Go.ChangeAt

theorem sh_own_grown {w w' : World} {base g : Nat} {e : TypeId} {size : Nat} {v : Value} {n : Nat} {xs : List Value} (h : w.ownsRow base e size v n xs) (hg : w.grownBy w' (some g)) (hb : g < base) : w'.ownsRow base e size v n xs := by
  refine ⟨h.1, ?_⟩
  rcases h.2 with h2 | ⟨g', cap, cur, hv, hg', hh, r⟩
  · exact .inl h2
  · exact .inr ⟨g', cap, cur, hv, hg', (hg.block g' (Array.getElem?_eq_some_iff.1 hh).1 (fun e => by injection e with e; omega)).trans hh, r⟩
theorem Reads2.grown {w w' : World} {B n g : Nat} {A : Option Addr} {ls : List (List UInt8)} (h : Reads2 w B A n ls) (hg : w.grownBy w' (some g)) (hB : B ≤ w.heap.size) (hgB : B ≤ g) : Reads2 w' B A n ls :=
  h.keep fun p hp => World.cell?_of_block (hg.block p.block (by omega) (fun e => by injection e with e; omega))
theorem sh_grown_of_below {w w' w'' : World} {B g : Nat} (h : w.grownBy w' (some g)) (hb : Below B w' w'') (hB : w.heap.size ≤ B) : w.grownBy w'' (some g) :=
  ⟨hb.os.trans h.os, hb.tape.trans h.tape, hb.output.trans h.output, Nat.le_trans h.size hb.size, fun b hb1 hn => (hb.block b (by omega)).trans (h.block b hb1 hn)⟩
set_option maxHeartbeats 2000000 in
theorem shaPieces_any (A : Option Addr) (n c : Nat) (ls : List (List UInt8)) (w : World) (hr : Reads2 w w.heap.size A n ls) (hnc : n ≤ c) (hc : c ≤ maxLen) :
    Calls Try.prog 4 #[.slice A n c] w fun e w' => e = .returned (.bool true) ∧ Below w.heap.size w w' := by
  unfold maxLen at hc
  by_cases hn : 30 < n
  · go_enter Try.func4, Try.ntmps4
    go_wp2_with fail
    refine (shaWakes_any w).mono ?_
    rintro e w0 ⟨rfl, hb0⟩
    go_wp2_with fail
    go_ret
    exact ⟨rfl, hb0⟩
  · have hl := hr.len
    have HL := hid hl
    clear hl
    go_enter Try.func4, Try.ntmps4
    go_wp2_with fail
    refine (shaWakes_any w).mono ?_
    rintro e w0 ⟨rfl, hb0⟩
    go_wp2_with fail
    refine (sh_new_any _).mono ?_
    rintro e w1 ⟨rfl, hx, hb1⟩
    have hb01 := bel_trans hb0 hb1
    have hr1 := hr.belowS hb01
    have hgl := hx.lt
    have hs0 := hb0.size
    obtain ⟨gh, hgh⟩ : ∃ gh, w0.heap.size = gh := ⟨_, rfl⟩
    rw [hgh] at hx hgl hs0 ⊢
    have HB01 := hid hb01
    have HX := hid hx
    have hr0 := hid (hr.below hb01)
    clear hr hr1 hb0 hb1 hb01 hgh hx
    go_wp2_with fail
    go_loopw [14, 4] (fun v14 v4 wr => ∃ (k m c5 : Nat) (A5 : Option Addr), k ≤ n ∧ v14 = .int .i64 (k : Int) ∧ v4 = .slice A5 m c5 ∧ Hid (m = (ls.take k).flatten.length) ∧ m ≤ 200 * k ∧ wr.ownsRow w1.heap.size 5 1 (.slice A5 m c5) m ((ls.take k).flatten.map bV) ∧ Blk wr gh 62 (shaC (shNew.write (ls.take k).flatten)) ∧ w1.grownBy wr (some gh)) (fun v14 _ _ => n - (intOf v14).toNat)
    case atStart => exact ⟨0, 0, 0, none, by omega, rfl, rfl, hid (by simp), by omega, by simpa using World.ownsRow_nil _ _ _ _, by simpa [ShS.write] using HX.out, sh_grown_below (Below.refl _ _)⟩
    case round =>
      obtain ⟨k, m, c5, A5, hk, rfl, rfl, HM, hm, hown, hblk, hG⟩ := hrel
      have hr2 := hr0.out.grown hG (by have := HB01.out.size; omega) (by omega)
      by_cases hkn : k < n
      · obtain ⟨l, ad, A', c', hlk, rfl, had, hcell, hrl, hlc, hcm⟩ := hr2.at_ hkn
        have HLK := hid hlk
        obtain ⟨q, hq⟩ : ∃ q, q = l.length := ⟨_, rfl⟩
        rw [← hq] at hcell hrl hlc
        have HQ := hid hq
        clear hlk hq hr2
        unfold maxLen at hcm
        have hsz1 := hG.size
        by_cases hbig : 200 < q
        · go_wp2_with fail
          go_ret
          exact ⟨rfl, HB01.out.grown hG (by have := HB01.out.size; omega) (fun k hk => by injection hk with hk; omega)⟩
        · obtain ⟨X, hX⟩ : ∃ X, (ls.take (k + 1)).flatten = X := ⟨_, rfl⟩
          have HF : Hid (X = (ls.take k).flatten ++ l) := by
            refine hid ?_
            rw [← hX, List.take_add_one, HLK.out]
            simp
          have HXX := hid hX
          have hXl : X.length = m + q := by rw [HF.out, List.length_append, ← HM.out, ← HQ.out]
          obtain ⟨S, hS⟩ : ∃ S, shNew.write (ls.take k).flatten = S := ⟨_, rfl⟩
          have HS : Hid (S.write l = shNew.write X) := hid (by rw [← hS, ← sh_write_append, ← HF.out])
          have hSn : S.n + q ≤ 100000000000 := by rw [← hS, sh_write_new_n, ← HM.out]; omega
          have hSp : S.part.length = 64 := by rw [← hS]; exact sh_write_part _ _ shNew_part
          rw [hS] at hblk
          have hwr := hid (sh_write_any gh S A' q c' l wr hblk hSp (hrl.more (by have := HB01.out.size; omega)) hSn (fun ad2 h2 h0 => by
            obtain ⟨ad3, e3, hlt3, _⟩ := hrl.form h0
            rw [h2] at e3
            injection e3 with e3
            subst e3
            omega))
          rw [HS.out] at hwr
          obtain ⟨Z, hZ⟩ : ∃ Z, ((shaOf X).map bV).toArray = Z := ⟨_, rfl⟩
          have heq : ∀ w, (Op.equalIn 10000 24 (.agg Z) (.agg Z)).run Try.prog w = .ok true w := fun w => by
            rw [← hZ, eqArr (shaOf X) (shaOf X) rfl rfl w]; simp
          have hXp : (shNew.write X).part.length = 64 := sh_write_part _ _ shNew_part
          have hXn : (shNew.write X).n = m + q := by rw [sh_write_new_n, hXl]
          have hsum := hid (fun w h => (sh_sum_any gh (shNew.write X) w h hXp (by omega)))
          have hof := hid (fun A c w h => (sh_of_any A (m + q) c X w h (by omega)))
          have hlong := hid (fun w h => (sh_long_any gh (shNew.write X) w h hXp))
          have hsz2 : (shNew.write X).sum = shaOf X := rfl
          rw [hsz2, hZ] at hsum
          rw [hXn] at hlong
          rw [hZ] at hof
          have HXL := hid hXl
          have HBLK := hid hblk
          have HGG := hid hG
          clear hZ hX hXl hS hSn hSp hsz2 hXp hXn hblk hG
          go_wp2_with fail
          refine hwr.out.mono ?_
          rintro e wa ⟨rfl, hba, hga⟩
          have hown1 := sh_own_grown hown hga hgl
          have hrl1 := hrl.grown hga (by have := HB01.out.size; omega) (fun g hg => by injection hg with hg; omega)
          have hcell1 : wa.cell? (ad.add k) = some (.slice A' q c') := by
            rw [← hcell]
            exact World.cell?_of_block (hga.block _ (by rw [block_add]; have := HB01.out.size; omega) (fun e => by injection e with e; rw [block_add] at e; omega))
          have hsza := hga.size
          clear hcell hrl hown
          go_wp2_with (at_builtin; refine appB _ rfl _ _ rfl w1.heap.size A5 m c5 _ rfl hown1 _ A' q c' l rfl hrl1 (by omega) (by omega) ?_; intro A6 c6 w6 hown6 hg6 hb6)
          rw [← HF.out] at hown6
          have k6 := hba.below hb6 hgl
          have hsz6 := hb6.size
          have hG6 := sh_grown_of_below (sh_grown_trans HGG.out hga) hb6 (Nat.le_refl _)
          have HG6 := hid hG6
          clear hG6 hba hga hb6 hg6 hown1 hrl1 hcell1
          have hown6' := hown6
          refine (hsum.out _ k6).mono ?_
          rintro e w7 ⟨rfl, hb7⟩
          have k7 := k6.belowS hb7
          have o7 := own_below hown6 hb7
          have hs7 := hb7.size
          go_wp2_with fail
          refine (hof.out _ _ _ (Reads.of_own o7)).mono ?_
          rintro e w8 ⟨rfl, hb8⟩
          have k8 := k7.belowS hb8
          have o8 := own_below o7 hb8
          have hs8 := hb8.size
          go_wp2_with fail
          refine (hlong.out _ k8).mono ?_
          rintro e w8' ⟨rfl, rfl⟩
          go_wp2_with fail
          refine (hsum.out _ k8).mono ?_
          rintro e w9 ⟨rfl, hb9⟩
          have k9 := k8.belowS hb9
          have o9 := own_below o8 hb9
          have hs9 := hb9.size
          go_wp2_with fail
          refine (hsum.out _ k9).mono ?_
          rintro e w10 ⟨rfl, hb10⟩
          have k10 := k9.belowS hb10
          have o10 := own_below o9 hb10
          have hs10 := hb10.size
          have hB := (((hb7.trans (hb8.mono hs7)).trans (hb9.mono (by omega))).trans (hb10.mono (by omega)))
          have HB := hid (sh_grown_of_below HG6.out hB (by have := HG6.out.size; omega))
          have HK := hid k10
          have HO := hid o10
          clear hB k6 k7 k8 k9 k10 hown6 hown6' o7 o8 o9 o10 hb7 hb8 hb9 hb10
          go_wp2_with fail
          go_roundw
          case rel => exact ⟨k + 1, m + q, c6, A6, by omega, by go_num, rfl, hid (by rw [HXX.out]; exact HXL.out.symm), by omega, by rw [HXX.out]; exact HO.out, by rw [HXX.out]; exact HK.out, HB.out⟩
          case measure => simp [intOf]; omega
      · obtain rfl : k = n := by omega
        go_wp2_with fail
        go_ret
        exact ⟨rfl, HB01.out.grown hG (by have := HB01.out.size; omega) (fun k hk => by injection hk with hk; omega)⟩
/-! ### ShaPieces: from the walk to the given statement -/
namespace lawShaPieces
theorem own : ownKnob Try.prog.godebug = none := by kernel_rfl
theorem laidOut : laidOutB Try.prog = true := by kernel_rfl
set_option maxRecDepth 100000 in
theorem lifted (os : Os) (started : os.Started) (H : Type) (enc : TypeId × Value → H) :
    ReturnsInHanded {} Try.checked os 4 .any (Rows.shaPiecesSpec.pre6 enc Try.prog Try.f4 Rows.shaPiecesRow.domain false) (Rows.shaPiecesSpec.post enc Try.prog Try.f4 false true false false) := by
  refine returnsInHanded_of_change (C := Try.checked) own started (by kernel_rfl) Try.func4
    (ChangeSpec.witness6 (enc := enc) (C := Try.checked) false ⟨#[], #[.slice none 0 0], []⟩ 8 (by kernel_rfl) (by kernel_rfl) (by kernel_rfl) (by kernel_rfl)) ?_
  intro W base args ds gs before hval0 hW hcnd _
  have hval : ∀ (j : Nat) t v, Try.f4.params[j]? = some t → args[j]? = some v → Value.okWide Try.prog W .any base t v := hval0
  have hW' := hW
  obtain ⟨p, q, hA0, hV, rfl, hfz, hnd⟩ := hW
  have hA : DataW.TrodAll enc Try.prog W 0 (fun _ => true) true Try.f4.params.toList args.toList ds p := hA0
  rw [Try.params4] at hA hval
  obtain ⟨v0, vs0, d0, ds0, p0, q0, hargs, rfl, rfl, h0, r0⟩ := trodAll_cons hA
  obtain ⟨rfl, rfl, rfl⟩ := trodAll_nil r0
  obtain rfl : args = #[v0] := by cases args; simp_all
  obtain ⟨rfl, rfl⟩ := trodVars_none hV
  have k0 := h0
  have lt0 : ∀ x ∈ p0, x.block < W.heap.size := by obtain ⟨m, hm⟩ := k0; exact DataW.trod_lt m _ _ _ hm
  obtain ⟨A0, n0, c0, b0, rfl, w0, g0, l0⟩ := open_bytes2 Try.underlying33 Try.underlying22 Try.underlying5 (by kernel_rfl) (by kernel_rfl) (hval 0 33 v0 rfl rfl) h0
  clear hA0 hval0
  refine (shaPieces_any A0 n0 c0 b0 W w0 g0 l0).mono fun e W' ⟨he, bel⟩ => ?_
  subst he
  exact ⟨_, rfl, _, _, _, [], _, [], hW', trodAll_mk1 (shut_bool Try.underlying4 _), (trodAll_cons_mk (Below.trod laidOut (by kernel_rfl) (of_decide_eq_true (by kernel_rfl)) k0 bel lt0) trodAll_mk0), rfl, bel.frame _, fun h => by cases h⟩
theorem over : Rows.shaPiecesRow.holds Try.pinned (OpenSpec.ofChange Rows.shaPiecesSpec) :=
  OpenClaim.holds_of_wide 4 Try.f4 rfl rfl rfl rfl rfl rfl rfl ⟨rfl, rfl, rfl, rfl, rfl⟩ rfl rfl rfl rfl rfl (by kernel_rfl) Try.func4 (by kernel_rfl)
    (of_decide_eq_true (by kernel_rfl)) (by unfold Func.isWrapper; first | (rw [if_pos (by decide +kernel)]; kernel_rfl) | (rw [if_neg (by decide +kernel)]; exact ⟨rfl, rfl⟩))
    (fun os started H enc _ => lifted os started H enc)
theorem proved : Rows.ShaPiecesSaid := over
#print axioms proved
end lawShaPieces
end Go.Proofs.Ytojffpfgmlegdaa
