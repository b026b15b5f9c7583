/-
  A tick that goes on: fits, top, swap.
-/
import Derived.Test.YtidlahljhgglcaaGreatVmMem
namespace Go.Proofs.YtidlahljhgglcaaGreat
open Go.RowKit Go.ChangeShapes Go.WideShapes Go.ChangeAt

section
variable {w w' : World} {F : Nat → Prop} {h g gs : Nat} {i : ImgS} {a : VmA} {s : VmS} {cs : List ChanS} {pc ticks fault arg : Int} {Ao : Option Addr} {cO : Nat} {d : VmD}
theorem fits_any (m : MachIn w g i a s) (r : RunIn w h g gs arg Ao cO d) (hl : s.stack.length ≤ 100) (take lay : Nat) (tI lI : Int) (ht : tI = take) (hy : lI = lay) (h1 : take ≤ 8) (h2 : lay ≤ 8) :
    Calls Tryz.prog 88 #[.pointer (some ⟨h, 0, none⟩), .int .i64 tI, .int .i64 lI] w fun e w' => e = .returned (.int .i64 (fitsE s.stack.length take lay)) ∧ w' = w := by
  subst ht hy
  have c0 : w.cell? ⟨h, 0, none⟩ = some (.pointer (some ⟨g, 0, none⟩)) := r.blk.cellAt rfl
  have c1 : w.cell? ⟨g, 9, none⟩ = some (.slice a.As s.stack.length a.cS) := m.blk.cellAt rfl
  clear m r
  generalize s.stack.length = n at *
  by_cases hn : n < take
  · have y0 : decide ((n : Int) < (take : Int)) = true := decide_eq_true (by omega)
    have y0' : decide (n < take) = true := decide_eq_true hn
    have hr : Hid (fitsE n take lay = 5) := hid (if_pos hn)
    clear hn
    go_enter Tryz.func88, Tryz.ntmps88
    go_wp2_with fail
    go_ret
    exact ⟨by rw [hr.out]; rfl, by first | trivial | rfl⟩
  have y0 : decide ((n : Int) < (take : Int)) = false := decide_eq_false (by omega)
  have y0' : decide (n < take) = false := decide_eq_false hn
  by_cases h8 : 8 < n - take + lay
  · have y1 : decide ((8 : Int) < (n : Int) - (take : Int) + (lay : Int)) = true := decide_eq_true (by omega)
    have hr : Hid (fitsE n take lay = 14) := hid (by unfold fitsE; rw [if_neg hn, if_pos h8])
    clear h8
    go_enter Tryz.func88, Tryz.ntmps88
    go_wp2_with fail
    go_ret
    exact ⟨by rw [hr.out]; rfl, by first | trivial | rfl⟩
  · have y1 : decide ((8 : Int) < (n : Int) - (take : Int) + (lay : Int)) = false := decide_eq_false (by omega)
    have hr : Hid (fitsE n take lay = 0) := hid (by unfold fitsE; rw [if_neg hn, if_neg h8])
    clear h8
    go_enter Tryz.func88, Tryz.ntmps88
    go_wp2_with fail
    go_ret
    exact ⟨by rw [hr.out]; rfl, by first | trivial | rfl⟩
theorem top_any (m : MachIn w g i a s) (r : RunIn w h g gs arg Ao cO d) (hl : s.stack.length ≤ 100) (k : Nat) (kI : Int) (hk : kI = k) (hkl : k < s.stack.length) :
    Calls Tryz.prog 90 #[.pointer (some ⟨h, 0, none⟩), .int .i64 kI] w fun e w' => e = .returned (.int .i64 (topV s.stack k)) ∧ ∃ q, w' = w.drewN q := by
  subst hk
  have c0 : w.cell? ⟨h, 0, none⟩ = some (.pointer (some ⟨g, 0, none⟩)) := r.blk.cellAt rfl
  have c1 : w.cell? ⟨g, 9, none⟩ = some (.slice a.As s.stack.length a.cS) := m.blk.cellAt rfl
  obtain ⟨ga, hA, hga⟩ := m.st.form (by omega)
  obtain ⟨p, hp⟩ : ∃ p, s.stack.length = p + k + 1 := ⟨s.stack.length - 1 - k, by omega⟩
  have hx : Hid (topV s.stack k = s.stack.getD p 0) := hid (by unfold topV; congr 1; omega)
  have hpl : p < s.stack.length := by omega
  have hst := m.st
  rw [hA] at hst c1
  have c2 : w.cell? ⟨ga, p, none⟩ = some (.int .i64 (s.stack.getD p 0)) := hst.cell (by rw [List.getElem?_map, List.getElem?_eq_getElem hpl, List.getD_eq_getElem?_getD, List.getElem?_eq_getElem hpl]; rfl)
  generalize s.stack.getD p 0 = x at c2 hx
  rw [hp] at c1 hl
  clear m r hst hA hp hkl hpl
  have e1 : IntKind.i64.wrap (((p + k + 1 : Nat) : Int) - 1) = ((p + k : Nat) : Int) := by rw [show ((p + k + 1 : Nat) : Int) - 1 = ((p + k : Nat) : Int) by omega]; exact IntWalk.i64_in _ (by omega)
  have e2 : IntKind.i64.wrap (((p + k : Nat) : Int) - (k : Int)) = (p : Int) := by rw [show ((p + k : Nat) : Int) - (k : Int) = (p : Int) by omega]; exact IntWalk.i64_in _ (by omega)
  generalize hn : ((p + k + 1 : Nat) : Int) = N at *
  go_enter Tryz.func90, Tryz.ntmps90
  go_wp2_with fail
  go_quiet (fail)
  go_wp2_with fail
  go_ret
  exact ⟨by rw [hx.out]; rfl, _, rfl⟩
end
theorem info_intV : (Tryz.prog.info? 3).map (fun i => (i.zero, i.size, i.bytes)) = some (some (.int .i64 0), 1, 8) := by kernel_rfl
theorem w65_go (y : Int) : (wrap64 (y.tmod 65536 + 65536)).tmod 65536 = w65 y := by
  have h1 := Int.mul_tdiv_add_tmod y 65536
  have h2 : y.tmod 65536 < 65536 := Int.tmod_lt_of_pos _ (by decide)
  have h3 : -65536 < y.tmod 65536 := Int.lt_tmod_of_pos _ (by decide)
  rw [IntWalk.wrap64_in _ ⟨by omega, by omega⟩, Int.tmod_eq_emod_of_nonneg (by omega)]
  unfold w65
  omega
/-- The stack while what was laid is being reduced. -/
def layL (st lay : List Int) (p n j : Nat) : List Int := st.take p ++ (lay.take (n - j) ++ (lay.drop (n - j)).map w65)
theorem layL_zero (st lay : List Int) (p n : Nat) (h : lay.length = n) : layL st lay p n 0 = st.take p ++ lay := by
  unfold layL
  rw [Nat.sub_zero, List.take_of_length_le (l := lay) (by omega), List.drop_of_length_le (l := lay) (by omega)]
  simp
theorem layL_all (st lay : List Int) (p n : Nat) : layL st lay p n n = st.take p ++ lay.map w65 := by
  unfold layL
  simp
theorem layL_len (st lay : List Int) (p n j : Nat) (h : lay.length = n) (hp : p ≤ st.length) : (layL st lay p n j).length = p + n := by
  unfold layL
  simp only [List.length_append, List.length_take, List.length_map, List.length_drop]
  omega
theorem layL_get {st lay : List Int} {p n u j : Nat} (hn : n = u + j + 1) (h : lay.length = n) (hp : p ≤ st.length) : (layL st lay p n j)[p + u]? = lay[u]? := by
  unfold layL
  have h1 : (st.take p).length = p := by rw [List.length_take]; omega
  rw [List.getElem?_append_right (by omega), h1, Nat.add_sub_cancel_left, List.getElem?_append_left (by rw [List.length_take]; omega), List.getElem?_take, if_pos (by omega)]
theorem layL_step {st lay : List Int} {p n u j : Nat} {y : Int} (hn : n = u + j + 1) (h : lay.length = n) (hp : p ≤ st.length) (hy : lay[u]? = some y) : (layL st lay p n j).set (p + u) (w65 y) = layL st lay p n (j + 1) := by
  unfold layL
  have h1 : (st.take p).length = p := by rw [List.length_take]; omega
  rw [List.set_append_right _ _ (by omega), h1, Nat.add_sub_cancel_left]
  congr 1
  rw [show n - j = u + 1 by omega, show n - (j + 1) = u by omega, List.take_add_one, hy, List.append_assoc]
  have h2 : (lay.take u).length = u := by rw [List.length_take]; omega
  rw [List.set_append_right _ _ (by omega), h2, Nat.sub_self]
  have h3 : lay.drop u = y :: lay.drop (u + 1) := by
    have hk := (List.getElem?_eq_some_iff.1 hy).1
    rw [List.drop_eq_getElem_cons hk]
    congr 1
    exact (List.getElem?_eq_some_iff.1 hy).2
  rw [h3]
  rfl
section
variable {w w' : World} {F : Nat → Prop} {h g gs : Nat} {i : ImgS} {a : VmA} {s : VmS} {cs : List ChanS} {pc ticks fault arg : Int} {Ao : Option Addr} {cO : Nat} {d : VmD}
set_option maxHeartbeats 2000000 in
theorem swap_any (m : MachIn w g i a s) (r : RunIn w h g gs arg Ao cO d) (hl : s.stack.length ≤ 100) (take : Nat) (tI : Int) (htI : tI = take) (ht : take ≤ s.stack.length) (lay : List Int) (A2 : Option Addr) (n2 c2 : Nat) (hn2 : lay.length = n2) (h2 : n2 ≤ 2) (hr : Reads w w.heap.size 1 A2 n2 (lay.map iV)) :
    Calls Tryz.prog 89 #[.pointer (some ⟨h, 0, none⟩), .int .i64 tI, .slice A2 n2 c2] w fun e w' => e = .returned (.tuple #[]) ∧ ∃ a', MachIn w' g i a' { s with stack := swapV s.stack take lay } ∧ Goes (MachF g a) w (MachF g a') w' := by
  subst htI
  obtain ⟨p, hp⟩ : ∃ p, s.stack.length = p + take := ⟨s.stack.length - take, by omega⟩
  have c0 : w.cell? ⟨h, 0, none⟩ = some (.pointer (some ⟨g, 0, none⟩)) := r.blk.cellAt rfl
  have c1 : w.cell? ⟨g, 9, none⟩ = some (.slice a.As s.stack.length a.cS) := m.blk.cellAt rfl
  have hcut := hid (m.st.cut (i := p) (by omega))
  have hcap := m.st.cap
  obtain ⟨i0, hi0, hz0, hz1, hz2⟩ := info_parts info_intV
  have hsw : Hid (swapV s.stack take lay = s.stack.take p ++ lay.map w65) := hid (by unfold swapV; rw [hp, Nat.add_sub_cancel])
  have M := hid m
  have R := hid r
  have HR := hid hr
  have hps : Hid (p ≤ s.stack.length) := hid (by omega)
  rw [hp] at c1 hcap hl
  have HP := hid hp
  unfold maxLen at hcap
  clear m r hr ht hp
  go_enter Tryz.func89, Tryz.ntmps89
  go_wp2_with (at_builtin; refine wpList_row _ rfl (.tmp 26) (.tmp 27) _ rfl 3 i0 _ 8 Tryz.underlying51 hi0 hz0 hz1 hz2 rfl a.As p p ((s.stack.map iV).take p) rfl hcut.out w.heap.size A2 n2 c2 (lay.map iV) rfl HR.out (oneCell_i lay) (by simp [maxLen]; omega) (by omega) (p + n2) rfl ?_; intro A' c' w2 hrow hg hA)
  have hAf : ∀ b, Foot A' b → Foot a.As b ∨ w.heap.size ≤ b := fun b hb => by
    rcases hA with e | e
    · rw [e] at hb; exact .inl hb
    · rw [e] at hb
      obtain ⟨x, hx, rfl⟩ := hb
      injection hx with hx
      subst hx
      exact .inr (Nat.le_refl _)
  have hap : Apart (fun b => b = g ∨ Foot a.As b) w w2 := (Apart.refl _ _).grown hg (fun b hb => .inl (.inr (ownBlock_foot.1 hb)))
  have HAF := hid hAf
  have hrow' := hid hrow
  rw [← List.map_take, ← List.map_append, ← layL_zero s.stack lay p n2 hn2] at hrow'
  have HAP := hid hap
  have hoff : Hid (¬ Foot A' g ∧ ¬ Foot A' h) := hid ⟨fun hf => (hAf g hf).elim M.out.off.2.1 (fun h9 => by have := M.out.blk.lt; omega), fun hf => (hAf h hf).elim (fun h9 => (M.out.st.ty h9).ne_ R.out.blk.ty (by decide) rfl) (fun h9 => by have := R.out.blk.lt; omega)⟩
  have HA' := hid hA
  have HG := hid hg
  clear hrow hg hA hAf hap c0 c1
  go_loopw [7, 8, 31] (fun v7 v8 v31 wr => ∃ j : Nat, j ≤ n2 ∧ v31 = .int .i64 (j : Int) ∧ Row wr 3 A' (p + n2) c' ((layL s.stack lay p n2 j).map iV) ∧ Apart (fun b => b = g ∨ Foot a.As b) w wr ∧ Blk wr g 128 (machC i a s) ∧ Blk wr h 131 (runC g gs arg d.next Ao d.sent.length cO d.conf)) (fun _ _ v31 _ => n2 - (intOf v31).toNat)
  case atStart =>
    refine ⟨0, by omega, rfl, hrow'.out, HAP.out, ?_, ?_⟩
    · exact (HG.out.block g M.out.blk.lt (fun e => M.out.off.2.1 (ownBlock_foot.1 e.symm))).trans M.out.blk
    · exact (HG.out.block h R.out.blk.lt (fun e => (M.out.st.ty (ownBlock_foot.1 e.symm)).ne_ R.out.blk.ty (by decide) rfl)).trans R.out.blk
  case round =>
    obtain ⟨j, hj, rfl, hrow, hap, hbg, hbh⟩ := hrel
    by_cases hjn : j < n2
    · obtain ⟨u, hu⟩ : ∃ u, n2 = u + j + 1 := ⟨n2 - 1 - j, by omega⟩
      obtain ⟨gA, rfl, hgA⟩ := hrow.form (by omega)
      obtain ⟨y, hy⟩ : ∃ y, lay[u]? = some y := ⟨_, List.getElem?_eq_getElem (by omega)⟩
      have hcell : wr.cell? ⟨gA, p + u, none⟩ = some (.int .i64 y) := hrow.cell (by rw [List.getElem?_map, layL_get hu hn2 hps.out, hy]; rfl)
      have hfr := hrow.frozen (p + u)
      have hst := hid (hrow.set_ (p + u) (iV (w65 y)))
      rw [← List.map_set, layL_step hu hn2 hps.out hy] at hst
      obtain ⟨N, hN⟩ : ∃ N, N = p + n2 := ⟨_, rfl⟩
      obtain ⟨M1, hM1⟩ : ∃ M1, M1 = p + u + j := ⟨_, rfl⟩
      obtain ⟨q, hq⟩ : ∃ q, q = p + u := ⟨_, rfl⟩
      have e1 : wrap64 ((N : Int) - 1) = (M1 : Int) := by rw [IntWalk.wrap64_in _ ⟨by omega, by omega⟩]; omega
      have e2 : wrap64 ((M1 : Int) - (j : Int)) = (q : Int) := by rw [IntWalk.wrap64_in _ ⟨by omega, by omega⟩]; omega
      have x0 : (0 : Int) ≤ (q : Int) := by omega
      have x1 : (q : Int) < (N : Int) := by omega
      have hjn' : decide ((j : Int) < (n2 : Int)) = true := decide_eq_true (by omega)
      have hjn'' : decide (j < n2) = true := decide_eq_true hjn
      have HAP2 := hid (hap.setCell (p := ⟨gA, q, none⟩) (by rcases HAF.out gA (foot_some.2 rfl) with h9 | h9; exact .inl (.inr h9); exact .inr h9) (iV (w65 y)))
      rw [← hq] at hcell hfr hst
      rw [← hN] at hst ⊢
      have HU := hid hu
      have HBG0 := hid hbg
      have HBH0 := hid hbh
      have HOFF := hoff
      have HNN := hid hN
      clear hu hN hM1 hq hy hrow hap hbg hbh hrow'
      have e3 := w65_go y
      have HBG := hid (HBG0.out.far (p := ⟨gA, q, none⟩) (fun e => HOFF.out.1 (foot_some.2 e)) (iV (w65 y)))
      have HBH := hid (HBH0.out.far (p := ⟨gA, q, none⟩) (fun e => HOFF.out.2 (foot_some.2 e)) (iV (w65 y)))
      generalize w65 y = z at *
      go_wp2_with fail
      go_roundw
      case rel => exact ⟨j + 1, by omega, by go_num, hst.out, HAP2.out, HBG.out, HBH.out⟩
      case measure => simp [intOf]; omega
    · obtain rfl : j = n2 := by omega
      have d0 : wr.cell? ⟨h, 0, none⟩ = some (.pointer (some ⟨g, 0, none⟩)) := hbh.cellAt rfl
      have f0 := hbg.frozen 9
      have d1 : wr.cell? ⟨g, 9, none⟩ = some (.slice a.As s.stack.length a.cS) := hbg.cellAt rfl
      rw [layL_all, ← hsw.out] at hrow
      have HRW := hid hrow
      have HAP3 := hid hap
      have HBG := hid hbg
      have hjn' : decide ((j : Int) < (j : Int)) = false := decide_eq_false (by omega)
      obtain ⟨N, hN⟩ : ∃ N, N = p + j := ⟨_, rfl⟩
      rw [← hN] at HRW ⊢
      have hlen : Hid ((swapV s.stack take lay).length = N) := hid (by have := HRW.out.len; simpa using this)
      clear hrow hap hbg hbh hN hrow'
      go_wp2_with fail
      refine bodyPost_end (v := .tuple #[]) (by simp [results, Tryz.results89, go_sem]) rfl ?_
      have hl := hlen.out
      subst hl
      have hb9 := HBG.out.set_ 9 (.slice A' (swapV s.stack take lay).length c')
      have hst := M.out.stack (s' := { s with stack := swapV s.stack take lay }) rfl rfl (HAP3.out.setCell (p := ⟨g, 9, none⟩) (.inl (.inl rfl)) _) hb9 (HRW.out.far (p := ⟨g, 9, none⟩) (fun hf => hoff.out.1 hf) _) HAF.out
      exact ⟨rfl, _, hst.1, hst.2⟩
end
end Go.Proofs.YtidlahljhgglcaaGreat
