/-
  A tick that goes on: fits, top, swap.
  What instructions do: those without channels.
  The reference of layer 17: off the stack, onto it.
  The reference of layer 17: instructions that only work on the stack and the memory.
-/
import Derived.Test.YtidlahljhgglcaaQVmRuns10
import Derived.Test.YtidlahljhgglcaaQVmRuns11
import Derived.StillTailTactics
import Derived.Deep.RegionHeld3
import Derived.Test.YtidlahljhgglcaaVmMach
namespace Go.Proofs.Ytidlahljhgglcaa
open Go.RowKit Go.ChangeShapes Go.WideShapes Go.ChangeAt

section
variable {w w' : World} {F : Nat → Prop} {h g gs : Nat} {i : ImgS} {a : VmA} {s : VmS} {cs : List ChanS} {pc ticks fault arg : Int} {Ao : Option Addr} {cO : Nat} {d : VmD}
theorem fits_any (m : MachIn w g i a s) (r : RunIn w h g gs arg Ao cO d) (hl : s.stack.length ≤ 100) (take lay : Nat) (tI lI : Int) (ht : tI = take) (hy : lI = lay) (h1 : take ≤ 8) (h2 : lay ≤ 8) :
    Calls Try.prog 95 #[.pointer (some ⟨h, 0, none⟩), .int .i64 tI, .int .i64 lI] w fun e w' => e = .returned (.int .i64 (fitsE s.stack.length take lay)) ∧ w' = w := by
  subst ht hy
  have c0 : w.cell? ⟨h, 0, none⟩ = some (.pointer (some ⟨g, 0, none⟩)) := r.blk.cellAt rfl
  have c1 : w.cell? ⟨g, 9, none⟩ = some (.slice a.As s.stack.length a.cS) := m.blk.cellAt rfl
  clear m r
  generalize s.stack.length = n at *
  by_cases hn : n < take
  · have y0 : decide ((n : Int) < (take : Int)) = true := decide_eq_true (by omega)
    have y0' : decide (n < take) = true := decide_eq_true hn
    have hr : Hid (fitsE n take lay = 5) := hid (if_pos hn)
    clear hn
    go_enter Try.func95, Try.ntmps95
    go_wp2_with fail
    go_ret
    exact ⟨by rw [hr.out]; rfl, by first | trivial | rfl⟩
  have y0 : decide ((n : Int) < (take : Int)) = false := decide_eq_false (by omega)
  have y0' : decide (n < take) = false := decide_eq_false hn
  by_cases h8 : 8 < n - take + lay
  · have y1 : decide ((8 : Int) < (n : Int) - (take : Int) + (lay : Int)) = true := decide_eq_true (by omega)
    have hr : Hid (fitsE n take lay = 14) := hid (by unfold fitsE; rw [if_neg hn, if_pos h8])
    clear h8
    go_enter Try.func95, Try.ntmps95
    go_wp2_with fail
    go_ret
    exact ⟨by rw [hr.out]; rfl, by first | trivial | rfl⟩
  · have y1 : decide ((8 : Int) < (n : Int) - (take : Int) + (lay : Int)) = false := decide_eq_false (by omega)
    have hr : Hid (fitsE n take lay = 0) := hid (by unfold fitsE; rw [if_neg hn, if_neg h8])
    clear h8
    go_enter Try.func95, Try.ntmps95
    go_wp2_with fail
    go_ret
    exact ⟨by rw [hr.out]; rfl, by first | trivial | rfl⟩
theorem top_any (m : MachIn w g i a s) (r : RunIn w h g gs arg Ao cO d) (hl : s.stack.length ≤ 100) (k : Nat) (kI : Int) (hk : kI = k) (hkl : k < s.stack.length) :
    Calls Try.prog 97 #[.pointer (some ⟨h, 0, none⟩), .int .i64 kI] w fun e w' => e = .returned (.int .i64 (topV s.stack k)) ∧ ∃ q, w' = w.drewN q := by
  subst hk
  have c0 : w.cell? ⟨h, 0, none⟩ = some (.pointer (some ⟨g, 0, none⟩)) := r.blk.cellAt rfl
  have c1 : w.cell? ⟨g, 9, none⟩ = some (.slice a.As s.stack.length a.cS) := m.blk.cellAt rfl
  obtain ⟨ga, hA, hga⟩ := m.st.form (by omega)
  obtain ⟨p, hp⟩ : ∃ p, s.stack.length = p + k + 1 := ⟨s.stack.length - 1 - k, by omega⟩
  have hx : Hid (topV s.stack k = s.stack.getD p 0) := hid (by unfold topV; congr 1; omega)
  have hpl : p < s.stack.length := by omega
  have hst := m.st
  rw [hA] at hst c1
  have c2 : w.cell? ⟨ga, p, none⟩ = some (.int .i64 (s.stack.getD p 0)) := hst.cell (by rw [List.getElem?_map, List.getElem?_eq_getElem hpl, List.getD_eq_getElem?_getD, List.getElem?_eq_getElem hpl]; rfl)
  generalize s.stack.getD p 0 = x at c2 hx
  rw [hp] at c1 hl
  clear m r hst hA hp hkl hpl
  have e1 : IntKind.i64.wrap (((p + k + 1 : Nat) : Int) - 1) = ((p + k : Nat) : Int) := by rw [show ((p + k + 1 : Nat) : Int) - 1 = ((p + k : Nat) : Int) by omega]; exact IntWalk.i64_in _ (by omega)
  have e2 : IntKind.i64.wrap (((p + k : Nat) : Int) - (k : Int)) = (p : Int) := by rw [show ((p + k : Nat) : Int) - (k : Int) = (p : Int) by omega]; exact IntWalk.i64_in _ (by omega)
  generalize hn : ((p + k + 1 : Nat) : Int) = N at *
  go_enter Try.func97, Try.ntmps97
  go_wp2_with fail
  go_quiet (fail)
  go_wp2_with fail
  go_ret
  exact ⟨by rw [hx.out]; rfl, _, rfl⟩
end
theorem info_intV : (Try.prog.info? 3).map (fun i => (i.zero, i.size, i.bytes)) = some (some (.int .i64 0), 1, 8) := by kernel_rfl
theorem w65_go (y : Int) : (wrap64 (y.tmod 65536 + 65536)).tmod 65536 = w65 y := by
  have h1 := Int.mul_tdiv_add_tmod y 65536
  have h2 : y.tmod 65536 < 65536 := Int.tmod_lt_of_pos _ (by decide)
  have h3 : -65536 < y.tmod 65536 := Int.lt_tmod_of_pos _ (by decide)
  rw [IntWalk.wrap64_in _ ⟨by omega, by omega⟩, Int.tmod_eq_emod_of_nonneg (by omega)]
  unfold w65
  omega
/-- The stack while what was laid is being reduced. -/
def layL (st lay : List Int) (p n j : Nat) : List Int := st.take p ++ (lay.take (n - j) ++ (lay.drop (n - j)).map w65)
theorem layL_zero (st lay : List Int) (p n : Nat) (h : lay.length = n) : layL st lay p n 0 = st.take p ++ lay := by
  unfold layL
  rw [Nat.sub_zero, List.take_of_length_le (l := lay) (by omega), List.drop_of_length_le (l := lay) (by omega)]
  simp
theorem layL_all (st lay : List Int) (p n : Nat) : layL st lay p n n = st.take p ++ lay.map w65 := by
  unfold layL
  simp
theorem layL_len (st lay : List Int) (p n j : Nat) (h : lay.length = n) (hp : p ≤ st.length) : (layL st lay p n j).length = p + n := by
  unfold layL
  simp only [List.length_append, List.length_take, List.length_map, List.length_drop]
  omega
theorem layL_get {st lay : List Int} {p n u j : Nat} (hn : n = u + j + 1) (h : lay.length = n) (hp : p ≤ st.length) : (layL st lay p n j)[p + u]? = lay[u]? := by
  unfold layL
  have h1 : (st.take p).length = p := by rw [List.length_take]; omega
  rw [List.getElem?_append_right (by omega), h1, Nat.add_sub_cancel_left, List.getElem?_append_left (by rw [List.length_take]; omega), List.getElem?_take, if_pos (by omega)]
theorem layL_step {st lay : List Int} {p n u j : Nat} {y : Int} (hn : n = u + j + 1) (h : lay.length = n) (hp : p ≤ st.length) (hy : lay[u]? = some y) : (layL st lay p n j).set (p + u) (w65 y) = layL st lay p n (j + 1) := by
  unfold layL
  have h1 : (st.take p).length = p := by rw [List.length_take]; omega
  rw [List.set_append_right _ _ (by omega), h1, Nat.add_sub_cancel_left]
  congr 1
  rw [show n - j = u + 1 by omega, show n - (j + 1) = u by omega, List.take_add_one, hy, List.append_assoc]
  have h2 : (lay.take u).length = u := by rw [List.length_take]; omega
  rw [List.set_append_right _ _ (by omega), h2, Nat.sub_self]
  have h3 : lay.drop u = y :: lay.drop (u + 1) := by
    have hk := (List.getElem?_eq_some_iff.1 hy).1
    rw [List.drop_eq_getElem_cons hk]
    congr 1
    exact (List.getElem?_eq_some_iff.1 hy).2
  rw [h3]
  rfl
section
variable {w w' : World} {F : Nat → Prop} {h g gs : Nat} {i : ImgS} {a : VmA} {s : VmS} {cs : List ChanS} {pc ticks fault arg : Int} {Ao : Option Addr} {cO : Nat} {d : VmD}
set_option maxHeartbeats 2000000 in
theorem swap_any (m : MachIn w g i a s) (r : RunIn w h g gs arg Ao cO d) (hl : s.stack.length ≤ 100) (take : Nat) (tI : Int) (htI : tI = take) (ht : take ≤ s.stack.length) (lay : List Int) (A2 : Option Addr) (n2 c2 : Nat) (hn2 : lay.length = n2) (h2 : n2 ≤ 2) (hr : Reads w w.heap.size 1 A2 n2 (lay.map iV)) :
    Calls Try.prog 96 #[.pointer (some ⟨h, 0, none⟩), .int .i64 tI, .slice A2 n2 c2] w fun e w' => e = .returned (.tuple #[]) ∧ ∃ a', MachIn w' g i a' { s with stack := swapV s.stack take lay } ∧ Goes (MachF g a) w (MachF g a') w' := by
  subst htI
  obtain ⟨p, hp⟩ : ∃ p, s.stack.length = p + take := ⟨s.stack.length - take, by omega⟩
  have c0 : w.cell? ⟨h, 0, none⟩ = some (.pointer (some ⟨g, 0, none⟩)) := r.blk.cellAt rfl
  have c1 : w.cell? ⟨g, 9, none⟩ = some (.slice a.As s.stack.length a.cS) := m.blk.cellAt rfl
  have hcut := hid (m.st.cut (i := p) (by omega))
  have hcap := m.st.cap
  obtain ⟨i0, hi0, hz0, hz1, hz2⟩ := info_parts info_intV
  have hsw : Hid (swapV s.stack take lay = s.stack.take p ++ lay.map w65) := hid (by unfold swapV; rw [hp, Nat.add_sub_cancel])
  have M := hid m
  have R := hid r
  have HR := hid hr
  have hps : Hid (p ≤ s.stack.length) := hid (by omega)
  rw [hp] at c1 hcap hl
  have HP := hid hp
  unfold maxLen at hcap
  clear m r hr ht hp
  go_enter Try.func96, Try.ntmps96
  go_wp2_with (at_builtin; refine wpList_row _ rfl (.tmp 26) (.tmp 27) _ rfl 3 i0 _ 8 Try.underlying40 hi0 hz0 hz1 hz2 rfl a.As p p ((s.stack.map iV).take p) rfl hcut.out w.heap.size A2 n2 c2 (lay.map iV) rfl HR.out (oneCell_i lay) (by simp [maxLen]; omega) (by omega) (p + n2) rfl ?_; intro A' c' w2 hrow hg hA)
  have hAf : ∀ b, Foot A' b → Foot a.As b ∨ w.heap.size ≤ b := fun b hb => by
    rcases hA with e | e
    · rw [e] at hb; exact .inl hb
    · rw [e] at hb
      obtain ⟨x, hx, rfl⟩ := hb
      injection hx with hx
      subst hx
      exact .inr (Nat.le_refl _)
  have hap : Apart (fun b => b = g ∨ Foot a.As b) w w2 := (Apart.refl _ _).grown hg (fun b hb => .inl (.inr (ownBlock_foot.1 hb)))
  have HAF := hid hAf
  have hrow' := hid hrow
  rw [← List.map_take, ← List.map_append, ← layL_zero s.stack lay p n2 hn2] at hrow'
  have HAP := hid hap
  have hoff : Hid (¬ Foot A' g ∧ ¬ Foot A' h) := hid ⟨fun hf => (hAf g hf).elim M.out.off.2.1 (fun h9 => by have := M.out.blk.lt; omega), fun hf => (hAf h hf).elim (fun h9 => (M.out.st.ty h9).ne_ R.out.blk.ty (by decide) rfl) (fun h9 => by have := R.out.blk.lt; omega)⟩
  have HA' := hid hA
  have HG := hid hg
  clear hrow hg hA hAf hap c0 c1
  go_loopw [7, 8, 31] (fun v7 v8 v31 wr => ∃ j : Nat, j ≤ n2 ∧ v31 = .int .i64 (j : Int) ∧ Row wr 3 A' (p + n2) c' ((layL s.stack lay p n2 j).map iV) ∧ Apart (fun b => b = g ∨ Foot a.As b) w wr ∧ Blk wr g 93 (machC i a s) ∧ Blk wr h 115 (runC g gs arg d.next Ao d.sent.length cO d.conf)) (fun _ _ v31 _ => n2 - (intOf v31).toNat)
  case atStart =>
    refine ⟨0, by omega, rfl, hrow'.out, HAP.out, ?_, ?_⟩
    · exact (HG.out.block g M.out.blk.lt (fun e => M.out.off.2.1 (ownBlock_foot.1 e.symm))).trans M.out.blk
    · exact (HG.out.block h R.out.blk.lt (fun e => (M.out.st.ty (ownBlock_foot.1 e.symm)).ne_ R.out.blk.ty (by decide) rfl)).trans R.out.blk
  case round =>
    obtain ⟨j, hj, rfl, hrow, hap, hbg, hbh⟩ := hrel
    by_cases hjn : j < n2
    · obtain ⟨u, hu⟩ : ∃ u, n2 = u + j + 1 := ⟨n2 - 1 - j, by omega⟩
      obtain ⟨gA, rfl, hgA⟩ := hrow.form (by omega)
      obtain ⟨y, hy⟩ : ∃ y, lay[u]? = some y := ⟨_, List.getElem?_eq_getElem (by omega)⟩
      have hcell : wr.cell? ⟨gA, p + u, none⟩ = some (.int .i64 y) := hrow.cell (by rw [List.getElem?_map, layL_get hu hn2 hps.out, hy]; rfl)
      have hfr := hrow.frozen (p + u)
      have hst := hid (hrow.set_ (p + u) (iV (w65 y)))
      rw [← List.map_set, layL_step hu hn2 hps.out hy] at hst
      obtain ⟨N, hN⟩ : ∃ N, N = p + n2 := ⟨_, rfl⟩
      obtain ⟨M1, hM1⟩ : ∃ M1, M1 = p + u + j := ⟨_, rfl⟩
      obtain ⟨q, hq⟩ : ∃ q, q = p + u := ⟨_, rfl⟩
      have e1 : wrap64 ((N : Int) - 1) = (M1 : Int) := by rw [IntWalk.wrap64_in _ ⟨by omega, by omega⟩]; omega
      have e2 : wrap64 ((M1 : Int) - (j : Int)) = (q : Int) := by rw [IntWalk.wrap64_in _ ⟨by omega, by omega⟩]; omega
      have x0 : (0 : Int) ≤ (q : Int) := by omega
      have x1 : (q : Int) < (N : Int) := by omega
      have hjn' : decide ((j : Int) < (n2 : Int)) = true := decide_eq_true (by omega)
      have hjn'' : decide (j < n2) = true := decide_eq_true hjn
      have HAP2 := hid (hap.setCell (p := ⟨gA, q, none⟩) (by rcases HAF.out gA (foot_some.2 rfl) with h9 | h9; exact .inl (.inr h9); exact .inr h9) (iV (w65 y)))
      rw [← hq] at hcell hfr hst
      rw [← hN] at hst ⊢
      have HU := hid hu
      have HBG0 := hid hbg
      have HBH0 := hid hbh
      have HOFF := hoff
      have HNN := hid hN
      clear hu hN hM1 hq hy hrow hap hbg hbh hrow'
      have e3 := w65_go y
      have HBG := hid (HBG0.out.far (p := ⟨gA, q, none⟩) (fun e => HOFF.out.1 (foot_some.2 e)) (iV (w65 y)))
      have HBH := hid (HBH0.out.far (p := ⟨gA, q, none⟩) (fun e => HOFF.out.2 (foot_some.2 e)) (iV (w65 y)))
      generalize w65 y = z at *
      go_wp2_with fail
      go_roundw
      case rel => exact ⟨j + 1, by omega, by go_num, hst.out, HAP2.out, HBG.out, HBH.out⟩
      case measure => simp [intOf]; omega
    · obtain rfl : j = n2 := by omega
      have d0 : wr.cell? ⟨h, 0, none⟩ = some (.pointer (some ⟨g, 0, none⟩)) := hbh.cellAt rfl
      have f0 := hbg.frozen 9
      have d1 : wr.cell? ⟨g, 9, none⟩ = some (.slice a.As s.stack.length a.cS) := hbg.cellAt rfl
      rw [layL_all, ← hsw.out] at hrow
      have HRW := hid hrow
      have HAP3 := hid hap
      have HBG := hid hbg
      have hjn' : decide ((j : Int) < (j : Int)) = false := decide_eq_false (by omega)
      obtain ⟨N, hN⟩ : ∃ N, N = p + j := ⟨_, rfl⟩
      rw [← hN] at HRW ⊢
      have hlen : Hid ((swapV s.stack take lay).length = N) := hid (by have := HRW.out.len; simpa using this)
      clear hrow hap hbg hbh hN hrow'
      go_wp2_with fail
      refine bodyPost_end (v := .tuple #[]) (by simp [results, Try.results96, go_sem]) rfl ?_
      have hl := hlen.out
      subst hl
      have hb9 := HBG.out.set_ 9 (.slice A' (swapV s.stack take lay).length c')
      have hst := M.out.stack (s' := { s with stack := swapV s.stack take lay }) rfl rfl (HAP3.out.setCell (p := ⟨g, 9, none⟩) (.inl (.inl rfl)) _) hb9 (HRW.out.far (p := ⟨g, 9, none⟩) (fun hf => hoff.out.1 hf) _) HAF.out
      exact ⟨rfl, _, hst.1, hst.2⟩
end
end Go.Proofs.Ytidlahljhgglcaa
namespace Go.Proofs.Ytidlahljhgglcaa
open Go.RowKit Go.ChangeShapes Go.WideShapes Go.ChangeAt

section
variable {w w' : World} {F : Nat → Prop} {h g gs : Nat} {i : ImgS} {a : VmA} {cs : List ChanS} {pc ticks fault arg : Int} {Ao : Option Addr} {cO : Nat} {d : VmD}
theorem TickAt.fits (t : TickAt w F h g gs i cs pc ticks fault arg d) (hl : d.stack.length ≤ 100) (take lay : Nat) (tI lI : Int) (ht : tI = take) (hy : lI = lay) (h1 : take ≤ 8) (h2 : lay ≤ 8) :
    Calls Try.prog 95 #[.pointer (some ⟨h, 0, none⟩), .int .i64 tI, .int .i64 lI] w fun e w' => e = .returned (.int .i64 (fitsE d.stack.length take lay)) ∧ w' = w := by
  obtain ⟨a, Ao, cO, F2, m, r, _⟩ := t
  exact fits_any m r hl take lay tI lI ht hy h1 h2
theorem TickAt.top (t : TickAt w F h g gs i cs pc ticks fault arg d) (hl : d.stack.length ≤ 100) (k : Nat) (kI : Int) (hk : kI = k) (hkl : k < d.stack.length) :
    Calls Try.prog 97 #[.pointer (some ⟨h, 0, none⟩), .int .i64 kI] w fun e w' => e = .returned (.int .i64 (topV d.stack k)) ∧ ∃ q, w' = w.drewN q := by
  obtain ⟨a, Ao, cO, F2, m, r, _⟩ := t
  exact top_any m r hl k kI hk hkl
theorem TickAt.swap (t : TickAt w F h g gs i cs pc ticks fault arg d) (hl : d.stack.length ≤ 100) (take : Nat) (tI : Int) (htI : tI = take) (ht : take ≤ d.stack.length) (lay : List Int) (A2 : Option Addr) (n2 c2 : Nat) (hn2 : lay.length = n2) (h2 : n2 ≤ 2) (hr : Reads w w.heap.size 1 A2 n2 (lay.map iV)) :
    Calls Try.prog 96 #[.pointer (some ⟨h, 0, none⟩), .int .i64 tI, .slice A2 n2 c2] w fun e w' => e = .returned (.tuple #[]) ∧ ∃ F', TickAt w' F' h g gs i cs pc ticks fault arg { d with stack := swapV d.stack take lay } ∧ Goes F w F' w' := by
  obtain ⟨a, Ao, cO, F2, m, r, h3, h4, h5⟩ := t
  refine (swap_any m r hl take tI htI ht lay A2 n2 c2 hn2 h2 hr).mono ?_
  rintro e w' ⟨rfl, a', hm, hg⟩
  exact ⟨rfl, TickAt.mach (d' := { d with stack := swapV d.stack take lay }) (pc' := pc) (ticks' := ticks) (fault' := fault) m r h3 h4 h5 hm hg rfl rfl rfl rfl⟩
theorem TickAt.cells (t : TickAt w F h g gs i cs pc ticks fault arg d) : ∃ a Ao cO, w.cell? ⟨h, 0, none⟩ = some (.pointer (some ⟨g, 0, none⟩)) ∧ w.cell? ⟨h, 1, none⟩ = some (.iface 31 (.pointer (some ⟨gs, 0, none⟩))) ∧ w.cell? ⟨h, 2, none⟩ = some (.int .i64 arg) ∧ w.cell? ⟨h, 3, none⟩ = some (.int .i64 d.next) ∧ w.cell? ⟨h, 4, none⟩ = some (.slice Ao d.sent.length cO) ∧ w.cell? ⟨h, 5, none⟩ = some (.bool d.conf) ∧
    w.cell? ⟨g, 0, none⟩ = some (.int .i64 i.part) ∧ w.cell? ⟨g, 5, none⟩ = some (.int .i64 i.sends) ∧ w.cell? ⟨g, 6, none⟩ = some (.int .i64 i.recvs) ∧ w.cell? ⟨g, 7, none⟩ = some (.slice (VmA.Ac a) i.code.length a.cc) ∧ w.cell? ⟨g, 10, none⟩ = some (.slice a.Am d.mem.length a.cM) ∧ w.cell? ⟨g, 11, none⟩ = some (.int .i64 ticks) ∧ (∀ k, w.frozen? ⟨h, k, none⟩ = false) := by
  obtain ⟨a, Ao, cO, F2, m, r, _⟩ := t
  exact ⟨a, Ao, cO, r.blk.cellAt rfl, r.blk.cellAt rfl, r.blk.cellAt rfl, r.blk.cellAt rfl, r.blk.cellAt rfl, r.blk.cellAt rfl, m.blk.cellAt rfl, m.blk.cellAt rfl, m.blk.cellAt rfl, m.blk.cellAt rfl, m.blk.cellAt rfl, m.blk.cellAt rfl, fun k => r.blk.frozen k⟩
/-- A word of a tick's own. -/
theorem TickAt.runSet (t : TickAt w F h g gs i cs pc ticks fault arg d) {k : Nat} {v : Value} {d' : VmD} {arg' : Int} (h1 : d'.stack = d.stack) (h2 : d'.mem = d.mem) (h3 : d'.sent = d.sent) (h4 : d'.ss = d.ss) (hr : ∀ Ao cO, (runC g gs arg d.next Ao d.sent.length cO d.conf).set k v = runC g gs arg' d'.next Ao d.sent.length cO d'.conf) :
    TickAt (w.setCell ⟨h, k, none⟩ v) F h g gs i cs pc ticks fault arg' d' ∧ Goes F w F (w.setCell ⟨h, k, none⟩ v) := by
  obtain ⟨a, Ao, cO, F2, m, r, hs, ha, hF⟩ := t
  have hk : ∀ b, b ≠ h → (w.setCell ⟨h, k, none⟩ v).heap[b]? = w.heap[b]? := fun b hb => Below.heap_setCell _ _ _ _ hb
  have hms : machS pc ticks fault d' = machS pc ticks fault d := by unfold machS; rw [h1, h2]
  refine ⟨⟨a, Ao, cO, F2, ?_, ⟨?_, ?_⟩, ?_, ha, hF⟩, ⟨(Apart.refl _ _).setCell (.inl ((hF h).2 (.inr (.inl (.inl rfl))))) _, fun _ h9 => .inl h9⟩⟩
  · rw [hms]
    exact m.keep fun b hb => hk b (fun e => r.apart m (.inl e) hb)
  · have := r.blk.set_ k v
    rw [hr Ao cO] at this
    rw [h3]
    exact this
  · rw [h3]
    exact own_keep r.out fun b hb => hk b (fun e => r.off (e ▸ hb))
  · rw [h4]
    exact hs.keep (by simp [World.setCell]) fun b hb => hk b (fun e => (ha b hb).2 (.inl e))
theorem lit1V (w : World) (x : Int) : Reads (w.alloc (.cells #[.int .i64 x] 3)) (w.alloc (.cells #[.int .i64 x] 3)).heap.size 1 (some ⟨w.heap.size, 0, none⟩) 1 ([x].map iV) := Reads.lit (heap_alloc_new w _) rfl
theorem lit2V (w : World) (x y : Int) : Reads (w.alloc (.cells #[.int .i64 x, .int .i64 y] 3)) (w.alloc (.cells #[.int .i64 x, .int .i64 y] 3)).heap.size 1 (some ⟨w.heap.size, 0, none⟩) 2 ([x, y].map iV) := Reads.lit (heap_alloc_new w _) rfl
theorem DPost.trans {F' : Nat → Prop} {r : Int × VmD} {w1 : World} {e : Ending} (hg : Goes F w F' w1) (hp : DPost F' w1 h g gs i cs pc ticks fault arg r e w') : DPost F w h g gs i cs pc ticks fault arg r e w' := by
  obtain ⟨F2, he, ht, hg2⟩ := hp
  exact ⟨F2, he, ht, hg.trans hg2⟩
theorem TickAt.drewN (t : TickAt w F h g gs i cs pc ticks fault arg d) (q : Nat) : TickAt (w.drewN q) F h g gs i cs pc ticks fault arg d := t.belowS (below_drewS q)
theorem lay_any (t : TickAt w F h g gs i cs pc ticks fault arg d) (hl : d.stack.length ≤ 100) (n : Int) :
    Calls Try.prog 94 #[.pointer (some ⟨h, 0, none⟩), .int .i64 n] w (DPost F w h g gs i cs pc ticks fault arg (onF 0 [n] d)) := by
  have i1 := t.fits hl 0 1 0 1 rfl rfl (by omega) (by omega)
  have T := hid t
  have i2 := hid ((t.belowS (below_alloc1 w (.cells #[.int .i64 n] 3))).swap hl 0 0 rfl (by omega) [n] (some ⟨w.heap.size, 0, none⟩) 1 1 rfl (by omega) (lit1V w n))
  obtain ⟨E, hE⟩ : ∃ E, fitsE d.stack.length 0 1 = E := ⟨_, rfl⟩
  rw [hE] at i1
  have I1 := hid i1
  clear i1 t
  by_cases h0 : E = 0
  · subst h0
    have ir : Hid (onF 0 [n] d = (0, { d with stack := swapV d.stack 0 [n] })) := hid (if_pos hE)
    clear hE
    go_enter Try.func94, Try.ntmps94
    go_wp2_with fail
    refine I1.out.mono ?_
    rintro e w1 ⟨rfl, rfl⟩
    go_wp2_with fail
    refine i2.out.mono ?_
    rintro e w2 ⟨rfl, F', ht, hg⟩
    go_wp2_with fail
    go_ret
    rw [ir.out]
    exact ⟨F', rfl, ht, (Goes.of_below (below_alloc1 w1 _)).trans hg⟩
  · have ir : Hid (onF 0 [n] d = (E, d)) := hid (by unfold onF; rw [if_neg (by rw [show [n].length = 1 from rfl, hE]; exact h0), show [n].length = 1 from rfl, hE])
    have y0 : (E != 0) = true := by simpa using h0
    clear hE h0 i2
    go_enter Try.func94, Try.ntmps94
    go_wp2_with fail
    refine I1.out.mono ?_
    rintro e w1 ⟨rfl, rfl⟩
    go_wp2_with fail
    go_ret
    rw [ir.out]
    exact DPost.same T.out rfl (Below.refl _ _)
theorem deed_yield (t : TickAt w F h g gs i cs pc ticks fault arg d) :
    Calls Try.prog 65 #[.pointer (some ⟨h, 0, none⟩)] w (DPost F w h g gs i cs pc ticks fault arg (deedF i cs ticks 0 arg d)) := by
  have T := hid t
  clear t
  go_enter Try.func65, Try.ntmps65
  go_wp2_with fail
  go_ret
  exact DPost.same T.out rfl (Below.refl _ _)
theorem deed_halt (t : TickAt w F h g gs i cs pc ticks fault arg d) :
    Calls Try.prog 82 #[.pointer (some ⟨h, 0, none⟩)] w (DPost F w h g gs i cs pc ticks fault arg (deedF i cs ticks 17 arg d)) := by
  have T := hid t
  clear t
  go_enter Try.func82, Try.ntmps82
  go_wp2_with fail
  go_ret
  exact DPost.same T.out rfl (Below.refl _ _)
theorem deed_confirm (t : TickAt w F h g gs i cs pc ticks fault arg d) :
    Calls Try.prog 81 #[.pointer (some ⟨h, 0, none⟩)] w (DPost F w h g gs i cs pc ticks fault arg (deedF i cs ticks 16 arg d)) := by
  obtain ⟨a, Ao, cO, c0, c1, c2, c3, c4, c5, _, _, _, _, _, _, hf⟩ := t.cells
  have f0 := hf 5
  have T := hid t
  clear t hf c0 c1 c2 c3 c4
  go_enter Try.func81, Try.ntmps81
  go_wp2_with fail
  go_ret
  have hs := T.out.runSet (k := 5) (v := .bool true) (d' := { d with conf := true }) (arg' := arg) rfl rfl rfl rfl (fun _ _ => rfl)
  exact ⟨F, rfl, hs.1, hs.2⟩
theorem deed_push (t : TickAt w F h g gs i cs pc ticks fault arg d) (hl : d.stack.length ≤ 100) :
    Calls Try.prog 66 #[.pointer (some ⟨h, 0, none⟩)] w (DPost F w h g gs i cs pc ticks fault arg (deedF i cs ticks 1 arg d)) := by
  obtain ⟨a, Ao, cO, c0, _, c2, _, _, _, _, _, _, _, _, c11, _⟩ := t.cells
  show Calls _ _ _ _ (DPost F w h g gs i cs pc ticks fault arg (onF 0 [arg] d))
  have i1 := hid (lay_any t hl arg)
  generalize onF 0 [arg] d = r at i1 ⊢
  clear t
  go_enter Try.func66, Try.ntmps66
  go_wp2_with fail
  refine i1.out.mono ?_
  rintro e w1 ⟨F', rfl, ht, hg⟩
  have K := hid (And.intro ht hg)
  clear ht hg
  go_wp2_with fail
  go_ret
  exact ⟨F', rfl, K.out.1, K.out.2⟩
theorem deed_now (t : TickAt w F h g gs i cs pc ticks fault arg d) (hl : d.stack.length ≤ 100) :
    Calls Try.prog 83 #[.pointer (some ⟨h, 0, none⟩)] w (DPost F w h g gs i cs pc ticks fault arg (deedF i cs ticks 18 arg d)) := by
  obtain ⟨a, Ao, cO, c0, _, c2, _, _, _, _, _, _, _, _, c11, _⟩ := t.cells
  show Calls _ _ _ _ (DPost F w h g gs i cs pc ticks fault arg (onF 0 [ticks] d))
  have i1 := hid (lay_any t hl ticks)
  generalize onF 0 [ticks] d = r at i1 ⊢
  clear t
  go_enter Try.func83, Try.ntmps83
  go_wp2_with fail
  refine i1.out.mono ?_
  rintro e w1 ⟨F', rfl, ht, hg⟩
  have K := hid (And.intro ht hg)
  clear ht hg
  go_wp2_with fail
  go_ret
  exact ⟨F', rfl, K.out.1, K.out.2⟩
theorem deed_drop (t : TickAt w F h g gs i cs pc ticks fault arg d) (hl : d.stack.length ≤ 100) :
    Calls Try.prog 67 #[.pointer (some ⟨h, 0, none⟩)] w (DPost F w h g gs i cs pc ticks fault arg (deedF i cs ticks 2 arg d)) := by
  have i1 := t.fits hl 1 0 1 0 rfl rfl (by omega) (by omega)
  have T := hid t
  obtain ⟨E, hE⟩ : ∃ E, fitsE d.stack.length 1 0 = E := ⟨_, rfl⟩
  rw [hE] at i1
  have I1 := hid i1
  clear i1 t
  by_cases h0 : E = 0
  · subst h0
    have hlen := (fits_ok hE).1
    have ir : Hid (deedF i cs ticks 2 arg d = (0, { d with stack := swapV d.stack 1 [] })) := hid (if_pos hE)
    clear hE
    go_enter Try.func67, Try.ntmps67
    go_wp2_with fail
    refine I1.out.mono ?_
    rintro e w1 ⟨rfl, rfl⟩
    go_wp2_with fail
    refine (T.out.swap hl 1 1 rfl (by omega) [] none 0 0 rfl (by omega) Reads.empty).mono ?_
    rintro e w4 ⟨rfl, F', ht, hg⟩
    have K := hid (And.intro ht hg)
    clear ht hg
    go_wp2_with fail
    go_ret
    rw [ir.out]
    exact ⟨F', rfl, K.out.1, K.out.2⟩
  · have ir : Hid (deedF i cs ticks 2 arg d = (E, d)) := hid (by have e0 : ¬ (fitsE d.stack.length 1 0 = 0) := (by rw [hE]; exact h0); rw [← hE]; exact if_neg e0)
    have y0 : (E == 0) = false := by simpa using h0
    clear hE h0
    go_enter Try.func67, Try.ntmps67
    go_wp2_with fail
    refine I1.out.mono ?_
    rintro e w1 ⟨rfl, rfl⟩
    go_wp2_with fail
    go_ret
    rw [ir.out]
    exact DPost.same T.out rfl (Below.refl _ _)
theorem deed_dup (t : TickAt w F h g gs i cs pc ticks fault arg d) (hl : d.stack.length ≤ 100) :
    Calls Try.prog 68 #[.pointer (some ⟨h, 0, none⟩)] w (DPost F w h g gs i cs pc ticks fault arg (deedF i cs ticks 3 arg d)) := by
  have i1 := t.fits hl 1 2 1 2 rfl rfl (by omega) (by omega)
  have T := hid t
  obtain ⟨E, hE⟩ : ∃ E, fitsE d.stack.length 1 2 = E := ⟨_, rfl⟩
  rw [hE] at i1
  have I1 := hid i1
  clear i1 t
  by_cases h0 : E = 0
  · subst h0
    have hlen := (fits_ok hE).1
    have ir : Hid (deedF i cs ticks 3 arg d = (0, { d with stack := swapV d.stack 0 [topV d.stack 0] })) := hid (if_pos hE)
    clear hE
    obtain ⟨x0, hx0⟩ : ∃ x, topV d.stack 0 = x := ⟨_, rfl⟩
    have j0 := hid (fun q => (T.out.drewN q).top hl 0 0 rfl (by omega))
    rw [hx0] at j0 ir
    clear hx0
    go_enter Try.func68, Try.ntmps68
    go_wp2_with fail
    refine I1.out.mono ?_
    rintro e w1 ⟨rfl, rfl⟩
    go_wp2_with fail
    refine (j0.out 0).mono ?_
    rintro e w2 ⟨rfl, q1, hq1⟩
    have hb2 : Below w1.heap.size w1 w2 := by rw [hq1]; exact below_drewS q1
    clear hq1
    have T2 := hid (T.out.belowS hb2)
    have i2 := hid ((T2.out.belowS (below_alloc1 w2 (.cells #[.int .i64 x0] 3))).swap hl 0 0 rfl (by omega) [x0] (some ⟨w2.heap.size, 0, none⟩) 1 1 rfl (by omega) (lit1V w2 x0))
    have HB2 := hid hb2
    clear hb2
    go_wp2_with fail
    refine i2.out.mono ?_
    rintro e w4 ⟨rfl, F', ht, hg⟩
    have K := hid (And.intro ht hg)
    clear ht hg
    go_wp2_with fail
    go_ret
    rw [ir.out]
    exact ⟨F', rfl, K.out.1, ((Goes.of_below HB2.out).trans (Goes.of_below (below_alloc1 _ _))).trans K.out.2⟩
  · have ir : Hid (deedF i cs ticks 3 arg d = (E, d)) := hid (by have e0 : ¬ (fitsE d.stack.length 1 2 = 0) := (by rw [hE]; exact h0); rw [← hE]; exact if_neg e0)
    have y0 : (E == 0) = false := by simpa using h0
    clear hE h0
    go_enter Try.func68, Try.ntmps68
    go_wp2_with fail
    refine I1.out.mono ?_
    rintro e w1 ⟨rfl, rfl⟩
    go_wp2_with fail
    go_ret
    rw [ir.out]
    exact DPost.same T.out rfl (Below.refl _ _)
theorem deed_turn (t : TickAt w F h g gs i cs pc ticks fault arg d) (hl : d.stack.length ≤ 100) :
    Calls Try.prog 69 #[.pointer (some ⟨h, 0, none⟩)] w (DPost F w h g gs i cs pc ticks fault arg (deedF i cs ticks 4 arg d)) := by
  have i1 := t.fits hl 2 2 2 2 rfl rfl (by omega) (by omega)
  have T := hid t
  obtain ⟨E, hE⟩ : ∃ E, fitsE d.stack.length 2 2 = E := ⟨_, rfl⟩
  rw [hE] at i1
  have I1 := hid i1
  clear i1 t
  by_cases h0 : E = 0
  · subst h0
    have hlen := (fits_ok hE).1
    have ir : Hid (deedF i cs ticks 4 arg d = (0, { d with stack := swapV d.stack 2 [topV d.stack 0, topV d.stack 1] })) := hid (if_pos hE)
    clear hE
    obtain ⟨x0, hx0⟩ : ∃ x, topV d.stack 0 = x := ⟨_, rfl⟩
    have j0 := hid (fun q => (T.out.drewN q).top hl 0 0 rfl (by omega))
    rw [hx0] at j0 ir
    clear hx0
    obtain ⟨x1, hx1⟩ : ∃ x, topV d.stack 1 = x := ⟨_, rfl⟩
    have j1 := hid (fun q => (T.out.drewN q).top hl 1 1 rfl (by omega))
    rw [hx1] at j1 ir
    clear hx1
    go_enter Try.func69, Try.ntmps69
    go_wp2_with fail
    refine I1.out.mono ?_
    rintro e w1 ⟨rfl, rfl⟩
    go_wp2_with fail
    refine (j0.out 0).mono ?_
    rintro e w2 ⟨rfl, q1, hq1⟩
    rw [hq1]
    go_wp2_with fail
    refine (j1.out _).mono ?_
    rintro e w3 ⟨rfl, q2, hq2⟩
    have hb2 : Below w1.heap.size w1 w3 := by rw [hq2]; exact bel_trans (below_drewS _) (below_drewS q2)
    clear hq2 hq1
    have T2 := hid (T.out.belowS hb2)
    have i2 := hid ((T2.out.belowS (below_alloc1 w3 (.cells #[.int .i64 x0, .int .i64 x1] 3))).swap hl 2 2 rfl (by omega) [x0, x1] (some ⟨w3.heap.size, 0, none⟩) 2 2 rfl (by omega) (lit2V w3 x0 x1))
    have HB2 := hid hb2
    clear hb2
    go_wp2_with fail
    refine i2.out.mono ?_
    rintro e w4 ⟨rfl, F', ht, hg⟩
    have K := hid (And.intro ht hg)
    clear ht hg
    go_wp2_with fail
    go_ret
    rw [ir.out]
    exact ⟨F', rfl, K.out.1, ((Goes.of_below HB2.out).trans (Goes.of_below (below_alloc1 _ _))).trans K.out.2⟩
  · have ir : Hid (deedF i cs ticks 4 arg d = (E, d)) := hid (by have e0 : ¬ (fitsE d.stack.length 2 2 = 0) := (by rw [hE]; exact h0); rw [← hE]; exact if_neg e0)
    have y0 : (E == 0) = false := by simpa using h0
    clear hE h0
    go_enter Try.func69, Try.ntmps69
    go_wp2_with fail
    refine I1.out.mono ?_
    rintro e w1 ⟨rfl, rfl⟩
    go_wp2_with fail
    go_ret
    rw [ir.out]
    exact DPost.same T.out rfl (Below.refl _ _)
end
end Go.Proofs.Ytidlahljhgglcaa
namespace Go.Proofs.Ytidlahljhgglcaa
open Go.RowKit Go.ChangeShapes Go.WideShapes Go.ChangeAt

theorem Row.front {w : World} {e : TypeId} {A : Option Addr} {n c : Nat} {xs : List Value} (h : Row w e A n c xs) {i : Nat} (hi : i ≤ n) : Row w e A i c (xs.take i) := by
  have h1 := h.1
  have h2 := h.2.1
  refine ⟨by rw [List.length_take]; omega, by omega, h.2.2.1, ?_⟩
  rcases h.2.2.2 with h4 | ⟨g, cur, h4, h5, h6, h7⟩
  · exact .inl h4
  · refine .inr ⟨g, cur, h4, h5, h6, ?_⟩
    rw [← h7, List.take_take]
    congr 1
    omega
/-- What an act on the machine alone leaves. -/
def MPost (F : Nat → Prop) (w : World) (g : Nat) (i : ImgS) (e0 : Ending) (s' : VmS) (e : Ending) (w' : World) : Prop := ∃ F', e = e0 ∧ RvAt w' F' g i s' ∧ Goes F w F' w'
section
variable {w w' : World} {F : Nat → Prop} {g : Nat} {i : ImgS} {a : VmA} {s : VmS}
set_option maxRecDepth 100000 in
set_option maxHeartbeats 2000000 in
theorem rvPop_in (m : RvIn w g i a s) (hl : 0 < s.stack.length) (hl2 : s.stack.length ≤ 100) :
    Calls Try.prog 53 #[.pointer (some ⟨g, 0, none⟩)] w fun e w' => e = .returned (.int .i64 (topV s.stack 0)) ∧ w' = w.setCell ⟨g, 9, none⟩ (.slice a.As (s.stack.length - 1) a.cS) := by
  obtain ⟨gs, hAs, _⟩ := m.st.form hl
  obtain ⟨k, hk⟩ : ∃ k, s.stack.length = k + 1 := ⟨s.stack.length - 1, by omega⟩
  have c9 : w.cell? ⟨g, 9, none⟩ = some (.slice (some ⟨gs, 0, none⟩) (k + 1) a.cS) := by rw [← hAs, ← hk]; exact m.blk.cellAt rfl
  have hst := m.st
  rw [hAs] at hst
  have e1 : w.cell? ⟨gs, k, none⟩ = some (.int .i64 (topV s.stack 0)) := hst.cell (by
    unfold topV
    rw [List.getElem?_map, hk, show k + 1 - 1 - 0 = k by omega, List.getD_eq_getElem?_getD, List.getElem?_eq_getElem (by omega)]
    rfl)
  have f9 := m.blk.frozen 9
  have hcap := hst.cap
  rw [hk] at hcap
  have hcap1 := hcap.1
  have hcap2 := hcap.2
  unfold maxLen at hcap2
  rw [hAs, hk, show k + 1 - 1 = k by omega]
  have hk2 : k ≤ 100 := by omega
  generalize topV s.stack 0 = x at *
  clear hst hAs hcap hk hl hl2 m
  go_enter Try.func53, Try.ntmps53
  go_wp2_with fail
  go_ret
  exact ⟨rfl, rfl⟩
theorem RvIn.popped (m : RvIn w g i a s) : RvIn (w.setCell ⟨g, 9, none⟩ (.slice a.As (s.stack.length - 1) a.cS)) g i a { s with stack := s.stack.take (s.stack.length - 1) } ∧ Goes (MachF g a) w (MachF g a) (w.setCell ⟨g, 9, none⟩ (.slice a.As (s.stack.length - 1) a.cS)) := by
  have h := m.stack (w1 := w) (Below.refl _ _) (A' := a.As) (c' := a.cS) (st' := s.stack.take (s.stack.length - 1)) (by
    have := m.st.front (show s.stack.length - 1 ≤ s.stack.length by omega)
    rw [List.length_take, Nat.min_eq_left (by omega), List.map_take]
    exact this) (fun b hb => .inl hb)
  rw [show (s.stack.take (s.stack.length - 1)).length = s.stack.length - 1 by rw [List.length_take]; omega] at h
  exact h
theorem rvPop (t : RvAt w F g i s) (hl : 0 < s.stack.length) (hl2 : s.stack.length ≤ 100) :
    Calls Try.prog 53 #[.pointer (some ⟨g, 0, none⟩)] w (MPost F w g i (.returned (.int .i64 (topV s.stack 0))) { s with stack := s.stack.take (s.stack.length - 1) }) := by
  obtain ⟨a, m, hF⟩ := t
  refine (rvPop_in m hl hl2).mono ?_
  rintro e w' ⟨rfl, rfl⟩
  have h := m.popped
  exact ⟨_, rfl, h.1.at_, Goes.iff_ hF h.2⟩
theorem own0 {w : World} {base : Nat} {e : TypeId} {A : Option Addr} {n c : Nat} {xs : List Value} (h : w.ownsRow base e 1 (.slice A (0 + n) c) (0 + n) ([] ++ xs)) : w.ownsRow base e 1 (.slice A n c) n xs := by simpa using h
theorem w65_tmod (x : Int) : w65 x = if Int.tmod x 65536 < 0 then Int.tmod x 65536 + 65536 else Int.tmod x 65536 := by
  unfold w65
  have h := Int.tmod_add_mul_tdiv x 65536
  rcases Int.lt_or_le x 0 with hx | hx
  · have h1 : Int.tmod x 65536 ≤ 0 := by
      have := Int.tmod_nonneg 65536 (show 0 ≤ -x by omega)
      rw [Int.neg_tmod] at this
      omega
    have h2 : -65536 < Int.tmod x 65536 := by
      have := Int.tmod_lt_of_pos (-x) (show (0 : Int) < 65536 by decide)
      rw [Int.neg_tmod] at this
      omega
    split <;> omega
  · rw [Int.tmod_eq_emod_of_nonneg hx]
    have := Int.emod_nonneg x (show (65536 : Int) ≠ 0 by decide)
    rw [if_neg (by omega)]
theorem tmod_bd (x : Int) : -65536 < Int.tmod x 65536 ∧ Int.tmod x 65536 < 65536 := by
  have h1 := Int.tmod_lt_of_pos x (show (0 : Int) < 65536 by decide)
  have h2 := Int.tmod_lt_of_pos (-x) (show (0 : Int) < 65536 by decide)
  rw [Int.neg_tmod] at h2
  omega
set_option maxRecDepth 100000 in
set_option maxHeartbeats 2000000 in
theorem rvPush (t : RvAt w F g i s) (hl2 : s.stack.length ≤ 100) (x : Int) :
    Calls Try.prog 90 #[.pointer (some ⟨g, 0, none⟩), .int .i64 x] w (MPost F w g i (.returned (.tuple #[])) { s with stack := s.stack ++ [w65 x] }) := by
  obtain ⟨a, m, hF⟩ := t
  obtain ⟨i0, hi0, hz0, hz1, hz2⟩ := info_parts info_int
  obtain ⟨n, hn⟩ : ∃ n, s.stack.length = n := ⟨_, rfl⟩
  have c9 : w.cell? ⟨g, 9, none⟩ = some (.slice a.As n a.cS) := by rw [← hn]; exact m.blk.cellAt rfl
  have hr0 := m.st.reads
  rw [hn] at hr0 hl2
  have HR := hid hr0
  have HM := hid m
  have HH := hid hF
  have HN := hid hn
  have hx := tmod_bd x
  have HW := hid (w65_tmod x)
  generalize hX : Int.tmod x 65536 = X at *
  have HX := hid hX
  obtain ⟨hx1, hx2⟩ := hx
  clear hr0 m hF hn
  by_cases h0 : X < 0
  case' pos => have y0 : decide (X < 0) = true := decide_eq_true h0
  case' neg => have y0 : decide (X < 0) = false := decide_eq_false h0
  all_goals
    go_enter Try.func90, Try.ntmps90
    go_wp2_with (first
      | (at_builtin; refine wpList_app _ rfl (.tmp 5) (.tmp 10) _ rfl w.heap.size 3 i0 _ 1 8 Try.underlying40 hi0 hz0 hz1 hz2 rfl (by decide) (.slice none 0 0) 0 [] rfl (World.ownsRow_nil _ _ _ _) w.heap.size a.As n a.cS (s.stack.map iV) rfl HR.out (oneCell_is s.stack) (by simp [maxLen]; omega) (by omega) (Nat.le_refl _) ?_; intro A1 c1 w1 ho1 hg1 hb1; have HO1 := hid (own0 ho1); have hs1 := hg1.size; have HB1 := hid ((Below.refl w.heap.size w).grown hg1 (Nat.le_refl _) (fun k hk => by cases hk)); clear ho1 hg1 hb1)
      | (at_builtin; refine wpList_app _ rfl (.tmp 19) (.tmp 21) _ rfl w.heap.size 3 i0 _ 1 8 Try.underlying40 hi0 hz0 hz1 hz2 rfl (by decide) (.slice A1 n c1) n (s.stack.map iV) rfl (own_below HO1.out (below_alloc1 w1 _)) _ (some ⟨w1.heap.size, 0, none⟩) 1 1 (([_] : List Int).map iV) rfl (lit1V w1 _) (oneCell_is _) (by simp [maxLen]; omega) (by omega) (by simp; omega) ?_; intro A2 c2 w2 ho2 hg2 hb2; have HB2 := hid (below_own (bel_alloc HB1.out _) (own_below HO1.out (below_alloc1 w1 _)) hg2 (Nat.le_refl _) (by simp; omega)); have hbk := HM.out.blk.below HB2.out HM.out.blk.lt; have d9 : w2.cell? ⟨g, 9, none⟩ = some (.slice a.As s.stack.length a.cS) := hbk.cellAt rfl; have f9 := hbk.frozen 9; have HO2 := hid ho2; clear ho2 hg2 hb2 hbk))
    refine bodyPost_end (v := .tuple #[]) (by simp [results, Try.results90, go_sem]) rfl ?_
    have hxx := HW.out
    first | rw [if_pos h0] at hxx | rw [if_neg (by omega)] at hxx
    have ho := HO2.out
    rw [← hxx] at ho
    have K := HM.out.stack HB2.out (A' := A2) (c' := c2) (st' := s.stack ++ [w65 x]) (by
      have := Row.of_own ho
      rw [List.length_append, HN.out, List.map_append]
      exact this) (fun b hb => .inr (ho.lt b (ownBlock_foot.2 hb)).1)
    rw [List.length_append, HN.out] at K
    exact ⟨_, rfl, K.1.at_, Goes.iff_ HH.out K.2⟩
end
end Go.Proofs.Ytidlahljhgglcaa
namespace Go.Proofs.Ytidlahljhgglcaa
open Go.RowKit Go.ChangeShapes Go.WideShapes Go.ChangeAt

def popS (s : VmS) : VmS := { s with stack := s.stack.take (s.stack.length - 1) }
def pushS (x : Int) (s : VmS) : VmS := { s with stack := s.stack ++ [w65 x] }
def sumF (o : Nat) (x y : Int) : Int := match o with
  | 5 => x + y
  | 6 => x - y
  | 7 => x * y
  | 8 => oneI (decide (x < y))
  | _ => oneI (decide (x = y))
theorem top_pop {s : VmS} (h : 1 < s.stack.length) : topV (popS s).stack 0 = topV s.stack 1 := by
  unfold topV popS
  simp only [List.length_take]
  rw [List.getD_eq_getElem?_getD, List.getD_eq_getElem?_getD, List.getElem?_take, if_pos (by omega), show min (s.stack.length - 1) s.stack.length - 1 - 0 = s.stack.length - 1 - 1 by omega]
theorem pop_len (s : VmS) : (popS s).stack.length = s.stack.length - 1 := by unfold popS; simp
theorem push_len (x : Int) (s : VmS) : (pushS x s).stack.length = s.stack.length + 1 := by unfold pushS; simp
def insV (o a : Int) : Value := .agg #[.int .i64 o, .int .i64 a]
theorem ins_in (o a : Int) (w : World) : ∃ w1 : World, w.alloc (.cells #[.int .i64 o, .int .i64 a] 120) = w1 ∧ Below w.heap.size w w1 ∧ Blk w1 w.heap.size 120 [.int .i64 o, .int .i64 a] ∧ w1.heap.size = w.heap.size + 1 :=
  ⟨_, rfl, below_alloc1 w _, Blk.new w _ [.int .i64 o, .int .i64 a], by simp⟩
section
variable {w w' : World} {F : Nat → Prop} {g : Nat} {i : ImgS} {s : VmS}
theorem MPost.trans {F1 : Nat → Prop} {w1 : World} {e0 e : Ending} {s' : VmS} (hG : Goes F w F1 w1) (h : MPost F1 w1 g i e0 s' e w') : MPost F w g i e0 s' e w' := by
  obtain ⟨F2, he, ht, hg⟩ := h
  exact ⟨F2, he, ht, hG.trans hg⟩
theorem Goes.keeps {F1 : Nat → Prop} {b : Nat} (hG : Goes F w F1 w') (hb : b < w.heap.size) (hf : ¬ F b) : w'.heap[b]? = w.heap[b]? ∧ ¬ F1 b ∧ b < w'.heap.size :=
  ⟨hG.apart.block b hb hf, fun h9 => (hG.foot b h9).elim hf (fun h8 => by omega), Nat.lt_of_lt_of_le hb hG.apart.size⟩
theorem RvIn.popG {w0 W w2 : World} {a : VmA} {sl : Nat} (hw : w2 = W.setCell ⟨g, 9, none⟩ (.slice a.As sl a.cS)) (hb : Below w0.heap.size w0 W) (m : RvIn w0 g i a s) (hsl : s.stack.length - 1 = sl) :
    RvIn w2 g i a (popS s) ∧ Goes (MachF g a) w0 (MachF g a) w2 ∧ ∀ b, b < w0.heap.size → b ≠ g → w2.heap[b]? = w0.heap[b]? := by
  subst hw hsl
  have h := (m.belowS hb).popped
  exact ⟨h.1, (Goes.of_below hb).trans h.2, fun b h1 h2 => (Below.heap_setCell _ _ _ _ h2).trans (hb.block b h1)⟩
set_option maxRecDepth 100000 in
theorem sum_any (o : Nat) (ho : 5 ≤ o ∧ o ≤ 9) (x y : Int) (hx : InW x) (hy : InW y) (w : World) :
    Calls Try.prog 91 #[.int .i64 (o : Int), .int .i64 x, .int .i64 y] w fun e w' => e = .returned (.int .i64 (sumF o x y)) ∧ w' = w := by
  obtain ⟨hx0, hx1⟩ := hx
  obtain ⟨hy0, hy1⟩ := hy
  have h5 : o = 5 ∨ o = 6 ∨ o = 7 ∨ o = 8 ∨ o = 9 := by omega
  clear ho
  have HM : Hid (0 ≤ x * y ∧ x * y ≤ 4294836225) := hid ⟨Int.mul_nonneg hx0 hy0, by
    have := Int.mul_le_mul hx1 hy1 hy0 (by decide)
    simpa using this⟩
  rcases h5 with rfl | rfl | rfl | rfl | rfl
  · go_enter Try.func91, Try.ntmps91
    go_wp2_with fail
    go_ret
    exact ⟨ret_int (by simp [sumF]), by first | trivial | rfl⟩
  · go_enter Try.func91, Try.ntmps91
    go_wp2_with fail
    go_ret
    exact ⟨ret_int (by simp [sumF]), by first | trivial | rfl⟩
  · go_enter Try.func91, Try.ntmps91
    go_wp2_with fail
    go_ret
    have := HM.out
    exact ⟨ret_int (by first | (simp [sumF]; done) | (rw [IntWalk.wrap64_in _ ⟨by omega, by omega⟩]; rfl)), by first | trivial | rfl⟩
  · by_cases h : x < y
    · have y0 : decide (x < y) = true := decide_eq_true h
      have hr : Hid (sumF 8 x y = 1) := hid (by simp [sumF, oneI, y0])
      go_enter Try.func91, Try.ntmps91
      go_wp2_with fail
      go_ret
      exact ⟨ret_int (by rw [hr.out]), by first | trivial | rfl⟩
    · have y0 : decide (x < y) = false := decide_eq_false h
      have hr : Hid (sumF 8 x y = 0) := hid (by simp [sumF, oneI, y0])
      go_enter Try.func91, Try.ntmps91
      go_wp2_with fail
      go_ret
      exact ⟨ret_int (by rw [hr.out]), by first | trivial | rfl⟩
  · by_cases h : x = y
    · have y0 : (x == y) = true := by simpa using h
      have hr : Hid (sumF 9 x y = 1) := hid (by simp [sumF, oneI, h])
      clear h
      go_enter Try.func91, Try.ntmps91
      go_wp2_with fail
      go_ret
      exact ⟨ret_int (by rw [hr.out]), by first | trivial | rfl⟩
    · have y0 : (x == y) = false := by simpa using h
      have hr : Hid (sumF 9 x y = 0) := hid (by simp [sumF, oneI, h])
      clear h
      go_enter Try.func91, Try.ntmps91
      go_wp2_with fail
      go_ret
      exact ⟨ret_int (by rw [hr.out]), by first | trivial | rfl⟩
set_option maxRecDepth 100000 in
set_option maxHeartbeats 2000000 in
theorem rvStk_none (t : RvAt w F g i s) (a o : Int) (ho : o = 0 ∨ o = 12 ∨ o = 13 ∨ o = 14 ∨ o = 15 ∨ o = 16 ∨ o = 17) :
    Calls Try.prog 54 #[.pointer (some ⟨g, 0, none⟩), insV o a] w (MPost F w g i (.returned (.tuple #[])) s) := by
  rcases ho with rfl | rfl | rfl | rfl | rfl | rfl | rfl
  · obtain ⟨w1, hw1, hb1, hB, hs1⟩ := ins_in 0 a w
    have x0 : w1.cell? ⟨w.heap.size, 0, none⟩ = some (.int .i64 0) := hB.cellAt rfl
    have x1 : w1.cell? ⟨w.heap.size, 1, none⟩ = some (.int .i64 a) := hB.cellAt rfl
    have T1 := hid (t.belowS hb1)
    have G1 := hid (Goes.of_below (F := F) hb1)
    have HB := hid hB
    have HN : Hid (¬ F w.heap.size) := hid (fun h9 => by have := t.lt h9; omega)
    have HL : Hid (w.heap.size < w1.heap.size) := hid (by omega)
    clear hb1 hB hs1 t
    unfold insV
    go_enter Try.func54, Try.ntmps54
    go_wp2_with fail
    refine bodyPost_end (v := .tuple #[]) (by simp [results, Try.results54, go_sem]) rfl ?_
    exact ⟨_, rfl, T1.out, G1.out⟩
  · obtain ⟨w1, hw1, hb1, hB, hs1⟩ := ins_in 12 a w
    have x0 : w1.cell? ⟨w.heap.size, 0, none⟩ = some (.int .i64 12) := hB.cellAt rfl
    have x1 : w1.cell? ⟨w.heap.size, 1, none⟩ = some (.int .i64 a) := hB.cellAt rfl
    have T1 := hid (t.belowS hb1)
    have G1 := hid (Goes.of_below (F := F) hb1)
    have HB := hid hB
    have HN : Hid (¬ F w.heap.size) := hid (fun h9 => by have := t.lt h9; omega)
    have HL : Hid (w.heap.size < w1.heap.size) := hid (by omega)
    clear hb1 hB hs1 t
    unfold insV
    go_enter Try.func54, Try.ntmps54
    go_wp2_with fail
    refine bodyPost_end (v := .tuple #[]) (by simp [results, Try.results54, go_sem]) rfl ?_
    exact ⟨_, rfl, T1.out, G1.out⟩
  · obtain ⟨w1, hw1, hb1, hB, hs1⟩ := ins_in 13 a w
    have x0 : w1.cell? ⟨w.heap.size, 0, none⟩ = some (.int .i64 13) := hB.cellAt rfl
    have x1 : w1.cell? ⟨w.heap.size, 1, none⟩ = some (.int .i64 a) := hB.cellAt rfl
    have T1 := hid (t.belowS hb1)
    have G1 := hid (Goes.of_below (F := F) hb1)
    have HB := hid hB
    have HN : Hid (¬ F w.heap.size) := hid (fun h9 => by have := t.lt h9; omega)
    have HL : Hid (w.heap.size < w1.heap.size) := hid (by omega)
    clear hb1 hB hs1 t
    unfold insV
    go_enter Try.func54, Try.ntmps54
    go_wp2_with fail
    refine bodyPost_end (v := .tuple #[]) (by simp [results, Try.results54, go_sem]) rfl ?_
    exact ⟨_, rfl, T1.out, G1.out⟩
  · obtain ⟨w1, hw1, hb1, hB, hs1⟩ := ins_in 14 a w
    have x0 : w1.cell? ⟨w.heap.size, 0, none⟩ = some (.int .i64 14) := hB.cellAt rfl
    have x1 : w1.cell? ⟨w.heap.size, 1, none⟩ = some (.int .i64 a) := hB.cellAt rfl
    have T1 := hid (t.belowS hb1)
    have G1 := hid (Goes.of_below (F := F) hb1)
    have HB := hid hB
    have HN : Hid (¬ F w.heap.size) := hid (fun h9 => by have := t.lt h9; omega)
    have HL : Hid (w.heap.size < w1.heap.size) := hid (by omega)
    clear hb1 hB hs1 t
    unfold insV
    go_enter Try.func54, Try.ntmps54
    go_wp2_with fail
    refine bodyPost_end (v := .tuple #[]) (by simp [results, Try.results54, go_sem]) rfl ?_
    exact ⟨_, rfl, T1.out, G1.out⟩
  · obtain ⟨w1, hw1, hb1, hB, hs1⟩ := ins_in 15 a w
    have x0 : w1.cell? ⟨w.heap.size, 0, none⟩ = some (.int .i64 15) := hB.cellAt rfl
    have x1 : w1.cell? ⟨w.heap.size, 1, none⟩ = some (.int .i64 a) := hB.cellAt rfl
    have T1 := hid (t.belowS hb1)
    have G1 := hid (Goes.of_below (F := F) hb1)
    have HB := hid hB
    have HN : Hid (¬ F w.heap.size) := hid (fun h9 => by have := t.lt h9; omega)
    have HL : Hid (w.heap.size < w1.heap.size) := hid (by omega)
    clear hb1 hB hs1 t
    unfold insV
    go_enter Try.func54, Try.ntmps54
    go_wp2_with fail
    refine bodyPost_end (v := .tuple #[]) (by simp [results, Try.results54, go_sem]) rfl ?_
    exact ⟨_, rfl, T1.out, G1.out⟩
  · obtain ⟨w1, hw1, hb1, hB, hs1⟩ := ins_in 16 a w
    have x0 : w1.cell? ⟨w.heap.size, 0, none⟩ = some (.int .i64 16) := hB.cellAt rfl
    have x1 : w1.cell? ⟨w.heap.size, 1, none⟩ = some (.int .i64 a) := hB.cellAt rfl
    have T1 := hid (t.belowS hb1)
    have G1 := hid (Goes.of_below (F := F) hb1)
    have HB := hid hB
    have HN : Hid (¬ F w.heap.size) := hid (fun h9 => by have := t.lt h9; omega)
    have HL : Hid (w.heap.size < w1.heap.size) := hid (by omega)
    clear hb1 hB hs1 t
    unfold insV
    go_enter Try.func54, Try.ntmps54
    go_wp2_with fail
    refine bodyPost_end (v := .tuple #[]) (by simp [results, Try.results54, go_sem]) rfl ?_
    exact ⟨_, rfl, T1.out, G1.out⟩
  · obtain ⟨w1, hw1, hb1, hB, hs1⟩ := ins_in 17 a w
    have x0 : w1.cell? ⟨w.heap.size, 0, none⟩ = some (.int .i64 17) := hB.cellAt rfl
    have x1 : w1.cell? ⟨w.heap.size, 1, none⟩ = some (.int .i64 a) := hB.cellAt rfl
    have T1 := hid (t.belowS hb1)
    have G1 := hid (Goes.of_below (F := F) hb1)
    have HB := hid hB
    have HN : Hid (¬ F w.heap.size) := hid (fun h9 => by have := t.lt h9; omega)
    have HL : Hid (w.heap.size < w1.heap.size) := hid (by omega)
    clear hb1 hB hs1 t
    unfold insV
    go_enter Try.func54, Try.ntmps54
    go_wp2_with fail
    refine bodyPost_end (v := .tuple #[]) (by simp [results, Try.results54, go_sem]) rfl ?_
    exact ⟨_, rfl, T1.out, G1.out⟩
set_option maxRecDepth 100000 in
set_option maxHeartbeats 2000000 in
theorem rvStk_push (t : RvAt w F g i s) (hl2 : s.stack.length ≤ 90) (a : Int) :
    Calls Try.prog 54 #[.pointer (some ⟨g, 0, none⟩), insV 1 a] w (MPost F w g i (.returned (.tuple #[])) (pushS a s)) := by
  obtain ⟨w1, hw1, hb1, hB, hs1⟩ := ins_in 1 a w
  have x0 : w1.cell? ⟨w.heap.size, 0, none⟩ = some (.int .i64 1) := hB.cellAt rfl
  have x1 : w1.cell? ⟨w.heap.size, 1, none⟩ = some (.int .i64 a) := hB.cellAt rfl
  have T1 := hid (t.belowS hb1)
  have G1 := hid (Goes.of_below (F := F) hb1)
  have HB := hid hB
  have HN : Hid (¬ F w.heap.size) := hid (fun h9 => by have := t.lt h9; omega)
  have HL : Hid (w.heap.size < w1.heap.size) := hid (by omega)
  have i1 := hid (rvPush T1.out (by omega) a)
  clear hb1 hB hs1 t
  unfold insV
  go_enter Try.func54, Try.ntmps54
  go_wp2_with fail
  refine i1.out.mono ?_
  rintro e w2 ⟨F2, rfl, ht, hg⟩
  have T2 := hid ht
  have G2 := hid (G1.out.trans hg)
  clear ht hg i1
  go_wp2_with fail
  refine bodyPost_end (v := .tuple #[]) (by simp [results, Try.results54, go_sem]) rfl ?_
  exact ⟨_, rfl, T2.out, G2.out⟩
set_option maxRecDepth 100000 in
set_option maxHeartbeats 2000000 in
theorem rvStk_drop (t : RvAt w F g i s) (hl2 : s.stack.length ≤ 90) (a : Int) (hl : 0 < s.stack.length) :
    Calls Try.prog 54 #[.pointer (some ⟨g, 0, none⟩), insV 2 a] w (MPost F w g i (.returned (.tuple #[])) (popS s)) := by
  obtain ⟨w1, hw1, hb1, hB, hs1⟩ := ins_in 2 a w
  have x0 : w1.cell? ⟨w.heap.size, 0, none⟩ = some (.int .i64 2) := hB.cellAt rfl
  have x1 : w1.cell? ⟨w.heap.size, 1, none⟩ = some (.int .i64 a) := hB.cellAt rfl
  have T1 := hid (t.belowS hb1)
  have G1 := hid (Goes.of_below (F := F) hb1)
  have HB := hid hB
  have HN : Hid (¬ F w.heap.size) := hid (fun h9 => by have := t.lt h9; omega)
  have HL : Hid (w.heap.size < w1.heap.size) := hid (by omega)
  have i1 := hid (rvPop T1.out hl (by omega))
  clear hb1 hB hs1 t
  unfold insV
  go_enter Try.func54, Try.ntmps54
  go_wp2_with fail
  refine i1.out.mono ?_
  rintro e w2 ⟨F2, rfl, ht, hg⟩
  have T2 := hid ht
  have G2 := hid (G1.out.trans hg)
  clear ht hg i1
  go_wp2_with fail
  refine bodyPost_end (v := .tuple #[]) (by simp [results, Try.results54, go_sem]) rfl ?_
  exact ⟨_, rfl, T2.out, G2.out⟩
set_option maxRecDepth 100000 in
set_option maxHeartbeats 2000000 in
theorem rvStk_dup (t : RvAt w F g i s) (hl2 : s.stack.length ≤ 90) (a : Int) (hl : 0 < s.stack.length) :
    Calls Try.prog 54 #[.pointer (some ⟨g, 0, none⟩), insV 3 a] w (MPost F w g i (.returned (.tuple #[])) (pushS (topV s.stack 0) (pushS (topV s.stack 0) (popS s)))) := by
  obtain ⟨w1, hw1, hb1, hB, hs1⟩ := ins_in 3 a w
  have x0 : w1.cell? ⟨w.heap.size, 0, none⟩ = some (.int .i64 3) := hB.cellAt rfl
  have x1 : w1.cell? ⟨w.heap.size, 1, none⟩ = some (.int .i64 a) := hB.cellAt rfl
  have T1 := hid (t.belowS hb1)
  have G1 := hid (Goes.of_below (F := F) hb1)
  have HB := hid hB
  have HN : Hid (¬ F w.heap.size) := hid (fun h9 => by have := t.lt h9; omega)
  have HL : Hid (w.heap.size < w1.heap.size) := hid (by omega)
  have i1 := hid (rvPop T1.out hl (by omega))
  have p1 := pop_len s
  have p2 := push_len (topV s.stack 0) (popS s)
  have i2 := hid (fun W F' (h : RvAt W F' g i (popS s)) => rvPush h (by omega) (topV s.stack 0))
  have i3 := hid (fun W F' (h : RvAt W F' g i (pushS (topV s.stack 0) (popS s))) => rvPush h (by omega) (topV s.stack 0))
  generalize topV s.stack 0 = x at *
  clear hb1 hB hs1 t p1 p2
  unfold insV
  go_enter Try.func54, Try.ntmps54
  go_wp2_with fail
  refine i1.out.mono ?_
  rintro e w2 ⟨F2, rfl, ht, hg⟩
  have T2 := hid ht
  have G2 := hid (G1.out.trans hg)
  clear ht hg i1
  go_wp2_with fail
  refine (i2.out _ _ T2.out).mono ?_
  rintro e w3 ⟨F3, rfl, ht, hg⟩
  have T3 := hid ht
  have G3 := hid (G2.out.trans hg)
  clear ht hg i2
  go_wp2_with fail
  refine (i3.out _ _ T3.out).mono ?_
  rintro e w4 ⟨F4, rfl, ht, hg⟩
  have T4 := hid ht
  have G4 := hid (G3.out.trans hg)
  clear ht hg i3
  go_wp2_with fail
  refine bodyPost_end (v := .tuple #[]) (by simp [results, Try.results54, go_sem]) rfl ?_
  exact ⟨_, rfl, T4.out, G4.out⟩
set_option maxRecDepth 100000 in
set_option maxHeartbeats 2000000 in
theorem rvStk_swap (t : RvAt w F g i s) (hl2 : s.stack.length ≤ 90) (a : Int) (hl : 1 < s.stack.length) :
    Calls Try.prog 54 #[.pointer (some ⟨g, 0, none⟩), insV 4 a] w (MPost F w g i (.returned (.tuple #[])) (pushS (topV s.stack 1) (pushS (topV s.stack 0) (popS (popS s))))) := by
  obtain ⟨w1, hw1, hb1, hB, hs1⟩ := ins_in 4 a w
  have x0 : w1.cell? ⟨w.heap.size, 0, none⟩ = some (.int .i64 4) := hB.cellAt rfl
  have x1 : w1.cell? ⟨w.heap.size, 1, none⟩ = some (.int .i64 a) := hB.cellAt rfl
  have T1 := hid (t.belowS hb1)
  have G1 := hid (Goes.of_below (F := F) hb1)
  have HB := hid hB
  have HN : Hid (¬ F w.heap.size) := hid (fun h9 => by have := t.lt h9; omega)
  have HL : Hid (w.heap.size < w1.heap.size) := hid (by omega)
  have i1 := hid (rvPop T1.out (by omega) (by omega))
  have p1 := pop_len s
  have p2 := pop_len (popS s)
  have p3 := push_len (topV s.stack 0) (popS (popS s))
  have i2 := hid (fun W F' (h : RvAt W F' g i (popS s)) => rvPop h (by omega) (by omega))
  have i3 := hid (fun W F' (h : RvAt W F' g i (popS (popS s))) => rvPush h (by omega) (topV s.stack 0))
  have i4 := hid (fun W F' (h : RvAt W F' g i (pushS (topV s.stack 0) (popS (popS s)))) => rvPush h (by omega) (topV s.stack 1))
  rw [top_pop hl] at i2
  generalize topV s.stack 0 = x at *
  generalize topV s.stack 1 = y at *
  clear hb1 hB hs1 t p1 p2 p3
  unfold insV
  go_enter Try.func54, Try.ntmps54
  go_wp2_with fail
  refine i1.out.mono ?_
  rintro e w2 ⟨F2, rfl, ht, hg⟩
  have T2 := hid ht
  have G2 := hid (G1.out.trans hg)
  clear ht hg i1
  go_wp2_with fail
  refine (i2.out _ _ T2.out).mono ?_
  rintro e w3 ⟨F3, rfl, ht, hg⟩
  have T3 := hid ht
  have G3 := hid (G2.out.trans hg)
  clear ht hg i2
  go_wp2_with fail
  refine (i3.out _ _ T3.out).mono ?_
  rintro e w4 ⟨F4, rfl, ht, hg⟩
  have T4 := hid ht
  have G4 := hid (G3.out.trans hg)
  clear ht hg i3
  go_wp2_with fail
  refine (i4.out _ _ T4.out).mono ?_
  rintro e w5 ⟨F5, rfl, ht, hg⟩
  have T5 := hid ht
  have G5 := hid (G4.out.trans hg)
  clear ht hg i4
  go_wp2_with fail
  refine bodyPost_end (v := .tuple #[]) (by simp [results, Try.results54, go_sem]) rfl ?_
  exact ⟨_, rfl, T5.out, G5.out⟩
set_option maxRecDepth 100000 in
set_option maxHeartbeats 2000000 in
theorem rvStk_two5 (t : RvAt w F g i s) (hl2 : s.stack.length ≤ 90) (a : Int) (hl : 1 < s.stack.length) (h0 : InW (topV s.stack 0)) (h1 : InW (topV s.stack 1)) :
    Calls Try.prog 54 #[.pointer (some ⟨g, 0, none⟩), insV 5 a] w (MPost F w g i (.returned (.tuple #[])) (pushS (sumF 5 (topV s.stack 1) (topV s.stack 0)) (popS (popS s)))) := by
  obtain ⟨w1, hw1, hb1, hB, hs1⟩ := ins_in 5 a w
  have x0 : w1.cell? ⟨w.heap.size, 0, none⟩ = some (.int .i64 5) := hB.cellAt rfl
  have x1 : w1.cell? ⟨w.heap.size, 1, none⟩ = some (.int .i64 a) := hB.cellAt rfl
  have T1 := hid (t.belowS hb1)
  have G1 := hid (Goes.of_below (F := F) hb1)
  have HB := hid hB
  have HN : Hid (¬ F w.heap.size) := hid (fun h9 => by have := t.lt h9; omega)
  have HL : Hid (w.heap.size < w1.heap.size) := hid (by omega)
  have i1 := hid (rvPop T1.out (by omega) (by omega))
  have p1 := pop_len s
  have p2 := pop_len (popS s)
  have i2 := hid (fun W F' (h : RvAt W F' g i (popS s)) => rvPop h (by omega) (by omega))
  rw [top_pop hl] at i2
  have i3 := hid (fun W => sum_any 5 (by omega) (topV s.stack 1) (topV s.stack 0) h1 h0 W)
  have i4 := hid (fun W F' (h : RvAt W F' g i (popS (popS s))) => rvPush h (by omega) (sumF 5 (topV s.stack 1) (topV s.stack 0)))
  generalize sumF 5 (topV s.stack 1) (topV s.stack 0) = z at *
  generalize topV s.stack 0 = x at *
  generalize topV s.stack 1 = y at *
  clear hb1 hB hs1 t p1 p2
  unfold insV
  go_enter Try.func54, Try.ntmps54
  go_wp2_with fail
  refine i1.out.mono ?_
  rintro e w2 ⟨F2, rfl, ht, hg⟩
  have k2 := hg.keeps HL.out HN.out
  have T2 := hid ht
  have G2 := hid (G1.out.trans hg)
  have K2 := hid k2
  clear ht hg i1 k2
  go_wp2_with fail
  refine (i2.out _ _ T2.out).mono ?_
  rintro e w3 ⟨F3, rfl, ht, hg⟩
  have k3 := hg.keeps K2.out.2.2 K2.out.2.1
  have z0 : w3.cell? ⟨w.heap.size, 0, none⟩ = some (.int .i64 5) := (World.cell?_of_block (k3.1.trans K2.out.1)).trans x0
  have T3 := hid ht
  have G3 := hid (G2.out.trans hg)
  clear ht hg i2 k3
  go_wp2_with fail
  refine (i3.out _).mono ?_
  rintro e w' ⟨rfl, rfl⟩
  go_wp2_with fail
  refine (i4.out _ _ T3.out).mono ?_
  rintro e w5 ⟨F5, rfl, ht, hg⟩
  have T5 := hid ht
  have G5 := hid (G3.out.trans hg)
  clear ht hg i4 i3
  go_wp2_with fail
  refine bodyPost_end (v := .tuple #[]) (by simp [results, Try.results54, go_sem]) rfl ?_
  exact ⟨_, rfl, T5.out, G5.out⟩
set_option maxRecDepth 100000 in
set_option maxHeartbeats 2000000 in
theorem rvStk_two6 (t : RvAt w F g i s) (hl2 : s.stack.length ≤ 90) (a : Int) (hl : 1 < s.stack.length) (h0 : InW (topV s.stack 0)) (h1 : InW (topV s.stack 1)) :
    Calls Try.prog 54 #[.pointer (some ⟨g, 0, none⟩), insV 6 a] w (MPost F w g i (.returned (.tuple #[])) (pushS (sumF 6 (topV s.stack 1) (topV s.stack 0)) (popS (popS s)))) := by
  obtain ⟨w1, hw1, hb1, hB, hs1⟩ := ins_in 6 a w
  have x0 : w1.cell? ⟨w.heap.size, 0, none⟩ = some (.int .i64 6) := hB.cellAt rfl
  have x1 : w1.cell? ⟨w.heap.size, 1, none⟩ = some (.int .i64 a) := hB.cellAt rfl
  have T1 := hid (t.belowS hb1)
  have G1 := hid (Goes.of_below (F := F) hb1)
  have HB := hid hB
  have HN : Hid (¬ F w.heap.size) := hid (fun h9 => by have := t.lt h9; omega)
  have HL : Hid (w.heap.size < w1.heap.size) := hid (by omega)
  have i1 := hid (rvPop T1.out (by omega) (by omega))
  have p1 := pop_len s
  have p2 := pop_len (popS s)
  have i2 := hid (fun W F' (h : RvAt W F' g i (popS s)) => rvPop h (by omega) (by omega))
  rw [top_pop hl] at i2
  have i3 := hid (fun W => sum_any 6 (by omega) (topV s.stack 1) (topV s.stack 0) h1 h0 W)
  have i4 := hid (fun W F' (h : RvAt W F' g i (popS (popS s))) => rvPush h (by omega) (sumF 6 (topV s.stack 1) (topV s.stack 0)))
  generalize sumF 6 (topV s.stack 1) (topV s.stack 0) = z at *
  generalize topV s.stack 0 = x at *
  generalize topV s.stack 1 = y at *
  clear hb1 hB hs1 t p1 p2
  unfold insV
  go_enter Try.func54, Try.ntmps54
  go_wp2_with fail
  refine i1.out.mono ?_
  rintro e w2 ⟨F2, rfl, ht, hg⟩
  have k2 := hg.keeps HL.out HN.out
  have T2 := hid ht
  have G2 := hid (G1.out.trans hg)
  have K2 := hid k2
  clear ht hg i1 k2
  go_wp2_with fail
  refine (i2.out _ _ T2.out).mono ?_
  rintro e w3 ⟨F3, rfl, ht, hg⟩
  have k3 := hg.keeps K2.out.2.2 K2.out.2.1
  have z0 : w3.cell? ⟨w.heap.size, 0, none⟩ = some (.int .i64 6) := (World.cell?_of_block (k3.1.trans K2.out.1)).trans x0
  have T3 := hid ht
  have G3 := hid (G2.out.trans hg)
  clear ht hg i2 k3
  go_wp2_with fail
  refine (i3.out _).mono ?_
  rintro e w' ⟨rfl, rfl⟩
  go_wp2_with fail
  refine (i4.out _ _ T3.out).mono ?_
  rintro e w5 ⟨F5, rfl, ht, hg⟩
  have T5 := hid ht
  have G5 := hid (G3.out.trans hg)
  clear ht hg i4 i3
  go_wp2_with fail
  refine bodyPost_end (v := .tuple #[]) (by simp [results, Try.results54, go_sem]) rfl ?_
  exact ⟨_, rfl, T5.out, G5.out⟩
set_option maxRecDepth 100000 in
set_option maxHeartbeats 2000000 in
theorem rvStk_two7 (t : RvAt w F g i s) (hl2 : s.stack.length ≤ 90) (a : Int) (hl : 1 < s.stack.length) (h0 : InW (topV s.stack 0)) (h1 : InW (topV s.stack 1)) :
    Calls Try.prog 54 #[.pointer (some ⟨g, 0, none⟩), insV 7 a] w (MPost F w g i (.returned (.tuple #[])) (pushS (sumF 7 (topV s.stack 1) (topV s.stack 0)) (popS (popS s)))) := by
  obtain ⟨w1, hw1, hb1, hB, hs1⟩ := ins_in 7 a w
  have x0 : w1.cell? ⟨w.heap.size, 0, none⟩ = some (.int .i64 7) := hB.cellAt rfl
  have x1 : w1.cell? ⟨w.heap.size, 1, none⟩ = some (.int .i64 a) := hB.cellAt rfl
  have T1 := hid (t.belowS hb1)
  have G1 := hid (Goes.of_below (F := F) hb1)
  have HB := hid hB
  have HN : Hid (¬ F w.heap.size) := hid (fun h9 => by have := t.lt h9; omega)
  have HL : Hid (w.heap.size < w1.heap.size) := hid (by omega)
  have i1 := hid (rvPop T1.out (by omega) (by omega))
  have p1 := pop_len s
  have p2 := pop_len (popS s)
  have i2 := hid (fun W F' (h : RvAt W F' g i (popS s)) => rvPop h (by omega) (by omega))
  rw [top_pop hl] at i2
  have i3 := hid (fun W => sum_any 7 (by omega) (topV s.stack 1) (topV s.stack 0) h1 h0 W)
  have i4 := hid (fun W F' (h : RvAt W F' g i (popS (popS s))) => rvPush h (by omega) (sumF 7 (topV s.stack 1) (topV s.stack 0)))
  generalize sumF 7 (topV s.stack 1) (topV s.stack 0) = z at *
  generalize topV s.stack 0 = x at *
  generalize topV s.stack 1 = y at *
  clear hb1 hB hs1 t p1 p2
  unfold insV
  go_enter Try.func54, Try.ntmps54
  go_wp2_with fail
  refine i1.out.mono ?_
  rintro e w2 ⟨F2, rfl, ht, hg⟩
  have k2 := hg.keeps HL.out HN.out
  have T2 := hid ht
  have G2 := hid (G1.out.trans hg)
  have K2 := hid k2
  clear ht hg i1 k2
  go_wp2_with fail
  refine (i2.out _ _ T2.out).mono ?_
  rintro e w3 ⟨F3, rfl, ht, hg⟩
  have k3 := hg.keeps K2.out.2.2 K2.out.2.1
  have z0 : w3.cell? ⟨w.heap.size, 0, none⟩ = some (.int .i64 7) := (World.cell?_of_block (k3.1.trans K2.out.1)).trans x0
  have T3 := hid ht
  have G3 := hid (G2.out.trans hg)
  clear ht hg i2 k3
  go_wp2_with fail
  refine (i3.out _).mono ?_
  rintro e w' ⟨rfl, rfl⟩
  go_wp2_with fail
  refine (i4.out _ _ T3.out).mono ?_
  rintro e w5 ⟨F5, rfl, ht, hg⟩
  have T5 := hid ht
  have G5 := hid (G3.out.trans hg)
  clear ht hg i4 i3
  go_wp2_with fail
  refine bodyPost_end (v := .tuple #[]) (by simp [results, Try.results54, go_sem]) rfl ?_
  exact ⟨_, rfl, T5.out, G5.out⟩
set_option maxRecDepth 100000 in
set_option maxHeartbeats 2000000 in
theorem rvStk_two8 (t : RvAt w F g i s) (hl2 : s.stack.length ≤ 90) (a : Int) (hl : 1 < s.stack.length) (h0 : InW (topV s.stack 0)) (h1 : InW (topV s.stack 1)) :
    Calls Try.prog 54 #[.pointer (some ⟨g, 0, none⟩), insV 8 a] w (MPost F w g i (.returned (.tuple #[])) (pushS (sumF 8 (topV s.stack 1) (topV s.stack 0)) (popS (popS s)))) := by
  obtain ⟨w1, hw1, hb1, hB, hs1⟩ := ins_in 8 a w
  have x0 : w1.cell? ⟨w.heap.size, 0, none⟩ = some (.int .i64 8) := hB.cellAt rfl
  have x1 : w1.cell? ⟨w.heap.size, 1, none⟩ = some (.int .i64 a) := hB.cellAt rfl
  have T1 := hid (t.belowS hb1)
  have G1 := hid (Goes.of_below (F := F) hb1)
  have HB := hid hB
  have HN : Hid (¬ F w.heap.size) := hid (fun h9 => by have := t.lt h9; omega)
  have HL : Hid (w.heap.size < w1.heap.size) := hid (by omega)
  have i1 := hid (rvPop T1.out (by omega) (by omega))
  have p1 := pop_len s
  have p2 := pop_len (popS s)
  have i2 := hid (fun W F' (h : RvAt W F' g i (popS s)) => rvPop h (by omega) (by omega))
  rw [top_pop hl] at i2
  have i3 := hid (fun W => sum_any 8 (by omega) (topV s.stack 1) (topV s.stack 0) h1 h0 W)
  have i4 := hid (fun W F' (h : RvAt W F' g i (popS (popS s))) => rvPush h (by omega) (sumF 8 (topV s.stack 1) (topV s.stack 0)))
  generalize sumF 8 (topV s.stack 1) (topV s.stack 0) = z at *
  generalize topV s.stack 0 = x at *
  generalize topV s.stack 1 = y at *
  clear hb1 hB hs1 t p1 p2
  unfold insV
  go_enter Try.func54, Try.ntmps54
  go_wp2_with fail
  refine i1.out.mono ?_
  rintro e w2 ⟨F2, rfl, ht, hg⟩
  have k2 := hg.keeps HL.out HN.out
  have T2 := hid ht
  have G2 := hid (G1.out.trans hg)
  have K2 := hid k2
  clear ht hg i1 k2
  go_wp2_with fail
  refine (i2.out _ _ T2.out).mono ?_
  rintro e w3 ⟨F3, rfl, ht, hg⟩
  have k3 := hg.keeps K2.out.2.2 K2.out.2.1
  have z0 : w3.cell? ⟨w.heap.size, 0, none⟩ = some (.int .i64 8) := (World.cell?_of_block (k3.1.trans K2.out.1)).trans x0
  have T3 := hid ht
  have G3 := hid (G2.out.trans hg)
  clear ht hg i2 k3
  go_wp2_with fail
  refine (i3.out _).mono ?_
  rintro e w' ⟨rfl, rfl⟩
  go_wp2_with fail
  refine (i4.out _ _ T3.out).mono ?_
  rintro e w5 ⟨F5, rfl, ht, hg⟩
  have T5 := hid ht
  have G5 := hid (G3.out.trans hg)
  clear ht hg i4 i3
  go_wp2_with fail
  refine bodyPost_end (v := .tuple #[]) (by simp [results, Try.results54, go_sem]) rfl ?_
  exact ⟨_, rfl, T5.out, G5.out⟩
set_option maxRecDepth 100000 in
set_option maxHeartbeats 2000000 in
theorem rvStk_two9 (t : RvAt w F g i s) (hl2 : s.stack.length ≤ 90) (a : Int) (hl : 1 < s.stack.length) (h0 : InW (topV s.stack 0)) (h1 : InW (topV s.stack 1)) :
    Calls Try.prog 54 #[.pointer (some ⟨g, 0, none⟩), insV 9 a] w (MPost F w g i (.returned (.tuple #[])) (pushS (sumF 9 (topV s.stack 1) (topV s.stack 0)) (popS (popS s)))) := by
  obtain ⟨w1, hw1, hb1, hB, hs1⟩ := ins_in 9 a w
  have x0 : w1.cell? ⟨w.heap.size, 0, none⟩ = some (.int .i64 9) := hB.cellAt rfl
  have x1 : w1.cell? ⟨w.heap.size, 1, none⟩ = some (.int .i64 a) := hB.cellAt rfl
  have T1 := hid (t.belowS hb1)
  have G1 := hid (Goes.of_below (F := F) hb1)
  have HB := hid hB
  have HN : Hid (¬ F w.heap.size) := hid (fun h9 => by have := t.lt h9; omega)
  have HL : Hid (w.heap.size < w1.heap.size) := hid (by omega)
  have i1 := hid (rvPop T1.out (by omega) (by omega))
  have p1 := pop_len s
  have p2 := pop_len (popS s)
  have i2 := hid (fun W F' (h : RvAt W F' g i (popS s)) => rvPop h (by omega) (by omega))
  rw [top_pop hl] at i2
  have i3 := hid (fun W => sum_any 9 (by omega) (topV s.stack 1) (topV s.stack 0) h1 h0 W)
  have i4 := hid (fun W F' (h : RvAt W F' g i (popS (popS s))) => rvPush h (by omega) (sumF 9 (topV s.stack 1) (topV s.stack 0)))
  generalize sumF 9 (topV s.stack 1) (topV s.stack 0) = z at *
  generalize topV s.stack 0 = x at *
  generalize topV s.stack 1 = y at *
  clear hb1 hB hs1 t p1 p2
  unfold insV
  go_enter Try.func54, Try.ntmps54
  go_wp2_with fail
  refine i1.out.mono ?_
  rintro e w2 ⟨F2, rfl, ht, hg⟩
  have k2 := hg.keeps HL.out HN.out
  have T2 := hid ht
  have G2 := hid (G1.out.trans hg)
  have K2 := hid k2
  clear ht hg i1 k2
  go_wp2_with fail
  refine (i2.out _ _ T2.out).mono ?_
  rintro e w3 ⟨F3, rfl, ht, hg⟩
  have k3 := hg.keeps K2.out.2.2 K2.out.2.1
  have z0 : w3.cell? ⟨w.heap.size, 0, none⟩ = some (.int .i64 9) := (World.cell?_of_block (k3.1.trans K2.out.1)).trans x0
  have T3 := hid ht
  have G3 := hid (G2.out.trans hg)
  clear ht hg i2 k3
  go_wp2_with fail
  refine (i3.out _).mono ?_
  rintro e w' ⟨rfl, rfl⟩
  go_wp2_with fail
  refine (i4.out _ _ T3.out).mono ?_
  rintro e w5 ⟨F5, rfl, ht, hg⟩
  have T5 := hid ht
  have G5 := hid (G3.out.trans hg)
  clear ht hg i4 i3
  go_wp2_with fail
  refine bodyPost_end (v := .tuple #[]) (by simp [results, Try.results54, go_sem]) rfl ?_
  exact ⟨_, rfl, T5.out, G5.out⟩
set_option maxRecDepth 100000 in
set_option maxHeartbeats 2000000 in
theorem rvStk_now (t : RvAt w F g i s) (hl2 : s.stack.length ≤ 90) (a : Int) :
    Calls Try.prog 54 #[.pointer (some ⟨g, 0, none⟩), insV 18 a] w (MPost F w g i (.returned (.tuple #[])) (pushS s.ticks s)) := by
  obtain ⟨w1, hw1, hb1, hB, hs1⟩ := ins_in 18 a w
  have x0 : w1.cell? ⟨w.heap.size, 0, none⟩ = some (.int .i64 18) := hB.cellAt rfl
  have x1 : w1.cell? ⟨w.heap.size, 1, none⟩ = some (.int .i64 a) := hB.cellAt rfl
  have T1 := hid (t.belowS hb1)
  have G1 := hid (Goes.of_below (F := F) hb1)
  have HB := hid hB
  have HN : Hid (¬ F w.heap.size) := hid (fun h9 => by have := t.lt h9; omega)
  have HL : Hid (w.heap.size < w1.heap.size) := hid (by omega)
  have i1 := hid (rvPush T1.out (by omega) s.ticks)
  obtain ⟨am, m, hF⟩ := T1.out
  have x2 : w1.cell? ⟨g, 11, none⟩ = some (.int .i64 s.ticks) := m.blk.cellAt rfl
  clear hb1 hB hs1 t m hF
  unfold insV
  go_enter Try.func54, Try.ntmps54
  go_wp2_with fail
  refine i1.out.mono ?_
  rintro e w2 ⟨F2, rfl, ht, hg⟩
  have T2 := hid ht
  have G2 := hid (G1.out.trans hg)
  clear ht hg i1
  go_wp2_with fail
  refine bodyPost_end (v := .tuple #[]) (by simp [results, Try.results54, go_sem]) rfl ?_
  exact ⟨_, rfl, T2.out, G2.out⟩
set_option maxRecDepth 100000 in
set_option maxHeartbeats 2000000 in
theorem rvStk_load (t : RvAt w F g i s) (hl2 : s.stack.length ≤ 90) (a : Int) (k : Nat) (ha : a = (k : Int)) (hk : k < s.mem.length) (hm : s.mem.length ≤ 1000) :
    Calls Try.prog 54 #[.pointer (some ⟨g, 0, none⟩), insV 10 a] w (MPost F w g i (.returned (.tuple #[])) (pushS (s.mem.getD k 0) s)) := by
  obtain ⟨w1, hw1, hb1, hB, hs1⟩ := ins_in 10 a w
  have x0 : w1.cell? ⟨w.heap.size, 0, none⟩ = some (.int .i64 10) := hB.cellAt rfl
  have x1 : w1.cell? ⟨w.heap.size, 1, none⟩ = some (.int .i64 a) := hB.cellAt rfl
  have T1 := hid (t.belowS hb1)
  have G1 := hid (Goes.of_below (F := F) hb1)
  have HB := hid hB
  have HN : Hid (¬ F w.heap.size) := hid (fun h9 => by have := t.lt h9; omega)
  have HL : Hid (w.heap.size < w1.heap.size) := hid (by omega)
  have i1 := hid (fun W (h : RvAt W F g i s) => rvPush h (by omega) (s.mem.getD k 0))
  obtain ⟨am, m, hF⟩ := T1.out
  subst ha
  obtain ⟨gm, hAm, _⟩ := m.me.form (by omega)
  have hme := m.me
  rw [hAm] at hme
  have x2 : w1.cell? ⟨g, 10, none⟩ = some (.slice (some ⟨gm, 0, none⟩) s.mem.length am.cM) := by rw [← hAm]; exact m.blk.cellAt rfl
  have x3 : w1.cell? ⟨gm, k, none⟩ = some (.int .i64 (s.mem.getD k 0)) := hme.cell (by
    rw [List.getElem?_map, List.getD_eq_getElem?_getD, List.getElem?_eq_getElem hk]
    rfl)
  have z0 : (0 : Int) ≤ (k : Int) := Int.natCast_nonneg _
  have z1 : (k : Int) < (s.mem.length : Int) := by omega
  generalize s.mem.getD k 0 = v at *
  clear hb1 hB hs1 t m hF hme hAm
  unfold insV
  go_enter Try.func54, Try.ntmps54
  go_wp2_with fail
  go_still_tail 10, (by kernel_rfl)
  go_wp2_with fail
  refine (i1.out _ (T1.out.belowS (bel_drewV (Below.refl _ _)))).mono ?_
  rintro e w2 ⟨F2, rfl, ht, hg⟩
  have T2 := hid ht
  have G2 := hid ((G1.out.trans (Goes.of_below (bel_drewV (Below.refl _ _)))).trans hg)
  clear ht hg i1
  go_wp2_with fail
  refine bodyPost_end (v := .tuple #[]) (by simp [results, Try.results54, go_sem]) rfl ?_
  exact ⟨_, rfl, T2.out, G2.out⟩
set_option maxRecDepth 100000 in
set_option maxHeartbeats 2000000 in
theorem rvStk_store (t : RvAt w F g i s) (hl2 : s.stack.length ≤ 90) (a : Int) (k : Nat) (ha : a = (k : Int)) (hk : k < s.mem.length) (hm : s.mem.length ≤ 1000) (hl : 0 < s.stack.length) :
    Calls Try.prog 54 #[.pointer (some ⟨g, 0, none⟩), insV 11 a] w (MPost F w g i (.returned (.tuple #[])) ({ popS s with mem := s.mem.set k (topV s.stack 0) })) := by
  obtain ⟨w1, hw1, hb1, hB, hs1⟩ := ins_in 11 a w
  have x0 : w1.cell? ⟨w.heap.size, 0, none⟩ = some (.int .i64 11) := hB.cellAt rfl
  have x1 : w1.cell? ⟨w.heap.size, 1, none⟩ = some (.int .i64 a) := hB.cellAt rfl
  have T1 := hid (t.belowS hb1)
  have G1 := hid (Goes.of_below (F := F) hb1)
  have HB := hid hB
  have HN : Hid (¬ F w.heap.size) := hid (fun h9 => by have := t.lt h9; omega)
  have HL : Hid (w.heap.size < w1.heap.size) := hid (by omega)
  obtain ⟨am, m, hF⟩ := T1.out
  have i1 := hid (fun W (h : RvIn W g i am s) => rvPop_in h hl (by omega))
  subst ha
  obtain ⟨gm, hAm, _⟩ := m.me.form (by omega)
  have hme := m.me
  rw [hAm] at hme
  have x2 : w1.cell? ⟨g, 10, none⟩ = some (.slice (some ⟨gm, 0, none⟩) s.mem.length am.cM) := by rw [← hAm]; exact m.blk.cellAt rfl
  have xf : w1.frozen? ⟨gm, k, none⟩ = false := hme.frozen k
  have z0 : (0 : Int) ≤ (k : Int) := Int.natCast_nonneg _
  have z1 : (k : Int) < (s.mem.length : Int) := by omega
  have HM := hid m
  have HF := hid hF
  have HAm := hid hAm
  have HK := hid hk
  have HBN : Hid (w.heap.size ≠ g) := hid (fun e => by have := T1.out; exact HN.out ((hF _).2 (.inl e)))
  have n1 : gm ≠ g := fun e => m.off.2.2 (hAm ▸ foot_some.2 e.symm)
  have n2 : gm ≠ w.heap.size := fun e => HN.out ((hF _).2 (.inr (.inr (.inr (hAm ▸ foot_some.2 e.symm)))))
  have n3 : g ≠ gm := n1.symm
  have n4 : w.heap.size ≠ gm := n2.symm
  obtain ⟨v, hv⟩ : ∃ v, topV s.stack 0 = v := ⟨_, rfl⟩
  obtain ⟨sl, hsl⟩ : ∃ sl, s.stack.length - 1 = sl := ⟨_, rfl⟩
  rw [hv, hsl] at i1
  rw [hv]
  have HSL := hid hsl
  clear hb1 hB hs1 t m hF hme hAm hv hsl
  unfold insV
  go_enter Try.func54, Try.ntmps54
  go_wp2_with fail
  go_region_held3 (fun w' => w'.cell? ⟨g, 10, none⟩ = some (.slice (some ⟨gm, 0, none⟩) s.mem.length am.cM) ∧ w'.cell? ⟨w.heap.size, 1, none⟩ = some (.int .i64 (k : Int)) ∧ w'.frozen? ⟨gm, k, none⟩ = false) (go_keep)
    (first
      | (go_at_call 53; refine (i1.out _ ?_).mono ?_; (first | exact HM.out | exact HM.out.belowS (bel_drewV (Below.refl _ _))); rintro e w2 ⟨rfl, hw2⟩; have h9 := RvIn.popG (w0 := w1) hw2 (by first | exact Below.refl _ _ | exact bel_drewV (Below.refl _ _)) HM.out HSL.out; have v2 : w2.cell? ⟨g, 10, none⟩ = some (.slice (some ⟨gm, 0, none⟩) s.mem.length am.cM) := (by rw [← HAm.out]; exact h9.1.blk.cellAt rfl); have v1 : w2.cell? ⟨w.heap.size, 1, none⟩ = some (.int .i64 (k : Int)) := (World.cell?_of_block (h9.2.2 _ HL.out HBN.out)).trans x1; have hme2 := h9.1.me; have hme3 : Row w2 3 (some ⟨gm, 0, none⟩) s.mem.length am.cM (s.mem.map iV) := (by rw [← HAm.out]; exact hme2); have vk : w2.cell? ⟨gm, k, none⟩ = some (.int .i64 (s.mem.getD k 0)) := hme3.cell (by rw [List.getElem?_map, List.getD_eq_getElem?_getD, List.getElem?_eq_getElem HK.out]; rfl); have vf : w2.frozen? ⟨gm, k, none⟩ = false := hme3.frozen k; have H9 := hid (And.intro h9.1 h9.2.1); clear h9 hme2 hme3 hw2))
  all_goals
    have K := H9.out.1.word HAm.out k v
    have K1 := hid K
    clear K
    go_wp2_with fail
    refine bodyPost_end (v := .tuple #[]) (by simp [results, Try.results54, go_sem]) rfl ?_
    exact ⟨_, rfl, K1.out.1.at_, G1.out.trans (Goes.iff_ HF.out (H9.out.2.trans K1.out.2))⟩
end
end Go.Proofs.Ytidlahljhgglcaa
