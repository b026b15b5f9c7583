/-
  The reference of layer 17: instructions with a channel.
  The reference of layer 17: an instruction, as plain functions; it is what the program's deeds do.
  The reference of layer 15: the instruction at a place.
  What instructions do: those of two numbers.
-/
import Derived.Test.YtidlahljhgglcaaQVmRuns13
import Derived.Test.YtidlahljhgglcaaRvHas
import Derived.Test.YtidlahljhgglcaaRvFailA
import Derived.Test.YtidlahljhgglcaaRvFailB
import Derived.Test.YtidlahljhgglcaaRvFailC
import Derived.StillTailTactics
import Derived.Deep.RegionHeld3
namespace Go.Proofs.Ytidlahljhgglcaa
open Go.RowKit Go.ChangeShapes Go.WideShapes Go.ChangeAt

section
variable {w w' : World} {F : Nat → Prop} {h g gR : Nat} {i : ImgS} {cs : List ChanS} {pc ticks fault : Int} {d : VmD}
/-- Only the channels moved. -/
theorem RvTick.chans (t : RvTick w F h g gR i cs pc ticks fault d) {e0 : Ending} {ss' : Nat → WayS} {f : Nat} {args : Array Value} (hc : ∀ F2, RefAt w F2 gR cs (hL d.ss) → Calls Try.prog f args w (RPost F2 w gR cs e0 (hL ss'))) :
    Calls Try.prog f args w fun e w' => e = e0 ∧ ∃ F', RvTick w' F' h g gR i cs pc ticks fault { d with ss := ss' } ∧ Goes F w F' w' := by
  obtain ⟨a, Ao, cO, F2, m, r, hs, ha, hF⟩ := t
  refine (hc F2 hs).mono ?_
  rintro e w' ⟨F', rfl, hS, hG⟩
  have hm : ∀ b, MachF g a b → w'.heap[b]? = w.heap[b]? := fun b hb => hG.apart.block b (m.lt hb) (fun hf => (ha b hf).1 hb)
  have hr : ∀ b, RunF h Ao b → w'.heap[b]? = w.heap[b]? := fun b hb => hG.apart.block b (r.lt hb) (fun hf => (ha b hf).2 hb)
  have r' := r.keep hr
  refine ⟨rfl, fun b => MachF g a b ∨ RunF h Ao b ∨ F' b, ⟨a, Ao, cO, F', m.keep hm, ⟨r'.blk, r'.out⟩, hS, fun b hb => ?_, fun b => Iff.rfl⟩, Goes.iff_ hF ⟨⟨hG.apart.os, hG.apart.tape, hG.apart.output, hG.apart.size, fun b hb hf => hG.apart.block b hb (fun h9 => hf (.inr (.inr h9)))⟩, fun b hb => ?_⟩⟩
  · rcases hG.foot b hb with h9 | h9
    · exact ha b h9
    · exact ⟨fun hf => by have := m.lt hf; omega, fun hf => by have := r.lt hf; omega⟩
  · rcases hb with hb | hb | hb
    · exact .inl (.inl hb)
    · exact .inl (.inr (.inl hb))
    · exact (hG.foot b hb).imp_left fun h9 => .inr (.inr h9)
/-- Only the machine moved. -/
theorem RvTick.act (t : RvTick w F h g gR i cs pc ticks fault d) {e0 : Ending} {d' : VmD} {pc' ticks' fault' : Int} {f : Nat} {args : Array Value} (hs : d'.sent = d.sent) (hcf : d'.conf = d.conf) (hss : d'.ss = d.ss)
    (hc : ∀ F1, RvAt w F1 g i (machS pc ticks fault d) → Calls Try.prog f args w (MPost F1 w g i e0 (machS pc' ticks' fault' d'))) :
    Calls Try.prog f args w fun e w' => e = e0 ∧ ∃ F', RvTick w' F' h g gR i cs pc' ticks' fault' d' ∧ Goes F w F' w' := by
  obtain ⟨a, Ao, cO, F2, m, r, hR, ha, hF⟩ := t
  refine (hc _ m.at_).mono ?_
  rintro e w' ⟨F1', rfl, hm, hg⟩
  refine ⟨rfl, ?_⟩
  obtain ⟨a', m', hF'⟩ := hm
  have hm1 : ∀ b, MachF g a' b → MachF g a b ∨ w.heap.size ≤ b := fun b hb => hg.foot b ((hF' b).2 hb)
  have r' : OutIn w' h Ao cO d' := by
    have := r.keep (w' := w') fun b hb => hg.apart.block b (r.lt hb) (r.apart m hb)
    refine ⟨?_, ?_⟩
    · rw [hs, hcf]; exact this.blk
    · rw [hs]; exact this.out
  refine ⟨fun b => MachF g a' b ∨ RunF h Ao b ∨ F2 b, ⟨a', Ao, cO, F2, m', r', ?_, fun b hb => ⟨fun hf => ?_, (ha b hb).2⟩, fun b => Iff.rfl⟩, Goes.iff_ hF ⟨⟨hg.apart.os, hg.apart.tape, hg.apart.output, hg.apart.size, fun b hb hF => hg.apart.block b hb (fun hf => hF (.inl hf))⟩, fun b hb => ?_⟩⟩
  · rw [hss]
    exact hR.apart hg.apart fun b hb => (ha b hb).1
  · rcases hm1 b hf with h6 | h6
    · exact (ha b hb).1 h6
    · have := hR.lt hb; omega
  · rcases hb with hb | hb
    · exact (hm1 b hb).imp_left .inl
    · exact .inl (.inr hb)
/-- A message more that was sent. -/
theorem RvTick.more {a : VmA} {Ao : Option Addr} {cO : Nat} {F2 : Nat → Prop} {w1 w2 : World} (m : RvIn w g i a (machS pc ticks fault d)) (r : OutIn w h Ao cO d) (hs : RefAt w F2 gR cs (hL d.ss)) (ha : ∀ b, F2 b → ¬ MachF g a b ∧ ¬ RunF h Ao b) (hF : ∀ b, F b ↔ MachF g a b ∨ RunF h Ao b ∨ F2 b)
    (hb : Below w.heap.size w w1) {A' : Option Addr} {N c' : Nat} {x y : Int} (hN : d.sent.length + 1 = N) (hown : w2.ownsRow 0 51 2 (.slice A' N c') N (d.sent.flatMap sentC ++ [iV x, iV y])) (hg : w1.grownBy w2 (Value.slice Ao d.sent.length cO).ownBlock)
    (hA : (Value.slice A' N c').ownBlock = (Value.slice Ao d.sent.length cO).ownBlock ∨ (Value.slice A' N c').ownBlock = some w1.heap.size) :
    ∃ F', RvTick (w2.setCell ⟨h, 0, none⟩ (.slice A' N c')) F' h g gR i cs pc ticks fault { d with sent := d.sent ++ [(x, y)] } ∧ Goes F w F' (w2.setCell ⟨h, 0, none⟩ (.slice A' N c')) := by
  subst hN
  have hf' : ∀ b, Foot A' b → Foot Ao b ∨ w.heap.size ≤ b := fun b hb9 => by
    have h9 := ownBlock_foot (n := d.sent.length + 1) (c := c').2 hb9
    rcases hA with e | e
    · rw [e] at h9; exact .inl (ownBlock_foot.1 h9)
    · rw [e] at h9
      injection h9 with h9
      have := hb.size
      exact .inr (by omega)
  have hold : ∀ b, b < w.heap.size → ¬ Foot Ao b → b ≠ h → (w2.setCell ⟨h, 0, none⟩ (.slice A' (d.sent.length + 1) c')).heap[b]? = w.heap[b]? := fun b hl hno hne =>
    (Below.heap_setCell _ _ _ _ hne).trans ((hg.block b (Nat.lt_of_lt_of_le hl hb.size) (fun e => hno (ownBlock_foot.1 e.symm))).trans (hb.block b hl))
  have hh2 : Blk w2 h 64 [.slice Ao d.sent.length cO, .bool d.conf] := (hg.block h (Nat.lt_of_lt_of_le r.blk.lt hb.size) (fun e => r.off (ownBlock_foot.1 e.symm))).trans ((hb.block h r.blk.lt).trans r.blk)
  have hsz : w.heap.size ≤ (w2.setCell ⟨h, 0, none⟩ (.slice A' (d.sent.length + 1) c')).heap.size := by
    have h1 := hb.size
    have h2 := hg.size
    simp [World.setCell]
    omega
  have hnh : ¬ Foot A' h := fun hf => (own_ty hown hf).ne_ hh2.ty (by decide) rfl
  refine ⟨fun b => MachF g a b ∨ RunF h A' b ∨ F2 b, ⟨a, A', c', F2, ?_, ⟨?_, ?_⟩, ?_, fun b h2 => ⟨(ha b h2).1, ?_⟩, fun b => Iff.rfl⟩, Goes.iff_ hF ⟨⟨hg.os.trans hb.os, hg.tape.trans hb.tape, hg.output.trans hb.output, hsz, fun b hl hn => hold b hl (fun hf => hn (.inr (.inl (.inr hf)))) (fun e => hn (.inr (.inl (.inl e))))⟩, fun b h2 => ?_⟩⟩
  · exact m.keep fun b h2 => hold b (m.lt h2) (fun hf => r.apart m (.inr hf) h2) (fun e => r.apart m (.inl e) h2)
  · have := hh2.set_ 0 (.slice A' (d.sent.length + 1) c')
    rw [show ({ d with sent := d.sent ++ [(x, y)] } : VmD).sent.length = d.sent.length + 1 by simp]
    exact this
  · have e : ({ d with sent := d.sent ++ [(x, y)] } : VmD).sent.flatMap sentC = d.sent.flatMap sentC ++ [iV x, iV y] := by simp [sentC]
    rw [e, show ({ d with sent := d.sent ++ [(x, y)] } : VmD).sent.length = d.sent.length + 1 by simp]
    exact own_keep hown fun b h2 => Below.heap_setCell _ _ _ _ (fun e => hnh (by subst e; exact h2))
  · exact hs.keep hsz fun b h2 => hold b (hs.lt h2) (fun hf => (ha b h2).2 (.inr hf)) (fun e => (ha b h2).2 (.inl e))
  · rintro (h3 | h3)
    · exact (ha b h2).2 (.inl h3)
    · rcases hf' b h3 with h4 | h4
      · exact (ha b h2).2 (.inr h4)
      · have := hs.lt h2; omega
  · rcases h2 with h2 | h2 | h2
    · exact .inl (.inl h2)
    · rcases h2 with h2 | h2
      · exact .inl (.inr (.inl (.inl h2)))
      · exact (hf' b h2).imp_left fun h9 => .inr (.inl (.inr h9))
    · exact .inl (.inr (.inr h2))
theorem field_told0 (v0 v1 v2 : Value) (w : World) : (Instr.field 71 (.agg #[v0, v1, v2]) 2).run Try.prog w = .ok v2 w := by kernel_rfl
/-- What an instruction with a channel leaves. -/
def PPost (F : Nat → Prop) (w : World) (h g gR : Nat) (i : ImgS) (cs : List ChanS) (pc ticks fault : Int) (r : Int × VmD) (e : Ending) (w' : World) : Prop :=
  ∃ F', e = .returned (.int .i64 r.1) ∧ RvTick w' F' h g gR i cs pc ticks fault r.2 ∧ Goes F w F' w'
def portR (i : ImgS) (cs : List ChanS) (o k : Nat) (d : VmD) : Int × VmD :=
  if o = 14 then
    (if (sendP cs d.ss i.part k (topV d.stack 0)).2.1 = 0 then (0, { d with stack := d.stack.take (d.stack.length - 1), sent := d.sent ++ [((k : Int), topV d.stack 0)], ss := (sendP cs d.ss i.part k (topV d.stack 0)).2.2 }) else (15, d))
  else
    (if (getP cs d.ss i.part k).2.2.1 = 0 then (0, { d with stack := d.stack ++ (if (getP cs d.ss i.part k).2.1 then [w65 (getP cs d.ss i.part k).1, w65 1] else [w65 0]), ss := (getP cs d.ss i.part k).2.2.2 }) else (15, d))
set_option maxRecDepth 100000 in
set_option maxHeartbeats 4000000 in
theorem rvSend (t : RvTick w F h g gR i cs pc ticks fault d) (hl : 0 < d.stack.length) (hl2 : d.stack.length ≤ 90) (hK : KAll cs d.ss) (hd : ∀ k, k < cs.length → depthAt cs k ≤ 4) (hsn : d.sent.length ≤ 1000) (k : Nat) :
    Calls Try.prog 52 #[.pointer (some ⟨g, 0, none⟩), insV 14 (k : Int), .pointer (some ⟨gR, 0, none⟩), .pointer (some ⟨h, 0, none⟩)] w (PPost F w h g gR i cs pc ticks fault (portR i cs 14 k d)) := by
  obtain ⟨w1, hw1, hb1, hB, hs1⟩ := ins_in 14 (k : Int) w
  have x0 : w1.cell? ⟨w.heap.size, 0, none⟩ = some (.int .i64 14) := hB.cellAt rfl
  have x1 : w1.cell? ⟨w.heap.size, 1, none⟩ = some (.int .i64 (k : Int)) := hB.cellAt rfl
  have T1 := hid (t.belowS hb1)
  have G1 := hid (Goes.of_below (F := F) hb1)
  have HB := hid hB
  have HN : Hid (¬ F w.heap.size) := hid (fun h9 => by have := t.lt h9; omega)
  have HL : Hid (w.heap.size < w1.heap.size) := hid (by omega)
  obtain ⟨a, Ao, cO, F2, m, r, hR, ha, hF⟩ := T1.out
  obtain ⟨n, hn⟩ : ∃ n, d.stack.length = n + 1 := ⟨d.stack.length - 1, by omega⟩
  obtain ⟨gs, hAs, _⟩ := m.st.form hl
  have y9 : w1.cell? ⟨g, 9, none⟩ = some (.slice (some ⟨gs, 0, none⟩) (n + 1) a.cS) := by rw [← hAs, ← hn]; exact m.blk.cellAt rfl
  have y0 : w1.cell? ⟨g, 0, none⟩ = some (.int .i64 i.part) := m.blk.cellAt rfl
  have hst := m.st
  rw [hAs] at hst
  have yt : w1.cell? ⟨gs, n, none⟩ = some (.int .i64 (topV d.stack 0)) := hst.cell (by
    show (d.stack.map iV)[n]? = _
    unfold topV
    rw [List.getElem?_map, hn, show n + 1 - 1 - 0 = n by omega, List.getD_eq_getElem?_getD, List.getElem?_eq_getElem (by omega)]
    rfl)
  obtain ⟨x, hx⟩ : ∃ x, topV d.stack 0 = x := ⟨_, rfl⟩
  have iS := hid (fun W (tW : RvTick W F h g gR i cs pc ticks fault d) => tW.chans fun F2 hs => sendR_any hs hK hd i.part (k : Int) x)
  obtain ⟨R, hR9⟩ : ∃ R, sendP cs d.ss i.part (k : Int) x = R := ⟨_, rfl⟩
  have hsame : R.2.1 ≠ 0 → R.2.2 = d.ss := fun hne => by rw [← hR9] at hne ⊢; exact sendP_same _ _ _ _ _ hne
  have ir : Hid (portR i cs 14 k d = if R.2.1 = 0 then (0, { d with stack := d.stack.take (d.stack.length - 1), sent := d.sent ++ [((k : Int), x)], ss := R.2.2 }) else (15, d)) := hid (by
    rw [← hR9, ← hx]
    rfl)
  rw [hR9] at iS
  rw [hx] at yt
  obtain ⟨bR, ER, ssR⟩ := R
  simp only at iS hsame ir
  unfold toldV at iS
  have hfl := field_told0
  have z0 : (0 : Int) ≤ (n : Int) := Int.natCast_nonneg _
  have z1 : (n : Int) < (n : Int) + 1 := by omega
  have z2 : IntKind.i64.wrap ((n : Int) + 1 - 1) = (n : Int) := by rw [IntWalk.i64_in _ (by omega)]; omega
  have z3 : IntKind.i64.wrap (n : Int) = (n : Int) := IntWalk.i64_in _ (by omega)
  have HST : Hid (d.stack.length = n + 1) := hid hn
  have iP := hid (fun W F' ss' (tW : RvTick W F' h g gR i cs pc ticks fault { d with ss := ss' }) => tW.act (d' := { d with ss := ss', stack := d.stack.take (d.stack.length - 1) }) (pc' := pc) (ticks' := ticks) (fault' := fault) rfl rfl rfl fun F1 h1 => rvPop h1 (show 0 < d.stack.length from hl) (show d.stack.length ≤ 100 by omega))
  clear hx hR9 hb1 hB hs1 t m r hR ha hF hst hAs hK hd hn
  unfold insV
  go_enter Try.func52, Try.ntmps52
  go_wp2_with fail
  go_quiet (fail)
  go_wp2_with fail
  obtain ⟨w2, hw2⟩ : ∃ W, w1.drewN nq = W := ⟨_, rfl⟩
  have hk2 : ∀ b : Nat, w2.heap[b]? = w1.heap[b]? := fun b => by rw [← hw2]; rfl
  have hb2 : Below w1.heap.size w1 w2 := by rw [← hw2]; exact below_drewS nq
  rw [hw2]
  have T2 := hid (T1.out.belowS hb2)
  have G2 := hid (G1.out.trans (Goes.of_below (F := F) hb2))
  have HL2 : Hid (w.heap.size < w2.heap.size) := hid (Nat.lt_of_lt_of_le HL.out hb2.size)
  have u0 : w2.cell? ⟨g, 0, none⟩ = some (.int .i64 i.part) := (World.cell?_of_block (hk2 g)).trans y0
  have u1 : w2.cell? ⟨w.heap.size, 1, none⟩ = some (.int .i64 (k : Int)) := (World.cell?_of_block (hk2 _)).trans x1
  clear hw2 hk2 hb2 x0 x1 y9 y0 yt z0 z1 z2 z3
  go_still_tail 9, (by kernel_rfl)
  go_wp2_with fail
  refine (iS.out _ (T2.out.belowS (bel_drewV (Below.refl _ _)))).mono ?_
  rintro e w3 ⟨rfl, F3, ht, hg⟩
  have k3 := hg.keeps (b := w.heap.size) HL2.out HN.out
  have v1 : w3.cell? ⟨w.heap.size, 1, none⟩ = some (.int .i64 (k : Int)) := (World.cell?_of_block k3.1).trans u1
  have T3 := hid ht
  have G3 := hid ((G2.out.trans (Goes.of_below (bel_drewV (Below.refl _ _)))).trans hg)
  have K3 := hid k3
  clear ht hg k3 iS u0 u1
  by_cases hE0 : ER = 0
  case neg =>
    rw [if_neg hE0] at ir
    have hs := hsame hE0
    subst hs
    have y2 : (ER != 0) = true := by simpa using hE0
    clear hE0 hsame
    go_wp2_with fail
    go_ret
    rw [ir.out]
    exact ⟨F3, rfl, T3.out, G3.out⟩
  subst hE0
  rw [if_pos rfl] at ir
  clear hsame
  go_wp2_with fail
  refine (iP.out _ _ _ T3.out).mono ?_
  rintro e w4 ⟨rfl, F4, ht, hg⟩
  have k4 := hg.keeps K3.out.2.2 K3.out.2.1
  have v1' : w4.cell? ⟨w.heap.size, 1, none⟩ = some (.int .i64 (k : Int)) := (World.cell?_of_block k4.1).trans v1
  have T4 := hid ht
  have G4 := hid (G3.out.trans hg)
  clear ht hg v1 iP
  obtain ⟨i0, hi0, hz0, hz1, hz2⟩ := info_parts info_sentV
  obtain ⟨a4, Ao4, cO4, F24, m4, r4, hs4, ha4, hF4⟩ := T4.out
  have z4 : w4.cell? ⟨h, 0, none⟩ = some (.slice Ao4 d.sent.length cO4) := r4.blk.cellAt rfl
  have M4 := hid m4
  have R4 := hid r4
  have S4 := hid hs4
  have A4 := hid ha4
  have F4' := hid hF4
  clear m4 r4 hs4 ha4 hF4 k4
  go_wp2_with fail
  have HO4 : Hid (∀ o, (w4.alloc o).ownsRow 0 51 2 (.slice Ao4 d.sent.length cO4) d.sent.length (d.sent.flatMap sentC)) := hid (fun o => own_keep R4.out.out (fun b hb => Below.heap_alloc _ _ _ (own_lt R4.out.out hb)))
  have HN4 : Hid (Reads (w4.alloc (.cells #[.int .i64 (k : Int), .int .i64 x] 51)) (w4.heap.size + 1) 2 (some ⟨w4.heap.size, 0, none⟩) 1 [iV (k : Int), iV x]) := hid ((Reads.lit (n := 1) (size := 2) (heap_alloc_new w4 (.cells #[.int .i64 (k : Int), .int .i64 x] 51)) rfl).more (by simp))
  have t2a := (fun o => cell_alloc v1' o)
  have t4a := (fun o => cell_alloc z4 o)
  go_region_law (first
    | (refine step_app3 _ (by rfl) _ _ _ (by rfl) 0 51 i0 _ 2 16 Try.underlying44 hi0 hz0 hz1 hz2 rfl (by decide) (.slice Ao4 d.sent.length cO4) d.sent.length (d.sent.flatMap sentC) (by rfl) (by first | exact HO4.out _ | exact (own_keep (HO4.out _) (fun _ _ => rfl))) (w4.heap.size + 1) (some ⟨w4.heap.size, 0, none⟩) 1 1 [iV (k : Int), iV x] (by rfl) (by first | exact HN4.out | exact HN4.out.drew) (by simp [Value.oneCell', iV]) (by simp [maxLen]; omega) (by omega) (Nat.zero_le _) (d.sent.length + 1) rfl ?_; intro A' c' w5 hown5 hg5 hA5; have hg5' : (w4.alloc (.cells #[.int .i64 (k : Int), .int .i64 x] 51)).grownBy w5 (Value.slice Ao4 d.sent.length cO4).ownBlock := (by first | exact hg5 | exact ⟨hg5.os, hg5.tape, hg5.output, hg5.size, hg5.block⟩); have hblk5 : Blk w5 h 64 [.slice Ao4 d.sent.length cO4, .bool d.conf] := ((hg5'.block h (by have := R4.out.blk.lt; simp; omega) (fun e => R4.out.off (ownBlock_foot.1 e.symm))).trans ((Below.heap_alloc _ _ _ R4.out.blk.lt).trans R4.out.blk)); have hown5' := hid hown5; have HG5 := hid hg5'; have HA5 := hid hA5; have y4 : w5.cell? ⟨h, 0, none⟩ = some (.slice Ao4 d.sent.length cO4) := hblk5.cellAt rfl; have yf := hblk5.frozen 0; clear hown5 hg5 hA5 hg5' hblk5))
  all_goals
    obtain ⟨F6, ht6, hg6⟩ := RvTick.more (d := { d with ss := ssR, stack := d.stack.take (d.stack.length - 1) }) (x := (k : Int)) (y := x) M4.out R4.out S4.out A4.out F4'.out (below_alloc1 w4 _) rfl hown5'.out HG5.out HA5.out
    have K6 := hid (And.intro ht6 hg6)
    clear ht6 hg6 t2a t4a z4 y4 yf
    go_wp2_with fail
    go_ret
    rw [ir.out]
    exact ⟨F6, rfl, K6.out.1, G4.out.trans K6.out.2⟩
set_option maxRecDepth 100000 in
set_option maxHeartbeats 4000000 in
theorem rvGet (t : RvTick w F h g gR i cs pc ticks fault d) (hl2 : d.stack.length ≤ 90) (hK : KAll cs d.ss) (k : Nat) :
    Calls Try.prog 52 #[.pointer (some ⟨g, 0, none⟩), insV 15 (k : Int), .pointer (some ⟨gR, 0, none⟩), .pointer (some ⟨h, 0, none⟩)] w (PPost F w h g gR i cs pc ticks fault (portR i cs 15 k d)) := by
  obtain ⟨w1, hw1, hb1, hB, hs1⟩ := ins_in 15 (k : Int) w
  have x0 : w1.cell? ⟨w.heap.size, 0, none⟩ = some (.int .i64 15) := hB.cellAt rfl
  have x1 : w1.cell? ⟨w.heap.size, 1, none⟩ = some (.int .i64 (k : Int)) := hB.cellAt rfl
  have T1 := hid (t.belowS hb1)
  have G1 := hid (Goes.of_below (F := F) hb1)
  have HN : Hid (¬ F w.heap.size) := hid (fun h9 => by have := t.lt h9; omega)
  have HL : Hid (w.heap.size < w1.heap.size) := hid (by omega)
  obtain ⟨a, Ao, cO, F2, m, r, hR, ha, hF⟩ := T1.out
  have y0 : w1.cell? ⟨g, 0, none⟩ = some (.int .i64 i.part) := m.blk.cellAt rfl
  have iS := hid (fun W (tW : RvTick W F h g gR i cs pc ticks fault d) => tW.chans fun F2 hs => getR_any hs hK i.part (k : Int))
  obtain ⟨R, hR9⟩ : ∃ R, getP cs d.ss i.part (k : Int) = R := ⟨_, rfl⟩
  have hsame : R.2.2.1 ≠ 0 → R.2.2.2 = d.ss := fun hne => by rw [← hR9] at hne ⊢; exact getP_same _ _ _ _ hne
  have ir : Hid (portR i cs 15 k d = if R.2.2.1 = 0 then (0, { d with stack := d.stack ++ (if R.2.1 then [w65 R.1, w65 1] else [w65 0]), ss := R.2.2.2 }) else (15, d)) := hid (by
    rw [← hR9]
    rfl)
  rw [hR9] at iS
  obtain ⟨nR, bR, ER, ssR⟩ := R
  simp only at iS hsame ir
  unfold toldV at iS
  have iS2 : Hid (∀ W, Below w1.heap.size w1 W → Calls Try.prog 89 #[.pointer (some ⟨gR, 0, none⟩), .int .i64 i.part, .int .i64 (k : Int)] W fun e w3 => e = .returned (.agg #[.int .i64 nR, .bool bR, .int .i64 ER]) ∧ ∃ F3, RvTick w3 F3 h g gR i cs pc ticks fault { d with ss := ssR } ∧ Goes F w F3 w3 ∧ w3.cell? ⟨g, 0, none⟩ = some (.int .i64 i.part) ∧ w3.cell? ⟨w.heap.size, 1, none⟩ = some (.int .i64 (k : Int)) ∧ ∀ b, w1.heap.size ≤ b → b < W.heap.size → w3.heap[b]? = W.heap[b]? ∧ ¬ F3 b ∧ b < w3.heap.size) := hid (fun W hb => (iS.out W (T1.out.belowS hb)).mono (by
    rintro e w3 ⟨rfl, F3, ht, hg⟩
    have ht0 := ht
    obtain ⟨a3, _, _, _, m3, _⟩ := ht0
    have hk := hg.keeps (b := w.heap.size) (Nat.lt_of_lt_of_le HL.out hb.size) HN.out
    refine ⟨rfl, F3, ht, (G1.out.trans (Goes.of_below hb)).trans hg, m3.blk.cellAt rfl, (World.cell?_of_block (hk.1.trans (hb.block _ HL.out))).trans x1, fun b h1 h2 => hg.keeps h2 (fun h9 => ?_)⟩
    have := T1.out.lt h9
    omega))
  have iP := hid (fun W F' st' x (hst : st'.length ≤ 100) (tW : RvTick W F' h g gR i cs pc ticks fault { d with ss := ssR, stack := st' }) => tW.act (d' := { d with ss := ssR, stack := st' ++ [w65 x] }) (pc' := pc) (ticks' := ticks) (fault' := fault) rfl rfl rfl fun F1 h1 => rvPush h1 hst x)
  have n1 : g ≠ w1.heap.size := fun e => by have := m.blk.lt; omega
  have n2 : w1.heap.size ≠ g := n1.symm
  have n3 : w.heap.size ≠ w1.heap.size := by omega
  have n4 : w1.heap.size ≠ w.heap.size := n3.symm
  clear hR9 hb1 hB hs1 t m r hR ha hF hK
  unfold insV
  go_enter Try.func52, Try.ntmps52
  go_wp2_with fail
  go_region_held3 (fun w' => w'.cell? ⟨g, 0, none⟩ = some (.int .i64 i.part) ∧ w'.cell? ⟨w.heap.size, 1, none⟩ = some (.int .i64 (k : Int))) (go_keep)
    (first
      | (go_at_call 89; refine (iS2.out _ ?_).mono ?_; (first | exact Below.refl _ _ | exact bel_drewV (Below.refl _ _) | exact below_alloc1 _ _ | exact bel_drewV (below_alloc1 _ _)); rintro e w3 ⟨rfl, F3, ht, hg, v0, v1, hnb⟩; have T3 := hid ht; have G3 := hid hg; (try (have hbx : Blk w3 w1.heap.size 71 [.int .i64 0, .bool false, .int .i64 0] := (hnb w1.heap.size (Nat.le_refl _) (by first | simp | (show _ < (w1.alloc _).heap.size; simp))).1.trans (heap_alloc_new w1 _); have p0 : w3.cell? ⟨w1.heap.size, 0, none⟩ = some (.int .i64 0) := hbx.cellAt rfl; have p1 : w3.cell? ⟨w1.heap.size, 1, none⟩ = some (.bool false) := hbx.cellAt rfl; have p2 : w3.cell? ⟨w1.heap.size, 2, none⟩ = some (.int .i64 0) := hbx.cellAt rfl; have pf := hbx.frozen; have HBX := hid hbx; have HNF := hid (hnb w1.heap.size (Nat.le_refl _) (by first | simp | (show _ < (w1.alloc _).heap.size; simp))).2; clear hbx)); have n5 : g ≠ w3.heap.size := (fun e => absurd (World.block_lt_of_cell? w3 _ v0) (by simp [e])); have n6 := n5.symm; have n7 : w.heap.size ≠ w3.heap.size := (fun e => absurd (World.block_lt_of_cell? w3 _ v1) (by simp [e])); have n8 := n7.symm; clear ht hg hnb))
  all_goals
    first
      | (obtain ⟨y, w4, hy, hw4, ht, hg, hb4⟩ : ∃ y w4, w3.heap.size = y ∧ w3.alloc (.cells #[.int .i64 nR, .bool bR, .int .i64 ER] 71) = w4 ∧ RvTick w4 F3 h g gR i cs pc ticks fault { d with ss := ssR } ∧ Goes F w F3 w4 ∧ Blk w4 y 71 [.int .i64 nR, .bool bR, .int .i64 ER] := ⟨_, _, rfl, rfl, T3.out.belowS (below_alloc1 _ _), G3.out.trans (Goes.of_below (below_alloc1 _ _)), Blk.new _ _ [.int .i64 nR, .bool bR, .int .i64 ER]⟩
         rw [hw4, hy]
         clear hw4 hy)
      | (obtain ⟨y, w4, hy, hw4, ht, hg, hb4⟩ : ∃ y w4, w1.heap.size = y ∧ ((w3.setCell ⟨w1.heap.size, 0, none⟩ (.int .i64 nR)).setCell ⟨w1.heap.size, 1, none⟩ (.bool bR)).setCell ⟨w1.heap.size, 2, none⟩ (.int .i64 ER) = w4 ∧ RvTick w4 F3 h g gR i cs pc ticks fault { d with ss := ssR } ∧ Goes F w F3 w4 ∧ Blk w4 y 71 [.int .i64 nR, .bool bR, .int .i64 ER] :=
           ⟨_, _, rfl, rfl, T3.out.keep (by simp [World.setCell]) (fun b hb => have hne : b ≠ w1.heap.size := (fun e => HNF.out.1 (by rw [← e]; exact hb)); (Below.heap_setCell _ ⟨w1.heap.size, 2, none⟩ _ _ hne).trans ((Below.heap_setCell _ ⟨w1.heap.size, 1, none⟩ _ _ hne).trans (Below.heap_setCell _ ⟨w1.heap.size, 0, none⟩ _ _ hne))), ⟨((G3.out.apart.setCell (p := ⟨w1.heap.size, 0, none⟩) (.inr (Nat.le_of_lt HL.out)) _).setCell (p := ⟨w1.heap.size, 1, none⟩) (.inr (Nat.le_of_lt HL.out)) _).setCell (p := ⟨w1.heap.size, 2, none⟩) (.inr (Nat.le_of_lt HL.out)) _, G3.out.foot⟩, ((HBX.out.set_ 0 _).set_ 1 _).set_ 2 _⟩
         rw [hw4, hy]
         clear hw4 hy)
    have q0 : w4.cell? ⟨y, 0, none⟩ = some (.int .i64 nR) := hb4.cellAt rfl
    have q1 : w4.cell? ⟨y, 1, none⟩ = some (.bool bR) := hb4.cellAt rfl
    have q2 : w4.cell? ⟨y, 2, none⟩ = some (.int .i64 ER) := hb4.cellAt rfl
    have T4 := hid ht
    have G4 := hid hg
    clear ht hg hb4 n1 n2 n3 n4 n5 n6 n7 n8 v0 v1 y0 x0 x1
    by_cases hE0 : ER = 0
    case neg =>
      rw [if_neg hE0] at ir
      have hs := hsame hE0
      subst hs
      have y2 : (ER != 0) = true := by simpa using hE0
      clear hE0 hsame
      go_wp2_with fail
      go_ret
      rw [ir.out]
      exact ⟨F3, rfl, T4.out, G4.out⟩
    subst hE0
    rw [if_pos rfl] at ir
    clear hsame
    cases bR with
    | false =>
      rw [if_neg (by decide)] at ir
      go_wp2_with fail
      refine (iP.out _ _ d.stack 0 (by omega) T4.out).mono ?_
      rintro e w5 ⟨rfl, F5, ht, hg⟩
      have T5 := hid ht
      have G5 := hid (G4.out.trans hg)
      clear ht hg iP
      go_wp2_with fail
      go_ret
      rw [ir.out]
      exact ⟨F5, rfl, T5.out, G5.out⟩
    | true =>
      rw [if_pos rfl] at ir
      go_wp2_with fail
      refine (iP.out _ _ d.stack nR (by omega) T4.out).mono ?_
      rintro e w5 ⟨rfl, F5, ht, hg⟩
      have T5 := hid ht
      have G5 := hid (G4.out.trans hg)
      clear ht hg
      go_wp2_with fail
      refine (iP.out _ _ (d.stack ++ [w65 nR]) 1 (by simp; omega) T5.out).mono ?_
      rintro e w6 ⟨rfl, F6, ht, hg⟩
      have T6 := hid ht
      have G6 := hid (G5.out.trans hg)
      clear ht hg iP
      go_wp2_with fail
      go_ret
      rw [ir.out]
      refine ⟨F6, rfl, ?_, G6.out⟩
      have := T6.out
      rw [List.append_assoc] at this
      exact this
end
end Go.Proofs.Ytidlahljhgglcaa
namespace Go.Proofs.Ytidlahljhgglcaa
open Go.RowKit Go.ChangeShapes Go.WideShapes Go.ChangeAt

def stackR (o k : Nat) (s : VmS) : VmS := match o with
  | 1 => pushS k s
  | 2 => popS s
  | 3 => pushS (topV s.stack 0) (pushS (topV s.stack 0) (popS s))
  | 4 => pushS (topV s.stack 1) (pushS (topV s.stack 0) (popS (popS s)))
  | 5 => pushS (sumF 5 (topV s.stack 1) (topV s.stack 0)) (popS (popS s))
  | 6 => pushS (sumF 6 (topV s.stack 1) (topV s.stack 0)) (popS (popS s))
  | 7 => pushS (sumF 7 (topV s.stack 1) (topV s.stack 0)) (popS (popS s))
  | 8 => pushS (sumF 8 (topV s.stack 1) (topV s.stack 0)) (popS (popS s))
  | 9 => pushS (sumF 9 (topV s.stack 1) (topV s.stack 0)) (popS (popS s))
  | 10 => pushS (s.mem.getD k 0) s
  | 11 => { popS s with mem := s.mem.set k (topV s.stack 0) }
  | 18 => pushS s.ticks s
  | _ => s
def stackD (o k : Nat) (tk : Int) (d : VmD) : VmD := { d with stack := (stackR o k (machS 0 tk 0 d)).stack, mem := (stackR o k (machS 0 tk 0 d)).mem }
theorem op_cases {o : Nat} (ho : o ≤ 18) : o = 0 ∨ o = 1 ∨ o = 2 ∨ o = 3 ∨ o = 4 ∨ o = 5 ∨ o = 6 ∨ o = 7 ∨ o = 8 ∨ o = 9 ∨ o = 10 ∨ o = 11 ∨ o = 12 ∨ o = 13 ∨ o = 14 ∨ o = 15 ∨ o = 16 ∨ o = 17 ∨ o = 18 := by omega
theorem stackR_mach {o : Nat} (ho : o ≤ 18) (k : Nat) (pc tk f : Int) (d : VmD) : stackR o k (machS pc tk f d) = machS pc tk f (stackD o k tk d) := by
  rcases op_cases ho with rfl | rfl | rfl | rfl | rfl | rfl | rfl | rfl | rfl | rfl | rfl | rfl | rfl | rfl | rfl | rfl | rfl | rfl | rfl <;> rfl
section
variable {w w' : World} {F : Nat → Prop} {g : Nat} {i : ImgS} {s : VmS}
theorem rvFails_any (t : RvAt w F g i s) (hs : 0 ≤ i.sends ∧ i.sends ≤ 15) (hr : 0 ≤ i.recvs ∧ i.recvs ≤ 15) (hl : s.stack.length ≤ 90) (o : Nat) (ho : o ≤ 18) (k : Nat) :
    Calls Try.prog 51 #[.pointer (some ⟨g, 0, none⟩), insV (o : Int) (k : Int)] w fun e w' => e = .returned (.int .i64 (failR i s o k)) ∧ Below w.heap.size w w' := by
  rcases op_cases ho with rfl | rfl | rfl | rfl | rfl | rfl | rfl | rfl | rfl | rfl | rfl | rfl | rfl | rfl | rfl | rfl | rfl | rfl | rfl
  · exact rvFail_0 t hs hr hl k
  · exact rvFail_1 t hs hr hl k
  · exact rvFail_2 t hs hr hl k
  · exact rvFail_3 t hs hr hl k
  · exact rvFail_4 t hs hr hl k
  · exact rvFail_5 t hs hr hl k
  · exact rvFail_6 t hs hr hl k
  · exact rvFail_7 t hs hr hl k
  · exact rvFail_8 t hs hr hl k
  · exact rvFail_9 t hs hr hl k
  · exact rvFail_10 t hs hr hl k
  · exact rvFail_11 t hs hr hl k
  · exact rvFail_12 t hs hr hl k
  · exact rvFail_13 t hs hr hl k
  · exact rvFail_14 t hs hr hl k
  · exact rvFail_15 t hs hr hl k
  · exact rvFail_16 t hs hr hl k
  · exact rvFail_17 t hs hr hl k
  · exact rvFail_18 t hs hr hl k
theorem rvStack_any (t : RvAt w F g i s) (hl : s.stack.length ≤ 90) (hm : s.mem.length ≤ 1000) (hin : ∀ x ∈ s.stack, InW x) (o : Nat) (ho : o ≤ 18) (k : Nat) (h1 : o ≠ 13 → o ≠ 14 → (needF o).1 ≤ s.stack.length) (h2 : o = 10 ∨ o = 11 → k < s.mem.length) :
    Calls Try.prog 54 #[.pointer (some ⟨g, 0, none⟩), insV (o : Int) (k : Int)] w (MPost F w g i (.returned (.tuple #[])) (stackR o k s)) := by
  have hw : ∀ j, j < s.stack.length → InW (topV s.stack j) := fun j hj => by
    unfold topV
    rw [List.getD_eq_getElem?_getD, List.getElem?_eq_getElem (by omega)]
    exact hin _ (List.getElem_mem _)
  rcases op_cases ho with rfl | rfl | rfl | rfl | rfl | rfl | rfl | rfl | rfl | rfl | rfl | rfl | rfl | rfl | rfl | rfl | rfl | rfl | rfl
  · exact rvStk_none t k 0 (by simp)
  · exact rvStk_push t hl k
  · exact rvStk_drop t hl k (h1 (by decide) (by decide))
  · exact rvStk_dup t hl k (h1 (by decide) (by decide))
  · exact rvStk_swap t hl k (h1 (by decide) (by decide))
  · exact rvStk_two5 t hl k (h1 (by decide) (by decide)) (hw 0 (by have := h1 (by decide) (by decide); simp [needF] at this; omega)) (hw 1 (h1 (by decide) (by decide)))
  · exact rvStk_two6 t hl k (h1 (by decide) (by decide)) (hw 0 (by have := h1 (by decide) (by decide); simp [needF] at this; omega)) (hw 1 (h1 (by decide) (by decide)))
  · exact rvStk_two7 t hl k (h1 (by decide) (by decide)) (hw 0 (by have := h1 (by decide) (by decide); simp [needF] at this; omega)) (hw 1 (h1 (by decide) (by decide)))
  · exact rvStk_two8 t hl k (h1 (by decide) (by decide)) (hw 0 (by have := h1 (by decide) (by decide); simp [needF] at this; omega)) (hw 1 (h1 (by decide) (by decide)))
  · exact rvStk_two9 t hl k (h1 (by decide) (by decide)) (hw 0 (by have := h1 (by decide) (by decide); simp [needF] at this; omega)) (hw 1 (h1 (by decide) (by decide)))
  · exact rvStk_load t hl k k rfl (h2 (.inl rfl)) hm
  · exact rvStk_store t hl k k rfl (h2 (.inr rfl)) hm (h1 (by decide) (by decide))
  · exact rvStk_none t k 12 (by simp)
  · exact rvStk_none t k 13 (by simp)
  · exact rvStk_none t k 14 (by simp)
  · exact rvStk_none t k 15 (by simp)
  · exact rvStk_none t k 16 (by simp)
  · exact rvStk_none t k 17 (by simp)
  · exact rvStk_now t hl k
end
/-! ### The plain law -/
/-- Behind an instruction that did not fail. -/
def stepD (o k : Nat) (nx tk : Int) (d : VmD) : VmD :=
  if o = 12 then { d with next := k } else
  if o = 13 then { d with stack := d.stack.take (d.stack.length - 1), next := if topV d.stack 0 = 0 then (k : Int) else nx } else
  { stackD o k tk d with next := nx, conf := d.conf || decide (o = 16) }
theorem fits_eq (n t l : Nat) : fitsE n t l = if n < t then 5 else if 8 + t < n + l then 14 else 0 := by
  unfold fitsE
  split
  · rfl
  · by_cases h : 8 + t < n + l
    · rw [if_pos h, if_pos (by omega)]
    · rw [if_neg h, if_neg (by omega)]
theorem swap_one (s : List Int) : swapV s 1 [] = s.take (s.length - 1) := by simp [swapV]
theorem swap_none (s l : List Int) : swapV s 0 l = s ++ l.map w65 := by simp [swapV]
theorem swap_two (s l : List Int) : swapV s 2 l = (s.take (s.length - 1)).take (s.length - 1 - 1) ++ l.map w65 := by
  unfold swapV
  rw [List.take_take]
  congr 2
  omega
theorem w65_id {x : Int} (h : InW x) : w65 x = x := by
  obtain ⟨h0, h1⟩ := h
  unfold w65
  omega
theorem stack_top (s : List Int) (h : 0 < s.length) (hin : ∀ x ∈ s, InW x) : s.take (s.length - 1) ++ [w65 (topV s 0)] = s := by
  have e : topV s 0 = s[s.length - 1] := by
    unfold topV
    rw [List.getD_eq_getElem?_getD, show s.length - 1 - 0 = s.length - 1 by omega, List.getElem?_eq_getElem (by omega)]
    rfl
  rw [e, w65_id (hin _ (List.getElem_mem _))]
  rw [← List.take_succ_eq_append_getElem (by omega), show s.length - 1 + 1 = s.length by omega, List.take_length]
/-- What the reference does with an instruction is what the program does. -/
theorem deed_step (i : ImgS) (cs : List ChanS) (pc nx tk : Int) (d : VmD) (hl : d.stack.length ≤ 8) (hin : ∀ x ∈ d.stack, InW x) {o : Nat} (ho : o ≤ 18) (k : Nat) :
    deedF i cs tk o (k : Int) { d with next := nx } =
      if failR i (machS pc tk 0 d) o k ≠ 0 then (failR i (machS pc tk 0 d) o k, { d with next := nx })
      else if o = 14 ∨ o = 15 then (if (portR i cs o k d).1 = 0 then (0, stepD o k nx tk (portR i cs o k d).2) else ((portR i cs o k d).1, { d with next := nx }))
      else (0, stepD o k nx tk d) := by
  have e1 : (machS pc tk 0 d).stack = d.stack := rfl
  have e2 : (machS pc tk 0 d).mem = d.mem := rfl
  have hst := stack_top d.stack
  rcases op_cases ho with rfl | rfl | rfl | rfl | rfl | rfl | rfl | rfl | rfl | rfl | rfl | rfl | rfl | rfl | rfl | rfl | rfl | rfl | rfl
  all_goals
    unfold failR deedF
    simp only [needF, e1, e2, onF, twoF, fits_eq, List.length_cons, List.length_nil, Nat.zero_add, Nat.add_zero, Nat.not_lt_zero, Int.toNat_natCast, Int.ofNat_le, if_false, if_true, false_and, true_and, false_or, or_false, true_or, or_true, Nat.reduceEqDiff, Nat.reduceAdd, reduceIte, Nat.one_ne_zero, Nat.zero_ne_one, ne_eq, not_true_eq_false, not_false_eq_true, Nat.succ_ne_self]
  all_goals try (split <;> (try split) <;> (try split) <;> (first | rfl | omega | skip))
  all_goals try (simp [stepD, stackD, stackR, pushS, popS, sumF, machS, swap_none, swap_one, swap_two]; done)
  · have h1 : d.stack ++ [w65 (topV d.stack 0)] = (d.stack.take (d.stack.length - 1) ++ [w65 (topV d.stack 0)]) ++ [w65 (topV d.stack 0)] := by rw [hst (by omega) hin]
    rw [swap_none]
    simp only [stepD, stackD, stackR, pushS, popS, machS, List.map_cons, List.map_nil]
    rw [h1]
    simp
  · have e : sumF 8 (topV d.stack 1) (topV d.stack 0) = oneI (decide (topV d.stack 1 < topV d.stack 0)) := rfl
    rw [← e]
    simp [stepD, stackD, stackR, pushS, popS, machS, swap_two]
  · have e : sumF 9 (topV d.stack 1) (topV d.stack 0) = oneI (decide (topV d.stack 1 = topV d.stack 0)) := rfl
    rw [← e]
    simp [stepD, stackD, stackR, pushS, popS, machS, swap_two]
  · by_cases hE : (sendP cs d.ss i.part (k : Int) (topV d.stack 0)).2.1 = 0
    · simp [portR, hE, stepD, stackD, stackR, machS, swap_one]
    · simp [portR, hE]
  · by_cases hE : (getP cs d.ss i.part (k : Int)).2.2.1 = 0
    · by_cases hB : (getP cs d.ss i.part (k : Int)).2.1 = true
      · simp [portR, hE, hB, stepD, stackD, stackR, machS, swap_none]
      · simp [portR, hE, hB, stepD, stackD, stackR, machS, swap_none]
    · simp [portR, hE]
end Go.Proofs.Ytidlahljhgglcaa
namespace Go.Proofs.Ytidlahljhgglcaa
open Go.RowKit Go.ChangeShapes Go.WideShapes Go.ChangeAt

/-- What it tells. -/
def gotC (r : Option (Nat × Int × Int)) : List Value := match r with
  | none => [.int .i64 0, .int .i64 0, .int .i64 0, .bool false]
  | some (o, a, nx) => [.int .i64 (o : Int), .int .i64 a, .int .i64 nx, .bool true]
def gotV (r : Option (Nat × Int × Int)) : Value := .agg (gotC r).toArray
set_option maxHeartbeats 4000000 in
theorem refAt_any (A : Option Addr) (n c : Nat) (l : List UInt8) (pc : Int) (w : World) (h : Reads w w.heap.size 1 A n (l.map bV)) (hn : n ≤ 1000000) :
    Calls Try.prog 50 #[.slice A n c, .int .i64 pc] w fun e w' => e = .returned (gotV (atF l pc)) ∧ Below w.heap.size w w' := by
  have hl : l.length = n := by simpa using h.len
  by_cases hpc : pc < 0
  · have y0 : decide (pc < 0) = true := decide_eq_true hpc
    have hr : Hid (gotV (atF l pc) = gotV none) := hid (by rw [show atF l pc = none from if_pos hpc])
    clear h hl hpc
    go_enter Try.func50, Try.ntmps50
    go_wp2_with fail
    go_returns
    exact ⟨by rw [hr.out]; rfl, (Below.refl w.heap.size w).alloc (Nat.le_refl _) _⟩
  have y0 : decide (pc < 0) = false := decide_eq_false hpc
  obtain ⟨k, rfl⟩ : ∃ k : Nat, pc = (k : Int) := ⟨pc.toNat, by omega⟩
  by_cases hk : n ≤ k
  · have y1 : decide ((n : Int) ≤ (k : Int)) = true := decide_eq_true (by omega)
    have y1' : decide (n ≤ k) = true := decide_eq_true hk
    have hr : Hid (gotV (atF l (k : Int)) = gotV none) := hid (by
      have hx : l[(k : Int).toNat]? = none := List.getElem?_eq_none (by rw [Int.toNat_natCast]; omega)
      rw [show atF l (k : Int) = none by unfold atF; rw [if_neg hpc, hx]])
    clear h hl hpc hk
    go_enter Try.func50, Try.ntmps50
    go_wp2_with fail
    go_returns
    exact ⟨by rw [hr.out]; rfl, (Below.refl w.heap.size w).alloc (Nat.le_refl _) _⟩
  have y1 : decide ((n : Int) ≤ (k : Int)) = false := decide_eq_false (by omega)
  have y1' : decide (n ≤ k) = false := decide_eq_false hk
  obtain ⟨ad, b, rfl, had, hx, hcell⟩ := h.atM (k := k) (by omega)
  have x0 : (0 : Int) ≤ (k : Int) := Int.natCast_nonneg _
  have x1 : (k : Int) < (n : Int) := by omega
  have d0 := fun o => cell_allocT hcell o
  have d1 := fun o o' => cell_allocT (cell_allocT hcell o) o'
  have hb255 : b.toNat ≤ 255 := by have := b.toNat_lt; omega
  have hat0 : Hid (∀ r, (if 18 < b.toNat then none else if hasArg b.toNat = false then some (b.toNat, 0, (k : Int) + 1) else match l[k + 1]? with | none => none | some c => some (b.toNat, (c.toNat : Int), (k : Int) + 2)) = r → atF l (k : Int) = r) := hid (fun r hr => by
    unfold atF
    rw [if_neg hpc, Int.toNat_natCast, hx]
    exact hr)
  by_cases h18 : 18 < b.toNat
  · have hr : Hid (gotV (atF l (k : Int)) = gotV none) := hid (by rw [hat0.out none (if_pos h18)])
    have y2 : decide ((18 : Int) < (b.toNat : Int)) = true := decide_eq_true (by omega)
    have y2' : decide (18 < b.toNat) = true := decide_eq_true h18
    clear h hl hx
    go_enter Try.func50, Try.ntmps50
    go_wp2_with fail
    go_returns
    exact ⟨by rw [hr.out]; rfl, (Below.refl w.heap.size w).alloc (Nat.le_refl _) _⟩
  have y2 : decide ((18 : Int) < (b.toNat : Int)) = false := decide_eq_false (by omega)
  have y2' : decide (18 < b.toNat) = false := decide_eq_false h18
  have iH := hid (fun w => argR_any b.toNat (by omega) w)
  have y3 : IntKind.i64.wrap ((k : Int) + 1) = ((k + 1 : Nat) : Int) := by rw [IntWalk.i64_in _ (by omega)]; omega
  by_cases ha : hasArg b.toNat = false
  · have hr : Hid (gotV (atF l (k : Int)) = gotV (some (b.toNat, 0, (k : Int) + 1))) := hid (by rw [hat0.out _ ((if_neg h18).trans (if_pos ha))])
    rw [ha] at iH
    clear h hl hx
    go_enter Try.func50, Try.ntmps50
    go_wp2_with fail
    refine (iH.out _).mono ?_
    rintro e w1 ⟨rfl, rfl⟩
    go_wp2_with fail
    go_returns
    refine ⟨by first | (rw [hr.out]; rfl) | (rw [hr.out]; simp [gotV, gotC]; done), ?_⟩
    first
      | exact bel_alloc ((Below.refl w.heap.size w).alloc (Nat.le_refl _) _) _
      | exact (Below.refl w.heap.size w).alloc (Nat.le_refl _) _
      | exact (bel_alloc ((Below.refl w.heap.size w).alloc (Nat.le_refl _) _) _).setCell (by simp) _
      | exact ((bel_alloc ((Below.refl w.heap.size w).alloc (Nat.le_refl _) _) _).setCell (by simp) _).setCell (by simp) _
  have ha' : hasArg b.toNat = true := by simpa using ha
  rw [ha'] at iH
  by_cases hk1 : n ≤ k + 1
  · have hr : Hid (gotV (atF l (k : Int)) = gotV none) := hid (by
      rw [hat0.out none ((if_neg h18).trans ((if_neg ha).trans (by rw [List.getElem?_eq_none (by omega)])))])
    have y4 : decide ((n : Int) ≤ (k : Int) + 1) = true := decide_eq_true (by omega)
    have y4' : decide (n ≤ k + 1) = true := decide_eq_true hk1
    clear h hl hx hk1 hpc
    go_enter Try.func50, Try.ntmps50
    go_wp2_with fail
    refine (iH.out _).mono ?_
    rintro e w1 ⟨rfl, rfl⟩
    go_wp2_with fail
    go_returns
    refine ⟨by first | (rw [hr.out]; rfl) | (rw [hr.out]; simp [gotV, gotC]; done), ?_⟩
    first
      | exact bel_alloc ((Below.refl w.heap.size w).alloc (Nat.le_refl _) _) _
      | exact (Below.refl w.heap.size w).alloc (Nat.le_refl _) _
      | exact (bel_alloc ((Below.refl w.heap.size w).alloc (Nat.le_refl _) _) _).setCell (by simp) _
      | exact ((bel_alloc ((Below.refl w.heap.size w).alloc (Nat.le_refl _) _) _).setCell (by simp) _).setCell (by simp) _
  · have hk1l : k + 1 < n := by omega
    obtain ⟨ad', b1, hae, _, hx1, hcell1⟩ := h.atM hk1l
    injection hae with hae
    subst hae
    have hb1 := b1.toNat_lt
    have hr : Hid (gotV (atF l (k : Int)) = gotV (some (b.toNat, (b1.toNat : Int), (k : Int) + 2))) := hid (by
      rw [hat0.out _ ((if_neg h18).trans ((if_neg ha).trans (by rw [hx1])))])
    have y4 : decide ((n : Int) ≤ (k : Int) + 1) = false := decide_eq_false (by omega)
    have y4' : decide (n ≤ k + 1) = false := decide_eq_false hk1
    have hadd : ad.add (k + 1) = ⟨ad.block, ad.off + (k + 1), none⟩ := by unfold Addr.add; rw [if_neg (by omega)]
    rw [hadd] at hcell1
    have f1 := fun o o' => cell_allocT (cell_allocT hcell1 o) o'
    clear hadd
    have x2 : (0 : Int) ≤ (k : Int) + 1 := by omega
    have x3 : (k : Int) + 1 < (n : Int) := by omega
    clear h hl hx hk1 hk1l hx1 hpc
    go_enter Try.func50, Try.ntmps50
    go_wp2_with fail
    refine (iH.out _).mono ?_
    rintro e w1 ⟨rfl, rfl⟩
    go_wp2_with fail
    go_returns
    refine ⟨by first | (rw [hr.out]; rfl) | (rw [hr.out]; simp [gotV, gotC]; done), ?_⟩
    first
      | exact bel_alloc ((Below.refl w.heap.size w).alloc (Nat.le_refl _) _) _
      | exact (Below.refl w.heap.size w).alloc (Nat.le_refl _) _
      | exact (bel_alloc ((Below.refl w.heap.size w).alloc (Nat.le_refl _) _) _).setCell (by simp) _
      | exact ((bel_alloc ((Below.refl w.heap.size w).alloc (Nat.le_refl _) _) _).setCell (by simp) _).setCell (by simp) _
end Go.Proofs.Ytidlahljhgglcaa
namespace Go.Proofs.Ytidlahljhgglcaa
open Go.RowKit Go.ChangeShapes Go.WideShapes Go.ChangeAt

section
variable {w w' : World} {F : Nat → Prop} {h g gs : Nat} {i : ImgS} {a : VmA} {cs : List ChanS} {pc ticks fault arg : Int} {Ao : Option Addr} {cO : Nat} {d : VmD}
theorem two_add (hf : ∀ (x y : Int) (w : World), InW x → InW y → Calls Try.prog 99 #[.int .i64 x, .int .i64 y] w fun e w' => e = .returned (.int .i64 ((fun x y => x + y) x y)) ∧ w' = w) (t : TickAt w F h g gs i cs pc ticks fault arg d) (hl : d.stack.length ≤ 100) (hst : ∀ x ∈ d.stack, InW x) :
    Calls Try.prog 98 #[.pointer (some ⟨h, 0, none⟩), .func (.func 99) #[] #[]] w (DPost F w h g gs i cs pc ticks fault arg (twoF (fun x y => x + y) d)) := by
  obtain ⟨f, hff⟩ : ∃ f : Int → Int → Int, (fun x y => x + y) = f := ⟨_, rfl⟩
  rw [hff] at hf ⊢
  clear hff
  have i1 := t.fits hl 2 1 2 1 rfl rfl (by omega) (by omega)
  have T := hid t
  obtain ⟨E, hE⟩ : ∃ E, fitsE d.stack.length 2 1 = E := ⟨_, rfl⟩
  rw [hE] at i1
  have I1 := hid i1
  clear i1 t
  by_cases h0 : E = 0
  · subst h0
    have hlen := (fits_ok hE).1
    have ir : Hid (twoF f d = (0, { d with stack := swapV d.stack 2 [f (topV d.stack 1) (topV d.stack 0)] })) := hid (if_pos hE)
    have hw1 := topV_in hst 1
    have hw0 := topV_in hst 0
    clear hE
    obtain ⟨x1, hx1⟩ : ∃ x, topV d.stack 1 = x := ⟨_, rfl⟩
    have j1 := hid (fun q => (T.out.drewN q).top hl 1 1 rfl (by omega))
    rw [hx1] at j1 ir hw1
    clear hx1
    obtain ⟨x0, hx0⟩ : ∃ x, topV d.stack 0 = x := ⟨_, rfl⟩
    have j0 := hid (fun q => (T.out.drewN q).top hl 0 0 rfl (by omega))
    rw [hx0] at j0 ir hw0
    clear hx0
    have jf := hid (fun w => hf x1 x0 w hw1 hw0)
    generalize f x1 x0 = z at jf ir
    clear hf
    go_enter Try.func98, Try.ntmps98
    go_wp2_with fail
    refine I1.out.mono ?_
    rintro e w1 ⟨rfl, rfl⟩
    go_wp2_with fail
    refine (j1.out 0).mono ?_
    rintro e w2 ⟨rfl, q1, hq1⟩
    rw [hq1]
    go_wp2_with fail
    refine (j0.out _).mono ?_
    rintro e w3 ⟨rfl, q2, hq2⟩
    have hb2 : Below w1.heap.size w1 w3 := by rw [hq2]; exact bel_trans (below_drewS _) (below_drewS q2)
    clear hq2 hq1
    have T2 := hid (T.out.belowS hb2)
    have HB2 := hid hb2
    clear hb2
    go_wp2_with fail
    refine (jf.out _).mono ?_
    rintro e w4 ⟨rfl, rfl⟩
    have i2 := hid ((T2.out.belowS (below_alloc1 w4 (.cells #[.int .i64 z] 3))).swap hl 2 2 rfl (by omega) [z] (some ⟨w4.heap.size, 0, none⟩) 1 1 rfl (by omega) (lit1V w4 z))
    go_wp2_with fail
    refine i2.out.mono ?_
    rintro e w5 ⟨rfl, F', ht, hg⟩
    have K := hid (And.intro ht hg)
    clear ht hg
    go_wp2_with fail
    go_ret
    rw [ir.out]
    exact ⟨F', rfl, K.out.1, ((Goes.of_below HB2.out).trans (Goes.of_below (below_alloc1 _ _))).trans K.out.2⟩
  · have ir : Hid (twoF f d = (E, d)) := hid (by have e0 : ¬ (fitsE d.stack.length 2 1 = 0) := (by rw [hE]; exact h0); rw [← hE]; exact if_neg e0)
    have y0 : (E != 0) = true := by simpa using h0
    clear hE h0 hf
    go_enter Try.func98, Try.ntmps98
    go_wp2_with fail
    refine I1.out.mono ?_
    rintro e w1 ⟨rfl, rfl⟩
    go_wp2_with fail
    go_ret
    rw [ir.out]
    exact DPost.same T.out rfl (Below.refl _ _)
theorem two_sub (hf : ∀ (x y : Int) (w : World), InW x → InW y → Calls Try.prog 100 #[.int .i64 x, .int .i64 y] w fun e w' => e = .returned (.int .i64 ((fun x y => x - y) x y)) ∧ w' = w) (t : TickAt w F h g gs i cs pc ticks fault arg d) (hl : d.stack.length ≤ 100) (hst : ∀ x ∈ d.stack, InW x) :
    Calls Try.prog 98 #[.pointer (some ⟨h, 0, none⟩), .func (.func 100) #[] #[]] w (DPost F w h g gs i cs pc ticks fault arg (twoF (fun x y => x - y) d)) := by
  obtain ⟨f, hff⟩ : ∃ f : Int → Int → Int, (fun x y => x - y) = f := ⟨_, rfl⟩
  rw [hff] at hf ⊢
  clear hff
  have i1 := t.fits hl 2 1 2 1 rfl rfl (by omega) (by omega)
  have T := hid t
  obtain ⟨E, hE⟩ : ∃ E, fitsE d.stack.length 2 1 = E := ⟨_, rfl⟩
  rw [hE] at i1
  have I1 := hid i1
  clear i1 t
  by_cases h0 : E = 0
  · subst h0
    have hlen := (fits_ok hE).1
    have ir : Hid (twoF f d = (0, { d with stack := swapV d.stack 2 [f (topV d.stack 1) (topV d.stack 0)] })) := hid (if_pos hE)
    have hw1 := topV_in hst 1
    have hw0 := topV_in hst 0
    clear hE
    obtain ⟨x1, hx1⟩ : ∃ x, topV d.stack 1 = x := ⟨_, rfl⟩
    have j1 := hid (fun q => (T.out.drewN q).top hl 1 1 rfl (by omega))
    rw [hx1] at j1 ir hw1
    clear hx1
    obtain ⟨x0, hx0⟩ : ∃ x, topV d.stack 0 = x := ⟨_, rfl⟩
    have j0 := hid (fun q => (T.out.drewN q).top hl 0 0 rfl (by omega))
    rw [hx0] at j0 ir hw0
    clear hx0
    have jf := hid (fun w => hf x1 x0 w hw1 hw0)
    generalize f x1 x0 = z at jf ir
    clear hf
    go_enter Try.func98, Try.ntmps98
    go_wp2_with fail
    refine I1.out.mono ?_
    rintro e w1 ⟨rfl, rfl⟩
    go_wp2_with fail
    refine (j1.out 0).mono ?_
    rintro e w2 ⟨rfl, q1, hq1⟩
    rw [hq1]
    go_wp2_with fail
    refine (j0.out _).mono ?_
    rintro e w3 ⟨rfl, q2, hq2⟩
    have hb2 : Below w1.heap.size w1 w3 := by rw [hq2]; exact bel_trans (below_drewS _) (below_drewS q2)
    clear hq2 hq1
    have T2 := hid (T.out.belowS hb2)
    have HB2 := hid hb2
    clear hb2
    go_wp2_with fail
    refine (jf.out _).mono ?_
    rintro e w4 ⟨rfl, rfl⟩
    have i2 := hid ((T2.out.belowS (below_alloc1 w4 (.cells #[.int .i64 z] 3))).swap hl 2 2 rfl (by omega) [z] (some ⟨w4.heap.size, 0, none⟩) 1 1 rfl (by omega) (lit1V w4 z))
    go_wp2_with fail
    refine i2.out.mono ?_
    rintro e w5 ⟨rfl, F', ht, hg⟩
    have K := hid (And.intro ht hg)
    clear ht hg
    go_wp2_with fail
    go_ret
    rw [ir.out]
    exact ⟨F', rfl, K.out.1, ((Goes.of_below HB2.out).trans (Goes.of_below (below_alloc1 _ _))).trans K.out.2⟩
  · have ir : Hid (twoF f d = (E, d)) := hid (by have e0 : ¬ (fitsE d.stack.length 2 1 = 0) := (by rw [hE]; exact h0); rw [← hE]; exact if_neg e0)
    have y0 : (E != 0) = true := by simpa using h0
    clear hE h0 hf
    go_enter Try.func98, Try.ntmps98
    go_wp2_with fail
    refine I1.out.mono ?_
    rintro e w1 ⟨rfl, rfl⟩
    go_wp2_with fail
    go_ret
    rw [ir.out]
    exact DPost.same T.out rfl (Below.refl _ _)
theorem two_mul (hf : ∀ (x y : Int) (w : World), InW x → InW y → Calls Try.prog 101 #[.int .i64 x, .int .i64 y] w fun e w' => e = .returned (.int .i64 ((fun x y => x * y) x y)) ∧ w' = w) (t : TickAt w F h g gs i cs pc ticks fault arg d) (hl : d.stack.length ≤ 100) (hst : ∀ x ∈ d.stack, InW x) :
    Calls Try.prog 98 #[.pointer (some ⟨h, 0, none⟩), .func (.func 101) #[] #[]] w (DPost F w h g gs i cs pc ticks fault arg (twoF (fun x y => x * y) d)) := by
  obtain ⟨f, hff⟩ : ∃ f : Int → Int → Int, (fun x y => x * y) = f := ⟨_, rfl⟩
  rw [hff] at hf ⊢
  clear hff
  have i1 := t.fits hl 2 1 2 1 rfl rfl (by omega) (by omega)
  have T := hid t
  obtain ⟨E, hE⟩ : ∃ E, fitsE d.stack.length 2 1 = E := ⟨_, rfl⟩
  rw [hE] at i1
  have I1 := hid i1
  clear i1 t
  by_cases h0 : E = 0
  · subst h0
    have hlen := (fits_ok hE).1
    have ir : Hid (twoF f d = (0, { d with stack := swapV d.stack 2 [f (topV d.stack 1) (topV d.stack 0)] })) := hid (if_pos hE)
    have hw1 := topV_in hst 1
    have hw0 := topV_in hst 0
    clear hE
    obtain ⟨x1, hx1⟩ : ∃ x, topV d.stack 1 = x := ⟨_, rfl⟩
    have j1 := hid (fun q => (T.out.drewN q).top hl 1 1 rfl (by omega))
    rw [hx1] at j1 ir hw1
    clear hx1
    obtain ⟨x0, hx0⟩ : ∃ x, topV d.stack 0 = x := ⟨_, rfl⟩
    have j0 := hid (fun q => (T.out.drewN q).top hl 0 0 rfl (by omega))
    rw [hx0] at j0 ir hw0
    clear hx0
    have jf := hid (fun w => hf x1 x0 w hw1 hw0)
    generalize f x1 x0 = z at jf ir
    clear hf
    go_enter Try.func98, Try.ntmps98
    go_wp2_with fail
    refine I1.out.mono ?_
    rintro e w1 ⟨rfl, rfl⟩
    go_wp2_with fail
    refine (j1.out 0).mono ?_
    rintro e w2 ⟨rfl, q1, hq1⟩
    rw [hq1]
    go_wp2_with fail
    refine (j0.out _).mono ?_
    rintro e w3 ⟨rfl, q2, hq2⟩
    have hb2 : Below w1.heap.size w1 w3 := by rw [hq2]; exact bel_trans (below_drewS _) (below_drewS q2)
    clear hq2 hq1
    have T2 := hid (T.out.belowS hb2)
    have HB2 := hid hb2
    clear hb2
    go_wp2_with fail
    refine (jf.out _).mono ?_
    rintro e w4 ⟨rfl, rfl⟩
    have i2 := hid ((T2.out.belowS (below_alloc1 w4 (.cells #[.int .i64 z] 3))).swap hl 2 2 rfl (by omega) [z] (some ⟨w4.heap.size, 0, none⟩) 1 1 rfl (by omega) (lit1V w4 z))
    go_wp2_with fail
    refine i2.out.mono ?_
    rintro e w5 ⟨rfl, F', ht, hg⟩
    have K := hid (And.intro ht hg)
    clear ht hg
    go_wp2_with fail
    go_ret
    rw [ir.out]
    exact ⟨F', rfl, K.out.1, ((Goes.of_below HB2.out).trans (Goes.of_below (below_alloc1 _ _))).trans K.out.2⟩
  · have ir : Hid (twoF f d = (E, d)) := hid (by have e0 : ¬ (fitsE d.stack.length 2 1 = 0) := (by rw [hE]; exact h0); rw [← hE]; exact if_neg e0)
    have y0 : (E != 0) = true := by simpa using h0
    clear hE h0 hf
    go_enter Try.func98, Try.ntmps98
    go_wp2_with fail
    refine I1.out.mono ?_
    rintro e w1 ⟨rfl, rfl⟩
    go_wp2_with fail
    go_ret
    rw [ir.out]
    exact DPost.same T.out rfl (Below.refl _ _)
theorem two_less (hf : ∀ (x y : Int) (w : World), InW x → InW y → Calls Try.prog 102 #[.int .i64 x, .int .i64 y] w fun e w' => e = .returned (.int .i64 ((fun x y => oneI (decide (x < y))) x y)) ∧ w' = w) (t : TickAt w F h g gs i cs pc ticks fault arg d) (hl : d.stack.length ≤ 100) (hst : ∀ x ∈ d.stack, InW x) :
    Calls Try.prog 98 #[.pointer (some ⟨h, 0, none⟩), .func (.func 102) #[] #[]] w (DPost F w h g gs i cs pc ticks fault arg (twoF (fun x y => oneI (decide (x < y))) d)) := by
  obtain ⟨f, hff⟩ : ∃ f : Int → Int → Int, (fun x y => oneI (decide (x < y))) = f := ⟨_, rfl⟩
  rw [hff] at hf ⊢
  clear hff
  have i1 := t.fits hl 2 1 2 1 rfl rfl (by omega) (by omega)
  have T := hid t
  obtain ⟨E, hE⟩ : ∃ E, fitsE d.stack.length 2 1 = E := ⟨_, rfl⟩
  rw [hE] at i1
  have I1 := hid i1
  clear i1 t
  by_cases h0 : E = 0
  · subst h0
    have hlen := (fits_ok hE).1
    have ir : Hid (twoF f d = (0, { d with stack := swapV d.stack 2 [f (topV d.stack 1) (topV d.stack 0)] })) := hid (if_pos hE)
    have hw1 := topV_in hst 1
    have hw0 := topV_in hst 0
    clear hE
    obtain ⟨x1, hx1⟩ : ∃ x, topV d.stack 1 = x := ⟨_, rfl⟩
    have j1 := hid (fun q => (T.out.drewN q).top hl 1 1 rfl (by omega))
    rw [hx1] at j1 ir hw1
    clear hx1
    obtain ⟨x0, hx0⟩ : ∃ x, topV d.stack 0 = x := ⟨_, rfl⟩
    have j0 := hid (fun q => (T.out.drewN q).top hl 0 0 rfl (by omega))
    rw [hx0] at j0 ir hw0
    clear hx0
    have jf := hid (fun w => hf x1 x0 w hw1 hw0)
    generalize f x1 x0 = z at jf ir
    clear hf
    go_enter Try.func98, Try.ntmps98
    go_wp2_with fail
    refine I1.out.mono ?_
    rintro e w1 ⟨rfl, rfl⟩
    go_wp2_with fail
    refine (j1.out 0).mono ?_
    rintro e w2 ⟨rfl, q1, hq1⟩
    rw [hq1]
    go_wp2_with fail
    refine (j0.out _).mono ?_
    rintro e w3 ⟨rfl, q2, hq2⟩
    have hb2 : Below w1.heap.size w1 w3 := by rw [hq2]; exact bel_trans (below_drewS _) (below_drewS q2)
    clear hq2 hq1
    have T2 := hid (T.out.belowS hb2)
    have HB2 := hid hb2
    clear hb2
    go_wp2_with fail
    refine (jf.out _).mono ?_
    rintro e w4 ⟨rfl, rfl⟩
    have i2 := hid ((T2.out.belowS (below_alloc1 w4 (.cells #[.int .i64 z] 3))).swap hl 2 2 rfl (by omega) [z] (some ⟨w4.heap.size, 0, none⟩) 1 1 rfl (by omega) (lit1V w4 z))
    go_wp2_with fail
    refine i2.out.mono ?_
    rintro e w5 ⟨rfl, F', ht, hg⟩
    have K := hid (And.intro ht hg)
    clear ht hg
    go_wp2_with fail
    go_ret
    rw [ir.out]
    exact ⟨F', rfl, K.out.1, ((Goes.of_below HB2.out).trans (Goes.of_below (below_alloc1 _ _))).trans K.out.2⟩
  · have ir : Hid (twoF f d = (E, d)) := hid (by have e0 : ¬ (fitsE d.stack.length 2 1 = 0) := (by rw [hE]; exact h0); rw [← hE]; exact if_neg e0)
    have y0 : (E != 0) = true := by simpa using h0
    clear hE h0 hf
    go_enter Try.func98, Try.ntmps98
    go_wp2_with fail
    refine I1.out.mono ?_
    rintro e w1 ⟨rfl, rfl⟩
    go_wp2_with fail
    go_ret
    rw [ir.out]
    exact DPost.same T.out rfl (Below.refl _ _)
theorem two_same (hf : ∀ (x y : Int) (w : World), InW x → InW y → Calls Try.prog 104 #[.int .i64 x, .int .i64 y] w fun e w' => e = .returned (.int .i64 ((fun x y => oneI (decide (x = y))) x y)) ∧ w' = w) (t : TickAt w F h g gs i cs pc ticks fault arg d) (hl : d.stack.length ≤ 100) (hst : ∀ x ∈ d.stack, InW x) :
    Calls Try.prog 98 #[.pointer (some ⟨h, 0, none⟩), .func (.func 104) #[] #[]] w (DPost F w h g gs i cs pc ticks fault arg (twoF (fun x y => oneI (decide (x = y))) d)) := by
  obtain ⟨f, hff⟩ : ∃ f : Int → Int → Int, (fun x y => oneI (decide (x = y))) = f := ⟨_, rfl⟩
  rw [hff] at hf ⊢
  clear hff
  have i1 := t.fits hl 2 1 2 1 rfl rfl (by omega) (by omega)
  have T := hid t
  obtain ⟨E, hE⟩ : ∃ E, fitsE d.stack.length 2 1 = E := ⟨_, rfl⟩
  rw [hE] at i1
  have I1 := hid i1
  clear i1 t
  by_cases h0 : E = 0
  · subst h0
    have hlen := (fits_ok hE).1
    have ir : Hid (twoF f d = (0, { d with stack := swapV d.stack 2 [f (topV d.stack 1) (topV d.stack 0)] })) := hid (if_pos hE)
    have hw1 := topV_in hst 1
    have hw0 := topV_in hst 0
    clear hE
    obtain ⟨x1, hx1⟩ : ∃ x, topV d.stack 1 = x := ⟨_, rfl⟩
    have j1 := hid (fun q => (T.out.drewN q).top hl 1 1 rfl (by omega))
    rw [hx1] at j1 ir hw1
    clear hx1
    obtain ⟨x0, hx0⟩ : ∃ x, topV d.stack 0 = x := ⟨_, rfl⟩
    have j0 := hid (fun q => (T.out.drewN q).top hl 0 0 rfl (by omega))
    rw [hx0] at j0 ir hw0
    clear hx0
    have jf := hid (fun w => hf x1 x0 w hw1 hw0)
    generalize f x1 x0 = z at jf ir
    clear hf
    go_enter Try.func98, Try.ntmps98
    go_wp2_with fail
    refine I1.out.mono ?_
    rintro e w1 ⟨rfl, rfl⟩
    go_wp2_with fail
    refine (j1.out 0).mono ?_
    rintro e w2 ⟨rfl, q1, hq1⟩
    rw [hq1]
    go_wp2_with fail
    refine (j0.out _).mono ?_
    rintro e w3 ⟨rfl, q2, hq2⟩
    have hb2 : Below w1.heap.size w1 w3 := by rw [hq2]; exact bel_trans (below_drewS _) (below_drewS q2)
    clear hq2 hq1
    have T2 := hid (T.out.belowS hb2)
    have HB2 := hid hb2
    clear hb2
    go_wp2_with fail
    refine (jf.out _).mono ?_
    rintro e w4 ⟨rfl, rfl⟩
    have i2 := hid ((T2.out.belowS (below_alloc1 w4 (.cells #[.int .i64 z] 3))).swap hl 2 2 rfl (by omega) [z] (some ⟨w4.heap.size, 0, none⟩) 1 1 rfl (by omega) (lit1V w4 z))
    go_wp2_with fail
    refine i2.out.mono ?_
    rintro e w5 ⟨rfl, F', ht, hg⟩
    have K := hid (And.intro ht hg)
    clear ht hg
    go_wp2_with fail
    go_ret
    rw [ir.out]
    exact ⟨F', rfl, K.out.1, ((Goes.of_below HB2.out).trans (Goes.of_below (below_alloc1 _ _))).trans K.out.2⟩
  · have ir : Hid (twoF f d = (E, d)) := hid (by have e0 : ¬ (fitsE d.stack.length 2 1 = 0) := (by rw [hE]; exact h0); rw [← hE]; exact if_neg e0)
    have y0 : (E != 0) = true := by simpa using h0
    clear hE h0 hf
    go_enter Try.func98, Try.ntmps98
    go_wp2_with fail
    refine I1.out.mono ?_
    rintro e w1 ⟨rfl, rfl⟩
    go_wp2_with fail
    go_ret
    rw [ir.out]
    exact DPost.same T.out rfl (Below.refl _ _)
theorem clo_add (x y : Int) (w : World) (hx : InW x) (hy : InW y) : Calls Try.prog 99 #[.int .i64 x, .int .i64 y] w fun e w' => e = .returned (.int .i64 (x + y)) ∧ w' = w := by
  obtain ⟨hx0, hx1⟩ := hx
  obtain ⟨hy0, hy1⟩ := hy
  go_enter Try.func99, Try.ntmps99
  go_wp2_with fail
  go_ret
  exact ⟨rfl, by first | trivial | rfl⟩
theorem clo_sub (x y : Int) (w : World) (hx : InW x) (hy : InW y) : Calls Try.prog 100 #[.int .i64 x, .int .i64 y] w fun e w' => e = .returned (.int .i64 (x - y)) ∧ w' = w := by
  obtain ⟨hx0, hx1⟩ := hx
  obtain ⟨hy0, hy1⟩ := hy
  go_enter Try.func100, Try.ntmps100
  go_wp2_with fail
  go_ret
  exact ⟨rfl, by first | trivial | rfl⟩
theorem clo_mul (x y : Int) (w : World) (hx : InW x) (hy : InW y) : Calls Try.prog 101 #[.int .i64 x, .int .i64 y] w fun e w' => e = .returned (.int .i64 (x * y)) ∧ w' = w := by
  obtain ⟨hx0, hx1⟩ := hx
  obtain ⟨hy0, hy1⟩ := hy
  have h1 : 0 ≤ x * y := Int.mul_nonneg hx0 hy0
  have h2 : x * y ≤ 65535 * 65535 := Int.mul_le_mul hx1 hy1 hy0 (by decide)
  have e1 : wrap64 (x * y) = x * y := IntWalk.wrap64_in _ ⟨by omega, by omega⟩
  go_enter Try.func101, Try.ntmps101
  go_wp2_with fail
  go_ret
  exact ⟨rfl, by first | trivial | rfl⟩
theorem one_any (b : Bool) (w : World) : Calls Try.prog 103 #[.bool b] w fun e w' => e = .returned (.int .i64 (oneI b)) ∧ w' = w := by
  cases b
  · go_enter Try.func103, Try.ntmps103
    go_wp2_with fail
    go_ret
    exact ⟨rfl, by first | trivial | rfl⟩
  · go_enter Try.func103, Try.ntmps103
    go_wp2_with fail
    go_ret
    exact ⟨rfl, by first | trivial | rfl⟩
theorem clo_less (x y : Int) (w : World) (hx : InW x) (hy : InW y) : Calls Try.prog 102 #[.int .i64 x, .int .i64 y] w fun e w' => e = .returned (.int .i64 (oneI (decide (x < y)))) ∧ w' = w := by
  obtain ⟨hx0, hx1⟩ := hx
  obtain ⟨hy0, hy1⟩ := hy
  go_enter Try.func102, Try.ntmps102
  go_wp2_with fail
  refine (one_any _ _).mono ?_
  rintro e w1 ⟨rfl, rfl⟩
  go_wp2_with fail
  go_ret
  exact ⟨rfl, by first | trivial | rfl⟩
theorem clo_same (x y : Int) (w : World) (hx : InW x) (hy : InW y) : Calls Try.prog 104 #[.int .i64 x, .int .i64 y] w fun e w' => e = .returned (.int .i64 (oneI (decide (x = y)))) ∧ w' = w := by
  obtain ⟨hx0, hx1⟩ := hx
  obtain ⟨hy0, hy1⟩ := hy
  have e0 : (x == y) = decide (x = y) := by by_cases hh : x = y <;> simp [hh]
  go_enter Try.func104, Try.ntmps104
  go_wp2_with fail
  refine (one_any _ _).mono ?_
  rintro e w1 ⟨rfl, rfl⟩
  go_wp2_with fail
  go_ret
  exact ⟨rfl, by first | trivial | rfl⟩
theorem deed_add (t : TickAt w F h g gs i cs pc ticks fault arg d) (hl : d.stack.length ≤ 100) (hst : ∀ x ∈ d.stack, InW x) :
    Calls Try.prog 70 #[.pointer (some ⟨h, 0, none⟩)] w (DPost F w h g gs i cs pc ticks fault arg (deedF i cs ticks 5 arg d)) := by
  show Calls _ _ _ _ (DPost F w h g gs i cs pc ticks fault arg (twoF (fun x y => x + y) d))
  have i1 := hid (two_add clo_add t hl hst)
  generalize twoF (fun x y => x + y) d = r at i1 ⊢
  clear t
  go_enter Try.func70, Try.ntmps70
  go_wp2_with fail
  refine i1.out.mono ?_
  rintro e w1 ⟨F', rfl, ht, hg⟩
  have K := hid (And.intro ht hg)
  clear ht hg
  go_wp2_with fail
  go_ret
  exact ⟨F', rfl, K.out.1, K.out.2⟩
theorem deed_sub (t : TickAt w F h g gs i cs pc ticks fault arg d) (hl : d.stack.length ≤ 100) (hst : ∀ x ∈ d.stack, InW x) :
    Calls Try.prog 71 #[.pointer (some ⟨h, 0, none⟩)] w (DPost F w h g gs i cs pc ticks fault arg (deedF i cs ticks 6 arg d)) := by
  show Calls _ _ _ _ (DPost F w h g gs i cs pc ticks fault arg (twoF (fun x y => x - y) d))
  have i1 := hid (two_sub clo_sub t hl hst)
  generalize twoF (fun x y => x - y) d = r at i1 ⊢
  clear t
  go_enter Try.func71, Try.ntmps71
  go_wp2_with fail
  refine i1.out.mono ?_
  rintro e w1 ⟨F', rfl, ht, hg⟩
  have K := hid (And.intro ht hg)
  clear ht hg
  go_wp2_with fail
  go_ret
  exact ⟨F', rfl, K.out.1, K.out.2⟩
theorem deed_mul (t : TickAt w F h g gs i cs pc ticks fault arg d) (hl : d.stack.length ≤ 100) (hst : ∀ x ∈ d.stack, InW x) :
    Calls Try.prog 72 #[.pointer (some ⟨h, 0, none⟩)] w (DPost F w h g gs i cs pc ticks fault arg (deedF i cs ticks 7 arg d)) := by
  show Calls _ _ _ _ (DPost F w h g gs i cs pc ticks fault arg (twoF (fun x y => x * y) d))
  have i1 := hid (two_mul clo_mul t hl hst)
  generalize twoF (fun x y => x * y) d = r at i1 ⊢
  clear t
  go_enter Try.func72, Try.ntmps72
  go_wp2_with fail
  refine i1.out.mono ?_
  rintro e w1 ⟨F', rfl, ht, hg⟩
  have K := hid (And.intro ht hg)
  clear ht hg
  go_wp2_with fail
  go_ret
  exact ⟨F', rfl, K.out.1, K.out.2⟩
theorem deed_less (t : TickAt w F h g gs i cs pc ticks fault arg d) (hl : d.stack.length ≤ 100) (hst : ∀ x ∈ d.stack, InW x) :
    Calls Try.prog 73 #[.pointer (some ⟨h, 0, none⟩)] w (DPost F w h g gs i cs pc ticks fault arg (deedF i cs ticks 8 arg d)) := by
  show Calls _ _ _ _ (DPost F w h g gs i cs pc ticks fault arg (twoF (fun x y => oneI (decide (x < y))) d))
  have i1 := hid (two_less clo_less t hl hst)
  generalize twoF (fun x y => oneI (decide (x < y))) d = r at i1 ⊢
  clear t
  go_enter Try.func73, Try.ntmps73
  go_wp2_with fail
  refine i1.out.mono ?_
  rintro e w1 ⟨F', rfl, ht, hg⟩
  have K := hid (And.intro ht hg)
  clear ht hg
  go_wp2_with fail
  go_ret
  exact ⟨F', rfl, K.out.1, K.out.2⟩
theorem deed_same (t : TickAt w F h g gs i cs pc ticks fault arg d) (hl : d.stack.length ≤ 100) (hst : ∀ x ∈ d.stack, InW x) :
    Calls Try.prog 74 #[.pointer (some ⟨h, 0, none⟩)] w (DPost F w h g gs i cs pc ticks fault arg (deedF i cs ticks 9 arg d)) := by
  show Calls _ _ _ _ (DPost F w h g gs i cs pc ticks fault arg (twoF (fun x y => oneI (decide (x = y))) d))
  have i1 := hid (two_same clo_same t hl hst)
  generalize twoF (fun x y => oneI (decide (x = y))) d = r at i1 ⊢
  clear t
  go_enter Try.func74, Try.ntmps74
  go_wp2_with fail
  refine i1.out.mono ?_
  rintro e w1 ⟨F', rfl, ht, hg⟩
  have K := hid (And.intro ht hg)
  clear ht hg
  go_wp2_with fail
  go_ret
  exact ⟨F', rfl, K.out.1, K.out.2⟩
end
end Go.Proofs.Ytidlahljhgglcaa
