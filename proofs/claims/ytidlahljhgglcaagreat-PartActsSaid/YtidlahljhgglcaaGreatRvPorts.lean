/-
  The reference of layer 17: instructions with a channel.
-/
import Derived.Test.YtidlahljhgglcaaGreatRvOps
import Derived.Test.YtidlahljhgglcaaGreatRvHas
namespace Go.Proofs.YtidlahljhgglcaaGreat
open Go.RowKit Go.ChangeShapes Go.WideShapes Go.ChangeAt

section
variable {w w' : World} {F : Nat → Prop} {h g gR : Nat} {i : ImgS} {cs : List ChanS} {pc ticks fault : Int} {d : VmD}
/-- Only the channels moved. -/
theorem RvTick.chans (t : RvTick w F h g gR i cs pc ticks fault d) {e0 : Ending} {ss' : Nat → WayS} {f : Nat} {args : Array Value} (hc : ∀ F2, RefAt w F2 gR cs (hL d.ss) → Calls Tryz.prog f args w (RPost F2 w gR cs e0 (hL ss'))) :
    Calls Tryz.prog f args w fun e w' => e = e0 ∧ ∃ F', RvTick w' F' h g gR i cs pc ticks fault { d with ss := ss' } ∧ Goes F w F' w' := by
  obtain ⟨a, Ao, cO, F2, m, r, hs, ha, hF⟩ := t
  refine (hc F2 hs).mono ?_
  rintro e w' ⟨F', rfl, hS, hG⟩
  have hm : ∀ b, MachF g a b → w'.heap[b]? = w.heap[b]? := fun b hb => hG.apart.block b (m.lt hb) (fun hf => (ha b hf).1 hb)
  have hr : ∀ b, RunF h Ao b → w'.heap[b]? = w.heap[b]? := fun b hb => hG.apart.block b (r.lt hb) (fun hf => (ha b hf).2 hb)
  have r' := r.keep hr
  refine ⟨rfl, fun b => MachF g a b ∨ RunF h Ao b ∨ F' b, ⟨a, Ao, cO, F', m.keep hm, ⟨r'.blk, r'.out⟩, hS, fun b hb => ?_, fun b => Iff.rfl⟩, Goes.iff_ hF ⟨⟨hG.apart.os, hG.apart.tape, hG.apart.output, hG.apart.size, fun b hb hf => hG.apart.block b hb (fun h9 => hf (.inr (.inr h9)))⟩, fun b hb => ?_⟩⟩
  · rcases hG.foot b hb with h9 | h9
    · exact ha b h9
    · exact ⟨fun hf => by have := m.lt hf; omega, fun hf => by have := r.lt hf; omega⟩
  · rcases hb with hb | hb | hb
    · exact .inl (.inl hb)
    · exact .inl (.inr (.inl hb))
    · exact (hG.foot b hb).imp_left fun h9 => .inr (.inr h9)
/-- Only the machine moved. -/
theorem RvTick.act (t : RvTick w F h g gR i cs pc ticks fault d) {e0 : Ending} {d' : VmD} {pc' ticks' fault' : Int} {f : Nat} {args : Array Value} (hs : d'.sent = d.sent) (hcf : d'.conf = d.conf) (hss : d'.ss = d.ss)
    (hc : ∀ F1, RvAt w F1 g i (machS pc ticks fault d) → Calls Tryz.prog f args w (MPost F1 w g i e0 (machS pc' ticks' fault' d'))) :
    Calls Tryz.prog f args w fun e w' => e = e0 ∧ ∃ F', RvTick w' F' h g gR i cs pc' ticks' fault' d' ∧ Goes F w F' w' := by
  obtain ⟨a, Ao, cO, F2, m, r, hR, ha, hF⟩ := t
  refine (hc _ m.at_).mono ?_
  rintro e w' ⟨F1', rfl, hm, hg⟩
  refine ⟨rfl, ?_⟩
  obtain ⟨a', m', hF'⟩ := hm
  have hm1 : ∀ b, MachF g a' b → MachF g a b ∨ w.heap.size ≤ b := fun b hb => hg.foot b ((hF' b).2 hb)
  have r' : OutIn w' h Ao cO d' := by
    have := r.keep (w' := w') fun b hb => hg.apart.block b (r.lt hb) (r.apart m hb)
    refine ⟨?_, ?_⟩
    · rw [hs, hcf]; exact this.blk
    · rw [hs]; exact this.out
  refine ⟨fun b => MachF g a' b ∨ RunF h Ao b ∨ F2 b, ⟨a', Ao, cO, F2, m', r', ?_, fun b hb => ⟨fun hf => ?_, (ha b hb).2⟩, fun b => Iff.rfl⟩, Goes.iff_ hF ⟨⟨hg.apart.os, hg.apart.tape, hg.apart.output, hg.apart.size, fun b hb hF => hg.apart.block b hb (fun hf => hF (.inl hf))⟩, fun b hb => ?_⟩⟩
  · rw [hss]
    exact hR.apart hg.apart fun b hb => (ha b hb).1
  · rcases hm1 b hf with h6 | h6
    · exact (ha b hb).1 h6
    · have := hR.lt hb; omega
  · rcases hb with hb | hb
    · exact (hm1 b hb).imp_left .inl
    · exact .inl (.inr hb)
/-- A message more that was sent. -/
theorem RvTick.more {a : VmA} {Ao : Option Addr} {cO : Nat} {F2 : Nat → Prop} {w1 w2 : World} (m : RvIn w g i a (machS pc ticks fault d)) (r : OutIn w h Ao cO d) (hs : RefAt w F2 gR cs (hL d.ss)) (ha : ∀ b, F2 b → ¬ MachF g a b ∧ ¬ RunF h Ao b) (hF : ∀ b, F b ↔ MachF g a b ∨ RunF h Ao b ∨ F2 b)
    (hb : Below w.heap.size w w1) {A' : Option Addr} {N c' : Nat} {x y : Int} (hN : d.sent.length + 1 = N) (hown : w2.ownsRow 0 116 2 (.slice A' N c') N (d.sent.flatMap sentC ++ [iV x, iV y])) (hg : w1.grownBy w2 (Value.slice Ao d.sent.length cO).ownBlock)
    (hA : (Value.slice A' N c').ownBlock = (Value.slice Ao d.sent.length cO).ownBlock ∨ (Value.slice A' N c').ownBlock = some w1.heap.size) :
    ∃ F', RvTick (w2.setCell ⟨h, 0, none⟩ (.slice A' N c')) F' h g gR i cs pc ticks fault { d with sent := d.sent ++ [(x, y)] } ∧ Goes F w F' (w2.setCell ⟨h, 0, none⟩ (.slice A' N c')) := by
  subst hN
  have hf' : ∀ b, Foot A' b → Foot Ao b ∨ w.heap.size ≤ b := fun b hb9 => by
    have h9 := ownBlock_foot (n := d.sent.length + 1) (c := c').2 hb9
    rcases hA with e | e
    · rw [e] at h9; exact .inl (ownBlock_foot.1 h9)
    · rw [e] at h9
      injection h9 with h9
      have := hb.size
      exact .inr (by omega)
  have hold : ∀ b, b < w.heap.size → ¬ Foot Ao b → b ≠ h → (w2.setCell ⟨h, 0, none⟩ (.slice A' (d.sent.length + 1) c')).heap[b]? = w.heap[b]? := fun b hl hno hne =>
    (Below.heap_setCell _ _ _ _ hne).trans ((hg.block b (Nat.lt_of_lt_of_le hl hb.size) (fun e => hno (ownBlock_foot.1 e.symm))).trans (hb.block b hl))
  have hh2 : Blk w2 h 59 [.slice Ao d.sent.length cO, .bool d.conf] := (hg.block h (Nat.lt_of_lt_of_le r.blk.lt hb.size) (fun e => r.off (ownBlock_foot.1 e.symm))).trans ((hb.block h r.blk.lt).trans r.blk)
  have hsz : w.heap.size ≤ (w2.setCell ⟨h, 0, none⟩ (.slice A' (d.sent.length + 1) c')).heap.size := by
    have h1 := hb.size
    have h2 := hg.size
    simp [World.setCell]
    omega
  have hnh : ¬ Foot A' h := fun hf => (own_ty hown hf).ne_ hh2.ty (by decide) rfl
  refine ⟨fun b => MachF g a b ∨ RunF h A' b ∨ F2 b, ⟨a, A', c', F2, ?_, ⟨?_, ?_⟩, ?_, fun b h2 => ⟨(ha b h2).1, ?_⟩, fun b => Iff.rfl⟩, Goes.iff_ hF ⟨⟨hg.os.trans hb.os, hg.tape.trans hb.tape, hg.output.trans hb.output, hsz, fun b hl hn => hold b hl (fun hf => hn (.inr (.inl (.inr hf)))) (fun e => hn (.inr (.inl (.inl e))))⟩, fun b h2 => ?_⟩⟩
  · exact m.keep fun b h2 => hold b (m.lt h2) (fun hf => r.apart m (.inr hf) h2) (fun e => r.apart m (.inl e) h2)
  · have := hh2.set_ 0 (.slice A' (d.sent.length + 1) c')
    rw [show ({ d with sent := d.sent ++ [(x, y)] } : VmD).sent.length = d.sent.length + 1 by simp]
    exact this
  · have e : ({ d with sent := d.sent ++ [(x, y)] } : VmD).sent.flatMap sentC = d.sent.flatMap sentC ++ [iV x, iV y] := by simp [sentC]
    rw [e, show ({ d with sent := d.sent ++ [(x, y)] } : VmD).sent.length = d.sent.length + 1 by simp]
    exact own_keep hown fun b h2 => Below.heap_setCell _ _ _ _ (fun e => hnh (by subst e; exact h2))
  · exact hs.keep hsz fun b h2 => hold b (hs.lt h2) (fun hf => (ha b h2).2 (.inr hf)) (fun e => (ha b h2).2 (.inl e))
  · rintro (h3 | h3)
    · exact (ha b h2).2 (.inl h3)
    · rcases hf' b h3 with h4 | h4
      · exact (ha b h2).2 (.inr h4)
      · have := hs.lt h2; omega
  · rcases h2 with h2 | h2 | h2
    · exact .inl (.inl h2)
    · rcases h2 with h2 | h2
      · exact .inl (.inr (.inl (.inl h2)))
      · exact (hf' b h2).imp_left fun h9 => .inr (.inl (.inr h9))
    · exact .inl (.inr (.inr h2))
theorem field_told0 (v0 v1 v2 : Value) (w : World) : (Instr.field 71 (.agg #[v0, v1, v2]) 2).run Tryz.prog w = .ok v2 w := by kernel_rfl
/-- What an instruction with a channel leaves. -/
def PPost (F : Nat → Prop) (w : World) (h g gR : Nat) (i : ImgS) (cs : List ChanS) (pc ticks fault : Int) (r : Int × VmD) (e : Ending) (w' : World) : Prop :=
  ∃ F', e = .returned (.int .i64 r.1) ∧ RvTick w' F' h g gR i cs pc ticks fault r.2 ∧ Goes F w F' w'
def portR (i : ImgS) (cs : List ChanS) (o k : Nat) (d : VmD) : Int × VmD :=
  if o = 14 then
    (if (sendP cs d.ss i.part k (topV d.stack 0)).2.1 = 0 then (0, { d with stack := d.stack.take (d.stack.length - 1), sent := d.sent ++ [((k : Int), topV d.stack 0)], ss := (sendP cs d.ss i.part k (topV d.stack 0)).2.2 }) else (15, d))
  else
    (if (getP cs d.ss i.part k).2.2.1 = 0 then (0, { d with stack := d.stack ++ (if (getP cs d.ss i.part k).2.1 then [w65 (getP cs d.ss i.part k).1, w65 1] else [w65 0]), ss := (getP cs d.ss i.part k).2.2.2 }) else (15, d))
set_option maxRecDepth 100000 in
set_option maxHeartbeats 4000000 in
theorem rvSend (t : RvTick w F h g gR i cs pc ticks fault d) (hl : 0 < d.stack.length) (hl2 : d.stack.length ≤ 90) (hK : KAll cs d.ss) (hd : ∀ k, k < cs.length → depthAt cs k ≤ 4) (hsn : d.sent.length ≤ 1000) (k : Nat) :
    Calls Tryz.prog 54 #[.pointer (some ⟨g, 0, none⟩), insV 14 (k : Int), .pointer (some ⟨gR, 0, none⟩), .pointer (some ⟨h, 0, none⟩)] w (PPost F w h g gR i cs pc ticks fault (portR i cs 14 k d)) := by
  obtain ⟨w1, hw1, hb1, hB, hs1⟩ := ins_in 14 (k : Int) w
  have x0 : w1.cell? ⟨w.heap.size, 0, none⟩ = some (.int .i64 14) := hB.cellAt rfl
  have x1 : w1.cell? ⟨w.heap.size, 1, none⟩ = some (.int .i64 (k : Int)) := hB.cellAt rfl
  have T1 := hid (t.belowS hb1)
  have G1 := hid (Goes.of_below (F := F) hb1)
  have HB := hid hB
  have HN : Hid (¬ F w.heap.size) := hid (fun h9 => by have := t.lt h9; omega)
  have HL : Hid (w.heap.size < w1.heap.size) := hid (by omega)
  obtain ⟨a, Ao, cO, F2, m, r, hR, ha, hF⟩ := T1.out
  obtain ⟨n, hn⟩ : ∃ n, d.stack.length = n + 1 := ⟨d.stack.length - 1, by omega⟩
  obtain ⟨gs, hAs, _⟩ := m.st.form hl
  have y9 : w1.cell? ⟨g, 9, none⟩ = some (.slice (some ⟨gs, 0, none⟩) (n + 1) a.cS) := by rw [← hAs, ← hn]; exact m.blk.cellAt rfl
  have y0 : w1.cell? ⟨g, 0, none⟩ = some (.int .i64 i.part) := m.blk.cellAt rfl
  have hst := m.st
  rw [hAs] at hst
  have yt : w1.cell? ⟨gs, n, none⟩ = some (.int .i64 (topV d.stack 0)) := hst.cell (by
    show (d.stack.map iV)[n]? = _
    unfold topV
    rw [List.getElem?_map, hn, show n + 1 - 1 - 0 = n by omega, List.getD_eq_getElem?_getD, List.getElem?_eq_getElem (by omega)]
    rfl)
  obtain ⟨x, hx⟩ : ∃ x, topV d.stack 0 = x := ⟨_, rfl⟩
  have iS := hid (fun W (tW : RvTick W F h g gR i cs pc ticks fault d) => tW.chans fun F2 hs => sendR_any hs hK hd i.part (k : Int) x)
  obtain ⟨R, hR9⟩ : ∃ R, sendP cs d.ss i.part (k : Int) x = R := ⟨_, rfl⟩
  have hsame : R.2.1 ≠ 0 → R.2.2 = d.ss := fun hne => by rw [← hR9] at hne ⊢; exact sendP_same _ _ _ _ _ hne
  have ir : Hid (portR i cs 14 k d = if R.2.1 = 0 then (0, { d with stack := d.stack.take (d.stack.length - 1), sent := d.sent ++ [((k : Int), x)], ss := R.2.2 }) else (15, d)) := hid (by
    rw [← hR9, ← hx]
    rfl)
  rw [hR9] at iS
  rw [hx] at yt
  obtain ⟨bR, ER, ssR⟩ := R
  simp only at iS hsame ir
  unfold toldV at iS
  have hfl := field_told0
  have z0 : (0 : Int) ≤ (n : Int) := Int.natCast_nonneg _
  have z1 : (n : Int) < (n : Int) + 1 := by omega
  have z2 : IntKind.i64.wrap ((n : Int) + 1 - 1) = (n : Int) := by rw [IntWalk.i64_in _ (by omega)]; omega
  have z3 : IntKind.i64.wrap (n : Int) = (n : Int) := IntWalk.i64_in _ (by omega)
  have HST : Hid (d.stack.length = n + 1) := hid hn
  have iP := hid (fun W F' ss' (tW : RvTick W F' h g gR i cs pc ticks fault { d with ss := ss' }) => tW.act (d' := { d with ss := ss', stack := d.stack.take (d.stack.length - 1) }) (pc' := pc) (ticks' := ticks) (fault' := fault) rfl rfl rfl fun F1 h1 => rvPop h1 (show 0 < d.stack.length from hl) (show d.stack.length ≤ 100 by omega))
  clear hx hR9 hb1 hB hs1 t m r hR ha hF hst hAs hK hd hn
  unfold insV
  go_enter Tryz.func54, Tryz.ntmps54
  go_wp2_with fail
  go_quiet (fail)
  go_wp2_with fail
  obtain ⟨w2, hw2⟩ : ∃ W, w1.drewN nq = W := ⟨_, rfl⟩
  have hk2 : ∀ b : Nat, w2.heap[b]? = w1.heap[b]? := fun b => by rw [← hw2]; rfl
  have hb2 : Below w1.heap.size w1 w2 := by rw [← hw2]; exact below_drewS nq
  rw [hw2]
  have T2 := hid (T1.out.belowS hb2)
  have G2 := hid (G1.out.trans (Goes.of_below (F := F) hb2))
  have HL2 : Hid (w.heap.size < w2.heap.size) := hid (Nat.lt_of_lt_of_le HL.out hb2.size)
  have u0 : w2.cell? ⟨g, 0, none⟩ = some (.int .i64 i.part) := (World.cell?_of_block (hk2 g)).trans y0
  have u1 : w2.cell? ⟨w.heap.size, 1, none⟩ = some (.int .i64 (k : Int)) := (World.cell?_of_block (hk2 _)).trans x1
  clear hw2 hk2 hb2 x0 x1 y9 y0 yt z0 z1 z2 z3
  go_still_tail 9, (by kernel_rfl)
  go_wp2_with fail
  refine (iS.out _ (T2.out.belowS (bel_drewV (Below.refl _ _)))).mono ?_
  rintro e w3 ⟨rfl, F3, ht, hg⟩
  have k3 := hg.keeps (b := w.heap.size) HL2.out HN.out
  have v1 : w3.cell? ⟨w.heap.size, 1, none⟩ = some (.int .i64 (k : Int)) := (World.cell?_of_block k3.1).trans u1
  have T3 := hid ht
  have G3 := hid ((G2.out.trans (Goes.of_below (bel_drewV (Below.refl _ _)))).trans hg)
  have K3 := hid k3
  clear ht hg k3 iS u0 u1
  by_cases hE0 : ER = 0
  case neg =>
    rw [if_neg hE0] at ir
    have hs := hsame hE0
    subst hs
    have y2 : (ER != 0) = true := by simpa using hE0
    clear hE0 hsame
    go_wp2_with fail
    go_ret
    rw [ir.out]
    exact ⟨F3, rfl, T3.out, G3.out⟩
  subst hE0
  rw [if_pos rfl] at ir
  clear hsame
  go_wp2_with fail
  refine (iP.out _ _ _ T3.out).mono ?_
  rintro e w4 ⟨rfl, F4, ht, hg⟩
  have k4 := hg.keeps K3.out.2.2 K3.out.2.1
  have v1' : w4.cell? ⟨w.heap.size, 1, none⟩ = some (.int .i64 (k : Int)) := (World.cell?_of_block k4.1).trans v1
  have T4 := hid ht
  have G4 := hid (G3.out.trans hg)
  clear ht hg v1 iP
  obtain ⟨i0, hi0, hz0, hz1, hz2⟩ := info_parts info_sentV
  obtain ⟨a4, Ao4, cO4, F24, m4, r4, hs4, ha4, hF4⟩ := T4.out
  have z4 : w4.cell? ⟨h, 0, none⟩ = some (.slice Ao4 d.sent.length cO4) := r4.blk.cellAt rfl
  have M4 := hid m4
  have R4 := hid r4
  have S4 := hid hs4
  have A4 := hid ha4
  have F4' := hid hF4
  clear m4 r4 hs4 ha4 hF4 k4
  go_wp2_with fail
  have HO4 : Hid (∀ o, (w4.alloc o).ownsRow 0 116 2 (.slice Ao4 d.sent.length cO4) d.sent.length (d.sent.flatMap sentC)) := hid (fun o => own_keep R4.out.out (fun b hb => Below.heap_alloc _ _ _ (own_lt R4.out.out hb)))
  have HN4 : Hid (Reads (w4.alloc (.cells #[.int .i64 (k : Int), .int .i64 x] 116)) (w4.heap.size + 1) 2 (some ⟨w4.heap.size, 0, none⟩) 1 [iV (k : Int), iV x]) := hid ((Reads.lit (n := 1) (size := 2) (heap_alloc_new w4 (.cells #[.int .i64 (k : Int), .int .i64 x] 116)) rfl).more (by simp))
  have t2a := (fun o => cell_alloc v1' o)
  have t4a := (fun o => cell_alloc z4 o)
  go_region_law (first
    | (refine step_app3 _ (by rfl) _ _ _ (by rfl) 0 116 i0 _ 2 16 Tryz.underlying50 hi0 hz0 hz1 hz2 rfl (by decide) (.slice Ao4 d.sent.length cO4) d.sent.length (d.sent.flatMap sentC) (by rfl) (by first | exact HO4.out _ | exact (own_keep (HO4.out _) (fun _ _ => rfl))) (w4.heap.size + 1) (some ⟨w4.heap.size, 0, none⟩) 1 1 [iV (k : Int), iV x] (by rfl) (by first | exact HN4.out | exact HN4.out.drew) (by simp [Value.oneCell', iV]) (by simp [maxLen]; omega) (by omega) (Nat.zero_le _) (d.sent.length + 1) rfl ?_; intro A' c' w5 hown5 hg5 hA5; have hg5' : (w4.alloc (.cells #[.int .i64 (k : Int), .int .i64 x] 116)).grownBy w5 (Value.slice Ao4 d.sent.length cO4).ownBlock := (by first | exact hg5 | exact ⟨hg5.os, hg5.tape, hg5.output, hg5.size, hg5.block⟩); have hblk5 : Blk w5 h 59 [.slice Ao4 d.sent.length cO4, .bool d.conf] := ((hg5'.block h (by have := R4.out.blk.lt; simp; omega) (fun e => R4.out.off (ownBlock_foot.1 e.symm))).trans ((Below.heap_alloc _ _ _ R4.out.blk.lt).trans R4.out.blk)); have hown5' := hid hown5; have HG5 := hid hg5'; have HA5 := hid hA5; have y4 : w5.cell? ⟨h, 0, none⟩ = some (.slice Ao4 d.sent.length cO4) := hblk5.cellAt rfl; have yf := hblk5.frozen 0; clear hown5 hg5 hA5 hg5' hblk5))
  all_goals
    obtain ⟨F6, ht6, hg6⟩ := RvTick.more (d := { d with ss := ssR, stack := d.stack.take (d.stack.length - 1) }) (x := (k : Int)) (y := x) M4.out R4.out S4.out A4.out F4'.out (below_alloc1 w4 _) rfl hown5'.out HG5.out HA5.out
    have K6 := hid (And.intro ht6 hg6)
    clear ht6 hg6 t2a t4a z4 y4 yf
    go_wp2_with fail
    go_ret
    rw [ir.out]
    exact ⟨F6, rfl, K6.out.1, G4.out.trans K6.out.2⟩
set_option maxRecDepth 100000 in
set_option maxHeartbeats 4000000 in
theorem rvGet (t : RvTick w F h g gR i cs pc ticks fault d) (hl2 : d.stack.length ≤ 90) (hK : KAll cs d.ss) (k : Nat) :
    Calls Tryz.prog 54 #[.pointer (some ⟨g, 0, none⟩), insV 15 (k : Int), .pointer (some ⟨gR, 0, none⟩), .pointer (some ⟨h, 0, none⟩)] w (PPost F w h g gR i cs pc ticks fault (portR i cs 15 k d)) := by
  obtain ⟨w1, hw1, hb1, hB, hs1⟩ := ins_in 15 (k : Int) w
  have x0 : w1.cell? ⟨w.heap.size, 0, none⟩ = some (.int .i64 15) := hB.cellAt rfl
  have x1 : w1.cell? ⟨w.heap.size, 1, none⟩ = some (.int .i64 (k : Int)) := hB.cellAt rfl
  have T1 := hid (t.belowS hb1)
  have G1 := hid (Goes.of_below (F := F) hb1)
  have HN : Hid (¬ F w.heap.size) := hid (fun h9 => by have := t.lt h9; omega)
  have HL : Hid (w.heap.size < w1.heap.size) := hid (by omega)
  obtain ⟨a, Ao, cO, F2, m, r, hR, ha, hF⟩ := T1.out
  have y0 : w1.cell? ⟨g, 0, none⟩ = some (.int .i64 i.part) := m.blk.cellAt rfl
  have iS := hid (fun W (tW : RvTick W F h g gR i cs pc ticks fault d) => tW.chans fun F2 hs => getR_any hs hK i.part (k : Int))
  obtain ⟨R, hR9⟩ : ∃ R, getP cs d.ss i.part (k : Int) = R := ⟨_, rfl⟩
  have hsame : R.2.2.1 ≠ 0 → R.2.2.2 = d.ss := fun hne => by rw [← hR9] at hne ⊢; exact getP_same _ _ _ _ hne
  have ir : Hid (portR i cs 15 k d = if R.2.2.1 = 0 then (0, { d with stack := d.stack ++ (if R.2.1 then [w65 R.1, w65 1] else [w65 0]), ss := R.2.2.2 }) else (15, d)) := hid (by
    rw [← hR9]
    rfl)
  rw [hR9] at iS
  obtain ⟨nR, bR, ER, ssR⟩ := R
  simp only at iS hsame ir
  unfold toldV at iS
  have iS2 : Hid (∀ W, Below w1.heap.size w1 W → Calls Tryz.prog 84 #[.pointer (some ⟨gR, 0, none⟩), .int .i64 i.part, .int .i64 (k : Int)] W fun e w3 => e = .returned (.agg #[.int .i64 nR, .bool bR, .int .i64 ER]) ∧ ∃ F3, RvTick w3 F3 h g gR i cs pc ticks fault { d with ss := ssR } ∧ Goes F w F3 w3 ∧ w3.cell? ⟨g, 0, none⟩ = some (.int .i64 i.part) ∧ w3.cell? ⟨w.heap.size, 1, none⟩ = some (.int .i64 (k : Int)) ∧ ∀ b, w1.heap.size ≤ b → b < W.heap.size → w3.heap[b]? = W.heap[b]? ∧ ¬ F3 b ∧ b < w3.heap.size) := hid (fun W hb => (iS.out W (T1.out.belowS hb)).mono (by
    rintro e w3 ⟨rfl, F3, ht, hg⟩
    have ht0 := ht
    obtain ⟨a3, _, _, _, m3, _⟩ := ht0
    have hk := hg.keeps (b := w.heap.size) (Nat.lt_of_lt_of_le HL.out hb.size) HN.out
    refine ⟨rfl, F3, ht, (G1.out.trans (Goes.of_below hb)).trans hg, m3.blk.cellAt rfl, (World.cell?_of_block (hk.1.trans (hb.block _ HL.out))).trans x1, fun b h1 h2 => hg.keeps h2 (fun h9 => ?_)⟩
    have := T1.out.lt h9
    omega))
  have iP := hid (fun W F' st' x (hst : st'.length ≤ 100) (tW : RvTick W F' h g gR i cs pc ticks fault { d with ss := ssR, stack := st' }) => tW.act (d' := { d with ss := ssR, stack := st' ++ [w65 x] }) (pc' := pc) (ticks' := ticks) (fault' := fault) rfl rfl rfl fun F1 h1 => rvPush h1 hst x)
  have n1 : g ≠ w1.heap.size := fun e => by have := m.blk.lt; omega
  have n2 : w1.heap.size ≠ g := n1.symm
  have n3 : w.heap.size ≠ w1.heap.size := by omega
  have n4 : w1.heap.size ≠ w.heap.size := n3.symm
  clear hR9 hb1 hB hs1 t m r hR ha hF hK
  unfold insV
  go_enter Tryz.func54, Tryz.ntmps54
  go_wp2_with fail
  go_region_held3 (fun w' => w'.cell? ⟨g, 0, none⟩ = some (.int .i64 i.part) ∧ w'.cell? ⟨w.heap.size, 1, none⟩ = some (.int .i64 (k : Int))) (go_keep)
    (first
      | (go_at_call 84; refine (iS2.out _ ?_).mono ?_; (first | exact Below.refl _ _ | exact bel_drewV (Below.refl _ _) | exact below_alloc1 _ _ | exact bel_drewV (below_alloc1 _ _)); rintro e w3 ⟨rfl, F3, ht, hg, v0, v1, hnb⟩; have T3 := hid ht; have G3 := hid hg; (try (have hbx : Blk w3 w1.heap.size 71 [.int .i64 0, .bool false, .int .i64 0] := (hnb w1.heap.size (Nat.le_refl _) (by first | simp | (show _ < (w1.alloc _).heap.size; simp))).1.trans (heap_alloc_new w1 _); have p0 : w3.cell? ⟨w1.heap.size, 0, none⟩ = some (.int .i64 0) := hbx.cellAt rfl; have p1 : w3.cell? ⟨w1.heap.size, 1, none⟩ = some (.bool false) := hbx.cellAt rfl; have p2 : w3.cell? ⟨w1.heap.size, 2, none⟩ = some (.int .i64 0) := hbx.cellAt rfl; have pf := hbx.frozen; have HBX := hid hbx; have HNF := hid (hnb w1.heap.size (Nat.le_refl _) (by first | simp | (show _ < (w1.alloc _).heap.size; simp))).2; clear hbx)); have n5 : g ≠ w3.heap.size := (fun e => absurd (World.block_lt_of_cell? w3 _ v0) (by simp [e])); have n6 := n5.symm; have n7 : w.heap.size ≠ w3.heap.size := (fun e => absurd (World.block_lt_of_cell? w3 _ v1) (by simp [e])); have n8 := n7.symm; clear ht hg hnb))
  all_goals
    first
      | (obtain ⟨y, w4, hy, hw4, ht, hg, hb4⟩ : ∃ y w4, w3.heap.size = y ∧ w3.alloc (.cells #[.int .i64 nR, .bool bR, .int .i64 ER] 71) = w4 ∧ RvTick w4 F3 h g gR i cs pc ticks fault { d with ss := ssR } ∧ Goes F w F3 w4 ∧ Blk w4 y 71 [.int .i64 nR, .bool bR, .int .i64 ER] := ⟨_, _, rfl, rfl, T3.out.belowS (below_alloc1 _ _), G3.out.trans (Goes.of_below (below_alloc1 _ _)), Blk.new _ _ [.int .i64 nR, .bool bR, .int .i64 ER]⟩
         rw [hw4, hy]
         clear hw4 hy)
      | (obtain ⟨y, w4, hy, hw4, ht, hg, hb4⟩ : ∃ y w4, w1.heap.size = y ∧ ((w3.setCell ⟨w1.heap.size, 0, none⟩ (.int .i64 nR)).setCell ⟨w1.heap.size, 1, none⟩ (.bool bR)).setCell ⟨w1.heap.size, 2, none⟩ (.int .i64 ER) = w4 ∧ RvTick w4 F3 h g gR i cs pc ticks fault { d with ss := ssR } ∧ Goes F w F3 w4 ∧ Blk w4 y 71 [.int .i64 nR, .bool bR, .int .i64 ER] :=
           ⟨_, _, rfl, rfl, T3.out.keep (by simp [World.setCell]) (fun b hb => have hne : b ≠ w1.heap.size := (fun e => HNF.out.1 (by rw [← e]; exact hb)); (Below.heap_setCell _ ⟨w1.heap.size, 2, none⟩ _ _ hne).trans ((Below.heap_setCell _ ⟨w1.heap.size, 1, none⟩ _ _ hne).trans (Below.heap_setCell _ ⟨w1.heap.size, 0, none⟩ _ _ hne))), ⟨((G3.out.apart.setCell (p := ⟨w1.heap.size, 0, none⟩) (.inr (Nat.le_of_lt HL.out)) _).setCell (p := ⟨w1.heap.size, 1, none⟩) (.inr (Nat.le_of_lt HL.out)) _).setCell (p := ⟨w1.heap.size, 2, none⟩) (.inr (Nat.le_of_lt HL.out)) _, G3.out.foot⟩, ((HBX.out.set_ 0 _).set_ 1 _).set_ 2 _⟩
         rw [hw4, hy]
         clear hw4 hy)
    have q0 : w4.cell? ⟨y, 0, none⟩ = some (.int .i64 nR) := hb4.cellAt rfl
    have q1 : w4.cell? ⟨y, 1, none⟩ = some (.bool bR) := hb4.cellAt rfl
    have q2 : w4.cell? ⟨y, 2, none⟩ = some (.int .i64 ER) := hb4.cellAt rfl
    have T4 := hid ht
    have G4 := hid hg
    clear ht hg hb4 n1 n2 n3 n4 n5 n6 n7 n8 v0 v1 y0 x0 x1
    by_cases hE0 : ER = 0
    case neg =>
      rw [if_neg hE0] at ir
      have hs := hsame hE0
      subst hs
      have y2 : (ER != 0) = true := by simpa using hE0
      clear hE0 hsame
      go_wp2_with fail
      go_ret
      rw [ir.out]
      exact ⟨F3, rfl, T4.out, G4.out⟩
    subst hE0
    rw [if_pos rfl] at ir
    clear hsame
    cases bR with
    | false =>
      rw [if_neg (by decide)] at ir
      go_wp2_with fail
      refine (iP.out _ _ d.stack 0 (by omega) T4.out).mono ?_
      rintro e w5 ⟨rfl, F5, ht, hg⟩
      have T5 := hid ht
      have G5 := hid (G4.out.trans hg)
      clear ht hg iP
      go_wp2_with fail
      go_ret
      rw [ir.out]
      exact ⟨F5, rfl, T5.out, G5.out⟩
    | true =>
      rw [if_pos rfl] at ir
      go_wp2_with fail
      refine (iP.out _ _ d.stack nR (by omega) T4.out).mono ?_
      rintro e w5 ⟨rfl, F5, ht, hg⟩
      have T5 := hid ht
      have G5 := hid (G4.out.trans hg)
      clear ht hg
      go_wp2_with fail
      refine (iP.out _ _ (d.stack ++ [w65 nR]) 1 (by simp; omega) T5.out).mono ?_
      rintro e w6 ⟨rfl, F6, ht, hg⟩
      have T6 := hid ht
      have G6 := hid (G5.out.trans hg)
      clear ht hg iP
      go_wp2_with fail
      go_ret
      rw [ir.out]
      refine ⟨F6, rfl, ?_, G6.out⟩
      have := T6.out
      rw [List.append_assoc] at this
      exact this
end
end Go.Proofs.YtidlahljhgglcaaGreat
