/-
  A tick of the reference of layer 17.
-/
import Derived.Test.YtidlahljhgglcaaGreatRvStep
import Derived.Test.YtidlahljhgglcaaGreatRvOpAt
import Derived.Test.YtidlahljhgglcaaGreatVmTick
import Derived.Deep.CutBlock
namespace Go.Proofs.YtidlahljhgglcaaGreat
open Go.RowKit Go.ChangeShapes Go.WideShapes Go.ChangeAt

section
variable {w w' : World} {F F1 F2 : Nat → Prop} {h g gR : Nat} {i : ImgS} {a : VmA} {s : VmS} {cs : List ChanS} {ss : Nat → WayS} {pc ticks fault : Int} {Ao : Option Addr} {cO : Nat} {d : VmD}
theorem rvTick_fault (hM : RvAt w F g i s) (hf : s.fault ≠ 0) (p : Value) : Calls Tryz.prog 34 #[.pointer (some ⟨g, 0, none⟩), p] w fun e w' => e = .returned (outV none 0 0 false) ∧ Below w.heap.size w w' := by
  obtain ⟨a, m, _⟩ := hM
  have c0 : w.cell? ⟨g, 12, none⟩ = some (.int .i64 s.fault) := m.blk.cellAt rfl
  have d0 := fun o o' => cell_alloc (cell_alloc c0 o) o'
  have y0 : (s.fault != 0) = true := by simpa using hf
  generalize s.fault = f at *
  clear m hf
  go_enter Tryz.func34, Tryz.ntmps34
  go_wp2_with fail
  go_returns
  exact ⟨rfl, bel_alloc ((Below.refl w.heap.size w).alloc (Nat.le_refl _) _) _⟩
/-- Where the loop of a tick begins. -/
theorem rvTick_start (hM : RvAt w F1 g i s) (hS : RefAt w F2 gR cs (hL ss)) (hdis : ∀ b, F1 b → ¬ F2 b) (hb : Below w.heap.size w w') (hH : Blk w' h 59 [.slice none 0 0, .bool false]) (hh : w.heap.size ≤ h) :
    RvTick w' (fun b => F1 b ∨ F2 b ∨ b = h) h g gR i cs s.pc s.ticks s.fault (startD s ss) := by
  obtain ⟨a, m, hF1⟩ := hM
  have hlt : ∀ b, MachF g a b → b < w.heap.size := fun b h9 => m.lt h9
  have hno : ∀ b, ¬ Foot none b := fun b h9 => by obtain ⟨x, hx, _⟩ := h9; cases hx
  refine ⟨a, none, 0, F2, m.belowS hb, ⟨hH, World.ownsRow_nil _ _ _ _⟩, hS.belowS hb, fun b h9 => ⟨fun h8 => hdis b ((hF1 b).2 h8) h9, ?_⟩, fun b => ?_⟩
  · rintro (rfl | h8)
    · have := hS.lt h9; omega
    · exact hno b h8
  · constructor
    · rintro (h9 | h9 | h9)
      · exact .inl ((hF1 b).1 h9)
      · exact .inr (.inr h9)
      · exact .inr (.inl (.inl h9))
    · rintro (h9 | (h9 | h9) | h9)
      · exact .inl ((hF1 b).2 h9)
      · exact .inr (.inr h9)
      · exact absurd h9 (hno b)
      · exact .inr (.inl h9)
/-- What a tick leaves. -/
def RTPost (F1 F2 : Nat → Prop) (w : World) (g gR : Nat) (i : ImgS) (cs : List ChanS) (r : VmS × (Nat → WayS) × List (Int × Int) × Bool) (e : Ending) (w' : World) : Prop :=
  ∃ F1' F2' A c, e = .returned (outV A r.2.2.1.length c r.2.2.2) ∧ RvAt w' F1' g i r.1 ∧ RefAt w' F2' gR cs (hL r.2.1) ∧ (∀ b, F1' b → ¬ F2' b) ∧ (∀ b, Foot A b → ¬ F1' b ∧ ¬ F2' b) ∧
    w'.ownsRow 0 116 2 (.slice A r.2.2.1.length c) r.2.2.1.length (r.2.2.1.flatMap sentC) ∧ Goes (fun b => F1 b ∨ F2 b) w (fun b => F1' b ∨ F2' b ∨ Foot A b) w'
/-- From the loop's end to the tick's. -/
theorem rvTick_end {w3 wz wf : World} {Fz F2z : Nat → Prop} {R : Nat} {s' : VmS} (mz : RvIn wz g i a (machS pc ticks fault d)) (rz : OutIn wz h Ao cO d) (hsz : RefAt wz F2z gR cs (hL d.ss)) (haz : ∀ b, F2z b → ¬ MachF g a b ∧ ¬ RunF h Ao b) (hFz : ∀ b, Fz b ↔ MachF g a b ∨ RunF h Ao b ∨ F2z b)
    (hG : Goes (fun b => F1 b ∨ F2 b ∨ b = h) w3 Fz wz) (hb : Below w.heap.size w w3) (hh : w.heap.size ≤ h) (hRw : w.heap.size ≤ R) (hR : ¬ Fz R)
    (hblk : Blk wf g 77 (machC i a s')) (h1 : s'.stack = d.stack) (h2 : s'.mem = d.mem) (hk : ∀ b, b ≠ g → b ≠ R → wf.heap[b]? = wz.heap[b]?) (hsize : wz.heap.size ≤ wf.heap.size) (hos : wf.os = wz.os) (htp : wf.tape = wz.tape) (hou : wf.output = wz.output)
    (r : VmS × (Nat → WayS) × List (Int × Int) × Bool) (hr : r = (s', d.ss, d.sent, d.conf)) : RTPost F1 F2 w g gR i cs r (.returned (outV Ao d.sent.length cO d.conf)) wf := by
  subst hr
  have hg0 : Fz g := (hFz g).2 (.inl (.inl rfl))
  have hnR : ∀ b, Fz b → b ≠ R := fun b hf e => hR (e ▸ hf)
  have hkm : ∀ b, MachF g a b → b ≠ g → wf.heap[b]? = wz.heap[b]? := fun b hm hn => hk b hn (hnR b ((hFz b).2 (.inl hm)))
  have hm : RvIn wf g i a s' := by
    obtain ⟨q1, q2, q3, q4, q5⟩ := s'
    simp only at h1 h2
    subst h1 h2
    exact ⟨hblk, mz.cd.keep fun b h9 => hkm b (.inr (.inl h9)) (fun e => mz.off.1 (e ▸ h9)), mz.st.keep fun b h9 => hkm b (.inr (.inr (.inl h9))) (fun e => mz.off.2.1 (e ▸ h9)), mz.me.keep fun b h9 => hkm b (.inr (.inr (.inr h9))) (fun e => mz.off.2.2 (e ▸ h9)), mz.ap⟩
  refine ⟨MachF g a, F2z, Ao, cO, rfl, hm.at_, hsz.keep hsize fun b h9 => hk b (fun e => (haz b h9).1 (.inl e)) (hnR b ((hFz b).2 (.inr (.inr h9)))), fun b h9 h8 => (haz b h8).1 h9, fun b h9 => ⟨rz.apart mz (.inr h9), fun h8 => (haz b h8).2 (.inr h9)⟩, own_keep rz.out fun b h9 => hk b (fun e => rz.apart mz (.inr h9) (.inl e)) (hnR b ((hFz b).2 (.inr (.inl (.inr h9))))), ⟨⟨?_, ?_, ?_, ?_, ?_⟩, ?_⟩⟩
  · exact hos.trans (hG.apart.os.trans hb.os)
  · exact htp.trans (hG.apart.tape.trans hb.tape)
  · exact hou.trans (hG.apart.output.trans hb.output)
  · exact Nat.le_trans hb.size (Nat.le_trans hG.apart.size hsize)
  · intro b hlt hn
    have hn0 : ¬ (F1 b ∨ F2 b ∨ b = h) := fun h9 => h9.elim (fun h8 => hn (.inl h8)) (fun h8 => h8.elim (fun h7 => hn (.inr h7)) (fun h7 => by omega))
    have hz : ¬ Fz b := fun hf => (hG.foot b hf).elim hn0 (fun h9 => by have := hb.size; omega)
    exact (hk b (fun e => hz (e ▸ hg0)) (by omega)).trans ((hG.apart.block b (Nat.lt_of_lt_of_le hlt hb.size) hn0).trans (hb.block b hlt))
  · intro b hb9
    have hz : Fz b := by
      rcases hb9 with h9 | h9 | h9
      · exact (hFz b).2 (.inl h9)
      · exact (hFz b).2 (.inr (.inr h9))
      · exact (hFz b).2 (.inr (.inl (.inr h9)))
    rcases hG.foot b hz with h9 | h9
    · rcases h9 with h9 | h9 | h9
      · exact .inl (.inl h9)
      · exact .inl (.inr h9)
      · exact .inr (by omega)
    · exact .inr (Nat.le_trans hb.size h9)
theorem port_err (i : ImgS) (cs : List ChanS) (o k : Nat) (d : VmD) (h : (portR i cs o k d).1 ≠ 0) : (portR i cs o k d).2 = d := by
  unfold portR at h ⊢
  split
  · next h1 =>
    rw [if_pos h1] at h
    split
    · next h2 => rw [if_pos h2] at h; exact absurd rfl h
    · rfl
  · next h1 =>
    rw [if_neg h1] at h
    split
    · next h2 => rw [if_pos h2] at h; exact absurd rfl h
    · rfl
theorem fail_need {i : ImgS} {s : VmS} {o k : Nat} (h : failR i s o k = 0) (ho : o ≤ 18) : (needF o).1 ≤ s.stack.length ∧ (o = 10 ∨ o = 11 → k < s.mem.length) ∧ o ≠ 17 := by
  unfold failR at h
  split at h
  · cases h
  · next h1 =>
    split at h
    · cases h
    · next h2 =>
      split at h
      · cases h
      · split at h
        · cases h
        · next h4 =>
          exact ⟨by omega, fun h9 => Nat.lt_of_not_le fun h8 => h2 (.inl ⟨h9, h8⟩), h1⟩
theorem RvTick.nx (t : RvTick w F h g gR i cs pc ticks fault d) (x : Int) : RvTick w F h g gR i cs pc ticks fault { d with next := x } := by
  obtain ⟨a, Ao, cO, F2, m, r, hs, ha, hF⟩ := t
  exact ⟨a, Ao, cO, F2, m, ⟨r.blk, r.out⟩, hs, ha, hF⟩
theorem RvTick.cells (t : RvTick w F h g gR i cs pc ticks fault d) : ∃ (a : VmA) (Ao : Option Addr) (cO : Nat), w.cell? ⟨g, 4, none⟩ = some (.int .i64 i.fuel) ∧ w.cell? ⟨g, 7, none⟩ = some (.slice a.Ac i.code.length a.cc) ∧ w.cell? ⟨g, 8, none⟩ = some (.int .i64 pc) ∧ w.cell? ⟨g, 11, none⟩ = some (.int .i64 ticks) ∧ w.cell? ⟨g, 12, none⟩ = some (.int .i64 fault) ∧
    w.cell? ⟨h, 0, none⟩ = some (.slice Ao d.sent.length cO) ∧ w.cell? ⟨h, 1, none⟩ = some (.bool d.conf) ∧ (∀ k, w.frozen? ⟨g, k, none⟩ = false) ∧ (∀ k, w.frozen? ⟨h, k, none⟩ = false) ∧ g ≠ h ∧ F g ∧ F h ∧ Reads w w.heap.size 1 a.Ac i.code.length (i.code.map bV) := by
  obtain ⟨a, Ao, cO, F2, m, r, hs, ha, hF⟩ := t
  exact ⟨a, Ao, cO, m.blk.cellAt rfl, m.blk.cellAt rfl, m.blk.cellAt rfl, m.blk.cellAt rfl, m.blk.cellAt rfl, r.blk.cellAt rfl, r.blk.cellAt rfl, fun k => m.blk.frozen k, fun k => r.blk.frozen k, fun e => m.blk.ty.ne_ r.blk.ty (by decide) e, (hF g).2 (.inl (.inl rfl)), (hF h).2 (.inr (.inl (.inl rfl))), m.cd.reads⟩
theorem RvTick.machSet (t : RvTick w F h g gR i cs pc ticks fault d) {k : Nat} {v : Value} {pc' ticks' fault' : Int} (hr : ∀ a : VmA, (machC i a (machS pc ticks fault d)).set k v = machC i a (machS pc' ticks' fault' d)) :
    RvTick (w.setCell ⟨g, k, none⟩ v) F h g gR i cs pc' ticks' fault' d ∧ Goes F w F (w.setCell ⟨g, k, none⟩ v) := by
  obtain ⟨a, Ao, cO, F2, m, r, hs, ha, hF⟩ := t
  have hk : ∀ b, b ≠ g → (w.setCell ⟨g, k, none⟩ v).heap[b]? = w.heap[b]? := fun b hb => Below.heap_setCell _ _ _ _ hb
  have hFg : F g := (hF g).2 (.inl (.inl rfl))
  have mk := m.own (k := k) (v := v) (s' := machS pc' ticks' fault' d) rfl rfl (hr a)
  have rk := r.keep (w' := w.setCell ⟨g, k, none⟩ v) fun b hb => hk b (fun e => r.apart m hb (.inl e))
  exact ⟨⟨a, Ao, cO, F2, mk.1, rk, hs.keep (by simp [World.setCell]) fun b hb => hk b (fun e => (ha b hb).1 (.inl e)), ha, hF⟩, ⟨(Apart.refl _ _).setCell (.inl hFg) _, fun _ h9 => .inl h9⟩⟩
theorem RvTick.confSet (t : RvTick w F h g gR i cs pc ticks fault d) : RvTick (w.setCell ⟨h, 1, none⟩ (.bool true)) F h g gR i cs pc ticks fault { d with conf := true } ∧ Goes F w F (w.setCell ⟨h, 1, none⟩ (.bool true)) := by
  obtain ⟨a, Ao, cO, F2, m, r, hs, ha, hF⟩ := t
  have hk : ∀ b, b ≠ h → (w.setCell ⟨h, 1, none⟩ (.bool true)).heap[b]? = w.heap[b]? := fun b hb => Below.heap_setCell _ _ _ _ hb
  have hFh : F h := (hF h).2 (.inr (.inl (.inl rfl)))
  refine ⟨⟨a, Ao, cO, F2, m.keep fun b hb => hk b (fun e => r.apart m (.inl e) hb), ⟨r.blk.set_ 1 (.bool true), own_keep r.out fun b hb => hk b (fun e => r.off (e ▸ hb))⟩, hs.keep (by simp [World.setCell]) fun b hb => hk b (fun e => (ha b hb).2 (.inl e)), ha, hF⟩, ⟨(Apart.refl _ _).setCell (.inl hFh) _, fun _ h9 => .inl h9⟩⟩
theorem RvTick.at_ (t : RvTick w F h g gR i cs pc ticks fault d) : ∃ F1, RvAt w F1 g i (machS pc ticks fault d) := by
  obtain ⟨a, Ao, cO, F2, m, _⟩ := t
  exact ⟨_, m.at_⟩
theorem got_cases (code : List UInt8) (pc : Int) : ∃ (OP AR NX : Int) (IS : Bool), gotV (atF code pc) = .agg #[.int .i64 OP, .int .i64 AR, .int .i64 NX, .bool IS] ∧ ((atF code pc = none ∧ IS = false) ∨ ∃ o k : Nat, atF code pc = some (o, AR, NX) ∧ OP = (o : Int) ∧ AR = (k : Int) ∧ IS = true ∧ o ≤ 18) := by
  cases hat : atF code pc with
  | none => exact ⟨0, 0, 0, false, rfl, .inl ⟨rfl, rfl⟩⟩
  | some x =>
    obtain ⟨o, a, nx⟩ := x
    have h := atF_some hat
    exact ⟨o, a, nx, true, rfl, .inr ⟨o, a.toNat, rfl, rfl, by omega, rfl, h.2.2.1⟩⟩
set_option maxRecDepth 100000 in
set_option maxHeartbeats 4000000 in
theorem rvTick_any (hM : RvAt w F1 g i s) (hS : RefAt w F2 gR cs (hL ss)) (hdis : ∀ b, F1 b → ¬ F2 b) (hI : RightI i) (hs : FineS i s) (hK : KAll cs ss) (hd : ∀ k, k < cs.length → depthAt cs k ≤ 4) (hf : s.fault = 0) (ht0 : 0 ≤ s.ticks) (ht1 : s.ticks ≤ 1000000000) :
    Calls Tryz.prog 34 #[.pointer (some ⟨g, 0, none⟩), .pointer (some ⟨gR, 0, none⟩)] w (RTPost F1 F2 w g gR i cs (tickF i cs s ss)) := by
  have hM0 := hM
  obtain ⟨a, m, _⟩ := hM0
  have c0 : w.cell? ⟨g, 12, none⟩ = some (.int .i64 0) := by rw [← hf]; exact m.blk.cellAt rfl
  have d0_1 := fun o o' => cell_alloc (cell_alloc c0 o) o'
  obtain ⟨fu, hfu⟩ : ∃ fu : Nat, i.fuel = (fu : Int) := ⟨i.fuel.toNat, by have := hI.2.2.2.2.1; omega⟩
  have hfu32 : fu ≤ 32 := by have := hI.2.2.2.2.1; omega
  have HM := hid hM
  have HS := hid hS
  have HFU := hid hfu
  have HF := hid hf
  have Hdis := hid hdis
  have HHI := hid hI
  have HHS := hid hs
  have HHK := hid hK
  have HHd := hid hd
  clear hM hS hfu m hf hdis hI hs hK hd
  go_enter Tryz.func34, Tryz.ntmps34
  go_upto_block 0 with fail
  obtain ⟨w3, hw3, hR3, hH3, hb3, hs3⟩ : ∃ W, (w.alloc (.cells #[.slice none 0 0, .bool false] 59)).alloc (.cells #[.slice none 0 0, .bool false] 59) = W ∧ Blk W w.heap.size 59 [.slice none 0 0, .bool false] ∧ Blk W (w.heap.size + 1) 59 [.slice none 0 0, .bool false] ∧ Below w.heap.size w W ∧ w.heap.size + 2 ≤ W.heap.size :=
    ⟨_, rfl, (Blk.new w _ [.slice none 0 0, .bool false]).alloc _, (by
      have := Blk.new (w.alloc (.cells #[.slice none 0 0, .bool false] 59)) 59 [.slice none 0 0, .bool false]
      rw [show (w.alloc (.cells #[.slice none 0 0, .bool false] 59)).heap.size = w.heap.size + 1 by simp] at this
      exact this), bel_alloc ((Below.refl w.heap.size w).alloc (Nat.le_refl _) _) _, by simp⟩
  rw [hw3]
  have HG0 := hid (rvTick_start HM.out HS.out Hdis.out hb3 hH3 (by omega))
  rw [HF.out] at HG0
  have HR3 := hid hR3
  have HB3 := hid hb3
  have HFine : Hid (Fine i (startD s ss)) := hid ⟨HHS.out.len, HHS.out.st, HHS.out.mlen, HHS.out.me⟩
  have HRn : Hid (∀ r, runF i cs s.ticks fu s.pc (startD s ss) = r → tickF i cs s ss = (⟨r.1, r.2.2.stack, r.2.2.mem, s.ticks + 1, r.2.1⟩, r.2.2.ss, r.2.2.sent, r.2.2.conf)) := hid (fun r hr => by
    unfold tickF
    rw [if_neg (by rw [HF.out]; simp), HFU.out, Int.toNat_natCast, hr])
  have HKS : Hid (KAll cs (startD s ss).ss) := hid HHK.out
  have HSS : Hid ((startD s ss).sent.length = 0) := hid rfl
  have HS0 : Hid (∀ q ∈ (startD s ss).sent, SentOk i q) := hid (by simp [startD])
  have HLF : Hid (∀ b, (F1 b ∨ F2 b ∨ b = w.heap.size + 1) → b ≠ w.heap.size) := hid (fun b hb => by
    rcases hb with h9 | h9 | h9
    · have := HM.out.lt h9; omega
    · have := HS.out.lt h9; omega
    · omega)
  generalize hRB : w.heap.size = R at *
  generalize startD s ss = d0 at *
  generalize hpc0 : s.pc = pc0 at *
  generalize htk : s.ticks = tk at *
  have HRB := hid hRB
  have HPC := hid hpc0
  have HTK := hid htk
  clear hRB hpc0 htk c0 d0_1 hw3 hR3 hH3 hb3 hs3
  go_cut [6, 7, 8] (fun s6 s7 s8 wz => ∃ (pc f : Int) (d : VmD) (F' : Nat → Prop), RvTick wz F' (R + 1) g gR i cs pc tk f d ∧ Goes (fun b => F1 b ∨ F2 b ∨ b = R + 1) w3 F' wz ∧ runF i cs tk fu pc0 d0 = (pc, f, d))
  case first =>
    go_wp2_with fail
    go_loopg [6, 7, 8] fu (fun m v6 v7 v8 wr => ∃ (k : Nat) (pc : Int) (d : VmD) (F' : Nat → Prop), k + m = fu ∧ v6 = .int .i64 (k : Int) ∧ RvTick wr F' (R + 1) g gR i cs pc tk 0 d ∧ Goes (fun b => F1 b ∨ F2 b ∨ b = R + 1) w3 F' wr ∧ Fine i d ∧ KAll cs d.ss ∧ d.sent.length ≤ k ∧ (∀ q ∈ d.sent, SentOk i q) ∧ runF i cs tk fu pc0 d0 = runF i cs tk m pc d)
    case atStart => exact ⟨0, _, _, _, by omega, rfl, HG0.out, Goes.refl _ _, HFine.out, HKS.out, by rw [HSS.out]; exact Nat.le_refl _, HS0.out, rfl⟩
    case round =>
      obtain ⟨k, pc, d, F', hkm, rfl, hT, hG, hFi, hKd, hsn, hok, hrun⟩ := hrel
      have T := hid hT
      have G := hid hG
      have FI := hid hFi
      have KD := hid hKd
      have RN := hid hrun
      have OK := hid hok
      obtain ⟨a7, Ao7, cO7, c4, c7, c8, _, c12, _, _, fg, fh, ngh, hFg, hFh, hrc⟩ := hT.cells
      rw [HFU.out] at c4
      have HRC := hid hrc
      clear hT hG hFi hKd hrun hok hrc
      by_cases hkf : k < fu
      case neg =>
        have hk0 : gk = 0 := by omega
        have hrn : Hid (runF i cs tk fu pc0 d0 = (pc, 0, d)) := hid (by rw [RN.out, hk0]; rfl)
        obtain rfl : k = fu := by omega
        have y0 : decide ((k : Int) < (k : Int)) = false := decide_eq_false (by omega)
        clear hkm hk0 hkf RN
        go_wp2_with fail
        go_meet
        exact ⟨pc, 0, d, F', T.out, G.out, hrn.out⟩
      have y0 : decide ((k : Int) < (fu : Int)) = true := decide_eq_true (by omega)
      have y0' : decide (k < fu) = true := decide_eq_true hkf
      obtain ⟨m, hm⟩ : ∃ m, gk = m + 1 := ⟨gk - 1, by omega⟩
      have hcl : i.code.length ≤ 1000000 := by have := HHI.out.2.2.2.2.2.2.2; omega
      have iAt := hid (fun W (hb : Below wr.heap.size wr W) => refAt_any a7.Ac i.code.length a7.cc i.code pc W (HRC.out.belowS hb) hcl)
      have hlg : g < wr.heap.size := T.out.lt hFg
      obtain ⟨OP, AR, NX, IS, hatV, hcase⟩ := got_cases i.code pc
      rw [hatV] at iAt
      have HCASE := hid hcase
      clear hcase hatV
      have n1 : g ≠ wr.heap.size := by omega
      have n2 : wr.heap.size ≠ g := by omega
      go_upto_region 7 with fail
      go_cut [7] (fun s7 wc => ∃ yb : Nat, s7 = .pointer (some ⟨yb, 0, none⟩) ∧ Blk wc yb 142 [.int .i64 OP, .int .i64 AR, .int .i64 NX, .bool IS] ∧ Below wr.heap.size wr wc ∧ wr.heap.size ≤ yb)
      case first =>
        go_region_held3 (fun w' => w'.cell? ⟨g, 7, none⟩ = some (.slice a7.Ac i.code.length a7.cc) ∧ w'.cell? ⟨g, 8, none⟩ = some (.int .i64 pc)) (go_keep)
          (first
            | (go_at_call 52; refine (iAt.out _ ?_).mono ?_; (first | exact Below.refl _ _ | exact bel_drewV (Below.refl _ _) | exact bel_alloc (Below.refl _ _) _ | exact bel_drewV (bel_alloc (Below.refl _ _) _)); rintro e wA ⟨rfl, hbA'⟩; have hbA : Below wr.heap.size wr wA := (by first | exact hbA' | exact bel_trans (bel_alloc (Below.refl wr.heap.size wr) _) hbA' | exact bel_trans (bel_drewV (bel_alloc (Below.refl wr.heap.size wr) _)) hbA' | exact bel_trans (bel_drewV (Below.refl wr.heap.size wr)) hbA'); have HBA := hid hbA; (try (have hbx : Blk wA wr.heap.size 142 [.int .i64 0, .int .i64 0, .int .i64 0, .bool false] := (by first | exact (Blk.new wr _ [.int .i64 0, .int .i64 0, .int .i64 0, .bool false]).belowS hbA' | exact ((Blk.new wr _ [.int .i64 0, .int .i64 0, .int .i64 0, .bool false]).drew).belowS hbA'))); (try (have s0 : wA.cell? ⟨wr.heap.size, 0, none⟩ = some (.int .i64 0) := hbx.cellAt rfl)); (try (have s1 : wA.cell? ⟨wr.heap.size, 1, none⟩ = some (.int .i64 0) := hbx.cellAt rfl)); (try (have s2 : wA.cell? ⟨wr.heap.size, 2, none⟩ = some (.int .i64 0) := hbx.cellAt rfl)); (try (have s3 : wA.cell? ⟨wr.heap.size, 3, none⟩ = some (.bool false) := hbx.cellAt rfl)); (try (have sf : ∀ k, wA.frozen? ⟨wr.heap.size, k, none⟩ = false := fun k => hbx.frozen k)); (try have HBX := hid hbx); (try clear hbx); have z7 : wA.cell? ⟨g, 7, none⟩ = some (.slice a7.Ac i.code.length a7.cc) := (hbA.cell (p := ⟨g, 7, none⟩) hlg).trans c7; have z8 : wA.cell? ⟨g, 8, none⟩ = some (.int .i64 pc) := (hbA.cell (p := ⟨g, 8, none⟩) hlg).trans c8; have z7a := (fun o => cell_allocT z7 o); have z8a := (fun o => cell_allocT z8 o); clear hbA hbA'))
        all_goals
          clear c4 c7 c8 c12 n1 n2
          first
            | (go_wp2_with fail; go_meet; exact ⟨_, rfl, Blk.new _ _ [.int .i64 OP, .int .i64 AR, .int .i64 NX, .bool IS], bel_alloc HBA.out _, HBA.out.size⟩)
            | (go_wp2_with fail; go_meet; exact ⟨_, rfl, (((HBX.out.set_ 0 _).set_ 1 _).set_ 2 _).set_ 3 _, (((HBA.out.setCell (p := ⟨wr.heap.size, 0, none⟩) (Nat.le_refl _) _).setCell (p := ⟨wr.heap.size, 1, none⟩) (Nat.le_refl _) _).setCell (p := ⟨wr.heap.size, 2, none⟩) (Nat.le_refl _) _).setCell (p := ⟨wr.heap.size, 3, none⟩) (Nat.le_refl _) _, Nat.le_refl _⟩)
      case rest =>
        obtain ⟨yb, rfl, hbI, hbc, hge⟩ := hcut
        have Tc := hid (T.out.belowS hbc)
        have Gc := hid (G.out.trans (Goes.of_below (F := F') hbc))
        have HYF : Hid (¬ F' yb) := hid (fun h9 => by have := T.out.lt h9; omega)
        have HYL := hid hbI.lt
        have HBI := hid hbI
        obtain ⟨ac, Aoc, cOc, t4, t7, t8, t11, t12, th0, th1, tfg, tfh, _, _, _, _⟩ := Tc.out.cells
        have b3 : wc.cell? ⟨yb, 3, none⟩ = some (.bool IS) := hbI.cellAt rfl
        clear hbI hbc hge n1 n2 iAt c4 c7 c8 c12 fg fh hlg t4 t7 t11 th0 th1 tfh
        rcases HCASE.out with ⟨hat, hIS⟩ | ⟨o, kk, hat, hOP, hAR, hIS, ho18⟩
        · subst hIS
          have hrn : Hid (runF i cs tk fu pc0 d0 = (pc, 19, d)) := hid (by rw [RN.out, hm]; unfold runF; rw [hat])
          have S4 := hid (Tc.out.machSet (k := 12) (v := .int .i64 19) (pc' := pc) (ticks' := tk) (fault' := 19) (fun _ => rfl))
          have tf12 := tfg 12
          clear hat HCASE RN tfg hm hkm
          go_wp2_with fail
          go_meet
          exact ⟨pc, 19, d, F', S4.out.1, Gc.out.trans S4.out.2, hrn.out⟩
        subst hOP hAR hIS
        have hrun1 : Hid (runF i cs tk fu pc0 d0 = if (deedF i cs tk o (kk : Int) { d with next := NX }).1 = 0 then (if o = 0 then ((deedF i cs tk o (kk : Int) { d with next := NX }).2.next, 0, (deedF i cs tk o (kk : Int) { d with next := NX }).2) else runF i cs tk m (deedF i cs tk o (kk : Int) { d with next := NX }).2.next (deedF i cs tk o (kk : Int) { d with next := NX }).2) else (pc, (deedF i cs tk o (kk : Int) { d with next := NX }).1, (deedF i cs tk o (kk : Int) { d with next := NX }).2)) := hid (by rw [RN.out, hm, runF_some hat])
        have hFi : Fine i { d with next := NX } := ⟨FI.out.len, FI.out.st, FI.out.mlen, FI.out.me⟩
        have hFr := hid (deedF_fine hFi cs tk o (kk : Int))
        have hKr : Hid (KAll cs (deedF i cs tk o (kk : Int) { d with next := NX }).2.ss) := hid (deedF_kall (d := { d with next := NX }) KD.out tk o (kk : Int))
        have hSr := hid (deedF_sent (d := { d with next := NX }) hFi cs tk o (show (0 : Int) ≤ (kk : Int) from Int.natCast_nonneg _) OK.out)
        have hl8 : d.stack.length ≤ 8 := FI.out.len
        have hst : ∀ x ∈ d.stack, InW x := FI.out.st
        have hml : d.mem.length ≤ 1000 := by have := FI.out.mlen; have := HHI.out.2.2.2.1; omega
        have hds := hid (deed_step i cs pc NX tk d hl8 hst ho18 kk)
        have HST := hid hst
        have iF := hid (fun W (hb : Below wc.heap.size wc W) => by
          obtain ⟨F9, h9⟩ := (Tc.out.belowS hb).at_
          exact rvFails_any h9 HHI.out.2.2.2.2.2.1 HHI.out.2.2.2.2.2.2.1 (show d.stack.length ≤ 90 by omega) o ho18 kk)
        have HO := hid ho18
        have HKM : Hid (k + 1 + m = fu ∧ m < gk) := hid (by omega)
        clear hst hFi hat HCASE RN FI OK hm hkm ho18
        obtain ⟨E, hE⟩ : ∃ E, failR i (machS pc tk 0 d) o kk = E := ⟨_, rfl⟩
        rw [hE] at iF hds
        have b0 : wc.cell? ⟨yb, 0, none⟩ = some (.int .i64 (o : Int)) := HBI.out.cellAt rfl
        have b1 : wc.cell? ⟨yb, 1, none⟩ = some (.int .i64 (kk : Int)) := HBI.out.cellAt rfl
        unfold insV at iF
        have HEE := hid hE
        clear hE tfg
        go_wp2_with fail
        refine (iF.out _ (Below.refl _ _)).mono ?_
        rintro e w5 ⟨rfl, hb5⟩
        have T5 := hid (Tc.out.belowS hb5)
        have G5 := hid (Gc.out.trans (Goes.of_below (F := F') hb5))
        have HBI5 := hid (HBI.out.belowS hb5)
        have HYL5 := hid (Nat.lt_of_lt_of_le HYL.out hb5.size)
        obtain ⟨a5, Ao5, cO5, _, _, t8', _, t12', _, _, tfg', _, _, _, _, _⟩ := T5.out.cells
        have p0 : w5.cell? ⟨yb, 0, none⟩ = some (.int .i64 (o : Int)) := HBI5.out.cellAt rfl
        have p1 : w5.cell? ⟨yb, 1, none⟩ = some (.int .i64 (kk : Int)) := HBI5.out.cellAt rfl
        have p2 : w5.cell? ⟨yb, 2, none⟩ = some (.int .i64 NX) := HBI5.out.cellAt rfl
        have f8 := tfg' 8
        have f12 := tfg' 12
        clear iF hb5 b0 b1 b3 t8 t12 Tc Gc HBI HYL tfg'
        by_cases h0 : E = 0
        case neg =>
          have y1 : (E == 0) = false := by simpa using h0
          have y2 : (E != 0) = true := by simpa using h0
          have hrn : Hid (runF i cs tk fu pc0 d0 = (pc, E, { d with next := NX })) := hid (by
            have h9 := hds.out
            rw [if_pos h0] at h9
            rw [hrun1.out, h9, if_neg h0])
          have S4 := hid (T5.out.machSet (k := 12) (v := .int .i64 E) (pc' := pc) (ticks' := tk) (fault' := E) (fun _ => rfl))
          clear h0 hds hrun1 hFr hKr hSr
          go_wp2_with fail
          go_meet
          exact ⟨pc, E, { d with next := NX }, F', S4.out.1.nx NX, G5.out.trans S4.out.2, hrn.out⟩
        subst h0
        rw [if_neg (by simp)] at hds
        have hneed : (needF o).1 ≤ d.stack.length ∧ (o = 10 ∨ o = 11 → kk < d.mem.length) ∧ o ≠ 17 := fail_need HEE.out HO.out
        have y0e : ((0 : Int) == 0) = true := rfl
        by_cases hop : o = 14 ∨ o = 15
        case pos =>
          rw [if_pos hop] at hds
          obtain ⟨r, hr⟩ : ∃ r, portR i cs o kk d = r := ⟨_, rfl⟩
          have iP : Hid (∀ W F9, RvTick W F9 (R + 1) g gR i cs pc tk 0 d → Calls Tryz.prog 54 #[.pointer (some ⟨g, 0, none⟩), insV (o : Int) (kk : Int), .pointer (some ⟨gR, 0, none⟩), .pointer (some ⟨R + 1, 0, none⟩)] W (PPost F9 W (R + 1) g gR i cs pc tk 0 r)) := hid (fun W F9 tW => by
            rw [← hr]
            rcases hop with rfl | rfl
            · exact rvSend tW (by have := hneed.1; simp [needF] at this; omega) (by omega) KD.out HHd.out (by omega) kk
            · exact rvGet tW (by omega) KD.out kk)
          have hd1 := port_err i cs o kk d
          rw [hr] at hds hd1
          obtain ⟨E1, d1⟩ := r
          simp only at hds hd1
          have iS : Hid (∀ W F9, RvTick W F9 (R + 1) g gR i cs NX tk 0 d1 → Calls Tryz.prog 56 #[.pointer (some ⟨g, 0, none⟩), insV (o : Int) (kk : Int)] W fun e w' => e = .returned (.tuple #[]) ∧ ∃ F', RvTick w' F' (R + 1) g gR i cs NX tk 0 d1 ∧ Goes F9 W F' w') := hid (fun W F9 tW => tW.act rfl rfl rfl fun F1 h1 => rvStk_none h1 kk o (by rcases hop with rfl | rfl <;> simp))
          have hstep : o = 14 ∨ o = 15 → stepD o kk NX tk d1 = { d1 with next := NX } := fun h9 => by
            rcases h9 with rfl | rfl <;> simp [stepD, stackD, stackR, machS]
          rw [hstep hop] at hds
          have HON : Hid (o ≠ 0) := hid (by rcases hop with rfl | rfl <;> decide)
          unfold insV at iP iS
          clear hr hstep hneed
          rcases hop with rfl | rfl
          all_goals
            go_wp2_with fail
            refine (iP.out _ _ T5.out).mono ?_
            rintro e w6 ⟨F6, rfl, ht, hg⟩
            have K6 := hid (hg.keeps HYL5.out HYF.out)
            have T6 := hid ht
            have G6 := hid (G5.out.trans hg)
            have HBI6 := hid (show Blk w6 yb 142 _ from K6.out.1.trans HBI5.out)
            obtain ⟨a6, Ao6, cO6, _, _, u8', _, u12', _, _, ufg, _, _, hg6, _, _⟩ := T6.out.cells
            have q0 := HBI6.out.cellAt (i := 0) rfl
            have q1 := HBI6.out.cellAt (i := 1) rfl
            have q2 := HBI6.out.cellAt (i := 2) rfl
            have v8 := ufg 8
            have v12 := ufg 12
            have ny : yb ≠ g := fun e => K6.out.2.1 (e ▸ hg6)
            have ny' : g ≠ yb := ny.symm
            clear ht hg iP p0 p1 p2 f8 f12 t8' t12' ufg T5 G5 HBI5 HYL5 hg6
            by_cases hE1 : E1 = 0
            case neg =>
              have y1 : (E1 != 0) = true := by simpa using hE1
              have hrn : Hid (runF i cs tk fu pc0 d0 = (pc, E1, { d with next := NX })) := hid (by
                have h9 := hds.out
                rw [if_neg hE1] at h9
                rw [hrun1.out, h9, if_neg hE1])
              have S4 := hid (T6.out.machSet (k := 12) (v := .int .i64 E1) (pc' := pc) (ticks' := tk) (fault' := E1) (fun _ => rfl))
              have hdd := hd1 hE1
              subst hdd
              clear hds hrun1 hFr hKr hSr hE1 hd1
              go_wp2_with fail
              go_meet
              exact ⟨pc, E1, { d1 with next := NX }, F6, S4.out.1.nx NX, G6.out.trans S4.out.2, hrn.out⟩
            subst hE1
            rw [if_pos rfl] at hds
            have FRx := hFr.out
            rw [hds.out] at FRx
            have KRx := hKr.out
            rw [hds.out] at KRx
            have SRx := hSr.out
            rw [hds.out] at SRx
            have hrx := hrun1.out
            rw [hds.out] at hrx
            have FR := hid FRx
            have KR := hid KRx
            have OR := hid SRx.1
            have hS1 : d1.sent.length ≤ k + 1 := by have h9 : d1.sent.length ≤ d.sent.length + 1 := SRx.2; omega
            have HRX := hid hrx
            clear FRx KRx SRx hrx hds hrun1 hFr hKr hSr
            have hrn : Hid (runF i cs tk fu pc0 d0 = runF i cs tk m NX { d1 with next := NX }) := hid (by rw [HRX.out, if_pos rfl, if_neg HON.out])
            have S7 := hid (T6.out.machSet (k := 8) (v := .int .i64 NX) (pc' := NX) (ticks' := tk) (fault' := 0) (fun _ => rfl))
            have G7 := hid (G6.out.trans S7.out.2)
            have HBI7 := hid (HBI6.out.far (p := ⟨g, 8, none⟩) ny (.int .i64 NX))
            clear hd1 HRX T6 HEE
            go_wp2_with fail
            refine (iS.out _ _ S7.out.1).mono ?_
            rintro e w8 ⟨rfl, F8, ht, hg⟩
            have K8 := hid (hg.keeps (b := yb) (by simpa [World.setCell] using K6.out.2.2) K6.out.2.1)
            have HBI8 := hid (show Blk w8 yb 142 _ from K8.out.1.trans HBI7.out)
            have r0 := HBI8.out.cellAt (i := 0) rfl
            have T8 := hid (ht.nx NX)
            have G8 := hid (G7.out.trans hg)
            clear ht hg q0 q1 q2 v8 v12 u8' u12' iS ny ny'
            go_wp2_with fail
            go_roundg m
            case rel => exact ⟨k + 1, _, _, F8, HKM.out.1, by go_num, T8.out, G8.out, FR.out, KR.out, hS1, OR.out, hrn.out⟩
            case measure => exact HKM.out.2
        case neg =>
          rw [if_neg hop] at hds
          have HBN : Hid (yb ≠ g ∧ g ≠ yb) := hid (by
            have h9 : F' g := by obtain ⟨_, _, _, _, _, _, _, _, _, _, _, _, _, h8, _⟩ := T5.out.cells; exact h8
            exact ⟨fun e => HYF.out (e ▸ h9), fun e => HYF.out (e ▸ h9)⟩)
          have ny := HBN.out.1
          have ny' := HBN.out.2
          have S6 := hid (T5.out.machSet (k := 8) (v := .int .i64 NX) (pc' := NX) (ticks' := tk) (fault' := 0) (fun _ => rfl))
          have G6 := hid (G5.out.trans S6.out.2)
          have HBI6 := hid (HBI5.out.far (p := ⟨g, 8, none⟩) ny (.int .i64 NX))
          have HYL6 : Hid (yb < (w5.setCell ⟨g, 8, none⟩ (.int .i64 NX)).heap.size) := hid (by simpa [World.setCell] using HYL5.out)
          by_cases h12 : o = 12
          case pos =>
            subst h12
            have hstep : stepD 12 kk NX tk d = { d with next := (kk : Int) } := rfl
            rw [hstep] at hds
            have FRx := hFr.out
            rw [hds.out] at FRx
            have KRx := hKr.out
            rw [hds.out] at KRx
            have SRx := hSr.out
            rw [hds.out] at SRx
            have hrx := hrun1.out
            rw [hds.out] at hrx
            have FR := hid FRx
            have KR := hid KRx
            have OR := hid SRx.1
            have hS1 : d.sent.length ≤ k + 1 := by have h9 : d.sent.length ≤ d.sent.length + 1 := SRx.2; omega
            have HRX := hid hrx
            clear FRx KRx SRx hrx hds hrun1 hFr hKr hSr
            have hrn : Hid (runF i cs tk fu pc0 d0 = runF i cs tk m (kk : Int) { d with next := (kk : Int) }) := hid (by rw [HRX.out, if_pos rfl, if_neg (by decide)])
            have S7 := hid (S6.out.1.machSet (k := 8) (v := .int .i64 (kk : Int)) (pc' := (kk : Int)) (ticks' := tk) (fault' := 0) (fun _ => rfl))
            have G7 := hid (G6.out.trans S7.out.2)
            have HBI7 := hid (HBI6.out.far (p := ⟨g, 8, none⟩) ny (.int .i64 (kk : Int)))
            have HYL7 : Hid (yb < ((w5.setCell ⟨g, 8, none⟩ (.int .i64 NX)).setCell ⟨g, 8, none⟩ (.int .i64 (kk : Int))).heap.size) := hid (by simpa [World.setCell] using HYL5.out)
            have iS : Hid (∀ W F9, RvTick W F9 (R + 1) g gR i cs (kk : Int) tk 0 d → Calls Tryz.prog 56 #[.pointer (some ⟨g, 0, none⟩), .agg #[.int .i64 12, .int .i64 (kk : Int)]] W fun e w' => e = .returned (.tuple #[]) ∧ ∃ F', RvTick w' F' (R + 1) g gR i cs (kk : Int) tk 0 d ∧ Goes F9 W F' w') := hid (fun W F9 tW => tW.act rfl rfl rfl fun F1 h1 => rvStk_none h1 kk 12 (by simp))
            clear HRX HEE hneed hop
            go_wp2_with fail
            refine (iS.out _ _ S7.out.1).mono ?_
            rintro e w8 ⟨rfl, F8, ht, hg⟩
            have K8 := hid (hg.keeps (b := yb) HYL7.out HYF.out)
            have HBI8 := hid (show Blk w8 yb 142 _ from K8.out.1.trans HBI7.out)
            have r0 := HBI8.out.cellAt (i := 0) rfl
            have T8 := hid (ht.nx (kk : Int))
            have G8 := hid (G7.out.trans hg)
            clear ht hg p0 p1 p2 f8 f12 t8' t12' iS ny ny'
            go_wp2_with fail
            go_roundg m
            case rel => exact ⟨k + 1, _, _, F8, HKM.out.1, by go_num, T8.out, G8.out, FR.out, KR.out, hS1, OR.out, hrn.out⟩
            case measure => exact HKM.out.2
          by_cases h13 : o = 13
          case pos =>
            subst h13
            have hlp : 0 < d.stack.length := by have h9 := hneed.1; simp [needF] at h9; omega
            have iP : Hid (∀ W F9, RvTick W F9 (R + 1) g gR i cs NX tk 0 d → Calls Tryz.prog 55 #[.pointer (some ⟨g, 0, none⟩)] W fun e w' => e = .returned (.int .i64 (topV d.stack 0)) ∧ ∃ F', RvTick w' F' (R + 1) g gR i cs NX tk 0 { d with stack := d.stack.take (d.stack.length - 1) } ∧ Goes F9 W F' w') := hid (fun W F9 tW => tW.act (d' := { d with stack := d.stack.take (d.stack.length - 1) }) rfl rfl rfl fun F1 h1 => rvPop h1 hlp (show d.stack.length ≤ 100 by omega))
            have hstep : stepD 13 kk NX tk d = { d with stack := d.stack.take (d.stack.length - 1), next := if topV d.stack 0 = 0 then (kk : Int) else NX } := rfl
            rw [hstep] at hds
            have HDS := hid hds
            obtain ⟨x, hx⟩ : ∃ x, topV d.stack 0 = x := ⟨_, rfl⟩
            rw [hx] at iP hds
            have HX := hid hx
            clear hx HDS hstep
            by_cases hx0 : x = 0
            case' pos =>
              rw [if_pos hx0] at hds
              have y3 : (x == 0) = true := by simpa using hx0
            case' neg =>
              rw [if_neg hx0] at hds
              have y3 : (x == 0) = false := by simpa using hx0
            all_goals
              have FRx := hFr.out
              rw [hds.out] at FRx
              have KRx := hKr.out
              rw [hds.out] at KRx
              have SRx := hSr.out
              rw [hds.out] at SRx
              have hrx := hrun1.out
              rw [hds.out] at hrx
              have FR := hid FRx
              have KR := hid KRx
              have OR := hid SRx.1
              have hS1 : ({ d with stack := d.stack.take (d.stack.length - 1) } : VmD).sent.length ≤ k + 1 := by have h9 : ({ d with stack := d.stack.take (d.stack.length - 1) } : VmD).sent.length ≤ d.sent.length + 1 := SRx.2; omega
              have HRX := hid hrx
              clear FRx KRx SRx hrx hds hrun1 hFr hKr hSr
              have hrn := hid (show runF i cs tk fu pc0 d0 = runF i cs tk m _ _ from by rw [HRX.out, if_pos rfl, if_neg (by decide)])
              clear HRX HEE hneed hop hx0
              go_wp2_with fail
              refine (iP.out _ _ S6.out.1).mono ?_
              rintro e w7 ⟨rfl, F7, ht, hg⟩
              have K7 := hid (hg.keeps (b := yb) HYL6.out HYF.out)
              have HBI7 := hid (show Blk w7 yb 142 _ from K7.out.1.trans HBI6.out)
              have q0 := HBI7.out.cellAt (i := 0) rfl
              have q1 := HBI7.out.cellAt (i := 1) rfl
              have T7 := hid ht
              have G7 := hid (G6.out.trans hg)
              obtain ⟨a6, Ao6, cO6, _, _, u8', _, _, _, _, ufg, _, _, hg7, _, _⟩ := T7.out.cells
              have v8 := ufg 8
              clear ht hg iP p0 p1 p2 f8 f12 t8' t12' ufg hg7
              have S7 := hid (T7.out.machSet (k := 8) (v := .int .i64 (kk : Int)) (pc' := (kk : Int)) (ticks' := tk) (fault' := 0) (fun _ => rfl))
              have G7' := hid (G7.out.trans S7.out.2)
              have HBI7' := hid (HBI7.out.far (p := ⟨g, 8, none⟩) ny (.int .i64 (kk : Int)))
              have HYL7 : Hid (yb < (w7.setCell ⟨g, 8, none⟩ (.int .i64 (kk : Int))).heap.size) := hid (by simpa [World.setCell] using K7.out.2.2)
              have iS : Hid (∀ W F9 pcx, RvTick W F9 (R + 1) g gR i cs pcx tk 0 { d with stack := d.stack.take (d.stack.length - 1) } → Calls Tryz.prog 56 #[.pointer (some ⟨g, 0, none⟩), .agg #[.int .i64 13, .int .i64 (kk : Int)]] W fun e w' => e = .returned (.tuple #[]) ∧ ∃ F', RvTick w' F' (R + 1) g gR i cs pcx tk 0 { d with stack := d.stack.take (d.stack.length - 1) } ∧ Goes F9 W F' w') := hid (fun W F9 pcx tW => tW.act rfl rfl rfl fun F1 h1 => rvStk_none h1 kk 13 (by simp))
              go_wp2_with fail
            · refine (iS.out _ _ _ T7.out).mono ?_
              rintro e w8 ⟨rfl, F8, ht, hg⟩
              have K8 := hid (hg.keeps (b := yb) K7.out.2.2 K7.out.2.1)
              have HBI8 := hid (show Blk w8 yb 142 _ from K8.out.1.trans HBI7.out)
              have r0 := HBI8.out.cellAt (i := 0) rfl
              have T8 := hid (ht.nx NX)
              have G8 := hid (G7.out.trans hg)
              clear ht hg q0 q1 v8 u8' iS ny ny'
              go_wp2_with fail
              go_roundg m
              case rel => exact ⟨k + 1, _, _, F8, HKM.out.1, by go_num, T8.out, G8.out, FR.out, KR.out, hS1, OR.out, hrn.out⟩
              case measure => exact HKM.out.2
            · refine (iS.out _ _ _ S7.out.1).mono ?_
              rintro e w8 ⟨rfl, F8, ht, hg⟩
              have K8 := hid (hg.keeps (b := yb) HYL7.out K7.out.2.1)
              have HBI8 := hid (show Blk w8 yb 142 _ from K8.out.1.trans HBI7'.out)
              have r0 := HBI8.out.cellAt (i := 0) rfl
              have T8 := hid (ht.nx (kk : Int))
              have G8 := hid (G7'.out.trans hg)
              clear ht hg q0 q1 v8 u8' iS ny ny'
              go_wp2_with fail
              go_roundg m
              case rel => exact ⟨k + 1, _, _, F8, HKM.out.1, by go_num, T8.out, G8.out, FR.out, KR.out, hS1, OR.out, hrn.out⟩
              case measure => exact HKM.out.2
          have hstep : stepD o kk NX tk d = { stackD o kk tk d with next := NX, conf := d.conf || decide (o = 16) } := by unfold stepD; rw [if_neg h12, if_neg h13]
          rw [hstep] at hds
          have hsc : (stackD o kk tk d).sent = d.sent := rfl
          have iS : Hid (∀ W F9, RvTick W F9 (R + 1) g gR i cs NX tk 0 d → Calls Tryz.prog 56 #[.pointer (some ⟨g, 0, none⟩), .agg #[.int .i64 (o : Int), .int .i64 (kk : Int)]] W fun e w' => e = .returned (.tuple #[]) ∧ ∃ F', RvTick w' F' (R + 1) g gR i cs NX tk 0 (stackD o kk tk d) ∧ Goes F9 W F' w') := hid (fun W F9 tW => tW.act (d' := stackD o kk tk d) rfl rfl rfl fun F1 h1 => by
            have h9 := rvStack_any h1 (show d.stack.length ≤ 90 by omega) hml HST.out o HO.out kk (fun _ _ => hneed.1) hneed.2.1
            rw [stackR_mach HO.out] at h9
            exact h9)
          obtain ⟨D, hD⟩ : ∃ D, stackD o kk tk d = D := ⟨_, rfl⟩
          have hDc : D.conf = d.conf := by rw [← hD]; rfl
          have hDs : D.sent = d.sent := hsc.symm ▸ (by rw [← hD]; rfl)
          rw [hD] at iS hds
          have FRx := hFr.out
          rw [hds.out] at FRx
          have KRx := hKr.out
          rw [hds.out] at KRx
          have SRx := hSr.out
          rw [hds.out] at SRx
          have hrx := hrun1.out
          rw [hds.out] at hrx
          have FR := hid FRx
          have KR := hid KRx
          have OR := hid SRx.1
          have hS1 : ({ D with next := NX, conf := d.conf || decide (o = 16) } : VmD).sent.length ≤ k + 1 := by have h9 : ({ D with next := NX, conf := d.conf || decide (o = 16) } : VmD).sent.length ≤ d.sent.length + 1 := SRx.2; omega
          have HRX := hid hrx
          clear FRx KRx SRx hrx hds hrun1 hFr hKr hSr
          have e12 : (((o : Nat) : Int) == 12) = false := by simp; omega
          have e12' : (o == 12) = false := by simp; omega
          have e13 : (((o : Nat) : Int) == 13) = false := by simp; omega
          have e13' : (o == 13) = false := by simp; omega
          have e14 : (((o : Nat) : Int) == 14) = false := by simp; omega
          have e14' : (o == 14) = false := by simp; omega
          have e15 : (((o : Nat) : Int) == 15) = false := by simp; omega
          have e15' : (o == 15) = false := by simp; omega
          have HR16 : Hid (o = 16 → runF i cs tk fu pc0 d0 = runF i cs tk m NX { D with next := NX, conf := true }) := hid (fun h => by subst h; rw [HRX.out, if_pos rfl, if_neg (by decide)]; simp)
          have HR0 : Hid (o = 0 → runF i cs tk fu pc0 d0 = (NX, 0, { D with next := NX })) := hid (fun h => by subst h; rw [HRX.out, if_pos rfl, if_pos rfl, decide_eq_false (by decide), Bool.or_false, ← hDc])
          have HRN : Hid (o ≠ 0 → o ≠ 16 → runF i cs tk fu pc0 d0 = runF i cs tk m NX { D with next := NX }) := hid (fun h h' => by rw [HRX.out, if_pos rfl, if_neg h, decide_eq_false h', Bool.or_false, ← hDc])
          have HFN : Hid (Fine i { D with next := NX }) := hid ⟨FR.out.len, FR.out.st, FR.out.mlen, FR.out.me⟩
          have HFC : Hid (Fine i { D with next := NX, conf := true }) := hid ⟨FR.out.len, FR.out.st, FR.out.mlen, FR.out.me⟩
          clear HRX FR
          clear HEE hneed hop hsc hD hDs h12 h13 hstep hDc
          go_wp2_with fail
          refine (iS.out _ _ S6.out.1).mono ?_
          rintro e w8 ⟨rfl, F8, ht, hg⟩
          have K8 := hid (hg.keeps (b := yb) HYL6.out HYF.out)
          have HBI8 := hid (show Blk w8 yb 142 _ from K8.out.1.trans HBI6.out)
          have r0 := HBI8.out.cellAt (i := 0) rfl
          have T8 := hid ht
          have G8 := hid (G6.out.trans hg)
          obtain ⟨a8, Ao8, cO8, _, _, _, _, _, u0', u1', _, ufh, _, hg8, hh8, _⟩ := T8.out.cells
          have vf := ufh 1
          have nyh : yb ≠ R + 1 := fun e => K8.out.2.1 (e ▸ hh8)
          have nyh' : R + 1 ≠ yb := nyh.symm
          clear ht hg p0 p1 p2 f8 f12 t8' t12' iS ny ny' hg8 hh8 ufh e12 e12' e13 e13' e14 e14' e15 e15'
          by_cases h16 : o = 16
          case pos =>
            subst h16
            have hrn := hid (HR16.out rfl)
            have FR := HFC
            clear HR16 HR0 HRN HFN HFC
            have S9 := hid T8.out.confSet
            have T9 := hid (S9.out.1.nx NX)
            have G9 := hid (G8.out.trans S9.out.2)
            go_wp2_with fail
            go_roundg m
            case rel => exact ⟨k + 1, _, _, F8, HKM.out.1, by go_num, T9.out, G9.out, FR.out, KR.out, hS1, OR.out, hrn.out⟩
            case measure => exact HKM.out.2
          have e16 : (((o : Nat) : Int) == 16) = false := by simp; omega
          have e16' : (o == 16) = false := by simp; omega
          by_cases ho : o = 0
          case pos =>
            have e0 : (((o : Nat) : Int) == 0) = true := by simp [ho]
            have e0' : (o == 0) = true := by simp [ho]
            have hrn := hid (HR0.out ho)
            have T9 := hid (T8.out.nx NX)
            clear h16 ho HR16 HR0 HRN HFN HFC
            go_wp2_with fail
            go_meet
            exact ⟨NX, 0, _, F8, T9.out, G8.out, hrn.out⟩
          have e0 : (((o : Nat) : Int) == 0) = false := by simp [ho]
          have e0' : (o == 0) = false := by simp [ho]
          have hrn := hid (HRN.out ho h16)
          have FR := HFN
          have T9 := hid (T8.out.nx NX)
          clear h16 ho HR16 HR0 HRN HFN HFC
          go_wp2_with fail
          go_roundg m
          case rel => exact ⟨k + 1, _, _, F8, HKM.out.1, by go_num, T9.out, G8.out, FR.out, KR.out, hS1, OR.out, hrn.out⟩
          case measure => exact HKM.out.2
  case rest =>
    obtain ⟨pc, f, d, F', hT, hG, hrn⟩ := hcut
    obtain ⟨az, Aoz, cOz, F2z, mz, rz, hsz, haz, hFz⟩ := hT
    have hRz := HR3.out.apart hG.apart (fun h9 => HLF.out R h9 rfl)
    have hnR : ¬ F' R := fun h9 => (hG.foot R h9).elim (fun h8 => HLF.out R h8 rfl) (fun h8 => by have := HR3.out.lt; omega)
    have ngR : g ≠ R := fun e => mz.blk.ty.ne_ hRz.ty (by decide) e
    have ngR' : R ≠ g := fun e => ngR e.symm
    have ngh : g ≠ R + 1 := fun e => mz.blk.ty.ne_ rz.blk.ty (by decide) e
    have ngh' : R + 1 ≠ g := fun e => ngh e.symm
    have t11 : wc.cell? ⟨g, 11, none⟩ = some (.int .i64 tk) := mz.blk.cellAt rfl
    have tf := mz.blk.frozen 11
    have t0 : wc.cell? ⟨R + 1, 0, none⟩ = some (.slice Aoz d.sent.length cOz) := rz.blk.cellAt rfl
    have t1 : wc.cell? ⟨R + 1, 1, none⟩ = some (.bool d.conf) := rz.blk.cellAt rfl
    have r0 : wc.cell? ⟨R, 0, none⟩ = some (.slice none 0 0) := hRz.cellAt rfl
    have r1 : wc.cell? ⟨R, 1, none⟩ = some (.bool false) := hRz.cellAt rfl
    have rf : ∀ k, wc.frozen? ⟨R, k, none⟩ = false := fun k => hRz.frozen k
    have MZ := hid mz
    have RZ := hid rz
    have SZ := hid hsz
    have AZ := hid haz
    have FZ := hid hFz
    have RRZ := hid hRz
    have NR := hid hnR
    have GZ := hid hG
    have RN := hid hrn
    clear mz rz hsz haz hFz hRz hnR hG hrn
    go_wp2_with fail
    have q0 : (((wc.setCell ⟨g, 11, none⟩ (.int .i64 (tk + 1))).setCell ⟨R, 0, none⟩ (.slice Aoz d.sent.length cOz)).setCell ⟨R, 1, none⟩ (.bool d.conf)).cell? ⟨R, 0, none⟩ = some (.slice Aoz d.sent.length cOz) := (((RRZ.out.far (p := ⟨g, 11, none⟩) ngR' _).set_ 0 _).set_ 1 _).cellAt (i := 0) rfl
    have q1 : (((wc.setCell ⟨g, 11, none⟩ (.int .i64 (tk + 1))).setCell ⟨R, 0, none⟩ (.slice Aoz d.sent.length cOz)).setCell ⟨R, 1, none⟩ (.bool d.conf)).cell? ⟨R, 1, none⟩ = some (.bool d.conf) := (((RRZ.out.far (p := ⟨g, 11, none⟩) ngR' _).set_ 0 _).set_ 1 _).cellAt (i := 1) rfl
    refine bodyPost_ret (v := outV Aoz d.sent.length cOz d.conf) (by simp [results, outV, Tryz.results34, go_sem, q0, q1]) rfl ?_
    have hTF := HRn.out _ RN.out
    exact rvTick_end (s' := ⟨pc, d.stack, d.mem, tk + 1, f⟩) MZ.out RZ.out SZ.out AZ.out FZ.out GZ.out (by rw [HRB.out]; exact HB3.out) (by have := HRB.out; omega) (Nat.le_of_eq HRB.out) NR.out
      (((MZ.out.blk.set_ 11 (.int .i64 (tk + 1))).far (p := ⟨R, 0, none⟩) ngR _).far (p := ⟨R, 1, none⟩) ngR _) rfl rfl
      (fun b h8 h9 => (Below.heap_setCell _ _ _ _ h9).trans ((Below.heap_setCell _ _ _ _ h9).trans (Below.heap_setCell _ _ _ _ h8))) (by simp [World.setCell]) rfl rfl rfl _ hTF
end
end Go.Proofs.YtidlahljhgglcaaGreat
