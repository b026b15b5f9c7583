/-
  A tick of a machine.
-/
import Derived.Test.YtidlahljhgglcaaGreatVmDisp
namespace Go.Proofs.YtidlahljhgglcaaGreat
open Go.RowKit Go.ChangeShapes Go.WideShapes Go.ChangeAt

theorem runF_some {i : ImgS} {cs : List ChanS} {ticks : Int} {n : Nat} {pc : Int} {d : VmD} {o : Nat} {a nx : Int} (h : atF i.code pc = some (o, a, nx)) : runF i cs ticks (n + 1) pc d =
    if (deedF i cs ticks o a { d with next := nx }).1 = 0 then (if o = 0 then ((deedF i cs ticks o a { d with next := nx }).2.next, 0, (deedF i cs ticks o a { d with next := nx }).2) else runF i cs ticks n (deedF i cs ticks o a { d with next := nx }).2.next (deedF i cs ticks o a { d with next := nx }).2)
    else (pc, (deedF i cs ticks o a { d with next := nx }).1, (deedF i cs ticks o a { d with next := nx }).2) := by
  rw [runF, h]
def outV (A : Option Addr) (n c : Nat) (conf : Bool) : Value := .agg #[.slice A n c, .bool conf]
theorem fnC_get (o : Nat) (ho : o ≤ 18) : fnC[o]? = some (.func (.func (deedN o)) #[] #[]) := by
  have h19 : o = 0 ∨ o = 1 ∨ o = 2 ∨ o = 3 ∨ o = 4 ∨ o = 5 ∨ o = 6 ∨ o = 7 ∨ o = 8 ∨ o = 9 ∨ o = 10 ∨ o = 11 ∨ o = 12 ∨ o = 13 ∨ o = 14 ∨ o = 15 ∨ o = 16 ∨ o = 17 ∨ o = 18 := by omega
  rcases h19 with rfl | rfl | rfl | rfl | rfl | rfl | rfl | rfl | rfl | rfl | rfl | rfl | rfl | rfl | rfl | rfl | rfl | rfl | rfl <;> rfl
theorem tick_nil (p : Value) (w : World) : Calls Tryz.prog 32 #[.pointer none, p] w fun e w' => e = .returned (outV none 0 0 false) ∧ Below w.heap.size w w' := by
  go_enter Tryz.func32, Tryz.ntmps32
  go_wp2_with fail
  go_returns
  exact ⟨rfl, (Below.refl _ _).alloc (Nat.le_refl _) _⟩
section
variable {w w' : World} {F F1 F2 : Nat → Prop} {h g gs : Nat} {i : ImgS} {a : VmA} {s : VmS} {cs : List ChanS} {ss : Nat → WayS} {pc ticks fault arg : Int} {Ao : Option Addr} {cO : Nat} {d : VmD}
theorem tick_fault (hM : VmAt w F g i s) (hf : s.fault ≠ 0) (p : Value) : Calls Tryz.prog 32 #[.pointer (some ⟨g, 0, none⟩), p] w fun e w' => e = .returned (outV none 0 0 false) ∧ Below w.heap.size w w' := by
  obtain ⟨a, m, _⟩ := hM
  have c0 : w.cell? ⟨g, 12, none⟩ = some (.int .i64 s.fault) := m.blk.cellAt rfl
  have d0 := fun o => cell_alloc c0 o
  have y0 : (s.fault != 0) = true := by simpa using hf
  generalize s.fault = f at *
  clear m hf
  go_enter Tryz.func32, Tryz.ntmps32
  go_wp2_with fail
  go_returns
  exact ⟨rfl, (Below.refl _ _).alloc (Nat.le_refl _) _⟩
/-- Where the loop of a tick begins. -/
theorem tick_start (hM : VmAt w F1 g i s) (hS : SetAt w F2 gs cs ss) (hdis : ∀ b, F1 b → ¬ F2 b) (hb : Below w.heap.size w w') (hH : Blk w' h 131 (runC g gs 0 0 none 0 0 false)) (hh : w.heap.size ≤ h) :
    TickAt w' (fun b => F1 b ∨ F2 b ∨ b = h) h g gs i cs s.pc s.ticks s.fault 0 (startD s ss) := by
  obtain ⟨a, m, hF1⟩ := hM
  have hlt : ∀ b, MachF g a b → b < w.heap.size := fun b h9 => m.lt h9
  have hno : ∀ b, ¬ Foot none b := fun b h9 => by obtain ⟨x, hx, _⟩ := h9; cases hx
  refine ⟨a, none, 0, F2, m.belowS hb, ⟨hH, World.ownsRow_nil _ _ _ _⟩, hS.belowS hb, fun b h9 => ⟨fun h8 => hdis b ((hF1 b).2 h8) h9, ?_⟩, fun b => ?_⟩
  · rintro (rfl | h8)
    · have := hS.lt h9; omega
    · exact hno b h8
  · constructor
    · rintro (h9 | h9 | h9)
      · exact .inl ((hF1 b).1 h9)
      · exact .inr (.inr h9)
      · exact .inr (.inl (.inl h9))
    · rintro (h9 | (h9 | h9) | h9)
      · exact .inl ((hF1 b).2 h9)
      · exact .inr (.inr h9)
      · exact absurd h9 (hno b)
      · exact .inr (.inl h9)
/-- What a tick leaves. -/
def TPost (F1 F2 : Nat → Prop) (w : World) (g gs : Nat) (i : ImgS) (cs : List ChanS) (r : VmS × (Nat → WayS) × List (Int × Int) × Bool) (e : Ending) (w' : World) : Prop :=
  ∃ F1' F2' A c, e = .returned (outV A r.2.2.1.length c r.2.2.2) ∧ VmAt w' F1' g i r.1 ∧ SetAt w' F2' gs cs r.2.1 ∧ (∀ b, F1' b → ¬ F2' b) ∧ (∀ b, Foot A b → ¬ F1' b ∧ ¬ F2' b) ∧
    w'.ownsRow 0 116 2 (.slice A r.2.2.1.length c) r.2.2.1.length (r.2.2.1.flatMap sentC) ∧ Goes (fun b => F1 b ∨ F2 b) w (fun b => F1' b ∨ F2' b ∨ Foot A b) w'
/-- From the loop's end to the tick's. -/
theorem tick_end {w3 wz wf : World} {Fz F2z : Nat → Prop} {R : Nat} {s' : VmS} (mz : MachIn wz g i a (machS pc ticks fault d)) (rz : RunIn wz h g gs arg Ao cO d) (hsz : SetAt wz F2z gs cs d.ss) (haz : ∀ b, F2z b → ¬ MachF g a b ∧ ¬ RunF h Ao b) (hFz : ∀ b, Fz b ↔ MachF g a b ∨ RunF h Ao b ∨ F2z b)
    (hG : Goes (fun b => F1 b ∨ F2 b ∨ b = h) w3 Fz wz) (hb : Below w.heap.size w w3) (hh : w.heap.size ≤ h) (hRw : w.heap.size ≤ R) (hR : ¬ Fz R)
    (hblk : Blk wf g 128 (machC i a s')) (h1 : s'.stack = d.stack) (h2 : s'.mem = d.mem) (hk : ∀ b, b ≠ g → b ≠ R → wf.heap[b]? = wz.heap[b]?) (hsize : wz.heap.size ≤ wf.heap.size) (hos : wf.os = wz.os) (htp : wf.tape = wz.tape) (hou : wf.output = wz.output)
    (r : VmS × (Nat → WayS) × List (Int × Int) × Bool) (hr : r = (s', d.ss, d.sent, d.conf)) : TPost F1 F2 w g gs i cs r (.returned (outV Ao d.sent.length cO d.conf)) wf := by
  subst hr
  have hg0 : Fz g := (hFz g).2 (.inl (.inl rfl))
  have hnR : ∀ b, Fz b → b ≠ R := fun b hf e => hR (e ▸ hf)
  have hkm : ∀ b, MachF g a b → b ≠ g → wf.heap[b]? = wz.heap[b]? := fun b hm hn => hk b hn (hnR b ((hFz b).2 (.inl hm)))
  have hm : MachIn wf g i a s' := by
    obtain ⟨q1, q2, q3, q4, q5⟩ := s'
    simp only at h1 h2
    subst h1 h2
    exact ⟨hblk, mz.cd.keep fun b h9 => hkm b (.inr (.inl h9)) (fun e => mz.off.1 (e ▸ h9)), mz.st.keep fun b h9 => hkm b (.inr (.inr (.inl h9))) (fun e => mz.off.2.1 (e ▸ h9)), mz.me.keep fun b h9 => hkm b (.inr (.inr (.inr h9))) (fun e => mz.off.2.2 (e ▸ h9)), mz.ap⟩
  refine ⟨MachF g a, F2z, Ao, cO, rfl, hm.at_, hsz.keep hsize fun b h9 => hk b (fun e => (haz b h9).1 (.inl e)) (hnR b ((hFz b).2 (.inr (.inr h9)))), fun b h9 h8 => (haz b h8).1 h9, fun b h9 => ⟨rz.apart mz (.inr h9), fun h8 => (haz b h8).2 (.inr h9)⟩, own_keep rz.out fun b h9 => hk b (fun e => rz.apart mz (.inr h9) (.inl e)) (hnR b ((hFz b).2 (.inr (.inl (.inr h9))))), ⟨⟨?_, ?_, ?_, ?_, ?_⟩, ?_⟩⟩
  · exact hos.trans (hG.apart.os.trans hb.os)
  · exact htp.trans (hG.apart.tape.trans hb.tape)
  · exact hou.trans (hG.apart.output.trans hb.output)
  · exact Nat.le_trans hb.size (Nat.le_trans hG.apart.size hsize)
  · intro b hlt hn
    have hn0 : ¬ (F1 b ∨ F2 b ∨ b = h) := fun h9 => h9.elim (fun h8 => hn (.inl h8)) (fun h8 => h8.elim (fun h7 => hn (.inr h7)) (fun h7 => by omega))
    have hz : ¬ Fz b := fun hf => (hG.foot b hf).elim hn0 (fun h9 => by have := hb.size; omega)
    exact (hk b (fun e => hz (e ▸ hg0)) (by omega)).trans ((hG.apart.block b (Nat.lt_of_lt_of_le hlt hb.size) hn0).trans (hb.block b hlt))
  · intro b hb9
    have hz : Fz b := by
      rcases hb9 with h9 | h9 | h9
      · exact (hFz b).2 (.inl h9)
      · exact (hFz b).2 (.inr (.inr h9))
      · exact (hFz b).2 (.inr (.inl (.inr h9)))
    rcases hG.foot b hz with h9 | h9
    · rcases h9 with h9 | h9 | h9
      · exact .inl (.inl h9)
      · exact .inl (.inr h9)
      · exact .inr (by omega)
    · exact .inr (Nat.le_trans hb.size h9)
set_option maxRecDepth 100000 in
set_option maxHeartbeats 4000000 in
theorem tick_any (hM : VmAt w F1 g i s) (hS : SetAt w F2 gs cs ss) (hdis : ∀ b, F1 b → ¬ F2 b) (hI : RightI i) (hs : FineS i s) (hK : KAll cs ss) (hd : ∀ k, k < cs.length → depthAt cs k ≤ 4) (hf : s.fault = 0) (ht0 : 0 ≤ s.ticks) (ht1 : s.ticks ≤ 1000000000) :
    Calls Tryz.prog 32 #[.pointer (some ⟨g, 0, none⟩), .iface 31 (.pointer (some ⟨gs, 0, none⟩))] w (TPost F1 F2 w g gs i cs (tickF i cs s ss)) := by
  have hM0 := hM
  obtain ⟨a, m, _⟩ := hM0
  have c0 : w.cell? ⟨g, 12, none⟩ = some (.int .i64 0) := by rw [← hf]; exact m.blk.cellAt rfl
  have d0 := fun o => cell_alloc c0 o
  obtain ⟨fu, hfu⟩ : ∃ fu : Nat, i.fuel = (fu : Int) := ⟨i.fuel.toNat, by have := hI.2.2.2.2.1; omega⟩
  have hfu32 : fu ≤ 32 := by have := hI.2.2.2.2.1; omega
  have c4 : w.cell? ⟨g, 4, none⟩ = some (.int .i64 (fu : Int)) := by rw [← hfu]; exact m.blk.cellAt rfl
  have HM := hid hM
  have HS := hid hS
  have HFU := hid hfu
  have HMM := hid m
  have HF := hid hf
  have Hdis := hid hdis
  have HHI := hid hI
  have HHS := hid hs
  have HHK := hid hK
  have HHd := hid hd
  clear hM hS hfu m hf hdis hI hs hK hd
  obtain ⟨FA, hFA⟩ : ∃ FA : Array Value, fnC.toArray = FA := ⟨_, rfl⟩
  have hFs : FA.size = 19 := by rw [← hFA]; rfl
  have hF1 : FA.all (·.oneCell') = true := by rw [← hFA]; simp [fnC, Value.oneCell']
  have iD := hid deeds_any
  rw [hFA] at iD
  have HFA := hid hFA
  clear hFA
  go_enter Tryz.func32, Tryz.ntmps32
  go_wp2_with fail
  obtain ⟨w1, hw1, hR1, hH1, hb1, hs1⟩ : ∃ W, ((w.alloc (.cells #[.slice none 0 0, .bool false] 112)).alloc (.cells #[.pointer (some ⟨g, 0, none⟩), .iface 31 (.pointer (some ⟨gs, 0, none⟩)), .int .i64 0, .int .i64 0, .slice none 0 0, .bool false] 131)) = W ∧ Blk W w.heap.size 112 [.slice none 0 0, .bool false] ∧ Blk W (w.heap.size + 1) 131 (runC g gs 0 0 none 0 0 false) ∧ Below w.heap.size w W ∧ w.heap.size + 2 ≤ W.heap.size :=
    ⟨_, rfl, (Blk.new w _ [.slice none 0 0, .bool false]).alloc _, (by
      have := Blk.new (w.alloc (.cells #[.slice none 0 0, .bool false] 112)) 131 (runC g gs 0 0 none 0 0 false)
      rw [show (w.alloc (.cells #[.slice none 0 0, .bool false] 112)).heap.size = w.heap.size + 1 by simp] at this
      exact this), bel_alloc ((Below.refl w.heap.size w).alloc (Nat.le_refl _) _) _, by simp⟩
  rw [hw1]
  clear hw1 d0
  refine (iD.out _).mono ?_
  rintro e w2 ⟨rfl, hb2⟩
  have e4 := fun o => cell_alloc (show w2.cell? ⟨g, 4, none⟩ = some (.int .i64 (fu : Int)) from ((HMM.out.belowS (bel_trans hb1 hb2)).blk.cellAt rfl).trans (by rw [HFU.out])) o
  obtain ⟨w3, hw3, hT3, hR3, hH3, hb3, hsz3⟩ : ∃ W, w2.alloc (.cells FA fnTy) = W ∧ Blk W w2.heap.size fnTy fnC ∧ Blk W w.heap.size 112 [.slice none 0 0, .bool false] ∧ Blk W (w.heap.size + 1) 131 (runC g gs 0 0 none 0 0 false) ∧ Below w.heap.size w W ∧ W.heap.size = w2.heap.size + 1 :=
    ⟨_, rfl, by rw [← HFA.out]; exact Blk.new w2 _ fnC, (hR1.belowS hb2).alloc _, (hH1.belowS hb2).alloc _, bel_alloc (bel_trans hb1 hb2) _, by simp⟩
  have hlt2 : w.heap.size + 2 ≤ w2.heap.size := Nat.le_trans hs1 hb2.size
  have c43 : w3.cell? ⟨g, 4, none⟩ = some (.int .i64 (fu : Int)) := by rw [← hw3]; exact e4 _
  have HT3 := hid hT3
  have HR3 := hid hR3
  have HH3 := hid hH3
  have HB3 := hid hb3
  have HSZ3 := hid hsz3
  have HLT2 := hid hlt2
  clear hR1 hH1 hb1 hs1 hb2 hT3 hR3 hH3 hb3 hsz3 hlt2
  go_wp2_with (refine wpList_store_row rfl fnTy _ _ rfl w2.heap.size FA rfl (by rfl) fnTy nilC.toArray (heap_alloc_new w2 _) (fns_any _ hFs) (by rw [hFs]; rfl) hF1 ?_; rw [World.setRow_alloc_new])
  clear hw3 e4 c43
  have HG0 := hid (tick_start HM.out HS.out Hdis.out HB3.out HH3.out (by omega))
  rw [HF.out] at HG0
  have HFine : Hid (Fine i (startD s ss)) := hid ⟨HHS.out.len, HHS.out.st, HHS.out.mlen, HHS.out.me⟩
  have HRn : Hid (∀ r, runF i cs s.ticks fu s.pc (startD s ss) = r → tickF i cs s ss = (⟨r.1, r.2.2.stack, r.2.2.mem, s.ticks + 1, r.2.1⟩, r.2.2.ss, r.2.2.sent, r.2.2.conf)) := hid (fun r hr => by
    unfold tickF
    rw [if_neg (by rw [HF.out]; simp), HFU.out, Int.toNat_natCast, hr])
  have HKS : Hid (KAll cs (startD s ss).ss) := hid HHK.out
  have HSS : Hid ((startD s ss).sent.length = 0) := hid rfl
  have HS0 : Hid (∀ q ∈ (startD s ss).sent, SentOk i q) := hid (by simp [startD])
  have HS0 : Hid (∀ q ∈ (startD s ss).sent, SentOk i q) := hid (by simp [startD])
  have HLF : Hid (∀ b, (F1 b ∨ F2 b ∨ b = w.heap.size + 1) → b ≠ w.heap.size ∧ b ≠ w2.heap.size) := hid (fun b hb => by
    have h2 := HLT2.out
    rcases hb with h9 | h9 | h9
    · have := HM.out.lt h9; omega
    · have := HS.out.lt h9; omega
    · omega)
  generalize hRB : w.heap.size = R at *
  generalize hTB : w2.heap.size = TB at *
  generalize startD s ss = d0 at *
  generalize hpc0 : s.pc = pc0 at *
  generalize htk : s.ticks = tk at *
  have HRB := hid hRB
  have HTB := hid hTB
  have HPC := hid hpc0
  have HTK := hid htk
  clear hRB hTB hpc0 htk c0 c4 iD
  go_loopg [7, 8, 9, 31] fu (fun m v7 v8 v9 v31 wr => ∃ (k : Nat) (pc arg : Int) (d : VmD) (F' : Nat → Prop), k + m = fu ∧ v31 = .int .i64 (k : Int) ∧ TickAt wr F' (R + 1) g gs i cs pc tk 0 arg d ∧ Goes (fun b => F1 b ∨ F2 b ∨ b = R + 1) w3 F' wr ∧ Fine i d ∧ KAll cs d.ss ∧ d.sent.length ≤ k ∧ (∀ q ∈ d.sent, SentOk i q) ∧ runF i cs tk fu pc0 d0 = runF i cs tk m pc d)
  case atStart => exact ⟨0, _, 0, _, _, by omega, rfl, HG0.out, Goes.refl _ _, HFine.out, HKS.out, by rw [HSS.out]; exact Nat.le_refl _, HS0.out, rfl⟩
  case round =>
    -- BEGIN-ROUND
    obtain ⟨k, pc, arg, d, F', hkm, rfl, hT, hG, hFi, hKd, hsn, hok, hrun⟩ := hrel
    have T := hid hT
    have G := hid hG
    have FI := hid hFi
    have KD := hid hKd
    have RN := hid hrun
    have OK := hid hok
    clear hT hG hFi hKd hrun hok
    by_cases hkf : k < fu
    case neg =>
      have hk0 : gk = 0 := by omega
      have hrn : Hid (runF i cs tk fu pc0 d0 = (pc, 0, d)) := hid (by rw [RN.out, hk0]; rfl)
      obtain rfl : k = fu := by omega
      have y0 : decide ((k : Int) < (k : Int)) = false := decide_eq_false (by omega)
      clear hkm hk0 hkf RN
      obtain ⟨az, Aoz, cOz, F2z, mz, rz, hsz, haz, hFz⟩ := T.out
      have hRz := HR3.out.apart G.out.apart (fun h9 => (HLF.out R h9).1 rfl)
      have hnR : ¬ _ := fun h9 => (G.out.foot R h9).elim (fun h8 => (HLF.out R h8).1 rfl) (fun h8 => by have := HR3.out.lt; omega)
      have ngR : g ≠ R := fun e => mz.blk.ty.ne_ hRz.ty (by decide) e
      have ngR' : R ≠ g := fun e => ngR e.symm
      have ngh : g ≠ R + 1 := fun e => mz.blk.ty.ne_ rz.blk.ty (by decide) e
      have ngh' : R + 1 ≠ g := fun e => ngh e.symm
      have t11 : wr.cell? ⟨g, 11, none⟩ = some (.int .i64 tk) := mz.blk.cellAt rfl
      have tf := mz.blk.frozen 11
      have t4 : wr.cell? ⟨R + 1, 4, none⟩ = some (.slice Aoz (d).sent.length cOz) := rz.blk.cellAt rfl
      have t5 : wr.cell? ⟨R + 1, 5, none⟩ = some (.bool (d).conf) := rz.blk.cellAt rfl
      have r0 : wr.cell? ⟨R, 0, none⟩ = some (.slice none 0 0) := hRz.cellAt rfl
      have r1 : wr.cell? ⟨R, 1, none⟩ = some (.bool false) := hRz.cellAt rfl
      have rf : ∀ k, wr.frozen? ⟨R, k, none⟩ = false := fun k => hRz.frozen k
      have MZ := hid mz
      have RZ := hid rz
      have SZ := hid hsz
      have AZ := hid haz
      have FZ := hid hFz
      have RRZ := hid hRz
      have NR := hid hnR
      clear mz rz hsz haz hFz hRz hnR
      go_wp2_with fail
      have q0 : (((wr.setCell ⟨g, 11, none⟩ (.int .i64 (tk + 1))).setCell ⟨R, 0, none⟩ (.slice Aoz (d).sent.length cOz)).setCell ⟨R, 1, none⟩ (.bool (d).conf)).cell? ⟨R, 0, none⟩ = some (.slice Aoz (d).sent.length cOz) := (((RRZ.out.far (p := ⟨g, 11, none⟩) ngR' _).set_ 0 _).set_ 1 _).cellAt (i := 0) rfl
      have q1 : (((wr.setCell ⟨g, 11, none⟩ (.int .i64 (tk + 1))).setCell ⟨R, 0, none⟩ (.slice Aoz (d).sent.length cOz)).setCell ⟨R, 1, none⟩ (.bool (d).conf)).cell? ⟨R, 1, none⟩ = some (.bool (d).conf) := (((RRZ.out.far (p := ⟨g, 11, none⟩) ngR' _).set_ 0 _).set_ 1 _).cellAt (i := 1) rfl
      refine bodyPost_ret (v := outV Aoz (d).sent.length cOz (d).conf) (by simp [results, outV, Tryz.results32, go_sem, q0, q1]) rfl ?_
      have hTF := HRn.out _ hrn.out
      exact tick_end (s' := ⟨pc, (d).stack, (d).mem, tk + 1, 0⟩) MZ.out RZ.out SZ.out AZ.out FZ.out G.out (by rw [HRB.out]; exact HB3.out) (by have := HRB.out; omega) (Nat.le_of_eq HRB.out) NR.out
        (((MZ.out.blk.set_ 11 (.int .i64 (tk + 1))).far (p := ⟨R, 0, none⟩) ngR _).far (p := ⟨R, 1, none⟩) ngR _) rfl rfl
        (fun b h8 h9 => (Below.heap_setCell _ _ _ _ h9).trans ((Below.heap_setCell _ _ _ _ h9).trans (Below.heap_setCell _ _ _ _ h8))) (by simp [World.setCell]) rfl rfl rfl _ hTF
    have y0 : decide ((k : Int) < (fu : Int)) = true := decide_eq_true (by omega)
    have y0' : decide (k < fu) = true := decide_eq_true hkf
    obtain ⟨m, hm⟩ : ∃ m, gk = m + 1 := ⟨gk - 1, by omega⟩
    obtain ⟨a7, Ao7, cO7, F27, m7, r7, _⟩ := T.out
    have c7 : wr.cell? ⟨g, 7, none⟩ = some (.slice a7.Ac i.code.length a7.cc) := m7.blk.cellAt rfl
    have c8 : wr.cell? ⟨g, 8, none⟩ = some (.int .i64 pc) := m7.blk.cellAt rfl
    have hcl : i.code.length ≤ 1000000 := by have := HHI.out.2.2.2.2.2.2.2; omega
    have iAt := hid (fun W (hb : Below wr.heap.size wr W) => opAt_any a7.Ac i.code.length a7.cc i.code pc W (m7.cd.reads.belowS hb) hcl)
    have hlg := m7.blk.lt
    clear m7 r7
    obtain ⟨OP, AR, NX, E, hatV, hcase⟩ : ∃ OP AR NX E : Int, atV (atF i.code pc) = .tuple #[.agg #[.int .i64 OP, .int .i64 AR], .int .i64 NX, .int .i64 E] ∧ ((atF i.code pc = none ∧ E = 19) ∨ ∃ o : Nat, atF i.code pc = some (o, AR, NX) ∧ OP = (o : Int) ∧ E = 0) := by
      cases hat : atF i.code pc with
      | none => exact ⟨0, 0, 0, 19, rfl, .inl ⟨rfl, rfl⟩⟩
      | some x => exact ⟨_, _, _, 0, rfl, .inr ⟨_, rfl, rfl, rfl⟩⟩
    rw [hatV] at iAt
    have HCASE := hid hcase
    clear hcase hatV
    have n1 : g ≠ wr.heap.size := by omega
    have n2 : wr.heap.size ≠ g := by omega
    go_upto_region 6 with fail
    go_cut [7, 8, 9] (fun s7 s8 s9 wc => ∃ yb : Nat, s7 = .pointer (some ⟨yb, 0, none⟩) ∧ s8 = .int .i64 NX ∧ s9 = .int .i64 E ∧ Blk wc yb 136 [.int .i64 OP, .int .i64 AR] ∧ Below wr.heap.size wr wc ∧ wr.heap.size ≤ yb)
    case first =>
      go_region_held3 (fun w' => w'.cell? ⟨g, 7, none⟩ = some (.slice a7.Ac i.code.length a7.cc) ∧ w'.cell? ⟨g, 8, none⟩ = some (.int .i64 pc)) (go_keep)
        (first
          | (go_at_call 50; refine (iAt.out _ ?_).mono ?_; (first | exact Below.refl _ _ | exact bel_drewV (Below.refl _ _) | exact bel_alloc (Below.refl _ _) _ | exact bel_drewV (bel_alloc (Below.refl _ _) _)); rintro e wA ⟨rfl, hbA'⟩; have hbA : Below wr.heap.size wr wA := (by first | exact hbA' | exact bel_trans (bel_alloc (Below.refl wr.heap.size wr) _) hbA' | exact bel_trans (bel_drewV (bel_alloc (Below.refl wr.heap.size wr) _)) hbA' | exact bel_trans (bel_drewV (Below.refl wr.heap.size wr)) hbA'); have HBA := hid hbA; (try (have hbx : Blk wA wr.heap.size 136 [.int .i64 0, .int .i64 0] := (by first | exact (Blk.new wr _ [.int .i64 0, .int .i64 0]).belowS hbA' | exact ((Blk.new wr _ [.int .i64 0, .int .i64 0]).drew).belowS hbA'))); (try (have s0 : wA.cell? ⟨wr.heap.size, 0, none⟩ = some (.int .i64 0) := hbx.cellAt rfl)); (try (have s1 : wA.cell? ⟨wr.heap.size, 1, none⟩ = some (.int .i64 0) := hbx.cellAt rfl)); (try (have sf : ∀ k, wA.frozen? ⟨wr.heap.size, k, none⟩ = false := fun k => hbx.frozen k)); (try have HBX := hid hbx); (try clear hbx); have z7 : wA.cell? ⟨g, 7, none⟩ = some (.slice a7.Ac i.code.length a7.cc) := (hbA.cell (p := ⟨g, 7, none⟩) hlg).trans c7; have z8 : wA.cell? ⟨g, 8, none⟩ = some (.int .i64 pc) := (hbA.cell (p := ⟨g, 8, none⟩) hlg).trans c8; have z7a := (fun o => cell_allocT z7 o); have z8a := (fun o => cell_allocT z8 o); clear hbA hbA'))
      all_goals
        clear z7 z8 z7a z8a c7 c8 n1 n2
        first
          | (go_wp2_with fail; go_meet; exact ⟨_, rfl, rfl, rfl, Blk.new _ _ [.int .i64 OP, .int .i64 AR], bel_alloc HBA.out _, HBA.out.size⟩)
          | (go_wp2_with fail; go_meet; exact ⟨_, rfl, rfl, rfl, (HBX.out.set_ 0 _).set_ 1 _, (HBA.out.setCell (p := ⟨wr.heap.size, 0, none⟩) (Nat.le_refl _) _).setCell (p := ⟨wr.heap.size, 1, none⟩) (Nat.le_refl _) _, Nat.le_refl _⟩)
    case rest =>
      obtain ⟨yb, rfl, rfl, rfl, hbI, hbc, hge⟩ := hcut
      have hTc := T.out.belowS hbc
      have hGc := G.out.trans (Goes.of_below (F := F') hbc)
      have hyF : ¬ F' yb := fun h9 => by have := T.out.lt h9; omega
      obtain ⟨ac, Aoc, cOc, t0, t1, t2, t3, t4, t5, _, _, _, _, _, _, tf⟩ := hTc.cells
      have tf2 := tf 2
      have tf3 := tf 3
      have b1 : wc.cell? ⟨yb, 1, none⟩ = some (.int .i64 AR) := hbI.cellAt rfl
      have b0 : wc.cell? ⟨yb, 0, none⟩ = some (.int .i64 OP) := hbI.cellAt rfl
      have hs2 := hTc.runSet (k := 2) (v := .int .i64 AR) (d' := d) (arg' := AR) rfl rfl rfl rfl (fun _ _ => rfl)
      have hs3 := hs2.1.runSet (k := 3) (v := .int .i64 NX) (d' := { d with next := NX }) (arg' := AR) rfl rfl rfl rfl (fun _ _ => rfl)
      have hFh : F' (R + 1) := by
        obtain ⟨_, _, _, _, _, _, _, _, h5⟩ := hTc
        exact (h5 _).2 (.inr (.inl (.inl rfl)))
      have hny : yb ≠ R + 1 := fun e => hyF (e ▸ hFh)
      have hny' : R + 1 ≠ yb := fun e => hny e.symm
      have hbI3 := (hbI.far (p := ⟨R + 1, 2, none⟩) hny (.int .i64 AR)).far (p := ⟨R + 1, 3, none⟩) hny (.int .i64 NX)
      have hG3 := (hGc.trans hs2.2).trans hs3.2
      have T3 := hid hs3.1
      have G3 := hid hG3
      have I3 := hid hbI3
      have HYF := hid hyF
      clear hTc hGc hyF tf hs2 hs3 hG3 hbI3 hbI hbc hge T G t0 t1 t4 t5 hFh iAt c7 c8 n1 n2 hlg
      rcases HCASE.out with ⟨hat, hE⟩ | ⟨o, hat, hOP, hE⟩
      · subst hE
        have hrn : Hid (runF i cs tk fu pc0 d0 = (pc, 19, d)) := hid (by rw [RN.out, hm]; unfold runF; rw [hat])
        have hgc : wc.frozen? ⟨g, 12, none⟩ = false ∧ wc.cell? ⟨g, 12, none⟩ = some (.int .i64 0) ∧ g ≠ R + 1 := by
          obtain ⟨a9, A9, c9, F9, m9, r9, _⟩ := T3.out
          have hgh : g ≠ R + 1 := fun e => m9.blk.ty.ne_ r9.blk.ty (by decide) e
          have e1 : ((wc.setCell ⟨R + 1, 2, none⟩ (.int .i64 AR)).setCell ⟨R + 1, 3, none⟩ (.int .i64 NX)).heap[g]? = wc.heap[g]? := (Below.heap_setCell _ _ _ _ hgh).trans (Below.heap_setCell _ _ _ _ hgh)
          have hb9 : Blk wc g 128 (machC i a9 (machS pc tk 0 { d with next := NX })) := e1.symm.trans m9.blk
          exact ⟨hb9.frozen 12, hb9.cellAt rfl, hgh⟩
        obtain ⟨gf12, g12, ngh0⟩ := hgc
        have ngh1 : R + 1 ≠ g := fun e => ngh0 e.symm
        clear hat HCASE RN
        go_upto_region 15 with fail
        have hs4 := T3.out.machSet (k := 12) (v := .int .i64 19) (pc' := pc) (ticks' := tk) (fault' := 19) (fun _ => rfl)
        obtain ⟨wz, hwz, Tz, Gz⟩ : ∃ W, ((wc.setCell ⟨R + 1, 2, none⟩ (.int .i64 AR)).setCell ⟨R + 1, 3, none⟩ (.int .i64 NX)).setCell ⟨g, 12, none⟩ (.int .i64 19) = W ∧ TickAt W F' (R + 1) g gs i cs pc tk 19 AR { d with next := NX } ∧ Goes (fun b => F1 b ∨ F2 b ∨ b = R + 1) w3 F' W := ⟨_, rfl, hs4.1, G3.out.trans hs4.2⟩
        rw [hwz]
        clear hwz hs4 t2 t3 tf2 tf3 b0 b1 gf12 g12 ngh0 ngh1 hny hny'
        obtain ⟨az, Aoz, cOz, F2z, mz, rz, hsz, haz, hFz⟩ := Tz
        have hRz := HR3.out.apart Gz.apart (fun h9 => (HLF.out R h9).1 rfl)
        have hnR : ¬ _ := fun h9 => (Gz.foot R h9).elim (fun h8 => (HLF.out R h8).1 rfl) (fun h8 => by have := HR3.out.lt; omega)
        have ngR : g ≠ R := fun e => mz.blk.ty.ne_ hRz.ty (by decide) e
        have ngR' : R ≠ g := fun e => ngR e.symm
        have ngh : g ≠ R + 1 := fun e => mz.blk.ty.ne_ rz.blk.ty (by decide) e
        have ngh' : R + 1 ≠ g := fun e => ngh e.symm
        have t11 : wz.cell? ⟨g, 11, none⟩ = some (.int .i64 tk) := mz.blk.cellAt rfl
        have tf := mz.blk.frozen 11
        have t4 : wz.cell? ⟨R + 1, 4, none⟩ = some (.slice Aoz ({ d with next := NX }).sent.length cOz) := rz.blk.cellAt rfl
        have t5 : wz.cell? ⟨R + 1, 5, none⟩ = some (.bool ({ d with next := NX }).conf) := rz.blk.cellAt rfl
        have r0 : wz.cell? ⟨R, 0, none⟩ = some (.slice none 0 0) := hRz.cellAt rfl
        have r1 : wz.cell? ⟨R, 1, none⟩ = some (.bool false) := hRz.cellAt rfl
        have rf : ∀ k, wz.frozen? ⟨R, k, none⟩ = false := fun k => hRz.frozen k
        have MZ := hid mz
        have RZ := hid rz
        have SZ := hid hsz
        have AZ := hid haz
        have FZ := hid hFz
        have RRZ := hid hRz
        have NR := hid hnR
        clear mz rz hsz haz hFz hRz hnR
        go_wp2_with fail
        have q0 : (((wz.setCell ⟨g, 11, none⟩ (.int .i64 (tk + 1))).setCell ⟨R, 0, none⟩ (.slice Aoz ({ d with next := NX }).sent.length cOz)).setCell ⟨R, 1, none⟩ (.bool ({ d with next := NX }).conf)).cell? ⟨R, 0, none⟩ = some (.slice Aoz ({ d with next := NX }).sent.length cOz) := (((RRZ.out.far (p := ⟨g, 11, none⟩) ngR' _).set_ 0 _).set_ 1 _).cellAt (i := 0) rfl
        have q1 : (((wz.setCell ⟨g, 11, none⟩ (.int .i64 (tk + 1))).setCell ⟨R, 0, none⟩ (.slice Aoz ({ d with next := NX }).sent.length cOz)).setCell ⟨R, 1, none⟩ (.bool ({ d with next := NX }).conf)).cell? ⟨R, 1, none⟩ = some (.bool ({ d with next := NX }).conf) := (((RRZ.out.far (p := ⟨g, 11, none⟩) ngR' _).set_ 0 _).set_ 1 _).cellAt (i := 1) rfl
        refine bodyPost_ret (v := outV Aoz ({ d with next := NX }).sent.length cOz ({ d with next := NX }).conf) (by simp [results, outV, Tryz.results32, go_sem, q0, q1]) rfl ?_
        have hTF := HRn.out _ hrn.out
        exact tick_end (s' := ⟨pc, ({ d with next := NX }).stack, ({ d with next := NX }).mem, tk + 1, 19⟩) MZ.out RZ.out SZ.out AZ.out FZ.out Gz (by rw [HRB.out]; exact HB3.out) (by have := HRB.out; omega) (Nat.le_of_eq HRB.out) NR.out
          (((MZ.out.blk.set_ 11 (.int .i64 (tk + 1))).far (p := ⟨R, 0, none⟩) ngR _).far (p := ⟨R, 1, none⟩) ngR _) rfl rfl
          (fun b h8 h9 => (Below.heap_setCell _ _ _ _ h9).trans ((Below.heap_setCell _ _ _ _ h9).trans (Below.heap_setCell _ _ _ _ h8))) (by simp [World.setCell]) rfl rfl rfl _ hTF
      · subst hE
        subst hOP
        have hbo : 0 ≤ AR ∧ o ≤ 18 := ⟨(atF_some hat).1, (atF_some hat).2.2.1⟩
        have hFi : Fine i { d with next := NX } := ⟨FI.out.len, FI.out.st, FI.out.mlen, FI.out.me⟩
        obtain ⟨r, hr⟩ : ∃ r, deedF i cs tk o AR { d with next := NX } = r := ⟨_, rfl⟩
        have hFr := deedF_fine hFi cs tk o AR
        have hKr : KAll cs (deedF i cs tk o AR { d with next := NX }).2.ss := deedF_kall (d := { d with next := NX }) KD.out tk o AR
        have hSr := deedF_sent hFi cs tk o hbo.1 OK.out
        rw [hr] at hFr hKr hSr
        have hrun2 : Hid (runF i cs tk fu pc0 d0 = if r.1 = 0 then (if o = 0 then (r.2.next, 0, r.2) else runF i cs tk m r.2.next r.2) else (pc, r.1, r.2)) := hid (by rw [RN.out, hm, runF_some hat, hr])
        have iDeed := hid (fun W (tW : TickAt W F' (R + 1) g gs i cs pc tk 0 AR { d with next := NX }) => deed_any tW HHI.out hFi KD.out HHd.out (show d.sent.length ≤ 1000 by omega) hbo.1 o hbo.2)
        simp only [hr] at iDeed
        obtain ⟨E1, d1⟩ := r
        simp only at hFr hKr hSr hrun2 iDeed
        have hS1 : d1.sent.length ≤ k + 1 := by
          have h9 : d1.sent.length ≤ d.sent.length + 1 := hSr.2
          omega
        have FR := hid hFr
        have KR := hid hKr
        have OR := hid hSr.1
        have HO18 := hid hbo.2
        have HKM : Hid (k + 1 + m = fu ∧ m < gk) := hid (by omega)
        clear hFr hKr hSr hFi hr hat HCASE RN FI KD OK hm
        go_upto_region 9 with fail
        obtain ⟨w9, hw9, T9, G9, I9⟩ : ∃ W, (wc.setCell ⟨R + 1, 2, none⟩ (.int .i64 AR)).setCell ⟨R + 1, 3, none⟩ (.int .i64 NX) = W ∧ Hid (TickAt W F' (R + 1) g gs i cs pc tk 0 AR { d with next := NX }) ∧ Hid (Goes (fun b => F1 b ∨ F2 b ∨ b = R + 1) w3 F' W) ∧ Hid (Blk W yb 136 [.int .i64 (o : Int), .int .i64 AR]) := ⟨_, rfl, T3, G3, I3⟩
        rw [hw9]
        clear hw9 T3 G3 I3 t2 t3 tf2 tf3 b0 b1 hny hny'
        have b0 : w9.cell? ⟨yb, 0, none⟩ = some (.int .i64 (o : Int)) := I9.out.cellAt rfl
        have fO : w9.cell? ⟨TB, o, none⟩ = some (.func (.func (deedN o)) #[] #[]) := (HT3.out.apart G9.out.apart (fun h9 => (HLF.out TB h9).2 rfl)).cellAt (fnC_get o hbo.2)
        go_cut [9] (fun s9 wx => ∃ F9, s9 = .int .i64 E1 ∧ TickAt wx F9 (R + 1) g gs i cs pc tk 0 AR d1 ∧ Goes F' w9 F9 wx)
        case first =>
          have h19 : o = 0 ∨ o = 1 ∨ o = 2 ∨ o = 3 ∨ o = 4 ∨ o = 5 ∨ o = 6 ∨ o = 7 ∨ o = 8 ∨ o = 9 ∨ o = 10 ∨ o = 11 ∨ o = 12 ∨ o = 13 ∨ o = 14 ∨ o = 15 ∨ o = 16 ∨ o = 17 ∨ o = 18 := by omega
          clear hrun2 hbo HO18
          rcases h19 with rfl | rfl | rfl | rfl | rfl | rfl | rfl | rfl | rfl | rfl | rfl | rfl | rfl | rfl | rfl | rfl | rfl | rfl | rfl
          all_goals
            simp only [deedN] at fO iDeed
            go_wp2_with fail
            refine (iDeed.out _ T9.out).mono ?_
            rintro e wx ⟨F9, rfl, ht, hg⟩
            have K := hid (And.intro ht hg)
            clear ht hg b0 fO
            go_wp2_with fail
            go_meet
            exact ⟨F9, rfl, K.out.1, K.out.2⟩
        case rest =>
          obtain ⟨F9, rfl, hT10, hG10⟩ := hcut
          have hyb : Blk wc yb 136 [.int .i64 (o : Int), .int .i64 AR] := I9.out.apart hG10.apart HYF.out
          have ybo : wc.cell? ⟨yb, 0, none⟩ = some (.int .i64 (o : Int)) := hyb.cellAt rfl
          have hG11 := G9.out.trans hG10
          have hmore : wc.cell? ⟨R + 1, 3, none⟩ = some (.int .i64 d1.next) ∧ wc.cell? ⟨g, 8, none⟩ = some (.int .i64 pc) ∧ wc.cell? ⟨g, 12, none⟩ = some (.int .i64 0) ∧ (∀ k, wc.frozen? ⟨g, k, none⟩ = false) ∧ g ≠ yb := by
            obtain ⟨a9, A9, c9, F99, m9, r9, _⟩ := hT10
            exact ⟨r9.blk.cellAt rfl, m9.blk.cellAt rfl, m9.blk.cellAt rfl, fun k => m9.blk.frozen k, fun e => m9.blk.ty.ne_ hyb.ty (by decide) e⟩
          obtain ⟨h3c, g8c, g12c, gfz, hgy⟩ := hmore
          have hgy' : yb ≠ g := fun e => hgy e.symm
          have T10 := hid hT10
          have G11 := hid hG11
          clear hT10 hG10 hG11 hyb T9 G9 I9 iDeed b0 fO
          by_cases hE1 : E1 = 0
          case neg =>
            have hrn : Hid (runF i cs tk fu pc0 d0 = (pc, E1, d1)) := hid (by rw [hrun2.out, if_neg hE1])
            have y1 : (E1 != 0) = true := by simpa using hE1
            clear hrun2 hE1
            go_upto_region 15 with fail
            have hs4 := T10.out.machSet (k := 12) (v := .int .i64 E1) (pc' := pc) (ticks' := tk) (fault' := E1) (fun _ => rfl)
            obtain ⟨wz, hwz, Tz, Gz⟩ : ∃ W, wc.setCell ⟨g, 12, none⟩ (.int .i64 E1) = W ∧ TickAt W F9 (R + 1) g gs i cs pc tk E1 AR d1 ∧ Goes (fun b => F1 b ∨ F2 b ∨ b = R + 1) w3 F9 W := ⟨_, rfl, hs4.1, G11.out.trans hs4.2⟩
            rw [hwz]
            clear hwz hs4 h3c g8c g12c gfz hgy hgy' ybo
            obtain ⟨az, Aoz, cOz, F2z, mz, rz, hsz, haz, hFz⟩ := Tz
            have hRz := HR3.out.apart Gz.apart (fun h9 => (HLF.out R h9).1 rfl)
            have hnR : ¬ _ := fun h9 => (Gz.foot R h9).elim (fun h8 => (HLF.out R h8).1 rfl) (fun h8 => by have := HR3.out.lt; omega)
            have ngR : g ≠ R := fun e => mz.blk.ty.ne_ hRz.ty (by decide) e
            have ngR' : R ≠ g := fun e => ngR e.symm
            have ngh : g ≠ R + 1 := fun e => mz.blk.ty.ne_ rz.blk.ty (by decide) e
            have ngh' : R + 1 ≠ g := fun e => ngh e.symm
            have t11 : wz.cell? ⟨g, 11, none⟩ = some (.int .i64 tk) := mz.blk.cellAt rfl
            have tf := mz.blk.frozen 11
            have t4 : wz.cell? ⟨R + 1, 4, none⟩ = some (.slice Aoz (d1).sent.length cOz) := rz.blk.cellAt rfl
            have t5 : wz.cell? ⟨R + 1, 5, none⟩ = some (.bool (d1).conf) := rz.blk.cellAt rfl
            have r0 : wz.cell? ⟨R, 0, none⟩ = some (.slice none 0 0) := hRz.cellAt rfl
            have r1 : wz.cell? ⟨R, 1, none⟩ = some (.bool false) := hRz.cellAt rfl
            have rf : ∀ k, wz.frozen? ⟨R, k, none⟩ = false := fun k => hRz.frozen k
            have MZ := hid mz
            have RZ := hid rz
            have SZ := hid hsz
            have AZ := hid haz
            have FZ := hid hFz
            have RRZ := hid hRz
            have NR := hid hnR
            clear mz rz hsz haz hFz hRz hnR
            go_wp2_with fail
            have q0 : (((wz.setCell ⟨g, 11, none⟩ (.int .i64 (tk + 1))).setCell ⟨R, 0, none⟩ (.slice Aoz (d1).sent.length cOz)).setCell ⟨R, 1, none⟩ (.bool (d1).conf)).cell? ⟨R, 0, none⟩ = some (.slice Aoz (d1).sent.length cOz) := (((RRZ.out.far (p := ⟨g, 11, none⟩) ngR' _).set_ 0 _).set_ 1 _).cellAt (i := 0) rfl
            have q1 : (((wz.setCell ⟨g, 11, none⟩ (.int .i64 (tk + 1))).setCell ⟨R, 0, none⟩ (.slice Aoz (d1).sent.length cOz)).setCell ⟨R, 1, none⟩ (.bool (d1).conf)).cell? ⟨R, 1, none⟩ = some (.bool (d1).conf) := (((RRZ.out.far (p := ⟨g, 11, none⟩) ngR' _).set_ 0 _).set_ 1 _).cellAt (i := 1) rfl
            refine bodyPost_ret (v := outV Aoz (d1).sent.length cOz (d1).conf) (by simp [results, outV, Tryz.results32, go_sem, q0, q1]) rfl ?_
            have hTF := HRn.out _ hrn.out
            exact tick_end (s' := ⟨pc, (d1).stack, (d1).mem, tk + 1, E1⟩) MZ.out RZ.out SZ.out AZ.out FZ.out Gz (by rw [HRB.out]; exact HB3.out) (by have := HRB.out; omega) (Nat.le_of_eq HRB.out) NR.out
              (((MZ.out.blk.set_ 11 (.int .i64 (tk + 1))).far (p := ⟨R, 0, none⟩) ngR _).far (p := ⟨R, 1, none⟩) ngR _) rfl rfl
              (fun b h8 h9 => (Below.heap_setCell _ _ _ _ h9).trans ((Below.heap_setCell _ _ _ _ h9).trans (Below.heap_setCell _ _ _ _ h8))) (by simp [World.setCell]) rfl rfl rfl _ hTF
          subst hE1
          by_cases ho : o = 0
          case pos =>
            have hrn : Hid (runF i cs tk fu pc0 d0 = (d1.next, 0, d1)) := hid (by rw [hrun2.out, if_pos rfl, if_pos ho])
            have y1 : (((o : Nat) : Int) == 0) = true := by simp [ho]
            clear hrun2 ho
            go_upto_region 15 with fail
            have hs4 := T10.out.machSet (k := 8) (v := .int .i64 d1.next) (pc' := d1.next) (ticks' := tk) (fault' := 0) (fun _ => rfl)
            obtain ⟨wz, hwz, Tz, Gz⟩ : ∃ W, wc.setCell ⟨g, 8, none⟩ (.int .i64 d1.next) = W ∧ TickAt W F9 (R + 1) g gs i cs d1.next tk 0 AR d1 ∧ Goes (fun b => F1 b ∨ F2 b ∨ b = R + 1) w3 F9 W := ⟨_, rfl, hs4.1, G11.out.trans hs4.2⟩
            rw [hwz]
            clear hwz hs4 h3c g8c g12c gfz hgy hgy' ybo
            obtain ⟨az, Aoz, cOz, F2z, mz, rz, hsz, haz, hFz⟩ := Tz
            have hRz := HR3.out.apart Gz.apart (fun h9 => (HLF.out R h9).1 rfl)
            have hnR : ¬ _ := fun h9 => (Gz.foot R h9).elim (fun h8 => (HLF.out R h8).1 rfl) (fun h8 => by have := HR3.out.lt; omega)
            have ngR : g ≠ R := fun e => mz.blk.ty.ne_ hRz.ty (by decide) e
            have ngR' : R ≠ g := fun e => ngR e.symm
            have ngh : g ≠ R + 1 := fun e => mz.blk.ty.ne_ rz.blk.ty (by decide) e
            have ngh' : R + 1 ≠ g := fun e => ngh e.symm
            have t11 : wz.cell? ⟨g, 11, none⟩ = some (.int .i64 tk) := mz.blk.cellAt rfl
            have tf := mz.blk.frozen 11
            have t4 : wz.cell? ⟨R + 1, 4, none⟩ = some (.slice Aoz (d1).sent.length cOz) := rz.blk.cellAt rfl
            have t5 : wz.cell? ⟨R + 1, 5, none⟩ = some (.bool (d1).conf) := rz.blk.cellAt rfl
            have r0 : wz.cell? ⟨R, 0, none⟩ = some (.slice none 0 0) := hRz.cellAt rfl
            have r1 : wz.cell? ⟨R, 1, none⟩ = some (.bool false) := hRz.cellAt rfl
            have rf : ∀ k, wz.frozen? ⟨R, k, none⟩ = false := fun k => hRz.frozen k
            have MZ := hid mz
            have RZ := hid rz
            have SZ := hid hsz
            have AZ := hid haz
            have FZ := hid hFz
            have RRZ := hid hRz
            have NR := hid hnR
            clear mz rz hsz haz hFz hRz hnR
            go_wp2_with fail
            have q0 : (((wz.setCell ⟨g, 11, none⟩ (.int .i64 (tk + 1))).setCell ⟨R, 0, none⟩ (.slice Aoz (d1).sent.length cOz)).setCell ⟨R, 1, none⟩ (.bool (d1).conf)).cell? ⟨R, 0, none⟩ = some (.slice Aoz (d1).sent.length cOz) := (((RRZ.out.far (p := ⟨g, 11, none⟩) ngR' _).set_ 0 _).set_ 1 _).cellAt (i := 0) rfl
            have q1 : (((wz.setCell ⟨g, 11, none⟩ (.int .i64 (tk + 1))).setCell ⟨R, 0, none⟩ (.slice Aoz (d1).sent.length cOz)).setCell ⟨R, 1, none⟩ (.bool (d1).conf)).cell? ⟨R, 1, none⟩ = some (.bool (d1).conf) := (((RRZ.out.far (p := ⟨g, 11, none⟩) ngR' _).set_ 0 _).set_ 1 _).cellAt (i := 1) rfl
            refine bodyPost_ret (v := outV Aoz (d1).sent.length cOz (d1).conf) (by simp [results, outV, Tryz.results32, go_sem, q0, q1]) rfl ?_
            have hTF := HRn.out _ hrn.out
            exact tick_end (s' := ⟨d1.next, (d1).stack, (d1).mem, tk + 1, 0⟩) MZ.out RZ.out SZ.out AZ.out FZ.out Gz (by rw [HRB.out]; exact HB3.out) (by have := HRB.out; omega) (Nat.le_of_eq HRB.out) NR.out
              (((MZ.out.blk.set_ 11 (.int .i64 (tk + 1))).far (p := ⟨R, 0, none⟩) ngR _).far (p := ⟨R, 1, none⟩) ngR _) rfl rfl
              (fun b h8 h9 => (Below.heap_setCell _ _ _ _ h9).trans ((Below.heap_setCell _ _ _ _ h9).trans (Below.heap_setCell _ _ _ _ h8))) (by simp [World.setCell]) rfl rfl rfl _ hTF
          have hrn : Hid (runF i cs tk fu pc0 d0 = runF i cs tk m d1.next d1) := hid (by rw [hrun2.out, if_pos rfl, if_neg ho])
          have y1 : (((o : Nat) : Int) == 0) = false := by simp [ho]
          have y1' : (o == 0) = false := by simp [ho]
          have hs4 := T10.out.machSet (k := 8) (v := .int .i64 d1.next) (pc' := d1.next) (ticks' := tk) (fault' := 0) (fun _ => rfl)
          have HS4 := hid (And.intro hs4.1 (G11.out.trans hs4.2))
          clear hrun2 ho hs4
          go_wp2_with fail
          go_roundg m
          case rel => exact ⟨k + 1, d1.next, AR, d1, F9, HKM.out.1, by go_num, HS4.out.1, HS4.out.2, FR.out, KR.out, hS1, OR.out, hrn.out⟩
          case measure => exact HKM.out.2
end
end Go.Proofs.YtidlahljhgglcaaGreat
