/-
  The reference of layer 17: its machine in memory, a tick that goes on.
-/
import Derived.Test.YtidlahljhgglcaaGreatVmMem
namespace Go.Proofs.YtidlahljhgglcaaGreat
open Go.RowKit Go.ChangeShapes Go.WideShapes Go.ChangeAt

structure RvIn (w : World) (g : Nat) (i : ImgS) (a : VmA) (s : VmS) : Prop where
  blk : Blk w g 77 (machC i a s)
  cd : Row w 5 a.Ac i.code.length a.cc (i.code.map bV)
  st : Row w 3 a.As s.stack.length a.cS (s.stack.map iV)
  me : Row w 3 a.Am s.mem.length a.cM (s.mem.map iV)
  ap : ∀ b, Foot a.As b → ¬ Foot a.Am b
def RvAt (w : World) (F : Nat → Prop) (g : Nat) (i : ImgS) (s : VmS) : Prop := ∃ a, RvIn w g i a s ∧ ∀ b, F b ↔ MachF g a b
/-- What a tick has brought so far. -/
structure OutIn (w : World) (h : Nat) (Ao : Option Addr) (cO : Nat) (d : VmD) : Prop where
  blk : Blk w h 59 [.slice Ao d.sent.length cO, .bool d.conf]
  out : w.ownsRow 0 116 2 (.slice Ao d.sent.length cO) d.sent.length (d.sent.flatMap sentC)
section
variable {w w' : World} {F : Nat → Prop} {g h : Nat} {i : ImgS} {a : VmA} {s : VmS} {Ao : Option Addr} {cO : Nat} {d : VmD}
theorem RvIn.lt (h : RvIn w g i a s) {b : Nat} (hb : MachF g a b) : b < w.heap.size := by
  rcases hb with rfl | hb | hb | hb
  · exact h.blk.lt
  · exact h.cd.lt hb
  · exact h.st.lt hb
  · exact h.me.lt hb
theorem RvIn.keep (h : RvIn w g i a s) (hk : ∀ b, MachF g a b → w'.heap[b]? = w.heap[b]?) : RvIn w' g i a s :=
  ⟨(hk g (.inl rfl)).trans h.blk, h.cd.keep fun b hb => hk b (.inr (.inl hb)), h.st.keep fun b hb => hk b (.inr (.inr (.inl hb))), h.me.keep fun b hb => hk b (.inr (.inr (.inr hb))), h.ap⟩
theorem RvIn.belowS (h : RvIn w g i a s) (hb : Below w.heap.size w w') : RvIn w' g i a s := h.keep fun b hf => hb.block b (h.lt hf)
theorem RvAt.lt (h : RvAt w F g i s) {b : Nat} (hb : F b) : b < w.heap.size := by
  obtain ⟨a, h1, h2⟩ := h
  exact h1.lt ((h2 b).1 hb)
theorem RvAt.keep (h : RvAt w F g i s) (hk : ∀ b, F b → w'.heap[b]? = w.heap[b]?) : RvAt w' F g i s := by
  obtain ⟨a, h1, h2⟩ := h
  exact ⟨a, h1.keep fun b hb => hk b ((h2 b).2 hb), h2⟩
theorem RvAt.belowS (h : RvAt w F g i s) (hb : Below w.heap.size w w') : RvAt w' F g i s := h.keep fun b hf => hb.block b (h.lt hf)
theorem RvAt.apart {G : Nat → Prop} (h : RvAt w F g i s) (hb : Apart G w w') (hG : ∀ b, F b → ¬ G b) : RvAt w' F g i s := h.keep fun b hf => hb.block b (h.lt hf) (hG b hf)
theorem RvIn.at_ (h : RvIn w g i a s) : RvAt w (MachF g a) g i s := ⟨a, h, fun _ => Iff.rfl⟩
theorem RvIn.off (h : RvIn w g i a s) : ¬ Foot a.Ac g ∧ ¬ Foot a.As g ∧ ¬ Foot a.Am g :=
  ⟨fun hf => (h.cd.ty hf).ne_ h.blk.ty (by decide) rfl, fun hf => (h.st.ty hf).ne_ h.blk.ty (by decide) rfl, fun hf => (h.me.ty hf).ne_ h.blk.ty (by decide) rfl⟩
theorem RvIn.offc (h : RvIn w g i a s) {b : Nat} (hb : Foot a.Ac b) : ¬ Foot a.As b ∧ ¬ Foot a.Am b :=
  ⟨fun hf => (h.cd.ty hb).ne_ (h.st.ty hf) (by decide) rfl, fun hf => (h.cd.ty hb).ne_ (h.me.ty hf) (by decide) rfl⟩
/-- Another stack, of a row that was made since. -/
theorem RvIn.stack (h : RvIn w g i a s) {w1 : World} (hb : Below w.heap.size w w1) {A' : Option Addr} {c' : Nat} {st' : List Int} (hr : Row w1 3 A' st'.length c' (st'.map iV)) (hA : ∀ b, Foot A' b → Foot a.As b ∨ w.heap.size ≤ b) :
    RvIn (w1.setCell ⟨g, 9, none⟩ (.slice A' st'.length c')) g i { a with As := A', cS := c' } { s with stack := st' } ∧ Goes (MachF g a) w (MachF g { a with As := A', cS := c' }) (w1.setCell ⟨g, 9, none⟩ (.slice A' st'.length c')) := by
  have hgA : ¬ Foot A' g := fun hf => (hA g hf).elim h.off.2.1 (fun h9 => by have := h.blk.lt; omega)
  have hk : ∀ b, b ≠ g → (w1.setCell ⟨g, 9, none⟩ (.slice A' st'.length c')).heap[b]? = w1.heap[b]? := fun b hb => Below.heap_setCell _ _ _ _ hb
  have h1 := h.belowS hb
  refine ⟨⟨h1.blk.set_ 9 (.slice A' st'.length c'), h1.cd.keep fun b hf => hk b (fun e => h.off.1 (e ▸ hf)), hr.keep fun b hf => hk b (fun e => hgA (e ▸ hf)), h1.me.keep fun b hf => hk b (fun e => h.off.2.2 (e ▸ hf)), fun b hf hm => ?_⟩, ⟨(Apart.of_below hb).setCell (.inl (.inl rfl)) _, fun b hf => ?_⟩⟩
  · rcases hA b hf with h9 | h9
    · exact h.ap b h9 hm
    · have := h.me.lt hm; omega
  · rcases hf with hf | hf | hf | hf
    · exact .inl (.inl hf)
    · exact .inl (.inr (.inl hf))
    · exact (hA b hf).imp_left fun h9 => .inr (.inr (.inl h9))
    · exact .inl (.inr (.inr (.inr hf)))
/-- A word of memory. -/
theorem RvIn.word (h : RvIn w g i a s) {am : Nat} (hAm : a.Am = some ⟨am, 0, none⟩) (k : Nat) (x : Int) :
    RvIn (w.setCell ⟨am, k, none⟩ (iV x)) g i a { s with mem := s.mem.set k x } ∧ Goes (MachF g a) w (MachF g a) (w.setCell ⟨am, k, none⟩ (iV x)) := by
  have hf : Foot a.Am am := ⟨_, hAm, rfl⟩
  have hk : ∀ b, b ≠ am → (w.setCell ⟨am, k, none⟩ (iV x)).heap[b]? = w.heap[b]? := fun b hb => Below.heap_setCell _ _ _ _ hb
  refine ⟨⟨?_, h.cd.keep fun b hb => hk b (fun e => (h.offc hb).2 (e ▸ hf)), h.st.keep fun b hb => hk b (fun e => h.ap b hb (e ▸ hf)), ?_, h.ap⟩, ⟨(Apart.refl _ _).setCell (.inl (.inr (.inr (.inr hf)))) _, fun _ h => .inl h⟩⟩
  · have := (hk g (fun e => h.off.2.2 (e ▸ hf))).trans h.blk
    show Blk _ g _ (machC i a _)
    unfold machC
    simp only [List.length_set]
    exact this
  · have h1 := h.me
    rw [hAm] at h1 ⊢
    simp only [List.length_set, List.map_set]
    exact h1.set_ k (iV x)
/-- A word of the machine's own: where it is, its ticks, its fault. -/
theorem RvIn.own (h : RvIn w g i a s) {k : Nat} {v : Value} {s' : VmS} (hs : s'.stack = s.stack) (hm : s'.mem = s.mem) (hr : (machC i a s).set k v = machC i a s') :
    RvIn (w.setCell ⟨g, k, none⟩ v) g i a s' ∧ Goes (MachF g a) w (MachF g a) (w.setCell ⟨g, k, none⟩ v) := by
  have hk : ∀ b, b ≠ g → (w.setCell ⟨g, k, none⟩ v).heap[b]? = w.heap[b]? := fun b hb => Below.heap_setCell _ _ _ _ hb
  refine ⟨⟨by rw [← hr]; exact h.blk.set_ k v, h.cd.keep fun b hb => hk b (fun e => h.off.1 (e ▸ hb)), ?_, ?_, h.ap⟩, ⟨(Apart.refl _ _).setCell (.inl (.inl rfl)) _, fun _ h9 => .inl h9⟩⟩
  · rw [hs]; exact h.st.keep fun b hb => hk b (fun e => h.off.2.1 (e ▸ hb))
  · rw [hm]; exact h.me.keep fun b hb => hk b (fun e => h.off.2.2 (e ▸ hb))
theorem OutIn.lt (r : OutIn w h Ao cO d) {b : Nat} (hb : RunF h Ao b) : b < w.heap.size := by
  rcases hb with rfl | hb
  · exact r.blk.lt
  · exact own_lt r.out hb
theorem OutIn.keep (r : OutIn w h Ao cO d) (hk : ∀ b, RunF h Ao b → w'.heap[b]? = w.heap[b]?) : OutIn w' h Ao cO d :=
  ⟨(hk h (.inl rfl)).trans r.blk, own_keep r.out fun b hb => hk b (.inr hb)⟩
theorem OutIn.off (r : OutIn w h Ao cO d) : ¬ Foot Ao h := fun hf => (own_ty r.out hf).ne_ r.blk.ty (by decide) rfl
theorem OutIn.apart (r : OutIn w h Ao cO d) (m : RvIn w g i a s) {b : Nat} (hb : RunF h Ao b) : ¬ MachF g a b := by
  rintro (rfl | h1 | h1 | h1)
  · rcases hb with hb | hb
    · exact m.blk.ty.ne_ r.blk.ty (by decide) hb
    · exact m.blk.ty.ne_ (own_ty r.out hb) (by decide) rfl
  · rcases hb with rfl | hb
    · exact (m.cd.ty h1).ne_ r.blk.ty (by decide) rfl
    · exact (m.cd.ty h1).ne_ (own_ty r.out hb) (by decide) rfl
  · rcases hb with rfl | hb
    · exact (m.st.ty h1).ne_ r.blk.ty (by decide) rfl
    · exact (m.st.ty h1).ne_ (own_ty r.out hb) (by decide) rfl
  · rcases hb with rfl | hb
    · exact (m.me.ty h1).ne_ r.blk.ty (by decide) rfl
    · exact (m.me.ty h1).ne_ (own_ty r.out hb) (by decide) rfl
end
/-- The machine, what its tick has brought so far, the channels. -/
def RvTick (w : World) (F : Nat → Prop) (h g gR : Nat) (i : ImgS) (cs : List ChanS) (pc ticks fault : Int) (d : VmD) : Prop :=
  ∃ a Ao cO F2, RvIn w g i a (machS pc ticks fault d) ∧ OutIn w h Ao cO d ∧ RefAt w F2 gR cs (hL d.ss) ∧ (∀ b, F2 b → ¬ MachF g a b ∧ ¬ RunF h Ao b) ∧ ∀ b, F b ↔ MachF g a b ∨ RunF h Ao b ∨ F2 b
section
variable {w w' : World} {F : Nat → Prop} {h g gR : Nat} {i : ImgS} {cs : List ChanS} {pc ticks fault : Int} {d : VmD}
theorem RvTick.lt (t : RvTick w F h g gR i cs pc ticks fault d) {b : Nat} (hb : F b) : b < w.heap.size := by
  obtain ⟨a, Ao, cO, F2, h1, h2, h3, _, h5⟩ := t
  rcases (h5 b).1 hb with h6 | h6 | h6
  · exact h1.lt h6
  · exact h2.lt h6
  · exact h3.lt h6
theorem RvTick.keep (t : RvTick w F h g gR i cs pc ticks fault d) (hs : w.heap.size ≤ w'.heap.size) (hk : ∀ b, F b → w'.heap[b]? = w.heap[b]?) : RvTick w' F h g gR i cs pc ticks fault d := by
  obtain ⟨a, Ao, cO, F2, h1, h2, h3, h4, h5⟩ := t
  exact ⟨a, Ao, cO, F2, h1.keep fun b hb => hk b ((h5 b).2 (.inl hb)), h2.keep fun b hb => hk b ((h5 b).2 (.inr (.inl hb))), h3.keep hs fun b hb => hk b ((h5 b).2 (.inr (.inr hb))), h4, h5⟩
theorem RvTick.belowS (t : RvTick w F h g gR i cs pc ticks fault d) (hb : Below w.heap.size w w') : RvTick w' F h g gR i cs pc ticks fault d := t.keep hb.size fun b hf => hb.block b (t.lt hf)
/-- Only the machine moved. -/
theorem RvTick.mach (t : RvTick w F h g gR i cs pc ticks fault d) {d' : VmD} {pc' ticks' fault' : Int}
    (hm : ∀ F1, RvAt w F1 g i (machS pc ticks fault d) → ∃ F1', RvAt w' F1' g i (machS pc' ticks' fault' d') ∧ Goes F1 w F1' w') (hs : d'.sent = d.sent) (hc : d'.conf = d.conf) (hss : d'.ss = d.ss) :
    ∃ F', RvTick w' F' h g gR i cs pc' ticks' fault' d' ∧ Goes F w F' w' := by
  obtain ⟨a, Ao, cO, F2, h1, h2, h3, h4, h5⟩ := t
  obtain ⟨F1', ⟨a', m', hF'⟩, hg⟩ := hm _ h1.at_
  have hm1 : ∀ b, MachF g a' b → MachF g a b ∨ w.heap.size ≤ b := fun b hb => hg.foot b ((hF' b).2 hb)
  have r' : OutIn w' h Ao cO d' := by
    have := h2.keep (w' := w') fun b hb => hg.apart.block b (h2.lt hb) (h2.apart h1 hb)
    refine ⟨?_, ?_⟩
    · rw [hs, hc]; exact this.blk
    · rw [hs]; exact this.out
  refine ⟨fun b => MachF g a' b ∨ RunF h Ao b ∨ F2 b, ⟨a', Ao, cO, F2, m', r', ?_, fun b hb => ⟨fun hf => ?_, (h4 b hb).2⟩, fun b => Iff.rfl⟩, Goes.iff_ h5 ⟨⟨hg.apart.os, hg.apart.tape, hg.apart.output, hg.apart.size, fun b hb hF => hg.apart.block b hb (fun hf => hF (.inl hf))⟩, fun b hb => ?_⟩⟩
  · rw [hss]
    exact h3.apart hg.apart fun b hb => (h4 b hb).1
  · rcases hm1 b hf with h6 | h6
    · exact (h4 b hb).1 h6
    · have := h3.lt hb; omega
  · rcases hb with hb | hb
    · exact (hm1 b hb).imp_left .inl
    · exact .inl (.inr hb)
end
end Go.Proofs.YtidlahljhgglcaaGreat
