/-
  Machines in memory: a machine, a tick that goes on, and what each keeps.
-/
import Derived.Test.YtidlahljhgglcaaGreatVmPlain
import Derived.Test.YtidlahljhgglcaaGreatPortTwoS
namespace Go.Proofs.YtidlahljhgglcaaGreat
open Go.RowKit Go.ChangeShapes Go.WideShapes Go.ChangeAt

theorem foot_some {g b : Nat} : Foot (some ⟨g, 0, none⟩) b ↔ b = g := by
  unfold Foot
  constructor
  · rintro ⟨a, ha, rfl⟩; injection ha with ha; subst ha; rfl
  · rintro rfl; exact ⟨_, rfl, rfl⟩
theorem ownBlock_foot {A : Option Addr} {n c : Nat} {b : Nat} : (Value.slice A n c).ownBlock = some b ↔ Foot A b := by
  unfold Value.ownBlock Foot
  cases A <;> simp
/-- The type of a block's cells. -/
def TyAt (w : World) (b : Nat) (T : TypeId) : Prop := ∃ cur m, w.heap[b]? = some (.cells cur T m)
theorem TyAt.ne_ {w : World} {b b' : Nat} {T T' : TypeId} (h : TyAt w b T) (h' : TyAt w b' T') (hne : T ≠ T') : b ≠ b' := by
  rintro rfl
  obtain ⟨c, m, h⟩ := h
  obtain ⟨c', m', h'⟩ := h'
  rw [h] at h'
  injection h' with h'
  injection h' with _ ht
  exact hne ht
section
variable {w w' : World} {T e : TypeId} {g base size n c : Nat} {cs xs : List Value} {A : Option Addr}
theorem Blk.ty (h : Blk w g T cs) : TyAt w g T := ⟨_, _, h⟩
theorem Row.ty (h : Row w e A n c xs) {b : Nat} (hb : Foot A b) : TyAt w b e := by
  obtain ⟨a, ha, rfl⟩ := hb
  rcases h.2.2.2 with ⟨h1, _⟩ | ⟨g', cur, h1, h2, _⟩
  · rw [h1] at ha; cases ha
  · rw [h1] at ha; injection ha with ha; subst ha; exact ⟨_, _, h2⟩
theorem own_ty (h : w.ownsRow base e size (.slice A n c) n xs) {b : Nat} (hb : Foot A b) : TyAt w b e := by
  rcases h.2 with ⟨hv, _⟩ | ⟨g', cap, cur, hv, hg, hh, r⟩
  · injection hv with hv
    subst hv
    obtain ⟨a, ha, _⟩ := hb
    cases ha
  · injection hv with hv
    subst hv
    obtain ⟨a, ha, rfl⟩ := hb
    injection ha with ha
    subst ha
    exact ⟨_, _, hh⟩
theorem own_keep (h : w.ownsRow base e size (.slice A n c) n xs) (hk : ∀ b, Foot A b → w'.heap[b]? = w.heap[b]?) : w'.ownsRow base e size (.slice A n c) n xs := by
  refine ⟨h.1, ?_⟩
  rcases h.2 with h2 | ⟨g, cap, cur, hv, hg, hh, r⟩
  · exact .inl h2
  · exact .inr ⟨g, cap, cur, hv, hg, (hk g (by injection hv with hv; exact ⟨_, hv, rfl⟩)).trans hh, r⟩
theorem own_lt (h : w.ownsRow base e size (.slice A n c) n xs) {b : Nat} (hb : Foot A b) : b < w.heap.size := (h.lt b (ownBlock_foot.2 hb)).2
theorem Row.of_own (h : w.ownsRow base e 1 (.slice A n c) n xs) : Row w e A n c xs := by
  have hcap := own_cap h
  refine ⟨by simpa using h.1, hcap.1, hcap.2, ?_⟩
  rcases h.2 with ⟨hv, _⟩ | ⟨g, cap, cur, hv, hg, hh, h1, h2, h3, h4⟩
  · injection hv with h5 _ h6
    exact .inl ⟨h5, h6⟩
  · injection hv with h5 _ h6
    subst h6
    exact .inr ⟨g, cur, h5, hh, by simp at h3; omega, by simpa using h4⟩
end
/-- Where the parts of a machine lie. -/
structure VmA where
  Ac : Option Addr
  cc : Nat
  As : Option Addr
  cS : Nat
  Am : Option Addr
  cM : Nat
def machC (i : ImgS) (a : VmA) (s : VmS) : List Value := [.int .i64 i.part, .int .i64 i.ver, .int .i64 i.hard, .int .i64 i.mem, .int .i64 i.fuel, .int .i64 i.sends, .int .i64 i.recvs, .slice a.Ac i.code.length a.cc, .int .i64 s.pc, .slice a.As s.stack.length a.cS, .slice a.Am s.mem.length a.cM, .int .i64 s.ticks, .int .i64 s.fault]
structure MachIn (w : World) (g : Nat) (i : ImgS) (a : VmA) (s : VmS) : Prop where
  blk : Blk w g 128 (machC i a s)
  cd : Row w 5 a.Ac i.code.length a.cc (i.code.map bV)
  st : Row w 3 a.As s.stack.length a.cS (s.stack.map iV)
  me : Row w 3 a.Am s.mem.length a.cM (s.mem.map iV)
  ap : ∀ b, Foot a.As b → ¬ Foot a.Am b
def MachF (g : Nat) (a : VmA) (b : Nat) : Prop := b = g ∨ Foot a.Ac b ∨ Foot a.As b ∨ Foot a.Am b
def VmAt (w : World) (F : Nat → Prop) (g : Nat) (i : ImgS) (s : VmS) : Prop := ∃ a, MachIn w g i a s ∧ ∀ b, F b ↔ MachF g a b
section
variable {w w' : World} {F : Nat → Prop} {g : Nat} {i : ImgS} {a : VmA} {s : VmS}
theorem MachIn.lt (h : MachIn w g i a s) {b : Nat} (hb : MachF g a b) : b < w.heap.size := by
  rcases hb with rfl | hb | hb | hb
  · exact h.blk.lt
  · exact h.cd.lt hb
  · exact h.st.lt hb
  · exact h.me.lt hb
theorem MachIn.keep (h : MachIn w g i a s) (hk : ∀ b, MachF g a b → w'.heap[b]? = w.heap[b]?) : MachIn w' g i a s :=
  ⟨(hk g (.inl rfl)).trans h.blk, h.cd.keep fun b hb => hk b (.inr (.inl hb)), h.st.keep fun b hb => hk b (.inr (.inr (.inl hb))), h.me.keep fun b hb => hk b (.inr (.inr (.inr hb))), h.ap⟩
theorem MachIn.belowS (h : MachIn w g i a s) (hb : Below w.heap.size w w') : MachIn w' g i a s := h.keep fun b hf => hb.block b (h.lt hf)
theorem MachIn.apart {G : Nat → Prop} (h : MachIn w g i a s) (hb : Apart G w w') (hG : ∀ b, MachF g a b → ¬ G b) : MachIn w' g i a s := h.keep fun b hf => hb.block b (h.lt hf) (hG b hf)
theorem VmAt.lt (h : VmAt w F g i s) {b : Nat} (hb : F b) : b < w.heap.size := by
  obtain ⟨a, h1, h2⟩ := h
  exact h1.lt ((h2 b).1 hb)
theorem VmAt.keep (h : VmAt w F g i s) (hk : ∀ b, F b → w'.heap[b]? = w.heap[b]?) : VmAt w' F g i s := by
  obtain ⟨a, h1, h2⟩ := h
  exact ⟨a, h1.keep fun b hb => hk b ((h2 b).2 hb), h2⟩
theorem VmAt.belowS (h : VmAt w F g i s) (hb : Below w.heap.size w w') : VmAt w' F g i s := h.keep fun b hf => hb.block b (h.lt hf)
theorem VmAt.apart {G : Nat → Prop} (h : VmAt w F g i s) (hb : Apart G w w') (hG : ∀ b, F b → ¬ G b) : VmAt w' F g i s := h.keep fun b hf => hb.block b (h.lt hf) (hG b hf)
theorem MachIn.at_ (h : MachIn w g i a s) : VmAt w (MachF g a) g i s := ⟨a, h, fun _ => Iff.rfl⟩
/-- A machine's block apart from its rows. -/
theorem MachIn.off (h : MachIn w g i a s) : ¬ Foot a.Ac g ∧ ¬ Foot a.As g ∧ ¬ Foot a.Am g :=
  ⟨fun hf => (h.cd.ty hf).ne_ h.blk.ty (by decide) rfl, fun hf => (h.st.ty hf).ne_ h.blk.ty (by decide) rfl, fun hf => (h.me.ty hf).ne_ h.blk.ty (by decide) rfl⟩
theorem MachIn.offc (h : MachIn w g i a s) {b : Nat} (hb : Foot a.Ac b) : ¬ Foot a.As b ∧ ¬ Foot a.Am b :=
  ⟨fun hf => (h.cd.ty hb).ne_ (h.st.ty hf) (by decide) rfl, fun hf => (h.cd.ty hb).ne_ (h.me.ty hf) (by decide) rfl⟩
/-- Another stack. -/
theorem MachIn.stack (h : MachIn w g i a s) {A' : Option Addr} {c' : Nat} {st' : List Int} {s' : VmS} (hs : s'.stack = st') (hm : s'.mem = s.mem) (ha : Apart (fun b => b = g ∨ Foot a.As b) w w') (hblk : Blk w' g 128 (machC i { a with As := A', cS := c' } s'))
    (hr : Row w' 3 A' st'.length c' (st'.map iV)) (hA : ∀ b, Foot A' b → Foot a.As b ∨ w.heap.size ≤ b) :
    MachIn w' g i { a with As := A', cS := c' } s' ∧ Goes (MachF g a) w (MachF g { a with As := A', cS := c' }) w' := by
  subst hs
  refine ⟨⟨hblk, h.cd.keep fun b hb => ha.block b (h.cd.lt hb) (fun hor => hor.elim (fun e => h.off.1 (e ▸ hb)) (h.offc hb).1), hr, ?_, fun b hb hb2 => ?_⟩, ⟨⟨ha.os, ha.tape, ha.output, ha.size, fun b hb hF => ha.block b hb (fun hor => hF (hor.elim .inl (fun h9 => .inr (.inr (.inl h9)))))⟩, fun b hb => ?_⟩⟩
  · rw [hm]
    exact h.me.keep fun b hb => ha.block b (h.me.lt hb) (fun hor => hor.elim (fun e => h.off.2.2 (e ▸ hb)) (fun h9 => h.ap b h9 hb))
  · rcases hA b hb with h9 | h9
    · exact h.ap b h9 hb2
    · have := h.me.lt hb2; omega
  · rcases hb with rfl | hb | hb | hb
    · exact .inl (.inl rfl)
    · exact .inl (.inr (.inl hb))
    · exact (hA b hb).imp_left fun h9 => .inr (.inr (.inl h9))
    · exact .inl (.inr (.inr (.inr hb)))
/-- A word of memory. -/
theorem MachIn.word (h : MachIn w g i a s) {am : Nat} (hAm : a.Am = some ⟨am, 0, none⟩) (k : Nat) (x : Int) :
    MachIn (w.setCell ⟨am, k, none⟩ (iV x)) g i a { s with mem := s.mem.set k x } ∧ Goes (MachF g a) w (MachF g a) (w.setCell ⟨am, k, none⟩ (iV x)) := by
  have hf : Foot a.Am am := ⟨_, hAm, rfl⟩
  have hk : ∀ b, b ≠ am → (w.setCell ⟨am, k, none⟩ (iV x)).heap[b]? = w.heap[b]? := fun b hb => Below.heap_setCell _ _ _ _ hb
  refine ⟨⟨?_, h.cd.keep fun b hb => hk b (fun e => (h.offc hb).2 (e ▸ hf)), h.st.keep fun b hb => hk b (fun e => h.ap b hb (e ▸ hf)), ?_, h.ap⟩, ⟨(Apart.refl _ _).setCell (.inl (.inr (.inr (.inr hf)))) _, fun _ h => .inl h⟩⟩
  · have := (hk g (fun e => h.off.2.2 (e ▸ hf))).trans h.blk
    show Blk _ g _ (machC i a _)
    unfold machC
    simp only [List.length_set]
    exact this
  · have h1 := h.me
    rw [hAm] at h1 ⊢
    simp only [List.length_set, List.map_set]
    exact h1.set_ k (iV x)
end
def sentC (q : Int × Int) : List Value := [iV q.1, iV q.2]
/-- The cells of a tick that goes on. -/
def runC (g gs : Nat) (arg next : Int) (Ao : Option Addr) (n cO : Nat) (conf : Bool) : List Value := [.pointer (some ⟨g, 0, none⟩), .iface 31 (.pointer (some ⟨gs, 0, none⟩)), .int .i64 arg, .int .i64 next, .slice Ao n cO, .bool conf]
structure RunIn (w : World) (h g gs : Nat) (arg : Int) (Ao : Option Addr) (cO : Nat) (d : VmD) : Prop where
  blk : Blk w h 131 (runC g gs arg d.next Ao d.sent.length cO d.conf)
  out : w.ownsRow 0 116 2 (.slice Ao d.sent.length cO) d.sent.length (d.sent.flatMap sentC)
def RunF (h : Nat) (Ao : Option Addr) (b : Nat) : Prop := b = h ∨ Foot Ao b
def machS (pc ticks fault : Int) (d : VmD) : VmS := ⟨pc, d.stack, d.mem, ticks, fault⟩
def TickAt (w : World) (F : Nat → Prop) (h g gs : Nat) (i : ImgS) (cs : List ChanS) (pc ticks fault arg : Int) (d : VmD) : Prop :=
  ∃ a Ao cO F2, MachIn w g i a (machS pc ticks fault d) ∧ RunIn w h g gs arg Ao cO d ∧ SetAt w F2 gs cs d.ss ∧ (∀ b, F2 b → ¬ MachF g a b ∧ ¬ RunF h Ao b) ∧ ∀ b, F b ↔ MachF g a b ∨ RunF h Ao b ∨ F2 b
section
variable {w w' : World} {F : Nat → Prop} {h g gs : Nat} {i : ImgS} {a : VmA} {cs : List ChanS} {pc ticks fault arg : Int} {Ao : Option Addr} {cO : Nat} {d : VmD}
theorem RunIn.lt (r : RunIn w h g gs arg Ao cO d) {b : Nat} (hb : RunF h Ao b) : b < w.heap.size := by
  rcases hb with rfl | hb
  · exact r.blk.lt
  · exact own_lt r.out hb
theorem RunIn.keep (r : RunIn w h g gs arg Ao cO d) (hk : ∀ b, RunF h Ao b → w'.heap[b]? = w.heap[b]?) : RunIn w' h g gs arg Ao cO d :=
  ⟨(hk h (.inl rfl)).trans r.blk, own_keep r.out fun b hb => hk b (.inr hb)⟩
theorem RunIn.off (r : RunIn w h g gs arg Ao cO d) : ¬ Foot Ao h := fun hf => (own_ty r.out hf).ne_ r.blk.ty (by decide) rfl
/-- A machine and its tick lie apart. -/
theorem RunIn.apart (r : RunIn w h g gs arg Ao cO d) {s : VmS} (m : MachIn w g i a s) {b : Nat} (hb : RunF h Ao b) : ¬ MachF g a b := by
  rintro (rfl | h1 | h1 | h1)
  · rcases hb with hb | hb
    · exact m.blk.ty.ne_ r.blk.ty (by decide) hb
    · exact m.blk.ty.ne_ (own_ty r.out hb) (by decide) rfl
  · rcases hb with rfl | hb
    · exact (m.cd.ty h1).ne_ r.blk.ty (by decide) rfl
    · exact (m.cd.ty h1).ne_ (own_ty r.out hb) (by decide) rfl
  · rcases hb with rfl | hb
    · exact (m.st.ty h1).ne_ r.blk.ty (by decide) rfl
    · exact (m.st.ty h1).ne_ (own_ty r.out hb) (by decide) rfl
  · rcases hb with rfl | hb
    · exact (m.me.ty h1).ne_ r.blk.ty (by decide) rfl
    · exact (m.me.ty h1).ne_ (own_ty r.out hb) (by decide) rfl
theorem TickAt.lt (t : TickAt w F h g gs i cs pc ticks fault arg d) {b : Nat} (hb : F b) : b < w.heap.size := by
  obtain ⟨a, Ao, cO, F2, h1, h2, h3, _, h5⟩ := t
  rcases (h5 b).1 hb with h6 | h6 | h6
  · exact h1.lt h6
  · exact h2.lt h6
  · exact h3.lt h6
theorem TickAt.keep (t : TickAt w F h g gs i cs pc ticks fault arg d) (hs : w.heap.size ≤ w'.heap.size) (hk : ∀ b, F b → w'.heap[b]? = w.heap[b]?) : TickAt w' F h g gs i cs pc ticks fault arg d := by
  obtain ⟨a, Ao, cO, F2, h1, h2, h3, h4, h5⟩ := t
  exact ⟨a, Ao, cO, F2, h1.keep fun b hb => hk b ((h5 b).2 (.inl hb)), h2.keep fun b hb => hk b ((h5 b).2 (.inr (.inl hb))), h3.keep hs fun b hb => hk b ((h5 b).2 (.inr (.inr hb))), h4, h5⟩
theorem TickAt.belowS (t : TickAt w F h g gs i cs pc ticks fault arg d) (hb : Below w.heap.size w w') : TickAt w' F h g gs i cs pc ticks fault arg d := t.keep hb.size fun b hf => hb.block b (t.lt hf)
/-- What a deed of a machine leaves. -/
def DPost (F : Nat → Prop) (w : World) (h g gs : Nat) (i : ImgS) (cs : List ChanS) (pc ticks fault arg : Int) (r : Int × VmD) (e : Ending) (w' : World) : Prop :=
  ∃ F', e = .returned (.int .i64 r.1) ∧ TickAt w' F' h g gs i cs pc ticks fault arg r.2 ∧ Goes F w F' w'
theorem DPost.same {e : Ending} {E : Int} (t : TickAt w F h g gs i cs pc ticks fault arg d) (he : e = .returned (.int .i64 E)) (hb : Below w.heap.size w w') : DPost F w h g gs i cs pc ticks fault arg (E, d) e w' :=
  ⟨F, he, t.belowS hb, Goes.of_below hb⟩
theorem Goes.iff_ {G F' : Nat → Prop} (hF : ∀ b, F b ↔ G b) (hg : Goes G w F' w') : Goes F w F' w' :=
  ⟨⟨hg.apart.os, hg.apart.tape, hg.apart.output, hg.apart.size, fun b hb hf => hg.apart.block b hb (fun hg9 => hf ((hF b).2 hg9))⟩, fun b hb => (hg.foot b hb).imp_left (hF b).2⟩
/-- Only the machine moved. -/
theorem TickAt.mach {d' : VmD} {pc' ticks' fault' : Int} {F2 : Nat → Prop} {a' : VmA} (h1 : MachIn w g i a (machS pc ticks fault d)) (h2 : RunIn w h g gs arg Ao cO d) (h3 : SetAt w F2 gs cs d.ss) (h4 : ∀ b, F2 b → ¬ MachF g a b ∧ ¬ RunF h Ao b) (h5 : ∀ b, F b ↔ MachF g a b ∨ RunF h Ao b ∨ F2 b)
    (hm : MachIn w' g i a' (machS pc' ticks' fault' d')) (hg : Goes (MachF g a) w (MachF g a') w') (hn : d'.next = d.next) (hs : d'.sent = d.sent) (hc : d'.conf = d.conf) (hss : d'.ss = d.ss) :
    ∃ F', TickAt w' F' h g gs i cs pc' ticks' fault' arg d' ∧ Goes F w F' w' := by
  have r' : RunIn w' h g gs arg Ao cO d' := by
    have := h2.keep (w' := w') fun b hb => hg.apart.block b (h2.lt hb) (h2.apart h1 hb)
    refine ⟨?_, ?_⟩
    · rw [hn, hs, hc]; exact this.blk
    · rw [hs]; exact this.out
  refine ⟨fun b => MachF g a' b ∨ RunF h Ao b ∨ F2 b, ⟨a', Ao, cO, F2, hm, r', ?_, fun b hb => ⟨fun hf => ?_, (h4 b hb).2⟩, fun b => Iff.rfl⟩, Goes.iff_ h5 ⟨⟨hg.apart.os, hg.apart.tape, hg.apart.output, hg.apart.size, fun b hb hF => hg.apart.block b hb (fun hf => hF (.inl hf))⟩, fun b hb => ?_⟩⟩
  · rw [hss]
    exact h3.apart hg.apart fun b hb => (h4 b hb).1
  · rcases hg.foot b hf with h6 | h6
    · exact (h4 b hb).1 h6
    · have := h3.lt hb; omega
  · rcases hb with hb | hb
    · exact (hg.foot b hb).imp_left .inl
    · exact .inl (.inr hb)
end
end Go.Proofs.YtidlahljhgglcaaGreat
