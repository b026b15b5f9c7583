/-
  Machines in plain words: an instruction, what it does, a tick.
  Machines in memory: a machine, a tick that goes on, and what each keeps.
  The reference of layer 17: its machine in memory, a tick that goes on.
  The instruction at a place of a code (op.At); a copy of bytes.
-/
import Derived.Test.YtidlahljhgglcaaQVmRuns9
import Derived.Test.YtidlahljhgglcaaQVmRuns1
namespace Go.Proofs.Ytidlahljhgglcaa

/-- A number modulo 65536. -/
def w65 (n : Int) : Int := n % 65536
theorem w65_lo (n : Int) : 0 ≤ w65 n := Int.emod_nonneg _ (by decide)
theorem w65_hi (n : Int) : w65 n ≤ 65535 := by have := Int.emod_lt_of_pos n (show (0 : Int) < 65536 by decide); unfold w65; omega
/-- Where a program is. -/
structure VmS where
  pc : Int
  stack : List Int
  mem : List Int
  ticks : Int
  fault : Int
/-- What a tick works on: the stack, the memory, where the next instruction is, what was sent, whether it confirmed, the channels. -/
structure VmD where
  stack : List Int
  mem : List Int
  next : Int
  sent : List (Int × Int)
  conf : Bool
  ss : Nat → WayS
def hasArg (o : Nat) : Bool := o == 1 || o == 10 || o == 11 || o == 12 || o == 13 || o == 14 || o == 15
/-- The instruction at a place: what it is, its argument, where the next one is. -/
def atF (code : List UInt8) (pc : Int) : Option (Nat × Int × Int) :=
  if pc < 0 then none else
  match code[pc.toNat]? with
  | none => none
  | some b => if 18 < b.toNat then none else
    if hasArg b.toNat = false then some (b.toNat, 0, pc + 1) else
    match code[pc.toNat + 1]? with
    | none => none
    | some c => some (b.toNat, (c.toNat : Int), pc + 2)
def fitsE (n take lay : Nat) : Int := if n < take then 5 else if 8 < n - take + lay then 14 else 0
def swapV (s : List Int) (take : Nat) (lay : List Int) : List Int := s.take (s.length - take) ++ lay.map w65
def topV (s : List Int) (k : Nat) : Int := s.getD (s.length - 1 - k) 0
/-- So many off the stack, others on it. -/
def onF (take : Nat) (lay : List Int) (d : VmD) : Int × VmD :=
  if fitsE d.stack.length take lay.length = 0 then (0, { d with stack := swapV d.stack take lay }) else (fitsE d.stack.length take lay.length, d)
def twoF (f : Int → Int → Int) (d : VmD) : Int × VmD := onF 2 [f (topV d.stack 1) (topV d.stack 0)] d
def oneI (b : Bool) : Int := if b then 1 else 0
def bitI (n k : Int) : Bool := decide (n / 2 ^ k.toNat % 2 = 1)
/-- What an instruction does. -/
def deedF (i : ImgS) (cs : List ChanS) (ticks : Int) (o : Nat) (a : Int) (d : VmD) : Int × VmD :=
  match o with
  | 0 => (0, d)
  | 1 => onF 0 [a] d
  | 2 => onF 1 [] d
  | 3 => if fitsE d.stack.length 1 2 = 0 then (0, { d with stack := swapV d.stack 0 [topV d.stack 0] }) else (fitsE d.stack.length 1 2, d)
  | 4 => onF 2 [topV d.stack 0, topV d.stack 1] d
  | 5 => twoF (fun x y => x + y) d
  | 6 => twoF (fun x y => x - y) d
  | 7 => twoF (fun x y => x * y) d
  | 8 => twoF (fun x y => oneI (decide (x < y))) d
  | 9 => twoF (fun x y => oneI (decide (x = y))) d
  | 10 => if (d.mem.length : Int) ≤ a then (3, d) else onF 0 [d.mem.getD a.toNat 0] d
  | 11 => if (d.mem.length : Int) ≤ a then (3, d) else
      if fitsE d.stack.length 1 0 = 0 then (0, { d with stack := swapV d.stack 1 [], mem := d.mem.set a.toNat (topV d.stack 0) }) else (fitsE d.stack.length 1 0, d)
  | 12 => if (i.code.length : Int) ≤ a then (3, d) else (0, { d with next := a })
  | 13 => if (i.code.length : Int) ≤ a then (3, d) else
      if fitsE d.stack.length 1 0 = 0 then (0, { d with stack := swapV d.stack 1 [], next := if topV d.stack 0 = 0 then a else d.next }) else (fitsE d.stack.length 1 0, d)
  | 14 => if bitI i.sends a = false then (15, d) else
      if fitsE d.stack.length 1 0 = 0 then
        (if (sendP cs d.ss i.part a (topV d.stack 0)).2.1 = 0 then (0, { d with stack := swapV d.stack 1 [], sent := d.sent ++ [(a, topV d.stack 0)], ss := (sendP cs d.ss i.part a (topV d.stack 0)).2.2 }) else (15, d))
      else (fitsE d.stack.length 1 0, d)
  | 15 => if bitI i.recvs a = false then (15, d) else
      if fitsE d.stack.length 0 2 = 0 then
        (if (getP cs d.ss i.part a).2.2.1 = 0 then (0, { d with stack := swapV d.stack 0 (if (getP cs d.ss i.part a).2.1 then [(getP cs d.ss i.part a).1, 1] else [0]), ss := (getP cs d.ss i.part a).2.2.2 }) else (15, d))
      else (fitsE d.stack.length 0 2, d)
  | 16 => (0, { d with conf := true })
  | 17 => (16, d)
  | _ => onF 0 [ticks] d
/-- So many instructions: where it is, how it failed, what came of it. -/
def runF (i : ImgS) (cs : List ChanS) (ticks : Int) : Nat → Int → VmD → Int × Int × VmD
  | 0, pc, d => (pc, 0, d)
  | n + 1, pc, d =>
    match atF i.code pc with
    | none => (pc, 19, d)
    | some (o, a, nx) =>
      if (deedF i cs ticks o a { d with next := nx }).1 = 0 then
        (if o = 0 then ((deedF i cs ticks o a { d with next := nx }).2.next, 0, (deedF i cs ticks o a { d with next := nx }).2)
         else runF i cs ticks n (deedF i cs ticks o a { d with next := nx }).2.next (deedF i cs ticks o a { d with next := nx }).2)
      else (pc, (deedF i cs ticks o a { d with next := nx }).1, (deedF i cs ticks o a { d with next := nx }).2)
def startD (s : VmS) (ss : Nat → WayS) : VmD := ⟨s.stack, s.mem, 0, [], false, ss⟩
/-- A tick. -/
def tickF (i : ImgS) (cs : List ChanS) (s : VmS) (ss : Nat → WayS) : VmS × (Nat → WayS) × List (Int × Int) × Bool :=
  if s.fault ≠ 0 then (s, ss, [], false) else
  let r := runF i cs s.ticks i.fuel.toNat s.pc (startD s ss)
  (⟨r.1, r.2.2.stack, r.2.2.mem, s.ticks + 1, r.2.1⟩, r.2.2.ss, r.2.2.sent, r.2.2.conf)
/-- What all machines keep. -/
structure Fine (i : ImgS) (d : VmD) : Prop where
  len : d.stack.length ≤ 8
  st : ∀ x ∈ d.stack, 0 ≤ x ∧ x ≤ 65535
  mlen : (d.mem.length : Int) = i.mem
  me : ∀ x ∈ d.mem, 0 ≤ x ∧ x ≤ 65535
end Go.Proofs.Ytidlahljhgglcaa
namespace Go.Proofs.Ytidlahljhgglcaa
open Go.RowKit Go.ChangeShapes Go.WideShapes Go.ChangeAt

theorem foot_some {g b : Nat} : Foot (some ⟨g, 0, none⟩) b ↔ b = g := by
  unfold Foot
  constructor
  · rintro ⟨a, ha, rfl⟩; injection ha with ha; subst ha; rfl
  · rintro rfl; exact ⟨_, rfl, rfl⟩
theorem ownBlock_foot {A : Option Addr} {n c : Nat} {b : Nat} : (Value.slice A n c).ownBlock = some b ↔ Foot A b := by
  unfold Value.ownBlock Foot
  cases A <;> simp
/-- The type of a block's cells. -/
def TyAt (w : World) (b : Nat) (T : TypeId) : Prop := ∃ cur m, w.heap[b]? = some (.cells cur T m)
theorem TyAt.ne_ {w : World} {b b' : Nat} {T T' : TypeId} (h : TyAt w b T) (h' : TyAt w b' T') (hne : T ≠ T') : b ≠ b' := by
  rintro rfl
  obtain ⟨c, m, h⟩ := h
  obtain ⟨c', m', h'⟩ := h'
  rw [h] at h'
  injection h' with h'
  injection h' with _ ht
  exact hne ht
section
variable {w w' : World} {T e : TypeId} {g base size n c : Nat} {cs xs : List Value} {A : Option Addr}
theorem Blk.ty (h : Blk w g T cs) : TyAt w g T := ⟨_, _, h⟩
theorem Row.ty (h : Row w e A n c xs) {b : Nat} (hb : Foot A b) : TyAt w b e := by
  obtain ⟨a, ha, rfl⟩ := hb
  rcases h.2.2.2 with ⟨h1, _⟩ | ⟨g', cur, h1, h2, _⟩
  · rw [h1] at ha; cases ha
  · rw [h1] at ha; injection ha with ha; subst ha; exact ⟨_, _, h2⟩
theorem own_ty (h : w.ownsRow base e size (.slice A n c) n xs) {b : Nat} (hb : Foot A b) : TyAt w b e := by
  rcases h.2 with ⟨hv, _⟩ | ⟨g', cap, cur, hv, hg, hh, r⟩
  · injection hv with hv
    subst hv
    obtain ⟨a, ha, _⟩ := hb
    cases ha
  · injection hv with hv
    subst hv
    obtain ⟨a, ha, rfl⟩ := hb
    injection ha with ha
    subst ha
    exact ⟨_, _, hh⟩
theorem own_keep (h : w.ownsRow base e size (.slice A n c) n xs) (hk : ∀ b, Foot A b → w'.heap[b]? = w.heap[b]?) : w'.ownsRow base e size (.slice A n c) n xs := by
  refine ⟨h.1, ?_⟩
  rcases h.2 with h2 | ⟨g, cap, cur, hv, hg, hh, r⟩
  · exact .inl h2
  · exact .inr ⟨g, cap, cur, hv, hg, (hk g (by injection hv with hv; exact ⟨_, hv, rfl⟩)).trans hh, r⟩
theorem own_lt (h : w.ownsRow base e size (.slice A n c) n xs) {b : Nat} (hb : Foot A b) : b < w.heap.size := (h.lt b (ownBlock_foot.2 hb)).2
theorem Row.of_own (h : w.ownsRow base e 1 (.slice A n c) n xs) : Row w e A n c xs := by
  have hcap := own_cap h
  refine ⟨by simpa using h.1, hcap.1, hcap.2, ?_⟩
  rcases h.2 with ⟨hv, _⟩ | ⟨g, cap, cur, hv, hg, hh, h1, h2, h3, h4⟩
  · injection hv with h5 _ h6
    exact .inl ⟨h5, h6⟩
  · injection hv with h5 _ h6
    subst h6
    exact .inr ⟨g, cur, h5, hh, by simp at h3; omega, by simpa using h4⟩
end
/-- Where the parts of a machine lie. -/
structure VmA where
  Ac : Option Addr
  cc : Nat
  As : Option Addr
  cS : Nat
  Am : Option Addr
  cM : Nat
def machC (i : ImgS) (a : VmA) (s : VmS) : List Value := [.int .i64 i.part, .int .i64 i.ver, .int .i64 i.hard, .int .i64 i.mem, .int .i64 i.fuel, .int .i64 i.sends, .int .i64 i.recvs, .slice a.Ac i.code.length a.cc, .int .i64 s.pc, .slice a.As s.stack.length a.cS, .slice a.Am s.mem.length a.cM, .int .i64 s.ticks, .int .i64 s.fault]
structure MachIn (w : World) (g : Nat) (i : ImgS) (a : VmA) (s : VmS) : Prop where
  blk : Blk w g 93 (machC i a s)
  cd : Row w 5 a.Ac i.code.length a.cc (i.code.map bV)
  st : Row w 3 a.As s.stack.length a.cS (s.stack.map iV)
  me : Row w 3 a.Am s.mem.length a.cM (s.mem.map iV)
  ap : ∀ b, Foot a.As b → ¬ Foot a.Am b
def MachF (g : Nat) (a : VmA) (b : Nat) : Prop := b = g ∨ Foot a.Ac b ∨ Foot a.As b ∨ Foot a.Am b
def VmAt (w : World) (F : Nat → Prop) (g : Nat) (i : ImgS) (s : VmS) : Prop := ∃ a, MachIn w g i a s ∧ ∀ b, F b ↔ MachF g a b
section
variable {w w' : World} {F : Nat → Prop} {g : Nat} {i : ImgS} {a : VmA} {s : VmS}
theorem MachIn.lt (h : MachIn w g i a s) {b : Nat} (hb : MachF g a b) : b < w.heap.size := by
  rcases hb with rfl | hb | hb | hb
  · exact h.blk.lt
  · exact h.cd.lt hb
  · exact h.st.lt hb
  · exact h.me.lt hb
theorem MachIn.keep (h : MachIn w g i a s) (hk : ∀ b, MachF g a b → w'.heap[b]? = w.heap[b]?) : MachIn w' g i a s :=
  ⟨(hk g (.inl rfl)).trans h.blk, h.cd.keep fun b hb => hk b (.inr (.inl hb)), h.st.keep fun b hb => hk b (.inr (.inr (.inl hb))), h.me.keep fun b hb => hk b (.inr (.inr (.inr hb))), h.ap⟩
theorem MachIn.belowS (h : MachIn w g i a s) (hb : Below w.heap.size w w') : MachIn w' g i a s := h.keep fun b hf => hb.block b (h.lt hf)
theorem MachIn.apart {G : Nat → Prop} (h : MachIn w g i a s) (hb : Apart G w w') (hG : ∀ b, MachF g a b → ¬ G b) : MachIn w' g i a s := h.keep fun b hf => hb.block b (h.lt hf) (hG b hf)
theorem VmAt.lt (h : VmAt w F g i s) {b : Nat} (hb : F b) : b < w.heap.size := by
  obtain ⟨a, h1, h2⟩ := h
  exact h1.lt ((h2 b).1 hb)
theorem VmAt.keep (h : VmAt w F g i s) (hk : ∀ b, F b → w'.heap[b]? = w.heap[b]?) : VmAt w' F g i s := by
  obtain ⟨a, h1, h2⟩ := h
  exact ⟨a, h1.keep fun b hb => hk b ((h2 b).2 hb), h2⟩
theorem VmAt.belowS (h : VmAt w F g i s) (hb : Below w.heap.size w w') : VmAt w' F g i s := h.keep fun b hf => hb.block b (h.lt hf)
theorem VmAt.apart {G : Nat → Prop} (h : VmAt w F g i s) (hb : Apart G w w') (hG : ∀ b, F b → ¬ G b) : VmAt w' F g i s := h.keep fun b hf => hb.block b (h.lt hf) (hG b hf)
theorem MachIn.at_ (h : MachIn w g i a s) : VmAt w (MachF g a) g i s := ⟨a, h, fun _ => Iff.rfl⟩
/-- A machine's block apart from its rows. -/
theorem MachIn.off (h : MachIn w g i a s) : ¬ Foot a.Ac g ∧ ¬ Foot a.As g ∧ ¬ Foot a.Am g :=
  ⟨fun hf => (h.cd.ty hf).ne_ h.blk.ty (by decide) rfl, fun hf => (h.st.ty hf).ne_ h.blk.ty (by decide) rfl, fun hf => (h.me.ty hf).ne_ h.blk.ty (by decide) rfl⟩
theorem MachIn.offc (h : MachIn w g i a s) {b : Nat} (hb : Foot a.Ac b) : ¬ Foot a.As b ∧ ¬ Foot a.Am b :=
  ⟨fun hf => (h.cd.ty hb).ne_ (h.st.ty hf) (by decide) rfl, fun hf => (h.cd.ty hb).ne_ (h.me.ty hf) (by decide) rfl⟩
/-- Another stack. -/
theorem MachIn.stack (h : MachIn w g i a s) {A' : Option Addr} {c' : Nat} {st' : List Int} {s' : VmS} (hs : s'.stack = st') (hm : s'.mem = s.mem) (ha : Apart (fun b => b = g ∨ Foot a.As b) w w') (hblk : Blk w' g 93 (machC i { a with As := A', cS := c' } s'))
    (hr : Row w' 3 A' st'.length c' (st'.map iV)) (hA : ∀ b, Foot A' b → Foot a.As b ∨ w.heap.size ≤ b) :
    MachIn w' g i { a with As := A', cS := c' } s' ∧ Goes (MachF g a) w (MachF g { a with As := A', cS := c' }) w' := by
  subst hs
  refine ⟨⟨hblk, h.cd.keep fun b hb => ha.block b (h.cd.lt hb) (fun hor => hor.elim (fun e => h.off.1 (e ▸ hb)) (h.offc hb).1), hr, ?_, fun b hb hb2 => ?_⟩, ⟨⟨ha.os, ha.tape, ha.output, ha.size, fun b hb hF => ha.block b hb (fun hor => hF (hor.elim .inl (fun h9 => .inr (.inr (.inl h9)))))⟩, fun b hb => ?_⟩⟩
  · rw [hm]
    exact h.me.keep fun b hb => ha.block b (h.me.lt hb) (fun hor => hor.elim (fun e => h.off.2.2 (e ▸ hb)) (fun h9 => h.ap b h9 hb))
  · rcases hA b hb with h9 | h9
    · exact h.ap b h9 hb2
    · have := h.me.lt hb2; omega
  · rcases hb with rfl | hb | hb | hb
    · exact .inl (.inl rfl)
    · exact .inl (.inr (.inl hb))
    · exact (hA b hb).imp_left fun h9 => .inr (.inr (.inl h9))
    · exact .inl (.inr (.inr (.inr hb)))
/-- A word of memory. -/
theorem MachIn.word (h : MachIn w g i a s) {am : Nat} (hAm : a.Am = some ⟨am, 0, none⟩) (k : Nat) (x : Int) :
    MachIn (w.setCell ⟨am, k, none⟩ (iV x)) g i a { s with mem := s.mem.set k x } ∧ Goes (MachF g a) w (MachF g a) (w.setCell ⟨am, k, none⟩ (iV x)) := by
  have hf : Foot a.Am am := ⟨_, hAm, rfl⟩
  have hk : ∀ b, b ≠ am → (w.setCell ⟨am, k, none⟩ (iV x)).heap[b]? = w.heap[b]? := fun b hb => Below.heap_setCell _ _ _ _ hb
  refine ⟨⟨?_, h.cd.keep fun b hb => hk b (fun e => (h.offc hb).2 (e ▸ hf)), h.st.keep fun b hb => hk b (fun e => h.ap b hb (e ▸ hf)), ?_, h.ap⟩, ⟨(Apart.refl _ _).setCell (.inl (.inr (.inr (.inr hf)))) _, fun _ h => .inl h⟩⟩
  · have := (hk g (fun e => h.off.2.2 (e ▸ hf))).trans h.blk
    show Blk _ g _ (machC i a _)
    unfold machC
    simp only [List.length_set]
    exact this
  · have h1 := h.me
    rw [hAm] at h1 ⊢
    simp only [List.length_set, List.map_set]
    exact h1.set_ k (iV x)
end
def sentC (q : Int × Int) : List Value := [iV q.1, iV q.2]
/-- The cells of a tick that goes on. -/
def runC (g gs : Nat) (arg next : Int) (Ao : Option Addr) (n cO : Nat) (conf : Bool) : List Value := [.pointer (some ⟨g, 0, none⟩), .iface 31 (.pointer (some ⟨gs, 0, none⟩)), .int .i64 arg, .int .i64 next, .slice Ao n cO, .bool conf]
structure RunIn (w : World) (h g gs : Nat) (arg : Int) (Ao : Option Addr) (cO : Nat) (d : VmD) : Prop where
  blk : Blk w h 115 (runC g gs arg d.next Ao d.sent.length cO d.conf)
  out : w.ownsRow 0 51 2 (.slice Ao d.sent.length cO) d.sent.length (d.sent.flatMap sentC)
def RunF (h : Nat) (Ao : Option Addr) (b : Nat) : Prop := b = h ∨ Foot Ao b
def machS (pc ticks fault : Int) (d : VmD) : VmS := ⟨pc, d.stack, d.mem, ticks, fault⟩
def TickAt (w : World) (F : Nat → Prop) (h g gs : Nat) (i : ImgS) (cs : List ChanS) (pc ticks fault arg : Int) (d : VmD) : Prop :=
  ∃ a Ao cO F2, MachIn w g i a (machS pc ticks fault d) ∧ RunIn w h g gs arg Ao cO d ∧ SetAt w F2 gs cs d.ss ∧ (∀ b, F2 b → ¬ MachF g a b ∧ ¬ RunF h Ao b) ∧ ∀ b, F b ↔ MachF g a b ∨ RunF h Ao b ∨ F2 b
section
variable {w w' : World} {F : Nat → Prop} {h g gs : Nat} {i : ImgS} {a : VmA} {cs : List ChanS} {pc ticks fault arg : Int} {Ao : Option Addr} {cO : Nat} {d : VmD}
theorem RunIn.lt (r : RunIn w h g gs arg Ao cO d) {b : Nat} (hb : RunF h Ao b) : b < w.heap.size := by
  rcases hb with rfl | hb
  · exact r.blk.lt
  · exact own_lt r.out hb
theorem RunIn.keep (r : RunIn w h g gs arg Ao cO d) (hk : ∀ b, RunF h Ao b → w'.heap[b]? = w.heap[b]?) : RunIn w' h g gs arg Ao cO d :=
  ⟨(hk h (.inl rfl)).trans r.blk, own_keep r.out fun b hb => hk b (.inr hb)⟩
theorem RunIn.off (r : RunIn w h g gs arg Ao cO d) : ¬ Foot Ao h := fun hf => (own_ty r.out hf).ne_ r.blk.ty (by decide) rfl
/-- A machine and its tick lie apart. -/
theorem RunIn.apart (r : RunIn w h g gs arg Ao cO d) {s : VmS} (m : MachIn w g i a s) {b : Nat} (hb : RunF h Ao b) : ¬ MachF g a b := by
  rintro (rfl | h1 | h1 | h1)
  · rcases hb with hb | hb
    · exact m.blk.ty.ne_ r.blk.ty (by decide) hb
    · exact m.blk.ty.ne_ (own_ty r.out hb) (by decide) rfl
  · rcases hb with rfl | hb
    · exact (m.cd.ty h1).ne_ r.blk.ty (by decide) rfl
    · exact (m.cd.ty h1).ne_ (own_ty r.out hb) (by decide) rfl
  · rcases hb with rfl | hb
    · exact (m.st.ty h1).ne_ r.blk.ty (by decide) rfl
    · exact (m.st.ty h1).ne_ (own_ty r.out hb) (by decide) rfl
  · rcases hb with rfl | hb
    · exact (m.me.ty h1).ne_ r.blk.ty (by decide) rfl
    · exact (m.me.ty h1).ne_ (own_ty r.out hb) (by decide) rfl
theorem TickAt.lt (t : TickAt w F h g gs i cs pc ticks fault arg d) {b : Nat} (hb : F b) : b < w.heap.size := by
  obtain ⟨a, Ao, cO, F2, h1, h2, h3, _, h5⟩ := t
  rcases (h5 b).1 hb with h6 | h6 | h6
  · exact h1.lt h6
  · exact h2.lt h6
  · exact h3.lt h6
theorem TickAt.keep (t : TickAt w F h g gs i cs pc ticks fault arg d) (hs : w.heap.size ≤ w'.heap.size) (hk : ∀ b, F b → w'.heap[b]? = w.heap[b]?) : TickAt w' F h g gs i cs pc ticks fault arg d := by
  obtain ⟨a, Ao, cO, F2, h1, h2, h3, h4, h5⟩ := t
  exact ⟨a, Ao, cO, F2, h1.keep fun b hb => hk b ((h5 b).2 (.inl hb)), h2.keep fun b hb => hk b ((h5 b).2 (.inr (.inl hb))), h3.keep hs fun b hb => hk b ((h5 b).2 (.inr (.inr hb))), h4, h5⟩
theorem TickAt.belowS (t : TickAt w F h g gs i cs pc ticks fault arg d) (hb : Below w.heap.size w w') : TickAt w' F h g gs i cs pc ticks fault arg d := t.keep hb.size fun b hf => hb.block b (t.lt hf)
/-- What a deed of a machine leaves. -/
def DPost (F : Nat → Prop) (w : World) (h g gs : Nat) (i : ImgS) (cs : List ChanS) (pc ticks fault arg : Int) (r : Int × VmD) (e : Ending) (w' : World) : Prop :=
  ∃ F', e = .returned (.int .i64 r.1) ∧ TickAt w' F' h g gs i cs pc ticks fault arg r.2 ∧ Goes F w F' w'
theorem DPost.same {e : Ending} {E : Int} (t : TickAt w F h g gs i cs pc ticks fault arg d) (he : e = .returned (.int .i64 E)) (hb : Below w.heap.size w w') : DPost F w h g gs i cs pc ticks fault arg (E, d) e w' :=
  ⟨F, he, t.belowS hb, Goes.of_below hb⟩
theorem Goes.iff_ {G F' : Nat → Prop} (hF : ∀ b, F b ↔ G b) (hg : Goes G w F' w') : Goes F w F' w' :=
  ⟨⟨hg.apart.os, hg.apart.tape, hg.apart.output, hg.apart.size, fun b hb hf => hg.apart.block b hb (fun hg9 => hf ((hF b).2 hg9))⟩, fun b hb => (hg.foot b hb).imp_left (hF b).2⟩
/-- Only the machine moved. -/
theorem TickAt.mach {d' : VmD} {pc' ticks' fault' : Int} {F2 : Nat → Prop} {a' : VmA} (h1 : MachIn w g i a (machS pc ticks fault d)) (h2 : RunIn w h g gs arg Ao cO d) (h3 : SetAt w F2 gs cs d.ss) (h4 : ∀ b, F2 b → ¬ MachF g a b ∧ ¬ RunF h Ao b) (h5 : ∀ b, F b ↔ MachF g a b ∨ RunF h Ao b ∨ F2 b)
    (hm : MachIn w' g i a' (machS pc' ticks' fault' d')) (hg : Goes (MachF g a) w (MachF g a') w') (hn : d'.next = d.next) (hs : d'.sent = d.sent) (hc : d'.conf = d.conf) (hss : d'.ss = d.ss) :
    ∃ F', TickAt w' F' h g gs i cs pc' ticks' fault' arg d' ∧ Goes F w F' w' := by
  have r' : RunIn w' h g gs arg Ao cO d' := by
    have := h2.keep (w' := w') fun b hb => hg.apart.block b (h2.lt hb) (h2.apart h1 hb)
    refine ⟨?_, ?_⟩
    · rw [hn, hs, hc]; exact this.blk
    · rw [hs]; exact this.out
  refine ⟨fun b => MachF g a' b ∨ RunF h Ao b ∨ F2 b, ⟨a', Ao, cO, F2, hm, r', ?_, fun b hb => ⟨fun hf => ?_, (h4 b hb).2⟩, fun b => Iff.rfl⟩, Goes.iff_ h5 ⟨⟨hg.apart.os, hg.apart.tape, hg.apart.output, hg.apart.size, fun b hb hF => hg.apart.block b hb (fun hf => hF (.inl hf))⟩, fun b hb => ?_⟩⟩
  · rw [hss]
    exact h3.apart hg.apart fun b hb => (h4 b hb).1
  · rcases hg.foot b hf with h6 | h6
    · exact (h4 b hb).1 h6
    · have := h3.lt hb; omega
  · rcases hb with hb | hb
    · exact (hg.foot b hb).imp_left .inl
    · exact .inl (.inr hb)
end
end Go.Proofs.Ytidlahljhgglcaa
namespace Go.Proofs.Ytidlahljhgglcaa
open Go.RowKit Go.ChangeShapes Go.WideShapes Go.ChangeAt

structure RvIn (w : World) (g : Nat) (i : ImgS) (a : VmA) (s : VmS) : Prop where
  blk : Blk w g 74 (machC i a s)
  cd : Row w 5 a.Ac i.code.length a.cc (i.code.map bV)
  st : Row w 3 a.As s.stack.length a.cS (s.stack.map iV)
  me : Row w 3 a.Am s.mem.length a.cM (s.mem.map iV)
  ap : ∀ b, Foot a.As b → ¬ Foot a.Am b
def RvAt (w : World) (F : Nat → Prop) (g : Nat) (i : ImgS) (s : VmS) : Prop := ∃ a, RvIn w g i a s ∧ ∀ b, F b ↔ MachF g a b
/-- What a tick has brought so far. -/
structure OutIn (w : World) (h : Nat) (Ao : Option Addr) (cO : Nat) (d : VmD) : Prop where
  blk : Blk w h 64 [.slice Ao d.sent.length cO, .bool d.conf]
  out : w.ownsRow 0 51 2 (.slice Ao d.sent.length cO) d.sent.length (d.sent.flatMap sentC)
section
variable {w w' : World} {F : Nat → Prop} {g h : Nat} {i : ImgS} {a : VmA} {s : VmS} {Ao : Option Addr} {cO : Nat} {d : VmD}
theorem RvIn.lt (h : RvIn w g i a s) {b : Nat} (hb : MachF g a b) : b < w.heap.size := by
  rcases hb with rfl | hb | hb | hb
  · exact h.blk.lt
  · exact h.cd.lt hb
  · exact h.st.lt hb
  · exact h.me.lt hb
theorem RvIn.keep (h : RvIn w g i a s) (hk : ∀ b, MachF g a b → w'.heap[b]? = w.heap[b]?) : RvIn w' g i a s :=
  ⟨(hk g (.inl rfl)).trans h.blk, h.cd.keep fun b hb => hk b (.inr (.inl hb)), h.st.keep fun b hb => hk b (.inr (.inr (.inl hb))), h.me.keep fun b hb => hk b (.inr (.inr (.inr hb))), h.ap⟩
theorem RvIn.belowS (h : RvIn w g i a s) (hb : Below w.heap.size w w') : RvIn w' g i a s := h.keep fun b hf => hb.block b (h.lt hf)
theorem RvAt.lt (h : RvAt w F g i s) {b : Nat} (hb : F b) : b < w.heap.size := by
  obtain ⟨a, h1, h2⟩ := h
  exact h1.lt ((h2 b).1 hb)
theorem RvAt.keep (h : RvAt w F g i s) (hk : ∀ b, F b → w'.heap[b]? = w.heap[b]?) : RvAt w' F g i s := by
  obtain ⟨a, h1, h2⟩ := h
  exact ⟨a, h1.keep fun b hb => hk b ((h2 b).2 hb), h2⟩
theorem RvAt.belowS (h : RvAt w F g i s) (hb : Below w.heap.size w w') : RvAt w' F g i s := h.keep fun b hf => hb.block b (h.lt hf)
theorem RvAt.apart {G : Nat → Prop} (h : RvAt w F g i s) (hb : Apart G w w') (hG : ∀ b, F b → ¬ G b) : RvAt w' F g i s := h.keep fun b hf => hb.block b (h.lt hf) (hG b hf)
theorem RvIn.at_ (h : RvIn w g i a s) : RvAt w (MachF g a) g i s := ⟨a, h, fun _ => Iff.rfl⟩
theorem RvIn.off (h : RvIn w g i a s) : ¬ Foot a.Ac g ∧ ¬ Foot a.As g ∧ ¬ Foot a.Am g :=
  ⟨fun hf => (h.cd.ty hf).ne_ h.blk.ty (by decide) rfl, fun hf => (h.st.ty hf).ne_ h.blk.ty (by decide) rfl, fun hf => (h.me.ty hf).ne_ h.blk.ty (by decide) rfl⟩
theorem RvIn.offc (h : RvIn w g i a s) {b : Nat} (hb : Foot a.Ac b) : ¬ Foot a.As b ∧ ¬ Foot a.Am b :=
  ⟨fun hf => (h.cd.ty hb).ne_ (h.st.ty hf) (by decide) rfl, fun hf => (h.cd.ty hb).ne_ (h.me.ty hf) (by decide) rfl⟩
/-- Another stack, of a row that was made since. -/
theorem RvIn.stack (h : RvIn w g i a s) {w1 : World} (hb : Below w.heap.size w w1) {A' : Option Addr} {c' : Nat} {st' : List Int} (hr : Row w1 3 A' st'.length c' (st'.map iV)) (hA : ∀ b, Foot A' b → Foot a.As b ∨ w.heap.size ≤ b) :
    RvIn (w1.setCell ⟨g, 9, none⟩ (.slice A' st'.length c')) g i { a with As := A', cS := c' } { s with stack := st' } ∧ Goes (MachF g a) w (MachF g { a with As := A', cS := c' }) (w1.setCell ⟨g, 9, none⟩ (.slice A' st'.length c')) := by
  have hgA : ¬ Foot A' g := fun hf => (hA g hf).elim h.off.2.1 (fun h9 => by have := h.blk.lt; omega)
  have hk : ∀ b, b ≠ g → (w1.setCell ⟨g, 9, none⟩ (.slice A' st'.length c')).heap[b]? = w1.heap[b]? := fun b hb => Below.heap_setCell _ _ _ _ hb
  have h1 := h.belowS hb
  refine ⟨⟨h1.blk.set_ 9 (.slice A' st'.length c'), h1.cd.keep fun b hf => hk b (fun e => h.off.1 (e ▸ hf)), hr.keep fun b hf => hk b (fun e => hgA (e ▸ hf)), h1.me.keep fun b hf => hk b (fun e => h.off.2.2 (e ▸ hf)), fun b hf hm => ?_⟩, ⟨(Apart.of_below hb).setCell (.inl (.inl rfl)) _, fun b hf => ?_⟩⟩
  · rcases hA b hf with h9 | h9
    · exact h.ap b h9 hm
    · have := h.me.lt hm; omega
  · rcases hf with hf | hf | hf | hf
    · exact .inl (.inl hf)
    · exact .inl (.inr (.inl hf))
    · exact (hA b hf).imp_left fun h9 => .inr (.inr (.inl h9))
    · exact .inl (.inr (.inr (.inr hf)))
/-- A word of memory. -/
theorem RvIn.word (h : RvIn w g i a s) {am : Nat} (hAm : a.Am = some ⟨am, 0, none⟩) (k : Nat) (x : Int) :
    RvIn (w.setCell ⟨am, k, none⟩ (iV x)) g i a { s with mem := s.mem.set k x } ∧ Goes (MachF g a) w (MachF g a) (w.setCell ⟨am, k, none⟩ (iV x)) := by
  have hf : Foot a.Am am := ⟨_, hAm, rfl⟩
  have hk : ∀ b, b ≠ am → (w.setCell ⟨am, k, none⟩ (iV x)).heap[b]? = w.heap[b]? := fun b hb => Below.heap_setCell _ _ _ _ hb
  refine ⟨⟨?_, h.cd.keep fun b hb => hk b (fun e => (h.offc hb).2 (e ▸ hf)), h.st.keep fun b hb => hk b (fun e => h.ap b hb (e ▸ hf)), ?_, h.ap⟩, ⟨(Apart.refl _ _).setCell (.inl (.inr (.inr (.inr hf)))) _, fun _ h => .inl h⟩⟩
  · have := (hk g (fun e => h.off.2.2 (e ▸ hf))).trans h.blk
    show Blk _ g _ (machC i a _)
    unfold machC
    simp only [List.length_set]
    exact this
  · have h1 := h.me
    rw [hAm] at h1 ⊢
    simp only [List.length_set, List.map_set]
    exact h1.set_ k (iV x)
/-- A word of the machine's own: where it is, its ticks, its fault. -/
theorem RvIn.own (h : RvIn w g i a s) {k : Nat} {v : Value} {s' : VmS} (hs : s'.stack = s.stack) (hm : s'.mem = s.mem) (hr : (machC i a s).set k v = machC i a s') :
    RvIn (w.setCell ⟨g, k, none⟩ v) g i a s' ∧ Goes (MachF g a) w (MachF g a) (w.setCell ⟨g, k, none⟩ v) := by
  have hk : ∀ b, b ≠ g → (w.setCell ⟨g, k, none⟩ v).heap[b]? = w.heap[b]? := fun b hb => Below.heap_setCell _ _ _ _ hb
  refine ⟨⟨by rw [← hr]; exact h.blk.set_ k v, h.cd.keep fun b hb => hk b (fun e => h.off.1 (e ▸ hb)), ?_, ?_, h.ap⟩, ⟨(Apart.refl _ _).setCell (.inl (.inl rfl)) _, fun _ h9 => .inl h9⟩⟩
  · rw [hs]; exact h.st.keep fun b hb => hk b (fun e => h.off.2.1 (e ▸ hb))
  · rw [hm]; exact h.me.keep fun b hb => hk b (fun e => h.off.2.2 (e ▸ hb))
theorem OutIn.lt (r : OutIn w h Ao cO d) {b : Nat} (hb : RunF h Ao b) : b < w.heap.size := by
  rcases hb with rfl | hb
  · exact r.blk.lt
  · exact own_lt r.out hb
theorem OutIn.keep (r : OutIn w h Ao cO d) (hk : ∀ b, RunF h Ao b → w'.heap[b]? = w.heap[b]?) : OutIn w' h Ao cO d :=
  ⟨(hk h (.inl rfl)).trans r.blk, own_keep r.out fun b hb => hk b (.inr hb)⟩
theorem OutIn.off (r : OutIn w h Ao cO d) : ¬ Foot Ao h := fun hf => (own_ty r.out hf).ne_ r.blk.ty (by decide) rfl
theorem OutIn.apart (r : OutIn w h Ao cO d) (m : RvIn w g i a s) {b : Nat} (hb : RunF h Ao b) : ¬ MachF g a b := by
  rintro (rfl | h1 | h1 | h1)
  · rcases hb with hb | hb
    · exact m.blk.ty.ne_ r.blk.ty (by decide) hb
    · exact m.blk.ty.ne_ (own_ty r.out hb) (by decide) rfl
  · rcases hb with rfl | hb
    · exact (m.cd.ty h1).ne_ r.blk.ty (by decide) rfl
    · exact (m.cd.ty h1).ne_ (own_ty r.out hb) (by decide) rfl
  · rcases hb with rfl | hb
    · exact (m.st.ty h1).ne_ r.blk.ty (by decide) rfl
    · exact (m.st.ty h1).ne_ (own_ty r.out hb) (by decide) rfl
  · rcases hb with rfl | hb
    · exact (m.me.ty h1).ne_ r.blk.ty (by decide) rfl
    · exact (m.me.ty h1).ne_ (own_ty r.out hb) (by decide) rfl
end
/-- The machine, what its tick has brought so far, the channels. -/
def RvTick (w : World) (F : Nat → Prop) (h g gR : Nat) (i : ImgS) (cs : List ChanS) (pc ticks fault : Int) (d : VmD) : Prop :=
  ∃ a Ao cO F2, RvIn w g i a (machS pc ticks fault d) ∧ OutIn w h Ao cO d ∧ RefAt w F2 gR cs (hL d.ss) ∧ (∀ b, F2 b → ¬ MachF g a b ∧ ¬ RunF h Ao b) ∧ ∀ b, F b ↔ MachF g a b ∨ RunF h Ao b ∨ F2 b
section
variable {w w' : World} {F : Nat → Prop} {h g gR : Nat} {i : ImgS} {cs : List ChanS} {pc ticks fault : Int} {d : VmD}
theorem RvTick.lt (t : RvTick w F h g gR i cs pc ticks fault d) {b : Nat} (hb : F b) : b < w.heap.size := by
  obtain ⟨a, Ao, cO, F2, h1, h2, h3, _, h5⟩ := t
  rcases (h5 b).1 hb with h6 | h6 | h6
  · exact h1.lt h6
  · exact h2.lt h6
  · exact h3.lt h6
theorem RvTick.keep (t : RvTick w F h g gR i cs pc ticks fault d) (hs : w.heap.size ≤ w'.heap.size) (hk : ∀ b, F b → w'.heap[b]? = w.heap[b]?) : RvTick w' F h g gR i cs pc ticks fault d := by
  obtain ⟨a, Ao, cO, F2, h1, h2, h3, h4, h5⟩ := t
  exact ⟨a, Ao, cO, F2, h1.keep fun b hb => hk b ((h5 b).2 (.inl hb)), h2.keep fun b hb => hk b ((h5 b).2 (.inr (.inl hb))), h3.keep hs fun b hb => hk b ((h5 b).2 (.inr (.inr hb))), h4, h5⟩
theorem RvTick.belowS (t : RvTick w F h g gR i cs pc ticks fault d) (hb : Below w.heap.size w w') : RvTick w' F h g gR i cs pc ticks fault d := t.keep hb.size fun b hf => hb.block b (t.lt hf)
/-- Only the machine moved. -/
theorem RvTick.mach (t : RvTick w F h g gR i cs pc ticks fault d) {d' : VmD} {pc' ticks' fault' : Int}
    (hm : ∀ F1, RvAt w F1 g i (machS pc ticks fault d) → ∃ F1', RvAt w' F1' g i (machS pc' ticks' fault' d') ∧ Goes F1 w F1' w') (hs : d'.sent = d.sent) (hc : d'.conf = d.conf) (hss : d'.ss = d.ss) :
    ∃ F', RvTick w' F' h g gR i cs pc' ticks' fault' d' ∧ Goes F w F' w' := by
  obtain ⟨a, Ao, cO, F2, h1, h2, h3, h4, h5⟩ := t
  obtain ⟨F1', ⟨a', m', hF'⟩, hg⟩ := hm _ h1.at_
  have hm1 : ∀ b, MachF g a' b → MachF g a b ∨ w.heap.size ≤ b := fun b hb => hg.foot b ((hF' b).2 hb)
  have r' : OutIn w' h Ao cO d' := by
    have := h2.keep (w' := w') fun b hb => hg.apart.block b (h2.lt hb) (h2.apart h1 hb)
    refine ⟨?_, ?_⟩
    · rw [hs, hc]; exact this.blk
    · rw [hs]; exact this.out
  refine ⟨fun b => MachF g a' b ∨ RunF h Ao b ∨ F2 b, ⟨a', Ao, cO, F2, m', r', ?_, fun b hb => ⟨fun hf => ?_, (h4 b hb).2⟩, fun b => Iff.rfl⟩, Goes.iff_ h5 ⟨⟨hg.apart.os, hg.apart.tape, hg.apart.output, hg.apart.size, fun b hb hF => hg.apart.block b hb (fun hf => hF (.inl hf))⟩, fun b hb => ?_⟩⟩
  · rw [hss]
    exact h3.apart hg.apart fun b hb => (h4 b hb).1
  · rcases hm1 b hf with h6 | h6
    · exact (h4 b hb).1 h6
    · have := h3.lt hb; omega
  · rcases hb with hb | hb
    · exact (hm1 b hb).imp_left .inl
    · exact .inl (.inr hb)
end
end Go.Proofs.Ytidlahljhgglcaa
namespace Go.Proofs.Ytidlahljhgglcaa
open Go.RowKit

theorem info_u8V : (Try.prog.info? 5).map (fun i => (i.zero, i.size, i.bytes)) = some (some (.int .u8 0), 1, 1) := by kernel_rfl
theorem cloneB_any (A : Option Addr) (n c : Nat) (l : List UInt8) (w : World) (h : Reads w w.heap.size 1 A n (l.map bV)) (hn : n ≤ 1000000000) :
    Calls Try.prog 43 #[.slice A n c] w fun e w' => ∃ A' c', e = .returned (.slice A' n c') ∧ w'.ownsRow w.heap.size 5 1 (.slice A' n c') n (l.map bV) ∧ Below w.heap.size w w' := by
  have hnil := fun (W : World) (a : Option Addr) => Lib.run_eql_slice_nil (P := Try.prog) W 22 5 a n c 0 0 Try.underlying22
  obtain ⟨i0, hi0, hz0, hz1, hz2⟩ := info_parts info_u8V
  cases A with
  | none =>
    have hb : n = 0 := by
      by_cases h0 : 0 < n
      · obtain ⟨ad, he, _⟩ := h.form h0
        cases he
      · omega
    subst hb
    have hb : l = [] := List.eq_nil_of_length_eq_zero (by simpa using h.len)
    subst hb
    clear h
    go_enter Try.func43, Try.ntmps43
    go_wp2
    go_ret
    exact ⟨none, 0, rfl, World.ownsRow_nil _ _ _ _, Below.refl _ _⟩
  | some ad =>
    go_enter Try.func43, Try.ntmps43
    go_wp2_with (at_builtin; refine wpList_app _ rfl (.tmp 5) (.tmp 6) _ rfl w.heap.size 5 i0 _ 1 1 Try.underlying22 hi0 hz0 hz1 hz2 rfl (by decide) (.slice (some ⟨w.heap.size, 0, none⟩) 0 0) 0 [] rfl (World.ownsRow_made w _ 0 (Nat.le_refl _) (by simp [maxLen]) rfl) w.heap.size (some ad) n c (l.map bV) rfl (h.alloc (Nat.le_refl _) _) (oneCell_b l) (by simp [maxLen]; omega) (by omega) (by simp) ?_; intro A' c' w' hown hg hb)
    go_ret
    refine ⟨A', c', by simp, by simpa using hown, ?_⟩
    exact below_own ((Below.refl w.heap.size w).alloc (Nat.le_refl _) _) (World.ownsRow_made (size := 1) w _ 0 (Nat.le_refl _) (by simp [maxLen]) rfl) hg (Nat.le_refl _) (by simp)
theorem known_any (o : Nat) (ho : o ≤ 255) (w : World) : Calls Try.prog 84 #[.int .i64 (o : Int)] w fun e w' => e = .returned (.bool (decide (o ≤ 18))) ∧ w' = w := by
  by_cases h : o ≤ 18
  · have y0 : decide ((0 : Int) ≤ (o : Int)) = true := decide_eq_true (by omega)
    have y1 : decide ((o : Int) ≤ 18) = true := decide_eq_true (by omega)
    have y1' : decide (o ≤ 18) = true := decide_eq_true h
    have hr : Hid (decide (o ≤ 18) = true) := hid y1'
    clear h
    go_enter Try.func84, Try.ntmps84
    go_wp2_with fail
    go_ret
    exact ⟨by rw [hr.out]; rfl, by first | trivial | rfl⟩
  · have y0 : decide ((0 : Int) ≤ (o : Int)) = true := decide_eq_true (by omega)
    have y1 : decide ((o : Int) ≤ 18) = false := decide_eq_false (by omega)
    have y1' : decide (o ≤ 18) = false := decide_eq_false h
    have hr : Hid (decide (o ≤ 18) = false) := hid y1'
    clear h
    go_enter Try.func84, Try.ntmps84
    go_wp2_with fail
    go_ret
    exact ⟨by rw [hr.out]; rfl, by first | trivial | rfl⟩
theorem hasOp_any (o : Nat) (ho : o ≤ 18) (w : World) : Calls Try.prog 85 #[.int .i64 (o : Int)] w fun e w' => e = .returned (.bool (hasArg o)) ∧ w' = w := by
  have h19 : o = 0 ∨ o = 1 ∨ o = 2 ∨ o = 3 ∨ o = 4 ∨ o = 5 ∨ o = 6 ∨ o = 7 ∨ o = 8 ∨ o = 9 ∨ o = 10 ∨ o = 11 ∨ o = 12 ∨ o = 13 ∨ o = 14 ∨ o = 15 ∨ o = 16 ∨ o = 17 ∨ o = 18 := by omega
  clear ho
  rcases h19 with rfl | rfl | rfl | rfl | rfl | rfl | rfl | rfl | rfl | rfl | rfl | rfl | rfl | rfl | rfl | rfl | rfl | rfl | rfl
  all_goals
    go_enter Try.func85, Try.ntmps85
    go_wp2_with fail
    go_ret
    exact ⟨rfl, by first | trivial | rfl⟩
/-- What op.At tells. -/
def atV (r : Option (Nat × Int × Int)) : Value := match r with
  | none => .tuple #[.agg #[.int .i64 0, .int .i64 0], .int .i64 0, .int .i64 19]
  | some (o, a, nx) => .tuple #[.agg #[.int .i64 (o : Int), .int .i64 a], .int .i64 nx, .int .i64 0]
theorem cell_allocT {w : World} {p : Addr} {u : Value} (h : w.cell? p = some u) (o : Obj) : (w.alloc o).cell? p = some u := (World.cell?_of_block (Below.heap_alloc _ _ _ (World.block_lt_of_cell? w p h))).trans h
theorem opAt_any (A : Option Addr) (n c : Nat) (l : List UInt8) (pc : Int) (w : World) (h : Reads w w.heap.size 1 A n (l.map bV)) (hn : n ≤ 1000000) :
    Calls Try.prog 48 #[.slice A n c, .int .i64 pc] w fun e w' => e = .returned (atV (atF l pc)) ∧ Below w.heap.size w w' := by
  have hl : l.length = n := by simpa using h.len
  by_cases hpc : pc < 0
  · have y0 : decide (pc < 0) = true := decide_eq_true hpc
    have hr : Hid (atV (atF l pc) = .tuple #[.agg #[.int .i64 0, .int .i64 0], .int .i64 0, .int .i64 19]) := hid (by rw [show atF l pc = none from if_pos hpc]; rfl)
    clear h hl hpc
    go_enter Try.func48, Try.ntmps48
    go_wp2_with fail
    go_returns
    exact ⟨by rw [hr.out], (Below.refl w.heap.size w).alloc (Nat.le_refl _) _⟩
  have y0 : decide (pc < 0) = false := decide_eq_false hpc
  obtain ⟨k, rfl⟩ : ∃ k : Nat, pc = (k : Int) := ⟨pc.toNat, by omega⟩
  by_cases hk : n ≤ k
  · have y1 : decide ((n : Int) ≤ (k : Int)) = true := decide_eq_true (by omega)
    have y1' : decide (n ≤ k) = true := decide_eq_true hk
    have hr : Hid (atV (atF l (k : Int)) = .tuple #[.agg #[.int .i64 0, .int .i64 0], .int .i64 0, .int .i64 19]) := hid (by
      have hx : l[(k : Int).toNat]? = none := List.getElem?_eq_none (by rw [Int.toNat_natCast]; omega)
      rw [show atF l (k : Int) = none by unfold atF; rw [if_neg hpc, hx]]
      rfl)
    clear h hl hpc hk
    go_enter Try.func48, Try.ntmps48
    go_wp2_with fail
    go_returns
    exact ⟨by rw [hr.out], (Below.refl w.heap.size w).alloc (Nat.le_refl _) _⟩
  have y1 : decide ((n : Int) ≤ (k : Int)) = false := decide_eq_false (by omega)
  have y1' : decide (n ≤ k) = false := decide_eq_false hk
  obtain ⟨ad, b, rfl, had, hx, hcell⟩ := h.atM (k := k) (by omega)
  have x0 : (0 : Int) ≤ (k : Int) := Int.natCast_nonneg _
  have x1 : (k : Int) < (n : Int) := by omega
  have d0 := fun o => cell_allocT hcell o
  have d1 := fun o o' => cell_allocT (cell_allocT hcell o) o'
  have hb255 : b.toNat ≤ 255 := by have := b.toNat_lt; omega
  have iK := hid (fun w => known_any b.toNat hb255 w)
  have hat0 : Hid (∀ r, (if 18 < b.toNat then none else if hasArg b.toNat = false then some (b.toNat, 0, (k : Int) + 1) else match l[k + 1]? with | none => none | some c => some (b.toNat, (c.toNat : Int), (k : Int) + 2)) = r → atF l (k : Int) = r) := hid (fun r hr => by
    unfold atF
    rw [if_neg hpc, Int.toNat_natCast, hx]
    exact hr)
  by_cases h18 : 18 < b.toNat
  · have hr : Hid (atV (atF l (k : Int)) = .tuple #[.agg #[.int .i64 0, .int .i64 0], .int .i64 0, .int .i64 19]) := hid (by rw [hat0.out none (if_pos h18)]; rfl)
    rw [decide_eq_false (show ¬ b.toNat ≤ 18 by omega)] at iK
    clear h hl hx
    go_enter Try.func48, Try.ntmps48
    go_wp2_with fail
    refine (iK.out _).mono ?_
    rintro e w1 ⟨rfl, rfl⟩
    go_wp2_with fail
    go_returns
    exact ⟨by rw [hr.out], (Below.refl w.heap.size w).alloc (Nat.le_refl _) _⟩
  rw [decide_eq_true (show b.toNat ≤ 18 by omega)] at iK
  have iH := hid (fun w => hasOp_any b.toNat (by omega) w)
  have y2 : IntKind.i64.wrap ((k : Int) + 1) = ((k + 1 : Nat) : Int) := by rw [IntWalk.i64_in _ (by omega)]; omega
  by_cases ha : hasArg b.toNat = false
  · have hr : Hid (atV (atF l (k : Int)) = .tuple #[.agg #[.int .i64 (b.toNat : Int), .int .i64 0], .int .i64 ((k : Int) + 1), .int .i64 0]) := hid (by rw [hat0.out _ ((if_neg h18).trans (if_pos ha))]; rfl)
    rw [ha] at iH
    clear h hl hx
    go_enter Try.func48, Try.ntmps48
    go_wp2_with fail
    refine (iK.out _).mono ?_
    rintro e w1 ⟨rfl, rfl⟩
    go_wp2_with fail
    refine (iH.out _).mono ?_
    rintro e w1 ⟨rfl, rfl⟩
    go_wp2_with fail
    go_returns
    refine ⟨by first | (rw [hr.out]; done) | (rw [hr.out]; rfl) | (rw [hr.out]; simp; done) | (rw [hr.out]; simp; exact ⟨IntWalk.wrap64_in _ ⟨by omega, by omega⟩, by omega⟩), ?_⟩
    first
      | exact bel_alloc ((Below.refl w.heap.size w).alloc (Nat.le_refl _) _) _
      | exact (bel_alloc ((Below.refl w.heap.size w).alloc (Nat.le_refl _) _) _).setCell (by simp) _
      | exact ((bel_alloc ((Below.refl w.heap.size w).alloc (Nat.le_refl _) _) _).setCell (by simp) _).setCell (by simp) _
      | trace_state
  have ha' : hasArg b.toNat = true := by simpa using ha
  rw [ha'] at iH
  by_cases hk1 : k + 1 = n
  · have hr : Hid (atV (atF l (k : Int)) = .tuple #[.agg #[.int .i64 0, .int .i64 0], .int .i64 0, .int .i64 19]) := hid (by
      rw [hat0.out none ((if_neg h18).trans ((if_neg ha).trans (by rw [List.getElem?_eq_none (by omega)])))]; rfl)
    have y3 : (((k + 1 : Nat) : Int) == (n : Int)) = true := by simp; omega
    have y3' : (((k : Int) + 1) == (n : Int)) = true := by simp; omega
    clear h hl hx hk1 hpc
    go_enter Try.func48, Try.ntmps48
    go_wp2_with fail
    refine (iK.out _).mono ?_
    rintro e w1 ⟨rfl, rfl⟩
    go_wp2_with fail
    refine (iH.out _).mono ?_
    rintro e w1 ⟨rfl, rfl⟩
    go_wp2_with fail
    go_returns
    refine ⟨by first | (rw [hr.out]; done) | (rw [hr.out]; rfl) | (rw [hr.out]; simp; done) | (rw [hr.out]; simp; exact ⟨IntWalk.wrap64_in _ ⟨by omega, by omega⟩, by omega⟩), ?_⟩
    first
      | exact bel_alloc ((Below.refl w.heap.size w).alloc (Nat.le_refl _) _) _
      | exact (bel_alloc ((Below.refl w.heap.size w).alloc (Nat.le_refl _) _) _).setCell (by simp) _
      | exact ((bel_alloc ((Below.refl w.heap.size w).alloc (Nat.le_refl _) _) _).setCell (by simp) _).setCell (by simp) _
      | trace_state
  · have hk1l : k + 1 < n := by omega
    obtain ⟨ad', b1, hae, _, hx1, hcell1⟩ := h.atM hk1l
    injection hae with hae
    subst hae
    have hb1 := b1.toNat_lt
    have hr : Hid (atV (atF l (k : Int)) = .tuple #[.agg #[.int .i64 (b.toNat : Int), .int .i64 (b1.toNat : Int)], .int .i64 ((k : Int) + 2), .int .i64 0]) := hid (by
      rw [hat0.out _ ((if_neg h18).trans ((if_neg ha).trans (by rw [hx1])))]; rfl)
    have y3 : (((k + 1 : Nat) : Int) == (n : Int)) = false := by simp; omega
    have y3' : (((k : Int) + 1) == (n : Int)) = false := by simp; omega
    have hadd : ad.add (k + 1) = ⟨ad.block, ad.off + (k + 1), none⟩ := by unfold Addr.add; rw [if_neg (by omega)]
    rw [hadd] at hcell1
    have f1 := fun o o' => cell_allocT (cell_allocT hcell1 o) o'
    clear hadd
    have x2 : (0 : Int) ≤ (k : Int) + 1 := by omega
    have x3 : (k : Int) + 1 < (n : Int) := by omega
    clear h hl hx hk1 hk1l hx1 hpc
    go_enter Try.func48, Try.ntmps48
    go_wp2_with fail
    refine (iK.out _).mono ?_
    rintro e w1 ⟨rfl, rfl⟩
    go_wp2_with fail
    refine (iH.out _).mono ?_
    rintro e w1 ⟨rfl, rfl⟩
    go_wp2_with fail
    go_returns
    refine ⟨by first | (rw [hr.out]; done) | (rw [hr.out]; rfl) | (rw [hr.out]; simp; done) | (rw [hr.out]; simp; exact ⟨IntWalk.wrap64_in _ ⟨by omega, by omega⟩, by omega⟩), ?_⟩
    first
      | exact bel_alloc ((Below.refl w.heap.size w).alloc (Nat.le_refl _) _) _
      | exact (bel_alloc ((Below.refl w.heap.size w).alloc (Nat.le_refl _) _) _).setCell (by simp) _
      | exact ((bel_alloc ((Below.refl w.heap.size w).alloc (Nat.le_refl _) _) _).setCell (by simp) _).setCell (by simp) _
      | trace_state
end Go.Proofs.Ytidlahljhgglcaa
