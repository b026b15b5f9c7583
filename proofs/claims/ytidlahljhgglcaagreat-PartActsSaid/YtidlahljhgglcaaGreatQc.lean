/-
  Layer 17's reference: are states alike, are messages alike?
  A machine and a set of channels, apart from one another.
  A machine and its channels among several objects.
  Messages' cells, one behind the other.
  Are bytes alike?
  A machine, the reference's, and their channels, apart from one another.
  Package part.
-/
import Derived.Test.YtidlahljhgglcaaGreatVmMach
import Derived.Test.YtidlahljhgglcaaGreatVmTick
import Derived.Test.YtidlahljhgglcaaGreatVmNew
import Derived.Test.YtidlahljhgglcaaGreatSep
import Derived.Test.YtidlahljhgglcaaGreatVmMem
import Derived.Test.YtidlahljhgglcaaGreatQa
import Derived.Test.YtidlahljhgglcaaGreatRvTick
import Derived.Test.YtidlahljhgglcaaGreatRvNew
import Derived.Test.YtidlahljhgglcaaGreatPortQ
import Derived.Test.YtidlahljhgglcaaGreatRefRight
import Derived.Deep.RegionHeld3
namespace Go.Proofs.YtidlahljhgglcaaGreat
open Go.RowKit Go.ChangeShapes Go.WideShapes Go.ChangeAt

theorem st_in (s : VmS) (A1 : Option Addr) (c1 : Nat) (A2 : Option Addr) (c2 : Nat) (B1 : Option Addr) (d1 : Nat) (B2 : Option Addr) (d2 : Nat) (w : World) :
    ∃ w2 : World, ((w.alloc (.cells #[.int .i64 s.pc, .slice A1 s.stack.length c1, .slice A2 s.mem.length c2, .int .i64 s.ticks, .int .i64 s.fault] 53)).alloc (.cells #[.int .i64 s.pc, .slice B1 s.stack.length d1, .slice B2 s.mem.length d2, .int .i64 s.ticks, .int .i64 s.fault] 53)) = w2 ∧ Below w.heap.size w w2 ∧
      Blk w2 w.heap.size 53 [.int .i64 s.pc, .slice A1 s.stack.length c1, .slice A2 s.mem.length c2, .int .i64 s.ticks, .int .i64 s.fault] ∧ Blk w2 (w.heap.size + 1) 53 [.int .i64 s.pc, .slice B1 s.stack.length d1, .slice B2 s.mem.length d2, .int .i64 s.ticks, .int .i64 s.fault] :=
  ⟨_, rfl, bel_alloc ((Below.refl w.heap.size w).alloc (Nat.le_refl _) _) _, (Blk.new w _ [.int .i64 s.pc, .slice A1 s.stack.length c1, .slice A2 s.mem.length c2, .int .i64 s.ticks, .int .i64 s.fault]).alloc _, by
    have := Blk.new (w.alloc (.cells #[.int .i64 s.pc, .slice A1 s.stack.length c1, .slice A2 s.mem.length c2, .int .i64 s.ticks, .int .i64 s.fault] 53)) 53 [.int .i64 s.pc, .slice B1 s.stack.length d1, .slice B2 s.mem.length d2, .int .i64 s.ticks, .int .i64 s.fault]
    rw [show (w.alloc (.cells #[.int .i64 s.pc, .slice A1 s.stack.length c1, .slice A2 s.mem.length c2, .int .i64 s.ticks, .int .i64 s.fault] 53)).heap.size = w.heap.size + 1 by simp] at this
    exact this⟩
set_option maxRecDepth 100000 in
set_option maxHeartbeats 2000000 in
theorem sameSt_any (s : VmS) (A1 : Option Addr) (c1 : Nat) (A2 : Option Addr) (c2 : Nat) (B1 : Option Addr) (d1 : Nat) (B2 : Option Addr) (d2 : Nat) (w : World)
    (h1 : Reads w w.heap.size 1 A1 s.stack.length (s.stack.map iV)) (h2 : Reads w w.heap.size 1 A2 s.mem.length (s.mem.map iV)) (h3 : Reads w w.heap.size 1 B1 s.stack.length (s.stack.map iV)) (h4 : Reads w w.heap.size 1 B2 s.mem.length (s.mem.map iV)) (hl : s.stack.length ≤ 1000000) (hm : s.mem.length ≤ 1000000) :
    Calls Tryz.prog 14 #[stateV s A1 c1 A2 c2, stateV s B1 d1 B2 d2] w fun e w' => e = .returned (.bool true) ∧ Below w.heap.size w w' := by
  obtain ⟨w2, hw2, hb2, hX, hY⟩ := st_in s A1 c1 A2 c2 B1 d1 B2 d2 w
  obtain ⟨pc, st, me, ticks, fault⟩ := s
  simp only at hw2 hX hY h1 h2 h3 h4 hl hm
  unfold stateV
  simp only
  have x0 : w2.cell? ⟨w.heap.size, 0, none⟩ = some (.int .i64 pc) := hX.cellAt rfl
  have x1 : w2.cell? ⟨w.heap.size, 1, none⟩ = some (.slice A1 st.length c1) := hX.cellAt rfl
  have x2 : w2.cell? ⟨w.heap.size, 2, none⟩ = some (.slice A2 me.length c2) := hX.cellAt rfl
  have x3 : w2.cell? ⟨w.heap.size, 3, none⟩ = some (.int .i64 ticks) := hX.cellAt rfl
  have x4 : w2.cell? ⟨w.heap.size, 4, none⟩ = some (.int .i64 fault) := hX.cellAt rfl
  have y0 : w2.cell? ⟨w.heap.size + 1, 0, none⟩ = some (.int .i64 pc) := hY.cellAt rfl
  have y1 : w2.cell? ⟨w.heap.size + 1, 1, none⟩ = some (.slice B1 st.length d1) := hY.cellAt rfl
  have y2 : w2.cell? ⟨w.heap.size + 1, 2, none⟩ = some (.slice B2 me.length d2) := hY.cellAt rfl
  have y3 : w2.cell? ⟨w.heap.size + 1, 3, none⟩ = some (.int .i64 ticks) := hY.cellAt rfl
  have y4 : w2.cell? ⟨w.heap.size + 1, 4, none⟩ = some (.int .i64 fault) := hY.cellAt rfl
  have R1 := hid (h1.belowS hb2)
  have R2 := hid (h2.belowS hb2)
  have R3 := hid (h3.belowS hb2)
  have R4 := hid (h4.belowS hb2)
  have HB := hid hb2
  clear hX hY h1 h2 h3 h4 hb2
  generalize hN : st.length = N at *
  generalize hM : me.length = M at *
  have HN := hid hN
  have HM := hid hM
  clear hN hM
  go_enter Tryz.func14, Tryz.ntmps14
  go_wp2_with fail
  go_loopw [5] (fun v5 wr => ∃ k : Nat, k ≤ N ∧ v5 = .int .i64 (k : Int) ∧ ∃ q, wr = w2.drewN q) (fun v5 _ => N - (intOf v5).toNat)
  case atStart => exact ⟨0, by omega, rfl, 0, rfl⟩
  case round =>
    obtain ⟨k, hk, rfl, q, rfl⟩ := hrel
    by_cases hkn : k < N
    · obtain ⟨ad, x, rfl, _, hx1, hc1⟩ := R1.out.atM hkn
      obtain ⟨ad', x', rfl, _, hx2, hc2⟩ := R3.out.atM hkn
      have : x = x' := by rw [hx1] at hx2; exact Option.some.inj hx2
      subst this
      have z0 : (0 : Int) ≤ (k : Int) := Int.natCast_nonneg _
      have z1 : (k : Int) < (N : Int) := by omega
      clear hx1 hx2
      go_wp2_with fail
      go_quiet (fail)
      go_wp2_with fail
      go_roundw
      case rel => exact ⟨k + 1, by omega, by go_num, _, rfl⟩
      case measure => simp [intOf]; omega
    · obtain rfl : k = N := by omega
      have hkn' : decide ((k : Int) < (k : Int)) = false := decide_eq_false (by omega)
      go_wp2_with fail
      go_loopw [6] (fun v6 wr => ∃ k : Nat, k ≤ M ∧ v6 = .int .i64 (k : Int) ∧ ∃ q, wr = w2.drewN q) (fun v6 _ => M - (intOf v6).toNat)
      case atStart => exact ⟨0, by omega, rfl, q, rfl⟩
      case round =>
        obtain ⟨j, hj, rfl, q', rfl⟩ := hrel
        by_cases hjn : j < M
        · obtain ⟨ad, x, rfl, _, hx1, hc1⟩ := R2.out.atM hjn
          obtain ⟨ad', x', rfl, _, hx2, hc2⟩ := R4.out.atM hjn
          have : x = x' := by rw [hx1] at hx2; exact Option.some.inj hx2
          subst this
          have z0 : (0 : Int) ≤ (j : Int) := Int.natCast_nonneg _
          have z1 : (j : Int) < (M : Int) := by omega
          clear hx1 hx2
          go_wp2_with fail
          go_quiet (fail)
          go_wp2_with fail
          go_roundw
          case rel => exact ⟨j + 1, by omega, by go_num, _, rfl⟩
          case measure => simp [intOf]; omega
        · obtain rfl : j = M := by omega
          go_wp2_with fail
          go_ret
          exact ⟨rfl, below_drewN HB.out _⟩
set_option maxRecDepth 100000 in
set_option maxHeartbeats 2000000 in
theorem sameSent_any (l : List (Int × Int)) (A1 A2 : Option Addr) (n c1 c2 : Nat) (w : World) (h1 : RdS w w.heap.size 2 A1 n sentC l) (h2 : RdS w w.heap.size 2 A2 n sentC l) (hn : n ≤ 1000000) :
    Calls Tryz.prog 13 #[.slice A1 n c1, .slice A2 n c2] w fun e w' => e = .returned (.bool true) ∧ Below w.heap.size w w' := by
  go_enter Tryz.func13, Tryz.ntmps13
  go_wp2_with fail
  go_loopw [5] (fun v5 wr => ∃ k : Nat, k ≤ n ∧ v5 = .int .i64 (k : Int) ∧ ∃ q, wr = w.drewN q) (fun v5 _ => n - (intOf v5).toNat)
  case atStart => exact ⟨0, by omega, rfl, 0, rfl⟩
  case round =>
    obtain ⟨k, hk, rfl, q, rfl⟩ := hrel
    by_cases hkn : k < n
    · obtain ⟨ad, x, rfl, _, hx1, p0, p1⟩ := h1.at_ hkn
      obtain ⟨ad', x', rfl, _, hx2, q0, q1⟩ := h2.at_ hkn
      have : x = x' := by rw [hx1] at hx2; exact Option.some.inj hx2
      subst this
      have a0 := p0 _ rfl
      have a1 := p1 0 _ rfl
      have b0 := q0 _ rfl
      have b1 := q1 0 _ rfl
      obtain ⟨xa, xb⟩ := x
      simp only at a0 a1 b0 b1
      have z0 : (0 : Int) ≤ (k : Int) := Int.natCast_nonneg _
      have z1 : (k : Int) < (n : Int) := by omega
      clear hx1 hx2 p0 p1 q0 q1
      go_wp2_with fail
      go_quiet (fail)
      go_wp2_with fail
      go_roundw
      case rel => exact ⟨k + 1, by omega, by go_num, _, rfl⟩
      case measure => simp [intOf]; omega
    · obtain rfl : k = n := by omega
      go_wp2_with fail
      go_ret
      exact ⟨rfl, below_drewN (Below.refl _ _) _⟩
end Go.Proofs.YtidlahljhgglcaaGreat
namespace Go.Proofs.YtidlahljhgglcaaGreat
open Go.RowKit Go.ChangeShapes Go.WideShapes Go.ChangeAt

theorem fineFresh {i : ImgS} (h : RightI i) : FineS i (freshS i.mem.toNat) :=
  ⟨by simp [freshS], by simp [freshS], by have := h.2.2.2.1; simp [freshS]; omega, fun x hx => by
    simp only [freshS, List.mem_replicate] at hx
    rw [hx.2]
    exact ⟨by omega, by omega⟩⟩
theorem kZero (cs : List ChanS) (h : ∀ x ∈ cs, 0 ≤ x.depth) : KAll cs (zeroW cs) := fun k hk => by
  obtain ⟨x, hx⟩ : ∃ x, cs[k]? = some x := ⟨_, List.getElem?_eq_getElem hk⟩
  unfold zeroW
  rw [depthAt_get hx]
  exact KOk.zero (h x (List.mem_of_getElem? hx))
structure VS (w0 : World) (g gs : Nat) (i : ImgS) (cs : List ChanS) (s : VmS) (ss : Nat → WayS) (X : Nat → Prop) (w : World) : Prop where
  ex : ∃ F1 F2, VmAt w F1 g i s ∧ SetAt w F2 gs cs ss ∧ (∀ b, F1 b → ¬ F2 b) ∧ (∀ b, F1 b → w0.heap.size ≤ b) ∧ (∀ b, F2 b → w0.heap.size ≤ b) ∧ ∀ b, X b → b < w.heap.size ∧ ¬ F1 b ∧ ¬ F2 b
  bel : Below w0.heap.size w0 w
  fine : FineS i s
  k : KAll cs ss
section
variable {w0 w w' : World} {g gs : Nat} {i : ImgS} {cs : List ChanS} {s : VmS} {ss : Nat → WayS} {X : Nat → Prop}
theorem VS.lew (h : VS w0 g gs i cs s ss X w) : w0.heap.size ≤ w.heap.size := h.bel.size
theorem VS.belowS (h : VS w0 g gs i cs s ss X w) (hb : Below w.heap.size w w') : VS w0 g gs i cs s ss X w' := by
  obtain ⟨F, G, h1, h2, h3, h4, h5, h6⟩ := h.ex
  exact ⟨⟨F, G, h1.belowS hb, h2.belowS hb, h3, h4, h5, fun b hX => ⟨Nat.lt_of_lt_of_le (h6 b hX).1 hb.size, (h6 b hX).2⟩⟩, bel_trans h.bel hb, h.fine, h.k⟩
theorem VS.less {Y : Nat → Prop} (h : VS w0 g gs i cs s ss X w) (hY : ∀ b, Y b → X b) : VS w0 g gs i cs s ss Y w := by
  obtain ⟨F, G, h1, h2, h3, h4, h5, h6⟩ := h.ex
  exact ⟨⟨F, G, h1, h2, h3, h4, h5, fun b hb => h6 b (hY b hb)⟩, h.bel, h.fine, h.k⟩
/-- Blocks that were made since lie apart. -/
theorem VS.fresh {Y : Nat → Prop} (h : VS w0 g gs i cs s ss X w) (hb : Below w.heap.size w w') (hY : ∀ b, Y b → X b ∨ (w.heap.size ≤ b ∧ b < w'.heap.size)) : VS w0 g gs i cs s ss Y w' := by
  obtain ⟨F, G, h1, h2, h3, h4, h5, h6⟩ := h.ex
  refine ⟨⟨F, G, h1.belowS hb, h2.belowS hb, h3, h4, h5, fun b hy => ?_⟩, bel_trans h.bel hb, h.fine, h.k⟩
  rcases hY b hy with h7 | h7
  · exact ⟨Nat.lt_of_lt_of_le (h6 b h7).1 hb.size, (h6 b h7).2⟩
  · exact ⟨h7.2, fun hf => by have := h1.lt hf; omega, fun hf => by have := h2.lt hf; omega⟩
theorem VS.made (h : VS w0 g gs i cs s ss X w) (o : Obj) : VS w0 g gs i cs s ss (fun b => X b ∨ b = w.heap.size) (w.alloc o) :=
  h.fresh (below_alloc1 w o) fun b hb => hb.imp_right fun e => by subst e; simp
theorem VS.write (h : VS w0 g gs i cs s ss X w) {p : Addr} (hp : X p.block) (hB : w0.heap.size ≤ p.block) (u : Value) : VS w0 g gs i cs s ss X (w.setCell p u) := by
  obtain ⟨F, G, h1, h2, h3, h4, h5, h6⟩ := h.ex
  have hk : ∀ b, b ≠ p.block → (w.setCell p u).heap[b]? = w.heap[b]? := fun b hb => Below.heap_setCell _ _ _ _ hb
  exact ⟨⟨F, G, h1.keep fun b hb => hk b (fun e => (h6 _ hp).2.1 (e ▸ hb)), h2.keep (by simp [World.setCell]) fun b hb => hk b (fun e => (h6 _ hp).2.2 (e ▸ hb)), h3, h4, h5, fun b hb => ⟨by simpa [World.setCell] using (h6 b hb).1, (h6 b hb).2⟩⟩, h.bel.setCell hB u, h.fine, h.k⟩
theorem VS.state (h : VS w0 g gs i cs s ss X w) (hI : RightI i) :
    Calls Tryz.prog 33 #[.pointer (some ⟨g, 0, none⟩)] w fun e w' => ∃ A1 c1 A2 c2, e = .returned (stateV s A1 c1 A2 c2) ∧ w'.ownsRow w.heap.size 3 1 (.slice A1 s.stack.length c1) s.stack.length (s.stack.map iV) ∧ w'.ownsRow w.heap.size 3 1 (.slice A2 s.mem.length c2) s.mem.length (s.mem.map iV) ∧ Below w.heap.size w w' := by
  obtain ⟨F, G, h1, _⟩ := h.ex
  exact state_any h1 (by have := h.fine.len; omega) (by have := h.fine.mlen; have := hI.2.2.2.1; omega)
theorem VS.image (h : VS w0 g gs i cs s ss X w) (hI : RightI i) :
    Calls Tryz.prog 37 #[.pointer (some ⟨g, 0, none⟩)] w fun e w' => ∃ A c, e = .returned (imgV i A c) ∧ w'.ownsRow w.heap.size 5 1 (.slice A i.code.length c) i.code.length (i.code.map bV) ∧ Below w.heap.size w w' := by
  obtain ⟨F, G, h1, _⟩ := h.ex
  exact image_any h1 (by have := hI.2.2.2.2.2.2.2; omega)
theorem VS.reset (h : VS w0 g gs i cs s ss X w) (hI : RightI i) :
    Calls Tryz.prog 48 #[.pointer (some ⟨g, 0, none⟩)] w fun e w' => e = .returned (.tuple #[]) ∧ VS w0 g gs i cs (freshS i.mem.toNat) ss X w' ∧ w.heap.size ≤ w'.heap.size ∧ ∀ b, X b → w'.heap[b]? = w.heap[b]? := by
  obtain ⟨F, G, h1, h2, h3, h4, h5, h6⟩ := h.ex
  refine (reset_at h1 i.mem.toNat (by have := hI.2.2.2.1; omega) (by have := hI.2.2.2.1; omega)).mono ?_
  rintro e w' ⟨rfl, F', hV, hG⟩
  have hx := hG.bel h.bel (Nat.le_refl _) h4
  exact ⟨rfl, ⟨⟨F', G, hV, h2.apart hG.apart (fun b hb hf => h3 b hf hb), fun b hb hf => (hG.foot b hb).elim (fun h9 => h3 b h9 hf) (fun h9 => by have := h2.lt hf; omega), hx.2, h5, fun b hX => ⟨Nat.lt_of_lt_of_le (h6 b hX).1 hG.apart.size, fun hb => (hG.foot b hb).elim (h6 b hX).2.1 (fun h9 => by have := (h6 b hX).1; omega), (h6 b hX).2.2⟩⟩, hx.1, fineFresh hI, h.k⟩, hG.apart.size, fun b hX => hG.apart.block b (h6 b hX).1 (h6 b hX).2.1⟩
theorem tick_all {F1 F2 : Nat → Prop} (hM : VmAt w F1 g i s) (hS : SetAt w F2 gs cs ss) (hdis : ∀ b, F1 b → ¬ F2 b) (hI : RightI i) (hs : FineS i s) (hK : KAll cs ss) (hd : ∀ k, k < cs.length → depthAt cs k ≤ 4) (ht0 : 0 ≤ s.ticks) (ht1 : s.ticks ≤ 1000000000) :
    Calls Tryz.prog 32 #[.pointer (some ⟨g, 0, none⟩), .iface 31 (.pointer (some ⟨gs, 0, none⟩))] w (TPost F1 F2 w g gs i cs (tickF i cs s ss)) := by
  by_cases hf : s.fault = 0
  · exact tick_any hM hS hdis hI hs hK hd hf ht0 ht1
  · have e : tickF i cs s ss = (s, ss, [], false) := by unfold tickF; rw [if_pos hf]
    rw [e]
    refine (tick_fault hM hf _).mono ?_
    rintro e w' ⟨rfl, hb⟩
    have hno : ∀ b, ¬ Foot none b := fun b h9 => by obtain ⟨x, hx, _⟩ := h9; cases hx
    exact ⟨F1, F2, none, 0, rfl, hM.belowS hb, hS.belowS hb, hdis, fun b h9 => absurd h9 (hno b), World.ownsRow_nil _ _ _ _, ⟨Apart.of_below hb, fun b h9 => .inl (h9.imp_right fun h8 => h8.resolve_right (hno b))⟩⟩
theorem VS.tick (h : VS w0 g gs i cs s ss X w) (hI : RightI i) (hd : ∀ k, k < cs.length → depthAt cs k ≤ 4) (ht0 : 0 ≤ s.ticks) (ht1 : s.ticks ≤ 1000000000) :
    Calls Tryz.prog 32 #[.pointer (some ⟨g, 0, none⟩), .iface 31 (.pointer (some ⟨gs, 0, none⟩))] w fun e w' => ∃ A c, e = .returned (outV A (tickF i cs s ss).2.2.1.length c (tickF i cs s ss).2.2.2) ∧ VS w0 g gs i cs (tickF i cs s ss).1 (tickF i cs s ss).2.1 X w' ∧
      w'.ownsRow 0 116 2 (.slice A (tickF i cs s ss).2.2.1.length c) (tickF i cs s ss).2.2.1.length ((tickF i cs s ss).2.2.1.flatMap sentC) ∧ (∀ q ∈ (tickF i cs s ss).2.2.1, SentOk i q) ∧ (tickF i cs s ss).2.2.1.length ≤ i.fuel.toNat ∧ w.heap.size ≤ w'.heap.size ∧ ∀ b, X b → w'.heap[b]? = w.heap[b]? := by
  obtain ⟨F, G, h1, h2, h3, h4, h5, h6⟩ := h.ex
  have hk := tickF_keeps (cs := cs) h.fine h.k
  refine (tick_all h1 h2 h3 hI h.fine h.k hd ht0 ht1).mono ?_
  rintro e w' ⟨F1', F2', A, c, rfl, hM', hS', hdis', hA, hown, hG⟩
  have hx := hG.bel h.bel (Nat.le_refl _) (fun b hb => hb.elim (h4 b) (h5 b))
  refine ⟨A, c, rfl, ⟨⟨F1', F2', hM', hS', hdis', fun b hb => hx.2 b (.inl hb), fun b hb => hx.2 b (.inr (.inl hb)), fun b hX => ?_⟩, hx.1, hk.1, hk.2.1⟩, hown, hk.2.2.1, hk.2.2.2, hG.apart.size, fun b hX => hG.apart.block b (h6 b hX).1 (fun h9 => h9.elim (h6 b hX).2.1 (h6 b hX).2.2)⟩
  have hno : ∀ b', (F1' b' ∨ F2' b' ∨ Foot A b') → b' ≠ b := fun b' h9 e => by
    subst e
    rcases hG.foot b' h9 with h8 | h8
    · exact h8.elim (h6 b' hX).2.1 (h6 b' hX).2.2
    · have := (h6 b' hX).1; omega
  exact ⟨Nat.lt_of_lt_of_le (h6 b hX).1 hG.apart.size, fun h9 => hno b (.inl h9) rfl, fun h9 => hno b (.inr (.inl h9)) rfl⟩
/-- From a new machine and a new set. -/
theorem VS.start {w1 w2 : World} {F1 F2 : Nat → Prop} (hI : RightI i) (hb1 : Below w0.heap.size w0 w1) (hM : VmAt w1 F1 g i (freshS i.mem.toNat)) (hF1 : ∀ b, F1 b → w0.heap.size ≤ b) (hb2 : Below w1.heap.size w1 w2) (hS : SetAt w2 F2 gs cs (zeroW cs)) (hF2 : ∀ b, F2 b → w1.heap.size ≤ b) (hcs : ∀ x ∈ cs, 0 ≤ x.depth) :
    VS w0 g gs i cs (freshS i.mem.toNat) (zeroW cs) (fun _ => False) w2 :=
  ⟨⟨F1, F2, hM.belowS hb2, hS, fun b h1 h2 => by have := hM.lt h1; have := hF2 b h2; omega, hF1, fun b hb => Nat.le_trans hb1.size (hF2 b hb), fun _ h => h.elim⟩, bel_trans hb1 hb2, fineFresh hI, kZero cs hcs⟩
end
end Go.Proofs.YtidlahljhgglcaaGreat
namespace Go.Proofs.YtidlahljhgglcaaGreat
open Go.RowKit Go.ChangeShapes Go.WideShapes Go.ChangeAt

def vmC (g : Nat) (i : ImgS) (s : VmS) : Comp := ⟨fun w F => VmAt w F g i s, fun h _ hk => h.keep hk, fun h hb => h.lt hb⟩
def setC (gs : Nat) (cs : List ChanS) (ss : Nat → WayS) : Comp := ⟨fun w F => SetAt w F gs cs ss, fun h hs hk => h.keep hs hk, fun h hb => h.lt hb⟩
def rowC (e : TypeId) (size : Nat) (A : Option Addr) (n c : Nat) (xs : List Value) : Comp :=
  ⟨fun w F => w.ownsRow 0 e size (.slice A n c) n xs ∧ ∀ b, F b ↔ Foot A b, fun h _ hk => ⟨own_keep h.1 fun b hb => hk b ((h.2 b).2 hb), h.2⟩, fun h hb => own_lt h.1 ((h.2 _).1 hb)⟩
section
variable {w w' w0 : World} {g gs : Nat} {i : ImgS} {cs : List ChanS} {s : VmS} {ss : Nat → WayS} {l : List Comp}
theorem AllS.tickA (h : AllS w0 (vmC g i s :: setC gs cs ss :: l) w) (hI : RightI i) (hs : FineS i s) (hK : KAll cs ss) (hd : ∀ k, k < cs.length → depthAt cs k ≤ 4) (ht0 : 0 ≤ s.ticks) (ht1 : s.ticks ≤ 1000000000) :
    Calls Tryz.prog 32 #[.pointer (some ⟨g, 0, none⟩), .iface 31 (.pointer (some ⟨gs, 0, none⟩))] w fun e w' => ∃ A c, e = .returned (outV A (tickF i cs s ss).2.2.1.length c (tickF i cs s ss).2.2.2) ∧
      AllS w0 (vmC g i (tickF i cs s ss).1 :: setC gs cs (tickF i cs s ss).2.1 :: rowC 116 2 A (tickF i cs s ss).2.2.1.length c ((tickF i cs s ss).2.2.1.flatMap sentC) :: l) w' := by
  obtain ⟨F1, F2, h1, h2, hdis, hcl⟩ := h.step2
  refine (tick_all h1 h2 hdis hI hs hK hd ht0 ht1).mono ?_
  rintro e w' ⟨F1', F2', A, c, rfl, hM', hS', hdis', hA, hown, hG⟩
  refine ⟨A, c, rfl, ?_⟩
  exact hcl w' [vmC g i (tickF i cs s ss).1, setC gs cs (tickF i cs s ss).2.1, rowC 116 2 A (tickF i cs s ss).2.2.1.length c ((tickF i cs s ss).2.2.1.flatMap sentC)] (fun b => F1' b ∨ F2' b ∨ Foot A b)
    ⟨F1', fun b => F2' b ∨ Foot A b, hM', SepF.two (C := setC gs cs (tickF i cs s ss).2.1) (D := rowC 116 2 A (tickF i cs s ss).2.2.1.length c ((tickF i cs s ss).2.2.1.flatMap sentC)) hS' ⟨hown, fun _ => Iff.rfl⟩ fun b hb hf => (hA b hf).2 hb, fun b hb hf => hf.elim (hdis' b hb) (fun hf => (hA b hf).1 hb), fun _ => Iff.rfl⟩ hG
theorem AllS.sendA (h : AllS w0 (setC gs cs ss :: l) w) (hK : KAll cs ss) (hd : ∀ k, k < cs.length → depthAt cs k ≤ 4) (p k v : Int) :
    Calls Tryz.prog 17 #[.pointer (some ⟨gs, 0, none⟩), .int .i64 p, .int .i64 k, .int .i64 v] w fun e w' => e = .returned (.tuple #[.bool (sendP cs ss p k v).1, .int .i64 (sendP cs ss p k v).2.1]) ∧ AllS w0 (setC gs cs (sendP cs ss p k v).2.2 :: l) w' := by
  obtain ⟨F1, h1, hcl⟩ := h.step1
  refine (sendP_any h1 hK hd p k v).mono ?_
  rintro e w' ⟨F', rfl, hS, hG⟩
  exact ⟨rfl, hcl w' (setC gs cs (sendP cs ss p k v).2.2) F' hS hG⟩
theorem AllS.resetA (h : AllS w0 (vmC g i s :: l) w) (hI : RightI i) :
    Calls Tryz.prog 48 #[.pointer (some ⟨g, 0, none⟩)] w fun e w' => e = .returned (.tuple #[]) ∧ AllS w0 (vmC g i (freshS i.mem.toNat) :: l) w' := by
  obtain ⟨F1, h1, hcl⟩ := h.step1
  refine (reset_at h1 i.mem.toNat (by have := hI.2.2.2.1; omega) (by have := hI.2.2.2.1; omega)).mono ?_
  rintro e w' ⟨rfl, F', hV, hG⟩
  exact ⟨rfl, hcl w' (vmC g i (freshS i.mem.toNat)) F' hV hG⟩
theorem AllS.stateA (h : AllS w0 (vmC g i s :: l) w) (hI : RightI i) (hs : FineS i s) :
    Calls Tryz.prog 33 #[.pointer (some ⟨g, 0, none⟩)] w fun e w' => ∃ A1 c1 A2 c2, e = .returned (stateV s A1 c1 A2 c2) ∧ w'.ownsRow w.heap.size 3 1 (.slice A1 s.stack.length c1) s.stack.length (s.stack.map iV) ∧ w'.ownsRow w.heap.size 3 1 (.slice A2 s.mem.length c2) s.mem.length (s.mem.map iV) ∧ Below w.heap.size w w' := by
  obtain ⟨F1, h1, _⟩ := h.get
  exact state_any h1 (by have := hs.len; omega) (by have := hs.mlen; have := hI.2.2.2.1; omega)
theorem AllS.imageA (h : AllS w0 (vmC g i s :: l) w) (hI : RightI i) :
    Calls Tryz.prog 37 #[.pointer (some ⟨g, 0, none⟩)] w fun e w' => ∃ A c, e = .returned (imgV i A c) ∧ w'.ownsRow w.heap.size 5 1 (.slice A i.code.length c) i.code.length (i.code.map bV) ∧ Below w.heap.size w w' := by
  obtain ⟨F1, h1, _⟩ := h.get
  exact image_any h1 (by have := hI.2.2.2.2.2.2.2; omega)
theorem AllS.rowReads {e : TypeId} {size : Nat} {A : Option Addr} {n c : Nat} {xs : List Value} (h : AllS w0 (rowC e size A n c xs :: l) w) : Reads w w.heap.size size A n xs := by
  obtain ⟨F1, h1, _⟩ := h.get
  exact Reads.of_own h1.1
theorem AllS.blk {b : Nat} {T : TypeId} {xs : List Value} (h : AllS w0 (blkC b T xs :: l) w) : Blk w b T xs := by
  obtain ⟨F1, h1, _⟩ := h.get
  exact h1.1
theorem AllS.made {T : TypeId} {xs : List Value} (h : AllS w0 l w) : AllS w0 (blkC w.heap.size T xs :: l) (w.alloc (.cells xs.toArray T)) :=
  h.push (below_alloc1 w _) (C := blkC w.heap.size T xs) (F1 := fun b => b = w.heap.size) ⟨Blk.new w T xs, fun _ => Iff.rfl⟩ fun b hb => Nat.le_of_eq hb.symm
end
end Go.Proofs.YtidlahljhgglcaaGreat
namespace Go.Proofs.YtidlahljhgglcaaGreat
open Go.RowKit

theorem sent_get : ∀ (l : List (Int × Int)) (k j : Nat) (x : Int × Int), l[k]? = some x → j < 2 → (l.flatMap sentC)[k * 2 + j]? = (sentC x)[j]?
  | [], k, j, x, h, _ => by simp at h
  | y :: l, 0, j, x, h, hj => by
    simp at h
    subst h
    rw [List.flatMap_cons, List.getElem?_append_left (by simp [sentC]; omega)]
    simp
  | y :: l, k + 1, j, x, h, hj => by
    rw [List.flatMap_cons, List.getElem?_append_right (by simp [sentC]; omega)]
    have := sent_get l k j x (by simpa using h) hj
    rw [← this]
    congr 1
    simp [sentC]
    omega
theorem sent_len (l : List (Int × Int)) : (l.flatMap sentC).length = l.length * 2 := by
  induction l with
  | nil => rfl
  | cons y l ih => rw [List.flatMap_cons, List.length_append, ih, List.length_cons]; simp [sentC]; omega
theorem rdsSent {w : World} {B : Nat} {A : Option Addr} {n : Nat} {l : List (Int × Int)} (h : Reads w B 2 A n (l.flatMap sentC)) : RdS w B 2 A n sentC l := by
  have hl : l.length = n := by have := h.1; rw [sent_len] at this; omega
  refine ⟨hl, fun k x hx => ?_⟩
  have hk := (List.getElem?_eq_some_iff.1 hx).1
  obtain ⟨ad, e, hb, hc⟩ := h.2 (by omega)
  refine ⟨ad, e, hb, fun j u hu => hc _ u ?_⟩
  have hj : j < 2 := by have := (List.getElem?_eq_some_iff.1 hu).1; simpa [sentC] using this
  rw [sent_get l k j x hx hj]
  exact hu
end Go.Proofs.YtidlahljhgglcaaGreat
namespace Go.Proofs.YtidlahljhgglcaaGreat
open Go.RowKit

/-- Are bytes alike? -/
theorem same_any (A1 A2 : Option Addr) (n1 n2 c1 c2 : Nat) (xs bs : List UInt8) (w : World) (B1 B2 : Nat) (h1 : Reads w B1 1 A1 n1 (xs.map bV)) (h2 : Reads w B2 1 A2 n2 (bs.map bV)) (hn : n1 ≤ 9223372036854775807) (hm : n2 ≤ 9223372036854775807) :
    Calls Tryz.prog 38 #[.slice A1 n1 c1, .slice A2 n2 c2] w fun e w' => e = .returned (.bool (decide (xs = bs))) ∧ ∃ q, w' = w.drewN q := by
  have l1 : xs.length = n1 := by simpa using h1.len
  have l2 : bs.length = n2 := by simpa using h2.len
  by_cases hne : n1 = n2
  · have HL1 := hid l1
    have HL2 := hid l2
    clear l1 l2
    subst hne
    go_enter Tryz.func38, Tryz.ntmps38
    go_wp2_with fail
    go_loopw [5] (fun i wr => ∃ k : Nat, k ≤ n1 ∧ i = .int .i64 k ∧ (∃ q, wr = w.drewN q) ∧ xs.take k = bs.take k) (fun i _ => n1 - (intOf i).toNat)
    case atStart => exact ⟨0, by omega, rfl, ⟨0, rfl⟩, by simp⟩
    case round =>
      obtain ⟨k, hk, rfl, ⟨q, rfl⟩, htk⟩ := hrel
      have HT := hid htk
      clear htk
      by_cases hkn : k < n1
      · obtain ⟨ad1, x1, rfl, _, hx1, hc1⟩ := h1.atM hkn
        obtain ⟨ad2, x2, rfl, _, hx2, hc2⟩ := h2.atM hkn
        have HX1 := hid hx1
        have HX2 := hid hx2
        clear hx1 hx2 h1 h2
        by_cases hxe : x1 = x2
        · subst hxe
          go_wp2_with fail
          go_quiet (fail)
          go_wp2_with fail
          go_roundw
          case rel => exact ⟨k + 1, by omega, by go_num, ⟨_, rfl⟩, by rw [List.take_add_one, List.take_add_one, HT.out, HX1.out, HX2.out]⟩
          case measure => simp [intOf]; omega
        · have hd : decide (xs = bs) = false := by
            simp only [decide_eq_false_iff_not]
            rintro rfl
            rw [HX1.out] at HX2
            exact hxe (by injection HX2.out)
          have hne : ((x1.toNat : Int) == (x2.toNat : Int)) = false := by
            simp only [beq_eq_false_iff_ne, ne_eq]
            intro h
            exact hxe (UInt8.toNat.inj (by omega))
          have hne2 : ((x1.toNat : Int) != (x2.toNat : Int)) = true := by rw [bne, hne]; rfl
          go_wp2_with fail
          go_quiet (fail)
          go_wp2_with fail
          go_ret
          exact ⟨by rw [hd]; rfl, q + nq, by rw [World.drewN_drewN]⟩
      · obtain rfl : k = n1 := by omega
        have hd : decide (xs = bs) = true := by
          have h := HT.out
          rw [List.take_of_length_le (by have := HL1.out; omega), List.take_of_length_le (by have := HL2.out; omega)] at h
          simpa using h
        go_wp2_with fail
        go_ret
        exact ⟨by rw [hd]; rfl, _, rfl⟩
  · have hd : decide (xs = bs) = false := by
      simp only [decide_eq_false_iff_not]
      rintro rfl
      omega
    have HD := hid hd
    clear hd l1 l2
    have hne1 : ((n1 : Int) != (n2 : Int)) = true := by rw [bne_iff_ne]; omega
    go_enter Tryz.func38, Tryz.ntmps38
    go_wp2_with fail
    go_ret
    exact ⟨by rw [HD.out]; rfl, 0, rfl⟩

theorem same_b (A1 A2 : Option Addr) (n1 n2 c1 c2 : Nat) (xs bs : List UInt8) (w : World) (h1 : Reads w w.heap.size 1 A1 n1 (xs.map bV)) (h2 : Reads w w.heap.size 1 A2 n2 (bs.map bV)) (hn : n1 ≤ 9223372036854775807) (hm : n2 ≤ 9223372036854775807) :
    Calls Tryz.prog 38 #[.slice A1 n1 c1, .slice A2 n2 c2] w fun e w' => e = .returned (.bool (decide (xs = bs))) ∧ Below w.heap.size w w' :=
  (same_any A1 A2 n1 n2 c1 c2 xs bs w _ _ h1 h2 hn hm).mono fun _ _ ⟨he, q, hw⟩ => ⟨he, by rw [hw]; exact below_drewN (Below.refl _ _) q⟩

end Go.Proofs.YtidlahljhgglcaaGreat
namespace Go.Proofs.YtidlahljhgglcaaGreat
open Go.RowKit Go.ChangeShapes Go.WideShapes Go.ChangeAt

def rvC (g : Nat) (i : ImgS) (s : VmS) : Comp := ⟨fun w F => RvAt w F g i s, fun h _ hk => h.keep hk, fun h hb => h.lt hb⟩
def refC (gR : Nat) (cs : List ChanS) (ls : Nat → List Int) : Comp := ⟨fun w F => RefAt w F gR cs ls, fun h hs hk => h.keep hs hk, fun h hb => h.lt hb⟩
section
variable {w w' w0 : World} {g gs gr gR : Nat} {i : ImgS} {cs : List ChanS} {s : VmS} {ss : Nat → WayS} {l : List Comp}
theorem rvTick_all {F1 F2 : Nat → Prop} (hM : RvAt w F1 g i s) (hS : RefAt w F2 gR cs (hL ss)) (hdis : ∀ b, F1 b → ¬ F2 b) (hI : RightI i) (hs : FineS i s) (hK : KAll cs ss) (hd : ∀ k, k < cs.length → depthAt cs k ≤ 4) (ht0 : 0 ≤ s.ticks) (ht1 : s.ticks ≤ 1000000000) :
    Calls Tryz.prog 34 #[.pointer (some ⟨g, 0, none⟩), .pointer (some ⟨gR, 0, none⟩)] w (RTPost F1 F2 w g gR i cs (tickF i cs s ss)) := by
  by_cases hf : s.fault = 0
  · exact rvTick_any hM hS hdis hI hs hK hd hf ht0 ht1
  · have e : tickF i cs s ss = (s, ss, [], false) := by unfold tickF; rw [if_pos hf]
    rw [e]
    refine (rvTick_fault hM hf _).mono ?_
    rintro e w' ⟨rfl, hb⟩
    have hno : ∀ b, ¬ Foot none b := fun b h9 => by obtain ⟨x, hx, _⟩ := h9; cases hx
    exact ⟨F1, F2, none, 0, rfl, hM.belowS hb, hS.belowS hb, hdis, fun b h9 => absurd h9 (hno b), World.ownsRow_nil _ _ _ _, ⟨Apart.of_below hb, fun b h9 => .inl (h9.imp_right fun h8 => h8.resolve_right (hno b))⟩⟩
theorem AllS.tickR (h : AllS w0 (rvC gr i s :: refC gR cs (hL ss) :: l) w) (hI : RightI i) (hs : FineS i s) (hK : KAll cs ss) (hd : ∀ k, k < cs.length → depthAt cs k ≤ 4) (ht0 : 0 ≤ s.ticks) (ht1 : s.ticks ≤ 1000000000) :
    Calls Tryz.prog 34 #[.pointer (some ⟨gr, 0, none⟩), .pointer (some ⟨gR, 0, none⟩)] w fun e w' => ∃ A c, e = .returned (outV A (tickF i cs s ss).2.2.1.length c (tickF i cs s ss).2.2.2) ∧
      AllS w0 (rvC gr i (tickF i cs s ss).1 :: refC gR cs (hL (tickF i cs s ss).2.1) :: rowC 116 2 A (tickF i cs s ss).2.2.1.length c ((tickF i cs s ss).2.2.1.flatMap sentC) :: l) w' := by
  obtain ⟨F1, F2, h1, h2, hdis, hcl⟩ := h.step2
  refine (rvTick_all h1 h2 hdis hI hs hK hd ht0 ht1).mono ?_
  rintro e w' ⟨F1', F2', A, c, rfl, hM', hS', hdis', hA, hown, hG⟩
  refine ⟨A, c, rfl, ?_⟩
  exact hcl w' [rvC gr i (tickF i cs s ss).1, refC gR cs (hL (tickF i cs s ss).2.1), rowC 116 2 A (tickF i cs s ss).2.2.1.length c ((tickF i cs s ss).2.2.1.flatMap sentC)] (fun b => F1' b ∨ F2' b ∨ Foot A b)
    ⟨F1', fun b => F2' b ∨ Foot A b, hM', SepF.two (C := refC gR cs (hL (tickF i cs s ss).2.1)) (D := rowC 116 2 A (tickF i cs s ss).2.2.1.length c ((tickF i cs s ss).2.2.1.flatMap sentC)) hS' ⟨hown, fun _ => Iff.rfl⟩ fun b hb hf => (hA b hf).2 hb, fun b hb hf => hf.elim (hdis' b hb) (fun hf => (hA b hf).1 hb), fun _ => Iff.rfl⟩ hG
/-- What is sent to both. -/
theorem AllS.sendR (h : AllS w0 (refC gR cs (hL ss) :: l) w) (hK : KAll cs ss) (hd : ∀ k, k < cs.length → depthAt cs k ≤ 4) (p k v : Int) :
    Calls Tryz.prog 18 #[.pointer (some ⟨gR, 0, none⟩), .int .i64 p, .int .i64 k, .int .i64 v] w fun e w' => e = .returned (toldV 0 (sendP cs ss p k v).1 (sendP cs ss p k v).2.1) ∧ AllS w0 (refC gR cs (hL (sendP cs ss p k v).2.2) :: l) w' := by
  obtain ⟨F1, h1, hcl⟩ := h.step1
  refine (sendR_any h1 hK hd p k v).mono ?_
  rintro e w' ⟨F', rfl, hS, hG⟩
  exact ⟨rfl, hcl w' (refC gR cs (hL (sendP cs ss p k v).2.2)) F' hS hG⟩
/-- What a machine tells. -/
theorem AllS.rvCells (h : AllS w0 (rvC gr i s :: l) w) : ∃ a : VmA, w.cell? ⟨gr, 8, none⟩ = some (.int .i64 s.pc) ∧ w.cell? ⟨gr, 9, none⟩ = some (.slice a.As s.stack.length a.cS) ∧ w.cell? ⟨gr, 10, none⟩ = some (.slice a.Am s.mem.length a.cM) ∧ w.cell? ⟨gr, 11, none⟩ = some (.int .i64 s.ticks) ∧ w.cell? ⟨gr, 12, none⟩ = some (.int .i64 s.fault) ∧
    Reads w w.heap.size 1 a.As s.stack.length (s.stack.map iV) ∧ Reads w w.heap.size 1 a.Am s.mem.length (s.mem.map iV) := by
  obtain ⟨F1, ⟨a, m, _⟩, _⟩ := h.get
  exact ⟨a, m.blk.cellAt rfl, m.blk.cellAt rfl, m.blk.cellAt rfl, m.blk.cellAt rfl, m.blk.cellAt rfl, m.st.reads, m.me.reads⟩
end
/-- Is a table right? However long it is. -/
theorem refRight_came {w0 w : World} (t : TabS) (a : TabA) (h : TabCame w0 t a) (hb : Below w0.heap.size w0 w) :
    Calls Tryz.prog 5 #[.agg #[.int .i64 t.frame, .slice a.A1 t.parts.length a.c1, .slice a.A2 t.wins.length a.c2, .slice a.A3 t.chans.length a.c3, .int .i64 t.trial]] w fun e w' => e = .returned (.bool (rightB t)) ∧ Below w.heap.size w w' := by
  by_cases hh : headB t = true
  · exact refRight_bad t a w hh
  · have hh' : headB t = false := by simpa using hh
    have h1 := hh'
    unfold headB at h1
    simp only [Bool.or_eq_false_iff, decide_eq_false_iff_not] at h1
    exact refRight_any t a w ⟨h.inn.belowS hb, by omega, by omega, by omega, h.f1, h.f2⟩
theorem came_ok {w0 w : World} {t : TabS} {a : TabA} (h : TabCame w0 t a) (hb : Below w0.heap.size w0 w) (hr : rightB t = true) : TabOk w t a := by
  have hR := (rightB_iff t).1 hr
  exact ⟨h.inn.belowS hb, by have := hR.p2; omega, by have := hR.w8; omega, by have := hR.c4; omega, h.f1, h.f2⟩
end Go.Proofs.YtidlahljhgglcaaGreat
namespace Go.Proofs.YtidlahljhgglcaaGreat
open Go.RowKit Go.ChangeShapes Go.WideShapes Go.ChangeAt

/-- A partition's block: its machine, how often it was booted. -/
def ptC (p : Nat) (m : Option Nat) (b : Int) : Comp := blkC p 105 [.pointer (m.map fun g => ⟨g, 0, none⟩), .int .i64 b]
section
variable {w w' w0 : World} {p g gs : Nat} {i : ImgS} {cs : List ChanS} {s : VmS} {ss : Nat → WayS} {l : List Comp} {b : Int} {m : Option Nat}
theorem AllS.ptCells (h : AllS w0 (ptC p m b :: l) w) : w.cell? ⟨p, 0, none⟩ = some (.pointer (m.map fun g => ⟨g, 0, none⟩)) ∧ w.cell? ⟨p, 1, none⟩ = some (.int .i64 b) ∧ ∀ k, w.frozen? ⟨p, k, none⟩ = false := by
  have hb : Blk w p 105 [.pointer (m.map fun g => ⟨g, 0, none⟩), .int .i64 b] := AllS.blk h
  exact ⟨hb.cellAt rfl, hb.cellAt rfl, hb.frozen⟩
theorem newPart_any (w : World) : Calls Tryz.prog 8 #[] w fun e w' => e = .returned (.pointer (some ⟨w.heap.size, 0, none⟩)) ∧ w' = w.alloc (.cells #[.pointer none, .int .i64 0] 105) := by
  go_enter Tryz.func8, Tryz.ntmps8
  go_wp2_with fail
  go_ret
  exact ⟨rfl, by first | trivial | rfl⟩
theorem empty_nil (w : World) : Calls Tryz.prog 36 #[.pointer none] w fun e w' => e = .returned (.bool true) ∧ w = w' := by
  go_enter Tryz.func36, Tryz.ntmps36
  go_wp2_with fail
  go_ret
  exact ⟨rfl, rfl⟩
theorem empty_any (h : AllS w0 (ptC p m b :: l) w) : Calls Tryz.prog 36 #[.pointer (some ⟨p, 0, none⟩)] w fun e w' => e = .returned (.bool m.isNone) ∧ w = w' := by
  obtain ⟨c0, _, _⟩ := h.ptCells
  cases m with
  | none =>
    simp only [Option.map_none] at c0
    clear h
    go_enter Tryz.func36, Tryz.ntmps36
    go_wp2_with fail
    go_ret
    exact ⟨rfl, rfl⟩
  | some g =>
    simp only [Option.map_some] at c0
    clear h
    go_enter Tryz.func36, Tryz.ntmps36
    go_wp2_with fail
    go_ret
    exact ⟨rfl, rfl⟩
theorem stands_nil (w : World) : Calls Tryz.prog 23 #[.pointer none] w fun e w' => e = .returned (.bool false) ∧ w = w' := by
  go_enter Tryz.func23, Tryz.ntmps23
  go_wp2_with fail
  refine (empty_nil _).mono ?_
  rintro e w' ⟨rfl, rfl⟩
  go_wp2_with fail
  go_ret
  exact ⟨rfl, rfl⟩
theorem stands_none (h : AllS w0 (ptC p none b :: l) w) : Calls Tryz.prog 23 #[.pointer (some ⟨p, 0, none⟩)] w fun e w' => e = .returned (.bool false) ∧ w = w' := by
  have i1 := hid (empty_any h)
  clear h
  go_enter Tryz.func23, Tryz.ntmps23
  go_wp2_with fail
  refine i1.out.mono ?_
  rintro e w' ⟨rfl, rfl⟩
  go_wp2_with fail
  go_ret
  exact ⟨rfl, rfl⟩
theorem field_stF (v0 v1 v2 v3 v4 : Value) (w : World) : (Instr.field 53 (.agg #[v0, v1, v2, v3, v4]) 4).run Tryz.prog w = .ok v4 w := by kernel_rfl
theorem stands_any (h : AllS w0 (ptC p (some g) b :: vmC g i s :: l) w) (hI : RightI i) (hs : FineS i s) : Calls Tryz.prog 23 #[.pointer (some ⟨p, 0, none⟩)] w fun e w' => e = .returned (.bool (s.fault != 0)) ∧ Below w.heap.size w w' := by
  have i1 := hid (empty_any h)
  have i2 := hid (h.drop.stateA hI hs)
  obtain ⟨c0, _, _⟩ := h.ptCells
  simp only [Option.map_some] at c0
  have hf := field_stF
  unfold stateV at i2
  obtain ⟨f, hfa⟩ : ∃ f, s.fault = f := ⟨_, rfl⟩
  simp only [hfa] at i2 ⊢
  clear h hfa
  go_enter Tryz.func23, Tryz.ntmps23
  go_wp2_with fail
  refine i1.out.mono ?_
  rintro e w' ⟨rfl, rfl⟩
  go_wp2_with fail
  refine i2.out.mono ?_
  rintro e w2 ⟨A1, c1, A2, c2, rfl, _, _, hb2⟩
  go_wp2_with fail
  go_ret
  exact ⟨rfl, hb2⟩
theorem runs_nil (w : World) : Calls Tryz.prog 21 #[.pointer none] w fun e w' => e = .returned (.bool false) ∧ w = w' := by
  go_enter Tryz.func21, Tryz.ntmps21
  go_wp2_with fail
  refine (empty_nil _).mono ?_
  rintro e w' ⟨rfl, rfl⟩
  go_wp2_with fail
  go_ret
  exact ⟨rfl, rfl⟩
theorem runs_none (h : AllS w0 (ptC p none b :: l) w) : Calls Tryz.prog 21 #[.pointer (some ⟨p, 0, none⟩)] w fun e w' => e = .returned (.bool false) ∧ w = w' := by
  have i1 := hid (empty_any h)
  clear h
  go_enter Tryz.func21, Tryz.ntmps21
  go_wp2_with fail
  refine i1.out.mono ?_
  rintro e w' ⟨rfl, rfl⟩
  go_wp2_with fail
  go_ret
  exact ⟨rfl, rfl⟩
theorem runs_any (h : AllS w0 (ptC p (some g) b :: vmC g i s :: l) w) (hI : RightI i) (hs : FineS i s) : Calls Tryz.prog 21 #[.pointer (some ⟨p, 0, none⟩)] w fun e w' => e = .returned (.bool (s.fault == 0)) ∧ Below w.heap.size w w' := by
  have i1 := hid (empty_any h)
  have i2 := hid (stands_any h hI hs)
  have hz : Hid ((s.fault == 0) = !(s.fault != 0)) := hid (by simp [bne])
  generalize (s.fault != 0) = f at *
  clear h
  go_enter Tryz.func21, Tryz.ntmps21
  go_wp2_with fail
  refine i1.out.mono ?_
  rintro e w' ⟨rfl, rfl⟩
  go_wp2_with fail
  refine i2.out.mono ?_
  rintro e w2 ⟨rfl, hb2⟩
  go_wp2_with fail
  go_ret
  exact ⟨by rw [hz.out]; rfl, hb2⟩
theorem boots_nil (w : World) : Calls Tryz.prog 24 #[.pointer none] w fun e w' => e = .returned (.int .i64 0) ∧ w = w' := by
  go_enter Tryz.func24, Tryz.ntmps24
  go_wp2_with fail
  go_ret
  exact ⟨rfl, rfl⟩
theorem boots_any (h : AllS w0 (ptC p m b :: l) w) : Calls Tryz.prog 24 #[.pointer (some ⟨p, 0, none⟩)] w fun e w' => e = .returned (.int .i64 b) ∧ w = w' := by
  obtain ⟨_, c1, _⟩ := h.ptCells
  clear h
  go_enter Tryz.func24, Tryz.ntmps24
  go_wp2_with fail
  go_ret
  exact ⟨rfl, rfl⟩
theorem stop_nil (w : World) : Calls Tryz.prog 16 #[.pointer none] w fun e w' => e = .returned (.tuple #[]) ∧ w = w' := by
  go_enter Tryz.func16, Tryz.ntmps16
  go_wp2_with fail
  refine bodyPost_end (v := .tuple #[]) (by simp [results, Tryz.results16, go_sem]) rfl ?_
  exact ⟨rfl, by first | trivial | rfl⟩
theorem stop_any (h : AllS w0 (ptC p m b :: l) w) : Calls Tryz.prog 16 #[.pointer (some ⟨p, 0, none⟩)] w fun e w' => e = .returned (.tuple #[]) ∧ AllS w0 (ptC p none b :: l) w' := by
  obtain ⟨c0, _, fz⟩ := h.ptCells
  have f0 := fz 0
  have H := hid h
  clear h fz
  go_enter Tryz.func16, Tryz.ntmps16
  go_wp2_with fail
  refine bodyPost_end (v := .tuple #[]) (by simp [results, Tryz.results16, go_sem]) rfl ?_
  refine ⟨rfl, ?_⟩
  obtain ⟨F1, h1, hcl⟩ := H.out.step1
  have hb : Blk w p 105 _ ∧ _ := h1
  exact hcl _ (ptC p none b) F1 ⟨hb.1.set_ 0 (.pointer none), hb.2⟩ ⟨(Apart.refl _ _).setCell (.inl ((hb.2 p).2 rfl)) _, fun _ h9 => .inl h9⟩
end
end Go.Proofs.YtidlahljhgglcaaGreat
