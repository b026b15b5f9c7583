/-
  Law 20: whatever is sent, taken, lost, doubled, turned about and spoilt, what is on its way is what the document says (LinkActs).
-/
import Derived.Test.YthnifgcoikmihaaRef20e
import Derived.Test.YthnifgcoikmihaaOpenAct20
namespace Go.Proofs.Ythnifgcoikmihaa
open Go.RowKit Go.ChangeShapes Go.WideShapes Go.ChangeAt

/-- A link and its reference, apart from one another; X are blocks apart from both. -/
structure LTwo (B : Nat) (w0 : World) (g gR : Nat) (q1 q2 : Ways) (X : Nat → Prop) (w : World) : Prop where
  ex : ∃ F G, LinkAt w F g q1 ∧ RefL w G gR q2 ∧ (∀ b, F b → ¬ G b) ∧ (∀ b, F b → B ≤ b) ∧ (∀ b, G b → B ≤ b) ∧ ∀ b, X b → b < w.heap.size ∧ ¬ F b ∧ ¬ G b
  bel : Below B w0 w
  le : B ≤ w0.heap.size
section
variable {B : Nat} {w0 w w' : World} {g gR : Nat} {q1 q2 q1' q2' : Ways} {X : Nat → Prop}
theorem LTwo.lew (h : LTwo B w0 g gR q1 q2 X w) : B ≤ w.heap.size := Nat.le_trans h.le h.bel.size
theorem LTwo.belowS (h : LTwo B w0 g gR q1 q2 X w) (hb : Below w.heap.size w w') : LTwo B w0 g gR q1 q2 X w' := by
  obtain ⟨F, G, h1, h2, h3⟩ := h.ex
  exact ⟨⟨F, G, h1.belowS hb, h2.belowS hb, h3.1, h3.2.1, h3.2.2.1, fun b hX => ⟨Nat.lt_of_lt_of_le (h3.2.2.2 b hX).1 hb.size, (h3.2.2.2 b hX).2⟩⟩, h.bel.trans (hb.mono h.lew), h.le⟩
theorem LTwo.less {Y : Nat → Prop} (h : LTwo B w0 g gR q1 q2 X w) (hY : ∀ b, Y b → X b) : LTwo B w0 g gR q1 q2 Y w := by
  obtain ⟨F, G, h1, h2, h3⟩ := h.ex
  exact ⟨⟨F, G, h1, h2, h3.1, h3.2.1, h3.2.2.1, fun b hb => h3.2.2.2 b (hY b hb)⟩, h.bel, h.le⟩
/-- Blocks that were made since lie apart. -/
theorem LTwo.fresh {Y : Nat → Prop} (h : LTwo B w0 g gR q1 q2 X w) (hb : Below w.heap.size w w') (hY : ∀ b, Y b → X b ∨ (w.heap.size ≤ b ∧ b < w'.heap.size)) : LTwo B w0 g gR q1 q2 Y w' := by
  obtain ⟨F, G, h1, h2, h3, h4, h5, h6⟩ := h.ex
  refine ⟨⟨F, G, h1.belowS hb, h2.belowS hb, h3, h4, h5, fun b hy => ?_⟩, h.bel.trans (hb.mono h.lew), h.le⟩
  rcases hY b hy with h7 | h7
  · exact ⟨Nat.lt_of_lt_of_le (h6 b h7).1 hb.size, (h6 b h7).2⟩
  · exact ⟨h7.2, fun hf => by have := h1.lt hf; omega, fun hf => by have := h2.lt hf; omega⟩
theorem LTwo.made (h : LTwo B w0 g gR q1 q2 X w) (o : Obj) : LTwo B w0 g gR q1 q2 (fun b => X b ∨ b = w.heap.size) (w.alloc o) :=
  h.fresh (below_alloc1 w o) fun b hb => hb.imp_right fun e => by subst e; simp
theorem LTwo.write (h : LTwo B w0 g gR q1 q2 X w) {p : Addr} (hp : X p.block) (hB : B ≤ p.block) (u : Value) : LTwo B w0 g gR q1 q2 X (w.setCell p u) := by
  obtain ⟨F, G, h1, h2, h3, h4, h5, h6⟩ := h.ex
  have hk : ∀ b, b ≠ p.block → (w.setCell p u).heap[b]? = w.heap[b]? := fun b hb => Below.heap_setCell _ _ _ _ hb
  exact ⟨⟨F, G, h1.fol fun b hb => hk b (fun e => (h6 _ hp).2.1 (e ▸ hb)), h2.keep (by simp [World.setCell]) fun b hb => hk b (fun e => (h6 _ hp).2.2 (e ▸ hb)), h3, h4, h5, fun b hb => ⟨by simpa [World.setCell] using (h6 b hb).1, (h6 b hb).2⟩⟩, h.bel.setCell hB u, h.le⟩
/-- An act on the link. -/
theorem LTwo.actS (h : LTwo B w0 g gR q1 q2 X w) {e0 : Ending} {f : Nat} {args : Array Value} (hc : ∀ F, LinkAt w F g q1 → Calls Try.prog f args w (LPost F w g e0 q1')) :
    Calls Try.prog f args w fun e w' => e = e0 ∧ LTwo B w0 g gR q1' q2 X w' ∧ w.heap.size ≤ w'.heap.size ∧ ∀ b, X b → w'.heap[b]? = w.heap[b]? := by
  obtain ⟨FS, FR, h1, h2, h3, h4, h5, h6⟩ := h.ex
  refine (hc FS h1).mono ?_
  rintro e w' ⟨F', rfl, hS, hG⟩
  have hx := hG.below h.lew h4
  exact ⟨rfl, ⟨⟨F', FR, hS, h2.apart hG.apart (fun b hb hf => h3 b hf hb), fun b hb hf => (hG.foot b hb).elim (fun h9 => h3 b h9 hf) (fun h9 => by have := h2.lt hf; omega), hx.2, h5, fun b hX => ⟨Nat.lt_of_lt_of_le (h6 b hX).1 hG.apart.size, fun hb => (hG.foot b hb).elim (h6 b hX).2.1 (fun h9 => by have := (h6 b hX).1; omega), (h6 b hX).2.2⟩⟩, h.bel.trans hx.1, h.le⟩, hG.apart.size, fun b hX => hG.apart.block b (h6 b hX).1 (h6 b hX).2.1⟩
/-- An act on the reference. -/
theorem LTwo.actR (h : LTwo B w0 g gR q1 q2 X w) {e0 : Ending} {f : Nat} {args : Array Value} (hc : ∀ F, RefL w F gR q2 → Calls Try.prog f args w (RLPost F w gR e0 q2')) :
    Calls Try.prog f args w fun e w' => e = e0 ∧ LTwo B w0 g gR q1 q2' X w' ∧ w.heap.size ≤ w'.heap.size ∧ ∀ b, X b → w'.heap[b]? = w.heap[b]? := by
  obtain ⟨FS, FR, h1, h2, h3, h4, h5, h6⟩ := h.ex
  refine (hc FR h2).mono ?_
  rintro e w' ⟨F', rfl, hS, hG⟩
  have hx := hG.below h.lew h5
  exact ⟨rfl, ⟨⟨FS, F', h1.fol fun b hb => hG.apart.block b (h1.lt hb) (h3 b hb), hS, fun b hb hf => (hG.foot b hf).elim (fun h9 => h3 b hb h9) (fun h9 => by have := h1.lt hb; omega), h4, hx.2, fun b hX => ⟨Nat.lt_of_lt_of_le (h6 b hX).1 hG.apart.size, (h6 b hX).2.1, fun hb => (hG.foot b hb).elim (h6 b hX).2.2 (fun h9 => by have := (h6 b hX).1; omega)⟩⟩, h.bel.trans hx.1, h.le⟩, hG.apart.size, fun b hX => hG.apart.block b (h6 b hX).1 (h6 b hX).2.2⟩
/-- A frame is taken out of the link: bytes that are nobody else's. -/
theorem LTwo.takeS (h : LTwo B w0 g gR q1 q2 X w) {k : Nat} (hk : k < 2) {f : List UInt8} {r : List (List UInt8)} (hq : q1 k = f :: r) :
    Calls Try.prog 15 #[.pointer (some ⟨g, 0, none⟩), .int .i64 (k : Int)] w fun e w' => ∃ b c, e = .returned (.tuple #[.slice (some ⟨b, 0, none⟩) f.length c, .bool true]) ∧ LTwo B w0 g gR (upd q1 k r) q2 (fun x => X x ∨ x = b) w' ∧ Mine w' b f.length f ∧ w.heap.size ≤ b ∧ w.heap.size ≤ w'.heap.size ∧ ∀ b, X b → w'.heap[b]? = w.heap[b]? := by
  obtain ⟨FS, FR, h1, h2, h3, h4, h5, h6⟩ := h.ex
  refine (take_some FS g k hk q1 f r w h1 hq).mono ?_
  rintro e w' ⟨F', b, c, rfl, hS, hG, hM, hb, hn⟩
  have hx := hG.below h.lew h4
  refine ⟨b, c, rfl, ⟨⟨F', FR, hS, h2.apart hG.apart (fun b hb hf => h3 b hf hb), fun b hb hf => (hG.foot b hb).elim (fun h9 => h3 b h9 hf) (fun h9 => by have := h2.lt hf; omega), hx.2, h5, fun y hy => ?_⟩, h.bel.trans hx.1, h.le⟩, hM, hb, hG.apart.size, fun b hX => hG.apart.block b (h6 b hX).1 (h6 b hX).2.1⟩
  rcases hy with hX | rfl
  · exact ⟨Nat.lt_of_lt_of_le (h6 y hX).1 hG.apart.size, fun hb => (hG.foot y hb).elim (h6 y hX).2.1 (fun h9 => by have := (h6 y hX).1; omega), (h6 y hX).2.2⟩
  · exact ⟨hM.lt, hn, fun hf => by have := h2.lt hf; omega⟩
theorem LTwo.takeR (h : LTwo B w0 g gR q1 q2 X w) {k : Nat} (hk : k < 2) {f : List UInt8} {r : List (List UInt8)} (hq : q2 k = f :: r) :
    Calls Try.prog 22 #[.pointer (some ⟨gR, 0, none⟩), .int .i64 (k : Int)] w fun e w' => ∃ C d, e = .returned (.agg #[.slice C f.length d, .bool true]) ∧ Reads w' w'.heap.size 1 C f.length (f.map bV) ∧ LTwo B w0 g gR q1 (upd q2 k r) X w' ∧ w.heap.size ≤ w'.heap.size ∧ ∀ b, X b → w'.heap[b]? = w.heap[b]? := by
  obtain ⟨FS, FR, h1, h2, h3, h4, h5, h6⟩ := h.ex
  refine (takeR_some h2 hk hq).mono ?_
  rintro e w' ⟨F', C, d, rfl, hrd, hS, hG⟩
  have hx := hG.below h.lew h5
  exact ⟨C, d, rfl, hrd, ⟨⟨FS, F', h1.fol fun b hb => hG.apart.block b (h1.lt hb) (h3 b hb), hS, fun b hb hf => (hG.foot b hf).elim (fun h9 => h3 b hb h9) (fun h9 => by have := h1.lt hb; omega), h4, hx.2, fun b hX => ⟨Nat.lt_of_lt_of_le (h6 b hX).1 hG.apart.size, (h6 b hX).2.1, fun hb => (hG.foot b hb).elim (h6 b hX).2.2 (fun h9 => by have := (h6 b hX).1; omega)⟩⟩, h.bel.trans hx.1, h.le⟩, hG.apart.size, fun b hX => hG.apart.block b (h6 b hX).1 (h6 b hX).2.2⟩
/-- How many there are, on either side. -/
theorem LTwo.len (h : LTwo B w0 g gR q1 q2 X w) (way : Int) : (Calls Try.prog 17 #[.pointer (some ⟨g, 0, none⟩), .int .i64 way] w fun e w' => e = .returned (.int .i64 (lenQ q1 way)) ∧ w = w') ∧
    Calls Try.prog 25 #[.pointer (some ⟨gR, 0, none⟩), .int .i64 way] w fun e w' => e = .returned (.int .i64 (lenQ q2 way)) ∧ w = w' := by
  obtain ⟨F, G, h1, h2, _⟩ := h.ex
  exact ⟨len_any F g q1 way w h1, (lenR_any h2 way).mono fun _ _ ⟨a, b⟩ => ⟨a, b.symm⟩⟩
theorem LTwo.takeN (h : LTwo B w0 g gR q1 q2 X w) (way : Int) (hq : (way < 0 ∨ 2 ≤ way) ∨ q1 way.toNat = []) :
    Calls Try.prog 15 #[.pointer (some ⟨g, 0, none⟩), .int .i64 way] w fun e w' => e = .returned (.tuple #[.slice none 0 0, .bool false]) ∧ Below w.heap.size w w' := by
  obtain ⟨F, G, h1, h2, _⟩ := h.ex
  exact take_none F g q1 way w h1 hq
theorem LTwo.takeRN (h : LTwo B w0 g gR q1 q2 X w) (way : Int) (hq : (way < 0 ∨ 2 ≤ way) ∨ q2 way.toNat = []) :
    Calls Try.prog 22 #[.pointer (some ⟨gR, 0, none⟩), .int .i64 way] w fun e w' => e = .returned (.agg #[.slice none 0 0, .bool false]) ∧ Below w.heap.size w w' := by
  obtain ⟨F, G, h1, h2, _⟩ := h.ex
  exact takeR_none h2 way hq
end
theorem own_keep20 {w w' : World} {base : Nat} {e : TypeId} {size : Nat} {v : Value} {n : Nat} {xs : List Value} (h : w.ownsRow base e size v n xs) (hk : ∀ g, v.ownBlock = some g → w'.heap[g]? = w.heap[g]?) : w'.ownsRow base e size v n xs := by
  refine ⟨h.1, ?_⟩
  rcases h.2 with h2 | ⟨g, cap, cur, hv, hg, hh, r⟩
  · exact .inl h2
  · exact .inr ⟨g, cap, cur, hv, hg, (hk g (by rw [hv]; rfl)).trans hh, r⟩
/-- Where the two acts are done: the pair, the bytes handed in, the act's own variable. -/
structure Sit (B : Nat) (w0 : World) (g gR : Nat) (gb base : Nat) (A2 : Option Addr) (N c2 : Nat) (bs : List UInt8) (cs : List Value) (q1 q2 : Ways) (w : World) : Prop where
  t : LTwo B w0 g gR q1 q2 (fun b => b = gb ∨ (Value.slice A2 N c2).ownBlock = some b) w
  o : w.ownsRow base 5 1 (.slice A2 N c2) N (bs.map bV)
  b : Blk w gb 42 cs
section
variable {B : Nat} {w0 : World} {g gR gb base : Nat} {A2 : Option Addr} {N c2 : Nat} {bs : List UInt8} {cs : List Value} {q1 q2 q1' q2' : Ways} {w w' : World}
theorem Sit.drew (h : Sit B w0 g gR gb base A2 N c2 bs cs q1 q2 w) : Sit B w0 g gR gb base A2 N c2 bs cs q1 q2 w.drew :=
  ⟨h.t.belowS ⟨rfl, rfl, rfl, Nat.le_refl _, fun _ _ => rfl⟩, own_keep20 h.o fun _ _ => rfl, h.b.drew⟩
theorem Sit.next (h : Sit B w0 g gR gb base A2 N c2 bs cs q1 q2 w) (ht : LTwo B w0 g gR q1' q2' (fun b => b = gb ∨ (Value.slice A2 N c2).ownBlock = some b) w') (hk : ∀ b, (b = gb ∨ (Value.slice A2 N c2).ownBlock = some b) → w'.heap[b]? = w.heap[b]?) : Sit B w0 g gR gb base A2 N c2 bs cs q1' q2' w' :=
  ⟨ht, own_keep20 h.o fun g hg => hk g (.inr hg), (hk gb (.inl rfl)).trans h.b⟩
theorem Sit.doL (h : Sit B w0 g gR gb base A2 N c2 bs cs q1 q2 w) (kind way i kk at_ by_ : Int) (hkd : kind = 0 ∨ (2 ≤ kind ∧ kind ≤ 5)) :
    Calls Try.prog 23 #[.pointer (some ⟨g, 0, none⟩), .agg #[.int .i64 kind, .int .i64 way, .int .i64 i, .int .i64 kk, .int .i64 at_, .int .i64 by_, .slice A2 N c2]] w fun e w' => e = .returned (.int .i64 (actE q1 kind way i kk at_)) ∧ Sit B w0 g gR gb base A2 N c2 bs cs (actQ q1 kind way i kk at_ by_ bs) q2 w' :=
  (h.t.actS fun F hF => doL_any hF kind way i kk at_ by_ hkd A2 N c2 bs (Reads.of_own h.o)).mono fun _ _ ⟨he, ht, _, hk⟩ => ⟨he, h.next ht hk⟩
theorem Sit.doR (h : Sit B w0 g gR gb base A2 N c2 bs cs q1 q2 w) (hq : SmallQ q2) (kind way i kk at_ by_ : Int) (hkd : kind = 0 ∨ (2 ≤ kind ∧ kind ≤ 5)) (hn : N ≤ 100000) :
    Calls Try.prog 24 #[.pointer (some ⟨gR, 0, none⟩), .agg #[.int .i64 kind, .int .i64 way, .int .i64 i, .int .i64 kk, .int .i64 at_, .int .i64 by_, .slice A2 N c2]] w fun e w' => e = .returned (.int .i64 (actE q2 kind way i kk at_)) ∧ Sit B w0 g gR gb base A2 N c2 bs cs q1 (actQ q2 kind way i kk at_ by_ bs) w' :=
  (h.t.actR fun F hF => doR_any hF hq kind way i kk at_ by_ hkd A2 N c2 bs (Reads.of_own h.o) hn).mono fun _ _ ⟨he, ht, _, hk⟩ => ⟨he, h.next ht hk⟩
end
theorem info_u8L : (Try.prog.info? 5).map (fun i => (i.zero, i.size, i.bytes)) = some (some (.int .u8 0), 1, 1) := by kernel_rfl
theorem u8_up (z : UInt8) : ((z.toNat : Int) + 1) % 256 = ((z + 1).toNat : Int) := by
  rw [UInt8.toNat_add]; simp
theorem small_two : SmallQ (two [] []) := fun k f hf => by
  unfold two at hf
  split at hf
  · cases hf
  · split at hf <;> cases hf
set_option maxRecDepth 100000 in
set_option maxHeartbeats 4000000 in
theorem linkActs_any (w : World) (A : Option Addr) (n c : Nat) (ls : List A20) (hrd : RdS w w.heap.size 7 A n a20C ls) (hnc : n ≤ c) (hcm : c ≤ maxLen) (hok : ∀ q ∈ ls, A20Ok w q) :
    Calls Try.prog 6 #[.slice A n c] w fun e w' => e = .returned (.bool true) ∧ Below w.heap.size w w' := by
  unfold maxLen at hcm
  by_cases hn : 200 < n
  · have y0 : decide ((200 : Int) < (n : Int)) = true := decide_eq_true (by omega)
    clear hrd hok
    go_enter Try.func6, Try.ntmps6
    go_wp2_with fail
    refine (wakes_any _).mono ?_
    rintro e w1 ⟨rfl, hb1⟩
    go_wp2_with fail
    go_ret
    exact ⟨rfl, hb1⟩
  have y0 : decide ((200 : Int) < (n : Int)) = false := decide_eq_false (by omega)
  clear hn
  have HRD := hid hrd
  have HOK := hid hok
  clear hrd hok
  go_enter Try.func6, Try.ntmps6
  go_wp2_with fail
  refine (wakes_any _).mono ?_
  rintro e w1 ⟨rfl, hb1⟩
  go_wp2_with fail
  refine (new_two _).mono ?_
  rintro e w2 ⟨rfl, hl2, hb2⟩
  go_wp2_with fail
  refine (newR_any _).mono ?_
  rintro e w3 ⟨G, gR, rfl, hr3, hb3, hG3⟩
  have hT0 : LTwo w.heap.size w w1.heap.size gR (two [] []) (two [] []) (fun _ => False) w3 := by
    have := hb1.size
    have := hb2.size
    exact ⟨⟨_, G, hl2.belowS hb3, hr3, fun b h1 h2 => by have := hG3 b h2; have := hl2.lt h1; omega, fun b hb => by omega, fun b hb => by have := hG3 b hb; omega, fun _ h => h.elim⟩, bel_trans (bel_trans hb1 hb2) hb3, Nat.le_refl _⟩
  clear hb1 hl2 hb2 hr3 hb3 hG3
  generalize w1.heap.size = g at hT0 ⊢
  have HT0 := hid hT0
  clear hT0
  go_wp2_with fail
  go_loopw [6, 7, 8, 9, 10, 11, 12, 13, 14, 15, 29] (fun v6 v7 v8 v9 v10 v11 v12 v13 v14 v15 v29 wr => ∃ (k : Nat) (q : Ways), k ≤ n ∧ v29 = .int .i64 (k : Int) ∧ LTwo w.heap.size w g gR q q (fun _ => False) wr ∧ SmallQ q) (fun _ _ _ _ _ _ _ _ _ _ v29 _ => n - (intOf v29).toNat)
  case atStart => exact ⟨0, _, by omega, rfl, HT0.out, small_two⟩
  case round =>
    clear HT0
    obtain ⟨k, q, hk, rfl, hT, hQ⟩ := hrel
    have HB := hid hT.bel
    have HT := hid hT
    have HQ := hid hQ
    clear hT hQ
    by_cases hkn : k < n
    case neg =>
      obtain rfl : k = n := by omega
      clear HRD HOK
      obtain ⟨wo, hwo⟩ : ∃ wo : World, wo = wr := ⟨_, rfl⟩
      subst hwo
      go_wp2_with fail
      go_loopw [16, 17, 18, 19, 123] (fun v16 v17 v18 v19 v123 wr => ∃ (j : Nat) (q : Ways), j ≤ 2 ∧ v123 = .int .i64 (j : Int) ∧ LTwo w.heap.size w g gR q q (fun _ => False) wr ∧ SmallQ q ∧ ∀ i, i < j → q i = []) (fun _ _ _ _ v123 _ => 2 - (intOf v123).toNat)
      case atStart => exact ⟨0, q, by omega, rfl, HT.out, HQ.out, fun i h => by omega⟩
      case round =>
        clear HT HQ
        obtain ⟨j, q, hj, rfl, hT, hQ, hE⟩ := hrel
        have HTa := hid hT
        have HQa := hid hQ
        have HEa := hid hE
        clear hT hQ hE
        by_cases hj2 : j < 2
        case pos =>
          have yj : decide ((j : Int) < 2) = true := decide_eq_true (by omega)
          have yj' : decide (j < 2) = true := decide_eq_true hj2
          go_wp2_with fail
          go_loopg [17, 18, 19] ((q j).length) (fun m v17 v18 v19 wr => ∃ (q : Ways), (q j).length = m ∧ LTwo w.heap.size w g gR q q (fun _ => False) wr ∧ SmallQ q ∧ ∀ i, i < j → q i = [])
          case atStart => exact ⟨q, rfl, HTa.out, HQa.out, HEa.out⟩
          case round =>
            clear HTa HQa HEa
            obtain ⟨q, hm, hT, hQ, hE⟩ := hrel
            obtain ⟨_, i2⟩ := hT.len (j : Int)
            have e1 : lenQ q (j : Int) = ((q j).length : Int) := by unfold lenQ; rw [if_neg (by omega), Int.toNat_natCast]
            rw [e1] at i2
            have HT := hid hT
            have HQ := hid hQ
            have HE := hid hE
            have HM := hid hm
            clear hT hQ hE e1 hm
            cases hqj : q j with
            | nil =>
              rw [hqj] at i2
              have I2 := hid i2
              have HQJ := hid hqj
              clear i2 hqj
              go_wp2_with fail
              refine I2.out.mono ?_
              rintro e w7 ⟨rfl, rfl⟩
              go_wp2_with fail
              go_roundw
              case rel => exact ⟨j + 1, q, by omega, by go_num, HT.out, HQ.out, fun i hi => by
                by_cases hij : i = j
                · rw [hij]; exact HQJ.out
                · exact HE.out i (by omega)⟩
              case measure => simp [intOf]; omega
            | cons f r =>
              rw [hqj] at i2
              have I2 := hid i2
              have hfl : f.length ≤ 100 := HQ.out j f (by rw [hqj]; simp)
              have HQ2 : Hid (SmallQ (upd q j r)) := hid (HQ.out.upd_ fun x hx => HQ.out j x (by rw [hqj]; exact List.mem_cons_of_mem _ hx))
              have HM2 : Hid (r.length < gk) := hid (by rw [← HM.out, hqj]; simp)
              have i1 := hid (HT.out.takeS hj2 hqj)
              have HQF := hid hqj
              have y0 : decide ((0 : Int) < (((f :: r).length : Nat) : Int)) = true := decide_eq_true (by simp)
              have y1 : decide (0 < (f :: r).length) = true := decide_eq_true (by simp)
              generalize (f :: r).length = L at I2 y0 y1
              clear i2 hqj
              go_wp2_with fail
              refine I2.out.mono ?_
              rintro e w7 ⟨rfl, rfl⟩
              go_wp2_with fail
              refine i1.out.mono ?_
              rintro e w4 ⟨gB, cB, rfl, hT4, hM4, hg4, hs4, hX4⟩
              have HT4 := hid (hT4.less (Y := fun x => x = gB) (fun x h => .inr h))
              have HM4 := hid hM4
              clear i1 hT4 hM4 hX4
              have i2 := hid (HT4.out.takeR hj2 HQF.out)
              go_wp2_with fail
              refine i2.out.mono ?_
              rintro e w5 ⟨C, d, rfl, hrd5, hT5, hs5, hX5⟩
              have HT5 := hid hT5
              have hM5 := HM4.out.keep (hX5 gB rfl)
              have hgB5 := hM5.lt
              have HR5 := hid hrd5
              have HM5 := hid hM5
              clear i2 hT5 hX5 hrd5 hM5
              have hBx5 := hid (Blk.new w5 44 [.slice C f.length d, .bool true])
              have HT6 := hid (HT5.out.made (.cells #[.slice C f.length d, .bool true] 44))
              have hbb5 := below_alloc1 w5 (.cells #[.slice C f.length d, .bool true] 44)
              have HM6 := hid (HM5.out.keep (hbb5.block gB hgB5))
              have d0 : (w5.alloc (.cells #[.slice C f.length d, .bool true] 44)).cell? ⟨w5.heap.size, 0, none⟩ = some (.slice C f.length d) := hBx5.out.cellAt rfl
              have d1 : (w5.alloc (.cells #[.slice C f.length d, .bool true] 44)).cell? ⟨w5.heap.size, 1, none⟩ = some (.bool true) := hBx5.out.cellAt rfl
              have i3 := hid (same_b (some ⟨gB, 0, none⟩) C f.length f.length cB d f f (w5.alloc (.cells #[.slice C f.length d, .bool true] 44)) HM6.out.reads (HR5.out.belowS hbb5) (by omega) (by omega))
              rw [decide_eq_true (rfl : f = f)] at i3
              clear hbb5
              go_wp2_with fail
              refine i3.out.mono ?_
              rintro e w6 ⟨rfl, hb6⟩
              have HT7 := hid ((HT6.out.belowS hb6).less (Y := fun _ => False) (fun x h => h.elim))
              have hU : Hid (∀ i, i < j → upd q j r i = []) := hid fun i hi => by rw [upd_other _ _ _ _ (by omega)]; exact HE.out i hi
              clear i3 hb6 d0 d1
              go_wp2_with fail
              go_roundg (r.length)
              case rel => exact ⟨upd q j r, by rw [upd_same], HT7.out, HQ2.out, hU.out⟩
              case measure => exact HM2.out
        case neg =>
          obtain rfl : j = 2 := by omega
          have h0 : lenQ q 0 = 0 := by
            have := HEa.out 0 (by omega)
            unfold lenQ
            rw [if_neg (by omega)]
            show ((q 0).length : Int) = 0
            rw [this]; rfl
          have h1 : lenQ q 1 = 0 := by
            have := HEa.out 1 (by omega)
            unfold lenQ
            rw [if_neg (by omega)]
            show ((q 1).length : Int) = 0
            rw [this]; rfl
          have i0 := (HTa.out.len 0).1
          have i1 := (HTa.out.len 1).1
          rw [h0] at i0
          rw [h1] at i1
          have I0 := hid i0
          have I1 := hid i1
          clear h0 h1 i0 i1
          go_wp2_with fail
          refine I0.out.mono ?_
          rintro e w7 ⟨rfl, rfl⟩
          go_wp2_with fail
          refine I1.out.mono ?_
          rintro e w8 ⟨rfl, rfl⟩
          go_wp2_with fail
          go_ret
          exact ⟨rfl, HTa.out.bel⟩
    obtain ⟨ad, a, rfl, had, hx, hq0, hq⟩ := (HRD.out.below HB.out).at_ hkn
    have q0 := hq0 _ rfl
    have q1 := hq 0 _ rfl
    have q2 := hq 1 _ rfl
    have q3 := hq 2 _ rfl
    have q4 := hq 3 _ rfl
    have q5 := hq 4 _ rfl
    have q6 := hq 5 _ rfl
    have HA := hid (HOK.out a (List.mem_of_getElem? hx))
    clear hq hq0 hx
    obtain ⟨kind, way, ii, kk, at_, by_, Ab, cb, bs⟩ := a
    simp only at q0 q1 q2 q3 q4 q5 q6
    obtain ⟨hbr, hbc, hbm⟩ := HA.out
    simp only at hbr hbc hbm
    unfold maxLen at hbm
    have HBR := hid hbr
    clear HA hbr
    have hBx := hid (Blk.new wr 42 [.int .i64 kind, .int .i64 way, .int .i64 ii, .int .i64 kk, .int .i64 at_, .int .i64 by_, .slice Ab bs.length cb])
    have HTb := hid (HT.out.made (.cells #[.int .i64 kind, .int .i64 way, .int .i64 ii, .int .i64 kk, .int .i64 at_, .int .i64 by_, .slice Ab bs.length cb] 42))
    have hbA := hid (below_alloc1 wr (.cells #[.int .i64 kind, .int .i64 way, .int .i64 ii, .int .i64 kk, .int .i64 at_, .int .i64 by_, .slice Ab bs.length cb] 42))
    obtain ⟨gb, hgb⟩ : ∃ gb, gb = wr.heap.size := ⟨_, rfl⟩
    have c0 : (wr.alloc (.cells #[.int .i64 kind, .int .i64 way, .int .i64 ii, .int .i64 kk, .int .i64 at_, .int .i64 by_, .slice Ab bs.length cb] 42)).cell? ⟨wr.heap.size, 0, none⟩ = some (.int .i64 kind) := hBx.out.cellAt rfl
    have c1 : (wr.alloc (.cells #[.int .i64 kind, .int .i64 way, .int .i64 ii, .int .i64 kk, .int .i64 at_, .int .i64 by_, .slice Ab bs.length cb] 42)).cell? ⟨wr.heap.size, 1, none⟩ = some (.int .i64 way) := hBx.out.cellAt rfl
    have c2 : (wr.alloc (.cells #[.int .i64 kind, .int .i64 way, .int .i64 ii, .int .i64 kk, .int .i64 at_, .int .i64 by_, .slice Ab bs.length cb] 42)).cell? ⟨wr.heap.size, 2, none⟩ = some (.int .i64 ii) := hBx.out.cellAt rfl
    have c3 : (wr.alloc (.cells #[.int .i64 kind, .int .i64 way, .int .i64 ii, .int .i64 kk, .int .i64 at_, .int .i64 by_, .slice Ab bs.length cb] 42)).cell? ⟨wr.heap.size, 3, none⟩ = some (.int .i64 kk) := hBx.out.cellAt rfl
    have c4 : (wr.alloc (.cells #[.int .i64 kind, .int .i64 way, .int .i64 ii, .int .i64 kk, .int .i64 at_, .int .i64 by_, .slice Ab bs.length cb] 42)).cell? ⟨wr.heap.size, 4, none⟩ = some (.int .i64 at_) := hBx.out.cellAt rfl
    have c5 : (wr.alloc (.cells #[.int .i64 kind, .int .i64 way, .int .i64 ii, .int .i64 kk, .int .i64 at_, .int .i64 by_, .slice Ab bs.length cb] 42)).cell? ⟨wr.heap.size, 5, none⟩ = some (.int .i64 by_) := hBx.out.cellAt rfl
    have c6 : (wr.alloc (.cells #[.int .i64 kind, .int .i64 way, .int .i64 ii, .int .i64 kk, .int .i64 at_, .int .i64 by_, .slice Ab bs.length cb] 42)).cell? ⟨wr.heap.size, 6, none⟩ = some (.slice Ab bs.length cb) := hBx.out.cellAt rfl
    by_cases hl1 : 100 < bs.length
    case pos =>
      have z0 : decide ((100 : Int) < (bs.length : Int)) = true := decide_eq_true (by omega)
      clear hl1
      go_wp2_with fail
      go_ret
      exact ⟨rfl, bel_alloc HB.out _⟩
    have z0 : decide ((100 : Int) < (bs.length : Int)) = false := decide_eq_false (by omega)
    by_cases hk0 : kind < 0
    case pos =>
      have z1 : decide (kind < 0) = true := decide_eq_true hk0
      clear hk0
      go_wp2_with fail
      go_ret
      exact ⟨rfl, bel_alloc HB.out _⟩
    have z1 : decide (kind < 0) = false := decide_eq_false hk0
    by_cases hk5 : 5 < kind
    case pos =>
      have z2 : decide ((5 : Int) < kind) = true := decide_eq_true hk5
      clear hk0 hk5
      go_wp2_with fail
      go_ret
      exact ⟨rfl, bel_alloc HB.out _⟩
    have z2 : decide ((5 : Int) < kind) = false := decide_eq_false hk5
    by_cases hk1 : kind = 1
    case pos =>
      have z3 : (kind == 1) = true := by simp [hk1]
      clear hk0 hk5 hk1
      by_cases hw : (way < 0 ∨ 2 ≤ way) ∨ q way.toNat = []
      case pos =>
        have i1 := hid (HTb.out.takeN way hw)
        go_wp2_with fail
        refine i1.out.mono ?_
        rintro e w4 ⟨rfl, hb4⟩
        have HT4 := hid (HTb.out.belowS hb4)
        have HX4 := hid (hBx.out.belowS hb4)
        clear i1 hb4 c0 c1 c2 c3 c4 c5 c6 q0 q1 q2 q3 q4 q5 q6
        have c1 : w4.cell? ⟨wr.heap.size, 1, none⟩ = some (.int .i64 way) := HX4.out.cellAt rfl
        have i2 := hid (HT4.out.takeRN way hw)
        go_wp2_with fail
        refine i2.out.mono ?_
        rintro e w5 ⟨rfl, hb5⟩
        have HT5 := hid (HT4.out.belowS hb5)
        clear i2 hb5 c1
        have hBx5 := hid (Blk.new w5 44 [.slice none 0 0, .bool false])
        have HT6 := hid (HT5.out.made (.cells #[.slice none 0 0, .bool false] 44))
        have d0 : (w5.alloc (.cells #[.slice none 0 0, .bool false] 44)).cell? ⟨w5.heap.size, 0, none⟩ = some (.slice none 0 0) := hBx5.out.cellAt rfl
        have d1 : (w5.alloc (.cells #[.slice none 0 0, .bool false] 44)).cell? ⟨w5.heap.size, 1, none⟩ = some (.bool false) := hBx5.out.cellAt rfl
        have i3 := hid (same_b none none 0 0 0 0 [] [] (w5.alloc (.cells #[.slice none 0 0, .bool false] 44)) Reads.empty Reads.empty (by omega) (by omega))
        rw [decide_eq_true (rfl : ([] : List UInt8) = [])] at i3
        go_wp2_with fail
        refine i3.out.mono ?_
        rintro e w6 ⟨rfl, hb6⟩
        have hT6 := (HT6.out.belowS hb6).less (Y := fun _ => False) (fun _ h => h.elim)
        have HT6' := hid hT6
        clear i3 hb6 d0 d1 hT6
        go_wp2_with fail
        go_loopw [10, 74] (fun v10 v74 wr => v74 = .int .i64 0 ∧ wr = w6) (fun _ _ _ => 0)
        case atStart => exact ⟨rfl, rfl⟩
        case round =>
          obtain ⟨rfl, rfl⟩ := hrel
          go_wp2_with fail
          generalize wr = wi at *
          have HTi := hid HT6'.out
          have HQi := hid HQ.out
          clear HT6'
          go_loopw [15] (fun v15 wr => ∃ j : Int, -1 ≤ j ∧ j ≤ 3 ∧ v15 = .int .i64 j ∧ Below wi.heap.size wi wr) (fun v15 _ => (3 - intOf v15).toNat)
          case atStart => exact ⟨-1, by omega, by omega, rfl, Below.refl _ _⟩
          case round =>
            obtain ⟨j, hj0, hj, rfl, hbj⟩ := hrel
            have HTj := hid (HTi.out.belowS hbj)
            have HBJ := hid hbj
            clear hbj
            by_cases hj3 : j < 3
            case pos =>
              have v0 : decide (j < 3) = true := decide_eq_true hj3
              obtain ⟨i1, i2⟩ := HTj.out.len j
              have I1 := hid i1
              have I2 := hid i2
              clear i1 i2
              go_wp2_with fail
              refine I1.out.mono ?_
              rintro e w7 ⟨rfl, rfl⟩
              go_wp2_with fail
              refine I2.out.mono ?_
              rintro e w8 ⟨rfl, rfl⟩
              go_wp2_with fail
              go_roundw
              case rel => exact ⟨j + 1, by omega, by omega, by go_num, HBJ.out⟩
              case measure => simp [intOf]; omega
            case neg =>
              obtain rfl : j = 3 := by omega
              go_wp2_with fail
              go_roundw
              case rel => exact ⟨k + 1, _, by omega, by go_num, HTj.out, HQi.out⟩
              case measure => simp [intOf]; omega
      case neg =>
        have hw1 : ¬ (way < 0 ∨ 2 ≤ way) := fun h => hw (.inl h)
        have hw2 : q way.toNat ≠ [] := fun h => hw (.inr h)
        obtain ⟨kw, rfl⟩ : ∃ kw : Nat, way = (kw : Int) := ⟨way.toNat, by omega⟩
        have hkw : kw < 2 := by omega
        rw [Int.toNat_natCast] at hw2
        obtain ⟨f, r, hqf⟩ : ∃ f r, q kw = f :: r := by
          cases h : q kw with
          | nil => exact absurd h hw2
          | cons f r => exact ⟨f, r, rfl⟩
        have hfl : f.length ≤ 100 := HQ.out kw f (by rw [hqf]; simp)
        have HQ2 : Hid (SmallQ (upd q kw r)) := hid (HQ.out.upd_ fun x hx => HQ.out kw x (by rw [hqf]; exact List.mem_cons_of_mem _ hx))
        have i1 := hid (HTb.out.takeS hkw hqf)
        have HQF := hid hqf
        clear hw hw1 hw2 hqf
        go_wp2_with fail
        refine i1.out.mono ?_
        rintro e w4 ⟨gB, cB, rfl, hT4, hM4, hg4, hs4, hX4⟩
        have HT4 := hid hT4
        have HM4 := hid hM4
        have HX4 := hid (show Blk w4 wr.heap.size 42 [.int .i64 kind, .int .i64 (kw : Int), .int .i64 ii, .int .i64 kk, .int .i64 at_, .int .i64 by_, .slice Ab bs.length cb] from (hX4 wr.heap.size (.inr rfl)).trans hBx.out)
        have hg4' : w.heap.size ≤ gB := by have := HB.out.size; simp at hg4; omega
        clear i1 hT4 hM4 hX4 c0 c1 c2 c3 c4 c5 c6 q0 q1 q2 q3 q4 q5 q6
        have c1 : w4.cell? ⟨wr.heap.size, 1, none⟩ = some (.int .i64 (kw : Int)) := HX4.out.cellAt rfl
        have i2 := hid (HT4.out.takeR hkw HQF.out)
        go_wp2_with fail
        refine i2.out.mono ?_
        rintro e w5 ⟨C, d, rfl, hrd5, hT5, hs5, hX5⟩
        have HT5 := hid hT5
        have hM5 := HM4.out.keep (hX5 gB (.inr rfl))
        have hgB5 := hM5.lt
        have HR5 := hid hrd5
        have HM5 := hid hM5
        clear i2 c1 hT5 hX5 hrd5 hM5
        have hBx5 := hid (Blk.new w5 44 [.slice C f.length d, .bool true])
        have HT6 := hid (HT5.out.made (.cells #[.slice C f.length d, .bool true] 44))
        have hbb5 := below_alloc1 w5 (.cells #[.slice C f.length d, .bool true] 44)
        have HM6 := hid (HM5.out.keep (hbb5.block gB hgB5))
        have d0 : (w5.alloc (.cells #[.slice C f.length d, .bool true] 44)).cell? ⟨w5.heap.size, 0, none⟩ = some (.slice C f.length d) := hBx5.out.cellAt rfl
        have d1 : (w5.alloc (.cells #[.slice C f.length d, .bool true] 44)).cell? ⟨w5.heap.size, 1, none⟩ = some (.bool true) := hBx5.out.cellAt rfl
        have i3 := hid (same_b (some ⟨gB, 0, none⟩) C f.length f.length cB d f f (w5.alloc (.cells #[.slice C f.length d, .bool true] 44)) HM6.out.reads (HR5.out.belowS hbb5) (by omega) (by omega))
        rw [decide_eq_true (rfl : f = f)] at i3
        have hgb6 : Hid (gB < (w5.alloc (.cells #[.slice C f.length d, .bool true] 44)).heap.size) := hid (by simp; omega)
        clear hbb5
        go_wp2_with fail
        refine i3.out.mono ?_
        rintro e w6 ⟨rfl, hb6⟩
        have hT6 := (HT6.out.belowS hb6).less (Y := fun x => x = gB) (fun x h => .inl (.inr h))
        have hM6 := HM6.out.keep (hb6.block gB hgb6.out)
        have HT6' := hid hT6
        have HM6' := hid hM6
        clear i3 hb6 d0 d1 hT6 hM6
        go_wp2_with fail
        generalize f.length = N at *
        go_loopw [10, 74] (fun v10 v74 wr => ∃ (j : Nat) (l : List UInt8), j ≤ N ∧ v74 = .int .i64 (j : Int) ∧ Mine wr gB N l ∧ LTwo w.heap.size w g gR (upd q kw r) (upd q kw r) (fun x => x = gB) wr) (fun _ v74 _ => N - (intOf v74).toNat)
        case atStart => exact ⟨0, f, by omega, rfl, HM6'.out, HT6'.out⟩
        case round =>
          clear HM6' HT6'
          obtain ⟨j, l, hj, rfl, hM, hT⟩ := hrel
          by_cases hjn : j < N
          case pos =>
            obtain ⟨z, hz⟩ : ∃ z, l[j]? = some z := ⟨_, List.getElem?_eq_getElem (by rw [hM.1]; exact hjn)⟩
            have hcell := hM.cell hz
            have hfr := hM.frozen j hjn
            have hst := hid (hM.set_ j (z + 1))
            have htw := hid (hT.write (p := ⟨gB, j, none⟩) rfl hg4' (bV (z + 1)))
            have hzv := u8_up z
            have y3 : (0 : Int) ≤ (j : Int) := by omega
            have y4 : (j : Int) < (N : Int) := by omega
            clear hM hT hz
            generalize z + 1 = z1 at *
            go_wp2_with fail
            go_roundw
            case rel => exact ⟨j + 1, _, by omega, by go_num, hst.out, htw.out⟩
            case measure => simp [intOf]; omega
          case neg =>
            obtain rfl : j = N := by omega
            have HTw := hid (hT.less (Y := fun _ => False) (fun _ h => h.elim))
            clear hM hT
            go_wp2_with fail
            generalize wr = wi at *
            have HTi := hid HTw.out
            have HQi := hid HQ2.out
            clear HTw
            go_loopw [15] (fun v15 wr => ∃ j : Int, -1 ≤ j ∧ j ≤ 3 ∧ v15 = .int .i64 j ∧ Below wi.heap.size wi wr) (fun v15 _ => (3 - intOf v15).toNat)
            case atStart => exact ⟨-1, by omega, by omega, rfl, Below.refl _ _⟩
            case round =>
              obtain ⟨j, hj0, hj, rfl, hbj⟩ := hrel
              have HTj := hid (HTi.out.belowS hbj)
              have HBJ := hid hbj
              clear hbj
              by_cases hj3 : j < 3
              case pos =>
                have v0 : decide (j < 3) = true := decide_eq_true hj3
                obtain ⟨i1, i2⟩ := HTj.out.len j
                have I1 := hid i1
                have I2 := hid i2
                clear i1 i2
                go_wp2_with fail
                refine I1.out.mono ?_
                rintro e w7 ⟨rfl, rfl⟩
                go_wp2_with fail
                refine I2.out.mono ?_
                rintro e w8 ⟨rfl, rfl⟩
                go_wp2_with fail
                go_roundw
                case rel => exact ⟨j + 1, by omega, by omega, by go_num, HBJ.out⟩
                case measure => simp [intOf]; omega
              case neg =>
                obtain rfl : j = 3 := by omega
                go_wp2_with fail
                go_roundw
                case rel => exact ⟨k + 1, _, by omega, by go_num, HTj.out, HQi.out⟩
                case measure => simp [intOf]; omega
    case neg =>
      have z3 : (kind == 1) = false := by simp [hk1]
      have hkd : kind = 0 ∨ (2 ≤ kind ∧ kind ≤ 5) := by omega
      clear hk0 hk5 hk1
      obtain ⟨i0, hi0, hz0, hz1, hz2⟩ := info_parts info_u8L
      have HRb := hid (((HBR.out.below HB.out).more HB.out.size).belowS hbA.out)
      have hq0 : LTwo w.heap.size w g gR q q (fun x => x = wr.heap.size) (wr.alloc (.cells #[.int .i64 kind, .int .i64 way, .int .i64 ii, .int .i64 kk, .int .i64 at_, .int .i64 by_, .slice Ab bs.length cb] 42)) := HTb.out.less fun _ h => .inr h
      have HTB := hid hq0
      clear hq0 HTb
      generalize hWA : wr.alloc (.cells #[.int .i64 kind, .int .i64 way, .int .i64 ii, .int .i64 kk, .int .i64 at_, .int .i64 by_, .slice Ab bs.length cb] 42) = wa at *
      have hlt : wr.heap.size < wa.heap.size := World.block_lt_of_cell? _ _ c6
      have c6' : wa.cell? ⟨wr.heap.size, 6, none⟩ = some (.slice Ab bs.length cb) := c6
      have e6 := fun o => cell_alloc c6' o
      have hwB := HB.out.size
      clear c6'
      go_wp2_with (at_builtin; refine wpList_app _ rfl (.tmp 84) (.tmp 86) _ rfl wa.heap.size 5 i0 _ 1 1 Try.underlying26 hi0 hz0 hz1 hz2 rfl (by decide) (.slice (some ⟨wa.heap.size, 0, none⟩) 0 0) 0 [] rfl (World.ownsRow_made (size := 1) wa _ 0 (Nat.le_refl _) (by simp [maxLen]) rfl) wa.heap.size Ab bs.length cb (bs.map bV) rfl (HRb.out.alloc (Nat.le_refl _) _) (oneCell_b bs) (by simp [maxLen]; omega) (by omega) (by simp) ?_; intro A2 cO w2 hown hg2 hA2; simp only [Nat.zero_add, List.nil_append] at hown; have HW2 := hid ((hBx.out.alloc _).grown hg2 (by simp [Value.ownBlock]; omega)); have HG2 := hid hg2; have HO2 := hid hown; have f6 := HW2.out.frozen 6; have cc6 : w2.cell? ⟨wr.heap.size, 6, none⟩ = some (.slice Ab bs.length cb) := HW2.out.cellAt rfl; clear hg2 hA2 hown)
      have hb2 : Below wa.heap.size wa w2 := below_own ((Below.refl wa.heap.size wa).alloc (Nat.le_refl _) _) (World.ownsRow_made (size := 1) wa _ 0 (Nat.le_refl _) (by simp [maxLen]) rfl) HG2.out (Nat.le_refl _) (by simp)
      have ht2 : LTwo w.heap.size w g gR q q (fun b => b = wr.heap.size ∨ (Value.slice A2 bs.length cO).ownBlock = some b) w2 := HTB.out.fresh hb2 fun b hb => hb.imp_right fun h => HO2.out.lt b h
      have hs3 : Sit w.heap.size w g gR wr.heap.size wa.heap.size A2 bs.length cO bs [.int .i64 kind, .int .i64 way, .int .i64 ii, .int .i64 kk, .int .i64 at_, .int .i64 by_, .slice A2 bs.length cO] q q (w2.setCell ⟨wr.heap.size, 6, none⟩ (.slice A2 bs.length cO)) :=
        ⟨ht2.write (p := ⟨wr.heap.size, 6, none⟩) (.inl rfl) hwB _, own_keep20 HO2.out fun b hb => Below.heap_setCell _ _ _ _ (fun e => by have := (HO2.out.lt b hb).1; subst e; simp only at this; omega), HW2.out.set_ 6 _⟩
      have hn100 : bs.length ≤ 100 := by omega
      have HS := hid hs3
      clear hs3 ht2 hb2 HW2 HO2 HG2 f6 cc6 c0 c1 c2 c3 c4 c5 c6 e6 q0 q1 q2 q3 q4 q5 q6 HRb HTB hi0 hz0 hz1 hz2 hBx hbA hl1 HBR hWA
      generalize w2.setCell ⟨wr.heap.size, 6, none⟩ (.slice A2 bs.length cO) = w3 at HS ⊢
      have HQ2 := hid (HQ.out.act kind way ii kk at_ by_ (l := bs) hn100)
      have iD := hid (fun wx (h : Sit w.heap.size w g gR wr.heap.size wa.heap.size A2 bs.length cO bs [.int .i64 kind, .int .i64 way, .int .i64 ii, .int .i64 kk, .int .i64 at_, .int .i64 by_, .slice A2 bs.length cO] q q wx) => h.doL kind way ii kk at_ by_ hkd)
      have iR := hid (fun wx (h : Sit w.heap.size w g gR wr.heap.size wa.heap.size A2 bs.length cO bs [.int .i64 kind, .int .i64 way, .int .i64 ii, .int .i64 kk, .int .i64 at_, .int .i64 by_, .slice A2 bs.length cO] (actQ q kind way ii kk at_ by_ bs) q wx) => h.doR HQ.out kind way ii kk at_ by_ hkd (by omega))
      generalize actE q kind way ii kk at_ = E at iD iR
      generalize actQ q kind way ii kk at_ by_ bs = qn at iD iR HQ2
      have HCs : Hid (∀ qa qb wx, Sit w.heap.size w g gR wr.heap.size wa.heap.size A2 bs.length cO bs [.int .i64 kind, .int .i64 way, .int .i64 ii, .int .i64 kk, .int .i64 at_, .int .i64 by_, .slice A2 bs.length cO] qa qb wx → ∀ i v, [Value.int .i64 kind, .int .i64 way, .int .i64 ii, .int .i64 kk, .int .i64 at_, .int .i64 by_, .slice A2 bs.length cO][i]? = some v → wx.cell? ⟨wr.heap.size, i, none⟩ = some v) := hid (fun _ _ _ h _ _ hv => h.b.cellAt hv)
      have c0 := HCs.out _ _ _ HS.out 0 _ rfl
      have c1 := HCs.out _ _ _ HS.out 1 _ rfl
      have c2' := HCs.out _ _ _ HS.out 2 _ rfl
      have c3 := HCs.out _ _ _ HS.out 3 _ rfl
      have c4 := HCs.out _ _ _ HS.out 4 _ rfl
      have c5 := HCs.out _ _ _ HS.out 5 _ rfl
      have c6 := HCs.out _ _ _ HS.out 6 _ rfl
      clear hkd
      go_region_held3 (fun w' => w'.cell? ⟨wr.heap.size, 0, none⟩ = some (.int .i64 kind) ∧ w'.cell? ⟨wr.heap.size, 1, none⟩ = some (.int .i64 way) ∧ w'.cell? ⟨wr.heap.size, 2, none⟩ = some (.int .i64 ii) ∧ w'.cell? ⟨wr.heap.size, 3, none⟩ = some (.int .i64 kk) ∧ w'.cell? ⟨wr.heap.size, 4, none⟩ = some (.int .i64 at_) ∧ w'.cell? ⟨wr.heap.size, 5, none⟩ = some (.int .i64 by_) ∧ w'.cell? ⟨wr.heap.size, 6, none⟩ = some (.slice A2 bs.length cO)) (go_keep)
        (first
          | (go_at_call 23; refine (iD.out _ ?_).mono ?_; (first | exact HS.out | exact HS.out.drew); rintro e wb ⟨rfl, hs4⟩; have HS4 := hid hs4; have z0 := HCs.out _ _ _ HS4.out 0 _ rfl; have z1 := HCs.out _ _ _ HS4.out 1 _ rfl; have z2 := HCs.out _ _ _ HS4.out 2 _ rfl; have z3 := HCs.out _ _ _ HS4.out 3 _ rfl; have z4 := HCs.out _ _ _ HS4.out 4 _ rfl; have z5 := HCs.out _ _ _ HS4.out 5 _ rfl; have z6 := HCs.out _ _ _ HS4.out 6 _ rfl; clear hs4)
          | (go_at_call 24; refine (iR.out _ ?_).mono ?_; (first | exact HS4.out | exact HS4.out.drew); rintro e wc ⟨rfl, hs5⟩; have HS5 := hid hs5; have z0 := HCs.out _ _ _ HS5.out 0 _ rfl; have z1 := HCs.out _ _ _ HS5.out 1 _ rfl; have z2 := HCs.out _ _ _ HS5.out 2 _ rfl; have z3 := HCs.out _ _ _ HS5.out 3 _ rfl; have z4 := HCs.out _ _ _ HS5.out 4 _ rfl; have z5 := HCs.out _ _ _ HS5.out 5 _ rfl; have z6 := HCs.out _ _ _ HS5.out 6 _ rfl; clear hs5))
      clear iD iR HCs z0 z1 z2 z3 z4 z5 z6 c0 c1 c2' c3 c4 c5 c6 HS HS4
      go_wp2_with fail
      have hbs : w.heap.size ≤ wa.heap.size := by omega
      generalize wa.heap.size = base at HS5 hbs
      generalize bs.length = N at *
      have HTo := hid (HS5.out.t.less (Y := fun b => (Value.slice A2 N cO).ownBlock = some b) fun _ h => .inr h)
      go_loopw [14, 101] (fun v14 v101 wr => ∃ (j : Nat) (l : List UInt8), j ≤ N ∧ v101 = .int .i64 (j : Int) ∧ wr.ownsRow base 5 1 (.slice A2 N cO) N (l.map bV) ∧ LTwo w.heap.size w g gR qn qn (fun b => (Value.slice A2 N cO).ownBlock = some b) wr) (fun _ v101 _ => N - (intOf v101).toNat)
      case atStart => exact ⟨0, bs, by omega, rfl, HS5.out.o, HTo.out⟩
      case round =>
        clear HS5 HTo
        obtain ⟨j, l, hj, rfl, hO, hT⟩ := hrel
        by_cases hjn : j < N
        case pos =>
          obtain ⟨gO, rfl, hgO, hgOl⟩ := own_some hO (by omega)
          obtain ⟨z, hz, hcell, hfr⟩ := own_cellM hO hjn
          have hst := hid (own_storeM hO j (z + 1)).1
          have htw := hid (hT.write (p := ⟨gO, j, none⟩) rfl (by show w.heap.size ≤ gO; omega) (bV (z + 1)))
          have hzv := u8_up z
          have y3 : (0 : Int) ≤ (j : Int) := by omega
          have y4 : (j : Int) < (N : Int) := by omega
          clear hO hT hz
          generalize z + 1 = z1 at *
          go_wp2_with fail
          go_roundw
          case rel => exact ⟨j + 1, _, by omega, by go_num, hst.out, htw.out⟩
          case measure => simp [intOf]; omega
        case neg =>
          obtain rfl : j = N := by omega
          have HTw := hid (hT.less (Y := fun _ => False) (fun _ h => h.elim))
          clear hO hT
          go_wp2_with fail
          generalize wr = wi at *
          have HTi := hid HTw.out
          have HQi := hid HQ2.out
          clear HTw
          go_loopw [15] (fun v15 wr => ∃ j : Int, -1 ≤ j ∧ j ≤ 3 ∧ v15 = .int .i64 j ∧ Below wi.heap.size wi wr) (fun v15 _ => (3 - intOf v15).toNat)
          case atStart => exact ⟨-1, by omega, by omega, rfl, Below.refl _ _⟩
          case round =>
            obtain ⟨j, hj0, hj, rfl, hbj⟩ := hrel
            have HTj := hid (HTi.out.belowS hbj)
            have HBJ := hid hbj
            clear hbj
            by_cases hj3 : j < 3
            case pos =>
              have v0 : decide (j < 3) = true := decide_eq_true hj3
              obtain ⟨i1, i2⟩ := HTj.out.len j
              have I1 := hid i1
              have I2 := hid i2
              clear i1 i2
              go_wp2_with fail
              refine I1.out.mono ?_
              rintro e w7 ⟨rfl, rfl⟩
              go_wp2_with fail
              refine I2.out.mono ?_
              rintro e w8 ⟨rfl, rfl⟩
              go_wp2_with fail
              go_roundw
              case rel => exact ⟨j + 1, by omega, by omega, by go_num, HBJ.out⟩
              case measure => simp [intOf]; omega
            case neg =>
              obtain rfl : j = 3 := by omega
              go_wp2_with fail
              go_roundw
              case rel => exact ⟨k + 1, _, by omega, by go_num, HTj.out, HQi.out⟩
              case measure => simp [intOf]; omega
/-! ### LinkActs: from the walk to the given statement -/
namespace lawLinkActs
theorem own : ownKnob Try.prog.godebug = none := by kernel_rfl
theorem laidOut : laidOutB Try.prog = true := by kernel_rfl
set_option maxRecDepth 100000 in
theorem lifted (os : Os) (started : os.Started) (H : Type) (enc : TypeId × Value → H) :
    ReturnsInHanded {} Try.checked os 6 .any (Rows.linkActsSpec.pre6 enc Try.prog Try.f6 Rows.linkActsRow.domain false) (Rows.linkActsSpec.post enc Try.prog Try.f6 false true false false) := by
  refine returnsInHanded_of_change (C := Try.checked) own started (by kernel_rfl) Try.func6
    (ChangeSpec.witness6 (enc := enc) (C := Try.checked) false ⟨#[], #[.slice none 0 0], []⟩ 8 (by kernel_rfl) (by kernel_rfl) (by kernel_rfl) (by kernel_rfl)) ?_
  intro W base args ds gs before hval0 hW hcnd _
  have hval : ∀ (j : Nat) t v, Try.f6.params[j]? = some t → args[j]? = some v → Value.okWide Try.prog W .any base t v := hval0
  have hW' := hW
  obtain ⟨p, q, hA0, hV, rfl, hfz, hnd⟩ := hW
  have hA : DataW.TrodAll enc Try.prog W 0 (fun _ => true) true Try.f6.params.toList args.toList ds p := hA0
  rw [Try.params6] at hA hval
  obtain ⟨v0, vs0, d0, ds0, p0, q0, hargs, rfl, rfl, h0, r0⟩ := trodAll_cons hA
  obtain ⟨rfl, rfl, rfl⟩ := trodAll_nil r0
  obtain rfl : args = #[v0] := by cases args; simp_all
  obtain ⟨rfl, rfl⟩ := trodVars_none hV
  have k0 := h0
  have lt0 : ∀ x ∈ p0, x.block < W.heap.size := by obtain ⟨m, hm⟩ := k0; exact DataW.trod_lt m _ _ _ hm
  obtain ⟨A0, n0, c0, b0, rfl, w0, g0, l0, f0⟩ := open_acts20 (hval 0 38 v0 rfl rfl) h0
  clear hA0 hval0
  refine (linkActs_any W A0 n0 c0 b0 w0 g0 l0 f0).mono fun e W' ⟨he, bel⟩ => ?_
  subst he
  exact ⟨_, rfl, _, _, _, [], _, [], hW', trodAll_mk1 (shut_bool Try.underlying4 _), (trodAll_cons_mk (Below.trod laidOut (by kernel_rfl) (of_decide_eq_true (by kernel_rfl)) k0 bel lt0) trodAll_mk0), rfl, bel.frame _, fun h => by cases h⟩
theorem over : Rows.linkActsRow.holds Try.pinned (OpenSpec.ofChange Rows.linkActsSpec) :=
  OpenClaim.holds_of_wide 6 Try.f6 rfl rfl rfl rfl rfl rfl rfl ⟨rfl, rfl, rfl, rfl, rfl⟩ rfl rfl rfl rfl rfl (by kernel_rfl) Try.func6 (by kernel_rfl)
    (of_decide_eq_true (by kernel_rfl)) (by unfold Func.isWrapper; first | (rw [if_pos (by decide +kernel)]; kernel_rfl) | (rw [if_neg (by decide +kernel)]; exact ⟨rfl, rfl⟩))
    (fun os started H enc _ => lifted os started H enc)
theorem proved : Rows.LinkActsSaid := over
#print axioms proved
end lawLinkActs
end Go.Proofs.Ythnifgcoikmihaa
