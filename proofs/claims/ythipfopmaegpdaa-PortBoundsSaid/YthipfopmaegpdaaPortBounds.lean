/-
  Law 16: no channel ever has more than its depth (PortBounds).
-/
import Derived.Test.YthipfopmaegpdaaPortAny
import Derived.Test.YthipfopmaegpdaaOpenAct
import Derived.Test.YthipfopmaegpdaaRowC
namespace Go.Proofs.Ythipfopmaegpdaa
open Go.RowKit Go.ChangeShapes Go.WideShapes Go.ChangeAt

/-- What was sent and not yet got, and the channel's state. -/
inductive BRel (D : Nat) : WayS → List Int → Prop
  | row (L : List Int) (h : 0 < D) (hl : L.length ≤ D) : BRel D (.row L D) L
  | none (h : D = 0) : BRel D (.last 0 false) []
  | some (h : D = 0) (L : List Int) (m : Int) : BRel D (.last m true) (L ++ [m])
theorem add_zero9 (a : Addr) : a.add 0 = a := by
  obtain ⟨b, o, s⟩ := a
  cases s <;> rfl
theorem BRel.start (D : Nat) : BRel D (zeroS D) [] := by
  by_cases h : 0 < D
  · rw [zeroS_pos (by omega)]
    exact .row [] h (by simp)
  · rw [zeroS_neg (by omega)]
    exact .none (by omega)

theorem BRel.len {D M : Nat} {s : WayS} {L : List Int} (h : BRel D s L) (hM : M = max D 1) : (hasL s).length ≤ M := by
  cases h with
  | row L h hl => show L.length ≤ M; omega
  | none h => show (lastL 0 false).length ≤ M; simp [lastL]
  | some h L m => show (lastL m true).length ≤ M; simp [lastL]; omega
theorem BRel.small {D : Nat} {s : WayS} {L : List Int} (h : BRel D s L) (hD : D ≤ 4) : WaySmall s := by
  cases h with
  | row L h hl => show L.length ≤ 100000; omega
  | none h => trivial
  | some h L m => trivial
theorem BRel.sent {D : Nat} {s : WayS} {L : List Int} (h : BRel D s L) (hb : sendB s = true) (V : Int) : BRel D (sendS V s) (L ++ [V]) := by
  cases h with
  | row L h hl =>
    have hb' : L.length ≠ D := by simpa [sendB] using hb
    have e : sendS V (.row L D) = .row (L ++ [V]) D := if_neg hb'
    rw [e]
    exact .row _ h (by simp; omega)
  | none h => exact .some h [] V
  | some h L m => exact .some h (L ++ [m]) V
theorem BRel.refused {D : Nat} {s : WayS} {L : List Int} (h : BRel D s L) (hb : ¬ sendB s = true) (V : Int) : sendS V s = s := by
  cases h with
  | row L h hl =>
    have hb' : L.length = D := by simpa [sendB] using hb
    exact if_pos hb'
  | none h => exact absurd rfl hb
  | some h L m => exact absurd rfl hb
theorem and16 (z : Int) : 0 ≤ bits BinOp.and IntKind.i64 z 65535 ∧ bits BinOp.and IntKind.i64 z 65535 ≤ 65535 := by
  have h2 : (BitVec.ofInt 64 (65535 : Int)).toNat = 65535 := by decide
  have h1 : (BitVec.ofInt 64 z &&& BitVec.ofInt 64 (65535 : Int)).toNat ≤ 65535 := by
    rw [BitVec.toNat_and, h2]
    exact Nat.and_le_right
  have e : bits BinOp.and IntKind.i64 z 65535 = IntKind.i64.wrap ((BitVec.ofInt 64 z &&& BitVec.ofInt 64 (65535 : Int)).toNat : Int) := rfl
  rw [e]
  generalize (BitVec.ofInt 64 z &&& BitVec.ofInt 64 (65535 : Int)).toNat = q at h1
  have e2 : IntKind.i64.wrap (q : Int) = (q : Int) := by rw [IntKind.wrap_i64]; omega
  rw [e2]
  omega
section
variable {w : World} {F : Nat → Prop} {g : Nat} {cs : List ChanS} {ss : Nat → WayS} {k : Nat} {x : ChanS} {s : WayS}
theorem kSend (h : SetAt w F g cs (setS ss k s)) (hx : cs[k]? = some x) (hs : WaySmall s) (v : Int) (hv0 : 0 ≤ v) (hv1 : v ≤ 65535) :
    Calls Try.prog 22 #[.pointer (some ⟨g, 0, none⟩), .int .i64 x.src, .int .i64 (k : Int), .int .i64 v] w (SPost F w g cs (.returned (.tuple #[.bool (sendB s), .int .i64 0])) (setS ss k (sendS v s))) := by
  have h1 := send_at h hx (by rw [setS_same]; exact hs) v hv0 hv1
  rw [setS_same, setS_setS] at h1
  exact h1
theorem kGet (h : SetAt w F g cs (setS ss k s)) (hx : cs[k]? = some x) :
    Calls Try.prog 23 #[.pointer (some ⟨g, 0, none⟩), .int .i64 x.dst, .int .i64 (k : Int)] w (SPost F w g cs (.returned (.tuple #[.int .i64 (getN s), .bool (getB s), .int .i64 0])) (setS ss k (getS s))) := by
  have h1 := get_at h hx
  rw [setS_same, setS_setS] at h1
  exact h1
end

set_option maxRecDepth 100000 in
set_option maxHeartbeats 4000000 in
theorem portBounds_any (w : World) (t : TabS) (a : TabA) (hT : TabCame w t a) (A : Option Addr) (n c : Nat) (ls : List ActS) (hrd : RdS w w.heap.size 4 A n actC ls) (hnc : n ≤ c) (hcm : c ≤ maxLen) (hwf : ∀ q ∈ ls, (Lit.int .i64 q.kind).wf = true ∧ (Lit.int .i64 q.part).wf = true ∧ (Lit.int .i64 q.chan).wf = true ∧ (Lit.int .i64 q.num).wf = true) :
    Calls Try.prog 6 #[.agg #[.int .i64 t.frame, .slice a.A1 t.parts.length a.c1, .slice a.A2 t.wins.length a.c2, .slice a.A3 t.chans.length a.c3, .int .i64 t.trial], .slice A n c] w fun e w' => e = .returned (.bool true) ∧ Below w.heap.size w w' := by
  obtain ⟨A1, k1, A2, k2, A3, k3⟩ := a
  simp only
  have hb0 : Below w.heap.size w (w.alloc (.cells (tabC t ⟨A1, k1, A2, k2, A3, k3⟩).toArray 36)) := (Below.refl _ _).alloc (Nat.le_refl _) _
  have hblk0 : Blk (w.alloc (.cells (tabC t ⟨A1, k1, A2, k2, A3, k3⟩).toArray 36)) w.heap.size 36 (tabC t ⟨A1, k1, A2, k2, A3, k3⟩) := Blk.new w _ _
  have iL := hid (fun w' => longP_any t ⟨A1, k1, A2, k2, A3, k3⟩ w' hT.l1 hT.l2 hT.l3)
  have HC := hid hT
  clear hT
  simp only at iL
  unfold maxLen at hcm
  have hrd0 := hid hrd
  have hwf0 := hid hwf
  clear hrd hwf
  go_enter Try.func6, Try.ntmps6
  go_wp2_with fail
  refine (wakesP_any _).mono ?_
  rintro e w1 ⟨rfl, hb1⟩
  have hb01 := bel_trans hb0 hb1
  have hblk1 := hblk0.belowS hb1
  clear hblk0 hb0 hb1
  obtain ⟨c0, c1, c2, c3, c4⟩ := tab_cells hblk1
  simp only at c0 c1 c2 c3 c4
  go_wp2_with fail
  refine (iL.out _).mono ?_
  rintro e w2 ⟨he, hb2⟩
  have hb02 := bel_trans hb01 hb2
  have hblk2 := hblk1.belowS hb2
  clear c0 c1 c2 c3 c4 hblk1 hb01 hb2 iL
  obtain ⟨c0, c1, c2, c3, c4⟩ := tab_cells hblk2
  simp only at c0 c1 c2 c3 c4
  by_cases hl : longB t = true
  · rw [hl] at he
    subst he
    clear hl hblk2
    go_wp2_with fail
    go_ret
    exact ⟨rfl, hb02⟩
  have hl' : longB t = false := by simpa using hl
  rw [hl'] at he
  subst he
  have HO : Hid (∀ w', Below w.heap.size w w' → TabOk w' t ⟨A1, k1, A2, k2, A3, k3⟩) := hid (fun w' hb => HC.out.ok hl' hb)
  clear hl hl'
  by_cases hn : 100 < n
  · have y0 : decide ((100 : Int) < (n : Int)) = true := decide_eq_true (by omega)
    clear hblk2
    go_wp2_with fail
    go_ret
    exact ⟨rfl, hb02⟩
  have y0 : decide ((100 : Int) < (n : Int)) = false := decide_eq_false (by omega)
  have hn60 : n ≤ 100 := by omega
  clear hn
  have i1 := hid (refRight_any t ⟨A1, k1, A2, k2, A3, k3⟩ w2 (HO.out _ hb02))
  simp only at i1
  go_wp2_with fail
  refine i1.out.mono ?_
  rintro e w3 ⟨he, hb3⟩
  have hb03 := bel_trans hb02 hb3
  have hblk3 := hblk2.belowS hb3
  clear c0 c1 c2 c3 c4 hblk2 hb02 hb3 i1
  obtain ⟨c0, c1, c2, c3, c4⟩ := tab_cells hblk3
  simp only at c0 c1 c2 c3 c4
  by_cases hr : rightB t = true
  case neg =>
    rw [show rightB t = false by simpa using hr] at he
    subst he
    clear hr hblk3
    go_wp2_with fail
    go_ret
    exact ⟨rfl, hb03⟩
  rw [hr] at he
  subst he
  by_cases hz : t.chans.length = 0
  · have z0 : ((t.chans.length : Int) == 0) = true := by simp [hz]
    clear hr hblk3
    have HZ := hid hz
    clear hz
    go_wp2_with fail
    go_ret
    exact ⟨rfl, hb03⟩
  have z0 : ((t.chans.length : Int) == 0) = false := by first | (simp [hz]; done) | (simp [hz]; omega)
  have hzp : 0 < t.chans.length := by omega
  clear hz
  have hR := hid ((rightB_iff t).1 hr)
  have i2 := hid (New_ok t ⟨A1, k1, A2, k2, A3, k3⟩ w3 (HO.out _ hb03) hr)
  simp only at i2
  have hc4 := hR.out.c4
  clear hr
  go_wp2_with fail
  refine i2.out.mono ?_
  rintro e w4 ⟨F, g, rfl, hS, hb4, hF⟩
  have hb04 := hid (bel_trans hb03 hb4)
  have hblk4 := hblk3.belowS hb4
  have hlt0 := hblk3.lt
  have hb03h := hid hb03
  have hblk3h := hid hblk3
  clear c0 c1 c2 c3 c4 hblk3 hb03 i2
  obtain ⟨c0, c1, c2, c3, c4⟩ := tab_cells hblk4
  simp only at c0 c1 c2 c3 c4
  have hS0 := hid hS
  have hF0 := hid hF
  have hbw := hid hb4
  clear hS hF hb4
  obtain ⟨K, hK⟩ : ∃ K : Nat, t.chans.length = K + 1 := ⟨t.chans.length - 1, by omega⟩
  have hKi : (t.chans.length : Int) - 1 = (K : Int) := by omega
  have hK1 : (K : Int) < (t.chans.length : Int) := by omega
  have HK := hid hK
  have hKn : K < t.chans.length := by omega
  clear hK
  obtain ⟨adC, x, rfl, hadC, hxC, hd0, hd⟩ := (HO.out w4 hb04.out).inn.2.2.at_ hKn
  have q0 := hd0 _ rfl
  have q1 := hd 0 _ rfl
  have q2 := hd 1 _ rfl
  clear hd hd0
  have hxb := hid (hR.out.cs x (List.mem_of_getElem? hxC))
  have hz : Hid (zeroW t.chans K = zeroS x.depth) := hid (by unfold zeroW; rw [depthAt_get hxC])
  obtain ⟨src, dst, dep⟩ := x
  simp only at q0 q1 q2 hxb hz
  obtain ⟨D, rfl⟩ : ∃ D : Nat, dep = (D : Int) := ⟨dep.toNat, by have := hxb.out; omega⟩
  have hD4 : D ≤ 4 := by have := hxb.out; omega
  have HXC := hid hxC
  clear hxC hadC
  have hQ4 := hid (hS0.out.alloc (.cells #[.int .i64 src, .int .i64 dst, .int .i64 (D : Int)] 43))
  have hB4 := hid (Blk.new w4 43 [.int .i64 src, .int .i64 dst, .int .i64 (D : Int)])
  have hf4 := hid hS0.out.fresh
  have hb4 := hid (bel_alloc hbw.out (.cells #[.int .i64 src, .int .i64 dst, .int .i64 (D : Int)] 43))
  have hg4 : w3.heap.size ≤ w4.heap.size := hbw.out.size
  obtain ⟨iI, hi0, hi1, hi2, hi3⟩ := info_parts info_int
  go_wp2_with fail
  generalize w4.alloc (.cells #[.int .i64 src, .int .i64 dst, .int .i64 (D : Int)] 43) = w5 at hQ4 hB4 hb4 ⊢
  generalize w4.heap.size = gc at hB4 hf4 hg4 ⊢
  clear c0 c1 c2 c3 c4 q0 q1 q2
  go_loopw [9, 11, 12, 13, 14, 15, 16, 53] (fun v9 v11 v12 v13 v14 v15 v16 v53 wr => ∃ (k : Nat) (F : Nat → Prop) (s : WayS) (L : List Int) (A' : Option Addr) (N c' : Nat), k ≤ n ∧ v53 = .int .i64 (k : Int) ∧ v9 = .slice A' N c' ∧ RowC wr A' N c' (L.map iV) ∧ SetAt wr F g t.chans (setS (zeroW t.chans) K s) ∧ BRel D s L ∧ N ≤ k ∧ Blk wr gc 43 [.int .i64 src, .int .i64 dst, .int .i64 (D : Int)] ∧ ¬ F gc ∧ (∀ b, Foot A' b → ¬ F b ∧ b ≠ gc ∧ w3.heap.size ≤ b) ∧ Below w3.heap.size w3 wr ∧ ∀ b, F b → w3.heap.size ≤ b) (fun _ _ _ _ _ _ _ v53 _ => n - (intOf v53).toNat)
  case atStart => exact ⟨0, F, zeroS D, [], none, 0, 0, by omega, rfl, rfl, RowC.nil _, by rw [← hz.out, setS_self]; exact hQ4.out, BRel.start D, by simp, hB4.out, hf4.out, (fun b hb => by obtain ⟨a, ha, _⟩ := hb; cases ha), hb4.out, hF0.out⟩
  case round =>
    clear hQ4 hB4 hf4 hb4 hF0 hS0 hbw hb04 hblk4 hz
    obtain ⟨k, F, s, L, A', N, c', hk, rfl, rfl, hrow, hS, hrel2, hLk, hB, hfg, hft, hbel, hF⟩ := hrel
    have hb0r := hid (bel_trans hb03h.out hbel)
    by_cases hkn : k < n
    case neg =>
      obtain rfl : k = n := by omega
      go_wp2_with fail
      go_ret
      exact ⟨rfl, hb0r.out⟩
    obtain ⟨ad, a, rfl, had, hx, hc0, hc⟩ := (hrd0.out.below hb0r.out).at_ hkn
    have p0 := hc0 _ rfl
    have p1 := hc 0 _ rfl
    have p2 := hc 1 _ rfl
    have p3 := hc 2 _ rfl
    clear hc hc0
    have hwn := hid (hwf0.out a (List.mem_of_getElem? hx))
    obtain ⟨kind, part, chan, num⟩ := a
    simp only at p0 p1 p2 p3 hwn
    clear hx
    have hBx := hid (Blk.new wr 52 [.int .i64 kind, .int .i64 part, .int .i64 chan, .int .i64 num])
    have hBc := hid (hB.alloc (.cells #[.int .i64 kind, .int .i64 part, .int .i64 chan, .int .i64 num] 52))
    have hQ := hid (hS.alloc (.cells #[.int .i64 kind, .int .i64 part, .int .i64 chan, .int .i64 num] 52))
    have hfr := hid hS.fresh
    have hba := hid (bel_alloc hbel (.cells #[.int .i64 kind, .int .i64 part, .int .i64 chan, .int .i64 num] 52))
    have hro := hid (hrow.belowS ((Below.refl _ _).alloc (Nat.le_refl _) (.cells #[.int .i64 kind, .int .i64 part, .int .i64 chan, .int .i64 num] 52)))
    have h0 : (wr.alloc (.cells #[.int .i64 kind, .int .i64 part, .int .i64 chan, .int .i64 num] 52)).cell? ⟨wr.heap.size, 0, none⟩ = some (.int .i64 kind) := hBx.out.cellAt rfl
    have h3 : (wr.alloc (.cells #[.int .i64 kind, .int .i64 part, .int .i64 chan, .int .i64 num] 52)).cell? ⟨wr.heap.size, 3, none⟩ = some (.int .i64 num) := hBx.out.cellAt rfl
    have b0 : (wr.alloc (.cells #[.int .i64 kind, .int .i64 part, .int .i64 chan, .int .i64 num] 52)).cell? ⟨gc, 0, none⟩ = some (.int .i64 src) := hBc.out.cellAt rfl
    have b1 : (wr.alloc (.cells #[.int .i64 kind, .int .i64 part, .int .i64 chan, .int .i64 num] 52)).cell? ⟨gc, 1, none⟩ = some (.int .i64 dst) := hBc.out.cellAt rfl
    have b2 : (wr.alloc (.cells #[.int .i64 kind, .int .i64 part, .int .i64 chan, .int .i64 num] 52)).cell? ⟨gc, 2, none⟩ = some (.int .i64 (D : Int)) := hBc.out.cellAt rfl
    have hF0 := hid hF
    have hb0 := hid hbel
    have hft0 := hid hft
    have hfg0 := hid hfg
    have hREL := hid hrel2
    have hLk0 := hLk
    clear hS hF hbel hrow hB hft hfg hrel2
    have hNL : L.length = N := by simpa using hro.out.1
    have hRel := hREL.out
    clear hREL
    have h1D : decide ((0 : Int) < (D : Int)) = decide (0 < D) := by simp
    obtain ⟨M, hM⟩ : ∃ M, M = max D 1 := ⟨_, rfl⟩
    have hMi : max (D : Int) 1 = (M : Int) := by omega
    have hM0 := hid hM
    clear hM
    obtain ⟨V, hV⟩ : ∃ V, bits BinOp.and IntKind.i64 num 65535 = V := ⟨_, rfl⟩
    have hVb := hid (and16 num)
    rw [hV] at hVb
    by_cases hk0 : kind = 0
    case pos =>
      have y0 : (kind == 0) = true := by simp [hk0]
      clear hk0
      have iS := hid (fun W (h : SetAt W F g t.chans (setS (zeroW t.chans) K s)) => kSend h HXC.out (hRel.small (by omega)) V hVb.out.1 hVb.out.2)
      simp only at iS
      by_cases hb : sendB s = true
      case pos =>
        have hRz := hRel.sent hb V
        rw [hb] at iS
        clear hRel hb
        go_wp2_with fail
        refine (iS.out _ hQ.out).mono ?_
        rintro e wz ⟨Fz, rfl, hS, hG⟩
        have hbz3 := hid ((hG.blk hBx.out hfr.out).1.cellAt (i := 3) rfl)
        have hxz := hid (hG.bel hba.out (Nat.le_refl _) hF0.out)
        have hkz := hG.blk hBc.out hfg0.out
        have hBz := hid hkz.1
        have hfz := hid hkz.2
        have hroy := hid (hro.out.apart hG.apart (fun b hb => (hft0.out b hb).1))
        have hfty := hid (fun b (hb : Foot A' b) => (⟨fun hf => (hG.foot b hf).elim (hft0.out b hb).1 (fun h => by have := hro.out.lt hb; omega), (hft0.out b hb).2⟩ : ¬ Fz b ∧ b ≠ gc ∧ w3.heap.size ≤ b))
        have hSz := hid hS
        clear hG hkz hS h0 h3 b0 b1 b2
        have b0 : wz.cell? ⟨gc, 0, none⟩ = some (.int .i64 src) := hBz.out.cellAt rfl
        have b1 : wz.cell? ⟨gc, 1, none⟩ = some (.int .i64 dst) := hBz.out.cellAt rfl
        have b2 : wz.cell? ⟨gc, 2, none⟩ = some (.int .i64 (D : Int)) := hBz.out.cellAt rfl
        have h3 : wz.cell? ⟨wr.heap.size, 3, none⟩ = some (.int .i64 num) := hbz3.out
        clear iS
        go_wp2_with (at_builtin; refine wpList_rowC _ rfl (.tmp 76) (.tmp 80) _ rfl 3 iI _ 8 Try.underlying29 hi0 hi1 hi2 hi3 rfl A' N c' (L.map iV) rfl (hroy.out.belowS ((Below.refl _ _).alloc (Nat.le_refl _) _)) wz.heap.size 1 (iV V) rfl (Blk.cellAt (Blk.new wz 3 [iV V]) (i := 0) rfl) rfl (by simp [maxLen]; omega) (by omega) ?_; intro Az cz wq hrq hapq hfoq)
        have hSq := hid ((hSz.out.alloc (.cells #[.int .i64 V] 3)).apart hapq (fun b hb hf => (hfty.out b hf).1 hb))
        have hBq := hid ((hBz.out.alloc (.cells #[.int .i64 V] 3)).apart hapq (fun hf => (hfty.out gc hf).2.1 rfl))
        have hszq : w3.heap.size ≤ (wz.alloc (.cells #[.int .i64 V] 3)).heap.size := by have := hxz.out.1.size; simp; omega
        have hxq := hid (⟨(bel_alloc hxz.out.1 (.cells #[.int .i64 V] 3)).trans (hapq.below hszq (fun b hb => (hfty.out b hb).2.2)), hxz.out.2⟩ : Below w3.heap.size w3 wq ∧ ∀ b, Fz b → w3.heap.size ≤ b)
        have hftq := hid (fun b (hb : Foot Az b) => (hfoq b hb).elim (fun h => hfty.out b h) (fun h => by
          have h1 : wz.heap.size + 1 ≤ b := by simpa using h
          exact (⟨fun hf => by have := hSz.out.lt hf; omega, fun e => by have := hBz.out.lt; omega, by have := hxz.out.1.size; omega⟩ : ¬ Fz b ∧ b ≠ gc ∧ w3.heap.size ≤ b)))
        have hroq := hid (show RowC wq Az (N + 1) cz ((L ++ [V]).map iV) by rw [List.map_append]; exact hrq)
        clear hrq hapq hfoq hszq
        have b2 : wq.cell? ⟨gc, 2, none⟩ = some (.int .i64 (D : Int)) := hBq.out.cellAt rfl
        have hlz := hid (hRz.len hM0.out)
        have iH := hid (fun W (h : SetAt W Fz g t.chans (setS (zeroW t.chans) K (sendS V s))) => has_at h hKn (by rw [setS_same]; exact hRz.small (by omega)))
        simp only [setS_same] at iH
        obtain ⟨Q, hQz⟩ : ∃ Q, (hasL (sendS V s)).length = Q := ⟨_, rfl⟩
        have y9 : decide ((M : Int) < (Q : Int)) = false := decide_eq_false (by have := hlz.out; omega)
        have y9' : decide (M < Q) = false := decide_eq_false (by have := hlz.out; omega)
        rw [hQz] at iH
        have HRz := hid hRz
        clear hRz hQz
        go_wp2_with fail
        go_region_held3 (fun w' => w'.cell? ⟨gc, 2, none⟩ = some (.int .i64 (D : Int))) (go_keep)
          (first | (go_at_call 24; refine (iH.out _ ?_).mono ?_; (first | exact hSq.out | exact hSq.out.drew); rintro e wy ⟨Ay, cy, rfl, hry, hby'⟩; have hby : Below wq.heap.size wq wy := (by first | exact hby' | exact ⟨hby'.os, hby'.tape, hby'.output, hby'.size, hby'.block⟩); have hby0 := hid hby; have z2 : wy.cell? ⟨gc, 2, none⟩ = some (.int .i64 (D : Int)) := (hBq.out.belowS hby).cellAt rfl; clear hby hby' hry))
        all_goals
          clear z2 iH
          go_wp2_with fail
          go_roundw
          case rel => exact ⟨k + 1, Fz, (sendS V s), (L ++ [V]), _, (N + 1), _, by omega, by go_num, rfl, hroq.out.belowS hby0.out, hSq.out.belowS hby0.out, HRz.out, by omega, hBq.out.belowS hby0.out, hfz.out, hftq.out, hxq.out.1.trans (hby0.out.mono hxq.out.1.size), hxq.out.2⟩
          case measure => simp [intOf]; omega
      case neg =>
        have hs := hRel.refused hb V
        rw [show sendB s = false by simpa using hb, hs] at iS
        have hRz := hRel
        clear hRel hb
        go_wp2_with fail
        refine (iS.out _ hQ.out).mono ?_
        rintro e wz ⟨Fz, rfl, hS, hG⟩
        have hxz := hid (hG.bel hba.out (Nat.le_refl _) hF0.out)
        have hkz := hG.blk hBc.out hfg0.out
        have hBz := hid hkz.1
        have hfz := hid hkz.2
        have hroy := hid (hro.out.apart hG.apart (fun b hb => (hft0.out b hb).1))
        have hfty := hid (fun b (hb : Foot A' b) => (⟨fun hf => (hG.foot b hf).elim (hft0.out b hb).1 (fun h => by have := hro.out.lt hb; omega), (hft0.out b hb).2⟩ : ¬ Fz b ∧ b ≠ gc ∧ w3.heap.size ≤ b))
        have hSz := hid hS
        clear hG hkz hS h0 h3 b0 b1 b2
        have b0 : wz.cell? ⟨gc, 0, none⟩ = some (.int .i64 src) := hBz.out.cellAt rfl
        have b1 : wz.cell? ⟨gc, 1, none⟩ = some (.int .i64 dst) := hBz.out.cellAt rfl
        have b2 : wz.cell? ⟨gc, 2, none⟩ = some (.int .i64 (D : Int)) := hBz.out.cellAt rfl
        have hroz := hroy
        have hftz := hfty
        clear iS
        have hlz := hid (hRz.len hM0.out)
        have iH := hid (fun W (h : SetAt W Fz g t.chans (setS (zeroW t.chans) K s)) => has_at h hKn (by rw [setS_same]; exact hRz.small (by omega)))
        simp only [setS_same] at iH
        obtain ⟨Q, hQz⟩ : ∃ Q, (hasL s).length = Q := ⟨_, rfl⟩
        have y9 : decide ((M : Int) < (Q : Int)) = false := decide_eq_false (by have := hlz.out; omega)
        have y9' : decide (M < Q) = false := decide_eq_false (by have := hlz.out; omega)
        rw [hQz] at iH
        have HRz := hid hRz
        clear hRz hQz
        go_wp2_with fail
        go_region_held3 (fun w' => w'.cell? ⟨gc, 2, none⟩ = some (.int .i64 (D : Int))) (go_keep)
          (first | (go_at_call 24; refine (iH.out _ ?_).mono ?_; (first | exact hSz.out | exact hSz.out.drew); rintro e wy ⟨Ay, cy, rfl, hry, hby'⟩; have hby : Below wz.heap.size wz wy := (by first | exact hby' | exact ⟨hby'.os, hby'.tape, hby'.output, hby'.size, hby'.block⟩); have hby0 := hid hby; have z2 : wy.cell? ⟨gc, 2, none⟩ = some (.int .i64 (D : Int)) := (hBz.out.belowS hby).cellAt rfl; clear hby hby' hry))
        all_goals
          clear z2 iH
          go_wp2_with fail
          go_roundw
          case rel => exact ⟨k + 1, Fz, s, L, _, N, _, by omega, by go_num, rfl, hroz.out.belowS hby0.out, hSz.out.belowS hby0.out, HRz.out, by omega, hBz.out.belowS hby0.out, hfz.out, hftz.out, hxz.out.1.trans (hby0.out.mono hxz.out.1.size), hxz.out.2⟩
          case measure => simp [intOf]; omega
    case neg =>
      have y0 : (kind == 0) = false := by simp [hk0]
      clear hk0 hV hVb
      cases hRel with
      | none hD0 =>
        obtain rfl : N = 0 := by simpa using hNL.symm
        have d0 : ((D : Int) == 0) = true := by simp [hD0]
        have d1 : (D == 0) = true := by simp [hD0]
        have d2 : decide ((0 : Int) < (D : Int)) = false := by simp [hD0]
        have d3 : decide (0 < D) = false := by simp [hD0]
        have hRz := hid (BRel.none hD0)
        clear hD0 h1D

        have iG := hid (fun W (h : SetAt W F g t.chans (setS (zeroW t.chans) K (.last 0 false))) => kGet h HXC.out)
        simp only [getN, getB, getS] at iG
        go_wp2_with fail
        refine (iG.out _ hQ.out).mono ?_
        rintro e wz ⟨Fz, rfl, hS, hG⟩
        have hxz := hid (hG.bel hba.out (Nat.le_refl _) hF0.out)
        have hkz := hG.blk hBc.out hfg0.out
        have hBz := hid hkz.1
        have hfz := hid hkz.2
        have hroy := hid (hro.out.apart hG.apart (fun b hb => (hft0.out b hb).1))
        have hfty := hid (fun b (hb : Foot (A') b) => (⟨fun hf => (hG.foot b hf).elim (hft0.out b hb).1 (fun h => by have := hro.out.lt hb; omega), (hft0.out b hb).2⟩ : ¬ Fz b ∧ b ≠ gc ∧ w3.heap.size ≤ b))
        have hSz := hid hS
        clear hG hkz hS h0 h3 b0 b1 b2
        have b0 : wz.cell? ⟨gc, 0, none⟩ = some (.int .i64 src) := hBz.out.cellAt rfl
        have b1 : wz.cell? ⟨gc, 1, none⟩ = some (.int .i64 dst) := hBz.out.cellAt rfl
        have b2 : wz.cell? ⟨gc, 2, none⟩ = some (.int .i64 (D : Int)) := hBz.out.cellAt rfl
        have hroz := hroy
        have hftz := hfty
        clear iG
        have hRz := hRz.out
        have hlz := hid (hRz.len hM0.out)
        have iH := hid (fun W (h : SetAt W Fz g t.chans (setS (zeroW t.chans) K (.last 0 false))) => has_at h hKn (by rw [setS_same]; exact hRz.small (by omega)))
        simp only [setS_same] at iH
        obtain ⟨Q, hQz⟩ : ∃ Q, (hasL (.last 0 false)).length = Q := ⟨_, rfl⟩
        have y9 : decide ((M : Int) < (Q : Int)) = false := decide_eq_false (by have := hlz.out; omega)
        have y9' : decide (M < Q) = false := decide_eq_false (by have := hlz.out; omega)
        rw [hQz] at iH
        have HRz := hid hRz
        clear hRz hQz
        go_wp2_with fail
        go_region_held3 (fun w' => w'.cell? ⟨gc, 2, none⟩ = some (.int .i64 (D : Int))) (go_keep)
          (first | (go_at_call 24; refine (iH.out _ ?_).mono ?_; (first | exact hSz.out | exact hSz.out.drew); rintro e wy ⟨Ay, cy, rfl, hry, hby'⟩; have hby : Below wz.heap.size wz wy := (by first | exact hby' | exact ⟨hby'.os, hby'.tape, hby'.output, hby'.size, hby'.block⟩); have hby0 := hid hby; have z2 : wy.cell? ⟨gc, 2, none⟩ = some (.int .i64 (D : Int)) := (hBz.out.belowS hby).cellAt rfl; clear hby hby' hry))
        all_goals
          clear z2 iH
          go_wp2_with fail
          go_roundw
          case rel => exact ⟨k + 1, Fz, (.last 0 false), [], _, 0, _, by omega, by go_num, rfl, hroz.out.belowS hby0.out, hSz.out.belowS hby0.out, HRz.out, by omega, hBz.out.belowS hby0.out, hfz.out, hftz.out, hxz.out.1.trans (hby0.out.mono hxz.out.1.size), hxz.out.2⟩
          case measure => simp [intOf]; omega
      | some hD0 L m =>
        obtain ⟨P, rfl⟩ : ∃ P, N = P + 1 := ⟨L.length, by simpa using hNL.symm⟩
        have hLP : L.length = P := by simpa using hNL
        have d0 : ((D : Int) == 0) = true := by simp [hD0]
        have d1 : (D == 0) = true := by simp [hD0]
        have d2 : decide ((0 : Int) < (D : Int)) = false := by simp [hD0]
        have d3 : decide (0 < D) = false := by simp [hD0]
        have hRz := hid (BRel.some hD0 L m)
        clear hD0 h1D hNL
        have y1 : decide ((0 : Int) < (P : Int) + 1) = true := decide_eq_true (by omega)
        have y2 : (P : Int) < (P : Int) + 1 := by omega
        have y3 : (0 : Int) ≤ (P : Int) := by omega
        obtain ⟨adL, uL, rfl, hadL, huL, hcL⟩ := hro.out.reads.at_ (k := P) (by omega)
        have huL0 : (List.map iV (L ++ [m]))[P]? = some (.int .i64 m) := by
          rw [List.map_append, List.getElem?_append_right (by simp; omega)]
          simp [hLP, iV]
        have HUL := hid huL0
        clear huL0 hLP hcL

        have iG := hid (fun W (h : SetAt W F g t.chans (setS (zeroW t.chans) K (.last m true))) => kGet h HXC.out)
        simp only [getN, getB, getS] at iG
        go_wp2_with fail
        refine (iG.out _ hQ.out).mono ?_
        rintro e wz ⟨Fz, rfl, hS, hG⟩
        have hxz := hid (hG.bel hba.out (Nat.le_refl _) hF0.out)
        have hkz := hG.blk hBc.out hfg0.out
        have hBz := hid hkz.1
        have hfz := hid hkz.2
        have hroy := hid (hro.out.apart hG.apart (fun b hb => (hft0.out b hb).1))
        have hfty := hid (fun b (hb : Foot (some adL) b) => (⟨fun hf => (hG.foot b hf).elim (hft0.out b hb).1 (fun h => by have := hro.out.lt hb; omega), (hft0.out b hb).2⟩ : ¬ Fz b ∧ b ≠ gc ∧ w3.heap.size ≤ b))
        have hSz := hid hS
        clear hG hkz hS h0 h3 b0 b1 b2
        have b0 : wz.cell? ⟨gc, 0, none⟩ = some (.int .i64 src) := hBz.out.cellAt rfl
        have b1 : wz.cell? ⟨gc, 1, none⟩ = some (.int .i64 dst) := hBz.out.cellAt rfl
        have b2 : wz.cell? ⟨gc, 2, none⟩ = some (.int .i64 (D : Int)) := hBz.out.cellAt rfl
        have hroz := hroy
        have hftz := hfty
        clear iG
        have hcz : wz.cell? (adL.add P) = some (.int .i64 m) := by
          obtain ⟨adL', uL', e, _, hu, hc⟩ := hroz.out.reads.at_ (k := P) (by omega)
          injection e with e
          subst e
          rw [hc, ← hu]
          exact HUL.out
        have hRz := hRz.out
        have hlz := hid (hRz.len hM0.out)
        have iH := hid (fun W (h : SetAt W Fz g t.chans (setS (zeroW t.chans) K (.last m true))) => has_at h hKn (by rw [setS_same]; exact hRz.small (by omega)))
        simp only [setS_same] at iH
        obtain ⟨Q, hQz⟩ : ∃ Q, (hasL (.last m true)).length = Q := ⟨_, rfl⟩
        have y9 : decide ((M : Int) < (Q : Int)) = false := decide_eq_false (by have := hlz.out; omega)
        have y9' : decide (M < Q) = false := decide_eq_false (by have := hlz.out; omega)
        rw [hQz] at iH
        have HRz := hid hRz
        clear hRz hQz
        go_wp2_with fail
        go_region_held3 (fun w' => w'.cell? ⟨gc, 2, none⟩ = some (.int .i64 (D : Int))) (go_keep)
          (first | (go_at_call 24; refine (iH.out _ ?_).mono ?_; (first | exact hSz.out | exact hSz.out.drew); rintro e wy ⟨Ay, cy, rfl, hry, hby'⟩; have hby : Below wz.heap.size wz wy := (by first | exact hby' | exact ⟨hby'.os, hby'.tape, hby'.output, hby'.size, hby'.block⟩); have hby0 := hid hby; have z2 : wy.cell? ⟨gc, 2, none⟩ = some (.int .i64 (D : Int)) := (hBz.out.belowS hby).cellAt rfl; clear hby hby' hry))
        all_goals
          clear z2 iH
          go_wp2_with fail
          go_roundw
          case rel => exact ⟨k + 1, Fz, (.last m true), (L ++ [m]), _, (P + 1), _, by omega, by go_num, rfl, hroz.out.belowS hby0.out, hSz.out.belowS hby0.out, HRz.out, by omega, hBz.out.belowS hby0.out, hfz.out, hftz.out, hxz.out.1.trans (hby0.out.mono hxz.out.1.size), hxz.out.2⟩
          case measure => simp [intOf]; omega
      | row L hDp hlD =>
        cases L with
        | nil =>
          obtain rfl : N = 0 := by simpa using hNL.symm
          have d0 : ((D : Int) == 0) = false := by simp; omega
          have d1 : (D == 0) = false := by simp; omega
          have d2 : decide ((0 : Int) < (D : Int)) = true := by simp; omega
          have d3 : decide (0 < D) = true := by simp; omega
          have hRz := hid (BRel.row [] hDp hlD)
          clear hDp hlD h1D

          have iG := hid (fun W (h : SetAt W F g t.chans (setS (zeroW t.chans) K (.row [] D))) => kGet h HXC.out)
          simp only [getN, getB, getS] at iG
          go_wp2_with fail
          refine (iG.out _ hQ.out).mono ?_
          rintro e wz ⟨Fz, rfl, hS, hG⟩
          have hxz := hid (hG.bel hba.out (Nat.le_refl _) hF0.out)
          have hkz := hG.blk hBc.out hfg0.out
          have hBz := hid hkz.1
          have hfz := hid hkz.2
          have hroy := hid (hro.out.apart hG.apart (fun b hb => (hft0.out b hb).1))
          have hfty := hid (fun b (hb : Foot (A') b) => (⟨fun hf => (hG.foot b hf).elim (hft0.out b hb).1 (fun h => by have := hro.out.lt hb; omega), (hft0.out b hb).2⟩ : ¬ Fz b ∧ b ≠ gc ∧ w3.heap.size ≤ b))
          have hSz := hid hS
          clear hG hkz hS h0 h3 b0 b1 b2
          have b0 : wz.cell? ⟨gc, 0, none⟩ = some (.int .i64 src) := hBz.out.cellAt rfl
          have b1 : wz.cell? ⟨gc, 1, none⟩ = some (.int .i64 dst) := hBz.out.cellAt rfl
          have b2 : wz.cell? ⟨gc, 2, none⟩ = some (.int .i64 (D : Int)) := hBz.out.cellAt rfl
          have hroz := hroy
          have hftz := hfty
          clear iG
          have hRz := hRz.out
          have hlz := hid (hRz.len hM0.out)
          have iH := hid (fun W (h : SetAt W Fz g t.chans (setS (zeroW t.chans) K (.row [] D))) => has_at h hKn (by rw [setS_same]; exact hRz.small (by omega)))
          simp only [setS_same] at iH
          obtain ⟨Q, hQz⟩ : ∃ Q, (hasL (.row [] D)).length = Q := ⟨_, rfl⟩
          have y9 : decide ((M : Int) < (Q : Int)) = false := decide_eq_false (by have := hlz.out; omega)
          have y9' : decide (M < Q) = false := decide_eq_false (by have := hlz.out; omega)
          rw [hQz] at iH
          have HRz := hid hRz
          clear hRz hQz
          go_wp2_with fail
          go_region_held3 (fun w' => w'.cell? ⟨gc, 2, none⟩ = some (.int .i64 (D : Int))) (go_keep)
            (first | (go_at_call 24; refine (iH.out _ ?_).mono ?_; (first | exact hSz.out | exact hSz.out.drew); rintro e wy ⟨Ay, cy, rfl, hry, hby'⟩; have hby : Below wz.heap.size wz wy := (by first | exact hby' | exact ⟨hby'.os, hby'.tape, hby'.output, hby'.size, hby'.block⟩); have hby0 := hid hby; have z2 : wy.cell? ⟨gc, 2, none⟩ = some (.int .i64 (D : Int)) := (hBz.out.belowS hby).cellAt rfl; clear hby hby' hry))
          all_goals
            clear z2 iH
            go_wp2_with fail
            go_roundw
            case rel => exact ⟨k + 1, Fz, (.row [] D), [], _, 0, _, by omega, by go_num, rfl, hroz.out.belowS hby0.out, hSz.out.belowS hby0.out, HRz.out, by omega, hBz.out.belowS hby0.out, hfz.out, hftz.out, hxz.out.1.trans (hby0.out.mono hxz.out.1.size), hxz.out.2⟩
            case measure => simp [intOf]; omega
        | cons x L =>
          obtain ⟨P, rfl⟩ : ∃ P, N = P + 1 := ⟨L.length, by simpa using hNL.symm⟩
          have hLP : L.length = P := by simpa using hNL
          have d0 : ((D : Int) == 0) = false := by simp; omega
          have d1 : (D == 0) = false := by simp; omega
          have d2 : decide ((0 : Int) < (D : Int)) = true := by simp; omega
          have d3 : decide (0 < D) = true := by simp; omega
          have hRz := hid (BRel.row L hDp (by simp at hlD; omega))
          clear hlD hDp h1D hNL
          have y1 : decide ((0 : Int) < (P : Int) + 1) = true := decide_eq_true (by omega)
          have y3 : (0 : Int) < (P : Int) + 1 := by omega
          have y4 : (1 : Int) ≤ (P : Int) + 1 := by omega
          obtain ⟨adL, uL, rfl, hadL, huL, hcL⟩ := hro.out.reads.at_ (k := 0) (by omega)
          clear huL hLP hcL

          have iG := hid (fun W (h : SetAt W F g t.chans (setS (zeroW t.chans) K (.row (x :: L) D))) => kGet h HXC.out)
          simp only [getN, getB, getS] at iG
          go_wp2_with fail
          refine (iG.out _ hQ.out).mono ?_
          rintro e wz ⟨Fz, rfl, hS, hG⟩
          have hxz := hid (hG.bel hba.out (Nat.le_refl _) hF0.out)
          have hkz := hG.blk hBc.out hfg0.out
          have hBz := hid hkz.1
          have hfz := hid hkz.2
          have hroy := hid (hro.out.apart hG.apart (fun b hb => (hft0.out b hb).1))
          have hfty := hid (fun b (hb : Foot (some adL) b) => (⟨fun hf => (hG.foot b hf).elim (hft0.out b hb).1 (fun h => by have := hro.out.lt hb; omega), (hft0.out b hb).2⟩ : ¬ Fz b ∧ b ≠ gc ∧ w3.heap.size ≤ b))
          have hSz := hid hS
          clear hG hkz hS h0 h3 b0 b1 b2
          have b0 : wz.cell? ⟨gc, 0, none⟩ = some (.int .i64 src) := hBz.out.cellAt rfl
          have b1 : wz.cell? ⟨gc, 1, none⟩ = some (.int .i64 dst) := hBz.out.cellAt rfl
          have b2 : wz.cell? ⟨gc, 2, none⟩ = some (.int .i64 (D : Int)) := hBz.out.cellAt rfl
          have hroz := hroy
          have hftz := hfty
          clear iG
          have hcz : wz.cell? (adL.add 0) = some (.int .i64 x) := by
            obtain ⟨adL', uL', e, _, hu, hc⟩ := hroz.out.reads.at_ (k := 0) (by omega)
            injection e with e
            subst e
            rw [hc, ← hu]
            rfl
          have hcz0 : wz.cell? adL = some (.int .i64 x) := by
            have h9 := hcz
            rw [add_zero9] at h9
            exact h9
          have hrot := hid (hroz.out.tail)
          have hRz := hRz.out
          by_cases hc1 : c' = 1
          · subst hc1
            have hroz := hid (show RowC wz (some adL) P (1 - 1) (L.map iV) from by simpa using hrot.out)
            clear hrot
            have hlz := hid (hRz.len hM0.out)
            have iH := hid (fun W (h : SetAt W Fz g t.chans (setS (zeroW t.chans) K (.row L D))) => has_at h hKn (by rw [setS_same]; exact hRz.small (by omega)))
            simp only [setS_same] at iH
            obtain ⟨Q, hQz⟩ : ∃ Q, (hasL (.row L D)).length = Q := ⟨_, rfl⟩
            have y9 : decide ((M : Int) < (Q : Int)) = false := decide_eq_false (by have := hlz.out; omega)
            have y9' : decide (M < Q) = false := decide_eq_false (by have := hlz.out; omega)
            rw [hQz] at iH
            have HRz := hid hRz
            clear hRz hQz
            go_wp2_with fail
            go_region_held3 (fun w' => w'.cell? ⟨gc, 2, none⟩ = some (.int .i64 (D : Int))) (go_keep)
              (first | (go_at_call 24; refine (iH.out _ ?_).mono ?_; (first | exact hSz.out | exact hSz.out.drew); rintro e wy ⟨Ay, cy, rfl, hry, hby'⟩; have hby : Below wz.heap.size wz wy := (by first | exact hby' | exact ⟨hby'.os, hby'.tape, hby'.output, hby'.size, hby'.block⟩); have hby0 := hid hby; have z2 : wy.cell? ⟨gc, 2, none⟩ = some (.int .i64 (D : Int)) := (hBz.out.belowS hby).cellAt rfl; clear hby hby' hry))
            all_goals
              clear z2 iH
              go_wp2_with fail
              go_roundw
              case rel => exact ⟨k + 1, Fz, (.row L D), L, _, P, _, by omega, by go_num, rfl, hroz.out.belowS hby0.out, hSz.out.belowS hby0.out, HRz.out, by omega, hBz.out.belowS hby0.out, hfz.out, hftz.out, hxz.out.1.trans (hby0.out.mono hxz.out.1.size), hxz.out.2⟩
              case measure => simp [intOf]; omega

          · have hroz := hid (show RowC wz (some (adL.add 1)) P (c' - 1) (L.map iV) from by simpa [hc1] using hrot.out)
            have hftz := hid (fun b (hb : Foot (some (adL.add 1)) b) => hftz.out b (show Foot (some adL) b from by
              obtain ⟨a, ha, rfl⟩ := hb
              injection ha with ha
              subst ha
              rw [block_add]
              exact ⟨_, rfl, rfl⟩))
            clear hrot
            have hlz := hid (hRz.len hM0.out)
            have iH := hid (fun W (h : SetAt W Fz g t.chans (setS (zeroW t.chans) K (.row L D))) => has_at h hKn (by rw [setS_same]; exact hRz.small (by omega)))
            simp only [setS_same] at iH
            obtain ⟨Q, hQz⟩ : ∃ Q, (hasL (.row L D)).length = Q := ⟨_, rfl⟩
            have y9 : decide ((M : Int) < (Q : Int)) = false := decide_eq_false (by have := hlz.out; omega)
            have y9' : decide (M < Q) = false := decide_eq_false (by have := hlz.out; omega)
            rw [hQz] at iH
            have HRz := hid hRz
            clear hRz hQz
            go_wp2_with fail
            go_region_held3 (fun w' => w'.cell? ⟨gc, 2, none⟩ = some (.int .i64 (D : Int))) (go_keep)
              (first | (go_at_call 24; refine (iH.out _ ?_).mono ?_; (first | exact hSz.out | exact hSz.out.drew); rintro e wy ⟨Ay, cy, rfl, hry, hby'⟩; have hby : Below wz.heap.size wz wy := (by first | exact hby' | exact ⟨hby'.os, hby'.tape, hby'.output, hby'.size, hby'.block⟩); have hby0 := hid hby; have z2 : wy.cell? ⟨gc, 2, none⟩ = some (.int .i64 (D : Int)) := (hBz.out.belowS hby).cellAt rfl; clear hby hby' hry))
            all_goals
              clear z2 iH
              go_wp2_with fail
              go_roundw
              case rel => exact ⟨k + 1, Fz, (.row L D), L, _, P, _, by omega, by go_num, rfl, hroz.out.belowS hby0.out, hSz.out.belowS hby0.out, HRz.out, by omega, hBz.out.belowS hby0.out, hfz.out, hftz.out, hxz.out.1.trans (hby0.out.mono hxz.out.1.size), hxz.out.2⟩
              case measure => simp [intOf]; omega
/-! ### PortBounds: from the walk to the given statement -/
namespace lawPortBounds
theorem own : ownKnob Try.prog.godebug = none := by kernel_rfl
theorem laidOut : laidOutB Try.prog = true := by kernel_rfl
set_option maxRecDepth 100000 in
theorem lifted (os : Os) (started : os.Started) (H : Type) (enc : TypeId × Value → H) :
    ReturnsInHanded {} Try.checked os 6 .any (Rows.portBoundsSpec.pre6 enc Try.prog Try.f6 Rows.portBoundsRow.domain false) (Rows.portBoundsSpec.post enc Try.prog Try.f6 false true false false) := by
  refine returnsInHanded_of_change (C := Try.checked) own started (by kernel_rfl) Try.func6
    (ChangeSpec.witness6 (enc := enc) (C := Try.checked) false ⟨#[], #[.agg #[.int .i64 0, .slice none 0 0, .slice none 0 0, .slice none 0 0, .int .i64 0], .slice none 0 0], []⟩ 8 (by kernel_rfl) (by kernel_rfl) (by kernel_rfl) (by kernel_rfl)) ?_
  intro W base args ds gs before hval0 hW hcnd _
  have hval : ∀ (j : Nat) t v, Try.f6.params[j]? = some t → args[j]? = some v → Value.okWide Try.prog W .any base t v := hval0
  have hW' := hW
  obtain ⟨p, q, hA0, hV, rfl, hfz, hnd⟩ := hW
  have hA : DataW.TrodAll enc Try.prog W 0 (fun _ => true) true Try.f6.params.toList args.toList ds p := hA0
  rw [Try.params6] at hA hval
  obtain ⟨v0, vs0, d0, ds0, p0, q0, hargs, rfl, rfl, h0, r0⟩ := trodAll_cons hA
  obtain ⟨v1, vs1, d1, ds1, p1, q1, rfl, rfl, rfl, h1, r1⟩ := trodAll_cons r0
  obtain ⟨rfl, rfl, rfl⟩ := trodAll_nil r1
  obtain rfl : args = #[v0, v1] := by cases args; simp_all
  obtain ⟨rfl, rfl⟩ := trodVars_none hV
  have k0 := h0
  have lt0 : ∀ x ∈ p0, x.block < W.heap.size := by obtain ⟨m, hm⟩ := k0; exact DataW.trod_lt m _ _ _ hm
  have k1 := h1
  have lt1 : ∀ x ∈ p1, x.block < W.heap.size := by obtain ⟨m, hm⟩ := k1; exact DataW.trod_lt m _ _ _ hm
  obtain ⟨t0, a0, rfl, w0⟩ := open_tab (hval 0 36 v0 rfl rfl) h0
  obtain ⟨A1, n1, c1, b1, rfl, w1, g1, l1, f1⟩ := open_acts (hval 1 50 v1 rfl rfl) h1
  clear hA0 hval0
  refine (portBounds_any W t0 a0 w0 A1 n1 c1 b1 w1 g1 l1 f1).mono fun e W' ⟨he, bel⟩ => ?_
  subst he
  exact ⟨_, rfl, _, _, _, [], _, [], hW', trodAll_mk1 (shut_bool Try.underlying4 _), (trodAll_cons_mk (Below.trod laidOut (by kernel_rfl) (of_decide_eq_true (by kernel_rfl)) k0 bel lt0) (trodAll_cons_mk (Below.trod laidOut (by kernel_rfl) (of_decide_eq_true (by kernel_rfl)) k1 bel lt1) trodAll_mk0)), rfl, bel.frame _, fun h => by cases h⟩
theorem over : Rows.portBoundsRow.holds Try.pinned (OpenSpec.ofChange Rows.portBoundsSpec) :=
  OpenClaim.holds_of_wide 6 Try.f6 rfl rfl rfl rfl rfl rfl rfl ⟨rfl, rfl, rfl, rfl, rfl⟩ rfl rfl rfl rfl rfl (by kernel_rfl) Try.func6 (by kernel_rfl)
    (of_decide_eq_true (by kernel_rfl)) (by unfold Func.isWrapper; first | (rw [if_pos (by decide +kernel)]; kernel_rfl) | (rw [if_neg (by decide +kernel)]; exact ⟨rfl, rfl⟩))
    (fun os started H enc _ => lifted os started H enc)
theorem proved : Rows.PortBoundsSaid := over
#print axioms proved
end lawPortBounds
end Go.Proofs.Ythipfopmaegpdaa
