/-
  port.Drain: all channels to a partition emptied.
-/
import Derived.Test.YthipfopmaegpdaaPortNewOk
namespace Go.Proofs.Ythipfopmaegpdaa
open Go.RowKit Go.ChangeShapes Go.WideShapes Go.ChangeAt

def emptyS : WayS → WayS
  | .last _ _ => .last 0 false
  | .row _ d => .row [] d
/-- A channel's method, called on what the set has. -/
theorem empty_in {w : World} {g : Nat} {cs : List ChanS} {adE : Option Addr} {cE : Nat} {adW : Option Addr} {cW : Nat} {ps : Nat → WayP} {ss : Nat → WayS} (h : SetIn w g cs adE cE adW cW ps ss) {k : Nat} (hk : k < cs.length) {s : WayS} (hs : ss k = s) :
    (∀ m is, s = .last m is → Calls Try.prog 99 #[.pointer (some ⟨(ps k).g, 0, none⟩)] w fun e w' => e = .returned (.tuple #[]) ∧ ∃ p', SetIn w' g cs adE cE adW cW (setS ps k p') (setS ss k (.last 0 false)) ∧ Goes (SetF cs.length g adE adW ps) w (SetF cs.length g adE adW (setS ps k p')) w') ∧
    (∀ l d, s = .row l d → Calls Try.prog 103 #[.pointer (some ⟨(ps k).g, 0, none⟩)] w fun e w' => e = .returned (.tuple #[]) ∧ ∃ p', SetIn w' g cs adE cE adW cW (setS ps k p') (setS ss k (.row [] d)) ∧ Goes (SetF cs.length g adE adW ps) w (SetF cs.length g adE adW (setS ps k p')) w') := by
  have hi := h.way k hk
  rw [hs] at hi
  constructor
  · rintro m is rfl
    refine (lastEmpty_any (ps k).g m is w hi.1).mono ?_
    rintro e w' ⟨rfl, hl, hap⟩
    have ha : Apart (WayF (ps k)) w w' := ⟨hap.os, hap.tape, hap.output, hap.size, fun b hb hF => hap.block b hb (fun e => hF (.inl e))⟩
    exact ⟨rfl, ps k, h.step (p' := ps k) (s' := .last 0 false) hk ha ⟨hl, hi.2⟩ (by rw [hs]; rfl) (fun b hb => .inl hb), h.goes (p' := ps k) hk ha (fun b hb => .inl hb)⟩
  · rintro l d rfl
    refine (rowEmpty_any (ps k).g (ps k).A (ps k).c l d w hi).mono ?_
    rintro e w' ⟨rfl, hl, hap⟩
    have ha : Apart (WayF (ps k)) w w' := ⟨hap.os, hap.tape, hap.output, hap.size, fun b hb hF => hap.block b hb (fun e => hF (.inl e))⟩
    have hf : ∀ b, WayF ⟨(ps k).g, none, 0⟩ b → WayF (ps k) b ∨ w.heap.size ≤ b := fun b hb => by
      rcases hb with hb | ⟨a, hb, _⟩
      · exact .inl (.inl hb)
      · cases hb
    exact ⟨rfl, ⟨(ps k).g, none, 0⟩, h.step (p' := ⟨(ps k).g, none, 0⟩) (s' := .row [] d) hk ha hl (by rw [hs]; rfl) hf, h.goes (p' := ⟨(ps k).g, none, 0⟩) hk ha hf⟩
/-- The first k channels seen. -/
def drainS (cs : List ChanS) (p : Int) (k : Nat) (ss : Nat → WayS) (j : Nat) : WayS := if j < k ∧ (cs.getD j ⟨0, 0, 0⟩).dst = p then emptyS (ss j) else ss j
theorem drainS_zero (cs : List ChanS) (p : Int) (ss : Nat → WayS) : drainS cs p 0 ss = ss := by funext j; simp [drainS]
theorem drainS_yes (cs : List ChanS) (p : Int) (k : Nat) (ss : Nat → WayS) (h : (cs.getD k ⟨0, 0, 0⟩).dst = p) : setS (drainS cs p k ss) k (emptyS (drainS cs p k ss k)) = drainS cs p (k + 1) ss := by
  funext j
  by_cases hjk : j = k
  · subst hjk
    rw [setS_same]
    simp only [drainS, Nat.lt_irrefl, false_and, if_false, Nat.lt_succ_self, true_and, h, if_true]
  · rw [setS_other _ _ _ _ hjk]
    unfold drainS
    have : (j < k) = (j < k + 1) := by apply propext; omega
    simp only [this]
theorem drainS_no (cs : List ChanS) (p : Int) (k : Nat) (ss : Nat → WayS) (h : (cs.getD k ⟨0, 0, 0⟩).dst ≠ p) : drainS cs p k ss = drainS cs p (k + 1) ss := by
  funext j
  unfold drainS
  by_cases hjk : j = k
  · subst hjk
    rw [if_neg (fun e => absurd e.1 (Nat.lt_irrefl _)), if_neg (fun e => h e.2)]
  · have : (j < k) = (j < k + 1) := by apply propext; omega
    simp only [this]
theorem SetIn.at_ {w : World} {g : Nat} {cs : List ChanS} {adE : Option Addr} {cE : Nat} {adW : Option Addr} {cW : Nat} {ps : Nat → WayP} {ss : Nat → WayS} (h : SetIn w g cs adE cE adW cW ps ss) : SetAt w (SetF cs.length g adE adW ps) g cs ss := ⟨adE, cE, adW, cW, ps, h, fun _ => Iff.rfl⟩
/-- An act on a set that leaves its own rows where they are. -/
theorem drain_in {w : World} {g : Nat} {cs : List ChanS} {adE : Option Addr} {cE : Nat} {adW : Option Addr} {cW : Nat} {ps : Nat → WayP} {ss : Nat → WayS} (h : SetIn w g cs adE cE adW cW ps ss) (hn : cs.length ≤ 1000000) (p : Int) :
    Calls Try.prog 30 #[.pointer (some ⟨g, 0, none⟩), .int .i64 p] w fun e w' => e = .returned (.tuple #[]) ∧ ∃ ps', SetIn w' g cs adE cE adW cW ps' (drainS cs p cs.length ss) ∧ Goes (SetF cs.length g adE adW ps) w (SetF cs.length g adE adW ps') w' := by
  have c0 : w.cell? ⟨g, 0, none⟩ = some (.slice adE cs.length cE) := h.blk.cellAt rfl
  have H := hid h
  clear h
  go_enter Try.func30, Try.ntmps30
  go_wp2_with fail
  clear c0
  go_loopw [4, 5, 13] (fun v4 v5 v13 wr => ∃ (k : Nat) (ps' : Nat → WayP), k ≤ cs.length ∧ v13 = .int .i64 (k : Int) ∧ SetIn wr g cs adE cE adW cW ps' (drainS cs p k ss) ∧ Goes (SetF cs.length g adE adW ps) w (SetF cs.length g adE adW ps') wr) (fun _ _ v13 _ => cs.length - (intOf v13).toNat)
  case atStart => exact ⟨0, ps, by omega, rfl, by rw [drainS_zero]; exact H.out, Goes.refl _ _⟩
  case round =>
    obtain ⟨k, ps', hk, rfl, hS, hG⟩ := hrel
    by_cases hkn : k < cs.length
    · obtain ⟨ad, x, rfl, had, hx, hc0, hc⟩ := hS.ends.at_ hkn
      have c0 := hc0 _ rfl
      have c1 := hc 0 _ rfl
      have c2 := hc 1 _ rfl
      clear hc hc0
      obtain ⟨src, dst, dep⟩ := x
      simp only at c0 c1 c2
      have hD : Hid ((cs.getD k ⟨0, 0, 0⟩).dst = dst) := hid (by rw [List.getD_eq_getElem?_getD, hx]; rfl)
      clear hx
      have hgl := hS.blk.lt
      have hS1 : ∀ o, SetIn (wr.alloc o) g cs (some ad) cE adW cW ps' (drainS cs p k ss) := fun o => hS.keep (by simp) fun b hb => Below.heap_alloc _ _ _ (hS.lt hb)
      obtain ⟨aW, rfl, haw, _⟩ := hS.ways k hkn
      have q1 : ∀ o, (wr.alloc o).cell? ⟨g, 1, none⟩ = some (.slice (some aW) cs.length cW) := fun o => (hS1 o).blk.cellAt rfl
      have q2 : ∀ o, (wr.alloc o).cell? (aW.add k) = some (wayIV (ps' k) (drainS cs p k ss k)) := fun o => by
        obtain ⟨a, e, _, hh⟩ := (hS1 o).ways k hkn
        injection e with e
        rw [e]
        exact hh
      have q3 : ∀ o, (wr.alloc o).heap.size = wr.heap.size + 1 := fun o => by simp
      have hG1 : ∀ o, Goes (SetF cs.length g (some ad) (some aW) ps) w (SetF cs.length g (some ad) (some aW) ps') (wr.alloc o) := fun o => hG.trans (Goes.of_below ((Below.refl _ _).alloc (Nat.le_refl _) _))
      have HS1 := hid hS1
      have HG1 := hid hG1
      clear hS hG hS1 hG1 q3
      by_cases hdp : dst = p
      · have y0 : ((dst : Int) == p) = true := by simp [hdp]
        have HP := hid hdp
        clear hdp
        cases hs : drainS cs p k ss k with
        | last m is =>
          rw [hs] at q2
          have i1 := hid (fun o => (empty_in (HS1.out o) hkn hs).1 m is rfl)
          have HE := hid hs
          clear hs
          unfold wayIV at q2
          go_wp2_with fail
          refine (i1.out _).mono ?_
          rintro e w2 ⟨rfl, p', hS2, hG2⟩
          go_wp2_with fail
          go_roundw
          case rel =>
            refine ⟨k + 1, _, by omega, by go_num, ?_, (HG1.out _).trans hG2⟩
            have e := drainS_yes cs p k ss (hD.out.trans HP.out)
            rw [HE.out] at e
            rw [← e]
            exact hS2
          case measure => simp [intOf]; omega
        | row l d =>
          rw [hs] at q2
          have i1 := hid (fun o => (empty_in (HS1.out o) hkn hs).2 l d rfl)
          have HE := hid hs
          clear hs
          unfold wayIV at q2
          go_wp2_with fail
          refine (i1.out _).mono ?_
          rintro e w2 ⟨rfl, p', hS2, hG2⟩
          go_wp2_with fail
          go_roundw
          case rel =>
            refine ⟨k + 1, _, by omega, by go_num, ?_, (HG1.out _).trans hG2⟩
            have e := drainS_yes cs p k ss (hD.out.trans HP.out)
            rw [HE.out] at e
            rw [← e]
            exact hS2
          case measure => simp [intOf]; omega
      · have y0 : ((dst : Int) == p) = false := by simp [hdp]
        have HP := hid hdp
        clear hdp
        go_wp2_with fail
        go_roundw
        case rel =>
          refine ⟨k + 1, _, by omega, by go_num, ?_, HG1.out _⟩
          rw [← drainS_no cs p k ss (by rw [hD.out]; exact HP.out)]
          exact HS1.out _
        case measure => simp [intOf]; omega
    · obtain rfl : k = cs.length := by omega
      go_wp2_with fail
      refine bodyPost_end (v := .tuple #[]) (by simp [results, Try.results30, go_sem]) rfl ?_
      exact ⟨rfl, ps', hS, hG⟩
/-- Drain. -/
theorem drain_at {w : World} {F : Nat → Prop} {g : Nat} {cs : List ChanS} {ss : Nat → WayS} (h : SetAt w F g cs ss) (hn : cs.length ≤ 1000000) (p : Int) :
    Calls Try.prog 30 #[.pointer (some ⟨g, 0, none⟩), .int .i64 p] w (SPost F w g cs (.returned (.tuple #[])) (drainS cs p cs.length ss)) := by
  obtain ⟨adE, cE, adW, cW, ps, h1, h2⟩ := h
  refine (drain_in h1 hn p).mono ?_
  rintro e w' ⟨rfl, ps', hS, hG⟩
  exact ⟨_, rfl, hS.at_, ⟨⟨hG.apart.os, hG.apart.tape, hG.apart.output, hG.apart.size, fun b hb hF => hG.apart.block b hb (fun hf => hF ((h2 b).2 hf))⟩, fun b hb => (hG.foot b hb).imp_left (h2 b).2⟩⟩
end Go.Proofs.Ythipfopmaegpdaa
