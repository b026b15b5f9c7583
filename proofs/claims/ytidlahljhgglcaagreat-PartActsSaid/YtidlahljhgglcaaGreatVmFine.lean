/-
  What machines keep, in plain words: the stack's length, numbers' bounds, what is sent.
-/
import Derived.Test.YtidlahljhgglcaaGreatVmPlain
namespace Go.Proofs.YtidlahljhgglcaaGreat

def InW (x : Int) : Prop := 0 ≤ x ∧ x ≤ 65535
theorem w65_in (n : Int) : InW (w65 n) := ⟨w65_lo n, w65_hi n⟩
theorem fits_ok {n take lay : Nat} (h : fitsE n take lay = 0) : take ≤ n ∧ n - take + lay ≤ 8 := by
  unfold fitsE at h
  split at h
  · cases h
  · split at h
    · cases h
    · omega
theorem swapV_len {s : List Int} {t : Nat} {l : List Int} (h : fitsE s.length t l.length = 0) : (swapV s t l).length ≤ 8 := by
  have := fits_ok h
  simp only [swapV, List.length_append, List.length_take, List.length_map]
  omega
theorem swapV_in {s : List Int} (hs : ∀ x ∈ s, InW x) (t : Nat) (l : List Int) : ∀ x ∈ swapV s t l, InW x := by
  intro x hx
  rcases List.mem_append.1 hx with h | h
  · exact hs x (List.mem_of_mem_take h)
  · obtain ⟨y, _, rfl⟩ := List.mem_map.1 h
    exact w65_in y
theorem topV_in {s : List Int} (hs : ∀ x ∈ s, InW x) (k : Nat) : InW (topV s k) := by
  unfold topV
  rw [List.getD_eq_getElem?_getD]
  cases h : s[s.length - 1 - k]? with
  | none => exact ⟨by simp, by simp⟩
  | some x => exact hs x (List.mem_of_getElem? h)
theorem set_in {s : List Int} (hs : ∀ x ∈ s, InW x) (k : Nat) {y : Int} (hy : InW y) : ∀ x ∈ s.set k y, InW x := by
  intro x hx
  rcases List.mem_or_eq_of_mem_set hx with h | h
  · exact hs x h
  · rw [h]; exact hy
theorem onF_fine {i : ImgS} {d : VmD} (h : Fine i d) (t : Nat) (l : List Int) : Fine i (onF t l d).2 := by
  unfold onF
  split
  · next h0 => exact ⟨swapV_len h0, swapV_in h.st t l, h.mlen, h.me⟩
  · exact h
theorem fits_dup {n : Nat} (h : fitsE n 1 2 = 0) : fitsE n 0 1 = 0 := by
  have := fits_ok h
  unfold fitsE
  rw [if_neg (by omega), if_neg (by omega)]
theorem fits_less {n : Nat} (h : fitsE n 0 2 = 0) : fitsE n 0 1 = 0 := by
  have := fits_ok h
  unfold fitsE
  rw [if_neg (by omega), if_neg (by omega)]
theorem deedF_fine {i : ImgS} {d : VmD} (h : Fine i d) (cs : List ChanS) (ticks : Int) (o : Nat) (a : Int) : Fine i (deedF i cs ticks o a d).2 := by
  unfold deedF twoF
  split
  all_goals first
    | exact h
    | exact onF_fine h _ _
    | exact ⟨h.len, h.st, h.mlen, h.me⟩
    | skip
  · split
    · next h0 => exact ⟨swapV_len (l := [_]) (fits_dup h0), swapV_in h.st _ _, h.mlen, h.me⟩
    · exact h
  · split
    · exact h
    · exact onF_fine h _ _
  · split
    · exact h
    · split
      · next h0 => exact ⟨swapV_len (l := []) h0, swapV_in h.st _ _, by simpa using h.mlen, set_in h.me _ (topV_in h.st 0)⟩
      · exact h
  · split
    · exact h
    · exact ⟨h.len, h.st, h.mlen, h.me⟩
  · split
    · exact h
    · split
      · next h0 => exact ⟨swapV_len (l := []) h0, swapV_in h.st _ _, h.mlen, h.me⟩
      · exact h
  · split
    · exact h
    · split
      · next h0 =>
        split
        · exact ⟨swapV_len (l := []) h0, swapV_in h.st _ _, h.mlen, h.me⟩
        · exact h
      · exact h
  · split
    · exact h
    · split
      · next h0 =>
        split
        · refine ⟨?_, swapV_in h.st _ _, h.mlen, h.me⟩
          show (swapV _ _ _).length ≤ 8
          split
          · exact swapV_len (l := [_, _]) h0
          · exact swapV_len (l := [_]) (fits_less h0)
        · exact h
      · exact h
/-- A message that may be sent. -/
def SentOk (i : ImgS) (q : Int × Int) : Prop := 0 ≤ q.1 ∧ bitI i.sends q.1 = true ∧ InW q.2
theorem onF_sent (t : Nat) (l : List Int) (d : VmD) : (onF t l d).2.sent = d.sent := by unfold onF; split <;> rfl
theorem onF_ss (t : Nat) (l : List Int) (d : VmD) : (onF t l d).2.ss = d.ss := by unfold onF; split <;> rfl
theorem deedF_sent {i : ImgS} {d : VmD} (h : Fine i d) (cs : List ChanS) (ticks : Int) (o : Nat) {a : Int} (ha : 0 ≤ a) (hs : ∀ q ∈ d.sent, SentOk i q) :
    (∀ q ∈ (deedF i cs ticks o a d).2.sent, SentOk i q) ∧ (deedF i cs ticks o a d).2.sent.length ≤ d.sent.length + 1 := by
  have hd : (∀ q ∈ d.sent, SentOk i q) ∧ d.sent.length ≤ d.sent.length + 1 := ⟨hs, by omega⟩
  have ho : ∀ t l, (∀ q ∈ (onF t l d).2.sent, SentOk i q) ∧ (onF t l d).2.sent.length ≤ d.sent.length + 1 := fun t l => by rw [onF_sent]; exact hd
  unfold deedF twoF
  split
  all_goals first
    | exact hd
    | exact ho _ _
    | skip
  · split
    · exact hd
    · exact hd
  · split
    · exact hd
    · exact ho _ _
  · split
    · exact hd
    · split
      · exact hd
      · exact hd
  · split
    · exact hd
    · exact hd
  · split
    · exact hd
    · split
      · exact hd
      · exact hd
  · split
    · exact hd
    · next hb =>
      split
      · split
        · refine ⟨fun q hq => ?_, by simp⟩
          rcases List.mem_append.1 hq with h9 | h9
          · exact hs q h9
          · rw [List.mem_singleton.1 h9]
            exact ⟨ha, by simpa using hb, topV_in h.st 0⟩
        · exact hd
      · exact hd
  · split
    · exact hd
    · split
      · split
        · exact hd
        · exact hd
      · exact hd
theorem deedF_kall {i : ImgS} {d : VmD} {cs : List ChanS} (hK : KAll cs d.ss) (ticks : Int) (o : Nat) (a : Int) : KAll cs (deedF i cs ticks o a d).2.ss := by
  have ho : ∀ t l, KAll cs (onF t l d).2.ss := fun t l => by rw [onF_ss]; exact hK
  unfold deedF twoF
  split
  all_goals first
    | exact hK
    | exact ho _ _
    | skip
  · split <;> exact hK
  · split
    · exact hK
    · exact ho _ _
  · split
    · exact hK
    · split <;> exact hK
  · split <;> exact hK
  · split
    · exact hK
    · split <;> exact hK
  · split
    · exact hK
    · split
      · split
        · exact hK.sendP _ _ _
        · exact hK
      · exact hK
  · split
    · exact hK
    · split
      · split
        · exact hK.getP _ _
        · exact hK
      · exact hK
theorem atF_some {code : List UInt8} {pc : Int} {o : Nat} {a nx : Int} (h : atF code pc = some (o, a, nx)) : 0 ≤ a ∧ a ≤ 255 ∧ o ≤ 18 ∧ 0 ≤ pc ∧ pc < code.length ∧ 0 ≤ nx ∧ nx ≤ code.length := by
  unfold atF at h
  split at h
  · cases h
  · next hpc =>
    split at h
    · cases h
    · next b hb =>
      have hlt := (List.getElem?_eq_some_iff.1 hb).1
      split at h
      · cases h
      · split at h
        · injection h with h
          injection h with h1 h
          injection h with h2 h3
          omega
        · split at h
          · cases h
          · next c hc =>
            have hlt2 := (List.getElem?_eq_some_iff.1 hc).1
            injection h with h
            injection h with h1 h
            injection h with h2 h3
            have := c.toNat_lt
            omega
/-- What holds of a tick that goes on holds of its end. -/
theorem runF_keeps {i : ImgS} {cs : List ChanS} {ticks : Int} (n : Nat) : ∀ (pc : Int) (d : VmD), Fine i d → KAll cs d.ss → (∀ q ∈ d.sent, SentOk i q) →
    Fine i (runF i cs ticks n pc d).2.2 ∧ KAll cs (runF i cs ticks n pc d).2.2.ss ∧ (∀ q ∈ (runF i cs ticks n pc d).2.2.sent, SentOk i q) ∧ (runF i cs ticks n pc d).2.2.sent.length ≤ d.sent.length + n := by
  induction n with
  | zero => intro pc d h1 h2 h3; exact ⟨h1, h2, h3, by simp [runF]⟩
  | succ n ih =>
    intro pc d h1 h2 h3
    unfold runF
    cases hat : atF i.code pc with
    | none => exact ⟨h1, h2, h3, by simp⟩
    | some x =>
      obtain ⟨o, a, nx⟩ := x
      have h0 := atF_some hat
      have h1' : Fine i { d with next := nx } := ⟨h1.len, h1.st, h1.mlen, h1.me⟩
      have g1 := deedF_fine h1' cs ticks o a
      have g2 : KAll cs (deedF i cs ticks o a { d with next := nx }).2.ss := deedF_kall (d := { d with next := nx }) h2 ticks o a
      have g3 := deedF_sent h1' cs ticks o h0.1 h3
      simp only
      generalize deedF i cs ticks o a { d with next := nx } = r at *
      have g4 : r.2.sent.length ≤ d.sent.length + 1 := g3.2
      split
      · split
        · exact ⟨g1, g2, g3.1, by simp; omega⟩
        · have := ih r.2.next r.2 g1 g2 g3.1
          exact ⟨this.1, this.2.1, this.2.2.1, by omega⟩
      · exact ⟨g1, g2, g3.1, by simp; omega⟩
/-- What holds of a machine between ticks. -/
structure FineS (i : ImgS) (s : VmS) : Prop where
  len : s.stack.length ≤ 8
  st : ∀ x ∈ s.stack, InW x
  mlen : (s.mem.length : Int) = i.mem
  me : ∀ x ∈ s.mem, InW x
theorem tickF_keeps {i : ImgS} {cs : List ChanS} {s : VmS} {ss : Nat → WayS} (h : FineS i s) (hK : KAll cs ss) :
    FineS i (tickF i cs s ss).1 ∧ KAll cs (tickF i cs s ss).2.1 ∧ (∀ q ∈ (tickF i cs s ss).2.2.1, SentOk i q) ∧ (tickF i cs s ss).2.2.1.length ≤ i.fuel.toNat := by
  unfold tickF
  split
  · exact ⟨h, hK, by simp, by simp⟩
  · have := runF_keeps (i := i) (cs := cs) (ticks := s.ticks) i.fuel.toNat s.pc (startD s ss) ⟨h.len, h.st, h.mlen, h.me⟩ hK (by simp [startD])
    obtain ⟨h1, h2, h3, h4⟩ := this
    exact ⟨⟨h1.len, h1.st, h1.mlen, h1.me⟩, h2, h3, by simpa [startD] using h4⟩
end Go.Proofs.YtidlahljhgglcaaGreat
