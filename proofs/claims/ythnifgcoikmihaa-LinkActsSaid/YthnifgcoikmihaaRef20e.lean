/-
  Law 20's do, and the reference's Do: the same errors, the same lists.
-/
import Derived.Test.YthnifgcoikmihaaRef20d
namespace Go.Proofs.Ythnifgcoikmihaa
open Go.RowKit Go.ChangeShapes Go.WideShapes Go.ChangeAt

/-- An act of layer 20, but Take. -/
def actE (q : Ways) (kind way i kk at_ : Int) : Int :=
  if kind = 0 then sendE q way else if kind = 2 then oneE q way i else if kind = 3 then twiceE q way i else if kind = 4 then twoE q way i kk else spoilE q way i at_
def actQ (q : Ways) (kind way i kk at_ by_ : Int) (l : List UInt8) : Ways :=
  if kind = 0 then sendQ q way l else if kind = 2 then loseQ q way i else if kind = 3 then twiceQ q way i else if kind = 4 then swapQ q way i kk else spoilQ q way i at_ by_
def SmallQ (q : Ways) : Prop := ∀ k, ∀ f ∈ q k, f.length ≤ 100
theorem SmallQ.upd_ {q : Ways} (h : SmallQ q) {k : Nat} {z : List (List UInt8)} (hz : ∀ f ∈ z, f.length ≤ 100) : SmallQ (upd q k z) := fun j f hf => by
  by_cases e : j = k
  · subst e; rw [upd_same] at hf; exact hz f hf
  · rw [upd_other _ _ _ _ e] at hf; exact h j f hf
theorem SmallQ.get_ {q : Ways} (h : SmallQ q) (k i : Nat) : ((q k).getD i []).length ≤ 100 := by
  rw [List.getD_eq_getElem?_getD]
  cases hx : (q k)[i]? with
  | none => simp
  | some f => exact h k f (List.mem_of_getElem? hx)
theorem SmallQ.put_ {q : Ways} (h : SmallQ q) {k : Nat} {l : List UInt8} (hl : l.length ≤ 100) : SmallQ (putQ q k l) := by
  unfold putQ
  split
  · exact h
  · exact h.upd_ fun f hf => (List.mem_append.1 hf).elim (h k f) (fun h9 => by rw [List.mem_singleton.1 h9]; exact hl)
theorem SmallQ.act {q : Ways} (h : SmallQ q) (kind way i kk at_ by_ : Int) {l : List UInt8} (hl : l.length ≤ 100) : SmallQ (actQ q kind way i kk at_ by_ l) := by
  unfold actQ
  split
  · unfold sendQ; split
    · exact h
    · exact h.put_ hl
  split
  · unfold loseQ; split
    · refine h.upd_ fun f hf => ?_
      unfold cutL at hf
      rcases List.mem_append.1 hf with h9 | h9
      · exact h _ f (List.mem_of_mem_take h9)
      · exact h _ f (List.mem_of_mem_drop h9)
    · exact h
  split
  · unfold twiceQ; split
    · exact h.put_ (h.get_ _ _)
    · exact h
  split
  · unfold swapQ; split
    · refine h.upd_ fun f hf => ?_
      unfold swapL at hf
      rcases List.mem_or_eq_of_mem_set hf with h9 | h9
      · rcases List.mem_or_eq_of_mem_set h9 with h8 | h8
        · exact h _ f h8
        · rw [h8]; exact h.get_ _ _
      · rw [h9]; exact h.get_ _ _
    · exact h
  · unfold spoilQ; split
    · refine h.upd_ fun f hf => ?_
      rcases List.mem_or_eq_of_mem_set hf with h9 | h9
      · exact h _ f h9
      · rw [h9]
        unfold spoilF
        rw [List.length_set]
        exact h.get_ _ _
    · exact h
theorem upd_self (q : Ways) (k : Nat) : upd q k (q k) = q := by funext j; unfold upd; split <;> simp_all
section
variable {w : World} {F : Nat → Prop} {g gR : Nat} {q : Ways}
theorem RLPost.same {e e0 : Ending} {w' : World} (h : RefL w F gR q) (he : e = e0) (hb : Below w.heap.size w w') : RLPost F w gR e0 q e w' := ⟨F, he, h.belowS hb, Goes.of_below hb⟩
theorem doR_any (h : RefL w F gR q) (hq : SmallQ q) (kind way i kk at_ by_ : Int) (hkd : kind = 0 ∨ (2 ≤ kind ∧ kind ≤ 5)) (B : Option Addr) (n d : Nat) (l : List UInt8) (hr : Reads w w.heap.size 1 B n (l.map bV)) (hn : n ≤ 100000) :
    Calls Try.prog 24 #[.pointer (some ⟨gR, 0, none⟩), .agg #[.int .i64 kind, .int .i64 way, .int .i64 i, .int .i64 kk, .int .i64 at_, .int .i64 by_, .slice B n d]] w (RLPost F w gR (.returned (.int .i64 (actE q kind way i kk at_))) (actQ q kind way i kk at_ by_ l)) := by
  by_cases hw : way < 0 ∨ 2 ≤ way
  · have e1 : actE q kind way i kk at_ = 3 := by
      unfold actE sendE twiceE twoE spoilE oneE
      simp only [if_pos hw]
      repeat' split
      all_goals first | rfl | omega
    have e2 : actQ q kind way i kk at_ by_ l = q := by
      unfold actQ sendQ loseQ twiceQ swapQ spoilQ spoilE twoE oneE
      simp only [if_pos hw]
      repeat' split
      all_goals first | rfl | omega
    rw [e1, e2]
    exact (doR_way kind way i kk at_ by_ B n d hw).mono fun e w' ⟨he, hb⟩ => RLPost.same h he hb
  obtain ⟨k, rfl⟩ : ∃ k : Nat, way = (k : Int) := ⟨way.toNat, by omega⟩
  have hk : k < 2 := by omega
  by_cases h0 : kind = 0
  · subst h0
    have e1 : actE q 0 (k : Int) i kk at_ = putE (q k) := by unfold actE sendE; rw [if_pos rfl, if_neg hw, Int.toNat_natCast]
    have e2 : actQ q 0 (k : Int) i kk at_ by_ l = putQ q k l := by unfold actQ sendQ; rw [if_pos rfl, if_neg hw, Int.toNat_natCast]
    rw [e1, e2]
    exact doR_put h hk i kk at_ by_ B n d l hr hn
  by_cases ho : outB (q k) i = true ∨ (kind = 4 ∧ outB (q k) kk = true)
  · have e0 : outB (q k) i = true → oneE q (k : Int) i = 5 := fun h9 => by unfold oneE; rw [if_neg hw, Int.toNat_natCast, if_pos h9]
    have e1 : actE q kind (k : Int) i kk at_ = 5 ∧ actQ q kind (k : Int) i kk at_ by_ l = q := by
      unfold actE actQ
      rw [if_neg h0, if_neg h0]
      by_cases h4 : kind = 4
      · subst h4
        have e5 : twoE q (k : Int) i kk = 5 := by
          unfold twoE
          rw [if_neg hw, Int.toNat_natCast, if_pos (by rcases ho with h9 | ⟨_, h9⟩ <;> simp [h9])]
        rw [if_neg (by decide), if_neg (by decide), if_pos rfl, if_neg (by decide), if_neg (by decide), if_pos rfl]
        unfold swapQ
        rw [e5]
        exact ⟨rfl, if_neg (by decide)⟩
      · have h9 := e0 (ho.resolve_right (fun h => h4 h.1))
        by_cases h2 : kind = 2
        · rw [if_pos h2, if_pos h2]
          unfold loseQ
          rw [h9]
          exact ⟨rfl, if_neg (by decide)⟩
        · by_cases h3 : kind = 3
          · rw [if_neg h2, if_pos h3, if_neg h2, if_pos h3]
            unfold twiceE twiceQ
            rw [h9]
            exact ⟨if_neg (by decide), if_neg (by decide)⟩
          · rw [if_neg h2, if_neg h3, if_neg h4, if_neg h2, if_neg h3, if_neg h4]
            unfold spoilQ
            have e7 : spoilE q (k : Int) i at_ = 5 := by unfold spoilE; rw [h9]; exact if_neg (by decide)
            rw [e7]
            exact ⟨rfl, if_neg (by decide)⟩
    rw [e1.1, e1.2]
    exact (doR_none h hk kind i kk at_ by_ B n d h0 ho).mono fun e w' ⟨he, hb⟩ => RLPost.same h he hb
  have hoi : outB (q k) i = false := by
    cases hh : outB (q k) i with
    | false => rfl
    | true => exact absurd (.inl hh) ho
  obtain ⟨a, rfl, ha⟩ := out_no hoi
  have e0 : oneE q (k : Int) (a : Int) = 0 := by unfold oneE; rw [if_neg hw, Int.toNat_natCast, hoi]; rfl
  have hf : (q k)[a]? = some ((q k).getD a []) := by rw [List.getD_eq_getElem?_getD, List.getElem?_eq_getElem ha]; rfl
  have hfl := hq.get_ k a
  by_cases h2 : kind = 2
  · subst h2
    have e1 : actE q 2 (k : Int) (a : Int) kk at_ = 0 := by unfold actE; rw [if_neg (by decide), if_pos rfl, e0]
    have e2 : actQ q 2 (k : Int) (a : Int) kk at_ by_ l = upd q k (cutL (q k) a) := by unfold actQ loseQ; rw [if_neg (by decide), if_pos rfl, if_pos e0, Int.toNat_natCast, Int.toNat_natCast]
    rw [e1, e2]
    exact doR_lose h hk ha kk at_ by_ B n d
  by_cases h3 : kind = 3
  · subst h3
    have e1 : actE q 3 (k : Int) (a : Int) kk at_ = putE (q k) := by unfold actE twiceE; rw [if_neg (by decide), if_neg (by decide), if_pos rfl, if_pos e0, Int.toNat_natCast]
    have e2 : actQ q 3 (k : Int) (a : Int) kk at_ by_ l = putQ q k ((q k).getD a []) := by unfold actQ twiceQ; rw [if_neg (by decide), if_neg (by decide), if_pos rfl, if_pos e0, Int.toNat_natCast, Int.toNat_natCast]
    rw [e1, e2]
    exact doR_twice h hk hf (by omega) kk at_ by_ B n d
  by_cases h4 : kind = 4
  · subst h4
    have hok : outB (q k) kk = false := by
      cases hh : outB (q k) kk with
      | false => rfl
      | true => exact absurd (.inr ⟨rfl, hh⟩) ho
    obtain ⟨b, rfl, hb⟩ := out_no hok
    have e5 : twoE q (k : Int) (a : Int) (b : Int) = 0 := by unfold twoE; rw [if_neg hw, Int.toNat_natCast, hoi, hok]; rfl
    have e1 : actE q 4 (k : Int) (a : Int) (b : Int) at_ = 0 := by unfold actE; rw [if_neg (by decide), if_neg (by decide), if_neg (by decide), if_pos rfl, e5]
    have e2 : actQ q 4 (k : Int) (a : Int) (b : Int) at_ by_ l = upd q k (swapL (q k) a b) := by unfold actQ swapQ; rw [if_neg (by decide), if_neg (by decide), if_neg (by decide), if_pos rfl, if_pos e5, Int.toNat_natCast, Int.toNat_natCast, Int.toNat_natCast]
    rw [e1, e2]
    exact doR_swap h hk ha hb at_ by_ B n d
  obtain rfl : kind = 5 := by omega
  by_cases hat : at_ < 0 ∨ (((q k).getD a []).length : Int) ≤ at_
  · have e5 : spoilE q (k : Int) (a : Int) at_ = 6 := by unfold spoilE; rw [if_pos e0, Int.toNat_natCast, Int.toNat_natCast, if_pos hat]
    have e1 : actE q 5 (k : Int) (a : Int) kk at_ = 6 := by unfold actE; rw [if_neg (by decide), if_neg (by decide), if_neg (by decide), if_neg (by decide), e5]
    have e2 : actQ q 5 (k : Int) (a : Int) kk at_ by_ l = q := by unfold actQ spoilQ; rw [if_neg (by decide), if_neg (by decide), if_neg (by decide), if_neg (by decide), e5]; exact if_neg (by decide)
    rw [e1, e2]
    exact (doR_far h hk hf kk at_ by_ B n d hat).mono fun e w' ⟨he, hb⟩ => RLPost.same h he hb
  · obtain ⟨p, rfl⟩ : ∃ p : Nat, at_ = (p : Int) := ⟨at_.toNat, by omega⟩
    have e5 : spoilE q (k : Int) (a : Int) (p : Int) = 0 := by unfold spoilE; rw [if_pos e0, Int.toNat_natCast, Int.toNat_natCast, if_neg hat]
    have e1 : actE q 5 (k : Int) (a : Int) kk (p : Int) = 0 := by unfold actE; rw [if_neg (by decide), if_neg (by decide), if_neg (by decide), if_neg (by decide), e5]
    have e2 : actQ q 5 (k : Int) (a : Int) kk (p : Int) by_ l = upd q k ((q k).set a (spoilF ((q k).getD a []) p by_)) := by
      unfold actQ spoilQ
      rw [if_neg (by decide), if_neg (by decide), if_neg (by decide), if_neg (by decide), if_pos e5, Int.toNat_natCast, Int.toNat_natCast, Int.toNat_natCast]
    rw [e1, e2]
    exact doR_spoil h hk hf (by omega) (by omega) kk by_ B n d
/-- The law's own do. -/
theorem doL_any (h : LinkAt w F g q) (kind way i kk at_ by_ : Int) (hkd : kind = 0 ∨ (2 ≤ kind ∧ kind ≤ 5)) (B : Option Addr) (n d : Nat) (l : List UInt8) (hr : Reads w w.heap.size 1 B n (l.map bV)) :
    Calls Try.prog 23 #[.pointer (some ⟨g, 0, none⟩), .agg #[.int .i64 kind, .int .i64 way, .int .i64 i, .int .i64 kk, .int .i64 at_, .int .i64 by_, .slice B n d]] w (LPost F w g (.returned (.int .i64 (actE q kind way i kk at_))) (actQ q kind way i kk at_ by_ l)) := by
  obtain ⟨w1, hw1, hb1, hbx, hs1⟩ := actR_in kind way i kk at_ by_ B n d w
  have q0 : w1.cell? ⟨w.heap.size, 0, none⟩ = some (.int .i64 kind) := hbx.cellAt rfl
  have q1 : w1.cell? ⟨w.heap.size, 1, none⟩ = some (.int .i64 way) := hbx.cellAt rfl
  have q2 : w1.cell? ⟨w.heap.size, 2, none⟩ = some (.int .i64 i) := hbx.cellAt rfl
  have q3 : w1.cell? ⟨w.heap.size, 3, none⟩ = some (.int .i64 kk) := hbx.cellAt rfl
  have q4 : w1.cell? ⟨w.heap.size, 4, none⟩ = some (.int .i64 at_) := hbx.cellAt rfl
  have q5 : w1.cell? ⟨w.heap.size, 5, none⟩ = some (.int .i64 by_) := hbx.cellAt rfl
  have q6 : w1.cell? ⟨w.heap.size, 6, none⟩ = some (.slice B n d) := hbx.cellAt rfl
  have h1 := h.belowS hb1
  have i0 := hid (send_any F g q way B n d l w1 h1 (hr.belowS hb1))
  have i2 := hid (lose_any F g q way i w1 h1)
  have i3 := hid (twice_any F g q way i w1 h1)
  have i4 := hid (swap_any F g q way i kk w1 h1)
  have i5 := hid (spoil_any F g q way i at_ by_ w1 h1)
  have HB := hid hb1
  unfold actE actQ
  clear hs1 hbx h h1 hr hb1
  by_cases k0 : kind = 0
  · subst k0
    simp (config := { decide := true }) only [if_true, if_false]
    clear hkd i2 i3 i4 i5 
    go_enter Try.func23, Try.ntmps23
    go_wp2_with fail
    refine i0.out.mono ?_
    rintro e w2 ⟨F2, rfl, hL2, hG2⟩
    have HL2 := hid hL2
    have HG2 := hid hG2
    clear hL2 hG2
    go_wp2_with fail
    go_ret
    exact ⟨F2, rfl, HL2.out, (Goes.of_below HB.out).trans HG2.out⟩
  by_cases k2 : kind = 2
  · subst k2
    simp (config := { decide := true }) only [if_true, if_false]
    clear hkd i0 i3 i4 i5 k0
    go_enter Try.func23, Try.ntmps23
    go_wp2_with fail
    refine i2.out.mono ?_
    rintro e w2 ⟨F2, rfl, hL2, hG2⟩
    have HL2 := hid hL2
    have HG2 := hid hG2
    clear hL2 hG2
    go_wp2_with fail
    go_ret
    exact ⟨F2, rfl, HL2.out, (Goes.of_below HB.out).trans HG2.out⟩
  by_cases k3 : kind = 3
  · subst k3
    simp (config := { decide := true }) only [if_true, if_false]
    clear hkd i0 i2 i4 i5 k0 k2
    go_enter Try.func23, Try.ntmps23
    go_wp2_with fail
    refine i3.out.mono ?_
    rintro e w2 ⟨F2, rfl, hL2, hG2⟩
    have HL2 := hid hL2
    have HG2 := hid hG2
    clear hL2 hG2
    go_wp2_with fail
    go_ret
    exact ⟨F2, rfl, HL2.out, (Goes.of_below HB.out).trans HG2.out⟩
  by_cases k4 : kind = 4
  · subst k4
    simp (config := { decide := true }) only [if_true, if_false]
    clear hkd i0 i2 i3 i5 k0 k2 k3
    go_enter Try.func23, Try.ntmps23
    go_wp2_with fail
    refine i4.out.mono ?_
    rintro e w2 ⟨F2, rfl, hL2, hG2⟩
    have HL2 := hid hL2
    have HG2 := hid hG2
    clear hL2 hG2
    go_wp2_with fail
    go_ret
    exact ⟨F2, rfl, HL2.out, (Goes.of_below HB.out).trans HG2.out⟩
  by_cases k5 : kind = 5
  · subst k5
    simp (config := { decide := true }) only [if_true, if_false]
    clear hkd i0 i2 i3 i4 k0 k2 k3 k4
    go_enter Try.func23, Try.ntmps23
    go_wp2_with fail
    refine i5.out.mono ?_
    rintro e w2 ⟨F2, rfl, hL2, hG2⟩
    have HL2 := hid hL2
    have HG2 := hid hG2
    clear hL2 hG2
    go_wp2_with fail
    go_ret
    exact ⟨F2, rfl, HL2.out, (Goes.of_below HB.out).trans HG2.out⟩
  exact absurd hkd (by omega)
end
end Go.Proofs.Ythnifgcoikmihaa
