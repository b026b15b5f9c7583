/-
  Package image: are images alike, whatever they are?
-/
import Derived.Test.YtojffpfgmlegdaaImgSameA
import Derived.Test.YtojffpfgmlegdaaImgSameB
import Derived.Test.YtojffpfgmlegdaaImgSameC
import Derived.Test.YtojffpfgmlegdaaImgSameD
import Derived.Test.YtojffpfgmlegdaaImgSameE
namespace Go.Proofs.Ytojffpfgmlegdaa
open Go.RowKit

theorem headB_same {p q : ImgS} (h : sameI p q = true) : headB p = headB q := by
  simp only [sameI, Bool.and_eq_true, beq_iff_eq, decide_eq_true_eq] at h
  obtain ⟨⟨⟨⟨⟨⟨⟨h0, h1⟩, h2⟩, h3⟩, h4⟩, h5⟩, h6⟩, h7⟩ := h
  cases p
  cases q
  simp only at *
  subst h0 h1 h2 h3 h4 h5 h6 h7
  rfl
theorem imgSame_any (p q : ImgS) (A1 : Option Addr) (c1 : Nat) (A2 : Option Addr) (c2 : Nat) (w : World) (h1 : Reads w w.heap.size 1 A1 p.code.length (p.code.map bV)) (h2 : Reads w w.heap.size 1 A2 q.code.length (q.code.map bV)) (l1 : p.code.length ≤ c1) (l2 : q.code.length ≤ c2) (m1 : c1 ≤ maxLen) (m2 : c2 ≤ maxLen) :
    Calls Try.prog 21 #[imgV p A1 c1, imgV q A2 c2] w fun e w' => e = .returned (.bool (sameI p q)) ∧ Below w.heap.size w w' := by
  by_cases he : headB p = headB q
  · have he' := decide_eq_true he
    by_cases e0 : (p.part == q.part) = true
    · by_cases e1 : (p.ver == q.ver) = true
      · by_cases e2 : (p.hard == q.hard) = true
        · by_cases e3 : (p.mem == q.mem) = true
          · by_cases e4 : (p.fuel == q.fuel) = true
            · by_cases e5 : (p.sends == q.sends) = true
              · by_cases e6 : (p.recvs == q.recvs) = true
                · have hs : sameI p q = decide (p.code = q.code) := by simp only [sameI, e0, e1, e2, e3, e4, e5, e6, Bool.true_and]
                  rw [hs]
                  exact same_way7 p q A1 c1 A2 c2 w h1 h2 l1 l2 m1 m2 he' e0 e1 e2 e3 e4 e5 e6 _ rfl
                · have e6' : (p.recvs == q.recvs) = false := by simpa using e6
                  rw [show sameI p q = false by simp only [sameI, e6', Bool.and_false, Bool.false_and]]
                  exact same_way6 p q A1 c1 A2 c2 w h1 h2 l1 l2 m1 m2 he' e0 e1 e2 e3 e4 e5 e6'
              · have e5' : (p.sends == q.sends) = false := by simpa using e5
                rw [show sameI p q = false by simp only [sameI, e5', Bool.and_false, Bool.false_and]]
                exact same_way5 p q A1 c1 A2 c2 w h1 h2 l1 l2 m1 m2 he' e0 e1 e2 e3 e4 e5'
            · have e4' : (p.fuel == q.fuel) = false := by simpa using e4
              rw [show sameI p q = false by simp only [sameI, e4', Bool.and_false, Bool.false_and]]
              exact same_way4 p q A1 c1 A2 c2 w h1 h2 l1 l2 m1 m2 he' e0 e1 e2 e3 e4'
          · have e3' : (p.mem == q.mem) = false := by simpa using e3
            rw [show sameI p q = false by simp only [sameI, e3', Bool.and_false, Bool.false_and]]
            exact same_way3 p q A1 c1 A2 c2 w h1 h2 l1 l2 m1 m2 he' e0 e1 e2 e3'
        · have e2' : (p.hard == q.hard) = false := by simpa using e2
          rw [show sameI p q = false by simp only [sameI, e2', Bool.and_false, Bool.false_and]]
          exact same_way2 p q A1 c1 A2 c2 w h1 h2 l1 l2 m1 m2 he' e0 e1 e2'
      · have e1' : (p.ver == q.ver) = false := by simpa using e1
        rw [show sameI p q = false by simp only [sameI, e1', Bool.and_false, Bool.false_and]]
        exact same_way1 p q A1 c1 A2 c2 w h1 h2 l1 l2 m1 m2 he' e0 e1'
    · have e0' : (p.part == q.part) = false := by simpa using e0
      rw [show sameI p q = false by simp only [sameI, e0', Bool.false_and]]
      exact same_way0 p q A1 c1 A2 c2 w h1 h2 l1 l2 m1 m2 he' e0'
  · have hs : sameI p q = false := by
      cases hb : sameI p q with
      | false => rfl
      | true => exact absurd (headB_same hb) he
    rw [hs]
    exact same_wayH p q A1 c1 A2 c2 w h1 h2 l1 l2 m1 m2 (decide_eq_false he)
end Go.Proofs.Ytojffpfgmlegdaa
