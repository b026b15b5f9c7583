/-
  num.Text and the first reference's Text.
-/
import Derived.Test.YtojffpfgmlegdaaNum
namespace Go.Proofs.Ytojffpfgmlegdaa
open Go.RowKit

theorem put_at (W : Nat) (ww : Int) (hW : wid ww = W) (A : Option Addr) (n c : Nat) (bs : List UInt8) (x : Int) (w : World) (h : Reads w w.heap.size 1 A n (bs.map bV)) (hn : n ≤ 100000000) :
    Calls Try.prog 47 #[.slice A n c, .int .i64 x, .int .i64 ww] w fun e w' => ∃ A' c', e = .returned (.slice A' (n + W) c') ∧
      w'.ownsRow w.heap.size 5 1 (.slice A' (n + W) c') (n + W) ((bs ++ putB x W).map bV) ∧ Below w.heap.size w w' := by
  subst hW
  exact put_any A n c bs x ww w h hn

theorem text_any (A1 A2 : Option Addr) (n m c1 c2 : Nat) (bs ts : List UInt8) (w : World) (h1 : Reads w w.heap.size 1 A1 n (bs.map bV)) (h2 : Reads w w.heap.size 1 A2 m (ts.map bV)) (hn : n ≤ 100000) (hm : m ≤ c2) (hc : c2 ≤ maxLen) :
    Calls Try.prog 48 #[.slice A1 n c1, .slice A2 m c2] w fun e w' => ∃ A' c', e = .returned (.slice A' (n + 2 + min m 65535) c') ∧
      w'.ownsRow w.heap.size 5 1 (.slice A' (n + 2 + min m 65535) c') (n + 2 + min m 65535) ((bs ++ textB ts).map bV) ∧ Below w.heap.size w w' := by
  have ht : ts.length = m := by simpa using h2.len
  have HT : Hid (textB ts = putB ((min m 65535 : Nat) : Int) 2 ++ ts.take (min m 65535)) := by
    refine hid ?_
    unfold textB
    rw [ht]
    congr 1
    rw [← List.take_length (l := ts), ht, List.take_take, List.take_take]
    congr 1
    omega
  clear ht
  unfold maxLen at hc
  obtain ⟨M, hM, hM1, hM2⟩ : ∃ M : Nat, min m 65535 = M ∧ M ≤ m ∧ M ≤ 65535 := ⟨_, rfl, by omega, by omega⟩
  have h3 := h2.front hM1
  rw [hM] at HT ⊢
  have hMi : (if (65535 : Int) < (m : Int) then (65535 : Int) else (m : Int)) = (M : Int) := by split <;> omega
  rw [Nat.mul_one, ← List.map_take] at h3
  have hp := hid (put_at 2 2 rfl A1 n c1 bs (M : Int) w h1 (by omega))
  clear h1 h2 hM
  go_enter Try.func48, Try.ntmps48
  go_wp2_with fail
  refine hp.out.mono ?_
  rintro e w1 ⟨A', c', rfl, hown, hb⟩
  clear hp hMi
  go_wp2_with (at_builtin; refine appB _ rfl (.tmp 13) (.tmp 14) rfl w.heap.size _ (n + 2) _ _ rfl hown w.heap.size A2 M c2 (ts.take M) rfl (h3.below hb) (by omega) hb.size ?_; intro A3 c3 w3 hown3 hg3 hb3)
  go_ret
  exact ⟨A3, c3, rfl, by rw [HT.out, ← List.append_assoc]; exact hown3, hb.trans hb3⟩

theorem refText_any (A2 : Option Addr) (m c2 : Nat) (ts : List UInt8) (w : World) (h2 : Reads w w.heap.size 1 A2 m (ts.map bV)) (hm : m ≤ c2) (hc : c2 ≤ maxLen) :
    Calls Try.prog 58 #[.slice A2 m c2] w fun e w' => ∃ A' c', e = .returned (.slice A' (2 + min m 65535) c') ∧
      w'.ownsRow w.heap.size 5 1 (.slice A' (2 + min m 65535) c') (2 + min m 65535) ((textB ts).map bV) ∧ Below w.heap.size w w' := by
  have ht : ts.length = m := by simpa using h2.len
  have HT : Hid (textB ts = putB ((min m 65535 : Nat) : Int) 2 ++ ts.take (min m 65535)) := by
    refine hid ?_
    unfold textB
    rw [ht]
    congr 1
    rw [← List.take_length (l := ts), ht, List.take_take, List.take_take]
    congr 1
    omega
  clear ht
  unfold maxLen at hc
  obtain ⟨M, hM, hM1, hM2⟩ : ∃ M : Nat, min m 65535 = M ∧ M ≤ m ∧ M ≤ 65535 := ⟨_, rfl, by omega, by omega⟩
  have h3 := h2.front hM1
  rw [hM] at HT ⊢
  rw [Nat.mul_one, ← List.map_take] at h3
  have hp := hid (refPut_any (M : Int) 2 w (by omega))
  rw [show wid 2 = 2 from rfl] at hp
  clear h2
  by_cases hg : 65535 < m
  · obtain rfl : M = 65535 := by omega
    clear hM
    go_enter Try.func58, Try.ntmps58
    go_wp2_with fail
    refine hp.out.mono ?_
    rintro e w1 ⟨A', c', rfl, hown, hb⟩
    clear hp
    go_wp2_with (at_builtin; refine appB _ rfl (.tmp 11) (.tmp 14) rfl w.heap.size _ 2 _ _ rfl hown w.heap.size A2 65535 c2 (ts.take 65535) rfl (h3.below hb) (by omega) hb.size ?_; intro A3 c3 w3 hown3 hg3 hb3)
    go_ret
    exact ⟨A3, c3, rfl, by rw [HT.out]; exact hown3, hb.trans hb3⟩
  · obtain rfl : M = m := by omega
    clear hM
    go_enter Try.func58, Try.ntmps58
    go_wp2_with fail
    refine hp.out.mono ?_
    rintro e w1 ⟨A', c', rfl, hown, hb⟩
    clear hp
    go_wp2_with (at_builtin; refine appB _ rfl (.tmp 11) (.tmp 14) rfl w.heap.size _ 2 _ _ rfl hown w.heap.size A2 M c2 (ts.take M) rfl (h3.below hb) (by omega) hb.size ?_; intro A3 c3 w3 hown3 hg3 hb3)
    go_ret
    exact ⟨A3, c3, rfl, by rw [HT.out]; exact hown3, hb.trans hb3⟩
end Go.Proofs.Ytojffpfgmlegdaa
