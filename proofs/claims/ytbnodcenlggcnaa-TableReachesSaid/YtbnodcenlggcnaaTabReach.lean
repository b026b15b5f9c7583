/-
  Law 05: what a partition reaches reaches no more than it does; with a channel more it reaches no less (TableReaches): parts.
-/
import Derived.Test.YtbnodcenlggcnaaTabAsks
namespace Go.Proofs.Ytbnodcenlggcnaa
open Go.RowKit Go.ChangeShapes Go.WideShapes Go.ChangeAt

/-- The list of what is reached answers by reaching alone. -/
theorem rchL_closed {l : List ChanS} {a : Nat} {x y : Int} (hl : ∀ b c : Nat, Rch l b c → b < 4 → c < 4) (hx : x ∈ rchL l a) (hy : y ∈ rchL l x.toNat) : y ∈ rchL l a := by
  obtain ⟨i, rfl, hi, ri⟩ := mem_rchL.1 hx
  obtain ⟨j, rfl, hj, rj⟩ := mem_rchL.1 hy
  exact mem_rchL.2 ⟨j, rfl, hj, ri.trans (by simpa using rj)⟩
theorem rchL_mono {l m : List ChanS} {a : Nat} {x : Int} (hs : ∀ c ∈ l, c ∈ m) (hx : x ∈ rchL l a) : x ∈ rchL m a := by
  obtain ⟨i, rfl, hi, ri⟩ := mem_rchL.1 hx
  exact mem_rchL.2 ⟨i, rfl, hi, ri.mono hs⟩
theorem reachB_closed {t : TabS} {p x y : Int} (hx : x ∈ reachB t p) (hy : y ∈ reachB t x) : y ∈ reachB t p := by
  unfold reachB at hx hy ⊢
  split at hx
  · split at hy
    · rename_i h1 h2
      rw [if_pos h1]
      exact rchL_closed (fun b c h _ => by
        cases h with
        | refl => assumption
        | step hm _ => have hR := (rightB_iff t).1 h1.1; have := hR.cs _ hm; have := hR.p2; omega) hx hy
    · simp at hy
  · simp at hx
theorem reachB_mono {t u : TabS} {p x : Int} (hr : rightB u = true) (hp : u.parts.length = t.parts.length) (hs : ∀ c ∈ t.chans, c ∈ u.chans) (hx : x ∈ reachB t p) : x ∈ reachB u p := by
  unfold reachB at hx ⊢
  split at hx
  · rename_i h1
    rw [if_pos ⟨hr, by rw [hasB_iff, hp, ← hasB_iff]; exact h1.2⟩]
    exact rchL_mono hs hx
  · simp at hx
set_option maxRecDepth 100000 in
set_option maxHeartbeats 1000000 in
theorem has1_any (A : Option Addr) (n c : Nat) (l : List Int) (x : Int) (w : World) (B : Nat) (h : Reads w B 1 A n (l.map iV)) (hn : n ≤ 100000) :
    Calls Try.prog 20 #[.slice A n c, .int .i64 x] w fun e w' => e = .returned (.bool (l.any (· == x))) ∧ Below w.heap.size w w' := by
  have hlen := h.len
  simp only [List.length_map, Nat.mul_one] at hlen
  have H := hid h
  clear h
  generalize hpf : (fun y : Int => y == x) = pf
  have HP : Hid (∀ y : Int, pf y = (y == x)) := hid (fun y => by rw [← hpf])
  clear hpf
  go_enter Try.func20, Try.ntmps20
  go_wp2_with fail
  go_loopw [6, 9] (fun _ v9 wr => ∃ k : Nat, k ≤ n ∧ v9 = .int .i64 (k : Int) ∧ Hid (∀ y ∈ l.take k, pf y = false) ∧ wr = w) (fun _ v9 _ => n - (intOf v9).toNat)
  case atStart => exact ⟨0, by omega, rfl, by refine hid ?_; simp, rfl⟩
  case round =>
    obtain ⟨k, hk, rfl, HK, rfl⟩ := hrel
    by_cases hkn : k < n
    · obtain ⟨ad, y, rfl, had, hy, hc⟩ := H.out.atM hkn
      simp only [iV] at hc
      have HY := hid hy
      have hk0 : (0 : Int) ≤ (k : Int) := Int.natCast_nonneg _
      have hk1 : (k : Int) < (n : Int) := by omega
      clear hy
      by_cases hyx : y = x
      · have hyb : (y == x) = true := by simpa using hyx
        have hr : Hid (l.any pf = true) := hid (List.any_eq_true.2 ⟨y, List.mem_of_getElem? HY.out, by rw [HP.out]; exact hyb⟩)
        clear hyx
        go_wp2_with fail
        go_ret
        exact ⟨by rw [hr.out]; rfl, Below.refl _ _⟩
      · have hyb : (y == x) = false := by simpa using hyx
        have HS := hid (any_take pf l k y HY.out (by rw [HP.out]; exact hyb) HK.out)
        clear hyx
        go_wp2_with fail
        go_roundw
        case rel => exact ⟨k + 1, by omega, by go_num, HS, by first | trivial | rfl⟩
        case measure => simp [intOf]; omega
    · obtain rfl : k = n := by omega
      have hr : Hid (l.any pf = false) := by
        refine hid ?_
        rw [List.any_eq_false]
        intro c hc
        rw [HK.out c (by rw [← hlen, List.take_length]; exact hc)]
        simp
      go_wp2_with fail
      go_ret
      exact ⟨by rw [hr.out]; rfl, Below.refl _ _⟩
theorem has_in (A : Option Addr) (n c : Nat) (l : List Int) (x : Int) (w : World) (h : Reads w w.heap.size 1 A n (l.map iV)) (hn : n ≤ 100000) (hx : x ∈ l) :
    Calls Try.prog 20 #[.slice A n c, .int .i64 x] w fun e w' => e = .returned (.bool true) ∧ Below w.heap.size w w' := by
  have h1 := has1_any A n c l x w _ h hn
  rw [List.any_eq_true.2 ⟨x, hx, by simp⟩] at h1
  exact h1
theorem reachB_len (t : TabS) (p : Int) : (reachB t p).length ≤ 4 := by
  unfold reachB
  split
  · unfold rchL
    rw [List.length_map]
    exact Nat.le_trans (List.length_filter_le _ _) (by simp)
  · simp
end Go.Proofs.Ytbnodcenlggcnaa
