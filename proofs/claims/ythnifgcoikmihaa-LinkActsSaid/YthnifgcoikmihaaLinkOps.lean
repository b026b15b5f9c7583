/-
  Package link: putting a frame behind the others, taking one out.
-/
import Derived.Test.YthnifgcoikmihaaLink
namespace Go.Proofs.Ythnifgcoikmihaa
open Go.RowKit

theorem map_snoc (x : List (List UInt8)) (f : List UInt8) : x.map sV ++ [sV f] = (x ++ [f]).map sV := by simp
/-- The block's cells behind a store. -/
theorem lcells_set {k : Nat} (hk : k < 2) (s s' u : Value) : (lcells k s s').set k u = lcells k u s' := by
  have hk2 : k = 0 ∨ k = 1 := by omega
  rcases hk2 with rfl | rfl <;> rfl
theorem foot_some {g b : Nat} : Foot (some ⟨g, 0, none⟩) b ↔ b = g := by
  unfold Foot
  constructor
  · rintro ⟨a, h, rfl⟩; injection h with h; subst h; rfl
  · rintro rfl; exact ⟨_, rfl, rfl⟩
theorem Row.type_ne {w : World} {g : Nat} {T e : TypeId} {cs : List Value} {A : Option Addr} {n c : Nat} {xs : List Value} (h : Row w e A n c xs) (hb : Blk w g T cs) (hne : T ≠ e) : ¬ Foot A g := by
  rintro ⟨a, ha, rfl⟩
  rcases h.2.2.2 with ⟨h1, _⟩ | ⟨g', cur, h1, h2, _⟩
  · rw [h1] at ha; cases ha
  · rw [h1] at ha
    injection ha with ha
    subst ha
    unfold Blk at hb
    simp only at hb
    rw [h2] at hb
    injection hb with hb
    injection hb with _ hb
    exact hne hb.symm
theorem ownBlock_foot {A : Option Addr} {n c : Nat} {b : Nat} : (Value.slice A n c).ownBlock = some b ↔ Foot A b := by
  cases A <;> simp [Value.ownBlock, Foot]
/-- A link whose one way's slice was made anew, or stayed in its block. -/
theorem link_after {w w1 : World} {g k : Nat} (hk : k < 2) {A : Option Addr} {c : Nat} {x : List (List UInt8)} {A' : Option Addr} {c' : Nat} {q : Ways} {F : Nat → Prop}
    (h : LinkIn w g k A c x A' c' (q (1 - k))) (hF : ∀ b, F b ↔ LF g A A' b) (hb : Apart (Foot A) w w1) (A2 : Option Addr) (c2 : Nat) (x2 : List (List UInt8)) (hr : Row w1 9 A2 x2.length c2 (x2.map sV))
    (hA2 : ∀ b, Foot A2 b → Foot A b ∨ w.heap.size ≤ b) (hn : x2.length ≤ 32) :
    ∃ F', LinkAt (w1.setCell ⟨g, k, none⟩ (.slice A2 x2.length c2)) F' g (upd q k x2) ∧ Goes F w F' (w1.setCell ⟨g, k, none⟩ (.slice A2 x2.length c2)) := by
  have hgA : ¬ Foot A g := h.r.type_ne h.blk (by decide)
  have hgA' : ¬ Foot A' g := h.r'.type_ne h.blk (by decide)
  have hgA2 : ¬ Foot A2 g := fun hf => (hA2 g hf).elim hgA (fun hs => by have := h.blk.lt; omega)
  have hblk := (h.blk.apart hb hgA).set_ k (.slice A2 x2.length c2)
  rw [lcells_set hk] at hblk
  have hin : LinkIn (w1.setCell ⟨g, k, none⟩ (.slice A2 x2.length c2)) g k A2 c2 x2 A' c' (q (1 - k)) :=
    ⟨hblk, hr.far (p := ⟨g, k, none⟩) hgA2 _, (h.r'.apart hb (fun b h1 h2 => h.ap b h2 h1)).far (p := ⟨g, k, none⟩) hgA' _, fun b h1 h2 => (hA2 b h1).elim (fun hf => h.ap b hf h2) (fun hs => by have := h.r'.lt h2; omega), hn, h.n'⟩
  refine ⟨_, hin.at_ hk, ⟨?_, ?_⟩⟩
  · refine Apart.setCell (F := F) ?_ (p := ⟨g, k, none⟩) (.inl ((hF g).2 (.inl rfl))) _
    exact ⟨hb.os, hb.tape, hb.output, hb.size, fun b hbs hf => hb.block b hbs (fun hh => hf ((hF b).2 (.inr (.inl hh))))⟩
  · rintro b (rfl | h1 | h1)
    · exact .inl ((hF b).2 (.inl rfl))
    · exact (hA2 b h1).imp (fun hf => (hF b).2 (.inr (.inl hf))) id
    · exact .inl ((hF b).2 (.inr (.inr h1)))
theorem apart_app {w w1 w2 : World} {A : Option Addr} {n c : Nat} (h : Apart (Foot A) w w1) (hg : w1.grownBy w2 (Value.slice A n c).ownBlock) : Apart (Foot A) w w2 :=
  h.grown hg (fun _ hk => .inl (ownBlock_foot.1 hk))
/-- What putting answers. -/
def putE (x : List (List UInt8)) : Int := if x.length = 32 then 4 else 0
def putQ (q : Ways) (k : Nat) (f : List UInt8) : Ways := if (q k).length = 32 then q else upd q k (q k ++ [f])
theorem put_full (F : Nat → Prop) (g k : Nat) (hk : k < 2) (q : Ways) (f : List UInt8) (w : World) (h : LinkAt w F g q) (hf : (q k).length = 32) :
    Calls Try.prog 37 #[.pointer (some ⟨g, 0, none⟩), .int .i64 k, .string ⟨f.toArray⟩] w fun e w' => e = .returned (.int .i64 4) ∧ w = w' := by
  obtain ⟨A, c, A', c', hin, _⟩ := h.one hk
  have hcell := lcell0 hk hin.blk
  rw [hf] at hcell
  clear hin h
  have hk0 : decide ((k : Int) < 0) = false := decide_eq_false (by omega)
  go_enter Try.func37, Try.ntmps37
  go_wp2_with fail
  go_ret
  exact ⟨rfl, rfl⟩
set_option maxHeartbeats 2000000 in
theorem put_room (F : Nat → Prop) (g k : Nat) (hk : k < 2) (q : Ways) (f : List UInt8) (w : World) (h : LinkAt w F g q) (hf : (q k).length ≠ 32) :
    Calls Try.prog 37 #[.pointer (some ⟨g, 0, none⟩), .int .i64 k, .string ⟨f.toArray⟩] w (LPost F w g (.returned (.int .i64 0)) (upd q k (q k ++ [f]))) := by
  obtain ⟨A, c, A', c', hin, HF⟩ := h.one hk
  have hcell := lcell0 hk hin.blk
  have hn := hin.n
  generalize hx : q k = x at hin hcell hn hf ⊢
  have HX := hid hx
  have Hin := hid hin
  have HF := hid HF
  clear hin h hx
  have hne : ((x.length : Int) == 32) = false := beq_eq_false_iff_ne.2 (by omega)
  have hc1 : ∀ o, (w.alloc o).cell? ⟨g, k, none⟩ = some (.slice A x.length c) := fun o => (World.cell?_alloc_lt w o _ (by simpa using Hin.out.blk.lt)).trans hcell
  obtain ⟨i0, hi0, hz0, hz1, hz2⟩ := info_parts info_str
  have hk0 : (0 : Int) ≤ (k : Int) := Int.natCast_nonneg _
  have hk2 : (k : Int) < 2 := by omega
  have HG := hid (Hin.out.r.type_ne Hin.out.blk (by decide))
  go_enter Try.func37, Try.ntmps37
  go_wp2_with fail
  go_region_law (refine step_row _ (by rfl) _ _ _ (by rfl) 9 i0 _ 16 Try.underlying73 hi0 hz0 hz1 hz2 rfl A x.length c (x.map sV) (by rfl) (by exact Hin.out.r.alloc _) (w.heap.size + 1) (some ⟨w.heap.size, 0, none⟩) 1 1 [sV f] (by rfl) (by exact Reads.new w #[.string ⟨f.toArray⟩] _ 1 rfl) (oneCell_s [f]) (by simp [maxLen]; omega) (by omega) (x ++ [f]).length (by simp) ?_; intro A2 c2 w2 hrow hgrow hA2; have hap := hid (apart_app (w := w) (by first | exact (Apart.refl _ _).alloc _ | exact ((Apart.refl _ _).alloc _).drew) hgrow); have hblk2 := Hin.out.blk.apart hap.out HG.out; have q1 := lcell0 hk hblk2; have q2 := hblk2.frozen k; have HA2 := hid hA2; clear hA2 hgrow hblk2)
  all_goals
    obtain ⟨F', hl, hgo⟩ := link_after hk Hin.out HF.out hap.out A2 c2 (x ++ [f]) (by rw [← map_snoc]; exact hrow) (fun b hb => by rcases HA2.out with h1 | h1 <;> subst h1; exact .inl hb; exact .inr (by rw [foot_some] at hb; subst hb; simp)) (by simp; omega)
    rw [show (x ++ [f]).length = x.length + 1 by simp] at hl hgo
    go_wp2_with fail
    go_ret
    exact ⟨F', rfl, hl, hgo⟩
/-- A list without what stands at a place. -/
def cutL (x : List (List UInt8)) (i : Nat) : List (List UInt8) := x.take i ++ x.drop (i + 1)
theorem cutL_len {x : List (List UInt8)} {i : Nat} (h : i < x.length) : (cutL x i).length + 1 = x.length := by simp [cutL]; omega
set_option maxRecDepth 100000 in
set_option maxHeartbeats 2000000 in
theorem cut_any (F : Nat → Prop) (g k i : Nat) (hk : k < 2) (q : Ways) (w : World) (h : LinkAt w F g q) (hi : i < (q k).length) (f : List UInt8) (hf : (q k)[i]? = some f) :
    Calls Try.prog 38 #[.pointer (some ⟨g, 0, none⟩), .int .i64 k, .int .i64 i] w (LPost F w g (.returned (sV f)) (upd q k (cutL (q k) i))) := by
  obtain ⟨A, c, A', c', hin, HF⟩ := h.one hk
  have hcell := lcell0 hk hin.blk
  have hn := hin.n
  generalize hx : q k = x at hin hcell hn hf hi ⊢
  have HX := hid hx
  obtain ⟨a0, rfl, ha0⟩ := hin.r.form (by omega)
  have hcs := hin.r.cell (j := i) (u := sV f) (by rw [List.getElem?_map, hf]; rfl)
  have hcap := hin.r.cap
  have Hin := hid hin
  have HF := hid HF
  have HI := hid hf
  clear hin h hx hf
  obtain ⟨i0, hi0, hz0, hz1, hz2⟩ := info_parts info_str
  have hk0 : (0 : Int) ≤ (k : Int) := Int.natCast_nonneg _
  have hk2 : (k : Int) < 2 := by omega
  have HG := hid (Hin.out.r.type_ne Hin.out.blk (by decide))
  have j0 : (0 : Int) ≤ (i : Int) := Int.natCast_nonneg _
  have j1 : (i : Int) ≤ (c : Int) := by omega
  have j2 : (0 : Int) ≤ (i : Int) + 1 := by omega
  have j3 : (i : Int) + 1 ≤ (x.length : Int) := by omega
  have j4 : IntKind.i64.wrap ((i : Int) + 1) = (i : Int) + 1 := IntWalk.i64_in _ (by omega)
  have j5 : (x.length : Int) ≤ (c : Int) := by omega
  have j6 : (i : Int) < (x.length : Int) := by omega
  have q0 : w.frozen? ⟨g, k, none⟩ = false := Hin.out.blk.frozen k
  have hsrc : Hid (Reads w w.heap.size 1 (if c = i + 1 then some ⟨a0, 0, none⟩ else some ⟨a0, i + 1, none⟩) (x.length - (i + 1)) ((x.drop (i + 1)).map sV)) := by
    have hr := Hin.out.r.reads.cut (k := i + 1) (cap := c) (by omega) (by omega)
    rw [List.map_drop]
    refine hid ?_
    simp only [Nat.mul_one, Option.map_some, add_none, Nat.zero_add] at hr
    exact hr
  generalize hSA : (if c = i + 1 then some (⟨a0, 0, none⟩ : Addr) else some ⟨a0, i + 1, none⟩) = SA at hsrc
  go_enter Try.func38, Try.ntmps38
  go_wp2_with fail
  go_region_held3 (fun w2 => w2.frozen? ⟨g, k, none⟩ = false) (go_keep) ((refine step_row _ (by rfl) _ _ _ (by rfl) 9 i0 _ 16 Try.underlying73 hi0 hz0 hz1 hz2 rfl (some ⟨a0, 0, none⟩) i i ((x.take i).map sV) (by rfl) (by rw [List.map_take]; exact Hin.out.r.cut (by omega)) w.heap.size SA (x.length - (i + 1)) (c - (i + 1)) ((x.drop (i + 1)).map sV) (by rfl) (by exact hsrc.out) (oneCell_s _) (by simp [maxLen]; omega) (by omega) (cutL x i).length (by have := cutL_len hi; omega) ?_; intro A2 c2 w2 hrow hgrow hA2; have hap := hid (apart_app (w := w) (by first | exact (Apart.refl _ _) | exact (Apart.refl _ _).drew) hgrow); have hblk2 := Hin.out.blk.apart hap.out HG.out; have q1 := lcell0 hk hblk2; have q2 := hblk2.frozen k; have HA2 := hid hA2; clear hA2 hgrow hblk2))
  all_goals
    obtain ⟨F', hl, hgo⟩ := link_after hk Hin.out HF.out hap.out A2 c2 (cutL x i) (by unfold cutL; rw [List.map_append]; exact hrow) (fun b hb => by rcases HA2.out with h1 | h1 <;> subst h1; exact .inl hb; exact .inr (by rw [foot_some] at hb; subst hb; simp)) (by have := cutL_len hi; omega)
    go_wp2_with fail
    go_ret
    exact ⟨F', rfl, hl, hgo⟩
end Go.Proofs.Ythnifgcoikmihaa
