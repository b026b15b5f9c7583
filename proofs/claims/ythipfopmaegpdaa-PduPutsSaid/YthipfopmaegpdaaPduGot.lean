/-
  pdu.Get: the message of bytes, or its error, for all bytes.
-/
import Derived.Test.YthipfopmaegpdaaPduGet
namespace Go.Proofs.Ythipfopmaegpdaa
open Go.RowKit Go.ChangeShapes Go.WideShapes Go.ChangeAt

def setF (p : PduS) (f : Nat) (v : Int) : PduS := match f with
  | 0 => { p with ses := v }
  | 1 => { p with part := v }
  | 2 => { p with no := v }
  | 3 => { p with size := v }
  | 4 => { p with what := v }
  | 5 => { p with code := v }
  | _ => { p with hav := v }
theorem setF_data (p : PduS) (f : Nat) (v : Int) : (setF p f v).data = p.data := by unfold setF; split <;> rfl
theorem setF_kind (p : PduS) (f : Nat) (v : Int) : (setF p f v).kind = p.kind := by unfold setF; split <;> rfl
def getL : List Nat → PduS → RS → PduS × RS
  | [], p, s => (p, s)
  | f :: l, p, s => getL l (setF p f ((rNum s (widS f)).1 : Int)) (rNum s (widS f)).2
/-- What the body of a message, its sum cut off, is. -/
def bodyG (b : List UInt8) : PduS × Int :=
  let r := rNum ⟨b, 0⟩ 1
  if fieldsK (r.1 : Int) = [] then (pduZ, 2) else
  let q := getL (fieldsK (r.1 : Int)) { pduZ with kind := (r.1 : Int) } r.2
  let z := if (r.1 : Int) = 2 then ({ q.1 with data := (rBytes q.2 16).1 }, (rBytes q.2 16).2) else q
  if rEnd z.2 ≠ 0 then (pduZ, rEnd z.2) else (z.1, 0)
def getP (b : List UInt8) : PduS × Int :=
  if b.length < 5 then (pduZ, 1) else
  if (crcOf (b.take (b.length - 4))).toNat ≠ numOf (b.drop (b.length - 4)) then (pduZ, 10) else bodyG (b.take (b.length - 4))

theorem pduC_setF (p : PduS) (A : Option Addr) (c : Nat) (f : Nat) (hf : f < 7) (v : Int) : (pduC p A c).set (f + 1) (.int .i64 v) = pduC (setF p f v) A c := by
  have : f = 0 ∨ f = 1 ∨ f = 2 ∨ f = 3 ∨ f = 4 ∨ f = 5 ∨ f = 6 := by omega
  rcases this with rfl | rfl | rfl | rfl | rfl | rfl | rfl <;> rfl
section
variable {w w' : World} {g r B n : Nat} {A : Option Addr} {xs : List Value} {t : TypeId} {cs : List Value}
theorem Blk.grown_ne (h : Blk w g t cs) (hg : w.grownBy w' (some r)) (hne : g ≠ r) : Blk w' g t cs := (hg.block g h.lt (fun e => hne (by injection e))).trans h
theorem Reads.grown_ne (h : Reads w B 1 A n xs) (hB : B ≤ w.heap.size) (hg : w.grownBy w' (some r)) (hne : ∀ ad, A = some ad → ad.block ≠ r) : Reads w' w'.heap.size 1 A n xs := by
  refine ⟨h.1, fun hn => ?_⟩
  obtain ⟨ad, e, hb, hc⟩ := h.2 hn
  have hs := hg.size
  refine ⟨ad, e, by omega, fun j u hu => ?_⟩
  rw [World.cell?_of_block (hg.block _ (by rw [block_add]; omega) (by rw [block_add]; intro q; injection q with q; exact hne ad e q))]
  exact hc j u hu
theorem Reads.set_ne (h : Reads w B 1 A n xs) (p : Addr) (v : Value) (hne : ∀ ad, A = some ad → ad.block ≠ p.block) : Reads (w.setCell p v) B 1 A n xs := by
  refine ⟨h.1, fun hn => ?_⟩
  obtain ⟨ad, e, hb, hc⟩ := h.2 hn
  refine ⟨ad, e, hb, fun j u hu => ?_⟩
  rw [World.cell?_setCell_other w _ _ v (by intro q; exact hne ad e (by have := congrArg Addr.block q; rw [block_add] at this; exact this.symm))]
  exact hc j u hu
theorem Rdr.belowG {s : RS} (h : Rdr w g s) (hb : Below B w w') (hg : g < B) : Rdr w' g s := by
  obtain ⟨A, n, c, h1, h2, h3⟩ := h
  exact ⟨A, n, c, h1.below hb hg, h2.below (hb.mono (Nat.le_of_lt hg)), h3⟩
end
def NamedNew (k : Int) (w : World) (e : Ending) (w' : World) : Prop := ∃ A c, e = .returned (.tuple #[.slice A (fieldsK k).length c, .bool (decide (k = 2))]) ∧ Reads w' w'.heap.size 1 A (fieldsK k).length ((fieldsK k).map nV) ∧ Below w.heap.size w w' ∧ ∀ ad, A = some ad → w.heap.size ≤ ad.block
theorem named_new (k : Int) (w : World) :
    Calls Try.prog 41 #[.int .i64 k] w (NamedNew k w) := by
  go_enter Try.func41, Try.ntmps41
  by_cases h1 : k = 1
  · subst h1
    go_wp2_with fail
    go_ret2
    exact ⟨_, _, rfl, reads_new w ((fieldsK 1).map nV) 83 _ (by rfl), (Below.refl _ _).alloc (Nat.le_refl _) _, fun ad h => by injection h with h; subst h; exact Nat.le_refl _⟩
  by_cases h2 : k = 2
  · subst h2
    go_wp2_with fail
    go_ret2
    exact ⟨_, _, rfl, reads_new w ((fieldsK 2).map nV) 83 _ (by rfl), (Below.refl _ _).alloc (Nat.le_refl _) _, fun ad h => by injection h with h; subst h; exact Nat.le_refl _⟩
  by_cases h3 : k = 3
  · subst h3
    go_wp2_with fail
    go_ret2
    exact ⟨_, _, rfl, reads_new w ((fieldsK 3).map nV) 83 _ (by rfl), (Below.refl _ _).alloc (Nat.le_refl _) _, fun ad h => by injection h with h; subst h; exact Nat.le_refl _⟩
  by_cases h4 : k = 4
  · subst h4
    go_wp2_with fail
    go_ret2
    exact ⟨_, _, rfl, reads_new w ((fieldsK 4).map nV) 83 _ (by rfl), (Below.refl _ _).alloc (Nat.le_refl _) _, fun ad h => by injection h with h; subst h; exact Nat.le_refl _⟩
  by_cases h5 : k = 5
  · subst h5
    go_wp2_with fail
    go_ret2
    exact ⟨_, _, rfl, reads_new w ((fieldsK 5).map nV) 83 _ (by rfl), (Below.refl _ _).alloc (Nat.le_refl _) _, fun ad h => by injection h with h; subst h; exact Nat.le_refl _⟩
  by_cases h6 : k = 6
  · subst h6
    go_wp2_with fail
    go_ret2
    exact ⟨_, _, rfl, reads_new w ((fieldsK 6).map nV) 83 _ (by rfl), (Below.refl _ _).alloc (Nat.le_refl _) _, fun ad h => by injection h with h; subst h; exact Nat.le_refl _⟩
  by_cases h7 : k = 7
  · subst h7
    go_wp2_with fail
    go_ret2
    exact ⟨_, _, rfl, reads_new w ((fieldsK 7).map nV) 83 _ (by rfl), (Below.refl _ _).alloc (Nat.le_refl _) _, fun ad h => by injection h with h; subst h; exact Nat.le_refl _⟩
  by_cases h8 : k = 8
  · subst h8
    go_wp2_with fail
    go_ret2
    exact ⟨_, _, rfl, reads_new w ((fieldsK 8).map nV) 83 _ (by rfl), (Below.refl _ _).alloc (Nat.le_refl _) _, fun ad h => by injection h with h; subst h; exact Nat.le_refl _⟩
  have g1 : (k == 1) = false := by simpa using h1
  have g2 : (k == 2) = false := by simpa using h2
  have g3 : (k == 3) = false := by simpa using h3
  have g4 : (k == 4) = false := by simpa using h4
  have g5 : (k == 5) = false := by simpa using h5
  have g6 : (k == 6) = false := by simpa using h6
  have g7 : (k == 7) = false := by simpa using h7
  have g8 : (k == 8) = false := by simpa using h8
  have hf : fieldsK k = [] := by
    unfold fieldsK
    simp only [if_neg h1, if_neg h2, if_neg h3, if_neg h4, if_neg h5, if_neg h6, if_neg h7, if_neg h8]
  have hk2 : decide (k = 2) = false := decide_eq_false h2
  have HF := hid hf
  have HK := hid hk2
  clear hf hk2 h1 h2 h3 h4 h5 h6 h7 h8
  go_wp2_with fail
  go_ret2
  refine ⟨none, 0, ?_, ?_, Below.refl _ _, fun ad h => by cases h⟩
  · rw [HF.out, HK.out]; rfl
  · rw [HF.out]; exact Reads.empty

def GetPost (bs : List UInt8) (w : World) (e : Ending) (w' : World) : Prop :=
  ∃ A' c', e = .returned (.tuple #[.agg #[.int .i64 (getP bs).1.kind, .int .i64 (getP bs).1.ses, .int .i64 (getP bs).1.part, .int .i64 (getP bs).1.no, .int .i64 (getP bs).1.size, .int .i64 (getP bs).1.what, .int .i64 (getP bs).1.code, .int .i64 (getP bs).1.hav, .slice A' (getP bs).1.data.length c'], .int .i64 (getP bs).2]) ∧ Reads w' w'.heap.size 1 A' (getP bs).1.data.length ((getP bs).1.data.map bV) ∧ (getP bs).1.data.length ≤ 16 ∧ Below w.heap.size w w'
def BodyPost (b : List UInt8) (w : World) (e : Ending) (w' : World) : Prop :=
  ∃ A' c', e = .returned (.tuple #[.agg #[.int .i64 (bodyG b).1.kind, .int .i64 (bodyG b).1.ses, .int .i64 (bodyG b).1.part, .int .i64 (bodyG b).1.no, .int .i64 (bodyG b).1.size, .int .i64 (bodyG b).1.what, .int .i64 (bodyG b).1.code, .int .i64 (bodyG b).1.hav, .slice A' (bodyG b).1.data.length c'], .int .i64 (bodyG b).2]) ∧ Reads w' w'.heap.size 1 A' (bodyG b).1.data.length ((bodyG b).1.data.map bV) ∧ (bodyG b).1.data.length ≤ 16 ∧ Below w.heap.size w w' ∧ ∀ ad : Addr, A' = some ad → w.heap.size ≤ ad.block

theorem Get_short (A : Option Addr) (n c : Nat) (w : World) (hn : n < 5) :
    Calls Try.prog 33 #[.slice A n c] w fun e w' => e = .returned (.tuple #[zV, .int .i64 1]) ∧ Below w.heap.size w w' := by
  obtain ⟨w1, hw1, hb1, hr1⟩ : ∃ w1 : World, w.alloc (.cells #[.int .i64 0, .int .i64 0, .int .i64 0, .int .i64 0, .int .i64 0, .int .i64 0, .int .i64 0, .int .i64 0, .slice none 0 0] 24) = w1 ∧ Below w.heap.size w w1 ∧ Blk w1 w.heap.size 24 [.int .i64 0, .int .i64 0, .int .i64 0, .int .i64 0, .int .i64 0, .int .i64 0, .int .i64 0, .int .i64 0, .slice none 0 0] := ⟨_, rfl, (Below.refl _ _).alloc (Nat.le_refl _) _, Blk.new _ _ _⟩
  have HW := hid hw1
  clear hw1
  have q1 : decide ((n : Int) < 5) = true := decide_eq_true (by omega)
  go_enter Try.func33, Try.ntmps33
  go_wp2_with fail
  rw [HW.out]
  obtain ⟨r0, r1, r2, r3, r4, r5, r6, r7, r8⟩ : _ ∧ _ ∧ _ ∧ _ ∧ _ ∧ _ ∧ _ ∧ _ ∧ _ := ⟨hr1.cellAt (i := 0) rfl, hr1.cellAt (i := 1) rfl, hr1.cellAt (i := 2) rfl, hr1.cellAt (i := 3) rfl, hr1.cellAt (i := 4) rfl, hr1.cellAt (i := 5) rfl, hr1.cellAt (i := 6) rfl, hr1.cellAt (i := 7) rfl, hr1.cellAt (i := 8) rfl⟩
  refine bodyPost_ret (v := .tuple #[zV, .int .i64 1]) (by simp [results, Try.results33, go_sem, r0, r1, r2, r3, r4, r5, r6, r7, r8, zV]) rfl ?_
  exact ⟨rfl, hb1⟩
end Go.Proofs.Ythipfopmaegpdaa
