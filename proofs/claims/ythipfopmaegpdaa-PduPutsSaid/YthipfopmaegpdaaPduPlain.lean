/-
  Messages: their fields, widths and bytes, in plain words.
-/
import Derived.Test.YthipfopmaegpdaaBase
import Derived.Test.YthipfopmaegpdaaNumPlain
import Derived.Test.YthipfopmaegpdaaCrcPlain
namespace Go.Proofs.Ythipfopmaegpdaa
open Go.RowKit Go.ChangeShapes Go.WideShapes Go.ChangeAt

structure PduS where
  kind : Int
  ses : Int
  part : Int
  no : Int
  size : Int
  what : Int
  code : Int
  hav : Int
  data : List UInt8
def PduS.f (p : PduS) : Nat → Int
  | 0 => p.ses
  | 1 => p.part
  | 2 => p.no
  | 3 => p.size
  | 4 => p.what
  | 5 => p.code
  | _ => p.hav
def fieldsK (k : Int) : List Nat :=
  if k = 1 then [0, 1, 3] else if k = 2 then [0, 2] else if k = 3 then [0] else if k = 4 then [0] else if k = 5 then [0] else if k = 6 then [0, 4, 2] else if k = 7 then [0, 4, 2, 5] else if k = 8 then [0, 1, 3, 6] else []
theorem fieldsK_lt (k : Int) : ∀ f ∈ fieldsK k, f < 7 := by
  unfold fieldsK
  repeat' split
  all_goals simp
theorem fieldsK_len (k : Int) : (fieldsK k).length ≤ 4 := by
  unfold fieldsK
  repeat' split
  all_goals simp
def widS : Nat → Nat
  | 0 => 2
  | 1 => 1
  | 2 => 1
  | 3 => 2
  | 4 => 1
  | 5 => 1
  | _ => 2
def mostF : Nat → Int
  | 0 => 65535
  | 1 => 255
  | 2 => 255
  | 3 => 65535
  | 4 => 255
  | 5 => 255
  | _ => 65535
def mostAt (L : List Nat) (f : Nat) : Int := if f ∈ L then mostF f else 0
def mostC (L : List Nat) : List Value := (List.range 7).map fun f => .int .i64 (mostAt L f)
theorem mostC_len (L : List Nat) : (mostC L).length = 7 := by simp [mostC]
theorem mostC_get (L : List Nat) (f : Nat) (h : f < 7) : (mostC L)[f]? = some (.int .i64 (mostAt L f)) := by simp [mostC, h]
theorem mostC_set (L : List Nat) (f : Nat) (h : f < 7) : (mostC L).set f (.int .i64 (mostF f)) = mostC (L ++ [f]) := by
  apply List.ext_getElem?
  intro i
  by_cases hi : i < 7
  · rw [List.getElem?_set, mostC_len, mostC_get _ _ hi, mostC_get _ _ hi]
    by_cases e : f = i
    · subst e
      simp [h, mostAt]
    · have : i ≠ f := fun q => e q.symm
      simp [e, mostAt, this]
  · rw [List.getElem?_eq_none (by rw [List.length_set, mostC_len]; omega), List.getElem?_eq_none (by rw [mostC_len]; omega)]
/-- Is the field f right? -/
def okF (p : PduS) (f : Nat) : Bool := decide (0 ≤ p.f f) && decide (p.f f ≤ mostAt (fieldsK p.kind) f)
def rightP (p : PduS) : Bool := ((List.range 7).all (okF p)) && if p.kind = 2 then decide (p.data.length = 16) else (decide (0 < (fieldsK p.kind).length) && decide (p.data.length = 0))
/-- The bytes of a message's head, of the fields given, and all of them. -/
def fldB (p : PduS) (L : List Nat) : List UInt8 := L.flatMap fun f => putB (p.f f) (widS f)
theorem fldB_snoc (p : PduS) (L : List Nat) (f : Nat) : fldB p (L ++ [f]) = fldB p L ++ putB (p.f f) (widS f) := by simp [fldB]
def bodyP (p : PduS) : List UInt8 := putB p.kind 1 ++ fldB p (fieldsK p.kind) ++ p.data
def sumB (b : List UInt8) : List UInt8 := putB ((crcOf b).toNat : Int) 4
def pduB (p : PduS) : List UInt8 := bodyP p ++ sumB (bodyP p)
theorem fldB_len (p : PduS) (L : List Nat) : (fldB p L).length = (L.map widS).sum := by
  induction L with
  | nil => rfl
  | cons f L ih => simp only [fldB, List.flatMap_cons, List.length_append, List.map_cons, List.sum_cons, putB_length] at *; omega
theorem widS_bd (f : Nat) : 1 ≤ widS f ∧ widS f ≤ 2 := by
  unfold widS
  split <;> omega
theorem fldB_take (p : PduS) (L : List Nat) (hL : L.length ≤ 4) : (fldB p L).length ≤ 8 := by
  rw [fldB_len]
  have : ∀ l : List Nat, (l.map widS).sum ≤ 2 * l.length := by
    intro l
    induction l with
    | nil => simp
    | cons f l ih => simp only [List.map_cons, List.sum_cons, List.length_cons]; have := widS_bd f; omega
  have := this L
  omega
theorem rightP_data {p : PduS} (h : rightP p = true) : p.data.length ≤ 16 := by
  simp only [rightP, Bool.and_eq_true] at h
  have h2 := h.2
  split at h2
  · have := of_decide_eq_true h2; omega
  · simp only [Bool.and_eq_true] at h2
    have := of_decide_eq_true h2.2
    omega
end Go.Proofs.Ythipfopmaegpdaa
