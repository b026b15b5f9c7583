/-
  May an image run? Plainly: channels as bits, the checks in their order.
-/
import Derived.Test.YthnifgcoikmihaaTabPlain
import Derived.Test.YthnifgcoikmihaaImgPlain
namespace Go.Proofs.Ythnifgcoikmihaa

/-- Bits, the least one first. -/
def maskL : List Bool → Nat
  | [] => 0
  | b :: l => b.toNat + 2 * maskL l
theorem maskL_snoc (b : Bool) : ∀ l : List Bool, maskL (l ++ [b]) = maskL l + b.toNat * 2 ^ l.length
  | [] => by simp [maskL]
  | x :: l => by
    simp only [List.cons_append, maskL, maskL_snoc b l, List.length_cons, Nat.pow_succ]
    rw [Nat.mul_add, ← Nat.mul_assoc, Nat.mul_comm 2 (b.toNat), Nat.mul_assoc, Nat.mul_comm 2 (2 ^ l.length), Nat.add_assoc]
theorem maskL_lt : ∀ l : List Bool, maskL l < 2 ^ l.length
  | [] => by simp [maskL]
  | x :: l => by
    have := maskL_lt l
    simp only [maskL, List.length_cons, Nat.pow_succ]
    have : x.toNat ≤ 1 := Bool.toNat_le x
    omega
theorem maskL_bit : ∀ (l : List Bool) (k : Nat), maskL l / 2 ^ k % 2 = (l.getD k false).toNat
  | [], k => by simp [maskL]
  | x :: l, 0 => by
    simp only [maskL, Nat.pow_zero, Nat.div_one, List.getD_cons_zero]
    have : x.toNat ≤ 1 := Bool.toNat_le x
    omega
  | x :: l, k + 1 => by
    simp only [maskL, List.getD_cons_succ, Nat.pow_succ]
    rw [← maskL_bit l k, Nat.mul_comm (2 ^ k) 2, ← Nat.div_div_eq_div_mul]
    have : x.toNat ≤ 1 := Bool.toNat_le x
    rw [show (x.toNat + 2 * maskL l) / 2 = maskL l by omega]
/-- The channels of which an end is a partition. -/
def endsB (f : ChanS → Int) (p : Int) (l : List ChanS) : List Bool := l.map fun c => f c == p
def maskC (f : ChanS → Int) (p : Int) (l : List ChanS) : Nat := maskL (endsB f p l)
theorem maskC_snoc (f : ChanS → Int) (p : Int) (l : List ChanS) (c : ChanS) : maskC f p (l ++ [c]) = maskC f p l + (f c == p).toNat * 2 ^ l.length := by
  unfold maskC endsB
  rw [List.map_append, List.map_singleton, maskL_snoc, List.length_map]
theorem maskC_lt (f : ChanS → Int) (p : Int) (l : List ChanS) : maskC f p l < 2 ^ l.length := by
  have := maskL_lt (endsB f p l)
  unfold maskC
  rwa [show (endsB f p l).length = l.length by simp [endsB]] at this
theorem maskC_lt16 (f : ChanS → Int) (p : Int) (l : List ChanS) (h : l.length ≤ 4) : maskC f p l < 16 := by
  have h1 := maskC_lt f p l
  have h2 : 2 ^ l.length ≤ 2 ^ 4 := Nat.pow_le_pow_right (by omega) h
  omega
/-- Which channels are there for a partition. -/
def chansB (f : ChanS → Int) (t : TabS) (p : Int) : Nat := if rightB t && hasB t p then maskC f p t.chans else 0
theorem chansB_lt (f : ChanS → Int) (t : TabS) (p : Int) : chansB f t p < 16 := by
  unfold chansB
  split
  · rename_i h
    rw [Bool.and_eq_true] at h
    exact maskC_lt16 f p _ ((rightB_iff t).1 h.1).c4
  · omega
/-- A set of numbers below sixteen, bit by bit. -/
def bitB (n k : Nat) : Bool := n / 2 ^ k % 2 == 1
theorem chansB_bit (f : ChanS → Int) (t : TabS) (p : Int) (k : Nat) (h : rightB t = true) (hp : hasB t p = true) : bitB (chansB f t p) k = (t.chans[k]?.map fun c => f c == p).getD false := by
  unfold chansB bitB maskC
  rw [h, hp]
  simp only [Bool.and_self, if_true]
  rw [maskL_bit, List.getD_eq_getElem?_getD]
  unfold endsB
  rw [List.getElem?_map]
  cases (t.chans[k]?.map fun c => f c == p).getD false <;> rfl
/-- No bit of a that b has not. -/
def subB (a b : Nat) : Bool := (!bitB a 0 || bitB b 0) && (!bitB a 1 || bitB b 1) && (!bitB a 2 || bitB b 2) && (!bitB a 3 || bitB b 3)
def mineB (t : TabS) (q : PartS) (p : Int) (i : ImgS) : Bool := (i.part == p) && (i.hard == q.hard)
def smallB (q : PartS) (i : ImgS) : Bool := decide (i.mem ≤ q.mem) && decide (i.fuel ≤ q.fuel)
def wiredB (t : TabS) (p : Int) (i : ImgS) : Bool := subB i.sends.toNat (chansB ChanS.src t p) && subB i.recvs.toNat (chansB ChanS.dst t p)
def partQ (t : TabS) (p : Int) : PartS := t.parts.getD p.toNat ⟨0, 0, 0⟩
/-- Why an image may not run; 0: it may. -/
def checkE (t : TabS) (p : Int) (i : ImgS) (v : Int) : Int :=
  if rightB t = false then 9 else if hasB t p = false ∨ rightI i = false then 3 else if mineB t (partQ t p) p i = false then 12
  else if smallB (partQ t p) i = false then 14 else if wiredB t p i = false then 15 else if decide (v < i.ver) = false then 13 else 0
end Go.Proofs.Ythnifgcoikmihaa
