/-
  Machines in plain words: an instruction, what it does, a tick.
-/
import Derived.Test.YtidlahljhgglcaaGreatPortTwoS
import Derived.Test.YtidlahljhgglcaaGreatImgPlain
namespace Go.Proofs.YtidlahljhgglcaaGreat

/-- A number modulo 65536. -/
def w65 (n : Int) : Int := n % 65536
theorem w65_lo (n : Int) : 0 ≤ w65 n := Int.emod_nonneg _ (by decide)
theorem w65_hi (n : Int) : w65 n ≤ 65535 := by have := Int.emod_lt_of_pos n (show (0 : Int) < 65536 by decide); unfold w65; omega
/-- Where a program is. -/
structure VmS where
  pc : Int
  stack : List Int
  mem : List Int
  ticks : Int
  fault : Int
/-- What a tick works on: the stack, the memory, where the next instruction is, what was sent, whether it confirmed, the channels. -/
structure VmD where
  stack : List Int
  mem : List Int
  next : Int
  sent : List (Int × Int)
  conf : Bool
  ss : Nat → WayS
def hasArg (o : Nat) : Bool := o == 1 || o == 10 || o == 11 || o == 12 || o == 13 || o == 14 || o == 15
/-- The instruction at a place: what it is, its argument, where the next one is. -/
def atF (code : List UInt8) (pc : Int) : Option (Nat × Int × Int) :=
  if pc < 0 then none else
  match code[pc.toNat]? with
  | none => none
  | some b => if 18 < b.toNat then none else
    if hasArg b.toNat = false then some (b.toNat, 0, pc + 1) else
    match code[pc.toNat + 1]? with
    | none => none
    | some c => some (b.toNat, (c.toNat : Int), pc + 2)
def fitsE (n take lay : Nat) : Int := if n < take then 5 else if 8 < n - take + lay then 14 else 0
def swapV (s : List Int) (take : Nat) (lay : List Int) : List Int := s.take (s.length - take) ++ lay.map w65
def topV (s : List Int) (k : Nat) : Int := s.getD (s.length - 1 - k) 0
/-- So many off the stack, others on it. -/
def onF (take : Nat) (lay : List Int) (d : VmD) : Int × VmD :=
  if fitsE d.stack.length take lay.length = 0 then (0, { d with stack := swapV d.stack take lay }) else (fitsE d.stack.length take lay.length, d)
def twoF (f : Int → Int → Int) (d : VmD) : Int × VmD := onF 2 [f (topV d.stack 1) (topV d.stack 0)] d
def oneI (b : Bool) : Int := if b then 1 else 0
def bitI (n k : Int) : Bool := decide (n / 2 ^ k.toNat % 2 = 1)
/-- What an instruction does. -/
def deedF (i : ImgS) (cs : List ChanS) (ticks : Int) (o : Nat) (a : Int) (d : VmD) : Int × VmD :=
  match o with
  | 0 => (0, d)
  | 1 => onF 0 [a] d
  | 2 => onF 1 [] d
  | 3 => if fitsE d.stack.length 1 2 = 0 then (0, { d with stack := swapV d.stack 0 [topV d.stack 0] }) else (fitsE d.stack.length 1 2, d)
  | 4 => onF 2 [topV d.stack 0, topV d.stack 1] d
  | 5 => twoF (fun x y => x + y) d
  | 6 => twoF (fun x y => x - y) d
  | 7 => twoF (fun x y => x * y) d
  | 8 => twoF (fun x y => oneI (decide (x < y))) d
  | 9 => twoF (fun x y => oneI (decide (x = y))) d
  | 10 => if (d.mem.length : Int) ≤ a then (3, d) else onF 0 [d.mem.getD a.toNat 0] d
  | 11 => if (d.mem.length : Int) ≤ a then (3, d) else
      if fitsE d.stack.length 1 0 = 0 then (0, { d with stack := swapV d.stack 1 [], mem := d.mem.set a.toNat (topV d.stack 0) }) else (fitsE d.stack.length 1 0, d)
  | 12 => if (i.code.length : Int) ≤ a then (3, d) else (0, { d with next := a })
  | 13 => if (i.code.length : Int) ≤ a then (3, d) else
      if fitsE d.stack.length 1 0 = 0 then (0, { d with stack := swapV d.stack 1 [], next := if topV d.stack 0 = 0 then a else d.next }) else (fitsE d.stack.length 1 0, d)
  | 14 => if bitI i.sends a = false then (15, d) else
      if fitsE d.stack.length 1 0 = 0 then
        (if (sendP cs d.ss i.part a (topV d.stack 0)).2.1 = 0 then (0, { d with stack := swapV d.stack 1 [], sent := d.sent ++ [(a, topV d.stack 0)], ss := (sendP cs d.ss i.part a (topV d.stack 0)).2.2 }) else (15, d))
      else (fitsE d.stack.length 1 0, d)
  | 15 => if bitI i.recvs a = false then (15, d) else
      if fitsE d.stack.length 0 2 = 0 then
        (if (getP cs d.ss i.part a).2.2.1 = 0 then (0, { d with stack := swapV d.stack 0 (if (getP cs d.ss i.part a).2.1 then [(getP cs d.ss i.part a).1, 1] else [0]), ss := (getP cs d.ss i.part a).2.2.2 }) else (15, d))
      else (fitsE d.stack.length 0 2, d)
  | 16 => (0, { d with conf := true })
  | 17 => (16, d)
  | _ => onF 0 [ticks] d
/-- So many instructions: where it is, how it failed, what came of it. -/
def runF (i : ImgS) (cs : List ChanS) (ticks : Int) : Nat → Int → VmD → Int × Int × VmD
  | 0, pc, d => (pc, 0, d)
  | n + 1, pc, d =>
    match atF i.code pc with
    | none => (pc, 19, d)
    | some (o, a, nx) =>
      if (deedF i cs ticks o a { d with next := nx }).1 = 0 then
        (if o = 0 then ((deedF i cs ticks o a { d with next := nx }).2.next, 0, (deedF i cs ticks o a { d with next := nx }).2)
         else runF i cs ticks n (deedF i cs ticks o a { d with next := nx }).2.next (deedF i cs ticks o a { d with next := nx }).2)
      else (pc, (deedF i cs ticks o a { d with next := nx }).1, (deedF i cs ticks o a { d with next := nx }).2)
def startD (s : VmS) (ss : Nat → WayS) : VmD := ⟨s.stack, s.mem, 0, [], false, ss⟩
/-- A tick. -/
def tickF (i : ImgS) (cs : List ChanS) (s : VmS) (ss : Nat → WayS) : VmS × (Nat → WayS) × List (Int × Int) × Bool :=
  if s.fault ≠ 0 then (s, ss, [], false) else
  let r := runF i cs s.ticks i.fuel.toNat s.pc (startD s ss)
  (⟨r.1, r.2.2.stack, r.2.2.mem, s.ticks + 1, r.2.1⟩, r.2.2.ss, r.2.2.sent, r.2.2.conf)
/-- What all machines keep. -/
structure Fine (i : ImgS) (d : VmD) : Prop where
  len : d.stack.length ≤ 8
  st : ∀ x ∈ d.stack, 0 ≤ x ∧ x ≤ 65535
  mlen : (d.mem.length : Int) = i.mem
  me : ∀ x ∈ d.mem, 0 ≤ x ∧ x ≤ 65535
end Go.Proofs.YtidlahljhgglcaaGreat
