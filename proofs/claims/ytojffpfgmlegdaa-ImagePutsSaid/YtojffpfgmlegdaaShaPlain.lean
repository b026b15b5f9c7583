/-
  Digests of 256 bits, in plain words (as package sha makes them).
-/
namespace Go.Proofs.Ytojffpfgmlegdaa

structure Sh8 where
  a : BitVec 32
  b : BitVec 32
  c : BitVec 32
  d : BitVec 32
  e : BitVec 32
  f : BitVec 32
  g : BitVec 32
  h : BitVec 32
def Sh8.upper (v : Sh8) : BitVec 32 := (((v.a.rotateRight 9 ^^^ v.a).rotateRight 11 ^^^ v.a).rotateRight 2) + (((v.a ||| v.b) &&& v.c) ||| (v.a &&& v.b))
def Sh8.lower (v : Sh8) : BitVec 32 := v.h + (((v.e.rotateRight 14 ^^^ v.e).rotateRight 5 ^^^ v.e).rotateRight 6) + (((v.f ^^^ v.g) &&& v.e) ^^^ v.g)
def Sh8.round (v : Sh8) (w : BitVec 32) : Sh8 := ⟨v.lower + w + v.upper, v.a, v.b, v.c, v.d + (v.lower + w), v.e, v.f, v.g⟩
def Sh8.plus (v o : Sh8) : Sh8 := ⟨v.a + o.a, v.b + o.b, v.c + o.c, v.d + o.d, v.e + o.e, v.f + o.f, v.g + o.g, v.h + o.h⟩
def sh_spread (x : BitVec 32) (one two lost : Nat) : BitVec 32 := x.rotateRight one ^^^ x.rotateRight two ^^^ (x >>> lost)
def shaK : List (BitVec 32) := [
  0x428a2f98#32, 0x71374491#32, 0xb5c0fbcf#32, 0xe9b5dba5#32, 0x3956c25b#32, 0x59f111f1#32, 0x923f82a4#32, 0xab1c5ed5#32,
  0xd807aa98#32, 0x12835b01#32, 0x243185be#32, 0x550c7dc3#32, 0x72be5d74#32, 0x80deb1fe#32, 0x9bdc06a7#32, 0xc19bf174#32,
  0xe49b69c1#32, 0xefbe4786#32, 0x0fc19dc6#32, 0x240ca1cc#32, 0x2de92c6f#32, 0x4a7484aa#32, 0x5cb0a9dc#32, 0x76f988da#32,
  0x983e5152#32, 0xa831c66d#32, 0xb00327c8#32, 0xbf597fc7#32, 0xc6e00bf3#32, 0xd5a79147#32, 0x06ca6351#32, 0x14292967#32,
  0x27b70a85#32, 0x2e1b2138#32, 0x4d2c6dfc#32, 0x53380d13#32, 0x650a7354#32, 0x766a0abb#32, 0x81c2c92e#32, 0x92722c85#32,
  0xa2bfe8a1#32, 0xa81a664b#32, 0xc24b8b70#32, 0xc76c51a3#32, 0xd192e819#32, 0xd6990624#32, 0xf40e3585#32, 0x106aa070#32,
  0x19a4c116#32, 0x1e376c08#32, 0x2748774c#32, 0x34b0bcb5#32, 0x391c0cb3#32, 0x4ed8aa4a#32, 0x5b9cca4f#32, 0x682e6ff3#32,
  0x748f82ee#32, 0x78a5636f#32, 0x84c87814#32, 0x8cc70208#32, 0x90befffa#32, 0xa4506ceb#32, 0xbef9a3f7#32, 0xc67178f2#32]
/-- The word that sh_four bytes make. -/
def word4 (b : List UInt8) : BitVec 32 := b.foldl (fun w c => w * 256#32 + BitVec.ofNat 32 c.toNat) 0#32
/-- The words of a block, as many as are there so far, and the next one. -/
def nextW (p : List UInt8) (w : List (BitVec 32)) : BitVec 32 :=
  let i := w.length
  if i < 16 then word4 ((p.drop (4 * i)).take 4) else
    sh_spread (w.getD (i - 2) 0) 17 19 10 + sh_spread (w.getD (i - 15) 0) 7 18 3 + w.getD (i - 7) 0 + w.getD (i - 16) 0
def wordsN (p : List UInt8) : Nat → List (BitVec 32)
  | 0 => []
  | n + 1 => wordsN p n ++ [nextW p (wordsN p n)]
def roundsN (w : List (BitVec 32)) (v : Sh8) : Nat → Sh8
  | 0 => v
  | n + 1 => (roundsN w v n).round (shaK.getD n 0 + w.getD n 0)
def fullV (p : List UInt8) (v : Sh8) : Sh8 := v.plus (roundsN (wordsN p 64) v 64)
/-- A digest on its way: its words, the block, how many bytes were written. -/
structure ShS where
  v : Sh8
  part : List UInt8
  n : Nat
def shNew : ShS := ⟨⟨0x6a09e667#32, 0xbb67ae85#32, 0x3c6ef372#32, 0xa54ff53a#32, 0x510e527f#32, 0x9b05688c#32, 0x1f83d9ab#32, 0x5be0cd19#32⟩, List.replicate 64 0, 0⟩
def ShS.put (s : ShS) (c : UInt8) : ShS :=
  let p := s.part.set (s.n % 64) c
  if (s.n + 1) % 64 = 0 then ⟨fullV p s.v, p, s.n + 1⟩ else ⟨s.v, p, s.n + 1⟩
def ShS.write (s : ShS) (b : List UInt8) : ShS := b.foldl ShS.put s
/-- Zeros up to eight bytes ahead of a block's end. -/
def ShS.pad (s : ShS) : Nat → ShS
  | 0 => s
  | k + 1 => if s.n % 64 = 56 then s else (s.put 0).pad k
def long8 (n : Nat) : List UInt8 := (List.range 8).map fun j => UInt8.ofNat (n * 8 / 2 ^ (56 - 8 * j))
def out4 (x : BitVec 32) : List UInt8 := (List.range 4).map fun k => UInt8.ofNat (x.toNat / 2 ^ (24 - 8 * k))
def ShS.sum (s : ShS) : List UInt8 :=
  let x := ((s.put 0x80).pad 64).write (long8 s.n)
  out4 x.v.a ++ out4 x.v.b ++ out4 x.v.c ++ out4 x.v.d ++ out4 x.v.e ++ out4 x.v.f ++ out4 x.v.g ++ out4 x.v.h
def shaOf (b : List UInt8) : List UInt8 := (shNew.write b).sum

theorem sh_put_n (s : ShS) (c : UInt8) : (s.put c).n = s.n + 1 := by unfold ShS.put; simp only; split <;> rfl
theorem sh_put_len (s : ShS) (c : UInt8) : (s.put c).part.length = s.part.length := by unfold ShS.put; simp only; split <;> simp
theorem sh_write_append (s : ShS) (a b : List UInt8) : s.write (a ++ b) = (s.write a).write b := List.foldl_append
theorem sh_write_n : ∀ (b : List UInt8) (s : ShS), (s.write b).n = s.n + b.length
  | [], s => rfl
  | c :: b, s => by
    show ((s.put c).write b).n = _
    rw [sh_write_n b, sh_put_n]
    simp only [List.length_cons]
    omega
theorem sh_write_len : ∀ (b : List UInt8) (s : ShS), (s.write b).part.length = s.part.length
  | [], s => rfl
  | c :: b, s => by
    show ((s.put c).write b).part.length = _
    rw [sh_write_len b, sh_put_len]
theorem sha_abc : (shaOf [97, 98, 99]).take 4 = [0xba, 0x78, 0x16, 0xbf] := by decide +kernel
end Go.Proofs.Ytojffpfgmlegdaa
