/-
  The reader of package num: what each method does to it.
-/
import Derived.Test.YtojffpfgmlegdaaNum
import Derived.LaidEqlPtr
namespace Go.Proofs.Ytojffpfgmlegdaa
open Go.RowKit

/-- A reader's state: the bytes that are left, its error. -/
structure RS where
  b : List UInt8
  e : Int
def rBytes (s : RS) (n : Int) : List UInt8 × RS :=
  if s.e ≠ 0 ∨ n ≤ 0 then ([], s) else if (s.b.length : Int) < n then ([], ⟨s.b, 1⟩) else (s.b.take n.toNat, ⟨s.b.drop n.toNat, s.e⟩)
/-- Bytes as a number. -/
def numOf (l : List UInt8) : Nat := l.foldl (fun n c => n * 256 + c.toNat) 0
def rNum (s : RS) (w : Int) : Nat × RS := (numOf (rBytes s (wid w)).1, (rBytes s (wid w)).2)

/-- The reader in memory. -/
def Rdr (w : World) (g : Nat) (s : RS) : Prop := ∃ A n c, Blk w g 98 [.slice A n c, .int .i64 s.e] ∧ Reads w g 1 A n (s.b.map bV) ∧ n ≤ c ∧ c ≤ maxLen

section
variable {a b c w w' : World} {g : Nat} {s : RS}
theorem only_trans (h : a.grownBy b (some g)) (k : b.grownBy c (some g)) : a.grownBy c (some g) :=
  ⟨k.os.trans h.os, k.tape.trans h.tape, k.output.trans h.output, Nat.le_trans h.size k.size, fun i hi hn => (k.block i (Nat.lt_of_lt_of_le hi h.size) hn).trans (h.block i hi hn)⟩
theorem only_refl (w : World) (r : Option Nat) : w.grownBy w r := ⟨rfl, rfl, rfl, Nat.le_refl _, fun _ _ _ => rfl⟩
theorem only_below (h : Below a.heap.size a b) (r : Option Nat) : a.grownBy b r := ⟨h.os, h.tape, h.output, h.size, fun i hi _ => h.block i hi⟩
theorem only_set (w : World) (o : Nat) (u : Value) : w.grownBy (w.setCell ⟨g, o, none⟩ u) (some g) :=
  ⟨rfl, rfl, rfl, by simp [World.setCell], fun i _ hn => Below.heap_setCell w ⟨g, o, none⟩ u i (fun e => hn (by rw [e]))⟩
theorem Rdr.lt (h : Rdr w g s) : g < w.heap.size := by obtain ⟨_, _, _, h, _⟩ := h; exact h.lt
theorem Rdr.below (h : Rdr w g s) (hb : Below w.heap.size w w') : Rdr w' g s := by
  obtain ⟨A, n, c, h1, h2, h3, h4⟩ := h
  exact ⟨A, n, c, h1.belowS hb, h2.below (hb.mono (Nat.le_of_lt h1.lt)), h3, h4⟩
theorem Rdr.setE (h : Rdr w g s) (e : Int) : Rdr (w.setCell ⟨g, 1, none⟩ (.int .i64 e)) g ⟨s.b, e⟩ := by
  obtain ⟨A, n, c, h1, h2, h3, h4⟩ := h
  exact ⟨A, n, c, h1.set_ 1 _, h2.setCell (Nat.le_refl _) _, h3, h4⟩
theorem Rdr.cells (h : Rdr w g s) : ∃ A n c, w.cell? ⟨g, 0, none⟩ = some (.slice A n c) ∧ w.cell? ⟨g, 1, none⟩ = some (.int .i64 s.e) ∧ w.frozen? ⟨g, 0, none⟩ = false ∧ w.frozen? ⟨g, 1, none⟩ = false ∧
    Blk w g 98 [.slice A n c, .int .i64 s.e] ∧ Reads w g 1 A n (s.b.map bV) ∧ n ≤ c ∧ c ≤ maxLen ∧ s.b.length = n := by
  obtain ⟨A, n, c, h1, h2, h3, h4⟩ := h
  exact ⟨A, n, c, h1.cellAt rfl, h1.cellAt rfl, h1.frozen 0, h1.frozen 1, h1, h2, h3, h4, by simpa using h2.len⟩
end

theorem well_yes (g : Nat) (w : World) (hc : w.cell? ⟨g, 1, none⟩ = some (.int .i64 0)) :
    Calls Try.prog 72 #[.pointer (some ⟨g, 0, none⟩)] w fun e w' => e = .returned (.bool true) ∧ w = w' := by
  go_enter Try.func72, Try.ntmps72
  go_wp2_with fail
  go_ret
  exact ⟨rfl, rfl⟩
theorem well_no (g : Nat) (e : Int) (w : World) (hc : w.cell? ⟨g, 1, none⟩ = some (.int .i64 e)) (he : e ≠ 0) :
    Calls Try.prog 72 #[.pointer (some ⟨g, 0, none⟩)] w fun e w' => e = .returned (.bool false) ∧ w = w' := by
  have hb : ((e : Int) == 0) = false := by simp [he]
  clear he
  go_enter Try.func72, Try.ntmps72
  go_wp2_with fail
  go_ret
  exact ⟨rfl, rfl⟩
theorem well_nil (w : World) :
    Calls Try.prog 72 #[.pointer none] w fun e w' => e = .returned (.bool false) ∧ w = w' := by
  go_enter Try.func72, Try.ntmps72
  go_wp2_with fail
  go_ret
  exact ⟨rfl, rfl⟩
theorem fail_yes (g : Nat) (e0 : Int) (w : World) (hc : w.cell? ⟨g, 1, none⟩ = some (.int .i64 0)) (hf : w.frozen? ⟨g, 1, none⟩ = false) :
    Calls Try.prog 73 #[.pointer (some ⟨g, 0, none⟩), .int .i64 e0] w fun e w' => e = .returned (.tuple #[]) ∧ w.setCell ⟨g, 1, none⟩ (.int .i64 e0) = w' := by
  go_enter Try.func73, Try.ntmps73
  go_wp2_with fail
  refine (well_yes g w hc).mono ?_
  rintro e w' ⟨rfl, rfl⟩
  go_wp2_with fail
  go_end0
  exact ⟨rfl, rfl⟩
theorem fail_nil (e0 : Int) (w : World) :
    Calls Try.prog 73 #[.pointer none, .int .i64 e0] w fun e w' => e = .returned (.tuple #[]) ∧ w = w' := by
  go_enter Try.func73, Try.ntmps73
  go_wp2_with fail
  refine (well_nil w).mono ?_
  rintro e w' ⟨rfl, rfl⟩
  go_wp2_with fail
  go_end0
  exact ⟨rfl, rfl⟩

theorem bytes_nil (n : Int) (w : World) :
    Calls Try.prog 71 #[.pointer none, .int .i64 n] w fun e w' => e = .returned (.slice none 0 0) ∧ w = w' := by
  go_enter Try.func71, Try.ntmps71
  go_wp2_with fail
  refine (well_nil w).mono ?_
  rintro e w' ⟨rfl, rfl⟩
  go_wp2_with fail
  go_ret
  exact ⟨rfl, rfl⟩
theorem bytes_none (g : Nat) (e n : Int) (w : World) (hc : w.cell? ⟨g, 1, none⟩ = some (.int .i64 e)) (h : e ≠ 0 ∨ n ≤ 0) :
    Calls Try.prog 71 #[.pointer (some ⟨g, 0, none⟩), .int .i64 n] w fun e w' => e = .returned (.slice none 0 0) ∧ w = w' := by
  by_cases he : e = 0
  · have hn : n ≤ 0 := by rcases h with h | h; exact absurd he h; exact h
    clear h
    subst he
    go_enter Try.func71, Try.ntmps71
    go_wp2_with fail
    refine (well_yes g w hc).mono ?_
    rintro e w' ⟨rfl, rfl⟩
    go_wp2_with fail
    go_ret
    exact ⟨rfl, rfl⟩
  · clear h
    go_enter Try.func71, Try.ntmps71
    go_wp2_with fail
    refine (well_no g e w hc he).mono ?_
    rintro e w' ⟨rfl, rfl⟩
    go_wp2_with fail
    go_ret
    exact ⟨rfl, rfl⟩
theorem bytes_short (g : Nat) (A : Option Addr) (m c : Nat) (n : Int) (w : World) (h0 : w.cell? ⟨g, 0, none⟩ = some (.slice A m c)) (hc : w.cell? ⟨g, 1, none⟩ = some (.int .i64 0)) (hf : w.frozen? ⟨g, 1, none⟩ = false) (hn : (m : Int) < n) :
    Calls Try.prog 71 #[.pointer (some ⟨g, 0, none⟩), .int .i64 n] w fun e w' => e = .returned (.slice none 0 0) ∧ w.setCell ⟨g, 1, none⟩ (.int .i64 1) = w' := by
  go_enter Try.func71, Try.ntmps71
  go_wp2_with fail
  refine (well_yes g w hc).mono ?_
  rintro e w' ⟨rfl, rfl⟩
  go_wp2_with fail
  refine (fail_yes g 1 w hc hf).mono ?_
  rintro e w' ⟨rfl, rfl⟩
  go_wp2_with fail
  go_ret
  exact ⟨rfl, rfl⟩
/-- What reading n bytes leaves. -/
def BytesPost (w : World) (g : Nat) (bs : List UInt8) (n : Nat) (e : Ending) (w' : World) : Prop :=
  ∃ A' c', e = .returned (.slice A' n c') ∧ w'.ownsRow w.heap.size 5 1 (.slice A' n c') n ((bs.take n).map bV) ∧ Rdr w' g ⟨bs.drop n, 0⟩ ∧ w.grownBy w' (some g)
theorem bytes_close {w w1 : World} {g n m c1 C2 : Nat} {A1 X : Option Addr} {v : Value} {bs : List UInt8} (hblk : Blk w g 98 [v, .int .i64 0]) (hown : w1.ownsRow w.heap.size 5 1 (.slice A1 n c1) n ((bs.take n).map bV)) (hb : Below w.heap.size w w1)
    (hX : Reads w g 1 X (m - n) ((bs.drop n).map bV)) (h1 : m - n ≤ C2) (h2 : C2 ≤ maxLen) : BytesPost w g bs n (.returned (.slice A1 n c1)) (w1.setCell ⟨g, 0, none⟩ (.slice X (m - n) C2)) := by
  refine ⟨A1, c1, rfl, ownsRow_setCell_below hown hblk.lt _, ?_, only_trans (only_below hb _) (only_set w1 0 _)⟩
  exact ⟨X, m - n, C2, (hblk.belowS hb).set_ 0 _, (hX.below (hb.mono (Nat.le_of_lt hblk.lt))).setCell (Nat.le_refl _) _, h1, h2⟩
theorem bytes_yes (g : Nat) (bs : List UInt8) (n : Nat) (w : World) (h : Rdr w g ⟨bs, 0⟩) (hn : 0 < n) (hl : n ≤ bs.length) (hs : bs.length ≤ 100000000) :
    Calls Try.prog 71 #[.pointer (some ⟨g, 0, none⟩), .int .i64 (n : Int)] w (BytesPost w g bs n) := by
  obtain ⟨A, m, c, h0, h1, f0, f1, hblk, hr, hmc, hcm, hbl⟩ := h.cells
  simp only at h1 hblk hr hbl
  have hnm : n ≤ m := by omega
  have hm : m ≤ 100000000 := by omega
  have HBL := hid hbl
  clear hbl hl hs h
  have hcm' := hcm
  unfold maxLen at hcm
  have hfr := (hr.front hnm).more (Nat.le_of_lt hblk.lt)
  rw [Nat.mul_one, ← List.map_take] at hfr
  obtain ⟨ad, rfl, had, _⟩ := hr.form (show 0 < m by omega)
  have hcut := hr.cut hnm hmc
  rw [Nat.mul_one, ← List.map_drop] at hcut
  go_enter Try.func71, Try.ntmps71
  go_wp2_with fail
  refine (well_yes g w h1).mono ?_
  rintro e w' ⟨rfl, rfl⟩
  go_wp2_with fail
  refine (clone_any (some ad) n c _ w hfr (by omega)).mono ?_
  rintro e w1 ⟨A1, c1, rfl, hown, hb⟩
  have hblk1 := hblk.belowS hb
  have k0 := hblk1.cellAt (i := 0) rfl
  have k1 := hblk1.frozen 0
  go_wp2_with fail
  · have hc : c = n := by assumption
    go_ret
    rw [if_pos hc] at hcut
    exact bytes_close hblk hown hb hcut (by omega) (by simp [maxLen])
  · have hc : ¬ c = n := by assumption
    go_ret
    rw [if_neg hc] at hcut
    rw [Option.map_some] at hcut
    exact bytes_close hblk hown hb hcut (by omega) (by unfold maxLen; omega)

/-- Bytes, in one contract: nothing, or a failure, or the bytes. -/
def BPost (w : World) (g : Nat) (s : RS) (n : Int) (e : Ending) (w' : World) : Prop :=
  ∃ A' m c', e = .returned (.slice A' m c') ∧ w'.ownsRow w.heap.size 5 1 (.slice A' m c') m ((rBytes s n).1.map bV) ∧ Rdr w' g (rBytes s n).2 ∧ w.grownBy w' (some g) ∧ m ≤ s.b.length
theorem bytes_any (g : Nat) (s : RS) (n : Int) (w : World) (h : Rdr w g s) (hs : s.b.length ≤ 100000000) :
    Calls Try.prog 71 #[.pointer (some ⟨g, 0, none⟩), .int .i64 n] w (BPost w g s n) := by
  obtain ⟨A, m, c, h0, h1, f0, f1, hblk, hr, hmc, hcm, hbl⟩ := h.cells
  by_cases hno : s.e ≠ 0 ∨ n ≤ 0
  · refine (bytes_none g s.e n w h1 hno).mono ?_
    rintro e w' ⟨rfl, rfl⟩
    have e1 : rBytes s n = ([], s) := by unfold rBytes; rw [if_pos hno]
    exact ⟨none, 0, 0, rfl, by rw [e1]; exact World.ownsRow_nil _ _ _ _, by rw [e1]; exact h, only_refl _ _, Nat.zero_le _⟩
  · have he : s.e = 0 := Classical.byContradiction fun hc => hno (.inl hc)
    have hn : ¬ n ≤ 0 := fun hc => hno (.inr hc)
    rw [he] at h1
    by_cases hsh : (s.b.length : Int) < n
    · refine (bytes_short g A m c n w h0 h1 f1 (by omega)).mono ?_
      rintro e w' ⟨rfl, rfl⟩
      have e1 : rBytes s n = ([], ⟨s.b, 1⟩) := by unfold rBytes; rw [if_neg hno, if_pos hsh]
      exact ⟨none, 0, 0, rfl, by rw [e1]; exact World.ownsRow_nil _ _ _ _, by rw [e1]; exact h.setE 1, only_set w 1 _, Nat.zero_le _⟩
    · obtain ⟨k, rfl⟩ := Int.eq_ofNat_of_zero_le (show 0 ≤ n by omega)
      obtain ⟨bs, e0⟩ := s
      simp only at he hsh hs hbl
      subst he
      refine (bytes_yes g bs k w h (by omega) (by omega) hs).mono ?_
      rintro e w' ⟨A', c', rfl, h2, h3, h4⟩
      have e1 : rBytes ⟨bs, 0⟩ (k : Int) = (bs.take k, ⟨bs.drop k, 0⟩) := by unfold rBytes; rw [if_neg hno, if_neg hsh]; simp
      exact ⟨A', k, c', rfl, by rw [e1]; exact h2, by rw [e1]; exact h3, h4, by simp only; omega⟩

theorem numOf_snoc (l : List UInt8) (c : UInt8) : numOf (l ++ [c]) = numOf l * 256 + c.toNat := by unfold numOf; rw [List.foldl_append]; rfl
theorem numOf_lt (l : List UInt8) : numOf l < 256 ^ l.length := by
  have key : ∀ (k : Nat) (l : List UInt8), l.length = k → numOf l < 256 ^ k := by
    intro k
    induction k with
    | zero =>
      intro l hl
      rw [List.eq_nil_of_length_eq_zero hl]
      decide
    | succ k ih =>
      intro l hl
      have hne : l ≠ [] := by intro h; rw [h] at hl; simp at hl
      rw [← List.dropLast_concat_getLast hne, numOf_snoc]
      have h1 := ih l.dropLast (by simp; omega)
      have h2 := (l.getLast hne).toNat_lt
      rw [Nat.pow_succ]
      omega
  exact key _ l rfl
theorem or_byte (m : Nat) (c : UInt8) (hm : m < 1099511627776) : bits BinOp.or IntKind.i64 ((m : Int) * 256) (c.toNat : Int) = ((m * 256 + c.toNat : Nat) : Int) := by
  have hc := c.toNat_lt
  have e : m * 256 ||| c.toNat = m * 256 + c.toNat := by
    rw [show (256 : Nat) = 2 ^ 8 from rfl, ← Nat.shiftLeft_eq, ← Nat.shiftLeft_add_eq_or_of_lt (by omega)]
  have hx : m * 256 ||| c.toNat < 2 ^ 63 := by rw [e]; omega
  have hof : ∀ a : Nat, a < 9223372036854775808 → (BitVec.ofInt 64 (a : Int)).toNat = a := by
    intro a ha
    rw [BitVec.ofInt_natCast, BitVec.toNat_ofNat]; exact Nat.mod_eq_of_lt (by omega)
  rw [show (m : Int) * 256 = ((m * 256 : Nat) : Int) by omega]
  show IntKind.i64.wrap ((BitVec.ofInt 64 ((m * 256 : Nat) : Int) ||| BitVec.ofInt 64 (c.toNat : Int)).toNat : Int) = _
  rw [BitVec.toNat_or, hof _ (by omega), hof _ (by omega), e, IntKind.wrap_i64]
  omega

def NPost (w : World) (g : Nat) (s : RS) (ww : Int) (e : Ending) (w' : World) : Prop :=
  e = .returned (.int .i64 ((rNum s ww).1 : Int)) ∧ Rdr w' g (rNum s ww).2 ∧ w.grownBy w' (some g)
theorem rBytes_len (s : RS) (n : Int) (h : 0 ≤ n) : ((rBytes s n).1.length : Int) ≤ n := by
  unfold rBytes
  split
  · simpa using h
  · split
    · simpa using h
    · simp; omega
theorem num_any (g : Nat) (s : RS) (ww : Int) (w : World) (h : Rdr w g s) (hs : s.b.length ≤ 100000000) :
    Calls Try.prog 53 #[.pointer (some ⟨g, 0, none⟩), .int .i64 ww] w (NPost w g s ww) := by
  have hw := wid_bd ww
  have hlen := rBytes_len s (wid ww) (by omega)
  have hby := hid (bytes_any g s (wid ww) w h hs)
  have hheld := hid (held_any ww w)
  have HN : Hid (rNum s ww = (numOf (rBytes s (wid ww)).1, (rBytes s (wid ww)).2)) := rfl
  unfold BPost at hby
  generalize (rBytes s (wid ww)).1 = out at hby HN hlen
  generalize (rBytes s (wid ww)).2 = s' at hby HN
  generalize wid ww = W at hby hheld hw hlen
  go_enter Try.func53, Try.ntmps53
  go_wp2_with fail
  refine hheld.out.mono ?_
  rintro e w' ⟨rfl, rfl⟩
  go_wp2_with fail
  refine hby.out.mono ?_
  rintro e w1 ⟨A', m, c', rfl, hown, hrd, hg, hml⟩
  have hr := Reads.of_own hown
  have hol : out.length = m := by simpa using hr.len
  have HO := hid hol
  clear hby hheld hown
  have hm6 : m ≤ 6 := by omega
  clear hol
  go_wp2_with fail
  go_loop [6, 16] (fun v6 v16 => ∃ (k q : Nat), k ≤ m ∧ v16 = .int .i64 (k : Int) ∧ v6 = .int .i64 (q : Int) ∧ q < 281474976710656 ∧ Hid (q = numOf (out.take k))) (fun _ v16 => m - (intOf v16).toNat)
  case atStart => exact ⟨0, 0, by omega, rfl, rfl, by omega, by refine hid ?_; simp [numOf]⟩
  case round =>
    obtain ⟨k, q, hk, rfl, rfl, hq, HQ⟩ := hrel
    by_cases hkm : k < m
    · obtain ⟨ad, b, rfl, _, hb, hc⟩ := hr.atM hkm
      have hb2 := b.toNat_lt
      have HS : Hid (q * 256 + b.toNat = numOf (out.take (k + 1))) := by
        refine hid ?_
        rw [List.take_add_one, hb, HQ.out]
        exact (numOf_snoc _ _).symm
      have hq5 : q < 1099511627776 := by
        have h1 := numOf_lt (out.take k)
        rw [← HQ.out] at h1
        have h2 : 256 ^ (out.take k).length ≤ 256 ^ 5 := Nat.pow_le_pow_right (by omega) (by rw [List.length_take]; omega)
        have h3 : (256 : Nat) ^ 5 = 1099511627776 := by decide
        omega
      have hor := or_byte q b hq5
      clear hb hr
      go_wp2_with fail
      go_round
      case rel => exact ⟨k + 1, q * 256 + b.toNat, by omega, by go_num, by go_num, by omega, HS⟩
      case measure => simp [intOf]; omega
    · obtain rfl : k = m := by omega
      go_wp2_with fail
      go_ret
      refine ⟨?_, ?_, hg⟩
      · rw [HN.out, HQ.out, List.take_of_length_le (by have := HO.out; omega)]; rfl
      · rw [HN.out]; exact hrd

def rText (s : RS) (most : Int) : List UInt8 × RS :=
  if s.e ≠ 0 then ([], s) else
    let s1 := (rNum s 2).2
    let s2 := if s1.e = 0 ∧ most < ((rNum s 2).1 : Int) then ⟨s1.b, 4⟩ else s1
    let r := rBytes s2 ((rNum s 2).1 : Int)
    if r.2.e = 0 then r else (r.1, ⟨s.b, r.2.e⟩)
def TPost (w : World) (g : Nat) (s : RS) (most : Int) (e : Ending) (w' : World) : Prop :=
  ∃ A' m c', e = .returned (.slice A' m c') ∧ w'.ownsRow w.heap.size 5 1 (.slice A' m c') m ((rText s most).1.map bV) ∧ Rdr w' g (rText s most).2 ∧ w.grownBy w' (some g)

theorem Rdr.back {w w3 : World} {g n c : Nat} {A : Option Addr} {s s3 : RS} (h : Reads w g 1 A n (s.b.map bV)) (hg : g < w.heap.size) (hnc : n ≤ c) (hcm : c ≤ maxLen) (h3 : Rdr w3 g s3) (ho : w.grownBy w3 (some g)) :
    Rdr (w3.setCell ⟨g, 0, none⟩ (.slice A n c)) g ⟨s.b, s3.e⟩ := by
  obtain ⟨A3, n3, c3, k1, _, _, _⟩ := h3
  exact ⟨A, n, c, k1.set_ 0 _, (h.grown ho (Nat.le_of_lt hg) (by intro x hx; injection hx with hx; omega)).setCell (Nat.le_refl _) _, hnc, hcm⟩
theorem rBytes_rest (s : RS) (n : Int) : (rBytes s n).2.b.length ≤ s.b.length := by
  unfold rBytes
  split
  · exact Nat.le_refl _
  · split
    · exact Nat.le_refl _
    · simp
theorem rNum_rest (s : RS) (n : Int) : (rNum s n).2.b.length ≤ s.b.length := rBytes_rest s _

theorem text2_any (g : Nat) (s : RS) (most : Int) (w : World) (h : Rdr w g s) (hs : s.b.length ≤ 100000000) :
    Calls Try.prog 54 #[.pointer (some ⟨g, 0, none⟩), .int .i64 most] w (TPost w g s most) := by
  obtain ⟨A, n, c, h0, h1, f0, f1, hblk, hr, hnc, hcm, hbl⟩ := h.cells
  have hglt := hblk.lt
  by_cases he : s.e = 0
  · have hnum := hid (num_any g s 2 w h hs)
    have hrest := rNum_rest s 2
    have HT : Hid (rText s most = (let r := rBytes (if (rNum s 2).2.e = 0 ∧ most < ((rNum s 2).1 : Int) then ⟨(rNum s 2).2.b, 4⟩ else (rNum s 2).2) ((rNum s 2).1 : Int)
      if r.2.e = 0 then r else (r.1, ⟨s.b, r.2.e⟩))) := by
      refine hid ?_
      unfold rText
      rw [if_neg (by simp [he])]
    unfold NPost at hnum
    generalize (rNum s 2).1 = N at hnum HT
    generalize (rNum s 2).2 = s1 at hnum HT hrest
    have h1' := h1
    rw [he] at h1'
    clear h1
    go_enter Try.func54, Try.ntmps54
    go_wp2_with fail
    refine (well_yes g w h1').mono ?_
    rintro e w' ⟨rfl, rfl⟩
    go_wp2_with fail
    refine hnum.out.mono ?_
    rintro e w1 ⟨rfl, hrd1, ho1⟩
    obtain ⟨A1, n1, c1, k0, k1, q0, q1, hblk1, hr1, _, _, hbl1⟩ := hrd1.cells
    clear hnum h1' h0 f0 f1
    by_cases he1 : s1.e = 0
    · have k1' := k1
      rw [he1] at k1'
      clear k1
      by_cases hm : most < (N : Int)
      · have hd : decide (most < (N : Int)) = true := by simp [hm]
        go_wp2_with fail
        refine (well_yes g w1 k1').mono ?_
        rintro e w' ⟨rfl, rfl⟩
        go_wp2_with fail
        refine (fail_yes g 4 w1 k1' q1).mono ?_
        rintro e w2 ⟨rfl, rfl⟩
        have hrd2 := hrd1.setE 4
        have ho2 := only_trans ho1 (only_set w1 1 (.int .i64 4))
        clear hd
        go_wp2_with fail
        refine (bytes_any g ⟨s1.b, 4⟩ (N : Int) _ hrd2 (by simp only; omega)).mono ?_
        rintro e w3 ⟨A3, m3, c3, rfl, hown3, hrd3, ho3, hm3⟩
        have ho03 := only_trans ho2 ho3
        have hown3' := own_mono hown3 (show w.heap.size ≤ _ from ho2.size)
        rw [if_pos (show s1.e = 0 ∧ most < (N : Int) from ⟨he1, hm⟩)] at HT
        obtain ⟨r, hr0⟩ : ∃ r, r = rBytes ⟨s1.b, 4⟩ (N : Int) := ⟨_, rfl⟩
        rw [← hr0] at hown3' hrd3 HT
        obtain ⟨A4, n4, c4, k40, k41, q40, q41, hblk4, _, _, _, _⟩ := hrd3.cells
        clear hr0 hown3
        by_cases he3 : r.2.e = 0
        · have HT2 : Hid (rText s most = r) := by refine hid ?_; rw [HT.out]; rw [if_pos he3]
          rw [he3] at k41
          go_wp2_with fail
          refine (well_yes g _ k41).mono ?_
          rintro e w' ⟨rfl, rfl⟩
          go_wp2_with fail
          go_ret
          exact ⟨A3, m3, c3, rfl, by rw [HT2.out]; exact hown3', by rw [HT2.out]; exact hrd3, ho03⟩
        · have HT2 : Hid (rText s most = (r.1, ⟨s.b, r.2.e⟩)) := by refine hid ?_; rw [HT.out]; rw [if_neg he3]
          have hback := Rdr.back hr hglt hnc hcm hrd3 ho03
          go_wp2_with fail
          refine (well_no g _ _ k41 he3).mono ?_
          rintro e w' ⟨rfl, rfl⟩
          go_wp2_with fail
          go_ret
          exact ⟨A3, m3, c3, rfl, by rw [HT2.out]; exact ownsRow_setCell_below hown3' hglt _, by rw [HT2.out]; exact hback, only_trans ho03 (only_set w3 0 _)⟩
      · have hd : decide (most < (N : Int)) = false := by simp; omega
        go_wp2_with fail
        refine (well_yes g w1 k1').mono ?_
        rintro e w' ⟨rfl, rfl⟩
        go_wp2_with fail
        clear hd
        refine (bytes_any g s1 (N : Int) _ hrd1 (by omega)).mono ?_
        rintro e w3 ⟨A3, m3, c3, rfl, hown3, hrd3, ho3, hm3⟩
        have ho03 := only_trans ho1 ho3
        have hown3' := own_mono hown3 (show w.heap.size ≤ _ from ho1.size)
        rw [if_neg (show ¬ (s1.e = 0 ∧ most < (N : Int)) from fun hc => by have := hc.2; omega)] at HT
        obtain ⟨r, hr0⟩ : ∃ r, r = rBytes s1 (N : Int) := ⟨_, rfl⟩
        rw [← hr0] at hown3' hrd3 HT
        obtain ⟨A4, n4, c4, k40, k41, q40, q41, hblk4, _, _, _, _⟩ := hrd3.cells
        clear hr0 hown3
        by_cases he3 : r.2.e = 0
        · have HT2 : Hid (rText s most = r) := by refine hid ?_; rw [HT.out]; rw [if_pos he3]
          rw [he3] at k41
          go_wp2_with fail
          refine (well_yes g _ k41).mono ?_
          rintro e w' ⟨rfl, rfl⟩
          go_wp2_with fail
          go_ret
          exact ⟨A3, m3, c3, rfl, by rw [HT2.out]; exact hown3', by rw [HT2.out]; exact hrd3, ho03⟩
        · have HT2 : Hid (rText s most = (r.1, ⟨s.b, r.2.e⟩)) := by refine hid ?_; rw [HT.out]; rw [if_neg he3]
          have hback := Rdr.back hr hglt hnc hcm hrd3 ho03
          go_wp2_with fail
          refine (well_no g _ _ k41 he3).mono ?_
          rintro e w' ⟨rfl, rfl⟩
          go_wp2_with fail
          go_ret
          exact ⟨A3, m3, c3, rfl, by rw [HT2.out]; exact ownsRow_setCell_below hown3' hglt _, by rw [HT2.out]; exact hback, only_trans ho03 (only_set w3 0 _)⟩
    · go_wp2_with fail
      refine (well_no g _ w1 k1 he1).mono ?_
      rintro e w' ⟨rfl, rfl⟩
      go_wp2_with fail
      refine (bytes_any g s1 (N : Int) _ hrd1 (by omega)).mono ?_
      rintro e w3 ⟨A3, m3, c3, rfl, hown3, hrd3, ho3, hm3⟩
      have ho03 := only_trans ho1 ho3
      have hown3' := own_mono hown3 (show w.heap.size ≤ _ from ho1.size)
      rw [if_neg (show ¬ (s1.e = 0 ∧ most < (N : Int)) from fun hc => he1 hc.1)] at HT
      obtain ⟨r, hr0⟩ : ∃ r, r = rBytes s1 (N : Int) := ⟨_, rfl⟩
      rw [← hr0] at hown3' hrd3 HT
      obtain ⟨A4, n4, c4, k40, k41, q40, q41, hblk4, _, _, _, _⟩ := hrd3.cells
      clear hr0 hown3
      by_cases he3 : r.2.e = 0
      · have HT2 : Hid (rText s most = r) := by refine hid ?_; rw [HT.out]; rw [if_pos he3]
        rw [he3] at k41
        go_wp2_with fail
        refine (well_yes g _ k41).mono ?_
        rintro e w' ⟨rfl, rfl⟩
        go_wp2_with fail
        go_ret
        exact ⟨A3, m3, c3, rfl, by rw [HT2.out]; exact hown3', by rw [HT2.out]; exact hrd3, ho03⟩
      · have HT2 : Hid (rText s most = (r.1, ⟨s.b, r.2.e⟩)) := by refine hid ?_; rw [HT.out]; rw [if_neg he3]
        have hback := Rdr.back hr hglt hnc hcm hrd3 ho03
        go_wp2_with fail
        refine (well_no g _ _ k41 he3).mono ?_
        rintro e w' ⟨rfl, rfl⟩
        go_wp2_with fail
        go_ret
        exact ⟨A3, m3, c3, rfl, by rw [HT2.out]; exact ownsRow_setCell_below hown3' hglt _, by rw [HT2.out]; exact hback, only_trans ho03 (only_set w3 0 _)⟩
  · have HT : Hid (rText s most = ([], s)) := by refine hid ?_; unfold rText; rw [if_pos he]
    go_enter Try.func54, Try.ntmps54
    go_wp2_with fail
    refine (well_no g _ w h1 he).mono ?_
    rintro e w' ⟨rfl, rfl⟩
    go_wp2_with fail
    go_ret
    exact ⟨none, 0, 0, rfl, by rw [HT.out]; exact World.ownsRow_nil _ _ _ _, by rw [HT.out]; exact h, only_refl _ _⟩

theorem rNum_err (s : RS) (w : Int) (h : s.e ≠ 0) : rNum s w = (0, s) := by
  unfold rNum rBytes; rw [if_pos (.inl h)]; rfl
theorem rText_err (s : RS) (m : Int) (h : s.e ≠ 0) : rText s m = ([], s) := by unfold rText; rw [if_pos h]
theorem rText_rest (s : RS) (m : Int) : (rText s m).2.b.length ≤ s.b.length := by
  have hb := rNum_rest s 2
  unfold rText
  split
  · exact Nat.le_refl _
  · simp only
    generalize (rNum s 2).2 = s1 at hb
    generalize (rNum s 2).1 = N
    have h2 : (if s1.e = 0 ∧ m < (N : Int) then (⟨s1.b, 4⟩ : RS) else s1).b.length ≤ s.b.length := by split <;> exact hb
    generalize (if s1.e = 0 ∧ m < (N : Int) then (⟨s1.b, 4⟩ : RS) else s1) = s2 at h2
    have h3 := rBytes_rest s2 (N : Int)
    split
    · omega
    · exact Nat.le_refl _
def rEnd (s : RS) : Int := if s.e ≠ 0 then s.e else if s.b = [] then 0 else 2
theorem end_rd (g : Nat) (s : RS) (w : World) (h : Rdr w g s) (hs : s.b.length ≤ 100000000) :
    Calls Try.prog 55 #[.pointer (some ⟨g, 0, none⟩)] w fun e w' => e = .returned (.int .i64 (rEnd s)) ∧ w = w' := by
  obtain ⟨A, n, c, h0, h1, _, _, _, _, _, _, hl⟩ := h.cells
  by_cases he : s.e = 0
  · have h1' := h1
    rw [he] at h1'
    by_cases hn : s.b = []
    · have h2 : rEnd s = 0 := by unfold rEnd; rw [if_neg (by simp [he]), if_pos hn]
      have hn0 : n = 0 := by rw [← hl, hn]; rfl
      rw [h2]
      subst hn0
      clear h1 h2 hl he hn
      go_enter Try.func55, Try.ntmps55
      go_wp2_with fail
      go_ret
      exact ⟨rfl, rfl⟩
    · have h2 : rEnd s = 2 := by unfold rEnd; rw [if_neg (by simp [he]), if_neg hn]
      have hn0 : 0 < n := by rw [← hl]; exact List.length_pos_iff.2 hn
      rw [h2]
      clear h1 h2 hl he hn
      go_enter Try.func55, Try.ntmps55
      go_wp2_with fail
      go_ret
      exact ⟨rfl, rfl⟩
  · have h2 : rEnd s = s.e := by unfold rEnd; rw [if_pos he]
    rw [h2]
    have hb : (s.e == 0) = false := by simp [he]
    have hb2 : (s.e != 0) = true := by simp [he]
    clear h2 hl he
    go_enter Try.func55, Try.ntmps55
    go_wp2_with fail
    go_ret
    exact ⟨rfl, rfl⟩
theorem end_nil (w : World) :
    Calls Try.prog 55 #[.pointer none] w fun e w' => e = .returned (.int .i64 7) ∧ w = w' := by
  go_enter Try.func55, Try.ntmps55
  go_wp2_with fail
  go_ret
  exact ⟨rfl, rfl⟩
theorem text_rd_nil (n : Int) (w : World) :
    Calls Try.prog 54 #[.pointer none, .int .i64 n] w fun e w' => e = .returned (.slice none 0 0) ∧ w = w' := by
  go_enter Try.func54, Try.ntmps54
  go_wp2_with fail
  refine (well_nil w).mono ?_
  rintro e w' ⟨rfl, rfl⟩
  go_wp2_with fail
  go_ret
  exact ⟨rfl, rfl⟩
theorem num_rd_nil (n : Int) (w : World) :
    Calls Try.prog 53 #[.pointer none, .int .i64 n] w fun e w' => e = .returned (.int .i64 0) ∧ w = w' := by
  go_enter Try.func53, Try.ntmps53
  go_wp2_with fail
  refine (held_any n w).mono ?_
  rintro e w' ⟨rfl, rfl⟩
  go_wp2_with fail
  refine (bytes_nil _ w).mono ?_
  rintro e w' ⟨rfl, rfl⟩
  go_wp2_with fail
  refine wp_loop_rounds 1 ?_
  rw [rounds_succ]
  go_wp2_with fail
  go_ret
  exact ⟨rfl, rfl⟩
theorem read_any (A : Option Addr) (n c : Nat) (bs : List UInt8) (w : World) (h : Reads w w.heap.size 1 A n (bs.map bV)) (hn : n ≤ 100000000) :
    Calls Try.prog 52 #[.slice A n c] w fun e w' => ∃ g, e = .returned (.pointer (some ⟨g, 0, none⟩)) ∧ w.heap.size ≤ g ∧ Rdr w' g ⟨bs, 0⟩ ∧ Below w.heap.size w w' := by
  go_enter Try.func52, Try.ntmps52
  go_wp2_with fail
  refine (clone_any A n c bs w h (by omega)).mono ?_
  rintro e w1 ⟨A1, c1, rfl, hown, hb⟩
  go_wp2_with fail
  go_ret
  have hcap := own_cap hown
  exact ⟨w1.heap.size, rfl, hb.size, ⟨A1, n, c1, Blk.new w1 _ _, (Reads.of_own hown).alloc (Nat.le_refl _) _, hcap.1, hcap.2⟩, bel_alloc hb _⟩
end Go.Proofs.Ytojffpfgmlegdaa
