/-
  From a row's reading of an argument to the words of this seat's walks; the row's last step.
-/
import Derived.Test.YtojffpfgmlegdaaBase
import Derived.ProofKit
import Derived.OpenShut
import Derived.ShutString
import Derived.ChangeOld
import Derived.Below
import Derived.Deep.Slices
namespace Go.Proofs.Ytojffpfgmlegdaa
open Go.ChangeShapes Go.WideShapes Go.ChangeAt Go.RowKit
open Go.ChangeMaps (open_string shut_string)

section
variable {H : Type} {enc : TypeId × Value → H} {P : Program} {W : World}
/-- A slice of integers, from its cell. -/
theorem trod_intsL {t e : TypeId} {k : IntKind} {v : Value} {x : DataW H × List MemPlace} {fuel : Nat} (ht : P.underlying t = some (.slice e)) (he : P.underlying e = some (.int k)) (hc : P.cellsOf e = 1)
    (hf : DataW.trod enc P W 0 (fun _ => true) true fuel t [v] = some x) :
    ∃ (A : Option Addr) (n c : Nat) (zs : List Int), v = .slice A n c ∧ Reads W W.heap.size 1 A n (zs.map (Value.int k)) ∧ n ≤ c ∧ c ≤ maxLen ∧ ∀ z ∈ zs, (Lit.int k z).wf = true := by
  rcases open_ints ht he hc hf with ⟨hcs, _⟩ | ⟨x, l, c, zs, hcs, _, hl, hm, hz, _, hcell, hwz⟩
  · simp at hcs
    subst hcs
    exact ⟨none, 0, 0, [], rfl, Reads.empty, Nat.le_refl _, by simp [maxLen], by simp⟩
  · simp at hcs
    subst hcs
    have hz' : zs.length = c := by simpa using hz
    refine ⟨some x, l, c, zs.take l, rfl, ⟨by simp; omega, fun hn => ⟨x, rfl, ?_, fun j u hu => ?_⟩⟩, hl, hm, fun z h => hwz z (List.mem_of_mem_take h)⟩
    · have h0 := hcell 0 (by omega)
      have := World.block_lt_of_cell? W _ h0
      rwa [block_add] at this
    · rw [List.getElem?_map, List.getElem?_take] at hu
      split at hu
      · rw [hcell j (by omega)]
        rw [← hu]
        simp [List.getD_eq_getElem?_getD, List.getElem?_eq_getElem (show j < zs.length by omega)]
      · simp at hu
/-- A slice of integers that came in. -/
theorem open_intsL {t e : TypeId} {k : IntKind} {v : Value} {d : DataW H} {ps : List MemPlace} {r : Reach} {b0 : Nat} (ht : P.underlying t = some (.slice e)) (he : P.underlying e = some (.int k)) (hc : P.cellsOf e = 1)
    (hval : Value.okWide P W r b0 t v) (h : DataW.Trod enc P W 0 (fun _ => true) true t v d ps) :
    ∃ (A : Option Addr) (n c : Nat) (zs : List Int), v = .slice A n c ∧ Reads W W.heap.size 1 A n (zs.map (Value.int k)) ∧ n ≤ c ∧ c ≤ maxLen ∧ ∀ z ∈ zs, (Lit.int k z).wf = true := by
  obtain ⟨a0, len0, cap0, rfl⟩ := okWide_slice ht hval
  obtain ⟨fuel, hf⟩ := h
  exact trod_intsL ht he hc hf
theorem bytes_of_ints (zs : List Int) (h : ∀ z ∈ zs, (Lit.int .u8 z).wf = true) : ∃ bs : List UInt8, zs.map (Value.int .u8) = bs.map bV := by
  refine ⟨zs.map fun z => UInt8.ofNat z.toNat, ?_⟩
  rw [List.map_map]
  apply List.map_congr_left
  intro z hz
  have := bounds_u8 (h z hz)
  simp only [Function.comp, bV, UInt8.toNat_ofNat']
  congr 1
  omega
/-- A slice of bytes that came in. -/
theorem open_bytes {t e : TypeId} {v : Value} {d : DataW H} {ps : List MemPlace} {r : Reach} {b0 : Nat} (ht : P.underlying t = some (.slice e)) (he : P.underlying e = some (.int .u8)) (hc : P.cellsOf e = 1)
    (hval : Value.okWide P W r b0 t v) (h : DataW.Trod enc P W 0 (fun _ => true) true t v d ps) :
    ∃ (A : Option Addr) (n c : Nat) (bs : List UInt8), v = .slice A n c ∧ Reads W W.heap.size 1 A n (bs.map bV) ∧ n ≤ c ∧ c ≤ maxLen := by
  obtain ⟨A, n, c, zs, hv, hr, hc, hm, hw⟩ := open_intsL ht he hc hval h
  obtain ⟨bs, hb⟩ := bytes_of_ints zs hw
  exact ⟨A, n, c, bs, hv, by rw [← hb]; exact hr, hc, hm⟩
theorem trod_bytes {t e : TypeId} {v : Value} {x : DataW H × List MemPlace} {fuel : Nat} (ht : P.underlying t = some (.slice e)) (he : P.underlying e = some (.int .u8)) (hc : P.cellsOf e = 1)
    (hf : DataW.trod enc P W 0 (fun _ => true) true fuel t [v] = some x) :
    ∃ (A : Option Addr) (n c : Nat) (bs : List UInt8), v = .slice A n c ∧ Reads W W.heap.size 1 A n (bs.map bV) ∧ n ≤ c ∧ c ≤ maxLen := by
  obtain ⟨A, n, c, zs, hv, hr, hc, hm, hw⟩ := trod_intsL ht he hc hf
  obtain ⟨bs, hb⟩ := bytes_of_ints zs hw
  exact ⟨A, n, c, bs, hv, by rw [← hb]; exact hr, hc, hm⟩
/-- A slice of slices of bytes that came in. -/
theorem open_bytes2 {t e b : TypeId} {v : Value} {d : DataW H} {ps : List MemPlace} {r : Reach} {b0 : Nat} (ht : P.underlying t = some (.slice e)) (he : P.underlying e = some (.slice b)) (hb : P.underlying b = some (.int .u8)) (hc : P.cellsOf e = 1) (hc2 : P.cellsOf b = 1)
    (hval : Value.okWide P W r b0 t v) (h : DataW.Trod enc P W 0 (fun _ => true) true t v d ps) :
    ∃ (A : Option Addr) (n c : Nat) (ls : List (List UInt8)), v = .slice A n c ∧ Reads2 W W.heap.size A n ls ∧ n ≤ c ∧ c ≤ maxLen := by
  obtain ⟨a0, len0, cap0, rfl⟩ := okWide_slice ht hval
  obtain ⟨fuel, hf⟩ := h
  rcases Deep.open_slice1 ht hc hf with ⟨hcs, _⟩ | ⟨a, len, cap, m, n, V, D, Pl, hcs, _, hl, hm, hmm, _, hcell⟩
  · simp [Value.cells] at hcs
    obtain ⟨rfl, rfl, rfl⟩ := hcs
    exact ⟨none, 0, 0, [], rfl, ⟨rfl, fun k l hk => by simp at hk⟩, Nat.le_refl _, by simp [maxLen]⟩
  · simp [Value.cells] at hcs
    obtain ⟨rfl, rfl, rfl⟩ := hcs
    have hm2 : m = cap0 := by simpa using hmm
    have hex : ∀ i : Nat, ∃ bs : List UInt8, i < len0 → ∃ (A' : Option Addr) (c' : Nat), V i = .slice A' bs.length c' ∧ Reads W W.heap.size 1 A' bs.length (bs.map bV) ∧ bs.length ≤ c' ∧ c' ≤ maxLen := by
      intro i
      by_cases hi : i < len0
      · obtain ⟨A', n', c', bs, hv, hr, h1, h2⟩ := trod_bytes he hb hc2 (hcell i (by omega)).2
        have hn : bs.length = n' := by simpa using hr.len
        subst hn
        exact ⟨bs, fun _ => ⟨A', c', hv, hr, h1, h2⟩⟩
      · exact ⟨[], fun h => absurd h hi⟩
    refine ⟨some a, len0, cap0, (List.range len0).map (fun i => (hex i).choose), rfl, ⟨by simp, fun k l hk => ?_⟩, hl, hm⟩
    have hklt : k < len0 := by
      have := (List.getElem?_eq_some_iff.1 hk).1
      simpa using this
    have hl2 : l = (hex k).choose := by
      rw [List.getElem?_map, List.getElem?_range hklt] at hk
      simpa using hk.symm
    obtain ⟨A', c', hv, hr, h1, h2⟩ := (hex k).choose_spec hklt
    have hck := (hcell k (by omega)).1
    rw [hv] at hck
    rw [hl2]
    refine ⟨a, A', c', rfl, ?_, hck, hr, h1, h2⟩
    have := World.block_lt_of_cell? W _ hck
    rwa [block_add] at this
end
end Go.Proofs.Ytojffpfgmlegdaa
