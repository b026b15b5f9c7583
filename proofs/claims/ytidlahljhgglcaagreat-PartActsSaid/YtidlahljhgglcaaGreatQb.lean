/-
  port.Drain: all channels to a partition emptied.
  Package longeronlaw16: the example, wakes, long.
  From a row's reading of an argument to the words of this seat's walks; the row's last step.
  From a row's reading of a frame table (and of slices of small structs) to the words of the walks.
  The reference's rule for windows, plainly: positions used, and the last start.
-/
import Derived.Test.YtidlahljhgglcaaGreatPortNewOk
import Derived.Handy
import Derived.Test.YtidlahljhgglcaaGreatQa
import Derived.ProofKit
import Derived.OpenShut
import Derived.ShutString
import Derived.ChangeOld
import Derived.Below
import Derived.Deep.Slices
import Derived.Deep.Fields
import Derived.ChangeSame
import Derived.Lib.SmallJoins
namespace Go.Proofs.YtidlahljhgglcaaGreat
open Go.RowKit Go.ChangeShapes Go.WideShapes Go.ChangeAt

def emptyS : WayS → WayS
  | .last _ _ => .last 0 false
  | .row _ d => .row [] d
/-- The first k channels seen. -/
def drainS (cs : List ChanS) (p : Int) (k : Nat) (ss : Nat → WayS) (j : Nat) : WayS := if j < k ∧ (cs.getD j ⟨0, 0, 0⟩).dst = p then emptyS (ss j) else ss j
theorem drainS_zero (cs : List ChanS) (p : Int) (ss : Nat → WayS) : drainS cs p 0 ss = ss := by funext j; simp [drainS]
theorem drainS_yes (cs : List ChanS) (p : Int) (k : Nat) (ss : Nat → WayS) (h : (cs.getD k ⟨0, 0, 0⟩).dst = p) : setS (drainS cs p k ss) k (emptyS (drainS cs p k ss k)) = drainS cs p (k + 1) ss := by
  funext j
  by_cases hjk : j = k
  · subst hjk
    rw [setS_same]
    simp only [drainS, Nat.lt_irrefl, false_and, if_false, Nat.lt_succ_self, true_and, h, if_true]
  · rw [setS_other _ _ _ _ hjk]
    unfold drainS
    have : (j < k) = (j < k + 1) := by apply propext; omega
    simp only [this]
theorem drainS_no (cs : List ChanS) (p : Int) (k : Nat) (ss : Nat → WayS) (h : (cs.getD k ⟨0, 0, 0⟩).dst ≠ p) : drainS cs p k ss = drainS cs p (k + 1) ss := by
  funext j
  unfold drainS
  by_cases hjk : j = k
  · subst hjk
    rw [if_neg (fun e => absurd e.1 (Nat.lt_irrefl _)), if_neg (fun e => h e.2)]
  · have : (j < k) = (j < k + 1) := by apply propext; omega
    simp only [this]
theorem SetIn.at_ {w : World} {g : Nat} {cs : List ChanS} {adE : Option Addr} {cE : Nat} {adW : Option Addr} {cW : Nat} {ps : Nat → WayP} {ss : Nat → WayS} (h : SetIn w g cs adE cE adW cW ps ss) : SetAt w (SetF cs.length g adE adW ps) g cs ss := ⟨adE, cE, adW, cW, ps, h, fun _ => Iff.rfl⟩
end Go.Proofs.YtidlahljhgglcaaGreat
namespace Go.Proofs.YtidlahljhgglcaaGreat
open Go.RowKit Go.ChangeShapes Go.WideShapes Go.ChangeAt

theorem rds_two {α : Type} {w : World} {g : Nat} {T : TypeId} {cells : α → List Value} {x y : α} (h : Blk w g T (cells x ++ cells y)) (hx : (cells x).length = 3) : RdS w w.heap.size 3 (some ⟨g, 0, none⟩) 2 cells [x, y] := by
  refine ⟨rfl, fun k z hk => ⟨_, rfl, h.lt, fun j u hu => ?_⟩⟩
  rw [add_none]
  have : k = 0 ∨ k = 1 := by have := (List.getElem?_eq_some_iff.1 hk).1; simp at this; omega
  rcases this with rfl | rfl
  · simp at hk
    subst hk
    refine h.cellAt ?_
    rw [List.getElem?_append_left (by have := (List.getElem?_eq_some_iff.1 hu).1; omega)]
    simpa using hu
  · simp at hk
    subst hk
    refine h.cellAt ?_
    rw [List.getElem?_append_right (by omega), hx, ← hu]
    congr 1
    omega
theorem rds_one {α : Type} {w : World} {g : Nat} {T : TypeId} {cells : α → List Value} {x : α} (h : Blk w g T (cells x)) : RdS w w.heap.size 3 (some ⟨g, 0, none⟩) 1 cells [x] := by
  refine ⟨rfl, fun k z hk => ⟨_, rfl, h.lt, fun j u hu => ?_⟩⟩
  rw [add_none]
  have : k = 0 := by have := (List.getElem?_eq_some_iff.1 hk).1; simp at this; omega
  subst this
  simp at hk
  subst hk
  exact h.cellAt (by simpa using hu)
theorem Blk.newAt (w : World) (T : TypeId) (l : List Value) (n : Nat) (h : w.heap.size = n) : Blk (w.alloc (.cells l.toArray T)) n T l := by
  subst h
  exact Blk.new w T l
def exC : List ChanS := [⟨0, 1, 2⟩]
def exP : TabS := ⟨4, [⟨1, 1, 0⟩, ⟨1, 1, 0⟩], [⟨0, 0, 1⟩], exC, 1⟩
def stP (l : List Int) : Nat → WayS := setS (zeroW exC) 0 (.row l 2)
theorem stP_nil : zeroW exC = stP [] := by
  unfold stP
  rw [show WayS.row [] 2 = zeroW exC 0 from rfl, setS_self]
theorem wSend_ok {w : World} {F : Nat → Prop} {g : Nat} {l : List Int} (h : SetAt w F g exC (stP l)) (hl : l.length < 2) (v : Int) (hv0 : 0 ≤ v) (hv1 : v ≤ 65535) :
    Calls Tryz.prog 17 #[.pointer (some ⟨g, 0, none⟩), .int .i64 0, .int .i64 0, .int .i64 v] w (SPost F w g exC (.returned (.tuple #[.bool true, .int .i64 0])) (stP (l ++ [v]))) := by
  have h1 := send_at h (k := 0) (x := ⟨0, 1, 2⟩) rfl (by unfold stP; rw [setS_same]; show l.length ≤ 100000; omega) v hv0 hv1
  have e1 : sendB (stP l 0) = true := by unfold stP; rw [setS_same]; simp [sendB]; omega
  have e2 : setS (stP l) 0 (sendS v (stP l 0)) = stP (l ++ [v]) := by
    unfold stP
    rw [setS_same, setS_setS]
    congr 1
    exact if_neg (by omega)
  rw [e1, e2] at h1
  exact h1
theorem wSend_full {w : World} {F : Nat → Prop} {g : Nat} {l : List Int} (h : SetAt w F g exC (stP l)) (hl : l.length = 2) (v : Int) (hv0 : 0 ≤ v) (hv1 : v ≤ 65535) :
    Calls Tryz.prog 17 #[.pointer (some ⟨g, 0, none⟩), .int .i64 0, .int .i64 0, .int .i64 v] w (SPost F w g exC (.returned (.tuple #[.bool false, .int .i64 0])) (stP l)) := by
  have h1 := send_at h (k := 0) (x := ⟨0, 1, 2⟩) rfl (by unfold stP; rw [setS_same]; show l.length ≤ 100000; omega) v hv0 hv1
  have e1 : sendB (stP l 0) = false := by unfold stP; rw [setS_same]; simp [sendB]; omega
  have e2 : setS (stP l) 0 (sendS v (stP l 0)) = stP l := by
    unfold stP
    rw [setS_same, setS_setS]
    congr 1
    exact if_pos hl
  rw [e1, e2] at h1
  exact h1
theorem wGet_yes {w : World} {F : Nat → Prop} {g : Nat} {x : Int} {l : List Int} (h : SetAt w F g exC (stP (x :: l))) :
    Calls Tryz.prog 115 #[.pointer (some ⟨g, 0, none⟩), .int .i64 1, .int .i64 0] w (SPost F w g exC (.returned (.tuple #[.int .i64 x, .bool true, .int .i64 0])) (stP l)) := by
  have h1 := get_at h (k := 0) (x := ⟨0, 1, 2⟩) rfl
  have e0 : stP (x :: l) 0 = .row (x :: l) 2 := setS_same _ _ _
  have e2 : setS (stP (x :: l)) 0 (getS (stP (x :: l) 0)) = stP l := by
    rw [e0]
    unfold stP
    rw [setS_setS]
    rfl
  rw [e2, e0] at h1
  exact h1
theorem wGet_no {w : World} {F : Nat → Prop} {g : Nat} (h : SetAt w F g exC (stP [])) :
    Calls Tryz.prog 115 #[.pointer (some ⟨g, 0, none⟩), .int .i64 1, .int .i64 0] w (SPost F w g exC (.returned (.tuple #[.int .i64 0, .bool false, .int .i64 0])) (stP [])) := by
  have h1 := get_at h (k := 0) (x := ⟨0, 1, 2⟩) rfl
  have e0 : stP [] 0 = .row [] 2 := setS_same _ _ _
  have e2 : setS (stP []) 0 (getS (stP [] 0)) = stP [] := by
    rw [e0]
    unfold stP
    rw [setS_setS]
    rfl
  rw [e2, e0] at h1
  exact h1
theorem exR : rightB exP = true := by decide
def longB (t : TabS) : Bool := decide (20 < t.parts.length) || decide (40 < t.wins.length) || decide (20 < t.chans.length)
end Go.Proofs.YtidlahljhgglcaaGreat
namespace Go.Proofs.YtidlahljhgglcaaGreat
open Go.ChangeShapes Go.WideShapes Go.ChangeAt Go.RowKit
open Go.ChangeMaps (open_string shut_string)

section
variable {H : Type} {enc : TypeId × Value → H} {P : Program} {W : World}
/-- A slice of integers, from its cell. -/
theorem trod_intsL {t e : TypeId} {k : IntKind} {v : Value} {x : DataW H × List MemPlace} {fuel : Nat} (ht : P.underlying t = some (.slice e)) (he : P.underlying e = some (.int k)) (hc : P.cellsOf e = 1)
    (hf : DataW.trod enc P W 0 (fun _ => true) true fuel t [v] = some x) :
    ∃ (A : Option Addr) (n c : Nat) (zs : List Int), v = .slice A n c ∧ Reads W W.heap.size 1 A n (zs.map (Value.int k)) ∧ n ≤ c ∧ c ≤ maxLen ∧ ∀ z ∈ zs, (Lit.int k z).wf = true := by
  rcases open_ints ht he hc hf with ⟨hcs, _⟩ | ⟨x, l, c, zs, hcs, _, hl, hm, hz, _, hcell, hwz⟩
  · simp at hcs
    subst hcs
    exact ⟨none, 0, 0, [], rfl, Reads.empty, Nat.le_refl _, by simp [maxLen], by simp⟩
  · simp at hcs
    subst hcs
    have hz' : zs.length = c := by simpa using hz
    refine ⟨some x, l, c, zs.take l, rfl, ⟨by simp; omega, fun hn => ⟨x, rfl, ?_, fun j u hu => ?_⟩⟩, hl, hm, fun z h => hwz z (List.mem_of_mem_take h)⟩
    · have h0 := hcell 0 (by omega)
      have := World.block_lt_of_cell? W _ h0
      rwa [block_add] at this
    · rw [List.getElem?_map, List.getElem?_take] at hu
      split at hu
      · rw [hcell j (by omega)]
        rw [← hu]
        simp [List.getD_eq_getElem?_getD, List.getElem?_eq_getElem (show j < zs.length by omega)]
      · simp at hu
/-- A slice of integers that came in. -/
theorem open_intsL {t e : TypeId} {k : IntKind} {v : Value} {d : DataW H} {ps : List MemPlace} {r : Reach} {b0 : Nat} (ht : P.underlying t = some (.slice e)) (he : P.underlying e = some (.int k)) (hc : P.cellsOf e = 1)
    (hval : Value.okWide P W r b0 t v) (h : DataW.Trod enc P W 0 (fun _ => true) true t v d ps) :
    ∃ (A : Option Addr) (n c : Nat) (zs : List Int), v = .slice A n c ∧ Reads W W.heap.size 1 A n (zs.map (Value.int k)) ∧ n ≤ c ∧ c ≤ maxLen ∧ ∀ z ∈ zs, (Lit.int k z).wf = true := by
  obtain ⟨a0, len0, cap0, rfl⟩ := okWide_slice ht hval
  obtain ⟨fuel, hf⟩ := h
  exact trod_intsL ht he hc hf
theorem bytes_of_ints (zs : List Int) (h : ∀ z ∈ zs, (Lit.int .u8 z).wf = true) : ∃ bs : List UInt8, zs.map (Value.int .u8) = bs.map bV := by
  refine ⟨zs.map fun z => UInt8.ofNat z.toNat, ?_⟩
  rw [List.map_map]
  apply List.map_congr_left
  intro z hz
  have := bounds_u8 (h z hz)
  simp only [Function.comp, bV, UInt8.toNat_ofNat']
  congr 1
  omega
/-- A slice of bytes that came in. -/
theorem open_bytes {t e : TypeId} {v : Value} {d : DataW H} {ps : List MemPlace} {r : Reach} {b0 : Nat} (ht : P.underlying t = some (.slice e)) (he : P.underlying e = some (.int .u8)) (hc : P.cellsOf e = 1)
    (hval : Value.okWide P W r b0 t v) (h : DataW.Trod enc P W 0 (fun _ => true) true t v d ps) :
    ∃ (A : Option Addr) (n c : Nat) (bs : List UInt8), v = .slice A n c ∧ Reads W W.heap.size 1 A n (bs.map bV) ∧ n ≤ c ∧ c ≤ maxLen := by
  obtain ⟨A, n, c, zs, hv, hr, hc, hm, hw⟩ := open_intsL ht he hc hval h
  obtain ⟨bs, hb⟩ := bytes_of_ints zs hw
  exact ⟨A, n, c, bs, hv, by rw [← hb]; exact hr, hc, hm⟩
theorem trod_bytes {t e : TypeId} {v : Value} {x : DataW H × List MemPlace} {fuel : Nat} (ht : P.underlying t = some (.slice e)) (he : P.underlying e = some (.int .u8)) (hc : P.cellsOf e = 1)
    (hf : DataW.trod enc P W 0 (fun _ => true) true fuel t [v] = some x) :
    ∃ (A : Option Addr) (n c : Nat) (bs : List UInt8), v = .slice A n c ∧ Reads W W.heap.size 1 A n (bs.map bV) ∧ n ≤ c ∧ c ≤ maxLen := by
  obtain ⟨A, n, c, zs, hv, hr, hc, hm, hw⟩ := trod_intsL ht he hc hf
  obtain ⟨bs, hb⟩ := bytes_of_ints zs hw
  exact ⟨A, n, c, bs, hv, by rw [← hb]; exact hr, hc, hm⟩
/-- A slice of slices of bytes that came in. -/
theorem open_bytes2 {t e b : TypeId} {v : Value} {d : DataW H} {ps : List MemPlace} {r : Reach} {b0 : Nat} (ht : P.underlying t = some (.slice e)) (he : P.underlying e = some (.slice b)) (hb : P.underlying b = some (.int .u8)) (hc : P.cellsOf e = 1) (hc2 : P.cellsOf b = 1)
    (hval : Value.okWide P W r b0 t v) (h : DataW.Trod enc P W 0 (fun _ => true) true t v d ps) :
    ∃ (A : Option Addr) (n c : Nat) (ls : List (List UInt8)), v = .slice A n c ∧ Reads2 W W.heap.size A n ls ∧ n ≤ c ∧ c ≤ maxLen := by
  obtain ⟨a0, len0, cap0, rfl⟩ := okWide_slice ht hval
  obtain ⟨fuel, hf⟩ := h
  rcases Deep.open_slice1 ht hc hf with ⟨hcs, _⟩ | ⟨a, len, cap, m, n, V, D, Pl, hcs, _, hl, hm, hmm, _, hcell⟩
  · simp [Value.cells] at hcs
    obtain ⟨rfl, rfl, rfl⟩ := hcs
    exact ⟨none, 0, 0, [], rfl, ⟨rfl, fun k l hk => by simp at hk⟩, Nat.le_refl _, by simp [maxLen]⟩
  · simp [Value.cells] at hcs
    obtain ⟨rfl, rfl, rfl⟩ := hcs
    have hm2 : m = cap0 := by simpa using hmm
    have hex : ∀ i : Nat, ∃ bs : List UInt8, i < len0 → ∃ (A' : Option Addr) (c' : Nat), V i = .slice A' bs.length c' ∧ Reads W W.heap.size 1 A' bs.length (bs.map bV) ∧ bs.length ≤ c' ∧ c' ≤ maxLen := by
      intro i
      by_cases hi : i < len0
      · obtain ⟨A', n', c', bs, hv, hr, h1, h2⟩ := trod_bytes he hb hc2 (hcell i (by omega)).2
        have hn : bs.length = n' := by simpa using hr.len
        subst hn
        exact ⟨bs, fun _ => ⟨A', c', hv, hr, h1, h2⟩⟩
      · exact ⟨[], fun h => absurd h hi⟩
    refine ⟨some a, len0, cap0, (List.range len0).map (fun i => (hex i).choose), rfl, ⟨by simp, fun k l hk => ?_⟩, hl, hm⟩
    have hklt : k < len0 := by
      have := (List.getElem?_eq_some_iff.1 hk).1
      simpa using this
    have hl2 : l = (hex k).choose := by
      rw [List.getElem?_map, List.getElem?_range hklt] at hk
      simpa using hk.symm
    obtain ⟨A', c', hv, hr, h1, h2⟩ := (hex k).choose_spec hklt
    have hck := (hcell k (by omega)).1
    rw [hv] at hck
    rw [hl2]
    refine ⟨a, A', c', rfl, ?_, hck, hr, h1, h2⟩
    have := World.block_lt_of_cell? W _ hck
    rwa [block_add] at this
end
end Go.Proofs.YtidlahljhgglcaaGreat
namespace Go.Proofs.YtidlahljhgglcaaGreat
open Go.ChangeShapes Go.WideShapes Go.ChangeAt Go.RowKit Go.Deep Go.Joins

section
variable {H : Type} {enc : TypeId × Value → H} {P : Program} {W : World}
/-- Three numbers. -/
def triC (q : Int × Int × Int) : List Value := [iV q.1, iV q.2.1, iV q.2.2]
theorem RdS.conv {α β : Type} {w : World} {B size n : Nat} {A : Option Addr} {cells : α → List Value} {cells' : β → List Value} {l : List α} (h : RdS w B size A n cells l) (f : α → β) (hf : ∀ x, cells' (f x) = cells x) : RdS w B size A n cells' (l.map f) := by
  refine ⟨by simpa using h.1, fun k y hy => ?_⟩
  rw [List.getElem?_map] at hy
  cases hx : l[k]? with
  | none => rw [hx] at hy; simp at hy
  | some x =>
    rw [hx] at hy
    simp at hy
    subst hy
    obtain ⟨ad, e, hb, hc⟩ := h.2 k x hx
    exact ⟨ad, e, hb, fun j u hu => hc j u (by rw [← hf]; exact hu)⟩
/-- A slice of structs of three ints, from its cell. -/
theorem trod_tri {t e : TypeId} {f0 f1 f2 : Field} {v : Value} {x : DataW H × List MemPlace} {fuel : Nat} (ht : P.underlying t = some (.slice e)) (he : P.underlying e = some (.struct #[f0, f1, f2]))
    (hone : oneCellFields P #[f0, f1, f2] = true) (hC : P.cellsOf e = 3) (i0 : P.underlying f0.type = some (.int .i64)) (i1 : P.underlying f1.type = some (.int .i64)) (i2 : P.underlying f2.type = some (.int .i64))
    (h : DataW.trod enc P W 0 (fun _ => true) true fuel t [v] = some x) :
    ∃ (A : Option Addr) (n c : Nat) (l : List (Int × Int × Int)), v = .slice A n c ∧ RdS W W.heap.size 3 A n triC l ∧ n ≤ c ∧ c ≤ maxLen ∧
      ∀ q ∈ l, (Lit.int .i64 q.1).wf = true ∧ (Lit.int .i64 q.2.1).wf = true ∧ (Lit.int .i64 q.2.2).wf = true := by
  rcases open_slice ht h with ⟨hcs, _⟩ | ⟨a, len, cap, m, n, D, Pl, hcs, _, hl, hm, hmm, _, hi⟩
  · simp at hcs
    subst hcs
    exact ⟨none, 0, 0, [], rfl, RdS.nil, Nat.le_refl _, by simp [maxLen], by simp⟩
  · simp at hcs
    subst hcs
    have hm2 : m = cap := by simpa using hmm
    have hex : ∀ i : Nat, ∃ q : Int × Int × Int, i < len → (∀ j u, (triC q)[j]? = some u → W.cell? (a.add (i * 3 + j)) = some u) ∧ (Lit.int .i64 q.1).wf = true ∧ (Lit.int .i64 q.2.1).wf = true ∧ (Lit.int .i64 q.2.2).wf = true := by
      intro i
      by_cases hil : i < len
      · obtain ⟨cs', hc, ht'⟩ := hi i (by omega)
        rw [hC] at hc
        obtain ⟨ys, n', _, _, hlen, hyl, hf⟩ := DataW.trod_struct he ht'
        obtain ⟨_, hcl, hat⟩ := World.cells?_some hc
        have hval : ∀ (j : Nat) (f : Field), (#[f0, f1, f2] : Array Field)[j]? = some f → P.underlying f.type = some (.int .i64) → ∃ q : Int, cs'[j]? = some (iV q) ∧ (Lit.int .i64 q).wf = true := by
          intro j f hj hu
          obtain ⟨ho, hk⟩ := hone_of hone j f hj
          have hjl : j < 3 := by have := (Array.getElem?_eq_some_iff.1 hj).1; simpa using this
          have h1 := hf j f hj
          rw [ho, hk] at h1
          have hone' : (cs'.drop j).take 1 = [cs'[j]'(by omega)] := by
            rw [List.drop_eq_getElem_cons (by omega)]
            rfl
          rw [hone'] at h1
          have hys : ys[j]? = some (ys[j]'(by simp at hyl; omega)) := List.getElem?_eq_getElem (by simp at hyl; omega)
          obtain ⟨q, e1, _, w1⟩ := DataW.trod_int hu (h1.trans hys)
          refine ⟨q, ?_, w1⟩
          rw [List.getElem?_eq_getElem (by omega)]
          simpa using e1
        obtain ⟨q0, e0, w0⟩ := hval 0 f0 rfl i0
        obtain ⟨q1, e1, w1⟩ := hval 1 f1 rfl i1
        obtain ⟨q2, e2, w2⟩ := hval 2 f2 rfl i2
        refine ⟨(q0, q1, q2), fun _ => ⟨fun j u hu => ?_, w0, w1, w2⟩⟩
        have hj : j < 3 := by have := (List.getElem?_eq_some_iff.1 hu).1; simpa [triC] using this
        have hcell := hat j hj
        rw [add_add'] at hcell
        rw [hcell, ← hu]
        have : j = 0 ∨ j = 1 ∨ j = 2 := by omega
        rcases this with rfl | rfl | rfl
        · exact e0
        · exact e1
        · exact e2
      · exact ⟨(0, 0, 0), fun h => absurd h hil⟩
    refine ⟨some a, len, cap, (List.range len).map (fun i => (hex i).choose), rfl, ⟨by simp, fun k q hk => ?_⟩, hl, hm, fun q hq => ?_⟩
    · have hklt : k < len := by
        have := (List.getElem?_eq_some_iff.1 hk).1
        simpa using this
      have hq2 : q = (hex k).choose := by
        rw [List.getElem?_map, List.getElem?_range hklt] at hk
        simpa using hk.symm
      obtain ⟨hc, _⟩ := (hex k).choose_spec hklt
      rw [hq2]
      refine ⟨a, rfl, ?_, hc⟩
      have := World.block_lt_of_cell? W _ (hc 0 _ rfl)
      rwa [block_add] at this
    · obtain ⟨k, hk, rfl⟩ := List.mem_map.1 hq
      exact ((hex k).choose_spec (by simpa using hk)).2
end
/-- What is known of a table that came in. -/
structure TabCame (W : World) (t : TabS) (a : TabA) : Prop where
  inn : TabIn W t a
  l1 : t.parts.length ≤ 9223372036854775807
  l2 : t.wins.length ≤ 9223372036854775807
  l3 : t.chans.length ≤ 9223372036854775807
  c1 : t.parts.length ≤ a.c1
  c2 : t.wins.length ≤ a.c2
  c3 : t.chans.length ≤ a.c3
  m1 : a.c1 ≤ 9223372036854775807
  m2 : a.c2 ≤ 9223372036854775807
  m3 : a.c3 ≤ 9223372036854775807
  f1 : -9223372036854775808 ≤ t.frame
  f2 : t.frame ≤ 9223372036854775807
  r1 : -9223372036854775808 ≤ t.trial
  r2 : t.trial ≤ 9223372036854775807
  ps : ∀ p ∈ t.parts, (Lit.int .i64 p.mem).wf = true ∧ (Lit.int .i64 p.fuel).wf = true ∧ (Lit.int .i64 p.hard).wf = true
  ws : ∀ p ∈ t.wins, (Lit.int .i64 p.part).wf = true ∧ (Lit.int .i64 p.at_).wf = true ∧ (Lit.int .i64 p.long).wf = true
  cs : ∀ p ∈ t.chans, (Lit.int .i64 p.src).wf = true ∧ (Lit.int .i64 p.dst).wf = true ∧ (Lit.int .i64 p.depth).wf = true
section
variable {H : Type} {enc : TypeId × Value → H} {W : World}
set_option maxRecDepth 100000 in
theorem field_one {fs : Array Field} {cs : List Value} {i : Nat} {f : Field} {n : Nat} {y : DataW H × List MemPlace} (hone : oneCellFields Tryz.prog fs = true) (hf : fs[i]? = some f) (hl : i < cs.length)
    (h : DataW.trod enc Tryz.prog W 0 (fun _ => true) true n f.type ((cs.drop f.offset).take (Tryz.prog.cellsOf f.type)) = some y) : DataW.trod enc Tryz.prog W 0 (fun _ => true) true n f.type [cs[i]] = some y := by
  obtain ⟨ho, hk⟩ := hone_of hone i f hf
  rw [ho, hk] at h
  rwa [show (cs.drop i).take 1 = [cs[i]] by rw [List.drop_eq_getElem_cons hl]; rfl] at h
set_option maxRecDepth 100000 in
theorem list5 {α : Type} (l : List α) (h : l.length = 5) : ∃ a b c d e, l = [a, b, c, d, e] := by
  match l, h with
  | [a, b, c, d, e], _ => exact ⟨a, b, c, d, e, rfl⟩
set_option maxRecDepth 100000 in
theorem open_tab {v : Value} {d : DataW H} {ps : List MemPlace} {r : Reach} {b0 : Nat}
    (hval : Value.okWide Tryz.prog W r b0 26 v) (h : DataW.Trod enc Tryz.prog W 0 (fun _ => true) true 26 v d ps) :
    ∃ (t : TabS) (a : TabA), v = .agg #[.int .i64 t.frame, .slice a.A1 t.parts.length a.c1, .slice a.A2 t.wins.length a.c2, .slice a.A3 t.chans.length a.c3, .int .i64 t.trial] ∧ TabCame W t a := by
  obtain ⟨cs, rfl, hsz⟩ := okWide_struct Tryz.underlying26 hval
  obtain ⟨l⟩ := cs
  obtain ⟨fuel, hf⟩ := h
  obtain ⟨xs, n, _, _, _, hlen, hg⟩ := DataW.trod_struct Tryz.underlying26 hf
  have hl5 : l.length = 5 := by
    have : Tryz.prog.cellsOf 26 = 5 := by kernel_rfl
    rw [← this, ← hsz]
    rfl
  have key : ∀ (i : Nat) (hi : i < l.length) (f : Field), _ → ∃ y, DataW.trod enc Tryz.prog W 0 (fun _ => true) true n f.type [l[i]] = some y := fun i hi f hfi => by
    have h1 := hg i f hfi
    exact ⟨_, field_one (by kernel_rfl) hfi hi (h1.trans (List.getElem?_eq_getElem (by have := (Array.getElem?_eq_some_iff.1 hfi).1; omega)))⟩
  obtain ⟨v0, v1, v2, v3, v4, rfl⟩ := list5 l hl5
  obtain ⟨y0, h0⟩ := key 0 (by simp) _ rfl
  obtain ⟨y1, h1⟩ := key 1 (by simp) _ rfl
  obtain ⟨y2, h2⟩ := key 2 (by simp) _ rfl
  obtain ⟨y3, h3⟩ := key 3 (by simp) _ rfl
  obtain ⟨y4, h4⟩ := key 4 (by simp) _ rfl
  clear key hg hf hval hlen
  obtain ⟨frame, e0, _, wf⟩ := DataW.trod_int Tryz.underlying3 h0
  obtain ⟨trial, e4, _, wt⟩ := DataW.trod_int Tryz.underlying3 h4
  obtain ⟨A1, n1, c1, q1, e1, r1, k1, m1, w1⟩ := trod_tri Tryz.underlying22 Tryz.underlying82 (by kernel_rfl) (by kernel_rfl) Tryz.underlying3 Tryz.underlying3 Tryz.underlying3 h1
  obtain ⟨A2, n2, c2, q2, e2, r2, k2, m2, w2⟩ := trod_tri Tryz.underlying23 Tryz.underlying85 (by kernel_rfl) (by kernel_rfl) Tryz.underlying3 Tryz.underlying3 Tryz.underlying3 h2
  obtain ⟨A3, n3, c3, q3, e3, r3, k3, m3, w3⟩ := trod_tri Tryz.underlying24 Tryz.underlying69 (by kernel_rfl) (by kernel_rfl) Tryz.underlying3 Tryz.underlying3 Tryz.underlying3 h3
  have b0 := bounds_i64 wf
  have b4 := bounds_i64 wt
  have p1 := r1.conv (cells' := partC) (fun q => (⟨q.1, q.2.1, q.2.2⟩ : PartS)) (fun _ => rfl)
  have p2 := r2.conv (cells' := winC) (fun q => (⟨q.1, q.2.1, q.2.2⟩ : WinS)) (fun _ => rfl)
  have p3 := r3.conv (cells' := chanC) (fun q => (⟨q.1, q.2.1, q.2.2⟩ : ChanS)) (fun _ => rfl)
  have l1 := p1.len
  have l2 := p2.len
  have l3 := p3.len
  unfold maxLen at m1 m2 m3
  refine ⟨⟨frame, q1.map fun q => ⟨q.1, q.2.1, q.2.2⟩, q2.map fun q => ⟨q.1, q.2.1, q.2.2⟩, q3.map fun q => ⟨q.1, q.2.1, q.2.2⟩, trial⟩, ⟨A1, c1, A2, c2, A3, c3⟩, ?_, ?_⟩
  · simp only [l1, l2, l3]
    simp at e0 e1 e2 e3 e4
    subst e0 e1 e2 e3 e4
    rfl
  · refine ⟨⟨by simp only [l1]; exact p1, by simp only [l2]; exact p2, by simp only [l3]; exact p3⟩, by simp only [l1]; omega, by simp only [l2]; omega, by simp only [l3]; omega, by simp only [l1]; exact k1, by simp only [l2]; exact k2, by simp only [l3]; exact k3, by simp only; omega, by simp only; omega, by simp only; omega, b0.1, b0.2, b4.1, b4.2, ?_, ?_, ?_⟩
    · intro p hp
      obtain ⟨q, hq, rfl⟩ := List.mem_map.1 hp
      exact w1 q hq
    · intro p hp
      obtain ⟨q, hq, rfl⟩ := List.mem_map.1 hp
      exact w2 q hq
    · intro p hp
      obtain ⟨q, hq, rfl⟩ := List.mem_map.1 hp
      exact w3 q hq
end
end Go.Proofs.YtidlahljhgglcaaGreat
namespace Go.Proofs.YtidlahljhgglcaaGreat

/-- Where the last window ends. -/
def endW : Int → List WinS → Int
  | e, [] => e
  | _, w :: l => endW (w.at_ + w.long) l
theorem endW_snoc (w : WinS) : ∀ (l : List WinS) (e : Int), endW e (l ++ [w]) = w.at_ + w.long
  | [], e => rfl
  | x :: l, e => by
    show endW (x.at_ + x.long) (l ++ [w]) = _
    exact endW_snoc w l _
theorem winsOk_append (t : TabS) (m : List WinS) : ∀ (l : List WinS) (e : Int), winsOk t e (l ++ m) = (winsOk t e l && winsOk t (endW e l) m)
  | [], e => by simp [winsOk, endW]
  | x :: l, e => by
    simp only [List.cons_append, winsOk, endW]
    rw [winsOk_append t m l]
    rw [Bool.and_assoc]
theorem winsOk_at (t : TabS) (k : Nat) (x : WinS) (hx : t.wins[k]? = some x) (h : winsOk t 0 t.wins = true) : winBad t (endW 0 (t.wins.take k)) x = false := by
  have hk := (List.getElem?_eq_some_iff.1 hx).1
  have hs : t.wins = t.wins.take k ++ (x :: t.wins.drop (k + 1)) := by
    conv => lhs; rw [← List.take_append_drop k t.wins]
    congr 1
    rw [List.drop_eq_getElem_cons hk]
    congr 1
    exact (List.getElem?_eq_some_iff.1 hx).2
  rw [hs, winsOk_append, Bool.and_eq_true] at h
  obtain ⟨_, h2⟩ := h
  simp only [winsOk, Bool.and_eq_true, Bool.not_eq_true'] at h2
  exact h2.1
theorem winsOk_next (t : TabS) (k : Nat) (x : WinS) (hx : t.wins[k]? = some x) (h : winsOk t 0 (t.wins.take k) = true) (hb : winBad t (endW 0 (t.wins.take k)) x = false) : winsOk t 0 (t.wins.take (k + 1)) = true := by
  rw [List.take_add_one, hx]
  show winsOk t 0 (t.wins.take k ++ [x]) = true
  rw [winsOk_append, h]
  simp [winsOk, hb]
theorem endW_next (t : TabS) (k : Nat) (x : WinS) (hx : t.wins[k]? = some x) : endW 0 (t.wins.take (k + 1)) = x.at_ + x.long := by
  rw [List.take_add_one, hx]
  exact endW_snoc x _ _
theorem care_next (t : TabS) (k : Nat) (x : WinS) (hx : t.wins[k]? = some x) : careB (t.wins.take (k + 1)) = (careB (t.wins.take k) || x.part == 0) := by
  rw [List.take_add_one, hx]
  simp [careB]
theorem right_not_win (t : TabS) (k : Nat) (x : WinS) (hx : t.wins[k]? = some x) (hb : winBad t (endW 0 (t.wins.take k)) x = true) : rightB t = false := by
  cases hr : rightB t with
  | false => rfl
  | true =>
    have := winsOk_at t k x hx ((rightB_iff t).1 hr).ws
    rw [this] at hb
    cases hb
/-- What is known of the positions used, behind so many windows. -/
structure UsedT (t : TabS) (F : Nat) (lst e : Int) (u : List Bool) : Prop where
  len : u.length = F
  e0 : 0 ≤ e
  eF : e ≤ F
  l1 : -1 ≤ lst
  l2 : (0 ≤ lst ∧ lst < e) ∨ (lst = -1 ∧ e = 0)
  yes : ∀ p : Nat, lst ≤ p → (p : Int) < e → 0 ≤ lst → u[p]? = some true
  no : ∀ p : Nat, e ≤ p → p < F → u[p]? = some false
theorem usedT_new (t : TabS) (F : Nat) : UsedT t F (-1) 0 (List.replicate F false) :=
  ⟨by simp, by omega, by omega, by omega, .inr ⟨rfl, rfl⟩, fun p _ h _ => by omega, fun p _ h => by rw [List.getElem?_replicate, if_pos h]⟩
/-- Behind the positions of a window up to q. -/
structure MidT (F s q : Nat) (u : List Bool) : Prop where
  len : u.length = F
  yes : ∀ p : Nat, s ≤ p → p < q → u[p]? = some true
  no : ∀ p : Nat, q ≤ p → p < F → u[p]? = some false
theorem UsedT.mid {t : TabS} {F : Nat} {lst e : Int} {u : List Bool} (h : UsedT t F lst e u) {s : Nat} (hs : e ≤ s) : MidT F s s u :=
  ⟨h.len, fun p h1 h2 => by omega, fun p h1 h2 => h.no p (by omega) h2⟩
theorem MidT.next {F s q : Nat} {u : List Bool} (h : MidT F s q u) (hq : q < F) : MidT F s (q + 1) (u.set q true) := by
  refine ⟨by rw [List.length_set]; exact h.len, fun p h1 h2 => ?_, fun p h1 h2 => ?_⟩
  · by_cases hp : p = q
    · subst hp
      rw [List.getElem?_set_self (by rw [h.len]; exact hq)]
    · rw [List.getElem?_set_ne (by omega)]
      exact h.yes p h1 (by omega)
  · rw [List.getElem?_set_ne (by omega)]
    exact h.no p (by omega) h2
theorem MidT.used {t : TabS} {F s q : Nat} {u : List Bool} (h : MidT F s q u) (hsq : s < q) (hq : q ≤ F) : UsedT t F s q u :=
  ⟨h.len, by omega, by omega, by omega, .inl ⟨by omega, by omega⟩, fun p h1 h2 _ => h.yes p (by omega) (by omega), fun p h1 h2 => h.no p (by omega) h2⟩
/-- What is left to be asked when parts and windows are right. -/
theorem right_fin (t : TabS) (h1 : 1 ≤ t.frame) (h2 : t.frame ≤ 64) (h3 : 1 ≤ t.trial) (h4 : t.trial ≤ 7) (h5 : 2 ≤ (t.parts.length : Int)) (h6 : (t.parts.length : Int) ≤ 4) (h7 : (t.wins.length : Int) ≤ 8) (h8 : (t.chans.length : Int) ≤ 4)
    (hp : ∀ p ∈ t.parts, badB p = false) (hw : winsOk t 0 t.wins = true) (hc : ∀ c ∈ t.chans, chanBad t c = false) : rightB t = careB t.wins := by
  have e1 : inB t.frame 1 64 = true := (inB_iff _ _ _).2 ⟨h1, h2⟩
  have e2 : inB t.trial 1 7 = true := (inB_iff _ _ _).2 ⟨h3, h4⟩
  have e3 : inB (t.parts.length : Int) 2 4 = true := (inB_iff _ _ _).2 ⟨h5, h6⟩
  have e4 : t.parts.any badB = false := by rw [List.any_eq_false]; intro p h; simp [hp p h]
  have e5 : t.chans.any (chanBad t) = false := by rw [List.any_eq_false]; intro c h; simp [hc c h]
  have e6 : decide (t.wins.length ≤ 8) = true := by simp; omega
  have e7 : decide (t.chans.length ≤ 4) = true := by simp; omega
  unfold rightB winsB
  rw [e1, e2, e3, e4, e5, e6, e7, hw]
  simp
theorem right_not_chan (t : TabS) (c : ChanS) (hc : c ∈ t.chans) (hb : chanBad t c = true) : rightB t = false := by
  cases hr : rightB t with
  | false => rfl
  | true =>
    exfalso
    have := ((rightB_iff t).1 hr).cs c hc
    simp only [chanBad, hasB, inB, Bool.or_eq_true, Bool.not_eq_true', Bool.and_eq_false_iff, decide_eq_false_iff_not, beq_iff_eq] at hb
    omega
theorem getElem?_own {u : List Bool} {p : Nat} {b : Bool} (h : u[p]? = some b) : p < u.length := (List.getElem?_eq_some_iff.1 h).1
end Go.Proofs.YtidlahljhgglcaaGreat
