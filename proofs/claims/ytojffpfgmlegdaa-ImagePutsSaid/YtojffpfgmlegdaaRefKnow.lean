/-
  The reference's constants: Know.
-/
import Derived.Test.YtojffpfgmlegdaaRefPrimes
import Derived.Test.YtojffpfgmlegdaaShaPl3
import Derived.Deep.RegionLaw
namespace Go.Proofs.Ytojffpfgmlegdaa
open Go.RowKit

def FootN (A : Option Addr) (b : Nat) : Prop := ∃ a, A = some a ∧ a.block = b
theorem ownBlock_footN {A : Option Addr} {n c : Nat} {b : Nat} : (Value.slice A n c).ownBlock = some b ↔ FootN A b := by
  unfold Value.ownBlock FootN
  cases A <;> simp
theorem own_keepN {w w' : World} {base : Nat} {e : TypeId} {size n c : Nat} {A : Option Addr} {xs : List Value} (h : w.ownsRow base e size (.slice A n c) n xs) (hk : ∀ b, FootN A b → w'.heap[b]? = w.heap[b]?) : w'.ownsRow base e size (.slice A n c) n xs := by
  refine ⟨h.1, ?_⟩
  rcases h.2 with h2 | ⟨g, cap, cur, hv, hg, hh, r⟩
  · exact .inl h2
  · exact .inr ⟨g, cap, cur, hv, hg, (hk g (by injection hv with hv; exact ⟨_, hv, rfl⟩)).trans hh, r⟩
theorem own_rngN {w : World} {base : Nat} {e : TypeId} {size n c : Nat} {A : Option Addr} {xs : List Value} (h : w.ownsRow base e size (.slice A n c) n xs) {b : Nat} (hb : FootN A b) : base ≤ b ∧ b < w.heap.size := h.lt b (ownBlock_footN.2 hb)
theorem cell_allocN {w : World} {p : Addr} {u : Value} (h : w.cell? p = some u) (o : Obj) : (w.alloc o).cell? p = some u := (World.cell?_of_block (Below.heap_alloc _ _ _ (World.block_lt_of_cell? w p h))).trans h
theorem step_app5 {P : Program} (w : World) {ops : Array Oper} {o : Oper} {a : Act} {K : Act → World → Prop} {Q : Exit → Act → World → Prop} {E : Prop} (hgd : o.guard = none) (s x : Operand) (t : TypeId)
    (ho : o.op = .call { callee := .builtin .append, args := #[s, x], argTypes := #[t, t] })
    (base : Nat) (e : TypeId) (i : TypeInfo) (z : Value) (size bytes : Nat) (ht : P.underlying t = some (.slice e)) (hi : P.info? e = some i) (hz : i.zero = some z)
    (hsize : i.size = size) (hby : i.bytes = bytes) (hzs : z.cells.size = size) (hsz : 0 < size)
    (v : Value) (n : Nat) (xs : List Value) (hs : a.eval s = v) (hown : w.ownsRow base e size v n xs)
    (B : Nat) (A : Option Addr) (m c : Nat) (news : List Value) (hx : a.eval x = .slice A m c) (hr : Reads w B size A m news) (h1 : ∀ u ∈ news, u.oneCell' = true)
    (h63 : n + m ≤ maxLen) (hbytes : (n + m) * bytes ≤ 140737488355328) (hbase : base ≤ w.heap.size) (N : Nat) (hN : n + m = N)
    (h : ∀ A' c' w', w'.ownsRow base e size (.slice A' N c') N (xs ++ news) → w.grownBy w' v.ownBlock → ((Value.slice A' N c').ownBlock = v.ownBlock ∨ (Value.slice A' N c').ownBlock = some w.heap.size) → K (a.put o.dst (.slice A' N c')) w') :
    if Region.wanted o (yielded ops a.tmps) = true then Oper.wp P o a w K Q else E := by
  have hw : Region.wanted o (yielded ops a.tmps) = true := by simp [Region.wanted, hgd]
  rw [if_pos hw]
  subst hN
  exact wp_append_src w s x t ho base e i z size bytes ht hi hz hsize hby hzs hsz v n xs hs hown B A m c news hx hr h1 h63 hbytes hbase fun A' c' w' h2 h3 h4 => h A' c' w' h2 h3 h4
structure KnowAt (w0 : World) (KB B2 : Nat) (Ap : Option Addr) (AF : Option Addr) (nF cF : Nat) (xf : List Value) (AR : Option Addr) (nR cR : Nat) (xr : List Value) (w : World) : Prop where
  bel : Below w0.heap.size w0 w
  hR : Blk w w0.heap.size 30 [.slice none 0 0, .slice none 0 0]
  hK : Blk w KB 30 [.slice AF nF cF, .slice AR nR cR]
  l1 : w0.heap.size < KB
  l2 : KB < B2
  l3 : B2 ≤ w.heap.size
  hp : Reads w B2 1 Ap 64 (primes64.map nV)
  hpk : ∀ ad, Ap = some ad → KB < ad.block
  o1 : w.ownsRow B2 3 1 (.slice AF nF cF) nF xf
  o2 : w.ownsRow B2 3 1 (.slice AR nR cR) nR xr
  d : ∀ b, FootN AF b → ¬ FootN AR b
section
variable {w0 w w' : World} {KB B2 nF cF nR cR : Nat} {Ap AF AR : Option Addr} {xf xr : List Value}
theorem Reads.keepN {B : Nat} {A : Option Addr} {n : Nat} {xs : List Value} (h : Reads w B 1 A n xs) (hk : ∀ ad, A = some ad → w'.heap[ad.block]? = w.heap[ad.block]?) : Reads w' B 1 A n xs :=
  ⟨h.1, fun hn => by
    obtain ⟨ad, e, hb, hc⟩ := h.2 hn
    exact ⟨ad, e, hb, fun j u hu => (World.cell?_of_block (by rw [block_add]; exact hk ad e)).trans (hc j u hu)⟩⟩
theorem KnowAt.belowS (h : KnowAt w0 KB B2 Ap AF nF cF xf AR nR cR xr w) (hb : Below w.heap.size w w') : KnowAt w0 KB B2 Ap AF nF cF xf AR nR cR xr w' := by
  have hk : ∀ b, b < w.heap.size → w'.heap[b]? = w.heap[b]? := fun b h1 => hb.block b h1
  exact ⟨bel_trans h.bel hb, h.hR.belowS hb, h.hK.belowS hb, h.l1, h.l2, Nat.le_trans h.l3 hb.size, h.hp.below (hb.mono h.l3), h.hpk, own_keepN h.o1 fun b hb => hk b (own_rngN h.o1 hb).2, own_keepN h.o2 fun b hb => hk b (own_rngN h.o2 hb).2, h.d⟩
theorem KnowAt.drew (h : KnowAt w0 KB B2 Ap AF nF cF xf AR nR cR xr w) : KnowAt w0 KB B2 Ap AF nF cF xf AR nR cR xr w.drew := h.belowS ⟨rfl, rfl, rfl, Nat.le_refl _, fun _ _ => rfl⟩
theorem setN_heap (w : World) (T k : Nat) (u : Value) (b : Nat) (h : b ≠ T) : (w.setCell ⟨T, k, none⟩ u).heap[b]? = w.heap[b]? := Below.heap_setCell _ _ _ _ (by simpa using h)
theorem foot_newN {A A' : Option Addr} {n c n' c' : Nat} {b S : Nat} (h : (Value.slice A' n' c').ownBlock = (Value.slice A n c).ownBlock ∨ (Value.slice A' n' c').ownBlock = some S) (hb : FootN A' b) : FootN A b ∨ b = S := by
  have h1 := (ownBlock_footN (n := n') (c := c')).2 hb
  rcases h with h | h
  · rw [h] at h1; exact .inl (ownBlock_footN.1 h1)
  · rw [h] at h1; injection h1 with h1; exact .inr h1.symm
theorem KnowAt.first (h : KnowAt w0 KB B2 Ap AF nF cF xf AR nR cR xr w) (u : Value) (S : Nat) (hS : w.heap.size = S) {A' : Option Addr} {c' : Nat} (ho : w'.ownsRow B2 3 1 (.slice A' (nF + 1) c') (nF + 1) (xf ++ [u])) (hg : w.grownBy w' (Value.slice AF nF cF).ownBlock)
    (hn : (Value.slice A' (nF + 1) c').ownBlock = (Value.slice AF nF cF).ownBlock ∨ (Value.slice A' (nF + 1) c').ownBlock = some S) :
    KnowAt w0 KB B2 Ap A' (nF + 1) c' (xf ++ [u]) AR nR cR xr (w'.setCell ⟨KB, 0, none⟩ (.slice A' (nF + 1) c')) := by
  subst hS
  have l1 := h.l1
  have l2 := h.l2
  have l3 := h.l3
  have hk : ∀ b, b < w.heap.size → ¬ FootN AF b → w'.heap[b]? = w.heap[b]? := fun b hb hne => hg.block b hb (fun e => hne (ownBlock_footN.1 e.symm))
  have hf : ∀ b, FootN AF b → B2 ≤ b := fun b hb => (own_rngN h.o1 hb).1
  have hbl : Below B2 w w' := ⟨hg.os, hg.tape, hg.output, hg.size, fun b hb => hk b (by omega) (fun hb' => by have := hf b hb'; omega)⟩
  have hst := setN_heap w' KB 0 (.slice A' (nF + 1) c')
  have hsz : w'.heap.size = (w'.setCell ⟨KB, 0, none⟩ (.slice A' (nF + 1) c')).heap.size := by simp [World.setCell]
  refine ⟨(h.bel.trans (hbl.mono (by omega))).setCell (p := ⟨KB, 0, none⟩) (by simp only; omega) _, (h.hR.below hbl (by omega)).far (p := ⟨KB, 0, none⟩) (by simp only; omega) _, (h.hK.below hbl (by omega)).set_ 0 _, l1, l2, by rw [← hsz]; have := hg.size; omega, ?_, h.hpk, ?_, ?_, ?_⟩
  · refine (h.hp.below hbl).keepN fun ad e => hst _ ?_
    have := h.hpk ad e
    omega
  · exact own_keepN ho fun b hb => hst b (by have := (own_rngN ho hb).1; omega)
  · exact own_keepN h.o2 fun b hb => (hst b (by have := (own_rngN h.o2 hb).1; omega)).trans (hk b (own_rngN h.o2 hb).2 fun h9 => h.d b h9 hb)
  · intro b hb hb2
    rcases foot_newN hn hb with h9 | h9
    · exact h.d b h9 hb2
    · have := (own_rngN h.o2 hb2).2; omega
theorem KnowAt.round (h : KnowAt w0 KB B2 Ap AF nF cF xf AR nR cR xr w) (u : Value) (S : Nat) (hS : w.heap.size = S) {A' : Option Addr} {c' : Nat} (ho : w'.ownsRow B2 3 1 (.slice A' (nR + 1) c') (nR + 1) (xr ++ [u])) (hg : w.grownBy w' (Value.slice AR nR cR).ownBlock)
    (hn : (Value.slice A' (nR + 1) c').ownBlock = (Value.slice AR nR cR).ownBlock ∨ (Value.slice A' (nR + 1) c').ownBlock = some S) :
    KnowAt w0 KB B2 Ap AF nF cF xf A' (nR + 1) c' (xr ++ [u]) (w'.setCell ⟨KB, 1, none⟩ (.slice A' (nR + 1) c')) := by
  subst hS
  have l1 := h.l1
  have l2 := h.l2
  have l3 := h.l3
  have hk : ∀ b, b < w.heap.size → ¬ FootN AR b → w'.heap[b]? = w.heap[b]? := fun b hb hne => hg.block b hb (fun e => hne (ownBlock_footN.1 e.symm))
  have hf : ∀ b, FootN AR b → B2 ≤ b := fun b hb => (own_rngN h.o2 hb).1
  have hbl : Below B2 w w' := ⟨hg.os, hg.tape, hg.output, hg.size, fun b hb => hk b (by omega) (fun hb' => by have := hf b hb'; omega)⟩
  have hst := setN_heap w' KB 1 (.slice A' (nR + 1) c')
  have hsz : w'.heap.size = (w'.setCell ⟨KB, 1, none⟩ (.slice A' (nR + 1) c')).heap.size := by simp [World.setCell]
  refine ⟨(h.bel.trans (hbl.mono (by omega))).setCell (p := ⟨KB, 1, none⟩) (by simp only; omega) _, (h.hR.below hbl (by omega)).far (p := ⟨KB, 1, none⟩) (by simp only; omega) _, (h.hK.below hbl (by omega)).set_ 1 _, l1, l2, by rw [← hsz]; have := hg.size; omega, ?_, h.hpk, ?_, ?_, ?_⟩
  · refine (h.hp.below hbl).keepN fun ad e => hst _ ?_
    have := h.hpk ad e
    omega
  · exact own_keepN h.o1 fun b hb => (hst b (by have := (own_rngN h.o1 hb).1; omega)).trans (hk b (own_rngN h.o1 hb).2 fun h9 => h.d b hb h9)
  · exact own_keepN ho fun b hb => hst b (by have := (own_rngN ho hb).1; omega)
  · intro b hb hb2
    rcases foot_newN hn hb2 with h9 | h9
    · exact h.d b hb h9
    · have := (own_rngN h.o1 hb).2; omega
end
theorem cube_at (i : Nat) (hi : i < 64) : ∃ q r : Nat, primes64[i]? = some q ∧ q ≤ 1000 ∧ fitsB r q 3 = true ∧ fitsB (r + 1) q 3 = false ∧ r < 34359738368 ∧ r % 4294967296 = (shaK.getD i 0).toNat := by
  obtain ⟨h1, h2, h3, h4⟩ := cubes_ok ⟨i, hi⟩
  have hl : i < primes64.length := by rw [show primes64.length = 64 from rfl]; exact hi
  refine ⟨primes64.getD i 0, cubes.getD i 0, ?_, ?_, h1, h2, h3, h4⟩
  · rw [List.getD_eq_getElem?_getD, List.getElem?_eq_getElem hl]; rfl
  · rw [List.getD_eq_getElem?_getD, List.getElem?_eq_getElem hl]; exact primes64_le _ (List.getElem_mem hl)
theorem square_at (i : Nat) (hi : i < 8) : ∃ r : Nat, ∀ q, primes64[i]? = some q → fitsB r q 2 = true ∧ fitsB (r + 1) q 2 = false ∧ r < 34359738368 ∧ r % 4294967296 = (shNew.v.list.getD i 0).toNat := by
  obtain ⟨h1, h2, h3⟩ := squares_ok ⟨i, hi⟩
  refine ⟨squares.getD i 0, fun q hq => ?_⟩
  have e : primes64.getD i 0 = q := by rw [List.getD_eq_getElem?_getD, hq]; rfl
  rw [← e]
  refine ⟨h1, h2, h3, ?_⟩
  have h4 : ∀ k : Fin 8, squares.getD k.val 0 % 4294967296 = (shNew.v.list.getD k.val 0).toNat := by decide +kernel
  exact h4 ⟨i, hi⟩
theorem shaK_get (i : Nat) (hi : i < 64) : shaK.take (i + 1) = shaK.take i ++ [shaK.getD i 0] := by
  have hl : i < shaK.length := by rw [show shaK.length = 64 from rfl]; exact hi
  rw [List.take_succ_eq_append_getElem hl, List.getD_eq_getElem?_getD, List.getElem?_eq_getElem hl]
  rfl
theorem shF_get (i : Nat) (hi : i < 8) : shNew.v.list.take (i + 1) = shNew.v.list.take i ++ [shNew.v.list.getD i 0] := by
  have hl : i < shNew.v.list.length := by rw [show shNew.v.list.length = 8 from rfl]; exact hi
  rw [List.take_succ_eq_append_getElem hl, List.getD_eq_getElem?_getD, List.getElem?_eq_getElem hl]
  rfl
theorem oneCell_W (l : List (BitVec 32)) : ∀ u ∈ l.map nW, u.oneCell' = true := by intro u hu; obtain ⟨b, _, rfl⟩ := List.mem_map.1 hu; rfl
set_option maxRecDepth 100000 in
set_option maxHeartbeats 4000000 in
theorem refKnow_any (w : World) :
    Calls Try.prog 15 #[] w fun e w' => ∃ AF cF AR cR, e = .returned (.agg #[.slice AF 8 cF, .slice AR 64 cR]) ∧ Reads w' w'.heap.size 1 AF 8 (shNew.v.list.map nW) ∧ Reads w' w'.heap.size 1 AR 64 (shaK.map nW) ∧ 8 ≤ cF ∧ cF ≤ maxLen ∧ 64 ≤ cR ∧ cR ≤ maxLen ∧ Below w.heap.size w w' := by
  obtain ⟨i0, hi0, hz0, hz1, hz2⟩ := info_parts info_intT
  obtain ⟨w1, hw1, hR1, hK1, hb1, hs1⟩ : ∃ W : World, (w.alloc (.cells #[.slice none 0 0, .slice none 0 0] 30)).alloc (.cells #[.slice none 0 0, .slice none 0 0] 30) = W ∧ Hid (Blk W w.heap.size 30 [.slice none 0 0, .slice none 0 0]) ∧ Hid (Blk W (w.heap.size + 1) 30 [.slice none 0 0, .slice none 0 0]) ∧ Hid (Below w.heap.size w W) ∧ Hid (W.heap.size = w.heap.size + 2) := ⟨_, rfl, hid ((Blk.new w 30 [.slice none 0 0, .slice none 0 0]).alloc _), hid (by
    have h9 := Blk.new (w.alloc (.cells #[.slice none 0 0, .slice none 0 0] 30)) 30 [.slice none 0 0, .slice none 0 0]
    rw [show (w.alloc (.cells #[.slice none 0 0, .slice none 0 0] 30)).heap.size = w.heap.size + 1 by simp] at h9
    exact h9), hid (((Below.refl _ _).alloc (Nat.le_refl _) _).alloc (by simp) _), hid (by simp)⟩
  have HW := hid hw1
  clear hw1
  go_enter Try.func15, Try.ntmps15
  go_wp2_with fail
  rw [HW.out]
  clear HW
  refine (refPrimes_any w1).mono ?_
  rintro e w2 ⟨Ap, cp, rfl, hown, hb2⟩
  obtain ⟨KB, hKB⟩ : ∃ KB, w.heap.size + 1 = KB := ⟨_, rfl⟩
  have H2 : Hid (KnowAt w KB w2.heap.size Ap none 0 0 [] none 0 0 [] w2) := hid (by
    have hf : ∀ b, ¬ FootN none b := fun b hb => by obtain ⟨a, h, _⟩ := hb; cases h
    have hs := hs1.out
    have hsz := hb2.size
    refine ⟨hb1.out.trans (hb2.mono (by omega)), hR1.out.belowS hb2, by rw [← hKB]; exact hK1.out.belowS hb2, by omega, by omega, Nat.le_refl _, Reads.of_own hown, fun ad e => ?_, World.ownsRow_nil _ _ _ _, World.ownsRow_nil _ _ _ _, fun b hb => absurd hb (hf b)⟩
    have := (own_rngN hown ⟨ad, e, rfl⟩).1
    omega)
  generalize w2.heap.size = B2 at *
  rw [hKB]
  clear hown hb2 hb1 hR1 hK1 hs1 hKB
  go_wp2_with fail
  go_loopw [3] (fun v3 wr => ∃ (i : Nat) (AF : Option Addr) (nF cF : Nat) (AR : Option Addr) (cR : Nat), i ≤ 64 ∧ nF = min i 8 ∧ v3 = .int .i64 (i : Int) ∧ KnowAt w KB B2 Ap AF nF cF ((shNew.v.list.take nF).map nW) AR i cR ((shaK.take i).map nW) wr) (fun v3 _ => 64 - (intOf v3).toNat)
  case atStart => exact ⟨0, none, 0, 0, none, 0, by omega, rfl, rfl, H2.out⟩
  case round =>
    obtain ⟨i, AF, nF, cF, AR, cR, hi, hnF, rfl, hA⟩ := hrel
    have HA := hid hA
    clear hA H2
    by_cases hi64 : i < 64
    · have y0 : decide ((i : Int) < 64) = true := decide_eq_true (by omega)
      have z0 : (0 : Int) ≤ (i : Int) := Int.natCast_nonneg _
      have z1 : (i : Int) < 64 := by omega
      obtain ⟨q, r, hq, hqb, hr1, hr2, hr3, hr4⟩ := cube_at i hi64
      obtain ⟨ad, q', hAp, had, hq', hcq⟩ := HA.out.hp.atM hi64
      have hqq : q' = q := by rw [hq] at hq'; injection hq' with hq'; exact hq'.symm
      subst hqq
      subst hAp
      have iR := hid (fun W => refRoot_any q' 3 r W hqb (by decide) (by decide) hr1 hr2 hr3)
      rw [hr4] at iR
      have HKX := hid (shaK_get i hi64)
      generalize shaK.getD i 0 = X at iR HKX
      have hcA : Hid (∀ {AF nF cF xf AR nR cR xr} (W : World), KnowAt w KB B2 (some ad) AF nF cF xf AR nR cR xr W → W.cell? (ad.add i) = some (nV q')) := hid (fun W hW => by
        obtain ⟨ad2, q2, h1, _, h2, h3⟩ := hW.hp.atM hi64
        injection h1 with h1
        subst h1
        rw [hq] at h2
        injection h2 with h2
        subst h2
        exact h3)
      by_cases hi8 : i < 8
      · have y1 : decide ((i : Int) < 8) = true := decide_eq_true (by omega)
        have hnF2 : nF = i := by omega
        subst hnF2
        obtain ⟨r2, hsq⟩ := square_at nF hi8
        obtain ⟨hs1, hs2, hs3, hs4⟩ := hsq q' hq
        have iS := hid (fun W => refRoot_any q' 2 r2 W hqb (by decide) (by decide) hs1 hs2 hs3)
        rw [hs4] at iS
        have HFX := hid (shF_get nF hi8)
        generalize shNew.v.list.getD nF 0 = Y at iS HFX
        clear hnF hs1 hs2 hs3 hs4 hsq hr1 hr2 hr3 hr4 hq hq' hqb hcq
        have c0 := hcA.out _ HA.out
        have k0 : wr.cell? ⟨KB, 0, none⟩ = some (.slice AF nF cF) := HA.out.hK.cellAt rfl
        go_wp2_with fail
        go_region_law (first
          | (refine step_app5 _ (by rfl) _ _ _ (by rfl) B2 3 i0 _ 1 8 Try.underlying28 hi0 hz0 hz1 hz2 rfl (by decide) (.slice AF nF cF) nF _ (by rfl) (by first | exact (HA3.out.belowS ((Below.refl _ _).alloc (Nat.le_refl _) _)).o1 | exact (HA3.out.belowS ((Below.refl _ _).alloc (Nat.le_refl _) _)).drew.o1) (w3.heap.size + 1) (some ⟨w3.heap.size, 0, none⟩) 1 1 [nW Y] (by rfl) (by first | exact HN3.out | exact HN3.out.drew) (oneCell_W [Y]) (by simp [maxLen]; omega) (by omega) (by first | exact Nat.le_trans HA3.out.l3 (by simp) | exact Nat.le_trans HA3.out.l3 (by simp [World.drew])) (nF + 1) rfl ?_; intro A' c' w5 hown5 hg5 hA5; have hg5' : (w3.alloc (.cells #[nW Y] 3)).grownBy w5 (Value.slice AF nF cF).ownBlock := (by first | exact hg5 | exact ⟨hg5.os, hg5.tape, hg5.output, hg5.size, hg5.block⟩); have HF := hid ((HA3.out.belowS ((Below.refl _ _).alloc (Nat.le_refl _) (.cells #[nW Y] 3))).first (nW Y) (w3.heap.size + 1) (by simp) hown5 hg5' (by first | exact hA5 | simpa using hA5 | simpa [World.drew] using hA5)); have hK5 : Blk w5 KB 30 _ := (hg5'.block KB (by have := HA3.out.l2; have := HA3.out.l3; simp; omega) (fun e => by have := (own_rngN HA3.out.o1 (ownBlock_footN.1 e.symm)).1; have := HA3.out.l2; omega)).trans (HA3.out.belowS ((Below.refl _ _).alloc (Nat.le_refl _) (.cells #[nW Y] 3))).hK; have y4 : w5.cell? ⟨KB, 0, none⟩ = some (.slice AF nF cF) := hK5.cellAt rfl; have yf := hK5.frozen 0; clear hown5 hg5 hA5 hg5' hK5)
          | (go_simp; go_at_call 32; refine (iS.out _).mono ?_; rintro e w3 ⟨rfl, h3⟩; have h3' : Below wr.heap.size wr w3 := (by first | exact h3 | exact ⟨h3.os, h3.tape, h3.output, h3.size, h3.block⟩); have HA3 := hid (HA.out.belowS h3'); have c3 := hcA.out _ HA3.out; have k3 : w3.cell? ⟨KB, 0, none⟩ = some (.slice AF nF cF) := HA3.out.hK.cellAt rfl; have k3a := (fun o => cell_allocN k3 o); have HN3 : Hid (Reads (w3.alloc (.cells #[nW Y] 3)) (w3.heap.size + 1) 1 (some ⟨w3.heap.size, 0, none⟩) 1 [nW Y]) := hid (Reads.new w3 #[nW Y] 3 1 rfl); clear h3 h3'; try dsimp only))
        all_goals
          have H6 : Hid (KnowAt w KB B2 (some ad) A' (nF + 1) c' ((shNew.v.list.take (nF + 1)).map nW) AR nF cR ((shaK.take nF).map nW) (w5.setCell ⟨KB, 0, none⟩ (.slice A' (nF + 1) c'))) := hid (by rw [HFX.out, List.map_append]; exact HF.out)
          clear c0 k0 c3 k3 k3a y4 yf HN3 HF
          generalize w5.setCell ⟨KB, 0, none⟩ (.slice A' (nF + 1) c') = w6 at H6 ⊢
          have c0 := hcA.out _ H6.out
          have k0 : w6.cell? ⟨KB, 1, none⟩ = some (.slice AR nF cR) := H6.out.hK.cellAt rfl
          go_wp2_with fail
          go_region_law (first
            | (refine step_app5 _ (by rfl) _ _ _ (by rfl) B2 3 i0 _ 1 8 Try.underlying28 hi0 hz0 hz1 hz2 rfl (by decide) (.slice AR nF cR) nF _ (by rfl) (by first | exact (HA3.out.belowS ((Below.refl _ _).alloc (Nat.le_refl _) _)).o2 | exact (HA3.out.belowS ((Below.refl _ _).alloc (Nat.le_refl _) _)).drew.o2) (w7.heap.size + 1) (some ⟨w7.heap.size, 0, none⟩) 1 1 [nW X] (by rfl) (by first | exact HN3.out | exact HN3.out.drew) (oneCell_W [X]) (by simp [maxLen]; omega) (by omega) (by first | exact Nat.le_trans HA3.out.l3 (by simp) | exact Nat.le_trans HA3.out.l3 (by simp [World.drew])) (nF + 1) rfl ?_; intro A9 c9 w8 hown5 hg5 hA5; have hg5' : (w7.alloc (.cells #[nW X] 3)).grownBy w8 (Value.slice AR nF cR).ownBlock := (by first | exact hg5 | exact ⟨hg5.os, hg5.tape, hg5.output, hg5.size, hg5.block⟩); have HF := hid ((HA3.out.belowS ((Below.refl _ _).alloc (Nat.le_refl _) (.cells #[nW X] 3))).round (nW X) (w7.heap.size + 1) (by simp) hown5 hg5' (by first | exact hA5 | simpa using hA5 | simpa [World.drew] using hA5)); have hK5 : Blk w8 KB 30 _ := (hg5'.block KB (by have := HA3.out.l2; have := HA3.out.l3; simp; omega) (fun e => by have := (own_rngN HA3.out.o2 (ownBlock_footN.1 e.symm)).1; have := HA3.out.l2; omega)).trans (HA3.out.belowS ((Below.refl _ _).alloc (Nat.le_refl _) (.cells #[nW X] 3))).hK; have y4 : w8.cell? ⟨KB, 1, none⟩ = some (.slice AR nF cR) := hK5.cellAt rfl; have yf := hK5.frozen 1; clear hown5 hg5 hA5 hg5' hK5)
            | (go_simp; go_at_call 32; refine (iR.out _).mono ?_; rintro e w7 ⟨rfl, h3⟩; have h3' : Below w6.heap.size w6 w7 := (by first | exact h3 | exact ⟨h3.os, h3.tape, h3.output, h3.size, h3.block⟩); have HA3 := hid (H6.out.belowS h3'); have c3 := hcA.out _ HA3.out; have k3 : w7.cell? ⟨KB, 1, none⟩ = some (.slice AR nF cR) := HA3.out.hK.cellAt rfl; have k3a := (fun o => cell_allocN k3 o); have HN3 : Hid (Reads (w7.alloc (.cells #[nW X] 3)) (w7.heap.size + 1) 1 (some ⟨w7.heap.size, 0, none⟩) 1 [nW X]) := hid (Reads.new w7 #[nW X] 3 1 rfl); clear h3 h3'; try dsimp only))
          all_goals
            have H9 : Hid (KnowAt w KB B2 (some ad) A' (nF + 1) c' ((shNew.v.list.take (nF + 1)).map nW) A9 (nF + 1) c9 ((shaK.take (nF + 1)).map nW) (w8.setCell ⟨KB, 1, none⟩ (.slice A9 (nF + 1) c9))) := hid (by rw [HKX.out, List.map_append]; exact HF.out)
            clear c0 k0 c3 k3 k3a y4 yf HN3 HF
            go_wp2_with fail
            go_roundw
            case rel => exact ⟨nF + 1, A', nF + 1, c', A9, c9, by omega, by omega, by go_num, H9.out⟩
            case measure => simp [intOf]; omega
      · have y1 : decide ((i : Int) < 8) = false := decide_eq_false (by omega)
        have hnF2 : nF = 8 := by omega
        subst hnF2
        clear hnF hr1 hr2 hr3 hr4 hq hq' hqb hcq
        have c0 := hcA.out _ HA.out
        have k0 : wr.cell? ⟨KB, 1, none⟩ = some (.slice AR i cR) := HA.out.hK.cellAt rfl
        go_wp2_with fail
        go_region_law (first
          | (refine step_app5 _ (by rfl) _ _ _ (by rfl) B2 3 i0 _ 1 8 Try.underlying28 hi0 hz0 hz1 hz2 rfl (by decide) (.slice AR i cR) i _ (by rfl) (by first | exact (HA3.out.belowS ((Below.refl _ _).alloc (Nat.le_refl _) _)).o2 | exact (HA3.out.belowS ((Below.refl _ _).alloc (Nat.le_refl _) _)).drew.o2) (w7.heap.size + 1) (some ⟨w7.heap.size, 0, none⟩) 1 1 [nW X] (by rfl) (by first | exact HN3.out | exact HN3.out.drew) (oneCell_W [X]) (by simp [maxLen]; omega) (by omega) (by first | exact Nat.le_trans HA3.out.l3 (by simp) | exact Nat.le_trans HA3.out.l3 (by simp [World.drew])) (i + 1) rfl ?_; intro A9 c9 w8 hown5 hg5 hA5; have hg5' : (w7.alloc (.cells #[nW X] 3)).grownBy w8 (Value.slice AR i cR).ownBlock := (by first | exact hg5 | exact ⟨hg5.os, hg5.tape, hg5.output, hg5.size, hg5.block⟩); have HF := hid ((HA3.out.belowS ((Below.refl _ _).alloc (Nat.le_refl _) (.cells #[nW X] 3))).round (nW X) (w7.heap.size + 1) (by simp) hown5 hg5' (by first | exact hA5 | simpa using hA5 | simpa [World.drew] using hA5)); have hK5 : Blk w8 KB 30 _ := (hg5'.block KB (by have := HA3.out.l2; have := HA3.out.l3; simp; omega) (fun e => by have := (own_rngN HA3.out.o2 (ownBlock_footN.1 e.symm)).1; have := HA3.out.l2; omega)).trans (HA3.out.belowS ((Below.refl _ _).alloc (Nat.le_refl _) (.cells #[nW X] 3))).hK; have y4 : w8.cell? ⟨KB, 1, none⟩ = some (.slice AR i cR) := hK5.cellAt rfl; have yf := hK5.frozen 1; clear hown5 hg5 hA5 hg5' hK5)
          | (go_simp; go_at_call 32; refine (iR.out _).mono ?_; rintro e w7 ⟨rfl, h3⟩; have h3' : Below wr.heap.size wr w7 := (by first | exact h3 | exact ⟨h3.os, h3.tape, h3.output, h3.size, h3.block⟩); have HA3 := hid (HA.out.belowS h3'); have c3 := hcA.out _ HA3.out; have k3 : w7.cell? ⟨KB, 1, none⟩ = some (.slice AR i cR) := HA3.out.hK.cellAt rfl; have k3a := (fun o => cell_allocN k3 o); have HN3 : Hid (Reads (w7.alloc (.cells #[nW X] 3)) (w7.heap.size + 1) 1 (some ⟨w7.heap.size, 0, none⟩) 1 [nW X]) := hid (Reads.new w7 #[nW X] 3 1 rfl); clear h3 h3'; try dsimp only))
        all_goals
          have H9 : Hid (KnowAt w KB B2 (some ad) AF 8 cF ((shNew.v.list.take 8).map nW) A9 (i + 1) c9 ((shaK.take (i + 1)).map nW) (w8.setCell ⟨KB, 1, none⟩ (.slice A9 (i + 1) c9))) := hid (by rw [HKX.out, List.map_append]; exact HF.out)
          clear c0 k0 c3 k3 k3a y4 yf HN3 HF
          go_wp2_with fail
          go_roundw
          case rel => exact ⟨i + 1, AF, 8, cF, A9, c9, by omega, by omega, by go_num, H9.out⟩
          case measure => simp [intOf]; omega
    · have hi9 : i = 64 := by omega
      have y0 : decide ((i : Int) < 64) = false := decide_eq_false (by omega)
      have hn8 : nF = 8 := by omega
      have HFIN : Hid (KnowAt w KB B2 Ap AF 8 cF (shNew.v.list.map nW) AR 64 cR (shaK.map nW) wr) := hid (by
        have h9 := HA.out
        rw [hn8, hi9, List.take_of_length_le (Nat.le_of_eq (show shNew.v.list.length = 8 from rfl)), List.take_of_length_le (Nat.le_of_eq (show shaK.length = 64 from rfl))] at h9
        exact h9)
      clear hi9 hn8 HA hnF
      have k0 : wr.cell? ⟨KB, 0, none⟩ = some (.slice AF 8 cF) := HFIN.out.hK.cellAt rfl
      have k1 : wr.cell? ⟨KB, 1, none⟩ = some (.slice AR 64 cR) := HFIN.out.hK.cellAt rfl
      have z0 : wr.cell? ⟨w.heap.size, 0, none⟩ = some (.slice none 0 0) := HFIN.out.hR.cellAt rfl
      have z1 : wr.cell? ⟨w.heap.size, 1, none⟩ = some (.slice none 0 0) := HFIN.out.hR.cellAt rfl
      have zf := HFIN.out.hR.frozen
      have hne : w.heap.size ≠ KB := by have := HFIN.out.l1; omega
      have hne' : KB ≠ w.heap.size := hne.symm
      go_wp2_with fail
      obtain ⟨wq, hwq, hrq, hkq⟩ : ∃ W : World, (wr.setCell ⟨w.heap.size, 0, none⟩ (.slice AF 8 cF)).setCell ⟨w.heap.size, 1, none⟩ (.slice AR 64 cR) = W ∧ Blk W w.heap.size 30 [.slice AF 8 cF, .slice AR 64 cR] ∧ ∀ b, b ≠ w.heap.size → W.heap[b]? = wr.heap[b]? := ⟨_, rfl, (HFIN.out.hR.set_ 0 _).set_ 1 _, fun b hb => (setN_heap _ _ _ _ b hb).trans (setN_heap _ _ _ _ b hb)⟩
      have HBQ : Hid (Below w.heap.size w wq) := hid (by rw [← hwq]; exact (HFIN.out.bel.setCell (p := ⟨w.heap.size, 0, none⟩) (Nat.le_refl _) _).setCell (p := ⟨w.heap.size, 1, none⟩) (Nat.le_refl _) _)
      rw [hwq]
      clear hwq k0 k1 z0 z1 zf
      have r0 : wq.cell? ⟨w.heap.size, 0, none⟩ = some (.slice AF 8 cF) := hrq.cellAt rfl
      have r1 : wq.cell? ⟨w.heap.size, 1, none⟩ = some (.slice AR 64 cR) := hrq.cellAt rfl
      refine bodyPost_ret (v := .agg #[.slice AF 8 cF, .slice AR 64 cR]) (by simp [results, Try.results15, go_sem, r0, r1]) rfl ?_
      have h9 := HFIN.out
      have g1 := own_keepN h9.o1 (w' := wq) fun b hb => hkq b (by have := (own_rngN h9.o1 hb).1; have := h9.l1; have := h9.l2; omega)
      have g2 := own_keepN h9.o2 (w' := wq) fun b hb => hkq b (by have := (own_rngN h9.o2 hb).1; have := h9.l1; have := h9.l2; omega)
      exact ⟨AF, cF, AR, cR, rfl, Reads.of_own g1, Reads.of_own g2, (own_cap g1).1, (own_cap g1).2, (own_cap g2).1, (own_cap g2).2, HBQ.out⟩
end Go.Proofs.Ytojffpfgmlegdaa
