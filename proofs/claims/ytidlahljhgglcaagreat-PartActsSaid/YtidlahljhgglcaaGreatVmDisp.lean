/-
  The table of instructions; which one is done.
-/
import Derived.Test.YtidlahljhgglcaaGreatVmTwo
import Derived.Test.YtidlahljhgglcaaGreatVmChan
import Derived.Test.YtidlahljhgglcaaGreatVmMach
import Derived.Laws.EntriesVeiled
import Derived.Deep.WholeRow
namespace Go.Proofs.YtidlahljhgglcaaGreat
open Go.RowKit Go.ChangeShapes Go.WideShapes Go.ChangeAt

def deedN (o : Nat) : Nat := match o with
  | 0 => 60
  | 1 => 61
  | 2 => 62
  | 3 => 63
  | 4 => 64
  | 5 => 65
  | 6 => 66
  | 7 => 67
  | 8 => 68
  | 9 => 69
  | 10 => 70
  | 11 => 71
  | 12 => 72
  | 13 => 73
  | 14 => 74
  | 15 => 75
  | 16 => 76
  | 17 => 77
  | _ => 78
def fnC : List Value := [.func (.func 60) #[] #[], .func (.func 61) #[] #[], .func (.func 62) #[] #[], .func (.func 63) #[] #[], .func (.func 64) #[] #[], .func (.func 65) #[] #[], .func (.func 66) #[] #[], .func (.func 67) #[] #[], .func (.func 68) #[] #[], .func (.func 69) #[] #[], .func (.func 70) #[] #[], .func (.func 71) #[] #[], .func (.func 72) #[] #[], .func (.func 73) #[] #[], .func (.func 74) #[] #[], .func (.func 75) #[] #[], .func (.func 76) #[] #[], .func (.func 77) #[] #[], .func (.func 78) #[] #[]]
section
variable {w w' : World} {F : Nat → Prop} {h g gs : Nat} {i : ImgS} {a : VmA} {cs : List ChanS} {pc ticks fault arg : Int} {Ao : Option Addr} {cO : Nat} {d : VmD}
theorem deed_any (t : TickAt w F h g gs i cs pc ticks fault arg d) (hI : RightI i) (hF : Fine i d) (hK : KAll cs d.ss) (hd : ∀ k, k < cs.length → depthAt cs k ≤ 4) (hsn : d.sent.length ≤ 1000) (ha0 : 0 ≤ arg) (o : Nat) (ho : o ≤ 18) :
    Calls Tryz.prog (deedN o) #[.pointer (some ⟨h, 0, none⟩)] w (DPost F w h g gs i cs pc ticks fault arg (deedF i cs ticks o arg d)) := by
  have hl : d.stack.length ≤ 100 := by have := hF.len; omega
  have hm : d.mem.length ≤ 1000 := by have := hF.mlen; have := hI.2.2.2.1; omega
  have hst : ∀ x ∈ d.stack, InW x := hF.st
  have hi1 := hI.2.2.2.2.2.1
  have hi2 := hI.2.2.2.2.2.2.1
  have h19 : o = 0 ∨ o = 1 ∨ o = 2 ∨ o = 3 ∨ o = 4 ∨ o = 5 ∨ o = 6 ∨ o = 7 ∨ o = 8 ∨ o = 9 ∨ o = 10 ∨ o = 11 ∨ o = 12 ∨ o = 13 ∨ o = 14 ∨ o = 15 ∨ o = 16 ∨ o = 17 ∨ o = 18 := by omega
  rcases h19 with rfl | rfl | rfl | rfl | rfl | rfl | rfl | rfl | rfl | rfl | rfl | rfl | rfl | rfl | rfl | rfl | rfl | rfl | rfl
  · exact deed_yield t
  · exact deed_push t hl
  · exact deed_drop t hl
  · exact deed_dup t hl
  · exact deed_turn t hl
  · exact deed_add t hl hst
  · exact deed_sub t hl hst
  · exact deed_mul t hl hst
  · exact deed_less t hl hst
  · exact deed_same t hl hst
  · exact deed_load t hl hm ha0
  · exact deed_store t hl hm ha0
  · exact deed_jump t hl ha0
  · exact deed_zero t hl ha0
  · exact deed_send t hl ha0 hi1 hK hd hsn
  · exact deed_get t hl ha0 hi2
  · exact deed_confirm t
  · exact deed_halt t
  · exact deed_now t hl
/-- A word of a machine's own. -/
theorem TickAt.machSet (t : TickAt w F h g gs i cs pc ticks fault arg d) {k : Nat} {v : Value} {pc' ticks' fault' : Int} (hr : ∀ a : VmA, (machC i a (machS pc ticks fault d)).set k v = machC i a (machS pc' ticks' fault' d)) :
    TickAt (w.setCell ⟨g, k, none⟩ v) F h g gs i cs pc' ticks' fault' arg d ∧ Goes F w F (w.setCell ⟨g, k, none⟩ v) := by
  obtain ⟨a, Ao, cO, F2, m, r, hs, ha, hF⟩ := t
  have hk : ∀ b, b ≠ g → (w.setCell ⟨g, k, none⟩ v).heap[b]? = w.heap[b]? := fun b hb => Below.heap_setCell _ _ _ _ hb
  have hFg : F g := (hF g).2 (.inl (.inl rfl))
  have rk := r.keep (w' := w.setCell ⟨g, k, none⟩ v) fun b hb => hk b (fun e => r.apart m hb (.inl e))
  refine ⟨⟨a, Ao, cO, F2, ⟨?_, m.cd.keep fun b hb => hk b (fun e => m.off.1 (e ▸ hb)), m.st.keep fun b hb => hk b (fun e => m.off.2.1 (e ▸ hb)), m.me.keep fun b hb => hk b (fun e => m.off.2.2 (e ▸ hb)), m.ap⟩, rk, hs.keep (by simp [World.setCell]) fun b hb => hk b (fun e => (ha b hb).1 (.inl e)), ha, hF⟩, ⟨(Apart.refl _ _).setCell (.inl hFg) _, fun _ h9 => .inl h9⟩⟩
  have := m.blk.set_ k v
  rw [hr a] at this
  exact this
end
def nilC : List Value := [.nilFunc, .nilFunc, .nilFunc, .nilFunc, .nilFunc, .nilFunc, .nilFunc, .nilFunc, .nilFunc, .nilFunc, .nilFunc, .nilFunc, .nilFunc, .nilFunc, .nilFunc, .nilFunc, .nilFunc, .nilFunc, .nilFunc]
abbrev fnTy : TypeId := 133
theorem info_fns : (Tryz.prog.info? fnTy).map (·.size) = some 19 := by kernel_rfl
theorem fns_any (cs : Array Value) (h : cs.size = 19) : (Tryz.prog.info? fnTy).map (·.size) = some cs.size := by rw [h]; exact info_fns
set_option maxRecDepth 100000 in
theorem deeds_any (w : World) : Calls Tryz.prog 49 #[] w fun e w' => e = .returned (.agg fnC.toArray) ∧ Below w.heap.size w w' := by
  obtain ⟨Z, hZ⟩ : ∃ Z : Array Value, nilC.toArray = Z := ⟨_, rfl⟩
  have hZs : Z.size = 19 := by rw [← hZ]; rfl
  have hFs : fnC.toArray.size = 19 := rfl
  have hF1 : fnC.toArray.all (·.oneCell') = true := by simp [fnC, Value.oneCell']
  go_enter Tryz.func49, Tryz.ntmps49
  go_upto_region 1 with fail
  change Code.wp _ _ _ _ (w.alloc (.cells nilC.toArray fnTy))
  rw [hZ]
  go_wp2_with (refine wpList_store_row rfl fnTy _ _ rfl w.heap.size fnC.toArray rfl (by rfl) fnTy Z (heap_alloc_new w _) (fns_any _ hFs) (by rw [hZs, hFs]) hF1 ?_; rw [World.setRow_alloc_new])
  refine bodyPost_ret (v := .agg fnC.toArray) (results_cell_row (P := Tryz.prog) (fn := Tryz.f49) (p := 0) (ty := fnTy) (by rfl) _ _ w.heap.size fnTy fnC.toArray (0, 0) _ (by rfl) (heap_alloc_new w _) Tryz.underlying133 (by rfl) (fns_any _ hFs)) rfl ?_
  exact ⟨rfl, (Below.refl _ _).alloc (Nat.le_refl _) _⟩
end Go.Proofs.YtidlahljhgglcaaGreat
