/-
  Package sha: words added, the rounds' constants, a digest's beginning.
-/
import Derived.Test.YtojffpfgmlegdaaShaW
import Derived.Deep.WholeRow
import Derived.Laws.Rows
namespace Go.Proofs.Ytojffpfgmlegdaa
open Go.RowKit

set_option maxRecDepth 20000 in
set_option maxHeartbeats 2000000 in
theorem sh_plus_any (v o : Sh8) (w : World) :
    Calls Try.prog 65 #[agg8 v, agg8 o] w fun e w' => e = .returned (agg8 (v.plus o)) ∧ Below w.heap.size w w' := by
  obtain ⟨a, b, c, d, e, f, g, h⟩ := v
  obtain ⟨a', b', c', d', e', f', g', h'⟩ := o
  have ka := b32_add a a'
  have kb := b32_add b b'
  have kc := b32_add c c'
  have kd := b32_add d d'
  have ke := b32_add e e'
  have kf := b32_add f f'
  have kg := b32_add g g'
  have kh := b32_add h h'
  have HR : Hid ((Sh8.mk a b c d e f g h).plus ⟨a', b', c', d', e', f', g', h'⟩ = ⟨a + a', b + b', c + c', d + d', e + e', f + f', g + g', h + h'⟩) := hid rfl
  generalize (Sh8.mk a b c d e f g h).plus ⟨a', b', c', d', e', f', g', h'⟩ = R at *
  generalize a + a' = sa at *
  generalize b + b' = sb at *
  generalize c + c' = sc at *
  generalize d + d' = sd at *
  generalize e + e' = se at *
  generalize f + f' = sf at *
  generalize g + g' = sg at *
  generalize h + h' = sh at *
  simp only [agg8] at *
  go_enter Try.func65, Try.ntmps65
  go_wp2_with fail
  have hR := HR.out
  subst hR
  refine bodyPost_ret (v := agg8 ⟨sa, sb, sc, sd, se, sf, sg, sh⟩) (by simp [results, Try.results65, go_sem]) rfl ?_
  exact ⟨rfl, (((Below.refl _ _).alloc (Nat.le_refl _) _).alloc (by simp) _).alloc (by simp; omega) _⟩

def shaKA : Array Value := #[.int .u32 1116352408, .int .u32 1899447441, .int .u32 3049323471, .int .u32 3921009573, .int .u32 961987163, .int .u32 1508970993, .int .u32 2453635748, .int .u32 2870763221, .int .u32 3624381080, .int .u32 310598401, .int .u32 607225278, .int .u32 1426881987, .int .u32 1925078388, .int .u32 2162078206, .int .u32 2614888103, .int .u32 3248222580, .int .u32 3835390401, .int .u32 4022224774, .int .u32 264347078, .int .u32 604807628, .int .u32 770255983, .int .u32 1249150122, .int .u32 1555081692, .int .u32 1996064986, .int .u32 2554220882, .int .u32 2821834349, .int .u32 2952996808, .int .u32 3210313671, .int .u32 3336571891, .int .u32 3584528711, .int .u32 113926993, .int .u32 338241895, .int .u32 666307205, .int .u32 773529912, .int .u32 1294757372, .int .u32 1396182291, .int .u32 1695183700, .int .u32 1986661051, .int .u32 2177026350, .int .u32 2456956037, .int .u32 2730485921, .int .u32 2820302411, .int .u32 3259730800, .int .u32 3345764771, .int .u32 3516065817, .int .u32 3600352804, .int .u32 4094571909, .int .u32 275423344, .int .u32 430227734, .int .u32 506948616, .int .u32 659060556, .int .u32 883997877, .int .u32 958139571, .int .u32 1322822218, .int .u32 1537002063, .int .u32 1747873779, .int .u32 1955562222, .int .u32 2024104815, .int .u32 2227730452, .int .u32 2361852424, .int .u32 2428436474, .int .u32 2756734187, .int .u32 3204031479, .int .u32 3329325298]
theorem shaKA_eq : (shaK.map wV).toArray = shaKA := by
  simp [shaK, shaKA]
def zeroKA : Array Value := (List.replicate 64 (wV 0)).toArray
theorem zeroKA_size : zeroKA.size = 64 := by simp [zeroKA]
theorem zeroKA_run (w : World) : (zeroValue 86).run Try.prog w = .ok (.agg zeroKA) w := by kernel_rfl
theorem shaKA_one : shaKA.all (·.oneCell') = true := by kernel_rfl
theorem shaKA_size : (Try.prog.info? 86).map (·.size) = some shaKA.size := by kernel_rfl
set_option maxRecDepth 20000 in
set_option maxHeartbeats 2000000 in
theorem sh_constants_any (w : World) :
    Calls Try.prog 61 #[] w fun e w' => e = .returned (.agg (shaK.map wV).toArray) ∧ Below w.heap.size w w' := by
  rw [shaKA_eq]
  have hz := zeroKA_run
  have hzs := zeroKA_size
  go_enter Try.func61, Try.ntmps61
  go_wp2_with ((refine wpList_store_row rfl 86 _ _ rfl w.heap.size shaKA rfl (by as_aux_lemma => kernel_rfl) 86 zeroKA (heap_alloc_new w _) shaKA_size (by rw [zeroKA_size]; rfl) shaKA_one ?_))
  have hrow : ((w.alloc (.cells zeroKA 86)).setRow w.heap.size shaKA).heap[w.heap.size]? = some (.cells shaKA 86 (0, 0)) :=
    setRow_heap (w.alloc (.cells zeroKA 86)) w.heap.size zeroKA shaKA 86 (0, 0) (heap_alloc_new w _)
  refine bodyPost_ret (v := .agg shaKA) (results_cell_row (P := Try.prog) (fn := Try.f61) (p := 0) (ty := 86) (by rfl) _ _ w.heap.size 86 shaKA (0, 0) _ (by rfl) hrow Try.underlying86 (by rfl) shaKA_size) rfl ?_
  refine ⟨rfl, ?_⟩
  rw [World.setRow_alloc_new]
  exact (Below.refl _ _).alloc (Nat.le_refl _) _
end Go.Proofs.Ytojffpfgmlegdaa
