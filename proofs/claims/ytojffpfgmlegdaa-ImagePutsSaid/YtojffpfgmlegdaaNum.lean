/-
  Package num and the first reference: what each function computes.
-/
import Derived.Test.YtojffpfgmlegdaaBase
import Derived.Test.YtojffpfgmlegdaaNumPlain
namespace Go.Proofs.Ytojffpfgmlegdaa
open Go.RowKit

theorem info_u8 : (Try.prog.info? 5).map (fun i => (i.zero, i.size, i.bytes)) = some (some (.int .u8 0), 1, 1) := by kernel_rfl

theorem held_any (x : Int) (w : World) :
    Calls Try.prog 66 #[.int .i64 x] w fun e w' => e = .returned (.int .i64 (wid x)) ∧ w = w' := by
  by_cases h1 : x < 1
  · have hw : wid x = 1 := by simp [wid, h1]
    rw [hw]; clear hw
    go_enter Try.func66, Try.ntmps66
    go_wp2
    go_ret
    exact ⟨rfl, rfl⟩
  · by_cases h2 : x > 6
    · have hw : wid x = 6 := by simp [wid, h1, h2]
      rw [hw]; clear hw
      go_enter Try.func66, Try.ntmps66
      go_wp2
      go_ret
      exact ⟨rfl, rfl⟩
    · have hw : wid x = x.toNat := by simp [wid, h1, h2]
      rw [hw]; clear hw
      go_enter Try.func66, Try.ntmps66
      go_wp2
      go_ret
      exact ⟨ret_int (by omega), rfl⟩

theorem width_any (x : Int) (w : World) :
    Calls Try.prog 74 #[.int .i64 x] w fun e w' => e = .returned (.int .i64 (wid x)) ∧ w = w' := by
  go_enter Try.func74, Try.ntmps74
  go_wp2
  all_goals go_ret
  all_goals exact ⟨ret_int (by unfold wid; split <;> (try split) <;> omega), rfl⟩

/-- append of bytes to bytes that the call made. -/
theorem appB {ops : Array Oper} {rest : List Oper} {o : Oper} {a : Act} {Q : Exit → Act → World → Prop} (w : World) (hgd : o.guard = none) (s x : Operand)
    (ho : o.op = .call { callee := .builtin .append, args := #[s, x], argTypes := #[22, 22] })
    (base : Nat) (A0 : Option Addr) (n c0 : Nat) (bs : List UInt8) (hs : a.eval s = .slice A0 n c0) (hown : w.ownsRow base 5 1 (.slice A0 n c0) n (bs.map bV))
    (B : Nat) (A : Option Addr) (m c : Nat) (cs : List UInt8) (hx : a.eval x = .slice A m c) (hr : Reads w B 1 A m (cs.map bV)) (hlim : n + m ≤ 140737488355328) (hbase : base ≤ w.heap.size)
    (h : ∀ A' c' w', w'.ownsRow base 5 1 (.slice A' (n + m) c') (n + m) ((bs ++ cs).map bV) → w.grownBy w' (Value.slice A0 n c0).ownBlock → Below base w w' → wpList Try.prog ops Q rest (a.put o.dst (.slice A' (n + m) c')) w') : wpList Try.prog ops Q (o :: rest) a w := by
  obtain ⟨i0, hi0, hz0, hz1, hz2⟩ := info_parts info_u8
  refine wpList_app w hgd s x _ ho base 5 i0 _ 1 1 Try.underlying22 hi0 hz0 hz1 hz2 rfl (by decide) _ n (bs.map bV) hs hown B A m c (cs.map bV) hx hr (oneCell_b cs) (by simp [maxLen]; omega) (by omega) hbase ?_
  intro A' c' w' h1 h2 _
  rw [← List.map_append] at h1
  exact h A' c' w' h1 h2 (below_own (Below.refl _ _) hown h2 (Nat.le_refl _) hbase)

/-- 'append([]byte{}, b...)': bytes of their own. -/
theorem copyB {ops : Array Oper} {rest : List Oper} {o : Oper} {a : Act} {Q : Exit → Act → World → Prop} (w : World) (hgd : o.guard = none) (s x : Operand)
    (ho : o.op = .call { callee := .builtin .append, args := #[s, x], argTypes := #[22, 22] })
    (hs : a.eval s = .slice (some ⟨w.heap.size, 0, none⟩) 0 0)
    (A : Option Addr) (m c : Nat) (cs : List UInt8) (hx : a.eval x = .slice A m c) (hr : Reads w w.heap.size 1 A m (cs.map bV)) (hlim : m ≤ 140737488355328)
    (h : ∀ A' c' w', w'.ownsRow w.heap.size 5 1 (.slice A' m c') m (cs.map bV) → Below w.heap.size w w' → wpList Try.prog ops Q rest (a.put o.dst (.slice A' m c')) w') : wpList Try.prog ops Q (o :: rest) a (w.alloc (.cells #[] 5)) := by
  refine appB _ hgd s x ho w.heap.size (some ⟨w.heap.size, 0, none⟩) 0 0 [] hs (World.ownsRow_made w _ 0 (Nat.le_refl _) (by simp [maxLen]) rfl) w.heap.size A m c cs hx (hr.alloc (Nat.le_refl _) _) (by omega) (by simp) ?_
  intro A' c' w' h1 _ h3
  rw [Nat.zero_add, List.nil_append] at h1
  rw [Nat.zero_add]
  exact h A' c' w' h1 (((Below.refl _ _).alloc (Nat.le_refl _) _).trans h3)

theorem clone_any (A : Option Addr) (n c : Nat) (bs : List UInt8) (w : World) (h : Reads w w.heap.size 1 A n (bs.map bV)) (hn : n ≤ 100000000000) :
    Calls Try.prog 67 #[.slice A n c] w fun e w' => ∃ A' c', e = .returned (.slice A' n c') ∧ w'.ownsRow w.heap.size 5 1 (.slice A' n c') n (bs.map bV) ∧ Below w.heap.size w w' := by
  have hnil := fun (W : World) (a : Option Addr) => Lib.run_eql_slice_nil (P := Try.prog) W 22 5 a n c 0 0 Try.underlying22
  cases A with
  | none =>
    have hb : n = 0 := by
      by_cases h0 : 0 < n
      · obtain ⟨ad, he, _⟩ := h.form h0
        cases he
      · omega
    subst hb
    have hb : bs = [] := List.eq_nil_of_length_eq_zero (by simpa using h.len)
    subst hb
    clear h
    go_enter Try.func67, Try.ntmps67
    go_wp2
    go_ret
    exact ⟨none, 0, rfl, World.ownsRow_nil _ _ _ _, Below.refl _ _⟩
  | some ad =>
    go_enter Try.func67, Try.ntmps67
    go_wp2_with (at_builtin; refine appB _ rfl (.tmp 5) (.tmp 6) rfl w.heap.size (some ⟨w.heap.size, 0, none⟩) 0 0 [] rfl (World.ownsRow_made w _ 0 (Nat.le_refl _) (by simp [maxLen]) rfl) w.heap.size (some ad) n c bs rfl (h.alloc (Nat.le_refl _) _) (by omega) (by simp) ?_; intro A' c' w' hown hg hb)
    go_ret
    exact ⟨A', c', by simp, by simpa using hown, (((Below.refl _ _).alloc (Nat.le_refl _) _).trans hb)⟩

/-- '1<<(8*w)', w from 1 to 6, under a name. -/
theorem pow_name (W : Nat) (h : 1 ≤ W ∧ W ≤ 6) : ∃ P : Nat, wrap64 (2 ^ (8 * W)) = (P : Int) ∧ 256 ≤ P ∧ P ≤ 281474976710656 ∧ Hid (P = 256 ^ W) := by
  refine ⟨256 ^ W, ?_, ?_, ?_, rfl⟩
  · rcases pow_cases W h.1 h.2 with rfl | rfl | rfl | rfl | rfl | rfl <;> exact (IntWalk.wrap64_in _ ⟨by decide, by decide⟩).trans (by decide)
  · rcases pow_cases W h.1 h.2 with rfl | rfl | rfl | rfl | rfl | rfl <;> decide
  · rcases pow_cases W h.1 h.2 with rfl | rfl | rfl | rfl | rfl | rfl <;> decide
/-- The number that is held below it, under a name. -/
theorem clip_name (x : Int) (W P : Nat) (h : 1 ≤ W ∧ W ≤ 6) (hP : Hid (P = 256 ^ W)) : ∃ (m : Nat) (X0 : Int), (if x < 0 then 0 else x) = X0 ∧
    (if (P : Int) - 1 < X0 then (P : Int) - 1 else X0) = (m : Int) ∧ m < 281474976710656 ∧ Hid (m = clip x W) := by
  refine ⟨clip x W, _, rfl, ?_, ?_, rfl⟩
  · have := pow256_le W h.2
    rw [hP.out]
    unfold clip
    split <;> split <;> omega
  · have := pow256_le W h.2
    have := clip_lt x W h.2
    omega

theorem put_any (A : Option Addr) (n c : Nat) (bs : List UInt8) (x ww : Int) (w : World) (h : Reads w w.heap.size 1 A n (bs.map bV)) (hn : n ≤ 100000000) :
    Calls Try.prog 47 #[.slice A n c, .int .i64 x, .int .i64 ww] w fun e w' => ∃ A' c', e = .returned (.slice A' (n + wid ww) c') ∧
      w'.ownsRow w.heap.size 5 1 (.slice A' (n + wid ww) c') (n + wid ww) ((bs ++ putB x (wid ww)).map bV) ∧ Below w.heap.size w w' := by
  have hw := wid_bd ww
  have hheld := hid (fun w => held_any ww w)
  generalize wid ww = W at hw hheld ⊢
  go_enter Try.func47, Try.ntmps47
  go_wp2_with fail
  refine (hheld.out _).mono ?_
  rintro e w' ⟨rfl, rfl⟩
  clear hheld
  obtain ⟨P, hP, hP1, hP2, HP⟩ := pow_name W hw
  obtain ⟨m, X0, hX0, hM, hm2, Hm⟩ := clip_name x W P hw HP
  go_wp2_with fail
  refine (clone_any A n c bs w h (by omega)).mono ?_
  rintro e w1 ⟨A1, c1, rfl, hown, hb⟩
  clear hP hX0 hM
  go_wp2_with fail
  go_loopw [7, 8] (fun v i wr => ∃ k A2 c2, k ≤ W ∧ i = .int .i64 ((W : Int) - (k : Int)) ∧ v = .slice A2 (n + k) c2 ∧ wr.ownsRow w.heap.size 5 1 (.slice A2 (n + k) c2) (n + k) ((bs ++ (digs m W).take k).map bV) ∧ Below w.heap.size w wr) (fun _ i _ => (intOf i).toNat)
  case atStart => exact ⟨0, A1, c1, by omega, by simp, by simp, by simpa using hown, hb⟩
  case round =>
    obtain ⟨k, A2, c2, hk, rfl, rfl, hown2, hb2⟩ := hrel
    by_cases hkW : k < W
    · have hd := dig_val m W k hkW
      have HD := hid (digs_take_succ m W k hkW)
      go_wp2_with (at_builtin; refine appB _ rfl (.tmp 25) (.tmp 32) rfl w.heap.size A2 (n + k) c2 _ rfl (hown2.alloc _) (wr.heap.size + 1) _ 1 1 [dig m W k] rfl (Reads.new wr _ _ 1 rfl) (by omega) (by have := hb2.size; simp; omega) ?_; intro A3 c3 w3 hown3 hg3 hb3)
      have hb4 : Below w.heap.size w w3 := (hb2.alloc hb2.size _).trans hb3
      go_roundw
      case rel => exact ⟨k + 1, A3, c3, by omega, by go_num, rfl, by rw [HD.out, ← List.append_assoc]; exact hown3, hb4⟩
      case measure => simp [intOf]; omega
    · obtain rfl : k = W := by omega
      rw [List.take_of_length_le (by simp [digs])] at hown2
      go_wp2_with fail
      go_ret
      exact ⟨A2, c2, rfl, by rw [putB, ← Hm.out]; exact hown2, hb2⟩


/-- Are bytes alike? -/
theorem same_any (A1 A2 : Option Addr) (n1 n2 c1 c2 : Nat) (xs bs : List UInt8) (w : World) (B1 B2 : Nat) (h1 : Reads w B1 1 A1 n1 (xs.map bV)) (h2 : Reads w B2 1 A2 n2 (bs.map bV)) (hn : n1 ≤ 100000000000) (hm : n2 ≤ 100000000000) :
    Calls Try.prog 13 #[.slice A1 n1 c1, .slice A2 n2 c2] w fun e w' => e = .returned (.bool (decide (xs = bs))) ∧ ∃ q, w' = w.drewN q := by
  have l1 : xs.length = n1 := by simpa using h1.len
  have l2 : bs.length = n2 := by simpa using h2.len
  by_cases hne : n1 = n2
  · have HL1 := hid l1
    have HL2 := hid l2
    clear l1 l2
    subst hne
    go_enter Try.func13, Try.ntmps13
    go_wp2_with fail
    go_loopw [5] (fun i wr => ∃ k : Nat, k ≤ n1 ∧ i = .int .i64 k ∧ (∃ q, wr = w.drewN q) ∧ xs.take k = bs.take k) (fun i _ => n1 - (intOf i).toNat)
    case atStart => exact ⟨0, by omega, rfl, ⟨0, rfl⟩, by simp⟩
    case round =>
      obtain ⟨k, hk, rfl, ⟨q, rfl⟩, htk⟩ := hrel
      have HT := hid htk
      clear htk
      by_cases hkn : k < n1
      · obtain ⟨ad1, x1, rfl, _, hx1, hc1⟩ := h1.atM hkn
        obtain ⟨ad2, x2, rfl, _, hx2, hc2⟩ := h2.atM hkn
        have HX1 := hid hx1
        have HX2 := hid hx2
        clear hx1 hx2 h1 h2
        by_cases hxe : x1 = x2
        · subst hxe
          go_wp2_with fail
          go_quiet (fail)
          go_wp2_with fail
          go_roundw
          case rel => exact ⟨k + 1, by omega, by go_num, ⟨_, rfl⟩, by rw [List.take_add_one, List.take_add_one, HT.out, HX1.out, HX2.out]⟩
          case measure => simp [intOf]; omega
        · have hd : decide (xs = bs) = false := by
            simp only [decide_eq_false_iff_not]
            rintro rfl
            rw [HX1.out] at HX2
            exact hxe (by injection HX2.out)
          have hne : ((x1.toNat : Int) == (x2.toNat : Int)) = false := by
            simp only [beq_eq_false_iff_ne, ne_eq]
            intro h
            exact hxe (UInt8.toNat.inj (by omega))
          have hne2 : ((x1.toNat : Int) != (x2.toNat : Int)) = true := by rw [bne, hne]; rfl
          go_wp2_with fail
          go_quiet (fail)
          go_wp2_with fail
          go_ret
          exact ⟨by rw [hd]; rfl, q + nq, by rw [World.drewN_drewN]⟩
      · obtain rfl : k = n1 := by omega
        have hd : decide (xs = bs) = true := by
          have h := HT.out
          rw [List.take_of_length_le (by have := HL1.out; omega), List.take_of_length_le (by have := HL2.out; omega)] at h
          simpa using h
        go_wp2_with fail
        go_ret
        exact ⟨by rw [hd]; rfl, _, rfl⟩
  · have hd : decide (xs = bs) = false := by
      simp only [decide_eq_false_iff_not]
      rintro rfl
      omega
    have HD := hid hd
    clear hd l1 l2
    have hne1 : ((n1 : Int) != (n2 : Int)) = true := by rw [bne_iff_ne]; omega
    go_enter Try.func13, Try.ntmps13
    go_wp2_with fail
    go_ret
    exact ⟨by rw [HD.out]; rfl, 0, rfl⟩

theorem same_b (A1 A2 : Option Addr) (n1 n2 c1 c2 : Nat) (xs bs : List UInt8) (w : World) (h1 : Reads w w.heap.size 1 A1 n1 (xs.map bV)) (h2 : Reads w w.heap.size 1 A2 n2 (bs.map bV)) (hn : n1 ≤ 100000000000) (hm : n2 ≤ 100000000000) :
    Calls Try.prog 13 #[.slice A1 n1 c1, .slice A2 n2 c2] w fun e w' => e = .returned (.bool (decide (xs = bs))) ∧ Below w.heap.size w w' :=
  (same_any A1 A2 n1 n2 c1 c2 xs bs w _ _ h1 h2 hn hm).mono fun _ _ ⟨he, q, hw⟩ => ⟨he, by rw [hw]; exact below_drewN (Below.refl _ _) q⟩

/-- make of so many bytes. -/
theorem makeB (w : World) {ops : Array Oper} {rest : List Oper} {o : Oper} {a : Act} {Q : Exit → Act → World → Prop}
    (hg : o.guard = none) (l : Operand) (hop : o.op = Op.makeSlice 22 l l) (n : Nat) (hl : a.eval l = .int .i64 (n : Int)) (hn : n ≤ 100000000000)
    (hK : ∀ w', w'.ownsRow w.heap.size 5 1 (.slice (some ⟨w.heap.size, 0, none⟩) n n) n ((List.replicate n (0 : UInt8)).map bV) → Below w.heap.size w w' → wpList Try.prog ops Q rest (a.put o.dst (.slice (some ⟨w.heap.size, 0, none⟩) n n)) w') :
    wpList Try.prog ops Q (o :: rest) a w := by
  obtain ⟨i0, hi0, hz0, hz1, hz2⟩ := info_parts info_u8
  refine wpList_make_full w hg l l _ hop w.heap.size 5 i0 _ 1 Try.underlying22 hi0 hz0 hz1 .i64 .i64 _ _ n hl hl rfl rfl (by rw [hz2]; omega) (by simp [maxLen]; omega) (Nat.le_refl _) ?_
  intro w' h1 h2
  refine hK w' ?_ ((Below.refl _ _).grown h2 (Nat.le_refl _) (by simp))
  have e : (madeCells (Value.int IntKind.u8 0).cells (n * 1)).toList = (List.replicate n (0 : UInt8)).map bV := by
    rw [show (Value.int IntKind.u8 0).cells = #[.int .u8 0] from rfl, toList_madeCells_one]
    simp [bV]
  rw [e] at h1
  exact h1

theorem refPut_any (x ww : Int) (w : World) (hxx : x ≤ 9223372036854775807) :
    Calls Try.prog 56 #[.int .i64 x, .int .i64 ww] w fun e w' => ∃ A' c', e = .returned (.slice A' (wid ww) c') ∧
      w'.ownsRow w.heap.size 5 1 (.slice A' (wid ww) c') (wid ww) ((putB x (wid ww)).map bV) ∧ Below w.heap.size w w' := by
  have hw := wid_bd ww
  have hheld := hid (fun w => width_any ww w)
  generalize wid ww = W at hw hheld ⊢
  by_cases hx : x < 0
  · go_enter Try.func56, Try.ntmps56
    go_wp2_with (first | (go_at_call 74; refine (hheld.out _).mono ?_; rintro e w' ⟨rfl, rfl⟩) | (at_make; refine makeB w rfl (.tmp 10) rfl W rfl (by omega) ?_; intro w1 hown hb))
    go_ret
    exact ⟨_, _, rfl, by rw [putB_neg x W hw.2 hx]; exact hown, hb⟩
  · obtain ⟨m, rfl⟩ := Int.eq_ofNat_of_zero_le (show 0 ≤ x by omega)
    go_enter Try.func56, Try.ntmps56
    go_wp2_with (first | (go_at_call 74; refine (hheld.out _).mono ?_; rintro e w' ⟨rfl, rfl⟩) | (at_make; refine makeB w rfl (.tmp 10) rfl W rfl (by omega) ?_; intro w1 hown hb))
    go_loopw [0, 6] (fun v0 i wr => ∃ k d : Nat, k ≤ W ∧ i = .int .i64 ((W : Int) - 1 - k) ∧ v0 = .int .i64 (d : Int) ∧ Hid (d = m / 256 ^ k) ∧ d ≤ m ∧ wr.ownsRow w.heap.size 5 1 (.slice (some ⟨w.heap.size, 0, none⟩) W W) W ((rowD m W k).map bV) ∧ Below w.heap.size w wr) (fun _ i _ => (intOf i + 1).toNat)
    case atStart => exact ⟨0, m, by omega, by simp, by simp, hid (by simp), by omega, by rw [rowD_zero]; exact hown, hb⟩
    case round =>
      obtain ⟨k, d, hk, rfl, rfl, HD, hdm, hown2, hb2⟩ := hrel
      by_cases hkW : k < W
      · obtain ⟨b, _, hc, hf⟩ := own_cellM (k := W - 1 - k) hown2 (by omega)
        have hr := dig_rem m W k d hkW HD.out
        obtain ⟨hs1, hs2⟩ := own_storeM hown2 (W - 1 - k) (dig m W (W - 1 - k))
        rw [rowD_set m W k hkW] at hs1
        go_wp2_with fail
        go_roundw
        case rel => exact ⟨k + 1, d / 256, by omega, by go_num, by go_num, hid (by rw [HD.out, div_step]), by omega, hs1, hb2.trans hs2⟩
        case measure => simp [intOf]; omega
      · obtain rfl : k = W := by omega
        rw [rowD_full] at hown2
        have HD2 := HD.out
        by_cases hd0 : d = 0
        · have HP := hid (putB_small (m : Int) k (by simpa using (HD2.symm.trans hd0)))
          clear HD2
          subst hd0
          go_wp2_with fail
          go_ret
          exact ⟨_, _, rfl, by rw [HP.out]; exact hown2, hb2⟩
        · have HP := hid (putB_large (m : Int) k hw.2 (by rw [Int.toNat_natCast, ← HD2]; omega))
          clear HD2
          go_wp2_with fail
          go_loopw [7] (fun i wr => ∃ j : Nat, j ≤ k ∧ i = .int .i64 (j : Int) ∧ wr.ownsRow w.heap.size 5 1 (.slice (some ⟨w.heap.size, 0, none⟩) k k) k ((rowF m k j).map bV) ∧ Below w.heap.size w wr) (fun i _ => k - (intOf i).toNat)
          case atStart => exact ⟨0, by omega, by simp, by rw [rowF_zero]; exact hown2, hb2⟩
          case round =>
            obtain ⟨j, hj, rfl, hown3, hb3⟩ := hrel
            by_cases hjk : j < k
            · obtain ⟨b, _, hc, hf⟩ := own_cellM (k := j) hown3 hjk
              obtain ⟨hs1, hs2⟩ := own_storeM hown3 j (255 : UInt8)
              rw [rowF_set m k j hjk] at hs1
              go_wp2_with fail
              go_roundw
              case rel => exact ⟨j + 1, by omega, by go_num, hs1, hb3.trans hs2⟩
              case measure => simp [intOf]; omega
            · obtain rfl : j = k := by omega
              rw [rowF_full] at hown3
              go_wp2_with fail
              go_ret
              exact ⟨_, _, rfl, by rw [HP.out]; exact hown3, hb3⟩

theorem put_nil (x ww : Int) (w : World) :
    Calls Try.prog 47 #[.slice none 0 0, .int .i64 x, .int .i64 ww] w fun e w' => ∃ A' c', e = .returned (.slice A' (wid ww) c') ∧
      w'.ownsRow w.heap.size 5 1 (.slice A' (wid ww) c') (wid ww) ((putB x (wid ww)).map bV) ∧ Below w.heap.size w w' :=
  (put_any none 0 0 [] x ww w Reads.empty (by omega)).mono fun e w' ⟨A', c', h1, h2, h3⟩ => ⟨A', c', by simpa using h1, by simpa using h2, h3⟩


end Go.Proofs.Ytojffpfgmlegdaa
