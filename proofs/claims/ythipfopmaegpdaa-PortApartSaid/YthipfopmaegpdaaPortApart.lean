/-
  Law 16: what is sent and got through one channel leaves all others (PortApart).
-/
import Derived.Test.YthipfopmaegpdaaPortAny
import Derived.Test.YthipfopmaegpdaaOpenAct
import Derived.Test.YthipfopmaegpdaaSameInts
namespace Go.Proofs.Ythipfopmaegpdaa
open Go.RowKit Go.ChangeShapes Go.WideShapes Go.ChangeAt

set_option maxRecDepth 100000 in
set_option maxHeartbeats 4000000 in
theorem portApart_any (w : World) (t : TabS) (a : TabA) (hT : TabCame w t a) (A : Option Addr) (n c : Nat) (ls : List ActS) (hrd : RdS w w.heap.size 4 A n actC ls) (hnc : n ≤ c) (hcm : c ≤ maxLen) (_ : ∀ q ∈ ls, (Lit.int .i64 q.kind).wf = true ∧ (Lit.int .i64 q.part).wf = true ∧ (Lit.int .i64 q.chan).wf = true ∧ (Lit.int .i64 q.num).wf = true) (kk : Int) (hkw : (Lit.int .u8 kk).wf = true) :
    Calls Try.prog 7 #[.agg #[.int .i64 t.frame, .slice a.A1 t.parts.length a.c1, .slice a.A2 t.wins.length a.c2, .slice a.A3 t.chans.length a.c3, .int .i64 t.trial], .slice A n c, .int .u8 kk] w fun e w' => e = .returned (.bool true) ∧ Below w.heap.size w w' := by
  obtain ⟨A1, k1, A2, k2, A3, k3⟩ := a
  simp only
  have hb0 : Below w.heap.size w (w.alloc (.cells (tabC t ⟨A1, k1, A2, k2, A3, k3⟩).toArray 36)) := (Below.refl _ _).alloc (Nat.le_refl _) _
  have hblk0 : Blk (w.alloc (.cells (tabC t ⟨A1, k1, A2, k2, A3, k3⟩).toArray 36)) w.heap.size 36 (tabC t ⟨A1, k1, A2, k2, A3, k3⟩) := Blk.new w _ _
  have iL := hid (fun w' => longP_any t ⟨A1, k1, A2, k2, A3, k3⟩ w' hT.l1 hT.l2 hT.l3)
  have HC := hid hT
  clear hT
  simp only at iL
  unfold maxLen at hcm
  obtain ⟨K, rfl⟩ : ∃ K : Nat, kk = (K : Int) := ⟨kk.toNat, by have := bounds_u8 hkw; omega⟩
  have hkb := bounds_u8 hkw
  have hrd0 := hid hrd
  clear hrd hkw
  go_enter Try.func7, Try.ntmps7
  go_wp2_with fail
  refine (wakesP_any _).mono ?_
  rintro e w1 ⟨rfl, hb1⟩
  have hb01 := bel_trans hb0 hb1
  have hblk1 := hblk0.belowS hb1
  clear hblk0 hb0 hb1
  obtain ⟨c0, c1, c2, c3, c4⟩ := tab_cells hblk1
  simp only at c0 c1 c2 c3 c4
  go_wp2_with fail
  refine (iL.out _).mono ?_
  rintro e w2 ⟨he, hb2⟩
  have hb02 := bel_trans hb01 hb2
  have hblk2 := hblk1.belowS hb2
  clear c0 c1 c2 c3 c4 hblk1 hb01 hb2 iL
  obtain ⟨c0, c1, c2, c3, c4⟩ := tab_cells hblk2
  simp only at c0 c1 c2 c3 c4
  by_cases hl : longB t = true
  · rw [hl] at he
    subst he
    clear hl hblk2
    go_wp2_with fail
    go_ret
    exact ⟨rfl, hb02⟩
  have hl' : longB t = false := by simpa using hl
  rw [hl'] at he
  subst he
  have HO : Hid (∀ w', Below w.heap.size w w' → TabOk w' t ⟨A1, k1, A2, k2, A3, k3⟩) := hid (fun w' hb => HC.out.ok hl' hb)
  clear hl hl'
  by_cases hn : 60 < n
  · have y0 : decide ((60 : Int) < (n : Int)) = true := decide_eq_true (by omega)
    clear hblk2
    go_wp2_with fail
    go_ret
    exact ⟨rfl, hb02⟩
  have y0 : decide ((60 : Int) < (n : Int)) = false := decide_eq_false (by omega)
  have hn60 : n ≤ 60 := by omega
  clear hn
  have i1 := hid (refRight_any t ⟨A1, k1, A2, k2, A3, k3⟩ w2 (HO.out _ hb02))
  simp only at i1
  go_wp2_with fail
  refine i1.out.mono ?_
  rintro e w3 ⟨he, hb3⟩
  have hb03 := bel_trans hb02 hb3
  have hblk3 := hblk2.belowS hb3
  clear c0 c1 c2 c3 c4 hblk2 hb02 hb3 i1
  obtain ⟨c0, c1, c2, c3, c4⟩ := tab_cells hblk3
  simp only at c0 c1 c2 c3 c4
  by_cases hr : rightB t = true
  case neg =>
    rw [show rightB t = false by simpa using hr] at he
    subst he
    clear hr hblk3
    go_wp2_with fail
    go_ret
    exact ⟨rfl, hb03⟩
  rw [hr] at he
  subst he
  by_cases hz : t.chans.length = 0
  · have z0 : ((t.chans.length : Int) == 0) = true := by simp [hz]
    clear hr hblk3
    have HZ := hid hz
    clear hz
    go_wp2_with fail
    go_ret
    exact ⟨rfl, hb03⟩
  have z0 : ((t.chans.length : Int) == 0) = false := by first | (simp [hz]; done) | (simp [hz]; omega)
  have hzp : 0 < t.chans.length := by omega
  clear hz
  have hR := hid ((rightB_iff t).1 hr)
  have i2 := hid (New_ok t ⟨A1, k1, A2, k2, A3, k3⟩ w3 (HO.out _ hb03) hr)
  simp only at i2
  have hc4 := hR.out.c4
  clear hr
  go_wp2_with fail
  refine i2.out.mono ?_
  rintro e w4 ⟨F, g, rfl, hS, hb4, hF⟩
  have hb04 := hid (bel_trans hb03 hb4)
  have hblk4 := hblk3.belowS hb4
  have hlt0 := hblk3.lt
  have hb03h := hid hb03
  have hblk3h := hid hblk3
  clear c0 c1 c2 c3 c4 hblk3 hb03 i2
  obtain ⟨c0, c1, c2, c3, c4⟩ := tab_cells hblk4
  simp only at c0 c1 c2 c3 c4
  have hS0 := hid hS
  have hF0 := hid hF
  have hbw := hid hb4
  clear hS hF hb4
  obtain ⟨own, hown⟩ : ∃ own, own = K % t.chans.length := ⟨_, rfl⟩
  have hon : own < t.chans.length := by rw [hown]; exact Nat.mod_lt _ hzp
  have hmod : (K : Int).tmod (t.chans.length : Int) = (own : Int) := by rw [hown]; rfl
  have HOW := hid hown
  clear hown
  go_wp2_with fail
  clear c0 c1 c2 c3 c4
  go_loopw [9, 10, 43] (fun v9 v10 v43 wr => ∃ (k : Nat) (F : Nat → Prop) (ss : Nat → WayS), k ≤ t.chans.length ∧ v43 = .int .i64 (k : Int) ∧ SetAt wr F g t.chans ss ∧ (∀ j, j < k → hasL (ss j) = [40 + (j : Int)] ∧ WayLe 1 (ss j)) ∧ (∀ j, k ≤ j → ss j = zeroW t.chans j) ∧ Below w3.heap.size w3 wr ∧ ∀ b, F b → w3.heap.size ≤ b) (fun _ _ v43 _ => t.chans.length - (intOf v43).toNat)
  case atStart => exact ⟨0, F, _, by omega, rfl, hS0.out, fun j hj => by omega, fun j _ => rfl, hbw.out, hF0.out⟩
  case round =>
    clear hS0 hF0 hbw hblk4 hb04
    obtain ⟨k, F, ss, hk, rfl, hS, hlo, hhi, hbel, hF⟩ := hrel
    have hb0r := hid (bel_trans hb03h.out hbel)
    by_cases hkn : k < t.chans.length
    case pos =>
      obtain ⟨ad, x, rfl, had, hx, hc0, hc⟩ := (HO.out wr hb0r.out).inn.2.2.at_ hkn
      have q0 := hc0 _ rfl
      have q1 := hc 0 _ rfl
      have q2 := hc 1 _ rfl
      clear hc hc0
      have hxb := hid (hR.out.cs x (List.mem_of_getElem? hx))
      have hz : Hid (ss k = zeroS x.depth) := hid (by rw [hhi k (Nat.le_refl _)]; unfold zeroW; rw [depthAt_get hx])
      obtain ⟨src, dst, dep⟩ := x
      simp only at q0 q1 q2 hxb hz
      have hsz := sendZero dep (40 + (k : Int)) hxb.out.2.2.2.2.2.1
      have i1 := hid (fun o => send_at (hS.alloc o) hx (show WaySmall (ss k) by rw [hz.out]; unfold zeroS; split <;> simp [WaySmall]) (40 + (k : Int)) (by omega) (by omega))
      simp only at i1
      rw [hz.out] at i1
      have hba := hid (fun o => bel_alloc hbel o)
      have HF := hid hF
      have HLO := hid hlo
      have HHI := hid hhi
      have HSZ := hid hsz
      have HX := hid hx
      clear hx hS hF hlo hhi hsz hbel
      go_wp2_with fail
      refine (i1.out _).mono ?_
      rintro e w5 ⟨F5, rfl, hS5, hG5⟩
      have hx5 := hid (hG5.bel (hba.out _) (Nat.le_refl _) HF.out)
      clear i1 hG5 hba
      go_wp2_with fail
      go_roundw
      case rel =>
        refine ⟨k + 1, F5, _, by omega, by go_num, hS5, fun j hj => ?_, fun j hj => ?_, hx5.out.1, hx5.out.2⟩
        · by_cases hjk : j = k
          · subst hjk; rw [setS_same]; exact HSZ.out
          · rw [setS_other _ _ _ _ hjk]; exact HLO.out j (by omega)
        · rw [setS_other _ _ _ _ (by omega)]; exact HHI.out j (by omega)
      case measure => simp [intOf]; omega
    case neg =>
      obtain rfl : k = t.chans.length := by omega
      have hblkr := hblk3h.out.belowS hbel
      obtain ⟨c0, c1, c2, c3, c4⟩ := tab_cells hblkr
      simp only at c0 c1 c2 c3 c4
      have HS := hid hS
      have HLO := hid hlo
      have HF := hid hF
      have HBE := hid hbel
      clear hS hlo hhi hF hbel hblkr
      go_wp2_with fail
      clear c0 c1 c2 c3 c4 hb0r
      obtain ⟨wo, rfl⟩ : ∃ wo : World, wo = wr := ⟨_, rfl⟩
      go_loopw [13, 64] (fun v13 v64 wr => ∃ (k : Nat) (F : Nat → Prop) (s : WayS), k ≤ n ∧ v64 = .int .i64 (k : Int) ∧ SetAt wr F g t.chans (setS ss own s) ∧ WayLe (k + 1) s ∧ Below w3.heap.size w3 wr ∧ ∀ b, F b → w3.heap.size ≤ b) (fun _ v64 _ => n - (intOf v64).toNat)
      case atStart => exact ⟨0, F, ss own, by omega, rfl, by rw [setS_self]; exact HS.out, (HLO.out own hon).2, HBE.out, HF.out⟩
      case round =>
        clear HS HF HBE
        obtain ⟨k, F, s, hk, rfl, hS, hle, hbel, hF⟩ := hrel
        have hb0r := hid (bel_trans hb03h.out hbel)
        by_cases hkn : k < n
        case pos =>
          obtain ⟨ad, a, rfl, had, hx, hc0, hc⟩ := (hrd0.out.below hb0r.out).at_ hkn
          have q0 := hc0 _ rfl
          have q1 := hc 0 _ rfl
          have q2 := hc 1 _ rfl
          have q3 := hc 2 _ rfl
          clear hc hc0
          obtain ⟨kind, part, chan, num⟩ := a
          simp only at q0 q1 q2 q3
          clear hx
          obtain ⟨adC, x, rfl, hadC, hxC, hd0, hd⟩ := (HO.out wr hb0r.out).inn.2.2.at_ hon
          have p0 := hd0 _ rfl
          have p1 := hd 0 _ rfl
          clear hd hd0
          obtain ⟨src, dst, dep⟩ := x
          simp only at p0 p1
          have hgb : wr.heap.size < (wr.alloc (.cells #[.int .i64 kind, .int .i64 part, .int .i64 chan, .int .i64 num] 52)).heap.size := by simp
          have hTb := hid ((hblk3h.out.belowS hbel).alloc (.cells #[.int .i64 kind, .int .i64 part, .int .i64 chan, .int .i64 num] 52))
          have hBx := hid (Blk.new wr 52 [.int .i64 kind, .int .i64 part, .int .i64 chan, .int .i64 num])
          have hQ := hid (hS.alloc (.cells #[.int .i64 kind, .int .i64 part, .int .i64 chan, .int .i64 num] 52))
          have hfr := hid hS.fresh
          have hba := hid (bel_alloc hbel (.cells #[.int .i64 kind, .int .i64 part, .int .i64 chan, .int .i64 num] 52))
          have hI := hid (HO.out wr hb0r.out).inn.2.2
          have hlt3 : adC.block < w3.heap.size := by
            obtain ⟨adC', _, e, hl, _⟩ := (HO.out w3 hb03h.out).inn.2.2.at_ hon
            injection e with e
            rw [e]
            exact hl
          have iS := hid (fun W (h : SetAt W F g t.chans (setS ss own s)) => send_one h hxC hle (by omega) num)
          have iG := hid (fun W (h : SetAt W F g t.chans (setS ss own s)) => get_one h hxC hle)
          simp only at iS iG
          have r0 : (wr.alloc (.cells #[.int .i64 kind, .int .i64 part, .int .i64 chan, .int .i64 num] 52)).cell? (adC.add (own * 3)) = some (.int .i64 src) := (cell_keep (Below.heap_alloc _ _ _ (by rw [block_add]; exact hadC))).trans p0
          have r1 : (wr.alloc (.cells #[.int .i64 kind, .int .i64 part, .int .i64 chan, .int .i64 num] 52)).cell? ⟨(adC.add (own * 3)).block, (adC.add (own * 3)).off + 1, none⟩ = some (.int .i64 dst) := (cell_keep (Below.heap_alloc _ _ _ (by rw [block_add]; exact hadC))).trans p1
          have h0 : (wr.alloc (.cells #[.int .i64 kind, .int .i64 part, .int .i64 chan, .int .i64 num] 52)).cell? ⟨wr.heap.size, 0, none⟩ = some (.int .i64 kind) := hBx.out.cellAt rfl
          have h3 : (wr.alloc (.cells #[.int .i64 kind, .int .i64 part, .int .i64 chan, .int .i64 num] 52)).cell? ⟨wr.heap.size, 3, none⟩ = some (.int .i64 num) := hBx.out.cellAt rfl
          obtain ⟨c0, c1, c2, c3, c4⟩ := tab_cells hTb.out
          simp only at c0 c1 c2 c3 c4
          have hF0 := hid hF
          have hb0 := hid hbel
          have HLE := hid hle
          have HXC := hid hxC
          clear hS hF hbel hle hxC hgb hI
          by_cases hk0 : kind = 0
          case pos =>
            have y0 : (kind == 0) = true := by simp [hk0]
            have HK0 := hid hk0
            clear hk0
            go_wp2_with fail
            go_region_held3 (fun w' => w'.cell? ⟨w.heap.size, 3, none⟩ = some (.slice (some adC) t.chans.length k3) ∧ w'.cell? (adC.add (own * 3)) = some (.int .i64 src) ∧ w'.cell? ⟨wr.heap.size, 3, none⟩ = some (.int .i64 num)) (go_keep)
              (first | (go_at_call 22; refine (iS.out _ ?_).mono ?_; (first | exact hQ.out | exact hQ.out.drew); rintro e w5 ⟨⟨r5, z5, rfl⟩, F5, s5, hS5, hle5, hG5'⟩; have hG5 : Goes F (wr.alloc (.cells #[.int .i64 kind, .int .i64 part, .int .i64 chan, .int .i64 num] 52)) F5 w5 := (by first | exact hG5' | exact hG5'.of_drew); have hx5 := hid (hG5.bel hba.out (Nat.le_refl _) hF0.out); have hm5 := hid hS5; have z0 : w5.cell? ⟨w.heap.size, 3, none⟩ = some (.slice (some adC) t.chans.length k3) := (hblk3h.out.belowS hx5.out.1).cellAt rfl; have z1 : w5.cell? (adC.add (own * 3)) = some (.int .i64 src) := (hx5.out.1.cell (p := adC.add (own * 3)) (by rw [block_add]; exact hlt3)).trans ((hba.out.cell (p := adC.add (own * 3)) (by rw [block_add]; exact hlt3)).symm.trans r0); have z2 : w5.cell? ⟨wr.heap.size, 3, none⟩ = some (.int .i64 num) := (hG5.blk hBx.out hfr.out).1.cellAt rfl; clear hG5 hG5' hS5))
            clear z0 z1 z2 c0 c1 c2 c3 c4 r0 r1 h0 h3 iS iG
            go_wp2_with fail
            go_roundw
            case rel => exact ⟨k + 1, F5, s5, by omega, by go_num, hm5.out, hle5, hx5.out.1, hx5.out.2⟩
            case measure => simp [intOf]; omega
          have y0 : (kind == 0) = false := by simp [hk0]
          clear hk0
          by_cases hk1 : kind = 1
          case pos =>
            have y1 : (kind == 1) = true := by simp [hk1]
            have HK1 := hid hk1
            clear hk1
            go_wp2_with fail
            refine (iG.out _ hQ.out).mono ?_
            rintro e w5 ⟨⟨n5, r5, z5, rfl⟩, F5, s5, hS5, hle5, hG5⟩
            have hx5 := hid (hG5.bel hba.out (Nat.le_refl _) hF0.out)
            clear c0 c1 c2 c3 c4 r0 r1 h0 h3 iS iG hG5
            go_wp2_with fail
            go_roundw
            case rel => exact ⟨k + 1, F5, s5, by omega, by go_num, hS5, hle5.more (by omega), hx5.out.1, hx5.out.2⟩
            case measure => simp [intOf]; omega
          case neg =>
            have y1 : (kind == 1) = false := by simp [hk1]
            clear hk1
            go_wp2_with fail
            go_roundw
            case rel => exact ⟨k + 1, F, s, by omega, by go_num, hQ.out, HLE.out.more (by omega), hba.out, hF0.out⟩
            case measure => simp [intOf]; omega
        case neg =>
          obtain rfl : k = n := by omega
          have hblkr := hblk3h.out.belowS hbel
          obtain ⟨c0, c1, c2, c3, c4⟩ := tab_cells hblkr
          simp only at c0 c1 c2 c3 c4
          have HS := hid hS
          have HF := hid hF
          have HBE := hid hbel
          clear hS hF hbel hblkr hle
          go_wp2_with fail
          clear c0 c1 c2 c3 c4 hb0r
          obtain ⟨wp, rfl⟩ : ∃ wp : World, wp = wr := ⟨_, rfl⟩
          go_loopw [14, 98] (fun v14 v98 wr => ∃ (j : Nat), j ≤ t.chans.length ∧ v98 = .int .i64 (j : Int) ∧ Below wp.heap.size wp wr) (fun _ v98 _ => t.chans.length - (intOf v98).toNat)
          case atStart => exact ⟨0, by omega, rfl, Below.refl _ _⟩
          case round =>
            obtain ⟨j, hj, rfl, hbj⟩ := hrel
            have hSj := hid (HS.out.belowS hbj)
            have hb3j := hid (HBE.out.trans (hbj.mono HBE.out.size))
            by_cases hjn : j < t.chans.length
            case pos =>
              by_cases hjo : j = own
              case pos =>
                subst hjo
                have y0 : ((j : Int) == (j : Int)) = true := by simp
                go_wp2_with fail
                go_roundw
                case rel => exact ⟨j + 1, by omega, by go_num, hbj⟩
                case measure => simp [intOf]; omega
              case neg =>
                have y0 : ((j : Int) == (own : Int)) = false := by simp; omega
                have hh := HLO.out j hjn
                have iH := hid (has_at hSj.out hjn (by rw [setS_other _ _ _ _ hjo]; exact hh.2.small (by omega)))
                rw [setS_other _ _ _ _ hjo, hh.1] at iH
                have HBJ := hid hbj
                clear hh hbj
                go_wp2_with fail
                refine iH.out.mono ?_
                rintro e w5 ⟨A5, c5, rfl, hr5, hb5⟩
                simp only [List.length_singleton, List.map_cons, List.map_nil] at hr5
                have hr5' := hid (hr5.belowS (bel_alloc (Below.refl _ _) (.cells #[.int .i64 (40 + (j : Int))] 3)))
                have iE := hid (sameInts_b A5 (some ⟨w5.heap.size, 0, none⟩) 1 1 c5 1 [40 + (j : Int)] [40 + (j : Int)] (w5.alloc (.cells #[.int .i64 (40 + (j : Int))] 3)) hr5'.out (by simpa using Reads.new w5 #[.int .i64 (40 + (j : Int))] 3 1 rfl) (by omega) (by omega))
                rw [decide_eq_true rfl] at iE
                have hb5a := hid (bel_alloc (bel_trans HBJ.out hb5) (.cells #[.int .i64 (40 + (j : Int))] 3))
                clear iH hr5 hr5' hb5
                go_wp2_with fail
                refine iE.out.mono ?_
                rintro e w6 ⟨rfl, hb6⟩
                go_wp2_with fail
                go_roundw
                case rel => exact ⟨j + 1, by omega, by go_num, bel_trans hb5a.out hb6⟩
                case measure => simp [intOf]; omega
            case neg =>
              obtain rfl : j = t.chans.length := by omega
              go_wp2_with fail
              go_ret
              exact ⟨rfl, bel_trans hb03h.out hb3j.out⟩
/-! ### PortApart: from the walk to the given statement -/
namespace lawPortApart
theorem own : ownKnob Try.prog.godebug = none := by kernel_rfl
theorem laidOut : laidOutB Try.prog = true := by kernel_rfl
set_option maxRecDepth 100000 in
theorem lifted (os : Os) (started : os.Started) (H : Type) (enc : TypeId × Value → H) :
    ReturnsInHanded {} Try.checked os 7 .any (Rows.portApartSpec.pre6 enc Try.prog Try.f7 Rows.portApartRow.domain false) (Rows.portApartSpec.post enc Try.prog Try.f7 false true false false) := by
  refine returnsInHanded_of_change (C := Try.checked) own started (by kernel_rfl) Try.func7
    (ChangeSpec.witness6 (enc := enc) (C := Try.checked) false ⟨#[], #[.agg #[.int .i64 0, .slice none 0 0, .slice none 0 0, .slice none 0 0, .int .i64 0], .slice none 0 0, .int .u8 0], []⟩ 8 (by kernel_rfl) (by kernel_rfl) (by kernel_rfl) (by kernel_rfl)) ?_
  intro W base args ds gs before hval0 hW hcnd _
  have hval : ∀ (j : Nat) t v, Try.f7.params[j]? = some t → args[j]? = some v → Value.okWide Try.prog W .any base t v := hval0
  have hW' := hW
  obtain ⟨p, q, hA0, hV, rfl, hfz, hnd⟩ := hW
  have hA : DataW.TrodAll enc Try.prog W 0 (fun _ => true) true Try.f7.params.toList args.toList ds p := hA0
  rw [Try.params7] at hA hval
  obtain ⟨v0, vs0, d0, ds0, p0, q0, hargs, rfl, rfl, h0, r0⟩ := trodAll_cons hA
  obtain ⟨v1, vs1, d1, ds1, p1, q1, rfl, rfl, rfl, h1, r1⟩ := trodAll_cons r0
  obtain ⟨v2, vs2, d2, ds2, p2, q2, rfl, rfl, rfl, h2, r2⟩ := trodAll_cons r1
  obtain ⟨rfl, rfl, rfl⟩ := trodAll_nil r2
  obtain rfl : args = #[v0, v1, v2] := by cases args; simp_all
  obtain ⟨rfl, rfl⟩ := trodVars_none hV
  have k0 := h0
  have lt0 : ∀ x ∈ p0, x.block < W.heap.size := by obtain ⟨m, hm⟩ := k0; exact DataW.trod_lt m _ _ _ hm
  have k1 := h1
  have lt1 : ∀ x ∈ p1, x.block < W.heap.size := by obtain ⟨m, hm⟩ := k1; exact DataW.trod_lt m _ _ _ hm
  have k2 := h2
  have lt2 : ∀ x ∈ p2, x.block < W.heap.size := by obtain ⟨m, hm⟩ := k2; exact DataW.trod_lt m _ _ _ hm
  obtain ⟨t0, a0, rfl, w0⟩ := open_tab (hval 0 36 v0 rfl rfl) h0
  obtain ⟨A1, n1, c1, b1, rfl, w1, g1, l1, f1⟩ := open_acts (hval 1 50 v1 rfl rfl) h1
  obtain ⟨a2, rfl, rfl, rfl, w2⟩ := open_int Try.underlying5 (hval 2 5 v2 rfl rfl) h2
  clear hA0 hval0
  refine (portApart_any W t0 a0 w0 A1 n1 c1 b1 w1 g1 l1 f1 a2 w2).mono fun e W' ⟨he, bel⟩ => ?_
  subst he
  exact ⟨_, rfl, _, _, _, [], _, [], hW', trodAll_mk1 (shut_bool Try.underlying4 _), (trodAll_cons_mk (Below.trod laidOut (by kernel_rfl) (of_decide_eq_true (by kernel_rfl)) k0 bel lt0) (trodAll_cons_mk (Below.trod laidOut (by kernel_rfl) (of_decide_eq_true (by kernel_rfl)) k1 bel lt1) (trodAll_cons_mk (Below.trod laidOut (by kernel_rfl) (of_decide_eq_true (by kernel_rfl)) k2 bel lt2) trodAll_mk0))), rfl, bel.frame _, fun h => by cases h⟩
theorem over : Rows.portApartRow.holds Try.pinned (OpenSpec.ofChange Rows.portApartSpec) :=
  OpenClaim.holds_of_wide 7 Try.f7 rfl rfl rfl rfl rfl rfl rfl ⟨rfl, rfl, rfl, rfl, rfl⟩ rfl rfl rfl rfl rfl (by kernel_rfl) Try.func7 (by kernel_rfl)
    (of_decide_eq_true (by kernel_rfl)) (by unfold Func.isWrapper; first | (rw [if_pos (by decide +kernel)]; kernel_rfl) | (rw [if_neg (by decide +kernel)]; exact ⟨rfl, rfl⟩))
    (fun os started H enc _ => lifted os started H enc)
theorem proved : Rows.PortApartSaid := over
#print axioms proved
end lawPortApart
end Go.Proofs.Ythipfopmaegpdaa
