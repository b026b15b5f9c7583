/-
  pdu.Put: the bytes of a message that is right; nothing of one that isn't.
-/
import Derived.Test.YthipfopmaegpdaaPduRight
namespace Go.Proofs.Ythipfopmaegpdaa
open Go.RowKit Go.ChangeShapes Go.WideShapes Go.ChangeAt

theorem own_low {w : World} {b1 b2 : Nat} {e : TypeId} {size : Nat} {v : Value} {n : Nat} {xs : List Value} (h : w.ownsRow b1 e size v n xs) (hb : b2 ≤ b1) : w.ownsRow b2 e size v n xs := by
  refine ⟨h.1, ?_⟩
  rcases h.2 with h2 | ⟨g, cap, cur, hv, hg, r⟩
  · exact .inl h2
  · exact .inr ⟨g, cap, cur, hv, Nat.le_trans hb hg, r⟩
theorem pduB_len (p : PduS) : (pduB p).length = 1 + (fldB p (fieldsK p.kind)).length + p.data.length + 4 := by simp [pduB, bodyP, sumB, putB_length]; omega

theorem idxWf {f : Nat} (h : f < 7) : ∀ w, (Instr.index 88 (.agg #[.int .i64 2, .int .i64 1, .int .i64 1, .int .i64 2, .int .i64 1, .int .i64 1, .int .i64 2]) (.int .i64 (f : Int))).run Try.prog w = .ok (.int .i64 (widS f : Int)) w := by
  intro w
  have : f = 0 ∨ f = 1 ∨ f = 2 ∨ f = 3 ∨ f = 4 ∨ f = 5 ∨ f = 6 := by omega
  rcases this with rfl | rfl | rfl | rfl | rfl | rfl | rfl
  · exact idxW0 w
  · exact idxW1 w
  · exact idxW2 w
  · exact idxW3 w
  · exact idxW4 w
  · exact idxW5 w
  · exact idxW6 w
theorem idxPf (g : Nat) {f : Nat} (h : f < 7) : ∀ w, (Instr.index 85 (.agg #[.pointer (some ⟨g, 1, none⟩), .pointer (some ⟨g, 2, none⟩), .pointer (some ⟨g, 3, none⟩), .pointer (some ⟨g, 4, none⟩), .pointer (some ⟨g, 5, none⟩), .pointer (some ⟨g, 6, none⟩), .pointer (some ⟨g, 7, none⟩)]) (.int .i64 (f : Int))).run Try.prog w = .ok (.pointer (some ⟨g, f + 1, none⟩)) w := by
  intro w
  have : f = 0 ∨ f = 1 ∨ f = 2 ∨ f = 3 ∨ f = 4 ∨ f = 5 ∨ f = 6 := by omega
  rcases this with rfl | rfl | rfl | rfl | rfl | rfl | rfl
  · exact idxP0 g w
  · exact idxP1 g w
  · exact idxP2 g w
  · exact idxP3 g w
  · exact idxP4 g w
  · exact idxP5 g w
  · exact idxP6 g w
theorem wid_S (f : Nat) : wid ((widS f : Nat) : Int) = widS f := by
  have := widS_bd f
  unfold wid
  rw [if_neg (by omega), if_neg (by omega)]
  simp

theorem Put_bad (p : PduS) (A : Option Addr) (c : Nat) (w : World) (hR : rightP p = false) :
    Calls Try.prog 15 #[.agg #[.int .i64 p.kind, .int .i64 p.ses, .int .i64 p.part, .int .i64 p.no, .int .i64 p.size, .int .i64 p.what, .int .i64 p.code, .int .i64 p.hav, .slice A p.data.length c]] w fun e w' => e = .returned (.tuple #[.slice none 0 0, .int .i64 3]) ∧ Below w.heap.size w w' := by
  obtain ⟨w1, hw1, hb1, hblk1, hs1⟩ := pdu_in p A c w
  obtain ⟨c0, c1, c2, c3, c4, c5, c6, c7, c8⟩ := pdu_cells hblk1
  have i1 := hid (right_any p A c w1)
  rw [hR] at i1
  go_enter Try.func15, Try.ntmps15
  go_wp2_with fail
  clear hw1 hs1
  refine i1.out.mono ?_
  rintro e w2 ⟨rfl, hb2⟩
  go_wp2_with fail
  go_ret2
  exact ⟨rfl, bel_trans hb1 hb2⟩

set_option maxRecDepth 100000 in
set_option maxHeartbeats 4000000 in
theorem Put_ok (p : PduS) (A : Option Addr) (c : Nat) (w : World) (hR : rightP p = true) (hr : Reads w w.heap.size 1 A p.data.length (p.data.map bV)) :
    Calls Try.prog 15 #[.agg #[.int .i64 p.kind, .int .i64 p.ses, .int .i64 p.part, .int .i64 p.no, .int .i64 p.size, .int .i64 p.what, .int .i64 p.code, .int .i64 p.hav, .slice A p.data.length c]] w fun e w' => ∃ A' c', e = .returned (.tuple #[.slice A' (pduB p).length c', .int .i64 0]) ∧ w'.ownsRow w.heap.size 5 1 (.slice A' (pduB p).length c') (pduB p).length ((pduB p).map bV) ∧ Below w.heap.size w w' := by
  obtain ⟨w1, hw1, hb1, hblk1, hs1⟩ := pdu_in p A c w
  obtain ⟨c0, c1, c2, c3, c4, c5, c6, c7, c8⟩ := pdu_cells hblk1
  have i1 := hid (right_any p A c w1)
  rw [hR] at i1
  have hD16 := rightP_data hR
  have HRD := hid (hr.belowS hb1)
  have HLL := hid (fieldsK_lt p.kind)
  have hL4 := fieldsK_len p.kind
  have i2 := hid (named_any p.kind)
  unfold NamedPost at i2
  have i3 := hid (put_nil p.kind 1)
  have hF8 := fldB_take p (fieldsK p.kind) hL4
  have hbody : Hid (pduB p = (putB p.kind 1 ++ fldB p (fieldsK p.kind) ++ p.data) ++ putB ((crcOf (putB p.kind 1 ++ fldB p (fieldsK p.kind) ++ p.data)).toNat : Int) 4) := hid rfl
  generalize hL : fieldsK p.kind = L at i2 HLL hL4 hbody hF8
  generalize decide (p.kind = 2) = DD at i2
  generalize pduB p = PB at hbody ⊢
  clear hL hR hr
  go_enter Try.func15, Try.ntmps15
  go_wp2_with fail
  clear hw1 hs1
  refine i1.out.mono ?_
  rintro e w2 ⟨rfl, hb2⟩
  have hblk2 := hblk1.belowS hb2
  have hb02 := bel_trans hb1 hb2
  have HRD2 := hid (HRD.out.belowS hb2)
  clear c0 c1 c2 c3 c4 c5 c6 c7 c8 hblk1 i1 hb1 hb2 HRD
  obtain ⟨c0, -, -, -, -, -, -, -, -⟩ := pdu_cells hblk2
  go_wp2_with fail
  refine (i3.out _).mono ?_
  rintro e w3 ⟨B3, d3, rfl, hown3, hb3⟩
  have hblk3 := hblk2.belowS hb3
  clear c0
  obtain ⟨c0, -, -, -, -, -, -, -, -⟩ := pdu_cells hblk3
  go_wp2_with fail
  refine (i2.out _).mono ?_
  rintro e w4 ⟨AL, cL, rfl, hRL, hb4⟩
  have hblk4 := hblk3.belowS hb4
  have hown4 := own_below hown3 hb4
  have hb24 := bel_trans hb3 hb4
  have hlt24 := hb24.size
  clear c0 hown3 i2 i3 hblk3
  have hw1 : wid 1 = 1 := by decide
  rw [hw1] at hown4 ⊢
  clear hw1
  go_wp2_with fail
  go_loopw [4, 8, 23] (fun v4 _ v23 wr => ∃ (k n : Nat) (B : Option Addr) (d : Nat), k ≤ L.length ∧ v23 = .int .i64 (k : Int) ∧ v4 = .slice B n d ∧ n ≤ 2 * k + 1 ∧ wr.ownsRow w2.heap.size 5 1 (.slice B n d) n ((putB p.kind 1 ++ fldB p (L.take k)).map bV) ∧ Below w4.heap.size w4 wr) (fun _ _ v23 _ => L.length - (intOf v23).toNat)
  case atStart => exact ⟨0, 1, B3, d3, by omega, rfl, rfl, by omega, by simpa [fldB] using hown4, Below.refl _ _⟩
  obtain ⟨k, n, B, d, hk, rfl, rfl, hn, hown, hbel⟩ := hrel
  have hblkr := hblk4.belowS hbel
  have hb2r := bel_trans hb24 hbel
  by_cases hkn : k < L.length
  · have HOr := hid (hRL.belowS hbel)
    obtain ⟨ad, f, rfl, had, hf, hc⟩ := HOr.out.atM hkn
    have hf7 := HLL.out f (List.mem_of_getElem? hf)
    have hk0 : (0 : Int) ≤ (k : Int) := Int.natCast_nonneg _
    have hk1 : (k : Int) < (L.length : Int) := by omega
    have hknd : decide ((k : Int) < (L.length : Int)) = true := decide_eq_true hk1
    have hnx : Hid (∀ bs, bs = putB p.kind 1 ++ fldB p (L.take k) → bs ++ putB (p.f f) (widS f) = putB p.kind 1 ++ fldB p (L.take (k + 1))) := hid (fun bs e => by
      rw [List.take_add_one, hf]
      show _ = putB p.kind 1 ++ fldB p (L.take k ++ [f])
      rw [fldB_snoc, e, List.append_assoc])
    have cX := pdu_f hblkr hf7
    have xP := idxPf w.heap.size hf7
    have xW := idxWf hf7
    have hws := wid_S f
    have hwb := widS_bd f
    generalize p.f f = X at cX hnx
    obtain ⟨bs, hbs⟩ : ∃ bs, bs = putB p.kind 1 ++ fldB p (L.take k) := ⟨_, rfl⟩
    rw [← hbs] at hown
    have HNX := hid (hnx.out bs hbs)
    clear hbs hnx hf
    have HB : Hid (Blk wr w.heap.size 24 (pduC p A c)) := hid hblkr
    have HXX : Hid (∀ w', Below wr.heap.size wr w' → w'.cell? ⟨w.heap.size, f + 1, none⟩ = some (.int .i64 X)) := hid (fun w' hb => (hb.cell hblkr.lt).trans cX)
    have HOW := hid hown
    simp only [nV] at hc
    generalize hWF : ((widS f : Nat) : Int) = WF at xW hws
    have hf0 : (0 : Int) ≤ (f : Int) := Int.natCast_nonneg _
    have hf6 : (f : Int) < 7 := by omega
    clear hown hblkr HOr
    go_wp2_with fail
    go_region_held3 (fun w' => w'.cell? ⟨w.heap.size, f + 1, none⟩ = some (.int .i64 X)) (go_keep)
      (first
        | (go_at_call 42; refine (numbers_any _ _ _ HB.out.drew).mono ?_; rintro e wa ⟨rfl, hba'⟩; have hba : Below wr.heap.size wr wa := ⟨hba'.os, hba'.tape, hba'.output, hba'.size, hba'.block⟩; clear hba'; have za := HXX.out _ hba)
        | (go_at_call 43; refine (widths_any _).mono ?_; rintro e wb ⟨rfl, hbb'⟩; have hbb : Below wa.heap.size wa wb := ⟨hbb'.os, hbb'.tape, hbb'.output, hbb'.size, hbb'.block⟩; clear hbb'; have hbB := bel_trans hba hbb; have zb := HXX.out _ hbB)
        | (go_at_call 40; refine (put_any _ _ _ bs _ _ _ (Reads.of_own (own_below HOW.out hbB)) (by omega)).mono ?_; rintro e wc ⟨B2, d2, rfl, hown2, hbc'⟩; rw [hws] at hown2 ⊢; have hbc : Below wb.heap.size wb wc := ⟨hbc'.os, hbc'.tape, hbc'.output, hbc'.size, hbc'.block⟩; clear hbc'; have hbC := bel_trans hbB hbc; have zc := HXX.out _ hbC))
    all_goals (
      have hownF := hid (own_low hown2 (b2 := w2.heap.size) (by have := hbB.size; have := hb2r.size; omega))
      have hbF := hid (bel_trans hbel hbC)
      clear hown2 za zb zc xP xW cX hc
      go_wp2_with fail
      go_roundw
      case rel => exact ⟨k + 1, n + widS f, B2, d2, by omega, by go_num, rfl, by omega, by rw [← HNX.out]; exact hownF.out, hbF.out⟩
      case measure => simp [intOf]; omega)
  · obtain rfl : k = L.length := by omega
    have hkn' : decide ((L.length : Int) < (L.length : Int)) = false := decide_eq_false (by omega)
    rw [List.take_length] at hown
    have HD := hid (HRD2.out.belowS hb2r)
    obtain ⟨-, -, -, -, -, -, -, -, c8⟩ := pdu_cells hblkr
    have hnl : n = 1 + (fldB p L).length := by
      have h := hown.1
      simp only [List.length_map, List.length_append, putB_length] at h
      omega
    have hltr := hb2r.size
    have hn9 : n ≤ 9 := by omega
    have HNL := hid hnl
    clear hnl
    have hb0r := hid (bel_trans hb02 hb2r)
    go_wp2_with (at_builtin; refine appB _ rfl (.tmp 38) (.tmp 40) rfl w2.heap.size _ n d _ rfl hown _ A p.data.length c p.data rfl HD.out (by omega) hltr ?_; intro B3 d3 w5 hown5 hg5 hb5)
    have hbd : Hid (PB = (putB p.kind 1 ++ fldB p L ++ p.data) ++ putB ((crcOf (putB p.kind 1 ++ fldB p L ++ p.data)).toNat : Int) 4) := hbody
    have hb25 := hb2r.trans hb5
    have hlt25 := hb25.size
    have hb05 := hid (hb02.trans (hb25.mono hb02.size))
    clear HD HRD2 hblkr hown hg5 hb5 hb2r hblk4 hRL hown4 hb24 hb4 hb3 hblk2 hb02 hb0r
    refine (make_any _).mono ?_
    rintro e w6 ⟨gt, rfl, hgt, htab, hb6⟩
    have hown6 := own_below hown5 hb6
    have HR6 := hid (Reads.of_own hown6)
    have hBl : Hid ((putB p.kind 1 ++ fldB p L ++ p.data).length = n + p.data.length) := hid (by have := HNL.out; simp [putB_length]; omega)
    generalize putB p.kind 1 ++ fldB p L ++ p.data = BS at hbody HR6 hBl
    have j1 := hid (sum_any gt B3 (n + p.data.length) d3 BS _ w6 htab HR6.out (by omega))
    have j2 := hid (fun (X : Nat) => put_any B3 (n + p.data.length) d3 BS (X : Int) 4 w6 HR6.out (by omega))
    unfold uV at j1
    have hXl : (crcOf BS).toNat < 4294967296 := (crcOf BS).isLt
    generalize (crcOf BS).toNat = X at j1 hbody hXl
    have hXw : IntKind.i64.wrap (X : Int) = (X : Int) := IntWalk.i64_in _ (by omega)
    have hb06 := hid (bel_trans hb05.out hb6)
    clear hown5 hown6 htab hb6 hgt c8
    go_wp2_with fail
    refine j1.out.mono ?_
    rintro e w7 ⟨rfl, rfl⟩
    go_wp2_with fail
    refine (j2.out X).mono ?_
    rintro e w8 ⟨B4, d4, rfl, hown8, hb8⟩
    have hw4 : wid 4 = 4 := by decide
    rw [hw4, ← hbody.out] at hown8
    rw [hw4]
    have hPl : n + p.data.length + 4 = PB.length := by
      have := hbody.out
      rw [this, List.length_append, putB_length]
      have := hBl.out
      omega
    rw [hPl] at hown8 ⊢
    go_wp2_with fail
    go_ret2
    exact ⟨B4, d4, rfl, own_low hown8 (hb06.out.size), bel_trans hb06.out hb8⟩
end Go.Proofs.Ythipfopmaegpdaa
