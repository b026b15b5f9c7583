/-
  The document's own head of a message.
-/
import Derived.Test.YthipfopmaegpdaaPduPut
namespace Go.Proofs.Ythipfopmaegpdaa
open Go.RowKit Go.ChangeShapes Go.WideShapes Go.ChangeAt

def hB (x : Int) : UInt8 := UInt8.ofNat (x % 256).toNat
theorem hB_val (x : Int) : x % 256 = ((hB x).toNat : Int) := by
  unfold hB
  rw [UInt8.toNat_ofNat']
  omega
def headB (p : PduS) : List UInt8 :=
  [hB (p.kind), hB (wrap64 (Int.tdiv p.ses 256)), hB (p.ses)] ++
  if p.kind = 1 then [hB (p.part), hB (wrap64 (Int.tdiv p.size 256)), hB (p.size)] else
  if p.kind = 2 then [hB p.no] ++ p.data else
  if p.kind = 6 then [hB (p.what), hB (p.no)] else
  if p.kind = 7 then [hB (p.what), hB (p.no), hB (p.code)] else
  if p.kind = 8 then [hB (p.part), hB (wrap64 (Int.tdiv p.size 256)), hB (p.size), hB (wrap64 (Int.tdiv p.hav 256)), hB (p.hav)] else []
theorem own_built (w : World) (cs : List Value) (e : TypeId) (n : Nat) (hn : cs.length = n) (hm : n ≤ 1000) : (w.alloc (.cells cs.toArray e)).ownsRow w.heap.size e 1 (.slice (some ⟨w.heap.size, 0, none⟩) n n) n cs := by
  refine ⟨by omega, .inr ⟨w.heap.size, n, cs.toArray, rfl, Nat.le_refl _, heap_alloc_new w _, Nat.le_refl _, by simp [maxLen]; omega, by simp; omega, ?_⟩⟩
  rw [Nat.mul_one]
  exact List.take_of_length_le (by simp; omega)
theorem reads_new2 (w : World) (o : Obj) (cs : List Value) (e : TypeId) (n : Nat) (hn : cs.length = n) : Reads ((w.alloc o).alloc (.cells cs.toArray e)) ((w.alloc o).alloc (.cells cs.toArray e)).heap.size 1 (some ⟨w.heap.size + 1, 0, none⟩) n cs := by
  have h := reads_new (w.alloc o) cs e n hn
  rw [show (w.alloc o).heap.size = w.heap.size + 1 by simp] at h
  exact h

def HeadPost (p : PduS) (w : World) (e : Ending) (w' : World) : Prop := ∃ A' n c', e = .returned (.slice A' n c') ∧ w'.ownsRow w.heap.size 5 1 (.slice A' n c') n ((headB p).map bV) ∧ Below w.heap.size w w'
set_option maxRecDepth 100000 in
set_option maxHeartbeats 4000000 in
theorem head_any (p : PduS) (A : Option Addr) (c : Nat) (w : World) (hr : Reads w w.heap.size 1 A p.data.length (p.data.map bV)) (hd : p.data.length ≤ 1000) :
    Calls Try.prog 39 #[.agg #[.int .i64 p.kind, .int .i64 p.ses, .int .i64 p.part, .int .i64 p.no, .int .i64 p.size, .int .i64 p.what, .int .i64 p.code, .int .i64 p.hav, .slice A p.data.length c]] w (HeadPost p w) := by
  obtain ⟨w1, hw1, hb1, hblk1, hs1⟩ := pdu_in p A c w
  obtain ⟨c0, c1, c2, c3, c4, c5, c6, c7, c8⟩ := pdu_cells hblk1
  have HRD := hid (hr.belowS hb1)
  have HB1 := hid hb1
  have hsz := hb1.size
  have HH : Hid (headB p = [hB (p.kind), hB (wrap64 (Int.tdiv p.ses 256)), hB (p.ses)] ++ (if p.kind = 1 then [hB (p.part), hB (wrap64 (Int.tdiv p.size 256)), hB (p.size)] else if p.kind = 2 then [hB p.no] ++ p.data else if p.kind = 6 then [hB (p.what), hB (p.no)] else if p.kind = 7 then [hB (p.what), hB (p.no), hB (p.code)] else if p.kind = 8 then [hB (p.part), hB (wrap64 (Int.tdiv p.size 256)), hB (p.size), hB (wrap64 (Int.tdiv p.hav 256)), hB (p.hav)] else [])) := hid rfl
  have hlt1 := hblk1.lt
  have e_k := hB_val (p.kind)
  have e_s1 := hB_val (wrap64 (Int.tdiv p.ses 256))
  have e_s0 := hB_val (p.ses)
  have e_p := hB_val (p.part)
  have e_z1 := hB_val (wrap64 (Int.tdiv p.size 256))
  have e_z0 := hB_val (p.size)
  have e_n := hB_val (p.no)
  have e_w := hB_val (p.what)
  have e_c := hB_val (p.code)
  have e_h1 := hB_val (wrap64 (Int.tdiv p.hav 256))
  have e_h0 := hB_val (p.hav)
  generalize hB (p.kind) = b_k at e_k HH
  generalize hB (wrap64 (Int.tdiv p.ses 256)) = b_s1 at e_s1 HH
  generalize hB (p.ses) = b_s0 at e_s0 HH
  generalize hB (p.part) = b_p at e_p HH
  generalize hB (wrap64 (Int.tdiv p.size 256)) = b_z1 at e_z1 HH
  generalize hB (p.size) = b_z0 at e_z0 HH
  generalize hB (p.no) = b_n at e_n HH
  generalize hB (p.what) = b_w at e_w HH
  generalize hB (p.code) = b_c at e_c HH
  generalize hB (wrap64 (Int.tdiv p.hav 256)) = b_h1 at e_h1 HH
  generalize hB (p.hav) = b_h0 at e_h0 HH
  clear hr hb1 hs1
  go_enter Try.func39, Try.ntmps39
  by_cases h1 : p.kind = 1
  · have hh := HH.out
    rw [if_pos h1] at hh
    have HH2 := hid hh
    have y1 : (p.kind == 1) = true := by simpa using h1 
    clear HH hh h1
    go_wp2_with (at_builtin; refine appB _ rfl (.tmp 19) (.tmp 30) rfl w1.heap.size (some ⟨w1.heap.size, 0, none⟩) 3 3 [b_k, b_s1, b_s0] rfl (own_below (own_built w1 ([b_k, b_s1, b_s0].map bV) 5 3 rfl (by omega)) ((Below.refl _ _).alloc (Nat.le_refl _) _)) _ (some ⟨w1.heap.size + 1, 0, none⟩) 3 3 [b_p, b_z1, b_z0] rfl (reads_new2 w1 _ ([b_p, b_z1, b_z0].map bV) 5 3 rfl) (by omega) (by simp; omega) ?_; intro A2 d2 w2 hown2 hg2 hb2)
    go_ret
    refine ⟨A2, 6, d2, rfl, ?_, HB1.out.trans ((((Below.refl _ _).alloc (Nat.le_refl _) _).alloc (by simp) _).trans hb2 |>.mono hsz)⟩
    rw [HH2.out]
    exact own_mono hown2 hsz
  by_cases h2 : p.kind = 2
  · have hh := HH.out
    rw [if_neg h1] at hh
    rw [if_pos h2] at hh
    have HH2 := hid hh
    have y1 : (p.kind == 1) = false := by simpa using h1 
    have y2 : (p.kind == 2) = true := by simpa using h2 
    clear HH hh h1 h2
    go_wp2_with (first | (at_builtin; refine appB _ rfl (.tmp 34) (.tmp 38) rfl w1.heap.size (some ⟨w1.heap.size, 0, none⟩) 3 3 [b_k, b_s1, b_s0] rfl (own_below (own_built w1 ([b_k, b_s1, b_s0].map bV) 5 3 rfl (by omega)) ((Below.refl _ _).alloc (Nat.le_refl _) _)) _ (some ⟨w1.heap.size + 1, 0, none⟩) 1 1 [b_n] rfl (reads_new2 w1 _ ([b_n].map bV) 5 1 rfl) (by omega) (by simp; omega) ?_; intro A2 d2 w2 hown2 hg2 hb2; have hb12 : Below w1.heap.size w1 w2 := (((Below.refl _ _).alloc (Nat.le_refl _) _).alloc (by simp) _).trans hb2; have c8 : w2.cell? ⟨w.heap.size, 8, none⟩ = some (.slice A p.data.length c) := (hb12.cell (p := ⟨w.heap.size, 8, none⟩) hlt1).trans c8; have HR2 := hid (HRD.out.belowS hb12); have hs12 := hb12.size) | (at_builtin; refine appB _ rfl (.tmp 40) (.tmp 42) rfl w1.heap.size A2 4 d2 _ rfl hown2 _ A p.data.length c p.data rfl HR2.out (by omega) hs12 ?_; intro A3 d3 w3 hown3 hg3 hb3))
    go_ret
    refine ⟨A3, 4 + p.data.length, d3, rfl, ?_, HB1.out.trans ((hb12.trans hb3).mono hsz)⟩
    rw [HH2.out]
    have h := own_mono hown3 hsz
    simpa using h
  by_cases h6 : p.kind = 6
  · have hh := HH.out
    rw [if_neg h1] at hh
    rw [if_neg h2] at hh
    rw [if_pos h6] at hh
    have HH2 := hid hh
    have y1 : (p.kind == 1) = false := by simpa using h1 
    have y2 : (p.kind == 2) = false := by simpa using h2 
    have y6 : (p.kind == 6) = true := by simpa using h6 
    clear HH hh h1 h2 h6
    go_wp2_with (at_builtin; refine appB _ rfl (.tmp 46) (.tmp 53) rfl w1.heap.size (some ⟨w1.heap.size, 0, none⟩) 3 3 [b_k, b_s1, b_s0] rfl (own_below (own_built w1 ([b_k, b_s1, b_s0].map bV) 5 3 rfl (by omega)) ((Below.refl _ _).alloc (Nat.le_refl _) _)) _ (some ⟨w1.heap.size + 1, 0, none⟩) 2 2 [b_w, b_n] rfl (reads_new2 w1 _ ([b_w, b_n].map bV) 5 2 rfl) (by omega) (by simp; omega) ?_; intro A2 d2 w2 hown2 hg2 hb2)
    go_ret
    refine ⟨A2, 5, d2, rfl, ?_, HB1.out.trans ((((Below.refl _ _).alloc (Nat.le_refl _) _).alloc (by simp) _).trans hb2 |>.mono hsz)⟩
    rw [HH2.out]
    exact own_mono hown2 hsz
  by_cases h7 : p.kind = 7
  · have hh := HH.out
    rw [if_neg h1] at hh
    rw [if_neg h2] at hh
    rw [if_neg h6] at hh
    rw [if_pos h7] at hh
    have HH2 := hid hh
    have y1 : (p.kind == 1) = false := by simpa using h1 
    have y2 : (p.kind == 2) = false := by simpa using h2 
    have y6 : (p.kind == 6) = false := by simpa using h6 
    have y7 : (p.kind == 7) = true := by simpa using h7 
    clear HH hh h1 h2 h6 h7
    go_wp2_with (at_builtin; refine appB _ rfl (.tmp 57) (.tmp 67) rfl w1.heap.size (some ⟨w1.heap.size, 0, none⟩) 3 3 [b_k, b_s1, b_s0] rfl (own_below (own_built w1 ([b_k, b_s1, b_s0].map bV) 5 3 rfl (by omega)) ((Below.refl _ _).alloc (Nat.le_refl _) _)) _ (some ⟨w1.heap.size + 1, 0, none⟩) 3 3 [b_w, b_n, b_c] rfl (reads_new2 w1 _ ([b_w, b_n, b_c].map bV) 5 3 rfl) (by omega) (by simp; omega) ?_; intro A2 d2 w2 hown2 hg2 hb2)
    go_ret
    refine ⟨A2, 6, d2, rfl, ?_, HB1.out.trans ((((Below.refl _ _).alloc (Nat.le_refl _) _).alloc (by simp) _).trans hb2 |>.mono hsz)⟩
    rw [HH2.out]
    exact own_mono hown2 hsz
  by_cases h8 : p.kind = 8
  · have hh := HH.out
    rw [if_neg h1] at hh
    rw [if_neg h2] at hh
    rw [if_neg h6] at hh
    rw [if_neg h7] at hh
    rw [if_pos h8] at hh
    have HH2 := hid hh
    have y1 : (p.kind == 1) = false := by simpa using h1 
    have y2 : (p.kind == 2) = false := by simpa using h2 
    have y6 : (p.kind == 6) = false := by simpa using h6 
    have y7 : (p.kind == 7) = false := by simpa using h7 
    have y8 : (p.kind == 8) = true := by simpa using h8 
    clear HH hh h1 h2 h6 h7 h8
    go_wp2_with (at_builtin; refine appB _ rfl (.tmp 71) (.tmp 89) rfl w1.heap.size (some ⟨w1.heap.size, 0, none⟩) 3 3 [b_k, b_s1, b_s0] rfl (own_below (own_built w1 ([b_k, b_s1, b_s0].map bV) 5 3 rfl (by omega)) ((Below.refl _ _).alloc (Nat.le_refl _) _)) _ (some ⟨w1.heap.size + 1, 0, none⟩) 5 5 [b_p, b_z1, b_z0, b_h1, b_h0] rfl (reads_new2 w1 _ ([b_p, b_z1, b_z0, b_h1, b_h0].map bV) 5 5 rfl) (by omega) (by simp; omega) ?_; intro A2 d2 w2 hown2 hg2 hb2)
    go_ret
    refine ⟨A2, 8, d2, rfl, ?_, HB1.out.trans ((((Below.refl _ _).alloc (Nat.le_refl _) _).alloc (by simp) _).trans hb2 |>.mono hsz)⟩
    rw [HH2.out]
    exact own_mono hown2 hsz
  have hh := HH.out
  rw [if_neg h1, if_neg h2, if_neg h6, if_neg h7, if_neg h8, List.append_nil] at hh
  have HH2 := hid hh
  have y1 : (p.kind == 1) = false := by simpa using h1 
  have y2 : (p.kind == 2) = false := by simpa using h2 
  have y6 : (p.kind == 6) = false := by simpa using h6 
  have y7 : (p.kind == 7) = false := by simpa using h7 
  have y8 : (p.kind == 8) = false := by simpa using h8 
  clear HH hh h1 h2 h6 h7 h8
  go_wp2_with fail
  go_ret
  refine ⟨_, 3, 3, rfl, ?_, HB1.out.alloc hsz _⟩
  rw [HH2.out]
  exact own_mono (own_built w1 ([b_k, b_s1, b_s0].map bV) 5 3 rfl (by omega)) hsz
end Go.Proofs.Ythipfopmaegpdaa
