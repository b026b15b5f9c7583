/-
  Images in plain words.
-/
namespace Go.Proofs.Ytojffpfgmlegdaa

structure ImgS where
  part : Int
  ver : Int
  hard : Int
  mem : Int
  fuel : Int
  sends : Int
  recvs : Int
  code : List UInt8
def withinB (n a b : Int) : Bool := decide (a ≤ n) && decide (n ≤ b)
/-- What an image is asked. -/
def askI (i : ImgS) : List Bool := [withinB i.part 0 3, withinB i.ver 1 65535, withinB i.hard 0 65535, withinB i.mem 1 16, withinB i.fuel 1 32, withinB i.sends 0 15, withinB i.recvs 0 15, withinB (i.code.length : Int) 1 96]
def rightI (i : ImgS) : Bool := (askI i).all id
theorem askI_len (i : ImgS) : (askI i).length = 8 := rfl
theorem withinB_iff (n a b : Int) : withinB n a b = true ↔ a ≤ n ∧ n ≤ b := by simp [withinB]
def RightI (i : ImgS) : Prop := (0 ≤ i.part ∧ i.part ≤ 3) ∧ (1 ≤ i.ver ∧ i.ver ≤ 65535) ∧ (0 ≤ i.hard ∧ i.hard ≤ 65535) ∧ (1 ≤ i.mem ∧ i.mem ≤ 16) ∧ (1 ≤ i.fuel ∧ i.fuel ≤ 32) ∧ (0 ≤ i.sends ∧ i.sends ≤ 15) ∧ (0 ≤ i.recvs ∧ i.recvs ≤ 15) ∧ (1 ≤ (i.code.length : Int) ∧ (i.code.length : Int) ≤ 96)
theorem rightI_iff (i : ImgS) : rightI i = true ↔ RightI i := by
  simp [rightI, askI, RightI, withinB_iff]
theorem all_false {l : List Bool} {k : Nat} (h : l[k]? = some false) : l.all id = false := by
  rw [List.all_eq_false]
  exact ⟨false, List.mem_of_getElem? h, by simp⟩
theorem all_true {l : List Bool} (h : ∀ j, j < l.length → l[j]? = some true) : l.all id = true := by
  rw [List.all_eq_true]
  intro x hx
  obtain ⟨j, hj, e⟩ := List.mem_iff_getElem.1 hx
  have := h j hj
  rw [List.getElem?_eq_getElem hj, e] at this
  injection this
end Go.Proofs.Ytojffpfgmlegdaa
