/-
  DERIVED. GIVEN WITH THE SEED: THE CARDS: each row of YtfjkpigldogkeaaGreatDoorRows.lean that lists a variable, with what it lists TIED to the program's text (the seventh form; the later family's looks); each row that meets fmt, with fmt's text TOLD by the authors' own Lean function (tested against real Go, not proved from fmt's source: count such statements apart). THE CARD IS WHAT COUNTS. Prove the row's statement (the work); the ties are given (YtfjkpigldogkeaaGreatDoorTie.lean); close each card by the builder's one call (the guide's Derived/Test/ToyasCard.lean, 'card_holds'). Laid BY PROGRAM, IN A SANDBOX (cutbox-door.mjs). By AI agents, Wed Nov 11 2026. No macro, syntax, notation, axiom, sorry.
-/
import Derived.Test.YtfjkpigldogkeaaGreatDoorRows
import GoSem.ClaimSeven
namespace Go.Proofs.YtfjkpigldogkeaaGreatDoor
namespace Rows

/-- THE TIED CARD OF 'longerontop.TopAlways'. -/
def topAlwaysCard : Claim7 := { stood := { row := topAlwaysRow, standIns := [], harness := (true, "e00a31c3e13f3a697a39791a73604eef880b642277fa820a982a2c36b3464eff"), looks := true }, kinds := [], alts := [], laidByText := true, laidKinds := [.data, .data, .data, .data, .sentinel, .sentinel, .pinned], laidTests := true, laidLooks := .later }
def TopAlwaysCardSaid : Prop := Claim7.holds Tryz.pinned (.plain (OpenSpec.ofChange topAlwaysSpec)) topAlwaysCard

/-- THE TIED CARD OF 'longerontop.TopQuiet'. -/
def topQuietCard : Claim7 := { stood := { row := topQuietRow, standIns := [], harness := (true, "e00a31c3e13f3a697a39791a73604eef880b642277fa820a982a2c36b3464eff"), looks := true }, kinds := [], alts := [], laidByText := true, laidKinds := [.data, .data, .data, .data, .sentinel, .sentinel, .pinned], laidTests := true, laidLooks := .later }
def TopQuietCardSaid : Prop := Claim7.holds Tryz.pinned (.plain (OpenSpec.ofChange topQuietSpec)) topQuietCard

/-- THE TIED CARD OF 'longerontop.TopMessages'. -/
def topMessagesCard : Claim7 := { stood := { row := topMessagesRow, standIns := [], harness := (true, "e00a31c3e13f3a697a39791a73604eef880b642277fa820a982a2c36b3464eff"), looks := true }, kinds := [], alts := [], laidByText := true, laidKinds := [.data, .data, .data, .data, .sentinel, .sentinel, .pinned], laidTests := true, laidLooks := .later }
def TopMessagesCardSaid : Prop := Claim7.holds Tryz.pinned (.plain (OpenSpec.ofChange topMessagesSpec)) topMessagesCard

/-- THE TIED CARD OF 'longerontop.TopResumes'. -/
def topResumesCard : Claim7 := { stood := { row := topResumesRow, standIns := [], harness := (true, "e00a31c3e13f3a697a39791a73604eef880b642277fa820a982a2c36b3464eff"), looks := true }, kinds := [], alts := [], laidByText := true, laidKinds := [.data, .data, .data, .data, .sentinel, .sentinel, .pinned], laidTests := true, laidLooks := .later }
def TopResumesCardSaid : Prop := Claim7.holds Tryz.pinned (.plain (OpenSpec.ofChange topResumesSpec)) topResumesCard

/-- THE TIED CARD OF 'longerontop.TopTwo'. -/
def topTwoCard : Claim7 := { stood := { row := topTwoRow, standIns := [], harness := (true, "e00a31c3e13f3a697a39791a73604eef880b642277fa820a982a2c36b3464eff"), looks := true }, kinds := [], alts := [], laidByText := true, laidKinds := [.data, .data, .data, .data, .sentinel, .sentinel, .pinned], laidTests := true, laidLooks := .later }
def TopTwoCardSaid : Prop := Claim7.holds Tryz.pinned (.plain (OpenSpec.ofChange topTwoSpec)) topTwoCard

/-- THE TIED CARD OF 'longerontop.TopMaint'. -/
def topMaintCard : Claim7 := { stood := { row := topMaintRow, standIns := [], harness := (true, "e00a31c3e13f3a697a39791a73604eef880b642277fa820a982a2c36b3464eff"), looks := true }, kinds := [], alts := [], laidByText := true, laidKinds := [.data, .data, .data, .data, .sentinel, .sentinel, .pinned], laidTests := true, laidLooks := .later }
def TopMaintCardSaid : Prop := Claim7.holds Tryz.pinned (.plain (OpenSpec.ofChange topMaintSpec)) topMaintCard

/-- THE TIED CARD OF 'longerontop.TopBad'. -/
def topBadCard : Claim7 := { stood := { row := topBadRow, standIns := [], harness := (true, "e00a31c3e13f3a697a39791a73604eef880b642277fa820a982a2c36b3464eff"), looks := true }, kinds := [], alts := [], laidByText := true, laidKinds := [.data, .data, .data, .data, .sentinel, .sentinel, .pinned], laidTests := true, laidLooks := .later }
def TopBadCardSaid : Prop := Claim7.holds Tryz.pinned (.plain (OpenSpec.ofChange topBadSpec)) topBadCard

/-- THE SECOND FORM's CARD OF 'longerontop.TopAlways'. -/
def topAlwaysUptoCard : Claim7 := { stood := { row := topAlwaysUptoRow, standIns := [], harness := (true, "e00a31c3e13f3a697a39791a73604eef880b642277fa820a982a2c36b3464eff"), looks := true }, kinds := [], alts := [], laidByText := true, laidKinds := [.data, .data, .data, .data, .sentinel, .sentinel, .pinned], laidTests := true, laidLooks := .later }
def TopAlwaysUptoCardSaid : Prop := Claim7.holds Tryz.pinned (.plain (OpenSpec.upto topAlwaysSpec)) topAlwaysUptoCard

/-- THE SECOND FORM's CARD OF 'longerontop.TopQuiet'. -/
def topQuietUptoCard : Claim7 := { stood := { row := topQuietUptoRow, standIns := [], harness := (true, "e00a31c3e13f3a697a39791a73604eef880b642277fa820a982a2c36b3464eff"), looks := true }, kinds := [], alts := [], laidByText := true, laidKinds := [.data, .data, .data, .data, .sentinel, .sentinel, .pinned], laidTests := true, laidLooks := .later }
def TopQuietUptoCardSaid : Prop := Claim7.holds Tryz.pinned (.plain (OpenSpec.upto topQuietSpec)) topQuietUptoCard

/-- THE SECOND FORM's CARD OF 'longerontop.TopMessages'. -/
def topMessagesUptoCard : Claim7 := { stood := { row := topMessagesUptoRow, standIns := [], harness := (true, "e00a31c3e13f3a697a39791a73604eef880b642277fa820a982a2c36b3464eff"), looks := true }, kinds := [], alts := [], laidByText := true, laidKinds := [.data, .data, .data, .data, .sentinel, .sentinel, .pinned], laidTests := true, laidLooks := .later }
def TopMessagesUptoCardSaid : Prop := Claim7.holds Tryz.pinned (.plain (OpenSpec.upto topMessagesSpec)) topMessagesUptoCard

/-- THE SECOND FORM's CARD OF 'longerontop.TopResumes'. -/
def topResumesUptoCard : Claim7 := { stood := { row := topResumesUptoRow, standIns := [], harness := (true, "e00a31c3e13f3a697a39791a73604eef880b642277fa820a982a2c36b3464eff"), looks := true }, kinds := [], alts := [], laidByText := true, laidKinds := [.data, .data, .data, .data, .sentinel, .sentinel, .pinned], laidTests := true, laidLooks := .later }
def TopResumesUptoCardSaid : Prop := Claim7.holds Tryz.pinned (.plain (OpenSpec.upto topResumesSpec)) topResumesUptoCard

/-- THE SECOND FORM's CARD OF 'longerontop.TopTwo'. -/
def topTwoUptoCard : Claim7 := { stood := { row := topTwoUptoRow, standIns := [], harness := (true, "e00a31c3e13f3a697a39791a73604eef880b642277fa820a982a2c36b3464eff"), looks := true }, kinds := [], alts := [], laidByText := true, laidKinds := [.data, .data, .data, .data, .sentinel, .sentinel, .pinned], laidTests := true, laidLooks := .later }
def TopTwoUptoCardSaid : Prop := Claim7.holds Tryz.pinned (.plain (OpenSpec.upto topTwoSpec)) topTwoUptoCard

/-- THE SECOND FORM's CARD OF 'longerontop.TopMaint'. -/
def topMaintUptoCard : Claim7 := { stood := { row := topMaintUptoRow, standIns := [], harness := (true, "e00a31c3e13f3a697a39791a73604eef880b642277fa820a982a2c36b3464eff"), looks := true }, kinds := [], alts := [], laidByText := true, laidKinds := [.data, .data, .data, .data, .sentinel, .sentinel, .pinned], laidTests := true, laidLooks := .later }
def TopMaintUptoCardSaid : Prop := Claim7.holds Tryz.pinned (.plain (OpenSpec.upto topMaintSpec)) topMaintUptoCard

/-- THE SECOND FORM's CARD OF 'longerontop.TopBad'. -/
def topBadUptoCard : Claim7 := { stood := { row := topBadUptoRow, standIns := [], harness := (true, "e00a31c3e13f3a697a39791a73604eef880b642277fa820a982a2c36b3464eff"), looks := true }, kinds := [], alts := [], laidByText := true, laidKinds := [.data, .data, .data, .data, .sentinel, .sentinel, .pinned], laidTests := true, laidLooks := .later }
def TopBadUptoCardSaid : Prop := Claim7.holds Tryz.pinned (.plain (OpenSpec.upto topBadSpec)) topBadUptoCard
end Rows
end Go.Proofs.YtfjkpigldogkeaaGreatDoor
