/-
  DERIVED. GIVEN WITH THE SEED: THE CARDS: each row of YtkamjbmjjhbjcaaGreatDoorRows.lean that lists a variable, with what it lists TIED to the program's text (the seventh form; the later family's looks); each row that meets fmt, with fmt's text TOLD by the authors' own Lean function (tested against real Go, not proved from fmt's source: count such statements apart). THE CARD IS WHAT COUNTS. Prove the row's statement (the work); the ties are given (YtkamjbmjjhbjcaaGreatDoorTie.lean); close each card by the builder's one call (the guide's Derived/Test/ToyasCard.lean, 'card_holds'). Laid BY PROGRAM, IN A SANDBOX (cutbox-door.mjs). By AI agents, Wed Nov 11 2026. No macro, syntax, notation, axiom, sorry.
-/
import Derived.Test.YtkamjbmjjhbjcaaGreatDoorRows
import GoSem.ClaimSeven
namespace Go.Proofs.YtkamjbmjjhbjcaaGreatDoor
namespace Rows

/-- THE TIED CARD OF 'cognatelaw07.ShowExps'. -/
def showExpsCard : Claim7 := { stood := { row := showExpsRow, standIns := [], harness := (true, "297cee89e471e93a75b7883d0f2bfe1cdc79fcc272a2e52c901f292b9626e961"), looks := false }, kinds := [], alts := [], laidByText := true, laidKinds := [.data, .data, .pinned], laidTests := true, laidLooks := .later }
def ShowExpsCardSaid : Prop := Claim7.holds Tryz.pinned (.plain (OpenSpec.ofChange showExpsSpec)) showExpsCard

/-- THE TIED CARD OF 'cognatelaw07.ShowParts'. -/
def showPartsCard : Claim7 := { stood := { row := showPartsRow, standIns := [], harness := (true, "297cee89e471e93a75b7883d0f2bfe1cdc79fcc272a2e52c901f292b9626e961"), looks := false }, kinds := [], alts := [], laidByText := true, laidKinds := [.data, .pinned], laidTests := true, laidLooks := .later }
def ShowPartsCardSaid : Prop := Claim7.holds Tryz.pinned (.plain (OpenSpec.ofChange showPartsSpec)) showPartsCard

/-- THE TIED CARD OF 'cognatelaw07.ShowProgs'. -/
def showProgsCard : Claim7 := { stood := { row := showProgsRow, standIns := [], harness := (true, "297cee89e471e93a75b7883d0f2bfe1cdc79fcc272a2e52c901f292b9626e961"), looks := false }, kinds := [], alts := [], laidByText := true, laidKinds := [.data, .data, .pinned], laidTests := true, laidLooks := .later }
def ShowProgsCardSaid : Prop := Claim7.holds Tryz.pinned (.plain (OpenSpec.ofChange showProgsSpec)) showProgsCard

/-- THE SECOND FORM's CARD OF 'cognatelaw07.ShowExps'. -/
def showExpsUptoCard : Claim7 := { stood := { row := showExpsUptoRow, standIns := [], harness := (true, "297cee89e471e93a75b7883d0f2bfe1cdc79fcc272a2e52c901f292b9626e961"), looks := false }, kinds := [], alts := [], laidByText := true, laidKinds := [.data, .data, .pinned], laidTests := true, laidLooks := .later }
def ShowExpsUptoCardSaid : Prop := Claim7.holds Tryz.pinned (.plain (OpenSpec.upto showExpsSpec)) showExpsUptoCard

/-- THE SECOND FORM's CARD OF 'cognatelaw07.ShowParts'. -/
def showPartsUptoCard : Claim7 := { stood := { row := showPartsUptoRow, standIns := [], harness := (true, "297cee89e471e93a75b7883d0f2bfe1cdc79fcc272a2e52c901f292b9626e961"), looks := false }, kinds := [], alts := [], laidByText := true, laidKinds := [.data, .pinned], laidTests := true, laidLooks := .later }
def ShowPartsUptoCardSaid : Prop := Claim7.holds Tryz.pinned (.plain (OpenSpec.upto showPartsSpec)) showPartsUptoCard

/-- THE SECOND FORM's CARD OF 'cognatelaw07.ShowProgs'. -/
def showProgsUptoCard : Claim7 := { stood := { row := showProgsUptoRow, standIns := [], harness := (true, "297cee89e471e93a75b7883d0f2bfe1cdc79fcc272a2e52c901f292b9626e961"), looks := false }, kinds := [], alts := [], laidByText := true, laidKinds := [.data, .data, .pinned], laidTests := true, laidLooks := .later }
def ShowProgsUptoCardSaid : Prop := Claim7.holds Tryz.pinned (.plain (OpenSpec.upto showProgsSpec)) showProgsUptoCard
end Rows
end Go.Proofs.YtkamjbmjjhbjcaaGreatDoor
