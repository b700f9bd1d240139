/-
  DERIVED. GIVEN WITH THE SEED: THE CARDS: each row of YtfphhabaeggenaaGreatDoorRows.lean that lists a variable, with what it lists TIED to the program's text (the seventh form; the later family's looks); each row that meets fmt, with fmt's text TOLD by the authors' own Lean function (tested against real Go, not proved from fmt's source: count such statements apart). THE CARD IS WHAT COUNTS. Prove the row's statement (the work); the ties are given (YtfphhabaeggenaaGreatDoorTie.lean); close each card by the builder's one call (the guide's Derived/Test/ToyasCard.lean, 'card_holds'). Laid BY PROGRAM, IN A SANDBOX (cutbox-door.mjs). By AI agents, Wed Nov 11 2026. No macro, syntax, notation, axiom, sorry.
-/
import Derived.Test.YtfphhabaeggenaaGreatDoorRows
import GoSem.ClaimSeven
namespace Go.Proofs.YtfphhabaeggenaaGreatDoor
namespace Rows

/-- THE TIED CARD OF 'cognatelaw11.DeclsLess'. -/
def declsLessCard : Claim7 := { stood := { row := declsLessRow, standIns := [], harness := (true, "54a56f69f4e3a0780702aa497ca07880c5c55e657eb2812084621ab749cffec6"), looks := true }, kinds := [], alts := [], laidByText := true, laidKinds := [.data, .pinned], laidTests := true, laidLooks := .later }
def DeclsLessCardSaid : Prop := Claim7.holds Tryz.pinned (.plain (OpenSpec.ofChange declsLessSpec)) declsLessCard

/-- THE TIED CARD OF 'cognatelaw07.ShowBack'. -/
def showBackCard : Claim7 := { stood := { row := showBackRow, standIns := [], harness := (true, "54a56f69f4e3a0780702aa497ca07880c5c55e657eb2812084621ab749cffec6"), looks := true }, kinds := [], alts := [], laidByText := true, laidKinds := [.data, .pinned], laidTests := true, laidLooks := .later }
def ShowBackCardSaid : Prop := Claim7.holds Tryz.pinned (.plain (OpenSpec.ofChange showBackSpec)) showBackCard

/-- THE SECOND FORM's CARD OF 'cognatelaw11.DeclsLess'. -/
def declsLessUptoCard : Claim7 := { stood := { row := declsLessUptoRow, standIns := [], harness := (true, "54a56f69f4e3a0780702aa497ca07880c5c55e657eb2812084621ab749cffec6"), looks := true }, kinds := [], alts := [], laidByText := true, laidKinds := [.data, .pinned], laidTests := true, laidLooks := .later }
def DeclsLessUptoCardSaid : Prop := Claim7.holds Tryz.pinned (.plain (OpenSpec.upto declsLessSpec)) declsLessUptoCard

/-- THE SECOND FORM's CARD OF 'cognatelaw07.ShowBack'. -/
def showBackUptoCard : Claim7 := { stood := { row := showBackUptoRow, standIns := [], harness := (true, "54a56f69f4e3a0780702aa497ca07880c5c55e657eb2812084621ab749cffec6"), looks := true }, kinds := [], alts := [], laidByText := true, laidKinds := [.data, .pinned], laidTests := true, laidLooks := .later }
def ShowBackUptoCardSaid : Prop := Claim7.holds Tryz.pinned (.plain (OpenSpec.upto showBackSpec)) showBackUptoCard
end Rows
end Go.Proofs.YtfphhabaeggenaaGreatDoor
