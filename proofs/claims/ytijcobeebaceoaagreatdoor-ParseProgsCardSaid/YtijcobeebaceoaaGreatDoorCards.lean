/-
  DERIVED. GIVEN WITH THE SEED: THE CARDS: each row of YtijcobeebaceoaaGreatDoorRows.lean that lists a variable, with what it lists TIED to the program's text (the seventh form; the later family's looks); each row that meets fmt, with fmt's text TOLD by the authors' own Lean function (tested against real Go, not proved from fmt's source: count such statements apart). THE CARD IS WHAT COUNTS. Prove the row's statement (the work); the ties are given (YtijcobeebaceoaaGreatDoorTie.lean); close each card by the builder's one call (the guide's Derived/Test/ToyasCard.lean, 'card_holds'). Laid BY PROGRAM, IN A SANDBOX (cutbox-door.mjs). By AI agents, Wed Nov 11 2026. No macro, syntax, notation, axiom, sorry.
-/
import Derived.Test.YtijcobeebaceoaaGreatDoorRows
import GoSem.ClaimSeven
namespace Go.Proofs.YtijcobeebaceoaaGreatDoor
namespace Rows

/-- THE TIED CARD OF 'cognatelaw06.ParseTypes'. -/
def parseTypesCard : Claim7 := { stood := { row := parseTypesRow, standIns := [], harness := (true, "8250f3ad9d242759d4cda65d9cc05518b7badf2c88e2ebb1b2437bbc2a10cceb"), looks := true }, kinds := [], alts := [], laidByText := true, laidKinds := [.data, .pinned], laidTests := true, laidLooks := .later }
def ParseTypesCardSaid : Prop := Claim7.holds Tryz.pinned (.plain (OpenSpec.ofChange parseTypesSpec)) parseTypesCard

/-- THE TIED CARD OF 'cognatelaw06.ParseProgs'. -/
def parseProgsCard : Claim7 := { stood := { row := parseProgsRow, standIns := [], harness := (true, "8250f3ad9d242759d4cda65d9cc05518b7badf2c88e2ebb1b2437bbc2a10cceb"), looks := true }, kinds := [], alts := [], laidByText := true, laidKinds := [.data, .pinned], laidTests := true, laidLooks := .later }
def ParseProgsCardSaid : Prop := Claim7.holds Tryz.pinned (.plain (OpenSpec.ofChange parseProgsSpec)) parseProgsCard

/-- THE TIED CARD OF 'cognatelaw19.PreludeText'. -/
def preludeTextCard : Claim7 := { stood := { row := preludeTextRow, standIns := [], harness := (true, "8250f3ad9d242759d4cda65d9cc05518b7badf2c88e2ebb1b2437bbc2a10cceb"), looks := true }, kinds := [], alts := [], laidByText := true, laidKinds := [.data, .pinned], laidTests := true, laidLooks := .later }
def PreludeTextCardSaid : Prop := Claim7.holds Tryz.pinned (.plain (OpenSpec.ofChange preludeTextSpec)) preludeTextCard

/-- THE SECOND FORM's CARD OF 'cognatelaw06.ParseTypes'. -/
def parseTypesUptoCard : Claim7 := { stood := { row := parseTypesUptoRow, standIns := [], harness := (true, "8250f3ad9d242759d4cda65d9cc05518b7badf2c88e2ebb1b2437bbc2a10cceb"), looks := true }, kinds := [], alts := [], laidByText := true, laidKinds := [.data, .pinned], laidTests := true, laidLooks := .later }
def ParseTypesUptoCardSaid : Prop := Claim7.holds Tryz.pinned (.plain (OpenSpec.upto parseTypesSpec)) parseTypesUptoCard

/-- THE SECOND FORM's CARD OF 'cognatelaw06.ParseProgs'. -/
def parseProgsUptoCard : Claim7 := { stood := { row := parseProgsUptoRow, standIns := [], harness := (true, "8250f3ad9d242759d4cda65d9cc05518b7badf2c88e2ebb1b2437bbc2a10cceb"), looks := true }, kinds := [], alts := [], laidByText := true, laidKinds := [.data, .pinned], laidTests := true, laidLooks := .later }
def ParseProgsUptoCardSaid : Prop := Claim7.holds Tryz.pinned (.plain (OpenSpec.upto parseProgsSpec)) parseProgsUptoCard

/-- THE SECOND FORM's CARD OF 'cognatelaw19.PreludeText'. -/
def preludeTextUptoCard : Claim7 := { stood := { row := preludeTextUptoRow, standIns := [], harness := (true, "8250f3ad9d242759d4cda65d9cc05518b7badf2c88e2ebb1b2437bbc2a10cceb"), looks := true }, kinds := [], alts := [], laidByText := true, laidKinds := [.data, .pinned], laidTests := true, laidLooks := .later }
def PreludeTextUptoCardSaid : Prop := Claim7.holds Tryz.pinned (.plain (OpenSpec.upto preludeTextSpec)) preludeTextUptoCard
end Rows
end Go.Proofs.YtijcobeebaceoaaGreatDoor
