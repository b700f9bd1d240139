/-
  DERIVED. GIVEN WITH THE SEED: THE CARDS: each row of YtlfkefbhdmfllaaGreatDoorRows.lean that lists a variable, with what it lists TIED to the program's text (the seventh form; the later family's looks); each row that meets fmt, with fmt's text TOLD by the authors' own Lean function (tested against real Go, not proved from fmt's source: count such statements apart). THE CARD IS WHAT COUNTS. Prove the row's statement (the work); the ties are given (YtlfkefbhdmfllaaGreatDoorTie.lean); close each card by the builder's one call (the guide's Derived/Test/ToyasCard.lean, 'card_holds'). Laid BY PROGRAM, IN A SANDBOX (cutbox-door.mjs). By AI agents, Wed Nov 11 2026. No macro, syntax, notation, axiom, sorry.
-/
import Derived.Test.YtlfkefbhdmfllaaGreatDoorRows
import GoSem.ClaimSeven
namespace Go.Proofs.YtlfkefbhdmfllaaGreatDoor
namespace Rows

/-- THE TIED CARD OF 'cognatelaw15.JudgeErase'. -/
def judgeEraseCard : Claim7 := { stood := { row := judgeEraseRow, standIns := [], harness := (true, "31d718fb39754aef8088a86c1a8cff91c516727a022043e0812d9033cbb51435"), looks := false }, kinds := [], alts := [], laidByText := true, laidKinds := [.data, .pinned], laidTests := true, laidLooks := .later }
def JudgeEraseCardSaid : Prop := Claim7.holds Tryz.pinned (.plain (OpenSpec.ofChange judgeEraseSpec)) judgeEraseCard

/-- THE SECOND FORM's CARD OF 'cognatelaw15.JudgeErase'. -/
def judgeEraseUptoCard : Claim7 := { stood := { row := judgeEraseUptoRow, standIns := [], harness := (true, "31d718fb39754aef8088a86c1a8cff91c516727a022043e0812d9033cbb51435"), looks := false }, kinds := [], alts := [], laidByText := true, laidKinds := [.data, .pinned], laidTests := true, laidLooks := .later }
def JudgeEraseUptoCardSaid : Prop := Claim7.holds Tryz.pinned (.plain (OpenSpec.upto judgeEraseSpec)) judgeEraseUptoCard
end Rows
end Go.Proofs.YtlfkefbhdmfllaaGreatDoor
