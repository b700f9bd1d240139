import Derived.Test.YtijcobeebaceoaaGreatDoorJk1
set_option linter.unusedVariables false
set_option linter.unusedSimpArgs false
set_option linter.unusedSectionVars false
namespace Go.Proofs.YtijcobeebaceoaaGreatDoor
open Go.RowKit
set_option maxRecDepth 100000 in
theorem Pb:Mg Tryz.prog ah4 V4 spK 100000 60 15 [] []=some (.pv (.lit (.bool true)),[]):=by kernel_rfl
theorem O9:Sem Tryz.prog 15 [] [] (.pv (bv true)) []:=fun R=>tQ (V7 R) R8 Px (fun _=>rfl) mixed 60 _ _ _ _ _ Pb
end Go.Proofs.YtijcobeebaceoaaGreatDoor
