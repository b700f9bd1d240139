import Derived.Test.YtijcobeebaceoaaGreatDoorJk1
set_option linter.unusedVariables false
set_option linter.unusedSimpArgs false
set_option linter.unusedSectionVars false
namespace Go.Proofs.YtijcobeebaceoaaGreatDoor
open Go.RowKit
set_option maxRecDepth 100000 in
theorem Vq:Mg Tryz.prog ah4 V4 spK 100000 60 6 [] []=some (.pv (.lit (.bool true)),[]):=by kernel_rfl
theorem Vp:Sem Tryz.prog 6 [] [] (.pv (bv true)) []:=fun R=>tQ (V7 R) R8 Px (fun _=>rfl) mixed 60 _ _ _ _ _ Vq
end Go.Proofs.YtijcobeebaceoaaGreatDoor
