import Derived.Test.YtijcobeebaceoaaGreatDoorJk1
set_option linter.all false
namespace Go.Proofs.YtijcobeebaceoaaGreatDoor
open Go.RowKit
set_option maxRecDepth 100000 in
theorem OP:LD Tryz.prog ah3 VZ spK 100000 60 15 [] []=some (.pv (.lit (.bool true)),[]):=by kernel_rfl
theorem OO:Sem Tryz.prog 15 [] [] (.pv (bv true)) []:=fun R=>sZ (V5 R) R7 O7 (fun _=>rfl) mixed 60 _ _ _ _ _ OP
end Go.Proofs.YtijcobeebaceoaaGreatDoor
