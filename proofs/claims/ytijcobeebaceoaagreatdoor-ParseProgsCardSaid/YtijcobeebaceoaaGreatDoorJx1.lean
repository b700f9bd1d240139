import Derived.Test.YtijcobeebaceoaaGreatDoorJk1
set_option linter.all false
namespace Go.Proofs.YtijcobeebaceoaaGreatDoor
open Go.RowKit
set_option maxRecDepth 100000 in
theorem Vn:LD Tryz.prog ah3 VZ spK 100000 60 6 [] []=some (.pv (.lit (.bool true)),[]):=by kernel_rfl
theorem Vm:Sem Tryz.prog 6 [] [] (.pv (bv true)) []:=fun R=>sZ (V5 R) R7 O7 (fun _=>rfl) mixed 60 _ _ _ _ _ Vn
end Go.Proofs.YtijcobeebaceoaaGreatDoor
