/- The chapter's example is true: a closed run. -/
import Derived.Test.YtlfkefbhdmfllaaGreatDoorJt2
namespace Go.Proofs.YtlfkefbhdmfllaaGreatDoor
open Go.RowKit
set_option maxRecDepth 100000 in
theorem awake_run : evalF Tryz.prog okT tabT sp0 100000 60 4 [] [] = some (.pv (.lit (.bool true)), []) := by kernel_rfl
end Go.Proofs.YtlfkefbhdmfllaaGreatDoor
