import Derived.Test.YtijcobeebaceoaaGreatDoorJt0
import Derived.Test.YtijcobeebaceoaaGreatDoorMz0
set_option linter.unusedVariables false
set_option linter.unusedSimpArgs false
set_option linter.unusedSectionVars false
namespace Go.Proofs.YtijcobeebaceoaaGreatDoor
open Go.RowKit
set_option maxRecDepth 100000
theorem q_0(h:bZ (aJ PG SS EE TT) 0):bZ (aJ PG SS EE TT) 12:=rows_ok mixed (ft:=wJ) 0 h 12 (by kernel_rfl)
theorem ao0(h:bZ (aJ PG SS EE TT) 12):bZ (aJ PG SS EE TT) 24:=rows_ok mixed (ft:=wJ) 12 h 12 (by kernel_rfl)
theorem aoZ(h:bZ (aJ PG SS EE TT) 24):bZ (aJ PG SS EE TT) 36:=rows_ok mixed (ft:=wJ) 24 h 12 (by kernel_rfl)
theorem aoY(h:bZ (aJ PG SS EE TT) 36):bZ (aJ PG SS EE TT) 48:=rows_ok mixed (ft:=wJ) 36 h 12 (by kernel_rfl)
theorem aoX(h:bZ (aJ PG SS EE TT) 48):bZ (aJ PG SS EE TT) 60:=rows_ok mixed (ft:=wJ) 48 h 12 (by kernel_rfl)
theorem aoW(h:bZ (aJ PG SS EE TT) 60):bZ (aJ PG SS EE TT) 72:=rows_ok mixed (ft:=wJ) 60 h 12 (by kernel_rfl)
theorem aoV(h:bZ (aJ PG SS EE TT) 72):bZ (aJ PG SS EE TT) 84:=rows_ok mixed (ft:=wJ) 72 h 12 (by kernel_rfl)
theorem aoU(h:bZ (aJ PG SS EE TT) 84):bZ (aJ PG SS EE TT) 85:=rows_ok mixed (ft:=wJ) 84 h 1 (by kernel_rfl)
theorem ak2(h:bZ (aJ PG SS EE TT) 0):bZ (aJ PG SS EE TT) 85:=(aoU (aoV (aoW (aoX (aoY (aoZ (ao0 (q_0 h))))))))
end Go.Proofs.YtijcobeebaceoaaGreatDoor
