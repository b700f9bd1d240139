import Derived.Test.YtijcobeebaceoaaGreatDoorJt0
import Derived.Test.YtijcobeebaceoaaGreatDoorMz0
set_option linter.unusedVariables false
set_option linter.unusedSimpArgs false
set_option linter.unusedSectionVars false
namespace Go.Proofs.YtijcobeebaceoaaGreatDoor
open Go.RowKit
set_option maxRecDepth 100000
theorem aoT(h:bZ (aJ PG SS EE TT) 85):bZ (aJ PG SS EE TT) 97:=rows_ok mixed (ft:=wJ) 85 h 12 (by kernel_rfl)
theorem aoS(h:bZ (aJ PG SS EE TT) 97):bZ (aJ PG SS EE TT) 109:=rows_ok mixed (ft:=wJ) 97 h 12 (by kernel_rfl)
theorem akl(h:bZ (aJ PG SS EE TT) 109):bZ (aJ PG SS EE TT) 121:=rows_ok mixed (ft:=wJ) 109 h 12 (by kernel_rfl)
theorem akk(h:bZ (aJ PG SS EE TT) 121):bZ (aJ PG SS EE TT) 133:=rows_ok mixed (ft:=wJ) 121 h 12 (by kernel_rfl)
theorem akj(h:bZ (aJ PG SS EE TT) 133):bZ (aJ PG SS EE TT) 145:=rows_ok mixed (ft:=wJ) 133 h 12 (by kernel_rfl)
theorem aki(h:bZ (aJ PG SS EE TT) 145):bZ (aJ PG SS EE TT) 157:=rows_ok mixed (ft:=wJ) 145 h 12 (by kernel_rfl)
theorem akh(h:bZ (aJ PG SS EE TT) 157):bZ (aJ PG SS EE TT) 169:=rows_ok mixed (ft:=wJ) 157 h 12 (by kernel_rfl)
theorem akg(h:bZ (aJ PG SS EE TT) 169):bZ (aJ PG SS EE TT) 170:=rows_ok mixed (ft:=wJ) 169 h 1 (by kernel_rfl)
theorem ahW(h:bZ (aJ PG SS EE TT) 85):bZ (aJ PG SS EE TT) 170:=(akg (akh (aki (akj (akk (akl (aoS (aoT h))))))))
end Go.Proofs.YtijcobeebaceoaaGreatDoor
