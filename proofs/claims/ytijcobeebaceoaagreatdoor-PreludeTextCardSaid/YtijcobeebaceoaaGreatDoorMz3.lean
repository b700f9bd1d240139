import Derived.Test.YtijcobeebaceoaaGreatDoorJt0
import Derived.Test.YtijcobeebaceoaaGreatDoorMz0
set_option linter.unusedVariables false
set_option linter.unusedSimpArgs false
set_option linter.unusedSectionVars false
namespace Go.Proofs.YtijcobeebaceoaaGreatDoor
open Go.RowKit
set_option maxRecDepth 100000
theorem akf(h:bZ (aJ PG SS EE TT) 170):bZ (aJ PG SS EE TT) 182:=rows_ok mixed (ft:=wJ) 170 h 12 (by kernel_rfl)
theorem ake(h:bZ (aJ PG SS EE TT) 182):bZ (aJ PG SS EE TT) 194:=rows_ok mixed (ft:=wJ) 182 h 12 (by kernel_rfl)
theorem akd(h:bZ (aJ PG SS EE TT) 194):bZ (aJ PG SS EE TT) 206:=rows_ok mixed (ft:=wJ) 194 h 12 (by kernel_rfl)
theorem akc(h:bZ (aJ PG SS EE TT) 206):bZ (aJ PG SS EE TT) 218:=rows_ok mixed (ft:=wJ) 206 h 12 (by kernel_rfl)
theorem akb(h:bZ (aJ PG SS EE TT) 218):bZ (aJ PG SS EE TT) 230:=rows_ok mixed (ft:=wJ) 218 h 12 (by kernel_rfl)
theorem aj9(h:bZ (aJ PG SS EE TT) 230):bZ (aJ PG SS EE TT) 242:=rows_ok mixed (ft:=wJ) 230 h 12 (by kernel_rfl)
theorem aj8(h:bZ (aJ PG SS EE TT) 242):bZ (aJ PG SS EE TT) 254:=rows_ok mixed (ft:=wJ) 242 h 12 (by kernel_rfl)
theorem aj7(h:bZ (aJ PG SS EE TT) 254):bZ (aJ PG SS EE TT) 255:=rows_ok mixed (ft:=wJ) 254 h 1 (by kernel_rfl)
theorem acU(h:bZ (aJ PG SS EE TT) 170):bZ (aJ PG SS EE TT) 255:=(aj7 (aj8 (aj9 (akb (akc (akd (ake (akf h))))))))
end Go.Proofs.YtijcobeebaceoaaGreatDoor
