import Derived.Test.YtijcobeebaceoaaGreatDoorJt0
import Derived.Test.YtijcobeebaceoaaGreatDoorMz0
set_option linter.unusedVariables false
set_option linter.unusedSimpArgs false
set_option linter.unusedSectionVars false
namespace Go.Proofs.YtijcobeebaceoaaGreatDoor
open Go.RowKit
set_option maxRecDepth 100000
theorem aj6(h:bZ (aJ PG SS EE TT) 255):bZ (aJ PG SS EE TT) 267:=rows_ok mixed (ft:=wJ) 255 h 12 (by kernel_rfl)
theorem aj5(h:bZ (aJ PG SS EE TT) 267):bZ (aJ PG SS EE TT) 279:=rows_ok mixed (ft:=wJ) 267 h 12 (by kernel_rfl)
theorem aj4(h:bZ (aJ PG SS EE TT) 279):bZ (aJ PG SS EE TT) 291:=rows_ok mixed (ft:=wJ) 279 h 12 (by kernel_rfl)
theorem aj3(h:bZ (aJ PG SS EE TT) 291):bZ (aJ PG SS EE TT) 303:=rows_ok mixed (ft:=wJ) 291 h 12 (by kernel_rfl)
theorem aj2(h:bZ (aJ PG SS EE TT) 303):bZ (aJ PG SS EE TT) 315:=rows_ok mixed (ft:=wJ) 303 h 12 (by kernel_rfl)
theorem aj1(h:bZ (aJ PG SS EE TT) 315):bZ (aJ PG SS EE TT) 327:=rows_ok mixed (ft:=wJ) 315 h 12 (by kernel_rfl)
theorem aj0(h:bZ (aJ PG SS EE TT) 327):bZ (aJ PG SS EE TT) 337:=rows_ok mixed (ft:=wJ) 327 h 10 (by kernel_rfl)
theorem acT(h:bZ (aJ PG SS EE TT) 255):bZ (aJ PG SS EE TT) 337:=(aj0 (aj1 (aj2 (aj3 (aj4 (aj5 (aj6 h)))))))
end Go.Proofs.YtijcobeebaceoaaGreatDoor
