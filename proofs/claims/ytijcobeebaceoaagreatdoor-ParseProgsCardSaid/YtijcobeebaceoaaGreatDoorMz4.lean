import Derived.Test.YtijcobeebaceoaaGreatDoorJt0
import Derived.Test.YtijcobeebaceoaaGreatDoorMz0
set_option linter.all false
namespace Go.Proofs.YtijcobeebaceoaaGreatDoor
open Go.RowKit
set_option maxRecDepth 100000
theorem akc(h:bR (aA PG SS EE TT) 255):bR (aA PG SS EE TT) 267:=rows_ok mixed (ft:=vR) 255 h 12 (by kernel_rfl)
theorem akb(h:bR (aA PG SS EE TT) 267):bR (aA PG SS EE TT) 279:=rows_ok mixed (ft:=vR) 267 h 12 (by kernel_rfl)
theorem aj9(h:bR (aA PG SS EE TT) 279):bR (aA PG SS EE TT) 291:=rows_ok mixed (ft:=vR) 279 h 12 (by kernel_rfl)
theorem aj8(h:bR (aA PG SS EE TT) 291):bR (aA PG SS EE TT) 303:=rows_ok mixed (ft:=vR) 291 h 12 (by kernel_rfl)
theorem aj7(h:bR (aA PG SS EE TT) 303):bR (aA PG SS EE TT) 315:=rows_ok mixed (ft:=vR) 303 h 12 (by kernel_rfl)
theorem aj6(h:bR (aA PG SS EE TT) 315):bR (aA PG SS EE TT) 327:=rows_ok mixed (ft:=vR) 315 h 12 (by kernel_rfl)
theorem aj5(h:bR (aA PG SS EE TT) 327):bR (aA PG SS EE TT) 337:=rows_ok mixed (ft:=vR) 327 h 10 (by kernel_rfl)
theorem acH(h:bR (aA PG SS EE TT) 255):bR (aA PG SS EE TT) 337:=(aj5 (aj6 (aj7 (aj8 (aj9 (akb (akc h)))))))
end Go.Proofs.YtijcobeebaceoaaGreatDoor
