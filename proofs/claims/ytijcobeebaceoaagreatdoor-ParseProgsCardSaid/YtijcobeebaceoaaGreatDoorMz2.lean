import Derived.Test.YtijcobeebaceoaaGreatDoorJt0
import Derived.Test.YtijcobeebaceoaaGreatDoorMz0
set_option linter.all false
namespace Go.Proofs.YtijcobeebaceoaaGreatDoor
open Go.RowKit
set_option maxRecDepth 100000
theorem aoS(h:bR (aA PG SS EE TT) 85):bR (aA PG SS EE TT) 97:=rows_ok mixed (ft:=vR) 85 h 12 (by kernel_rfl)
theorem aoR(h:bR (aA PG SS EE TT) 97):bR (aA PG SS EE TT) 109:=rows_ok mixed (ft:=vR) 97 h 12 (by kernel_rfl)
theorem akq(h:bR (aA PG SS EE TT) 109):bR (aA PG SS EE TT) 121:=rows_ok mixed (ft:=vR) 109 h 12 (by kernel_rfl)
theorem akp(h:bR (aA PG SS EE TT) 121):bR (aA PG SS EE TT) 133:=rows_ok mixed (ft:=vR) 121 h 12 (by kernel_rfl)
theorem ako(h:bR (aA PG SS EE TT) 133):bR (aA PG SS EE TT) 145:=rows_ok mixed (ft:=vR) 133 h 12 (by kernel_rfl)
theorem akn(h:bR (aA PG SS EE TT) 145):bR (aA PG SS EE TT) 157:=rows_ok mixed (ft:=vR) 145 h 12 (by kernel_rfl)
theorem akm(h:bR (aA PG SS EE TT) 157):bR (aA PG SS EE TT) 169:=rows_ok mixed (ft:=vR) 157 h 12 (by kernel_rfl)
theorem akl(h:bR (aA PG SS EE TT) 169):bR (aA PG SS EE TT) 170:=rows_ok mixed (ft:=vR) 169 h 1 (by kernel_rfl)
theorem ahV(h:bR (aA PG SS EE TT) 85):bR (aA PG SS EE TT) 170:=(akl (akm (akn (ako (akp (akq (aoR (aoS h))))))))
end Go.Proofs.YtijcobeebaceoaaGreatDoor
