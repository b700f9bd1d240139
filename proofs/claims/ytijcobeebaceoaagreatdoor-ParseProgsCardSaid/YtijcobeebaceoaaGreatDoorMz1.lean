import Derived.Test.YtijcobeebaceoaaGreatDoorJt0
import Derived.Test.YtijcobeebaceoaaGreatDoorMz0
set_option linter.all false
namespace Go.Proofs.YtijcobeebaceoaaGreatDoor
open Go.RowKit
set_option maxRecDepth 100000
theorem q_0(h:bR (aA PG SS EE TT) 0):bR (aA PG SS EE TT) 12:=rows_ok mixed (ft:=vR) 0 h 12 (by kernel_rfl)
theorem aoZ(h:bR (aA PG SS EE TT) 12):bR (aA PG SS EE TT) 24:=rows_ok mixed (ft:=vR) 12 h 12 (by kernel_rfl)
theorem aoY(h:bR (aA PG SS EE TT) 24):bR (aA PG SS EE TT) 36:=rows_ok mixed (ft:=vR) 24 h 12 (by kernel_rfl)
theorem aoX(h:bR (aA PG SS EE TT) 36):bR (aA PG SS EE TT) 48:=rows_ok mixed (ft:=vR) 36 h 12 (by kernel_rfl)
theorem aoW(h:bR (aA PG SS EE TT) 48):bR (aA PG SS EE TT) 60:=rows_ok mixed (ft:=vR) 48 h 12 (by kernel_rfl)
theorem aoV(h:bR (aA PG SS EE TT) 60):bR (aA PG SS EE TT) 72:=rows_ok mixed (ft:=vR) 60 h 12 (by kernel_rfl)
theorem aoU(h:bR (aA PG SS EE TT) 72):bR (aA PG SS EE TT) 84:=rows_ok mixed (ft:=vR) 72 h 12 (by kernel_rfl)
theorem aoT(h:bR (aA PG SS EE TT) 84):bR (aA PG SS EE TT) 85:=rows_ok mixed (ft:=vR) 84 h 1 (by kernel_rfl)
theorem ak9(h:bR (aA PG SS EE TT) 0):bR (aA PG SS EE TT) 85:=(aoT (aoU (aoV (aoW (aoX (aoY (aoZ (q_0 h))))))))
end Go.Proofs.YtijcobeebaceoaaGreatDoor
