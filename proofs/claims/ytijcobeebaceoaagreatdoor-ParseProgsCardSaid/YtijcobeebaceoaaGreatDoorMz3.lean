import Derived.Test.YtijcobeebaceoaaGreatDoorJt0
import Derived.Test.YtijcobeebaceoaaGreatDoorMz0
set_option linter.all false
namespace Go.Proofs.YtijcobeebaceoaaGreatDoor
open Go.RowKit
set_option maxRecDepth 100000
theorem akk(h:bR (aA PG SS EE TT) 170):bR (aA PG SS EE TT) 182:=rows_ok mixed (ft:=vR) 170 h 12 (by kernel_rfl)
theorem akj(h:bR (aA PG SS EE TT) 182):bR (aA PG SS EE TT) 194:=rows_ok mixed (ft:=vR) 182 h 12 (by kernel_rfl)
theorem aki(h:bR (aA PG SS EE TT) 194):bR (aA PG SS EE TT) 206:=rows_ok mixed (ft:=vR) 194 h 12 (by kernel_rfl)
theorem akh(h:bR (aA PG SS EE TT) 206):bR (aA PG SS EE TT) 218:=rows_ok mixed (ft:=vR) 206 h 12 (by kernel_rfl)
theorem akg(h:bR (aA PG SS EE TT) 218):bR (aA PG SS EE TT) 230:=rows_ok mixed (ft:=vR) 218 h 12 (by kernel_rfl)
theorem akf(h:bR (aA PG SS EE TT) 230):bR (aA PG SS EE TT) 242:=rows_ok mixed (ft:=vR) 230 h 12 (by kernel_rfl)
theorem ake(h:bR (aA PG SS EE TT) 242):bR (aA PG SS EE TT) 254:=rows_ok mixed (ft:=vR) 242 h 12 (by kernel_rfl)
theorem akd(h:bR (aA PG SS EE TT) 254):bR (aA PG SS EE TT) 255:=rows_ok mixed (ft:=vR) 254 h 1 (by kernel_rfl)
theorem acI(h:bR (aA PG SS EE TT) 170):bR (aA PG SS EE TT) 255:=(akd (ake (akf (akg (akh (aki (akj (akk h))))))))
end Go.Proofs.YtijcobeebaceoaaGreatDoor
