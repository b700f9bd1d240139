import Derived.Test.YtfphhabaeggenaaDoorBi
import Derived.Test.YtfphhabaeggenaaDoorBm
import Derived.KernelRfl
set_option linter.all false
namespace Go.Proofs.YtfphhabaeggenaaDoor
open Go.RowKit
set_option maxRecDepth 100000
section
variable{k f:Nat}{fn:Func}
theorem rf0(t:FT)(h1:PG.funcs[f]? = some fn)(h:(fn.body.isSome&&tabOk t.sd t.sx (bodyOf fn)&&fnB PG SS EE TT k f t)=true):RK k:=rF2 mixed h1 h
theorem rl0{id:Nat}(t:FT)(h1:PG.funcs[f]? = some fn)(h:(isLoop1 (subs id (bodyOf fn))&&tabOk t.sd t.sx (lb fn id)&&lpC PG SS EE TT k f id fn t)=true):RK k:=rL2 mixed h1 h
end
theorem ru0:RK 0:=rf0 t27 f27_at (by kernel_rfl)
theorem ru1:RK 1:=rl0 (id:=0) t27 f27_at (by kernel_rfl)
theorem ru2:RK 2:=rl0 (id:=0) t27 f27_at (by kernel_rfl)
theorem ru3:RK 3:=rl0 (id:=0) t27 f27_at (by kernel_rfl)
theorem ru4:RK 4:=rl0 (id:=2) t27 f27_at (by kernel_rfl)
theorem ru5:RK 5:=rl0 (id:=2) t27 f27_at (by kernel_rfl)
theorem ru6:RK 6:=rl0 (id:=2) t27 f27_at (by kernel_rfl)
theorem ru7:RK 7:=rl0 (id:=2) t27 f27_at (by kernel_rfl)
theorem ru8:RK 8:=rl0 (id:=2) t27 f27_at (by kernel_rfl)
theorem ru9:RK 9:=rl0 (id:=5) t27 f27_at (by kernel_rfl)
theorem ru10:RK 10:=rl0 (id:=5) t27 f27_at (by kernel_rfl)
theorem ru11:RK 11:=rl0 (id:=5) t27 f27_at (by kernel_rfl)
theorem ru12:RK 12:=rl0 (id:=5) t27 f27_at (by kernel_rfl)
theorem ru13:RK 13:=rl0 (id:=5) t27 f27_at (by kernel_rfl)
theorem ru14:RK 14:=rl0 (id:=5) t27 f27_at (by kernel_rfl)
theorem ru15:RK 15:=rl0 (id:=5) t27 f27_at (by kernel_rfl)
theorem ru16:RK 16:=rl0 (id:=5) t27 f27_at (by kernel_rfl)
theorem ru17:RK 17:=rf0 t49 f49_at (by kernel_rfl)
theorem ru18:RK 18:=rf0 t29 f29_at (by kernel_rfl)
theorem ru19:RK 19:=rf0 t7 f7_at (by kernel_rfl)
theorem ru20:RK 20:=rf0 t6 f6_at (by kernel_rfl)
theorem ru21:RK 21:=rf0 t12 f12_at (by kernel_rfl)
theorem ru22:RK 22:=rf0 t10 f10_at (by kernel_rfl)
theorem ru23:RK 23:=rf0 t13 f13_at (by kernel_rfl)
theorem ru24:RK 24:=rl0 (id:=0) t13 f13_at (by kernel_rfl)
theorem ru25:RK 25:=rl0 (id:=0) t13 f13_at (by kernel_rfl)
theorem ru26:RK 26:=rl0 (id:=0) t13 f13_at (by kernel_rfl)
theorem ru27:RK 27:=rl0 (id:=0) t13 f13_at (by kernel_rfl)
theorem ru28:RK 28:=rl0 (id:=0) t13 f13_at (by kernel_rfl)
theorem ru29:RK 29:=rl0 (id:=0) t13 f13_at (by kernel_rfl)
theorem ru30:RK 30:=rl0 (id:=0) t13 f13_at (by kernel_rfl)
theorem ru31:RK 31:=rl0 (id:=0) t13 f13_at (by kernel_rfl)
theorem ru32:RK 32:=rl0 (id:=0) t13 f13_at (by kernel_rfl)
theorem ru33:RK 33:=rl0 (id:=0) t13 f13_at (by kernel_rfl)
theorem ru34:RK 34:=rl0 (id:=0) t13 f13_at (by kernel_rfl)
theorem ru35:RK 35:=rl0 (id:=0) t13 f13_at (by kernel_rfl)
theorem ru36:RK 36:=rl0 (id:=0) t13 f13_at (by kernel_rfl)
theorem ru37:RK 37:=rl0 (id:=0) t13 f13_at (by kernel_rfl)
theorem ru38:RK 38:=rl0 (id:=0) t13 f13_at (by kernel_rfl)
theorem ru39:RK 39:=rl0 (id:=0) t13 f13_at (by kernel_rfl)
theorem ru40:RK 40:=rf0 t22 f22_at (by kernel_rfl)
theorem ru41:RK 41:=rf0 t11 f11_at (by kernel_rfl)
theorem ru42:RK 42:=rl0 (id:=0) t11 f11_at (by kernel_rfl)
end Go.Proofs.YtfphhabaeggenaaDoor
