import Derived.Test.YtfphhabaeggenaaDoorBi
import Derived.Test.YtfphhabaeggenaaDoorBm
import Derived.KernelRfl
set_option linter.all false
namespace Go.Proofs.YtfphhabaeggenaaDoor
open Go.RowKit
set_option maxRecDepth 100000
section
variable{k f:Nat}{fn:Func}
theorem rf2(t:FT)(h1:PG.funcs[f]? = some fn)(h:(fn.body.isSome&&tabOk t.sd t.sx (bodyOf fn)&&fnB PG SS EE TT k f t)=true):RK k:=rF2 mixed h1 h
theorem rl2{id:Nat}(t:FT)(h1:PG.funcs[f]? = some fn)(h:(isLoop1 (subs id (bodyOf fn))&&tabOk t.sd t.sx (lb fn id)&&lpC PG SS EE TT k f id fn t)=true):RK k:=rL2 mixed h1 h
end
theorem ru86:RK 86:=rf2 t26 f26_at (by kernel_rfl)
theorem ru87:RK 87:=rf2 t23 f23_at (by kernel_rfl)
theorem ru88:RK 88:=rf2 t24 f24_at (by kernel_rfl)
theorem ru89:RK 89:=rl2 (id:=1) t24 f24_at (by kernel_rfl)
theorem ru90:RK 90:=rl2 (id:=1) t24 f24_at (by kernel_rfl)
theorem ru91:RK 91:=rf2 t44 f44_at (by kernel_rfl)
theorem ru92:RK 92:=rf2 t52 f52_at (by kernel_rfl)
theorem ru93:RK 93:=rl2 (id:=0) t52 f52_at (by kernel_rfl)
theorem ru94:RK 94:=rl2 (id:=0) t52 f52_at (by kernel_rfl)
theorem ru95:RK 95:=rf2 t50 f50_at (by kernel_rfl)
theorem ru96:RK 96:=rf2 t51 f51_at (by kernel_rfl)
theorem ru97:RK 97:=rf2 t53 f53_at (by kernel_rfl)
theorem ru98:RK 98:=rf2 t54 f54_at (by kernel_rfl)
theorem ru99:RK 99:=rf2 t45 f45_at (by kernel_rfl)
theorem ru100:RK 100:=rl2 (id:=0) t45 f45_at (by kernel_rfl)
theorem ru101:RK 101:=rl2 (id:=0) t45 f45_at (by kernel_rfl)
theorem ru102:RK 102:=rl2 (id:=2) t45 f45_at (by kernel_rfl)
theorem ru103:RK 103:=rl2 (id:=2) t45 f45_at (by kernel_rfl)
theorem ru104:RK 104:=rf2 t46 f46_at (by kernel_rfl)
theorem ru105:RK 105:=rl2 (id:=0) t46 f46_at (by kernel_rfl)
theorem ru106:RK 106:=rl2 (id:=0) t46 f46_at (by kernel_rfl)
theorem ru107:RK 107:=rl2 (id:=0) t46 f46_at (by kernel_rfl)
theorem ru108:RK 108:=rl2 (id:=0) t46 f46_at (by kernel_rfl)
theorem ru109:RK 109:=rf2 t47 f47_at (by kernel_rfl)
theorem ru110:RK 110:=rf2 t48 f48_at (by kernel_rfl)
theorem ru111:RK 111:=rf2 t69 f69_at (by kernel_rfl)
theorem ru112:RK 112:=rl2 (id:=0) t69 f69_at (by kernel_rfl)
theorem ru113:RK 113:=rl2 (id:=0) t69 f69_at (by kernel_rfl)
theorem ru114:RK 114:=rf2 t67 f67_at (by kernel_rfl)
theorem ru115:RK 115:=rl2 (id:=0) t67 f67_at (by kernel_rfl)
theorem ru116:RK 116:=rl2 (id:=0) t67 f67_at (by kernel_rfl)
theorem ru117:RK 117:=rf2 t68 f68_at (by kernel_rfl)
theorem ru118:RK 118:=rf2 t76 f76_at (by kernel_rfl)
theorem ru119:RK 119:=rl2 (id:=0) t76 f76_at (by kernel_rfl)
theorem ru120:RK 120:=rl2 (id:=0) t76 f76_at (by kernel_rfl)
theorem ru121:RK 121:=rl2 (id:=0) t76 f76_at (by kernel_rfl)
theorem ru122:RK 122:=rl2 (id:=0) t76 f76_at (by kernel_rfl)
theorem ru123:RK 123:=rl2 (id:=0) t76 f76_at (by kernel_rfl)
theorem ru124:RK 124:=rf2 t83 f83_at (by kernel_rfl)
theorem ru125:RK 125:=rf2 t84 f84_at (by kernel_rfl)
theorem ru126:RK 126:=rf2 t8 f8_at (by kernel_rfl)
theorem ru127:RK 127:=rl2 (id:=0) t8 f8_at (by kernel_rfl)
theorem ru128:RK 128:=rl2 (id:=2) t8 f8_at (by kernel_rfl)
end Go.Proofs.YtfphhabaeggenaaDoor
