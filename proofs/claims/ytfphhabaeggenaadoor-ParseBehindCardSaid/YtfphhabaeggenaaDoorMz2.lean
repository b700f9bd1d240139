import Derived.Test.YtfphhabaeggenaaDoorBi
import Derived.Test.YtfphhabaeggenaaDoorBm
import Derived.KernelRfl
set_option linter.all false
namespace Go.Proofs.YtfphhabaeggenaaDoor
open Go.RowKit
set_option maxRecDepth 100000
section
variable{k f:Nat}{fn:Func}
theorem rf1(t:FT)(h1:PG.funcs[f]? = some fn)(h:(fn.body.isSome&&tabOk t.sd t.sx (bodyOf fn)&&fnB PG SS EE TT k f t)=true):RK k:=rF2 mixed h1 h
theorem rl1{id:Nat}(t:FT)(h1:PG.funcs[f]? = some fn)(h:(isLoop1 (subs id (bodyOf fn))&&tabOk t.sd t.sx (lb fn id)&&lpC PG SS EE TT k f id fn t)=true):RK k:=rL2 mixed h1 h
end
theorem ru43:RK 43:=rl1 (id:=0) t11 f11_at (by kernel_rfl)
theorem ru44:RK 44:=rl1 (id:=2) t11 f11_at (by kernel_rfl)
theorem ru45:RK 45:=rl1 (id:=2) t11 f11_at (by kernel_rfl)
theorem ru46:RK 46:=rl1 (id:=4) t11 f11_at (by kernel_rfl)
theorem ru47:RK 47:=rl1 (id:=4) t11 f11_at (by kernel_rfl)
theorem ru48:RK 48:=rl1 (id:=6) t11 f11_at (by kernel_rfl)
theorem ru49:RK 49:=rl1 (id:=6) t11 f11_at (by kernel_rfl)
theorem ru50:RK 50:=rf1 t25 f25_at (by kernel_rfl)
theorem ru51:RK 51:=rf1 t31 f31_at (by kernel_rfl)
theorem ru52:RK 52:=rf1 t32 f32_at (by kernel_rfl)
theorem ru53:RK 53:=rl1 (id:=0) t32 f32_at (by kernel_rfl)
theorem ru54:RK 54:=rl1 (id:=0) t32 f32_at (by kernel_rfl)
theorem ru55:RK 55:=rl1 (id:=2) t32 f32_at (by kernel_rfl)
theorem ru56:RK 56:=rl1 (id:=2) t32 f32_at (by kernel_rfl)
theorem ru57:RK 57:=rl1 (id:=2) t32 f32_at (by kernel_rfl)
theorem ru58:RK 58:=rl1 (id:=2) t32 f32_at (by kernel_rfl)
theorem ru59:RK 59:=rl1 (id:=4) t32 f32_at (by kernel_rfl)
theorem ru60:RK 60:=rl1 (id:=4) t32 f32_at (by kernel_rfl)
theorem ru61:RK 61:=rl1 (id:=4) t32 f32_at (by kernel_rfl)
theorem ru62:RK 62:=rl1 (id:=4) t32 f32_at (by kernel_rfl)
theorem ru63:RK 63:=rl1 (id:=4) t32 f32_at (by kernel_rfl)
theorem ru64:RK 64:=rl1 (id:=4) t32 f32_at (by kernel_rfl)
theorem ru65:RK 65:=rl1 (id:=4) t32 f32_at (by kernel_rfl)
theorem ru66:RK 66:=rl1 (id:=4) t32 f32_at (by kernel_rfl)
theorem ru67:RK 67:=rf1 t35 f35_at (by kernel_rfl)
theorem ru68:RK 68:=rf1 t33 f33_at (by kernel_rfl)
theorem ru69:RK 69:=rl1 (id:=0) t33 f33_at (by kernel_rfl)
theorem ru70:RK 70:=rl1 (id:=0) t33 f33_at (by kernel_rfl)
theorem ru71:RK 71:=rl1 (id:=0) t33 f33_at (by kernel_rfl)
theorem ru72:RK 72:=rl1 (id:=0) t33 f33_at (by kernel_rfl)
theorem ru73:RK 73:=rl1 (id:=0) t33 f33_at (by kernel_rfl)
theorem ru74:RK 74:=rl1 (id:=0) t33 f33_at (by kernel_rfl)
theorem ru75:RK 75:=rl1 (id:=0) t33 f33_at (by kernel_rfl)
theorem ru76:RK 76:=rl1 (id:=0) t33 f33_at (by kernel_rfl)
theorem ru77:RK 77:=rf1 t34 f34_at (by kernel_rfl)
theorem ru78:RK 78:=rl1 (id:=0) t34 f34_at (by kernel_rfl)
theorem ru79:RK 79:=rl1 (id:=0) t34 f34_at (by kernel_rfl)
theorem ru80:RK 80:=rl1 (id:=2) t34 f34_at (by kernel_rfl)
theorem ru81:RK 81:=rl1 (id:=2) t34 f34_at (by kernel_rfl)
theorem ru82:RK 82:=rl1 (id:=2) t34 f34_at (by kernel_rfl)
theorem ru83:RK 83:=rl1 (id:=2) t34 f34_at (by kernel_rfl)
theorem ru84:RK 84:=rf1 t36 f36_at (by kernel_rfl)
theorem ru85:RK 85:=rf1 t28 f28_at (by kernel_rfl)
end Go.Proofs.YtfphhabaeggenaaDoor
