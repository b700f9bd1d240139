import Derived.Test.YtfphhabaeggenaaDoorBi
import Derived.Test.YtfphhabaeggenaaDoorBm
import Derived.KernelRfl
set_option linter.all false
namespace Go.Proofs.YtfphhabaeggenaaDoor
open Go.RowKit
set_option maxRecDepth 100000
section
variable{k f:Nat}{fn:Func}
theorem rf3(t:FT)(h1:PG.funcs[f]? = some fn)(h:(fn.body.isSome&&tabOk t.sd t.sx (bodyOf fn)&&fnB PG SS EE TT k f t)=true):RK k:=rF2 mixed h1 h
theorem rl3{id:Nat}(t:FT)(h1:PG.funcs[f]? = some fn)(h:(isLoop1 (subs id (bodyOf fn))&&tabOk t.sd t.sx (lb fn id)&&lpC PG SS EE TT k f id fn t)=true):RK k:=rL2 mixed h1 h
end
theorem ru129:RK 129:=rl3 (id:=4) t8 f8_at (by kernel_rfl)
theorem ru130:RK 130:=rf3 t9 f9_at (by kernel_rfl)
theorem ru131:RK 131:=rl3 (id:=0) t9 f9_at (by kernel_rfl)
theorem ru132:RK 132:=rl3 (id:=2) t9 f9_at (by kernel_rfl)
theorem ru133:RK 133:=rf3 t14 f14_at (by kernel_rfl)
theorem ru134:RK 134:=rl3 (id:=0) t14 f14_at (by kernel_rfl)
theorem ru135:RK 135:=rf3 t15 f15_at (by kernel_rfl)
theorem ru136:RK 136:=rl3 (id:=0) t15 f15_at (by kernel_rfl)
theorem ru137:RK 137:=rf3 t16 f16_at (by kernel_rfl)
theorem ru138:RK 138:=rl3 (id:=0) t16 f16_at (by kernel_rfl)
theorem ru139:RK 139:=rf3 t17 f17_at (by kernel_rfl)
theorem ru140:RK 140:=rl3 (id:=0) t17 f17_at (by kernel_rfl)
theorem ru141:RK 141:=rf3 t18 f18_at (by kernel_rfl)
theorem ru142:RK 142:=rf3 t19 f19_at (by kernel_rfl)
theorem ru143:RK 143:=rl3 (id:=0) t19 f19_at (by kernel_rfl)
theorem ru144:RK 144:=rf3 t37 f37_at (by kernel_rfl)
theorem ru145:RK 145:=rl3 (id:=0) t37 f37_at (by kernel_rfl)
theorem ru146:RK 146:=rf3 t38 f38_at (by kernel_rfl)
theorem ru147:RK 147:=rl3 (id:=0) t38 f38_at (by kernel_rfl)
theorem ru150:RK 150:=RuleOk.weakM (ek:=en150) (eb:=en23) (by kernel_rfl) (by kernel_rfl) rfl rfl rfl rfl rfl ⟨_,rfl⟩ rfl rfl rfl (by kernel_rfl) ⟨_,_,rfl⟩
theorem ru151:RK 151:=RuleOk.weakM (ek:=en151) (eb:=en41) (by kernel_rfl) (by kernel_rfl) rfl rfl rfl rfl rfl ⟨_,rfl⟩ rfl rfl rfl (by kernel_rfl) ⟨_,_,rfl⟩
theorem ru152:RK 152:=RuleOk.weakM (ek:=en152) (eb:=en52) (by kernel_rfl) (by kernel_rfl) rfl rfl rfl rfl rfl ⟨_,rfl⟩ rfl rfl rfl (by kernel_rfl) ⟨_,_,rfl⟩
theorem ru153:RK 153:=RuleOk.weakM (ek:=en153) (eb:=en68) (by kernel_rfl) (by kernel_rfl) rfl rfl rfl rfl rfl ⟨_,rfl⟩ rfl rfl rfl (by kernel_rfl) ⟨_,_,rfl⟩
theorem ru154:RK 154:=RuleOk.weakM (ek:=en154) (eb:=en77) (by kernel_rfl) (by kernel_rfl) rfl rfl rfl rfl rfl ⟨_,rfl⟩ rfl rfl rfl (by kernel_rfl) ⟨_,_,rfl⟩
theorem ru155:RK 155:=RuleOk.weakM (ek:=en155) (eb:=en84) (by kernel_rfl) (by kernel_rfl) rfl rfl rfl rfl rfl ⟨_,rfl⟩ rfl rfl rfl (by kernel_rfl) ⟨_,_,rfl⟩
theorem ru156:RK 156:=RuleOk.weakM (ek:=en156) (eb:=en88) (by kernel_rfl) (by kernel_rfl) rfl rfl rfl rfl rfl ⟨_,rfl⟩ rfl rfl rfl (by kernel_rfl) ⟨_,_,rfl⟩
theorem ru157:RK 157:=RuleOk.weak (ek:=en157) (eb:=en18) (by kernel_rfl) (by kernel_rfl) rfl rfl rfl rfl rfl rfl rfl rfl rfl (by kernel_rfl)
theorem ru158:RK 158:=RuleOk.weakM (ek:=en158) (eb:=en92) (by kernel_rfl) (by kernel_rfl) rfl rfl rfl rfl rfl ⟨_,rfl⟩ rfl rfl rfl (by kernel_rfl) ⟨_,_,rfl⟩
theorem ru159:RK 159:=RuleOk.weakM (ek:=en159) (eb:=en96) (by kernel_rfl) (by kernel_rfl) rfl rfl rfl rfl rfl ⟨_,rfl⟩ rfl rfl rfl (by kernel_rfl) ⟨_,_,rfl⟩
theorem ru160:RK 160:=RuleOk.weakM (ek:=en160) (eb:=en98) (by kernel_rfl) (by kernel_rfl) rfl rfl rfl rfl rfl ⟨_,rfl⟩ rfl rfl rfl (by kernel_rfl) ⟨_,_,rfl⟩
theorem ru161:RK 161:=RuleOk.weakM (ek:=en161) (eb:=en99) (by kernel_rfl) (by kernel_rfl) rfl rfl rfl rfl rfl ⟨_,rfl⟩ rfl rfl rfl (by kernel_rfl) ⟨_,_,rfl⟩
theorem ru162:RK 162:=RuleOk.weakM (ek:=en162) (eb:=en104) (by kernel_rfl) (by kernel_rfl) rfl rfl rfl rfl rfl ⟨_,rfl⟩ rfl rfl rfl (by kernel_rfl) ⟨_,_,rfl⟩
theorem ru163:RK 163:=RuleOk.weakM (ek:=en163) (eb:=en109) (by kernel_rfl) (by kernel_rfl) rfl rfl rfl rfl rfl ⟨_,rfl⟩ rfl rfl rfl (by kernel_rfl) ⟨_,_,rfl⟩
theorem ru164:RK 164:=RuleOk.weakM (ek:=en164) (eb:=en111) (by kernel_rfl) (by kernel_rfl) rfl rfl rfl rfl rfl ⟨_,rfl⟩ rfl rfl rfl (by kernel_rfl) ⟨_,_,rfl⟩
theorem ru165:RK 165:=RuleOk.weakM (ek:=en165) (eb:=en114) (by kernel_rfl) (by kernel_rfl) rfl rfl rfl rfl rfl ⟨_,rfl⟩ rfl rfl rfl (by kernel_rfl) ⟨_,_,rfl⟩
theorem ru166:RK 166:=RuleOk.weakM (ek:=en166) (eb:=en117) (by kernel_rfl) (by kernel_rfl) rfl rfl rfl rfl rfl ⟨_,rfl⟩ rfl rfl rfl (by kernel_rfl) ⟨_,_,rfl⟩
theorem ru167:RK 167:=RuleOk.weakM (ek:=en167) (eb:=en118) (by kernel_rfl) (by kernel_rfl) rfl rfl rfl rfl rfl ⟨_,rfl⟩ rfl rfl rfl (by kernel_rfl) ⟨_,_,rfl⟩
theorem ru168:RK 168:=RuleOk.weakM (ek:=en168) (eb:=en124) (by kernel_rfl) (by kernel_rfl) rfl rfl rfl rfl rfl ⟨_,rfl⟩ rfl rfl rfl (by kernel_rfl) ⟨_,_,rfl⟩
end Go.Proofs.YtfphhabaeggenaaDoor
