/- Rules of the entries, part 4. Printed by hq2.py. -/
import Derived.Test.YtfphhabaeggenaaDoorBi
import Derived.Test.YtfphhabaeggenaaDoorBm
import Derived.KernelRfl
set_option linter.all false
namespace Go.Proofs.YtfphhabaeggenaaDoor
open Go.RowKit
set_option maxRecDepth 100000
section
variable {k f : Nat} {fn : Func}
theorem rf3 (t : FT) (h1 : PG.funcs[f]? = some fn) (h : (fn.body.isSome && tabOk t.sd t.sx (bodyOf fn) && fnB PG SS EE TT k f t) = true) : RK k := rF2 mixed h1 h
theorem rl3 {id : Nat} (t : FT) (h1 : PG.funcs[f]? = some fn) (h : (isLoop1 (subs id (bodyOf fn)) && tabOk t.sd t.sx (lb fn id) && lpC PG SS EE TT k f id fn t) = true) : RK k := rL2 mixed h1 h
end
theorem ru111 : RK 111 := rf3 t69 f69_at (by kernel_rfl)
theorem ru112 : RK 112 := rl3 (id := 0) t69 f69_at (by kernel_rfl)
theorem ru113 : RK 113 := rl3 (id := 0) t69 f69_at (by kernel_rfl)
theorem ru114 : RK 114 := rf3 t67 f67_at (by kernel_rfl)
theorem ru115 : RK 115 := rl3 (id := 0) t67 f67_at (by kernel_rfl)
theorem ru116 : RK 116 := rl3 (id := 0) t67 f67_at (by kernel_rfl)
theorem ru117 : RK 117 := rf3 t68 f68_at (by kernel_rfl)
theorem ru118 : RK 118 := rf3 t76 f76_at (by kernel_rfl)
theorem ru119 : RK 119 := rl3 (id := 0) t76 f76_at (by kernel_rfl)
theorem ru120 : RK 120 := rl3 (id := 0) t76 f76_at (by kernel_rfl)
theorem ru121 : RK 121 := rl3 (id := 0) t76 f76_at (by kernel_rfl)
theorem ru122 : RK 122 := rl3 (id := 0) t76 f76_at (by kernel_rfl)
theorem ru123 : RK 123 := rl3 (id := 0) t76 f76_at (by kernel_rfl)
theorem ru124 : RK 124 := rf3 t83 f83_at (by kernel_rfl)
theorem ru125 : RK 125 := rf3 t84 f84_at (by kernel_rfl)
theorem ru128 : RK 128 := RuleOk.weakM (ek := en128) (eb := en23) (by kernel_rfl) (by kernel_rfl) rfl rfl rfl rfl rfl ⟨_, rfl⟩ rfl rfl rfl (by kernel_rfl) ⟨_, _, rfl⟩
theorem ru129 : RK 129 := RuleOk.weakM (ek := en129) (eb := en41) (by kernel_rfl) (by kernel_rfl) rfl rfl rfl rfl rfl ⟨_, rfl⟩ rfl rfl rfl (by kernel_rfl) ⟨_, _, rfl⟩
theorem ru130 : RK 130 := RuleOk.weakM (ek := en130) (eb := en52) (by kernel_rfl) (by kernel_rfl) rfl rfl rfl rfl rfl ⟨_, rfl⟩ rfl rfl rfl (by kernel_rfl) ⟨_, _, rfl⟩
theorem ru131 : RK 131 := RuleOk.weakM (ek := en131) (eb := en68) (by kernel_rfl) (by kernel_rfl) rfl rfl rfl rfl rfl ⟨_, rfl⟩ rfl rfl rfl (by kernel_rfl) ⟨_, _, rfl⟩
theorem ru132 : RK 132 := RuleOk.weakM (ek := en132) (eb := en77) (by kernel_rfl) (by kernel_rfl) rfl rfl rfl rfl rfl ⟨_, rfl⟩ rfl rfl rfl (by kernel_rfl) ⟨_, _, rfl⟩
theorem ru133 : RK 133 := RuleOk.weakM (ek := en133) (eb := en84) (by kernel_rfl) (by kernel_rfl) rfl rfl rfl rfl rfl ⟨_, rfl⟩ rfl rfl rfl (by kernel_rfl) ⟨_, _, rfl⟩
theorem ru134 : RK 134 := RuleOk.weakM (ek := en134) (eb := en88) (by kernel_rfl) (by kernel_rfl) rfl rfl rfl rfl rfl ⟨_, rfl⟩ rfl rfl rfl (by kernel_rfl) ⟨_, _, rfl⟩
theorem ru135 : RK 135 := RuleOk.weak (ek := en135) (eb := en18) (by kernel_rfl) (by kernel_rfl) rfl rfl rfl rfl rfl rfl rfl rfl rfl (by kernel_rfl)
theorem ru136 : RK 136 := RuleOk.weakM (ek := en136) (eb := en92) (by kernel_rfl) (by kernel_rfl) rfl rfl rfl rfl rfl ⟨_, rfl⟩ rfl rfl rfl (by kernel_rfl) ⟨_, _, rfl⟩
theorem ru137 : RK 137 := RuleOk.weakM (ek := en137) (eb := en96) (by kernel_rfl) (by kernel_rfl) rfl rfl rfl rfl rfl ⟨_, rfl⟩ rfl rfl rfl (by kernel_rfl) ⟨_, _, rfl⟩
theorem ru138 : RK 138 := RuleOk.weakM (ek := en138) (eb := en98) (by kernel_rfl) (by kernel_rfl) rfl rfl rfl rfl rfl ⟨_, rfl⟩ rfl rfl rfl (by kernel_rfl) ⟨_, _, rfl⟩
theorem ru139 : RK 139 := RuleOk.weakM (ek := en139) (eb := en99) (by kernel_rfl) (by kernel_rfl) rfl rfl rfl rfl rfl ⟨_, rfl⟩ rfl rfl rfl (by kernel_rfl) ⟨_, _, rfl⟩
theorem ru140 : RK 140 := RuleOk.weakM (ek := en140) (eb := en104) (by kernel_rfl) (by kernel_rfl) rfl rfl rfl rfl rfl ⟨_, rfl⟩ rfl rfl rfl (by kernel_rfl) ⟨_, _, rfl⟩
theorem ru141 : RK 141 := RuleOk.weakM (ek := en141) (eb := en109) (by kernel_rfl) (by kernel_rfl) rfl rfl rfl rfl rfl ⟨_, rfl⟩ rfl rfl rfl (by kernel_rfl) ⟨_, _, rfl⟩
theorem ru142 : RK 142 := RuleOk.weakM (ek := en142) (eb := en111) (by kernel_rfl) (by kernel_rfl) rfl rfl rfl rfl rfl ⟨_, rfl⟩ rfl rfl rfl (by kernel_rfl) ⟨_, _, rfl⟩
theorem ru143 : RK 143 := RuleOk.weakM (ek := en143) (eb := en114) (by kernel_rfl) (by kernel_rfl) rfl rfl rfl rfl rfl ⟨_, rfl⟩ rfl rfl rfl (by kernel_rfl) ⟨_, _, rfl⟩
theorem ru144 : RK 144 := RuleOk.weakM (ek := en144) (eb := en117) (by kernel_rfl) (by kernel_rfl) rfl rfl rfl rfl rfl ⟨_, rfl⟩ rfl rfl rfl (by kernel_rfl) ⟨_, _, rfl⟩
theorem ru145 : RK 145 := RuleOk.weakM (ek := en145) (eb := en118) (by kernel_rfl) (by kernel_rfl) rfl rfl rfl rfl rfl ⟨_, rfl⟩ rfl rfl rfl (by kernel_rfl) ⟨_, _, rfl⟩
theorem ru146 : RK 146 := RuleOk.weakM (ek := en146) (eb := en124) (by kernel_rfl) (by kernel_rfl) rfl rfl rfl rfl rfl ⟨_, rfl⟩ rfl rfl rfl (by kernel_rfl) ⟨_, _, rfl⟩
end Go.Proofs.YtfphhabaeggenaaDoor
