/- Joined texts. -/
import Derived.Test.YtlfkefbhdmfllaaGreatDoorJz0
import Derived.Test.YtlfkefbhdmfllaaGreatDoorEz0
import Derived.KernelRfl
namespace Go.Proofs.YtlfkefbhdmfllaaGreatDoor
open Go.RowKit
set_option linter.unusedVariables false
set_option maxRecDepth 100000
section
variable {k f : Nat} {fn : Func}
theorem rf0 (t : FT) (h1 : PG.funcs[f]? = some fn) (h : (fn.body.isSome && tabOk t.sd t.sx (bodyOf fn) && fnB PG SS EE TT k f t) = true) : RK k := rF2 mixed h1 h
theorem rl0 {id : Nat} (t : FT) (h1 : PG.funcs[f]? = some fn) (h : (isLoop1 (subs id (bodyOf fn)) && tabOk t.sd t.sx (lb fn id) && lpC PG SS EE TT k f id fn t) = true) : RK k := rL2 mixed h1 h
end
theorem ru0 : RK 0 := rf0 t5 f5_at (by kernel_rfl)
theorem ru1 : RK 1 := rf0 t16 f16_at (by kernel_rfl)
theorem ru2 : RK 2 := rl0 (id := 0) t16 f16_at (by kernel_rfl)
theorem ru3 : RK 3 := rl0 (id := 2) t16 f16_at (by kernel_rfl)
theorem ru4 : RK 4 := rl0 (id := 4) t16 f16_at (by kernel_rfl)
theorem ru5 : RK 5 := rf0 t27 f27_at (by kernel_rfl)
theorem ru6 : RK 6 := rl0 (id := 0) t27 f27_at (by kernel_rfl)
theorem ru7 : RK 7 := rf0 t28 f28_at (by kernel_rfl)
theorem ru8 : RK 8 := rl0 (id := 0) t28 f28_at (by kernel_rfl)
theorem ru9 : RK 9 := rf0 t67 f67_at (by kernel_rfl)
theorem ru10 : RK 10 := rf0 t123 f123_at (by kernel_rfl)
theorem ru11 : RK 11 := rl0 (id := 0) t123 f123_at (by kernel_rfl)
theorem ru12 : RK 12 := rf0 t6 f6_at (by kernel_rfl)
theorem ru13 : RK 13 := rl0 (id := 0) t6 f6_at (by kernel_rfl)
theorem ru14 : RK 14 := rl0 (id := 0) t6 f6_at (by kernel_rfl)
theorem ru15 : RK 15 := rl0 (id := 0) t6 f6_at (by kernel_rfl)
theorem ru16 : RK 16 := rl0 (id := 0) t6 f6_at (by kernel_rfl)
theorem ru17 : RK 17 := rl0 (id := 2) t6 f6_at (by kernel_rfl)
theorem ru18 : RK 18 := rl0 (id := 2) t6 f6_at (by kernel_rfl)
theorem ru19 : RK 19 := rl0 (id := 2) t6 f6_at (by kernel_rfl)
theorem ru20 : RK 20 := rl0 (id := 2) t6 f6_at (by kernel_rfl)
theorem ru21 : RK 21 := rl0 (id := 2) t6 f6_at (by kernel_rfl)
theorem ru22 : RK 22 := rl0 (id := 2) t6 f6_at (by kernel_rfl)
end Go.Proofs.YtlfkefbhdmfllaaGreatDoor
namespace Go.Proofs.YtlfkefbhdmfllaaGreatDoor
open Go.RowKit
set_option linter.unusedVariables false
set_option maxRecDepth 100000
section
variable {k f : Nat} {fn : Func}
theorem rf1 (t : FT) (h1 : PG.funcs[f]? = some fn) (h : (fn.body.isSome && tabOk t.sd t.sx (bodyOf fn) && fnB PG SS EE TT k f t) = true) : RK k := rF2 mixed h1 h
theorem rl1 {id : Nat} (t : FT) (h1 : PG.funcs[f]? = some fn) (h : (isLoop1 (subs id (bodyOf fn)) && tabOk t.sd t.sx (lb fn id) && lpC PG SS EE TT k f id fn t) = true) : RK k := rL2 mixed h1 h
end
theorem ru23 : RK 23 := rl1 (id := 2) t6 f6_at (by kernel_rfl)
theorem ru24 : RK 24 := rl1 (id := 2) t6 f6_at (by kernel_rfl)
theorem ru25 : RK 25 := rl1 (id := 2) t6 f6_at (by kernel_rfl)
theorem ru26 : RK 26 := rl1 (id := 2) t6 f6_at (by kernel_rfl)
theorem ru27 : RK 27 := rl1 (id := 2) t6 f6_at (by kernel_rfl)
theorem ru28 : RK 28 := rl1 (id := 2) t6 f6_at (by kernel_rfl)
theorem ru29 : RK 29 := rl1 (id := 2) t6 f6_at (by kernel_rfl)
theorem ru30 : RK 30 := rl1 (id := 2) t6 f6_at (by kernel_rfl)
theorem ru31 : RK 31 := rl1 (id := 2) t6 f6_at (by kernel_rfl)
theorem ru32 : RK 32 := rl1 (id := 2) t6 f6_at (by kernel_rfl)
theorem ru33 : RK 33 := rl1 (id := 2) t6 f6_at (by kernel_rfl)
theorem ru34 : RK 34 := rl1 (id := 2) t6 f6_at (by kernel_rfl)
theorem ru35 : RK 35 := rl1 (id := 2) t6 f6_at (by kernel_rfl)
theorem ru36 : RK 36 := rl1 (id := 2) t6 f6_at (by kernel_rfl)
theorem ru37 : RK 37 := rl1 (id := 2) t6 f6_at (by kernel_rfl)
theorem ru38 : RK 38 := rl1 (id := 2) t6 f6_at (by kernel_rfl)
theorem ru39 : RK 39 := rl1 (id := 2) t6 f6_at (by kernel_rfl)
theorem ru40 : RK 40 := rl1 (id := 2) t6 f6_at (by kernel_rfl)
theorem ru41 : RK 41 := rf1 t10 f10_at (by kernel_rfl)
theorem ru42 : RK 42 := rl1 (id := 0) t10 f10_at (by kernel_rfl)
theorem ru43 : RK 43 := rl1 (id := 0) t10 f10_at (by kernel_rfl)
theorem ru44 : RK 44 := rf1 t7 f7_at (by kernel_rfl)
theorem ru45 : RK 45 := rl1 (id := 0) t7 f7_at (by kernel_rfl)
end Go.Proofs.YtlfkefbhdmfllaaGreatDoor
namespace Go.Proofs.YtlfkefbhdmfllaaGreatDoor
open Go.RowKit
set_option linter.unusedVariables false
set_option maxRecDepth 100000
section
variable {k f : Nat} {fn : Func}
theorem rf2 (t : FT) (h1 : PG.funcs[f]? = some fn) (h : (fn.body.isSome && tabOk t.sd t.sx (bodyOf fn) && fnB PG SS EE TT k f t) = true) : RK k := rF2 mixed h1 h
theorem rl2 {id : Nat} (t : FT) (h1 : PG.funcs[f]? = some fn) (h : (isLoop1 (subs id (bodyOf fn)) && tabOk t.sd t.sx (lb fn id) && lpC PG SS EE TT k f id fn t) = true) : RK k := rL2 mixed h1 h
end
theorem ru46 : RK 46 := rl2 (id := 0) t7 f7_at (by kernel_rfl)
theorem ru47 : RK 47 := rl2 (id := 0) t7 f7_at (by kernel_rfl)
theorem ru48 : RK 48 := rl2 (id := 0) t7 f7_at (by kernel_rfl)
theorem ru49 : RK 49 := rl2 (id := 2) t7 f7_at (by kernel_rfl)
theorem ru50 : RK 50 := rl2 (id := 2) t7 f7_at (by kernel_rfl)
theorem ru51 : RK 51 := rl2 (id := 2) t7 f7_at (by kernel_rfl)
theorem ru52 : RK 52 := rl2 (id := 2) t7 f7_at (by kernel_rfl)
theorem ru53 : RK 53 := rl2 (id := 2) t7 f7_at (by kernel_rfl)
theorem ru54 : RK 54 := rl2 (id := 2) t7 f7_at (by kernel_rfl)
theorem ru55 : RK 55 := rl2 (id := 2) t7 f7_at (by kernel_rfl)
theorem ru56 : RK 56 := rl2 (id := 2) t7 f7_at (by kernel_rfl)
theorem ru57 : RK 57 := rl2 (id := 2) t7 f7_at (by kernel_rfl)
theorem ru58 : RK 58 := rl2 (id := 2) t7 f7_at (by kernel_rfl)
theorem ru59 : RK 59 := rl2 (id := 2) t7 f7_at (by kernel_rfl)
theorem ru60 : RK 60 := rl2 (id := 2) t7 f7_at (by kernel_rfl)
theorem ru61 : RK 61 := rl2 (id := 2) t7 f7_at (by kernel_rfl)
theorem ru62 : RK 62 := rl2 (id := 2) t7 f7_at (by kernel_rfl)
theorem ru63 : RK 63 := rl2 (id := 2) t7 f7_at (by kernel_rfl)
theorem ru64 : RK 64 := rl2 (id := 2) t7 f7_at (by kernel_rfl)
theorem ru65 : RK 65 := rl2 (id := 2) t7 f7_at (by kernel_rfl)
theorem ru66 : RK 66 := rl2 (id := 2) t7 f7_at (by kernel_rfl)
theorem ru67 : RK 67 := rl2 (id := 2) t7 f7_at (by kernel_rfl)
theorem ru68 : RK 68 := rl2 (id := 2) t7 f7_at (by kernel_rfl)
end Go.Proofs.YtlfkefbhdmfllaaGreatDoor
namespace Go.Proofs.YtlfkefbhdmfllaaGreatDoor
open Go.RowKit
set_option linter.unusedVariables false
set_option maxRecDepth 100000
section
variable {k f : Nat} {fn : Func}
theorem rf3 (t : FT) (h1 : PG.funcs[f]? = some fn) (h : (fn.body.isSome && tabOk t.sd t.sx (bodyOf fn) && fnB PG SS EE TT k f t) = true) : RK k := rF2 mixed h1 h
theorem rl3 {id : Nat} (t : FT) (h1 : PG.funcs[f]? = some fn) (h : (isLoop1 (subs id (bodyOf fn)) && tabOk t.sd t.sx (lb fn id) && lpC PG SS EE TT k f id fn t) = true) : RK k := rL2 mixed h1 h
end
theorem ru69 : RK 69 := rl3 (id := 2) t7 f7_at (by kernel_rfl)
theorem ru70 : RK 70 := rl3 (id := 2) t7 f7_at (by kernel_rfl)
theorem ru71 : RK 71 := rl3 (id := 2) t7 f7_at (by kernel_rfl)
theorem ru72 : RK 72 := rl3 (id := 2) t7 f7_at (by kernel_rfl)
theorem ru73 : RK 73 := rf3 t11 f11_at (by kernel_rfl)
theorem ru74 : RK 74 := rl3 (id := 0) t11 f11_at (by kernel_rfl)
theorem ru75 : RK 75 := rl3 (id := 0) t11 f11_at (by kernel_rfl)
theorem ru76 : RK 76 := rf3 t8 f8_at (by kernel_rfl)
theorem ru77 : RK 77 := rl3 (id := 0) t8 f8_at (by kernel_rfl)
theorem ru78 : RK 78 := rl3 (id := 2) t8 f8_at (by kernel_rfl)
theorem ru79 : RK 79 := rf3 t9 f9_at (by kernel_rfl)
theorem ru80 : RK 80 := rl3 (id := 0) t9 f9_at (by kernel_rfl)
theorem ru81 : RK 81 := rf3 t17 f17_at (by kernel_rfl)
theorem ru82 : RK 82 := rf3 t18 f18_at (by kernel_rfl)
theorem ru83 : RK 83 := rl3 (id := 0) t18 f18_at (by kernel_rfl)
theorem ru84 : RK 84 := rf3 t29 f29_at (by kernel_rfl)
theorem ru85 : RK 85 := rl3 (id := 0) t29 f29_at (by kernel_rfl)
theorem ru86 : RK 86 := RuleOk.weak (ek := en86) (eb := en41) (by kernel_rfl) (by kernel_rfl) rfl rfl rfl rfl rfl rfl rfl rfl rfl (by kernel_rfl)
theorem ru87 : RK 87 := RuleOk.weak (ek := en87) (eb := en12) (by kernel_rfl) (by kernel_rfl) rfl rfl rfl rfl rfl rfl rfl rfl rfl (by kernel_rfl)
theorem ru88 : RK 88 := RuleOk.weak (ek := en88) (eb := en73) (by kernel_rfl) (by kernel_rfl) rfl rfl rfl rfl rfl rfl rfl rfl rfl (by kernel_rfl)
theorem ru89 : RK 89 := RuleOk.weak (ek := en89) (eb := en44) (by kernel_rfl) (by kernel_rfl) rfl rfl rfl rfl rfl rfl rfl rfl rfl (by kernel_rfl)
end Go.Proofs.YtlfkefbhdmfllaaGreatDoor
namespace Go.Proofs.YtlfkefbhdmfllaaGreatDoor
open Go.RowKit
set_option linter.unusedVariables false
set_option maxRecDepth 100000
theorem tabs : TabsOk PG SS EE := TabsOk.of (by kernel_rfl) (by kernel_rfl) (by kernel_rfl)
theorem ru_0 : AllK (RuleOk PG SS EE TT) 0 := trivial
theorem ru_20 : AllK (RuleOk PG SS EE TT) 20 := ⟨⟨⟨⟨⟨⟨⟨⟨⟨⟨⟨⟨⟨⟨⟨⟨⟨⟨⟨⟨ru_0, ru0⟩, ru1⟩, ru2⟩, ru3⟩, ru4⟩, ru5⟩, ru6⟩, ru7⟩, ru8⟩, ru9⟩, ru10⟩, ru11⟩, ru12⟩, ru13⟩, ru14⟩, ru15⟩, ru16⟩, ru17⟩, ru18⟩, ru19⟩
theorem ru_40 : AllK (RuleOk PG SS EE TT) 40 := ⟨⟨⟨⟨⟨⟨⟨⟨⟨⟨⟨⟨⟨⟨⟨⟨⟨⟨⟨⟨ru_20, ru20⟩, ru21⟩, ru22⟩, ru23⟩, ru24⟩, ru25⟩, ru26⟩, ru27⟩, ru28⟩, ru29⟩, ru30⟩, ru31⟩, ru32⟩, ru33⟩, ru34⟩, ru35⟩, ru36⟩, ru37⟩, ru38⟩, ru39⟩
theorem ru_60 : AllK (RuleOk PG SS EE TT) 60 := ⟨⟨⟨⟨⟨⟨⟨⟨⟨⟨⟨⟨⟨⟨⟨⟨⟨⟨⟨⟨ru_40, ru40⟩, ru41⟩, ru42⟩, ru43⟩, ru44⟩, ru45⟩, ru46⟩, ru47⟩, ru48⟩, ru49⟩, ru50⟩, ru51⟩, ru52⟩, ru53⟩, ru54⟩, ru55⟩, ru56⟩, ru57⟩, ru58⟩, ru59⟩
theorem ru_80 : AllK (RuleOk PG SS EE TT) 80 := ⟨⟨⟨⟨⟨⟨⟨⟨⟨⟨⟨⟨⟨⟨⟨⟨⟨⟨⟨⟨ru_60, ru60⟩, ru61⟩, ru62⟩, ru63⟩, ru64⟩, ru65⟩, ru66⟩, ru67⟩, ru68⟩, ru69⟩, ru70⟩, ru71⟩, ru72⟩, ru73⟩, ru74⟩, ru75⟩, ru76⟩, ru77⟩, ru78⟩, ru79⟩
theorem ru_90 : AllK (RuleOk PG SS EE TT) 90 := ⟨⟨⟨⟨⟨⟨⟨⟨⟨⟨ru_80, ru80⟩, ru81⟩, ru82⟩, ru83⟩, ru84⟩, ru85⟩, ru86⟩, ru87⟩, ru88⟩, ru89⟩
theorem noMore : ∀ k, 90 ≤ k → (EE k).base = none ∧ TT k = etNo := fun k hk => ⟨by unfold EE; rw [nth_out dEn enL k (Nat.le_trans (by decide) hk)]; rfl, by unfold TT; rw [nth_out etNo etL k (Nat.le_trans (by decide) hk)]⟩
theorem ev_sound {q : Q} {r : Rs} (h : ev q = some r) (hp : Pre EE q) : SemQ PG SS EE q r ∧ Pst SS (EE q.k).fam r := Evl.sound tabs ru_90.get noMore h hp
end Go.Proofs.YtlfkefbhdmfllaaGreatDoor
