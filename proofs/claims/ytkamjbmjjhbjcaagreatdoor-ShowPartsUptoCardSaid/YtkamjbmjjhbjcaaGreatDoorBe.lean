/- Joined texts. -/
import Derived.Test.YtkamjbmjjhbjcaaGreatDoorSy0
import Derived.Test.YtkamjbmjjhbjcaaGreatDoorSz0
import Derived.KernelRfl
import Derived.Test.YtkamjbmjjhbjcaaGreatDoorBl
namespace Go.Proofs.YtkamjbmjjhbjcaaGreatDoor
open Go.RowKit
set_option linter.unusedVariables false
set_option maxRecDepth 100000
section
variable {k f : Nat} {fn : Func}
theorem rf0 (t : FT) (h1 : PG.funcs[f]? = some fn) (h : (fn.body.isSome && tabOk t.sd t.sx (bodyOf fn) && fnB PG SS EE TT k f t) = true) : RK k := rF2 mixed h1 h
theorem rl0 {id : Nat} (t : FT) (h1 : PG.funcs[f]? = some fn) (h : (isLoop1 (subs id (bodyOf fn)) && tabOk t.sd t.sx (lb fn id) && lpC PG SS EE TT k f id fn t) = true) : RK k := rL2 mixed h1 h
end
theorem ru0 : RK 0 := rf0 t12 f12_at (by kernel_rfl)
theorem ru1 : RK 1 := rl0 (id := 0) t12 f12_at (by kernel_rfl)
theorem ru2 : RK 2 := rf0 t13 f13_at (by kernel_rfl)
theorem ru3 : RK 3 := rl0 (id := 0) t13 f13_at (by kernel_rfl)
theorem ru4 : RK 4 := rf0 t14 f14_at (by kernel_rfl)
theorem ru5 : RK 5 := rl0 (id := 0) t14 f14_at (by kernel_rfl)
theorem ru6 : RK 6 := rf0 t15 f15_at (by kernel_rfl)
theorem ru7 : RK 7 := rl0 (id := 0) t15 f15_at (by kernel_rfl)
theorem ru8 : RK 8 := rf0 t16 f16_at (by kernel_rfl)
end Go.Proofs.YtkamjbmjjhbjcaaGreatDoor
namespace Go.Proofs.YtkamjbmjjhbjcaaGreatDoor
open Go.RowKit
set_option linter.unusedVariables false
set_option maxRecDepth 100000
section
variable {k f : Nat} {fn : Func}
theorem rf1 (t : FT) (h1 : PG.funcs[f]? = some fn) (h : (fn.body.isSome && tabOk t.sd t.sx (bodyOf fn) && fnB PG SS EE TT k f t) = true) : RK k := rF2 mixed h1 h
theorem rl1 {id : Nat} (t : FT) (h1 : PG.funcs[f]? = some fn) (h : (isLoop1 (subs id (bodyOf fn)) && tabOk t.sd t.sx (lb fn id) && lpC PG SS EE TT k f id fn t) = true) : RK k := rL2 mixed h1 h
end
theorem ru9 : RK 9 := rl1 (id := 1) t16 f16_at (by kernel_rfl)
theorem ru10 : RK 10 := rf1 t17 f17_at (by kernel_rfl)
theorem ru11 : RK 11 := rf1 t29 f29_at (by kernel_rfl)
theorem ru12 : RK 12 := rf1 t32 f32_at (by kernel_rfl)
theorem ru13 : RK 13 := rf1 t42 f42_at (by kernel_rfl)
theorem ru14 : RK 14 := rf1 t44 f44_at (by kernel_rfl)
theorem ru15 : RK 15 := rl1 (id := 0) t44 f44_at (by kernel_rfl)
theorem ru16 : RK 16 := rf1 t88 f88_at (by kernel_rfl)
theorem ru17 : RK 17 := rf1 t41 f41_at (by kernel_rfl)
end Go.Proofs.YtkamjbmjjhbjcaaGreatDoor
namespace Go.Proofs.YtkamjbmjjhbjcaaGreatDoor
open Go.RowKit
set_option linter.unusedVariables false
set_option maxRecDepth 100000
section
variable {k f : Nat} {fn : Func}
theorem rf2 (t : FT) (h1 : PG.funcs[f]? = some fn) (h : (fn.body.isSome && tabOk t.sd t.sx (bodyOf fn) && fnB PG SS EE TT k f t) = true) : RK k := rF2 mixed h1 h
theorem rl2 {id : Nat} (t : FT) (h1 : PG.funcs[f]? = some fn) (h : (isLoop1 (subs id (bodyOf fn)) && tabOk t.sd t.sx (lb fn id) && lpC PG SS EE TT k f id fn t) = true) : RK k := rL2 mixed h1 h
end
theorem ru18 : RK 18 := rf2 t84 f84_at (by kernel_rfl)
theorem ru19 : RK 19 := rf2 t85 f85_at (by kernel_rfl)
theorem ru20 : RK 20 := rl2 (id := 0) t85 f85_at (by kernel_rfl)
theorem ru21 : RK 21 := rf2 t86 f86_at (by kernel_rfl)
theorem ru22 : RK 22 := rf2 t127 f127_at (by kernel_rfl)
theorem ru23 : RK 23 := rf2 t128 f128_at (by kernel_rfl)
theorem ru24 : RK 24 := rf2 t74 f74_at (by kernel_rfl)
theorem ru25 : RK 25 := rl2 (id := 0) t74 f74_at (by kernel_rfl)
theorem ru26 : RK 26 := rf2 t75 f75_at (by kernel_rfl)
end Go.Proofs.YtkamjbmjjhbjcaaGreatDoor
namespace Go.Proofs.YtkamjbmjjhbjcaaGreatDoor
open Go.RowKit
set_option linter.unusedVariables false
set_option maxRecDepth 100000
section
variable {k f : Nat} {fn : Func}
theorem rf3 (t : FT) (h1 : PG.funcs[f]? = some fn) (h : (fn.body.isSome && tabOk t.sd t.sx (bodyOf fn) && fnB PG SS EE TT k f t) = true) : RK k := rF2 mixed h1 h
theorem rl3 {id : Nat} (t : FT) (h1 : PG.funcs[f]? = some fn) (h : (isLoop1 (subs id (bodyOf fn)) && tabOk t.sd t.sx (lb fn id) && lpC PG SS EE TT k f id fn t) = true) : RK k := rL2 mixed h1 h
end
theorem ru27 : RK 27 := rl3 (id := 0) t75 f75_at (by kernel_rfl)
end Go.Proofs.YtkamjbmjjhbjcaaGreatDoor
namespace Go.Proofs.YtkamjbmjjhbjcaaGreatDoor
open Go.RowKit
set_option maxRecDepth 100000
theorem ru28 : RK 28 := ext1_ok (f := 72) (m := 28) (g := xUp) (by kernel_rfl) (by kernel_rfl) (by kernel_rfl) x72_ok
theorem ru29 : RK 29 := ext1_ok (f := 73) (m := 29) (g := xLow) (by kernel_rfl) (by kernel_rfl) (by kernel_rfl) x73_ok
theorem ru30 : RK 30 := ext1_ok (f := 39) (m := 30) (g := xUp) (by kernel_rfl) (by kernel_rfl) (by kernel_rfl) x39_ok
theorem ru31 : RK 31 := ext1_ok (f := 40) (m := 31) (g := xLow) (by kernel_rfl) (by kernel_rfl) (by kernel_rfl) x40_ok
theorem ru32 : RK 32 := ext1_ok (f := 43) (m := 32) (g := xTxt) (by kernel_rfl) (by kernel_rfl) (by kernel_rfl) x43_ok
end Go.Proofs.YtkamjbmjjhbjcaaGreatDoor
namespace Go.Proofs.YtkamjbmjjhbjcaaGreatDoor
open Go.RowKit
set_option linter.unusedVariables false
set_option maxRecDepth 100000
theorem tabs : TabsOk PG SS EE := TabsOk.of (by kernel_rfl) (by kernel_rfl) (by kernel_rfl)
theorem ru_0 : AllK (RuleOk PG SS EE TT) 0 := trivial
theorem ru_20 : AllK (RuleOk PG SS EE TT) 20 := ⟨⟨⟨⟨⟨⟨⟨⟨⟨⟨⟨⟨⟨⟨⟨⟨⟨⟨⟨⟨ru_0, ru0⟩, ru1⟩, ru2⟩, ru3⟩, ru4⟩, ru5⟩, ru6⟩, ru7⟩, ru8⟩, ru9⟩, ru10⟩, ru11⟩, ru12⟩, ru13⟩, ru14⟩, ru15⟩, ru16⟩, ru17⟩, ru18⟩, ru19⟩
theorem ru_33 : AllK (RuleOk PG SS EE TT) 33 := ⟨⟨⟨⟨⟨⟨⟨⟨⟨⟨⟨⟨⟨ru_20, ru20⟩, ru21⟩, ru22⟩, ru23⟩, ru24⟩, ru25⟩, ru26⟩, ru27⟩, ru28⟩, ru29⟩, ru30⟩, ru31⟩, ru32⟩
theorem noMore : ∀ k, 33 ≤ k → (EE k).base = none ∧ TT k = etNo := fun k hk => ⟨by unfold EE; rw [nth_out dEn enL k (Nat.le_trans (by decide) hk)]; rfl, by unfold TT; rw [nth_out etNo etL k (Nat.le_trans (by decide) hk)]⟩
theorem ev_sound {q : Q} {r : Rs} (h : ev q = some r) (hp : Pre EE q) : SemQ PG SS EE q r ∧ Pst SS (EE q.k).fam r := Evl.sound tabs ru_33.get noMore h hp
end Go.Proofs.YtkamjbmjjhbjcaaGreatDoor
