/- Joined texts. -/
import Derived.Test.YtnepapfndihalaaUy0
import Derived.Test.YtnepapfndihalaaUz0
import Derived.KernelRfl
import Derived.Test.YtnepapfndihalaaBl
import Derived.Test.YtnepapfndihalaaBj
set_option linter.unusedVariables false
set_option linter.unusedSimpArgs false
set_option linter.unusedSectionVars false
namespace Go.Proofs.Ytnepapfndihalaa
open Go.RowKit
set_option maxRecDepth 100000
section
variable {k f : Nat} {fn : Func}
theorem rf0 (t : FT) (h1 : PG.funcs[f]? = some fn) (h : (fn.body.isSome && tabOk t.sd t.sx (bodyOf fn) && fnB PG SS EE TT k f t) = true) : RK k := rF2 mixed h1 h
theorem rl0 {id : Nat} (t : FT) (h1 : PG.funcs[f]? = some fn) (h : (isLoop1 (subs id (bodyOf fn)) && tabOk t.sd t.sx (lb fn id) && lpC PG SS EE TT k f id fn t) = true) : RK k := rL2 mixed h1 h
end
theorem ru0 : RK 0 := rf0 t16 f16_at (by kernel_rfl)
theorem ru1 : RK 1 := rl0 (id := 0) t16 f16_at (by kernel_rfl)
theorem ru2 : RK 2 := rl0 (id := 2) t16 f16_at (by kernel_rfl)
theorem ru3 : RK 3 := rl0 (id := 2) t16 f16_at (by kernel_rfl)
theorem ru4 : RK 4 := rl0 (id := 2) t16 f16_at (by kernel_rfl)
theorem ru5 : RK 5 := rl0 (id := 2) t16 f16_at (by kernel_rfl)
theorem ru6 : RK 6 := rl0 (id := 2) t16 f16_at (by kernel_rfl)
theorem ru7 : RK 7 := rl0 (id := 2) t16 f16_at (by kernel_rfl)
theorem ru8 : RK 8 := rf0 t4 f4_at (by kernel_rfl)
theorem ru9 : RK 9 := rl0 (id := 0) t4 f4_at (by kernel_rfl)
theorem ru10 : RK 10 := rl0 (id := 2) t4 f4_at (by kernel_rfl)
theorem ru11 : RK 11 := rl0 (id := 2) t4 f4_at (by kernel_rfl)
theorem ru12 : RK 12 := rl0 (id := 2) t4 f4_at (by kernel_rfl)
theorem ru13 : RK 13 := rl0 (id := 2) t4 f4_at (by kernel_rfl)
theorem ru14 : RK 14 := rl0 (id := 2) t4 f4_at (by kernel_rfl)
theorem ru15 : RK 15 := rl0 (id := 2) t4 f4_at (by kernel_rfl)
theorem ru16 : RK 16 := rl0 (id := 4) t4 f4_at (by kernel_rfl)
theorem ru17 : RK 17 := rl0 (id := 4) t4 f4_at (by kernel_rfl)
theorem ru18 : RK 18 := rl0 (id := 4) t4 f4_at (by kernel_rfl)
theorem ru19 : RK 19 := rl0 (id := 4) t4 f4_at (by kernel_rfl)
theorem ru20 : RK 20 := rf0 t11 f11_at (by kernel_rfl)
theorem ru21 : RK 21 := rf0 t11 f11_at (by kernel_rfl)
theorem ru22 : RK 22 := rf0 t10 f10_at (by kernel_rfl)
theorem ru23 : RK 23 := rf0 t12 f12_at (by kernel_rfl)
theorem ru24 : RK 24 := rl0 (id := 0) t12 f12_at (by kernel_rfl)
theorem ru25 : RK 25 := rl0 (id := 0) t12 f12_at (by kernel_rfl)
theorem ru26 : RK 26 := rf0 t13 f13_at (by kernel_rfl)
theorem ru27 : RK 27 := rf0 t14 f14_at (by kernel_rfl)
theorem ru28 : RK 28 := rf0 t14 f14_at (by kernel_rfl)
set_option maxRecDepth 100000
section
variable {k f : Nat} {fn : Func}
theorem rf1 (t : FT) (h1 : PG.funcs[f]? = some fn) (h : (fn.body.isSome && tabOk t.sd t.sx (bodyOf fn) && fnB PG SS EE TT k f t) = true) : RK k := rF2 mixed h1 h
theorem rl1 {id : Nat} (t : FT) (h1 : PG.funcs[f]? = some fn) (h : (isLoop1 (subs id (bodyOf fn)) && tabOk t.sd t.sx (lb fn id) && lpC PG SS EE TT k f id fn t) = true) : RK k := rL2 mixed h1 h
end
theorem ru29 : RK 29 := rl1 (id := 0) t14 f14_at (by kernel_rfl)
theorem ru30 : RK 30 := rl1 (id := 0) t14 f14_at (by kernel_rfl)
theorem ru31 : RK 31 := rl1 (id := 0) t14 f14_at (by kernel_rfl)
theorem ru32 : RK 32 := rl1 (id := 0) t14 f14_at (by kernel_rfl)
theorem ru33 : RK 33 := rf1 t14 f14_at (by kernel_rfl)
theorem ru34 : RK 34 := rf1 t14 f14_at (by kernel_rfl)
theorem ru35 : RK 35 := rl1 (id := 0) t14 f14_at (by kernel_rfl)
theorem ru36 : RK 36 := rl1 (id := 0) t14 f14_at (by kernel_rfl)
theorem ru37 : RK 37 := rl1 (id := 0) t14 f14_at (by kernel_rfl)
theorem ru38 : RK 38 := rl1 (id := 0) t14 f14_at (by kernel_rfl)
theorem ru39 : RK 39 := rf1 t12 f12_at (by kernel_rfl)
theorem ru40 : RK 40 := rl1 (id := 0) t12 f12_at (by kernel_rfl)
theorem ru41 : RK 41 := rf1 t15 f15_at (by kernel_rfl)
theorem ru42 : RK 42 := rf1 t17 f17_at (by kernel_rfl)
theorem ru43 : RK 43 := rl1 (id := 0) t17 f17_at (by kernel_rfl)
theorem ru44 : RK 44 := rf1 t15 f15_at (by kernel_rfl)
theorem ru45 : RK 45 := rf1 t17 f17_at (by kernel_rfl)
theorem ru46 : RK 46 := rl1 (id := 0) t17 f17_at (by kernel_rfl)
theorem ru47 : RK 47 := rf1 t26 f26_at (by kernel_rfl)
theorem ru48 : RK 48 := rf1 t30 f30_at (by kernel_rfl)
theorem ru49 : RK 49 := rf1 t30 f30_at (by kernel_rfl)
theorem ru50 : RK 50 := rl1 (id := 0) t30 f30_at (by kernel_rfl)
theorem ru51 : RK 51 := rl1 (id := 0) t30 f30_at (by kernel_rfl)
theorem ru52 : RK 52 := rf1 t26 f26_at (by kernel_rfl)
theorem ru53 : RK 53 := rf1 t31 f31_at (by kernel_rfl)
theorem ru54 : RK 54 := rl1 (id := 0) t31 f31_at (by kernel_rfl)
theorem ru55 : RK 55 := rf1 t31 f31_at (by kernel_rfl)
theorem ru56 : RK 56 := rl1 (id := 0) t31 f31_at (by kernel_rfl)
theorem ru57 : RK 57 := rf1 t39 f39_at (by kernel_rfl)
set_option maxRecDepth 100000
section
variable {k f : Nat} {fn : Func}
theorem rf2 (t : FT) (h1 : PG.funcs[f]? = some fn) (h : (fn.body.isSome && tabOk t.sd t.sx (bodyOf fn) && fnB PG SS EE TT k f t) = true) : RK k := rF2 mixed h1 h
theorem rl2 {id : Nat} (t : FT) (h1 : PG.funcs[f]? = some fn) (h : (isLoop1 (subs id (bodyOf fn)) && tabOk t.sd t.sx (lb fn id) && lpC PG SS EE TT k f id fn t) = true) : RK k := rL2 mixed h1 h
end
theorem ru58 : RK 58 := rf2 t40 f40_at (by kernel_rfl)
theorem ru59 : RK 59 := rf2 t41 f41_at (by kernel_rfl)
theorem ru60 : RK 60 := rf2 t42 f42_at (by kernel_rfl)
theorem ru61 : RK 61 := rl2 (id := 0) t42 f42_at (by kernel_rfl)
theorem ru62 : RK 62 := rl2 (id := 0) t42 f42_at (by kernel_rfl)
theorem ru63 : RK 63 := rf2 t39 f39_at (by kernel_rfl)
theorem ru64 : RK 64 := rf2 t40 f40_at (by kernel_rfl)
theorem ru65 : RK 65 := rf2 t41 f41_at (by kernel_rfl)
theorem ru66 : RK 66 := rf2 t42 f42_at (by kernel_rfl)
theorem ru67 : RK 67 := rl2 (id := 0) t42 f42_at (by kernel_rfl)
theorem ru68 : RK 68 := rl2 (id := 0) t42 f42_at (by kernel_rfl)
theorem ru69 : RK 69 := rf2 t57 f57_at (by kernel_rfl)
theorem ru70 : RK 70 := rf2 t57 f57_at (by kernel_rfl)
theorem ru71 : RK 71 := rf2 t65 f65_at (by kernel_rfl)
theorem ru72 : RK 72 := rl2 (id := 0) t65 f65_at (by kernel_rfl)
theorem ru73 : RK 73 := rf2 t65 f65_at (by kernel_rfl)
theorem ru74 : RK 74 := rl2 (id := 0) t65 f65_at (by kernel_rfl)
theorem ru75 : RK 75 := rf2 t58 f58_at (by kernel_rfl)
theorem ru76 : RK 76 := rf2 t58 f58_at (by kernel_rfl)
theorem ru77 : RK 77 := rf2 t27 f27_at (by kernel_rfl)
theorem ru78 : RK 78 := rf2 t28 f28_at (by kernel_rfl)
theorem ru79 : RK 79 := rl2 (id := 0) t28 f28_at (by kernel_rfl)
theorem ru80 : RK 80 := rf2 t29 f29_at (by kernel_rfl)
theorem ru81 : RK 81 := rl2 (id := 0) t29 f29_at (by kernel_rfl)
theorem ru82 : RK 82 := rl2 (id := 0) t29 f29_at (by kernel_rfl)
theorem ru83 : RK 83 := rf2 t43 f43_at (by kernel_rfl)
theorem ru84 : RK 84 := rl2 (id := 0) t43 f43_at (by kernel_rfl)
theorem ru85 : RK 85 := rf2 t44 f44_at (by kernel_rfl)
theorem ru86 : RK 86 := rl2 (id := 0) t44 f44_at (by kernel_rfl)
set_option maxRecDepth 100000
section
variable {k f : Nat} {fn : Func}
theorem rf3 (t : FT) (h1 : PG.funcs[f]? = some fn) (h : (fn.body.isSome && tabOk t.sd t.sx (bodyOf fn) && fnB PG SS EE TT k f t) = true) : RK k := rF2 mixed h1 h
theorem rl3 {id : Nat} (t : FT) (h1 : PG.funcs[f]? = some fn) (h : (isLoop1 (subs id (bodyOf fn)) && tabOk t.sd t.sx (lb fn id) && lpC PG SS EE TT k f id fn t) = true) : RK k := rL2 mixed h1 h
end
theorem ru87 : RK 87 := rl3 (id := 0) t44 f44_at (by kernel_rfl)
theorem ru88 : RK 88 := rf3 t32 f32_at (by kernel_rfl)
theorem ru89 : RK 89 := rf3 t16 f16_at (by kernel_rfl)
theorem ru90 : RK 90 := rl3 (id := 0) t16 f16_at (by kernel_rfl)
theorem ru91 : RK 91 := rl3 (id := 2) t16 f16_at (by kernel_rfl)
theorem ru92 : RK 92 := rl3 (id := 2) t16 f16_at (by kernel_rfl)
theorem ru93 : RK 93 := rl3 (id := 2) t16 f16_at (by kernel_rfl)
theorem ru94 : RK 94 := rl3 (id := 2) t16 f16_at (by kernel_rfl)
theorem ru95 : RK 95 := rl3 (id := 2) t16 f16_at (by kernel_rfl)
theorem ru96 : RK 96 := rl3 (id := 2) t16 f16_at (by kernel_rfl)
theorem ru97 : RK 97 := rf3 t6 f6_at (by kernel_rfl)
theorem ru98 : RK 98 := rl3 (id := 0) t6 f6_at (by kernel_rfl)
theorem ru99 : RK 99 := rf3 t20 f20_at (by kernel_rfl)
theorem ru100 : RK 100 := rl3 (id := 0) t20 f20_at (by kernel_rfl)
theorem ru101 : RK 101 := rf3 t21 f21_at (by kernel_rfl)
theorem ru102 : RK 102 := rf3 t33 f33_at (by kernel_rfl)
theorem ru103 : RK 103 := rl3 (id := 0) t33 f33_at (by kernel_rfl)
theorem ru104 : RK 104 := rf3 t8 f8_at (by kernel_rfl)
theorem ru105 : RK 105 := rf3 t25 f25_at (by kernel_rfl)
theorem ru106 : RK 106 := rl3 (id := 0) t25 f25_at (by kernel_rfl)
theorem ru107 : RK 107 := rf3 t9 f9_at (by kernel_rfl)
theorem ru108 : RK 108 := rl3 (id := 0) t30 f30_at (by kernel_rfl)
theorem ru111 : RK 111 := RuleOk.weak (ek := en111) (eb := en80) (by kernel_rfl) (by kernel_rfl) rfl rfl rfl rfl rfl rfl rfl rfl rfl (by kernel_rfl)
theorem ru112 : RK 112 := RuleOk.weak (ek := en112) (eb := en85) (by kernel_rfl) (by kernel_rfl) rfl rfl rfl rfl rfl rfl rfl rfl rfl (by kernel_rfl)
set_option maxRecDepth 100000
theorem ru109 : RK 109 := ext_awk (m := 81) awake_sem (by kernel_rfl) (by kernel_rfl) (by kernel_rfl)
theorem ru110 : RK 110 := ext_cpy (m := 82) (by kernel_rfl) (by kernel_rfl) (by kernel_rfl)
set_option maxRecDepth 100000
theorem tabs : TabsOk PG SS EE := TabsOk.of (by kernel_rfl) (by kernel_rfl) (by kernel_rfl)
theorem ru_0 : AllK (RuleOk PG SS EE TT) 0 := trivial
theorem ru_20 : AllK (RuleOk PG SS EE TT) 20 := ⟨⟨⟨⟨⟨⟨⟨⟨⟨⟨⟨⟨⟨⟨⟨⟨⟨⟨⟨⟨ru_0, ru0⟩, ru1⟩, ru2⟩, ru3⟩, ru4⟩, ru5⟩, ru6⟩, ru7⟩, ru8⟩, ru9⟩, ru10⟩, ru11⟩, ru12⟩, ru13⟩, ru14⟩, ru15⟩, ru16⟩, ru17⟩, ru18⟩, ru19⟩
theorem ru_40 : AllK (RuleOk PG SS EE TT) 40 := ⟨⟨⟨⟨⟨⟨⟨⟨⟨⟨⟨⟨⟨⟨⟨⟨⟨⟨⟨⟨ru_20, ru20⟩, ru21⟩, ru22⟩, ru23⟩, ru24⟩, ru25⟩, ru26⟩, ru27⟩, ru28⟩, ru29⟩, ru30⟩, ru31⟩, ru32⟩, ru33⟩, ru34⟩, ru35⟩, ru36⟩, ru37⟩, ru38⟩, ru39⟩
theorem ru_60 : AllK (RuleOk PG SS EE TT) 60 := ⟨⟨⟨⟨⟨⟨⟨⟨⟨⟨⟨⟨⟨⟨⟨⟨⟨⟨⟨⟨ru_40, ru40⟩, ru41⟩, ru42⟩, ru43⟩, ru44⟩, ru45⟩, ru46⟩, ru47⟩, ru48⟩, ru49⟩, ru50⟩, ru51⟩, ru52⟩, ru53⟩, ru54⟩, ru55⟩, ru56⟩, ru57⟩, ru58⟩, ru59⟩
theorem ru_80 : AllK (RuleOk PG SS EE TT) 80 := ⟨⟨⟨⟨⟨⟨⟨⟨⟨⟨⟨⟨⟨⟨⟨⟨⟨⟨⟨⟨ru_60, ru60⟩, ru61⟩, ru62⟩, ru63⟩, ru64⟩, ru65⟩, ru66⟩, ru67⟩, ru68⟩, ru69⟩, ru70⟩, ru71⟩, ru72⟩, ru73⟩, ru74⟩, ru75⟩, ru76⟩, ru77⟩, ru78⟩, ru79⟩
theorem ru_100 : AllK (RuleOk PG SS EE TT) 100 := ⟨⟨⟨⟨⟨⟨⟨⟨⟨⟨⟨⟨⟨⟨⟨⟨⟨⟨⟨⟨ru_80, ru80⟩, ru81⟩, ru82⟩, ru83⟩, ru84⟩, ru85⟩, ru86⟩, ru87⟩, ru88⟩, ru89⟩, ru90⟩, ru91⟩, ru92⟩, ru93⟩, ru94⟩, ru95⟩, ru96⟩, ru97⟩, ru98⟩, ru99⟩
theorem ru_113 : AllK (RuleOk PG SS EE TT) 113 := ⟨⟨⟨⟨⟨⟨⟨⟨⟨⟨⟨⟨⟨ru_100, ru100⟩, ru101⟩, ru102⟩, ru103⟩, ru104⟩, ru105⟩, ru106⟩, ru107⟩, ru108⟩, ru109⟩, ru110⟩, ru111⟩, ru112⟩
theorem noMore : ∀ k, 113 ≤ k → (EE k).base = none ∧ TT k = etNo := fun k hk => ⟨by unfold EE; rw [nth_out dEn enL k (Nat.le_trans (by decide) hk)]; rfl, by unfold TT; rw [nth_out etNo etL k (Nat.le_trans (by decide) hk)]⟩
theorem ev_sound {q : Q} {r : Rs} (h : ev q = some r) (hp : Pre EE q) : SemQ PG SS EE q r ∧ Pst SS (EE q.k).fam r := Evl.sound tabs ru_113.get noMore h hp
end Go.Proofs.Ytnepapfndihalaa
