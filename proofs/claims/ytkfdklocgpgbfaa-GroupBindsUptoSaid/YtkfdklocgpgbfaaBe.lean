/- Joined texts. -/
import Derived.Test.YtkfdklocgpgbfaaGy0
import Derived.Test.YtkfdklocgpgbfaaGz0
import Derived.KernelRfl
import Derived.Test.YtkfdklocgpgbfaaBl
import Derived.Test.YtkfdklocgpgbfaaBp
import Derived.Test.YtkfdklocgpgbfaaBg
import Derived.Test.YtkfdklocgpgbfaaBj
import Derived.Test.YtkfdklocgpgbfaaGsf
import Derived.Test.YtkfdklocgpgbfaaBt
import Derived.Test.YtkfdklocgpgbfaaRows
import Derived.ChangeArms
set_option linter.unusedVariables false
set_option linter.unusedSimpArgs false
set_option linter.unusedSectionVars false
namespace Go.Proofs.Ytkfdklocgpgbfaa
open Go.RowKit
set_option maxRecDepth 100000
section
variable {k f : Nat} {fn : Func}
theorem rf0 (t : FT) (h1 : PG.funcs[f]? = some fn) (h : (fn.body.isSome && tabOk t.sd t.sx (bodyOf fn) && fnB PG SS EE TT k f t) = true) : RK k := rF2 mixed h1 h
theorem rl0 {id : Nat} (t : FT) (h1 : PG.funcs[f]? = some fn) (h : (isLoop1 (subs id (bodyOf fn)) && tabOk t.sd t.sx (lb fn id) && lpC PG SS EE TT k f id fn t) = true) : RK k := rL2 mixed h1 h
end
theorem ru0 : RK 0 := rf0 t9 f9_at (by kernel_rfl)
theorem ru1 : RK 1 := rl0 (id := 0) t9 f9_at (by kernel_rfl)
theorem ru2 : RK 2 := rl0 (id := 2) t9 f9_at (by kernel_rfl)
theorem ru3 : RK 3 := rl0 (id := 4) t9 f9_at (by kernel_rfl)
theorem ru4 : RK 4 := rf0 t17 f17_at (by kernel_rfl)
theorem ru5 : RK 5 := rl0 (id := 0) t17 f17_at (by kernel_rfl)
theorem ru6 : RK 6 := rl0 (id := 0) t17 f17_at (by kernel_rfl)
theorem ru7 : RK 7 := rl0 (id := 0) t17 f17_at (by kernel_rfl)
theorem ru8 : RK 8 := rl0 (id := 0) t17 f17_at (by kernel_rfl)
theorem ru9 : RK 9 := rf0 t18 f18_at (by kernel_rfl)
theorem ru10 : RK 10 := rl0 (id := 0) t18 f18_at (by kernel_rfl)
theorem ru11 : RK 11 := rf0 t18 f18_at (by kernel_rfl)
theorem ru12 : RK 12 := rl0 (id := 0) t18 f18_at (by kernel_rfl)
theorem ru13 : RK 13 := rl0 (id := 0) t18 f18_at (by kernel_rfl)
theorem ru14 : RK 14 := rl0 (id := 2) t18 f18_at (by kernel_rfl)
theorem ru15 : RK 15 := rl0 (id := 2) t18 f18_at (by kernel_rfl)
theorem ru16 : RK 16 := rf0 t18 f18_at (by kernel_rfl)
theorem ru17 : RK 17 := rl0 (id := 0) t18 f18_at (by kernel_rfl)
theorem ru18 : RK 18 := rf0 t18 f18_at (by kernel_rfl)
theorem ru19 : RK 19 := rl0 (id := 0) t18 f18_at (by kernel_rfl)
theorem ru20 : RK 20 := rl0 (id := 0) t18 f18_at (by kernel_rfl)
theorem ru21 : RK 21 := rl0 (id := 2) t18 f18_at (by kernel_rfl)
theorem ru22 : RK 22 := rl0 (id := 2) t18 f18_at (by kernel_rfl)
theorem ru23 : RK 23 := rf0 t25 f25_at (by kernel_rfl)
theorem ru24 : RK 24 := rl0 (id := 0) t25 f25_at (by kernel_rfl)
theorem ru25 : RK 25 := rl0 (id := 0) t25 f25_at (by kernel_rfl)
theorem ru26 : RK 26 := rl0 (id := 0) t25 f25_at (by kernel_rfl)
theorem ru27 : RK 27 := rl0 (id := 0) t25 f25_at (by kernel_rfl)
theorem ru28 : RK 28 := rl0 (id := 3) t25 f25_at (by kernel_rfl)
theorem ru29 : RK 29 := rl0 (id := 3) t25 f25_at (by kernel_rfl)
theorem ru30 : RK 30 := rf0 t25 f25_at (by kernel_rfl)
theorem ru31 : RK 31 := rl0 (id := 0) t25 f25_at (by kernel_rfl)
theorem ru32 : RK 32 := rl0 (id := 0) t25 f25_at (by kernel_rfl)
theorem ru33 : RK 33 := rl0 (id := 0) t25 f25_at (by kernel_rfl)
theorem ru34 : RK 34 := rl0 (id := 0) t25 f25_at (by kernel_rfl)
set_option maxRecDepth 100000
section
variable {k f : Nat} {fn : Func}
theorem rf1 (t : FT) (h1 : PG.funcs[f]? = some fn) (h : (fn.body.isSome && tabOk t.sd t.sx (bodyOf fn) && fnB PG SS EE TT k f t) = true) : RK k := rF2 mixed h1 h
theorem rl1 {id : Nat} (t : FT) (h1 : PG.funcs[f]? = some fn) (h : (isLoop1 (subs id (bodyOf fn)) && tabOk t.sd t.sx (lb fn id) && lpC PG SS EE TT k f id fn t) = true) : RK k := rL2 mixed h1 h
end
theorem ru35 : RK 35 := rl1 (id := 3) t25 f25_at (by kernel_rfl)
theorem ru36 : RK 36 := rf1 t25 f25_at (by kernel_rfl)
theorem ru37 : RK 37 := rl1 (id := 0) t25 f25_at (by kernel_rfl)
theorem ru38 : RK 38 := rl1 (id := 0) t25 f25_at (by kernel_rfl)
theorem ru39 : RK 39 := rl1 (id := 0) t25 f25_at (by kernel_rfl)
theorem ru40 : RK 40 := rl1 (id := 0) t25 f25_at (by kernel_rfl)
theorem ru41 : RK 41 := rl1 (id := 3) t25 f25_at (by kernel_rfl)
theorem ru42 : RK 42 := rl1 (id := 3) t25 f25_at (by kernel_rfl)
theorem ru43 : RK 43 := rf1 t25 f25_at (by kernel_rfl)
theorem ru44 : RK 44 := rl1 (id := 0) t25 f25_at (by kernel_rfl)
theorem ru45 : RK 45 := rl1 (id := 0) t25 f25_at (by kernel_rfl)
theorem ru46 : RK 46 := rl1 (id := 0) t25 f25_at (by kernel_rfl)
theorem ru47 : RK 47 := rl1 (id := 0) t25 f25_at (by kernel_rfl)
theorem ru48 : RK 48 := rl1 (id := 3) t25 f25_at (by kernel_rfl)
theorem ru49 : RK 49 := rf1 t29 f29_at (by kernel_rfl)
theorem ru50 : RK 50 := rl1 (id := 0) t29 f29_at (by kernel_rfl)
theorem ru51 : RK 51 := rl1 (id := 2) t29 f29_at (by kernel_rfl)
theorem ru52 : RK 52 := rf1 t29 f29_at (by kernel_rfl)
theorem ru53 : RK 53 := rl1 (id := 0) t29 f29_at (by kernel_rfl)
theorem ru54 : RK 54 := rl1 (id := 2) t29 f29_at (by kernel_rfl)
theorem ru55 : RK 55 := rf1 t26 f26_at (by kernel_rfl)
theorem ru56 : RK 56 := rl1 (id := 0) t26 f26_at (by kernel_rfl)
theorem ru57 : RK 57 := rf1 t28 f28_at (by kernel_rfl)
theorem ru58 : RK 58 := rf1 t8 f8_at (by kernel_rfl)
theorem ru59 : RK 59 := rl1 (id := 0) t8 f8_at (by kernel_rfl)
theorem ru60 : RK 60 := rf1 t10 f10_at (by kernel_rfl)
theorem ru61 : RK 61 := rl1 (id := 0) t10 f10_at (by kernel_rfl)
theorem ru62 : RK 62 := rl1 (id := 2) t10 f10_at (by kernel_rfl)
theorem ru63 : RK 63 := rl1 (id := 4) t10 f10_at (by kernel_rfl)
theorem ru64 : RK 64 := rl1 (id := 4) t10 f10_at (by kernel_rfl)
theorem ru65 : RK 65 := rl1 (id := 6) t10 f10_at (by kernel_rfl)
theorem ru66 : RK 66 := rl1 (id := 6) t10 f10_at (by kernel_rfl)
theorem ru67 : RK 67 := rl1 (id := 8) t10 f10_at (by kernel_rfl)
theorem ru68 : RK 68 := rl1 (id := 8) t10 f10_at (by kernel_rfl)
theorem ru69 : RK 69 := rl1 (id := 8) t10 f10_at (by kernel_rfl)
set_option maxRecDepth 100000
section
variable {k f : Nat} {fn : Func}
theorem rf2 (t : FT) (h1 : PG.funcs[f]? = some fn) (h : (fn.body.isSome && tabOk t.sd t.sx (bodyOf fn) && fnB PG SS EE TT k f t) = true) : RK k := rF2 mixed h1 h
theorem rl2 {id : Nat} (t : FT) (h1 : PG.funcs[f]? = some fn) (h : (isLoop1 (subs id (bodyOf fn)) && tabOk t.sd t.sx (lb fn id) && lpC PG SS EE TT k f id fn t) = true) : RK k := rL2 mixed h1 h
end
theorem ru70 : RK 70 := rl2 (id := 8) t10 f10_at (by kernel_rfl)
theorem ru71 : RK 71 := rl2 (id := 10) t10 f10_at (by kernel_rfl)
theorem ru72 : RK 72 := rl2 (id := 10) t10 f10_at (by kernel_rfl)
theorem ru73 : RK 73 := rl2 (id := 10) t10 f10_at (by kernel_rfl)
theorem ru74 : RK 74 := rl2 (id := 10) t10 f10_at (by kernel_rfl)
theorem ru75 : RK 75 := rf2 t11 f11_at (by kernel_rfl)
theorem ru76 : RK 76 := rl2 (id := 0) t11 f11_at (by kernel_rfl)
theorem ru77 : RK 77 := rl2 (id := 2) t11 f11_at (by kernel_rfl)
theorem ru78 : RK 78 := rf2 t19 f19_at (by kernel_rfl)
theorem ru79 : RK 79 := rf2 t6 f6_at (by kernel_rfl)
theorem ru80 : RK 80 := rl2 (id := 0) t6 f6_at (by kernel_rfl)
theorem ru81 : RK 81 := rf2 t13 f13_at (by kernel_rfl)
theorem ru82 : RK 82 := rf2 t20 f20_at (by kernel_rfl)
theorem ru83 : RK 83 := rl2 (id := 0) t20 f20_at (by kernel_rfl)
theorem ru84 : RK 84 := rl2 (id := 2) t20 f20_at (by kernel_rfl)
theorem ru85 : RK 85 := rl2 (id := 4) t20 f20_at (by kernel_rfl)
theorem ru86 : RK 86 := rf2 t14 f14_at (by kernel_rfl)
theorem ru87 : RK 87 := rl2 (id := 0) t14 f14_at (by kernel_rfl)
theorem ru88 : RK 88 := rl2 (id := 0) t14 f14_at (by kernel_rfl)
theorem ru89 : RK 89 := rl2 (id := 2) t14 f14_at (by kernel_rfl)
theorem ru90 : RK 90 := rl2 (id := 2) t14 f14_at (by kernel_rfl)
theorem ru91 : RK 91 := rl2 (id := 2) t14 f14_at (by kernel_rfl)
theorem ru92 : RK 92 := rl2 (id := 2) t14 f14_at (by kernel_rfl)
theorem ru93 : RK 93 := rl2 (id := 4) t14 f14_at (by kernel_rfl)
theorem ru94 : RK 94 := rl2 (id := 4) t14 f14_at (by kernel_rfl)
theorem ru95 : RK 95 := rl2 (id := 4) t14 f14_at (by kernel_rfl)
theorem ru96 : RK 96 := rl2 (id := 4) t14 f14_at (by kernel_rfl)
theorem ru97 : RK 97 := rl2 (id := 4) t14 f14_at (by kernel_rfl)
theorem ru98 : RK 98 := rl2 (id := 4) t14 f14_at (by kernel_rfl)
theorem ru99 : RK 99 := rl2 (id := 4) t14 f14_at (by kernel_rfl)
theorem ru100 : RK 100 := rl2 (id := 4) t14 f14_at (by kernel_rfl)
theorem ru101 : RK 101 := rf2 t16 f16_at (by kernel_rfl)
theorem ru102 : RK 102 := rf2 t21 f21_at (by kernel_rfl)
theorem ru103 : RK 103 := rl2 (id := 0) t21 f21_at (by kernel_rfl)
theorem ru104 : RK 104 := rl2 (id := 0) t21 f21_at (by kernel_rfl)
set_option maxRecDepth 100000
section
variable {k f : Nat} {fn : Func}
theorem rf3 (t : FT) (h1 : PG.funcs[f]? = some fn) (h : (fn.body.isSome && tabOk t.sd t.sx (bodyOf fn) && fnB PG SS EE TT k f t) = true) : RK k := rF2 mixed h1 h
theorem rl3 {id : Nat} (t : FT) (h1 : PG.funcs[f]? = some fn) (h : (isLoop1 (subs id (bodyOf fn)) && tabOk t.sd t.sx (lb fn id) && lpC PG SS EE TT k f id fn t) = true) : RK k := rL2 mixed h1 h
end
theorem ru105 : RK 105 := rl3 (id := 3) t21 f21_at (by kernel_rfl)
theorem ru106 : RK 106 := rf3 t30 f30_at (by kernel_rfl)
theorem ru107 : RK 107 := rl3 (id := 0) t30 f30_at (by kernel_rfl)
theorem ru108 : RK 108 := rl3 (id := 0) t30 f30_at (by kernel_rfl)
theorem ru109 : RK 109 := rf3 t32 f32_at (by kernel_rfl)
theorem ru110 : RK 110 := rl3 (id := 0) t32 f32_at (by kernel_rfl)
theorem ru111 : RK 111 := rl3 (id := 0) t32 f32_at (by kernel_rfl)
theorem ru112 : RK 112 := rf3 t33 f33_at (by kernel_rfl)
theorem ru113 : RK 113 := rl3 (id := 0) t33 f33_at (by kernel_rfl)
theorem ru114 : RK 114 := rl3 (id := 0) t33 f33_at (by kernel_rfl)
theorem ru115 : RK 115 := rl3 (id := 0) t33 f33_at (by kernel_rfl)
theorem ru116 : RK 116 := rl3 (id := 0) t33 f33_at (by kernel_rfl)
theorem ru117 : RK 117 := rf3 t34 f34_at (by kernel_rfl)
theorem ru118 : RK 118 := rl3 (id := 0) t34 f34_at (by kernel_rfl)
theorem ru119 : RK 119 := rl3 (id := 0) t34 f34_at (by kernel_rfl)
theorem ru120 : RK 120 := rl3 (id := 0) t34 f34_at (by kernel_rfl)
theorem ru121 : RK 121 := rl3 (id := 0) t34 f34_at (by kernel_rfl)
theorem ru122 : RK 122 := rf3 t39 f39_at (by kernel_rfl)
theorem ru123 : RK 123 := rl3 (id := 0) t39 f39_at (by kernel_rfl)
theorem ru124 : RK 124 := rf3 t31 f31_at (by kernel_rfl)
theorem ru125 : RK 125 := rl3 (id := 0) t31 f31_at (by kernel_rfl)
theorem ru126 : RK 126 := rl3 (id := 0) t31 f31_at (by kernel_rfl)
theorem ru131 : RK 131 := RuleOk.weak (ek := en131) (eb := en86) (by kernel_rfl) (by kernel_rfl) rfl rfl rfl rfl rfl rfl rfl rfl rfl (by kernel_rfl)
theorem ru132 : RK 132 := RuleOk.weak (ek := en132) (eb := en60) (by kernel_rfl) (by kernel_rfl) rfl rfl rfl rfl rfl rfl rfl rfl rfl (by kernel_rfl)
theorem ru133 : RK 133 := RuleOk.weak (ek := en133) (eb := en106) (by kernel_rfl) (by kernel_rfl) rfl rfl rfl rfl rfl rfl rfl rfl rfl (by kernel_rfl)
theorem ru134 : RK 134 := RuleOk.weak (ek := en134) (eb := en124) (by kernel_rfl) (by kernel_rfl) rfl rfl rfl rfl rfl rfl rfl rfl rfl (by kernel_rfl)
theorem ru135 : RK 135 := RuleOk.weak (ek := en135) (eb := en109) (by kernel_rfl) (by kernel_rfl) rfl rfl rfl rfl rfl rfl rfl rfl rfl (by kernel_rfl)
theorem ru136 : RK 136 := RuleOk.weak (ek := en136) (eb := en112) (by kernel_rfl) (by kernel_rfl) rfl rfl rfl rfl rfl rfl rfl rfl rfl (by kernel_rfl)
theorem ru137 : RK 137 := RuleOk.weak (ek := en137) (eb := en117) (by kernel_rfl) (by kernel_rfl) rfl rfl rfl rfl rfl rfl rfl rfl rfl (by kernel_rfl)
section
variable {P : Program} {S : Nat → List Shape} {E : Nat → Ent} {T : Nat → Et} {k m : Nat}
theorem ns_ivs (l : List Int) : NS (.rows (ivs l)) := .rows _ fun c hc p hp => by
  obtain ⟨x, _, rfl⟩ := List.mem_map.1 hc
  rw [List.mem_singleton.1 hp]; exact .lit _
theorem ext_srtV (hE : E k = { f := 27, args := [.fn 38 [.ptr 0 0]], h := [.box 31 [.arv 1 (.sym 0) (.sym 1)], .arr 3 1 (.sym 2)], n := 3, fam := m }) (hS : S m = [{ v := .pv (.sym 3), h := [.box 31 [.arv 1 (.sym 0) (.sym 1)], .arr 3 1 (.sym 2)], m := 4 }]) (hT : T k = .ext srtV) : RuleOk Try.prog S E T k := by
  refine RuleOk.ext (by rw [hE]) hT fun l r hp hr => ?_
  unfold srtV at hr
  split at hr
  · rename_i a qs es
    split at hr
    · rename_i zs hz
      split at hr
      · rename_i hc
        cases hr
        rw [ivs_of hz] at hp ⊢
        refine ⟨?_, ?_, ?_, ?_, ?_⟩
        · unfold SemQ shp
          simp only [hE, hS]
          exact sem_srt a qs zs hc.1 hc.2.1 hc.2.2
        · simp only [hE, hS]; decide
        · simp only [hE, hS]; rfl
        · intro p hp'
          have hns := hp.ns
          rcases List.mem_cons.1 hp' with rfl | hp'
          · exact .lit _
          rcases List.mem_cons.1 hp' with rfl | hp'
          · exact hns _ (by simp)
          rcases List.mem_cons.1 hp' with rfl | hp'
          · exact ns_ivs _
          rw [List.mem_singleton.1 hp']
          exact ns_ivs _
        · simp only [hE, hS]
          exact fun i hi => by cases hi
      · cases hr
    · cases hr
  · cases hr
theorem ext_awk (ha : Sem Try.prog 7 [] [] (.pv (.lit (.bool true))) []) (hE : E k = { f := 7, args := [], n := 0, fam := m }) (hS : S m = [{ v := .pv (.sym 0), m := 1 }]) (hT : T k = .ext awkP) : RuleOk Try.prog S E T k := by
  refine RuleOk.ext (by rw [hE]) hT fun l r hp hr => ?_
  unfold awkP at hr
  split at hr
  · cases hr
    refine ⟨?_, ?_, ?_, ?_, ?_⟩
    · unfold SemQ shp
      simp only [hE, hS]
      exact ha
    · simp only [hE, hS]; decide
    · simp only [hE, hS]; rfl
    · intro p hp
      rw [List.mem_singleton.1 hp]
      exact .lit _
    · simp only [hE, hS]
      exact fun i hi => by cases hi
  · cases hr
end
end Go.Proofs.Ytkfdklocgpgbfaa
namespace Go.Proofs.Ytkfdklocgpgbfaa
open Go.RowKit Go.Deep
set_option maxHeartbeats 2000000 in
set_option maxRecDepth 100000 in
theorem reach_none (a : Option Addr) (cap : Nat) (w : World) : Calls Try.prog 12 #[.slice a 0 cap] w fun e w' => e = .returned (.slice none 0 0) ∧ w' = w := by
  go_enter Try.func12, Try.ntmps12
  go_wp2
  go_loopg [3, 4] 1 (fun g o i wr => o = .slice none 0 0 ∧ i = .int .i64 0 ∧ wr = w)
  case atStart => exact ⟨rfl, rfl, rfl⟩
  case round =>
    obtain ⟨rfl, rfl, rfl⟩ := hrel
    go_wp2
    go_loopg [7] 1 (fun g i wi => i = .int .i64 0 ∧ wi = wr)
    case atStart => exact ⟨rfl, rfl⟩
    case round =>
      obtain ⟨rfl, rfl⟩ := hrel
      go_wp2
      go_returns
      exact ⟨rfl, rfl⟩
theorem nss_iss (l : List (List Int)) : nsPss (iss l) = true := by
  unfold iss
  induction l with
  | nil => rfl
  | cons n l ih => 
    rw [List.map_cons, nsPss, ih]
    show (nsPss (ivs n) && true && true) = true
    rw [nss_ivs]; rfl
theorem iss_len (l : List (List Int)) : (iss l).length = l.length := by simp [iss]
theorem ivs_len (l : List Int) : (ivs l).length = l.length := by simp [ivs]
theorem nd_get {N : List (List Nat)} {i : Nat} (h : i < N.length) : nd N i = N[i] := by
  unfold nd
  rw [List.getD_eq_getElem?_getD, List.getElem?_eq_getElem h]; rfl
/-- The rows as they lie in memory. -/
theorem nd_of {K : Kn} {w : World} {gb ob : Nat} (N : List (List Nat)) (us : Nat → Nat → Value) (hagr : ∀ g o v, K.M g o = some v → w.cell? ⟨g, o, none⟩ = some v)
    (hc : ∀ i, i < N.length → K.M gb (ob + i) = some (us i 0)) (hr : ∀ i (h : i < N.length), PR K.R K.M (.rows (ivs (zof N[i]))) (us i 0)) :
    ∃ A C Ab Ao, NdAt w gb ob N A C Ab Ao := by
  have h1 : ∀ i, ∃ x : Option Addr × Nat × Nat × Nat, i < N.length → us i 0 = .slice x.1 (nd N i).length x.2.1 ∧ ∀ q (h : q < (nd N i).length), x.1 = some ⟨x.2.2.1, x.2.2.2, none⟩ ∧ w.cell? ⟨x.2.2.1, x.2.2.2 + q, none⟩ = some (.int .i64 ((nd N i)[q] : Int)) := fun i => by
    by_cases hi : i < N.length
    · have h2 := hr i hi
      generalize hu : us i 0 = u at h2
      generalize he : ivs (zof N[i]) = es at h2
      cases h2 with
      | rows es a cap g off sz vs ha hn hsz hcl hrr =>
        refine ⟨(a, cap, g, off), fun _ => ?_⟩
        have hl : es.length = (nd N i).length := by rw [← he, ivs_len, nd_get hi]; simp [zof]
        refine ⟨by rw [hl], fun q hq => ?_⟩
        have hne : es ≠ [] := fun e => by rw [e, List.length_nil] at hl; omega
        refine ⟨ha hne, hagr _ _ _ ?_⟩
        have hq' : q < es.length := by omega
        have h1z : sz = 1 := by
          have := hsz q hq'
          rw [← this]
          simp [← he, ivs]
        subst h1z
        have h3 := hcl q hq' 0 (by omega)
        have h4 := hrr q hq' 0 (by rw [hsz q hq']; omega)
        have h5 : es[q][0]'(by rw [hsz q hq']; omega) = .lit (.int .i64 ((nd N i)[q] : Int)) := by
          subst he
          have h6 : (nd N i)[q] = N[i][q]'(by rw [nd_get hi] at hq; exact hq) := by simp only [nd_get hi]
          rw [h6]
          simp [ivs, zof]
        rw [h5] at h4
        generalize hv : vs q 0 = v at h4
        cases h4
        rw [hv, Nat.mul_one, Nat.add_zero] at h3
        exact h3
    · exact ⟨(none, 0, 0, 0), fun h => absurd h hi⟩
  obtain ⟨f, hf⟩ : ∃ f : Nat → Option Addr × Nat × Nat × Nat, ∀ i, i < N.length → us i 0 = .slice (f i).1 (nd N i).length (f i).2.1 ∧ ∀ q (h : q < (nd N i).length), (f i).1 = some ⟨(f i).2.2.1, (f i).2.2.2, none⟩ ∧ w.cell? ⟨(f i).2.2.1, (f i).2.2.2 + q, none⟩ = some (.int .i64 ((nd N i)[q] : Int)) := ⟨fun i => Classical.choose (h1 i), fun i => Classical.choose_spec (h1 i)⟩
  exact ⟨fun i => (f i).1, fun i => (f i).2.1, fun i => (f i).2.2.1, fun i => (f i).2.2.2, fun i hi => by rw [← (hf i hi).1]; exact hagr _ _ _ (hc i hi), fun i hi q hq => (hf i hi).2 q hq⟩
theorem bvs_len (l : List Bool) : (bvs l).length = l.length := by simp [bvs]
theorem bss_len (l : List (List Bool)) : (bss l).length = l.length := by simp [bss]
theorem rb_len (N : List (List Nat)) : (rbRows N).length = N.length := by simp [rbRows]
theorem sem_rch (N : List (List Nat)) (hr : Rng N) (hn : N.length ≤ 100000) (hl : ∀ i, i < N.length → (nd N i).length ≤ 1000000000) :
    Sem Try.prog 12 [.pv (zss (N.map zof))] [] (.pv (.rows (bss (rbRows N)))) [] := fun R K w us hR W hv => by
  obtain ⟨hvl, hvv⟩ := hv
  cases us with
  | nil => cases hvl
  | cons u us =>
  cases us with
  | cons _ _ => simp at hvl
  | nil =>
  have hv0 := hvv 0 (by simp) (by simp)
  simp only [List.getElem_cons_zero] at hv0
  cases hv0 with
  | pv hp =>
  unfold zss at hp
  generalize hes : iss (N.map zof) = es at hp
  have hel : es.length = N.length := by rw [← hes, iss_len, List.length_map]
  have hat : ∀ i (h : i < es.length), es[i] = [.rows (ivs (zof (N[i]'(by omega))))] := fun i h => by
    subst hes
    simp [iss]
  cases hp with
  | rows es a cap g off sz us ha hn2 hsz hc hrr =>
  by_cases h0 : N.length = 0
  · have h0' : es.length = 0 := by omega
    rw [h0']
    refine (reach_none a cap w).mono fun e w' ⟨he, hw⟩ => ?_
    subst he hw
    have hN : rbRows N = [] := List.eq_nil_of_length_eq_zero (by rw [rb_len]; exact h0)
    refine ⟨K, ⟨_, rfl, .pv ?_⟩, Step.refl W⟩
    rw [hN]
    exact PR.rows [] none 0 0 0 1 (fun _ _ => .bool false) (fun h => absurd rfl h) (Nat.le_refl _) (fun i hi => absurd hi (Nat.not_lt_zero _)) (fun i hi => absurd hi (Nat.not_lt_zero _)) (fun i hi => absurd hi (Nat.not_lt_zero _))
  · have hne : es ≠ [] := fun e => by rw [e, List.length_nil] at hel; omega
    have ha' := ha hne
    subst ha'
    have h1z : sz = 1 := by
      have := hsz 0 (by omega)
      rw [hat 0 (by omega)] at this
      exact this.symm
    subst h1z
    obtain ⟨A, C, Ab, Ao, hA⟩ := nd_of (K := K) (w := w) (gb := g) (ob := off) N us W.agr (fun i hi => by
      have := hc i (by omega) 0 (by omega)
      rwa [Nat.mul_one, Nat.add_zero] at this) (fun i hi => by
      have h4 := hrr i (by omega) 0 (by rw [hsz i (by omega)]; omega)
      have h5 : es[i][0]'(by rw [hsz i (by omega)]; omega) = .rows (ivs (zof N[i])) := by
        have := hat i (by omega)
        simp [this]
      rwa [h5] at h4)
    rw [hel]
    refine (reach_any g off cap N A C Ab Ao w hr (by omega) hn (fun i hi => by have := hl i hi; omega) hA).mono fun e w' ⟨B, v, he, hM, hb⟩ => ?_
    subst he
    obtain ⟨K', hst, hKR, hnew, _⟩ := Step.known W (frm_below hb) (fun gg o => if w.heap.size ≤ gg then w'.cell? ⟨gg, o, none⟩ else none) (fun gg o v hm3 => by
      by_cases hgg : w.heap.size ≤ gg
      · rw [if_pos hgg] at hm3
        exact ⟨hgg, hm3⟩
      · rw [if_neg hgg] at hm3; cases hm3)
    obtain ⟨gv, cv, hve, hgv, hcv⟩ : ∃ gv cv, v = .slice (some ⟨gv, 0, none⟩) N.length cv ∧ w.heap.size ≤ gv ∧ N.length ≤ cv := by
      rcases hM.own.2 with ⟨_, h9⟩ | ⟨g9, cap9, cur, h8, h9, _, h7, _⟩
      · omega
      · exact ⟨g9, cap9, h8, h9, h7⟩
    subst hve
    refine ⟨K', ⟨_, rfl, ?_⟩, hst⟩
    have hbl : (bss (rbRows N)).length = N.length := by rw [bss_len, rb_len]
    have hba : ∀ i (h : i < (bss (rbRows N)).length), (bss (rbRows N))[i] = [.rows (bvs ((List.range N.length).map fun k => RB N i k))] := fun i h => by simp [bss, rbRows]
    have hpr := PR.rows (R := K'.R) (M := K'.M) (bss (rbRows N)) (some ⟨gv, 0, none⟩) cv gv 0 1 (fun i _ => .slice (some ⟨B i, 0, none⟩) N.length N.length) (fun _ => rfl) (by omega) (fun i hi => by rw [hba i hi]; rfl) (fun i hi j hj => by
      refine hnew _ _ _ ?_
      have hj0 : j = 0 := by omega
      subst hj0
      rw [if_pos hgv, Nat.zero_add, Nat.mul_one, Nat.add_zero]
      exact hM.head (by omega)) (fun i hi j hj => by
      have hj0 : j = 0 := by rw [hba i hi] at hj; simpa using hj
      subst hj0
      have h5 : (bss (rbRows N))[i][0]'hj = .rows (bvs ((List.range N.length).map fun k => RB N i k)) := by
        have := hba i hi
        simp [this]
      rw [h5]
      have hin : i < N.length := by omega
      have hl2 : (bvs ((List.range N.length).map fun k => RB N i k)).length = N.length := by simp [bvs]
      have h6 := PR.rows (R := K'.R) (M := K'.M) (bvs ((List.range N.length).map fun k => RB N i k)) (some ⟨B i, 0, none⟩) N.length (B i) 0 1 (fun c _ => .bool (RB N i c)) (fun _ => rfl) (by omega) (fun c hc => by simp [bvs]) (fun c hc q hq => by
        refine hnew _ _ _ ?_
        have hq0 : q = 0 := by omega
        subst hq0
        rw [if_pos (hM.lo i hin), Nat.zero_add, Nat.mul_one, Nat.add_zero]
        exact (hM.row i hin).cell (by omega)) (fun c hc q hq => by
        have hq0 : q = 0 := by simp [bvs] at hq; omega
        subst hq0
        have h7 : (bvs ((List.range N.length).map fun k => RB N i k))[c][0]'hq = .lit (.bool (RB N i c)) := by simp [bvs]
        rw [h7]
        exact .lit _ rfl)
      rw [hl2] at h6
      exact h6)
    rw [hbl] at hpr
    exact .pv hpr
section
variable {P : Program} {S : Nat → List Shape} {E : Nat → Ent} {T : Nat → Et} {k m : Nat}
theorem ns_bss (l : List (List Bool)) : NS (.rows (bss l)) := .rows _ fun c hc p hp => by
  obtain ⟨x, _, rfl⟩ := List.mem_map.1 hc
  rw [List.mem_singleton.1 hp]
  exact .rows _ fun c hc p hp => by
    obtain ⟨x, _, rfl⟩ := List.mem_map.1 hc
    rw [List.mem_singleton.1 hp]; exact .lit _
theorem ext_rchP (hE : E k = { f := 12, args := [.pv (.sym 0)], n := 1, fam := m }) (hS : S m = [{ v := .pv (.sym 0), m := 1 }]) (hT : T k = .ext rchP) : RuleOk Try.prog S E T k := by
  refine RuleOk.ext (by rw [hE]) hT fun l r hp hr => ?_
  unfold rchP at hr
  split at hr
  · rename_i es
    split at hr
    · rename_i needs hz
      split at hr
      · rename_i hc
        cases hr
        have he := iss_of hz
        obtain ⟨N, hN, hrng⟩ := needs_nat hc.1
        have hlen : ∀ i, i < N.length → (nd N i).length ≤ 1000000000 := fun i hi => by
          have h1 := List.all_eq_true.1 hc.2.2 (zof N[i]) (by rw [hN]; exact List.mem_map_of_mem (List.getElem_mem hi))
          have h2 := of_decide_eq_true h1
          rw [nd_get hi]
          simpa [zof] using h2
        have hrr : reachRows needs = rbRows N := by
          rw [hN]
          unfold reachRows rbRows RB
          rw [List.length_map]; rfl
        refine ⟨?_, ?_, ?_, ?_, ?_⟩
        · unfold SemQ shp
          simp only [hE, hS, hrr]
          have h3 := sem_rch N hrng (by rw [hN] at hc; simpa using hc.2.1) hlen
          rw [← hN, zss, ← he] at h3
          exact h3
        · simp only [hE, hS]; decide
        · simp only [hE, hS]; rfl
        · intro p hp'
          rw [List.mem_singleton.1 hp']
          exact ns_bss _
        · simp only [hE, hS]
          exact fun i hi => by cases hi
      · cases hr
    · cases hr
  · cases hr
end
end Go.Proofs.Ytkfdklocgpgbfaa
namespace Go.Proofs.Ytkfdklocgpgbfaa
open Go.RowKit
theorem int_val {K : Kn} {n : Int} {u : Value} (h : VR K (.pv (.lit (.int .i64 n))) u) : u = .int .i64 n := by
  cases h with
  | pv h => cases h; rfl
set_option maxHeartbeats 1000000 in
theorem spS_ok (R : Nat → PV) : CallsOk R Try.prog spS := fun f args h v h' he => by
  unfold spS at he
  split at he
  case h_2 => cases he
  rename_i b hf
  have hf27 : f = 27 := Nat.eq_of_beq_eq_true hf
  subst hf27
  split at he
  case h_2 => cases he
  rename_i ty1 t lo len hb1
  split at he
  case h_2 => cases he
  rename_i ty cells hc1
  split at he
  case h_2 => cases he
  rename_i zs hz hble
  cases he
  rw [Bool.and_eq_true] at hble
  have hle1 := Nat.le_of_ble_eq_true hble.1
  have hle2 := Nat.le_of_ble_eq_true hble.2
  intro K w us hR W hv
  obtain ⟨hvl, hvv⟩ := hv
  cases us with
  | nil => cases hvl
  | cons u us =>
  cases us with
  | cons _ _ => simp at hvl
  | nil =>
  have hv0 := hvv 0 (by simp) (by simp)
  simp only [List.getElem_cons_zero] at hv0
  obtain ⟨gb, cs, hb, hwb, _, hbv⟩ := W.box b _ _ hb1
  obtain ⟨g, ca, hg, hwg, _, hcv⟩ := W.box t _ _ hc1
  obtain ⟨hzl, hzg⟩ := intsAt_get hz
  have hlen : zs.length = len := by rw [hzl]; simp; omega
  have hcs : ∀ j (h : j < zs.length), w.cell? ⟨g, lo + j, none⟩ = some (.int .i64 zs[j]) := fun j hj => by
    have h1 := hzg j hj
    rw [List.getElem?_take, if_pos (by omega), List.getElem?_drop] at h1
    obtain ⟨h2, h3⟩ := List.getElem?_eq_some_iff.1 h1
    have hl := hcv.1
    simp at hl
    have h4 := hcv.2 (lo + j) h2 (by simp; omega)
    rw [h3] at h4
    have h5 := int_val h4
    simp at h5
    unfold World.cell?
    simp only [hwg]
    show ca[lo + j]? = _
    rw [Array.getElem?_eq_getElem (by omega), h5]
  have hb0 : ∃ x, cs[0]? = some x ∧ VR K (.sl t lo len 1) x := by
    have h1 := hbv.1
    simp at h1
    have hsz : 0 < cs.size := by omega
    have hbx := hbv.2 0 (by simp) (by simp; omega)
    refine ⟨cs[0], by simp [hsz], ?_⟩
    simpa using hbx
  obtain ⟨x, hx0, hx⟩ := hb0
  have hbc : w.cell? ⟨gb, 0, none⟩ = some x := by
    unfold World.cell?
    simp only [hwb]
    exact hx0
  cases hx with
  | sl _ _ _ _ g2 cap off hm hE hl hz2 hof =>
    rw [hg] at hm
    cases hm
    have hat : ∀ j (h : j < zs.length), w.cell? ⟨g, off + j, none⟩ = some (.int .i64 zs[j]) := fun j hj => by
      have hcap : 0 < cap := by omega
      rw [hof hcap, Nat.mul_one]
      exact hcs j hj
    have hS : SlAt w gb g off cap zs := ⟨W.lt b gb hb, W.lt t g hg, by rw [hbc, hlen], hat⟩
    cases hv0 with
    | fn _ _ cps hcl hch _ =>
      cases cps with
      | nil => cases hcl
      | cons p cps =>
      cases cps with
      | cons _ _ => simp at hcl
      | nil =>
      have hp := hch 0 (by simp) (by simp)
      simp only [List.getElem_cons_zero] at hp
      cases hp with
      | ptr _ _ b2 hm2 =>
        rw [hb] at hm2
        cases hm2
        refine (srt_any gb g off cap zs (by omega) w hS).mono fun e w' ⟨a', cap', g', he, hne, hcap', hg', hcells, hbel⟩ => ?_
        subst he
        have hsl : (sortZ zs).length = zs.length := sortZ_len zs
        obtain ⟨K', hst, hKR, hnew, _⟩ := Step.known W (frm_below hbel) (fun gg o => if gg = g' then ((sortZ zs)[o]?).map (Value.int .i64) else none) (fun gg o v hm3 => by
          by_cases hgg : gg = g'
          · subst hgg
            rw [if_pos rfl] at hm3
            obtain ⟨z, hz1, rfl⟩ := Option.map_eq_some_iff.1 hm3
            obtain ⟨hz2, hz3⟩ := List.getElem?_eq_some_iff.1 hz1
            exact ⟨hg', by rw [hcells o hz2, hz3]⟩
          · rw [if_neg hgg] at hm3; cases hm3)
        refine ⟨K', ⟨_, rfl, ?_⟩, hst⟩
        rw [isortZ_eq]
        have hlen2 : (ivs (sortZ zs)).length = zs.length := by simp [ivs, hsl]
        have hpr := PR.rows (R := K'.R) (M := K'.M) (ivs (sortZ zs)) a' cap' g' 0 1 (fun i _ => .int .i64 ((sortZ zs).getD i 0)) (fun hne2 => hne (fun e0 => hne2 (by rw [e0]; simp [sortZ, ivs]))) (by omega) (fun i hi => by simp [ivs]) (fun i hi j hj => by
          have hj0 : j = 0 := by omega
          subst hj0
          have hi2 : i < (sortZ zs).length := by omega
          refine hnew _ _ _ ?_
          rw [if_pos rfl, Nat.zero_add, Nat.mul_one, Nat.add_zero, List.getElem?_eq_getElem hi2]
          simp [List.getD_eq_getElem?_getD, List.getElem?_eq_getElem hi2]) (fun i hi j hj => by
          have hj0 : j = 0 := by simp [ivs] at hj; omega
          subst hj0
          have hi2 : i < (sortZ zs).length := by omega
          have h3 : (ivs (sortZ zs))[i][0]'(by simp [ivs]) = .lit (.int .i64 (sortZ zs)[i]) := by simp [ivs]
          rw [h3]
          have h4 : (sortZ zs).getD i 0 = (sortZ zs)[i] := by rw [List.getD_eq_getElem?_getD, List.getElem?_eq_getElem hi2]; rfl
          rw [h4]
          exact .lit _ rfl)
        rw [hlen2] at hpr
        exact .pv hpr
    | bfn f2 _ _ _ _ _ hg2 => exact absurd hg2 (by unfold bndF; omega)
theorem awake_sem : Sem Try.prog 7 [] [] (.pv (.lit (.bool true))) [] := fun R => evalF_sound (spS_ok R) okT_ok tabT_ok (fun _ => rfl) mixed 60 _ _ _ _ _ awake_run
set_option maxRecDepth 100000
theorem ru127 : RK 127 := ext_awk (m := 81) awake_sem (by kernel_rfl) (by kernel_rfl) (by kernel_rfl)
theorem ru128 : RK 128 := ext_rchP (m := 82) (by kernel_rfl) (by kernel_rfl) (by kernel_rfl)
theorem ru129 : RK 129 := ext_ndsP (m := 83) says_all (by kernel_rfl) (by kernel_rfl) (by kernel_rfl)
theorem ru130 : RK 130 := ext_srtV (m := 84) (by kernel_rfl) (by kernel_rfl) (by kernel_rfl)
set_option maxRecDepth 100000
theorem tabs : TabsOk PG SS EE := TabsOk.of (by kernel_rfl) (by kernel_rfl) (by kernel_rfl)
theorem ru_0 : AllK (RuleOk PG SS EE TT) 0 := trivial
theorem ru_20 : AllK (RuleOk PG SS EE TT) 20 := ⟨⟨⟨⟨⟨⟨⟨⟨⟨⟨⟨⟨⟨⟨⟨⟨⟨⟨⟨⟨ru_0, ru0⟩, ru1⟩, ru2⟩, ru3⟩, ru4⟩, ru5⟩, ru6⟩, ru7⟩, ru8⟩, ru9⟩, ru10⟩, ru11⟩, ru12⟩, ru13⟩, ru14⟩, ru15⟩, ru16⟩, ru17⟩, ru18⟩, ru19⟩
theorem ru_40 : AllK (RuleOk PG SS EE TT) 40 := ⟨⟨⟨⟨⟨⟨⟨⟨⟨⟨⟨⟨⟨⟨⟨⟨⟨⟨⟨⟨ru_20, ru20⟩, ru21⟩, ru22⟩, ru23⟩, ru24⟩, ru25⟩, ru26⟩, ru27⟩, ru28⟩, ru29⟩, ru30⟩, ru31⟩, ru32⟩, ru33⟩, ru34⟩, ru35⟩, ru36⟩, ru37⟩, ru38⟩, ru39⟩
theorem ru_60 : AllK (RuleOk PG SS EE TT) 60 := ⟨⟨⟨⟨⟨⟨⟨⟨⟨⟨⟨⟨⟨⟨⟨⟨⟨⟨⟨⟨ru_40, ru40⟩, ru41⟩, ru42⟩, ru43⟩, ru44⟩, ru45⟩, ru46⟩, ru47⟩, ru48⟩, ru49⟩, ru50⟩, ru51⟩, ru52⟩, ru53⟩, ru54⟩, ru55⟩, ru56⟩, ru57⟩, ru58⟩, ru59⟩
theorem ru_80 : AllK (RuleOk PG SS EE TT) 80 := ⟨⟨⟨⟨⟨⟨⟨⟨⟨⟨⟨⟨⟨⟨⟨⟨⟨⟨⟨⟨ru_60, ru60⟩, ru61⟩, ru62⟩, ru63⟩, ru64⟩, ru65⟩, ru66⟩, ru67⟩, ru68⟩, ru69⟩, ru70⟩, ru71⟩, ru72⟩, ru73⟩, ru74⟩, ru75⟩, ru76⟩, ru77⟩, ru78⟩, ru79⟩
theorem ru_100 : AllK (RuleOk PG SS EE TT) 100 := ⟨⟨⟨⟨⟨⟨⟨⟨⟨⟨⟨⟨⟨⟨⟨⟨⟨⟨⟨⟨ru_80, ru80⟩, ru81⟩, ru82⟩, ru83⟩, ru84⟩, ru85⟩, ru86⟩, ru87⟩, ru88⟩, ru89⟩, ru90⟩, ru91⟩, ru92⟩, ru93⟩, ru94⟩, ru95⟩, ru96⟩, ru97⟩, ru98⟩, ru99⟩
theorem ru_120 : AllK (RuleOk PG SS EE TT) 120 := ⟨⟨⟨⟨⟨⟨⟨⟨⟨⟨⟨⟨⟨⟨⟨⟨⟨⟨⟨⟨ru_100, ru100⟩, ru101⟩, ru102⟩, ru103⟩, ru104⟩, ru105⟩, ru106⟩, ru107⟩, ru108⟩, ru109⟩, ru110⟩, ru111⟩, ru112⟩, ru113⟩, ru114⟩, ru115⟩, ru116⟩, ru117⟩, ru118⟩, ru119⟩
theorem ru_138 : AllK (RuleOk PG SS EE TT) 138 := ⟨⟨⟨⟨⟨⟨⟨⟨⟨⟨⟨⟨⟨⟨⟨⟨⟨⟨ru_120, ru120⟩, ru121⟩, ru122⟩, ru123⟩, ru124⟩, ru125⟩, ru126⟩, ru127⟩, ru128⟩, ru129⟩, ru130⟩, ru131⟩, ru132⟩, ru133⟩, ru134⟩, ru135⟩, ru136⟩, ru137⟩
theorem noMore : ∀ k, 138 ≤ k → (EE k).base = none ∧ TT k = etNo := fun k hk => ⟨by unfold EE; rw [nth_out dEn enL k (Nat.le_trans (by decide) hk)]; rfl, by unfold TT; rw [nth_out etNo etL k (Nat.le_trans (by decide) hk)]⟩
theorem ev_sound {q : Q} {r : Rs} (h : ev q = some r) (hp : Pre EE q) : SemQ PG SS EE q r ∧ Pst SS (EE q.k).fam r := Evl.sound tabs ru_138.get noMore h hp
def T6 : Tr := .alt (.call ⟨7, [], [], .pv (.lit (.bool true)), []⟩ 0 (.say (.len 36 (.pv (.sym 0)) (.pv (.sym 1))) 1 (.alt (.say (.bin .gtr 3 (.pv (.sym 1)) (.pv (.lit (.int .i64 20))) (.pv (.lit (.bool true)))) 0 (.ret (.pv (.lit (.bool true))) [])) (.say (.bin .gtr 3 (.pv (.sym 1)) (.pv (.lit (.int .i64 20))) (.pv (.lit (.bool false)))) 0 (.alt (.blk ⟨0, [(15, .pv (.lit (.int .i64 0))), (14, .pv (.sym 1)), (13, .pv (.sym 0)), (0, .pv (.sym 0))], [], .normal, [(0, .pv (.sym 0))], []⟩ 0 (.call ⟨14, [.pv (.sym 0)], [], .pv (.sym 2), []⟩ 1 (.alt (.call ⟨10, [.pv (.sym 2)], [], .tup [.pv (.sym 3), .pv (.lit (.bool true))], []⟩ 1 (.call ⟨15, [.pv (.sym 0)], [], .pv (.sym 4), []⟩ 1 (.alt (.call ⟨11, [.pv (.sym 4), .pv (.sym 2)], [], .pv (.lit (.bool true)), []⟩ 0 (.call ⟨16, [.pv (.sym 0)], [], .pv (.sym 5), []⟩ 1 (.alt (.call ⟨11, [.pv (.sym 5), .pv (.sym 3)], [], .pv (.lit (.bool true)), []⟩ 0 (.ret (.pv (.lit (.bool true))) [])) (.call ⟨11, [.pv (.sym 5), .pv (.sym 3)], [], .pv (.lit (.bool false)), []⟩ 0 (.ret (.pv (.lit (.bool false))) []))))) (.call ⟨11, [.pv (.sym 4), .pv (.sym 2)], [], .pv (.lit (.bool false)), []⟩ 0 (.ret (.pv (.lit (.bool false))) []))))) (.call ⟨10, [.pv (.sym 2)], [], .tup [.pv (.sym 3), .pv (.lit (.bool false))], []⟩ 1 (.call ⟨15, [.pv (.sym 0)], [], .pv (.sym 4), []⟩ 1 (.alt (.call ⟨11, [.pv (.sym 4), .pv (.sym 2)], [], .pv (.lit (.bool true)), []⟩ 0 (.call ⟨16, [.pv (.sym 0)], [], .pv (.sym 5), []⟩ 1 (.alt (.call ⟨11, [.pv (.sym 5), .pv (.sym 3)], [], .pv (.lit (.bool true)), []⟩ 0 (.ret (.pv (.lit (.bool true))) [])) (.call ⟨11, [.pv (.sym 5), .pv (.sym 3)], [], .pv (.lit (.bool false)), []⟩ 0 (.ret (.pv (.lit (.bool false))) []))))) (.call ⟨11, [.pv (.sym 4), .pv (.sym 2)], [], .pv (.lit (.bool false)), []⟩ 0 (.ret (.pv (.lit (.bool false))) [])))))))) (.alt (.blk ⟨0, [(15, .pv (.lit (.int .i64 0))), (14, .pv (.sym 1)), (13, .pv (.sym 0)), (0, .pv (.sym 0))], [], .ret, [(2, .pv (.lit (.bool true)))], []⟩ 0 (.ret (.pv (.lit (.bool true))) [])) (.blk ⟨0, [(15, .pv (.lit (.int .i64 0))), (14, .pv (.sym 1)), (13, .pv (.sym 0)), (0, .pv (.sym 0))], [], .ret, [(2, .pv (.lit (.bool false)))], []⟩ 0 (.ret (.pv (.lit (.bool false))) [])))))))) (.call ⟨7, [], [], .pv (.lit (.bool false)), []⟩ 0 (.ret (.pv (.lit (.bool false))) []))
def A6 : List AV := [.pv (.sym 0)]
def H6 : List AObj := []
set_option maxRecDepth 100000 in
theorem c6 : chk Try.prog (leafF Try.prog t6 6 A6 H6) T6 1 [] [] [] = true := by kernel_rfl
theorem F6 (x0 : PV) (hn : NSL [x0]) {v : AV} {h' : List AObj} (hd : Den Try.prog Try.f6 T6 [x0] (.ret v h')) :
    Sem Try.prog 6 [.pv x0] [] v h' :=
  fun_rule f6_at f6_body mixed f6_tab (args := A6) (h := H6) (by kernel_rfl) c6 rfl hn (by simp only [A6, TsAs, TsA, nm, isRow, List.getD_cons_zero, List.getD_cons_succ, and_self, and_true]) (by trivial) hd

theorem ev_fx {q : Q} {r : Rs} {ent : Ent} {sh : Shape} {args : List AV} {h h' : List AObj} {v : AV} (he : EE q.k = ent) (hl : ent.lp = none) (hs : shp SS EE q.k r.1 = sh) (ha : openAVs (nm q.xs) ent.args = args) (hh : openH (nm q.xs) ent.h = h) (hv : openAV (nm r.2) sh.v = v) (hh' : openH (nm r.2) sh.h = h')
    (hn : q.xs.length = ent.n) (hr : ent.rin = []) (hns : NSL q.xs) (h0 : ev q = some r) : Sem Try.prog ent.f args h v h' ∧ NSL r.2 := by
  obtain ⟨h1, h2⟩ := ev_sound h0 ⟨by rw [he]; exact hn, hns, by rw [he, hr]; intro i hi; cases hi⟩
  refine ⟨?_, h2.ns⟩
  unfold SemQ at h1
  rw [he, hl] at h1
  simp only at h1
  rw [hs, ha, hh, hv, hh'] at h1
  exact h1
theorem nsl1 {p : PV} (h : NS p) : NSL [p] := fun x hx => by rw [List.mem_singleton.1 hx]; exact h
theorem nsl2 {p q : PV} (h : NS p) (h2 : NS q) : NSL [p, q] := fun x hx => by
  simp only [List.mem_cons, List.not_mem_nil, or_false] at hx
  rcases hx with rfl | rfl
  · exact h
  · exact h2
theorem needs_w (l : List Bd) (hl : l.length ≤ 1000000) (ht : ∀ x ∈ l, x.e.tot ≤ 1000000) : ev (q14w (bds l)) = some (0, [.rows (mixs (needsL l))]) := by
  have h1 := needs_ev l hl ht
  refine Evl.of ?_
  rw [h14w]
  show weakK (ev (q14 (bds l))) = _
  rw [h1]
  by_cases h : l = []
  · subst h
    rw [if_pos rfl]; rfl
  · rw [if_neg h]; rfl
theorem sem14 (l : List Bd) (hl : l.length ≤ 1000000) (ht : ∀ x ∈ l, x.e.tot ≤ 1000000) : Sem Try.prog 14 [.pv (bds l)] [] (.pv (zss (needsL l))) [] := by
  have h := (ev_fx (q := q14w (bds l)) (ent := EE 131) (sh := shp SS EE 131 0) (args := [.pv (bds l)]) (h := []) (v := .pv (.rows (mixs (needsL l)))) (h' := []) rfl (by kernel_rfl) rfl (by kernel_rfl) (by kernel_rfl) (by kernel_rfl) (by kernel_rfl) (by kernel_rfl) (by kernel_rfl) (nsl1 (ns_bds l)) (needs_w l hl ht)).1
  have hf : (EE 131).f = 14 := by kernel_rfl
  rw [hf] at h
  exact fun R K w us hR W hv => (h R K w us hR W hv).mono fun e w' ⟨K', he, hst⟩ => by
    obtain ⟨u, rfl, hu⟩ := he.ret rfl
    cases hu with
    | pv hp => exact ⟨K', ⟨u, rfl, .pv (pr_mix hp)⟩, hst⟩
theorem sem10 {N : List (List Nat)} (hs : Sml (N.map zof)) (hr : Rng N) : Sem Try.prog 10 [.pv (nss N)] [] (.tup [.pv (nss (groupsR N)), .pv bt]) [] :=
  (ev_fx (q := q10w (nss N)) (r := (0, [nss (groupsR N), bt])) (ent := EE 132) (sh := shp SS EE 132 0) rfl (by kernel_rfl) rfl (by kernel_rfl) (by kernel_rfl) (by kernel_rfl) (by kernel_rfl) (by kernel_rfl) (by kernel_rfl) (nsl1 (ns_nss N)) (ref_ok hs hr)).1
theorem sem16 (l : List Bd) (hl : l.length ≤ 100000) (ht : ∀ x ∈ l, x.e.tot ≤ 1000000) {N : List (List Nat)} (hN : needsL l = N.map zof) (hr : Rng N) : Sem Try.prog 16 [.pv (bds l)] [] (.pv (gOut (groupsR N))) [] :=
  (ev_fx (q := q16 (bds l)) (r := (0, [gOut (groupsR N)])) (ent := EE 101) (sh := shp SS EE 101 0) rfl (by kernel_rfl) rfl (by kernel_rfl) (by kernel_rfl) (by kernel_rfl) (by kernel_rfl) (by kernel_rfl) (by kernel_rfl) (nsl1 (ns_bds l)) (of_ev l hl ht hN hr)).1
theorem sem11 {a b : PV} (ha : NS a) (hb : NS b) (h : ev (q11 a b) = some (0, [bv true])) : Sem Try.prog 11 [.pv a, .pv b] [] (.pv (bv true)) [] :=
  (ev_fx (q := q11 a b) (r := (0, [bv true])) (ent := EE 75) (sh := shp SS EE 75 0) rfl (by kernel_rfl) rfl (by kernel_rfl) (by kernel_rfl) (by kernel_rfl) (by kernel_rfl) (by kernel_rfl) (by kernel_rfl) (nsl2 ha hb) h).1
theorem loop6 (l : List Bd) (r : Rs) (h : ev (q6b0a (iv 0) (iv l.length) (bds l) (bds l)) = some r) : LoopS Try.prog Try.f6 0 0 [(15, .pv (iv 0)), (14, .pv (iv l.length)), (13, .pv (bds l)), (0, .pv (bds l))] [] (shp SS EE 80 r.1).ex (openE (nm r.2) (shp SS EE 80 r.1).e) (openH (nm r.2) (shp SS EE 80 r.1).h) := by
  obtain ⟨h1, h2⟩ := ev_sound h ⟨by kernel_rfl, fun p hp => by
    simp only [List.mem_cons, List.not_mem_nil, or_false] at hp
    rcases hp with rfl | rfl | rfl | rfl
    · exact .lit _
    · exact .lit _
    · exact ns_bds l
    · exact ns_bds l, by
    have : (EE 80).rin = [] := by kernel_rfl
    show Good _ (EE 80).rin
    rw [this]; intro i hi; cases hi⟩
  unfold SemQ at h1
  have hlp : (EE 80).lp = some (0, 0) := by kernel_rfl
  rw [show (q6b0a (iv 0) (iv l.length) (bds l) (bds l)).k = 80 from rfl, hlp] at h1
  have h3 := h1 Try.f6 (by kernel_rfl)
  exact h3
theorem gOut_ns (G : List (List Nat)) : NS (gOut G) := by
  unfold gOut
  split
  · exact .lit _
  · exact ns_nss G
theorem law_sem (l : List Bd) (hl : l.length ≤ 1000000) (ht : ∀ x ∈ l, x.e.tot ≤ 1000000) : Sem Try.prog 6 [.pv (bds l)] [] (.pv (bv true)) [] := by
  have sa := awake_sem
  refine F6 (bds l) (nsl1 (ns_bds l)) ?_
  unfold T6
  rw [Den]
  refine .inl ?_
  rw [Den, exN]
  refine ⟨⟨sa, trivial, trivial⟩, ?_⟩
  rw [Den, exN]
  refine ⟨iv l.length, ?_⟩
  rw [exN]
  refine ⟨⟨(len_bds l).2 rfl, ?_⟩, by simp⟩
  rw [Den]
  by_cases h0 : 20 < (l.length : Int)
  · refine .inl ?_
    rw [Den, exN]
    refine ⟨bin_gtr.2 (by simp [h0]), ?_⟩
    rw [Den]
    exact ⟨rfl, by simp only [TsA], trivial⟩
  · refine .inr ?_
    rw [Den, exN]
    refine ⟨bin_gtr.2 (by simp [h0]), ?_⟩
    have hl20 : l.length ≤ 100000 := by omega
    have hlo := law_loop l hl ht l 0 rfl
    simp only [Int.natCast_zero, Int.ofNat_zero] at hlo
    rw [Den]
    rcases hlo with hlo | hlo
    · have g3 := loop6 l _ hlo
      have hb : BlkS Try.prog Try.f6 0 [(15, .pv (iv 0)), (14, .pv (iv l.length)), (13, .pv (bds l)), (0, .pv (bds l))] [] .ret [(2, .pv (bv true))] [] := LoopS.blockRet f6_loop0 (by simp) g3
      refine .inr ?_
      rw [Den]
      refine .inl ?_
      rw [Den, exN]
      refine ⟨⟨hb, trivial, trivial⟩, ?_⟩
      rw [Den]
      exact ⟨rfl, by simp only [TsA], trivial⟩
    · have g3 := loop6 l _ hlo
      have hb : BlkS Try.prog Try.f6 0 [(15, .pv (iv 0)), (14, .pv (iv l.length)), (13, .pv (bds l)), (0, .pv (bds l))] [] .normal [(0, .pv (bds l))] [] := LoopS.block f6_loop0 (by simp) g3
      obtain ⟨N, hN, hr⟩ := needs_N l
      have hs := needs_sml l hl20 ht
      have s14 := sem14 l hl ht
      have s15 := sem_nds (fun M base n => says_all M base n) l ⟨by omega, fun x hx => by have := ht x hx; omega⟩ (ns_bds l)
      have s16 := sem16 l hl20 ht hN hr
      have e15 : (PV.rows (iss (needsL l))) = nss N := by rw [hN]; exact zss_zof N
      rw [hN, zss_zof] at s14
      rw [e15] at s15
      rw [hN] at hs
      have s10 := sem10 hs hr
      have hB := hs.bnd hr
      have hlN := hs.len
      have s11 := sem11 (ns_nss N) (ns_nss N) (same_self N (by simpa using (show N.length ≤ 1000000000 by have := hs.len; simp at this; omega)) (fun g hg => by
        have := hs.row (zof g) (List.mem_map_of_mem hg)
        simpa [zof] using this))
      have s11b := sem11 (gOut_ns (groupsR N)) (ns_nss (groupsR N)) (same_g hB)
      refine .inl ?_
      rw [Den, exN]
      refine ⟨⟨hb, trivial, trivial⟩, ?_⟩
      rw [Den]
      simp only [exN, List.append_assoc, List.cons_append, List.nil_append]
      refine ⟨nss N, ⟨⟨s14, trivial, trivial⟩, ?_⟩, by simp⟩
      rw [Den]
      refine .inl ?_
      rw [Den]
      simp only [exN, List.append_assoc, List.cons_append, List.nil_append]
      refine ⟨nss (groupsR N), ⟨⟨s10, trivial, trivial⟩, ?_⟩, by simp⟩
      rw [Den]
      simp only [exN, List.append_assoc, List.cons_append, List.nil_append]
      refine ⟨nss N, ⟨⟨s15, trivial, trivial⟩, ?_⟩, by simp⟩
      rw [Den]
      refine .inl ?_
      rw [Den, exN]
      refine ⟨⟨s11, trivial, trivial⟩, ?_⟩
      rw [Den]
      simp only [exN, List.append_assoc, List.cons_append, List.nil_append]
      refine ⟨gOut (groupsR N), ⟨⟨s16, trivial, trivial⟩, ?_⟩, gOut_ns _⟩
      rw [Den]
      refine .inl ?_
      rw [Den, exN]
      refine ⟨⟨s11b, trivial, trivial⟩, ?_⟩
      rw [Den]
      exact ⟨rfl, by simp only [TsA], trivial⟩

/-- All that the world holds. -/
abbrev KwR : Nat → PV := fun _ => .any
abbrev KwM (w : World) : Nat → Nat → Option Value := fun g o => w.cell? ⟨g, o, none⟩
def Kw (w : World) : Kn := ⟨KwM w, fun _ => 0, fun _ => 0, fun _ => none, KwR, fun _ => 0, fun b cs h => by cases h⟩
theorem WR.world (w : World) : WR (Kw w) [] w := by
  refine ⟨fun _ _ => rfl, (fun i hi => by simp at hi), (fun i g h => by cases h), (fun i ty cells h => by simp at h), (fun i ks vs h => by simp at h), (fun i ty sz len h => by simp at h), (fun i j x y g h => by simp at h), (fun i ty cells g h => by simp at h), fun g o v h => h, (fun i ty sz p h => by simp at h)⟩
def AllR (w : World) (ps : List PV) (cs : List Value) : Prop := ps.length = cs.length ∧ ∀ i (h : i < ps.length) (h' : i < cs.length), PR KwR (KwM w) ps[i] cs[i]
section
variable {H : Type} {enc : TypeId × Value → H} {P : Program} {w : World} {held : Bool}
abbrev rd (enc : TypeId × Value → H) (P : Program) (w : World) (held : Bool) (n : Nat) (t : TypeId) (cs : List Value) (d : DataW H) : Prop := (∃ q, DataW.trod enc P w 0 (fun _ => true) held n t cs = some (d, q)) ∧ Rows.uptoBulk d ≤ 1048576
theorem bulkAll_sum {α : Type} (size : α → Nat) : ∀ (l : List α) (ds : List (DataW H)), l.length = ds.length → (∀ i (h : i < l.length) (h' : i < ds.length), size l[i] ≤ Rows.uptoBulk ds[i]) → (l.map size).sum ≤ Rows.uptoBulkAll ds
  | [], [], _, _ => by simp [Rows.uptoBulkAll]
  | a :: l, d :: ds, hl, h => by
    have h0 := h 0 (by simp) (by simp)
    have := bulkAll_sum size l ds (by simpa using hl) (fun i hi hi' => by
      have := h (i + 1) (by simpa using hi) (by simpa using hi')
      simpa using this)
    simp only [List.map_cons, List.sum_cons, Rows.uptoBulkAll]
    simp only [List.getElem_cons_zero] at h0
    omega
  | [], _ :: _, hl, _ => by simp at hl
  | _ :: _, [], hl, _ => by simp at hl
theorem bulk_mem : ∀ (ds : List (DataW H)) (i : Nat) (h : i < ds.length), Rows.uptoBulk ds[i] ≤ Rows.uptoBulkAll ds
  | [], _, h => by simp at h
  | d :: ds, 0, _ => by simp only [List.getElem_cons_zero, Rows.uptoBulkAll]; omega
  | d :: ds, i + 1, h => by
    have := bulk_mem ds i (by simpa using h)
    simp only [List.getElem_cons_succ, Rows.uptoBulkAll]; omega
/-- A slice. -/
theorem rd_sliceS {α : Type} (cells : α → List PV) (Q : α → Prop) (size : α → Nat) {t e : TypeId} {sz n : Nat} {cs : List Value} {d : DataW H} (ht : P.underlying t = some (.slice e)) (hsz : P.cellsOf e = sz) (hpos : 0 < sz) (hc : ∀ x, (cells x).length = sz)
    (he : ∀ m cs d, m < n → rd enc P w held m e cs d → ∃ x, AllR w (cells x) cs ∧ Q x ∧ size x ≤ Rows.uptoBulk d) (h : rd enc P w held n t cs d) :
    ∃ (l : List α) (c : Value), cs = [c] ∧ PR KwR (KwM w) (.rows (l.map cells)) c ∧ l.length ≤ maxN ∧ (l.map size).sum + 1 ≤ Rows.uptoBulk d ∧ ∀ x ∈ l, Q x := by
  obtain ⟨⟨q, h⟩, hbk⟩ := h
  rcases DataW.trod_slice ht h with ⟨rfl, hx⟩ | ⟨a, len, cap, elems, rest, m, rfl, rfl, hx, _, hl, hcap, hel, hat, _, _⟩
  · cases hx
    exact ⟨[], _, rfl, PR.nilRow, Nat.zero_le _, by simp [Rows.uptoBulk], fun x hx => by cases hx⟩
  · cases hx
    have hbk2 := hbk
    simp only [Rows.uptoBulk] at hbk2
    have key : ∀ i : Fin len, ∃ x : α, ∃ us : List Value, w.cells? 0 (a.add (i * sz)) sz = some us ∧ AllR w (cells x) us ∧ Q x ∧ ∃ (hi : i < elems.length), size x ≤ Rows.uptoBulk elems[i].1 := by
      intro i
      have := hat i i.2
      rw [hsz, List.getElem?_eq_getElem (by rw [hel]; exact i.2)] at this
      simp only [Option.bind_eq_some_iff] at this
      obtain ⟨us, h1, h2⟩ := this
      have hie : (i : Nat) < elems.length := by rw [hel]; exact i.2
      have hbm := bulk_mem (elems.map (·.1)) i (by simpa using hie)
      simp only [List.getElem_map] at hbm
      obtain ⟨x, h3, h4, h5⟩ := he m us _ (by omega) ⟨⟨_, h2⟩, Nat.le_trans hbm (by omega)⟩
      exact ⟨x, us, h1, h3, h4, hie, h5⟩
    let g : Fin len → α := fun i => (key i).choose
    have hg : ∀ i : Fin len, ∃ us : List Value, w.cells? 0 (a.add (i * sz)) sz = some us ∧ AllR w (cells (g i)) us ∧ Q (g i) ∧ ∃ (hi : i < elems.length), size (g i) ≤ Rows.uptoBulk elems[i].1 := fun i => (key i).choose_spec
    refine ⟨List.ofFn g, _, rfl, ?_, ?_, ?_, ?_⟩
    · have hspot : ∀ i : Nat, i < len → ∀ j, j < sz → (a.add (i * sz)).add j = ⟨a.block, a.off + i * sz + j, none⟩ := by
        intro i hi j hj
        have hsp : a.spot = none := by
          obtain ⟨us, h1, _⟩ := hg ⟨0, by omega⟩
          obtain ⟨_, hlen, hcell⟩ := World.cells?_some h1
          have := hcell 0 hpos
          have hlt : 0 < us.length := by omega
          rw [List.getElem?_eq_getElem hlt] at this
          simp only [Nat.zero_mul, Addr.add, if_true, World.cell?] at this
          split at this
          · split at this
            · cases this
            · rename_i hs
              cases hsp : a.spot with
              | none => rfl
              | some x => rw [hsp] at hs; simp at hs
          · cases this
        obtain ⟨b, o, sp⟩ := a
        simp only at hsp
        subst hsp
        unfold Addr.add
        by_cases h1 : i * sz = 0
        · by_cases h2 : j = 0
          · simp [h1, h2]
          · simp [h1, h2]
        · by_cases h2 : j = 0
          · simp [h1, h2]
          · simp [h1, h2]
      have hcs : ∀ i : Nat, ∀ hi : i < len, ∃ us : List Value, us.length = sz ∧ AllR w (cells (g ⟨i, hi⟩)) us ∧ ∀ j, j < sz → w.cell? ⟨a.block, a.off + i * sz + j, none⟩ = us[j]? := by
        intro i hi
        obtain ⟨us, h1, h2, _⟩ := hg ⟨i, hi⟩
        obtain ⟨_, hlen, hcell⟩ := World.cells?_some h1
        exact ⟨us, hlen, h2, fun j hj => by rw [← hspot i hi j hj]; exact hcell j hj⟩
      have hlen : (List.ofFn g).length = len := by simp
      have := PR.rows (R := KwR) (M := (KwM w)) ((List.ofFn g).map cells) (some a) cap a.block a.off sz (fun i j => if hi : i < len then (hcs i hi).choose.getD j (.bool false) else .bool false)
        (fun hne => by
          have hl0 : 0 < len := by
            cases len with
            | zero => simp at hne
            | succ _ => omega
          have := hspot 0 hl0 0 hpos
          simp [Addr.add] at this
          rw [this]) (by simpa using hl) (fun i hi => by simp [hc]) ?_ ?_
      · simpa using this
      · intro i hi j hj
        have hi' : i < len := by simpa using hi
        simp only [hi', dif_pos]
        obtain ⟨h1, h2, h3⟩ := (hcs i hi').choose_spec
        show w.cell? _ = _
        rw [h3 j hj, List.getD_eq_getElem?_getD, List.getElem?_eq_getElem (by omega)]
        rfl
      · intro i hi j hj
        have hi' : i < len := by simpa using hi
        simp only [hi', dif_pos]
        obtain ⟨h1, h2, h3⟩ := (hcs i hi').choose_spec
        have hj' : j < sz := by simpa [hc] using hj
        have := h2.2 j (by rw [hc]; exact hj') (by omega)
        simp only [List.getElem_map, List.getElem_ofFn]
        rw [List.getD_eq_getElem?_getD, List.getElem?_eq_getElem (by omega)]
        exact this
    · simp only [List.length_ofFn]
      have : maxLen = maxN := rfl
      omega
    · have := bulkAll_sum size (List.ofFn g) (elems.map (·.1)) (by simp [hel]) (fun i hi hi' => by
        obtain ⟨us, _, _, _, h4, h5⟩ := hg ⟨i, by simpa using hi⟩
        simpa using h5)
      simp only [Rows.uptoBulk]
      omega
    · intro x hx
      obtain ⟨i, rfl⟩ := List.mem_ofFn.1 hx
      obtain ⟨_, _, _, h4, _⟩ := hg i
      exact h4
def stB (P : Program) (t : TypeId) (l : List (Nat × Nat × Nat)) : Bool := match P.underlying t with
  | some (.struct fs) => decide (fs.toList.map (fun f => (f.type, f.offset, P.cellsOf f.type)) = l)
  | _ => false
theorem rd_struct {t : TypeId} {l : List (Nat × Nat × Nat)} {n : Nat} {cs : List Value} {d : DataW H} (hs : stB P t l = true) (h : rd enc P w held n t cs d) :
    ∃ (ds : List (DataW H)) (m : Nat), n = m + 1 ∧ d = .agg ds ∧ cs.length = P.cellsOf t ∧ ds.length = l.length ∧ ∀ i ty off c, l[i]? = some (ty, off, c) → ∃ (hi : i < ds.length), rd enc P w held m ty ((cs.drop off).take c) ds[i] := by
  unfold stB at hs
  split at hs
  · rename_i fs hfs
    have hs := of_decide_eq_true hs
    obtain ⟨⟨q, h⟩, hbk⟩ := h
    obtain ⟨xs, m, hm, hx, hl, hlen, hf⟩ := DataW.trod_struct hfs h
    cases hx
    have hbk2 := hbk
    simp only [Rows.uptoBulk] at hbk2
    have hll : l.length = fs.size := by rw [← hs]; simp
    refine ⟨_, m, hm, rfl, hl, by simp [hlen, hll], fun i ty off c hi => ?_⟩
    rw [← hs, List.getElem?_map] at hi
    obtain ⟨f, hf1, hf2⟩ := map_some' hi
    simp only [Prod.mk.injEq] at hf2
    obtain ⟨e1, e2, e3⟩ := hf2
    have hlt : i < xs.length := by
      have : i < fs.toList.length := lt_of_get hf1
      rw [hlen]; simpa using this
    have := hf i f (by simpa using hf1)
    rw [List.getElem?_eq_getElem hlt] at this
    have hbm := bulk_mem (xs.map (·.1)) i (by simpa using hlt)
    refine ⟨by simpa using hlt, ⟨xs[i].2, ?_⟩, by omega⟩
    rw [← e1, ← e2, ← e3]
    simpa using this
  · cases hs
end
section
variable {H : Type} {enc : TypeId × Value → H} {w : World} {held : Bool} {n : Nat} {cs : List Value} {d : DataW H}
theorem AllR.nil : AllR w [] [] := ⟨rfl, fun i h => by simp at h⟩
theorem AllR.cons {p : PV} {v : Value} {ps : List PV} {vs : List Value} (h : PR KwR (KwM w) p v) (hl : AllR w ps vs) : AllR w (p :: ps) (v :: vs) := by
  refine ⟨by simp [hl.1], fun i hi hi' => ?_⟩
  cases i with
  | zero => exact h
  | succ i => exact hl.2 i (by simpa using hi) (by simpa using hi')
theorem AllR.append {ps qs : List PV} {vs us : List Value} (h : AllR w ps vs) (h' : AllR w qs us) : AllR w (ps ++ qs) (vs ++ us) := by
  refine ⟨by simp [h.1, h'.1], fun i hi hi' => ?_⟩
  by_cases hl : i < ps.length
  · have hl' : i < vs.length := by rw [← h.1]; exact hl
    rw [List.getElem_append_left hl, List.getElem_append_left hl']
    exact h.2 i hl hl'
  · have e := h.1
    rw [List.getElem_append_right (by omega), List.getElem_append_right (by omega)]
    have := h'.2 (i - ps.length) (by rw [List.length_append] at hi; omega) (by rw [List.length_append] at hi'; omega)
    simpa only [e] using this
theorem AllR.step (off c : Nat) {ps qs : List PV} (h : AllR w ps ((cs.drop off).take c)) (ht : AllR w qs (cs.drop (off + c))) : AllR w (ps ++ qs) (cs.drop off) := by
  rw [← List.take_append_drop c (cs.drop off), List.drop_drop]
  exact AllR.append h ht
theorem AllR.fin {k : Nat} (h : cs.length = k) : AllR w [] (cs.drop k) := by
  rw [List.drop_eq_nil_of_le (by omega)]
  exact AllR.nil
theorem u_int : Try.prog.underlying 3 = some (.int .i64) := by kernel_rfl
theorem u_int64 : Try.prog.underlying 2 = some (.int .i64) := by kernel_rfl
theorem ud_str : Try.prog.underlying 9 = some .string := by kernel_rfl
theorem u_strs : Try.prog.underlying 55 = some (.slice 9) := by kernel_rfl
theorem rdi {t : TypeId} (ht : Try.prog.underlying t = some (.int .i64)) (h : rd enc Try.prog w held n t cs d) : ∃ k : Int, AllR w [iv k] cs ∧ 1 ≤ Rows.uptoBulk d := by
  obtain ⟨⟨q, h⟩, _⟩ := h
  obtain ⟨k, rfl, hx, _⟩ := DataW.trod_int ht h
  cases hx
  exact ⟨k, .cons (.lit _ rfl) .nil, by simp [Rows.uptoBulk]⟩
theorem rds (h : rd enc Try.prog w held n 9 cs d) : ∃ s : ByteArray, AllR w [sv s] cs ∧ s.size + 1 ≤ Rows.uptoBulk d := by
  obtain ⟨⟨q, h⟩, _⟩ := h
  obtain ⟨s, rfl, hx, _⟩ := DataW.trod_string ud_str h
  cases hx
  exact ⟨s, .cons (.lit _ rfl) .nil, by show s.size + 1 ≤ s.data.toList.length + 1; rw [Array.length_toList]; exact Nat.le_refl _⟩
theorem rdl {α : Type} (cells : α → List PV) (size : α → Nat) {t e : TypeId} {sz : Nat} (ht : Try.prog.underlying t = some (.slice e)) (hsz : Try.prog.cellsOf e = sz) (hpos : 0 < sz) (hc : ∀ x, (cells x).length = sz)
    (he : ∀ m cs d, m < n → rd enc Try.prog w held m e cs d → ∃ x, AllR w (cells x) cs ∧ size x ≤ Rows.uptoBulk d) (h : rd enc Try.prog w held n t cs d) :
    ∃ l : List α, AllR w [.rows (l.map cells)] cs ∧ (l.map size).sum + 1 ≤ Rows.uptoBulk d := by
  obtain ⟨l, c, rfl, h1, h2, h3, h4⟩ := rd_sliceS cells (fun _ => True) size ht hsz hpos hc (fun m cs d hm h => by
    obtain ⟨x, h1, h2⟩ := he m cs d hm h
    exact ⟨x, h1, trivial, h2⟩) h
  exact ⟨l, .cons h1 .nil, h3⟩
def szS : List ByteArray → Nat
  | [] => 0
  | s :: l => s.size + 1 + szS l
theorem szS_eq : ∀ l, szS l = (l.map fun s : ByteArray => s.size + 1).sum
  | [] => by rw [szS]; rfl
  | s :: l => by rw [szS, szS_eq l]; rfl
theorem szS_len : ∀ l, l.length ≤ szS l
  | [] => Nat.zero_le _
  | s :: l => by have := szS_len l; rw [szS, List.length_cons]; omega
theorem rdss (h : rd enc Try.prog w held n 55 cs d) : ∃ l : List ByteArray, AllR w [strs l] cs ∧ szS l + 1 ≤ Rows.uptoBulk d := by
  obtain ⟨l, h1, h2⟩ := rdl (fun s : ByteArray => [sv s]) (fun s => s.size + 1) (sz := 1) u_strs (by kernel_rfl) (by decide) (fun _ => rfl) (fun m cs d _ h => rds h) h
  exact ⟨l, h1, by rw [szS_eq]; exact h2⟩
theorem bulk_fields2 {ds : List (DataW H)} (hl : ds.length = 2) {a0 a1 : Nat} {i0 : 0 < ds.length} {i1 : 1 < ds.length} (s0 : a0 ≤ Rows.uptoBulk ds[0]) (s1 : a1 ≤ Rows.uptoBulk ds[1]) : a0 + a1 + 1 ≤ Rows.uptoBulk (.agg ds) := by
  match ds, hl with
  | [d0, d1], _ =>
    simp only [Rows.uptoBulk, Rows.uptoBulkAll]
    simp only [List.getElem_cons_zero, List.getElem_cons_succ] at s0 s1
    omega
theorem bulk_fields3 {ds : List (DataW H)} (hl : ds.length = 3) {a0 a1 a2 : Nat} {i0 : 0 < ds.length} {i1 : 1 < ds.length} {i2 : 2 < ds.length} (s0 : a0 ≤ Rows.uptoBulk ds[0]) (s1 : a1 ≤ Rows.uptoBulk ds[1]) (s2 : a2 ≤ Rows.uptoBulk ds[2]) : a0 + a1 + a2 + 1 ≤ Rows.uptoBulk (.agg ds) := by
  match ds, hl with
  | [d0, d1, d2], _ =>
    simp only [Rows.uptoBulk, Rows.uptoBulkAll]
    simp only [List.getElem_cons_zero, List.getElem_cons_succ] at s0 s1 s2
    omega
theorem bulk_fields4 {ds : List (DataW H)} (hl : ds.length = 4) {a0 a1 a2 a3 : Nat} {i0 : 0 < ds.length} {i1 : 1 < ds.length} {i2 : 2 < ds.length} {i3 : 3 < ds.length} (s0 : a0 ≤ Rows.uptoBulk ds[0]) (s1 : a1 ≤ Rows.uptoBulk ds[1]) (s2 : a2 ≤ Rows.uptoBulk ds[2]) (s3 : a3 ≤ Rows.uptoBulk ds[3]) : a0 + a1 + a2 + a3 + 1 ≤ Rows.uptoBulk (.agg ds) := by
  match ds, hl with
  | [d0, d1, d2, d3], _ =>
    simp only [Rows.uptoBulk, Rows.uptoBulkAll]
    simp only [List.getElem_cons_zero, List.getElem_cons_succ] at s0 s1 s2 s3
    omega
theorem bulk_fields5 {ds : List (DataW H)} (hl : ds.length = 5) {a0 a1 a2 a3 a4 : Nat} {i0 : 0 < ds.length} {i1 : 1 < ds.length} {i2 : 2 < ds.length} {i3 : 3 < ds.length} {i4 : 4 < ds.length} (s0 : a0 ≤ Rows.uptoBulk ds[0]) (s1 : a1 ≤ Rows.uptoBulk ds[1]) (s2 : a2 ≤ Rows.uptoBulk ds[2]) (s3 : a3 ≤ Rows.uptoBulk ds[3]) (s4 : a4 ≤ Rows.uptoBulk ds[4]) : a0 + a1 + a2 + a3 + a4 + 1 ≤ Rows.uptoBulk (.agg ds) := by
  match ds, hl with
  | [d0, d1, d2, d3, d4], _ =>
    simp only [Rows.uptoBulk, Rows.uptoBulkAll]
    simp only [List.getElem_cons_zero, List.getElem_cons_succ] at s0 s1 s2 s3 s4
    omega
theorem bulk_fields6 {ds : List (DataW H)} (hl : ds.length = 6) {a0 a1 a2 a3 a4 a5 : Nat} {i0 : 0 < ds.length} {i1 : 1 < ds.length} {i2 : 2 < ds.length} {i3 : 3 < ds.length} {i4 : 4 < ds.length} {i5 : 5 < ds.length} (s0 : a0 ≤ Rows.uptoBulk ds[0]) (s1 : a1 ≤ Rows.uptoBulk ds[1]) (s2 : a2 ≤ Rows.uptoBulk ds[2]) (s3 : a3 ≤ Rows.uptoBulk ds[3]) (s4 : a4 ≤ Rows.uptoBulk ds[4]) (s5 : a5 ≤ Rows.uptoBulk ds[5]) : a0 + a1 + a2 + a3 + a4 + a5 + 1 ≤ Rows.uptoBulk (.agg ds) := by
  match ds, hl with
  | [d0, d1, d2, d3, d4, d5], _ =>
    simp only [Rows.uptoBulk, Rows.uptoBulkAll]
    simp only [List.getElem_cons_zero, List.getElem_cons_succ] at s0 s1 s2 s3 s4 s5
    omega
theorem bulk_fields7 {ds : List (DataW H)} (hl : ds.length = 7) {a0 a1 a2 a3 a4 a5 a6 : Nat} {i0 : 0 < ds.length} {i1 : 1 < ds.length} {i2 : 2 < ds.length} {i3 : 3 < ds.length} {i4 : 4 < ds.length} {i5 : 5 < ds.length} {i6 : 6 < ds.length} (s0 : a0 ≤ Rows.uptoBulk ds[0]) (s1 : a1 ≤ Rows.uptoBulk ds[1]) (s2 : a2 ≤ Rows.uptoBulk ds[2]) (s3 : a3 ≤ Rows.uptoBulk ds[3]) (s4 : a4 ≤ Rows.uptoBulk ds[4]) (s5 : a5 ≤ Rows.uptoBulk ds[5]) (s6 : a6 ≤ Rows.uptoBulk ds[6]) : a0 + a1 + a2 + a3 + a4 + a5 + a6 + 1 ≤ Rows.uptoBulk (.agg ds) := by
  match ds, hl with
  | [d0, d1, d2, d3, d4, d5, d6], _ =>
    simp only [Rows.uptoBulk, Rows.uptoBulkAll]
    simp only [List.getElem_cons_zero, List.getElem_cons_succ] at s0 s1 s2 s3 s4 s5 s6
    omega
theorem bulk_fields8 {ds : List (DataW H)} (hl : ds.length = 8) {a0 a1 a2 a3 a4 a5 a6 a7 : Nat} {i0 : 0 < ds.length} {i1 : 1 < ds.length} {i2 : 2 < ds.length} {i3 : 3 < ds.length} {i4 : 4 < ds.length} {i5 : 5 < ds.length} {i6 : 6 < ds.length} {i7 : 7 < ds.length} (s0 : a0 ≤ Rows.uptoBulk ds[0]) (s1 : a1 ≤ Rows.uptoBulk ds[1]) (s2 : a2 ≤ Rows.uptoBulk ds[2]) (s3 : a3 ≤ Rows.uptoBulk ds[3]) (s4 : a4 ≤ Rows.uptoBulk ds[4]) (s5 : a5 ≤ Rows.uptoBulk ds[5]) (s6 : a6 ≤ Rows.uptoBulk ds[6]) (s7 : a7 ≤ Rows.uptoBulk ds[7]) : a0 + a1 + a2 + a3 + a4 + a5 + a6 + a7 + 1 ≤ Rows.uptoBulk (.agg ds) := by
  match ds, hl with
  | [d0, d1, d2, d3, d4, d5, d6, d7], _ =>
    simp only [Rows.uptoBulk, Rows.uptoBulkAll]
    simp only [List.getElem_cons_zero, List.getElem_cons_succ] at s0 s1 s2 s3 s4 s5 s6 s7
    omega
theorem bulk_fields9 {ds : List (DataW H)} (hl : ds.length = 9) {a0 a1 a2 a3 a4 a5 a6 a7 a8 : Nat} {i0 : 0 < ds.length} {i1 : 1 < ds.length} {i2 : 2 < ds.length} {i3 : 3 < ds.length} {i4 : 4 < ds.length} {i5 : 5 < ds.length} {i6 : 6 < ds.length} {i7 : 7 < ds.length} {i8 : 8 < ds.length} (s0 : a0 ≤ Rows.uptoBulk ds[0]) (s1 : a1 ≤ Rows.uptoBulk ds[1]) (s2 : a2 ≤ Rows.uptoBulk ds[2]) (s3 : a3 ≤ Rows.uptoBulk ds[3]) (s4 : a4 ≤ Rows.uptoBulk ds[4]) (s5 : a5 ≤ Rows.uptoBulk ds[5]) (s6 : a6 ≤ Rows.uptoBulk ds[6]) (s7 : a7 ≤ Rows.uptoBulk ds[7]) (s8 : a8 ≤ Rows.uptoBulk ds[8]) : a0 + a1 + a2 + a3 + a4 + a5 + a6 + a7 + a8 + 1 ≤ Rows.uptoBulk (.agg ds) := by
  match ds, hl with
  | [d0, d1, d2, d3, d4, d5, d6, d7, d8], _ =>
    simp only [Rows.uptoBulk, Rows.uptoBulkAll]
    simp only [List.getElem_cons_zero, List.getElem_cons_succ] at s0 s1 s2 s3 s4 s5 s6 s7 s8
    omega
theorem bulk_fields10 {ds : List (DataW H)} (hl : ds.length = 10) {a0 a1 a2 a3 a4 a5 a6 a7 a8 a9 : Nat} {i0 : 0 < ds.length} {i1 : 1 < ds.length} {i2 : 2 < ds.length} {i3 : 3 < ds.length} {i4 : 4 < ds.length} {i5 : 5 < ds.length} {i6 : 6 < ds.length} {i7 : 7 < ds.length} {i8 : 8 < ds.length} {i9 : 9 < ds.length} (s0 : a0 ≤ Rows.uptoBulk ds[0]) (s1 : a1 ≤ Rows.uptoBulk ds[1]) (s2 : a2 ≤ Rows.uptoBulk ds[2]) (s3 : a3 ≤ Rows.uptoBulk ds[3]) (s4 : a4 ≤ Rows.uptoBulk ds[4]) (s5 : a5 ≤ Rows.uptoBulk ds[5]) (s6 : a6 ≤ Rows.uptoBulk ds[6]) (s7 : a7 ≤ Rows.uptoBulk ds[7]) (s8 : a8 ≤ Rows.uptoBulk ds[8]) (s9 : a9 ≤ Rows.uptoBulk ds[9]) : a0 + a1 + a2 + a3 + a4 + a5 + a6 + a7 + a8 + a9 + 1 ≤ Rows.uptoBulk (.agg ds) := by
  match ds, hl with
  | [d0, d1, d2, d3, d4, d5, d6, d7, d8, d9], _ =>
    simp only [Rows.uptoBulk, Rows.uptoBulkAll]
    simp only [List.getElem_cons_zero, List.getElem_cons_succ] at s0 s1 s2 s3 s4 s5 s6 s7 s8 s9
    omega
end

mutual
def Ty.size : Ty → Nat
  | .mk v0 v1 v2 v3 => 1 + (v1.size + 1) + 1 + (Ty.sizes v3 + 1) + 1
def Ty.sizes : List Ty → Nat
  | [] => 0
  | v :: l => v.size + Ty.sizes l
end
theorem Ty.size_eq (x : Ty) : x.size = 1 + (x.name.size + 1) + 1 + (Ty.sizes x.kids + 1) + 1 := by cases x; rw [Ty.size]; rfl
theorem Ty.sizes_eq : ∀ l, Ty.sizes l = (l.map Ty.size).sum
  | [] => by rw [Ty.sizes]; rfl
  | v :: l => by rw [Ty.sizes, Ty.sizes_eq l]; rfl
theorem Ty.size_pos (x : Ty) : 1 ≤ x.size := by rw [Ty.size_eq]; omega
theorem Ty.len_le : ∀ l : List Ty, l.length ≤ Ty.sizes l
  | [] => Nat.zero_le _
  | v :: l => by have := Ty.len_le l; have := v.size_pos; rw [Ty.sizes, List.length_cons]; omega
theorem Ty.mem_le : ∀ {l : List Ty} {x : Ty}, x ∈ l → x.size ≤ Ty.sizes l
  | v :: l, x, h => by
    rw [Ty.sizes]
    rcases List.mem_cons.1 h with rfl | h
    · omega
    · have := Ty.mem_le h; omega
mutual
def Pt.size : Pt → Nat
  | .mk v0 v1 v2 v3 v4 => 1 + (v1.size + 1) + 1 + (Pt.sizes v3 + 1) + 1 + 1
def Pt.sizes : List Pt → Nat
  | [] => 0
  | v :: l => v.size + Pt.sizes l
end
theorem Pt.size_eq (x : Pt) : x.size = 1 + (x.name.size + 1) + 1 + (Pt.sizes x.kids + 1) + 1 + 1 := by cases x; rw [Pt.size]; rfl
theorem Pt.sizes_eq : ∀ l, Pt.sizes l = (l.map Pt.size).sum
  | [] => by rw [Pt.sizes]; rfl
  | v :: l => by rw [Pt.sizes, Pt.sizes_eq l]; rfl
theorem Pt.size_pos (x : Pt) : 1 ≤ x.size := by rw [Pt.size_eq]; omega
theorem Pt.len_le : ∀ l : List Pt, l.length ≤ Pt.sizes l
  | [] => Nat.zero_le _
  | v :: l => by have := Pt.len_le l; have := v.size_pos; rw [Pt.sizes, List.length_cons]; omega
theorem Pt.mem_le : ∀ {l : List Pt} {x : Pt}, x ∈ l → x.size ≤ Pt.sizes l
  | v :: l, x, h => by
    rw [Pt.sizes]
    rcases List.mem_cons.1 h with rfl | h
    · omega
    · have := Pt.mem_le h; omega
mutual
def Ex.size : Ex → Nat
  | .mk v0 v1 v2 v3 v4 v5 v6 v7 => 1 + (v1.size + 1) + 1 + Ty.size v3 + (Ex.sizes v4 + 1) + (Al.sizes v5 + 1) + (Bd.sizes v6 + 1) + 1 + 1
def Al.size : Al → Nat
  | .mk v0 v1 => Pt.size v0 + Ex.size v1 + 1
def Bd.size : Bd → Nat
  | .mk v0 v1 v2 => (v0.size + 1) + Ex.size v1 + 1 + 1
def Ex.sizes : List Ex → Nat
  | [] => 0
  | v :: l => v.size + Ex.sizes l
def Al.sizes : List Al → Nat
  | [] => 0
  | v :: l => v.size + Al.sizes l
def Bd.sizes : List Bd → Nat
  | [] => 0
  | v :: l => v.size + Bd.sizes l
end
theorem Ex.size_eq (x : Ex) : x.size = 1 + (x.name.size + 1) + 1 + Ty.size x.t + (Ex.sizes x.kids + 1) + (Al.sizes x.alts + 1) + (Bd.sizes x.binds + 1) + 1 + 1 := by cases x; rw [Ex.size]; rfl
theorem Ex.sizes_eq : ∀ l, Ex.sizes l = (l.map Ex.size).sum
  | [] => by rw [Ex.sizes]; rfl
  | v :: l => by rw [Ex.sizes, Ex.sizes_eq l]; rfl
theorem Ex.size_pos (x : Ex) : 1 ≤ x.size := by rw [Ex.size_eq]; omega
theorem Ex.len_le : ∀ l : List Ex, l.length ≤ Ex.sizes l
  | [] => Nat.zero_le _
  | v :: l => by have := Ex.len_le l; have := v.size_pos; rw [Ex.sizes, List.length_cons]; omega
theorem Ex.mem_le : ∀ {l : List Ex} {x : Ex}, x ∈ l → x.size ≤ Ex.sizes l
  | v :: l, x, h => by
    rw [Ex.sizes]
    rcases List.mem_cons.1 h with rfl | h
    · omega
    · have := Ex.mem_le h; omega
theorem Al.size_eq (x : Al) : x.size = Pt.size x.p + Ex.size x.e + 1 := by cases x; rw [Al.size]; rfl
theorem Al.sizes_eq : ∀ l, Al.sizes l = (l.map Al.size).sum
  | [] => by rw [Al.sizes]; rfl
  | v :: l => by rw [Al.sizes, Al.sizes_eq l]; rfl
theorem Al.size_pos (x : Al) : 1 ≤ x.size := by rw [Al.size_eq]; omega
theorem Al.len_le : ∀ l : List Al, l.length ≤ Al.sizes l
  | [] => Nat.zero_le _
  | v :: l => by have := Al.len_le l; have := v.size_pos; rw [Al.sizes, List.length_cons]; omega
theorem Al.mem_le : ∀ {l : List Al} {x : Al}, x ∈ l → x.size ≤ Al.sizes l
  | v :: l, x, h => by
    rw [Al.sizes]
    rcases List.mem_cons.1 h with rfl | h
    · omega
    · have := Al.mem_le h; omega
theorem Bd.size_eq (x : Bd) : x.size = (x.name.size + 1) + Ex.size x.e + 1 + 1 := by cases x; rw [Bd.size]; rfl
theorem Bd.sizes_eq : ∀ l, Bd.sizes l = (l.map Bd.size).sum
  | [] => by rw [Bd.sizes]; rfl
  | v :: l => by rw [Bd.sizes, Bd.sizes_eq l]; rfl
theorem Bd.size_pos (x : Bd) : 1 ≤ x.size := by rw [Bd.size_eq]; omega
theorem Bd.len_le : ∀ l : List Bd, l.length ≤ Bd.sizes l
  | [] => Nat.zero_le _
  | v :: l => by have := Bd.len_le l; have := v.size_pos; rw [Bd.sizes, List.length_cons]; omega
theorem Bd.mem_le : ∀ {l : List Bd} {x : Bd}, x ∈ l → x.size ≤ Bd.sizes l
  | v :: l, x, h => by
    rw [Bd.sizes]
    rcases List.mem_cons.1 h with rfl | h
    · omega
    · have := Bd.mem_le h; omega
section
variable {H : Type} {enc : TypeId × Value → H} {w : World} {held : Bool}
theorem u_tys : Try.prog.underlying 37 = some (.slice 39) := by kernel_rfl
theorem u_pts : Try.prog.underlying 66 = some (.slice 68) := by kernel_rfl
theorem u_exs : Try.prog.underlying 40 = some (.slice 43) := by kernel_rfl
theorem u_als : Try.prog.underlying 41 = some (.slice 70) := by kernel_rfl
theorem u_bds : Try.prog.underlying 36 = some (.slice 45) := by kernel_rfl
theorem Ty.cells_len (x : Ty) : x.cells.length = 4 := by rw [Ty.cells_eq]; rfl
theorem Pt.cells_len (x : Pt) : x.cells.length = 5 := by rw [Pt.cells_eq]; rfl
theorem Ex.cells_len (x : Ex) : x.cells.length = 11 := by rw [Ex.cells_eq]; rfl
theorem Al.cells_len (x : Al) : x.cells.length = 16 := by rw [Al.cells_eq]; rfl
theorem Bd.cells_len (x : Bd) : x.cells.length = 13 := by rw [Bd.cells_eq]; rfl
theorem rd_Ty : ∀ (n : Nat) (cs : List Value) (d : DataW H), rd enc Try.prog w held n 39 cs d → ∃ v : Ty, AllR w v.cells cs ∧ v.size ≤ Rows.uptoBulk d := by
  intro n
  induction n using Nat.strongRecOn with
  | _ n ih =>
    intro cs d h
    obtain ⟨ds, m, rfl, rfl, hl, hdl, hf⟩ := rd_struct (l := [(3, 0, 1), (9, 1, 1), (3, 2, 1), (37, 3, 1)]) (by kernel_rfl) h
    have hz : Try.prog.cellsOf 39 = 4 := by kernel_rfl
    rw [hz] at hl
    obtain ⟨i0, f0⟩ := hf 0 3 0 1 rfl
    obtain ⟨v0, r0, s0⟩ := rdi u_int f0
    obtain ⟨i1, f1⟩ := hf 1 9 1 1 rfl
    obtain ⟨v1, r1, s1⟩ := rds f1
    obtain ⟨i2, f2⟩ := hf 2 3 2 1 rfl
    obtain ⟨v2, r2, s2⟩ := rdi u_int f2
    obtain ⟨i3, f3⟩ := hf 3 37 3 1 rfl
    obtain ⟨v3, r3, s3⟩ := rdl Ty.cells Ty.size u_tys (by kernel_rfl) (by decide) Ty.cells_len (fun m2 cs d hm h => ih m2 (by omega) cs d h) f3
    rw [← Ty.sizes_eq] at s3
    refine ⟨.mk v0 v1 v2 v3, ?_, ?_⟩
    · rw [Ty.cells_eq]
      exact AllR.step 0 1 r0 (AllR.step 1 1 r1 (AllR.step 2 1 r2 (AllR.step 3 1 r3 (AllR.fin hl))))
    · rw [Ty.size]
      exact bulk_fields4 (by simpa using hdl) s0 s1 s2 s3
theorem rd_Pt : ∀ (n : Nat) (cs : List Value) (d : DataW H), rd enc Try.prog w held n 68 cs d → ∃ v : Pt, AllR w v.cells cs ∧ v.size ≤ Rows.uptoBulk d := by
  intro n
  induction n using Nat.strongRecOn with
  | _ n ih =>
    intro cs d h
    obtain ⟨ds, m, rfl, rfl, hl, hdl, hf⟩ := rd_struct (l := [(3, 0, 1), (9, 1, 1), (2, 2, 1), (66, 3, 1), (3, 4, 1)]) (by kernel_rfl) h
    have hz : Try.prog.cellsOf 68 = 5 := by kernel_rfl
    rw [hz] at hl
    obtain ⟨i0, f0⟩ := hf 0 3 0 1 rfl
    obtain ⟨v0, r0, s0⟩ := rdi u_int f0
    obtain ⟨i1, f1⟩ := hf 1 9 1 1 rfl
    obtain ⟨v1, r1, s1⟩ := rds f1
    obtain ⟨i2, f2⟩ := hf 2 2 2 1 rfl
    obtain ⟨v2, r2, s2⟩ := rdi u_int64 f2
    obtain ⟨i3, f3⟩ := hf 3 66 3 1 rfl
    obtain ⟨v3, r3, s3⟩ := rdl Pt.cells Pt.size u_pts (by kernel_rfl) (by decide) Pt.cells_len (fun m2 cs d hm h => ih m2 (by omega) cs d h) f3
    rw [← Pt.sizes_eq] at s3
    obtain ⟨i4, f4⟩ := hf 4 3 4 1 rfl
    obtain ⟨v4, r4, s4⟩ := rdi u_int f4
    refine ⟨.mk v0 v1 v2 v3 v4, ?_, ?_⟩
    · rw [Pt.cells_eq]
      exact AllR.step 0 1 r0 (AllR.step 1 1 r1 (AllR.step 2 1 r2 (AllR.step 3 1 r3 (AllR.step 4 1 r4 (AllR.fin hl)))))
    · rw [Pt.size]
      exact bulk_fields5 (by simpa using hdl) s0 s1 s2 s3 s4
theorem rd_Al0 (n : Nat) (ih : ∀ m < n, ∀ (cs : List Value) (d : DataW H), rd enc Try.prog w held m 43 cs d → ∃ v : Ex, AllR w v.cells cs ∧ v.size ≤ Rows.uptoBulk d) (cs : List Value) (d : DataW H) (h : rd enc Try.prog w held n 70 cs d) : ∃ v : Al, AllR w v.cells cs ∧ v.size ≤ Rows.uptoBulk d := by
  obtain ⟨ds, m, rfl, rfl, hl, hdl, hf⟩ := rd_struct (l := [(68, 0, 5), (43, 5, 11)]) (by kernel_rfl) h
  have hz : Try.prog.cellsOf 70 = 16 := by kernel_rfl
  rw [hz] at hl
  obtain ⟨i0, f0⟩ := hf 0 68 0 5 rfl
  obtain ⟨v0, r0, s0⟩ := rd_Pt _ _ _ f0
  rw [Pt.cells_eq] at r0
  obtain ⟨i1, f1⟩ := hf 1 43 5 11 rfl
  obtain ⟨v1, r1, s1⟩ := ih m (by omega) _ _ f1
  rw [Ex.cells_eq] at r1
  refine ⟨.mk v0 v1, ?_, ?_⟩
  · rw [Al.cells_eq]
    exact AllR.step 0 5 r0 (AllR.step 5 11 r1 (AllR.fin hl))
  · rw [Al.size]
    exact bulk_fields2 (by simpa using hdl) s0 s1
theorem rd_Bd0 (n : Nat) (ih : ∀ m < n, ∀ (cs : List Value) (d : DataW H), rd enc Try.prog w held m 43 cs d → ∃ v : Ex, AllR w v.cells cs ∧ v.size ≤ Rows.uptoBulk d) (cs : List Value) (d : DataW H) (h : rd enc Try.prog w held n 45 cs d) : ∃ v : Bd, AllR w v.cells cs ∧ v.size ≤ Rows.uptoBulk d := by
  obtain ⟨ds, m, rfl, rfl, hl, hdl, hf⟩ := rd_struct (l := [(9, 0, 1), (43, 1, 11), (3, 12, 1)]) (by kernel_rfl) h
  have hz : Try.prog.cellsOf 45 = 13 := by kernel_rfl
  rw [hz] at hl
  obtain ⟨i0, f0⟩ := hf 0 9 0 1 rfl
  obtain ⟨v0, r0, s0⟩ := rds f0
  obtain ⟨i1, f1⟩ := hf 1 43 1 11 rfl
  obtain ⟨v1, r1, s1⟩ := ih m (by omega) _ _ f1
  rw [Ex.cells_eq] at r1
  obtain ⟨i2, f2⟩ := hf 2 3 12 1 rfl
  obtain ⟨v2, r2, s2⟩ := rdi u_int f2
  refine ⟨.mk v0 v1 v2, ?_, ?_⟩
  · rw [Bd.cells_eq]
    exact AllR.step 0 1 r0 (AllR.step 1 11 r1 (AllR.step 12 1 r2 (AllR.fin hl)))
  · rw [Bd.size]
    exact bulk_fields3 (by simpa using hdl) s0 s1 s2
theorem rd_Ex : ∀ (n : Nat) (cs : List Value) (d : DataW H), rd enc Try.prog w held n 43 cs d → ∃ v : Ex, AllR w v.cells cs ∧ v.size ≤ Rows.uptoBulk d := by
  intro n
  induction n using Nat.strongRecOn with
  | _ n ih =>
    intro cs d h
    obtain ⟨ds, m, rfl, rfl, hl, hdl, hf⟩ := rd_struct (l := [(3, 0, 1), (9, 1, 1), (2, 2, 1), (39, 3, 4), (40, 7, 1), (41, 8, 1), (36, 9, 1), (3, 10, 1)]) (by kernel_rfl) h
    have hz : Try.prog.cellsOf 43 = 11 := by kernel_rfl
    rw [hz] at hl
    obtain ⟨i0, f0⟩ := hf 0 3 0 1 rfl
    obtain ⟨v0, r0, s0⟩ := rdi u_int f0
    obtain ⟨i1, f1⟩ := hf 1 9 1 1 rfl
    obtain ⟨v1, r1, s1⟩ := rds f1
    obtain ⟨i2, f2⟩ := hf 2 2 2 1 rfl
    obtain ⟨v2, r2, s2⟩ := rdi u_int64 f2
    obtain ⟨i3, f3⟩ := hf 3 39 3 4 rfl
    obtain ⟨v3, r3, s3⟩ := rd_Ty _ _ _ f3
    rw [Ty.cells_eq] at r3
    obtain ⟨i4, f4⟩ := hf 4 40 7 1 rfl
    obtain ⟨v4, r4, s4⟩ := rdl Ex.cells Ex.size u_exs (by kernel_rfl) (by decide) Ex.cells_len (fun m2 cs d hm h => ih m2 (by omega) cs d h) f4
    rw [← Ex.sizes_eq] at s4
    obtain ⟨i5, f5⟩ := hf 5 41 8 1 rfl
    obtain ⟨v5, r5, s5⟩ := rdl Al.cells Al.size u_als (by kernel_rfl) (by decide) Al.cells_len (fun m2 cs d hm h => rd_Al0 m2 (fun m3 h3 => ih m3 (by omega)) cs d h) f5
    rw [← Al.sizes_eq] at s5
    obtain ⟨i6, f6⟩ := hf 6 36 9 1 rfl
    obtain ⟨v6, r6, s6⟩ := rdl Bd.cells Bd.size u_bds (by kernel_rfl) (by decide) Bd.cells_len (fun m2 cs d hm h => rd_Bd0 m2 (fun m3 h3 => ih m3 (by omega)) cs d h) f6
    rw [← Bd.sizes_eq] at s6
    obtain ⟨i7, f7⟩ := hf 7 3 10 1 rfl
    obtain ⟨v7, r7, s7⟩ := rdi u_int f7
    refine ⟨.mk v0 v1 v2 v3 v4 v5 v6 v7, ?_, ?_⟩
    · rw [Ex.cells_eq]
      exact AllR.step 0 1 r0 (AllR.step 1 1 r1 (AllR.step 2 1 r2 (AllR.step 3 4 r3 (AllR.step 7 1 r4 (AllR.step 8 1 r5 (AllR.step 9 1 r6 (AllR.step 10 1 r7 (AllR.fin hl))))))))
    · rw [Ex.size]
      exact bulk_fields8 (by simpa using hdl) s0 s1 s2 s3 s4 s5 s6 s7
theorem rd_Al (n : Nat) (cs : List Value) (d : DataW H) (h : rd enc Try.prog w held n 70 cs d) : ∃ v : Al, AllR w v.cells cs ∧ v.size ≤ Rows.uptoBulk d := rd_Al0 n (fun m _ => rd_Ex m) cs d h
theorem rd_Bd (n : Nat) (cs : List Value) (d : DataW H) (h : rd enc Try.prog w held n 45 cs d) : ∃ v : Bd, AllR w v.cells cs ∧ v.size ≤ Rows.uptoBulk d := rd_Bd0 n (fun m _ => rd_Ex m) cs d h
end
mutual
theorem Pt.tot_twice : ∀ p : Pt, 2 * p.tot ≤ p.size
  | .mk k s n ks a => by
    have := Pt.totL_twice ks
    rw [Pt.tot, Pt.size]
    omega
theorem Pt.totL_twice : ∀ l : List Pt, 2 * Pt.totL l ≤ Pt.sizes l
  | [] => by rw [Pt.totL, Pt.sizes]; exact Nat.le_refl _
  | p :: l => by
    have h1 := Pt.tot_twice p
    have h2 := Pt.totL_twice l
    rw [Pt.totL, Pt.sizes]
    omega
end
mutual
theorem Ex.tot_twice : ∀ e : Ex, 2 * e.tot ≤ e.size
  | .mk k s n t ks xs bs a => by
    have h1 := Ex.totL_twice ks
    have h2 := Al.totL_twice xs
    have h3 := Bd.totL_twice bs
    rw [Ex.tot, Ex.size]
    omega
theorem Al.tot_twice : ∀ x : Al, 2 * x.tot ≤ x.size
  | .mk p e => by
    have h1 := Pt.tot_twice p
    have h2 := Ex.tot_twice e
    rw [Al.tot, Al.size]
    omega
theorem Bd.tot_twice : ∀ x : Bd, 2 * x.tot ≤ x.size
  | .mk s e a => by
    have h2 := Ex.tot_twice e
    rw [Bd.tot, Bd.size]
    omega
theorem Ex.totL_twice : ∀ l : List Ex, 2 * Ex.totL l ≤ Ex.sizes l
  | [] => by rw [Ex.totL, Ex.sizes]; exact Nat.le_refl _
  | p :: l => by
    have h1 := Ex.tot_twice p
    have h2 := Ex.totL_twice l
    rw [Ex.totL, Ex.sizes]
    omega
theorem Al.totL_twice : ∀ l : List Al, 2 * Al.totL l ≤ Al.sizes l
  | [] => by rw [Al.totL, Al.sizes]; exact Nat.le_refl _
  | p :: l => by
    have h1 := Al.tot_twice p
    have h2 := Al.totL_twice l
    rw [Al.totL, Al.sizes]
    omega
theorem Bd.totL_twice : ∀ l : List Bd, 2 * Bd.totL l ≤ Bd.sizes l
  | [] => by rw [Bd.totL, Bd.sizes]; exact Nat.le_refl _
  | p :: l => by
    have h1 := Bd.tot_twice p
    have h2 := Bd.totL_twice l
    rw [Bd.totL, Bd.sizes]
    omega
end
section
variable {H : Type} {enc : TypeId × Value → H} {w : World} {held : Bool} {n : Nat} {v : Value} {d : DataW H}
theorem rd_bds (h : rd enc Try.prog w held n 36 v.cells.toList d) : ∃ l : List Bd, AllR w [bds l] v.cells.toList ∧ l.length ≤ 1000000 ∧ ∀ x ∈ l, x.e.tot ≤ 1000000 := by
  have hbk := h.2
  obtain ⟨l, r, s⟩ := rdl Bd.cells Bd.size u_bds (by kernel_rfl) (by decide) Bd.cells_len (fun m2 cs d hm h => rd_Bd _ cs d h) h
  have hz := Bd.sizes_eq l
  have h2 := Bd.totL_twice l
  have h3 := Bd.totL_len l
  refine ⟨l, r, by omega, fun x hx => ?_⟩
  have := Bd.totL_mem hx
  omega
end
end Go.Proofs.Ytkfdklocgpgbfaa
