/- Joined texts. -/
import Derived.Test.YtkfdklocgpgbfaaGy0
import Derived.Test.YtkfdklocgpgbfaaGz0
import Derived.KernelRfl
import Derived.Test.YtkfdklocgpgbfaaBj
import Derived.Test.YtkfdklocgpgbfaaBl
import Derived.Test.YtkfdklocgpgbfaaBw
import Derived.Test.YtkfdklocgpgbfaaBh
import Derived.Test.YtkfdklocgpgbfaaRows
import Derived.ChangeArms
set_option linter.unusedVariables false
set_option linter.unusedSimpArgs false
set_option linter.unusedSectionVars false
namespace Go.Proofs.Ytkfdklocgpgbfaa
open Go.RowKit
set_option maxRecDepth 100000
section
variable {k f : Nat} {fn : Func}
theorem rf0 (t : FT) (h1 : PG.funcs[f]? = some fn) (h : (fn.body.isSome && tabOk t.sd t.sx (bodyOf fn) && fnB PG SS EE TT k f t) = true) : RK k := rF2 mixed h1 h
theorem rl0 {id : Nat} (t : FT) (h1 : PG.funcs[f]? = some fn) (h : (isLoop1 (subs id (bodyOf fn)) && tabOk t.sd t.sx (lb fn id) && lpC PG SS EE TT k f id fn t) = true) : RK k := rL2 mixed h1 h
end
theorem ru0 : RK 0 := rf0 t9 f9_at (by kernel_rfl)
theorem ru1 : RK 1 := rl0 (id := 0) t9 f9_at (by kernel_rfl)
theorem ru2 : RK 2 := rl0 (id := 2) t9 f9_at (by kernel_rfl)
theorem ru3 : RK 3 := rl0 (id := 4) t9 f9_at (by kernel_rfl)
theorem ru4 : RK 4 := rf0 t17 f17_at (by kernel_rfl)
theorem ru5 : RK 5 := rl0 (id := 0) t17 f17_at (by kernel_rfl)
theorem ru6 : RK 6 := rl0 (id := 0) t17 f17_at (by kernel_rfl)
theorem ru7 : RK 7 := rl0 (id := 0) t17 f17_at (by kernel_rfl)
theorem ru8 : RK 8 := rl0 (id := 0) t17 f17_at (by kernel_rfl)
theorem ru9 : RK 9 := rf0 t18 f18_at (by kernel_rfl)
theorem ru10 : RK 10 := rl0 (id := 0) t18 f18_at (by kernel_rfl)
theorem ru11 : RK 11 := rf0 t18 f18_at (by kernel_rfl)
theorem ru12 : RK 12 := rl0 (id := 0) t18 f18_at (by kernel_rfl)
theorem ru13 : RK 13 := rl0 (id := 0) t18 f18_at (by kernel_rfl)
theorem ru14 : RK 14 := rl0 (id := 2) t18 f18_at (by kernel_rfl)
theorem ru15 : RK 15 := rl0 (id := 2) t18 f18_at (by kernel_rfl)
theorem ru16 : RK 16 := rf0 t18 f18_at (by kernel_rfl)
theorem ru17 : RK 17 := rl0 (id := 0) t18 f18_at (by kernel_rfl)
theorem ru18 : RK 18 := rf0 t18 f18_at (by kernel_rfl)
theorem ru19 : RK 19 := rl0 (id := 0) t18 f18_at (by kernel_rfl)
theorem ru20 : RK 20 := rl0 (id := 0) t18 f18_at (by kernel_rfl)
theorem ru21 : RK 21 := rl0 (id := 2) t18 f18_at (by kernel_rfl)
theorem ru22 : RK 22 := rl0 (id := 2) t18 f18_at (by kernel_rfl)
theorem ru23 : RK 23 := rf0 t25 f25_at (by kernel_rfl)
set_option maxRecDepth 100000
section
variable {k f : Nat} {fn : Func}
theorem rf1 (t : FT) (h1 : PG.funcs[f]? = some fn) (h : (fn.body.isSome && tabOk t.sd t.sx (bodyOf fn) && fnB PG SS EE TT k f t) = true) : RK k := rF2 mixed h1 h
theorem rl1 {id : Nat} (t : FT) (h1 : PG.funcs[f]? = some fn) (h : (isLoop1 (subs id (bodyOf fn)) && tabOk t.sd t.sx (lb fn id) && lpC PG SS EE TT k f id fn t) = true) : RK k := rL2 mixed h1 h
end
theorem ru24 : RK 24 := rl1 (id := 0) t25 f25_at (by kernel_rfl)
theorem ru25 : RK 25 := rl1 (id := 0) t25 f25_at (by kernel_rfl)
theorem ru26 : RK 26 := rl1 (id := 0) t25 f25_at (by kernel_rfl)
theorem ru27 : RK 27 := rl1 (id := 0) t25 f25_at (by kernel_rfl)
theorem ru28 : RK 28 := rl1 (id := 3) t25 f25_at (by kernel_rfl)
theorem ru29 : RK 29 := rl1 (id := 3) t25 f25_at (by kernel_rfl)
theorem ru30 : RK 30 := rf1 t25 f25_at (by kernel_rfl)
theorem ru31 : RK 31 := rl1 (id := 0) t25 f25_at (by kernel_rfl)
theorem ru32 : RK 32 := rl1 (id := 0) t25 f25_at (by kernel_rfl)
theorem ru33 : RK 33 := rl1 (id := 0) t25 f25_at (by kernel_rfl)
theorem ru34 : RK 34 := rl1 (id := 0) t25 f25_at (by kernel_rfl)
theorem ru35 : RK 35 := rl1 (id := 3) t25 f25_at (by kernel_rfl)
theorem ru36 : RK 36 := rf1 t25 f25_at (by kernel_rfl)
theorem ru37 : RK 37 := rl1 (id := 0) t25 f25_at (by kernel_rfl)
theorem ru38 : RK 38 := rl1 (id := 0) t25 f25_at (by kernel_rfl)
theorem ru39 : RK 39 := rl1 (id := 0) t25 f25_at (by kernel_rfl)
theorem ru40 : RK 40 := rl1 (id := 0) t25 f25_at (by kernel_rfl)
theorem ru41 : RK 41 := rl1 (id := 3) t25 f25_at (by kernel_rfl)
theorem ru42 : RK 42 := rl1 (id := 3) t25 f25_at (by kernel_rfl)
theorem ru43 : RK 43 := rf1 t25 f25_at (by kernel_rfl)
theorem ru44 : RK 44 := rl1 (id := 0) t25 f25_at (by kernel_rfl)
theorem ru45 : RK 45 := rl1 (id := 0) t25 f25_at (by kernel_rfl)
theorem ru46 : RK 46 := rl1 (id := 0) t25 f25_at (by kernel_rfl)
theorem ru47 : RK 47 := rl1 (id := 0) t25 f25_at (by kernel_rfl)
set_option maxRecDepth 100000
section
variable {k f : Nat} {fn : Func}
theorem rf2 (t : FT) (h1 : PG.funcs[f]? = some fn) (h : (fn.body.isSome && tabOk t.sd t.sx (bodyOf fn) && fnB PG SS EE TT k f t) = true) : RK k := rF2 mixed h1 h
theorem rl2 {id : Nat} (t : FT) (h1 : PG.funcs[f]? = some fn) (h : (isLoop1 (subs id (bodyOf fn)) && tabOk t.sd t.sx (lb fn id) && lpC PG SS EE TT k f id fn t) = true) : RK k := rL2 mixed h1 h
end
theorem ru48 : RK 48 := rl2 (id := 3) t25 f25_at (by kernel_rfl)
theorem ru49 : RK 49 := rf2 t29 f29_at (by kernel_rfl)
theorem ru50 : RK 50 := rl2 (id := 0) t29 f29_at (by kernel_rfl)
theorem ru51 : RK 51 := rl2 (id := 2) t29 f29_at (by kernel_rfl)
theorem ru52 : RK 52 := rf2 t29 f29_at (by kernel_rfl)
theorem ru53 : RK 53 := rl2 (id := 0) t29 f29_at (by kernel_rfl)
theorem ru54 : RK 54 := rl2 (id := 2) t29 f29_at (by kernel_rfl)
theorem ru55 : RK 55 := rf2 t26 f26_at (by kernel_rfl)
theorem ru56 : RK 56 := rl2 (id := 0) t26 f26_at (by kernel_rfl)
theorem ru57 : RK 57 := rf2 t28 f28_at (by kernel_rfl)
theorem ru58 : RK 58 := rf2 t8 f8_at (by kernel_rfl)
theorem ru59 : RK 59 := rl2 (id := 0) t8 f8_at (by kernel_rfl)
theorem ru60 : RK 60 := rf2 t10 f10_at (by kernel_rfl)
theorem ru61 : RK 61 := rl2 (id := 0) t10 f10_at (by kernel_rfl)
theorem ru62 : RK 62 := rl2 (id := 2) t10 f10_at (by kernel_rfl)
theorem ru63 : RK 63 := rl2 (id := 4) t10 f10_at (by kernel_rfl)
theorem ru64 : RK 64 := rl2 (id := 4) t10 f10_at (by kernel_rfl)
theorem ru65 : RK 65 := rl2 (id := 6) t10 f10_at (by kernel_rfl)
theorem ru66 : RK 66 := rl2 (id := 6) t10 f10_at (by kernel_rfl)
theorem ru67 : RK 67 := rl2 (id := 8) t10 f10_at (by kernel_rfl)
theorem ru68 : RK 68 := rl2 (id := 8) t10 f10_at (by kernel_rfl)
theorem ru69 : RK 69 := rl2 (id := 8) t10 f10_at (by kernel_rfl)
theorem ru70 : RK 70 := rl2 (id := 8) t10 f10_at (by kernel_rfl)
theorem ru71 : RK 71 := rl2 (id := 10) t10 f10_at (by kernel_rfl)
set_option maxRecDepth 100000
section
variable {k f : Nat} {fn : Func}
theorem rf3 (t : FT) (h1 : PG.funcs[f]? = some fn) (h : (fn.body.isSome && tabOk t.sd t.sx (bodyOf fn) && fnB PG SS EE TT k f t) = true) : RK k := rF2 mixed h1 h
theorem rl3 {id : Nat} (t : FT) (h1 : PG.funcs[f]? = some fn) (h : (isLoop1 (subs id (bodyOf fn)) && tabOk t.sd t.sx (lb fn id) && lpC PG SS EE TT k f id fn t) = true) : RK k := rL2 mixed h1 h
end
theorem ru72 : RK 72 := rl3 (id := 10) t10 f10_at (by kernel_rfl)
theorem ru73 : RK 73 := rl3 (id := 10) t10 f10_at (by kernel_rfl)
theorem ru74 : RK 74 := rl3 (id := 10) t10 f10_at (by kernel_rfl)
theorem ru75 : RK 75 := rf3 t11 f11_at (by kernel_rfl)
theorem ru76 : RK 76 := rl3 (id := 0) t11 f11_at (by kernel_rfl)
theorem ru77 : RK 77 := rl3 (id := 2) t11 f11_at (by kernel_rfl)
theorem ru78 : RK 78 := rf3 t19 f19_at (by kernel_rfl)
theorem ru79 : RK 79 := rf3 t4 f4_at (by kernel_rfl)
theorem ru80 : RK 80 := rl3 (id := 0) t4 f4_at (by kernel_rfl)
theorem ru81 : RK 81 := rl3 (id := 2) t4 f4_at (by kernel_rfl)
theorem ru82 : RK 82 := rl3 (id := 4) t4 f4_at (by kernel_rfl)
theorem ru83 : RK 83 := rl3 (id := 6) t4 f4_at (by kernel_rfl)
theorem ru84 : RK 84 := rl3 (id := 8) t4 f4_at (by kernel_rfl)
theorem ru85 : RK 85 := rl3 (id := 10) t4 f4_at (by kernel_rfl)
theorem ru86 : RK 86 := rf3 t3 f3_at (by kernel_rfl)
theorem ru87 : RK 87 := rf3 t5 f5_at (by kernel_rfl)
theorem ru88 : RK 88 := rl3 (id := 0) t5 f5_at (by kernel_rfl)
theorem ru92 : RK 92 := RuleOk.weak (ek := en92) (eb := en60) (by kernel_rfl) (by kernel_rfl) rfl rfl rfl rfl rfl rfl rfl rfl rfl (by kernel_rfl)
theorem int_val {K : Kn} {n : Int} {u : Value} (h : VR K (.pv (.lit (.int .i64 n))) u) : u = .int .i64 n := by
  cases h with
  | pv h => cases h; rfl
set_option maxHeartbeats 1000000 in
theorem spS_ok (R : Nat → PV) : CallsOk R Try.prog spS := fun f args h v h' he => by
  unfold spS at he
  split at he
  case h_2 => cases he
  rename_i b hf
  have hf27 : f = 27 := Nat.eq_of_beq_eq_true hf
  subst hf27
  split at he
  case h_2 => cases he
  rename_i ty1 t lo len hb1
  split at he
  case h_2 => cases he
  rename_i ty cells hc1
  split at he
  case h_2 => cases he
  rename_i zs hz hble
  cases he
  rw [Bool.and_eq_true] at hble
  have hle1 := Nat.le_of_ble_eq_true hble.1
  have hle2 := Nat.le_of_ble_eq_true hble.2
  intro K w us hR W hv
  obtain ⟨hvl, hvv⟩ := hv
  cases us with
  | nil => cases hvl
  | cons u us =>
  cases us with
  | cons _ _ => simp at hvl
  | nil =>
  have hv0 := hvv 0 (by simp) (by simp)
  simp only [List.getElem_cons_zero] at hv0
  obtain ⟨gb, cs, hb, hwb, _, hbv⟩ := W.box b _ _ hb1
  obtain ⟨g, ca, hg, hwg, _, hcv⟩ := W.box t _ _ hc1
  obtain ⟨hzl, hzg⟩ := intsAt_get hz
  have hlen : zs.length = len := by rw [hzl]; simp; omega
  have hcs : ∀ j (h : j < zs.length), w.cell? ⟨g, lo + j, none⟩ = some (.int .i64 zs[j]) := fun j hj => by
    have h1 := hzg j hj
    rw [List.getElem?_take, if_pos (by omega), List.getElem?_drop] at h1
    obtain ⟨h2, h3⟩ := List.getElem?_eq_some_iff.1 h1
    have hl := hcv.1
    simp at hl
    have h4 := hcv.2 (lo + j) h2 (by simp; omega)
    rw [h3] at h4
    have h5 := int_val h4
    simp at h5
    unfold World.cell?
    simp only [hwg]
    show ca[lo + j]? = _
    rw [Array.getElem?_eq_getElem (by omega), h5]
  have hb0 : ∃ x, cs[0]? = some x ∧ VR K (.sl t lo len 1) x := by
    have h1 := hbv.1
    simp at h1
    have hsz : 0 < cs.size := by omega
    have hbx := hbv.2 0 (by simp) (by simp; omega)
    refine ⟨cs[0], by simp [hsz], ?_⟩
    simpa using hbx
  obtain ⟨x, hx0, hx⟩ := hb0
  have hbc : w.cell? ⟨gb, 0, none⟩ = some x := by
    unfold World.cell?
    simp only [hwb]
    exact hx0
  cases hx with
  | sl _ _ _ _ g2 cap off hm hE hl hz2 hof =>
    rw [hg] at hm
    cases hm
    have hat : ∀ j (h : j < zs.length), w.cell? ⟨g, off + j, none⟩ = some (.int .i64 zs[j]) := fun j hj => by
      have hcap : 0 < cap := by omega
      rw [hof hcap, Nat.mul_one]
      exact hcs j hj
    have hS : SlAt w gb g off cap zs := ⟨W.lt b gb hb, W.lt t g hg, by rw [hbc, hlen], hat⟩
    cases hv0 with
    | fn _ _ cps hcl hch _ =>
      cases cps with
      | nil => cases hcl
      | cons p cps =>
      cases cps with
      | cons _ _ => simp at hcl
      | nil =>
      have hp := hch 0 (by simp) (by simp)
      simp only [List.getElem_cons_zero] at hp
      cases hp with
      | ptr _ _ b2 hm2 =>
        rw [hb] at hm2
        cases hm2
        refine (srt_any gb g off cap zs (by omega) w hS).mono fun e w' ⟨a', cap', g', he, hne, hcap', hg', hcells, hbel⟩ => ?_
        subst he
        have hsl : (sortZ zs).length = zs.length := sortZ_len zs
        obtain ⟨K', hst, hKR, hnew, _⟩ := Step.known W (frm_below hbel) (fun gg o => if gg = g' then ((sortZ zs)[o]?).map (Value.int .i64) else none) (fun gg o v hm3 => by
          by_cases hgg : gg = g'
          · subst hgg
            rw [if_pos rfl] at hm3
            obtain ⟨z, hz1, rfl⟩ := Option.map_eq_some_iff.1 hm3
            obtain ⟨hz2, hz3⟩ := List.getElem?_eq_some_iff.1 hz1
            exact ⟨hg', by rw [hcells o hz2, hz3]⟩
          · rw [if_neg hgg] at hm3; cases hm3)
        refine ⟨K', ⟨_, rfl, ?_⟩, hst⟩
        rw [isortZ_eq]
        have hlen2 : (ivs (sortZ zs)).length = zs.length := by simp [ivs, hsl]
        have hpr := PR.rows (R := K'.R) (M := K'.M) (ivs (sortZ zs)) a' cap' g' 0 1 (fun i _ => .int .i64 ((sortZ zs).getD i 0)) (fun hne2 => hne (fun e0 => hne2 (by rw [e0]; simp [sortZ, ivs]))) (by omega) (fun i hi => by simp [ivs]) (fun i hi j hj => by
          have hj0 : j = 0 := by omega
          subst hj0
          have hi2 : i < (sortZ zs).length := by omega
          refine hnew _ _ _ ?_
          rw [if_pos rfl, Nat.zero_add, Nat.mul_one, Nat.add_zero, List.getElem?_eq_getElem hi2]
          simp [List.getD_eq_getElem?_getD, List.getElem?_eq_getElem hi2]) (fun i hi j hj => by
          have hj0 : j = 0 := by simp [ivs] at hj; omega
          subst hj0
          have hi2 : i < (sortZ zs).length := by omega
          have h3 : (ivs (sortZ zs))[i][0]'(by simp [ivs]) = .lit (.int .i64 (sortZ zs)[i]) := by simp [ivs]
          rw [h3]
          have h4 : (sortZ zs).getD i 0 = (sortZ zs)[i] := by rw [List.getD_eq_getElem?_getD, List.getElem?_eq_getElem hi2]; rfl
          rw [h4]
          exact .lit _ rfl)
        rw [hlen2] at hpr
        exact .pv hpr
    | bfn f2 _ _ _ _ _ hg2 => exact absurd hg2 (by unfold bndF; omega)
theorem awake_sem : Sem Try.prog 7 [] [] (.pv (.lit (.bool true))) [] := fun R => evalF_sound (spS_ok R) okT_ok tabT_ok (fun _ => rfl) mixed 60 _ _ _ _ _ awake_run
set_option maxRecDepth 100000
theorem ru89 : RK 89 := ext_awk (m := 59) awake_sem (by kernel_rfl) (by kernel_rfl) (by kernel_rfl)
theorem ru90 : RK 90 := ext_rchP (m := 60) (by kernel_rfl) (by kernel_rfl) (by kernel_rfl)
theorem ru91 : RK 91 := ext_srtV (m := 61) (by kernel_rfl) (by kernel_rfl) (by kernel_rfl)
set_option maxRecDepth 100000
theorem tabs : TabsOk PG SS EE := TabsOk.of (by kernel_rfl) (by kernel_rfl) (by kernel_rfl)
theorem ru_0 : AllK (RuleOk PG SS EE TT) 0 := trivial
theorem ru_20 : AllK (RuleOk PG SS EE TT) 20 := ⟨⟨⟨⟨⟨⟨⟨⟨⟨⟨⟨⟨⟨⟨⟨⟨⟨⟨⟨⟨ru_0, ru0⟩, ru1⟩, ru2⟩, ru3⟩, ru4⟩, ru5⟩, ru6⟩, ru7⟩, ru8⟩, ru9⟩, ru10⟩, ru11⟩, ru12⟩, ru13⟩, ru14⟩, ru15⟩, ru16⟩, ru17⟩, ru18⟩, ru19⟩
theorem ru_40 : AllK (RuleOk PG SS EE TT) 40 := ⟨⟨⟨⟨⟨⟨⟨⟨⟨⟨⟨⟨⟨⟨⟨⟨⟨⟨⟨⟨ru_20, ru20⟩, ru21⟩, ru22⟩, ru23⟩, ru24⟩, ru25⟩, ru26⟩, ru27⟩, ru28⟩, ru29⟩, ru30⟩, ru31⟩, ru32⟩, ru33⟩, ru34⟩, ru35⟩, ru36⟩, ru37⟩, ru38⟩, ru39⟩
theorem ru_60 : AllK (RuleOk PG SS EE TT) 60 := ⟨⟨⟨⟨⟨⟨⟨⟨⟨⟨⟨⟨⟨⟨⟨⟨⟨⟨⟨⟨ru_40, ru40⟩, ru41⟩, ru42⟩, ru43⟩, ru44⟩, ru45⟩, ru46⟩, ru47⟩, ru48⟩, ru49⟩, ru50⟩, ru51⟩, ru52⟩, ru53⟩, ru54⟩, ru55⟩, ru56⟩, ru57⟩, ru58⟩, ru59⟩
theorem ru_80 : AllK (RuleOk PG SS EE TT) 80 := ⟨⟨⟨⟨⟨⟨⟨⟨⟨⟨⟨⟨⟨⟨⟨⟨⟨⟨⟨⟨ru_60, ru60⟩, ru61⟩, ru62⟩, ru63⟩, ru64⟩, ru65⟩, ru66⟩, ru67⟩, ru68⟩, ru69⟩, ru70⟩, ru71⟩, ru72⟩, ru73⟩, ru74⟩, ru75⟩, ru76⟩, ru77⟩, ru78⟩, ru79⟩
theorem ru_93 : AllK (RuleOk PG SS EE TT) 93 := ⟨⟨⟨⟨⟨⟨⟨⟨⟨⟨⟨⟨⟨ru_80, ru80⟩, ru81⟩, ru82⟩, ru83⟩, ru84⟩, ru85⟩, ru86⟩, ru87⟩, ru88⟩, ru89⟩, ru90⟩, ru91⟩, ru92⟩
theorem noMore : ∀ k, 93 ≤ k → (EE k).base = none ∧ TT k = etNo := fun k hk => ⟨by unfold EE; rw [nth_out dEn enL k (Nat.le_trans (by decide) hk)]; rfl, by unfold TT; rw [nth_out etNo etL k (Nat.le_trans (by decide) hk)]⟩
theorem ev_sound {q : Q} {r : Rs} (h : ev q = some r) (hp : Pre EE q) : SemQ PG SS EE q r ∧ Pst SS (EE q.k).fam r := Evl.sound tabs ru_93.get noMore h hp

theorem ev_fx {q : Q} {r : Rs} {ent : Ent} {sh : Shape} {args : List AV} {h h' : List AObj} {v : AV} (he : EE q.k = ent) (hl : ent.lp = none) (hs : shp SS EE q.k r.1 = sh) (ha : openAVs (nm q.xs) ent.args = args) (hh : openH (nm q.xs) ent.h = h) (hv : openAV (nm r.2) sh.v = v) (hh' : openH (nm r.2) sh.h = h')
    (hn : q.xs.length = ent.n) (hr : ent.rin = []) (hns : NSL q.xs) (h0 : ev q = some r) : Sem Try.prog ent.f args h v h' ∧ NSL r.2 := by
  obtain ⟨h1, h2⟩ := ev_sound h0 ⟨by rw [he]; exact hn, hns, by rw [he, hr]; intro i hi; cases hi⟩
  refine ⟨?_, h2.ns⟩
  unfold SemQ at h1
  rw [he, hl] at h1
  simp only at h1
  rw [hs, ha, hh, hv, hh'] at h1
  exact h1
theorem orders_sem (l : List (List Int)) (hl : l.length ≤ 9223372036854775807) : Sem Try.prog 3 [.pv (zss l)] [] (.pv (bv true)) [] :=
  (ev_fx (q := q3 (zss l)) (r := (0, [bv true])) (ent := EE 86) (sh := shp SS EE 86 0) rfl (by kernel_rfl) rfl (by kernel_rfl) (by kernel_rfl) (by kernel_rfl) (by kernel_rfl) (by kernel_rfl) (by kernel_rfl) (by
    intro p hp
    rw [List.mem_singleton.1 hp]
    exact ns_zss l) (orders_ev l hl)).1
theorem back_sem (l : List (List Int)) (hl : l.length ≤ 9223372036854775807) : Sem Try.prog 4 [.pv (zss l)] [] (.pv (bv true)) [] :=
  (ev_fx (q := q4 (zss l)) (r := (0, [bv true])) (ent := EE 79) (sh := shp SS EE 79 0) rfl (by kernel_rfl) rfl (by kernel_rfl) (by kernel_rfl) (by kernel_rfl) (by kernel_rfl) (by kernel_rfl) (by kernel_rfl) (by
    intro p hp
    rw [List.mem_singleton.1 hp]
    exact ns_zss l) (back_ev l hl)).1
theorem last_sem (l : List (List Int)) (r : List Int) (hl : l.length ≤ 9223372036854775807) (hrl : r.length ≤ 9223372036854775807) : Sem Try.prog 5 [.pv (zss l), .pv (zvs r)] [] (.pv (bv true)) [] :=
  (ev_fx (q := q5 (zss l) (zvs r)) (r := (0, [bv true])) (ent := EE 87) (sh := shp SS EE 87 0) rfl (by kernel_rfl) rfl (by kernel_rfl) (by kernel_rfl) (by kernel_rfl) (by kernel_rfl) (by kernel_rfl) (by kernel_rfl) (by
    intro p hp
    simp only [List.mem_cons, List.not_mem_nil, or_false] at hp
    rcases hp with rfl | rfl
    · exact ns_zss l
    · exact ns_zvs r) (last_ev l r hl hrl)).1

theorem lt_of_get {α : Type} {l : List α} {i : Nat} {a : α} (h : l[i]? = some a) : i < l.length := (List.getElem?_eq_some_iff.1 h).1
def maxN : Nat := 9223372036854775807
def Kw (w : World) : Kn := ⟨fun g o => w.cell? ⟨g, o, none⟩, fun _ => 0, fun _ => 0, fun _ => none, fun _ => .any, fun _ => 0, fun b cs h => by cases h⟩
theorem WR.world (w : World) : WR (Kw w) [] w := by
  refine ⟨fun _ _ => rfl, (fun i hi => by simp at hi), (fun i g h => by cases h), (fun i ty cells h => by simp at h), (fun i ks vs h => by simp at h), (fun i ty sz len h => by simp at h), (fun i j x y g h => by simp at h), (fun i ty cells g h => by simp at h), fun g o v h => h, (fun i ty sz p h => by simp at h)⟩
def AllR (w : World) (ps : List PV) (cs : List Value) : Prop := ps.length = cs.length ∧ ∀ i (h : i < ps.length) (h' : i < cs.length), PR (Kw w).R (Kw w).M ps[i] cs[i]
section
variable {H : Type} {enc : TypeId × Value → H} {P : Program} {w : World} {held : Bool}
abbrev rd (enc : TypeId × Value → H) (P : Program) (w : World) (held : Bool) (n : Nat) (t : TypeId) (cs : List Value) (d : DataW H) : Prop := ∃ q, DataW.trod enc P w 0 (fun _ => true) held n t cs = some (d, q)
/-- A slice. -/
theorem rd_slice {α : Type} (cells : α → List PV) (Q : α → Prop) {t e : TypeId} {sz n : Nat} {cs : List Value} {d : DataW H} (ht : P.underlying t = some (.slice e)) (hsz : P.cellsOf e = sz) (hpos : 0 < sz) (hc : ∀ x, (cells x).length = sz)
    (he : ∀ m cs d, m < n → rd enc P w held m e cs d → ∃ x, AllR w (cells x) cs ∧ Q x) (h : rd enc P w held n t cs d) :
    ∃ (l : List α) (c : Value), cs = [c] ∧ PR (Kw w).R (Kw w).M (.rows (l.map cells)) c ∧ l.length ≤ maxN ∧ ∀ x ∈ l, Q x := by
  obtain ⟨q, h⟩ := h
  rcases DataW.trod_slice ht h with ⟨rfl, hx⟩ | ⟨a, len, cap, elems, rest, m, rfl, rfl, hx, _, hl, hcap, hel, hat, _, _⟩
  · cases hx
    exact ⟨[], _, rfl, PR.nilRow, Nat.zero_le _, fun x hx => by cases hx⟩
  · cases hx
    have key : ∀ i : Fin len, ∃ x : α, ∃ us : List Value, w.cells? 0 (a.add (i * sz)) sz = some us ∧ AllR w (cells x) us ∧ Q x := by
      intro i
      have := hat i i.2
      rw [hsz, List.getElem?_eq_getElem (by rw [hel]; exact i.2)] at this
      simp only [Option.bind_eq_some_iff] at this
      obtain ⟨us, h1, h2⟩ := this
      obtain ⟨x, h3, h4⟩ := he m us _ (by omega) ⟨_, h2⟩
      exact ⟨x, us, h1, h3, h4⟩
    let g : Fin len → α := fun i => (key i).choose
    have hg : ∀ i : Fin len, ∃ us : List Value, w.cells? 0 (a.add (i * sz)) sz = some us ∧ AllR w (cells (g i)) us ∧ Q (g i) := fun i => (key i).choose_spec
    refine ⟨List.ofFn g, _, rfl, ?_, ?_, ?_⟩
    · have hspot : ∀ i : Nat, i < len → ∀ j, j < sz → (a.add (i * sz)).add j = ⟨a.block, a.off + i * sz + j, none⟩ := by
        intro i hi j hj
        have hsp : a.spot = none := by
          obtain ⟨us, h1, _⟩ := hg ⟨0, by omega⟩
          obtain ⟨_, hlen, hcell⟩ := World.cells?_some h1
          have := hcell 0 hpos
          have hlt : 0 < us.length := by omega
          rw [List.getElem?_eq_getElem hlt] at this
          simp only [Nat.zero_mul, Addr.add, if_true, World.cell?] at this
          split at this
          · split at this
            · cases this
            · rename_i hs
              cases hsp : a.spot with
              | none => rfl
              | some x => rw [hsp] at hs; simp at hs
          · cases this
        obtain ⟨b, o, sp⟩ := a
        simp only at hsp
        subst hsp
        unfold Addr.add
        by_cases h1 : i * sz = 0
        · by_cases h2 : j = 0
          · simp [h1, h2]
          · simp [h1, h2]
        · by_cases h2 : j = 0
          · simp [h1, h2]
          · simp [h1, h2]
      have hcs : ∀ i : Nat, ∀ hi : i < len, ∃ us : List Value, us.length = sz ∧ AllR w (cells (g ⟨i, hi⟩)) us ∧ ∀ j, j < sz → w.cell? ⟨a.block, a.off + i * sz + j, none⟩ = us[j]? := by
        intro i hi
        obtain ⟨us, h1, h2, _⟩ := hg ⟨i, hi⟩
        obtain ⟨_, hlen, hcell⟩ := World.cells?_some h1
        exact ⟨us, hlen, h2, fun j hj => by rw [← hspot i hi j hj]; exact hcell j hj⟩
      have hlen : (List.ofFn g).length = len := by simp
      have := PR.rows (R := (Kw w).R) (M := (Kw w).M) ((List.ofFn g).map cells) (some a) cap a.block a.off sz (fun i j => if hi : i < len then (hcs i hi).choose.getD j (.bool false) else .bool false)
        (fun hne => by
          have hl0 : 0 < len := by
            cases len with
            | zero => simp at hne
            | succ _ => omega
          have := hspot 0 hl0 0 hpos
          simp [Addr.add] at this
          rw [this]) (by simpa using hl) (fun i hi => by simp [hc]) ?_ ?_
      · simpa using this
      · intro i hi j hj
        have hi' : i < len := by simpa using hi
        simp only [hi', dif_pos]
        obtain ⟨h1, h2, h3⟩ := (hcs i hi').choose_spec
        show w.cell? _ = _
        rw [h3 j hj, List.getD_eq_getElem?_getD, List.getElem?_eq_getElem (by omega)]
        rfl
      · intro i hi j hj
        have hi' : i < len := by simpa using hi
        simp only [hi', dif_pos]
        obtain ⟨h1, h2, h3⟩ := (hcs i hi').choose_spec
        have hj' : j < sz := by simpa [hc] using hj
        have := h2.2 j (by rw [hc]; exact hj') (by omega)
        simp only [List.getElem_map, List.getElem_ofFn]
        rw [List.getD_eq_getElem?_getD, List.getElem?_eq_getElem (by omega)]
        exact this
    · simp only [List.length_ofFn]
      have : maxLen = maxN := rfl
      omega
    · intro x hx
      obtain ⟨i, rfl⟩ := List.mem_ofFn.1 hx
      obtain ⟨_, _, _, h4⟩ := hg i
      exact h4
def stB (P : Program) (t : TypeId) (l : List (Nat × Nat × Nat)) : Bool := match P.underlying t with
  | some (.struct fs) => decide (fs.toList.map (fun f => (f.type, f.offset, P.cellsOf f.type)) = l)
  | _ => false
theorem rd_struct {t : TypeId} {l : List (Nat × Nat × Nat)} {n : Nat} {cs : List Value} {d : DataW H} (hs : stB P t l = true) (h : rd enc P w held n t cs d) :
    ∃ (ds : List (DataW H)) (m : Nat), n = m + 1 ∧ d = .agg ds ∧ cs.length = P.cellsOf t ∧ ds.length = l.length ∧ ∀ i ty off c, l[i]? = some (ty, off, c) → ∃ (hi : i < ds.length), rd enc P w held m ty ((cs.drop off).take c) ds[i] := by
  unfold stB at hs
  split at hs
  · rename_i fs hfs
    have hs := of_decide_eq_true hs
    obtain ⟨q, h⟩ := h
    obtain ⟨xs, m, hm, hx, hl, hlen, hf⟩ := DataW.trod_struct hfs h
    cases hx
    have hll : l.length = fs.size := by rw [← hs]; simp
    refine ⟨_, m, hm, rfl, hl, by simp [hlen, hll], fun i ty off c hi => ?_⟩
    rw [← hs, List.getElem?_map] at hi
    obtain ⟨f, hf1, hf2⟩ := map_some' hi
    simp only [Prod.mk.injEq] at hf2
    obtain ⟨e1, e2, e3⟩ := hf2
    have hlt : i < xs.length := by
      have : i < fs.toList.length := lt_of_get hf1
      rw [hlen]; simpa using this
    have := hf i f (by simpa using hf1)
    rw [List.getElem?_eq_getElem hlt] at this
    refine ⟨by simpa using hlt, xs[i].2, ?_⟩
    rw [← e1, ← e2, ← e3]
    simpa using this
  · cases hs
end
section
variable {H : Type} {enc : TypeId × Value → H} {w : World} {held : Bool} {n : Nat} {cs : List Value} {d : DataW H}
theorem AllR.nil : AllR w [] [] := ⟨rfl, fun i h => by simp at h⟩
theorem AllR.cons {p : PV} {v : Value} {ps : List PV} {vs : List Value} (h : PR (Kw w).R (Kw w).M p v) (hl : AllR w ps vs) : AllR w (p :: ps) (v :: vs) := by
  refine ⟨by simp [hl.1], fun i hi hi' => ?_⟩
  cases i with
  | zero => exact h
  | succ i => exact hl.2 i (by simpa using hi) (by simpa using hi')
theorem AllR.append {ps qs : List PV} {vs us : List Value} (h : AllR w ps vs) (h' : AllR w qs us) : AllR w (ps ++ qs) (vs ++ us) := by
  refine ⟨by simp [h.1, h'.1], fun i hi hi' => ?_⟩
  by_cases hl : i < ps.length
  · have hl' : i < vs.length := by rw [← h.1]; exact hl
    rw [List.getElem_append_left hl, List.getElem_append_left hl']
    exact h.2 i hl hl'
  · have e := h.1
    rw [List.getElem_append_right (by omega), List.getElem_append_right (by omega)]
    have := h'.2 (i - ps.length) (by rw [List.length_append] at hi; omega) (by rw [List.length_append] at hi'; omega)
    simpa only [e] using this
theorem AllR.step (off c : Nat) {ps qs : List PV} (h : AllR w ps ((cs.drop off).take c)) (ht : AllR w qs (cs.drop (off + c))) : AllR w (ps ++ qs) (cs.drop off) := by
  rw [← List.take_append_drop c (cs.drop off), List.drop_drop]
  exact AllR.append h ht
theorem AllR.fin {k : Nat} (h : cs.length = k) : AllR w [] (cs.drop k) := by
  rw [List.drop_eq_nil_of_le (by omega)]
  exact AllR.nil
theorem u_int : Try.prog.underlying 3 = some (.int .i64) := by kernel_rfl
theorem u_ints : Try.prog.underlying 31 = some (.slice 3) := by kernel_rfl
theorem u_rows : Try.prog.underlying 22 = some (.slice 31) := by kernel_rfl
theorem rd_int (h : rd enc Try.prog w held n 3 cs d) : ∃ k : Int, AllR w [.lit (.int .i64 k)] cs := by
  obtain ⟨q, h⟩ := h
  obtain ⟨k, rfl, hx, _⟩ := DataW.trod_int u_int h
  exact ⟨k, .cons (.lit _ rfl) .nil⟩
theorem rd_rows {α : Type} (cells : α → List PV) (Q : α → Prop) {t e : TypeId} {sz : Nat} (ht : Try.prog.underlying t = some (.slice e)) (hsz : Try.prog.cellsOf e = sz) (hpos : 0 < sz) (hc : ∀ x, (cells x).length = sz)
    (he : ∀ m cs d, m < n → rd enc Try.prog w held m e cs d → ∃ x, AllR w (cells x) cs ∧ Q x) (h : rd enc Try.prog w held n t cs d) :
    ∃ l : List α, AllR w [.rows (l.map cells)] cs ∧ l.length ≤ maxN ∧ ∀ x ∈ l, Q x := by
  obtain ⟨l, c, rfl, h1, h2, h3⟩ := rd_slice cells Q ht hsz hpos hc he h
  exact ⟨l, .cons h1 .nil, h2, h3⟩
theorem rd_ints (h : rd enc Try.prog w held n 31 cs d) : ∃ l : List Int, AllR w [zvs l] cs ∧ l.length ≤ maxN := by
  obtain ⟨l, h1, h2, _⟩ := rd_rows (fun k : Int => [.lit (.int .i64 k)]) (fun _ => True) (sz := 1) u_ints (by kernel_rfl) (by decide) (fun _ => rfl) (fun m cs d _ h => by
    obtain ⟨k, hk⟩ := rd_int h
    exact ⟨k, hk, trivial⟩) h
  exact ⟨l, h1, h2⟩
theorem rd_rowsI (h : rd enc Try.prog w held n 22 cs d) : ∃ l : List (List Int), AllR w [zss l] cs ∧ l.length ≤ maxN := by
  obtain ⟨l, h1, h2, _⟩ := rd_rows (fun r : List Int => [zvs r]) (fun _ => True) (sz := 1) u_rows (by kernel_rfl) (by decide) (fun _ => rfl) (fun m cs d _ h => by
    obtain ⟨r, hr, _⟩ := rd_ints h
    exact ⟨r, hr, trivial⟩) h
  exact ⟨l, h1, h2⟩
end
end Go.Proofs.Ytkfdklocgpgbfaa
