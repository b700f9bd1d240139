/- The two checkers agree. -/
import Derived.Test.YtjpjcjnacnlhdaaGreatBh
import Derived.Test.YtjpjcjnacnlhdaaGreatBe
import Derived.Test.YtjpjcjnacnlhdaaGreatCl1
import Derived.Test.YtjpjcjnacnlhdaaGreatBj
import Derived.Test.YtjpjcjnacnlhdaaGreatDx5
namespace Go.Proofs.YtjpjcjnacnlhdaaGreat
open Go.RowKit
set_option linter.unusedSimpArgs false
set_option linter.unusedVariables false

theorem ev_fn {q : Q} {r : Rs} {ent : Ent} {sh : Shape} {args : List AV} {h h' : List AObj} {v : AV} (he : EE q.k = ent) (hl : ent.lp = none) (hs : shp SS EE q.k r.1 = sh) (ha : openAVs (nm q.xs) ent.args = args) (hh : openH (nm q.xs) ent.h = h) (hv : openAV (nm r.2) sh.v = v) (hh' : openH (nm r.2) sh.h = h')
    (hn : q.xs.length = ent.n) (hr : ent.rin = []) (hns : NSL q.xs) (h0 : ev q = some r) : Sem Tryz.prog ent.f args h v h' ∧ NSL r.2 := by
  obtain ⟨h1, h2⟩ := ev_sound h0 ⟨by rw [he]; exact hn, hns, by rw [he, hr]; intro i hi; cases hi⟩
  refine ⟨?_, h2.ns⟩
  unfold SemQ at h1
  rw [he, hl] at h1
  simp only at h1
  rw [hs, ha, hh, hv, hh'] at h1
  exact h1
theorem pg_ns (p : Pg) : NSL [dts p.datas, cls p.classes, its p.insts, bds p.binds] := by simp
theorem small_sem (p : Pg) (hp : p.Ok) : ∃ b : Bool, Sem Tryz.prog 12 [pgA p] [] (.pv (bv b)) [] ∧ (b = true → FewOk p.toEv p.binds) := by
  obtain ⟨b, hb, hF⟩ := sm_ok p.toEv p.binds hp
  exact ⟨b, (ev_fn (q := q12 (dts p.datas) (cls p.classes) (its p.insts) (bds p.binds)) (r := (0, [bv b])) (ent := en1) (sh := { v := .pv (.sym 0), m := 1 }) (by kernel_rfl) rfl (by kernel_rfl) rfl rfl rfl rfl rfl rfl (pg_ns p) hb).1, hF⟩
def allS (v : Ev) : List ByteArray := (v.classes.map Cl.supers).flatten
theorem flat_len {α β : Type} (f : α → List β) : ∀ (l : List α), (∀ x ∈ l, (f x).length ≤ 20) → ((l.map f).flatten).length ≤ 20 * l.length
  | [], _ => by simp
  | a :: l, h => by
    have h1 := h a (List.mem_cons_self ..)
    have h2 := flat_len f l (fun x hx => h x (List.mem_cons_of_mem _ hx))
    simp only [List.map_cons, List.flatten_cons, List.length_append, List.length_cons]
    omega
theorem cnt_lenU (U : List ByteArray) : cnt U [] ≤ U.length := by
  unfold cnt
  exact List.length_filter_le _ _
theorem big_of {p : Pg} (hp : p.Ok) (hF : FewOk p.toEv p.binds) : Big p.toEv (allS p.toEv) (allS p.toEv).length := by
  have hl : (allS p.toEv).length ≤ 20 * p.classes.length := flat_len Cl.supers p.classes (fun x hx => (hF.cm x hx).2.2)
  have hc := hF.c
  have hcn := cnt_lenU (allS p.toEv)
  refine ⟨⟨hp.cn, fun x hx => ?_, fun x hx s hs => ?_⟩, by omega, ?_⟩
  · have := (hF.cm x hx).2.2; unfold maxN; omega
  · exact List.mem_flatten.2 ⟨x.supers, List.mem_map.2 ⟨x, hx, rfl⟩, hs⟩
  · have : p.classes.length ≤ 20 := hc
    omega
theorem fit_of {p : Pg} (hp : p.Ok) (hF : FewOk p.toEv p.binds) : Fit p.toEv := by
  have h1 := hF.d
  have h2 := hF.c
  have h3 := hF.i
  refine { d := hp.dn, c := hp.cn, i := hp.tn, m := fun c hc => ?_, x := fun x hx => ?_, dl := by omega, dc := fun d hd => ?_, cl := by omega, cm := fun c hc => ?_ }
  · obtain ⟨a, b, _⟩ := hF.cm c hc; omega
  · obtain ⟨a, b, c⟩ := hF.ii x hx; unfold maxN; omega
  · obtain ⟨o1, ⟨o2, o3⟩, o4⟩ := hp.d d hd
    have := hF.dc d hd
    exact ⟨by omega, o1, fun c hc => o3 c hc⟩
  · obtain ⟨o1, ⟨o2, o3⟩, o4, o5⟩ := hp.c c hc
    obtain ⟨a, b, _⟩ := hF.cm c hc
    exact ⟨by omega, o1, fun m hm => ⟨(o3 m hm).1, by have := (o3 m hm).2; omega⟩⟩
def errS (p : Pg) : Int × Int := match checkF p.toEv (allS p.toEv).length p.binds with
  | some f => f
  | none => (0, 0)
theorem check_r_sem (p : Pg) (hp : p.Ok) (hF : FewOk p.toEv p.binds) (hl : p.binds.length ≤ 1000000000) : Sem Tryz.prog 9 [pgA p] [] (.agg [.pv (iv (errS p).1), .pv (iv (errS p).2)]) [] := by
  have h := check_r (big_of hp hF) (fit_of hp hF) p.binds hl
  have h2 : ev (q9 (dts p.datas) (cls p.classes) (its p.insts) (bds p.binds)) = some (0, [iv (errS p).1, iv (errS p).2]) := by
    rw [h]
    unfold errS
    cases checkF p.toEv (allS p.toEv).length p.binds <;> rfl
  exact (ev_fn (q := q9 (dts p.datas) (cls p.classes) (its p.insts) (bds p.binds)) (r := (0, [iv (errS p).1, iv (errS p).2])) (ent := en154) (sh := { v := .agg [.pv (.sym 0), .pv (.sym 1)], m := 2 }) (by kernel_rfl) rfl (by kernel_rfl) rfl rfl rfl rfl rfl rfl (pg_ns p) h2).1
theorem run_sem (p : Pg) (hp : p.Ok) (hF : FewOk p.toEv p.binds) (hl : p.binds.length ≤ 1000000000) : ∃ m, NS m ∧ Sem Tryz.prog 39 [.ptr 0 0, .pv (bds p.binds)] [.box 97 [.pv (dts p.datas), .pv (cls p.classes), .pv (its p.insts), .mp 1], .mp [] [.pv (.rows [])]] (.agg [.pv (iv (errS p).1), .pv (iv (errS p).2)])
    [.box 97 [.pv (dts p.datas), .pv (cls p.classes), .pv (its p.insts), .mp 1], .mp [] [.pv m]] := by
  obtain ⟨m, h⟩ := run_p (big_of hp hF) (fit_of hp hF) p.binds hl
  have h2 : ev (q39a (bds p.binds) (dts p.datas) (cls p.classes) (its p.insts) (.rows [])) = some (0, [dts p.datas, cls p.classes, its p.insts, m, iv (errS p).1, iv (errS p).2]) := by
    rw [h]
    unfold errS
    cases checkF p.toEv (allS p.toEv).length p.binds <;> rfl
  obtain ⟨h3, h4⟩ := ev_fn (q := q39a (bds p.binds) (dts p.datas) (cls p.classes) (its p.insts) (.rows [])) (r := (0, [dts p.datas, cls p.classes, its p.insts, m, iv (errS p).1, iv (errS p).2])) (ent := en82)
    (sh := { v := .agg [.pv (.sym 4), .pv (.sym 5)], h := [.box 97 [.pv (.sym 0), .pv (.sym 1), .pv (.sym 2), .mp 1], .mp [] [.pv (.sym 3)]], m := 6 }) (by kernel_rfl) rfl (by kernel_rfl) rfl rfl rfl rfl rfl rfl (by have hz : NS (.rows []) := ns_strs []; simp [hz]) h2
  exact ⟨m, h4 m (by simp), h3⟩
theorem errS_none (p : Pg) : (errS p).1 = 0 → (errS p) = (0, 0) := by
  unfold errS
  cases h : checkF p.toEv (allS p.toEv).length p.binds with
  | none => intro _; rfl
  | some f => intro h0; exact absurd h0 (checkF_ne h)
theorem den_check (p : Pg) {v : AV} {h' : List AObj} (hd : Den Tryz.prog Tryz.f8 T8 [dts p.datas, cls p.classes, its p.insts, bds p.binds] (.ret v h')) : Sem Tryz.prog 8 [pgA p] [] v h' :=
  fun_rule f8_at f8_body mixed f8_tab (args := A8) (h := H8) (by kernel_rfl) c8 rfl (pg_ns p) (by simp only [A8, TsAs, TsA, nm, isRow, List.getD_cons_zero, List.getD_cons_succ, and_self, and_true]) (by trivial) hd
theorem check_sem (p : Pg) (hp : p.Ok) (hF : FewOk p.toEv p.binds) (hl : p.binds.length ≤ 1000000000) : ∃ a b c, NS a ∧ NS b ∧ NS c ∧ Sem Tryz.prog 8 [pgA p] [] (.tup [.agg [.pv a, .pv b, .pv c], .agg [.pv (iv (errS p).1), .pv (iv (errS p).2)]]) [] := by
  have g1 := hF.d
  have g2 := hF.c
  have g3 := hF.i
  have s1 := clone_dts p.datas (by omega)
  have s2 := clone_cls p.classes (by omega)
  have s3 := clone_its p.insts (by omega)
  obtain ⟨m, hm, s4⟩ := run_sem p hp hF hl
  by_cases h0 : (errS p).1 = 0
  · have e := errS_none p h0
    refine ⟨dts p.datas, cls p.classes, its p.insts, by simp, by simp, by simp, den_check p ?_⟩
    unfold T8
    rw [e] at s4 ⊢
    rw [Den, exN]
    refine ⟨dts p.datas, ?_⟩
    rw [exN]
    refine ⟨⟨⟨s1, by trivial, by trivial⟩, ?_⟩, by simp⟩
    rw [Den, exN]
    refine ⟨cls p.classes, ?_⟩
    rw [exN]
    refine ⟨⟨⟨s2, by trivial, by trivial⟩, ?_⟩, by simp⟩
    rw [Den, exN]
    refine ⟨its p.insts, ?_⟩
    rw [exN]
    refine ⟨⟨⟨s3, by trivial, by trivial⟩, ?_⟩, by simp⟩
    rw [Den, exN]
    refine ⟨m, ?_⟩
    rw [exN]
    refine ⟨iv 0, ?_⟩
    rw [exN]
    refine ⟨iv 0, ?_⟩
    rw [exN]
    refine ⟨⟨⟨⟨⟨s4, by simp, by simp⟩, ?_⟩, hm⟩, by simp⟩, by simp⟩
    rw [Den]
    refine .inr ?_
    simp [nm]
  · refine ⟨nilS, nilS, nilS, by simp, by simp, by simp, den_check p ?_⟩
    unfold T8
    rw [Den, exN]
    refine ⟨dts p.datas, ?_⟩
    rw [exN]
    refine ⟨⟨⟨s1, by trivial, by trivial⟩, ?_⟩, by simp⟩
    rw [Den, exN]
    refine ⟨cls p.classes, ?_⟩
    rw [exN]
    refine ⟨⟨⟨s2, by trivial, by trivial⟩, ?_⟩, by simp⟩
    rw [Den, exN]
    refine ⟨its p.insts, ?_⟩
    rw [exN]
    refine ⟨⟨⟨s3, by trivial, by trivial⟩, ?_⟩, by simp⟩
    rw [Den, exN]
    refine ⟨m, ?_⟩
    rw [exN]
    refine ⟨iv (errS p).1, ?_⟩
    rw [exN]
    refine ⟨iv (errS p).2, ?_⟩
    rw [exN]
    refine ⟨⟨⟨⟨⟨s4, by simp, by simp⟩, ?_⟩, hm⟩, by simp⟩, by simp⟩
    rw [Den]
    refine .inl ?_
    simp [nm, h0]
theorem den_raw (p : Pg) {v : AV} {h' : List AObj} (hd : Den Tryz.prog Tryz.f4 T4 [dts p.datas, cls p.classes, its p.insts, bds p.binds] (.ret v h')) : Sem Tryz.prog 4 [pgA p] [] v h' :=
  fun_rule f4_at f4_body mixed f4_tab (args := A4) (h := H4) (by kernel_rfl) c4 rfl (pg_ns p) (by simp only [A4, TsAs, TsA, nm, isRow, List.getD_cons_zero, List.getD_cons_succ, and_self, and_true]) (by trivial) hd
theorem raw_ok (p : Pg) (hp : p.Ok) : Sem Tryz.prog 4 [pgA p] [] (.pv (bv true)) [] := by
  obtain ⟨b, sb, hF⟩ := small_sem p hp
  have sa := awake_sem
  refine den_raw p ?_
  unfold T4
  rw [Den]
  refine .inl ?_
  rw [Den, exN]
  refine ⟨⟨sa, by trivial, by trivial⟩, ?_⟩
  rw [Den]
  cases b with
  | false =>
    refine .inr ?_
    rw [Den, exN]
    refine ⟨⟨sb, by trivial, by trivial⟩, ?_⟩
    simp [nm]
  | true =>
    have hF := hF rfl
    have hl : p.binds.length ≤ 1000000000 := by have := hF.b; omega
    obtain ⟨a, b, c, na, nb, nc, s8⟩ := check_sem p hp hF hl
    have s9 := check_r_sem p hp hF hl
    refine .inl ?_
    rw [Den, exN]
    refine ⟨⟨sb, by trivial, by trivial⟩, ?_⟩
    rw [Den, exN]
    refine ⟨a, ?_⟩
    rw [exN]
    refine ⟨b, ?_⟩
    rw [exN]
    refine ⟨c, ?_⟩
    rw [exN]
    refine ⟨iv (errS p).1, ?_⟩
    rw [exN]
    refine ⟨iv (errS p).2, ?_⟩
    rw [exN]
    refine ⟨⟨⟨⟨⟨⟨⟨s8, by trivial, by trivial⟩, ?_⟩, na⟩, nb⟩, nc⟩, by simp⟩, by simp⟩
    rw [Den, exN]
    refine ⟨iv (errS p).1, ?_⟩
    rw [exN]
    refine ⟨iv (errS p).2, ?_⟩
    rw [exN]
    refine ⟨⟨⟨⟨s9, by trivial, by trivial⟩, ?_⟩, by simp⟩, by simp⟩
    rw [Den]
    refine .inl ?_
    simp [nm]
end Go.Proofs.YtjpjcjnacnlhdaaGreat
