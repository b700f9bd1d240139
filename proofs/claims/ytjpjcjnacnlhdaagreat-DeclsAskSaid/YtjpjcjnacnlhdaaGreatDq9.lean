/- What declarations mean is as the document says. -/
import Derived.Test.YtjpjcjnacnlhdaaGreatDq8
namespace Go.Proofs.YtjpjcjnacnlhdaaGreat
open Go.RowKit
set_option linter.unusedSimpArgs false
set_option linter.unusedVariables false

def D0 : Tr := .say (.mx false (.pv (.sym 34)) (.pv (.lit (.int .i64 0))) (.pv (.sym 35))) 1 (.alt (.say (.bin .eql 3 (.pv (.sym 33)) (.pv (.sym 35)) (.pv (.lit (.bool true)))) 0 (.call ⟨26, [.agg [.pv (.sym 10), .pv (.sym 11), .pv (.sym 12)], .pv (.sym 4)], [], .pv (.sym 36), []⟩ 1 (.call ⟨27, [.agg [.pv (.sym 10), .pv (.sym 11), .pv (.sym 12)], .pv (.sym 4)], [], .pv (.sym 37), []⟩ 1 (.alt (.call ⟨25, [.pv (.sym 36), .pv (.sym 37)], [], .pv (.lit (.bool true)), []⟩ 0 (.ret (.pv (.lit (.bool true))) [])) (.call ⟨25, [.pv (.sym 36), .pv (.sym 37)], [], .pv (.lit (.bool false)), []⟩ 0 (.ret (.pv (.lit (.bool false))) [])))))) (.say (.bin .eql 3 (.pv (.sym 33)) (.pv (.sym 35)) (.pv (.lit (.bool false)))) 0 (.ret (.pv (.lit (.bool false))) [])))
def D1 : Tr := .say (.mx false (.pv (.sym 29)) (.pv (.lit (.int .i64 0))) (.pv (.sym 31))) 1 (.alt (.say (.bin .neq 3 (.pv (.sym 27)) (.pv (.sym 31)) (.pv (.lit (.bool true)))) 0 (.ret (.pv (.lit (.bool false))) [])) (.say (.bin .neq 3 (.pv (.sym 27)) (.pv (.sym 31)) (.pv (.lit (.bool false)))) 0 (.say (.mx false (.pv (.sym 30)) (.pv (.lit (.int .i64 0))) (.pv (.sym 32))) 1 (.alt (.say (.bin .neq 3 (.pv (.sym 28)) (.pv (.sym 32)) (.pv (.lit (.bool true)))) 0 (.ret (.pv (.lit (.bool false))) [])) (.say (.bin .neq 3 (.pv (.sym 28)) (.pv (.sym 32)) (.pv (.lit (.bool false)))) 0 (.alt (.call ⟨23, [.agg [.pv (.sym 10), .pv (.sym 11), .pv (.sym 12)], .pv (.sym 4), .pv (.sym 6)], [], .tup [.pv (.sym 33), .pv (.lit (.bool true))], []⟩ 1 (.call ⟨24, [.agg [.pv (.sym 10), .pv (.sym 11), .pv (.sym 12)], .pv (.sym 4), .pv (.sym 6)], [], .pv (.sym 34), []⟩ 1 (.alt (.say (.bin .geq 3 (.pv (.sym 34)) (.pv (.lit (.int .i64 0))) (.pv (.lit (.bool true)))) 0 (D0)) (.say (.bin .geq 3 (.pv (.sym 34)) (.pv (.lit (.int .i64 0))) (.pv (.lit (.bool false)))) 0 (.ret (.pv (.lit (.bool false))) []))))) (.call ⟨23, [.agg [.pv (.sym 10), .pv (.sym 11), .pv (.sym 12)], .pv (.sym 4), .pv (.sym 6)], [], .tup [.pv (.sym 33), .pv (.lit (.bool false))], []⟩ 1 (.call ⟨24, [.agg [.pv (.sym 10), .pv (.sym 11), .pv (.sym 12)], .pv (.sym 4), .pv (.sym 6)], [], .pv (.sym 34), []⟩ 1 (.alt (.say (.bin .geq 3 (.pv (.sym 34)) (.pv (.lit (.int .i64 0))) (.pv (.lit (.bool true)))) 0 (.ret (.pv (.lit (.bool false))) [])) (.say (.bin .geq 3 (.pv (.sym 34)) (.pv (.lit (.int .i64 0))) (.pv (.lit (.bool false)))) 0 (D0)))))))))))
def D2 : Tr := .say (.mx false (.pv (.sym 25)) (.pv (.lit (.int .i64 0))) (.pv (.sym 26))) 1 (.alt (.say (.bin .neq 3 (.pv (.sym 24)) (.pv (.sym 26)) (.pv (.lit (.bool true)))) 0 (.ret (.pv (.lit (.bool false))) [])) (.say (.bin .neq 3 (.pv (.sym 24)) (.pv (.sym 26)) (.pv (.lit (.bool false)))) 0 (.alt (.call ⟨21, [.agg [.pv (.sym 10), .pv (.sym 11), .pv (.sym 12)], .pv (.sym 4)], [], .tup [.pv (.sym 27), .pv (.sym 28), .pv (.lit (.bool true))], []⟩ 2 (.call ⟨22, [.agg [.pv (.sym 10), .pv (.sym 11), .pv (.sym 12)], .pv (.sym 4)], [], .tup [.pv (.sym 29), .pv (.sym 30)], []⟩ 2 (.alt (.say (.bin .geq 3 (.pv (.sym 29)) (.pv (.lit (.int .i64 0))) (.pv (.lit (.bool true)))) 0 (D1)) (.say (.bin .geq 3 (.pv (.sym 29)) (.pv (.lit (.int .i64 0))) (.pv (.lit (.bool false)))) 0 (.ret (.pv (.lit (.bool false))) []))))) (.call ⟨21, [.agg [.pv (.sym 10), .pv (.sym 11), .pv (.sym 12)], .pv (.sym 4)], [], .tup [.pv (.sym 27), .pv (.sym 28), .pv (.lit (.bool false))], []⟩ 2 (.call ⟨22, [.agg [.pv (.sym 10), .pv (.sym 11), .pv (.sym 12)], .pv (.sym 4)], [], .tup [.pv (.sym 29), .pv (.sym 30)], []⟩ 2 (.alt (.say (.bin .geq 3 (.pv (.sym 29)) (.pv (.lit (.int .i64 0))) (.pv (.lit (.bool true)))) 0 (.ret (.pv (.lit (.bool false))) [])) (.say (.bin .geq 3 (.pv (.sym 29)) (.pv (.lit (.int .i64 0))) (.pv (.lit (.bool false)))) 0 (D1))))))))
def D3 : Tr := .say (.mx false (.pv (.sym 20)) (.pv (.lit (.int .i64 0))) (.pv (.sym 22))) 1 (.alt (.say (.bin .neq 3 (.pv (.sym 18)) (.pv (.sym 22)) (.pv (.lit (.bool true)))) 0 (.ret (.pv (.lit (.bool false))) [])) (.say (.bin .neq 3 (.pv (.sym 18)) (.pv (.sym 22)) (.pv (.lit (.bool false)))) 0 (.say (.mx false (.pv (.sym 21)) (.pv (.lit (.int .i64 0))) (.pv (.sym 23))) 1 (.alt (.say (.bin .neq 3 (.pv (.sym 19)) (.pv (.sym 23)) (.pv (.lit (.bool true)))) 0 (.ret (.pv (.lit (.bool false))) [])) (.say (.bin .neq 3 (.pv (.sym 19)) (.pv (.sym 23)) (.pv (.lit (.bool false)))) 0 (.alt (.call ⟨19, [.agg [.pv (.sym 10), .pv (.sym 11), .pv (.sym 12)], .pv (.sym 4)], [], .tup [.pv (.sym 24), .pv (.lit (.bool true))], []⟩ 1 (.call ⟨20, [.agg [.pv (.sym 10), .pv (.sym 11), .pv (.sym 12)], .pv (.sym 4)], [], .pv (.sym 25), []⟩ 1 (.alt (.say (.bin .geq 3 (.pv (.sym 25)) (.pv (.lit (.int .i64 0))) (.pv (.lit (.bool true)))) 0 (D2)) (.say (.bin .geq 3 (.pv (.sym 25)) (.pv (.lit (.int .i64 0))) (.pv (.lit (.bool false)))) 0 (.ret (.pv (.lit (.bool false))) []))))) (.call ⟨19, [.agg [.pv (.sym 10), .pv (.sym 11), .pv (.sym 12)], .pv (.sym 4)], [], .tup [.pv (.sym 24), .pv (.lit (.bool false))], []⟩ 1 (.call ⟨20, [.agg [.pv (.sym 10), .pv (.sym 11), .pv (.sym 12)], .pv (.sym 4)], [], .pv (.sym 25), []⟩ 1 (.alt (.say (.bin .geq 3 (.pv (.sym 25)) (.pv (.lit (.int .i64 0))) (.pv (.lit (.bool true)))) 0 (.ret (.pv (.lit (.bool false))) [])) (.say (.bin .geq 3 (.pv (.sym 25)) (.pv (.lit (.int .i64 0))) (.pv (.lit (.bool false)))) 0 (D2)))))))))))
def D4 : Tr := .say (.mx false (.pv (.sym 14)) (.pv (.lit (.int .i64 0))) (.pv (.sym 15))) 1 (.alt (.say (.bin .neq 3 (.pv (.sym 13)) (.pv (.sym 15)) (.pv (.lit (.bool true)))) 0 (.ret (.pv (.lit (.bool false))) [])) (.say (.bin .neq 3 (.pv (.sym 13)) (.pv (.sym 15)) (.pv (.lit (.bool false)))) 0 (.call ⟨15, [.agg [.pv (.sym 10), .pv (.sym 11), .pv (.sym 12)], .pv (.rows [[.sym 4], [.lit (.string ⟨#[97]⟩)]]), .agg [.pv (.sym 5), .pv (.sym 6), .pv (.sym 7), .pv (.sym 8)]], [], .pv (.sym 16), []⟩ 1 (.call ⟨16, [.agg [.pv (.sym 10), .pv (.sym 11), .pv (.sym 12)], .pv (.rows [[.sym 4], [.lit (.string ⟨#[97]⟩)]]), .agg [.pv (.sym 5), .pv (.sym 6), .pv (.sym 7), .pv (.sym 8)]], [], .pv (.sym 17), []⟩ 1 (.alt (.say (.bin .neq 3 (.pv (.sym 16)) (.pv (.sym 17)) (.pv (.lit (.bool true)))) 0 (.ret (.pv (.lit (.bool false))) [])) (.say (.bin .neq 3 (.pv (.sym 16)) (.pv (.sym 17)) (.pv (.lit (.bool false)))) 0 (.alt (.call ⟨17, [.agg [.pv (.sym 10), .pv (.sym 11), .pv (.sym 12)], .pv (.sym 4)], [], .tup [.pv (.sym 18), .pv (.sym 19), .pv (.lit (.bool true))], []⟩ 2 (.call ⟨18, [.agg [.pv (.sym 10), .pv (.sym 11), .pv (.sym 12)], .pv (.sym 4)], [], .tup [.pv (.sym 20), .pv (.sym 21)], []⟩ 2 (.alt (.say (.bin .geq 3 (.pv (.sym 20)) (.pv (.lit (.int .i64 0))) (.pv (.lit (.bool true)))) 0 (D3)) (.say (.bin .geq 3 (.pv (.sym 20)) (.pv (.lit (.int .i64 0))) (.pv (.lit (.bool false)))) 0 (.ret (.pv (.lit (.bool false))) []))))) (.call ⟨17, [.agg [.pv (.sym 10), .pv (.sym 11), .pv (.sym 12)], .pv (.sym 4)], [], .tup [.pv (.sym 18), .pv (.sym 19), .pv (.lit (.bool false))], []⟩ 2 (.call ⟨18, [.agg [.pv (.sym 10), .pv (.sym 11), .pv (.sym 12)], .pv (.sym 4)], [], .tup [.pv (.sym 20), .pv (.sym 21)], []⟩ 2 (.alt (.say (.bin .geq 3 (.pv (.sym 20)) (.pv (.lit (.int .i64 0))) (.pv (.lit (.bool true)))) 0 (.ret (.pv (.lit (.bool false))) [])) (.say (.bin .geq 3 (.pv (.sym 20)) (.pv (.lit (.int .i64 0))) (.pv (.lit (.bool false)))) 0 (D3))))))))))))
def D5 : Tr := .alt (.call ⟨6, [], [], .pv (.lit (.bool true)), []⟩ 0 (.alt (.call ⟨12, [.agg [.pv (.sym 0), .pv (.sym 1), .pv (.sym 2), .pv (.sym 3)]], [], .pv (.lit (.bool true)), []⟩ 0 (.say (.len 45 (.pv (.sym 8)) (.pv (.sym 9))) 1 (.alt (.say (.bin .gtr 3 (.pv (.sym 9)) (.pv (.lit (.int .i64 20))) (.pv (.lit (.bool true)))) 0 (.ret (.pv (.lit (.bool true))) [])) (.say (.bin .gtr 3 (.pv (.sym 9)) (.pv (.lit (.int .i64 20))) (.pv (.lit (.bool false)))) 0 (.call ⟨10, [.agg [.pv (.sym 0), .pv (.sym 1), .pv (.sym 2), .pv (.sym 3)]], [], .agg [.pv (.sym 10), .pv (.sym 11), .pv (.sym 12)], []⟩ 3 (.alt (.call ⟨13, [.agg [.pv (.sym 10), .pv (.sym 11), .pv (.sym 12)], .pv (.sym 4)], [], .tup [.pv (.sym 13), .pv (.lit (.bool true))], []⟩ 1 (.call ⟨14, [.agg [.pv (.sym 10), .pv (.sym 11), .pv (.sym 12)], .pv (.sym 4)], [], .pv (.sym 14), []⟩ 1 (.alt (.say (.bin .geq 3 (.pv (.sym 14)) (.pv (.lit (.int .i64 0))) (.pv (.lit (.bool true)))) 0 (D4)) (.say (.bin .geq 3 (.pv (.sym 14)) (.pv (.lit (.int .i64 0))) (.pv (.lit (.bool false)))) 0 (.ret (.pv (.lit (.bool false))) []))))) (.call ⟨13, [.agg [.pv (.sym 10), .pv (.sym 11), .pv (.sym 12)], .pv (.sym 4)], [], .tup [.pv (.sym 13), .pv (.lit (.bool false))], []⟩ 1 (.call ⟨14, [.agg [.pv (.sym 10), .pv (.sym 11), .pv (.sym 12)], .pv (.sym 4)], [], .pv (.sym 14), []⟩ 1 (.alt (.say (.bin .geq 3 (.pv (.sym 14)) (.pv (.lit (.int .i64 0))) (.pv (.lit (.bool true)))) 0 (.ret (.pv (.lit (.bool false))) [])) (.say (.bin .geq 3 (.pv (.sym 14)) (.pv (.lit (.int .i64 0))) (.pv (.lit (.bool false)))) 0 (D4))))))))))) (.call ⟨12, [.agg [.pv (.sym 0), .pv (.sym 1), .pv (.sym 2), .pv (.sym 3)]], [], .pv (.lit (.bool false)), []⟩ 0 (.ret (.pv (.lit (.bool true))) [])))) (.call ⟨6, [], [], .pv (.lit (.bool false)), []⟩ 0 (.ret (.pv (.lit (.bool false))) []))

theorem env_ok (p : Pg) : Sem Tryz.prog 10 [pgA p] [] (evA p.toEv) [] := by
  refine F10 _ _ _ _ (by simp) ?_
  simp [T10]
def supsOf (p : Pg) : List ByteArray := p.classes.flatMap fun x => x.supers
theorem supsOf_ok {p : Pg} (hp : p.Ok) (h : FewOk p) : SupOk p.toEv (supsOf p) ∧ cnt (supsOf p) [] ≤ 100000000000 := by
  refine ⟨⟨hp.cn, fun x hx => (hp.c x hx).1, fun x hx s hs => List.mem_flatMap.2 ⟨x, hx, hs⟩⟩, ?_⟩
  have key : ∀ l : List Cl, (∀ x ∈ l, x.supers.length ≤ 20) → (l.flatMap fun x => x.supers).length ≤ l.length * 20 := by
    intro l
    induction l with
    | nil => intro _; simp
    | cons x l ih =>
      intro hl
      have h1 := ih fun y hy => hl y (List.mem_cons_of_mem _ hy)
      have h2 := hl x (List.mem_cons_self ..)
      rw [List.flatMap_cons, List.length_append, List.length_cons]
      omega
  have h1 := key p.classes h.2
  have h2 : cnt (supsOf p) [] ≤ (supsOf p).length := List.length_filter_le _ _
  have h3 := h.1
  unfold supsOf at h2 ⊢
  omega
section
variable (p : Pg) (hp : p.Ok) (name : ByteArray) (t : Ty) (ht : t.Ok)
include hp
theorem den0 (hf : FewOk p) : Den Tryz.prog Tryz.f5 D0 [dts p.datas, cls p.classes, its p.insts, bds p.binds, sv name, iv t.kind, sv t.name, iv t.n, tys t.kids, iv t.kids.length, dts p.datas, cls p.classes, its p.insts, iv (max (arity p.toEv name) 0), iv (arity p.toEv name), iv (max (arity p.toEv name) 0), iv (rightI p.toEv [name, ⟨#[97]⟩] t), iv (rightI p.toEv [name, ⟨#[97]⟩] t), iv (max (fi (hasCn name) p.datas) 0), iv (max (inCn p.toEv name) 0), iv (fi (hasCn name) p.datas), iv (inCn p.toEv name), iv (max (fi (hasCn name) p.datas) 0), iv (max (inCn p.toEv name) 0), iv (max (fi (isCl name) p.classes) 0), iv (fi (isCl name) p.classes), iv (max (fi (isCl name) p.classes) 0), iv (max (fi (hasMd name) p.classes) 0), iv (max (inMd p.toEv name) 0), iv (fi (hasMd name) p.classes), iv (inMd p.toEv name), iv (max (fi (hasMd name) p.classes) 0), iv (max (inMd p.toEv name) 0), iv (max (fi (isIt name t.name) p.insts) 0), iv (fi (isIt name t.name) p.insts)] (.ret (.pv (bv true)) []) := by
  obtain ⟨h1, h2⟩ := supsOf_ok hp hf
  have ha := above_p h1 name h2
  have hr := above_r h1 name h2
  have hL := upN_len h1 (cnt (supsOf p) [] + 1) [] name
  generalize upN p.toEv (cnt (supsOf p) [] + 1) [] name = r at ha hr hL
  have ht := texts_same r (by simp at hL; unfold maxN; omega)
  simp [D0]
  exact ⟨_, ha, ⟨_, hr, ht, by simp⟩, by simp⟩
theorem den1 (hf : FewOk p) : Den Tryz.prog Tryz.f5 D1 [dts p.datas, cls p.classes, its p.insts, bds p.binds, sv name, iv t.kind, sv t.name, iv t.n, tys t.kids, iv t.kids.length, dts p.datas, cls p.classes, its p.insts, iv (max (arity p.toEv name) 0), iv (arity p.toEv name), iv (max (arity p.toEv name) 0), iv (rightI p.toEv [name, ⟨#[97]⟩] t), iv (rightI p.toEv [name, ⟨#[97]⟩] t), iv (max (fi (hasCn name) p.datas) 0), iv (max (inCn p.toEv name) 0), iv (fi (hasCn name) p.datas), iv (inCn p.toEv name), iv (max (fi (hasCn name) p.datas) 0), iv (max (inCn p.toEv name) 0), iv (max (fi (isCl name) p.classes) 0), iv (fi (isCl name) p.classes), iv (max (fi (isCl name) p.classes) 0), iv (max (fi (hasMd name) p.classes) 0), iv (max (inMd p.toEv name) 0), iv (fi (hasMd name) p.classes), iv (inMd p.toEv name)] (.ret (.pv (bv true)) []) := by
  have h0 := den0 p hp name t hf
  have h1 := inst_p p.toEv hp.tn name t.name
  have h2 := inst_r p.toEv hp.tn name t.name
  by_cases hc : 0 ≤ (fi (isIt name t.name) p.insts)
  · rw [decide_eq_true hc] at h1
    simp [D1]
    exact .inl ⟨_, h1, ⟨_, h2, by simp [hc], h0, by simp⟩, by simp⟩
  · rw [decide_eq_false hc] at h1
    have hc' := Int.not_le.1 hc
    simp [D1]
    exact .inr ⟨_, h1, ⟨_, h2, by simp [hc, hc'], h0, by simp⟩, by simp⟩
theorem den2 (hf : FewOk p) : Den Tryz.prog Tryz.f5 D2 [dts p.datas, cls p.classes, its p.insts, bds p.binds, sv name, iv t.kind, sv t.name, iv t.n, tys t.kids, iv t.kids.length, dts p.datas, cls p.classes, its p.insts, iv (max (arity p.toEv name) 0), iv (arity p.toEv name), iv (max (arity p.toEv name) 0), iv (rightI p.toEv [name, ⟨#[97]⟩] t), iv (rightI p.toEv [name, ⟨#[97]⟩] t), iv (max (fi (hasCn name) p.datas) 0), iv (max (inCn p.toEv name) 0), iv (fi (hasCn name) p.datas), iv (inCn p.toEv name), iv (max (fi (hasCn name) p.datas) 0), iv (max (inCn p.toEv name) 0), iv (max (fi (isCl name) p.classes) 0), iv (fi (isCl name) p.classes)] (.ret (.pv (bv true)) []) := by
  have h0 := den1 p hp name t hf
  have h1 := method_p p.toEv hp.cn (fun x hx => (hp.c x hx).2.1.1) name
  have h2 := method_r p.toEv hp.cn (fun x hx => (hp.c x hx).2.1.1) name
  by_cases hc : 0 ≤ (fi (hasMd name) p.classes)
  · rw [decide_eq_true hc] at h1
    simp [D2]
    exact .inl ⟨_, _, h1, ⟨_, _, h2, by simp [hc], h0, by simp, by simp⟩, by simp, by simp⟩
  · rw [decide_eq_false hc] at h1
    have hc' := Int.not_le.1 hc
    simp [D2]
    exact .inr ⟨_, _, h1, ⟨_, _, h2, by simp [hc, hc'], h0, by simp, by simp⟩, by simp, by simp⟩
theorem den3 (hf : FewOk p) : Den Tryz.prog Tryz.f5 D3 [dts p.datas, cls p.classes, its p.insts, bds p.binds, sv name, iv t.kind, sv t.name, iv t.n, tys t.kids, iv t.kids.length, dts p.datas, cls p.classes, its p.insts, iv (max (arity p.toEv name) 0), iv (arity p.toEv name), iv (max (arity p.toEv name) 0), iv (rightI p.toEv [name, ⟨#[97]⟩] t), iv (rightI p.toEv [name, ⟨#[97]⟩] t), iv (max (fi (hasCn name) p.datas) 0), iv (max (inCn p.toEv name) 0), iv (fi (hasCn name) p.datas), iv (inCn p.toEv name)] (.ret (.pv (bv true)) []) := by
  have h0 := den2 p hp name t hf
  have h1 := class_p p.toEv hp.cn name
  have h2 := class_r p.toEv hp.cn name
  by_cases hc : 0 ≤ (fi (isCl name) p.classes)
  · rw [decide_eq_true hc] at h1
    simp [D3]
    exact .inl ⟨_, h1, ⟨_, h2, by simp [hc], h0, by simp⟩, by simp⟩
  · rw [decide_eq_false hc] at h1
    have hc' := Int.not_le.1 hc
    simp [D3]
    exact .inr ⟨_, h1, ⟨_, h2, by simp [hc, hc'], h0, by simp⟩, by simp⟩
include ht
theorem den4 (hf : FewOk p) : Den Tryz.prog Tryz.f5 D4 [dts p.datas, cls p.classes, its p.insts, bds p.binds, sv name, iv t.kind, sv t.name, iv t.n, tys t.kids, iv t.kids.length, dts p.datas, cls p.classes, its p.insts, iv (max (arity p.toEv name) 0), iv (arity p.toEv name)] (.ret (.pv (bv true)) []) := by
  have h0 := den3 p hp name t hf
  have h1 := con_p p.toEv hp.dn (fun x hx => (hp.d x hx).2.1.1) name
  have h2 := con_r p.toEv hp.dn (fun x hx => (hp.d x hx).2.1.1) name
  have h3 := right_p p.toEv hp.dn [name, ⟨#[97]⟩] (by unfold maxN; simp) t ht
  have h4 := right_r p.toEv hp.dn [name, ⟨#[97]⟩] (by unfold maxN; simp) t ht
  by_cases hc : 0 ≤ (fi (hasCn name) p.datas)
  · rw [decide_eq_true hc] at h1
    simp [D4]
    exact ⟨_, h3, ⟨_, h4, by simp, .inl ⟨_, _, h1, ⟨_, _, h2, by simp [hc], h0, by simp, by simp⟩, by simp, by simp⟩, by simp⟩, by simp⟩
  · rw [decide_eq_false hc] at h1
    have hc' := Int.not_le.1 hc
    simp [D4]
    exact ⟨_, h3, ⟨_, h4, by simp, .inr ⟨_, _, h1, ⟨_, _, h2, by simp [hc, hc'], h0, by simp, by simp⟩, by simp, by simp⟩, by simp⟩, by simp⟩
theorem ask_ok (haw : Sem Tryz.prog 6 [] [] (.pv (bv true)) []) : Sem Tryz.prog 5 [pgA p, .pv (sv name), tyA t] [] (.pv (bv true)) [] := by
  have e : T5 = D5 := rfl
  refine F5 _ _ _ _ _ _ _ _ _ (by simp) ?_
  rw [e]
  obtain ⟨b, hb, hf⟩ := sm_ok p hp
  cases b with
  | false =>
    simp [D5]
    exact ⟨haw, .inr hb⟩
  | true =>
    by_cases hk : (20 : Int) < (t.kids.length : Int)
    · simp [D5]
      exact ⟨haw, .inl ⟨hb, .inl hk⟩⟩
    · have hk' := Int.not_lt.1 hk
      have h0 := den4 p hp name t ht (hf rfl)
      have h1 := arity_p p.toEv hp.dn name
      have h2 := arity_r p.toEv hp.dn name
      have he := env_ok p
      by_cases hc : 0 ≤ (arity p.toEv name)
      · rw [decide_eq_true hc] at h1
        simp [D5]
        exact ⟨haw, .inl ⟨hb, .inr ⟨hk', _, _, _, he, .inl ⟨_, h1, ⟨_, h2, by simp [hc], h0, by simp⟩, by simp⟩, by simp⟩⟩⟩
      · rw [decide_eq_false hc] at h1
        have hc' := Int.not_le.1 hc
        simp [D5]
        exact ⟨haw, .inl ⟨hb, .inr ⟨hk', _, _, _, he, .inr ⟨_, h1, ⟨_, h2, by simp [hc, hc'], h0, by simp⟩, by simp⟩, by simp⟩⟩⟩
end
end Go.Proofs.YtjpjcjnacnlhdaaGreat
