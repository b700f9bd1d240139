/- A program of few parts. -/
import Derived.Test.YtjpjcjnacnlhdaaGreatDq7
namespace Go.Proofs.YtjpjcjnacnlhdaaGreat
open Go.RowKit
set_option linter.unusedSimpArgs false
set_option linter.unusedVariables false

abbrev bxPg (p : Pg) : AObj := .box 28 [.pv (dts p.datas), .pv (cls p.classes), .pv (its p.insts), .pv (bds p.binds)]
theorem small_bd (x : Bd) (h : x.Ok) (m : Int) : ∃ b : Bool, Sem Tryz.prog 91 [exA x.e, .pv (iv m)] [] (.pv (bv b)) [] := by
  refine small_ex x.e ?_ m
  cases x
  rw [Bd.Ok] at h
  exact h
theorem few_b2 (p : Pg) (l : List Bd) (hl : l.length ≤ maxN) (hok : ∀ x ∈ l, x.Ok) (a b c : PV) (ha : NS a) (hb : NS b) (hc : NS c) :
    BlkS Tryz.prog Tryz.f50 2 [(63, .pv (iv 0)), (62, .pv (iv l.length)), (61, .pv (bds l)), (40, .pv a), (39, .pv b), (38, .pv c), (1, .ptr 0 0)] [bxPg p] .normal [(40, .pv a), (39, .pv b), (38, .pv c), (1, .ptr 0 0)] [bxPg p] ∨
    BlkS Tryz.prog Tryz.f50 2 [(63, .pv (iv 0)), (62, .pv (iv l.length)), (61, .pv (bds l)), (40, .pv a), (39, .pv b), (38, .pv c), (1, .ptr 0 0)] [bxPg p] .ret [(2, .pv (bv false))] [bxPg p] := by
  have main := ck_loop (P := Tryz.prog) (fn := Tryz.f50) (id := 2) (m0 := 1) (ex := .exit 2) l (fun _ => True) (fun i => [(63, .pv (iv i)), (62, .pv (iv l.length)), (61, .pv (bds l)), (40, .pv a), (39, .pv b), (38, .pv c), (1, .ptr 0 0)]) [bxPg p] [(40, .pv a), (39, .pv b), (38, .pv c), (1, .ptr 0 0)] [(2, .pv (bv false))] (by simp) ?_ ?_
  · rcases main with ⟨_, g⟩ | g
    · exact .inl (LoopS.block (h := [bxPg p]) f50_loop2 (by simp) g)
    · exact .inr (LoopS.blockRet (h := [bxPg p]) f50_loop2 (by simp) g)
  · intro i x hx
    have hi := lt_of_get hx
    have hw := wrap_lt hi hl
    obtain ⟨r, hr⟩ := small_bd x (hok x (List.mem_of_getElem? hx)) 400
    cases r with
    | true =>
      refine .inl ⟨trivial, fun R => ?_⟩
      refine L50b2a (iv i) (iv l.length) (bds l) a b c _ _ _ _ (by simp [ha, hb, hc]) (by simp [H50b2a]) ?_ R
      simp [T50b2a, hi, idx_bds hx, hw]
      first | exact hr | exact .inl hr | exact .inr hr
    | false =>
      refine .inr fun R => ?_
      refine L50b2a (iv i) (iv l.length) (bds l) a b c _ _ _ _ (by simp [ha, hb, hc]) (by simp [H50b2a]) ?_ R
      simp [T50b2a, hi, idx_bds hx, hw]
      first | exact hr | exact .inl hr | exact .inr hr
  · intro R
    refine L50b2a (iv l.length) (iv l.length) (bds l) a b c _ _ _ _ (by simp [ha, hb, hc]) (by simp [H50b2a]) ?_ R
    simp [T50b2a]
theorem few_b6 (p : Pg) (l : List Bd) (hl : l.length ≤ maxN) (hok : ∀ x ∈ l, x.Ok) (a b c : PV) (ha : NS a) (hb : NS b) (hc : NS c) :
    BlkS Tryz.prog Tryz.f50 6 [(100, .pv (iv 0)), (99, .pv (iv l.length)), (98, .pv (bds l)), (76, .pv a), (75, .pv b), (74, .pv c), (1, .ptr 0 0)] [bxPg p] .normal [(76, .pv a), (75, .pv b), (74, .pv c), (1, .ptr 0 0)] [bxPg p] ∨
    BlkS Tryz.prog Tryz.f50 6 [(100, .pv (iv 0)), (99, .pv (iv l.length)), (98, .pv (bds l)), (76, .pv a), (75, .pv b), (74, .pv c), (1, .ptr 0 0)] [bxPg p] .ret [(2, .pv (bv false))] [bxPg p] := by
  have main := ck_loop (P := Tryz.prog) (fn := Tryz.f50) (id := 6) (m0 := 1) (ex := .exit 6) l (fun _ => True) (fun i => [(100, .pv (iv i)), (99, .pv (iv l.length)), (98, .pv (bds l)), (76, .pv a), (75, .pv b), (74, .pv c), (1, .ptr 0 0)]) [bxPg p] [(76, .pv a), (75, .pv b), (74, .pv c), (1, .ptr 0 0)] [(2, .pv (bv false))] (by simp) ?_ ?_
  · rcases main with ⟨_, g⟩ | g
    · exact .inl (LoopS.block (h := [bxPg p]) f50_loop6 (by simp) g)
    · exact .inr (LoopS.blockRet (h := [bxPg p]) f50_loop6 (by simp) g)
  · intro i x hx
    have hi := lt_of_get hx
    have hw := wrap_lt hi hl
    obtain ⟨r, hr⟩ := small_bd x (hok x (List.mem_of_getElem? hx)) 400
    cases r with
    | true =>
      refine .inl ⟨trivial, fun R => ?_⟩
      refine L50b6a (iv i) (iv l.length) (bds l) a b c _ _ _ _ (by simp [ha, hb, hc]) (by simp [H50b6a]) ?_ R
      simp [T50b6a, hi, idx_bds hx, hw]
      first | exact hr | exact .inl hr | exact .inr hr
    | false =>
      refine .inr fun R => ?_
      refine L50b6a (iv i) (iv l.length) (bds l) a b c _ _ _ _ (by simp [ha, hb, hc]) (by simp [H50b6a]) ?_ R
      simp [T50b6a, hi, idx_bds hx, hw]
      first | exact hr | exact .inl hr | exact .inr hr
  · intro R
    refine L50b6a (iv l.length) (iv l.length) (bds l) a b c _ _ _ _ (by simp [ha, hb, hc]) (by simp [H50b6a]) ?_ R
    simp [T50b6a]
theorem few_b0 (p : Pg) (hp : p.Ok) :
    ((∀ x ∈ p.classes, x.supers.length ≤ 20) ∧ BlkS Tryz.prog Tryz.f50 0 [(40, .pv (iv 0)), (39, .pv (iv p.classes.length)), (38, .pv (cls p.classes)), (1, .ptr 0 0)] [bxPg p] .normal [(1, .ptr 0 0)] [bxPg p]) ∨
    BlkS Tryz.prog Tryz.f50 0 [(40, .pv (iv 0)), (39, .pv (iv p.classes.length)), (38, .pv (cls p.classes)), (1, .ptr 0 0)] [bxPg p] .ret [(2, .pv (bv false))] [bxPg p] := by
  have main := ck_loop (P := Tryz.prog) (fn := Tryz.f50) (id := 0) (m0 := 1) (ex := .exit 0) p.classes (fun x => x.supers.length ≤ 20) (fun i => [(40, .pv (iv i)), (39, .pv (iv p.classes.length)), (38, .pv (cls p.classes)), (1, .ptr 0 0)]) [bxPg p] [(1, .ptr 0 0)] [(2, .pv (bv false))] (by simp) ?_ ?_
  · rcases main with ⟨h, g⟩ | g
    · exact .inl ⟨h, LoopS.block (h := [bxPg p]) f50_loop0 (by simp) g⟩
    · exact .inr (LoopS.blockRet (h := [bxPg p]) f50_loop0 (by simp) g)
  · intro i x hx
    have hi := lt_of_get hx
    have hw := wrap_lt hi hp.cn
    have hok := hp.c x (List.mem_of_getElem? hx)
    by_cases h0 : (20 : Int) < (x.methods.length : Int)
    · refine .inr fun R => ?_
      refine L50b0a (iv i) (iv p.classes.length) (cls p.classes) _ _ _ _ (by simp) (by simp [H50b0a]) ?_ R
      simp [T50b0a, hi, idx_cls hx, hw, h0]
    · have h0' := Int.not_lt.1 h0
      by_cases h1 : (20 : Int) < (x.defaults.length : Int)
      · refine .inr fun R => ?_
        refine L50b0a (iv i) (iv p.classes.length) (cls p.classes) _ _ _ _ (by simp) (by simp [H50b0a]) ?_ R
        simp [T50b0a, hi, idx_cls hx, hw, h1, h0, h0']
      · have h1' := Int.not_lt.1 h1
        by_cases h2 : (20 : Int) < (x.supers.length : Int)
        · refine .inr fun R => ?_
          refine L50b0a (iv i) (iv p.classes.length) (cls p.classes) _ _ _ _ (by simp) (by simp [H50b0a]) ?_ R
          simp [T50b0a, hi, idx_cls hx, hw, h2, h0, h0', h1, h1']
        · have h2' := Int.not_lt.1 h2
          rcases few_b2 p x.defaults hok.2.2.1 hok.2.2.2 (iv i) (iv p.classes.length) (cls p.classes) (by simp) (by simp) (by simp) with g | g
          · refine .inl ⟨by omega, fun R => ?_⟩
            refine L50b0a (iv i) (iv p.classes.length) (cls p.classes) _ _ _ _ (by simp) (by simp [H50b0a]) ?_ R
            simp [T50b0a, hi, idx_cls hx, hw, h0, h0', h1, h1', h2, h2']
            first | exact g | exact .inl g | exact .inr g
          · refine .inr fun R => ?_
            refine L50b0a (iv i) (iv p.classes.length) (cls p.classes) _ _ _ _ (by simp) (by simp [H50b0a]) ?_ R
            simp [T50b0a, hi, idx_cls hx, hw, h0, h0', h1, h1', h2, h2']
            first | exact g | exact .inl g | exact .inr g
  · intro R
    refine L50b0a (iv p.classes.length) (iv p.classes.length) (cls p.classes) _ _ _ _ (by simp) (by simp [H50b0a]) ?_ R
    simp [T50b0a]
theorem few_b4 (p : Pg) (hp : p.Ok) :
    ((∀ x ∈ p.insts, True) ∧ BlkS Tryz.prog Tryz.f50 4 [(76, .pv (iv 0)), (75, .pv (iv p.insts.length)), (74, .pv (its p.insts)), (1, .ptr 0 0)] [bxPg p] .normal [(1, .ptr 0 0)] [bxPg p]) ∨
    BlkS Tryz.prog Tryz.f50 4 [(76, .pv (iv 0)), (75, .pv (iv p.insts.length)), (74, .pv (its p.insts)), (1, .ptr 0 0)] [bxPg p] .ret [(2, .pv (bv false))] [bxPg p] := by
  have main := ck_loop (P := Tryz.prog) (fn := Tryz.f50) (id := 4) (m0 := 1) (ex := .exit 4) p.insts (fun x => True) (fun i => [(76, .pv (iv i)), (75, .pv (iv p.insts.length)), (74, .pv (its p.insts)), (1, .ptr 0 0)]) [bxPg p] [(1, .ptr 0 0)] [(2, .pv (bv false))] (by simp) ?_ ?_
  · rcases main with ⟨h, g⟩ | g
    · exact .inl ⟨h, LoopS.block (h := [bxPg p]) f50_loop4 (by simp) g⟩
    · exact .inr (LoopS.blockRet (h := [bxPg p]) f50_loop4 (by simp) g)
  · intro i x hx
    have hi := lt_of_get hx
    have hw := wrap_lt hi hp.tn
    have hok := hp.t x (List.mem_of_getElem? hx)
    by_cases h0 : (20 : Int) < (x.binds.length : Int)
    · refine .inr fun R => ?_
      refine L50b4a (iv i) (iv p.insts.length) (its p.insts) _ _ _ _ (by simp) (by simp [H50b4a]) ?_ R
      simp [T50b4a, hi, idx_its hx, hw, h0]
    · have h0' := Int.not_lt.1 h0
      by_cases h1 : (20 : Int) < (x.ctx.length : Int)
      · refine .inr fun R => ?_
        refine L50b4a (iv i) (iv p.insts.length) (its p.insts) _ _ _ _ (by simp) (by simp [H50b4a]) ?_ R
        simp [T50b4a, hi, idx_its hx, hw, h1, h0, h0']
      · have h1' := Int.not_lt.1 h1
        by_cases h2 : (20 : Int) < (x.head.kids.length : Int)
        · refine .inr fun R => ?_
          refine L50b4a (iv i) (iv p.insts.length) (its p.insts) _ _ _ _ (by simp) (by simp [H50b4a]) ?_ R
          simp [T50b4a, hi, idx_its hx, hw, h2, h0, h0', h1, h1']
        · have h2' := Int.not_lt.1 h2
          rcases few_b6 p x.binds hok.2.2.1 hok.2.2.2 (iv i) (iv p.insts.length) (its p.insts) (by simp) (by simp) (by simp) with g | g
          · refine .inl ⟨trivial, fun R => ?_⟩
            refine L50b4a (iv i) (iv p.insts.length) (its p.insts) _ _ _ _ (by simp) (by simp [H50b4a]) ?_ R
            simp [T50b4a, hi, idx_its hx, hw, h0, h0', h1, h1', h2, h2']
            first | exact g | exact .inl g | exact .inr g
          · refine .inr fun R => ?_
            refine L50b4a (iv i) (iv p.insts.length) (its p.insts) _ _ _ _ (by simp) (by simp [H50b4a]) ?_ R
            simp [T50b4a, hi, idx_its hx, hw, h0, h0', h1, h1', h2, h2']
            first | exact g | exact .inl g | exact .inr g
  · intro R
    refine L50b4a (iv p.insts.length) (iv p.insts.length) (its p.insts) _ _ _ _ (by simp) (by simp [H50b4a]) ?_ R
    simp [T50b4a]
theorem few_b8 (p : Pg) (hp : p.Ok) :
    ((∀ x ∈ p.datas, True) ∧ BlkS Tryz.prog Tryz.f50 8 [(113, .pv (iv 0)), (112, .pv (iv p.datas.length)), (111, .pv (dts p.datas)), (1, .ptr 0 0)] [bxPg p] .normal [(1, .ptr 0 0)] [bxPg p]) ∨
    BlkS Tryz.prog Tryz.f50 8 [(113, .pv (iv 0)), (112, .pv (iv p.datas.length)), (111, .pv (dts p.datas)), (1, .ptr 0 0)] [bxPg p] .ret [(2, .pv (bv false))] [bxPg p] := by
  have main := ck_loop (P := Tryz.prog) (fn := Tryz.f50) (id := 8) (m0 := 1) (ex := .exit 8) p.datas (fun x => True) (fun i => [(113, .pv (iv i)), (112, .pv (iv p.datas.length)), (111, .pv (dts p.datas)), (1, .ptr 0 0)]) [bxPg p] [(1, .ptr 0 0)] [(2, .pv (bv false))] (by simp) ?_ ?_
  · rcases main with ⟨h, g⟩ | g
    · exact .inl ⟨h, LoopS.block (h := [bxPg p]) f50_loop8 (by simp) g⟩
    · exact .inr (LoopS.blockRet (h := [bxPg p]) f50_loop8 (by simp) g)
  · intro i x hx
    have hi := lt_of_get hx
    have hw := wrap_lt hi hp.dn
    have hok := hp.d x (List.mem_of_getElem? hx)
    by_cases h0 : (20 : Int) < (x.cons.length : Int)
    · refine .inr fun R => ?_
      refine L50b8a (iv i) (iv p.datas.length) (dts p.datas) _ _ _ _ (by simp) (by simp [H50b8a]) ?_ R
      simp [T50b8a, hi, idx_dts hx, hw, h0]
    · have h0' := Int.not_lt.1 h0
      by_cases h1 : (20 : Int) < (x.params.length : Int)
      · refine .inr fun R => ?_
        refine L50b8a (iv i) (iv p.datas.length) (dts p.datas) _ _ _ _ (by simp) (by simp [H50b8a]) ?_ R
        simp [T50b8a, hi, idx_dts hx, hw, h1, h0, h0']
      · have h1' := Int.not_lt.1 h1
        by_cases h2 : (20 : Int) < (x.deriv.length : Int)
        · refine .inr fun R => ?_
          refine L50b8a (iv i) (iv p.datas.length) (dts p.datas) _ _ _ _ (by simp) (by simp [H50b8a]) ?_ R
          simp [T50b8a, hi, idx_dts hx, hw, h2, h0, h0', h1, h1']
        · have h2' := Int.not_lt.1 h2
          refine .inl ⟨trivial, fun R => ?_⟩
          refine L50b8a (iv i) (iv p.datas.length) (dts p.datas) _ _ _ _ (by simp) (by simp [H50b8a]) ?_ R
          simp [T50b8a, hi, idx_dts hx, hw, h0, h0', h1, h1', h2, h2']
  · intro R
    refine L50b8a (iv p.datas.length) (iv p.datas.length) (dts p.datas) _ _ _ _ (by simp) (by simp [H50b8a]) ?_ R
    simp [T50b8a]
theorem few_b10 (p : Pg) (hp : p.Ok) :
    BlkS Tryz.prog Tryz.f50 10 [(137, .pv (iv 0)), (136, .pv (iv p.binds.length)), (135, .pv (bds p.binds))] [] .normal [] [] ∨
    BlkS Tryz.prog Tryz.f50 10 [(137, .pv (iv 0)), (136, .pv (iv p.binds.length)), (135, .pv (bds p.binds))] [] .ret [(2, .pv (bv false))] [] := by
  have main := ck_loop (P := Tryz.prog) (fn := Tryz.f50) (id := 10) (m0 := 0) (ex := .exit 10) p.binds (fun _ => True) (fun i => [(137, .pv (iv i)), (136, .pv (iv p.binds.length)), (135, .pv (bds p.binds))]) [] [] [(2, .pv (bv false))] (by simp) ?_ ?_
  · rcases main with ⟨_, g⟩ | g
    · exact .inl (LoopS.block (h := []) f50_loop10 (by simp) g)
    · exact .inr (LoopS.blockRet (h := []) f50_loop10 (by simp) g)
  · intro i x hx
    have hi := lt_of_get hx
    have hw := wrap_lt hi hp.bn
    obtain ⟨r, hr⟩ := small_bd x (hp.b x (List.mem_of_getElem? hx)) 1000
    cases r with
    | true =>
      refine .inl ⟨trivial, fun R => ?_⟩
      refine L50b10a (iv i) (iv p.binds.length) (bds p.binds) (by simp) ?_ R
      simp [T50b10a, hi, idx_bds hx, hw]
      first | exact hr | exact .inl hr | exact .inr hr
    | false =>
      refine .inr fun R => ?_
      refine L50b10a (iv i) (iv p.binds.length) (bds p.binds) (by simp) ?_ R
      simp [T50b10a, hi, idx_bds hx, hw]
      first | exact hr | exact .inl hr | exact .inr hr
  · intro R
    refine L50b10a (iv p.binds.length) (iv p.binds.length) (bds p.binds) (by simp) ?_ R
    simp [T50b10a]
def FewOk (p : Pg) : Prop := p.classes.length ≤ 20 ∧ ∀ x ∈ p.classes, x.supers.length ≤ 20
theorem few_ok (p : Pg) (hp : p.Ok) : ∃ b : Bool, Sem Tryz.prog 50 [pgA p] [] (.pv (bv b)) [] ∧ (b = true → FewOk p) := by
  by_cases h0 : (20 : Int) < (p.datas.length : Int)
  · exact ⟨false, F50 _ _ _ _ (by simp) (by simp [T50, h0]), by simp⟩
  by_cases h1 : (20 : Int) < (p.classes.length : Int)
  · exact ⟨false, F50 _ _ _ _ (by simp) (by simp [T50, h0, h1]), by simp⟩
  by_cases h2 : (20 : Int) < (p.insts.length : Int)
  · exact ⟨false, F50 _ _ _ _ (by simp) (by simp [T50, h0, h1, h2]), by simp⟩
  by_cases h3 : (40 : Int) < (p.binds.length : Int)
  · exact ⟨false, F50 _ _ _ _ (by simp) (by simp [T50, h0, h1, h2, h3]), by simp⟩
  rcases few_b0 p hp with ⟨k, g0⟩ | g0
  · rcases few_b4 p hp with ⟨_, g4⟩ | g4
    · rcases few_b8 p hp with ⟨_, g8⟩ | g8
      · rcases few_b10 p hp with g10 | g10
        · refine ⟨true, F50 _ _ _ _ (by simp) ?_, fun _ => ⟨by omega, k⟩⟩
          simp [T50, h0, h1, h2, h3]
          exact .inl ⟨g0, .inl ⟨g4, .inl ⟨g8, .inl g10⟩⟩⟩
        · refine ⟨false, F50 _ _ _ _ (by simp) ?_, by simp⟩
          simp [T50, h0, h1, h2, h3]
          exact .inl ⟨g0, .inl ⟨g4, .inl ⟨g8, g10⟩⟩⟩
      · refine ⟨false, F50 _ _ _ _ (by simp) ?_, by simp⟩
        simp [T50, h0, h1, h2, h3]
        exact .inl ⟨g0, .inl ⟨g4, .inr g8⟩⟩
    · refine ⟨false, F50 _ _ _ _ (by simp) ?_, by simp⟩
      simp [T50, h0, h1, h2, h3]
      exact .inl ⟨g0, .inr g4⟩
  · refine ⟨false, F50 _ _ _ _ (by simp) ?_, by simp⟩
    simp [T50, h0, h1, h2, h3]
    exact .inr g0
/-! The statement's own guard. -/
theorem sm_b2 (p : Pg) (l : List Cn) (hl : l.length ≤ maxN) (hok : ∀ x ∈ l, x.Ok) (a b c : PV) (ha : NS a) (hb : NS b) (hc : NS c) :
    BlkS Tryz.prog Tryz.f12 2 [(17, .pv (iv 0)), (16, .pv (iv l.length)), (15, .pv (cns l)), (10, .pv a), (9, .pv b), (8, .pv c), (1, .ptr 0 0)] [bxPg p] .normal [(10, .pv a), (9, .pv b), (8, .pv c), (1, .ptr 0 0)] [bxPg p] ∨
    BlkS Tryz.prog Tryz.f12 2 [(17, .pv (iv 0)), (16, .pv (iv l.length)), (15, .pv (cns l)), (10, .pv a), (9, .pv b), (8, .pv c), (1, .ptr 0 0)] [bxPg p] .ret [(2, .pv (bv false))] [bxPg p] := by
  have main := ck_loop (P := Tryz.prog) (fn := Tryz.f12) (id := 2) (m0 := 1) (ex := .exit 2) l (fun _ => True) (fun i => [(17, .pv (iv i)), (16, .pv (iv l.length)), (15, .pv (cns l)), (10, .pv a), (9, .pv b), (8, .pv c), (1, .ptr 0 0)]) [bxPg p] [(10, .pv a), (9, .pv b), (8, .pv c), (1, .ptr 0 0)] [(2, .pv (bv false))] (by simp) ?_ ?_
  · rcases main with ⟨_, g⟩ | g
    · exact .inl (LoopS.block (h := [bxPg p]) f12_loop2 (by simp) g)
    · exact .inr (LoopS.blockRet (h := [bxPg p]) f12_loop2 (by simp) g)
  · intro i x hx
    have hi := lt_of_get hx
    have hw := wrap_lt hi hl
    by_cases h0 : (70 : Int) < (x.args.length : Int)
    · refine .inr fun R => ?_
      refine L12b2a (iv i) (iv l.length) (cns l) a b c _ _ _ _ (by simp [ha, hb, hc]) (by simp [H12b2a]) ?_ R
      simp [T12b2a, hi, idx_cns hx, hw, h0]
    · refine .inl ⟨trivial, fun R => ?_⟩
      refine L12b2a (iv i) (iv l.length) (cns l) a b c _ _ _ _ (by simp [ha, hb, hc]) (by simp [H12b2a]) ?_ R
      simp [T12b2a, hi, idx_cns hx, hw, h0]
  · intro R
    refine L12b2a (iv l.length) (iv l.length) (cns l) a b c _ _ _ _ (by simp [ha, hb, hc]) (by simp [H12b2a]) ?_ R
    simp [T12b2a]
theorem sm_b0 (p : Pg) (hp : p.Ok) :
    BlkS Tryz.prog Tryz.f12 0 [(10, .pv (iv 0)), (9, .pv (iv p.datas.length)), (8, .pv (dts p.datas)), (1, .ptr 0 0)] [bxPg p] .normal [(1, .ptr 0 0)] [bxPg p] ∨
    BlkS Tryz.prog Tryz.f12 0 [(10, .pv (iv 0)), (9, .pv (iv p.datas.length)), (8, .pv (dts p.datas)), (1, .ptr 0 0)] [bxPg p] .ret [(2, .pv (bv false))] [bxPg p] := by
  have main := ck_loop (P := Tryz.prog) (fn := Tryz.f12) (id := 0) (m0 := 1) (ex := .exit 0) p.datas (fun _ => True) (fun i => [(10, .pv (iv i)), (9, .pv (iv p.datas.length)), (8, .pv (dts p.datas)), (1, .ptr 0 0)]) [bxPg p] [(1, .ptr 0 0)] [(2, .pv (bv false))] (by simp) ?_ ?_
  · rcases main with ⟨_, g⟩ | g
    · exact .inl (LoopS.block (h := [bxPg p]) f12_loop0 (by simp) g)
    · exact .inr (LoopS.blockRet (h := [bxPg p]) f12_loop0 (by simp) g)
  · intro i x hx
    have hi := lt_of_get hx
    have hw := wrap_lt hi hp.dn
    have hok := hp.d x (List.mem_of_getElem? hx)
    rcases sm_b2 p x.cons hok.2.1.1 hok.2.1.2 (iv i) (iv p.datas.length) (dts p.datas) (by simp) (by simp) (by simp) with g | g
    · refine .inl ⟨trivial, fun R => ?_⟩
      refine L12b0a (iv i) (iv p.datas.length) (dts p.datas) _ _ _ _ (by simp) (by simp [H12b0a]) ?_ R
      simp [T12b0a, hi, idx_dts hx, hw]
      first | exact g | exact .inl g | exact .inr g
    · refine .inr fun R => ?_
      refine L12b0a (iv i) (iv p.datas.length) (dts p.datas) _ _ _ _ (by simp) (by simp [H12b0a]) ?_ R
      simp [T12b0a, hi, idx_dts hx, hw]
      first | exact g | exact .inl g | exact .inr g
  · intro R
    refine L12b0a (iv p.datas.length) (iv p.datas.length) (dts p.datas) _ _ _ _ (by simp) (by simp [H12b0a]) ?_ R
    simp [T12b0a]
theorem sm_ok (p : Pg) (hp : p.Ok) : ∃ b : Bool, Sem Tryz.prog 12 [pgA p] [] (.pv (bv b)) [] ∧ (b = true → FewOk p) := by
  rcases sm_b0 p hp with g | g
  · obtain ⟨b, hb, hf⟩ := few_ok p hp
    refine ⟨b, F12 _ _ _ _ (by simp) ?_, hf⟩
    cases b with
    | true =>
      simp [T12]
      exact .inl ⟨g, hb⟩
    | false =>
      simp [T12]
      exact .inl ⟨g, hb⟩
  · refine ⟨false, F12 _ _ _ _ (by simp) ?_, by simp⟩
    simp [T12]
    exact .inr g
end Go.Proofs.YtjpjcjnacnlhdaaGreat
