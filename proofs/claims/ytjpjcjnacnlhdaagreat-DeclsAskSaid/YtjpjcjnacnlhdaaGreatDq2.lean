/- What names mean: arities, classes, instances, constructors, methods. -/
import Derived.Test.YtjpjcjnacnlhdaaGreatDq1
namespace Go.Proofs.YtjpjcjnacnlhdaaGreat
open Go.RowKit
set_option linter.unusedSimpArgs false
set_option linter.unusedVariables false

abbrev sInt : ByteArray := ⟨#[73, 110, 116]⟩
abbrev sString : ByteArray := ⟨#[83, 116, 114, 105, 110, 103]⟩
abbrev sRef : ByteArray := ⟨#[82, 101, 102]⟩
abbrev sArrow : ByteArray := ⟨#[45, 62]⟩
abbrev bxEnv (v : Ev) : AObj := .box 32 [.pv (dts v.datas), .pv (cls v.classes), .pv (its v.insts)]
def baseI (s : ByteArray) : Int := if s = sInt then 0 else if s = sString then 0 else if s = sRef then 1 else if s = sArrow then 2 else -1
theorem base_ok (s : ByteArray) : Sem Tryz.prog 51 [.pv (sv s)] [] (.tup [.pv (iv (max (baseI s) 0)), .pv (bv (decide (0 ≤ baseI s)))]) [] := by
  refine F51 _ (by simp) ?_
  unfold baseI
  by_cases h1 : s = sInt
  · simp [T51, h1]
  · by_cases h2 : s = sString
    · simp [T51, h2]
    · by_cases h3 : s = sRef
      · simp [T51, h3]; omega
      · by_cases h4 : s = sArrow
        · simp [T51, h4]; omega
        · simp [T51, h1, h2, h3, h4]; omega
/-- A type's arity; -1. -/
def nPar (v : Ev) (i : Nat) : Int := match v.datas[i]? with
  | some d => d.params.length
  | none => -1
def arity (v : Ev) (s : ByteArray) : Int := if 0 ≤ baseI s then baseI s else match fnd (isDt s) v.datas 0 with
  | some i => nPar v i
  | none => -1
theorem arity_p (v : Ev) (hd : v.datas.length ≤ maxN) (s : ByteArray) : Sem Tryz.prog 13 [evA v, .pv (sv s)] [] (.tup [.pv (iv (max (arity v s) 0)), .pv (bv (decide (0 ≤ arity v s)))]) [] := by
  refine F13 _ _ _ _ (by simp) ?_
  have hb := base_ok s
  have hf := find_dts v.datas hd s
  unfold arity nPar
  by_cases h0 : 0 ≤ baseI s
  · rw [decide_eq_true h0] at hb
    simp [T13, h0]
    exact .inl ⟨_, hb, rfl, by simp⟩
  · rw [decide_eq_false h0] at hb
    simp [T13, h0]
    refine .inr ⟨_, hb, ?_⟩
    by_cases h1 : 0 ≤ fi (isDt s) v.datas
    · obtain ⟨k, d, e1, e2, e3, e4⟩ := fi_nonneg h1
      rw [decide_eq_true h1, e1] at hf
      have hm : max (k : Int) 0 = k := by omega
      rw [hm] at hf
      refine ⟨.inl ⟨_, hf, ?_⟩, by simp⟩
      simp [idx_dts e3, e2, e3]
    · rw [decide_eq_false h1] at hf
      have := fi_neg h1
      refine ⟨.inr ⟨_, hf, ?_⟩, by simp⟩
      simp [this.2]; omega
theorem arity_r (v : Ev) (hd : v.datas.length ≤ maxN) (s : ByteArray) : Sem Tryz.prog 14 [evA v, .pv (sv s)] [] (.pv (iv (arity v s))) [] := by
  refine F14 _ _ _ _ (by simp) ?_
  unfold arity baseI
  by_cases h1 : s = sInt
  · simp [T14, h1]
  · by_cases h2 : s = sString
    · simp [T14, h2]
    · by_cases h3 : s = sRef
      · simp [T14, h3]
      · by_cases h4 : s = sArrow
        · simp [T14, h4]
        · have main := find_loop (P := Tryz.prog) (fn := Tryz.f14) (id := 0) (m0 := 1) (ex := .exit 0) v.datas (isDt s) (fun i => [(5, .pv (iv i)), (2, .ptr 0 0), (1, .pv (sv s))]) [bxEnv v] [] (fun i => [(4, .pv (iv (nPar v i)))]) (by simp) ?_ ?_ ?_
          · rcases main with ⟨g1, g2⟩ | ⟨i, a, g1, _, _, g2⟩
            · have hB := LoopS.block (h := [bxEnv v]) f14_loop0 (by simp) g2
              simp [T14, h1, h2, h3, h4, g1]
              exact .inl hB
            · have hB := LoopS.blockRet (h := [bxEnv v]) f14_loop0 (by simp) g2
              simp [T14, h1, h2, h3, h4, g1]
              exact .inr ⟨_, hB, rfl, by simp⟩
          · intro i a ha hf R
            have hi := lt_of_get ha
            have hw := wrap_lt hi hd
            have hf : ¬ a.name = s := by simpa [isDt] using hf
            refine L14b0a _ _ _ _ _ (by simp) (by simp [H14b0a]) ?_ R
            simp [T14b0a, hi, idx_dts ha, hf, hw]
          · intro i a ha hf R
            have hi := lt_of_get ha
            have hf : a.name = s := by simpa [isDt] using hf
            have e : nPar v i = a.params.length := by simp only [nPar, ha]
            refine L14b0a _ _ _ _ _ (by simp) (by simp [H14b0a]) ?_ R
            simp [T14b0a, hi, idx_dts ha, hf, e]
          · intro R
            refine L14b0a _ _ _ _ _ (by simp) (by simp [H14b0a]) ?_ R
            simp [T14b0a]
/-! Classes. -/
theorem class_p (v : Ev) (hd : v.classes.length ≤ maxN) (s : ByteArray) : Sem Tryz.prog 19 [evA v, .pv (sv s)] [] (.tup [.pv (iv (max (fi (isCl s) v.classes) 0)), .pv (bv (decide (0 ≤ fi (isCl s) v.classes)))]) [] := by
  refine F19 _ _ _ _ (by simp) ?_
  have hf := find_cls v.classes hd s
  simp [T19]
  by_cases h1 : 0 ≤ fi (isCl s) v.classes
  · rw [decide_eq_true h1] at hf
    exact .inl ⟨_, hf, rfl, by simp; omega⟩
  · rw [decide_eq_false h1] at hf
    exact .inr ⟨_, hf, rfl, by simp; omega⟩
theorem class_r (v : Ev) (hd : v.classes.length ≤ maxN) (s : ByteArray) : Sem Tryz.prog 20 [evA v, .pv (sv s)] [] (.pv (iv (fi (isCl s) v.classes))) [] := by
  refine F20 _ _ _ _ (by simp) ?_
  have main := find_loop (P := Tryz.prog) (fn := Tryz.f20) (id := 0) (m0 := 1) (ex := .exit 0) v.classes (isCl s) (fun i => [(5, .pv (iv i)), (2, .ptr 0 0), (1, .pv (sv s))]) [bxEnv v] [] (fun i => [(4, .pv (iv i))]) (by simp) ?_ ?_ ?_
  · rcases main with ⟨g1, g2⟩ | ⟨i, a, g1, _, _, g2⟩
    · have hB := LoopS.block (h := [bxEnv v]) f20_loop0 (by simp) g2
      simp [T20, fi, g1]
      exact .inl hB
    · have hB := LoopS.blockRet (h := [bxEnv v]) f20_loop0 (by simp) g2
      simp [T20, fi, g1]
      exact ⟨_, hB, rfl, by simp⟩
  · intro i a ha hf R
    have hi := lt_of_get ha
    have hw := wrap_lt hi hd
    have hf : ¬ a.name = s := by simpa [isCl] using hf
    refine L20b0a _ _ _ _ _ (by simp) (by simp [H20b0a]) ?_ R
    simp [T20b0a, hi, idx_cls ha, hf, hw]
  · intro i a ha hf R
    have hi := lt_of_get ha
    have hf : a.name = s := by simpa [isCl] using hf
    refine L20b0a _ _ _ _ _ (by simp) (by simp [H20b0a]) ?_ R
    simp [T20b0a, hi, idx_cls ha, hf]
  · intro R
    refine L20b0a _ _ _ _ _ (by simp) (by simp [H20b0a]) ?_ R
    simp [T20b0a]
/-! Instances. -/
theorem inst_p (v : Ev) (hd : v.insts.length ≤ maxN) (s u : ByteArray) : Sem Tryz.prog 23 [evA v, .pv (sv s), .pv (sv u)] [] (.tup [.pv (iv (max (fi (isIt s u) v.insts) 0)), .pv (bv (decide (0 ≤ fi (isIt s u) v.insts)))]) [] := by
  refine F23 _ _ _ _ _ (by simp) ?_
  have hf := find_its v.insts hd s u
  simp [T23]
  by_cases h1 : 0 ≤ fi (isIt s u) v.insts
  · rw [decide_eq_true h1] at hf
    exact .inl ⟨_, hf, rfl, by simp; omega⟩
  · rw [decide_eq_false h1] at hf
    exact .inr ⟨_, hf, rfl, by simp; omega⟩
theorem inst_r (v : Ev) (hd : v.insts.length ≤ maxN) (s u : ByteArray) : Sem Tryz.prog 24 [evA v, .pv (sv s), .pv (sv u)] [] (.pv (iv (fi (isIt s u) v.insts))) [] := by
  refine F24 _ _ _ _ _ (by simp) ?_
  have main := find_loop (P := Tryz.prog) (fn := Tryz.f24) (id := 0) (m0 := 1) (ex := .exit 0) v.insts (isIt s u) (fun i => [(7, .pv (iv i)), (3, .ptr 0 0), (1, .pv (sv s)), (2, .pv (sv u))]) [bxEnv v] [] (fun i => [(6, .pv (iv i))]) (by simp) ?_ ?_ ?_
  · rcases main with ⟨g1, g2⟩ | ⟨i, a, g1, _, _, g2⟩
    · have hB := LoopS.block (h := [bxEnv v]) f24_loop0 (by simp) g2
      simp [T24, fi, g1]
      exact .inl hB
    · have hB := LoopS.blockRet (h := [bxEnv v]) f24_loop0 (by simp) g2
      simp [T24, fi, g1]
      exact ⟨_, hB, rfl, by simp⟩
  · intro i a ha hf R
    have hi := lt_of_get ha
    have hw := wrap_lt hi hd
    refine L24b0a _ _ _ _ _ _ (by simp) (by simp [H24b0a]) ?_ R
    by_cases h1 : a.cls = s
    · have h2 : ¬ a.head.name = u := by simpa [isIt, h1] using hf
      simp [T24b0a, hi, idx_its ha, h1, h2, hw]
    · simp [T24b0a, hi, idx_its ha, h1, hw]
  · intro i a ha hf R
    have hi := lt_of_get ha
    obtain ⟨h1, h2⟩ : a.cls = s ∧ a.head.name = u := by simpa [isIt] using hf
    refine L24b0a _ _ _ _ _ _ (by simp) (by simp [H24b0a]) ?_ R
    simp [T24b0a, hi, idx_its ha, h1, h2]
  · intro R
    refine L24b0a _ _ _ _ _ _ (by simp) (by simp [H24b0a]) ?_ R
    simp [T24b0a]
end Go.Proofs.YtjpjcjnacnlhdaaGreat
