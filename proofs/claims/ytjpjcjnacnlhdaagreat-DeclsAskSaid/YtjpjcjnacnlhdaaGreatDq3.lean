/- Constructors and methods: where they stand. Printed by con.py. -/
import Derived.Test.YtjpjcjnacnlhdaaGreatDq2
namespace Go.Proofs.YtjpjcjnacnlhdaaGreat
open Go.RowKit
set_option linter.unusedSimpArgs false
set_option linter.unusedVariables false

/-! Constructors. -/
def hasCn (s : ByteArray) (d : Dt) : Bool := decide (0 ≤ fi (isCn s) d.cons)
def atCn (v : Ev) (s : ByteArray) (i : Nat) : Int := match v.datas[i]? with
  | some d => fi (isCn s) d.cons
  | none => -1
/-- The place; -1. -/
def inCn (v : Ev) (s : ByteArray) : Int := match fnd (hasCn s) v.datas 0 with
  | some i => atCn v s i
  | none => -1
theorem con_p (v : Ev) (hd : v.datas.length ≤ maxN) (hc : ∀ d ∈ v.datas, d.cons.length ≤ maxN) (s : ByteArray) : Sem Tryz.prog 17 [evA v, .pv (sv s)] [] (.tup [.pv (iv (max (fi (hasCn s) v.datas) 0)), .pv (iv (max (inCn v s) 0)), .pv (bv (decide (0 ≤ fi (hasCn s) v.datas)))]) [] := by
  refine F17 _ _ _ _ (by simp) ?_
  have main := find_loop (P := Tryz.prog) (fn := Tryz.f17) (id := 0) (m0 := 1) (ex := .exit 0) v.datas (hasCn s) (fun i => [(14, .pv (iv i)), (13, .pv (iv v.datas.length)), (12, .pv (dts v.datas)), (3, .ptr 0 0)]) [.box 9 [.pv (sv s)]] [] (fun i => [(4, .pv (iv i)), (5, .pv (iv (atCn v s i))), (6, .pv (bv true))]) (by simp) ?_ ?_ ?_
  · rcases main with ⟨g1, g2⟩ | ⟨i, a, g1, g3, g4, g2⟩
    · have hB := LoopS.block (h := [.box 9 [.pv (sv s)]]) f17_loop0 (by simp) g2
      simp [T17, fi, inCn, g1]
      exact .inl ⟨hB, by omega⟩
    · have hB := LoopS.blockRet (h := [.box 9 [.pv (sv s)]]) f17_loop0 (by simp) g2
      have e : 0 ≤ atCn v s i := by simpa [atCn, g3, hasCn] using g4
      simp [T17, fi, inCn, g1]
      exact ⟨_, _, hB, rfl, by rw [show max (atCn v s i) 0 = atCn v s i by omega], by simp, by simp⟩
  · intro i a ha hf R
    have hi := lt_of_get ha
    have hw := wrap_lt hi hd
    have h1 := find_cns a.cons (hc a (List.mem_of_getElem? ha)) s
    have hf' : decide (0 ≤ fi (isCn s) a.cons) = false := hf
    rw [hf'] at h1
    refine L17b0a _ _ _ _ (by simp) (by simp [H17b0a]) ?_ R
    simp [T17b0a, hi, idx_dts ha, hw]
    exact ⟨_, h1, by simp⟩
  · intro i a ha hf R
    have hi := lt_of_get ha
    have h1 := find_cns a.cons (hc a (List.mem_of_getElem? ha)) s
    have hf' : decide (0 ≤ fi (isCn s) a.cons) = true := hf
    rw [hf'] at h1
    have e : max (fi (isCn s) a.cons) 0 = atCn v s i := by
      have : 0 ≤ fi (isCn s) a.cons := of_decide_eq_true hf'
      simp only [atCn, ha]; omega
    rw [e] at h1
    refine L17b0a _ _ _ _ (by simp) (by simp [H17b0a]) ?_ R
    simp [T17b0a, hi, idx_dts ha]
    exact ⟨_, h1, by simp⟩
  · intro R
    refine L17b0a _ _ _ _ (by simp) (by simp [H17b0a]) ?_ R
    simp [T17b0a]
theorem con_r (v : Ev) (hd : v.datas.length ≤ maxN) (hc : ∀ d ∈ v.datas, d.cons.length ≤ maxN) (s : ByteArray) : Sem Tryz.prog 18 [evA v, .pv (sv s)] [] (.tup [.pv (iv (fi (hasCn s) v.datas)), .pv (iv (inCn v s))]) [] := by
  refine F18 _ _ _ _ (by simp) ?_
  have inner : ∀ (i : Nat) (a : Dt), v.datas[i]? = some a →
      (hasCn s a = false ∧ BlkS Tryz.prog Tryz.f18 2 [(7, .pv (iv 0)), (2, .ptr 0 0), (6, .pv (iv i)), (1, .pv (sv s))] [bxEnv v] .normal [(6, .pv (iv i)), (2, .ptr 0 0), (1, .pv (sv s))] [bxEnv v]) ∨
      (hasCn s a = true ∧ BlkS Tryz.prog Tryz.f18 2 [(7, .pv (iv 0)), (2, .ptr 0 0), (6, .pv (iv i)), (1, .pv (sv s))] [bxEnv v] .ret [(4, .pv (iv i)), (5, .pv (iv (atCn v s i)))] [bxEnv v]) := by
    intro i a ha
    have hca := hc a (List.mem_of_getElem? ha)
    have main := find_loop (P := Tryz.prog) (fn := Tryz.f18) (id := 2) (m0 := 1) (ex := .exit 2) a.cons (isCn s) (fun k => [(7, .pv (iv k)), (2, .ptr 0 0), (6, .pv (iv i)), (1, .pv (sv s))]) [bxEnv v] [(6, .pv (iv i)), (2, .ptr 0 0), (1, .pv (sv s))] (fun k => [(4, .pv (iv i)), (5, .pv (iv k))]) (by simp) ?_ ?_ ?_
    · rcases main with ⟨g1, g2⟩ | ⟨k, c, g1, g3, g4, g2⟩
      · have hB := LoopS.block (h := [bxEnv v]) f18_loop2 (by simp) g2
        exact .inl ⟨by simp [hasCn, fi, g1], hB⟩
      · have hB := LoopS.blockRet (h := [bxEnv v]) f18_loop2 (by simp) g2
        have e : atCn v s i = k := by simp [atCn, ha, fi, g1]
        rw [e]
        exact .inr ⟨by simp [hasCn, fi, g1], hB⟩
    · intro k c hk hf R
      have hi := lt_of_get hk
      have hw := wrap_lt hi hca
      have hf : ¬ c.name = s := by simpa [isCn] using hf
      refine L18b2a _ _ _ _ _ _ (by simp) (by simp [H18b2a]) ?_ R
      simp [T18b2a, hi, idx_dts ha, idx_cns hk, hf, hw]
    · intro k c hk hf R
      have hi := lt_of_get hk
      have hf : c.name = s := by simpa [isCn] using hf
      refine L18b2a _ _ _ _ _ _ (by simp) (by simp [H18b2a]) ?_ R
      simp [T18b2a, hi, idx_dts ha, idx_cns hk, hf]
    · intro R
      refine L18b2a _ _ _ _ _ _ (by simp) (by simp [H18b2a]) ?_ R
      simp [T18b2a, idx_dts ha]
  have main := find_loop (P := Tryz.prog) (fn := Tryz.f18) (id := 0) (m0 := 1) (ex := .exit 0) v.datas (hasCn s) (fun i => [(6, .pv (iv i)), (2, .ptr 0 0), (1, .pv (sv s))]) [bxEnv v] [] (fun i => [(4, .pv (iv i)), (5, .pv (iv (atCn v s i)))]) (by simp) ?_ ?_ ?_
  · rcases main with ⟨g1, g2⟩ | ⟨i, a, g1, g3, g4, g2⟩
    · have hB := LoopS.block (h := [bxEnv v]) f18_loop0 (by simp) g2
      simp [T18, fi, inCn, g1]
      exact .inl hB
    · have hB := LoopS.blockRet (h := [bxEnv v]) f18_loop0 (by simp) g2
      simp [T18, fi, inCn, g1]
      exact ⟨_, _, hB, rfl, rfl, by simp, by simp⟩
  · intro i a ha hf R
    have hi := lt_of_get ha
    have hw := wrap_lt hi hd
    rcases inner i a ha with ⟨_, hB⟩ | ⟨h2, _⟩
    · refine L18b0a _ _ _ _ _ (by simp) (by simp [H18b0a]) ?_ R
      simp [T18b0a, hi, hw]
      exact hB
    · rw [hf] at h2; cases h2
  · intro i a ha hf R
    have hi := lt_of_get ha
    rcases inner i a ha with ⟨h2, _⟩ | ⟨_, hB⟩
    · rw [hf] at h2; cases h2
    · refine L18b0a _ _ _ _ _ (by simp) (by simp [H18b0a]) ?_ R
      simp [T18b0a, hi]
      exact ⟨_, _, hB, rfl, rfl, by simp, by simp⟩
  · intro R
    refine L18b0a _ _ _ _ _ (by simp) (by simp [H18b0a]) ?_ R
    simp [T18b0a]
/-! Methods. -/
def hasMd (s : ByteArray) (d : Cl) : Bool := decide (0 ≤ fi (isMd s) d.methods)
def atMd (v : Ev) (s : ByteArray) (i : Nat) : Int := match v.classes[i]? with
  | some d => fi (isMd s) d.methods
  | none => -1
/-- The place; -1. -/
def inMd (v : Ev) (s : ByteArray) : Int := match fnd (hasMd s) v.classes 0 with
  | some i => atMd v s i
  | none => -1
theorem method_p (v : Ev) (hd : v.classes.length ≤ maxN) (hc : ∀ d ∈ v.classes, d.methods.length ≤ maxN) (s : ByteArray) : Sem Tryz.prog 21 [evA v, .pv (sv s)] [] (.tup [.pv (iv (max (fi (hasMd s) v.classes) 0)), .pv (iv (max (inMd v s) 0)), .pv (bv (decide (0 ≤ fi (hasMd s) v.classes)))]) [] := by
  refine F21 _ _ _ _ (by simp) ?_
  have main := find_loop (P := Tryz.prog) (fn := Tryz.f21) (id := 0) (m0 := 1) (ex := .exit 0) v.classes (hasMd s) (fun i => [(14, .pv (iv i)), (13, .pv (iv v.classes.length)), (12, .pv (cls v.classes)), (3, .ptr 0 0)]) [.box 9 [.pv (sv s)]] [] (fun i => [(4, .pv (iv i)), (5, .pv (iv (atMd v s i))), (6, .pv (bv true))]) (by simp) ?_ ?_ ?_
  · rcases main with ⟨g1, g2⟩ | ⟨i, a, g1, g3, g4, g2⟩
    · have hB := LoopS.block (h := [.box 9 [.pv (sv s)]]) f21_loop0 (by simp) g2
      simp [T21, fi, inMd, g1]
      exact .inl ⟨hB, by omega⟩
    · have hB := LoopS.blockRet (h := [.box 9 [.pv (sv s)]]) f21_loop0 (by simp) g2
      have e : 0 ≤ atMd v s i := by simpa [atMd, g3, hasMd] using g4
      simp [T21, fi, inMd, g1]
      exact ⟨_, _, hB, rfl, by rw [show max (atMd v s i) 0 = atMd v s i by omega], by simp, by simp⟩
  · intro i a ha hf R
    have hi := lt_of_get ha
    have hw := wrap_lt hi hd
    have h1 := find_mds a.methods (hc a (List.mem_of_getElem? ha)) s
    have hf' : decide (0 ≤ fi (isMd s) a.methods) = false := hf
    rw [hf'] at h1
    refine L21b0a _ _ _ _ (by simp) (by simp [H21b0a]) ?_ R
    simp [T21b0a, hi, idx_cls ha, hw]
    exact ⟨_, h1, by simp⟩
  · intro i a ha hf R
    have hi := lt_of_get ha
    have h1 := find_mds a.methods (hc a (List.mem_of_getElem? ha)) s
    have hf' : decide (0 ≤ fi (isMd s) a.methods) = true := hf
    rw [hf'] at h1
    have e : max (fi (isMd s) a.methods) 0 = atMd v s i := by
      have : 0 ≤ fi (isMd s) a.methods := of_decide_eq_true hf'
      simp only [atMd, ha]; omega
    rw [e] at h1
    refine L21b0a _ _ _ _ (by simp) (by simp [H21b0a]) ?_ R
    simp [T21b0a, hi, idx_cls ha]
    exact ⟨_, h1, by simp⟩
  · intro R
    refine L21b0a _ _ _ _ (by simp) (by simp [H21b0a]) ?_ R
    simp [T21b0a]
theorem method_r (v : Ev) (hd : v.classes.length ≤ maxN) (hc : ∀ d ∈ v.classes, d.methods.length ≤ maxN) (s : ByteArray) : Sem Tryz.prog 22 [evA v, .pv (sv s)] [] (.tup [.pv (iv (fi (hasMd s) v.classes)), .pv (iv (inMd v s))]) [] := by
  refine F22 _ _ _ _ (by simp) ?_
  have inner : ∀ (i : Nat) (a : Cl), v.classes[i]? = some a →
      (hasMd s a = false ∧ BlkS Tryz.prog Tryz.f22 2 [(7, .pv (iv 0)), (2, .ptr 0 0), (6, .pv (iv i)), (1, .pv (sv s))] [bxEnv v] .normal [(6, .pv (iv i)), (2, .ptr 0 0), (1, .pv (sv s))] [bxEnv v]) ∨
      (hasMd s a = true ∧ BlkS Tryz.prog Tryz.f22 2 [(7, .pv (iv 0)), (2, .ptr 0 0), (6, .pv (iv i)), (1, .pv (sv s))] [bxEnv v] .ret [(4, .pv (iv i)), (5, .pv (iv (atMd v s i)))] [bxEnv v]) := by
    intro i a ha
    have hca := hc a (List.mem_of_getElem? ha)
    have main := find_loop (P := Tryz.prog) (fn := Tryz.f22) (id := 2) (m0 := 1) (ex := .exit 2) a.methods (isMd s) (fun k => [(7, .pv (iv k)), (2, .ptr 0 0), (6, .pv (iv i)), (1, .pv (sv s))]) [bxEnv v] [(6, .pv (iv i)), (2, .ptr 0 0), (1, .pv (sv s))] (fun k => [(4, .pv (iv i)), (5, .pv (iv k))]) (by simp) ?_ ?_ ?_
    · rcases main with ⟨g1, g2⟩ | ⟨k, c, g1, g3, g4, g2⟩
      · have hB := LoopS.block (h := [bxEnv v]) f22_loop2 (by simp) g2
        exact .inl ⟨by simp [hasMd, fi, g1], hB⟩
      · have hB := LoopS.blockRet (h := [bxEnv v]) f22_loop2 (by simp) g2
        have e : atMd v s i = k := by simp [atMd, ha, fi, g1]
        rw [e]
        exact .inr ⟨by simp [hasMd, fi, g1], hB⟩
    · intro k c hk hf R
      have hi := lt_of_get hk
      have hw := wrap_lt hi hca
      have hf : ¬ c.name = s := by simpa [isMd] using hf
      refine L22b2a _ _ _ _ _ _ (by simp) (by simp [H22b2a]) ?_ R
      simp [T22b2a, hi, idx_cls ha, idx_mds hk, hf, hw]
    · intro k c hk hf R
      have hi := lt_of_get hk
      have hf : c.name = s := by simpa [isMd] using hf
      refine L22b2a _ _ _ _ _ _ (by simp) (by simp [H22b2a]) ?_ R
      simp [T22b2a, hi, idx_cls ha, idx_mds hk, hf]
    · intro R
      refine L22b2a _ _ _ _ _ _ (by simp) (by simp [H22b2a]) ?_ R
      simp [T22b2a, idx_cls ha]
  have main := find_loop (P := Tryz.prog) (fn := Tryz.f22) (id := 0) (m0 := 1) (ex := .exit 0) v.classes (hasMd s) (fun i => [(6, .pv (iv i)), (2, .ptr 0 0), (1, .pv (sv s))]) [bxEnv v] [] (fun i => [(4, .pv (iv i)), (5, .pv (iv (atMd v s i)))]) (by simp) ?_ ?_ ?_
  · rcases main with ⟨g1, g2⟩ | ⟨i, a, g1, g3, g4, g2⟩
    · have hB := LoopS.block (h := [bxEnv v]) f22_loop0 (by simp) g2
      simp [T22, fi, inMd, g1]
      exact .inl hB
    · have hB := LoopS.blockRet (h := [bxEnv v]) f22_loop0 (by simp) g2
      simp [T22, fi, inMd, g1]
      exact ⟨_, _, hB, rfl, rfl, by simp, by simp⟩
  · intro i a ha hf R
    have hi := lt_of_get ha
    have hw := wrap_lt hi hd
    rcases inner i a ha with ⟨_, hB⟩ | ⟨h2, _⟩
    · refine L22b0a _ _ _ _ _ (by simp) (by simp [H22b0a]) ?_ R
      simp [T22b0a, hi, hw]
      exact hB
    · rw [hf] at h2; cases h2
  · intro i a ha hf R
    have hi := lt_of_get ha
    rcases inner i a ha with ⟨h2, _⟩ | ⟨_, hB⟩
    · rw [hf] at h2; cases h2
    · refine L22b0a _ _ _ _ _ (by simp) (by simp [H22b0a]) ?_ R
      simp [T22b0a, hi]
      exact ⟨_, _, hB, rfl, rfl, by simp, by simp⟩
  · intro R
    refine L22b0a _ _ _ _ _ (by simp) (by simp [H22b0a]) ?_ R
    simp [T22b0a]
end Go.Proofs.YtjpjcjnacnlhdaaGreat
