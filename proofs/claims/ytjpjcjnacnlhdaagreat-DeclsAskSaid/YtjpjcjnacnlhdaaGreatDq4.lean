/- What is wrong with a type. -/
import Derived.Test.YtjpjcjnacnlhdaaGreatDq3
namespace Go.Proofs.YtjpjcjnacnlhdaaGreat
open Go.RowKit
set_option linter.unusedSimpArgs false
set_option linter.unusedVariables false

mutual
/-- The error of a type; 0: none. -/
def rightI (v : Ev) (vars : List ByteArray) : Ty → Int
  | .mk k s _ ks => if k = 1 then (if mem vars s then rightL v vars ks else 123) else if k = 3 then (if arity v s < 0 then 121 else if arity v s = ks.length then rightL v vars ks else 122) else 123
def rightL (v : Ev) (vars : List ByteArray) : List Ty → Int
  | [] => 0
  | t :: l => if rightI v vars t = 0 then rightL v vars l else rightI v vars t
end
abbrev bxTy (t : Ty) : AObj := .box 47 [.pv (iv t.kind), .pv (sv t.name), .pv (iv t.n), .pv (tys t.kids)]
inductive Ty.Ok : Ty → Prop where
  | mk (k : Int) (s : ByteArray) (n : Int) (ks : List Ty) (h : ks.length ≤ maxN) (hk : ∀ t ∈ ks, Ty.Ok t) : Ty.Ok (.mk k s n ks)
theorem rightL_fnd (v : Ev) (vars : List ByteArray) : ∀ (l : List Ty) (i : Nat), rightL v vars l = match fnd (fun t => decide (rightI v vars t ≠ 0)) l i with
    | some k => (match l[k - i]? with | some t => rightI v vars t | none => 0)
    | none => 0
  | [], i => by rw [rightL]; rfl
  | t :: l, i => by
    rw [rightL, fnd]
    by_cases h : rightI v vars t = 0
    · rw [if_pos h, if_neg (by simp [h]), rightL_fnd v vars l (i + 1)]
      cases hf : fnd (fun t => decide (rightI v vars t ≠ 0)) l (i + 1) with
      | none => rfl
      | some k =>
        have := (fnd_some hf).1
        simp only
        rw [show k - i = (k - (i + 1)) + 1 by omega]
        rfl
    · rw [if_neg h, if_pos (by simp [h])]
      simp
def eAt (v : Ev) (vars : List ByteArray) (ks : List Ty) (i : Nat) : Int := match ks[i]? with
  | some t => rightI v vars t
  | none => 0
theorem eAt_eq {v : Ev} {vars : List ByteArray} {ks : List Ty} {i : Nat} {t : Ty} (h : ks[i]? = some t) : eAt v vars ks i = rightI v vars t := by unfold eAt; rw [h]
section
variable (v : Ev) (hd : v.datas.length ≤ maxN) (vars : List ByteArray) (hv : vars.length ≤ maxN)
include hd hv
theorem right_p : ∀ (t : Ty), t.Ok → Sem Tryz.prog 15 [evA v, .pv (strs vars), tyA t] [] (.pv (iv (rightI v vars t))) [] := by
  intro t ht
  induction ht with
  | mk k s n ks hl hk ih =>
    have hkids : (rightL v vars ks = 0 ∧ BlkS Tryz.prog Tryz.f15 1 [(40, .pv (iv 0)), (39, .pv (iv ks.length)), (38, .pv (tys ks)), (3, .ptr 0 0), (1, .pv (strs vars))] [bxEnv v] .normal [] [bxEnv v]) ∨
        BlkS Tryz.prog Tryz.f15 1 [(40, .pv (iv 0)), (39, .pv (iv ks.length)), (38, .pv (tys ks)), (3, .ptr 0 0), (1, .pv (strs vars))] [bxEnv v] .ret [(6, .pv (iv (rightL v vars ks)))] [bxEnv v] := by
      have main := find_loop (P := Tryz.prog) (fn := Tryz.f15) (id := 1) (m0 := 1) (ex := .exit 1) ks (fun t => decide (rightI v vars t ≠ 0)) (fun i => [(40, .pv (iv i)), (39, .pv (iv ks.length)), (38, .pv (tys ks)), (3, .ptr 0 0), (1, .pv (strs vars))]) [bxEnv v] [] (fun i => [(6, .pv (iv (eAt v vars ks i)))]) (by simp) ?_ ?_ ?_
      · rcases main with ⟨g1, g2⟩ | ⟨i, a, g1, g3, g4, g2⟩
        · exact .inl ⟨by rw [rightL_fnd v vars ks 0, g1], LoopS.block (h := [bxEnv v]) f15_loop1 (by simp) g2⟩
        · have e : rightL v vars ks = eAt v vars ks i := by rw [rightL_fnd v vars ks 0, g1]; simp only [Nat.sub_zero]; rfl
          rw [e]
          exact .inr (LoopS.blockRet (h := [bxEnv v]) f15_loop1 (by simp) g2)
      · intro i a ha hf R
        have hi := lt_of_get ha
        have hw := wrap_lt hi hl
        have h1 := ih a (List.mem_of_getElem? ha)
        have hf : rightI v vars a = 0 := by simpa using hf
        rw [hf] at h1
        refine L15b1a _ _ _ _ _ _ _ (by simp) (by simp [H15b1a]) ?_ R
        simp [T15b1a, hi, idx_tys ha, hw]
        exact ⟨_, h1, by simp⟩
      · intro i a ha hf R
        have hi := lt_of_get ha
        have h1 := ih a (List.mem_of_getElem? ha)
        have hf : ¬ rightI v vars a = 0 := by simpa using hf
        refine L15b1a _ _ _ _ _ _ _ (by simp) (by simp [H15b1a]) ?_ R
        simp [T15b1a, hi, idx_tys ha, eAt_eq ha]
        exact ⟨_, h1, by simp [hf]⟩
      · intro R
        refine L15b1a _ _ _ _ _ _ _ (by simp) (by simp [H15b1a]) ?_ R
        simp [T15b1a]
    refine F15 _ _ _ _ _ _ _ _ (by simp [Ty.kids]) ?_
    rw [rightI]
    simp only [Ty.kind, Ty.name, Ty.n, Ty.kids]
    by_cases h1 : k = 1
    · have hc := cont_strs vars hv s
      cases hm : mem vars s with
      | false =>
        rw [hm] at hc
        simp [T15, h1, hc]
      | true =>
        rw [hm] at hc
        simp [T15, h1, hc]
        rcases hkids with ⟨g1, g2⟩ | g2
        · rw [g1]; exact .inl (.inl ⟨g2, rfl⟩)
        · exact .inl (.inr ⟨_, g2, rfl, by simp⟩)
    · by_cases h3 : k = 3
      · have ha := arity_p v hd s
        by_cases h4 : arity v s < 0
        · rw [decide_eq_false (by omega)] at ha
          simp [T15, h1, h3, h4]
          exact .inr ⟨_, ha, by simp⟩
        · rw [decide_eq_true (by omega), show max (arity v s) 0 = arity v s by omega] at ha
          simp [T15, h1, h3, h4]
          refine .inl ⟨_, ha, ?_⟩
          by_cases h5 : arity v s = ks.length
          · simp [h5]
            rcases hkids with ⟨g1, g2⟩ | g2
            · rw [g1]; exact .inl ⟨g2, rfl⟩
            · exact .inr ⟨_, g2, rfl, by simp⟩
          · simp [h5]
      · simp [T15, h1, h3]
theorem right_r : ∀ (t : Ty), t.Ok → Sem Tryz.prog 16 [evA v, .pv (strs vars), tyA t] [] (.pv (iv (rightI v vars t))) [] := by
  intro t ht
  induction ht with
  | mk k s n ks hl hk ih =>
    have hkids : (rightL v vars ks = 0 ∧ BlkS Tryz.prog Tryz.f16 0 [(8, .pv (iv 0)), (5, .ptr 0 0), (3, .ptr 1 0), (1, .pv (strs vars))] [bxTy (.mk k s n ks), bxEnv v] .normal [] [bxTy (.mk k s n ks), bxEnv v]) ∨
        BlkS Tryz.prog Tryz.f16 0 [(8, .pv (iv 0)), (5, .ptr 0 0), (3, .ptr 1 0), (1, .pv (strs vars))] [bxTy (.mk k s n ks), bxEnv v] .ret [(6, .pv (iv (rightL v vars ks)))] [bxTy (.mk k s n ks), bxEnv v] := by
      have main := find_loop (P := Tryz.prog) (fn := Tryz.f16) (id := 0) (m0 := 2) (ex := .exit 0) ks (fun t => decide (rightI v vars t ≠ 0)) (fun i => [(8, .pv (iv i)), (5, .ptr 0 0), (3, .ptr 1 0), (1, .pv (strs vars))]) [bxTy (.mk k s n ks), bxEnv v] [] (fun i => [(6, .pv (iv (eAt v vars ks i)))]) (by simp) ?_ ?_ ?_
      · rcases main with ⟨g1, g2⟩ | ⟨i, a, g1, g3, g4, g2⟩
        · exact .inl ⟨by rw [rightL_fnd v vars ks 0, g1], LoopS.block (h := [bxTy (.mk k s n ks), bxEnv v]) f16_loop0 (by simp) g2⟩
        · have e : rightL v vars ks = eAt v vars ks i := by rw [rightL_fnd v vars ks 0, g1]; simp only [Nat.sub_zero]; rfl
          rw [e]
          exact .inr (LoopS.blockRet (h := [bxTy (.mk k s n ks), bxEnv v]) f16_loop0 (by simp) g2)
      · intro i a ha hf R
        have hi := lt_of_get ha
        have hw := wrap_lt hi hl
        have h1 := ih a (List.mem_of_getElem? ha)
        have hf : rightI v vars a = 0 := by simpa using hf
        rw [hf] at h1
        refine L16b0a _ _ _ _ _ _ _ _ _ (by simp) (by simp [H16b0a]) ?_ R
        simp [T16b0a, Ty.kids, hi, idx_tys ha, hw]
        exact ⟨_, h1, by simp⟩
      · intro i a ha hf R
        have hi := lt_of_get ha
        have h1 := ih a (List.mem_of_getElem? ha)
        have hf : ¬ rightI v vars a = 0 := by simpa using hf
        refine L16b0a _ _ _ _ _ _ _ _ _ (by simp) (by simp [H16b0a]) ?_ R
        simp [T16b0a, Ty.kids, hi, idx_tys ha, eAt_eq ha]
        exact ⟨_, h1, by simp [hf]⟩
      · intro R
        refine L16b0a _ _ _ _ _ _ _ _ _ (by simp) (by simp [H16b0a]) ?_ R
        simp [T16b0a, Ty.kids]
    refine F16 _ _ _ _ _ _ _ _ (by simp [Ty.kids]) ?_
    rw [rightI]
    simp only [Ty.kind, Ty.name, Ty.n, Ty.kids]
    by_cases h1 : k = 1
    · subst h1
      have hc := has_strs vars hv s
      cases hm : mem vars s with
      | false =>
        rw [hm] at hc
        simp [T16, hc]
      | true =>
        rw [hm] at hc
        simp [T16, hc]
        rcases hkids with ⟨g1, g2⟩ | g2
        · rw [g1]; exact .inl (.inl ⟨g2, rfl⟩)
        · exact .inl (.inr ⟨_, g2, rfl, by simp⟩)
    · by_cases h3 : k = 3
      · subst h3
        have ha := arity_r v hd s
        simp [T16]
        refine ⟨_, ha, ?_⟩
        by_cases h4 : arity v s < 0
        · simp [h4]; intro h; omega
        · have h4' : 0 ≤ arity v s := by omega
          by_cases h5 : arity v s = ks.length
          · have h6 : ¬ ((ks.length : Int) < 0) := by omega
            simp [h5, h6]
            rcases hkids with ⟨g1, g2⟩ | g2
            · rw [g1]; first | exact .inl ⟨g2, rfl⟩ | exact .inr (.inl ⟨g2, rfl⟩) | exact .inr (.inr (.inl ⟨g2, rfl⟩))
            · first | exact .inr ⟨_, g2, rfl, by simp⟩ | exact .inr (.inr ⟨_, g2, rfl, by simp⟩) | exact .inr (.inr (.inr ⟨_, g2, rfl, by simp⟩))
          · simp [h4, h4', h5]
      · simp [T16, h1, h3]
end
end Go.Proofs.YtjpjcjnacnlhdaaGreat
