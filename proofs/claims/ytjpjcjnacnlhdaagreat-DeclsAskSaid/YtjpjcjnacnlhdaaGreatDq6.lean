/- What stands above a class, by the document. -/
import Derived.Test.YtjpjcjnacnlhdaaGreatDq5
namespace Go.Proofs.YtjpjcjnacnlhdaaGreat
open Go.RowKit
set_option linter.unusedSimpArgs false
set_option linter.unusedVariables false

/-- The row that is handed on: nil, one of its own, or a new one. -/
def ovV (t : Nat) (b : Bool) (l : List ByteArray) : AV := if b then .trows t (srow l) else .trows 0 (srow l)
section
variable {v : Ev} {U : List ByteArray} (h : SupOk v U)
include h
theorem ov_b : ∀ (n : Nat) (met : List ByteArray) (c : ByteArray), cnt U met < n → met.length + cnt U met ≤ 100000000000 →
    ∃ b : Bool, (b = false → upN v n met c = met) ∧ Sem Tryz.prog 64 [evA v, .pv (sv c), .trows 0 (srow met)] [tk met] (ovV 1 b (upN v n met c)) (if b then [.dead, tk (upN v n met c)] else [tk (upN v n met c)]) := by
  intro n
  induction n with
  | zero => intro met c hc; omega
  | succ n ih =>
    intro met c hc hM
    have hcl := class_r v h.cl c
    have hlm := small_sym (l := met) (by omega)
    by_cases h0 : 0 ≤ fi (isCl c) v.classes
    · obtain ⟨k, x, e1, e2, e3, _⟩ := fi_nonneg h0
      rw [e1] at hcl
      have hx := List.mem_of_getElem? e3
      have hsl := h.su x hx
      have main := fold_loop (P := Tryz.prog) (fn := Tryz.f64) (id := 0) (m0 := 2) (ex := .exit 0) x.supers (stepUp (upN v n))
        (fun (b : Bool) i m => if b then ([(9, .pv (iv i)), (8, .pv (strs x.supers)), (2, .trows 2 (srow m)), (3, .ptr 1 0)], [.dead, bxEnv v, tk m]) else ([(9, .pv (iv i)), (8, .pv (strs x.supers)), (2, .trows 0 (srow m)), (3, .ptr 1 0)], [tk m, bxEnv v]))
        (fun b m => if b then ([(2, .trows 2 (srow m))], [.dead, bxEnv v, tk m]) else ([(2, .trows 0 (srow m))], [tk m, bxEnv v]))
        (fun b m => (b = false → m = met) ∧ m.length + cnt U m ≤ met.length + cnt U met ∧ cnt U m ≤ cnt U met) (by simp) ?_ ?_ false met ⟨fun _ => rfl, Nat.le_refl _, Nat.le_refl _⟩
      · obtain ⟨b, ⟨g1, g2, _⟩, g3⟩ := main
        refine ⟨b, ?_, ?_⟩
        · intro hb; rw [upN, e2]; simp only [supsAt, e3]; exact g1 hb
        · have eU : upN v (n + 1) met c = x.supers.foldl (stepUp (upN v n)) met := by rw [upN, e2]; simp only [supsAt, e3]
          rw [eU]
          generalize x.supers.foldl (stepUp (upN v n)) met = r at g1 g2 g3 ⊢
          have hlr := small_sym (l := r) (by omega)
          simp only [Bool.false_eq_true, if_false] at g3
          cases b with
          | false =>
            have e := (g1 rfl).symm
            subst e
            simp only [Bool.false_eq_true, if_false] at g3
            have hB := LoopS.block (h := [tk met, bxEnv v]) f64_loop0 (by simp [hlm]) g3
            simp only [ovV, Bool.false_eq_true, if_false]
            refine F64b (dts v.datas) (cls v.classes) (its v.insts) (sv c) (srow met) (by simp) (by simp [H64b, hlm]) ?_
            simp [T64b, hlm]
            refine ⟨_, hcl, ?_⟩
            simp [idx_cls e3]
            exact .inr hB
          | true =>
            simp only [if_true] at g3
            have hB := LoopS.block (h := [tk met, bxEnv v]) f64_loop0 (by simp [hlm]) g3
            simp only [ovV, if_true]
            refine F64b (dts v.datas) (cls v.classes) (its v.insts) (sv c) (srow met) (by simp) (by simp [H64b, hlm]) ?_
            simp [T64b, hlm]
            refine ⟨_, hcl, ?_⟩
            simp [idx_cls e3]
            exact ⟨.rows (srow r), by simpa [hlr] using hB⟩
      · intro i s hs b m ⟨k1, k2, k3⟩
        have hi := lt_of_get hs
        have hw := wrap_lt hi hsl
        have hlm' := small_sym (l := m) (by omega)
        have hct := has_strs m (by unfold maxN; omega) s
        rw [strs_srow] at hct
        cases hm : mem m s with
        | true =>
          rw [hm] at hct
          have eg : stepUp (upN v n) m s = m := by unfold stepUp; rw [if_pos hm]
          rw [eg]
          refine ⟨b, ⟨k1, k2, k3⟩, fun R => ?_⟩
          cases b with
          | false =>
            simp only [Bool.false_eq_true, if_false]
            refine L64bb0a (iv i) (strs x.supers) (srow m) (dts v.datas) (cls v.classes) (its v.insts) (by simp) (by simp [H64bb0a, hlm']) ?_ R
            simp [T64bb0a, hi, idx_strs hs, hct, hw, hlm']
          | true =>
            simp only [if_true]
            refine L64bb0b (iv i) (strs x.supers) (srow m) (dts v.datas) (cls v.classes) (its v.insts) (by simp) (by simp [H64bb0b, hlm']) ?_ R
            simp [T64bb0b, hi, idx_strs hs, hct, hw, hlm']
        | false =>
          rw [hm] at hct
          have eg : stepUp (upN v n) m s = upN v n (m ++ [s]) s := by unfold stepUp; rw [if_neg (by simp [hm])]
          rw [eg]
          have hcU := cnt_lt (h.all x hx s (List.mem_of_getElem? hs)) hm
          have hl1 : (m ++ [s]).length = m.length + 1 := by simp
          obtain ⟨b', hb', hS⟩ := ih (m ++ [s]) s (by omega) (by omega)
          have hL := upN_len h n (m ++ [s]) s
          have hsub : cnt U (upN v n (m ++ [s]) s) ≤ cnt U m := cnt_le fun y hy => upN_sub v n _ _ _ (by rw [mem_app, hy]; rfl)
          have hap := fun q => app_s m s (q := q) (by omega)
          refine ⟨true, ⟨fun e => by simp at e, by omega, by omega⟩, fun R => ?_⟩
          generalize upN v n (m ++ [s]) s = r at hb' hS hL hsub ⊢
          have hlr := small_sym (l := r) (by omega)
          have hl2 := small_sym (l := m ++ [s]) (by omega)
          cases b with
          | false =>
            simp only [Bool.false_eq_true, if_false, if_true]
            refine L64bb0a (iv i) (strs x.supers) (srow m) (dts v.datas) (cls v.classes) (its v.insts) (by simp) (by simp [H64bb0a, hlm']) ?_ R
            cases b' with
            | false =>
              obtain rfl := hb' rfl
              simp only [ovV, Bool.false_eq_true, if_false] at hS
              simp [T64bb0a, hi, idx_strs hs, hct, hw, hlm', hap, hl2]
              exact .inl hS
            | true =>
              simp only [ovV, Bool.false_eq_true, if_false, if_true] at hS
              simp [T64bb0a, hi, idx_strs hs, hct, hw, hlm', hap, hl2]
              exact .inr ⟨.rows (srow r), by simpa [hlr] using hS⟩
          | true =>
            simp only [Bool.false_eq_true, if_false, if_true]
            refine L64bb0b (iv i) (strs x.supers) (srow m) (dts v.datas) (cls v.classes) (its v.insts) (by simp) (by simp [H64bb0b, hlm']) ?_ R
            cases b' with
            | false =>
              obtain rfl := hb' rfl
              simp only [ovV, Bool.false_eq_true, if_false] at hS
              simp [T64bb0b, hi, idx_strs hs, hct, hw, hlm', hap, hl2]
              exact .inr (.inl hS)
            | true =>
              simp only [ovV, Bool.false_eq_true, if_false, if_true] at hS
              simp [T64bb0b, hi, idx_strs hs, hct, hw, hlm', hap, hl2]
              exact .inr (.inr ⟨.rows (srow r), by simpa [hlr] using hS⟩)
      · intro b m ⟨k1, k2, k3⟩ R
        have hlm' := small_sym (l := m) (by omega)
        cases b with
        | false =>
          simp only [Bool.false_eq_true, if_false]
          refine L64bb0a (iv x.supers.length) (strs x.supers) (srow m) (dts v.datas) (cls v.classes) (its v.insts) (by simp) (by simp [H64bb0a, hlm']) ?_ R
          simp [T64bb0a, hlm']
        | true =>
          simp only [if_true]
          refine L64bb0b (iv x.supers.length) (strs x.supers) (srow m) (dts v.datas) (cls v.classes) (its v.insts) (by simp) (by simp [H64bb0b, hlm']) ?_ R
          simp [T64bb0b, hlm']
    · have hneg : fi (isCl c) v.classes < 0 := by omega
      refine ⟨false, fun _ => by rw [upN, (fi_neg h0).2], ?_⟩
      rw [upN, (fi_neg h0).2]
      simp only [ovV, Bool.false_eq_true, if_false]
      refine F64b (dts v.datas) (cls v.classes) (its v.insts) (sv c) (srow met) (by simp) (by simp [H64b, hlm]) ?_
      simp [T64b, hlm]
      exact ⟨_, hcl, by simp [hneg]⟩
theorem ov_a (n : Nat) (c : ByteArray) (hc : cnt U [] < n + 1) (hM : cnt U [] ≤ 100000000000) :
    (upN v (n + 1) [] c = [] ∧ Sem Tryz.prog 64 [evA v, .pv (sv c), .pv (.lit (.slice none 0 0))] [] (.pv (.lit (.slice none 0 0))) []) ∨
    Sem Tryz.prog 64 [evA v, .pv (sv c), .pv (.lit (.slice none 0 0))] [] (.trows 0 (srow (upN v (n + 1) [] c))) [tk (upN v (n + 1) [] c)] := by
  have hcl := class_r v h.cl c
  by_cases h0 : 0 ≤ fi (isCl c) v.classes
  · obtain ⟨k, x, e1, e2, e3, _⟩ := fi_nonneg h0
    rw [e1] at hcl
    have hx := List.mem_of_getElem? e3
    have hsl := h.su x hx
    have main := fold_loop (P := Tryz.prog) (fn := Tryz.f64) (id := 0) (m0 := 1) (ex := .exit 0) x.supers (stepUp (upN v n))
      (fun (b : Bool) i m => if b then ([(9, .pv (iv i)), (8, .pv (strs x.supers)), (2, .trows 1 (srow m)), (3, .ptr 0 0)], [bxEnv v, tk m]) else ([(9, .pv (iv i)), (8, .pv (strs x.supers)), (2, .pv (.lit (.slice none 0 0))), (3, .ptr 0 0)], [bxEnv v]))
      (fun b m => if b then ([(2, .trows 1 (srow m))], [bxEnv v, tk m]) else ([(2, .pv (.lit (.slice none 0 0)))], [bxEnv v]))
      (fun b m => (b = false → m = []) ∧ m.length + cnt U m ≤ cnt U [] ∧ cnt U m ≤ cnt U []) (by simp) ?_ ?_ false [] ⟨fun _ => rfl, by simp, Nat.le_refl _⟩
    · obtain ⟨b, ⟨g1, g2, _⟩, g3⟩ := main
      have eU : upN v (n + 1) [] c = x.supers.foldl (stepUp (upN v n)) [] := by rw [upN, e2]; simp only [supsAt, e3]
      rw [eU]
      generalize x.supers.foldl (stepUp (upN v n)) [] = r at g1 g2 g3 ⊢
      have hlr := small_sym (l := r) (by omega)
      simp only [Bool.false_eq_true, if_false] at g3
      cases b with
      | false =>
        simp only [Bool.false_eq_true, if_false] at g3
        have hB := LoopS.block (h := [bxEnv v]) f64_loop0 (by simp) g3
        refine .inl ⟨g1 rfl, ?_⟩
        refine F64a (dts v.datas) (cls v.classes) (its v.insts) (sv c) (by simp) ?_
        simp [T64a]
        refine ⟨_, hcl, ?_⟩
        simp [idx_cls e3]
        exact .inr hB
      | true =>
        simp only [if_true] at g3
        have hB := LoopS.block (h := [bxEnv v]) f64_loop0 (by simp) g3
        refine .inr ?_
        refine F64a (dts v.datas) (cls v.classes) (its v.insts) (sv c) (by simp) ?_
        simp [T64a]
        refine ⟨_, hcl, ?_⟩
        simp [idx_cls e3]
        exact ⟨.rows (srow r), by simpa [hlr] using hB⟩
    · intro i s hs b m ⟨k1, k2, k3⟩
      have hi := lt_of_get hs
      have hw := wrap_lt hi hsl
      have hlm' := small_sym (l := m) (by omega)
      have hct := has_strs m (by unfold maxN; omega) s
      rw [strs_srow] at hct
      cases hm : mem m s with
      | true =>
        rw [hm] at hct
        have eg : stepUp (upN v n) m s = m := by unfold stepUp; rw [if_pos hm]
        rw [eg]
        refine ⟨b, ⟨k1, k2, k3⟩, fun R => ?_⟩
        cases b with
        | false => rw [k1 rfl] at hm; cases hm
        | true =>
          simp only [if_true]
          refine L64ab0b (iv i) (strs x.supers) (srow m) (dts v.datas) (cls v.classes) (its v.insts) (by simp) (by simp [H64ab0b, hlm']) ?_ R
          simp [T64ab0b, hi, idx_strs hs, hct, hw, hlm']
      | false =>
        rw [hm] at hct
        have eg : stepUp (upN v n) m s = upN v n (m ++ [s]) s := by unfold stepUp; rw [if_neg (by simp [hm])]
        rw [eg]
        have hcU := cnt_lt (h.all x hx s (List.mem_of_getElem? hs)) hm
        have hl1 : (m ++ [s]).length = m.length + 1 := by simp
        obtain ⟨b', hb', hS⟩ := ov_b h n (m ++ [s]) s (by omega) (by omega)
        have hL := upN_len h n (m ++ [s]) s
        have hsub : cnt U (upN v n (m ++ [s]) s) ≤ cnt U m := cnt_le fun y hy => upN_sub v n _ _ _ (by rw [mem_app, hy]; rfl)
        have hap := fun q => app_s m s (q := q) (by omega)
        refine ⟨true, ⟨fun e => by simp at e, by omega, by omega⟩, fun R => ?_⟩
        generalize upN v n (m ++ [s]) s = r at hb' hS hL hsub ⊢
        have hlr := small_sym (l := r) (by omega)
        have hl2 := small_sym (l := m ++ [s]) (by omega)
        cases b with
        | false =>
          obtain rfl := k1 rfl
          simp only [List.nil_append] at hb' hS hl2
          rw [srow_nil] at hct
          simp only [Bool.false_eq_true, if_false, if_true]
          refine L64ab0a (iv i) (strs x.supers) (dts v.datas) (cls v.classes) (its v.insts) (by simp) (by simp [H64ab0a]) ?_ R
          have h1 : (1 : Nat) < symBase := by decide
          cases b' with
          | false =>
            obtain rfl := hb' rfl
            simp only [ovV, Bool.false_eq_true, if_false, srow_one] at hS
            simp [T64ab0a, hi, idx_strs hs, hct, hw, h1, srow_one]
            first | exact .inl hS | exact .inl ⟨hS, rfl, rfl⟩
          | true =>
            simp only [ovV, Bool.false_eq_true, if_false, if_true, srow_one] at hS
            simp [T64ab0a, hi, idx_strs hs, hct, hw, h1]
            exact .inr ⟨.rows (srow r), hS, by simp [hlr]⟩
        | true =>
          simp only [Bool.false_eq_true, if_false, if_true]
          refine L64ab0b (iv i) (strs x.supers) (srow m) (dts v.datas) (cls v.classes) (its v.insts) (by simp) (by simp [H64ab0b, hlm']) ?_ R
          cases b' with
          | false =>
            obtain rfl := hb' rfl
            simp only [ovV, Bool.false_eq_true, if_false] at hS
            simp [T64ab0b, hi, idx_strs hs, hct, hw, hlm', hap, hl2]
            exact .inr (.inl hS)
          | true =>
            simp only [ovV, Bool.false_eq_true, if_false, if_true] at hS
            simp [T64ab0b, hi, idx_strs hs, hct, hw, hlm', hap, hl2]
            exact .inr (.inr ⟨.rows (srow r), by simpa [hlr] using hS⟩)
    · intro b m ⟨k1, k2, k3⟩ R
      have hlm' := small_sym (l := m) (by omega)
      cases b with
      | false =>
        simp only [Bool.false_eq_true, if_false]
        refine L64ab0a (iv x.supers.length) (strs x.supers) (dts v.datas) (cls v.classes) (its v.insts) (by simp) (by simp [H64ab0a]) ?_ R
        simp [T64ab0a]
      | true =>
        simp only [if_true]
        refine L64ab0b (iv x.supers.length) (strs x.supers) (srow m) (dts v.datas) (cls v.classes) (its v.insts) (by simp) (by simp [H64ab0b, hlm']) ?_ R
        simp [T64ab0b, hlm']
  · have hneg : fi (isCl c) v.classes < 0 := by omega
    refine .inl ⟨by rw [upN, (fi_neg h0).2], ?_⟩
    refine F64a (dts v.datas) (cls v.classes) (its v.insts) (sv c) (by simp) ?_
    simp [T64a]
    exact ⟨_, hcl, by simp [hneg]⟩
theorem above_r (c : ByteArray) (hM : cnt U [] ≤ 100000000000) : Sem Tryz.prog 27 [evA v, .pv (sv c)] [] (.pv (strs (upN v (cnt U [] + 1) [] c))) [] := by
  have hL := upN_len h (cnt U [] + 1) [] c
  rcases ov_a h (cnt U []) c (by omega) hM with ⟨e, hS⟩ | hS
  · rw [e]
    have key : Sem Tryz.prog 27 [evA v, .pv (sv c)] [] (.pv (.lit (.slice none 0 0))) [] := by
      refine F27 _ _ _ _ (by simp) ?_
      simp [T27]
      exact hS
    exact Sem.forget key rfl
  · generalize upN v (cnt U [] + 1) [] c = r at hS hL ⊢
    have hlr := small_sym (l := r) (by simp at hL; omega)
    have key : Sem Tryz.prog 27 [evA v, .pv (sv c)] [] (.trows 0 (srow r)) [tk r] := by
      refine F27 _ _ _ _ (by simp) ?_
      simp [T27]
      exact ⟨.rows (srow r), by simpa [hlr] using hS⟩
    exact Sem.forget key rfl
end
end Go.Proofs.YtjpjcjnacnlhdaaGreat
