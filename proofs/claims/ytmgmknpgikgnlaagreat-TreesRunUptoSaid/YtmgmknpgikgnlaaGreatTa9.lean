/- What a pattern names: the walk. -/
import Derived.Test.YtmgmknpgikgnlaaGreatTa8
namespace Go.Proofs.YtmgmknpgikgnlaaGreat
open Go.RowKit

theorem nonE_app (a b : VL1) : nonE (a ++ b) = (nonE a || nonE b) := by cases a <;> cases b <;> rfl
theorem nonE_iff (a : VL1) : nonE a = false ↔ a = [] := by cases a <;> simp [nonE]
theorem loopr5 (ks : List Pt) (path : List Int) (hp : path ≠ []) (hpl : path.length ≤ 10000000) (hks : ks.length < 1000000000000) (ih : ∀ (i : Nat) (c : Pt), ks[i]? = some c → Walks c (path ++ [(i : Int)])) (acc0 : VL1) (hN : acc0.length + (Pt.varsL ks path 0).length ≤ 1000000000) :
    LoopS Tryz.prog Tryz.f21 0 5 (envW ks (ints path) 0) (D5 false acc0) (.exit 0) [] (D5 (nonE (Pt.varsL ks path 0)) (acc0 ++ (Pt.varsL ks path 0))) := by
  have main := list_loop (P := Tryz.prog) (fn := Tryz.f21) (id := 0) (m0 := 5) (ex := .exit 0) ks (fun d i => (envW ks (ints path) i, (D5 (nonE d) (acc0 ++ d)))) (fun d => ([], (D5 (nonE d) (acc0 ++ d)))) (fun i d => d ++ Pt.varsL (ks.drop i) path (0 + i) = Pt.varsL ks path 0) (by simp) ?_ ?_ _ 0 [] rfl (Nat.zero_le _) (by simp)
  · obtain ⟨d, h1, h2⟩ := main
    rw [List.drop_of_length_le (Nat.le_refl _), Pt.varsL, List.append_nil] at h1
    subst h1
    simpa [nonE] using h2
  · intro i c hc d hd
    have hv := @Pt.varsL_drop path ks i 0 c hc
    simp only [Nat.zero_add] at hv hd ⊢
    rw [hv, ← List.append_assoc] at hd
    have hlen := congrArg List.length hd
    simp only [List.length_append] at hlen
    refine ⟨d ++ c.vars (path ++ [(i : Int)]), hd, fun R => ?_⟩
    have := roundr5 ks path hp hpl hks i c hc (ih i c hc) (nonE d) (acc0 ++ d) (by rw [List.length_append]; omega) R
    rw [nonE_app, ← List.append_assoc]; exact this
  · intro d hd R
    rw [List.drop_of_length_le (Nat.le_refl _), Pt.varsL, List.append_nil] at hd
    subst hd
    generalize Pt.varsL ks path 0 = d at hN ⊢
    have ha : acc0.length + d.length < symBase := by unfold symBase; omega
    cases nonE d with
    | false =>
      simp only [D5, Bool.false_eq_true, if_false, envW]
      refine L21cb0a (iv ks.length) (iv ks.length) (pts ks) (ints path) (nrow (acc0 ++ d)) (prow (acc0 ++ d)) (by simp) (by simp [H21cb0a, ha]) ?_ R
      simp [T21cb0a, ha]
    | true =>
      simp only [D5, if_true, envW]
      refine L21cb0c (iv ks.length) (iv ks.length) (pts ks) (ints path) (nrow (acc0 ++ d)) (prow (acc0 ++ d)) (by simp) (by simp [H21cb0c, ha]) ?_ R
      simp [T21cb0c, ha]
theorem loopr3 (ks : List Pt) (path : List Int) (hp : path ≠ []) (hpl : path.length ≤ 10000000) (hks : ks.length < 1000000000000) (ih : ∀ (i : Nat) (c : Pt), ks[i]? = some c → Walks c (path ++ [(i : Int)])) (hN : (Pt.varsL ks path 0).length ≤ 1000000000) :
    LoopS Tryz.prog Tryz.f21 0 3 (envW ks (ints path) 0) (D3 []) (.exit 0) [] (D3 (Pt.varsL ks path 0)) := by
  have main := list_loop (P := Tryz.prog) (fn := Tryz.f21) (id := 0) (m0 := 3) (ex := .exit 0) ks (fun d i => (envW ks (ints path) i, (D3 d))) (fun d => ([], (D3 d))) (fun i d => d ++ Pt.varsL (ks.drop i) path (0 + i) = Pt.varsL ks path 0) (by simp) ?_ ?_ _ 0 [] rfl (Nat.zero_le _) (by simp)
  · obtain ⟨d, h1, h2⟩ := main
    rw [List.drop_of_length_le (Nat.le_refl _), Pt.varsL, List.append_nil] at h1
    subst h1
    exact h2
  · intro i c hc d hd
    have hv := @Pt.varsL_drop path ks i 0 c hc
    simp only [Nat.zero_add] at hv hd ⊢
    rw [hv, ← List.append_assoc] at hd
    have hlen := congrArg List.length hd
    simp only [List.length_append] at hlen
    refine ⟨d ++ c.vars (path ++ [(i : Int)]), hd, fun R => ?_⟩
    have := roundr3 ks path hp hpl hks i c hc (ih i c hc) d (by omega) R
    exact this
  · intro d hd R
    rw [List.drop_of_length_le (Nat.le_refl _), Pt.varsL, List.append_nil] at hd
    subst hd
    generalize Pt.varsL ks path 0 = d at hN ⊢
    have ha : d.length < symBase := by unfold symBase; omega
    by_cases h0 : d = []
    · subst h0
      simp only [D3, if_true, envW]
      refine L21cb0b (iv ks.length) (iv ks.length) (pts ks) (ints path) (by simp) (by simp [H21cb0b]) ?_ R
      simp [T21cb0b]
    · simp only [D3, if_neg h0, envW]
      refine L21cb0d (iv ks.length) (iv ks.length) (pts ks) (ints path) (nrow d) (prow d) (by simp) (by simp [H21cb0d, ha]) ?_ R
      simp [T21cb0d, ha]
theorem loopn5 (ks : List Pt)  (hks : ks.length < 1000000000000) (ih : ∀ (i : Nat) (c : Pt), ks[i]? = some c → Walks c ([(i : Int)])) (acc0 : VL1) (hN : acc0.length + (Pt.varsL ks [] 0).length ≤ 1000000000) :
    LoopS Tryz.prog Tryz.f21 0 5 (envW ks (.lit (.slice none 0 0)) 0) (D5 false acc0) (.exit 0) [] (D5 (nonE (Pt.varsL ks [] 0)) (acc0 ++ (Pt.varsL ks [] 0))) := by
  have main := list_loop (P := Tryz.prog) (fn := Tryz.f21) (id := 0) (m0 := 5) (ex := .exit 0) ks (fun d i => (envW ks (.lit (.slice none 0 0)) i, (D5 (nonE d) (acc0 ++ d)))) (fun d => ([], (D5 (nonE d) (acc0 ++ d)))) (fun i d => d ++ Pt.varsL (ks.drop i) [] (0 + i) = Pt.varsL ks [] 0) (by simp) ?_ ?_ _ 0 [] rfl (Nat.zero_le _) (by simp)
  · obtain ⟨d, h1, h2⟩ := main
    rw [List.drop_of_length_le (Nat.le_refl _), Pt.varsL, List.append_nil] at h1
    subst h1
    simpa [nonE] using h2
  · intro i c hc d hd
    have hv := @Pt.varsL_drop [] ks i 0 c hc
    simp only [Nat.zero_add, List.nil_append] at hv hd ⊢
    rw [hv, ← List.append_assoc] at hd
    have hlen := congrArg List.length hd
    simp only [List.length_append] at hlen
    refine ⟨d ++ c.vars ([(i : Int)]), hd, fun R => ?_⟩
    have := roundn5 ks hks i c hc (ih i c hc) (nonE d) (acc0 ++ d) (by rw [List.length_append]; omega) R
    rw [nonE_app, ← List.append_assoc]; exact this
  · intro d hd R
    rw [List.drop_of_length_le (Nat.le_refl _), Pt.varsL, List.append_nil] at hd
    subst hd
    generalize Pt.varsL ks [] 0 = d at hN ⊢
    have ha : acc0.length + d.length < symBase := by unfold symBase; omega
    cases nonE d with
    | false =>
      simp only [D5, Bool.false_eq_true, if_false, envW]
      refine L21ab0a (iv ks.length) (iv ks.length) (pts ks) (nrow (acc0 ++ d)) (prow (acc0 ++ d)) (by simp) (by simp [H21ab0a, ha]) ?_ R
      simp [T21ab0a, ha]
    | true =>
      simp only [D5, if_true, envW]
      refine L21ab0c (iv ks.length) (iv ks.length) (pts ks) (nrow (acc0 ++ d)) (prow (acc0 ++ d)) (by simp) (by simp [H21ab0c, ha]) ?_ R
      simp [T21ab0c, ha]
theorem loopn3 (ks : List Pt)  (hks : ks.length < 1000000000000) (ih : ∀ (i : Nat) (c : Pt), ks[i]? = some c → Walks c ([(i : Int)])) (hN : (Pt.varsL ks [] 0).length ≤ 1000000000) :
    LoopS Tryz.prog Tryz.f21 0 3 (envW ks (.lit (.slice none 0 0)) 0) (D3 []) (.exit 0) [] (D3 (Pt.varsL ks [] 0)) := by
  have main := list_loop (P := Tryz.prog) (fn := Tryz.f21) (id := 0) (m0 := 3) (ex := .exit 0) ks (fun d i => (envW ks (.lit (.slice none 0 0)) i, (D3 d))) (fun d => ([], (D3 d))) (fun i d => d ++ Pt.varsL (ks.drop i) [] (0 + i) = Pt.varsL ks [] 0) (by simp) ?_ ?_ _ 0 [] rfl (Nat.zero_le _) (by simp)
  · obtain ⟨d, h1, h2⟩ := main
    rw [List.drop_of_length_le (Nat.le_refl _), Pt.varsL, List.append_nil] at h1
    subst h1
    exact h2
  · intro i c hc d hd
    have hv := @Pt.varsL_drop [] ks i 0 c hc
    simp only [Nat.zero_add, List.nil_append] at hv hd ⊢
    rw [hv, ← List.append_assoc] at hd
    have hlen := congrArg List.length hd
    simp only [List.length_append] at hlen
    refine ⟨d ++ c.vars ([(i : Int)]), hd, fun R => ?_⟩
    have := roundn3 ks hks i c hc (ih i c hc) d (by omega) R
    exact this
  · intro d hd R
    rw [List.drop_of_length_le (Nat.le_refl _), Pt.varsL, List.append_nil] at hd
    subst hd
    generalize Pt.varsL ks [] 0 = d at hN ⊢
    have ha : d.length < symBase := by unfold symBase; omega
    by_cases h0 : d = []
    · subst h0
      simp only [D3, if_true, envW]
      refine L21ab0b (iv ks.length) (iv ks.length) (pts ks) (by simp) (by simp [H21ab0b]) ?_ R
      simp [T21ab0b]
    · simp only [D3, if_neg h0, envW]
      refine L21ab0d (iv ks.length) (iv ks.length) (pts ks) (nrow d) (prow d) (by simp) (by simp [H21ab0d, ha]) ?_ R
      simp [T21ab0d, ha]
theorem objD5 (acc : VL1) (h : acc.length < symBase) : ∀ x ∈ D5 false acc, NSO x := by simp [D5, h]
theorem objD3 : ∀ x ∈ D3 [], NSO x := by simp [D3]
theorem s38 : SlT Tryz.prog 38 1 16 := SlT.of (by kernel_rfl)
theorem s39 : SlT Tryz.prog 39 1 24 := SlT.of (by kernel_rfl)
theorem app38 (l : VL1) (s : ByteArray) (p : List Int) (hb : l.length ≤ 1000000000) {q : PV} : AppOk Tryz.prog 38 (.pv (.rows (nrow l))) (.pv (.rows [[sv s]])) q ↔ q = .rows (nrow (l ++ [(s, p)])) := by
  have := app_ok (q := q) s38 (s := .pv (.rows (nrow l))) (x := .pv (.rows [[sv s]])) (es := nrow l) (es' := [[sv s]]) rfl rfl (by simp) (by simp) (by simp; omega) (by simp; omega)
  rw [nrow_app]
  exact this
theorem app39 (l : VL1) (s : ByteArray) (p : List Int) (hp : p ≠ []) (hb : l.length ≤ 1000000000) {q : PV} : AppOk Tryz.prog 39 (.pv (.rows (prow l))) (.pv (.rows [[ints p]])) q ↔ q = .rows (prow (l ++ [(s, p)])) := by
  have e : [[ints p]] = prow [(s, p)] := by simp [prow, pathP, hp]
  rw [prow_app, e]
  exact app_ok s39 (s := .pv (.rows (prow l))) (x := .pv (.rows (prow [(s, p)]))) rfl rfl (by simp [prow]) (by simp [prow]) (by simp; omega) (by simp; omega)
inductive Pt.Ok : Nat → Pt → Prop where
  | mk (d : Nat) (k : Int) (s : ByteArray) (n : Int) (ks : List Pt) (a : Int) (hks : ks.length < 1000000000000) (h : ∀ c ∈ ks, Pt.Ok d c) : Pt.Ok (d + 1) (.mk k s n ks a)
theorem nrow_one (s : ByteArray) (p : List Int) : nrow [(s, p)] = [[sv s]] := rfl
theorem prow_one (s : ByteArray) (p : List Int) (hp : p ≠ []) : prow [(s, p)] = [[ints p]] := by simp [prow, pathP, hp]
theorem prow_nil (s : ByteArray) : prow [(s, [])] = [[.lit (.slice none 0 0)]] := by simp [prow, pathP]
theorem walks {d : Nat} {p : Pt} (h : p.Ok d) : ∀ path, path ≠ [] → path.length + d ≤ 10000000 → Walks p path := by
  induction h with
  | mk d k s n ks a hks _ ih =>
    intro path hp hpl
    have ihk : ∀ (i : Nat) (c : Pt), ks[i]? = some c → Walks c (path ++ [(i : Int)]) := fun i c hc => ih c (List.mem_of_getElem? hc) _ (by simp) (by simp; omega)
    refine ⟨fun hN => ?_, fun acc hN => ?_⟩
    · rw [Pt.vars] at hN ⊢
      by_cases hk : k = 2
      · subst hk
        rw [if_pos rfl] at hN ⊢
        simp only [List.length_append, List.length_singleton] at hN
        have hL := loopr5 ks path hp (by omega) hks ihk [(s, path)] (by simpa using hN)
        have hB := LoopS.block f21_loop0 (objD5 _ (by simp [one_lt])) hL
        generalize Pt.varsL ks path 0 = vl at hN hB ⊢
        have hlt : vl.length + 1 < symBase := by unfold symBase; omega
        simp only [C3, if_true, List.cons_append, List.nil_append, reduceCtorEq, if_false]
        refine F21c (iv 2) (sv s) (iv n) (pts ks) (iv a) (ints path) (by simp) (by simp [H21c]) ?_
        cases vl with
        | nil =>
          simp [envW, D5, nonE, nrow_one, prow_one s path hp] at hB
          simp [T21c, nrow_one, prow_one s path hp, one_lt]
          exact .inl hB
        | cons v vl =>
          simp [envW, D5, nonE, nrow_one, prow_one s path hp] at hB
          simp [T21c]
          refine ⟨.rows (nrow ((s, path) :: v :: vl)), .rows (prow ((s, path) :: v :: vl)), by simpa using hB, ?_⟩
          simp at hlt
          simp [hlt, one_lt]
      · rw [if_neg hk, List.nil_append] at hN ⊢
        have hL := loopr3 ks path hp (by omega) hks ihk hN
        have hB := LoopS.block f21_loop0 objD3 hL
        generalize Pt.varsL ks path 0 = vl at hN hB ⊢
        have hlt : vl.length < symBase := by unfold symBase; omega
        simp only [C3, if_true]
        refine F21c (iv k) (sv s) (iv n) (pts ks) (iv a) (ints path) (by simp) (by simp [H21c]) ?_
        cases vl with
        | nil =>
          simp [envW, D3] at hB
          simp [T21c, hk]
          exact hB
        | cons v vl =>
          simp [envW, D3] at hB
          simp [T21c, hk]
          refine ⟨.rows (nrow (v :: vl)), .rows (prow (v :: vl)), by simpa using hB, ?_⟩
          simp at hlt
          simp [hlt]
    · rw [Pt.vars] at hN ⊢
      by_cases hk : k = 2
      · subst hk
        rw [if_pos rfl] at hN ⊢
        simp only [List.length_append, List.length_singleton] at hN
        have hacc : acc.length + 1 < symBase := by unfold symBase; omega
        have hac0 : acc.length < symBase := by omega
        have hL := loopr5 ks path hp (by omega) hks ihk (acc ++ [(s, path)]) (by simp; omega)
        have hB := LoopS.block f21_loop0 (objD5 _ (by simpa using hacc)) hL
        generalize Pt.varsL ks path 0 = vl at hN hB ⊢
        have hlt : acc.length + (vl.length + 1) < symBase := by unfold symBase; omega
        have hn1 : nonE ([(s, path)] ++ vl) = true := rfl
        rw [hn1]
        simp only [C5, if_true, Bool.false_eq_true, if_false]
        refine F21b (iv 2) (sv s) (iv n) (pts ks) (iv a) (ints path) (nrow acc) (prow acc) (by simp) (by simp [H21b, hac0]) ?_
        have a38 := fun q => @app38 acc s path (by omega) q
        have a39 := fun q => @app39 acc s path hp (by omega) q
        cases vl with
        | nil =>
          simp [envW, D5, nonE] at hB
          simp [T21b, a38, a39, hacc]
          exact .inl hB
        | cons v vl =>
          simp [envW, D5, nonE] at hB
          simp [T21b, a38, a39, hacc]
          refine ⟨.rows (nrow (acc ++ (s, path) :: v :: vl)), .rows (prow (acc ++ (s, path) :: v :: vl)), by simpa using hB, ?_⟩
          simp at hlt
          simp [hlt]
      · rw [if_neg hk, List.nil_append] at hN ⊢
        have hac0 : acc.length < symBase := by unfold symBase; omega
        have hL := loopr5 ks path hp (by omega) hks ihk acc hN
        have hB := LoopS.block f21_loop0 (objD5 _ hac0) hL
        generalize Pt.varsL ks path 0 = vl at hN hB ⊢
        have hlt : acc.length + vl.length < symBase := by unfold symBase; omega
        cases vl with
        | nil =>
          simp only [nonE, C5, Bool.false_eq_true, if_false, List.append_nil]
          refine F21b (iv k) (sv s) (iv n) (pts ks) (iv a) (ints path) (nrow acc) (prow acc) (by simp) (by simp [H21b, hac0]) ?_
          simp [envW, D5, nonE] at hB
          simp [T21b, hk, hac0]
          exact hB
        | cons v vl =>
          simp only [nonE, C5, Bool.false_eq_true, if_false, if_true]
          refine F21b (iv k) (sv s) (iv n) (pts ks) (iv a) (ints path) (nrow acc) (prow acc) (by simp) (by simp [H21b, hac0]) ?_
          simp [envW, D5, nonE] at hB
          simp [T21b, hk, hac0]
          refine ⟨.rows (nrow (acc ++ v :: vl)), .rows (prow (acc ++ v :: vl)), by simpa using hB, ?_⟩
          simp at hlt
          simp [hlt]
/-- The walk from the root. -/
theorem walk0 {d : Nat} {p : Pt} (h : p.Ok d) (hd : d ≤ 1000000) (hN : (p.vars []).length ≤ 1000000000) : Sem Tryz.prog 21 [ptA p, .pv (.lit (.slice none 0 0)), .ptr 0 0, .ptr 1 0, .ptr 2 0] (C3 []) (.tup []) (C3 (p.vars [])) := by
  cases h with
  | mk d k s n ks a hks h =>
    have ihk : ∀ (i : Nat) (c : Pt), ks[i]? = some c → Walks c [(i : Int)] := fun i c hc => walks (h c (List.mem_of_getElem? hc)) _ (by simp) (by simp; omega)
    rw [Pt.vars] at hN ⊢
    by_cases hk : k = 2
    · subst hk
      rw [if_pos rfl] at hN ⊢
      simp only [List.length_append, List.length_singleton] at hN
      have hL := loopn5 ks hks ihk [(s, [])] (by simpa using hN)
      have hB := LoopS.block f21_loop0 (objD5 _ (by simp [one_lt])) hL
      generalize Pt.varsL ks [] 0 = vl at hN hB ⊢
      have hlt : vl.length + 1 < symBase := by unfold symBase; omega
      simp only [C3, if_true, List.cons_append, List.nil_append, reduceCtorEq, if_false]
      refine F21a (iv 2) (sv s) (iv n) (pts ks) (iv a) (by simp) (by simp [H21a]) ?_
      cases vl with
      | nil =>
        simp [envW, D5, nonE, nrow_one, prow_nil] at hB
        simp [T21a, nrow_one, prow_nil, one_lt]
        exact .inl hB
      | cons v vl =>
        simp [envW, D5, nonE, nrow_one, prow_nil] at hB
        simp [T21a]
        refine ⟨.rows (nrow ((s, []) :: v :: vl)), .rows (prow ((s, []) :: v :: vl)), by simpa using hB, ?_⟩
        simp at hlt
        simp [hlt, one_lt]
    · rw [if_neg hk, List.nil_append] at hN ⊢
      have hL := loopn3 ks hks ihk hN
      have hB := LoopS.block f21_loop0 objD3 hL
      generalize Pt.varsL ks [] 0 = vl at hN hB ⊢
      have hlt : vl.length < symBase := by unfold symBase; omega
      simp only [C3, if_true]
      refine F21a (iv k) (sv s) (iv n) (pts ks) (iv a) (by simp) (by simp [H21a]) ?_
      cases vl with
      | nil =>
        simp [envW, D3] at hB
        simp [T21a, hk]
        exact hB
      | cons v vl =>
        simp [envW, D3] at hB
        simp [T21a, hk]
        refine ⟨.rows (nrow (v :: vl)), .rows (prow (v :: vl)), by simpa using hB, ?_⟩
        simp at hlt
        simp [hlt]
/-- Vars: names and paths. -/
theorem vars8 {d : Nat} {p : Pt} (h : p.Ok d) (hd : d ≤ 1000000) (hN : (p.vars []).length ≤ 1000000000) : Sem Tryz.prog 8 [ptA p] [] (.tup [.pv (.rows (nrow (p.vars []))), .pv (.rows (prow (p.vars [])))]) [] := by
  have hw := walk0 h hd hN
  generalize p.vars [] = vl at hw hN ⊢
  have hlt : vl.length < symBase := by unfold symBase; omega
  obtain ⟨k, s, n, ks, a⟩ := p
  cases vl with
  | nil =>
    simp [C3, ptA] at hw
    exact (F8x (iv k) (sv s) (iv n) (pts ks) (iv a) (by simp) (v := .tup [.pv (.lit (.slice none 0 0)), .pv (.lit (.slice none 0 0))]) (h' := []) (by simp [T8x]; exact hw)).forget (by rfl)
  | cons v vl =>
    simp [C3, ptA] at hw
    simp at hlt
    exact (F8x (iv k) (sv s) (iv n) (pts ks) (iv a) (by simp) (v := .tup [.trows 0 (nrow (v :: vl)), .trows 1 (prow (v :: vl))]) (h' := [.tok 9 1 (nrow (v :: vl)).length, .tok 22 1 (prow (v :: vl)).length]) (by
      simp [T8x]
      exact ⟨.rows (nrow (v :: vl)), .rows (prow (v :: vl)), by simpa using hw, by simp [hlt]⟩)).forget (by rfl)
end Go.Proofs.YtmgmknpgikgnlaaGreat
