/- The leaves of a decision. -/
import Derived.Test.YtmgmknpgikgnlaaGreatTa5
namespace Go.Proofs.YtmgmknpgikgnlaaGreat
open Go.RowKit

theorem ns_app {a b : List (List PV)} (ha : NS (.rows a)) (hb : NS (.rows b)) : NS (.rows (a ++ b)) := by
  cases ha with
  | rows _ ha => cases hb with
    | rows _ hb =>
      refine .rows _ fun c hc => ?_
      rcases List.mem_append.1 hc with hc | hc
      · exact ha c hc
      · exact hb c hc
@[simp] theorem dl_name (R : Nat → PV) (j : Nat) : dl R (symBase + j) = (R j).rowLen := by
  unfold dl
  rw [if_neg (by omega), show symBase + j - symBase = j by omega]
@[simp] theorem rowLen_rows (es : List (List PV)) : (PV.rows es).rowLen = es.length := rfl
theorem irow_ne {l : List Int} (h : l ≠ []) : irow l ≠ [] := by simpa [irow] using h
@[simp] theorem irow_nil : irow [] = [] := rfl
@[simp] theorem ns_nil : NS (.rows []) := .rows _ (fun c hc => by cases hc)
theorem dl_len {es : List (List PV)} (h : es.length ≤ 100000000000) : es.length < symBase := by unfold symBase; omega
def st13a (kt at_ : Int) (pt : List Int) (est : List Dc) (cs : List Cs) (_ : Unit) (i : Nat) (r : List (List PV)) : Env × List AObj := ([(20, .pv (iv i)), (19, .pv (iv cs.length)), (18, .pv (css cs)), (3, accV 1 r), (1, .ptr 0 0)], [bxD (Dc.mk kt at_ pt cs est)] ++ accH r)
def fin13a (kt at_ : Int) (pt : List Int) (est : List Dc) (cs : List Cs) (_ : Unit) (r : List (List PV)) : Env × List AObj := ([(1, .ptr 0 0), (3, accV 1 r)], [bxD (Dc.mk kt at_ pt cs est)] ++ accH r)
theorem loop13a (kt at_ : Int) (pt : List Int) (est : List Dc) (cs : List Cs) (hc : cs.length < 1000000000000) (ih : ∀ k0 s0 n0 d, Cs.mk k0 s0 n0 d ∈ cs → Sem Tryz.prog 13 [dcA d] [] (.pv (ints d.leaves)) []) (hN : (cs.flatMap Cs.leavesC).length ≤ 100000000000) :
    LoopS Tryz.prog Tryz.f13 1 1 (st13a kt at_ pt est cs () 0 []).1 (st13a kt at_ pt est cs () 0 []).2 (.exit 1) (fin13a kt at_ pt est cs () (irow (cs.flatMap Cs.leavesC))).1 (fin13a kt at_ pt est cs () (irow (cs.flatMap Cs.leavesC))).2 := by
  have main := acc_loop (P := Tryz.prog) (fn := Tryz.f13) (id := 1) (m0 := 1) (ex := .exit 1) cs (fun c => irow ((Cs.leavesC) c)) 100000000000 (st13a kt at_ pt est cs) (fin13a kt at_ pt est cs) (fun _ r => NS (.rows r)) (by simp) ?_ ?_ _ 0 () [] rfl (Nat.zero_le _) (by simp) (by rw [List.drop_zero, ← irow_flat]; simpa using hN)
  · obtain ⟨_, _, h⟩ := main
    rw [List.drop_zero, ← irow_flat, List.nil_append] at h
    exact h
  · intro i c hci s r hs hb
    refine ⟨(), ns_app hs (by simp), fun R => ?_⟩
    have hi : i < cs.length := by
      by_cases h : i < cs.length
      · exact h
      · rw [List.getElem?_eq_none (by omega)] at hci; cases hci
    have hw := wrap_succ (k := i) (by omega)
    obtain ⟨k0, s0, n0, d⟩ := c
    have hr := ih k0 s0 n0 d (List.mem_of_getElem? hci)
    simp only [Cs.leavesC, irow_len] at hb ⊢
    generalize hl : d.leaves = l at hr hb ⊢
    obtain ⟨k1, a1, p1, cs1, es1⟩ := d
    simp [dcA] at hr
    by_cases hr0 : r = []
    · subst hr0
      by_cases hl0 : l = []
      · subst hl0
        refine L13b1a _ _ _ _ _ _ _ _ (by simp) (by simp [H13b1a]) ?_ R
        simp [T13b1a, st13a, accV, accH, bxD, hi, idx_css hci, hw]
        exact ⟨_, hr, by simp [app0_nil]⟩
      · refine L13b1a _ _ _ _ _ _ _ _ (by simp) (by simp [H13b1a]) ?_ R
        simp [T13b1a, st13a, accV, accH, bxD, hi, idx_css hci, hw, irow_ne hl0]
        refine ⟨_, hr, ?_⟩
        have hlt : l.length < symBase := by unfold symBase; simp at hb; omega
        simp [app_nil hl0 (by simpa using hb), hlt]
    · have hra : r ++ irow l ≠ [] := by simp [hr0]
      have hrt : r.length < symBase := by unfold symBase; omega
      by_cases hl0 : l = []
      · subst hl0
        simp only [st13a, accV, accH, if_neg hr0, irow_nil, List.append_nil, List.cons_append, List.nil_append, bxD]
        refine L13b1b _ _ _ _ _ _ _ _ _ (by simpa using hs) (by simpa [H13b1b] using hrt) ?_ R
        simp [T13b1b, hi, idx_css hci, hw]
        exact ⟨_, hr, by simp [app0_row, hrt]⟩
      · simp only [st13a, accV, accH, if_neg hr0, if_neg hra, List.cons_append, List.nil_append, bxD]
        refine L13b1b _ _ _ _ _ _ _ _ _ (by simpa using hs) (by simpa [H13b1b] using hrt) ?_ R
        simp [T13b1b, hi, idx_css hci, hw]
        refine ⟨_, hr, ?_⟩
        have hlt : r.length + l.length < symBase := by unfold symBase; omega
        simp [app_row hl0 hb, hlt, ns_app hs (ns_irow l)]
  · intro s r hs hb R
    by_cases hr0 : r = []
    · subst hr0
      refine L13b1a _ _ _ _ _ _ _ _ (by simp) (by simp [H13b1a]) ?_ R
      simp [T13b1a, st13a, fin13a, accV, accH, bxD]
    · have hrt : r.length < symBase := by unfold symBase; omega
      simp only [st13a, fin13a, accV, accH, if_neg hr0, List.cons_append, List.nil_append, bxD]
      refine L13b1b _ _ _ _ _ _ _ _ _ (by simpa using hs) (by simpa [H13b1b] using hrt) ?_ R
      simp [T13b1b, hrt]
def st13b (kt at_ : Int) (pt : List Int) (cst : List Cs) (es : List Dc) (_ : Unit) (i : Nat) (r : List (List PV)) : Env × List AObj := ([(33, .pv (iv i)), (32, .pv (iv es.length)), (31, .pv (dcs es)), (3, accV 0 r)], [] ++ accH r)
def fin13b (kt at_ : Int) (pt : List Int) (cst : List Cs) (es : List Dc) (_ : Unit) (r : List (List PV)) : Env × List AObj := ([(3, accV 0 r)], [] ++ accH r)
theorem loop13b (kt at_ : Int) (pt : List Int) (cst : List Cs) (es : List Dc) (hc : es.length < 1000000000000) (ih : ∀ d ∈ es, Sem Tryz.prog 13 [dcA d] [] (.pv (ints d.leaves)) []) (hN : (es.flatMap Dc.leaves).length ≤ 100000000000) :
    LoopS Tryz.prog Tryz.f13 3 0 (st13b kt at_ pt cst es () 0 []).1 (st13b kt at_ pt cst es () 0 []).2 (.exit 3) (fin13b kt at_ pt cst es () (irow (es.flatMap Dc.leaves))).1 (fin13b kt at_ pt cst es () (irow (es.flatMap Dc.leaves))).2 := by
  have main := acc_loop (P := Tryz.prog) (fn := Tryz.f13) (id := 3) (m0 := 0) (ex := .exit 3) es (fun c => irow ((Dc.leaves) c)) 100000000000 (st13b kt at_ pt cst es) (fin13b kt at_ pt cst es) (fun _ r => NS (.rows r)) (by simp) ?_ ?_ _ 0 () [] rfl (Nat.zero_le _) (by simp) (by rw [List.drop_zero, ← irow_flat]; simpa using hN)
  · obtain ⟨_, _, h⟩ := main
    rw [List.drop_zero, ← irow_flat, List.nil_append] at h
    exact h
  · intro i d hci s r hs hb
    refine ⟨(), ns_app hs (by simp), fun R => ?_⟩
    have hi : i < es.length := by
      by_cases h : i < es.length
      · exact h
      · rw [List.getElem?_eq_none (by omega)] at hci; cases hci
    have hw := wrap_succ (k := i) (by omega)
    have hr := ih d (List.mem_of_getElem? hci)
    simp only [irow_len] at hb ⊢
    generalize hl : d.leaves = l at hr hb ⊢
    obtain ⟨k1, a1, p1, cs1, es1⟩ := d
    simp [dcA] at hr
    by_cases hr0 : r = []
    · subst hr0
      by_cases hl0 : l = []
      · subst hl0
        refine L13b3a _ _ _ (by simp)  ?_ R
        simp [T13b3a, st13b, accV, accH, bxD, hi, idx_dcs hci, hw]
        exact ⟨_, hr, by simp [app0_nil]⟩
      · refine L13b3a _ _ _ (by simp)  ?_ R
        simp [T13b3a, st13b, accV, accH, bxD, hi, idx_dcs hci, hw, irow_ne hl0]
        refine ⟨_, hr, ?_⟩
        have hlt : l.length < symBase := by unfold symBase; simp at hb; omega
        simp [app_nil hl0 (by simpa using hb), hlt]
    · have hra : r ++ irow l ≠ [] := by simp [hr0]
      have hrt : r.length < symBase := by unfold symBase; omega
      by_cases hl0 : l = []
      · subst hl0
        simp only [st13b, accV, accH, if_neg hr0, irow_nil, List.append_nil, List.cons_append, List.nil_append, bxD]
        refine L13b3c _ _ _ _ (by simpa using hs) (by simpa [H13b3c] using hrt) ?_ R
        simp [T13b3c, hi, idx_dcs hci, hw]
        exact ⟨_, hr, by simp [app0_row, hrt]⟩
      · simp only [st13b, accV, accH, if_neg hr0, if_neg hra, List.cons_append, List.nil_append, bxD]
        refine L13b3c _ _ _ _ (by simpa using hs) (by simpa [H13b3c] using hrt) ?_ R
        simp [T13b3c, hi, idx_dcs hci, hw]
        refine ⟨_, hr, ?_⟩
        have hlt : r.length + l.length < symBase := by unfold symBase; omega
        simp [app_row hl0 hb, hlt, ns_app hs (ns_irow l)]
  · intro s r hs hb R
    by_cases hr0 : r = []
    · subst hr0
      refine L13b3a _ _ _ (by simp)  ?_ R
      simp [T13b3a, st13b, fin13b, accV, accH, bxD]
    · have hrt : r.length < symBase := by unfold symBase; omega
      simp only [st13b, fin13b, accV, accH, if_neg hr0, List.cons_append, List.nil_append, bxD]
      refine L13b3c _ _ _ _ (by simpa using hs) (by simpa [H13b3c] using hrt) ?_ R
      simp [T13b3c, hrt]
def st13c (kt at_ : Int) (pt : List Int) (cst : List Cs) (es : List Dc) (b : Bool) (i : Nat) (r : List (List PV)) : Env × List AObj := ([(33, .pv (iv i)), (32, .pv (iv es.length)), (31, .pv (dcs es)), (3, tokV 0 b r)], [] ++ tokH b r)
def fin13c (kt at_ : Int) (pt : List Int) (cst : List Cs) (es : List Dc) (b : Bool) (r : List (List PV)) : Env × List AObj := ([(3, tokV 0 b r)], [] ++ tokH b r)
theorem loop13c (kt at_ : Int) (pt : List Int) (cst : List Cs) (es : List Dc) (hc : es.length < 1000000000000) (ih : ∀ d ∈ es, Sem Tryz.prog 13 [dcA d] [] (.pv (ints d.leaves)) []) (r0 : List (List PV)) (hr0 : NS (.rows r0)) (hN : r0.length + (es.flatMap Dc.leaves).length ≤ 100000000000) :
    ∃ b, (b = false → es.flatMap Dc.leaves = []) ∧ LoopS Tryz.prog Tryz.f13 3 1 (st13c kt at_ pt cst es false 0 r0).1 (st13c kt at_ pt cst es false 0 r0).2 (.exit 3) (fin13c kt at_ pt cst es b (r0 ++ irow (es.flatMap Dc.leaves))).1 (fin13c kt at_ pt cst es b (r0 ++ irow (es.flatMap Dc.leaves))).2 := by
  have main := acc_loop (P := Tryz.prog) (fn := Tryz.f13) (id := 3) (m0 := 1) (ex := .exit 3) es (fun c => irow ((Dc.leaves) c)) 100000000000 (st13c kt at_ pt cst es) (fin13c kt at_ pt cst es) (fun b r => NS (.rows r) ∧ (b = false → r = r0)) (by simp) ?_ ?_ _ 0 false r0 rfl (Nat.zero_le _) ⟨hr0, fun _ => rfl⟩ (by rw [List.drop_zero, ← irow_flat]; simpa using hN)
  · obtain ⟨b, ⟨_, hbf⟩, h⟩ := main
    rw [List.drop_zero, ← irow_flat] at h hbf
    exact ⟨b, fun e => by simpa [irow] using hbf e, h⟩
  · intro i d hci s r hs0 hb
    obtain ⟨hs, hs1⟩ := hs0
    have hi : i < es.length := by
      by_cases h : i < es.length
      · exact h
      · rw [List.getElem?_eq_none (by omega)] at hci; cases hci
    have hw := wrap_succ (k := i) (by omega)
    have hr := ih d (List.mem_of_getElem? hci)
    simp only [irow_len] at hb ⊢
    generalize hl : d.leaves = l at hr hb ⊢
    obtain ⟨k1, a1, p1, cs1, es1⟩ := d
    simp [dcA] at hr
    have hrt : r.length < symBase := by unfold symBase; omega
    by_cases hl0 : l = []
    · subst hl0
      refine ⟨s, by simpa using ⟨hs, hs1⟩, fun R => ?_⟩
      cases s with
      | false =>
        simp only [st13c, tokV, tokH, irow_nil, List.append_nil, List.cons_append, List.nil_append, bxD, Bool.false_eq_true, if_false]
        refine L13b3b _ _ _ _ (by simpa using hs) (by simpa [H13b3b] using hrt) ?_ R
        simp [T13b3b, hi, idx_dcs hci, hw]
        exact ⟨_, hr, by simp [app0_row, hrt]⟩
      | true =>
        simp only [st13c, tokV, tokH, irow_nil, List.append_nil, List.cons_append, List.nil_append, bxD, if_true]
        refine L13b3d _ _ _ _ (by simpa using hs) (by simpa [H13b3d] using hrt) ?_ R
        simp [T13b3d, hi, idx_dcs hci, hw]
        exact ⟨_, hr, by simp [app0_row, hrt]⟩
    · refine ⟨true, ⟨ns_app hs (by simp), fun h => by cases h⟩, fun R => ?_⟩
      have hlt : r.length + l.length < symBase := by unfold symBase; omega
      cases s with
      | false =>
        simp only [st13c, tokV, tokH, List.cons_append, List.nil_append, bxD, Bool.false_eq_true, if_false, if_true]
        refine L13b3b _ _ _ _ (by simpa using hs) (by simpa [H13b3b] using hrt) ?_ R
        simp [T13b3b, hi, idx_dcs hci, hw]
        refine ⟨_, hr, ?_⟩
        simp [app_row hl0 hb, hlt, ns_app hs (ns_irow l)]
      | true =>
        simp only [st13c, tokV, tokH, List.cons_append, List.nil_append, bxD, if_true]
        refine L13b3d _ _ _ _ (by simpa using hs) (by simpa [H13b3d] using hrt) ?_ R
        simp [T13b3d, hi, idx_dcs hci, hw]
        refine ⟨_, hr, ?_⟩
        simp [app_row hl0 hb, hlt, ns_app hs (ns_irow l)]
  · intro s r hs0 hb R
    obtain ⟨hs, hs1⟩ := hs0
    have hrt : r.length < symBase := by unfold symBase; omega
    cases s with
    | false =>
      simp only [st13c, fin13c, tokV, tokH, List.cons_append, List.nil_append, bxD, Bool.false_eq_true, if_false]
      refine L13b3b _ _ _ _ (by simpa using hs) (by simpa [H13b3b] using hrt) ?_ R
      simp [T13b3b, hrt]
    | true =>
      simp only [st13c, fin13c, tokV, tokH, List.cons_append, List.nil_append, bxD, if_true]
      refine L13b3d _ _ _ _ (by simpa using hs) (by simpa [H13b3d] using hrt) ?_ R
      simp [T13b3d, hrt]
def st14a (kt at_ : Int) (pt : List Int) (est : List Dc) (cs : List Cs) (_ : Unit) (i : Nat) (r : List (List PV)) : Env × List AObj := ([(4, .pv (iv i)), (1, .ptr 0 0), (3, accV 1 r)], [bxD (Dc.mk kt at_ pt cs est)] ++ accH r)
def fin14a (kt at_ : Int) (pt : List Int) (est : List Dc) (cs : List Cs) (_ : Unit) (r : List (List PV)) : Env × List AObj := ([(1, .ptr 0 0), (3, accV 1 r)], [bxD (Dc.mk kt at_ pt cs est)] ++ accH r)
theorem loop14a (kt at_ : Int) (pt : List Int) (est : List Dc) (cs : List Cs) (hc : cs.length < 1000000000000) (ih : ∀ k0 s0 n0 d, Cs.mk k0 s0 n0 d ∈ cs → Sem Tryz.prog 14 [dcA d] [] (.pv (ints d.leaves)) []) (hN : (cs.flatMap Cs.leavesC).length ≤ 100000000000) :
    LoopS Tryz.prog Tryz.f14 0 1 (st14a kt at_ pt est cs () 0 []).1 (st14a kt at_ pt est cs () 0 []).2 (.exit 0) (fin14a kt at_ pt est cs () (irow (cs.flatMap Cs.leavesC))).1 (fin14a kt at_ pt est cs () (irow (cs.flatMap Cs.leavesC))).2 := by
  have main := acc_loop (P := Tryz.prog) (fn := Tryz.f14) (id := 0) (m0 := 1) (ex := .exit 0) cs (fun c => irow ((Cs.leavesC) c)) 100000000000 (st14a kt at_ pt est cs) (fin14a kt at_ pt est cs) (fun _ r => NS (.rows r)) (by simp) ?_ ?_ _ 0 () [] rfl (Nat.zero_le _) (by simp) (by rw [List.drop_zero, ← irow_flat]; simpa using hN)
  · obtain ⟨_, _, h⟩ := main
    rw [List.drop_zero, ← irow_flat, List.nil_append] at h
    exact h
  · intro i c hci s r hs hb
    refine ⟨(), ns_app hs (by simp), fun R => ?_⟩
    have hi : i < cs.length := by
      by_cases h : i < cs.length
      · exact h
      · rw [List.getElem?_eq_none (by omega)] at hci; cases hci
    have hw := wrap_succ (k := i) (by omega)
    obtain ⟨k0, s0, n0, d⟩ := c
    have hr := ih k0 s0 n0 d (List.mem_of_getElem? hci)
    simp only [Cs.leavesC, irow_len] at hb ⊢
    generalize hl : d.leaves = l at hr hb ⊢
    obtain ⟨k1, a1, p1, cs1, es1⟩ := d
    simp [dcA] at hr
    by_cases hr0 : r = []
    · subst hr0
      by_cases hl0 : l = []
      · subst hl0
        refine L14b0a _ _ _ _ _ _ (by simp) (by simp [H14b0a]) ?_ R
        simp [T14b0a, st14a, accV, accH, bxD, hi, idx_css hci, hw]
        exact ⟨_, hr, by simp [app0_nil]⟩
      · refine L14b0a _ _ _ _ _ _ (by simp) (by simp [H14b0a]) ?_ R
        simp [T14b0a, st14a, accV, accH, bxD, hi, idx_css hci, hw, irow_ne hl0]
        refine ⟨_, hr, ?_⟩
        have hlt : l.length < symBase := by unfold symBase; simp at hb; omega
        simp [app_nil hl0 (by simpa using hb), hlt]
    · have hra : r ++ irow l ≠ [] := by simp [hr0]
      have hrt : r.length < symBase := by unfold symBase; omega
      by_cases hl0 : l = []
      · subst hl0
        simp only [st14a, accV, accH, if_neg hr0, irow_nil, List.append_nil, List.cons_append, List.nil_append, bxD]
        refine L14b0b _ _ _ _ _ _ _ (by simpa using hs) (by simpa [H14b0b] using hrt) ?_ R
        simp [T14b0b, hi, idx_css hci, hw]
        exact ⟨_, hr, by simp [app0_row, hrt]⟩
      · simp only [st14a, accV, accH, if_neg hr0, if_neg hra, List.cons_append, List.nil_append, bxD]
        refine L14b0b _ _ _ _ _ _ _ (by simpa using hs) (by simpa [H14b0b] using hrt) ?_ R
        simp [T14b0b, hi, idx_css hci, hw]
        refine ⟨_, hr, ?_⟩
        have hlt : r.length + l.length < symBase := by unfold symBase; omega
        simp [app_row hl0 hb, hlt, ns_app hs (ns_irow l)]
  · intro s r hs hb R
    by_cases hr0 : r = []
    · subst hr0
      refine L14b0a _ _ _ _ _ _ (by simp) (by simp [H14b0a]) ?_ R
      simp [T14b0a, st14a, fin14a, accV, accH, bxD]
    · have hrt : r.length < symBase := by unfold symBase; omega
      simp only [st14a, fin14a, accV, accH, if_neg hr0, List.cons_append, List.nil_append, bxD]
      refine L14b0b _ _ _ _ _ _ _ (by simpa using hs) (by simpa [H14b0b] using hrt) ?_ R
      simp [T14b0b, hrt]
def st14b (kt at_ : Int) (pt : List Int) (cst : List Cs) (es : List Dc) (_ : Unit) (i : Nat) (r : List (List PV)) : Env × List AObj := ([(5, .pv (iv i)), (1, .ptr 0 0), (3, accV 1 r)], [bxD (Dc.mk kt at_ pt cst es)] ++ accH r)
def fin14b (kt at_ : Int) (pt : List Int) (cst : List Cs) (es : List Dc) (_ : Unit) (r : List (List PV)) : Env × List AObj := ([(3, accV 1 r)], [bxD (Dc.mk kt at_ pt cst es)] ++ accH r)
theorem loop14b (kt at_ : Int) (pt : List Int) (cst : List Cs) (es : List Dc) (hc : es.length < 1000000000000) (ih : ∀ d ∈ es, Sem Tryz.prog 14 [dcA d] [] (.pv (ints d.leaves)) []) (hN : (es.flatMap Dc.leaves).length ≤ 100000000000) :
    LoopS Tryz.prog Tryz.f14 2 1 (st14b kt at_ pt cst es () 0 []).1 (st14b kt at_ pt cst es () 0 []).2 (.exit 2) (fin14b kt at_ pt cst es () (irow (es.flatMap Dc.leaves))).1 (fin14b kt at_ pt cst es () (irow (es.flatMap Dc.leaves))).2 := by
  have main := acc_loop (P := Tryz.prog) (fn := Tryz.f14) (id := 2) (m0 := 1) (ex := .exit 2) es (fun c => irow ((Dc.leaves) c)) 100000000000 (st14b kt at_ pt cst es) (fin14b kt at_ pt cst es) (fun _ r => NS (.rows r)) (by simp) ?_ ?_ _ 0 () [] rfl (Nat.zero_le _) (by simp) (by rw [List.drop_zero, ← irow_flat]; simpa using hN)
  · obtain ⟨_, _, h⟩ := main
    rw [List.drop_zero, ← irow_flat, List.nil_append] at h
    exact h
  · intro i d hci s r hs hb
    refine ⟨(), ns_app hs (by simp), fun R => ?_⟩
    have hi : i < es.length := by
      by_cases h : i < es.length
      · exact h
      · rw [List.getElem?_eq_none (by omega)] at hci; cases hci
    have hw := wrap_succ (k := i) (by omega)
    have hr := ih d (List.mem_of_getElem? hci)
    simp only [irow_len] at hb ⊢
    generalize hl : d.leaves = l at hr hb ⊢
    obtain ⟨k1, a1, p1, cs1, es1⟩ := d
    simp [dcA] at hr
    by_cases hr0 : r = []
    · subst hr0
      by_cases hl0 : l = []
      · subst hl0
        refine L14b2a _ _ _ _ _ _ (by simp) (by simp [H14b2a]) ?_ R
        simp [T14b2a, st14b, accV, accH, bxD, hi, idx_dcs hci, hw]
        exact ⟨_, hr, by simp [app0_nil]⟩
      · refine L14b2a _ _ _ _ _ _ (by simp) (by simp [H14b2a]) ?_ R
        simp [T14b2a, st14b, accV, accH, bxD, hi, idx_dcs hci, hw, irow_ne hl0]
        refine ⟨_, hr, ?_⟩
        have hlt : l.length < symBase := by unfold symBase; simp at hb; omega
        simp [app_nil hl0 (by simpa using hb), hlt]
    · have hra : r ++ irow l ≠ [] := by simp [hr0]
      have hrt : r.length < symBase := by unfold symBase; omega
      by_cases hl0 : l = []
      · subst hl0
        simp only [st14b, accV, accH, if_neg hr0, irow_nil, List.append_nil, List.cons_append, List.nil_append, bxD]
        refine L14b2c _ _ _ _ _ _ _ (by simpa using hs) (by simpa [H14b2c] using hrt) ?_ R
        simp [T14b2c, hi, idx_dcs hci, hw]
        exact ⟨_, hr, by simp [app0_row, hrt]⟩
      · simp only [st14b, accV, accH, if_neg hr0, if_neg hra, List.cons_append, List.nil_append, bxD]
        refine L14b2c _ _ _ _ _ _ _ (by simpa using hs) (by simpa [H14b2c] using hrt) ?_ R
        simp [T14b2c, hi, idx_dcs hci, hw]
        refine ⟨_, hr, ?_⟩
        have hlt : r.length + l.length < symBase := by unfold symBase; omega
        simp [app_row hl0 hb, hlt, ns_app hs (ns_irow l)]
  · intro s r hs hb R
    by_cases hr0 : r = []
    · subst hr0
      refine L14b2a _ _ _ _ _ _ (by simp) (by simp [H14b2a]) ?_ R
      simp [T14b2a, st14b, fin14b, accV, accH, bxD]
    · have hrt : r.length < symBase := by unfold symBase; omega
      simp only [st14b, fin14b, accV, accH, if_neg hr0, List.cons_append, List.nil_append, bxD]
      refine L14b2c _ _ _ _ _ _ _ (by simpa using hs) (by simpa [H14b2c] using hrt) ?_ R
      simp [T14b2c, hrt]
def st14c (kt at_ : Int) (pt : List Int) (cst : List Cs) (es : List Dc) (b : Bool) (i : Nat) (r : List (List PV)) : Env × List AObj := ([(5, .pv (iv i)), (1, .ptr 0 0), (3, tokV 1 b r)], [bxD (Dc.mk kt at_ pt cst es)] ++ tokH b r)
def fin14c (kt at_ : Int) (pt : List Int) (cst : List Cs) (es : List Dc) (b : Bool) (r : List (List PV)) : Env × List AObj := ([(3, tokV 1 b r)], [bxD (Dc.mk kt at_ pt cst es)] ++ tokH b r)
theorem loop14c (kt at_ : Int) (pt : List Int) (cst : List Cs) (es : List Dc) (hc : es.length < 1000000000000) (ih : ∀ d ∈ es, Sem Tryz.prog 14 [dcA d] [] (.pv (ints d.leaves)) []) (r0 : List (List PV)) (hr0 : NS (.rows r0)) (hN : r0.length + (es.flatMap Dc.leaves).length ≤ 100000000000) :
    ∃ b, (b = false → es.flatMap Dc.leaves = []) ∧ LoopS Tryz.prog Tryz.f14 2 2 (st14c kt at_ pt cst es false 0 r0).1 (st14c kt at_ pt cst es false 0 r0).2 (.exit 2) (fin14c kt at_ pt cst es b (r0 ++ irow (es.flatMap Dc.leaves))).1 (fin14c kt at_ pt cst es b (r0 ++ irow (es.flatMap Dc.leaves))).2 := by
  have main := acc_loop (P := Tryz.prog) (fn := Tryz.f14) (id := 2) (m0 := 2) (ex := .exit 2) es (fun c => irow ((Dc.leaves) c)) 100000000000 (st14c kt at_ pt cst es) (fin14c kt at_ pt cst es) (fun b r => NS (.rows r) ∧ (b = false → r = r0)) (by simp) ?_ ?_ _ 0 false r0 rfl (Nat.zero_le _) ⟨hr0, fun _ => rfl⟩ (by rw [List.drop_zero, ← irow_flat]; simpa using hN)
  · obtain ⟨b, ⟨_, hbf⟩, h⟩ := main
    rw [List.drop_zero, ← irow_flat] at h hbf
    exact ⟨b, fun e => by simpa [irow] using hbf e, h⟩
  · intro i d hci s r hs0 hb
    obtain ⟨hs, hs1⟩ := hs0
    have hi : i < es.length := by
      by_cases h : i < es.length
      · exact h
      · rw [List.getElem?_eq_none (by omega)] at hci; cases hci
    have hw := wrap_succ (k := i) (by omega)
    have hr := ih d (List.mem_of_getElem? hci)
    simp only [irow_len] at hb ⊢
    generalize hl : d.leaves = l at hr hb ⊢
    obtain ⟨k1, a1, p1, cs1, es1⟩ := d
    simp [dcA] at hr
    have hrt : r.length < symBase := by unfold symBase; omega
    by_cases hl0 : l = []
    · subst hl0
      refine ⟨s, by simpa using ⟨hs, hs1⟩, fun R => ?_⟩
      cases s with
      | false =>
        simp only [st14c, tokV, tokH, irow_nil, List.append_nil, List.cons_append, List.nil_append, bxD, Bool.false_eq_true, if_false]
        refine L14b2b _ _ _ _ _ _ _ (by simpa using hs) (by simpa [H14b2b] using hrt) ?_ R
        simp [T14b2b, hi, idx_dcs hci, hw]
        exact ⟨_, hr, by simp [app0_row, hrt]⟩
      | true =>
        simp only [st14c, tokV, tokH, irow_nil, List.append_nil, List.cons_append, List.nil_append, bxD, if_true]
        refine L14b2d _ _ _ _ _ _ _ (by simpa using hs) (by simpa [H14b2d] using hrt) ?_ R
        simp [T14b2d, hi, idx_dcs hci, hw]
        exact ⟨_, hr, by simp [app0_row, hrt]⟩
    · refine ⟨true, ⟨ns_app hs (by simp), fun h => by cases h⟩, fun R => ?_⟩
      have hlt : r.length + l.length < symBase := by unfold symBase; omega
      cases s with
      | false =>
        simp only [st14c, tokV, tokH, List.cons_append, List.nil_append, bxD, Bool.false_eq_true, if_false, if_true]
        refine L14b2b _ _ _ _ _ _ _ (by simpa using hs) (by simpa [H14b2b] using hrt) ?_ R
        simp [T14b2b, hi, idx_dcs hci, hw]
        refine ⟨_, hr, ?_⟩
        simp [app_row hl0 hb, hlt, ns_app hs (ns_irow l)]
      | true =>
        simp only [st14c, tokV, tokH, List.cons_append, List.nil_append, bxD, if_true]
        refine L14b2d _ _ _ _ _ _ _ (by simpa using hs) (by simpa [H14b2d] using hrt) ?_ R
        simp [T14b2d, hi, idx_dcs hci, hw]
        refine ⟨_, hr, ?_⟩
        simp [app_row hl0 hb, hlt, ns_app hs (ns_irow l)]
  · intro s r hs0 hb R
    obtain ⟨hs, hs1⟩ := hs0
    have hrt : r.length < symBase := by unfold symBase; omega
    cases s with
    | false =>
      simp only [st14c, fin14c, tokV, tokH, List.cons_append, List.nil_append, bxD, Bool.false_eq_true, if_false]
      refine L14b2b _ _ _ _ _ _ _ (by simpa using hs) (by simpa [H14b2b] using hrt) ?_ R
      simp [T14b2b, hrt]
    | true =>
      simp only [st14c, fin14c, tokV, tokH, List.cons_append, List.nil_append, bxD, if_true]
      refine L14b2d _ _ _ _ _ _ _ (by simpa using hs) (by simpa [H14b2d] using hrt) ?_ R
      simp [T14b2d, hrt]
@[simp] theorem dl_one (R : Nat → PV) : dl R 1 = 1 := dl_small (by decide)
theorem one_lt : 1 < symBase := by decide
theorem len_flat {α : Type} {l : List α} (g : α → List Int) {x : α} (h : x ∈ l) : (g x).length ≤ (l.flatMap g).length := by
  induction l with
  | nil => cases h
  | cons a l ih =>
    rw [List.flatMap_cons, List.length_append]
    rcases List.mem_cons.1 h with rfl | h
    · omega
    · have := ih h; omega
theorem end13 (a : Int) (p : List Int) (cs : List Cs) (es : List Dc) (L1 L2 : List Int) (B1 : BlkS Tryz.prog Tryz.f13 1 (st13a 2 a p es cs () 0 []).1 (st13a 2 a p es cs () 0 []).2 .normal (fin13a 2 a p es cs () (irow L1)).1 (fin13a 2 a p es cs () (irow L1)).2)
    (B2 : BlkS Tryz.prog Tryz.f13 3 (st13b 2 a p cs es () 0 []).1 (st13b 2 a p cs es () 0 []).2 .normal (fin13b 2 a p cs es () (irow L2)).1 (fin13b 2 a p cs es () (irow L2)).2)
    (B3 : ∃ b, (b = false → L2 = []) ∧ BlkS Tryz.prog Tryz.f13 3 (st13c 2 a p cs es false 0 (irow L1)).1 (st13c 2 a p cs es false 0 (irow L1)).2 .normal (fin13c 2 a p cs es b (irow L1 ++ irow L2)).1 (fin13c 2 a p cs es b (irow L1 ++ irow L2)).2)
    (hN : L1.length + L2.length ≤ 100000000000) : Sem Tryz.prog 13 [dcA (.mk 2 a p cs es)] [] (.pv (ints (L1 ++ L2))) [] := by
  have hlt1 : L1.length < symBase := by unfold symBase; omega
  have hlt2 : L2.length < symBase := by unfold symBase; omega
  have hlt : L1.length + L2.length < symBase := by unfold symBase; omega
  by_cases q1 : L1 = []
  · subst q1
    by_cases q2 : L2 = []
    · subst q2
      simp [st13a, fin13a, st13b, fin13b, accV, accH, bxD] at B1 B2
      exact (F13 (iv 2) (iv a) (ints p) (css cs) (dcs es) (by simp) (v := .pv (.lit (.slice none 0 0))) (h' := []) (by simp [T13]; exact ⟨B1, B2⟩)).forget (by rfl)
    · simp [st13a, fin13a, st13b, fin13b, accV, accH, bxD, irow_ne q2] at B1 B2
      exact (F13 (iv 2) (iv a) (ints p) (css cs) (dcs es) (by simp) (v := .trows 0 (irow L2)) (h' := [.tok 3 1 L2.length]) (by simp [T13]; exact .inl ⟨B1, .rows (irow L2), by simpa using B2, by simp [hlt2]⟩)).forget (by rfl)
  · obtain ⟨b, hbf, B3⟩ := B3
    simp [st13a, fin13a, accV, accH, bxD, irow_ne q1] at B1
    cases b with
    | false =>
      have q2 := hbf rfl
      subst q2
      simp [st13c, fin13c, tokV, tokH, bxD] at B3
      rw [List.append_nil]
      exact (F13 (iv 2) (iv a) (ints p) (css cs) (dcs es) (by simp) (v := .trows 0 (irow L1)) (h' := [.tok 3 1 L1.length]) (by simp [T13]; exact .inr ⟨.rows (irow L1), by simpa using B1, by simp [hlt1]; exact .inl B3⟩)).forget (by rfl)
    | true =>
      simp [st13c, fin13c, tokV, tokH, bxD] at B3
      rw [ints_irow, irow_app]
      exact (F13 (iv 2) (iv a) (ints p) (css cs) (dcs es) (by simp) (v := .trows 0 (irow L1 ++ irow L2)) (h' := [.tok 3 1 (L1.length + L2.length)]) (by simp [T13]; exact .inr ⟨.rows (irow L1), by simpa using B1, by simp [hlt1]; exact .inr ⟨.rows (irow L1 ++ irow L2), by simpa using B3, by simp [hlt, ns_app]⟩⟩)).forget (by rfl)
theorem leaves13 (t : Dc) (ht : t.Ok) : t.leaves.length ≤ 100000000000 → Sem Tryz.prog 13 [dcA t] [] (.pv (ints t.leaves)) [] := by
  induction ht with
  | mk k a p cs es hp hc he h1 h2 ih1 ih2 =>
    intro hN
    by_cases hk1 : k = 1
    · subst hk1
      have hl : (Dc.mk 1 a p cs es).leaves = [a] := by rw [Dc.leaves, if_pos rfl]
      rw [hl]
      exact (F13 (iv 1) (iv a) (ints p) (css cs) (dcs es) (by simp) (v := .trows 0 [[iv a]]) (h' := [.tok 3 1 1]) (by simp [T13, one_lt])).forget (by rfl)
    · by_cases hk2 : k = 2
      · subst hk2
        have hl : (Dc.mk 2 a p cs es).leaves = cs.flatMap Cs.leavesC ++ es.flatMap Dc.leaves := by rw [Dc.leaves, if_neg (by decide), if_pos rfl, Cs.leavesL_eq, Dc.leavesL_eq]
        rw [hl] at hN ⊢
        rw [List.length_append] at hN
        have hN1 : ∀ k0 s0 n0 d, Cs.mk k0 s0 n0 d ∈ cs → d.leaves.length ≤ 100000000000 := fun k0 s0 n0 d hd => by
          have := len_flat Cs.leavesC hd
          rw [Cs.leavesC] at this
          omega
        have hN2 : ∀ d ∈ es, d.leaves.length ≤ 100000000000 := fun d hd => by
          have := len_flat Dc.leaves hd
          omega
        have e2 := fun d hd => ih2 d hd (hN2 d hd)
        refine end13 a p cs es _ _ ?_ ?_ ?_ hN
        · exact LoopS.block f13_loop1 (objs_cons (obj_bxD _) objs_nil) (loop13a 2 a p es cs hc (fun k0 s0 n0 d hd => ih1 k0 s0 n0 d hd (hN1 k0 s0 n0 d hd)) (by omega))
        · exact LoopS.block f13_loop3 objs_nil (loop13b 2 a p cs es he e2 (by omega))
        · obtain ⟨b, hbf, l2⟩ := loop13c 2 a p cs es he e2 (irow (cs.flatMap Cs.leavesC)) (ns_irow _) (by rw [irow_len]; omega)
          refine ⟨b, hbf, LoopS.block f13_loop3 ?_ l2⟩
          have hlt1 : (irow (cs.flatMap Cs.leavesC)).length < symBase := by rw [irow_len]; unfold symBase; omega
          generalize irow (cs.flatMap Cs.leavesC) = z at hlt1 ⊢
          simpa [st13c, tokH] using hlt1
      · have hl : (Dc.mk k a p cs es).leaves = [-1] := by rw [Dc.leaves, if_neg hk1, if_neg hk2]
        rw [hl]
        exact (F13 (iv k) (iv a) (ints p) (css cs) (dcs es) (by simp) (v := .trows 0 [[iv (-1)]]) (h' := [.tok 3 1 1]) (by simp [T13, one_lt, hk1, hk2])).forget (by rfl)
theorem end14 (a : Int) (p : List Int) (cs : List Cs) (es : List Dc) (L1 L2 : List Int) (B1 : BlkS Tryz.prog Tryz.f14 0 (st14a 2 a p es cs () 0 []).1 (st14a 2 a p es cs () 0 []).2 .normal (fin14a 2 a p es cs () (irow L1)).1 (fin14a 2 a p es cs () (irow L1)).2)
    (B2 : BlkS Tryz.prog Tryz.f14 2 (st14b 2 a p cs es () 0 []).1 (st14b 2 a p cs es () 0 []).2 .normal (fin14b 2 a p cs es () (irow L2)).1 (fin14b 2 a p cs es () (irow L2)).2)
    (B3 : ∃ b, (b = false → L2 = []) ∧ BlkS Tryz.prog Tryz.f14 2 (st14c 2 a p cs es false 0 (irow L1)).1 (st14c 2 a p cs es false 0 (irow L1)).2 .normal (fin14c 2 a p cs es b (irow L1 ++ irow L2)).1 (fin14c 2 a p cs es b (irow L1 ++ irow L2)).2)
    (hN : L1.length + L2.length ≤ 100000000000) : Sem Tryz.prog 14 [dcA (.mk 2 a p cs es)] [] (.pv (ints (L1 ++ L2))) [] := by
  have hlt1 : L1.length < symBase := by unfold symBase; omega
  have hlt2 : L2.length < symBase := by unfold symBase; omega
  have hlt : L1.length + L2.length < symBase := by unfold symBase; omega
  by_cases q1 : L1 = []
  · subst q1
    by_cases q2 : L2 = []
    · subst q2
      simp [st14a, fin14a, st14b, fin14b, accV, accH, bxD] at B1 B2
      exact (F14 (iv 2) (iv a) (ints p) (css cs) (dcs es) (by simp) (v := .pv (.lit (.slice none 0 0))) (h' := []) (by simp [T14]; exact ⟨B1, B2⟩)).forget (by rfl)
    · simp [st14a, fin14a, st14b, fin14b, accV, accH, bxD, irow_ne q2] at B1 B2
      exact (F14 (iv 2) (iv a) (ints p) (css cs) (dcs es) (by simp) (v := .trows 0 (irow L2)) (h' := [.tok 3 1 L2.length]) (by simp [T14]; exact .inl ⟨B1, .rows (irow L2), by simpa using B2, by simp [hlt2]⟩)).forget (by rfl)
  · obtain ⟨b, hbf, B3⟩ := B3
    simp [st14a, fin14a, accV, accH, bxD, irow_ne q1] at B1
    cases b with
    | false =>
      have q2 := hbf rfl
      subst q2
      simp [st14c, fin14c, tokV, tokH, bxD] at B3
      rw [List.append_nil]
      exact (F14 (iv 2) (iv a) (ints p) (css cs) (dcs es) (by simp) (v := .trows 0 (irow L1)) (h' := [.tok 3 1 L1.length]) (by simp [T14]; exact .inr ⟨.rows (irow L1), by simpa using B1, by simp [hlt1]; exact .inl B3⟩)).forget (by rfl)
    | true =>
      simp [st14c, fin14c, tokV, tokH, bxD] at B3
      rw [ints_irow, irow_app]
      exact (F14 (iv 2) (iv a) (ints p) (css cs) (dcs es) (by simp) (v := .trows 0 (irow L1 ++ irow L2)) (h' := [.tok 3 1 (L1.length + L2.length)]) (by simp [T14]; exact .inr ⟨.rows (irow L1), by simpa using B1, by simp [hlt1]; exact .inr ⟨.rows (irow L1 ++ irow L2), by simpa using B3, by simp [hlt, ns_app]⟩⟩)).forget (by rfl)
theorem leaves14 (t : Dc) (ht : t.Ok) : t.leaves.length ≤ 100000000000 → Sem Tryz.prog 14 [dcA t] [] (.pv (ints t.leaves)) [] := by
  induction ht with
  | mk k a p cs es hp hc he h1 h2 ih1 ih2 =>
    intro hN
    by_cases hk1 : k = 1
    · subst hk1
      have hl : (Dc.mk 1 a p cs es).leaves = [a] := by rw [Dc.leaves, if_pos rfl]
      rw [hl]
      exact (F14 (iv 1) (iv a) (ints p) (css cs) (dcs es) (by simp) (v := .trows 0 [[iv a]]) (h' := [.tok 3 1 1]) (by simp [T14, one_lt])).forget (by rfl)
    · by_cases hk2 : k = 2
      · subst hk2
        have hl : (Dc.mk 2 a p cs es).leaves = cs.flatMap Cs.leavesC ++ es.flatMap Dc.leaves := by rw [Dc.leaves, if_neg (by decide), if_pos rfl, Cs.leavesL_eq, Dc.leavesL_eq]
        rw [hl] at hN ⊢
        rw [List.length_append] at hN
        have hN1 : ∀ k0 s0 n0 d, Cs.mk k0 s0 n0 d ∈ cs → d.leaves.length ≤ 100000000000 := fun k0 s0 n0 d hd => by
          have := len_flat Cs.leavesC hd
          rw [Cs.leavesC] at this
          omega
        have hN2 : ∀ d ∈ es, d.leaves.length ≤ 100000000000 := fun d hd => by
          have := len_flat Dc.leaves hd
          omega
        have e2 := fun d hd => ih2 d hd (hN2 d hd)
        refine end14 a p cs es _ _ ?_ ?_ ?_ hN
        · exact LoopS.block f14_loop0 (objs_cons (obj_bxD _) objs_nil) (loop14a 2 a p es cs hc (fun k0 s0 n0 d hd => ih1 k0 s0 n0 d hd (hN1 k0 s0 n0 d hd)) (by omega))
        · exact LoopS.block f14_loop2 (objs_cons (obj_bxD _) objs_nil) (loop14b 2 a p cs es he e2 (by omega))
        · obtain ⟨b, hbf, l2⟩ := loop14c 2 a p cs es he e2 (irow (cs.flatMap Cs.leavesC)) (ns_irow _) (by rw [irow_len]; omega)
          refine ⟨b, hbf, LoopS.block f14_loop2 ?_ l2⟩
          have hlt1 : (irow (cs.flatMap Cs.leavesC)).length < symBase := by rw [irow_len]; unfold symBase; omega
          generalize irow (cs.flatMap Cs.leavesC) = z at hlt1 ⊢
          simpa [st14c, tokH] using hlt1
      · have hl : (Dc.mk k a p cs es).leaves = [-1] := by rw [Dc.leaves, if_neg hk1, if_neg hk2]
        rw [hl]
        exact (F14 (iv k) (iv a) (ints p) (css cs) (dcs es) (by simp) (v := .trows 0 [[iv (-1)]]) (h' := [.tok 3 1 1]) (by simp [T14, one_lt, hk1, hk2])).forget (by rfl)
end Go.Proofs.YtmgmknpgikgnlaaGreat
