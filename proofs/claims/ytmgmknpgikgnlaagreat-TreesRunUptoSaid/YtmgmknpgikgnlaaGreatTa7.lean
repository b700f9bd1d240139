/- Are two decisions one? -/
import Derived.Test.YtmgmknpgikgnlaaGreatTa6
namespace Go.Proofs.YtmgmknpgikgnlaaGreat
open Go.RowKit

def all2 {α β : Type} (f : α → β → Bool) : List α → List β → Bool
  | [], [] => true
  | a :: l, b :: r => f a b && all2 f l r
  | _, _ => false
theorem all2_len {α β : Type} {f : α → β → Bool} : ∀ {l : List α} {r : List β}, l.length ≠ r.length → all2 f l r = false
  | [], [], h => absurd rfl h
  | [], _ :: _, _ => rfl
  | _ :: _, [], _ => rfl
  | a :: l, b :: r, h => by
    rw [all2, all2_len (l := l) (r := r) (by simpa using h), Bool.and_false]
mutual
def Dc.same : Dc → Dc → Bool
  | .mk k a p cs es, .mk k' a' p' cs' es' => decide (k = k') && (decide (a = a') && (decide (p = p') && (Cs.sameL cs cs' && Dc.sameL es es')))
def Cs.same : Cs → Cs → Bool
  | .mk k s n d, .mk k' s' n' d' => decide (k = k') && (decide (s = s') && (decide (n = n') && d.same d'))
def Cs.sameL : List Cs → List Cs → Bool
  | [], [] => true
  | a :: l, b :: r => a.same b && Cs.sameL l r
  | [], _ :: _ => false
  | _ :: _, [] => false
def Dc.sameL : List Dc → List Dc → Bool
  | [], [] => true
  | a :: l, b :: r => a.same b && Dc.sameL l r
  | [], _ :: _ => false
  | _ :: _, [] => false
end
theorem Cs.sameL_eq : ∀ l r, Cs.sameL l r = all2 Cs.same l r
  | [], [] => by rw [Cs.sameL, all2]
  | a :: l, b :: r => by rw [Cs.sameL, all2, Cs.sameL_eq l r]
  | [], _ :: _ => by rw [Cs.sameL, all2] <;> simp
  | _ :: _, [] => by rw [Cs.sameL, all2] <;> simp
theorem Dc.sameL_eq : ∀ l r, Dc.sameL l r = all2 Dc.same l r
  | [], [] => by rw [Dc.sameL, all2]
  | a :: l, b :: r => by rw [Dc.sameL, all2, Dc.sameL_eq l r]
  | [], _ :: _ => by rw [Dc.sameL, all2] <;> simp
  | _ :: _, [] => by rw [Dc.sameL, all2] <;> simp
theorem Dc.same_mk (k a : Int) (p : List Int) (cs : List Cs) (es : List Dc) (k' a' : Int) (p' : List Int) (cs' : List Cs) (es' : List Dc) :
    (Dc.mk k a p cs es).same (.mk k' a' p' cs' es') = (decide (k = k') && (decide (a = a') && (decide (p = p') && (all2 Cs.same cs cs' && all2 Dc.same es es')))) := by rw [Dc.same, Cs.sameL_eq, Dc.sameL_eq]
theorem Cs.same_mk (k : Int) (s : ByteArray) (n : Int) (d : Dc) (k' : Int) (s' : ByteArray) (n' : Int) (d' : Dc) :
    (Cs.mk k s n d).same (.mk k' s' n' d') = (decide (k = k') && (decide (s = s') && (decide (n = n') && d.same d'))) := by rw [Cs.same]
section
variable {P : Program} {fn : Func} {id m0 : Nat} {ex : AExit}
/-- A loop over two lists that ends at the first pair that is not such. -/
theorem all_loop {α β : Type} (l : List α) (r : List β) (f : α → β → Bool) (hlen : l.length = r.length) (st : Nat → Env) (H : List AObj) (fin ff : Env) (hx : ex ≠ .normal)
    (step : ∀ i a b, l[i]? = some a → r[i]? = some b → f a b = true → ∀ R, CodeB R P fn.ntmps (lb fn id) m0 (st i) H .normal (st (i + 1)) H)
    (stop : ∀ i a b, l[i]? = some a → r[i]? = some b → f a b = false → ∀ R, CodeB R P fn.ntmps (lb fn id) m0 (st i) H .ret ff H)
    (done : ∀ R, CodeB R P fn.ntmps (lb fn id) m0 (st l.length) H ex fin H) :
    ∀ (m i : Nat), l.length - i = m → i ≤ l.length → (all2 f (l.drop i) (r.drop i) = true ∧ LoopS P fn id m0 (st i) H ex fin H) ∨ (all2 f (l.drop i) (r.drop i) = false ∧ LoopS P fn id m0 (st i) H .ret ff H) := by
  intro m
  induction m with
  | zero =>
    intro i hm hi
    have : i = l.length := by omega
    subst this
    refine .inl ⟨by rw [List.drop_of_length_le (Nat.le_refl _), List.drop_of_length_le (by omega)]; rfl, LoopS.done done hx⟩
  | succ m ih =>
    intro i hm hi
    have h1 : i < l.length := by omega
    have h2 : i < r.length := by omega
    rw [List.drop_eq_getElem_cons h1, List.drop_eq_getElem_cons h2, all2]
    cases hf : f l[i] r[i] with
    | true =>
      rcases ih (i + 1) (by omega) (by omega) with ⟨g1, g2⟩ | ⟨g1, g2⟩
      · exact .inl ⟨by rw [g1]; rfl, LoopS.again (step i _ _ (List.getElem?_eq_getElem h1) (List.getElem?_eq_getElem h2) hf) g2⟩
      · exact .inr ⟨by rw [g1]; rfl, LoopS.again (step i _ _ (List.getElem?_eq_getElem h1) (List.getElem?_eq_getElem h2) hf) g2⟩
    | false => exact .inr ⟨rfl, LoopS.done (stop i _ _ (List.getElem?_eq_getElem h1) (List.getElem?_eq_getElem h2) hf) (by simp)⟩
end
theorem lt_of_get {α : Type} {l : List α} {i : Nat} {a : α} (h : l[i]? = some a) : i < l.length := by
  by_cases hi : i < l.length
  · exact hi
  · rw [List.getElem?_eq_none (by omega)] at h; cases h
theorem same23 (c c' : Cs) (ih : ∀ k s n d k' s' n' d', c = .mk k s n d → c' = .mk k' s' n' d' → Sem Tryz.prog 11 [dcA d, dcA d'] [] (.pv (bv (d.same d'))) []) : Sem Tryz.prog 23 [csA c, csA c'] [] (.pv (bv (c.same c'))) [] := by
  obtain ⟨k, s, n, ⟨k1, a1, p1, cs1, es1⟩⟩ := c
  obtain ⟨k', s', n', ⟨k2, a2, p2, cs2, es2⟩⟩ := c'
  have hr := ih _ _ _ _ _ _ _ _ rfl rfl
  rw [Cs.same_mk]
  refine F23 _ _ _ _ _ _ _ _ _ _ _ _ _ _ _ _ (by simp) ?_
  simp [dcA] at hr
  by_cases h1 : k = k'
  · by_cases h2 : s = s'
    · by_cases h3 : n = n'
      · generalize (Dc.mk k1 a1 p1 cs1 es1).same (Dc.mk k2 a2 p2 cs2 es2) = b at hr ⊢
        cases b <;> simp [T23, h1, h2, h3] <;> exact hr
      · simp [T23, h1, h2, h3]
    · simp [T23, h1, h2]
  · simp [T23, h1]
def st25 (l r : List Cs) (i : Nat) : Env := [(17, .pv (iv i)), (16, .pv (iv l.length)), (15, .pv (css l)), (1, .pv (css r)), (2, .fn 23 [])]
theorem eq25 (l r : List Cs) (hb : l.length < 1000000000000) (ih : ∀ k s n d, Cs.mk k s n d ∈ l → ∀ d', Sem Tryz.prog 11 [dcA d, dcA d'] [] (.pv (bv (d.same d'))) []) : Sem Tryz.prog 25 [.pv (css l), .pv (css r), .fn 23 []] [] (.pv (bv (all2 Cs.same l r))) [] := by
  refine F25a _ _ (by simp) ?_
  by_cases hl : l.length = r.length
  · have main := all_loop (P := Tryz.prog) (fn := Tryz.f25) (id := 0) (m0 := 0) (ex := .exit 0) l r Cs.same hl (st25 l r) [] [] [(6, .pv (bv false))] (by simp) ?_ ?_ ?_ _ 0 rfl (Nat.zero_le _)
    · rcases main with ⟨h1, h2⟩ | ⟨h1, h2⟩
      · have hB := LoopS.block f25_loop0 no_obj h2
        simp only [List.drop_zero] at h1
        simp [st25] at hB
        simp [T25a, hl, h1]
        rw [hl] at hB
        exact .inl hB
      · have hB := LoopS.blockRet f25_loop0 no_obj h2
        simp only [List.drop_zero] at h1
        simp [st25] at hB
        simp [T25a, hl, h1]
        rw [hl] at hB
        exact hB
    · intro i c c' hc hc' hf R
      have hi := lt_of_get hc
      have hw := wrap_succ (k := i) (by omega)
      have h23 := same23 c c' (fun k s n d k' s' n' d' e1 e2 => by subst e1; exact ih k s n d (List.mem_of_getElem? hc) d')
      rw [hf] at h23
      obtain ⟨k, s, n, ⟨k1, a1, p1, cs1, es1⟩⟩ := c
      obtain ⟨k', s', n', ⟨k2, a2, p2, cs2, es2⟩⟩ := c'
      simp [csA] at h23
      refine L25ab0a _ _ _ _ (by simp) ?_ R
      simp [T25ab0a, st25, hi, idx_css hc, idx_css hc', h23, hw]
    · intro i c c' hc hc' hf R
      have hi := lt_of_get hc
      have h23 := same23 c c' (fun k s n d k' s' n' d' e1 e2 => by subst e1; exact ih k s n d (List.mem_of_getElem? hc) d')
      rw [hf] at h23
      obtain ⟨k, s, n, ⟨k1, a1, p1, cs1, es1⟩⟩ := c
      obtain ⟨k', s', n', ⟨k2, a2, p2, cs2, es2⟩⟩ := c'
      simp [csA] at h23
      refine L25ab0a _ _ _ _ (by simp) ?_ R
      simp [T25ab0a, st25, hi, idx_css hc, idx_css hc', h23]
    · intro R
      refine L25ab0a _ _ _ _ (by simp) ?_ R
      simp [T25ab0a]
  · have hl' : ¬ ((l.length : Int) = (r.length : Int)) := by omega
    simp [T25a, hl', all2_len hl]
def st26 (l r : List Dc) (i : Nat) : Env := [(17, .pv (iv i)), (16, .pv (iv l.length)), (15, .pv (dcs l)), (1, .pv (dcs r)), (2, .fn 11 [])]
theorem eq26 (l r : List Dc) (hb : l.length < 1000000000000) (ih : ∀ d ∈ l, ∀ d', Sem Tryz.prog 11 [dcA d, dcA d'] [] (.pv (bv (d.same d'))) []) : Sem Tryz.prog 26 [.pv (dcs l), .pv (dcs r), .fn 11 []] [] (.pv (bv (all2 Dc.same l r))) [] := by
  refine F26a _ _ (by simp) ?_
  by_cases hl : l.length = r.length
  · have main := all_loop (P := Tryz.prog) (fn := Tryz.f26) (id := 0) (m0 := 0) (ex := .exit 0) l r Dc.same hl (st26 l r) [] [] [(6, .pv (bv false))] (by simp) ?_ ?_ ?_ _ 0 rfl (Nat.zero_le _)
    · rcases main with ⟨h1, h2⟩ | ⟨h1, h2⟩
      · have hB := LoopS.block f26_loop0 no_obj h2
        simp only [List.drop_zero] at h1
        simp [st26] at hB
        simp [T26a, hl, h1]
        rw [hl] at hB
        exact .inl hB
      · have hB := LoopS.blockRet f26_loop0 no_obj h2
        simp only [List.drop_zero] at h1
        simp [st26] at hB
        simp [T26a, hl, h1]
        rw [hl] at hB
        exact hB
    · intro i c c' hc hc' hf R
      have hi := lt_of_get hc
      have hw := wrap_succ (k := i) (by omega)
      have h23 := ih c (List.mem_of_getElem? hc) c'
      rw [hf] at h23
      obtain ⟨k1, a1, p1, cs1, es1⟩ := c
      obtain ⟨k2, a2, p2, cs2, es2⟩ := c'
      simp [dcA] at h23
      refine L26ab0a _ _ _ _ (by simp) ?_ R
      simp [T26ab0a, st26, hi, idx_dcs hc, idx_dcs hc', h23, hw]
    · intro i c c' hc hc' hf R
      have hi := lt_of_get hc
      have h23 := ih c (List.mem_of_getElem? hc) c'
      rw [hf] at h23
      obtain ⟨k1, a1, p1, cs1, es1⟩ := c
      obtain ⟨k2, a2, p2, cs2, es2⟩ := c'
      simp [dcA] at h23
      refine L26ab0a _ _ _ _ (by simp) ?_ R
      simp [T26ab0a, st26, hi, idx_dcs hc, idx_dcs hc', h23]
    · intro R
      refine L26ab0a _ _ _ _ (by simp) ?_ R
      simp [T26ab0a]
  · have hl' : ¬ ((l.length : Int) = (r.length : Int)) := by omega
    simp [T26a, hl', all2_len hl]
theorem same11 (t : Dc) (ht : t.Ok) : ∀ u : Dc, Sem Tryz.prog 11 [dcA t, dcA u] [] (.pv (bv (t.same u))) [] := by
  induction ht with
  | mk k a p cs es hp hc he h1 h2 ih1 ih2 =>
    rintro ⟨k', a', p', cs', es'⟩
    have q1 := ints24 p p' hp
    have q2 := eq25 cs cs' hc ih1
    have q3 := eq26 es es' he ih2
    rw [Dc.same_mk]
    refine F11 _ _ _ _ _ _ _ _ _ _ (by simp) ?_
    generalize all2 Cs.same cs cs' = b2 at q2 ⊢
    generalize all2 Dc.same es es' = b3 at q3 ⊢
    by_cases g1 : k = k'
    · by_cases g2 : a = a'
      · by_cases g3 : p = p'
        · subst g3
          rw [decide_eq_true rfl] at q1
          cases b2 <;> cases b3 <;> simp [T11, g1, g2, q1, q2, q3]
        · rw [decide_eq_false g3] at q1
          simp [T11, g1, g2, g3, q1]
      · simp [T11, g1, g2]
    · simp [T11, g1]
def st12 (i : Nat) : Env := [(5, .pv (iv i)), (2, .ptr 0 0), (3, .ptr 1 0)]
def su12 (i : Nat) : Env := [(8, .pv (iv i)), (2, .ptr 0 0), (3, .ptr 1 0)]
theorem same12 (t : Dc) (ht : t.Ok) : ∀ u : Dc, Sem Tryz.prog 12 [dcA t, dcA u] [] (.pv (bv (t.same u))) [] := by
  induction ht with
  | mk k a p cs es hp hc he h1 h2 ih1 ih2 =>
    rintro ⟨k', a', p', cs', es'⟩
    have q1 := ints27 p p' hp
    rw [Dc.same_mk]
    refine F12 _ _ _ _ _ _ _ _ _ _ (by simp) ?_
    by_cases g1 : k = k'
    · by_cases g2 : a = a'
      · by_cases g3 : p = p'
        · rw [decide_eq_true g3] at q1
          by_cases hl : cs.length = cs'.length
          · by_cases hl2 : es.length = es'.length
            · have m1 := all_loop (P := Tryz.prog) (fn := Tryz.f12) (id := 0) (m0 := 2) (ex := .exit 0) cs cs' Cs.same hl st12 [bxD (.mk k a p cs es), bxD (.mk k' a' p' cs' es')] [(2, .ptr 0 0), (3, .ptr 1 0)] [(4, .pv (bv false))] (by simp) ?_ ?_ ?_ _ 0 rfl (Nat.zero_le _)
              · have m2 := all_loop (P := Tryz.prog) (fn := Tryz.f12) (id := 2) (m0 := 2) (ex := .exit 2) es es' Dc.same hl2 su12 [bxD (.mk k a p cs es), bxD (.mk k' a' p' cs' es')] [] [(4, .pv (bv false))] (by simp) ?_ ?_ ?_ _ 0 rfl (Nat.zero_le _)
                · simp only [List.drop_zero] at m1 m2
                  have hl' : (cs.length : Int) = (cs'.length : Int) := by omega
                  have hl2' : (es.length : Int) = (es'.length : Int) := by omega
                  rcases m1 with ⟨e1, B1⟩ | ⟨e1, B1⟩
                  · have B1 := LoopS.block f12_loop0 (objs_cons (obj_bxD _) (objs_cons (obj_bxD _) objs_nil)) B1
                    simp [st12, bxD] at B1
                    rcases m2 with ⟨e2, B2⟩ | ⟨e2, B2⟩
                    · have B2 := LoopS.block f12_loop2 (objs_cons (obj_bxD _) (objs_cons (obj_bxD _) objs_nil)) B2
                      simp [su12, bxD] at B2
                      simp [T12, g1, g2, g3, hl', hl2', e1, e2]
                      subst g1; subst g2; subst g3
                      exact ⟨q1, .inl ⟨B1, .inl B2⟩⟩
                    · have B2 := LoopS.blockRet f12_loop2 (objs_cons (obj_bxD _) (objs_cons (obj_bxD _) objs_nil)) B2
                      simp [su12, bxD] at B2
                      simp [T12, g1, g2, g3, hl', hl2', e1, e2]
                      subst g1; subst g2; subst g3
                      exact .inl ⟨q1, .inl ⟨B1, B2⟩⟩
                  · have B1 := LoopS.blockRet f12_loop0 (objs_cons (obj_bxD _) (objs_cons (obj_bxD _) objs_nil)) B1
                    simp [st12, bxD] at B1
                    simp [T12, g1, g2, g3, hl', hl2', e1]
                    subst g1; subst g2; subst g3
                    exact .inl ⟨q1, .inr B1⟩
                · intro i c c' hc' hc'' hf R
                  have hi := lt_of_get hc'
                  have hw := wrap_succ (k := i) (by omega)
                  have hr := ih2 c (List.mem_of_getElem? hc') c'
                  rw [hf] at hr
                  obtain ⟨k1, a1, p1, cs1, es1⟩ := c
                  obtain ⟨k2, a2, p2, cs2, es2⟩ := c'
                  simp [dcA] at hr
                  refine L12b2a _ _ _ _ _ _ _ _ _ _ _ (by simp) (by simp [H12b2a]) ?_ R
                  simp [T12b2a, su12, bxD, hi, idx_dcs hc', idx_dcs hc'', hr, hw]
                · intro i c c' hc' hc'' hf R
                  have hi := lt_of_get hc'
                  have hr := ih2 c (List.mem_of_getElem? hc') c'
                  rw [hf] at hr
                  obtain ⟨k1, a1, p1, cs1, es1⟩ := c
                  obtain ⟨k2, a2, p2, cs2, es2⟩ := c'
                  simp [dcA] at hr
                  refine L12b2a _ _ _ _ _ _ _ _ _ _ _ (by simp) (by simp [H12b2a]) ?_ R
                  simp [T12b2a, su12, bxD, hi, idx_dcs hc', idx_dcs hc'', hr]
                · intro R
                  refine L12b2a _ _ _ _ _ _ _ _ _ _ _ (by simp) (by simp [H12b2a]) ?_ R
                  simp [T12b2a, bxD]
              · intro i c c' hc' hc'' hf R
                have hi := lt_of_get hc'
                have hw := wrap_succ (k := i) (by omega)
                obtain ⟨k0, s0, n0, d⟩ := c
                obtain ⟨k0', s0', n0', d'⟩ := c'
                have hr := ih1 k0 s0 n0 d (List.mem_of_getElem? hc') d'
                rw [Cs.same_mk] at hf
                simp at hf
                obtain ⟨e1, e2, e3, e4⟩ := hf
                rw [e4] at hr
                obtain ⟨k1, a1, p1, cs1, es1⟩ := d
                obtain ⟨k2, a2, p2, cs2, es2⟩ := d'
                simp [dcA] at hr
                refine L12b0a _ _ _ _ _ _ _ _ _ _ _ (by simp) (by simp [H12b0a]) ?_ R
                simp [T12b0a, st12, bxD, hi, idx_css hc', idx_css hc'', hr, hw, e1, e2, e3]
              · intro i c c' hc' hc'' hf R
                have hi := lt_of_get hc'
                obtain ⟨k0, s0, n0, d⟩ := c
                obtain ⟨k0', s0', n0', d'⟩ := c'
                have hr := ih1 k0 s0 n0 d (List.mem_of_getElem? hc') d'
                rw [Cs.same_mk] at hf
                generalize hb : d.same d' = b at hr hf
                obtain ⟨k1, a1, p1, cs1, es1⟩ := d
                obtain ⟨k2, a2, p2, cs2, es2⟩ := d'
                simp [dcA] at hr
                refine L12b0a _ _ _ _ _ _ _ _ _ _ _ (by simp) (by simp [H12b0a]) ?_ R
                by_cases e1 : k0 = k0'
                · by_cases e2 : s0 = s0'
                  · by_cases e3 : n0 = n0'
                    · simp [e1, e2, e3] at hf
                      subst hf
                      simp [T12b0a, bxD, hi, idx_css hc', idx_css hc'', hr, e1, e2, e3]
                    · simp [T12b0a, bxD, hi, idx_css hc', idx_css hc'', e1, e2, e3]
                  · simp [T12b0a, bxD, hi, idx_css hc', idx_css hc'', e1, e2]
                · simp [T12b0a, bxD, hi, idx_css hc', idx_css hc'', e1]
              · intro R
                refine L12b0a _ _ _ _ _ _ _ _ _ _ _ (by simp) (by simp [H12b0a]) ?_ R
                simp [T12b0a, bxD]
            · have hl' : (cs.length : Int) = (cs'.length : Int) := by omega
              have hl2' : ¬ ((es.length : Int) = (es'.length : Int)) := by omega
              simp [T12, g1, g2, g3, hl', hl2', all2_len hl2]
              subst g3
              exact .inl q1
          · have hl' : ¬ ((cs.length : Int) = (cs'.length : Int)) := by omega
            simp [T12, g1, g2, g3, hl', all2_len hl]
            subst g3
            exact .inl q1
        · rw [decide_eq_false g3] at q1
          simp [T12, g1, g2, g3, q1]
      · simp [T12, g1, g2]
    · simp [T12, g1]
end Go.Proofs.YtmgmknpgikgnlaaGreat
