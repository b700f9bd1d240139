/- at, At; which case fits; what is decided. -/
import Derived.Test.YtmgmknpgikgnlaaGreatTa2
namespace Go.Proofs.YtmgmknpgikgnlaaGreat
open Go.RowKit

def vlA : Vl → AV
  | .mk k n s ks => .agg [.pv (iv k), .pv (iv n), .pv (sv s), .pv (vls ks)]
abbrev noVal : AV := .agg [.pv (iv 0), .pv (iv 0), .pv (sv ⟨#[]⟩), .pv (.lit (.slice none 0 0))]
def atRes : Option Vl → AV
  | some v => .tup [vlA v, .pv (bv true)]
  | none => .tup [noVal, .pv (bv false)]
theorem NSA_pv {p : PV} : NSA (.pv p) ↔ NS p := ⟨fun h => by cases h with | pv _ h => exact h, fun h => .pv _ h⟩
theorem NSA_ptr {i o : Nat} : NSA (.ptr i o) ↔ True := ⟨fun _ => trivial, fun _ => .ptr ..⟩
theorem NSA_fn {f : Nat} {l : List AV} : NSA (.fn f l) ↔ ∀ a ∈ l, NSA a := ⟨fun h => by cases h with | fn _ _ h => exact h, fun h => .fn _ _ h⟩
theorem NSA_agg {l : List AV} : NSA (.agg l) ↔ ∀ a ∈ l, NSA a := ⟨fun h => by cases h with | agg _ h => exact h, fun h => .agg _ h⟩
theorem NSA_trows {t : Nat} {es : List (List PV)} : NSA (.trows t es) ↔ NS (.rows es) := ⟨fun h => by cases h with | trows _ _ h => exact .rows _ h, fun h => by cases h with | rows _ h => exact .trows _ _ h⟩
theorem NSO_box {t : TypeId} {l : List AV} : NSO (.box t l) ↔ ∀ a ∈ l, NSA a := ⟨fun h => by cases h with | box _ _ h => exact h, fun h => .box _ _ h⟩
theorem NSO_tok {t : TypeId} {sz n : Nat} : NSO (.tok t sz n) ↔ n < symBase := ⟨fun h => by cases h with | tok _ _ _ h => exact h, fun h => .tok _ _ _ h⟩
theorem NSO_dead : NSO .dead ↔ True := ⟨fun _ => trivial, fun _ => .dead⟩
attribute [simp] NSA_pv NSA_ptr NSA_fn NSA_agg NSA_trows NSO_box NSO_tok NSO_dead
@[simp] theorem obj_bx (y : Vl) : NSO (bx y) := by
  obtain ⟨k, n, s, ks⟩ := y
  simp [bx]
@[simp] theorem obj_zero : NSO zeroVal := by simp
theorem objs_nil : ∀ x ∈ ([] : List AObj), NSO x := fun x hx => by cases hx
theorem objs_cons {a : AObj} {l : List AObj} (h : NSO a) (hl : ∀ x ∈ l, NSO x) : ∀ x ∈ a :: l, NSO x := fun x hx => by
  rcases List.mem_cons.1 hx with rfl | hx
  · exact h
  · exact hl x hx
theorem at17 (x : Vl) (p : List Int) (hb : p.length < 1000000000000) : Sem Tryz.prog 17 [vlA x, .pv (ints p)] [] (atRes (x.at p)) [] := by
  obtain ⟨k, n, s, ks⟩ := x
  refine F17 _ _ _ _ _ (by simp) ?_
  rcases loop17 p hb _ 0 (.mk k n s ks) rfl (Nat.zero_le _) with ⟨z, g1, g2⟩ | ⟨z, g1, g2⟩
  · have hB := LoopS.block f17_loop0 (objs_cons (obj_bx _) (objs_cons obj_zero objs_nil)) g2
    rw [List.drop_zero] at g1
    obtain ⟨k1, n1, s1, ks1⟩ := z
    simp [bx, st17] at hB
    simp [T17, g1, atRes, vlA]
    exact .inl ⟨_, _, _, _, hB, by simp⟩
  · have hB := LoopS.blockRet f17_loop0 (objs_cons (obj_bx _) (objs_cons obj_zero objs_nil)) g2
    rw [List.drop_zero] at g1
    obtain ⟨k1, n1, s1, ks1⟩ := z
    simp [bx, st17] at hB
    simp [T17, g1, atRes]
    exact ⟨_, _, _, _, hB, by simp⟩
theorem at20 : ∀ (p : List Int) (x : Vl), p.length < 1000000000000 → Sem Tryz.prog 20 [vlA x, .pv (ints p)] [] (atRes (x.at p)) [] := by
  intro p
  induction p with
  | nil =>
    rintro ⟨k, n, s, ks⟩ _
    refine F20 _ _ _ _ _ (by simp) ?_
    simp [T20, Vl.at, atRes, vlA]
  | cons i p ih =>
    rintro ⟨k, n, s, ks⟩ hb
    refine F20 _ _ _ _ _ (by simp) ?_
    have hx : (i :: p)[0]? = some i := rfl
    have hl : ¬ ((p.length : Int) + 1 = 0) := by omega
    by_cases h0 : i < 0
    · have hat : (Vl.mk k n s ks).at (i :: p) = none := by rw [Vl.at, if_neg (by omega)]
      have hi := @idx_ints (.cptr [iv i]) _ _ _ hx
      simp [T20, hat, atRes, hl, h0]
      exact ⟨_, by simpa using hi.2 rfl, by simp [h0]⟩
    · obtain ⟨j, rfl⟩ : ∃ j : Nat, i = j := ⟨i.toNat, by omega⟩
      have hi := @idx_ints (.cptr [iv (j : Int)]) _ _ _ hx
      have hj0 : ¬ ((j : Int) < 0) := by omega
      by_cases h1 : ks.length ≤ j
      · have hat : (Vl.mk k n s ks).at ((j : Int) :: p) = none := by rw [Vl.at, if_pos (by omega), Int.toNat_natCast, List.getElem?_eq_none h1]
        simp [T20, hat, atRes, hl]
        exact ⟨_, by simpa using hi.2 rfl, by simp [h1]⟩
      · obtain ⟨⟨k1, n1, s1, ks1⟩, hy⟩ : ∃ y, ks[j]? = some y := ⟨ks[j], List.getElem?_eq_getElem (by omega)⟩
        have hat : (Vl.mk k n s ks).at ((j : Int) :: p) = (Vl.mk k1 n1 s1 ks1).at p := by rw [Vl.at, if_pos (by omega), Int.toNat_natCast, hy]
        have h1' : ¬ ((ks.length : Int) ≤ (j : Int)) := by omega
        have hs : SlcOk Tryz.prog 22 (.pv (ints ((j : Int) :: p))) (some (.pv (iv 1))) none (.pv (ints p)) := by
          have := slc_from (l := 1) s22 (es := ((j : Int) :: p).map fun n => [iv n]) (by simp) (by simp)
          simpa [ints] using this
        have hr := ih (.mk k1 n1 s1 ks1) (by simp at hb; omega)
        rw [hat]
        simp [T20, hl]
        refine ⟨_, by simpa using hi.2 rfl, ?_⟩
        simp [h1', hj0, idx_vls hy]
        refine ⟨_, hs, ?_⟩
        simp
        cases hz : (Vl.mk k1 n1 s1 ks1).at p with
        | none =>
          rw [hz] at hr
          simp [atRes, vlA] at hr ⊢
          exact ⟨_, _, _, _, hr, by simp⟩
        | some z =>
          rw [hz] at hr
          obtain ⟨k2, n2, s2, ks2⟩ := z
          simp [atRes, vlA] at hr ⊢
          exact ⟨_, _, _, _, hr, by simp⟩
/-! Which case fits a value. -/
def fits : Vl → Cs → Bool
  | .mk k n s _, .mk k0 s0 n0 _ => decide (k0 = k) && (decide (k0 = 3) && decide (s0 = s) || decide (k0 = 4) && decide (n0 = n))
def csA : Cs → AV
  | .mk k0 s0 n0 (.mk k a p cs es) => .agg [.pv (iv k0), .pv (sv s0), .pv (iv n0), .pv (iv k), .pv (iv a), .pv (ints p), .pv (css cs), .pv (dcs es)]
theorem run19 (y : Vl) (c : Cs) : Sem Tryz.prog 19 [csA c, .ptr 0 0] [bx y] (.pv (bv (fits y c))) [bx y] := by
  obtain ⟨k, n, s, ks⟩ := y
  obtain ⟨k0, s0, n0, ⟨k1, a, p, cs, es⟩⟩ := c
  refine F19a _ _ _ _ _ _ _ _ _ _ _ _ (by simp) (by simp [H19a]) ?_
  by_cases h1 : k0 = k
  · subst h1
    by_cases h3 : k0 = 3
    · subst h3
      by_cases h4 : s0 = s <;> simp [T19a, fits, bx, h4]
    · by_cases h4 : k0 = 4
      · subst h4
        by_cases h5 : n0 = n <;> simp [T19a, fits, bx, h5]
      · simp [T19a, fits, bx, h3, h4]
  · simp [T19a, fits, bx, h1]
def st18 (i : Nat) (l : List Cs) : Env := [(8, .pv (iv i)), (7, .pv (iv l.length)), (1, .fn 19 [.ptr 0 0]), (0, .pv (css l))]
theorem loop18 (l : List Cs) (y : Vl) (hb : l.length < 1000000000000) : ∀ (m i : Nat), l.length - i = m → i ≤ l.length →
    ((∀ c ∈ l.drop i, fits y c = false) ∧ LoopS Tryz.prog Tryz.f18 0 1 (st18 i l) [bx y] (.exit 0) [] [bx y]) ∨
    (∃ j c, i ≤ j ∧ l[j]? = some c ∧ fits y c = true ∧ (∀ k, i ≤ k → k < j → ∀ c', l[k]? = some c' → fits y c' = false) ∧ LoopS Tryz.prog Tryz.f18 0 1 (st18 i l) [bx y] .ret [(4, .pv (iv (j : Nat)))] [bx y]) := by
  obtain ⟨ky, ny, sy, ksy⟩ := y
  intro m
  induction m with
  | zero =>
    intro i hm hk
    refine .inl ⟨by rw [List.drop_of_length_le (by omega)]; simp, ?_⟩
    refine LoopS.done (L18ab0a _ _ _ _ _ _ _ (by simp) (by simp [H18ab0a]) ?_) (by simp)
    have hk' : ¬ i < l.length := by omega
    simp [T18ab0a, hk', bx]
  | succ m ih =>
    intro i hm hk
    have hk1 : i < l.length := by omega
    have hw := wrap_succ (k := i) (by omega)
    obtain ⟨c, hc⟩ : ∃ c, l[i]? = some c := ⟨l[i], List.getElem?_eq_getElem hk1⟩
    have hd : l.drop i = c :: l.drop (i + 1) := by
      rw [List.drop_eq_getElem_cons hk1]
      rw [List.getElem?_eq_getElem hk1] at hc
      rw [Option.some.inj hc]
    rw [hd]
    have h19 := run19 (.mk ky ny sy ksy) c
    obtain ⟨k0, s0, n0, ⟨k1, a, p, cs, es⟩⟩ := c
    cases hf : fits (.mk ky ny sy ksy) (.mk k0 s0 n0 (.mk k1 a p cs es)) with
    | true =>
      refine .inr ⟨i, _, Nat.le_refl _, hc, hf, fun k h1 h2 => by omega, ?_⟩
      rw [hf] at h19
      refine LoopS.done (L18ab0a _ _ _ _ _ _ _ (by simp) (by simp [H18ab0a]) ?_) (by simp)
      simp [csA, bx] at h19
      simp [T18ab0a, hk1, idx_css hc, bx, h19]
    | false =>
      rw [hf] at h19
      simp [csA, bx] at h19
      have step : ∀ {ex e' h'}, LoopS Tryz.prog Tryz.f18 0 1 (st18 (i + 1) l) [bx (.mk ky ny sy ksy)] ex e' h' → LoopS Tryz.prog Tryz.f18 0 1 (st18 i l) [bx (.mk ky ny sy ksy)] ex e' h' := fun g2 => by
        refine LoopS.again (L18ab0a _ _ _ _ _ _ _ (by simp) (by simp [H18ab0a]) ?_) g2
        simp [T18ab0a, st18, hk1, idx_css hc, bx, h19, hw]
      rcases ih (i + 1) (by omega) (by omega) with ⟨g1, g2⟩ | ⟨j, c', g0, g1, g2, g3, g4⟩
      · exact .inl ⟨fun c' hc' => by
          rcases List.mem_cons.1 hc' with rfl | hc'
          · exact hf
          · exact g1 c' hc', step g2⟩
      · refine .inr ⟨j, c', by omega, g1, g2, fun k h1 h2 c'' hc'' => ?_, step g4⟩
        by_cases hki : k = i
        · subst hki
          rw [hc] at hc''
          cases hc''
          exact hf
        · exact g3 k (by omega) h2 c'' hc''
/-- IndexFunc: the first case that fits. -/
theorem index18 (l : List Cs) (y : Vl) (hb : l.length < 1000000000000) :
    ((∀ c ∈ l, fits y c = false) ∧ Sem Tryz.prog 18 [.pv (css l), .fn 19 [.ptr 0 0]] [bx y] (.pv (iv (-1))) [bx y]) ∨
    (∃ j c, l[j]? = some c ∧ fits y c = true ∧ (∀ k, k < j → ∀ c', l[k]? = some c' → fits y c' = false) ∧ Sem Tryz.prog 18 [.pv (css l), .fn 19 [.ptr 0 0]] [bx y] (.pv (iv (j : Nat))) [bx y]) := by
  rcases loop18 l y hb _ 0 rfl (Nat.zero_le _) with ⟨g1, g2⟩ | ⟨j, c, _, g1, g2, g3, g4⟩
  · have hB := LoopS.block f18_loop0 (objs_cons (obj_bx _) objs_nil) g2
    obtain ⟨ky, ny, sy, ksy⟩ := y
    refine .inl ⟨by simpa using g1, F18a _ _ _ _ _ (by simp) (by simp [H18a]) ?_⟩
    simp [bx, st18] at hB
    simp [T18a, bx]
    exact .inl hB
  · have hB := LoopS.blockRet f18_loop0 (objs_cons (obj_bx _) objs_nil) g4
    obtain ⟨ky, ny, sy, ksy⟩ := y
    refine .inr ⟨j, c, g1, g2, fun k hk => g3 k (Nat.zero_le _) hk, F18a _ _ _ _ _ (by simp) (by simp [H18a]) ?_⟩
    simp [bx, st18] at hB
    simp [T18a, bx]
    exact ⟨_, hB, by simp⟩
end Go.Proofs.YtmgmknpgikgnlaaGreat
