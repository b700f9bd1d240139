/- Lists of integers. -/
import Derived.Test.YtmgmknpgikgnlaaGreatAbS
import Derived.Test.YtmgmknpgikgnlaaGreatDe1
namespace Go.Proofs.YtmgmknpgikgnlaaGreat
open Go.RowKit

theorem s22 : SlT Tryz.prog 22 1 8 := SlT.of (by kernel_rfl)
theorem no_obj : ∀ x ∈ ([] : List AObj), NSO x := fun x hx => by cases hx
def ints (l : List Int) : PV := .rows (l.map fun n => [iv n])
@[simp] theorem ns_ints (l : List Int) : NS (ints l) := .rows _ fun c hc p hp => by
  simp only [List.mem_map] at hc
  obtain ⟨n, _, rfl⟩ := hc
  simp at hp
  subst hp
  exact .lit _
theorem ints_at {l : List Int} {k : Nat} {n : Int} (h : l[k]? = some n) : (l.map fun n => [iv n])[k]? = some [iv n] := by rw [List.getElem?_map, h]; rfl
def st10 (k : Nat) (xs ys : List Int) : Env := [(13, .pv (iv k)), (12, .pv (iv xs.length)), (0, .pv (ints xs)), (1, .pv (ints ys))]
theorem loop10 (xs ys : List Int) (hl : xs.length = ys.length) (hb : xs.length < 1000000000000) : ∀ (m k : Nat), xs.length - k = m → k ≤ xs.length →
    (xs.drop k = ys.drop k ∧ LoopS Tryz.prog Tryz.f10 0 0 (st10 k xs ys) [] (.exit 0) [] []) ∨
    (xs.drop k ≠ ys.drop k ∧ LoopS Tryz.prog Tryz.f10 0 0 (st10 k xs ys) [] .ret [(4, .pv (bv false))] []) := by
  intro m
  induction m with
  | zero =>
    intro k hm hk
    refine .inl ⟨by rw [List.drop_of_length_le (by omega), List.drop_of_length_le (by omega)], ?_⟩
    refine LoopS.done (L10b0a _ _ _ _ (by simp) ?_) (by simp)
    have hk' : ¬ k < xs.length := by omega
    simp [T10b0a, hk']
  | succ m ih =>
    intro k hm hk
    have hk1 : k < xs.length := by omega
    have hk2 : k < ys.length := by omega
    have hx : xs[k]? = some xs[k] := List.getElem?_eq_getElem hk1
    have hy : ys[k]? = some ys[k] := List.getElem?_eq_getElem hk2
    rw [List.drop_eq_getElem_cons hk1, List.drop_eq_getElem_cons hk2]
    have hw : IntKind.i64.wrap ((k : Int) + 1) = ((k + 1 : Nat) : Int) := by rw [wrap_id (by omega)]; omega
    by_cases he : xs[k] = ys[k]
    · rcases ih (k + 1) (by omega) (by omega) with ⟨h1, h2⟩ | ⟨h1, h2⟩
      · refine .inl ⟨by rw [he, h1], ?_⟩
        refine LoopS.again (L10b0a _ _ _ _ (by simp) ?_) h2
        simp [T10b0a, st10, ints, hk1, idx_ok s22 (ints_at hx) rfl, idx_ok s22 (ints_at hy) rfl, he, hw]
      · refine .inr ⟨by intro h; exact h1 (List.cons.inj h).2, ?_⟩
        refine LoopS.again (L10b0a _ _ _ _ (by simp) ?_) h2
        simp [T10b0a, st10, ints, hk1, idx_ok s22 (ints_at hx) rfl, idx_ok s22 (ints_at hy) rfl, he, hw]
    · refine .inr ⟨by intro h; exact he (List.cons.inj h).1, ?_⟩
      refine LoopS.done (L10b0a _ _ _ _ (by simp) ?_) (by simp)
      simp [T10b0a, st10, ints, hk1, idx_ok s22 (ints_at hx) rfl, idx_ok s22 (ints_at hy) rfl, he, hw]
theorem ints10 (xs ys : List Int) (hb : xs.length < 1000000000000) : Sem Tryz.prog 10 [.pv (ints xs), .pv (ints ys)] [] (.pv (bv (decide (xs = ys)))) [] := by
  refine F10 _ _ (by simp) ?_
  by_cases hl : xs.length = ys.length
  · rcases loop10 xs ys hl hb _ 0 rfl (Nat.zero_le _) with ⟨h1, h2⟩ | ⟨h1, h2⟩
    · have hB := LoopS.block f10_loop0 no_obj h2
      simp only [List.drop_zero] at h1
      simp [st10, ints] at hB
      simp [T10, ints, len_ok s22, hl, h1]
      exact .inl (by simpa [hl, h1] using hB)
    · have hB := LoopS.blockRet f10_loop0 no_obj h2
      simp only [List.drop_zero] at h1
      simp [st10, ints] at hB
      simp [T10, ints, len_ok s22, hl, h1]
      simpa [hl, h1] using hB
  · have hne : xs ≠ ys := fun h => hl (by rw [h])
    have hl' : ¬ ((xs.length : Int) = (ys.length : Int)) := by omega
    simp [T10, ints, len_ok s22, hl', hne]
def st27 (k : Nat) (xs ys : List Int) : Env := [(5, .pv (iv k)), (0, .pv (ints xs)), (1, .pv (ints ys))]
theorem loop27 (xs ys : List Int) (hl : xs.length = ys.length) (hb : xs.length < 1000000000000) : ∀ (m k : Nat), xs.length - k = m → k ≤ xs.length →
    (xs.drop k = ys.drop k ∧ LoopS Tryz.prog Tryz.f27 0 0 (st27 k xs ys) [] (.exit 0) [] []) ∨
    (xs.drop k ≠ ys.drop k ∧ LoopS Tryz.prog Tryz.f27 0 0 (st27 k xs ys) [] .ret [(4, .pv (bv false))] []) := by
  intro m
  induction m with
  | zero =>
    intro k hm hk
    refine .inl ⟨by rw [List.drop_of_length_le (by omega), List.drop_of_length_le (by omega)], ?_⟩
    refine LoopS.done (L27b0a _ _ _ (by simp) ?_) (by simp)
    have hk' : ¬ k < xs.length := by omega
    simp [T27b0a, ints, len_ok s22, hk']
  | succ m ih =>
    intro k hm hk
    have hk1 : k < xs.length := by omega
    have hk2 : k < ys.length := by omega
    have hx : xs[k]? = some xs[k] := List.getElem?_eq_getElem hk1
    have hy : ys[k]? = some ys[k] := List.getElem?_eq_getElem hk2
    rw [List.drop_eq_getElem_cons hk1, List.drop_eq_getElem_cons hk2]
    have hw : IntKind.i64.wrap ((k : Int) + 1) = ((k + 1 : Nat) : Int) := by rw [wrap_id (by omega)]; omega
    by_cases he : xs[k] = ys[k]
    · rcases ih (k + 1) (by omega) (by omega) with ⟨h1, h2⟩ | ⟨h1, h2⟩
      · refine .inl ⟨by rw [he, h1], ?_⟩
        refine LoopS.again (L27b0a _ _ _ (by simp) ?_) h2
        simp [T27b0a, st27, ints, len_ok s22, hk1, idx_ok s22 (ints_at hx) rfl, idx_ok s22 (ints_at hy) rfl, he, hw]
      · refine .inr ⟨by intro h; exact h1 (List.cons.inj h).2, ?_⟩
        refine LoopS.again (L27b0a _ _ _ (by simp) ?_) h2
        simp [T27b0a, st27, ints, len_ok s22, hk1, idx_ok s22 (ints_at hx) rfl, idx_ok s22 (ints_at hy) rfl, he, hw]
    · refine .inr ⟨by intro h; exact he (List.cons.inj h).1, ?_⟩
      refine LoopS.done (L27b0a _ _ _ (by simp) ?_) (by simp)
      simp [T27b0a, st27, ints, len_ok s22, hk1, idx_ok s22 (ints_at hx) rfl, idx_ok s22 (ints_at hy) rfl, he, hw]
theorem ints27 (xs ys : List Int) (hb : xs.length < 1000000000000) : Sem Tryz.prog 27 [.pv (ints xs), .pv (ints ys)] [] (.pv (bv (decide (xs = ys)))) [] := by
  refine F27 _ _ (by simp) ?_
  by_cases hl : xs.length = ys.length
  · rcases loop27 xs ys hl hb _ 0 rfl (Nat.zero_le _) with ⟨h1, h2⟩ | ⟨h1, h2⟩
    · have hB := LoopS.block f27_loop0 no_obj h2
      simp only [List.drop_zero] at h1
      simp [st27, ints] at hB
      simp [T27, ints, len_ok s22, hl, h1]
      exact .inl (by simpa [hl, h1] using hB)
    · have hB := LoopS.blockRet f27_loop0 no_obj h2
      simp only [List.drop_zero] at h1
      simp [st27, ints] at hB
      simp [T27, ints, len_ok s22, hl, h1]
      simpa [hl, h1] using hB
  · have hne : xs ≠ ys := fun h => hl (by rw [h])
    have hl' : ¬ ((xs.length : Int) = (ys.length : Int)) := by omega
    simp [T27, ints, len_ok s22, hl', hne]
def st24 (k : Nat) (xs ys : List Int) : Env := [(13, .pv (iv k)), (12, .pv (iv xs.length)), (0, .pv (ints xs)), (1, .pv (ints ys))]
theorem loop24 (xs ys : List Int) (hl : xs.length = ys.length) (hb : xs.length < 1000000000000) : ∀ (m k : Nat), xs.length - k = m → k ≤ xs.length →
    (xs.drop k = ys.drop k ∧ LoopS Tryz.prog Tryz.f24 0 0 (st24 k xs ys) [] (.exit 0) [] []) ∨
    (xs.drop k ≠ ys.drop k ∧ LoopS Tryz.prog Tryz.f24 0 0 (st24 k xs ys) [] .ret [(4, .pv (bv false))] []) := by
  intro m
  induction m with
  | zero =>
    intro k hm hk
    refine .inl ⟨by rw [List.drop_of_length_le (by omega), List.drop_of_length_le (by omega)], ?_⟩
    refine LoopS.done (L24b0a _ _ _ _ (by simp) ?_) (by simp)
    have hk' : ¬ k < xs.length := by omega
    simp [T24b0a, hk']
  | succ m ih =>
    intro k hm hk
    have hk1 : k < xs.length := by omega
    have hk2 : k < ys.length := by omega
    have hx : xs[k]? = some xs[k] := List.getElem?_eq_getElem hk1
    have hy : ys[k]? = some ys[k] := List.getElem?_eq_getElem hk2
    rw [List.drop_eq_getElem_cons hk1, List.drop_eq_getElem_cons hk2]
    have hw : IntKind.i64.wrap ((k : Int) + 1) = ((k + 1 : Nat) : Int) := by rw [wrap_id (by omega)]; omega
    by_cases he : xs[k] = ys[k]
    · rcases ih (k + 1) (by omega) (by omega) with ⟨h1, h2⟩ | ⟨h1, h2⟩
      · refine .inl ⟨by rw [he, h1], ?_⟩
        refine LoopS.again (L24b0a _ _ _ _ (by simp) ?_) h2
        simp [T24b0a, st24, ints, hk1, idx_ok s22 (ints_at hx) rfl, idx_ok s22 (ints_at hy) rfl, he, hw]
      · refine .inr ⟨by intro h; exact h1 (List.cons.inj h).2, ?_⟩
        refine LoopS.again (L24b0a _ _ _ _ (by simp) ?_) h2
        simp [T24b0a, st24, ints, hk1, idx_ok s22 (ints_at hx) rfl, idx_ok s22 (ints_at hy) rfl, he, hw]
    · refine .inr ⟨by intro h; exact he (List.cons.inj h).1, ?_⟩
      refine LoopS.done (L24b0a _ _ _ _ (by simp) ?_) (by simp)
      simp [T24b0a, st24, ints, hk1, idx_ok s22 (ints_at hx) rfl, idx_ok s22 (ints_at hy) rfl, he, hw]
theorem ints24 (xs ys : List Int) (hb : xs.length < 1000000000000) : Sem Tryz.prog 24 [.pv (ints xs), .pv (ints ys)] [] (.pv (bv (decide (xs = ys)))) [] := by
  refine F24 _ _ (by simp) ?_
  by_cases hl : xs.length = ys.length
  · rcases loop24 xs ys hl hb _ 0 rfl (Nat.zero_le _) with ⟨h1, h2⟩ | ⟨h1, h2⟩
    · have hB := LoopS.block f24_loop0 no_obj h2
      simp only [List.drop_zero] at h1
      simp [st24, ints] at hB
      simp [T24, ints, len_ok s22, hl, h1]
      exact .inl (by simpa [hl, h1] using hB)
    · have hB := LoopS.blockRet f24_loop0 no_obj h2
      simp only [List.drop_zero] at h1
      simp [st24, ints] at hB
      simp [T24, ints, len_ok s22, hl, h1]
      simpa [hl, h1] using hB
  · have hne : xs ≠ ys := fun h => hl (by rw [h])
    have hl' : ¬ ((xs.length : Int) = (ys.length : Int)) := by omega
    simp [T24, ints, len_ok s22, hl', hne]
end Go.Proofs.YtmgmknpgikgnlaaGreat
