/- What 'Scan' says of two sources with a line feed between, out of what it says of each. -/
import Derived.Test.YtnciccbgceomeaaDoorBehind
import Derived.Test.YtnciccbgceomeaaDoorUtf
namespace Go.Proofs.YtnciccbgceomeaaDoor
open Go.RowKit

def codeOf (r : Except (Int × Nat) (List Tok)) : Int × Int := match r with | .ok _ => (0, 0) | .error (c, p) => (c, (p : Int))

theorem putL_err {kind n c : Int} {x r : List UInt8} (h : putL kind x n r = .error c) : c = 104 := by
  unfold putL at h
  split at h
  · cases h; rfl
  · cases h
theorem oneL_err {l : List UInt8} {c : Int} (h : oneL l = .error c) : 101 ≤ c ∧ c ≤ 104 := by
  unfold oneL at h
  split at h
  · cases h; omega
  · split at h
    · have := putL_err h; omega
    · split at h
      · split at h
        · cases h; omega
        · have := putL_err h; omega
      · split at h
        · split at h
          · cases h; omega
          · have := putL_err h; omega
        · split at h
          · have := putL_err h; omega
          · split at h
            · have := putL_err h; omega
            · cases h; omega
theorem scanL_err : ∀ (f : Nat) (l : List UInt8) (c : Int) (m : Nat), scanL f l = .error (c, m) → 101 ≤ c ∧ c ≤ 104 ∧ m ≤ l.length
  | 0, l, c, m, h => by cases h
  | f + 1, [], c, m, h => by cases h
  | f + 1, d :: r, c, m, h => by
    simp only [scanL] at h
    split at h
    · rename_i h1
      have := oneL_err h1
      cases h
      exact ⟨this.1, this.2, Nat.le_refl _⟩
    · rename_i h1
      have hs := oneL_shorter h1
      split at h
      · rename_i h2
        cases h
        have := scanL_err f _ _ _ h2
        simp only [List.length_cons]
        omega
      · cases h
theorem scanL_rem : ∀ (f : Nat) (l : List UInt8) (ts : List LTok), scanL f l = .ok ts → ∀ t ∈ ts, t.2.2.2 ≤ l.length
  | 0, l, ts, h => by cases h; simp
  | f + 1, [], ts, h => by cases h; simp
  | f + 1, c :: r, ts, h => by
    simp only [scanL] at h
    split at h
    · cases h
    · rename_i h1
      have hs := oneL_shorter h1
      split at h
      · cases h
      · rename_i h2
        have ih := scanL_rem f _ _ h2
        cases h
        intro t ht
        rcases List.mem_cons.1 ht with rfl | ht
        · exact Nat.le_refl _
        · have := ih t ht
          simp only [List.length_cons]
          omega
theorem scanAll_err {l : List UInt8} {c : Int} {m : Nat} (h : scanAll l = .error (c, m)) : 101 ≤ c ∧ c ≤ 104 ∧ m ≤ l.length := by
  have := scanL_err _ _ _ _ h
  have := skipC_length false l
  omega
theorem scanAll_rem {l : List UInt8} {ts : List LTok} (h : scanAll l = .ok ts) : ∀ t ∈ ts, t.2.2.2 ≤ l.length := by
  intro t ht
  have := scanL_rem _ _ _ h t ht
  have := skipC_length false l
  omega
theorem scanAll_ne {l : List UInt8} {ts : List LTok} (h : scanAll l = .ok ts) : ts ≠ [] := scanL_ne _ _ _ h

theorem scanP_form (s : ByteArray) (h : s.size ≤ 60000) : scanP s = match spoilAll s.data.toList with | some m => .error (100, s.size - m) | none => liftScan s.size [] (scanAll s.data.toList) := by
  unfold scanP
  rw [if_neg (by omega), spoilP_lift]
  cases spoilAll s.data.toList with
  | none => simp only; rw [if_neg (by omega)]; exact scanAll_lift s
  | some m => simp only; rw [if_pos (by omega)]; rfl

/-- The five ways of the statement. -/
theorem both (a b S : ByteArray) (ha : a.size ≤ 2000) (hb : b.size ≤ 2000) (hS : S.data.toList = a.data.toList ++ 10 :: b.data.toList) :
    ((codeOf (scanP a)).1 = 100 ∧ codeOf (scanP S) = codeOf (scanP a)) ∨
    ((codeOf (scanP a)).1 ≠ 100 ∧ (codeOf (scanP b)).1 = 100 ∧ codeOf (scanP S) = (100, (codeOf (scanP b)).2 + a.size + 1)) ∨
    ((codeOf (scanP a)).1 ≠ 100 ∧ (codeOf (scanP b)).1 ≠ 100 ∧ (codeOf (scanP a)).1 ≠ 0 ∧ codeOf (scanP S) = codeOf (scanP a)) ∨
    ((codeOf (scanP a)).1 = 0 ∧ (codeOf (scanP b)).1 ≠ 100 ∧ (codeOf (scanP b)).1 ≠ 0 ∧ codeOf (scanP S) = ((codeOf (scanP b)).1, (codeOf (scanP b)).2 + a.size + 1)) ∨
    (∃ (ta tb : List Tok) (te : Tok), scanP a = .ok (ta ++ [te]) ∧ scanP b = .ok tb ∧ scanP S = .ok (ta ++ tb.map fun t => { t with at_ := t.at_ + (a.size + 1) }) ∧ (∀ t ∈ ta ++ [te], t.at_ ≤ 2000) ∧ ∀ t ∈ tb, t.at_ ≤ 2000) := by
  have hla : a.data.toList.length = a.size := rfl
  have hlb : b.data.toList.length = b.size := rfl
  have hlS : S.size = a.size + b.size + 1 := by
    have : S.data.toList.length = S.size := rfl
    rw [hS] at this
    simp only [List.length_append, List.length_cons] at this
    omega
  rw [scanP_form a (by omega), scanP_form b (by omega), scanP_form S (by omega), hS, spoil_sep _ _ _ (Nat.le_refl _), scan_sep _ _ _ (Nat.le_refl _), hlS]
  cases hsa : spoilAll a.data.toList with
  | some m =>
    left
    have hm := spoilL_le _ _ _ hsa
    refine ⟨rfl, ?_⟩
    simp only [codeOf]
    congr 2
    omega
  | none =>
    cases hsb : spoilAll b.data.toList with
    | some m =>
      right; left
      have hm := spoilL_le _ _ _ hsb
      refine ⟨?_, rfl, ?_⟩
      · cases hx : scanAll a.data.toList with
        | error e =>
          obtain ⟨c, k⟩ := e
          have := scanAll_err hx
          simp only [liftScan, codeOf]
          omega
        | ok ts => simp [liftScan, codeOf]
      · simp only [codeOf]
        congr 1
        omega
    | none =>
      simp only
      cases hx : scanAll a.data.toList with
      | error e =>
        obtain ⟨c, k⟩ := e
        have hc := scanAll_err hx
        right; right; left
        refine ⟨by simp only [liftScan, codeOf]; omega, ?_, by simp only [liftScan, codeOf]; omega, ?_⟩
        · cases hy : scanAll b.data.toList with
          | error e =>
            obtain ⟨c', k'⟩ := e
            have := scanAll_err hy
            simp only [liftScan, codeOf]
            omega
          | ok ts => simp [liftScan, codeOf]
        · simp only [behind, liftScan, codeOf]
          congr 2
          omega
      | ok ta =>
        cases hy : scanAll b.data.toList with
        | error e =>
          obtain ⟨c, k⟩ := e
          have hc := scanAll_err hy
          right; right; right; left
          refine ⟨rfl, by simp only [liftScan, codeOf]; omega, by simp only [liftScan, codeOf]; omega, ?_⟩
          simp only [behind, liftScan, codeOf]
          congr 1
          omega
        | ok tb =>
          right; right; right; right
          have hne := scanAll_ne hx
          have hra := scanAll_rem hx
          have hrb := scanAll_rem hy
          refine ⟨ta.dropLast.map (toTok a.size), tb.map (toTok b.size), toTok a.size (ta.getLast hne), ?_, rfl, ?_, ?_, ?_⟩
          · have : ta = ta.dropLast ++ [ta.getLast hne] := (List.dropLast_concat_getLast hne).symm
            simp only [liftScan, List.nil_append]
            conv => lhs; rw [this]
            simp
          · simp only [behind, liftScan, List.nil_append, List.map_append, List.map_map]
            congr 2
            · apply List.map_congr_left
              intro t ht
              have := hra t (List.dropLast_subset _ ht)
              simp only [Function.comp, toTok, addRem, Tok.mk.injEq, true_and]
              omega
            · apply List.map_congr_left
              intro t ht
              have := hrb t ht
              simp only [Function.comp, toTok, Tok.mk.injEq, true_and]
              omega
          · intro t ht
            simp only [List.mem_append, List.mem_map, List.mem_singleton] at ht
            rcases ht with ⟨x, _, rfl⟩ | rfl <;> simp only [toTok] <;> omega
          · intro t ht
            simp only [List.mem_map] at ht
            obtain ⟨x, _, rfl⟩ := ht
            simp only [toTok]
            omega

end Go.Proofs.YtnciccbgceomeaaDoor
