/- The plain law of LexBehind: two sources, a line feed between, have the tokens of both. -/
import Derived.Test.YtnciccbgceomeaaDoorLists
namespace Go.Proofs.YtnciccbgceomeaaDoor
open Go.RowKit

theorem takeWhile_sep (p : UInt8 → Bool) (hp : p 10 = false) (b : List UInt8) : ∀ u : List UInt8, (u ++ 10 :: b).takeWhile p = u.takeWhile p
  | [] => by simp [hp]
  | c :: r => by
    by_cases h : p c = true
    · rw [List.cons_append, List.takeWhile_cons_of_pos h, List.takeWhile_cons_of_pos h, takeWhile_sep p hp b r]
    · rw [List.cons_append, List.takeWhile_cons_of_neg h, List.takeWhile_cons_of_neg h]
theorem dropWhile_sep (p : UInt8 → Bool) (hp : p 10 = false) (b : List UInt8) : ∀ u : List UInt8, (u ++ 10 :: b).dropWhile p = u.dropWhile p ++ 10 :: b
  | [] => by simp [hp]
  | c :: r => by
    by_cases h : p c = true
    · rw [List.cons_append, List.dropWhile_cons_of_pos h, List.dropWhile_cons_of_pos h, dropWhile_sep p hp b r]
    · rw [List.cons_append, List.dropWhile_cons_of_neg h, List.dropWhile_cons_of_neg h]; rfl
theorem textL_sep (b : List UInt8) : ∀ (n : Nat) (u : List UInt8), u.length ≤ n → textL (u ++ 10 :: b) = (textL u).map fun p => (p.1, p.2 ++ 10 :: b)
  | 0, u, hn => by
    have : u = [] := List.eq_nil_of_length_eq_zero (by omega)
    subst this
    rw [List.nil_append, textL_cons]
    rfl
  | n + 1, [], hn => by
    rw [List.nil_append, textL_cons]
    rfl
  | n + 1, c :: l, hn => by
    rw [List.cons_append, textL_cons, textL_cons]
    simp only [List.length_cons] at hn
    split
    · rfl
    · split
      · rfl
      · split
        · cases l with
          | nil => rfl
          | cons d l' =>
            simp only [List.cons_append]
            simp only [List.length_cons] at hn
            cases escC d with
            | none => rfl
            | some x =>
              simp only
              rw [textL_sep b n l' (by omega)]
              cases textL l' <;> rfl
        · rw [textL_sep b n l (by omega)]
          cases textL l <;> rfl

def restTo (b : List UInt8) (o : Except Int (Int × List UInt8 × Int × List UInt8)) : Except Int (Int × List UInt8 × Int × List UInt8) :=
  match o with
  | .error e => .error e
  | .ok (k, x, n, r) => .ok (k, x, n, r ++ 10 :: b)
theorem putL_sep (kind n : Int) (x r b : List UInt8) : putL kind x n (r ++ 10 :: b) = restTo b (putL kind x n r) := by
  unfold putL
  split <;> rfl
theorem oneL_sep (b : List UInt8) (c : UInt8) (r : List UInt8) : oneL ((c :: r) ++ 10 :: b) = restTo b (oneL (c :: r)) := by
  have h1 : insideB 10 = false := by decide
  have h2 : digitB 10 = false := by decide
  have h3 : symB 10 = false := by decide
  have t1 : (c :: (r ++ 10 :: b)).takeWhile insideB = (c :: r).takeWhile insideB := takeWhile_sep _ h1 b (c :: r)
  have t2 : (c :: (r ++ 10 :: b)).takeWhile digitB = (c :: r).takeWhile digitB := takeWhile_sep _ h2 b (c :: r)
  have t3 : (c :: (r ++ 10 :: b)).takeWhile symB = (c :: r).takeWhile symB := takeWhile_sep _ h3 b (c :: r)
  have d1 : (c :: (r ++ 10 :: b)).dropWhile insideB = (c :: r).dropWhile insideB ++ 10 :: b := dropWhile_sep _ h1 b (c :: r)
  have d2 : (c :: (r ++ 10 :: b)).dropWhile digitB = (c :: r).dropWhile digitB ++ 10 :: b := dropWhile_sep _ h2 b (c :: r)
  have d3 : (c :: (r ++ 10 :: b)).dropWhile symB = (c :: r).dropWhile symB ++ 10 :: b := dropWhile_sep _ h3 b (c :: r)
  unfold oneL
  simp only [List.cons_append, t1, t2, t3, d1, d2, d3]
  split
  · exact putL_sep _ _ _ _ _
  · split
    · cases parseD (numText ((c :: r).takeWhile digitB)) with
      | none => rfl
      | some n => exact putL_sep _ _ _ _ _
    · split
      · rw [textL_sep b _ r (Nat.le_refl _)]
        cases textL r with
        | none => rfl
        | some p => exact putL_sep _ _ _ _ _
      · split
        · exact putL_sep _ _ _ _ _
        · split
          · exact putL_sep _ _ _ _ _
          · rfl

theorem skipC_sep (b : List UInt8) : ∀ (t : Bool) (u : List UInt8), skipC t (u ++ 10 :: b) = if skipC t u = [] then skipC false b else skipC t u ++ 10 :: b
  | true, [] => by simp [skipC]
  | false, [] => by
    have : blankB 10 = true := by decide
    simp [skipC, this]
  | true, c :: r => by
    simp only [List.cons_append, skipC]
    split
    · exact skipC_sep b false r
    · exact skipC_sep b true r
  | false, c :: r => by
    simp only [List.cons_append, skipC]
    split
    · exact skipC_sep b false r
    · split
      · exact skipC_sep b true r
      · simp

/-- A token with so many bytes more behind it. -/
def addRem (m : Nat) (t : LTok) : LTok := (t.1, t.2.1, t.2.2.1, t.2.2.2 + m)
def behind (m : Nat) (x y : Except (Int × Nat) (List LTok)) : Except (Int × Nat) (List LTok) :=
  match x with
  | .error (c, k) => .error (c, k + m)
  | .ok ta =>
    match y with
    | .error e => .error e
    | .ok tb => .ok (ta.dropLast.map (addRem m) ++ tb)

theorem scanL_ne : ∀ (f : Nat) (l : List UInt8) (ts : List LTok), scanL f l = .ok ts → ts ≠ []
  | 0, l, ts, h => by cases h; simp
  | f + 1, [], ts, h => by cases h; simp
  | f + 1, c :: r, ts, h => by
    simp only [scanL] at h
    split at h
    · cases h
    · split at h
      · cases h
      · cases h; simp
theorem scan_sep (b : List UInt8) : ∀ (n : Nat) (u : List UInt8), u.length ≤ n → scanAll (u ++ 10 :: b) = behind (b.length + 1) (scanAll u) (scanAll b)
  | n, u, hn => by
    have hsk := skipC_sep b false u
    by_cases he : skipC false u = []
    · rw [if_pos he] at hsk
      have e1 : scanAll u = .ok [(0, [], 0, 0)] := by unfold scanAll; rw [he]; rfl
      have e2 : scanAll (u ++ 10 :: b) = scanAll b := by
        rw [← scanAll_eq b ((u ++ 10 :: b).length + 1) (by have := skipC_length false b; simp; omega)]
        unfold scanAll
        rw [hsk]
      rw [e1, e2]
      unfold behind
      cases scanAll b <;> rfl
    · rw [if_neg he] at hsk
      cases hu : skipC false u with
      | nil => exact absurd hu he
      | cons c r =>
        have hlen : r.length < u.length := by
          have := skipC_length false u
          rw [hu] at this
          simp only [List.length_cons] at this
          omega
        rw [hu] at hsk
        have e2 : scanAll (u ++ 10 :: b) = scanL ((c :: r ++ 10 :: b).length + 1) (c :: r ++ 10 :: b) := by
          unfold scanAll
          rw [hsk]
          exact scanL_two _ _ _ (by simp; omega) (by omega)
        have e1 : scanAll u = scanL ((c :: r).length + 1) (c :: r) := by
          unfold scanAll
          rw [hu]
          exact scanL_two _ _ _ (by simp; omega) (by omega)
        rw [e1, e2]
        simp only [List.cons_append, scanL]
        rw [← List.cons_append, oneL_sep]
        cases h1 : oneL (c :: r) with
        | error e => simp [restTo, behind]; omega
        | ok q =>
          obtain ⟨k, x, m, r'⟩ := q
          have hs := oneL_shorter h1
          obtain ⟨d, hd⟩ := oneL_suffix h1
          have hr' : r'.length ≤ r.length := by rw [hd, List.length_drop]; omega
          cases n with
          | zero => omega
          | succ n =>
            have ih := scan_sep b n r' (by omega)
            have e3 : scanL (c :: r ++ 10 :: b).length (skipC false (r' ++ 10 :: b)) = scanAll (r' ++ 10 :: b) := by
              apply scanAll_eq
              have := skipC_length false (r' ++ 10 :: b)
              simp at *
              omega
            have e4 : scanL (c :: r).length (skipC false r') = scanAll r' := scanAll_eq _ _ (by simp only [List.length_cons]; omega)
            simp only [restTo]
            rw [e3, e4, ih]
            cases h2 : scanAll r' with
            | error e => obtain ⟨e, m⟩ := e; rfl
            | ok ta =>
              have hne := scanL_ne _ _ _ h2
              cases scanAll b with
              | error e => rfl
              | ok tb =>
                simp only [behind]
                cases ta with
                | nil => exact absurd rfl hne
                | cons t0 ta' =>
                  simp [List.dropLast, addRem]
                  omega

end Go.Proofs.YtnciccbgceomeaaDoor
