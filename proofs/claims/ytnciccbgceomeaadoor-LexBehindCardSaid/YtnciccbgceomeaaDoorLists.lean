/- The tokens of a source, said of lists of bytes alone; that this is what 'Scan' gives. -/
import Derived.Test.YtnciccbgceomeaaDoorScan2
namespace Go.Proofs.YtnciccbgceomeaaDoor
open Go.RowKit

/-- A token of a list: its kind, its bytes, its number, how many bytes are left where it begins. -/
abbrev LTok := Int × List UInt8 × Int × Nat
def putL (kind : Int) (x : List UInt8) (n : Int) (r : List UInt8) : Except Int (Int × List UInt8 × Int × List UInt8) :=
  if kind ≠ 3 ∧ kind ≠ 4 ∧ 40 < x.length then .error 104 else .ok (kind, x, n, r)
def kindL (x : List UInt8) : Int := if keyList.contains x = true then 6 else if (x == [95]) = true then 7 else if (match x with | [] => false | c :: _ => upB c) = true then 2 else 1
/-- The token at the head of a list, and what follows it. -/
def oneL (l : List UInt8) : Except Int (Int × List UInt8 × Int × List UInt8) :=
  match l with
  | [] => .error 101
  | c :: r =>
    if lowB c = true ∨ upB c = true then putL (kindL (l.takeWhile insideB)) (l.takeWhile insideB) 0 (l.dropWhile insideB)
    else if digitB c = true then
      (match parseD (numText (l.takeWhile digitB)) with
       | none => .error 102
       | some n => putL 3 (numText (l.takeWhile digitB)) n (l.dropWhile digitB))
    else if c.toNat = 34 then
      (match textL r with
       | none => .error 103
       | some (x, r') => putL 4 x 0 r')
    else if symB c = true then putL (if markList.contains (l.takeWhile symB) = true then 7 else 5) (l.takeWhile symB) 0 (l.dropWhile symB)
    else if markList.contains [c] = true then putL 7 [c] 0 r
    else .error 101
def scanL : Nat → List UInt8 → Except (Int × Nat) (List LTok)
  | 0, _ => .ok [(0, [], 0, 0)]
  | f + 1, l =>
    match l with
    | [] => .ok [(0, [], 0, 0)]
    | c :: r =>
      match oneL (c :: r) with
      | .error e => .error (e, (c :: r).length)
      | .ok (k, x, n, r') =>
        match scanL f (skipC false r') with
        | .error e => .error e
        | .ok ts => .ok ((k, x, n, (c :: r).length) :: ts)

def toTok (size : Nat) (t : LTok) : Tok := ⟨t.1, textOf t.2.1, t.2.2.1, size - t.2.2.2⟩
def liftOne (s : ByteArray) (k : Nat) (o : Except Int (Int × List UInt8 × Int × List UInt8)) : Except Int (Tok × Nat) :=
  match o with
  | .error e => .error e
  | .ok (kind, x, n, r) => .ok (⟨kind, textOf x, n, k⟩, s.size - r.length)

theorem text_eq {s : ByteArray} {x : List UInt8} (h : s.data.toList = x) : s = textOf x := by
  subst h
  rfl
theorem adv_pos (p : UInt8 → Bool) (s : ByteArray) (k : Nat) (h : k ≤ s.size) : s.size - ((s.data.toList.drop k).dropWhile p).length = adv p s k := by
  have h1 := adv_drop p s k
  have h2 := adv_le p s k h
  have hl : s.data.toList.length = s.size := rfl
  rw [← h1, List.length_drop]
  omega
theorem put_lift (s : ByteArray) (k j : Nat) (kind n : Int) (x r : List UInt8) (hj : s.size - r.length = j) : liftOne s k (putL kind x n r) = putR kind (textOf x) n k j := by
  unfold putL putR liftOne
  have hsz : ((textOf x).size : Int) = (x.length : Int) := by rw [textOf_size]
  by_cases h : kind ≠ 3 ∧ kind ≠ 4 ∧ 40 < x.length
  · rw [if_pos h, if_pos (by omega)]
  · rw [if_neg h, if_neg (by omega)]
    simp only [hj]
theorem kind_lift (x : List UInt8) : kindW (textOf x) = kindL x := by
  unfold kindW kindL keyB headB
  rw [textOf_toList, textOf_data]
  rfl
theorem one_lift (s : ByteArray) (k : Nat) (h : k < s.size) : oneR s k s[k] = liftOne s k (oneL (s.data.toList.drop k)) := by
  have hl : s.data.toList.length = s.size := rfl
  have hin : ∀ p, s.extract k (adv p s k) = textOf ((s.data.toList.drop k).takeWhile p) := fun p => text_eq (adv_text p s k)
  have hone : s.extract k (k + 1) = textOf [s[k]] := text_eq (by rw [Lib.extract_data, Nat.add_sub_cancel_left, drop_at s k h]; rfl)
  have hmark : ∀ x, markB (textOf x) = markList.contains x := fun x => by unfold markB; rw [textOf_toList]
  have hd := drop_at s k h
  have key : oneL (s.data.toList.drop k) = oneL (s[k] :: s.data.toList.drop (k + 1)) := by rw [hd]
  rw [key]
  unfold oneR oneL
  simp only
  by_cases h1 : lowB s[k] = true ∨ upB s[k] = true
  · rw [if_pos h1, if_pos h1]
    unfold wordR
    rw [hin, kind_lift, ← hd]
    exact (put_lift s k _ _ _ _ _ (adv_pos insideB s k (by omega))).symm
  · rw [if_neg h1, if_neg h1]
    by_cases h2 : digitB s[k] = true
    · rw [if_pos h2, if_pos h2]
      unfold numR numOf
      rw [← hd]
      cases parseD (numText ((s.data.toList.drop k).takeWhile digitB)) with
      | none => rfl
      | some n => exact (put_lift s k _ _ _ _ _ (adv_pos digitB s k (by omega))).symm
    · rw [if_neg h2, if_neg h2]
      by_cases h3 : s[k].toNat = 34
      · rw [if_pos h3, if_pos h3]
        unfold textR textOfR
        cases textL (s.data.toList.drop (k + 1)) with
        | none => rfl
        | some p => exact (put_lift s k _ _ _ _ _ rfl).symm
      · rw [if_neg h3, if_neg h3]
        by_cases h4 : symB s[k] = true
        · rw [if_pos h4, if_pos h4]
          unfold symR
          rw [hin, hmark, ← hd]
          exact (put_lift s k _ _ _ _ _ (adv_pos symB s k (by omega))).symm
        · rw [if_neg h4, if_neg h4, hone, hmark]
          by_cases h5 : markList.contains [s[k]] = true
          · rw [if_pos h5, if_pos h5]
            exact (put_lift s k _ _ _ _ _ (by rw [List.length_drop]; omega)).symm
          · rw [if_neg h5, if_neg h5]
            rfl

def liftScan (size : Nat) (ts : List Tok) (o : Except (Int × Nat) (List LTok)) : Except (Int × Nat) (List Tok) :=
  match o with
  | .error (c, m) => .error (c, size - m)
  | .ok l => .ok (ts ++ l.map (toTok size))

theorem skipC_suffix : ∀ (b : Bool) (l : List UInt8), ∃ n, skipC b l = l.drop n
  | _, [] => ⟨0, by simp [skipC]⟩
  | true, c :: r => by
    simp only [skipC]
    split
    · obtain ⟨n, h⟩ := skipC_suffix false r; exact ⟨n + 1, by simpa using h⟩
    · obtain ⟨n, h⟩ := skipC_suffix true r; exact ⟨n + 1, by simpa using h⟩
  | false, c :: r => by
    simp only [skipC]
    split
    · obtain ⟨n, h⟩ := skipC_suffix false r; exact ⟨n + 1, by simpa using h⟩
    · split
      · obtain ⟨n, h⟩ := skipC_suffix true r; exact ⟨n + 1, by simpa using h⟩
      · exact ⟨0, rfl⟩
theorem drop_skipPos (s : ByteArray) (j : Nat) : s.data.toList.drop (skipPos s j) = skipC false (s.data.toList.drop j) := by
  obtain ⟨n, h⟩ := skipC_suffix false (s.data.toList.drop j)
  have hl : s.data.toList.length = s.size := rfl
  unfold skipPos
  rw [h, List.drop_drop, List.length_drop]
  by_cases hn : j + n ≤ s.size
  · congr 1; omega
  · rw [List.drop_eq_nil_of_le (by omega), List.drop_eq_nil_of_le (by omega)]
theorem drop_pos (s : ByteArray) (r : List UInt8) (n : Nat) (h : r = s.data.toList.drop n) : s.data.toList.drop (s.size - r.length) = r := by
  have hl : s.data.toList.length = s.size := rfl
  subst h
  rw [List.length_drop]
  by_cases hn : n ≤ s.size
  · congr 1; omega
  · rw [List.drop_eq_nil_of_le (by omega), List.drop_eq_nil_of_le (by omega)]

theorem textL_suffix : ∀ (n : Nat) (l x r : List UInt8), l.length ≤ n → textL l = some (x, r) → ∃ m, r = l.drop m
  | 0, l, x, r, hn, h => by
    have : l = [] := List.eq_nil_of_length_eq_zero (by omega)
    subst this
    cases h
  | n + 1, [], x, r, hn, h => by cases h
  | n + 1, c :: l, x, r, hn, h => by
    rw [textL_cons] at h
    simp only [List.length_cons] at hn
    split at h
    · cases h; exact ⟨1, rfl⟩
    · split at h
      · cases h
      · split at h
        · cases l with
          | nil => cases h
          | cons d l' =>
            simp only at h
            split at h
            · cases h
            · cases h2 : textL l' with
              | none => rw [h2] at h; cases h
              | some p =>
                rw [h2] at h
                obtain ⟨m, hm⟩ := textL_suffix n l' p.1 p.2 (by simp only [List.length_cons] at hn; omega) h2
                cases h
                exact ⟨m + 2, by simpa using hm⟩
        · cases h2 : textL l with
          | none => rw [h2] at h; cases h
          | some p =>
            rw [h2] at h
            obtain ⟨m, hm⟩ := textL_suffix n l p.1 p.2 (by omega) h2
            cases h
            exact ⟨m + 1, by simpa using hm⟩
theorem putL_rest {kind kind' n n' : Int} {x x' r r' : List UInt8} (h : putL kind x n r = .ok (kind', x', n', r')) : r = r' ∧ kind = kind' ∧ x = x' ∧ n = n' := by
  unfold putL at h
  split at h
  · cases h
  · cases h; exact ⟨rfl, rfl, rfl, rfl⟩
theorem dropWhile_suffix (p : UInt8 → Bool) (c : UInt8) (r : List UInt8) (h : p c = true) : ∃ m, (c :: r).dropWhile p = r.drop m := by
  rw [List.dropWhile_cons_of_pos h, ← drop_takeWhile]
  exact ⟨_, rfl⟩
theorem oneL_suffix {c : UInt8} {l : List UInt8} {k n : Int} {x r : List UInt8} (h : oneL (c :: l) = .ok (k, x, n, r)) : ∃ m, r = l.drop m := by
  unfold oneL at h
  simp only at h
  split at h
  · rename_i hc
    rw [← (putL_rest h).1]
    exact dropWhile_suffix insideB c l (by rcases hc with hc | hc <;> simp [insideB, hc])
  · split at h
    · rename_i hd
      split at h
      · cases h
      · rw [← (putL_rest h).1]
        exact dropWhile_suffix digitB c l hd
    · split at h
      · split at h
        · cases h
        · rename_i hx
          rw [← (putL_rest h).1]
          exact textL_suffix _ _ _ _ (Nat.le_refl _) hx
      · split at h
        · rename_i hs
          rw [← (putL_rest h).1]
          exact dropWhile_suffix symB c l hs
        · split at h
          · rw [← (putL_rest h).1]
            exact ⟨0, rfl⟩
          · cases h
theorem oneL_shorter {c : UInt8} {l : List UInt8} {k n : Int} {x r : List UInt8} (h : oneL (c :: l) = .ok (k, x, n, r)) : (skipC false r).length ≤ l.length := by
  obtain ⟨m, rfl⟩ := oneL_suffix h
  have := skipC_length false (l.drop m)
  rw [List.length_drop] at this
  omega
theorem scanL_two : ∀ (f g : Nat) (l : List UInt8), l.length < f → l.length < g → scanL f l = scanL g l
  | 0, _, l, h, _ => by omega
  | _ + 1, 0, l, _, h => by omega
  | f + 1, g + 1, [], _, _ => rfl
  | f + 1, g + 1, c :: l, h, h' => by
    simp only [scanL]
    cases h1 : oneL (c :: l) with
    | error e => rfl
    | ok q =>
      obtain ⟨k, x, n, r⟩ := q
      have hs := oneL_shorter h1
      simp only [List.length_cons] at h h'
      simp only
      rw [scanL_two f g _ (by omega) (by omega)]
theorem scanL_more (f : Nat) (l : List UInt8) (h : l.length < f) : scanL f l = scanL (l.length + 1) l := scanL_two _ _ _ h (by omega)

theorem scan_lift (s : ByteArray) : ∀ (f pos : Nat) (ts : List Tok), pos ≤ s.size → s.size - pos < f → scanF s f pos ts = liftScan s.size ts (scanL f (s.data.toList.drop pos))
  | 0, pos, ts, _, h => by omega
  | f + 1, pos, ts, hp, h => by
    have hl : s.data.toList.length = s.size := rfl
    by_cases hlt : pos < s.size
    · simp only [scanF, hlt, dif_pos]
      rw [one_lift s pos hlt, drop_at s pos hlt]
      simp only [scanL]
      cases h1 : oneL (s[pos] :: s.data.toList.drop (pos + 1)) with
      | error e =>
        simp only [liftOne, liftScan, List.length_cons, List.length_drop, hl]
        have : s.size - (s.size - (pos + 1) + 1) = pos := by omega
        rw [this]
      | ok q =>
        obtain ⟨k, x, n, r⟩ := q
        obtain ⟨m, hm⟩ := oneL_suffix h1
        rw [List.drop_drop] at hm
        have hr := drop_pos s r _ hm
        simp only [liftOne]
        have hrl : r.length ≤ s.size - (pos + 1) := by
          rw [hm, List.length_drop]; omega
        have hj : pos < s.size - r.length := by omega
        have hk := skipPos_ge s (s.size - r.length) (by omega)
        rw [scan_lift s f _ _ hk.2 (by omega), drop_skipPos, hr]
        cases scanL f (skipC false r) with
        | error e => rfl
        | ok l =>
          simp only [liftScan, List.map_cons, List.append_assoc, List.singleton_append, toTok, List.length_cons, List.length_drop, hl]
          have : s.size - (s.size - (pos + 1) + 1) = pos := by omega
          rw [this]
    · have e : s.data.toList.drop pos = [] := List.drop_eq_nil_of_le (by omega)
      simp only [scanF, hlt, dif_neg, not_false_eq_true, e, scanL, liftScan, List.map_cons, List.map_nil, toTok, endTok]
      rfl

/-- All tokens of a list. -/
def scanAll (l : List UInt8) : Except (Int × Nat) (List LTok) := scanL (l.length + 1) (skipC false l)
theorem scanAll_lift (s : ByteArray) : scanF s (s.size + 1) (skipPos s 0) [] = liftScan s.size [] (scanAll s.data.toList) := by
  have hk := skipPos_ge s 0 (Nat.zero_le _)
  rw [scan_lift s _ _ _ hk.2 (by omega), drop_skipPos]
  rfl
theorem scanAll_eq (l : List UInt8) (f : Nat) (h : (skipC false l).length < f) : scanL f (skipC false l) = scanAll l := by
  unfold scanAll
  rw [scanL_more f _ h, scanL_more (l.length + 1) _ (by have := skipC_length false l; omega)]

end Go.Proofs.YtnciccbgceomeaaDoor
