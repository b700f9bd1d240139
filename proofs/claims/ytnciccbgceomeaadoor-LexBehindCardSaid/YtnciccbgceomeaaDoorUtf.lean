/- The first byte that is no UTF-8, said of lists of bytes; of two sources, a line feed between. -/
import Derived.Test.YtnciccbgceomeaaDoorSpoil
namespace Go.Proofs.YtnciccbgceomeaaDoor
open Go.RowKit

def byteN (l : List UInt8) (k : Nat) : Nat := (l.getD k 0).toNat
def decL (l : List UInt8) : Nat × Nat := Lib.decodeN l.length (byteN l 0) (byteN l 1) (byteN l 2) (byteN l 3)
def badL (l : List UInt8) : Bool := ((decL l).1 : Int) == 65533 && !Lib.hasPrefix l [239, 191, 189]
/-- How many bytes are left where the first byte stands that is no UTF-8. -/
def spoilL : Nat → List UInt8 → Option Nat
  | 0, _ => none
  | f + 1, l => if l = [] then none else if badL l = true then some l.length else spoilL f (l.drop (decL l).2)

theorem get_byte (s : ByteArray) (i k : Nat) : (s.get! (i + k)).toNat = byteN (s.data.toList.drop i) k := by
  unfold byteN
  have : s.get! (i + k) = (s.data.toList.drop i).getD k 0 := by
    rw [List.getD_eq_getElem?_getD, List.getElem?_drop, Array.getElem?_toList]
    by_cases h : i + k < s.data.size
    · rw [show s.get! (i + k) = s.data[i + k]! from rfl, getElem!_pos s.data (i + k) h, Array.getElem?_eq_getElem h]
      rfl
    · rw [show s.get! (i + k) = s.data[i + k]! from rfl, getElem!_neg s.data (i + k) h, Array.getElem?_eq_none (by omega)]
      rfl
  rw [this]
theorem dec_lift (s : ByteArray) (i : Nat) : Utf8.decode s i = decL (s.data.toList.drop i) := by
  rw [Lib.decode_at]
  unfold decL
  have h0 := get_byte s i 0
  rw [Nat.add_zero] at h0
  rw [h0, get_byte s i 1, get_byte s i 2, get_byte s i 3, List.length_drop]
  rfl
theorem bad_lift (s : ByteArray) (i : Nat) : badAt s i = badL (s.data.toList.drop i) := by
  unfold badAt badL
  have hl : s.data.toList.length = s.size := rfl
  rw [dec_lift, Lib.extract_data, List.take_of_length_le (by rw [List.length_drop]; omega)]
theorem spoil_lift (s : ByteArray) : ∀ (f pos : Nat), spoilF s f pos = match spoilL f (s.data.toList.drop pos) with | none => -1 | some m => ((s.size - m : Nat) : Int)
  | 0, pos => rfl
  | f + 1, pos => by
    have hl : s.data.toList.length = s.size := rfl
    by_cases h : pos < s.size
    · have hne : s.data.toList.drop pos ≠ [] := by rw [drop_at s pos h]; simp
      simp only [spoilF, spoilL, h, if_true, hne, if_false, bad_lift]
      by_cases hb : badL (s.data.toList.drop pos) = true
      · simp only [hb, if_true, List.length_drop, hl]
        have : s.size - (s.size - pos) = pos := by omega
        rw [this]
      · simp only [hb, if_false, List.drop_drop, dec_lift, Bool.false_eq_true]
        exact spoil_lift s f _
    · have he : s.data.toList.drop pos = [] := List.drop_eq_nil_of_le (by omega)
      simp [spoilF, spoilL, h, he]

theorem decL_width (c : UInt8) (r : List UInt8) : 1 ≤ (decL (c :: r)).2 ∧ (decL (c :: r)).2 ≤ (c :: r).length := by
  unfold decL Lib.decodeN
  simp only [List.length_cons]
  repeat' split
  all_goals simp only
  all_goals omega
theorem decL_sep (b : List UInt8) (c : UInt8) (r : List UInt8) : decL (c :: r ++ 10 :: b) = decL (c :: r) := by
  match r with
  | [] => simp [decL, byteN, Lib.decodeN]
  | [c1] => simp [decL, byteN, Lib.decodeN]
  | [c1, c2] => simp [decL, byteN, Lib.decodeN]
  | c1 :: c2 :: c3 :: r => simp [decL, byteN, Lib.decodeN]
theorem badL_sep (b : List UInt8) (c : UInt8) (r : List UInt8) : badL (c :: r ++ 10 :: b) = badL (c :: r) := by
  unfold badL
  rw [decL_sep]
  congr 2
  match r with
  | [] => simp [Lib.hasPrefix, List.isPrefixOf]
  | [c1] => simp [Lib.hasPrefix, List.isPrefixOf]
  | c1 :: c2 :: r => simp [Lib.hasPrefix, List.isPrefixOf]

theorem spoilL_two : ∀ (f g : Nat) (l : List UInt8), l.length < f → l.length < g → spoilL f l = spoilL g l
  | 0, _, l, h, _ => by omega
  | _ + 1, 0, l, _, h => by omega
  | f + 1, g + 1, [], _, _ => rfl
  | f + 1, g + 1, c :: l, h, h' => by
    have hw := decL_width c l
    simp only [List.length_cons] at h h' hw
    simp only [spoilL]
    rw [spoilL_two f g _ (by rw [List.length_drop, List.length_cons]; omega) (by rw [List.length_drop, List.length_cons]; omega)]
def spoilAll (l : List UInt8) : Option Nat := spoilL (l.length + 1) l
theorem spoilP_lift (s : ByteArray) : spoilP s = match spoilAll s.data.toList with | none => -1 | some m => ((s.size - m : Nat) : Int) := spoil_lift s (s.size + 1) 0

theorem spoilAll_cons (c : UInt8) (r : List UInt8) : spoilAll (c :: r) = if badL (c :: r) = true then some (c :: r).length else spoilAll ((c :: r).drop (decL (c :: r)).2) := by
  have hw := decL_width c r
  have : spoilAll (c :: r) = if badL (c :: r) = true then some (c :: r).length else spoilL (c :: r).length ((c :: r).drop (decL (c :: r)).2) := by
    unfold spoilAll
    simp [spoilL]
  rw [this]
  unfold spoilAll
  rw [spoilL_two _ (((c :: r).drop (decL (c :: r)).2).length + 1) _ (by rw [List.length_drop]; simp only [List.length_cons] at *; omega) (by omega)]

theorem spoil_sep (b : List UInt8) : ∀ (n : Nat) (u : List UInt8), u.length ≤ n → spoilAll (u ++ 10 :: b) = match spoilAll u with | some m => some (m + (b.length + 1)) | none => spoilAll b
  | n, [], hn => by
    have h1 : badL (10 :: b) = false := by simp [badL, decL, Lib.decodeN, byteN]
    have h2 : (decL (10 :: b)).2 = 1 := by simp [decL, Lib.decodeN, byteN]
    have h3 : spoilAll [] = none := rfl
    rw [List.nil_append, spoilAll_cons, h1, h2, h3]
    rfl
  | 0, c :: r, hn => by simp at hn
  | n + 1, c :: r, hn => by
    have hw := decL_width c r
    rw [List.cons_append, spoilAll_cons, spoilAll_cons, ← List.cons_append, badL_sep, decL_sep]
    by_cases hb : badL (c :: r) = true
    · simp only [hb, if_true, List.length_append, List.length_cons]
    · simp only [hb, if_false, Bool.false_eq_true]
      rw [List.drop_append_of_le_length hw.2]
      exact spoil_sep b n _ (by rw [List.length_drop]; simp only [List.length_cons] at *; omega)
theorem spoilL_le : ∀ (f : Nat) (l : List UInt8) (m : Nat), spoilL f l = some m → m ≤ l.length
  | 0, l, m, h => by cases h
  | f + 1, l, m, h => by
    simp only [spoilL] at h
    split at h
    · cases h
    · split at h
      · cases h; exact Nat.le_refl _
      · have := spoilL_le f _ m h
        rw [List.length_drop] at this
        omega

end Go.Proofs.YtnciccbgceomeaaDoor
