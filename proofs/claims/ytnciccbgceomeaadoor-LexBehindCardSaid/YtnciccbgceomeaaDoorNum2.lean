/- What 'Parse' does at a text of digits; what 'number' does. -/
import Derived.Test.YtnciccbgceomeaaDoorNum
namespace Go.Proofs.YtnciccbgceomeaaDoor
open Go.RowKit

def half : Int := 4611686018427387904
/-- The number that digits tell, as the code reads them. -/
def parseD (l : List UInt8) : Option Int := if (foldD l).2 = true ∨ (foldD l).1 = 4611686018427387904 then none else some (foldD l).1

theorem foldD_small (l : List UInt8) (h : (foldD l).2 = false) : (foldD l).1 ≤ 4611686018427387904 := by
  unfold foldD at *
  have : ∀ (l : List UInt8) (a : Int × Bool), (a.2 = false → a.1 ≤ 4611686018427387904) → (l.foldl stepD a).2 = false → (l.foldl stepD a).1 ≤ 4611686018427387904 := by
    intro l
    induction l with
    | nil => intro a h; exact h
    | cons c r ih =>
      intro a h
      apply ih
      unfold stepD
      split
      · exact h
      · intro h1
        simpa using h1
  exact this l (0, false) (by simp) h

set_option maxHeartbeats 1000000 in
theorem parse_yes (s : ByteArray) (w : World) (n : Int) (h0 : 0 < s.size) (hs : s.size ≤ 1000000) (hz : s.size = 1 ∨ ((s[0].toNat : Int) == 48) = false) (hd : allB digitB s = true) (hp : parseD s.data.toList = some n) :
    Calls Tryd.prog 55 #[.string s] w fun e w' => e = .returned (.tuple #[.int .i64 n, .int .i64 0]) ∧ w = w' := by
  have hd0 := all_at hd 0 h0
  have hneg : ((s[0].toNat : Int) == 45) = false := by
    simp [digitB] at hd0
    simp; omega
  have hlen : decide ((0 : Int) < (s.size : Int)) = true := by simp; omega
  have hbd := foldD_bd s.data.toList
  have hsm := foldD_small s.data.toList
  have HD := Lib.hid (digits_any s w h0 hs hz hd)
  clear hd0 hz hd
  unfold parseD at hp
  generalize foldD s.data.toList = a at *
  obtain ⟨m, g⟩ := a
  cases g with
  | true => simp at hp
  | false =>
    by_cases hm : m = 4611686018427387904
    · simp [hm] at hp
    · obtain rfl : m = n := by simpa [hm] using hp
      have hm' : (m == 4611686018427387904) = false := by simp [hm]
      have hlt : m < 4611686018427387904 := by have := hsm rfl; simp only at this; omega
      obtain ⟨hb0, hb1⟩ := hbd
      simp only at hb0 hb1
      clear hp hm hsm hb1
      go_enter Tryd.func55, Tryd.ntmps55
      go_wp2_with (go_at_call 65; refine HD.out.mono ?_; rintro e w' ⟨rfl, rfl⟩)
      go_ret2
      exact ⟨rfl, rfl⟩

set_option maxHeartbeats 1000000 in
theorem parse_no (s : ByteArray) (w : World) (h0 : 0 < s.size) (hs : s.size ≤ 1000000) (hz : s.size = 1 ∨ ((s[0].toNat : Int) == 48) = false) (hd : allB digitB s = true) (hp : parseD s.data.toList = none) :
    Calls Tryd.prog 55 #[.string s] w fun e w' => e = .returned (.tuple #[.int .i64 0, .int .i64 3]) ∧ w = w' := by
  have hd0 := all_at hd 0 h0
  have hneg : ((s[0].toNat : Int) == 45) = false := by
    simp [digitB] at hd0
    simp; omega
  have hlen : decide ((0 : Int) < (s.size : Int)) = true := by simp; omega
  have HD := Lib.hid (digits_any s w h0 hs hz hd)
  clear hd0 hz hd
  unfold parseD at hp
  generalize foldD s.data.toList = a at *
  obtain ⟨m, g⟩ := a
  have hcase : g = true ∨ (g = false ∧ (m == 4611686018427387904) = true) := by
    cases g
    · right; simpa using hp
    · left; rfl
  clear hp
  rcases hcase with rfl | ⟨rfl, hm⟩
  all_goals
    go_enter Tryd.func55, Tryd.ntmps55
    go_wp2_with (go_at_call 65; refine HD.out.mono ?_; rintro e w' ⟨rfl, rfl⟩)
    go_ret2
    exact ⟨rfl, rfl⟩

/-- A number's digits, no nought ahead. -/
def numText (l : List UInt8) : List UInt8 := if Lib.trimLeftB l 48 = [] then [48] else Lib.trimLeftB l 48
def numOf (l : List UInt8) (k j : Nat) : Except Int (Tok × Nat) :=
  match parseD l with
  | none => .error 102
  | some n => putR 3 (textOf l) n k j
def numR (s : ByteArray) (k : Nat) : Except Int (Tok × Nat) := numOf (numText ((s.data.toList.drop k).takeWhile digitB)) k (adv digitB s k)

theorem numText_all (l : List UInt8) (h : l.all digitB = true) : (numText l).all digitB = true := by
  unfold numText
  split
  · decide
  · rw [List.all_eq_true] at *
    intro x hx
    exact h x ((List.dropWhile_sublist _).mem hx)
theorem numText_ne (l : List UInt8) : numText l ≠ [] := by
  unfold numText
  split
  · simp
  · assumption
theorem numText_head (l : List UInt8) (c : UInt8) (r : List UInt8) (h : numText l = c :: r) : r = [] ∨ c ≠ 48 := by
  unfold numText at h
  split at h
  · simp at h; exact .inl h.2
  · right
    unfold Lib.trimLeftB at h
    intro e
    subst e
    have : ∀ l : List UInt8, ∀ r, l.dropWhile (· == 48) = 48 :: r → False := by
      intro l
      induction l with
      | nil => intro r h; simp at h
      | cons x y ih =>
        intro r h
        by_cases hx : x = 48
        · rw [List.dropWhile_cons_of_pos (by simp [hx])] at h; exact ih r h
        · rw [List.dropWhile_cons_of_neg (by simp [hx])] at h
          cases h; exact hx rfl
    exact this _ _ h
theorem numText_len (l : List UInt8) : (numText l).length ≤ l.length + 1 := by
  unfold numText
  split
  · simp
  · have := (List.dropWhile_sublist (· == (48 : UInt8)) (l := l)).length_le
    unfold Lib.trimLeftB
    omega

theorem textOf_size (l : List UInt8) : (textOf l).size = l.length := by simp [textOf, ByteArray.size]
theorem textOf_all (p : UInt8 → Bool) (l : List UInt8) : allB p (textOf l) = l.all p := by simp [textOf, allB]
theorem textOf_data (l : List UInt8) : (textOf l).data.toList = l := rfl
theorem textOf_toList (l : List UInt8) : (textOf l).toList = l := by rw [ByteArray.toList_eq]; rfl

theorem mem_tw (p : UInt8 → Bool) : ∀ (l : List UInt8) (x : UInt8), x ∈ l.takeWhile p → p x = true
  | [], x, h => by simp at h
  | c :: r, x, h => by
    by_cases hc : p c = true
    · rw [List.takeWhile_cons_of_pos hc] at h
      rcases List.mem_cons.1 h with rfl | h
      · exact hc
      · exact mem_tw p r x h
    · rw [List.takeWhile_cons_of_neg hc] at h
      cases h
theorem numText_empty {l : List UInt8} (h : (Lib.trimLeftB l 48).isEmpty = true) : (ByteArray.mk #[48]) = textOf (numText l) := by
  have : Lib.trimLeftB l 48 = [] := by simpa using h
  unfold numText
  rw [if_pos this]
  rfl
theorem numText_full {l : List UInt8} (h : (Lib.trimLeftB l 48).isEmpty = false) : (ByteArray.mk (Lib.trimLeftB l 48).toArray) = textOf (numText l) := by
  have : ¬ Lib.trimLeftB l 48 = [] := by simpa using h
  unfold numText
  rw [if_neg this]
  rfl

set_option maxHeartbeats 1000000 in
theorem number_any (b k : Nat) (s : ByteArray) (ts : List Tok) (w : World) (hsc : Sc w b s k ts) (hk : k < s.size) (hs : s.size ≤ 100000) (hts : ts.length ≤ 1000000) :
    Calls Tryd.prog 44 #[.pointer (some ⟨b, 0, none⟩)] w (Got w b s ts (numR s k)) := by
  obtain ⟨v, hb, ho⟩ := hsc
  have c1 := hb.c1
  go_enter Tryd.func44, Tryd.ntmps44
  go_wp2_with fail
  refine (more_any 43 digitB digit_fn b k s v _ hb (by omega) (by omega)).mono ?_
  rintro e w1 ⟨rfl, hb1, hg1⟩
  have hsc1 := Sc.moved ho hb1 hg1
  have hbl := below_of_grown hg1 (Nat.le_of_lt hb.lt)
  have hle := adv_le digitB s k (by omega)
  have hsz := size_extract s k (adv digitB s k) hle
  have htx := adv_text digitB s k
  have hall : ((s.data.toList.drop k).takeWhile digitB).all digitB = true := by
    rw [List.all_eq_true]
    intro x hx
    exact mem_tw _ _ _ hx
  have hlen : (numText ((s.data.toList.drop k).takeWhile digitB)).length ≤ 1000000 := by
    have h1 := numText_len ((s.data.toList.drop k).takeWhile digitB)
    have h2 : ((s.data.toList.drop k).takeWhile digitB).length ≤ s.size := by
      have := (List.takeWhile_sublist digitB (l := s.data.toList.drop k)).length_le
      have hl : s.data.toList.length = s.size := rfl
      rw [List.length_drop] at this
      omega
    omega
  have HR : Hid (numR s k = numOf (numText ((s.data.toList.drop k).takeWhile digitB)) k (adv digitB s k)) := rfl
  rw [← htx] at hall hlen HR
  clear hsz hb1 hg1 ho hb c1 htx
  generalize s.extract k (adv digitB s k) = x at *
  generalize adv digitB s k = j at *
  go_wp2_with fail
  refine (Tryd.strings_TrimLeft_one _ 48 (by decide) _).mono ?_
  rintro e w' ⟨rfl, rfl⟩
  go_wp2_with fail
  all_goals
    first | rw [numText_empty (by assumption)] | rw [numText_full (by assumption)]
    have hA := numText_all _ hall
    have hN := numText_ne x.data.toList
    have hH := numText_head x.data.toList
    generalize numText x.data.toList = y at *
    have h0 : 0 < (textOf y).size := by rw [textOf_size]; cases y with | nil => exact absurd rfl hN | cons _ _ => simp
    have hz : (textOf y).size = 1 ∨ (((textOf y)[0].toNat : Int) == 48) = false := by
      cases y with
      | nil => exact absurd rfl hN
      | cons c r =>
        rcases hH c r rfl with rfl | h
        · left; rfl
        · right
          show ((c.toNat : Int) == 48) = false
          simp
          intro e
          exact h (UInt8.toNat_inj.1 (by have h48 : (48 : UInt8).toNat = 48 := rfl; omega))
    have hd : allB digitB (textOf y) = true := by rw [textOf_all]; exact hA
    have hsz : (textOf y).size ≤ 1000000 := by rw [textOf_size]; exact hlen
    clear hall hA hN hH hlen
    cases hp : parseD y with
    | none =>
      refine (parse_no (textOf y) _ h0 hsz hz hd hp).mono ?_
      rintro e w2 ⟨rfl, rfl⟩
      have HP := Lib.hid hp
      clear hp hz hd
      go_wp2_with fail
      go_ret
      rw [HR.out]
      unfold numOf
      rw [HP.out]
      exact ⟨rfl, hbl⟩
    | some n =>
      refine (parse_yes (textOf y) _ n h0 hsz hz hd hp).mono ?_
      rintro e w2 ⟨rfl, rfl⟩
      have HP := Lib.hid hp
      clear hp hz hd
      go_wp2_with fail
      refine (put_got b s j ts _ _ _ k _ hsc1 hts).mono ?_
      rintro e w3 hgot
      obtain ⟨c, rfl⟩ := hgot.is
      have HGOT := Lib.hid hgot
      clear hgot
      go_wp2_with fail
      go_ret
      rw [HR.out]
      unfold numOf
      rw [HP.out]
      exact Got.after hbl HGOT.out

end Go.Proofs.YtnciccbgceomeaaDoor
