/- What 'word' does: it puts a name, a key word, or the mark _. -/
import Derived.Test.YtnciccbgceomeaaDoorPut
namespace Go.Proofs.YtnciccbgceomeaaDoor
open Go.RowKit

/-- What comes of a token: it is put, and the scanner stands behind it; or an error's number is returned. -/
def Got (w : World) (b : Nat) (s : ByteArray) (ts : List Tok) (r : Except Int (Tok × Nat)) (e : Ending) (w' : World) : Prop :=
  match r with
  | .ok (t, j) => e = .returned (.int .i64 0) ∧ Sc w' b s j (ts ++ [t]) ∧ Below b w w'
  | .error c => e = .returned (.int .i64 c) ∧ Below b w w'

theorem Got.after {w w1 : World} {b : Nat} {s : ByteArray} {ts : List Tok} {r : Except Int (Tok × Nat)} {e : Ending} {w' : World} (hb : Below b w w1) (h : Got w1 b s ts r e w') : Got w b s ts r e w' := by
  unfold Got at *
  split at h
  · exact ⟨h.1, h.2.1, hb.trans h.2.2⟩
  · exact ⟨h.1, hb.trans h.2⟩
theorem Got.is {w : World} {b : Nat} {s : ByteArray} {ts : List Tok} {r : Except Int (Tok × Nat)} {e : Ending} {w' : World} (h : Got w b s ts r e w') : ∃ c, e = .returned (.int .i64 c) := by
  unfold Got at h
  split at h
  · exact ⟨_, h.1⟩
  · exact ⟨_, h.1⟩

def putR (kind : Int) (x : ByteArray) (n : Int) (at_ : Nat) (k : Nat) : Except Int (Tok × Nat) :=
  if kind ≠ 3 ∧ kind ≠ 4 ∧ 40 < (x.size : Int) then .error 104 else .ok (⟨kind, x, n, at_⟩, k)

theorem put_got (b : Nat) (s : ByteArray) (k : Nat) (ts : List Tok) (kind n : Int) (x : ByteArray) (at_ : Nat) (w : World) (hsc : Sc w b s k ts) (hts : ts.length ≤ 1000000) :
    Calls Tryd.prog 24 #[.pointer (some ⟨b, 0, none⟩), .int .i64 kind, .string x, .int .i64 n, .int .i64 (at_ : Int)] w (Got w b s ts (putR kind x n at_ k)) := by
  by_cases h : kind ≠ 3 ∧ kind ≠ 4 ∧ 40 < (x.size : Int)
  · refine (put_long b kind n x at_ w h.1 h.2.1 h.2.2).mono ?_
    rintro e w' ⟨rfl, rfl⟩
    unfold Got putR
    rw [if_pos h]
    exact ⟨rfl, Below.refl _ _⟩
  · refine (put_any b s k ts kind n x at_ w hsc hts (by omega)).mono ?_
    rintro e w' ⟨rfl, h1, h2⟩
    unfold Got putR
    rw [if_neg h]
    exact ⟨rfl, h1, h2⟩

def kindW (x : ByteArray) : Int := if keyB x = true then 6 else if (x.toList == [95]) = true then 7 else if headB upB x = true then 2 else 1
def wordR (s : ByteArray) (k : Nat) : Except Int (Tok × Nat) := putR (kindW (s.extract k (adv insideB s k))) (s.extract k (adv insideB s k)) 0 k (adv insideB s k)

theorem size_extract (s : ByteArray) (k j : Nat) (hj : j ≤ s.size) : (s.extract k j).size = j - k := by
  simp [ByteArray.size_extract]; omega

set_option maxHeartbeats 1000000 in
theorem word_any (b k : Nat) (s : ByteArray) (ts : List Tok) (w : World) (hsc : Sc w b s k ts) (hk : k < s.size) (hs : s.size ≤ 1000000) (hts : ts.length ≤ 1000000) (hin : insideB s[k] = true) :
    Calls Tryd.prog 42 #[.pointer (some ⟨b, 0, none⟩)] w (Got w b s ts (wordR s k)) := by
  obtain ⟨v, hb, ho⟩ := hsc
  have c1 := hb.c1
  go_enter Tryd.func42, Tryd.ntmps42
  go_wp2_with fail
  refine (more_any 27 insideB inside_fn b k s v _ hb (by omega) hs).mono ?_
  rintro e w1 ⟨rfl, hb1, hg1⟩
  have hsc1 := Sc.moved ho hb1 hg1
  have hbl := below_of_grown hg1 (Nat.le_of_lt hb.lt)
  have hlt : k < adv insideB s k := by
    unfold adv
    rw [drop_at s k hk]
    simp [hin]
  have hle := adv_le insideB s k (by omega)
  have HR : Hid (wordR s k = putR (kindW (s.extract k (adv insideB s k))) (s.extract k (adv insideB s k)) 0 k (adv insideB s k)) := rfl
  have hsz := size_extract s k (adv insideB s k) hle
  have hx0 : 0 < (s.extract k (adv insideB s k)).size := by omega
  clear hsz hb1 hg1 ho hb c1
  generalize s.extract k (adv insideB s k) = x at *
  generalize adv insideB s k = j at *
  have HH := Lib.hid (headB_at upB x hx0)
  have hkind : (keyB x = true ∧ kindW x = 6) ∨ (keyB x = false ∧ (x.toList == [95]) = true ∧ kindW x = 7) ∨ (keyB x = false ∧ (x.toList == [95]) = false ∧ upB x[0] = true ∧ kindW x = 2) ∨ (keyB x = false ∧ (x.toList == [95]) = false ∧ upB x[0] = false ∧ kindW x = 1) := by
    unfold kindW
    rw [HH.out]
    cases keyB x <;> cases (x.toList == [95]) <;> cases upB x[0] <;> simp
  clear HH
  rcases hkind with ⟨h1, h4⟩ | ⟨h1, h2, h4⟩ | ⟨h1, h2, h3, h4⟩ | ⟨h1, h2, h3, h4⟩
  all_goals
    have HK := Lib.hid h4
    clear h4
    go_wp2_with (first | (go_at_call 10; refine (key_any _ _).mono ?_; rintro e w' ⟨rfl, rfl⟩) | (go_at_call 31; refine (up_any _ _).mono ?_; rintro e w' ⟨rfl, rfl⟩))
    refine (put_got b s j ts _ _ x k _ hsc1 hts).mono ?_
    rintro e w2 hgot
    obtain ⟨c, rfl⟩ := hgot.is
    have HGOT := Lib.hid hgot
    clear hgot
    go_wp2_with fail
    go_ret
    rw [HR.out, HK.out]
    exact Got.after hbl HGOT.out

end Go.Proofs.YtnciccbgceomeaaDoor
