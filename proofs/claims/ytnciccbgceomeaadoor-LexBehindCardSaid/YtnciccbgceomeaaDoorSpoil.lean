/- What 'spoiled' does: the first byte that is no UTF-8, or -1. -/
import Derived.Test.YtnciccbgceomeaaDoorOne
import Derived.Lib.DecodeN
import Derived.Lib.RuneCount
namespace Go.Proofs.YtnciccbgceomeaaDoor
open Go.RowKit

/-- A byte that is no UTF-8 stands at a place. -/
def badAt (s : ByteArray) (pos : Nat) : Bool := ((Utf8.decode s pos).1 : Int) == 65533 && !Lib.hasPrefix (s.extract pos s.size).data.toList [239, 191, 189]
def spoilF (s : ByteArray) : Nat → Nat → Int
  | 0, _ => -1
  | f + 1, pos => if pos < s.size then (if badAt s pos = true then (pos : Int) else spoilF s f (pos + (Utf8.decode s pos).2)) else -1
def spoilP (s : ByteArray) : Int := spoilF s (s.size + 1) 0

theorem spoilF_more (s : ByteArray) : ∀ (f pos : Nat), s.size - pos < f → spoilF s f pos = spoilF s (s.size - pos + 1) pos
  | 0, pos, h => by omega
  | f + 1, pos, h => by
    by_cases hp : pos < s.size
    · simp only [spoilF, hp, if_true]
      cases hb : badAt s pos
      · simp only [Bool.false_eq_true, if_false]
        have hw := Lib.decode_width_pos s pos hp
        rw [spoilF_more s f _ (by omega), spoilF_more s (s.size - pos) (pos + (Utf8.decode s pos).2) (by omega)]
      · simp
    · simp [spoilF, hp]
theorem spoil_go {s : ByteArray} {pos : Nat} (hp : pos < s.size) (hb : badAt s pos = false) (h : spoilP s = spoilF s (s.size - pos + 1) pos) :
    spoilP s = spoilF s (s.size - (pos + (Utf8.decode s pos).2) + 1) (pos + (Utf8.decode s pos).2) := by
  rw [h]
  have hw := Lib.decode_width_pos s pos hp
  conv => lhs; unfold spoilF
  simp only [hp, if_true, hb, Bool.false_eq_true, if_false]
  exact spoilF_more s _ _ (by omega)
theorem spoil_here {s : ByteArray} {pos : Nat} (hp : pos < s.size) (hb : badAt s pos = true) (h : spoilP s = spoilF s (s.size - pos + 1) pos) : spoilP s = pos := by
  rw [h]
  simp [spoilF, hp, hb]
theorem spoil_end {s : ByteArray} {pos : Nat} (hp : ¬ pos < s.size) (h : spoilP s = spoilF s (s.size - pos + 1) pos) : spoilP s = -1 := by
  rw [h]
  simp [spoilF, hp]

set_option maxHeartbeats 1000000 in
theorem spoiled_any (s : ByteArray) (w : World) (hs : s.size ≤ 1000000) :
    Calls Tryd.prog 21 #[.string s] w fun e w' => e = .returned (.int .i64 (spoilP s)) ∧ Below w.heap.size w w' := by
  go_enter Tryd.func21, Tryd.ntmps21
  go_wp2_with fail
  go_loopg [2] (s.size) (fun g o wr => ∃ pos : Nat, o = .int .i64 0 ∧ wr = w.iter s pos ∧ s.size - pos ≤ g ∧ spoilP s = spoilF s (s.size - pos + 1) pos)
  case atStart => exact ⟨0, rfl, rfl, by omega, rfl⟩
  case round =>
    obtain ⟨pos, rfl, hwr, hg, hsp⟩ := hrel
    have HW := Lib.hid hwr
    have HS := Lib.hid hsp
    clear hwr hsp
    have hbl : Below w.heap.size w (w.iter s pos) := (Below.refl _ _).alloc (Nat.le_refl _) _
    by_cases hp : pos < s.size
    · have hnx := run_next_any (P := Tryd.prog) w s pos 0 hp
      have hw1 := Lib.decode_width_pos s pos hp
      have hrw := HW.out
      rw [hrw]
      clear hrw
      have hlt : pos < pos + (Utf8.decode s pos).2 := by omega
      cases hd : (((Utf8.decode s pos).1 : Int) == 65533)
      · have HB := Lib.hid (spoil_go hp (by simp [badAt, hd]) HS.out)
        go_wp2_with fail
        go_roundg (s.size - (pos + (Utf8.decode s pos).2))
        case measure => omega
        case rel => exact ⟨pos + (Utf8.decode s pos).2, rfl, rfl, Nat.le_refl _, HB.out⟩
      · cases hh : Lib.hasPrefix (s.extract pos s.size).data.toList [239, 191, 189]
        · have HB := Lib.hid (spoil_here hp (by unfold badAt; rw [hd, hh]; rfl) HS.out)
          have HH := Lib.hid hh
          clear hh
          go_wp2_with fail
          refine (Tryd.strings_HasPrefix _ _ _).mono ?_
          rintro e w' ⟨rfl, rfl⟩
          rw [HH.out]
          go_wp2_with fail
          go_ret
          rw [HB.out]
          exact ⟨rfl, (Below.refl _ _).alloc (Nat.le_refl _) _⟩
        · have HB := Lib.hid (spoil_go hp (by unfold badAt; rw [hd, hh]; rfl) HS.out)
          have HH := Lib.hid hh
          clear hh
          go_wp2_with fail
          refine (Tryd.strings_HasPrefix _ _ _).mono ?_
          rintro e w' ⟨rfl, rfl⟩
          rw [HH.out]
          go_wp2_with fail
          go_roundg (s.size - (pos + (Utf8.decode s pos).2))
          case measure => omega
          case rel => exact ⟨pos + (Utf8.decode s pos).2, rfl, rfl, Nat.le_refl _, HB.out⟩
    · have hnx := run_next_end (P := Tryd.prog) w s pos 0 hp
      have HB := Lib.hid (spoil_end hp HS.out)
      have hrw := HW.out
      rw [hrw]
      clear hrw
      go_wp2_with fail
      go_ret
      rw [HB.out]
      exact ⟨rfl, (Below.refl _ _).alloc (Nat.le_refl _) _⟩

end Go.Proofs.YtnciccbgceomeaaDoor
