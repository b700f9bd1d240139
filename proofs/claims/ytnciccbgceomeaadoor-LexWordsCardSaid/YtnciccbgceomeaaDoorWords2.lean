/- The reference's IsLow, IsUp, IsOp: the same as the code's, for every text. -/
import Derived.Test.YtnciccbgceomeaaDoorWords
namespace Go.Proofs.YtnciccbgceomeaaDoor
open Go.RowKit

theorem empty_iff (s : ByteArray) : s.toList = [] ↔ ¬ 0 < s.size := by
  rw [ByteArray.toList_eq]
  obtain ⟨⟨l⟩⟩ := s
  cases l <;> simp [ByteArray.size]

theorem anl_empty {p : UInt8 → Bool} {s : ByteArray} (h : s.toList = []) : allNotLong p s = false := by simp [allNotLong, h]
theorem anl_long {p : UInt8 → Bool} {s : ByteArray} (h : decide ((s.size : Int) ≤ 40) = false) : allNotLong p s = false := by simp [allNotLong, h]
theorem anl_all {p : UInt8 → Bool} {s : ByteArray} (h0 : ¬ s.toList = []) (h : decide ((s.size : Int) ≤ 40) = true) : allNotLong p s = allB p s := by simp [allNotLong, h0, h]

set_option maxHeartbeats 800000 in
theorem risLow_any (s : ByteArray) (w : World) (hs : s.size ≤ maxLen) :
    Calls Tryd.prog 15 #[.string s] w fun e w' => e = .returned (.bool (isLowB s)) ∧ Below w.heap.size w w' := by
  by_cases h0 : s.toList = []
  · have HS := Lib.hid (anl_empty (p := insideB) h0)
    go_enter Tryd.func15, Tryd.ntmps15
    go_wp2_with fail
    go_ret
    exact ⟨ret_bool (by simp [isLowB, HS.out]), Below.refl _ _⟩
  have hz : 0 < s.size := Decidable.not_not.1 fun h => h0 ((empty_iff s).2 h)
  cases hl : decide ((s.size : Int) ≤ 40)
  · have HS := Lib.hid (anl_long (p := insideB) hl)
    have hl' : 40 < (s.size : Int) := by simpa using hl
    go_enter Tryd.func15, Tryd.ntmps15
    go_wp2_with fail
    go_ret
    exact ⟨ret_bool (by simp [isLowB, HS.out]), Below.refl _ _⟩
  have HA := Lib.hid (anl_all (p := insideB) h0 hl)
  have hl' : (s.size : Int) ≤ 40 := by simpa using hl
  clear hl
  have HH := Lib.hid (headB_at lowB s hz)
  cases h1 : lowB s[0] <;> cases h2 : allB insideB s <;> cases h3 : keyB s <;> cases h4 : (s.toList == [95])
  all_goals
    go_enter Tryd.func15, Tryd.ntmps15
    go_wp2_with (first | (go_at_call 29; refine (small_any _ _).mono ?_; rintro e w' ⟨rfl, rfl⟩) | (go_at_call 30; refine (names_any _ _ hs).mono ?_; rintro e w' ⟨rfl, rfl⟩) | (go_at_call 11; refine (rkey_any _ _).mono ?_; rintro e w' ⟨rfl, hb⟩))
    go_ret
    refine ⟨ret_bool (by simp [isLowB, HA.out, HH.out, h0, h1, h2, h3, h4]), ?_⟩
    first | exact Below.refl _ _ | assumption

set_option maxHeartbeats 800000 in
theorem risUp_any (s : ByteArray) (w : World) (hs : s.size ≤ maxLen) :
    Calls Tryd.prog 17 #[.string s] w fun e w' => e = .returned (.bool (isUpB s)) ∧ Below w.heap.size w w' := by
  by_cases h0 : s.toList = []
  · have HS := Lib.hid (anl_empty (p := insideB) h0)
    go_enter Tryd.func17, Tryd.ntmps17
    go_wp2_with fail
    go_ret
    exact ⟨ret_bool (by simp [isUpB, HS.out]), Below.refl _ _⟩
  have hz : 0 < s.size := Decidable.not_not.1 fun h => h0 ((empty_iff s).2 h)
  cases hl : decide ((s.size : Int) ≤ 40)
  · have HS := Lib.hid (anl_long (p := insideB) hl)
    have hl' : 40 < (s.size : Int) := by simpa using hl
    go_enter Tryd.func17, Tryd.ntmps17
    go_wp2_with fail
    go_ret
    exact ⟨ret_bool (by simp [isUpB, HS.out]), Below.refl _ _⟩
  have HA := Lib.hid (anl_all (p := insideB) h0 hl)
  have hl' : (s.size : Int) ≤ 40 := by simpa using hl
  clear hl
  have HH := Lib.hid (headB_at upB s hz)
  cases h1 : upB s[0] <;> cases h2 : allB insideB s
  all_goals
    go_enter Tryd.func17, Tryd.ntmps17
    go_wp2_with (first | (go_at_call 32; refine (great_any _ _).mono ?_; rintro e w' ⟨rfl, rfl⟩) | (go_at_call 30; refine (names_any _ _ hs).mono ?_; rintro e w' ⟨rfl, rfl⟩))
    go_ret
    exact ⟨ret_bool (by simp [isUpB, HA.out, HH.out, h0, h1, h2]), Below.refl _ _⟩

set_option maxHeartbeats 800000 in
theorem risOp_any (s : ByteArray) (w : World) (hs : s.size ≤ maxLen) :
    Calls Tryd.prog 19 #[.string s] w fun e w' => e = .returned (.bool (isOpB s)) ∧ Below w.heap.size w w' := by
  by_cases h0 : s.toList = []
  · have HS := Lib.hid (anl_empty (p := symB) h0)
    go_enter Tryd.func19, Tryd.ntmps19
    go_wp2_with fail
    go_ret
    exact ⟨ret_bool (by simp [isOpB, HS.out]), Below.refl _ _⟩
  have hz : 0 < s.size := Decidable.not_not.1 fun h => h0 ((empty_iff s).2 h)
  cases hl : decide ((s.size : Int) ≤ 40)
  · have HS := Lib.hid (anl_long (p := symB) hl)
    have hl' : 40 < (s.size : Int) := by simpa using hl
    go_enter Tryd.func19, Tryd.ntmps19
    go_wp2_with fail
    go_ret
    exact ⟨ret_bool (by simp [isOpB, HS.out]), Below.refl _ _⟩
  have HA := Lib.hid (anl_all (p := symB) h0 hl)
  have hl' : (s.size : Int) ≤ 40 := by simpa using hl
  clear hl
  cases h1 : allB symB s <;> cases h2 : markB s
  all_goals
    go_enter Tryd.func19, Tryd.ntmps19
    go_wp2_with (first | (go_at_call 34; refine (signs_any _ _ hs).mono ?_; rintro e w' ⟨rfl, rfl⟩) | (go_at_call 13; refine (rmark_any _ _).mono ?_; rintro e w' ⟨rfl, hb⟩))
    go_ret
    refine ⟨ret_bool (by simp [isOpB, HA.out, h0, h1, h2]), ?_⟩
    first | exact Below.refl _ _ | assumption

end Go.Proofs.YtnciccbgceomeaaDoor
