/- What lex and its reference say of a text alone: key words, marks, names, operators. -/
import Derived.Test.YtnciccbgceomeaaDoorChars
namespace Go.Proofs.YtnciccbgceomeaaDoor
open Go.RowKit

def keyList : List (List UInt8) := [[100, 97, 116, 97], [99, 108, 97, 115, 115], [105, 110, 115, 116, 97, 110, 99, 101], [102, 114, 111, 109], [119, 104, 101, 114, 101], [101, 110, 100], [100, 101, 114, 105, 118, 105, 110, 103], [100, 101, 102], [108, 101, 116], [114, 101, 99], [97, 110, 100], [105, 110], [99, 97, 115, 101], [111, 102], [105, 102], [116, 104, 101, 110], [101, 108, 115, 101]]
def markList : List (List UInt8) := [[40], [41], [44], [59], [92], [95], [61], [45, 62], [124], [58]]
def keyB (s : ByteArray) : Bool := keyList.contains s.toList
def markB (s : ByteArray) : Bool := markList.contains s.toList

set_option maxHeartbeats 1000000 in
theorem mark_any (s : ByteArray) (w : World) :
    Calls Tryd.prog 12 #[.string s] w fun e w' => e = .returned (.bool (markB s)) ∧ w = w' := by
  go_enter Tryd.func12, Tryd.ntmps12
  go_wp2
  all_goals go_ret
  all_goals exact ⟨ret_bool (by simp_all [markB, markList]), rfl⟩

set_option maxHeartbeats 1000000 in
theorem key_any (s : ByteArray) (w : World) :
    Calls Tryd.prog 10 #[.string s] w fun e w' => e = .returned (.bool (keyB s)) ∧ w = w' := by
  go_enter Tryd.func10, Tryd.ntmps10
  go_wp2
  all_goals go_ret
  all_goals exact ⟨ret_bool (by simp_all [keyB, keyList]), rfl⟩

/-- A function of a byte that leaves all as it is. -/
def ByteFn (f : Nat) (p : UInt8 → Bool) : Prop :=
  (∀ (args : Array Value) (w : World), Sem.run Tryd.prog (callFunc f args) w = .ok (.enter f args) w) ∧
  ∀ (c : UInt8) (w : World), Calls Tryd.prog f #[.int .u8 (c.toNat : Int)] w fun e w' => e = .returned (.bool (p c)) ∧ w = w'

theorem low_fn : ByteFn 28 lowB := ⟨fun _ _ => by kernel_rfl, low_any⟩
theorem inside_fn : ByteFn 27 insideB := ⟨fun _ _ => by kernel_rfl, inside_any⟩
theorem symbol_fn : ByteFn 33 symB := ⟨fun _ _ => by kernel_rfl, symbol_any⟩
theorem digit_fn : ByteFn 43 digitB := ⟨fun _ _ => by kernel_rfl, digit_any⟩
theorem blank_fn : ByteFn 40 blankB := ⟨fun _ _ => by kernel_rfl, blank_any⟩

def allNotLong (p : UInt8 → Bool) (s : ByteArray) : Bool := allB p s && (!s.toList.isEmpty && decide ((s.size : Int) ≤ 40))

theorem all_end {p : UInt8 → Bool} {s : ByteArray} {k : Nat} (h : ¬ k < s.size) (hn : (s.data.toList.take k).all p = true) : allNotLong p s = (!s.toList.isEmpty && decide ((s.size : Int) ≤ 40)) := by
  simp [allNotLong, all_yes h hn]

set_option maxHeartbeats 400000 in
theorem all_any (f : Nat) (p : UInt8 → Bool) (hf : ByteFn f p) (s : ByteArray) (w : World) (hs : s.size ≤ maxLen) :
    Calls Tryd.prog 26 #[.string s, .func (.func f) #[] #[]] w fun e w' => e = .returned (.bool (allNotLong p s)) ∧ w = w' := by
  unfold maxLen at hs
  obtain ⟨hcf, hf⟩ := hf
  have HF := Lib.hid hf
  clear hf
  go_enter Tryd.func26, Tryd.ntmps26
  go_wp2_with fail
  go_loop [4, 5, 8] (fun n _ i => ∃ k : Nat, k ≤ s.size ∧ i = .int .i64 k ∧ n = .bool false ∧ (s.data.toList.take k).all p = true) (fun _ _ i => s.size - (intOf i).toNat)
  case atStart => exact ⟨0, Nat.zero_le _, rfl, rfl, rfl⟩
  case round =>
    obtain ⟨k, hk, rfl, rfl, hn⟩ := hrel
    have HN := Lib.hid hn
    clear hn
    by_cases hlt : k < s.size
    · cases hi : p s[k]
      all_goals go_wp2_with fail
      all_goals refine (HF.out _ _).mono ?_
      all_goals rintro e w' ⟨rfl, rfl⟩
      all_goals go_wp2_with fail
      · go_ret
        exact ⟨ret_bool (by unfold allNotLong; rw [all_no hlt hi]; rfl), rfl⟩
      · go_round
        case rel => exact ⟨k + 1, by omega, by go_num, rfl, all_step hlt HN.out hi⟩
        case measure => simp [intOf]; omega
    · have HE := Lib.hid (all_end hlt HN.out)
      go_wp2_with fail
      · have he : s.toList = [] := by assumption
        go_ret
        exact ⟨ret_bool (by rw [HE.out, he]; rfl), rfl⟩
      · go_ret
        exact ⟨ret_bool HE.out.symm, rfl⟩

/-- The first byte is such. -/
def headB (p : UInt8 → Bool) (s : ByteArray) : Bool := match s.data.toList with | [] => false | c :: _ => p c
theorem headB_at (p : UInt8 → Bool) (s : ByteArray) (h : 0 < s.size) : headB p s = p s[0] := by
  obtain ⟨⟨l⟩⟩ := s
  cases l with
  | nil => exact absurd h (by decide)
  | cons c r => rfl
theorem notEmpty_of {p : UInt8 → Bool} {s : ByteArray} (h : allNotLong p s = true) : 0 < s.size := by
  rcases Nat.eq_zero_or_pos s.size with h0 | h0
  · obtain ⟨⟨l⟩⟩ := s
    cases l with
    | nil => simp [allNotLong, ByteArray.toList_eq] at h
    | cons c r => exact absurd h0 (by simp [ByteArray.size])
  · exact h0

def isLowB (s : ByteArray) : Bool := allNotLong insideB s && (headB lowB s && (!keyB s && !(s.toList == [95])))
def isUpB (s : ByteArray) : Bool := allNotLong insideB s && headB upB s
def isOpB (s : ByteArray) : Bool := allNotLong symB s && !markB s

set_option maxHeartbeats 400000 in
theorem isLow_any (s : ByteArray) (w : World) (hs : s.size ≤ maxLen) :
    Calls Tryd.prog 14 #[.string s] w fun e w' => e = .returned (.bool (isLowB s)) ∧ w = w' := by
  cases h1 : allNotLong insideB s
  · go_enter Tryd.func14, Tryd.ntmps14
    go_wp2_with (go_at_call 26; refine (all_any 27 insideB inside_fn _ _ hs).mono ?_; rintro e w' ⟨rfl, rfl⟩)
    go_ret
    exact ⟨ret_bool (by simp [isLowB, h1]), rfl⟩
  · have h0 := notEmpty_of h1
    have hh := headB_at lowB s h0
    have HH := Lib.hid hh
    clear hh
    cases h2 : lowB s[0] <;> cases h3 : keyB s <;> cases h4 : (s.toList == [95])
    all_goals
      go_enter Tryd.func14, Tryd.ntmps14
      go_wp2_with (first | (go_at_call 26; refine (all_any 27 insideB inside_fn _ _ hs).mono ?_; rintro e w' ⟨rfl, rfl⟩) | (go_at_call 28; refine (low_any _ _).mono ?_; rintro e w' ⟨rfl, rfl⟩) | (go_at_call 10; refine (key_any _ _).mono ?_; rintro e w' ⟨rfl, rfl⟩))
      go_ret
      exact ⟨ret_bool (by simp [isLowB, h1, HH.out, h2, h3, h4]), rfl⟩

set_option maxHeartbeats 400000 in
theorem isUp_any (s : ByteArray) (w : World) (hs : s.size ≤ maxLen) :
    Calls Tryd.prog 16 #[.string s] w fun e w' => e = .returned (.bool (isUpB s)) ∧ w = w' := by
  cases h1 : allNotLong insideB s
  · go_enter Tryd.func16, Tryd.ntmps16
    go_wp2_with (go_at_call 26; refine (all_any 27 insideB inside_fn _ _ hs).mono ?_; rintro e w' ⟨rfl, rfl⟩)
    go_ret
    exact ⟨ret_bool (by simp [isUpB, h1]), rfl⟩
  · have h0 := notEmpty_of h1
    have hh := headB_at upB s h0
    have HH := Lib.hid hh
    clear hh
    cases h2 : upB s[0]
    all_goals
      go_enter Tryd.func16, Tryd.ntmps16
      go_wp2_with (first | (go_at_call 26; refine (all_any 27 insideB inside_fn _ _ hs).mono ?_; rintro e w' ⟨rfl, rfl⟩) | (go_at_call 31; refine (up_any _ _).mono ?_; rintro e w' ⟨rfl, rfl⟩))
      go_ret
      exact ⟨ret_bool (by simp [isUpB, h1, HH.out, h2]), rfl⟩

set_option maxHeartbeats 400000 in
theorem isOp_any (s : ByteArray) (w : World) (hs : s.size ≤ maxLen) :
    Calls Tryd.prog 18 #[.string s] w fun e w' => e = .returned (.bool (isOpB s)) ∧ w = w' := by
  cases h1 : allNotLong symB s <;> cases h2 : markB s
  all_goals
    go_enter Tryd.func18, Tryd.ntmps18
    go_wp2_with (first | (go_at_call 26; refine (all_any 33 symB symbol_fn _ _ hs).mono ?_; rintro e w' ⟨rfl, rfl⟩) | (go_at_call 12; refine (mark_any _ _).mono ?_; rintro e w' ⟨rfl, rfl⟩))
    go_ret
    exact ⟨ret_bool (by simp [isOpB, h1, h2]), rfl⟩

/-- A slice of texts in one block. -/
def Texts (w : World) (g : Nat) (ss : List ByteArray) : Prop := ∀ i (h : i < ss.length), w.cell? ⟨g, i, none⟩ = some (.string ss[i])

def amongB (s : ByteArray) (ss : List ByteArray) : Bool := ss.any fun x => x.toList == s.toList

theorem among_step {s : ByteArray} {ss : List ByteArray} {k : Nat} (h : k < ss.length) (hn : amongB s (ss.take k) = false) (h1 : (ss[k].toList == s.toList) = false) : amongB s (ss.take (k + 1)) = false := by
  unfold amongB at *
  rw [List.take_succ_eq_append_getElem h, List.any_append, hn]
  simp only [List.any_cons, List.any_nil, h1]; rfl
theorem among_yes {s : ByteArray} {ss : List ByteArray} {k : Nat} (h : k < ss.length) (h1 : (ss[k].toList == s.toList) = true) : amongB s ss = true := by
  unfold amongB
  rw [List.any_eq_true]
  refine ⟨ss[k], List.getElem_mem _, ?_⟩
  exact h1
theorem among_no {s : ByteArray} {ss : List ByteArray} {k : Nat} (h : ¬ k < ss.length) (hn : amongB s (ss.take k) = false) : amongB s ss = false := by
  rw [List.take_of_length_le (by omega)] at hn; exact hn

set_option maxHeartbeats 400000 in
theorem among_any (s : ByteArray) (ss : List ByteArray) (g c : Nat) (w : World) (hl : ss.length ≤ maxLen) (ht : Texts w g ss) :
    Calls Tryd.prog 25 #[.string s, .slice (some ⟨g, 0, none⟩) ss.length c] w fun e w' => e = .returned (.bool (amongB s ss)) ∧ w = w' := by
  unfold maxLen at hl
  go_enter Tryd.func25, Tryd.ntmps25
  go_wp2_with fail
  go_loop [4, 5] (fun n i => ∃ k : Nat, k ≤ ss.length ∧ i = .int .i64 k ∧ n = .bool false ∧ amongB s (ss.take k) = false) (fun _ i => ss.length - (intOf i).toNat)
  case atStart => exact ⟨0, Nat.zero_le _, rfl, rfl, rfl⟩
  case round =>
    obtain ⟨k, hk, rfl, rfl, hn⟩ := hrel
    have HN := Lib.hid hn
    clear hn
    by_cases hlt : k < ss.length
    · have hc := ht k hlt
      have HT := Lib.hid ht
      clear ht
      go_wp2_with fail
      · go_ret
        exact ⟨ret_bool (among_yes hlt ‹_›).symm, rfl⟩
      · go_round
        case rel => exact ⟨k + 1, by omega, by go_num, rfl, among_step hlt HN.out ‹_›⟩
        case measure => simp [intOf]; omega
    · go_wp2_with fail
      go_ret
      exact ⟨ret_bool (among_no hlt HN.out).symm, rfl⟩

def textOf (l : List UInt8) : ByteArray := ⟨l.toArray⟩
theorem among_lists (s : ByteArray) (ls : List (List UInt8)) : amongB s (ls.map textOf) = ls.contains s.toList := by
  unfold amongB
  rw [List.any_map, ← List.any_beq]
  congr 1
  funext x
  have e : (textOf x).toList = x := by rw [ByteArray.toList_eq]; rfl
  show ((textOf x).toList == s.toList) = (s.toList == x)
  rw [e, Bool.eq_iff_iff, beq_iff_eq, beq_iff_eq]
  exact eq_comm

theorem texts_new (w : World) (ss : List ByteArray) (t : TypeId) : Texts (w.alloc (.cells (ss.map Value.string).toArray t)) w.heap.size ss := by
  intro i h
  rw [cell_of_row _ w.heap.size i (ss.map Value.string).toArray t (0, 0) (heap_alloc_new w _)]
  simp [h]

set_option maxHeartbeats 400000 in
theorem rkey_any (s : ByteArray) (w : World) :
    Calls Tryd.prog 11 #[.string s] w fun e w' => e = .returned (.bool (keyB s)) ∧ Below w.heap.size w w' := by
  have HE := Lib.hid (among_lists s keyList)
  go_enter Tryd.func11, Tryd.ntmps11
  go_wp2_with fail
  refine (among_any s (keyList.map textOf) _ _ _ (by decide) ?_).mono ?_
  · exact texts_new w (keyList.map textOf) 9
  · rintro e w' ⟨rfl, rfl⟩
    go_wp2_with fail
    go_ret
    exact ⟨ret_bool HE.out, (Below.refl _ _).alloc (Nat.le_refl _) _⟩

set_option maxHeartbeats 400000 in
theorem rmark_any (s : ByteArray) (w : World) :
    Calls Tryd.prog 13 #[.string s] w fun e w' => e = .returned (.bool (markB s)) ∧ Below w.heap.size w w' := by
  have HE := Lib.hid (among_lists s markList)
  go_enter Tryd.func13, Tryd.ntmps13
  go_wp2_with fail
  refine (among_any s (markList.map textOf) _ _ _ (by decide) ?_).mono ?_
  · exact texts_new w (markList.map textOf) 9
  · rintro e w' ⟨rfl, rfl⟩
    go_wp2_with fail
    go_ret
    exact ⟨ret_bool HE.out, (Below.refl _ _).alloc (Nat.le_refl _) _⟩

end Go.Proofs.YtnciccbgceomeaaDoor
