/- Joined texts. -/
import Derived.Test.YtijcobeebaceoaaGreatDoorLxShelf
import Derived.Lib.IndexAny
import Derived.Lib.Hide
import Derived.WalkKit
import Derived.WalkSpells
import Derived.WalkLawsBesides
import Derived.Deep.LoopGhost
import Derived.Deep.QuietTactic
import Derived.BigQuiet
import Derived.StillTailTactics
import Derived.IntWalk
namespace Go.Proofs.YtijcobeebaceoaaGreatDoor.Lx
set_option maxRecDepth 20000
open Go.RowKit

def lowB (c : UInt8) : Bool := decide (97 ≤ c.toNat ∧ c.toNat ≤ 122 ∨ c.toNat = 95)
def upB (c : UInt8) : Bool := decide (65 ≤ c.toNat ∧ c.toNat ≤ 90)
def digitB (c : UInt8) : Bool := decide (48 ≤ c.toNat ∧ c.toNat ≤ 57)
def blankB (c : UInt8) : Bool := decide (c.toNat = 32 ∨ c.toNat = 9 ∨ c.toNat = 10 ∨ c.toNat = 13)
def insideB (c : UInt8) : Bool := lowB c || upB c || digitB c || decide (c.toNat = 39)
def lineB (c : UInt8) : Bool := decide (c.toNat ≠ 10)

/-- The bytes of operators. -/
def symList : List UInt8 := [33, 36, 37, 38, 42, 43, 46, 47, 60, 61, 62, 63, 64, 94, 124, 126, 58, 45]
def symB (c : UInt8) : Bool := symList.contains c

theorem ret_bool {a b : Bool} (h : a = b) : Ending.returned (.bool a) = .returned (.bool b) := by rw [h]

set_option maxHeartbeats 400000 in
theorem up_any (c : UInt8) (w : World) :
    Calls Tryz.prog 105 #[.int .u8 (c.toNat : Int)] w fun e w' => e = .returned (.bool (upB c)) ∧ w = w' := by
  go_enter Tryz.func105, Tryz.ntmps105
  go_wp2
  all_goals go_ret
  all_goals exact ⟨ret_bool (by rw [Bool.eq_iff_iff]; simp [upB]; try omega), rfl⟩

set_option maxHeartbeats 400000 in
theorem low_any (c : UInt8) (w : World) :
    Calls Tryz.prog 104 #[.int .u8 (c.toNat : Int)] w fun e w' => e = .returned (.bool (lowB c)) ∧ w = w' := by
  go_enter Tryz.func104, Tryz.ntmps104
  go_wp2
  all_goals go_ret
  all_goals exact ⟨ret_bool (by rw [Bool.eq_iff_iff]; simp [lowB]; try omega), rfl⟩

set_option maxHeartbeats 400000 in
theorem digit_any (c : UInt8) (w : World) :
    Calls Tryz.prog 107 #[.int .u8 (c.toNat : Int)] w fun e w' => e = .returned (.bool (digitB c)) ∧ w = w' := by
  go_enter Tryz.func107, Tryz.ntmps107
  go_wp2
  all_goals go_ret
  all_goals exact ⟨ret_bool (by rw [Bool.eq_iff_iff]; simp [digitB]; try omega), rfl⟩

set_option maxHeartbeats 400000 in
theorem blank_any (c : UInt8) (w : World) :
    Calls Tryz.prog 102 #[.int .u8 (c.toNat : Int)] w fun e w' => e = .returned (.bool (blankB c)) ∧ w = w' := by
  go_enter Tryz.func102, Tryz.ntmps102
  go_wp2
  all_goals go_ret
  all_goals exact ⟨ret_bool (by rw [Bool.eq_iff_iff]; simp [blankB]; try omega), rfl⟩

set_option maxHeartbeats 400000 in
theorem line_any (v : Value) (c : UInt8) (w : World) :
    Calls Tryz.prog 103 #[v, .int .u8 (c.toNat : Int)] w fun e w' => e = .returned (.bool (lineB c)) ∧ w = w' := by
  go_enter Tryz.func103, Tryz.ntmps103
  go_wp2
  all_goals go_ret
  all_goals exact ⟨ret_bool (by rw [Bool.eq_iff_iff]; simp [lineB]; try omega), rfl⟩

set_option maxHeartbeats 400000 in
theorem inside_any (c : UInt8) (w : World) :
    Calls Tryz.prog 137 #[.int .u8 (c.toNat : Int)] w fun e w' => e = .returned (.bool (insideB c)) ∧ w = w' := by
  cases hl : lowB c
  · cases hu : upB c
    · cases hd : digitB c
      all_goals
        go_enter Tryz.func137, Tryz.ntmps137
        go_wp2_with (first | (go_at_call 104; refine (low_any _ _).mono ?_; rintro e w' ⟨rfl, rfl⟩) | (go_at_call 105; refine (up_any _ _).mono ?_; rintro e w' ⟨rfl, rfl⟩) | (go_at_call 107; refine (digit_any _ _).mono ?_; rintro e w' ⟨rfl, rfl⟩))
        all_goals go_ret
        all_goals exact ⟨ret_bool (by rw [Bool.eq_iff_iff]; simp [insideB, hl, hu, hd]; try omega), rfl⟩
    · go_enter Tryz.func137, Tryz.ntmps137
      go_wp2_with (first | (go_at_call 104; refine (low_any _ _).mono ?_; rintro e w' ⟨rfl, rfl⟩) | (go_at_call 105; refine (up_any _ _).mono ?_; rintro e w' ⟨rfl, rfl⟩) | (go_at_call 107; refine (digit_any _ _).mono ?_; rintro e w' ⟨rfl, rfl⟩))
      all_goals go_ret
      all_goals exact ⟨ret_bool (by simp [insideB, hl, hu]), rfl⟩
  · go_enter Tryz.func137, Tryz.ntmps137
    go_wp2_with (first | (go_at_call 104; refine (low_any _ _).mono ?_; rintro e w' ⟨rfl, rfl⟩) | (go_at_call 105; refine (up_any _ _).mono ?_; rintro e w' ⟨rfl, rfl⟩) | (go_at_call 107; refine (digit_any _ _).mono ?_; rintro e w' ⟨rfl, rfl⟩))
    all_goals go_ret
    all_goals exact ⟨ret_bool (by simp [insideB, hl]), rfl⟩

theorem toUInt8_toNat (c : UInt8) : ((c.toNat : Int)).toNat.toUInt8 = c := by simp

set_option maxHeartbeats 400000 in
theorem symbol_any (c : UInt8) (w : World) :
    Calls Tryz.prog 110 #[.int .u8 (c.toNat : Int)] w fun e w' => e = .returned (.bool (symB c)) ∧ w = w' := by
  go_enter Tryz.func110, Tryz.ntmps110
  go_wp2_with (go_at_call 141; refine (Tryz.strings_IndexByte _ _ _).mono ?_; rintro e w' ⟨rfl, rfl⟩)
  go_ret
  exact ⟨ret_bool (Lib.contains_iff_indexByte symList c).symm, rfl⟩

/-- A byte of a text, or 0. -/
def inB (s : ByteArray) (c : UInt8) : Bool := s.data.toList.contains c
/-- All bytes of a text are such. -/
def allB (p : UInt8 → Bool) (s : ByteArray) : Bool := s.data.toList.all p

theorem take_snoc (s : ByteArray) (k : Nat) (h : k < s.size) : s.data.toList.take (k + 1) = s.data.toList.take k ++ [s[k]] := by
  rw [List.take_succ_eq_append_getElem (by simpa using h)]; rfl
theorem take_all (s : ByteArray) (k : Nat) (h : ¬ k < s.size) : s.data.toList.take k = s.data.toList :=
  List.take_of_length_le (by have : s.data.toList.length = s.size := rfl; omega)
theorem mem_at (s : ByteArray) (k : Nat) (h : k < s.size) : s[k] ∈ s.data.toList := by
  have : s[k] = s.data.toList[k]'(by simpa using h) := rfl
  rw [this]; exact List.getElem_mem _

theorem in_step {s : ByteArray} {c : UInt8} {k : Nat} (h : k < s.size) (hn : (s.data.toList.take k).contains c = false) (h1 : ((s[k].toNat : Int) == (c.toNat : Int)) = false) :
    (s.data.toList.take (k + 1)).contains c = false := by
  rw [take_snoc s k h]
  simp at hn h1 ⊢
  refine ⟨hn, fun e => h1 (by rw [e])⟩
theorem in_yes {s : ByteArray} {c : UInt8} {k : Nat} (h : k < s.size) (h1 : ((s[k].toNat : Int) == (c.toNat : Int)) = true) : inB s c = true := by
  have e : s[k] = c := by simp at h1; exact UInt8.toNat_inj.1 (by omega)
  unfold inB
  rw [List.contains_iff_mem, ← e]
  exact mem_at s k h
theorem in_no {s : ByteArray} {c : UInt8} {k : Nat} (h : ¬ k < s.size) (hn : (s.data.toList.take k).contains c = false) : inB s c = false := by
  rw [take_all s k h] at hn; exact hn

theorem all_step {p : UInt8 → Bool} {s : ByteArray} {k : Nat} (h : k < s.size) (hn : (s.data.toList.take k).all p = true) (h1 : p s[k] = true) :
    (s.data.toList.take (k + 1)).all p = true := by
  rw [take_snoc s k h, List.all_append, hn]; simp [h1]
theorem all_no {p : UInt8 → Bool} {s : ByteArray} {k : Nat} (h : k < s.size) (h1 : p s[k] = false) : allB p s = false := by
  unfold allB
  rw [List.all_eq_false]
  exact ⟨s[k], mem_at s k h, by simp [h1]⟩
theorem all_yes {p : UInt8 → Bool} {s : ByteArray} {k : Nat} (h : ¬ k < s.size) (hn : (s.data.toList.take k).all p = true) : allB p s = true := by
  rw [take_all s k h] at hn; exact hn
end Go.Proofs.YtijcobeebaceoaaGreatDoor.Lx
namespace Go.Proofs.YtijcobeebaceoaaGreatDoor.Lx
set_option maxRecDepth 20000
open Go.RowKit

def keyList : List (List UInt8) := [[100, 97, 116, 97], [99, 108, 97, 115, 115], [105, 110, 115, 116, 97, 110, 99, 101], [102, 114, 111, 109], [119, 104, 101, 114, 101], [101, 110, 100], [100, 101, 114, 105, 118, 105, 110, 103], [100, 101, 102], [108, 101, 116], [114, 101, 99], [97, 110, 100], [105, 110], [99, 97, 115, 101], [111, 102], [105, 102], [116, 104, 101, 110], [101, 108, 115, 101]]
def markList : List (List UInt8) := [[40], [41], [44], [59], [92], [95], [61], [45, 62], [124], [58]]
def keyB (s : ByteArray) : Bool := keyList.contains s.toList
def markB (s : ByteArray) : Bool := markList.contains s.toList

set_option maxHeartbeats 1000000 in
theorem mark_any (s : ByteArray) (w : World) :
    Calls Tryz.prog 111 #[.string s] w fun e w' => e = .returned (.bool (markB s)) ∧ w = w' := by
  go_enter Tryz.func111, Tryz.ntmps111
  go_wp2
  all_goals go_ret
  all_goals exact ⟨ret_bool (by simp_all [markB, markList]), rfl⟩

set_option maxHeartbeats 1000000 in
theorem key_any (s : ByteArray) (w : World) :
    Calls Tryz.prog 138 #[.string s] w fun e w' => e = .returned (.bool (keyB s)) ∧ w = w' := by
  go_enter Tryz.func138, Tryz.ntmps138
  go_wp2
  all_goals go_ret
  all_goals exact ⟨ret_bool (by simp_all [keyB, keyList]), rfl⟩

/-- A function of a byte that leaves all as it is. -/
def ByteFn (f : Nat) (p : UInt8 → Bool) : Prop :=
  (∀ (args : Array Value) (w : World), Sem.run Tryz.prog (callFunc f args) w = .ok (.enter f args) w) ∧
  ∀ (c : UInt8) (w : World), Calls Tryz.prog f #[.int .u8 (c.toNat : Int)] w fun e w' => e = .returned (.bool (p c)) ∧ w = w'

theorem low_fn : ByteFn 104 lowB := ⟨fun _ _ => by kernel_rfl, low_any⟩
theorem inside_fn : ByteFn 137 insideB := ⟨fun _ _ => by kernel_rfl, inside_any⟩
theorem symbol_fn : ByteFn 110 symB := ⟨fun _ _ => by kernel_rfl, symbol_any⟩
theorem digit_fn : ByteFn 107 digitB := ⟨fun _ _ => by kernel_rfl, digit_any⟩
theorem blank_fn : ByteFn 102 blankB := ⟨fun _ _ => by kernel_rfl, blank_any⟩

def allNotLong (p : UInt8 → Bool) (s : ByteArray) : Bool := allB p s && (!s.toList.isEmpty && decide ((s.size : Int) ≤ 40))

theorem all_end {p : UInt8 → Bool} {s : ByteArray} {k : Nat} (h : ¬ k < s.size) (hn : (s.data.toList.take k).all p = true) : allNotLong p s = (!s.toList.isEmpty && decide ((s.size : Int) ≤ 40)) := by
  simp [allNotLong, all_yes h hn]

/-- The first byte is such. -/
def headB (p : UInt8 → Bool) (s : ByteArray) : Bool := match s.data.toList with | [] => false | c :: _ => p c
theorem headB_at (p : UInt8 → Bool) (s : ByteArray) (h : 0 < s.size) : headB p s = p s[0] := by
  obtain ⟨⟨l⟩⟩ := s
  cases l with
  | nil => exact absurd h (by decide)
  | cons c r => rfl
theorem notEmpty_of {p : UInt8 → Bool} {s : ByteArray} (h : allNotLong p s = true) : 0 < s.size := by
  rcases Nat.eq_zero_or_pos s.size with h0 | h0
  · obtain ⟨⟨l⟩⟩ := s
    cases l with
    | nil => simp [allNotLong, ByteArray.toList_eq] at h
    | cons c r => exact absurd h0 (by simp [ByteArray.size])
  · exact h0

def isLowB (s : ByteArray) : Bool := allNotLong insideB s && (headB lowB s && (!keyB s && !(s.toList == [95])))
def isUpB (s : ByteArray) : Bool := allNotLong insideB s && headB upB s
def isOpB (s : ByteArray) : Bool := allNotLong symB s && !markB s

/-- A slice of texts in one block. -/
def Texts (w : World) (g : Nat) (ss : List ByteArray) : Prop := ∀ i (h : i < ss.length), w.cell? ⟨g, i, none⟩ = some (.string ss[i])

def amongB (s : ByteArray) (ss : List ByteArray) : Bool := ss.any fun x => x.toList == s.toList

theorem among_step {s : ByteArray} {ss : List ByteArray} {k : Nat} (h : k < ss.length) (hn : amongB s (ss.take k) = false) (h1 : (ss[k].toList == s.toList) = false) : amongB s (ss.take (k + 1)) = false := by
  unfold amongB at *
  rw [List.take_succ_eq_append_getElem h, List.any_append, hn]
  simp only [List.any_cons, List.any_nil, h1]; rfl
theorem among_yes {s : ByteArray} {ss : List ByteArray} {k : Nat} (h : k < ss.length) (h1 : (ss[k].toList == s.toList) = true) : amongB s ss = true := by
  unfold amongB
  rw [List.any_eq_true]
  refine ⟨ss[k], List.getElem_mem _, ?_⟩
  exact h1
theorem among_no {s : ByteArray} {ss : List ByteArray} {k : Nat} (h : ¬ k < ss.length) (hn : amongB s (ss.take k) = false) : amongB s ss = false := by
  rw [List.take_of_length_le (by omega)] at hn; exact hn

def textOf (l : List UInt8) : ByteArray := ⟨l.toArray⟩
theorem among_lists (s : ByteArray) (ls : List (List UInt8)) : amongB s (ls.map textOf) = ls.contains s.toList := by
  unfold amongB
  rw [List.any_map, ← List.any_beq]
  congr 1
  funext x
  have e : (textOf x).toList = x := by rw [ByteArray.toList_eq]; rfl
  show ((textOf x).toList == s.toList) = (s.toList == x)
  rw [e, Bool.eq_iff_iff, beq_iff_eq, beq_iff_eq]
  exact eq_comm

theorem texts_new (w : World) (ss : List ByteArray) (t : TypeId) : Texts (w.alloc (.cells (ss.map Value.string).toArray t)) w.heap.size ss := by
  intro i h
  rw [cell_of_row _ w.heap.size i (ss.map Value.string).toArray t (0, 0) (heap_alloc_new w _)]
  simp [h]
end Go.Proofs.YtijcobeebaceoaaGreatDoor.Lx
namespace Go.Proofs.YtijcobeebaceoaaGreatDoor.Lx
set_option maxRecDepth 20000
open Go.RowKit

theorem empty_iff (s : ByteArray) : s.toList = [] ↔ ¬ 0 < s.size := by
  rw [ByteArray.toList_eq]
  obtain ⟨⟨l⟩⟩ := s
  cases l <;> simp [ByteArray.size]

theorem anl_empty {p : UInt8 → Bool} {s : ByteArray} (h : s.toList = []) : allNotLong p s = false := by simp [allNotLong, h]
theorem anl_long {p : UInt8 → Bool} {s : ByteArray} (h : decide ((s.size : Int) ≤ 40) = false) : allNotLong p s = false := by simp [allNotLong, h]
theorem anl_all {p : UInt8 → Bool} {s : ByteArray} (h0 : ¬ s.toList = []) (h : decide ((s.size : Int) ≤ 40) = true) : allNotLong p s = allB p s := by simp [allNotLong, h0, h]
end Go.Proofs.YtijcobeebaceoaaGreatDoor.Lx
namespace Go.Proofs.YtijcobeebaceoaaGreatDoor.Lx
set_option maxRecDepth 20000
open Go.RowKit

theorem grown_refl (w : World) (r : Option Nat) : w.grownBy w r := ⟨rfl, rfl, rfl, Nat.le_refl _, fun _ _ _ => rfl⟩
theorem grown_trans {a b c : World} {r : Option Nat} (h : a.grownBy b r) (k : b.grownBy c r) : a.grownBy c r :=
  ⟨k.os.trans h.os, k.tape.trans h.tape, k.output.trans h.output, Nat.le_trans h.size k.size, fun i hi hr => (k.block i (Nat.lt_of_lt_of_le hi h.size) hr).trans (h.block i hi hr)⟩
theorem grown_drew {a b : World} {r : Option Nat} (h : a.grownBy b r) : a.grownBy b.drew r := ⟨h.os, h.tape, h.output, h.size, h.block⟩
theorem grown_drewN {a b : World} {r : Option Nat} (h : a.grownBy b r) (n : Nat) : a.grownBy (b.drewN n) r := ⟨h.os, h.tape, h.output, h.size, h.block⟩
theorem grown_setCell {a b : World} {k : Nat} (h : a.grownBy b (some k)) (o : Nat) (u : Value) : a.grownBy (b.setCell ⟨k, o, none⟩ u) (some k) :=
  grown_trans h ⟨rfl, rfl, rfl, by simp [World.setCell], fun i _ hr => Below.heap_setCell _ _ _ _ (fun e => hr (by rw [e]))⟩

/-- The scanner's block: its source, its place, its tokens. -/
def Blk (w : World) (b : Nat) (s : ByteArray) (k : Nat) (v : Value) : Prop := w.heap[b]? = some (.cells #[.string s, .int .i64 (k : Int), v] 142 (0, 0))
theorem Blk.c0 {w : World} {b k : Nat} {s : ByteArray} {v : Value} (h : Blk w b s k v) : w.cell? ⟨b, 0, none⟩ = some (.string s) := by simp [World.cell?, show w.heap[b]? = _ from h]
theorem Blk.c1 {w : World} {b k : Nat} {s : ByteArray} {v : Value} (h : Blk w b s k v) : w.cell? ⟨b, 1, none⟩ = some (.int .i64 (k : Int)) := by simp [World.cell?, show w.heap[b]? = _ from h]
theorem Blk.c2 {w : World} {b k : Nat} {s : ByteArray} {v : Value} (h : Blk w b s k v) : w.cell? ⟨b, 2, none⟩ = some v := by simp [World.cell?, show w.heap[b]? = _ from h]
theorem Blk.f {w : World} {b k : Nat} {s : ByteArray} {v : Value} (h : Blk w b s k v) (o : Nat) : w.frozen? ⟨b, o, none⟩ = false := by simp [World.frozen?, show w.heap[b]? = _ from h]
theorem Blk.drewN {w : World} {b k : Nat} {s : ByteArray} {v : Value} (h : Blk w b s k v) (n : Nat) : Blk (w.drewN n) b s k v := h
theorem Blk.lt {w : World} {b k : Nat} {s : ByteArray} {v : Value} (h : Blk w b s k v) : b < w.heap.size := lt_of_block h
theorem Blk.set1 {w : World} {b k : Nat} {s : ByteArray} {v : Value} (h : Blk w b s k v) (j : Nat) : Blk (w.setCell ⟨b, 1, none⟩ (.int .i64 (j : Int))) b s j v := by
  have hlt := lt_of_block h
  have h' : w.heap[b] = .cells #[.string s, .int .i64 (k : Int), v] 142 (0, 0) := by have := h; unfold Blk at this; simpa [Array.getElem?_eq_getElem hlt] using this
  show (w.heap.modify b _)[b]? = _
  rw [Array.getElem?_eq_getElem (by simpa using hlt), Array.getElem_modify_self, h']
  rfl
theorem Blk.set2 {w : World} {b k : Nat} {s : ByteArray} {v : Value} (h : Blk w b s k v) (u : Value) : Blk (w.setCell ⟨b, 2, none⟩ u) b s k u := by
  have hlt := lt_of_block h
  have h' : w.heap[b] = .cells #[.string s, .int .i64 (k : Int), v] 142 (0, 0) := by have := h; unfold Blk at this; simpa [Array.getElem?_eq_getElem hlt] using this
  show (w.heap.modify b _)[b]? = _
  rw [Array.getElem?_eq_getElem (by simpa using hlt), Array.getElem_modify_self, h']
  rfl

/-- A callee that leaves all as it is, inside a region that draws its order. -/
theorem quiet_same {P : Program} {f : FuncId} {args : Array Value} {w : World} {n : Nat} {v : Value}
    (h : Calls P f args (w.drewN n) fun e w' => e = .returned v ∧ w.drewN n = w') : Calls P f args (w.drewN n) fun e w'' => e = .returned v ∧ ∃ m, w'' = w.drewN m :=
  h.mono fun _ _ ⟨he, hm⟩ => ⟨he, n, hm.symm⟩

/-- How far bytes are such, from a place on. -/
def adv (p : UInt8 → Bool) (s : ByteArray) (k : Nat) : Nat := k + ((s.data.toList.drop k).takeWhile p).length

theorem takeWhile_split (p : UInt8 → Bool) : ∀ (l : List UInt8) (n : Nat), n ≤ l.length → (∀ i (h : i < l.length), i < n → p l[i] = true) → (∀ h : n < l.length, p l[n] = false) → (l.takeWhile p).length = n
  | [], n, hn, _, _ => by simp at hn; simp [hn]
  | c :: r, 0, _, _, h => by
    have := h (by simp)
    simp at this
    simp [this]
  | c :: r, n + 1, hn, ha, h => by
    have h0 : p c = true := ha 0 (by simp) (by omega)
    have ih := takeWhile_split p r n (by simpa using hn) (fun i hi hin => by have := ha (i + 1) (by simpa using hi) (by omega); simpa using this) (fun hlt => by have := h (by simpa using hlt); simpa using this)
    simp [h0, ih]

theorem adv_eq {p : UInt8 → Bool} {s : ByteArray} {k j : Nat} (hkj : k ≤ j) (hj : j ≤ s.size) (ha : ∀ i (h : i < s.size), k ≤ i → i < j → p s[i] = true) (he : ∀ h : j < s.size, p s[j] = false) : adv p s k = j := by
  have hl : s.data.toList.length = s.size := rfl
  have := takeWhile_split p (s.data.toList.drop k) (j - k) (by simp only [List.length_drop]; omega)
    (fun i hi hin => by
      have hi' : k + i < s.size := by simp only [List.length_drop] at hi; omega
      have := ha (k + i) hi' (by omega) (by omega)
      simp only [List.getElem_drop]
      exact this)
    (fun hlt => by
      have hlt' : j < s.size := by simp only [List.length_drop] at hlt; omega
      have := he hlt'
      have e : k + (j - k) = j := by omega
      simp only [List.getElem_drop, e]
      exact this)
  unfold adv
  omega

set_option maxHeartbeats 1000000 in
/-- 'more', at a function of one byte. -/
theorem more_any (f : Nat) (p : UInt8 → Bool) (hf : ByteFn f p) (b k : Nat) (s : ByteArray) (v : Value) (w : World) (hb : Blk w b s k v) (hk : k ≤ s.size) (hs : s.size ≤ 1000000) :
    Calls Tryz.prog 101 #[.pointer (some ⟨b, 0, none⟩), .func (.func f) #[] #[]] w fun e w' => e = .returned (.string (s.extract k (adv p s k))) ∧ Blk w' b s (adv p s k) v ∧ w.grownBy w' (some b) := by
  obtain ⟨hcf, hf⟩ := hf
  have HF := Lib.hid hf
  clear hf
  have hc1 := hb.c1
  go_enter Tryz.func101, Tryz.ntmps101
  go_wp2_with fail
  go_loopg [] (s.size - k) (fun g wr => ∃ j : Nat, k ≤ j ∧ j ≤ s.size ∧ s.size - j = g ∧ Blk wr b s j v ∧ w.grownBy wr (some b) ∧ ∀ i (h : i < s.size), k ≤ i → i < j → p s[i] = true)
  case atStart => exact ⟨k, Nat.le_refl _, hk, rfl, hb, grown_refl _ _, fun i _ h1 h2 => by omega⟩
  case round =>
    obtain ⟨j, hkj, hj, hg, hbj, hgr, hall⟩ := hrel
    have HG := Lib.hid hg
    have HA := Lib.hid hall
    clear hg hall hc1
    have c0 := hbj.c0
    have c1 := hbj.c1
    by_cases hlt : j < s.size
    · have hd : decide ((j : Int) < (s.size : Int)) = true := by simp; omega
      cases hi : p s[j]
      all_goals go_wp2_with fail
      all_goals go_quiet (exact quiet_same (HF.out _ _))
      · have HE := Lib.hid (adv_eq hkj hj HA.out (fun _ => hi))
        have hb2 := hbj.drewN nq
        have hg2 := grown_drewN hgr nq
        clear c0 c1 hbj hgr
        generalize wr.drewN nq = w2 at *
        have c0 := hb2.c0
        have c1 := hb2.c1
        go_wp2_with fail
        go_quiet (fail)
        go_wp2_with fail
        go_ret
        rw [HE.out]
        exact ⟨rfl, hb2.drewN _, grown_drewN hg2 _⟩
      · have hb2 := hbj.drewN nq
        have hg2 := grown_drewN hgr nq
        clear c0 c1 hbj hgr
        generalize wr.drewN nq = w2 at *
        have c0 := hb2.c0
        have c1 := hb2.c1
        have f1 := hb2.f 1
        go_wp2_with fail
        go_roundg (s.size - (j + 1))
        case measure => have := HG.out; omega
        case rel =>
          refine ⟨j + 1, by omega, by omega, rfl, hb2.set1 (j + 1), grown_setCell hg2 _ _, ?_⟩
          intro i h1 h2 h3
          by_cases e : i = j
          · subst e; exact hi
          · exact HA.out i h1 h2 (by omega)
    · have hd : decide ((j : Int) < (s.size : Int)) = false := by simp; omega
      have HE := Lib.hid (adv_eq (p := p) hkj hj HA.out (fun h => absurd h hlt))
      go_wp2_with fail
      go_quiet (fail)
      have hb2 := hbj.drewN nq
      have hg2 := grown_drewN hgr nq
      clear c0 c1 hbj hgr
      generalize wr.drewN nq = w2 at *
      have c0 := hb2.c0
      have c1 := hb2.c1
      go_wp2_with fail
      go_quiet (fail)
      go_wp2_with fail
      go_ret
      rw [HE.out]
      exact ⟨rfl, hb2.drewN _, grown_drewN hg2 _⟩
end Go.Proofs.YtijcobeebaceoaaGreatDoor.Lx
namespace Go.Proofs.YtijcobeebaceoaaGreatDoor.Lx
set_option maxRecDepth 20000
open Go.RowKit

set_option maxHeartbeats 1000000 in
/-- 'more', at the scanner's own method 'sameLine'. -/
theorem moreLine_any (b k : Nat) (s : ByteArray) (v : Value) (w : World) (hb : Blk w b s k v) (hk : k ≤ s.size) (hs : s.size ≤ 1000000) :
    Calls Tryz.prog 101 #[.pointer (some ⟨b, 0, none⟩), .func (.func 103) #[.pointer (some ⟨b, 0, none⟩)] #[]] w fun e w' => e = .returned (.string (s.extract k (adv lineB s k))) ∧ Blk w' b s (adv lineB s k) v ∧ w.grownBy w' (some b) := by
  have hcf : ∀ (args : Array Value) (w : World), Sem.run Tryz.prog (callFunc 41 args) w = .ok (.enter 41 args) w := fun _ _ => by kernel_rfl
  have HF := Lib.hid (line_any (.pointer (some ⟨b, 0, none⟩)))
  have hc1 := hb.c1
  go_enter Tryz.func101, Tryz.ntmps101
  go_wp2_with fail
  go_loopg [] (s.size - k) (fun g wr => ∃ j : Nat, k ≤ j ∧ j ≤ s.size ∧ s.size - j = g ∧ Blk wr b s j v ∧ w.grownBy wr (some b) ∧ ∀ i (h : i < s.size), k ≤ i → i < j → lineB s[i] = true)
  case atStart => exact ⟨k, Nat.le_refl _, hk, rfl, hb, grown_refl _ _, fun i _ h1 h2 => by omega⟩
  case round =>
    obtain ⟨j, hkj, hj, hg, hbj, hgr, hall⟩ := hrel
    have HG := Lib.hid hg
    have HA := Lib.hid hall
    clear hg hall hc1
    have c0 := hbj.c0
    have c1 := hbj.c1
    by_cases hlt : j < s.size
    · have hd : decide ((j : Int) < (s.size : Int)) = true := by simp; omega
      cases hi : lineB s[j]
      all_goals go_wp2_with fail
      all_goals go_quiet (exact quiet_same (HF.out _ _))
      · have HE := Lib.hid (adv_eq hkj hj HA.out (fun _ => hi))
        have hb2 := hbj.drewN nq
        have hg2 := grown_drewN hgr nq
        clear c0 c1 hbj hgr
        generalize wr.drewN nq = w2 at *
        have c0 := hb2.c0
        have c1 := hb2.c1
        go_wp2_with fail
        go_quiet (fail)
        go_wp2_with fail
        go_ret
        rw [HE.out]
        exact ⟨rfl, hb2.drewN _, grown_drewN hg2 _⟩
      · have hb2 := hbj.drewN nq
        have hg2 := grown_drewN hgr nq
        clear c0 c1 hbj hgr
        generalize wr.drewN nq = w2 at *
        have c0 := hb2.c0
        have c1 := hb2.c1
        have f1 := hb2.f 1
        go_wp2_with fail
        go_roundg (s.size - (j + 1))
        case measure => have := HG.out; omega
        case rel =>
          refine ⟨j + 1, by omega, by omega, rfl, hb2.set1 (j + 1), grown_setCell hg2 _ _, ?_⟩
          intro i h1 h2 h3
          by_cases e : i = j
          · subst e; exact hi
          · exact HA.out i h1 h2 (by omega)
    · have hd : decide ((j : Int) < (s.size : Int)) = false := by simp; omega
      have HE := Lib.hid (adv_eq (p := lineB) hkj hj HA.out (fun h => absurd h hlt))
      go_wp2_with fail
      go_quiet (fail)
      have hb2 := hbj.drewN nq
      have hg2 := grown_drewN hgr nq
      clear c0 c1 hbj hgr
      generalize wr.drewN nq = w2 at *
      have c0 := hb2.c0
      have c1 := hb2.c1
      go_wp2_with fail
      go_quiet (fail)
      go_wp2_with fail
      go_ret
      rw [HE.out]
      exact ⟨rfl, hb2.drewN _, grown_drewN hg2 _⟩


theorem adv_ge (p : UInt8 → Bool) (s : ByteArray) (k : Nat) : k ≤ adv p s k := Nat.le_add_right _ _
theorem adv_le (p : UInt8 → Bool) (s : ByteArray) (k : Nat) (hk : k ≤ s.size) : adv p s k ≤ s.size := by
  have h1 := (List.takeWhile_sublist p (l := s.data.toList.drop k)).length_le
  have hl : s.data.toList.length = s.size := rfl
  rw [List.length_drop] at h1
  unfold adv
  omega
theorem drop_takeWhile (p : UInt8 → Bool) : ∀ l : List UInt8, l.drop (l.takeWhile p).length = l.dropWhile p
  | [] => rfl
  | c :: r => by
    cases h : p c
    · simp [h]
    · simp [h, drop_takeWhile p r]
theorem adv_drop (p : UInt8 → Bool) (s : ByteArray) (k : Nat) : s.data.toList.drop (adv p s k) = (s.data.toList.drop k).dropWhile p := by
  unfold adv
  rw [← List.drop_drop, drop_takeWhile]
theorem take_takeWhile (p : UInt8 → Bool) : ∀ l : List UInt8, l.take (l.takeWhile p).length = l.takeWhile p
  | [] => rfl
  | c :: r => by
    cases h : p c
    · simp [h]
    · simp [h, take_takeWhile p r]
theorem adv_text (p : UInt8 → Bool) (s : ByteArray) (k : Nat) : (s.extract k (adv p s k)).data.toList = (s.data.toList.drop k).takeWhile p := by
  rw [Lib.extract_data]
  unfold adv
  rw [Nat.add_sub_cancel_left, take_takeWhile]

/-- Beyond blanks and remarks ('true': inside a remark). -/
def skipC : Bool → List UInt8 → List UInt8
  | _, [] => []
  | true, c :: r => if c.toNat = 10 then skipC false r else skipC true r
  | false, c :: r => if blankB c = true then skipC false r else if c.toNat = 35 then skipC true r else c :: r

theorem skipC_blank : ∀ l : List UInt8, skipC false l = skipC false (l.dropWhile blankB)
  | [] => rfl
  | c :: r => by
    by_cases h : blankB c = true
    · rw [List.dropWhile_cons_of_pos h, ← skipC_blank r]; simp [skipC, h]
    · rw [List.dropWhile_cons_of_neg h]
theorem skipC_line : ∀ l : List UInt8, skipC true l = skipC false (l.dropWhile lineB)
  | [] => rfl
  | c :: r => by
    by_cases h : c.toNat = 10
    · have hl : ¬ lineB c = true := by simp [lineB, h]
      have hb : blankB c = true := by simp [blankB, h]
      rw [List.dropWhile_cons_of_neg hl]; simp [skipC, h, hb]
    · have hl : lineB c = true := by simp [lineB, h]
      rw [List.dropWhile_cons_of_pos hl, ← skipC_line r]; simp [skipC, h]
theorem skipC_length : ∀ (b : Bool) (l : List UInt8), (skipC b l).length ≤ l.length
  | _, [] => by simp [skipC]
  | true, c :: r => by
    have h1 := skipC_length false r
    have h2 := skipC_length true r
    simp only [skipC, List.length_cons]
    split <;> omega
  | false, c :: r => by
    have h1 := skipC_length false r
    have h2 := skipC_length true r
    simp only [skipC, List.length_cons]
    split
    · omega
    · split
      · omega
      · simp

/-- Where 'skip' comes to, from a place on. -/
def skipPos (s : ByteArray) (k : Nat) : Nat := s.size - (skipC false (s.data.toList.drop k)).length

theorem drop_at (s : ByteArray) (k : Nat) (h : k < s.size) : s.data.toList.drop k = s[k] :: s.data.toList.drop (k + 1) := by
  rw [List.drop_eq_getElem_cons (by simpa using h)]; rfl

theorem skip_end {s : ByteArray} {k j : Nat} (hj : j ≤ s.size) (he : skipC false (s.data.toList.drop k) = skipC false (s.data.toList.drop j)) (hnb : ∀ h : j < s.size, blankB s[j] = false) (hh : ∀ h : j < s.size, s[j].toNat ≠ 35) : skipPos s k = j := by
  unfold skipPos
  rw [he]
  have hl : s.data.toList.length = s.size := rfl
  by_cases h : j < s.size
  · rw [drop_at s j h]
    have h1 := hnb h
    have h2 := hh h
    simp only [skipC, h1, h2, if_false, Bool.false_eq_true, List.length_cons, List.length_drop]
    omega
  · rw [List.drop_eq_nil_of_le (by omega)]
    simp only [skipC, List.length_nil]
    omega

theorem adv_stop {p : UInt8 → Bool} {s : ByteArray} {k : Nat} (h : adv p s k < s.size) : p s[adv p s k] = false := by
  have e := adv_drop p s k
  rw [drop_at s _ h] at e
  cases hp : p s[adv p s k]
  · rfl
  · exfalso
    have : ∀ l : List UInt8, ∀ c r, c :: r = l.dropWhile p → p c = true → False := by
      intro l
      induction l with
      | nil => intro c r h; simp at h
      | cons x y ih =>
        intro c r h hc
        by_cases hx : p x = true
        · rw [List.dropWhile_cons_of_pos hx] at h; exact ih c r h hc
        · rw [List.dropWhile_cons_of_neg hx] at h
          cases h; exact hx hc
    exact this _ _ _ e hp

set_option maxHeartbeats 1000000 in
theorem skip_any (b k : Nat) (s : ByteArray) (v : Value) (w : World) (hb : Blk w b s k v) (hk : k ≤ s.size) (hs : s.size ≤ 1000000) :
    Calls Tryz.prog 76 #[.pointer (some ⟨b, 0, none⟩)] w fun e w' => e = .returned (.tuple #[]) ∧ Blk w' b s (skipPos s k) v ∧ w.grownBy w' (some b) := by
  go_enter Tryz.func76, Tryz.ntmps76
  go_wp2_with fail
  go_loopg [] (s.size - k) (fun g wr => ∃ j : Nat, j ≤ s.size ∧ s.size - j = g ∧ Blk wr b s j v ∧ w.grownBy wr (some b) ∧ skipC false (s.data.toList.drop k) = skipC false (s.data.toList.drop j))
  case atStart => exact ⟨k, hk, rfl, hb, grown_refl _ _, rfl⟩
  case round =>
    obtain ⟨j, hj, hg, hbj, hgr, hsk⟩ := hrel
    have HG := Lib.hid hg
    have HS := Lib.hid hsk
    clear hg hsk
    go_wp2_with fail
    refine (more_any 102 blankB blank_fn b j s v _ hbj hj hs).mono ?_
    rintro e w1 ⟨rfl, hb1, hg1⟩
    have hge := adv_ge blankB s j
    have hle := adv_le blankB s j hj
    have hst := adv_stop (p := blankB) (s := s) (k := j)
    have hdr := adv_drop blankB s j
    generalize adv blankB s j = j1 at *
    have HST := Lib.hid hst
    have HS1 : Hid (skipC false (s.data.toList.drop k) = skipC false (s.data.toList.drop j1)) := by
      rw [hdr]; exact HS.out.trans (skipC_blank _)
    clear hst hdr HS
    have hg2 := grown_trans hgr hg1
    clear hgr hg1 hbj hb
    have c0 := hb1.c0
    have c1 := hb1.c1
    by_cases hlt : j1 < s.size
    · have hd : ((j1 : Int) == (s.size : Int)) = false := by simp; omega
      by_cases h35 : s[j1].toNat = 35
      · have hd2 : ((s[j1].toNat : Int) != 35) = false := by simp [h35]
        have H35 := Lib.hid h35
        clear h35
        go_wp2_with fail
        go_quiet (fail)
        have hb2 := hb1.drewN nq
        have hg3 := grown_drewN hg2 nq
        clear c0 c1 hb1 hg2
        generalize w1.drewN nq = w2 at *
        go_wp2_with fail
        refine (moreLine_any b j1 s v _ hb2 hle hs).mono ?_
        rintro e w3 ⟨rfl, hb3, hg4⟩
        have hge2 : j1 < adv lineB s j1 := by
          unfold adv
          rw [drop_at s j1 hlt]
          have : lineB s[j1] = true := by simp [lineB, H35.out]
          simp [this]
        have hle2 := adv_le lineB s j1 hle
        have HS2 : Hid (skipC false (s.data.toList.drop k) = skipC false (s.data.toList.drop (adv lineB s j1))) := by
          show skipC false (s.data.toList.drop k) = skipC false (s.data.toList.drop (adv lineB s j1))
          rw [HS1.out, adv_drop, drop_at s j1 hlt]
          have h1 := HST.out hlt
          have h2 := H35.out
          have h3 : lineB s[j1] = true := by simp [lineB, h2]
          rw [List.dropWhile_cons_of_pos h3, ← skipC_line]
          simp [skipC, h1, h2]
        generalize adv lineB s j1 = j2 at *
        go_wp2_with fail
        go_roundg (s.size - j2)
        case measure => have := HG.out; omega
        case rel => exact ⟨j2, hle2, rfl, hb3, grown_trans hg3 hg4, HS2.out⟩
      · have hd2 : ((s[j1].toNat : Int) != 35) = true := by simp; omega
        have HE := Lib.hid (skip_end hle HS1.out HST.out (fun _ => h35))
        clear h35
        go_wp2_with fail
        go_quiet (fail)
        go_wp2_with fail
        refine bodyPost_ret (results_none rfl _ _ _) rfl ?_
        rw [HE.out]
        exact ⟨rfl, hb1.drewN _, grown_drewN hg2 _⟩
    · have hd : ((j1 : Int) == (s.size : Int)) = true := by simp; omega
      have HE := Lib.hid (skip_end hle HS1.out HST.out (fun h => absurd h hlt))
      go_wp2_with fail
      go_quiet (fail)
      go_wp2_with fail
      refine bodyPost_ret (results_none rfl _ _ _) rfl ?_
      rw [HE.out]
      exact ⟨rfl, hb1.drewN _, grown_drewN hg2 _⟩
end Go.Proofs.YtijcobeebaceoaaGreatDoor.Lx
namespace Go.Proofs.YtijcobeebaceoaaGreatDoor.Lx
set_option maxRecDepth 20000
open Go.RowKit

/-- A token. -/
structure Tok where
  kind : Int
  text : ByteArray
  n : Int
  at_ : Nat
def Tok.cells (t : Tok) : List Value := [.int .i64 t.kind, .string t.text, .int .i64 t.n, .int .i64 (t.at_ : Int)]
def tokCells (ts : List Tok) : List Value := ts.flatMap Tok.cells
theorem tokCells_snoc (ts : List Tok) (t : Tok) : tokCells (ts ++ [t]) = tokCells ts ++ t.cells := by simp [tokCells]

/-- The scanner, with what it has put so far. -/
def Sc (w : World) (b : Nat) (s : ByteArray) (k : Nat) (ts : List Tok) : Prop := ∃ v, Blk w b s k v ∧ w.ownsRow (b + 1) 64 4 v ts.length (tokCells ts)

theorem Sc.moved {w w' : World} {b k' : Nat} {s : ByteArray} {ts : List Tok} {v : Value} (ho : w.ownsRow (b + 1) 64 4 v ts.length (tokCells ts)) (hb' : Blk w' b s k' v) (hg : w.grownBy w' (some b)) : Sc w' b s k' ts := by
  refine ⟨v, hb', ho.kept hg ?_⟩
  cases hv : v.ownBlock with
  | none => exact .inl rfl
  | some g => exact .inr (fun e => by have := (ho.lt g hv).1; cases e; omega)
theorem below_of_grown {w w' : World} {b : Nat} (hg : w.grownBy w' (some b)) (hb : b ≤ w.heap.size) : Below b w w' :=
  (Below.refl b w).grown hg hb (fun k hk => by cases hk; exact Nat.le_refl _)

theorem info35 : (Tryz.prog.info? 64).map (fun i => (i.zero, i.size, i.bytes)) = some (some (.agg #[.int .i64 0, .string ⟨#[]⟩, .int .i64 0, .int .i64 0]), 4, 40) := by kernel_rfl

/-- A block that has just been laid: its cells. -/
theorem cells_new (w : World) (xs : List Value) (t : TypeId) : ∀ (j : Nat) (u : Value), xs[j]? = some u → (w.alloc (.cells xs.toArray t)).cell? ((⟨w.heap.size, 0, none⟩ : Addr).add j) = some u := by
  intro j u h
  have hadd : (⟨w.heap.size, 0, none⟩ : Addr).add j = ⟨w.heap.size, j, none⟩ := by unfold Addr.add; split <;> simp_all
  rw [hadd, cell_of_row _ w.heap.size j xs.toArray t (0, 0) (heap_alloc_new w _)]
  simpa using h
theorem tok_one (t : Tok) : ∀ u, u ∈ t.cells → u.oneCell' = true := by
  intro u h
  simp [Tok.cells] at h
  rcases h with rfl | rfl | rfl | rfl <;> rfl
theorem owned_some {w : World} {base : Nat} {e : TypeId} {size : Nat} {v : Value} {n : Nat} {xs : List Value} (h : w.ownsRow base e size v (n + 1) xs) : ∃ g cap, v = .slice (some ⟨g, 0, none⟩) (n + 1) cap := by
  rcases h.2 with ⟨_, h0⟩ | ⟨g, cap, _, hv, _⟩
  · omega
  · exact ⟨g, cap, hv⟩
theorem Blk.later {w w1 : World} {b k : Nat} {s : ByteArray} {v : Value} (h : Blk w b s k v) (o : Obj) {r : Option Nat} (hg : (w.alloc o).grownBy w1 r) (hr : r ≠ some b) : Blk w1 b s k v := by
  unfold Blk at *
  rw [hg.block b (by have := lt_of_block h; simp; omega) (fun e => hr e.symm), Below.heap_alloc w o b (lt_of_block h)]
  exact h
theorem own_ne {w : World} {b : Nat} {v : Value} {n : Nat} {xs : List Value} (ho : w.ownsRow (b + 1) 64 4 v n xs) : v.ownBlock ≠ some b := by
  intro e
  have := (ho.lt b e).1
  omega

set_option maxHeartbeats 400000 in
theorem put_long (b : Nat) (kind n : Int) (text : ByteArray) (at_ : Int) (w : World) (h3 : kind ≠ 3) (h4 : kind ≠ 4) (hl : 40 < (text.size : Int)) :
    Calls Tryz.prog 78 #[.pointer (some ⟨b, 0, none⟩), .int .i64 kind, .string text, .int .i64 n, .int .i64 at_] w fun e w' => e = .returned (.int .i64 104) ∧ w = w' := by
  have h3' : (kind != 3) = true := by simp [h3]
  have h4' : (kind != 4) = true := by simp [h4]
  go_enter Tryz.func78, Tryz.ntmps78
  go_wp2
  go_ret
  exact ⟨rfl, rfl⟩

set_option maxHeartbeats 1000000 in
theorem put_any (b : Nat) (s : ByteArray) (k : Nat) (ts : List Tok) (kind n : Int) (text : ByteArray) (at_ : Nat) (w : World) (hsc : Sc w b s k ts) (hts : ts.length ≤ 1000000)
    (h : kind = 3 ∨ kind = 4 ∨ (text.size : Int) ≤ 40) :
    Calls Tryz.prog 78 #[.pointer (some ⟨b, 0, none⟩), .int .i64 kind, .string text, .int .i64 n, .int .i64 (at_ : Int)] w fun e w' => e = .returned (.int .i64 0) ∧ Sc w' b s k (ts ++ [⟨kind, text, n, at_⟩]) ∧ Below b w w' := by
  obtain ⟨v, hb, ho⟩ := hsc
  obtain ⟨i0, hi, hz0, hz1, hz2⟩ := info_parts info35
  have c2 := hb.c2
  have hlt := hb.lt
  have hcase : (kind != 3) = false ∨ ((kind != 3) = true ∧ (kind != 4) = false) ∨ ((kind != 3) = true ∧ (kind != 4) = true ∧ (text.size : Int) ≤ 40) := by
    simp only [bne_iff_ne, bne_eq_false_iff_eq]
    omega
  clear h
  rcases hcase with h3 | ⟨h3, h4⟩ | ⟨h3, h4, h40⟩
  all_goals
    go_enter Tryz.func78, Tryz.ntmps78
    go_wp2_with (at_builtin; refine wpList_append_own _ rfl _ _ 66 rfl (b + 1) 64 i0 (.agg #[.int .i64 0, .string ⟨#[]⟩, .int .i64 0, .int .i64 0]) 4 40 Tryz.underlying66 hi hz0 hz1 hz2 rfl (by decide) v ts.length (tokCells ts) rfl (ho.alloc _) ⟨w.heap.size, 0, none⟩ 1 1 (Tok.cells ⟨kind, text, n, at_⟩) rfl rfl ?_ ?_ ?_ ?_ ?_ ?_)
    · exact cells_new w (Tok.cells ⟨kind, text, n, at_⟩) 64
    · exact tok_one _
    · unfold maxLen; omega
    · omega
    · simp; omega
    · intro v' w1 ho' hgr _
      have hne := own_ne ho
      have hb1 := hb.later _ hgr hne
      have hbl : Below b w w1 := ((Below.refl b w).alloc (by omega) _).grown hgr (by simp; omega) (fun g hg => by have := (ho.lt g hg).1; omega)
      obtain ⟨g, cap, hv⟩ := owned_some ho'
      rw [hv] at ho' ⊢
      have f2 := hb1.f 2
      have c2' := hb1.c2
      have HO := Lib.hid ho'
      have HG := Lib.hid hgr
      clear c2 ho hb ho' hgr hv
      go_wp2
      go_ret
      refine ⟨rfl, ⟨_, hb1.set2 _, ?_⟩, hbl.setCell (Nat.le_refl _) _⟩
      rw [tokCells_snoc, List.length_append]
      exact ownsRow_setCell_below HO.out (by simp) _
end Go.Proofs.YtijcobeebaceoaaGreatDoor.Lx
namespace Go.Proofs.YtijcobeebaceoaaGreatDoor.Lx
set_option maxRecDepth 20000
open Go.RowKit

/-- What comes of a token: it is put, and the scanner stands behind it; or an error's number is returned. -/
def Got (w : World) (b : Nat) (s : ByteArray) (ts : List Tok) (r : Except Int (Tok × Nat)) (e : Ending) (w' : World) : Prop :=
  match r with
  | .ok (t, j) => e = .returned (.int .i64 0) ∧ Sc w' b s j (ts ++ [t]) ∧ Below b w w'
  | .error c => e = .returned (.int .i64 c) ∧ Below b w w'

theorem Got.after {w w1 : World} {b : Nat} {s : ByteArray} {ts : List Tok} {r : Except Int (Tok × Nat)} {e : Ending} {w' : World} (hb : Below b w w1) (h : Got w1 b s ts r e w') : Got w b s ts r e w' := by
  unfold Got at *
  split at h
  · exact ⟨h.1, h.2.1, hb.trans h.2.2⟩
  · exact ⟨h.1, hb.trans h.2⟩
theorem Got.is {w : World} {b : Nat} {s : ByteArray} {ts : List Tok} {r : Except Int (Tok × Nat)} {e : Ending} {w' : World} (h : Got w b s ts r e w') : ∃ c, e = .returned (.int .i64 c) := by
  unfold Got at h
  split at h
  · exact ⟨_, h.1⟩
  · exact ⟨_, h.1⟩

def putR (kind : Int) (x : ByteArray) (n : Int) (at_ : Nat) (k : Nat) : Except Int (Tok × Nat) :=
  if kind ≠ 3 ∧ kind ≠ 4 ∧ 40 < (x.size : Int) then .error 104 else .ok (⟨kind, x, n, at_⟩, k)

theorem put_got (b : Nat) (s : ByteArray) (k : Nat) (ts : List Tok) (kind n : Int) (x : ByteArray) (at_ : Nat) (w : World) (hsc : Sc w b s k ts) (hts : ts.length ≤ 1000000) :
    Calls Tryz.prog 78 #[.pointer (some ⟨b, 0, none⟩), .int .i64 kind, .string x, .int .i64 n, .int .i64 (at_ : Int)] w (Got w b s ts (putR kind x n at_ k)) := by
  by_cases h : kind ≠ 3 ∧ kind ≠ 4 ∧ 40 < (x.size : Int)
  · refine (put_long b kind n x at_ w h.1 h.2.1 h.2.2).mono ?_
    rintro e w' ⟨rfl, rfl⟩
    unfold Got putR
    rw [if_pos h]
    exact ⟨rfl, Below.refl _ _⟩
  · refine (put_any b s k ts kind n x at_ w hsc hts (by omega)).mono ?_
    rintro e w' ⟨rfl, h1, h2⟩
    unfold Got putR
    rw [if_neg h]
    exact ⟨rfl, h1, h2⟩

def kindW (x : ByteArray) : Int := if keyB x = true then 6 else if (x.toList == [95]) = true then 7 else if headB upB x = true then 2 else 1
def wordR (s : ByteArray) (k : Nat) : Except Int (Tok × Nat) := putR (kindW (s.extract k (adv insideB s k))) (s.extract k (adv insideB s k)) 0 k (adv insideB s k)

theorem size_extract (s : ByteArray) (k j : Nat) (hj : j ≤ s.size) : (s.extract k j).size = j - k := by
  simp [ByteArray.size_extract]; omega

set_option maxHeartbeats 1000000 in
theorem word_any (b k : Nat) (s : ByteArray) (ts : List Tok) (w : World) (hsc : Sc w b s k ts) (hk : k < s.size) (hs : s.size ≤ 1000000) (hts : ts.length ≤ 1000000) (hin : insideB s[k] = true) :
    Calls Tryz.prog 106 #[.pointer (some ⟨b, 0, none⟩)] w (Got w b s ts (wordR s k)) := by
  obtain ⟨v, hb, ho⟩ := hsc
  have c1 := hb.c1
  go_enter Tryz.func106, Tryz.ntmps106
  go_wp2_with fail
  refine (more_any 137 insideB inside_fn b k s v _ hb (by omega) hs).mono ?_
  rintro e w1 ⟨rfl, hb1, hg1⟩
  have hsc1 := Sc.moved ho hb1 hg1
  have hbl := below_of_grown hg1 (Nat.le_of_lt hb.lt)
  have hlt : k < adv insideB s k := by
    unfold adv
    rw [drop_at s k hk]
    simp [hin]
  have hle := adv_le insideB s k (by omega)
  have HR : Hid (wordR s k = putR (kindW (s.extract k (adv insideB s k))) (s.extract k (adv insideB s k)) 0 k (adv insideB s k)) := rfl
  have hsz := size_extract s k (adv insideB s k) hle
  have hx0 : 0 < (s.extract k (adv insideB s k)).size := by omega
  clear hsz hb1 hg1 ho hb c1
  generalize s.extract k (adv insideB s k) = x at *
  generalize adv insideB s k = j at *
  have HH := Lib.hid (headB_at upB x hx0)
  have hkind : (keyB x = true ∧ kindW x = 6) ∨ (keyB x = false ∧ (x.toList == [95]) = true ∧ kindW x = 7) ∨ (keyB x = false ∧ (x.toList == [95]) = false ∧ upB x[0] = true ∧ kindW x = 2) ∨ (keyB x = false ∧ (x.toList == [95]) = false ∧ upB x[0] = false ∧ kindW x = 1) := by
    unfold kindW
    rw [HH.out]
    cases keyB x <;> cases (x.toList == [95]) <;> cases upB x[0] <;> simp
  clear HH
  rcases hkind with ⟨h1, h4⟩ | ⟨h1, h2, h4⟩ | ⟨h1, h2, h3, h4⟩ | ⟨h1, h2, h3, h4⟩
  all_goals
    have HK := Lib.hid h4
    clear h4
    go_wp2_with (first | (go_at_call 138; refine (key_any _ _).mono ?_; rintro e w' ⟨rfl, rfl⟩) | (go_at_call 105; refine (up_any _ _).mono ?_; rintro e w' ⟨rfl, rfl⟩))
    refine (put_got b s j ts _ _ x k _ hsc1 hts).mono ?_
    rintro e w2 hgot
    obtain ⟨c, rfl⟩ := hgot.is
    have HGOT := Lib.hid hgot
    clear hgot
    go_wp2_with fail
    go_ret
    rw [HR.out, HK.out]
    exact Got.after hbl HGOT.out
end Go.Proofs.YtijcobeebaceoaaGreatDoor.Lx
namespace Go.Proofs.YtijcobeebaceoaaGreatDoor.Lx
set_option maxRecDepth 20000
open Go.RowKit

/-- One digit more, as the code adds it: in 64 bits; 'true': it has been above 2^62. -/
def stepD (a : Int × Bool) (c : UInt8) : Int × Bool := if a.2 = true then a else (IntKind.u64.wrap (IntKind.u64.wrap (10 * a.1) + ((c.toNat : Int) - 48)), decide (4611686018427387904 < IntKind.u64.wrap (IntKind.u64.wrap (10 * a.1) + ((c.toNat : Int) - 48))))
theorem wrapU_bd (n : Int) : 0 ≤ IntKind.u64.wrap n ∧ IntKind.u64.wrap n < 18446744073709551616 := by
  simp [IntKind.wrap, IntKind.signed, IntKind.bits]
  omega
def foldD (l : List UInt8) : Int × Bool := l.foldl stepD (0, false)

theorem foldD_bd (l : List UInt8) : 0 ≤ (foldD l).1 ∧ (foldD l).1 < 18446744073709551616 := by
  unfold foldD
  have : ∀ (l : List UInt8) (a : Int × Bool), 0 ≤ a.1 ∧ a.1 < 18446744073709551616 → 0 ≤ (l.foldl stepD a).1 ∧ (l.foldl stepD a).1 < 18446744073709551616 := by
    intro l
    induction l with
    | nil => intro a h; exact h
    | cons c r ih =>
      intro a h
      apply ih
      unfold stepD
      split
      · exact h
      · exact wrapU_bd _
  exact this l (0, false) (by simp)

theorem foldD_snoc (s : ByteArray) (k : Nat) (h : k < s.size) : foldD (s.data.toList.take (k + 1)) = stepD (foldD (s.data.toList.take k)) s[k] := by
  unfold foldD
  rw [take_snoc s k h, List.foldl_append]
  rfl
theorem all_at {p : UInt8 → Bool} {s : ByteArray} (h : allB p s = true) (k : Nat) (hk : k < s.size) : p s[k] = true := by
  unfold allB at h
  rw [List.all_eq_true] at h
  exact h _ (mem_at s k hk)

set_option maxHeartbeats 1000000 in
theorem digits_any (s : ByteArray) (w : World) (h0 : 0 < s.size) (hs : s.size ≤ 1000000) (hz : s.size = 1 ∨ ((s[0].toNat : Int) == 48) = false) (hd : allB digitB s = true) :
    Calls Tryz.prog 154 #[.string s] w fun e w' => e = .returned (.tuple #[.int .u64 (foldD s.data.toList).1, .bool (foldD s.data.toList).2, .bool true]) ∧ w = w' := by
  have he : s.toList.isEmpty = false := by
    rw [ByteArray.toList_eq]
    obtain ⟨⟨l⟩⟩ := s
    cases l with
    | nil => exact absurd h0 (by decide)
    | cons _ _ => rfl
  have hone : decide ((1 : Int) < (s.size : Int)) = false ∨ (decide ((1 : Int) < (s.size : Int)) = true ∧ ((s[0].toNat : Int) == 48) = false) := by
    rcases hz with h | h
    · left; simp; omega
    · by_cases h1 : s.size = 1
      · left; simp; omega
      · right; exact ⟨by simp; omega, h⟩
  clear hz
  rcases hone with h1 | ⟨h1, h2⟩
  all_goals
    go_enter Tryz.func154, Tryz.ntmps154
    go_wp2_with fail
    go_loop [2, 3, 4, 5, 20] (fun n g o _ i => ∃ k : Nat, k ≤ s.size ∧ i = .int .i64 k ∧ o = .bool false ∧ n = .int .u64 (foldD (s.data.toList.take k)).1 ∧ g = .bool (foldD (s.data.toList.take k)).2) (fun _ _ _ _ i => s.size - (intOf i).toNat)
    case atStart => exact ⟨0, Nat.zero_le _, rfl, rfl, rfl, rfl⟩
    case round =>
      obtain ⟨k, hk, rfl, rfl, rfl, rfl⟩ := hrel
      by_cases hlt : k < s.size
      · have hdk := all_at hd k hlt
        have hd1 : 48 ≤ (s[k].toNat : Int) ∧ (s[k].toNat : Int) ≤ 57 := by
          simp [digitB] at hdk
          omega
        have HS := Lib.hid (foldD_snoc s k hlt)
        have hbd := foldD_bd (s.data.toList.take k)
        generalize foldD (s.data.toList.take k) = a at *
        obtain ⟨n, g⟩ := a
        obtain ⟨hlo, hhi⟩ := hd1
        obtain ⟨hb0, hb1⟩ := hbd
        simp only at hb0 hb1
        clear hdk hd
        cases g
        all_goals go_wp2_with fail
        all_goals
          go_round
          case rel => exact ⟨k + 1, by omega, by go_num, rfl, by rw [HS.out]; rfl, by rw [HS.out]; rfl⟩
          case measure => simp [intOf]; omega
      · go_wp2_with fail
        go_ret3
        rw [take_all s k hlt]
        exact ⟨rfl, rfl⟩
end Go.Proofs.YtijcobeebaceoaaGreatDoor.Lx
namespace Go.Proofs.YtijcobeebaceoaaGreatDoor.Lx
set_option maxRecDepth 20000
open Go.RowKit

def half : Int := 4611686018427387904
/-- The number that digits tell, as the code reads them. -/
def parseD (l : List UInt8) : Option Int := if (foldD l).2 = true ∨ (foldD l).1 = 4611686018427387904 then none else some (foldD l).1

theorem foldD_small (l : List UInt8) (h : (foldD l).2 = false) : (foldD l).1 ≤ 4611686018427387904 := by
  unfold foldD at *
  have : ∀ (l : List UInt8) (a : Int × Bool), (a.2 = false → a.1 ≤ 4611686018427387904) → (l.foldl stepD a).2 = false → (l.foldl stepD a).1 ≤ 4611686018427387904 := by
    intro l
    induction l with
    | nil => intro a h; exact h
    | cons c r ih =>
      intro a h
      apply ih
      unfold stepD
      split
      · exact h
      · intro h1
        simpa using h1
  exact this l (0, false) (by simp) h

set_option maxHeartbeats 1000000 in
theorem parse_yes (s : ByteArray) (w : World) (n : Int) (h0 : 0 < s.size) (hs : s.size ≤ 1000000) (hz : s.size = 1 ∨ ((s[0].toNat : Int) == 48) = false) (hd : allB digitB s = true) (hp : parseD s.data.toList = some n) :
    Calls Tryz.prog 140 #[.string s] w fun e w' => e = .returned (.tuple #[.int .i64 n, .int .i64 0]) ∧ w = w' := by
  have hd0 := all_at hd 0 h0
  have hneg : ((s[0].toNat : Int) == 45) = false := by
    simp [digitB] at hd0
    simp; omega
  have hlen : decide ((0 : Int) < (s.size : Int)) = true := by simp; omega
  have hbd := foldD_bd s.data.toList
  have hsm := foldD_small s.data.toList
  have HD := Lib.hid (digits_any s w h0 hs hz hd)
  clear hd0 hz hd
  unfold parseD at hp
  generalize foldD s.data.toList = a at *
  obtain ⟨m, g⟩ := a
  cases g with
  | true => simp at hp
  | false =>
    by_cases hm : m = 4611686018427387904
    · simp [hm] at hp
    · obtain rfl : m = n := by simpa [hm] using hp
      have hm' : (m == 4611686018427387904) = false := by simp [hm]
      have hlt : m < 4611686018427387904 := by have := hsm rfl; simp only at this; omega
      obtain ⟨hb0, hb1⟩ := hbd
      simp only at hb0 hb1
      clear hp hm hsm hb1
      go_enter Tryz.func140, Tryz.ntmps140
      go_wp2_with (go_at_call 154; refine HD.out.mono ?_; rintro e w' ⟨rfl, rfl⟩)
      go_ret2
      exact ⟨rfl, rfl⟩

set_option maxHeartbeats 1000000 in
theorem parse_no (s : ByteArray) (w : World) (h0 : 0 < s.size) (hs : s.size ≤ 1000000) (hz : s.size = 1 ∨ ((s[0].toNat : Int) == 48) = false) (hd : allB digitB s = true) (hp : parseD s.data.toList = none) :
    Calls Tryz.prog 140 #[.string s] w fun e w' => e = .returned (.tuple #[.int .i64 0, .int .i64 3]) ∧ w = w' := by
  have hd0 := all_at hd 0 h0
  have hneg : ((s[0].toNat : Int) == 45) = false := by
    simp [digitB] at hd0
    simp; omega
  have hlen : decide ((0 : Int) < (s.size : Int)) = true := by simp; omega
  have HD := Lib.hid (digits_any s w h0 hs hz hd)
  clear hd0 hz hd
  unfold parseD at hp
  generalize foldD s.data.toList = a at *
  obtain ⟨m, g⟩ := a
  have hcase : g = true ∨ (g = false ∧ (m == 4611686018427387904) = true) := by
    cases g
    · right; simpa using hp
    · left; rfl
  clear hp
  rcases hcase with rfl | ⟨rfl, hm⟩
  all_goals
    go_enter Tryz.func140, Tryz.ntmps140
    go_wp2_with (go_at_call 154; refine HD.out.mono ?_; rintro e w' ⟨rfl, rfl⟩)
    go_ret2
    exact ⟨rfl, rfl⟩

/-- A number's digits, no nought ahead. -/
def numText (l : List UInt8) : List UInt8 := if Lib.trimLeftB l 48 = [] then [48] else Lib.trimLeftB l 48
def numOf (l : List UInt8) (k j : Nat) : Except Int (Tok × Nat) :=
  match parseD l with
  | none => .error 102
  | some n => putR 3 (textOf l) n k j
def numR (s : ByteArray) (k : Nat) : Except Int (Tok × Nat) := numOf (numText ((s.data.toList.drop k).takeWhile digitB)) k (adv digitB s k)

theorem numText_all (l : List UInt8) (h : l.all digitB = true) : (numText l).all digitB = true := by
  unfold numText
  split
  · decide
  · rw [List.all_eq_true] at *
    intro x hx
    exact h x ((List.dropWhile_sublist _).mem hx)
theorem numText_ne (l : List UInt8) : numText l ≠ [] := by
  unfold numText
  split
  · simp
  · assumption
theorem numText_head (l : List UInt8) (c : UInt8) (r : List UInt8) (h : numText l = c :: r) : r = [] ∨ c ≠ 48 := by
  unfold numText at h
  split at h
  · simp at h; exact .inl h.2
  · right
    unfold Lib.trimLeftB at h
    intro e
    subst e
    have : ∀ l : List UInt8, ∀ r, l.dropWhile (· == 48) = 48 :: r → False := by
      intro l
      induction l with
      | nil => intro r h; simp at h
      | cons x y ih =>
        intro r h
        by_cases hx : x = 48
        · rw [List.dropWhile_cons_of_pos (by simp [hx])] at h; exact ih r h
        · rw [List.dropWhile_cons_of_neg (by simp [hx])] at h
          cases h; exact hx rfl
    exact this _ _ h
theorem numText_len (l : List UInt8) : (numText l).length ≤ l.length + 1 := by
  unfold numText
  split
  · simp
  · have := (List.dropWhile_sublist (· == (48 : UInt8)) (l := l)).length_le
    unfold Lib.trimLeftB
    omega

theorem textOf_size (l : List UInt8) : (textOf l).size = l.length := by simp [textOf, ByteArray.size]
theorem textOf_all (p : UInt8 → Bool) (l : List UInt8) : allB p (textOf l) = l.all p := by simp [textOf, allB]
theorem textOf_data (l : List UInt8) : (textOf l).data.toList = l := rfl
theorem textOf_toList (l : List UInt8) : (textOf l).toList = l := by rw [ByteArray.toList_eq]; rfl

theorem mem_tw (p : UInt8 → Bool) : ∀ (l : List UInt8) (x : UInt8), x ∈ l.takeWhile p → p x = true
  | [], x, h => by simp at h
  | c :: r, x, h => by
    by_cases hc : p c = true
    · rw [List.takeWhile_cons_of_pos hc] at h
      rcases List.mem_cons.1 h with rfl | h
      · exact hc
      · exact mem_tw p r x h
    · rw [List.takeWhile_cons_of_neg hc] at h
      cases h
theorem numText_empty {l : List UInt8} (h : (Lib.trimLeftB l 48).isEmpty = true) : (ByteArray.mk #[48]) = textOf (numText l) := by
  have : Lib.trimLeftB l 48 = [] := by simpa using h
  unfold numText
  rw [if_pos this]
  rfl
theorem numText_full {l : List UInt8} (h : (Lib.trimLeftB l 48).isEmpty = false) : (ByteArray.mk (Lib.trimLeftB l 48).toArray) = textOf (numText l) := by
  have : ¬ Lib.trimLeftB l 48 = [] := by simpa using h
  unfold numText
  rw [if_neg this]
  rfl

set_option maxHeartbeats 1000000 in
theorem number_any (b k : Nat) (s : ByteArray) (ts : List Tok) (w : World) (hsc : Sc w b s k ts) (hk : k < s.size) (hs : s.size ≤ 100000) (hts : ts.length ≤ 1000000) :
    Calls Tryz.prog 108 #[.pointer (some ⟨b, 0, none⟩)] w (Got w b s ts (numR s k)) := by
  obtain ⟨v, hb, ho⟩ := hsc
  have c1 := hb.c1
  go_enter Tryz.func108, Tryz.ntmps108
  go_wp2_with fail
  refine (more_any 107 digitB digit_fn b k s v _ hb (by omega) (by omega)).mono ?_
  rintro e w1 ⟨rfl, hb1, hg1⟩
  have hsc1 := Sc.moved ho hb1 hg1
  have hbl := below_of_grown hg1 (Nat.le_of_lt hb.lt)
  have hle := adv_le digitB s k (by omega)
  have hsz := size_extract s k (adv digitB s k) hle
  have htx := adv_text digitB s k
  have hall : ((s.data.toList.drop k).takeWhile digitB).all digitB = true := by
    rw [List.all_eq_true]
    intro x hx
    exact mem_tw _ _ _ hx
  have hlen : (numText ((s.data.toList.drop k).takeWhile digitB)).length ≤ 1000000 := by
    have h1 := numText_len ((s.data.toList.drop k).takeWhile digitB)
    have h2 : ((s.data.toList.drop k).takeWhile digitB).length ≤ s.size := by
      have := (List.takeWhile_sublist digitB (l := s.data.toList.drop k)).length_le
      have hl : s.data.toList.length = s.size := rfl
      rw [List.length_drop] at this
      omega
    omega
  have HR : Hid (numR s k = numOf (numText ((s.data.toList.drop k).takeWhile digitB)) k (adv digitB s k)) := rfl
  rw [← htx] at hall hlen HR
  clear hsz hb1 hg1 ho hb c1 htx
  generalize s.extract k (adv digitB s k) = x at *
  generalize adv digitB s k = j at *
  go_wp2_with fail
  refine (Tryz.strings_TrimLeft_one _ 48 (by decide) _).mono ?_
  rintro e w' ⟨rfl, rfl⟩
  go_wp2_with fail
  all_goals
    first | rw [numText_empty (by assumption)] | rw [numText_full (by assumption)]
    have hA := numText_all _ hall
    have hN := numText_ne x.data.toList
    have hH := numText_head x.data.toList
    generalize numText x.data.toList = y at *
    have h0 : 0 < (textOf y).size := by rw [textOf_size]; cases y with | nil => exact absurd rfl hN | cons _ _ => simp
    have hz : (textOf y).size = 1 ∨ (((textOf y)[0].toNat : Int) == 48) = false := by
      cases y with
      | nil => exact absurd rfl hN
      | cons c r =>
        rcases hH c r rfl with rfl | h
        · left; rfl
        · right
          show ((c.toNat : Int) == 48) = false
          simp
          intro e
          exact h (UInt8.toNat_inj.1 (by have h48 : (48 : UInt8).toNat = 48 := rfl; omega))
    have hd : allB digitB (textOf y) = true := by rw [textOf_all]; exact hA
    have hsz : (textOf y).size ≤ 1000000 := by rw [textOf_size]; exact hlen
    clear hall hA hN hH hlen
    cases hp : parseD y with
    | none =>
      refine (parse_no (textOf y) _ h0 hsz hz hd hp).mono ?_
      rintro e w2 ⟨rfl, rfl⟩
      have HP := Lib.hid hp
      clear hp hz hd
      go_wp2_with fail
      go_ret
      rw [HR.out]
      unfold numOf
      rw [HP.out]
      exact ⟨rfl, hbl⟩
    | some n =>
      refine (parse_yes (textOf y) _ n h0 hsz hz hd hp).mono ?_
      rintro e w2 ⟨rfl, rfl⟩
      have HP := Lib.hid hp
      clear hp hz hd
      go_wp2_with fail
      refine (put_got b s j ts _ _ _ k _ hsc1 hts).mono ?_
      rintro e w3 hgot
      obtain ⟨c, rfl⟩ := hgot.is
      have HGOT := Lib.hid hgot
      clear hgot
      go_wp2_with fail
      go_ret
      rw [HR.out]
      unfold numOf
      rw [HP.out]
      exact Got.after hbl HGOT.out
end Go.Proofs.YtijcobeebaceoaaGreatDoor.Lx
namespace Go.Proofs.YtijcobeebaceoaaGreatDoor.Lx
set_option maxRecDepth 20000
open Go.RowKit

/-- What a byte behind a backslash stands for. -/
def escC (d : UInt8) : Option UInt8 := if d.toNat = 110 then some 10 else if d.toNat = 116 then some 9 else if d.toNat = 34 then some 34 else if d.toNat = 92 then some 92 else none
/-- A text behind its opening mark, and what follows it. -/
def textL : List UInt8 → Option (List UInt8 × List UInt8)
  | [] => none
  | c :: r =>
    if c.toNat = 34 then some ([], r)
    else if c.toNat = 10 then none
    else if c.toNat = 92 then
      match r with
      | [] => none
      | d :: r' =>
        match escC d with
        | none => none
        | some x => (textL r').map fun p => (x :: p.1, p.2)
    else (textL r).map fun p => (c :: p.1, p.2)

theorem textL_cons (c : UInt8) (r : List UInt8) : textL (c :: r) =
    if c.toNat = 34 then some ([], r)
    else if c.toNat = 10 then none
    else if c.toNat = 92 then
      match r with
      | [] => none
      | d :: r' =>
        match escC d with
        | none => none
        | some x => (textL r').map fun p => (x :: p.1, p.2)
    else (textL r).map fun p => (c :: p.1, p.2) := by
  cases r <;> rfl

def textOfR (o : Option (List UInt8 × List UInt8)) (s : ByteArray) (k : Nat) : Except Int (Tok × Nat) :=
  match o with
  | none => .error 103
  | some (x, r) => putR 4 (textOf x) 0 k (s.size - r.length)
def textR (s : ByteArray) (k : Nat) : Except Int (Tok × Nat) := textOfR (textL (s.data.toList.drop (k + 1))) s k

def more' (acc : List UInt8) (o : Option (List UInt8 × List UInt8)) : Option (List UInt8 × List UInt8) := o.map fun p => (acc ++ p.1, p.2)

theorem more'_nil (o : Option (List UInt8 × List UInt8)) : more' [] o = o := by cases o <;> rfl
theorem textL_plain {s : ByteArray} {j : Nat} (h : j < s.size) (acc : List UInt8) (h1 : s[j].toNat ≠ 34) (h2 : s[j].toNat ≠ 10) (h3 : s[j].toNat ≠ 92) :
    more' acc (textL (s.data.toList.drop j)) = more' (acc ++ [s[j]]) (textL (s.data.toList.drop (j + 1))) := by
  rw [drop_at s j h, textL_cons]
  simp only [h1, h2, h3, if_false]
  cases textL (s.data.toList.drop (j + 1)) <;> simp [more']
theorem textL_quote {s : ByteArray} {j : Nat} (h : j < s.size) (acc : List UInt8) (h1 : s[j].toNat = 34) :
    more' acc (textL (s.data.toList.drop j)) = some (acc, s.data.toList.drop (j + 1)) := by
  rw [drop_at s j h, textL_cons]
  simp [h1, more']
theorem textL_line {s : ByteArray} {j : Nat} (h : j < s.size) (acc : List UInt8) (h1 : s[j].toNat = 10) : more' acc (textL (s.data.toList.drop j)) = none := by
  rw [drop_at s j h, textL_cons]
  simp [h1, more']
theorem textL_end {s : ByteArray} {j : Nat} (h : ¬ j < s.size) (acc : List UInt8) : more' acc (textL (s.data.toList.drop j)) = none := by
  have hl : s.data.toList.length = s.size := rfl
  rw [List.drop_eq_nil_of_le (by omega)]
  rfl
theorem textL_back_end {s : ByteArray} {j : Nat} (h : j < s.size) (acc : List UInt8) (h1 : s[j].toNat = 92) (h2 : ¬ j + 1 < s.size) : more' acc (textL (s.data.toList.drop j)) = none := by
  have hl : s.data.toList.length = s.size := rfl
  rw [drop_at s j h, List.drop_eq_nil_of_le (by omega), textL_cons]
  simp [h1, more']
theorem textL_back {s : ByteArray} {j : Nat} (h : j < s.size) (acc : List UInt8) (h1 : s[j].toNat = 92) (h2 : j + 1 < s.size) :
    more' acc (textL (s.data.toList.drop j)) = match escC s[j + 1] with | none => none | some x => more' (acc ++ [x]) (textL (s.data.toList.drop (j + 2))) := by
  rw [drop_at s j h, drop_at s (j + 1) h2, textL_cons]
  simp only [h1]
  cases escC s[j + 1] with
  | none => simp [more']
  | some x => cases textL (s.data.toList.drop (j + 2)) <;> simp [more']

theorem esc_index (d : UInt8) : (Lib.indexByte [110, 116, 34, 92] d = -1 ∧ escC d = none) ∨ (Lib.indexByte [110, 116, 34, 92] d = 0 ∧ escC d = some 10) ∨ (Lib.indexByte [110, 116, 34, 92] d = 1 ∧ escC d = some 9) ∨ (Lib.indexByte [110, 116, 34, 92] d = 2 ∧ escC d = some 34) ∨ (Lib.indexByte [110, 116, 34, 92] d = 3 ∧ escC d = some 92) := by
  revert d
  have : ∀ n : Fin 256, (Lib.indexByte [110, 116, 34, 92] (UInt8.ofNat n) = -1 ∧ escC (UInt8.ofNat n) = none) ∨ (Lib.indexByte [110, 116, 34, 92] (UInt8.ofNat n) = 0 ∧ escC (UInt8.ofNat n) = some 10) ∨ (Lib.indexByte [110, 116, 34, 92] (UInt8.ofNat n) = 1 ∧ escC (UInt8.ofNat n) = some 9) ∨ (Lib.indexByte [110, 116, 34, 92] (UInt8.ofNat n) = 2 ∧ escC (UInt8.ofNat n) = some 34) ∨ (Lib.indexByte [110, 116, 34, 92] (UInt8.ofNat n) = 3 ∧ escC (UInt8.ofNat n) = some 92) := by decide +kernel
  intro d
  have := this ⟨d.toNat, d.toNat_lt⟩
  simpa using this

def byteCells (l : List UInt8) : List Value := l.map fun c => Value.int .u8 (c.toNat : Int)
theorem byteCells_snoc (l : List UInt8) (c : UInt8) : byteCells (l ++ [c]) = byteCells l ++ [Value.int .u8 (c.toNat : Int)] := by simp [byteCells]

/-- An owned row of bytes as a text. -/
theorem own_string {w : World} {base : Nat} {v : Value} {l : List UInt8} (h : w.ownsRow base 5 1 v l.length (byteCells l)) : (convert 180 9 v).run Tryz.prog w = .ok (.string (textOf l)) w := by
  rcases h.2 with ⟨rfl, h0⟩ | ⟨g, cap, cur, rfl, _, hg, _⟩
  · rw [run_convert_bytes_nil w 180 5 Tryz.underlying180 Tryz.underlying5 0 0 9 Tryz.underlying9]
    have : l = [] := List.eq_nil_of_length_eq_zero h0
    subst this
    rfl
  · refine run_convert_bytes_back w 180 9 5 ⟨g, 0, none⟩ cap l Tryz.underlying180 Tryz.underlying5 Tryz.underlying9 ?_
    intro j hj
    exact h.cells (g := g) rfl j _ (by simp [byteCells, hj])

/-- The state of 'text': the scanner, its tokens, the text so far. -/
structure Tx (w0 : World) (b B2 : Nat) (s : ByteArray) (ts : List Tok) (v : Value) (j : Nat) (acc : List UInt8) (bv : Value) (w : World) : Prop where
  blk : Blk w b s j v
  own : w.ownsRow (b + 1) 64 4 v ts.length (tokCells ts)
  byt : w.ownsRow B2 5 1 bv acc.length (byteCells acc)
  bel : Below b w0 w
  hB : B2 ≤ w.heap.size
  hb : b < B2
  hv : ∀ g, v.ownBlock = some g → g < B2

section
variable {w0 w : World} {b B2 : Nat} {s : ByteArray} {ts : List Tok} {v : Value} {j : Nat} {acc : List UInt8} {bv : Value}
theorem Tx.drewN (h : Tx w0 b B2 s ts v j acc bv w) (n : Nat) : Tx w0 b B2 s ts v j acc bv (w.drewN n) :=
  ⟨h.blk, h.own, h.byt, ⟨h.bel.os, h.bel.tape, h.bel.output, h.bel.size, h.bel.block⟩, h.hB, h.hb, h.hv⟩
theorem Tx.move (h : Tx w0 b B2 s ts v j acc bv w) (j' : Nat) : Tx w0 b B2 s ts v j' acc bv (w.setCell ⟨b, 1, none⟩ (.int .i64 (j' : Int))) :=
  ⟨h.blk.set1 j', ownsRow_setCell_below h.own (by simp) _, ownsRow_setCell_below h.byt (by simpa using h.hb) _, h.bel.setCell (Nat.le_refl _) _, by simpa [World.setCell] using h.hB, h.hb, h.hv⟩
theorem Tx.appended (h : Tx w0 b B2 s ts v j acc bv w) (o : Obj) (c : UInt8) {bv' : Value} {w' : World} (hown : w'.ownsRow B2 5 1 bv' (acc.length + 1) (byteCells acc ++ [Value.int .u8 (c.toNat : Int)]))
    (hgr : (w.alloc o).grownBy w' bv.ownBlock) : Tx w0 b B2 s ts v j (acc ++ [c]) bv' w' := by
  have hne : ∀ g, bv.ownBlock = some g → B2 ≤ g := fun g hg => (h.byt.lt g hg).1
  refine ⟨h.blk.later o hgr (fun e => by have := hne b e; have := h.hb; omega), ?_, ?_, ?_, ?_, h.hb, h.hv⟩
  · refine (h.own.alloc o).kept hgr ?_
    cases hv : v.ownBlock with
    | none => exact .inl rfl
    | some g => exact .inr (fun e => by have := h.hv g hv; have := hne g e.symm; omega)
  · rw [byteCells_snoc, List.length_append]; exact hown
  · refine (h.bel.alloc ?_ o).grown hgr ?_ (fun g hg => ?_)
    · have := h.hB; have := h.hb; omega
    · have := h.hB; have := h.hb; simp; omega
    · have := hne g hg; have := h.hb; omega
  · have := hgr.size; have := h.hB; simp at *; omega
end
end Go.Proofs.YtijcobeebaceoaaGreatDoor.Lx
namespace Go.Proofs.YtijcobeebaceoaaGreatDoor.Lx
set_option maxRecDepth 20000
open Go.RowKit

theorem info5 : (Tryz.prog.info? 5).map (fun i => (i.zero, i.size, i.bytes)) = some (some (.int .u8 0), 1, 1) := by kernel_rfl

theorem one_cell (c : UInt8) : ∀ u, u ∈ [Value.int .u8 (c.toNat : Int)] → u.oneCell' = true := by
  intro u h
  simp at h
  subst h
  rfl
theorem own_sliceForm {w : World} {base : Nat} {e : TypeId} {size : Nat} {v : Value} {n : Nat} {xs : List Value} (h : w.ownsRow base e size v n xs) : ∃ a c, v = .slice a n c := by
  rcases h.2 with ⟨rfl, rfl⟩ | ⟨g, cap, _, rfl, _⟩
  · exact ⟨_, _, rfl⟩
  · exact ⟨_, _, rfl⟩

theorem textOfR_some (s : ByteArray) (k j : Nat) (acc : List UInt8) (h : j ≤ s.size) : textOfR (some (acc, s.data.toList.drop j)) s k = putR 4 (textOf acc) 0 k j := by
  have hl : s.data.toList.length = s.size := rfl
  have e1 : s.size - (s.data.toList.drop j).length = j := by rw [List.length_drop]; omega
  show putR 4 (textOf acc) 0 k (s.size - (s.data.toList.drop j).length) = _
  rw [e1]
theorem Tx.move1 {w0 w : World} {b B2 : Nat} {s : ByteArray} {ts : List Tok} {v : Value} {j : Nat} {acc : List UInt8} {bv : Value} (h : Tx w0 b B2 s ts v j acc bv w) : Tx w0 b B2 s ts v (j + 1) acc bv (w.setCell ⟨b, 1, none⟩ (.int .i64 ((j : Int) + 1))) := by
  have := h.move (j + 1)
  rwa [Int.natCast_add] at this

set_option maxHeartbeats 2000000 in
set_option maxRecDepth 100000 in
theorem text_any (b k : Nat) (s : ByteArray) (ts : List Tok) (w : World) (hsc : Sc w b s k ts) (hk : k < s.size) (hs : s.size ≤ 100000) (hts : ts.length ≤ 1000000) :
    Calls Tryz.prog 109 #[.pointer (some ⟨b, 0, none⟩)] w (Got w b s ts (textR s k)) := by
  obtain ⟨v, hb, ho⟩ := hsc
  obtain ⟨i0, hi, hz0, hz1, hz2⟩ := info_parts info5
  have htx0 : Tx w b w.heap.size s ts v k [] (.slice none 0 0) w := ⟨hb, ho, World.ownsRow_nil _ _ _ _, Below.refl _ _, Nat.le_refl _, hb.lt, fun g hg => (ho.lt g hg).2⟩
  generalize w.heap.size = B2 at htx0
  have c1 := hb.c1
  have f1 := hb.f 1
  clear hb ho
  go_enter Tryz.func109, Tryz.ntmps109
  go_wp2_with fail
  go_loopg [4] (s.size - (k + 1)) (fun g bv wr => ∃ (j : Nat) (acc : List UInt8), k + 1 ≤ j ∧ j ≤ s.size ∧ s.size - j = g ∧ acc.length ≤ j ∧ Tx w b B2 s ts v j acc bv wr ∧ textL (s.data.toList.drop (k + 1)) = more' acc (textL (s.data.toList.drop j)))
  case atStart => exact ⟨k + 1, [], Nat.le_refl _, by omega, rfl, by simp, htx0.move (k + 1), (more'_nil _).symm⟩
  case round =>
    obtain ⟨j, acc, hkj, hj, hg, hacc, htx, htl⟩ := hrel
    have HR : Hid (textR s k = textOfR (more' acc (textL (s.data.toList.drop j))) s k) := by
      show textR s k = _
      unfold textR
      rw [htl]
    have HG := Lib.hid hg
    have HT := Lib.hid htl
    clear hg htl c1 f1 htx0
    have c0 := htx.blk.c0
    have c1 := htx.blk.c1
    by_cases hlt : j < s.size
    · have hd : decide ((j : Int) < (s.size : Int)) = true := by simp; omega
      go_wp2_with fail
      go_quiet (fail)
      have htx2 := htx.drewN nq
      clear c0 c1 htx
      generalize wr.drewN nq = w2 at *
      have c0 := htx2.blk.c0
      have c1 := htx2.blk.c1
      go_wp2_with fail
      go_quiet (fail)
      have htx := htx2.drewN nq
      clear c0 c1 htx2
      generalize w2.drewN nq = wr at *
      have c0 := htx.blk.c0
      have c1 := htx.blk.c1
      have f1 := htx.blk.f 1
      have hcv := own_string htx.byt
      obtain ⟨ba, bc, hbv⟩ := own_sliceForm htx.byt
      rw [hbv] at htx hcv ⊢
      clear hbv
      by_cases h34 : s[j].toNat = 34
      · have t34 : ((s[j].toNat : Int) == 34) = true := by simp [h34]
        have HE := Lib.hid (textL_quote hlt acc h34)
        clear h34
        have htm := htx.move1
        have hcv2 := own_string htm.byt
        go_wp2_with fail
        refine (put_got b s (j + 1) ts _ _ _ k _ ⟨v, htm.blk, htm.own⟩ hts).mono ?_
        rintro e w3 hgot
        obtain ⟨c, rfl⟩ := hgot.is
        have HGOT := Lib.hid hgot
        have hbel := htm.bel
        clear hgot hcv hcv2 htm htx c0 c1 f1
        go_wp2_with fail
        go_ret
        rw [HR.out, HE.out, textOfR_some s k (j + 1) acc (by omega)]
        exact Got.after hbel HGOT.out
      · have t34 : ((s[j].toNat : Int) == 34) = false := by simp; omega
        by_cases h10 : s[j].toNat = 10
        · have t10 : ((s[j].toNat : Int) == 10) = true := by simp [h10]
          have HE := Lib.hid (textL_line hlt acc h10)
          have hbel := htx.bel
          clear h10 h34 hcv htx c0 c1 f1
          go_wp2_with fail
          go_ret
          rw [HR.out, HE.out]
          exact ⟨rfl, hbel⟩
        · have t10 : ((s[j].toNat : Int) == 10) = false := by simp; omega
          by_cases h92 : s[j].toNat = 92
          · have t92 : ((s[j].toNat : Int) == 92) = true := by simp [h92]
            clear h10 h34 hcv
            have htm := htx.move1
            go_wp2_with fail
            generalize (wr.setCell ⟨b, 1, none⟩ (.int .i64 ((j : Int) + 1))) = w4 at *
            clear c0 c1 f1 htx
            obtain ⟨m, hm⟩ : ∃ m : Nat, m = j + 1 := ⟨_, rfl⟩
            have em : ((j : Int) + 1) = (m : Int) := by omega
            rw [em]
            rw [← hm] at htm
            have hjm : j < m := by omega
            have hmj : m ≤ j + 1 := by omega
            have HM := Lib.hid hm
            clear hm em
            have c0 := htm.blk.c0
            have c1 := htm.blk.c1
            by_cases h2 : m < s.size
            · have tl : ((m : Int) == (s.size : Int)) = false := by simp; omega
              have HE0 := Lib.hid (textL_back hlt acc h92 (by omega))
              clear h92
              go_quiet (fail)
              have htx := htm.drewN nq
              clear c0 c1 htm
              generalize w4.drewN nq = w5 at *
              have c0 := htx.blk.c0
              have c1 := htx.blk.c1
              go_wp2_with fail
              go_quiet (exact Calls.quiet_of_same (Tryz.strings_IndexByte _ _ _))
              have htm := htx.drewN nq
              clear c0 c1 htx
              generalize w5.drewN nq = w6 at *
              have HE1 : Hid (more' acc (textL (s.data.toList.drop j)) = match escC s[m] with | none => none | some x => more' (acc ++ [x]) (textL (s.data.toList.drop (m + 1)))) := by
                have hm := HM.out
                subst hm
                exact HE0.out
              clear HE0
              have HD := Lib.hid (esc_index s[m])
              generalize s[m] = d at *
              rcases HD.out with ⟨hix, hes⟩ | ⟨hix, hes⟩ | ⟨hix, hes⟩ | ⟨hix, hes⟩ | ⟨hix, hes⟩
              · have HS := Lib.hid hes
                have hbel := htm.bel
                clear hes htm HD
                go_wp2_with fail
                go_ret
                rw [HR.out, HE1.out, HS.out]
                exact ⟨rfl, hbel⟩
              · have HE2 : Hid (more' acc (textL (s.data.toList.drop j)) = more' (acc ++ [10]) (textL (s.data.toList.drop (m + 1)))) := by
                  have := HE1.out
                  rwa [hes] at this
                clear hes HD HE1
                go_wp2_with (at_builtin; refine wpList_append_own _ rfl _ _ 180 rfl B2 5 i0 (.int .u8 0) 1 1 Tryz.underlying180 hi hz0 hz1 hz2 rfl (by decide) _ acc.length (byteCells acc) rfl (htm.byt.alloc _) ⟨w6.heap.size, 0, none⟩ 1 1 [.int .u8 10] rfl rfl ?_ ?_ ?_ ?_ ?_ ?_)
                · exact cells_new w6 [.int .u8 10] 5
                · exact one_cell 10
                · unfold maxLen; omega
                · omega
                · have := htm.hB; simp; omega
                · intro v' w7 hown hgr _
                  have hta := htm.appended _ 10 hown hgr
                  clear htm hown hgr
                  have c1' := hta.blk.c1
                  have f1' := hta.blk.f 1
                  go_wp2_with fail
                  go_roundg (s.size - (m + 1))
                  case measure => have := HG.out; omega
                  case rel => exact ⟨m + 1, acc ++ [10], by omega, by omega, rfl, by simp; omega, hta.move1, HT.out.trans HE2.out⟩
              · have HE2 : Hid (more' acc (textL (s.data.toList.drop j)) = more' (acc ++ [9]) (textL (s.data.toList.drop (m + 1)))) := by
                  have := HE1.out
                  rwa [hes] at this
                clear hes HD HE1
                go_wp2_with (at_builtin; refine wpList_append_own _ rfl _ _ 180 rfl B2 5 i0 (.int .u8 0) 1 1 Tryz.underlying180 hi hz0 hz1 hz2 rfl (by decide) _ acc.length (byteCells acc) rfl (htm.byt.alloc _) ⟨w6.heap.size, 0, none⟩ 1 1 [.int .u8 9] rfl rfl ?_ ?_ ?_ ?_ ?_ ?_)
                · exact cells_new w6 [.int .u8 9] 5
                · exact one_cell 9
                · unfold maxLen; omega
                · omega
                · have := htm.hB; simp; omega
                · intro v' w7 hown hgr _
                  have hta := htm.appended _ 9 hown hgr
                  clear htm hown hgr
                  have c1' := hta.blk.c1
                  have f1' := hta.blk.f 1
                  go_wp2_with fail
                  go_roundg (s.size - (m + 1))
                  case measure => have := HG.out; omega
                  case rel => exact ⟨m + 1, acc ++ [9], by omega, by omega, rfl, by simp; omega, hta.move1, HT.out.trans HE2.out⟩
              · have HE2 : Hid (more' acc (textL (s.data.toList.drop j)) = more' (acc ++ [34]) (textL (s.data.toList.drop (m + 1)))) := by
                  have := HE1.out
                  rwa [hes] at this
                clear hes HD HE1
                go_wp2_with (at_builtin; refine wpList_append_own _ rfl _ _ 180 rfl B2 5 i0 (.int .u8 0) 1 1 Tryz.underlying180 hi hz0 hz1 hz2 rfl (by decide) _ acc.length (byteCells acc) rfl (htm.byt.alloc _) ⟨w6.heap.size, 0, none⟩ 1 1 [.int .u8 34] rfl rfl ?_ ?_ ?_ ?_ ?_ ?_)
                · exact cells_new w6 [.int .u8 34] 5
                · exact one_cell 34
                · unfold maxLen; omega
                · omega
                · have := htm.hB; simp; omega
                · intro v' w7 hown hgr _
                  have hta := htm.appended _ 34 hown hgr
                  clear htm hown hgr
                  have c1' := hta.blk.c1
                  have f1' := hta.blk.f 1
                  go_wp2_with fail
                  go_roundg (s.size - (m + 1))
                  case measure => have := HG.out; omega
                  case rel => exact ⟨m + 1, acc ++ [34], by omega, by omega, rfl, by simp; omega, hta.move1, HT.out.trans HE2.out⟩
              · have HE2 : Hid (more' acc (textL (s.data.toList.drop j)) = more' (acc ++ [92]) (textL (s.data.toList.drop (m + 1)))) := by
                  have := HE1.out
                  rwa [hes] at this
                clear hes HD HE1
                go_wp2_with (at_builtin; refine wpList_append_own _ rfl _ _ 180 rfl B2 5 i0 (.int .u8 0) 1 1 Tryz.underlying180 hi hz0 hz1 hz2 rfl (by decide) _ acc.length (byteCells acc) rfl (htm.byt.alloc _) ⟨w6.heap.size, 0, none⟩ 1 1 [.int .u8 92] rfl rfl ?_ ?_ ?_ ?_ ?_ ?_)
                · exact cells_new w6 [.int .u8 92] 5
                · exact one_cell 92
                · unfold maxLen; omega
                · omega
                · have := htm.hB; simp; omega
                · intro v' w7 hown hgr _
                  have hta := htm.appended _ 92 hown hgr
                  clear htm hown hgr
                  have c1' := hta.blk.c1
                  have f1' := hta.blk.f 1
                  go_wp2_with fail
                  go_roundg (s.size - (m + 1))
                  case measure => have := HG.out; omega
                  case rel => exact ⟨m + 1, acc ++ [92], by omega, by omega, rfl, by simp; omega, hta.move1, HT.out.trans HE2.out⟩
            · have tl : ((m : Int) == (s.size : Int)) = true := by simp; omega
              have HE := Lib.hid (textL_back_end hlt acc h92 (by omega))
              have hbel := htm.bel
              clear h92
              go_quiet (fail)
              clear htm c0 c1
              go_wp2_with fail
              go_ret
              rw [HR.out, HE.out]
              exact ⟨rfl, ⟨hbel.os, hbel.tape, hbel.output, hbel.size, hbel.block⟩⟩
          · have t92 : ((s[j].toNat : Int) == 92) = false := by simp; omega
            have HE := Lib.hid (textL_plain hlt acc h34 h10 h92)
            clear h34 h10 h92 hcv
            go_wp2_with (at_builtin; refine wpList_append_own _ rfl _ _ 180 rfl B2 5 i0 (.int .u8 0) 1 1 Tryz.underlying180 hi hz0 hz1 hz2 rfl (by decide) _ acc.length (byteCells acc) rfl (htx.byt.alloc _) ⟨wr.heap.size, 0, none⟩ 1 1 [.int .u8 (s[j].toNat : Int)] rfl rfl ?_ ?_ ?_ ?_ ?_ ?_)
            · exact cells_new wr [.int .u8 (s[j].toNat : Int)] 5
            · exact one_cell s[j]
            · unfold maxLen; omega
            · omega
            · have := htx.hB; simp; omega
            · intro v' w7 hown hgr _
              have hta := htx.appended _ s[j] hown hgr
              clear htx hown hgr
              have c1' := hta.blk.c1
              have f1' := hta.blk.f 1
              go_wp2_with fail
              go_roundg (s.size - (j + 1))
              case measure => have := HG.out; omega
              case rel => exact ⟨j + 1, acc ++ [s[j]], by omega, by omega, rfl, by simp; omega, hta.move1, HT.out.trans HE.out⟩
    · have hd : decide ((j : Int) < (s.size : Int)) = false := by simp; omega
      have HE := Lib.hid (textL_end hlt acc)
      have hbel := htx.bel
      go_wp2_with fail
      go_quiet (fail)
      clear htx c0 c1
      go_wp2_with fail
      go_ret
      rw [HR.out, HE.out]
      exact ⟨rfl, ⟨hbel.os, hbel.tape, hbel.output, hbel.size, hbel.block⟩⟩
end Go.Proofs.YtijcobeebaceoaaGreatDoor.Lx
namespace Go.Proofs.YtijcobeebaceoaaGreatDoor.Lx
set_option maxRecDepth 20000
open Go.RowKit

def symR (s : ByteArray) (k : Nat) : Except Int (Tok × Nat) := putR (if markB (s.extract k (adv symB s k)) = true then 7 else 5) (s.extract k (adv symB s k)) 0 k (adv symB s k)
def oneR (s : ByteArray) (k : Nat) (c : UInt8) : Except Int (Tok × Nat) :=
  if lowB c = true ∨ upB c = true then wordR s k
  else if digitB c = true then numR s k
  else if c.toNat = 34 then textR s k
  else if symB c = true then symR s k
  else if markB (s.extract k (k + 1)) = true then putR 7 (s.extract k (k + 1)) 0 k (k + 1)
  else .error 101

theorem Sc.drewN {w : World} {b k : Nat} {s : ByteArray} {ts : List Tok} (h : Sc w b s k ts) (n : Nat) : Sc (w.drewN n) b s k ts := h
theorem below_drewN' {B : Nat} {a w : World} (h : Below B a w) (n : Nat) : Below B a (w.drewN n) := ⟨h.os, h.tape, h.output, h.size, h.block⟩

set_option maxHeartbeats 1000000 in
set_option maxRecDepth 100000 in
theorem one_any (b k : Nat) (s : ByteArray) (ts : List Tok) (w : World) (hsc : Sc w b s k ts) (hk : k < s.size) (hs : s.size ≤ 100000) (hts : ts.length ≤ 1000000) :
    Calls Tryz.prog 77 #[.pointer (some ⟨b, 0, none⟩)] w (Got w b s ts (oneR s k s[k])) := by
  have hsc0 := hsc
  obtain ⟨v, hb, ho⟩ := hsc
  have c0 := hb.c0
  have c1 := hb.c1
  have hbw : b < w.heap.size := hb.lt
  go_enter Tryz.func77, Tryz.ntmps77
  go_wp2_with fail
  go_quiet (fail)
  have hsc1 := hsc0.drewN nq
  have hbl := below_drewN' (Below.refl b w) nq
  clear c0 c1 hb ho hsc0
  generalize w.drewN nq = w1 at *
  cases h1 : lowB s[k]
  · cases h2 : upB s[k]
    · cases h3 : digitB s[k]
      · by_cases h34 : s[k].toNat = 34
        · have t34 : ((s[k].toNat : Int) == 34) = true := by simp [h34]
          have HR : Hid (oneR s k s[k] = textR s k) := by
            show oneR s k s[k] = textR s k
            unfold oneR; simp [h1, h2, h3, h34]
          clear h34
          go_wp2_with (first | (go_at_call 104; refine (low_any _ _).mono ?_; rintro e w' ⟨rfl, rfl⟩) | (go_at_call 105; refine (up_any _ _).mono ?_; rintro e w' ⟨rfl, rfl⟩) | (go_at_call 107; refine (digit_any _ _).mono ?_; rintro e w' ⟨rfl, rfl⟩))
          refine (text_any b k s ts _ hsc1 hk hs hts).mono ?_
          rintro e w2 hgot
          obtain ⟨c, rfl⟩ := hgot.is
          have HGOT := Lib.hid hgot
          clear hgot
          go_wp2_with fail
          go_ret
          rw [HR.out]
          exact Got.after hbl HGOT.out
        · have t34 : ((s[k].toNat : Int) == 34) = false := by simp; omega
          cases h4 : symB s[k]
          · go_wp2_with (first | (go_at_call 104; refine (low_any _ _).mono ?_; rintro e w' ⟨rfl, rfl⟩) | (go_at_call 105; refine (up_any _ _).mono ?_; rintro e w' ⟨rfl, rfl⟩) | (go_at_call 107; refine (digit_any _ _).mono ?_; rintro e w' ⟨rfl, rfl⟩) | (go_at_call 110; refine (symbol_any _ _).mono ?_; rintro e w' ⟨rfl, rfl⟩))
            obtain ⟨v, hb, ho⟩ := hsc1
            have c0 := hb.c0
            have c1 := hb.c1
            cases h5 : markB (s.extract k (k + 1))
            · have HR : Hid (oneR s k s[k] = .error 101) := by
                show oneR s k s[k] = .error 101
                unfold oneR; simp [h1, h2, h3, h34, h4, h5]
              have hw1 : IntKind.i64.wrap ((k : Int) + 1) = (k : Int) + 1 := IntWalk.i64_in _ (by omega)
              have hw2 : 0 ≤ (k : Int) + 1 := by omega
              have hw3 : ((k : Int) + 1).toNat = k + 1 := by omega
              go_quiet (exact quiet_same (mark_any _ _))
              rw [h5]
              clear c0 c1 hw1 hw2 hw3
              go_wp2_with fail
              go_ret
              rw [HR.out]
              exact ⟨rfl, below_drewN' hbl _⟩
            · have HR : Hid (oneR s k s[k] = putR 7 (s.extract k (k + 1)) 0 k (k + 1)) := by
                show oneR s k s[k] = _
                unfold oneR; simp [h1, h2, h3, h34, h4, h5]
              have hw1 : IntKind.i64.wrap ((k : Int) + 1) = (k : Int) + 1 := IntWalk.i64_in _ (by omega)
              have hw2 : 0 ≤ (k : Int) + 1 := by omega
              have hw3 : ((k : Int) + 1).toNat = k + 1 := by omega
              go_quiet (exact quiet_same (mark_any _ _))
              rw [h5]
              have hb2 := hb.drewN nq
              have ho2 : (w1.drewN nq).ownsRow (b + 1) 64 4 v ts.length (tokCells ts) := ho
              have hbl2 := below_drewN' hbl nq
              clear c0 c1 hw1 hw2 hw3 hb ho hbl
              generalize w1.drewN nq = w2 at *
              have c1 := hb2.c1
              have f1 := hb2.f 1
              go_wp2_with fail
              have hb3 := hb2.set1 (k + 1)
              rw [Int.natCast_add] at hb3
              have ho3 := ownsRow_setCell_below ho2 (a := ⟨b, 1, none⟩) (by simp) (.int .i64 ((k : Int) + 1))
              have hbl3 := hbl2.setCell (p := ⟨b, 1, none⟩) (Nat.le_refl _) (.int .i64 ((k : Int) + 1))
              have em : ((k : Int) + 1) = ((k + 1 : Nat) : Int) := by omega
              rw [show ((1 : Nat) : Int) = 1 from rfl] at hb3
              clear c1 f1 hb2 ho2 hbl2
              generalize (w2.setCell ⟨b, 1, none⟩ (.int .i64 ((k : Int) + 1))) = w3 at *
              have c0 := hb3.c0
              have c1 := hb3.c1
              rw [← em] at c1
              clear em
              have hw1 : IntKind.i64.wrap (k : Int) = (k : Int) := IntWalk.i64_in _ (by omega)
              have hw2 : 0 ≤ (k : Int) + 1 := by omega
              have hw3 : ((k : Int) + 1).toNat = k + 1 := by omega
              have hsl : ∀ wx : World, (Instr.slice 9 (.string s) (some (.int .i64 (k : Int))) (some (.int .i64 ((k : Int) + 1))) none).run Tryz.prog wx = .ok (.string (s.extract k (k + 1))) wx := by
                intro wx
                have := run_slice_string (P := Tryz.prog) wx 9 s .i64 .i64 (k : Int) ((k : Int) + 1) Tryz.underlying9 (by omega) (by omega) (by omega)
                rwa [hw3] at this
              go_still_tail 20, (by kernel_rfl)
              change wpList _ _ _ _ _ w3.drew
              have hsc4 : Sc w3.drew b s (k + 1) ts := ⟨v, hb3, ho3⟩
              have hbl4 : Below b w w3.drew := hbl3.drew
              clear c0 c1 hw1 hw2 hw3 hb3 ho3 hbl3 hsl
              generalize w3.drew = w4 at *
              go_wp2_with fail
              refine (put_got b s (k + 1) ts _ _ _ k _ hsc4 hts).mono ?_
              rintro e w5 hgot
              obtain ⟨c, rfl⟩ := hgot.is
              have HGOT := Lib.hid hgot
              clear hgot
              go_wp2_with fail
              go_ret
              rw [HR.out]
              exact Got.after hbl4 HGOT.out
          · have HR : Hid (oneR s k s[k] = symR s k) := by
              show oneR s k s[k] = symR s k
              unfold oneR; simp [h1, h2, h3, h34, h4]
            obtain ⟨v, hb, ho⟩ := hsc1
            have c1 := hb.c1
            go_wp2_with (first | (go_at_call 104; refine (low_any _ _).mono ?_; rintro e w' ⟨rfl, rfl⟩) | (go_at_call 105; refine (up_any _ _).mono ?_; rintro e w' ⟨rfl, rfl⟩) | (go_at_call 107; refine (digit_any _ _).mono ?_; rintro e w' ⟨rfl, rfl⟩) | (go_at_call 110; refine (symbol_any _ _).mono ?_; rintro e w' ⟨rfl, rfl⟩))
            refine (more_any 110 symB symbol_fn b k s v _ hb (by omega) (by omega)).mono ?_
            rintro e w2 ⟨rfl, hb1, hg1⟩
            have hsc2 := Sc.moved ho hb1 hg1
            have hbl2 := hbl.trans (below_of_grown hg1 (Nat.le_of_lt hb.lt))
            have HS : Hid (symR s k = putR (if markB (s.extract k (adv symB s k)) = true then 7 else 5) (s.extract k (adv symB s k)) 0 k (adv symB s k)) := rfl
            clear hb1 hg1 ho hb c1 hbl
            generalize s.extract k (adv symB s k) = x at *
            generalize adv symB s k = j at *
            cases h5 : markB x
            all_goals
              go_wp2_with (go_at_call 111; refine (mark_any _ _).mono ?_; rintro e w' ⟨rfl, rfl⟩)
              refine (put_got b s j ts _ _ x k _ hsc2 hts).mono ?_
              rintro e w3 hgot
              obtain ⟨c, rfl⟩ := hgot.is
              have HGOT := Lib.hid hgot
              clear hgot
              go_wp2_with fail
              go_ret
              rw [HR.out, HS.out, h5]
              exact Got.after hbl2 HGOT.out
      · have HR : Hid (oneR s k s[k] = numR s k) := by
          show oneR s k s[k] = numR s k
          unfold oneR; simp [h1, h2, h3]
        go_wp2_with (first | (go_at_call 104; refine (low_any _ _).mono ?_; rintro e w' ⟨rfl, rfl⟩) | (go_at_call 105; refine (up_any _ _).mono ?_; rintro e w' ⟨rfl, rfl⟩) | (go_at_call 107; refine (digit_any _ _).mono ?_; rintro e w' ⟨rfl, rfl⟩))
        refine (number_any b k s ts _ hsc1 hk hs hts).mono ?_
        rintro e w2 hgot
        obtain ⟨c, rfl⟩ := hgot.is
        have HGOT := Lib.hid hgot
        clear hgot
        go_wp2_with fail
        go_ret
        rw [HR.out]
        exact Got.after hbl HGOT.out
    · have HR : Hid (oneR s k s[k] = wordR s k) := by
        show oneR s k s[k] = wordR s k
        unfold oneR; simp [h2]
      go_wp2_with (first | (go_at_call 104; refine (low_any _ _).mono ?_; rintro e w' ⟨rfl, rfl⟩) | (go_at_call 105; refine (up_any _ _).mono ?_; rintro e w' ⟨rfl, rfl⟩))
      refine (word_any b k s ts _ hsc1 hk (by omega) hts (by simp [insideB, h2])).mono ?_
      rintro e w2 hgot
      obtain ⟨c, rfl⟩ := hgot.is
      have HGOT := Lib.hid hgot
      clear hgot
      go_wp2_with fail
      go_ret
      rw [HR.out]
      exact Got.after hbl HGOT.out
  · have HR : Hid (oneR s k s[k] = wordR s k) := by
      show oneR s k s[k] = wordR s k
      unfold oneR; simp [h1]
    go_wp2_with (first | (go_at_call 104; refine (low_any _ _).mono ?_; rintro e w' ⟨rfl, rfl⟩))
    refine (word_any b k s ts _ hsc1 hk (by omega) hts (by simp [insideB, h1])).mono ?_
    rintro e w2 hgot
    obtain ⟨c, rfl⟩ := hgot.is
    have HGOT := Lib.hid hgot
    clear hgot
    go_wp2_with fail
    go_ret
    rw [HR.out]
    exact Got.after hbl HGOT.out
end Go.Proofs.YtijcobeebaceoaaGreatDoor.Lx
