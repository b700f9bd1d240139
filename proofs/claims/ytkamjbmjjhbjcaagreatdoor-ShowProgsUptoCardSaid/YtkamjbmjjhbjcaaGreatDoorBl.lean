/- Joined texts. -/
import Derived.Shelf.Strings.OnBuilder
import Derived.Shelf.Small.Strs
import Derived.Shelf.Strings.Search1
import Derived.Test.YtkamjbmjjhbjcaaGreatDoorProg
import Derived.Shelf.Unicode.ValidAny
import Derived.Lib.IndexAny
import Derived.Lib.Hide
import Derived.WalkKit
import Derived.WalkSpells
import Derived.WalkLawsBesides
import Derived.Test.YtkamjbmjjhbjcaaGreatDoorBc
import Derived.Deep.LoopGhost
import Derived.Deep.QuietTactic
import Derived.BigQuiet
import Derived.Laws.IdiomStrings
import Derived.Lib.Join
set_option linter.unusedVariables false
set_option linter.unusedSimpArgs false
namespace Go.Proofs
open Go.Shelf
def Tryz.lays156_ren : Go.Shelf.Ren := ⟨fun | 156 => 97 | 165 => 129 | 166 => 130 | 169 => 131 | 240 => 164 | 241 => 165 | 276 => 180 | 277 => 181 | n => n, fun | 31 => 70 | 9 => 9 | 3 => 3 | 4 => 4 | 0 => 0 | 20 => 20 | 72 => 158 | 76 => 162 | 70 => 156 | 37 => 126 | 75 => 161 | 127 => 180 | 164 => 191 | 5 => 5 | 80 => 164 | n => n, fun | n => n⟩
theorem Tryz.lays156 : Go.Proofs.Lays.n156 Tryz.prog Tryz.lays156_ren := {
  mixed := by kernel_rfl
  f156 := Tryz.func97.trans (congrArg some (by kernel_rfl))
  f165 := Tryz.func129.trans (congrArg some (by kernel_rfl))
  f166 := Tryz.func130.trans (congrArg some (by kernel_rfl))
  f169 := Tryz.func131.trans (congrArg some (by kernel_rfl))
  f240 := Tryz.func164.trans (congrArg some (by kernel_rfl))
  f241 := Tryz.func165.trans (congrArg some (by kernel_rfl))
  f276 := Tryz.func180.trans (congrArg some (by kernel_rfl))
  f277 := Tryz.func181.trans (congrArg some (by kernel_rfl))
  t0 := Tryz.underlying0
  a0 := Tryz.isAgg0
  z0 := Tryz.sizeOf0
  v0 := Tryz.zeroValue0
  t3 := Tryz.underlying3
  a3 := Tryz.isAgg3
  z3 := Tryz.sizeOf3
  v3 := Tryz.zeroValue3
  t4 := Tryz.underlying4
  a4 := Tryz.isAgg4
  z4 := Tryz.sizeOf4
  v4 := Tryz.zeroValue4
  t9 := Tryz.underlying9
  a9 := Tryz.isAgg9
  z9 := Tryz.sizeOf9
  v9 := Tryz.zeroValue9
  t20 := Tryz.underlying20
  a20 := Tryz.isAgg20
  z20 := Tryz.sizeOf20
  v20 := Tryz.zeroValue20
  t31 := Tryz.underlying70
  a31 := Tryz.isAgg70
  z31 := Tryz.sizeOf70
  v31 := Tryz.zeroValue70
  t37 := Tryz.underlying126
  a37 := Tryz.isAgg126
  z37 := Tryz.sizeOf126
  v37 := Tryz.zeroValue126
  t70 := Tryz.underlying156
  a70 := Tryz.isAgg156
  z70 := Tryz.sizeOf156
  v70 := Tryz.zeroValue156
  t72 := Tryz.underlying158
  a72 := Tryz.isAgg158
  z72 := Tryz.sizeOf158
  v72 := Tryz.zeroValue158
  t75 := Tryz.underlying161
  a75 := Tryz.isAgg161
  z75 := Tryz.sizeOf161
  v75 := Tryz.zeroValue161
  t76 := Tryz.underlying162
  a76 := Tryz.isAgg162
  z76 := Tryz.sizeOf162
  v76 := Tryz.zeroValue162
  t127 := Tryz.underlying180
  a127 := Tryz.isAgg180
  z127 := Tryz.sizeOf180
  v127 := Tryz.zeroValue180
  t164 := Tryz.underlying191
  a164 := Tryz.isAgg191
  z164 := Tryz.sizeOf191
  v164 := Tryz.zeroValue191 }
theorem Tryz.Builder_Extra_156 : Builder.Extra Tryz.prog Tryz.lays156_ren := {
  sizeBuilder := by kernel_rfl
  liesBuilder := by kernel_rfl
  t5 := Tryz.underlying5
  a5 := Tryz.isAgg5
  z5 := Tryz.sizeOf5
  v5 := Tryz.zeroValue5
  infoByte := by kernel_rfl
  cellsByte := by kernel_rfl
  sizeByte := by kernel_rfl
  neB5 := by decide }
open Go.RowKit in
/-- No element: the empty string; the world is as it was. (Whatever the slice's address and capacity: a nil slice too.) (LAID: no walk: one application.) -/
theorem Tryz.strings_Join_none (a : Option Addr) (c : Nat) (sep : ByteArray) (w : World) :
    Calls Tryz.prog 97 #[.slice a 0 c, .string sep] w fun e w' => e = .returned (.string ⟨#[]⟩) ∧ w' = w := Any.strings_Join_none Tryz.lays156 Tryz.Builder_Extra_156 a c sep w
open Go.RowKit in
/-- strings.Join: "Join concatenates the elements of its first argument to create a single string. The separator string sep is placed between elements in the resulting string.": HOWEVER MANY ELEMENTS. Below the heap's end the world is as it was. (LAID: no walk: one application.) -/
theorem Tryz.strings_Join (bk o c : Nat) (xs : List ByteArray) (sep : ByteArray) (w : World) (hcells : ∀ (j : Nat) x, xs[j]? = some x → w.cell? ⟨bk, o + j, none⟩ = some (.string x)) (hbk : bk < w.heap.size) (hN : xs.length ≤ 140737488355328) (hcap : xs.length ≤ c) (hlen : (Lib.join (xs.map (·.data.toList)) sep.data.toList).length ≤ 140737488355328) :
    Calls Tryz.prog 97 #[.slice (some ⟨bk, o, none⟩) xs.length c, .string sep] w fun e w' => e = .returned (.string ⟨(Lib.join (xs.map (·.data.toList)) sep.data.toList).toArray⟩) ∧ Below w.heap.size w w' := Any.strings_Join Tryz.lays156 Tryz.Builder_Extra_156 bk o c xs sep w hcells hbk hN hcap hlen
def Tryz.lays137_ren : Go.Shelf.Ren := ⟨fun | 137 => 175 | 217 => 186 | 266 => 190 | n => n, fun | 9 => 9 | 5 => 5 | 3 => 3 | n => n, fun | n => n⟩
theorem Tryz.lays137 : Go.Proofs.Lays.n137 Tryz.prog Tryz.lays137_ren := {
  mixed := by kernel_rfl
  f137 := Tryz.func175.trans (congrArg some (by kernel_rfl))
  f217 := Tryz.func186.trans (congrArg some (by kernel_rfl))
  f266 := Tryz.func190.trans (congrArg some (by kernel_rfl))
  t3 := Tryz.underlying3
  a3 := Tryz.isAgg3
  z3 := Tryz.sizeOf3
  v3 := Tryz.zeroValue3
  t5 := Tryz.underlying5
  a5 := Tryz.isAgg5
  z5 := Tryz.sizeOf5
  v5 := Tryz.zeroValue5
  t9 := Tryz.underlying9
  a9 := Tryz.isAgg9
  z9 := Tryz.sizeOf9
  v9 := Tryz.zeroValue9 }
open Go.RowKit in
/-- strings.IndexByte: "IndexByte returns the index of the first instance of c in s, or -1 if c is not present in s.": IT RETURNS 'Lib.indexByte s c'; the world is as it was. (LAID: no walk: one application.) -/
theorem Tryz.strings_IndexByte (s : ByteArray) (c : Int) (w : World) :
    Calls Tryz.prog 175 #[.string s, .int .u8 c] w fun e w' => e = .returned (.int .i64 (Lib.indexByte s.data.toList c.toNat.toUInt8)) ∧ w' = w := Any.strings_IndexByte Tryz.lays137 s c w
def Tryz.lays217_ren : Go.Shelf.Ren := ⟨fun | 217 => 186 | 266 => 190 | n => n, fun | 9 => 9 | 5 => 5 | 3 => 3 | n => n, fun | n => n⟩
theorem Tryz.lays217 : Go.Proofs.Lays.n217 Tryz.prog Tryz.lays217_ren := {
  mixed := by kernel_rfl
  f217 := Tryz.func186.trans (congrArg some (by kernel_rfl))
  f266 := Tryz.func190.trans (congrArg some (by kernel_rfl))
  t3 := Tryz.underlying3
  a3 := Tryz.isAgg3
  z3 := Tryz.sizeOf3
  v3 := Tryz.zeroValue3
  t5 := Tryz.underlying5
  a5 := Tryz.isAgg5
  z5 := Tryz.sizeOf5
  v5 := Tryz.zeroValue5
  t9 := Tryz.underlying9
  a9 := Tryz.isAgg9
  z9 := Tryz.sizeOf9
  v9 := Tryz.zeroValue9 }
open Go.RowKit Go.Lib in
/-- internal/stringslite.IndexByte (what strings.IndexByte calls): IT RETURNS 'Lib.indexByte s c'; the world is as it was. (LAID: no walk: one application.) -/
theorem Tryz.stringslite_IndexByte (s : ByteArray) (c : Int) (w : World) :
    Calls Tryz.prog 186 #[.string s, .int .u8 c] w fun e w' => e = .returned (.int .i64 (Lib.indexByte s.data.toList c.toNat.toUInt8)) ∧ w' = w := Any.stringslite_IndexByte Tryz.lays217 s c w
end Go.Proofs
namespace Go.Proofs
open Go.Shelf
def Tryz.lays196_ren : Go.Shelf.Ren := ⟨fun | 196 => 70 | 259 => 108 | n => n, fun | 9 => 9 | 4 => 4 | 3 => 3 | 5 => 5 | 12 => 12 | 119 => 144 | 0 => 0 | 46 => 148 | 139 => 147 | 138 => 146 | 53 => 123 | n => n, fun | 3 => 1 | 4 => 2 | n => n⟩
theorem Tryz.lays196 : Go.Proofs.Lays.n196 Tryz.prog Tryz.lays196_ren := {
  mixed := by kernel_rfl
  f196 := Tryz.func70.trans (congrArg some (by kernel_rfl))
  f259 := Tryz.func108.trans (congrArg some (by kernel_rfl))
  t0 := Tryz.underlying0
  a0 := Tryz.isAgg0
  z0 := Tryz.sizeOf0
  v0 := Tryz.zeroValue0
  t3 := Tryz.underlying3
  a3 := Tryz.isAgg3
  z3 := Tryz.sizeOf3
  v3 := Tryz.zeroValue3
  t4 := Tryz.underlying4
  a4 := Tryz.isAgg4
  z4 := Tryz.sizeOf4
  v4 := Tryz.zeroValue4
  t5 := Tryz.underlying5
  a5 := Tryz.isAgg5
  z5 := Tryz.sizeOf5
  v5 := Tryz.zeroValue5
  t9 := Tryz.underlying9
  a9 := Tryz.isAgg9
  z9 := Tryz.sizeOf9
  v9 := Tryz.zeroValue9
  t12 := Tryz.underlying12
  a12 := Tryz.isAgg12
  z12 := Tryz.sizeOf12
  v12 := Tryz.zeroValue12
  t46 := Tryz.underlying148
  a46 := Tryz.isAgg148
  z46 := Tryz.sizeOf148
  v46 := Tryz.zeroValue148
  t53 := Tryz.underlying123
  a53 := Tryz.isAgg123
  z53 := Tryz.sizeOf123
  v53 := Tryz.zeroValue123
  t119 := Tryz.underlying144
  a119 := Tryz.isAgg144
  z119 := Tryz.sizeOf144
  t138 := Tryz.underlying146
  a138 := Tryz.isAgg146
  z138 := Tryz.sizeOf146
  v138 := Tryz.zeroValue146
  t139 := Tryz.underlying147
  a139 := Tryz.isAgg147
  z139 := Tryz.sizeOf147
  v139 := Tryz.zeroValue147
  g3 := by kernel_rfl
  g4 := by kernel_rfl }
end Go.Proofs
namespace Go.Proofs.YtkamjbmjjhbjcaaGreatDoor.Lx
open Go.RowKit

def lowB (c : UInt8) : Bool := decide (97 ≤ c.toNat ∧ c.toNat ≤ 122 ∨ c.toNat = 95)
def upB (c : UInt8) : Bool := decide (65 ≤ c.toNat ∧ c.toNat ≤ 90)
def digitB (c : UInt8) : Bool := decide (48 ≤ c.toNat ∧ c.toNat ≤ 57)
def blankB (c : UInt8) : Bool := decide (c.toNat = 32 ∨ c.toNat = 9 ∨ c.toNat = 10 ∨ c.toNat = 13)
def insideB (c : UInt8) : Bool := lowB c || upB c || digitB c || decide (c.toNat = 39)
def lineB (c : UInt8) : Bool := decide (c.toNat ≠ 10)

/-- The bytes of operators. -/
def symList : List UInt8 := [33, 36, 37, 38, 42, 43, 46, 47, 60, 61, 62, 63, 64, 94, 124, 126, 58, 45]
def symB (c : UInt8) : Bool := symList.contains c

theorem ret_bool {a b : Bool} (h : a = b) : Ending.returned (.bool a) = .returned (.bool b) := by rw [h]

set_option maxHeartbeats 400000 in
theorem up_any (c : UInt8) (w : World) :
    Calls Tryz.prog 112 #[.int .u8 (c.toNat : Int)] w fun e w' => e = .returned (.bool (upB c)) ∧ w = w' := by
  go_enter Tryz.func112, Tryz.ntmps112
  go_wp2
  all_goals go_ret
  all_goals exact ⟨ret_bool (by rw [Bool.eq_iff_iff]; simp [upB]; try omega), rfl⟩

set_option maxHeartbeats 400000 in
theorem low_any (c : UInt8) (w : World) :
    Calls Tryz.prog 113 #[.int .u8 (c.toNat : Int)] w fun e w' => e = .returned (.bool (lowB c)) ∧ w = w' := by
  go_enter Tryz.func113, Tryz.ntmps113
  go_wp2
  all_goals go_ret
  all_goals exact ⟨ret_bool (by rw [Bool.eq_iff_iff]; simp [lowB]; try omega), rfl⟩

set_option maxHeartbeats 400000 in
theorem digit_any (c : UInt8) (w : World) :
    Calls Tryz.prog 146 #[.int .u8 (c.toNat : Int)] w fun e w' => e = .returned (.bool (digitB c)) ∧ w = w' := by
  go_enter Tryz.func146, Tryz.ntmps146
  go_wp2
  all_goals go_ret
  all_goals exact ⟨ret_bool (by rw [Bool.eq_iff_iff]; simp [digitB]; try omega), rfl⟩

set_option maxHeartbeats 400000 in
theorem great_any (c : UInt8) (w : World) :
    Calls Tryz.prog 80 #[.int .u8 (c.toNat : Int)] w fun e w' => e = .returned (.bool (upB c)) ∧ w = w' := by
  go_enter Tryz.func80, Tryz.ntmps80
  go_wp2
  all_goals go_ret
  all_goals exact ⟨ret_bool (by rw [Bool.eq_iff_iff]; simp [upB]; try omega), rfl⟩

set_option maxHeartbeats 400000 in
theorem small_any (c : UInt8) (w : World) :
    Calls Tryz.prog 82 #[.int .u8 (c.toNat : Int)] w fun e w' => e = .returned (.bool (lowB c)) ∧ w = w' := by
  go_enter Tryz.func82, Tryz.ntmps82
  go_wp2
  all_goals go_ret
  all_goals exact ⟨ret_bool (by rw [Bool.eq_iff_iff]; simp [lowB]; try omega), rfl⟩

set_option maxHeartbeats 400000 in
theorem rdigit_any (c : UInt8) (w : World) :
    Calls Tryz.prog 163 #[.int .u8 (c.toNat : Int)] w fun e w' => e = .returned (.bool (digitB c)) ∧ w = w' := by
  go_enter Tryz.func163, Tryz.ntmps163
  go_wp2
  all_goals go_ret
  all_goals exact ⟨ret_bool (by rw [Bool.eq_iff_iff]; simp [digitB]; try omega), rfl⟩

set_option maxHeartbeats 400000 in
theorem inside_any (c : UInt8) (w : World) :
    Calls Tryz.prog 111 #[.int .u8 (c.toNat : Int)] w fun e w' => e = .returned (.bool (insideB c)) ∧ w = w' := by
  cases hl : lowB c
  · cases hu : upB c
    · cases hd : digitB c
      all_goals
        go_enter Tryz.func111, Tryz.ntmps111
        go_wp2_with (first | (go_at_call 113; refine (low_any _ _).mono ?_; rintro e w' ⟨rfl, rfl⟩) | (go_at_call 112; refine (up_any _ _).mono ?_; rintro e w' ⟨rfl, rfl⟩) | (go_at_call 146; refine (digit_any _ _).mono ?_; rintro e w' ⟨rfl, rfl⟩))
        all_goals go_ret
        all_goals exact ⟨ret_bool (by rw [Bool.eq_iff_iff]; simp [insideB, hl, hu, hd]; try omega), rfl⟩
    · go_enter Tryz.func111, Tryz.ntmps111
      go_wp2_with (first | (go_at_call 113; refine (low_any _ _).mono ?_; rintro e w' ⟨rfl, rfl⟩) | (go_at_call 112; refine (up_any _ _).mono ?_; rintro e w' ⟨rfl, rfl⟩) | (go_at_call 146; refine (digit_any _ _).mono ?_; rintro e w' ⟨rfl, rfl⟩))
      all_goals go_ret
      all_goals exact ⟨ret_bool (by simp [insideB, hl, hu]), rfl⟩
  · go_enter Tryz.func111, Tryz.ntmps111
    go_wp2_with (first | (go_at_call 113; refine (low_any _ _).mono ?_; rintro e w' ⟨rfl, rfl⟩) | (go_at_call 112; refine (up_any _ _).mono ?_; rintro e w' ⟨rfl, rfl⟩) | (go_at_call 146; refine (digit_any _ _).mono ?_; rintro e w' ⟨rfl, rfl⟩))
    all_goals go_ret
    all_goals exact ⟨ret_bool (by simp [insideB, hl]), rfl⟩

set_option maxHeartbeats 400000 in
theorem name_any (c : UInt8) (w : World) :
    Calls Tryz.prog 125 #[.int .u8 (c.toNat : Int)] w fun e w' => e = .returned (.bool (insideB c)) ∧ w = w' := by
  cases hl : lowB c
  · cases hu : upB c
    · cases hd : digitB c
      all_goals
        go_enter Tryz.func125, Tryz.ntmps125
        go_wp2_with (first | (go_at_call 82; refine (small_any _ _).mono ?_; rintro e w' ⟨rfl, rfl⟩) | (go_at_call 80; refine (great_any _ _).mono ?_; rintro e w' ⟨rfl, rfl⟩) | (go_at_call 163; refine (rdigit_any _ _).mono ?_; rintro e w' ⟨rfl, rfl⟩))
        all_goals go_ret
        all_goals exact ⟨ret_bool (by rw [Bool.eq_iff_iff]; simp [insideB, hl, hu, hd]; try omega), rfl⟩
    · go_enter Tryz.func125, Tryz.ntmps125
      go_wp2_with (first | (go_at_call 82; refine (small_any _ _).mono ?_; rintro e w' ⟨rfl, rfl⟩) | (go_at_call 80; refine (great_any _ _).mono ?_; rintro e w' ⟨rfl, rfl⟩) | (go_at_call 163; refine (rdigit_any _ _).mono ?_; rintro e w' ⟨rfl, rfl⟩))
      all_goals go_ret
      all_goals exact ⟨ret_bool (by simp [insideB, hl, hu]), rfl⟩
  · go_enter Tryz.func125, Tryz.ntmps125
    go_wp2_with (first | (go_at_call 82; refine (small_any _ _).mono ?_; rintro e w' ⟨rfl, rfl⟩) | (go_at_call 80; refine (great_any _ _).mono ?_; rintro e w' ⟨rfl, rfl⟩) | (go_at_call 163; refine (rdigit_any _ _).mono ?_; rintro e w' ⟨rfl, rfl⟩))
    all_goals go_ret
    all_goals exact ⟨ret_bool (by simp [insideB, hl]), rfl⟩

theorem toUInt8_toNat (c : UInt8) : ((c.toNat : Int)).toNat.toUInt8 = c := by simp

set_option maxHeartbeats 400000 in
theorem symbol_any (c : UInt8) (w : World) :
    Calls Tryz.prog 144 #[.int .u8 (c.toNat : Int)] w fun e w' => e = .returned (.bool (symB c)) ∧ w = w' := by
  go_enter Tryz.func144, Tryz.ntmps144
  go_wp2_with (go_at_call 175; refine (Tryz.strings_IndexByte _ _ _).mono ?_; rintro e w' ⟨rfl, rfl⟩)
  go_ret
  exact ⟨ret_bool (Lib.contains_iff_indexByte symList c).symm, rfl⟩

/-- A byte of a text, or 0. -/
def inB (s : ByteArray) (c : UInt8) : Bool := s.data.toList.contains c
/-- All bytes of a text are such. -/
def allB (p : UInt8 → Bool) (s : ByteArray) : Bool := s.data.toList.all p

theorem take_snoc (s : ByteArray) (k : Nat) (h : k < s.size) : s.data.toList.take (k + 1) = s.data.toList.take k ++ [s[k]] := by
  rw [List.take_succ_eq_append_getElem (by simpa using h)]; rfl
theorem take_all (s : ByteArray) (k : Nat) (h : ¬ k < s.size) : s.data.toList.take k = s.data.toList :=
  List.take_of_length_le (by have : s.data.toList.length = s.size := rfl; omega)
theorem mem_at (s : ByteArray) (k : Nat) (h : k < s.size) : s[k] ∈ s.data.toList := by
  have : s[k] = s.data.toList[k]'(by simpa using h) := rfl
  rw [this]; exact List.getElem_mem _

theorem in_step {s : ByteArray} {c : UInt8} {k : Nat} (h : k < s.size) (hn : (s.data.toList.take k).contains c = false) (h1 : ((s[k].toNat : Int) == (c.toNat : Int)) = false) :
    (s.data.toList.take (k + 1)).contains c = false := by
  rw [take_snoc s k h]
  simp at hn h1 ⊢
  refine ⟨hn, fun e => h1 (by rw [e])⟩
theorem in_yes {s : ByteArray} {c : UInt8} {k : Nat} (h : k < s.size) (h1 : ((s[k].toNat : Int) == (c.toNat : Int)) = true) : inB s c = true := by
  have e : s[k] = c := by simp at h1; exact UInt8.toNat_inj.1 (by omega)
  unfold inB
  rw [List.contains_iff_mem, ← e]
  exact mem_at s k h
theorem in_no {s : ByteArray} {c : UInt8} {k : Nat} (h : ¬ k < s.size) (hn : (s.data.toList.take k).contains c = false) : inB s c = false := by
  rw [take_all s k h] at hn; exact hn

set_option maxHeartbeats 400000 in
/-- 'in': does a byte stand in a text? -/
theorem in_any (s : ByteArray) (c : UInt8) (w : World) (hs : s.size ≤ maxLen) :
    Calls Tryz.prog 182 #[.string s, .int .u8 (c.toNat : Int)] w fun e w' => e = .returned (.bool (inB s c)) ∧ w = w' := by
  unfold maxLen at hs
  go_enter Tryz.func182, Tryz.ntmps182
  go_wp2
  go_loop [4, 5] (fun n i => ∃ k : Nat, k ≤ s.size ∧ i = .int .i64 k ∧ n = .bool false ∧ (s.data.toList.take k).contains c = false) (fun _ i => s.size - (intOf i).toNat)
  case atStart => exact ⟨0, Nat.zero_le _, rfl, rfl, rfl⟩
  case round =>
    obtain ⟨k, hk, rfl, rfl, hn⟩ := hrel
    have HN := Lib.hid hn
    clear hn
    by_cases hlt : k < s.size
    · go_wp2
      · go_ret
        exact ⟨ret_bool (in_yes hlt ‹_›).symm, rfl⟩
      · go_round
        case rel => exact ⟨k + 1, by omega, by go_num, rfl, in_step hlt HN.out ‹_›⟩
        case measure => simp [intOf]; omega
    · go_wp2
      go_ret
      exact ⟨ret_bool (in_no hlt HN.out).symm, rfl⟩

set_option maxHeartbeats 400000 in
theorem sign_any (c : UInt8) (w : World) :
    Calls Tryz.prog 166 #[.int .u8 (c.toNat : Int)] w fun e w' => e = .returned (.bool (symB c)) ∧ w = w' := by
  go_enter Tryz.func166, Tryz.ntmps166
  go_wp2_with (go_at_call 182; refine (in_any _ _ _ (by decide)).mono ?_; rintro e w' ⟨rfl, rfl⟩)
  go_ret
  exact ⟨rfl, rfl⟩

theorem all_step {p : UInt8 → Bool} {s : ByteArray} {k : Nat} (h : k < s.size) (hn : (s.data.toList.take k).all p = true) (h1 : p s[k] = true) :
    (s.data.toList.take (k + 1)).all p = true := by
  rw [take_snoc s k h, List.all_append, hn]; simp [h1]
theorem all_no {p : UInt8 → Bool} {s : ByteArray} {k : Nat} (h : k < s.size) (h1 : p s[k] = false) : allB p s = false := by
  unfold allB
  rw [List.all_eq_false]
  exact ⟨s[k], mem_at s k h, by simp [h1]⟩
theorem all_yes {p : UInt8 → Bool} {s : ByteArray} {k : Nat} (h : ¬ k < s.size) (hn : (s.data.toList.take k).all p = true) : allB p s = true := by
  rw [take_all s k h] at hn; exact hn

set_option maxHeartbeats 400000 in
theorem names_any (s : ByteArray) (w : World) (hs : s.size ≤ maxLen) :
    Calls Tryz.prog 81 #[.string s] w fun e w' => e = .returned (.bool (allB insideB s)) ∧ w = w' := by
  unfold maxLen at hs
  go_enter Tryz.func81, Tryz.ntmps81
  go_wp2_with fail
  go_loop [2, 3] (fun n i => ∃ k : Nat, k ≤ s.size ∧ i = .int .i64 k ∧ n = .bool false ∧ (s.data.toList.take k).all insideB = true) (fun _ i => s.size - (intOf i).toNat)
  case atStart => exact ⟨0, Nat.zero_le _, rfl, rfl, rfl⟩
  case round =>
    obtain ⟨k, hk, rfl, rfl, hn⟩ := hrel
    have HN := Lib.hid hn
    clear hn
    by_cases hlt : k < s.size
    · cases hi : insideB s[k]
      all_goals go_wp2_with (go_at_call 125; refine (name_any _ _).mono ?_; rintro e w' ⟨rfl, rfl⟩)
      · go_ret
        exact ⟨ret_bool (all_no hlt hi).symm, rfl⟩
      · go_round
        case rel => exact ⟨k + 1, by omega, by go_num, rfl, all_step hlt HN.out hi⟩
        case measure => simp [intOf]; omega
    · go_wp2_with fail
      go_ret
      exact ⟨ret_bool (all_yes hlt HN.out).symm, rfl⟩

set_option maxHeartbeats 400000 in
theorem signs_any (s : ByteArray) (w : World) (hs : s.size ≤ maxLen) :
    Calls Tryz.prog 132 #[.string s] w fun e w' => e = .returned (.bool (allB symB s)) ∧ w = w' := by
  unfold maxLen at hs
  go_enter Tryz.func132, Tryz.ntmps132
  go_wp2_with fail
  go_loop [2, 3] (fun n i => ∃ k : Nat, k ≤ s.size ∧ i = .int .i64 k ∧ n = .bool false ∧ (s.data.toList.take k).all symB = true) (fun _ i => s.size - (intOf i).toNat)
  case atStart => exact ⟨0, Nat.zero_le _, rfl, rfl, rfl⟩
  case round =>
    obtain ⟨k, hk, rfl, rfl, hn⟩ := hrel
    have HN := Lib.hid hn
    clear hn
    by_cases hlt : k < s.size
    · cases hi : symB s[k]
      all_goals go_wp2_with (go_at_call 166; refine (sign_any _ _).mono ?_; rintro e w' ⟨rfl, rfl⟩)
      · go_ret
        exact ⟨ret_bool (all_no hlt hi).symm, rfl⟩
      · go_round
        case rel => exact ⟨k + 1, by omega, by go_num, rfl, all_step hlt HN.out hi⟩
        case measure => simp [intOf]; omega
    · go_wp2_with fail
      go_ret
      exact ⟨ret_bool (all_yes hlt HN.out).symm, rfl⟩
end Go.Proofs.YtkamjbmjjhbjcaaGreatDoor.Lx
namespace Go.Proofs.YtkamjbmjjhbjcaaGreatDoor.Lx
open Go.RowKit

def keyList : List (List UInt8) := [[100, 97, 116, 97], [99, 108, 97, 115, 115], [105, 110, 115, 116, 97, 110, 99, 101], [102, 114, 111, 109], [119, 104, 101, 114, 101], [101, 110, 100], [100, 101, 114, 105, 118, 105, 110, 103], [100, 101, 102], [108, 101, 116], [114, 101, 99], [97, 110, 100], [105, 110], [99, 97, 115, 101], [111, 102], [105, 102], [116, 104, 101, 110], [101, 108, 115, 101]]
def markList : List (List UInt8) := [[40], [41], [44], [59], [92], [95], [61], [45, 62], [124], [58]]
def keyB (s : ByteArray) : Bool := keyList.contains s.toList
def markB (s : ByteArray) : Bool := markList.contains s.toList

set_option maxHeartbeats 1000000 in
theorem mark_any (s : ByteArray) (w : World) :
    Calls Tryz.prog 145 #[.string s] w fun e w' => e = .returned (.bool (markB s)) ∧ w = w' := by
  go_enter Tryz.func145, Tryz.ntmps145
  go_wp2
  all_goals go_ret
  all_goals exact ⟨ret_bool (by simp_all [markB, markList]), rfl⟩

set_option maxHeartbeats 1000000 in
theorem key_any (s : ByteArray) (w : World) :
    Calls Tryz.prog 114 #[.string s] w fun e w' => e = .returned (.bool (keyB s)) ∧ w = w' := by
  go_enter Tryz.func114, Tryz.ntmps114
  go_wp2
  all_goals go_ret
  all_goals exact ⟨ret_bool (by simp_all [keyB, keyList]), rfl⟩

/-- A function of a byte that leaves all as it is. -/
def ByteFn (f : Nat) (p : UInt8 → Bool) : Prop :=
  (∀ (args : Array Value) (w : World), Sem.run Tryz.prog (callFunc f args) w = .ok (.enter f args) w) ∧
  ∀ (c : UInt8) (w : World), Calls Tryz.prog f #[.int .u8 (c.toNat : Int)] w fun e w' => e = .returned (.bool (p c)) ∧ w = w'

theorem low_fn : ByteFn 113 lowB := ⟨fun _ _ => by kernel_rfl, low_any⟩
theorem inside_fn : ByteFn 111 insideB := ⟨fun _ _ => by kernel_rfl, inside_any⟩
theorem symbol_fn : ByteFn 144 symB := ⟨fun _ _ => by kernel_rfl, symbol_any⟩
theorem digit_fn : ByteFn 146 digitB := ⟨fun _ _ => by kernel_rfl, digit_any⟩
def allNotLong (p : UInt8 → Bool) (s : ByteArray) : Bool := allB p s && (!s.toList.isEmpty && decide ((s.size : Int) ≤ 40))

theorem all_end {p : UInt8 → Bool} {s : ByteArray} {k : Nat} (h : ¬ k < s.size) (hn : (s.data.toList.take k).all p = true) : allNotLong p s = (!s.toList.isEmpty && decide ((s.size : Int) ≤ 40)) := by
  simp [allNotLong, all_yes h hn]

set_option maxHeartbeats 400000 in
theorem all_any (f : Nat) (p : UInt8 → Bool) (hf : ByteFn f p) (s : ByteArray) (w : World) (hs : s.size ≤ maxLen) :
    Calls Tryz.prog 110 #[.string s, .func (.func f) #[] #[]] w fun e w' => e = .returned (.bool (allNotLong p s)) ∧ w = w' := by
  unfold maxLen at hs
  obtain ⟨hcf, hf⟩ := hf
  have HF := Lib.hid hf
  clear hf
  go_enter Tryz.func110, Tryz.ntmps110
  go_wp2_with fail
  go_loop [4, 5, 8] (fun n _ i => ∃ k : Nat, k ≤ s.size ∧ i = .int .i64 k ∧ n = .bool false ∧ (s.data.toList.take k).all p = true) (fun _ _ i => s.size - (intOf i).toNat)
  case atStart => exact ⟨0, Nat.zero_le _, rfl, rfl, rfl⟩
  case round =>
    obtain ⟨k, hk, rfl, rfl, hn⟩ := hrel
    have HN := Lib.hid hn
    clear hn
    by_cases hlt : k < s.size
    · cases hi : p s[k]
      all_goals go_wp2_with fail
      all_goals refine (HF.out _ _).mono ?_
      all_goals rintro e w' ⟨rfl, rfl⟩
      all_goals go_wp2_with fail
      · go_ret
        exact ⟨ret_bool (by unfold allNotLong; rw [all_no hlt hi]; rfl), rfl⟩
      · go_round
        case rel => exact ⟨k + 1, by omega, by go_num, rfl, all_step hlt HN.out hi⟩
        case measure => simp [intOf]; omega
    · have HE := Lib.hid (all_end hlt HN.out)
      go_wp2_with fail
      · have he : s.toList = [] := by assumption
        go_ret
        exact ⟨ret_bool (by rw [HE.out, he]; rfl), rfl⟩
      · go_ret
        exact ⟨ret_bool HE.out.symm, rfl⟩

/-- The first byte is such. -/
def headB (p : UInt8 → Bool) (s : ByteArray) : Bool := match s.data.toList with | [] => false | c :: _ => p c
theorem headB_at (p : UInt8 → Bool) (s : ByteArray) (h : 0 < s.size) : headB p s = p s[0] := by
  obtain ⟨⟨l⟩⟩ := s
  cases l with
  | nil => exact absurd h (by decide)
  | cons c r => rfl
theorem notEmpty_of {p : UInt8 → Bool} {s : ByteArray} (h : allNotLong p s = true) : 0 < s.size := by
  rcases Nat.eq_zero_or_pos s.size with h0 | h0
  · obtain ⟨⟨l⟩⟩ := s
    cases l with
    | nil => simp [allNotLong, ByteArray.toList_eq] at h
    | cons c r => exact absurd h0 (by simp [ByteArray.size])
  · exact h0

def isLowB (s : ByteArray) : Bool := allNotLong insideB s && (headB lowB s && (!keyB s && !(s.toList == [95])))
def isUpB (s : ByteArray) : Bool := allNotLong insideB s && headB upB s
def isOpB (s : ByteArray) : Bool := allNotLong symB s && !markB s

set_option maxHeartbeats 400000 in
theorem isLow_any (s : ByteArray) (w : World) (hs : s.size ≤ maxLen) :
    Calls Tryz.prog 73 #[.string s] w fun e w' => e = .returned (.bool (isLowB s)) ∧ w = w' := by
  cases h1 : allNotLong insideB s
  · go_enter Tryz.func73, Tryz.ntmps73
    go_wp2_with (go_at_call 110; refine (all_any 111 insideB inside_fn _ _ hs).mono ?_; rintro e w' ⟨rfl, rfl⟩)
    go_ret
    exact ⟨ret_bool (by simp [isLowB, h1]), rfl⟩
  · have h0 := notEmpty_of h1
    have hh := headB_at lowB s h0
    have HH := Lib.hid hh
    clear hh
    cases h2 : lowB s[0] <;> cases h3 : keyB s <;> cases h4 : (s.toList == [95])
    all_goals
      go_enter Tryz.func73, Tryz.ntmps73
      go_wp2_with (first | (go_at_call 110; refine (all_any 111 insideB inside_fn _ _ hs).mono ?_; rintro e w' ⟨rfl, rfl⟩) | (go_at_call 113; refine (low_any _ _).mono ?_; rintro e w' ⟨rfl, rfl⟩) | (go_at_call 114; refine (key_any _ _).mono ?_; rintro e w' ⟨rfl, rfl⟩))
      go_ret
      exact ⟨ret_bool (by simp [isLowB, h1, HH.out, h2, h3, h4]), rfl⟩

set_option maxHeartbeats 400000 in
theorem isUp_any (s : ByteArray) (w : World) (hs : s.size ≤ maxLen) :
    Calls Tryz.prog 72 #[.string s] w fun e w' => e = .returned (.bool (isUpB s)) ∧ w = w' := by
  cases h1 : allNotLong insideB s
  · go_enter Tryz.func72, Tryz.ntmps72
    go_wp2_with (go_at_call 110; refine (all_any 111 insideB inside_fn _ _ hs).mono ?_; rintro e w' ⟨rfl, rfl⟩)
    go_ret
    exact ⟨ret_bool (by simp [isUpB, h1]), rfl⟩
  · have h0 := notEmpty_of h1
    have hh := headB_at upB s h0
    have HH := Lib.hid hh
    clear hh
    cases h2 : upB s[0]
    all_goals
      go_enter Tryz.func72, Tryz.ntmps72
      go_wp2_with (first | (go_at_call 110; refine (all_any 111 insideB inside_fn _ _ hs).mono ?_; rintro e w' ⟨rfl, rfl⟩) | (go_at_call 112; refine (up_any _ _).mono ?_; rintro e w' ⟨rfl, rfl⟩))
      go_ret
      exact ⟨ret_bool (by simp [isUpB, h1, HH.out, h2]), rfl⟩

set_option maxHeartbeats 400000 in
theorem isOp_any (s : ByteArray) (w : World) (hs : s.size ≤ maxLen) :
    Calls Tryz.prog 109 #[.string s] w fun e w' => e = .returned (.bool (isOpB s)) ∧ w = w' := by
  cases h1 : allNotLong symB s <;> cases h2 : markB s
  all_goals
    go_enter Tryz.func109, Tryz.ntmps109
    go_wp2_with (first | (go_at_call 110; refine (all_any 144 symB symbol_fn _ _ hs).mono ?_; rintro e w' ⟨rfl, rfl⟩) | (go_at_call 145; refine (mark_any _ _).mono ?_; rintro e w' ⟨rfl, rfl⟩))
    go_ret
    exact ⟨ret_bool (by simp [isOpB, h1, h2]), rfl⟩

/-- A slice of texts in one block. -/
def Texts (w : World) (g : Nat) (ss : List ByteArray) : Prop := ∀ i (h : i < ss.length), w.cell? ⟨g, i, none⟩ = some (.string ss[i])

def amongB (s : ByteArray) (ss : List ByteArray) : Bool := ss.any fun x => x.toList == s.toList

theorem among_step {s : ByteArray} {ss : List ByteArray} {k : Nat} (h : k < ss.length) (hn : amongB s (ss.take k) = false) (h1 : (ss[k].toList == s.toList) = false) : amongB s (ss.take (k + 1)) = false := by
  unfold amongB at *
  rw [List.take_succ_eq_append_getElem h, List.any_append, hn]
  simp only [List.any_cons, List.any_nil, h1]; rfl
theorem among_yes {s : ByteArray} {ss : List ByteArray} {k : Nat} (h : k < ss.length) (h1 : (ss[k].toList == s.toList) = true) : amongB s ss = true := by
  unfold amongB
  rw [List.any_eq_true]
  refine ⟨ss[k], List.getElem_mem _, ?_⟩
  exact h1
theorem among_no {s : ByteArray} {ss : List ByteArray} {k : Nat} (h : ¬ k < ss.length) (hn : amongB s (ss.take k) = false) : amongB s ss = false := by
  rw [List.take_of_length_le (by omega)] at hn; exact hn

set_option maxHeartbeats 400000 in
theorem among_any (s : ByteArray) (ss : List ByteArray) (g c : Nat) (w : World) (hl : ss.length ≤ maxLen) (ht : Texts w g ss) :
    Calls Tryz.prog 126 #[.string s, .slice (some ⟨g, 0, none⟩) ss.length c] w fun e w' => e = .returned (.bool (amongB s ss)) ∧ w = w' := by
  unfold maxLen at hl
  go_enter Tryz.func126, Tryz.ntmps126
  go_wp2_with fail
  go_loop [4, 5] (fun n i => ∃ k : Nat, k ≤ ss.length ∧ i = .int .i64 k ∧ n = .bool false ∧ amongB s (ss.take k) = false) (fun _ i => ss.length - (intOf i).toNat)
  case atStart => exact ⟨0, Nat.zero_le _, rfl, rfl, rfl⟩
  case round =>
    obtain ⟨k, hk, rfl, rfl, hn⟩ := hrel
    have HN := Lib.hid hn
    clear hn
    by_cases hlt : k < ss.length
    · have hc := ht k hlt
      have HT := Lib.hid ht
      clear ht
      go_wp2_with fail
      · go_ret
        exact ⟨ret_bool (among_yes hlt ‹_›).symm, rfl⟩
      · go_round
        case rel => exact ⟨k + 1, by omega, by go_num, rfl, among_step hlt HN.out ‹_›⟩
        case measure => simp [intOf]; omega
    · go_wp2_with fail
      go_ret
      exact ⟨ret_bool (among_no hlt HN.out).symm, rfl⟩

def textOf (l : List UInt8) : ByteArray := ⟨l.toArray⟩
theorem among_lists (s : ByteArray) (ls : List (List UInt8)) : amongB s (ls.map textOf) = ls.contains s.toList := by
  unfold amongB
  rw [List.any_map, ← List.any_beq]
  congr 1
  funext x
  have e : (textOf x).toList = x := by rw [ByteArray.toList_eq]; rfl
  show ((textOf x).toList == s.toList) = (s.toList == x)
  rw [e, Bool.eq_iff_iff, beq_iff_eq, beq_iff_eq]
  exact eq_comm

theorem texts_new (w : World) (ss : List ByteArray) (t : TypeId) : Texts (w.alloc (.cells (ss.map Value.string).toArray t)) w.heap.size ss := by
  intro i h
  rw [cell_of_row _ w.heap.size i (ss.map Value.string).toArray t (0, 0) (heap_alloc_new w _)]
  simp [h]

set_option maxHeartbeats 400000 in
theorem rkey_any (s : ByteArray) (w : World) :
    Calls Tryz.prog 83 #[.string s] w fun e w' => e = .returned (.bool (keyB s)) ∧ Below w.heap.size w w' := by
  have HE := Lib.hid (among_lists s keyList)
  go_enter Tryz.func83, Tryz.ntmps83
  go_wp2_with fail
  refine (among_any s (keyList.map textOf) _ _ _ (by decide) ?_).mono ?_
  · exact texts_new w (keyList.map textOf) 9
  · rintro e w' ⟨rfl, rfl⟩
    go_wp2_with fail
    go_ret
    exact ⟨ret_bool HE.out, (Below.refl _ _).alloc (Nat.le_refl _) _⟩

set_option maxHeartbeats 400000 in
theorem rmark_any (s : ByteArray) (w : World) :
    Calls Tryz.prog 133 #[.string s] w fun e w' => e = .returned (.bool (markB s)) ∧ Below w.heap.size w w' := by
  have HE := Lib.hid (among_lists s markList)
  go_enter Tryz.func133, Tryz.ntmps133
  go_wp2_with fail
  refine (among_any s (markList.map textOf) _ _ _ (by decide) ?_).mono ?_
  · exact texts_new w (markList.map textOf) 9
  · rintro e w' ⟨rfl, rfl⟩
    go_wp2_with fail
    go_ret
    exact ⟨ret_bool HE.out, (Below.refl _ _).alloc (Nat.le_refl _) _⟩
end Go.Proofs.YtkamjbmjjhbjcaaGreatDoor.Lx
namespace Go.Proofs.YtkamjbmjjhbjcaaGreatDoor.Lx
open Go.RowKit

theorem empty_iff (s : ByteArray) : s.toList = [] ↔ ¬ 0 < s.size := by
  rw [ByteArray.toList_eq]
  obtain ⟨⟨l⟩⟩ := s
  cases l <;> simp [ByteArray.size]

theorem anl_empty {p : UInt8 → Bool} {s : ByteArray} (h : s.toList = []) : allNotLong p s = false := by simp [allNotLong, h]
theorem anl_long {p : UInt8 → Bool} {s : ByteArray} (h : decide ((s.size : Int) ≤ 40) = false) : allNotLong p s = false := by simp [allNotLong, h]
theorem anl_all {p : UInt8 → Bool} {s : ByteArray} (h0 : ¬ s.toList = []) (h : decide ((s.size : Int) ≤ 40) = true) : allNotLong p s = allB p s := by simp [allNotLong, h0, h]

set_option maxHeartbeats 800000 in
theorem risLow_any (s : ByteArray) (w : World) (hs : s.size ≤ maxLen) :
    Calls Tryz.prog 40 #[.string s] w fun e w' => e = .returned (.bool (isLowB s)) ∧ Below w.heap.size w w' := by
  by_cases h0 : s.toList = []
  · have HS := Lib.hid (anl_empty (p := insideB) h0)
    go_enter Tryz.func40, Tryz.ntmps40
    go_wp2_with fail
    go_ret
    exact ⟨ret_bool (by simp [isLowB, HS.out]), Below.refl _ _⟩
  have hz : 0 < s.size := Decidable.not_not.1 fun h => h0 ((empty_iff s).2 h)
  cases hl : decide ((s.size : Int) ≤ 40)
  · have HS := Lib.hid (anl_long (p := insideB) hl)
    have hl' : 40 < (s.size : Int) := by simpa using hl
    go_enter Tryz.func40, Tryz.ntmps40
    go_wp2_with fail
    go_ret
    exact ⟨ret_bool (by simp [isLowB, HS.out]), Below.refl _ _⟩
  have HA := Lib.hid (anl_all (p := insideB) h0 hl)
  have hl' : (s.size : Int) ≤ 40 := by simpa using hl
  clear hl
  have HH := Lib.hid (headB_at lowB s hz)
  cases h1 : lowB s[0] <;> cases h2 : allB insideB s <;> cases h3 : keyB s <;> cases h4 : (s.toList == [95])
  all_goals
    go_enter Tryz.func40, Tryz.ntmps40
    go_wp2_with (first | (go_at_call 82; refine (small_any _ _).mono ?_; rintro e w' ⟨rfl, rfl⟩) | (go_at_call 81; refine (names_any _ _ hs).mono ?_; rintro e w' ⟨rfl, rfl⟩) | (go_at_call 83; refine (rkey_any _ _).mono ?_; rintro e w' ⟨rfl, hb⟩))
    go_ret
    refine ⟨ret_bool (by simp [isLowB, HA.out, HH.out, h0, h1, h2, h3, h4]), ?_⟩
    first | exact Below.refl _ _ | assumption

set_option maxHeartbeats 800000 in
theorem risUp_any (s : ByteArray) (w : World) (hs : s.size ≤ maxLen) :
    Calls Tryz.prog 39 #[.string s] w fun e w' => e = .returned (.bool (isUpB s)) ∧ Below w.heap.size w w' := by
  by_cases h0 : s.toList = []
  · have HS := Lib.hid (anl_empty (p := insideB) h0)
    go_enter Tryz.func39, Tryz.ntmps39
    go_wp2_with fail
    go_ret
    exact ⟨ret_bool (by simp [isUpB, HS.out]), Below.refl _ _⟩
  have hz : 0 < s.size := Decidable.not_not.1 fun h => h0 ((empty_iff s).2 h)
  cases hl : decide ((s.size : Int) ≤ 40)
  · have HS := Lib.hid (anl_long (p := insideB) hl)
    have hl' : 40 < (s.size : Int) := by simpa using hl
    go_enter Tryz.func39, Tryz.ntmps39
    go_wp2_with fail
    go_ret
    exact ⟨ret_bool (by simp [isUpB, HS.out]), Below.refl _ _⟩
  have HA := Lib.hid (anl_all (p := insideB) h0 hl)
  have hl' : (s.size : Int) ≤ 40 := by simpa using hl
  clear hl
  have HH := Lib.hid (headB_at upB s hz)
  cases h1 : upB s[0] <;> cases h2 : allB insideB s
  all_goals
    go_enter Tryz.func39, Tryz.ntmps39
    go_wp2_with (first | (go_at_call 80; refine (great_any _ _).mono ?_; rintro e w' ⟨rfl, rfl⟩) | (go_at_call 81; refine (names_any _ _ hs).mono ?_; rintro e w' ⟨rfl, rfl⟩))
    go_ret
    exact ⟨ret_bool (by simp [isUpB, HA.out, HH.out, h0, h1, h2]), Below.refl _ _⟩

set_option maxHeartbeats 800000 in
theorem risOp_any (s : ByteArray) (w : World) (hs : s.size ≤ maxLen) :
    Calls Tryz.prog 99 #[.string s] w fun e w' => e = .returned (.bool (isOpB s)) ∧ Below w.heap.size w w' := by
  by_cases h0 : s.toList = []
  · have HS := Lib.hid (anl_empty (p := symB) h0)
    go_enter Tryz.func99, Tryz.ntmps99
    go_wp2_with fail
    go_ret
    exact ⟨ret_bool (by simp [isOpB, HS.out]), Below.refl _ _⟩
  have hz : 0 < s.size := Decidable.not_not.1 fun h => h0 ((empty_iff s).2 h)
  cases hl : decide ((s.size : Int) ≤ 40)
  · have HS := Lib.hid (anl_long (p := symB) hl)
    have hl' : 40 < (s.size : Int) := by simpa using hl
    go_enter Tryz.func99, Tryz.ntmps99
    go_wp2_with fail
    go_ret
    exact ⟨ret_bool (by simp [isOpB, HS.out]), Below.refl _ _⟩
  have HA := Lib.hid (anl_all (p := symB) h0 hl)
  have hl' : (s.size : Int) ≤ 40 := by simpa using hl
  clear hl
  cases h1 : allB symB s <;> cases h2 : markB s
  all_goals
    go_enter Tryz.func99, Tryz.ntmps99
    go_wp2_with (first | (go_at_call 132; refine (signs_any _ _ hs).mono ?_; rintro e w' ⟨rfl, rfl⟩) | (go_at_call 133; refine (rmark_any _ _).mono ?_; rintro e w' ⟨rfl, hb⟩))
    go_ret
    refine ⟨ret_bool (by simp [isOpB, HA.out, h0, h1, h2]), ?_⟩
    first | exact Below.refl _ _ | assumption
end Go.Proofs.YtkamjbmjjhbjcaaGreatDoor.Lx
namespace Go.Proofs.YtkamjbmjjhbjcaaGreatDoor
open Go.RowKit
/-- A number's digits. -/
def dgL : Nat → Nat → List UInt8
  | 0, _ => []
  | f + 1, u => (if u < 10 then [] else dgL f (u / 10)) ++ [UInt8.ofNat (48 + u % 10)]
def digs (u : Nat) : ByteArray := Lx.textOf (dgL 20 u)
def xUp : Value → Option Value
  | .string s => if s.size ≤ maxLen then some (.bool (Lx.isUpB s)) else none
  | _ => none
def xLow : Value → Option Value
  | .string s => if s.size ≤ maxLen then some (.bool (Lx.isLowB s)) else none
  | _ => none
def xOp : Value → Option Value
  | .string s => if s.size ≤ maxLen then some (.bool (Lx.isOpB s)) else none
  | _ => none
def xTxt : Value → Option Value
  | .int .i64 n => if 0 ≤ n ∧ n < 4611686018427387904 then some (.string (digs n.toNat)) else none
  | _ => none
/-- Is a text UTF-8? -/
def utfB (s : ByteArray) : Bool := Lib.validD s.data.toList
def xUtf : Value → Option Value
  | .string s => if s.size ≤ maxLen then some (.bool (utfB s)) else none
  | _ => none
/-- The place of a byte. -/
def xByte : PV → PV → Option Value
  | .lit (.string s), .lit (.int .u8 c) => some (.int .i64 (Lib.indexByte s.data.toList c.toNat.toUInt8))
  | _, _ => none
/-- Texts side by side, with another one between. -/
def joinB : List ByteArray → ByteArray → ByteArray
  | [], _ => ⟨#[]⟩
  | [x], _ => x
  | x :: y :: l, s => x ++ (s ++ joinB (y :: l) s)
def textsOf : List (List PV) → Option (List ByteArray)
  | [] => some []
  | [.lit (.string x)] :: l => match textsOf l with
    | some r => some (x :: r)
    | none => none
  | _ => none
def xJoin : PV → PV → Option Value
  | .rows es, .lit (.string s) => match textsOf es with
    | some xs => if xs.length ≤ 140737488355328 ∧ (joinB xs s).size ≤ 140737488355328 then some (.string (joinB xs s)) else none
    | none => none
  | _, _ => none
theorem textsOf_map : ∀ xs : List ByteArray, textsOf (xs.map fun x => [.lit (.string x)]) = some xs
  | [] => rfl
  | x :: l => by
    rw [List.map_cons, textsOf, textsOf_map l]
theorem textsOf_eq : ∀ {es : List (List PV)} {xs : List ByteArray}, textsOf es = some xs → es = xs.map fun x => [.lit (.string x)]
  | [], xs, h => by cases h; rfl
  | e :: l, xs, h => by
    unfold textsOf at h
    split at h
    · rename_i heq; cases heq
    · rename_i x l' heq
      cases heq
      split at h
      · rename_i r hr
        cases h
        rw [List.map_cons, ← textsOf_eq hr]
      · cases h
    · cases h
end Go.Proofs.YtkamjbmjjhbjcaaGreatDoor
namespace Go.Proofs.YtkamjbmjjhbjcaaGreatDoor.Lx
set_option maxRecDepth 20000
open Go.RowKit

set_option maxHeartbeats 1000000 in
theorem wrap_any (n : Int) (h0 : 0 ≤ n) (h1 : n < 4611686018427387904) (w : World) : Calls Tryz.prog 87 #[.int .i64 n] w fun e w' => e = .returned (.int .i64 n) ∧ w = w' := by
  go_enter Tryz.func87, Tryz.ntmps87
  go_wp2_with fail
  exact bodyPost_ret (v := .int .i64 n) (by simp [results, Tryz.results87, go_sem]) rfl ⟨rfl, rfl⟩
/-- The block of the array. -/
def Arr (w : World) (b : Nat) (cs : Array Value) : Prop := w.heap[b]? = some (.cells cs 125 (0, 0))
theorem Arr.cell {w : World} {b : Nat} {cs : Array Value} (h : Arr w b cs) (o : Nat) : w.cell? ⟨b, o, none⟩ = cs[o]? := by simp [World.cell?, show w.heap[b]? = _ from h]
theorem Arr.f {w : World} {b : Nat} {cs : Array Value} (h : Arr w b cs) (o : Nat) : w.frozen? ⟨b, o, none⟩ = false := by simp [World.frozen?, show w.heap[b]? = _ from h]
theorem Arr.lt {w : World} {b : Nat} {cs : Array Value} (h : Arr w b cs) : b < w.heap.size := lt_of_block h
theorem Arr.set {w : World} {b : Nat} {cs : Array Value} (h : Arr w b cs) (o : Nat) (u : Value) : Arr (w.setCell ⟨b, o, none⟩ u) b (cs.setIfInBounds o u) := by
  have hlt := h.lt
  have h' : w.heap[b] = .cells cs 125 (0, 0) := by have := h; unfold Arr at this; simpa [Array.getElem?_eq_getElem hlt] using this
  show (w.heap.modify b _)[b]? = _
  rw [Array.getElem?_eq_getElem (by simpa using hlt), Array.getElem_modify_self, h']
  rfl
theorem dgL_small (f u : Nat) (h : u / 10 = 0) : dgL (f + 1) u = [UInt8.ofNat (48 + u % 10)] := by
  rw [dgL, if_pos (by omega)]; rfl
theorem dgL_more (f u : Nat) (h : ¬ u / 10 = 0) : dgL (f + 1) u = dgL f (u / 10) ++ [UInt8.ofNat (48 + u % 10)] := by
  rw [dgL, if_neg (by omega)]
theorem slc20 (W : World) (b k : Nat) (hk : k < 20) : (Instr.sliceAt 125 (.pointer (some ⟨b, 0, none⟩)) (some (.int .i64 (k : Int))) none none).run Tryz.prog W = .ok (.slice (some ⟨b, k, none⟩) (20 - k) (20 - k)) W := by
  have e20 : Tryz.prog.arrayLen 125 = 20 := by kernel_rfl
  have h := run_sliceAt_array_l (P := Tryz.prog) W 125 ⟨b, 0, none⟩ (by kernel_rfl) .i64 (k : Int) (by omega) (by rw [e20]; omega)
  rw [h, e20]
  have hs : (sizeOf (Tryz.prog.elem 125)).run Tryz.prog W = .ok 1 W := by
    rw [show Tryz.prog.elem 125 = 5 by kernel_rfl]
    simp [sizeOf, go_sem, Tryz.sizeOf5]
    kernel_rfl
  rw [hs]
  simp [slicedAt, Result.andThen, Addr.add, show ¬ 20 = k by omega]
  intro h; exact h.symm
theorem back20 (W : World) (b k : Nat) (l : List UInt8) (hl : l.length = 20 - k) (hc : ∀ j (hj : j < l.length), W.cell? ⟨b, k + j, none⟩ = some (.int .u8 (l[j].toNat : Int))) : (convert 126 9 (.slice (some ⟨b, k, none⟩) (20 - k) (20 - k))).run Tryz.prog W = .ok (.string ⟨l.toArray⟩) W := by
  rw [← hl]
  exact run_convert_bytes_back W 126 9 5 ⟨b, k, none⟩ l.length l (by kernel_rfl) (by kernel_rfl) (by kernel_rfl) (fun j hj => by
    have h2 := hc j hj
    by_cases h0 : j = 0
    · subst h0; simpa [Addr.add] using h2
    · simpa [Addr.add, h0] using h2)
set_option maxHeartbeats 1000000 in
theorem txt_any (n : Int) (h0 : 0 ≤ n) (h1 : n < 4611686018427387904) (w : World) : Calls Tryz.prog 43 #[.int .i64 n] w fun e w' => e = .returned (.string (digs n.toNat)) ∧ Below w.heap.size w w' := by
  have hneg : decide (n < 0) = false := by simp; omega
  go_enter Tryz.func43, Tryz.ntmps43
  go_wp2_with (go_at_call 87; refine (wrap_any n h0 h1 _).mono ?_; rintro e w' ⟨rfl, rfl⟩)
  go_loopg [4, 5] 20 (fun g a u wr => ∃ (k uu : Nat) (cs : Array Value) (L : List UInt8), a = .int .i64 ((k : Int) + 1) ∧ k + 1 = g ∧ u = .int .u64 (uu : Int) ∧ k < 20 ∧ uu < 10 ^ (k + 1) ∧ uu < 4611686018427387904 ∧ Arr wr w.heap.size cs ∧ cs.size = 20 ∧ Below w.heap.size w wr ∧ L.length + (k + 1) = 20 ∧ (∀ j (h : j < L.length), cs[k + 1 + j]? = some (.int .u8 (L[j].toNat : Int))) ∧ dgL 20 n.toNat = dgL (k + 1) uu ++ L)
  case atStart =>
    refine ⟨19, n.toNat, _, [], rfl, rfl, ?_, by omega, by omega, by omega, heap_alloc_new w _, rfl, (Below.refl _ _).alloc (Nat.le_refl _) _, rfl, ?_, (List.append_nil _).symm⟩
    · rw [Int.toNat_of_nonneg h0]
    · intro j h; exact absurd h (Nat.not_lt_zero _)
  case round =>
    obtain ⟨k, uu, cs, L, rfl, hg, rfl, hk, hu, hu2, ha, hcs, hb, hL, hcL, hd⟩ := hrel
    have hf := ha.f k
    have hc := ha.cell k
    rw [Array.getElem?_eq_getElem (by omega)] at hc
    have hw : IntKind.u64.wrap ((uu : Int) / 10) = ((uu / 10 : Nat) : Int) := by
      simp [IntKind.wrap, IntKind.signed, IntKind.bits]
      omega
    have hlt := ha.lt
    have hset := ha.set k (.int .u8 (48 + (uu : Int) % 10))
    have hbl : Below w.heap.size w (wr.setCell ⟨w.heap.size, k, none⟩ (.int .u8 (48 + (uu : Int) % 10))) := hb.setCell (Nat.le_refl _) _
    have hdig : ((UInt8.ofNat (48 + uu % 10)).toNat : Int) = 48 + (uu : Int) % 10 := by
      rw [UInt8.toNat_ofNat']
      omega
    have hcs2 : ∀ j (h : j < (UInt8.ofNat (48 + uu % 10) :: L).length), (cs.setIfInBounds k (.int .u8 (48 + (uu : Int) % 10)))[k + j]? = some (.int .u8 ((UInt8.ofNat (48 + uu % 10) :: L)[j].toNat : Int)) := by
      intro j hj
      cases j with
      | zero =>
        rw [Nat.add_zero, Array.getElem?_setIfInBounds_self_of_lt (by omega), List.getElem_cons_zero, hdig]
      | succ j =>
        rw [Array.getElem?_setIfInBounds_ne (by omega), List.getElem_cons_succ, show k + (j + 1) = k + 1 + j by omega]
        exact hcL j (by simpa using hj)
    by_cases hz : uu / 10 = 0
    · have hq : (IntKind.u64.wrap ((uu : Int) / 10) == 0) = true := by rw [hw, hz]; rfl
      rw [dgL_small k uu hz] at hd
      have hsl := slc20 (wr.setCell ⟨w.heap.size, k, none⟩ (.int .u8 (48 + (uu : Int) % 10))) w.heap.size k hk
      have hcv := back20 (wr.setCell ⟨w.heap.size, k, none⟩ (.int .u8 (48 + (uu : Int) % 10))) w.heap.size k (UInt8.ofNat (48 + uu % 10) :: L) (by simp; omega) (fun j hj => by rw [hset.cell]; exact hcs2 j hj)
      have HD := Lib.hid hd
      clear hw hcL hb hu hu2 hcs2 hd hdig
      generalize UInt8.ofNat (48 + uu % 10) = d at *
      go_wp2_with fail
      refine bodyPost_ret (v := .string ⟨(d :: L).toArray⟩) (by simp [results, Tryz.results43, go_sem]) rfl ⟨?_, hbl⟩
      unfold digs
      rw [HD.out]
      rfl
    · have hq : (IntKind.u64.wrap ((uu : Int) / 10) == 0) = false := by rw [hw]; simp; omega
      rw [dgL_more k uu hz] at hd
      have hk0 : 1 ≤ k := by
        apply Decidable.byContradiction
        intro hn
        have : k = 0 := by omega
        subst this
        omega
      have hpow : uu / 10 < 10 ^ k := by
        rw [Nat.pow_succ] at hu
        omega
      go_wp2_with fail
      go_roundg k
      case measure => omega
      case rel =>
        refine ⟨k - 1, uu / 10, _, UInt8.ofNat (48 + uu % 10) :: L, by simp; omega, by omega, congrArg _ (by omega), by omega, by rw [show k - 1 + 1 = k by omega]; exact hpow, by omega, hset, by simpa using hcs, hbl, by simp; omega, ?_, ?_⟩
        · rw [show k - 1 + 1 = k by omega]; exact hcs2
        · rw [show k - 1 + 1 = k by omega, hd]; simp
end Go.Proofs.YtkamjbmjjhbjcaaGreatDoor.Lx
namespace Go.Proofs.YtkamjbmjjhbjcaaGreatDoor
open Go.RowKit
def XOk (f : Nat) (g : Value → Option Value) : Prop := ∀ a u, g a = some u → plainV a = true ∧ plainV u = true ∧ ∀ w, TabsIn w → Calls Tryz.prog f #[a] w fun e w' => e = .returned u ∧ Below w.heap.size w w'
theorem xUp_ok {f : Nat} (h : ∀ (s : ByteArray) (w : World), s.size ≤ maxLen → Calls Tryz.prog f #[.string s] w fun e w' => e = .returned (.bool (Lx.isUpB s)) ∧ Below w.heap.size w w') : XOk f xUp := fun a u hu => by
  unfold xUp at hu
  split at hu
  · split at hu
    · rename_i hs; cases hu; exact ⟨rfl, rfl, fun w _ => h _ w hs⟩
    · cases hu
  · cases hu
theorem xLow_ok {f : Nat} (h : ∀ (s : ByteArray) (w : World), s.size ≤ maxLen → Calls Tryz.prog f #[.string s] w fun e w' => e = .returned (.bool (Lx.isLowB s)) ∧ Below w.heap.size w w') : XOk f xLow := fun a u hu => by
  unfold xLow at hu
  split at hu
  · split at hu
    · rename_i hs; cases hu; exact ⟨rfl, rfl, fun w _ => h _ w hs⟩
    · cases hu
  · cases hu
theorem xOp_ok {f : Nat} (h : ∀ (s : ByteArray) (w : World), s.size ≤ maxLen → Calls Tryz.prog f #[.string s] w fun e w' => e = .returned (.bool (Lx.isOpB s)) ∧ Below w.heap.size w w') : XOk f xOp := fun a u hu => by
  unfold xOp at hu
  split at hu
  · split at hu
    · rename_i hs; cases hu; exact ⟨rfl, rfl, fun w _ => h _ w hs⟩
    · cases hu
  · cases hu
theorem same_below {P : Program} {f : Nat} {args : Array Value} {w : World} {v : Value} (h : Calls P f args w fun e w' => e = .returned v ∧ w = w') : Calls P f args w fun e w' => e = .returned v ∧ Below w.heap.size w w' :=
  h.mono fun e w' ⟨he, hw⟩ => ⟨he, hw ▸ Below.refl _ _⟩
theorem same_below' {P : Program} {f : Nat} {args : Array Value} {w : World} {v : Value} (h : Calls P f args w fun e w' => e = .returned v ∧ w' = w) : Calls P f args w fun e w' => e = .returned v ∧ Below w.heap.size w w' :=
  h.mono fun e w' ⟨he, hw⟩ => ⟨he, hw ▸ Below.refl _ _⟩
theorem x72_ok : XOk 72 xUp := xUp_ok (f := 72) fun s w hs => same_below (Lx.isUp_any s w hs)
theorem x73_ok : XOk 73 xLow := xLow_ok (f := 73) fun s w hs => same_below (Lx.isLow_any s w hs)
theorem x39_ok : XOk 39 xUp := xUp_ok (f := 39) fun s w hs => Lx.risUp_any s w hs
theorem x40_ok : XOk 40 xLow := xLow_ok (f := 40) fun s w hs => Lx.risLow_any s w hs
theorem x109_ok : XOk 109 xOp := xOp_ok (f := 109) fun s w hs => same_below (Lx.isOp_any s w hs)
theorem x99_ok : XOk 99 xOp := xOp_ok (f := 99) fun s w hs => Lx.risOp_any s w hs
theorem x43_ok : XOk 43 xTxt := fun a u hu => by
  unfold xTxt at hu
  split at hu
  · split at hu
    · rename_i n hn; cases hu; exact ⟨rfl, rfl, fun w _ => Lx.txt_any n hn.1 hn.2 w⟩
    · cases hu
  · cases hu
/-! UTF-8: the library's own walk. -/
theorem firstL_at {c : Nat} (h : c < 256) : firstL[c]? = some (.int .u8 (Go.Lib.firstT c)) := by
  unfold firstL
  rw [List.getElem?_map, List.getElem?_range h]; rfl
theorem accL_at {i : Nat} (h : i < 16) : accL[2 * i]? = some (.int .u8 (Go.Lib.accLo i)) ∧ accL[2 * i + 1]? = some (.int .u8 (Go.Lib.accHi i)) := by
  match i, h with
  | 0, _ => exact ⟨rfl, rfl⟩
  | 1, _ => exact ⟨rfl, rfl⟩
  | 2, _ => exact ⟨rfl, rfl⟩
  | 3, _ => exact ⟨rfl, rfl⟩
  | 4, _ => exact ⟨rfl, rfl⟩
  | 5, _ => exact ⟨rfl, rfl⟩
  | 6, _ => exact ⟨rfl, rfl⟩
  | 7, _ => exact ⟨rfl, rfl⟩
  | 8, _ => exact ⟨rfl, rfl⟩
  | 9, _ => exact ⟨rfl, rfl⟩
  | 10, _ => exact ⟨rfl, rfl⟩
  | 11, _ => exact ⟨rfl, rfl⟩
  | 12, _ => exact ⟨rfl, rfl⟩
  | 13, _ => exact ⟨rfl, rfl⟩
  | 14, _ => exact ⟨rfl, rfl⟩
  | 15, _ => exact ⟨rfl, rfl⟩
  | n + 16, h => omega
theorem utf_tabs {w : World} (h : TabsIn w) : Lib.Utf8Tabs 1 2 w := by
  refine ⟨fun c hc => h 1 firstL rfl c _ (firstL_at hc), fun i hi => ⟨h 2 accL rfl _ _ (accL_at hi).1, h 2 accL rfl _ _ (accL_at hi).2⟩⟩
theorem x70_ok : XOk 70 xUtf := fun a u hu => by
  unfold xUtf at hu
  split at hu
  · split at hu
    · rename_i s hs
      cases hu
      exact ⟨rfl, rfl, fun w ht => Any.utf8_ValidString Tryz.lays196 s w (by unfold maxLen at hs; omega) (utf_tabs ht)⟩
    · cases hu
  · cases hu
theorem x175_ok : ∀ a b u, xByte a b = some u → Sem Tryz.prog 175 [.pv a, .pv b] [] (.pv (.lit u)) [] := fun a b u hu => by
  unfold xByte at hu
  split at hu
  · rename_i s c
    cases hu
    exact sem_pure (vs := [.string s, .int .u8 c]) (fun b hb => by
      rcases List.mem_cons.1 hb with rfl | hb
      · rfl
      · rw [List.mem_singleton.1 hb]; rfl) rfl fun w _ => same_below' (Tryz.strings_IndexByte s c w)
  · cases hu
theorem join_data : ∀ (xs : List ByteArray) (s : ByteArray), (joinB xs s).data.toList = Lib.join (xs.map (·.data.toList)) s.data.toList
  | [], s => rfl
  | [x], s => by rw [joinB]; simp [Lib.join, List.intercalate]
  | x :: y :: l, s => by
    rw [joinB, ByteArray.data_append, ByteArray.data_append, Array.toList_append, Array.toList_append, join_data (y :: l) s]
    rw [List.map_cons, List.map_cons, Lib.join_cons, List.map_cons, Lib.join_cons]
    simp [Lib.joinTail, List.append_assoc]
theorem join_eq (xs : List ByteArray) (s : ByteArray) : (⟨(Lib.join (xs.map (·.data.toList)) s.data.toList).toArray⟩ : ByteArray) = joinB xs s := by
  rw [← join_data]
theorem x97_ok : ∀ a b u, xJoin a b = some u → Sem Tryz.prog 97 [.pv a, .pv b] [] (.pv (.lit u)) [] := fun a b u hu => by
  unfold xJoin at hu
  split at hu
  · rename_i es s
    split at hu
    · rename_i xs hx
      split at hu
      · rename_i hc
        cases hu
        have hes := textsOf_eq hx
        subst hes
        refine sem_below rfl fun K w us W hv => ?_
        obtain ⟨hl, hh⟩ := hv
        match us, hl, hh with
        | [va, vb], _, hh =>
          have ha := hh 0 (by simp) (by simp)
          have hb := hh 1 (by simp) (by simp)
          simp only [List.getElem_cons_zero, List.getElem_cons_succ] at ha hb
          cases ha with
          | pv pa =>
            cases hb with
            | pv pb =>
              cases pb with
              | lit _ _ =>
                obtain ⟨a, cap, g, off, rfl, h1, h2, h3⟩ := pr_strs pa
                rw [← join_eq]
                by_cases hn : xs = []
                · subst hn
                  exact same_below' (Tryz.strings_Join_none a cap s w)
                · obtain rfl := h1 hn
                  obtain ⟨x, hx0⟩ : ∃ x, xs[0]? = some x := by
                    cases xs with
                    | nil => exact absurd rfl hn
                    | cons x l => exact ⟨x, rfl⟩
                  have hg : g < w.heap.size := by
                    have h4 := W.agr _ _ _ (h3 0 x hx0)
                    apply Decidable.byContradiction
                    intro hge
                    rw [World.cell?, Array.getElem?_eq_none (by simpa using Nat.le_of_not_lt hge)] at h4
                    cases h4
                  refine Tryz.strings_Join g off cap xs s w (fun j x hj => W.agr _ _ _ (h3 j x hj)) hg hc.1 h2 ?_
                  rw [← join_data]
                  exact hc.2
      · cases hu
    · cases hu
  · cases hu
end Go.Proofs.YtkamjbmjjhbjcaaGreatDoor
