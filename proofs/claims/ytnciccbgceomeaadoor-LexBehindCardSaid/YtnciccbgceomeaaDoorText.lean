/- What 'text' does: it puts a text, or says that it is wrong. -/
import Derived.Test.YtnciccbgceomeaaDoorNum2
namespace Go.Proofs.YtnciccbgceomeaaDoor
open Go.RowKit

/-- What a byte behind a backslash stands for. -/
def escC (d : UInt8) : Option UInt8 := if d.toNat = 110 then some 10 else if d.toNat = 116 then some 9 else if d.toNat = 34 then some 34 else if d.toNat = 92 then some 92 else none
/-- A text behind its opening mark, and what follows it. -/
def textL : List UInt8 → Option (List UInt8 × List UInt8)
  | [] => none
  | c :: r =>
    if c.toNat = 34 then some ([], r)
    else if c.toNat = 10 then none
    else if c.toNat = 92 then
      match r with
      | [] => none
      | d :: r' =>
        match escC d with
        | none => none
        | some x => (textL r').map fun p => (x :: p.1, p.2)
    else (textL r).map fun p => (c :: p.1, p.2)

theorem textL_cons (c : UInt8) (r : List UInt8) : textL (c :: r) =
    if c.toNat = 34 then some ([], r)
    else if c.toNat = 10 then none
    else if c.toNat = 92 then
      match r with
      | [] => none
      | d :: r' =>
        match escC d with
        | none => none
        | some x => (textL r').map fun p => (x :: p.1, p.2)
    else (textL r).map fun p => (c :: p.1, p.2) := by
  cases r <;> rfl

def textOfR (o : Option (List UInt8 × List UInt8)) (s : ByteArray) (k : Nat) : Except Int (Tok × Nat) :=
  match o with
  | none => .error 103
  | some (x, r) => putR 4 (textOf x) 0 k (s.size - r.length)
def textR (s : ByteArray) (k : Nat) : Except Int (Tok × Nat) := textOfR (textL (s.data.toList.drop (k + 1))) s k

def more' (acc : List UInt8) (o : Option (List UInt8 × List UInt8)) : Option (List UInt8 × List UInt8) := o.map fun p => (acc ++ p.1, p.2)

theorem more'_nil (o : Option (List UInt8 × List UInt8)) : more' [] o = o := by cases o <;> rfl
theorem textL_plain {s : ByteArray} {j : Nat} (h : j < s.size) (acc : List UInt8) (h1 : s[j].toNat ≠ 34) (h2 : s[j].toNat ≠ 10) (h3 : s[j].toNat ≠ 92) :
    more' acc (textL (s.data.toList.drop j)) = more' (acc ++ [s[j]]) (textL (s.data.toList.drop (j + 1))) := by
  rw [drop_at s j h, textL_cons]
  simp only [h1, h2, h3, if_false]
  cases textL (s.data.toList.drop (j + 1)) <;> simp [more']
theorem textL_quote {s : ByteArray} {j : Nat} (h : j < s.size) (acc : List UInt8) (h1 : s[j].toNat = 34) :
    more' acc (textL (s.data.toList.drop j)) = some (acc, s.data.toList.drop (j + 1)) := by
  rw [drop_at s j h, textL_cons]
  simp [h1, more']
theorem textL_line {s : ByteArray} {j : Nat} (h : j < s.size) (acc : List UInt8) (h1 : s[j].toNat = 10) : more' acc (textL (s.data.toList.drop j)) = none := by
  rw [drop_at s j h, textL_cons]
  simp [h1, more']
theorem textL_end {s : ByteArray} {j : Nat} (h : ¬ j < s.size) (acc : List UInt8) : more' acc (textL (s.data.toList.drop j)) = none := by
  have hl : s.data.toList.length = s.size := rfl
  rw [List.drop_eq_nil_of_le (by omega)]
  rfl
theorem textL_back_end {s : ByteArray} {j : Nat} (h : j < s.size) (acc : List UInt8) (h1 : s[j].toNat = 92) (h2 : ¬ j + 1 < s.size) : more' acc (textL (s.data.toList.drop j)) = none := by
  have hl : s.data.toList.length = s.size := rfl
  rw [drop_at s j h, List.drop_eq_nil_of_le (by omega), textL_cons]
  simp [h1, more']
theorem textL_back {s : ByteArray} {j : Nat} (h : j < s.size) (acc : List UInt8) (h1 : s[j].toNat = 92) (h2 : j + 1 < s.size) :
    more' acc (textL (s.data.toList.drop j)) = match escC s[j + 1] with | none => none | some x => more' (acc ++ [x]) (textL (s.data.toList.drop (j + 2))) := by
  rw [drop_at s j h, drop_at s (j + 1) h2, textL_cons]
  simp only [h1]
  cases escC s[j + 1] with
  | none => simp [more']
  | some x => cases textL (s.data.toList.drop (j + 2)) <;> simp [more']

theorem esc_index (d : UInt8) : (Lib.indexByte [110, 116, 34, 92] d = -1 ∧ escC d = none) ∨ (Lib.indexByte [110, 116, 34, 92] d = 0 ∧ escC d = some 10) ∨ (Lib.indexByte [110, 116, 34, 92] d = 1 ∧ escC d = some 9) ∨ (Lib.indexByte [110, 116, 34, 92] d = 2 ∧ escC d = some 34) ∨ (Lib.indexByte [110, 116, 34, 92] d = 3 ∧ escC d = some 92) := by
  revert d
  have : ∀ n : Fin 256, (Lib.indexByte [110, 116, 34, 92] (UInt8.ofNat n) = -1 ∧ escC (UInt8.ofNat n) = none) ∨ (Lib.indexByte [110, 116, 34, 92] (UInt8.ofNat n) = 0 ∧ escC (UInt8.ofNat n) = some 10) ∨ (Lib.indexByte [110, 116, 34, 92] (UInt8.ofNat n) = 1 ∧ escC (UInt8.ofNat n) = some 9) ∨ (Lib.indexByte [110, 116, 34, 92] (UInt8.ofNat n) = 2 ∧ escC (UInt8.ofNat n) = some 34) ∨ (Lib.indexByte [110, 116, 34, 92] (UInt8.ofNat n) = 3 ∧ escC (UInt8.ofNat n) = some 92) := by decide +kernel
  intro d
  have := this ⟨d.toNat, d.toNat_lt⟩
  simpa using this

def byteCells (l : List UInt8) : List Value := l.map fun c => Value.int .u8 (c.toNat : Int)
theorem byteCells_snoc (l : List UInt8) (c : UInt8) : byteCells (l ++ [c]) = byteCells l ++ [Value.int .u8 (c.toNat : Int)] := by simp [byteCells]

/-- An owned row of bytes as a text. -/
theorem own_string {w : World} {base : Nat} {v : Value} {l : List UInt8} (h : w.ownsRow base 5 1 v l.length (byteCells l)) : (convert 51 9 v).run Tryd.prog w = .ok (.string (textOf l)) w := by
  rcases h.2 with ⟨rfl, h0⟩ | ⟨g, cap, cur, rfl, _, hg, _⟩
  · rw [run_convert_bytes_nil w 51 5 Tryd.underlying51 Tryd.underlying5 0 0 9 Tryd.underlying9]
    have : l = [] := List.eq_nil_of_length_eq_zero h0
    subst this
    rfl
  · refine run_convert_bytes_back w 51 9 5 ⟨g, 0, none⟩ cap l Tryd.underlying51 Tryd.underlying5 Tryd.underlying9 ?_
    intro j hj
    exact h.cells (g := g) rfl j _ (by simp [byteCells, hj])

/-- The state of 'text': the scanner, its tokens, the text so far. -/
structure Tx (w0 : World) (b B2 : Nat) (s : ByteArray) (ts : List Tok) (v : Value) (j : Nat) (acc : List UInt8) (bv : Value) (w : World) : Prop where
  blk : Blk w b s j v
  own : w.ownsRow (b + 1) 35 4 v ts.length (tokCells ts)
  byt : w.ownsRow B2 5 1 bv acc.length (byteCells acc)
  bel : Below b w0 w
  hB : B2 ≤ w.heap.size
  hb : b < B2
  hv : ∀ g, v.ownBlock = some g → g < B2

section
variable {w0 w : World} {b B2 : Nat} {s : ByteArray} {ts : List Tok} {v : Value} {j : Nat} {acc : List UInt8} {bv : Value}
theorem Tx.drewN (h : Tx w0 b B2 s ts v j acc bv w) (n : Nat) : Tx w0 b B2 s ts v j acc bv (w.drewN n) :=
  ⟨h.blk, h.own, h.byt, ⟨h.bel.os, h.bel.tape, h.bel.output, h.bel.size, h.bel.block⟩, h.hB, h.hb, h.hv⟩
theorem Tx.move (h : Tx w0 b B2 s ts v j acc bv w) (j' : Nat) : Tx w0 b B2 s ts v j' acc bv (w.setCell ⟨b, 1, none⟩ (.int .i64 (j' : Int))) :=
  ⟨h.blk.set1 j', ownsRow_setCell_below h.own (by simp) _, ownsRow_setCell_below h.byt (by simpa using h.hb) _, h.bel.setCell (Nat.le_refl _) _, by simpa [World.setCell] using h.hB, h.hb, h.hv⟩
theorem Tx.appended (h : Tx w0 b B2 s ts v j acc bv w) (o : Obj) (c : UInt8) {bv' : Value} {w' : World} (hown : w'.ownsRow B2 5 1 bv' (acc.length + 1) (byteCells acc ++ [Value.int .u8 (c.toNat : Int)]))
    (hgr : (w.alloc o).grownBy w' bv.ownBlock) : Tx w0 b B2 s ts v j (acc ++ [c]) bv' w' := by
  have hne : ∀ g, bv.ownBlock = some g → B2 ≤ g := fun g hg => (h.byt.lt g hg).1
  refine ⟨h.blk.later o hgr (fun e => by have := hne b e; have := h.hb; omega), ?_, ?_, ?_, ?_, h.hb, h.hv⟩
  · refine (h.own.alloc o).kept hgr ?_
    cases hv : v.ownBlock with
    | none => exact .inl rfl
    | some g => exact .inr (fun e => by have := h.hv g hv; have := hne g e.symm; omega)
  · rw [byteCells_snoc, List.length_append]; exact hown
  · refine (h.bel.alloc ?_ o).grown hgr ?_ (fun g hg => ?_)
    · have := h.hB; have := h.hb; omega
    · have := h.hB; have := h.hb; simp; omega
    · have := hne g hg; have := h.hb; omega
  · have := hgr.size; have := h.hB; simp at *; omega
end

end Go.Proofs.YtnciccbgceomeaaDoor
