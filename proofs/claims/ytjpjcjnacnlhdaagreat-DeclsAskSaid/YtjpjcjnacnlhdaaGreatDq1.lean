/- The first of a list that is such. Printed by find.py. -/
import Derived.Test.YtjpjcjnacnlhdaaGreatDe1
namespace Go.Proofs.YtjpjcjnacnlhdaaGreat
open Go.RowKit
set_option linter.unusedSimpArgs false
set_option linter.unusedVariables false

@[simp] theorem nso_box {t : TypeId} {l : List AV} : NSO (.box t l) ↔ ∀ a ∈ l, NSA a := ⟨fun h => by cases h with | box _ _ h => exact h, fun h => .box _ _ h⟩
@[simp] theorem nsa_pv {q : PV} : NSA (.pv q) ↔ NS q := ⟨fun h => by cases h with | pv _ h => exact h, fun h => .pv _ h⟩
@[simp] theorem nso_dead : NSO .dead := .dead
/-- The first that is such, and its place. -/
def fnd {α : Type} (f : α → Bool) : List α → Nat → Option Nat
  | [], _ => none
  | a :: l, i => if f a then some i else fnd f l (i + 1)
theorem fnd_some {α : Type} {f : α → Bool} : ∀ {l : List α} {i k : Nat}, fnd f l i = some k → i ≤ k ∧ ∃ a, l[k - i]? = some a ∧ f a = true
  | [], i, k, h => by cases h
  | a :: l, i, k, h => by
    rw [fnd] at h
    split at h
    · rename_i hf
      cases h
      exact ⟨Nat.le_refl _, a, by simp, hf⟩
    · obtain ⟨h1, b, h2, h3⟩ := fnd_some h
      refine ⟨by omega, b, ?_, h3⟩
      rw [show k - i = (k - (i + 1)) + 1 by omega]
      simpa using h2
theorem fnd_none {α : Type} {f : α → Bool} : ∀ {l : List α} {i : Nat}, fnd f l i = none ↔ ∀ a ∈ l, f a = false
  | [], i => by simp [fnd]
  | a :: l, i => by
    rw [fnd]
    cases hf : f a with
    | true => simp [hf]
    | false => simp [hf, fnd_none (l := l)]
def fi {α : Type} (f : α → Bool) (l : List α) : Int := match fnd f l 0 with
  | some i => i
  | none => -1
theorem fi_nonneg {α : Type} {f : α → Bool} {l : List α} (h : 0 ≤ fi f l) : ∃ (k : Nat) (a : α), fi f l = k ∧ fnd f l 0 = some k ∧ l[k]? = some a ∧ f a = true := by
  unfold fi at h ⊢
  cases hf : fnd f l 0 with
  | none => rw [hf] at h; simp at h
  | some k =>
    obtain ⟨_, a, h1, h2⟩ := fnd_some hf
    exact ⟨k, a, rfl, rfl, by simpa using h1, h2⟩
theorem fi_neg {α : Type} {f : α → Bool} {l : List α} (h : ¬ 0 ≤ fi f l) : fi f l = -1 ∧ fnd f l 0 = none := by
  unfold fi at h ⊢
  cases hf : fnd f l 0 with
  | none => exact ⟨rfl, rfl⟩
  | some k => rw [hf] at h; exact absurd (Int.natCast_nonneg k) h
section
variable {P : Program} {fn : Func} {id m0 : Nat} {ex : AExit}
/-- A loop that ends at the first that is such. -/
theorem find_loop {α : Type} (l : List α) (f : α → Bool) (st : Nat → Env) (H : List AObj) (fin : Env) (ff : Nat → Env) (hx : ex ≠ .normal)
    (step : ∀ i a, l[i]? = some a → f a = false → ∀ R, CodeB R P fn.ntmps (lb fn id) m0 (st i) H .normal (st (i + 1)) H)
    (stop : ∀ i a, l[i]? = some a → f a = true → ∀ R, CodeB R P fn.ntmps (lb fn id) m0 (st i) H .ret (ff i) H)
    (done : ∀ R, CodeB R P fn.ntmps (lb fn id) m0 (st l.length) H ex fin H) :
    (fnd f l 0 = none ∧ LoopS P fn id m0 (st 0) H ex fin H) ∨ (∃ i a, fnd f l 0 = some i ∧ l[i]? = some a ∧ f a = true ∧ LoopS P fn id m0 (st 0) H .ret (ff i) H) := by
  have key : ∀ (m i : Nat), l.length - i = m → i ≤ l.length → (fnd f (l.drop i) i = none ∧ LoopS P fn id m0 (st i) H ex fin H) ∨ (∃ k a, fnd f (l.drop i) i = some k ∧ l[k]? = some a ∧ f a = true ∧ LoopS P fn id m0 (st i) H .ret (ff k) H) := by
    intro m
    induction m with
    | zero =>
      intro i hm hi
      have : i = l.length := by omega
      subst this
      exact .inl ⟨by rw [List.drop_of_length_le (Nat.le_refl _)]; rfl, LoopS.done done hx⟩
    | succ m ih =>
      intro i hm hi
      have h1 : i < l.length := by omega
      rw [List.drop_eq_getElem_cons h1, fnd]
      cases hf : f l[i] with
      | true =>
        exact .inr ⟨i, l[i], rfl, List.getElem?_eq_getElem h1, hf, LoopS.done (stop i _ (List.getElem?_eq_getElem h1) hf) (by simp)⟩
      | false =>
        have hs := step i _ (List.getElem?_eq_getElem h1) hf
        rcases ih (i + 1) (by omega) (by omega) with ⟨g1, g2⟩ | ⟨k, a, g1, g2, g3, g4⟩
        · exact .inl ⟨by simpa using g1, LoopS.again hs g2⟩
        · exact .inr ⟨k, a, by simpa using g1, g2, g3, LoopS.again hs g4⟩
  simpa using key l.length 0 (by omega) (Nat.zero_le _)
end
/-! Dt -/
def isDt (s : ByteArray) : Dt → Bool := fun x => decide (x.name = s)
theorem clo_dts (x : Dt) (s : ByteArray) : Sem Tryz.prog 53 [dtA x, .ptr 0 0] [.box 9 [.pv (sv s)]] (.pv (bv (isDt s x))) [.box 9 [.pv (sv s)]] := by
  refine F53a _ _ _ _ _ _ (by simp) (by simp [H53a]) ?_
  by_cases h : x.name = s <;> simp [T53a, isDt, h]
theorem ix_dts (l : List Dt) (hl : l.length ≤ maxN) (s : ByteArray) : Sem Tryz.prog 92 [.pv (dts l), .fn 53 [.ptr 0 0]] [.box 9 [.pv (sv s)]] (.pv (iv (fi (isDt s) l))) [.box 9 [.pv (sv s)]] := by
  refine F92a _ _ (by simp) (by simp [H92a]) ?_
  have main := find_loop (P := Tryz.prog) (fn := Tryz.f92) (id := 0) (m0 := 1) (ex := .exit 0) l (isDt s) (fun i => [(8, .pv (iv i)), (7, .pv (iv l.length)), (1, .fn 53 [.ptr 0 0]), (0, .pv (dts l))]) [.box 9 [.pv (sv s)]] [] (fun i => [(4, .pv (iv i))]) (by simp) ?_ ?_ ?_
  · rcases main with ⟨h1, h2⟩ | ⟨i, a, h1, _, _, h2⟩
    · have hB := LoopS.block (h := [.box 9 [.pv (sv s)]]) f92_loop0 (by simp) h2
      try simp at hB
      simp [T92a, fi, h1]
      exact .inl hB
    · have hB := LoopS.blockRet (h := [.box 9 [.pv (sv s)]]) f92_loop0 (by simp) h2
      try simp at hB
      simp [T92a, fi, h1]
      exact ⟨_, hB, rfl, by simp⟩
  · intro i a ha hf R
    have hi := lt_of_get ha
    have hw := wrap_lt hi hl
    have h1 := clo_dts a s
    rw [hf] at h1
    refine L92ab0a _ _ _ _ (by simp) (by simp [H92ab0a]) ?_ R
    simp [T92ab0a, hi, idx_dts ha, h1, hw]
  · intro i a ha hf R
    have hi := lt_of_get ha
    have h1 := clo_dts a s
    rw [hf] at h1
    refine L92ab0a _ _ _ _ (by simp) (by simp [H92ab0a]) ?_ R
    simp [T92ab0a, hi, idx_dts ha, h1]
  · intro R
    refine L92ab0a _ _ _ _ (by simp) (by simp [H92ab0a]) ?_ R
    simp [T92ab0a]
theorem find_dts (l : List Dt) (hl : l.length ≤ maxN) (s : ByteArray) : Sem Tryz.prog 52 [.pv (dts l), .fn 53 [.ptr 0 0]] [.box 9 [.pv (sv s)]] (.tup [.pv (iv (max (fi (isDt s) l) 0)), .pv (bv (decide (0 ≤ fi (isDt s) l)))]) [.box 9 [.pv (sv s)]] := by
  refine F52a _ _ (by simp) (by simp [H52a]) ?_
  have h := ix_dts l hl s
  simp [T52a]
  exact ⟨_, h, by by_cases h0 : 0 ≤ fi (isDt s) l <;> simp [h0] <;> omega⟩
/-! Cn -/
def isCn (s : ByteArray) : Cn → Bool := fun x => decide (x.name = s)
theorem clo_cns (x : Cn) (s : ByteArray) : Sem Tryz.prog 56 [cnA x, .ptr 0 0] [.box 9 [.pv (sv s)]] (.pv (bv (isCn s x))) [.box 9 [.pv (sv s)]] := by
  refine F56a _ _ _ _ (by simp) (by simp [H56a]) ?_
  by_cases h : x.name = s <;> simp [T56a, isCn, h]
theorem ix_cns (l : List Cn) (hl : l.length ≤ maxN) (s : ByteArray) : Sem Tryz.prog 94 [.pv (cns l), .fn 56 [.ptr 0 0]] [.box 9 [.pv (sv s)]] (.pv (iv (fi (isCn s) l))) [.box 9 [.pv (sv s)]] := by
  refine F94a _ _ (by simp) (by simp [H94a]) ?_
  have main := find_loop (P := Tryz.prog) (fn := Tryz.f94) (id := 0) (m0 := 1) (ex := .exit 0) l (isCn s) (fun i => [(8, .pv (iv i)), (7, .pv (iv l.length)), (1, .fn 56 [.ptr 0 0]), (0, .pv (cns l))]) [.box 9 [.pv (sv s)]] [] (fun i => [(4, .pv (iv i))]) (by simp) ?_ ?_ ?_
  · rcases main with ⟨h1, h2⟩ | ⟨i, a, h1, _, _, h2⟩
    · have hB := LoopS.block (h := [.box 9 [.pv (sv s)]]) f94_loop0 (by simp) h2
      try simp at hB
      simp [T94a, fi, h1]
      exact .inl hB
    · have hB := LoopS.blockRet (h := [.box 9 [.pv (sv s)]]) f94_loop0 (by simp) h2
      try simp at hB
      simp [T94a, fi, h1]
      exact ⟨_, hB, rfl, by simp⟩
  · intro i a ha hf R
    have hi := lt_of_get ha
    have hw := wrap_lt hi hl
    have h1 := clo_cns a s
    rw [hf] at h1
    refine L94ab0a _ _ _ _ (by simp) (by simp [H94ab0a]) ?_ R
    simp [T94ab0a, hi, idx_cns ha, h1, hw]
  · intro i a ha hf R
    have hi := lt_of_get ha
    have h1 := clo_cns a s
    rw [hf] at h1
    refine L94ab0a _ _ _ _ (by simp) (by simp [H94ab0a]) ?_ R
    simp [T94ab0a, hi, idx_cns ha, h1]
  · intro R
    refine L94ab0a _ _ _ _ (by simp) (by simp [H94ab0a]) ?_ R
    simp [T94ab0a]
theorem find_cns (l : List Cn) (hl : l.length ≤ maxN) (s : ByteArray) : Sem Tryz.prog 55 [.pv (cns l), .fn 56 [.ptr 0 0]] [.box 9 [.pv (sv s)]] (.tup [.pv (iv (max (fi (isCn s) l) 0)), .pv (bv (decide (0 ≤ fi (isCn s) l)))]) [.box 9 [.pv (sv s)]] := by
  refine F55a _ _ (by simp) (by simp [H55a]) ?_
  have h := ix_cns l hl s
  simp [T55a]
  exact ⟨_, h, by by_cases h0 : 0 ≤ fi (isCn s) l <;> simp [h0] <;> omega⟩
/-! Cl -/
def isCl (s : ByteArray) : Cl → Bool := fun x => decide (x.name = s)
theorem clo_cls (x : Cl) (s : ByteArray) : Sem Tryz.prog 58 [clA x, .ptr 0 0] [.box 9 [.pv (sv s)]] (.pv (bv (isCl s x))) [.box 9 [.pv (sv s)]] := by
  refine F58a _ _ _ _ _ _ _ (by simp) (by simp [H58a]) ?_
  by_cases h : x.name = s <;> simp [T58a, isCl, h]
theorem ix_cls (l : List Cl) (hl : l.length ≤ maxN) (s : ByteArray) : Sem Tryz.prog 95 [.pv (cls l), .fn 58 [.ptr 0 0]] [.box 9 [.pv (sv s)]] (.pv (iv (fi (isCl s) l))) [.box 9 [.pv (sv s)]] := by
  refine F95a _ _ (by simp) (by simp [H95a]) ?_
  have main := find_loop (P := Tryz.prog) (fn := Tryz.f95) (id := 0) (m0 := 1) (ex := .exit 0) l (isCl s) (fun i => [(8, .pv (iv i)), (7, .pv (iv l.length)), (1, .fn 58 [.ptr 0 0]), (0, .pv (cls l))]) [.box 9 [.pv (sv s)]] [] (fun i => [(4, .pv (iv i))]) (by simp) ?_ ?_ ?_
  · rcases main with ⟨h1, h2⟩ | ⟨i, a, h1, _, _, h2⟩
    · have hB := LoopS.block (h := [.box 9 [.pv (sv s)]]) f95_loop0 (by simp) h2
      try simp at hB
      simp [T95a, fi, h1]
      exact .inl hB
    · have hB := LoopS.blockRet (h := [.box 9 [.pv (sv s)]]) f95_loop0 (by simp) h2
      try simp at hB
      simp [T95a, fi, h1]
      exact ⟨_, hB, rfl, by simp⟩
  · intro i a ha hf R
    have hi := lt_of_get ha
    have hw := wrap_lt hi hl
    have h1 := clo_cls a s
    rw [hf] at h1
    refine L95ab0a _ _ _ _ (by simp) (by simp [H95ab0a]) ?_ R
    simp [T95ab0a, hi, idx_cls ha, h1, hw]
  · intro i a ha hf R
    have hi := lt_of_get ha
    have h1 := clo_cls a s
    rw [hf] at h1
    refine L95ab0a _ _ _ _ (by simp) (by simp [H95ab0a]) ?_ R
    simp [T95ab0a, hi, idx_cls ha, h1]
  · intro R
    refine L95ab0a _ _ _ _ (by simp) (by simp [H95ab0a]) ?_ R
    simp [T95ab0a]
theorem find_cls (l : List Cl) (hl : l.length ≤ maxN) (s : ByteArray) : Sem Tryz.prog 57 [.pv (cls l), .fn 58 [.ptr 0 0]] [.box 9 [.pv (sv s)]] (.tup [.pv (iv (max (fi (isCl s) l) 0)), .pv (bv (decide (0 ≤ fi (isCl s) l)))]) [.box 9 [.pv (sv s)]] := by
  refine F57a _ _ (by simp) (by simp [H57a]) ?_
  have h := ix_cls l hl s
  simp [T57a]
  exact ⟨_, h, by by_cases h0 : 0 ≤ fi (isCl s) l <;> simp [h0] <;> omega⟩
/-! Md -/
def isMd (s : ByteArray) : Md → Bool := fun x => decide (x.name = s)
theorem clo_mds (x : Md) (s : ByteArray) : Sem Tryz.prog 60 [mdA x, .ptr 0 0] [.box 9 [.pv (sv s)]] (.pv (bv (isMd s x))) [.box 9 [.pv (sv s)]] := by
  refine F60a _ _ _ _ _ _ _ (by simp) (by simp [H60a]) ?_
  by_cases h : x.name = s <;> simp [T60a, isMd, h]
theorem ix_mds (l : List Md) (hl : l.length ≤ maxN) (s : ByteArray) : Sem Tryz.prog 96 [.pv (mds l), .fn 60 [.ptr 0 0]] [.box 9 [.pv (sv s)]] (.pv (iv (fi (isMd s) l))) [.box 9 [.pv (sv s)]] := by
  refine F96a _ _ (by simp) (by simp [H96a]) ?_
  have main := find_loop (P := Tryz.prog) (fn := Tryz.f96) (id := 0) (m0 := 1) (ex := .exit 0) l (isMd s) (fun i => [(8, .pv (iv i)), (7, .pv (iv l.length)), (1, .fn 60 [.ptr 0 0]), (0, .pv (mds l))]) [.box 9 [.pv (sv s)]] [] (fun i => [(4, .pv (iv i))]) (by simp) ?_ ?_ ?_
  · rcases main with ⟨h1, h2⟩ | ⟨i, a, h1, _, _, h2⟩
    · have hB := LoopS.block (h := [.box 9 [.pv (sv s)]]) f96_loop0 (by simp) h2
      try simp at hB
      simp [T96a, fi, h1]
      exact .inl hB
    · have hB := LoopS.blockRet (h := [.box 9 [.pv (sv s)]]) f96_loop0 (by simp) h2
      try simp at hB
      simp [T96a, fi, h1]
      exact ⟨_, hB, rfl, by simp⟩
  · intro i a ha hf R
    have hi := lt_of_get ha
    have hw := wrap_lt hi hl
    have h1 := clo_mds a s
    rw [hf] at h1
    refine L96ab0a _ _ _ _ (by simp) (by simp [H96ab0a]) ?_ R
    simp [T96ab0a, hi, idx_mds ha, h1, hw]
  · intro i a ha hf R
    have hi := lt_of_get ha
    have h1 := clo_mds a s
    rw [hf] at h1
    refine L96ab0a _ _ _ _ (by simp) (by simp [H96ab0a]) ?_ R
    simp [T96ab0a, hi, idx_mds ha, h1]
  · intro R
    refine L96ab0a _ _ _ _ (by simp) (by simp [H96ab0a]) ?_ R
    simp [T96ab0a]
theorem find_mds (l : List Md) (hl : l.length ≤ maxN) (s : ByteArray) : Sem Tryz.prog 59 [.pv (mds l), .fn 60 [.ptr 0 0]] [.box 9 [.pv (sv s)]] (.tup [.pv (iv (max (fi (isMd s) l) 0)), .pv (bv (decide (0 ≤ fi (isMd s) l)))]) [.box 9 [.pv (sv s)]] := by
  refine F59a _ _ (by simp) (by simp [H59a]) ?_
  have h := ix_mds l hl s
  simp [T59a]
  exact ⟨_, h, by by_cases h0 : 0 ≤ fi (isMd s) l <;> simp [h0] <;> omega⟩
/-! It -/
def isIt (s u : ByteArray) : It → Bool := fun x => decide (x.cls = s) && decide (x.head.name = u)
theorem clo_its (x : It) (s u : ByteArray) : Sem Tryz.prog 62 [itA x, .ptr 0 0, .ptr 1 0] [.box 9 [.pv (sv s)], .box 9 [.pv (sv u)]] (.pv (bv (isIt s u x))) [.box 9 [.pv (sv s)], .box 9 [.pv (sv u)]] := by
  refine F62a _ _ _ _ _ _ _ _ _ _ (by simp) (by simp [H62a]) ?_
  by_cases h : x.cls = s <;> by_cases h2 : x.head.name = u <;> simp [T62a, isIt, h, h2]
theorem ix_its (l : List It) (hl : l.length ≤ maxN) (s u : ByteArray) : Sem Tryz.prog 97 [.pv (its l), .fn 62 [.ptr 0 0, .ptr 1 0]] [.box 9 [.pv (sv s)], .box 9 [.pv (sv u)]] (.pv (iv (fi (isIt s u) l))) [.box 9 [.pv (sv s)], .box 9 [.pv (sv u)]] := by
  refine F97a _ _ _ (by simp) (by simp [H97a]) ?_
  have main := find_loop (P := Tryz.prog) (fn := Tryz.f97) (id := 0) (m0 := 2) (ex := .exit 0) l (isIt s u) (fun i => [(8, .pv (iv i)), (7, .pv (iv l.length)), (1, .fn 62 [.ptr 0 0, .ptr 1 0]), (0, .pv (its l))]) [.box 9 [.pv (sv s)], .box 9 [.pv (sv u)]] [] (fun i => [(4, .pv (iv i))]) (by simp) ?_ ?_ ?_
  · rcases main with ⟨h1, h2⟩ | ⟨i, a, h1, _, _, h2⟩
    · have hB := LoopS.block (h := [.box 9 [.pv (sv s)], .box 9 [.pv (sv u)]]) f97_loop0 (by simp) h2
      try simp at hB
      simp [T97a, fi, h1]
      exact .inl hB
    · have hB := LoopS.blockRet (h := [.box 9 [.pv (sv s)], .box 9 [.pv (sv u)]]) f97_loop0 (by simp) h2
      try simp at hB
      simp [T97a, fi, h1]
      exact ⟨_, hB, rfl, by simp⟩
  · intro i a ha hf R
    have hi := lt_of_get ha
    have hw := wrap_lt hi hl
    have h1 := clo_its a s u
    rw [hf] at h1
    refine L97ab0a _ _ _ _ _ (by simp) (by simp [H97ab0a]) ?_ R
    simp [T97ab0a, hi, idx_its ha, h1, hw]
  · intro i a ha hf R
    have hi := lt_of_get ha
    have h1 := clo_its a s u
    rw [hf] at h1
    refine L97ab0a _ _ _ _ _ (by simp) (by simp [H97ab0a]) ?_ R
    simp [T97ab0a, hi, idx_its ha, h1]
  · intro R
    refine L97ab0a _ _ _ _ _ (by simp) (by simp [H97ab0a]) ?_ R
    simp [T97ab0a]
theorem find_its (l : List It) (hl : l.length ≤ maxN) (s u : ByteArray) : Sem Tryz.prog 61 [.pv (its l), .fn 62 [.ptr 0 0, .ptr 1 0]] [.box 9 [.pv (sv s)], .box 9 [.pv (sv u)]] (.tup [.pv (iv (max (fi (isIt s u) l) 0)), .pv (bv (decide (0 ≤ fi (isIt s u) l)))]) [.box 9 [.pv (sv s)], .box 9 [.pv (sv u)]] := by
  refine F61a _ _ _ (by simp) (by simp [H61a]) ?_
  have h := ix_its l hl s u
  simp [T61a]
  exact ⟨_, h, by by_cases h0 : 0 ≤ fi (isIt s u) l <;> simp [h0] <;> omega⟩
/-! Texts. -/
def mem (l : List ByteArray) (s : ByteArray) : Bool := l.any fun x => decide (x = s)
theorem ix_strs (l : List ByteArray) (hl : l.length ≤ maxN) (s : ByteArray) : Sem Tryz.prog 93 [.pv (strs l), .pv (sv s)] [] (.pv (iv (fi (fun x => decide (s = x)) l))) [] := by
  refine F93 _ _ (by simp) ?_
  have main := find_loop (P := Tryz.prog) (fn := Tryz.f93) (id := 0) (m0 := 0) (ex := .exit 0) l (fun x => decide (s = x)) (fun i => [(8, .pv (iv i)), (7, .pv (iv l.length)), (1, .pv (sv s)), (0, .pv (strs l))]) [] [] (fun i => [(4, .pv (iv i))]) (by simp) ?_ ?_ ?_
  · rcases main with ⟨h1, h2⟩ | ⟨i, a, h1, _, _, h2⟩
    · have hB := LoopS.block f93_loop0 no_obj h2
      try simp at hB
      simp [T93, fi, h1]
      exact .inl hB
    · have hB := LoopS.blockRet f93_loop0 no_obj h2
      try simp at hB
      simp [T93, fi, h1]
      exact ⟨_, hB, rfl, by simp⟩
  · intro i a ha hf R
    have hi := lt_of_get ha
    have hw := wrap_lt hi hl
    have hf : ¬ s = a := by simpa using hf
    refine L93b0a _ _ _ _ (by simp) ?_ R
    simp [T93b0a, hi, idx_strs ha, hf, hw]
  · intro i a ha hf R
    have hi := lt_of_get ha
    have hf : s = a := by simpa using hf
    refine L93b0a _ _ _ _ (by simp) ?_ R
    simp [T93b0a, hi, idx_strs ha, hf]
  · intro R
    refine L93b0a _ _ _ _ (by simp) ?_ R
    simp [T93b0a]
theorem mem_iff (l : List ByteArray) (s : ByteArray) : mem l s = true ↔ s ∈ l := by
  unfold mem
  rw [List.any_eq_true]
  constructor
  · rintro ⟨x, h1, h2⟩
    have : x = s := by simpa using h2
    subst this; exact h1
  · exact fun h => ⟨s, h, by simp⟩
theorem mem_fi (l : List ByteArray) (s : ByteArray) : mem l s = decide (0 ≤ fi (fun x => decide (s = x)) l) := by
  cases h : mem l s with
  | true =>
    have hm := (mem_iff l s).1 h
    by_cases h0 : 0 ≤ fi (fun x => decide (s = x)) l
    · simp [h0]
    · have := fnd_none.1 (fi_neg h0).2 s hm
      simp at this
  | false =>
    by_cases h0 : 0 ≤ fi (fun x => decide (s = x)) l
    · obtain ⟨k, a, _, _, h1, h2⟩ := fi_nonneg h0
      have : s = a := by simpa using h2
      subst this
      rw [(mem_iff l s).2 (List.mem_of_getElem? h1)] at h; cases h
    · simp [h0]
theorem cont_strs (l : List ByteArray) (hl : l.length ≤ maxN) (s : ByteArray) : Sem Tryz.prog 54 [.pv (strs l), .pv (sv s)] [] (.pv (bv (mem l s))) [] := by
  refine F54 _ _ (by simp) ?_
  have h := ix_strs l hl s
  rw [mem_fi]
  simp [T54]
  exact ⟨_, h, by by_cases h0 : 0 ≤ fi (fun x => decide (s = x)) l <;> simp [h0] <;> omega⟩
theorem has_strs (l : List ByteArray) (hl : l.length ≤ maxN) (s : ByteArray) : Sem Tryz.prog 44 [.pv (strs l), .pv (sv s)] [] (.pv (bv (mem l s))) [] := by
  refine F44 _ _ (by simp) ?_
  have main := find_loop (P := Tryz.prog) (fn := Tryz.f44) (id := 0) (m0 := 0) (ex := .exit 0) l (fun x => decide (x = s)) (fun i => [(5, .pv (iv i)), (0, .pv (strs l)), (1, .pv (sv s))]) [] [] (fun i => [(4, .pv (bv true))]) (by simp) ?_ ?_ ?_
  · rcases main with ⟨h1, h2⟩ | ⟨i, a, h1, h3, h4, h2⟩
    · have hB := LoopS.block f44_loop0 no_obj h2
      try simp at hB
      have hn : mem l s = false := by
        cases hm : mem l s with
        | false => rfl
        | true => have := fnd_none.1 h1 s ((mem_iff l s).1 hm); simp at this
      simp [T44, hn]
      exact .inl hB
    · have hB := LoopS.blockRet f44_loop0 no_obj h2
      try simp at hB
      have ha : a = s := by simpa using h4
      subst ha
      have hn : mem l a = true := (mem_iff l a).2 (List.mem_of_getElem? h3)
      simp [T44, hn]
      exact hB
  · intro i a ha hf R
    have hi := lt_of_get ha
    have hw := wrap_lt hi hl
    have hf : ¬ a = s := by simpa using hf
    refine L44b0a _ _ _ (by simp) ?_ R
    simp [T44b0a, hi, idx_strs ha, hf, hw]
  · intro i a ha hf R
    have hi := lt_of_get ha
    have hf : a = s := by simpa using hf
    refine L44b0a _ _ _ (by simp) ?_ R
    simp [T44b0a, hi, idx_strs ha, hf]
  · intro R
    refine L44b0a _ _ _ (by simp) ?_ R
    simp [T44b0a]
end Go.Proofs.YtjpjcjnacnlhdaaGreat
