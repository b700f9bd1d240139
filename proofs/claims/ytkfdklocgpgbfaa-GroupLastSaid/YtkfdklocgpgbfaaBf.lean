/- Joined texts. -/
import Derived.Test.YtkfdklocgpgbfaaGz0
import Derived.KernelRfl
import Derived.Test.YtkfdklocgpgbfaaBl
set_option linter.unusedVariables false
set_option linter.unusedSimpArgs false
set_option linter.unusedSectionVars false
namespace Go.Proofs.Ytkfdklocgpgbfaa
open Go.RowKit
set_option maxRecDepth 100000
variable (O : Q → Option Rs)
theorem h9 (a) : body PG EE TT O (q9 a) = g9 (T := Sm) a O := by kernel_rfl
theorem h9b0a (a b c d e) : body PG EE TT O (q9b0a a b c d e) = g9b0a (T := Sm) a b c d e O := by kernel_rfl
theorem h9b2a (a b c d e f g h) : body PG EE TT O (q9b2a a b c d e f g h) = g9b2a (T := Sm) a b c d e f g h O := by kernel_rfl
theorem h9b4a (a b c d e f) : body PG EE TT O (q9b4a a b c d e f) = g9b4a (T := Sm) a b c d e f O := by kernel_rfl
theorem h17a (a b c d) : body PG EE TT O (q17a a b c d) = g17a (T := Sm) a b c d O := by kernel_rfl
theorem h17ab0a (a b c d e f g) : body PG EE TT O (q17ab0a a b c d e f g) = g17ab0a (T := Sm) a b c d e f g O := by kernel_rfl
theorem h17ab0b (a b c d e f g h) : body PG EE TT O (q17ab0b a b c d e f g h) = g17ab0b (T := Sm) a b c d e f g h O := by kernel_rfl
theorem h17ab0c (a b c d e f g h) : body PG EE TT O (q17ab0c a b c d e f g h) = g17ab0c (T := Sm) a b c d e f g h O := by kernel_rfl
theorem h17ab0d (a b c d e f g h i) : body PG EE TT O (q17ab0d a b c d e f g h i) = g17ab0d (T := Sm) a b c d e f g h i O := by kernel_rfl
theorem h18a (a b c d) : body PG EE TT O (q18a a b c d) = g18a (T := Sm) a b c d O := by kernel_rfl
theorem h18ab0a (a b c d) : body PG EE TT O (q18ab0a a b c d) = g18ab0a (T := Sm) a b c d O := by kernel_rfl
theorem h18b (a b c d e) : body PG EE TT O (q18b a b c d e) = g18b (T := Sm) a b c d e O := by kernel_rfl
theorem h18bb0a (a b c d e f) : body PG EE TT O (q18bb0a a b c d e f) = g18bb0a (T := Sm) a b c d e f O := by kernel_rfl
theorem h18bb0b (a b c d e f g) : body PG EE TT O (q18bb0b a b c d e f g) = g18bb0b (T := Sm) a b c d e f g O := by kernel_rfl
theorem h18bb2a (a b c d e f g h) : body PG EE TT O (q18bb2a a b c d e f g h) = g18bb2a (T := Sm) a b c d e f g h O := by kernel_rfl
theorem h18bb2b (a b c d e f g h i) : body PG EE TT O (q18bb2b a b c d e f g h i) = g18bb2b (T := Sm) a b c d e f g h i O := by kernel_rfl
theorem h18c (a b c d e) : body PG EE TT O (q18c a b c d e) = g18c (T := Sm) a b c d e O := by kernel_rfl
theorem h18cb0a (a b c d e) : body PG EE TT O (q18cb0a a b c d e) = g18cb0a (T := Sm) a b c d e O := by kernel_rfl
theorem h18d (a b c d e f) : body PG EE TT O (q18d a b c d e f) = g18d (T := Sm) a b c d e f O := by kernel_rfl
theorem h18db0a (a b c d e f g) : body PG EE TT O (q18db0a a b c d e f g) = g18db0a (T := Sm) a b c d e f g O := by kernel_rfl
theorem h18db0b (a b c d e f g h) : body PG EE TT O (q18db0b a b c d e f g h) = g18db0b (T := Sm) a b c d e f g h O := by kernel_rfl
theorem h18db2a (a b c d e f g h i) : body PG EE TT O (q18db2a a b c d e f g h i) = g18db2a (T := Sm) a b c d e f g h i O := by kernel_rfl
theorem h18db2b (a b c d e f g h i j) : body PG EE TT O (q18db2b a b c d e f g h i j) = g18db2b (T := Sm) a b c d e f g h i j O := by kernel_rfl
theorem h25a (a b c d e f) : body PG EE TT O (q25a a b c d e f) = g25a (T := Sm) a b c d e f O := by kernel_rfl
theorem h25ab0a (a b c d e f g h i j) : body PG EE TT O (q25ab0a a b c d e f g h i j) = g25ab0a (T := Sm) a b c d e f g h i j O := by kernel_rfl
theorem h25ab0b (a b c d e f g h i j k) : body PG EE TT O (q25ab0b a b c d e f g h i j k) = g25ab0b (T := Sm) a b c d e f g h i j k O := by kernel_rfl
theorem h25ab0c (a b c d e f g h i j) : body PG EE TT O (q25ab0c a b c d e f g h i j) = g25ab0c (T := Sm) a b c d e f g h i j O := by kernel_rfl
theorem h25ab0d (a b c d e f g h i j k) : body PG EE TT O (q25ab0d a b c d e f g h i j k) = g25ab0d (T := Sm) a b c d e f g h i j k O := by kernel_rfl
theorem h25ab3a (a b c d e f g h i) : body PG EE TT O (q25ab3a a b c d e f g h i) = g25ab3a (T := Sm) a b c d e f g h i O := by kernel_rfl
theorem h25ab3b (a b c d e f g h i j) : body PG EE TT O (q25ab3b a b c d e f g h i j) = g25ab3b (T := Sm) a b c d e f g h i j O := by kernel_rfl
theorem h25b (a b c d e f g) : body PG EE TT O (q25b a b c d e f g) = g25b (T := Sm) a b c d e f g O := by kernel_rfl
theorem h25bb0a (a b c d e f g h i j k) : body PG EE TT O (q25bb0a a b c d e f g h i j k) = g25bb0a (T := Sm) a b c d e f g h i j k O := by kernel_rfl
theorem h25bb0b (a b c d e f g h i j k) : body PG EE TT O (q25bb0b a b c d e f g h i j k) = g25bb0b (T := Sm) a b c d e f g h i j k O := by kernel_rfl
theorem h25bb0c (a b c d e f g h i j k) : body PG EE TT O (q25bb0c a b c d e f g h i j k) = g25bb0c (T := Sm) a b c d e f g h i j k O := by kernel_rfl
theorem h25bb0d (a b c d e f g h i j k) : body PG EE TT O (q25bb0d a b c d e f g h i j k) = g25bb0d (T := Sm) a b c d e f g h i j k O := by kernel_rfl
theorem h25bb3a (a b c d e f g h i j) : body PG EE TT O (q25bb3a a b c d e f g h i j) = g25bb3a (T := Sm) a b c d e f g h i j O := by kernel_rfl
theorem h25c (a b c d e f g) : body PG EE TT O (q25c a b c d e f g) = g25c (T := Sm) a b c d e f g O := by kernel_rfl
theorem h25cb0a (a b c d e f g h i j) : body PG EE TT O (q25cb0a a b c d e f g h i j) = g25cb0a (T := Sm) a b c d e f g h i j O := by kernel_rfl
theorem h25cb0b (a b c d e f g h i j k) : body PG EE TT O (q25cb0b a b c d e f g h i j k) = g25cb0b (T := Sm) a b c d e f g h i j k O := by kernel_rfl
theorem h25cb0c (a b c d e f g h i j) : body PG EE TT O (q25cb0c a b c d e f g h i j) = g25cb0c (T := Sm) a b c d e f g h i j O := by kernel_rfl
theorem h25cb0d (a b c d e f g h i j k) : body PG EE TT O (q25cb0d a b c d e f g h i j k) = g25cb0d (T := Sm) a b c d e f g h i j k O := by kernel_rfl
theorem h25cb3a (a b c d e f g h i) : body PG EE TT O (q25cb3a a b c d e f g h i) = g25cb3a (T := Sm) a b c d e f g h i O := by kernel_rfl
theorem h25cb3b (a b c d e f g h i j) : body PG EE TT O (q25cb3b a b c d e f g h i j) = g25cb3b (T := Sm) a b c d e f g h i j O := by kernel_rfl
theorem h25d (a b c d e f g h) : body PG EE TT O (q25d a b c d e f g h) = g25d (T := Sm) a b c d e f g h O := by kernel_rfl
theorem h25db0a (a b c d e f g h i j k) : body PG EE TT O (q25db0a a b c d e f g h i j k) = g25db0a (T := Sm) a b c d e f g h i j k O := by kernel_rfl
theorem h25db0b (a b c d e f g h i j k) : body PG EE TT O (q25db0b a b c d e f g h i j k) = g25db0b (T := Sm) a b c d e f g h i j k O := by kernel_rfl
theorem h25db0c (a b c d e f g h i j k) : body PG EE TT O (q25db0c a b c d e f g h i j k) = g25db0c (T := Sm) a b c d e f g h i j k O := by kernel_rfl
theorem h25db0d (a b c d e f g h i j k) : body PG EE TT O (q25db0d a b c d e f g h i j k) = g25db0d (T := Sm) a b c d e f g h i j k O := by kernel_rfl
theorem h25db3a (a b c d e f g h i j) : body PG EE TT O (q25db3a a b c d e f g h i j) = g25db3a (T := Sm) a b c d e f g h i j O := by kernel_rfl
theorem h29a (a b c d e f g) : body PG EE TT O (q29a a b c d e f g) = g29a (T := Sm) a b c d e f g O := by kernel_rfl
theorem h29ab0a (a b c d e f g h i) : body PG EE TT O (q29ab0a a b c d e f g h i) = g29ab0a (T := Sm) a b c d e f g h i O := by kernel_rfl
theorem h29ab2a (a b c d e f g h i j k l m) : body PG EE TT O (q29ab2a a b c d e f g h i j k l m) = g29ab2a (T := Sm) a b c d e f g h i j k l m O := by kernel_rfl
theorem h29b (a b c d e f g h) : body PG EE TT O (q29b a b c d e f g h) = g29b (T := Sm) a b c d e f g h O := by kernel_rfl
theorem h29bb0a (a b c d e f g h i j) : body PG EE TT O (q29bb0a a b c d e f g h i j) = g29bb0a (T := Sm) a b c d e f g h i j O := by kernel_rfl
theorem h29bb2a (a b c d e f g h i j k l m n) : body PG EE TT O (q29bb2a a b c d e f g h i j k l m n) = g29bb2a (T := Sm) a b c d e f g h i j k l m n O := by kernel_rfl
theorem h26a (a b) : body PG EE TT O (q26a a b) = g26a (T := Sm) a b O := by kernel_rfl
theorem h26ab0a (a b c d) : body PG EE TT O (q26ab0a a b c d) = g26ab0a (T := Sm) a b c d O := by kernel_rfl
theorem h28a (a b c) : body PG EE TT O (q28a a b c) = g28a (T := Sm) a b c O := by kernel_rfl
theorem h8 (a) : body PG EE TT O (q8 a) = g8 (T := Sm) a O := by kernel_rfl
theorem h8b0a (a b c d) : body PG EE TT O (q8b0a a b c d) = g8b0a (T := Sm) a b c d O := by kernel_rfl
theorem h10 (a) : body PG EE TT O (q10 a) = g10 (T := Sm) a O := by kernel_rfl
theorem h10b0a (a b) : body PG EE TT O (q10b0a a b) = g10b0a (T := Sm) a b O := by kernel_rfl
theorem h10b2a (a b c) : body PG EE TT O (q10b2a a b c) = g10b2a (T := Sm) a b c O := by kernel_rfl
theorem h10b4a (a b c d) : body PG EE TT O (q10b4a a b c d) = g10b4a (T := Sm) a b c d O := by kernel_rfl
theorem h10b4b (a b c d e) : body PG EE TT O (q10b4b a b c d e) = g10b4b (T := Sm) a b c (.rows d) e O := by kernel_rfl
theorem h10b6a (a b c d e f) : body PG EE TT O (q10b6a a b c d e f) = g10b6a (T := Sm) a b c d e f O := by kernel_rfl
theorem h10b6b (a b c d e f g) : body PG EE TT O (q10b6b a b c d e f g) = g10b6b (T := Sm) a b c d (.rows e) f g O := by kernel_rfl
theorem h10b8a (a b c d e f g) : body PG EE TT O (q10b8a a b c d e f g) = g10b8a (T := Sm) a b c d e f g O := by kernel_rfl
theorem h10b8b (a b c d e f g) : body PG EE TT O (q10b8b a b c d e f g) = g10b8b (T := Sm) a b c d e f g O := by kernel_rfl
theorem h10b8c (a b c d e f g h) : body PG EE TT O (q10b8c a b c d e f g h) = g10b8c (T := Sm) a b c d (.rows e) f g h O := by kernel_rfl
theorem h10b8d (a b c d e f g h) : body PG EE TT O (q10b8d a b c d e f g h) = g10b8d (T := Sm) a b c d (.rows e) f g h O := by kernel_rfl
theorem h10b10a (a b c d e f) : body PG EE TT O (q10b10a a b c d e f) = g10b10a (T := Sm) a b c d e f O := by kernel_rfl
theorem h10b10b (a b c d e f g) : body PG EE TT O (q10b10b a b c d e f g) = g10b10b (T := Sm) a b c d (.rows e) f g O := by kernel_rfl
theorem h10b10c (a b c d e f g) : body PG EE TT O (q10b10c a b c d e f g) = g10b10c (T := Sm) a b c d (.rows e) f g O := by kernel_rfl
theorem h10b10d (a b c d e f g h) : body PG EE TT O (q10b10d a b c d e f g h) = g10b10d (T := Sm) a b c d (.rows e) (.rows f) g h O := by kernel_rfl
theorem h11 (a b) : body PG EE TT O (q11 a b) = g11 (T := Sm) a b O := by kernel_rfl
theorem h11b0a (a b c) : body PG EE TT O (q11b0a a b c) = g11b0a (T := Sm) a b c O := by kernel_rfl
theorem h11b2a (a b c d) : body PG EE TT O (q11b2a a b c d) = g11b2a (T := Sm) a b c d O := by kernel_rfl
theorem h19 (a b c) : body PG EE TT O (q19 a b c) = g19 (T := Sm) a b c O := by kernel_rfl
theorem h4 (a) : body PG EE TT O (q4 a) = g4 (T := Sm) a O := by kernel_rfl
theorem h4b0a (a b c d e) : body PG EE TT O (q4b0a a b c d e) = g4b0a (T := Sm) a b c d e O := by kernel_rfl
theorem h4b2a (a b c d e) : body PG EE TT O (q4b2a a b c d e) = g4b2a (T := Sm) a b c d e O := by kernel_rfl
theorem h4b4a (a b c d e f g h i) : body PG EE TT O (q4b4a a b c d e f g h i) = g4b4a (T := Sm) a b c d e f g h i O := by kernel_rfl
theorem h4b6a (a b c d e) : body PG EE TT O (q4b6a a b c d e) = g4b6a (T := Sm) a b c d e O := by kernel_rfl
theorem h4b8a (a b c d e f g h i) : body PG EE TT O (q4b8a a b c d e f g h i) = g4b8a (T := Sm) a b c d e f g h i O := by kernel_rfl
theorem h4b10a (a b c d e f g h) : body PG EE TT O (q4b10a a b c d e f g h) = g4b10a (T := Sm) a b c d e f g h O := by kernel_rfl
theorem h3 (a) : body PG EE TT O (q3 a) = g3 (T := Sm) a O := by kernel_rfl
theorem h5 (a b) : body PG EE TT O (q5 a b) = g5 (T := Sm) a b O := by kernel_rfl
theorem h5b0a (a b c d e f) : body PG EE TT O (q5b0a a b c d e f) = g5b0a (T := Sm) a b c d e f O := by kernel_rfl
theorem h7 : body PG EE TT O q7 = extK (awkP []) := by kernel_rfl
theorem h12 (a) : body PG EE TT O (q12 a) = extK (rchP [a]) := by kernel_rfl
theorem h27 (a b c) : body PG EE TT O (q27 a b c) = extK (srtV [a,b,c]) := by kernel_rfl
theorem h10w (a) : body PG EE TT O (q10w a) = weakK (O ⟨60, [a]⟩) := by kernel_rfl
end Go.Proofs.Ytkfdklocgpgbfaa
namespace Go.Proofs.Ytkfdklocgpgbfaa

/-- A walk's state: how many were met, when each was, the earliest one that it comes back to, its group, the stack, the groups. -/
structure St where
  n : Nat
  met : List Nat
  low : List Nat
  of : List (Option Nat)
  stk : List Nat
  grp : List (List Nat)
def mt (s : St) (x : Nat) : Nat := s.met.getD x 0
def lw (s : St) (x : Nat) : Nat := s.low.getD x 0
def gof (s : St) (x : Nat) : Option Nat := s.of.getD x none
def sortN (l : List Nat) : List Nat := l.mergeSort fun x y => decide (x ≤ y)
def pushS (i : Nat) (s : St) : St := { s with n := s.n + 1, met := s.met.set i (s.n + 1), low := s.low.set i (s.n + 1), stk := s.stk ++ [i] }
def setLow (i v : Nat) (s : St) : St := { s with low := s.low.set i v }
def setAll (g : List Nat) (m : Nat) (o : List (Option Nat)) : List (Option Nat) := g.foldl (fun o k => o.set k (some m)) o
def top (i : Nat) (s : St) : List Nat := sortN (s.stk.drop (s.stk.idxOf i))
def closeS (i : Nat) (s : St) : St := if lw s i < mt s i then s else
  { s with of := setAll (top i s) s.grp.length s.of, stk := s.stk.take (s.stk.idxOf i), grp := s.grp ++ [top i s] }
def edges (vis : Nat → St → Option St) (i : Nat) : List Nat → St → Option St
  | [], s => some s
  | k :: ks, s => if mt s k = 0 then match vis k s with
      | none => none
      | some s' => edges vis i ks (setLow i (min (lw s' i) (lw s' k)) s')
    else if gof s k = none then edges vis i ks (setLow i (min (lw s i) (mt s k)) s)
    else edges vis i ks s
def visF (N : List (List Nat)) : Nat → Nat → St → Option St
  | 0, _, _ => none
  | f + 1, i, s => match edges (visF N f) i (N.getD i []) (pushS i s) with
    | none => none
    | some s' => some (closeS i s')
structure WF (N : List (List Nat)) (s : St) : Prop where
  m : s.met.length = N.length
  l : s.low.length = N.length
  o : s.of.length = N.length
  c : s.n + s.met.count 0 = N.length
  gs : s.grp.length + s.stk.length ≤ s.n
  sk : ∀ x ∈ s.stk, x < N.length ∧ mt s x ≠ 0
/-- What a later state keeps. -/
structure Keep (s s' : St) : Prop where
  kn : s.n ≤ s'.n
  km : ∀ x, mt s x ≠ 0 → mt s' x = mt s x
  ks : s.stk <+: s'.stk
  kg : s.grp <+: s'.grp
  k0 : s'.n = s.n → s'.grp = s.grp ∧ s'.stk = s.stk
theorem Keep.refl (s : St) : Keep s s := ⟨Nat.le_refl _, fun _ _ => rfl, List.prefix_refl _, List.prefix_refl _, fun _ => ⟨rfl, rfl⟩⟩
theorem Keep.trans {s t u : St} (h : Keep s t) (k : Keep t u) : Keep s u := ⟨Nat.le_trans h.kn k.kn, fun x hx => by rw [k.km x (by rw [h.km x hx]; exact hx), h.km x hx], h.ks.trans k.ks, h.kg.trans k.kg, fun e => by
  have h1 := h.kn
  have h2 := k.kn
  have h3 := h.k0 (by omega)
  have h4 := k.k0 (by omega)
  exact ⟨h4.1.trans h3.1, h4.2.trans h3.2⟩⟩
theorem mt_low (i v : Nat) (s : St) (x : Nat) : mt (setLow i v s) x = mt s x := rfl
theorem Keep.low (i v : Nat) (s : St) : Keep s (setLow i v s) := ⟨Nat.le_refl _, fun _ _ => rfl, List.prefix_refl _, List.prefix_refl _, fun _ => ⟨rfl, rfl⟩⟩
theorem WF.low {N : List (List Nat)} {s : St} (h : WF N s) (i v : Nat) : WF N (setLow i v s) := ⟨h.m, by simp [setLow, h.l], h.o, h.c, h.gs, h.sk⟩
theorem getD_set {α : Type} (l : List α) (i j : Nat) (a d : α) : (l.set i a).getD j d = if i = j ∧ i < l.length then a else l.getD j d := by
  simp only [List.getD_eq_getElem?_getD, List.getElem?_set]
  by_cases h : i = j
  · subst h
    by_cases h2 : i < l.length
    · simp [h2]
    · simp [h2]
  · simp [h]
theorem lt_of_mt {s : St} {x : Nat} (h : mt s x ≠ 0) : x < s.met.length := by
  apply Decidable.byContradiction
  intro hn
  apply h
  unfold mt
  rw [List.getD_eq_getElem?_getD, List.getElem?_eq_none (by omega)]; rfl
theorem mt_push {i : Nat} {s : St} (hi : i < s.met.length) (x : Nat) : mt (pushS i s) x = if x = i then s.n + 1 else mt s x := by
  unfold mt pushS
  rw [getD_set]
  by_cases h : x = i
  · subst h; simp [hi]
  · rw [if_neg (fun e => h e.1.symm), if_neg h]
theorem WF.push {N : List (List Nat)} {s : St} (h : WF N s) {i : Nat} (hi : i < N.length) (h0 : mt s i = 0) : WF N (pushS i s) where
  m := by simp [pushS, h.m]
  l := by simp [pushS, h.l]
  o := h.o
  c := by
    have hl : i < s.met.length := by rw [h.m]; exact hi
    have h1 : s.met[i] = 0 := by
      have : mt s i = s.met[i] := by unfold mt; rw [List.getD_eq_getElem?_getD, List.getElem?_eq_getElem hl]; rfl
      rw [← this]; exact h0
    have h2 : 0 < s.met.count 0 := List.count_pos_iff.2 (h1 ▸ List.getElem_mem hl)
    have h3 := h.c
    show s.n + 1 + (s.met.set i (s.n + 1)).count 0 = N.length
    rw [List.count_set hl]
    simp [h1]
    omega
  gs := by have := h.gs; simp [pushS]; omega
  sk := fun x hx => by
    have hl : i < s.met.length := by rw [h.m]; exact hi
    rw [mt_push hl]
    rcases List.mem_append.1 hx with hx | hx
    · have := h.sk x hx
      refine ⟨this.1, ?_⟩
      by_cases hxi : x = i
      · rw [if_pos hxi]; omega
      · rw [if_neg hxi]; exact this.2
    · rw [List.mem_singleton.1 hx]
      exact ⟨hi, by rw [if_pos rfl]; omega⟩
theorem Keep.push {N : List (List Nat)} {s : St} (h : WF N s) {i : Nat} (hi : i < N.length) (h0 : mt s i = 0) : Keep s (pushS i s) :=
  ⟨Nat.le_succ _, fun x hx => by
    have hne : x ≠ i := fun e => hx (by rw [e]; exact h0)
    rw [mt_push (by rw [h.m]; exact hi), if_neg hne], List.prefix_append _ _, List.prefix_refl _, fun e => absurd e (Nat.succ_ne_self _)⟩
theorem setAll_len (m : Nat) : ∀ (g : List Nat) (o : List (Option Nat)), (setAll g m o).length = o.length
  | [], o => rfl
  | k :: g, o => by
    show (setAll g m (o.set k (some m))).length = _
    rw [setAll_len m g, List.length_set]
theorem sortN_perm (l : List Nat) : (sortN l).Perm l := List.mergeSort_perm l _
theorem closeS_same {i : Nat} {s : St} (h : lw s i < mt s i) : closeS i s = s := if_pos h
theorem closeS_pop {i : Nat} {s : St} (h : ¬ lw s i < mt s i) : closeS i s = { s with of := setAll (top i s) s.grp.length s.of, stk := s.stk.take (s.stk.idxOf i), grp := s.grp ++ [top i s] } := if_neg h
theorem WF.close {N : List (List Nat)} {s : St} (h : WF N s) {i : Nat} (hi : i ∈ s.stk) : WF N (closeS i s) := by
  by_cases hl : lw s i < mt s i
  · rw [closeS_same hl]; exact h
  · rw [closeS_pop hl]
    have hx := List.idxOf_lt_length_iff.2 hi
    refine ⟨h.m, h.l, by rw [setAll_len]; exact h.o, h.c, ?_, fun x hx => h.sk x (List.mem_of_mem_take hx)⟩
    have := h.gs
    simp
    omega
/-- Behind the loop over its needs the thing is still on the stack; it leaves the stack as it found it. -/
theorem Keep.close {s s' : St} {i : Nat} (hp : (s.stk ++ [i]) <+: s'.stk) (hni : i ∉ s.stk) (hk : Keep s s') (hlt : s.n < s'.n) : Keep s (closeS i s') := by
  by_cases hl : lw s' i < mt s' i
  · rw [closeS_same hl]; exact hk
  · rw [closeS_pop hl]
    refine ⟨hk.kn, hk.km, ?_, hk.kg.trans (List.prefix_append _ _), fun e => absurd e (Nat.ne_of_gt hlt)⟩
    obtain ⟨r, hr⟩ := hp
    show s.stk <+: s'.stk.take (s'.stk.idxOf i)
    rw [← hr, List.append_assoc, List.idxOf_append, if_neg hni]
    simp
theorem edges_keep {N : List (List Nat)} {vis : Nat → St → Option St} (hv : ∀ k s s', k < N.length → WF N s → mt s k = 0 → vis k s = some s' → WF N s' ∧ Keep s s' ∧ s.n < s'.n) {i : Nat} : ∀ (ks : List Nat) (s s' : St), (∀ k ∈ ks, k < N.length) → WF N s → edges vis i ks s = some s' → WF N s' ∧ Keep s s'
  | [], s, s', _, hw, h => by cases h; exact ⟨hw, Keep.refl _⟩
  | k :: ks, s, s', hks, hw, h => by
    rw [edges] at h
    have hk := hks k (List.mem_cons_self ..)
    have hks' : ∀ k ∈ ks, k < N.length := fun k h => hks k (List.mem_cons_of_mem _ h)
    split at h
    · rename_i h0
      split at h
      · cases h
      · rename_i s1 h1
        obtain ⟨a, b, _⟩ := hv k s s1 hk hw h0 h1
        obtain ⟨c, d⟩ := edges_keep hv ks _ s' hks' (a.low i _) h
        exact ⟨c, b.trans ((Keep.low i _ s1).trans d)⟩
    · split at h
      · obtain ⟨c, d⟩ := edges_keep hv ks _ s' hks' (hw.low i _) h
        exact ⟨c, (Keep.low i _ s).trans d⟩
      · exact edges_keep hv ks s s' hks' hw h
/-- All needs are things. -/
def Rng (N : List (List Nat)) : Prop := ∀ l ∈ N, ∀ k ∈ l, k < N.length
theorem Rng.at {N : List (List Nat)} (h : Rng N) (i : Nat) : ∀ k ∈ N.getD i [], k < N.length := fun k hk => by
  rw [List.getD_eq_getElem?_getD] at hk
  cases hi : N[i]? with
  | none => rw [hi] at hk; cases hk
  | some r => rw [hi] at hk; exact h r (List.mem_of_getElem? hi) k hk
theorem vis_keep {N : List (List Nat)} (hr : Rng N) : ∀ (f i : Nat) (s s' : St), i < N.length → WF N s → mt s i = 0 → visF N f i s = some s' → WF N s' ∧ Keep s s' ∧ s.n < s'.n
  | 0, i, s, s', _, _, _, h => by cases h
  | f + 1, i, s, s', hi, hw, h0, h => by
    rw [visF] at h
    split at h
    · cases h
    · rename_i s1 h1
      cases h
      have hw1 := hw.push hi h0
      have hk1 := Keep.push hw hi h0
      obtain ⟨a, b⟩ := edges_keep (vis_keep hr f) _ _ _ (hr.at i) hw1 h1
      have hni : i ∉ s.stk := fun hm => (hw.sk i hm).2 h0
      have hm : i ∈ s1.stk := b.ks.subset (by simp [pushS])
      have h3 := b.kn
      refine ⟨a.close hm, Keep.close b.ks hni (hk1.trans b) h3, ?_⟩
      have h4 : (closeS i s1).n = s1.n := by unfold closeS; split <;> rfl
      rw [h4]
      exact h3
end Go.Proofs.Ytkfdklocgpgbfaa
namespace Go.Proofs.Ytkfdklocgpgbfaa

abbrev nd (N : List (List Nat)) (x : Nat) : List Nat := N.getD x []
/-- x reaches y. -/
inductive Rch (N : List (List Nat)) : Nat → Nat → Prop
  | refl (x : Nat) : Rch N x x
  | step {x k y : Nat} : k ∈ nd N x → Rch N k y → Rch N x y
theorem Rch.trans {N : List (List Nat)} {x y z : Nat} (h : Rch N x y) (k : Rch N y z) : Rch N x z := by
  induction h with
  | refl => exact k
  | step hk _ ih => exact .step hk (ih k)
theorem Rch.one {N : List (List Nat)} {x k : Nat} (h : k ∈ nd N x) : Rch N x k := .step h (.refl k)
/-- What is closed under needs holds of what is reached. -/
theorem Rch.closed {N : List (List Nat)} {P : Nat → Prop} (hP : ∀ x, P x → ∀ k ∈ nd N x, P k) {x y : Nat} (h : Rch N x y) : P x → P y := by
  induction h with
  | refl => exact id
  | step hk _ ih => exact fun hx => ih (hP _ hx _ hk)
structure TInv (N : List (List Nat)) (s : St) (G : List Nat) : Prop where
  wf : WF N s
  pos : ∀ x, mt s x ≤ s.n
  srt : s.stk.Pairwise fun a b => mt s a < mt s b
  on : ∀ x, x ∈ s.stk ↔ mt s x ≠ 0 ∧ gof s x = none
  gry : ∀ x ∈ G, x ∈ s.stk
  blk : ∀ x, mt s x ≠ 0 → x ∉ G → ∀ k ∈ nd N x, mt s k ≠ 0
  rch : ∀ x ∈ s.stk, ∀ y ∈ s.stk, mt s x ≤ mt s y → Rch N x y
  up : ∀ y ∈ s.stk, ∃ g ∈ G, mt s g ≤ mt s y ∧ Rch N y g
  dm : ∀ x, gof s x ≠ none → mt s x ≠ 0
  dl : ∀ x j, gof s x = some j → j < s.grp.length
  gs : ∀ j g, s.grp[j]? = some g → g ≠ [] ∧ g.Pairwise (· < ·) ∧ ∀ x, x ∈ g ↔ gof s x = some j
  scc : ∀ x j, gof s x = some j → ∀ y, gof s y = some j ↔ Rch N x y ∧ Rch N y x
  ord : ∀ x j, gof s x = some j → ∀ k ∈ nd N x, ∃ j', gof s k = some j' ∧ j' ≤ j
theorem TInv.cls {N : List (List Nat)} {s : St} {G : List Nat} (h : TInv N s G) : ∀ x, gof s x ≠ none → ∀ k ∈ nd N x, gof s k ≠ none := fun x hx k hk => by
  obtain ⟨j, hj⟩ := Option.ne_none_iff_exists'.1 hx
  obtain ⟨j', hj', _⟩ := h.ord x j hj k hk
  rw [hj']; exact fun e => by cases e
structure VPost (N : List (List Nat)) (s s' : St) (G : List Nat) (i : Nat) : Prop where
  inv : TInv N s' G
  keep : Keep s s'
  met : mt s' i = s.n + 1
  lowk : ∀ x, mt s x ≠ 0 → lw s' x = lw s x
  ofk : ∀ x, gof s x ≠ none → gof s' x = gof s x
  lo1 : (s'.stk = s.stk ∧ lw s' i = mt s' i) ∨ ∃ y ∈ s.stk, mt s y = lw s' i ∧ Rch N i y
  lo2 : ∀ x ∈ s'.stk, x ∉ s.stk → ∀ k ∈ nd N x, k ∈ s.stk → lw s' i ≤ mt s k
structure EInv (N : List (List Nat)) (s0 s : St) (G : List Nat) (i : Nat) (ks : List Nat) : Prop where
  inv : TInv N s (i :: G)
  keep : Keep (pushS i s0) s
  lowk : ∀ x, mt s0 x ≠ 0 → lw s x = lw s0 x
  ofk : ∀ x, gof s0 x ≠ none → gof s x = gof s0 x
  lo : ∃ y ∈ s.stk, mt s y = lw s i ∧ Rch N i y
  lo' : lw s i ≤ mt s i
  lo2 : ∀ x ∈ s.stk, x ∉ s0.stk → x ≠ i → ∀ k ∈ nd N x, k ∈ s0.stk → lw s i ≤ mt s0 k
  done : ∀ k ∈ nd N i, k ∉ ks → mt s k ≠ 0 ∧ (k ∈ s0.stk → lw s i ≤ mt s0 k)
theorem TInv.low {N : List (List Nat)} {s : St} {G : List Nat} (h : TInv N s G) (i v : Nat) : TInv N (setLow i v s) G :=
  ⟨h.wf.low i v, h.pos, h.srt, h.on, h.gry, h.blk, h.rch, h.up, h.dm, h.dl, h.gs, h.scc, h.ord⟩
theorem lw_set {i v : Nat} {s : St} (hi : i < s.low.length) (x : Nat) : lw (setLow i v s) x = if x = i then v else lw s x := by
  unfold lw setLow
  rw [getD_set]
  by_cases h : x = i
  · subst h; simp [hi]
  · rw [if_neg (fun e => h e.1.symm), if_neg h]
theorem lw_push {i : Nat} {s : St} (hi : i < s.low.length) (x : Nat) : lw (pushS i s) x = if x = i then s.n + 1 else lw s x := lw_set hi x
/-- A thing is met. -/
theorem TInv.push {N : List (List Nat)} {s : St} {G : List Nat} (h : TInv N s G) {i : Nat} (hi : i < N.length) (h0 : mt s i = 0) (hG : ∀ g ∈ G, Rch N g i) : TInv N (pushS i s) (i :: G) := by
  have hl : i < s.met.length := by rw [h.wf.m]; exact hi
  have hm := mt_push (s := s) hl
  have hns : ∀ x ∈ s.stk, x ≠ i := fun x hx e => ((h.on x).1 hx).1 (e ▸ h0)
  have hms : ∀ x ∈ s.stk, mt (pushS i s) x = mt s x := fun x hx => by rw [hm, if_neg (hns x hx)]
  have hof : ∀ x, gof (pushS i s) x = gof s x := fun _ => rfl
  have hi0 : gof s i = none := Decidable.byContradiction fun hn => h.dm i hn h0
  refine ⟨h.wf.push hi h0, ?_, ?_, ?_, ?_, ?_, ?_, ?_, ?_, h.dl, h.gs, h.scc, h.ord⟩
  · intro x
    rw [hm]
    have := h.pos x
    show _ ≤ s.n + 1
    split <;> omega
  · show (s.stk ++ [i]).Pairwise _
    rw [List.pairwise_append]
    refine ⟨h.srt.imp_of_mem fun {a b} ha hb hab => by rw [hms a ha, hms b hb]; exact hab, List.pairwise_singleton _ _, fun a ha b hb => ?_⟩
    rw [List.mem_singleton.1 hb, hms a ha, hm, if_pos rfl]
    have := h.pos a
    omega
  · intro x
    show x ∈ s.stk ++ [i] ↔ _
    rw [List.mem_append, List.mem_singleton, hm, hof, h.on]
    by_cases hx : x = i
    · subst hx; simp [hi0]
    · simp [hx]
  · intro x hx
    show x ∈ s.stk ++ [i]
    rw [List.mem_append, List.mem_singleton]
    rcases List.mem_cons.1 hx with rfl | hx
    · exact .inr rfl
    · exact .inl (h.gry x hx)
  · intro x hx hxG k hk
    have hxi : x ≠ i := fun e => hxG (e ▸ List.mem_cons_self ..)
    rw [hm, if_neg hxi] at hx
    have := h.blk x hx (fun hn => hxG (List.mem_cons_of_mem _ hn)) k hk
    rw [hm]
    split
    · omega
    · exact this
  · intro x hx y hy hxy
    have hx' := List.mem_append.1 hx
    have hy' := List.mem_append.1 hy
    rcases hy' with hy' | hy'
    · rcases hx' with hx' | hx'
      · rw [hms x hx', hms y hy'] at hxy
        exact h.rch x hx' y hy' hxy
      · rw [List.mem_singleton.1 hx', hms y hy', hm, if_pos rfl] at hxy
        have := h.pos y
        omega
    · rw [List.mem_singleton.1 hy']
      rcases hx' with hx' | hx'
      · obtain ⟨g, hg, _, hr⟩ := h.up x hx'
        exact hr.trans (hG g hg)
      · rw [List.mem_singleton.1 hx']; exact .refl _
  · intro y hy
    rcases List.mem_append.1 hy with hy' | hy'
    · obtain ⟨g, hg, hl, hr⟩ := h.up y hy'
      refine ⟨g, List.mem_cons_of_mem _ hg, ?_, hr⟩
      rw [hms y hy', hms g (h.gry g hg)]; exact hl
    · rw [List.mem_singleton.1 hy']
      exact ⟨i, List.mem_cons_self .., Nat.le_refl _, .refl _⟩
  · intro x hx
    rw [hm]
    split
    · omega
    · exact h.dm x hx
/-- What a later state keeps of the stack. -/
theorem Keep.mem {s s' : St} (h : Keep s s') {x : Nat} (hx : x ∈ s.stk) : x ∈ s'.stk := h.ks.subset hx
/-- One need more is looked at. -/
theorem EInv.next {N : List (List Nat)} {s0 s : St} {G : List Nat} {i k : Nat} {ks : List Nat} (h0 : TInv N s0 G) (hi : i < N.length) (h : EInv N s0 s G i (k :: ks)) (hks : k ∈ nd N i) (hmk : mt s k ≠ 0)
    (v : Nat) (hv : v ≤ lw s i) (hv1 : v = lw s i ∨ ∃ y ∈ s.stk, mt s y = v ∧ Rch N i y) (hv2 : k ∈ s0.stk → v ≤ mt s0 k) (hi0 : mt s0 i = 0) : EInv N s0 (setLow i v s) G i ks := by
  have hl : i < s.low.length := by rw [h.inv.wf.l]; exact hi
  have hlw := lw_set (v := v) hl
  refine ⟨h.inv.low i v, h.keep.trans (Keep.low i v s), ?_, h.ofk, ?_, ?_, ?_, ?_⟩
  · intro x hx
    have hne : x ≠ i := fun e => hx (by rw [e]; exact hi0)
    rw [hlw, if_neg hne]
    exact h.lowk x hx
  · rw [hlw, if_pos rfl]
    rcases hv1 with rfl | hv1
    · exact h.lo
    · exact hv1
  · rw [hlw, if_pos rfl]; exact Nat.le_trans hv h.lo'
  · intro x hx hn hxi q hq hqs
    rw [hlw, if_pos rfl]
    exact Nat.le_trans hv (h.lo2 x hx hn hxi q hq hqs)
  · intro q hq hn
    rw [hlw, if_pos rfl]
    by_cases hqk : q = k
    · subst hqk; exact ⟨hmk, hv2⟩
    · have := h.done q hq (fun hm => (List.mem_cons.1 hm).elim hqk hn)
      exact ⟨this.1, fun hs => Nat.le_trans hv (this.2 hs)⟩
theorem EInv.same {N : List (List Nat)} {s0 s : St} {G : List Nat} {i k : Nat} {ks : List Nat} (h : EInv N s0 s G i (k :: ks)) (hmk : mt s k ≠ 0) (hv2 : k ∈ s0.stk → lw s i ≤ mt s0 k) : EInv N s0 s G i ks :=
  ⟨h.inv, h.keep, h.lowk, h.ofk, h.lo, h.lo', h.lo2, fun q hq hn => by
    by_cases hqk : q = k
    · subst hqk; exact ⟨hmk, hv2⟩
    · exact h.done q hq (fun hm => (List.mem_cons.1 hm).elim hqk hn)⟩
/-- What the walk below a thing gives. -/
def VisG (N : List (List Nat)) (f : Nat) (vis : Nat → St → Option St) : Prop := ∀ (k : Nat) (s : St) (G : List Nat), TInv N s G → k < N.length → mt s k = 0 → (∀ g ∈ G, Rch N g k) → s.met.count 0 ≤ f → ∃ s', vis k s = some s' ∧ VPost N s s' G k
theorem EInv.mk0 {N : List (List Nat)} {s0 s : St} {G : List Nat} {i : Nat} {ks : List Nat} (h0 : TInv N s0 G) (hi : i < N.length) (hi0 : mt s0 i = 0) (h : EInv N s0 s G i ks) {x : Nat} (hx : mt s0 x ≠ 0) : mt s x = mt s0 x := by
  have hne : x ≠ i := fun e => hx (by rw [e]; exact hi0)
  have h1 : mt (pushS i s0) x = mt s0 x := by rw [mt_push (by rw [h0.wf.m]; exact hi), if_neg hne]
  rw [← h1]
  exact h.keep.km x (by rw [h1]; exact hx)
theorem EInv.mki {N : List (List Nat)} {s0 s : St} {G : List Nat} {i : Nat} {ks : List Nat} (h0 : TInv N s0 G) (hi : i < N.length) (h : EInv N s0 s G i ks) : mt s i = s0.n + 1 := by
  have h1 : mt (pushS i s0) i = s0.n + 1 := by rw [mt_push (by rw [h0.wf.m]; exact hi), if_pos rfl]
  rw [← h1]
  exact h.keep.km i (by rw [h1]; omega)
theorem EInv.stk0 {N : List (List Nat)} {s0 s : St} {G : List Nat} {i : Nat} {ks : List Nat} (h : EInv N s0 s G i ks) {x : Nat} (hx : x ∈ s0.stk) : x ∈ s.stk := h.keep.ks.subset (List.mem_append_left _ hx)
theorem edges_inv {N : List (List Nat)} {f : Nat} {vis : Nat → St → Option St} (hr : Rng N) (hv : VisG N f vis) {s0 : St} {G : List Nat} {i : Nat} (h0 : TInv N s0 G) (hi : i < N.length) (hi0 : mt s0 i = 0) (hG : ∀ g ∈ G, Rch N g i) (hc : (pushS i s0).met.count 0 ≤ f) :
    ∀ (ks : List Nat) (s : St), (∀ k ∈ ks, k ∈ nd N i) → EInv N s0 s G i ks → ∃ s', edges vis i ks s = some s' ∧ EInv N s0 s' G i []
  | [], s, _, h => ⟨s, rfl, h⟩
  | k :: ks, s, hks, h => by
    have hk := hks k (List.mem_cons_self ..)
    have hks' : ∀ k ∈ ks, k ∈ nd N i := fun k h => hks k (List.mem_cons_of_mem _ h)
    have hkN := hr.at i k hk
    have hgk : ∀ g ∈ i :: G, Rch N g k := fun g hg => by
      rcases List.mem_cons.1 hg with rfl | hg
      · exact .one hk
      · exact (hG g hg).trans (.one hk)
    have hcn : s.met.count 0 ≤ f := by
      have h1 := (h0.wf.push hi hi0).c
      have h2 := h.inv.wf.c
      have h3 := h.keep.kn
      omega
    rw [edges]
    by_cases hm : mt s k = 0
    · rw [if_pos hm]
      obtain ⟨s1, e1, p⟩ := hv k s (i :: G) h.inv hkN hm hgk hcn
      rw [e1]
      have hii : mt s i ≠ 0 := by rw [h.mki h0 hi]; omega
      have hli : lw s1 i = lw s i := p.lowk i hii
      have hmi : mt s1 i = mt s i := p.keep.km i hii
      have hl : i < s1.low.length := by rw [p.inv.wf.l]; exact hi
      have hlw := lw_set (v := min (lw s1 i) (lw s1 k)) hl
      have hne : ∀ x, mt s0 x ≠ 0 → x ≠ i := fun x hx e => hx (by rw [e]; exact hi0)
      have hk0 : mt s0 k = 0 := Decidable.byContradiction fun hn => by
        rw [h.mk0 h0 hi hi0 hn] at hm; exact hn hm
      refine edges_inv hr hv h0 hi hi0 hG hc ks _ hks' ⟨p.inv.low i _, h.keep.trans (p.keep.trans (Keep.low i _ s1)), ?_, ?_, ?_, ?_, ?_, ?_⟩
      · intro x hx
        rw [hlw, if_neg (hne x hx), p.lowk x (by rw [h.mk0 h0 hi hi0 hx]; exact hx), h.lowk x hx]
      · intro x hx
        show gof s1 x = _
        rw [p.ofk x (by rw [h.ofk x hx]; exact hx), h.ofk x hx]
      · rw [hlw, if_pos rfl, hli]
        obtain ⟨y, hy, hy1, hy2⟩ := h.lo
        have hmy : mt s1 y = mt s y := p.keep.km y ((h.inv.on y).1 hy).1
        by_cases hle : lw s i ≤ lw s1 k
        · exact ⟨y, p.keep.mem hy, by show mt s1 y = _; rw [hmy, hy1]; omega, hy2⟩
        · have hmin : min (lw s i) (lw s1 k) = lw s1 k := by omega
          rw [hmin]
          rcases p.lo1 with ⟨_, h2⟩ | ⟨z, hz, hz1, hz2⟩
          · exfalso
            have h3 := p.met
            have h4 := h.inv.pos i
            have h5 := h.lo'
            omega
          · refine ⟨z, p.keep.mem hz, ?_, (Rch.one hk).trans hz2⟩
            show mt s1 z = _
            rw [p.keep.km z ((h.inv.on z).1 hz).1, hz1]
      · rw [hlw, if_pos rfl, hli]
        show _ ≤ mt s1 i
        rw [hmi]
        have := h.lo'
        omega
      · intro x hx hn hxi q hq hqs
        rw [hlw, if_pos rfl, hli]
        by_cases hxs : x ∈ s.stk
        · have := h.lo2 x hxs hn hxi q hq hqs
          omega
        · have h1 := p.lo2 x hx hxs q hq (h.stk0 hqs)
          rw [h.mk0 h0 hi hi0 ((h0.on q).1 hqs).1] at h1
          omega
      · intro q hq hn
        rw [hlw, if_pos rfl, hli]
        show mt s1 q ≠ 0 ∧ _
        by_cases hqk : q = k
        · subst hqk
          refine ⟨by rw [p.met]; omega, fun hs => absurd hk0 ((h0.on q).1 hs).1⟩
        · have h1 := h.done q hq (fun hm => (List.mem_cons.1 hm).elim hqk hn)
          refine ⟨by rw [p.keep.km q h1.1]; exact h1.1, fun hs => ?_⟩
          have := h1.2 hs
          omega
    · rw [if_neg hm]
      by_cases ho : gof s k = none
      · rw [if_pos ho]
        refine edges_inv hr hv h0 hi hi0 hG hc ks _ hks' (EInv.next h0 hi h hk hm _ (Nat.min_le_left _ _) ?_ (fun hs => ?_) hi0)
        · by_cases hle : lw s i ≤ mt s k
          · exact .inl (Nat.min_eq_left hle)
          · exact .inr ⟨k, (h.inv.on k).2 ⟨hm, ho⟩, by omega, .one hk⟩
        · rw [← h.mk0 h0 hi hi0 ((h0.on k).1 hs).1]
          exact Nat.min_le_right _ _
      · rw [if_neg ho]
        exact edges_inv hr hv h0 hi hi0 hG hc ks s hks' (h.same hm fun hs => absurd ((h.inv.on k).1 (h.stk0 hs)).2 ho)
end Go.Proofs.Ytkfdklocgpgbfaa
namespace Go.Proofs.Ytkfdklocgpgbfaa

theorem setAll_at (m : Nat) : ∀ (g : List Nat) (o : List (Option Nat)) (x : Nat), (setAll g m o).getD x none = if x ∈ g ∧ x < o.length then some m else o.getD x none
  | [], o, x => by simp [setAll]
  | k :: g, o, x => by
    show (setAll g m (o.set k (some m))).getD x none = _
    rw [setAll_at m g, getD_set, List.length_set]
    by_cases h1 : x ∈ g
    · by_cases h2 : x < o.length
      · simp [h1, h2]
      · simp only [h1, h2, and_false, if_false]
        rw [if_neg (fun (e : k = x ∧ k < o.length) => h2 (e.1 ▸ e.2))]
    · by_cases h2 : k = x
      · subst h2
        simp [h1]
      · have h3 : ¬ x = k := fun e => h2 e.symm
        simp [h1, h2, h3]
theorem pairwise_lt {s : St} {a b : List Nat} (h : (a ++ b).Pairwise fun x y => mt s x < mt s y) {x y : Nat} (hx : x ∈ a) (hy : y ∈ b) : mt s x < mt s y := (List.pairwise_append.1 h).2.2 x hx y hy
theorem sortN_lt {l : List Nat} (h : l.Nodup) : (sortN l).Pairwise (· < ·) := by
  have h1 : (sortN l).Pairwise fun a b => decide (a ≤ b) = true := List.pairwise_mergeSort (fun a b c h1 h2 => by simp at *; omega) (fun a b => by simp; omega) l
  have h2 : (sortN l).Nodup := (sortN_perm l).nodup_iff.2 h
  exact (h1.and h2).imp fun {a b} h => by
    have := h.1
    have h3 := h.2
    simp at this
    omega
theorem visit_end {N : List (List Nat)} {s0 s : St} {G : List Nat} {i : Nat} (h0 : TInv N s0 G) (hi : i < N.length) (hi0 : mt s0 i = 0) (hG : ∀ g ∈ G, Rch N g i) (h : EInv N s0 s G i []) : VPost N s0 (closeS i s) G i := by
  obtain ⟨r, hr⟩ := h.keep.ks
  have hst : s.stk = s0.stk ++ (i :: r) := by rw [← hr]; simp [pushS]
  have hni : i ∉ s0.stk := fun hm => ((h0.on i).1 hm).1 hi0
  have hin : i ∈ s.stk := by rw [hst]; simp
  have hidx : s.stk.idxOf i = s0.stk.length := by rw [hst, List.idxOf_append, if_neg hni]; simp
  have htk : s.stk.take (s.stk.idxOf i) = s0.stk := by rw [hidx, hst]; simp
  have hdr : s.stk.drop (s.stk.idxOf i) = i :: r := by rw [hidx, hst]; simp
  have hkp : Keep s0 s := (Keep.push h0.wf hi hi0).trans h.keep
  have hsrt := h.inv.srt
  rw [hst] at hsrt
  have hlt : ∀ x ∈ s0.stk, mt s x < mt s i := fun x hx => pairwise_lt hsrt hx (List.mem_cons_self ..)
  have hge : ∀ x ∈ i :: r, mt s i ≤ mt s x := fun x hx => by
    rcases List.mem_cons.1 hx with rfl | hx
    · exact Nat.le_refl _
    · exact Nat.le_of_lt ((List.pairwise_cons.1 (List.pairwise_append.1 hsrt).2.1).1 x hx)
  have hdis : ∀ x ∈ s0.stk, x ∉ i :: r := fun x hx hx' => by
    have := hlt x hx
    have := hge x hx'
    omega
  have hmi := h.mki h0 hi
  by_cases hl : lw s i < mt s i
  · rw [closeS_same hl]
    obtain ⟨y, hy, hy1, hy2⟩ := h.lo
    have hys : y ∈ s0.stk := by
      have h1 := hy
      rw [hst, List.mem_append] at h1
      rcases h1 with h1 | h1
      · exact h1
      · have := hge y h1
        omega
    refine ⟨⟨h.inv.wf, h.inv.pos, h.inv.srt, h.inv.on, fun x hx => h.inv.gry x (List.mem_cons_of_mem _ hx), ?_, h.inv.rch, ?_, h.inv.dm, h.inv.dl, h.inv.gs, h.inv.scc, h.inv.ord⟩, hkp, hmi, h.lowk, h.ofk, .inr ⟨y, hys, ?_, hy2⟩, ?_⟩
    · intro x hx hxG k hk
      by_cases hxi : x = i
      · subst hxi; exact (h.done k hk (by simp)).1
      · exact h.inv.blk x hx (fun hm => (List.mem_cons.1 hm).elim hxi hxG) k hk
    · intro z hz
      obtain ⟨g, hg, hg1, hg2⟩ := h.inv.up z hz
      rcases List.mem_cons.1 hg with rfl | hg
      · obtain ⟨g', hg', hg1', hg2'⟩ := h.inv.up y hy
        rcases List.mem_cons.1 hg' with rfl | hg'
        · omega
        · exact ⟨g', hg', by omega, hg2.trans (hy2.trans hg2')⟩
      · exact ⟨g, hg, hg1, hg2⟩
    · rw [← h.mk0 h0 hi hi0 ((h0.on y).1 hys).1]; exact hy1
    · intro x hx hn k hk hks
      by_cases hxi : x = i
      · subst hxi; exact (h.done k hk (by simp)).2 hks
      · exact h.lo2 x hx hn hxi k hk hks
  · have hleq : lw s i = mt s i := by have := h.lo'; omega
    have hclose : closeS i s = { s with of := setAll (top i s) s.grp.length s.of, stk := s0.stk, grp := s.grp ++ [top i s] } := by rw [closeS_pop hl, htk]
    have htop : top i s = sortN (i :: r) := by unfold top; rw [hdr]
    have hmem : ∀ x, x ∈ top i s ↔ x ∈ i :: r := fun x => by rw [htop]; exact (sortN_perm _).mem_iff
    have hCs : ∀ x ∈ i :: r, x ∈ s.stk := fun x hx => by rw [hst]; exact List.mem_append_right _ hx
    have hCn : ∀ x ∈ i :: r, gof s x = none := fun x hx => ((h.inv.on x).1 (hCs x hx)).2
    have hgof : ∀ x, gof (closeS i s) x = if x ∈ i :: r then some s.grp.length else gof s x := fun x => by
      rw [hclose]
      unfold gof
      show (setAll (top i s) s.grp.length s.of).getD x none = _
      rw [setAll_at]
      by_cases hx : x ∈ i :: r
      · have h1 : x < s.of.length := by rw [h.inv.wf.o]; exact (h.inv.wf.sk x (hCs x hx)).1
        rw [if_pos ⟨(hmem x).2 hx, h1⟩, if_pos hx]
      · rw [if_neg (fun e => hx ((hmem x).1 e.1)), if_neg hx]
    have hmt : ∀ x, mt (closeS i s) x = mt s x := fun x => by rw [hclose]; rfl
    have hlw : ∀ x, lw (closeS i s) x = lw s x := fun x => by rw [hclose]; rfl
    have hstk : (closeS i s).stk = s0.stk := by rw [hclose]
    have hgrp : (closeS i s).grp = s.grp ++ [top i s] := by rw [hclose]
    have hn : (closeS i s).n = s.n := by rw [hclose]
    -- from i to all of its part, and back
    have ha : ∀ x ∈ i :: r, Rch N i x := fun x hx => h.inv.rch i hin x (hCs x hx) (hge x hx)
    have hb : ∀ x ∈ i :: r, Rch N x i := fun x hx => by
      obtain ⟨g, hg, _, h2⟩ := h.inv.up x (hCs x hx)
      rcases List.mem_cons.1 hg with rfl | hg
      · exact h2
      · exact h2.trans (hG g hg)
    -- what is reached from the part is in it, or done
    have hcl : ∀ x, (x ∈ i :: r ∨ gof s x ≠ none) → ∀ k ∈ nd N x, (k ∈ i :: r ∨ gof s k ≠ none) := fun x hx k hk => by
      rcases hx with hx | hx
      · have hk1 : mt s k ≠ 0 ∧ (k ∈ s0.stk → lw s i ≤ mt s0 k) := by
          by_cases hxi : x = i
          · subst hxi; exact h.done k hk (by simp)
          · have hxn : x ∉ s0.stk := fun hm => hdis x hm hx
            refine ⟨h.inv.blk x ((h.inv.on x).1 (hCs x hx)).1 (fun hm => ?_) k hk, fun hs => h.lo2 x (hCs x hx) hxn hxi k hk hs⟩
            rcases List.mem_cons.1 hm with hm | hm
            · exact hxi hm
            · exact hxn (h0.gry x hm)
        by_cases hg : gof s k = none
        · have h2 := (h.inv.on k).2 ⟨hk1.1, hg⟩
          rw [hst, List.mem_append] at h2
          rcases h2 with h2 | h2
          · have h3 := hk1.2 h2
            have h4 := hlt k h2
            rw [h.mk0 h0 hi hi0 ((h0.on k).1 h2).1] at h4
            omega
          · exact .inl h2
        · exact .inr hg
      · exact .inr (h.inv.cls x hx k hk)
    have hd : ∀ y, Rch N i y → Rch N y i → y ∈ i :: r := fun y h1 h2 => by
      rcases h1.closed hcl (.inl (List.mem_cons_self ..)) with h3 | h3
      · exact h3
      · obtain ⟨j, hj⟩ := Option.ne_none_iff_exists'.1 h3
        have := (h.inv.scc y j hj i).2 ⟨h2, h1⟩
        rw [hCn i (List.mem_cons_self ..)] at this
        cases this
    have hnd : (i :: r).Nodup := (List.pairwise_append.1 hsrt).2.1.imp fun {a b} hab e => by rw [e] at hab; omega
    -- groups of before
    have hold : ∀ x j, j < s.grp.length → (gof (closeS i s) x = some j ↔ gof s x = some j) := fun x j hj => by
      rw [hgof]
      by_cases hx : x ∈ i :: r
      · rw [if_pos hx, hCn x hx]
        constructor
        · intro e; have := Option.some.inj e; omega
        · intro e; cases e
      · rw [if_neg hx]
    have hnew : ∀ x, gof (closeS i s) x = some s.grp.length ↔ x ∈ i :: r := fun x => by
      rw [hgof]
      by_cases hx : x ∈ i :: r
      · rw [if_pos hx]; simp [hx]
      · rw [if_neg hx]
        constructor
        · intro e; have := h.inv.dl x _ e; omega
        · intro e; exact absurd e hx
    have hsome : ∀ x, gof (closeS i s) x ≠ none ↔ (x ∈ i :: r ∨ gof s x ≠ none) := fun x => by
      rw [hgof]
      by_cases hx : x ∈ i :: r
      · rw [if_pos hx]; simp [hx]
      · rw [if_neg hx]; simp [hx]
    refine ⟨⟨h.inv.wf.close hin, ?_, ?_, ?_, ?_, ?_, ?_, ?_, ?_, ?_, ?_, ?_, ?_⟩, ?_, by rw [hmt]; exact hmi, fun x hx => by rw [hlw]; exact h.lowk x hx, ?_, .inl ⟨hstk, by rw [hlw, hmt]; exact hleq⟩, fun x hx hn => absurd (hstk ▸ hx) hn⟩
    · intro x; rw [hmt, hn]; exact h.inv.pos x
    · rw [hstk]
      simp only [hmt]
      exact (List.pairwise_append.1 hsrt).1
    · intro x
      rw [hstk, hmt]
      constructor
      · intro hx
        have h1 := (h.inv.on x).1 (h.stk0 hx)
        refine ⟨h1.1, ?_⟩
        rw [hgof, if_neg (hdis x hx)]; exact h1.2
      · rintro ⟨h1, h2⟩
        rw [hgof] at h2
        by_cases hx : x ∈ i :: r
        · rw [if_pos hx] at h2; cases h2
        · rw [if_neg hx] at h2
          have h3 := (h.inv.on x).2 ⟨h1, h2⟩
          rw [hst, List.mem_append] at h3
          exact h3.resolve_right hx
    · intro x hx; rw [hstk]; exact h0.gry x hx
    · intro x hx hxG k hk
      rw [hmt] at hx ⊢
      by_cases hxi : x = i
      · subst hxi; exact (h.done k hk (by simp)).1
      · exact h.inv.blk x hx (fun hm => (List.mem_cons.1 hm).elim hxi hxG) k hk
    · intro x hx y hy
      rw [hstk] at hx hy
      rw [hmt, hmt]
      exact h.inv.rch x (h.stk0 hx) y (h.stk0 hy)
    · intro y hy
      rw [hstk] at hy
      obtain ⟨g, hg, hg1, hg2⟩ := h.inv.up y (h.stk0 hy)
      rcases List.mem_cons.1 hg with rfl | hg
      · have := hlt y hy
        omega
      · exact ⟨g, hg, by rw [hmt, hmt]; exact hg1, hg2⟩
    · intro x hx
      rw [hmt]
      rcases (hsome x).1 hx with hx | hx
      · exact ((h.inv.on x).1 (hCs x hx)).1
      · exact h.inv.dm x hx
    · intro x j hj
      rw [hgrp, List.length_append, List.length_singleton]
      rw [hgof] at hj
      by_cases hx : x ∈ i :: r
      · rw [if_pos hx] at hj; have := Option.some.inj hj; omega
      · rw [if_neg hx] at hj; have := h.inv.dl x j hj; omega
    · intro j g hg
      rw [hgrp] at hg
      by_cases hj : j < s.grp.length
      · rw [List.getElem?_append_left hj] at hg
        obtain ⟨h1, h2, h3⟩ := h.inv.gs j g hg
        exact ⟨h1, h2, fun x => by rw [h3, hold x j hj]⟩
      · rw [List.getElem?_append_right (by omega)] at hg
        have hj2 : j = s.grp.length := by
          apply Decidable.byContradiction
          intro hne
          rw [List.getElem?_eq_none (by simp; omega)] at hg
          cases hg
        subst hj2
        simp at hg
        subst hg
        refine ⟨fun e => ?_, ?_, fun x => by rw [hmem, hnew]⟩
        · have := (hmem i).2 (List.mem_cons_self ..)
          rw [e] at this; cases this
        · rw [htop]; exact sortN_lt hnd
    · intro x j hj y
      by_cases hx : x ∈ i :: r
      · have hj2 : j = s.grp.length := by
          have := (hnew x).2 hx
          rw [hj] at this
          exact Option.some.inj this
        subst hj2
        rw [hnew]
        constructor
        · intro hy; exact ⟨(hb x hx).trans (ha y hy), (hb y hy).trans (ha x hx)⟩
        · rintro ⟨h1, h2⟩; exact hd y ((ha x hx).trans h1) (h2.trans (hb x hx))
      · have hj1 : gof s x = some j := by rw [hgof, if_neg hx] at hj; exact hj
        rw [hold y j (h.inv.dl x j hj1)]
        exact h.inv.scc x j hj1 y
    · intro x j hj k hk
      by_cases hx : x ∈ i :: r
      · have hj2 : j = s.grp.length := by
          have := (hnew x).2 hx
          rw [hj] at this
          exact Option.some.inj this
        subst hj2
        rcases hcl x (.inl hx) k hk with h1 | h1
        · exact ⟨_, (hnew k).2 h1, Nat.le_refl _⟩
        · obtain ⟨j', hj'⟩ := Option.ne_none_iff_exists'.1 h1
          have h2 := h.inv.dl k j' hj'
          exact ⟨j', (hold k j' h2).2 hj', Nat.le_of_lt h2⟩
      · have hj1 : gof s x = some j := by rw [hgof, if_neg hx] at hj; exact hj
        obtain ⟨j', hj', hle⟩ := h.inv.ord x j hj1 k hk
        exact ⟨j', (hold k j' (h.inv.dl k j' hj')).2 hj', hle⟩
    · have h1 := Keep.close h.keep.ks hni hkp (by have := h.keep.kn; show s0.n < s.n; exact this)
      exact h1
    · intro x hx
      have h1 := h.ofk x hx
      have hxC : x ∉ i :: r := fun hm => by rw [← h1, hCn x hm] at hx; exact hx rfl
      rw [hgof, if_neg hxC]; exact h1
theorem EInv.start {N : List (List Nat)} {s0 : St} {G : List Nat} {i : Nat} (h0 : TInv N s0 G) (hi : i < N.length) (hi0 : mt s0 i = 0) (hG : ∀ g ∈ G, Rch N g i) : EInv N s0 (pushS i s0) G i (nd N i) := by
  have hm := mt_push (s := s0) (i := i) (by rw [h0.wf.m]; exact hi)
  have hl := lw_push (s := s0) (i := i) (by rw [h0.wf.l]; exact hi)
  refine ⟨h0.push hi hi0 hG, Keep.refl _, fun x hx => ?_, fun x _ => rfl, ⟨i, by simp [pushS], by rw [hm, hl, if_pos rfl, if_pos rfl], .refl _⟩, by rw [hm, hl, if_pos rfl, if_pos rfl]; exact Nat.le_refl _, fun x hx hn hxi => ?_, fun k hk hn => absurd hk hn⟩
  · have hne : x ≠ i := fun e => hx (by rw [e]; exact hi0)
    rw [hl, if_neg hne]
  · exfalso
    rcases List.mem_append.1 hx with hx | hx
    · exact hn hx
    · exact hxi (List.mem_singleton.1 hx)
/-- **A visit keeps the order of the walk**, and there is fuel enough. -/
theorem vis_inv {N : List (List Nat)} (hr : Rng N) : ∀ f, VisG N f (visF N f)
  | 0 => fun k s G h hk h0 hG hc => by
    exfalso
    have hl : k < s.met.length := by rw [h.wf.m]; exact hk
    have h1 : s.met[k] = 0 := by
      have : mt s k = s.met[k] := by unfold mt; rw [List.getD_eq_getElem?_getD, List.getElem?_eq_getElem hl]; rfl
      rw [← this]; exact h0
    have h2 : 0 < s.met.count 0 := List.count_pos_iff.2 (h1 ▸ List.getElem_mem hl)
    omega
  | f + 1 => fun k s G h hk h0 hG hc => by
    have hc2 : (pushS k s).met.count 0 ≤ f := by
      have h1 := (h.wf.push hk h0).c
      have h2 := h.wf.c
      have h3 : (pushS k s).n = s.n + 1 := rfl
      omega
    obtain ⟨s', e, p⟩ := edges_inv hr (vis_inv hr f) h hk h0 hG hc2 (nd N k) (pushS k s) (fun _ h => h) (EInv.start h hk h0 hG)
    refine ⟨closeS k s', ?_, visit_end h hk h0 hG p⟩
    rw [visF, e]
end Go.Proofs.Ytkfdklocgpgbfaa
namespace Go.Proofs.Ytkfdklocgpgbfaa

def loopP (N : List (List Nat)) (F : Nat) : List Nat → St → Option St
  | [], s => some s
  | i :: is, s => if mt s i = 0 then match visF N F i s with
      | none => none
      | some s' => loopP N F is s'
    else loopP N F is s
def startS (N : List (List Nat)) : St := { n := 0, met := List.replicate N.length 0, low := List.replicate N.length 0, of := List.replicate N.length none, stk := [], grp := [] }
theorem getD_rep {α : Type} (n : Nat) (a d : α) (h : a = d) (x : Nat) : (List.replicate n a).getD x d = d := by
  subst h
  rw [List.getD_eq_getElem?_getD, List.getElem?_replicate]
  split <;> rfl
theorem start_wf (N : List (List Nat)) : WF N (startS N) :=
  ⟨by simp [startS], by simp [startS], by simp [startS], by simp [startS, List.count_replicate], by simp [startS], fun x hx => by cases hx⟩
theorem start_inv (N : List (List Nat)) : TInv N (startS N) [] := by
  have hm : ∀ x, mt (startS N) x = 0 := fun x => getD_rep _ _ _ rfl x
  have hg : ∀ x, gof (startS N) x = none := fun x => getD_rep _ _ _ rfl x
  refine ⟨start_wf N, fun x => by rw [hm]; exact Nat.zero_le _, List.Pairwise.nil, fun x => ?_, fun x hx => hx, fun x hx => absurd (hm x) hx, fun x hx => (by cases hx), fun y hy => (by cases hy), fun x hx => absurd (hg x) hx, fun x j hj => ?_, fun j g hj => ?_, fun x j hj => ?_, fun x j hj => ?_⟩
  · rw [hm]
    constructor
    · intro h; cases h
    · intro h; exact absurd rfl h.1
  · rw [hg] at hj; cases hj
  · simp [startS] at hj
  · rw [hg] at hj; cases hj
  · rw [hg] at hj; cases hj
/-- No thing is on its way: the stack is empty. -/
theorem TInv.bare {N : List (List Nat)} {s : St} (h : TInv N s []) : s.stk = [] := by
  cases hs : s.stk with
  | nil => rfl
  | cons x l =>
    obtain ⟨g, hg, _⟩ := h.up x (by rw [hs]; exact List.mem_cons_self ..)
    cases hg
theorem loop_inv {N : List (List Nat)} (hr : Rng N) : ∀ (is : List Nat) (s : St), (∀ i ∈ is, i < N.length) → TInv N s [] → ∃ s', loopP N N.length is s = some s' ∧ TInv N s' [] ∧ Keep s s' ∧ ∀ i ∈ is, mt s' i ≠ 0
  | [], s, _, h => ⟨s, rfl, h, Keep.refl s, fun i hi => by cases hi⟩
  | i :: is, s, his, h => by
    have hi := his i (List.mem_cons_self ..)
    have his' : ∀ i ∈ is, i < N.length := fun i h => his i (List.mem_cons_of_mem _ h)
    rw [loopP]
    by_cases h0 : mt s i = 0
    · rw [if_pos h0]
      have hc : s.met.count 0 ≤ N.length := by rw [← h.wf.m]; exact List.count_le_length
      obtain ⟨s1, e, p⟩ := vis_inv hr N.length i s [] h hi h0 (fun g hg => by cases hg) hc
      rw [e]
      obtain ⟨s', e', a, b, c⟩ := loop_inv hr is s1 his' p.inv
      refine ⟨s', e', a, p.keep.trans b, fun x hx => ?_⟩
      rcases List.mem_cons.1 hx with rfl | hx
      · have h1 : mt s1 x ≠ 0 := by rw [p.met]; omega
        rw [b.km x h1]; exact h1
      · exact c x hx
    · rw [if_neg h0]
      obtain ⟨s', e', a, b, c⟩ := loop_inv hr is s his' h
      refine ⟨s', e', a, b, fun x hx => ?_⟩
      rcases List.mem_cons.1 hx with rfl | hx
      · rw [b.km x h0]; exact h0
      · exact c x hx
/-- The walk's end: everything is in a group. -/
structure Done (N : List (List Nat)) (s : St) : Prop where
  inv : TInv N s []
  all : ∀ x, x < N.length → gof s x ≠ none
theorem TInv.inN {N : List (List Nat)} {s : St} {G : List Nat} (h : TInv N s G) {x j : Nat} (hx : gof s x = some j) : x < N.length := by
  apply Decidable.byContradiction
  intro hn
  unfold gof at hx
  rw [List.getD_eq_getElem?_getD, List.getElem?_eq_none (by rw [h.wf.o]; omega)] at hx
  cases hx
theorem parts_done {N : List (List Nat)} (hr : Rng N) : ∃ s, loopP N N.length (List.range N.length) (startS N) = some s ∧ Done N s := by
  obtain ⟨s, e, a, _, c⟩ := loop_inv hr (List.range N.length) (startS N) (fun i hi => List.mem_range.1 hi) (start_inv N)
  refine ⟨s, e, a, fun x hx hn => ?_⟩
  have := (a.on x).2 ⟨c x (List.mem_range.2 hx), hn⟩
  rw [a.bare] at this
  cases this
/-! Warshall. -/
inductive Pth (N : List (List Nat)) (m : Nat) : Nat → Nat → Prop
  | one {i k : Nat} : k ∈ nd N i → Pth N m i k
  | cons {i x k : Nat} : x ∈ nd N i → x < m → Pth N m x k → Pth N m i k
theorem Pth.split {N : List (List Nat)} {m i k : Nat} (h : Pth N (m + 1) i k) : Pth N m i k ∨ (Pth N m i m ∧ Pth N m m k) := by
  induction h with
  | one h => exact .inl (.one h)
  | @cons i x k hx hl _ ih =>
    by_cases hxm : x = m
    · subst hxm
      rcases ih with ih | ih
      · exact .inr ⟨.one hx, ih⟩
      · exact .inr ⟨.one hx, ih.2⟩
    · have hl' : x < m := by omega
      rcases ih with ih | ih
      · exact .inl (.cons hx hl' ih)
      · exact .inr ⟨.cons hx hl' ih.1, ih.2⟩
/-- x reaches k by one step at least. -/
def Rch1 (N : List (List Nat)) (i k : Nat) : Prop := ∃ x ∈ nd N i, Rch N x k
theorem Rch1.rch {N : List (List Nat)} {i k : Nat} (h : Rch1 N i k) : Rch N i k := by
  obtain ⟨x, hx, h⟩ := h
  exact .step hx h
theorem Rch.one_of_ne {N : List (List Nat)} {i k : Nat} (h : Rch N i k) (hne : i ≠ k) : Rch1 N i k := by
  cases h with
  | refl => exact absurd rfl hne
  | step hk h => exact ⟨_, hk, h⟩
theorem Rch1.trans {N : List (List Nat)} {i j k : Nat} (h : Rch1 N i j) (h2 : Rch N j k) : Rch1 N i k := by
  obtain ⟨x, hx, h⟩ := h
  exact ⟨x, hx, h.trans h2⟩
def zN (N : List (List Nat)) : List (List Int) := N.map zofI
where zofI (l : List Nat) : List Int := l.map fun (n : Nat) => (n : Int)
theorem zN_at (N : List (List Nat)) (i : Nat) : (zN N).getD i [] = (nd N i).map fun (n : Nat) => (n : Int) := by
  unfold zN nd
  rw [List.getD_eq_getElem?_getD, List.getD_eq_getElem?_getD, List.getElem?_map]
  cases N[i]? <;> rfl
theorem need_iff (N : List (List Nat)) (i k : Nat) : needB (zN N) i k = true ↔ k ∈ nd N i := by
  unfold needB
  rw [zN_at]
  simp only [List.elem_eq_mem, decide_eq_true_eq, List.mem_map]
  constructor
  · rintro ⟨a, ha, e⟩
    have : a = k := by omega
    exact this ▸ ha
  · intro h; exact ⟨k, h, rfl⟩
theorem reach_sound (N : List (List Nat)) (n : Nat) : ∀ (m i k : Nat), reachB n (zN N) m i k = true → Rch1 N i k
  | 0, i, k, h => ⟨k, (need_iff N i k).1 h, .refl k⟩
  | m + 1, i, k, h => by
    have h' : (reachB n (zN N) m i k || (decide (i < n) && decide (k < n) && (reachB n (zN N) m i m && reachB n (zN N) m m k))) = true := h
    simp only [Bool.or_eq_true, Bool.and_eq_true] at h'
    rcases h' with h' | ⟨_, h1, h2⟩
    · exact reach_sound N n m i k h'
    · exact (reach_sound N n m i m h1).trans (reach_sound N n m m k h2).rch
theorem reach_comp (N : List (List Nat)) (n : Nat) : ∀ (m i k : Nat), m ≤ n → i < n → k < n → Pth N m i k → reachB n (zN N) m i k = true
  | 0, i, k, _, hi, hk, h => by
    cases h with
    | one h => exact (need_iff N i k).2 h
    | cons _ hl _ => omega
  | m + 1, i, k, hm, hi, hk, h => by
    show (reachB n (zN N) m i k || (decide (i < n) && decide (k < n) && (reachB n (zN N) m i m && reachB n (zN N) m m k))) = true
    simp only [Bool.or_eq_true, Bool.and_eq_true, decide_eq_true_eq]
    rcases h.split with h | ⟨h1, h2⟩
    · exact .inl (reach_comp N n m i k (by omega) hi hk h)
    · exact .inr ⟨⟨hi, hk⟩, reach_comp N n m i m (by omega) hi (by omega) h1, reach_comp N n m m k (by omega) (by omega) hk h2⟩
theorem Rch.lt {N : List (List Nat)} (hr : Rng N) {x y : Nat} (h : Rch N x y) (hx : x < N.length) : y < N.length := h.closed (P := fun x => x < N.length) (fun x _ k hk => hr.at x k hk) hx
theorem pth_of {N : List (List Nat)} (hr : Rng N) {x k : Nat} (h : Rch N x k) : ∀ i, x ∈ nd N i → Pth N N.length i k := by
  induction h with
  | refl => exact fun i hi => .one hi
  | step hk _ ih => exact fun i hi => .cons hi (hr.at i _ hi) (ih _ hk)
/-- Does i reach k (by one step at least)? -/
def RB (N : List (List Nat)) (i k : Nat) : Bool := reachB N.length (zN N) N.length i k
theorem RB_iff {N : List (List Nat)} (hr : Rng N) {i k : Nat} (hi : i < N.length) : RB N i k = true ↔ Rch1 N i k := by
  constructor
  · exact reach_sound N _ _ i k
  · rintro ⟨x, hx, h⟩
    exact reach_comp N _ _ i k (Nat.le_refl _) hi (h.lt hr (hr.at i x hx)) (pth_of hr h i hx)
def tog (N : List (List Nat)) (i k : Nat) : Bool := i == k || (RB N i k && RB N k i)
theorem tog_iff {N : List (List Nat)} (hr : Rng N) {i k : Nat} (hi : i < N.length) (hk : k < N.length) : tog N i k = true ↔ Rch N i k ∧ Rch N k i := by
  unfold tog
  simp only [Bool.or_eq_true, Bool.and_eq_true, beq_iff_eq, RB_iff hr hi, RB_iff hr hk]
  constructor
  · rintro (rfl | ⟨h1, h2⟩)
    · exact ⟨.refl _, .refl _⟩
    · exact ⟨h1.rch, h2.rch⟩
  · rintro ⟨h1, h2⟩
    by_cases h : i = k
    · exact .inl h
    · exact .inr ⟨h1.one_of_ne h, h2.one_of_ne (fun e => h e.symm)⟩
end Go.Proofs.Ytkfdklocgpgbfaa
namespace Go.Proofs.Ytkfdklocgpgbfaa

def hdG (g : List Nat) : Nat := g.getD 0 0
def gi (s : St) (x : Nat) : Nat := (gof s x).getD 0
def gat (s : St) (j : Nat) : List Nat := s.grp.getD j []
def readyF (N : List (List Nat)) (s : St) (c : List Bool) (g : List Nat) : Bool := g.all fun i => (nd N i).all fun k => decide (gof s k = gof s i) || c.getD (gi s k) false
def okP (N : List (List Nat)) (s : St) (c : List Bool) (i : Nat) : Bool := !c.getD (gi s i) false && (decide (hdG (gat s (gi s i)) = i) && readyF N s c (gat s (gi s i)))
def pickP (N : List (List Nat)) (s : St) (c : List Bool) : Option Nat := (List.range N.length).find? (okP N s c)
def ordF (N : List (List Nat)) (s : St) : Nat → List Bool → List (List Nat) → Option (List (List Nat))
  | 0, _, o => some o
  | t + 1, c, o => match pickP N s c with
    | none => none
    | some i => ordF N s t (c.set (gi s i) true) (o ++ [gat s (gi s i)])
def okR (N : List (List Nat)) (c : List Bool) (i : Nat) : Bool := !c.getD i false && (List.range N.length).all fun k => !RB N i k || c.getD k false || tog N i k
def pickR (N : List (List Nat)) (c : List Bool) : Option Nat := (List.range N.length).find? (okR N c)
def grpR (N : List (List Nat)) (a : Nat) : List Nat := (List.range N.length).filter (tog N a)
def markR (c : List Bool) (g : List Nat) : List Bool := g.foldl (fun c k => c.set k true) c
def refF (N : List (List Nat)) : Nat → List Bool → List (List Nat) → List (List Nat)
  | 0, _, o => o
  | t + 1, c, o => match pickR N c with
    | none => refF N t c o
    | some a => refF N t (markR c (grpR N a)) (o ++ [grpR N a])
theorem markR_len : ∀ (g : List Nat) (c : List Bool), (markR c g).length = c.length
  | [], c => rfl
  | k :: g, c => by
    show (markR (c.set k true) g).length = _
    rw [markR_len g, List.length_set]
theorem markR_at : ∀ (g : List Nat) (c : List Bool) (x : Nat), x < c.length → (markR c g).getD x false = (decide (x ∈ g) || c.getD x false)
  | [], c, x, _ => by simp [markR]
  | k :: g, c, x, hx => by
    show (markR (c.set k true) g).getD x false = _
    rw [markR_at g _ x (by simpa using hx), getD_set]
    by_cases h1 : x ∈ g
    · simp [h1]
    · by_cases h2 : k = x
      · subst h2; simp [hx]
      · have h3 : ¬ x = k := fun e => h2 e.symm
        simp [h1, h2, h3]
theorem gof_gi {N : List (List Nat)} {s : St} (h : Done N s) {x : Nat} (hx : x < N.length) : gof s x = some (gi s x) := by
  obtain ⟨j, hj⟩ := Option.ne_none_iff_exists'.1 (h.all x hx)
  rw [gi, hj]; rfl
theorem gi_lt {N : List (List Nat)} {s : St} (h : Done N s) {x : Nat} (hx : x < N.length) : gi s x < s.grp.length := h.inv.dl x _ (gof_gi h hx)
theorem gat_some {s : St} {j : Nat} (hj : j < s.grp.length) : s.grp[j]? = some (gat s j) := by
  unfold gat
  rw [List.getD_eq_getElem?_getD, List.getElem?_eq_getElem hj]; rfl
theorem gat_mem {N : List (List Nat)} {s : St} (h : Done N s) {j x : Nat} (hj : j < s.grp.length) : x ∈ gat s j ↔ x < N.length ∧ gi s x = j := by
  rw [(h.inv.gs j _ (gat_some hj)).2.2]
  constructor
  · intro hx
    have h1 := h.inv.inN hx
    refine ⟨h1, ?_⟩
    rw [gof_gi h h1] at hx
    exact Option.some.inj hx
  · rintro ⟨h1, h2⟩
    rw [gof_gi h h1, h2]
theorem together {N : List (List Nat)} {s : St} (hr : Rng N) (h : Done N s) {x y : Nat} (hx : x < N.length) (hy : y < N.length) : gi s y = gi s x ↔ tog N x y = true := by
  rw [tog_iff hr hx hy, ← h.inv.scc x _ (gof_gi h hx) y, gof_gi h hy]
  constructor
  · intro e; rw [e]
  · intro e; exact Option.some.inj e
/-- What has come, on both sides. -/
structure Joint (N : List (List Nat)) (s : St) (cp cr : List Bool) (t : Nat) : Prop where
  pl : cp.length = s.grp.length
  rl : cr.length = N.length
  eq : ∀ x, x < N.length → cr.getD x false = cp.getD (gi s x) false
  cl : ∀ x, x < N.length → cr.getD x false = true → ∀ k ∈ nd N x, cr.getD k false = true
  cnt : cp.count true = t
theorem ready_iff {N : List (List Nat)} {s : St} (hr : Rng N) (h : Done N s) {cp cr : List Bool} {t : Nat} (J : Joint N s cp cr t) {i : Nat} (hi : i < N.length) :
    readyF N s cp (gat s (gi s i)) = true ↔ ∀ k, k < N.length → RB N i k = true → cr.getD k false = true ∨ tog N i k = true := by
  unfold readyF
  simp only [List.all_eq_true, Bool.or_eq_true, decide_eq_true_eq]
  constructor
  · intro hg k hk hik
    have hcl : ∀ x, (x < N.length ∧ (cr.getD x false = true ∨ gi s x = gi s i)) → ∀ q ∈ nd N x, (q < N.length ∧ (cr.getD q false = true ∨ gi s q = gi s i)) := fun x hx q hq => by
      have hqN := hr.at x q hq
      refine ⟨hqN, ?_⟩
      rcases hx with ⟨hxN, hx | hx⟩
      · exact .inl (J.cl x hxN hx q hq)
      · rcases hg x ((gat_mem h (gi_lt h hi)).2 ⟨hxN, hx⟩) q hq with h1 | h1
        · rw [gof_gi h hqN, gof_gi h hxN] at h1
          exact .inr ((Option.some.inj h1).trans hx)
        · rw [← J.eq q hqN] at h1
          exact .inl h1
    have h1 := (((RB_iff hr hi).1 hik).rch).closed hcl ⟨hi, .inr rfl⟩
    rcases h1.2 with h2 | h2
    · exact .inl h2
    · exact .inr ((together hr h hi hk).1 h2)
  · intro hh x hx k hk
    obtain ⟨hxN, hxi⟩ := (gat_mem h (gi_lt h hi)).1 hx
    have hkN := hr.at x k hk
    have hix : Rch N i x := ((tog_iff hr hi hxN).1 ((together hr h hi hxN).1 hxi)).1
    have hik : Rch1 N i k := by
      cases hix with
      | refl => exact ⟨k, hk, .refl _⟩
      | step hq hq' => exact ⟨_, hq, hq'.trans (.one hk)⟩
    rcases hh k hkN ((RB_iff hr hi).2 hik) with h1 | h1
    · right
      rw [← J.eq k hkN]; exact h1
    · left
      rw [gof_gi h hkN, gof_gi h hxN, (together hr h hi hkN).2 h1, hxi]
theorem okR_iff {N : List (List Nat)} {s : St} (hr : Rng N) (h : Done N s) {cp cr : List Bool} {t : Nat} (J : Joint N s cp cr t) {i : Nat} (hi : i < N.length) :
    okR N cr i = true ↔ cp.getD (gi s i) false = false ∧ readyF N s cp (gat s (gi s i)) = true := by
  rw [ready_iff hr h J hi]
  unfold okR
  simp only [Bool.and_eq_true, List.all_eq_true, List.mem_range, Bool.or_eq_true, Bool.not_eq_true', J.eq i hi]
  constructor
  · rintro ⟨h1, h2⟩
    refine ⟨h1, fun k hk hik => ?_⟩
    rcases h2 k hk with (h3 | h3) | h3
    · rw [hik] at h3; cases h3
    · exact .inl h3
    · exact .inr h3
  · rintro ⟨h1, h2⟩
    refine ⟨h1, fun k hk => ?_⟩
    cases hik : RB N i k with
    | false => exact .inl (.inl rfl)
    | true => rcases h2 k hk hik with h3 | h3
              · exact .inl (.inr h3)
              · exact .inr h3
/-- The first of a group. -/
theorem hd_mem {N : List (List Nat)} {s : St} (h : Done N s) {j : Nat} (hj : j < s.grp.length) : hdG (gat s j) ∈ gat s j ∧ ∀ x ∈ gat s j, hdG (gat s j) ≤ x := by
  obtain ⟨h1, h2, _⟩ := h.inv.gs j _ (gat_some hj)
  cases hg : gat s j with
  | nil => exact absurd hg h1
  | cons a l =>
    rw [hg] at h2
    refine ⟨List.mem_cons_self .., fun x hx => ?_⟩
    rcases List.mem_cons.1 hx with rfl | hx
    · exact Nat.le_refl _
    · exact Nat.le_of_lt ((List.pairwise_cons.1 h2).1 x hx)
theorem okP_iff {N : List (List Nat)} {s : St} (hr : Rng N) (h : Done N s) {cp cr : List Bool} {t : Nat} (J : Joint N s cp cr t) {i : Nat} (hi : i < N.length) :
    okP N s cp i = true ↔ okR N cr i = true ∧ hdG (gat s (gi s i)) = i := by
  rw [okR_iff hr h J hi]
  unfold okP
  simp only [Bool.and_eq_true, Bool.not_eq_true', decide_eq_true_eq]
  constructor
  · rintro ⟨a, b, c⟩; exact ⟨⟨a, c⟩, b⟩
  · rintro ⟨⟨a, c⟩, b⟩; exact ⟨a, b, c⟩
theorem ok_head {N : List (List Nat)} {s : St} (hr : Rng N) (h : Done N s) {cp cr : List Bool} {t : Nat} (J : Joint N s cp cr t) {i : Nat} (hi : i < N.length) (ho : okR N cr i = true) :
    okP N s cp (hdG (gat s (gi s i))) = true ∧ hdG (gat s (gi s i)) ≤ i := by
  have hl := gi_lt h hi
  obtain ⟨h1, h2⟩ := hd_mem h hl
  obtain ⟨h3, h4⟩ := (gat_mem h hl).1 h1
  refine ⟨?_, h2 i ((gat_mem h hl).2 ⟨hi, rfl⟩)⟩
  rw [okP_iff hr h J h3, okR_iff hr h J h3, h4]
  exact ⟨(okR_iff hr h J hi).1 ho, rfl⟩
theorem pick_eq {N : List (List Nat)} {s : St} (hr : Rng N) (h : Done N s) {cp cr : List Bool} {t : Nat} (J : Joint N s cp cr t) : pickR N cr = pickP N s cp := by
  cases hp : pickP N s cp with
  | none =>
    unfold pickP at hp
    unfold pickR
    rw [List.find?_range_eq_none] at hp ⊢
    intro i hi
    cases ho : okR N cr i with
    | false => rfl
    | true =>
      obtain ⟨h1, h2⟩ := ok_head hr h J hi ho
      have := hp _ (Nat.lt_of_le_of_lt h2 hi)
      rw [h1] at this
      cases this
  | some i =>
    unfold pickP at hp
    unfold pickR
    rw [List.find?_range_eq_some] at hp ⊢
    obtain ⟨h1, h2, h3⟩ := hp
    have hi := List.mem_range.1 h2
    refine ⟨((okP_iff hr h J hi).1 h1).1, h2, fun j hj => ?_⟩
    cases ho : okR N cr j with
    | false => rfl
    | true =>
      obtain ⟨h4, h5⟩ := ok_head hr h J (Nat.lt_trans hj hi) ho
      have := h3 _ (Nat.lt_of_le_of_lt h5 hj)
      rw [h4] at this
      cases this
/-- Two rows in order with the same things are one. -/
theorem sorted_ext : ∀ {a b : List Nat}, a.Pairwise (· < ·) → b.Pairwise (· < ·) → (∀ x, x ∈ a ↔ x ∈ b) → a = b
  | [], [], _, _, _ => rfl
  | [], y :: b, _, _, h => by have := (h y).2 (List.mem_cons_self ..); cases this
  | x :: a, [], _, _, h => by have := (h x).1 (List.mem_cons_self ..); cases this
  | x :: a, y :: b, ha, hb, h => by
    obtain ⟨ha1, ha2⟩ := List.pairwise_cons.1 ha
    obtain ⟨hb1, hb2⟩ := List.pairwise_cons.1 hb
    have hxy : x = y := by
      rcases List.mem_cons.1 ((h x).1 (List.mem_cons_self ..)) with h1 | h1
      · exact h1
      · rcases List.mem_cons.1 ((h y).2 (List.mem_cons_self ..)) with h2 | h2
        · exact h2.symm
        · have := ha1 y h2
          have := hb1 x h1
          omega
    subst hxy
    congr 1
    refine sorted_ext ha2 hb2 fun z => ?_
    constructor
    · intro hz
      rcases List.mem_cons.1 ((h z).1 (List.mem_cons_of_mem _ hz)) with h1 | h1
      · subst h1; have := ha1 z hz; omega
      · exact h1
    · intro hz
      rcases List.mem_cons.1 ((h z).2 (List.mem_cons_of_mem _ hz)) with h1 | h1
      · subst h1; have := hb1 z hz; omega
      · exact h1
theorem grpR_mem {N : List (List Nat)} {a x : Nat} : x ∈ grpR N a ↔ x < N.length ∧ tog N a x = true := by
  unfold grpR
  rw [List.mem_filter, List.mem_range]
theorem grp_eq {N : List (List Nat)} {s : St} (hr : Rng N) (h : Done N s) {i : Nat} (hi : i < N.length) : grpR N i = gat s (gi s i) := by
  refine sorted_ext (List.Pairwise.sublist List.filter_sublist List.pairwise_lt_range) (h.inv.gs _ _ (gat_some (gi_lt h hi))).2.1 fun x => ?_
  rw [grpR_mem, gat_mem h (gi_lt h hi)]
  constructor
  · rintro ⟨h1, h2⟩; exact ⟨h1, (together hr h hi h1).2 h2⟩
  · rintro ⟨h1, h2⟩; exact ⟨h1, (together hr h hi h1).1 h2⟩
theorem getD_lt {c : List Bool} {j : Nat} (h : j < c.length) : c.getD j false = c[j] := by
  rw [List.getD_eq_getElem?_getD, List.getElem?_eq_getElem h]; rfl
theorem Joint.next {N : List (List Nat)} {s : St} (hr : Rng N) (h : Done N s) {cp cr : List Bool} {t : Nat} (J : Joint N s cp cr t) {i : Nat} (hp : pickP N s cp = some i) :
    Joint N s (cp.set (gi s i) true) (markR cr (grpR N i)) (t + 1) ∧ i < N.length := by
  have hp' := hp
  unfold pickP at hp'
  rw [List.find?_range_eq_some] at hp'
  obtain ⟨h1, h2, _⟩ := hp'
  have hi := List.mem_range.1 h2
  obtain ⟨ho, _⟩ := (okP_iff hr h J hi).1 h1
  obtain ⟨hc, hg⟩ := (okR_iff hr h J hi).1 ho
  have hl := gi_lt h hi
  have heq : ∀ x, x < N.length → (markR cr (grpR N i)).getD x false = (cp.set (gi s i) true).getD (gi s x) false := fun x hx => by
    rw [markR_at _ _ _ (by rw [J.rl]; exact hx), getD_set, J.pl, J.eq x hx]
    by_cases hxg : x ∈ grpR N i
    · have := (together hr h hi hx).2 (grpR_mem.1 hxg).2
      rw [if_pos ⟨this.symm, hl⟩]
      simp [hxg]
    · have : ¬ (gi s i = gi s x ∧ gi s i < s.grp.length) := fun e => hxg (grpR_mem.2 ⟨hx, (together hr h hi hx).1 e.1.symm⟩)
      rw [if_neg this]
      simp [hxg]
  refine ⟨⟨by rw [List.length_set]; exact J.pl, by rw [markR_len]; exact J.rl, heq, fun x hx hcx k hk => ?_, ?_⟩, hi⟩
  · have hkN := hr.at x k hk
    rw [markR_at _ _ _ (by rw [J.rl]; exact hx)] at hcx
    rw [markR_at _ _ _ (by rw [J.rl]; exact hkN)]
    simp only [Bool.or_eq_true, decide_eq_true_eq] at hcx ⊢
    rcases hcx with hcx | hcx
    · obtain ⟨_, h3⟩ := grpR_mem.1 hcx
      have h4 := (together hr h hi hx).2 h3
      have h5 : ∀ z ∈ gat s (gi s i), ∀ k ∈ nd N z, gof s k = gof s z ∨ cp.getD (gi s k) false = true := by
        unfold readyF at hg
        simpa only [List.all_eq_true, Bool.or_eq_true, decide_eq_true_eq] using hg
      rcases h5 x ((gat_mem h hl).2 ⟨hx, h4⟩) k hk with h6 | h6
      · left
        rw [gof_gi h hkN, gof_gi h hx] at h6
        exact grpR_mem.2 ⟨hkN, (together hr h hi hkN).1 ((Option.some.inj h6).trans h4)⟩
      · right
        rw [J.eq k hkN]; exact h6
    · exact .inr (J.cl x hx hcx k hk)
  · have hl' : gi s i < cp.length := by rw [J.pl]; exact hl
    rw [getD_lt hl'] at hc
    rw [List.count_set hl']
    simp [hc, J.cnt]
theorem Joint.some {N : List (List Nat)} {s : St} (hr : Rng N) (h : Done N s) {cp cr : List Bool} {t : Nat} (J : Joint N s cp cr t) (ht : t < s.grp.length) : ∃ i, pickP N s cp = some i := by
  have hex : ∃ j, j < cp.length ∧ cp.getD j false = false := by
    apply Decidable.byContradiction
    intro hn
    have hall : ∀ b ∈ cp, true = b := fun b hb => by
      obtain ⟨j, hj, e⟩ := List.getElem_of_mem hb
      cases b with
      | true => rfl
      | false => exact absurd ⟨j, hj, by rw [getD_lt hj]; exact e⟩ hn
    have := List.count_eq_length.2 hall
    rw [J.cnt, J.pl] at this
    omega
  -- the first group that has not come
  have hmin : ∃ j, (j < cp.length ∧ cp.getD j false = false) ∧ ∀ j', j' < j → cp.getD j' false = true := by
    obtain ⟨j, hj, hj2⟩ := hex
    have key : ∀ m, ∀ j, j ≤ m → j < cp.length → cp.getD j false = false → ∃ j, (j < cp.length ∧ cp.getD j false = false) ∧ ∀ j', j' < j → cp.getD j' false = true := by
      intro m
      induction m with
      | zero => intro j hm hj hj2; exact ⟨j, ⟨hj, hj2⟩, fun j' h => by omega⟩
      | succ m ih =>
        intro j hm hj hj2
        by_cases hh : ∃ j', j' < j ∧ cp.getD j' false = false
        · obtain ⟨j', h1, h2⟩ := hh
          exact ih j' (by omega) (by omega) h2
        · refine ⟨j, ⟨hj, hj2⟩, fun j' h => ?_⟩
          cases hc : cp.getD j' false with
          | true => rfl
          | false => exact absurd ⟨j', h, hc⟩ hh
    exact key j j (Nat.le_refl _) hj hj2
  obtain ⟨j, ⟨hj, hj2⟩, hlt⟩ := hmin
  have hjl : j < s.grp.length := by rw [← J.pl]; exact hj
  obtain ⟨h1, h2⟩ := hd_mem h hjl
  obtain ⟨h3, h4⟩ := (gat_mem h hjl).1 h1
  have hok : okP N s cp (hdG (gat s j)) = true := by
    rw [okP_iff hr h J h3, okR_iff hr h J h3, h4]
    refine ⟨⟨hj2, ?_⟩, rfl⟩
    unfold readyF
    simp only [List.all_eq_true, Bool.or_eq_true, decide_eq_true_eq]
    intro x hx k hk
    obtain ⟨hx1, hx2⟩ := (gat_mem h hjl).1 hx
    obtain ⟨j', hj', hle⟩ := h.inv.ord x j (by rw [gof_gi h hx1, hx2]) k hk
    by_cases he : j' = j
    · left; rw [hj', he, gof_gi h hx1, hx2]
    · right
      have : gi s k = j' := by rw [gi, hj']; rfl
      rw [this]
      exact hlt j' (by omega)
  cases hp : pickP N s cp with
  | some i => exact ⟨i, rfl⟩
  | none =>
    unfold pickP at hp
    rw [List.find?_range_eq_none] at hp
    have := hp _ h3
    rw [hok] at this
    cases this
theorem Joint.none {N : List (List Nat)} {s : St} (hr : Rng N) (h : Done N s) {cp cr : List Bool} (J : Joint N s cp cr s.grp.length) : pickR N cr = none := by
  unfold pickR
  rw [List.find?_range_eq_none]
  intro i hi
  have hc : cp.getD (gi s i) false = true := by
    have hl : gi s i < cp.length := by rw [J.pl]; exact gi_lt h hi
    have hall := List.count_eq_length.1 (J.cnt.trans J.pl.symm)
    rw [getD_lt hl]
    exact (hall _ (List.getElem_mem hl)).symm
  cases ho : okR N cr i with
  | false => rfl
  | true =>
    have := ((okR_iff hr h J hi).1 ho).1
    rw [hc] at this
    cases this
theorem refF_none {N : List (List Nat)} {c : List Bool} (h : pickR N c = none) : ∀ (t : Nat) (o : List (List Nat)), refF N t c o = o
  | 0, _ => rfl
  | t + 1, o => by rw [refF, h]; exact refF_none h t o
theorem ord_ref {N : List (List Nat)} {s : St} (hr : Rng N) (h : Done N s) : ∀ (m : Nat) (cp cr : List Bool) (t : Nat) (o : List (List Nat)) (q : Nat), Joint N s cp cr t → t + m = s.grp.length → m ≤ q → ∃ out, ordF N s m cp o = some out ∧ refF N q cr o = out
  | 0, cp, cr, t, o, q, J, ht, _ => by
    have : t = s.grp.length := by omega
    subst this
    exact ⟨o, rfl, refF_none (J.none hr h) q o⟩
  | m + 1, cp, cr, t, o, q, J, ht, hq => by
    obtain ⟨i, hi⟩ := J.some hr h (by omega)
    obtain ⟨J', hiN⟩ := J.next hr h hi
    cases q with
    | zero => omega
    | succ q =>
      obtain ⟨out, h1, h2⟩ := ord_ref hr h m _ _ (t + 1) (o ++ [gat s (gi s i)]) q J' (by omega) (by omega)
      refine ⟨out, ?_, ?_⟩
      · rw [ordF, hi]; exact h1
      · rw [refF, pick_eq hr h J, hi]
        show refF N q (markR cr (grpR N i)) (o ++ [grpR N i]) = out
        rw [← grp_eq hr h hiN] at h2
        exact h2
theorem joint0 (N : List (List Nat)) (s : St) : Joint N s (List.replicate s.grp.length false) (List.replicate N.length false) 0 :=
  ⟨by simp, by simp, fun x _ => by rw [getD_rep _ _ _ rfl, getD_rep _ _ _ rfl], fun x _ hc => (by rw [getD_rep _ _ _ rfl] at hc; cases hc), by simp [List.count_replicate]⟩
/-- The document's groups. -/
def groupsR (N : List (List Nat)) : List (List Nat) := refF N N.length (List.replicate N.length false) []
theorem groups_eq {N : List (List Nat)} {s : St} (hr : Rng N) (h : Done N s) : ordF N s s.grp.length (List.replicate s.grp.length false) [] = some (groupsR N) := by
  have hl : s.grp.length ≤ N.length := by
    have h1 := h.inv.wf.gs
    have h2 := h.inv.wf.c
    omega
  obtain ⟨out, h1, h2⟩ := ord_ref hr h s.grp.length _ _ 0 [] N.length (joint0 N s) (by omega) hl
  rw [h1, ← h2]; rfl
end Go.Proofs.Ytkfdklocgpgbfaa
namespace Go.Proofs.Ytkfdklocgpgbfaa

/-- Groups that have come, in their order. -/
structure Outs (N : List (List Nat)) (cr : List Bool) (o : List (List Nat)) : Prop where
  len : cr.length = N.length
  come : ∀ x, x < N.length → (cr.getD x false = true ↔ ∃ g ∈ o, x ∈ g)
  grp : ∀ g ∈ o, ∃ a, a < N.length ∧ g = grpR N a
  one : ∀ (u v : Nat) (gu gv : List Nat) (x : Nat), o[u]? = some gu → o[v]? = some gv → x ∈ gu → x ∈ gv → u = v
  ord : ∀ (u : Nat) (gu : List Nat) (x : Nat), o[u]? = some gu → x ∈ gu → ∀ k ∈ nd N x, ∃ (v : Nat) (gv : List Nat), o[v]? = some gv ∧ k ∈ gv ∧ v ≤ u
theorem outs0 (N : List (List Nat)) : Outs N (List.replicate N.length false) [] :=
  ⟨by simp, fun x hx => (by rw [getD_rep _ _ _ rfl]; simp), fun g hg => (by cases hg), fun u v gu gv x h => (by simp at h), fun u gu x h => (by simp at h)⟩
theorem tog_tr {N : List (List Nat)} (hr : Rng N) {a b c : Nat} (ha : a < N.length) (hb : b < N.length) (hc : c < N.length) (h : tog N a b = true) (k : tog N b c = true) : tog N a c = true := by
  rw [tog_iff hr ha hb] at h
  rw [tog_iff hr hb hc] at k
  rw [tog_iff hr ha hc]
  exact ⟨h.1.trans k.1, k.2.trans h.2⟩
theorem tog_sym {N : List (List Nat)} (hr : Rng N) {a b : Nat} (ha : a < N.length) (hb : b < N.length) (h : tog N a b = true) : tog N b a = true := by
  rw [tog_iff hr ha hb] at h
  rw [tog_iff hr hb ha]
  exact ⟨h.2, h.1⟩
theorem Outs.next {N : List (List Nat)} (hr : Rng N) {cr : List Bool} {o : List (List Nat)} (h : Outs N cr o) {a : Nat} (hp : pickR N cr = some a) : Outs N (markR cr (grpR N a)) (o ++ [grpR N a]) := by
  have hp' := hp
  unfold pickR at hp'
  rw [List.find?_range_eq_some] at hp'
  obtain ⟨h1, h2, _⟩ := hp'
  have ha := List.mem_range.1 h2
  have hok : cr.getD a false = false ∧ ∀ k, k < N.length → RB N a k = true → cr.getD k false = true ∨ tog N a k = true := by
    unfold okR at h1
    simp only [Bool.and_eq_true, List.all_eq_true, List.mem_range, Bool.or_eq_true, Bool.not_eq_true'] at h1
    refine ⟨h1.1, fun k hk hik => ?_⟩
    rcases h1.2 k hk with (h3 | h3) | h3
    · rw [hik] at h3; cases h3
    · exact .inl h3
    · exact .inr h3
  -- none of its group has come
  have hnew : ∀ x ∈ grpR N a, ¬ ∃ g ∈ o, x ∈ g := fun x hx ⟨g, hg, hxg⟩ => by
    obtain ⟨b, hb, rfl⟩ := h.grp g hg
    obtain ⟨hxN, hax⟩ := grpR_mem.1 hx
    have hbx := (grpR_mem.1 hxg).2
    have hba := tog_tr hr hb hxN ha hbx (tog_sym hr ha hxN hax)
    have h3 := (h.come a ha).2 ⟨_, hg, grpR_mem.2 ⟨ha, hba⟩⟩
    rw [hok.1] at h3
    cases h3
  have hmem : ∀ g, g ∈ o ++ [grpR N a] ↔ g ∈ o ∨ g = grpR N a := fun g => by rw [List.mem_append, List.mem_singleton]
  have hidx : ∀ (u : Nat) (gu : List Nat), (o ++ [grpR N a])[u]? = some gu → (o[u]? = some gu ∧ u < o.length) ∨ (u = o.length ∧ gu = grpR N a) := fun u gu hu => by
    by_cases hl : u < o.length
    · rw [List.getElem?_append_left hl] at hu
      exact .inl ⟨hu, hl⟩
    · rw [List.getElem?_append_right (by omega)] at hu
      right
      have hul : u = o.length := by
        apply Decidable.byContradiction
        intro hne
        rw [List.getElem?_eq_none (by simp; omega)] at hu
        cases hu
      subst hul
      simp at hu
      exact ⟨rfl, hu.symm⟩
  refine ⟨by rw [markR_len]; exact h.len, fun x hx => ?_, fun g hg => ?_, fun u v gu gv x hu hv hxu hxv => ?_, fun u gu x hu hx k hk => ?_⟩
  · rw [markR_at _ _ _ (by rw [h.len]; exact hx)]
    simp only [Bool.or_eq_true, decide_eq_true_eq, h.come x hx]
    constructor
    · rintro (h3 | ⟨g, hg, hxg⟩)
      · exact ⟨_, (hmem _).2 (.inr rfl), h3⟩
      · exact ⟨g, (hmem _).2 (.inl hg), hxg⟩
    · rintro ⟨g, hg, hxg⟩
      rcases (hmem g).1 hg with hg | rfl
      · exact .inr ⟨g, hg, hxg⟩
      · exact .inl hxg
  · rcases (hmem g).1 hg with hg | rfl
    · exact h.grp g hg
    · exact ⟨a, ha, rfl⟩
  · rcases hidx u gu hu with ⟨hu', _⟩ | ⟨hu', rfl⟩
    · rcases hidx v gv hv with ⟨hv', _⟩ | ⟨hv', rfl⟩
      · exact h.one u v gu gv x hu' hv' hxu hxv
      · exact absurd ⟨gu, List.mem_of_getElem? hu', hxu⟩ (hnew x hxv)
    · rcases hidx v gv hv with ⟨hv', _⟩ | ⟨hv', rfl⟩
      · exact absurd ⟨gv, List.mem_of_getElem? hv', hxv⟩ (hnew x hxu)
      · rw [hu', hv']
  · have hlift : ∀ (v : Nat) (gv : List Nat), o[v]? = some gv → (o ++ [grpR N a])[v]? = some gv := fun v gv hv => by
      rw [List.getElem?_append_left (List.getElem?_eq_some_iff.1 hv).1]; exact hv
    rcases hidx u gu hu with ⟨hu', _⟩ | ⟨hu', rfl⟩
    · obtain ⟨v, gv, h3, h4, h5⟩ := h.ord u gu x hu' hx k hk
      exact ⟨v, gv, hlift v gv h3, h4, h5⟩
    · obtain ⟨hxN, hax⟩ := grpR_mem.1 hx
      have hkN := hr.at x k hk
      have hax' := ((tog_iff hr ha hxN).1 hax).1
      have hak : Rch1 N a k := by
        cases hax' with
        | refl => exact ⟨k, hk, .refl _⟩
        | step hq hq' => exact ⟨_, hq, hq'.trans (.one hk)⟩
      rcases hok.2 k hkN ((RB_iff hr ha).2 hak) with h3 | h3
      · obtain ⟨g, hg, hkg⟩ := (h.come k hkN).1 h3
        obtain ⟨v, hv, e⟩ := List.getElem_of_mem hg
        have h4 : o[v]? = some g := by rw [List.getElem?_eq_getElem hv, e]
        exact ⟨v, g, hlift v g h4, hkg, by omega⟩
      · refine ⟨o.length, _, ?_, grpR_mem.2 ⟨hkN, h3⟩, by omega⟩
        rw [List.getElem?_append_right (Nat.le_refl _)]; simp
/-- What the document's groups are like. -/
theorem refF_outs {N : List (List Nat)} (hr : Rng N) : ∀ (t : Nat) (cr : List Bool) (o : List (List Nat)), Outs N cr o → ∃ (cr' : List Bool), Outs N cr' (refF N t cr o)
  | 0, cr, o, h => ⟨cr, h⟩
  | t + 1, cr, o, h => by
    rw [refF]
    cases hp : pickR N cr with
    | none => exact refF_outs hr t cr o h
    | some a => exact refF_outs hr t _ _ (h.next hr hp)
/-- The steps of both sides, with what has come behind them. -/
theorem ref_end {N : List (List Nat)} {s : St} (hr : Rng N) (h : Done N s) : ∀ (m : Nat) (cp cr : List Bool) (t : Nat) (o : List (List Nat)), Joint N s cp cr t → t + m = s.grp.length →
    ∃ (cr' : List Bool), refF N m cr o = refF N m cr o ∧ (∀ q, refF N (m + q) cr o = refF N m cr o) ∧ (∀ x, x < N.length → cr'.getD x false = true) ∧ (Outs N cr o → Outs N cr' (refF N m cr o)) ∧ cr'.length = N.length ∧ (refF N m cr o).length = o.length + m
  | 0, cp, cr, t, o, J, ht => by
    have : t = s.grp.length := by omega
    subst this
    refine ⟨cr, rfl, fun q => by rw [Nat.zero_add]; exact refF_none (J.none hr h) q o, fun x hx => ?_, id, J.rl, rfl⟩
    rw [J.eq x hx]
    have hl : gi s x < cp.length := by rw [J.pl]; exact gi_lt h hx
    have hall := List.count_eq_length.1 (J.cnt.trans J.pl.symm)
    rw [getD_lt hl]
    exact (hall _ (List.getElem_mem hl)).symm
  | m + 1, cp, cr, t, o, J, ht => by
    obtain ⟨i, hi⟩ := J.some hr h (by omega)
    obtain ⟨J', hiN⟩ := J.next hr h hi
    have hpr : pickR N cr = some i := by rw [pick_eq hr h J]; exact hi
    obtain ⟨cr', _, h2, h3, h4, h5, h6⟩ := ref_end hr h m _ _ (t + 1) (o ++ [grpR N i]) J' (by omega)
    have e : ∀ q, refF N (m + 1 + q) cr o = refF N (m + q) (markR cr (grpR N i)) (o ++ [grpR N i]) := fun q => by
      rw [show m + 1 + q = (m + q) + 1 by omega, refF, hpr]
    have e0 : refF N (m + 1) cr o = refF N m (markR cr (grpR N i)) (o ++ [grpR N i]) := e 0
    refine ⟨cr', rfl, fun q => by rw [e, e0]; exact h2 q, h3, fun ho => by rw [e0]; exact h4 (ho.next hr hpr), h5, by rw [e0, h6]; simp; omega⟩
theorem groupsR_outs {N : List (List Nat)} (hr : Rng N) : ∃ (cr : List Bool), Outs N cr (groupsR N) ∧ ∀ x, x < N.length → cr.getD x false = true := by
  obtain ⟨s, _, h⟩ := parts_done hr
  have hl : s.grp.length ≤ N.length := by
    have h1 := h.inv.wf.gs
    have h2 := h.inv.wf.c
    omega
  obtain ⟨cr', _, h2, h3, h4, _⟩ := ref_end hr h s.grp.length _ _ 0 [] (joint0 N s) (by omega)
  have e := h2 (N.length - s.grp.length)
  rw [show s.grp.length + (N.length - s.grp.length) = N.length by omega] at e
  exact ⟨cr', by rw [groupsR, e]; exact h4 (outs0 N), h3⟩
/-! A thing more. -/
theorem nd_more {N : List (List Nat)} {r : List Nat} {i : Nat} (h : i < N.length) : nd (N ++ [r]) i = nd N i := by
  unfold nd
  rw [List.getD_eq_getElem?_getD, List.getElem?_append_left h, ← List.getD_eq_getElem?_getD]
theorem nd_last {N : List (List Nat)} {r : List Nat} : nd (N ++ [r]) N.length = r := by
  unfold nd
  rw [List.getD_eq_getElem?_getD, List.getElem?_append_right (Nat.le_refl _)]; simp
theorem Rng.more {N : List (List Nat)} {r : List Nat} (h : Rng N) (hk : ∀ k ∈ r, k ≤ N.length) : Rng (N ++ [r]) := fun l hl k hkl => by
  rw [List.length_append, List.length_singleton]
  rcases List.mem_append.1 hl with hl | hl
  · have := h l hl k hkl; omega
  · rw [List.mem_singleton.1 hl] at hkl
    have := hk k hkl
    omega
theorem rch_more {N : List (List Nat)} {r : List Nat} (hr : Rng N) {x y : Nat} (hx : x < N.length) : Rch (N ++ [r]) x y ↔ Rch N x y := by
  constructor
  · intro h
    induction h with
    | refl => exact .refl _
    | step hk _ ih =>
      rw [nd_more hx] at hk
      exact .step hk (ih (hr.at _ _ hk))
  · intro h
    induction h with
    | refl => exact .refl _
    | step hk _ ih => exact .step (by rw [nd_more hx]; exact hk) (ih (hr.at _ _ hk))
theorem RB_more {N : List (List Nat)} {r : List Nat} (hr : Rng N) (hr' : Rng (N ++ [r])) {i k : Nat} (hi : i < N.length) : RB (N ++ [r]) i k = RB N i k := by
  have h1 := RB_iff hr' (i := i) (k := k) (by simp; omega)
  have h2 := RB_iff hr (i := i) (k := k) hi
  have h3 : Rch1 (N ++ [r]) i k ↔ Rch1 N i k := by
    unfold Rch1
    rw [nd_more hi]
    constructor
    · rintro ⟨x, hx, h⟩; exact ⟨x, hx, (rch_more hr (hr.at i x hx)).1 h⟩
    · rintro ⟨x, hx, h⟩; exact ⟨x, hx, (rch_more hr (hr.at i x hx)).2 h⟩
  exact Bool.eq_iff_iff.2 (h1.trans (h3.trans h2.symm))
theorem RB_last {N : List (List Nat)} (hr : Rng N) {i : Nat} (hi : i < N.length) : RB N i N.length = false := by
  cases h : RB N i N.length with
  | false => rfl
  | true =>
    obtain ⟨x, hx, h1⟩ := (RB_iff hr hi).1 h
    have := h1.lt hr (hr.at i x hx)
    omega
theorem tog_more {N : List (List Nat)} {r : List Nat} (hr : Rng N) (hr' : Rng (N ++ [r])) {i k : Nat} (hi : i < N.length) (hk : k < N.length) : tog (N ++ [r]) i k = tog N i k := by
  unfold tog
  rw [RB_more hr hr' hi, RB_more hr hr' hk]
theorem tog_out {N : List (List Nat)} {r : List Nat} (hr : Rng N) (hr' : Rng (N ++ [r])) {i : Nat} (hi : i < N.length) : tog (N ++ [r]) i N.length = false ∧ tog (N ++ [r]) N.length i = false := by
  have h1 : RB (N ++ [r]) i N.length = false := by rw [RB_more hr hr' hi]; exact RB_last hr hi
  have h2 : (i == N.length) = false := by simp; omega
  have h3 : (N.length == i) = false := by simp; omega
  unfold tog
  rw [h1, h2, h3]
  simp
theorem grp_more {N : List (List Nat)} {r : List Nat} (hr : Rng N) (hr' : Rng (N ++ [r])) {i : Nat} (hi : i < N.length) : grpR (N ++ [r]) i = grpR N i := by
  unfold grpR
  rw [List.length_append, List.length_singleton, List.range_succ, List.filter_append]
  have h1 : [N.length].filter (tog (N ++ [r]) i) = [] := by
    rw [List.filter_cons, (tog_out hr hr' hi).1]; rfl
  rw [h1, List.append_nil]
  exact List.filter_congr fun x hx => tog_more hr hr' hi (List.mem_range.1 hx)
theorem grp_last {N : List (List Nat)} {r : List Nat} (hr : Rng N) (hr' : Rng (N ++ [r])) : grpR (N ++ [r]) N.length = [N.length] := by
  unfold grpR
  rw [List.length_append, List.length_singleton, List.range_succ, List.filter_append]
  have h1 : (List.range N.length).filter (tog (N ++ [r]) N.length) = [] := by
    rw [List.filter_eq_nil_iff]
    intro x hx
    rw [(tog_out hr hr' (List.mem_range.1 hx)).2]
    simp
  rw [h1, List.nil_append, List.filter_cons]
  simp [tog]
theorem getD_app {c : List Bool} {k : Nat} (h : k < c.length) (d : List Bool) : (c ++ d).getD k false = c.getD k false := by
  rw [List.getD_eq_getElem?_getD, List.getElem?_append_left h, ← List.getD_eq_getElem?_getD]
theorem getD_end {c : List Bool} (b : Bool) : (c ++ [b]).getD c.length false = b := by
  rw [List.getD_eq_getElem?_getD, List.getElem?_append_right (Nat.le_refl _)]; simp
theorem ok_more {N : List (List Nat)} {r : List Nat} (hr : Rng N) (hr' : Rng (N ++ [r])) {c : List Bool} (hc : c.length = N.length) (b : Bool) {i : Nat} (hi : i < N.length) : okR (N ++ [r]) (c ++ [b]) i = okR N c i := by
  unfold okR
  rw [getD_app (by omega), List.length_append, List.length_singleton, List.range_succ, List.all_append]
  have h1 : ([N.length].all fun k => !RB (N ++ [r]) i k || (c ++ [b]).getD k false || tog (N ++ [r]) i k) = true := by
    simp [RB_more hr hr' hi, RB_last hr hi]
  rw [h1, Bool.and_true]
  congr 1
  rw [Bool.eq_iff_iff, List.all_eq_true, List.all_eq_true]
  constructor
  · intro h k hk
    have hkN := List.mem_range.1 hk
    have := h k hk
    rwa [RB_more hr hr' hi, getD_app (by omega), tog_more hr hr' hi hkN] at this
  · intro h k hk
    have hkN := List.mem_range.1 hk
    have := h k hk
    rwa [RB_more hr hr' hi, getD_app (by omega), tog_more hr hr' hi hkN]
theorem mark_app : ∀ (g : List Nat) (c : List Bool) (b : Bool), (∀ k ∈ g, k < c.length) → markR (c ++ [b]) g = markR c g ++ [b]
  | [], c, b, _ => rfl
  | k :: g, c, b, h => by
    show markR ((c ++ [b]).set k true) g = markR (c.set k true) g ++ [b]
    rw [List.set_append_left _ _ (h k (List.mem_cons_self ..))]
    exact mark_app g _ b (fun q hq => by rw [List.length_set]; exact h q (List.mem_cons_of_mem _ hq))
theorem last_step {N : List (List Nat)} {r : List Nat} (hr : Rng N) (hr' : Rng (N ++ [r])) {s : St} (h : Done N s) : ∀ (m : Nat) (cp cr : List Bool) (t : Nat) (o : List (List Nat)) (q : Nat), Joint N s cp cr t → t + m = s.grp.length →
    ∃ (cr' : List Bool), (∀ x, x < N.length → cr'.getD x false = true) ∧ cr'.length = N.length ∧ refF (N ++ [r]) (m + q) (cr ++ [false]) o = refF (N ++ [r]) q (cr' ++ [false]) (refF N m cr o)
  | 0, cp, cr, t, o, q, J, ht => by
    have : t = s.grp.length := by omega
    subst this
    refine ⟨cr, fun x hx => ?_, J.rl, by rw [Nat.zero_add]; rfl⟩
    rw [J.eq x hx]
    have hl : gi s x < cp.length := by rw [J.pl]; exact gi_lt h hx
    have hall := List.count_eq_length.1 (J.cnt.trans J.pl.symm)
    rw [getD_lt hl]
    exact (hall _ (List.getElem_mem hl)).symm
  | m + 1, cp, cr, t, o, q, J, ht => by
    obtain ⟨i, hi⟩ := J.some hr h (by omega)
    obtain ⟨J', hiN⟩ := J.next hr h hi
    have hpr : pickR N cr = some i := by rw [pick_eq hr h J]; exact hi
    have hpr' : pickR (N ++ [r]) (cr ++ [false]) = some i := by
      have hp := hpr
      unfold pickR at hp ⊢
      rw [List.find?_range_eq_some] at hp ⊢
      obtain ⟨h1, h2, h3⟩ := hp
      refine ⟨by rw [ok_more hr hr' J.rl false hiN]; exact h1, by simp; omega, fun j hj => ?_⟩
      rw [ok_more hr hr' J.rl false (by omega)]
      exact h3 j hj
    obtain ⟨cr', h1, h2, h3⟩ := last_step hr hr' h m _ _ (t + 1) (o ++ [grpR N i]) q J' (by omega)
    refine ⟨cr', h1, h2, ?_⟩
    rw [show m + 1 + q = (m + q) + 1 by omega, refF, hpr']
    show refF (N ++ [r]) (m + q) (markR (cr ++ [false]) (grpR (N ++ [r]) i)) (o ++ [grpR (N ++ [r]) i]) = _
    rw [grp_more hr hr' hiN, mark_app _ _ _ (fun k hk => by rw [J.rl]; exact (grpR_mem.1 hk).1), h3, refF, hpr]
/-- **A thing more that nobody needs comes last, alone.** -/
theorem groups_last {N : List (List Nat)} {r : List Nat} (hr : Rng N) (hk : ∀ k ∈ r, k ≤ N.length) : groupsR (N ++ [r]) = groupsR N ++ [[N.length]] := by
  have hr' := hr.more hk
  obtain ⟨s, _, h⟩ := parts_done hr
  have hl : s.grp.length ≤ N.length := by
    have h1 := h.inv.wf.gs
    have h2 := h.inv.wf.c
    omega
  obtain ⟨_, _, h2, _, _, _⟩ := ref_end hr h s.grp.length _ _ 0 [] (joint0 N s) (by omega)
  have e := h2 (N.length - s.grp.length)
  rw [show s.grp.length + (N.length - s.grp.length) = N.length by omega] at e
  obtain ⟨cr', g1, g2, g3⟩ := last_step hr hr' h s.grp.length _ _ 0 [] (N.length - s.grp.length + 1) (joint0 N s) (by omega)
  have hlen : (N ++ [r]).length = s.grp.length + (N.length - s.grp.length + 1) := by simp; omega
  have hrep : List.replicate (N ++ [r]).length false = List.replicate N.length false ++ [false] := by
    rw [List.length_append, List.length_singleton, List.replicate_succ']
  have hG : groupsR N = refF N s.grp.length (List.replicate N.length false) [] := e
  unfold groupsR at hG ⊢
  rw [hrep, hlen, g3, ← hG, refF]
  have hpk : pickR (N ++ [r]) (cr' ++ [false]) = some N.length := by
    unfold pickR
    rw [List.find?_range_eq_some]
    refine ⟨?_, by simp, fun j hj => ?_⟩
    · unfold okR
      rw [← g2, getD_end, g2]
      simp only [Bool.not_false, Bool.true_and, List.all_eq_true, List.mem_range, List.length_append, List.length_singleton, Bool.or_eq_true]
      intro k hk
      by_cases hkN : k < N.length
      · left; right
        rw [getD_app (by omega)]; exact g1 k hkN
      · right
        have : k = N.length := by omega
        subst this
        unfold tog; simp
    · rw [ok_more hr hr' g2 false hj]
      unfold okR
      rw [g1 j hj]
      rfl
  rw [hpk]
  show refF (N ++ [r]) (N.length - s.grp.length) (markR (cr' ++ [false]) (grpR (N ++ [r]) N.length)) (_ ++ [grpR (N ++ [r]) N.length]) = _
  rw [grp_last hr hr']
  refine refF_none ?_ _ _
  unfold pickR
  rw [List.find?_range_eq_none]
  intro i hi
  have hi' : i ≤ N.length := by simp at hi; omega
  have hc : (markR (cr' ++ [false]) [N.length]).getD i false = true := by
    rw [markR_at _ _ _ (by simp [g2]; omega)]
    by_cases hiN : i < N.length
    · rw [getD_app (by omega), g1 i hiN]; simp
    · have : i = N.length := by omega
      subst this
      simp
  unfold okR
  rw [hc]
  rfl
end Go.Proofs.Ytkfdklocgpgbfaa
