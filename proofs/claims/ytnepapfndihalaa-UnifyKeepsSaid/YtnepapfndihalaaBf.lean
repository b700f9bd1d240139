/- Joined texts. -/
import Derived.Test.YtnepapfndihalaaUz0
import Derived.KernelRfl
import Derived.Test.YtnepapfndihalaaBc
set_option linter.unusedVariables false
set_option linter.unusedSimpArgs false
set_option linter.unusedSectionVars false
namespace Go.Proofs.Ytnepapfndihalaa
open Go.RowKit
set_option maxRecDepth 100000
variable (O : Q → Option Rs)
theorem h16a (a b c d e) : body PG EE TT O (q16a a b c d e) = g16a (T := Sm) a b c d e O := by kernel_rfl
theorem h16ab0a (a b c d e f g h i) : body PG EE TT O (q16ab0a a b c d e f g h i) = g16ab0a (T := Sm) a b c d e f g h i O := by kernel_rfl
theorem h16ab2a (a b c d e f g h i) : body PG EE TT O (q16ab2a a b c d e f g h i) = g16ab2a (T := Sm) a b c d e f g h i O := by kernel_rfl
theorem h16ab2b (a b c d e f g h i j) : body PG EE TT O (q16ab2b a b c d e f g h i j) = g16ab2b (T := Sm) a b c d e f g h i j O := by kernel_rfl
theorem h16ab2c (a b c d e f) : body PG EE TT O (q16ab2c a b c d e f) = g16ab2c (T := Sm) a b c d e f O := by kernel_rfl
theorem h16ab2d (a b c d e f g h i j) : body PG EE TT O (q16ab2d a b c d e f g h i j) = g16ab2d (T := Sm) a (.rows b) c d e f g h i j O := by kernel_rfl
theorem h16ab2e (a b c d e f g h i j k) : body PG EE TT O (q16ab2e a b c d e f g h i j k) = g16ab2e (T := Sm) a (.rows b) c d e f g h i j k O := by kernel_rfl
theorem h16ab2f (a b c d e f g) : body PG EE TT O (q16ab2f a b c d e f g) = g16ab2f (T := Sm) a (.rows b) c d e f g O := by kernel_rfl
theorem h4 (a b) : body PG EE TT O (q4 a b) = g4 (T := Sm) a b O := by kernel_rfl
theorem h4b0a (a b c d e f) : body PG EE TT O (q4b0a a b c d e f) = g4b0a (T := Sm) a b c d e f O := by kernel_rfl
theorem h4b2a (a b c d e f g) : body PG EE TT O (q4b2a a b c d e f g) = g4b2a (T := Sm) a b c d e f g O := by kernel_rfl
theorem h4b2b (a b c d e f g) : body PG EE TT O (q4b2b a b c d e f g) = g4b2b (T := Sm) a b c d e f g O := by kernel_rfl
theorem h4b2c (a b c d e f g h) : body PG EE TT O (q4b2c a b c d e f g h) = g4b2c (T := Sm) a b c d e f g h O := by kernel_rfl
theorem h4b2d (a b c d e f g h) : body PG EE TT O (q4b2d a b c d e f g h) = g4b2d (T := Sm) a b c d e f g h O := by kernel_rfl
theorem h4b2e (a b c d e f g h) : body PG EE TT O (q4b2e a b c d e f g h) = g4b2e (T := Sm) a b c d e f g h O := by kernel_rfl
theorem h4b2f (a b c d e f g h i) : body PG EE TT O (q4b2f a b c d e f g h i) = g4b2f (T := Sm) a b c d e f g h i O := by kernel_rfl
theorem h4b4a (a b c d e f g h i) : body PG EE TT O (q4b4a a b c d e f g h i) = g4b4a (T := Sm) a (.rows b) c d e f g h i O := by kernel_rfl
theorem h4b4b (a b c d e f g h i j) : body PG EE TT O (q4b4b a b c d e f g h i j) = g4b4b (T := Sm) a (.rows b) c d e f g h i j O := by kernel_rfl
theorem h4b4c (a b c d e f g h i j) : body PG EE TT O (q4b4c a b c d e f g h i j) = g4b4c (T := Sm) a (.rows b) c d e f g h i j O := by kernel_rfl
theorem h4b4d (a b c d e f g h i j k) : body PG EE TT O (q4b4d a b c d e f g h i j k) = g4b4d (T := Sm) a (.rows b) c d e f g h i j k O := by kernel_rfl
theorem h11a (a b c) : body PG EE TT O (q11a a b c) = g11a (T := Sm) a b c O := by kernel_rfl
theorem h11b (a b c d) : body PG EE TT O (q11b a b c d) = g11b (T := Sm) a b c d O := by kernel_rfl
theorem h10a (a b c) : body PG EE TT O (q10a a b c) = g10a (T := Sm) a b c O := by kernel_rfl
theorem h12a (a b c d e f g h i j k) : body PG EE TT O (q12a a b c d e f g h i j k) = g12a (T := Sm) a b c d e f g h i j k O := by kernel_rfl
theorem h12ab0a (a b c d) : body PG EE TT O (q12ab0a a b c d) = g12ab0a (T := Sm) a b c d O := by kernel_rfl
theorem h12ab0b (a b c d e f g h) : body PG EE TT O (q12ab0b a b c d e f g h) = g12ab0b (T := Sm) a b c d e f g h O := by kernel_rfl
theorem h13a : body PG EE TT O q13a = g13a (T := Sm) O := by kernel_rfl
theorem h14a (a b c d e f g h) : body PG EE TT O (q14a a b c d e f g h) = g14a (T := Sm) a b c d e f g h O := by kernel_rfl
theorem h14b (a b c d e f g h) : body PG EE TT O (q14b a b c d e f g h) = g14b (T := Sm) a b c d e f g h O := by kernel_rfl
theorem h14bb0a (a b c d e f g h i) : body PG EE TT O (q14bb0a a b c d e f g h i) = g14bb0a (T := Sm) a b c d e f g h i O := by kernel_rfl
theorem h14bb0b (a b c d e f g h i) : body PG EE TT O (q14bb0b a b c d e f g h i) = g14bb0b (T := Sm) a b c d e f g h i O := by kernel_rfl
theorem h14bb0c (a b c d e f g h i j) : body PG EE TT O (q14bb0c a b c d e f g h i j) = g14bb0c (T := Sm) a b c d e f g h i j O := by kernel_rfl
theorem h14bb0d (a b c d e f g h i j) : body PG EE TT O (q14bb0d a b c d e f g h i j) = g14bb0d (T := Sm) a b c d e f g h i j O := by kernel_rfl
theorem h14c (a b c d e f g h i) : body PG EE TT O (q14c a b c d e f g h i) = g14c (T := Sm) a b c d e f g h i O := by kernel_rfl
theorem h14d (a b c d e f g h i) : body PG EE TT O (q14d a b c d e f g h i) = g14d (T := Sm) a b c d e f g h i O := by kernel_rfl
theorem h14db0a (a b c d e f g h i j) : body PG EE TT O (q14db0a a b c d e f g h i j) = g14db0a (T := Sm) a b c d e f g h i j O := by kernel_rfl
theorem h14db0b (a b c d e f g h i j) : body PG EE TT O (q14db0b a b c d e f g h i j) = g14db0b (T := Sm) a b c d e f g h i j O := by kernel_rfl
theorem h14db0c (a b c d e f g h i j) : body PG EE TT O (q14db0c a b c d e f g h i j) = g14db0c (T := Sm) a b c d e f g h i j O := by kernel_rfl
theorem h14db0d (a b c d e f g h i j) : body PG EE TT O (q14db0d a b c d e f g h i j) = g14db0d (T := Sm) a b c d e f g h i j O := by kernel_rfl
theorem h12b (a b c d e f g h i j k l) : body PG EE TT O (q12b a b c d e f g h i j k l) = g12b (T := Sm) a b c d e f g h i j k l O := by kernel_rfl
theorem h12bb0a (a b c d e f g h i) : body PG EE TT O (q12bb0a a b c d e f g h i) = g12bb0a (T := Sm) a b c d e f g h i O := by kernel_rfl
theorem h15a (a b c d e f g) : body PG EE TT O (q15a a b c d e f g) = g15a (T := Sm) a b c d e f g O := by kernel_rfl
theorem h17a (a b c d e f g) : body PG EE TT O (q17a a b c d e f g) = g17a (T := Sm) a b c d e f g O := by kernel_rfl
theorem h17ab0a (a b c d e f g h i j) : body PG EE TT O (q17ab0a a b c d e f g h i j) = g17ab0a (T := Sm) a b c d e f g h i j O := by kernel_rfl
theorem h15b (a b c d e f g h) : body PG EE TT O (q15b a b c d e f g h) = g15b (T := Sm) a b c d e f g h O := by kernel_rfl
theorem h17b (a b c d e f g h) : body PG EE TT O (q17b a b c d e f g h) = g17b (T := Sm) a b c d e f g h O := by kernel_rfl
theorem h17bb0a (a b c d e f g h i j k) : body PG EE TT O (q17bb0a a b c d e f g h i j k) = g17bb0a (T := Sm) a b c d e f g h i j k O := by kernel_rfl
theorem h26a (a b c d e f g h i j k) : body PG EE TT O (q26a a b c d e f g h i j k) = g26a (T := Sm) a b c d e f g h i j k O := by kernel_rfl
theorem h30a (a b c d e) : body PG EE TT O (q30a a b c d e) = g30a (T := Sm) a b c d e O := by kernel_rfl
theorem h30b (a b c d e f) : body PG EE TT O (q30b a b c d e f) = g30b (T := Sm) a b c d e f O := by kernel_rfl
theorem h30bb0a (a b c) : body PG EE TT O (q30bb0a a b c) = g30bb0a (T := Sm) a (.rows b) c O := by kernel_rfl
theorem h30bb0b (a b c) : body PG EE TT O (q30bb0b a b c) = g30bb0b (T := Sm) a (.rows b) c O := by kernel_rfl
theorem h26b (a b c d e f g h i j k l) : body PG EE TT O (q26b a b c d e f g h i j k l) = g26b (T := Sm) a b c d e f g h i j k l O := by kernel_rfl
theorem h31a (a b c d e f g h) : body PG EE TT O (q31a a b c d e f g h) = g31a (T := Sm) a b c d e f g h O := by kernel_rfl
theorem h31ab0a (a b c d e f g h i j k l) : body PG EE TT O (q31ab0a a b c d e f g h i j k l) = g31ab0a (T := Sm) a b c d e f g h i j k l O := by kernel_rfl
theorem h31b (a b c d e f g h i) : body PG EE TT O (q31b a b c d e f g h i) = g31b (T := Sm) a b c d e f g h i O := by kernel_rfl
theorem h31bb0a (a b c d e f g h i j k l m) : body PG EE TT O (q31bb0a a b c d e f g h i j k l m) = g31bb0a (T := Sm) a b c d e f g h i j k l m O := by kernel_rfl
theorem h39a (a b c) : body PG EE TT O (q39a a b c) = g39a (T := Sm) a b c O := by kernel_rfl
theorem h40a (a b c d e f g h) : body PG EE TT O (q40a a b c d e f g h) = g40a (T := Sm) a b c d e f g h O := by kernel_rfl
theorem h41a (a b c d e f g h) : body PG EE TT O (q41a a b c d e f g h) = g41a (T := Sm) a b c d e f g h O := by kernel_rfl
theorem h42a (a b c d e) : body PG EE TT O (q42a a b c d e) = g42a (T := Sm) a b c d e O := by kernel_rfl
theorem h42ab0a (a b c d e f g) : body PG EE TT O (q42ab0a a b c d e f g) = g42ab0a (T := Sm) a b c d e f g O := by kernel_rfl
theorem h42ab0b (a b c d e f g h) : body PG EE TT O (q42ab0b a b c d e f g h) = g42ab0b (T := Sm) a b c d e f g h O := by kernel_rfl
theorem h39b (a b c d) : body PG EE TT O (q39b a b c d) = g39b (T := Sm) a b c d O := by kernel_rfl
theorem h40b (a b c d e f g h i) : body PG EE TT O (q40b a b c d e f g h i) = g40b (T := Sm) a b c d e f g h i O := by kernel_rfl
theorem h41b (a b c d e f g h i) : body PG EE TT O (q41b a b c d e f g h i) = g41b (T := Sm) a b c d e f g h i O := by kernel_rfl
theorem h42b (a b c d e f) : body PG EE TT O (q42b a b c d e f) = g42b (T := Sm) a b c d e f O := by kernel_rfl
theorem h42bb0a (a b c d e f g h) : body PG EE TT O (q42bb0a a b c d e f g h) = g42bb0a (T := Sm) a b c d e f g h O := by kernel_rfl
theorem h42bb0b (a b c d e f g h) : body PG EE TT O (q42bb0b a b c d e f g h) = g42bb0b (T := Sm) a b c d e f g h O := by kernel_rfl
theorem h57a (a b c d e) : body PG EE TT O (q57a a b c d e) = g57a (T := Sm) a b c d e O := by kernel_rfl
theorem h57b (a b c d e f) : body PG EE TT O (q57b a b c d e f) = g57b (T := Sm) a b c d e f O := by kernel_rfl
theorem h65a (a b c d e) : body PG EE TT O (q65a a b c d e) = g65a (T := Sm) a b c d e O := by kernel_rfl
theorem h65ab0a (a b c d e f g) : body PG EE TT O (q65ab0a a b c d e f g) = g65ab0a (T := Sm) a b c d e f g O := by kernel_rfl
theorem h65b (a b c d e f) : body PG EE TT O (q65b a b c d e f) = g65b (T := Sm) a b c d e f O := by kernel_rfl
theorem h65bb0a (a b c d e f g h) : body PG EE TT O (q65bb0a a b c d e f g h) = g65bb0a (T := Sm) a b c d e f g h O := by kernel_rfl
theorem h58a (a b c d e f g h) : body PG EE TT O (q58a a b c d e f g h) = g58a (T := Sm) a b c d e f g h O := by kernel_rfl
theorem h58b (a b c d e f g h i) : body PG EE TT O (q58b a b c d e f g h i) = g58b (T := Sm) a b c d e f g h i O := by kernel_rfl
theorem h27 (a b c d) : body PG EE TT O (q27 a b c d) = g27 (T := Sm) a b c d O := by kernel_rfl
theorem h28 (a b) : body PG EE TT O (q28 a b) = g28 (T := Sm) a b O := by kernel_rfl
theorem h28b0a (a b c) : body PG EE TT O (q28b0a a b c) = g28b0a (T := Sm) a b c O := by kernel_rfl
theorem h29 (a b c d) : body PG EE TT O (q29 a b c d) = g29 (T := Sm) a b c d O := by kernel_rfl
theorem h29b0a (a b) : body PG EE TT O (q29b0a a b) = g29b0a (T := Sm) a b O := by kernel_rfl
theorem h29b0b (a b c) : body PG EE TT O (q29b0b a b c) = g29b0b (T := Sm) a b (.rows c) O := by kernel_rfl
theorem h43 (a b c d e) : body PG EE TT O (q43 a b c d e) = g43 (T := Sm) a b c d e O := by kernel_rfl
theorem h43b0a (a b c d e f g) : body PG EE TT O (q43b0a a b c d e f g) = g43b0a (T := Sm) a b c d e f g O := by kernel_rfl
theorem h44 (a b c d) : body PG EE TT O (q44 a b c d) = g44 (T := Sm) a b c d O := by kernel_rfl
theorem h44b0a (a b c d e f) : body PG EE TT O (q44b0a a b c d e f) = g44b0a (T := Sm) a (.rows b) c d e f O := by kernel_rfl
theorem h44b0b (a b c d e f) : body PG EE TT O (q44b0b a b c d e f) = g44b0b (T := Sm) a (.rows b) c d e f O := by kernel_rfl
theorem h32 (a b c d e) : body PG EE TT O (q32 a b c d e) = g32 (T := Sm) a b c d e O := by kernel_rfl
theorem h16 (a b c d e) : body PG EE TT O (q16 a b c d e) = g16 (T := Sm) a b c d e O := by kernel_rfl
theorem h16b0a (a b c d e f g h i) : body PG EE TT O (q16b0a a b c d e f g h i) = g16b0a (T := Sm) a b c d e f g h i O := by kernel_rfl
theorem h16b2a (a b c d e f g h i) : body PG EE TT O (q16b2a a b c d e f g h i) = g16b2a (T := Sm) a b c d e f g h i O := by kernel_rfl
theorem h16b2b (a b c d e f g h i j) : body PG EE TT O (q16b2b a b c d e f g h i j) = g16b2b (T := Sm) a b c d e f g h i j O := by kernel_rfl
theorem h16b2c (a b c d e f) : body PG EE TT O (q16b2c a b c d e f) = g16b2c (T := Sm) a b c d e f O := by kernel_rfl
theorem h16b2d (a b c d e f g h i j) : body PG EE TT O (q16b2d a b c d e f g h i j) = g16b2d (T := Sm) a (.rows b) c d e f g h i j O := by kernel_rfl
theorem h16b2e (a b c d e f g h i j k) : body PG EE TT O (q16b2e a b c d e f g h i j k) = g16b2e (T := Sm) a (.rows b) c d e f g h i j k O := by kernel_rfl
theorem h16b2f (a b c d e f g) : body PG EE TT O (q16b2f a b c d e f g) = g16b2f (T := Sm) a (.rows b) c d e f g O := by kernel_rfl
theorem h6 (a) : body PG EE TT O (q6 a) = g6 (T := Sm) a O := by kernel_rfl
theorem h6b0a (a b c d) : body PG EE TT O (q6b0a a b c d) = g6b0a (T := Sm) a b c d O := by kernel_rfl
theorem h20 (a b c d) : body PG EE TT O (q20 a b c d) = g20 (T := Sm) a b c d O := by kernel_rfl
theorem h20b0a (a b c) : body PG EE TT O (q20b0a a b c) = g20b0a (T := Sm) a b c O := by kernel_rfl
theorem h21 (a b c d e) : body PG EE TT O (q21 a b c d e) = g21 (T := Sm) a b c d e O := by kernel_rfl
theorem h33 (a b c d e) : body PG EE TT O (q33 a b c d e) = g33 (T := Sm) a b c d e O := by kernel_rfl
theorem h33b0a (a b c d e f g) : body PG EE TT O (q33b0a a b c d e f g) = g33b0a (T := Sm) a b c d e f g O := by kernel_rfl
theorem h8 (a b c d e f g h) : body PG EE TT O (q8 a b c d e f g h) = g8 (T := Sm) a b c d e f g h O := by kernel_rfl
theorem h25 (a b) : body PG EE TT O (q25 a b) = g25 (T := Sm) a b O := by kernel_rfl
theorem h25b0a (a b c) : body PG EE TT O (q25b0a a b c) = g25b0a (T := Sm) a b c O := by kernel_rfl
theorem h9 : body PG EE TT O q9 = g9 (T := Sm) O := by kernel_rfl
theorem h30ab0a (a b) : body PG EE TT O (q30ab0a a b) = g30ab0a (T := Sm) a (.rows b) O := by kernel_rfl
theorem h5 : body PG EE TT O q5 = extK (awkP []) := by kernel_rfl
theorem h13b (a) : body PG EE TT O (q13b a) = extK (cpyP [a]) := by kernel_rfl
theorem h29w (a b c d) : body PG EE TT O (q29w a b c d) = weakK (O ⟨80, [a, b, c, d]⟩) := by kernel_rfl
theorem h44w (a b c d) : body PG EE TT O (q44w a b c d) = weakK (O ⟨85, [a, b, c, d]⟩) := by kernel_rfl
end Go.Proofs.Ytnepapfndihalaa
namespace Go.Proofs.Ytnepapfndihalaa
open Go.RowKit

inductive Ty where
  | mk (kind : Int) (name : ByteArray) (n : Int) (kids : List Ty)
def Ty.kind : Ty → Int | .mk k _ _ _ => k
def Ty.name : Ty → ByteArray | .mk _ s _ _ => s
def Ty.n : Ty → Int | .mk _ _ n _ => n
def Ty.kids : Ty → List Ty | .mk _ _ _ ks => ks
mutual
def Ty.cells : Ty → List PV
  | .mk k s n ks => [iv k, sv s, iv n, .rows (Ty.rows ks)]
def Ty.rows : List Ty → List (List PV)
  | [] => []
  | v :: l => v.cells :: Ty.rows l
end
theorem Ty.rows_eq : ∀ l, Ty.rows l = l.map Ty.cells
  | [] => by rw [Ty.rows]; rfl
  | v :: l => by rw [Ty.rows, Ty.rows_eq l]; rfl
def tys (l : List Ty) : PV := .rows (l.map Ty.cells)
theorem Ty.cells_eq (t : Ty) : t.cells = [iv t.kind, sv t.name, iv t.n, tys t.kids] := by cases t; rw [Ty.cells, Ty.rows_eq]; rfl
theorem Ty.cells_len (t : Ty) : t.cells.length = 4 := by rw [Ty.cells_eq]; rfl
mutual
theorem Ty.ns : ∀ (v : Ty), ∀ p ∈ v.cells, NS p
  | .mk k s n ks, p, hp => by
    have := Ty.nsL ks
    rw [Ty.cells] at hp
    simp only [List.mem_cons, List.not_mem_nil, or_false] at hp
    rcases hp with rfl | rfl | rfl | rfl
    · exact .lit _
    · exact .lit _
    · exact .lit _
    · exact .rows _ this
theorem Ty.nsL : ∀ (l : List Ty), ∀ c ∈ Ty.rows l, ∀ p ∈ c, NS p
  | [], c, hc, _, _ => by simp [Ty.rows] at hc
  | v :: l, c, hc, p, hp => by
    have h1 := Ty.ns v
    have h2 := Ty.nsL l
    rw [Ty.rows, List.mem_cons] at hc
    rcases hc with rfl | hc
    · exact h1 p hp
    · exact h2 c hc p hp
end
theorem ns_rows {α : Type} {f : α → List PV} {l : List α} (h : ∀ x ∈ l, ∀ p ∈ f x, NS p) : NS (.rows (l.map f)) := .rows _ fun c hc p hp => by
  obtain ⟨x, hx, rfl⟩ := List.mem_map.1 hc
  exact h x hx p hp
@[simp] theorem ns_tys (l : List Ty) : NS (tys l) := ns_rows fun x _ => x.ns
/-- Two types, to be made one. -/
structure Pr where
  a : Ty
  b : Ty
def Pr.cells (p : Pr) : List PV := p.a.cells ++ p.b.cells
def prs (l : List Pr) : PV := .rows (l.map Pr.cells)
/-- What a meta stands for. -/
abbrev Bd := List (Int × Ty)
def sbC (x : Int × Ty) : List PV := iv x.1 :: x.2.cells
def sbs (b : Bd) : PV := .rows (b.map sbC)
def ints (l : List Int) : PV := .rows (ivs l)
@[simp] theorem ns_ints (l : List Int) : NS (ints l) := ns_rows fun x _ p hp => by simp at hp; subst hp; exact .lit _
@[simp] theorem ns_prs (l : List Pr) : NS (prs l) := ns_rows fun x _ p hp => by
  rw [Pr.cells, List.mem_append] at hp
  rcases hp with hp | hp
  · exact x.a.ns p hp
  · exact x.b.ns p hp
@[simp] theorem ns_sbs (l : Bd) : NS (sbs l) := ns_rows fun x _ p hp => by
  rw [sbC, List.mem_cons] at hp
  rcases hp with rfl | hp
  · exact .lit _
  · exact x.2.ns p hp
theorem sl_tys : SlT Try.prog 25 4 56 := SlT.of (by kernel_rfl)
theorem sl_prs : SlT Try.prog 22 8 112 := SlT.of (by kernel_rfl)
theorem sl_sbs : SlT Try.prog 30 5 64 := SlT.of (by kernel_rfl)
theorem sl_ints : SlT Try.prog 55 1 8 := SlT.of (by kernel_rfl)
section
variable {β : Type} {d : β} {k : AV → β}
theorem nsa_c {l : List PV} (h : NSL l) : NSA (.cptr l) := .cptr _ h
theorem lenK_rows {t : TypeId} {sz by_ : Nat} (ht : SlT Try.prog t sz by_) (es : List (List PV)) : lenK Try.prog d t (.pv (.rows es)) k = k (.pv (iv es.length)) := lenK_of (fun _ => len_ok ht es) (nsa_lit _)
theorem idxK_rows {t : TypeId} {sz by_ : Nat} (ht : SlT Try.prog t sz by_) {es : List (List PV)} {i : Nat} {c : List PV} (h : es[i]? = some c) (hs : c.length = sz) (hn : NSL c) : idxK Try.prog d t (.pv (.rows es)) (.pv (.lit (.int .i64 (i : Int)))) k = k (.cptr c) := idxK_of (fun _ => idx_ok ht h hs) (nsa_c hn)
theorem lenK_tys (l : List Ty) : lenK Try.prog d 25 (.pv (tys l)) k = k (.pv (iv l.length)) := by rw [tys, lenK_rows sl_tys, List.length_map]
theorem lenK_prs (l : List Pr) : lenK Try.prog d 22 (.pv (prs l)) k = k (.pv (iv l.length)) := by rw [prs, lenK_rows sl_prs, List.length_map]
theorem lenK_sbs (l : Bd) : lenK Try.prog d 30 (.pv (sbs l)) k = k (.pv (iv l.length)) := by rw [sbs, lenK_rows sl_sbs, List.length_map]
theorem lenK_ints (l : List Int) : lenK Try.prog d 55 (.pv (ints l)) k = k (.pv (iv l.length)) := by rw [ints, lenK_rows sl_ints, ivs, List.length_map]
theorem idxK_tys {l : List Ty} {i : Nat} {x : Ty} (h : l[i]? = some x) : idxK Try.prog d 25 (.pv (tys l)) (.pv (.lit (.int .i64 (i : Int)))) k = k (.cptr [iv x.kind, sv x.name, iv x.n, tys x.kids]) := by
  rw [← Ty.cells_eq]; exact idxK_rows sl_tys (by rw [List.getElem?_map, h]; rfl) x.cells_len x.ns
theorem idxK_prs {l : List Pr} {i : Nat} {x : Pr} (h : l[i]? = some x) : idxK Try.prog d 22 (.pv (prs l)) (.pv (.lit (.int .i64 (i : Int)))) k = k (.cptr [iv x.a.kind, sv x.a.name, iv x.a.n, tys x.a.kids, iv x.b.kind, sv x.b.name, iv x.b.n, tys x.b.kids]) := by
  have e : x.cells = [iv x.a.kind, sv x.a.name, iv x.a.n, tys x.a.kids, iv x.b.kind, sv x.b.name, iv x.b.n, tys x.b.kids] := by rw [Pr.cells, Ty.cells_eq, Ty.cells_eq]; rfl
  rw [← e]
  refine idxK_rows sl_prs (by rw [List.getElem?_map, h]; rfl) (by rw [e]; rfl) (fun p hp => ?_)
  rw [Pr.cells, List.mem_append] at hp
  rcases hp with hp | hp
  · exact x.a.ns p hp
  · exact x.b.ns p hp
theorem idxK_sbs {l : Bd} {i : Nat} {x : Int × Ty} (h : l[i]? = some x) : idxK Try.prog d 30 (.pv (sbs l)) (.pv (.lit (.int .i64 (i : Int)))) k = k (.cptr [iv x.1, iv x.2.kind, sv x.2.name, iv x.2.n, tys x.2.kids]) := by
  have e : sbC x = [iv x.1, iv x.2.kind, sv x.2.name, iv x.2.n, tys x.2.kids] := by rw [sbC, Ty.cells_eq]
  rw [← e]
  refine idxK_rows sl_sbs (by rw [List.getElem?_map, h]; rfl) (by rw [e]; rfl) (fun p hp => ?_)
  rw [sbC, List.mem_cons] at hp
  rcases hp with rfl | hp
  · exact .lit _
  · exact x.2.ns p hp
theorem idxK_ints {l : List Int} {i : Nat} {x : Int} (h : l[i]? = some x) : idxK Try.prog d 55 (.pv (ints l)) (.pv (.lit (.int .i64 (i : Int)))) k = k (.cptr [iv x]) :=
  idxK_rows sl_ints (by rw [ivs, List.getElem?_map, h]; rfl) rfl (fun p hp => by simp at hp; subst hp; exact .lit _)
end
/-! What is bound. -/
def isN (n : Int) (x : Int × Ty) : Bool := decide (x.1 = n)
def bget (b : Bd) (n : Int) : Option Ty := (b.find? (isN n)).map (·.2)
theorem u_map : Try.prog.underlying 60 = some (.map 3 27) := by kernel_rfl
theorem u_int : Try.prog.underlying 3 = some (.int .i64) := by kernel_rfl
def zT : List PV := [iv 0, sv ⟨#[]⟩, iv 0, .lit (.slice none 0 0)]
theorem zero_ty : zeroV Try.prog 27 = some (.agg (zT.map .pv)) := by kernel_rfl
theorem findK_n (n : Int) : ∀ l : Bd, findK (.int .i64) (.int .i64 n) (l.map fun x => .int .i64 x.1) = some (l.findIdx? (isN n))
  | [] => rfl
  | a :: l => by
    rw [List.map_cons, findK]
    have e : Instr.sameNow (.int .i64) (.int .i64 n) (.int .i64 a.1) = some (isN n a) := by
      show some (n == a.1) = _
      unfold isN
      by_cases h : a.1 = n
      · simp [h]
      · have : ¬ n = a.1 := fun e => h e.symm
        simp [h, this]
    rw [e, findK_n n l, List.findIdx?_cons]
    cases isN n a with
    | true => rfl
    | false =>
      simp only [Bool.false_eq_true, if_false]
      cases l.findIdx? (isN n) <;> rfl
theorem nsPss_iff : ∀ {es : List (List PV)}, nsPss es = true ↔ ∀ c ∈ es, nsPs c = true
  | [] => by simp [nsPss]
  | c :: es => by rw [nsPss, Bool.and_eq_true, nsPss_iff]; simp
theorem bd_ns (b : Bd) : nsPss (b.map sbC) = true := by
  have := nsP_of (ns_sbs b)
  rw [sbs, nsP] at this; exact this
theorem keys_bd (b : Bd) : (b.map sbC).map keyV = b.map fun x => .int .i64 x.1 := by rw [List.map_map]; rfl
theorem valA_sb (x : Int × Ty) : valA (sbC x) = .agg (x.2.cells.map .pv) := by
  rw [sbC, Ty.cells_eq]; rfl
theorem vals_bd (b : Bd) : (b.map sbC).map valA = b.map fun x => .agg (x.2.cells.map .pv) := by
  rw [List.map_map]; exact List.map_congr_left fun x _ => valA_sb x
theorem find_idx (n : Int) : ∀ b : Bd, b.find? (isN n) = (b.findIdx? (isN n)).bind fun i => b[i]?
  | [] => rfl
  | a :: l => by
    rw [List.find?_cons, List.findIdx?_cons]
    cases isN n a with
    | true => rfl
    | false =>
      simp only [Bool.false_eq_true, if_false]
      rw [find_idx n l]
      cases l.findIdx? (isN n) <;> rfl
theorem look_iff {P : Program} {t kt et : TypeId} {d : TypeDesc} {es : List (List PV)} {k w0 : AV} {key : Value} {ok : Bool} (h1 : P.underlying t = some (.map kt et)) (h2 : P.underlying kt = some d) (hn : nsPss es = true) (hk : k.val? = some key)
    (hl : lookA P kt et d key (es.map keyV) (es.map valA) ok = some w0) (w : AV) : LookOk P t (.rows es) k w ok ↔ w = w0 := by
  constructor
  · rintro ⟨kt', et', d', es', key', g1, g2, g3, _, g5, g6⟩
    rw [h1] at g1
    cases g1
    rw [h2] at g2
    cases g2
    cases g3
    rw [hk] at g5
    cases g5
    rw [hl] at g6
    exact (Option.some.inj g6).symm
  · rintro rfl
    exact ⟨kt, et, d, es, key, h1, h2, rfl, hn, hk, hl⟩
section
variable {β : Type} {d : β}
theorem nsa_agg {l : List PV} (h : NSL l) : NSA (.agg (l.map .pv)) := .agg _ fun a ha => by
  obtain ⟨p, hp, rfl⟩ := List.mem_map.1 ha
  exact .pv _ (h p hp)
theorem lookK_some {k : AV → β} (b : Bd) (n : Int) {x : Ty} (h : bget b n = some x) : lookK Try.prog d 60 (sbs b) (.pv (.lit (.int .i64 n))) true k = k (.tup [.agg (x.cells.map .pv), .pv (.lit (.bool true))]) := by
  refine lookK_of (fun w => look_iff u_map u_int (bd_ns b) (key := .int .i64 n) rfl ?_ w) (.tup _ fun a ha => ?_)
  · unfold lookA
    have hf : findKP Try.prog 3 (.int .i64) (.int .i64 n) ((b.map sbC).map keyV) = some (b.findIdx? (isN n)) := by
      rw [keys_bd]; unfold findKP; rw [findK_n]
    rw [hf, vals_bd]
    unfold bget at h
    rw [find_idx] at h
    cases hi : b.findIdx? (isN n) with
    | none => rw [hi] at h; cases h
    | some i =>
      rw [hi] at h
      simp only [Option.bind_some] at h
      obtain ⟨y, hy, rfl⟩ := Option.map_eq_some_iff.1 h
      have : (b.map fun x => AV.agg (x.2.cells.map .pv))[i]? = some (.agg (y.2.cells.map .pv)) := by rw [List.getElem?_map, hy]; rfl
      simp only [this]
      rfl
  · simp only [List.mem_cons, List.not_mem_nil, or_false] at ha
    rcases ha with rfl | rfl
    · exact nsa_agg x.ns
    · exact nsa_lit _
theorem lookK_none {k : AV → β} (b : Bd) (n : Int) (h : bget b n = none) : lookK Try.prog d 60 (sbs b) (.pv (.lit (.int .i64 n))) true k = k (.tup [.agg (zT.map .pv), .pv (.lit (.bool false))]) := by
  refine lookK_of (fun w => look_iff u_map u_int (bd_ns b) (key := .int .i64 n) rfl ?_ w) (.tup _ fun a ha => ?_)
  · unfold lookA
    have hf : findKP Try.prog 3 (.int .i64) (.int .i64 n) ((b.map sbC).map keyV) = some (b.findIdx? (isN n)) := by
      rw [keys_bd]; unfold findKP; rw [findK_n]
    have hi : b.findIdx? (isN n) = none := by
      unfold bget at h
      rw [Option.map_eq_none_iff] at h
      rw [List.findIdx?_eq_none_iff]
      intro x hx
      have := List.find?_eq_none.1 h x hx
      simpa using this
    rw [hf, hi]
    simp only [zero_ty]
    rfl
  · simp only [List.mem_cons, List.not_mem_nil, or_false] at ha
    rcases ha with rfl | rfl
    · refine nsa_agg fun p hp => ?_
      simp only [zT, List.mem_cons, List.not_mem_nil, or_false] at hp
      rcases hp with rfl | rfl | rfl | rfl <;> exact .lit _
    · exact nsa_lit _
/-- A meta more that stands for something. -/
theorem updK_new {k : PV → β} (b : Bd) (n : Int) (x : Ty) (h : bget b n = none) : updK Try.prog d 60 (sbs b) (.pv (.lit (.int .i64 n))) (.agg [.pv (iv x.kind), .pv (sv x.name), .pv (iv x.n), .pv (tys x.kids)]) k = k (sbs (b ++ [(n, x)])) := by
  have hc : (AV.agg [.pv (iv x.kind), .pv (sv x.name), .pv (iv x.n), .pv (tys x.kids)]) = .agg (x.cells.map .pv) := by rw [Ty.cells_eq]; rfl
  refine updK_of ?_ ?_ (ns_sbs _)
  · show PV.rows (b.map sbC ++ [_]) = _
    rw [sbs, List.map_append, List.map_cons, List.map_nil, sbC, Ty.cells_eq]
    rfl
  · rw [hc]
    refine ⟨3, 27, .int .i64, b.map sbC, .int .i64 n, (b ++ [(n, x)]).map sbC, u_map, u_int, rfl, bd_ns b, rfl, rfl, ?_, rfl, bd_ns _⟩
    have hi : b.findIdx? (isN n) = none := by
      unfold bget at h
      rw [Option.map_eq_none_iff] at h
      rw [List.findIdx?_eq_none_iff]
      intro y hy
      have := List.find?_eq_none.1 h y hy
      simpa using this
    have hf : findKP Try.prog 3 (.int .i64) (.int .i64 n) ((b.map sbC).map keyV) = some none := by
      rw [keys_bd]; unfold findKP; rw [findK_n, hi]
    unfold updA
    rw [hf]
    simp only
    rw [List.map_append, List.map_append, List.map_append, List.map_cons, List.map_nil, List.map_cons, List.map_nil, List.map_cons, List.map_nil, valA_sb]
    rfl
end

/-- A store's state. -/
structure St where
  fr : Int
  st : Int
  b : Bd
  tr : List Int
/-- What a meta stands for, followed. -/
def headF : Nat → Bd → Ty → Option Ty
  | 0, _, _ => none
  | f + 1, b, t => if t.kind = 2 then match bget b t.n with
      | some x => headF f b x
      | none => some t
    else some t
section
variable {k : AV → Res}
theorem lookK_t (b : Bd) (n : Int) {x : Ty} (h : bget b n = some x) : lookK Try.prog .fail 60 (sbs b) (.pv (.lit (.int .i64 n))) true k = k (.tup [.agg [.pv (iv x.kind), .pv (sv x.name), .pv (iv x.n), .pv (tys x.kids)], .pv (.lit (.bool true))]) := by
  rw [lookK_some b n h, Ty.cells_eq]; rfl
theorem lookK_f (b : Bd) (n : Int) (h : bget b n = none) : lookK Try.prog .fail 60 (sbs b) (.pv (.lit (.int .i64 n))) true k = k (.tup [.agg [.pv (iv 0), .pv (sv ⟨#[]⟩), .pv (iv 0), .pv (.lit (.slice none 0 0))], .pv (.lit (.bool false))]) := by
  rw [lookK_none b n h]; rfl
theorem pagg_4 (x y z w q : PV) (k : List PV → PV → Res) : paggK .fail (.tup [.agg [.pv x, .pv y, .pv z, .pv w], .pv q]) k = k [x, y, z, w] q := paggK_p _ _ _ _ _ rfl
end
theorem tys_nil (l : List Ty) (k : Res) : isK .fail (.lit (.slice none 0 0)) (tys l) k = .fail := isK_nilr _ _ _
theorem tys_nil' (l : List Ty) (k : Res) : isK .fail (tys l) (.lit (.slice none 0 0)) k = .fail := isK_rnil _ _ _
theorem head_la (s : St) : ∀ (f : Nat) (t u : Ty) (x : PV) (y z : PV), headF f s.b t = some u →
    (u.kind = 2 → ev (q17ab0a (iv t.kind) (sv t.name) (iv t.n) (tys t.kids) (iv s.fr) (iv s.st) (sbs s.b) x y z) = some (0, [iv u.kind, sv u.name, iv u.n, tys u.kids, .lit (.slice none 0 0), iv s.fr, iv s.st, sbs s.b, iv u.kind, sv u.name, iv u.n, tys u.kids])) ∧
    (u.kind ≠ 2 → ev (q17ab0a (iv t.kind) (sv t.name) (iv t.n) (tys t.kids) (iv s.fr) (iv s.st) (sbs s.b) x y z) = some (1, [iv u.kind, sv u.name, iv u.n, tys u.kids, .lit (.slice none 0 0), iv s.fr, iv s.st, sbs s.b, x, y, z, .lit (.slice none 0 0)]))
  | 0, t, u, x, y, z, h => by cases h
  | f + 1, t, u, x, y, z, h => by
    rw [headF] at h
    by_cases h2 : t.kind = 2
    · rw [if_pos h2] at h
      cases hb : bget s.b t.n with
      | some v =>
        rw [hb] at h
        have ih := head_la s f v u x y z h
        have hq : ∀ r, ev (q17ab0a (iv v.kind) (sv v.name) (iv v.n) (tys v.kids) (iv s.fr) (iv s.st) (sbs s.b) x y z) = some r → ev (q17ab0a (iv t.kind) (sv t.name) (iv t.n) (tys t.kids) (iv s.fr) (iv s.st) (sbs s.b) x y z) = some r := fun r hr => Evl.of (by
          rw [h17ab0a, g17ab0a]
          simp [h2, lookK_t s.b t.n hb, pagg_4, hr])
        exact ⟨fun hk => hq _ (ih.1 hk), fun hk => hq _ (ih.2 hk)⟩
      | none =>
        rw [hb] at h
        cases h
        refine ⟨fun _ => Evl.of (by
          rw [h17ab0a, g17ab0a]
          simp [h2, lookK_f s.b t.n hb, pagg_4]), fun hk => absurd h2 hk⟩
    · rw [if_neg h2] at h
      cases h
      refine ⟨fun hk => absurd hk h2, fun _ => Evl.of (by
        rw [h17ab0a, g17ab0a]
        simp [h2])⟩
theorem head_a (s : St) {f : Nat} {t u : Ty} (h : headF f s.b t = some u) : ev (q17a (iv t.kind) (sv t.name) (iv t.n) (tys t.kids) (iv s.fr) (iv s.st) (sbs s.b)) = some (0, [.lit (.slice none 0 0), iv s.fr, iv s.st, sbs s.b, iv u.kind, sv u.name, iv u.n, tys u.kids]) := Evl.of (by
  have h1 := head_la s f t u (iv 0) (sv ⟨#[]⟩) (iv 0) h
  rw [h17a, g17a]
  by_cases hk : u.kind = 2
  · simp [h1.1 hk, tys_nil, tys_nil']
  · simp [h1.2 hk, tys_nil, tys_nil'])
theorem head_lb (s : St) : ∀ (f : Nat) (t u : Ty) (x : PV) (y z : PV), headF f s.b t = some u →
    (u.kind = 2 → ev (q17bb0a (iv t.kind) (sv t.name) (iv t.n) (tys t.kids) (iv s.fr) (iv s.st) (sbs s.b) (ints s.tr) x y z) = some (0, [iv u.kind, sv u.name, iv u.n, tys u.kids, iv s.fr, iv s.st, sbs s.b, ints s.tr, iv u.kind, sv u.name, iv u.n, tys u.kids])) ∧
    (u.kind ≠ 2 → ev (q17bb0a (iv t.kind) (sv t.name) (iv t.n) (tys t.kids) (iv s.fr) (iv s.st) (sbs s.b) (ints s.tr) x y z) = some (1, [iv u.kind, sv u.name, iv u.n, tys u.kids, iv s.fr, iv s.st, sbs s.b, ints s.tr, x, y, z, .lit (.slice none 0 0)]))
  | 0, t, u, x, y, z, h => by cases h
  | f + 1, t, u, x, y, z, h => by
    rw [headF] at h
    by_cases h2 : t.kind = 2
    · rw [if_pos h2] at h
      cases hb : bget s.b t.n with
      | some v =>
        rw [hb] at h
        have ih := head_lb s f v u x y z h
        have hq : ∀ r, ev (q17bb0a (iv v.kind) (sv v.name) (iv v.n) (tys v.kids) (iv s.fr) (iv s.st) (sbs s.b) (ints s.tr) x y z) = some r → ev (q17bb0a (iv t.kind) (sv t.name) (iv t.n) (tys t.kids) (iv s.fr) (iv s.st) (sbs s.b) (ints s.tr) x y z) = some r := fun r hr => Evl.of (by
          rw [h17bb0a, g17bb0a]
          simp [h2, lookK_t s.b t.n hb, pagg_4, hr])
        exact ⟨fun hk => hq _ (ih.1 hk), fun hk => hq _ (ih.2 hk)⟩
      | none =>
        rw [hb] at h
        cases h
        refine ⟨fun _ => Evl.of (by
          rw [h17bb0a, g17bb0a]
          simp [h2, lookK_f s.b t.n hb, pagg_4]), fun hk => absurd h2 hk⟩
    · rw [if_neg h2] at h
      cases h
      refine ⟨fun hk => absurd hk h2, fun _ => Evl.of (by
        rw [h17bb0a, g17bb0a]
        simp [h2])⟩
theorem head_b (s : St) {f : Nat} {t u : Ty} (h : headF f s.b t = some u) : ev (q17b (iv t.kind) (sv t.name) (iv t.n) (tys t.kids) (iv s.fr) (iv s.st) (sbs s.b) (ints s.tr)) = some (0, [iv s.fr, iv s.st, sbs s.b, ints s.tr, iv u.kind, sv u.name, iv u.n, tys u.kids]) := Evl.of (by
  have h1 := head_lb s f t u (iv 0) (sv ⟨#[]⟩) (iv 0) h
  rw [h17b, g17b]
  by_cases hk : u.kind = 2
  · simp [h1.1 hk, tys_nil, tys_nil']
  · simp [h1.2 hk, tys_nil, tys_nil'])

def maxS : Int := 1048576
def stepI (st : Int) : Int := IntKind.i64.wrap (st + 1)
/-- Does a meta stand in a type? And the steps. -/
def occF (b : Bd) (n : Int) : Nat → Ty → Int → Option (Bool × Int)
  | 0, _, _ => none
  | f + 1, t, st => match headF f b t with
    | none => none
    | some u => if stepI st ≤ maxS then
        if u.kind = 2 then some (decide (u.n = n), stepI st) else if u.kids.length ≤ 1000000 then occL (occF b n f) u.kids (stepI st) else none
      else some (false, stepI st)
where
  occL (g : Ty → Int → Option (Bool × Int)) : List Ty → Int → Option (Bool × Int)
  | [], st => some (false, st)
  | k :: l, st => match g k st with
    | none => none
    | some (true, st') => some (true, st')
    | some (false, st') => occL g l st'
theorem step_a (s : St) (st : Int) : ev (q39a (iv s.fr) (iv st) (sbs s.b)) = some (0, [.lit (.slice none 0 0), iv s.fr, iv (stepI st), sbs s.b, bv (decide (stepI st ≤ maxS))]) := Evl.of (by
  rw [h39a, g39a]
  by_cases h : IntKind.i64.wrap (st + 1) ≤ 1048576
  · simp [stepI, maxS, h]
  · simp [stepI, maxS, h])
/-- The answer of 'occurs', as a function's value. -/
def Occa (s : St) (n : Int) (g : Ty → Int → Option (Bool × Int)) : Prop := ∀ (t : Ty) (st st' : Int) (r : Bool), g t st = some (r, st') → ev (q40a (iv n) (iv t.kind) (sv t.name) (iv t.n) (tys t.kids) (iv s.fr) (iv st) (sbs s.b)) = some (0, [.lit (.slice none 0 0), iv s.fr, iv st', sbs s.b, bv r])
theorem ocl_a (s : St) (n : Int) (g : Ty → Int → Option (Bool × Int)) (hg : Occa s n g) (l : List Ty) (hb : l.length ≤ 1000000) : ∀ (m : List Ty) (i : Nat) (st st' : Int) (r : Bool), l.drop i = m → occF.occL g m st = some (r, st') →
    (r = true → ∃ j : Int, 0 ≤ j ∧ ev (q65ab0a (iv (i : Int)) (iv l.length) (tys l) (iv s.fr) (iv st) (sbs s.b) (iv n)) = some (0, [.lit (.slice none 0 0), iv s.fr, iv st', sbs s.b, iv n, iv j])) ∧
    (r = false → ev (q65ab0a (iv (i : Int)) (iv l.length) (tys l) (iv s.fr) (iv st) (sbs s.b) (iv n)) = some (1, [.lit (.slice none 0 0), iv s.fr, iv st', sbs s.b, iv n]))
  | [], i, st, st', r, hd, h => by
    have hi : ¬ (i : Int) < l.length := by have := congrArg List.length hd; simp at this; omega
    rw [occF.occL] at h
    cases h
    refine ⟨fun h => (by cases h), fun _ => Evl.of ?_⟩
    rw [h65ab0a, g65ab0a]
    simp [hi]
  | t :: m, i, st, st', r, hd, h => by
    have hx : l[i]? = some t := by have := congrArg List.head? hd; rwa [List.head?_drop] at this
    have hi : (i : Int) < l.length := by have := (List.getElem?_eq_some_iff.1 hx).1; omega
    have hd' : l.drop (i + 1) = m := by rw [← List.drop_drop, hd]; rfl
    have hcl : ∀ st0 r0, g t st = some (r0, st0) → ev (q58a (iv t.kind) (sv t.name) (iv t.n) (tys t.kids) (iv s.fr) (iv st) (sbs s.b) (iv n)) = some (0, [.lit (.slice none 0 0), iv s.fr, iv st0, sbs s.b, iv n, bv r0]) := fun st0 r0 h0 => Evl.of (by
      rw [h58a, g58a]
      cases r0 <;> simp [hg t st st0 _ h0])
    rw [occF.occL] at h
    cases hgt : g t st with
    | none => rw [hgt] at h; cases h
    | some x =>
      obtain ⟨r0, st0⟩ := x
      rw [hgt] at h
      cases r0 with
      | true =>
        cases h
        refine ⟨fun _ => ⟨i, by omega, Evl.of ?_⟩, fun h => by cases h⟩
        rw [h65ab0a, g65ab0a]
        simp [hi, idxK_tys hx, hcl _ _ hgt]
      | false =>
        have ih := ocl_a s n g hg l hb m (i + 1) st0 st' r hd' h
        have e0 : IntKind.i64.wrap ((i : Int) + 1) = (i : Int) + 1 := by rw [IntKind.wrap_i64]; omega
        have e1 : ((i + 1 : Nat) : Int) = (i : Int) + 1 := by omega
        rw [e1] at ih
        refine ⟨fun hr => ?_, fun hr => ?_⟩
        · obtain ⟨j, hj, h1⟩ := ih.1 hr
          refine ⟨j, hj, Evl.of ?_⟩
          rw [h65ab0a, g65ab0a]
          simp [hi, idxK_tys hx, hcl _ _ hgt, e0, h1]
        · refine Evl.of ?_
          rw [h65ab0a, g65ab0a]
          simp [hi, idxK_tys hx, hcl _ _ hgt, e0, ih.2 hr]
theorem oci_a (s : St) (n : Int) (g : Ty → Int → Option (Bool × Int)) (hg : Occa s n g) (l : List Ty) (hb : l.length ≤ 1000000) {st st' : Int} {r : Bool} (h : occF.occL g l st = some (r, st')) :
    ev (q57a (tys l) (iv s.fr) (iv st) (sbs s.b) (iv n)) = some (0, [.lit (.slice none 0 0), iv s.fr, iv st', sbs s.b, iv n, bv r]) := Evl.of (by
  have h1 := ocl_a s n g hg l hb l 0 st st' r rfl h
  simp only [Int.ofNat_zero, Int.natCast_zero] at h1
  have h2 : ∃ j : Int, (r = decide (0 ≤ j)) ∧ ev (q65a (tys l) (iv s.fr) (iv st) (sbs s.b) (iv n)) = some (0, [.lit (.slice none 0 0), iv s.fr, iv st', sbs s.b, iv n, iv j]) := by
    cases r with
    | true =>
      obtain ⟨j, hj, h3⟩ := h1.1 rfl
      refine ⟨j, by simp [hj], Evl.of ?_⟩
      rw [h65a, g65a]
      simp [lenK_tys, h3]
    | false =>
      refine ⟨-1, by decide, Evl.of ?_⟩
      rw [h65a, g65a]
      simp [lenK_tys, h1.2 rfl]
  obtain ⟨j, hj, h3⟩ := h2
  rw [h57a, g57a]
  subst hj
  by_cases hj : 0 ≤ j
  · simp [h3, hj]
  · simp [h3, hj])
theorem occ_a (s : St) (n : Int) : ∀ (f : Nat), Occa s n (occF s.b n f)
  | 0 => fun t st st' r h => by cases h
  | f + 1 => fun t st st' r h => by
    have ih := occ_a s n f
    rw [occF] at h
    cases hh : headF f s.b t with
    | none => rw [hh] at h; cases h
    | some u =>
      rw [hh] at h
      simp only at h
      have h0 := head_a { s with st := st } hh
      have hs := step_a s st
      simp only at h0
      by_cases hm : stepI st ≤ maxS
      · rw [if_pos hm] at h
        by_cases h2 : u.kind = 2
        · rw [if_pos h2] at h
          cases h
          refine Evl.of ?_
          rw [h40a, g40a]
          by_cases hn : u.n = n
          · simp [h0, hs, hm, h2, hn]
          · simp [h0, hs, hm, h2, hn]
        · rw [if_neg h2] at h
          by_cases hkl : u.kids.length ≤ 1000000
          · rw [if_pos hkl] at h
            have h3 := oci_a s n _ ih u.kids hkl h
            refine Evl.of ?_
            rw [h40a, g40a]
            cases r <;> simp [h0, hs, hm, h2, h3]
          · rw [if_neg hkl] at h; cases h
      · rw [if_neg hm] at h
        cases h
        refine Evl.of ?_
        rw [h40a, g40a]
        simp [h0, hs, hm]
theorem step_b (s : St) (st : Int) : ev (q39b (iv s.fr) (iv st) (sbs s.b) (ints s.tr)) = some (0, [iv s.fr, iv (stepI st), sbs s.b, ints s.tr, bv (decide (stepI st ≤ maxS))]) := Evl.of (by
  rw [h39b, g39b]
  by_cases h : IntKind.i64.wrap (st + 1) ≤ 1048576
  · simp [stepI, maxS, h]
  · simp [stepI, maxS, h])
/-- The answer of 'occurs', as a function's value. -/
def Occb (s : St) (n : Int) (g : Ty → Int → Option (Bool × Int)) : Prop := ∀ (t : Ty) (st st' : Int) (r : Bool), g t st = some (r, st') → ev (q40b (iv n) (iv t.kind) (sv t.name) (iv t.n) (tys t.kids) (iv s.fr) (iv st) (sbs s.b) (ints s.tr)) = some (0, [iv s.fr, iv st', sbs s.b, ints s.tr, bv r])
theorem ocl_b (s : St) (n : Int) (g : Ty → Int → Option (Bool × Int)) (hg : Occb s n g) (l : List Ty) (hb : l.length ≤ 1000000) : ∀ (m : List Ty) (i : Nat) (st st' : Int) (r : Bool), l.drop i = m → occF.occL g m st = some (r, st') →
    (r = true → ∃ j : Int, 0 ≤ j ∧ ev (q65bb0a (iv (i : Int)) (iv l.length) (tys l) (iv s.fr) (iv st) (sbs s.b) (ints s.tr) (iv n)) = some (0, [iv s.fr, iv st', sbs s.b, ints s.tr, iv n, iv j])) ∧
    (r = false → ev (q65bb0a (iv (i : Int)) (iv l.length) (tys l) (iv s.fr) (iv st) (sbs s.b) (ints s.tr) (iv n)) = some (1, [iv s.fr, iv st', sbs s.b, ints s.tr, iv n]))
  | [], i, st, st', r, hd, h => by
    have hi : ¬ (i : Int) < l.length := by have := congrArg List.length hd; simp at this; omega
    rw [occF.occL] at h
    cases h
    refine ⟨fun h => (by cases h), fun _ => Evl.of ?_⟩
    rw [h65bb0a, g65bb0a]
    simp [hi]
  | t :: m, i, st, st', r, hd, h => by
    have hx : l[i]? = some t := by have := congrArg List.head? hd; rwa [List.head?_drop] at this
    have hi : (i : Int) < l.length := by have := (List.getElem?_eq_some_iff.1 hx).1; omega
    have hd' : l.drop (i + 1) = m := by rw [← List.drop_drop, hd]; rfl
    have hcl : ∀ st0 r0, g t st = some (r0, st0) → ev (q58b (iv t.kind) (sv t.name) (iv t.n) (tys t.kids) (iv s.fr) (iv st) (sbs s.b) (ints s.tr) (iv n)) = some (0, [iv s.fr, iv st0, sbs s.b, ints s.tr, iv n, bv r0]) := fun st0 r0 h0 => Evl.of (by
      rw [h58b, g58b]
      cases r0 <;> simp [hg t st st0 _ h0])
    rw [occF.occL] at h
    cases hgt : g t st with
    | none => rw [hgt] at h; cases h
    | some x =>
      obtain ⟨r0, st0⟩ := x
      rw [hgt] at h
      cases r0 with
      | true =>
        cases h
        refine ⟨fun _ => ⟨i, by omega, Evl.of ?_⟩, fun h => by cases h⟩
        rw [h65bb0a, g65bb0a]
        simp [hi, idxK_tys hx, hcl _ _ hgt]
      | false =>
        have ih := ocl_b s n g hg l hb m (i + 1) st0 st' r hd' h
        have e0 : IntKind.i64.wrap ((i : Int) + 1) = (i : Int) + 1 := by rw [IntKind.wrap_i64]; omega
        have e1 : ((i + 1 : Nat) : Int) = (i : Int) + 1 := by omega
        rw [e1] at ih
        refine ⟨fun hr => ?_, fun hr => ?_⟩
        · obtain ⟨j, hj, h1⟩ := ih.1 hr
          refine ⟨j, hj, Evl.of ?_⟩
          rw [h65bb0a, g65bb0a]
          simp [hi, idxK_tys hx, hcl _ _ hgt, e0, h1]
        · refine Evl.of ?_
          rw [h65bb0a, g65bb0a]
          simp [hi, idxK_tys hx, hcl _ _ hgt, e0, ih.2 hr]
theorem oci_b (s : St) (n : Int) (g : Ty → Int → Option (Bool × Int)) (hg : Occb s n g) (l : List Ty) (hb : l.length ≤ 1000000) {st st' : Int} {r : Bool} (h : occF.occL g l st = some (r, st')) :
    ev (q57b (tys l) (iv s.fr) (iv st) (sbs s.b) (ints s.tr) (iv n)) = some (0, [iv s.fr, iv st', sbs s.b, ints s.tr, iv n, bv r]) := Evl.of (by
  have h1 := ocl_b s n g hg l hb l 0 st st' r rfl h
  simp only [Int.ofNat_zero, Int.natCast_zero] at h1
  have h2 : ∃ j : Int, (r = decide (0 ≤ j)) ∧ ev (q65b (tys l) (iv s.fr) (iv st) (sbs s.b) (ints s.tr) (iv n)) = some (0, [iv s.fr, iv st', sbs s.b, ints s.tr, iv n, iv j]) := by
    cases r with
    | true =>
      obtain ⟨j, hj, h3⟩ := h1.1 rfl
      refine ⟨j, by simp [hj], Evl.of ?_⟩
      rw [h65b, g65b]
      simp [lenK_tys, h3]
    | false =>
      refine ⟨-1, by decide, Evl.of ?_⟩
      rw [h65b, g65b]
      simp [lenK_tys, h1.2 rfl]
  obtain ⟨j, hj, h3⟩ := h2
  rw [h57b, g57b]
  subst hj
  by_cases hj : 0 ≤ j
  · simp [h3, hj]
  · simp [h3, hj])
theorem occ_b (s : St) (n : Int) : ∀ (f : Nat), Occb s n (occF s.b n f)
  | 0 => fun t st st' r h => by cases h
  | f + 1 => fun t st st' r h => by
    have ih := occ_b s n f
    rw [occF] at h
    cases hh : headF f s.b t with
    | none => rw [hh] at h; cases h
    | some u =>
      rw [hh] at h
      simp only at h
      have h0 := head_b { s with st := st } hh
      have hs := step_b s st
      simp only at h0
      by_cases hm : stepI st ≤ maxS
      · rw [if_pos hm] at h
        by_cases h2 : u.kind = 2
        · rw [if_pos h2] at h
          cases h
          refine Evl.of ?_
          rw [h40b, g40b]
          by_cases hn : u.n = n
          · simp [h0, hs, hm, h2, hn]
          · simp [h0, hs, hm, h2, hn]
        · rw [if_neg h2] at h
          by_cases hkl : u.kids.length ≤ 1000000
          · rw [if_pos hkl] at h
            have h3 := oci_b s n _ ih u.kids hkl h
            refine Evl.of ?_
            rw [h40b, g40b]
            cases r <;> simp [h0, hs, hm, h2, h3]
          · rw [if_neg hkl] at h; cases h
      · rw [if_neg hm] at h
        cases h
        refine Evl.of ?_
        rw [h40b, g40b]
        simp [h0, hs, hm]

def St.step (s : St) : St := { s with st := stepI s.st }
def St.bind (s : St) (n : Int) (t : Ty) : St := { s with b := s.b ++ [(n, t)], tr := s.tr ++ [n] }
/-- A meta and something else. -/
def metaF (f : Nat) (a b : Ty) (s : St) : Option (Bool × St) :=
  if b.kind = 2 ∧ b.n = a.n then some (true, s) else match occF s.b a.n f b s.st with
    | none => none
    | some (true, st) => some (false, { s with st := st })
    | some (false, st) => if s.tr.length ≤ 1000000000 then some (true, ({ s with st := st } : St).bind a.n b) else none
def kidsF (g : Ty → Ty → St → Option (Bool × St)) : List Ty → List Ty → St → Option (Bool × St)
  | x :: l, y :: r, s => match g x y s with
    | none => none
    | some (false, s') => some (false, s')
    | some (true, s') => kidsF g l r s'
  | _, _, s => some (true, s)
def unifF : Nat → Ty → Ty → St → Option (Bool × St)
  | 0, _, _, _ => none
  | f + 1, x, y, s => match headF f s.b x, headF f s.b y with
    | some a, some b => if stepI s.st ≤ maxS then
        if a.kind = 2 ∧ ¬ (b.kind = 2 ∧ b.n > a.n) then metaF f a b s.step
        else if b.kind = 2 then metaF f b a s.step
        else if b.kind = a.kind ∧ b.name = a.name ∧ b.n = a.n then
          if b.kids.length = a.kids.length then (if b.kids.length ≤ 1000000 then kidsF (unifF f) b.kids a.kids s.step else none) else some (false, s.step)
        else some (false, s.step)
      else some (false, s.step)
    | _, _ => none
theorem head_free {b : Bd} : ∀ {f : Nat} {t u : Ty}, headF f b t = some u → u.kind = 2 → bget b u.n = none
  | 0, t, u, h, _ => by cases h
  | f + 1, t, u, h, hk => by
    rw [headF] at h
    by_cases h2 : t.kind = 2
    · rw [if_pos h2] at h
      cases hb : bget b t.n with
      | some v => rw [hb] at h; exact head_free h hk
      | none => rw [hb] at h; cases h; exact hb
    · rw [if_neg h2] at h
      cases h; exact absurd hk h2
/-- What a later state keeps. -/
structure Ext2 (s s' : St) : Prop where
  fr : s'.fr = s.fr
  tr : ∃ l, s'.tr = s.tr ++ l
theorem Ext2.refl (s : St) : Ext2 s s := ⟨rfl, [], by simp⟩
theorem Ext2.trans {s s1 s2 : St} (h : Ext2 s s1) (k : Ext2 s1 s2) : Ext2 s s2 := ⟨k.fr.trans h.fr, by
  obtain ⟨l, hl⟩ := h.tr
  obtain ⟨r, hr⟩ := k.tr
  exact ⟨l ++ r, by rw [hr, hl, List.append_assoc]⟩⟩
theorem meta_ext {f : Nat} {a b : Ty} {s s' : St} {r : Bool} (h : metaF f a b s = some (r, s')) : Ext2 s s' := by
  unfold metaF at h
  split at h
  · cases h; exact Ext2.refl _
  · split at h
    · cases h
    · cases h; exact ⟨rfl, [], by simp⟩
    · split at h
      · cases h; exact ⟨rfl, [a.n], rfl⟩
      · cases h
theorem kids_ext {g : Ty → Ty → St → Option (Bool × St)} (hg : ∀ x y s s' r, g x y s = some (r, s') → Ext2 s s') : ∀ (l m : List Ty) (s s' : St) (r : Bool), kidsF g l m s = some (r, s') → Ext2 s s'
  | [], _, s, s', r, h => by simp [kidsF] at h; rw [← h.2]; exact Ext2.refl _
  | _ :: _, [], s, s', r, h => by simp [kidsF] at h; rw [← h.2]; exact Ext2.refl _
  | x :: l, y :: m, s, s', r, h => by
    rw [kidsF] at h
    cases hx : g x y s with
    | none => rw [hx] at h; cases h
    | some q =>
      obtain ⟨r0, s0⟩ := q
      rw [hx] at h
      cases r0 with
      | true => exact (hg _ _ _ _ _ hx).trans (kids_ext hg l m s0 s' r h)
      | false => cases h; exact hg _ _ _ _ _ hx
theorem unif_ext : ∀ (f : Nat) (x y : Ty) (s s' : St) (r : Bool), unifF f x y s = some (r, s') → Ext2 s s'
  | 0, x, y, s, s', r, h => by cases h
  | f + 1, x, y, s, s', r, h => by
    have hs : Ext2 s s.step := ⟨rfl, [], by simp [St.step]⟩
    rw [unifF] at h
    split at h
    · split at h
      · split at h
        · exact hs.trans (meta_ext h)
        · split at h
          · exact hs.trans (meta_ext h)
          · split at h
            · split at h
              · split at h
                · exact hs.trans (kids_ext (fun x y s s' r h => unif_ext f x y s s' r h) _ _ _ _ _ h)
                · cases h
              · cases h; exact hs
            · cases h; exact hs
      · cases h; exact hs
    · cases h
/-- An array more by one. -/
theorem appK_ints {k : PV → Res} (l : List Int) (n : Int) (h : l.length ≤ 1000000000) : appK Try.prog .fail 55 (.pv (ints l)) (.pv (.rows [[iv n]])) k = k (ints (l ++ [n])) := by
  refine appK_of (fun w => ?_) (ns_ints _)
  rw [app_ok sl_ints (es := ivs l) (es' := [[iv n]]) rfl rfl (by simp) (by simp) (by simp [ivs]; omega) (by simp [ivs]; omega)]
  rw [ints, ivs, ivs, List.map_append]; exact Iff.rfl
theorem appK_nil {k : PV → Res} (n : Int) : appK Try.prog .fail 55 (.pv (.lit (.slice none 0 0))) (.pv (.rows [[iv n]])) k = k (ints [n]) := by
  refine appK_of (fun w => ?_) (ns_ints _)
  rw [app_ok sl_ints (es := []) (es' := [[iv n]]) rfl rfl (by simp) (by simp) (by simp) (by simp)]
  exact Iff.rfl
theorem slcK_ints {k : AV → Res} {l : List Int} {i : Nat} (h : i ≤ l.length) : slcK Try.prog .fail 55 (.pv (ints l)) none (some (.pv (.lit (.int .i64 (i : Int))))) k = k (.pv (ints (l.take i))) :=
  slcK_of (slc_one (by have := slc_to sl_ints (es := ivs l) (m := i) (by simpa [ivs] using h); rwa [ivs, ← List.map_take] at this)) (.pv _ (ns_ints _))
/-! Without a trail. -/
def outA (s : St) (r : Bool) : Nat × List PV := if s.tr = [] then (0, [.lit (.slice none 0 0), iv s.fr, iv s.st, sbs s.b, bv r]) else (1, [iv s.fr, iv s.st, sbs s.b, ints s.tr, bv r])
theorem bind_a (s : St) (n : Int) (t : Ty) (ht : s.tr = []) (hb : bget s.b n = none) : ev (q41a (iv n) (iv t.kind) (sv t.name) (iv t.n) (tys t.kids) (iv s.fr) (iv s.st) (sbs s.b)) = some (0, [iv s.fr, iv s.st, sbs (s.bind n t).b, ints (s.bind n t).tr]) := Evl.of (by
  rw [h41a, g41a]
  simp [updK_new s.b n t hb, appK_nil, St.bind, ht])
def UniA (g : Ty → Ty → St → Option (Bool × St)) : Prop := ∀ (x y : Ty) (s s' : St) (r : Bool), s.tr = [] → g x y s = some (r, s') →
  ev (q26a (iv x.kind) (sv x.name) (iv x.n) (tys x.kids) (iv y.kind) (sv y.name) (iv y.n) (tys y.kids) (iv s.fr) (iv s.st) (sbs s.b)) = some (outA s' r)
def UniB (g : Ty → Ty → St → Option (Bool × St)) : Prop := ∀ (x y : Ty) (s s' : St) (r : Bool), g x y s = some (r, s') →
  ev (q26b (iv x.kind) (sv x.name) (iv x.n) (tys x.kids) (iv y.kind) (sv y.name) (iv y.n) (tys y.kids) (iv s.fr) (iv s.st) (sbs s.b) (ints s.tr)) = some (if s'.tr.length = s.tr.length then 0 else 1, [iv s'.fr, iv s'.st, sbs s'.b, ints s'.tr, bv r])
theorem bind_b (s : St) (n : Int) (t : Ty) (ht : s.tr.length ≤ 1000000000) (hb : bget s.b n = none) : ev (q41b (iv n) (iv t.kind) (sv t.name) (iv t.n) (tys t.kids) (iv s.fr) (iv s.st) (sbs s.b) (ints s.tr)) = some (0, [iv s.fr, iv s.st, sbs (s.bind n t).b, ints (s.bind n t).tr]) := Evl.of (by
  have h1 := fun k => slcK_ints (k := k) (l := s.tr) (i := s.tr.length) (Nat.le_refl _)
  rw [List.take_length] at h1
  rw [h41b, g41b]
  simp [updK_new s.b n t hb, lenK_ints, h1, appK_ints s.tr n ht, St.bind])

def ExtG (g : Ty → Ty → St → Option (Bool × St)) : Prop := ∀ x y s s' r, g x y s = some (r, s') → Ext2 s s'
theorem drop_cons {α : Type} {l m : List α} {x : α} {i : Nat} (h : l.drop i = x :: m) : l[i]? = some x ∧ (i : Int) < l.length ∧ l.drop (i + 1) = m := by
  have h1 : l[i]? = some x := by have := congrArg List.head? h; rwa [List.head?_drop] at this
  have h2 := (List.getElem?_eq_some_iff.1 h1).1
  exact ⟨h1, by omega, by rw [← List.drop_drop, h]; rfl⟩
theorem drop_nil {α : Type} {l : List α} {i : Nat} (h : l.drop i = []) : ¬ (i : Int) < l.length := by
  have := congrArg List.length h; simp at this; omega
section
variable {g : Ty → Ty → St → Option (Bool × St)} (hA : UniA g) (hB : UniB g) (hX : ExtG g) {l m : List Ty} (hl : l.length = m.length) (hb : l.length ≤ 1000000)
include hB hX hl hb
/-- The loop, behind a first change. -/
theorem kid_ab : ∀ (ls ms : List Ty) (i : Nat) (s s' : St) (r : Bool), s.tr ≠ [] → l.drop i = ls → m.drop i = ms → kidsF g ls ms s = some (r, s') →
    ev (q42ab0b (iv (i : Int)) (iv l.length) (tys l) (tys m) (iv s.fr) (iv s.st) (sbs s.b) (ints s.tr)) = some (if r then (3, [iv s'.fr, iv s'.st, sbs s'.b, ints s'.tr]) else (1, [iv s'.fr, iv s'.st, sbs s'.b, ints s'.tr, bv false]))
  | [], ms, i, s, s', r, ht, h1, h2, h => by
    have hi := drop_nil h1
    simp [kidsF] at h
    obtain ⟨rfl, rfl⟩ := h
    refine Evl.of ?_
    rw [h42ab0b, g42ab0b]
    simp [hi]
  | x :: ls, [], i, s, s', r, ht, h1, h2, h => by
    have := (drop_cons h1).2.1
    have := drop_nil h2
    omega
  | x :: ls, y :: ms, i, s, s', r, ht, h1, h2, h => by
    obtain ⟨a1, a2, a3⟩ := drop_cons h1
    obtain ⟨b1, b2, b3⟩ := drop_cons h2
    have e0 : IntKind.i64.wrap ((i : Int) + 1) = (i : Int) + 1 := by rw [IntKind.wrap_i64]; omega
    have e1 : ((i + 1 : Nat) : Int) = (i : Int) + 1 := by omega
    rw [kidsF] at h
    cases hx : g x y s with
    | none => rw [hx] at h; cases h
    | some q =>
      obtain ⟨r0, s0⟩ := q
      rw [hx] at h
      have hc := hB x y s s0 r0 hx
      have hext := hX x y s s0 r0 hx
      obtain ⟨tl, htl⟩ := hext.tr
      have ht0 : s0.tr ≠ [] := by rw [htl]; simp [ht]
      cases r0 with
      | true =>
        have ih := kid_ab ls ms (i + 1) s0 s' r ht0 a3 b3 h
        rw [e1] at ih
        refine Evl.of ?_
        rw [h42ab0b, g42ab0b]
        by_cases hch : s0.tr.length = s.tr.length
        · have hsame : s0.tr = s.tr := by
            rw [htl] at hch; simp at hch; rw [htl, hch]; simp
          rw [if_pos hch] at hc
          rw [hsame] at hc ih
          rw [hext.fr] at hc ih
          simp [a2, idxK_tys a1, idxK_tys b1, hc, e0, ih]
        · rw [if_neg hch] at hc
          rw [hext.fr] at hc ih
          simp [a2, idxK_tys a1, idxK_tys b1, hc, e0, ih]
      | false =>
        obtain ⟨rfl, rfl⟩ : false = r ∧ s0 = s' := by simpa using h
        refine Evl.of ?_
        rw [h42ab0b, g42ab0b]
        by_cases hch : s0.tr.length = s.tr.length
        · have hsame : s0.tr = s.tr := by
            rw [htl] at hch; simp at hch; rw [htl, hch]; simp
          rw [if_pos hch] at hc
          rw [hsame] at hc ⊢
          rw [hext.fr] at hc ⊢
          simp [a2, idxK_tys a1, idxK_tys b1, hc]
        · rw [if_neg hch] at hc
          rw [hext.fr] at hc ⊢
          simp [a2, idxK_tys a1, idxK_tys b1, hc]
theorem kid_bb : ∀ (ls ms : List Ty) (i : Nat) (s s' : St) (r : Bool), l.drop i = ls → m.drop i = ms → kidsF g ls ms s = some (r, s') →
    ev (q42bb0b (iv (i : Int)) (iv l.length) (tys l) (tys m) (iv s.fr) (iv s.st) (sbs s.b) (ints s.tr)) = some (if r then (3, [iv s'.fr, iv s'.st, sbs s'.b, ints s'.tr]) else (1, [iv s'.fr, iv s'.st, sbs s'.b, ints s'.tr, bv false]))
  | [], ms, i, s, s', r, h1, h2, h => by
    have hi := drop_nil h1
    simp [kidsF] at h
    obtain ⟨rfl, rfl⟩ := h
    refine Evl.of ?_
    rw [h42bb0b, g42bb0b]
    simp [hi]
  | x :: ls, [], i, s, s', r, h1, h2, h => by
    have := (drop_cons h1).2.1
    have := drop_nil h2
    omega
  | x :: ls, y :: ms, i, s, s', r, h1, h2, h => by
    obtain ⟨a1, a2, a3⟩ := drop_cons h1
    obtain ⟨b1, b2, b3⟩ := drop_cons h2
    have e0 : IntKind.i64.wrap ((i : Int) + 1) = (i : Int) + 1 := by rw [IntKind.wrap_i64]; omega
    have e1 : ((i + 1 : Nat) : Int) = (i : Int) + 1 := by omega
    rw [kidsF] at h
    cases hx : g x y s with
    | none => rw [hx] at h; cases h
    | some q =>
      obtain ⟨r0, s0⟩ := q
      rw [hx] at h
      have hc := hB x y s s0 r0 hx
      have hext := hX x y s s0 r0 hx
      obtain ⟨tl, htl⟩ := hext.tr
      cases r0 with
      | true =>
        have ih := kid_bb ls ms (i + 1) s0 s' r a3 b3 h
        rw [e1] at ih
        refine Evl.of ?_
        rw [h42bb0b, g42bb0b]
        by_cases hch : s0.tr.length = s.tr.length
        · have hsame : s0.tr = s.tr := by
            rw [htl] at hch; simp at hch; rw [htl, hch]; simp
          rw [if_pos hch] at hc
          rw [hsame] at hc ih
          rw [hext.fr] at hc ih
          simp [a2, idxK_tys a1, idxK_tys b1, hc, e0, ih]
        · rw [if_neg hch] at hc
          rw [hext.fr] at hc ih
          simp [a2, idxK_tys a1, idxK_tys b1, hc, e0, ih]
      | false =>
        obtain ⟨rfl, rfl⟩ : false = r ∧ s0 = s' := by simpa using h
        refine Evl.of ?_
        rw [h42bb0b, g42bb0b]
        by_cases hch : s0.tr.length = s.tr.length
        · have hsame : s0.tr = s.tr := by
            rw [htl] at hch; simp at hch; rw [htl, hch]; simp
          rw [if_pos hch] at hc
          rw [hsame] at hc ⊢
          rw [hext.fr] at hc ⊢
          simp [a2, idxK_tys a1, idxK_tys b1, hc]
        · rw [if_neg hch] at hc
          rw [hext.fr] at hc ⊢
          simp [a2, idxK_tys a1, idxK_tys b1, hc]
theorem kid_ba : ∀ (ls ms : List Ty) (i : Nat) (s s' : St) (r : Bool), l.drop i = ls → m.drop i = ms → kidsF g ls ms s = some (r, s') →
    ev (q42bb0a (iv (i : Int)) (iv l.length) (tys l) (tys m) (iv s.fr) (iv s.st) (sbs s.b) (ints s.tr)) = some (if r then (if s'.tr.length = s.tr.length then 2 else 3, [iv s'.fr, iv s'.st, sbs s'.b, ints s'.tr]) else (if s'.tr.length = s.tr.length then 0 else 1, [iv s'.fr, iv s'.st, sbs s'.b, ints s'.tr, bv false]))
  | [], ms, i, s, s', r, h1, h2, h => by
    have hi := drop_nil h1
    simp [kidsF] at h
    obtain ⟨rfl, rfl⟩ := h
    refine Evl.of ?_
    rw [h42bb0a, g42bb0a]
    simp [hi]
  | x :: ls, [], i, s, s', r, h1, h2, h => by
    have := (drop_cons h1).2.1
    have := drop_nil h2
    omega
  | x :: ls, y :: ms, i, s, s', r, h1, h2, h => by
    obtain ⟨a1, a2, a3⟩ := drop_cons h1
    obtain ⟨b1, b2, b3⟩ := drop_cons h2
    have e0 : IntKind.i64.wrap ((i : Int) + 1) = (i : Int) + 1 := by rw [IntKind.wrap_i64]; omega
    have e1 : ((i + 1 : Nat) : Int) = (i : Int) + 1 := by omega
    rw [kidsF] at h
    cases hx : g x y s with
    | none => rw [hx] at h; cases h
    | some q =>
      obtain ⟨r0, s0⟩ := q
      rw [hx] at h
      have hc := hB x y s s0 r0 hx
      have hext := hX x y s s0 r0 hx
      obtain ⟨tl, htl⟩ := hext.tr
      cases r0 with
      | true =>
        have hext' := kids_ext hX ls ms s0 s' r h
        obtain ⟨tl', htl'⟩ := hext'.tr
        by_cases hch : s0.tr.length = s.tr.length
        · have hsame : s0.tr = s.tr := by
            rw [htl] at hch; simp at hch; rw [htl, hch]; simp
          have ih := kid_ba ls ms (i + 1) s0 s' r a3 b3 h
          rw [e1] at ih
          rw [if_pos hch] at hc
          rw [hsame] at hc ih
          rw [hext.fr] at hc ih
          refine Evl.of ?_
          rw [h42bb0a, g42bb0a]
          simp [a2, idxK_tys a1, idxK_tys b1, hc, e0, ih]
        · have ih := kid_bb hB hX hl hb ls ms (i + 1) s0 s' r a3 b3 h
          rw [e1] at ih
          rw [if_neg hch] at hc
          have hlen : ¬ s'.tr.length = s.tr.length := by
            rw [htl'] ; rw [List.length_append]
            have : s.tr.length < s0.tr.length := by rw [htl] at hch ⊢; simp at hch ⊢; exact List.length_pos_iff.2 hch
            omega
          rw [hext.fr] at hc ih
          refine Evl.of ?_
          rw [h42bb0a, g42bb0a]
          simp [a2, idxK_tys a1, idxK_tys b1, hc, e0, ih, hlen]
      | false =>
        obtain ⟨rfl, rfl⟩ : false = r ∧ s0 = s' := by simpa using h
        refine Evl.of ?_
        rw [h42bb0a, g42bb0a]
        by_cases hch : s0.tr.length = s.tr.length
        · have hsame : s0.tr = s.tr := by
            rw [htl] at hch; simp at hch; rw [htl, hch]; simp
          rw [if_pos hch] at hc
          rw [hsame] at hc ⊢
          rw [hext.fr] at hc ⊢
          simp [a2, idxK_tys a1, idxK_tys b1, hc]
        · rw [if_neg hch] at hc
          rw [hext.fr] at hc ⊢
          simp [a2, idxK_tys a1, idxK_tys b1, hc, hch]
/-- EqualFunc, with a trail. -/
theorem eqf_b {s s' : St} {r : Bool} (h : kidsF g l m s = some (r, s')) : ev (q42b (tys l) (tys m) (iv s.fr) (iv s.st) (sbs s.b) (ints s.tr)) = some (if s'.tr.length = s.tr.length then 0 else 1, [iv s'.fr, iv s'.st, sbs s'.b, ints s'.tr, bv r]) := Evl.of (by
  have h1 := kid_ba hB hX hl hb l m 0 s s' r rfl rfl h
  have hext := kids_ext hX l m s s' r h
  obtain ⟨tl, htl⟩ := hext.tr
  have hl' : (l.length : Int) = m.length := by omega
  simp only [Int.ofNat_zero, Int.natCast_zero] at h1
  rw [h42b, g42b]
  by_cases hch : s'.tr.length = s.tr.length
  · have hsame : s'.tr = s.tr := by
      rw [htl] at hch; simp at hch; rw [htl, hch]; simp
    rw [hsame] at h1 ⊢
    rw [hext.fr] at h1 ⊢
    cases r <;> simp [lenK_tys, hl', h1] at h1 ⊢ <;> simp [h1]
  · rw [hext.fr] at h1 ⊢
    cases r <;> simp [lenK_tys, hl', hch, h1] at h1 ⊢ <;> simp [h1])
include hA
theorem kid_aa : ∀ (ls ms : List Ty) (i : Nat) (s s' : St) (r : Bool), s.tr = [] → l.drop i = ls → m.drop i = ms → kidsF g ls ms s = some (r, s') →
    ev (q42ab0a (iv (i : Int)) (iv l.length) (tys l) (tys m) (iv s.fr) (iv s.st) (sbs s.b)) = some (if r then (if s'.tr = [] then (2, [.lit (.slice none 0 0), iv s'.fr, iv s'.st, sbs s'.b]) else (3, [iv s'.fr, iv s'.st, sbs s'.b, ints s'.tr])) else (if s'.tr = [] then (0, [.lit (.slice none 0 0), iv s'.fr, iv s'.st, sbs s'.b, bv false]) else (1, [iv s'.fr, iv s'.st, sbs s'.b, ints s'.tr, bv false])))
  | [], ms, i, s, s', r, ht, h1, h2, h => by
    have hi := drop_nil h1
    simp [kidsF] at h
    obtain ⟨rfl, rfl⟩ := h
    refine Evl.of ?_
    rw [h42ab0a, g42ab0a]
    simp [hi, ht]
  | x :: ls, [], i, s, s', r, ht, h1, h2, h => by
    have := (drop_cons h1).2.1
    have := drop_nil h2
    omega
  | x :: ls, y :: ms, i, s, s', r, ht, h1, h2, h => by
    obtain ⟨a1, a2, a3⟩ := drop_cons h1
    obtain ⟨b1, b2, b3⟩ := drop_cons h2
    have e0 : IntKind.i64.wrap ((i : Int) + 1) = (i : Int) + 1 := by rw [IntKind.wrap_i64]; omega
    have e1 : ((i + 1 : Nat) : Int) = (i : Int) + 1 := by omega
    rw [kidsF] at h
    cases hx : g x y s with
    | none => rw [hx] at h; cases h
    | some q =>
      obtain ⟨r0, s0⟩ := q
      rw [hx] at h
      have hc := hA x y s s0 r0 ht hx
      unfold outA at hc
      have hext := hX x y s s0 r0 hx
      cases r0 with
      | true =>
        by_cases ht0 : s0.tr = []
        · have ih := kid_aa ls ms (i + 1) s0 s' r ht0 a3 b3 h
          rw [e1] at ih
          rw [if_pos ht0] at hc
          rw [hext.fr] at hc ih
          refine Evl.of ?_
          rw [h42ab0a, g42ab0a]
          simp [a2, idxK_tys a1, idxK_tys b1, hc, e0, ih]
        · have ih := kid_ab hB hX hl hb ls ms (i + 1) s0 s' r ht0 a3 b3 h
          rw [e1] at ih
          rw [if_neg ht0] at hc
          obtain ⟨tl', htl'⟩ := (kids_ext hX ls ms s0 s' r h).tr
          have ht' : s'.tr ≠ [] := by rw [htl']; simp [ht0]
          rw [hext.fr] at hc ih
          refine Evl.of ?_
          rw [h42ab0a, g42ab0a]
          simp [a2, idxK_tys a1, idxK_tys b1, hc, e0, ih, ht']
      | false =>
        obtain ⟨rfl, rfl⟩ : false = r ∧ s0 = s' := by simpa using h
        refine Evl.of ?_
        rw [h42ab0a, g42ab0a]
        by_cases ht0 : s0.tr = []
        · rw [if_pos ht0] at hc
          rw [hext.fr] at hc ⊢
          simp [a2, idxK_tys a1, idxK_tys b1, hc, ht0]
        · rw [if_neg ht0] at hc
          rw [hext.fr] at hc ⊢
          simp [a2, idxK_tys a1, idxK_tys b1, hc, ht0]
theorem eqf_a {s s' : St} {r : Bool} (ht : s.tr = []) (h : kidsF g l m s = some (r, s')) : ev (q42a (tys l) (tys m) (iv s.fr) (iv s.st) (sbs s.b)) = some (outA s' r) := Evl.of (by
  have h1 := kid_aa hA hB hX hl hb l m 0 s s' r ht rfl rfl h
  have hext := kids_ext hX l m s s' r h
  have hl' : (l.length : Int) = m.length := by omega
  simp only [Int.ofNat_zero, Int.natCast_zero] at h1
  unfold outA
  rw [h42a, g42a]
  rw [hext.fr] at h1 ⊢
  by_cases ht' : s'.tr = []
  · cases r <;> simp [lenK_tys, hl', ht', h1] at h1 ⊢ <;> simp [h1]
  · cases r <;> simp [lenK_tys, hl', ht', h1] at h1 ⊢ <;> simp [h1])
end

theorem meta_out {f : Nat} {a b : Ty} {s s' : St} {r : Bool} (h : metaF f a b s = some (r, s')) :
    (b.kind = 2 ∧ b.n = a.n ∧ r = true ∧ s' = s) ∨ (¬ (b.kind = 2 ∧ b.n = a.n) ∧ ∃ st, occF s.b a.n f b s.st = some (true, st) ∧ r = false ∧ s' = { s with st := st }) ∨
    (¬ (b.kind = 2 ∧ b.n = a.n) ∧ ∃ st, occF s.b a.n f b s.st = some (false, st) ∧ s.tr.length ≤ 1000000000 ∧ r = true ∧ s' = ({ s with st := st } : St).bind a.n b) := by
  unfold metaF at h
  split at h
  · rename_i hk; cases h; exact .inl ⟨hk.1, hk.2, rfl, rfl⟩
  · rename_i hk
    split at h
    · cases h
    · rename_i st ho; cases h; exact .inr (.inl ⟨hk, st, ho, rfl, rfl⟩)
    · rename_i st ho
      split at h
      · rename_i hl; cases h; exact .inr (.inr ⟨hk, st, ho, hl, rfl, rfl⟩)
      · cases h
theorem eqn_b {s : St} {l m : List Ty} (h : ¬ l.length = m.length) : ev (q42b (tys l) (tys m) (iv s.fr) (iv s.st) (sbs s.b) (ints s.tr)) = some (0, [iv s.fr, iv s.st, sbs s.b, ints s.tr, bv false]) := Evl.of (by
  have h' : ¬ (l.length : Int) = m.length := by omega
  rw [h42b, g42b]
  simp [lenK_tys, h'])
theorem eqn_a {s : St} {l m : List Ty} (h : ¬ l.length = m.length) (ht : s.tr = []) : ev (q42a (tys l) (tys m) (iv s.fr) (iv s.st) (sbs s.b)) = some (outA s false) := Evl.of (by
  have h' : ¬ (l.length : Int) = m.length := by omega
  rw [h42a, g42a]
  simp [lenK_tys, h', outA, ht])
theorem uni_b : ∀ (f : Nat), UniB (unifF f)
  | 0 => by intro x y s s' r; intros; rename_i h; cases h
  | f + 1 => by
    have ih := uni_b f
    intro x y s s' r h
    rw [unifF] at h
    cases ha : headF f s.b x with
    | none => rw [ha] at h; cases h
    | some a =>
      cases hb : headF f s.b y with
      | none => rw [ha, hb] at h; cases h
      | some b =>
        rw [ha, hb] at h
        simp only at h
        have h1 := head_b s ha
        have h2 := head_b s hb
        have hs := step_b s s.st
        by_cases hm : stepI s.st ≤ maxS
        · rw [if_pos hm] at h
          by_cases hA : a.kind = 2 ∧ ¬ (b.kind = 2 ∧ b.n > a.n)
          · rw [if_pos hA] at h
            have hfr : bget s.b a.n = none := head_free ha hA.1
            obtain ⟨ha2, hno⟩ := hA
            refine Evl.of ?_
            rw [h26b, g26b]
            rcases meta_out h with ⟨hk1, hk2, rfl, rfl⟩ | ⟨hk, st, ho, rfl, rfl⟩ | ⟨hk, st, ho, hl, rfl, rfl⟩
            · have hng : ¬ b.n > a.n := fun e => hno ⟨hk1, e⟩
              simp [St.step, St.bind, h1, h2, hs, hm, ha2, hk1, hk2, hng]
            · have hoc := occ_b s a.n f b _ _ _ ho
              simp only [St.step] at hoc
              by_cases hk1 : b.kind = 2
              · have hng : ¬ b.n > a.n := fun e => hno ⟨hk1, e⟩
                have hne : ¬ b.n = a.n := fun e => hk ⟨hk1, e⟩
                have hne' : ¬ a.n = b.n := fun e => hne e.symm
                simp [St.step, St.bind, h1, h2, hs, hm, ha2, hk1, hng, hne, hne', hoc] at hoc ⊢
                simp [hoc]
              · simp [St.step, St.bind, h1, h2, hs, hm, ha2, hk1, hoc]
            · have hoc := occ_b s a.n f b _ _ _ ho
              have hbd := bind_b { s.step with st := st } a.n b hl hfr
              simp only [St.step, St.bind] at hoc hbd
              by_cases hk1 : b.kind = 2
              · have hng : ¬ b.n > a.n := fun e => hno ⟨hk1, e⟩
                have hne : ¬ b.n = a.n := fun e => hk ⟨hk1, e⟩
                have hne' : ¬ a.n = b.n := fun e => hne e.symm
                simp [St.step, St.bind, h1, h2, hs, hm, ha2, hk1, hng, hne, hne'] at hoc hbd ⊢
                simp [hoc, hbd]
              · simp [St.step, St.bind, h1, h2, hs, hm, ha2, hk1, hoc, hbd]
          · rw [if_neg hA] at h
            by_cases hb2 : b.kind = 2
            · rw [if_pos hb2] at h
              have hfr : bget s.b b.n = none := head_free hb hb2
              refine Evl.of ?_
              rw [h26b, g26b]
              by_cases ha2 : a.kind = 2
              · have hgt : b.n > a.n := by
                  by_cases hgt : b.n > a.n
                  · exact hgt
                  · exact absurd ⟨ha2, fun e => hgt e.2⟩ hA
                have hne : ¬ b.n = a.n := by omega
                have hne' : ¬ a.n = b.n := by omega
                rcases meta_out h with ⟨hk1, hk2, rfl, rfl⟩ | ⟨hk, st, ho, rfl, rfl⟩ | ⟨hk, st, ho, hl, rfl, rfl⟩
                · exact absurd hk2 hne'
                · have hoc := occ_b s b.n f a _ _ _ ho
                  simp only [St.step] at hoc
                  simp [St.step, St.bind, h1, h2, hs, hm, ha2, hb2, hgt, hne, hne'] at hoc ⊢
                  simp [hoc]
                · have hoc := occ_b s b.n f a _ _ _ ho
                  have hbd := bind_b { s.step with st := st } b.n a hl hfr
                  simp only [St.step, St.bind] at hoc hbd
                  simp [St.step, St.bind, h1, h2, hs, hm, ha2, hb2, hgt, hne, hne'] at hoc hbd ⊢
                  simp [hoc, hbd]
              · rcases meta_out h with ⟨hk1, hk2, rfl, rfl⟩ | ⟨hk, st, ho, rfl, rfl⟩ | ⟨hk, st, ho, hl, rfl, rfl⟩
                · exact absurd hk1 ha2
                · have hoc := occ_b s b.n f a _ _ _ ho
                  simp only [St.step] at hoc
                  simp [St.step, St.bind, h1, h2, hs, hm, ha2, hb2, hoc]
                · have hoc := occ_b s b.n f a _ _ _ ho
                  have hbd := bind_b { s.step with st := st } b.n a hl hfr
                  simp only [St.step, St.bind] at hoc hbd
                  simp [St.step, St.bind, h1, h2, hs, hm, ha2, hb2, hoc, hbd]
            · rw [if_neg hb2] at h
              have ha2 : ¬ a.kind = 2 := fun e => hA ⟨e, fun q => hb2 q.1⟩
              refine Evl.of ?_
              rw [h26b, g26b]
              by_cases hc1 : b.kind = a.kind
              · by_cases hc2 : b.name = a.name
                · by_cases hc3 : b.n = a.n
                  · rw [if_pos ⟨hc1, hc2, hc3⟩] at h
                    by_cases hlen : b.kids.length = a.kids.length
                    · rw [if_pos hlen] at h
                      by_cases hk : b.kids.length ≤ 1000000
                      · rw [if_pos hk] at h
                        have hq := eqf_b (s := s.step) ih (unif_ext f) hlen hk h
                        obtain ⟨tl, htl⟩ := (kids_ext (unif_ext f) _ _ _ _ _ h).tr
                        have hfr := (kids_ext (unif_ext f) _ _ _ _ _ h).fr
                        simp only [St.step] at htl hfr
                        by_cases ht' : s'.tr.length = s.tr.length
                        · have hsame : s'.tr = s.tr := by
                            rw [htl] at ht'; simp at ht'; rw [htl, ht']; simp
                          rw [if_pos (show s'.tr.length = s.step.tr.length from ht')] at hq
                          simp only [St.step] at hq
                          rw [hsame, hfr] at hq
                          cases r <;> simp [h1, h2, hs, hm, ha2, hb2, hc1, hc2, hc3, hsame, hfr] at hq ⊢ <;> simp [hq]
                        · rw [if_neg (show ¬ s'.tr.length = s.step.tr.length from ht')] at hq
                          simp only [St.step] at hq
                          rw [hfr] at hq
                          cases r <;> simp [h1, h2, hs, hm, ha2, hb2, hc1, hc2, hc3, ht', hfr] at hq ⊢ <;> simp [hq]
                      · rw [if_neg hk] at h; cases h
                    · rw [if_neg hlen] at h
                      cases h
                      have hq := eqn_b (s := s.step) (l := b.kids) (m := a.kids) hlen
                      simp only [St.step] at hq
                      simp [St.step, St.bind, h1, h2, hs, hm, ha2, hb2, hc1, hc2, hc3] at hq ⊢
                      simp [hq]
                  · rw [if_neg (fun e => hc3 e.2.2)] at h
                    cases h
                    simp [St.step, St.bind, h1, h2, hs, hm, ha2, hb2, hc1, hc2, hc3]
                · rw [if_neg (fun e => hc2 e.2.1)] at h
                  cases h
                  simp [St.step, St.bind, h1, h2, hs, hm, ha2, hb2, hc1, hc2]
              · rw [if_neg (fun e => hc1 e.1)] at h
                cases h
                simp [St.step, St.bind, h1, h2, hs, hm, ha2, hb2, hc1]
        · rw [if_neg hm] at h
          cases h
          refine Evl.of ?_
          rw [h26b, g26b]
          simp [St.step, St.bind, h1, h2, hs, hm]
theorem uni_a : ∀ (f : Nat), UniA (unifF f)
  | 0 => by intro x y s s' r; intros; rename_i h; cases h
  | f + 1 => by
    have ih := uni_a f
    intro x y s s' r ht h
    rw [unifF] at h
    cases ha : headF f s.b x with
    | none => rw [ha] at h; cases h
    | some a =>
      cases hb : headF f s.b y with
      | none => rw [ha, hb] at h; cases h
      | some b =>
        rw [ha, hb] at h
        simp only at h
        have h1 := head_a s ha
        have h2 := head_a s hb
        have hs := step_a s s.st
        by_cases hm : stepI s.st ≤ maxS
        · rw [if_pos hm] at h
          by_cases hA : a.kind = 2 ∧ ¬ (b.kind = 2 ∧ b.n > a.n)
          · rw [if_pos hA] at h
            have hfr : bget s.b a.n = none := head_free ha hA.1
            obtain ⟨ha2, hno⟩ := hA
            refine Evl.of ?_
            rw [h26a, g26a]
            rcases meta_out h with ⟨hk1, hk2, rfl, rfl⟩ | ⟨hk, st, ho, rfl, rfl⟩ | ⟨hk, st, ho, hl, rfl, rfl⟩
            · have hng : ¬ b.n > a.n := fun e => hno ⟨hk1, e⟩
              simp [outA, ht, St.step, St.bind, h1, h2, hs, hm, ha2, hk1, hk2, hng]
            · have hoc := occ_a s a.n f b _ _ _ ho
              simp only [St.step] at hoc
              by_cases hk1 : b.kind = 2
              · have hng : ¬ b.n > a.n := fun e => hno ⟨hk1, e⟩
                have hne : ¬ b.n = a.n := fun e => hk ⟨hk1, e⟩
                have hne' : ¬ a.n = b.n := fun e => hne e.symm
                simp [outA, ht, St.step, St.bind, h1, h2, hs, hm, ha2, hk1, hng, hne, hne', hoc] at hoc ⊢
                simp [hoc]
              · simp [outA, ht, St.step, St.bind, h1, h2, hs, hm, ha2, hk1, hoc]
            · have hoc := occ_a s a.n f b _ _ _ ho
              have hbd := bind_a { s.step with st := st } a.n b ht hfr
              simp only [St.step, St.bind] at hoc hbd
              by_cases hk1 : b.kind = 2
              · have hng : ¬ b.n > a.n := fun e => hno ⟨hk1, e⟩
                have hne : ¬ b.n = a.n := fun e => hk ⟨hk1, e⟩
                have hne' : ¬ a.n = b.n := fun e => hne e.symm
                simp [outA, ht, St.step, St.bind, h1, h2, hs, hm, ha2, hk1, hng, hne, hne'] at hoc hbd ⊢
                simp [hoc, hbd]
              · simp [outA, ht, St.step, St.bind, h1, h2, hs, hm, ha2, hk1, hoc, hbd]
          · rw [if_neg hA] at h
            by_cases hb2 : b.kind = 2
            · rw [if_pos hb2] at h
              have hfr : bget s.b b.n = none := head_free hb hb2
              refine Evl.of ?_
              rw [h26a, g26a]
              by_cases ha2 : a.kind = 2
              · have hgt : b.n > a.n := by
                  by_cases hgt : b.n > a.n
                  · exact hgt
                  · exact absurd ⟨ha2, fun e => hgt e.2⟩ hA
                have hne : ¬ b.n = a.n := by omega
                have hne' : ¬ a.n = b.n := by omega
                rcases meta_out h with ⟨hk1, hk2, rfl, rfl⟩ | ⟨hk, st, ho, rfl, rfl⟩ | ⟨hk, st, ho, hl, rfl, rfl⟩
                · exact absurd hk2 hne'
                · have hoc := occ_a s b.n f a _ _ _ ho
                  simp only [St.step] at hoc
                  simp [outA, ht, St.step, St.bind, h1, h2, hs, hm, ha2, hb2, hgt, hne, hne'] at hoc ⊢
                  simp [hoc]
                · have hoc := occ_a s b.n f a _ _ _ ho
                  have hbd := bind_a { s.step with st := st } b.n a ht hfr
                  simp only [St.step, St.bind] at hoc hbd
                  simp [outA, ht, St.step, St.bind, h1, h2, hs, hm, ha2, hb2, hgt, hne, hne'] at hoc hbd ⊢
                  simp [hoc, hbd]
              · rcases meta_out h with ⟨hk1, hk2, rfl, rfl⟩ | ⟨hk, st, ho, rfl, rfl⟩ | ⟨hk, st, ho, hl, rfl, rfl⟩
                · exact absurd hk1 ha2
                · have hoc := occ_a s b.n f a _ _ _ ho
                  simp only [St.step] at hoc
                  simp [outA, ht, St.step, St.bind, h1, h2, hs, hm, ha2, hb2, hoc]
                · have hoc := occ_a s b.n f a _ _ _ ho
                  have hbd := bind_a { s.step with st := st } b.n a ht hfr
                  simp only [St.step, St.bind] at hoc hbd
                  simp [outA, ht, St.step, St.bind, h1, h2, hs, hm, ha2, hb2, hoc, hbd]
            · rw [if_neg hb2] at h
              have ha2 : ¬ a.kind = 2 := fun e => hA ⟨e, fun q => hb2 q.1⟩
              refine Evl.of ?_
              rw [h26a, g26a]
              by_cases hc1 : b.kind = a.kind
              · by_cases hc2 : b.name = a.name
                · by_cases hc3 : b.n = a.n
                  · rw [if_pos ⟨hc1, hc2, hc3⟩] at h
                    by_cases hlen : b.kids.length = a.kids.length
                    · rw [if_pos hlen] at h
                      by_cases hk : b.kids.length ≤ 1000000
                      · rw [if_pos hk] at h
                        have hq := eqf_a (s := s.step) ih (uni_b f) (unif_ext f) hlen hk ht h
                        have hfr := (kids_ext (unif_ext f) _ _ _ _ _ h).fr
                        simp only [St.step] at hfr
                        unfold outA at hq ⊢
                        simp only [St.step] at hq
                        rw [hfr] at hq ⊢
                        by_cases ht' : s'.tr = []
                        · rw [if_pos ht'] at hq ⊢
                          cases r <;> simp [h1, h2, hs, hm, ha2, hb2, hc1, hc2, hc3] at hq ⊢ <;> simp [hq]
                        · rw [if_neg ht'] at hq ⊢
                          cases r <;> simp [h1, h2, hs, hm, ha2, hb2, hc1, hc2, hc3] at hq ⊢ <;> simp [hq]
                      · rw [if_neg hk] at h; cases h
                    · rw [if_neg hlen] at h
                      cases h
                      have hq := eqn_a (s := s.step) (l := b.kids) (m := a.kids) hlen ht
                      simp only [St.step] at hq
                      simp [outA, ht, St.step, St.bind, h1, h2, hs, hm, ha2, hb2, hc1, hc2, hc3] at hq ⊢
                      simp [hq]
                  · rw [if_neg (fun e => hc3 e.2.2)] at h
                    cases h
                    simp [outA, ht, St.step, St.bind, h1, h2, hs, hm, ha2, hb2, hc1, hc2, hc3]
                · rw [if_neg (fun e => hc2 e.2.1)] at h
                  cases h
                  simp [outA, ht, St.step, St.bind, h1, h2, hs, hm, ha2, hb2, hc1, hc2]
              · rw [if_neg (fun e => hc1 e.1)] at h
                cases h
                simp [outA, ht, St.step, St.bind, h1, h2, hs, hm, ha2, hb2, hc1]
        · rw [if_neg hm] at h
          cases h
          refine Evl.of ?_
          rw [h26a, g26a]
          simp [outA, ht, St.step, St.bind, h1, h2, hs, hm]
end Go.Proofs.Ytnepapfndihalaa
