/- Loops that gather a row; the leaves of a decision. -/
import Derived.Test.YtmgmknpgikgnlaaGreatTa4
namespace Go.Proofs.YtmgmknpgikgnlaaGreat
open Go.RowKit

theorem Sem.forget {P : Program} {f : Nat} {args : List AV} {v : AV} {h' : List AObj} (hc : Sem P f args [] v h') (hv : refs (wk v) = []) : Sem P f args [] (wk v) [] := fun R => (hc R).forget hv
section
variable {P : Program} {fn : Func} {id m0 : Nat} {ex : AExit}
/-- A loop over a list that appends to a row. -/
theorem acc_loop {α σ : Type} (l : List α) (g : α → List (List PV)) (N : Nat) (st : σ → Nat → List (List PV) → Env × List AObj) (fin : σ → List (List PV) → Env × List AObj) (ok : σ → List (List PV) → Prop) (hx : ex ≠ .normal)
    (step : ∀ i c, l[i]? = some c → ∀ s es, ok s es → es.length + (g c).length ≤ N → ∃ s', ok s' (es ++ g c) ∧ ∀ R, CodeB R P fn.ntmps (lb fn id) m0 (st s i es).1 (st s i es).2 .normal (st s' (i + 1) (es ++ g c)).1 (st s' (i + 1) (es ++ g c)).2)
    (done : ∀ s es, ok s es → es.length ≤ N → ∀ R, CodeB R P fn.ntmps (lb fn id) m0 (st s l.length es).1 (st s l.length es).2 ex (fin s es).1 (fin s es).2) :
    ∀ (m i : Nat) (s : σ) (es : List (List PV)), l.length - i = m → i ≤ l.length → ok s es → es.length + ((l.drop i).flatMap g).length ≤ N →
      ∃ s', ok s' (es ++ (l.drop i).flatMap g) ∧ LoopS P fn id m0 (st s i es).1 (st s i es).2 ex (fin s' (es ++ (l.drop i).flatMap g)).1 (fin s' (es ++ (l.drop i).flatMap g)).2 := by
  intro m
  induction m with
  | zero =>
    intro i s es hm hi hs hN
    have : i = l.length := by omega
    subst this
    simp only [List.drop_length, List.flatMap_nil, List.append_nil, List.length_nil, Nat.add_zero] at hN ⊢
    exact ⟨s, hs, LoopS.done (done s es hs hN) hx⟩
  | succ m ih =>
    intro i s es hm hi hs hN
    have hlt : i < l.length := by omega
    have hc : l[i]? = some l[i] := List.getElem?_eq_getElem hlt
    rw [List.drop_eq_getElem_cons hlt, List.flatMap_cons] at hN ⊢
    rw [List.length_append] at hN
    obtain ⟨s1, h1, h2⟩ := step i _ hc s es hs (by omega)
    obtain ⟨s2, h3, h4⟩ := ih (i + 1) s1 (es ++ g l[i]) (by omega) (by omega) h1 (by rw [List.length_append]; omega)
    rw [List.append_assoc] at h3 h4
    exact ⟨s2, h3, LoopS.again h2 h4⟩
end
mutual
def Dc.leaves : Dc → List Int
  | .mk kind alt _ cases els => if kind = 1 then [alt] else if kind = 2 then Cs.leavesL cases ++ Dc.leavesL els else [-1]
def Cs.leavesL : List Cs → List Int
  | [] => []
  | c :: l => c.leavesC ++ Cs.leavesL l
def Cs.leavesC : Cs → List Int
  | .mk _ _ _ d => d.leaves
def Dc.leavesL : List Dc → List Int
  | [] => []
  | d :: l => d.leaves ++ Dc.leavesL l
end
theorem Cs.leavesL_eq : ∀ l, Cs.leavesL l = l.flatMap Cs.leavesC
  | [] => by rw [Cs.leavesL]; rfl
  | c :: l => by rw [Cs.leavesL, Cs.leavesL_eq l]; rfl
theorem Dc.leavesL_eq : ∀ l, Dc.leavesL l = l.flatMap Dc.leaves
  | [] => by rw [Dc.leavesL]; rfl
  | c :: l => by rw [Dc.leavesL, Dc.leavesL_eq l]; rfl
/-- Integers as elements of a row. -/
def irow (l : List Int) : List (List PV) := l.map fun n => [iv n]
theorem ints_irow (l : List Int) : ints l = .rows (irow l) := rfl
@[simp] theorem irow_len (l : List Int) : (irow l).length = l.length := by simp [irow]
theorem irow_app (a b : List Int) : irow (a ++ b) = irow a ++ irow b := by simp [irow]
theorem irow_flat {α : Type} (l : List α) (g : α → List Int) : irow (l.flatMap g) = l.flatMap fun a => irow (g a) := by
  induction l with
  | nil => rfl
  | cons a l ih => rw [List.flatMap_cons, irow_app, ih, List.flatMap_cons]
theorem irow_sz (l : List Int) : ∀ c ∈ irow l, c.length = 1 := by simp [irow]
@[simp] theorem ns_irow (l : List Int) : NS (.rows (irow l)) := ns_ints l
/-- A row that is being made: nil, or one of its own behind some objects. -/
def accV (t : Nat) (es : List (List PV)) : AV := if es = [] then .pv (.lit (.slice none 0 0)) else .trows t es
def accH (es : List (List PV)) : List AObj := if es = [] then [] else [.tok 3 1 es.length]
/-- Such a row that was there before: the old one, or a new one. -/
def tokV (t : Nat) (b : Bool) (es : List (List PV)) : AV := if b then .trows (t + 1) es else .trows t es
def tokH (b : Bool) (es : List (List PV)) : List AObj := if b then [.dead, .tok 3 1 es.length] else [.tok 3 1 es.length]
section
variable {s : AV} {es : List (List PV)} {l : List Int} {q : PV}
theorem app_nil (hne : l ≠ []) (hb : l.length ≤ 100000000000) : AppOk Tryz.prog 22 (.pv (.lit (.slice none 0 0))) (.pv (ints l)) q ↔ q = .rows (irow l) := by
  have := app_ok (q := q) s22 (s := .pv (.lit (.slice none 0 0))) (x := .pv (ints l)) (es := []) (es' := irow l) rfl rfl (by simpa [irow] using hne) (irow_sz l) (by simp; omega) (by simp; omega)
  simpa using this
theorem app_row (hne : l ≠ []) (hb : es.length + l.length ≤ 100000000000) : AppOk Tryz.prog 22 (.pv (.rows es)) (.pv (ints l)) q ↔ q = .rows (es ++ irow l) :=
  app_ok s22 (s := .pv (.rows es)) (x := .pv (ints l)) rfl rfl (by simpa [irow] using hne) (irow_sz l) (by simp; omega) (by simp; omega)
theorem app0_nil : App0Ok Tryz.prog 22 (.pv (.lit (.slice none 0 0))) (.pv (ints [])) := app0_ok s22 rfl rfl
theorem app0_row : App0Ok Tryz.prog 22 (.pv (.rows es)) (.pv (ints [])) := app0_ok s22 rfl rfl
end
end Go.Proofs.YtmgmknpgikgnlaaGreat
