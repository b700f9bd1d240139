/- What a pattern names, and where. -/
import Derived.Test.YtmgmknpgikgnlaaGreatTa7
import Derived.Test.YtmgmknpgikgnlaaGreatDe2
namespace Go.Proofs.YtmgmknpgikgnlaaGreat
open Go.RowKit

mutual
def Pt.vars : Pt → List Int → List (ByteArray × List Int)
  | .mk k s _ ks _, path => (if k = 2 then [(s, path)] else []) ++ Pt.varsL ks path 0
def Pt.varsL : List Pt → List Int → Nat → List (ByteArray × List Int)
  | [], _, _ => []
  | p :: l, path, i => p.vars (path ++ [(i : Int)]) ++ Pt.varsL l path (i + 1)
end
def ptA : Pt → AV
  | .mk k s n ks a => .agg [.pv (iv k), .pv (sv s), .pv (iv n), .pv (pts ks), .pv (iv a)]
/-- A path as it is stored. -/
def pathP (p : List Int) : PV := if p = [] then .lit (.slice none 0 0) else ints p
@[simp] theorem ns_path (p : List Int) : NS (pathP p) := by unfold pathP; split <;> simp
abbrev VL1 := List (ByteArray × List Int)
def nrow (l : VL1) : List (List PV) := l.map fun x => [sv x.1]
def prow (l : VL1) : List (List PV) := l.map fun x => [pathP x.2]
@[simp] theorem nrow_len (l : VL1) : (nrow l).length = l.length := by simp [nrow]
@[simp] theorem prow_len (l : VL1) : (prow l).length = l.length := by simp [prow]
theorem nrow_app (a b : VL1) : nrow (a ++ b) = nrow a ++ nrow b := by simp [nrow]
theorem prow_app (a b : VL1) : prow (a ++ b) = prow a ++ prow b := by simp [prow]
@[simp] theorem ns_nrow (l : VL1) : NS (.rows (nrow l)) := .rows _ fun c hc p hp => by
  simp only [nrow, List.mem_map] at hc
  obtain ⟨x, _, rfl⟩ := hc
  simp at hp
  subst hp
  exact .lit _
@[simp] theorem ns_prow (l : VL1) : NS (.rows (prow l)) := .rows _ fun c hc p hp => by
  simp only [prow, List.mem_map] at hc
  obtain ⟨x, _, rfl⟩ := hc
  simp at hp
  subst hp
  exact ns_path _
def C3 (l : VL1) : List AObj := if l = [] then [.box 38 [.pv (.lit (.slice none 0 0))], .box 39 [.pv (.lit (.slice none 0 0))], .box 66 [.fn 21 [.ptr 0 0, .ptr 1 0, .ptr 2 0]]]
  else [.box 38 [.trows 3 (nrow l)], .box 39 [.trows 4 (prow l)], .box 66 [.fn 21 [.ptr 0 0, .ptr 1 0, .ptr 2 0]], .tok 9 1 (nrow l).length, .tok 22 1 (prow l).length]
def C5 (c : Bool) (l : VL1) : List AObj := if c then [.box 38 [.trows 5 (nrow l)], .dead, .box 39 [.trows 6 (prow l)], .dead, .box 66 [.fn 21 [.ptr 0 0, .ptr 2 0, .ptr 4 0]], .tok 9 1 (nrow l).length, .tok 22 1 (prow l).length]
  else [.box 38 [.trows 1 (nrow l)], .tok 9 1 (nrow l).length, .box 39 [.trows 3 (prow l)], .tok 22 1 (prow l).length, .box 66 [.fn 21 [.ptr 0 0, .ptr 2 0, .ptr 4 0]]]
def D3 (l : VL1) : List AObj := if l = [] then [.box 66 [.fn 21 [.ptr 1 0, .ptr 2 0, .ptr 0 0]], .box 38 [.pv (.lit (.slice none 0 0))], .box 39 [.pv (.lit (.slice none 0 0))]]
  else [.box 66 [.fn 21 [.ptr 1 0, .ptr 2 0, .ptr 0 0]], .box 38 [.trows 3 (nrow l)], .box 39 [.trows 4 (prow l)], .tok 9 1 (nrow l).length, .tok 22 1 (prow l).length]
def D5 (c : Bool) (l : VL1) : List AObj := if c then [.box 66 [.fn 21 [.ptr 1 0, .ptr 3 0, .ptr 0 0]], .box 38 [.trows 5 (nrow l)], .dead, .box 39 [.trows 6 (prow l)], .dead, .tok 9 1 (nrow l).length, .tok 22 1 (prow l).length]
  else [.box 66 [.fn 21 [.ptr 1 0, .ptr 3 0, .ptr 0 0]], .box 38 [.trows 2 (nrow l)], .tok 9 1 (nrow l).length, .box 39 [.trows 4 (prow l)], .tok 22 1 (prow l).length]
def nonE (l : VL1) : Bool := match l with | [] => false | _ => true
/-- The walk, at a pattern and a path. -/
structure Walks (p : Pt) (path : List Int) : Prop where
  w3 : (p.vars path).length ≤ 1000000000 → Sem Tryz.prog 21 [ptA p, .pv (ints path), .ptr 0 0, .ptr 1 0, .ptr 2 0] (C3 []) (.tup []) (C3 (p.vars path))
  w5 : ∀ acc : VL1, acc.length + (p.vars path).length ≤ 1000000000 → Sem Tryz.prog 21 [ptA p, .pv (ints path), .ptr 0 0, .ptr 2 0, .ptr 4 0] (C5 false acc) (.tup []) (C5 (nonE (p.vars path)) (acc ++ p.vars path))
theorem clone_nil : Sem Tryz.prog 22 [.pv (.lit (.slice none 0 0))] [] (.pv (.lit (.slice none 0 0))) [] := F22a (by simp) (by simp [T22a])
theorem und22 : Tryz.prog.underlying 22 = some (.slice 3) := by kernel_rfl
theorem nil_neq {es : List (List PV)} (h : es ≠ []) {r : AV} : BinOk Tryz.prog .eql 22 (.pv (.rows es)) (.pv (.lit (.slice none 0 0))) r ↔ r = .pv (bv false) := by
  refine BinOk.iff fun x y => ?_
  cases es with
  | nil => exact absurd rfl h
  | cons c es => simp [binA, AV.val?, nilEqA, und22, isNilSlice]
theorem clone_row (p : List Int) (hne : p ≠ []) (hb : p.length ≤ 100000000000) : Sem Tryz.prog 22 [.pv (ints p)] [] (.trows 0 (irow p)) [.tok 3 1 p.length] := by
  refine F22 _ (by simp) ?_
  have hlt : p.length < symBase := by unfold symBase; omega
  have h1 := @nil_neq (irow p) (irow_ne hne)
  have h2 : ∀ q, AppOk Tryz.prog 22 (.pv (.rows [])) (.pv (ints p)) q ↔ q = .rows (irow p) := fun q => by
    have := @app_row [] p q hne (by simpa using hb)
    simpa using this
  rw [ints_irow] at h2 ⊢
  simp [T22, h1, h2, hlt]
theorem app_one (p : List Int) (i : Int) (hb : p.length ≤ 10000000000) {q : PV} : AppOk Tryz.prog 22 (.pv (.rows (irow p))) (.pv (.rows [[iv i]])) q ↔ q = ints (p ++ [i]) := by
  have := @app_row (irow p) [i] q (by simp) (by simp; omega)
  rw [ints_irow, irow_app]
  exact this
section
variable {P : Program} {fn : Func} {id m0 : Nat} {ex : AExit}
/-- A loop over a list. -/
theorem list_loop {α σ : Type} (l : List α) (st : σ → Nat → Env × List AObj) (fin : σ → Env × List AObj) (I : Nat → σ → Prop) (hx : ex ≠ .normal)
    (step : ∀ i c, l[i]? = some c → ∀ s, I i s → ∃ s', I (i + 1) s' ∧ ∀ R, CodeB R P fn.ntmps (lb fn id) m0 (st s i).1 (st s i).2 .normal (st s' (i + 1)).1 (st s' (i + 1)).2)
    (done : ∀ s, I l.length s → ∀ R, CodeB R P fn.ntmps (lb fn id) m0 (st s l.length).1 (st s l.length).2 ex (fin s).1 (fin s).2) :
    ∀ (m i : Nat) (s : σ), l.length - i = m → i ≤ l.length → I i s → ∃ s', I l.length s' ∧ LoopS P fn id m0 (st s i).1 (st s i).2 ex (fin s').1 (fin s').2 := by
  intro m
  induction m with
  | zero =>
    intro i s hm hi hs
    have : i = l.length := by omega
    subst this
    exact ⟨s, hs, LoopS.done (done s hs) hx⟩
  | succ m ih =>
    intro i s hm hi hs
    have hlt : i < l.length := by omega
    obtain ⟨s1, h1, h2⟩ := step i _ (List.getElem?_eq_getElem hlt) s hs
    obtain ⟨s2, h3, h4⟩ := ih (i + 1) s1 (by omega) (by omega) h1
    exact ⟨s2, h3, LoopS.again h2 h4⟩
end
theorem Pt.varsL_drop {path : List Int} : ∀ {l : List Pt} {i j : Nat} {c : Pt}, l[i]? = some c → Pt.varsL (l.drop i) path (j + i) = c.vars (path ++ [((j + i : Nat) : Int)]) ++ Pt.varsL (l.drop (i + 1)) path (j + (i + 1))
  | [], i, j, c, h => by simp at h
  | a :: l, 0, j, c, h => by
    simp at h
    subst h
    simp only [List.drop_zero, List.drop_succ_cons, Nat.add_zero]
    rw [Pt.varsL]
  | a :: l, i + 1, j, c, h => by
    have := @Pt.varsL_drop path l i (j + 1) c (by simpa using h)
    simp only [List.drop_succ_cons]
    rw [show j + (i + 1) = j + 1 + i by omega, this, show j + 1 + (i + 1) = j + (i + 1 + 1) by omega]
def envW (ks : List Pt) (pv : PV) (i : Nat) : Env := [(24, .pv (iv i)), (23, .pv (iv ks.length)), (22, .pv (pts ks)), (4, .ptr 0 0), (1, .pv pv)]
theorem roundr5 (ks : List Pt) (path : List Int) (hp : path ≠ []) (hpl : path.length ≤ 10000000) (hks : ks.length < 1000000000000) (i : Nat) (c : Pt) (hc : ks[i]? = some c) (ih : Walks c (path ++ [(i : Int)])) (b : Bool) (acc : VL1) (hb : acc.length + (c.vars (path ++ [(i : Int)])).length ≤ 1000000000) (R : Nat → PV) :
    CodeB R Tryz.prog Tryz.f21.ntmps (lb Tryz.f21 0) 5 (envW ks (ints path) i) (D5 b acc) .normal (envW ks (ints path) (i + 1)) (D5 (b || nonE (c.vars (path ++ [(i : Int)]))) (acc ++ c.vars (path ++ [(i : Int)]))) := by
  have hi := lt_of_get hc
  have hw := wrap_succ (k := i) (by omega)
  have hcl := clone_row path hp (by omega)
  have hap := fun q => @app_one path i (by omega) q
  have hpt : path.length < symBase := by unfold symBase; omega
  have h5 := ih.w5 acc hb
  have h3 := ih.w3 (by omega)
  generalize c.vars (path ++ [(i : Int)]) = vs at h5 h3 hb ⊢
  obtain ⟨k, s, n, ks1, a⟩ := c
  have ha : acc.length < symBase := by unfold symBase; omega
  have hav : acc.length + vs.length < symBase := by unfold symBase; omega
  cases b with
  | false =>
    simp only [D5, Bool.false_eq_true, if_false, envW]
    refine L21cb0a (iv i) (iv ks.length) (pts ks) (ints path) (nrow acc) (prow acc) (by simp) (by simp [H21cb0a, ha]) ?_ R
    cases vs with
    | nil =>
      simp [nonE, C5, C3, ptA] at h5
      simp [T21cb0a, D5, envW, hi, idx_pts hc, hw, nonE]
      exact .inr ⟨.rows (irow path), by simpa using hcl, by simpa using hpt, ⟨_, (hap _).2 rfl, by simp [h5, ha]⟩, ns_irow _⟩
    | cons v vs =>
      simp only [List.length_cons] at hav
      simp [nonE, C5, C3, ptA] at h5
      simp [T21cb0a, D5, envW, hi, idx_pts hc, hw, nonE]
      exact .inr ⟨.rows (irow path), by simpa using hcl, by simpa using hpt, ⟨_, (hap _).2 rfl, ⟨.rows (nrow (acc ++ v :: vs)), .rows (prow (acc ++ v :: vs)), by simpa using h5, by simp [hav, ha]⟩, ns_ints _⟩, ns_irow _⟩
  | true =>
    simp only [D5, if_true, envW, Bool.true_or]
    refine L21cb0c (iv i) (iv ks.length) (pts ks) (ints path) (nrow acc) (prow acc) (by simp) (by simp [H21cb0c, ha]) ?_ R
    cases vs with
    | nil =>
      simp [nonE, C5, C3, ptA] at h5
      simp [T21cb0c, D5, envW, hi, idx_pts hc, hw, nonE]
      exact .inr ⟨.rows (irow path), by simpa using hcl, by simpa using hpt, ⟨_, (hap _).2 rfl, by simp [h5, ha]⟩, ns_irow _⟩
    | cons v vs =>
      simp only [List.length_cons] at hav
      simp [nonE, C5, C3, ptA] at h5
      simp [T21cb0c, D5, envW, hi, idx_pts hc, hw, nonE]
      exact .inr ⟨.rows (irow path), by simpa using hcl, by simpa using hpt, ⟨_, (hap _).2 rfl, ⟨.rows (nrow (acc ++ v :: vs)), .rows (prow (acc ++ v :: vs)), by simpa using h5, by simp [hav, ha]⟩, ns_ints _⟩, ns_irow _⟩
theorem roundr3 (ks : List Pt) (path : List Int) (hp : path ≠ []) (hpl : path.length ≤ 10000000) (hks : ks.length < 1000000000000) (i : Nat) (c : Pt) (hc : ks[i]? = some c) (ih : Walks c (path ++ [(i : Int)])) (acc : VL1) (hb : acc.length + (c.vars (path ++ [(i : Int)])).length ≤ 1000000000) (R : Nat → PV) :
    CodeB R Tryz.prog Tryz.f21.ntmps (lb Tryz.f21 0) 3 (envW ks (ints path) i) (D3 acc) .normal (envW ks (ints path) (i + 1)) (D3 (acc ++ c.vars (path ++ [(i : Int)]))) := by
  have hi := lt_of_get hc
  have hw := wrap_succ (k := i) (by omega)
  have hcl := clone_row path hp (by omega)
  have hap := fun q => @app_one path i (by omega) q
  have hpt : path.length < symBase := by unfold symBase; omega
  have h5 := ih.w5 acc hb
  have h3 := ih.w3 (by omega)
  generalize c.vars (path ++ [(i : Int)]) = vs at h5 h3 hb ⊢
  obtain ⟨k, s, n, ks1, a⟩ := c
  have ha : acc.length < symBase := by unfold symBase; omega
  have hav : acc.length + vs.length < symBase := by unfold symBase; omega
  by_cases h0 : acc = []
  · subst h0
    simp only [D3, if_true, envW, List.nil_append]
    refine L21cb0b (iv i) (iv ks.length) (pts ks) (ints path) (by simp) (by simp [H21cb0b]) ?_ R
    cases vs with
    | nil =>
      simp [nonE, C5, C3, ptA] at h3
      simp [T21cb0b, D3, envW, hi, idx_pts hc, hw, nonE]
      exact .inr ⟨.rows (irow path), by simpa using hcl, by simpa using hpt, ⟨_, (hap _).2 rfl, by simp [h3]⟩, ns_irow _⟩
    | cons v vs =>
      simp only [List.length_cons, List.length_nil, Nat.zero_add] at hav
      simp [nonE, C5, C3, ptA] at h3
      simp [T21cb0b, D3, envW, hi, idx_pts hc, hw, nonE]
      exact .inr ⟨.rows (irow path), by simpa using hcl, by simpa using hpt, ⟨_, (hap _).2 rfl, ⟨.rows (nrow (v :: vs)), .rows (prow (v :: vs)), by simpa using h3, by simp [hav]⟩, ns_ints _⟩, ns_irow _⟩
  · have h0' : ∀ x : VL1, acc ++ x ≠ [] := fun x h => h0 (List.append_eq_nil_iff.1 h).1
    simp only [D3, if_neg h0, if_neg (h0' _), envW]
    refine L21cb0d (iv i) (iv ks.length) (pts ks) (ints path) (nrow acc) (prow acc) (by simp) (by simp [H21cb0d, ha]) ?_ R
    cases vs with
    | nil =>
      simp [nonE, C5, C3, ptA] at h5
      simp [T21cb0d, D3, envW, h0, hi, idx_pts hc, hw, nonE]
      exact .inr ⟨.rows (irow path), by simpa using hcl, by simpa using hpt, ⟨_, (hap _).2 rfl, by simp [h5, ha]⟩, ns_irow _⟩
    | cons v vs =>
      simp only [List.length_cons] at hav
      simp [nonE, C5, C3, ptA] at h5
      simp [T21cb0d, D3, envW, h0, hi, idx_pts hc, hw, nonE]
      exact .inr ⟨.rows (irow path), by simpa using hcl, by simpa using hpt, ⟨_, (hap _).2 rfl, ⟨.rows (nrow (acc ++ v :: vs)), .rows (prow (acc ++ v :: vs)), by simpa using h5, by simp [hav, ha]⟩, ns_ints _⟩, ns_irow _⟩
theorem roundn5 (ks : List Pt)  (hks : ks.length < 1000000000000) (i : Nat) (c : Pt) (hc : ks[i]? = some c) (ih : Walks c ([(i : Int)])) (b : Bool) (acc : VL1) (hb : acc.length + (c.vars ([(i : Int)])).length ≤ 1000000000) (R : Nat → PV) :
    CodeB R Tryz.prog Tryz.f21.ntmps (lb Tryz.f21 0) 5 (envW ks (.lit (.slice none 0 0)) i) (D5 b acc) .normal (envW ks (.lit (.slice none 0 0)) (i + 1)) (D5 (b || nonE (c.vars ([(i : Int)]))) (acc ++ c.vars ([(i : Int)]))) := by
  have hi := lt_of_get hc
  have hw := wrap_succ (k := i) (by omega)
  have hone : PV.rows [[iv (i : Int)]] = ints [(i : Int)] := rfl
  have h5 := ih.w5 acc hb
  have h3 := ih.w3 (by omega)
  generalize c.vars ([(i : Int)]) = vs at h5 h3 hb ⊢
  obtain ⟨k, s, n, ks1, a⟩ := c
  have ha : acc.length < symBase := by unfold symBase; omega
  have hav : acc.length + vs.length < symBase := by unfold symBase; omega
  cases b with
  | false =>
    simp only [D5, Bool.false_eq_true, if_false, envW]
    refine L21ab0a (iv i) (iv ks.length) (pts ks) (nrow acc) (prow acc) (by simp) (by simp [H21ab0a, ha]) ?_ R
    cases vs with
    | nil =>
      simp [nonE, C5, C3, ptA] at h5
      simp [T21ab0a, D5, envW, hi, idx_pts hc, hw, nonE]
      exact .inl ⟨clone_nil, by simp [hone, h5, ha]⟩
    | cons v vs =>
      simp only [List.length_cons] at hav
      simp [nonE, C5, C3, ptA] at h5
      simp [T21ab0a, D5, envW, hi, idx_pts hc, hw, nonE]
      exact .inl ⟨clone_nil, .rows (nrow (acc ++ v :: vs)), .rows (prow (acc ++ v :: vs)), by simpa [hone] using h5, by simp [hav, ha]⟩
  | true =>
    simp only [D5, if_true, envW, Bool.true_or]
    refine L21ab0c (iv i) (iv ks.length) (pts ks) (nrow acc) (prow acc) (by simp) (by simp [H21ab0c, ha]) ?_ R
    cases vs with
    | nil =>
      simp [nonE, C5, C3, ptA] at h5
      simp [T21ab0c, D5, envW, hi, idx_pts hc, hw, nonE]
      exact .inl ⟨clone_nil, by simp [hone, h5, ha]⟩
    | cons v vs =>
      simp only [List.length_cons] at hav
      simp [nonE, C5, C3, ptA] at h5
      simp [T21ab0c, D5, envW, hi, idx_pts hc, hw, nonE]
      exact .inl ⟨clone_nil, .rows (nrow (acc ++ v :: vs)), .rows (prow (acc ++ v :: vs)), by simpa [hone] using h5, by simp [hav, ha]⟩
theorem roundn3 (ks : List Pt)  (hks : ks.length < 1000000000000) (i : Nat) (c : Pt) (hc : ks[i]? = some c) (ih : Walks c ([(i : Int)])) (acc : VL1) (hb : acc.length + (c.vars ([(i : Int)])).length ≤ 1000000000) (R : Nat → PV) :
    CodeB R Tryz.prog Tryz.f21.ntmps (lb Tryz.f21 0) 3 (envW ks (.lit (.slice none 0 0)) i) (D3 acc) .normal (envW ks (.lit (.slice none 0 0)) (i + 1)) (D3 (acc ++ c.vars ([(i : Int)]))) := by
  have hi := lt_of_get hc
  have hw := wrap_succ (k := i) (by omega)
  have hone : PV.rows [[iv (i : Int)]] = ints [(i : Int)] := rfl
  have h5 := ih.w5 acc hb
  have h3 := ih.w3 (by omega)
  generalize c.vars ([(i : Int)]) = vs at h5 h3 hb ⊢
  obtain ⟨k, s, n, ks1, a⟩ := c
  have ha : acc.length < symBase := by unfold symBase; omega
  have hav : acc.length + vs.length < symBase := by unfold symBase; omega
  by_cases h0 : acc = []
  · subst h0
    simp only [D3, if_true, envW, List.nil_append]
    refine L21ab0b (iv i) (iv ks.length) (pts ks) (by simp) (by simp [H21ab0b]) ?_ R
    cases vs with
    | nil =>
      simp [nonE, C5, C3, ptA] at h3
      simp [T21ab0b, D3, envW, hi, idx_pts hc, hw, nonE]
      exact .inl ⟨clone_nil, by simp [hone, h3]⟩
    | cons v vs =>
      simp only [List.length_cons, List.length_nil, Nat.zero_add] at hav
      simp [nonE, C5, C3, ptA] at h3
      simp [T21ab0b, D3, envW, hi, idx_pts hc, hw, nonE]
      exact .inl ⟨clone_nil, .rows (nrow (v :: vs)), .rows (prow (v :: vs)), by simpa [hone] using h3, by simp [hav]⟩
  · have h0' : ∀ x : VL1, acc ++ x ≠ [] := fun x h => h0 (List.append_eq_nil_iff.1 h).1
    simp only [D3, if_neg h0, if_neg (h0' _), envW]
    refine L21ab0d (iv i) (iv ks.length) (pts ks) (nrow acc) (prow acc) (by simp) (by simp [H21ab0d, ha]) ?_ R
    cases vs with
    | nil =>
      simp [nonE, C5, C3, ptA] at h5
      simp [T21ab0d, D3, envW, h0, hi, idx_pts hc, hw, nonE]
      exact .inl ⟨clone_nil, by simp [hone, h5, ha]⟩
    | cons v vs =>
      simp only [List.length_cons] at hav
      simp [nonE, C5, C3, ptA] at h5
      simp [T21ab0d, D3, envW, h0, hi, idx_pts hc, hw, nonE]
      exact .inl ⟨clone_nil, .rows (nrow (acc ++ v :: vs)), .rows (prow (acc ++ v :: vs)), by simpa [hone] using h5, by simp [hav, ha]⟩
end Go.Proofs.YtmgmknpgikgnlaaGreat
