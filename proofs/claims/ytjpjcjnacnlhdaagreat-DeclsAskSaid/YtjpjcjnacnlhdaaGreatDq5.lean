/- What stands above a class. -/
import Derived.Test.YtjpjcjnacnlhdaaGreatDq4
namespace Go.Proofs.YtjpjcjnacnlhdaaGreat
open Go.RowKit
set_option linter.unusedSimpArgs false
set_option linter.unusedVariables false

def srow (l : List ByteArray) : List (List PV) := l.map fun s => [sv s]
theorem srow_one (s : ByteArray) : srow [s] = [[sv s]] := rfl
theorem srow_nil : srow [] = [] := rfl
theorem srow_len (l : List ByteArray) : (srow l).length = l.length := by simp [srow]
@[simp] theorem ns_srow (l : List ByteArray) : NS (.rows (srow l)) := ns_strs l
theorem strs_srow (l : List ByteArray) : strs l = .rows (srow l) := rfl
theorem srow_app (a b : List ByteArray) : srow (a ++ b) = srow a ++ srow b := by simp [srow]
theorem srow_sz (l : List ByteArray) : ∀ c ∈ srow l, c.length = 1 := by simp [srow]
theorem app_s (a : List ByteArray) (s : ByteArray) (hb : a.length ≤ 1000000000000 - 1) {q : PV} : AppOk Tryz.prog 52 (.pv (.rows (srow a))) (.pv (.rows [[sv s]])) q ↔ q = .rows (srow (a ++ [s])) := by
  rw [srow_app]
  exact app_ok sl_strs (s := .pv (.rows (srow a))) (x := .pv (.rows [[sv s]])) (es := srow a) (es' := [[sv s]]) rfl rfl (by simp) (by simp) (by rw [srow_len]; simp; omega) (by rw [srow_len]; simp; omega)
/-- How many names of a list are not among those that were met. -/
def cnt (U met : List ByteArray) : Nat := (U.filter fun s => !mem met s).length
theorem mem_app (a b : List ByteArray) (s : ByteArray) : mem (a ++ b) s = (mem a s || mem b s) := by simp [mem]
theorem cnt_le {U met met' : List ByteArray} (h : ∀ s, mem met s = true → mem met' s = true) : cnt U met' ≤ cnt U met := by
  unfold cnt
  induction U with
  | nil => simp
  | cons s U ih =>
    rw [List.filter_cons, List.filter_cons]
    cases h1 : mem met s with
    | true => simp [h s h1]; exact ih
    | false =>
      cases h2 : mem met' s with
      | true => simp; omega
      | false => simp; exact ih
theorem cnt_lt {U met : List ByteArray} {s : ByteArray} (hs : s ∈ U) (h : mem met s = false) : cnt U (met ++ [s]) + 1 ≤ cnt U met := by
  unfold cnt
  induction U with
  | nil => cases hs
  | cons t U ih =>
    have hle : cnt U (met ++ [s]) ≤ cnt U met := cnt_le fun x hx => by rw [mem_app, hx]; rfl
    unfold cnt at hle
    rw [List.filter_cons, List.filter_cons]
    by_cases ht : t = s
    · subst ht
      have : mem (met ++ [t]) t = true := by rw [mem_app]; simp [mem]
      simp [this, h]; omega
    · have hs' : s ∈ U := by
        rcases List.mem_cons.1 hs with e | hs'
        · exact absurd e.symm ht
        · exact hs'
      have := ih hs'
      have e1 : mem [s] t = false := by simp [mem]; exact fun h => ht h.symm
      have e : mem (met ++ [s]) t = mem met t := by rw [mem_app, e1, Bool.or_false]
      rw [e]
      cases mem met t <;> simp <;> omega
/-- The names above a class, put to those that were met. -/
def supsAt (v : Ev) (i : Nat) : List ByteArray := match v.classes[i]? with
  | some x => x.supers
  | none => []
def stepUp (rec_ : List ByteArray → ByteArray → List ByteArray) (met : List ByteArray) (s : ByteArray) : List ByteArray := if mem met s = true then met else rec_ (met ++ [s]) s
def upN (v : Ev) : Nat → List ByteArray → ByteArray → List ByteArray
  | 0, met, _ => met
  | n + 1, met, c => match fnd (isCl c) v.classes 0 with
    | none => met
    | some i => (supsAt v i).foldl (stepUp (upN v n)) met
theorem foldl_sub {r : List ByteArray → ByteArray → List ByteArray} (hr : ∀ met c s, mem met s = true → mem (r met c) s = true) : ∀ (l : List ByteArray) (met : List ByteArray) (s : ByteArray), mem met s = true → mem (l.foldl (stepUp r) met) s = true
  | [], met, s, h => h
  | c :: l, met, s, h => by
    rw [List.foldl_cons]
    refine foldl_sub hr l _ s ?_
    unfold stepUp
    split
    · exact h
    · exact hr _ _ _ (by rw [mem_app, h]; rfl)
theorem upN_sub (v : Ev) : ∀ (n : Nat) (met : List ByteArray) (c s : ByteArray), mem met s = true → mem (upN v n met c) s = true
  | 0, met, c, s, h => h
  | n + 1, met, c, s, h => by
    rw [upN]
    split
    · exact h
    · exact foldl_sub (upN_sub v n) _ _ _ h
/-- The classes' names above, all of them. -/
structure SupOk (v : Ev) (U : List ByteArray) : Prop where
  cl : v.classes.length ≤ maxN
  su : ∀ x ∈ v.classes, x.supers.length ≤ maxN
  all : ∀ x ∈ v.classes, ∀ s ∈ x.supers, s ∈ U
theorem upN_len {v : Ev} {U : List ByteArray} (h : SupOk v U) : ∀ (n : Nat) (met : List ByteArray) (c : ByteArray), (upN v n met c).length + cnt U (upN v n met c) ≤ met.length + cnt U met := by
  intro n
  induction n with
  | zero => intro met c; exact Nat.le_refl _
  | succ n ih =>
    intro met c
    rw [upN]
    split
    · exact Nat.le_refl _
    · rename_i i hi
      have key : ∀ (l : List ByteArray), (∀ s ∈ l, s ∈ U) → ∀ met : List ByteArray, (l.foldl (stepUp (upN v n)) met).length + cnt U (l.foldl (stepUp (upN v n)) met) ≤ met.length + cnt U met := by
        intro l
        induction l with
        | nil => intro _ met; exact Nat.le_refl _
        | cons s l ih2 =>
          intro hl met
          rw [List.foldl_cons]
          refine Nat.le_trans (ih2 (fun x hx => hl x (List.mem_cons_of_mem _ hx)) _) ?_
          unfold stepUp
          split
          · exact Nat.le_refl _
          · rename_i hm
            refine Nat.le_trans (ih _ _) ?_
            have := cnt_lt (hl s (List.mem_cons_self ..)) (by simpa using hm : mem met s = false)
            rw [List.length_append]; simp; omega
      refine key _ (fun s hs => ?_) met
      unfold supsAt at hs
      split at hs
      · rename_i x hx; exact h.all x (List.mem_of_getElem? hx) s hs
      · cases hs
section
variable {P : Program} {fn : Func} {id m0 : Nat} {ex : AExit}
/-- A loop that carries something on. -/
theorem fold_loop {α β σ : Type} (l : List α) (g : β → α → β) (st : σ → Nat → β → Env × List AObj) (fin : σ → β → Env × List AObj) (ok : σ → β → Prop) (hx : ex ≠ .normal)
    (step : ∀ i c, l[i]? = some c → ∀ s x, ok s x → ∃ s', ok s' (g x c) ∧ ∀ R, CodeB R P fn.ntmps (lb fn id) m0 (st s i x).1 (st s i x).2 .normal (st s' (i + 1) (g x c)).1 (st s' (i + 1) (g x c)).2)
    (done : ∀ s x, ok s x → ∀ R, CodeB R P fn.ntmps (lb fn id) m0 (st s l.length x).1 (st s l.length x).2 ex (fin s x).1 (fin s x).2) (s : σ) (x : β) (h : ok s x) :
    ∃ s', ok s' (l.foldl g x) ∧ LoopS P fn id m0 (st s 0 x).1 (st s 0 x).2 ex (fin s' (l.foldl g x)).1 (fin s' (l.foldl g x)).2 := by
  have key : ∀ (m i : Nat) (s : σ) (x : β), l.length - i = m → i ≤ l.length → ok s x → ∃ s', ok s' ((l.drop i).foldl g x) ∧ LoopS P fn id m0 (st s i x).1 (st s i x).2 ex (fin s' ((l.drop i).foldl g x)).1 (fin s' ((l.drop i).foldl g x)).2 := by
    intro m
    induction m with
    | zero =>
      intro i s x hm hi hs
      have : i = l.length := by omega
      subst this
      rw [List.drop_length]
      exact ⟨s, hs, LoopS.done (done s x hs) hx⟩
    | succ m ih =>
      intro i s x hm hi hs
      have hlt : i < l.length := by omega
      rw [List.drop_eq_getElem_cons hlt, List.foldl_cons]
      obtain ⟨s1, h1, h2⟩ := step i _ (List.getElem?_eq_getElem hlt) s x hs
      obtain ⟨s2, h3, h4⟩ := ih (i + 1) s1 _ (by omega) (by omega) h1
      exact ⟨s2, h3, LoopS.again h2 h4⟩
  simpa using key l.length 0 s x (by omega) (Nat.zero_le _) h
end
theorem Sem.forget {P : Program} {f : Nat} {args : List AV} {v : AV} {h' : List AObj} (hc : Sem P f args [] v h') (hv : refs (wk v) = []) : Sem P f args [] (wk v) [] := fun R => (hc R).forget hv
/-! The program's. -/
abbrev bxF (a b c : Nat) : AObj := .box 123 [.fn 63 [.ptr a 0, .ptr b 0, .ptr c 0]]
abbrev bxO (x : AV) : AObj := .box 52 [x]
abbrev tk (l : List ByteArray) : AObj := .tok 9 1 (srow l).length
def upH (v : Ev) (b : Bool) (l : List ByteArray) : List AObj := if b then [bxEnv v, bxO (.trows 4 (srow l)), .dead, bxF 0 1 3, tk l] else [bxEnv v, bxO (.trows 2 (srow l)), tk l, bxF 0 1 3]
def lpH (v : Ev) (b : Bool) (l : List ByteArray) : List AObj := if b then [bxO (.trows 4 (srow l)), .dead, bxF 3 0 2, bxEnv v, tk l] else [bxO (.trows 1 (srow l)), tk l, bxF 3 0 2, bxEnv v]
@[simp] theorem nsa_fn {f : Nat} {l : List AV} : NSA (.fn f l) ↔ ∀ a ∈ l, NSA a := ⟨fun h => by cases h with | fn _ _ h => exact h, fun h => .fn _ _ h⟩
@[simp] theorem nsa_ptr {i o : Nat} : NSA (.ptr i o) := .ptr ..
@[simp] theorem nsa_trows {t : Nat} {es : List (List PV)} : NSA (.trows t es) ↔ ∀ c ∈ es, ∀ p ∈ c, NS p := ⟨fun h => by cases h with | trows _ _ h => exact h, fun h => .trows _ _ h⟩
@[simp] theorem nso_tok {t : TypeId} {s n : Nat} : NSO (.tok t s n) ↔ n < symBase := ⟨fun h => by cases h with | tok _ _ _ h => exact h, fun h => .tok _ _ _ h⟩
theorem ns_srow' (l : List ByteArray) : ∀ c ∈ srow l, ∀ p ∈ c, NS p := by have := ns_srow l; cases this with | rows _ h => exact h
@[simp] theorem dl_name (R : Nat → PV) (j : Nat) : dl R (symBase + j) = (R j).rowLen := by
  unfold dl
  rw [if_neg (by omega), show symBase + j - symBase = j by omega]
@[simp] theorem rowLen_rows (es : List (List PV)) : (PV.rows es).rowLen = es.length := rfl
@[simp] theorem dl_one (R : Nat → PV) : dl R 1 = 1 := dl_small (by decide)
theorem small_sym {l : List ByteArray} (h : l.length ≤ 100000000000) : (srow l).length < symBase := by rw [srow_len]; unfold symBase; omega
section
variable {v : Ev} {U : List ByteArray} (h : SupOk v U)
include h
theorem up_b : ∀ (n : Nat) (met : List ByteArray) (c : ByteArray), cnt U met < n → met.length + cnt U met ≤ 100000000000 →
    ∃ b : Bool, (b = false → upN v n met c = met) ∧ Sem Tryz.prog 63 [.pv (sv c), .ptr 0 0, .ptr 1 0, .ptr 3 0] (upH v false met) (.tup []) (upH v b (upN v n met c)) := by
  intro n
  induction n with
  | zero => intro met c hc; omega
  | succ n ih =>
    intro met c hc hM
    have hcl := class_p v h.cl c
    have hlm := small_sym (l := met) (by omega)
    by_cases h0 : 0 ≤ fi (isCl c) v.classes
    · obtain ⟨k, x, e1, e2, e3, _⟩ := fi_nonneg h0
      rw [decide_eq_true h0, e1, show max (k : Int) 0 = k by omega] at hcl
      have hx := List.mem_of_getElem? e3
      have hsl := h.su x hx
      have main := fold_loop (P := Tryz.prog) (fn := Tryz.f63) (id := 0) (m0 := 4) (ex := .exit 0) x.supers (stepUp (upN v n)) (fun (b : Bool) i m => ([(24, .pv (iv i)), (23, .pv (iv x.supers.length)), (22, .pv (strs x.supers)), (2, .ptr 0 0), (3, .ptr 2 0)], lpH v b m)) (fun b m => ([], lpH v b m))
        (fun b m => (b = false → m = met) ∧ m.length + cnt U m ≤ met.length + cnt U met ∧ cnt U m ≤ cnt U met) (by simp) ?_ ?_ false met ⟨fun _ => rfl, Nat.le_refl _, Nat.le_refl _⟩
      · obtain ⟨b, ⟨g1, g2, _⟩, g3⟩ := main
        refine ⟨b, ?_, ?_⟩
        · intro hb; rw [upN, e2]; simp only [supsAt, e3]; exact g1 hb
        · have eU : upN v (n + 1) met c = x.supers.foldl (stepUp (upN v n)) met := by rw [upN, e2]; simp only [supsAt, e3]
          rw [eU]
          generalize x.supers.foldl (stepUp (upN v n)) met = r at g1 g2 g3 ⊢
          have hlr := small_sym (l := r) (by omega)
          have hB := LoopS.block (h := lpH v false met) f63_loop0 (by simp [lpH, hlm]; exact ns_srow' met) g3
          cases b with
          | false =>
            have e := (g1 rfl).symm
            subst e
            simp only [lpH, Bool.false_eq_true, if_false] at hB
            simp only [upH, Bool.false_eq_true, if_false]
            refine F63b (sv c) (dts v.datas) (cls v.classes) (its v.insts) (srow met) (by simp) (by simp [H63b, hlm]) ?_
            simp [T63b, hlm]
            refine .inl ⟨_, hcl, ?_⟩
            simp [idx_cls e3]
            exact hB
          | true =>
            simp only [lpH, Bool.false_eq_true, if_false, if_true] at hB
            simp only [upH, Bool.false_eq_true, if_false, if_true]
            refine F63b (sv c) (dts v.datas) (cls v.classes) (its v.insts) (srow met) (by simp) (by simp [H63b, hlm]) ?_
            simp [T63b, hlm]
            refine ⟨_, hcl, ?_⟩
            simp [idx_cls e3]
            exact ⟨.rows (srow r), by simpa [hlr] using hB⟩
      · intro i s hs b m ⟨k1, k2, k3⟩
        have hi := lt_of_get hs
        have hw := wrap_lt hi hsl
        have hlm' := small_sym (l := m) (by omega)
        have hct := cont_strs m (by unfold maxN; omega) s
        rw [strs_srow] at hct
        cases hm : mem m s with
        | true =>
          rw [hm] at hct
          have eg : stepUp (upN v n) m s = m := by unfold stepUp; rw [if_pos hm]
          rw [eg]
          refine ⟨b, ⟨k1, k2, k3⟩, fun R => ?_⟩
          cases b with
          | false =>
            simp only [lpH, Bool.false_eq_true, if_false]
            refine L63bb0a (iv i) (iv x.supers.length) (strs x.supers) (srow m) (dts v.datas) (cls v.classes) (its v.insts) (by simp) (by simp [H63bb0a, hlm']) ?_ R
            simp [T63bb0a, hi, idx_strs hs, hct, hw, hlm']
          | true =>
            simp only [lpH, if_true]
            refine L63bb0b (iv i) (iv x.supers.length) (strs x.supers) (srow m) (dts v.datas) (cls v.classes) (its v.insts) (by simp) (by simp [H63bb0b, hlm']) ?_ R
            simp [T63bb0b, hi, idx_strs hs, hct, hw, hlm']
        | false =>
          rw [hm] at hct
          have eg : stepUp (upN v n) m s = upN v n (m ++ [s]) s := by unfold stepUp; rw [if_neg (by simp [hm])]
          rw [eg]
          have hcU := cnt_lt (h.all x hx s (List.mem_of_getElem? hs)) hm
          have hl1 : (m ++ [s]).length = m.length + 1 := by simp
          obtain ⟨b', hb', hS⟩ := ih (m ++ [s]) s (by omega) (by omega)
          have hL := upN_len h n (m ++ [s]) s
          have hsub : cnt U (upN v n (m ++ [s]) s) ≤ cnt U m := cnt_le fun y hy => upN_sub v n _ _ _ (by rw [mem_app, hy]; rfl)
          have hap := fun q => app_s m s (q := q) (by omega)
          refine ⟨true, ⟨fun e => by simp at e, by omega, by omega⟩, fun R => ?_⟩
          generalize upN v n (m ++ [s]) s = r at hb' hS hL hsub ⊢
          have hlr := small_sym (l := r) (by omega)
          have hl2 := small_sym (l := m ++ [s]) (by omega)
          cases b with
          | false =>
            simp only [lpH, Bool.false_eq_true, if_false, if_true]
            refine L63bb0a (iv i) (iv x.supers.length) (strs x.supers) (srow m) (dts v.datas) (cls v.classes) (its v.insts) (by simp) (by simp [H63bb0a, hlm']) ?_ R
            cases b' with
            | false =>
              obtain rfl := hb' rfl
              simp only [upH, Bool.false_eq_true, if_false] at hS
              simp [T63bb0a, hi, idx_strs hs, hct, hw, hlm', hap, hl2]
              exact .inl hS
            | true =>
              simp only [upH, Bool.false_eq_true, if_false, if_true] at hS
              simp [T63bb0a, hi, idx_strs hs, hct, hw, hlm', hap, hl2]
              exact .inr ⟨.rows (srow r), by simpa [hlr] using hS⟩
          | true =>
            simp only [lpH, Bool.false_eq_true, if_false, if_true]
            refine L63bb0b (iv i) (iv x.supers.length) (strs x.supers) (srow m) (dts v.datas) (cls v.classes) (its v.insts) (by simp) (by simp [H63bb0b, hlm']) ?_ R
            cases b' with
            | false =>
              obtain rfl := hb' rfl
              simp only [upH, Bool.false_eq_true, if_false] at hS
              simp [T63bb0b, hi, idx_strs hs, hct, hw, hlm', hap, hl2]
              exact .inr (.inl hS)
            | true =>
              simp only [upH, Bool.false_eq_true, if_false, if_true] at hS
              simp [T63bb0b, hi, idx_strs hs, hct, hw, hlm', hap, hl2]
              exact .inr (.inr ⟨.rows (srow r), by simpa [hlr] using hS⟩)
      · intro b m ⟨k1, k2, k3⟩ R
        have hlm' := small_sym (l := m) (by omega)
        cases b with
        | false =>
          simp only [lpH, Bool.false_eq_true, if_false]
          refine L63bb0a (iv x.supers.length) (iv x.supers.length) (strs x.supers) (srow m) (dts v.datas) (cls v.classes) (its v.insts) (by simp) (by simp [H63bb0a, hlm']) ?_ R
          simp [T63bb0a, hlm']
        | true =>
          simp only [lpH, if_true]
          refine L63bb0b (iv x.supers.length) (iv x.supers.length) (strs x.supers) (srow m) (dts v.datas) (cls v.classes) (its v.insts) (by simp) (by simp [H63bb0b, hlm']) ?_ R
          simp [T63bb0b, hlm']
    · rw [decide_eq_false h0] at hcl
      refine ⟨false, fun _ => by rw [upN, (fi_neg h0).2], ?_⟩
      rw [upN, (fi_neg h0).2]
      simp only [upH, Bool.false_eq_true, if_false]
      refine F63b (sv c) (dts v.datas) (cls v.classes) (its v.insts) (srow met) (by simp) (by simp [H63b, hlm]) ?_
      simp [T63b, upH, hlm]
      exact .inr ⟨_, hcl, by simp⟩
def uaH (v : Ev) (b : Bool) (l : List ByteArray) : List AObj := if b then [bxEnv v, bxO (.trows 3 (srow l)), bxF 0 1 2, tk l] else [bxEnv v, bxO (.pv (.lit (.slice none 0 0))), bxF 0 1 2]
def laH (v : Ev) (b : Bool) (l : List ByteArray) : List AObj := if b then [bxO (.trows 3 (srow l)), bxF 2 0 1, bxEnv v, tk l] else [bxO (.pv (.lit (.slice none 0 0))), bxF 2 0 1, bxEnv v]
theorem up_a (n : Nat) (c : ByteArray) (hc : cnt U [] < n + 1) (hM : cnt U [] ≤ 100000000000) :
    ∃ b : Bool, (b = false → upN v (n + 1) [] c = []) ∧ Sem Tryz.prog 63 [.pv (sv c), .ptr 0 0, .ptr 1 0, .ptr 2 0] (uaH v false []) (.tup []) (uaH v b (upN v (n + 1) [] c)) := by
  have hcl := class_p v h.cl c
  by_cases h0 : 0 ≤ fi (isCl c) v.classes
  · obtain ⟨k, x, e1, e2, e3, _⟩ := fi_nonneg h0
    rw [decide_eq_true h0, e1, show max (k : Int) 0 = k by omega] at hcl
    have hx := List.mem_of_getElem? e3
    have hsl := h.su x hx
    have main := fold_loop (P := Tryz.prog) (fn := Tryz.f63) (id := 0) (m0 := 3) (ex := .exit 0) x.supers (stepUp (upN v n)) (fun (b : Bool) i m => ([(24, .pv (iv i)), (23, .pv (iv x.supers.length)), (22, .pv (strs x.supers)), (2, .ptr 0 0), (3, .ptr 1 0)], laH v b m)) (fun b m => ([], laH v b m))
      (fun b m => (b = false → m = []) ∧ m.length + cnt U m ≤ cnt U [] ∧ cnt U m ≤ cnt U []) (by simp) ?_ ?_ false [] ⟨fun _ => rfl, by simp, Nat.le_refl _⟩
    · obtain ⟨b, ⟨g1, g2, _⟩, g3⟩ := main
      refine ⟨b, ?_, ?_⟩
      · intro hb; rw [upN, e2]; simp only [supsAt, e3]; exact g1 hb
      · have eU : upN v (n + 1) [] c = x.supers.foldl (stepUp (upN v n)) [] := by rw [upN, e2]; simp only [supsAt, e3]
        rw [eU]
        generalize x.supers.foldl (stepUp (upN v n)) [] = r at g1 g2 g3 ⊢
        have hlr := small_sym (l := r) (by omega)
        have hB := LoopS.block (h := laH v false []) f63_loop0 (by simp [laH]) g3
        cases b with
        | false =>
          simp only [laH, Bool.false_eq_true, if_false] at hB
          simp only [uaH, Bool.false_eq_true, if_false]
          refine F63a (sv c) (dts v.datas) (cls v.classes) (its v.insts) (by simp) (by simp [H63a]) ?_
          simp [T63a]
          refine .inl ⟨_, hcl, ?_⟩
          simp [idx_cls e3]
          exact hB
        | true =>
          simp only [laH, Bool.false_eq_true, if_false, if_true] at hB
          simp only [uaH, Bool.false_eq_true, if_false, if_true]
          refine F63a (sv c) (dts v.datas) (cls v.classes) (its v.insts) (by simp) (by simp [H63a]) ?_
          simp [T63a]
          refine ⟨_, hcl, ?_⟩
          simp [idx_cls e3]
          exact ⟨.rows (srow r), by simpa [hlr] using hB⟩
    · intro i s hs b m ⟨k1, k2, k3⟩
      have hi := lt_of_get hs
      have hw := wrap_lt hi hsl
      have hlm' := small_sym (l := m) (by omega)
      have hct := cont_strs m (by unfold maxN; omega) s
      rw [strs_srow] at hct
      cases hm : mem m s with
      | true =>
        rw [hm] at hct
        have eg : stepUp (upN v n) m s = m := by unfold stepUp; rw [if_pos hm]
        rw [eg]
        refine ⟨b, ⟨k1, k2, k3⟩, fun R => ?_⟩
        cases b with
        | false => rw [k1 rfl] at hm; cases hm
        | true =>
          simp only [laH, if_true]
          refine L63ab0b (iv i) (iv x.supers.length) (strs x.supers) (srow m) (dts v.datas) (cls v.classes) (its v.insts) (by simp) (by simp [H63ab0b, hlm']) ?_ R
          simp [T63ab0b, hi, idx_strs hs, hct, hw, hlm']
      | false =>
        rw [hm] at hct
        have eg : stepUp (upN v n) m s = upN v n (m ++ [s]) s := by unfold stepUp; rw [if_neg (by simp [hm])]
        rw [eg]
        have hcU := cnt_lt (h.all x hx s (List.mem_of_getElem? hs)) hm
        have hl1 : (m ++ [s]).length = m.length + 1 := by simp
        obtain ⟨b', hb', hS⟩ := up_b h n (m ++ [s]) s (by omega) (by omega)
        have hL := upN_len h n (m ++ [s]) s
        have hsub : cnt U (upN v n (m ++ [s]) s) ≤ cnt U m := cnt_le fun y hy => upN_sub v n _ _ _ (by rw [mem_app, hy]; rfl)
        have hap := fun q => app_s m s (q := q) (by omega)
        refine ⟨true, ⟨fun e => by simp at e, by omega, by omega⟩, fun R => ?_⟩
        generalize upN v n (m ++ [s]) s = r at hb' hS hL hsub ⊢
        have hlr := small_sym (l := r) (by omega)
        have hl2 := small_sym (l := m ++ [s]) (by omega)
        cases b with
        | false =>
          obtain rfl := k1 rfl
          simp only [List.nil_append] at hb' hS hl2
          rw [srow_nil] at hct
          simp only [laH, Bool.false_eq_true, if_false, if_true]
          refine L63ab0a (iv i) (iv x.supers.length) (strs x.supers) (dts v.datas) (cls v.classes) (its v.insts) (by simp) (by simp [H63ab0a]) ?_ R
          have h1 : (1 : Nat) < symBase := by decide
          cases b' with
          | false =>
            obtain rfl := hb' rfl
            simp only [upH, Bool.false_eq_true, if_false, srow_one] at hS
            simp [T63ab0a, hi, idx_strs hs, hct, hw, h1, srow_one]
            first | exact .inl hS | exact .inl ⟨hS, rfl, rfl⟩
          | true =>
            simp only [upH, Bool.false_eq_true, if_false, if_true, srow_one] at hS
            simp [T63ab0a, hi, idx_strs hs, hct, hw, h1]
            exact .inr ⟨.rows (srow r), hS, by simp [hlr]⟩
        | true =>
          simp only [laH, Bool.false_eq_true, if_false, if_true]
          refine L63ab0b (iv i) (iv x.supers.length) (strs x.supers) (srow m) (dts v.datas) (cls v.classes) (its v.insts) (by simp) (by simp [H63ab0b, hlm']) ?_ R
          cases b' with
          | false =>
            obtain rfl := hb' rfl
            simp only [upH, Bool.false_eq_true, if_false] at hS
            simp [T63ab0b, hi, idx_strs hs, hct, hw, hlm', hap, hl2]
            exact .inr (.inl hS)
          | true =>
            simp only [upH, Bool.false_eq_true, if_false, if_true] at hS
            simp [T63ab0b, hi, idx_strs hs, hct, hw, hlm', hap, hl2]
            exact .inr (.inr ⟨.rows (srow r), by simpa [hlr] using hS⟩)
    · intro b m ⟨k1, k2, k3⟩ R
      have hlm' := small_sym (l := m) (by omega)
      cases b with
      | false =>
        simp only [laH, Bool.false_eq_true, if_false]
        refine L63ab0a (iv x.supers.length) (iv x.supers.length) (strs x.supers) (dts v.datas) (cls v.classes) (its v.insts) (by simp) (by simp [H63ab0a]) ?_ R
        simp [T63ab0a]
      | true =>
        simp only [laH, if_true]
        refine L63ab0b (iv x.supers.length) (iv x.supers.length) (strs x.supers) (srow m) (dts v.datas) (cls v.classes) (its v.insts) (by simp) (by simp [H63ab0b, hlm']) ?_ R
        simp [T63ab0b, hlm']
  · rw [decide_eq_false h0] at hcl
    refine ⟨false, fun _ => by rw [upN, (fi_neg h0).2], ?_⟩
    rw [upN, (fi_neg h0).2]
    simp only [uaH, Bool.false_eq_true, if_false]
    refine F63a (sv c) (dts v.datas) (cls v.classes) (its v.insts) (by simp) (by simp [H63a]) ?_
    simp [T63a]
    exact .inr ⟨_, hcl, by simp⟩
theorem above_p (c : ByteArray) (hM : cnt U [] ≤ 100000000000) : Sem Tryz.prog 26 [evA v, .pv (sv c)] [] (.pv (strs (upN v (cnt U [] + 1) [] c))) [] := by
  obtain ⟨b, g1, g2⟩ := up_a h (cnt U []) c (by omega) hM
  have hL := upN_len h (cnt U [] + 1) [] c
  generalize upN v (cnt U [] + 1) [] c = r at g1 g2 hL ⊢
  have hlr := small_sym (l := r) (by simp at hL; omega)
  cases b with
  | false =>
    obtain rfl := g1 rfl
    have key : Sem Tryz.prog 26 [evA v, .pv (sv c)] [] (.pv (.lit (.slice none 0 0))) [] := by
      refine F26 _ _ _ _ (by simp) ?_
      simp only [uaH, Bool.false_eq_true, if_false] at g2
      simp [T26]
      exact g2
    exact Sem.forget key rfl
  | true =>
    have key : Sem Tryz.prog 26 [evA v, .pv (sv c)] [] (.trows 0 (srow r)) [tk r] := by
      refine F26 _ _ _ _ (by simp) ?_
      simp only [uaH, Bool.false_eq_true, if_false, if_true] at g2
      simp [T26]
      exact ⟨.rows (srow r), by simpa [hlr] using g2⟩
    exact Sem.forget key rfl
end
end Go.Proofs.YtjpjcjnacnlhdaaGreat
