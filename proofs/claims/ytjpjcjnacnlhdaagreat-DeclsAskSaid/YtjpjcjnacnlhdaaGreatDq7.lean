/- Texts alike; a program of few parts. -/
import Derived.Test.YtjpjcjnacnlhdaaGreatDq6
namespace Go.Proofs.YtjpjcjnacnlhdaaGreat
open Go.RowKit
set_option linter.unusedSimpArgs false
set_option linter.unusedVariables false

inductive Pt.Ok : Pt → Prop where
  | mk (k : Int) (s : ByteArray) (n : Int) (ks : List Pt) (a : Int) (h : ks.length ≤ maxN) (hk : ∀ t ∈ ks, Pt.Ok t) : Pt.Ok (.mk k s n ks a)
mutual
def Ex.Ok : Ex → Prop
  | .mk _ _ _ t ks xs bs _ => t.Ok ∧ (ks.length ≤ maxN ∧ Ex.OkL ks) ∧ (xs.length ≤ maxN ∧ Al.OkL xs) ∧ (bs.length ≤ maxN ∧ Bd.OkL bs)
def Al.Ok : Al → Prop
  | .mk p e => p.Ok ∧ e.Ok
def Bd.Ok : Bd → Prop
  | .mk _ e _ => e.Ok
def Ex.OkL : List Ex → Prop
  | [] => True
  | x :: l => x.Ok ∧ Ex.OkL l
def Al.OkL : List Al → Prop
  | [] => True
  | x :: l => x.Ok ∧ Al.OkL l
def Bd.OkL : List Bd → Prop
  | [] => True
  | x :: l => x.Ok ∧ Bd.OkL l
end
theorem Ex.OkL_iff : ∀ l, Ex.OkL l ↔ ∀ x ∈ l, x.Ok
  | [] => by simp [Ex.OkL]
  | x :: l => by simp [Ex.OkL, Ex.OkL_iff l]
theorem Al.OkL_iff : ∀ l, Al.OkL l ↔ ∀ x ∈ l, x.Ok
  | [] => by simp [Al.OkL]
  | x :: l => by simp [Al.OkL, Al.OkL_iff l]
theorem Bd.OkL_iff : ∀ l, Bd.OkL l ↔ ∀ x ∈ l, x.Ok
  | [] => by simp [Bd.OkL]
  | x :: l => by simp [Bd.OkL, Bd.OkL_iff l]
def Cn.Ok (x : Cn) : Prop := x.args.length ≤ maxN ∧ ∀ y ∈ x.args, y.Ok
def Dt.Ok (x : Dt) : Prop := x.params.length ≤ maxN ∧ (x.cons.length ≤ maxN ∧ ∀ y ∈ x.cons, y.Ok) ∧ x.deriv.length ≤ maxN
def Md.Ok (x : Md) : Prop := x.t.Ok
def Cl.Ok (x : Cl) : Prop := x.supers.length ≤ maxN ∧ (x.methods.length ≤ maxN ∧ ∀ y ∈ x.methods, y.Ok) ∧ (x.defaults.length ≤ maxN ∧ ∀ y ∈ x.defaults, y.Ok)
def Pd.Ok (x : Pd) : Prop := x.t.Ok
def It.Ok (x : It) : Prop := x.head.Ok ∧ (x.ctx.length ≤ maxN ∧ ∀ y ∈ x.ctx, y.Ok) ∧ (x.binds.length ≤ maxN ∧ ∀ y ∈ x.binds, y.Ok)
structure Pg.Ok (p : Pg) : Prop where
  dn : p.datas.length ≤ maxN
  d : ∀ x ∈ p.datas, x.Ok
  cn : p.classes.length ≤ maxN
  c : ∀ x ∈ p.classes, x.Ok
  tn : p.insts.length ≤ maxN
  t : ∀ x ∈ p.insts, x.Ok
  bn : p.binds.length ≤ maxN
  b : ∀ x ∈ p.binds, x.Ok
section
variable {P : Program} {fn : Func} {id m0 : Nat} {ex : AExit}
/-- A loop with a number that is not looked at. -/
theorem num_loop {α : Type} (l : List α) (st : Nat → Int → Env) (H : List AObj) (fin : Int → Env) (hx : ex ≠ .normal)
    (step : ∀ i x, l[i]? = some x → ∀ n, (∃ n', ∀ R, CodeB R P fn.ntmps (lb fn id) m0 (st i n) H .normal (st (i + 1) n') H) ∨ (∀ R, CodeB R P fn.ntmps (lb fn id) m0 (st i n) H ex (fin n) H))
    (done : ∀ n R, CodeB R P fn.ntmps (lb fn id) m0 (st l.length n) H ex (fin n) H) (n : Int) :
    ∃ n', LoopS P fn id m0 (st 0 n) H ex (fin n') H := by
  have key : ∀ (m i : Nat) (n : Int), l.length - i = m → i ≤ l.length → ∃ n', LoopS P fn id m0 (st i n) H ex (fin n') H := by
    intro m
    induction m with
    | zero =>
      intro i n hm hi
      have : i = l.length := by omega
      subst this
      exact ⟨n, LoopS.done (done n) hx⟩
    | succ m ih =>
      intro i n hm hi
      rcases step i _ (List.getElem?_eq_getElem (by omega)) n with ⟨n1, h1⟩ | h1
      · obtain ⟨n2, h2⟩ := ih (i + 1) n1 (by omega) (by omega)
        exact ⟨n2, LoopS.again h1 h2⟩
      · exact ⟨n, LoopS.done h1 hx⟩
  exact key l.length 0 n (by omega) (Nat.zero_le _)
/-- A loop that leaves at what is not such. -/
theorem ck_loop {α : Type} (l : List α) (Q : α → Prop) (st : Nat → Env) (H : List AObj) (fin ff : Env) (hx : ex ≠ .normal)
    (step : ∀ i x, l[i]? = some x → (Q x ∧ ∀ R, CodeB R P fn.ntmps (lb fn id) m0 (st i) H .normal (st (i + 1)) H) ∨ (∀ R, CodeB R P fn.ntmps (lb fn id) m0 (st i) H .ret ff H))
    (done : ∀ R, CodeB R P fn.ntmps (lb fn id) m0 (st l.length) H ex fin H) :
    ((∀ x ∈ l, Q x) ∧ LoopS P fn id m0 (st 0) H ex fin H) ∨ LoopS P fn id m0 (st 0) H .ret ff H := by
  have key : ∀ (m i : Nat), l.length - i = m → i ≤ l.length → ((∀ x ∈ l.drop i, Q x) ∧ LoopS P fn id m0 (st i) H ex fin H) ∨ LoopS P fn id m0 (st i) H .ret ff H := by
    intro m
    induction m with
    | zero =>
      intro i hm hi
      have : i = l.length := by omega
      subst this
      exact .inl ⟨by simp, LoopS.done done hx⟩
    | succ m ih =>
      intro i hm hi
      have hlt : i < l.length := by omega
      rcases step i _ (List.getElem?_eq_getElem hlt) with ⟨h0, h1⟩ | h1
      · rcases ih (i + 1) (by omega) (by omega) with ⟨g1, g2⟩ | g2
        · refine .inl ⟨?_, LoopS.again h1 g2⟩
          rw [List.drop_eq_getElem_cons hlt]
          intro x hx
          rcases List.mem_cons.1 hx with rfl | hx
          · exact h0
          · exact g1 x hx
        · exact .inr (LoopS.again h1 g2)
      · exact .inr (LoopS.done h1 (by simp))
  simpa using key l.length 0 (by omega) (Nat.zero_le _)
end
/-! Texts alike. -/
theorem texts_same (l : List ByteArray) (hl : l.length ≤ maxN) : Sem Tryz.prog 25 [.pv (strs l), .pv (strs l)] [] (.pv (bv true)) [] := by
  have main := num_loop (P := Tryz.prog) (fn := Tryz.f25) (id := 0) (m0 := 0) (ex := .exit 0) l (fun i _ => [(5, .pv (iv i)), (0, .pv (strs l)), (1, .pv (strs l))]) [] (fun _ => []) (by simp) ?_ ?_ 0
  · obtain ⟨_, g⟩ := main
    have hB := LoopS.block (h := []) f25_loop0 (by simp) g
    refine F25 _ _ (by simp) ?_
    simp [T25]
    exact .inl hB
  · intro i x hx _
    have hi := lt_of_get hx
    have hw := wrap_lt hi hl
    refine .inl ⟨0, fun R => ?_⟩
    refine L25b0a (iv i) (strs l) (strs l) (by simp) ?_ R
    simp [T25b0a, hi, idx_strs hx, hw]
  · intro _ R
    refine L25b0a (iv l.length) (strs l) (strs l) (by simp) ?_ R
    simp [T25b0a]
/-! How many parts. -/
abbrev bxEx (e : Ex) : AObj := .box 87 [.pv (iv e.kind), .pv (sv e.name), .pv (iv e.n), .pv (iv e.t.kind), .pv (sv e.t.name), .pv (iv e.t.n), .pv (tys e.t.kids), .pv (exs e.kids), .pv (als e.alts), .pv (bds e.binds), .pv (iv e.at_)]
def Cnt (e : Ex) : Prop := ∀ m : Int, ∃ r : Int, Sem Tryz.prog 123 [exA e, .pv (iv m)] [] (.pv (iv r)) []
theorem count_step (e : Ex) (hkl : e.kids.length ≤ maxN) (hal : e.alts.length ≤ maxN) (hbl : e.binds.length ≤ maxN) (hk : ∀ x ∈ e.kids, Cnt x) (ha : ∀ x ∈ e.alts, Cnt x.e) (hb : ∀ x ∈ e.binds, Cnt x.e) : Cnt e := by
  intro m
  have m1 := num_loop (P := Tryz.prog) (fn := Tryz.f123) (id := 0) (m0 := 1) (ex := .exit 0) e.kids (fun i n => [(6, .pv (iv i)), (2, .ptr 0 0), (5, .pv (iv n)), (1, .pv (iv m))]) [bxEx e] (fun n => [(2, .ptr 0 0), (5, .pv (iv n)), (1, .pv (iv m))]) (by simp) ?_ ?_ (IntKind.i64.wrap (1 + (e.t.kids.length : Int)))
  · obtain ⟨n1, g1⟩ := m1
    have m2 := num_loop (P := Tryz.prog) (fn := Tryz.f123) (id := 2) (m0 := 1) (ex := .exit 2) e.binds (fun i n => [(7, .pv (iv i)), (2, .ptr 0 0), (5, .pv (iv n)), (1, .pv (iv m))]) [bxEx e] (fun n => [(2, .ptr 0 0), (5, .pv (iv n)), (1, .pv (iv m))]) (by simp) ?_ ?_ n1
    · obtain ⟨n2, g2⟩ := m2
      have m3 := num_loop (P := Tryz.prog) (fn := Tryz.f123) (id := 4) (m0 := 1) (ex := .exit 4) e.alts (fun i n => [(8, .pv (iv i)), (2, .ptr 0 0), (5, .pv (iv n)), (1, .pv (iv m))]) [bxEx e] (fun n => [(5, .pv (iv n))]) (by simp) ?_ ?_ n2
      · obtain ⟨n3, g3⟩ := m3
        have b1 := LoopS.block (h := [bxEx e]) f123_loop0 (by simp) g1
        have b2 := LoopS.block (h := [bxEx e]) f123_loop2 (by simp) g2
        have b3 := LoopS.block (h := [bxEx e]) f123_loop4 (by simp) g3
        refine ⟨n3, ?_⟩
        refine F123 _ _ _ _ _ _ _ _ _ _ _ _ (by simp) ?_
        simp [T123]
        exact ⟨_, b1, ⟨_, b2, ⟨_, b3, by simp⟩, by simp⟩, by simp⟩
      · intro i x hx n
        have hi := lt_of_get hx
        have hw := wrap_lt hi hal
        by_cases hn : n < m
        · obtain ⟨r, hr⟩ := ha x (List.mem_of_getElem? hx) (IntKind.i64.wrap (m - n))
          refine .inl ⟨IntKind.i64.wrap (n + IntKind.i64.wrap (IntKind.i64.wrap (1 + r) + (x.p.kids.length : Int))), fun R => ?_⟩
          refine L123b4a (iv i) (iv n) (iv m) _ _ _ _ _ _ _ _ _ _ _ (by simp) (by simp [H123b4a]) ?_ R
          simp [T123b4a, hi, idx_als hx, hw, hn]
          exact ⟨_, hr, by simp⟩
        · refine .inr fun R => ?_
          refine L123b4a (iv i) (iv n) (iv m) _ _ _ _ _ _ _ _ _ _ _ (by simp) (by simp [H123b4a]) ?_ R
          simp [T123b4a, hi, hn]
      · intro n R
        refine L123b4a (iv e.alts.length) (iv n) (iv m) _ _ _ _ _ _ _ _ _ _ _ (by simp) (by simp [H123b4a]) ?_ R
        simp [T123b4a]
    · intro i x hx n
      have hi := lt_of_get hx
      have hw := wrap_lt hi hbl
      by_cases hn : n < m
      · obtain ⟨r, hr⟩ := hb x (List.mem_of_getElem? hx) (IntKind.i64.wrap (m - n))
        refine .inl ⟨IntKind.i64.wrap (n + IntKind.i64.wrap (1 + r)), fun R => ?_⟩
        refine L123b2a (iv i) (iv n) (iv m) _ _ _ _ _ _ _ _ _ _ _ (by simp) (by simp [H123b2a]) ?_ R
        simp [T123b2a, hi, idx_bds hx, hw, hn]
        exact ⟨_, hr, by simp⟩
      · refine .inr fun R => ?_
        refine L123b2a (iv i) (iv n) (iv m) _ _ _ _ _ _ _ _ _ _ _ (by simp) (by simp [H123b2a]) ?_ R
        simp [T123b2a, hi, hn]
    · intro n R
      refine L123b2a (iv e.binds.length) (iv n) (iv m) _ _ _ _ _ _ _ _ _ _ _ (by simp) (by simp [H123b2a]) ?_ R
      simp [T123b2a]
  · intro i x hx n
    have hi := lt_of_get hx
    have hw := wrap_lt hi hkl
    by_cases hn : n < m
    · obtain ⟨r, hr⟩ := hk x (List.mem_of_getElem? hx) (IntKind.i64.wrap (m - n))
      refine .inl ⟨IntKind.i64.wrap (n + r), fun R => ?_⟩
      refine L123b0a (iv i) (iv n) (iv m) _ _ _ _ _ _ _ _ _ _ _ (by simp) (by simp [H123b0a]) ?_ R
      simp [T123b0a, hi, idx_exs hx, hw, hn]
      exact ⟨_, hr, by simp⟩
    · refine .inr fun R => ?_
      refine L123b0a (iv i) (iv n) (iv m) _ _ _ _ _ _ _ _ _ _ _ (by simp) (by simp [H123b0a]) ?_ R
      simp [T123b0a, hi, hn]
  · intro n R
    refine L123b0a (iv e.kids.length) (iv n) (iv m) _ _ _ _ _ _ _ _ _ _ _ (by simp) (by simp [H123b0a]) ?_ R
    simp [T123b0a]
mutual
theorem count_ex : ∀ e : Ex, e.Ok → Cnt e
  | .mk k s n t ks xs bs a, h => by
    rw [Ex.Ok] at h
    have h1 := count_exL ks
    have h2 := count_alL xs
    have h3 := count_bdL bs
    exact count_step (.mk k s n t ks xs bs a) h.2.1.1 h.2.2.1.1 h.2.2.2.1 (h1 h.2.1.2) (h2 h.2.2.1.2) (h3 h.2.2.2.2)
theorem count_al : ∀ x : Al, x.Ok → Cnt x.e
  | .mk p e, h => by
    have h1 := count_ex e
    rw [Al.Ok] at h
    exact h1 h.2
theorem count_bd : ∀ x : Bd, x.Ok → Cnt x.e
  | .mk s e a, h => by
    have h1 := count_ex e
    rw [Bd.Ok] at h
    exact h1 h
theorem count_exL : ∀ l : List Ex, Ex.OkL l → ∀ x ∈ l, Cnt x
  | [], _, x, hx => by cases hx
  | y :: l, h, x, hx => by
    have h1 := count_ex y
    have h2 := count_exL l
    rw [Ex.OkL] at h
    rcases List.mem_cons.1 hx with e | hx
    · rw [e]; exact h1 h.1
    · exact h2 h.2 x hx
theorem count_alL : ∀ l : List Al, Al.OkL l → ∀ x ∈ l, Cnt x.e
  | [], _, x, hx => by cases hx
  | y :: l, h, x, hx => by
    have h1 := count_al y
    have h2 := count_alL l
    rw [Al.OkL] at h
    rcases List.mem_cons.1 hx with e | hx
    · rw [e]; exact h1 h.1
    · exact h2 h.2 x hx
theorem count_bdL : ∀ l : List Bd, Bd.OkL l → ∀ x ∈ l, Cnt x.e
  | [], _, x, hx => by cases hx
  | y :: l, h, x, hx => by
    have h1 := count_bd y
    have h2 := count_bdL l
    rw [Bd.OkL] at h
    rcases List.mem_cons.1 hx with e | hx
    · rw [e]; exact h1 h.1
    · exact h2 h.2 x hx
end
theorem small_ex (e : Ex) (h : e.Ok) (m : Int) : ∃ b : Bool, Sem Tryz.prog 91 [exA e, .pv (iv m)] [] (.pv (bv b)) [] := by
  obtain ⟨r, hr⟩ := count_ex e h (IntKind.i64.wrap (m + 1))
  refine ⟨decide (r ≤ m), ?_⟩
  refine F91 _ _ _ _ _ _ _ _ _ _ _ _ (by simp) ?_
  simp [T91]
  exact ⟨_, hr, by by_cases hh : r ≤ m <;> simp [hh] <;> omega⟩
end Go.Proofs.YtjpjcjnacnlhdaaGreat
