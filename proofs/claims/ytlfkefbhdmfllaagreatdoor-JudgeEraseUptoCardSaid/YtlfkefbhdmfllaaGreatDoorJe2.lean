/- How much is counted of a typing: there is an answer. Printed by je2.py. -/
import Derived.Test.YtlfkefbhdmfllaaGreatDoorJe
namespace Go.Proofs.YtlfkefbhdmfllaaGreatDoor
open Go.RowKit
set_option linter.unusedSimpArgs false
set_option linter.unusedVariables false

theorem X_txs {l : List Tx} {i : Nat} {x : Tx} (h : l[i]? = some x) (K : PV → PV → PV → PV → PV → PV → PV → PV → PV → PV → PV → PV → Sm) (O : Q → Option Rs) : R.X (T := Sm) 25 (txs l) (iv (i : Int)) (R.w12 K) O = K (iv x.kind) (sv x.name) (iv x.n) (iv x.t.kind) (sv x.t.name) (iv x.t.n) (tys x.t.kids) (tys x.ts) (txs x.kids) (tas x.alts) (tbs x.binds) (iv x.at_) O := by
  rw [m_X, xV, idxK_txs h, cptrK_c]; rfl
theorem X_tas {l : List Ta} {i : Nat} {x : Ta} (h : l[i]? = some x) (K : PV → PV → PV → PV → PV → PV → PV → PV → PV → PV → PV → PV → PV → PV → PV → PV → PV → Sm) (O : Q → Option Rs) : R.X (T := Sm) 26 (tas l) (iv (i : Int)) (R.w17 K) O = K (iv x.p.kind) (sv x.p.name) (iv x.p.n) (pts x.p.kids) (iv x.p.at_) (iv x.e.kind) (sv x.e.name) (iv x.e.n) (iv x.e.t.kind) (sv x.e.t.name) (iv x.e.t.n) (tys x.e.t.kids) (tys x.e.ts) (txs x.e.kids) (tas x.e.alts) (tbs x.e.binds) (iv x.e.at_) O := by
  rw [m_X, xV, idxK_tas h, cptrK_c]; rfl
theorem X_tbs {l : List Tb} {i : Nat} {x : Tb} (h : l[i]? = some x) (K : PV → PV → PV → PV → PV → PV → PV → PV → PV → PV → PV → PV → PV → PV → PV → PV → Sm) (O : Q → Option Rs) : R.X (T := Sm) 27 (tbs l) (iv (i : Int)) (R.w16 K) O = K (sv x.name) (strs x.vars) (pds x.ps) (iv x.e.kind) (sv x.e.name) (iv x.e.n) (iv x.e.t.kind) (sv x.e.t.name) (iv x.e.t.n) (tys x.e.t.kids) (tys x.e.ts) (txs x.e.kids) (tas x.e.alts) (tbs x.e.binds) (iv x.e.at_) (iv x.at_) O := by
  rw [m_X, xV, idxK_tbs h, cptrK_c]; rfl
theorem X0_txs {l : List Tx} {x : Tx} (K : PV → PV → PV → PV → PV → PV → PV → PV → PV → PV → PV → PV → Sm) (O : Q → Option Rs) : R.X (T := Sm) 25 (txs (x :: l)) (iv 0) (R.w12 K) O = K (iv x.kind) (sv x.name) (iv x.n) (iv x.t.kind) (sv x.t.name) (iv x.t.n) (tys x.t.kids) (tys x.ts) (txs x.kids) (tas x.alts) (tbs x.binds) (iv x.at_) O := X_txs (l := x :: l) (i := 0) rfl K O
theorem X0_tas {l : List Ta} {x : Ta} (K : PV → PV → PV → PV → PV → PV → PV → PV → PV → PV → PV → PV → PV → PV → PV → PV → PV → Sm) (O : Q → Option Rs) : R.X (T := Sm) 26 (tas (x :: l)) (iv 0) (R.w17 K) O = K (iv x.p.kind) (sv x.p.name) (iv x.p.n) (pts x.p.kids) (iv x.p.at_) (iv x.e.kind) (sv x.e.name) (iv x.e.n) (iv x.e.t.kind) (sv x.e.t.name) (iv x.e.t.n) (tys x.e.t.kids) (tys x.e.ts) (txs x.e.kids) (tas x.e.alts) (tbs x.e.binds) (iv x.e.at_) O := X_tas (l := x :: l) (i := 0) rfl K O
theorem X0_tbs {l : List Tb} {x : Tb} (K : PV → PV → PV → PV → PV → PV → PV → PV → PV → PV → PV → PV → PV → PV → PV → PV → Sm) (O : Q → Option Rs) : R.X (T := Sm) 27 (tbs (x :: l)) (iv 0) (R.w16 K) O = K (sv x.name) (strs x.vars) (pds x.ps) (iv x.e.kind) (sv x.e.name) (iv x.e.n) (iv x.e.t.kind) (sv x.e.t.name) (iv x.e.t.n) (tys x.e.t.kids) (tys x.e.ts) (txs x.e.kids) (tas x.e.alts) (tbs x.e.binds) (iv x.e.at_) (iv x.at_) O := X_tbs (l := x :: l) (i := 0) rfl K O
def CntX (x : Tx) : Prop := ∀ m : Int, ∃ c : Int, ev (q16 (iv x.kind) (sv x.name) (iv x.n) (iv x.t.kind) (sv x.t.name) (iv x.t.n) (tys x.t.kids) (tys x.ts) (txs x.kids) (tas x.alts) (tbs x.binds) (iv x.at_) (iv m)) = some (0, [iv c])
theorem cnt_k (x : Tx) (m : Int) (hl : x.kids.length ≤ maxN) (h : ∀ y ∈ x.kids, CntX y) (a0 : Int) : ∃ c : Int, ev (q16b0a (iv 0) (iv a0) (iv m) (iv x.kind) (sv x.name) (iv x.n) (iv x.t.kind) (sv x.t.name) (iv x.t.n) (tys x.t.kids) (tys x.ts) (txs x.kids) (tas x.alts) (tbs x.binds) (iv x.at_)) = some (0, [iv x.kind, sv x.name, iv x.n, iv x.t.kind, sv x.t.name, iv x.t.n, tys x.t.kids, tys x.ts, txs x.kids, tas x.alts, tbs x.binds, iv x.at_, iv c, iv m]) := by
  have lp := ev_ex x.kids (fun i a => q16b0a (iv (i : Int)) (iv a) (iv m) (iv x.kind) (sv x.name) (iv x.n) (iv x.t.kind) (sv x.t.name) (iv x.t.n) (tys x.t.kids) (tys x.ts) (txs x.kids) (tas x.alts) (tbs x.binds) (iv x.at_)) (fun r => ∃ c : Int, r = (0, [iv x.kind, sv x.name, iv x.n, iv x.t.kind, sv x.t.name, iv x.t.n, tys x.t.kids, tys x.ts, txs x.kids, tas x.alts, tbs x.binds, iv x.at_, iv c, iv m])) hl
    (fun i j a y e0 hx hi hm => by
      show (∃ r, body PG EE TT ev (q16b0a (iv (i : Int)) (iv a) (iv m) (iv x.kind) (sv x.name) (iv x.n) (iv x.t.kind) (sv x.t.name) (iv x.t.n) (tys x.t.kids) (tys x.ts) (txs x.kids) (tas x.alts) (tbs x.binds) (iv x.at_)) = .ok r ∧ _) ∨ ∃ a', body PG EE TT ev (q16b0a (iv (i : Int)) (iv a) (iv m) (iv x.kind) (sv x.name) (iv x.n) (iv x.t.kind) (sv x.t.name) (iv x.t.n) (tys x.t.kids) (tys x.ts) (txs x.kids) (tas x.alts) (tbs x.binds) (iv x.at_)) = passK (ev (q16b0a (iv (j : Int)) (iv a') (iv m) (iv x.kind) (sv x.name) (iv x.n) (iv x.t.kind) (sv x.t.name) (iv x.t.n) (tys x.t.kids) (tys x.ts) (txs x.kids) (tas x.alts) (tbs x.binds) (iv x.at_)))
      rw [h16b0a, g16b0a]
      by_cases h1 : a < m
      · obtain ⟨c, hc⟩ := h y hm (IntKind.i64.wrap (m - a))
        refine .inr ⟨IntKind.i64.wrap (a + c), ?_⟩
        simp [-m_X, hi, h1, ↓X_txs hx, hc, e0]
      · refine .inl ⟨_, ?_, a, rfl⟩
        simp [hi, h1])
    (fun a => ⟨(0, [iv x.kind, sv x.name, iv x.n, iv x.t.kind, sv x.t.name, iv x.t.n, tys x.t.kids, tys x.ts, txs x.kids, tas x.alts, tbs x.binds, iv x.at_, iv a, iv m]), by
      show body PG EE TT ev (q16b0a (iv (x.kids.length : Int)) (iv a) (iv m) (iv x.kind) (sv x.name) (iv x.n) (iv x.t.kind) (sv x.t.name) (iv x.t.n) (tys x.t.kids) (tys x.ts) (txs x.kids) (tas x.alts) (tbs x.binds) (iv x.at_)) = .ok (0, [iv x.kind, sv x.name, iv x.n, iv x.t.kind, sv x.t.name, iv x.t.n, tys x.t.kids, tys x.ts, txs x.kids, tas x.alts, tbs x.binds, iv x.at_, iv a, iv m])
      rw [h16b0a, g16b0a]
      simp, a, rfl⟩) a0
  obtain ⟨r, hr, c, rfl⟩ := lp
  exact ⟨c, hr⟩
theorem cnt_a (x : Tx) (m : Int) (hl : x.alts.length ≤ maxN) (h : ∀ y ∈ x.alts, CntX y.e) (a0 : Int) : ∃ c : Int, ev (q16b2a (iv 0) (iv a0) (iv m) (iv x.kind) (sv x.name) (iv x.n) (iv x.t.kind) (sv x.t.name) (iv x.t.n) (tys x.t.kids) (tys x.ts) (txs x.kids) (tas x.alts) (tbs x.binds) (iv x.at_)) = some (0, [iv x.kind, sv x.name, iv x.n, iv x.t.kind, sv x.t.name, iv x.t.n, tys x.t.kids, tys x.ts, txs x.kids, tas x.alts, tbs x.binds, iv x.at_, iv c, iv m]) := by
  have lp := ev_ex x.alts (fun i a => q16b2a (iv (i : Int)) (iv a) (iv m) (iv x.kind) (sv x.name) (iv x.n) (iv x.t.kind) (sv x.t.name) (iv x.t.n) (tys x.t.kids) (tys x.ts) (txs x.kids) (tas x.alts) (tbs x.binds) (iv x.at_)) (fun r => ∃ c : Int, r = (0, [iv x.kind, sv x.name, iv x.n, iv x.t.kind, sv x.t.name, iv x.t.n, tys x.t.kids, tys x.ts, txs x.kids, tas x.alts, tbs x.binds, iv x.at_, iv c, iv m])) hl
    (fun i j a y e0 hx hi hm => by
      show (∃ r, body PG EE TT ev (q16b2a (iv (i : Int)) (iv a) (iv m) (iv x.kind) (sv x.name) (iv x.n) (iv x.t.kind) (sv x.t.name) (iv x.t.n) (tys x.t.kids) (tys x.ts) (txs x.kids) (tas x.alts) (tbs x.binds) (iv x.at_)) = .ok r ∧ _) ∨ ∃ a', body PG EE TT ev (q16b2a (iv (i : Int)) (iv a) (iv m) (iv x.kind) (sv x.name) (iv x.n) (iv x.t.kind) (sv x.t.name) (iv x.t.n) (tys x.t.kids) (tys x.ts) (txs x.kids) (tas x.alts) (tbs x.binds) (iv x.at_)) = passK (ev (q16b2a (iv (j : Int)) (iv a') (iv m) (iv x.kind) (sv x.name) (iv x.n) (iv x.t.kind) (sv x.t.name) (iv x.t.n) (tys x.t.kids) (tys x.ts) (txs x.kids) (tas x.alts) (tbs x.binds) (iv x.at_)))
      rw [h16b2a, g16b2a]
      by_cases h1 : a < m
      · obtain ⟨c, hc⟩ := h y hm (IntKind.i64.wrap (m - a))
        refine .inr ⟨IntKind.i64.wrap (a + IntKind.i64.wrap (IntKind.i64.wrap (1 + c) + (y.p.kids.length : Int))), ?_⟩
        simp [-m_X, hi, h1, ↓X_tas hx, hc, e0]
      · refine .inl ⟨_, ?_, a, rfl⟩
        simp [hi, h1])
    (fun a => ⟨(0, [iv x.kind, sv x.name, iv x.n, iv x.t.kind, sv x.t.name, iv x.t.n, tys x.t.kids, tys x.ts, txs x.kids, tas x.alts, tbs x.binds, iv x.at_, iv a, iv m]), by
      show body PG EE TT ev (q16b2a (iv (x.alts.length : Int)) (iv a) (iv m) (iv x.kind) (sv x.name) (iv x.n) (iv x.t.kind) (sv x.t.name) (iv x.t.n) (tys x.t.kids) (tys x.ts) (txs x.kids) (tas x.alts) (tbs x.binds) (iv x.at_)) = .ok (0, [iv x.kind, sv x.name, iv x.n, iv x.t.kind, sv x.t.name, iv x.t.n, tys x.t.kids, tys x.ts, txs x.kids, tas x.alts, tbs x.binds, iv x.at_, iv a, iv m])
      rw [h16b2a, g16b2a]
      simp, a, rfl⟩) a0
  obtain ⟨r, hr, c, rfl⟩ := lp
  exact ⟨c, hr⟩
theorem cnt_b (x : Tx) (m : Int) (hl : x.binds.length ≤ maxN) (h : ∀ y ∈ x.binds, CntX y.e) (hp : ∀ y ∈ x.binds, y.ps.length ≤ maxN ∧ ∀ z ∈ y.ps, z.t.Ok) (a0 : Int) : ∃ c : Int, ev (q16b4a (iv 0) (iv a0) (iv m) (iv x.kind) (sv x.name) (iv x.n) (iv x.t.kind) (sv x.t.name) (iv x.t.n) (tys x.t.kids) (tys x.ts) (txs x.kids) (tas x.alts) (tbs x.binds) (iv x.at_)) = some (0, [iv x.kind, sv x.name, iv x.n, iv x.t.kind, sv x.t.name, iv x.t.n, tys x.t.kids, tys x.ts, txs x.kids, tas x.alts, tbs x.binds, iv x.at_, iv c]) := by
  have lp := ev_ex x.binds (fun i a => q16b4a (iv (i : Int)) (iv a) (iv m) (iv x.kind) (sv x.name) (iv x.n) (iv x.t.kind) (sv x.t.name) (iv x.t.n) (tys x.t.kids) (tys x.ts) (txs x.kids) (tas x.alts) (tbs x.binds) (iv x.at_)) (fun r => ∃ c : Int, r = (0, [iv x.kind, sv x.name, iv x.n, iv x.t.kind, sv x.t.name, iv x.t.n, tys x.t.kids, tys x.ts, txs x.kids, tas x.alts, tbs x.binds, iv x.at_, iv c])) hl
    (fun i j a y e0 hx hi hm => by
      show (∃ r, body PG EE TT ev (q16b4a (iv (i : Int)) (iv a) (iv m) (iv x.kind) (sv x.name) (iv x.n) (iv x.t.kind) (sv x.t.name) (iv x.t.n) (tys x.t.kids) (tys x.ts) (txs x.kids) (tas x.alts) (tbs x.binds) (iv x.at_)) = .ok r ∧ _) ∨ ∃ a', body PG EE TT ev (q16b4a (iv (i : Int)) (iv a) (iv m) (iv x.kind) (sv x.name) (iv x.n) (iv x.t.kind) (sv x.t.name) (iv x.t.n) (tys x.t.kids) (tys x.ts) (txs x.kids) (tas x.alts) (tbs x.binds) (iv x.at_)) = passK (ev (q16b4a (iv (j : Int)) (iv a') (iv m) (iv x.kind) (sv x.name) (iv x.n) (iv x.t.kind) (sv x.t.name) (iv x.t.n) (tys x.t.kids) (tys x.ts) (txs x.kids) (tas x.alts) (tbs x.binds) (iv x.at_)))
      rw [h16b4a, g16b4a]
      by_cases h1 : a < m
      · obtain ⟨c, hc⟩ := h y hm (IntKind.i64.wrap (m - a))
        obtain ⟨d, hd⟩ := preds_ex y.ps (hp y hm).1 (hp y hm).2
        refine .inr ⟨IntKind.i64.wrap (a + IntKind.i64.wrap (IntKind.i64.wrap (IntKind.i64.wrap (1 + c) + (y.vars.length : Int)) + d)), ?_⟩
        simp [-m_X, hi, h1, ↓X_tbs hx, hc, hd, e0]
      · refine .inl ⟨_, ?_, a, rfl⟩
        simp [hi, h1])
    (fun a => ⟨(0, [iv x.kind, sv x.name, iv x.n, iv x.t.kind, sv x.t.name, iv x.t.n, tys x.t.kids, tys x.ts, txs x.kids, tas x.alts, tbs x.binds, iv x.at_, iv a]), by
      show body PG EE TT ev (q16b4a (iv (x.binds.length : Int)) (iv a) (iv m) (iv x.kind) (sv x.name) (iv x.n) (iv x.t.kind) (sv x.t.name) (iv x.t.n) (tys x.t.kids) (tys x.ts) (txs x.kids) (tas x.alts) (tbs x.binds) (iv x.at_)) = .ok (0, [iv x.kind, sv x.name, iv x.n, iv x.t.kind, sv x.t.name, iv x.t.n, tys x.t.kids, tys x.ts, txs x.kids, tas x.alts, tbs x.binds, iv x.at_, iv a])
      rw [h16b4a, g16b4a]
      simp, a, rfl⟩) a0
  obtain ⟨r, hr, c, rfl⟩ := lp
  exact ⟨c, hr⟩
theorem cnt_tx : ∀ (n : Nat) (x : Tx), x.size ≤ n → n ≤ maxN → CntX x := by
  intro n
  induction n with
  | zero => intro x h _; have := x.size_pos; omega
  | succ n ih =>
    intro x h hn m
    rw [Tx.size_eq] at h
    have h1 := Tx.len_le x.kids
    have h2 := Ta.len_le x.alts
    have h3 := Tb.len_le x.binds
    have h4 := Ty.len_le x.ts
    have hts : ∀ y ∈ x.ts, y.Ok := fun y hy => Ty.ok n y (by have := Ty.mem_le hy; omega) (by omega)
    have htt : x.t.Ok := Ty.ok n x.t (by omega) (by omega)
    have hk : ∀ y ∈ x.kids, CntX y := fun y hy => ih y (by have := Tx.mem_le hy; omega) (by omega)
    have ha : ∀ y ∈ x.alts, CntX y.e := fun y hy => ih y.e (by have := Ta.mem_le hy; rw [Ta.size_eq] at this; omega) (by omega)
    have hb : ∀ y ∈ x.binds, CntX y.e := fun y hy => ih y.e (by have := Tb.mem_le hy; rw [Tb.size_eq] at this; omega) (by omega)
    have hp : ∀ y ∈ x.binds, y.ps.length ≤ maxN ∧ ∀ z ∈ y.ps, z.t.Ok := fun y hy => by
      have e1 := Tb.mem_le hy
      rw [Tb.size_eq] at e1
      have e2 := Pd.len_le y.ps
      exact ⟨by omega, fun z hz => Ty.ok n z.t (by have := Pd.mem_le hz; rw [Pd.size_eq] at this; omega) (by omega)⟩
    obtain ⟨c1, k1⟩ := types_ex x.ts (by omega) hts
    obtain ⟨c2, k2⟩ := types_ex [x.t] (by simp [maxN]) (fun y hy => by rw [List.mem_singleton] at hy; subst hy; exact htt)
    have k2' := k2
    rw [tys, List.map_cons, List.map_nil, Ty.cells_eq] at k2'
    obtain ⟨d1, e1⟩ := cnt_k x m (by omega) hk (IntKind.i64.wrap (IntKind.i64.wrap (1 + c1) + c2))
    obtain ⟨d2, e2⟩ := cnt_a x m (by omega) ha d1
    obtain ⟨d3, e3⟩ := cnt_b x m (by omega) hb hp d2
    exact ⟨d3, Evl.of (by rw [h16, g16]; simp [k1, k2', e1, e2, e3])⟩
theorem small_tx {x : Tx} (h : x.size ≤ maxN) (m : Int) : ∃ b : Bool, ev (q5 (iv x.kind) (sv x.name) (iv x.n) (iv x.t.kind) (sv x.t.name) (iv x.t.n) (tys x.t.kids) (tys x.ts) (txs x.kids) (tas x.alts) (tbs x.binds) (iv x.at_) (iv m)) = some (0, [bv b]) := by
  obtain ⟨c, hc⟩ := cnt_tx maxN x h (Nat.le_refl _) (IntKind.i64.wrap (m + 1))
  exact ⟨decide (c ≤ m), Evl.of (by rw [h5, g5]; simp [hc]; cases decide (c ≤ m) <;> rfl)⟩
end Go.Proofs.YtlfkefbhdmfllaaGreatDoor
