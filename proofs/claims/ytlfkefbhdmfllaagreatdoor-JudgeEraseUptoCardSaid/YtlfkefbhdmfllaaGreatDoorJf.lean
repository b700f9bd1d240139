/- What is left of a typing without its types: both sides give the same. Printed by jf.py. -/
import Derived.Test.YtlfkefbhdmfllaaGreatDoorJe2
import Derived.Test.YtlfkefbhdmfllaaGreatDoorBc
namespace Go.Proofs.YtlfkefbhdmfllaaGreatDoor
open Go.RowKit
set_option linter.unusedSimpArgs false
set_option linter.unusedVariables false

abbrev eB : ByteArray := ⟨#[]⟩
mutual
def Tx.er : Tx → Ex
  | .mk k s n t ts ks xs bs a => .mk k s n (if k = 12 then t else .mk 0 eB 0 []) (Tx.ers ks) (Ta.ers xs) (Tb.ers bs) a
def Ta.er : Ta → Al
  | .mk p e => .mk p e.er
def Tb.er : Tb → Bd
  | .mk s vs ps e a => .mk s e.er a
def Tx.ers : List Tx → List Ex
  | [] => []
  | x :: l => x.er :: Tx.ers l
def Ta.ers : List Ta → List Al
  | [] => []
  | x :: l => x.er :: Ta.ers l
def Tb.ers : List Tb → List Bd
  | [] => []
  | x :: l => x.er :: Tb.ers l
end
theorem Tx.ers_eq : ∀ l, Tx.ers l = l.map Tx.er
  | [] => by rw [Tx.ers]; rfl
  | x :: l => by rw [Tx.ers, Tx.ers_eq l]; rfl
theorem Ta.ers_eq : ∀ l, Ta.ers l = l.map Ta.er
  | [] => by rw [Ta.ers]; rfl
  | x :: l => by rw [Ta.ers, Ta.ers_eq l]; rfl
theorem Tb.ers_eq : ∀ l, Tb.ers l = l.map Tb.er
  | [] => by rw [Tb.ers]; rfl
  | x :: l => by rw [Tb.ers, Tb.ers_eq l]; rfl
theorem Tx.er_kind (x : Tx) : x.er.kind = x.kind := by cases x; rw [Tx.er]; rfl
theorem Tx.er_name (x : Tx) : x.er.name = x.name := by cases x; rw [Tx.er]; rfl
theorem Tx.er_n (x : Tx) : x.er.n = x.n := by cases x; rw [Tx.er]; rfl
theorem Tx.er_at (x : Tx) : x.er.at_ = x.at_ := by cases x; rw [Tx.er]; rfl
theorem Tx.er_kids (x : Tx) : x.er.kids = x.kids.map Tx.er := by cases x; rw [Tx.er, Tx.ers_eq]; rfl
theorem Tx.er_alts (x : Tx) : x.er.alts = x.alts.map Ta.er := by cases x; rw [Tx.er, Ta.ers_eq]; rfl
theorem Tx.er_binds (x : Tx) : x.er.binds = x.binds.map Tb.er := by cases x; rw [Tx.er, Tb.ers_eq]; rfl
theorem Tx.er_t (x : Tx) : x.er.t = if x.kind = 12 then x.t else .mk 0 eB 0 [] := by cases x; rw [Tx.er]; rfl
theorem Ta.er_p (x : Ta) : x.er.p = x.p := by cases x; rw [Ta.er]; rfl
theorem Ta.er_e (x : Ta) : x.er.e = x.e.er := by cases x; rw [Ta.er]; rfl
theorem Tb.er_name (x : Tb) : x.er.name = x.name := by cases x; rw [Tb.er]; rfl
theorem Tb.er_e (x : Tb) : x.er.e = x.e.er := by cases x; rw [Tb.er]; rfl
theorem Tb.er_at (x : Tb) : x.er.at_ = x.at_ := by cases x; rw [Tb.er]; rfl
theorem appK_exs (l : List Ex) (x : Ex) (k : PV → Res) (hl : l.length ≤ 100000000) : appK PG .fail 32 (.pv (.rows (l.map Ex.cells))) (.pv (.rows [[iv x.kind, sv x.name, iv x.n, iv x.t.kind, sv x.t.name, iv x.t.n, tys x.t.kids, exs x.kids, als x.alts, bds x.binds, iv x.at_]])) k = k (.rows ((l ++ [x]).map Ex.cells)) := by
  rw [← Ex.cells_eq, List.map_append, List.map_cons, List.map_nil]
  exact appK_of (fun w => app_ok sl_exs (rowsN_rows' _) rfl (by simp) (fun c' h' => by rw [List.mem_singleton.1 h', Ex.cells_eq]; rfl) (by simp; omega) (by simp; omega)) (by rw [← List.map_singleton, ← List.map_append]; exact ns_exs (l ++ [x]))
theorem appK_als (l : List Al) (x : Al) (k : PV → Res) (hl : l.length ≤ 100000000) : appK PG .fail 33 (.pv (.rows (l.map Al.cells))) (.pv (.rows [[iv x.p.kind, sv x.p.name, iv x.p.n, pts x.p.kids, iv x.p.at_, iv x.e.kind, sv x.e.name, iv x.e.n, iv x.e.t.kind, sv x.e.t.name, iv x.e.t.n, tys x.e.t.kids, exs x.e.kids, als x.e.alts, bds x.e.binds, iv x.e.at_]])) k = k (.rows ((l ++ [x]).map Al.cells)) := by
  rw [← Al.cells_eq, List.map_append, List.map_cons, List.map_nil]
  exact appK_of (fun w => app_ok sl_als (rowsN_rows' _) rfl (by simp) (fun c' h' => by rw [List.mem_singleton.1 h', Al.cells_eq]; rfl) (by simp; omega) (by simp; omega)) (by rw [← List.map_singleton, ← List.map_append]; exact ns_als (l ++ [x]))
theorem appK_bds (l : List Bd) (x : Bd) (k : PV → Res) (hl : l.length ≤ 100000000) : appK PG .fail 34 (.pv (.rows (l.map Bd.cells))) (.pv (.rows [[sv x.name, iv x.e.kind, sv x.e.name, iv x.e.n, iv x.e.t.kind, sv x.e.t.name, iv x.e.t.n, tys x.e.t.kids, exs x.e.kids, als x.e.alts, bds x.e.binds, iv x.e.at_, iv x.at_]])) k = k (.rows ((l ++ [x]).map Bd.cells)) := by
  rw [← Bd.cells_eq, List.map_append, List.map_cons, List.map_nil]
  exact appK_of (fun w => app_ok sl_bds (rowsN_rows' _) rfl (by simp) (fun c' h' => by rw [List.mem_singleton.1 h', Bd.cells_eq]; rfl) (by simp; omega) (by simp; omega)) (by rw [← List.map_singleton, ← List.map_append]; exact ns_bds (l ++ [x]))
theorem wrap_1 : IntKind.i64.wrap 1 = 1 := by rfl
/-- A row that grows by what each gives. -/
theorem ev_acc {α β : Type} (l : List α) (f : α → β) (q : Nat → List β → Q) (fin : List β → Rs) (hl : l.length ≤ 1048576)
    (step : ∀ (i j : Nat) x acc, IntKind.i64.wrap ((i : Int) + 1) = (j : Int) → l[i]? = some x → (i : Int) < (l.length : Int) → x ∈ l → acc.length ≤ 100000000 → body PG EE TT ev (q i acc) = passK (ev (q j (acc ++ [f x]))))
    (done : ∀ acc, body PG EE TT ev (q l.length acc) = .ok (fin acc)) : ∀ (m i : Nat), i + m = l.length → ev (q i ((l.take i).map f)) = some (fin (l.map f)) := by
  intro m
  induction m with
  | zero =>
    intro i hi
    rw [Nat.add_zero] at hi
    subst hi
    rw [List.take_length]
    exact Evl.of (done _)
  | succ m ih =>
    intro i hi
    have hlt : i < l.length := by omega
    refine Evl.of ?_
    rw [step i (i + 1) l[i] _ (wrap_lt hlt (by unfold maxN; omega)) (List.getElem?_eq_getElem hlt) (by omega) (List.getElem_mem hlt) (by simp; omega)]
    have e : (l.take i).map f ++ [f l[i]] = (l.take (i + 1)).map f := by rw [← List.take_append_getElem hlt, List.map_append]; rfl
    rw [e, ih (i + 1) (by omega)]
    rfl
def P_ok (x : Tx) : Prop := ev (q6w (iv x.kind) (sv x.name) (iv x.n) (iv x.t.kind) (sv x.t.name) (iv x.t.n) (tys x.t.kids) (tys x.ts) (txs x.kids) (tas x.alts) (tbs x.binds) (iv x.at_)) = some (0, [iv x.er.kind, sv x.er.name, iv x.er.n, iv x.er.t.kind, sv x.er.t.name, iv x.er.t.n, tys x.er.t.kids, exs x.er.kids, als x.er.alts, bds x.er.binds, iv x.er.at_])
theorem P_binds (l : List Tb) (hl : l.length ≤ 1048576) (h : ∀ y ∈ l, P_ok y.e) : ev (q10w (tbs l)) = some (0, [bds (l.map Tb.er)]) := by
  have lp := ev_acc l Tb.er (fun i acc => q10b0b (iv (i : Int)) (iv (l.length : Int)) (tbs l) (acc.map Bd.cells)) (fun acc => (1, [bds acc])) hl
    (fun i j y acc e0 hx hi hm ha => by
      show body PG EE TT ev (q10b0b (iv (i : Int)) (iv (l.length : Int)) (tbs l) (acc.map Bd.cells)) = passK (ev (q10b0b (iv (j : Int)) (iv (l.length : Int)) (tbs l) ((acc ++ [y.er]).map Bd.cells)))
      have g := h y hm
      unfold P_ok at g
      rw [h10b0b, g10b0b]
      have := appK_bds acc y.er
      rw [Tb.er_name, Tb.er_e, Tb.er_at] at this
      simp [-m_X, hi, ↓X_tbs hx, g, e0, this _ ha])
    (fun acc => by
      show body PG EE TT ev (q10b0b (iv (l.length : Int)) (iv (l.length : Int)) (tbs l) (acc.map Bd.cells)) = .ok (1, [bds acc])
      rw [h10b0b, g10b0b]
      simp [bds])
  have g1 : ev (q10 (tbs l)) = some (if l = [] then (0, [nS]) else (1, [bds (l.map Tb.er)])) := by
    cases l with
    | nil =>
      have e : ev (q10b0a (iv 0) (iv (([] : List Tb).length : Int)) (tbs [])) = some (0, [nS]) := Evl.of (by rw [h10b0a, g10b0a]; simp)
      exact Evl.of (by
        rw [h10, g10]
        first | simp only [List.length_nil, Int.natCast_zero] at e | skip
        simp [e])
    | cons y l =>
      have g := h y (List.mem_cons_self ..)
      unfold P_ok at g
      have e2 := lp l.length 1 (by simp; omega)
      have e : ev (q10b0a (iv 0) (iv ((y :: l).length : Int)) (tbs (y :: l))) = some (1, [bds ((y :: l).map Tb.er)]) := Evl.of (by
        rw [h10b0a, g10b0a]
        have e3 : (List.map Bd.cells (List.map Tb.er (List.take 1 (y :: l)))) = [[sv y.name, iv y.e.er.kind, sv y.e.er.name, iv y.e.er.n, iv y.e.er.t.kind, sv y.e.er.t.name, iv y.e.er.t.n, tys y.e.er.t.kids, exs y.e.er.kids, als y.e.er.alts, bds y.e.er.binds, iv y.e.er.at_, iv y.at_]] := by
          rw [List.take_succ_cons, List.take_zero, List.map_cons, List.map_nil, List.map_cons, List.map_nil, Bd.cells_eq, Tb.er_name, Tb.er_e, Tb.er_at]
        rw [e3] at e2
        simp at e2
        simp [-m_X, ↓X0_tbs, g, e2, wrap_1])
      exact Evl.of (by rw [h10, g10]; simp; simp at e; simp [e])
  exact Evl.of (by rw [h10w]; simp [g1]; cases l <;> simp [bds])
theorem X00_txs {l : List Tx} {x : Tx} (h : l[0]? = some x) (K : PV → PV → PV → PV → PV → PV → PV → PV → PV → PV → PV → PV → Sm) (O : Q → Option Rs) : R.X (T := Sm) 25 (txs l) (iv 0) (R.w12 K) O = K (iv x.kind) (sv x.name) (iv x.n) (iv x.t.kind) (sv x.t.name) (iv x.t.n) (tys x.t.kids) (tys x.ts) (txs x.kids) (tas x.alts) (tbs x.binds) (iv x.at_) O := X_txs (i := 0) h K O
theorem X00_tas {l : List Ta} {x : Ta} (h : l[0]? = some x) (K : PV → PV → PV → PV → PV → PV → PV → PV → PV → PV → PV → PV → PV → PV → PV → PV → PV → Sm) (O : Q → Option Rs) : R.X (T := Sm) 26 (tas l) (iv 0) (R.w17 K) O = K (iv x.p.kind) (sv x.p.name) (iv x.p.n) (pts x.p.kids) (iv x.p.at_) (iv x.e.kind) (sv x.e.name) (iv x.e.n) (iv x.e.t.kind) (sv x.e.t.name) (iv x.e.t.n) (tys x.e.t.kids) (tys x.e.ts) (txs x.e.kids) (tas x.e.alts) (tbs x.e.binds) (iv x.e.at_) O := X_tas (i := 0) h K O
theorem P_kids (x : Tx) (K : List Tx) (a1 a2 a3 a4 a5 a6 a7 b at_ : PV) (hl : K.length ≤ 1048576) (h : ∀ y ∈ K, P_ok y) : ev (q6b0a (iv 0) (iv (K.length : Int)) (txs K) a1 a2 a3 a4 a5 a6 a7 b at_ (iv x.kind) (sv x.name) (iv x.n) (iv x.t.kind) (sv x.t.name) (iv x.t.n) (tys x.t.kids) (tys x.ts) (txs x.kids) (tas x.alts) (tbs x.binds) (iv x.at_)) = some (if K = [] then (0, [a1, a2, a3, a4, a5, a6, a7, nS, nS, b, at_, iv x.kind, sv x.name, iv x.n, iv x.t.kind, sv x.t.name, iv x.t.n, tys x.t.kids, tys x.ts, txs x.kids, tas x.alts, tbs x.binds, iv x.at_, iv 0, sv eB, iv 0, iv 0, sv eB, iv 0, nS, nS, nS, nS, iv 0]) else (1, [a1, a2, a3, a4, a5, a6, a7, .rows ((K.map Tx.er).map Ex.cells), nS, b, at_, iv x.kind, sv x.name, iv x.n, iv x.t.kind, sv x.t.name, iv x.t.n, tys x.t.kids, tys x.ts, txs x.kids, tas x.alts, tbs x.binds, iv x.at_, iv 0, sv eB, iv 0, iv 0, sv eB, iv 0, nS, nS, nS, nS, iv 0])) := by
  have lp := ev_acc K Tx.er (fun i acc => q6b0c (iv (i : Int)) (iv (K.length : Int)) (txs K) a1 a2 a3 a4 a5 a6 a7 (acc.map Ex.cells) b at_ (iv x.kind) (sv x.name) (iv x.n) (iv x.t.kind) (sv x.t.name) (iv x.t.n) (tys x.t.kids) (tys x.ts) (txs x.kids) (tas x.alts) (tbs x.binds) (iv x.at_)) (fun acc => (1, [a1, a2, a3, a4, a5, a6, a7, .rows (acc.map Ex.cells), nS, b, at_, iv x.kind, sv x.name, iv x.n, iv x.t.kind, sv x.t.name, iv x.t.n, tys x.t.kids, tys x.ts, txs x.kids, tas x.alts, tbs x.binds, iv x.at_, iv 0, sv eB, iv 0, iv 0, sv eB, iv 0, nS, nS, nS, nS, iv 0])) hl
    (fun i j y acc e0 hx hi hm ha => by
      show body PG EE TT ev (q6b0c (iv (i : Int)) (iv (K.length : Int)) (txs K) a1 a2 a3 a4 a5 a6 a7 (acc.map Ex.cells) b at_ (iv x.kind) (sv x.name) (iv x.n) (iv x.t.kind) (sv x.t.name) (iv x.t.n) (tys x.t.kids) (tys x.ts) (txs x.kids) (tas x.alts) (tbs x.binds) (iv x.at_)) = passK (ev (q6b0c (iv (j : Int)) (iv (K.length : Int)) (txs K) a1 a2 a3 a4 a5 a6 a7 ((acc ++ [Tx.er y]).map Ex.cells) b at_ (iv x.kind) (sv x.name) (iv x.n) (iv x.t.kind) (sv x.t.name) (iv x.t.n) (tys x.t.kids) (tys x.ts) (txs x.kids) (tas x.alts) (tbs x.binds) (iv x.at_)))
      have g := h y hm
      unfold P_ok at g
      rw [h6b0c, g6b0c]
      have this := appK_exs acc y.er
      skip
      simp [-m_X, hi, ↓X_txs hx, g, e0, this _ ha])
    (fun acc => by
      show body PG EE TT ev (q6b0c (iv (K.length : Int)) (iv (K.length : Int)) (txs K) a1 a2 a3 a4 a5 a6 a7 (acc.map Ex.cells) b at_ (iv x.kind) (sv x.name) (iv x.n) (iv x.t.kind) (sv x.t.name) (iv x.t.n) (tys x.t.kids) (tys x.ts) (txs x.kids) (tas x.alts) (tbs x.binds) (iv x.at_)) = .ok (1, [a1, a2, a3, a4, a5, a6, a7, .rows (acc.map Ex.cells), nS, b, at_, iv x.kind, sv x.name, iv x.n, iv x.t.kind, sv x.t.name, iv x.t.n, tys x.t.kids, tys x.ts, txs x.kids, tas x.alts, tbs x.binds, iv x.at_, iv 0, sv eB, iv 0, iv 0, sv eB, iv 0, nS, nS, nS, nS, iv 0])
      rw [h6b0c, g6b0c]
      simp)
  by_cases hK : K = []
  · rw [if_pos hK]
    exact Evl.of (by rw [h6b0a, g6b0a]; simp [hK])
  · rw [if_neg hK]
    obtain ⟨y, t, hK⟩ := List.exists_cons_of_ne_nil hK
    have hm : y ∈ K := by rw [hK]; exact List.mem_cons_self ..
    have h0 : K[0]? = some y := by rw [hK]; rfl
    have hp : 0 < K.length := by rw [hK]; simp
    have g := h y hm
    unfold P_ok at g
    have e3 : (K.take 1).map Tx.er = [Tx.er y] := by rw [hK]; rfl
    have e2 : ev (q6b0c (iv 1) (iv (K.length : Int)) (txs K) a1 a2 a3 a4 a5 a6 a7 ([[iv (Tx.er y).kind, sv (Tx.er y).name, iv (Tx.er y).n, iv (Tx.er y).t.kind, sv (Tx.er y).t.name, iv (Tx.er y).t.n, tys (Tx.er y).t.kids, exs (Tx.er y).kids, als (Tx.er y).alts, bds (Tx.er y).binds, iv (Tx.er y).at_]]) b at_ (iv x.kind) (sv x.name) (iv x.n) (iv x.t.kind) (sv x.t.name) (iv x.t.n) (tys x.t.kids) (tys x.ts) (txs x.kids) (tas x.alts) (tbs x.binds) (iv x.at_)) = some (1, [a1, a2, a3, a4, a5, a6, a7, .rows ((K.map Tx.er).map Ex.cells), nS, b, at_, iv x.kind, sv x.name, iv x.n, iv x.t.kind, sv x.t.name, iv x.t.n, tys x.t.kids, tys x.ts, txs x.kids, tas x.alts, tbs x.binds, iv x.at_, iv 0, sv eB, iv 0, iv 0, sv eB, iv 0, nS, nS, nS, nS, iv 0]) := by
      have := lp (K.length - 1) 1 (by omega)
      rw [e3, List.map_cons, List.map_nil, Ex.cells_eq] at this
      exact this
    skip
    exact Evl.of (by rw [h6b0a, g6b0a]; simp [-m_X, ↓X00_txs h0, hp, g, e2, wrap_1])
theorem P_altA (x : Tx) (K : List Ta) (a1 a2 a3 a4 a5 a6 a7 b at_ : PV) (hl : K.length ≤ 1048576) (h : ∀ y ∈ K, P_ok y.e) : ev (q6b2a (iv 0) (iv (K.length : Int)) (tas K) a1 a2 a3 a4 a5 a6 a7 b at_) = some (if K = [] then (0, [a1, a2, a3, a4, a5, a6, a7, nS, nS, b, at_, iv 0, sv eB, iv 0, iv 0, sv eB, iv 0, nS, nS, nS, nS, iv 0]) else (1, [a1, a2, a3, a4, a5, a6, a7, nS, .rows ((K.map Ta.er).map Al.cells), b, at_, iv 0, sv eB, iv 0, iv 0, sv eB, iv 0, nS, nS, nS, nS, iv 0])) := by
  have lp := ev_acc K Ta.er (fun i acc => q6b2m (iv (i : Int)) (iv (K.length : Int)) (tas K) a1 a2 a3 a4 a5 a6 a7 (acc.map Al.cells) b at_) (fun acc => (1, [a1, a2, a3, a4, a5, a6, a7, nS, .rows (acc.map Al.cells), b, at_, iv 0, sv eB, iv 0, iv 0, sv eB, iv 0, nS, nS, nS, nS, iv 0])) hl
    (fun i j y acc e0 hx hi hm ha => by
      show body PG EE TT ev (q6b2m (iv (i : Int)) (iv (K.length : Int)) (tas K) a1 a2 a3 a4 a5 a6 a7 (acc.map Al.cells) b at_) = passK (ev (q6b2m (iv (j : Int)) (iv (K.length : Int)) (tas K) a1 a2 a3 a4 a5 a6 a7 ((acc ++ [Ta.er y]).map Al.cells) b at_))
      have g := h y hm
      unfold P_ok at g
      rw [h6b2m, g6b2m]
      have this := appK_als acc y.er
      rw [Ta.er_p, Ta.er_e] at this
      simp [-m_X, hi, ↓X_tas hx, g, e0, this _ ha])
    (fun acc => by
      show body PG EE TT ev (q6b2m (iv (K.length : Int)) (iv (K.length : Int)) (tas K) a1 a2 a3 a4 a5 a6 a7 (acc.map Al.cells) b at_) = .ok (1, [a1, a2, a3, a4, a5, a6, a7, nS, .rows (acc.map Al.cells), b, at_, iv 0, sv eB, iv 0, iv 0, sv eB, iv 0, nS, nS, nS, nS, iv 0])
      rw [h6b2m, g6b2m]
      simp)
  by_cases hK : K = []
  · rw [if_pos hK]
    exact Evl.of (by rw [h6b2a, g6b2a]; simp [hK])
  · rw [if_neg hK]
    obtain ⟨y, t, hK⟩ := List.exists_cons_of_ne_nil hK
    have hm : y ∈ K := by rw [hK]; exact List.mem_cons_self ..
    have h0 : K[0]? = some y := by rw [hK]; rfl
    have hp : 0 < K.length := by rw [hK]; simp
    have g := h y hm
    unfold P_ok at g
    have e3 : (K.take 1).map Ta.er = [Ta.er y] := by rw [hK]; rfl
    have e2 : ev (q6b2m (iv 1) (iv (K.length : Int)) (tas K) a1 a2 a3 a4 a5 a6 a7 ([[iv (Ta.er y).p.kind, sv (Ta.er y).p.name, iv (Ta.er y).p.n, pts (Ta.er y).p.kids, iv (Ta.er y).p.at_, iv (Ta.er y).e.kind, sv (Ta.er y).e.name, iv (Ta.er y).e.n, iv (Ta.er y).e.t.kind, sv (Ta.er y).e.t.name, iv (Ta.er y).e.t.n, tys (Ta.er y).e.t.kids, exs (Ta.er y).e.kids, als (Ta.er y).e.alts, bds (Ta.er y).e.binds, iv (Ta.er y).e.at_]]) b at_) = some (1, [a1, a2, a3, a4, a5, a6, a7, nS, .rows ((K.map Ta.er).map Al.cells), b, at_, iv 0, sv eB, iv 0, iv 0, sv eB, iv 0, nS, nS, nS, nS, iv 0]) := by
      have := lp (K.length - 1) 1 (by omega)
      rw [e3, List.map_cons, List.map_nil, Al.cells_eq] at this
      exact this
    rw [Ta.er_p, Ta.er_e] at e2
    exact Evl.of (by rw [h6b2a, g6b2a]; simp [-m_X, ↓X00_tas h0, hp, g, e2, wrap_1])
theorem P_altB (x : Tx) (K : List Ta) (a1 a2 a3 a4 a5 a6 a7 b at_ : PV) (r : List (List PV)) (hl : K.length ≤ 1048576) (h : ∀ y ∈ K, P_ok y.e) : ev (q6b2c (iv 0) (iv (K.length : Int)) (tas K) a1 a2 a3 a4 a5 a6 a7 r b at_) = some (if K = [] then (1, [a1, a2, a3, a4, a5, a6, a7, .rows r, nS, b, at_, iv 0, sv eB, iv 0, iv 0, sv eB, iv 0, nS, nS, nS, nS, iv 0]) else (4, [a1, a2, a3, a4, a5, a6, a7, .rows r, .rows ((K.map Ta.er).map Al.cells), b, at_, iv 0, sv eB, iv 0, iv 0, sv eB, iv 0, nS, nS, nS, nS, iv 0])) := by
  have lp := ev_acc K Ta.er (fun i acc => q6b2o (iv (i : Int)) (iv (K.length : Int)) (tas K) a1 a2 a3 a4 a5 a6 a7 r (acc.map Al.cells) b at_) (fun acc => (4, [a1, a2, a3, a4, a5, a6, a7, .rows r, .rows (acc.map Al.cells), b, at_, iv 0, sv eB, iv 0, iv 0, sv eB, iv 0, nS, nS, nS, nS, iv 0])) hl
    (fun i j y acc e0 hx hi hm ha => by
      show body PG EE TT ev (q6b2o (iv (i : Int)) (iv (K.length : Int)) (tas K) a1 a2 a3 a4 a5 a6 a7 r (acc.map Al.cells) b at_) = passK (ev (q6b2o (iv (j : Int)) (iv (K.length : Int)) (tas K) a1 a2 a3 a4 a5 a6 a7 r ((acc ++ [Ta.er y]).map Al.cells) b at_))
      have g := h y hm
      unfold P_ok at g
      rw [h6b2o, g6b2o]
      have this := appK_als acc y.er
      rw [Ta.er_p, Ta.er_e] at this
      simp [-m_X, hi, ↓X_tas hx, g, e0, this _ ha])
    (fun acc => by
      show body PG EE TT ev (q6b2o (iv (K.length : Int)) (iv (K.length : Int)) (tas K) a1 a2 a3 a4 a5 a6 a7 r (acc.map Al.cells) b at_) = .ok (4, [a1, a2, a3, a4, a5, a6, a7, .rows r, .rows (acc.map Al.cells), b, at_, iv 0, sv eB, iv 0, iv 0, sv eB, iv 0, nS, nS, nS, nS, iv 0])
      rw [h6b2o, g6b2o]
      simp)
  by_cases hK : K = []
  · rw [if_pos hK]
    exact Evl.of (by rw [h6b2c, g6b2c]; simp [hK])
  · rw [if_neg hK]
    obtain ⟨y, t, hK⟩ := List.exists_cons_of_ne_nil hK
    have hm : y ∈ K := by rw [hK]; exact List.mem_cons_self ..
    have h0 : K[0]? = some y := by rw [hK]; rfl
    have hp : 0 < K.length := by rw [hK]; simp
    have g := h y hm
    unfold P_ok at g
    have e3 : (K.take 1).map Ta.er = [Ta.er y] := by rw [hK]; rfl
    have e2 : ev (q6b2o (iv 1) (iv (K.length : Int)) (tas K) a1 a2 a3 a4 a5 a6 a7 r ([[iv (Ta.er y).p.kind, sv (Ta.er y).p.name, iv (Ta.er y).p.n, pts (Ta.er y).p.kids, iv (Ta.er y).p.at_, iv (Ta.er y).e.kind, sv (Ta.er y).e.name, iv (Ta.er y).e.n, iv (Ta.er y).e.t.kind, sv (Ta.er y).e.t.name, iv (Ta.er y).e.t.n, tys (Ta.er y).e.t.kids, exs (Ta.er y).e.kids, als (Ta.er y).e.alts, bds (Ta.er y).e.binds, iv (Ta.er y).e.at_]]) b at_) = some (4, [a1, a2, a3, a4, a5, a6, a7, .rows r, .rows ((K.map Ta.er).map Al.cells), b, at_, iv 0, sv eB, iv 0, iv 0, sv eB, iv 0, nS, nS, nS, nS, iv 0]) := by
      have := lp (K.length - 1) 1 (by omega)
      rw [e3, List.map_cons, List.map_nil, Al.cells_eq] at this
      exact this
    rw [Ta.er_p, Ta.er_e] at e2
    exact Evl.of (by rw [h6b2c, g6b2c]; simp [-m_X, ↓X00_tas h0, hp, g, e2, wrap_1])
theorem P_step (x : Tx) (l1 : x.kids.length ≤ 1048576) (h1 : ∀ y ∈ x.kids, P_ok y) (l2 : x.alts.length ≤ 1048576) (h2 : ∀ y ∈ x.alts, P_ok y.e) (l3 : x.binds.length ≤ 1048576) (h3 : ∀ y ∈ x.binds, P_ok y.e) : P_ok x := by
  have g3 := P_binds x.binds l3 h3
  unfold P_ok
  by_cases h0 : x.kind = 12
  · have k1 := P_kids x x.kids (iv x.kind) (sv x.name) (iv x.n) (iv x.t.kind) (sv x.t.name) (iv x.t.n) (tys x.t.kids) (bds (x.binds.map Tb.er)) (iv x.at_) l1 h1
    have k2 := P_altA x x.alts (iv x.kind) (sv x.name) (iv x.n) (iv x.t.kind) (sv x.t.name) (iv x.t.n) (tys x.t.kids) (bds (x.binds.map Tb.er)) (iv x.at_) l2 h2
    have k3 := P_altB x x.alts (iv x.kind) (sv x.name) (iv x.n) (iv x.t.kind) (sv x.t.name) (iv x.t.n) (tys x.t.kids) (bds (x.binds.map Tb.er)) (iv x.at_) ((x.kids.map Tx.er).map Ex.cells) l2 h2
    by_cases e1 : x.kids = [] <;> by_cases e2 : x.alts = []
    · rw [if_pos e1] at k1
      rw [if_pos e2] at k2 k3
      have hd := eq_true h0
      have g : ev (q6 (iv x.kind) (sv x.name) (iv x.n) (iv x.t.kind) (sv x.t.name) (iv x.t.n) (tys x.t.kids) (tys x.ts) (txs x.kids) (tas x.alts) (tbs x.binds) (iv x.at_)) = some (0, [(iv x.kind), (sv x.name), (iv x.n), (iv x.t.kind), (sv x.t.name), (iv x.t.n), (tys x.t.kids), nS, nS, (bds (x.binds.map Tb.er)), iv x.at_]) := Evl.of (by rw [h6, g6]; simp [hd, g3, k1, k2, k3, exs, als, -List.map_map])
      refine Evl.of ?_
      rw [h6w]
      show weakK (ev (q6 (iv x.kind) (sv x.name) (iv x.n) (iv x.t.kind) (sv x.t.name) (iv x.t.n) (tys x.t.kids) (tys x.ts) (txs x.kids) (tas x.alts) (tbs x.binds) (iv x.at_))) = _
      rw [g]
      simp [Tx.er_kind, Tx.er_name, Tx.er_n, Tx.er_at, Tx.er_kids, Tx.er_alts, Tx.er_binds, Tx.er_t, h0, e1, e2, exs, als, tys, bds, Ty.kind, Ty.name, Ty.n, Ty.kids]
    · rw [if_pos e1] at k1
      rw [if_neg e2] at k2 k3
      have hd := eq_true h0
      have g : ev (q6 (iv x.kind) (sv x.name) (iv x.n) (iv x.t.kind) (sv x.t.name) (iv x.t.n) (tys x.t.kids) (tys x.ts) (txs x.kids) (tas x.alts) (tbs x.binds) (iv x.at_)) = some (1, [(iv x.kind), (sv x.name), (iv x.n), (iv x.t.kind), (sv x.t.name), (iv x.t.n), (tys x.t.kids), nS, als (x.alts.map Ta.er), (bds (x.binds.map Tb.er)), iv x.at_]) := Evl.of (by rw [h6, g6]; simp [hd, g3, k1, k2, k3, exs, als, -List.map_map])
      refine Evl.of ?_
      rw [h6w]
      show weakK (ev (q6 (iv x.kind) (sv x.name) (iv x.n) (iv x.t.kind) (sv x.t.name) (iv x.t.n) (tys x.t.kids) (tys x.ts) (txs x.kids) (tas x.alts) (tbs x.binds) (iv x.at_))) = _
      rw [g]
      simp [Tx.er_kind, Tx.er_name, Tx.er_n, Tx.er_at, Tx.er_kids, Tx.er_alts, Tx.er_binds, Tx.er_t, h0, e1, e2, exs, als, tys, bds, Ty.kind, Ty.name, Ty.n, Ty.kids]
    · rw [if_neg e1] at k1
      rw [if_pos e2] at k2 k3
      have hd := eq_true h0
      have g : ev (q6 (iv x.kind) (sv x.name) (iv x.n) (iv x.t.kind) (sv x.t.name) (iv x.t.n) (tys x.t.kids) (tys x.ts) (txs x.kids) (tas x.alts) (tbs x.binds) (iv x.at_)) = some (2, [(iv x.kind), (sv x.name), (iv x.n), (iv x.t.kind), (sv x.t.name), (iv x.t.n), (tys x.t.kids), exs (x.kids.map Tx.er), nS, (bds (x.binds.map Tb.er)), iv x.at_]) := Evl.of (by rw [h6, g6]; simp [hd, g3, k1, k2, k3, exs, als, -List.map_map])
      refine Evl.of ?_
      rw [h6w]
      show weakK (ev (q6 (iv x.kind) (sv x.name) (iv x.n) (iv x.t.kind) (sv x.t.name) (iv x.t.n) (tys x.t.kids) (tys x.ts) (txs x.kids) (tas x.alts) (tbs x.binds) (iv x.at_))) = _
      rw [g]
      simp [Tx.er_kind, Tx.er_name, Tx.er_n, Tx.er_at, Tx.er_kids, Tx.er_alts, Tx.er_binds, Tx.er_t, h0, e1, e2, exs, als, tys, bds, Ty.kind, Ty.name, Ty.n, Ty.kids]
    · rw [if_neg e1] at k1
      rw [if_neg e2] at k2 k3
      have hd := eq_true h0
      have g : ev (q6 (iv x.kind) (sv x.name) (iv x.n) (iv x.t.kind) (sv x.t.name) (iv x.t.n) (tys x.t.kids) (tys x.ts) (txs x.kids) (tas x.alts) (tbs x.binds) (iv x.at_)) = some (3, [(iv x.kind), (sv x.name), (iv x.n), (iv x.t.kind), (sv x.t.name), (iv x.t.n), (tys x.t.kids), exs (x.kids.map Tx.er), als (x.alts.map Ta.er), (bds (x.binds.map Tb.er)), iv x.at_]) := Evl.of (by rw [h6, g6]; simp [hd, g3, k1, k2, k3, exs, als, -List.map_map])
      refine Evl.of ?_
      rw [h6w]
      show weakK (ev (q6 (iv x.kind) (sv x.name) (iv x.n) (iv x.t.kind) (sv x.t.name) (iv x.t.n) (tys x.t.kids) (tys x.ts) (txs x.kids) (tas x.alts) (tbs x.binds) (iv x.at_))) = _
      rw [g]
      simp [Tx.er_kind, Tx.er_name, Tx.er_n, Tx.er_at, Tx.er_kids, Tx.er_alts, Tx.er_binds, Tx.er_t, h0, e1, e2, exs, als, tys, bds, Ty.kind, Ty.name, Ty.n, Ty.kids]
  · have k1 := P_kids x x.kids (iv x.kind) (sv x.name) (iv x.n) (iv 0) (sv eB) (iv 0) nS (bds (x.binds.map Tb.er)) (iv x.at_) l1 h1
    have k2 := P_altA x x.alts (iv x.kind) (sv x.name) (iv x.n) (iv 0) (sv eB) (iv 0) nS (bds (x.binds.map Tb.er)) (iv x.at_) l2 h2
    have k3 := P_altB x x.alts (iv x.kind) (sv x.name) (iv x.n) (iv 0) (sv eB) (iv 0) nS (bds (x.binds.map Tb.er)) (iv x.at_) ((x.kids.map Tx.er).map Ex.cells) l2 h2
    by_cases e1 : x.kids = [] <;> by_cases e2 : x.alts = []
    · rw [if_pos e1] at k1
      rw [if_pos e2] at k2 k3
      have hd := eq_false h0
      have g : ev (q6 (iv x.kind) (sv x.name) (iv x.n) (iv x.t.kind) (sv x.t.name) (iv x.t.n) (tys x.t.kids) (tys x.ts) (txs x.kids) (tas x.alts) (tbs x.binds) (iv x.at_)) = some (0, [(iv x.kind), (sv x.name), (iv x.n), (iv 0), (sv eB), (iv 0), nS, nS, nS, (bds (x.binds.map Tb.er)), iv x.at_]) := Evl.of (by rw [h6, g6]; simp [hd, g3, k1, k2, k3, exs, als, -List.map_map])
      refine Evl.of ?_
      rw [h6w]
      show weakK (ev (q6 (iv x.kind) (sv x.name) (iv x.n) (iv x.t.kind) (sv x.t.name) (iv x.t.n) (tys x.t.kids) (tys x.ts) (txs x.kids) (tas x.alts) (tbs x.binds) (iv x.at_))) = _
      rw [g]
      simp [Tx.er_kind, Tx.er_name, Tx.er_n, Tx.er_at, Tx.er_kids, Tx.er_alts, Tx.er_binds, Tx.er_t, h0, e1, e2, exs, als, tys, bds, Ty.kind, Ty.name, Ty.n, Ty.kids]
    · rw [if_pos e1] at k1
      rw [if_neg e2] at k2 k3
      have hd := eq_false h0
      have g : ev (q6 (iv x.kind) (sv x.name) (iv x.n) (iv x.t.kind) (sv x.t.name) (iv x.t.n) (tys x.t.kids) (tys x.ts) (txs x.kids) (tas x.alts) (tbs x.binds) (iv x.at_)) = some (1, [(iv x.kind), (sv x.name), (iv x.n), (iv 0), (sv eB), (iv 0), nS, nS, als (x.alts.map Ta.er), (bds (x.binds.map Tb.er)), iv x.at_]) := Evl.of (by rw [h6, g6]; simp [hd, g3, k1, k2, k3, exs, als, -List.map_map])
      refine Evl.of ?_
      rw [h6w]
      show weakK (ev (q6 (iv x.kind) (sv x.name) (iv x.n) (iv x.t.kind) (sv x.t.name) (iv x.t.n) (tys x.t.kids) (tys x.ts) (txs x.kids) (tas x.alts) (tbs x.binds) (iv x.at_))) = _
      rw [g]
      simp [Tx.er_kind, Tx.er_name, Tx.er_n, Tx.er_at, Tx.er_kids, Tx.er_alts, Tx.er_binds, Tx.er_t, h0, e1, e2, exs, als, tys, bds, Ty.kind, Ty.name, Ty.n, Ty.kids]
    · rw [if_neg e1] at k1
      rw [if_pos e2] at k2 k3
      have hd := eq_false h0
      have g : ev (q6 (iv x.kind) (sv x.name) (iv x.n) (iv x.t.kind) (sv x.t.name) (iv x.t.n) (tys x.t.kids) (tys x.ts) (txs x.kids) (tas x.alts) (tbs x.binds) (iv x.at_)) = some (2, [(iv x.kind), (sv x.name), (iv x.n), (iv 0), (sv eB), (iv 0), nS, exs (x.kids.map Tx.er), nS, (bds (x.binds.map Tb.er)), iv x.at_]) := Evl.of (by rw [h6, g6]; simp [hd, g3, k1, k2, k3, exs, als, -List.map_map])
      refine Evl.of ?_
      rw [h6w]
      show weakK (ev (q6 (iv x.kind) (sv x.name) (iv x.n) (iv x.t.kind) (sv x.t.name) (iv x.t.n) (tys x.t.kids) (tys x.ts) (txs x.kids) (tas x.alts) (tbs x.binds) (iv x.at_))) = _
      rw [g]
      simp [Tx.er_kind, Tx.er_name, Tx.er_n, Tx.er_at, Tx.er_kids, Tx.er_alts, Tx.er_binds, Tx.er_t, h0, e1, e2, exs, als, tys, bds, Ty.kind, Ty.name, Ty.n, Ty.kids]
    · rw [if_neg e1] at k1
      rw [if_neg e2] at k2 k3
      have hd := eq_false h0
      have g : ev (q6 (iv x.kind) (sv x.name) (iv x.n) (iv x.t.kind) (sv x.t.name) (iv x.t.n) (tys x.t.kids) (tys x.ts) (txs x.kids) (tas x.alts) (tbs x.binds) (iv x.at_)) = some (3, [(iv x.kind), (sv x.name), (iv x.n), (iv 0), (sv eB), (iv 0), nS, exs (x.kids.map Tx.er), als (x.alts.map Ta.er), (bds (x.binds.map Tb.er)), iv x.at_]) := Evl.of (by rw [h6, g6]; simp [hd, g3, k1, k2, k3, exs, als, -List.map_map])
      refine Evl.of ?_
      rw [h6w]
      show weakK (ev (q6 (iv x.kind) (sv x.name) (iv x.n) (iv x.t.kind) (sv x.t.name) (iv x.t.n) (tys x.t.kids) (tys x.ts) (txs x.kids) (tas x.alts) (tbs x.binds) (iv x.at_))) = _
      rw [g]
      simp [Tx.er_kind, Tx.er_name, Tx.er_n, Tx.er_at, Tx.er_kids, Tx.er_alts, Tx.er_binds, Tx.er_t, h0, e1, e2, exs, als, tys, bds, Ty.kind, Ty.name, Ty.n, Ty.kids]
def R_ok (x : Tx) : Prop := ev (q7w (iv x.kind) (sv x.name) (iv x.n) (iv x.t.kind) (sv x.t.name) (iv x.t.n) (tys x.t.kids) (tys x.ts) (txs x.kids) (tas x.alts) (tbs x.binds) (iv x.at_)) = some (0, [iv x.er.kind, sv x.er.name, iv x.er.n, iv x.er.t.kind, sv x.er.t.name, iv x.er.t.n, tys x.er.t.kids, exs x.er.kids, als x.er.alts, bds x.er.binds, iv x.er.at_])
theorem R_binds (l : List Tb) (hl : l.length ≤ 1048576) (h : ∀ y ∈ l, R_ok y.e) : ev (q11w (tbs l)) = some (0, [bds (l.map Tb.er)]) := by
  have lp := ev_acc l Tb.er (fun i acc => q11b0b (iv (i : Int)) (tbs l) (acc.map Bd.cells)) (fun acc => (1, [bds acc])) hl
    (fun i j y acc e0 hx hi hm ha => by
      show body PG EE TT ev (q11b0b (iv (i : Int)) (tbs l) (acc.map Bd.cells)) = passK (ev (q11b0b (iv (j : Int)) (tbs l) ((acc ++ [y.er]).map Bd.cells)))
      have g := h y hm
      unfold R_ok at g
      rw [h11b0b, g11b0b]
      have := appK_bds acc y.er
      rw [Tb.er_name, Tb.er_e, Tb.er_at] at this
      simp [-m_X, hi, ↓X_tbs hx, g, e0, this _ ha])
    (fun acc => by
      show body PG EE TT ev (q11b0b (iv (l.length : Int)) (tbs l) (acc.map Bd.cells)) = .ok (1, [bds acc])
      rw [h11b0b, g11b0b]
      simp [bds])
  have g1 : ev (q11 (tbs l)) = some (if l = [] then (0, [nS]) else (1, [bds (l.map Tb.er)])) := by
    cases l with
    | nil =>
      have e : ev (q11b0a (iv 0) (tbs [])) = some (0, [nS]) := Evl.of (by rw [h11b0a, g11b0a]; simp)
      exact Evl.of (by
        rw [h11, g11]
        first | simp only [List.length_nil, Int.natCast_zero] at e | skip
        simp [e])
    | cons y l =>
      have g := h y (List.mem_cons_self ..)
      unfold R_ok at g
      have e2 := lp l.length 1 (by simp; omega)
      have e : ev (q11b0a (iv 0) (tbs (y :: l))) = some (1, [bds ((y :: l).map Tb.er)]) := Evl.of (by
        rw [h11b0a, g11b0a]
        have e3 : (List.map Bd.cells (List.map Tb.er (List.take 1 (y :: l)))) = [[sv y.name, iv y.e.er.kind, sv y.e.er.name, iv y.e.er.n, iv y.e.er.t.kind, sv y.e.er.t.name, iv y.e.er.t.n, tys y.e.er.t.kids, exs y.e.er.kids, als y.e.er.alts, bds y.e.er.binds, iv y.e.er.at_, iv y.at_]] := by
          rw [List.take_succ_cons, List.take_zero, List.map_cons, List.map_nil, List.map_cons, List.map_nil, Bd.cells_eq, Tb.er_name, Tb.er_e, Tb.er_at]
        rw [e3] at e2
        simp at e2
        simp [-m_X, ↓X0_tbs, g, e2, wrap_1])
      exact Evl.of (by rw [h11, g11]; simp; simp at e; simp [e])
  exact Evl.of (by rw [h11w]; simp [g1]; cases l <;> simp [bds])
theorem R_kids (x : Tx) (a1 a2 a3 a4 a5 a6 a7 b at_ : PV) (hl : x.kids.length ≤ 1048576) (h : ∀ y ∈ x.kids, R_ok y) : ev (q7b0a (iv 0) (iv x.kind) (sv x.name) (iv x.n) (iv x.t.kind) (sv x.t.name) (iv x.t.n) (tys x.t.kids) (tys x.ts) (txs x.kids) (tas x.alts) (tbs x.binds) (iv x.at_) a1 a2 a3 a4 a5 a6 a7 b at_) = some (if x.kids = [] then (0, [iv x.kind, sv x.name, iv x.n, iv x.t.kind, sv x.t.name, iv x.t.n, tys x.t.kids, tys x.ts, txs x.kids, tas x.alts, tbs x.binds, iv x.at_, a1, a2, a3, a4, a5, a6, a7, nS, nS, b, at_, iv 0, sv eB, iv 0, iv 0, sv eB, iv 0, nS, nS, nS, nS, iv 0]) else (1, [iv x.kind, sv x.name, iv x.n, iv x.t.kind, sv x.t.name, iv x.t.n, tys x.t.kids, tys x.ts, txs x.kids, tas x.alts, tbs x.binds, iv x.at_, a1, a2, a3, a4, a5, a6, a7, .rows ((x.kids.map Tx.er).map Ex.cells), nS, b, at_, iv 0, sv eB, iv 0, iv 0, sv eB, iv 0, nS, nS, nS, nS, iv 0])) := by
  have lp := ev_acc x.kids Tx.er (fun i acc => q7b0c (iv (i : Int)) (iv x.kind) (sv x.name) (iv x.n) (iv x.t.kind) (sv x.t.name) (iv x.t.n) (tys x.t.kids) (tys x.ts) (txs x.kids) (tas x.alts) (tbs x.binds) (iv x.at_) a1 a2 a3 a4 a5 a6 a7 (acc.map Ex.cells) b at_) (fun acc => (1, [iv x.kind, sv x.name, iv x.n, iv x.t.kind, sv x.t.name, iv x.t.n, tys x.t.kids, tys x.ts, txs x.kids, tas x.alts, tbs x.binds, iv x.at_, a1, a2, a3, a4, a5, a6, a7, .rows (acc.map Ex.cells), nS, b, at_, iv 0, sv eB, iv 0, iv 0, sv eB, iv 0, nS, nS, nS, nS, iv 0])) hl
    (fun i j y acc e0 hx hi hm ha => by
      show body PG EE TT ev (q7b0c (iv (i : Int)) (iv x.kind) (sv x.name) (iv x.n) (iv x.t.kind) (sv x.t.name) (iv x.t.n) (tys x.t.kids) (tys x.ts) (txs x.kids) (tas x.alts) (tbs x.binds) (iv x.at_) a1 a2 a3 a4 a5 a6 a7 (acc.map Ex.cells) b at_) = passK (ev (q7b0c (iv (j : Int)) (iv x.kind) (sv x.name) (iv x.n) (iv x.t.kind) (sv x.t.name) (iv x.t.n) (tys x.t.kids) (tys x.ts) (txs x.kids) (tas x.alts) (tbs x.binds) (iv x.at_) a1 a2 a3 a4 a5 a6 a7 ((acc ++ [Tx.er y]).map Ex.cells) b at_))
      have g := h y hm
      unfold R_ok at g
      rw [h7b0c, g7b0c]
      have this := appK_exs acc y.er
      skip
      simp [-m_X, hi, ↓X_txs hx, g, e0, this _ ha])
    (fun acc => by
      show body PG EE TT ev (q7b0c (iv (x.kids.length : Int)) (iv x.kind) (sv x.name) (iv x.n) (iv x.t.kind) (sv x.t.name) (iv x.t.n) (tys x.t.kids) (tys x.ts) (txs x.kids) (tas x.alts) (tbs x.binds) (iv x.at_) a1 a2 a3 a4 a5 a6 a7 (acc.map Ex.cells) b at_) = .ok (1, [iv x.kind, sv x.name, iv x.n, iv x.t.kind, sv x.t.name, iv x.t.n, tys x.t.kids, tys x.ts, txs x.kids, tas x.alts, tbs x.binds, iv x.at_, a1, a2, a3, a4, a5, a6, a7, .rows (acc.map Ex.cells), nS, b, at_, iv 0, sv eB, iv 0, iv 0, sv eB, iv 0, nS, nS, nS, nS, iv 0])
      rw [h7b0c, g7b0c]
      simp)
  by_cases hK : x.kids = []
  · rw [if_pos hK]
    exact Evl.of (by rw [h7b0a, g7b0a]; simp [hK])
  · rw [if_neg hK]
    obtain ⟨y, t, hK⟩ := List.exists_cons_of_ne_nil hK
    have hm : y ∈ x.kids := by rw [hK]; exact List.mem_cons_self ..
    have h0 : x.kids[0]? = some y := by rw [hK]; rfl
    have hp : 0 < x.kids.length := by rw [hK]; simp
    have g := h y hm
    unfold R_ok at g
    have e3 : (x.kids.take 1).map Tx.er = [Tx.er y] := by rw [hK]; rfl
    have e2 : ev (q7b0c (iv 1) (iv x.kind) (sv x.name) (iv x.n) (iv x.t.kind) (sv x.t.name) (iv x.t.n) (tys x.t.kids) (tys x.ts) (txs x.kids) (tas x.alts) (tbs x.binds) (iv x.at_) a1 a2 a3 a4 a5 a6 a7 ([[iv (Tx.er y).kind, sv (Tx.er y).name, iv (Tx.er y).n, iv (Tx.er y).t.kind, sv (Tx.er y).t.name, iv (Tx.er y).t.n, tys (Tx.er y).t.kids, exs (Tx.er y).kids, als (Tx.er y).alts, bds (Tx.er y).binds, iv (Tx.er y).at_]]) b at_) = some (1, [iv x.kind, sv x.name, iv x.n, iv x.t.kind, sv x.t.name, iv x.t.n, tys x.t.kids, tys x.ts, txs x.kids, tas x.alts, tbs x.binds, iv x.at_, a1, a2, a3, a4, a5, a6, a7, .rows ((x.kids.map Tx.er).map Ex.cells), nS, b, at_, iv 0, sv eB, iv 0, iv 0, sv eB, iv 0, nS, nS, nS, nS, iv 0]) := by
      have := lp (x.kids.length - 1) 1 (by omega)
      rw [e3, List.map_cons, List.map_nil, Ex.cells_eq] at this
      exact this
    skip
    exact Evl.of (by rw [h7b0a, g7b0a]; simp [-m_X, ↓X00_txs h0, hp, g, e2, wrap_1])
theorem R_altA (x : Tx) (a1 a2 a3 a4 a5 a6 a7 b at_ : PV) (hl : x.alts.length ≤ 1048576) (h : ∀ y ∈ x.alts, R_ok y.e) : ev (q7b2a (iv 0) (iv x.kind) (sv x.name) (iv x.n) (iv x.t.kind) (sv x.t.name) (iv x.t.n) (tys x.t.kids) (tys x.ts) (txs x.kids) (tas x.alts) (tbs x.binds) (iv x.at_) a1 a2 a3 a4 a5 a6 a7 b at_) = some (if x.alts = [] then (0, [iv x.kind, sv x.name, iv x.n, iv x.t.kind, sv x.t.name, iv x.t.n, tys x.t.kids, tys x.ts, txs x.kids, tas x.alts, tbs x.binds, iv x.at_, a1, a2, a3, a4, a5, a6, a7, nS, nS, b, at_, iv 0, sv eB, iv 0, iv 0, sv eB, iv 0, nS, nS, nS, nS, iv 0]) else (1, [iv x.kind, sv x.name, iv x.n, iv x.t.kind, sv x.t.name, iv x.t.n, tys x.t.kids, tys x.ts, txs x.kids, tas x.alts, tbs x.binds, iv x.at_, a1, a2, a3, a4, a5, a6, a7, nS, .rows ((x.alts.map Ta.er).map Al.cells), b, at_, iv 0, sv eB, iv 0, iv 0, sv eB, iv 0, nS, nS, nS, nS, iv 0])) := by
  have lp := ev_acc x.alts Ta.er (fun i acc => q7b2m (iv (i : Int)) (iv x.kind) (sv x.name) (iv x.n) (iv x.t.kind) (sv x.t.name) (iv x.t.n) (tys x.t.kids) (tys x.ts) (txs x.kids) (tas x.alts) (tbs x.binds) (iv x.at_) a1 a2 a3 a4 a5 a6 a7 (acc.map Al.cells) b at_) (fun acc => (1, [iv x.kind, sv x.name, iv x.n, iv x.t.kind, sv x.t.name, iv x.t.n, tys x.t.kids, tys x.ts, txs x.kids, tas x.alts, tbs x.binds, iv x.at_, a1, a2, a3, a4, a5, a6, a7, nS, .rows (acc.map Al.cells), b, at_, iv 0, sv eB, iv 0, iv 0, sv eB, iv 0, nS, nS, nS, nS, iv 0])) hl
    (fun i j y acc e0 hx hi hm ha => by
      show body PG EE TT ev (q7b2m (iv (i : Int)) (iv x.kind) (sv x.name) (iv x.n) (iv x.t.kind) (sv x.t.name) (iv x.t.n) (tys x.t.kids) (tys x.ts) (txs x.kids) (tas x.alts) (tbs x.binds) (iv x.at_) a1 a2 a3 a4 a5 a6 a7 (acc.map Al.cells) b at_) = passK (ev (q7b2m (iv (j : Int)) (iv x.kind) (sv x.name) (iv x.n) (iv x.t.kind) (sv x.t.name) (iv x.t.n) (tys x.t.kids) (tys x.ts) (txs x.kids) (tas x.alts) (tbs x.binds) (iv x.at_) a1 a2 a3 a4 a5 a6 a7 ((acc ++ [Ta.er y]).map Al.cells) b at_))
      have g := h y hm
      unfold R_ok at g
      rw [h7b2m, g7b2m]
      have this := appK_als acc y.er
      rw [Ta.er_p, Ta.er_e] at this
      simp [-m_X, hi, ↓X_tas hx, g, e0, this _ ha])
    (fun acc => by
      show body PG EE TT ev (q7b2m (iv (x.alts.length : Int)) (iv x.kind) (sv x.name) (iv x.n) (iv x.t.kind) (sv x.t.name) (iv x.t.n) (tys x.t.kids) (tys x.ts) (txs x.kids) (tas x.alts) (tbs x.binds) (iv x.at_) a1 a2 a3 a4 a5 a6 a7 (acc.map Al.cells) b at_) = .ok (1, [iv x.kind, sv x.name, iv x.n, iv x.t.kind, sv x.t.name, iv x.t.n, tys x.t.kids, tys x.ts, txs x.kids, tas x.alts, tbs x.binds, iv x.at_, a1, a2, a3, a4, a5, a6, a7, nS, .rows (acc.map Al.cells), b, at_, iv 0, sv eB, iv 0, iv 0, sv eB, iv 0, nS, nS, nS, nS, iv 0])
      rw [h7b2m, g7b2m]
      simp)
  by_cases hK : x.alts = []
  · rw [if_pos hK]
    exact Evl.of (by rw [h7b2a, g7b2a]; simp [hK])
  · rw [if_neg hK]
    obtain ⟨y, t, hK⟩ := List.exists_cons_of_ne_nil hK
    have hm : y ∈ x.alts := by rw [hK]; exact List.mem_cons_self ..
    have h0 : x.alts[0]? = some y := by rw [hK]; rfl
    have hp : 0 < x.alts.length := by rw [hK]; simp
    have g := h y hm
    unfold R_ok at g
    have e3 : (x.alts.take 1).map Ta.er = [Ta.er y] := by rw [hK]; rfl
    have e2 : ev (q7b2m (iv 1) (iv x.kind) (sv x.name) (iv x.n) (iv x.t.kind) (sv x.t.name) (iv x.t.n) (tys x.t.kids) (tys x.ts) (txs x.kids) (tas x.alts) (tbs x.binds) (iv x.at_) a1 a2 a3 a4 a5 a6 a7 ([[iv (Ta.er y).p.kind, sv (Ta.er y).p.name, iv (Ta.er y).p.n, pts (Ta.er y).p.kids, iv (Ta.er y).p.at_, iv (Ta.er y).e.kind, sv (Ta.er y).e.name, iv (Ta.er y).e.n, iv (Ta.er y).e.t.kind, sv (Ta.er y).e.t.name, iv (Ta.er y).e.t.n, tys (Ta.er y).e.t.kids, exs (Ta.er y).e.kids, als (Ta.er y).e.alts, bds (Ta.er y).e.binds, iv (Ta.er y).e.at_]]) b at_) = some (1, [iv x.kind, sv x.name, iv x.n, iv x.t.kind, sv x.t.name, iv x.t.n, tys x.t.kids, tys x.ts, txs x.kids, tas x.alts, tbs x.binds, iv x.at_, a1, a2, a3, a4, a5, a6, a7, nS, .rows ((x.alts.map Ta.er).map Al.cells), b, at_, iv 0, sv eB, iv 0, iv 0, sv eB, iv 0, nS, nS, nS, nS, iv 0]) := by
      have := lp (x.alts.length - 1) 1 (by omega)
      rw [e3, List.map_cons, List.map_nil, Al.cells_eq] at this
      exact this
    rw [Ta.er_p, Ta.er_e] at e2
    exact Evl.of (by rw [h7b2a, g7b2a]; simp [-m_X, ↓X00_tas h0, hp, g, e2, wrap_1])
theorem R_altB (x : Tx) (a1 a2 a3 a4 a5 a6 a7 b at_ : PV) (r : List (List PV)) (hl : x.alts.length ≤ 1048576) (h : ∀ y ∈ x.alts, R_ok y.e) : ev (q7b2c (iv 0) (iv x.kind) (sv x.name) (iv x.n) (iv x.t.kind) (sv x.t.name) (iv x.t.n) (tys x.t.kids) (tys x.ts) (txs x.kids) (tas x.alts) (tbs x.binds) (iv x.at_) a1 a2 a3 a4 a5 a6 a7 r b at_) = some (if x.alts = [] then (1, [iv x.kind, sv x.name, iv x.n, iv x.t.kind, sv x.t.name, iv x.t.n, tys x.t.kids, tys x.ts, txs x.kids, tas x.alts, tbs x.binds, iv x.at_, a1, a2, a3, a4, a5, a6, a7, .rows r, nS, b, at_, iv 0, sv eB, iv 0, iv 0, sv eB, iv 0, nS, nS, nS, nS, iv 0]) else (4, [iv x.kind, sv x.name, iv x.n, iv x.t.kind, sv x.t.name, iv x.t.n, tys x.t.kids, tys x.ts, txs x.kids, tas x.alts, tbs x.binds, iv x.at_, a1, a2, a3, a4, a5, a6, a7, .rows r, .rows ((x.alts.map Ta.er).map Al.cells), b, at_, iv 0, sv eB, iv 0, iv 0, sv eB, iv 0, nS, nS, nS, nS, iv 0])) := by
  have lp := ev_acc x.alts Ta.er (fun i acc => q7b2o (iv (i : Int)) (iv x.kind) (sv x.name) (iv x.n) (iv x.t.kind) (sv x.t.name) (iv x.t.n) (tys x.t.kids) (tys x.ts) (txs x.kids) (tas x.alts) (tbs x.binds) (iv x.at_) a1 a2 a3 a4 a5 a6 a7 r (acc.map Al.cells) b at_) (fun acc => (4, [iv x.kind, sv x.name, iv x.n, iv x.t.kind, sv x.t.name, iv x.t.n, tys x.t.kids, tys x.ts, txs x.kids, tas x.alts, tbs x.binds, iv x.at_, a1, a2, a3, a4, a5, a6, a7, .rows r, .rows (acc.map Al.cells), b, at_, iv 0, sv eB, iv 0, iv 0, sv eB, iv 0, nS, nS, nS, nS, iv 0])) hl
    (fun i j y acc e0 hx hi hm ha => by
      show body PG EE TT ev (q7b2o (iv (i : Int)) (iv x.kind) (sv x.name) (iv x.n) (iv x.t.kind) (sv x.t.name) (iv x.t.n) (tys x.t.kids) (tys x.ts) (txs x.kids) (tas x.alts) (tbs x.binds) (iv x.at_) a1 a2 a3 a4 a5 a6 a7 r (acc.map Al.cells) b at_) = passK (ev (q7b2o (iv (j : Int)) (iv x.kind) (sv x.name) (iv x.n) (iv x.t.kind) (sv x.t.name) (iv x.t.n) (tys x.t.kids) (tys x.ts) (txs x.kids) (tas x.alts) (tbs x.binds) (iv x.at_) a1 a2 a3 a4 a5 a6 a7 r ((acc ++ [Ta.er y]).map Al.cells) b at_))
      have g := h y hm
      unfold R_ok at g
      rw [h7b2o, g7b2o]
      have this := appK_als acc y.er
      rw [Ta.er_p, Ta.er_e] at this
      simp [-m_X, hi, ↓X_tas hx, g, e0, this _ ha])
    (fun acc => by
      show body PG EE TT ev (q7b2o (iv (x.alts.length : Int)) (iv x.kind) (sv x.name) (iv x.n) (iv x.t.kind) (sv x.t.name) (iv x.t.n) (tys x.t.kids) (tys x.ts) (txs x.kids) (tas x.alts) (tbs x.binds) (iv x.at_) a1 a2 a3 a4 a5 a6 a7 r (acc.map Al.cells) b at_) = .ok (4, [iv x.kind, sv x.name, iv x.n, iv x.t.kind, sv x.t.name, iv x.t.n, tys x.t.kids, tys x.ts, txs x.kids, tas x.alts, tbs x.binds, iv x.at_, a1, a2, a3, a4, a5, a6, a7, .rows r, .rows (acc.map Al.cells), b, at_, iv 0, sv eB, iv 0, iv 0, sv eB, iv 0, nS, nS, nS, nS, iv 0])
      rw [h7b2o, g7b2o]
      simp)
  by_cases hK : x.alts = []
  · rw [if_pos hK]
    exact Evl.of (by rw [h7b2c, g7b2c]; simp [hK])
  · rw [if_neg hK]
    obtain ⟨y, t, hK⟩ := List.exists_cons_of_ne_nil hK
    have hm : y ∈ x.alts := by rw [hK]; exact List.mem_cons_self ..
    have h0 : x.alts[0]? = some y := by rw [hK]; rfl
    have hp : 0 < x.alts.length := by rw [hK]; simp
    have g := h y hm
    unfold R_ok at g
    have e3 : (x.alts.take 1).map Ta.er = [Ta.er y] := by rw [hK]; rfl
    have e2 : ev (q7b2o (iv 1) (iv x.kind) (sv x.name) (iv x.n) (iv x.t.kind) (sv x.t.name) (iv x.t.n) (tys x.t.kids) (tys x.ts) (txs x.kids) (tas x.alts) (tbs x.binds) (iv x.at_) a1 a2 a3 a4 a5 a6 a7 r ([[iv (Ta.er y).p.kind, sv (Ta.er y).p.name, iv (Ta.er y).p.n, pts (Ta.er y).p.kids, iv (Ta.er y).p.at_, iv (Ta.er y).e.kind, sv (Ta.er y).e.name, iv (Ta.er y).e.n, iv (Ta.er y).e.t.kind, sv (Ta.er y).e.t.name, iv (Ta.er y).e.t.n, tys (Ta.er y).e.t.kids, exs (Ta.er y).e.kids, als (Ta.er y).e.alts, bds (Ta.er y).e.binds, iv (Ta.er y).e.at_]]) b at_) = some (4, [iv x.kind, sv x.name, iv x.n, iv x.t.kind, sv x.t.name, iv x.t.n, tys x.t.kids, tys x.ts, txs x.kids, tas x.alts, tbs x.binds, iv x.at_, a1, a2, a3, a4, a5, a6, a7, .rows r, .rows ((x.alts.map Ta.er).map Al.cells), b, at_, iv 0, sv eB, iv 0, iv 0, sv eB, iv 0, nS, nS, nS, nS, iv 0]) := by
      have := lp (x.alts.length - 1) 1 (by omega)
      rw [e3, List.map_cons, List.map_nil, Al.cells_eq] at this
      exact this
    rw [Ta.er_p, Ta.er_e] at e2
    exact Evl.of (by rw [h7b2c, g7b2c]; simp [-m_X, ↓X00_tas h0, hp, g, e2, wrap_1])
theorem R_step (x : Tx) (l1 : x.kids.length ≤ 1048576) (h1 : ∀ y ∈ x.kids, R_ok y) (l2 : x.alts.length ≤ 1048576) (h2 : ∀ y ∈ x.alts, R_ok y.e) (l3 : x.binds.length ≤ 1048576) (h3 : ∀ y ∈ x.binds, R_ok y.e) : R_ok x := by
  have g3 := R_binds x.binds l3 h3
  unfold R_ok
  by_cases h0 : x.kind = 12
  · have k1 := R_kids x (iv x.kind) (sv x.name) (iv x.n) (iv x.t.kind) (sv x.t.name) (iv x.t.n) (tys x.t.kids) (bds (x.binds.map Tb.er)) (iv x.at_) l1 h1
    have k2 := R_altA x (iv x.kind) (sv x.name) (iv x.n) (iv x.t.kind) (sv x.t.name) (iv x.t.n) (tys x.t.kids) (bds (x.binds.map Tb.er)) (iv x.at_) l2 h2
    have k3 := R_altB x (iv x.kind) (sv x.name) (iv x.n) (iv x.t.kind) (sv x.t.name) (iv x.t.n) (tys x.t.kids) (bds (x.binds.map Tb.er)) (iv x.at_) ((x.kids.map Tx.er).map Ex.cells) l2 h2
    by_cases e1 : x.kids = [] <;> by_cases e2 : x.alts = []
    · rw [if_pos e1] at k1
      rw [if_pos e2] at k2 k3
      have hd := eq_true h0
      have g : ev (q7 (iv x.kind) (sv x.name) (iv x.n) (iv x.t.kind) (sv x.t.name) (iv x.t.n) (tys x.t.kids) (tys x.ts) (txs x.kids) (tas x.alts) (tbs x.binds) (iv x.at_)) = some (0, [(iv x.kind), (sv x.name), (iv x.n), (iv x.t.kind), (sv x.t.name), (iv x.t.n), (tys x.t.kids), nS, nS, (bds (x.binds.map Tb.er)), iv x.at_]) := Evl.of (by rw [h7, g7]; simp [hd, g3, k1, k2, k3, exs, als, -List.map_map])
      refine Evl.of ?_
      rw [h7w]
      show weakK (ev (q7 (iv x.kind) (sv x.name) (iv x.n) (iv x.t.kind) (sv x.t.name) (iv x.t.n) (tys x.t.kids) (tys x.ts) (txs x.kids) (tas x.alts) (tbs x.binds) (iv x.at_))) = _
      rw [g]
      simp [Tx.er_kind, Tx.er_name, Tx.er_n, Tx.er_at, Tx.er_kids, Tx.er_alts, Tx.er_binds, Tx.er_t, h0, e1, e2, exs, als, tys, bds, Ty.kind, Ty.name, Ty.n, Ty.kids]
    · rw [if_pos e1] at k1
      rw [if_neg e2] at k2 k3
      have hd := eq_true h0
      have g : ev (q7 (iv x.kind) (sv x.name) (iv x.n) (iv x.t.kind) (sv x.t.name) (iv x.t.n) (tys x.t.kids) (tys x.ts) (txs x.kids) (tas x.alts) (tbs x.binds) (iv x.at_)) = some (1, [(iv x.kind), (sv x.name), (iv x.n), (iv x.t.kind), (sv x.t.name), (iv x.t.n), (tys x.t.kids), nS, als (x.alts.map Ta.er), (bds (x.binds.map Tb.er)), iv x.at_]) := Evl.of (by rw [h7, g7]; simp [hd, g3, k1, k2, k3, exs, als, -List.map_map])
      refine Evl.of ?_
      rw [h7w]
      show weakK (ev (q7 (iv x.kind) (sv x.name) (iv x.n) (iv x.t.kind) (sv x.t.name) (iv x.t.n) (tys x.t.kids) (tys x.ts) (txs x.kids) (tas x.alts) (tbs x.binds) (iv x.at_))) = _
      rw [g]
      simp [Tx.er_kind, Tx.er_name, Tx.er_n, Tx.er_at, Tx.er_kids, Tx.er_alts, Tx.er_binds, Tx.er_t, h0, e1, e2, exs, als, tys, bds, Ty.kind, Ty.name, Ty.n, Ty.kids]
    · rw [if_neg e1] at k1
      rw [if_pos e2] at k2 k3
      have hd := eq_true h0
      have g : ev (q7 (iv x.kind) (sv x.name) (iv x.n) (iv x.t.kind) (sv x.t.name) (iv x.t.n) (tys x.t.kids) (tys x.ts) (txs x.kids) (tas x.alts) (tbs x.binds) (iv x.at_)) = some (2, [(iv x.kind), (sv x.name), (iv x.n), (iv x.t.kind), (sv x.t.name), (iv x.t.n), (tys x.t.kids), exs (x.kids.map Tx.er), nS, (bds (x.binds.map Tb.er)), iv x.at_]) := Evl.of (by rw [h7, g7]; simp [hd, g3, k1, k2, k3, exs, als, -List.map_map])
      refine Evl.of ?_
      rw [h7w]
      show weakK (ev (q7 (iv x.kind) (sv x.name) (iv x.n) (iv x.t.kind) (sv x.t.name) (iv x.t.n) (tys x.t.kids) (tys x.ts) (txs x.kids) (tas x.alts) (tbs x.binds) (iv x.at_))) = _
      rw [g]
      simp [Tx.er_kind, Tx.er_name, Tx.er_n, Tx.er_at, Tx.er_kids, Tx.er_alts, Tx.er_binds, Tx.er_t, h0, e1, e2, exs, als, tys, bds, Ty.kind, Ty.name, Ty.n, Ty.kids]
    · rw [if_neg e1] at k1
      rw [if_neg e2] at k2 k3
      have hd := eq_true h0
      have g : ev (q7 (iv x.kind) (sv x.name) (iv x.n) (iv x.t.kind) (sv x.t.name) (iv x.t.n) (tys x.t.kids) (tys x.ts) (txs x.kids) (tas x.alts) (tbs x.binds) (iv x.at_)) = some (3, [(iv x.kind), (sv x.name), (iv x.n), (iv x.t.kind), (sv x.t.name), (iv x.t.n), (tys x.t.kids), exs (x.kids.map Tx.er), als (x.alts.map Ta.er), (bds (x.binds.map Tb.er)), iv x.at_]) := Evl.of (by rw [h7, g7]; simp [hd, g3, k1, k2, k3, exs, als, -List.map_map])
      refine Evl.of ?_
      rw [h7w]
      show weakK (ev (q7 (iv x.kind) (sv x.name) (iv x.n) (iv x.t.kind) (sv x.t.name) (iv x.t.n) (tys x.t.kids) (tys x.ts) (txs x.kids) (tas x.alts) (tbs x.binds) (iv x.at_))) = _
      rw [g]
      simp [Tx.er_kind, Tx.er_name, Tx.er_n, Tx.er_at, Tx.er_kids, Tx.er_alts, Tx.er_binds, Tx.er_t, h0, e1, e2, exs, als, tys, bds, Ty.kind, Ty.name, Ty.n, Ty.kids]
  · have k1 := R_kids x (iv x.kind) (sv x.name) (iv x.n) (iv 0) (sv eB) (iv 0) nS (bds (x.binds.map Tb.er)) (iv x.at_) l1 h1
    have k2 := R_altA x (iv x.kind) (sv x.name) (iv x.n) (iv 0) (sv eB) (iv 0) nS (bds (x.binds.map Tb.er)) (iv x.at_) l2 h2
    have k3 := R_altB x (iv x.kind) (sv x.name) (iv x.n) (iv 0) (sv eB) (iv 0) nS (bds (x.binds.map Tb.er)) (iv x.at_) ((x.kids.map Tx.er).map Ex.cells) l2 h2
    by_cases e1 : x.kids = [] <;> by_cases e2 : x.alts = []
    · rw [if_pos e1] at k1
      rw [if_pos e2] at k2 k3
      have hd := eq_false h0
      have g : ev (q7 (iv x.kind) (sv x.name) (iv x.n) (iv x.t.kind) (sv x.t.name) (iv x.t.n) (tys x.t.kids) (tys x.ts) (txs x.kids) (tas x.alts) (tbs x.binds) (iv x.at_)) = some (0, [(iv x.kind), (sv x.name), (iv x.n), (iv 0), (sv eB), (iv 0), nS, nS, nS, (bds (x.binds.map Tb.er)), iv x.at_]) := Evl.of (by rw [h7, g7]; simp [hd, g3, k1, k2, k3, exs, als, -List.map_map])
      refine Evl.of ?_
      rw [h7w]
      show weakK (ev (q7 (iv x.kind) (sv x.name) (iv x.n) (iv x.t.kind) (sv x.t.name) (iv x.t.n) (tys x.t.kids) (tys x.ts) (txs x.kids) (tas x.alts) (tbs x.binds) (iv x.at_))) = _
      rw [g]
      simp [Tx.er_kind, Tx.er_name, Tx.er_n, Tx.er_at, Tx.er_kids, Tx.er_alts, Tx.er_binds, Tx.er_t, h0, e1, e2, exs, als, tys, bds, Ty.kind, Ty.name, Ty.n, Ty.kids]
    · rw [if_pos e1] at k1
      rw [if_neg e2] at k2 k3
      have hd := eq_false h0
      have g : ev (q7 (iv x.kind) (sv x.name) (iv x.n) (iv x.t.kind) (sv x.t.name) (iv x.t.n) (tys x.t.kids) (tys x.ts) (txs x.kids) (tas x.alts) (tbs x.binds) (iv x.at_)) = some (1, [(iv x.kind), (sv x.name), (iv x.n), (iv 0), (sv eB), (iv 0), nS, nS, als (x.alts.map Ta.er), (bds (x.binds.map Tb.er)), iv x.at_]) := Evl.of (by rw [h7, g7]; simp [hd, g3, k1, k2, k3, exs, als, -List.map_map])
      refine Evl.of ?_
      rw [h7w]
      show weakK (ev (q7 (iv x.kind) (sv x.name) (iv x.n) (iv x.t.kind) (sv x.t.name) (iv x.t.n) (tys x.t.kids) (tys x.ts) (txs x.kids) (tas x.alts) (tbs x.binds) (iv x.at_))) = _
      rw [g]
      simp [Tx.er_kind, Tx.er_name, Tx.er_n, Tx.er_at, Tx.er_kids, Tx.er_alts, Tx.er_binds, Tx.er_t, h0, e1, e2, exs, als, tys, bds, Ty.kind, Ty.name, Ty.n, Ty.kids]
    · rw [if_neg e1] at k1
      rw [if_pos e2] at k2 k3
      have hd := eq_false h0
      have g : ev (q7 (iv x.kind) (sv x.name) (iv x.n) (iv x.t.kind) (sv x.t.name) (iv x.t.n) (tys x.t.kids) (tys x.ts) (txs x.kids) (tas x.alts) (tbs x.binds) (iv x.at_)) = some (2, [(iv x.kind), (sv x.name), (iv x.n), (iv 0), (sv eB), (iv 0), nS, exs (x.kids.map Tx.er), nS, (bds (x.binds.map Tb.er)), iv x.at_]) := Evl.of (by rw [h7, g7]; simp [hd, g3, k1, k2, k3, exs, als, -List.map_map])
      refine Evl.of ?_
      rw [h7w]
      show weakK (ev (q7 (iv x.kind) (sv x.name) (iv x.n) (iv x.t.kind) (sv x.t.name) (iv x.t.n) (tys x.t.kids) (tys x.ts) (txs x.kids) (tas x.alts) (tbs x.binds) (iv x.at_))) = _
      rw [g]
      simp [Tx.er_kind, Tx.er_name, Tx.er_n, Tx.er_at, Tx.er_kids, Tx.er_alts, Tx.er_binds, Tx.er_t, h0, e1, e2, exs, als, tys, bds, Ty.kind, Ty.name, Ty.n, Ty.kids]
    · rw [if_neg e1] at k1
      rw [if_neg e2] at k2 k3
      have hd := eq_false h0
      have g : ev (q7 (iv x.kind) (sv x.name) (iv x.n) (iv x.t.kind) (sv x.t.name) (iv x.t.n) (tys x.t.kids) (tys x.ts) (txs x.kids) (tas x.alts) (tbs x.binds) (iv x.at_)) = some (3, [(iv x.kind), (sv x.name), (iv x.n), (iv 0), (sv eB), (iv 0), nS, exs (x.kids.map Tx.er), als (x.alts.map Ta.er), (bds (x.binds.map Tb.er)), iv x.at_]) := Evl.of (by rw [h7, g7]; simp [hd, g3, k1, k2, k3, exs, als, -List.map_map])
      refine Evl.of ?_
      rw [h7w]
      show weakK (ev (q7 (iv x.kind) (sv x.name) (iv x.n) (iv x.t.kind) (sv x.t.name) (iv x.t.n) (tys x.t.kids) (tys x.ts) (txs x.kids) (tas x.alts) (tbs x.binds) (iv x.at_))) = _
      rw [g]
      simp [Tx.er_kind, Tx.er_name, Tx.er_n, Tx.er_at, Tx.er_kids, Tx.er_alts, Tx.er_binds, Tx.er_t, h0, e1, e2, exs, als, tys, bds, Ty.kind, Ty.name, Ty.n, Ty.kids]
theorem P_er : ∀ (n : Nat) (x : Tx), x.size ≤ n → n ≤ 1048576 → P_ok x := by
  intro n
  induction n with
  | zero => intro x h _; have := x.size_pos; omega
  | succ n ih =>
    intro x h hn
    rw [Tx.size_eq] at h
    have h1 := Tx.len_le x.kids
    have h2 := Ta.len_le x.alts
    have h3 := Tb.len_le x.binds
    exact P_step x (by omega) (fun y hy => ih y (by have := Tx.mem_le hy; omega) (by omega)) (by omega) (fun y hy => ih y.e (by have := Ta.mem_le hy; rw [Ta.size_eq] at this; omega) (by omega)) (by omega) (fun y hy => ih y.e (by have := Tb.mem_le hy; rw [Tb.size_eq] at this; omega) (by omega))
theorem R_er : ∀ (n : Nat) (x : Tx), x.size ≤ n → n ≤ 1048576 → R_ok x := by
  intro n
  induction n with
  | zero => intro x h _; have := x.size_pos; omega
  | succ n ih =>
    intro x h hn
    rw [Tx.size_eq] at h
    have h1 := Tx.len_le x.kids
    have h2 := Ta.len_le x.alts
    have h3 := Tb.len_le x.binds
    exact R_step x (by omega) (fun y hy => ih y (by have := Tx.mem_le hy; omega) (by omega)) (by omega) (fun y hy => ih y.e (by have := Ta.mem_le hy; rw [Ta.size_eq] at this; omega) (by omega)) (by omega) (fun y hy => ih y.e (by have := Tb.mem_le hy; rw [Tb.size_eq] at this; omega) (by omega))
end Go.Proofs.YtlfkefbhdmfllaaGreatDoor
