/- More of the program's data. Printed by dgen.py. -/
import Derived.Test.YtlfkefbhdmfllaaGreatDoorDa2
namespace Go.Proofs.YtlfkefbhdmfllaaGreatDoor
open Go.RowKit
set_option linter.unusedSimpArgs false
set_option linter.unusedVariables false

theorem NSL_app {a b : List PV} : NSL (a ++ b) ↔ NSL a ∧ NSL b := by simp only [NSL, List.mem_append, or_imp, forall_and]
theorem NSL_mem {l : List PV} (h : NSL l) {p : PV} (hp : p ∈ l) : NS p := h p hp
mutual
inductive Tx where
  | mk (kind : Int) (name : ByteArray) (n : Int) (t : Ty) (ts : List Ty) (kids : List Tx) (alts : List Ta) (binds : List Tb) (at_ : Int)
inductive Ta where
  | mk (p : Pt) (e : Tx)
inductive Tb where
  | mk (name : ByteArray) (vars : List ByteArray) (ps : List Pd) (e : Tx) (at_ : Int)
end
def Tx.kind : Tx → Int | .mk x _ _ _ _ _ _ _ _ => x
def Tx.name : Tx → ByteArray | .mk _ x _ _ _ _ _ _ _ => x
def Tx.n : Tx → Int | .mk _ _ x _ _ _ _ _ _ => x
def Tx.t : Tx → Ty | .mk _ _ _ x _ _ _ _ _ => x
def Tx.ts : Tx → List Ty | .mk _ _ _ _ x _ _ _ _ => x
def Tx.kids : Tx → List Tx | .mk _ _ _ _ _ x _ _ _ => x
def Tx.alts : Tx → List Ta | .mk _ _ _ _ _ _ x _ _ => x
def Tx.binds : Tx → List Tb | .mk _ _ _ _ _ _ _ x _ => x
def Tx.at_ : Tx → Int | .mk _ _ _ _ _ _ _ _ x => x
def Ta.p : Ta → Pt | .mk x _ => x
def Ta.e : Ta → Tx | .mk _ x => x
def Tb.name : Tb → ByteArray | .mk x _ _ _ _ => x
def Tb.vars : Tb → List ByteArray | .mk _ x _ _ _ => x
def Tb.ps : Tb → List Pd | .mk _ _ x _ _ => x
def Tb.e : Tb → Tx | .mk _ _ _ x _ => x
def Tb.at_ : Tb → Int | .mk _ _ _ _ x => x
mutual
def Tx.cells : Tx → List PV
  | .mk v0 v1 v2 v3 v4 v5 v6 v7 v8 => [iv v0] ++ ([sv v1] ++ ([iv v2] ++ ([iv v3.kind, sv v3.name, iv v3.n, tys v3.kids] ++ ([tys v4] ++ ([.rows (Tx.rows v5)] ++ ([.rows (Ta.rows v6)] ++ ([.rows (Tb.rows v7)] ++ ([iv v8]))))))))
def Ta.cells : Ta → List PV
  | .mk v0 v1 => [iv v0.kind, sv v0.name, iv v0.n, pts v0.kids, iv v0.at_] ++ (v1.cells)
def Tb.cells : Tb → List PV
  | .mk v0 v1 v2 v3 v4 => [sv v0] ++ ([strs v1] ++ ([pds v2] ++ (v3.cells ++ ([iv v4]))))
def Tx.rows : List Tx → List (List PV)
  | [] => []
  | v :: l => v.cells :: Tx.rows l
def Ta.rows : List Ta → List (List PV)
  | [] => []
  | v :: l => v.cells :: Ta.rows l
def Tb.rows : List Tb → List (List PV)
  | [] => []
  | v :: l => v.cells :: Tb.rows l
end
theorem Tx.rows_eq : ∀ l, Tx.rows l = l.map Tx.cells
  | [] => by rw [Tx.rows]; rfl
  | v :: l => by rw [Tx.rows, Tx.rows_eq l]; rfl
theorem Ta.rows_eq : ∀ l, Ta.rows l = l.map Ta.cells
  | [] => by rw [Ta.rows]; rfl
  | v :: l => by rw [Ta.rows, Ta.rows_eq l]; rfl
theorem Tb.rows_eq : ∀ l, Tb.rows l = l.map Tb.cells
  | [] => by rw [Tb.rows]; rfl
  | v :: l => by rw [Tb.rows, Tb.rows_eq l]; rfl
def txs (l : List Tx) : PV := .rows (l.map Tx.cells)
def tas (l : List Ta) : PV := .rows (l.map Ta.cells)
def tbs (l : List Tb) : PV := .rows (l.map Tb.cells)
theorem Tx.cells_eq (x : Tx) : x.cells = [iv x.kind, sv x.name, iv x.n, iv x.t.kind, sv x.t.name, iv x.t.n, tys x.t.kids, tys x.ts, txs x.kids, tas x.alts, tbs x.binds, iv x.at_] := by cases x; rw [Tx.cells, Ta.rows_eq, Tb.rows_eq, Tx.rows_eq]; rfl
theorem Ta.cells_eq (x : Ta) : x.cells = [iv x.p.kind, sv x.p.name, iv x.p.n, pts x.p.kids, iv x.p.at_, iv x.e.kind, sv x.e.name, iv x.e.n, iv x.e.t.kind, sv x.e.t.name, iv x.e.t.n, tys x.e.t.kids, tys x.e.ts, txs x.e.kids, tas x.e.alts, tbs x.e.binds, iv x.e.at_] := by cases x; rw [Ta.cells, Tx.cells_eq]; rfl
theorem Tb.cells_eq (x : Tb) : x.cells = [sv x.name, strs x.vars, pds x.ps, iv x.e.kind, sv x.e.name, iv x.e.n, iv x.e.t.kind, sv x.e.t.name, iv x.e.t.n, tys x.e.t.kids, tys x.e.ts, txs x.e.kids, tas x.e.alts, tbs x.e.binds, iv x.e.at_, iv x.at_] := by cases x; rw [Tb.cells, Tx.cells_eq]; rfl
mutual
theorem Tx.ns : ∀ (v : Tx), NSL v.cells
  | .mk v0 v1 v2 v3 v4 v5 v6 v7 v8 => by
    have h_v5 := Tx.nsL v5
    have h_v6 := Ta.nsL v6
    have h_v7 := Tb.nsL v7
    rw [Tx.cells]
    simp only [NSL_app, NSL_cons, NSL_nil, and_true, List.cons_append, List.nil_append]
    exact ⟨.lit _, .lit _, .lit _, .lit _, .lit _, .lit _, ns_tys _, ns_tys _, .rows _ h_v5, .rows _ h_v6, .rows _ h_v7, .lit _⟩
theorem Ta.ns : ∀ (v : Ta), NSL v.cells
  | .mk v0 v1 => by
    have h_v1 := Tx.ns v1
    rw [Ta.cells]
    simp only [NSL_app, NSL_cons, NSL_nil, and_true, List.cons_append, List.nil_append]
    exact ⟨.lit _, .lit _, .lit _, ns_pts _, .lit _, h_v1⟩
theorem Tb.ns : ∀ (v : Tb), NSL v.cells
  | .mk v0 v1 v2 v3 v4 => by
    have h_v3 := Tx.ns v3
    rw [Tb.cells]
    simp only [NSL_app, NSL_cons, NSL_nil, and_true, List.cons_append, List.nil_append]
    exact ⟨.lit _, ns_strs _, ns_pds _, h_v3, .lit _⟩
theorem Tx.nsL : ∀ (l : List Tx), ∀ c ∈ Tx.rows l, ∀ p ∈ c, NS p
  | [], c, hc, _, _ => by simp [Tx.rows] at hc
  | v :: l, c, hc, p, hp => by
    have h1 := Tx.ns v
    have h2 := Tx.nsL l
    rw [Tx.rows, List.mem_cons] at hc
    rcases hc with rfl | hc
    · exact NSL_mem h1 hp
    · exact h2 c hc p hp
theorem Ta.nsL : ∀ (l : List Ta), ∀ c ∈ Ta.rows l, ∀ p ∈ c, NS p
  | [], c, hc, _, _ => by simp [Ta.rows] at hc
  | v :: l, c, hc, p, hp => by
    have h1 := Ta.ns v
    have h2 := Ta.nsL l
    rw [Ta.rows, List.mem_cons] at hc
    rcases hc with rfl | hc
    · exact NSL_mem h1 hp
    · exact h2 c hc p hp
theorem Tb.nsL : ∀ (l : List Tb), ∀ c ∈ Tb.rows l, ∀ p ∈ c, NS p
  | [], c, hc, _, _ => by simp [Tb.rows] at hc
  | v :: l, c, hc, p, hp => by
    have h1 := Tb.ns v
    have h2 := Tb.nsL l
    rw [Tb.rows, List.mem_cons] at hc
    rcases hc with rfl | hc
    · exact NSL_mem h1 hp
    · exact h2 c hc p hp
end
@[simp] theorem ns_txs (l : List Tx) : NS (txs l) := by rw [txs, ← Tx.rows_eq]; exact .rows _ (Tx.nsL l)
@[simp] theorem ns_tas (l : List Ta) : NS (tas l) := by rw [tas, ← Ta.rows_eq]; exact .rows _ (Ta.nsL l)
@[simp] theorem ns_tbs (l : List Tb) : NS (tbs l) := by rw [tbs, ← Tb.rows_eq]; exact .rows _ (Tb.nsL l)
theorem sl_txs : SlT Tryz.prog 25 12 192 := SlT.of (by kernel_rfl)
@[simp] theorem len_txs {r : AV} (l : List Tx) : LenOk Tryz.prog 25 (.pv (txs l)) r ↔ r = .pv (iv l.length) := by rw [txs, len_ok sl_txs, List.length_map]
theorem idx_txs {r : AV} {l : List Tx} {i : Nat} {x : Tx} (h : l[i]? = some x) : IdxOk Tryz.prog 25 (.pv (txs l)) (.pv (.lit (.int .i64 (i : Int)))) r ↔ r = .cptr [iv x.kind, sv x.name, iv x.n, iv x.t.kind, sv x.t.name, iv x.t.n, tys x.t.kids, tys x.ts, txs x.kids, tas x.alts, tbs x.binds, iv x.at_] := by
  rw [txs]; exact idx_ok sl_txs (by rw [List.getElem?_map, h, Option.map_some, Tx.cells_eq]) rfl
theorem sl_tas : SlT Tryz.prog 26 17 256 := SlT.of (by kernel_rfl)
@[simp] theorem len_tas {r : AV} (l : List Ta) : LenOk Tryz.prog 26 (.pv (tas l)) r ↔ r = .pv (iv l.length) := by rw [tas, len_ok sl_tas, List.length_map]
theorem idx_tas {r : AV} {l : List Ta} {i : Nat} {x : Ta} (h : l[i]? = some x) : IdxOk Tryz.prog 26 (.pv (tas l)) (.pv (.lit (.int .i64 (i : Int)))) r ↔ r = .cptr [iv x.p.kind, sv x.p.name, iv x.p.n, pts x.p.kids, iv x.p.at_, iv x.e.kind, sv x.e.name, iv x.e.n, iv x.e.t.kind, sv x.e.t.name, iv x.e.t.n, tys x.e.t.kids, tys x.e.ts, txs x.e.kids, tas x.e.alts, tbs x.e.binds, iv x.e.at_] := by
  rw [tas]; exact idx_ok sl_tas (by rw [List.getElem?_map, h, Option.map_some, Ta.cells_eq]) rfl
theorem sl_tbs : SlT Tryz.prog 27 16 264 := SlT.of (by kernel_rfl)
@[simp] theorem len_tbs {r : AV} (l : List Tb) : LenOk Tryz.prog 27 (.pv (tbs l)) r ↔ r = .pv (iv l.length) := by rw [tbs, len_ok sl_tbs, List.length_map]
theorem idx_tbs {r : AV} {l : List Tb} {i : Nat} {x : Tb} (h : l[i]? = some x) : IdxOk Tryz.prog 27 (.pv (tbs l)) (.pv (.lit (.int .i64 (i : Int)))) r ↔ r = .cptr [sv x.name, strs x.vars, pds x.ps, iv x.e.kind, sv x.e.name, iv x.e.n, iv x.e.t.kind, sv x.e.t.name, iv x.e.t.n, tys x.e.t.kids, tys x.e.ts, txs x.e.kids, tas x.e.alts, tbs x.e.binds, iv x.e.at_, iv x.at_] := by
  rw [tbs]; exact idx_ok sl_tbs (by rw [List.getElem?_map, h, Option.map_some, Tb.cells_eq]) rfl
section
variable {β : Type} {d : β} {k : AV → β}
theorem lenK_txs (l : List Tx) : lenK Tryz.prog d 25 (.pv (txs l)) k = k (.pv (iv l.length)) := lenK_of (fun _ => len_txs l) (nsa_lit _)
theorem idxK_txs {l : List Tx} {i : Nat} {x : Tx} (h : l[i]? = some x) : idxK Tryz.prog d 25 (.pv (txs l)) (.pv (.lit (.int .i64 (i : Int)))) k = k (.cptr [iv x.kind, sv x.name, iv x.n, iv x.t.kind, sv x.t.name, iv x.t.n, tys x.t.kids, tys x.ts, txs x.kids, tas x.alts, tbs x.binds, iv x.at_]) := idxK_of (fun _ => idx_txs h) (nsa_c (by simp [NSL_cons, NSL_nil]))
theorem lenK_tas (l : List Ta) : lenK Tryz.prog d 26 (.pv (tas l)) k = k (.pv (iv l.length)) := lenK_of (fun _ => len_tas l) (nsa_lit _)
theorem idxK_tas {l : List Ta} {i : Nat} {x : Ta} (h : l[i]? = some x) : idxK Tryz.prog d 26 (.pv (tas l)) (.pv (.lit (.int .i64 (i : Int)))) k = k (.cptr [iv x.p.kind, sv x.p.name, iv x.p.n, pts x.p.kids, iv x.p.at_, iv x.e.kind, sv x.e.name, iv x.e.n, iv x.e.t.kind, sv x.e.t.name, iv x.e.t.n, tys x.e.t.kids, tys x.e.ts, txs x.e.kids, tas x.e.alts, tbs x.e.binds, iv x.e.at_]) := idxK_of (fun _ => idx_tas h) (nsa_c (by simp [NSL_cons, NSL_nil]))
theorem lenK_tbs (l : List Tb) : lenK Tryz.prog d 27 (.pv (tbs l)) k = k (.pv (iv l.length)) := lenK_of (fun _ => len_tbs l) (nsa_lit _)
theorem idxK_tbs {l : List Tb} {i : Nat} {x : Tb} (h : l[i]? = some x) : idxK Tryz.prog d 27 (.pv (tbs l)) (.pv (.lit (.int .i64 (i : Int)))) k = k (.cptr [sv x.name, strs x.vars, pds x.ps, iv x.e.kind, sv x.e.name, iv x.e.n, iv x.e.t.kind, sv x.e.t.name, iv x.e.t.n, tys x.e.t.kids, tys x.e.ts, txs x.e.kids, tas x.e.alts, tbs x.e.binds, iv x.e.at_, iv x.at_]) := idxK_of (fun _ => idx_tbs h) (nsa_c (by simp [NSL_cons, NSL_nil]))
end
attribute [simp] lenK_txs lenK_tas lenK_tbs
end Go.Proofs.YtlfkefbhdmfllaaGreatDoor
