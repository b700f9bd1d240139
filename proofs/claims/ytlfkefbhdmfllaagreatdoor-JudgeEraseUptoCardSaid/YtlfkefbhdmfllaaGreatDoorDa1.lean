/- Types, patterns, expressions and declarations as data. Printed by data.py. -/
import Derived.Test.YtlfkefbhdmfllaaGreatDoorBc
import Derived.Test.YtlfkefbhdmfllaaGreatDoorProg
import Derived.KernelRfl
namespace Go.Proofs.YtlfkefbhdmfllaaGreatDoor
open Go.RowKit

inductive Ty where
  | mk (kind : Int) (name : ByteArray) (n : Int) (kids : List Ty)
inductive Pt where
  | mk (kind : Int) (name : ByteArray) (n : Int) (kids : List Pt) (at_ : Int)
mutual
inductive Ex where
  | mk (kind : Int) (name : ByteArray) (n : Int) (t : Ty) (kids : List Ex) (alts : List Al) (binds : List Bd) (at_ : Int)
inductive Al where
  | mk (p : Pt) (e : Ex)
inductive Bd where
  | mk (name : ByteArray) (e : Ex) (at_ : Int)
end
def Ty.kind : Ty → Int | .mk k _ _ _ => k
def Ty.name : Ty → ByteArray | .mk _ s _ _ => s
def Ty.n : Ty → Int | .mk _ _ n _ => n
def Ty.kids : Ty → List Ty | .mk _ _ _ ks => ks
def Pt.kind : Pt → Int | .mk k _ _ _ _ => k
def Pt.name : Pt → ByteArray | .mk _ s _ _ _ => s
def Pt.n : Pt → Int | .mk _ _ n _ _ => n
def Pt.kids : Pt → List Pt | .mk _ _ _ ks _ => ks
def Pt.at_ : Pt → Int | .mk _ _ _ _ a => a
def Ex.kind : Ex → Int | .mk k _ _ _ _ _ _ _ => k
def Ex.name : Ex → ByteArray | .mk _ s _ _ _ _ _ _ => s
def Ex.n : Ex → Int | .mk _ _ n _ _ _ _ _ => n
def Ex.t : Ex → Ty | .mk _ _ _ t _ _ _ _ => t
def Ex.kids : Ex → List Ex | .mk _ _ _ _ ks _ _ _ => ks
def Ex.alts : Ex → List Al | .mk _ _ _ _ _ l _ _ => l
def Ex.binds : Ex → List Bd | .mk _ _ _ _ _ _ l _ => l
def Ex.at_ : Ex → Int | .mk _ _ _ _ _ _ _ a => a
def Al.p : Al → Pt | .mk p _ => p
def Al.e : Al → Ex | .mk _ e => e
def Bd.name : Bd → ByteArray | .mk s _ _ => s
def Bd.e : Bd → Ex | .mk _ e _ => e
def Bd.at_ : Bd → Int | .mk _ _ a => a
structure Cn where
  name : ByteArray
  args : List Ty
  at_ : Int
structure Dt where
  name : ByteArray
  params : List ByteArray
  cons : List Cn
  deriv : List ByteArray
  at_ : Int
structure Md where
  name : ByteArray
  t : Ty
  at_ : Int
structure Cl where
  name : ByteArray
  var : ByteArray
  supers : List ByteArray
  methods : List Md
  defaults : List Bd
  at_ : Int
structure Pd where
  cls : ByteArray
  t : Ty
structure It where
  cls : ByteArray
  head : Ty
  ctx : List Pd
  binds : List Bd
  at_ : Int
mutual
def Ty.cells : Ty → List PV
  | .mk k s n ks => [iv k, sv s, iv n, .rows (Ty.rows ks)]
def Ty.rows : List Ty → List (List PV)
  | [] => []
  | v :: l => v.cells :: Ty.rows l
end
mutual
def Pt.cells : Pt → List PV
  | .mk k s n ks a => [iv k, sv s, iv n, .rows (Pt.rows ks), iv a]
def Pt.rows : List Pt → List (List PV)
  | [] => []
  | v :: l => v.cells :: Pt.rows l
end
theorem Ty.rows_eq : ∀ l, Ty.rows l = l.map Ty.cells
  | [] => by rw [Ty.rows]; rfl
  | v :: l => by rw [Ty.rows, Ty.rows_eq l]; rfl
theorem Pt.rows_eq : ∀ l, Pt.rows l = l.map Pt.cells
  | [] => by rw [Pt.rows]; rfl
  | v :: l => by rw [Pt.rows, Pt.rows_eq l]; rfl
def tys (l : List Ty) : PV := .rows (l.map Ty.cells)
def pts (l : List Pt) : PV := .rows (l.map Pt.cells)
def strs (l : List ByteArray) : PV := .rows (l.map fun s => [sv s])
theorem Ty.cells_eq (t : Ty) : t.cells = [iv t.kind, sv t.name, iv t.n, tys t.kids] := by cases t; rw [Ty.cells, Ty.rows_eq]; rfl
theorem Pt.cells_eq (p : Pt) : p.cells = [iv p.kind, sv p.name, iv p.n, pts p.kids, iv p.at_] := by cases p; rw [Pt.cells, Pt.rows_eq]; rfl
mutual
def Ex.cells : Ex → List PV
  | .mk k s n t ks xs bs a => [iv k, sv s, iv n, iv t.kind, sv t.name, iv t.n, tys t.kids, .rows (Ex.rows ks), .rows (Al.rows xs), .rows (Bd.rows bs), iv a]
def Al.cells : Al → List PV
  | .mk p e => iv p.kind :: sv p.name :: iv p.n :: pts p.kids :: iv p.at_ :: e.cells
def Bd.cells : Bd → List PV
  | .mk s e a => sv s :: (e.cells ++ [iv a])
def Ex.rows : List Ex → List (List PV)
  | [] => []
  | v :: l => v.cells :: Ex.rows l
def Al.rows : List Al → List (List PV)
  | [] => []
  | v :: l => v.cells :: Al.rows l
def Bd.rows : List Bd → List (List PV)
  | [] => []
  | v :: l => v.cells :: Bd.rows l
end
theorem Ex.rows_eq : ∀ l, Ex.rows l = l.map Ex.cells
  | [] => by rw [Ex.rows]; rfl
  | v :: l => by rw [Ex.rows, Ex.rows_eq l]; rfl
theorem Al.rows_eq : ∀ l, Al.rows l = l.map Al.cells
  | [] => by rw [Al.rows]; rfl
  | v :: l => by rw [Al.rows, Al.rows_eq l]; rfl
theorem Bd.rows_eq : ∀ l, Bd.rows l = l.map Bd.cells
  | [] => by rw [Bd.rows]; rfl
  | v :: l => by rw [Bd.rows, Bd.rows_eq l]; rfl
def exs (l : List Ex) : PV := .rows (l.map Ex.cells)
def als (l : List Al) : PV := .rows (l.map Al.cells)
def bds (l : List Bd) : PV := .rows (l.map Bd.cells)
theorem Ex.cells_eq (e : Ex) : e.cells = [iv e.kind, sv e.name, iv e.n, iv e.t.kind, sv e.t.name, iv e.t.n, tys e.t.kids, exs e.kids, als e.alts, bds e.binds, iv e.at_] := by cases e; rw [Ex.cells, Ex.rows_eq, Al.rows_eq, Bd.rows_eq]; rfl
theorem Al.cells_eq (x : Al) : x.cells = [iv x.p.kind, sv x.p.name, iv x.p.n, pts x.p.kids, iv x.p.at_, iv x.e.kind, sv x.e.name, iv x.e.n, iv x.e.t.kind, sv x.e.t.name, iv x.e.t.n, tys x.e.t.kids, exs x.e.kids, als x.e.alts, bds x.e.binds, iv x.e.at_] := by cases x; rw [Al.cells, Ex.cells_eq]; rfl
theorem Bd.cells_eq (x : Bd) : x.cells = [sv x.name, iv x.e.kind, sv x.e.name, iv x.e.n, iv x.e.t.kind, sv x.e.t.name, iv x.e.t.n, tys x.e.t.kids, exs x.e.kids, als x.e.alts, bds x.e.binds, iv x.e.at_, iv x.at_] := by cases x; rw [Bd.cells, Ex.cells_eq]; rfl
def Cn.cells (x : Cn) : List PV := [sv x.name, tys x.args, iv x.at_]
def cns (l : List Cn) : PV := .rows (l.map Cn.cells)
def Dt.cells (x : Dt) : List PV := [sv x.name, strs x.params, cns x.cons, strs x.deriv, iv x.at_]
def dts (l : List Dt) : PV := .rows (l.map Dt.cells)
def Md.cells (x : Md) : List PV := [sv x.name, iv x.t.kind, sv x.t.name, iv x.t.n, tys x.t.kids, iv x.at_]
def mds (l : List Md) : PV := .rows (l.map Md.cells)
def Cl.cells (x : Cl) : List PV := [sv x.name, sv x.var, strs x.supers, mds x.methods, bds x.defaults, iv x.at_]
def cls (l : List Cl) : PV := .rows (l.map Cl.cells)
def Pd.cells (x : Pd) : List PV := [sv x.cls, iv x.t.kind, sv x.t.name, iv x.t.n, tys x.t.kids]
def pds (l : List Pd) : PV := .rows (l.map Pd.cells)
def It.cells (x : It) : List PV := [sv x.cls, iv x.head.kind, sv x.head.name, iv x.head.n, tys x.head.kids, pds x.ctx, bds x.binds, iv x.at_]
def its (l : List It) : PV := .rows (l.map It.cells)
/-! No names within. -/
mutual
theorem Ty.ns : ∀ (v : Ty), ∀ p ∈ v.cells, NS p
  | .mk k s n ks, p, hp => by
    have := Ty.nsL ks
    rw [Ty.cells] at hp
    simp only [List.mem_cons, List.not_mem_nil, or_false] at hp
    rcases hp with rfl | rfl | rfl | rfl
    · exact .lit _
    · exact .lit _
    · exact .lit _
    · exact .rows _ this
theorem Ty.nsL : ∀ (l : List Ty), ∀ c ∈ Ty.rows l, ∀ p ∈ c, NS p
  | [], c, hc, _, _ => by simp [Ty.rows] at hc
  | v :: l, c, hc, p, hp => by
    have h1 := Ty.ns v
    have h2 := Ty.nsL l
    rw [Ty.rows, List.mem_cons] at hc
    rcases hc with rfl | hc
    · exact h1 p hp
    · exact h2 c hc p hp
end
mutual
theorem Pt.ns : ∀ (v : Pt), ∀ p ∈ v.cells, NS p
  | .mk k s n ks a, p, hp => by
    have := Pt.nsL ks
    rw [Pt.cells] at hp
    simp only [List.mem_cons, List.not_mem_nil, or_false] at hp
    rcases hp with rfl | rfl | rfl | rfl | rfl
    · exact .lit _
    · exact .lit _
    · exact .lit _
    · exact .rows _ this
    · exact .lit _
theorem Pt.nsL : ∀ (l : List Pt), ∀ c ∈ Pt.rows l, ∀ p ∈ c, NS p
  | [], c, hc, _, _ => by simp [Pt.rows] at hc
  | v :: l, c, hc, p, hp => by
    have h1 := Pt.ns v
    have h2 := Pt.nsL l
    rw [Pt.rows, List.mem_cons] at hc
    rcases hc with rfl | hc
    · exact h1 p hp
    · exact h2 c hc p hp
end
@[simp] theorem ns_tys (l : List Ty) : NS (tys l) := by rw [tys, ← Ty.rows_eq]; exact .rows _ (Ty.nsL l)
@[simp] theorem ns_pts (l : List Pt) : NS (pts l) := by rw [pts, ← Pt.rows_eq]; exact .rows _ (Pt.nsL l)
theorem ns_rows {α : Type} {f : α → List PV} {l : List α} (h : ∀ x ∈ l, ∀ p ∈ f x, NS p) : NS (.rows (l.map f)) := .rows _ fun c hc p hp => by
  obtain ⟨x, hx, rfl⟩ := List.mem_map.1 hc
  exact h x hx p hp
@[simp] theorem ns_strs (l : List ByteArray) : NS (strs l) := ns_rows fun x _ p hp => by simp at hp; subst hp; exact .lit _
mutual
theorem Ex.ns : ∀ (v : Ex), ∀ p ∈ v.cells, NS p
  | .mk k s n t ks xs bs a, p, hp => by
    have h1 := Ex.nsL ks
    have h2 := Al.nsL xs
    have h3 := Bd.nsL bs
    rw [Ex.cells] at hp
    simp only [List.mem_cons, List.not_mem_nil, or_false] at hp
    rcases hp with rfl | rfl | rfl | rfl | rfl | rfl | rfl | rfl | rfl | rfl | rfl
    · exact .lit _
    · exact .lit _
    · exact .lit _
    · exact .lit _
    · exact .lit _
    · exact .lit _
    · exact ns_tys _
    · exact .rows _ h1
    · exact .rows _ h2
    · exact .rows _ h3
    · exact .lit _
theorem Al.ns : ∀ (v : Al), ∀ p ∈ v.cells, NS p
  | .mk q e, p, hp => by
    have h1 := Ex.ns e
    rw [Al.cells] at hp
    simp only [List.mem_cons] at hp
    rcases hp with rfl | rfl | rfl | rfl | rfl | hp
    · exact .lit _
    · exact .lit _
    · exact .lit _
    · exact ns_pts _
    · exact .lit _
    · exact h1 p hp
theorem Bd.ns : ∀ (v : Bd), ∀ p ∈ v.cells, NS p
  | .mk s e a, p, hp => by
    have h1 := Ex.ns e
    rw [Bd.cells] at hp
    simp only [List.mem_cons, List.mem_append, List.not_mem_nil, or_false] at hp
    rcases hp with rfl | hp | rfl
    · exact .lit _
    · exact h1 p hp
    · exact .lit _
theorem Ex.nsL : ∀ (l : List Ex), ∀ c ∈ Ex.rows l, ∀ p ∈ c, NS p
  | [], c, hc, _, _ => by simp [Ex.rows] at hc
  | v :: l, c, hc, p, hp => by
    have h1 := Ex.ns v
    have h2 := Ex.nsL l
    rw [Ex.rows, List.mem_cons] at hc
    rcases hc with rfl | hc
    · exact h1 p hp
    · exact h2 c hc p hp
theorem Al.nsL : ∀ (l : List Al), ∀ c ∈ Al.rows l, ∀ p ∈ c, NS p
  | [], c, hc, _, _ => by simp [Al.rows] at hc
  | v :: l, c, hc, p, hp => by
    have h1 := Al.ns v
    have h2 := Al.nsL l
    rw [Al.rows, List.mem_cons] at hc
    rcases hc with rfl | hc
    · exact h1 p hp
    · exact h2 c hc p hp
theorem Bd.nsL : ∀ (l : List Bd), ∀ c ∈ Bd.rows l, ∀ p ∈ c, NS p
  | [], c, hc, _, _ => by simp [Bd.rows] at hc
  | v :: l, c, hc, p, hp => by
    have h1 := Bd.ns v
    have h2 := Bd.nsL l
    rw [Bd.rows, List.mem_cons] at hc
    rcases hc with rfl | hc
    · exact h1 p hp
    · exact h2 c hc p hp
end
@[simp] theorem ns_exs (l : List Ex) : NS (exs l) := by rw [exs, ← Ex.rows_eq]; exact .rows _ (Ex.nsL l)
@[simp] theorem ns_als (l : List Al) : NS (als l) := by rw [als, ← Al.rows_eq]; exact .rows _ (Al.nsL l)
@[simp] theorem ns_bds (l : List Bd) : NS (bds l) := by rw [bds, ← Bd.rows_eq]; exact .rows _ (Bd.nsL l)
@[simp] theorem ns_cns (l : List Cn) : NS (cns l) := ns_rows fun x _ p hp => by
  simp only [Cn.cells, List.mem_cons, List.not_mem_nil, or_false] at hp
  rcases hp with rfl | rfl | rfl <;> simp
@[simp] theorem ns_dts (l : List Dt) : NS (dts l) := ns_rows fun x _ p hp => by
  simp only [Dt.cells, List.mem_cons, List.not_mem_nil, or_false] at hp
  rcases hp with rfl | rfl | rfl | rfl | rfl <;> simp
@[simp] theorem ns_mds (l : List Md) : NS (mds l) := ns_rows fun x _ p hp => by
  simp only [Md.cells, List.mem_cons, List.not_mem_nil, or_false] at hp
  rcases hp with rfl | rfl | rfl | rfl | rfl | rfl <;> simp
@[simp] theorem ns_cls (l : List Cl) : NS (cls l) := ns_rows fun x _ p hp => by
  simp only [Cl.cells, List.mem_cons, List.not_mem_nil, or_false] at hp
  rcases hp with rfl | rfl | rfl | rfl | rfl | rfl <;> simp
@[simp] theorem ns_pds (l : List Pd) : NS (pds l) := ns_rows fun x _ p hp => by
  simp only [Pd.cells, List.mem_cons, List.not_mem_nil, or_false] at hp
  rcases hp with rfl | rfl | rfl | rfl | rfl <;> simp
@[simp] theorem ns_its (l : List It) : NS (its l) := ns_rows fun x _ p hp => by
  simp only [It.cells, List.mem_cons, List.not_mem_nil, or_false] at hp
  rcases hp with rfl | rfl | rfl | rfl | rfl | rfl | rfl | rfl <;> simp
/-! Lengths and elements. -/
theorem sl_strs : SlT Tryz.prog 65 1 16 := SlT.of (by kernel_rfl)
@[simp] theorem len_strs {r : AV} (l : List ByteArray) : LenOk Tryz.prog 65 (.pv (strs l)) r ↔ r = .pv (iv l.length) := by rw [strs, len_ok sl_strs, List.length_map]
theorem idx_strs {r : AV} {l : List ByteArray} {i : Nat} {x : ByteArray} (h : l[i]? = some x) : IdxOk Tryz.prog 65 (.pv (strs l)) (.pv (.lit (.int .i64 (i : Int)))) r ↔ r = .cptr [sv x] := by
  rw [strs]; exact idx_ok sl_strs (by rw [List.getElem?_map, h]; rfl) rfl
theorem sl_tys : SlT Tryz.prog 22 4 56 := SlT.of (by kernel_rfl)
@[simp] theorem len_tys {r : AV} (l : List Ty) : LenOk Tryz.prog 22 (.pv (tys l)) r ↔ r = .pv (iv l.length) := by rw [tys, len_ok sl_tys, List.length_map]
theorem idx_tys {r : AV} {l : List Ty} {i : Nat} {x : Ty} (h : l[i]? = some x) : IdxOk Tryz.prog 22 (.pv (tys l)) (.pv (.lit (.int .i64 (i : Int)))) r ↔ r = .cptr [iv x.kind, sv x.name, iv x.n, tys x.kids] := by
  rw [tys]; exact idx_ok sl_tys (by rw [List.getElem?_map, h, Option.map_some, Ty.cells_eq]) rfl
theorem sl_pts : SlT Tryz.prog 54 5 64 := SlT.of (by kernel_rfl)
@[simp] theorem len_pts {r : AV} (l : List Pt) : LenOk Tryz.prog 54 (.pv (pts l)) r ↔ r = .pv (iv l.length) := by rw [pts, len_ok sl_pts, List.length_map]
theorem idx_pts {r : AV} {l : List Pt} {i : Nat} {x : Pt} (h : l[i]? = some x) : IdxOk Tryz.prog 54 (.pv (pts l)) (.pv (.lit (.int .i64 (i : Int)))) r ↔ r = .cptr [iv x.kind, sv x.name, iv x.n, pts x.kids, iv x.at_] := by
  rw [pts]; exact idx_ok sl_pts (by rw [List.getElem?_map, h, Option.map_some, Pt.cells_eq]) rfl
theorem sl_exs : SlT Tryz.prog 32 11 168 := SlT.of (by kernel_rfl)
@[simp] theorem len_exs {r : AV} (l : List Ex) : LenOk Tryz.prog 32 (.pv (exs l)) r ↔ r = .pv (iv l.length) := by rw [exs, len_ok sl_exs, List.length_map]
theorem idx_exs {r : AV} {l : List Ex} {i : Nat} {x : Ex} (h : l[i]? = some x) : IdxOk Tryz.prog 32 (.pv (exs l)) (.pv (.lit (.int .i64 (i : Int)))) r ↔ r = .cptr [iv x.kind, sv x.name, iv x.n, iv x.t.kind, sv x.t.name, iv x.t.n, tys x.t.kids, exs x.kids, als x.alts, bds x.binds, iv x.at_] := by
  rw [exs]; exact idx_ok sl_exs (by rw [List.getElem?_map, h, Option.map_some, Ex.cells_eq]) rfl
theorem sl_als : SlT Tryz.prog 33 16 232 := SlT.of (by kernel_rfl)
@[simp] theorem len_als {r : AV} (l : List Al) : LenOk Tryz.prog 33 (.pv (als l)) r ↔ r = .pv (iv l.length) := by rw [als, len_ok sl_als, List.length_map]
theorem idx_als {r : AV} {l : List Al} {i : Nat} {x : Al} (h : l[i]? = some x) : IdxOk Tryz.prog 33 (.pv (als l)) (.pv (.lit (.int .i64 (i : Int)))) r ↔ r = .cptr [iv x.p.kind, sv x.p.name, iv x.p.n, pts x.p.kids, iv x.p.at_, iv x.e.kind, sv x.e.name, iv x.e.n, iv x.e.t.kind, sv x.e.t.name, iv x.e.t.n, tys x.e.t.kids, exs x.e.kids, als x.e.alts, bds x.e.binds, iv x.e.at_] := by
  rw [als]; exact idx_ok sl_als (by rw [List.getElem?_map, h, Option.map_some, Al.cells_eq]) rfl
theorem sl_bds : SlT Tryz.prog 34 13 192 := SlT.of (by kernel_rfl)
@[simp] theorem len_bds {r : AV} (l : List Bd) : LenOk Tryz.prog 34 (.pv (bds l)) r ↔ r = .pv (iv l.length) := by rw [bds, len_ok sl_bds, List.length_map]
theorem idx_bds {r : AV} {l : List Bd} {i : Nat} {x : Bd} (h : l[i]? = some x) : IdxOk Tryz.prog 34 (.pv (bds l)) (.pv (.lit (.int .i64 (i : Int)))) r ↔ r = .cptr [sv x.name, iv x.e.kind, sv x.e.name, iv x.e.n, iv x.e.t.kind, sv x.e.t.name, iv x.e.t.n, tys x.e.t.kids, exs x.e.kids, als x.e.alts, bds x.e.binds, iv x.e.at_, iv x.at_] := by
  rw [bds]; exact idx_ok sl_bds (by rw [List.getElem?_map, h, Option.map_some, Bd.cells_eq]) rfl
theorem sl_cns : SlT Tryz.prog 96 3 48 := SlT.of (by kernel_rfl)
@[simp] theorem len_cns {r : AV} (l : List Cn) : LenOk Tryz.prog 96 (.pv (cns l)) r ↔ r = .pv (iv l.length) := by rw [cns, len_ok sl_cns, List.length_map]
theorem idx_cns {r : AV} {l : List Cn} {i : Nat} {x : Cn} (h : l[i]? = some x) : IdxOk Tryz.prog 96 (.pv (cns l)) (.pv (.lit (.int .i64 (i : Int)))) r ↔ r = .cptr [sv x.name, tys x.args, iv x.at_] := by
  rw [cns]; exact idx_ok sl_cns (by rw [List.getElem?_map, h, Option.map_some, Cn.cells]) rfl
theorem sl_dts : SlT Tryz.prog 42 5 96 := SlT.of (by kernel_rfl)
@[simp] theorem len_dts {r : AV} (l : List Dt) : LenOk Tryz.prog 42 (.pv (dts l)) r ↔ r = .pv (iv l.length) := by rw [dts, len_ok sl_dts, List.length_map]
theorem idx_dts {r : AV} {l : List Dt} {i : Nat} {x : Dt} (h : l[i]? = some x) : IdxOk Tryz.prog 42 (.pv (dts l)) (.pv (.lit (.int .i64 (i : Int)))) r ↔ r = .cptr [sv x.name, strs x.params, cns x.cons, strs x.deriv, iv x.at_] := by
  rw [dts]; exact idx_ok sl_dts (by rw [List.getElem?_map, h, Option.map_some, Dt.cells]) rfl
theorem sl_mds : SlT Tryz.prog 131 6 80 := SlT.of (by kernel_rfl)
@[simp] theorem len_mds {r : AV} (l : List Md) : LenOk Tryz.prog 131 (.pv (mds l)) r ↔ r = .pv (iv l.length) := by rw [mds, len_ok sl_mds, List.length_map]
theorem idx_mds {r : AV} {l : List Md} {i : Nat} {x : Md} (h : l[i]? = some x) : IdxOk Tryz.prog 131 (.pv (mds l)) (.pv (.lit (.int .i64 (i : Int)))) r ↔ r = .cptr [sv x.name, iv x.t.kind, sv x.t.name, iv x.t.n, tys x.t.kids, iv x.at_] := by
  rw [mds]; exact idx_ok sl_mds (by rw [List.getElem?_map, h, Option.map_some, Md.cells]) rfl
theorem sl_cls : SlT Tryz.prog 43 6 112 := SlT.of (by kernel_rfl)
@[simp] theorem len_cls {r : AV} (l : List Cl) : LenOk Tryz.prog 43 (.pv (cls l)) r ↔ r = .pv (iv l.length) := by rw [cls, len_ok sl_cls, List.length_map]
theorem idx_cls {r : AV} {l : List Cl} {i : Nat} {x : Cl} (h : l[i]? = some x) : IdxOk Tryz.prog 43 (.pv (cls l)) (.pv (.lit (.int .i64 (i : Int)))) r ↔ r = .cptr [sv x.name, sv x.var, strs x.supers, mds x.methods, bds x.defaults, iv x.at_] := by
  rw [cls]; exact idx_ok sl_cls (by rw [List.getElem?_map, h, Option.map_some, Cl.cells]) rfl
theorem sl_pds : SlT Tryz.prog 66 5 72 := SlT.of (by kernel_rfl)
@[simp] theorem len_pds {r : AV} (l : List Pd) : LenOk Tryz.prog 66 (.pv (pds l)) r ↔ r = .pv (iv l.length) := by rw [pds, len_ok sl_pds, List.length_map]
theorem idx_pds {r : AV} {l : List Pd} {i : Nat} {x : Pd} (h : l[i]? = some x) : IdxOk Tryz.prog 66 (.pv (pds l)) (.pv (.lit (.int .i64 (i : Int)))) r ↔ r = .cptr [sv x.cls, iv x.t.kind, sv x.t.name, iv x.t.n, tys x.t.kids] := by
  rw [pds]; exact idx_ok sl_pds (by rw [List.getElem?_map, h, Option.map_some, Pd.cells]) rfl
theorem sl_its : SlT Tryz.prog 44 8 128 := SlT.of (by kernel_rfl)
@[simp] theorem len_its {r : AV} (l : List It) : LenOk Tryz.prog 44 (.pv (its l)) r ↔ r = .pv (iv l.length) := by rw [its, len_ok sl_its, List.length_map]
theorem idx_its {r : AV} {l : List It} {i : Nat} {x : It} (h : l[i]? = some x) : IdxOk Tryz.prog 44 (.pv (its l)) (.pv (.lit (.int .i64 (i : Int)))) r ↔ r = .cptr [sv x.cls, iv x.head.kind, sv x.head.name, iv x.head.n, tys x.head.kids, pds x.ctx, bds x.binds, iv x.at_] := by
  rw [its]; exact idx_ok sl_its (by rw [List.getElem?_map, h, Option.map_some, It.cells]) rfl
/-! As arguments. -/
abbrev tyA (x : Ty) : AV := .agg [.pv (iv x.kind), .pv (sv x.name), .pv (iv x.n), .pv (tys x.kids)]
abbrev exA (x : Ex) : AV := .agg [.pv (iv x.kind), .pv (sv x.name), .pv (iv x.n), .pv (iv x.t.kind), .pv (sv x.t.name), .pv (iv x.t.n), .pv (tys x.t.kids), .pv (exs x.kids), .pv (als x.alts), .pv (bds x.binds), .pv (iv x.at_)]
abbrev ptA (x : Pt) : AV := .agg [.pv (iv x.kind), .pv (sv x.name), .pv (iv x.n), .pv (pts x.kids), .pv (iv x.at_)]
abbrev alA (x : Al) : AV := .agg [.pv (iv x.p.kind), .pv (sv x.p.name), .pv (iv x.p.n), .pv (pts x.p.kids), .pv (iv x.p.at_), .pv (iv x.e.kind), .pv (sv x.e.name), .pv (iv x.e.n), .pv (iv x.e.t.kind), .pv (sv x.e.t.name), .pv (iv x.e.t.n), .pv (tys x.e.t.kids), .pv (exs x.e.kids), .pv (als x.e.alts), .pv (bds x.e.binds), .pv (iv x.e.at_)]
abbrev bdA (x : Bd) : AV := .agg [.pv (sv x.name), .pv (iv x.e.kind), .pv (sv x.e.name), .pv (iv x.e.n), .pv (iv x.e.t.kind), .pv (sv x.e.t.name), .pv (iv x.e.t.n), .pv (tys x.e.t.kids), .pv (exs x.e.kids), .pv (als x.e.alts), .pv (bds x.e.binds), .pv (iv x.e.at_), .pv (iv x.at_)]
abbrev cnA (x : Cn) : AV := .agg [.pv (sv x.name), .pv (tys x.args), .pv (iv x.at_)]
abbrev dtA (x : Dt) : AV := .agg [.pv (sv x.name), .pv (strs x.params), .pv (cns x.cons), .pv (strs x.deriv), .pv (iv x.at_)]
abbrev mdA (x : Md) : AV := .agg [.pv (sv x.name), .pv (iv x.t.kind), .pv (sv x.t.name), .pv (iv x.t.n), .pv (tys x.t.kids), .pv (iv x.at_)]
abbrev clA (x : Cl) : AV := .agg [.pv (sv x.name), .pv (sv x.var), .pv (strs x.supers), .pv (mds x.methods), .pv (bds x.defaults), .pv (iv x.at_)]
abbrev pdA (x : Pd) : AV := .agg [.pv (sv x.cls), .pv (iv x.t.kind), .pv (sv x.t.name), .pv (iv x.t.n), .pv (tys x.t.kids)]
abbrev itA (x : It) : AV := .agg [.pv (sv x.cls), .pv (iv x.head.kind), .pv (sv x.head.name), .pv (iv x.head.n), .pv (tys x.head.kids), .pv (pds x.ctx), .pv (bds x.binds), .pv (iv x.at_)]
structure Ev where
  datas : List Dt
  classes : List Cl
  insts : List It
abbrev evA (v : Ev) : AV := .agg [.pv (dts v.datas), .pv (cls v.classes), .pv (its v.insts)]
structure Pg extends Ev where
  binds : List Bd
abbrev pgA (v : Pg) : AV := .agg [.pv (dts v.datas), .pv (cls v.classes), .pv (its v.insts), .pv (bds v.binds)]
theorem no_obj : ∀ x ∈ ([] : List AObj), NSO x := fun x hx => by cases hx
def maxN : Nat := 9223372036854775807
theorem wrap_lt {k n : Nat} (h : k < n) (hn : n ≤ maxN) : IntKind.i64.wrap ((k : Int) + 1) = ((k + 1 : Nat) : Int) := by unfold maxN at hn; rw [wrap_id (by omega)]; omega
theorem lt_of_get {α : Type} {l : List α} {i : Nat} {a : α} (h : l[i]? = some a) : i < l.length := by
  by_cases hi : i < l.length
  · exact hi
  · rw [List.getElem?_eq_none (by omega)] at h; cases h
end Go.Proofs.YtlfkefbhdmfllaaGreatDoor
