/- Joined texts. -/
import Derived.Test.YtijcobeebaceoaaGreatDoorBc
import Derived.Test.YtijcobeebaceoaaGreatDoorProg
import Derived.KernelRfl
import Derived.Test.YtijcobeebaceoaaGreatDoorKq1
namespace Go.Proofs.YtijcobeebaceoaaGreatDoor
open Go.RowKit

inductive Ty where
  | mk (kind : Int) (name : ByteArray) (n : Int) (kids : List Ty)
inductive Pt where
  | mk (kind : Int) (name : ByteArray) (n : Int) (kids : List Pt) (at_ : Int)
mutual
inductive Ex where
  | mk (kind : Int) (name : ByteArray) (n : Int) (t : Ty) (kids : List Ex) (alts : List Al) (binds : List Bd) (at_ : Int)
inductive Al where
  | mk (p : Pt) (e : Ex)
inductive Bd where
  | mk (name : ByteArray) (e : Ex) (at_ : Int)
end
def Ty.kind : Ty → Int | .mk k _ _ _ => k
def Ty.name : Ty → ByteArray | .mk _ s _ _ => s
def Ty.n : Ty → Int | .mk _ _ n _ => n
def Ty.kids : Ty → List Ty | .mk _ _ _ ks => ks
def Pt.kind : Pt → Int | .mk k _ _ _ _ => k
def Pt.name : Pt → ByteArray | .mk _ s _ _ _ => s
def Pt.n : Pt → Int | .mk _ _ n _ _ => n
def Pt.kids : Pt → List Pt | .mk _ _ _ ks _ => ks
def Pt.at_ : Pt → Int | .mk _ _ _ _ a => a
def Ex.kind : Ex → Int | .mk k _ _ _ _ _ _ _ => k
def Ex.name : Ex → ByteArray | .mk _ s _ _ _ _ _ _ => s
def Ex.n : Ex → Int | .mk _ _ n _ _ _ _ _ => n
def Ex.t : Ex → Ty | .mk _ _ _ t _ _ _ _ => t
def Ex.kids : Ex → List Ex | .mk _ _ _ _ ks _ _ _ => ks
def Ex.alts : Ex → List Al | .mk _ _ _ _ _ l _ _ => l
def Ex.binds : Ex → List Bd | .mk _ _ _ _ _ _ l _ => l
def Ex.at_ : Ex → Int | .mk _ _ _ _ _ _ _ a => a
def Al.p : Al → Pt | .mk p _ => p
def Al.e : Al → Ex | .mk _ e => e
def Bd.name : Bd → ByteArray | .mk s _ _ => s
def Bd.e : Bd → Ex | .mk _ e _ => e
def Bd.at_ : Bd → Int | .mk _ _ a => a
structure Cn where
  name : ByteArray
  args : List Ty
  at_ : Int
structure Dt where
  name : ByteArray
  params : List ByteArray
  cons : List Cn
  deriv : List ByteArray
  at_ : Int
structure Md where
  name : ByteArray
  t : Ty
  at_ : Int
structure Cl where
  name : ByteArray
  var : ByteArray
  supers : List ByteArray
  methods : List Md
  defaults : List Bd
  at_ : Int
structure Pd where
  cls : ByteArray
  t : Ty
structure It where
  cls : ByteArray
  head : Ty
  ctx : List Pd
  binds : List Bd
  at_ : Int
mutual
def Ty.cells : Ty → List PV
  | .mk k s n ks => [iv k, sv s, iv n, .rows (Ty.rows ks)]
def Ty.rows : List Ty → List (List PV)
  | [] => []
  | v :: l => v.cells :: Ty.rows l
end
mutual
def Pt.cells : Pt → List PV
  | .mk k s n ks a => [iv k, sv s, iv n, .rows (Pt.rows ks), iv a]
def Pt.rows : List Pt → List (List PV)
  | [] => []
  | v :: l => v.cells :: Pt.rows l
end
theorem Ty.rows_eq : ∀ l, Ty.rows l = l.map Ty.cells
  | [] => by rw [Ty.rows]; rfl
  | v :: l => by rw [Ty.rows, Ty.rows_eq l]; rfl
theorem Pt.rows_eq : ∀ l, Pt.rows l = l.map Pt.cells
  | [] => by rw [Pt.rows]; rfl
  | v :: l => by rw [Pt.rows, Pt.rows_eq l]; rfl
def tys (l : List Ty) : PV := .rows (l.map Ty.cells)
def pts (l : List Pt) : PV := .rows (l.map Pt.cells)
def strs (l : List ByteArray) : PV := .rows (l.map fun s => [sv s])
theorem Ty.cells_eq (t : Ty) : t.cells = [iv t.kind, sv t.name, iv t.n, tys t.kids] := by cases t; rw [Ty.cells, Ty.rows_eq]; rfl
theorem Pt.cells_eq (p : Pt) : p.cells = [iv p.kind, sv p.name, iv p.n, pts p.kids, iv p.at_] := by cases p; rw [Pt.cells, Pt.rows_eq]; rfl
mutual
def Ex.cells : Ex → List PV
  | .mk k s n t ks xs bs a => [iv k, sv s, iv n, iv t.kind, sv t.name, iv t.n, tys t.kids, .rows (Ex.rows ks), .rows (Al.rows xs), .rows (Bd.rows bs), iv a]
def Al.cells : Al → List PV
  | .mk p e => iv p.kind :: sv p.name :: iv p.n :: pts p.kids :: iv p.at_ :: e.cells
def Bd.cells : Bd → List PV
  | .mk s e a => sv s :: (e.cells ++ [iv a])
def Ex.rows : List Ex → List (List PV)
  | [] => []
  | v :: l => v.cells :: Ex.rows l
def Al.rows : List Al → List (List PV)
  | [] => []
  | v :: l => v.cells :: Al.rows l
def Bd.rows : List Bd → List (List PV)
  | [] => []
  | v :: l => v.cells :: Bd.rows l
end
theorem Ex.rows_eq : ∀ l, Ex.rows l = l.map Ex.cells
  | [] => by rw [Ex.rows]; rfl
  | v :: l => by rw [Ex.rows, Ex.rows_eq l]; rfl
theorem Al.rows_eq : ∀ l, Al.rows l = l.map Al.cells
  | [] => by rw [Al.rows]; rfl
  | v :: l => by rw [Al.rows, Al.rows_eq l]; rfl
theorem Bd.rows_eq : ∀ l, Bd.rows l = l.map Bd.cells
  | [] => by rw [Bd.rows]; rfl
  | v :: l => by rw [Bd.rows, Bd.rows_eq l]; rfl
def exs (l : List Ex) : PV := .rows (l.map Ex.cells)
def als (l : List Al) : PV := .rows (l.map Al.cells)
def bds (l : List Bd) : PV := .rows (l.map Bd.cells)
theorem Ex.cells_eq (e : Ex) : e.cells = [iv e.kind, sv e.name, iv e.n, iv e.t.kind, sv e.t.name, iv e.t.n, tys e.t.kids, exs e.kids, als e.alts, bds e.binds, iv e.at_] := by cases e; rw [Ex.cells, Ex.rows_eq, Al.rows_eq, Bd.rows_eq]; rfl
theorem Al.cells_eq (x : Al) : x.cells = [iv x.p.kind, sv x.p.name, iv x.p.n, pts x.p.kids, iv x.p.at_, iv x.e.kind, sv x.e.name, iv x.e.n, iv x.e.t.kind, sv x.e.t.name, iv x.e.t.n, tys x.e.t.kids, exs x.e.kids, als x.e.alts, bds x.e.binds, iv x.e.at_] := by cases x; rw [Al.cells, Ex.cells_eq]; rfl
theorem Bd.cells_eq (x : Bd) : x.cells = [sv x.name, iv x.e.kind, sv x.e.name, iv x.e.n, iv x.e.t.kind, sv x.e.t.name, iv x.e.t.n, tys x.e.t.kids, exs x.e.kids, als x.e.alts, bds x.e.binds, iv x.e.at_, iv x.at_] := by cases x; rw [Bd.cells, Ex.cells_eq]; rfl
def Cn.cells (x : Cn) : List PV := [sv x.name, tys x.args, iv x.at_]
def cns (l : List Cn) : PV := .rows (l.map Cn.cells)
def Dt.cells (x : Dt) : List PV := [sv x.name, strs x.params, cns x.cons, strs x.deriv, iv x.at_]
def dts (l : List Dt) : PV := .rows (l.map Dt.cells)
def Md.cells (x : Md) : List PV := [sv x.name, iv x.t.kind, sv x.t.name, iv x.t.n, tys x.t.kids, iv x.at_]
def mds (l : List Md) : PV := .rows (l.map Md.cells)
def Cl.cells (x : Cl) : List PV := [sv x.name, sv x.var, strs x.supers, mds x.methods, bds x.defaults, iv x.at_]
def cls (l : List Cl) : PV := .rows (l.map Cl.cells)
def Pd.cells (x : Pd) : List PV := [sv x.cls, iv x.t.kind, sv x.t.name, iv x.t.n, tys x.t.kids]
def pds (l : List Pd) : PV := .rows (l.map Pd.cells)
def It.cells (x : It) : List PV := [sv x.cls, iv x.head.kind, sv x.head.name, iv x.head.n, tys x.head.kids, pds x.ctx, bds x.binds, iv x.at_]
def its (l : List It) : PV := .rows (l.map It.cells)
/-! No names within. -/
mutual
theorem Ty.ns : ∀ (v : Ty), ∀ p ∈ v.cells, NS p
  | .mk k s n ks, p, hp => by
    have := Ty.nsL ks
    rw [Ty.cells] at hp
    simp only [List.mem_cons, List.not_mem_nil, or_false] at hp
    rcases hp with rfl | rfl | rfl | rfl
    · exact .lit _
    · exact .lit _
    · exact .lit _
    · exact .rows _ this
theorem Ty.nsL : ∀ (l : List Ty), ∀ c ∈ Ty.rows l, ∀ p ∈ c, NS p
  | [], c, hc, _, _ => by simp [Ty.rows] at hc
  | v :: l, c, hc, p, hp => by
    have h1 := Ty.ns v
    have h2 := Ty.nsL l
    rw [Ty.rows, List.mem_cons] at hc
    rcases hc with rfl | hc
    · exact h1 p hp
    · exact h2 c hc p hp
end
mutual
theorem Pt.ns : ∀ (v : Pt), ∀ p ∈ v.cells, NS p
  | .mk k s n ks a, p, hp => by
    have := Pt.nsL ks
    rw [Pt.cells] at hp
    simp only [List.mem_cons, List.not_mem_nil, or_false] at hp
    rcases hp with rfl | rfl | rfl | rfl | rfl
    · exact .lit _
    · exact .lit _
    · exact .lit _
    · exact .rows _ this
    · exact .lit _
theorem Pt.nsL : ∀ (l : List Pt), ∀ c ∈ Pt.rows l, ∀ p ∈ c, NS p
  | [], c, hc, _, _ => by simp [Pt.rows] at hc
  | v :: l, c, hc, p, hp => by
    have h1 := Pt.ns v
    have h2 := Pt.nsL l
    rw [Pt.rows, List.mem_cons] at hc
    rcases hc with rfl | hc
    · exact h1 p hp
    · exact h2 c hc p hp
end
@[simp] theorem ns_tys (l : List Ty) : NS (tys l) := by rw [tys, ← Ty.rows_eq]; exact .rows _ (Ty.nsL l)
@[simp] theorem ns_pts (l : List Pt) : NS (pts l) := by rw [pts, ← Pt.rows_eq]; exact .rows _ (Pt.nsL l)
theorem ns_rows {α : Type} {f : α → List PV} {l : List α} (h : ∀ x ∈ l, ∀ p ∈ f x, NS p) : NS (.rows (l.map f)) := .rows _ fun c hc p hp => by
  obtain ⟨x, hx, rfl⟩ := List.mem_map.1 hc
  exact h x hx p hp
@[simp] theorem ns_strs (l : List ByteArray) : NS (strs l) := ns_rows fun x _ p hp => by simp at hp; subst hp; exact .lit _
mutual
theorem Ex.ns : ∀ (v : Ex), ∀ p ∈ v.cells, NS p
  | .mk k s n t ks xs bs a, p, hp => by
    have h1 := Ex.nsL ks
    have h2 := Al.nsL xs
    have h3 := Bd.nsL bs
    rw [Ex.cells] at hp
    simp only [List.mem_cons, List.not_mem_nil, or_false] at hp
    rcases hp with rfl | rfl | rfl | rfl | rfl | rfl | rfl | rfl | rfl | rfl | rfl
    · exact .lit _
    · exact .lit _
    · exact .lit _
    · exact .lit _
    · exact .lit _
    · exact .lit _
    · exact ns_tys _
    · exact .rows _ h1
    · exact .rows _ h2
    · exact .rows _ h3
    · exact .lit _
theorem Al.ns : ∀ (v : Al), ∀ p ∈ v.cells, NS p
  | .mk q e, p, hp => by
    have h1 := Ex.ns e
    rw [Al.cells] at hp
    simp only [List.mem_cons] at hp
    rcases hp with rfl | rfl | rfl | rfl | rfl | hp
    · exact .lit _
    · exact .lit _
    · exact .lit _
    · exact ns_pts _
    · exact .lit _
    · exact h1 p hp
theorem Bd.ns : ∀ (v : Bd), ∀ p ∈ v.cells, NS p
  | .mk s e a, p, hp => by
    have h1 := Ex.ns e
    rw [Bd.cells] at hp
    simp only [List.mem_cons, List.mem_append, List.not_mem_nil, or_false] at hp
    rcases hp with rfl | hp | rfl
    · exact .lit _
    · exact h1 p hp
    · exact .lit _
theorem Ex.nsL : ∀ (l : List Ex), ∀ c ∈ Ex.rows l, ∀ p ∈ c, NS p
  | [], c, hc, _, _ => by simp [Ex.rows] at hc
  | v :: l, c, hc, p, hp => by
    have h1 := Ex.ns v
    have h2 := Ex.nsL l
    rw [Ex.rows, List.mem_cons] at hc
    rcases hc with rfl | hc
    · exact h1 p hp
    · exact h2 c hc p hp
theorem Al.nsL : ∀ (l : List Al), ∀ c ∈ Al.rows l, ∀ p ∈ c, NS p
  | [], c, hc, _, _ => by simp [Al.rows] at hc
  | v :: l, c, hc, p, hp => by
    have h1 := Al.ns v
    have h2 := Al.nsL l
    rw [Al.rows, List.mem_cons] at hc
    rcases hc with rfl | hc
    · exact h1 p hp
    · exact h2 c hc p hp
theorem Bd.nsL : ∀ (l : List Bd), ∀ c ∈ Bd.rows l, ∀ p ∈ c, NS p
  | [], c, hc, _, _ => by simp [Bd.rows] at hc
  | v :: l, c, hc, p, hp => by
    have h1 := Bd.ns v
    have h2 := Bd.nsL l
    rw [Bd.rows, List.mem_cons] at hc
    rcases hc with rfl | hc
    · exact h1 p hp
    · exact h2 c hc p hp
end
@[simp] theorem ns_exs (l : List Ex) : NS (exs l) := by rw [exs, ← Ex.rows_eq]; exact .rows _ (Ex.nsL l)
@[simp] theorem ns_als (l : List Al) : NS (als l) := by rw [als, ← Al.rows_eq]; exact .rows _ (Al.nsL l)
@[simp] theorem ns_bds (l : List Bd) : NS (bds l) := by rw [bds, ← Bd.rows_eq]; exact .rows _ (Bd.nsL l)
@[simp] theorem ns_cns (l : List Cn) : NS (cns l) := ns_rows fun x _ p hp => by
  simp only [Cn.cells, List.mem_cons, List.not_mem_nil, or_false] at hp
  rcases hp with rfl | rfl | rfl <;> simp
@[simp] theorem ns_dts (l : List Dt) : NS (dts l) := ns_rows fun x _ p hp => by
  simp only [Dt.cells, List.mem_cons, List.not_mem_nil, or_false] at hp
  rcases hp with rfl | rfl | rfl | rfl | rfl <;> simp
@[simp] theorem ns_mds (l : List Md) : NS (mds l) := ns_rows fun x _ p hp => by
  simp only [Md.cells, List.mem_cons, List.not_mem_nil, or_false] at hp
  rcases hp with rfl | rfl | rfl | rfl | rfl | rfl <;> simp
@[simp] theorem ns_cls (l : List Cl) : NS (cls l) := ns_rows fun x _ p hp => by
  simp only [Cl.cells, List.mem_cons, List.not_mem_nil, or_false] at hp
  rcases hp with rfl | rfl | rfl | rfl | rfl | rfl <;> simp
@[simp] theorem ns_pds (l : List Pd) : NS (pds l) := ns_rows fun x _ p hp => by
  simp only [Pd.cells, List.mem_cons, List.not_mem_nil, or_false] at hp
  rcases hp with rfl | rfl | rfl | rfl | rfl <;> simp
@[simp] theorem ns_its (l : List It) : NS (its l) := ns_rows fun x _ p hp => by
  simp only [It.cells, List.mem_cons, List.not_mem_nil, or_false] at hp
  rcases hp with rfl | rfl | rfl | rfl | rfl | rfl | rfl | rfl <;> simp
/-! Lengths and elements. -/
theorem sl_strs : SlT Tryz.prog 73 1 16 := SlT.of (by kernel_rfl)
@[simp] theorem len_strs {r : AV} (l : List ByteArray) : LenOk Tryz.prog 73 (.pv (strs l)) r ↔ r = .pv (iv l.length) := by rw [strs, len_ok sl_strs, List.length_map]
theorem idx_strs {r : AV} {l : List ByteArray} {i : Nat} {x : ByteArray} (h : l[i]? = some x) : IdxOk Tryz.prog 73 (.pv (strs l)) (.pv (.lit (.int .i64 (i : Int)))) r ↔ r = .cptr [sv x] := by
  rw [strs]; exact idx_ok sl_strs (by rw [List.getElem?_map, h]; rfl) rfl
theorem sl_tys : SlT Tryz.prog 23 4 56 := SlT.of (by kernel_rfl)
@[simp] theorem len_tys {r : AV} (l : List Ty) : LenOk Tryz.prog 23 (.pv (tys l)) r ↔ r = .pv (iv l.length) := by rw [tys, len_ok sl_tys, List.length_map]
theorem idx_tys {r : AV} {l : List Ty} {i : Nat} {x : Ty} (h : l[i]? = some x) : IdxOk Tryz.prog 23 (.pv (tys l)) (.pv (.lit (.int .i64 (i : Int)))) r ↔ r = .cptr [iv x.kind, sv x.name, iv x.n, tys x.kids] := by
  rw [tys]; exact idx_ok sl_tys (by rw [List.getElem?_map, h, Option.map_some, Ty.cells_eq]) rfl
theorem sl_pts : SlT Tryz.prog 127 5 64 := SlT.of (by kernel_rfl)
@[simp] theorem len_pts {r : AV} (l : List Pt) : LenOk Tryz.prog 127 (.pv (pts l)) r ↔ r = .pv (iv l.length) := by rw [pts, len_ok sl_pts, List.length_map]
theorem idx_pts {r : AV} {l : List Pt} {i : Nat} {x : Pt} (h : l[i]? = some x) : IdxOk Tryz.prog 127 (.pv (pts l)) (.pv (.lit (.int .i64 (i : Int)))) r ↔ r = .cptr [iv x.kind, sv x.name, iv x.n, pts x.kids, iv x.at_] := by
  rw [pts]; exact idx_ok sl_pts (by rw [List.getElem?_map, h, Option.map_some, Pt.cells_eq]) rfl
theorem sl_exs : SlT Tryz.prog 51 11 168 := SlT.of (by kernel_rfl)
@[simp] theorem len_exs {r : AV} (l : List Ex) : LenOk Tryz.prog 51 (.pv (exs l)) r ↔ r = .pv (iv l.length) := by rw [exs, len_ok sl_exs, List.length_map]
theorem idx_exs {r : AV} {l : List Ex} {i : Nat} {x : Ex} (h : l[i]? = some x) : IdxOk Tryz.prog 51 (.pv (exs l)) (.pv (.lit (.int .i64 (i : Int)))) r ↔ r = .cptr [iv x.kind, sv x.name, iv x.n, iv x.t.kind, sv x.t.name, iv x.t.n, tys x.t.kids, exs x.kids, als x.alts, bds x.binds, iv x.at_] := by
  rw [exs]; exact idx_ok sl_exs (by rw [List.getElem?_map, h, Option.map_some, Ex.cells_eq]) rfl
theorem sl_als : SlT Tryz.prog 52 16 232 := SlT.of (by kernel_rfl)
@[simp] theorem len_als {r : AV} (l : List Al) : LenOk Tryz.prog 52 (.pv (als l)) r ↔ r = .pv (iv l.length) := by rw [als, len_ok sl_als, List.length_map]
theorem idx_als {r : AV} {l : List Al} {i : Nat} {x : Al} (h : l[i]? = some x) : IdxOk Tryz.prog 52 (.pv (als l)) (.pv (.lit (.int .i64 (i : Int)))) r ↔ r = .cptr [iv x.p.kind, sv x.p.name, iv x.p.n, pts x.p.kids, iv x.p.at_, iv x.e.kind, sv x.e.name, iv x.e.n, iv x.e.t.kind, sv x.e.t.name, iv x.e.t.n, tys x.e.t.kids, exs x.e.kids, als x.e.alts, bds x.e.binds, iv x.e.at_] := by
  rw [als]; exact idx_ok sl_als (by rw [List.getElem?_map, h, Option.map_some, Al.cells_eq]) rfl
theorem sl_bds : SlT Tryz.prog 38 13 192 := SlT.of (by kernel_rfl)
@[simp] theorem len_bds {r : AV} (l : List Bd) : LenOk Tryz.prog 38 (.pv (bds l)) r ↔ r = .pv (iv l.length) := by rw [bds, len_ok sl_bds, List.length_map]
theorem idx_bds {r : AV} {l : List Bd} {i : Nat} {x : Bd} (h : l[i]? = some x) : IdxOk Tryz.prog 38 (.pv (bds l)) (.pv (.lit (.int .i64 (i : Int)))) r ↔ r = .cptr [sv x.name, iv x.e.kind, sv x.e.name, iv x.e.n, iv x.e.t.kind, sv x.e.t.name, iv x.e.t.n, tys x.e.t.kids, exs x.e.kids, als x.e.alts, bds x.e.binds, iv x.e.at_, iv x.at_] := by
  rw [bds]; exact idx_ok sl_bds (by rw [List.getElem?_map, h, Option.map_some, Bd.cells_eq]) rfl
theorem sl_cns : SlT Tryz.prog 74 3 48 := SlT.of (by kernel_rfl)
@[simp] theorem len_cns {r : AV} (l : List Cn) : LenOk Tryz.prog 74 (.pv (cns l)) r ↔ r = .pv (iv l.length) := by rw [cns, len_ok sl_cns, List.length_map]
theorem idx_cns {r : AV} {l : List Cn} {i : Nat} {x : Cn} (h : l[i]? = some x) : IdxOk Tryz.prog 74 (.pv (cns l)) (.pv (.lit (.int .i64 (i : Int)))) r ↔ r = .cptr [sv x.name, tys x.args, iv x.at_] := by
  rw [cns]; exact idx_ok sl_cns (by rw [List.getElem?_map, h, Option.map_some, Cn.cells]) rfl
theorem sl_dts : SlT Tryz.prog 35 5 96 := SlT.of (by kernel_rfl)
@[simp] theorem len_dts {r : AV} (l : List Dt) : LenOk Tryz.prog 35 (.pv (dts l)) r ↔ r = .pv (iv l.length) := by rw [dts, len_ok sl_dts, List.length_map]
theorem idx_dts {r : AV} {l : List Dt} {i : Nat} {x : Dt} (h : l[i]? = some x) : IdxOk Tryz.prog 35 (.pv (dts l)) (.pv (.lit (.int .i64 (i : Int)))) r ↔ r = .cptr [sv x.name, strs x.params, cns x.cons, strs x.deriv, iv x.at_] := by
  rw [dts]; exact idx_ok sl_dts (by rw [List.getElem?_map, h, Option.map_some, Dt.cells]) rfl
theorem sl_mds : SlT Tryz.prog 78 6 80 := SlT.of (by kernel_rfl)
@[simp] theorem len_mds {r : AV} (l : List Md) : LenOk Tryz.prog 78 (.pv (mds l)) r ↔ r = .pv (iv l.length) := by rw [mds, len_ok sl_mds, List.length_map]
theorem idx_mds {r : AV} {l : List Md} {i : Nat} {x : Md} (h : l[i]? = some x) : IdxOk Tryz.prog 78 (.pv (mds l)) (.pv (.lit (.int .i64 (i : Int)))) r ↔ r = .cptr [sv x.name, iv x.t.kind, sv x.t.name, iv x.t.n, tys x.t.kids, iv x.at_] := by
  rw [mds]; exact idx_ok sl_mds (by rw [List.getElem?_map, h, Option.map_some, Md.cells]) rfl
theorem sl_cls : SlT Tryz.prog 36 6 112 := SlT.of (by kernel_rfl)
@[simp] theorem len_cls {r : AV} (l : List Cl) : LenOk Tryz.prog 36 (.pv (cls l)) r ↔ r = .pv (iv l.length) := by rw [cls, len_ok sl_cls, List.length_map]
theorem idx_cls {r : AV} {l : List Cl} {i : Nat} {x : Cl} (h : l[i]? = some x) : IdxOk Tryz.prog 36 (.pv (cls l)) (.pv (.lit (.int .i64 (i : Int)))) r ↔ r = .cptr [sv x.name, sv x.var, strs x.supers, mds x.methods, bds x.defaults, iv x.at_] := by
  rw [cls]; exact idx_ok sl_cls (by rw [List.getElem?_map, h, Option.map_some, Cl.cells]) rfl
theorem sl_pds : SlT Tryz.prog 82 5 72 := SlT.of (by kernel_rfl)
@[simp] theorem len_pds {r : AV} (l : List Pd) : LenOk Tryz.prog 82 (.pv (pds l)) r ↔ r = .pv (iv l.length) := by rw [pds, len_ok sl_pds, List.length_map]
theorem idx_pds {r : AV} {l : List Pd} {i : Nat} {x : Pd} (h : l[i]? = some x) : IdxOk Tryz.prog 82 (.pv (pds l)) (.pv (.lit (.int .i64 (i : Int)))) r ↔ r = .cptr [sv x.cls, iv x.t.kind, sv x.t.name, iv x.t.n, tys x.t.kids] := by
  rw [pds]; exact idx_ok sl_pds (by rw [List.getElem?_map, h, Option.map_some, Pd.cells]) rfl
theorem sl_its : SlT Tryz.prog 37 8 128 := SlT.of (by kernel_rfl)
@[simp] theorem len_its {r : AV} (l : List It) : LenOk Tryz.prog 37 (.pv (its l)) r ↔ r = .pv (iv l.length) := by rw [its, len_ok sl_its, List.length_map]
theorem idx_its {r : AV} {l : List It} {i : Nat} {x : It} (h : l[i]? = some x) : IdxOk Tryz.prog 37 (.pv (its l)) (.pv (.lit (.int .i64 (i : Int)))) r ↔ r = .cptr [sv x.cls, iv x.head.kind, sv x.head.name, iv x.head.n, tys x.head.kids, pds x.ctx, bds x.binds, iv x.at_] := by
  rw [its]; exact idx_ok sl_its (by rw [List.getElem?_map, h, Option.map_some, It.cells]) rfl
/-! As arguments. -/
abbrev tyA (x : Ty) : AV := .agg [.pv (iv x.kind), .pv (sv x.name), .pv (iv x.n), .pv (tys x.kids)]
abbrev exA (x : Ex) : AV := .agg [.pv (iv x.kind), .pv (sv x.name), .pv (iv x.n), .pv (iv x.t.kind), .pv (sv x.t.name), .pv (iv x.t.n), .pv (tys x.t.kids), .pv (exs x.kids), .pv (als x.alts), .pv (bds x.binds), .pv (iv x.at_)]
abbrev ptA (x : Pt) : AV := .agg [.pv (iv x.kind), .pv (sv x.name), .pv (iv x.n), .pv (pts x.kids), .pv (iv x.at_)]
abbrev alA (x : Al) : AV := .agg [.pv (iv x.p.kind), .pv (sv x.p.name), .pv (iv x.p.n), .pv (pts x.p.kids), .pv (iv x.p.at_), .pv (iv x.e.kind), .pv (sv x.e.name), .pv (iv x.e.n), .pv (iv x.e.t.kind), .pv (sv x.e.t.name), .pv (iv x.e.t.n), .pv (tys x.e.t.kids), .pv (exs x.e.kids), .pv (als x.e.alts), .pv (bds x.e.binds), .pv (iv x.e.at_)]
abbrev bdA (x : Bd) : AV := .agg [.pv (sv x.name), .pv (iv x.e.kind), .pv (sv x.e.name), .pv (iv x.e.n), .pv (iv x.e.t.kind), .pv (sv x.e.t.name), .pv (iv x.e.t.n), .pv (tys x.e.t.kids), .pv (exs x.e.kids), .pv (als x.e.alts), .pv (bds x.e.binds), .pv (iv x.e.at_), .pv (iv x.at_)]
abbrev cnA (x : Cn) : AV := .agg [.pv (sv x.name), .pv (tys x.args), .pv (iv x.at_)]
abbrev dtA (x : Dt) : AV := .agg [.pv (sv x.name), .pv (strs x.params), .pv (cns x.cons), .pv (strs x.deriv), .pv (iv x.at_)]
abbrev mdA (x : Md) : AV := .agg [.pv (sv x.name), .pv (iv x.t.kind), .pv (sv x.t.name), .pv (iv x.t.n), .pv (tys x.t.kids), .pv (iv x.at_)]
abbrev clA (x : Cl) : AV := .agg [.pv (sv x.name), .pv (sv x.var), .pv (strs x.supers), .pv (mds x.methods), .pv (bds x.defaults), .pv (iv x.at_)]
abbrev pdA (x : Pd) : AV := .agg [.pv (sv x.cls), .pv (iv x.t.kind), .pv (sv x.t.name), .pv (iv x.t.n), .pv (tys x.t.kids)]
abbrev itA (x : It) : AV := .agg [.pv (sv x.cls), .pv (iv x.head.kind), .pv (sv x.head.name), .pv (iv x.head.n), .pv (tys x.head.kids), .pv (pds x.ctx), .pv (bds x.binds), .pv (iv x.at_)]
structure Ev where
  datas : List Dt
  classes : List Cl
  insts : List It
abbrev evA (v : Ev) : AV := .agg [.pv (dts v.datas), .pv (cls v.classes), .pv (its v.insts)]
structure Pg extends Ev where
  binds : List Bd
abbrev pgA (v : Pg) : AV := .agg [.pv (dts v.datas), .pv (cls v.classes), .pv (its v.insts), .pv (bds v.binds)]
theorem no_obj : ∀ x ∈ ([] : List AObj), NSO x := fun x hx => by cases hx
def maxN : Nat := 9223372036854775807
theorem wrap_lt {k n : Nat} (h : k < n) (hn : n ≤ maxN) : IntKind.i64.wrap ((k : Int) + 1) = ((k + 1 : Nat) : Int) := by unfold maxN at hn; rw [wrap_id (by omega)]; omega
theorem lt_of_get {α : Type} {l : List α} {i : Nat} {a : α} (h : l[i]? = some a) : i < l.length := by
  by_cases hi : i < l.length
  · exact hi
  · rw [List.getElem?_eq_none (by omega)] at h; cases h
end Go.Proofs.YtijcobeebaceoaaGreatDoor
namespace Go.Proofs.YtijcobeebaceoaaGreatDoor
open Go.RowKit
set_option linter.unusedSimpArgs false

section
variable {β : Type} {d : β} {k : AV → β}
theorem nsa_c {l : List PV} (h : NSL l) : NSA (.cptr l) := .cptr _ h
theorem lenK_strs (l : List ByteArray) : lenK Tryz.prog d 73 (.pv (strs l)) k = k (.pv (iv l.length)) := lenK_of (fun _ => len_strs l) (nsa_lit _)
theorem idxK_strs {l : List ByteArray} {i : Nat} {x : ByteArray} (h : l[i]? = some x) : idxK Tryz.prog d 73 (.pv (strs l)) (.pv (.lit (.int .i64 (i : Int)))) k = k (.cptr [sv x]) := idxK_of (fun _ => idx_strs h) (nsa_c (by simp [NSL_cons, NSL_nil]))
theorem slcK_strs {l : List ByteArray} {i : Nat} (h : i ≤ l.length) : slcK Tryz.prog d 73 (.pv (strs l)) none (some (.pv (.lit (.int .i64 (i : Int))))) k = k (.pv (strs (l.take i))) :=
  slcK_of (slc_one (by have := slc_to sl_strs (es := l.map (fun s => [sv s])) (m := i) (by simpa using h); rwa [← List.map_take] at this)) (.pv _ (ns_strs _))
theorem lenK_tys (l : List Ty) : lenK Tryz.prog d 23 (.pv (tys l)) k = k (.pv (iv l.length)) := lenK_of (fun _ => len_tys l) (nsa_lit _)
theorem idxK_tys {l : List Ty} {i : Nat} {x : Ty} (h : l[i]? = some x) : idxK Tryz.prog d 23 (.pv (tys l)) (.pv (.lit (.int .i64 (i : Int)))) k = k (.cptr [iv x.kind, sv x.name, iv x.n, tys x.kids]) := idxK_of (fun _ => idx_tys h) (nsa_c (by simp [NSL_cons, NSL_nil]))
theorem slcK_tys {l : List Ty} {i : Nat} (h : i ≤ l.length) : slcK Tryz.prog d 23 (.pv (tys l)) none (some (.pv (.lit (.int .i64 (i : Int))))) k = k (.pv (tys (l.take i))) :=
  slcK_of (slc_one (by have := slc_to sl_tys (es := l.map (Ty.cells)) (m := i) (by simpa using h); rwa [← List.map_take] at this)) (.pv _ (ns_tys _))
theorem lenK_pts (l : List Pt) : lenK Tryz.prog d 127 (.pv (pts l)) k = k (.pv (iv l.length)) := lenK_of (fun _ => len_pts l) (nsa_lit _)
theorem idxK_pts {l : List Pt} {i : Nat} {x : Pt} (h : l[i]? = some x) : idxK Tryz.prog d 127 (.pv (pts l)) (.pv (.lit (.int .i64 (i : Int)))) k = k (.cptr [iv x.kind, sv x.name, iv x.n, pts x.kids, iv x.at_]) := idxK_of (fun _ => idx_pts h) (nsa_c (by simp [NSL_cons, NSL_nil]))
theorem slcK_pts {l : List Pt} {i : Nat} (h : i ≤ l.length) : slcK Tryz.prog d 127 (.pv (pts l)) none (some (.pv (.lit (.int .i64 (i : Int))))) k = k (.pv (pts (l.take i))) :=
  slcK_of (slc_one (by have := slc_to sl_pts (es := l.map (Pt.cells)) (m := i) (by simpa using h); rwa [← List.map_take] at this)) (.pv _ (ns_pts _))
theorem lenK_exs (l : List Ex) : lenK Tryz.prog d 51 (.pv (exs l)) k = k (.pv (iv l.length)) := lenK_of (fun _ => len_exs l) (nsa_lit _)
theorem idxK_exs {l : List Ex} {i : Nat} {x : Ex} (h : l[i]? = some x) : idxK Tryz.prog d 51 (.pv (exs l)) (.pv (.lit (.int .i64 (i : Int)))) k = k (.cptr [iv x.kind, sv x.name, iv x.n, iv x.t.kind, sv x.t.name, iv x.t.n, tys x.t.kids, exs x.kids, als x.alts, bds x.binds, iv x.at_]) := idxK_of (fun _ => idx_exs h) (nsa_c (by simp [NSL_cons, NSL_nil]))
theorem slcK_exs {l : List Ex} {i : Nat} (h : i ≤ l.length) : slcK Tryz.prog d 51 (.pv (exs l)) none (some (.pv (.lit (.int .i64 (i : Int))))) k = k (.pv (exs (l.take i))) :=
  slcK_of (slc_one (by have := slc_to sl_exs (es := l.map (Ex.cells)) (m := i) (by simpa using h); rwa [← List.map_take] at this)) (.pv _ (ns_exs _))
theorem lenK_als (l : List Al) : lenK Tryz.prog d 52 (.pv (als l)) k = k (.pv (iv l.length)) := lenK_of (fun _ => len_als l) (nsa_lit _)
theorem idxK_als {l : List Al} {i : Nat} {x : Al} (h : l[i]? = some x) : idxK Tryz.prog d 52 (.pv (als l)) (.pv (.lit (.int .i64 (i : Int)))) k = k (.cptr [iv x.p.kind, sv x.p.name, iv x.p.n, pts x.p.kids, iv x.p.at_, iv x.e.kind, sv x.e.name, iv x.e.n, iv x.e.t.kind, sv x.e.t.name, iv x.e.t.n, tys x.e.t.kids, exs x.e.kids, als x.e.alts, bds x.e.binds, iv x.e.at_]) := idxK_of (fun _ => idx_als h) (nsa_c (by simp [NSL_cons, NSL_nil]))
theorem slcK_als {l : List Al} {i : Nat} (h : i ≤ l.length) : slcK Tryz.prog d 52 (.pv (als l)) none (some (.pv (.lit (.int .i64 (i : Int))))) k = k (.pv (als (l.take i))) :=
  slcK_of (slc_one (by have := slc_to sl_als (es := l.map (Al.cells)) (m := i) (by simpa using h); rwa [← List.map_take] at this)) (.pv _ (ns_als _))
theorem lenK_bds (l : List Bd) : lenK Tryz.prog d 38 (.pv (bds l)) k = k (.pv (iv l.length)) := lenK_of (fun _ => len_bds l) (nsa_lit _)
theorem idxK_bds {l : List Bd} {i : Nat} {x : Bd} (h : l[i]? = some x) : idxK Tryz.prog d 38 (.pv (bds l)) (.pv (.lit (.int .i64 (i : Int)))) k = k (.cptr [sv x.name, iv x.e.kind, sv x.e.name, iv x.e.n, iv x.e.t.kind, sv x.e.t.name, iv x.e.t.n, tys x.e.t.kids, exs x.e.kids, als x.e.alts, bds x.e.binds, iv x.e.at_, iv x.at_]) := idxK_of (fun _ => idx_bds h) (nsa_c (by simp [NSL_cons, NSL_nil]))
theorem slcK_bds {l : List Bd} {i : Nat} (h : i ≤ l.length) : slcK Tryz.prog d 38 (.pv (bds l)) none (some (.pv (.lit (.int .i64 (i : Int))))) k = k (.pv (bds (l.take i))) :=
  slcK_of (slc_one (by have := slc_to sl_bds (es := l.map (Bd.cells)) (m := i) (by simpa using h); rwa [← List.map_take] at this)) (.pv _ (ns_bds _))
theorem lenK_cns (l : List Cn) : lenK Tryz.prog d 74 (.pv (cns l)) k = k (.pv (iv l.length)) := lenK_of (fun _ => len_cns l) (nsa_lit _)
theorem idxK_cns {l : List Cn} {i : Nat} {x : Cn} (h : l[i]? = some x) : idxK Tryz.prog d 74 (.pv (cns l)) (.pv (.lit (.int .i64 (i : Int)))) k = k (.cptr [sv x.name, tys x.args, iv x.at_]) := idxK_of (fun _ => idx_cns h) (nsa_c (by simp [NSL_cons, NSL_nil]))
theorem slcK_cns {l : List Cn} {i : Nat} (h : i ≤ l.length) : slcK Tryz.prog d 74 (.pv (cns l)) none (some (.pv (.lit (.int .i64 (i : Int))))) k = k (.pv (cns (l.take i))) :=
  slcK_of (slc_one (by have := slc_to sl_cns (es := l.map (Cn.cells)) (m := i) (by simpa using h); rwa [← List.map_take] at this)) (.pv _ (ns_cns _))
theorem lenK_dts (l : List Dt) : lenK Tryz.prog d 35 (.pv (dts l)) k = k (.pv (iv l.length)) := lenK_of (fun _ => len_dts l) (nsa_lit _)
theorem idxK_dts {l : List Dt} {i : Nat} {x : Dt} (h : l[i]? = some x) : idxK Tryz.prog d 35 (.pv (dts l)) (.pv (.lit (.int .i64 (i : Int)))) k = k (.cptr [sv x.name, strs x.params, cns x.cons, strs x.deriv, iv x.at_]) := idxK_of (fun _ => idx_dts h) (nsa_c (by simp [NSL_cons, NSL_nil]))
theorem slcK_dts {l : List Dt} {i : Nat} (h : i ≤ l.length) : slcK Tryz.prog d 35 (.pv (dts l)) none (some (.pv (.lit (.int .i64 (i : Int))))) k = k (.pv (dts (l.take i))) :=
  slcK_of (slc_one (by have := slc_to sl_dts (es := l.map (Dt.cells)) (m := i) (by simpa using h); rwa [← List.map_take] at this)) (.pv _ (ns_dts _))
theorem lenK_mds (l : List Md) : lenK Tryz.prog d 78 (.pv (mds l)) k = k (.pv (iv l.length)) := lenK_of (fun _ => len_mds l) (nsa_lit _)
theorem idxK_mds {l : List Md} {i : Nat} {x : Md} (h : l[i]? = some x) : idxK Tryz.prog d 78 (.pv (mds l)) (.pv (.lit (.int .i64 (i : Int)))) k = k (.cptr [sv x.name, iv x.t.kind, sv x.t.name, iv x.t.n, tys x.t.kids, iv x.at_]) := idxK_of (fun _ => idx_mds h) (nsa_c (by simp [NSL_cons, NSL_nil]))
theorem slcK_mds {l : List Md} {i : Nat} (h : i ≤ l.length) : slcK Tryz.prog d 78 (.pv (mds l)) none (some (.pv (.lit (.int .i64 (i : Int))))) k = k (.pv (mds (l.take i))) :=
  slcK_of (slc_one (by have := slc_to sl_mds (es := l.map (Md.cells)) (m := i) (by simpa using h); rwa [← List.map_take] at this)) (.pv _ (ns_mds _))
theorem lenK_cls (l : List Cl) : lenK Tryz.prog d 36 (.pv (cls l)) k = k (.pv (iv l.length)) := lenK_of (fun _ => len_cls l) (nsa_lit _)
theorem idxK_cls {l : List Cl} {i : Nat} {x : Cl} (h : l[i]? = some x) : idxK Tryz.prog d 36 (.pv (cls l)) (.pv (.lit (.int .i64 (i : Int)))) k = k (.cptr [sv x.name, sv x.var, strs x.supers, mds x.methods, bds x.defaults, iv x.at_]) := idxK_of (fun _ => idx_cls h) (nsa_c (by simp [NSL_cons, NSL_nil]))
theorem slcK_cls {l : List Cl} {i : Nat} (h : i ≤ l.length) : slcK Tryz.prog d 36 (.pv (cls l)) none (some (.pv (.lit (.int .i64 (i : Int))))) k = k (.pv (cls (l.take i))) :=
  slcK_of (slc_one (by have := slc_to sl_cls (es := l.map (Cl.cells)) (m := i) (by simpa using h); rwa [← List.map_take] at this)) (.pv _ (ns_cls _))
theorem lenK_pds (l : List Pd) : lenK Tryz.prog d 82 (.pv (pds l)) k = k (.pv (iv l.length)) := lenK_of (fun _ => len_pds l) (nsa_lit _)
theorem idxK_pds {l : List Pd} {i : Nat} {x : Pd} (h : l[i]? = some x) : idxK Tryz.prog d 82 (.pv (pds l)) (.pv (.lit (.int .i64 (i : Int)))) k = k (.cptr [sv x.cls, iv x.t.kind, sv x.t.name, iv x.t.n, tys x.t.kids]) := idxK_of (fun _ => idx_pds h) (nsa_c (by simp [NSL_cons, NSL_nil]))
theorem slcK_pds {l : List Pd} {i : Nat} (h : i ≤ l.length) : slcK Tryz.prog d 82 (.pv (pds l)) none (some (.pv (.lit (.int .i64 (i : Int))))) k = k (.pv (pds (l.take i))) :=
  slcK_of (slc_one (by have := slc_to sl_pds (es := l.map (Pd.cells)) (m := i) (by simpa using h); rwa [← List.map_take] at this)) (.pv _ (ns_pds _))
theorem lenK_its (l : List It) : lenK Tryz.prog d 37 (.pv (its l)) k = k (.pv (iv l.length)) := lenK_of (fun _ => len_its l) (nsa_lit _)
theorem idxK_its {l : List It} {i : Nat} {x : It} (h : l[i]? = some x) : idxK Tryz.prog d 37 (.pv (its l)) (.pv (.lit (.int .i64 (i : Int)))) k = k (.cptr [sv x.cls, iv x.head.kind, sv x.head.name, iv x.head.n, tys x.head.kids, pds x.ctx, bds x.binds, iv x.at_]) := idxK_of (fun _ => idx_its h) (nsa_c (by simp [NSL_cons, NSL_nil]))
theorem slcK_its {l : List It} {i : Nat} (h : i ≤ l.length) : slcK Tryz.prog d 37 (.pv (its l)) none (some (.pv (.lit (.int .i64 (i : Int))))) k = k (.pv (its (l.take i))) :=
  slcK_of (slc_one (by have := slc_to sl_its (es := l.map (It.cells)) (m := i) (by simpa using h); rwa [← List.map_take] at this)) (.pv _ (ns_its _))
end
attribute [simp] lenK_strs lenK_tys lenK_pts lenK_exs lenK_als lenK_bds lenK_cns lenK_dts lenK_mds lenK_cls lenK_pds lenK_its
end Go.Proofs.YtijcobeebaceoaaGreatDoor
namespace Go.Proofs.YtijcobeebaceoaaGreatDoor
open Go.RowKit
set_option linter.unusedSimpArgs false
set_option linter.unusedVariables false

structure Tk where
  kind : Int
  text : ByteArray
  n : Int
  at_ : Int
def Tk.cells (t : Tk) : List PV := [iv t.kind, sv t.text, iv t.n, iv t.at_]
def tks (l : List Tk) : PV := .rows (l.map Tk.cells)
@[simp] theorem ns_tks (l : List Tk) : NS (tks l) := ns_rows fun x _ p hp => by
  simp only [Tk.cells, List.mem_cons, List.not_mem_nil, or_false] at hp
  rcases hp with rfl | rfl | rfl | rfl <;> simp
theorem sl_tks : SlT Tryz.prog 66 4 40 := SlT.of (by kernel_rfl)
section
variable {β : Type} {d : β} {k : AV → β}
@[simp] theorem lenK_tks (l : List Tk) : lenK Tryz.prog d 66 (.pv (tks l)) k = k (.pv (iv l.length)) := lenK_of (fun _ => by rw [tks, len_ok sl_tks, List.length_map]) (nsa_lit _)
theorem idxK_tks {l : List Tk} {i : Nat} {x : Tk} (h : l[i]? = some x) : idxK Tryz.prog d 66 (.pv (tks l)) (.pv (.lit (.int .i64 (i : Int)))) k = k (.cptr [iv x.kind, sv x.text, iv x.n, iv x.at_]) :=
  idxK_of (fun _ => by rw [tks]; exact idx_ok sl_tks (by rw [List.getElem?_map, h]; rfl) rfl) (nsa_c (by simp [NSL_cons, NSL_nil]))
end
abbrev eB : ByteArray := ⟨#[]⟩
def zT : Tk := ⟨0, eB, 0, 0⟩
/-- A parser's state, less its tokens. -/
structure St where
  a : Nat
  lv : Int
  e : Int
  w : Int
def St.up : St → St
  | ⟨a, lv, e, w⟩ => ⟨a + 1, lv, e, w⟩
theorem up_aa (s : St) : s.up.a = s.a + 1 := by cases s; rfl
theorem up_lv (s : St) : s.up.lv = s.lv := by cases s; rfl
theorem up_e (s : St) : s.up.e = s.e := by cases s; rfl
theorem up_w (s : St) : s.up.w = s.w := by cases s; rfl
section
variable (L : List Tk)
def nextT (s : St) : Tk := if s.e = 0 then (L[s.a]?).getD zT else zT
def mu (s : St) : Nat := if s.e = 0 then L.length - s.a + 1 else 0
def failS (e w : Int) (s : St) : St := if s.e = 0 then ⟨s.a, s.lv, e, w⟩ else s
def isB (x : ByteArray) (s : St) : Bool := decide (6 ≤ (nextT L s).kind) && decide ((nextT L s).text = x)
def mayS (x : ByteArray) (s : St) : St := if isB L x s then s.up else s
def okB (k : Int) (x : ByteArray) (s : St) : Bool := decide (s.e = 0) && (if k < 6 then decide ((nextT L s).kind = k) else isB L x s)
def takeT (k : Int) (x : ByteArray) (s : St) : Tk := if okB L k x s then nextT L s else zT
def takeS (k : Int) (x : ByteArray) (s : St) : St := if okB L k x s then s.up else failS 110 (nextT L s).at_ s
def lvS (s : St) : St := ⟨s.a, IntKind.i64.wrap (s.lv + 1), s.e, s.w⟩
def deepS (s : St) : St := if 300 < (lvS s).lv then failS 111 (nextT L (lvS s)).at_ (lvS s) else lvS s
end
section
variable {L : List Tk}
theorem nextT_in {s : St} (h : (nextT L s).kind ≠ 0) : s.e = 0 ∧ s.a < L.length := by
  unfold nextT at h
  split at h
  · rename_i he
    refine ⟨he, ?_⟩
    by_cases hl : s.a < L.length
    · exact hl
    · rw [List.getElem?_eq_none (by omega)] at h
      exact absurd rfl h
  · exact absurd rfl h
theorem mu_pos {s : St} (he : s.e = 0) : 0 < mu L s := by unfold mu; rw [if_pos he]; omega
theorem mu_up {s : St} (he : s.e = 0) (hl : s.a < L.length) : mu L s.up ≤ mu L s - 1 := by
  unfold mu
  simp only [up_e, up_aa, he, if_true]
  omega
theorem up_a {s : St} {n : Nat} (hl : s.a < n) (hn : n ≤ 1000000) : IntKind.i64.wrap ((s.a : Int) + 1) = (s.up.a : Int) := by
  rw [wrap_id (by omega), up_aa]; rfl
theorem fail_mu {e w : Int} (he : e ≠ 0) (s : St) : mu L (failS e w s) = 0 := by
  unfold mu failS
  by_cases h : s.e = 0 <;> simp [h, he]
theorem fail_a (e w : Int) (s : St) : (failS e w s).a = s.a := by unfold failS; split <;> rfl
theorem is_in {x : ByteArray} {s : St} (h : isB L x s = true) : s.e = 0 ∧ s.a < L.length := by
  unfold isB at h
  simp only [Bool.and_eq_true, decide_eq_true_eq] at h
  exact nextT_in (by omega)
theorem ok_in {k : Int} {x : ByteArray} {s : St} (hk : 1 ≤ k) (h : okB L k x s = true) : s.e = 0 ∧ s.a < L.length := by
  unfold okB at h
  simp only [Bool.and_eq_true, decide_eq_true_eq] at h
  refine ⟨h.1, ?_⟩
  have h2 := h.2
  split at h2
  · simp only [decide_eq_true_eq] at h2
    exact (nextT_in (by omega)).2
  · exact (is_in h2).2
theorem take_mu {k : Int} {x : ByteArray} (hk : 1 ≤ k) (s : St) : mu L (takeS L k x s) ≤ mu L s - 1 := by
  unfold takeS
  split
  · rename_i h
    obtain ⟨h1, h2⟩ := ok_in hk h
    exact mu_up h1 h2
  · rw [fail_mu (by decide)]; omega
theorem take_a {k : Int} {x : ByteArray} (hk : 1 ≤ k) {s : St} (hs : s.a ≤ L.length) : (takeS L k x s).a ≤ L.length := by
  unfold takeS
  split
  · rename_i h
    obtain ⟨h1, h2⟩ := ok_in hk h
    rw [up_aa]; exact h2
  · rw [fail_a]; exact hs
theorem deep_mu (s : St) : mu L (deepS L s) ≤ mu L s := by
  unfold deepS
  split
  · rw [fail_mu (by decide)]; omega
  · exact Nat.le_refl _
theorem deep_a (s : St) : (deepS L s).a = s.a := by
  unfold deepS
  split
  · rw [fail_a]; rfl
  · rfl
theorem may_in {x : ByteArray} {s : St} (h : isB L x s = true) : mu L s.up ≤ mu L s - 1 ∧ s.up.a ≤ L.length := ⟨mu_up (is_in h).1 (is_in h).2, by rw [up_aa]; exact (is_in h).2⟩
end
/-! The small steps. -/
section
variable {L : List Tk} (hL : L.length ≤ 1000000)
abbrev sts (L : List Tk) (s : St) (l : List PV) : List PV := tks L :: iv s.a :: iv s.lv :: iv s.e :: iv s.w :: l
theorem next_ok (s : St) : ev (q28a (tks L) (iv s.a) (iv s.lv) (iv s.e) (iv s.w)) = some (0, sts L s (nextT L s).cells) :=
  Evl.of (by
    rw [h28a, g28a]
    unfold nextT Tk.cells
    by_cases he : s.e = 0
    · by_cases hl : s.a < L.length
      · have h1 := List.getElem?_eq_getElem hl
        have h2 : ¬ L.length ≤ s.a := by omega
        simp [he, idxK_tks h1, h2, h1, hl]
      · have h1 := List.getElem?_eq_none (l := L) (i := s.a) (by omega)
        have h2 : L.length ≤ s.a := by omega
        simp [he, h1, h2, zT]
    · simp [he, zT])
theorem fail_ok (e w : Int) (s : St) : ev (q49a (iv e) (iv w) (tks L) (iv s.a) (iv s.lv) (iv s.e) (iv s.w)) = some (0, sts L (failS e w s) []) :=
  Evl.of (by
    rw [h49a, g49a]
    unfold failS
    by_cases he : s.e = 0 <;> simp [he])
theorem is_ok (x : ByteArray) (s : St) : ev (q60a (sv x) (tks L) (iv s.a) (iv s.lv) (iv s.e) (iv s.w)) = some (0, sts L s [bv (isB L x s)]) :=
  Evl.of (by
    rw [h60a, g60a]
    unfold isB
    simp [next_ok, Tk.cells]
    by_cases h1 : 6 ≤ (nextT L s).kind
    · by_cases h2 : (nextT L s).text = x <;> simp [h1, h2]
    · simp [h1])
include hL in
theorem may_ok (x : ByteArray) (s : St) : ev (q29a (sv x) (tks L) (iv s.a) (iv s.lv) (iv s.e) (iv s.w)) = some (0, sts L (mayS L x s) [bv (isB L x s)]) :=
  Evl.of (by
    rw [h29a, g29a]
    unfold mayS
    cases h : isB L x s with
    | true =>
      have h1 := up_a (is_in h).2 hL
      simp [is_ok, h, h1, up_lv, up_e, up_w]
    | false => simp [is_ok, h])
include hL in
theorem take_ok {k : Int} (hk : 1 ≤ k) (x : ByteArray) (s : St) : ev (q24a (iv k) (sv x) (tks L) (iv s.a) (iv s.lv) (iv s.e) (iv s.w)) = some (0, sts L (takeS L k x s) (takeT L k x s).cells) :=
  Evl.of (by
    rw [h24a, g24a]
    unfold takeS takeT
    by_cases he : s.e = 0
    · have hf : failS 110 (nextT L s).at_ s = ⟨s.a, s.lv, 110, (nextT L s).at_⟩ := by unfold failS; rw [if_pos he]
      cases ho : okB L k x s with
      | true =>
        have h1 := up_a (ok_in hk ho).2 hL
        unfold okB isB at ho
        by_cases h6 : k < 6
        · simp [eq_true he, h6] at ho
          have h7 : ¬ 6 ≤ k := by omega
          simp [next_ok, Tk.cells, eq_true he, h6, ho, h7, h1, up_lv, up_e, up_w]
        · simp [eq_true he, h6] at ho
          have h7 : 6 ≤ k := by omega
          have h8 : ¬ (nextT L s).kind < 6 := by omega
          simp [next_ok, Tk.cells, eq_true he, h6, ho, h7, h8, h1, up_lv, up_e, up_w]
      | false =>
        have e0 := fail_ok (L := L) 110 (nextT L s).at_ s
        rw [hf] at e0
        rw [hf]
        unfold okB isB at ho
        by_cases h6 : k < 6
        · simp [eq_true he, h6] at ho
          have h7 : ¬ 6 ≤ k := by omega
          simp [next_ok, Tk.cells, eq_true he, h6, ho, h7, e0, zT]
        · simp [eq_true he, h6] at ho
          have h7 : 6 ≤ k := by omega
          by_cases h8 : (nextT L s).kind < 6
          · simp [next_ok, Tk.cells, eq_true he, h6, h7, h8, e0, zT]
          · simp [next_ok, Tk.cells, eq_true he, h6, ho (by omega), h7, h8, e0, zT]
    · have ho : okB L k x s = false := by unfold okB; simp [he]
      have hz : nextT L s = zT := by unfold nextT; rw [if_neg he]
      have hf : failS 110 (nextT L s).at_ s = s := by unfold failS; rw [if_neg he]
      simp [next_ok, Tk.cells, he, ho, hz]
      rw [← hz, hf]
      first | exact ⟨rfl, rfl, rfl⟩ | exact ⟨rfl, rfl, rfl, rfl⟩)
theorem deep_ok (s : St) : ev (q50a (tks L) (iv s.a) (iv s.lv) (iv s.e) (iv s.w)) = some (0, sts L (deepS L s) []) :=
  Evl.of (by
    rw [h50a, g50a]
    unfold deepS
    have e1 := next_ok (L := L) (lvS s)
    have e2 := fail_ok (L := L) 111 (nextT L (lvS s)).at_ (lvS s)
    by_cases h : 300 < (lvS s).lv
    · have h' := h
      unfold lvS at h' e1 e2
      simp only at h' e1 e2
      simp only [if_pos h]
      simp [h', e1, e2, Tk.cells]
      exact ⟨rfl, rfl, rfl, rfl⟩
    · have h' := h
      unfold lvS at h'
      simp only at h'
      simp only [if_neg h]
      simp [h', lvS])
theorem bK_ind {β : Type} {P : β → Prop} {b : Bool} {x y : β} (h1 : b = true → P x) (h2 : b = false → P y) : P (bK b x y) := by
  cases b
  · exact h2 rfl
  · exact h1 rfl
@[simp] theorem St.eta (s : St) : St.mk s.a s.lv s.e s.w = s := rfl
@[simp] theorem St.etaUp (s : St) : St.mk s.up.a s.lv s.e s.w = s.up := by cases s; rfl
theorem next_m (a : Nat) (lv e w : Int) : ev (q28a (tks L) (iv a) (iv lv) (iv e) (iv w)) = some (0, sts L ⟨a, lv, e, w⟩ (nextT L ⟨a, lv, e, w⟩).cells) := next_ok ⟨a, lv, e, w⟩
theorem is_m (x : ByteArray) (a : Nat) (lv e w : Int) : ev (q60a (sv x) (tks L) (iv a) (iv lv) (iv e) (iv w)) = some (0, sts L ⟨a, lv, e, w⟩ [bv (isB L x ⟨a, lv, e, w⟩)]) := is_ok x ⟨a, lv, e, w⟩
theorem fail_m (e' w' : Int) (a : Nat) (lv e w : Int) : ev (q49a (iv e') (iv w') (tks L) (iv a) (iv lv) (iv e) (iv w)) = some (0, sts L (failS e' w' ⟨a, lv, e, w⟩) []) := fail_ok e' w' ⟨a, lv, e, w⟩
theorem deep_m (a : Nat) (lv e w : Int) : ev (q50a (tks L) (iv a) (iv lv) (iv e) (iv w)) = some (0, sts L (deepS L ⟨a, lv, e, w⟩) []) := deep_ok ⟨a, lv, e, w⟩
include hL in
theorem may_m (x : ByteArray) (a : Nat) (lv e w : Int) : ev (q29a (sv x) (tks L) (iv a) (iv lv) (iv e) (iv w)) = some (0, sts L (mayS L x ⟨a, lv, e, w⟩) [bv (isB L x ⟨a, lv, e, w⟩)]) := may_ok hL x ⟨a, lv, e, w⟩
include hL in
theorem take_m {k : Int} (hk : 1 ≤ k) (x : ByteArray) (a : Nat) (lv e w : Int) : ev (q24a (iv k) (sv x) (tks L) (iv a) (iv lv) (iv e) (iv w)) = some (0, sts L (takeS L k x ⟨a, lv, e, w⟩) (takeT L k x ⟨a, lv, e, w⟩).cells) := take_ok hL hk x ⟨a, lv, e, w⟩
/-- It answers with a bool, and leaves the state as it is. -/
def BoolR (L : List Tk) (s : St) (r : Res) : Prop := ∃ b, r = .ok (0, sts L s [bv b])
theorem BoolR.of (s : St) (b : Bool) : BoolR L s (.ok (0, sts L s [bv b])) := ⟨b, rfl⟩
theorem starts_ok (k : Int) (s : St) : ∃ b, ev (q51a (iv k) (tks L) (iv s.a) (iv s.lv) (iv s.e) (iv s.w)) = some (0, sts L s [bv b]) ∧ (b = true → s.e = 0 ∧ s.a < L.length) := by
  by_cases hz : (nextT L s).kind = 0
  · refine ⟨false, Evl.of ?_, fun h => by cases h⟩
    rw [h51a, g51a]
    have hi : ∀ x, isB L x s = false := by intro x; unfold isB; simp [hz]
    simp [next_ok, Tk.cells, is_ok, hz, hi]
  · have hin := nextT_in hz
    have key : BoolR L s (body PG EE TT ev (q51a (iv k) (tks L) (iv s.a) (iv s.lv) (iv s.e) (iv s.w))) := by
      rw [h51a, g51a]
      simp [next_ok, Tk.cells, is_ok]
      repeat' first | exact .of s true | exact .of s false | refine bK_ind (fun _ => ?_) (fun _ => ?_)
    obtain ⟨b, hb⟩ := key
    exact ⟨b, Evl.of hb, fun _ => hin⟩
end
end Go.Proofs.YtijcobeebaceoaaGreatDoor
namespace Go.Proofs.YtijcobeebaceoaaGreatDoor
open Go.RowKit
set_option linter.unusedSimpArgs false
set_option linter.unusedVariables false

@[simp] theorem wdPs_nil : wdPs [] = [] := by rw [wdPs]
@[simp] theorem wdPs_cons (p : PV) (l : List PV) : wdPs (p :: l) = wdP p :: wdPs l := by rw [wdPs]
@[simp] theorem wdP_int (k : IntKind) (n : Int) : wdP (.lit (.int k n)) = .lit (.int k n) := by rw [wdP]; rfl
@[simp] theorem wdP_bool (b : Bool) : wdP (.lit (.bool b)) = .lit (.bool b) := by rw [wdP]; rfl
@[simp] theorem wdP_str (s : ByteArray) : wdP (.lit (.string s)) = .lit (.string s) := by rw [wdP]; rfl
@[simp] theorem wdP_nil : wdP (.lit (.slice none 0 0)) = .rows [] := by rw [wdP]; rfl
theorem wdP_rows (es : List (List PV)) : wdP (.rows es) = .rows (wdPss es) := by rw [wdP]
theorem wdPss_nil : wdPss [] = [] := by rw [wdPss]
theorem wdPss_cons (c : List PV) (l : List (List PV)) : wdPss (c :: l) = wdPs c :: wdPss l := by rw [wdPss]
mutual
theorem Ty.wd : ∀ t : Ty, wdPs t.cells = t.cells
  | .mk k s n ks => by
    have h := Ty.wdL ks
    rw [Ty.cells]
    simp [wdP_rows, h]
theorem Ty.wdL : ∀ l : List Ty, wdPss (Ty.rows l) = Ty.rows l
  | [] => by rw [Ty.rows, wdPss]
  | v :: l => by
    have h1 := Ty.wd v
    have h2 := Ty.wdL l
    rw [Ty.rows, wdPss, h1, h2]
end
mutual
theorem Pt.wd : ∀ t : Pt, wdPs t.cells = t.cells
  | .mk k s n ks a => by
    have h := Pt.wdL ks
    rw [Pt.cells]
    simp [wdP_rows, h]
theorem Pt.wdL : ∀ l : List Pt, wdPss (Pt.rows l) = Pt.rows l
  | [] => by rw [Pt.rows, wdPss]
  | v :: l => by
    have h1 := Pt.wd v
    have h2 := Pt.wdL l
    rw [Pt.rows, wdPss, h1, h2]
end
@[simp] theorem wd_tys (l : List Ty) : wdP (tys l) = tys l := by rw [tys, ← Ty.rows_eq, wdP_rows, Ty.wdL]
@[simp] theorem wd_pts (l : List Pt) : wdP (pts l) = pts l := by rw [pts, ← Pt.rows_eq, wdP_rows, Pt.wdL]
theorem wdPs_app (a b : List PV) : wdPs (a ++ b) = wdPs a ++ wdPs b := by rw [wdPs_eq, wdPs_eq, wdPs_eq, List.map_append]
theorem wdPss_app (a b : List (List PV)) : wdPss (a ++ b) = wdPss a ++ wdPss b := by rw [wdPss_eq, wdPss_eq, wdPss_eq, List.map_append]
mutual
theorem Ex.wd : ∀ t : Ex, wdPs t.cells = t.cells
  | .mk k s n t ks xs bs a => by
    have h1 := Ex.wdL ks
    have h2 := Al.wdL xs
    have h3 := Bd.wdL bs
    rw [Ex.cells]
    simp [wdP_rows, h1, h2, h3]
theorem Al.wd : ∀ t : Al, wdPs t.cells = t.cells
  | .mk p e => by
    have h := Ex.wd e
    rw [Al.cells]
    simp [h]
theorem Bd.wd : ∀ t : Bd, wdPs t.cells = t.cells
  | .mk s e a => by
    have h := Ex.wd e
    rw [Bd.cells]
    simp [wdPs_app, h]
theorem Ex.wdL : ∀ l : List Ex, wdPss (Ex.rows l) = Ex.rows l
  | [] => by rw [Ex.rows, wdPss]
  | v :: l => by
    have h1 := Ex.wd v
    have h2 := Ex.wdL l
    rw [Ex.rows, wdPss, h1, h2]
theorem Al.wdL : ∀ l : List Al, wdPss (Al.rows l) = Al.rows l
  | [] => by rw [Al.rows, wdPss]
  | v :: l => by
    have h1 := Al.wd v
    have h2 := Al.wdL l
    rw [Al.rows, wdPss, h1, h2]
theorem Bd.wdL : ∀ l : List Bd, wdPss (Bd.rows l) = Bd.rows l
  | [] => by rw [Bd.rows, wdPss]
  | v :: l => by
    have h1 := Bd.wd v
    have h2 := Bd.wdL l
    rw [Bd.rows, wdPss, h1, h2]
end
@[simp] theorem wd_exs (l : List Ex) : wdP (exs l) = exs l := by rw [exs, ← Ex.rows_eq, wdP_rows, Ex.wdL]
@[simp] theorem wd_als (l : List Al) : wdP (als l) = als l := by rw [als, ← Al.rows_eq, wdP_rows, Al.wdL]
@[simp] theorem wd_bds (l : List Bd) : wdP (bds l) = bds l := by rw [bds, ← Bd.rows_eq, wdP_rows, Bd.wdL]
theorem wd_map {α : Type} {f : α → List PV} (l : List α) (h : ∀ x, wdPs (f x) = f x) : wdP (.rows (l.map f)) = .rows (l.map f) := by
  rw [wdP_rows, wdPss_eq, List.map_map]
  congr 2
  funext x
  exact h x
@[simp] theorem wd_strs (l : List ByteArray) : wdP (strs l) = strs l := wd_map l fun x => by simp
@[simp] theorem wd_tks (l : List Tk) : wdP (tks l) = tks l := wd_map l fun x => by simp [Tk.cells]
@[simp] theorem wd_cns (l : List Cn) : wdP (cns l) = cns l := wd_map l fun x => by simp [Cn.cells]
@[simp] theorem wd_mds (l : List Md) : wdP (mds l) = mds l := wd_map l fun x => by simp [Md.cells]
@[simp] theorem wd_pds (l : List Pd) : wdP (pds l) = pds l := wd_map l fun x => by simp [Pd.cells]
@[simp] theorem wd_dts (l : List Dt) : wdP (dts l) = dts l := wd_map l fun x => by simp [Dt.cells]
@[simp] theorem wd_cls (l : List Cl) : wdP (cls l) = cls l := wd_map l fun x => by simp [Cl.cells]
@[simp] theorem wd_its (l : List It) : wdP (its l) = its l := wd_map l fun x => by simp [It.cells]
/-- Rows as they come, and what they are all the way down. -/
structure Raw (sz : Nat) (es cs : List (List PV)) : Prop where
  w : wdPss es = cs
  n : ∀ c ∈ es, c.length = sz
  ns : ∀ c ∈ es, ∀ p ∈ c, NS p
theorem Raw.nil (sz : Nat) : Raw sz [] [] := ⟨wdPss_nil, (fun c hc => by cases hc), (fun c hc => by cases hc)⟩
theorem Raw.app {sz : Nat} {es cs : List (List PV)} (h : Raw sz es cs) {c c' : List PV} (h1 : wdPs c = c') (h2 : c.length = sz) (h3 : NSL c) : Raw sz (es ++ [c]) (cs ++ [c']) :=
  ⟨by rw [wdPss_app, h.w, wdPss_cons, wdPss_nil, h1], fun d hd => by
    rcases List.mem_append.1 hd with hd | hd
    · exact h.n d hd
    · rw [List.mem_singleton.1 hd]; exact h2, fun d hd p hp => by
    rcases List.mem_append.1 hd with hd | hd
    · exact h.ns d hd p hp
    · rw [List.mem_singleton.1 hd] at hp; exact h3 p hp⟩
theorem Raw.one {sz : Nat} {c c' : List PV} (h1 : wdPs c = c') (h2 : c.length = sz) (h3 : NSL c) : Raw sz [c] [c'] := (Raw.nil sz).app h1 h2 h3
theorem Raw.len {sz : Nat} {es cs : List (List PV)} (h : Raw sz es cs) : es.length = cs.length := by rw [← h.w, wdPss_eq, List.length_map]
theorem Raw.wd {sz : Nat} {es cs : List (List PV)} (h : Raw sz es cs) : wdP (.rows es) = .rows cs := by rw [wdP_rows, h.w]
theorem Raw.of {α : Type} {f : α → List PV} {sz : Nat} (l : List α) (h1 : ∀ x, wdPs (f x) = f x) (h2 : ∀ x, (f x).length = sz) (h3 : ∀ x, NSL (f x)) : Raw sz (l.map f) (l.map f) :=
  ⟨by rw [wdPss_eq, List.map_map]; congr 1; funext x; exact h1 x, fun c hc => by obtain ⟨x, _, rfl⟩ := List.mem_map.1 hc; exact h2 x, fun c hc p hp => by obtain ⟨x, _, rfl⟩ := List.mem_map.1 hc; exact h3 x p hp⟩
section
variable {P : Program} {d : Res} {k : PV → Res}
theorem appK_raw {t : TypeId} {sz b : Nat} (ht : SlT P t sz b) {es cs : List (List PV)} (h : Raw sz es cs) {c : List PV} (hc : c.length = sz) (hn : NSL c) (hl : es.length ≤ 100000000) (hb : b ≤ 1000) :
    appK P d t (.pv (.rows es)) (.pv (.rows [c])) k = k (.rows (es ++ [c])) :=
  appK_of (fun w => app_ok ht (rowsN_rows' es) rfl (by simp) (fun c' h' => by rw [List.mem_singleton.1 h']; exact hc) (by simp; omega)
    (Nat.le_trans (Nat.mul_le_mul (by simp; omega : es.length + [c].length ≤ 100000001) hb) (by decide)))
    (.rows _ fun c' h' p hp => by
      rcases List.mem_append.1 h' with h' | h'
      · exact h.ns c' h' p hp
      · rw [List.mem_singleton.1 h'] at hp; exact hn p hp)
end
end Go.Proofs.YtijcobeebaceoaaGreatDoor
