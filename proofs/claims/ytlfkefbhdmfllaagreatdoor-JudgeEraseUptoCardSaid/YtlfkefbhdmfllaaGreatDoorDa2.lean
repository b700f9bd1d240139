/- Equations for rows of the program's data. Printed by kdata.py. -/
import Derived.Test.YtlfkefbhdmfllaaGreatDoorDa1
import Derived.Test.YtlfkefbhdmfllaaGreatDoorBc
namespace Go.Proofs.YtlfkefbhdmfllaaGreatDoor
open Go.RowKit
set_option linter.unusedSimpArgs false

section
variable {β : Type} {d : β} {k : AV → β}
theorem nsa_c {l : List PV} (h : NSL l) : NSA (.cptr l) := .cptr _ h
theorem lenK_strs (l : List ByteArray) : lenK Tryz.prog d 65 (.pv (strs l)) k = k (.pv (iv l.length)) := lenK_of (fun _ => len_strs l) (nsa_lit _)
theorem idxK_strs {l : List ByteArray} {i : Nat} {x : ByteArray} (h : l[i]? = some x) : idxK Tryz.prog d 65 (.pv (strs l)) (.pv (.lit (.int .i64 (i : Int)))) k = k (.cptr [sv x]) := idxK_of (fun _ => idx_strs h) (nsa_c (by simp [NSL_cons, NSL_nil]))
theorem slcK_strs {l : List ByteArray} {i : Nat} (h : i ≤ l.length) : slcK Tryz.prog d 65 (.pv (strs l)) none (some (.pv (.lit (.int .i64 (i : Int))))) k = k (.pv (strs (l.take i))) :=
  slcK_of (slc_one (by have := slc_to sl_strs (es := l.map (fun s => [sv s])) (m := i) (by simpa using h); rwa [← List.map_take] at this)) (.pv _ (ns_strs _))
theorem lenK_tys (l : List Ty) : lenK Tryz.prog d 22 (.pv (tys l)) k = k (.pv (iv l.length)) := lenK_of (fun _ => len_tys l) (nsa_lit _)
theorem idxK_tys {l : List Ty} {i : Nat} {x : Ty} (h : l[i]? = some x) : idxK Tryz.prog d 22 (.pv (tys l)) (.pv (.lit (.int .i64 (i : Int)))) k = k (.cptr [iv x.kind, sv x.name, iv x.n, tys x.kids]) := idxK_of (fun _ => idx_tys h) (nsa_c (by simp [NSL_cons, NSL_nil]))
theorem slcK_tys {l : List Ty} {i : Nat} (h : i ≤ l.length) : slcK Tryz.prog d 22 (.pv (tys l)) none (some (.pv (.lit (.int .i64 (i : Int))))) k = k (.pv (tys (l.take i))) :=
  slcK_of (slc_one (by have := slc_to sl_tys (es := l.map (Ty.cells)) (m := i) (by simpa using h); rwa [← List.map_take] at this)) (.pv _ (ns_tys _))
theorem lenK_pts (l : List Pt) : lenK Tryz.prog d 54 (.pv (pts l)) k = k (.pv (iv l.length)) := lenK_of (fun _ => len_pts l) (nsa_lit _)
theorem idxK_pts {l : List Pt} {i : Nat} {x : Pt} (h : l[i]? = some x) : idxK Tryz.prog d 54 (.pv (pts l)) (.pv (.lit (.int .i64 (i : Int)))) k = k (.cptr [iv x.kind, sv x.name, iv x.n, pts x.kids, iv x.at_]) := idxK_of (fun _ => idx_pts h) (nsa_c (by simp [NSL_cons, NSL_nil]))
theorem slcK_pts {l : List Pt} {i : Nat} (h : i ≤ l.length) : slcK Tryz.prog d 54 (.pv (pts l)) none (some (.pv (.lit (.int .i64 (i : Int))))) k = k (.pv (pts (l.take i))) :=
  slcK_of (slc_one (by have := slc_to sl_pts (es := l.map (Pt.cells)) (m := i) (by simpa using h); rwa [← List.map_take] at this)) (.pv _ (ns_pts _))
theorem lenK_exs (l : List Ex) : lenK Tryz.prog d 32 (.pv (exs l)) k = k (.pv (iv l.length)) := lenK_of (fun _ => len_exs l) (nsa_lit _)
theorem idxK_exs {l : List Ex} {i : Nat} {x : Ex} (h : l[i]? = some x) : idxK Tryz.prog d 32 (.pv (exs l)) (.pv (.lit (.int .i64 (i : Int)))) k = k (.cptr [iv x.kind, sv x.name, iv x.n, iv x.t.kind, sv x.t.name, iv x.t.n, tys x.t.kids, exs x.kids, als x.alts, bds x.binds, iv x.at_]) := idxK_of (fun _ => idx_exs h) (nsa_c (by simp [NSL_cons, NSL_nil]))
theorem slcK_exs {l : List Ex} {i : Nat} (h : i ≤ l.length) : slcK Tryz.prog d 32 (.pv (exs l)) none (some (.pv (.lit (.int .i64 (i : Int))))) k = k (.pv (exs (l.take i))) :=
  slcK_of (slc_one (by have := slc_to sl_exs (es := l.map (Ex.cells)) (m := i) (by simpa using h); rwa [← List.map_take] at this)) (.pv _ (ns_exs _))
theorem lenK_als (l : List Al) : lenK Tryz.prog d 33 (.pv (als l)) k = k (.pv (iv l.length)) := lenK_of (fun _ => len_als l) (nsa_lit _)
theorem idxK_als {l : List Al} {i : Nat} {x : Al} (h : l[i]? = some x) : idxK Tryz.prog d 33 (.pv (als l)) (.pv (.lit (.int .i64 (i : Int)))) k = k (.cptr [iv x.p.kind, sv x.p.name, iv x.p.n, pts x.p.kids, iv x.p.at_, iv x.e.kind, sv x.e.name, iv x.e.n, iv x.e.t.kind, sv x.e.t.name, iv x.e.t.n, tys x.e.t.kids, exs x.e.kids, als x.e.alts, bds x.e.binds, iv x.e.at_]) := idxK_of (fun _ => idx_als h) (nsa_c (by simp [NSL_cons, NSL_nil]))
theorem slcK_als {l : List Al} {i : Nat} (h : i ≤ l.length) : slcK Tryz.prog d 33 (.pv (als l)) none (some (.pv (.lit (.int .i64 (i : Int))))) k = k (.pv (als (l.take i))) :=
  slcK_of (slc_one (by have := slc_to sl_als (es := l.map (Al.cells)) (m := i) (by simpa using h); rwa [← List.map_take] at this)) (.pv _ (ns_als _))
theorem lenK_bds (l : List Bd) : lenK Tryz.prog d 34 (.pv (bds l)) k = k (.pv (iv l.length)) := lenK_of (fun _ => len_bds l) (nsa_lit _)
theorem idxK_bds {l : List Bd} {i : Nat} {x : Bd} (h : l[i]? = some x) : idxK Tryz.prog d 34 (.pv (bds l)) (.pv (.lit (.int .i64 (i : Int)))) k = k (.cptr [sv x.name, iv x.e.kind, sv x.e.name, iv x.e.n, iv x.e.t.kind, sv x.e.t.name, iv x.e.t.n, tys x.e.t.kids, exs x.e.kids, als x.e.alts, bds x.e.binds, iv x.e.at_, iv x.at_]) := idxK_of (fun _ => idx_bds h) (nsa_c (by simp [NSL_cons, NSL_nil]))
theorem slcK_bds {l : List Bd} {i : Nat} (h : i ≤ l.length) : slcK Tryz.prog d 34 (.pv (bds l)) none (some (.pv (.lit (.int .i64 (i : Int))))) k = k (.pv (bds (l.take i))) :=
  slcK_of (slc_one (by have := slc_to sl_bds (es := l.map (Bd.cells)) (m := i) (by simpa using h); rwa [← List.map_take] at this)) (.pv _ (ns_bds _))
theorem lenK_cns (l : List Cn) : lenK Tryz.prog d 96 (.pv (cns l)) k = k (.pv (iv l.length)) := lenK_of (fun _ => len_cns l) (nsa_lit _)
theorem idxK_cns {l : List Cn} {i : Nat} {x : Cn} (h : l[i]? = some x) : idxK Tryz.prog d 96 (.pv (cns l)) (.pv (.lit (.int .i64 (i : Int)))) k = k (.cptr [sv x.name, tys x.args, iv x.at_]) := idxK_of (fun _ => idx_cns h) (nsa_c (by simp [NSL_cons, NSL_nil]))
theorem slcK_cns {l : List Cn} {i : Nat} (h : i ≤ l.length) : slcK Tryz.prog d 96 (.pv (cns l)) none (some (.pv (.lit (.int .i64 (i : Int))))) k = k (.pv (cns (l.take i))) :=
  slcK_of (slc_one (by have := slc_to sl_cns (es := l.map (Cn.cells)) (m := i) (by simpa using h); rwa [← List.map_take] at this)) (.pv _ (ns_cns _))
theorem lenK_dts (l : List Dt) : lenK Tryz.prog d 42 (.pv (dts l)) k = k (.pv (iv l.length)) := lenK_of (fun _ => len_dts l) (nsa_lit _)
theorem idxK_dts {l : List Dt} {i : Nat} {x : Dt} (h : l[i]? = some x) : idxK Tryz.prog d 42 (.pv (dts l)) (.pv (.lit (.int .i64 (i : Int)))) k = k (.cptr [sv x.name, strs x.params, cns x.cons, strs x.deriv, iv x.at_]) := idxK_of (fun _ => idx_dts h) (nsa_c (by simp [NSL_cons, NSL_nil]))
theorem slcK_dts {l : List Dt} {i : Nat} (h : i ≤ l.length) : slcK Tryz.prog d 42 (.pv (dts l)) none (some (.pv (.lit (.int .i64 (i : Int))))) k = k (.pv (dts (l.take i))) :=
  slcK_of (slc_one (by have := slc_to sl_dts (es := l.map (Dt.cells)) (m := i) (by simpa using h); rwa [← List.map_take] at this)) (.pv _ (ns_dts _))
theorem lenK_mds (l : List Md) : lenK Tryz.prog d 131 (.pv (mds l)) k = k (.pv (iv l.length)) := lenK_of (fun _ => len_mds l) (nsa_lit _)
theorem idxK_mds {l : List Md} {i : Nat} {x : Md} (h : l[i]? = some x) : idxK Tryz.prog d 131 (.pv (mds l)) (.pv (.lit (.int .i64 (i : Int)))) k = k (.cptr [sv x.name, iv x.t.kind, sv x.t.name, iv x.t.n, tys x.t.kids, iv x.at_]) := idxK_of (fun _ => idx_mds h) (nsa_c (by simp [NSL_cons, NSL_nil]))
theorem slcK_mds {l : List Md} {i : Nat} (h : i ≤ l.length) : slcK Tryz.prog d 131 (.pv (mds l)) none (some (.pv (.lit (.int .i64 (i : Int))))) k = k (.pv (mds (l.take i))) :=
  slcK_of (slc_one (by have := slc_to sl_mds (es := l.map (Md.cells)) (m := i) (by simpa using h); rwa [← List.map_take] at this)) (.pv _ (ns_mds _))
theorem lenK_cls (l : List Cl) : lenK Tryz.prog d 43 (.pv (cls l)) k = k (.pv (iv l.length)) := lenK_of (fun _ => len_cls l) (nsa_lit _)
theorem idxK_cls {l : List Cl} {i : Nat} {x : Cl} (h : l[i]? = some x) : idxK Tryz.prog d 43 (.pv (cls l)) (.pv (.lit (.int .i64 (i : Int)))) k = k (.cptr [sv x.name, sv x.var, strs x.supers, mds x.methods, bds x.defaults, iv x.at_]) := idxK_of (fun _ => idx_cls h) (nsa_c (by simp [NSL_cons, NSL_nil]))
theorem slcK_cls {l : List Cl} {i : Nat} (h : i ≤ l.length) : slcK Tryz.prog d 43 (.pv (cls l)) none (some (.pv (.lit (.int .i64 (i : Int))))) k = k (.pv (cls (l.take i))) :=
  slcK_of (slc_one (by have := slc_to sl_cls (es := l.map (Cl.cells)) (m := i) (by simpa using h); rwa [← List.map_take] at this)) (.pv _ (ns_cls _))
theorem lenK_pds (l : List Pd) : lenK Tryz.prog d 66 (.pv (pds l)) k = k (.pv (iv l.length)) := lenK_of (fun _ => len_pds l) (nsa_lit _)
theorem idxK_pds {l : List Pd} {i : Nat} {x : Pd} (h : l[i]? = some x) : idxK Tryz.prog d 66 (.pv (pds l)) (.pv (.lit (.int .i64 (i : Int)))) k = k (.cptr [sv x.cls, iv x.t.kind, sv x.t.name, iv x.t.n, tys x.t.kids]) := idxK_of (fun _ => idx_pds h) (nsa_c (by simp [NSL_cons, NSL_nil]))
theorem slcK_pds {l : List Pd} {i : Nat} (h : i ≤ l.length) : slcK Tryz.prog d 66 (.pv (pds l)) none (some (.pv (.lit (.int .i64 (i : Int))))) k = k (.pv (pds (l.take i))) :=
  slcK_of (slc_one (by have := slc_to sl_pds (es := l.map (Pd.cells)) (m := i) (by simpa using h); rwa [← List.map_take] at this)) (.pv _ (ns_pds _))
theorem lenK_its (l : List It) : lenK Tryz.prog d 44 (.pv (its l)) k = k (.pv (iv l.length)) := lenK_of (fun _ => len_its l) (nsa_lit _)
theorem idxK_its {l : List It} {i : Nat} {x : It} (h : l[i]? = some x) : idxK Tryz.prog d 44 (.pv (its l)) (.pv (.lit (.int .i64 (i : Int)))) k = k (.cptr [sv x.cls, iv x.head.kind, sv x.head.name, iv x.head.n, tys x.head.kids, pds x.ctx, bds x.binds, iv x.at_]) := idxK_of (fun _ => idx_its h) (nsa_c (by simp [NSL_cons, NSL_nil]))
theorem slcK_its {l : List It} {i : Nat} (h : i ≤ l.length) : slcK Tryz.prog d 44 (.pv (its l)) none (some (.pv (.lit (.int .i64 (i : Int))))) k = k (.pv (its (l.take i))) :=
  slcK_of (slc_one (by have := slc_to sl_its (es := l.map (It.cells)) (m := i) (by simpa using h); rwa [← List.map_take] at this)) (.pv _ (ns_its _))
end
attribute [simp] lenK_strs lenK_tys lenK_pts lenK_exs lenK_als lenK_bds lenK_cns lenK_dts lenK_mds lenK_cls lenK_pds lenK_its
end Go.Proofs.YtlfkefbhdmfllaaGreatDoor
