/- Joined. -/
import Derived.Laws.StructEq
import Derived.Test.YtjpjcjnacnlhdaaGreatPz0
set_option linter.unusedSimpArgs false
set_option linter.unusedVariables false
set_option linter.unusedSectionVars false
namespace Go.Proofs.YtjpjcjnacnlhdaaGreat
open Go.RowKit
inductive Ty where
 |mk (kind:Int) (name:ByteArray) (n:Int) (kids:List Ty)
inductive Pt where
 |mk (kind:Int) (name:ByteArray) (n:Int) (kids:List Pt) (at_:Int)
mutual
inductive Ex where
 |mk (kind:Int) (name:ByteArray) (n:Int) (t:Ty) (kids:List Ex) (alts:List Al) (binds:List Bd) (at_:Int)
inductive Al where
 |mk (p:Pt) (e:Ex)
inductive Bd where
 |mk (name:ByteArray) (e:Ex) (at_:Int)
end
def Ty.kind:Ty→Int | .mk k _ _ _=>k
def Ty.name:Ty→ByteArray | .mk _ s _ _=>s
def Ty.n:Ty→Int | .mk _ _ n _=>n
def Ty.kids:Ty→List Ty | .mk _ _ _ ks=>ks
def Pt.kind:Pt→Int | .mk k _ _ _ _=>k
def Pt.name:Pt→ByteArray | .mk _ s _ _ _=>s
def Pt.n:Pt→Int | .mk _ _ n _ _=>n
def Pt.kids:Pt→List Pt | .mk _ _ _ ks _=>ks
def Pt.at_:Pt→Int | .mk _ _ _ _ a=>a
def Ex.kind:Ex→Int | .mk k _ _ _ _ _ _ _=>k
def Ex.name:Ex→ByteArray | .mk _ s _ _ _ _ _ _=>s
def Ex.n:Ex→Int | .mk _ _ n _ _ _ _ _=>n
def Ex.t:Ex→Ty | .mk _ _ _ t _ _ _ _=>t
def Ex.kids:Ex→List Ex | .mk _ _ _ _ ks _ _ _=>ks
def Ex.alts:Ex→List Al | .mk _ _ _ _ _ l _ _=>l
def Ex.binds:Ex→List Bd | .mk _ _ _ _ _ _ l _=>l
def Ex.at_:Ex→Int | .mk _ _ _ _ _ _ _ a=>a
def Al.p:Al→Pt | .mk p _=>p
def Al.e:Al→Ex | .mk _ e=>e
def Bd.name:Bd→ByteArray | .mk s _ _=>s
def Bd.e:Bd→Ex | .mk _ e _=>e
def Bd.at_:Bd→Int | .mk _ _ a=>a
structure Cn where
 name:ByteArray
 args:List Ty
 at_:Int
structure Dt where
 name:ByteArray
 params:List ByteArray
 cons:List Cn
 deriv:List ByteArray
 at_:Int
structure Md where
 name:ByteArray
 t:Ty
 at_:Int
structure Cl where
 name:ByteArray
 var:ByteArray
 supers:List ByteArray
 methods:List Md
 defaults:List Bd
 at_:Int
structure Pd where
 cls:ByteArray
 t:Ty
structure It where
 cls:ByteArray
 head:Ty
 ctx:List Pd
 binds:List Bd
 at_:Int
mutual
def Ty.cells:Ty→List PV
 |.mk k s n ks=>[iv k,sv s,iv n,.rows (Ty.rows ks)]
def Ty.rows:List Ty→List (List PV)
 |[]=>[]
 |v::l=>v.cells::Ty.rows l
end
mutual
def Pt.cells:Pt→List PV
 |.mk k s n ks a=>[iv k,sv s,iv n,.rows (Pt.rows ks),iv a]
def Pt.rows:List Pt→List (List PV)
 |[]=>[]
 |v::l=>v.cells::Pt.rows l
end
theorem Ty.rows_eq:∀l,Ty.rows l=l.map Ty.cells
 |[]=>by rw[Ty.rows];rfl
 |v::l=>by rw[Ty.rows,Ty.rows_eq l];rfl
theorem Pt.rows_eq:∀l,Pt.rows l=l.map Pt.cells
 |[]=>by rw[Pt.rows];rfl
 |v::l=>by rw[Pt.rows,Pt.rows_eq l];rfl
def tys(l:List Ty):PV:=.rows (l.map Ty.cells)
def pts(l:List Pt):PV:=.rows (l.map Pt.cells)
def strs(l:List ByteArray):PV:=.rows (l.map fun s=>[sv s])
theorem Ty.cells_eq(t:Ty):t.cells=[iv t.kind,sv t.name,iv t.n,tys t.kids]:=by cases t;rw[Ty.cells,Ty.rows_eq];rfl
theorem Pt.cells_eq(p:Pt):p.cells=[iv p.kind,sv p.name,iv p.n,pts p.kids,iv p.at_]:=by cases p;rw[Pt.cells,Pt.rows_eq];rfl
mutual
def Ex.cells:Ex→List PV
 |.mk k s n t ks xs bs a=>[iv k,sv s,iv n,iv t.kind,sv t.name,iv t.n,tys t.kids,.rows (Ex.rows ks),.rows (Al.rows xs),.rows (Bd.rows bs),iv a]
def Al.cells:Al→List PV
 |.mk p e=>iv p.kind::sv p.name::iv p.n::pts p.kids::iv p.at_::e.cells
def Bd.cells:Bd→List PV
 |.mk s e a=>sv s::(e.cells++[iv a])
def Ex.rows:List Ex→List (List PV)
 |[]=>[]
 |v::l=>v.cells::Ex.rows l
def Al.rows:List Al→List (List PV)
 |[]=>[]
 |v::l=>v.cells::Al.rows l
def Bd.rows:List Bd→List (List PV)
 |[]=>[]
 |v::l=>v.cells::Bd.rows l
end
theorem Ex.rows_eq:∀l,Ex.rows l=l.map Ex.cells
 |[]=>by rw[Ex.rows];rfl
 |v::l=>by rw[Ex.rows,Ex.rows_eq l];rfl
theorem Al.rows_eq:∀l,Al.rows l=l.map Al.cells
 |[]=>by rw[Al.rows];rfl
 |v::l=>by rw[Al.rows,Al.rows_eq l];rfl
theorem Bd.rows_eq:∀l,Bd.rows l=l.map Bd.cells
 |[]=>by rw[Bd.rows];rfl
 |v::l=>by rw[Bd.rows,Bd.rows_eq l];rfl
def exs(l:List Ex):PV:=.rows (l.map Ex.cells)
def als(l:List Al):PV:=.rows (l.map Al.cells)
def bds(l:List Bd):PV:=.rows (l.map Bd.cells)
theorem Ex.cells_eq(e:Ex):e.cells=[iv e.kind,sv e.name,iv e.n,iv e.t.kind,sv e.t.name,iv e.t.n,tys e.t.kids,exs e.kids,als e.alts,bds e.binds,iv e.at_]:=by cases e;rw[Ex.cells,Ex.rows_eq,Al.rows_eq,Bd.rows_eq];rfl
theorem Al.cells_eq(x:Al):x.cells=[iv x.p.kind,sv x.p.name,iv x.p.n,pts x.p.kids,iv x.p.at_,iv x.e.kind,sv x.e.name,iv x.e.n,iv x.e.t.kind,sv x.e.t.name,iv x.e.t.n,tys x.e.t.kids,exs x.e.kids,als x.e.alts,bds x.e.binds,iv x.e.at_]:=by cases x;rw[Al.cells,Ex.cells_eq];rfl
theorem Bd.cells_eq(x:Bd):x.cells=[sv x.name,iv x.e.kind,sv x.e.name,iv x.e.n,iv x.e.t.kind,sv x.e.t.name,iv x.e.t.n,tys x.e.t.kids,exs x.e.kids,als x.e.alts,bds x.e.binds,iv x.e.at_,iv x.at_]:=by cases x;rw[Bd.cells,Ex.cells_eq];rfl
def Cn.cells(x:Cn):List PV:=[sv x.name,tys x.args,iv x.at_]
def cns(l:List Cn):PV:=.rows (l.map Cn.cells)
def Dt.cells(x:Dt):List PV:=[sv x.name,strs x.params,cns x.cons,strs x.deriv,iv x.at_]
def dts(l:List Dt):PV:=.rows (l.map Dt.cells)
def Md.cells(x:Md):List PV:=[sv x.name,iv x.t.kind,sv x.t.name,iv x.t.n,tys x.t.kids,iv x.at_]
def mds(l:List Md):PV:=.rows (l.map Md.cells)
def Cl.cells(x:Cl):List PV:=[sv x.name,sv x.var,strs x.supers,mds x.methods,bds x.defaults,iv x.at_]
def cls(l:List Cl):PV:=.rows (l.map Cl.cells)
def Pd.cells(x:Pd):List PV:=[sv x.cls,iv x.t.kind,sv x.t.name,iv x.t.n,tys x.t.kids]
def pds(l:List Pd):PV:=.rows (l.map Pd.cells)
def It.cells(x:It):List PV:=[sv x.cls,iv x.head.kind,sv x.head.name,iv x.head.n,tys x.head.kids,pds x.ctx,bds x.binds,iv x.at_]
def its(l:List It):PV:=.rows (l.map It.cells)
mutual
theorem Ty.ns:∀(v:Ty),∀p∈v.cells,NS p
 |.mk k s n ks,p,hp=>by
  have:=Ty.nsL ks
  rw[Ty.cells]at hp
  simp only[List.mem_cons,List.not_mem_nil,or_false]at hp
  rcases hp with rfl|rfl|rfl|rfl
  ·exact .lit _
  ·exact .lit _
  ·exact .lit _
  ·exact .rows _ this
theorem Ty.nsL:∀(l:List Ty),∀c∈Ty.rows l,∀p∈c,NS p
 |[],c,hc,_,_=>by simp[Ty.rows]at hc
 |v::l,c,hc,p,hp=>by
  have h1:=Ty.ns v
  have h2:=Ty.nsL l
  rw[Ty.rows,List.mem_cons]at hc
  rcases hc with rfl|hc
  ·exact h1 p hp
  ·exact h2 c hc p hp
end
mutual
theorem Pt.ns:∀(v:Pt),∀p∈v.cells,NS p
 |.mk k s n ks a,p,hp=>by
  have:=Pt.nsL ks
  rw[Pt.cells]at hp
  simp only[List.mem_cons,List.not_mem_nil,or_false]at hp
  rcases hp with rfl|rfl|rfl|rfl|rfl
  ·exact .lit _
  ·exact .lit _
  ·exact .lit _
  ·exact .rows _ this
  ·exact .lit _
theorem Pt.nsL:∀(l:List Pt),∀c∈Pt.rows l,∀p∈c,NS p
 |[],c,hc,_,_=>by simp[Pt.rows]at hc
 |v::l,c,hc,p,hp=>by
  have h1:=Pt.ns v
  have h2:=Pt.nsL l
  rw[Pt.rows,List.mem_cons]at hc
  rcases hc with rfl|hc
  ·exact h1 p hp
  ·exact h2 c hc p hp
end
@[simp] theorem ns_tys(l:List Ty):NS (tys l):=by rw[tys,←Ty.rows_eq];exact .rows _ (Ty.nsL l)
@[simp] theorem ns_pts(l:List Pt):NS (pts l):=by rw[pts,←Pt.rows_eq];exact .rows _ (Pt.nsL l)
theorem ns_rows{α:Type}{f:α→List PV}{l:List α}(h:∀x∈l,∀p∈f x,NS p):NS (.rows (l.map f)):=.rows _ fun c hc p hp=>by
 obtain⟨x,hx,rfl⟩:=List.mem_map.1 hc
 exact h x hx p hp
@[simp] theorem ns_strs(l:List ByteArray):NS (strs l):=ns_rows fun x _ p hp=>by simp at hp;subst hp;exact .lit _
mutual
theorem Ex.ns:∀(v:Ex),∀p∈v.cells,NS p
 |.mk k s n t ks xs bs a,p,hp=>by
  have h1:=Ex.nsL ks
  have h2:=Al.nsL xs
  have h3:=Bd.nsL bs
  rw[Ex.cells]at hp
  simp only[List.mem_cons,List.not_mem_nil,or_false]at hp
  rcases hp with rfl|rfl|rfl|rfl|rfl|rfl|rfl|rfl|rfl|rfl|rfl
  ·exact .lit _
  ·exact .lit _
  ·exact .lit _
  ·exact .lit _
  ·exact .lit _
  ·exact .lit _
  ·exact ns_tys _
  ·exact .rows _ h1
  ·exact .rows _ h2
  ·exact .rows _ h3
  ·exact .lit _
theorem Al.ns:∀(v:Al),∀p∈v.cells,NS p
 |.mk q e,p,hp=>by
  have h1:=Ex.ns e
  rw[Al.cells]at hp
  simp only[List.mem_cons]at hp
  rcases hp with rfl|rfl|rfl|rfl|rfl|hp
  ·exact .lit _
  ·exact .lit _
  ·exact .lit _
  ·exact ns_pts _
  ·exact .lit _
  ·exact h1 p hp
theorem Bd.ns:∀(v:Bd),∀p∈v.cells,NS p
 |.mk s e a,p,hp=>by
  have h1:=Ex.ns e
  rw[Bd.cells]at hp
  simp only[List.mem_cons,List.mem_append,List.not_mem_nil,or_false]at hp
  rcases hp with rfl|hp|rfl
  ·exact .lit _
  ·exact h1 p hp
  ·exact .lit _
theorem Ex.nsL:∀(l:List Ex),∀c∈Ex.rows l,∀p∈c,NS p
 |[],c,hc,_,_=>by simp[Ex.rows]at hc
 |v::l,c,hc,p,hp=>by
  have h1:=Ex.ns v
  have h2:=Ex.nsL l
  rw[Ex.rows,List.mem_cons]at hc
  rcases hc with rfl|hc
  ·exact h1 p hp
  ·exact h2 c hc p hp
theorem Al.nsL:∀(l:List Al),∀c∈Al.rows l,∀p∈c,NS p
 |[],c,hc,_,_=>by simp[Al.rows]at hc
 |v::l,c,hc,p,hp=>by
  have h1:=Al.ns v
  have h2:=Al.nsL l
  rw[Al.rows,List.mem_cons]at hc
  rcases hc with rfl|hc
  ·exact h1 p hp
  ·exact h2 c hc p hp
theorem Bd.nsL:∀(l:List Bd),∀c∈Bd.rows l,∀p∈c,NS p
 |[],c,hc,_,_=>by simp[Bd.rows]at hc
 |v::l,c,hc,p,hp=>by
  have h1:=Bd.ns v
  have h2:=Bd.nsL l
  rw[Bd.rows,List.mem_cons]at hc
  rcases hc with rfl|hc
  ·exact h1 p hp
  ·exact h2 c hc p hp
end
@[simp] theorem ns_exs(l:List Ex):NS (exs l):=by rw[exs,←Ex.rows_eq];exact .rows _ (Ex.nsL l)
@[simp] theorem ns_als(l:List Al):NS (als l):=by rw[als,←Al.rows_eq];exact .rows _ (Al.nsL l)
@[simp] theorem ns_bds(l:List Bd):NS (bds l):=by rw[bds,←Bd.rows_eq];exact .rows _ (Bd.nsL l)
@[simp] theorem ns_cns(l:List Cn):NS (cns l):=ns_rows fun x _ p hp=>by
 simp only[Cn.cells,List.mem_cons,List.not_mem_nil,or_false]at hp
 rcases hp with rfl|rfl|rfl<;>simp
@[simp] theorem ns_dts(l:List Dt):NS (dts l):=ns_rows fun x _ p hp=>by
 simp only[Dt.cells,List.mem_cons,List.not_mem_nil,or_false]at hp
 rcases hp with rfl|rfl|rfl|rfl|rfl<;>simp
@[simp] theorem ns_mds(l:List Md):NS (mds l):=ns_rows fun x _ p hp=>by
 simp only[Md.cells,List.mem_cons,List.not_mem_nil,or_false]at hp
 rcases hp with rfl|rfl|rfl|rfl|rfl|rfl<;>simp
@[simp] theorem ns_cls(l:List Cl):NS (cls l):=ns_rows fun x _ p hp=>by
 simp only[Cl.cells,List.mem_cons,List.not_mem_nil,or_false]at hp
 rcases hp with rfl|rfl|rfl|rfl|rfl|rfl<;>simp
@[simp] theorem ns_pds(l:List Pd):NS (pds l):=ns_rows fun x _ p hp=>by
 simp only[Pd.cells,List.mem_cons,List.not_mem_nil,or_false]at hp
 rcases hp with rfl|rfl|rfl|rfl|rfl<;>simp
@[simp] theorem ns_its(l:List It):NS (its l):=ns_rows fun x _ p hp=>by
 simp only[It.cells,List.mem_cons,List.not_mem_nil,or_false]at hp
 rcases hp with rfl|rfl|rfl|rfl|rfl|rfl|rfl|rfl<;>simp
theorem sl_strs:SlT Tryz.prog 52 1 16:=SlT.of (by kernel_rfl)
@[simp] theorem len_strs{r:AV}(l:List ByteArray):LenOk Tryz.prog 52 (.pv (strs l)) r↔r=.pv (iv l.length):=by rw[strs,len_ok sl_strs,List.length_map]
theorem idx_strs{r:AV}{l:List ByteArray}{i:Nat}{x:ByteArray}(h:l[i]?=some x):IdxOk Tryz.prog 52 (.pv (strs l)) (.pv (.lit (.int .i64 (i:Int)))) r↔r=.cptr [sv x]:=by
 rw[strs];exact idx_ok sl_strs (by rw[List.getElem?_map,h];rfl) rfl
theorem sl_tys:SlT Tryz.prog 45 4 56:=SlT.of (by kernel_rfl)
@[simp] theorem len_tys{r:AV}(l:List Ty):LenOk Tryz.prog 45 (.pv (tys l)) r↔r=.pv (iv l.length):=by rw[tys,len_ok sl_tys,List.length_map]
theorem idx_tys{r:AV}{l:List Ty}{i:Nat}{x:Ty}(h:l[i]?=some x):IdxOk Tryz.prog 45 (.pv (tys l)) (.pv (.lit (.int .i64 (i:Int)))) r↔r=.cptr [iv x.kind,sv x.name,iv x.n,tys x.kids]:=by
 rw[tys];exact idx_ok sl_tys (by rw[List.getElem?_map,h,Option.map_some,Ty.cells_eq]) rfl
theorem sl_pts:SlT Tryz.prog 176 5 64:=SlT.of (by kernel_rfl)
@[simp] theorem len_pts{r:AV}(l:List Pt):LenOk Tryz.prog 176 (.pv (pts l)) r↔r=.pv (iv l.length):=by rw[pts,len_ok sl_pts,List.length_map]
theorem idx_pts{r:AV}{l:List Pt}{i:Nat}{x:Pt}(h:l[i]?=some x):IdxOk Tryz.prog 176 (.pv (pts l)) (.pv (.lit (.int .i64 (i:Int)))) r↔r=.cptr [iv x.kind,sv x.name,iv x.n,pts x.kids,iv x.at_]:=by
 rw[pts];exact idx_ok sl_pts (by rw[List.getElem?_map,h,Option.map_some,Pt.cells_eq]) rfl
theorem sl_exs:SlT Tryz.prog 84 11 168:=SlT.of (by kernel_rfl)
@[simp] theorem len_exs{r:AV}(l:List Ex):LenOk Tryz.prog 84 (.pv (exs l)) r↔r=.pv (iv l.length):=by rw[exs,len_ok sl_exs,List.length_map]
theorem idx_exs{r:AV}{l:List Ex}{i:Nat}{x:Ex}(h:l[i]?=some x):IdxOk Tryz.prog 84 (.pv (exs l)) (.pv (.lit (.int .i64 (i:Int)))) r↔r=.cptr [iv x.kind,sv x.name,iv x.n,iv x.t.kind,sv x.t.name,iv x.t.n,tys x.t.kids,exs x.kids,als x.alts,bds x.binds,iv x.at_]:=by
 rw[exs];exact idx_ok sl_exs (by rw[List.getElem?_map,h,Option.map_some,Ex.cells_eq]) rfl
theorem sl_als:SlT Tryz.prog 85 16 232:=SlT.of (by kernel_rfl)
@[simp] theorem len_als{r:AV}(l:List Al):LenOk Tryz.prog 85 (.pv (als l)) r↔r=.pv (iv l.length):=by rw[als,len_ok sl_als,List.length_map]
theorem idx_als{r:AV}{l:List Al}{i:Nat}{x:Al}(h:l[i]?=some x):IdxOk Tryz.prog 85 (.pv (als l)) (.pv (.lit (.int .i64 (i:Int)))) r↔r=.cptr [iv x.p.kind,sv x.p.name,iv x.p.n,pts x.p.kids,iv x.p.at_,iv x.e.kind,sv x.e.name,iv x.e.n,iv x.e.t.kind,sv x.e.t.name,iv x.e.t.n,tys x.e.t.kids,exs x.e.kids,als x.e.alts,bds x.e.binds,iv x.e.at_]:=by
 rw[als];exact idx_ok sl_als (by rw[List.getElem?_map,h,Option.map_some,Al.cells_eq]) rfl
theorem sl_bds:SlT Tryz.prog 26 13 192:=SlT.of (by kernel_rfl)
@[simp] theorem len_bds{r:AV}(l:List Bd):LenOk Tryz.prog 26 (.pv (bds l)) r↔r=.pv (iv l.length):=by rw[bds,len_ok sl_bds,List.length_map]
theorem idx_bds{r:AV}{l:List Bd}{i:Nat}{x:Bd}(h:l[i]?=some x):IdxOk Tryz.prog 26 (.pv (bds l)) (.pv (.lit (.int .i64 (i:Int)))) r↔r=.cptr [sv x.name,iv x.e.kind,sv x.e.name,iv x.e.n,iv x.e.t.kind,sv x.e.t.name,iv x.e.t.n,tys x.e.t.kids,exs x.e.kids,als x.e.alts,bds x.e.binds,iv x.e.at_,iv x.at_]:=by
 rw[bds];exact idx_ok sl_bds (by rw[List.getElem?_map,h,Option.map_some,Bd.cells_eq]) rfl
theorem sl_cns:SlT Tryz.prog 71 3 48:=SlT.of (by kernel_rfl)
@[simp] theorem len_cns{r:AV}(l:List Cn):LenOk Tryz.prog 71 (.pv (cns l)) r↔r=.pv (iv l.length):=by rw[cns,len_ok sl_cns,List.length_map]
theorem idx_cns{r:AV}{l:List Cn}{i:Nat}{x:Cn}(h:l[i]?=some x):IdxOk Tryz.prog 71 (.pv (cns l)) (.pv (.lit (.int .i64 (i:Int)))) r↔r=.cptr [sv x.name,tys x.args,iv x.at_]:=by
 rw[cns];exact idx_ok sl_cns (by rw[List.getElem?_map,h,Option.map_some,Cn.cells]) rfl
theorem sl_dts:SlT Tryz.prog 23 5 96:=SlT.of (by kernel_rfl)
@[simp] theorem len_dts{r:AV}(l:List Dt):LenOk Tryz.prog 23 (.pv (dts l)) r↔r=.pv (iv l.length):=by rw[dts,len_ok sl_dts,List.length_map]
theorem idx_dts{r:AV}{l:List Dt}{i:Nat}{x:Dt}(h:l[i]?=some x):IdxOk Tryz.prog 23 (.pv (dts l)) (.pv (.lit (.int .i64 (i:Int)))) r↔r=.cptr [sv x.name,strs x.params,cns x.cons,strs x.deriv,iv x.at_]:=by
 rw[dts];exact idx_ok sl_dts (by rw[List.getElem?_map,h,Option.map_some,Dt.cells]) rfl
theorem sl_mds:SlT Tryz.prog 75 6 80:=SlT.of (by kernel_rfl)
@[simp] theorem len_mds{r:AV}(l:List Md):LenOk Tryz.prog 75 (.pv (mds l)) r↔r=.pv (iv l.length):=by rw[mds,len_ok sl_mds,List.length_map]
theorem idx_mds{r:AV}{l:List Md}{i:Nat}{x:Md}(h:l[i]?=some x):IdxOk Tryz.prog 75 (.pv (mds l)) (.pv (.lit (.int .i64 (i:Int)))) r↔r=.cptr [sv x.name,iv x.t.kind,sv x.t.name,iv x.t.n,tys x.t.kids,iv x.at_]:=by
 rw[mds];exact idx_ok sl_mds (by rw[List.getElem?_map,h,Option.map_some,Md.cells]) rfl
theorem sl_cls:SlT Tryz.prog 24 6 112:=SlT.of (by kernel_rfl)
@[simp] theorem len_cls{r:AV}(l:List Cl):LenOk Tryz.prog 24 (.pv (cls l)) r↔r=.pv (iv l.length):=by rw[cls,len_ok sl_cls,List.length_map]
theorem idx_cls{r:AV}{l:List Cl}{i:Nat}{x:Cl}(h:l[i]?=some x):IdxOk Tryz.prog 24 (.pv (cls l)) (.pv (.lit (.int .i64 (i:Int)))) r↔r=.cptr [sv x.name,sv x.var,strs x.supers,mds x.methods,bds x.defaults,iv x.at_]:=by
 rw[cls];exact idx_ok sl_cls (by rw[List.getElem?_map,h,Option.map_some,Cl.cells]) rfl
theorem sl_pds:SlT Tryz.prog 79 5 72:=SlT.of (by kernel_rfl)
@[simp] theorem len_pds{r:AV}(l:List Pd):LenOk Tryz.prog 79 (.pv (pds l)) r↔r=.pv (iv l.length):=by rw[pds,len_ok sl_pds,List.length_map]
theorem idx_pds{r:AV}{l:List Pd}{i:Nat}{x:Pd}(h:l[i]?=some x):IdxOk Tryz.prog 79 (.pv (pds l)) (.pv (.lit (.int .i64 (i:Int)))) r↔r=.cptr [sv x.cls,iv x.t.kind,sv x.t.name,iv x.t.n,tys x.t.kids]:=by
 rw[pds];exact idx_ok sl_pds (by rw[List.getElem?_map,h,Option.map_some,Pd.cells]) rfl
theorem sl_its:SlT Tryz.prog 25 8 128:=SlT.of (by kernel_rfl)
@[simp] theorem len_its{r:AV}(l:List It):LenOk Tryz.prog 25 (.pv (its l)) r↔r=.pv (iv l.length):=by rw[its,len_ok sl_its,List.length_map]
theorem idx_its{r:AV}{l:List It}{i:Nat}{x:It}(h:l[i]?=some x):IdxOk Tryz.prog 25 (.pv (its l)) (.pv (.lit (.int .i64 (i:Int)))) r↔r=.cptr [sv x.cls,iv x.head.kind,sv x.head.name,iv x.head.n,tys x.head.kids,pds x.ctx,bds x.binds,iv x.at_]:=by
 rw[its];exact idx_ok sl_its (by rw[List.getElem?_map,h,Option.map_some,It.cells]) rfl
structure Ev where
 kj:List Dt
 kc:List Cl
 ki:List It
structure Pg extends Ev where
 binds:List Bd
abbrev pgA(v:Pg):AV:=.agg [.pv (dts v.kj),.pv (cls v.kc),.pv (its v.ki),.pv (bds v.binds)]
def maxN:Nat:=9223372036854775807
theorem wL{k n:Nat}(h:k<n)(hn:n≤maxN):IntKind.i64.wrap ((k:Int)+1)=((k+1:Nat):Int):=by unfold maxN at hn;rw[wrap_id (by omega)];omega
theorem lt_of_get{α:Type}{l:List α}{i:Nat}{a:α}(h:l[i]?=some a):i<l.length:=by
 by_cases hi:i<l.length
 ·exact hi
 ·rw[List.getElem?_eq_none (by omega)]at h;cases h
section
variable{β:Type}{d:β}{k:AV→β}
theorem nsa_c{l:List PV}(h:NSL l):NSA (.cptr l):=.cptr _ h
theorem lenK_strs(l:List ByteArray):lenK Tryz.prog d 52 (.pv (strs l)) k=k (.pv (iv l.length)):=lenK_of (fun _=>len_strs l) (nsa_lit _)
theorem idxK_strs{l:List ByteArray}{i:Nat}{x:ByteArray}(h:l[i]?=some x):idxK Tryz.prog d 52 (.pv (strs l)) (.pv (.lit (.int .i64 (i:Int)))) k=k (.cptr [sv x]):=idxK_of (fun _=>idx_strs h) (nsa_c (by simp[NSL_cons,NSL_nil]))
theorem slcK_strs{l:List ByteArray}{i:Nat}(h:i≤l.length):slcK Tryz.prog d 52 (.pv (strs l)) none (some (.pv (.lit (.int .i64 (i:Int))))) k=k (.pv (strs (l.take i))):=
 slcK_of (slc_one (by have:=slc_to sl_strs (es:=l.map (fun s=>[sv s])) (m:=i) (by simpa using h);rwa [←List.map_take]at this)) (.pv _ (ns_strs _))
theorem lenK_tys(l:List Ty):lenK Tryz.prog d 45 (.pv (tys l)) k=k (.pv (iv l.length)):=lenK_of (fun _=>len_tys l) (nsa_lit _)
theorem idxK_tys{l:List Ty}{i:Nat}{x:Ty}(h:l[i]?=some x):idxK Tryz.prog d 45 (.pv (tys l)) (.pv (.lit (.int .i64 (i:Int)))) k=k (.cptr [iv x.kind,sv x.name,iv x.n,tys x.kids]):=idxK_of (fun _=>idx_tys h) (nsa_c (by simp[NSL_cons,NSL_nil]))
theorem slcK_tys{l:List Ty}{i:Nat}(h:i≤l.length):slcK Tryz.prog d 45 (.pv (tys l)) none (some (.pv (.lit (.int .i64 (i:Int))))) k=k (.pv (tys (l.take i))):=
 slcK_of (slc_one (by have:=slc_to sl_tys (es:=l.map (Ty.cells)) (m:=i) (by simpa using h);rwa [←List.map_take]at this)) (.pv _ (ns_tys _))
theorem lenK_pts(l:List Pt):lenK Tryz.prog d 176 (.pv (pts l)) k=k (.pv (iv l.length)):=lenK_of (fun _=>len_pts l) (nsa_lit _)
theorem idxK_pts{l:List Pt}{i:Nat}{x:Pt}(h:l[i]?=some x):idxK Tryz.prog d 176 (.pv (pts l)) (.pv (.lit (.int .i64 (i:Int)))) k=k (.cptr [iv x.kind,sv x.name,iv x.n,pts x.kids,iv x.at_]):=idxK_of (fun _=>idx_pts h) (nsa_c (by simp[NSL_cons,NSL_nil]))
theorem lenK_exs(l:List Ex):lenK Tryz.prog d 84 (.pv (exs l)) k=k (.pv (iv l.length)):=lenK_of (fun _=>len_exs l) (nsa_lit _)
theorem idxK_exs{l:List Ex}{i:Nat}{x:Ex}(h:l[i]?=some x):idxK Tryz.prog d 84 (.pv (exs l)) (.pv (.lit (.int .i64 (i:Int)))) k=k (.cptr [iv x.kind,sv x.name,iv x.n,iv x.t.kind,sv x.t.name,iv x.t.n,tys x.t.kids,exs x.kids,als x.alts,bds x.binds,iv x.at_]):=idxK_of (fun _=>idx_exs h) (nsa_c (by simp[NSL_cons,NSL_nil]))
theorem lenK_als(l:List Al):lenK Tryz.prog d 85 (.pv (als l)) k=k (.pv (iv l.length)):=lenK_of (fun _=>len_als l) (nsa_lit _)
theorem idxK_als{l:List Al}{i:Nat}{x:Al}(h:l[i]?=some x):idxK Tryz.prog d 85 (.pv (als l)) (.pv (.lit (.int .i64 (i:Int)))) k=k (.cptr [iv x.p.kind,sv x.p.name,iv x.p.n,pts x.p.kids,iv x.p.at_,iv x.e.kind,sv x.e.name,iv x.e.n,iv x.e.t.kind,sv x.e.t.name,iv x.e.t.n,tys x.e.t.kids,exs x.e.kids,als x.e.alts,bds x.e.binds,iv x.e.at_]):=idxK_of (fun _=>idx_als h) (nsa_c (by simp[NSL_cons,NSL_nil]))
theorem lenK_bds(l:List Bd):lenK Tryz.prog d 26 (.pv (bds l)) k=k (.pv (iv l.length)):=lenK_of (fun _=>len_bds l) (nsa_lit _)
theorem idxK_bds{l:List Bd}{i:Nat}{x:Bd}(h:l[i]?=some x):idxK Tryz.prog d 26 (.pv (bds l)) (.pv (.lit (.int .i64 (i:Int)))) k=k (.cptr [sv x.name,iv x.e.kind,sv x.e.name,iv x.e.n,iv x.e.t.kind,sv x.e.t.name,iv x.e.t.n,tys x.e.t.kids,exs x.e.kids,als x.e.alts,bds x.e.binds,iv x.e.at_,iv x.at_]):=idxK_of (fun _=>idx_bds h) (nsa_c (by simp[NSL_cons,NSL_nil]))
theorem slcK_bds{l:List Bd}{i:Nat}(h:i≤l.length):slcK Tryz.prog d 26 (.pv (bds l)) none (some (.pv (.lit (.int .i64 (i:Int))))) k=k (.pv (bds (l.take i))):=
 slcK_of (slc_one (by have:=slc_to sl_bds (es:=l.map (Bd.cells)) (m:=i) (by simpa using h);rwa [←List.map_take]at this)) (.pv _ (ns_bds _))
theorem lenK_cns(l:List Cn):lenK Tryz.prog d 71 (.pv (cns l)) k=k (.pv (iv l.length)):=lenK_of (fun _=>len_cns l) (nsa_lit _)
theorem idxK_cns{l:List Cn}{i:Nat}{x:Cn}(h:l[i]?=some x):idxK Tryz.prog d 71 (.pv (cns l)) (.pv (.lit (.int .i64 (i:Int)))) k=k (.cptr [sv x.name,tys x.args,iv x.at_]):=idxK_of (fun _=>idx_cns h) (nsa_c (by simp[NSL_cons,NSL_nil]))
theorem lenK_dts(l:List Dt):lenK Tryz.prog d 23 (.pv (dts l)) k=k (.pv (iv l.length)):=lenK_of (fun _=>len_dts l) (nsa_lit _)
theorem idxK_dts{l:List Dt}{i:Nat}{x:Dt}(h:l[i]?=some x):idxK Tryz.prog d 23 (.pv (dts l)) (.pv (.lit (.int .i64 (i:Int)))) k=k (.cptr [sv x.name,strs x.params,cns x.cons,strs x.deriv,iv x.at_]):=idxK_of (fun _=>idx_dts h) (nsa_c (by simp[NSL_cons,NSL_nil]))
theorem slcK_dts{l:List Dt}{i:Nat}(h:i≤l.length):slcK Tryz.prog d 23 (.pv (dts l)) none (some (.pv (.lit (.int .i64 (i:Int))))) k=k (.pv (dts (l.take i))):=
 slcK_of (slc_one (by have:=slc_to sl_dts (es:=l.map (Dt.cells)) (m:=i) (by simpa using h);rwa [←List.map_take]at this)) (.pv _ (ns_dts _))
theorem lenK_mds(l:List Md):lenK Tryz.prog d 75 (.pv (mds l)) k=k (.pv (iv l.length)):=lenK_of (fun _=>len_mds l) (nsa_lit _)
theorem idxK_mds{l:List Md}{i:Nat}{x:Md}(h:l[i]?=some x):idxK Tryz.prog d 75 (.pv (mds l)) (.pv (.lit (.int .i64 (i:Int)))) k=k (.cptr [sv x.name,iv x.t.kind,sv x.t.name,iv x.t.n,tys x.t.kids,iv x.at_]):=idxK_of (fun _=>idx_mds h) (nsa_c (by simp[NSL_cons,NSL_nil]))
theorem lenK_cls(l:List Cl):lenK Tryz.prog d 24 (.pv (cls l)) k=k (.pv (iv l.length)):=lenK_of (fun _=>len_cls l) (nsa_lit _)
theorem idxK_cls{l:List Cl}{i:Nat}{x:Cl}(h:l[i]?=some x):idxK Tryz.prog d 24 (.pv (cls l)) (.pv (.lit (.int .i64 (i:Int)))) k=k (.cptr [sv x.name,sv x.var,strs x.supers,mds x.methods,bds x.defaults,iv x.at_]):=idxK_of (fun _=>idx_cls h) (nsa_c (by simp[NSL_cons,NSL_nil]))
theorem slcK_cls{l:List Cl}{i:Nat}(h:i≤l.length):slcK Tryz.prog d 24 (.pv (cls l)) none (some (.pv (.lit (.int .i64 (i:Int))))) k=k (.pv (cls (l.take i))):=
 slcK_of (slc_one (by have:=slc_to sl_cls (es:=l.map (Cl.cells)) (m:=i) (by simpa using h);rwa [←List.map_take]at this)) (.pv _ (ns_cls _))
theorem lenK_pds(l:List Pd):lenK Tryz.prog d 79 (.pv (pds l)) k=k (.pv (iv l.length)):=lenK_of (fun _=>len_pds l) (nsa_lit _)
theorem idxK_pds{l:List Pd}{i:Nat}{x:Pd}(h:l[i]?=some x):idxK Tryz.prog d 79 (.pv (pds l)) (.pv (.lit (.int .i64 (i:Int)))) k=k (.cptr [sv x.cls,iv x.t.kind,sv x.t.name,iv x.t.n,tys x.t.kids]):=idxK_of (fun _=>idx_pds h) (nsa_c (by simp[NSL_cons,NSL_nil]))
theorem slcK_pds{l:List Pd}{i:Nat}(h:i≤l.length):slcK Tryz.prog d 79 (.pv (pds l)) none (some (.pv (.lit (.int .i64 (i:Int))))) k=k (.pv (pds (l.take i))):=
 slcK_of (slc_one (by have:=slc_to sl_pds (es:=l.map (Pd.cells)) (m:=i) (by simpa using h);rwa [←List.map_take]at this)) (.pv _ (ns_pds _))
theorem lenK_its(l:List It):lenK Tryz.prog d 25 (.pv (its l)) k=k (.pv (iv l.length)):=lenK_of (fun _=>len_its l) (nsa_lit _)
theorem idxK_its{l:List It}{i:Nat}{x:It}(h:l[i]?=some x):idxK Tryz.prog d 25 (.pv (its l)) (.pv (.lit (.int .i64 (i:Int)))) k=k (.cptr [sv x.cls,iv x.head.kind,sv x.head.name,iv x.head.n,tys x.head.kids,pds x.ctx,bds x.binds,iv x.at_]):=idxK_of (fun _=>idx_its h) (nsa_c (by simp[NSL_cons,NSL_nil]))
end
attribute [simp] lenK_strs lenK_tys lenK_pts lenK_exs lenK_als lenK_bds lenK_cns lenK_dts lenK_mds lenK_cls lenK_pds lenK_its
theorem pureRun_bind{α β:Type}{P:Program}(x:Go.Sem α)(f:α→Go.Sem β):pureRun P (x >>= f)=(pureRun P x).bind fun a=>pureRun P (f a):=by
 induction x with
 |pure a=>rfl
 |program k ih=>exact ih P
 |mark m k ih=>exact ih
 |_=>rfl
theorem pureRun_und{P:Program}{t:TypeId}{d:TypeDesc}(h:P.underlying t=some d):pureRun P (underlying t)=some d:=by
 have e : pureRun P (underlying t) = pureRun P (match P.underlying t with | some d => pure d | none => stuck "no such type" : Go.Sem TypeDesc) := rfl
 rw[e,h];rfl
theorem pureRun_eqs{P:Program}{t:TypeId}(h:P.underlying t=some .string)(d:Nat)(a b:ByteArray):pureRun P (Op.equalIn (d+1) t (.string a) (.string b))=some (a==b):=by
 simp only[Op.equalIn,pureRun_bind,pureRun_und h,Option.bind_some]
 rfl
theorem pureRun_eq2{P : Program}{t t1 t2 : TypeId}{f1 f2 : Field}(d : Nat)(hs : P.underlying t = some (.struct #[f1, f2]))(hp : P.stoodInHeld t = false)(n1 : f1.name ≠ "_")(n2 : f2.name ≠ "_")(h1 : P.underlying f1.type = some .string)(h2 : P.underlying f2.type = some .string)
  (p1:∀a b:ByteArray,pureRun P (part f1.type #[.string a,.string b] f1.offset)=some (.string a)) (p2:∀a b:ByteArray,pureRun P (part f2.type #[.string a,.string b] f2.offset)=some (.string b)) (a b a' b':ByteArray) :
  pureRun P (Op.equalIn (d+2) t (.agg #[.string a,.string b]) (.agg #[.string a',.string b']))=some ((a==a')&&(b==b')):=by
 rw[Op.equalIn]
 simp only[pureRun_bind,pureRun_und hs,Option.bind_some]
 have hpr:pureRun P program=some P:=rfl
 simp only[hpr,Option.bind_some,hp,Bool.false_eq_true,if_false]
 rw[←Array.forIn_toList]
 simp only[List.forIn_cons,List.forIn_nil,if_pos n1,if_pos n2,ne_eq,n1,n2,not_false_eq_true,if_true,pureRun_bind,p1,p2,Option.bind_some]
 have e1:=pureRun_eqs h1 d a a'
 have e2:=pureRun_eqs h2 d b b'
 rw[e1]
 simp only[Option.bind_some]
 cases a==a' with
 |false=>rfl
 |true=>
  simp only[Bool.not_true,Bool.false_eq_true,if_false,pureRun_bind,p1,p2,Option.bind_some,Bool.true_and]
  have e0:∀{α:Type} (x:α),pureRun P (pure x:Go.Sem α)=some x:=fun _=>rfl
  simp only[e0,Option.bind_some,pureRun_bind,p1,p2,e2]
  cases b==b'<;>rfl
theorem pr_pure{α:Type}{P:Program}(a:α):pureRun P (pure a:Go.Sem α)=some a:=rfl
def byt(s:ByteArray)(i:Nat):Int:=((s.data.toList.getD i 0).toNat:Int)
theorem byt_range(s:ByteArray)(i:Nat):0≤byt s i∧byt s i≤255:=by
 unfold byt
 have:=(s.data.toList.getD i 0).toNat_lt
 omega
abbrev cv(n:Int):PV:=.lit (.int .u8 n)
abbrev wv(n:Int):PV:=.lit (.int .u64 n)
@[simp] theorem wkP_int'(k:IntKind)(n:Int):wkP (.lit (.int k n))=.lit (.int k n):=rfl
section
variable{P:Program}{t:TypeId}{r:AV}{β:Type}{d:β}{k:AV→β}
theorem len_str(ht:P.underlying t=some .string)(s:ByteArray):LenOk P t (.pv (sv s)) r↔r=.pv (iv s.size):=by
 have hl:∀ty,builtinA P .len #[t] ty [.pv (sv s)]=some (.pv (iv s.size)):=by
  intro ty
  have h1:pureRun P (Builtin.len_ #[t] ty #[.string s])=some (.int .i64 s.size):=by
   simp only[Builtin.len_,List.getElem?_toArray,List.getElem?_cons_zero,pureRun_bind,pureRun_und ht,Option.bind_some]
   rfl
  have h2:lenA P #[t] (.pv (sv s))=none:=by
   unfold lenA
   simp[rowsOf,emptyV]
  unfold builtinA
  simp only[h2,AV.val?,h1]
  simp[ofVal,plainV]
 constructor
 ·intro h;have:=h 0;rw[hl]at this;exact(Option.some.inj this).symm
 ·intro h ty;rw[hl,h]
theorem lenK_str(ht:P.underlying t=some .string)(s:ByteArray):lenK P d t (.pv (sv s)) k=k (.pv (iv s.size)):=lenK_of (fun _=>len_str ht s) (nsa_lit _)
theorem ind_str(ht:P.underlying t=some .string){s:ByteArray}{i:Nat}(hi:i<s.size):indexA P t (.pv (sv s)) (.pv (iv i))=some (.pv (cv (byt s i))):=by
 have hb:(if(0:Int)≤(i:Int) then s[((i:Int)).toNat]? else none)=some (s[i]'hi):=by
  rw[if_pos (by omega)]
  simp[hi]
 have h1:pureRun P (Instr.index t (.string s) (.int .i64 i))=some (.int .u8 (byt s i)):=by
  simp only[Instr.index,asIntOf,pureRun_bind,pr_pure,Option.bind_some,pureRun_und ht,hb]
  have e:byt s i=((s[i]'hi).toNat:Int):=by
   unfold byt
   have hl:i<s.data.toList.length:=by simpa using hi
   rw[List.getD_eq_getElem?_getD,lGg hl]
   rfl
  rw[e]
 unfold indexA
 simp only[AV.val?,h1]
 simp[ofVal,plainV]
theorem indK_str(ht:P.underlying t=some .string){s:ByteArray}{i:Nat}(hi:i<s.size):indK P d t (.pv (sv s)) (.pv (iv i)) k=k (.pv (cv (byt s i))):=
 theK_of (and_iff (fun w=>by rw[ind_str ht hi];exact⟨fun h=>(Option.some.inj h).symm,fun h=>by rw[h]⟩) (nsa_lit _))
theorem slc_str(ht:P.underlying t=some .string){s:ByteArray}{l m:Nat}(hl:l≤m)(hm:m≤s.size):SlcOk P t (.pv (sv s)) (some (.pv (iv l))) (some (.pv (iv m))) (.pv (sv (s.extract l m))):=by
 intro ρ a b ha hb
 cases a with
 |none=>cases ha
 |some x=>
  cases b with
  |none=>cases hb
  |some y=>
   have hx:ρ x=some (.pv (iv l)):=ha
   have hy:ρ y=some (.pv (iv m)):=hb
   have h1:pureRun P (Instr.sliceAt t (.string s) (some (.int .i64 l)) (some (.int .i64 m)) none)=some (.string (s.extract l m)):=by
    have e1:(0:Int)≤(m:Int)∧(m:Int)≤(s.size:Int):=by omega
    have e2:(0:Int)≤(l:Int)∧(l:Int)≤(m:Int):=by omega
    simp only[Instr.sliceAt,Instr.slice,Instr.sliceBounds,Instr.sliceBound,asIntOf,pureRun_bind,pr_pure,Option.bind_some,pureRun_und ht,if_pos e1,Option.isSome_none,Bool.false_eq_true,if_false,Int.toNat_natCast,if_pos e2]
   have h0:rowsOf (.pv (sv s))=none:=rfl
   simp only[sliceA,h0,AV.val?,valsA,hx,hy,Option.map_some,h1]
   rfl
theorem slcK_str(ht:P.underlying t=some .string){s:ByteArray}{l m:Nat}(hl:l≤m)(hm:m≤s.size):slcK P d t (.pv (sv s)) (some (.pv (iv l))) (some (.pv (iv m))) k=k (.pv (sv (s.extract l m))):=slcK_of (slc_one (slc_str ht hl hm)) (nsa_lit _)
theorem convA_int{s t:TypeId}{ds:TypeDesc}{k1 k2:IntKind}(hs:P.underlying s=some ds)(ht:P.underlying t=some (.int k2))(n:Int):convA P s t (.pv (.lit (.int k1 n)))=some (.pv (.lit (.int k2 (k2.wrap n)))):=by
 have h1:pureRun P (convert s t (.int k1 n))=some (.int k2 (k2.wrap n)):=by
  simp only[convert,pureRun_bind,pureRun_und hs,pureRun_und ht,Option.bind_some]
  cases ds<;>rfl
 simp only[convA,AV.val?,h1]
 rfl
theorem convK_int{s t:TypeId}{ds:TypeDesc}{k1 k2:IntKind}(hs:P.underlying s=some ds)(ht:P.underlying t=some (.int k2))(n:Int):convK P d s t (.pv (.lit (.int k1 n))) k=k (.pv (.lit (.int k2 (k2.wrap n)))):=
 theK_of (and_iff (fun w=>by unfold ConvOk;rw[convA_int hs ht];exact⟨fun h=>(Option.some.inj h).symm,fun h=>by rw[h]⟩) (nsa_lit _))
theorem bytesL_map(l:List Int):bytesL (l.map fun n=>[cv n])=some l:=by
 induction l with
 |nil=>rfl
 |cons a l ih=>simp only[List.map_cons,bytesL,ih,Option.map_some]
theorem convA_bytes{s t e:TypeId}(hs:P.underlying s=some (.slice e))(he:P.underlying e=some (.int .u8))(ht:P.underlying t=some .string)(l:List Int) :
  convA P s t (.pv (.rows (l.map fun n=>[cv n])))=some (.pv (sv (strB l))):=by
 simp only[convA,AV.val?,rowsOf,hs,ht,he,bytesL_map]
theorem convK_bytes{s t e:TypeId}(hs:P.underlying s=some (.slice e))(he:P.underlying e=some (.int .u8))(ht:P.underlying t=some .string)(l:List Int) :
  convK P d s t (.pv (.rows (l.map fun n=>[cv n]))) k=k (.pv (sv (strB l))):=
 theK_of (and_iff (fun w=>by unfold ConvOk;rw[convA_bytes hs he ht];exact⟨fun h=>(Option.some.inj h).symm,fun h=>by rw[h]⟩) (nsa_lit _))
variable{a b:Int}
theorem binK_lss_u8:binK P d .lss t (.pv (.lit (.int .u8 a))) (.pv (.lit (.int .u8 b))) k=k (.pv (.lit (.bool (decide (a<b))))):=binK_of (fun _=>BinOk.iff fun _ _=>rfl) (nsa_lit _)
theorem binK_leq_u8:binK P d .leq t (.pv (.lit (.int .u8 a))) (.pv (.lit (.int .u8 b))) k=k (.pv (.lit (.bool (decide (a≤b))))):=binK_of (fun _=>BinOk.iff fun _ _=>rfl) (nsa_lit _)
theorem binK_gtr_u8:binK P d .gtr t (.pv (.lit (.int .u8 a))) (.pv (.lit (.int .u8 b))) k=k (.pv (.lit (.bool (decide (b<a))))):=binK_of (fun _=>BinOk.iff fun _ _=>rfl) (nsa_lit _)
theorem binK_geq_u8:binK P d .geq t (.pv (.lit (.int .u8 a))) (.pv (.lit (.int .u8 b))) k=k (.pv (.lit (.bool (decide (b≤a))))):=binK_of (fun _=>BinOk.iff fun _ _=>rfl) (nsa_lit _)
theorem binK_eql_u8:binK P d .eql t (.pv (.lit (.int .u8 a))) (.pv (.lit (.int .u8 b))) k=k (.pv (.lit (.bool (decide (a=b))))):=binK_of (fun _=>BinOk.iff fun _ _=>by
 have e:(a==b)=decide (a=b):=by by_cases h:a=b<;>simp[h]
 rw[←e];rfl) (nsa_lit _)
theorem binK_neq_u8:binK P d .neq t (.pv (.lit (.int .u8 a))) (.pv (.lit (.int .u8 b))) k=k (.pv (.lit (.bool (!decide (a=b))))):=binK_of (fun _=>BinOk.iff fun _ _=>by
 have e:(a==b)=decide (a=b):=by by_cases h:a=b<;>simp[h]
 rw[←e];rfl) (nsa_lit _)
theorem binK_gtr_u64:binK P d .gtr t (.pv (.lit (.int .u64 a))) (.pv (.lit (.int .u64 b))) k=k (.pv (.lit (.bool (decide (b<a))))):=binK_of (fun _=>BinOk.iff fun _ _=>rfl) (nsa_lit _)
theorem binK_geq_u64:binK P d .geq t (.pv (.lit (.int .u64 a))) (.pv (.lit (.int .u64 b))) k=k (.pv (.lit (.bool (decide (b≤a))))):=binK_of (fun _=>BinOk.iff fun _ _=>rfl) (nsa_lit _)
theorem binK_eql_u64:binK P d .eql t (.pv (.lit (.int .u64 a))) (.pv (.lit (.int .u64 b))) k=k (.pv (.lit (.bool (decide (a=b))))):=binK_of (fun _=>BinOk.iff fun _ _=>by
 have e:(a==b)=decide (a=b):=by by_cases h:a=b<;>simp[h]
 rw[←e];rfl) (nsa_lit _)
theorem binK_sub_u8:binK P d .sub t (.pv (.lit (.int .u8 a))) (.pv (.lit (.int .u8 b))) k=k (.pv (.lit (.int .u8 (IntKind.u8.wrap (a-b))))):=binK_of (fun _=>BinOk.iff fun _ _=>rfl) (nsa_lit _)
theorem binK_quo_u8(hb:b≠0):binK P d .quo t (.pv (.lit (.int .u8 a))) (.pv (.lit (.int .u8 b))) k=k (.pv (.lit (.int .u8 (IntKind.u8.wrap (a.tdiv b))))):=binK_of (fun _=>BinOk.iff fun _ _=>by
 have h1:pureRun P (Op.intDiv .quo .u8 a b)=some (.int .u8 (IntKind.u8.wrap (a.tdiv b))):=by simp only[Op.intDiv,if_neg hb];rfl
 show (match pureRun P (Op.intDiv .quo .u8 a b) with|some r=>ofVal r|none=>none)=_
 rw[h1];rfl) (nsa_lit _)
theorem binK_add_u64:binK P d .add t (.pv (.lit (.int .u64 a))) (.pv (.lit (.int .u64 b))) k=k (.pv (.lit (.int .u64 (IntKind.u64.wrap (a+b))))):=binK_of (fun _=>BinOk.iff fun _ _=>rfl) (nsa_lit _)
theorem binK_sub_u64:binK P d .sub t (.pv (.lit (.int .u64 a))) (.pv (.lit (.int .u64 b))) k=k (.pv (.lit (.int .u64 (IntKind.u64.wrap (a-b))))):=binK_of (fun _=>BinOk.iff fun _ _=>rfl) (nsa_lit _)
theorem binK_mul_u64:binK P d .mul t (.pv (.lit (.int .u64 a))) (.pv (.lit (.int .u64 b))) k=k (.pv (.lit (.int .u64 (IntKind.u64.wrap (a*b))))):=binK_of (fun _=>BinOk.iff fun _ _=>rfl) (nsa_lit _)
theorem binK_rem_u64(hb:b≠0):binK P d .rem t (.pv (.lit (.int .u64 a))) (.pv (.lit (.int .u64 b))) k=k (.pv (.lit (.int .u64 (a.tmod b)))):=binK_of (fun _=>BinOk.iff fun _ _=>by
 have h1:pureRun P (Op.intDiv .rem .u64 a b)=some (.int .u64 (a.tmod b)):=by simp only[Op.intDiv,if_neg hb];rfl
 show (match pureRun P (Op.intDiv .rem .u64 a b) with|some r=>ofVal r|none=>none)=_
 rw[h1];rfl) (nsa_lit _)
theorem binK_mul_i64:binK P d .mul t (.pv (.lit (.int .i64 a))) (.pv (.lit (.int .i64 b))) k=k (.pv (.lit (.int .i64 (IntKind.i64.wrap (a*b))))):=binK_of (fun _=>BinOk.iff fun _ _=>rfl) (nsa_lit _)
end
attribute [simp] binK_lss_u8 binK_leq_u8 binK_gtr_u8 binK_geq_u8 binK_eql_u8 binK_neq_u8 binK_sub_u8 binK_gtr_u64 binK_geq_u64 binK_eql_u64 binK_add_u64 binK_sub_u64 binK_mul_u64 binK_mul_i64
end Go.Proofs.YtjpjcjnacnlhdaaGreat
namespace Go.Proofs.YtjpjcjnacnlhdaaGreat.X
open Go.RowKit
structure Tk where
 kind:Int
 text:ByteArray
 n:Int
 at_:Int
def Tk.cells(t:Tk):List PV:=[iv t.kind,sv t.text,iv t.n,iv t.at_]
def tks(l:List Tk):PV:=.rows (l.map Tk.cells)
theorem sl_tks:SlT Tryz.prog 65 4 40:=SlT.of (by kernel_rfl)
section
variable{β:Type}{d:β}{k:AV→β}
@[simp] theorem lenK_tks(l:List Tk):lenK Tryz.prog d 65 (.pv (tks l)) k=k (.pv (iv l.length)):=lenK_of (fun _=>by rw[tks,len_ok sl_tks,List.length_map]) (nsa_lit _)
theorem idxK_tks{l:List Tk}{i:Nat}{x:Tk}(h:l[i]?=some x):idxK Tryz.prog d 65 (.pv (tks l)) (.pv (.lit (.int .i64 (i:Int)))) k=k (.cptr [iv x.kind,sv x.text,iv x.n,iv x.at_]):=
 idxK_of (fun _=>by rw[tks];exact idx_ok sl_tks (by rw[List.getElem?_map,h];rfl) rfl) (nsa_c (by simp[NSL_cons,NSL_nil]))
end
abbrev eB:ByteArray:=⟨#[]⟩
def zT:Tk:=⟨0,eB,0,0⟩
structure St where
 a:Nat
 lv:Int
 e:Int
 w:Int
def St.up:St→St
 |⟨a,lv,e,w⟩=>⟨a+1,lv,e,w⟩
theorem up_aa(s:St):s.up.a=s.a+1:=by cases s;rfl
theorem up_lv(s:St):s.up.lv=s.lv:=by cases s;rfl
theorem up_e(s:St):s.up.e=s.e:=by cases s;rfl
theorem up_w(s:St):s.up.w=s.w:=by cases s;rfl
section
variable(L:List Tk)
def nextT(s:St):Tk:=if s.e=0 then(L[s.a]?).getD zT else zT
def mu(s:St):Nat:=if s.e=0 then L.length-s.a+1 else 0
def failS(e w:Int)(s:St):St:=if s.e=0 then⟨s.a,s.lv,e,w⟩ else s
def isB(x:ByteArray)(s:St):Bool:=decide (6≤(nextT L s).kind)&&decide ((nextT L s).text=x)
def mayS(x:ByteArray)(s:St):St:=if isB L x s then s.up else s
def okB(k:Int)(x:ByteArray)(s:St):Bool:=decide (s.e=0)&&(if k<6 then decide ((nextT L s).kind=k) else isB L x s)
def takeT(k:Int)(x:ByteArray)(s:St):Tk:=if okB L k x s then nextT L s else zT
def takeS(k:Int)(x:ByteArray)(s:St):St:=if okB L k x s then s.up else failS 110 (nextT L s).at_ s
def lvS(s:St):St:=⟨s.a,IntKind.i64.wrap (s.lv+1),s.e,s.w⟩
def deepS(s:St):St:=if 300<(lvS s).lv then failS 111 (nextT L (lvS s)).at_ (lvS s) else lvS s
end
section
variable{L:List Tk}
theorem nextT_in{s:St}(h:(nextT L s).kind≠0):s.e=0∧s.a<L.length:=by
 unfold nextT at h
 split at h
 ·rename_i he
  refine⟨he,?_⟩
  by_cases hl:s.a<L.length
  ·exact hl
  ·rw[List.getElem?_eq_none (by omega)]at h
   exact absurd rfl h
 ·exact absurd rfl h
theorem mu_pos{s:St}(he:s.e=0):0<mu L s:=by unfold mu;rw[if_pos he];omega
theorem mu_up{s:St}(he:s.e=0)(hl:s.a<L.length):mu L s.up≤mu L s-1:=by
 unfold mu
 simp only[up_e,up_aa,he,if_true]
 omega
theorem up_a{s:St}{n:Nat}(hl:s.a<n)(hn:n≤1000000):IntKind.i64.wrap ((s.a:Int)+1)=(s.up.a:Int):=by
 rw[wrap_id (by omega),up_aa];rfl
theorem fail_mu{e w:Int}(he:e≠0)(s:St):mu L (failS e w s)=0:=by
 unfold mu failS
 by_cases h:s.e=0<;>simp[h,he]
theorem fail_a(e w:Int)(s:St):(failS e w s).a=s.a:=by unfold failS;split<;>rfl
theorem is_in{x:ByteArray}{s:St}(h:isB L x s=true):s.e=0∧s.a<L.length:=by
 unfold isB at h
 simp only[bAt,decide_eq_true_eq]at h
 exact nextT_in (by omega)
theorem ok_in{k:Int}{x:ByteArray}{s:St}(hk:1≤k)(h:okB L k x s=true):s.e=0∧s.a<L.length:=by
 unfold okB at h
 simp only[bAt,decide_eq_true_eq]at h
 refine⟨h.1,?_⟩
 have h2:=h.2
 split at h2
 ·simp only[decide_eq_true_eq]at h2
  exact(nextT_in (by omega)).2
 ·exact(is_in h2).2
theorem take_mu{k:Int}{x:ByteArray}(hk:1≤k)(s:St):mu L (takeS L k x s)≤mu L s-1:=by
 unfold takeS
 split
 ·rename_i h
  obtain⟨h1,h2⟩:=ok_in hk h
  exact mu_up h1 h2
 ·rw[fail_mu (by decide)];omega
theorem take_a{k:Int}{x:ByteArray}(hk:1≤k){s:St}(hs:s.a≤L.length):(takeS L k x s).a≤L.length:=by
 unfold takeS
 split
 ·rename_i h
  obtain⟨h1,h2⟩:=ok_in hk h
  rw[up_aa];exact h2
 ·rw[fail_a];exact hs
theorem deep_mu(s:St):mu L (deepS L s)≤mu L s:=by
 unfold deepS
 split
 ·rw[fail_mu (by decide)];omega
 ·exact Nat.le_refl _
theorem deep_a(s:St):(deepS L s).a=s.a:=by
 unfold deepS
 split
 ·rw[fail_a];rfl
 ·rfl
theorem may_in{x:ByteArray}{s:St}(h:isB L x s=true):mu L s.up≤mu L s-1∧s.up.a≤L.length:=⟨mu_up (is_in h).1 (is_in h).2,by rw[up_aa];exact(is_in h).2⟩
end
section
variable{L:List Tk}(hL:L.length≤1000000)
abbrev sts(L:List Tk)(s:St)(l:List PV):List PV:=tks L::iv s.a::iv s.lv::iv s.e::iv s.w::l
theorem next_ok(s:St):ev (q29a (tks L) (iv s.a) (iv s.lv) (iv s.e) (iv s.w))=some (0,sts L s (nextT L s).cells):=
 Evl.of (by
  rw[h29a,g29a]
  unfold nextT Tk.cells
  by_cases he:s.e=0
  ·by_cases hl:s.a<L.length
   ·have h1:=lGg hl
    have h2:¬L.length≤s.a:=by omega
    simp[he,idxK_tks h1,h2,h1,hl]
   ·have h1:=List.getElem?_eq_none (l:=L) (i:=s.a) (by omega)
    have h2:L.length≤s.a:=by omega
    simp[he,h1,h2,zT]
  ·simp[he,zT])
theorem fail_ok(e w:Int)(s:St):ev (q66a (iv e) (iv w) (tks L) (iv s.a) (iv s.lv) (iv s.e) (iv s.w))=some (0,sts L (failS e w s) []):=
 Evl.of (by
  rw[h66a,g66a]
  unfold failS
  by_cases he:s.e=0<;>simp[he])
theorem is_ok(x:ByteArray)(s:St):ev (q67a (sv x) (tks L) (iv s.a) (iv s.lv) (iv s.e) (iv s.w))=some (0,sts L s [bv (isB L x s)]):=
 Evl.of (by
  rw[h67a,g67a]
  unfold isB
  simp[next_ok,Tk.cells]
  by_cases h1:6≤(nextT L s).kind
  ·by_cases h2:(nextT L s).text=x<;>simp[h1,h2]
  ·simp[h1])
include hL in
theorem may_ok(x:ByteArray)(s:St):ev (q30a (sv x) (tks L) (iv s.a) (iv s.lv) (iv s.e) (iv s.w))=some (0,sts L (mayS L x s) [bv (isB L x s)]):=
 Evl.of (by
  rw[h30a,g30a]
  unfold mayS
  cases h:isB L x s with
  |true=>
   have h1:=up_a (is_in h).2 hL
   simp[is_ok,h,h1,up_lv,up_e,up_w]
  |false=>simp[is_ok,h])
include hL in
theorem take_ok{k:Int}(hk:1≤k)(x:ByteArray)(s:St):ev (q34a (iv k) (sv x) (tks L) (iv s.a) (iv s.lv) (iv s.e) (iv s.w))=some (0,sts L (takeS L k x s) (takeT L k x s).cells):=
 Evl.of (by
  rw[h34a,g34a]
  unfold takeS takeT
  by_cases he:s.e=0
  ·have hf:failS 110 (nextT L s).at_ s=⟨s.a,s.lv,110,(nextT L s).at_⟩:=by unfold failS;rw[if_pos he]
   cases ho:okB L k x s with
   |true=>
    have h1:=up_a (ok_in hk ho).2 hL
    unfold okB isB at ho
    by_cases h6:k<6
    ·simp[eq_true he,h6]at ho
     have h7:¬6≤k:=by omega
     simp[next_ok,Tk.cells,eq_true he,h6,ho,h7,h1,up_lv,up_e,up_w]
    ·simp[eq_true he,h6]at ho
     have h7:6≤k:=by omega
     have h8:¬(nextT L s).kind<6:=by omega
     simp[next_ok,Tk.cells,eq_true he,h6,ho,h7,h8,h1,up_lv,up_e,up_w]
   |false=>
    have e0:=fail_ok (L:=L) 110 (nextT L s).at_ s
    rw[hf]at e0
    rw[hf]
    unfold okB isB at ho
    by_cases h6:k<6
    ·simp[eq_true he,h6]at ho
     have h7:¬6≤k:=by omega
     simp[next_ok,Tk.cells,eq_true he,h6,ho,h7,e0,zT]
    ·simp[eq_true he,h6]at ho
     have h7:6≤k:=by omega
     by_cases h8:(nextT L s).kind<6
     ·simp[next_ok,Tk.cells,eq_true he,h6,h7,h8,e0,zT]
     ·simp[next_ok,Tk.cells,eq_true he,h6,ho (by omega),h7,h8,e0,zT]
  ·have ho:okB L k x s=false:=by unfold okB;simp[he]
   have hz:nextT L s=zT:=by unfold nextT;rw[if_neg he]
   have hf:failS 110 (nextT L s).at_ s=s:=by unfold failS;rw[if_neg he]
   simp[next_ok,Tk.cells,he,ho,hz]
   rw[←hz,hf]
   first|exact⟨rfl,rfl,rfl⟩|exact⟨rfl,rfl,rfl,rfl⟩)
theorem deep_ok(s:St):ev (q101a (tks L) (iv s.a) (iv s.lv) (iv s.e) (iv s.w))=some (0,sts L (deepS L s) []):=
 Evl.of (by
  rw[h101a,g101a]
  unfold deepS
  have e1:=next_ok (L:=L) (lvS s)
  have e2:=fail_ok (L:=L) 111 (nextT L (lvS s)).at_ (lvS s)
  by_cases h:300<(lvS s).lv
  ·have h':=h
   unfold lvS at h' e1 e2
   simp only at h' e1 e2
   simp only[if_pos h]
   simp[h',e1,e2,Tk.cells]
   exact⟨rfl,rfl,rfl,rfl⟩
  ·have h':=h
   unfold lvS at h'
   simp only at h'
   simp only[if_neg h]
   simp[h',lvS])
theorem bK_ind{β:Type}{P:β→Prop}{b:Bool}{x y:β}(h1:b=true→P x)(h2:b=false→P y):P (bK b x y):=by
 cases b
 ·exact h2 rfl
 ·exact h1 rfl
@[simp] theorem St.eta(s:St):St.mk s.a s.lv s.e s.w=s:=rfl
theorem next_m(a:Nat)(lv e w:Int):ev (q29a (tks L) (iv a) (iv lv) (iv e) (iv w))=some (0,sts L ⟨a,lv,e,w⟩ (nextT L ⟨a,lv,e,w⟩).cells):=next_ok ⟨a,lv,e,w⟩
theorem is_m(x:ByteArray)(a:Nat)(lv e w:Int):ev (q67a (sv x) (tks L) (iv a) (iv lv) (iv e) (iv w))=some (0,sts L ⟨a,lv,e,w⟩ [bv (isB L x ⟨a,lv,e,w⟩)]):=is_ok x ⟨a,lv,e,w⟩
theorem fail_m(e' w':Int)(a:Nat)(lv e w:Int):ev (q66a (iv e') (iv w') (tks L) (iv a) (iv lv) (iv e) (iv w))=some (0,sts L (failS e' w' ⟨a,lv,e,w⟩) []):=fail_ok e' w' ⟨a,lv,e,w⟩
theorem deep_m(a:Nat)(lv e w:Int):ev (q101a (tks L) (iv a) (iv lv) (iv e) (iv w))=some (0,sts L (deepS L ⟨a,lv,e,w⟩) []):=deep_ok ⟨a,lv,e,w⟩
include hL in
theorem may_m(x:ByteArray)(a:Nat)(lv e w:Int):ev (q30a (sv x) (tks L) (iv a) (iv lv) (iv e) (iv w))=some (0,sts L (mayS L x ⟨a,lv,e,w⟩) [bv (isB L x ⟨a,lv,e,w⟩)]):=may_ok hL x ⟨a,lv,e,w⟩
include hL in
theorem take_m{k:Int}(hk:1≤k)(x:ByteArray)(a:Nat)(lv e w:Int):ev (q34a (iv k) (sv x) (tks L) (iv a) (iv lv) (iv e) (iv w))=some (0,sts L (takeS L k x ⟨a,lv,e,w⟩) (takeT L k x ⟨a,lv,e,w⟩).cells):=take_ok hL hk x ⟨a,lv,e,w⟩
def BoolR(L:List Tk)(s:St)(r:Res):Prop:=∃b,r=.ok (0,sts L s [bv b])
theorem BoolR.of(s:St)(b:Bool):BoolR L s (.ok (0,sts L s [bv b])):=⟨b,rfl⟩
theorem starts_ok(k:Int)(s:St):∃b,ev (q68a (iv k) (tks L) (iv s.a) (iv s.lv) (iv s.e) (iv s.w))=some (0,sts L s [bv b])∧(b=true→s.e=0∧s.a<L.length):=by
 by_cases hz:(nextT L s).kind=0
 ·refine⟨false,Evl.of ?_,fun h=>by cases h⟩
  rw[h68a,g68a]
  have hi:∀x,isB L x s=false:=by intro x;unfold isB;simp[hz]
  simp[next_ok,Tk.cells,is_ok,hz,hi]
 ·have hin:=nextT_in hz
  have key:BoolR L s (body PG EE TT ev (q68a (iv k) (tks L) (iv s.a) (iv s.lv) (iv s.e) (iv s.w))):=by
   rw[h68a,g68a]
   simp[next_ok,Tk.cells,is_ok]
   repeat' first|exact .of s true|exact .of s false|refine bK_ind (fun _=>?_) (fun _=>?_)
  obtain⟨b,hb⟩:=key
  exact⟨b,Evl.of hb,fun _=>hin⟩
end
theorem uS:PG.underlying 9=some .string:=by kernel_rfl
theorem u8:PG.underlying 5=some (.int .u8):=by kernel_rfl
theorem uI:PG.underlying 3=some (.int .i64):=by kernel_rfl
theorem uL:PG.underlying 2=some (.int .i64):=by kernel_rfl
theorem uU:PG.underlying 196=some (.int .u64):=by kernel_rfl
theorem uB:PG.underlying 194=some (.slice 5):=by kernel_rfl
section
variable{β:Type}{d:β}{k:AV→β}
@[simp] theorem lenS(s:ByteArray):lenK PG d 9 (.pv (sv s)) k=k (.pv (iv s.size)):=lenK_str uS s
theorem indS{s:ByteArray}{i:Nat}(hi:i<s.size):indK PG d 9 (.pv (sv s)) (.pv (iv i)) k=k (.pv (cv (byt s i))):=indK_str uS hi
theorem slcS{s:ByteArray}{l m:Nat}(hl:l≤m)(hm:m≤s.size):slcK PG d 9 (.pv (sv s)) (some (.pv (iv l))) (some (.pv (iv m))) k=k (.pv (sv (s.extract l m))):=slcK_str uS hl hm
@[simp] theorem convBI(n:Int):convK PG d 5 3 (.pv (cv n)) k=k (.pv (iv (IntKind.i64.wrap n))):=convK_int u8 uI n
@[simp] theorem convBU(n:Int):convK PG d 5 196 (.pv (cv n)) k=k (.pv (wv (IntKind.u64.wrap n))):=convK_int u8 uU n
@[simp] theorem convUL(n:Int):convK PG d 196 2 (.pv (wv n)) k=k (.pv (iv (IntKind.i64.wrap n))):=convK_int uU uL n
@[simp] theorem convLU(n:Int):convK PG d 2 196 (.pv (iv n)) k=k (.pv (wv (IntKind.u64.wrap n))):=convK_int uL uU n
end
theorem wby(b:ByteArray)(i:Nat):IntKind.i64.wrap (byt b i)=byt b i:=wrap_id (by have:=byt_range b i;omega)
theorem wone{i j:Nat}(hj:j=i+1)(h:i≤1000000000):IntKind.i64.wrap ((i:Int)+1)=(j:Int):=by rw[wrap_id (by omega)];omega
theorem wtwo{i j k:Nat}(hj:j=i+k)(h:i+k≤1000000000):IntKind.i64.wrap ((i:Int)+(k:Int))=(j:Int):=by rw[wrap_id (by omega)];omega
theorem utf_a(b:ByteArray)(i:Nat)(hb:b.size≤1000000)(hi:i+4≤b.size):∀(m k:Nat),k+m=4→∀z:Int,∃r,ev (q124b0a (iv k) (sv b) (iv i) (iv z))=some r∧(r=(0,[iv 0])∨∃y:Int,r=(1,[iv y,iv 65536,iv 4])):=by
 intro m
 induction m with
 |zero=>
  intro k hk z
  have h1:¬(k:Int)<4:=by omega
  exact⟨_,Evl.of (by rw[h124b0a,g124b0a];simp[h1]),.inr ⟨z,rfl⟩⟩
 |succ m ih=>
  intro k hk z
  obtain⟨j,hj⟩:∃j,j=i+k:=⟨_,rfl⟩
  obtain⟨k',hk'⟩:∃k',k'=k+1:=⟨_,rfl⟩
  have h1:(k:Int)<4:=by omega
  have e1:=wtwo hj (by omega)
  have e2:=wone hk' (by omega)
  have hx:=fun(k:AV→Res)=>indS (d:=Res.fail) (k:=k) (s:=b) (i:=j) (by omega)
  by_cases h2:byt b j<128
  ·exact⟨_,Evl.of (by rw[h124b0a,g124b0a];simp[h1,e1,hx,wby,h2]),.inl rfl⟩
  ·by_cases h3:191<byt b j
   ·exact⟨_,Evl.of (by rw[h124b0a,g124b0a];simp[h1,e1,hx,wby,h2,h3]),.inl rfl⟩
   ·obtain⟨r,hr,hr'⟩:=ih k' (by omega) (IntKind.i64.wrap (IntKind.i64.wrap (IntKind.i64.wrap (64*z)+byt b j)-128))
    exact⟨r,Evl.of (by rw[h124b0a,g124b0a];simp[h1,e1,e2,hx,wby,h2,h3,hr]),hr'⟩
theorem utf_b(b:ByteArray)(i:Nat)(hb:b.size≤1000000)(hi:i+3≤b.size):∀(m k:Nat),k+m=3→∀z:Int,∃r,ev (q124b0b (iv k) (sv b) (iv i) (iv z))=some r∧(r=(0,[iv 0])∨∃y:Int,r=(1,[iv y,iv 2048,iv 3])):=by
 intro m
 induction m with
 |zero=>
  intro k hk z
  have h1:¬(k:Int)<3:=by omega
  exact⟨_,Evl.of (by rw[h124b0b,g124b0b];simp[h1]),.inr ⟨z,rfl⟩⟩
 |succ m ih=>
  intro k hk z
  obtain⟨j,hj⟩:∃j,j=i+k:=⟨_,rfl⟩
  obtain⟨k',hk'⟩:∃k',k'=k+1:=⟨_,rfl⟩
  have h1:(k:Int)<3:=by omega
  have e1:=wtwo hj (by omega)
  have e2:=wone hk' (by omega)
  have hx:=fun(k:AV→Res)=>indS (d:=Res.fail) (k:=k) (s:=b) (i:=j) (by omega)
  by_cases h2:byt b j<128
  ·exact⟨_,Evl.of (by rw[h124b0b,g124b0b];simp[h1,e1,hx,wby,h2]),.inl rfl⟩
  ·by_cases h3:191<byt b j
   ·exact⟨_,Evl.of (by rw[h124b0b,g124b0b];simp[h1,e1,hx,wby,h2,h3]),.inl rfl⟩
   ·obtain⟨r,hr,hr'⟩:=ih k' (by omega) (IntKind.i64.wrap (IntKind.i64.wrap (IntKind.i64.wrap (64*z)+byt b j)-128))
    exact⟨r,Evl.of (by rw[h124b0b,g124b0b];simp[h1,e1,e2,hx,wby,h2,h3,hr]),hr'⟩
theorem utf_c(b:ByteArray)(i:Nat)(hb:b.size≤1000000)(hi:i+2≤b.size):∀(m k:Nat),k+m=2→∀z:Int,∃r,ev (q124b0c (iv k) (sv b) (iv i) (iv z))=some r∧(r=(0,[iv 0])∨∃y:Int,r=(1,[iv y,iv 128,iv 2])):=by
 intro m
 induction m with
 |zero=>
  intro k hk z
  have h1:¬(k:Int)<2:=by omega
  exact⟨_,Evl.of (by rw[h124b0c,g124b0c];simp[h1]),.inr ⟨z,rfl⟩⟩
 |succ m ih=>
  intro k hk z
  obtain⟨j,hj⟩:∃j,j=i+k:=⟨_,rfl⟩
  obtain⟨k',hk'⟩:∃k',k'=k+1:=⟨_,rfl⟩
  have h1:(k:Int)<2:=by omega
  have e1:=wtwo hj (by omega)
  have e2:=wone hk' (by omega)
  have hx:=fun(k:AV→Res)=>indS (d:=Res.fail) (k:=k) (s:=b) (i:=j) (by omega)
  by_cases h2:byt b j<128
  ·exact⟨_,Evl.of (by rw[h124b0c,g124b0c];simp[h1,e1,hx,wby,h2]),.inl rfl⟩
  ·by_cases h3:191<byt b j
   ·exact⟨_,Evl.of (by rw[h124b0c,g124b0c];simp[h1,e1,hx,wby,h2,h3]),.inl rfl⟩
   ·obtain⟨r,hr,hr'⟩:=ih k' (by omega) (IntKind.i64.wrap (IntKind.i64.wrap (IntKind.i64.wrap (64*z)+byt b j)-128))
    exact⟨r,Evl.of (by rw[h124b0c,g124b0c];simp[h1,e1,e2,hx,wby,h2,h3,hr]),hr'⟩
theorem utf_ok(b:ByteArray)(i:Nat)(hb:b.size≤1000000)(hi:i<b.size):∃n:Nat,ev (q124 (sv b) (iv i))=some (0,[iv n])∧i+n≤b.size:=by
 have hx:=fun(k:AV→Res)=>indS (d:=Res.fail) (k:=k) hi
 have hr:=byt_range b i
 by_cases h1:byt b i<128
 ·exact⟨1,Evl.of (by rw[h124,g124];simp[hx,wby,h1]),by omega⟩
 by_cases h2:192≤byt b i
 ·by_cases h3:byt b i<224
  ·have h4:¬224≤byt b i:=by omega
   have h5:¬240≤byt b i:=by omega
   obtain⟨j,hj⟩:∃j,j=i+2:=⟨_,rfl⟩
   have e1:IntKind.i64.wrap ((i:Int)+2)=(j:Int):=by rw[wrap_id (by omega)];omega
   by_cases hs:(b.size:Int)<(j:Int)
   ·exact⟨0,Evl.of (by rw[h124,g124];simp[hx,wby,h1,h2,h3,h4,h5,e1,hs]),by omega⟩
   ·obtain⟨r,g,g1|⟨y,g1⟩⟩:=utf_c b i hb (by omega) 1 1 rfl (IntKind.i64.wrap (byt b i-192))
    ·rw[g1]at g
     have g:ev (q124b0c (iv 1) (sv b) (iv i) (iv (IntKind.i64.wrap (byt b i-192))))=_:=g
     exact⟨0,Evl.of (by rw[h124,g124];simp[hx,wby,h1,h2,h3,h4,h5,e1,hs];simp[g]),by omega⟩
    ·rw[g1]at g
     have g:ev (q124b0c (iv 1) (sv b) (iv i) (iv (IntKind.i64.wrap (byt b i-192))))=_:=g
     by_cases k1:y<128
     ·exact⟨0,Evl.of (by rw[h124,g124];simp[hx,wby,h1,h2,h3,h4,h5,e1,hs];simp[g,k1]),by omega⟩
     ·by_cases k2:1114111<y
      ·exact⟨0,Evl.of (by rw[h124,g124];simp[hx,wby,h1,h2,h3,h4,h5,e1,hs];simp[g,k1,k2]),by omega⟩
      ·by_cases k3:55296≤y
       ·by_cases k4:y≤57343
        ·exact⟨0,Evl.of (by rw[h124,g124];simp[hx,wby,h1,h2,h3,h4,h5,e1,hs];simp[g,k1,k2,k3,k4]),by omega⟩
        ·exact⟨2,Evl.of (by rw[h124,g124];simp[hx,wby,h1,h2,h3,h4,h5,e1,hs];simp[g,k1,k2,k3,k4]),by omega⟩
       ·exact⟨2,Evl.of (by rw[h124,g124];simp[hx,wby,h1,h2,h3,h4,h5,e1,hs];simp[g,k1,k2,k3]),by omega⟩
  ·have h4:224≤byt b i:=by omega
   by_cases h5:byt b i<240
   ·have h6:¬240≤byt b i:=by omega
    obtain⟨j,hj⟩:∃j,j=i+3:=⟨_,rfl⟩
    have e1:IntKind.i64.wrap ((i:Int)+3)=(j:Int):=by rw[wrap_id (by omega)];omega
    by_cases hs:(b.size:Int)<(j:Int)
    ·exact⟨0,Evl.of (by rw[h124,g124];simp[hx,wby,h1,h2,h3,h4,h5,h6,e1,hs]),by omega⟩
    ·obtain⟨r,g,g1|⟨y,g1⟩⟩:=utf_b b i hb (by omega) 2 1 rfl (IntKind.i64.wrap (byt b i-224))
     ·rw[g1]at g
      have g:ev (q124b0b (iv 1) (sv b) (iv i) (iv (IntKind.i64.wrap (byt b i-224))))=_:=g
      exact⟨0,Evl.of (by rw[h124,g124];simp[hx,wby,h1,h2,h3,h4,h5,h6,e1,hs];simp[g]),by omega⟩
     ·rw[g1]at g
      have g:ev (q124b0b (iv 1) (sv b) (iv i) (iv (IntKind.i64.wrap (byt b i-224))))=_:=g
      by_cases k1:y<2048
      ·exact⟨0,Evl.of (by rw[h124,g124];simp[hx,wby,h1,h2,h3,h4,h5,h6,e1,hs];simp[g,k1]),by omega⟩
      ·by_cases k2:1114111<y
       ·exact⟨0,Evl.of (by rw[h124,g124];simp[hx,wby,h1,h2,h3,h4,h5,h6,e1,hs];simp[g,k1,k2]),by omega⟩
       ·by_cases k3:55296≤y
        ·by_cases k4:y≤57343
         ·exact⟨0,Evl.of (by rw[h124,g124];simp[hx,wby,h1,h2,h3,h4,h5,h6,e1,hs];simp[g,k1,k2,k3,k4]),by omega⟩
         ·exact⟨3,Evl.of (by rw[h124,g124];simp[hx,wby,h1,h2,h3,h4,h5,h6,e1,hs];simp[g,k1,k2,k3,k4]),by omega⟩
        ·exact⟨3,Evl.of (by rw[h124,g124];simp[hx,wby,h1,h2,h3,h4,h5,h6,e1,hs];simp[g,k1,k2,k3]),by omega⟩
   ·have h6:240≤byt b i:=by omega
    by_cases h7:byt b i<248
    ·skip
     obtain⟨j,hj⟩:∃j,j=i+4:=⟨_,rfl⟩
     have e1:IntKind.i64.wrap ((i:Int)+4)=(j:Int):=by rw[wrap_id (by omega)];omega
     by_cases hs:(b.size:Int)<(j:Int)
     ·exact⟨0,Evl.of (by rw[h124,g124];simp[hx,wby,h1,h2,h3,h4,h5,h6,h7,e1,hs]),by omega⟩
     ·obtain⟨r,g,g1|⟨y,g1⟩⟩:=utf_a b i hb (by omega) 3 1 rfl (IntKind.i64.wrap (byt b i-240))
      ·rw[g1]at g
       have g:ev (q124b0a (iv 1) (sv b) (iv i) (iv (IntKind.i64.wrap (byt b i-240))))=_:=g
       exact⟨0,Evl.of (by rw[h124,g124];simp[hx,wby,h1,h2,h3,h4,h5,h6,h7,e1,hs];simp[g]),by omega⟩
      ·rw[g1]at g
       have g:ev (q124b0a (iv 1) (sv b) (iv i) (iv (IntKind.i64.wrap (byt b i-240))))=_:=g
       by_cases k1:y<65536
       ·exact⟨0,Evl.of (by rw[h124,g124];simp[hx,wby,h1,h2,h3,h4,h5,h6,h7,e1,hs];simp[g,k1]),by omega⟩
       ·by_cases k2:1114111<y
        ·exact⟨0,Evl.of (by rw[h124,g124];simp[hx,wby,h1,h2,h3,h4,h5,h6,h7,e1,hs];simp[g,k1,k2]),by omega⟩
        ·by_cases k3:55296≤y
         ·by_cases k4:y≤57343
          ·exact⟨0,Evl.of (by rw[h124,g124];simp[hx,wby,h1,h2,h3,h4,h5,h6,h7,e1,hs];simp[g,k1,k2,k3,k4]),by omega⟩
          ·exact⟨4,Evl.of (by rw[h124,g124];simp[hx,wby,h1,h2,h3,h4,h5,h6,h7,e1,hs];simp[g,k1,k2,k3,k4]),by omega⟩
         ·exact⟨4,Evl.of (by rw[h124,g124];simp[hx,wby,h1,h2,h3,h4,h5,h6,h7,e1,hs];simp[g,k1,k2,k3]),by omega⟩
    ·exact⟨0,Evl.of (by rw[h124,g124];simp[hx,wby,h1,h2,h3,h4,h5,h6,h7]),by omega⟩
 ·have h3:¬224≤byt b i:=by omega
  have h4:¬240≤byt b i:=by omega
  exact⟨0,Evl.of (by rw[h124,g124];simp[hx,wby,h1,h2,h3,h4]),by omega⟩
theorem bad_l(b:ByteArray)(hb:b.size≤1000000):∀(m i:Nat),b.size-i≤m→(∃z:Int,ev (q98b0a (iv i) (sv b))=some (0,[iv z]))∨ev (q98b0a (iv i) (sv b))=some (1,[]):=by
 intro m
 induction m with
 |zero=>
  intro i hi
  exact .inr (Evl.of (by rw[h98b0a,g98b0a];simp[show ¬(i:Int)<(b.size:Int) by omega]))
 |succ m ih=>
  intro i hi
  by_cases h1:i<b.size
  ·have h1':(i:Int)<(b.size:Int):=by omega
   obtain⟨n,g,hn⟩:=utf_ok b i hb h1
   by_cases h0:n=0
   ·subst h0
    exact .inl ⟨i,Evl.of (by rw[h98b0a,g98b0a];simp[h1'];simp[g])⟩
   ·obtain⟨j,hj⟩:∃j,j=i+n:=⟨_,rfl⟩
    have e1:=wtwo hj (by omega)
    have h0':¬(n:Int)=0:=by omega
    rcases ih j (by omega) with⟨z,hz⟩|hz
    ·exact .inl ⟨z,Evl.of (by rw[h98b0a,g98b0a];simp[h1'];simp[g,h0];simp[e1,hz])⟩
    ·exact .inr (Evl.of (by rw[h98b0a,g98b0a];simp[h1'];simp[g,h0];simp[e1,hz]))
  ·exact .inr (Evl.of (by rw[h98b0a,g98b0a];simp[show ¬(i:Int)<(b.size:Int) by omega]))
theorem bad_ok(b:ByteArray)(hb:b.size≤1000000):∃z:Int,ev (q98 (sv b))=some (0,[iv z]):=by
 rcases bad_l b hb b.size 0 (by omega) with⟨z,hz⟩|hz
 ·have hz:ev (q98b0a (iv 0) (sv b))=_:=hz
  exact⟨z,Evl.of (by rw[h98,g98];simp[hz])⟩
 ·have hz:ev (q98b0a (iv 0) (sv b))=_:=hz
  exact⟨-1,Evl.of (by rw[h98,g98];simp[hz])⟩
noncomputable def bo(q:Q):Bool:=@decide (ev q=some (0,[bv true])) (Classical.propDecidable _)
theorem bo_of{q:Q}(h:∃c:Bool,ev q=some (0,[bv c])):ev q=some (0,[bv (bo q)]):=by
 obtain⟨c,h⟩:=h
 unfold bo
 cases c with
 |true=>simp[h]
 |false=>
  have hn:¬ev q=some (0,[bv true]):=by rw[h];simp
  simp[hn,h]
theorem bo_body{q:Q}(h:∃c:Bool,body PG EE TT ev q=.ok (0,[bv c])):ev q=some (0,[bv (bo q)]):=bo_of (h.imp fun _ h=>Evl.of h)
def BoG(r:Res):Prop:=∃c:Bool,r=.ok (0,[bv c])
theorem BoG.ok(c:Bool):BoG (.ok (0,[bv c])):=⟨c,rfl⟩
theorem BoG.bK{b:Bool}{x y:Res}(h1:BoG x)(h2:BoG y):BoG (bK b x y):=by cases b<;>assumption
theorem blank_m(n:Int):ev (q125 (cv n))=some (0,[bv (bo (q125 (cv n)))]):=bo_body (show BoG _ by
 rw[h125,g125]
 simp
 repeat (first|exact .ok _|refine .ite ?_ ?_|refine .bK ?_ ?_))
theorem digit_m(n:Int):ev (q127 (cv n))=some (0,[bv (bo (q127 (cv n)))]):=bo_body (show BoG _ by
 rw[h127,g127]
 simp
 repeat (first|exact .ok _|refine .ite ?_ ?_|refine .bK ?_ ?_))
theorem small_m(n:Int):ev (q130 (cv n))=some (0,[bv (bo (q130 (cv n)))]):=bo_body (show BoG _ by
 rw[h130,g130]
 simp
 repeat (first|exact .ok _|refine .ite ?_ ?_|refine .bK ?_ ?_))
theorem great_m(n:Int):ev (q131 (cv n))=some (0,[bv (bo (q131 (cv n)))]):=bo_body (show BoG _ by
 rw[h131,g131]
 simp
 repeat (first|exact .ok _|refine .ite ?_ ?_|refine .bK ?_ ?_))
theorem in_l(t:ByteArray)(n:Int)(ht:t.size≤1000000):∀(m i:Nat),t.size-i≤m→(∃c:Bool,ev (q147b0a (iv i) (sv t) (cv n))=some (0,[bv c]))∨ev (q147b0a (iv i) (sv t) (cv n))=some (1,[]):=by
 intro m
 induction m with
 |zero=>exact fun i hi=>.inr (Evl.of (by rw[h147b0a,g147b0a];simp[show ¬(i:Int)<(t.size:Int) by omega]))
 |succ m ih=>
  intro i hi
  by_cases h1:i<t.size
  ·have h1':(i:Int)<(t.size:Int):=by omega
   have hx:=fun(k:AV→Res)=>indS (d:=Res.fail) (k:=k) h1
   obtain⟨j,hj⟩:∃j,j=i+1:=⟨_,rfl⟩
   have e1:=wone hj (by omega)
   by_cases h2:byt t i=n
   ·exact .inl ⟨true,Evl.of (by rw[h147b0a,g147b0a];simp[h1',hx,h2])⟩
   ·rcases ih j (by omega) with⟨c,hc⟩|hc
    ·exact .inl ⟨c,Evl.of (by rw[h147b0a,g147b0a];simp[h1',hx,h2,e1,hc])⟩
    ·exact .inr (Evl.of (by rw[h147b0a,g147b0a];simp[h1',hx,h2,e1,hc]))
  ·exact .inr (Evl.of (by rw[h147b0a,g147b0a];simp[show ¬(i:Int)<(t.size:Int) by omega]))
theorem in_m(t:ByteArray)(n:Int)(ht:t.size≤1000000):ev (q147 (sv t) (cv n))=some (0,[bv (bo (q147 (sv t) (cv n)))]):=bo_of (by
 rcases in_l t n ht t.size 0 (by omega) with⟨c,hc⟩|hc
 ·have hc:ev (q147b0a (iv 0) (sv t) (cv n))=_:=hc
  exact⟨c,Evl.of (by rw[h147,g147];cases c<;>simp[hc])⟩
 ·have hc:ev (q147b0a (iv 0) (sv t) (cv n))=_:=hc
  exact⟨false,Evl.of (by rw[h147,g147];simp[hc])⟩)
theorem sign_m(n:Int):ev (q132 (cv n))=some (0,[bv (bo (q132 (cv n)))]):=bo_body (show BoG _ by
 have f:=in_m ⟨#[33,36,37,38,42,43,46,47,60,61,62,63,64,94,124,126,58,45]⟩ n (by decide)
 rw[h132,g132]
 simp[f]
 repeat (first|exact .ok _|refine .ite ?_ ?_|refine .bK ?_ ?_))
theorem name_m(n:Int):ev (q148 (cv n))=some (0,[bv (bo (q148 (cv n)))]):=bo_body (show BoG _ by
 rw[h148,g148]
 simp[small_m,great_m,digit_m]
 repeat (first|exact .ok _|refine .ite ?_ ?_|refine .bK ?_ ?_))
theorem name_small(n:Int)(h:bo (q130 (cv n))=true):bo (q148 (cv n))=true:=by
 have e:ev (q148 (cv n))=some (0,[bv true]):=Evl.of (by rw[h148,g148];simp[small_m,h])
 rw[name_m]at e
 simpa using e
theorem name_great(n:Int)(h:bo (q131 (cv n))=true):bo (q148 (cv n))=true:=by
 have e:ev (q148 (cv n))=some (0,[bv true]):=Evl.of (by rw[h148,g148];simp[small_m,great_m,h])
 rw[name_m]at e
 simpa using e
theorem among_l(x:ByteArray)(l:List ByteArray)(hl:l.length≤1000000):∀(m i:Nat),l.length-i≤m→(∃c:Bool,ev (q150b0a (iv i) (strs l) (sv x))=some (0,[bv c]))∨ev (q150b0a (iv i) (strs l) (sv x))=some (1,[]):=by
 intro m
 induction m with
 |zero=>exact fun i hi=>.inr (Evl.of (by rw[h150b0a,g150b0a];simp[show ¬(i:Int)<(l.length:Int) by omega]))
 |succ m ih=>
  intro i hi
  by_cases h1:i<l.length
  ·have h1':(i:Int)<(l.length:Int):=by omega
   have hx:=fun(k:AV→Res)=>idxK_strs (d:=Res.fail) (k:=k) (lGg h1)
   obtain⟨j,hj⟩:∃j,j=i+1:=⟨_,rfl⟩
   have e1:=wone hj (by omega)
   by_cases h2:l[i]=x
   ·exact .inl ⟨true,Evl.of (by rw[h150b0a,g150b0a];simp[h1',hx,h2])⟩
   ·rcases ih j (by omega) with⟨c,hc⟩|hc
    ·exact .inl ⟨c,Evl.of (by rw[h150b0a,g150b0a];simp[h1',hx,h2,e1,hc])⟩
    ·exact .inr (Evl.of (by rw[h150b0a,g150b0a];simp[h1',hx,h2,e1,hc]))
  ·exact .inr (Evl.of (by rw[h150b0a,g150b0a];simp[show ¬(i:Int)<(l.length:Int) by omega]))
theorem among_m(x:ByteArray)(l:List ByteArray)(hl:l.length≤1000000):ev (q150 (sv x) (strs l))=some (0,[bv (bo (q150 (sv x) (strs l)))]):=bo_of (by
 rcases among_l x l hl l.length 0 (by omega) with⟨c,hc⟩|hc
 ·have hc:ev (q150b0a (iv 0) (strs l) (sv x))=_:=hc
  exact⟨c,Evl.of (by rw[h150,g150];cases c<;>simp[hc])⟩
 ·have hc:ev (q150b0a (iv 0) (strs l) (sv x))=_:=hc
  exact⟨false,Evl.of (by rw[h150,g150];simp[hc])⟩)
theorem mark_m(x:ByteArray):ev (q133 (sv x))=some (0,[bv (bo (q133 (sv x)))]):=bo_body (show BoG _ by
 have f:=among_m x [⟨#[40]⟩,⟨#[41]⟩,⟨#[44]⟩,⟨#[59]⟩,⟨#[92]⟩,⟨#[95]⟩,⟨#[61]⟩,⟨#[45,62]⟩,⟨#[124]⟩,⟨#[58]⟩] (by decide)
 simp only[strs,List.map_cons,List.map_nil]at f
 rw[h133,g133]
 simp[f]
 repeat (first|exact .ok _|refine .ite ?_ ?_|refine .bK ?_ ?_))
theorem key_m(x:ByteArray):ev (q134 (sv x))=some (0,[bv (bo (q134 (sv x)))]):=bo_body (show BoG _ by
 have f:=among_m x [⟨#[100,97,116,97]⟩,⟨#[99,108,97,115,115]⟩,⟨#[105,110,115,116,97,110,99,101]⟩,⟨#[102,114,111,109]⟩,⟨#[119,104,101,114,101]⟩,⟨#[101,110,100]⟩,⟨#[100,101,114,105,118,105,110,103]⟩,⟨#[100,101,102]⟩,⟨#[108,101,116]⟩,⟨#[114,101,99]⟩,⟨#[97,110,100]⟩,⟨#[105,110]⟩,⟨#[99,97,115,101]⟩,⟨#[111,102]⟩,⟨#[105,102]⟩,⟨#[116,104,101,110]⟩,⟨#[101,108,115,101]⟩] (by decide)
 simp only[strs,List.map_cons,List.map_nil]at f
 rw[h134,g134]
 simp[f]
 repeat (first|exact .ok _|refine .ite ?_ ?_|refine .bK ?_ ?_))
theorem over_r(b:ByteArray)(hb:b.size≤1000000):∀(m i:Nat),b.size-i≤m→i≤b.size→∃j:Nat,ev (q99b2a (iv i) (sv b))=some (0,[iv j,sv b])∧i≤j∧j≤b.size:=by
 intro m
 induction m with
 |zero=>exact fun i hi hl=>⟨i,Evl.of (by rw[h99b2a,g99b2a];simp[show ¬(i:Int)<(b.size:Int) by omega]),by omega,by omega⟩
 |succ m ih=>
  intro i hi hl
  by_cases h1:i<b.size
  ·have h1':(i:Int)<(b.size:Int):=by omega
   have hx:=fun(k:AV→Res)=>indS (d:=Res.fail) (k:=k) h1
   obtain⟨j,hj⟩:∃j,j=i+1:=⟨_,rfl⟩
   have e1:=wone hj (by omega)
   by_cases h2:byt b i=10
   ·exact⟨i,Evl.of (by rw[h99b2a,g99b2a];simp[h1',hx,h2]),by omega,by omega⟩
   ·obtain⟨z,g,g1,g2⟩:=ih j (by omega) (by omega)
    exact⟨z,Evl.of (by rw[h99b2a,g99b2a];simp[h1',hx,h2,e1,g]),by omega,by omega⟩
  ·exact⟨i,Evl.of (by rw[h99b2a,g99b2a];simp[show ¬(i:Int)<(b.size:Int) by omega]),by omega,by omega⟩
theorem over_l(b:ByteArray)(hb:b.size≤1000000):∀(m i:Nat),b.size-i≤m→i≤b.size→∃j:Nat,ev (q99b0a (iv i) (sv b))=some (0,[iv j])∧i≤j∧j≤b.size:=by
 intro m
 induction m with
 |zero=>exact fun i hi hl=>⟨i,Evl.of (by rw[h99b0a,g99b0a];simp[show ¬(i:Int)<(b.size:Int) by omega]),by omega,by omega⟩
 |succ m ih=>
  intro i hi hl
  by_cases h1:i<b.size
  ·have h1':(i:Int)<(b.size:Int):=by omega
   have hx:=fun(k:AV→Res)=>indS (d:=Res.fail) (k:=k) h1
   by_cases h2:byt b i=35
   ·-- a remark
    have hx1:(byt b i≠10):=by omega
    obtain⟨j,hj⟩:∃j,j=i+1:=⟨_,rfl⟩
    have e1:=wone hj (by omega)
    obtain⟨z,g,g1,g2⟩:=over_r b hb m j (by omega) (by omega)
    have gi:ev (q99b2a (iv i) (sv b))=some (0,[iv z,sv b]):=Evl.of (by rw[h99b2a,g99b2a];simp[h1',hx,hx1,e1,g])
    obtain⟨y,f,f1,f2⟩:=ih z (by omega) (by omega)
    refine⟨y,Evl.of ?_,by omega,by omega⟩
    rw[h99b0a,g99b0a]
    have hb0:=blank_m (byt b i)
    rw[h2]at hb0
    cases hc:bo (q125 (cv 35)) with
    |true=>rw[hc]at hb0;simp[h1',hx,h2,hb0,gi,f]
    |false=>rw[hc]at hb0;simp[h1',hx,h2,hb0,gi,f]
   ·have hb0:=blank_m (byt b i)
    cases hc:bo (q125 (cv (byt b i))) with
    |true=>
     obtain⟨j,hj⟩:∃j,j=i+1:=⟨_,rfl⟩
     have e1:=wone hj (by omega)
     obtain⟨y,f,f1,f2⟩:=ih j (by omega) (by omega)
     exact⟨y,Evl.of (by rw[h99b0a,g99b0a];rw[hc]at hb0;simp[h1',hx,h2,hb0,e1,f]),by omega,by omega⟩
    |false=>exact⟨i,Evl.of (by rw[h99b0a,g99b0a];rw[hc]at hb0;simp[h1',hx,h2,hb0]),by omega,by omega⟩
  ·exact⟨i,Evl.of (by rw[h99b0a,g99b0a];simp[show ¬(i:Int)<(b.size:Int) by omega]),by omega,by omega⟩
theorem over_ok(b:ByteArray)(hb:b.size≤1000000)(i:Nat)(hi:i≤b.size):∃j:Nat,ev (q99 (sv b) (iv i))=some (0,[iv j])∧i≤j∧j≤b.size:=by
 obtain⟨j,g,g1,g2⟩:=over_l b hb _ i (Nat.le_refl _) hi
 exact⟨j,Evl.of (by rw[h99,g99];simp[g]),g1,g2⟩
theorem end_ln(b:ByteArray)(hb:b.size≤1000000):∀(m i:Nat),b.size-i≤m→i≤b.size→∃j:Nat,ev (q128b0a (iv i) (sv b) (iv 1))=some (0,[iv j])∧i≤j∧j≤b.size∧(i<b.size→bo (q148 (cv (byt b i)))=true→i<j):=by
 intro m
 induction m with
 |zero=>exact fun i hi hl=>⟨i,Evl.of (by rw[h128b0a,g128b0a];simp[show ¬(i:Int)<(b.size:Int) by omega]),by omega,by omega,fun h=>by omega⟩
 |succ m ih=>
  intro i hi hl
  by_cases h1:i<b.size
  ·have h1':(i:Int)<(b.size:Int):=by omega
   have hx:=fun(k:AV→Res)=>indS (d:=Res.fail) (k:=k) h1
   have hb0:=name_m (byt b i)
   cases hc:bo (q148 (cv (byt b i))) with
   |true=>
    obtain⟨j,hj⟩:∃j,j=i+1:=⟨_,rfl⟩
    have e1:=wone hj (by omega)
    obtain⟨y,f,f1,f2,f3⟩:=ih j (by omega) (by omega)
    exact⟨y,Evl.of (by rw[h128b0a,g128b0a];rw[hc]at hb0;simp[h1',hx];simp[hb0];simp[e1,f]),by omega,by omega,fun _ _=>by omega⟩
   |false=>exact⟨i,Evl.of (by rw[h128b0a,g128b0a];rw[hc]at hb0;simp[h1',hx];simp[hb0]),by omega,by omega,fun _ h=>by simp at h⟩
  ·exact⟨i,Evl.of (by rw[h128b0a,g128b0a];simp[show ¬(i:Int)<(b.size:Int) by omega]),by omega,by omega,fun h=>by omega⟩
theorem end_n(b:ByteArray)(hb:b.size≤1000000)(i:Nat)(hi:i<b.size)(hc:bo (q148 (cv (byt b i)))=true):∃j:Nat,ev (q128 (sv b) (iv i) (iv 1))=some (0,[iv j])∧i<j∧j≤b.size:=by
 obtain⟨j,g,g1,g2,g3⟩:=end_ln b hb _ i (Nat.le_refl _) (by omega)
 exact⟨j,Evl.of (by rw[h128,g128];simp[g]),g3 hi hc,g2⟩
theorem end_ld(b:ByteArray)(hb:b.size≤1000000):∀(m i:Nat),b.size-i≤m→i≤b.size→∃j:Nat,ev (q128b0a (iv i) (sv b) (iv 2))=some (0,[iv j])∧i≤j∧j≤b.size∧(i<b.size→bo (q127 (cv (byt b i)))=true→i<j):=by
 intro m
 induction m with
 |zero=>exact fun i hi hl=>⟨i,Evl.of (by rw[h128b0a,g128b0a];simp[show ¬(i:Int)<(b.size:Int) by omega]),by omega,by omega,fun h=>by omega⟩
 |succ m ih=>
  intro i hi hl
  by_cases h1:i<b.size
  ·have h1':(i:Int)<(b.size:Int):=by omega
   have hx:=fun(k:AV→Res)=>indS (d:=Res.fail) (k:=k) h1
   have hb0:=digit_m (byt b i)
   cases hc:bo (q127 (cv (byt b i))) with
   |true=>
    obtain⟨j,hj⟩:∃j,j=i+1:=⟨_,rfl⟩
    have e1:=wone hj (by omega)
    obtain⟨y,f,f1,f2,f3⟩:=ih j (by omega) (by omega)
    exact⟨y,Evl.of (by rw[h128b0a,g128b0a];rw[hc]at hb0;simp[h1',hx];simp[hb0];simp[e1,f]),by omega,by omega,fun _ _=>by omega⟩
   |false=>exact⟨i,Evl.of (by rw[h128b0a,g128b0a];rw[hc]at hb0;simp[h1',hx];simp[hb0]),by omega,by omega,fun _ h=>by simp at h⟩
  ·exact⟨i,Evl.of (by rw[h128b0a,g128b0a];simp[show ¬(i:Int)<(b.size:Int) by omega]),by omega,by omega,fun h=>by omega⟩
theorem end_d(b:ByteArray)(hb:b.size≤1000000)(i:Nat)(hi:i<b.size)(hc:bo (q127 (cv (byt b i)))=true):∃j:Nat,ev (q128 (sv b) (iv i) (iv 2))=some (0,[iv j])∧i<j∧j≤b.size:=by
 obtain⟨j,g,g1,g2,g3⟩:=end_ld b hb _ i (Nat.le_refl _) (by omega)
 exact⟨j,Evl.of (by rw[h128,g128];simp[g]),g3 hi hc,g2⟩
theorem end_ls(b:ByteArray)(hb:b.size≤1000000):∀(m i:Nat),b.size-i≤m→i≤b.size→∃j:Nat,ev (q128b0a (iv i) (sv b) (iv 3))=some (0,[iv j])∧i≤j∧j≤b.size∧(i<b.size→bo (q132 (cv (byt b i)))=true→i<j):=by
 intro m
 induction m with
 |zero=>exact fun i hi hl=>⟨i,Evl.of (by rw[h128b0a,g128b0a];simp[show ¬(i:Int)<(b.size:Int) by omega]),by omega,by omega,fun h=>by omega⟩
 |succ m ih=>
  intro i hi hl
  by_cases h1:i<b.size
  ·have h1':(i:Int)<(b.size:Int):=by omega
   have hx:=fun(k:AV→Res)=>indS (d:=Res.fail) (k:=k) h1
   have hb0:=sign_m (byt b i)
   cases hc:bo (q132 (cv (byt b i))) with
   |true=>
    obtain⟨j,hj⟩:∃j,j=i+1:=⟨_,rfl⟩
    have e1:=wone hj (by omega)
    obtain⟨y,f,f1,f2,f3⟩:=ih j (by omega) (by omega)
    exact⟨y,Evl.of (by rw[h128b0a,g128b0a];rw[hc]at hb0;simp[h1',hx];simp[hb0];simp[e1,f]),by omega,by omega,fun _ _=>by omega⟩
   |false=>exact⟨i,Evl.of (by rw[h128b0a,g128b0a];rw[hc]at hb0;simp[h1',hx];simp[hb0]),by omega,by omega,fun _ h=>by simp at h⟩
  ·exact⟨i,Evl.of (by rw[h128b0a,g128b0a];simp[show ¬(i:Int)<(b.size:Int) by omega]),by omega,by omega,fun h=>by omega⟩
theorem end_s(b:ByteArray)(hb:b.size≤1000000)(i:Nat)(hi:i<b.size)(hc:bo (q132 (cv (byt b i)))=true):∃j:Nat,ev (q128 (sv b) (iv i) (iv 3))=some (0,[iv j])∧i<j∧j≤b.size:=by
 obtain⟨j,g,g1,g2,g3⟩:=end_ls b hb _ i (Nat.le_refl _) (by omega)
 exact⟨j,Evl.of (by rw[h128,g128];simp[g]),g3 hi hc,g2⟩
@[simp] theorem wdPs_nil:wdPs []=[]:=by rw[wdPs]
@[simp] theorem wdPs_cons(p:PV)(l:List PV):wdPs (p::l)=wdP p::wdPs l:=by rw[wdPs]
@[simp] theorem wdP_int(k:IntKind)(n:Int):wdP (.lit (.int k n))=.lit (.int k n):=by rw[wdP];rfl
@[simp] theorem wdP_str(s:ByteArray):wdP (.lit (.string s))=.lit (.string s):=by rw[wdP];rfl
@[simp] theorem wdP_nil:wdP (.lit (.slice none 0 0))=.rows []:=by rw[wdP];rfl
theorem wdP_rows(es:List (List PV)):wdP (.rows es)=.rows (wdPss es):=by rw[wdP]
theorem wdPss_nil:wdPss []=[]:=by rw[wdPss]
theorem wdPss_cons(c:List PV)(l:List (List PV)):wdPss (c::l)=wdPs c::wdPss l:=by rw[wdPss]
mutual
theorem Ty.wd:∀t:Ty,wdPs t.cells=t.cells
 |.mk k s n ks=>by
  have h:=Ty.wdL ks
  rw[Ty.cells]
  simp[wdP_rows,h]
theorem Ty.wdL:∀l:List Ty,wdPss (Ty.rows l)=Ty.rows l
 |[]=>by rw[Ty.rows,wdPss]
 |v::l=>by
  have h1:=Ty.wd v
  have h2:=Ty.wdL l
  rw[Ty.rows,wdPss,h1,h2]
end
mutual
theorem Pt.wd:∀t:Pt,wdPs t.cells=t.cells
 |.mk k s n ks a=>by
  have h:=Pt.wdL ks
  rw[Pt.cells]
  simp[wdP_rows,h]
theorem Pt.wdL:∀l:List Pt,wdPss (Pt.rows l)=Pt.rows l
 |[]=>by rw[Pt.rows,wdPss]
 |v::l=>by
  have h1:=Pt.wd v
  have h2:=Pt.wdL l
  rw[Pt.rows,wdPss,h1,h2]
end
@[simp] theorem wd_tys(l:List Ty):wdP (tys l)=tys l:=by rw[tys,←Ty.rows_eq,wdP_rows,Ty.wdL]
@[simp] theorem wd_pts(l:List Pt):wdP (pts l)=pts l:=by rw[pts,←Pt.rows_eq,wdP_rows,Pt.wdL]
theorem wdPs_app(a b:List PV):wdPs (a++b)=wdPs a++wdPs b:=by rw[wdPs_eq,wdPs_eq,wdPs_eq,List.map_append]
theorem wdPss_app(a b:List (List PV)):wdPss (a++b)=wdPss a++wdPss b:=by rw[wdPss_eq,wdPss_eq,wdPss_eq,List.map_append]
mutual
theorem Ex.wd:∀t:Ex,wdPs t.cells=t.cells
 |.mk k s n t ks xs bs a=>by
  have h1:=Ex.wdL ks
  have h2:=Al.wdL xs
  have h3:=Bd.wdL bs
  rw[Ex.cells]
  simp[wdP_rows,h1,h2,h3]
theorem Al.wd:∀t:Al,wdPs t.cells=t.cells
 |.mk p e=>by
  have h:=Ex.wd e
  rw[Al.cells]
  simp[h]
theorem Bd.wd:∀t:Bd,wdPs t.cells=t.cells
 |.mk s e a=>by
  have h:=Ex.wd e
  rw[Bd.cells]
  simp[wdPs_app,h]
theorem Ex.wdL:∀l:List Ex,wdPss (Ex.rows l)=Ex.rows l
 |[]=>by rw[Ex.rows,wdPss]
 |v::l=>by
  have h1:=Ex.wd v
  have h2:=Ex.wdL l
  rw[Ex.rows,wdPss,h1,h2]
theorem Al.wdL:∀l:List Al,wdPss (Al.rows l)=Al.rows l
 |[]=>by rw[Al.rows,wdPss]
 |v::l=>by
  have h1:=Al.wd v
  have h2:=Al.wdL l
  rw[Al.rows,wdPss,h1,h2]
theorem Bd.wdL:∀l:List Bd,wdPss (Bd.rows l)=Bd.rows l
 |[]=>by rw[Bd.rows,wdPss]
 |v::l=>by
  have h1:=Bd.wd v
  have h2:=Bd.wdL l
  rw[Bd.rows,wdPss,h1,h2]
end
@[simp] theorem wd_exs(l:List Ex):wdP (exs l)=exs l:=by rw[exs,←Ex.rows_eq,wdP_rows,Ex.wdL]
@[simp] theorem wd_als(l:List Al):wdP (als l)=als l:=by rw[als,←Al.rows_eq,wdP_rows,Al.wdL]
@[simp] theorem wd_bds(l:List Bd):wdP (bds l)=bds l:=by rw[bds,←Bd.rows_eq,wdP_rows,Bd.wdL]
theorem wd_map{α:Type}{f:α→List PV}(l:List α)(h:∀x,wdPs (f x)=f x):wdP (.rows (l.map f))=.rows (l.map f):=by
 rw[wdP_rows,wdPss_eq,List.map_map]
 congr 2
 funext x
 exact h x
@[simp] theorem wd_strs(l:List ByteArray):wdP (strs l)=strs l:=wd_map l fun x=>by simp
@[simp] theorem wd_tks(l:List Tk):wdP (tks l)=tks l:=wd_map l fun x=>by simp[Tk.cells]
@[simp] theorem wd_cns(l:List Cn):wdP (cns l)=cns l:=wd_map l fun x=>by simp[Cn.cells]
@[simp] theorem wd_mds(l:List Md):wdP (mds l)=mds l:=wd_map l fun x=>by simp[Md.cells]
@[simp] theorem wd_pds(l:List Pd):wdP (pds l)=pds l:=wd_map l fun x=>by simp[Pd.cells]
@[simp] theorem wd_dts(l:List Dt):wdP (dts l)=dts l:=wd_map l fun x=>by simp[Dt.cells]
@[simp] theorem wd_cls(l:List Cl):wdP (cls l)=cls l:=wd_map l fun x=>by simp[Cl.cells]
@[simp] theorem wd_its(l:List It):wdP (its l)=its l:=wd_map l fun x=>by simp[It.cells]
structure Raw(sz:Nat)(es cs:List (List PV)):Prop where
 w:wdPss es=cs
 n:∀c∈es,c.length=sz
 ns:∀c∈es,∀p∈c,NS p
theorem Raw.nil(sz:Nat):Raw sz [] []:=⟨wdPss_nil,(fun c hc=>by cases hc),(fun c hc=>by cases hc)⟩
theorem Raw.app{sz:Nat}{es cs:List (List PV)}(h:Raw sz es cs){c c':List PV}(h1:wdPs c=c')(h2:c.length=sz)(h3:NSL c):Raw sz (es++[c]) (cs++[c']):=
 ⟨by rw[wdPss_app,h.w,wdPss_cons,wdPss_nil,h1],fun d hd=>by
  rcases List.mem_append.1 hd with hd|hd
  ·exact h.n d hd
  ·rw[List.mem_singleton.1 hd];exact h2,fun d hd p hp=>by
  rcases List.mem_append.1 hd with hd|hd
  ·exact h.ns d hd p hp
  ·rw[List.mem_singleton.1 hd]at hp;exact h3 p hp⟩
theorem Raw.one{sz:Nat}{c c':List PV}(h1:wdPs c=c')(h2:c.length=sz)(h3:NSL c):Raw sz [c] [c']:=(Raw.nil sz).app h1 h2 h3
theorem Raw.len{sz:Nat}{es cs:List (List PV)}(h:Raw sz es cs):es.length=cs.length:=by rw[←h.w,wdPss_eq,List.length_map]
theorem Raw.wd{sz:Nat}{es cs:List (List PV)}(h:Raw sz es cs):wdP (.rows es)=.rows cs:=by rw[wdP_rows,h.w]
theorem Raw.of{α:Type}{f:α→List PV}{sz:Nat}(l:List α)(h1:∀x,wdPs (f x)=f x)(h2:∀x,(f x).length=sz)(h3:∀x,NSL (f x)):Raw sz (l.map f) (l.map f):=
 ⟨by rw[wdPss_eq,List.map_map];congr 1;funext x;exact h1 x,fun c hc=>by obtain⟨x,_,rfl⟩:=List.mem_map.1 hc;exact h2 x,fun c hc p hp=>by obtain⟨x,_,rfl⟩:=List.mem_map.1 hc;exact h3 x p hp⟩
section
variable{P:Program}{d:Res}{k:PV→Res}
theorem appK_raw{t:TypeId}{sz b:Nat}(ht:SlT P t sz b){es cs:List (List PV)}(h:Raw sz es cs){c:List PV}(hc:c.length=sz)(hn:NSL c)(hl:es.length≤100000000)(hb:b≤1000) :
  appK P d t (.pv (.rows es)) (.pv (.rows [c])) k=k (.rows (es++[c])):=
 appK_of (fun w=>app_ok ht (rowsN_rows' es) rfl (by simp) (fun c' h'=>by rw[List.mem_singleton.1 h'];exact hc) (by simp;omega)
  (Nat.le_trans (Nat.mul_le_mul (by simp;omega:es.length+[c].length≤100000001) hb) (by decide)))
  (.rows _ fun c' h' p hp=>by
   rcases List.mem_append.1 h' with h'|h'
   ·exact h.ns c' h' p hp
   ·rw[List.mem_singleton.1 h']at hp;exact hn p hp)
end
def brow(l:List Int):List (List PV):=l.map fun n=>[cv n]
theorem slBy:SlT PG 194 1 1:=SlT.of (by kernel_rfl)
theorem raw_by(l:List Int):Raw 1 (brow l) (brow l):=.of l (fun x=>by simp) (fun x=>rfl) (fun x=>by simp)
theorem appK_by(l:List Int)(n:Int)(k:PV→Res)(hl:l.length≤3000000):appK PG .fail 194 (.pv (.rows (brow l))) (.pv (.rows [[cv n]])) k=k (.rows (brow (l++[n]))):=by
 rw[appK_raw (P:=PG) (d:=.fail) slBy (raw_by l) (c:=[cv n]) rfl (by simp) (by simp[brow];omega) (by decide)]
 simp[brow]
theorem convBS(l:List Int)(k:AV→Res):convK PG .fail 194 9 (.pv (.rows (brow l))) k=k (.pv (sv (strB l))):=convK_bytes uB u8 uS l
def TxG(b:ByteArray)(i:Nat)(r:Option Rs):Prop:=
 r=some (1,[])∨(∃t,∃j:Nat,r=some (0,[sv t,iv j,bv true])∧i<j∧j≤b.size)∨r=some (0,[sv eB,iv 0,bv false])
theorem TxG.mono{b:ByteArray}{i j:Nat}{r:Option Rs}(hij:i≤j)(h:TxG b j r):TxG b i r:=by
 rcases h with h|⟨t,k,h,h1,h2⟩|h
 ·exact .inl h
 ·exact .inr (.inl ⟨t,k,h,by omega,h2⟩)
 ·exact .inr (.inr h)
theorem pass_to{q q':Q}(h:body PG EE TT ev q=passK (ev q')){r:Rs}(hr:ev q'=some r):ev q=some r:=Evl.of (by rw[h,hr];rfl)
theorem TxG.pass{b:ByteArray}{i j:Nat}{q q':Q}(h:body PG EE TT ev q=passK (ev q'))(hij:i≤j)(hg:TxG b j (ev q')):TxG b i (ev q):=by
 rcases hg with hg|⟨t,k,hg,h1,h2⟩|hg
 ·exact .inl (pass_to h hg)
 ·exact .inr (.inl ⟨t,k,pass_to h hg,by omega,h2⟩)
 ·exact .inr (.inr (pass_to h hg))
theorem text_lb(b:ByteArray)(hb:b.size≤1000000):∀(m i:Nat) (l:List Int),b.size-i≤m→l.length+m≤2000000→TxG b i (ev (q126b0b (iv i) (sv b) (brow l))):=by
 intro m
 induction m with
 |zero=>
  intro i l hi hl
  exact .inl (Evl.of (by rw[h126b0b,g126b0b];simp[show ¬(i:Int)<(b.size:Int) by omega]))
 |succ m ih=>
  intro i l hi hl
  by_cases h1:i<b.size
  ·have h1':(i:Int)<(b.size:Int):=by omega
   have hx:=fun(k:AV→Res)=>indS (d:=Res.fail) (k:=k) h1
   obtain⟨j,hj⟩:∃j,j=i+1:=⟨_,rfl⟩
   have e1:=wone hj (by omega)
   by_cases h2:byt b i=34
   ·exact .inr (.inl ⟨strB l,j,Evl.of (by rw[h126b0b,g126b0b];simp[h1',hx,h2,convBS,e1]),by omega,by omega⟩)
   ·by_cases h3:byt b i=10
    ·exact .inr (.inr (Evl.of (by rw[h126b0b,g126b0b];simp[h1',hx,h3])))
    ·by_cases h4:byt b i=92
     ·by_cases h5:(j:Int)=(b.size:Int)
      ·exact .inr (.inr (Evl.of (by rw[h126b0b,g126b0b];simp[h1',hx,h4,e1,h5])))
      ·have hy:=fun(k:AV→Res)=>indS (d:=Res.fail) (k:=k) (s:=b) (i:=j) (by omega)
       obtain⟨z,hz⟩:∃z,z=j+1:=⟨_,rfl⟩
       have e2:=wone hz (by omega)
       have hi:=in_m ⟨#[110,116,34,92]⟩ (byt b j) (by decide)
       cases hc:bo (q147 (sv ⟨#[110,116,34,92]⟩) (cv (byt b j))) with
       |true=>
        rw[hc]at hi
        by_cases h6:byt b j=110
        ·refine TxG.pass (q':=q126b0b (iv z) (sv b) (brow (l++[10]))) ?_ (by omega) (ih z (l++[10]) (by omega) (by simp;omega))
         rw[h126b0b,g126b0b]
         simp[h1',hx,h4,e1,h5]
         rw[h6]at hi
         simp[hy,hi,h6,e2,appK_by l 10 _ (by omega)]
         try rfl
        ·by_cases h7:byt b j=116
         ·refine TxG.pass (q':=q126b0b (iv z) (sv b) (brow (l++[9]))) ?_ (by omega) (ih z (l++[9]) (by omega) (by simp;omega))
          rw[h126b0b,g126b0b]
          simp[h1',hx,h4,e1,h5]
          rw[h7]at hi
          simp[hy,hi,h7,e2,appK_by l 9 _ (by omega)]
          try rfl
         ·refine TxG.pass (q':=q126b0b (iv z) (sv b) (brow (l++[byt b j]))) ?_ (by omega) (ih z (l++[byt b j]) (by omega) (by simp;omega))
          rw[h126b0b,g126b0b]
          simp[h1',hx,h4,e1,h5]
          simp[hy,hi,h6,h7,e2,appK_by l (byt b j) _ (by omega)]
          try rfl
       |false=>
        rw[hc]at hi
        exact .inr (.inr (Evl.of (by rw[h126b0b,g126b0b];simp[h1',hx,h4,e1,h5];simp[hy,hi])))
     ·refine TxG.pass (q':=q126b0b (iv j) (sv b) (brow (l++[byt b i]))) ?_ (by omega) (ih j (l++[byt b i]) (by omega) (by simp;omega))
      rw[h126b0b,g126b0b]
      simp[h1',hx,h2,h3,h4,e1,appK_by l (byt b i) _ (by omega)]
      try rfl
  ·exact .inl (Evl.of (by rw[h126b0b,g126b0b];simp[show ¬(i:Int)<(b.size:Int) by omega]))
theorem text_la(b:ByteArray)(hb:b.size≤1000000):∀(m i:Nat),m≤1000001→b.size-i≤m→TxG b i (ev (q126b0a (iv i) (sv b))):=by
 intro m
 intro i hm hi
 cases m with
 |zero=>exact .inl (Evl.of (by rw[h126b0a,g126b0a];simp[show ¬(i:Int)<(b.size:Int) by omega]))
 |succ m=>
  by_cases h1:i<b.size
  ·have h1':(i:Int)<(b.size:Int):=by omega
   have hx:=fun(k:AV→Res)=>indS (d:=Res.fail) (k:=k) h1
   obtain⟨j,hj⟩:∃j,j=i+1:=⟨_,rfl⟩
   have e1:=wone hj (by omega)
   by_cases h2:byt b i=34
   ·exact .inr (.inl ⟨eB,j,Evl.of (by rw[h126b0a,g126b0a];simp[h1',hx,h2,e1]),by omega,by omega⟩)
   ·by_cases h3:byt b i=10
    ·exact .inr (.inr (Evl.of (by rw[h126b0a,g126b0a];simp[h1',hx,h3])))
    ·by_cases h4:byt b i=92
     ·by_cases h5:(j:Int)=(b.size:Int)
      ·exact .inr (.inr (Evl.of (by rw[h126b0a,g126b0a];simp[h1',hx,h4,e1,h5])))
      ·have hy:=fun(k:AV→Res)=>indS (d:=Res.fail) (k:=k) (s:=b) (i:=j) (by omega)
       obtain⟨z,hz⟩:∃z,z=j+1:=⟨_,rfl⟩
       have e2:=wone hz (by omega)
       have hi:=in_m ⟨#[110,116,34,92]⟩ (byt b j) (by decide)
       cases hc:bo (q147 (sv ⟨#[110,116,34,92]⟩) (cv (byt b j))) with
       |true=>
        rw[hc]at hi
        by_cases h6:byt b j=110
        ·refine TxG.pass (q':=q126b0b (iv z) (sv b) (brow [10])) ?_ (by omega) (text_lb b hb m z [10] (by omega) (by simp;omega))
         rw[h126b0a,g126b0a]
         simp[h1',hx,h4,e1,h5]
         rw[h6]at hi
         simp[hy,hi,h6,e2]
         try rfl
        ·by_cases h7:byt b j=116
         ·refine TxG.pass (q':=q126b0b (iv z) (sv b) (brow [9])) ?_ (by omega) (text_lb b hb m z [9] (by omega) (by simp;omega))
          rw[h126b0a,g126b0a]
          simp[h1',hx,h4,e1,h5]
          rw[h7]at hi
          simp[hy,hi,h7,e2]
          try rfl
         ·refine TxG.pass (q':=q126b0b (iv z) (sv b) (brow [byt b j])) ?_ (by omega) (text_lb b hb m z [byt b j] (by omega) (by simp;omega))
          rw[h126b0a,g126b0a]
          simp[h1',hx,h4,e1,h5]
          simp[hy,hi,h6,h7,e2]
          try rfl
       |false=>
        rw[hc]at hi
        exact .inr (.inr (Evl.of (by rw[h126b0a,g126b0a];simp[h1',hx,h4,e1,h5];simp[hy,hi])))
     ·refine TxG.pass (q':=q126b0b (iv j) (sv b) (brow [byt b i])) ?_ (by omega) (text_lb b hb m j [byt b i] (by omega) (by simp;omega))
      rw[h126b0a,g126b0a]
      simp[h1',hx,h2,h3,h4,e1]
      try rfl
  ·exact .inl (Evl.of (by rw[h126b0a,g126b0a];simp[show ¬(i:Int)<(b.size:Int) by omega]))
theorem text_ok(b:ByteArray)(hb:b.size≤1000000)(i:Nat)(hi:i<b.size):∃t,∃j:Nat,∃c:Bool,ev (q126 (sv b) (iv i))=some (0,[sv t,iv j,bv c])∧(c=true→i<j∧j≤b.size):=by
 obtain⟨k,hk⟩:∃k,k=i+1:=⟨_,rfl⟩
 have e1:=wone hk (by omega)
 rcases text_la b hb _ k (by omega) (Nat.le_refl _) with h|⟨t,j,h,h1,h2⟩|h
 ·exact⟨eB,0,false,Evl.of (by rw[h126,g126];simp[e1,h]),by simp⟩
 ·exact⟨t,j,true,Evl.of (by rw[h126,g126];simp[e1,h]),fun _=>⟨by omega,h2⟩⟩
 ·exact⟨eB,0,false,Evl.of (by rw[h126,g126];simp[e1,h]),by simp⟩
theorem rem63(n:Int)(k:AV→Res):binK PG .fail .rem 196 (.pv (wv n)) (.pv (wv 9223372036854775808)) k=k (.pv (wv (n.tmod 9223372036854775808))):=binK_rem_u64 (by decide)
theorem mod_m(n:Int):∃y:Int,ev (q156 (iv n))=some (0,[wv y]):=⟨_,Evl.of (by rw[h156,g156];simp[rem63];rfl)⟩
theorem mean_m(n:Int):∃y:Int,ev (q155 (wv n))=some (0,[iv y]):=by
 by_cases h:4611686018427387904≤n
 ·exact⟨_,Evl.of (by rw[h155,g155];simp[h];rfl)⟩
 ·exact⟨_,Evl.of (by rw[h155,g155];simp[h];rfl)⟩
theorem wrap_m(n:Int):∃y:Int,ev (q153 (iv n))=some (0,[iv y]):=by
 obtain⟨y,h1⟩:=mod_m n
 obtain⟨z,h2⟩:=mean_m y
 exact⟨z,Evl.of (by rw[h153,g153];simp[h1,h2])⟩
theorem sub_m(a n:Int):∃y:Int,ev (q152 (iv a) (iv n))=some (0,[iv y]):=by
 obtain⟨y,h1⟩:=mod_m a
 obtain⟨z,h2⟩:=mod_m n
 obtain⟨x,h3⟩:=mean_m ((IntKind.u64.wrap (IntKind.u64.wrap (y+9223372036854775808)-z)).tmod 9223372036854775808)
 exact⟨x,Evl.of (by rw[h152,g152];simp[h1];simp[h2];simp[rem63,h3])⟩
theorem signed0_m(n:Int):∃y:Int,ev (q149g0 (wv n))=some (0,[iv y]):=by
 obtain⟨y,h⟩:=sub_m 0 (IntKind.i64.wrap (n.tmod 9223372036854775808))
 exact⟨y,Evl.of (by rw[h149g0,g149g0];simp[rem63];simp[h])⟩
theorem signed1_m(n:Int):∃y:Int,ev (q149g1 (wv n))=some (0,[iv y]):=by
 obtain⟨y,h⟩:=wrap_m (IntKind.i64.wrap (n.tmod 9223372036854775808))
 exact⟨y,Evl.of (by rw[h149g1,g149g1];simp[rem63];simp[h])⟩
theorem parse_0a(s:ByteArray)(hs:s.size≤1000000):∀(m i:Nat),s.size-i≤m→ev (q129b0a (iv i) (sv s))=some (1,[iv 1,sv s,bv true])∨ev (q129b0a (iv i) (sv s))=some (0,[iv 0,iv 2]):=by
 intro m
 induction m with
 |zero=>exact fun i hi=>.inl (Evl.of (by rw[h129b0a,g129b0a];simp[show ¬(i:Int)<(s.size:Int) by omega]))
 |succ m ih=>
  intro i hi
  by_cases h1:i<s.size
  ·have h1':(i:Int)<(s.size:Int):=by omega
   have hx:=fun(k:AV→Res)=>indS (d:=Res.fail) (k:=k) h1
   obtain⟨j,hj⟩:∃j,j=i+1:=⟨_,rfl⟩
   have e1:=wone hj (by omega)
   by_cases h2:byt s i<48
   ·exact .inr (Evl.of (by rw[h129b0a,g129b0a];simp[h1',hx,h2]))
   ·by_cases h3:57<byt s i
    ·exact .inr (Evl.of (by rw[h129b0a,g129b0a];simp[h1',hx,h2,h3]))
    ·rcases ih j (by omega) with g|g
     ·exact .inl (Evl.of (by rw[h129b0a,g129b0a];simp[h1',hx,h2,h3,e1,g]))
     ·exact .inr (Evl.of (by rw[h129b0a,g129b0a];simp[h1',hx,h2,h3,e1,g]))
  ·exact .inl (Evl.of (by rw[h129b0a,g129b0a];simp[show ¬(i:Int)<(s.size:Int) by omega]))
theorem parse_2a(s:ByteArray)(hs:s.size≤1000000):∀(m i:Nat) (z:Int),s.size-i≤m→(∃y:Int,ev (q129b2a (iv i) (sv s) (wv z))=some (1,[wv y,bv true]))∨ev (q129b2a (iv i) (sv s) (wv z))=some (0,[iv 0,iv 3]):=by
 intro m
 induction m with
 |zero=>exact fun i z hi=>.inl ⟨z,Evl.of (by rw[h129b2a,g129b2a];simp[show ¬(i:Int)<(s.size:Int) by omega])⟩
 |succ m ih=>
  intro i z hi
  by_cases h1:i<s.size
  ·have h1':(i:Int)<(s.size:Int):=by omega
   have hx:=fun(k:AV→Res)=>indS (d:=Res.fail) (k:=k) h1
   obtain⟨j,hj⟩:∃j,j=i+1:=⟨_,rfl⟩
   have e1:=wone hj (by omega)
   obtain⟨w,hw⟩:∃w:Int,w=IntKind.u64.wrap (IntKind.u64.wrap (10*z)+IntKind.u64.wrap (IntKind.u8.wrap (byt s i-48))):=⟨_,rfl⟩
   by_cases h2:4611686018427387904<w
   ·exact .inr (Evl.of (by rw[h129b2a,g129b2a];simp[h1',hx,←hw,h2]))
   ·rcases ih j w (by omega) with⟨y,g⟩|g
    ·exact .inl ⟨y,Evl.of (by rw[h129b2a,g129b2a];simp[h1',hx,←hw,h2,e1,g])⟩
    ·exact .inr (Evl.of (by rw[h129b2a,g129b2a];simp[h1',hx,←hw,h2,e1,g]))
  ·exact .inl ⟨z,Evl.of (by rw[h129b2a,g129b2a];simp[show ¬(i:Int)<(s.size:Int) by omega])⟩
theorem parse_0b(s:ByteArray)(hs:s.size≤1000000):∀(m i:Nat),s.size-i≤m→ev (q129b0b (iv i) (sv s))=some (1,[iv 0,sv s,bv false])∨ev (q129b0b (iv i) (sv s))=some (0,[iv 0,iv 2]):=by
 intro m
 induction m with
 |zero=>exact fun i hi=>.inl (Evl.of (by rw[h129b0b,g129b0b];simp[show ¬(i:Int)<(s.size:Int) by omega]))
 |succ m ih=>
  intro i hi
  by_cases h1:i<s.size
  ·have h1':(i:Int)<(s.size:Int):=by omega
   have hx:=fun(k:AV→Res)=>indS (d:=Res.fail) (k:=k) h1
   obtain⟨j,hj⟩:∃j,j=i+1:=⟨_,rfl⟩
   have e1:=wone hj (by omega)
   by_cases h2:byt s i<48
   ·exact .inr (Evl.of (by rw[h129b0b,g129b0b];simp[h1',hx,h2]))
   ·by_cases h3:57<byt s i
    ·exact .inr (Evl.of (by rw[h129b0b,g129b0b];simp[h1',hx,h2,h3]))
    ·rcases ih j (by omega) with g|g
     ·exact .inl (Evl.of (by rw[h129b0b,g129b0b];simp[h1',hx,h2,h3,e1,g]))
     ·exact .inr (Evl.of (by rw[h129b0b,g129b0b];simp[h1',hx,h2,h3,e1,g]))
  ·exact .inl (Evl.of (by rw[h129b0b,g129b0b];simp[show ¬(i:Int)<(s.size:Int) by omega]))
theorem parse_2b(s:ByteArray)(hs:s.size≤1000000):∀(m i:Nat) (z:Int),s.size-i≤m→(∃y:Int,ev (q129b2b (iv i) (sv s) (wv z))=some (1,[wv y,bv false]))∨ev (q129b2b (iv i) (sv s) (wv z))=some (0,[iv 0,iv 3]):=by
 intro m
 induction m with
 |zero=>exact fun i z hi=>.inl ⟨z,Evl.of (by rw[h129b2b,g129b2b];simp[show ¬(i:Int)<(s.size:Int) by omega])⟩
 |succ m ih=>
  intro i z hi
  by_cases h1:i<s.size
  ·have h1':(i:Int)<(s.size:Int):=by omega
   have hx:=fun(k:AV→Res)=>indS (d:=Res.fail) (k:=k) h1
   obtain⟨j,hj⟩:∃j,j=i+1:=⟨_,rfl⟩
   have e1:=wone hj (by omega)
   obtain⟨w,hw⟩:∃w:Int,w=IntKind.u64.wrap (IntKind.u64.wrap (10*z)+IntKind.u64.wrap (IntKind.u8.wrap (byt s i-48))):=⟨_,rfl⟩
   by_cases h2:4611686018427387904<w
   ·exact .inr (Evl.of (by rw[h129b2b,g129b2b];simp[h1',hx,←hw,h2]))
   ·rcases ih j w (by omega) with⟨y,g⟩|g
    ·exact .inl ⟨y,Evl.of (by rw[h129b2b,g129b2b];simp[h1',hx,←hw,h2,e1,g])⟩
    ·exact .inr (Evl.of (by rw[h129b2b,g129b2b];simp[h1',hx,←hw,h2,e1,g]))
  ·exact .inl ⟨z,Evl.of (by rw[h129b2b,g129b2b];simp[show ¬(i:Int)<(s.size:Int) by omega])⟩
theorem parse_ok(s:ByteArray)(hs:s.size≤1000000):∃v e:Int,ev (q129 (sv s))=some (0,[iv v,iv e]):=by
 by_cases h0:s.size=0
 ·exact⟨0,2,Evl.of (by rw[h129,g129];simp[h0])⟩
 ·have h1:0<(s.size:Int):=by omega
  have h1n:0<s.size:=by omega
  have h1a:¬(0:Int)=(s.size:Int):=by omega
  have hx:∀(k:AV→Res),indK PG .fail 9 (.pv (sv s)) (.pv (iv 0)) k=k (.pv (cv (byt s 0))):=fun k=>indS (d:=Res.fail) (k:=k) (s:=s) (i:=0) (by omega)
  by_cases h2:byt s 0=45
  ·by_cases h3:(1:Int)=(s.size:Int)
   ·exact⟨0,2,Evl.of (by rw[h129,g129];simp[h1,h1n,hx,h2,←h3])⟩
   ·have hy:∀(k:AV→Res),indK PG .fail 9 (.pv (sv s)) (.pv (iv 1)) k=k (.pv (cv (byt s 1))):=fun k=>indS (d:=Res.fail) (k:=k) (s:=s) (i:=1) (by omega)
    by_cases h4:byt s 1=48
    ·by_cases h5:2<s.size
     ·exact⟨0,2,Evl.of (by rw[h129,g129];simp[h1,h1n,hx,h2,h3,hy,h4,h5])⟩
     ·exact⟨0,2,Evl.of (by rw[h129,g129];simp[h1,h1n,hx,h2,h3,hy,h4,h5])⟩
    ·skip
     rcases parse_0a s hs _ 1 (Nat.le_refl _) with g|g
     ·have g:ev (q129b0a (iv 1) (sv s))=_:=g
      rcases parse_2a s hs _ 1 0 (Nat.le_refl _) with⟨y,f⟩|f
      ·have f:ev (q129b2a (iv 1) (sv s) (wv 0))=_:=f
       obtain⟨v,hv⟩:=signed0_m y
       by_cases h9:y=4611686018427387904
       ·exact⟨v,0,Evl.of (by rw[h129,g129];rw[h9]at hv f;simp[h1,h1n,hx,h2,h3,hy,h4];simp[g];simp[f,hv])⟩
       ·exact⟨v,0,Evl.of (by rw[h129,g129];simp[h1,h1n,hx,h2,h3,hy,h4];simp[g];simp[f,h9,hv])⟩
      ·have f:ev (q129b2a (iv 1) (sv s) (wv 0))=_:=f
       exact⟨0,3,Evl.of (by rw[h129,g129];simp[h1,h1n,hx,h2,h3,hy,h4];simp[g];simp[f])⟩
     ·have g:ev (q129b0a (iv 1) (sv s))=_:=g
      exact⟨0,2,Evl.of (by rw[h129,g129];simp[h1,h1n,hx,h2,h3,hy,h4];simp[g])⟩
  ·by_cases h3:byt s 0=48
   ·by_cases h4:(1:Int)<(s.size:Int)
    ·exact⟨0,2,Evl.of (by rw[h129,g129];simp[h1,h1n,h1a,hx,h2,h3,h4])⟩
    ·skip
     rcases parse_0b s hs _ 0 (Nat.le_refl _) with g|g
     ·have g:ev (q129b0b (iv 0) (sv s))=_:=g
      rcases parse_2b s hs _ 0 0 (Nat.le_refl _) with⟨y,f⟩|f
      ·have f:ev (q129b2b (iv 0) (sv s) (wv 0))=_:=f
       obtain⟨v,hv⟩:=signed1_m y
       by_cases h9:y=4611686018427387904
       ·exact⟨0,3,Evl.of (by rw[h129,g129];rw[h9]at f;simp[h1,h1n,h1a,hx,h2,h3,h4];simp[g];simp[f])⟩
       ·exact⟨v,0,Evl.of (by rw[h129,g129];simp[h1,h1n,h1a,hx,h2,h3,h4];simp[g];simp[f,h9,hv])⟩
      ·have f:ev (q129b2b (iv 0) (sv s) (wv 0))=_:=f
       exact⟨0,3,Evl.of (by rw[h129,g129];simp[h1,h1n,h1a,hx,h2,h3,h4];simp[g];simp[f])⟩
     ·have g:ev (q129b0b (iv 0) (sv s))=_:=g
      exact⟨0,2,Evl.of (by rw[h129,g129];simp[h1,h1n,h1a,hx,h2,h3,h4];simp[g])⟩
   ·skip
    rcases parse_0b s hs _ 0 (Nat.le_refl _) with g|g
    ·have g:ev (q129b0b (iv 0) (sv s))=_:=g
     rcases parse_2b s hs _ 0 0 (Nat.le_refl _) with⟨y,f⟩|f
     ·have f:ev (q129b2b (iv 0) (sv s) (wv 0))=_:=f
      obtain⟨v,hv⟩:=signed1_m y
      by_cases h9:y=4611686018427387904
      ·exact⟨0,3,Evl.of (by rw[h129,g129];rw[h9]at f;simp[h1,h1n,h1a,hx,h2,h3];simp[g];simp[f])⟩
      ·exact⟨v,0,Evl.of (by rw[h129,g129];simp[h1,h1n,h1a,hx,h2,h3];simp[g];simp[f,h9,hv])⟩
     ·have f:ev (q129b2b (iv 0) (sv s) (wv 0))=_:=f
      exact⟨0,3,Evl.of (by rw[h129,g129];simp[h1,h1n,h1a,hx,h2,h3];simp[g];simp[f])⟩
    ·have g:ev (q129b0b (iv 0) (sv s))=_:=g
     exact⟨0,2,Evl.of (by rw[h129,g129];simp[h1,h1n,h1a,hx,h2,h3];simp[g])⟩
end Go.Proofs.YtjpjcjnacnlhdaaGreat.X
