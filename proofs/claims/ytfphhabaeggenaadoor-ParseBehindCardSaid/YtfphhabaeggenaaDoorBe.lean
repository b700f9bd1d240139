/- Joined texts. -/
import Derived.Test.YtfphhabaeggenaaDoorBc
import Derived.Test.YtfphhabaeggenaaDoorProg
import Derived.KernelRfl
import Derived.Test.YtfphhabaeggenaaDoorBm
import Derived.Test.YtfphhabaeggenaaDoorBy
set_option linter.all false
namespace Go.Proofs.YtfphhabaeggenaaDoor
open Go.RowKit
inductive Ty where
 |mk (kind:Int) (name:ByteArray) (n:Int) (kids:List Ty)
inductive Pt where
 |mk (kind:Int) (name:ByteArray) (n:Int) (kids:List Pt) (at_:Int)
mutual
inductive Ex where
 |mk (kind:Int) (name:ByteArray) (n:Int) (t:Ty) (kids:List Ex) (alts:List Al) (binds:List Bd) (at_:Int)
inductive Al where
 |mk (p:Pt) (e:Ex)
inductive Bd where
 |mk (name:ByteArray) (e:Ex) (at_:Int)
end
def Ty.kind:Ty→Int | .mk k _ _ _=>k
def Ty.name:Ty→ByteArray | .mk _ s _ _=>s
def Ty.n:Ty→Int | .mk _ _ n _=>n
def Ty.kids:Ty→List Ty | .mk _ _ _ ks=>ks
def Pt.kind:Pt→Int | .mk k _ _ _ _=>k
def Pt.name:Pt→ByteArray | .mk _ s _ _ _=>s
def Pt.n:Pt→Int | .mk _ _ n _ _=>n
def Pt.kids:Pt→List Pt | .mk _ _ _ ks _=>ks
def Pt.at_:Pt→Int | .mk _ _ _ _ a=>a
def Ex.kind:Ex→Int | .mk k _ _ _ _ _ _ _=>k
def Ex.name:Ex→ByteArray | .mk _ s _ _ _ _ _ _=>s
def Ex.n:Ex→Int | .mk _ _ n _ _ _ _ _=>n
def Ex.t:Ex→Ty | .mk _ _ _ t _ _ _ _=>t
def Ex.kids:Ex→List Ex | .mk _ _ _ _ ks _ _ _=>ks
def Ex.alts:Ex→List Al | .mk _ _ _ _ _ l _ _=>l
def Ex.binds:Ex→List Bd | .mk _ _ _ _ _ _ l _=>l
def Ex.at_:Ex→Int | .mk _ _ _ _ _ _ _ a=>a
def Al.p:Al→Pt | .mk p _=>p
def Al.e:Al→Ex | .mk _ e=>e
def Bd.name:Bd→ByteArray | .mk s _ _=>s
def Bd.e:Bd→Ex | .mk _ e _=>e
def Bd.at_:Bd→Int | .mk _ _ a=>a
structure Cn where
 name:ByteArray
 args:List Ty
 at_:Int
structure Dt where
 name:ByteArray
 params:List ByteArray
 cons:List Cn
 deriv:List ByteArray
 at_:Int
structure Md where
 name:ByteArray
 t:Ty
 at_:Int
structure Cl where
 name:ByteArray
 var:ByteArray
 supers:List ByteArray
 methods:List Md
 defaults:List Bd
 at_:Int
structure Pd where
 cls:ByteArray
 t:Ty
structure It where
 cls:ByteArray
 head:Ty
 ctx:List Pd
 binds:List Bd
 at_:Int
mutual
def Ty.cells:Ty→List PV
 |.mk k s n ks=>[iv k,sv s,iv n,.rows (Ty.rows ks)]
def Ty.rows:List Ty→List (List PV)
 |[]=>[]
 |v::l=>v.cells::Ty.rows l
end
mutual
def Pt.cells:Pt→List PV
 |.mk k s n ks a=>[iv k,sv s,iv n,.rows (Pt.rows ks),iv a]
def Pt.rows:List Pt→List (List PV)
 |[]=>[]
 |v::l=>v.cells::Pt.rows l
end
theorem Ty.rows_eq:∀l,Ty.rows l=l.map Ty.cells
 |[]=>by rw[Ty.rows];rfl
 |v::l=>by rw[Ty.rows,Ty.rows_eq l];rfl
theorem Pt.rows_eq:∀l,Pt.rows l=l.map Pt.cells
 |[]=>by rw[Pt.rows];rfl
 |v::l=>by rw[Pt.rows,Pt.rows_eq l];rfl
def tys(l:List Ty):PV:=.rows (l.map Ty.cells)
def pts(l:List Pt):PV:=.rows (l.map Pt.cells)
def strs(l:List ByteArray):PV:=.rows (l.map fun s=>[sv s])
theorem Ty.cells_eq(t:Ty):t.cells=[iv t.kind,sv t.name,iv t.n,tys t.kids]:=by cases t;rw[Ty.cells,Ty.rows_eq];rfl
theorem Pt.cells_eq(p:Pt):p.cells=[iv p.kind,sv p.name,iv p.n,pts p.kids,iv p.at_]:=by cases p;rw[Pt.cells,Pt.rows_eq];rfl
mutual
def Ex.cells:Ex→List PV
 |.mk k s n t ks xs bs a=>[iv k,sv s,iv n,iv t.kind,sv t.name,iv t.n,tys t.kids,.rows (Ex.rows ks),.rows (Al.rows xs),.rows (Bd.rows bs),iv a]
def Al.cells:Al→List PV
 |.mk p e=>iv p.kind::sv p.name::iv p.n::pts p.kids::iv p.at_::e.cells
def Bd.cells:Bd→List PV
 |.mk s e a=>sv s::(e.cells++[iv a])
def Ex.rows:List Ex→List (List PV)
 |[]=>[]
 |v::l=>v.cells::Ex.rows l
def Al.rows:List Al→List (List PV)
 |[]=>[]
 |v::l=>v.cells::Al.rows l
def Bd.rows:List Bd→List (List PV)
 |[]=>[]
 |v::l=>v.cells::Bd.rows l
end
theorem Ex.rows_eq:∀l,Ex.rows l=l.map Ex.cells
 |[]=>by rw[Ex.rows];rfl
 |v::l=>by rw[Ex.rows,Ex.rows_eq l];rfl
theorem Al.rows_eq:∀l,Al.rows l=l.map Al.cells
 |[]=>by rw[Al.rows];rfl
 |v::l=>by rw[Al.rows,Al.rows_eq l];rfl
theorem Bd.rows_eq:∀l,Bd.rows l=l.map Bd.cells
 |[]=>by rw[Bd.rows];rfl
 |v::l=>by rw[Bd.rows,Bd.rows_eq l];rfl
def exs(l:List Ex):PV:=.rows (l.map Ex.cells)
def als(l:List Al):PV:=.rows (l.map Al.cells)
def bds(l:List Bd):PV:=.rows (l.map Bd.cells)
theorem Ex.cells_eq(e:Ex):e.cells=[iv e.kind,sv e.name,iv e.n,iv e.t.kind,sv e.t.name,iv e.t.n,tys e.t.kids,exs e.kids,als e.alts,bds e.binds,iv e.at_]:=by cases e;rw[Ex.cells,Ex.rows_eq,Al.rows_eq,Bd.rows_eq];rfl
theorem Al.cells_eq(x:Al):x.cells=[iv x.p.kind,sv x.p.name,iv x.p.n,pts x.p.kids,iv x.p.at_,iv x.e.kind,sv x.e.name,iv x.e.n,iv x.e.t.kind,sv x.e.t.name,iv x.e.t.n,tys x.e.t.kids,exs x.e.kids,als x.e.alts,bds x.e.binds,iv x.e.at_]:=by cases x;rw[Al.cells,Ex.cells_eq];rfl
theorem Bd.cells_eq(x:Bd):x.cells=[sv x.name,iv x.e.kind,sv x.e.name,iv x.e.n,iv x.e.t.kind,sv x.e.t.name,iv x.e.t.n,tys x.e.t.kids,exs x.e.kids,als x.e.alts,bds x.e.binds,iv x.e.at_,iv x.at_]:=by cases x;rw[Bd.cells,Ex.cells_eq];rfl
def Cn.cells(x:Cn):List PV:=[sv x.name,tys x.args,iv x.at_]
def cns(l:List Cn):PV:=.rows (l.map Cn.cells)
def Dt.cells(x:Dt):List PV:=[sv x.name,strs x.params,cns x.cons,strs x.deriv,iv x.at_]
def dts(l:List Dt):PV:=.rows (l.map Dt.cells)
def Md.cells(x:Md):List PV:=[sv x.name,iv x.t.kind,sv x.t.name,iv x.t.n,tys x.t.kids,iv x.at_]
def mds(l:List Md):PV:=.rows (l.map Md.cells)
def Cl.cells(x:Cl):List PV:=[sv x.name,sv x.var,strs x.supers,mds x.methods,bds x.defaults,iv x.at_]
def cls(l:List Cl):PV:=.rows (l.map Cl.cells)
def Pd.cells(x:Pd):List PV:=[sv x.cls,iv x.t.kind,sv x.t.name,iv x.t.n,tys x.t.kids]
def pds(l:List Pd):PV:=.rows (l.map Pd.cells)
def It.cells(x:It):List PV:=[sv x.cls,iv x.head.kind,sv x.head.name,iv x.head.n,tys x.head.kids,pds x.ctx,bds x.binds,iv x.at_]
def its(l:List It):PV:=.rows (l.map It.cells)
mutual
theorem Ty.ns:∀(v:Ty),∀p∈v.cells,NS p
 |.mk k s n ks,p,hp=>by
  have:=Ty.nsL ks
  rw[Ty.cells] at hp
  simp only[List.mem_cons,List.not_mem_nil,or_false] at hp
  rcases hp with rfl|rfl|rfl|rfl
  ·exact .lit _
  ·exact .lit _
  ·exact .lit _
  ·exact .rows _ this
theorem Ty.nsL:∀(l:List Ty),∀c∈Ty.rows l,∀p∈c,NS p
 |[],c,hc,_,_=>by simp[Ty.rows] at hc
 |v::l,c,hc,p,hp=>by
  have h1:=Ty.ns v
  have h2:=Ty.nsL l
  rw[Ty.rows,List.mem_cons] at hc
  rcases hc with rfl|hc
  ·exact h1 p hp
  ·exact h2 c hc p hp
end
mutual
theorem Pt.ns:∀(v:Pt),∀p∈v.cells,NS p
 |.mk k s n ks a,p,hp=>by
  have:=Pt.nsL ks
  rw[Pt.cells] at hp
  simp only[List.mem_cons,List.not_mem_nil,or_false] at hp
  rcases hp with rfl|rfl|rfl|rfl|rfl
  ·exact .lit _
  ·exact .lit _
  ·exact .lit _
  ·exact .rows _ this
  ·exact .lit _
theorem Pt.nsL:∀(l:List Pt),∀c∈Pt.rows l,∀p∈c,NS p
 |[],c,hc,_,_=>by simp[Pt.rows] at hc
 |v::l,c,hc,p,hp=>by
  have h1:=Pt.ns v
  have h2:=Pt.nsL l
  rw[Pt.rows,List.mem_cons] at hc
  rcases hc with rfl|hc
  ·exact h1 p hp
  ·exact h2 c hc p hp
end
@[simp] theorem ns_tys(l:List Ty):NS (tys l):=by rw[tys,←Ty.rows_eq];exact .rows _ (Ty.nsL l)
@[simp] theorem ns_pts(l:List Pt):NS (pts l):=by rw[pts,←Pt.rows_eq];exact .rows _ (Pt.nsL l)
theorem ns_rows{α:Type}{f:α→List PV}{l:List α}(h:∀x∈l,∀p∈f x,NS p):NS (.rows (l.map f)):=.rows _ fun c hc p hp=>by
 obtain⟨x,hx,rfl⟩:=List.mem_map.1 hc
 exact h x hx p hp
@[simp] theorem ns_strs(l:List ByteArray):NS (strs l):=ns_rows fun x _ p hp=>by simp at hp;subst hp;exact .lit _
mutual
theorem Ex.ns:∀(v:Ex),∀p∈v.cells,NS p
 |.mk k s n t ks xs bs a,p,hp=>by
  have h1:=Ex.nsL ks
  have h2:=Al.nsL xs
  have h3:=Bd.nsL bs
  rw[Ex.cells] at hp
  simp only[List.mem_cons,List.not_mem_nil,or_false] at hp
  rcases hp with rfl|rfl|rfl|rfl|rfl|rfl|rfl|rfl|rfl|rfl|rfl
  ·exact .lit _
  ·exact .lit _
  ·exact .lit _
  ·exact .lit _
  ·exact .lit _
  ·exact .lit _
  ·exact ns_tys _
  ·exact .rows _ h1
  ·exact .rows _ h2
  ·exact .rows _ h3
  ·exact .lit _
theorem Al.ns:∀(v:Al),∀p∈v.cells,NS p
 |.mk q e,p,hp=>by
  have h1:=Ex.ns e
  rw[Al.cells] at hp
  simp only[List.mem_cons] at hp
  rcases hp with rfl|rfl|rfl|rfl|rfl|hp
  ·exact .lit _
  ·exact .lit _
  ·exact .lit _
  ·exact ns_pts _
  ·exact .lit _
  ·exact h1 p hp
theorem Bd.ns:∀(v:Bd),∀p∈v.cells,NS p
 |.mk s e a,p,hp=>by
  have h1:=Ex.ns e
  rw[Bd.cells] at hp
  simp only[List.mem_cons,List.mem_append,List.not_mem_nil,or_false] at hp
  rcases hp with rfl|hp|rfl
  ·exact .lit _
  ·exact h1 p hp
  ·exact .lit _
theorem Ex.nsL:∀(l:List Ex),∀c∈Ex.rows l,∀p∈c,NS p
 |[],c,hc,_,_=>by simp[Ex.rows] at hc
 |v::l,c,hc,p,hp=>by
  have h1:=Ex.ns v
  have h2:=Ex.nsL l
  rw[Ex.rows,List.mem_cons] at hc
  rcases hc with rfl|hc
  ·exact h1 p hp
  ·exact h2 c hc p hp
theorem Al.nsL:∀(l:List Al),∀c∈Al.rows l,∀p∈c,NS p
 |[],c,hc,_,_=>by simp[Al.rows] at hc
 |v::l,c,hc,p,hp=>by
  have h1:=Al.ns v
  have h2:=Al.nsL l
  rw[Al.rows,List.mem_cons] at hc
  rcases hc with rfl|hc
  ·exact h1 p hp
  ·exact h2 c hc p hp
theorem Bd.nsL:∀(l:List Bd),∀c∈Bd.rows l,∀p∈c,NS p
 |[],c,hc,_,_=>by simp[Bd.rows] at hc
 |v::l,c,hc,p,hp=>by
  have h1:=Bd.ns v
  have h2:=Bd.nsL l
  rw[Bd.rows,List.mem_cons] at hc
  rcases hc with rfl|hc
  ·exact h1 p hp
  ·exact h2 c hc p hp
end
@[simp] theorem ns_exs(l:List Ex):NS (exs l):=by rw[exs,←Ex.rows_eq];exact .rows _ (Ex.nsL l)
@[simp] theorem ns_als(l:List Al):NS (als l):=by rw[als,←Al.rows_eq];exact .rows _ (Al.nsL l)
@[simp] theorem ns_bds(l:List Bd):NS (bds l):=by rw[bds,←Bd.rows_eq];exact .rows _ (Bd.nsL l)
@[simp] theorem ns_cns(l:List Cn):NS (cns l):=ns_rows fun x _ p hp=>by
 simp only[Cn.cells,List.mem_cons,List.not_mem_nil,or_false] at hp
 rcases hp with rfl|rfl|rfl<;>simp
@[simp] theorem ns_dts(l:List Dt):NS (dts l):=ns_rows fun x _ p hp=>by
 simp only[Dt.cells,List.mem_cons,List.not_mem_nil,or_false] at hp
 rcases hp with rfl|rfl|rfl|rfl|rfl<;>simp
@[simp] theorem ns_mds(l:List Md):NS (mds l):=ns_rows fun x _ p hp=>by
 simp only[Md.cells,List.mem_cons,List.not_mem_nil,or_false] at hp
 rcases hp with rfl|rfl|rfl|rfl|rfl|rfl<;>simp
@[simp] theorem ns_cls(l:List Cl):NS (cls l):=ns_rows fun x _ p hp=>by
 simp only[Cl.cells,List.mem_cons,List.not_mem_nil,or_false] at hp
 rcases hp with rfl|rfl|rfl|rfl|rfl|rfl<;>simp
@[simp] theorem ns_pds(l:List Pd):NS (pds l):=ns_rows fun x _ p hp=>by
 simp only[Pd.cells,List.mem_cons,List.not_mem_nil,or_false] at hp
 rcases hp with rfl|rfl|rfl|rfl|rfl<;>simp
@[simp] theorem ns_its(l:List It):NS (its l):=ns_rows fun x _ p hp=>by
 simp only[It.cells,List.mem_cons,List.not_mem_nil,or_false] at hp
 rcases hp with rfl|rfl|rfl|rfl|rfl|rfl|rfl|rfl<;>simp
theorem sl_strs:SlT Tryd.prog 23 1 16:=SlT.of (by kernel_rfl)
@[simp] theorem len_strs{r:AV}(l:List ByteArray):LenOk Tryd.prog 23 (.pv (strs l)) r↔r=.pv (iv l.length):=by rw[strs,len_ok sl_strs,List.length_map]
theorem idx_strs{r:AV}{l:List ByteArray}{i:Nat}{x:ByteArray}(h:l[i]? = some x):IdxOk Tryd.prog 23 (.pv (strs l)) (.pv (.lit (.int .i64 (i:Int)))) r↔r=.cptr [sv x]:=by
 rw[strs];exact idx_ok sl_strs (by rw[List.getElem?_map,h];rfl) rfl
theorem sl_tys:SlT Tryd.prog 25 4 56:=SlT.of (by kernel_rfl)
@[simp] theorem len_tys{r:AV}(l:List Ty):LenOk Tryd.prog 25 (.pv (tys l)) r↔r=.pv (iv l.length):=by rw[tys,len_ok sl_tys,List.length_map]
theorem idx_tys{r:AV}{l:List Ty}{i:Nat}{x:Ty}(h:l[i]? = some x):IdxOk Tryd.prog 25 (.pv (tys l)) (.pv (.lit (.int .i64 (i:Int)))) r↔r=.cptr [iv x.kind,sv x.name,iv x.n,tys x.kids]:=by
 rw[tys];exact idx_ok sl_tys (by rw[List.getElem?_map,h,Option.map_some,Ty.cells_eq]) rfl
theorem sl_pts:SlT Tryd.prog 71 5 64:=SlT.of (by kernel_rfl)
@[simp] theorem len_pts{r:AV}(l:List Pt):LenOk Tryd.prog 71 (.pv (pts l)) r↔r=.pv (iv l.length):=by rw[pts,len_ok sl_pts,List.length_map]
theorem idx_pts{r:AV}{l:List Pt}{i:Nat}{x:Pt}(h:l[i]? = some x):IdxOk Tryd.prog 71 (.pv (pts l)) (.pv (.lit (.int .i64 (i:Int)))) r↔r=.cptr [iv x.kind,sv x.name,iv x.n,pts x.kids,iv x.at_]:=by
 rw[pts];exact idx_ok sl_pts (by rw[List.getElem?_map,h,Option.map_some,Pt.cells_eq]) rfl
theorem sl_exs:SlT Tryd.prog 28 11 168:=SlT.of (by kernel_rfl)
@[simp] theorem len_exs{r:AV}(l:List Ex):LenOk Tryd.prog 28 (.pv (exs l)) r↔r=.pv (iv l.length):=by rw[exs,len_ok sl_exs,List.length_map]
theorem idx_exs{r:AV}{l:List Ex}{i:Nat}{x:Ex}(h:l[i]? = some x):IdxOk Tryd.prog 28 (.pv (exs l)) (.pv (.lit (.int .i64 (i:Int)))) r↔r=.cptr [iv x.kind,sv x.name,iv x.n,iv x.t.kind,sv x.t.name,iv x.t.n,tys x.t.kids,exs x.kids,als x.alts,bds x.binds,iv x.at_]:=by
 rw[exs];exact idx_ok sl_exs (by rw[List.getElem?_map,h,Option.map_some,Ex.cells_eq]) rfl
theorem sl_als:SlT Tryd.prog 29 16 232:=SlT.of (by kernel_rfl)
@[simp] theorem len_als{r:AV}(l:List Al):LenOk Tryd.prog 29 (.pv (als l)) r↔r=.pv (iv l.length):=by rw[als,len_ok sl_als,List.length_map]
theorem idx_als{r:AV}{l:List Al}{i:Nat}{x:Al}(h:l[i]? = some x):IdxOk Tryd.prog 29 (.pv (als l)) (.pv (.lit (.int .i64 (i:Int)))) r↔r=.cptr [iv x.p.kind,sv x.p.name,iv x.p.n,pts x.p.kids,iv x.p.at_,iv x.e.kind,sv x.e.name,iv x.e.n,iv x.e.t.kind,sv x.e.t.name,iv x.e.t.n,tys x.e.t.kids,exs x.e.kids,als x.e.alts,bds x.e.binds,iv x.e.at_]:=by
 rw[als];exact idx_ok sl_als (by rw[List.getElem?_map,h,Option.map_some,Al.cells_eq]) rfl
theorem sl_bds:SlT Tryd.prog 30 13 192:=SlT.of (by kernel_rfl)
@[simp] theorem len_bds{r:AV}(l:List Bd):LenOk Tryd.prog 30 (.pv (bds l)) r↔r=.pv (iv l.length):=by rw[bds,len_ok sl_bds,List.length_map]
theorem idx_bds{r:AV}{l:List Bd}{i:Nat}{x:Bd}(h:l[i]? = some x):IdxOk Tryd.prog 30 (.pv (bds l)) (.pv (.lit (.int .i64 (i:Int)))) r↔r=.cptr [sv x.name,iv x.e.kind,sv x.e.name,iv x.e.n,iv x.e.t.kind,sv x.e.t.name,iv x.e.t.n,tys x.e.t.kids,exs x.e.kids,als x.e.alts,bds x.e.binds,iv x.e.at_,iv x.at_]:=by
 rw[bds];exact idx_ok sl_bds (by rw[List.getElem?_map,h,Option.map_some,Bd.cells_eq]) rfl
theorem sl_cns:SlT Tryd.prog 57 3 48:=SlT.of (by kernel_rfl)
@[simp] theorem len_cns{r:AV}(l:List Cn):LenOk Tryd.prog 57 (.pv (cns l)) r↔r=.pv (iv l.length):=by rw[cns,len_ok sl_cns,List.length_map]
theorem idx_cns{r:AV}{l:List Cn}{i:Nat}{x:Cn}(h:l[i]? = some x):IdxOk Tryd.prog 57 (.pv (cns l)) (.pv (.lit (.int .i64 (i:Int)))) r↔r=.cptr [sv x.name,tys x.args,iv x.at_]:=by
 rw[cns];exact idx_ok sl_cns (by rw[List.getElem?_map,h,Option.map_some,Cn.cells]) rfl
theorem sl_dts:SlT Tryd.prog 39 5 96:=SlT.of (by kernel_rfl)
@[simp] theorem len_dts{r:AV}(l:List Dt):LenOk Tryd.prog 39 (.pv (dts l)) r↔r=.pv (iv l.length):=by rw[dts,len_ok sl_dts,List.length_map]
theorem idx_dts{r:AV}{l:List Dt}{i:Nat}{x:Dt}(h:l[i]? = some x):IdxOk Tryd.prog 39 (.pv (dts l)) (.pv (.lit (.int .i64 (i:Int)))) r↔r=.cptr [sv x.name,strs x.params,cns x.cons,strs x.deriv,iv x.at_]:=by
 rw[dts];exact idx_ok sl_dts (by rw[List.getElem?_map,h,Option.map_some,Dt.cells]) rfl
theorem sl_mds:SlT Tryd.prog 61 6 80:=SlT.of (by kernel_rfl)
@[simp] theorem len_mds{r:AV}(l:List Md):LenOk Tryd.prog 61 (.pv (mds l)) r↔r=.pv (iv l.length):=by rw[mds,len_ok sl_mds,List.length_map]
theorem idx_mds{r:AV}{l:List Md}{i:Nat}{x:Md}(h:l[i]? = some x):IdxOk Tryd.prog 61 (.pv (mds l)) (.pv (.lit (.int .i64 (i:Int)))) r↔r=.cptr [sv x.name,iv x.t.kind,sv x.t.name,iv x.t.n,tys x.t.kids,iv x.at_]:=by
 rw[mds];exact idx_ok sl_mds (by rw[List.getElem?_map,h,Option.map_some,Md.cells]) rfl
theorem sl_cls:SlT Tryd.prog 40 6 112:=SlT.of (by kernel_rfl)
@[simp] theorem len_cls{r:AV}(l:List Cl):LenOk Tryd.prog 40 (.pv (cls l)) r↔r=.pv (iv l.length):=by rw[cls,len_ok sl_cls,List.length_map]
theorem idx_cls{r:AV}{l:List Cl}{i:Nat}{x:Cl}(h:l[i]? = some x):IdxOk Tryd.prog 40 (.pv (cls l)) (.pv (.lit (.int .i64 (i:Int)))) r↔r=.cptr [sv x.name,sv x.var,strs x.supers,mds x.methods,bds x.defaults,iv x.at_]:=by
 rw[cls];exact idx_ok sl_cls (by rw[List.getElem?_map,h,Option.map_some,Cl.cells]) rfl
theorem sl_pds:SlT Tryd.prog 65 5 72:=SlT.of (by kernel_rfl)
@[simp] theorem len_pds{r:AV}(l:List Pd):LenOk Tryd.prog 65 (.pv (pds l)) r↔r=.pv (iv l.length):=by rw[pds,len_ok sl_pds,List.length_map]
theorem idx_pds{r:AV}{l:List Pd}{i:Nat}{x:Pd}(h:l[i]? = some x):IdxOk Tryd.prog 65 (.pv (pds l)) (.pv (.lit (.int .i64 (i:Int)))) r↔r=.cptr [sv x.cls,iv x.t.kind,sv x.t.name,iv x.t.n,tys x.t.kids]:=by
 rw[pds];exact idx_ok sl_pds (by rw[List.getElem?_map,h,Option.map_some,Pd.cells]) rfl
theorem sl_its:SlT Tryd.prog 41 8 128:=SlT.of (by kernel_rfl)
@[simp] theorem len_its{r:AV}(l:List It):LenOk Tryd.prog 41 (.pv (its l)) r↔r=.pv (iv l.length):=by rw[its,len_ok sl_its,List.length_map]
theorem idx_its{r:AV}{l:List It}{i:Nat}{x:It}(h:l[i]? = some x):IdxOk Tryd.prog 41 (.pv (its l)) (.pv (.lit (.int .i64 (i:Int)))) r↔r=.cptr [sv x.cls,iv x.head.kind,sv x.head.name,iv x.head.n,tys x.head.kids,pds x.ctx,bds x.binds,iv x.at_]:=by
 rw[its];exact idx_ok sl_its (by rw[List.getElem?_map,h,Option.map_some,It.cells]) rfl
structure Ev where
 datas:List Dt
 classes:List Cl
 insts:List It
structure Pg extends Ev where
 binds:List Bd
def maxN:Nat:=9223372036854775807
section
variable{β:Type}{d:β}{k:AV→β}
theorem nsa_c{l:List PV}(h:NSL l):NSA (.cptr l):=.cptr _ h
theorem lenK_strs(l:List ByteArray):lenK Tryd.prog d 23 (.pv (strs l)) k=k (.pv (iv l.length)):=lenK_of (fun _=>len_strs l) (nsa_lit _)
theorem idxK_strs{l:List ByteArray}{i:Nat}{x:ByteArray}(h:l[i]? = some x):idxK Tryd.prog d 23 (.pv (strs l)) (.pv (.lit (.int .i64 (i:Int)))) k=k (.cptr [sv x]):=idxK_of (fun _=>idx_strs h) (nsa_c (by simp[NSL_cons,NSL_nil]))
theorem lenK_tys(l:List Ty):lenK Tryd.prog d 25 (.pv (tys l)) k=k (.pv (iv l.length)):=lenK_of (fun _=>len_tys l) (nsa_lit _)
theorem idxK_tys{l:List Ty}{i:Nat}{x:Ty}(h:l[i]? = some x):idxK Tryd.prog d 25 (.pv (tys l)) (.pv (.lit (.int .i64 (i:Int)))) k=k (.cptr [iv x.kind,sv x.name,iv x.n,tys x.kids]):=idxK_of (fun _=>idx_tys h) (nsa_c (by simp[NSL_cons,NSL_nil]))
theorem lenK_pts(l:List Pt):lenK Tryd.prog d 71 (.pv (pts l)) k=k (.pv (iv l.length)):=lenK_of (fun _=>len_pts l) (nsa_lit _)
theorem idxK_pts{l:List Pt}{i:Nat}{x:Pt}(h:l[i]? = some x):idxK Tryd.prog d 71 (.pv (pts l)) (.pv (.lit (.int .i64 (i:Int)))) k=k (.cptr [iv x.kind,sv x.name,iv x.n,pts x.kids,iv x.at_]):=idxK_of (fun _=>idx_pts h) (nsa_c (by simp[NSL_cons,NSL_nil]))
theorem lenK_exs(l:List Ex):lenK Tryd.prog d 28 (.pv (exs l)) k=k (.pv (iv l.length)):=lenK_of (fun _=>len_exs l) (nsa_lit _)
theorem idxK_exs{l:List Ex}{i:Nat}{x:Ex}(h:l[i]? = some x):idxK Tryd.prog d 28 (.pv (exs l)) (.pv (.lit (.int .i64 (i:Int)))) k=k (.cptr [iv x.kind,sv x.name,iv x.n,iv x.t.kind,sv x.t.name,iv x.t.n,tys x.t.kids,exs x.kids,als x.alts,bds x.binds,iv x.at_]):=idxK_of (fun _=>idx_exs h) (nsa_c (by simp[NSL_cons,NSL_nil]))
theorem lenK_als(l:List Al):lenK Tryd.prog d 29 (.pv (als l)) k=k (.pv (iv l.length)):=lenK_of (fun _=>len_als l) (nsa_lit _)
theorem idxK_als{l:List Al}{i:Nat}{x:Al}(h:l[i]? = some x):idxK Tryd.prog d 29 (.pv (als l)) (.pv (.lit (.int .i64 (i:Int)))) k=k (.cptr [iv x.p.kind,sv x.p.name,iv x.p.n,pts x.p.kids,iv x.p.at_,iv x.e.kind,sv x.e.name,iv x.e.n,iv x.e.t.kind,sv x.e.t.name,iv x.e.t.n,tys x.e.t.kids,exs x.e.kids,als x.e.alts,bds x.e.binds,iv x.e.at_]):=idxK_of (fun _=>idx_als h) (nsa_c (by simp[NSL_cons,NSL_nil]))
theorem lenK_bds(l:List Bd):lenK Tryd.prog d 30 (.pv (bds l)) k=k (.pv (iv l.length)):=lenK_of (fun _=>len_bds l) (nsa_lit _)
theorem idxK_bds{l:List Bd}{i:Nat}{x:Bd}(h:l[i]? = some x):idxK Tryd.prog d 30 (.pv (bds l)) (.pv (.lit (.int .i64 (i:Int)))) k=k (.cptr [sv x.name,iv x.e.kind,sv x.e.name,iv x.e.n,iv x.e.t.kind,sv x.e.t.name,iv x.e.t.n,tys x.e.t.kids,exs x.e.kids,als x.e.alts,bds x.e.binds,iv x.e.at_,iv x.at_]):=idxK_of (fun _=>idx_bds h) (nsa_c (by simp[NSL_cons,NSL_nil]))
theorem lenK_cns(l:List Cn):lenK Tryd.prog d 57 (.pv (cns l)) k=k (.pv (iv l.length)):=lenK_of (fun _=>len_cns l) (nsa_lit _)
theorem idxK_cns{l:List Cn}{i:Nat}{x:Cn}(h:l[i]? = some x):idxK Tryd.prog d 57 (.pv (cns l)) (.pv (.lit (.int .i64 (i:Int)))) k=k (.cptr [sv x.name,tys x.args,iv x.at_]):=idxK_of (fun _=>idx_cns h) (nsa_c (by simp[NSL_cons,NSL_nil]))
theorem lenK_dts(l:List Dt):lenK Tryd.prog d 39 (.pv (dts l)) k=k (.pv (iv l.length)):=lenK_of (fun _=>len_dts l) (nsa_lit _)
theorem idxK_dts{l:List Dt}{i:Nat}{x:Dt}(h:l[i]? = some x):idxK Tryd.prog d 39 (.pv (dts l)) (.pv (.lit (.int .i64 (i:Int)))) k=k (.cptr [sv x.name,strs x.params,cns x.cons,strs x.deriv,iv x.at_]):=idxK_of (fun _=>idx_dts h) (nsa_c (by simp[NSL_cons,NSL_nil]))
theorem lenK_mds(l:List Md):lenK Tryd.prog d 61 (.pv (mds l)) k=k (.pv (iv l.length)):=lenK_of (fun _=>len_mds l) (nsa_lit _)
theorem idxK_mds{l:List Md}{i:Nat}{x:Md}(h:l[i]? = some x):idxK Tryd.prog d 61 (.pv (mds l)) (.pv (.lit (.int .i64 (i:Int)))) k=k (.cptr [sv x.name,iv x.t.kind,sv x.t.name,iv x.t.n,tys x.t.kids,iv x.at_]):=idxK_of (fun _=>idx_mds h) (nsa_c (by simp[NSL_cons,NSL_nil]))
theorem lenK_cls(l:List Cl):lenK Tryd.prog d 40 (.pv (cls l)) k=k (.pv (iv l.length)):=lenK_of (fun _=>len_cls l) (nsa_lit _)
theorem idxK_cls{l:List Cl}{i:Nat}{x:Cl}(h:l[i]? = some x):idxK Tryd.prog d 40 (.pv (cls l)) (.pv (.lit (.int .i64 (i:Int)))) k=k (.cptr [sv x.name,sv x.var,strs x.supers,mds x.methods,bds x.defaults,iv x.at_]):=idxK_of (fun _=>idx_cls h) (nsa_c (by simp[NSL_cons,NSL_nil]))
theorem lenK_pds(l:List Pd):lenK Tryd.prog d 65 (.pv (pds l)) k=k (.pv (iv l.length)):=lenK_of (fun _=>len_pds l) (nsa_lit _)
theorem idxK_pds{l:List Pd}{i:Nat}{x:Pd}(h:l[i]? = some x):idxK Tryd.prog d 65 (.pv (pds l)) (.pv (.lit (.int .i64 (i:Int)))) k=k (.cptr [sv x.cls,iv x.t.kind,sv x.t.name,iv x.t.n,tys x.t.kids]):=idxK_of (fun _=>idx_pds h) (nsa_c (by simp[NSL_cons,NSL_nil]))
theorem lenK_its(l:List It):lenK Tryd.prog d 41 (.pv (its l)) k=k (.pv (iv l.length)):=lenK_of (fun _=>len_its l) (nsa_lit _)
theorem idxK_its{l:List It}{i:Nat}{x:It}(h:l[i]? = some x):idxK Tryd.prog d 41 (.pv (its l)) (.pv (.lit (.int .i64 (i:Int)))) k=k (.cptr [sv x.cls,iv x.head.kind,sv x.head.name,iv x.head.n,tys x.head.kids,pds x.ctx,bds x.binds,iv x.at_]):=idxK_of (fun _=>idx_its h) (nsa_c (by simp[NSL_cons,NSL_nil]))
end
attribute [simp] lenK_strs lenK_tys lenK_pts lenK_exs lenK_als lenK_bds lenK_cns lenK_dts lenK_mds lenK_cls lenK_pds lenK_its
end Go.Proofs.YtfphhabaeggenaaDoor
namespace Go.Proofs.YtfphhabaeggenaaDoor
open Go.RowKit
theorem sl_tks:SlT Tryd.prog 76 4 40:=SlT.of (by kernel_rfl)
section
variable{β:Type}{d:β}{k:AV→β}
@[simp] theorem lenK_tks(l:List Tk):lenK Tryd.prog d 76 (.pv (tks l)) k=k (.pv (iv l.length)):=lenK_of (fun _=>by rw[tks,len_ok sl_tks,List.length_map]) (nsa_lit _)
theorem idxK_tks{l:List Tk}{i:Nat}{x:Tk}(h:l[i]? = some x):idxK Tryd.prog d 76 (.pv (tks l)) (.pv (.lit (.int .i64 (i:Int)))) k=k (.cptr [iv x.kind,sv x.text,iv x.n,iv x.at_]):=
 idxK_of (fun _=>by rw[tks];exact idx_ok sl_tks (by rw[List.getElem?_map,h];rfl) rfl) (nsa_c (by simp[NSL_cons,NSL_nil]))
end
abbrev eB:ByteArray:=⟨#[]⟩
def zT:Tk:=⟨0,eB,0,0⟩
@[simp] theorem wdPs_nil:wdPs []=[]:=by rw[wdPs]
@[simp] theorem wdPs_cons(p:PV)(l:List PV):wdPs (p::l)=wdP p::wdPs l:=by rw[wdPs]
@[simp] theorem wdP_int(k:IntKind)(n:Int):wdP (.lit (.int k n))=.lit (.int k n):=by rw[wdP];rfl
@[simp] theorem wdP_str(s:ByteArray):wdP (.lit (.string s))=.lit (.string s):=by rw[wdP];rfl
@[simp] theorem wdP_nil:wdP (.lit (.slice none 0 0))=.rows []:=by rw[wdP];rfl
theorem wdP_rows(es:List (List PV)):wdP (.rows es)=.rows (wdPss es):=by rw[wdP]
theorem wdPss_nil:wdPss []=[]:=by rw[wdPss]
theorem wdPss_cons(c:List PV)(l:List (List PV)):wdPss (c::l)=wdPs c::wdPss l:=by rw[wdPss]
mutual
theorem Ty.wd:∀t:Ty,wdPs t.cells=t.cells
 |.mk k s n ks=>by
  have h:=Ty.wdL ks
  rw[Ty.cells]
  simp[wdP_rows,h]
theorem Ty.wdL:∀l:List Ty,wdPss (Ty.rows l)=Ty.rows l
 |[]=>by rw[Ty.rows,wdPss]
 |v::l=>by
  have h1:=Ty.wd v
  have h2:=Ty.wdL l
  rw[Ty.rows,wdPss,h1,h2]
end
mutual
theorem Pt.wd:∀t:Pt,wdPs t.cells=t.cells
 |.mk k s n ks a=>by
  have h:=Pt.wdL ks
  rw[Pt.cells]
  simp[wdP_rows,h]
theorem Pt.wdL:∀l:List Pt,wdPss (Pt.rows l)=Pt.rows l
 |[]=>by rw[Pt.rows,wdPss]
 |v::l=>by
  have h1:=Pt.wd v
  have h2:=Pt.wdL l
  rw[Pt.rows,wdPss,h1,h2]
end
@[simp] theorem wd_tys(l:List Ty):wdP (tys l)=tys l:=by rw[tys,←Ty.rows_eq,wdP_rows,Ty.wdL]
@[simp] theorem wd_pts(l:List Pt):wdP (pts l)=pts l:=by rw[pts,←Pt.rows_eq,wdP_rows,Pt.wdL]
theorem wdPs_app(a b:List PV):wdPs (a++b)=wdPs a++wdPs b:=by rw[wdPs_eq,wdPs_eq,wdPs_eq,List.map_append]
theorem wdPss_app(a b:List (List PV)):wdPss (a++b)=wdPss a++wdPss b:=by rw[wdPss_eq,wdPss_eq,wdPss_eq,List.map_append]
mutual
theorem Ex.wd:∀t:Ex,wdPs t.cells=t.cells
 |.mk k s n t ks xs bs a=>by
  have h1:=Ex.wdL ks
  have h2:=Al.wdL xs
  have h3:=Bd.wdL bs
  rw[Ex.cells]
  simp[wdP_rows,h1,h2,h3]
theorem Al.wd:∀t:Al,wdPs t.cells=t.cells
 |.mk p e=>by
  have h:=Ex.wd e
  rw[Al.cells]
  simp[h]
theorem Bd.wd:∀t:Bd,wdPs t.cells=t.cells
 |.mk s e a=>by
  have h:=Ex.wd e
  rw[Bd.cells]
  simp[wdPs_app,h]
theorem Ex.wdL:∀l:List Ex,wdPss (Ex.rows l)=Ex.rows l
 |[]=>by rw[Ex.rows,wdPss]
 |v::l=>by
  have h1:=Ex.wd v
  have h2:=Ex.wdL l
  rw[Ex.rows,wdPss,h1,h2]
theorem Al.wdL:∀l:List Al,wdPss (Al.rows l)=Al.rows l
 |[]=>by rw[Al.rows,wdPss]
 |v::l=>by
  have h1:=Al.wd v
  have h2:=Al.wdL l
  rw[Al.rows,wdPss,h1,h2]
theorem Bd.wdL:∀l:List Bd,wdPss (Bd.rows l)=Bd.rows l
 |[]=>by rw[Bd.rows,wdPss]
 |v::l=>by
  have h1:=Bd.wd v
  have h2:=Bd.wdL l
  rw[Bd.rows,wdPss,h1,h2]
end
@[simp] theorem wd_exs(l:List Ex):wdP (exs l)=exs l:=by rw[exs,←Ex.rows_eq,wdP_rows,Ex.wdL]
@[simp] theorem wd_als(l:List Al):wdP (als l)=als l:=by rw[als,←Al.rows_eq,wdP_rows,Al.wdL]
@[simp] theorem wd_bds(l:List Bd):wdP (bds l)=bds l:=by rw[bds,←Bd.rows_eq,wdP_rows,Bd.wdL]
theorem wd_map{α:Type}{f:α→List PV}(l:List α)(h:∀x,wdPs (f x)=f x):wdP (.rows (l.map f))=.rows (l.map f):=by
 rw[wdP_rows,wdPss_eq,List.map_map]
 congr 2
 funext x
 exact h x
@[simp] theorem wd_strs(l:List ByteArray):wdP (strs l)=strs l:=wd_map l fun x=>by simp
@[simp] theorem wd_tks(l:List Tk):wdP (tks l)=tks l:=wd_map l fun x=>by simp[Tk.cells]
@[simp] theorem wd_cns(l:List Cn):wdP (cns l)=cns l:=wd_map l fun x=>by simp[Cn.cells]
@[simp] theorem wd_mds(l:List Md):wdP (mds l)=mds l:=wd_map l fun x=>by simp[Md.cells]
@[simp] theorem wd_pds(l:List Pd):wdP (pds l)=pds l:=wd_map l fun x=>by simp[Pd.cells]
@[simp] theorem wd_dts(l:List Dt):wdP (dts l)=dts l:=wd_map l fun x=>by simp[Dt.cells]
@[simp] theorem wd_cls(l:List Cl):wdP (cls l)=cls l:=wd_map l fun x=>by simp[Cl.cells]
@[simp] theorem wd_its(l:List It):wdP (its l)=its l:=wd_map l fun x=>by simp[It.cells]
structure Raw(sz:Nat)(es cs:List (List PV)):Prop where
 w:wdPss es=cs
 n:∀c∈es,c.length=sz
 ns:∀c∈es,∀p∈c,NS p
theorem Raw.nil(sz:Nat):Raw sz [] []:=⟨wdPss_nil,(fun c hc=>by cases hc),(fun c hc=>by cases hc)⟩
theorem Raw.app{sz:Nat}{es cs:List (List PV)}(h:Raw sz es cs){c c':List PV}(h1:wdPs c=c')(h2:c.length=sz)(h3:NSL c):Raw sz (es++[c]) (cs++[c']):=
 ⟨by rw[wdPss_app,h.w,wdPss_cons,wdPss_nil,h1],fun d hd=>by
  rcases List.mem_append.1 hd with hd|hd
  ·exact h.n d hd
  ·rw[List.mem_singleton.1 hd];exact h2,fun d hd p hp=>by
  rcases List.mem_append.1 hd with hd|hd
  ·exact h.ns d hd p hp
  ·rw[List.mem_singleton.1 hd] at hp;exact h3 p hp⟩
theorem Raw.one{sz:Nat}{c c':List PV}(h1:wdPs c=c')(h2:c.length=sz)(h3:NSL c):Raw sz [c] [c']:=(Raw.nil sz).app h1 h2 h3
theorem Raw.len{sz:Nat}{es cs:List (List PV)}(h:Raw sz es cs):es.length=cs.length:=by rw[←h.w,wdPss_eq,List.length_map]
theorem Raw.wd{sz:Nat}{es cs:List (List PV)}(h:Raw sz es cs):wdP (.rows es)=.rows cs:=by rw[wdP_rows,h.w]
theorem Raw.of{α:Type}{f:α→List PV}{sz:Nat}(l:List α)(h1:∀x,wdPs (f x)=f x)(h2:∀x,(f x).length=sz)(h3:∀x,NSL (f x)):Raw sz (l.map f) (l.map f):=
 ⟨by rw[wdPss_eq,List.map_map];congr 1;funext x;exact h1 x,fun c hc=>by obtain⟨x,_,rfl⟩:=List.mem_map.1 hc;exact h2 x,fun c hc p hp=>by obtain⟨x,_,rfl⟩:=List.mem_map.1 hc;exact h3 x p hp⟩
section
variable{P:Program}{d:Res}{k:PV→Res}
theorem appK_raw{t:TypeId}{sz b:Nat}(ht:SlT P t sz b){es cs:List (List PV)}(h:Raw sz es cs){c:List PV}(hc:c.length=sz)(hn:NSL c)(hl:es.length≤100000000)(hb:b≤1000) :
  appK P d t (.pv (.rows es)) (.pv (.rows [c])) k=k (.rows (es++[c])):=
 appK_of (fun w=>app_ok ht (rowsN_rows' es) rfl (by simp) (fun c' h'=>by rw[List.mem_singleton.1 h'];exact hc) (by simp;omega)
  (Nat.le_trans (Nat.mul_le_mul (by simp;omega:es.length+[c].length≤100000001) hb) (by decide)))
  (.rows _ fun c' h' p hp=>by
   rcases List.mem_append.1 h' with h'|h'
   ·exact h.ns c' h' p hp
   ·rw[List.mem_singleton.1 h'] at hp;exact hn p hp)
end
inductive Rz(α:Type) where
 |out
 |err (e w:Int)
 |ok (v:α) (a:Nat)
def Rz.bind{α β:Type}(r:Rz α)(k:α→Nat→Rz β):Rz β:=match r with
 |.out=>.out
 |.err e w=>.err e w
 |.ok v a=>k v a
@[simp] theorem Rz.bind_out{α β:Type}(k:α→Nat→Rz β):(Rz.out:Rz α).bind k=.out:=rfl
@[simp] theorem Rz.bind_err{α β:Type}(e w:Int)(k:α→Nat→Rz β):(Rz.err e w:Rz α).bind k=.err e w:=rfl
@[simp] theorem Rz.bind_ok{α β:Type}(v:α)(a:Nat)(k:α→Nat→Rz β):(Rz.ok v a).bind k=k v a:=rfl
section
variable(L:List Tk)
def tkAt(a:Nat):Tk:=(L[a]?).getD zT
def isT(x:ByteArray)(a:Nat):Bool:=decide (6≤(tkAt L a).kind)&&decide ((tkAt L a).text=x)
def stT(a:Nat):Bool:=decide ((tkAt L a).kind=1)||(decide ((tkAt L a).kind=2)||isT L ⟨#[40]⟩ a)
abbrev sArr:ByteArray:=⟨#[45,62]⟩
abbrev sOp:ByteArray:=⟨#[40]⟩
abbrev sCl:ByteArray:=⟨#[41]⟩
abbrev sUn:ByteArray:=⟨#[85,110,105,116]⟩
def wantF(x:ByteArray)(a:Nat):Rz Unit:=if isT L x a then .ok () (a+1) else .err 110 (tkAt L a).at_
mutual
def typeF:Nat→Int→Nat→Rz Ty
 |0,_,_=>.out
 |n+1,d,a=>if 300<d+1 then .err 111 (tkAt L a).at_ else
  (if(tkAt L a).kind=2 then(argsF n (d+1) (a+1) []).bind fun l b=>.ok (.mk 3 (tkAt L a).text 0 l) b else atypeF n (d+1) a).bind fun x b=>
   if isT L sArr b then(typeF n (d+1) (b+1)).bind fun y c=>.ok (.mk 3 sArr 0 [x,y]) c else .ok x b
def atypeF:Nat→Int→Nat→Rz Ty
 |0,_,_=>.out
 |n+1,d,a=>if(tkAt L a).kind=2 then .ok (.mk 3 (tkAt L a).text 0 []) (a+1)
  else if(tkAt L a).kind=1 then .ok (.mk 1 (tkAt L a).text 0 []) (a+1)
  else if isT L sOp a then
   if isT L sCl (a+1) then .ok (.mk 3 sUn 0 []) (a+2)
   else(typeF n d (a+1)).bind fun x b=>(wantF L sCl b).bind fun _ c=>.ok x c
  else .err 110 (tkAt L a).at_
def argsF:Nat→Int→Nat→List Ty→Rz (List Ty)
 |0,_,_,_=>.out
 |n+1,d,a,l=>if stT L a then(atypeF n d a).bind fun x b=>argsF n d b (l++[x]) else .ok l a
end
end
structure WfL(L:List Tk):Prop where
 len:L.length≤1000000
 pos:0<L.length
 fin:∀a,(tkAt L a).kind≠0→a+1<L.length
 top:∀a,(tkAt L a).kind≤7
 k6:∀a,(tkAt L a).kind=6→(tkAt L a).text≠sOp∧(tkAt L a).text≠⟨#[95]⟩
 k7:∀a,(tkAt L a).kind=7→(tkAt L a).text≠⟨#[99,97,115,101]⟩
abbrev GM(α:Type):=Int→Nat→Rz α
def outG{α:Type}:GM α:=fun _ _=>.out
def pureG{α:Type}(v:α):GM α:=fun _ a=>.ok v a
def bindG{α β:Type}(p:GM α)(k:α→GM β):GM β:=fun d a=>(p d a).bind fun v b=>k v d b
def upG{α:Type}(p:GM α):GM α:=fun d a=>p d (a+1)
def lvlF(x:ByteArray):Nat:=
 if x=⟨#[58,61]⟩ then 1 else if x=⟨#[124,124]⟩ then 2 else if x=⟨#[38,38]⟩ then 3
 else if x=⟨#[61,61]⟩∨x=⟨#[47,61]⟩∨x=⟨#[60]⟩∨x=⟨#[60,61]⟩∨x=⟨#[62]⟩∨x=⟨#[62,61]⟩ then 4
 else if x=⟨#[58,58]⟩∨x=⟨#[94]⟩ then 5 else if x=⟨#[43]⟩∨x=⟨#[45]⟩ then 6
 else if x=⟨#[42]⟩∨x=⟨#[47]⟩∨x=⟨#[37]⟩ then 7 else 8
def sidF(k:Nat):Nat:=if k=4 then 0 else if k<6 then 2 else 1
def lastF(V:Nat→Nat)(to:Nat):Nat→Nat→Nat→Nat
 |0,_,at_=>at_
 |n+1,i,at_=>if i<to then lastF V to n (i+1) (if V i<V at_∨V i=V at_∧sidF (V at_)=1 then i else at_) else at_
def T00:Ty:=.mk 0 eB 0 []
def exM(k:Int)(s:ByteArray)(n:Int)(ks:List Ex)(a:Int):Ex:=.mk k s n T00 ks [] [] a
def opE(t:Tk)(x y:Ex):Ex:=
 if t.text=⟨#[38,38]⟩ then exM 10 eB 0 [x,y] t.at_ else if t.text=⟨#[124,124]⟩ then exM 11 eB 0 [x,y] t.at_
 else exM 5 eB 0 [exM 5 eB 0 [exM 3 t.text 0 [] t.at_,x] t.at_,y] t.at_
def opAt(ops:List Tk)(i:Nat):Tk:=(ops[i]?).getD zT
def exAt(l:List Ex)(i:Nat):Ex:=(l[i]?).getD (exM 0 eB 0 [] 0)
def vlv(ops:List Tk)(i:Nat):Nat:=lvlF (opAt ops i).text
def buildF(l:List Ex)(ops:List Tk):Nat→Nat→Nat→Ex
 |0,f,_=>exAt l f
 |n+1,f,to=>if f=to then exAt l f else
  let at_:=lastF (vlv ops) to to (f+1) f
  opE (opAt ops at_) (buildF l ops n f at_) (buildF l ops n (at_+1) to)
def bckF(V:Nat→Nat):Nat→Bool
 |0=>false
 |i+1=>if 4<V i then bckF V i else decide (V i=4)
def clashF(V:Nat→Nat)(len:Nat):Nat→Nat→Option Nat
 |0,_=>none
 |n+1,k=>if k<len then(if V k=4∧bckF V k=true then some k else clashF V len n (k+1)) else none
section
variable(L:List Tk)
def okT(k:Int)(x:ByteArray)(a:Nat):Bool:=if k<6 then decide ((tkAt L a).kind=k) else isT L x a
def takeG(k:Int)(x:ByteArray):GM Tk:=fun _ a=>if okT L k x a then .ok (tkAt L a) (a+1) else .err 110 (tkAt L a).at_
def mayG{α:Type}(x:ByteArray)(A B:GM α):GM α:=fun d a=>if isT L x a then A d (a+1) else B d a
def kindG{α:Type}(k:Int)(A B:GM α):GM α:=fun d a=>if(tkAt L a).kind=k then A d a else B d a
def nextG{α:Type}(k:Tk→GM α):GM α:=fun d a=>k (tkAt L a) d a
def deepG{α:Type}(p:GM α):GM α:=fun d a=>if 300<d+1 then .err 111 (tkAt L a).at_ else p (d+1) a
abbrev sUs:ByteArray:=⟨#[95]⟩
abbrev sCase:ByteArray:=⟨#[99,97,115,101]⟩
def stW(w:Int)(a:Nat):Bool:=decide ((tkAt L a).kind=1)||(decide ((tkAt L a).kind=2)||(isT L sOp a||(decide (1≤w)&&decide ((tkAt L a).kind=3)||(decide (w=1)&&isT L sUs a||decide (w=2)&&(decide ((tkAt L a).kind=4)||isT L sCase a)))))
def stG{α:Type}(w:Int)(A B:GM α):GM α:=fun d a=>if stW L w a then A d a else B d a
mutual
def apatG:Nat→GM Pt
 |0=>outG
 |m+1=>nextG L fun t=>if t.kind=2 then upG (pureG (.mk 3 t.text 0 [] t.at_)) else if t.kind=1 then upG (pureG (.mk 2 t.text 0 [] t.at_))
   else if t.kind=3 then upG (pureG (.mk 4 eB t.n [] t.at_)) else mayG L sUs (pureG (.mk 1 eB 0 [] t.at_))
    (bindG (takeG L 7 sOp) fun _=>mayG L sCl (pureG (.mk 3 sUn 0 [] t.at_)) (bindG (patG m) fun x=>bindG (takeG L 7 sCl) fun _=>pureG x))
def patG:Nat→GM Pt
 |0=>outG
 |m+1=>deepG L (nextG L fun t=>bindG (apatG m) fun x=>if t.kind=2 then bindG (patsG m []) fun l=>pureG (.mk x.kind x.name x.n l x.at_) else pureG x)
def patsG:Nat→List Pt→GM (List Pt)
 |0,_=>outG
 |m+1,l=>stG L 1 (bindG (apatG m) fun x=>patsG m (l++[x])) (pureG l)
end
abbrev sEq:ByteArray:=⟨#[61]⟩
abbrev sBs:ByteArray:=⟨#[92]⟩
abbrev sLet:ByteArray:=⟨#[108,101,116]⟩
abbrev sIf:ByteArray:=⟨#[105,102]⟩
abbrev sThen:ByteArray:=⟨#[116,104,101,110]⟩
abbrev sElse:ByteArray:=⟨#[101,108,115,101]⟩
abbrev sRec:ByteArray:=⟨#[114,101,99]⟩
abbrev sAnd:ByteArray:=⟨#[97,110,100]⟩
abbrev sIn:ByteArray:=⟨#[105,110]⟩
abbrev sOf:ByteArray:=⟨#[111,102]⟩
abbrev sBar:ByteArray:=⟨#[124]⟩
abbrev sEnd:ByteArray:=⟨#[101,110,100]⟩
abbrev sCol:ByteArray:=⟨#[58]⟩
abbrev sCom:ByteArray:=⟨#[44]⟩
abbrev sSem:ByteArray:=⟨#[59]⟩
abbrev sDef:ByteArray:=⟨#[100,101,102]⟩
abbrev sFrom:ByteArray:=⟨#[102,114,111,109]⟩
abbrev sWhere:ByteArray:=⟨#[119,104,101,114,101]⟩
abbrev sDeriv:ByteArray:=⟨#[100,101,114,105,118,105,110,103]⟩
abbrev sData:ByteArray:=⟨#[100,97,116,97]⟩
abbrev sClass:ByteArray:=⟨#[99,108,97,115,115]⟩
abbrev sInst:ByteArray:=⟨#[105,110,115,116,97,110,99,101]⟩
def nameG:GM Tk:=mayG L sOp (bindG (takeG L 5 eB) fun t=>bindG (takeG L 7 sCl) fun _=>pureG t) (takeG L 1 eB)
def wrapE(l:List (ByteArray×Int))(e:Ex):Ex:=l.foldr (fun p e=>exM 6 p.1 0 [e] p.2) e
def clashG(l:List Ex)(ops:List Tk):GM Ex:=match clashF (vlv ops) ops.length ops.length 0 with
 |some k=>fun _ _=>.err 112 (opAt ops k).at_
 |none=>pureG (buildF l ops ops.length 0 ops.length)
mutual
def expG:Nat→GM Ex
 |0=>outG
 |m+1=>deepG L (bindG (operandG m) fun x=>bindG (opsG m [x] []) fun r=>clashG r.1 r.2)
def opsG:Nat→List Ex→List Tk→GM (List Ex×List Tk)
 |0,_,_=>outG
 |m+1,l,o=>kindG L 5 (bindG (takeG L 5 eB) fun t=>bindG (operandG m) fun x=>opsG m (l++[x]) (o++[t])) (pureG (l,o))
def operandG:Nat→GM Ex
 |0=>outG
 |m+1=>nextG L fun t=>mayG L sBs (lambdaG m t.at_) (mayG L sLet (mayG L sRec (letG m 1 t.at_) (letG m 0 t.at_))
   (mayG L sIf (bindG (expG m) fun a=>bindG (takeG L 6 sThen) fun _=>bindG (expG m) fun b=>bindG (takeG L 6 sElse) fun _=>bindG (expG m) fun c=>pureG (exM 9 eB 0 [a,b,c] t.at_))
    (bindG (atomG m) fun x=>appsG m t.at_ x)))
def appsG:Nat→Int→Ex→GM Ex
 |0,_,_=>outG
 |m+1,w,x=>stG L 2 (bindG (atomG m) fun y=>appsG m w (exM 5 eB 0 [x,y] w)) (pureG x)
def lambdaG:Nat→Int→GM Ex
 |0,_=>outG
 |m+1,w=>bindG (takeG L 1 eB) fun t=>lamsG m [(t.text,w)]
def lamsG:Nat→List (ByteArray×Int)→GM Ex
 |0,_=>outG
 |m+1,l=>kindG L 1 (nextG L fun t=>upG (lamsG m (l++[(t.text,t.at_)]))) (bindG (takeG L 7 sArr) fun _=>bindG (expG m) fun e=>pureG (wrapE l e))
def letG:Nat→Int→Int→GM Ex
 |0,_,_=>outG
 |m+1,k,w=>bindG (bdG m) fun b=>bindG (andsG m [b]) fun l=>bindG (takeG L 6 sIn) fun _=>bindG (expG m) fun e=>pureG (.mk 7 eB k T00 [e] [] l w)
def bdG:Nat→GM Bd
 |0=>outG
 |m+1=>bindG (nameG L) fun t=>bindG (takeG L 7 sEq) fun _=>bindG (expG m) fun e=>pureG (.mk t.text e t.at_)
def andsG:Nat→List Bd→GM (List Bd)
 |0,_=>outG
 |m+1,l=>mayG L sAnd (bindG (bdG m) fun b=>andsG m (l++[b])) (pureG l)
def atomG:Nat→GM Ex
 |0=>outG
 |m+1=>nextG L fun t=>if t.kind=1 then upG (pureG (exM 3 t.text 0 [] t.at_)) else if t.kind=2 then upG (pureG (exM 4 t.text 0 [] t.at_))
   else if t.kind=3 then upG (pureG (exM 1 eB t.n [] t.at_)) else if t.kind=4 then upG (pureG (exM 2 t.text 0 [] t.at_))
   else mayG L sCase (bindG (expG m) fun x=>bindG (takeG L 6 sOf) fun _=>bindG (altsG m []) fun l=>bindG (takeG L 6 sEnd) fun _=>pureG (.mk 8 eB 0 T00 [x] l [] t.at_))
    (bindG (takeG L 7 sOp) fun _=>mayG L sCl (pureG (exM 4 sUn 0 [] t.at_)) (kindG L 5 (bindG (takeG L 5 eB) fun o=>bindG (takeG L 7 sCl) fun _=>pureG (exM 3 o.text 0 [] t.at_))
     (bindG (expG m) fun y=>mayG L sCol (bindG (typeF L m) fun ty=>bindG (takeG L 7 sCl) fun _=>pureG (.mk 12 eB 0 ty [y] [] [] t.at_)) (bindG (takeG L 7 sCl) fun _=>pureG y))))
def altsG:Nat→List Al→GM (List Al)
 |0,_=>outG
 |m+1,l=>bindG (patG L m) fun p=>bindG (takeG L 7 sArr) fun _=>bindG (expG m) fun e=>mayG L sBar (altsG m (l++[.mk p e])) (pureG (l++[.mk p e]))
end
def parsG:Nat→List ByteArray→GM (List ByteArray)
 |0,_=>outG
 |m+1,l=>kindG L 1 (bindG (takeG L 1 eB) fun t=>parsG m (l++[t.text])) (pureG l)
def upsG:Nat→List ByteArray→GM (List ByteArray)
 |0,_=>outG
 |m+1,l=>mayG L sCom (bindG (takeG L 2 eB) fun t=>upsG m (l++[t.text])) (pureG l)
def uppersG(m:Nat):GM (List ByteArray):=bindG (takeG L 2 eB) fun t=>upsG L m [t.text]
def tyargsG(m:Nat)(l:List Ty):GM (List Ty):=fun d a=>argsF L m d a l
def consG:Nat→List Cn→GM (List Cn)
 |0,_=>outG
 |m+1,l=>bindG (takeG L 2 eB) fun c=>bindG (tyargsG L m []) fun tl=>mayG L sBar (consG m (l++[⟨c.text,tl,c.at_⟩])) (pureG (l++[⟨c.text,tl,c.at_⟩]))
def dataG(m:Nat):GM Dt:=bindG (takeG L 2 eB) fun t=>bindG (parsG L m []) fun ps=>bindG (takeG L 7 sEq) fun _=>bindG (consG L m []) fun cs=>
 mayG L sDeriv (bindG (takeG L 7 sOp) fun _=>bindG (uppersG L m) fun ds=>bindG (takeG L 7 sCl) fun _=>pureG ⟨t.text,ps,cs,ds,t.at_⟩) (pureG ⟨t.text,ps,cs,[],t.at_⟩)
def itemsG:Nat→List Md→List Bd→GM (List Md×List Bd)
 |0,_,_=>outG
 |m+1,ms,ds=>mayG L sEnd (pureG (ms,ds)) (mayG L sDef (bindG (bdG L m) fun b=>bindG (takeG L 7 sSem) fun _=>itemsG m ms (ds++[b]))
   (bindG (nameG L) fun n=>bindG (takeG L 7 sCol) fun _=>bindG (typeF L m) fun ty=>bindG (takeG L 7 sSem) fun _=>itemsG m (ms++[⟨n.text,ty,n.at_⟩]) ds))
def fromG(m:Nat):GM (List ByteArray):=mayG L sFrom (uppersG L m) (pureG [])
def classG(m:Nat):GM Cl:=bindG (takeG L 2 eB) fun t=>bindG (takeG L 1 eB) fun v=>bindG (fromG L m) fun sup=>bindG (takeG L 6 sWhere) fun _=>
 bindG (itemsG L m [] []) fun r=>pureG ⟨t.text,v.text,sup,r.1,r.2,t.at_⟩
def ctxG:Nat→List Pd→GM (List Pd)
 |0,_=>outG
 |m+1,l=>bindG (takeG L 2 eB) fun c=>bindG (takeG L 1 eB) fun v=>mayG L sCom (ctxG m (l++[⟨c.text,.mk 1 v.text 0 []⟩])) (pureG (l++[⟨c.text,.mk 1 v.text 0 []⟩]))
def defsG:Nat→List Bd→GM (List Bd)
 |0,_=>outG
 |m+1,l=>mayG L sEnd (pureG l) (bindG (takeG L 6 sDef) fun _=>bindG (bdG L m) fun b=>bindG (takeG L 7 sSem) fun _=>defsG m (l++[b]))
def instG(m:Nat):GM It:=bindG (takeG L 2 eB) fun t=>bindG (atypeF L m) fun h=>bindG (mayG L sFrom (ctxG L m []) (pureG [])) fun c=>bindG (takeG L 6 sWhere) fun _=>
 bindG (defsG L m []) fun bs=>pureG ⟨t.text,h,c,bs,t.at_⟩
def progG:Nat→Pg→GM Pg
 |0,_=>outG
 |m+1,p=>kindG L 0 (pureG p) (mayG L sData (bindG (dataG L m) fun x=>bindG (takeG L 7 sSem) fun _=>progG m {p with datas:=p.datas++[x] })
   (mayG L sClass (bindG (classG L m) fun x=>bindG (takeG L 7 sSem) fun _=>progG m {p with classes:=p.classes++[x] })
   (mayG L sInst (bindG (instG L m) fun x=>bindG (takeG L 7 sSem) fun _=>progG m {p with insts:=p.insts++[x] })
   (bindG (takeG L 6 sDef) fun _=>bindG (bdG L m) fun x=>bindG (takeG L 7 sSem) fun _=>progG m {p with binds:=p.binds++[x] }))))
end
theorem oneL_err{l:List UInt8}{e:Int}(h:Lx.oneL l=.error e):e≠0:=by
 have hp:∀{k:Int} {x:List UInt8} {n:Int} {r:List UInt8},Lx.putL k x n r=.error e→e≠0:=by
  intro k x n r h
  unfold Lx.putL at h
  split at h
  ·cases h;decide
  ·cases h
 unfold Lx.oneL at h
 split at h
 ·cases h;decide
 ·split at h
  ·exact hp h
  ·split at h
   ·split at h
    ·cases h;decide
    ·exact hp h
   ·split at h
    ·split at h
     ·cases h;decide
     ·exact hp h
    ·split at h
     ·exact hp h
     ·split at h
      ·exact hp h
      ·cases h;decide
abbrev D(b:ByteArray)(i:Nat):List UInt8:=b.data.toList.drop i
theorem D_len(b:ByteArray)(i:Nat):(D b i).length=b.size-i:=by rw[List.length_drop];rfl
def endT(b:ByteArray):Tk:=⟨0,eB,0,(b.size:Int)⟩
def mkT(b:ByteArray)(t:Lx.LTok):Tk:=ofTok (Lx.toTok b.size t)
theorem mkT_end(b:ByteArray):mkT b (0,[],0,0)=endT b:=rfl
theorem scanL_len:∀(f:Nat) (l:List UInt8) (ts:List Lx.LTok),Lx.scanL f l=.ok ts→ts.length≤l.length+1
 |0,l,ts,h=>by cases h;simp
 |f+1,[],ts,h=>by cases h;simp
 |f+1,c::l,ts,h=>by
  simp only[Lx.scanL] at h
  cases h1:Lx.oneL (c::l) with
  |error e=>rw[h1] at h;cases h
  |ok p=>
   obtain⟨k,x,n,r⟩:=p
   rw[h1] at h
   simp only at h
   cases h2:Lx.scanL f (Lx.skipC false r) with
   |error e=>rw[h2] at h;cases h
   |ok ts'=>
    rw[h2] at h
    cases h
    have:=scanL_len f _ _ h2
    have:=Lx.oneL_shorter h1
    simp;omega
def scanT(b:ByteArray):Except (Int×Nat) (List Tk):=match Lx.scanP b with
 |.ok ts=>.ok (ts.map ofTok)
 |.error p=>.error p
theorem scanT_form(b:ByteArray)(hb:b.size≤60000):scanT b=match Lx.spoilAll b.data.toList with
  |some m=>.error (100,b.size-m)
  |none=>match Lx.scanL (b.size+1) (D b (Lx.skipPos b 0)) with | .error (e,k)=>.error (e,b.size-k) | .ok ts=>.ok (ts.map (mkT b)):=by
 unfold scanT
 rw[Lx.scanP_form b hb]
 cases Lx.spoilAll b.data.toList with
 |some m=>rfl
 |none=>
  simp only
  have hd:D b (Lx.skipPos b 0)=Lx.skipC false b.data.toList:=Lx.drop_skipPos b 0
  have e:Lx.scanAll b.data.toList=Lx.scanL (b.size+1) (D b (Lx.skipPos b 0)):=by
   rw[hd]
   unfold Lx.scanAll
   have h1:=Lx.skipC_length false b.data.toList
   have hl:b.data.toList.length=b.size:=rfl
   exact Lx.scanL_two _ _ _ (by omega) (by omega)
  rw[e]
  cases Lx.scanL (b.size+1) (D b (Lx.skipPos b 0)) with
  |error p=>rfl
  |ok ts=>simp[Lx.liftScan,mkT]
def TOk(k:Int)(x:List UInt8):Prop:=1≤k∧k≤7∧(k=6→Lx.keyList.contains x=true)∧(k=7→Lx.markList.contains x=true)
theorem mark_us:Lx.markList.contains [95]=true:=by kernel_rfl
theorem kindL_ok(x:List UInt8):TOk (Lx.kindL x) x:=by
 unfold Lx.kindL
 split
 ·rename_i h;exact⟨by decide,by decide,fun _=>h,fun h=>absurd h (by decide)⟩
 ·split
  ·rename_i h
   refine⟨by decide,by decide,fun h=>absurd h (by decide),fun _=>?_⟩
   rw[eq_of_beq h];exact mark_us
  ·have key:∀q:Bool,TOk (if q=true then 2 else 1) x:=fun q=>by
    cases q
    ·exact⟨by decide,by decide,fun h=>absurd h (by decide),fun h=>absurd h (by decide)⟩
    ·exact⟨by decide,by decide,fun h=>absurd h (by decide),fun h=>absurd h (by decide)⟩
   exact key _
theorem oneL_kind{l:List UInt8}{k n:Int}{x r:List UInt8}(h:Lx.oneL l=.ok (k,x,n,r)):TOk k x:=by
 have hp:∀{k':Int} {x':List UInt8} {n':Int} {r':List UInt8},TOk k' x'→Lx.putL k' x' n' r'=.ok (k,x,n,r)→TOk k x:=by
  intro k' x' n' r' ht h
  obtain⟨_,rfl,rfl,_⟩:=Lx.putL_rest h
  exact ht
 unfold Lx.oneL at h
 split at h
 ·cases h
 ·split at h
  ·exact hp (kindL_ok _) h
  ·split at h
   ·split at h
    ·cases h
    ·exact hp ⟨by decide,by decide,fun h=>absurd h (by decide),fun h=>absurd h (by decide)⟩ h
   ·split at h
    ·split at h
     ·cases h
     ·exact hp ⟨by decide,by decide,fun h=>absurd h (by decide),fun h=>absurd h (by decide)⟩ h
    ·split at h
     ·refine hp ?_ h
      split
      ·rename_i hm;exact⟨by decide,by decide,fun h=>absurd h (by decide),fun _=>hm⟩
      ·exact⟨by decide,by decide,fun h=>absurd h (by decide),fun h=>absurd h (by decide)⟩
     ·split at h
      ·rename_i hm
       exact hp ⟨by decide,by decide,fun h=>absurd h (by decide),fun _=>hm⟩ h
      ·cases h
theorem scanL_ok:∀(f:Nat) (l:List UInt8) (ts:List Lx.LTok),Lx.scanL f l=.ok ts→∃ts',ts=ts'++[(0,[],0,0)]∧∀t∈ts',TOk t.1 t.2.1
 |0,l,ts,h=>by cases h;exact⟨[],rfl,fun t ht=>by cases ht⟩
 |f+1,[],ts,h=>by cases h;exact⟨[],rfl,fun t ht=>by cases ht⟩
 |f+1,c::l,ts,h=>by
  simp only[Lx.scanL] at h
  cases h1:Lx.oneL (c::l) with
  |error e=>rw[h1] at h;cases h
  |ok p=>
   obtain⟨k,x,n,r⟩:=p
   rw[h1] at h
   simp only at h
   cases h2:Lx.scanL f (Lx.skipC false r) with
   |error e=>rw[h2] at h;cases h
   |ok ts'=>
    rw[h2] at h
    cases h
    obtain⟨t2,e1,e2⟩:=scanL_ok f _ _ h2
    refine⟨(k,x,n,(c::l).length)::t2,by rw[e1];rfl,fun t ht=>?_⟩
    rcases List.mem_cons.1 ht with rfl|ht
    ·exact oneL_kind h1
    ·exact e2 t ht
theorem scanL_bad:∀(f:Nat) (l:List UInt8) (e:Int) (k:Nat),Lx.scanL f l=.error (e,k)→e≠0
 |0,l,e,k,h=>by cases h
 |f+1,[],e,k,h=>by cases h
 |f+1,c::l,e,k,h=>by
  simp only[Lx.scanL] at h
  cases h1:Lx.oneL (c::l) with
  |error e=>rw[h1] at h;cases h;exact oneL_err h1
  |ok p=>
   obtain⟨k,x,n,r⟩:=p
   rw[h1] at h
   simp only at h
   cases h2:Lx.scanL f (Lx.skipC false r) with
   |error e=>rw[h2] at h;cases h;exact scanL_bad f _ _ _ h2
   |ok ts'=>rw[h2] at h;cases h
theorem key_no:Lx.keyList.contains [40]=false∧Lx.keyList.contains [95]=false∧Lx.markList.contains [99,97,115,101]=false:=⟨by kernel_rfl,by kernel_rfl,by kernel_rfl⟩
theorem textOf_inj{x:List UInt8}{a:Array UInt8}(h:Lx.textOf x=⟨a⟩):x=a.toList:=by
 have:=congrArg (fun b:ByteArray=>b.data.toList) h
 exact this
theorem wfL_of(b:ByteArray)(ts:List Lx.LTok)(hk:∀t∈ts,TOk t.1 t.2.1)(hl:ts.length≤60000):WfL ((ts++[(0,[],0,0)]).map (mkT b)):=by
 have hin:∀a (h:a<ts.length),tkAt ((ts++[(0,[],0,0)]).map (mkT b)) a=mkT b ts[a]:=fun a h=>by
  unfold tkAt
  rw[List.getElem?_map,List.getElem?_append_left h,List.getElem?_eq_getElem h];rfl
 have hout:∀a,ts.length≤a→(tkAt ((ts++[(0,[],0,0)]).map (mkT b)) a).kind=0:=fun a h=>by
  unfold tkAt
  rw[List.getElem?_map,List.getElem?_append_right h]
  cases hd:a-ts.length with
  |zero=>rfl
  |succ n=>rfl
 have hc:∀a,(∃t,TOk t.1 t.2.1∧tkAt ((ts++[(0,[],0,0)]).map (mkT b)) a=mkT b t)∨(tkAt ((ts++[(0,[],0,0)]).map (mkT b)) a).kind=0:=fun a=>by
  by_cases h:a<ts.length
  ·exact .inl ⟨ts[a],hk _ (List.getElem_mem h),hin a h⟩
  ·exact .inr (hout a (by omega))
 have hkd:∀t:Lx.LTok,(mkT b t).kind=t.1:=fun t=>rfl
 have htx:∀t:Lx.LTok,(mkT b t).text=Lx.textOf t.2.1:=fun t=>rfl
 refine⟨by simp;omega,by simp,fun a h=>?_,fun a=>?_,fun a h=>?_,fun a h=>?_⟩
 ·have:a<ts.length:=by
   apply Decidable.byContradiction
   intro hn
   exact h (hout a (by omega))
  simp;omega
 ·rcases hc a with⟨t,ht,e⟩|e
  ·rw[e,hkd];exact ht.2.1
  ·rw[e];decide
 ·rcases hc a with⟨t,ht,e⟩|e
  ·rw[e,hkd] at h
   have hx:=ht.2.2.1 h
   rw[e,htx]
   refine⟨fun he=>?_,fun he=>?_⟩
   ·rw[textOf_inj he] at hx
    exact absurd (hx.symm.trans key_no.1) (by decide)
   ·rw[textOf_inj he] at hx
    exact absurd (hx.symm.trans key_no.2.1) (by decide)
  ·rw[e] at h;exact absurd h (by decide)
 ·rcases hc a with⟨t,ht,e⟩|e
  ·rw[e,hkd] at h
   have hx:=ht.2.2.2 h
   rw[e,htx]
   intro he
   rw[textOf_inj he] at hx
   exact absurd (hx.symm.trans key_no.2.2) (by decide)
  ·rw[e] at h;exact absurd h (by decide)
theorem scanT_ok{b:ByteArray}{L:List Tk}(h:scanT b=.ok L):b.size≤60000∧L.length≤60001∧WfL L:=by
 have hb:b.size≤60000:=by
  apply Decidable.byContradiction
  intro hn
  unfold scanT Lx.scanP at h
  rw[if_pos (by omega)] at h
  cases h
 rw[scanT_form b hb] at h
 split at h
 ·cases h
 ·split at h
  ·cases h
  ·rename_i ts hs
   cases h
   have hl:=scanL_len _ _ _ hs
   rw[D_len] at hl
   obtain⟨t2,rfl,hk⟩:=scanL_ok _ _ _ hs
   simp at hl
   exact⟨hb,by simp;omega,wfL_of b t2 hk (by omega)⟩
theorem scanT_bad{b:ByteArray}{e:Int}{w:Nat}(h:scanT b=.error (e,w)):e≠0:=by
 by_cases hb:b.size≤60000
 ·rw[scanT_form b hb] at h
  split at h
  ·cases h;decide
  ·split at h
   ·rename_i hs;cases h;exact scanL_bad _ _ _ _ hs
   ·cases h
 ·unfold scanT Lx.scanP at h
  rw[if_pos (by omega)] at h
  cases h
  decide
@[simp] theorem ty_kind(k:Int)(s:ByteArray)(n:Int)(l:List Ty):(Ty.mk k s n l).kind=k:=rfl
@[simp] theorem ty_name(k:Int)(s:ByteArray)(n:Int)(l:List Ty):(Ty.mk k s n l).name=s:=rfl
@[simp] theorem ty_n(k:Int)(s:ByteArray)(n:Int)(l:List Ty):(Ty.mk k s n l).n=n:=rfl
@[simp] theorem ty_kids(k:Int)(s:ByteArray)(n:Int)(l:List Ty):(Ty.mk k s n l).kids=l:=rfl
@[simp] theorem tys_nil:tys []=.rows []:=rfl
section
variable{k:Int}{s:ByteArray}{n:Int}{l:List Pt}{a:Int}
@[simp] theorem pt_kind:(Pt.mk k s n l a).kind=k:=rfl
@[simp] theorem pt_name:(Pt.mk k s n l a).name=s:=rfl
@[simp] theorem pt_n:(Pt.mk k s n l a).n=n:=rfl
@[simp] theorem pt_kids:(Pt.mk k s n l a).kids=l:=rfl
@[simp] theorem pt_at:(Pt.mk k s n l a).at_=a:=rfl
end
@[simp] theorem pts_nil:pts []=.rows []:=rfl
section
variable{k:Int}{s:ByteArray}{n:Int}{t:Ty}{ks:List Ex}{al:List Al}{bs:List Bd}{a:Int}
@[simp] theorem ex_kind:(Ex.mk k s n t ks al bs a).kind=k:=rfl
@[simp] theorem ex_name:(Ex.mk k s n t ks al bs a).name=s:=rfl
@[simp] theorem ex_n:(Ex.mk k s n t ks al bs a).n=n:=rfl
@[simp] theorem ex_t:(Ex.mk k s n t ks al bs a).t=t:=rfl
@[simp] theorem ex_kids:(Ex.mk k s n t ks al bs a).kids=ks:=rfl
@[simp] theorem ex_alts:(Ex.mk k s n t ks al bs a).alts=al:=rfl
@[simp] theorem ex_binds:(Ex.mk k s n t ks al bs a).binds=bs:=rfl
@[simp] theorem ex_at:(Ex.mk k s n t ks al bs a).at_=a:=rfl
@[simp] theorem em_kind:(exM k s n ks a).kind=k:=rfl
@[simp] theorem em_name:(exM k s n ks a).name=s:=rfl
@[simp] theorem em_n:(exM k s n ks a).n=n:=rfl
@[simp] theorem em_t:(exM k s n ks a).t=T00:=rfl
@[simp] theorem em_kids:(exM k s n ks a).kids=ks:=rfl
@[simp] theorem em_alts:(exM k s n ks a).alts=[]:=rfl
@[simp] theorem em_binds:(exM k s n ks a).binds=[]:=rfl
@[simp] theorem em_at:(exM k s n ks a).at_=a:=rfl
end
@[simp] theorem t0_kind:T00.kind=0:=rfl
@[simp] theorem t0_name:T00.name=eB:=rfl
@[simp] theorem t0_n:T00.n=0:=rfl
@[simp] theorem t0_kids:T00.kids=[]:=rfl
@[simp] theorem exs_nil:exs []=.rows []:=rfl
@[simp] theorem als_nil:als []=.rows []:=rfl
@[simp] theorem bds_nil:bds []=.rows []:=rfl
@[simp] theorem bd_name(s:ByteArray)(e:Ex)(a:Int):(Bd.mk s e a).name=s:=rfl
@[simp] theorem bd_e(s:ByteArray)(e:Ex)(a:Int):(Bd.mk s e a).e=e:=rfl
@[simp] theorem bd_at(s:ByteArray)(e:Ex)(a:Int):(Bd.mk s e a).at_=a:=rfl
@[simp] theorem al_p(p:Pt)(e:Ex):(Al.mk p e).p=p:=rfl
@[simp] theorem al_e(p:Pt)(e:Ex):(Al.mk p e).e=e:=rfl
@[simp] theorem strs_nil:strs []=.rows []:=rfl
@[simp] theorem cns_nil:cns []=.rows []:=rfl
@[simp] theorem mds_nil:mds []=.rows []:=rfl
@[simp] theorem pds_nil:pds []=.rows []:=rfl
variable{L:List Tk}
abbrev tyC(t:Ty):List PV:=[iv t.kind,sv t.name,iv t.n,tys t.kids]
theorem slTy:SlT PG 25 4 56:=SlT.of (by kernel_rfl)
theorem raw_tys(l:List Ty):Raw 4 (l.map Ty.cells) (l.map Ty.cells):=.of l Ty.wd (fun x=>by rw[Ty.cells_eq];rfl) (fun x=>by rw[Ty.cells_eq];simp)
theorem tys_two(x y:Ty):tys [x,y]=.rows [tyC x,tyC y]:=by simp[tys,Ty.cells_eq]
abbrev ptC(t:Pt):List PV:=[iv t.kind,sv t.name,iv t.n,pts t.kids,iv t.at_]
theorem slPt:SlT PG 71 5 64:=SlT.of (by kernel_rfl)
def txV(l:List ByteArray)(i:Nat):Nat:=lvlF ((l[i]?).getD eB)
abbrev exC(e:Ex):List PV:=[iv e.kind,sv e.name,iv e.n,iv e.t.kind,sv e.t.name,iv e.t.n,tys e.t.kids,exs e.kids,als e.alts,bds e.binds,iv e.at_]
theorem Raw.ns'{sz:Nat}{es cs:List (List PV)}(h:Raw sz es cs):NS (.rows es):=.rows _ h.ns
theorem raw_exs(l:List Ex):Raw 11 (l.map Ex.cells) (l.map Ex.cells):=.of l Ex.wd (fun x=>by rw[Ex.cells_eq];rfl) (fun x=>by rw[Ex.cells_eq];simp)
theorem raw_als(l:List Al):Raw 16 (l.map Al.cells) (l.map Al.cells):=.of l Al.wd (fun x=>by rw[Al.cells_eq];rfl) (fun x=>by rw[Al.cells_eq];simp)
theorem raw_bds(l:List Bd):Raw 13 (l.map Bd.cells) (l.map Bd.cells):=.of l Bd.wd (fun x=>by rw[Bd.cells_eq];rfl) (fun x=>by rw[Bd.cells_eq];simp)
theorem exs_one(x:Ex):exs [x]=.rows [exC x]:=by simp[exs,Ex.cells_eq]
theorem exs_three(x y z:Ex):exs [x,y,z]=.rows [exC x,exC y,exC z]:=by simp[exs,Ex.cells_eq]
theorem wdss1(c:List PV):wdPss [c]=[wdPs c]:=by rw[wdPss_cons,wdPss_nil]
def ExW(e:Ex)(ys:List PV):Prop:=∃A B C D,ys=[iv e.kind,sv e.name,iv e.n,iv e.t.kind,sv e.t.name,iv e.t.n,.rows A,.rows B,.rows C,.rows D,iv e.at_]∧Raw 4 A (e.t.kids.map Ty.cells)∧Raw 11 B (e.kids.map Ex.cells)∧Raw 16 C (e.alts.map Al.cells)∧Raw 13 D (e.binds.map Bd.cells)
theorem ExW.wd{e:Ex}{ys:List PV}(h:ExW e ys):wdPs ys=exC e:=by
 obtain⟨A,B,C,D,rfl,h1,h2,h3,h4⟩:=h
 simp[h1.wd,h2.wd,h3.wd,h4.wd]
 exact⟨rfl,rfl,rfl,rfl⟩
theorem ExW.ns{e:Ex}{ys:List PV}(h:ExW e ys):NSL ys:=by
 obtain⟨A,B,C,D,rfl,h1,h2,h3,h4⟩:=h
 simp[h1.ns',h2.ns',h3.ns',h4.ns']
theorem ExW.plain(e:Ex):ExW e (exC e):=⟨_,_,_,_,rfl,raw_tys _,raw_exs _,raw_als _,raw_bds _⟩
theorem ExW.two{x y:Ex}{xs ys:List PV}(h1:ExW x xs)(h2:ExW y ys):Raw 11 [xs,ys] ([x,y].map Ex.cells):=by
 have e1:xs.length=11:=by obtain⟨A,B,C,D,rfl,_⟩:=h1;rfl
 have e2:ys.length=11:=by obtain⟨A,B,C,D,rfl,_⟩:=h2;rfl
 have:=(Raw.one (sz:=11) (c':=x.cells) (by rw[Ex.cells_eq];exact h1.wd) e1 h1.ns).app (c':=y.cells) (by rw[Ex.cells_eq];exact h2.wd) e2 h2.ns
 exact this
theorem ExW.raw(k:Int)(s:ByteArray)(n:Int)(ks:List Ex)(a:Int)(kd:PV)(hk:kd=nS∧ks=[]∨∃B,kd=.rows B∧Raw 11 B (ks.map Ex.cells)){y:Ex}{ys:List PV}(h2:ExW y ys):Raw 11 [[iv k,sv s,iv n,iv 0,sv eB,iv 0,nS,kd,nS,nS,iv a],ys] ([exM k s n ks a,y].map Ex.cells):=by
 have e2:ys.length=11:=by obtain⟨A,B,C,D,rfl,_⟩:=h2;rfl
 have e1:wdPs [iv k,sv s,iv n,iv 0,sv eB,iv 0,nS,kd,nS,nS,iv a]=(exM k s n ks a).cells:=by
  rw[Ex.cells_eq]
  rcases hk with⟨rfl,rfl⟩|⟨B,rfl,hB⟩
  ·simp
  ·simp only[wdPs_cons,wdPs_nil,wdP_int,wdP_str,wdP_nil,hB.wd];rfl
 have hn:NSL [iv k,sv s,iv n,iv 0,sv eB,iv 0,nS,kd,nS,nS,iv a]:=by
  rcases hk with⟨rfl,rfl⟩|⟨B,rfl,hB⟩
  ·simp
  ·have:=hB.ns';simp[this]
 have:=(Raw.one (sz:=11) e1 rfl hn).app (c':=y.cells) (by rw[Ex.cells_eq];exact h2.wd) e2 h2.ns
 exact this
abbrev bdC(b:Bd):List PV:=[sv b.name,iv b.e.kind,sv b.e.name,iv b.e.n,iv b.e.t.kind,sv b.e.t.name,iv b.e.t.n,tys b.e.t.kids,exs b.e.kids,als b.e.alts,bds b.e.binds,iv b.e.at_,iv b.at_]
abbrev alC(x:Al):List PV:=[iv x.p.kind,sv x.p.name,iv x.p.n,pts x.p.kids,iv x.p.at_,iv x.e.kind,sv x.e.name,iv x.e.n,iv x.e.t.kind,sv x.e.t.name,iv x.e.t.n,tys x.e.t.kids,exs x.e.kids,als x.e.alts,bds x.e.binds,iv x.e.at_]
abbrev alP(p:Pt)(e:Ex):List PV:=[iv p.kind,sv p.name,iv p.n,pts p.kids,iv p.at_,iv e.kind,sv e.name,iv e.n,iv e.t.kind,sv e.t.name,iv e.t.n,tys e.t.kids,exs e.kids,als e.alts,bds e.binds,iv e.at_]
theorem bds_one(x:Bd):bds [x]=.rows [bdC x]:=by simp[bds,Bd.cells_eq]
theorem als_one(x:Al):als [x]=.rows [alC x]:=by simp[als,Al.cells_eq]
theorem slBd:SlT PG 30 13 192:=SlT.of (by kernel_rfl)
theorem slAl:SlT PG 29 16 232:=SlT.of (by kernel_rfl)
theorem slEx:SlT PG 28 11 168:=SlT.of (by kernel_rfl)
theorem slSt:SlT PG 23 1 16:=SlT.of (by kernel_rfl)
theorem raw_tks(l:List Tk):Raw 4 (l.map Tk.cells) (l.map Tk.cells):=.of l (fun x=>by simp[Tk.cells]) (fun x=>rfl) (fun x=>by simp[Tk.cells])
theorem raw_strs(l:List ByteArray):Raw 1 (l.map fun s=>[sv s]) (l.map fun s=>[sv s]):=.of l (fun x=>by simp) (fun x=>rfl) (fun x=>by simp)
theorem txV_ops(ops:List Tk):txV (ops.map Tk.text)=vlv ops:=by
 funext i
 unfold txV vlv opAt
 rw[List.getElem?_map]
 cases ops[i]?<;>rfl
theorem clashF_lt(V:Nat→Nat)(len:Nat):∀(n i k:Nat),clashF V len n i=some k→k<len
 |0,i,k,h=>by rw[clashF] at h;cases h
 |n+1,i,k,h=>by
  rw[clashF] at h
  split at h
  ·split at h
   ·cases h;assumption
   ·exact clashF_lt V len n _ k h
  ·cases h
theorem typeF_g(m:Nat):typeF L (m+1)=deepG L (nextG L fun t=>bindG (if t.kind=2 then upG (bindG (tyargsG L m []) fun l=>pureG (.mk 3 t.text 0 l)) else atypeF L m) fun x=>mayG L sArr (bindG (typeF L m) fun y=>pureG (.mk 3 sArr 0 [x,y])) (pureG x)):=by
 funext d a
 rw[typeF]
 unfold deepG nextG bindG mayG pureG
 by_cases h:300<d+1
 ·simp[h]
 ·by_cases k:(tkAt L a).kind=2<;>simp[h,k,upG,bindG,pureG,tyargsG]
theorem atypeF_g(m:Nat):atypeF L (m+1)=nextG L fun t=>if t.kind=2 then upG (pureG (.mk 3 t.text 0 [])) else if t.kind=1 then upG (pureG (.mk 1 t.text 0 []))
  else bindG (takeG L 7 sOp) fun _=>mayG L sCl (pureG (.mk 3 sUn 0 [])) (bindG (typeF L m) fun x=>bindG (takeG L 7 sCl) fun _=>pureG x):=by
 funext d a
 rw[atypeF]
 unfold nextG
 by_cases k2:(tkAt L a).kind=2
 ·simp[k2,upG,pureG]
 ·by_cases k1:(tkAt L a).kind=1
  ·simp[k2,k1,upG,pureG]
  ·simp only[k2,k1,if_false]
   unfold bindG takeG mayG pureG okT wantF
   cases h1:isT L sOp a with
   |false=>simp
   |true=>
    cases h2:isT L sCl (a+1) with
    |true=>simp[h2]
    |false=>
     simp[h2]
     cases typeF L m d (a+1) with
     |out=>rfl
     |err e w=>rfl
     |ok x b=>simp;split<;>rfl
theorem argsF_g(m:Nat)(l:List Ty):tyargsG L (m+1) l=stG L 0 (bindG (atypeF L m) fun x=>tyargsG L m (l++[x])) (pureG l):=by
 funext d a
 unfold tyargsG stG bindG pureG
 rw[argsF]
 have:stW L 0 a=stT L a:=by unfold stW stT;simp
 rw[this]
theorem raw_tk(l:List Tk):Raw 4 (l.map Tk.cells) (l.map Tk.cells):=.of l (fun x=>by simp[Tk.cells]) (fun x=>rfl) (fun x=>by simp[Tk.cells])
theorem appK_tks(l:List Tk)(x:Tk)(k:PV→Res)(hl:l.length≤3000000):appK PG .fail 76 (.pv (.rows (l.map Tk.cells))) (.pv (.rows [[iv x.kind,sv x.text,iv x.n,iv x.at_]])) k=k (.rows ((l++[x]).map Tk.cells)):=by
 rw[appK_raw (P:=PG) (d:=.fail) sl_tks (raw_tk l) (c:=[iv x.kind,sv x.text,iv x.n,iv x.at_]) rfl (by simp) (by simp;omega) (by decide)]
 simp[Tk.cells]
end Go.Proofs.YtfphhabaeggenaaDoor
namespace Go.Proofs.YtfphhabaeggenaaDoor
open Go.RowKit
abbrev ps(L:List Tk)(a:Nat)(d:Int)(l:List PV):List PV:=tks L::iv a::iv d::l
section
variable{L:List Tk}(hW:WfL L)
theorem tkAt_get{a:Nat}(h:a<L.length):L[a]? = some (tkAt L a):=by
 unfold tkAt;rw[List.getElem?_eq_getElem h];rfl
theorem p_next{a:Nat}(h:a<L.length)(d:PV):ev (q25a (tks L) (iv a) d)=some (0,tks L::iv a::d::(tkAt L a).cells):=Evl.of (by
 rw[h25a,g25a]
 have h2:¬L.length≤a:=by omega
 simp[idxK_tks (tkAt_get h),Tk.cells])
include hW
theorem WfL.w1{a:Nat}(h:a<L.length):IntKind.i64.wrap ((a:Int)+1)=((a+1:Nat):Int):=by
 have:=hW.len
 rw[wrap_id (by omega)];omega
theorem p_any{a:Nat}(h:a<L.length)(d:PV):ev (q26a (tks L) (iv a) d)=some (0,tks L::iv (a+1:Nat)::d::(tkAt L a).cells):=Evl.of (by
 rw[h26a,g26a]
 have hw:=hW.w1 h
 simp[p_next h,Tk.cells,hw])
theorem p_is{a:Nat}(h:a<L.length)(x:ByteArray)(d:PV):ev (q44a (sv x) (tks L) (iv a) d)=some (0,[tks L,iv a,d,bv (isT L x a)]):=Evl.of (by
 rw[h44a,g44a]
 have ht:=hW.top a
 unfold isT
 simp[p_next h,Tk.cells]
 by_cases h7:(tkAt L a).kind=7
 ·by_cases hx:(tkAt L a).text=x<;>simp[h7,hx]
 ·by_cases h6:(tkAt L a).kind=6
  ·by_cases hx:(tkAt L a).text=x<;>simp[h6,hx]
  ·have:¬6≤(tkAt L a).kind:=by omega
   simp[h7,h6,this])
theorem p_skip{a:Nat}(h:a<L.length)(x:ByteArray)(d:PV):ev (q31a (sv x) (tks L) (iv a) d)=some (0,[tks L,iv (if isT L x a then a+1 else a:Nat),d,bv (isT L x a)]):=Evl.of (by
 rw[h31a,g31a]
 have hw:=hW.w1 h
 cases hi:isT L x a<;>simp[p_is hW h,hi,hw])
theorem p_fail(e w:Int)(a d:PV):ev (q28a (iv e) (iv w) (tks L) a d)=some (0,[tks L,a,d,iv e,iv w]):=Evl.of (by
 rw[h28a,g28a];simp)
theorem p_want{a:Nat}(h:a<L.length)(x:ByteArray)(d:PV):ev (q35a (sv x) (tks L) (iv a) d)=some (if isT L x a then(0,tks L::iv (a+1:Nat)::d::(tkAt L a).cells) else(1,[tks L,iv a,d,iv 110,iv (tkAt L a).at_])):=Evl.of (by
 rw[h35a,g35a]
 cases hi:isT L x a<;>simp[p_is hW h,hi,p_any hW h,p_next h,Tk.cells,p_fail hW])
theorem p_kind{a:Nat}(h:a<L.length)(k:Int)(d:PV):ev (q22a (iv k) (tks L) (iv a) d)=some (if(tkAt L a).kind=k then(1,tks L::iv (a+1:Nat)::d::(tkAt L a).cells) else(0,[tks L,iv a,d,iv 110,iv (tkAt L a).at_])):=Evl.of (by
 rw[h22a,g22a]
 by_cases hi:(tkAt L a).kind=k
 ·simp[p_next h,Tk.cells,hi,p_any hW h]
 ·simp[p_next h,Tk.cells,hi,p_fail hW])
theorem p_down{a:Nat}(h:a<L.length){d:Int}(h0:0≤d)(h1:d≤300):ev (q23a (tks L) (iv a) (iv d))=some (if 300<d+1 then(0,[tks L,iv a,iv (d+1),iv 111,iv (tkAt L a).at_]) else(1,[tks L,iv a,iv (d+1)])):=Evl.of (by
 rw[h23a,g23a]
 have hw:IntKind.i64.wrap (d+1)=d+1:=wrap_id (by omega)
 by_cases hi:300<d+1
 ·simp[hw,hi,p_next h,Tk.cells,p_fail hW]
 ·simp[hw,hi])
theorem p_starts{a:Nat}(h:a<L.length)(d:PV):ev (q50a (tks L) (iv a) d)=some (0,[tks L,iv a,d,bv (stW L 0 a)]):=Evl.of (by
 rw[h50a,g50a]
 unfold stW
 simp[p_next h,Tk.cells,p_is hW h]
 by_cases h2:(tkAt L a).kind=2
 ·simp[h2]
 ·by_cases h1:(tkAt L a).kind=1
  ·simp[h1,h2]
  ·cases h3:isT L ⟨#[40]⟩ a<;>simp[h1,h2,h3])
theorem p_apats{a:Nat}(h:a<L.length)(d:PV):ev (q84a (tks L) (iv a) d)=some (0,[tks L,iv a,d,bv (stW L 1 a)]):=Evl.of (by
 rw[h84a,g84a]
 unfold stW
 simp[p_next h,Tk.cells,p_is hW h]
 by_cases h2:(tkAt L a).kind=2
 ·simp[h2]
 ·by_cases h1:(tkAt L a).kind=1
  ·simp[h1,h2]
  ·by_cases h4:(tkAt L a).kind=3
   ·simp[h4]
   ·cases h3:isT L ⟨#[40]⟩ a<;>cases h5:isT L ⟨#[95]⟩ a<;>simp[h1,h2,h3,h4,h5])
theorem p_atoms{a:Nat}(h:a<L.length)(d:PV):ev (q48a (tks L) (iv a) d)=some (0,[tks L,iv a,d,bv (stW L 2 a)]):=Evl.of (by
 rw[h48a,g48a]
 unfold stW
 simp[p_next h,Tk.cells,p_is hW h]
 by_cases h2:(tkAt L a).kind=2
 ·simp[h2]
 ·by_cases h1:(tkAt L a).kind=1
  ·simp[h1,h2]
  ·by_cases h4:(tkAt L a).kind=3
   ·simp[h4]
   ·by_cases h6:(tkAt L a).kind=4
    ·simp[h6]
    ·cases h3:isT L ⟨#[40]⟩ a<;>cases h5:isT L ⟨#[99,97,115,101]⟩ a<;>simp[h1,h2,h3,h4,h5,h6])
end
def PG_{α:Type}(L:List Tk)(r:Rz α)(F:α→Nat→Rs→Prop)(E:Int→Int→Rs→Prop)(S:Rs→Prop):Prop:=match r with
 |.out=>True
 |.ok v b=>b<L.length∧∃z,S z∧F v b z
 |.err e w=>∃z,S z∧E e w z
def okS{α:Type}(L:List Tk)(a:Nat)(d:Int)(so:Nat)(enc:α→List PV)(v:α)(b:Nat)(z:Rs):Prop:=a<b∧z=(so,ps L b d (enc v))
def erS(L:List Tk)(se:Nat)(e w:Int)(z:Rs):Prop:=∃(b:Nat) (d:Int),z=(se,ps L b d [iv e,iv w])
def okW{α:Type}(L:List Tk)(a:Nat)(d:Int)(m:List Nat)(enc:α→List PV)(v:α)(b:Nat)(z:Rs):Prop:=a<b∧∃k ys,z=(k,ps L b d ys)∧nth 0 m k=0∧wdPs ys=enc v
def erW(L:List Tk)(m:List Nat)(e w:Int)(z:Rs):Prop:=∃(k b:Nat) (d:Int),z=(k,ps L b d [iv e,iv w])∧nth 0 m k=1
section
variable{α β:Type}{L:List Tk}{F:α→Nat→Rs→Prop}{E E':Int→Int→Rs→Prop}{S:Rs→Prop}{R:Res}{d dd:Int}{a:Nat}
abbrev PE_(L:List Tk)(q:Q)(r:Rz α)(F:α→Nat→Rs→Prop)(E:Int→Int→Rs→Prop):Prop:=PG_ L r F E fun z=>ev q=some z
abbrev PB_(L:List Tk)(R:Res)(r:Rz α)(F:α→Nat→Rs→Prop)(E:Int→Int→Rs→Prop):Prop:=PG_ L r F E fun z=>R=.ok z
theorem PG_.of{q:Q}{r:Rz α}(h:PB_ L (body PG EE TT ev q) r F E):PE_ L q r F E:=by
 cases r with
 |out=>trivial
 |ok v b=>obtain⟨h0,z,h1,h2⟩:=h;exact⟨h0,z,Evl.of h1,h2⟩
 |err e w=>obtain⟨z,h1,h2⟩:=h;exact⟨z,Evl.of h1,h2⟩
theorem PG_.bind{G:β→Nat→Rs→Prop}{q:Q}{p:GM β}{k:β→GM α}(h:PE_ L q (p dd a) G E')
  (hok:∀v b z,b<L.length→ev q=some z→G v b z→PG_ L (k v dd b) F E S) (herr:∀e w z,ev q=some z→E' e w z→∃z',S z'∧E e w z'):PG_ L (bindG p k dd a) F E S:=by
 unfold bindG
 cases hr:p dd a with
 |out=>trivial
 |err e w=>
  rw[hr] at h
  obtain⟨z,h1,h2⟩:=h
  exact herr e w z h1 h2
 |ok v b=>
  rw[hr] at h
  obtain⟨h0,z,h1,h2⟩:=h
  exact hok v b z h0 h1 h2
theorem PG_.may{x:ByteArray}{A B:GM α}(ht:isT L x a=true→PG_ L (A dd (a+1)) F E S)(hf:isT L x a=false→PG_ L (B dd a) F E S):PG_ L (mayG L x A B dd a) F E S:=by
 unfold mayG
 cases h:isT L x a with
 |true=>simpa using ht h
 |false=>simpa using hf h
theorem PG_.kind{k:Int}{A B:GM α}(ht:(tkAt L a).kind=k→PG_ L (A dd a) F E S)(hf:(tkAt L a).kind≠k→PG_ L (B dd a) F E S):PG_ L (kindG L k A B dd a) F E S:=by
 unfold kindG
 by_cases h:(tkAt L a).kind=k
 ·rw[if_pos h];exact ht h
 ·rw[if_neg h];exact hf h
theorem PG_.st{w:Int}{A B:GM α}(ht:stW L w a=true→PG_ L (A dd a) F E S)(hf:stW L w a=false→PG_ L (B dd a) F E S):PG_ L (stG L w A B dd a) F E S:=by
 unfold stG
 cases h:stW L w a with
 |true=>simpa using ht h
 |false=>simpa using hf h
theorem PG_.next{k:Tk→GM α}(h:PG_ L (k (tkAt L a) dd a) F E S):PG_ L (nextG L k dd a) F E S:=h
theorem PG_.up{p:GM α}(h:PG_ L (p dd (a+1)) F E S):PG_ L (upG p dd a) F E S:=h
theorem PG_.if'{c:Prop}[Decidable c]{A B:GM α}(ht:c→PG_ L (A dd a) F E S)(hf:¬c→PG_ L (B dd a) F E S):PG_ L ((if c then A else B) dd a) F E S:=by
 by_cases h:c
 ·rw[if_pos h];exact ht h
 ·rw[if_neg h];exact hf h
theorem PG_.deep{A:GM α}(he:300<dd+1→∃z,S z∧E 111 (tkAt L a).at_ z)(hok:¬300<dd+1→PG_ L (A (dd+1) a) F E S):PG_ L (deepG L A dd a) F E S:=by
 unfold deepG
 by_cases h:300<dd+1
 ·rw[if_pos h];exact he h
 ·rw[if_neg h];exact hok h
theorem PG_.pure{v:α}{z:Rs}(ha:a<L.length)(hR:S z)(hF:F v a z):PG_ L (pureG v dd a) F E S:=⟨ha,z,hR,hF⟩
theorem PG_.callW{q:Q}{p:GM β}{k:β→GM α}{so se:Nat}{enc:β→List PV}(h:PE_ L q (p dd a) (okS L a dd so enc) (erS L se))
  (hok:∀v b,b<L.length→a<b→ev q=some (so,ps L b dd (enc v))→PG_ L (k v dd b) F E S) (herr:∀e w b d',ev q=some (se,ps L b d' [iv e,iv w])→∃z',S z'∧E e w z'):PG_ L (bindG p k dd a) F E S:=
 .bind h (fun v b z hb hz hF=>by obtain⟨h1,rfl⟩:=hF;exact hok v b hb h1 hz) (fun e w z hz hE=>by obtain⟨b,d',rfl⟩:=hE;exact herr e w b d' hz)
theorem PG_.take{k:Int}{x:ByteArray}{f:Tk→GM α}(hk:¬k<6)(hok:isT L x a=true→PG_ L (f (tkAt L a) dd (a+1)) F E S)(herr:isT L x a=false→∃z,S z∧E 110 (tkAt L a).at_ z):PG_ L (bindG (takeG L k x) f dd a) F E S:=by
 unfold bindG takeG okT
 simp only[if_neg hk]
 cases h:isT L x a with
 |true=>simp only[if_true];exact hok h
 |false=>simp only[Bool.false_eq_true,if_false];exact herr h
theorem PG_.takeK{k:Int}{x:ByteArray}{f:Tk→GM α}(hk:k<6)(hok:(tkAt L a).kind=k→PG_ L (f (tkAt L a) dd (a+1)) F E S)(herr:(tkAt L a).kind≠k→∃z,S z∧E 110 (tkAt L a).at_ z):PG_ L (bindG (takeG L k x) f dd a) F E S:=by
 unfold bindG takeG okT
 simp only[if_pos hk]
 by_cases h:(tkAt L a).kind=k
 ·rw[decide_eq_true h];simp only[if_true];exact hok h
 ·rw[decide_eq_false h];simp only[Bool.false_eq_true,if_false];exact herr h
theorem PG_.weak{q qw:Q}{r:Rz α}{enc:α→List PV}{m:List Nat}(hw:body PG EE TT ev qw=weakM m (ev q))(h:PE_ L q r (okW L a d m enc) (erW L m)):PE_ L qw r (okS L a d 0 enc) (erS L 1):=by
 cases r with
 |out=>trivial
 |ok v b=>
  obtain⟨h0,z,h1,h2,k,ys,rfl,hk,hy⟩:=h
  refine⟨h0,_,Evl.of ?_,h2,rfl⟩
  rw[hw,h1,weakM_some,hk]
  simp[hy]
 |err e w=>
  obtain⟨z,h1,k,b,d',rfl,hk⟩:=h
  refine⟨_,Evl.of ?_,b,d',rfl⟩
  rw[hw,h1,weakM_some,hk]
theorem okW.of{m:List Nat}{enc:α→List PV}{v:α}{b k:Nat}{ys:List PV}(ha:a<b)(hk:nth 0 m k=0)(hy:wdPs ys=enc v):okW L a d m enc v b (k,ps L b d ys):=⟨ha,k,ys,rfl,hk,hy⟩
theorem erW.of{m:List Nat}{b k:Nat}{e w:Int}(hk:nth 0 m k=1):erW L m e w (k,ps L b d [iv e,iv w]):=⟨k,b,d,rfl,hk⟩
variable(hW:WfL L)
include hW
theorem p_kindP(h:a<L.length){k:Int}(h1:1≤k)(h6:k<6)(x:ByteArray):PE_ L (q22a (iv k) (tks L) (iv a) (iv d)) (takeG L k x d a) (okS L a d 1 Tk.cells) (erS L 0):=by
 have hq:=p_kind hW h k (iv d)
 unfold takeG okT
 simp only[if_pos h6]
 by_cases hi:(tkAt L a).kind=k
 ·simp only[hi,decide_true,if_true] at hq ⊢
  exact⟨hW.fin a (by omega),_,hq,Nat.lt_succ_self _,rfl⟩
 ·simp only[hi,decide_false,Bool.false_eq_true,if_false] at hq ⊢
  exact⟨_,hq,a,d,rfl⟩
end
abbrev pTy(L:List Tk)(a:Nat)(d:Int):Q:=q54aw (tks L) (iv a) (iv d)
abbrev pAt(L:List Tk)(a:Nat)(d:Int):Q:=q51aw (tks L) (iv a) (iv d)
abbrev pBt(L:List Tk)(a:Nat)(d:Int):Q:=q69aw (tks L) (iv a) (iv d)
abbrev zz:List PV:=[iv 0,sv eB,iv 0,.lit (.slice none 0 0)]
abbrev Pa{α:Type}(L:List Tk)(q:Nat→Int→Q)(enc:α→List PV)(g:GM α):Prop:=∀(a:Nat) (d:Int),0≤d→d≤300→a<L.length→PE_ L (q a d) (g d a) (okS L a d 0 enc) (erS L 1)
def btG(L:List Tk)(n:Nat):GM Ty:=nextG L fun t=>if t.kind=2 then upG (bindG (tyargsG L n []) fun l=>pureG (.mk 3 t.text 0 l)) else atypeF L n
section
variable{L:List Tk}(hW:WfL L)
include hW
theorem s_args{n:Nat}(nm:ByteArray):∀(m:Nat),m≤n→(∀m,m≤n→Pa L (pAt L) tyC (atypeF L m))→∀(l:List Ty) (a:Nat) (d:Int),0≤d→d≤300→a<L.length→l.length≤a→PE_ L (q69ab0b (tks L) (iv a) (iv d) (sv nm) (l.map Ty.cells)) (tyargsG L m l d a)
  (fun v b z=>a≤b∧(l≠[]→v≠[])∧z=(3,ps L b d (iv 3::sv nm::iv 0::tys v::zz))) (fun e w z=>∃(b:Nat) (d':Int) (T:PV),z=(2,ps L b d' (iv 3::sv nm::iv 0::T::(zz++[iv e,iv w])))):=by
 intro m hm hat
 induction m with
 |zero=>intro l a d h0 h1 ha hl;unfold tyargsG;rw[argsF];trivial
 |succ m ih=>
  intro l a d h0 h1 ha hl
  refine .of ?_
  rw[argsF_g,h69ab0b,g69ab0b]
  simp[p_starts hW ha]
  refine .st (fun hs=>?_) (fun hs=>?_)
  ·simp[hs]
   refine .callW (hat m (by omega) a d h0 h1 ha) (fun v b hb hab g=>?_) (fun e w b d' g=>?_)
   ·simp[g]
    have hap:=fun k'=>appK_raw (P:=PG) (d:=.fail) (k:=k') slTy (raw_tys l) (c:=tyC v) rfl (by simp) (by have:=hW.len;simp;omega) (by decide)
    simp[hap]
    have hn:=ih (by omega) (l++[v]) b d h0 h1 hb (by simp;omega)
    rw[List.map_append,List.map_cons,List.map_nil,Ty.cells_eq v] at hn
    cases hr:tyargsG L m (l++[v]) d b with
    |out=>trivial
    |err e w=>rw[hr] at hn;obtain⟨z,g1,b2,d',T,rfl⟩:=hn;exact⟨_,by simp[g1],b2,d',T,rfl⟩
    |ok v2 b2=>rw[hr] at hn;obtain⟨hb2,z,g1,h5,h6,rfl⟩:=hn;exact⟨hb2,_,by simp[g1],by omega,fun _=>h6 (by simp),rfl⟩
   ·exact⟨_,by simp[g,tys],b,d',tys l,rfl⟩
  ·exact .pure ha (by simp[hs,tys]) ⟨Nat.le_refl _,fun h=>h,rfl⟩
theorem s_argsA{n:Nat}(nm:ByteArray)(m:Nat)(hm:m≤n+1)(hat:∀m,m≤n→Pa L (pAt L) tyC (atypeF L m))(a:Nat)(d:Int)(h0:0≤d)(h1:d≤300)(ha:a<L.length)(hpos:0<a):PE_ L (q69ab0a (tks L) (iv a) (iv d) (sv nm)) (tyargsG L m [] d a)
  (fun v b z=>a≤b∧z=(match v with|[]=>(1,ps L b d (iv 3::sv nm::iv 0::nS::zz))|_::_=>(3,ps L b d (iv 3::sv nm::iv 0::tys v::zz))))
  (fun e w z=>∃(b:Nat) (d':Int),z=(0,ps L b d' (iv 3::sv nm::iv 0::nS::(zz++[iv e,iv w])))∨∃T,z=(2,ps L b d' (iv 3::sv nm::iv 0::T::(zz++[iv e,iv w])))):=by
 cases m with
 |zero=>unfold tyargsG;rw[argsF];trivial
 |succ m=>
  refine .of ?_
  rw[argsF_g,h69ab0a,g69ab0a]
  simp[p_starts hW ha]
  refine .st (fun hs=>?_) (fun hs=>?_)
  ·simp[hs]
   refine .callW (hat m (by omega) a d h0 h1 ha) (fun v b hb hab g=>?_) (fun e w b d' g=>?_)
   ·simp[g]
    have hn:=s_args hW nm m (by omega) hat [v] b d h0 h1 hb (by simp;omega)
    rw[List.map_cons,List.map_nil,Ty.cells_eq v] at hn
    cases hr:tyargsG L m [v] d b with
    |out=>trivial
    |err e w=>rw[hr] at hn;obtain⟨z,g1,b2,d',T,rfl⟩:=hn;exact⟨_,by simp[g1],b2,d',.inr ⟨T,rfl⟩⟩
    |ok v2 b2=>
     rw[hr] at hn
     obtain⟨hb2,z,g1,h5,h6,rfl⟩:=hn
     cases v2 with
     |nil=>exact absurd rfl (h6 (by simp))
     |cons x l=>exact⟨hb2,_,by simp[g1],by omega,rfl⟩
   ·exact⟨_,by simp[g],b,d',.inl rfl⟩
  ·exact .pure ha (by simp[hs]) ⟨Nat.le_refl _,rfl⟩
theorem s_btype{n:Nat}(hat:∀m,m≤n→Pa L (pAt L) tyC (atypeF L m)):Pa L (pBt L) tyC (btG L n):=by
 intro a d h0 h1 ha
 refine .weak (h69aw ev _ _ _) (.of ?_)
 rw[h69a,g69a]
 simp[p_next ha,Tk.cells]
 refine .next (.if' (fun k2=>?_) (fun k2=>?_))
 ·simp[k2]
  have hl:=hW.fin a (by omega)
  simp[-Int.natCast_add,p_any hW ha,Tk.cells]
  have hn:=s_argsA hW (tkAt L a).text n (by omega) hat (a+1) d h0 h1 hl (by omega)
  refine .up (.bind hn (fun v b z hb g hz=>?_) (fun e w z g hz=>?_))
  ·obtain⟨hab,hz⟩:=hz
   cases v with
   |nil=>
    subst hz
    exact .pure hb (by simp[-Int.natCast_add,g]) (.of (m:=[0,1,0]) (k:=0) (ys:=[iv 3,sv (tkAt L a).text,iv 0,nS]) (by omega) rfl (by simp[tys]))
   |cons x l=>
    subst hz
    exact .pure hb (by simp[-Int.natCast_add,g]) (.of (m:=[0,1,0]) (k:=2) (ys:=[iv 3,sv (tkAt L a).text,iv 0,tys (x::l)]) (by omega) rfl (by simp))
  ·obtain⟨b,d',rfl|⟨T,rfl⟩⟩:=hz
   ·exact⟨_,by simp[-Int.natCast_add,g],.of (m:=[0,1,0]) (b:=b) (d:=d') (k:=1) rfl⟩
   ·exact⟨_,by simp[-Int.natCast_add,g],.of (m:=[0,1,0]) (b:=b) (d:=d') (k:=1) rfl⟩
 ·simp[k2]
  have ht:=hat n (Nat.le_refl _) a d h0 h1 ha
  cases hr:atypeF L n d a with
  |out=>trivial
  |err e w=>rw[hr] at ht;obtain⟨z,g,b,d',rfl⟩:=ht;exact⟨_,by simp[g],.of (m:=[0,1,0]) (b:=b) (d:=d') (k:=1) rfl⟩
  |ok v b=>rw[hr] at ht;obtain⟨hb,z,g,hab,rfl⟩:=ht;exact⟨hb,_,by simp[g],.of (m:=[0,1,0]) (k:=0) (ys:=tyC v) hab rfl (by simp)⟩
theorem s_atype{n:Nat}(ih:Pa L (pTy L) tyC (typeF L n)):Pa L (pAt L) tyC (atypeF L (n+1)):=by
 intro a d h0 h1 ha
 refine .weak (h51aw ev _ _ _) (.of ?_)
 rw[atypeF_g,h51a,g51a]
 simp[-Int.natCast_add,p_any hW ha,Tk.cells]
 refine .next (.if' (fun k2=>?_) (fun k2=>.if' (fun k1=>?_) (fun k1=>?_)))
 ·exact .up (.pure (hW.fin a (by omega)) (by simp[-Int.natCast_add,k2]) (.of (m:=[0,1]) (k:=0) (ys:=[iv 3,sv (tkAt L a).text,iv 0,nS]) (by omega) rfl (by simp[tys])))
 ·exact .up (.pure (hW.fin a (by omega)) (by simp[-Int.natCast_add,k1]) (.of (m:=[0,1]) (k:=0) (ys:=[iv 1,sv (tkAt L a).text,iv 0,nS]) (by omega) rfl (by simp[tys])))
 ·have ka:(tkAt L a).kind=7→(tkAt L a).text=sOp→isT L sOp a=true:=fun h1 h2=>by unfold isT;simp[h1,h2]
  refine .take (by decide) (fun ho=>?_) (fun ho=>?_)
  ·have hk:(tkAt L a).kind=7∧(tkAt L a).text=sOp:=by
    unfold isT at ho
    rw[Bool.and_eq_true,decide_eq_true_eq,decide_eq_true_eq] at ho
    have ht:=hW.top a
    have h6:(tkAt L a).kind≠6:=fun h6=>(hW.k6 a h6).1 ho.2
    exact⟨by omega,ho.2⟩
   have hl:=hW.fin a (by omega)
   simp[-Int.natCast_add,hk.1,hk.2]
   simp[-Int.natCast_add,p_skip hW hl]
   refine .may (fun hc=>?_) (fun hc=>?_)
   ·have hl2:=hW.fin (a+1) (by intro h0;unfold isT at hc;simp[h0] at hc)
    exact .pure hl2 (by simp[-Int.natCast_add,hc]) (.of (m:=[0,1]) (k:=0) (ys:=[iv 3,sv sUn,iv 0,nS]) (by omega) rfl (by simp[tys]))
   ·simp[-Int.natCast_add,hc]
    refine .callW (ih (a+1) d h0 h1 hl) (fun v b hb hab g=>?_) (fun e w b d' g=>?_)
    ·simp[-Int.natCast_add,g]
     refine .take (by decide) (fun hc=>?_) (fun hc=>?_)
     ·have hb2:=hW.fin b (by intro h0;unfold isT at hc;simp[h0] at hc)
      exact .pure hb2 (by simp[-Int.natCast_add,p_want hW hb,hc,Tk.cells]) (.of (m:=[0,1]) (k:=0) (ys:=tyC v) (by omega) rfl (by simp))
     ·exact⟨_,by simp[-Int.natCast_add,p_want hW hb,hc],.of (m:=[0,1]) (b:=b) (d:=d) (k:=1) rfl⟩
    ·exact⟨_,by simp[-Int.natCast_add,g],.of (m:=[0,1]) (b:=b) (d:=d') (k:=1) rfl⟩
  ·refine⟨_,?_,.of (m:=[0,1]) (b:=a+1) (d:=d) (k:=1) rfl⟩
   by_cases k7:(tkAt L a).kind=7
   ·have kx:¬(tkAt L a).text=sOp:=fun h=>by rw[ka k7 h] at ho;cases ho
    simp[-Int.natCast_add,k7,kx,p_fail hW]
   ·simp[-Int.natCast_add,k2,k1,k7,p_fail hW]
theorem s_type{n:Nat}(ih:Pa L (pTy L) tyC (typeF L n))(hbt:Pa L (pBt L) tyC (btG L n)):Pa L (pTy L) tyC (typeF L (n+1)):=by
 intro a d h0 h1 ha
 refine .weak (h54aw ev _ _ _) (.of ?_)
 rw[typeF_g,h54a,g54a]
 simp[p_down hW ha h0 h1]
 refine .deep (fun hd=>?_) (fun hd=>?_)
 ·exact⟨_,by simp[hd],.of (m:=[0,1,0]) (b:=a) (d:=d+1) (k:=1) rfl⟩
 ·simp[hd]
  have hw:IntKind.i64.wrap d=d:=wrap_id (by omega)
  have hq:=hbt a (d+1) (by omega) (by omega) ha
  show PG_ L (bindG (btG L n) (fun x=>mayG L sArr (bindG (typeF L n) fun y=>pureG (.mk 3 sArr 0 [x,y])) (pureG x)) (d+1) a) _ _ _
  refine .callW hq (fun v b hb hab g=>?_) (fun e w b d' g=>?_)
  ·simp[g,p_skip hW hb]
   refine .may (fun hc=>?_) (fun hc=>?_)
   ·have hl2:=hW.fin b (by intro h0;unfold isT at hc;simp[h0] at hc)
    simp[-Int.natCast_add,hc]
    refine .callW (ih (b+1) (d+1) (by omega) (by omega) hl2) (fun v2 b2 hb2 hab2 g2=>?_) (fun e w b2 d' g2=>?_)
    ·exact .pure hb2 (by simp[-Int.natCast_add,g2,hw]) (.of (m:=[0,1,0]) (k:=0) (ys:=[iv 3,sv sArr,iv 0,.rows [tyC v,tyC v2]]) (by omega) rfl (by simp[wdP_rows,wdPss_cons,wdPss_nil,tys_two]))
    ·exact⟨_,by simp[-Int.natCast_add,g2];rfl,.of (m:=[0,1,0]) (b:=b2) (k:=1) rfl⟩
   ·exact .pure hb (by simp[hc,hw]) (.of (m:=[0,1,0]) (k:=2) (ys:=tyC v) (by omega) rfl (by simp))
  ·exact⟨_,by simp[g];rfl,.of (m:=[0,1,0]) (b:=b) (k:=1) rfl⟩
theorem s_types:∀n m,m≤n→Pa L (pTy L) tyC (typeF L m)∧Pa L (pAt L) tyC (atypeF L m)
 |_,0,_=>⟨fun a d _ _ _=>by rw[typeF];trivial,fun a d _ _ _=>by rw[atypeF];trivial⟩
 |n+1,m+1,hm=>⟨s_type hW (s_types n m (by omega)).1 (s_btype hW fun k hk=>(s_types n k (by omega)).2),s_atype hW (s_types n m (by omega)).1⟩
theorem s_ty(n:Nat):Pa L (pTy L) tyC (typeF L n):=(s_types hW n n (Nat.le_refl _)).1
theorem s_at(n:Nat):Pa L (pAt L) tyC (atypeF L n):=(s_types hW n n (Nat.le_refl _)).2
end
abbrev pPt(L:List Tk)(a:Nat)(d:Int):Q:=q76aw (tks L) (iv a) (iv d)
abbrev pApR(L:List Tk)(a:Nat)(d:Int):Q:=q83a (tks L) (iv a) (iv d)
abbrev pApW(L:List Tk)(a:Nat)(d:Int):Q:=q83aw (tks L) (iv a) (iv d)
def okAp(L:List Tk)(a:Nat)(d:Int)(v:Pt)(b:Nat)(z:Rs):Prop:=a<b∧∃K,z=(0,ps L b d [iv v.kind,sv v.name,iv v.n,K,iv v.at_])∧(K=nS∧v.kids=[]∨K=pts v.kids∧(tkAt L a).kind≠2)
abbrev PaA(L:List Tk)(g:GM Pt):Prop:=∀(a:Nat) (d:Int),0≤d→d≤300→a<L.length→PE_ L (pApR L a d) (g d a) (okAp L a d) (erS L 1)
theorem apat_w{L:List Tk}{a:Nat}{d:Int}{z:Rs}(h:ev (pApR L a d)=some z):ev (pApW L a d)=some (match z.1 with|0=>(0,wdPs z.2)|k=>(1,z.2))∨z.1≠0∧z.1≠1:=by
 obtain⟨k,ys⟩:=z
 match k with
 |0=>exact .inl (Evl.of (by rw[h83aw ev,h,weakM_some];rfl))
 |1=>exact .inl (Evl.of (by rw[h83aw ev,h,weakM_some];rfl))
 |k+2=>exact .inr ⟨by simp,by simp⟩
section
variable{L:List Tk}(hW:WfL L)
include hW
theorem isT_fin{a:Nat}{x:ByteArray}(h:isT L x a=true):a+1<L.length:=hW.fin a (by intro h0;unfold isT at h;simp[h0] at h)
theorem isT_7{a:Nat}{x:ByteArray}(hx:x=sOp∨x=sUs)(h:isT L x a=true):(tkAt L a).kind=7∧(tkAt L a).text=x:=by
 unfold isT at h
 rw[Bool.and_eq_true,decide_eq_true_eq,decide_eq_true_eq] at h
 have ht:=hW.top a
 have h6:(tkAt L a).kind≠6:=fun h6=>by rcases hx with rfl|rfl;exact(hW.k6 a h6).1 h.2;exact(hW.k6 a h6).2 h.2
 exact⟨by omega,h.2⟩
omit hW in
theorem isT_no{a:Nat}{x:ByteArray}(h:isT L x a=false)(k7:(tkAt L a).kind=7):¬(tkAt L a).text=x:=fun h2=>by unfold isT at h;simp[k7,h2] at h
theorem s_apat{n:Nat}(ih:Pa L (pPt L) ptC (patG L n)):PaA L (apatG L (n+1)):=by
 intro a d h0 h1 ha
 refine .of ?_
 rw[apatG,h83a,g83a]
 simp[-Int.natCast_add,p_any hW ha,Tk.cells]
 refine .next (.if' (fun k2=>?_) (fun k2=>.if' (fun k1=>?_) (fun k1=>.if' (fun k3=>?_) (fun k3=>?_))))
 ·exact .up (.pure (hW.fin a (by omega)) (by simp[-Int.natCast_add,k2]) ⟨by omega,nS,rfl,.inl ⟨rfl,rfl⟩⟩)
 ·exact .up (.pure (hW.fin a (by omega)) (by simp[-Int.natCast_add,k1]) ⟨by omega,nS,rfl,.inl ⟨rfl,rfl⟩⟩)
 ·exact .up (.pure (hW.fin a (by omega)) (by simp[-Int.natCast_add,k3]) ⟨by omega,nS,rfl,.inl ⟨rfl,rfl⟩⟩)
 ·refine .may (fun hu=>?_) (fun hu=>?_)
  ·obtain⟨k7,hx⟩:=isT_7 hW (.inr rfl) hu
   exact .pure (isT_fin hW hu) (by simp[-Int.natCast_add,k7,hx]) ⟨by omega,nS,rfl,.inl ⟨rfl,rfl⟩⟩
  ·refine .take (by decide) (fun ho=>?_) (fun ho=>?_)
   ·obtain⟨k7,hx⟩:=isT_7 hW (.inl rfl) ho
    have hl:=isT_fin hW ho
    simp[-Int.natCast_add,k7,hx]
    simp[-Int.natCast_add,p_skip hW hl]
    refine .may (fun hc=>?_) (fun hc=>?_)
    ·exact .pure (isT_fin hW hc) (by simp[-Int.natCast_add,hc]) ⟨by omega,nS,rfl,.inl ⟨rfl,rfl⟩⟩
    ·simp[-Int.natCast_add,hc]
     refine .callW (ih (a+1) d h0 h1 hl) (fun v b hb hab g=>?_) (fun e w b d' g=>?_)
     ·simp[-Int.natCast_add,g]
      refine .take (by decide) (fun hc=>?_) (fun hc=>?_)
      ·exact .pure (isT_fin hW hc) (by simp[-Int.natCast_add,p_want hW hb,hc,Tk.cells]) ⟨by omega,pts v.kids,rfl,.inr ⟨rfl,k2⟩⟩
      ·exact⟨_,by simp[-Int.natCast_add,p_want hW hb,hc],b,d,rfl⟩
     ·exact⟨_,by simp[-Int.natCast_add,g],b,d',rfl⟩
   ·refine⟨_,?_,a+1,d,rfl⟩
    by_cases k7:(tkAt L a).kind=7
    ·simp[-Int.natCast_add,k7,isT_no ho k7,isT_no hu k7,p_fail hW]
    ·simp[-Int.natCast_add,k2,k1,k3,k7,p_fail hW]
omit hW in
theorem pt_raw{K:PV}{v:Pt}(hK:K=nS∧v.kids=[]∨K=pts v.kids):wdPs [iv v.kind,sv v.name,iv v.n,K,iv v.at_]=v.cells∧NSL [iv v.kind,sv v.name,iv v.n,K,iv v.at_]:=by
 rcases hK with⟨rfl,h⟩|rfl
 ·exact⟨by rw[Pt.cells_eq];simp[h],by simp⟩
 ·exact⟨by rw[Pt.cells_eq];simp,by simp⟩
theorem s_pats{n:Nat}(k:Int)(nm:ByteArray)(z0:Int)(at0:Int):∀(m:Nat),m≤n→(∀m,m≤n→PaA L (apatG L m))→∀(l:List Pt) (es:List (List PV)) (a:Nat) (d:Int),0≤d→d≤300→a<L.length→l.length≤a→Raw 5 es (l.map Pt.cells)→PE_ L (q76ab0e (tks L) (iv a) (iv d) (iv k) (sv nm) (iv z0) es (iv at0)) (patsG L m l d a)
  (fun v b z=>a≤b∧∃es',Raw 5 es' (v.map Pt.cells)∧z=(3,ps L b d [iv k,sv nm,iv z0,.rows es',iv at0,iv 0,sv eB,iv 0,nS,iv 0])) (fun e w z=>∃(b:Nat) (d':Int) (T:PV),z=(2,ps L b d' [iv k,sv nm,iv z0,T,iv at0,iv 0,sv eB,iv 0,nS,iv 0,iv e,iv w])):=by
 intro m hm hat
 induction m with
 |zero=>intro l es a d h0 h1 ha hl hr;rw[patsG];trivial
 |succ m ih=>
  intro l es a d h0 h1 ha hl hr
  refine .of ?_
  rw[patsG,h76ab0e,g76ab0e]
  simp[p_apats hW ha]
  refine .st (fun hs=>?_) (fun hs=>?_)
  ·simp[hs]
   refine .bind (hat m (by omega) a d h0 h1 ha) (fun v b z hb g hz=>?_) (fun e w z g hz=>?_)
   ·obtain⟨hab,K,rfl,hK⟩:=hz
    have gw:=(apat_w g).resolve_right (fun h=>h.1 rfl)
    obtain⟨hc,hns⟩:=pt_raw (v:=v) (hK.imp id And.left)
    have hln:=hr.len
    rw[List.length_map] at hln
    have hap:=fun k'=>appK_raw (P:=PG) (d:=.fail) (k:=k') slPt hr (c:=[iv v.kind,sv v.name,iv v.n,K,iv v.at_]) rfl hns (by have:=hW.len;omega) (by decide)
    have hapw:=fun k'=>appK_raw (P:=PG) (d:=.fail) (k:=k') slPt hr (c:=ptC v) rfl (by simp) (by have:=hW.len;omega) (by decide)
    have hr2:Raw 5 (es++[[iv v.kind,sv v.name,iv v.n,K,iv v.at_]]) ((l++[v]).map Pt.cells):=by
     have:=hr.app (c:=[iv v.kind,sv v.name,iv v.n,K,iv v.at_]) hc rfl hns
     simpa using this
    have hr3:Raw 5 (es++[ptC v]) ((l++[v]).map Pt.cells):=by
     have:=hr.app (c:=ptC v) (c':=v.cells) (by rw[Pt.cells_eq];simp) rfl (by simp)
     simpa using this
    have key:∀es',Raw 5 es' ((l++[v]).map Pt.cells)→_:=fun es' he=>ih (by omega) (l++[v]) es' b d h0 h1 hb (by simp;omega) he
    rcases hK with⟨rfl,hk⟩|⟨rfl,hk⟩
    ·simp[g,gw,hap]
     have hn:=key _ hr2
     cases hr:patsG L m (l++[v]) d b with
     |out=>trivial
     |err e w=>rw[hr] at hn;obtain⟨z,g1,b2,d',T,rfl⟩:=hn;exact⟨_,by simp[g1],b2,d',T,rfl⟩
     |ok v2 b2=>rw[hr] at hn;obtain⟨hb2,z,g1,h5,es',h6,rfl⟩:=hn;exact⟨hb2,_,by simp[g1],by omega,es',h6,rfl⟩
    ·have gw:ev (pApW L a d)=some (0,ps L b d (ptC v)):=by simpa using gw
     have hx:∀k:Res,isK .fail nS (pts v.kids) k=.fail:=fun k=>isK_nilr _ _ _
     simp[g,gw,hx,hapw]
     have hn:=key _ hr3
     cases hr:patsG L m (l++[v]) d b with
     |out=>trivial
     |err e w=>rw[hr] at hn;obtain⟨z,g1,b2,d',T,rfl⟩:=hn;exact⟨_,by simp[g1],b2,d',T,rfl⟩
     |ok v2 b2=>rw[hr] at hn;obtain⟨hb2,z,g1,h5,es',h6,rfl⟩:=hn;exact⟨hb2,_,by simp[g1],by omega,es',h6,rfl⟩
   ·obtain⟨b,d',rfl⟩:=hz
    have gw:=(apat_w g).resolve_right (fun h=>h.2 rfl)
    exact⟨_,by simp[g,gw],b,d',.rows es,rfl⟩
  ·exact .pure ha (by simp[hs]) ⟨Nat.le_refl _,es,hr,rfl⟩
theorem s_patsA{n:Nat}(k:Int)(nm:ByteArray)(z0:Int)(at0:Int)(m:Nat)(hm:m≤n)(hat:∀m,m≤n→PaA L (apatG L m))(a:Nat)(d:Int)(h0:0≤d)(h1:d≤300)(ha:a<L.length):PE_ L (q76ab0a (tks L) (iv a) (iv d) (iv k) (sv nm) (iv z0) (iv at0)) (patsG L m [] d a)
  (fun v b z=>a≤b∧(v=[]∧z=(1,ps L b d [iv k,sv nm,iv z0,nS,iv at0,iv 0,sv eB,iv 0,nS,iv 0])∨∃es',Raw 5 es' (v.map Pt.cells)∧z=(3,ps L b d [iv k,sv nm,iv z0,.rows es',iv at0,iv 0,sv eB,iv 0,nS,iv 0])))
  (fun e w z=>∃(b:Nat) (d':Int),z=(0,ps L b d' [iv k,sv nm,iv z0,nS,iv at0,iv 0,sv eB,iv 0,nS,iv 0,iv e,iv w])∨∃(T:PV),z=(2,ps L b d' [iv k,sv nm,iv z0,T,iv at0,iv 0,sv eB,iv 0,nS,iv 0,iv e,iv w])):=by
 cases m with
 |zero=>rw[patsG];trivial
 |succ m=>
  refine .of ?_
  rw[patsG,h76ab0a,g76ab0a]
  simp[p_apats hW ha]
  refine .st (fun hs=>?_) (fun hs=>?_)
  ·simp[hs]
   refine .bind (hat m (by omega) a d h0 h1 ha) (fun v b z hb g hz=>?_) (fun e w z g hz=>?_)
   ·obtain⟨hab,K,rfl,hK⟩:=hz
    have gw:=(apat_w g).resolve_right (fun h=>h.1 rfl)
    obtain⟨hc,hns⟩:=pt_raw (v:=v) (hK.imp id And.left)
    have hr2:Raw 5 [[iv v.kind,sv v.name,iv v.n,K,iv v.at_]] ([v].map Pt.cells):=.one hc rfl hns
    have hr3:Raw 5 [ptC v] ([v].map Pt.cells):=.one (by rw[Pt.cells_eq];simp) rfl (by simp)
    have key:∀es',Raw 5 es' ([v].map Pt.cells)→_:=fun es' he=>s_pats hW k nm z0 at0 m (by omega) hat [v] es' b d h0 h1 hb (by simp;omega) he
    rcases hK with⟨rfl,hk⟩|⟨rfl,hk⟩
    ·simp[g,gw]
     have hn:=key _ hr2
     cases hr:patsG L m [v] d b with
     |out=>trivial
     |err e w=>rw[hr] at hn;obtain⟨z,g1,b2,d',T,rfl⟩:=hn;exact⟨_,by simp[g1],b2,d',.inr ⟨T,rfl⟩⟩
     |ok v2 b2=>rw[hr] at hn;obtain⟨hb2,z,g1,h5,es',h6,rfl⟩:=hn;exact⟨hb2,_,by simp[g1],by omega,.inr ⟨es',h6,rfl⟩⟩
    ·have gw:ev (pApW L a d)=some (0,ps L b d (ptC v)):=by simpa using gw
     have hx:∀k:Res,isK .fail nS (pts v.kids) k=.fail:=fun k=>isK_nilr _ _ _
     simp[g,gw,hx]
     have hn:=key _ hr3
     cases hr:patsG L m [v] d b with
     |out=>trivial
     |err e w=>rw[hr] at hn;obtain⟨z,g1,b2,d',T,rfl⟩:=hn;exact⟨_,by simp[g1],b2,d',.inr ⟨T,rfl⟩⟩
     |ok v2 b2=>rw[hr] at hn;obtain⟨hb2,z,g1,h5,es',h6,rfl⟩:=hn;exact⟨hb2,_,by simp[g1],by omega,.inr ⟨es',h6,rfl⟩⟩
   ·obtain⟨b,d',rfl⟩:=hz
    have gw:=(apat_w g).resolve_right (fun h=>h.2 rfl)
    exact⟨_,by simp[g,gw],b,d',.inl rfl⟩
  ·exact .pure ha (by simp[hs]) ⟨Nat.le_refl _,.inl ⟨rfl,rfl⟩⟩
theorem s_pat{n:Nat}(hat:∀m,m≤n→PaA L (apatG L m)):Pa L (pPt L) ptC (patG L (n+1)):=by
 intro a d h0 h1 ha
 refine .weak (h76aw ev _ _ _) (.of ?_)
 rw[patG,h76a,g76a]
 simp[p_down hW ha h0 h1]
 refine .deep (fun hd=>?_) (fun hd=>?_)
 ·exact⟨_,by simp[hd],.of (m:=[0,0,1]) (b:=a) (d:=d+1) (k:=2) rfl⟩
 ·simp[hd,p_next ha,Tk.cells]
  have hw:IntKind.i64.wrap d=d:=wrap_id (by omega)
  refine .next (.bind (hat n (Nat.le_refl _) a (d+1) (by omega) (by omega) ha) (fun v b z hb g hz=>?_) (fun e w z g hz=>?_))
  ·obtain⟨hab,K,rfl,hK⟩:=hz
   have gw:=(apat_w g).resolve_right (fun h=>h.1 rfl)
   refine .if' (fun k2=>?_) (fun k2=>?_)
   ·rcases hK with⟨rfl,hk⟩|⟨_,hk⟩
    ·simp[k2,g,gw]
     refine .bind (s_patsA hW v.kind v.name v.n v.at_ n (Nat.le_refl _) hat b (d+1) (by omega) (by omega) hb) (fun l b2 z hb2 g2 hz=>?_) (fun e w z g2 hz=>?_)
     ·obtain⟨h5,hz⟩:=hz
      rcases hz with⟨rfl,rfl⟩|⟨es',h6,rfl⟩
      ·exact .pure hb2 (by simp[g2,hw]) (.of (m:=[0,0,1]) (k:=0) (ys:=[iv v.kind,sv v.name,iv v.n,nS,iv v.at_]) (by omega) rfl (by simp))
      ·exact .pure hb2 (by simp[g2,hw]) (.of (m:=[0,0,1]) (k:=1) (ys:=[iv v.kind,sv v.name,iv v.n,.rows es',iv v.at_]) (by omega) rfl (by simp[h6.wd,pts]))
     ·obtain⟨b2,d',rfl|⟨T,rfl⟩⟩:=hz
      ·exact⟨_,by simp[g2];rfl,.of (m:=[0,0,1]) (b:=b2) (k:=2) rfl⟩
      ·exact⟨_,by simp[g2];rfl,.of (m:=[0,0,1]) (b:=b2) (k:=2) rfl⟩
    ·exact absurd k2 hk
   ·rcases hK with⟨rfl,hk⟩|⟨rfl,hk⟩
    ·have hc:ev (q76ab0c (tks L) (iv b) (iv (d+1)) (iv v.kind) (sv v.name) (iv v.n) (iv v.at_))=some (1,ps L b (d+1) [iv v.kind,sv v.name,iv v.n,nS,iv v.at_,iv 0,sv eB,iv 0,nS,iv 0]):=Evl.of (by rw[h76ab0c,g76ab0c];simp)
     exact .pure hb (by simp[k2,g,gw,hc,hw]) (.of (m:=[0,0,1]) (k:=0) (ys:=[iv v.kind,sv v.name,iv v.n,nS,iv v.at_]) (by omega) rfl (by simp[hk]))
    ·have gw:ev (pApW L a (d+1))=some (0,ps L b (d+1) (ptC v)):=by simpa using gw
     have hx:∀k:Res,isK .fail nS (pts v.kids) k=.fail:=fun k=>isK_nilr _ _ _
     have hc:ev (q76ab0d (tks L) (iv b) (iv (d+1)) (iv v.kind) (sv v.name) (iv v.n) (pts v.kids) (iv v.at_))=some (1,ps L b (d+1) [iv v.kind,sv v.name,iv v.n,pts v.kids,iv v.at_,iv 0,sv eB,iv 0,nS,iv 0]):=Evl.of (by rw[h76ab0d,g76ab0d];simp)
     exact .pure hb (by simp[k2,g,gw,hx,hc,hw]) (.of (m:=[0,0,1]) (k:=0) (ys:=ptC v) (by omega) rfl (by simp))
  ·obtain⟨b,d',rfl⟩:=hz
   have gw:=(apat_w g).resolve_right (fun h=>h.2 rfl)
   have gw:ev (pApW L a (d+1))=some (1,ps L b d' [iv e,iv w]):=gw
   refine⟨_,?_,.of (m:=[0,0,1]) (b:=b) (d:=IntKind.i64.wrap (d'-1)) (k:=2) rfl⟩
   by_cases k2:(tkAt L a).kind=2
   ·simp[k2,g,gw]
   ·simp[k2,g,gw]
theorem s_patts:∀n m,m≤n→Pa L (pPt L) ptC (patG L m)∧PaA L (apatG L m)
 |_,0,_=>⟨fun a d _ _ _=>by rw[patG];trivial,fun a d _ _ _=>by rw[apatG];trivial⟩
 |n+1,m+1,hm=>⟨s_pat hW fun k hk=>(s_patts n k (by omega)).2,s_apat hW (s_patts n m (by omega)).1⟩
theorem s_pt(n:Nat):Pa L (pPt L) ptC (patG L n):=(s_patts hW n n (Nat.le_refl _)).1
end
set_option maxRecDepth 10000
abbrev pEx(L:List Tk)(a:Nat)(d:Int):Q:=q11aw (tks L) (iv a) (iv d)
abbrev pBd(L:List Tk)(a:Nat)(d:Int):Q:=q36aw (tks L) (iv a) (iv d)
abbrev pAm(L:List Tk)(a:Nat)(d:Int):Q:=q47aw (tks L) (iv a) (iv d)
abbrev pBr(L:List Tk)(w:Int)(a:Nat)(d:Int):Q:=q68aw (iv w) (tks L) (iv a) (iv d)
abbrev pCs(L:List Tk)(w:Int)(a:Nat)(d:Int):Q:=q67aw (iv w) (tks L) (iv a) (iv d)
def erD(L:List Tk)(d:Int)(se:Nat)(e w:Int)(z:Rs):Prop:=∃(b:Nat),z=(se,ps L b d [iv e,iv w])
section
variable{L:List Tk}(hW:WfL L)
include hW
theorem s_name(a:Nat)(d:Int)(ha:a<L.length):PE_ L (q53a (tks L) (iv a) (iv d)) (nameG L d a) (okS L a d 0 Tk.cells) (erD L d 1):=by
 refine .of ?_
 unfold nameG
 rw[h53a,g53a]
 simp[p_is hW ha]
 refine .may (fun ho=>?_) (fun ho=>?_)
 ·have hl:=isT_fin hW ho
  have hw:=hW.w1 ha
  simp[-Int.natCast_add,ho,hw]
  refine .takeK (by decide) (fun k5=>?_) (fun k5=>?_)
  ·have hl2:=hW.fin (a+1) (by omega)
   simp[-Int.natCast_add,p_kind hW hl,k5,Tk.cells]
   refine .take (by decide) (fun hc=>?_) (fun hc=>?_)
   ·exact .pure (isT_fin hW hc) (by simp[-Int.natCast_add,p_want hW hl2,hc,Tk.cells,k5]) ⟨by omega,rfl⟩
   ·exact⟨_,by simp[-Int.natCast_add,p_want hW hl2,hc],a+1+1,rfl⟩
  ·exact⟨_,by simp[-Int.natCast_add,p_kind hW hl,k5],a+1,rfl⟩
 ·have hq:=p_kindP (d:=d) hW ha (k:=1) (by decide) (by decide) eB
  simp[ho]
  cases hr:takeG L 1 eB d a with
  |out=>trivial
  |err e w=>
   unfold takeG at hr
   by_cases k1:okT L 1 eB a=true
   ·rw[if_pos k1] at hr;cases hr
   ·rw[if_neg k1] at hr
    cases hr
    have k1:(tkAt L a).kind≠1:=by unfold okT at k1;simpa using k1
    exact⟨_,by simp[p_kind hW ha,k1],a,rfl⟩
  |ok v b=>
   unfold takeG at hr
   by_cases k1:okT L 1 eB a=true
   ·rw[if_pos k1] at hr
    cases hr
    have k1:(tkAt L a).kind=1:=by unfold okT at k1;simpa using k1
    exact⟨hW.fin a (by omega),_,by simp[-Int.natCast_add,p_kind hW ha,k1,Tk.cells],by omega,rfl⟩
   ·rw[if_neg k1] at hr;cases hr
theorem s_bind{n:Nat}(ih:Pa L (pEx L) exC (expG L n)):Pa L (pBd L) bdC (bdG L (n+1)):=by
 intro a d h0 h1 ha
 refine .weak (h36aw ev _ _ _) (.of ?_)
 rw[bdG,h36a,g36a]
 refine .bind (s_name hW a d ha) (fun t b z hb g hz=>?_) (fun e w z g hz=>?_)
 ·obtain⟨hab,rfl⟩:=hz
  simp[g,Tk.cells]
  refine .take (by decide) (fun hc=>?_) (fun hc=>?_)
  ·have hl:=isT_fin hW hc
   simp[-Int.natCast_add,p_want hW hb,hc,Tk.cells]
   refine .callW (ih (b+1) d h0 h1 hl) (fun v b2 hb2 hab2 g2=>?_) (fun e w b2 d' g2=>?_)
   ·exact .pure hb2 (by simp[-Int.natCast_add,g2]) (.of (m:=[0,1]) (k:=0) (ys:=bdC (.mk t.text v t.at_)) (by omega) rfl (by simp))
   ·exact⟨_,by simp[-Int.natCast_add,g2],.of (m:=[0,1]) (b:=b2) (d:=d') (k:=1) rfl⟩
  ·exact⟨_,by simp[p_want hW hb,hc],.of (m:=[0,1]) (b:=b) (d:=d) (k:=1) rfl⟩
 ·obtain⟨b,rfl⟩:=hz
  exact⟨_,by simp[g],.of (m:=[0,1]) (b:=b) (d:=d) (k:=1) rfl⟩
def brG(L:List Tk)(n:Nat)(w:Int):GM Ex:=mayG L sCl (pureG (exM 4 sUn 0 [] w)) (kindG L 5 (bindG (takeG L 5 eB) fun o=>bindG (takeG L 7 sCl) fun _=>pureG (exM 3 o.text 0 [] w))
 (bindG (expG L n) fun y=>mayG L sCol (bindG (typeF L n) fun ty=>bindG (takeG L 7 sCl) fun _=>pureG (.mk 12 eB 0 ty [y] [] [] w)) (bindG (takeG L 7 sCl) fun _=>pureG y)))
theorem s_bracket{n:Nat}(ih:Pa L (pEx L) exC (expG L n))(w:Int)(a:Nat)(d:Int)(h0:0≤d)(h1:d≤300)(ha:a<L.length)(hpos:0<a):PE_ L (pBr L w a d) (brG L n w d a) (okS L (a-1) d 0 exC) (erS L 1):=by
 refine .weak (h68aw ev _ _ _ _) (.of ?_)
 unfold brG
 rw[h68a,g68a]
 simp[p_skip hW ha]
 refine .may (fun hc=>?_) (fun hc=>?_)
 ·exact .pure (isT_fin hW hc) (by simp[-Int.natCast_add,hc]) (.of (m:=[0,1,0]) (k:=0) (ys:=[iv 4,sv sUn,iv 0,iv 0,sv eB,iv 0,nS,nS,nS,nS,iv w]) (by omega) rfl (by simp))
 ·simp[hc,p_next ha,Tk.cells]
  refine .kind (fun k5=>?_) (fun k5=>?_)
  ·have hl:=hW.fin a (by omega)
   simp[-Int.natCast_add,k5,p_any hW ha,Tk.cells]
   refine .takeK (by decide) (fun _=>?_) (fun h=>absurd k5 h)
   refine .take (by decide) (fun hc=>?_) (fun hc=>?_)
   ·exact .pure (isT_fin hW hc) (by simp[-Int.natCast_add,p_want hW hl,hc,Tk.cells]) (.of (m:=[0,1,0]) (k:=0) (ys:=[iv 3,sv (tkAt L a).text,iv 0,iv 0,sv eB,iv 0,nS,nS,nS,nS,iv w]) (by omega) rfl (by simp))
   ·exact⟨_,by simp[-Int.natCast_add,p_want hW hl,hc],.of (m:=[0,1,0]) (b:=a+1) (d:=d) (k:=1) rfl⟩
  ·simp[k5]
   refine .callW (ih a d h0 h1 ha) (fun v b hb hab g=>?_) (fun e w b d' g=>?_)
   ·simp[g]
    simp[p_skip hW hb]
    refine .may (fun hc=>?_) (fun hc=>?_)
    ·have hl:=isT_fin hW hc
     simp[-Int.natCast_add,hc]
     refine .callW (s_ty hW n (b+1) d h0 h1 hl) (fun ty b2 hb2 hab2 g2=>?_) (fun e w b2 d' g2=>?_)
     ·simp[-Int.natCast_add,g2]
      refine .take (by decide) (fun hc=>?_) (fun hc=>?_)
      ·exact .pure (isT_fin hW hc) (by simp[-Int.natCast_add,p_want hW hb2,hc,Tk.cells]) (.of (m:=[0,1,0]) (k:=2) (ys:=[iv 12,sv eB,iv 0,iv ty.kind,sv ty.name,iv ty.n,tys ty.kids,.rows [exC v],nS,nS,iv w]) (by omega) rfl (by simp[wdP_rows,wdss1,exs_one]))
      ·exact⟨_,by simp[-Int.natCast_add,p_want hW hb2,hc],.of (m:=[0,1,0]) (b:=b2) (d:=d) (k:=1) rfl⟩
     ·exact⟨_,by simp[-Int.natCast_add,g2],.of (m:=[0,1,0]) (b:=b2) (d:=d') (k:=1) rfl⟩
    ·simp[hc]
     refine .take (by decide) (fun hc=>?_) (fun hc=>?_)
     ·exact .pure (isT_fin hW hc) (by simp[-Int.natCast_add,p_want hW hb,hc,Tk.cells]) (.of (m:=[0,1,0]) (k:=0) (ys:=exC v) (by omega) rfl (by simp))
     ·exact⟨_,by simp[-Int.natCast_add,p_want hW hb,hc],.of (m:=[0,1,0]) (b:=b) (d:=d) (k:=1) rfl⟩
   ·exact⟨_,by simp[g],.of (m:=[0,1,0]) (b:=b) (d:=d') (k:=1) rfl⟩
end
end Go.Proofs.YtfphhabaeggenaaDoor
