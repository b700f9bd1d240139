/- Joined texts. -/
import Derived.Test.YtkamjbmjjhbjcaaGreatDoorBc
import Derived.Test.YtkamjbmjjhbjcaaGreatDoorProg
import Derived.KernelRfl
import Derived.Test.YtkamjbmjjhbjcaaGreatDoorRows
import Derived.ChangeArms
set_option linter.unusedVariables false
set_option linter.unusedSimpArgs false
set_option linter.unusedSectionVars false
namespace Go.Proofs.YtkamjbmjjhbjcaaGreatDoor
open Go.RowKit
inductive Ty where
 |mk (kind:Int) (name:ByteArray) (n:Int) (kids:List Ty)
inductive Pt where
 |mk (kind:Int) (name:ByteArray) (n:Int) (kids:List Pt) (at_:Int)
mutual
inductive Ex where
 |mk (kind:Int) (name:ByteArray) (n:Int) (t:Ty) (kids:List Ex) (alts:List Al) (binds:List Bd) (at_:Int)
inductive Al where
 |mk (p:Pt) (e:Ex)
inductive Bd where
 |mk (name:ByteArray) (e:Ex) (at_:Int)
end
def Ty.kind:Ty→Int | .mk k _ _ _=>k
def Ty.name:Ty→ByteArray | .mk _ s _ _=>s
def Ty.n:Ty→Int | .mk _ _ n _=>n
def Ty.kids:Ty→List Ty | .mk _ _ _ ks=>ks
def Pt.kind:Pt→Int | .mk k _ _ _ _=>k
def Pt.name:Pt→ByteArray | .mk _ s _ _ _=>s
def Pt.n:Pt→Int | .mk _ _ n _ _=>n
def Pt.kids:Pt→List Pt | .mk _ _ _ ks _=>ks
def Pt.at_:Pt→Int | .mk _ _ _ _ a=>a
def Ex.kind:Ex→Int | .mk k _ _ _ _ _ _ _=>k
def Ex.name:Ex→ByteArray | .mk _ s _ _ _ _ _ _=>s
def Ex.n:Ex→Int | .mk _ _ n _ _ _ _ _=>n
def Ex.t:Ex→Ty | .mk _ _ _ t _ _ _ _=>t
def Ex.kids:Ex→List Ex | .mk _ _ _ _ ks _ _ _=>ks
def Ex.alts:Ex→List Al | .mk _ _ _ _ _ l _ _=>l
def Ex.binds:Ex→List Bd | .mk _ _ _ _ _ _ l _=>l
def Ex.at_:Ex→Int | .mk _ _ _ _ _ _ _ a=>a
def Al.p:Al→Pt | .mk p _=>p
def Al.e:Al→Ex | .mk _ e=>e
def Bd.name:Bd→ByteArray | .mk s _ _=>s
def Bd.e:Bd→Ex | .mk _ e _=>e
def Bd.at_:Bd→Int | .mk _ _ a=>a
structure Cn where
 name:ByteArray
 args:List Ty
 at_:Int
structure Dt where
 name:ByteArray
 params:List ByteArray
 cons:List Cn
 deriv:List ByteArray
 at_:Int
structure Md where
 name:ByteArray
 t:Ty
 at_:Int
structure Cl where
 name:ByteArray
 var:ByteArray
 supers:List ByteArray
 methods:List Md
 defaults:List Bd
 at_:Int
structure Pd where
 cls:ByteArray
 t:Ty
structure It where
 cls:ByteArray
 head:Ty
 ctx:List Pd
 binds:List Bd
 at_:Int
mutual
def Ty.cells:Ty→List PV
 |.mk k s n ks=>[iv k,sv s,iv n,.rows (Ty.rows ks)]
def Ty.rows:List Ty→List (List PV)
 |[]=>[]
 |v::l=>v.cells::Ty.rows l
end
mutual
def Pt.cells:Pt→List PV
 |.mk k s n ks a=>[iv k,sv s,iv n,.rows (Pt.rows ks),iv a]
def Pt.rows:List Pt→List (List PV)
 |[]=>[]
 |v::l=>v.cells::Pt.rows l
end
theorem Ty.rows_eq:∀l,Ty.rows l=l.map Ty.cells
 |[]=>by rw[Ty.rows];rfl
 |v::l=>by rw[Ty.rows,Ty.rows_eq l];rfl
theorem Pt.rows_eq:∀l,Pt.rows l=l.map Pt.cells
 |[]=>by rw[Pt.rows];rfl
 |v::l=>by rw[Pt.rows,Pt.rows_eq l];rfl
def tys(l:List Ty):PV:=.rows (l.map Ty.cells)
def pts(l:List Pt):PV:=.rows (l.map Pt.cells)
def strs(l:List ByteArray):PV:=.rows (l.map fun s=>[sv s])
theorem Ty.cells_eq(t:Ty):t.cells=[iv t.kind,sv t.name,iv t.n,tys t.kids]:=by cases t;rw[Ty.cells,Ty.rows_eq];rfl
theorem Pt.cells_eq(p:Pt):p.cells=[iv p.kind,sv p.name,iv p.n,pts p.kids,iv p.at_]:=by cases p;rw[Pt.cells,Pt.rows_eq];rfl
mutual
def Ex.cells:Ex→List PV
 |.mk k s n t ks xs bs a=>[iv k,sv s,iv n,iv t.kind,sv t.name,iv t.n,tys t.kids,.rows (Ex.rows ks),.rows (Al.rows xs),.rows (Bd.rows bs),iv a]
def Al.cells:Al→List PV
 |.mk p e=>iv p.kind::sv p.name::iv p.n::pts p.kids::iv p.at_::e.cells
def Bd.cells:Bd→List PV
 |.mk s e a=>sv s::(e.cells++[iv a])
def Ex.rows:List Ex→List (List PV)
 |[]=>[]
 |v::l=>v.cells::Ex.rows l
def Al.rows:List Al→List (List PV)
 |[]=>[]
 |v::l=>v.cells::Al.rows l
def Bd.rows:List Bd→List (List PV)
 |[]=>[]
 |v::l=>v.cells::Bd.rows l
end
theorem Ex.rows_eq:∀l,Ex.rows l=l.map Ex.cells
 |[]=>by rw[Ex.rows];rfl
 |v::l=>by rw[Ex.rows,Ex.rows_eq l];rfl
theorem Al.rows_eq:∀l,Al.rows l=l.map Al.cells
 |[]=>by rw[Al.rows];rfl
 |v::l=>by rw[Al.rows,Al.rows_eq l];rfl
theorem Bd.rows_eq:∀l,Bd.rows l=l.map Bd.cells
 |[]=>by rw[Bd.rows];rfl
 |v::l=>by rw[Bd.rows,Bd.rows_eq l];rfl
def exs(l:List Ex):PV:=.rows (l.map Ex.cells)
def als(l:List Al):PV:=.rows (l.map Al.cells)
def bds(l:List Bd):PV:=.rows (l.map Bd.cells)
theorem Ex.cells_eq(e:Ex):e.cells=[iv e.kind,sv e.name,iv e.n,iv e.t.kind,sv e.t.name,iv e.t.n,tys e.t.kids,exs e.kids,als e.alts,bds e.binds,iv e.at_]:=by cases e;rw[Ex.cells,Ex.rows_eq,Al.rows_eq,Bd.rows_eq];rfl
theorem Al.cells_eq(x:Al):x.cells=[iv x.p.kind,sv x.p.name,iv x.p.n,pts x.p.kids,iv x.p.at_,iv x.e.kind,sv x.e.name,iv x.e.n,iv x.e.t.kind,sv x.e.t.name,iv x.e.t.n,tys x.e.t.kids,exs x.e.kids,als x.e.alts,bds x.e.binds,iv x.e.at_]:=by cases x;rw[Al.cells,Ex.cells_eq];rfl
theorem Bd.cells_eq(x:Bd):x.cells=[sv x.name,iv x.e.kind,sv x.e.name,iv x.e.n,iv x.e.t.kind,sv x.e.t.name,iv x.e.t.n,tys x.e.t.kids,exs x.e.kids,als x.e.alts,bds x.e.binds,iv x.e.at_,iv x.at_]:=by cases x;rw[Bd.cells,Ex.cells_eq];rfl
def Cn.cells(x:Cn):List PV:=[sv x.name,tys x.args,iv x.at_]
def cns(l:List Cn):PV:=.rows (l.map Cn.cells)
def Dt.cells(x:Dt):List PV:=[sv x.name,strs x.params,cns x.cons,strs x.deriv,iv x.at_]
def dts(l:List Dt):PV:=.rows (l.map Dt.cells)
def Md.cells(x:Md):List PV:=[sv x.name,iv x.t.kind,sv x.t.name,iv x.t.n,tys x.t.kids,iv x.at_]
def mds(l:List Md):PV:=.rows (l.map Md.cells)
def Cl.cells(x:Cl):List PV:=[sv x.name,sv x.var,strs x.supers,mds x.methods,bds x.defaults,iv x.at_]
def cls(l:List Cl):PV:=.rows (l.map Cl.cells)
def Pd.cells(x:Pd):List PV:=[sv x.cls,iv x.t.kind,sv x.t.name,iv x.t.n,tys x.t.kids]
def pds(l:List Pd):PV:=.rows (l.map Pd.cells)
def It.cells(x:It):List PV:=[sv x.cls,iv x.head.kind,sv x.head.name,iv x.head.n,tys x.head.kids,pds x.ctx,bds x.binds,iv x.at_]
def its(l:List It):PV:=.rows (l.map It.cells)
mutual
theorem Ty.ns:∀(v:Ty),∀p∈v.cells,NS p
 |.mk k s n ks,p,hp=>by
  have:=Ty.nsL ks
  rw[Ty.cells] at hp
  simp only[List.mem_cons,List.not_mem_nil,or_false] at hp
  rcases hp with rfl|rfl|rfl|rfl
  ·exact .lit _
  ·exact .lit _
  ·exact .lit _
  ·exact .rows _ this
theorem Ty.nsL:∀(l:List Ty),∀c∈Ty.rows l,∀p∈c,NS p
 |[],c,hc,_,_=>by simp[Ty.rows] at hc
 |v::l,c,hc,p,hp=>by
  have h1:=Ty.ns v
  have h2:=Ty.nsL l
  rw[Ty.rows,List.mem_cons] at hc
  rcases hc with rfl|hc
  ·exact h1 p hp
  ·exact h2 c hc p hp
end
mutual
theorem Pt.ns:∀(v:Pt),∀p∈v.cells,NS p
 |.mk k s n ks a,p,hp=>by
  have:=Pt.nsL ks
  rw[Pt.cells] at hp
  simp only[List.mem_cons,List.not_mem_nil,or_false] at hp
  rcases hp with rfl|rfl|rfl|rfl|rfl
  ·exact .lit _
  ·exact .lit _
  ·exact .lit _
  ·exact .rows _ this
  ·exact .lit _
theorem Pt.nsL:∀(l:List Pt),∀c∈Pt.rows l,∀p∈c,NS p
 |[],c,hc,_,_=>by simp[Pt.rows] at hc
 |v::l,c,hc,p,hp=>by
  have h1:=Pt.ns v
  have h2:=Pt.nsL l
  rw[Pt.rows,List.mem_cons] at hc
  rcases hc with rfl|hc
  ·exact h1 p hp
  ·exact h2 c hc p hp
end
@[simp] theorem ns_tys(l:List Ty):NS (tys l):=by rw[tys,←Ty.rows_eq];exact .rows _ (Ty.nsL l)
@[simp] theorem ns_pts(l:List Pt):NS (pts l):=by rw[pts,←Pt.rows_eq];exact .rows _ (Pt.nsL l)
theorem ns_rows{α:Type}{f:α→List PV}{l:List α}(h:∀x∈l,∀p∈f x,NS p):NS (.rows (l.map f)):=.rows _ fun c hc p hp=>by
 obtain⟨x,hx,rfl⟩:=List.mem_map.1 hc
 exact h x hx p hp
@[simp] theorem ns_strs(l:List ByteArray):NS (strs l):=ns_rows fun x _ p hp=>by simp at hp;subst hp;exact .lit _
mutual
theorem Ex.ns:∀(v:Ex),∀p∈v.cells,NS p
 |.mk k s n t ks xs bs a,p,hp=>by
  have h1:=Ex.nsL ks
  have h2:=Al.nsL xs
  have h3:=Bd.nsL bs
  rw[Ex.cells] at hp
  simp only[List.mem_cons,List.not_mem_nil,or_false] at hp
  rcases hp with rfl|rfl|rfl|rfl|rfl|rfl|rfl|rfl|rfl|rfl|rfl
  ·exact .lit _
  ·exact .lit _
  ·exact .lit _
  ·exact .lit _
  ·exact .lit _
  ·exact .lit _
  ·exact ns_tys _
  ·exact .rows _ h1
  ·exact .rows _ h2
  ·exact .rows _ h3
  ·exact .lit _
theorem Al.ns:∀(v:Al),∀p∈v.cells,NS p
 |.mk q e,p,hp=>by
  have h1:=Ex.ns e
  rw[Al.cells] at hp
  simp only[List.mem_cons] at hp
  rcases hp with rfl|rfl|rfl|rfl|rfl|hp
  ·exact .lit _
  ·exact .lit _
  ·exact .lit _
  ·exact ns_pts _
  ·exact .lit _
  ·exact h1 p hp
theorem Bd.ns:∀(v:Bd),∀p∈v.cells,NS p
 |.mk s e a,p,hp=>by
  have h1:=Ex.ns e
  rw[Bd.cells] at hp
  simp only[List.mem_cons,List.mem_append,List.not_mem_nil,or_false] at hp
  rcases hp with rfl|hp|rfl
  ·exact .lit _
  ·exact h1 p hp
  ·exact .lit _
theorem Ex.nsL:∀(l:List Ex),∀c∈Ex.rows l,∀p∈c,NS p
 |[],c,hc,_,_=>by simp[Ex.rows] at hc
 |v::l,c,hc,p,hp=>by
  have h1:=Ex.ns v
  have h2:=Ex.nsL l
  rw[Ex.rows,List.mem_cons] at hc
  rcases hc with rfl|hc
  ·exact h1 p hp
  ·exact h2 c hc p hp
theorem Al.nsL:∀(l:List Al),∀c∈Al.rows l,∀p∈c,NS p
 |[],c,hc,_,_=>by simp[Al.rows] at hc
 |v::l,c,hc,p,hp=>by
  have h1:=Al.ns v
  have h2:=Al.nsL l
  rw[Al.rows,List.mem_cons] at hc
  rcases hc with rfl|hc
  ·exact h1 p hp
  ·exact h2 c hc p hp
theorem Bd.nsL:∀(l:List Bd),∀c∈Bd.rows l,∀p∈c,NS p
 |[],c,hc,_,_=>by simp[Bd.rows] at hc
 |v::l,c,hc,p,hp=>by
  have h1:=Bd.ns v
  have h2:=Bd.nsL l
  rw[Bd.rows,List.mem_cons] at hc
  rcases hc with rfl|hc
  ·exact h1 p hp
  ·exact h2 c hc p hp
end
@[simp] theorem ns_exs(l:List Ex):NS (exs l):=by rw[exs,←Ex.rows_eq];exact .rows _ (Ex.nsL l)
@[simp] theorem ns_als(l:List Al):NS (als l):=by rw[als,←Al.rows_eq];exact .rows _ (Al.nsL l)
@[simp] theorem ns_bds(l:List Bd):NS (bds l):=by rw[bds,←Bd.rows_eq];exact .rows _ (Bd.nsL l)
@[simp] theorem ns_cns(l:List Cn):NS (cns l):=ns_rows fun x _ p hp=>by
 simp only[Cn.cells,List.mem_cons,List.not_mem_nil,or_false] at hp
 rcases hp with rfl|rfl|rfl<;>simp
@[simp] theorem ns_dts(l:List Dt):NS (dts l):=ns_rows fun x _ p hp=>by
 simp only[Dt.cells,List.mem_cons,List.not_mem_nil,or_false] at hp
 rcases hp with rfl|rfl|rfl|rfl|rfl<;>simp
@[simp] theorem ns_mds(l:List Md):NS (mds l):=ns_rows fun x _ p hp=>by
 simp only[Md.cells,List.mem_cons,List.not_mem_nil,or_false] at hp
 rcases hp with rfl|rfl|rfl|rfl|rfl|rfl<;>simp
@[simp] theorem ns_cls(l:List Cl):NS (cls l):=ns_rows fun x _ p hp=>by
 simp only[Cl.cells,List.mem_cons,List.not_mem_nil,or_false] at hp
 rcases hp with rfl|rfl|rfl|rfl|rfl|rfl<;>simp
@[simp] theorem ns_pds(l:List Pd):NS (pds l):=ns_rows fun x _ p hp=>by
 simp only[Pd.cells,List.mem_cons,List.not_mem_nil,or_false] at hp
 rcases hp with rfl|rfl|rfl|rfl|rfl<;>simp
@[simp] theorem ns_its(l:List It):NS (its l):=ns_rows fun x _ p hp=>by
 simp only[It.cells,List.mem_cons,List.not_mem_nil,or_false] at hp
 rcases hp with rfl|rfl|rfl|rfl|rfl|rfl|rfl|rfl<;>simp
theorem sl_strs:SlT Tryz.prog 70 1 16:=SlT.of (by kernel_rfl)
@[simp] theorem len_strs{r:AV}(l:List ByteArray):LenOk Tryz.prog 70 (.pv (strs l)) r↔r=.pv (iv l.length):=by rw[strs,len_ok sl_strs,List.length_map]
theorem idx_strs{r:AV}{l:List ByteArray}{i:Nat}{x:ByteArray}(h:l[i]? = some x):IdxOk Tryz.prog 70 (.pv (strs l)) (.pv (.lit (.int .i64 (i:Int)))) r↔r=.cptr [sv x]:=by
 rw[strs];exact idx_ok sl_strs (by rw[List.getElem?_map,h];rfl) rfl
theorem sl_tys:SlT Tryz.prog 22 4 56:=SlT.of (by kernel_rfl)
@[simp] theorem len_tys{r:AV}(l:List Ty):LenOk Tryz.prog 22 (.pv (tys l)) r↔r=.pv (iv l.length):=by rw[tys,len_ok sl_tys,List.length_map]
theorem idx_tys{r:AV}{l:List Ty}{i:Nat}{x:Ty}(h:l[i]? = some x):IdxOk Tryz.prog 22 (.pv (tys l)) (.pv (.lit (.int .i64 (i:Int)))) r↔r=.cptr [iv x.kind,sv x.name,iv x.n,tys x.kids]:=by
 rw[tys];exact idx_ok sl_tys (by rw[List.getElem?_map,h,Option.map_some,Ty.cells_eq]) rfl
theorem sl_pts:SlT Tryz.prog 34 5 64:=SlT.of (by kernel_rfl)
@[simp] theorem len_pts{r:AV}(l:List Pt):LenOk Tryz.prog 34 (.pv (pts l)) r↔r=.pv (iv l.length):=by rw[pts,len_ok sl_pts,List.length_map]
theorem idx_pts{r:AV}{l:List Pt}{i:Nat}{x:Pt}(h:l[i]? = some x):IdxOk Tryz.prog 34 (.pv (pts l)) (.pv (.lit (.int .i64 (i:Int)))) r↔r=.cptr [iv x.kind,sv x.name,iv x.n,pts x.kids,iv x.at_]:=by
 rw[pts];exact idx_ok sl_pts (by rw[List.getElem?_map,h,Option.map_some,Pt.cells_eq]) rfl
theorem sl_exs:SlT Tryz.prog 25 11 168:=SlT.of (by kernel_rfl)
@[simp] theorem len_exs{r:AV}(l:List Ex):LenOk Tryz.prog 25 (.pv (exs l)) r↔r=.pv (iv l.length):=by rw[exs,len_ok sl_exs,List.length_map]
theorem idx_exs{r:AV}{l:List Ex}{i:Nat}{x:Ex}(h:l[i]? = some x):IdxOk Tryz.prog 25 (.pv (exs l)) (.pv (.lit (.int .i64 (i:Int)))) r↔r=.cptr [iv x.kind,sv x.name,iv x.n,iv x.t.kind,sv x.t.name,iv x.t.n,tys x.t.kids,exs x.kids,als x.alts,bds x.binds,iv x.at_]:=by
 rw[exs];exact idx_ok sl_exs (by rw[List.getElem?_map,h,Option.map_some,Ex.cells_eq]) rfl
theorem sl_als:SlT Tryz.prog 26 16 232:=SlT.of (by kernel_rfl)
@[simp] theorem len_als{r:AV}(l:List Al):LenOk Tryz.prog 26 (.pv (als l)) r↔r=.pv (iv l.length):=by rw[als,len_ok sl_als,List.length_map]
theorem idx_als{r:AV}{l:List Al}{i:Nat}{x:Al}(h:l[i]? = some x):IdxOk Tryz.prog 26 (.pv (als l)) (.pv (.lit (.int .i64 (i:Int)))) r↔r=.cptr [iv x.p.kind,sv x.p.name,iv x.p.n,pts x.p.kids,iv x.p.at_,iv x.e.kind,sv x.e.name,iv x.e.n,iv x.e.t.kind,sv x.e.t.name,iv x.e.t.n,tys x.e.t.kids,exs x.e.kids,als x.e.alts,bds x.e.binds,iv x.e.at_]:=by
 rw[als];exact idx_ok sl_als (by rw[List.getElem?_map,h,Option.map_some,Al.cells_eq]) rfl
theorem sl_bds:SlT Tryz.prog 27 13 192:=SlT.of (by kernel_rfl)
@[simp] theorem len_bds{r:AV}(l:List Bd):LenOk Tryz.prog 27 (.pv (bds l)) r↔r=.pv (iv l.length):=by rw[bds,len_ok sl_bds,List.length_map]
theorem idx_bds{r:AV}{l:List Bd}{i:Nat}{x:Bd}(h:l[i]? = some x):IdxOk Tryz.prog 27 (.pv (bds l)) (.pv (.lit (.int .i64 (i:Int)))) r↔r=.cptr [sv x.name,iv x.e.kind,sv x.e.name,iv x.e.n,iv x.e.t.kind,sv x.e.t.name,iv x.e.t.n,tys x.e.t.kids,exs x.e.kids,als x.e.alts,bds x.e.binds,iv x.e.at_,iv x.at_]:=by
 rw[bds];exact idx_ok sl_bds (by rw[List.getElem?_map,h,Option.map_some,Bd.cells_eq]) rfl
theorem sl_cns:SlT Tryz.prog 77 3 48:=SlT.of (by kernel_rfl)
@[simp] theorem len_cns{r:AV}(l:List Cn):LenOk Tryz.prog 77 (.pv (cns l)) r↔r=.pv (iv l.length):=by rw[cns,len_ok sl_cns,List.length_map]
theorem idx_cns{r:AV}{l:List Cn}{i:Nat}{x:Cn}(h:l[i]? = some x):IdxOk Tryz.prog 77 (.pv (cns l)) (.pv (.lit (.int .i64 (i:Int)))) r↔r=.cptr [sv x.name,tys x.args,iv x.at_]:=by
 rw[cns];exact idx_ok sl_cns (by rw[List.getElem?_map,h,Option.map_some,Cn.cells]) rfl
theorem sl_dts:SlT Tryz.prog 42 5 96:=SlT.of (by kernel_rfl)
@[simp] theorem len_dts{r:AV}(l:List Dt):LenOk Tryz.prog 42 (.pv (dts l)) r↔r=.pv (iv l.length):=by rw[dts,len_ok sl_dts,List.length_map]
theorem idx_dts{r:AV}{l:List Dt}{i:Nat}{x:Dt}(h:l[i]? = some x):IdxOk Tryz.prog 42 (.pv (dts l)) (.pv (.lit (.int .i64 (i:Int)))) r↔r=.cptr [sv x.name,strs x.params,cns x.cons,strs x.deriv,iv x.at_]:=by
 rw[dts];exact idx_ok sl_dts (by rw[List.getElem?_map,h,Option.map_some,Dt.cells]) rfl
theorem sl_mds:SlT Tryz.prog 71 6 80:=SlT.of (by kernel_rfl)
@[simp] theorem len_mds{r:AV}(l:List Md):LenOk Tryz.prog 71 (.pv (mds l)) r↔r=.pv (iv l.length):=by rw[mds,len_ok sl_mds,List.length_map]
theorem idx_mds{r:AV}{l:List Md}{i:Nat}{x:Md}(h:l[i]? = some x):IdxOk Tryz.prog 71 (.pv (mds l)) (.pv (.lit (.int .i64 (i:Int)))) r↔r=.cptr [sv x.name,iv x.t.kind,sv x.t.name,iv x.t.n,tys x.t.kids,iv x.at_]:=by
 rw[mds];exact idx_ok sl_mds (by rw[List.getElem?_map,h,Option.map_some,Md.cells]) rfl
theorem sl_cls:SlT Tryz.prog 43 6 112:=SlT.of (by kernel_rfl)
@[simp] theorem len_cls{r:AV}(l:List Cl):LenOk Tryz.prog 43 (.pv (cls l)) r↔r=.pv (iv l.length):=by rw[cls,len_ok sl_cls,List.length_map]
theorem idx_cls{r:AV}{l:List Cl}{i:Nat}{x:Cl}(h:l[i]? = some x):IdxOk Tryz.prog 43 (.pv (cls l)) (.pv (.lit (.int .i64 (i:Int)))) r↔r=.cptr [sv x.name,sv x.var,strs x.supers,mds x.methods,bds x.defaults,iv x.at_]:=by
 rw[cls];exact idx_ok sl_cls (by rw[List.getElem?_map,h,Option.map_some,Cl.cells]) rfl
theorem sl_pds:SlT Tryz.prog 74 5 72:=SlT.of (by kernel_rfl)
@[simp] theorem len_pds{r:AV}(l:List Pd):LenOk Tryz.prog 74 (.pv (pds l)) r↔r=.pv (iv l.length):=by rw[pds,len_ok sl_pds,List.length_map]
theorem idx_pds{r:AV}{l:List Pd}{i:Nat}{x:Pd}(h:l[i]? = some x):IdxOk Tryz.prog 74 (.pv (pds l)) (.pv (.lit (.int .i64 (i:Int)))) r↔r=.cptr [sv x.cls,iv x.t.kind,sv x.t.name,iv x.t.n,tys x.t.kids]:=by
 rw[pds];exact idx_ok sl_pds (by rw[List.getElem?_map,h,Option.map_some,Pd.cells]) rfl
theorem sl_its:SlT Tryz.prog 44 8 128:=SlT.of (by kernel_rfl)
@[simp] theorem len_its{r:AV}(l:List It):LenOk Tryz.prog 44 (.pv (its l)) r↔r=.pv (iv l.length):=by rw[its,len_ok sl_its,List.length_map]
theorem idx_its{r:AV}{l:List It}{i:Nat}{x:It}(h:l[i]? = some x):IdxOk Tryz.prog 44 (.pv (its l)) (.pv (.lit (.int .i64 (i:Int)))) r↔r=.cptr [sv x.cls,iv x.head.kind,sv x.head.name,iv x.head.n,tys x.head.kids,pds x.ctx,bds x.binds,iv x.at_]:=by
 rw[its];exact idx_ok sl_its (by rw[List.getElem?_map,h,Option.map_some,It.cells]) rfl
def maxN:Nat:=9223372036854775807
theorem lt_of_get{α:Type}{l:List α}{i:Nat}{a:α}(h:l[i]? = some a):i<l.length:=by
 by_cases hi:i<l.length
 ·exact hi
 ·rw[List.getElem?_eq_none (by omega)] at h;cases h
section
variable{β:Type}{d:β}{k:AV→β}
theorem nsa_c{l:List PV}(h:NSL l):NSA (.cptr l):=.cptr _ h
theorem lenK_strs(l:List ByteArray):lenK Tryz.prog d 70 (.pv (strs l)) k=k (.pv (iv l.length)):=lenK_of (fun _=>len_strs l) (nsa_lit _)
theorem idxK_strs{l:List ByteArray}{i:Nat}{x:ByteArray}(h:l[i]? = some x):idxK Tryz.prog d 70 (.pv (strs l)) (.pv (.lit (.int .i64 (i:Int)))) k=k (.cptr [sv x]):=idxK_of (fun _=>idx_strs h) (nsa_c (by simp[NSL_cons,NSL_nil]))
theorem lenK_tys(l:List Ty):lenK Tryz.prog d 22 (.pv (tys l)) k=k (.pv (iv l.length)):=lenK_of (fun _=>len_tys l) (nsa_lit _)
theorem idxK_tys{l:List Ty}{i:Nat}{x:Ty}(h:l[i]? = some x):idxK Tryz.prog d 22 (.pv (tys l)) (.pv (.lit (.int .i64 (i:Int)))) k=k (.cptr [iv x.kind,sv x.name,iv x.n,tys x.kids]):=idxK_of (fun _=>idx_tys h) (nsa_c (by simp[NSL_cons,NSL_nil]))
theorem lenK_pts(l:List Pt):lenK Tryz.prog d 34 (.pv (pts l)) k=k (.pv (iv l.length)):=lenK_of (fun _=>len_pts l) (nsa_lit _)
theorem idxK_pts{l:List Pt}{i:Nat}{x:Pt}(h:l[i]? = some x):idxK Tryz.prog d 34 (.pv (pts l)) (.pv (.lit (.int .i64 (i:Int)))) k=k (.cptr [iv x.kind,sv x.name,iv x.n,pts x.kids,iv x.at_]):=idxK_of (fun _=>idx_pts h) (nsa_c (by simp[NSL_cons,NSL_nil]))
theorem lenK_exs(l:List Ex):lenK Tryz.prog d 25 (.pv (exs l)) k=k (.pv (iv l.length)):=lenK_of (fun _=>len_exs l) (nsa_lit _)
theorem idxK_exs{l:List Ex}{i:Nat}{x:Ex}(h:l[i]? = some x):idxK Tryz.prog d 25 (.pv (exs l)) (.pv (.lit (.int .i64 (i:Int)))) k=k (.cptr [iv x.kind,sv x.name,iv x.n,iv x.t.kind,sv x.t.name,iv x.t.n,tys x.t.kids,exs x.kids,als x.alts,bds x.binds,iv x.at_]):=idxK_of (fun _=>idx_exs h) (nsa_c (by simp[NSL_cons,NSL_nil]))
theorem lenK_als(l:List Al):lenK Tryz.prog d 26 (.pv (als l)) k=k (.pv (iv l.length)):=lenK_of (fun _=>len_als l) (nsa_lit _)
theorem idxK_als{l:List Al}{i:Nat}{x:Al}(h:l[i]? = some x):idxK Tryz.prog d 26 (.pv (als l)) (.pv (.lit (.int .i64 (i:Int)))) k=k (.cptr [iv x.p.kind,sv x.p.name,iv x.p.n,pts x.p.kids,iv x.p.at_,iv x.e.kind,sv x.e.name,iv x.e.n,iv x.e.t.kind,sv x.e.t.name,iv x.e.t.n,tys x.e.t.kids,exs x.e.kids,als x.e.alts,bds x.e.binds,iv x.e.at_]):=idxK_of (fun _=>idx_als h) (nsa_c (by simp[NSL_cons,NSL_nil]))
theorem lenK_bds(l:List Bd):lenK Tryz.prog d 27 (.pv (bds l)) k=k (.pv (iv l.length)):=lenK_of (fun _=>len_bds l) (nsa_lit _)
theorem idxK_bds{l:List Bd}{i:Nat}{x:Bd}(h:l[i]? = some x):idxK Tryz.prog d 27 (.pv (bds l)) (.pv (.lit (.int .i64 (i:Int)))) k=k (.cptr [sv x.name,iv x.e.kind,sv x.e.name,iv x.e.n,iv x.e.t.kind,sv x.e.t.name,iv x.e.t.n,tys x.e.t.kids,exs x.e.kids,als x.e.alts,bds x.e.binds,iv x.e.at_,iv x.at_]):=idxK_of (fun _=>idx_bds h) (nsa_c (by simp[NSL_cons,NSL_nil]))
theorem lenK_cns(l:List Cn):lenK Tryz.prog d 77 (.pv (cns l)) k=k (.pv (iv l.length)):=lenK_of (fun _=>len_cns l) (nsa_lit _)
theorem idxK_cns{l:List Cn}{i:Nat}{x:Cn}(h:l[i]? = some x):idxK Tryz.prog d 77 (.pv (cns l)) (.pv (.lit (.int .i64 (i:Int)))) k=k (.cptr [sv x.name,tys x.args,iv x.at_]):=idxK_of (fun _=>idx_cns h) (nsa_c (by simp[NSL_cons,NSL_nil]))
theorem lenK_dts(l:List Dt):lenK Tryz.prog d 42 (.pv (dts l)) k=k (.pv (iv l.length)):=lenK_of (fun _=>len_dts l) (nsa_lit _)
theorem idxK_dts{l:List Dt}{i:Nat}{x:Dt}(h:l[i]? = some x):idxK Tryz.prog d 42 (.pv (dts l)) (.pv (.lit (.int .i64 (i:Int)))) k=k (.cptr [sv x.name,strs x.params,cns x.cons,strs x.deriv,iv x.at_]):=idxK_of (fun _=>idx_dts h) (nsa_c (by simp[NSL_cons,NSL_nil]))
theorem lenK_mds(l:List Md):lenK Tryz.prog d 71 (.pv (mds l)) k=k (.pv (iv l.length)):=lenK_of (fun _=>len_mds l) (nsa_lit _)
theorem idxK_mds{l:List Md}{i:Nat}{x:Md}(h:l[i]? = some x):idxK Tryz.prog d 71 (.pv (mds l)) (.pv (.lit (.int .i64 (i:Int)))) k=k (.cptr [sv x.name,iv x.t.kind,sv x.t.name,iv x.t.n,tys x.t.kids,iv x.at_]):=idxK_of (fun _=>idx_mds h) (nsa_c (by simp[NSL_cons,NSL_nil]))
theorem lenK_cls(l:List Cl):lenK Tryz.prog d 43 (.pv (cls l)) k=k (.pv (iv l.length)):=lenK_of (fun _=>len_cls l) (nsa_lit _)
theorem idxK_cls{l:List Cl}{i:Nat}{x:Cl}(h:l[i]? = some x):idxK Tryz.prog d 43 (.pv (cls l)) (.pv (.lit (.int .i64 (i:Int)))) k=k (.cptr [sv x.name,sv x.var,strs x.supers,mds x.methods,bds x.defaults,iv x.at_]):=idxK_of (fun _=>idx_cls h) (nsa_c (by simp[NSL_cons,NSL_nil]))
theorem lenK_pds(l:List Pd):lenK Tryz.prog d 74 (.pv (pds l)) k=k (.pv (iv l.length)):=lenK_of (fun _=>len_pds l) (nsa_lit _)
theorem idxK_pds{l:List Pd}{i:Nat}{x:Pd}(h:l[i]? = some x):idxK Tryz.prog d 74 (.pv (pds l)) (.pv (.lit (.int .i64 (i:Int)))) k=k (.cptr [sv x.cls,iv x.t.kind,sv x.t.name,iv x.t.n,tys x.t.kids]):=idxK_of (fun _=>idx_pds h) (nsa_c (by simp[NSL_cons,NSL_nil]))
theorem lenK_its(l:List It):lenK Tryz.prog d 44 (.pv (its l)) k=k (.pv (iv l.length)):=lenK_of (fun _=>len_its l) (nsa_lit _)
theorem idxK_its{l:List It}{i:Nat}{x:It}(h:l[i]? = some x):idxK Tryz.prog d 44 (.pv (its l)) (.pv (.lit (.int .i64 (i:Int)))) k=k (.cptr [sv x.cls,iv x.head.kind,sv x.head.name,iv x.head.n,tys x.head.kids,pds x.ctx,bds x.binds,iv x.at_]):=idxK_of (fun _=>idx_its h) (nsa_c (by simp[NSL_cons,NSL_nil]))
end
attribute [simp] lenK_strs lenK_tys lenK_pts lenK_exs lenK_als lenK_bds lenK_cns lenK_dts lenK_mds lenK_cls lenK_pds lenK_its
end Go.Proofs.YtkamjbmjjhbjcaaGreatDoor
namespace Go.Proofs.YtkamjbmjjhbjcaaGreatDoor
open Go.RowKit
abbrev KwR:Nat→PV:=fun _=>.any
abbrev KwM(w:World):Nat→Nat→Option Value:=fun g o=>w.cell? ⟨g,o,none⟩
def Kw(w:World)(ht:TabsIn w):Kn:=⟨KwM w,fun _=>0,fun _=>0,fun _=>none,KwR,ht⟩
theorem WR.world(w:World)(ht:TabsIn w):WR (Kw w ht) [] w:=by
 refine⟨fun _ _=>rfl,(fun i hi=>by simp at hi),(fun i g h=>by cases h),(fun i ty cells h=>by simp at h),(fun i ks vs h=>by simp at h),(fun i ty sz len h=>by simp at h),(fun i j x y g h=>by simp at h),(fun i ty cells g h=>by simp at h),fun g o v h=>h⟩
def AllR(w:World)(ps:List PV)(cs:List Value):Prop:=ps.length=cs.length∧∀i (h:i<ps.length) (h':i<cs.length),PR KwR (KwM w) ps[i] cs[i]
section
variable{H:Type}{enc:TypeId×Value→H}{P:Program}{w:World}{held:Bool}
abbrev rd(enc:TypeId×Value→H)(P:Program)(w:World)(held:Bool)(n:Nat)(t:TypeId)(cs:List Value)(d:DataW H):Prop:=(∃q,DataW.trod enc P w 0 (fun _=>true) held n t cs=some (d,q))∧Rows.uptoBulk d≤1048576
theorem bulkAll_sum{α:Type}(size:α→Nat):∀(l:List α) (ds:List (DataW H)),l.length=ds.length→(∀i (h:i<l.length) (h':i<ds.length),size l[i]≤Rows.uptoBulk ds[i])→(l.map size).sum≤Rows.uptoBulkAll ds
 |[],[],_,_=>by simp[Rows.uptoBulkAll]
 |a::l,d::ds,hl,h=>by
  have h0:=h 0 (by simp) (by simp)
  have:=bulkAll_sum size l ds (by simpa using hl) (fun i hi hi'=>by
   have:=h (i+1) (by simpa using hi) (by simpa using hi')
   simpa using this)
  simp only[List.map_cons,List.sum_cons,Rows.uptoBulkAll]
  simp only[List.getElem_cons_zero] at h0
  omega
 |[],_::_,hl,_=>by simp at hl
 |_::_,[],hl,_=>by simp at hl
theorem bulk_mem:∀(ds:List (DataW H)) (i:Nat) (h:i<ds.length),Rows.uptoBulk ds[i]≤Rows.uptoBulkAll ds
 |[],_,h=>by simp at h
 |d::ds,0,_=>by simp only[List.getElem_cons_zero,Rows.uptoBulkAll];omega
 |d::ds,i+1,h=>by
  have:=bulk_mem ds i (by simpa using h)
  simp only[List.getElem_cons_succ,Rows.uptoBulkAll];omega
theorem rd_sliceS{α:Type}(cells:α→List PV)(Q:α→Prop)(size:α→Nat){t e:TypeId}{sz n:Nat}{cs:List Value}{d:DataW H}(ht:P.underlying t=some (.slice e))(hsz:P.cellsOf e=sz)(hpos:0<sz)(hc:∀x,(cells x).length=sz)
  (he:∀m cs d,m<n→rd enc P w held m e cs d→∃x,AllR w (cells x) cs∧Q x∧size x≤Rows.uptoBulk d) (h:rd enc P w held n t cs d) :
  ∃(l:List α) (c:Value),cs=[c]∧PR KwR (KwM w) (.rows (l.map cells)) c∧l.length≤maxN∧(l.map size).sum+1≤Rows.uptoBulk d∧∀x∈l,Q x:=by
 obtain⟨⟨q,h⟩,hbk⟩:=h
 rcases DataW.trod_slice ht h with⟨rfl,hx⟩|⟨a,len,cap,elems,rest,m,rfl,rfl,hx,_,hl,hcap,hel,hat,_,_⟩
 ·cases hx
  exact⟨[],_,rfl,PR.nilRow,Nat.zero_le _,by simp[Rows.uptoBulk],fun x hx=>by cases hx⟩
 ·cases hx
  have hbk2:=hbk
  simp only[Rows.uptoBulk] at hbk2
  have key:∀i:Fin len,∃x:α,∃us:List Value,w.cells? 0 (a.add (i*sz)) sz=some us∧AllR w (cells x) us∧Q x∧∃(hi:i<elems.length),size x≤Rows.uptoBulk elems[i].1:=by
   intro i
   have:=hat i i.2
   rw[hsz,List.getElem?_eq_getElem (by rw[hel];exact i.2)] at this
   simp only[Option.bind_eq_some_iff] at this
   obtain⟨us,h1,h2⟩:=this
   have hie:(i:Nat)<elems.length:=by rw[hel];exact i.2
   have hbm:=bulk_mem (elems.map (·.1)) i (by simpa using hie)
   simp only[List.getElem_map] at hbm
   obtain⟨x,h3,h4,h5⟩:=he m us _ (by omega) ⟨⟨_,h2⟩,Nat.le_trans hbm (by omega)⟩
   exact⟨x,us,h1,h3,h4,hie,h5⟩
  let g:Fin len→α:=fun i=>(key i).choose
  have hg:∀i:Fin len,∃us:List Value,w.cells? 0 (a.add (i*sz)) sz=some us∧AllR w (cells (g i)) us∧Q (g i)∧∃(hi:i<elems.length),size (g i)≤Rows.uptoBulk elems[i].1:=fun i=>(key i).choose_spec
  refine⟨List.ofFn g,_,rfl,?_,?_,?_,?_⟩
  ·have hspot:∀i:Nat,i<len→∀j,j<sz→(a.add (i*sz)).add j=⟨a.block,a.off+i*sz+j,none⟩:=by
    intro i hi j hj
    have hsp:a.spot=none:=by
     obtain⟨us,h1,_⟩:=hg ⟨0,by omega⟩
     obtain⟨_,hlen,hcell⟩:=World.cells?_some h1
     have:=hcell 0 hpos
     have hlt:0<us.length:=by omega
     rw[List.getElem?_eq_getElem hlt] at this
     simp only[Nat.zero_mul,Addr.add,if_true,World.cell?] at this
     split at this
     ·split at this
      ·cases this
      ·rename_i hs
       cases hsp:a.spot with
       |none=>rfl
       |some x=>rw[hsp] at hs;simp at hs
     ·cases this
    obtain⟨b,o,sp⟩:=a
    simp only at hsp
    subst hsp
    unfold Addr.add
    by_cases h1:i*sz=0
    ·by_cases h2:j=0
     ·simp[h1,h2]
     ·simp[h1,h2]
    ·by_cases h2:j=0
     ·simp[h1,h2]
     ·simp[h1,h2]
   have hcs:∀i:Nat,∀hi:i<len,∃us:List Value,us.length=sz∧AllR w (cells (g ⟨i,hi⟩)) us∧∀j,j<sz→w.cell? ⟨a.block,a.off+i*sz+j,none⟩=us[j]?:=by
    intro i hi
    obtain⟨us,h1,h2,_⟩:=hg ⟨i,hi⟩
    obtain⟨_,hlen,hcell⟩:=World.cells?_some h1
    exact⟨us,hlen,h2,fun j hj=>by rw[←hspot i hi j hj];exact hcell j hj⟩
   have hlen:(List.ofFn g).length=len:=by simp
   have:=PR.rows (R:=KwR) (M:=(KwM w)) ((List.ofFn g).map cells) (some a) cap a.block a.off sz (fun i j=>if hi:i<len then(hcs i hi).choose.getD j (.bool false) else .bool false)
    (fun hne=>by
     have hl0:0<len:=by
      cases len with
      |zero=>simp at hne
      |succ _=>omega
     have:=hspot 0 hl0 0 hpos
     simp[Addr.add] at this
     rw[this]) (by simpa using hl) (fun i hi=>by simp[hc]) ?_ ?_
   ·simpa using this
   ·intro i hi j hj
    have hi':i<len:=by simpa using hi
    simp only[hi',dif_pos]
    obtain⟨h1,h2,h3⟩:=(hcs i hi').choose_spec
    show w.cell? _=_
    rw[h3 j hj,List.getD_eq_getElem?_getD,List.getElem?_eq_getElem (by omega)]
    rfl
   ·intro i hi j hj
    have hi':i<len:=by simpa using hi
    simp only[hi',dif_pos]
    obtain⟨h1,h2,h3⟩:=(hcs i hi').choose_spec
    have hj':j<sz:=by simpa[hc] using hj
    have:=h2.2 j (by rw[hc];exact hj') (by omega)
    simp only[List.getElem_map,List.getElem_ofFn]
    rw[List.getD_eq_getElem?_getD,List.getElem?_eq_getElem (by omega)]
    exact this
  ·simp only[List.length_ofFn]
   have:maxLen=maxN:=rfl
   omega
  ·have:=bulkAll_sum size (List.ofFn g) (elems.map (·.1)) (by simp[hel]) (fun i hi hi'=>by
    obtain⟨us,_,_,_,h4,h5⟩:=hg ⟨i,by simpa using hi⟩
    simpa using h5)
   simp only[Rows.uptoBulk]
   omega
  ·intro x hx
   obtain⟨i,rfl⟩:=List.mem_ofFn.1 hx
   obtain⟨_,_,_,h4,_⟩:=hg i
   exact h4
def stB(P:Program)(t:TypeId)(l:List (Nat×Nat×Nat)):Bool:=match P.underlying t with
 |some (.struct fs)=>decide (fs.toList.map (fun f=>(f.type,f.offset,P.cellsOf f.type))=l)
 |_=>false
theorem rd_struct{t:TypeId}{l:List (Nat×Nat×Nat)}{n:Nat}{cs:List Value}{d:DataW H}(hs:stB P t l=true)(h:rd enc P w held n t cs d) :
  ∃(ds:List (DataW H)) (m:Nat),n=m+1∧d=.agg ds∧cs.length=P.cellsOf t∧ds.length=l.length∧∀i ty off c,l[i]? = some (ty,off,c)→∃(hi:i<ds.length),rd enc P w held m ty ((cs.drop off).take c) ds[i]:=by
 unfold stB at hs
 split at hs
 ·rename_i fs hfs
  have hs:=of_decide_eq_true hs
  obtain⟨⟨q,h⟩,hbk⟩:=h
  obtain⟨xs,m,hm,hx,hl,hlen,hf⟩:=DataW.trod_struct hfs h
  cases hx
  have hbk2:=hbk
  simp only[Rows.uptoBulk] at hbk2
  have hll:l.length=fs.size:=by rw[←hs];simp
  refine⟨_,m,hm,rfl,hl,by simp[hlen,hll],fun i ty off c hi=>?_⟩
  rw[←hs,List.getElem?_map] at hi
  obtain⟨f,hf1,hf2⟩:=map_some' hi
  simp only[Prod.mk.injEq] at hf2
  obtain⟨e1,e2,e3⟩:=hf2
  have hlt:i<xs.length:=by
   have:i<fs.toList.length:=lt_of_get hf1
   rw[hlen];simpa using this
  have:=hf i f (by simpa using hf1)
  rw[List.getElem?_eq_getElem hlt] at this
  have hbm:=bulk_mem (xs.map (·.1)) i (by simpa using hlt)
  refine⟨by simpa using hlt,⟨xs[i].2,?_⟩,by omega⟩
  rw[←e1,←e2,←e3]
  simpa using this
 ·cases hs
end
section
variable{H:Type}{enc:TypeId×Value→H}{w:World}{held:Bool}{n:Nat}{cs:List Value}{d:DataW H}
theorem AllR.nil:AllR w [] []:=⟨rfl,fun i h=>by simp at h⟩
theorem AllR.cons{p:PV}{v:Value}{ps:List PV}{vs:List Value}(h:PR KwR (KwM w) p v)(hl:AllR w ps vs):AllR w (p::ps) (v::vs):=by
 refine⟨by simp[hl.1],fun i hi hi'=>?_⟩
 cases i with
 |zero=>exact h
 |succ i=>exact hl.2 i (by simpa using hi) (by simpa using hi')
theorem AllR.append{ps qs:List PV}{vs us:List Value}(h:AllR w ps vs)(h':AllR w qs us):AllR w (ps++qs) (vs++us):=by
 refine⟨by simp[h.1,h'.1],fun i hi hi'=>?_⟩
 by_cases hl:i<ps.length
 ·have hl':i<vs.length:=by rw[←h.1];exact hl
  rw[List.getElem_append_left hl,List.getElem_append_left hl']
  exact h.2 i hl hl'
 ·have e:=h.1
  rw[List.getElem_append_right (by omega),List.getElem_append_right (by omega)]
  have:=h'.2 (i-ps.length) (by rw[List.length_append] at hi;omega) (by rw[List.length_append] at hi';omega)
  simpa only [e] using this
theorem AllR.step(off c:Nat){ps qs:List PV}(h:AllR w ps ((cs.drop off).take c))(ht:AllR w qs (cs.drop (off+c))):AllR w (ps++qs) (cs.drop off):=by
 rw[←List.take_append_drop c (cs.drop off),List.drop_drop]
 exact AllR.append h ht
theorem AllR.fin{k:Nat}(h:cs.length=k):AllR w [] (cs.drop k):=by
 rw[List.drop_eq_nil_of_le (by omega)]
 exact AllR.nil
theorem u_int:Tryz.prog.underlying 3=some (.int .i64):=by kernel_rfl
theorem u_int64:Tryz.prog.underlying 2=some (.int .i64):=by kernel_rfl
theorem ud_str:Tryz.prog.underlying 9=some .string:=by kernel_rfl
theorem u_strs:Tryz.prog.underlying 70=some (.slice 9):=by kernel_rfl
theorem rdi{t:TypeId}(ht:Tryz.prog.underlying t=some (.int .i64))(h:rd enc Tryz.prog w held n t cs d):∃k:Int,AllR w [iv k] cs∧1≤Rows.uptoBulk d:=by
 obtain⟨⟨q,h⟩,_⟩:=h
 obtain⟨k,rfl,hx,_⟩:=DataW.trod_int ht h
 cases hx
 exact⟨k,.cons (.lit _ rfl) .nil,by simp[Rows.uptoBulk]⟩
theorem rds(h:rd enc Tryz.prog w held n 9 cs d):∃s:ByteArray,AllR w [sv s] cs∧s.size+1≤Rows.uptoBulk d:=by
 obtain⟨⟨q,h⟩,_⟩:=h
 obtain⟨s,rfl,hx,_⟩:=DataW.trod_string ud_str h
 cases hx
 exact⟨s,.cons (.lit _ rfl) .nil,by show s.size+1≤s.data.toList.length+1;rw[Array.length_toList];exact Nat.le_refl _⟩
theorem rdl{α:Type}(cells:α→List PV)(size:α→Nat){t e:TypeId}{sz:Nat}(ht:Tryz.prog.underlying t=some (.slice e))(hsz:Tryz.prog.cellsOf e=sz)(hpos:0<sz)(hc:∀x,(cells x).length=sz)
  (he:∀m cs d,m<n→rd enc Tryz.prog w held m e cs d→∃x,AllR w (cells x) cs∧size x≤Rows.uptoBulk d) (h:rd enc Tryz.prog w held n t cs d) :
  ∃l:List α,AllR w [.rows (l.map cells)] cs∧(l.map size).sum+1≤Rows.uptoBulk d:=by
 obtain⟨l,c,rfl,h1,h2,h3,h4⟩:=rd_sliceS cells (fun _=>True) size ht hsz hpos hc (fun m cs d hm h=>by
  obtain⟨x,h1,h2⟩:=he m cs d hm h
  exact⟨x,h1,trivial,h2⟩) h
 exact⟨l,.cons h1 .nil,h3⟩
def szS:List ByteArray→Nat
 |[]=>0
 |s::l=>s.size+1+szS l
theorem szS_eq:∀l,szS l=(l.map fun s:ByteArray=>s.size+1).sum
 |[]=>by rw[szS];rfl
 |s::l=>by rw[szS,szS_eq l];rfl
theorem szS_len:∀l,l.length≤szS l
 |[]=>Nat.zero_le _
 |s::l=>by have:=szS_len l;rw[szS,List.length_cons];omega
theorem rdss(h:rd enc Tryz.prog w held n 70 cs d):∃l:List ByteArray,AllR w [strs l] cs∧szS l+1≤Rows.uptoBulk d:=by
 obtain⟨l,h1,h2⟩:=rdl (fun s:ByteArray=>[sv s]) (fun s=>s.size+1) (sz:=1) u_strs (by kernel_rfl) (by decide) (fun _=>rfl) (fun m cs d _ h=>rds h) h
 exact⟨l,h1,by rw[szS_eq];exact h2⟩
theorem bulk_fields2{ds:List (DataW H)}(hl:ds.length=2){a0 a1:Nat}{i0:0<ds.length}{i1:1<ds.length}(s0:a0≤Rows.uptoBulk ds[0])(s1:a1≤Rows.uptoBulk ds[1]):a0+a1+1≤Rows.uptoBulk (.agg ds):=by
 match ds,hl with
 |[d0,d1],_=>
  simp only[Rows.uptoBulk,Rows.uptoBulkAll]
  simp only[List.getElem_cons_zero,List.getElem_cons_succ] at s0 s1
  omega
theorem bulk_fields3{ds:List (DataW H)}(hl:ds.length=3){a0 a1 a2:Nat}{i0:0<ds.length}{i1:1<ds.length}{i2:2<ds.length}(s0:a0≤Rows.uptoBulk ds[0])(s1:a1≤Rows.uptoBulk ds[1])(s2:a2≤Rows.uptoBulk ds[2]):a0+a1+a2+1≤Rows.uptoBulk (.agg ds):=by
 match ds,hl with
 |[d0,d1,d2],_=>
  simp only[Rows.uptoBulk,Rows.uptoBulkAll]
  simp only[List.getElem_cons_zero,List.getElem_cons_succ] at s0 s1 s2
  omega
theorem bulk_fields4{ds:List (DataW H)}(hl:ds.length=4){a0 a1 a2 a3:Nat}{i0:0<ds.length}{i1:1<ds.length}{i2:2<ds.length}{i3:3<ds.length}(s0:a0≤Rows.uptoBulk ds[0])(s1:a1≤Rows.uptoBulk ds[1])(s2:a2≤Rows.uptoBulk ds[2])(s3:a3≤Rows.uptoBulk ds[3]):a0+a1+a2+a3+1≤Rows.uptoBulk (.agg ds):=by
 match ds,hl with
 |[d0,d1,d2,d3],_=>
  simp only[Rows.uptoBulk,Rows.uptoBulkAll]
  simp only[List.getElem_cons_zero,List.getElem_cons_succ] at s0 s1 s2 s3
  omega
theorem bulk_fields5{ds:List (DataW H)}(hl:ds.length=5){a0 a1 a2 a3 a4:Nat}{i0:0<ds.length}{i1:1<ds.length}{i2:2<ds.length}{i3:3<ds.length}{i4:4<ds.length}(s0:a0≤Rows.uptoBulk ds[0])(s1:a1≤Rows.uptoBulk ds[1])(s2:a2≤Rows.uptoBulk ds[2])(s3:a3≤Rows.uptoBulk ds[3])(s4:a4≤Rows.uptoBulk ds[4]):a0+a1+a2+a3+a4+1≤Rows.uptoBulk (.agg ds):=by
 match ds,hl with
 |[d0,d1,d2,d3,d4],_=>
  simp only[Rows.uptoBulk,Rows.uptoBulkAll]
  simp only[List.getElem_cons_zero,List.getElem_cons_succ] at s0 s1 s2 s3 s4
  omega
theorem bulk_fields6{ds:List (DataW H)}(hl:ds.length=6){a0 a1 a2 a3 a4 a5:Nat}{i0:0<ds.length}{i1:1<ds.length}{i2:2<ds.length}{i3:3<ds.length}{i4:4<ds.length}{i5:5<ds.length}(s0:a0≤Rows.uptoBulk ds[0])(s1:a1≤Rows.uptoBulk ds[1])(s2:a2≤Rows.uptoBulk ds[2])(s3:a3≤Rows.uptoBulk ds[3])(s4:a4≤Rows.uptoBulk ds[4])(s5:a5≤Rows.uptoBulk ds[5]):a0+a1+a2+a3+a4+a5+1≤Rows.uptoBulk (.agg ds):=by
 match ds,hl with
 |[d0,d1,d2,d3,d4,d5],_=>
  simp only[Rows.uptoBulk,Rows.uptoBulkAll]
  simp only[List.getElem_cons_zero,List.getElem_cons_succ] at s0 s1 s2 s3 s4 s5
  omega
theorem bulk_fields8{ds:List (DataW H)}(hl:ds.length=8){a0 a1 a2 a3 a4 a5 a6 a7:Nat}{i0:0<ds.length}{i1:1<ds.length}{i2:2<ds.length}{i3:3<ds.length}{i4:4<ds.length}{i5:5<ds.length}{i6:6<ds.length}{i7:7<ds.length}(s0:a0≤Rows.uptoBulk ds[0])(s1:a1≤Rows.uptoBulk ds[1])(s2:a2≤Rows.uptoBulk ds[2])(s3:a3≤Rows.uptoBulk ds[3])(s4:a4≤Rows.uptoBulk ds[4])(s5:a5≤Rows.uptoBulk ds[5])(s6:a6≤Rows.uptoBulk ds[6])(s7:a7≤Rows.uptoBulk ds[7]):a0+a1+a2+a3+a4+a5+a6+a7+1≤Rows.uptoBulk (.agg ds):=by
 match ds,hl with
 |[d0,d1,d2,d3,d4,d5,d6,d7],_=>
  simp only[Rows.uptoBulk,Rows.uptoBulkAll]
  simp only[List.getElem_cons_zero,List.getElem_cons_succ] at s0 s1 s2 s3 s4 s5 s6 s7
  omega
end
mutual
def Ty.size:Ty→Nat
 |.mk v0 v1 v2 v3=>1+(v1.size+1)+1+(Ty.sizes v3+1)+1
def Ty.sizes:List Ty→Nat
 |[]=>0
 |v::l=>v.size+Ty.sizes l
end
theorem Ty.size_eq(x:Ty):x.size=1+(x.name.size+1)+1+(Ty.sizes x.kids+1)+1:=by cases x;rw[Ty.size];rfl
theorem Ty.sizes_eq:∀l,Ty.sizes l=(l.map Ty.size).sum
 |[]=>by rw[Ty.sizes];rfl
 |v::l=>by rw[Ty.sizes,Ty.sizes_eq l];rfl
theorem Ty.size_pos(x:Ty):1≤x.size:=by rw[Ty.size_eq];omega
theorem Ty.len_le:∀l:List Ty,l.length≤Ty.sizes l
 |[]=>Nat.zero_le _
 |v::l=>by have:=Ty.len_le l;have:=v.size_pos;rw[Ty.sizes,List.length_cons];omega
theorem Ty.mem_le:∀{l:List Ty} {x:Ty},x∈l→x.size≤Ty.sizes l
 |v::l,x,h=>by
  rw[Ty.sizes]
  rcases List.mem_cons.1 h with rfl|h
  ·omega
  ·have:=Ty.mem_le h;omega
mutual
def Pt.size:Pt→Nat
 |.mk v0 v1 v2 v3 v4=>1+(v1.size+1)+1+(Pt.sizes v3+1)+1+1
def Pt.sizes:List Pt→Nat
 |[]=>0
 |v::l=>v.size+Pt.sizes l
end
theorem Pt.size_eq(x:Pt):x.size=1+(x.name.size+1)+1+(Pt.sizes x.kids+1)+1+1:=by cases x;rw[Pt.size];rfl
theorem Pt.sizes_eq:∀l,Pt.sizes l=(l.map Pt.size).sum
 |[]=>by rw[Pt.sizes];rfl
 |v::l=>by rw[Pt.sizes,Pt.sizes_eq l];rfl
theorem Pt.size_pos(x:Pt):1≤x.size:=by rw[Pt.size_eq];omega
theorem Pt.len_le:∀l:List Pt,l.length≤Pt.sizes l
 |[]=>Nat.zero_le _
 |v::l=>by have:=Pt.len_le l;have:=v.size_pos;rw[Pt.sizes,List.length_cons];omega
theorem Pt.mem_le:∀{l:List Pt} {x:Pt},x∈l→x.size≤Pt.sizes l
 |v::l,x,h=>by
  rw[Pt.sizes]
  rcases List.mem_cons.1 h with rfl|h
  ·omega
  ·have:=Pt.mem_le h;omega
mutual
def Ex.size:Ex→Nat
 |.mk v0 v1 v2 v3 v4 v5 v6 v7=>1+(v1.size+1)+1+Ty.size v3+(Ex.sizes v4+1)+(Al.sizes v5+1)+(Bd.sizes v6+1)+1+1
def Al.size:Al→Nat
 |.mk v0 v1=>Pt.size v0+Ex.size v1+1
def Bd.size:Bd→Nat
 |.mk v0 v1 v2=>(v0.size+1)+Ex.size v1+1+1
def Ex.sizes:List Ex→Nat
 |[]=>0
 |v::l=>v.size+Ex.sizes l
def Al.sizes:List Al→Nat
 |[]=>0
 |v::l=>v.size+Al.sizes l
def Bd.sizes:List Bd→Nat
 |[]=>0
 |v::l=>v.size+Bd.sizes l
end
theorem Ex.size_eq(x:Ex):x.size=1+(x.name.size+1)+1+Ty.size x.t+(Ex.sizes x.kids+1)+(Al.sizes x.alts+1)+(Bd.sizes x.binds+1)+1+1:=by cases x;rw[Ex.size];rfl
theorem Ex.sizes_eq:∀l,Ex.sizes l=(l.map Ex.size).sum
 |[]=>by rw[Ex.sizes];rfl
 |v::l=>by rw[Ex.sizes,Ex.sizes_eq l];rfl
theorem Ex.size_pos(x:Ex):1≤x.size:=by rw[Ex.size_eq];omega
theorem Ex.len_le:∀l:List Ex,l.length≤Ex.sizes l
 |[]=>Nat.zero_le _
 |v::l=>by have:=Ex.len_le l;have:=v.size_pos;rw[Ex.sizes,List.length_cons];omega
theorem Ex.mem_le:∀{l:List Ex} {x:Ex},x∈l→x.size≤Ex.sizes l
 |v::l,x,h=>by
  rw[Ex.sizes]
  rcases List.mem_cons.1 h with rfl|h
  ·omega
  ·have:=Ex.mem_le h;omega
theorem Al.size_eq(x:Al):x.size=Pt.size x.p+Ex.size x.e+1:=by cases x;rw[Al.size];rfl
theorem Al.sizes_eq:∀l,Al.sizes l=(l.map Al.size).sum
 |[]=>by rw[Al.sizes];rfl
 |v::l=>by rw[Al.sizes,Al.sizes_eq l];rfl
theorem Al.size_pos(x:Al):1≤x.size:=by rw[Al.size_eq];omega
theorem Al.len_le:∀l:List Al,l.length≤Al.sizes l
 |[]=>Nat.zero_le _
 |v::l=>by have:=Al.len_le l;have:=v.size_pos;rw[Al.sizes,List.length_cons];omega
theorem Al.mem_le:∀{l:List Al} {x:Al},x∈l→x.size≤Al.sizes l
 |v::l,x,h=>by
  rw[Al.sizes]
  rcases List.mem_cons.1 h with rfl|h
  ·omega
  ·have:=Al.mem_le h;omega
theorem Bd.size_eq(x:Bd):x.size=(x.name.size+1)+Ex.size x.e+1+1:=by cases x;rw[Bd.size];rfl
theorem Bd.sizes_eq:∀l,Bd.sizes l=(l.map Bd.size).sum
 |[]=>by rw[Bd.sizes];rfl
 |v::l=>by rw[Bd.sizes,Bd.sizes_eq l];rfl
theorem Bd.size_pos(x:Bd):1≤x.size:=by rw[Bd.size_eq];omega
theorem Bd.len_le:∀l:List Bd,l.length≤Bd.sizes l
 |[]=>Nat.zero_le _
 |v::l=>by have:=Bd.len_le l;have:=v.size_pos;rw[Bd.sizes,List.length_cons];omega
theorem Bd.mem_le:∀{l:List Bd} {x:Bd},x∈l→x.size≤Bd.sizes l
 |v::l,x,h=>by
  rw[Bd.sizes]
  rcases List.mem_cons.1 h with rfl|h
  ·omega
  ·have:=Bd.mem_le h;omega
def Cn.size:Cn→Nat
 |⟨v0,v1,v2⟩=>(v0.size+1)+(Ty.sizes v1+1)+1+1
def Cn.sizes:List Cn→Nat
 |[]=>0
 |v::l=>v.size+Cn.sizes l
theorem Cn.size_eq(x:Cn):x.size=(x.name.size+1)+(Ty.sizes x.args+1)+1+1:=by cases x;rw[Cn.size]
theorem Cn.sizes_eq:∀l,Cn.sizes l=(l.map Cn.size).sum
 |[]=>by rw[Cn.sizes];rfl
 |v::l=>by rw[Cn.sizes,Cn.sizes_eq l];rfl
theorem Cn.size_pos(x:Cn):1≤x.size:=by rw[Cn.size_eq];omega
theorem Cn.len_le:∀l:List Cn,l.length≤Cn.sizes l
 |[]=>Nat.zero_le _
 |v::l=>by have:=Cn.len_le l;have:=v.size_pos;rw[Cn.sizes,List.length_cons];omega
theorem Cn.mem_le:∀{l:List Cn} {x:Cn},x∈l→x.size≤Cn.sizes l
 |v::l,x,h=>by
  rw[Cn.sizes]
  rcases List.mem_cons.1 h with rfl|h
  ·omega
  ·have:=Cn.mem_le h;omega
def Dt.size:Dt→Nat
 |⟨v0,v1,v2,v3,v4⟩=>(v0.size+1)+(szS v1+1)+(Cn.sizes v2+1)+(szS v3+1)+1+1
def Dt.sizes:List Dt→Nat
 |[]=>0
 |v::l=>v.size+Dt.sizes l
theorem Dt.size_eq(x:Dt):x.size=(x.name.size+1)+(szS x.params+1)+(Cn.sizes x.cons+1)+(szS x.deriv+1)+1+1:=by cases x;rw[Dt.size]
theorem Dt.sizes_eq:∀l,Dt.sizes l=(l.map Dt.size).sum
 |[]=>by rw[Dt.sizes];rfl
 |v::l=>by rw[Dt.sizes,Dt.sizes_eq l];rfl
theorem Dt.size_pos(x:Dt):1≤x.size:=by rw[Dt.size_eq];omega
theorem Dt.len_le:∀l:List Dt,l.length≤Dt.sizes l
 |[]=>Nat.zero_le _
 |v::l=>by have:=Dt.len_le l;have:=v.size_pos;rw[Dt.sizes,List.length_cons];omega
theorem Dt.mem_le:∀{l:List Dt} {x:Dt},x∈l→x.size≤Dt.sizes l
 |v::l,x,h=>by
  rw[Dt.sizes]
  rcases List.mem_cons.1 h with rfl|h
  ·omega
  ·have:=Dt.mem_le h;omega
def Md.size:Md→Nat
 |⟨v0,v1,v2⟩=>(v0.size+1)+Ty.size v1+1+1
def Md.sizes:List Md→Nat
 |[]=>0
 |v::l=>v.size+Md.sizes l
theorem Md.size_eq(x:Md):x.size=(x.name.size+1)+Ty.size x.t+1+1:=by cases x;rw[Md.size]
theorem Md.sizes_eq:∀l,Md.sizes l=(l.map Md.size).sum
 |[]=>by rw[Md.sizes];rfl
 |v::l=>by rw[Md.sizes,Md.sizes_eq l];rfl
theorem Md.size_pos(x:Md):1≤x.size:=by rw[Md.size_eq];omega
theorem Md.len_le:∀l:List Md,l.length≤Md.sizes l
 |[]=>Nat.zero_le _
 |v::l=>by have:=Md.len_le l;have:=v.size_pos;rw[Md.sizes,List.length_cons];omega
theorem Md.mem_le:∀{l:List Md} {x:Md},x∈l→x.size≤Md.sizes l
 |v::l,x,h=>by
  rw[Md.sizes]
  rcases List.mem_cons.1 h with rfl|h
  ·omega
  ·have:=Md.mem_le h;omega
def Cl.size:Cl→Nat
 |⟨v0,v1,v2,v3,v4,v5⟩=>(v0.size+1)+(v1.size+1)+(szS v2+1)+(Md.sizes v3+1)+(Bd.sizes v4+1)+1+1
def Cl.sizes:List Cl→Nat
 |[]=>0
 |v::l=>v.size+Cl.sizes l
theorem Cl.size_eq(x:Cl):x.size=(x.name.size+1)+(x.var.size+1)+(szS x.supers+1)+(Md.sizes x.methods+1)+(Bd.sizes x.defaults+1)+1+1:=by cases x;rw[Cl.size]
theorem Cl.sizes_eq:∀l,Cl.sizes l=(l.map Cl.size).sum
 |[]=>by rw[Cl.sizes];rfl
 |v::l=>by rw[Cl.sizes,Cl.sizes_eq l];rfl
theorem Cl.size_pos(x:Cl):1≤x.size:=by rw[Cl.size_eq];omega
theorem Cl.len_le:∀l:List Cl,l.length≤Cl.sizes l
 |[]=>Nat.zero_le _
 |v::l=>by have:=Cl.len_le l;have:=v.size_pos;rw[Cl.sizes,List.length_cons];omega
theorem Cl.mem_le:∀{l:List Cl} {x:Cl},x∈l→x.size≤Cl.sizes l
 |v::l,x,h=>by
  rw[Cl.sizes]
  rcases List.mem_cons.1 h with rfl|h
  ·omega
  ·have:=Cl.mem_le h;omega
def Pd.size:Pd→Nat
 |⟨v0,v1⟩=>(v0.size+1)+Ty.size v1+1
def Pd.sizes:List Pd→Nat
 |[]=>0
 |v::l=>v.size+Pd.sizes l
theorem Pd.size_eq(x:Pd):x.size=(x.cls.size+1)+Ty.size x.t+1:=by cases x;rw[Pd.size]
theorem Pd.sizes_eq:∀l,Pd.sizes l=(l.map Pd.size).sum
 |[]=>by rw[Pd.sizes];rfl
 |v::l=>by rw[Pd.sizes,Pd.sizes_eq l];rfl
theorem Pd.size_pos(x:Pd):1≤x.size:=by rw[Pd.size_eq];omega
theorem Pd.len_le:∀l:List Pd,l.length≤Pd.sizes l
 |[]=>Nat.zero_le _
 |v::l=>by have:=Pd.len_le l;have:=v.size_pos;rw[Pd.sizes,List.length_cons];omega
theorem Pd.mem_le:∀{l:List Pd} {x:Pd},x∈l→x.size≤Pd.sizes l
 |v::l,x,h=>by
  rw[Pd.sizes]
  rcases List.mem_cons.1 h with rfl|h
  ·omega
  ·have:=Pd.mem_le h;omega
def It.size:It→Nat
 |⟨v0,v1,v2,v3,v4⟩=>(v0.size+1)+Ty.size v1+(Pd.sizes v2+1)+(Bd.sizes v3+1)+1+1
def It.sizes:List It→Nat
 |[]=>0
 |v::l=>v.size+It.sizes l
theorem It.size_eq(x:It):x.size=(x.cls.size+1)+Ty.size x.head+(Pd.sizes x.ctx+1)+(Bd.sizes x.binds+1)+1+1:=by cases x;rw[It.size]
theorem It.sizes_eq:∀l,It.sizes l=(l.map It.size).sum
 |[]=>by rw[It.sizes];rfl
 |v::l=>by rw[It.sizes,It.sizes_eq l];rfl
theorem It.size_pos(x:It):1≤x.size:=by rw[It.size_eq];omega
theorem It.len_le:∀l:List It,l.length≤It.sizes l
 |[]=>Nat.zero_le _
 |v::l=>by have:=It.len_le l;have:=v.size_pos;rw[It.sizes,List.length_cons];omega
theorem It.mem_le:∀{l:List It} {x:It},x∈l→x.size≤It.sizes l
 |v::l,x,h=>by
  rw[It.sizes]
  rcases List.mem_cons.1 h with rfl|h
  ·omega
  ·have:=It.mem_le h;omega
section
variable{H:Type}{enc:TypeId×Value→H}{w:World}{held:Bool}
theorem u_tys:Tryz.prog.underlying 22=some (.slice 24):=by kernel_rfl
theorem u_pts:Tryz.prog.underlying 34=some (.slice 36):=by kernel_rfl
theorem u_exs:Tryz.prog.underlying 25=some (.slice 29):=by kernel_rfl
theorem u_als:Tryz.prog.underlying 26=some (.slice 55):=by kernel_rfl
theorem u_bds:Tryz.prog.underlying 27=some (.slice 61):=by kernel_rfl
theorem u_cns:Tryz.prog.underlying 77=some (.slice 95):=by kernel_rfl
theorem u_dts:Tryz.prog.underlying 42=some (.slice 79):=by kernel_rfl
theorem u_mds:Tryz.prog.underlying 71=some (.slice 99):=by kernel_rfl
theorem u_cls:Tryz.prog.underlying 43=some (.slice 73):=by kernel_rfl
theorem u_pds:Tryz.prog.underlying 74=some (.slice 101):=by kernel_rfl
theorem u_its:Tryz.prog.underlying 44=some (.slice 76):=by kernel_rfl
theorem Ty.cells_len(x:Ty):x.cells.length=4:=by rw[Ty.cells_eq];rfl
theorem Pt.cells_len(x:Pt):x.cells.length=5:=by rw[Pt.cells_eq];rfl
theorem Ex.cells_len(x:Ex):x.cells.length=11:=by rw[Ex.cells_eq];rfl
theorem Al.cells_len(x:Al):x.cells.length=16:=by rw[Al.cells_eq];rfl
theorem Bd.cells_len(x:Bd):x.cells.length=13:=by rw[Bd.cells_eq];rfl
theorem Cn.cells_len(x:Cn):x.cells.length=3:=by rw[Cn.cells];rfl
theorem Dt.cells_len(x:Dt):x.cells.length=5:=by rw[Dt.cells];rfl
theorem Md.cells_len(x:Md):x.cells.length=6:=by rw[Md.cells];rfl
theorem Cl.cells_len(x:Cl):x.cells.length=6:=by rw[Cl.cells];rfl
theorem Pd.cells_len(x:Pd):x.cells.length=5:=by rw[Pd.cells];rfl
theorem It.cells_len(x:It):x.cells.length=8:=by rw[It.cells];rfl
theorem rd_Ty:∀(n:Nat) (cs:List Value) (d:DataW H),rd enc Tryz.prog w held n 24 cs d→∃v:Ty,AllR w v.cells cs∧v.size≤Rows.uptoBulk d:=by
 intro n
 induction n using Nat.strongRecOn with
 |_ n ih=>
  intro cs d h
  obtain⟨ds,m,rfl,rfl,hl,hdl,hf⟩:=rd_struct (l:=[(3,0,1),(9,1,1),(3,2,1),(22,3,1)]) (by kernel_rfl) h
  have hz:Tryz.prog.cellsOf 24=4:=by kernel_rfl
  rw[hz] at hl
  obtain⟨i0,f0⟩:=hf 0 3 0 1 rfl
  obtain⟨v0,r0,s0⟩:=rdi u_int f0
  obtain⟨i1,f1⟩:=hf 1 9 1 1 rfl
  obtain⟨v1,r1,s1⟩:=rds f1
  obtain⟨i2,f2⟩:=hf 2 3 2 1 rfl
  obtain⟨v2,r2,s2⟩:=rdi u_int f2
  obtain⟨i3,f3⟩:=hf 3 22 3 1 rfl
  obtain⟨v3,r3,s3⟩:=rdl Ty.cells Ty.size u_tys (by kernel_rfl) (by decide) Ty.cells_len (fun m2 cs d hm h=>ih m2 (by omega) cs d h) f3
  rw[←Ty.sizes_eq] at s3
  refine⟨.mk v0 v1 v2 v3,?_,?_⟩
  ·rw[Ty.cells_eq]
   exact AllR.step 0 1 r0 (AllR.step 1 1 r1 (AllR.step 2 1 r2 (AllR.step 3 1 r3 (AllR.fin hl))))
  ·rw[Ty.size]
   exact bulk_fields4 (by simpa using hdl) s0 s1 s2 s3
theorem rd_Pt:∀(n:Nat) (cs:List Value) (d:DataW H),rd enc Tryz.prog w held n 36 cs d→∃v:Pt,AllR w v.cells cs∧v.size≤Rows.uptoBulk d:=by
 intro n
 induction n using Nat.strongRecOn with
 |_ n ih=>
  intro cs d h
  obtain⟨ds,m,rfl,rfl,hl,hdl,hf⟩:=rd_struct (l:=[(3,0,1),(9,1,1),(2,2,1),(34,3,1),(3,4,1)]) (by kernel_rfl) h
  have hz:Tryz.prog.cellsOf 36=5:=by kernel_rfl
  rw[hz] at hl
  obtain⟨i0,f0⟩:=hf 0 3 0 1 rfl
  obtain⟨v0,r0,s0⟩:=rdi u_int f0
  obtain⟨i1,f1⟩:=hf 1 9 1 1 rfl
  obtain⟨v1,r1,s1⟩:=rds f1
  obtain⟨i2,f2⟩:=hf 2 2 2 1 rfl
  obtain⟨v2,r2,s2⟩:=rdi u_int64 f2
  obtain⟨i3,f3⟩:=hf 3 34 3 1 rfl
  obtain⟨v3,r3,s3⟩:=rdl Pt.cells Pt.size u_pts (by kernel_rfl) (by decide) Pt.cells_len (fun m2 cs d hm h=>ih m2 (by omega) cs d h) f3
  rw[←Pt.sizes_eq] at s3
  obtain⟨i4,f4⟩:=hf 4 3 4 1 rfl
  obtain⟨v4,r4,s4⟩:=rdi u_int f4
  refine⟨.mk v0 v1 v2 v3 v4,?_,?_⟩
  ·rw[Pt.cells_eq]
   exact AllR.step 0 1 r0 (AllR.step 1 1 r1 (AllR.step 2 1 r2 (AllR.step 3 1 r3 (AllR.step 4 1 r4 (AllR.fin hl)))))
  ·rw[Pt.size]
   exact bulk_fields5 (by simpa using hdl) s0 s1 s2 s3 s4
theorem rd_Al0(n:Nat)(ih:∀m<n,∀(cs:List Value) (d:DataW H),rd enc Tryz.prog w held m 29 cs d→∃v:Ex,AllR w v.cells cs∧v.size≤Rows.uptoBulk d)(cs:List Value)(d:DataW H)(h:rd enc Tryz.prog w held n 55 cs d):∃v:Al,AllR w v.cells cs∧v.size≤Rows.uptoBulk d:=by
 obtain⟨ds,m,rfl,rfl,hl,hdl,hf⟩:=rd_struct (l:=[(36,0,5),(29,5,11)]) (by kernel_rfl) h
 have hz:Tryz.prog.cellsOf 55=16:=by kernel_rfl
 rw[hz] at hl
 obtain⟨i0,f0⟩:=hf 0 36 0 5 rfl
 obtain⟨v0,r0,s0⟩:=rd_Pt _ _ _ f0
 rw[Pt.cells_eq] at r0
 obtain⟨i1,f1⟩:=hf 1 29 5 11 rfl
 obtain⟨v1,r1,s1⟩:=ih m (by omega) _ _ f1
 rw[Ex.cells_eq] at r1
 refine⟨.mk v0 v1,?_,?_⟩
 ·rw[Al.cells_eq]
  exact AllR.step 0 5 r0 (AllR.step 5 11 r1 (AllR.fin hl))
 ·rw[Al.size]
  exact bulk_fields2 (by simpa using hdl) s0 s1
theorem rd_Bd0(n:Nat)(ih:∀m<n,∀(cs:List Value) (d:DataW H),rd enc Tryz.prog w held m 29 cs d→∃v:Ex,AllR w v.cells cs∧v.size≤Rows.uptoBulk d)(cs:List Value)(d:DataW H)(h:rd enc Tryz.prog w held n 61 cs d):∃v:Bd,AllR w v.cells cs∧v.size≤Rows.uptoBulk d:=by
 obtain⟨ds,m,rfl,rfl,hl,hdl,hf⟩:=rd_struct (l:=[(9,0,1),(29,1,11),(3,12,1)]) (by kernel_rfl) h
 have hz:Tryz.prog.cellsOf 61=13:=by kernel_rfl
 rw[hz] at hl
 obtain⟨i0,f0⟩:=hf 0 9 0 1 rfl
 obtain⟨v0,r0,s0⟩:=rds f0
 obtain⟨i1,f1⟩:=hf 1 29 1 11 rfl
 obtain⟨v1,r1,s1⟩:=ih m (by omega) _ _ f1
 rw[Ex.cells_eq] at r1
 obtain⟨i2,f2⟩:=hf 2 3 12 1 rfl
 obtain⟨v2,r2,s2⟩:=rdi u_int f2
 refine⟨.mk v0 v1 v2,?_,?_⟩
 ·rw[Bd.cells_eq]
  exact AllR.step 0 1 r0 (AllR.step 1 11 r1 (AllR.step 12 1 r2 (AllR.fin hl)))
 ·rw[Bd.size]
  exact bulk_fields3 (by simpa using hdl) s0 s1 s2
theorem rd_Ex:∀(n:Nat) (cs:List Value) (d:DataW H),rd enc Tryz.prog w held n 29 cs d→∃v:Ex,AllR w v.cells cs∧v.size≤Rows.uptoBulk d:=by
 intro n
 induction n using Nat.strongRecOn with
 |_ n ih=>
  intro cs d h
  obtain⟨ds,m,rfl,rfl,hl,hdl,hf⟩:=rd_struct (l:=[(3,0,1),(9,1,1),(2,2,1),(24,3,4),(25,7,1),(26,8,1),(27,9,1),(3,10,1)]) (by kernel_rfl) h
  have hz:Tryz.prog.cellsOf 29=11:=by kernel_rfl
  rw[hz] at hl
  obtain⟨i0,f0⟩:=hf 0 3 0 1 rfl
  obtain⟨v0,r0,s0⟩:=rdi u_int f0
  obtain⟨i1,f1⟩:=hf 1 9 1 1 rfl
  obtain⟨v1,r1,s1⟩:=rds f1
  obtain⟨i2,f2⟩:=hf 2 2 2 1 rfl
  obtain⟨v2,r2,s2⟩:=rdi u_int64 f2
  obtain⟨i3,f3⟩:=hf 3 24 3 4 rfl
  obtain⟨v3,r3,s3⟩:=rd_Ty _ _ _ f3
  rw[Ty.cells_eq] at r3
  obtain⟨i4,f4⟩:=hf 4 25 7 1 rfl
  obtain⟨v4,r4,s4⟩:=rdl Ex.cells Ex.size u_exs (by kernel_rfl) (by decide) Ex.cells_len (fun m2 cs d hm h=>ih m2 (by omega) cs d h) f4
  rw[←Ex.sizes_eq] at s4
  obtain⟨i5,f5⟩:=hf 5 26 8 1 rfl
  obtain⟨v5,r5,s5⟩:=rdl Al.cells Al.size u_als (by kernel_rfl) (by decide) Al.cells_len (fun m2 cs d hm h=>rd_Al0 m2 (fun m3 h3=>ih m3 (by omega)) cs d h) f5
  rw[←Al.sizes_eq] at s5
  obtain⟨i6,f6⟩:=hf 6 27 9 1 rfl
  obtain⟨v6,r6,s6⟩:=rdl Bd.cells Bd.size u_bds (by kernel_rfl) (by decide) Bd.cells_len (fun m2 cs d hm h=>rd_Bd0 m2 (fun m3 h3=>ih m3 (by omega)) cs d h) f6
  rw[←Bd.sizes_eq] at s6
  obtain⟨i7,f7⟩:=hf 7 3 10 1 rfl
  obtain⟨v7,r7,s7⟩:=rdi u_int f7
  refine⟨.mk v0 v1 v2 v3 v4 v5 v6 v7,?_,?_⟩
  ·rw[Ex.cells_eq]
   exact AllR.step 0 1 r0 (AllR.step 1 1 r1 (AllR.step 2 1 r2 (AllR.step 3 4 r3 (AllR.step 7 1 r4 (AllR.step 8 1 r5 (AllR.step 9 1 r6 (AllR.step 10 1 r7 (AllR.fin hl))))))))
  ·rw[Ex.size]
   exact bulk_fields8 (by simpa using hdl) s0 s1 s2 s3 s4 s5 s6 s7
theorem rd_Bd(n:Nat)(cs:List Value)(d:DataW H)(h:rd enc Tryz.prog w held n 61 cs d):∃v:Bd,AllR w v.cells cs∧v.size≤Rows.uptoBulk d:=rd_Bd0 n (fun m _=>rd_Ex m) cs d h
theorem rd_Cn(n:Nat)(cs:List Value)(d:DataW H)(h:rd enc Tryz.prog w held n 95 cs d):∃v:Cn,AllR w v.cells cs∧v.size≤Rows.uptoBulk d:=by
 obtain⟨ds,m,rfl,rfl,hl,hdl,hf⟩:=rd_struct (l:=[(9,0,1),(22,1,1),(3,2,1)]) (by kernel_rfl) h
 have hz:Tryz.prog.cellsOf 95=3:=by kernel_rfl
 rw[hz] at hl
 obtain⟨i0,f0⟩:=hf 0 9 0 1 rfl
 obtain⟨v0,r0,s0⟩:=rds f0
 obtain⟨i1,f1⟩:=hf 1 22 1 1 rfl
 obtain⟨v1,r1,s1⟩:=rdl Ty.cells Ty.size u_tys (by kernel_rfl) (by decide) Ty.cells_len (fun m2 cs d hm h=>rd_Ty _ _ _ h) f1
 rw[←Ty.sizes_eq] at s1
 obtain⟨i2,f2⟩:=hf 2 3 2 1 rfl
 obtain⟨v2,r2,s2⟩:=rdi u_int f2
 refine⟨⟨v0,v1,v2⟩,?_,?_⟩
 ·rw[Cn.cells]
  exact AllR.step 0 1 r0 (AllR.step 1 1 r1 (AllR.step 2 1 r2 (AllR.fin hl)))
 ·rw[Cn.size]
  exact bulk_fields3 (by simpa using hdl) s0 s1 s2
theorem rd_Dt(n:Nat)(cs:List Value)(d:DataW H)(h:rd enc Tryz.prog w held n 79 cs d):∃v:Dt,AllR w v.cells cs∧v.size≤Rows.uptoBulk d:=by
 obtain⟨ds,m,rfl,rfl,hl,hdl,hf⟩:=rd_struct (l:=[(9,0,1),(70,1,1),(77,2,1),(70,3,1),(3,4,1)]) (by kernel_rfl) h
 have hz:Tryz.prog.cellsOf 79=5:=by kernel_rfl
 rw[hz] at hl
 obtain⟨i0,f0⟩:=hf 0 9 0 1 rfl
 obtain⟨v0,r0,s0⟩:=rds f0
 obtain⟨i1,f1⟩:=hf 1 70 1 1 rfl
 obtain⟨v1,r1,s1⟩:=rdss f1
 obtain⟨i2,f2⟩:=hf 2 77 2 1 rfl
 obtain⟨v2,r2,s2⟩:=rdl Cn.cells Cn.size u_cns (by kernel_rfl) (by decide) Cn.cells_len (fun m2 cs d hm h=>rd_Cn _ _ _ h) f2
 rw[←Cn.sizes_eq] at s2
 obtain⟨i3,f3⟩:=hf 3 70 3 1 rfl
 obtain⟨v3,r3,s3⟩:=rdss f3
 obtain⟨i4,f4⟩:=hf 4 3 4 1 rfl
 obtain⟨v4,r4,s4⟩:=rdi u_int f4
 refine⟨⟨v0,v1,v2,v3,v4⟩,?_,?_⟩
 ·rw[Dt.cells]
  exact AllR.step 0 1 r0 (AllR.step 1 1 r1 (AllR.step 2 1 r2 (AllR.step 3 1 r3 (AllR.step 4 1 r4 (AllR.fin hl)))))
 ·rw[Dt.size]
  exact bulk_fields5 (by simpa using hdl) s0 s1 s2 s3 s4
theorem rd_Md(n:Nat)(cs:List Value)(d:DataW H)(h:rd enc Tryz.prog w held n 99 cs d):∃v:Md,AllR w v.cells cs∧v.size≤Rows.uptoBulk d:=by
 obtain⟨ds,m,rfl,rfl,hl,hdl,hf⟩:=rd_struct (l:=[(9,0,1),(24,1,4),(3,5,1)]) (by kernel_rfl) h
 have hz:Tryz.prog.cellsOf 99=6:=by kernel_rfl
 rw[hz] at hl
 obtain⟨i0,f0⟩:=hf 0 9 0 1 rfl
 obtain⟨v0,r0,s0⟩:=rds f0
 obtain⟨i1,f1⟩:=hf 1 24 1 4 rfl
 obtain⟨v1,r1,s1⟩:=rd_Ty _ _ _ f1
 rw[Ty.cells_eq] at r1
 obtain⟨i2,f2⟩:=hf 2 3 5 1 rfl
 obtain⟨v2,r2,s2⟩:=rdi u_int f2
 refine⟨⟨v0,v1,v2⟩,?_,?_⟩
 ·rw[Md.cells]
  exact AllR.step 0 1 r0 (AllR.step 1 4 r1 (AllR.step 5 1 r2 (AllR.fin hl)))
 ·rw[Md.size]
  exact bulk_fields3 (by simpa using hdl) s0 s1 s2
theorem rd_Cl(n:Nat)(cs:List Value)(d:DataW H)(h:rd enc Tryz.prog w held n 73 cs d):∃v:Cl,AllR w v.cells cs∧v.size≤Rows.uptoBulk d:=by
 obtain⟨ds,m,rfl,rfl,hl,hdl,hf⟩:=rd_struct (l:=[(9,0,1),(9,1,1),(70,2,1),(71,3,1),(27,4,1),(3,5,1)]) (by kernel_rfl) h
 have hz:Tryz.prog.cellsOf 73=6:=by kernel_rfl
 rw[hz] at hl
 obtain⟨i0,f0⟩:=hf 0 9 0 1 rfl
 obtain⟨v0,r0,s0⟩:=rds f0
 obtain⟨i1,f1⟩:=hf 1 9 1 1 rfl
 obtain⟨v1,r1,s1⟩:=rds f1
 obtain⟨i2,f2⟩:=hf 2 70 2 1 rfl
 obtain⟨v2,r2,s2⟩:=rdss f2
 obtain⟨i3,f3⟩:=hf 3 71 3 1 rfl
 obtain⟨v3,r3,s3⟩:=rdl Md.cells Md.size u_mds (by kernel_rfl) (by decide) Md.cells_len (fun m2 cs d hm h=>rd_Md _ _ _ h) f3
 rw[←Md.sizes_eq] at s3
 obtain⟨i4,f4⟩:=hf 4 27 4 1 rfl
 obtain⟨v4,r4,s4⟩:=rdl Bd.cells Bd.size u_bds (by kernel_rfl) (by decide) Bd.cells_len (fun m2 cs d hm h=>rd_Bd _ _ _ h) f4
 rw[←Bd.sizes_eq] at s4
 obtain⟨i5,f5⟩:=hf 5 3 5 1 rfl
 obtain⟨v5,r5,s5⟩:=rdi u_int f5
 refine⟨⟨v0,v1,v2,v3,v4,v5⟩,?_,?_⟩
 ·rw[Cl.cells]
  exact AllR.step 0 1 r0 (AllR.step 1 1 r1 (AllR.step 2 1 r2 (AllR.step 3 1 r3 (AllR.step 4 1 r4 (AllR.step 5 1 r5 (AllR.fin hl))))))
 ·rw[Cl.size]
  exact bulk_fields6 (by simpa using hdl) s0 s1 s2 s3 s4 s5
theorem rd_Pd(n:Nat)(cs:List Value)(d:DataW H)(h:rd enc Tryz.prog w held n 101 cs d):∃v:Pd,AllR w v.cells cs∧v.size≤Rows.uptoBulk d:=by
 obtain⟨ds,m,rfl,rfl,hl,hdl,hf⟩:=rd_struct (l:=[(9,0,1),(24,1,4)]) (by kernel_rfl) h
 have hz:Tryz.prog.cellsOf 101=5:=by kernel_rfl
 rw[hz] at hl
 obtain⟨i0,f0⟩:=hf 0 9 0 1 rfl
 obtain⟨v0,r0,s0⟩:=rds f0
 obtain⟨i1,f1⟩:=hf 1 24 1 4 rfl
 obtain⟨v1,r1,s1⟩:=rd_Ty _ _ _ f1
 rw[Ty.cells_eq] at r1
 refine⟨⟨v0,v1⟩,?_,?_⟩
 ·rw[Pd.cells]
  exact AllR.step 0 1 r0 (AllR.step 1 4 r1 (AllR.fin hl))
 ·rw[Pd.size]
  exact bulk_fields2 (by simpa using hdl) s0 s1
theorem rd_It(n:Nat)(cs:List Value)(d:DataW H)(h:rd enc Tryz.prog w held n 76 cs d):∃v:It,AllR w v.cells cs∧v.size≤Rows.uptoBulk d:=by
 obtain⟨ds,m,rfl,rfl,hl,hdl,hf⟩:=rd_struct (l:=[(9,0,1),(24,1,4),(74,5,1),(27,6,1),(3,7,1)]) (by kernel_rfl) h
 have hz:Tryz.prog.cellsOf 76=8:=by kernel_rfl
 rw[hz] at hl
 obtain⟨i0,f0⟩:=hf 0 9 0 1 rfl
 obtain⟨v0,r0,s0⟩:=rds f0
 obtain⟨i1,f1⟩:=hf 1 24 1 4 rfl
 obtain⟨v1,r1,s1⟩:=rd_Ty _ _ _ f1
 rw[Ty.cells_eq] at r1
 obtain⟨i2,f2⟩:=hf 2 74 5 1 rfl
 obtain⟨v2,r2,s2⟩:=rdl Pd.cells Pd.size u_pds (by kernel_rfl) (by decide) Pd.cells_len (fun m2 cs d hm h=>rd_Pd _ _ _ h) f2
 rw[←Pd.sizes_eq] at s2
 obtain⟨i3,f3⟩:=hf 3 27 6 1 rfl
 obtain⟨v3,r3,s3⟩:=rdl Bd.cells Bd.size u_bds (by kernel_rfl) (by decide) Bd.cells_len (fun m2 cs d hm h=>rd_Bd _ _ _ h) f3
 rw[←Bd.sizes_eq] at s3
 obtain⟨i4,f4⟩:=hf 4 3 7 1 rfl
 obtain⟨v4,r4,s4⟩:=rdi u_int f4
 refine⟨⟨v0,v1,v2,v3,v4⟩,?_,?_⟩
 ·rw[It.cells]
  exact AllR.step 0 1 r0 (AllR.step 1 4 r1 (AllR.step 5 1 r2 (AllR.step 6 1 r3 (AllR.step 7 1 r4 (AllR.fin hl)))))
 ·rw[It.size]
  exact bulk_fields5 (by simpa using hdl) s0 s1 s2 s3 s4
end
end Go.Proofs.YtkamjbmjjhbjcaaGreatDoor
