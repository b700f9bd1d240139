/- Joined texts. -/
import Derived.Laws.StructEq
import Derived.Test.YtijcobeebaceoaaGreatDoorMq1
set_option linter.all false
namespace Go.Proofs.YtijcobeebaceoaaGreatDoor
open Go.RowKit
inductive Ty where
 |mk (kind:Int) (name:ByteArray) (n:Int) (kids:List Ty)
inductive Pt where
 |mk (kind:Int) (name:ByteArray) (n:Int) (kids:List Pt) (at_:Int)
mutual
inductive Ex where
 |mk (kind:Int) (name:ByteArray) (n:Int) (t:Ty) (kids:List Ex) (alts:List Al) (binds:List Bd) (at_:Int)
inductive Al where
 |mk (p:Pt) (e:Ex)
inductive Bd where
 |mk (name:ByteArray) (e:Ex) (at_:Int)
end
def Ty.kind:Ty→Int | .mk k _ _ _=>k
def Ty.name:Ty→ByteArray | .mk _ s _ _=>s
def Ty.n:Ty→Int | .mk _ _ n _=>n
def Ty.kids:Ty→List Ty | .mk _ _ _ ks=>ks
def Pt.kind:Pt→Int | .mk k _ _ _ _=>k
def Pt.name:Pt→ByteArray | .mk _ s _ _ _=>s
def Pt.n:Pt→Int | .mk _ _ n _ _=>n
def Pt.kids:Pt→List Pt | .mk _ _ _ ks _=>ks
def Pt.at_:Pt→Int | .mk _ _ _ _ a=>a
def Ex.kind:Ex→Int | .mk k _ _ _ _ _ _ _=>k
def Ex.name:Ex→ByteArray | .mk _ s _ _ _ _ _ _=>s
def Ex.n:Ex→Int | .mk _ _ n _ _ _ _ _=>n
def Ex.t:Ex→Ty | .mk _ _ _ t _ _ _ _=>t
def Ex.kids:Ex→List Ex | .mk _ _ _ _ ks _ _ _=>ks
def Ex.alts:Ex→List Al | .mk _ _ _ _ _ l _ _=>l
def Ex.binds:Ex→List Bd | .mk _ _ _ _ _ _ l _=>l
def Ex.at_:Ex→Int | .mk _ _ _ _ _ _ _ a=>a
def Al.p:Al→Pt | .mk p _=>p
def Al.e:Al→Ex | .mk _ e=>e
def Bd.name:Bd→ByteArray | .mk s _ _=>s
def Bd.e:Bd→Ex | .mk _ e _=>e
def Bd.at_:Bd→Int | .mk _ _ a=>a
structure Cn where
 name:ByteArray
 args:List Ty
 at_:Int
structure Dt where
 name:ByteArray
 params:List ByteArray
 cons:List Cn
 deriv:List ByteArray
 at_:Int
structure Md where
 name:ByteArray
 t:Ty
 at_:Int
structure Cl where
 name:ByteArray
 var:ByteArray
 supers:List ByteArray
 methods:List Md
 defaults:List Bd
 at_:Int
structure Pd where
 cls:ByteArray
 t:Ty
structure It where
 cls:ByteArray
 head:Ty
 ctx:List Pd
 binds:List Bd
 at_:Int
mutual
def Ty.cells:Ty→List PV
 |.mk k s n ks=>[iv k,sv s,iv n,.rows (Ty.rows ks)]
def Ty.rows:List Ty→List (List PV)
 |[]=>[]
 |v::l=>v.cells::Ty.rows l
end
mutual
def Pt.cells:Pt→List PV
 |.mk k s n ks a=>[iv k,sv s,iv n,.rows (Pt.rows ks),iv a]
def Pt.rows:List Pt→List (List PV)
 |[]=>[]
 |v::l=>v.cells::Pt.rows l
end
theorem Ty.rows_eq:∀l,Ty.rows l=l.map Ty.cells
 |[]=>by rw[Ty.rows];rfl
 |v::l=>by rw[Ty.rows,Ty.rows_eq l];rfl
theorem Pt.rows_eq:∀l,Pt.rows l=l.map Pt.cells
 |[]=>by rw[Pt.rows];rfl
 |v::l=>by rw[Pt.rows,Pt.rows_eq l];rfl
def bH(l:List Ty):PV:=.rows (l.map Ty.cells)
def pts(l:List Pt):PV:=.rows (l.map Pt.cells)
def strs(l:List ByteArray):PV:=.rows (l.map fun s=>[sv s])
theorem Ty.cells_eq(t:Ty):t.cells=[iv t.kind,sv t.name,iv t.n,bH t.kids]:=by cases t;rw[Ty.cells,Ty.rows_eq];rfl
theorem Pt.cells_eq(p:Pt):p.cells=[iv p.kind,sv p.name,iv p.n,pts p.kids,iv p.at_]:=by cases p;rw[Pt.cells,Pt.rows_eq];rfl
mutual
def Ex.cells:Ex→List PV
 |.mk k s n t ks xs bs a=>[iv k,sv s,iv n,iv t.kind,sv t.name,iv t.n,bH t.kids,.rows (Ex.rows ks),.rows (Al.rows xs),.rows (Bd.rows bs),iv a]
def Al.cells:Al→List PV
 |.mk p e=>iv p.kind::sv p.name::iv p.n::pts p.kids::iv p.at_::e.cells
def Bd.cells:Bd→List PV
 |.mk s e a=>sv s::(e.cells++[iv a])
def Ex.rows:List Ex→List (List PV)
 |[]=>[]
 |v::l=>v.cells::Ex.rows l
def Al.rows:List Al→List (List PV)
 |[]=>[]
 |v::l=>v.cells::Al.rows l
def Bd.rows:List Bd→List (List PV)
 |[]=>[]
 |v::l=>v.cells::Bd.rows l
end
theorem Ex.rows_eq:∀l,Ex.rows l=l.map Ex.cells
 |[]=>by rw[Ex.rows];rfl
 |v::l=>by rw[Ex.rows,Ex.rows_eq l];rfl
theorem Al.rows_eq:∀l,Al.rows l=l.map Al.cells
 |[]=>by rw[Al.rows];rfl
 |v::l=>by rw[Al.rows,Al.rows_eq l];rfl
theorem Bd.rows_eq:∀l,Bd.rows l=l.map Bd.cells
 |[]=>by rw[Bd.rows];rfl
 |v::l=>by rw[Bd.rows,Bd.rows_eq l];rfl
def exs(l:List Ex):PV:=.rows (l.map Ex.cells)
def dY(l:List Al):PV:=.rows (l.map Al.cells)
def bn(l:List Bd):PV:=.rows (l.map Bd.cells)
theorem Ex.cells_eq(e:Ex):e.cells=[iv e.kind,sv e.name,iv e.n,iv e.t.kind,sv e.t.name,iv e.t.n,bH e.t.kids,exs e.kids,dY e.alts,bn e.binds,iv e.at_]:=by cases e;rw[Ex.cells,Ex.rows_eq,Al.rows_eq,Bd.rows_eq];rfl
theorem Al.cells_eq(x:Al):x.cells=[iv x.p.kind,sv x.p.name,iv x.p.n,pts x.p.kids,iv x.p.at_,iv x.e.kind,sv x.e.name,iv x.e.n,iv x.e.t.kind,sv x.e.t.name,iv x.e.t.n,bH x.e.t.kids,exs x.e.kids,dY x.e.alts,bn x.e.binds,iv x.e.at_]:=by cases x;rw[Al.cells,Ex.cells_eq];rfl
theorem Bd.cells_eq(x:Bd):x.cells=[sv x.name,iv x.e.kind,sv x.e.name,iv x.e.n,iv x.e.t.kind,sv x.e.t.name,iv x.e.t.n,bH x.e.t.kids,exs x.e.kids,dY x.e.alts,bn x.e.binds,iv x.e.at_,iv x.at_]:=by cases x;rw[Bd.cells,Ex.cells_eq];rfl
def Cn.cells(x:Cn):List PV:=[sv x.name,bH x.args,iv x.at_]
def qb(l:List Cn):PV:=.rows (l.map Cn.cells)
def Dt.cells(x:Dt):List PV:=[sv x.name,strs x.params,qb x.cons,strs x.deriv,iv x.at_]
def jm(l:List Dt):PV:=.rows (l.map Dt.cells)
def Md.cells(x:Md):List PV:=[sv x.name,iv x.t.kind,sv x.t.name,iv x.t.n,bH x.t.kids,iv x.at_]
def mJ(l:List Md):PV:=.rows (l.map Md.cells)
def Cl.cells(x:Cl):List PV:=[sv x.name,sv x.var,strs x.supers,mJ x.methods,bn x.defaults,iv x.at_]
def cls(l:List Cl):PV:=.rows (l.map Cl.cells)
def Pd.cells(x:Pd):List PV:=[sv x.cls,iv x.t.kind,sv x.t.name,iv x.t.n,bH x.t.kids]
def rQ(l:List Pd):PV:=.rows (l.map Pd.cells)
def It.cells(x:It):List PV:=[sv x.cls,iv x.head.kind,sv x.head.name,iv x.head.n,bH x.head.kids,rQ x.ctx,bn x.binds,iv x.at_]
def its(l:List It):PV:=.rows (l.map It.cells)
mutual
theorem Ty.ns:∀(v:Ty),∀p∈v.cells,NS p
 |.mk k s n ks,p,hp=>by
  have:=Ty.nsL ks;rw[Ty.cells] at hp;simp only[List.mem_cons,List.not_mem_nil,or_false] at hp;rcases hp with rfl|rfl|rfl|rfl
  ·exact .lit _
  ·exact .lit _
  ·exact .lit _
  ·exact .rows _ this
theorem Ty.nsL:∀(l:List Ty),∀c∈Ty.rows l,∀p∈c,NS p
 |[],c,hc,_,_=>by simp[Ty.rows] at hc
 |v::l,c,hc,p,hp=>by
  have h1:=Ty.ns v;have h2:=Ty.nsL l;rw[Ty.rows,List.mem_cons] at hc;rcases hc with rfl|hc
  ·exact h1 p hp
  ·exact h2 c hc p hp
end
mutual
theorem Pt.ns:∀(v:Pt),∀p∈v.cells,NS p
 |.mk k s n ks a,p,hp=>by
  have:=Pt.nsL ks;rw[Pt.cells] at hp;simp only[List.mem_cons,List.not_mem_nil,or_false] at hp;rcases hp with rfl|rfl|rfl|rfl|rfl
  ·exact .lit _
  ·exact .lit _
  ·exact .lit _
  ·exact .rows _ this
  ·exact .lit _
theorem Pt.nsL:∀(l:List Pt),∀c∈Pt.rows l,∀p∈c,NS p
 |[],c,hc,_,_=>by simp[Pt.rows] at hc
 |v::l,c,hc,p,hp=>by
  have h1:=Pt.ns v;have h2:=Pt.nsL l;rw[Pt.rows,List.mem_cons] at hc;rcases hc with rfl|hc
  ·exact h1 p hp
  ·exact h2 c hc p hp
end
@[simp] theorem ah9(l:List Ty):NS (bH l):=by rw[bH,←Ty.rows_eq];exact .rows _ (Ty.nsL l)
@[simp] theorem aia(l:List Pt):NS (pts l):=by rw[pts,←Pt.rows_eq];exact .rows _ (Pt.nsL l)
theorem AX{α:Type}{f:α→List PV}{l:List α}(h:∀x∈l,∀p∈f x,NS p):NS (.rows (l.map f)):=.rows _ fun c hc p hp=>by
 obtain⟨x,hx,rfl⟩:=List.mem_map.1 hc;exact h x hx p hp
@[simp] theorem anw(l:List ByteArray):NS (strs l):=AX fun x _ p hp=>by simp at hp;subst hp;exact .lit _
mutual
theorem Ex.ns:∀(v:Ex),∀p∈v.cells,NS p
 |.mk k s n t ks xs bs a,p,hp=>by
  have h1:=Ex.nsL ks;have h2:=Al.nsL xs;have h3:=Bd.nsL bs;rw[Ex.cells] at hp;simp only[List.mem_cons,List.not_mem_nil,or_false] at hp;rcases hp with rfl|rfl|rfl|rfl|rfl|rfl|rfl|rfl|rfl|rfl|rfl
  ·exact .lit _
  ·exact .lit _
  ·exact .lit _
  ·exact .lit _
  ·exact .lit _
  ·exact .lit _
  ·exact ah9 _
  ·exact .rows _ h1
  ·exact .rows _ h2
  ·exact .rows _ h3
  ·exact .lit _
theorem Al.ns:∀(v:Al),∀p∈v.cells,NS p
 |.mk q e,p,hp=>by
  have h1:=Ex.ns e;rw[Al.cells] at hp;simp only[List.mem_cons] at hp;rcases hp with rfl|rfl|rfl|rfl|rfl|hp
  ·exact .lit _
  ·exact .lit _
  ·exact .lit _
  ·exact aia _
  ·exact .lit _
  ·exact h1 p hp
theorem Bd.ns:∀(v:Bd),∀p∈v.cells,NS p
 |.mk s e a,p,hp=>by
  have h1:=Ex.ns e;rw[Bd.cells] at hp;simp only[List.mem_cons,List.mem_append,List.not_mem_nil,or_false] at hp;rcases hp with rfl|hp|rfl
  ·exact .lit _
  ·exact h1 p hp
  ·exact .lit _
theorem Ex.nsL:∀(l:List Ex),∀c∈Ex.rows l,∀p∈c,NS p
 |[],c,hc,_,_=>by simp[Ex.rows] at hc
 |v::l,c,hc,p,hp=>by
  have h1:=Ex.ns v;have h2:=Ex.nsL l;rw[Ex.rows,List.mem_cons] at hc;rcases hc with rfl|hc
  ·exact h1 p hp
  ·exact h2 c hc p hp
theorem Al.nsL:∀(l:List Al),∀c∈Al.rows l,∀p∈c,NS p
 |[],c,hc,_,_=>by simp[Al.rows] at hc
 |v::l,c,hc,p,hp=>by
  have h1:=Al.ns v;have h2:=Al.nsL l;rw[Al.rows,List.mem_cons] at hc;rcases hc with rfl|hc
  ·exact h1 p hp
  ·exact h2 c hc p hp
theorem Bd.nsL:∀(l:List Bd),∀c∈Bd.rows l,∀p∈c,NS p
 |[],c,hc,_,_=>by simp[Bd.rows] at hc
 |v::l,c,hc,p,hp=>by
  have h1:=Bd.ns v;have h2:=Bd.nsL l;rw[Bd.rows,List.mem_cons] at hc;rcases hc with rfl|hc
  ·exact h1 p hp
  ·exact h2 c hc p hp
end
@[simp] theorem apT(l:List Ex):NS (exs l):=by rw[exs,←Ex.rows_eq];exact .rows _ (Ex.nsL l)
@[simp] theorem apW(l:List Al):NS (dY l):=by rw[dY,←Al.rows_eq];exact .rows _ (Al.nsL l)
@[simp] theorem apV(l:List Bd):NS (bn l):=by rw[bn,←Bd.rows_eq];exact .rows _ (Bd.nsL l)
@[simp] theorem apU(l:List Cn):NS (qb l):=AX fun x _ p hp=>by
 simp only[Cn.cells,List.mem_cons,List.not_mem_nil,or_false] at hp;rcases hp with rfl|rfl|rfl<;>simp
@[simp] theorem apR(l:List Md):NS (mJ l):=AX fun x _ p hp=>by
 simp only[Md.cells,List.mem_cons,List.not_mem_nil,or_false] at hp;rcases hp with rfl|rfl|rfl|rfl|rfl|rfl<;>simp
@[simp] theorem apQ(l:List Pd):NS (rQ l):=AX fun x _ p hp=>by
 simp only[Pd.cells,List.mem_cons,List.not_mem_nil,or_false] at hp;rcases hp with rfl|rfl|rfl|rfl|rfl<;>simp
theorem Ph:iY Tryz.prog 73 1 16:=iY.of (by kernel_rfl)
@[simp] theorem YT{r:AV}(l:List ByteArray):mF Tryz.prog 73 (.pv (strs l)) r↔r=.pv (iv l.length):=by rw[strs,iL Ph,List.length_map]
theorem Zk{r:AV}{l:List ByteArray}{i:Nat}{x:ByteArray}(h:l[i]? = some x):mW Tryz.prog 73 (.pv (strs l)) (.pv (.lit (.int .i64 (i:Int)))) r↔r=.cptr [sv x]:=by
 rw[strs];exact jG Ph (by rw[List.getElem?_map,h];rfl) rfl
theorem V7:iY Tryz.prog 23 4 56:=iY.of (by kernel_rfl)
@[simp] theorem ac0{r:AV}(l:List Ty):mF Tryz.prog 23 (.pv (bH l)) r↔r=.pv (iv l.length):=by rw[bH,iL V7,List.length_map]
theorem adw{r:AV}{l:List Ty}{i:Nat}{x:Ty}(h:l[i]? = some x):mW Tryz.prog 23 (.pv (bH l)) (.pv (.lit (.int .i64 (i:Int)))) r↔r=.cptr [iv x.kind,sv x.name,iv x.n,bH x.kids]:=by
 rw[bH];exact jG V7 (by rw[List.getElem?_map,h,Option.map_some,Ty.cells_eq]) rfl
theorem V8:iY Tryz.prog 127 5 64:=iY.of (by kernel_rfl)
@[simp] theorem ac2{r:AV}(l:List Pt):mF Tryz.prog 127 (.pv (pts l)) r↔r=.pv (iv l.length):=by rw[pts,iL V8,List.length_map]
theorem adx{r:AV}{l:List Pt}{i:Nat}{x:Pt}(h:l[i]? = some x):mW Tryz.prog 127 (.pv (pts l)) (.pv (.lit (.int .i64 (i:Int)))) r↔r=.cptr [iv x.kind,sv x.name,iv x.n,pts x.kids,iv x.at_]:=by
 rw[pts];exact jG V8 (by rw[List.getElem?_map,h,Option.map_some,Pt.cells_eq]) rfl
theorem Wi:iY Tryz.prog 51 11 168:=iY.of (by kernel_rfl)
@[simp] theorem ac7{r:AV}(l:List Ex):mF Tryz.prog 51 (.pv (exs l)) r↔r=.pv (iv l.length):=by rw[exs,iL Wi,List.length_map]
theorem adB{r:AV}{l:List Ex}{i:Nat}{x:Ex}(h:l[i]? = some x):mW Tryz.prog 51 (.pv (exs l)) (.pv (.lit (.int .i64 (i:Int)))) r↔r=.cptr [iv x.kind,sv x.name,iv x.n,iv x.t.kind,sv x.t.name,iv x.t.n,bH x.t.kids,exs x.kids,dY x.alts,bn x.binds,iv x.at_]:=by
 rw[exs];exact jG Wi (by rw[List.getElem?_map,h,Option.map_some,Ex.cells_eq]) rfl
theorem Wo:iY Tryz.prog 52 16 232:=iY.of (by kernel_rfl)
@[simp] theorem ade{r:AV}(l:List Al):mF Tryz.prog 52 (.pv (dY l)) r↔r=.pv (iv l.length):=by rw[dY,iL Wo,List.length_map]
theorem adG{r:AV}{l:List Al}{i:Nat}{x:Al}(h:l[i]? = some x):mW Tryz.prog 52 (.pv (dY l)) (.pv (.lit (.int .i64 (i:Int)))) r↔r=.cptr [iv x.p.kind,sv x.p.name,iv x.p.n,pts x.p.kids,iv x.p.at_,iv x.e.kind,sv x.e.name,iv x.e.n,iv x.e.t.kind,sv x.e.t.name,iv x.e.t.n,bH x.e.t.kids,exs x.e.kids,dY x.e.alts,bn x.e.binds,iv x.e.at_]:=by
 rw[dY];exact jG Wo (by rw[List.getElem?_map,h,Option.map_some,Al.cells_eq]) rfl
theorem Wn:iY Tryz.prog 38 13 192:=iY.of (by kernel_rfl)
@[simp] theorem adb{r:AV}(l:List Bd):mF Tryz.prog 38 (.pv (bn l)) r↔r=.pv (iv l.length):=by rw[bn,iL Wn,List.length_map]
theorem adF{r:AV}{l:List Bd}{i:Nat}{x:Bd}(h:l[i]? = some x):mW Tryz.prog 38 (.pv (bn l)) (.pv (.lit (.int .i64 (i:Int)))) r↔r=.cptr [sv x.name,iv x.e.kind,sv x.e.name,iv x.e.n,iv x.e.t.kind,sv x.e.t.name,iv x.e.t.n,bH x.e.t.kids,exs x.e.kids,dY x.e.alts,bn x.e.binds,iv x.e.at_,iv x.at_]:=by
 rw[bn];exact jG Wn (by rw[List.getElem?_map,h,Option.map_some,Bd.cells_eq]) rfl
theorem Wl:iY Tryz.prog 74 3 48:=iY.of (by kernel_rfl)
@[simp] theorem ac9{r:AV}(l:List Cn):mF Tryz.prog 74 (.pv (qb l)) r↔r=.pv (iv l.length):=by rw[qb,iL Wl,List.length_map]
theorem adD{r:AV}{l:List Cn}{i:Nat}{x:Cn}(h:l[i]? = some x):mW Tryz.prog 74 (.pv (qb l)) (.pv (.lit (.int .i64 (i:Int)))) r↔r=.cptr [sv x.name,bH x.args,iv x.at_]:=by
 rw[qb];exact jG Wl (by rw[List.getElem?_map,h,Option.map_some,Cn.cells]) rfl
theorem Wj:iY Tryz.prog 35 5 96:=iY.of (by kernel_rfl)
@[simp] theorem ac8{r:AV}(l:List Dt):mF Tryz.prog 35 (.pv (jm l)) r↔r=.pv (iv l.length):=by rw[jm,iL Wj,List.length_map]
theorem adC{r:AV}{l:List Dt}{i:Nat}{x:Dt}(h:l[i]? = some x):mW Tryz.prog 35 (.pv (jm l)) (.pv (.lit (.int .i64 (i:Int)))) r↔r=.cptr [sv x.name,strs x.params,qb x.cons,strs x.deriv,iv x.at_]:=by
 rw[jm];exact jG Wj (by rw[List.getElem?_map,h,Option.map_some,Dt.cells]) rfl
theorem Wd:iY Tryz.prog 78 6 80:=iY.of (by kernel_rfl)
@[simp] theorem ac5{r:AV}(l:List Md):mF Tryz.prog 78 (.pv (mJ l)) r↔r=.pv (iv l.length):=by rw[mJ,iL Wd,List.length_map]
theorem adz{r:AV}{l:List Md}{i:Nat}{x:Md}(h:l[i]? = some x):mW Tryz.prog 78 (.pv (mJ l)) (.pv (.lit (.int .i64 (i:Int)))) r↔r=.cptr [sv x.name,iv x.t.kind,sv x.t.name,iv x.t.n,bH x.t.kids,iv x.at_]:=by
 rw[mJ];exact jG Wd (by rw[List.getElem?_map,h,Option.map_some,Md.cells]) rfl
theorem Wm:iY Tryz.prog 36 6 112:=iY.of (by kernel_rfl)
@[simp] theorem ada{r:AV}(l:List Cl):mF Tryz.prog 36 (.pv (cls l)) r↔r=.pv (iv l.length):=by rw[cls,iL Wm,List.length_map]
theorem adE{r:AV}{l:List Cl}{i:Nat}{x:Cl}(h:l[i]? = some x):mW Tryz.prog 36 (.pv (cls l)) (.pv (.lit (.int .i64 (i:Int)))) r↔r=.cptr [sv x.name,sv x.var,strs x.supers,mJ x.methods,bn x.defaults,iv x.at_]:=by
 rw[cls];exact jG Wm (by rw[List.getElem?_map,h,Option.map_some,Cl.cells]) rfl
theorem V9:iY Tryz.prog 82 5 72:=iY.of (by kernel_rfl)
@[simp] theorem ac3{r:AV}(l:List Pd):mF Tryz.prog 82 (.pv (rQ l)) r↔r=.pv (iv l.length):=by rw[rQ,iL V9,List.length_map]
theorem ady{r:AV}{l:List Pd}{i:Nat}{x:Pd}(h:l[i]? = some x):mW Tryz.prog 82 (.pv (rQ l)) (.pv (.lit (.int .i64 (i:Int)))) r↔r=.cptr [sv x.cls,iv x.t.kind,sv x.t.name,iv x.t.n,bH x.t.kids]:=by
 rw[rQ];exact jG V9 (by rw[List.getElem?_map,h,Option.map_some,Pd.cells]) rfl
theorem Wh:iY Tryz.prog 37 8 128:=iY.of (by kernel_rfl)
@[simp] theorem ac6{r:AV}(l:List It):mF Tryz.prog 37 (.pv (its l)) r↔r=.pv (iv l.length):=by rw[its,iL Wh,List.length_map]
theorem adA{r:AV}{l:List It}{i:Nat}{x:It}(h:l[i]? = some x):mW Tryz.prog 37 (.pv (its l)) (.pv (.lit (.int .i64 (i:Int)))) r↔r=.cptr [sv x.cls,iv x.head.kind,sv x.head.name,iv x.head.n,bH x.head.kids,rQ x.ctx,bn x.binds,iv x.at_]:=by
 rw[its];exact jG Wh (by rw[List.getElem?_map,h,Option.map_some,It.cells]) rfl
structure Ev where
 datas:List Dt
 classes:List Cl
 insts:List It
structure Pg extends Ev where
 binds:List Bd
def dF:Nat:=9223372036854775807
section
variable{β:Type}{d:β}{k:AV→β}
theorem nP{l:List PV}(h:kH l):qZ (.cptr l):=.cptr _ h
theorem U3(l:List ByteArray):gm Tryz.prog d 73 (.pv (strs l)) k=k (.pv (iv l.length)):=eO (fun _=>YT l) (bq _)
theorem cK{l:List ByteArray}{i:Nat}{x:ByteArray}(h:l[i]? = some x):fB Tryz.prog d 73 (.pv (strs l)) (.pv (.lit (.int .i64 (i:Int)))) k=k (.cptr [sv x]):=gW (fun _=>Zk h) (nP (by simp[fV,iH]))
theorem YW(l:List Ty):gm Tryz.prog d 23 (.pv (bH l)) k=k (.pv (iv l.length)):=eO (fun _=>ac0 l) (bq _)
theorem Zm{l:List Ty}{i:Nat}{x:Ty}(h:l[i]? = some x):fB Tryz.prog d 23 (.pv (bH l)) (.pv (.lit (.int .i64 (i:Int)))) k=k (.cptr [iv x.kind,sv x.name,iv x.n,bH x.kids]):=gW (fun _=>adw h) (nP (by simp[fV,iH]))
theorem Y0(l:List Pt):gm Tryz.prog d 127 (.pv (pts l)) k=k (.pv (iv l.length)):=eO (fun _=>ac2 l) (bq _)
theorem Dn{l:List Pt}{i:Nat}{x:Pt}(h:l[i]? = some x):fB Tryz.prog d 127 (.pv (pts l)) (.pv (.lit (.int .i64 (i:Int)))) k=k (.cptr [iv x.kind,sv x.name,iv x.n,pts x.kids,iv x.at_]):=gW (fun _=>adx h) (nP (by simp[fV,iH]))
theorem Y3(l:List Ex):gm Tryz.prog d 51 (.pv (exs l)) k=k (.pv (iv l.length)):=eO (fun _=>ac7 l) (bq _)
theorem sM{l:List Ex}{i:Nat}{x:Ex}(h:l[i]? = some x):fB Tryz.prog d 51 (.pv (exs l)) (.pv (.lit (.int .i64 (i:Int)))) k=k (.cptr [iv x.kind,sv x.name,iv x.n,iv x.t.kind,sv x.t.name,iv x.t.n,bH x.t.kids,exs x.kids,dY x.alts,bn x.binds,iv x.at_]):=gW (fun _=>adB h) (nP (by simp[fV,iH]))
theorem Y5(l:List Al):gm Tryz.prog d 52 (.pv (dY l)) k=k (.pv (iv l.length)):=eO (fun _=>ade l) (bq _)
theorem pW{l:List Al}{i:Nat}{x:Al}(h:l[i]? = some x):fB Tryz.prog d 52 (.pv (dY l)) (.pv (.lit (.int .i64 (i:Int)))) k=k (.cptr [iv x.p.kind,sv x.p.name,iv x.p.n,pts x.p.kids,iv x.p.at_,iv x.e.kind,sv x.e.name,iv x.e.n,iv x.e.t.kind,sv x.e.t.name,iv x.e.t.n,bH x.e.t.kids,exs x.e.kids,dY x.e.alts,bn x.e.binds,iv x.e.at_]):=gW (fun _=>adG h) (nP (by simp[fV,iH]))
theorem Le(l:List Bd):gm Tryz.prog d 38 (.pv (bn l)) k=k (.pv (iv l.length)):=eO (fun _=>adb l) (bq _)
theorem gH{l:List Bd}{i:Nat}{x:Bd}(h:l[i]? = some x):fB Tryz.prog d 38 (.pv (bn l)) (.pv (.lit (.int .i64 (i:Int)))) k=k (.cptr [sv x.name,iv x.e.kind,sv x.e.name,iv x.e.n,iv x.e.t.kind,sv x.e.t.name,iv x.e.t.n,bH x.e.t.kids,exs x.e.kids,dY x.e.alts,bn x.e.binds,iv x.e.at_,iv x.at_]):=gW (fun _=>adF h) (nP (by simp[fV,iH]))
theorem Y4(l:List Cn):gm Tryz.prog d 74 (.pv (qb l)) k=k (.pv (iv l.length)):=eO (fun _=>ac9 l) (bq _)
theorem Dr{l:List Cn}{i:Nat}{x:Cn}(h:l[i]? = some x):fB Tryz.prog d 74 (.pv (qb l)) (.pv (.lit (.int .i64 (i:Int)))) k=k (.cptr [sv x.name,bH x.args,iv x.at_]):=gW (fun _=>adD h) (nP (by simp[fV,iH]))
theorem Lc(l:List Dt):gm Tryz.prog d 35 (.pv (jm l)) k=k (.pv (iv l.length)):=eO (fun _=>ac8 l) (bq _)
theorem Dq{l:List Dt}{i:Nat}{x:Dt}(h:l[i]? = some x):fB Tryz.prog d 35 (.pv (jm l)) (.pv (.lit (.int .i64 (i:Int)))) k=k (.cptr [sv x.name,strs x.params,qb x.cons,strs x.deriv,iv x.at_]):=gW (fun _=>adC h) (nP (by simp[fV,iH]))
theorem Y2(l:List Md):gm Tryz.prog d 78 (.pv (mJ l)) k=k (.pv (iv l.length)):=eO (fun _=>ac5 l) (bq _)
theorem Dp{l:List Md}{i:Nat}{x:Md}(h:l[i]? = some x):fB Tryz.prog d 78 (.pv (mJ l)) (.pv (.lit (.int .i64 (i:Int)))) k=k (.cptr [sv x.name,iv x.t.kind,sv x.t.name,iv x.t.n,bH x.t.kids,iv x.at_]):=gW (fun _=>adz h) (nP (by simp[fV,iH]))
theorem Ld(l:List Cl):gm Tryz.prog d 36 (.pv (cls l)) k=k (.pv (iv l.length)):=eO (fun _=>ada l) (bq _)
theorem sN{l:List Cl}{i:Nat}{x:Cl}(h:l[i]? = some x):fB Tryz.prog d 36 (.pv (cls l)) (.pv (.lit (.int .i64 (i:Int)))) k=k (.cptr [sv x.name,sv x.var,strs x.supers,mJ x.methods,bn x.defaults,iv x.at_]):=gW (fun _=>adE h) (nP (by simp[fV,iH]))
theorem Y1(l:List Pd):gm Tryz.prog d 82 (.pv (rQ l)) k=k (.pv (iv l.length)):=eO (fun _=>ac3 l) (bq _)
theorem Zn{l:List Pd}{i:Nat}{x:Pd}(h:l[i]? = some x):fB Tryz.prog d 82 (.pv (rQ l)) (.pv (.lit (.int .i64 (i:Int)))) k=k (.cptr [sv x.cls,iv x.t.kind,sv x.t.name,iv x.t.n,bH x.t.kids]):=gW (fun _=>ady h) (nP (by simp[fV,iH]))
theorem Lb(l:List It):gm Tryz.prog d 37 (.pv (its l)) k=k (.pv (iv l.length)):=eO (fun _=>ac6 l) (bq _)
theorem sK{l:List It}{i:Nat}{x:It}(h:l[i]? = some x):fB Tryz.prog d 37 (.pv (its l)) (.pv (.lit (.int .i64 (i:Int)))) k=k (.cptr [sv x.cls,iv x.head.kind,sv x.head.name,iv x.head.n,bH x.head.kids,rQ x.ctx,bn x.binds,iv x.at_]):=gW (fun _=>adA h) (nP (by simp[fV,iH]))
end
attribute [simp] U3 YW Y0 Y3 Y5 Le Y4 Lc Y2 Ld Y1 Lb
end Go.Proofs.YtijcobeebaceoaaGreatDoor
namespace Go.Proofs.YtijcobeebaceoaaGreatDoor
open Go.RowKit
theorem nk{α β:Type}{P:Program}(x:Go.Sem α)(f:α→Go.Sem β):bL P (x >>= f)=(bL P x).bind fun a=>bL P (f a):=by
 induction x with
 |pure a=>rfl
 |program k ih=>exact ih P
 |mark m k ih=>exact ih
 |_=>rfl
theorem mg{P:Program}{t:TypeId}{d:TypeDesc}(h:P.underlying t=some d):bL P (underlying t)=some d:=by
 have e : bL P (underlying t) = bL P (match P.underlying t with | some d => pure d | none => stuck "no such type" : Go.Sem TypeDesc) := rfl;rw [e, h]; rfl
theorem RV{α:Type}{P:Program}(a:α):bL P (pure a:Go.Sem α)=some a:=rfl
def byt(s:ByteArray)(i:Nat):Int:=((s.data.toList.getD i 0).toNat:Int)
theorem zn(s:ByteArray)(i:Nat):0≤byt s i∧byt s i≤255:=by
 unfold byt;have:=(s.data.toList.getD i 0).toNat_lt;omega
abbrev cv(n:Int):PV:=.lit (.int .u8 n)
abbrev wv(n:Int):PV:=.lit (.int .u64 n)
@[simp] theorem ajw(k:IntKind)(n:Int):ED (.lit (.int k n))=.lit (.int k n):=rfl
section
variable{P:Program}{t:TypeId}{r:AV}{β:Type}{d:β}{k:AV→β}
theorem ac1(ht:P.underlying t=some .string)(s:ByteArray):mF P t (.pv (sv s)) r↔r=.pv (iv s.size):=by
 have hl:∀ty,gK P .len #[t] ty [.pv (sv s)]=some (.pv (iv s.size)):=by
  intro ty;have h1:bL P (Builtin.len_ #[t] ty #[.string s])=some (.int .i64 s.size):=by
   simp only[Builtin.len_,List.getElem?_toArray,List.getElem?_cons_zero,nk,mg ht,Option.bind_some];rfl
  have h2:Lf P #[t] (.pv (sv s))=none:=by
   unfold Lf;simp[rowsOf,Ou]
  unfold gK;simp only[h2,AV.val?,h1];simp[lI,o7]
 constructor
 ·intro h;have:=h 0;rw[hl] at this;exact(Option.some.inj this).symm
 ·intro h ty;rw[hl,h]
theorem YZ(ht:P.underlying t=some .string)(s:ByteArray):gm P d t (.pv (sv s)) k=k (.pv (iv s.size)):=eO (fun _=>ac1 ht s) (bq _)
theorem adr(ht:P.underlying t=some .string){s:ByteArray}{i:Nat}(hi:i<s.size):qK P t (.pv (sv s)) (.pv (iv i))=some (.pv (cv (byt s i))):=by
 have hb:(if(0:Int)≤(i:Int) then s[((i:Int)).toNat]? else none)=some (s[i]'hi):=by
  rw[if_pos (by omega)];simp[hi]
 have h1:bL P (Instr.index t (.string s) (.int .i64 i))=some (.int .u8 (byt s i)):=by
  simp only[Instr.index,asIntOf,nk,RV,Option.bind_some,mg ht,hb];have e:byt s i=((s[i]'hi).toNat:Int):=by
   unfold byt;have hl:i<s.data.toList.length:=by simpa using hi
   rw[List.getD_eq_getElem?_getD,List.getElem?_eq_getElem hl];rfl
  rw[e]
 unfold qK;simp only[AV.val?,h1];simp[lI,o7]
theorem Zj(ht:P.underlying t=some .string){s:ByteArray}{i:Nat}(hi:i<s.size):Lr P d t (.pv (sv s)) (.pv (iv i)) k=k (.pv (cv (byt s i))):=
 kP (lC (fun w=>by rw[adr ht hi];exact⟨fun h=>(Option.some.inj h).symm,fun h=>by rw[h]⟩) (bq _))
theorem abR(ht:P.underlying t=some .string){s:ByteArray}{l m:Nat}(hl:l≤m)(hm:m≤s.size):Ai P t (.pv (sv s)) (some (.pv (iv l))) (some (.pv (iv m))) (.pv (sv (s.extract l m))):=by
 intro ρ a b ha hb;cases a with
 |none=>cases ha
 |some x=>
  cases b with
  |none=>cases hb
  |some y=>
   have hx:ρ x=some (.pv (iv l)):=ha;have hy:ρ y=some (.pv (iv m)):=hb;have h1:bL P (Instr.sliceAt t (.string s) (some (.int .i64 l)) (some (.int .i64 m)) none)=some (.string (s.extract l m)):=by
    have e1:(0:Int)≤(m:Int)∧(m:Int)≤(s.size:Int):=by omega
    have e2:(0:Int)≤(l:Int)∧(l:Int)≤(m:Int):=by omega
    simp only[Instr.sliceAt,Instr.slice,Instr.sliceBounds,Instr.sliceBound,asIntOf,nk,RV,Option.bind_some,mg ht,if_pos e1,Option.isSome_none,Bool.false_eq_true,if_false,Int.toNat_natCast,if_pos e2]
   have h0:rowsOf (.pv (sv s))=none:=rfl;simp only[lM,h0,AV.val?,Fp,hx,hy,Option.map_some,h1];rfl
theorem V6(ht:P.underlying t=some .string){s:ByteArray}{l m:Nat}(hl:l≤m)(hm:m≤s.size):EO P d t (.pv (sv s)) (some (.pv (iv l))) (some (.pv (iv m))) k=k (.pv (sv (s.extract l m))):=Pf (Pe (abR ht hl hm)) (bq _)
theorem Vf{s t:TypeId}{ds:TypeDesc}{k1 k2:IntKind}(hs:P.underlying s=some ds)(ht:P.underlying t=some (.int k2))(n:Int):uY P s t (.pv (.lit (.int k1 n)))=some (.pv (.lit (.int k2 (k2.wrap n)))):=by
 have h1:bL P (convert s t (.int k1 n))=some (.int k2 (k2.wrap n)):=by
  simp only[convert,nk,mg hs,mg ht,Option.bind_some];cases ds<;>rfl
 simp only[uY,AV.val?,h1];rfl
theorem uD{s t:TypeId}{ds:TypeDesc}{k1 k2:IntKind}(hs:P.underlying s=some ds)(ht:P.underlying t=some (.int k2))(n:Int):rG P d s t (.pv (.lit (.int k1 n))) k=k (.pv (.lit (.int k2 (k2.wrap n)))):=
 kP (lC (fun w=>by unfold JH;rw[Vf hs ht];exact⟨fun h=>(Option.some.inj h).symm,fun h=>by rw[h]⟩) (bq _))
theorem OE(l:List Int):tF (l.map fun n=>[cv n])=some l:=by
 induction l with
 |nil=>rfl
 |cons a l ih=>simp only[List.map_cons,tF,ih,Option.map_some]
theorem LZ{s t e:TypeId}(hs:P.underlying s=some (.slice e))(he:P.underlying e=some (.int .u8))(ht:P.underlying t=some .string)(l:List Int) :
  uY P s t (.pv (.rows (l.map fun n=>[cv n])))=some (.pv (sv (J3 l))):=by
 simp only[uY,AV.val?,rowsOf,hs,ht,he,OE]
theorem LX{s t e:TypeId}(hs:P.underlying s=some (.slice e))(he:P.underlying e=some (.int .u8))(ht:P.underlying t=some .string)(l:List Int) :
  rG P d s t (.pv (.rows (l.map fun n=>[cv n]))) k=k (.pv (sv (J3 l))):=
 kP (lC (fun w=>by unfold JH;rw[LZ hs he ht];exact⟨fun h=>(Option.some.inj h).symm,fun h=>by rw[h]⟩) (bq _))
variable{a b:Int}
theorem Mf:jH P d .lss t (.pv (.lit (.int .u8 a))) (.pv (.lit (.int .u8 b))) k=k (.pv (.lit (.bool (decide (a<b))))):=dw (fun _=>dL.iff fun _ _=>rfl) (bq _)
theorem Mg:jH P d .leq t (.pv (.lit (.int .u8 a))) (.pv (.lit (.int .u8 b))) k=k (.pv (.lit (.bool (decide (a≤b))))):=dw (fun _=>dL.iff fun _ _=>rfl) (bq _)
theorem Mh:jH P d .gtr t (.pv (.lit (.int .u8 a))) (.pv (.lit (.int .u8 b))) k=k (.pv (.lit (.bool (decide (b<a))))):=dw (fun _=>dL.iff fun _ _=>rfl) (bq _)
theorem Mi:jH P d .geq t (.pv (.lit (.int .u8 a))) (.pv (.lit (.int .u8 b))) k=k (.pv (.lit (.bool (decide (b≤a))))):=dw (fun _=>dL.iff fun _ _=>rfl) (bq _)
theorem Mj:jH P d .eql t (.pv (.lit (.int .u8 a))) (.pv (.lit (.int .u8 b))) k=k (.pv (.lit (.bool (decide (a=b))))):=dw (fun _=>dL.iff fun _ _=>by
 have e:(a==b)=decide (a=b):=by by_cases h:a=b<;>simp[h]
 rw[←e];rfl) (bq _)
theorem Me:jH P d .neq t (.pv (.lit (.int .u8 a))) (.pv (.lit (.int .u8 b))) k=k (.pv (.lit (.bool (!decide (a=b))))):=dw (fun _=>dL.iff fun _ _=>by
 have e:(a==b)=decide (a=b):=by by_cases h:a=b<;>simp[h]
 rw[←e];rfl) (bq _)
theorem Jp:jH P d .gtr t (.pv (.lit (.int .u64 a))) (.pv (.lit (.int .u64 b))) k=k (.pv (.lit (.bool (decide (b<a))))):=dw (fun _=>dL.iff fun _ _=>rfl) (bq _)
theorem Jq:jH P d .geq t (.pv (.lit (.int .u64 a))) (.pv (.lit (.int .u64 b))) k=k (.pv (.lit (.bool (decide (b≤a))))):=dw (fun _=>dL.iff fun _ _=>rfl) (bq _)
theorem Jr:jH P d .eql t (.pv (.lit (.int .u64 a))) (.pv (.lit (.int .u64 b))) k=k (.pv (.lit (.bool (decide (a=b))))):=dw (fun _=>dL.iff fun _ _=>by
 have e:(a==b)=decide (a=b):=by by_cases h:a=b<;>simp[h]
 rw[←e];rfl) (bq _)
theorem Mc:jH P d .sub t (.pv (.lit (.int .u8 a))) (.pv (.lit (.int .u8 b))) k=k (.pv (.lit (.int .u8 (IntKind.u8.wrap (a-b))))):=dw (fun _=>dL.iff fun _ _=>rfl) (bq _)
theorem agm(hb:b≠0):jH P d .quo t (.pv (.lit (.int .u8 a))) (.pv (.lit (.int .u8 b))) k=k (.pv (.lit (.int .u8 (IntKind.u8.wrap (a.tdiv b))))):=dw (fun _=>dL.iff fun _ _=>by
 have h1:bL P (Op.intDiv .quo .u8 a b)=some (.int .u8 (IntKind.u8.wrap (a.tdiv b))):=by simp only[Op.intDiv,if_neg hb];rfl
 show (match bL P (Op.intDiv .quo .u8 a b) with|some r=>lI r|none=>none)=_;rw[h1];rfl) (bq _)
theorem Js:jH P d .add t (.pv (.lit (.int .u64 a))) (.pv (.lit (.int .u64 b))) k=k (.pv (.lit (.int .u64 (IntKind.u64.wrap (a+b))))):=dw (fun _=>dL.iff fun _ _=>rfl) (bq _)
theorem Jk:jH P d .sub t (.pv (.lit (.int .u64 a))) (.pv (.lit (.int .u64 b))) k=k (.pv (.lit (.int .u64 (IntKind.u64.wrap (a-b))))):=dw (fun _=>dL.iff fun _ _=>rfl) (bq _)
theorem Jm:jH P d .mul t (.pv (.lit (.int .u64 a))) (.pv (.lit (.int .u64 b))) k=k (.pv (.lit (.int .u64 (IntKind.u64.wrap (a*b))))):=dw (fun _=>dL.iff fun _ _=>rfl) (bq _)
theorem Jl(hb:b≠0):jH P d .rem t (.pv (.lit (.int .u64 a))) (.pv (.lit (.int .u64 b))) k=k (.pv (.lit (.int .u64 (a.tmod b)))):=dw (fun _=>dL.iff fun _ _=>by
 have h1:bL P (Op.intDiv .rem .u64 a b)=some (.int .u64 (a.tmod b)):=by simp only[Op.intDiv,if_neg hb];rfl
 show (match bL P (Op.intDiv .rem .u64 a b) with|some r=>lI r|none=>none)=_;rw[h1];rfl) (bq _)
theorem Jo:jH P d .mul t (.pv (.lit (.int .i64 a))) (.pv (.lit (.int .i64 b))) k=k (.pv (.lit (.int .i64 (IntKind.i64.wrap (a*b))))):=dw (fun _=>dL.iff fun _ _=>rfl) (bq _)
end
attribute [simp] Mf Mg Mh Mi Mj Me Mc Jp Jq Jr Js Jk Jm Jo
theorem yF:iY Tryz.prog 66 4 40:=iY.of (by kernel_rfl)
section
variable{β:Type}{d:β}{k:AV→β}
@[simp] theorem YX(l:List Tk):gm Tryz.prog d 66 (.pv (aW l)) k=k (.pv (iv l.length)):=eO (fun _=>by rw[aW,iL yF,List.length_map]) (bq _)
theorem dV{l:List Tk}{i:Nat}{x:Tk}(h:l[i]? = some x):fB Tryz.prog d 66 (.pv (aW l)) (.pv (.lit (.int .i64 (i:Int)))) k=k (.cptr [iv x.kind,sv x.text,iv x.n,iv x.at_]):=
 gW (fun _=>by rw[aW];exact jG yF (by rw[List.getElem?_map,h];rfl) rfl) (nP (by simp[fV,iH]))
end
abbrev eB:ByteArray:=⟨#[]⟩
def zT:Tk:=⟨0,eB,0,0⟩
structure St where
 a:Nat
 lv:Int
 e:Int
 w:Int
def St.up:St→St
 |⟨a,lv,e,w⟩=>⟨a+1,lv,e,w⟩
theorem nJ(s:St):s.up.a=s.a+1:=by cases s;rfl
theorem bD(s:St):s.up.lv=s.lv:=by cases s;rfl
theorem cZ(s:St):s.up.e=s.e:=by cases s;rfl
theorem dG(s:St):s.up.w=s.w:=by cases s;rfl
section
variable(L:List Tk)
def aX(s:St):Tk:=if s.e=0 then(L[s.a]?).getD zT else zT
def mu(s:St):Nat:=if s.e=0 then L.length-s.a+1 else 0
def gZ(e w:Int)(s:St):St:=if s.e=0 then⟨s.a,s.lv,e,w⟩ else s
def iM(x:ByteArray)(s:St):Bool:=decide (6≤(aX L s).kind)&&decide ((aX L s).text=x)
def yY(x:ByteArray)(s:St):St:=if iM L x s then s.up else s
def okB(k:Int)(x:ByteArray)(s:St):Bool:=decide (s.e=0)&&(if k<6 then decide ((aX L s).kind=k) else iM L x s)
def aT(k:Int)(x:ByteArray)(s:St):Tk:=if okB L k x s then aX L s else zT
def au(k:Int)(x:ByteArray)(s:St):St:=if okB L k x s then s.up else gZ 110 (aX L s).at_ s
def EI(s:St):St:=⟨s.a,IntKind.i64.wrap (s.lv+1),s.e,s.w⟩
def gQ(s:St):St:=if 300<(EI s).lv then gZ 111 (aX L (EI s)).at_ (EI s) else EI s
end
section
variable{L:List Tk}
theorem dI{s:St}(h:(aX L s).kind≠0):s.e=0∧s.a<L.length:=by
 unfold aX at h;split at h
 ·rename_i he
  refine⟨he,?_⟩;by_cases hl:s.a<L.length
  ·exact hl
  ·rw[List.getElem?_eq_none (by omega)] at h
   exact absurd rfl h
 ·exact absurd rfl h
theorem bE{s:St}(he:s.e=0):0<mu L s:=by unfold mu;rw[if_pos he];omega
theorem uT{s:St}(he:s.e=0)(hl:s.a<L.length):mu L s.up≤mu L s-1:=by
 unfold mu;simp only[cZ,nJ,he,if_true];omega
theorem wC{s:St}{n:Nat}(hl:s.a<n)(hn:n≤1000000):IntKind.i64.wrap ((s.a:Int)+1)=(s.up.a:Int):=by
 rw[aJ (by omega),nJ];rfl
theorem I6{e w:Int}(he:e≠0)(s:St):mu L (gZ e w s)=0:=by
 unfold mu gZ;by_cases h:s.e=0<;>simp[h,he]
theorem I7(e w:Int)(s:St):(gZ e w s).a=s.a:=by unfold gZ;split<;>rfl
theorem iy{x:ByteArray}{s:St}(h:iM L x s=true):s.e=0∧s.a<L.length:=by
 unfold iM at h;simp only[Bool.and_eq_true,decide_eq_true_eq] at h;exact dI (by omega)
theorem YD{k:Int}{x:ByteArray}{s:St}(hk:1≤k)(h:okB L k x s=true):s.e=0∧s.a<L.length:=by
 unfold okB at h;simp only[Bool.and_eq_true,decide_eq_true_eq] at h;refine⟨h.1,?_⟩;have h2:=h.2;split at h2
 ·simp only[decide_eq_true_eq] at h2
  exact(dI (by omega)).2
 ·exact(iy h2).2
theorem aQ{k:Int}{x:ByteArray}(hk:1≤k)(s:St):mu L (au L k x s)≤mu L s-1:=by
 unfold au;split
 ·rename_i h
  obtain⟨h1,h2⟩:=YD hk h;exact uT h1 h2
 ·rw[I6 (by decide)];omega
theorem bC{k:Int}{x:ByteArray}(hk:1≤k){s:St}(hs:s.a≤L.length):(au L k x s).a≤L.length:=by
 unfold au;split
 ·rename_i h
  obtain⟨h1,h2⟩:=YD hk h;rw[nJ];exact h2
 ·rw[I7];exact hs
@[simp] theorem aeK(e w:Int)(s:St):(gZ e w s).a=s.a:=I7 e w s
@[simp] theorem TF(e w:Int)(s:St):(gZ e w s).lv=s.lv:=by unfold gZ;split<;>rfl
@[simp] theorem aU(k:Int)(x:ByteArray)(s:St):(au L k x s).lv=s.lv:=by
 unfold au;split
 ·exact bD s
 ·exact TF _ _ s
@[simp] theorem ap0(x:ByteArray)(s:St):(yY L x s).lv=s.lv:=by unfold yY;split<;>first|exact bD s|rfl
@[simp] theorem asE(x:ByteArray)(s:St):(yY L x s).e=s.e:=by unfold yY;split<;>first|exact cZ s|rfl
@[simp] theorem asD(x:ByteArray)(s:St):(yY L x s).w=s.w:=by unfold yY;split<;>first|exact dG s|rfl
theorem Je(s:St):mu L (gQ L s)≤mu L s:=by
 unfold gQ;split
 ·rw[I6 (by decide)];omega
 ·exact Nat.le_refl _
theorem Eg(s:St):(gQ L s).a=s.a:=by
 unfold gQ;split
 ·rw[I7];rfl
 ·rfl
@[simp] theorem anX(s:St):(gQ L s).a=s.a:=Eg s
theorem bY{x:ByteArray}{s:St}(h:iM L x s=true):mu L s.up≤mu L s-1∧s.up.a≤L.length:=⟨uT (iy h).1 (iy h).2,by rw[nJ];exact(iy h).2⟩
end
section
variable{L:List Tk}(hL:L.length≤1000000)
abbrev eU(L:List Tk)(s:St)(l:List PV):List PV:=aW L::iv s.a::iv s.lv::iv s.e::iv s.w::l
theorem kU(s:St):ev (ahQ (aW L) (iv s.a) (iv s.lv) (iv s.e) (iv s.w))=some (0,eU L s (aX L s).cells):=
 ax.of (by
  rw[aqJ];unfold aX Tk.cells;by_cases he:s.e=0
  ·by_cases hl:s.a<L.length
   ·have h1:=List.getElem?_eq_getElem hl
    have h2:¬L.length≤s.a:=by omega
    simp[he,dV h1,h2,h1,hl]
   ·have h1:=List.getElem?_eq_none (l:=L) (i:=s.a) (by omega)
    have h2:L.length≤s.a:=by omega
    simp[he,h1,h2,zT]
  ·simp[he,zT])
theorem I5(e w:Int)(s:St):ev (ahH (iv e) (iv w) (aW L) (iv s.a) (iv s.lv) (iv s.e) (iv s.w))=some (0,eU L (gZ e w s) []):=
 ax.of (by
  rw[aqw];unfold gZ;by_cases he:s.e=0<;>simp[he])
theorem Lm(x:ByteArray)(s:St):ev (ahE (sv x) (aW L) (iv s.a) (iv s.lv) (iv s.e) (iv s.w))=some (0,eU L s [bv (iM L x s)]):=
 ax.of (by
  rw[aqm];unfold iM;simp[kU,Tk.cells];by_cases h1:6≤(aX L s).kind
  ·by_cases h2:(aX L s).text=x<;>simp[h1,h2]
  ·simp[h1])
include hL in
theorem aii(x:ByteArray)(s:St):ev (ahP (sv x) (aW L) (iv s.a) (iv s.lv) (iv s.e) (iv s.w))=some (0,eU L (yY L x s) [bv (iM L x s)]):=
 ax.of (by
  rw[aqI];unfold yY;cases h:iM L x s with
  |true=>
   have h1:=wC (iy h).2 hL;simp[Lm,h,h1,bD,cZ,dG]
  |false=>simp[Lm,h])
include hL in
theorem abL{k:Int}(hk:1≤k)(x:ByteArray)(s:St):ev (ahR (iv k) (sv x) (aW L) (iv s.a) (iv s.lv) (iv s.e) (iv s.w))=some (0,eU L (au L k x s) (aT L k x s).cells):=
 ax.of (by
  rw[aqK];unfold au aT;by_cases he:s.e=0
  ·have hf:gZ 110 (aX L s).at_ s=⟨s.a,s.lv,110,(aX L s).at_⟩:=by unfold gZ;rw[if_pos he]
   cases ho:okB L k x s with
   |true=>
    have h1:=wC (YD hk ho).2 hL;unfold okB iM at ho;by_cases h6:k<6
    ·simp[eq_true he,h6] at ho
     have h7:¬6≤k:=by omega
     simp[kU,Tk.cells,eq_true he,h6,ho,h7,h1,bD,cZ,dG]
    ·simp[eq_true he,h6] at ho
     have h7:6≤k:=by omega
     have h8:¬(aX L s).kind<6:=by omega
     simp[kU,Tk.cells,eq_true he,h6,ho,h7,h8,h1,bD,cZ,dG]
   |false=>
    have e0:=I5 (L:=L) 110 (aX L s).at_ s;rw[hf] at e0;rw[hf];unfold okB iM at ho;by_cases h6:k<6
    ·simp[eq_true he,h6] at ho
     have h7:¬6≤k:=by omega
     simp[kU,Tk.cells,eq_true he,h6,ho,h7,e0,zT]
    ·simp[eq_true he,h6] at ho
     have h7:6≤k:=by omega
     by_cases h8:(aX L s).kind<6
     ·simp[kU,Tk.cells,eq_true he,h6,h7,h8,e0,zT]
     ·simp[kU,Tk.cells,eq_true he,h6,ho (by omega),h7,h8,e0,zT]
  ·have ho:okB L k x s=false:=by unfold okB;simp[he]
   have hz:aX L s=zT:=by unfold aX;rw[if_neg he]
   have hf:gZ 110 (aX L s).at_ s=s:=by unfold gZ;rw[if_neg he]
   simp[kU,Tk.cells,he,ho,hz];rw[←hz,hf]
   first|rfl|exact⟨rfl,rfl⟩|exact⟨rfl,rfl,rfl⟩|exact⟨rfl,rfl,rfl,rfl⟩)
theorem aeY(s:St):ev (ahG (aW L) (iv s.a) (iv s.lv) (iv s.e) (iv s.w))=some (0,eU L (gQ L s) []):=
 ax.of (by
  rw[aqv];unfold gQ;have e1:=kU (L:=L) (EI s);have e2:=I5 (L:=L) 111 (aX L (EI s)).at_ (EI s);by_cases h:300<(EI s).lv
  ·have h':=h
   unfold EI at h' e1 e2;simp only at h' e1 e2;simp only[if_pos h];simp[h',e1,e2,Tk.cells];exact⟨rfl,rfl,rfl,rfl⟩
  ·have h':=h
   unfold EI at h';simp only at h';simp only[if_neg h];simp[h',EI])
theorem dO{β:Type}{P:β→Prop}{b:Bool}{x y:β}(h1:b=true→P x)(h2:b=false→P y):P (bK b x y):=by
 cases b
 ·exact h2 rfl
 ·exact h1 rfl
@[simp] theorem St.eta(s:St):St.mk s.a s.lv s.e s.w=s:=rfl
@[simp] theorem St.etaTake(L:List Tk)(k:Int)(x:ByteArray)(s:St):St.mk (au L k x s).a s.lv (au L k x s).e (au L k x s).w=au L k x s:=by
 have h:=aU (L:=L) k x s;generalize au L k x s=t at *;obtain⟨a,lv,e,w⟩:=t;simp only at h;rw[h]
@[simp] theorem St.etaDeep(L:List Tk)(s:St):St.mk s.a (gQ L s).lv (gQ L s).e (gQ L s).w=gQ L s:=by
 have h:=Eg (L:=L) s;generalize gQ L s=t at *;obtain⟨a,lv,e,w⟩:=t;simp only at h;rw[h]
@[simp] theorem St.etaUp(s:St):St.mk s.up.a s.lv s.e s.w=s.up:=by cases s;rfl
theorem fu(a:Nat)(lv e w:Int):ev (ahQ (aW L) (iv a) (iv lv) (iv e) (iv w))=some (0,eU L ⟨a,lv,e,w⟩ (aX L ⟨a,lv,e,w⟩).cells):=kU ⟨a,lv,e,w⟩
theorem ap4(x:ByteArray)(a:Nat)(lv e w:Int):ev (ahE (sv x) (aW L) (iv a) (iv lv) (iv e) (iv w))=some (0,eU L ⟨a,lv,e,w⟩ [bv (iM L x ⟨a,lv,e,w⟩)]):=Lm x ⟨a,lv,e,w⟩
theorem aas(e' w':Int)(a:Nat)(lv e w:Int):ev (ahH (iv e') (iv w') (aW L) (iv a) (iv lv) (iv e) (iv w))=some (0,eU L (gZ e' w' ⟨a,lv,e,w⟩) []):=I5 e' w' ⟨a,lv,e,w⟩
theorem Ox(a:Nat)(lv e w:Int):ev (ahG (aW L) (iv a) (iv lv) (iv e) (iv w))=some (0,eU L (gQ L ⟨a,lv,e,w⟩) []):=aeY ⟨a,lv,e,w⟩
include hL in
theorem bM(x:ByteArray)(a:Nat)(lv e w:Int):ev (ahP (sv x) (aW L) (iv a) (iv lv) (iv e) (iv w))=some (0,eU L (yY L x ⟨a,lv,e,w⟩) [bv (iM L x ⟨a,lv,e,w⟩)]):=aii hL x ⟨a,lv,e,w⟩
include hL in
theorem aR{k:Int}(hk:1≤k)(x:ByteArray)(a:Nat)(lv e w:Int):ev (ahR (iv k) (sv x) (aW L) (iv a) (iv lv) (iv e) (iv w))=some (0,eU L (au L k x ⟨a,lv,e,w⟩) (aT L k x ⟨a,lv,e,w⟩).cells):=abL hL hk x ⟨a,lv,e,w⟩
end
@[simp] theorem JR:dD []=[]:=by rw[dD]
@[simp] theorem tL(p:PV)(l:List PV):dD (p::l)=kK p::dD l:=by rw[dD]
@[simp] theorem O3(k:IntKind)(n:Int):kK (.lit (.int k n))=.lit (.int k n):=by rw[kK];rfl
@[simp] theorem OZ(s:ByteArray):kK (.lit (.string s))=.lit (.string s):=by rw[kK];rfl
@[simp] theorem O1:kK (.lit (.slice none 0 0))=.rows []:=by rw[kK];rfl
theorem bG(es:List (List PV)):kK (.rows es)=.rows (fo es):=by rw[kK]
theorem j3:fo []=[]:=by rw[fo]
theorem iB(c:List PV)(l:List (List PV)):fo (c::l)=dD c::fo l:=by rw[fo]
mutual
theorem Ty.wd:∀t:Ty,dD t.cells=t.cells
 |.mk k s n ks=>by
  have h:=Ty.wdL ks;rw[Ty.cells];simp[bG,h]
theorem Ty.wdL:∀l:List Ty,fo (Ty.rows l)=Ty.rows l
 |[]=>by rw[Ty.rows,fo]
 |v::l=>by
  have h1:=Ty.wd v;have h2:=Ty.wdL l;rw[Ty.rows,fo,h1,h2]
end
mutual
theorem Pt.wd:∀t:Pt,dD t.cells=t.cells
 |.mk k s n ks a=>by
  have h:=Pt.wdL ks;rw[Pt.cells];simp[bG,h]
theorem Pt.wdL:∀l:List Pt,fo (Pt.rows l)=Pt.rows l
 |[]=>by rw[Pt.rows,fo]
 |v::l=>by
  have h1:=Pt.wd v;have h2:=Pt.wdL l;rw[Pt.rows,fo,h1,h2]
end
@[simp] theorem aof(l:List Ty):kK (bH l)=bH l:=by rw[bH,←Ty.rows_eq,bG,Ty.wdL]
@[simp] theorem aoh(l:List Pt):kK (pts l)=pts l:=by rw[pts,←Pt.rows_eq,bG,Pt.wdL]
theorem VI(a b:List PV):dD (a++b)=dD a++dD b:=by rw[lY,lY,lY,List.map_append]
theorem Ur(a b:List (List PV)):fo (a++b)=fo a++fo b:=by rw[kN,kN,kN,List.map_append]
mutual
theorem Ex.wd:∀t:Ex,dD t.cells=t.cells
 |.mk k s n t ks xs bs a=>by
  have h1:=Ex.wdL ks;have h2:=Al.wdL xs;have h3:=Bd.wdL bs;rw[Ex.cells];simp[bG,h1,h2,h3]
theorem Al.wd:∀t:Al,dD t.cells=t.cells
 |.mk p e=>by
  have h:=Ex.wd e;rw[Al.cells];simp[h]
theorem Bd.wd:∀t:Bd,dD t.cells=t.cells
 |.mk s e a=>by
  have h:=Ex.wd e;rw[Bd.cells];simp[VI,h]
theorem Ex.wdL:∀l:List Ex,fo (Ex.rows l)=Ex.rows l
 |[]=>by rw[Ex.rows,fo]
 |v::l=>by
  have h1:=Ex.wd v;have h2:=Ex.wdL l;rw[Ex.rows,fo,h1,h2]
theorem Al.wdL:∀l:List Al,fo (Al.rows l)=Al.rows l
 |[]=>by rw[Al.rows,fo]
 |v::l=>by
  have h1:=Al.wd v;have h2:=Al.wdL l;rw[Al.rows,fo,h1,h2]
theorem Bd.wdL:∀l:List Bd,fo (Bd.rows l)=Bd.rows l
 |[]=>by rw[Bd.rows,fo]
 |v::l=>by
  have h1:=Bd.wd v;have h2:=Bd.wdL l;rw[Bd.rows,fo,h1,h2]
end
@[simp] theorem aol(l:List Ex):kK (exs l)=exs l:=by rw[exs,←Ex.rows_eq,bG,Ex.wdL]
@[simp] theorem aoq(l:List Al):kK (dY l)=dY l:=by rw[dY,←Al.rows_eq,bG,Al.wdL]
@[simp] theorem aop(l:List Bd):kK (bn l)=bn l:=by rw[bn,←Bd.rows_eq,bG,Bd.wdL]
theorem rR{α:Type}{f:α→List PV}(l:List α)(h:∀x,dD (f x)=f x):kK (.rows (l.map f))=.rows (l.map f):=by
 rw[bG,kN,List.map_map];congr 2;funext x;exact h x
@[simp] theorem amY(l:List ByteArray):kK (strs l)=strs l:=rR l fun x=>by simp
@[simp] theorem aog(l:List Tk):kK (aW l)=aW l:=rR l fun x=>by simp[Tk.cells]
@[simp] theorem aon(l:List Cn):kK (qb l)=qb l:=rR l fun x=>by simp[Cn.cells]
@[simp] theorem aoj(l:List Md):kK (mJ l)=mJ l:=rR l fun x=>by simp[Md.cells]
@[simp] theorem aoi(l:List Pd):kK (rQ l)=rQ l:=rR l fun x=>by simp[Pd.cells]
@[simp] theorem aom(l:List Dt):kK (jm l)=jm l:=rR l fun x=>by simp[Dt.cells]
@[simp] theorem aoo(l:List Cl):kK (cls l)=cls l:=rR l fun x=>by simp[Cl.cells]
@[simp] theorem aok(l:List It):kK (its l)=its l:=rR l fun x=>by simp[It.cells]
structure Raw(sz:Nat)(es cs:List (List PV)):Prop where
 w:fo es=cs
 n:∀c∈es,c.length=sz
 ns:∀c∈es,∀p∈c,NS p
theorem Raw.nil(sz:Nat):Raw sz [] []:=⟨j3,(fun c hc=>by cases hc),(fun c hc=>by cases hc)⟩
theorem Raw.app{sz:Nat}{es cs:List (List PV)}(h:Raw sz es cs){c c':List PV}(h1:dD c=c')(h2:c.length=sz)(h3:kH c):Raw sz (es++[c]) (cs++[c']):=
 ⟨by rw[Ur,h.w,iB,j3,h1],fun d hd=>by
  rcases List.mem_append.1 hd with hd|hd
  ·exact h.n d hd
  ·rw[List.mem_singleton.1 hd];exact h2,fun d hd p hp=>by
  rcases List.mem_append.1 hd with hd|hd
  ·exact h.ns d hd p hp
  ·rw[List.mem_singleton.1 hd] at hp;exact h3 p hp⟩
theorem Raw.one{sz:Nat}{c c':List PV}(h1:dD c=c')(h2:c.length=sz)(h3:kH c):Raw sz [c] [c']:=(Raw.nil sz).app h1 h2 h3
theorem Raw.len{sz:Nat}{es cs:List (List PV)}(h:Raw sz es cs):es.length=cs.length:=by rw[←h.w,kN,List.length_map]
theorem Raw.wd{sz:Nat}{es cs:List (List PV)}(h:Raw sz es cs):kK (.rows es)=.rows cs:=by rw[bG,h.w]
theorem Raw.of{α:Type}{f:α→List PV}{sz:Nat}(l:List α)(h1:∀x,dD (f x)=f x)(h2:∀x,(f x).length=sz)(h3:∀x,kH (f x)):Raw sz (l.map f) (l.map f):=
 ⟨by rw[kN,List.map_map];congr 1;funext x;exact h1 x,fun c hc=>by obtain⟨x,_,rfl⟩:=List.mem_map.1 hc;exact h2 x,fun c hc p hp=>by obtain⟨x,_,rfl⟩:=List.mem_map.1 hc;exact h3 x p hp⟩
section
variable{P:Program}{d:aK}{k:PV→aK}
theorem aN{t:TypeId}{sz b:Nat}(ht:iY P t sz b){es cs:List (List PV)}(h:Raw sz es cs){c:List PV}(hc:c.length=sz)(hn:kH c)(hl:es.length≤100000000)(hb:b≤1000) :
  lu P d t (.pv (.rows es)) (.pv (.rows [c])) k=k (.rows (es++[c])):=
 Bz (fun w=>Jz ht (zP es) rfl (by simp) (fun c' h'=>by rw[List.mem_singleton.1 h'];exact hc) (by simp;omega)
  (Nat.le_trans (Nat.mul_le_mul (by simp;omega:es.length+[c].length≤100000001) hb) (by decide)))
  (.rows _ fun c' h' p hp=>by
   rcases List.mem_append.1 h' with h'|h'
   ·exact h.ns c' h' p hp
   ·rw[List.mem_singleton.1 h'] at hp;exact hn p hp)
end
inductive Rz(α:Type) where
 |out
 |err (e w:Int)
 |ok (v:α) (a:Nat)
def Rz.bind{α β:Type}(r:Rz α)(k:α→Nat→Rz β):Rz β:=match r with
 |.out=>.out
 |.err e w=>.err e w
 |.ok v a=>k v a
@[simp] theorem Rz.bind_out{α β:Type}(k:α→Nat→Rz β):(Rz.out:Rz α).bind k=.out:=rfl
@[simp] theorem Rz.bind_err{α β:Type}(e w:Int)(k:α→Nat→Rz β):(Rz.err e w:Rz α).bind k=.err e w:=rfl
@[simp] theorem Rz.bind_ok{α β:Type}(v:α)(a:Nat)(k:α→Nat→Rz β):(Rz.ok v a).bind k=k v a:=rfl
section
variable(L:List Tk)
def ai(a:Nat):Tk:=(L[a]?).getD zT
def lF(x:ByteArray)(a:Nat):Bool:=decide (6≤(ai L a).kind)&&decide ((ai L a).text=x)
def stT(a:Nat):Bool:=decide ((ai L a).kind=1)||(decide ((ai L a).kind=2)||lF L ⟨#[40]⟩ a)
abbrev BV:ByteArray:=⟨#[45,62]⟩
abbrev Ki:ByteArray:=⟨#[40]⟩
abbrev BU:ByteArray:=⟨#[41]⟩
abbrev sUn:ByteArray:=⟨#[85,110,105,116]⟩
def afp(x:ByteArray)(a:Nat):Rz Unit:=if lF L x a then .ok () (a+1) else .err 110 (ai L a).at_
mutual
def iQ:Nat→Int→Nat→Rz Ty
 |0,_,_=>.out
 |n+1,d,a=>if 300<d+1 then .err 111 (ai L a).at_ else
  (if(ai L a).kind=2 then(xZ n (d+1) (a+1) []).bind fun l b=>.ok (.mk 3 (ai L a).text 0 l) b else fM n (d+1) a).bind fun x b=>
   if lF L BV b then(iQ n (d+1) (b+1)).bind fun y c=>.ok (.mk 3 BV 0 [x,y]) c else .ok x b
def fM:Nat→Int→Nat→Rz Ty
 |0,_,_=>.out
 |n+1,d,a=>if(ai L a).kind=2 then .ok (.mk 3 (ai L a).text 0 []) (a+1)
  else if(ai L a).kind=1 then .ok (.mk 1 (ai L a).text 0 []) (a+1)
  else if lF L Ki a then
   if lF L BU (a+1) then .ok (.mk 3 sUn 0 []) (a+2)
   else(iQ n d (a+1)).bind fun x b=>(afp L BU b).bind fun _ c=>.ok x c
  else .err 110 (ai L a).at_
def xZ:Nat→Int→Nat→List Ty→Rz (List Ty)
 |0,_,_,_=>.out
 |n+1,d,a,l=>if stT L a then(fM n d a).bind fun x b=>xZ n d b (l++[x]) else .ok l a
end
end
structure F3(L:List Tk):Prop where
 len:L.length≤1000000
 pos:0<L.length
 fin:∀a,(ai L a).kind≠0→a+1<L.length
 top:∀a,(ai L a).kind≤7
 k6:∀a,(ai L a).kind=6→(ai L a).text≠Ki∧(ai L a).text≠⟨#[95]⟩
 k7:∀a,(ai L a).kind=7→(ai L a).text≠⟨#[99,97,115,101]⟩
abbrev GM(α:Type):=Int→Nat→Rz α
def o8{α:Type}:GM α:=fun _ _=>.out
def aS{α:Type}(v:α):GM α:=fun _ a=>.ok v a
def ak{α β:Type}(p:GM α)(k:α→GM β):GM β:=fun d a=>(p d a).bind fun v b=>k v d b
def Av{α:Type}(p:GM α):GM α:=fun d a=>p d (a+1)
def jl(x:ByteArray):Nat:=
 if x=⟨#[58,61]⟩ then 1 else if x=⟨#[124,124]⟩ then 2 else if x=⟨#[38,38]⟩ then 3
 else if x=⟨#[61,61]⟩∨x=⟨#[47,61]⟩∨x=⟨#[60]⟩∨x=⟨#[60,61]⟩∨x=⟨#[62]⟩∨x=⟨#[62,61]⟩ then 4
 else if x=⟨#[58,58]⟩∨x=⟨#[94]⟩ then 5 else if x=⟨#[43]⟩∨x=⟨#[45]⟩ then 6
 else if x=⟨#[42]⟩∨x=⟨#[47]⟩∨x=⟨#[37]⟩ then 7 else 8
def bO(k:Nat):Nat:=if k=4 then 0 else if k<6 then 2 else 1
def jw(V:Nat→Nat)(to:Nat):Nat→Nat→Nat→Nat
 |0,_,at_=>at_
 |n+1,i,at_=>if i<to then jw V to n (i+1) (if V i<V at_∨V i=V at_∧bO (V at_)=1 then i else at_) else at_
def ML:Ty:=.mk 0 eB 0 []
def iK(k:Int)(s:ByteArray)(n:Int)(ks:List Ex)(a:Int):Ex:=.mk k s n ML ks [] [] a
def opE(t:Tk)(x y:Ex):Ex:=
 if t.text=⟨#[38,38]⟩ then iK 10 eB 0 [x,y] t.at_ else if t.text=⟨#[124,124]⟩ then iK 11 eB 0 [x,y] t.at_
 else iK 5 eB 0 [iK 5 eB 0 [iK 3 t.text 0 [] t.at_,x] t.at_,y] t.at_
def opAt(ops:List Tk)(i:Nat):Tk:=(ops[i]?).getD zT
def uK(l:List Ex)(i:Nat):Ex:=(l[i]?).getD (iK 0 eB 0 [] 0)
def Au(ops:List Tk)(i:Nat):Nat:=jl (opAt ops i).text
def fJ(l:List Ex)(ops:List Tk):Nat→Nat→Nat→Ex
 |0,f,_=>uK l f
 |n+1,f,to=>if f=to then uK l f else
  let at_:=jw (Au ops) to to (f+1) f
  opE (opAt ops at_) (fJ l ops n f at_) (fJ l ops n (at_+1) to)
def vW(V:Nat→Nat):Nat→Bool
 |0=>false
 |i+1=>if 4<V i then vW V i else decide (V i=4)
def iE(V:Nat→Nat)(len:Nat):Nat→Nat→Option Nat
 |0,_=>none
 |n+1,k=>if k<len then(if V k=4∧vW V k=true then some k else iE V len n (k+1)) else none
section
variable(L:List Tk)
def UR(k:Int)(x:ByteArray)(a:Nat):Bool:=if k<6 then decide ((ai L a).kind=k) else lF L x a
def aV(k:Int)(x:ByteArray):GM Tk:=fun _ a=>if UR L k x a then .ok (ai L a) (a+1) else .err 110 (ai L a).at_
def dP{α:Type}(x:ByteArray)(A B:GM α):GM α:=fun d a=>if lF L x a then A d (a+1) else B d a
def kg{α:Type}(k:Int)(A B:GM α):GM α:=fun d a=>if(ai L a).kind=k then A d a else B d a
def mR{α:Type}(k:Tk→GM α):GM α:=fun d a=>k (ai L a) d a
def rE{α:Type}(p:GM α):GM α:=fun d a=>if 300<d+1 then .err 111 (ai L a).at_ else p (d+1) a
abbrev sUs:ByteArray:=⟨#[95]⟩
abbrev Kj:ByteArray:=⟨#[99,97,115,101]⟩
def Gf(w:Int)(a:Nat):Bool:=decide ((ai L a).kind=1)||(decide ((ai L a).kind=2)||(lF L Ki a||(decide (1≤w)&&decide ((ai L a).kind=3)||(decide (w=1)&&lF L sUs a||decide (w=2)&&(decide ((ai L a).kind=4)||lF L Kj a)))))
def Vt{α:Type}(w:Int)(A B:GM α):GM α:=fun d a=>if Gf L w a then A d a else B d a
mutual
def jQ:Nat→GM Pt
 |0=>o8
 |m+1=>mR L fun t=>if t.kind=2 then Av (aS (.mk 3 t.text 0 [] t.at_)) else if t.kind=1 then Av (aS (.mk 2 t.text 0 [] t.at_))
   else if t.kind=3 then Av (aS (.mk 4 eB t.n [] t.at_)) else dP L sUs (aS (.mk 1 eB 0 [] t.at_))
    (ak (aV L 7 Ki) fun _=>dP L BU (aS (.mk 3 sUn 0 [] t.at_)) (ak (nZ m) fun x=>ak (aV L 7 BU) fun _=>aS x))
def nZ:Nat→GM Pt
 |0=>o8
 |m+1=>rE L (mR L fun t=>ak (jQ m) fun x=>if t.kind=2 then ak (jr m []) fun l=>aS (.mk x.kind x.name x.n l x.at_) else aS x)
def jr:Nat→List Pt→GM (List Pt)
 |0,_=>o8
 |m+1,l=>Vt L 1 (ak (jQ m) fun x=>jr m (l++[x])) (aS l)
end
abbrev sEq:ByteArray:=⟨#[61]⟩
abbrev sBs:ByteArray:=⟨#[92]⟩
abbrev acg:ByteArray:=⟨#[108,101,116]⟩
abbrev sIf:ByteArray:=⟨#[105,102]⟩
abbrev aft:ByteArray:=⟨#[116,104,101,110]⟩
abbrev afu:ByteArray:=⟨#[101,108,115,101]⟩
abbrev WJ:ByteArray:=⟨#[114,101,99]⟩
abbrev aoK:ByteArray:=⟨#[97,110,100]⟩
abbrev sIn:ByteArray:=⟨#[105,110]⟩
abbrev sOf:ByteArray:=⟨#[111,102]⟩
abbrev aj0:ByteArray:=⟨#[124]⟩
abbrev ach:ByteArray:=⟨#[101,110,100]⟩
abbrev aci:ByteArray:=⟨#[58]⟩
abbrev ajZ:ByteArray:=⟨#[44]⟩
abbrev Na:ByteArray:=⟨#[59]⟩
abbrev ahb:ByteArray:=⟨#[100,101,102]⟩
abbrev wV:ByteArray:=⟨#[102,114,111,109]⟩
abbrev mH:ByteArray:=⟨#[119,104,101,114,101]⟩
abbrev WK:ByteArray:=⟨#[100,101,114,105,118,105,110,103]⟩
abbrev ajY:ByteArray:=⟨#[100,97,116,97]⟩
abbrev ahc:ByteArray:=⟨#[99,108,97,115,115]⟩
abbrev ajX:ByteArray:=⟨#[105,110,115,116,97,110,99,101]⟩
def zY:GM Tk:=dP L Ki (ak (aV L 5 eB) fun t=>ak (aV L 7 BU) fun _=>aS t) (aV L 1 eB)
def uO(l:List (ByteArray×Int))(e:Ex):Ex:=l.foldr (fun p e=>iK 6 p.1 0 [e] p.2) e
def qQ(l:List Ex)(ops:List Tk):GM Ex:=match iE (Au ops) ops.length ops.length 0 with
 |some k=>fun _ _=>.err 112 (opAt ops k).at_
 |none=>aS (fJ l ops ops.length 0 ops.length)
mutual
def fG:Nat→GM Ex
 |0=>o8
 |m+1=>rE L (ak (fE m) fun x=>ak (o9 m [x] []) fun r=>qQ r.1 r.2)
def o9:Nat→List Ex→List Tk→GM (List Ex×List Tk)
 |0,_,_=>o8
 |m+1,l,o=>kg L 5 (ak (aV L 5 eB) fun t=>ak (fE m) fun x=>o9 m (l++[x]) (o++[t])) (aS (l,o))
def fE:Nat→GM Ex
 |0=>o8
 |m+1=>mR L fun t=>dP L sBs (gV m t.at_) (dP L acg (dP L WJ (qI m 1 t.at_) (qI m 0 t.at_))
   (dP L sIf (ak (fG m) fun a=>ak (aV L 6 aft) fun _=>ak (fG m) fun b=>ak (aV L 6 afu) fun _=>ak (fG m) fun c=>aS (iK 9 eB 0 [a,b,c] t.at_))
    (ak (iW m) fun x=>jy m t.at_ x)))
def jy:Nat→Int→Ex→GM Ex
 |0,_,_=>o8
 |m+1,w,x=>Vt L 2 (ak (iW m) fun y=>jy m w (iK 5 eB 0 [x,y] w)) (aS x)
def gV:Nat→Int→GM Ex
 |0,_=>o8
 |m+1,w=>ak (aV L 1 eB) fun t=>gG m [(t.text,w)]
def gG:Nat→List (ByteArray×Int)→GM Ex
 |0,_=>o8
 |m+1,l=>kg L 1 (mR L fun t=>Av (gG m (l++[(t.text,t.at_)]))) (ak (aV L 7 BV) fun _=>ak (fG m) fun e=>aS (uO l e))
def qI:Nat→Int→Int→GM Ex
 |0,_,_=>o8
 |m+1,k,w=>ak (Ap m) fun b=>ak (eX m [b]) fun l=>ak (aV L 6 sIn) fun _=>ak (fG m) fun e=>aS (.mk 7 eB k ML [e] [] l w)
def Ap:Nat→GM Bd
 |0=>o8
 |m+1=>ak (zY L) fun t=>ak (aV L 7 sEq) fun _=>ak (fG m) fun e=>aS (.mk t.text e t.at_)
def eX:Nat→List Bd→GM (List Bd)
 |0,_=>o8
 |m+1,l=>dP L aoK (ak (Ap m) fun b=>eX m (l++[b])) (aS l)
def iW:Nat→GM Ex
 |0=>o8
 |m+1=>mR L fun t=>if t.kind=1 then Av (aS (iK 3 t.text 0 [] t.at_)) else if t.kind=2 then Av (aS (iK 4 t.text 0 [] t.at_))
   else if t.kind=3 then Av (aS (iK 1 eB t.n [] t.at_)) else if t.kind=4 then Av (aS (iK 2 t.text 0 [] t.at_))
   else dP L Kj (ak (fG m) fun x=>ak (aV L 6 sOf) fun _=>ak (ku m []) fun l=>ak (aV L 6 ach) fun _=>aS (.mk 8 eB 0 ML [x] l [] t.at_))
    (ak (aV L 7 Ki) fun _=>dP L BU (aS (iK 4 sUn 0 [] t.at_)) (kg L 5 (ak (aV L 5 eB) fun o=>ak (aV L 7 BU) fun _=>aS (iK 3 o.text 0 [] t.at_))
     (ak (fG m) fun y=>dP L aci (ak (iQ L m) fun ty=>ak (aV L 7 BU) fun _=>aS (.mk 12 eB 0 ty [y] [] [] t.at_)) (ak (aV L 7 BU) fun _=>aS y))))
def ku:Nat→List Al→GM (List Al)
 |0,_=>o8
 |m+1,l=>ak (nZ L m) fun p=>ak (aV L 7 BV) fun _=>ak (fG m) fun e=>dP L aj0 (ku m (l++[.mk p e])) (aS (l++[.mk p e]))
end
def j5:Nat→List ByteArray→GM (List ByteArray)
 |0,_=>o8
 |m+1,l=>kg L 1 (ak (aV L 1 eB) fun t=>j5 m (l++[t.text])) (aS l)
def o5:Nat→List ByteArray→GM (List ByteArray)
 |0,_=>o8
 |m+1,l=>dP L ajZ (ak (aV L 2 eB) fun t=>o5 m (l++[t.text])) (aS l)
def jR(m:Nat):GM (List ByteArray):=ak (aV L 2 eB) fun t=>o5 L m [t.text]
def cu(m:Nat)(l:List Ty):GM (List Ty):=fun d a=>xZ L m d a l
def iV:Nat→List Cn→GM (List Cn)
 |0,_=>o8
 |m+1,l=>ak (aV L 2 eB) fun c=>ak (cu L m []) fun tl=>dP L aj0 (iV m (l++[⟨c.text,tl,c.at_⟩])) (aS (l++[⟨c.text,tl,c.at_⟩]))
def xQ(m:Nat):GM Dt:=ak (aV L 2 eB) fun t=>ak (j5 L m []) fun ps=>ak (aV L 7 sEq) fun _=>ak (iV L m []) fun cs=>
 dP L WK (ak (aV L 7 Ki) fun _=>ak (jR L m) fun ds=>ak (aV L 7 BU) fun _=>aS ⟨t.text,ps,cs,ds,t.at_⟩) (aS ⟨t.text,ps,cs,[],t.at_⟩)
def gY:Nat→List Md→List Bd→GM (List Md×List Bd)
 |0,_,_=>o8
 |m+1,ms,ds=>dP L ach (aS (ms,ds)) (dP L ahb (ak (Ap L m) fun b=>ak (aV L 7 Na) fun _=>gY m ms (ds++[b]))
   (ak (zY L) fun n=>ak (aV L 7 aci) fun _=>ak (iQ L m) fun ty=>ak (aV L 7 Na) fun _=>gY m (ms++[⟨n.text,ty,n.at_⟩]) ds))
def TD(m:Nat):GM (List ByteArray):=dP L wV (jR L m) (aS [])
def nV(m:Nat):GM Cl:=ak (aV L 2 eB) fun t=>ak (aV L 1 eB) fun v=>ak (TD L m) fun sup=>ak (aV L 6 mH) fun _=>
 ak (gY L m [] []) fun r=>aS ⟨t.text,v.text,sup,r.1,r.2,t.at_⟩
def nT:Nat→List Pd→GM (List Pd)
 |0,_=>o8
 |m+1,l=>ak (aV L 2 eB) fun c=>ak (aV L 1 eB) fun v=>dP L ajZ (nT m (l++[⟨c.text,.mk 1 v.text 0 []⟩])) (aS (l++[⟨c.text,.mk 1 v.text 0 []⟩]))
def iU:Nat→List Bd→GM (List Bd)
 |0,_=>o8
 |m+1,l=>dP L ach (aS l) (ak (aV L 6 ahb) fun _=>ak (Ap L m) fun b=>ak (aV L 7 Na) fun _=>iU m (l++[b]))
def xI(m:Nat):GM It:=ak (aV L 2 eB) fun t=>ak (fM L m) fun h=>ak (dP L wV (nT L m []) (aS [])) fun c=>ak (aV L 6 mH) fun _=>
 ak (iU L m []) fun bs=>aS ⟨t.text,h,c,bs,t.at_⟩
def eG:Nat→Pg→GM Pg
 |0,_=>o8
 |m+1,p=>kg L 0 (aS p) (dP L ajY (ak (xQ L m) fun x=>ak (aV L 7 Na) fun _=>eG m {p with datas:=p.datas++[x] })
   (dP L ahc (ak (nV L m) fun x=>ak (aV L 7 Na) fun _=>eG m {p with classes:=p.classes++[x] })
   (dP L ajX (ak (xI L m) fun x=>ak (aV L 7 Na) fun _=>eG m {p with insts:=p.insts++[x] })
   (ak (aV L 6 ahb) fun _=>ak (Ap L m) fun x=>ak (aV L 7 Na) fun _=>eG m {p with binds:=p.binds++[x] }))))
end
structure Fin(s s':St)(b:Nat):Prop where
 a:s'.a=b
 lv:s'.lv=s.lv
 e:s'.e=0
 w:s'.w=s.w
def JL(s:St):St:=⟨s.a,IntKind.i64.wrap (s.lv-1),s.e,s.w⟩
theorem may_t{L:List Tk}{x:ByteArray}{s:St}(h:iM L x s=true):yY L x s=s.up:=by unfold yY;rw[if_pos h]
theorem may_f{L:List Tk}{x:ByteArray}{s:St}(h:iM L x s=false):yY L x s=s:=by unfold yY;rw[h];rfl
theorem Sd{L:List Tk}{s:St}(h:s.e≠0):aX L s=zT:=by unfold aX;rw[if_neg h]
theorem lZ{L:List Tk}{s:St}(h:s.e=0):aX L s=ai L s.a:=by unfold aX ai;rw[if_pos h]
theorem alH{L:List Tk}{x:ByteArray}{s:St}(h:s.e≠0):iM L x s=false:=by unfold iM;rw[Sd h];simp[zT]
theorem Sr{L:List Tk}{x:ByteArray}{s:St}(h:s.e=0):iM L x s=lF L x s.a:=by unfold iM lF;rw[lZ h]
def Rl{α:Type}(s s':St)(v:α)(r:Rz α):Prop:=
 (s.e≠0→s'.e=s.e∧s'.w=s.w)∧(s.e=0→0≤s.lv→s.lv≤300→match r with
  |.out=>False
  |.err e w=>e≠0∧s'.e=e∧s'.w=w
  |.ok x b=>v=x∧Fin s s' b)
def Gr{α:Type}(g:Nat→GM α)(s s':St)(v:α):Prop:=∃m0,∀m,m0≤m→Rl s s' v (g m s.lv s.a)
section
variable{α β:Type}{L:List Tk}{s s1 s2 s':St}{v:α}{v1:β}{g G A B:Nat→GM α}{p:Nat→GM β}
theorem Gr.of(hG:Gr G s s' v)(h:∀m,g (m+1)=G m):Gr g s s' v:=by
 obtain⟨m0,h0⟩:=hG;refine⟨m0+1,fun m hm=>?_⟩;obtain⟨m,rfl⟩:∃k,m=k+1:=⟨m-1,by omega⟩;rw[h];exact h0 m (by omega)
theorem Gr.fx(h:∀m,g (m+1)=G m)(hG:Gr G s s' v):Gr g s s' v:=hG.of h
theorem Gr.to(hG:Gr G s s' v)(h:∀m,g m=G m):Gr g s s' v:=by
 obtain⟨m0,h0⟩:=hG;exact⟨m0,fun m hm=>by rw[h];exact h0 m hm⟩
theorem Gr.tx(h:∀m,g m=G m)(hG:Gr G s s' v):Gr g s s' v:=by
 obtain⟨m0,h0⟩:=hG;exact⟨m0,fun m hm=>by rw[h];exact h0 m hm⟩
theorem Gr.pt(m1:Nat)(h:∀m,m1≤m→s.e=0→g m s.lv s.a=G m s.lv s.a)(hG:Gr G s s' v):Gr g s s' v:=by
 obtain⟨m0,h0⟩:=hG;refine⟨max m0 m1,fun m hm=>⟨(h0 m (by omega)).1,fun he l0 l1=>?_⟩⟩;rw[h m (by omega) he];exact(h0 m (by omega)).2 he l0 l1
theorem Gr.fault(h:s.e≠0)(h1:s'.e=s.e)(h2:s'.w=s.w):Gr g s s' v:=⟨0,fun m _=>⟨fun _=>⟨h1,h2⟩,fun he=>absurd he h⟩⟩
theorem Gr.pure:Gr (fun _=>aS v) s s v:=⟨0,fun m _=>⟨fun _=>⟨rfl,rfl⟩,fun he _ _=>⟨rfl,rfl,rfl,he,rfl⟩⟩⟩
theorem Gr.eq{u:α}(h:Gr g s s' v)(e:v=u):Gr g s s' u:=e ▸ h
theorem Rl.bind{r:Rz β}{k:β→GM α}(h1:Rl s s1 v1 r)(h2:Rl s1 s2 v (k v1 s1.lv s1.a)):Rl s s2 v (r.bind fun x b=>k x s.lv b):=by
 refine⟨fun he=>?_,fun he l0 l1=>?_⟩
 ·obtain⟨a1,a2⟩:=h1.1 he
  obtain⟨b1,b2⟩:=h2.1 (by rw[a1];exact he);exact⟨b1.trans a1,b2.trans a2⟩
 ·have h:=h1.2 he l0 l1
  cases r with
  |out=>exact h
  |err e w=>
   obtain⟨c0,c1,c2⟩:=h;obtain⟨b1,b2⟩:=h2.1 (by rw[c1];exact c0);exact⟨c0,b1.trans c1,b2.trans c2⟩
  |ok x b=>
   obtain⟨rfl,hf⟩:=h;have h3:=h2.2 hf.e (by rw[hf.lv];exact l0) (by rw[hf.lv];exact l1);rw[hf.lv,hf.a] at h3;rw[Rz.bind_ok];cases hr:k v1 s.lv b with
   |out=>rw[hr] at h3;exact h3
   |err e w=>rw[hr] at h3;exact h3
   |ok y c=>
    rw[hr] at h3;obtain⟨e1,f⟩:=h3;exact⟨e1,f.a,f.lv.trans hf.lv,f.e,f.w.trans hf.w⟩
theorem Gr.bind{k:Nat→β→GM α}(h1:Gr p s s1 v1)(h2:Gr (fun m=>k m v1) s1 s2 v):Gr (fun m=>ak (p m) (k m)) s s2 v:=by
 obtain⟨a,ha⟩:=h1;obtain⟨b,hb⟩:=h2;exact⟨max a b,fun m hm=>Rl.bind (k:=k m) (ha m (by omega)) (hb m (by omega))⟩
theorem Gr.take(k:Int)(x:ByteArray)(s:St):Gr (fun _=>aV L k x) s (au L k x s) (aT L k x s):=by
 refine⟨0,fun m _=>⟨fun he=>?_,fun he _ _=>?_⟩⟩
 ·unfold au okB;simp[gZ,he]
 ·have hok:okB L k x s=UR L k x s.a:=by unfold okB UR;rw[Sr he,lZ he];simp[he]
  simp only[aV];unfold au aT;rw[hok];cases h:UR L k x s.a with
  |true=>simp only[if_true];exact⟨lZ he,nJ s,bD s,(cZ s).trans he,dG s⟩
  |false=>simp only[Bool.false_eq_true,if_false];rw[lZ he];simp[gZ,he]
theorem Gr.may_t{x:ByteArray}(h:iM L x s=true)(hA:Gr A s.up s' v):Gr (fun m=>dP L x (A m) (B m)) s s' v:=by
 obtain⟨m0,h0⟩:=hA;have he:=(iy h).1;refine⟨m0,fun m hm=>?_⟩;have hi:lF L x s.a=true:=by rw[←Sr he];exact h
 simp only[dP];rw[hi,if_pos rfl];have:=h0 m hm;rw[bD,nJ] at this;refine⟨fun hne=>absurd he hne,fun _ l0 l1=>?_⟩;have h2:=this.2 ((cZ s).trans he) (by rw[bD];exact l0) (by rw[bD];exact l1);cases hr:A m s.lv (s.a+1) with
 |out=>rw[hr] at h2;exact h2
 |err e w=>rw[hr] at h2;exact h2
 |ok y c=>rw[hr] at h2;exact⟨h2.1,h2.2.a,h2.2.lv.trans (bD s),h2.2.e,h2.2.w.trans (dG s)⟩
theorem Gr.may_f{x:ByteArray}(h:iM L x s=false)(hB:Gr B s s' v):Gr (fun m=>dP L x (A m) (B m)) s s' v:=by
 obtain⟨m0,h0⟩:=hB;refine⟨m0,fun m hm=>⟨(h0 m hm).1,fun he l0 l1=>?_⟩⟩;have hi:lF L x s.a=false:=by rw[←Sr he];exact h
 simp only[dP];rw[hi];simpa using(h0 m hm).2 he l0 l1
theorem Gr.kind_t{k:Int}(h:(aX L s).kind=k)(hA:Gr A s s' v):Gr (fun m=>kg L k (A m) (B m)) s s' v:=by
 obtain⟨m0,h0⟩:=hA;refine⟨m0,fun m hm=>⟨(h0 m hm).1,fun he l0 l1=>?_⟩⟩;rw[lZ he] at h;simp only[kg];rw[if_pos h];exact(h0 m hm).2 he l0 l1
theorem Gr.kind_f{k:Int}(h:(aX L s).kind≠k)(hB:Gr B s s' v):Gr (fun m=>kg L k (A m) (B m)) s s' v:=by
 obtain⟨m0,h0⟩:=hB;refine⟨m0,fun m hm=>⟨(h0 m hm).1,fun he l0 l1=>?_⟩⟩;rw[lZ he] at h;simp only[kg];rw[if_neg h];exact(h0 m hm).2 he l0 l1
theorem Gr.next{k:Nat→Tk→GM α}(h:Gr (fun m=>k m (aX L s)) s s' v):Gr (fun m=>mR L (k m)) s s' v:=by
 obtain⟨m0,h0⟩:=h;refine⟨m0,fun m hm=>⟨(h0 m hm).1,fun he l0 l1=>?_⟩⟩;have:=(h0 m hm).2 he l0 l1;rw[lZ he] at this;exact this
theorem Gr.up(he:s.e=0)(h:Gr A s.up s' v):Gr (fun m=>Av (A m)) s s' v:=by
 obtain⟨m0,h0⟩:=h;refine⟨m0,fun m hm=>⟨fun hne=>absurd he hne,fun _ l0 l1=>?_⟩⟩;have:=h0 m hm;rw[bD,nJ] at this;have h2:=this.2 ((cZ s).trans he) (by rw[bD];exact l0) (by rw[bD];exact l1);simp only[Av];cases hr:A m s.lv (s.a+1) with
 |out=>rw[hr] at h2;exact h2
 |err e w=>rw[hr] at h2;exact h2
 |ok y c=>rw[hr] at h2;exact⟨h2.1,h2.2.a,h2.2.lv.trans (bD s),h2.2.e,h2.2.w.trans (dG s)⟩
theorem Gr.st_t{w:Int}(h:Gf L w s.a=true)(hA:Gr A s s' v):Gr (fun m=>Vt L w (A m) (B m)) s s' v:=by
 obtain⟨m0,h0⟩:=hA;refine⟨m0,fun m hm=>?_⟩;simp only[Vt];rw[if_pos h];exact h0 m hm
theorem Gr.st_f{w:Int}(h:s.e=0→Gf L w s.a=false)(hB:Gr B s s' v):Gr (fun m=>Vt L w (A m) (B m)) s s' v:=by
 obtain⟨m0,h0⟩:=hB;refine⟨m0,fun m hm=>⟨(h0 m hm).1,fun he l0 l1=>?_⟩⟩;simp only[Vt];rw[h he];simpa using(h0 m hm).2 he l0 l1
theorem Gr.if_t{c:Prop}[Decidable c](h:c)(hA:Gr A s s' v):Gr (fun m=>if c then A m else B m) s s' v:=hA.to fun m=>if_pos h
theorem Gr.if_f{c:Prop}[Decidable c](h:¬c)(hB:Gr B s s' v):Gr (fun m=>if c then A m else B m) s s' v:=hB.to fun m=>if_neg h
theorem Gr.deep'{s3:St}(h:Gr A (gQ L s) s2 v)(h3:s3.e=s2.e)(h4:s3.w=s2.w)(h5:s2.e=0→s3=JL s2):Gr (fun m=>rE L (A m)) s s3 v:=by
 obtain⟨m0,h0⟩:=h;refine⟨m0,fun m hm=>⟨fun he=>?_,fun he l0 l1=>?_⟩⟩
 ·have hd:(gQ L s).e=s.e∧(gQ L s).w=s.w:=by
   unfold gQ;split
   ·have:(EI s).e≠0:=he
    simp[gZ,this];exact⟨rfl,rfl⟩
   ·exact⟨rfl,rfl⟩
  obtain⟨b1,b2⟩:=(h0 m hm).1 (by rw[hd.1];exact he);exact⟨h3.trans (b1.trans hd.1),h4.trans (b2.trans hd.2)⟩
 ·have hw:(EI s).lv=s.lv+1:=by unfold EI;exact aJ (by omega)
  have hz:(EI s).e=0:=he;simp only[rE];by_cases hc:300<s.lv+1
  ·rw[if_pos hc]
   have hd:gQ L s=gZ 111 (aX L (EI s)).at_ (EI s):=by unfold gQ;rw[if_pos (by rw[hw];exact hc)]
   have hn:aX L (EI s)=ai L s.a:=lZ hz;have hE:(gQ L s).e=111∧(gQ L s).w=(ai L s.a).at_:=by rw[hd,hn];simp[gZ,hz]
   obtain⟨b1,b2⟩:=(h0 m hm).1 (by rw[hE.1];decide);exact⟨by decide,h3.trans (b1.trans hE.1),h4.trans (b2.trans hE.2)⟩
  ·rw[if_neg hc]
   have hd:gQ L s=EI s:=by unfold gQ;rw[if_neg (by rw[hw];exact hc)]
   have h6:=h0 m hm;rw[hd] at h6;have h7:=h6.2 hz (by rw[hw];omega) (by rw[hw];omega);rw[hw] at h7;show match A m (s.lv+1) s.a with | .out=>False | .err e w=>_ | .ok x b=>_
   cases hr:A m (s.lv+1) s.a with
   |out=>exact(by rw[show (EI s).a=s.a from rfl,hr] at h7;exact h7)
   |err e w=>
    rw[show (EI s).a=s.a from rfl,hr] at h7;exact⟨h7.1,h3.trans h7.2.1,h4.trans h7.2.2⟩
   |ok x b=>
    rw[show (EI s).a=s.a from rfl,hr] at h7;obtain⟨e1,f⟩:=h7;have e3:=h5 f.e;subst e3;refine⟨e1,f.a,?_,f.e,f.w⟩;show IntKind.i64.wrap (s2.lv-1)=s.lv;rw[f.lv,hw,aJ (by omega)];omega
theorem Gr.takex{k:Int}{x:ByteArray}{t:Tk}(h:au L k x s=s1)(ht:aT L k x s=t):Gr (fun _=>aV L k x) s s1 t:=by
 rw[←h,←ht];exact Gr.take k x s
theorem Gr.deepx(hd:gQ L s=s1)(h:Gr A s1 s2 v):Gr (fun m=>rE L (A m)) s (JL s2) v:=by
 rw[←hd] at h;exact h.deep' rfl rfl fun _=>rfl
theorem Gr.deepy{s3:St}(hd:gQ L s=s1)(h:Gr A s1 s2 v)(h3:s3.e=s2.e)(h4:s3.w=s2.w)(h5:s2.e=0→s3=JL s2):Gr (fun m=>rE L (A m)) s s3 v:=by
 rw[←hd] at h;exact h.deep' h3 h4 h5
theorem Gr.clash_t{l:List Ex}{ops:List Tk}{k:Nat}(h:iE (Au ops) ops.length ops.length 0=some k)(u:Ex):Gr (fun _=>qQ l ops) s (gZ 112 (opAt ops k).at_ s) u:=by
 refine⟨0,fun m _=>⟨fun he=>by simp[gZ,he],fun he _ _=>?_⟩⟩;unfold qQ;rw[h];simp[gZ,he]
theorem Gr.clash_n{l:List Ex}{ops:List Tk}(h:iE (Au ops) ops.length ops.length 0=none):Gr (fun _=>qQ l ops) s s (fJ l ops ops.length 0 ops.length):=by
 have e:qQ l ops=aS (fJ l ops ops.length 0 ops.length):=by unfold qQ;rw[h]
 rw[e];exact .pure
end
section
variable(L:List Tk)
theorem oh(m:Nat):iQ L (m+1)=rE L (mR L fun t=>ak (if t.kind=2 then Av (ak (cu L m []) fun l=>aS (.mk 3 t.text 0 l)) else fM L m) fun x=>dP L BV (ak (iQ L m) fun y=>aS (.mk 3 BV 0 [x,y])) (aS x)):=by
 funext d a;rw[iQ];unfold rE mR ak dP aS;by_cases h:300<d+1
 ·simp[h]
 ·by_cases k:(ai L a).kind=2<;>simp[h,k,Av,ak,aS,cu]
theorem qc(m:Nat):fM L (m+1)=mR L fun t=>if t.kind=2 then Av (aS (.mk 3 t.text 0 [])) else if t.kind=1 then Av (aS (.mk 1 t.text 0 []))
  else ak (aV L 7 Ki) fun _=>dP L BU (aS (.mk 3 sUn 0 [])) (ak (iQ L m) fun x=>ak (aV L 7 BU) fun _=>aS x):=by
 funext d a;rw[fM];unfold mR;by_cases k2:(ai L a).kind=2
 ·simp[k2,Av,aS]
 ·by_cases k1:(ai L a).kind=1
  ·simp[k2,k1,Av,aS]
  ·simp only[k2,k1,if_false]
   unfold ak aV dP aS UR afp;cases h1:lF L Ki a with
   |false=>simp
   |true=>
    cases h2:lF L BU (a+1) with
    |true=>simp[h2]
    |false=>
     simp[h2];cases iQ L m d (a+1) with
     |out=>rfl
     |err e w=>rfl
     |ok x b=>simp;split<;>rfl
theorem iG(m:Nat)(l:List Ty):cu L (m+1) l=Vt L 0 (ak (fM L m) fun x=>cu L m (l++[x])) (aS l):=by
 funext d a;unfold cu Vt ak aS;rw[xZ];have:Gf L 0 a=stT L a:=by unfold Gf stT;simp
 rw[this]
end
inductive Ty.Ok:Ty→Prop where
 |mk (k:Int) (s:ByteArray) (n:Int) (ks:List Ty) (h:ks.length≤dF) (hk:∀t∈ks,Ty.Ok t):Ty.Ok (.mk k s n ks)
def bF{α:Type}(L:List Tk)(s:St)(enc:α→List PV)(ok:α→Prop)(g:Nat→GM α)(r:aK):Prop:=
 ∃k ys s' v,r=.ok (k,eU L s' ys)∧dD ys=enc v∧s'.a≤L.length∧mu L s'≤mu L s-1∧ok v∧Gr g s s' v
def lJ{α:Type}(L:List Tk)(n:Nat)(q:St→Q)(enc:α→List PV)(ok:α→Prop)(g:Nat→GM α):Prop:=
 ∀s:St,s.a≤L.length→mu L s≤n→∃v s',ev (q s)=some (0,eU L s' (enc v))∧s'.a≤L.length∧mu L s'≤mu L s-1∧ok v∧Gr g s s' v
section
variable{α:Type}{L:List Tk}{n:Nat}{enc:α→List PV}{ok:α→Prop}{g:Nat→GM α}
theorem lJ.weak{q qw:St→Q}(hw:∀s,body PG EE TT ev (qw s)=weakD (ev (q s)))(h:∀s:St,s.a≤L.length→mu L s≤n→bF L s enc ok g (body PG EE TT ev (q s))):lJ L n qw enc ok g:=fun s h1 h2=>by
 obtain⟨k,ys,s',v,e1,e2,e3⟩:=h s h1 h2;have e:ev (q s)=some (k,eU L s' ys):=ax.of e1;exact⟨v,s',ax.of (by rw[hw,e];simp[gN,eU,e2]),e3⟩
theorem lJ.mono{q:St→Q}{m:Nat}(hm:m≤n)(h:lJ L n q enc ok g):lJ L m q enc ok g:=fun s h1 h2=>h s h1 (Nat.le_trans h2 hm)
theorem bF.of{s:St}(k:Nat)(ys:List PV)(s':St)(v:α)(h1:dD ys=enc v)(h2:s'.a≤L.length)(h3:mu L s'≤mu L s-1)(h4:ok v)(h5:Gr g s s' v):bF L s enc ok g (.ok (k,eU L s' ys)):=⟨k,ys,s',v,rfl,h1,h2,h3,h4,h5⟩
theorem bF.ofUp{s s1:St}(k:Nat)(ys:List PV)(v:α)(h1:dD ys=enc v)(h2:s1.up.a≤L.length)(h3:mu L s1.up≤mu L s-1)(h4:ok v)(h5:Gr g s s1.up v):bF L s enc ok g (.ok (k,aW L::iv s1.up.a::iv s1.lv::iv s1.e::iv s1.w::ys)):=
 ⟨k,ys,s1.up,v,by show _=aK.ok (k,aW L::iv s1.up.a::iv s1.up.lv::iv s1.up.e::iv s1.up.w::ys);rw[bD,cZ,dG],h1,h2,h3,h4,h5⟩
theorem bF.ofT{s s1:St}{kk:Int}{x:ByteArray}(k:Nat)(ys:List PV)(v:α)(h1:dD ys=enc v)(h2:(au L kk x s1).a≤L.length)(h3:mu L (au L kk x s1)≤mu L s-1)(h4:ok v)(h5:Gr g s (au L kk x s1) v):bF L s enc ok g (.ok (k,aW L::iv (au L kk x s1).a::iv s1.lv::iv (au L kk x s1).e::iv (au L kk x s1).w::ys)):=
 ⟨k,ys,au L kk x s1,v,by rw[←aU (L:=L) kk x s1],h1,h2,h3,h4,h5⟩
end
theorem rC{L:List Tk}(s:St):mu L (JL s)=mu L s:=rfl
theorem HZ{L:List Tk}{s:St}(h:s.e≠0):mu L s=0:=by unfold mu;rw[if_neg h]
theorem kV(L:List Tk)(s:St):mu L s≤L.length+1:=by unfold mu;split<;>omega
abbrev rP(t:Ty):List PV:=[iv t.kind,sv t.name,iv t.n,bH t.kids]
def EF(k:Int)(s:ByteArray):Ty:=.mk k s 0 []
theorem rU(k:Int)(s:ByteArray):(EF k s).Ok:=.mk _ _ _ _ (by simp[dF]) (fun t ht=>by cases ht)
theorem abU:iY PG 23 4 56:=iY.of (by kernel_rfl)
theorem wZ(l:List Ty):Raw 4 (l.map Ty.cells) (l.map Ty.cells):=.of l Ty.wd (fun x=>by rw[Ty.cells_eq];rfl) (fun x=>by rw[Ty.cells_eq];simp)
@[simp] theorem am1(k:Int)(s:ByteArray)(n:Int)(l:List Ty):(Ty.mk k s n l).kind=k:=rfl
@[simp] theorem am0(k:Int)(s:ByteArray)(n:Int)(l:List Ty):(Ty.mk k s n l).name=s:=rfl
@[simp] theorem as2(k:Int)(s:ByteArray)(n:Int)(l:List Ty):(Ty.mk k s n l).n=n:=rfl
@[simp] theorem am2(k:Int)(s:ByteArray)(n:Int)(l:List Ty):(Ty.mk k s n l).kids=l:=rfl
@[simp] theorem amZ:bH []=.rows []:=rfl
theorem Aw(x y:Ty):bH [x,y]=.rows [rP x,rP y]:=by simp[bH,Ty.cells_eq]
abbrev Vu(L:List Tk)(s:St):Q:=afU (aW L) (iv s.a) (iv s.lv) (iv s.e) (iv s.w)
abbrev qAt(L:List Tk)(s:St):Q:=afN (aW L) (iv s.a) (iv s.lv) (iv s.e) (iv s.w)
section
variable{L:List Tk}
theorem iI{k:Int}(hk:k=0∨k=1∨k=2)(s:St):∃b,ev (akJ (iv k) (aW L) (iv s.a) (iv s.lv) (iv s.e) (iv s.w))=some (0,eU L s [bv b])∧(b=true→s.e=0∧s.a<L.length∧Gf L k s.a=true)∧(b=false→s.e=0→Gf L k s.a=false):=by
 by_cases he:s.e=0
 ·refine⟨Gf L k s.a,ax.of ?_,fun h=>⟨he,?_,h⟩,fun h _=>h⟩
  ·rw[alZ]
   unfold Gf;simp[kU,Tk.cells,Lm,Sr he,lZ he];by_cases h1:(ai L s.a).kind=1
   ·simp[h1]
   ·by_cases h2:(ai L s.a).kind=2
    ·simp[h1,h2]
    ·cases h3:lF L Ki s.a with
     |true=>simp[h1,h2,h3]
     |false=>
      by_cases h5:(ai L s.a).kind=3
      ·rcases hk with rfl|rfl|rfl<;>simp[h1,h2,h3,h5]
      ·rcases hk with rfl|rfl|rfl
       ·simp[h1,h2,h3,h5]
       ·cases h6:lF L sUs s.a<;>simp[h1,h2,h3,h5,h6]
       ·by_cases h7:(ai L s.a).kind=4
        ·simp[h1,h2,h3,h5,h7]
        ·cases h8:lF L Kj s.a<;>simp[h1,h2,h3,h5,h7,h8]
  ·by_cases hl:s.a<L.length
   ·exact hl
   ·have hz:ai L s.a=zT:=by unfold ai;rw[List.getElem?_eq_none (by omega)];rfl
    unfold Gf lF at h;simp[hz,zT] at h
 ·refine⟨false,ax.of ?_,(fun h=>by cases h),fun _ h=>absurd h he⟩
  rw[alZ];simp[kU,Tk.cells,Lm,alH he,Sd he,zT]
end
section
variable{L:List Tk}(hL:L.length≤1000000)
include hL
theorem Er{n:Nat}(ih:lJ L n (Vu L) rP Ty.Ok (iQ L)):lJ L (n+1) (qAt L) rP Ty.Ok (fM L):=
 lJ.weak (q:=fun s=>ahF (aW L) (iv s.a) (iv s.lv) (iv s.e) (iv s.w)) (fun s=>alY ev _ _ _ _ _) fun s hs hm=>by
  show bF L s rP Ty.Ok _ (body PG EE TT ev (ahF (aW L) (iv s.a) (iv s.lv) (iv s.e) (iv s.w)));rw[aqu];simp[fu,Tk.cells];refine dO (fun h2=>?_) (fun h2=>dO (fun h1=>?_) (fun h1=>?_))
  ·simp only[decide_eq_true_eq] at h2
   obtain⟨he,hl⟩:=dI (L:=L) (s:=s) (by omega);have hmu:=uT he hl;simp[wC hl hL];exact bF.ofUp 0 [iv 3,sv (aX L s).text,iv 0,.lit (.slice none 0 0)] (EF 3 (aX L s).text) (by simp[EF,bH]) (by rw[nJ];exact hl) hmu (rU _ _) (.fx (qc L) (.next (.if_t h2 (.up he .pure))))
  ·simp only[decide_eq_true_eq] at h1
   obtain⟨he,hl⟩:=dI (L:=L) (s:=s) (by omega);have hmu:=uT he hl;simp[wC hl hL];exact bF.ofUp 0 [iv 1,sv (aX L s).text,iv 0,.lit (.slice none 0 0)] (EF 1 (aX L s).text) (by simp[EF,bH]) (by rw[nJ];exact hl) hmu (rU _ _) (.fx (qc L) (.next (.if_f (by rw[h1];decide) (.if_t h1 (.up he .pure)))))
  ·simp only[decide_eq_false_iff_not] at h1 h2
   have t1:=aQ (L:=L) (k:=7) (x:=⟨#[40]⟩) (by decide) s;have t2:=bC (k:=7) (x:=⟨#[40]⟩) (by decide) hs;simp[aR hL (k:=7) (by decide),bM hL,Tk.cells];generalize h3:au L 7 ⟨#[40]⟩ s=s1 at *;have hl1:s1.lv=s.lv:=by rw[←h3];exact aU _ _ s
   simp only[←hl1];refine dO (fun hb=>?_) (fun hb=>?_)
   ·obtain⟨m1,m2⟩:=bY hb
    rw[may_t hb];exact bF.of 0 _ s1.up (EF 3 ⟨#[85,110,105,116]⟩) (by simp[EF,bH]) m2 (by omega) (rU _ _) (.fx (qc L) (.next (.if_f h2 (.if_f h1 (.bind (.takex h3 rfl) (.may_t hb .pure))))))
   ·rw[may_f hb]
    obtain⟨v,s2,e1,e2,e3,e4,r1⟩:=ih s1 t2 (by omega);simp only[Vu] at e1;have t3:=aQ (L:=L) (k:=7) (x:=⟨#[41]⟩) (by decide) s2;have t4:=bC (k:=7) (x:=⟨#[41]⟩) (by decide) e2;simp[e1,aR hL (k:=7) (by decide),Tk.cells];exact bF.ofT 0 _ v (by simp) t4 (by omega) e4 (.fx (qc L) (.next (.if_f h2 (.if_f h1 (.bind (.takex h3 rfl) (.may_f hb (.bind r1 (.bind (.take _ _ _) .pure))))))))
theorem aot{n:Nat}(hat:lJ L n (qAt L) rP Ty.Ok (fM L))(nm:ByteArray):∀(m:Nat) (s:St) (l:List Ty),mu L s≤m→m≤n→s.a≤L.length→l.length+m≤2000000→∃s' l',
  ev (RF (aW L) (iv s.a) (iv s.lv) (iv s.e) (iv s.w) (sv nm) (l.map Ty.cells))=some (1,eU L s' [iv 3,sv nm,iv 0,bH (l++l'),iv 0,sv eB,iv 0,.lit (.slice none 0 0)])∧
  s'.a≤L.length∧mu L s'≤mu L s∧(∀t∈l',t.Ok)∧l'.length≤mu L s-mu L s'∧Gr (fun m=>cu L m l) s s' (l++l'):=by
 intro m
 induction m with
 |zero=>
  intro s l hm hn hs hl;obtain⟨b,h1,h2,h3⟩:=iI (L:=L) (k:=0) (.inl rfl) s;cases b with
  |true=>have:=bE (L:=L) (h2 rfl).1;omega
  |false=>exact⟨s,[],ax.of (by rw[IU];simp[h1,bH]),hs,Nat.le_refl _,(fun t ht=>by cases ht),by simp,(Gr.fx (fun m=>iG L m l) (.st_f (h3 rfl) .pure)).eq (by simp)⟩
 |succ m ih=>
  intro s l hm hn hs hl;obtain⟨b,h1,h2,h3⟩:=iI (L:=L) (k:=0) (.inl rfl) s;cases b with
  |false=>exact⟨s,[],ax.of (by rw[IU];simp[h1,bH]),hs,Nat.le_refl _,(fun t ht=>by cases ht),by simp,(Gr.fx (fun m=>iG L m l) (.st_f (h3 rfl) .pure)).eq (by simp)⟩
  |true=>
   have hp:=bE (L:=L) (h2 rfl).1;obtain⟨v,s1,e1,e2,e3,e4,r1⟩:=hat s hs (by omega);obtain⟨s2,l',g1,g2,g3,g4,g5,r2⟩:=ih s1 (l++[v]) (by omega) (by omega) e2 (by simp;omega);refine⟨s2,v::l',ax.of ?_,g2,by omega,?_,by simp;omega,(Gr.fx (fun m=>iG L m l) (.st_t (h2 rfl).2.2 (.bind r1 r2))).eq (by simp)⟩
   ·rw[IU]
    rw[List.map_append,List.map_cons,List.map_nil,Ty.cells_eq v,List.append_assoc] at g1;have ha:=fun k'=>aN (P:=PG) (d:=.fail) (k:=k') abU (wZ l) (c:=rP v) rfl (by simp) (by simp;omega) (by decide)
    simp[h1,e1,ha,g1]
   ·intro t ht
    rcases List.mem_cons.1 ht with rfl|ht
    ·exact e4
    ·exact g4 t ht
theorem aou{n:Nat}(hat:lJ L n (qAt L) rP Ty.Ok (fM L))(nm:ByteArray)(s:St)(hm:mu L s≤n)(hs:s.a≤L.length):∃s' l',
  ((l'=[]∧ev (GQ (aW L) (iv s.a) (iv s.lv) (iv s.e) (iv s.w) (sv nm))=some (0,eU L s' [iv 3,sv nm,iv 0,.lit (.slice none 0 0),iv 0,sv eB,iv 0,.lit (.slice none 0 0)]))∨
   ev (GQ (aW L) (iv s.a) (iv s.lv) (iv s.e) (iv s.w) (sv nm))=some (1,eU L s' [iv 3,sv nm,iv 0,bH l',iv 0,sv eB,iv 0,.lit (.slice none 0 0)]))∧
  s'.a≤L.length∧mu L s'≤mu L s∧(∀t∈l',t.Ok)∧l'.length≤mu L s-mu L s'∧Gr (fun m=>cu L m []) s s' l':=by
 obtain⟨b,h1,h2,h3⟩:=iI (L:=L) (k:=0) (.inl rfl) s;cases b with
 |false=>exact⟨s,[],.inl ⟨rfl,ax.of (by rw[Tm];simp[h1])⟩,hs,Nat.le_refl _,(fun t ht=>by cases ht),by simp,.fx (fun m=>iG L m []) (.st_f (h3 rfl) .pure)⟩
 |true=>
  have hp:=bE (L:=L) (h2 rfl).1;obtain⟨v,s1,e1,e2,e3,e4,r1⟩:=hat s hs (by omega);have hml:=kV L s1;obtain⟨s2,l',g1,g2,g3,g4,g5,r2⟩:=aot hL hat nm (mu L s1) s1 [v] (Nat.le_refl _) (by omega) e2 (by simp;omega);refine⟨s2,v::l',.inr (ax.of ?_),g2,by omega,?_,by simp;omega,.fx (fun m=>iG L m []) (.st_t (h2 rfl).2.2 (.bind r1 r2))⟩
  ·rw[Tm]
   rw[List.map_cons,List.map_nil,Ty.cells_eq v] at g1;simp[h1,e1,g1]
  ·intro t ht
   rcases List.mem_cons.1 ht with rfl|ht
   ·exact e4
   ·exact g4 t ht
theorem abI{n:Nat}(ih:lJ L n (Vu L) rP Ty.Ok (iQ L)):lJ L (n+1) (Vu L) rP Ty.Ok (iQ L):=
 lJ.weak (q:=fun s=>acB (aW L) (iv s.a) (iv s.lv) (iv s.e) (iv s.w)) (fun s=>af8 ev _ _ _ _ _) fun s hs hm=>by
  show bF L s rP Ty.Ok _ (body PG EE TT ev (acB (aW L) (iv s.a) (iv s.lv) (iv s.e) (iv s.w)));rw[al7];by_cases he:s.e=0
  ·have hp:=bE (L:=L) he
   have d1:=Je (L:=L) s;have d2:=Eg (L:=L) s;simp[eq_true he,Ox,fu,Tk.cells];generalize hd:gQ L s=s1 at *;have hs1:s1.a≤L.length:=by omega
   simp only[←d2];refine dO (fun h2=>?_) (fun h2=>?_)
   ·simp only[decide_eq_true_eq] at h2
    obtain⟨he1,hl1⟩:=dI (L:=L) (s:=s1) (by omega);have hmu:=uT he1 hl1;have hp1:=bE (L:=L) he1;obtain⟨s2,l,hc,e2,m2,g4,g5,r1⟩:=aou hL (Er hL ih) (aX L s1).text s1.up (by omega) (by rw[nJ];exact hl1);have hml:=kV L s1.up;have hx:(Ty.mk 3 (aX L s1).text 0 l).Ok:=.mk _ _ _ _ (by unfold dF;omega) g4;have r2:Gr (fun m=>if(aX L s1).kind=2 then Av (ak (cu L m []) fun l=>aS (.mk 3 (aX L s1).text 0 l)) else fM L m) s1 s2 (Ty.mk 3 (aX L s1).text 0 l):=.if_t h2 (.up he1 (.bind r1 .pure));rcases hc with⟨rfl,hc⟩|hc
    ·simp only[wC hl1 hL]
     simp only[bD,cZ,dG] at hc;simp[hc,bM hL];refine dO (fun hb=>?_) (fun hb=>?_)
     ·obtain⟨b1,b2⟩:=bY hb
      rw[may_t hb];obtain⟨y,s3,f1,f2,f3,f4,r3⟩:=ih s2.up b2 (by omega);simp only[Vu,bD,cZ,dG] at f1;simp[f1];exact bF.of 1 _ (JL s3) (.mk 3 ⟨#[45,62]⟩ 0 [(Ty.mk 3 (aX L s1).text 0 []),y]) (by simp[bG,iB,j3,Aw]) f2 (by rw[rC];omega) (.mk _ _ _ _ (by simp[dF]) (by simp[hx,f4])) (.fx (oh L) (.deepx hd (.next (.bind r2 (.may_t hb (.bind r3 .pure))))))
     ·rw[may_f hb]
      exact bF.of 0 _ (JL s2) (Ty.mk 3 (aX L s1).text 0 []) (by simp) e2 (by rw[rC];omega) hx (.fx (oh L) (.deepx hd (.next (.bind r2 (.may_f hb .pure)))))
    ·simp only[wC hl1 hL]
     simp only[bD,cZ,dG] at hc;simp[hc,bM hL];refine dO (fun hb=>?_) (fun hb=>?_)
     ·obtain⟨b1,b2⟩:=bY hb
      rw[may_t hb];obtain⟨y,s3,f1,f2,f3,f4,r3⟩:=ih s2.up b2 (by omega);simp only[Vu,bD,cZ,dG] at f1;simp[f1];exact bF.of 1 _ (JL s3) (.mk 3 ⟨#[45,62]⟩ 0 [(Ty.mk 3 (aX L s1).text 0 l),y]) (by simp[bG,iB,j3,Aw]) f2 (by rw[rC];omega) (.mk _ _ _ _ (by simp[dF]) (by simp[hx,f4])) (.fx (oh L) (.deepx hd (.next (.bind r2 (.may_t hb (.bind r3 .pure))))))
     ·rw[may_f hb]
      exact bF.of 1 _ (JL s2) (Ty.mk 3 (aX L s1).text 0 l) (by simp) e2 (by rw[rC];omega) hx (.fx (oh L) (.deepx hd (.next (.bind r2 (.may_f hb .pure)))))
   ·simp only[decide_eq_false_iff_not] at h2
    obtain⟨x,s2,e1,e2,e3,hx,r1⟩:=Er hL ih s1 hs1 (by omega);have r2:Gr (fun m=>if(aX L s1).kind=2 then Av (ak (cu L m []) fun l=>aS (.mk 3 (aX L s1).text 0 l)) else fM L m) s1 s2 x:=.if_f h2 r1;simp[e1,bM hL];refine dO (fun hb=>?_) (fun hb=>?_)
    ·obtain⟨b1,b2⟩:=bY hb
     rw[may_t hb];obtain⟨y,s3,f1,f2,f3,f4,r3⟩:=ih s2.up b2 (by omega);simp only[Vu,bD,cZ,dG] at f1;simp[f1];exact bF.of 1 _ (JL s3) (.mk 3 ⟨#[45,62]⟩ 0 [x,y]) (by simp[bG,iB,j3,Aw]) f2 (by rw[rC];omega) (.mk _ _ _ _ (by simp[dF]) (by simp[hx,f4])) (.fx (oh L) (.deepx hd (.next (.bind r2 (.may_t hb (.bind r3 .pure))))))
    ·rw[may_f hb]
     exact bF.of 0 _ (JL s2) x (by simp) e2 (by rw[rC];omega) hx (.fx (oh L) (.deepx hd (.next (.bind r2 (.may_f hb .pure)))))
  ·simp[he]
   exact bF.of 0 _ s (EF 0 eB) (by simp[EF]) hs (by have:=HZ (L:=L) he;omega) (rU _ _) (.fault he rfl rfl)
theorem wG:∀n,lJ L n (Vu L) rP Ty.Ok (iQ L)
 |0=>fun s hs hm=>by
   have he:s.e≠0:=fun he=>by have:=bE (L:=L) he;omega
   refine⟨EF 0 eB,s,ax.of ?_,hs,by omega,rU _ _,.fault he rfl rfl⟩;rw[af8,ax.of (q:=acB (aW L) (iv s.a) (iv s.lv) (iv s.e) (iv s.w)) (r:=(0,eU L s [iv 0,sv eB,iv 0,.lit (.slice none 0 0)])) (by rw[al7];simp[he])];simp[gN,eU,EF]
 |n+1=>abI hL (wG n)
theorem zu(n:Nat):lJ L n (qAt L) rP Ty.Ok (fM L):=(Er hL (wG hL n)).mono (Nat.le_succ _)
end
inductive Pt.Ok:Pt→Prop where
 |mk (k:Int) (s:ByteArray) (n:Int) (ks:List Pt) (a:Int) (h:ks.length≤dF) (hk:∀t∈ks,Pt.Ok t):Pt.Ok (.mk k s n ks a)
abbrev aF:PV:=.lit (.slice none 0 0)
abbrev ES(t:Pt):List PV:=[iv t.kind,sv t.name,iv t.n,pts t.kids,iv t.at_]
section
variable(k:Int)(s:ByteArray)(n:Int)(l:List Pt)(a:Int)
@[simp] theorem ank:(Pt.mk k s n l a).kind=k:=rfl
@[simp] theorem anj:(Pt.mk k s n l a).name=s:=rfl
@[simp] theorem atp:(Pt.mk k s n l a).n=n:=rfl
@[simp] theorem anl:(Pt.mk k s n l a).kids=l:=rfl
@[simp] theorem aso:(Pt.mk k s n l a).at_=a:=rfl
end
@[simp] theorem ani:pts []=.rows []:=rfl
theorem G7(k:Int)(s:ByteArray)(n a:Int):(Pt.mk k s n [] a).Ok:=.mk _ _ _ _ _ (by simp[dF]) (fun t ht=>by cases ht)
theorem mD{β:Type}(d:β)(l:List Pt)(k:β):isK d aF (pts l) k=d:=pV d _ k
theorem agS:iY PG 127 5 64:=iY.of (by kernel_rfl)
abbrev qPt(L:List Tk)(s:St):Q:=XM (aW L) (iv s.a) (iv s.lv) (iv s.e) (iv s.w)
abbrev qAp(L:List Tk)(s:St):Q:=afY (aW L) (iv s.a) (iv s.lv) (iv s.e) (iv s.w)
abbrev apb(L:List Tk)(s:St):Q:=XE (aW L) (iv s.a) (iv s.lv) (iv s.e) (iv s.w)
def ApG(L:List Tk)(s:St)(r:aK):Prop:=∃(v:Pt) (kd:PV) (s':St),r=.ok (0,eU L s' [iv v.kind,sv v.name,iv v.n,kd,iv v.at_])∧(kd=aF∧v.kids=[]∨kd=pts v.kids)∧((aX L s).kind=2→kd=aF∧v.kids=[])∧s'.a≤L.length∧mu L s'≤mu L s-1∧v.Ok∧Gr (jQ L) s s' v
theorem ApG.up{L:List Tk}{s:St}(k:Int)(x:ByteArray)(n a:Int)(he:s.e=0)(hl:s.a<L.length)(hr:Gr (jQ L) s s.up (.mk k x n [] a)):ApG L s (.ok (0,aW L::iv s.up.a::iv s.lv::iv s.e::iv s.w::[iv k,sv x,iv n,aF,iv a])):=
 ⟨.mk k x n [] a,aF,s.up,by show _=aK.ok (0,aW L::iv s.up.a::iv s.up.lv::iv s.up.e::iv s.up.w::_);rw[bD,cZ,dG];rfl,.inl ⟨rfl,rfl⟩,fun _=>⟨rfl,rfl⟩,by rw[nJ];exact hl,uT he hl,G7 _ _ _ _,hr⟩
section
variable{L:List Tk}(hL:L.length≤1000000)
include hL
theorem ajd{n:Nat}(ih:lJ L n (qPt L) ES Pt.Ok (nZ L))(s:St)(hs:s.a≤L.length)(hm:mu L s≤n+1):ApG L s (body PG EE TT ev (qAp L s)):=by
 rw[amb];simp[fu,Tk.cells];refine dO (fun h2=>?_) (fun h2=>dO (fun h1=>?_) (fun h1=>dO (fun h3=>?_) (fun h3=>?_)))
 ·simp only[decide_eq_true_eq] at h2
  obtain⟨he,hl⟩:=dI (L:=L) (s:=s) (by omega);simp only[wC hl hL];exact .up 3 _ 0 _ he hl (.fx (jQ.eq_2 L) (.next (.if_t h2 (.up he .pure))))
 ·simp only[decide_eq_true_eq,decide_eq_false_iff_not] at h1 h2
  obtain⟨he,hl⟩:=dI (L:=L) (s:=s) (by omega);simp only[wC hl hL];exact .up 2 _ 0 _ he hl (.fx (jQ.eq_2 L) (.next (.if_f h2 (.if_t h1 (.up he .pure)))))
 ·simp only[decide_eq_true_eq,decide_eq_false_iff_not] at h1 h2 h3
  obtain⟨he,hl⟩:=dI (L:=L) (s:=s) (by omega);simp only[wC hl hL];exact .up 4 eB _ _ he hl (.fx (jQ.eq_2 L) (.next (.if_f h2 (.if_f h1 (.if_t h3 (.up he .pure))))))
 ·simp only[decide_eq_false_iff_not] at h1 h2 h3
  simp[ap4];refine dO (fun hu=>?_) (fun hu=>?_)
  ·obtain⟨he,hl⟩:=iy hu
   simp only[wC hl hL];exact .up 1 eB 0 _ he hl (.fx (jQ.eq_2 L) (.next (.if_f h2 (.if_f h1 (.if_f h3 (.may_t hu .pure))))))
  ·have t1:=aQ (L:=L) (k:=7) (x:=⟨#[40]⟩) (by decide) s
   have t2:=bC (k:=7) (x:=⟨#[40]⟩) (by decide) hs;simp[aR hL (k:=7) (by decide),bM hL,Tk.cells];generalize ht:au L 7 ⟨#[40]⟩ s=s1 at *;have hl1:s1.lv=s.lv:=by rw[←ht];exact aU _ _ s
   simp only[←hl1];refine dO (fun hb=>?_) (fun hb=>?_)
   ·obtain⟨m1,m2⟩:=bY hb
    have hp:=bE (L:=L) (iy hb).1;rw[may_t hb];refine⟨.mk 3 ⟨#[85,110,105,116]⟩ 0 [] (aX L s).at_,aF,s1.up,by simp[bD,cZ,dG],.inl ⟨rfl,rfl⟩,fun _=>⟨rfl,rfl⟩,m2,by omega,G7 _ _ _ _,.fx (jQ.eq_2 L) (.next (.if_f h2 (.if_f h1 (.if_f h3 (.may_f hu (.bind (.takex ht rfl) (.may_t hb .pure)))))))⟩
   ·rw[may_f hb]
    obtain⟨v,s2,e1,e2,e3,e4,r1⟩:=ih s1 t2 (by omega);have t3:=aQ (L:=L) (k:=7) (x:=⟨#[41]⟩) (by decide) s2;have t4:=bC (k:=7) (x:=⟨#[41]⟩) (by decide) e2;simp[e1,aR hL (k:=7) (by decide),Tk.cells];exact⟨v,pts v.kids,au L 7 ⟨#[41]⟩ s2,by rw[←aU (L:=L) 7 ⟨#[41]⟩ s2],.inr rfl,fun h=>absurd h h2,t4,by omega,e4,.fx (jQ.eq_2 L) (.next (.if_f h2 (.if_f h1 (.if_f h3 (.may_f hu (.bind (.takex ht rfl) (.may_f hb (.bind r1 (.bind (.take _ _ _) .pure)))))))))⟩
theorem JB{n:Nat}(ih:lJ L n (qPt L) ES Pt.Ok (nZ L))(s:St)(hs:s.a≤L.length)(hm:mu L s≤n+1):∃(v:Pt) (kd:PV) (s':St),ev (qAp L s)=some (0,eU L s' [iv v.kind,sv v.name,iv v.n,kd,iv v.at_])∧ev (apb L s)=some (0,eU L s' (ES v))∧
  (kd=aF∧v.kids=[]∨kd=pts v.kids)∧((aX L s).kind=2→kd=aF∧v.kids=[])∧s'.a≤L.length∧mu L s'≤mu L s-1∧v.Ok∧Gr (jQ L) s s' v:=by
 obtain⟨v,kd,s',h1,h2,h3⟩:=ajd hL ih s hs hm;have e:ev (qAp L s)=some (0,eU L s' [iv v.kind,sv v.name,iv v.n,kd,iv v.at_]):=ax.of h1;refine⟨v,kd,s',e,ax.of ?_,h2,h3⟩;rw[ait];show weakD (ev (qAp L s))=_;rw[e];rcases h2 with⟨rfl,hk⟩|rfl
 ·simp[gN,eU,hk]
 ·simp[gN,eU]
theorem apy{n:Nat}(ih:lJ L n (qPt L) ES Pt.Ok (nZ L))(k:Int)(nm:ByteArray)(z a:Int):∀(m:Nat) (s:St) (es:List (List PV)) (l:List Pt),Raw 5 es (l.map Pt.cells)→mu L s≤m→m≤n+1→s.a≤L.length→l.length+m≤2000000→∃s' es' l',
  ev (Ky (aW L) (iv s.a) (iv s.lv) (iv s.e) (iv s.w) (iv k) (sv nm) (iv z) es (iv a))=some (1,eU L s' [iv k,sv nm,iv z,.rows es',iv a,iv 0,sv eB,iv 0,aF,iv 0])∧Raw 5 es' ((l++l').map Pt.cells)∧
  s'.a≤L.length∧mu L s'≤mu L s∧(∀t∈l',t.Ok)∧l'.length≤mu L s-mu L s'∧Gr (fun m=>jr L m l) s s' (l++l'):=by
 intro m
 induction m with
 |zero=>
  intro s es l hr hm hn hs hl;obtain⟨b,h1,h2,h3⟩:=iI (L:=L) (k:=1) (.inr (.inl rfl)) s;cases b with
  |true=>have:=bE (L:=L) (h2 rfl).1;omega
  |false=>exact⟨s,es,[],ax.of (by rw[Dx];simp[h1]),by simpa using hr,hs,Nat.le_refl _,(fun t ht=>by cases ht),by simp,(Gr.fx (jr.eq_2 L l) (.st_f (h3 rfl) .pure)).eq (by simp)⟩
 |succ m ihm=>
  intro s es l hr hm hn hs hl;obtain⟨b,h1,h2,h3⟩:=iI (L:=L) (k:=1) (.inr (.inl rfl)) s;cases b with
  |false=>exact⟨s,es,[],ax.of (by rw[Dx];simp[h1]),by simpa using hr,hs,Nat.le_refl _,(fun t ht=>by cases ht),by simp,(Gr.fx (jr.eq_2 L l) (.st_f (h3 rfl) .pure)).eq (by simp)⟩
  |true=>
   have hp:=bE (L:=L) (h2 rfl).1;obtain⟨v,kd,s1,e1,e1w,hk,_,e2,e3,e4,r1⟩:=JB hL ih s hs (by omega);have hln:=hr.len;rw[List.length_map] at hln;have hns:NS kd:=by rcases hk with⟨rfl,_⟩|rfl<;>simp
   have hw:dD [iv v.kind,sv v.name,iv v.n,kd,iv v.at_]=v.cells:=by
    rw[Pt.cells_eq];rcases hk with⟨rfl,hk⟩|rfl
    ·simp[hk]
    ·simp
   have hr':=hr.app hw rfl (by simp[hns]);have ha:=fun k'=>aN (P:=PG) (d:=.fail) (k:=k') agS hr (c:=[iv v.kind,sv v.name,iv v.n,kd,iv v.at_]) rfl (by simp[hns]) (by omega) (by decide)
   have hr2:Raw 5 (es++[[iv v.kind,sv v.name,iv v.n,kd,iv v.at_]]) ((l++[v]).map Pt.cells):=by simpa using hr'
   obtain⟨s2,es',l',g1,g2,g3,g4,g5,g6,r2⟩:=ihm s1 _ (l++[v]) hr2 (by omega) (by omega) e2 (by simp;omega);refine⟨s2,es',v::l',ax.of ?_,by simpa using g2,g3,by omega,?_,by simp;omega,(Gr.fx (jr.eq_2 L l) (.st_t (h2 rfl).2.2 (.bind r1 r2))).eq (by simp)⟩
   ·rw[Dx]
    rcases hk with⟨rfl,hk⟩|rfl
    ·simp[h1,e1,ha,g1]
    ·simp[h1,e1,e1w,mD,ha,g1]
   ·intro t ht
    rcases List.mem_cons.1 ht with rfl|ht
    ·exact e4
    ·exact g5 t ht
theorem apz{n:Nat}(ih:lJ L n (qPt L) ES Pt.Ok (nZ L))(k:Int)(nm:ByteArray)(z a:Int)(s:St)(hm:mu L s≤n+1)(hs:s.a≤L.length):∃s' es' l',
  ((l'=[]∧ev (Ck (aW L) (iv s.a) (iv s.lv) (iv s.e) (iv s.w) (iv k) (sv nm) (iv z) (iv a))=some (0,eU L s' [iv k,sv nm,iv z,aF,iv a,iv 0,sv eB,iv 0,aF,iv 0]))∨
   (Raw 5 es' (l'.map Pt.cells)∧ev (Ck (aW L) (iv s.a) (iv s.lv) (iv s.e) (iv s.w) (iv k) (sv nm) (iv z) (iv a))=some (1,eU L s' [iv k,sv nm,iv z,.rows es',iv a,iv 0,sv eB,iv 0,aF,iv 0])))∧
  s'.a≤L.length∧mu L s'≤mu L s∧(∀t∈l',t.Ok)∧l'.length≤mu L s-mu L s'∧Gr (fun m=>jr L m []) s s' l':=by
 obtain⟨b,h1,h2,h3⟩:=iI (L:=L) (k:=1) (.inr (.inl rfl)) s;cases b with
 |false=>exact⟨s,[],[],.inl ⟨rfl,ax.of (by rw[Ls];simp[h1])⟩,hs,Nat.le_refl _,(fun t ht=>by cases ht),by simp,.fx (jr.eq_2 L []) (.st_f (h3 rfl) .pure)⟩
 |true=>
  have hp:=bE (L:=L) (h2 rfl).1;obtain⟨v,kd,s1,e1,e1w,hk,_,e2,e3,e4,r1⟩:=JB hL ih s hs (by omega);have hml:=kV L s1;have hns:NS kd:=by rcases hk with⟨rfl,_⟩|rfl<;>simp
  have hw:dD [iv v.kind,sv v.name,iv v.n,kd,iv v.at_]=v.cells:=by
   rw[Pt.cells_eq];rcases hk with⟨rfl,hk⟩|rfl
   ·simp[hk]
   ·simp
  have hr:Raw 5 [[iv v.kind,sv v.name,iv v.n,kd,iv v.at_]] ([v].map Pt.cells):=.one hw rfl (by simp[hns]);obtain⟨s2,es',l',g1,g2,g3,g4,g5,g6,r2⟩:=apy hL ih k nm z a (mu L s1) s1 _ [v] hr (Nat.le_refl _) (by omega) e2 (by simp;omega);refine⟨s2,es',v::l',.inr ⟨by simpa using g2,ax.of ?_⟩,g3,by omega,?_,by simp;omega,.fx (jr.eq_2 L []) (.st_t (h2 rfl).2.2 (.bind r1 r2))⟩
  ·rw[Ls]
   rcases hk with⟨rfl,hk⟩|rfl
   ·simp[h1,e1,g1]
   ·simp[h1,e1,e1w,mD,g1]
  ·intro t ht
   rcases List.mem_cons.1 ht with rfl|ht
   ·exact e4
   ·exact g5 t ht
theorem ahU{n:Nat}(ih:lJ L n (qPt L) ES Pt.Ok (nZ L)):lJ L (n+1) (qPt L) ES Pt.Ok (nZ L):=
 lJ.weak (q:=fun s=>RO (aW L) (iv s.a) (iv s.lv) (iv s.e) (iv s.w)) (fun s=>aaj ev _ _ _ _ _) fun s hs hm=>by
  show bF L s ES Pt.Ok _ (body PG EE TT ev (RO (aW L) (iv s.a) (iv s.lv) (iv s.e) (iv s.w)));rw[af9];by_cases he:s.e=0
  ·have hp:=bE (L:=L) he
   have d1:=Je (L:=L) s;have d2:=Eg (L:=L) s;simp[eq_true he,Ox,fu,Tk.cells];generalize hd:gQ L s=s1 at *;have hs1:s1.a≤L.length:=by omega
   simp only[←d2];obtain⟨v,kd,s2,e1,e1w,hk,hk2,e2,e3,e4,r1⟩:=JB hL ih s1 hs1 (by omega);refine dO (fun h2=>?_) (fun h2=>?_)
   ·simp only[decide_eq_true_eq] at h2
    obtain⟨rfl,hkd⟩:=hk2 h2;obtain⟨s3,es,l,hc,g1,g2,g3,g4,r2⟩:=apz hL ih v.kind v.name v.n v.at_ s2 (by omega) e2;have hml:=kV L s2;have hx:(Pt.mk v.kind v.name v.n l v.at_).Ok:=.mk _ _ _ _ _ (by unfold dF;omega) g3;have hg:Gr (nZ L) s (JL s3) (Pt.mk v.kind v.name v.n l v.at_):=.fx (nZ.eq_2 L) (.deepx hd (.next (.bind r1 (.if_t h2 (.bind r2 .pure)))));rcases hc with⟨rfl,hc⟩|⟨hr,hc⟩
    ·simp[e1,e1w,hc,mD]
     exact bF.of 0 _ (JL s3) _ (by simp) g1 (by rw[rC];omega) hx hg
    ·simp[e1,e1w,hc,mD]
     exact bF.of 1 _ (JL s3) _ (by simp[hr.wd];rfl) g1 (by rw[rC];omega) hx hg
   ·simp only[decide_eq_false_iff_not] at h2
    have hg:Gr (nZ L) s (JL s2) v:=.fx (nZ.eq_2 L) (.deepx hd (.next (.bind r1 (.if_f h2 .pure))));rcases hk with⟨rfl,hk⟩|rfl
    ·have hc:ev (KC (aW L) (iv s2.a) (iv s2.lv) (iv s2.e) (iv s2.w) (iv v.kind) (sv v.name) (iv v.n) (iv v.at_))=some (0,eU L s2 [iv v.kind,sv v.name,iv v.n,aF,iv v.at_,iv 0,sv eB,iv 0,aF,iv 0]):=ax.of (by rw[aal];rfl)
     simp[e1,hc];exact bF.of 0 _ (JL s2) v (by simp[hk]) e2 (by rw[rC];omega) e4 hg
    ·have hc:ev (KA (aW L) (iv s2.a) (iv s2.lv) (iv s2.e) (iv s2.w) (iv v.kind) (sv v.name) (iv v.n) (pts v.kids) (iv v.at_))=some (0,eU L s2 [iv v.kind,sv v.name,iv v.n,pts v.kids,iv v.at_,iv 0,sv eB,iv 0,aF,iv 0]):=ax.of (by rw[aak];rfl)
     simp[e1,e1w,hc,mD];exact bF.of 0 _ (JL s2) v (by simp) e2 (by rw[rC];omega) e4 hg
  ·simp[he]
   exact bF.of 0 _ s (.mk 0 eB 0 [] 0) (by simp) hs (by have:=HZ (L:=L) he;omega) (G7 _ _ _ _) (.fault he rfl rfl)
theorem He:∀n,lJ L n (qPt L) ES Pt.Ok (nZ L)
 |0=>fun s hs hm=>by
   have he:s.e≠0:=fun he=>by have:=bE (L:=L) he;omega
   refine⟨.mk 0 eB 0 [] 0,s,ax.of ?_,hs,by omega,G7 _ _ _ _,.fault he rfl rfl⟩;rw[aaj,ax.of (q:=RO (aW L) (iv s.a) (iv s.lv) (iv s.e) (iv s.w)) (r:=(0,eU L s [iv 0,sv eB,iv 0,aF,iv 0])) (by rw[af9];simp[he])];simp[gN,eU]
 |n+1=>ahU hL (He n)
end
set_option maxRecDepth 10000
theorem mZ{i n:Nat}(h:i<n)(hn:n≤100000000):IntKind.i64.wrap ((i:Int)+1)=((i+1:Nat):Int):=by
 rw[aJ (by omega)];rfl
def sH:List (List ByteArray):=[[⟨#[58,61]⟩],[⟨#[124,124]⟩],[⟨#[38,38]⟩],[⟨#[61,61]⟩,⟨#[47,61]⟩,⟨#[60]⟩,⟨#[60,61]⟩,⟨#[62]⟩,⟨#[62,61]⟩],[⟨#[58,58]⟩,⟨#[94]⟩],[⟨#[43]⟩,⟨#[45]⟩],[⟨#[42]⟩,⟨#[47]⟩,⟨#[37]⟩]]
def lvR:List (List PV):=sH.map fun l=>[strs l]
theorem afr:iY Tryz.prog 187 1 24:=iY.of (by kernel_rfl)
section
variable{β:Type}{d:β}{k:AV→β}
theorem A8:gm Tryz.prog d 187 (.pv (.rows lvR)) k=k (.pv (iv 7)):=eO (fun _=>by rw[iL afr];rfl) (bq _)
theorem A9{i:Nat}{l:List ByteArray}(h:sH[i]? = some l):fB Tryz.prog d 187 (.pv (.rows lvR)) (.pv (.lit (.int .i64 (i:Int)))) k=k (.cptr [strs l]):=
 gW (fun _=>jG afr (by unfold lvR;rw[List.getElem?_map,h];rfl) rfl) (nP (by simp[fV,iH]))
end
theorem acX{i:Nat}{l:List ByteArray}(h:sH[i]? = some l):l.length≤6:=by
 have hm:=List.mem_of_getElem? h;simp only[sH,List.mem_cons,List.not_mem_nil,or_false] at hm;rcases hm with rfl|rfl|rfl|rfl|rfl|rfl|rfl<;>decide
def xJ(x:ByteArray):List ByteArray→Bool
 |[]=>false
 |y::l=>decide (x=y)||xJ x l
def Kk(x:ByteArray):List (List ByteArray)→Nat→Option Nat
 |[],_=>none
 |l::r,i=>if xJ x l=true then some (i+1) else Kk x r (i+1)
theorem WM(x:ByteArray):(Kk x sH 0).getD 8=jl x:=by
 unfold jl;simp only[Kk,sH,xJ,Bool.or_false,Bool.or_eq_true,decide_eq_true_eq]
 repeat' (split<;>try rfl)
theorem l5(x:ByteArray):ev (akX (sv x))=some (0,[iv (jl x:Nat)]):=by
 have inner:∀(i:Nat) (l:List ByteArray),sH[i]? = some l→∀(n k:Nat),l.length-k≤n→k≤l.length→ev (RP (iv k) lvR (iv i) (sv x))=some (if xJ x (l.drop k)=true then(0,[iv ((i+1:Nat):Int),.rows lvR]) else(1,[iv i,.rows lvR,sv x])):=by
  intro i l hl n;have h6:=acX hl;have hi:i<7:=by
   by_cases h:i<7
   ·exact h
   ·rw[List.getElem?_eq_none (by simp[sH];omega)] at hl;cases hl
  induction n with
  |zero=>
   intro k h1 h2;have hk:l.length=k:=by omega
   have hdr:l.drop k=[]:=List.drop_eq_nil_of_le (by omega);rw[hdr];refine ax.of ?_;rw[IX];simp[A9 hl,hk,xJ]
  |succ n ih=>
   intro k h1 h2;by_cases hlt:k<l.length
   ·have he:=List.getElem?_eq_getElem hlt
    have hh:xJ x (l.drop k)=(decide (x=l[k])||xJ x (l.drop (k+1))):=by rw[List.drop_eq_getElem_cons hlt];rfl
    rw[hh];refine ax.of ?_;rw[IX];by_cases hx:l[k]=x
    ·simp[A9 hl,cK he,hlt,hx,mZ hi (by decide)]
    ·have hx2:¬x=l[k]:=fun e=>hx e.symm
     have:=ih (k+1) (by omega) hlt;simp only[Int.natCast_add,Int.natCast_one] at this;simp[A9 hl,cK he,hlt,hx,mZ hlt (by omega),this,hx2]
   ·have hk:l.length=k:=by omega
    have hdr:l.drop k=[]:=List.drop_eq_nil_of_le (by omega);rw[hdr];refine ax.of ?_;rw[IX];simp[A9 hl,hk,xJ]
 have outer:∀(n i:Nat),7-i≤n→i≤7→ev (RQ (iv i) lvR (sv x))=some (match Kk x (sH.drop i) i with|some y=>(0,[iv (y:Nat),.rows lvR])|none=>(1,[.rows lvR])):=by
  intro n
  induction n with
  |zero=>
   intro i h1 h2;have hi:i=7:=by omega
   subst hi;refine ax.of ?_;rw[IY];simp[A8,sH,Kk]
  |succ n ih=>
   intro i h1 h2;by_cases hlt:i<7
   ·have hlt7:i<sH.length:=hlt
    obtain⟨lr,he,hd⟩:∃lr,sH[i]? = some lr∧sH.drop i=lr::sH.drop (i+1):=⟨sH[i]'hlt7,List.getElem?_eq_getElem hlt7,List.drop_eq_getElem_cons hlt7⟩;have hlt':(i:Int)<7:=by omega
    have h1':=inner i _ he _ 0 (Nat.le_refl _) (Nat.zero_le _);simp only[List.drop_zero] at h1';rw[hd,Kk];refine ax.of ?_;rw[IY];by_cases hx:xJ x lr=true
    ·rw[if_pos hx] at h1' ⊢
     simp at h1';simp[A8,hlt',h1']
    ·rw[if_neg hx] at h1' ⊢
     have:=ih (i+1) (by omega) (by omega);simp only[Int.natCast_add,Int.natCast_one] at this;simp at h1';simp[A8,hlt',h1',mZ hlt (by decide),this]
   ·have hi:i=7:=by omega
    subst hi;refine ax.of ?_;rw[IY];simp[A8,sH,Kk]
 have h1:=outer _ 0 (Nat.le_refl _) (by omega);have hr2:lvR=[[.rows [[sv ⟨#[58,61]⟩]]],[.rows [[sv ⟨#[124,124]⟩]]],[.rows [[sv ⟨#[38,38]⟩]]],[.rows [[sv ⟨#[61,61]⟩],[sv ⟨#[47,61]⟩],[sv ⟨#[60]⟩],[sv ⟨#[60,61]⟩],[sv ⟨#[62]⟩],[sv ⟨#[62,61]⟩]]],[.rows [[sv ⟨#[58,58]⟩],[sv ⟨#[94]⟩]]],[.rows [[sv ⟨#[43]⟩],[sv ⟨#[45]⟩]]],[.rows [[sv ⟨#[42]⟩],[sv ⟨#[47]⟩],[sv ⟨#[37]⟩]]]]:=rfl;rw[List.drop_zero,hr2] at h1;have h8:=WM x;refine ax.of ?_;rw[aqT];cases hr:Kk x sH 0 with
 |some y=>
  rw[hr] at h1 h8;simp at h1 h8;simp[h1,h8]
 |none=>
  rw[hr] at h1 h8;simp at h1 h8;simp[h1,←h8]
theorem Wu(k:Nat):ev (akW (iv k))=some (0,[iv (bO k:Nat)]):=by
 refine ax.of ?_;rw[aqS];unfold bO;by_cases h1:k=4
 ·subst h1;simp
 ·have h1':¬(k:Int)=4:=by omega
  by_cases h2:k<6
  ·have h2':(k:Int)<6:=by omega
   simp[h1,h1',h2,h2']
  ·have h2':¬(k:Int)<6:=by omega
   simp[h1,h1',h2,h2']
def bZ(l:List ByteArray)(i:Nat):Nat:=jl ((l[i]?).getD eB)
def pY(V:Nat→Nat):Nat→Int
 |0=>-1
 |i+1=>if 4<V i then pY V i else i
theorem LQ(V:Nat→Nat):∀i:Nat,-1≤pY V i∧pY V i<i
 |0=>by simp[pY]
 |i+1=>by
  have:=LQ V i;rw[pY];split<;>omega
theorem Ml(V:Nat→Nat):∀i:Nat,vW V i=decide (0≤pY V i∧V (pY V i).toNat=4)
 |0=>by simp[vW,pY]
 |i+1=>by
  rw[vW,pY];by_cases h:4<V i
  ·rw[if_pos h,if_pos h];exact Ml V i
  ·rw[if_neg h,if_neg h];simp
theorem L6(l:List ByteArray)(k:Nat)(hl:l.length≤10000000):∀i:Nat,i≤l.length→ev (Xa (iv ((i:Int)-1)) (strs l) (iv k))=some (0,[iv (pY (bZ l) i),strs l,iv k])
 |0,_=>ax.of (by rw[Zr];simp[pY])
 |i+1,hi=>by
  have hn:i<l.length:=by omega
  have he:=List.getElem?_eq_getElem hn;have ih:=L6 l k hl i (by omega);have hc:((i+1:Nat):Int)-1=(i:Int):=by omega
  have hV:bZ l i=jl l[i]:=by unfold bZ;rw[he];rfl
  refine ax.of ?_;rw[hc,Zr,pY,hV];have hw:IntKind.i64.wrap ((i:Int)-1)=(i:Int)-1:=aJ (by omega);by_cases hg:4<jl l[i]
  ·have hg':(4:Int)<(jl l[i]:Nat):=by omega
   simp[cK he,l5,hg,hg',hw,ih]
  ·have hg':¬(4:Int)<(jl l[i]:Nat):=by omega
   simp[cK he,l5,hg,hg',hw]
def clI(V:Nat→Nat)(n:Nat):Int:=match iE V n n 0 with
 |some k=>k
 |none=>-1
theorem TM(l:List ByteArray)(hl:l.length≤10000000):ev (q89 (strs l))=some (0,[iv (clI (bZ l) l.length)]):=by
 have outer:∀(n i:Nat),l.length-i≤n→i≤l.length→ev (Xb (iv i) (strs l))=some (match iE (bZ l) l.length n i with|some k=>(0,[iv (k:Nat)])|none=>(1,[])):=by
  intro n
  induction n with
  |zero=>
   intro i h1 h2;have:¬i<l.length:=by omega
   exact ax.of (by rw[Oa,iE];simp[this])
  |succ n ih=>
   intro i h1 h2;by_cases hlt:i<l.length
   ·have he:=List.getElem?_eq_getElem hlt
    have hV:bZ l i=jl l[i]:=by unfold bZ;rw[he];rfl
    have hin:=L6 l i hl i (by omega);have hdl:=LQ (bZ l) i;have hb:=Ml (bZ l) i;have hn:=ih (i+1) (by omega) (by omega);simp only[Int.natCast_add,Int.natCast_one] at hn;have hw:IntKind.i64.wrap ((i:Int)-1)=(i:Int)-1:=aJ (by omega);refine ax.of ?_;rw[Oa,iE,if_pos hlt,hV];by_cases h4:jl l[i]=4
    ·have h4':((jl l[i]:Nat):Int)=4:=by omega
     by_cases hj0:0≤pY (bZ l) i
     ·obtain⟨j,hj⟩:=Int.eq_ofNat_of_zero_le hj0
      rw[hj] at hin hb hdl;have hjl:j<l.length:=by omega
      have he2:=List.getElem?_eq_getElem hjl;have hV2:bZ l j=jl l[j]:=by unfold bZ;rw[he2];rfl
      simp only[Int.toNat_natCast,hV2] at hb;by_cases h5:jl l[j]=4
      ·have h5':((jl l[j]:Nat):Int)=4:=by omega
       have hbt:vW (bZ l) i=true:=by rw[hb];simp[h5]
       simp[cK he,hlt,l5,h4,h4',hw,hin,cK he2,h5,h5',hbt]
      ·have h5':¬((jl l[j]:Nat):Int)=4:=by omega
       have hbt:vW (bZ l) i=false:=by rw[hb];simp[h5]
       simp[cK he,hlt,l5,h4,h4',hw,hin,cK he2,h5,h5',hbt,mZ hlt (by omega),hn]
     ·have hbt:vW (bZ l) i=false:=by rw[hb];simp[hj0]
      simp[cK he,hlt,l5,h4,h4',hw,hin,hj0,hbt,mZ hlt (by omega),hn]
    ·have h4':¬((jl l[i]:Nat):Int)=4:=by omega
     simp[cK he,hlt,l5,h4,h4',mZ hlt (by omega),hn]
   ·exact ax.of (by rw[Oa,iE];simp[hlt])
 have h1:=outer l.length 0 (by omega) (Nat.zero_le _);simp only[Int.natCast_zero] at h1;refine ax.of ?_;rw[h89];unfold clI;cases hr:iE (bZ l) l.length l.length 0 with
 |some k=>rw[hr] at h1;simp[h1]
 |none=>rw[hr] at h1;simp[h1]
abbrev eD(e:Ex):List PV:=[iv e.kind,sv e.name,iv e.n,iv e.t.kind,sv e.t.name,iv e.t.n,bH e.t.kids,exs e.kids,dY e.alts,bn e.binds,iv e.at_]
theorem Raw.ns'{sz:Nat}{es cs:List (List PV)}(h:Raw sz es cs):NS (.rows es):=.rows _ h.ns
theorem oo(l:List Ex):Raw 11 (l.map Ex.cells) (l.map Ex.cells):=.of l Ex.wd (fun x=>by rw[Ex.cells_eq];rfl) (fun x=>by rw[Ex.cells_eq];simp)
theorem Gu(l:List Al):Raw 16 (l.map Al.cells) (l.map Al.cells):=.of l Al.wd (fun x=>by rw[Al.cells_eq];rfl) (fun x=>by rw[Al.cells_eq];simp)
theorem kR(l:List Bd):Raw 13 (l.map Bd.cells) (l.map Bd.cells):=.of l Bd.wd (fun x=>by rw[Bd.cells_eq];rfl) (fun x=>by rw[Bd.cells_eq];simp)
section
variable(k:Int)(s:ByteArray)(n:Int)(t:Ty)(ks:List Ex)(al:List Al)(bs:List Bd)(a:Int)
@[simp] theorem anH:(Ex.mk k s n t ks al bs a).kind=k:=rfl
@[simp] theorem anG:(Ex.mk k s n t ks al bs a).name=s:=rfl
@[simp] theorem auy:(Ex.mk k s n t ks al bs a).n=n:=rfl
@[simp] theorem auw:(Ex.mk k s n t ks al bs a).t=t:=rfl
@[simp] theorem anI:(Ex.mk k s n t ks al bs a).kids=ks:=rfl
@[simp] theorem anJ:(Ex.mk k s n t ks al bs a).alts=al:=rfl
@[simp] theorem aml:(Ex.mk k s n t ks al bs a).binds=bs:=rfl
@[simp] theorem asJ:(Ex.mk k s n t ks al bs a).at_=a:=rfl
@[simp] theorem anU:(iK k s n ks a).kind=k:=rfl
@[simp] theorem anT:(iK k s n ks a).name=s:=rfl
@[simp] theorem auB:(iK k s n ks a).n=n:=rfl
@[simp] theorem auA:(iK k s n ks a).t=ML:=rfl
@[simp] theorem anV:(iK k s n ks a).kids=ks:=rfl
@[simp] theorem anW:(iK k s n ks a).alts=[]:=rfl
@[simp] theorem amt:(iK k s n ks a).binds=[]:=rfl
@[simp] theorem asR:(iK k s n ks a).at_=a:=rfl
end
@[simp] theorem am4:ML.kind=0:=rfl
@[simp] theorem am3:ML.name=eB:=rfl
@[simp] theorem as8:ML.n=0:=rfl
@[simp] theorem am5:ML.kids=[]:=rfl
@[simp] theorem anF:exs []=.rows []:=rfl
@[simp] theorem an9:dY []=.rows []:=rfl
@[simp] theorem an6:bn []=.rows []:=rfl
theorem eP(x:Ex):exs [x]=.rows [eD x]:=by simp[exs,Ex.cells_eq]
theorem FU(x y z:Ex):exs [x,y,z]=.rows [eD x,eD y,eD z]:=by simp[exs,Ex.cells_eq]
theorem lH(c:List PV):fo [c]=[dD c]:=by rw[iB,j3]
theorem ajy(c d:List PV):fo [c,d]=[dD c,dD d]:=by rw[iB,lH]
theorem ajx(c d e:List PV):fo [c,d,e]=[dD c,dD d,dD e]:=by rw[iB,ajy]
theorem xq{ops:List Tk}{i:Nat}(h:i<ops.length):ops[i]? = some (opAt ops i):=by unfold opAt;rw[List.getElem?_eq_getElem h];rfl
theorem aau{l:List Ex}{i:Nat}(h:i<l.length):l[i]? = some (uK l i):=by unfold uK;rw[List.getElem?_eq_getElem h];rfl
theorem Lg(V:Nat→Nat)(to:Nat):∀(n i a:Nat),a<to→jw V to n i a<to
 |0,i,a,h=>h
 |n+1,i,a,h=>by
  rw[jw];by_cases hi:i<to
  ·rw[if_pos hi]
   refine Lg V to n _ _ ?_;split<;>assumption
  ·rw[if_neg hi];exact h
theorem Lh(V:Nat→Nat)(to f:Nat):∀(n i a:Nat),f≤a→f≤i→f≤jw V to n i a
 |0,i,a,h,_=>h
 |n+1,i,a,h,hi=>by
  rw[jw];split
  ·refine Lh V to f n _ _ ?_ (by omega)
   split<;>assumption
  ·exact h
theorem En(ops:List Tk)(hl:ops.length≤10000000)(x:PV)(f to:Nat)(hto:to≤ops.length):∀(n i a:Nat),to-i≤n→a<to→i≤to→ev (W9 (iv i) (iv to) (aW ops) (iv a) x (iv f))=some (0,[iv 0,sv eB,iv 0,iv 0,sv eB,iv 0,nS,nS,nS,nS,iv 0,x,aW ops,iv f,iv (jw (Au ops) to n i a:Nat),iv to])
 |0,i,a,h1,h2,h3=>by
  have:¬i<to:=by omega
  exact ax.of (by rw[N8,jw];simp[this])
 |n+1,i,a,h1,h2,h3=>by
  by_cases hi:i<to
  ·have ha:=xq (ops:=ops) (i:=a) (by omega)
   have hb:=xq (ops:=ops) (i:=i) (by omega);have hw:=mZ hi (by omega);have r1:=En ops hl x f to hto n (i+1) i (by omega) hi (by omega);have r2:=En ops hl x f to hto n (i+1) a (by omega) h2 (by omega);simp only[Int.natCast_add,Int.natCast_one] at r1 r2;refine ax.of ?_;rw[N8,jw,if_pos hi];unfold Au at r1 r2 ⊢;by_cases c1:jl (opAt ops i).text<jl (opAt ops a).text
   ·have c1':((jl (opAt ops i).text:Nat):Int)<(jl (opAt ops a).text:Nat):=by omega
    simp[hi,dV ha,dV hb,l5,c1,c1',hw,r1]
   ·have c1':¬((jl (opAt ops i).text:Nat):Int)<(jl (opAt ops a).text:Nat):=by omega
    by_cases c2:jl (opAt ops i).text=jl (opAt ops a).text
    ·by_cases c3:bO (jl (opAt ops a).text)=1
     ·have c3':((bO (jl (opAt ops a).text):Nat):Int)=1:=by omega
      simp[hi,dV ha,dV hb,l5,Wu,c1,c1',c2,c3,c3',hw,r1]
     ·have c3':¬((bO (jl (opAt ops a).text):Nat):Int)=1:=by omega
      simp[hi,dV ha,dV hb,l5,Wu,c1,c1',c2,c3,c3',hw,r2]
    ·have c2':¬((jl (opAt ops i).text:Nat):Int)=(jl (opAt ops a).text:Nat):=by omega
     simp[hi,dV ha,dV hb,l5,c1,c1',c2,c2',hw,r2]
  ·exact ax.of (by rw[N8,jw];simp[hi])
def EM(e:Ex)(ys:List PV):Prop:=∃A B C D,ys=[iv e.kind,sv e.name,iv e.n,iv e.t.kind,sv e.t.name,iv e.t.n,.rows A,.rows B,.rows C,.rows D,iv e.at_]∧Raw 4 A (e.t.kids.map Ty.cells)∧Raw 11 B (e.kids.map Ex.cells)∧Raw 16 C (e.alts.map Al.cells)∧Raw 13 D (e.binds.map Bd.cells)
theorem EM.wd{e:Ex}{ys:List PV}(h:EM e ys):dD ys=eD e:=by
 obtain⟨A,B,C,D,rfl,h1,h2,h3,h4⟩:=h;simp[h1.wd,h2.wd,h3.wd,h4.wd];exact⟨rfl,rfl,rfl,rfl⟩
theorem EM.ns{e:Ex}{ys:List PV}(h:EM e ys):kH ys:=by
 obtain⟨A,B,C,D,rfl,h1,h2,h3,h4⟩:=h;simp[h1.ns',h2.ns',h3.ns',h4.ns']
theorem EM.plain(e:Ex):EM e (eD e):=⟨_,_,_,_,rfl,wZ _,oo _,Gu _,kR _⟩
theorem EM.mk(k:Int)(s:ByteArray)(n:Int)(ks:List Ex)(a:Int){B:List (List PV)}(h:Raw 11 B (ks.map Ex.cells)):EM (iK k s n ks a) [iv k,sv s,iv n,iv 0,sv eB,iv 0,.rows [],.rows B,.rows [],.rows [],iv a]:=
 ⟨[],B,[],[],rfl,Raw.nil _,h,Raw.nil _,Raw.nil _⟩
theorem EM.two{x y:Ex}{xs ys:List PV}(h1:EM x xs)(h2:EM y ys):Raw 11 [xs,ys] ([x,y].map Ex.cells):=by
 have e1:xs.length=11:=by obtain⟨A,B,C,D,rfl,_⟩:=h1;rfl
 have e2:ys.length=11:=by obtain⟨A,B,C,D,rfl,_⟩:=h2;rfl
 have:=(Raw.one (sz:=11) (c':=x.cells) (by rw[Ex.cells_eq];exact h1.wd) e1 h1.ns).app (c':=y.cells) (by rw[Ex.cells_eq];exact h2.wd) e2 h2.ns;exact this
theorem EM.raw(k:Int)(s:ByteArray)(n:Int)(ks:List Ex)(a:Int)(kd:PV)(hk:kd=nS∧ks=[]∨∃B,kd=.rows B∧Raw 11 B (ks.map Ex.cells)){y:Ex}{ys:List PV}(h2:EM y ys):Raw 11 [[iv k,sv s,iv n,iv 0,sv eB,iv 0,nS,kd,nS,nS,iv a],ys] ([iK k s n ks a,y].map Ex.cells):=by
 have e2:ys.length=11:=by obtain⟨A,B,C,D,rfl,_⟩:=h2;rfl
 have e1:dD [iv k,sv s,iv n,iv 0,sv eB,iv 0,nS,kd,nS,nS,iv a]=(iK k s n ks a).cells:=by
  rw[Ex.cells_eq];rcases hk with⟨rfl,rfl⟩|⟨B,rfl,hB⟩
  ·simp
  ·simp only[tL,JR,O3,OZ,O1,hB.wd];rfl
 have hn:kH [iv k,sv s,iv n,iv 0,sv eB,iv 0,nS,kd,nS,nS,iv a]:=by
  rcases hk with⟨rfl,rfl⟩|⟨B,rfl,hB⟩
  ·simp
  ·have:=hB.ns';simp[this]
 have:=(Raw.one (sz:=11) e1 rfl hn).app (c':=y.cells) (by rw[Ex.cells_eq];exact h2.wd) e2 h2.ns;exact this
theorem TN(l:List Ex)(ops:List Tk)(hl:ops.length≤2000000)(hn:l.length=ops.length+1):∀(m f to:Nat),f≤to→to≤ops.length→to-f≤m→∃ys,ev (acp (exs l) (aW ops) (iv f) (iv to))=some (0,ys)∧EM (fJ l ops m f to) ys:=by
 have same:∀(m f:Nat),f≤ops.length→∃ys,ev (acp (exs l) (aW ops) (iv f) (iv f))=some (0,ys)∧EM (uK l f) ys:=by
  intro m f h2;have he:=aau (l:=l) (i:=f) (by omega);have hb:ev (q90 (exs l) (aW ops) (iv f) (iv f))=some (0,eD (uK l f)):=ax.of (by rw[h90];simp[sM he]);exact⟨eD (uK l f),ax.of (by rw[adM];show mM (ev (q90 (exs l) (aW ops) (iv f) (iv f)))=_;rw[hb];simp;exact⟨rfl,rfl,rfl,rfl⟩),.plain _⟩
 intro m
 induction m with
 |zero=>
  intro f to h1 h2 h3;have hf:f=to:=by omega
  subst hf;rw[fJ];exact same 0 f h2
 |succ m ih=>
  intro f to h1 h2 h3;by_cases hft:f=to
  ·subst hft
   rw[fJ,if_pos rfl];exact same 0 f h2
  ·have g1:=En ops (by omega) (exs l) f to h2 to (f+1) f (by omega) (by omega) (by omega)
   have ha1:=Lh (Au ops) to f to (f+1) f (Nat.le_refl _) (by omega);have ha2:=Lg (Au ops) to to (f+1) f (by omega);rw[fJ,if_neg hft];simp only;generalize jw (Au ops) to to (f+1) f=a at *;obtain⟨xs,e1,e2⟩:=ih f a ha1 (by omega) (by omega);obtain⟨ys,f1,f2⟩:=ih (a+1) to (by omega) h2 (by omega);generalize fJ l ops m f a=x at *;generalize fJ l ops m (a+1) to=y at *;have hk:=xq (ops:=ops) (i:=a) (by omega);generalize opAt ops a=o at *;have hw:=mZ (i:=f) (n:=to) (by omega) (by omega);have hw2:=mZ (i:=a) (n:=to) (by omega) (by omega);have hne:¬((f:Int)=(to:Int)):=by omega
   have h2k:=EM.two e2 f2;have hv:=EM.raw 3 o.text 0 [] o.at_ nS (.inl ⟨rfl,rfl⟩) e2;have hz:=EM.raw 5 eB 0 [iK 3 o.text 0 [] o.at_,x] o.at_ _ (.inr ⟨_,rfl,hv⟩) f2;obtain⟨A,B,C,D,rfl,xr⟩:=e2;obtain⟨A',B',C',D',rfl,yr⟩:=f2
   try simp only[Int.natCast_add,Int.natCast_one] at g1
   try simp only[Int.natCast_add,Int.natCast_one] at f1
   try simp at g1
   try simp at f1
   try simp at e1
   unfold opE;by_cases c1:o.text=⟨#[38,38]⟩
   ·rw[if_pos c1]
    refine⟨_,ax.of ?_,.mk _ _ _ _ _ h2k⟩;rw[adM];have hb:ev (q90 (exs l) (aW ops) (iv f) (iv to))=some (1,[iv 10,sv eB,iv 0,iv 0,sv eB,iv 0,nS,.rows [_,_],nS,nS,iv o.at_]):=ax.of (by rw[h90];simp[hne,hw,hw2,g1,e1,f1,dV hk,c1];exact⟨rfl,rfl⟩);show mM (ev (q90 (exs l) (aW ops) (iv f) (iv to)))=_;rw[hb];simp
   ·rw[if_neg c1]
    by_cases c2:o.text=⟨#[124,124]⟩
    ·rw[if_pos c2]
     refine⟨_,ax.of ?_,.mk _ _ _ _ _ h2k⟩;rw[adM];have hb:ev (q90 (exs l) (aW ops) (iv f) (iv to))=some (1,[iv 11,sv eB,iv 0,iv 0,sv eB,iv 0,nS,.rows [_,_],nS,nS,iv o.at_]):=ax.of (by rw[h90];simp[hne,hw,hw2,g1,e1,f1,dV hk,c1,c2];exact⟨rfl,rfl⟩);show mM (ev (q90 (exs l) (aW ops) (iv f) (iv to)))=_;rw[hb];simp
    ·rw[if_neg c2]
     refine⟨_,ax.of ?_,.mk _ _ _ _ _ hz⟩;rw[adM];have hb:ev (q90 (exs l) (aW ops) (iv f) (iv to))=some (1,[iv 5,sv eB,iv 0,iv 0,sv eB,iv 0,nS,.rows [_,_],nS,nS,iv o.at_]):=ax.of (by rw[h90];simp[hne,hw,hw2,g1,e1,f1,dV hk,c1,c2];exact⟨rfl,rfl⟩);show mM (ev (q90 (exs l) (aW ops) (iv f) (iv to)))=_;rw[hb];simp
set_option maxRecDepth 10000
mutual
def Ex.Ok:Ex→Prop
 |.mk _ _ _ t ks xs bs _=>t.Ok∧(ks.length≤dF∧Ex.OkL ks)∧(xs.length≤dF∧Al.OkL xs)∧(bs.length≤dF∧Bd.OkL bs)
def Al.Ok:Al→Prop
 |.mk p e=>p.Ok∧e.Ok
def Bd.Ok:Bd→Prop
 |.mk _ e _=>e.Ok
def Ex.OkL:List Ex→Prop
 |[]=>True
 |x::l=>x.Ok∧Ex.OkL l
def Al.OkL:List Al→Prop
 |[]=>True
 |x::l=>x.Ok∧Al.OkL l
def Bd.OkL:List Bd→Prop
 |[]=>True
 |x::l=>x.Ok∧Bd.OkL l
end
theorem Ex.OkL_iff:∀l,Ex.OkL l↔∀x∈l,x.Ok
 |[]=>by simp[Ex.OkL]
 |x::l=>by simp[Ex.OkL,Ex.OkL_iff l]
theorem Al.OkL_iff:∀l,Al.OkL l↔∀x∈l,x.Ok
 |[]=>by simp[Al.OkL]
 |x::l=>by simp[Al.OkL,Al.OkL_iff l]
theorem Bd.OkL_iff:∀l,Bd.OkL l↔∀x∈l,x.Ok
 |[]=>by simp[Bd.OkL]
 |x::l=>by simp[Bd.OkL,Bd.OkL_iff l]
@[simp] theorem an7(s:ByteArray)(e:Ex)(a:Int):(Bd.mk s e a).name=s:=rfl
@[simp] theorem auJ(s:ByteArray)(e:Ex)(a:Int):(Bd.mk s e a).e=e:=rfl
@[simp] theorem asW(s:ByteArray)(e:Ex)(a:Int):(Bd.mk s e a).at_=a:=rfl
@[simp] theorem auK(p:Pt)(e:Ex):(Al.mk p e).p=p:=rfl
@[simp] theorem auL(p:Pt)(e:Ex):(Al.mk p e).e=e:=rfl
abbrev iP(b:Bd):List PV:=[sv b.name,iv b.e.kind,sv b.e.name,iv b.e.n,iv b.e.t.kind,sv b.e.t.name,iv b.e.t.n,bH b.e.t.kids,exs b.e.kids,dY b.e.alts,bn b.e.binds,iv b.e.at_,iv b.at_]
abbrev alC(x:Al):List PV:=[iv x.p.kind,sv x.p.name,iv x.p.n,pts x.p.kids,iv x.p.at_,iv x.e.kind,sv x.e.name,iv x.e.n,iv x.e.t.kind,sv x.e.t.name,iv x.e.t.n,bH x.e.t.kids,exs x.e.kids,dY x.e.alts,bn x.e.binds,iv x.e.at_]
abbrev alP(p:Pt)(e:Ex):List PV:=[iv p.kind,sv p.name,iv p.n,pts p.kids,iv p.at_,iv e.kind,sv e.name,iv e.n,iv e.t.kind,sv e.t.name,iv e.t.n,bH e.t.kids,exs e.kids,dY e.alts,bn e.binds,iv e.at_]
theorem Bw(x:Bd):bn [x]=.rows [iP x]:=by simp[bn,Bd.cells_eq]
theorem afj(x:Al):dY [x]=.rows [alC x]:=by simp[dY,Al.cells_eq]
theorem JF:ML.Ok:=rU 0 eB
abbrev ex0:Ex:=iK 0 eB 0 [] 0
theorem TI(k:Int)(s:ByteArray)(n:Int)(t:Ty)(ks:List Ex)(al:List Al)(bs:List Bd)(a:Int)(ht:t.Ok)(h1:ks.length≤100000000)(h2:∀x∈ks,x.Ok)(h3:al.length≤100000000)(h4:∀x∈al,x.Ok)(h5:bs.length≤100000000)(h6:∀x∈bs,x.Ok):(Ex.mk k s n t ks al bs a).Ok:=by
 rw[Ex.Ok];exact⟨ht,⟨by unfold dF;omega,(Ex.OkL_iff ks).2 h2⟩,⟨by unfold dF;omega,(Al.OkL_iff al).2 h4⟩,by unfold dF;omega,(Bd.OkL_iff bs).2 h6⟩
theorem aav(k:Int)(s:ByteArray)(n:Int)(t:Ty)(ks:List Ex)(a:Int)(ht:t.Ok)(h1:ks.length≤100)(h2:∀x∈ks,x.Ok):(Ex.mk k s n t ks [] [] a).Ok:=TI _ _ _ _ _ _ _ _ ht (by omega) h2 (by simp) (by simp) (by simp) (by simp)
theorem iN(k:Int)(s:ByteArray)(n:Int)(ks:List Ex)(a:Int)(h1:ks.length≤100)(h2:∀x∈ks,x.Ok):(iK k s n ks a).Ok:=aav _ _ _ _ _ _ JF h1 h2
theorem zh:ex0.Ok:=iN _ _ _ _ _ (by simp) (by simp)
theorem wS:iY PG 38 13 192:=iY.of (by kernel_rfl)
theorem ajN:iY PG 52 16 232:=iY.of (by kernel_rfl)
theorem vz:iY PG 51 11 168:=iY.of (by kernel_rfl)
theorem J7:iY PG 73 1 16:=iY.of (by kernel_rfl)
theorem Pp(l:List Tk):Raw 4 (l.map Tk.cells) (l.map Tk.cells):=.of l (fun x=>by simp[Tk.cells]) (fun x=>rfl) (fun x=>by simp[Tk.cells])
theorem l9(l:List ByteArray):Raw 1 (l.map fun s=>[sv s]) (l.map fun s=>[sv s]):=.of l (fun x=>by simp) (fun x=>rfl) (fun x=>by simp)
abbrev FB(L:List Tk)(s:St):Q:=afH (aW L) (iv s.a) (iv s.lv) (iv s.e) (iv s.w)
abbrev qNm(L:List Tk)(s:St):Q:=akG (aW L) (iv s.a) (iv s.lv) (iv s.e) (iv s.w)
abbrev FC(L:List Tk)(s:St):Q:=afQ (aW L) (iv s.a) (iv s.lv) (iv s.e) (iv s.w)
abbrev qLa(L:List Tk)(a:Int)(s:St):Q:=XU (iv a) (aW L) (iv s.a) (iv s.lv) (iv s.e) (iv s.w)
abbrev qAm(L:List Tk)(s:St):Q:=XR (aW L) (iv s.a) (iv s.lv) (iv s.e) (iv s.w)
abbrev qOp(L:List Tk)(s:St):Q:=afE (aW L) (iv s.a) (iv s.lv) (iv s.e) (iv s.w)
theorem Li(L:List Tk)(x:ByteArray×Int):∀(m:Nat) (l:List (ByteArray×Int)),gG L m (x::l)=ak (gG L m l) fun e=>aS (iK 6 x.1 0 [e] x.2)
 |0,l=>by rw[gG];rw[gG.eq_1];rfl
 |m+1,l=>by
  rw[gG.eq_2,gG.eq_2];funext d a;unfold kg;by_cases h:(ai L a).kind=1
  ·rw[if_pos h]
   show (gG L m (x::(l++[((ai L a).text,(ai L a).at_)]))) d (a+1)=_;rw[Li L x m];unfold ak mR Av;simp only[if_pos h]
  ·rw[if_neg h]
   unfold ak;simp only[if_neg h];cases aV L 7 BV d a with
   |out=>rfl
   |err e w=>rfl
   |ok v b=>
    simp only[Rz.bind_ok];cases fG L m d b<;>rfl
theorem Si(L:List Tk)(m:Nat):zY L=dP L Ki (ak (aV L 5 eB) fun t=>ak (aV L 7 BU) fun _=>aS t) (aV L 1 eB):=rfl
theorem ail{L:List Tk}{s s':St}{v:Ex}(hk:(aX L s).kind=1)(x:ByteArray×Int)(h:Gr (fun m=>gV L m (aX L s).at_) s s' v):Gr (fun m=>gG L m [x]) s s' (iK 6 x.1 0 [v] x.2):=by
 have h2:=Gr.bind (k:=fun _ e=>aS (iK 6 x.1 0 [e] x.2)) h .pure;refine h2.pt 2 fun m hm he=>?_
 obtain⟨m,rfl⟩:∃k,m=k+2:=⟨m-2,by omega⟩;rw[lZ he] at hk ⊢;rw[gG.eq_2,gV.eq_2];unfold kg;rw[if_pos hk];show (gG L (m+1) ([x]++[((ai L s.a).text,(ai L s.a).at_)])) s.lv (s.a+1)=_;rw[List.singleton_append,Li];unfold ak aV UR;simp[hk]
section
variable{L:List Tk}(hL:L.length≤1000000)
include hL
theorem Sg(s:St)(hs:s.a≤L.length):∃v s',ev (qNm L s)=some (0,eU L s' v.cells)∧s'.a≤L.length∧mu L s'≤mu L s-1∧s'.lv=s.lv∧Gr (fun _=>zY L) s s' v:=by
 cases hb:iM L ⟨#[40]⟩ s with
 |true=>
  obtain⟨b1,b2⟩:=bY hb;have t1:=aQ (L:=L) (k:=5) (x:=eB) (by decide) s.up;have t2:=bC (L:=L) (k:=5) (x:=eB) (by decide) b2;have t3:=aQ (L:=L) (k:=7) (x:=⟨#[41]⟩) (by decide) (au L 5 eB s.up);have t4:=bC (L:=L) (k:=7) (x:=⟨#[41]⟩) (by decide) t2;refine⟨aT L 5 eB s.up,au L 7 ⟨#[41]⟩ (au L 5 eB s.up),ax.of ?_,t4,by omega,by simp[bD],.tx (Si L) (.may_t hb (.bind (.take _ _ _) (.bind (.take _ _ _) .pure)))⟩;rw[alS];have hz:St.mk (au L 5 eB s.up).a s.lv (au L 5 eB s.up).e (au L 5 eB s.up).w=au L 5 eB s.up:=by rw[←bD s];exact St.etaTake _ _ _ _
  simp[bM hL,hb,may_t hb,aR hL (k:=5) (by decide),Tk.cells,bD,cZ,dG];simp[hz,aR hL (k:=7) (by decide),Tk.cells,bD]
 |false=>
  have t1:=aQ (L:=L) (k:=1) (x:=eB) (by decide) s;have t2:=bC (L:=L) (k:=1) (x:=eB) (by decide) hs;refine⟨aT L 1 eB s,au L 1 eB s,ax.of ?_,t2,t1,by simp,.tx (Si L) (.may_f hb (.take _ _ _))⟩;rw[alS];simp[bM hL,hb,may_f hb,aR hL (k:=1) (by decide),Tk.cells]
theorem bind_ok{n:Nat}(ih:lJ L n (FB L) eD Ex.Ok (fG L)):lJ L (n+1) (FC L) iP Bd.Ok (Ap L):=
 lJ.weak (q:=fun s=>ahL (aW L) (iv s.a) (iv s.lv) (iv s.e) (iv s.w)) (fun s=>al2 ev _ _ _ _ _) fun s hs hm=>by
  show bF L s iP Bd.Ok _ (body PG EE TT ev (ahL (aW L) (iv s.a) (iv s.lv) (iv s.e) (iv s.w)));rw[aqE];obtain⟨t,s1,e1,e2,e3,l1,r1⟩:=Sg hL s hs;have t1:=aQ (L:=L) (k:=7) (x:=⟨#[61]⟩) (by decide) s1;have t2:=bC (L:=L) (k:=7) (x:=⟨#[61]⟩) (by decide) e2;obtain⟨v,s2,f1,f2,f3,f4,r2⟩:=ih _ t2 (by omega);simp only[FB,aU] at f1;simp only[qNm] at e1;simp[e1,Tk.cells,l1];simp only[←l1];simp[aR hL (k:=7) (by decide),Tk.cells,f1];exact bF.of 0 _ s2 (.mk t.text v t.at_) (by simp) f2 (by omega) (by show Bd.Ok _;rw[Bd.Ok];exact f4) (.fx (Ap.eq_2 L) (.bind r1 (.bind (.take _ _ _) (.bind r2 .pure))))
theorem aik{n:Nat}(ih:lJ L n (FB L) eD Ex.Ok (fG L)):∀m,m≤n+1→∀a,lJ L m (qLa L a) eD Ex.Ok (fun m=>gV L m a):=by
 intro m
 induction m with
 |zero=>
  intro _ a;refine lJ.weak (q:=fun s=>KG (iv a) (aW L) (iv s.a) (iv s.lv) (iv s.e) (iv s.w)) (fun s=>aap ev _ _ _ _ _ _) fun s hs hm=>?_
  show bF L s eD Ex.Ok _ (body PG EE TT ev (KG (iv a) (aW L) (iv s.a) (iv s.lv) (iv s.e) (iv s.w)));rw[aga];have t1:=aQ (L:=L) (k:=1) (x:=eB) (by decide) s;have t2:=bC (L:=L) (k:=1) (x:=eB) (by decide) hs;have hk:(aX L (au L 1 eB s)).kind≠1:=fun h=>by
   have:=bE (L:=L) (dI (L:=L) (s:=au L 1 eB s) (by omega)).1;omega
  have t3:=aQ (L:=L) (k:=7) (x:=⟨#[45,62]⟩) (by decide) (au L 1 eB s);have t4:=bC (L:=L) (k:=7) (x:=⟨#[45,62]⟩) (by decide) t2;obtain⟨v,s2,f1,f2,f3,f4,r2⟩:=ih _ t4 (by omega);simp only[FB,aU] at f1;simp[aR hL (k:=1) (by decide),Tk.cells];simp[fu,Tk.cells,hk];have hz:St.mk (au L 1 eB s).a s.lv (au L 1 eB s).e (au L 1 eB s).w=au L 1 eB s:=St.etaTake _ _ _ _;simp[aR hL (k:=7) (by decide),Tk.cells,f1];exact bF.of 0 _ s2 (iK 6 (aT L 1 eB s).text 0 [v] a) (by simp[bG,lH,eP]) f2 (by omega) (iN _ _ _ _ _ (by simp) (by simpa using f4)) (.fx (gV.eq_2 L a) (.bind (.take _ _ _) (.fx (gG.eq_2 L _) (.kind_f hk (.bind (.take _ _ _) (.bind r2 .pure))))))
 |succ m ihm=>
  intro hmn a;refine lJ.weak (q:=fun s=>KG (iv a) (aW L) (iv s.a) (iv s.lv) (iv s.e) (iv s.w)) (fun s=>aap ev _ _ _ _ _ _) fun s hs hm=>?_
  show bF L s eD Ex.Ok _ (body PG EE TT ev (KG (iv a) (aW L) (iv s.a) (iv s.lv) (iv s.e) (iv s.w)));rw[aga];have t1:=aQ (L:=L) (k:=1) (x:=eB) (by decide) s;have t2:=bC (L:=L) (k:=1) (x:=eB) (by decide) hs;by_cases hk:(aX L (au L 1 eB s)).kind=1
  ·have hin:=dI (L:=L) (s:=au L 1 eB s) (by omega)
   obtain⟨v,s2,f1,f2,f3,f4,r2⟩:=ihm (by omega) (aX L (au L 1 eB s)).at_ _ t2 (by omega);simp only[qLa,aU] at f1;simp[aR hL (k:=1) (by decide),Tk.cells];simp[fu,Tk.cells,hk,f1];refine bF.of 0 _ s2 (iK 6 (aT L 1 eB s).text 0 [v] a) (by simp[bG,lH,eP]) f2 (by omega) (iN _ _ _ _ _ (by simp) (by simpa using f4)) ?_;exact .fx (gV.eq_2 L a) (.bind (.take _ _ _) (ail hk _ r2))
  ·have t3:=trivial
   have t3:=aQ (L:=L) (k:=7) (x:=⟨#[45,62]⟩) (by decide) (au L 1 eB s);have t4:=bC (L:=L) (k:=7) (x:=⟨#[45,62]⟩) (by decide) t2;obtain⟨v,s2,f1,f2,f3,f4,r2⟩:=ih _ t4 (by omega);simp only[FB,aU] at f1;simp[aR hL (k:=1) (by decide),Tk.cells];simp[fu,Tk.cells,hk];have hz:St.mk (au L 1 eB s).a s.lv (au L 1 eB s).e (au L 1 eB s).w=au L 1 eB s:=St.etaTake _ _ _ _;simp[aR hL (k:=7) (by decide),Tk.cells,f1];exact bF.of 0 _ s2 (iK 6 (aT L 1 eB s).text 0 [v] a) (by simp[bG,lH,eP]) f2 (by omega) (iN _ _ _ _ _ (by simp) (by simpa using f4)) (.fx (gV.eq_2 L a) (.bind (.take _ _ _) (.fx (gG.eq_2 L _) (.kind_f hk (.bind (.take _ _ _) (.bind r2 .pure))))))
theorem amL{n:Nat}(ih:lJ L n (FB L) eD Ex.Ok (fG L))(KR:List (List PV))(a:Int):∀(m:Nat) (s:St) (l:List Al),mu L s≤m→m≤n+1→s.a≤L.length→l.length+m≤2000000→∃s' l',
  ev (KF (aW L) (iv s.a) (iv s.lv) (iv s.e) (iv s.w) KR (l.map Al.cells) (iv a))=some (1,eU L s' [iv 8,sv eB,iv 0,iv 0,sv eB,iv 0,aF,.rows KR,dY (l++l'),aF,iv a,iv 0,sv eB,iv 0,iv 0,sv eB,iv 0,aF,aF,aF,aF,iv 0])∧
  s'.a≤L.length∧mu L s'≤mu L s∧(∀x∈l',x.Ok)∧l'.length≤mu L s-mu L s'∧Gr (fun m=>ku L m l) s s' (l++l'):=by
 intro m
 induction m with
 |zero=>
  intro s l hm hn hs hl;have he:s.e≠0:=fun he=>by have:=bE (L:=L) he;omega
  exact⟨s,[],ax.of (by rw[xK];simp[he,dY]),hs,Nat.le_refl _,(by simp),by simp,.fault he rfl rfl⟩
 |succ m ihm=>
  intro s l hm hn hs hl;by_cases he:s.e=0
  ·have hp:=bE (L:=L) he
   obtain⟨p,s1,e1,e2,e3,e4,r1⟩:=He hL (m+1) s hs hm;have t1:=aQ (L:=L) (k:=7) (x:=⟨#[45,62]⟩) (by decide) s1;have t2:=bC (L:=L) (k:=7) (x:=⟨#[45,62]⟩) (by decide) e2;obtain⟨v,s2,f1,f2,f3,f4,r2⟩:=ih _ t2 (by omega);simp only[FB,aU] at f1;have hv:(Al.mk p v).Ok:=by rw[Al.Ok];exact⟨e4,f4⟩
   have ha:=fun k'=>aN (P:=PG) (d:=.fail) (k:=k') ajN (Gu l) (c:=alP p v) rfl (by simp) (by simp;omega) (by decide)
   have hml:(l++[Al.mk p v]).map Al.cells=l.map Al.cells++[alP p v]:=by rw[List.map_append,List.map_cons,List.map_nil,Al.cells_eq];rfl
   cases hb:iM L ⟨#[124]⟩ s2 with
   |true=>
    obtain⟨b1,b2⟩:=bY hb;obtain⟨s3,l',g1,g2,g3,g4,g5,r3⟩:=ihm s2.up (l++[.mk p v]) (by omega) (by omega) b2 (by simp;omega);rw[hml,List.append_assoc] at g1;simp only[bD,cZ,dG] at g1;refine⟨s3,.mk p v::l',ax.of ?_,g2,by omega,?_,by simp;omega,(Gr.fx (ku.eq_2 L l) (.bind r1 (.bind (.take _ _ _) (.bind r2 (.may_t hb r3))))).eq (by simp)⟩
    ·rw[xK]
     simp[eq_true he,e1,aR hL (k:=7) (by decide),Tk.cells,f1,ha];simp[bM hL,hb,may_t hb,bD,cZ,dG,g1]
    ·intro x hx
     rcases List.mem_cons.1 hx with rfl|hx
     ·exact hv
     ·exact g4 x hx
   |false=>
    have hc:ev (Cm (aW L) (iv s2.a) (iv s2.lv) (iv s2.e) (iv s2.w) KR ((l++[Al.mk p v]).map Al.cells) (iv a))=some (1,eU L s2 [iv 8,sv eB,iv 0,iv 0,sv eB,iv 0,aF,.rows KR,dY (l++[.mk p v]),aF,iv a,iv 0,sv eB,iv 0,iv 0,sv eB,iv 0,aF,aF,aF,aF,iv 0]):=ax.of (by rw[Lu];rfl);rw[hml] at hc;refine⟨s2,[.mk p v],ax.of ?_,f2,by omega,by simpa using hv,by simp;omega,.fx (ku.eq_2 L l) (.bind r1 (.bind (.take _ _ _) (.bind r2 (.may_f hb .pure))))⟩;rw[xK];simp[eq_true he,e1,aR hL (k:=7) (by decide),Tk.cells,f1,ha];simp[bM hL,hb,may_f hb,hc]
  ·exact⟨s,[],ax.of (by rw[xK];simp[he,dY]),hs,Nat.le_refl _,(by simp),by simp,.fault he rfl rfl⟩
theorem amM{n:Nat}(ih:lJ L n (FB L) eD Ex.Ok (fG L))(KR:List (List PV))(a:Int)(s:St)(hm:mu L s≤n+1)(hs:s.a≤L.length):∃s' l',
  ((l'=[]∧ev (Co (aW L) (iv s.a) (iv s.lv) (iv s.e) (iv s.w) KR (iv a))=some (0,eU L s' [iv 8,sv eB,iv 0,iv 0,sv eB,iv 0,aF,.rows KR,aF,aF,iv a,iv 0,sv eB,iv 0,iv 0,sv eB,iv 0,aF,aF,aF,aF,iv 0]))∨
   ev (Co (aW L) (iv s.a) (iv s.lv) (iv s.e) (iv s.w) KR (iv a))=some (1,eU L s' [iv 8,sv eB,iv 0,iv 0,sv eB,iv 0,aF,.rows KR,dY l',aF,iv a,iv 0,sv eB,iv 0,iv 0,sv eB,iv 0,aF,aF,aF,aF,iv 0]))∧
  s'.a≤L.length∧mu L s'≤mu L s∧(∀x∈l',x.Ok)∧l'.length≤100000000∧Gr (fun m=>ku L m []) s s' l':=by
 by_cases he:s.e=0
 ·have hp:=bE (L:=L) he
  obtain⟨p,s1,e1,e2,e3,e4,r1⟩:=He hL (n+1) s hs hm;have t1:=aQ (L:=L) (k:=7) (x:=⟨#[45,62]⟩) (by decide) s1;have t2:=bC (L:=L) (k:=7) (x:=⟨#[45,62]⟩) (by decide) e2;obtain⟨v,s2,f1,f2,f3,f4,r2⟩:=ih _ t2 (by omega);simp only[FB,aU] at f1;have hv:(Al.mk p v).Ok:=by rw[Al.Ok];exact⟨e4,f4⟩
  have hml:[Al.mk p v].map Al.cells=[alP p v]:=by rw[List.map_cons,List.map_nil,Al.cells_eq];rfl
  cases hb:iM L ⟨#[124]⟩ s2 with
  |true=>
   obtain⟨b1,b2⟩:=bY hb;have hl2:=kV L s2.up;obtain⟨s3,l',g1,g2,g3,g4,g5,r3⟩:=amL hL ih KR a (mu L s2.up) s2.up [.mk p v] (Nat.le_refl _) (by omega) b2 (by simp;omega);rw[hml] at g1;simp only[bD,cZ,dG] at g1;refine⟨s3,.mk p v::l',.inr (ax.of ?_),g2,by omega,?_,by simp;omega,.fx (ku.eq_2 L []) (.bind r1 (.bind (.take _ _ _) (.bind r2 (.may_t hb r3))))⟩
   ·rw[Dy]
    simp[eq_true he,e1,aR hL (k:=7) (by decide),Tk.cells,f1];simp[bM hL,hb,may_t hb,bD,cZ,dG,g1]
   ·intro x hx
    rcases List.mem_cons.1 hx with rfl|hx
    ·exact hv
    ·exact g4 x hx
  |false=>
   have hc:ev (Cm (aW L) (iv s2.a) (iv s2.lv) (iv s2.e) (iv s2.w) KR ([Al.mk p v].map Al.cells) (iv a))=some (1,eU L s2 [iv 8,sv eB,iv 0,iv 0,sv eB,iv 0,aF,.rows KR,dY [.mk p v],aF,iv a,iv 0,sv eB,iv 0,iv 0,sv eB,iv 0,aF,aF,aF,aF,iv 0]):=ax.of (by rw[Lu];rfl);rw[hml] at hc;refine⟨s2,[.mk p v],.inr (ax.of ?_),f2,by omega,by simpa using hv,by simp,.fx (ku.eq_2 L []) (.bind r1 (.bind (.take _ _ _) (.bind r2 (.may_f hb .pure))))⟩;rw[Dy];simp[eq_true he,e1,aR hL (k:=7) (by decide),Tk.cells,f1];simp[bM hL,hb,may_f hb,hc]
 ·exact⟨s,[],.inl ⟨rfl,ax.of (by rw[Dy];simp[he])⟩,hs,Nat.le_refl _,(by simp),by simp,.fault he rfl rfl⟩
theorem Ud{n:Nat}(ih:lJ L n (FB L) eD Ex.Ok (fG L)):lJ L (n+1) (qAm L) eD Ex.Ok (iW L):=
 lJ.weak (q:=fun s=>XT (aW L) (iv s.a) (iv s.lv) (iv s.e) (iv s.w)) (fun s=>aiz ev _ _ _ _ _) fun s hs hm=>by
  show bF L s eD Ex.Ok _ (body PG EE TT ev (XT (aW L) (iv s.a) (iv s.lv) (iv s.e) (iv s.w)));rw[amf];simp[fu,Tk.cells];refine dO (fun h1=>?_) (fun h1=>dO (fun h2=>?_) (fun h2=>dO (fun h3=>?_) (fun h3=>dO (fun h4=>?_) (fun h4=>?_))))
  ·simp only[decide_eq_true_eq] at h1
   obtain⟨he,hl⟩:=dI (L:=L) (s:=s) (by omega);simp only[wC hl hL];exact bF.ofUp 0 _ (iK 3 (aX L s).text 0 [] (aX L s).at_) (by simp) (by rw[nJ];exact hl) (uT he hl) (iN _ _ _ _ _ (by simp) (by simp)) (.fx (iW.eq_2 L) (.next (.if_t h1 (.up he .pure))))
  ·simp only[decide_eq_true_eq,decide_eq_false_iff_not] at h1 h2
   obtain⟨he,hl⟩:=dI (L:=L) (s:=s) (by omega);simp only[wC hl hL];exact bF.ofUp 0 _ (iK 4 (aX L s).text 0 [] (aX L s).at_) (by simp) (by rw[nJ];exact hl) (uT he hl) (iN _ _ _ _ _ (by simp) (by simp)) (.fx (iW.eq_2 L) (.next (.if_f h1 (.if_t h2 (.up he .pure)))))
  ·simp only[decide_eq_true_eq,decide_eq_false_iff_not] at h1 h2 h3
   obtain⟨he,hl⟩:=dI (L:=L) (s:=s) (by omega);simp only[wC hl hL];exact bF.ofUp 0 _ (iK 1 eB (aX L s).n [] (aX L s).at_) (by simp) (by rw[nJ];exact hl) (uT he hl) (iN _ _ _ _ _ (by simp) (by simp)) (.fx (iW.eq_2 L) (.next (.if_f h1 (.if_f h2 (.if_t h3 (.up he .pure))))))
  ·simp only[decide_eq_true_eq,decide_eq_false_iff_not] at h1 h2 h3 h4
   obtain⟨he,hl⟩:=dI (L:=L) (s:=s) (by omega);simp only[wC hl hL];exact bF.ofUp 0 _ (iK 2 (aX L s).text 0 [] (aX L s).at_) (by simp) (by rw[nJ];exact hl) (uT he hl) (iN _ _ _ _ _ (by simp) (by simp)) (.fx (iW.eq_2 L) (.next (.if_f h1 (.if_f h2 (.if_f h3 (.if_t h4 (.up he .pure)))))))
  ·simp only[decide_eq_false_iff_not] at h1 h2 h3 h4
   simp[bM hL];refine dO (fun hc=>?_) (fun hc=>?_)
   ·obtain⟨b1,b2⟩:=bY hc
    have hp:=bE (L:=L) (iy hc).1;rw[may_t hc];obtain⟨v,s1,f1,f2,f3,f4,r1⟩:=ih s.up b2 (by omega);simp only[FB,bD,cZ,dG] at f1;have t1:=aQ (L:=L) (k:=6) (x:=⟨#[111,102]⟩) (by decide) s1;have t2:=bC (L:=L) (k:=6) (x:=⟨#[111,102]⟩) (by decide) f2;obtain⟨s2,l,hc2,g2,g3,g4,g5,r2⟩:=amM hL ih [eD v] (aX L s).at_ _ (by omega) t2;simp only[aU] at hc2;have t3:=aQ (L:=L) (k:=6) (x:=⟨#[101,110,100]⟩) (by decide) s2;have t4:=bC (L:=L) (k:=6) (x:=⟨#[101,110,100]⟩) (by decide) g2;have hx:(Ex.mk 8 eB 0 ML [v] l [] (aX L s).at_).Ok:=TI _ _ _ _ _ _ _ _ JF (by simp) (by simpa using f4) g5 g4 (by simp) (by simp);have hg:Gr (iW L) s (au L 6 ⟨#[101,110,100]⟩ s2) (Ex.mk 8 eB 0 ML [v] l [] (aX L s).at_):=.fx (iW.eq_2 L) (.next (.if_f h1 (.if_f h2 (.if_f h3 (.if_f h4 (.may_t hc (.bind r1 (.bind (.take _ _ _) (.bind r2 (.bind (.take _ _ _) .pure))))))))));rcases hc2 with⟨rfl,hc2⟩|hc2
    ·simp[f1]
     simp[aR hL (k:=6) (by decide),Tk.cells];simp[hc2];simp[aR hL (k:=6) (by decide),Tk.cells];exact bF.ofT _ _ (Ex.mk 8 eB 0 ML [v] [] [] (aX L s).at_) (by simp[bG,lH,eP]) t4 (by omega) hx hg
    ·simp[f1]
     simp[aR hL (k:=6) (by decide),Tk.cells];simp[hc2];simp[aR hL (k:=6) (by decide),Tk.cells];exact bF.ofT _ _ (Ex.mk 8 eB 0 ML [v] l [] (aX L s).at_) (by simp[bG,lH,eP]) t4 (by omega) hx hg
   ·rw[may_f hc]
    have t1:=aQ (L:=L) (k:=7) (x:=⟨#[40]⟩) (by decide) s;have t2:=bC (L:=L) (k:=7) (x:=⟨#[40]⟩) (by decide) hs;simp[aR hL (k:=7) (by decide)];simp[bM hL,Tk.cells];generalize ht:au L 7 ⟨#[40]⟩ s=s1 at *;have hl1:s1.lv=s.lv:=by rw[←ht];exact aU _ _ s
    simp only[←hl1];have hg:∀{s' v},Gr (fun m=>dP L BU (aS (iK 4 sUn 0 [] (aX L s).at_)) (kg L 5 (ak (aV L 5 eB) fun o=>ak (aV L 7 BU) fun _=>aS (iK 3 o.text 0 [] (aX L s).at_))
     (ak (fG L m) fun y=>dP L aci (ak (iQ L m) fun ty=>ak (aV L 7 BU) fun _=>aS (.mk 12 eB 0 ty [y] [] [] (aX L s).at_)) (ak (aV L 7 BU) fun _=>aS y)))) s1 s' v→Gr (iW L) s s' v:=
     fun hr=>.fx (iW.eq_2 L) (.next (.if_f h1 (.if_f h2 (.if_f h3 (.if_f h4 (.may_f hc (.bind (.takex ht rfl) hr)))))))
    refine dO (fun hb=>?_) (fun hb=>?_)
    ·obtain⟨m1,m2⟩:=bY hb
     have hp:=bE (L:=L) (iy hb).1;rw[may_t hb];exact bF.ofUp 0 _ (iK 4 ⟨#[85,110,105,116]⟩ 0 [] (aX L s).at_) (by simp) m2 (by omega) (iN _ _ _ _ _ (by simp) (by simp)) (hg (.may_t hb .pure))
    ·rw[may_f hb]
     simp[fu,Tk.cells];refine dO (fun h5=>?_) (fun h5=>?_)
     ·simp only[decide_eq_true_eq] at h5
      have t3:=aQ (L:=L) (k:=5) (x:=eB) (by decide) s1;have t4:=bC (L:=L) (k:=5) (x:=eB) (by decide) t2;have t5:=aQ (L:=L) (k:=7) (x:=⟨#[41]⟩) (by decide) (au L 5 eB s1);have t6:=bC (L:=L) (k:=7) (x:=⟨#[41]⟩) (by decide) t4;simp[aR hL (k:=5) (by decide),Tk.cells];generalize ht5:au L 5 eB s1=s5 at *;have hl5:s5.lv=s1.lv:=by rw[←ht5];exact aU _ _ s1
      simp only[←hl5];simp[aR hL (k:=7) (by decide),Tk.cells];exact bF.ofT 0 _ (iK 3 (aT L 5 eB s1).text 0 [] (aX L s).at_) (by simp) t6 (by omega) (iN _ _ _ _ _ (by simp) (by simp)) (hg (.may_f hb (.kind_t h5 (.bind (.takex ht5 rfl) (.bind (.take _ _ _) .pure)))))
     ·simp only[decide_eq_false_iff_not] at h5
      obtain⟨v,s2,f1,f2,f3,f4,r1⟩:=ih s1 t2 (by omega);simp[f1];simp[bM hL];refine dO (fun hc=>?_) (fun hc=>?_)
      ·obtain⟨m1,m2⟩:=bY hc
       rw[may_t hc];obtain⟨ty,s3,g1,g2,g3,g4,r2⟩:=wG hL (n+1) s2.up m2 (by omega);simp only[Vu,bD,cZ,dG] at g1;have t3:=aQ (L:=L) (k:=7) (x:=⟨#[41]⟩) (by decide) s3;have t4:=bC (L:=L) (k:=7) (x:=⟨#[41]⟩) (by decide) g2;simp[g1,aR hL (k:=7) (by decide),Tk.cells];exact bF.ofT 1 _ (.mk 12 eB 0 ty [v] [] [] (aX L s).at_) (by simp[bG,lH,eP]) t4 (by omega) (aav _ _ _ _ _ _ g4 (by simp) (by simpa using f4)) (hg (.may_f hb (.kind_f h5 (.bind r1 (.may_t hc (.bind r2 (.bind (.take _ _ _) .pure)))))))
      ·rw[may_f hc]
       have t3:=aQ (L:=L) (k:=7) (x:=⟨#[41]⟩) (by decide) s2;have t4:=bC (L:=L) (k:=7) (x:=⟨#[41]⟩) (by decide) f2;simp[aR hL (k:=7) (by decide),Tk.cells];exact bF.ofT 0 _ v (by simp) t4 (by omega) f4 (hg (.may_f hb (.kind_f h5 (.bind r1 (.may_f hc (.bind (.take _ _ _) .pure))))))
end
end Go.Proofs.YtijcobeebaceoaaGreatDoor
namespace Go.Proofs.YtijcobeebaceoaaGreatDoor
open Go.RowKit
set_option maxRecDepth 10000
section
variable{L:List Tk}(hL:L.length≤1000000)
include hL
theorem ai6{n:Nat}(ih:lJ L n (FC L) iP Bd.Ok (Ap L))(a:Int):∀(m:Nat) (s:St) (l:List Bd),mu L s≤m→m≤n→s.a≤L.length→l.length+m≤2000000→∃(s':St) (l':List Bd),
  ev (PZ (aW L) (iv s.a) (iv s.lv) (iv s.e) (iv s.w) (l.map Bd.cells) (iv a))=some (1,eU L s' [iv 7,sv eB,iv 1,iv 0,sv eB,iv 0,aF,aF,aF,bn (l++l'),iv a,iv 0,sv eB,iv 0,iv 0,sv eB,iv 0,aF,aF,aF,aF,iv 0])∧
  s'.a≤L.length∧mu L s'≤mu L s∧(∀x∈l',x.Ok)∧l'.length≤mu L s-mu L s'∧Gr (fun m=>eX L m l) s s' (l++l'):=by
 intro m
 induction m with
 |zero=>
  intro s l hm hn hs hl;have hb:iM L ⟨#[97,110,100]⟩ s=false:=by
   cases hb:iM L ⟨#[97,110,100]⟩ s with
   |false=>rfl
   |true=>have:=bE (L:=L) (iy hb).1;omega
  exact⟨s,[],ax.of (by rw[Ip];simp[bM hL,hb,may_f hb,bn]),hs,Nat.le_refl _,(by simp),by simp,(Gr.fx (eX.eq_2 L l) (.may_f hb .pure)).eq (by simp)⟩
 |succ m ihm=>
  intro s l hm hn hs hl;cases hb:iM L ⟨#[97,110,100]⟩ s with
  |false=>exact⟨s,[],ax.of (by rw[Ip];simp[bM hL,hb,may_f hb,bn]),hs,Nat.le_refl _,(by simp),by simp,(Gr.fx (eX.eq_2 L l) (.may_f hb .pure)).eq (by simp)⟩
  |true=>
   have hp:=bE (L:=L) (iy hb).1;obtain⟨b1,b2⟩:=bY hb;obtain⟨v,s1,f1,f2,f3,f4,r1⟩:=ih s.up b2 (by omega);simp only[FC,bD,cZ,dG] at f1;obtain⟨s2,l',g1,g2,g3,g4,g5,r2⟩:=ihm s1 (l++[v]) (by omega) (by omega) f2 (by simp;omega);have hml:(l++[v]).map Bd.cells=l.map Bd.cells++[iP v]:=by rw[List.map_append,List.map_cons,List.map_nil,Bd.cells_eq]
   rw[hml,List.append_assoc] at g1;have ha:=fun k'=>aN (P:=PG) (d:=.fail) (k:=k') wS (kR l) (c:=iP v) rfl (by simp) (by simp;omega) (by decide)
   refine⟨s2,v::l',ax.of ?_,g2,by omega,?_,by simp;omega,(Gr.fx (eX.eq_2 L l) (.may_t hb (.bind r1 r2))).eq (by simp)⟩
   ·rw[Ip]
    simp[bM hL,hb,may_t hb,bD,cZ,dG];simp[f1,ha,g1]
   ·intro x hx
    rcases List.mem_cons.1 hx with rfl|hx
    ·exact f4
    ·exact g4 x hx
theorem ai8{n:Nat}(ih:lJ L n (FC L) iP Bd.Ok (Ap L))(a:Int)(v0:Bd)(s:St)(hm:mu L s≤n)(hs:s.a≤L.length):∃(s':St) (l':List Bd),
  ((l'=[]∧ev (Gw (aW L) (iv s.a) (iv s.lv) (iv s.e) (iv s.w) [iP v0] (iv a))=some (0,eU L s' [iv 7,sv eB,iv 1,iv 0,sv eB,iv 0,aF,aF,aF,.rows [iP v0],iv a,iv 0,sv eB,iv 0,iv 0,sv eB,iv 0,aF,aF,aF,aF,iv 0]))∨
   ev (Gw (aW L) (iv s.a) (iv s.lv) (iv s.e) (iv s.w) [iP v0] (iv a))=some (1,eU L s' [iv 7,sv eB,iv 1,iv 0,sv eB,iv 0,aF,aF,aF,bn (v0::l'),iv a,iv 0,sv eB,iv 0,iv 0,sv eB,iv 0,aF,aF,aF,aF,iv 0]))∧
  s'.a≤L.length∧mu L s'≤mu L s∧(∀x∈l',x.Ok)∧l'.length≤10000000∧Gr (fun m=>eX L m [v0]) s s' (v0::l'):=by
 cases hb:iM L ⟨#[97,110,100]⟩ s with
 |false=>exact⟨s,[],.inl ⟨rfl,ax.of (by rw[SI];simp[bM hL,hb,may_f hb])⟩,hs,Nat.le_refl _,(by simp),by simp,.fx (eX.eq_2 L [v0]) (.may_f hb .pure)⟩
 |true=>
  have hp:=bE (L:=L) (iy hb).1;obtain⟨b1,b2⟩:=bY hb;obtain⟨v,s1,f1,f2,f3,f4,r1⟩:=ih s.up b2 (by omega);simp only[FC,bD,cZ,dG] at f1;have hml:[v0,v].map Bd.cells=[iP v0]++[iP v]:=by rw[List.map_cons,List.map_cons,List.map_nil,Bd.cells_eq,Bd.cells_eq];rfl
  have hm1:=kV L s1;obtain⟨s2,l',g1,g2,g3,g4,g5,r2⟩:=ai6 hL ih a (mu L s1) s1 [v0,v] (Nat.le_refl _) (by omega) f2 (by simp;omega);rw[hml] at g1;have hr:Raw 13 [iP v0] ([v0].map Bd.cells):=.one (by rw[Bd.cells_eq];simp) rfl (by simp);have ha:=fun k'=>aN (P:=PG) (d:=.fail) (k:=k') wS hr (c:=iP v) rfl (by simp) (by simp) (by decide)
  refine⟨s2,v::l',.inr (ax.of ?_),g2,by omega,?_,by simp;omega,.fx (eX.eq_2 L [v0]) (.may_t hb (.bind r1 r2))⟩
  ·rw[SI]
   simp at g1;simp[bM hL,hb,may_t hb,bD,cZ,dG];simp[f1,ha,g1]
  ·intro x hx
   rcases List.mem_cons.1 hx with rfl|hx
   ·exact f4
   ·exact g4 x hx
theorem ai7{n:Nat}(ih:lJ L n (FC L) iP Bd.Ok (Ap L))(a:Int):∀(m:Nat) (s:St) (l:List Bd),mu L s≤m→m≤n→s.a≤L.length→l.length+m≤2000000→∃(s':St) (l':List Bd),
  ev (PY (aW L) (iv s.a) (iv s.lv) (iv s.e) (iv s.w) (l.map Bd.cells) (iv a))=some (1,eU L s' [iv 7,sv eB,iv 0,iv 0,sv eB,iv 0,aF,aF,aF,bn (l++l'),iv a,iv 0,sv eB,iv 0,iv 0,sv eB,iv 0,aF,aF,aF,aF,iv 0])∧
  s'.a≤L.length∧mu L s'≤mu L s∧(∀x∈l',x.Ok)∧l'.length≤mu L s-mu L s'∧Gr (fun m=>eX L m l) s s' (l++l'):=by
 intro m
 induction m with
 |zero=>
  intro s l hm hn hs hl;have hb:iM L ⟨#[97,110,100]⟩ s=false:=by
   cases hb:iM L ⟨#[97,110,100]⟩ s with
   |false=>rfl
   |true=>have:=bE (L:=L) (iy hb).1;omega
  exact⟨s,[],ax.of (by rw[Io];simp[bM hL,hb,may_f hb,bn]),hs,Nat.le_refl _,(by simp),by simp,(Gr.fx (eX.eq_2 L l) (.may_f hb .pure)).eq (by simp)⟩
 |succ m ihm=>
  intro s l hm hn hs hl;cases hb:iM L ⟨#[97,110,100]⟩ s with
  |false=>exact⟨s,[],ax.of (by rw[Io];simp[bM hL,hb,may_f hb,bn]),hs,Nat.le_refl _,(by simp),by simp,(Gr.fx (eX.eq_2 L l) (.may_f hb .pure)).eq (by simp)⟩
  |true=>
   have hp:=bE (L:=L) (iy hb).1;obtain⟨b1,b2⟩:=bY hb;obtain⟨v,s1,f1,f2,f3,f4,r1⟩:=ih s.up b2 (by omega);simp only[FC,bD,cZ,dG] at f1;obtain⟨s2,l',g1,g2,g3,g4,g5,r2⟩:=ihm s1 (l++[v]) (by omega) (by omega) f2 (by simp;omega);have hml:(l++[v]).map Bd.cells=l.map Bd.cells++[iP v]:=by rw[List.map_append,List.map_cons,List.map_nil,Bd.cells_eq]
   rw[hml,List.append_assoc] at g1;have ha:=fun k'=>aN (P:=PG) (d:=.fail) (k:=k') wS (kR l) (c:=iP v) rfl (by simp) (by simp;omega) (by decide)
   refine⟨s2,v::l',ax.of ?_,g2,by omega,?_,by simp;omega,(Gr.fx (eX.eq_2 L l) (.may_t hb (.bind r1 r2))).eq (by simp)⟩
   ·rw[Io]
    simp[bM hL,hb,may_t hb,bD,cZ,dG];simp[f1,ha,g1]
   ·intro x hx
    rcases List.mem_cons.1 hx with rfl|hx
    ·exact f4
    ·exact g4 x hx
theorem ai9{n:Nat}(ih:lJ L n (FC L) iP Bd.Ok (Ap L))(a:Int)(v0:Bd)(s:St)(hm:mu L s≤n)(hs:s.a≤L.length):∃(s':St) (l':List Bd),
  ((l'=[]∧ev (Gv (aW L) (iv s.a) (iv s.lv) (iv s.e) (iv s.w) [iP v0] (iv a))=some (0,eU L s' [iv 7,sv eB,iv 0,iv 0,sv eB,iv 0,aF,aF,aF,.rows [iP v0],iv a,iv 0,sv eB,iv 0,iv 0,sv eB,iv 0,aF,aF,aF,aF,iv 0]))∨
   ev (Gv (aW L) (iv s.a) (iv s.lv) (iv s.e) (iv s.w) [iP v0] (iv a))=some (1,eU L s' [iv 7,sv eB,iv 0,iv 0,sv eB,iv 0,aF,aF,aF,bn (v0::l'),iv a,iv 0,sv eB,iv 0,iv 0,sv eB,iv 0,aF,aF,aF,aF,iv 0]))∧
  s'.a≤L.length∧mu L s'≤mu L s∧(∀x∈l',x.Ok)∧l'.length≤10000000∧Gr (fun m=>eX L m [v0]) s s' (v0::l'):=by
 cases hb:iM L ⟨#[97,110,100]⟩ s with
 |false=>exact⟨s,[],.inl ⟨rfl,ax.of (by rw[SH];simp[bM hL,hb,may_f hb])⟩,hs,Nat.le_refl _,(by simp),by simp,.fx (eX.eq_2 L [v0]) (.may_f hb .pure)⟩
 |true=>
  have hp:=bE (L:=L) (iy hb).1;obtain⟨b1,b2⟩:=bY hb;obtain⟨v,s1,f1,f2,f3,f4,r1⟩:=ih s.up b2 (by omega);simp only[FC,bD,cZ,dG] at f1;have hml:[v0,v].map Bd.cells=[iP v0]++[iP v]:=by rw[List.map_cons,List.map_cons,List.map_nil,Bd.cells_eq,Bd.cells_eq];rfl
  have hm1:=kV L s1;obtain⟨s2,l',g1,g2,g3,g4,g5,r2⟩:=ai7 hL ih a (mu L s1) s1 [v0,v] (Nat.le_refl _) (by omega) f2 (by simp;omega);rw[hml] at g1;have hr:Raw 13 [iP v0] ([v0].map Bd.cells):=.one (by rw[Bd.cells_eq];simp) rfl (by simp);have ha:=fun k'=>aN (P:=PG) (d:=.fail) (k:=k') wS hr (c:=iP v) rfl (by simp) (by simp) (by decide)
  refine⟨s2,v::l',.inr (ax.of ?_),g2,by omega,?_,by simp;omega,.fx (eX.eq_2 L [v0]) (.may_t hb (.bind r1 r2))⟩
  ·rw[SH]
   simp at g1;simp[bM hL,hb,may_t hb,bD,cZ,dG];simp[f1,ha,g1]
  ·intro x hx
   rcases List.mem_cons.1 hx with rfl|hx
   ·exact f4
   ·exact g4 x hx
theorem amI{n:Nat}(ih:lJ L n (qAm L) eD Ex.Ok (iW L))(t:Tk)(a:Int):∀(m:Nat) (s:St) (ks:List Ex) (B:List (List PV)),Raw 11 B (ks.map Ex.cells)→ks.length=2→(∀x∈ks,x.Ok)→mu L s≤m→m≤n→s.a≤L.length→a=t.at_→∃(s':St) (ks':List Ex) (B':List (List PV)),
  ev (PW (aW L) (iv s.a) (iv s.lv) (iv s.e) (iv s.w) B (iv a) (iv t.kind) (sv t.text) (iv t.n) (iv t.at_))=some (1,eU L s' [iv 5,sv eB,iv 0,iv 0,sv eB,iv 0,aF,.rows B',aF,aF,iv a,iv t.kind,sv t.text,iv t.n,iv t.at_,iv 0,sv eB,iv 0,iv 0,sv eB,iv 0,aF,aF,aF,aF,iv 0])∧
  Raw 11 B' (ks'.map Ex.cells)∧ks'.length=2∧(∀x∈ks',x.Ok)∧s'.a≤L.length∧mu L s'≤mu L s∧Gr (fun m=>jy L m a (iK 5 eB 0 ks a)) s s' (iK 5 eB 0 ks' a):=by
 intro m
 induction m with
 |zero=>
  intro s ks B hr hk hok hm hn hs ha;obtain⟨b,h1,h2,h3⟩:=iI (L:=L) (k:=2) (.inr (.inr rfl)) s;cases b with
  |true=>have:=bE (L:=L) (h2 rfl).1;omega
  |false=>exact⟨s,ks,B,ax.of (by rw[Im];simp[h1]),hr,hk,hok,hs,Nat.le_refl _,.fx (jy.eq_2 L a _) (.st_f (h3 rfl) .pure)⟩
 |succ m ihm=>
  intro s ks B hr hk hok hm hn hs ha;obtain⟨b,h1,h2,h3⟩:=iI (L:=L) (k:=2) (.inr (.inr rfl)) s;cases b with
  |false=>exact⟨s,ks,B,ax.of (by rw[Im];simp[h1]),hr,hk,hok,hs,Nat.le_refl _,.fx (jy.eq_2 L a _) (.st_f (h3 rfl) .pure)⟩
  |true=>
   have hp:=bE (L:=L) (h2 rfl).1;obtain⟨v,s1,f1,f2,f3,f4,r1⟩:=ih s hs (by omega);have hr2:Raw 11 [[iv 5,sv eB,iv 0,iv 0,sv eB,iv 0,aF,.rows B,aF,aF,iv a],eD v] ([iK 5 eB 0 ks a,v].map Ex.cells):=EM.raw 5 eB 0 ks a _ (.inr ⟨B,rfl,hr⟩) (.plain v);obtain⟨s2,ks',B',g1,g2,g3,g4,g5,g6,r2⟩:=ihm s1 _ _ hr2 rfl (by
    intro x hx;simp only[List.mem_cons,List.not_mem_nil,or_false] at hx;rcases hx with rfl|rfl
    ·exact iN _ _ _ _ _ (by omega) hok
    ·exact f4) (by omega) (by omega) f2 ha
   refine⟨s2,ks',B',ax.of ?_,g2,g3,g4,g5,by omega,.fx (jy.eq_2 L a _) (.st_t (h2 rfl).2.2 (.bind r1 r2))⟩;rw[Im];subst ha;simp[h1,f1,g1]
theorem amJ{n:Nat}(ih:lJ L n (qAm L) eD Ex.Ok (iW L))(t:Tk)(v0:Ex)(hv0:v0.Ok)(s:St)(hm:mu L s≤n)(hs:s.a≤L.length):∃(s':St) (k:Nat) (ys:List PV) (e:Ex),
  ev (PX (aW L) (iv s.a) (iv s.lv) (iv s.e) (iv s.w) (iv v0.kind) (sv v0.name) (iv v0.n) (iv v0.t.kind) (sv v0.t.name) (iv v0.t.n) (bH v0.t.kids) (exs v0.kids) (dY v0.alts) (bn v0.binds) (iv v0.at_) (iv t.kind) (sv t.text) (iv t.n) (iv t.at_))=some (k,aW L::iv s'.a::iv s'.lv::iv s'.e::iv s'.w::(ys++[iv t.kind,sv t.text,iv t.n,iv t.at_,iv 0,sv eB,iv 0,iv 0,sv eB,iv 0,aF,aF,aF,aF,iv 0]))∧
  (k=0∧ys=eD v0∧e=v0∨k=1∧∃B ks,ys=[iv 5,sv eB,iv 0,iv 0,sv eB,iv 0,aF,.rows B,aF,aF,iv t.at_]∧Raw 11 B (ks.map Ex.cells)∧e=iK 5 eB 0 ks t.at_)∧e.Ok∧s'.a≤L.length∧mu L s'≤mu L s∧Gr (fun m=>jy L m t.at_ v0) s s' e:=by
 obtain⟨b,h1,h2,h3⟩:=iI (L:=L) (k:=2) (.inr (.inr rfl)) s;cases b with
 |false=>exact⟨s,0,eD v0,v0,ax.of (by rw[SG];simp[h1]),.inl ⟨rfl,rfl,rfl⟩,hv0,hs,Nat.le_refl _,.fx (jy.eq_2 L _ _) (.st_f (h3 rfl) .pure)⟩
 |true=>
  have hp:=bE (L:=L) (h2 rfl).1;obtain⟨v,s1,f1,f2,f3,f4,r1⟩:=ih s hs (by omega);have hr2:Raw 11 [eD v0,eD v] ([v0,v].map Ex.cells):=EM.two (.plain v0) (.plain v);obtain⟨s2,ks,B,g1,g2,g3,g4,g5,g6,r2⟩:=amI hL ih t t.at_ (mu L s1) s1 [v0,v] _ hr2 rfl (by simp[hv0,f4]) (Nat.le_refl _) (by omega) f2 rfl;refine⟨s2,1,_,iK 5 eB 0 ks t.at_,ax.of ?_,.inr ⟨rfl,B,ks,rfl,g2,rfl⟩,iN _ _ _ _ _ (by omega) g4,g5,by omega,.fx (jy.eq_2 L _ _) (.st_t (h2 rfl).2.2 (.bind r1 r2))⟩;rw[SG];simp[h1,f1,g1]
theorem vJ{n:Nat}(ih:lJ L n (FB L) eD Ex.Ok (fG L)):lJ L (n+1) (qOp L) eD Ex.Ok (fE L):=
 lJ.weak (q:=fun s=>ahB (aW L) (iv s.a) (iv s.lv) (iv s.e) (iv s.w)) (fun s=>alN ev _ _ _ _ _) fun s hs hm=>by
  show bF L s eD Ex.Ok _ (body PG EE TT ev (ahB (aW L) (iv s.a) (iv s.lv) (iv s.e) (iv s.w)));rw[aqa];simp[fu,Tk.cells];simp[bM hL];generalize hT:aX L s=t;have hg:∀{s' v},Gr (fun m=>dP L sBs (gV L m t.at_) (dP L acg (dP L WJ (qI L m 1 t.at_) (qI L m 0 t.at_))
   (dP L sIf (ak (fG L m) fun a=>ak (aV L 6 aft) fun _=>ak (fG L m) fun b=>ak (aV L 6 afu) fun _=>ak (fG L m) fun c=>aS (iK 9 eB 0 [a,b,c] t.at_))
    (ak (iW L m) fun x=>jy L m t.at_ x)))) s s' v→Gr (fE L) s s' v:=fun hr=>.fx (fE.eq_2 L) (.next (by rw[hT];exact hr))
  refine dO (fun h1=>?_) (fun h1=>?_)
  ·obtain⟨b1,b2⟩:=bY h1
   have hp:=bE (L:=L) (iy h1).1;rw[may_t h1];obtain⟨v,s1,f1,f2,f3,f4,r1⟩:=aik hL ih (n+1) (Nat.le_refl _) t.at_ s.up b2 (by omega);simp only[qLa,bD,cZ,dG] at f1;simp[f1];exact bF.of _ _ s1 v (by simp) f2 (by omega) f4 (hg (.may_t h1 r1))
  ·rw[may_f h1]
   try simp[bM hL]
   refine dO (fun h2=>?_) (fun h2=>?_)
   ·obtain⟨b1,b2⟩:=bY h2
    have hp:=bE (L:=L) (iy h2).1;rw[may_t h2]
    try simp[bM hL]
    refine dO (fun h3=>?_) (fun h3=>?_)
    ·obtain⟨c1,c2⟩:=bY h3
     rw[may_t h3];obtain⟨v,s1,f1,f2,f3,f4,r1⟩:=bind_ok hL ih s.up.up c2 (by omega);simp only[FC,bD,cZ,dG] at f1;obtain⟨s2,l,hc,g2,g3,g4,g5,r2⟩:=ai8 hL (bind_ok hL ih) t.at_ v s1 (by omega) f2;have t1:=aQ (L:=L) (k:=6) (x:=⟨#[105,110]⟩) (by decide) s2;have t2:=bC (L:=L) (k:=6) (x:=⟨#[105,110]⟩) (by decide) g2;obtain⟨e,s3,k1,k2,k3,k4,r3⟩:=ih _ t2 (by omega);simp only[FB,aU] at k1;have hx:(Ex.mk 7 eB 1 ML [e] [] (v::l) t.at_).Ok:=TI _ _ _ _ _ _ _ _ JF (by simp) (by simpa using k4) (by simp) (by simp) (by simp;omega) (by
      intro x hx;rcases List.mem_cons.1 hx with rfl|hx
      ·exact f4
      ·exact g4 x hx)
     have hh:=hg (.may_f h1 (.may_t h2 (.may_t h3 (.fx (qI.eq_2 L 1 t.at_) (.bind r1 (.bind r2 (.bind (.take _ _ _) (.bind r3 .pure))))))));rcases hc with⟨rfl,hc⟩|hc
     ·simp[f1]
      simp[hc];simp[aR hL (k:=6) (by decide),Tk.cells];simp[k1];exact bF.of _ _ s3 _ (by simp[bG,lH,eP,Bw]) k2 (by omega) hx hh
     ·simp[f1]
      simp[hc];simp[aR hL (k:=6) (by decide),Tk.cells];simp[k1];exact bF.of _ _ s3 _ (by simp[bG,lH,eP]) k2 (by omega) hx hh
    ·rw[may_f h3]
     obtain⟨v,s1,f1,f2,f3,f4,r1⟩:=bind_ok hL ih s.up b2 (by omega);simp only[FC,bD,cZ,dG] at f1;obtain⟨s2,l,hc,g2,g3,g4,g5,r2⟩:=ai9 hL (bind_ok hL ih) t.at_ v s1 (by omega) f2;have t1:=aQ (L:=L) (k:=6) (x:=⟨#[105,110]⟩) (by decide) s2;have t2:=bC (L:=L) (k:=6) (x:=⟨#[105,110]⟩) (by decide) g2;obtain⟨e,s3,k1,k2,k3,k4,r3⟩:=ih _ t2 (by omega);simp only[FB,aU] at k1;have hx:(Ex.mk 7 eB 0 ML [e] [] (v::l) t.at_).Ok:=TI _ _ _ _ _ _ _ _ JF (by simp) (by simpa using k4) (by simp) (by simp) (by simp;omega) (by
      intro x hx;rcases List.mem_cons.1 hx with rfl|hx
      ·exact f4
      ·exact g4 x hx)
     have hh:=hg (.may_f h1 (.may_t h2 (.may_f h3 (.fx (qI.eq_2 L 0 t.at_) (.bind r1 (.bind r2 (.bind (.take _ _ _) (.bind r3 .pure))))))));rcases hc with⟨rfl,hc⟩|hc
     ·simp[f1]
      simp[hc];simp[aR hL (k:=6) (by decide),Tk.cells];simp[k1];exact bF.of _ _ s3 _ (by simp[bG,lH,eP,Bw]) k2 (by omega) hx hh
     ·simp[f1]
      simp[hc];simp[aR hL (k:=6) (by decide),Tk.cells];simp[k1];exact bF.of _ _ s3 _ (by simp[bG,lH,eP]) k2 (by omega) hx hh
   ·rw[may_f h2]
    try simp[bM hL]
    refine dO (fun h3=>?_) (fun h3=>?_)
    ·obtain⟨b1,b2⟩:=bY h3
     have hp:=bE (L:=L) (iy h3).1;rw[may_t h3];obtain⟨v1,s1,f1,f2,f3,f4,r1⟩:=ih s.up b2 (by omega);simp only[FB,bD,cZ,dG] at f1;have t1:=aQ (L:=L) (k:=6) (x:=⟨#[116,104,101,110]⟩) (by decide) s1;have t2:=bC (L:=L) (k:=6) (x:=⟨#[116,104,101,110]⟩) (by decide) f2;obtain⟨v2,s2,g1,g2,g3,g4,r2⟩:=ih _ t2 (by omega);simp only[FB,aU] at g1;have t3:=aQ (L:=L) (k:=6) (x:=⟨#[101,108,115,101]⟩) (by decide) s2;have t4:=bC (L:=L) (k:=6) (x:=⟨#[101,108,115,101]⟩) (by decide) g2;obtain⟨v3,s3,k1,k2,k3,k4,r3⟩:=ih _ t4 (by omega);simp only[FB,aU] at k1;simp[f1];simp[aR hL (k:=6) (by decide),Tk.cells];simp[g1];simp[aR hL (k:=6) (by decide),Tk.cells];simp[k1];exact bF.of _ _ s3 (iK 9 eB 0 [v1,v2,v3] t.at_) (by simp[bG,ajx,FU]) k2 (by omega) (iN _ _ _ _ _ (by simp) (by simp[f4,g4,k4])) (hg (.may_f h1 (.may_f h2 (.may_t h3 (.bind r1 (.bind (.take _ _ _) (.bind r2 (.bind (.take _ _ _) (.bind r3 .pure)))))))))
    ·rw[may_f h3]
     obtain⟨v,s1,f1,f2,f3,f4,r1⟩:=Ud hL ih s hs hm;obtain⟨s2,k,ys,e,g1,g2,g3,g4,g5,r2⟩:=amJ hL (Ud hL ih) t v f4 s1 (by omega) f2;have hh:=hg (.may_f h1 (.may_f h2 (.may_f h3 (.bind r1 r2))));rcases g2 with⟨rfl,rfl,rfl⟩|⟨rfl,B,ks,rfl,g6,rfl⟩
     ·simp at g1
      simp[f1];simp[g1];exact bF.of _ _ s2 e (by simp) g4 (by omega) g3 hh
     ·simp at g1
      simp[f1];simp[g1];exact bF.of (enc:=eD) _ [iv 5,sv eB,iv 0,iv 0,sv eB,iv 0,aF,.rows B,aF,aF,iv t.at_] s2 (iK 5 eB 0 ks t.at_) (by simp[g6.wd,exs]) g4 (by omega) g3 hh
theorem alj{n:Nat}(ih:lJ L n (qOp L) eD Ex.Ok (fE L)):∀(m:Nat) (s:St) (ops:List Tk) (l:List Ex),mu L s≤m→m≤n→s.a≤L.length→ops.length+m≤2000000→l.length=ops.length+1→(∀x∈l,x.Ok)→∃(s':St) (ops':List Tk) (l':List Ex),
  ev (P9 (ops.map Tk.cells) ((ops.map Tk.text).map fun x=>[sv x]) (l.map Ex.cells) (aW L) (iv s.a) (iv s.lv) (iv s.e) (iv s.w))=some (1,eU L s' [iv 0,sv eB,iv 0,iv 0,sv eB,iv 0,aF,aF,aF,aF,iv 0,strs (ops'.map Tk.text),aW ops',exs l'])∧
  l'.length=ops'.length+1∧(∀x∈l',x.Ok)∧s'.a≤L.length∧mu L s'≤mu L s∧ops'.length≤ops.length+m∧Gr (fun m=>o9 L m l ops) s s' (l',ops'):=by
 intro m
 induction m with
 |zero=>
  intro s ops l hm hn hs hl h2 h3;have hk:(aX L s).kind≠5:=fun h=>by
   have:=bE (L:=L) (dI (L:=L) (s:=s) (by omega)).1;omega
  exact⟨s,ops,l,ax.of (by rw[Iw];simp[fu,Tk.cells,hk,strs];exact⟨rfl,rfl⟩),h2,h3,hs,Nat.le_refl _,by omega,.fx (o9.eq_2 L l ops) (.kind_f hk .pure)⟩
 |succ m ihm=>
  intro s ops l hm hn hs hl h2 h3;by_cases hk:(aX L s).kind=5
  ·have he:=dI (L:=L) (s:=s) (by omega)
   have hp:=bE (L:=L) he.1;have t1:=aQ (L:=L) (k:=5) (x:=eB) (by decide) s;have t2:=bC (L:=L) (k:=5) (x:=eB) (by decide) hs;obtain⟨v,s1,f1,f2,f3,f4,r1⟩:=ih _ t2 (by omega);simp only[qOp,aU] at f1;obtain⟨s2,ops',l',g1,g3,g4,g5,g6,g7,r2⟩:=ihm s1 (ops++[aT L 5 eB s]) (l++[v]) (by omega) (by omega) f2 (by simp;omega) (by simp[h2]) (by
    intro x hx;rcases List.mem_append.1 hx with hx|hx
    ·exact h3 x hx
    ·rw[List.mem_singleton.1 hx];exact f4)
   have m1:(l++[v]).map Ex.cells=l.map Ex.cells++[eD v]:=by rw[List.map_append,List.map_cons,List.map_nil,Ex.cells_eq]
   have m2:(ops++[aT L 5 eB s]).map Tk.cells=ops.map Tk.cells++[[iv (aT L 5 eB s).kind,sv (aT L 5 eB s).text,iv (aT L 5 eB s).n,iv (aT L 5 eB s).at_]]:=by rw[List.map_append,List.map_cons,List.map_nil,Tk.cells]
   have m3:((ops++[aT L 5 eB s]).map Tk.text).map (fun x=>[sv x])=(ops.map Tk.text).map (fun x=>[sv x])++[[sv (aT L 5 eB s).text]]:=by rw[List.map_append,List.map_append,List.map_cons,List.map_nil,List.map_cons,List.map_nil]
   rw[m1,m2,m3] at g1;have a1:=fun k'=>aN (P:=PG) (d:=.fail) (k:=k') yF (Pp ops) (c:=[iv (aT L 5 eB s).kind,sv (aT L 5 eB s).text,iv (aT L 5 eB s).n,iv (aT L 5 eB s).at_]) rfl (by simp) (by simp;omega) (by decide)
   have a2:=fun k'=>aN (P:=PG) (d:=.fail) (k:=k') J7 (l9 (ops.map Tk.text)) (c:=[sv (aT L 5 eB s).text]) rfl (by simp) (by simp;omega) (by decide)
   have a3:=fun k'=>aN (P:=PG) (d:=.fail) (k:=k') vz (oo l) (c:=eD v) rfl (by simp) (by simp;omega) (by decide)
   refine⟨s2,ops',l',ax.of ?_,g3,g4,g5,by omega,by simp at g7;omega,.fx (o9.eq_2 L l ops) (.kind_t hk (.bind (.take _ _ _) (.bind r1 r2)))⟩;rw[Iw];simp[fu,Tk.cells,hk,-List.map_map];simp[aR hL (k:=5) (by decide),Tk.cells,-List.map_map];rw[a1,a2];simp[f1,-List.map_map];simp[a3,g1,-List.map_map]
  ·exact⟨s,ops,l,ax.of (by rw[Iw];simp[fu,Tk.cells,hk,strs];exact⟨rfl,rfl⟩),h2,h3,hs,Nat.le_refl _,by omega,.fx (o9.eq_2 L l ops) (.kind_f hk .pure)⟩
theorem wH(ops:List Tk):bZ (ops.map Tk.text)=Au ops:=by
 funext i;unfold bZ Au opAt;rw[List.getElem?_map];cases ops[i]?<;>rfl
theorem zl(V:Nat→Nat)(len:Nat):∀(n i k:Nat),iE V len n i=some k→k<len
 |0,i,k,h=>by rw[iE] at h;cases h
 |n+1,i,k,h=>by
  rw[iE] at h;split at h
  ·split at h
   ·cases h;assumption
   ·exact zl V len n _ k h
  ·cases h
omit hL in
theorem FX(l:List Ex)(ops:List Tk)(hl:∀x∈l,x.Ok):∀m f to,(fJ l ops m f to).Ok:=by
 have h0:∀f,(uK l f).Ok:=fun f=>by
  unfold uK;cases h:l[f]? with
  |none=>exact zh
  |some x=>exact hl x (List.mem_of_getElem? h)
 intro m
 induction m with
 |zero=>intro f to;rw[fJ];exact h0 f
 |succ m ih=>
  intro f to;rw[fJ];split
  ·exact h0 f
  ·have h1:=ih f (jw (Au ops) to to (f+1) f)
   have h2:=ih (jw (Au ops) to to (f+1) f+1) to;simp only;unfold opE;split
   ·exact iN _ _ _ _ _ (by simp) (by simp[h1,h2])
   ·split
    ·exact iN _ _ _ _ _ (by simp) (by simp[h1,h2])
    ·exact iN _ _ _ _ _ (by simp) (by simpa using⟨iN _ _ _ _ _ (by simp) (by simpa using⟨iN _ _ _ _ _ (by simp) (by simp),h1⟩),h2⟩)
theorem aiD{n:Nat}(ih:lJ L n (FB L) eD Ex.Ok (fG L)):lJ L (n+1) (FB L) eD Ex.Ok (fG L):=
 lJ.weak (q:=fun s=>acv (aW L) (iv s.a) (iv s.lv) (iv s.e) (iv s.w)) (fun s=>af6 ev _ _ _ _ _) fun s hs hm=>by
  show bF L s eD Ex.Ok _ (body PG EE TT ev (acv (aW L) (iv s.a) (iv s.lv) (iv s.e) (iv s.w)));rw[alR];by_cases he:s.e=0
  ·have hp:=bE (L:=L) he
   have d1:=Je (L:=L) s;have d2:=Eg (L:=L) s;simp only[ap2,ap1,bA,bI];simp[eq_true he,Ox];generalize hd:gQ L s=s1 at *;have hs1:s1.a≤L.length:=by omega
   simp only[←d2];obtain⟨v,s2,f1,f2,f3,f4,r1⟩:=vJ hL ih s1 hs1 (by omega);simp[f1];by_cases hk:(aX L s2).kind=5
   ·have he2:=dI (L:=L) (s:=s2) (by omega)
    have hp2:=bE (L:=L) he2.1;have t1:=aQ (L:=L) (k:=5) (x:=eB) (by decide) s2;have t2:=bC (L:=L) (k:=5) (x:=eB) (by decide) f2;obtain⟨v2,s3,g1,g2,g3,g4,r2⟩:=vJ hL ih _ t2 (by omega);simp only[qOp,aU] at g1;have hm3:=kV L s3;obtain⟨s4,ops,l,k1,k3,k4,k5,k6,k7,r3⟩:=alj hL (vJ hL ih) (mu L s3) s3 [aT L 5 eB s2] [v,v2] (Nat.le_refl _) (by omega) g2 (by simp;omega) rfl (by simp[f4,g4]);have ro:Gr (fun m=>o9 L m [v] []) s2 s4 (l,ops):=.fx (o9.eq_2 L [v] []) (.kind_t hk (.bind (.take _ _ _) (.bind r2 r3)));have m1:[v,v2].map Ex.cells=[eD v]++[eD v2]:=by rw[List.map_cons,List.map_cons,List.map_nil,Ex.cells_eq,Ex.cells_eq];rfl
    rw[m1] at k1;have hr:Raw 11 [eD v] ([v].map Ex.cells):=.one (by rw[Ex.cells_eq];simp) rfl (by simp);have a3:=fun k'=>aN (P:=PG) (d:=.fail) (k:=k') vz hr (c:=eD v2) rfl (by simp) (by simp) (by decide)
    have hc:ev (Gy [eD v] (aW L) (iv s2.a) (iv s2.lv) (iv s2.e) (iv s2.w))=some (1,eU L s4 [iv 0,sv eB,iv 0,iv 0,sv eB,iv 0,aF,aF,aF,aF,iv 0,strs (ops.map Tk.text),aW ops,exs l]):=ax.of (by
     rw[SK];simp[Tk.cells] at k1;simp[fu,Tk.cells,hk];simp[aR hL (k:=5) (by decide),Tk.cells];simp[g1];simp[a3,k1])
    have hol:ops.length≤2000000:=by simp at k7;omega
    have c1:=TM (ops.map Tk.text) (by simp;omega);rw[wH hL,List.length_map] at c1;simp[hc];refine dO (fun he4=>?_) (fun he4=>?_)
    ·simp[c1]
     unfold clI;cases hcl:iE (Au ops) ops.length ops.length 0 with
     |some i=>
      have hi:i<ops.length:=zl hL _ _ _ _ _ hcl;have he4':s4.e=0:=by simpa using he4
      simp[dV (xq hi),aas];exact⟨0,[iv 0,sv eB,iv 0,iv 0,sv eB,iv 0,aF,aF,aF,aF,iv 0],gZ 112 (opAt ops i).at_ s4,ex0,by simp only[eU,aeK,TF],by simp,by rw[I7];exact k5,by rw[I6 (by decide)];omega,zh,
       .fx (fG.eq_2 L) (.deepy hd (.bind r1 (.bind ro (.clash_t hcl _))) rfl rfl (fun e=>by simp[gZ,he4'] at e))⟩
     |none=>
      obtain⟨ys,b1,b2⟩:=TN l ops hol k3 ops.length 0 ops.length (Nat.zero_le _) (Nat.le_refl _) (by omega);obtain⟨A,B,C,D,rfl,hx⟩:=id b2;simp at b1;simp[b1];exact bF.of _ _ (JL s4) _ b2.wd k5 (by rw[rC];omega) (FX l ops k4 _ _ _) (.fx (fG.eq_2 L) (.deepx hd (.bind r1 (.bind ro (.clash_n hcl)))))
    ·have he4':s4.e≠0:=by simpa using he4
     exact bF.of _ _ s4 ex0 (by simp) k5 (by omega) zh (.fx (fG.eq_2 L) (.deepy hd (.bind r1 (.bind ro (.fault he4' rfl rfl))) rfl rfl (fun e=>absurd e he4')))
   ·have ro:Gr (fun m=>o9 L m [v] []) s2 s2 ([v],[]):=.fx (o9.eq_2 L [v] []) (.kind_f hk .pure)
    have hc:ev (Gy [eD v] (aW L) (iv s2.a) (iv s2.lv) (iv s2.e) (iv s2.w))=some (0,eU L s2 [iv 0,sv eB,iv 0,iv 0,sv eB,iv 0,aF,aF,aF,aF,iv 0,aF,aF,.rows [eD v]]):=ax.of (by
     rw[SK];simp[fu,hk,Tk.cells])
    have c5:ev (q89 (.rows []))=some (0,[iv (-1)]):=TM [] (by simp);simp[hc];refine dO (fun he4=>?_) (fun he4=>?_)
    ·obtain⟨ys,b1,b2⟩:=TN [v] [] (by simp) rfl 0 0 0 (Nat.le_refl _) (Nat.le_refl _) (by omega)
     have b4:ev (acp (.rows [eD v]) (.rows []) (iv 0) (iv 0))=some (0,ys):=by rw[←eP];exact b1
     obtain⟨A,B,C,D,rfl,hx⟩:=id b2;simp[c5,b4];exact bF.of _ _ (JL s2) _ b2.wd f2 (by rw[rC];omega) (FX [v] [] (by simpa using f4) _ _ _) (.fx (fG.eq_2 L) (.deepx hd (.bind r1 (.bind ro (.clash_n rfl)))))
    ·have he4':s2.e≠0:=by simpa using he4
     exact bF.of _ _ s2 ex0 (by simp) f2 (by omega) zh (.fx (fG.eq_2 L) (.deepy hd (.bind r1 (.bind ro (.fault he4' rfl rfl))) rfl rfl (fun e=>absurd e he4')))
  ·simp[he]
   exact bF.of _ _ s ex0 (by simp) hs (by have:=HZ (L:=L) he;omega) zh (.fault he rfl rfl)
theorem TH:∀n,lJ L n (FB L) eD Ex.Ok (fG L)
 |0=>fun s hs hm=>by
   have he:s.e≠0:=fun he=>by have:=bE (L:=L) he;omega
   refine⟨ex0,s,ax.of ?_,hs,by omega,zh,.fault he rfl rfl⟩;rw[af6,ax.of (q:=acv (aW L) (iv s.a) (iv s.lv) (iv s.e) (iv s.w)) (r:=(0,eU L s [iv 0,sv eB,iv 0,iv 0,sv eB,iv 0,aF,aF,aF,aF,iv 0])) (by rw[alR];simp[he])];simp[gN,eU]
 |n+1=>aiD hL (TH n)
theorem xX(n:Nat):lJ L n (FC L) iP Bd.Ok (Ap L):=(bind_ok hL (TH hL n)).mono (Nat.le_succ _)
end
end Go.Proofs.YtijcobeebaceoaaGreatDoor
