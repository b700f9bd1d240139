/- Joined texts. -/
import Derived.Test.YtijcobeebaceoaaGreatDoorBag
import Derived.Test.YtijcobeebaceoaaGreatDoorProg
import Derived.KernelRfl
import Derived.Test.YtijcobeebaceoaaGreatDoorBah
import Derived.Laws.StructEq
import Derived.Test.YtijcobeebaceoaaGreatDoorMq1
import Derived.Test.YtijcobeebaceoaaGreatDoorBai
set_option linter.unusedVariables false
set_option linter.unusedSimpArgs false
set_option linter.unusedSectionVars false
namespace Go.Proofs.YtijcobeebaceoaaGreatDoor
open Go.RowKit
inductive Ty where
 |mk (kind:Int) (name:ByteArray) (n:Int) (kids:List Ty)
inductive Pt where
 |mk (kind:Int) (name:ByteArray) (n:Int) (kids:List Pt) (at_:Int)
mutual
inductive Ex where
 |mk (kind:Int) (name:ByteArray) (n:Int) (t:Ty) (kids:List Ex) (alts:List Al) (binds:List Bd) (at_:Int)
inductive Al where
 |mk (p:Pt) (e:Ex)
inductive Bd where
 |mk (name:ByteArray) (e:Ex) (at_:Int)
end
def Ty.kind:Ty→Int | .mk k _ _ _=>k
def Ty.name:Ty→ByteArray | .mk _ s _ _=>s
def Ty.n:Ty→Int | .mk _ _ n _=>n
def Ty.kids:Ty→List Ty | .mk _ _ _ ks=>ks
def Pt.kind:Pt→Int | .mk k _ _ _ _=>k
def Pt.name:Pt→ByteArray | .mk _ s _ _ _=>s
def Pt.n:Pt→Int | .mk _ _ n _ _=>n
def Pt.kids:Pt→List Pt | .mk _ _ _ ks _=>ks
def Pt.at_:Pt→Int | .mk _ _ _ _ a=>a
def Ex.kind:Ex→Int | .mk k _ _ _ _ _ _ _=>k
def Ex.name:Ex→ByteArray | .mk _ s _ _ _ _ _ _=>s
def Ex.n:Ex→Int | .mk _ _ n _ _ _ _ _=>n
def Ex.t:Ex→Ty | .mk _ _ _ t _ _ _ _=>t
def Ex.kids:Ex→List Ex | .mk _ _ _ _ ks _ _ _=>ks
def Ex.alts:Ex→List Al | .mk _ _ _ _ _ l _ _=>l
def Ex.binds:Ex→List Bd | .mk _ _ _ _ _ _ l _=>l
def Ex.at_:Ex→Int | .mk _ _ _ _ _ _ _ a=>a
def Al.p:Al→Pt | .mk p _=>p
def Al.e:Al→Ex | .mk _ e=>e
def Bd.name:Bd→ByteArray | .mk s _ _=>s
def Bd.e:Bd→Ex | .mk _ e _=>e
def Bd.at_:Bd→Int | .mk _ _ a=>a
structure Cn where
 name:ByteArray
 args:List Ty
 at_:Int
structure Dt where
 name:ByteArray
 params:List ByteArray
 cons:List Cn
 deriv:List ByteArray
 at_:Int
structure Md where
 name:ByteArray
 t:Ty
 at_:Int
structure Cl where
 name:ByteArray
 var:ByteArray
 supers:List ByteArray
 methods:List Md
 defaults:List Bd
 at_:Int
structure Pd where
 cls:ByteArray
 t:Ty
structure It where
 cls:ByteArray
 head:Ty
 ctx:List Pd
 binds:List Bd
 at_:Int
mutual
def Ty.cells:Ty→List PV
 |.mk k s n ks=>[iv k,sv s,iv n,.rows (Ty.rows ks)]
def Ty.rows:List Ty→List (List PV)
 |[]=>[]
 |v::l=>v.cells::Ty.rows l
end
mutual
def Pt.cells:Pt→List PV
 |.mk k s n ks a=>[iv k,sv s,iv n,.rows (Pt.rows ks),iv a]
def Pt.rows:List Pt→List (List PV)
 |[]=>[]
 |v::l=>v.cells::Pt.rows l
end
theorem Ty.rows_eq:∀l,Ty.rows l=l.map Ty.cells
 |[]=>by rw[Ty.rows];rfl
 |v::l=>by rw[Ty.rows,Ty.rows_eq l];rfl
theorem Pt.rows_eq:∀l,Pt.rows l=l.map Pt.cells
 |[]=>by rw[Pt.rows];rfl
 |v::l=>by rw[Pt.rows,Pt.rows_eq l];rfl
def bH(l:List Ty):PV:=.rows (l.map Ty.cells)
def pts(l:List Pt):PV:=.rows (l.map Pt.cells)
def strs(l:List ByteArray):PV:=.rows (l.map fun s=>[sv s])
theorem Ty.cells_eq(t:Ty):t.cells=[iv t.kind,sv t.name,iv t.n,bH t.kids]:=by cases t;rw[Ty.cells,Ty.rows_eq];rfl
theorem Pt.cells_eq(p:Pt):p.cells=[iv p.kind,sv p.name,iv p.n,pts p.kids,iv p.at_]:=by cases p;rw[Pt.cells,Pt.rows_eq];rfl
mutual
def Ex.cells:Ex→List PV
 |.mk k s n t ks xs bs a=>[iv k,sv s,iv n,iv t.kind,sv t.name,iv t.n,bH t.kids,.rows (Ex.rows ks),.rows (Al.rows xs),.rows (Bd.rows bs),iv a]
def Al.cells:Al→List PV
 |.mk p e=>iv p.kind::sv p.name::iv p.n::pts p.kids::iv p.at_::e.cells
def Bd.cells:Bd→List PV
 |.mk s e a=>sv s::(e.cells++[iv a])
def Ex.rows:List Ex→List (List PV)
 |[]=>[]
 |v::l=>v.cells::Ex.rows l
def Al.rows:List Al→List (List PV)
 |[]=>[]
 |v::l=>v.cells::Al.rows l
def Bd.rows:List Bd→List (List PV)
 |[]=>[]
 |v::l=>v.cells::Bd.rows l
end
theorem Ex.rows_eq:∀l,Ex.rows l=l.map Ex.cells
 |[]=>by rw[Ex.rows];rfl
 |v::l=>by rw[Ex.rows,Ex.rows_eq l];rfl
theorem Al.rows_eq:∀l,Al.rows l=l.map Al.cells
 |[]=>by rw[Al.rows];rfl
 |v::l=>by rw[Al.rows,Al.rows_eq l];rfl
theorem Bd.rows_eq:∀l,Bd.rows l=l.map Bd.cells
 |[]=>by rw[Bd.rows];rfl
 |v::l=>by rw[Bd.rows,Bd.rows_eq l];rfl
def exs(l:List Ex):PV:=.rows (l.map Ex.cells)
def eu(l:List Al):PV:=.rows (l.map Al.cells)
def aZ(l:List Bd):PV:=.rows (l.map Bd.cells)
theorem Ex.cells_eq(e:Ex):e.cells=[iv e.kind,sv e.name,iv e.n,iv e.t.kind,sv e.t.name,iv e.t.n,bH e.t.kids,exs e.kids,eu e.alts,aZ e.binds,iv e.at_]:=by cases e;rw[Ex.cells,Ex.rows_eq,Al.rows_eq,Bd.rows_eq];rfl
theorem Al.cells_eq(x:Al):x.cells=[iv x.p.kind,sv x.p.name,iv x.p.n,pts x.p.kids,iv x.p.at_,iv x.e.kind,sv x.e.name,iv x.e.n,iv x.e.t.kind,sv x.e.t.name,iv x.e.t.n,bH x.e.t.kids,exs x.e.kids,eu x.e.alts,aZ x.e.binds,iv x.e.at_]:=by cases x;rw[Al.cells,Ex.cells_eq];rfl
theorem Bd.cells_eq(x:Bd):x.cells=[sv x.name,iv x.e.kind,sv x.e.name,iv x.e.n,iv x.e.t.kind,sv x.e.t.name,iv x.e.t.n,bH x.e.t.kids,exs x.e.kids,eu x.e.alts,aZ x.e.binds,iv x.e.at_,iv x.at_]:=by cases x;rw[Bd.cells,Ex.cells_eq];rfl
def Cn.cells(x:Cn):List PV:=[sv x.name,bH x.args,iv x.at_]
def pU(l:List Cn):PV:=.rows (l.map Cn.cells)
def Dt.cells(x:Dt):List PV:=[sv x.name,strs x.params,pU x.cons,strs x.deriv,iv x.at_]
def jq(l:List Dt):PV:=.rows (l.map Dt.cells)
def Md.cells(x:Md):List PV:=[sv x.name,iv x.t.kind,sv x.t.name,iv x.t.n,bH x.t.kids,iv x.at_]
def mP(l:List Md):PV:=.rows (l.map Md.cells)
def Cl.cells(x:Cl):List PV:=[sv x.name,sv x.var,strs x.supers,mP x.methods,aZ x.defaults,iv x.at_]
def cls(l:List Cl):PV:=.rows (l.map Cl.cells)
def Pd.cells(x:Pd):List PV:=[sv x.cls,iv x.t.kind,sv x.t.name,iv x.t.n,bH x.t.kids]
def sD(l:List Pd):PV:=.rows (l.map Pd.cells)
def It.cells(x:It):List PV:=[sv x.cls,iv x.head.kind,sv x.head.name,iv x.head.n,bH x.head.kids,sD x.ctx,aZ x.binds,iv x.at_]
def its(l:List It):PV:=.rows (l.map It.cells)
mutual
theorem Ty.ns:∀(v:Ty),∀p∈v.cells,NS p
 |.mk k s n ks,p,hp=>by
  have:=Ty.nsL ks;rw[Ty.cells] at hp;simp only[List.mem_cons,List.not_mem_nil,or_false] at hp;rcases hp with rfl|rfl|rfl|rfl
  ·exact .lit _
  ·exact .lit _
  ·exact .lit _
  ·exact .rows _ this
theorem Ty.nsL:∀(l:List Ty),∀c∈Ty.rows l,∀p∈c,NS p
 |[],c,hc,_,_=>by simp[Ty.rows] at hc
 |v::l,c,hc,p,hp=>by
  have h1:=Ty.ns v;have h2:=Ty.nsL l;rw[Ty.rows,List.mem_cons] at hc;rcases hc with rfl|hc
  ·exact h1 p hp
  ·exact h2 c hc p hp
end
mutual
theorem Pt.ns:∀(v:Pt),∀p∈v.cells,NS p
 |.mk k s n ks a,p,hp=>by
  have:=Pt.nsL ks;rw[Pt.cells] at hp;simp only[List.mem_cons,List.not_mem_nil,or_false] at hp;rcases hp with rfl|rfl|rfl|rfl|rfl
  ·exact .lit _
  ·exact .lit _
  ·exact .lit _
  ·exact .rows _ this
  ·exact .lit _
theorem Pt.nsL:∀(l:List Pt),∀c∈Pt.rows l,∀p∈c,NS p
 |[],c,hc,_,_=>by simp[Pt.rows] at hc
 |v::l,c,hc,p,hp=>by
  have h1:=Pt.ns v;have h2:=Pt.nsL l;rw[Pt.rows,List.mem_cons] at hc;rcases hc with rfl|hc
  ·exact h1 p hp
  ·exact h2 c hc p hp
end
@[simp] theorem aia(l:List Ty):NS (bH l):=by rw[bH,←Ty.rows_eq];exact .rows _ (Ty.nsL l)
@[simp] theorem aib(l:List Pt):NS (pts l):=by rw[pts,←Pt.rows_eq];exact .rows _ (Pt.nsL l)
theorem Bj{α:Type}{f:α→List PV}{l:List α}(h:∀x∈l,∀p∈f x,NS p):NS (.rows (l.map f)):=.rows _ fun c hc p hp=>by
 obtain⟨x,hx,rfl⟩:=List.mem_map.1 hc;exact h x hx p hp
@[simp] theorem anz(l:List ByteArray):NS (strs l):=Bj fun x _ p hp=>by simp at hp;subst hp;exact .lit _
mutual
theorem Ex.ns:∀(v:Ex),∀p∈v.cells,NS p
 |.mk k s n t ks xs bs a,p,hp=>by
  have h1:=Ex.nsL ks;have h2:=Al.nsL xs;have h3:=Bd.nsL bs;rw[Ex.cells] at hp;simp only[List.mem_cons,List.not_mem_nil,or_false] at hp;rcases hp with rfl|rfl|rfl|rfl|rfl|rfl|rfl|rfl|rfl|rfl|rfl
  ·exact .lit _
  ·exact .lit _
  ·exact .lit _
  ·exact .lit _
  ·exact .lit _
  ·exact .lit _
  ·exact aia _
  ·exact .rows _ h1
  ·exact .rows _ h2
  ·exact .rows _ h3
  ·exact .lit _
theorem Al.ns:∀(v:Al),∀p∈v.cells,NS p
 |.mk q e,p,hp=>by
  have h1:=Ex.ns e;rw[Al.cells] at hp;simp only[List.mem_cons] at hp;rcases hp with rfl|rfl|rfl|rfl|rfl|hp
  ·exact .lit _
  ·exact .lit _
  ·exact .lit _
  ·exact aib _
  ·exact .lit _
  ·exact h1 p hp
theorem Bd.ns:∀(v:Bd),∀p∈v.cells,NS p
 |.mk s e a,p,hp=>by
  have h1:=Ex.ns e;rw[Bd.cells] at hp;simp only[List.mem_cons,List.mem_append,List.not_mem_nil,or_false] at hp;rcases hp with rfl|hp|rfl
  ·exact .lit _
  ·exact h1 p hp
  ·exact .lit _
theorem Ex.nsL:∀(l:List Ex),∀c∈Ex.rows l,∀p∈c,NS p
 |[],c,hc,_,_=>by simp[Ex.rows] at hc
 |v::l,c,hc,p,hp=>by
  have h1:=Ex.ns v;have h2:=Ex.nsL l;rw[Ex.rows,List.mem_cons] at hc;rcases hc with rfl|hc
  ·exact h1 p hp
  ·exact h2 c hc p hp
theorem Al.nsL:∀(l:List Al),∀c∈Al.rows l,∀p∈c,NS p
 |[],c,hc,_,_=>by simp[Al.rows] at hc
 |v::l,c,hc,p,hp=>by
  have h1:=Al.ns v;have h2:=Al.nsL l;rw[Al.rows,List.mem_cons] at hc;rcases hc with rfl|hc
  ·exact h1 p hp
  ·exact h2 c hc p hp
theorem Bd.nsL:∀(l:List Bd),∀c∈Bd.rows l,∀p∈c,NS p
 |[],c,hc,_,_=>by simp[Bd.rows] at hc
 |v::l,c,hc,p,hp=>by
  have h1:=Bd.ns v;have h2:=Bd.nsL l;rw[Bd.rows,List.mem_cons] at hc;rcases hc with rfl|hc
  ·exact h1 p hp
  ·exact h2 c hc p hp
end
@[simp] theorem apT(l:List Ex):NS (exs l):=by rw[exs,←Ex.rows_eq];exact .rows _ (Ex.nsL l)
@[simp] theorem apW(l:List Al):NS (eu l):=by rw[eu,←Al.rows_eq];exact .rows _ (Al.nsL l)
@[simp] theorem apV(l:List Bd):NS (aZ l):=by rw[aZ,←Bd.rows_eq];exact .rows _ (Bd.nsL l)
@[simp] theorem apU(l:List Cn):NS (pU l):=Bj fun x _ p hp=>by
 simp only[Cn.cells,List.mem_cons,List.not_mem_nil,or_false] at hp;rcases hp with rfl|rfl|rfl<;>simp
@[simp] theorem apR(l:List Md):NS (mP l):=Bj fun x _ p hp=>by
 simp only[Md.cells,List.mem_cons,List.not_mem_nil,or_false] at hp;rcases hp with rfl|rfl|rfl|rfl|rfl|rfl<;>simp
@[simp] theorem apQ(l:List Pd):NS (sD l):=Bj fun x _ p hp=>by
 simp only[Pd.cells,List.mem_cons,List.not_mem_nil,or_false] at hp;rcases hp with rfl|rfl|rfl|rfl|rfl<;>simp
theorem PK:ja Tryz.prog 73 1 16:=ja.of (by kernel_rfl)
@[simp] theorem Y7{r:AV}(l:List ByteArray):mM Tryz.prog 73 (.pv (strs l)) r↔r=.pv (iv l.length):=by rw[strs,iQ PK,List.length_map]
theorem Zy{r:AV}{l:List ByteArray}{i:Nat}{x:ByteArray}(h:l[i]? = some x):nk Tryz.prog 73 (.pv (strs l)) (.pv (.lit (.int .i64 (i:Int)))) r↔r=.cptr [sv x]:=by
 rw[strs];exact jL PK (by rw[List.getElem?_map,h];rfl) rfl
theorem V9:ja Tryz.prog 23 4 56:=ja.of (by kernel_rfl)
@[simp] theorem adb{r:AV}(l:List Ty):mM Tryz.prog 23 (.pv (bH l)) r↔r=.pv (iv l.length):=by rw[bH,iQ V9,List.length_map]
theorem adH{r:AV}{l:List Ty}{i:Nat}{x:Ty}(h:l[i]? = some x):nk Tryz.prog 23 (.pv (bH l)) (.pv (.lit (.int .i64 (i:Int)))) r↔r=.cptr [iv x.kind,sv x.name,iv x.n,bH x.kids]:=by
 rw[bH];exact jL V9 (by rw[List.getElem?_map,h,Option.map_some,Ty.cells_eq]) rfl
theorem Wd:ja Tryz.prog 127 5 64:=ja.of (by kernel_rfl)
@[simp] theorem adf{r:AV}(l:List Pt):mM Tryz.prog 127 (.pv (pts l)) r↔r=.pv (iv l.length):=by rw[pts,iQ Wd,List.length_map]
theorem adI{r:AV}{l:List Pt}{i:Nat}{x:Pt}(h:l[i]? = some x):nk Tryz.prog 127 (.pv (pts l)) (.pv (.lit (.int .i64 (i:Int)))) r↔r=.cptr [iv x.kind,sv x.name,iv x.n,pts x.kids,iv x.at_]:=by
 rw[pts];exact jL Wd (by rw[List.getElem?_map,h,Option.map_some,Pt.cells_eq]) rfl
theorem Wl:ja Tryz.prog 51 11 168:=ja.of (by kernel_rfl)
@[simp] theorem adk{r:AV}(l:List Ex):mM Tryz.prog 51 (.pv (exs l)) r↔r=.pv (iv l.length):=by rw[exs,iQ Wl,List.length_map]
theorem adM{r:AV}{l:List Ex}{i:Nat}{x:Ex}(h:l[i]? = some x):nk Tryz.prog 51 (.pv (exs l)) (.pv (.lit (.int .i64 (i:Int)))) r↔r=.cptr [iv x.kind,sv x.name,iv x.n,iv x.t.kind,sv x.t.name,iv x.t.n,bH x.t.kids,exs x.kids,eu x.alts,aZ x.binds,iv x.at_]:=by
 rw[exs];exact jL Wl (by rw[List.getElem?_map,h,Option.map_some,Ex.cells_eq]) rfl
theorem Wq:ja Tryz.prog 52 16 232:=ja.of (by kernel_rfl)
@[simp] theorem adp{r:AV}(l:List Al):mM Tryz.prog 52 (.pv (eu l)) r↔r=.pv (iv l.length):=by rw[eu,iQ Wq,List.length_map]
theorem adR{r:AV}{l:List Al}{i:Nat}{x:Al}(h:l[i]? = some x):nk Tryz.prog 52 (.pv (eu l)) (.pv (.lit (.int .i64 (i:Int)))) r↔r=.cptr [iv x.p.kind,sv x.p.name,iv x.p.n,pts x.p.kids,iv x.p.at_,iv x.e.kind,sv x.e.name,iv x.e.n,iv x.e.t.kind,sv x.e.t.name,iv x.e.t.n,bH x.e.t.kids,exs x.e.kids,eu x.e.alts,aZ x.e.binds,iv x.e.at_]:=by
 rw[eu];exact jL Wq (by rw[List.getElem?_map,h,Option.map_some,Al.cells_eq]) rfl
theorem Wp:ja Tryz.prog 38 13 192:=ja.of (by kernel_rfl)
@[simp] theorem ado{r:AV}(l:List Bd):mM Tryz.prog 38 (.pv (aZ l)) r↔r=.pv (iv l.length):=by rw[aZ,iQ Wp,List.length_map]
theorem adQ{r:AV}{l:List Bd}{i:Nat}{x:Bd}(h:l[i]? = some x):nk Tryz.prog 38 (.pv (aZ l)) (.pv (.lit (.int .i64 (i:Int)))) r↔r=.cptr [sv x.name,iv x.e.kind,sv x.e.name,iv x.e.n,iv x.e.t.kind,sv x.e.t.name,iv x.e.t.n,bH x.e.t.kids,exs x.e.kids,eu x.e.alts,aZ x.e.binds,iv x.e.at_,iv x.at_]:=by
 rw[aZ];exact jL Wp (by rw[List.getElem?_map,h,Option.map_some,Bd.cells_eq]) rfl
theorem Wn:ja Tryz.prog 74 3 48:=ja.of (by kernel_rfl)
@[simp] theorem adm{r:AV}(l:List Cn):mM Tryz.prog 74 (.pv (pU l)) r↔r=.pv (iv l.length):=by rw[pU,iQ Wn,List.length_map]
theorem adO{r:AV}{l:List Cn}{i:Nat}{x:Cn}(h:l[i]? = some x):nk Tryz.prog 74 (.pv (pU l)) (.pv (.lit (.int .i64 (i:Int)))) r↔r=.cptr [sv x.name,bH x.args,iv x.at_]:=by
 rw[pU];exact jL Wn (by rw[List.getElem?_map,h,Option.map_some,Cn.cells]) rfl
theorem Wm:ja Tryz.prog 35 5 96:=ja.of (by kernel_rfl)
@[simp] theorem adl{r:AV}(l:List Dt):mM Tryz.prog 35 (.pv (jq l)) r↔r=.pv (iv l.length):=by rw[jq,iQ Wm,List.length_map]
theorem adN{r:AV}{l:List Dt}{i:Nat}{x:Dt}(h:l[i]? = some x):nk Tryz.prog 35 (.pv (jq l)) (.pv (.lit (.int .i64 (i:Int)))) r↔r=.cptr [sv x.name,strs x.params,pU x.cons,strs x.deriv,iv x.at_]:=by
 rw[jq];exact jL Wm (by rw[List.getElem?_map,h,Option.map_some,Dt.cells]) rfl
theorem Wi:ja Tryz.prog 78 6 80:=ja.of (by kernel_rfl)
@[simp] theorem adi{r:AV}(l:List Md):mM Tryz.prog 78 (.pv (mP l)) r↔r=.pv (iv l.length):=by rw[mP,iQ Wi,List.length_map]
theorem adK{r:AV}{l:List Md}{i:Nat}{x:Md}(h:l[i]? = some x):nk Tryz.prog 78 (.pv (mP l)) (.pv (.lit (.int .i64 (i:Int)))) r↔r=.cptr [sv x.name,iv x.t.kind,sv x.t.name,iv x.t.n,bH x.t.kids,iv x.at_]:=by
 rw[mP];exact jL Wi (by rw[List.getElem?_map,h,Option.map_some,Md.cells]) rfl
theorem Wo:ja Tryz.prog 36 6 112:=ja.of (by kernel_rfl)
@[simp] theorem adn{r:AV}(l:List Cl):mM Tryz.prog 36 (.pv (cls l)) r↔r=.pv (iv l.length):=by rw[cls,iQ Wo,List.length_map]
theorem adP{r:AV}{l:List Cl}{i:Nat}{x:Cl}(h:l[i]? = some x):nk Tryz.prog 36 (.pv (cls l)) (.pv (.lit (.int .i64 (i:Int)))) r↔r=.cptr [sv x.name,sv x.var,strs x.supers,mP x.methods,aZ x.defaults,iv x.at_]:=by
 rw[cls];exact jL Wo (by rw[List.getElem?_map,h,Option.map_some,Cl.cells]) rfl
theorem Wh:ja Tryz.prog 82 5 72:=ja.of (by kernel_rfl)
@[simp] theorem adg{r:AV}(l:List Pd):mM Tryz.prog 82 (.pv (sD l)) r↔r=.pv (iv l.length):=by rw[sD,iQ Wh,List.length_map]
theorem adJ{r:AV}{l:List Pd}{i:Nat}{x:Pd}(h:l[i]? = some x):nk Tryz.prog 82 (.pv (sD l)) (.pv (.lit (.int .i64 (i:Int)))) r↔r=.cptr [sv x.cls,iv x.t.kind,sv x.t.name,iv x.t.n,bH x.t.kids]:=by
 rw[sD];exact jL Wh (by rw[List.getElem?_map,h,Option.map_some,Pd.cells]) rfl
theorem Wj:ja Tryz.prog 37 8 128:=ja.of (by kernel_rfl)
@[simp] theorem adj{r:AV}(l:List It):mM Tryz.prog 37 (.pv (its l)) r↔r=.pv (iv l.length):=by rw[its,iQ Wj,List.length_map]
theorem adL{r:AV}{l:List It}{i:Nat}{x:It}(h:l[i]? = some x):nk Tryz.prog 37 (.pv (its l)) (.pv (.lit (.int .i64 (i:Int)))) r↔r=.cptr [sv x.cls,iv x.head.kind,sv x.head.name,iv x.head.n,bH x.head.kids,sD x.ctx,aZ x.binds,iv x.at_]:=by
 rw[its];exact jL Wj (by rw[List.getElem?_map,h,Option.map_some,It.cells]) rfl
structure Ev where
 datas:List Dt
 classes:List Cl
 insts:List It
structure Pg extends Ev where
 binds:List Bd
def bM:Nat:=9223372036854775807
section
variable{β:Type}{d:β}{k:AV→β}
theorem nW{l:List PV}(h:kM l):rR (.cptr l):=.cptr _ h
theorem U6(l:List ByteArray):gG Tryz.prog d 73 (.pv (strs l)) k=k (.pv (iv l.length)):=eY (fun _=>Y7 l) (bD _)
theorem dx{l:List ByteArray}{i:Nat}{x:ByteArray}(h:l[i]? = some x):fG Tryz.prog d 73 (.pv (strs l)) (.pv (.lit (.int .i64 (i:Int)))) k=k (.cptr [sv x]):=iy (fun _=>Zy h) (nW (by simp[gB,iM]))
theorem Za(l:List Ty):gG Tryz.prog d 23 (.pv (bH l)) k=k (.pv (iv l.length)):=eY (fun _=>adb l) (bD _)
theorem ZA{l:List Ty}{i:Nat}{x:Ty}(h:l[i]? = some x):fG Tryz.prog d 23 (.pv (bH l)) (.pv (.lit (.int .i64 (i:Int)))) k=k (.cptr [iv x.kind,sv x.name,iv x.n,bH x.kids]):=iy (fun _=>adH h) (nW (by simp[gB,iM]))
theorem Zd(l:List Pt):gG Tryz.prog d 127 (.pv (pts l)) k=k (.pv (iv l.length)):=eY (fun _=>adf l) (bD _)
theorem DK{l:List Pt}{i:Nat}{x:Pt}(h:l[i]? = some x):fG Tryz.prog d 127 (.pv (pts l)) (.pv (.lit (.int .i64 (i:Int)))) k=k (.cptr [iv x.kind,sv x.name,iv x.n,pts x.kids,iv x.at_]):=iy (fun _=>adI h) (nW (by simp[gB,iM]))
theorem Zg(l:List Ex):gG Tryz.prog d 51 (.pv (exs l)) k=k (.pv (iv l.length)):=eY (fun _=>adk l) (bD _)
theorem tF{l:List Ex}{i:Nat}{x:Ex}(h:l[i]? = some x):fG Tryz.prog d 51 (.pv (exs l)) (.pv (.lit (.int .i64 (i:Int)))) k=k (.cptr [iv x.kind,sv x.name,iv x.n,iv x.t.kind,sv x.t.name,iv x.t.n,bH x.t.kids,exs x.kids,eu x.alts,aZ x.binds,iv x.at_]):=iy (fun _=>adM h) (nW (by simp[gB,iM]))
theorem Zi(l:List Al):gG Tryz.prog d 52 (.pv (eu l)) k=k (.pv (iv l.length)):=eY (fun _=>adp l) (bD _)
theorem nY{l:List Al}{i:Nat}{x:Al}(h:l[i]? = some x):fG Tryz.prog d 52 (.pv (eu l)) (.pv (.lit (.int .i64 (i:Int)))) k=k (.cptr [iv x.p.kind,sv x.p.name,iv x.p.n,pts x.p.kids,iv x.p.at_,iv x.e.kind,sv x.e.name,iv x.e.n,iv x.e.t.kind,sv x.e.t.name,iv x.e.t.n,bH x.e.t.kids,exs x.e.kids,eu x.e.alts,aZ x.e.binds,iv x.e.at_]):=iy (fun _=>adR h) (nW (by simp[gB,iM]))
theorem LM(l:List Bd):gG Tryz.prog d 38 (.pv (aZ l)) k=k (.pv (iv l.length)):=eY (fun _=>ado l) (bD _)
theorem gy{l:List Bd}{i:Nat}{x:Bd}(h:l[i]? = some x):fG Tryz.prog d 38 (.pv (aZ l)) (.pv (.lit (.int .i64 (i:Int)))) k=k (.cptr [sv x.name,iv x.e.kind,sv x.e.name,iv x.e.n,iv x.e.t.kind,sv x.e.t.name,iv x.e.t.n,bH x.e.t.kids,exs x.e.kids,eu x.e.alts,aZ x.e.binds,iv x.e.at_,iv x.at_]):=iy (fun _=>adQ h) (nW (by simp[gB,iM]))
theorem Zh(l:List Cn):gG Tryz.prog d 74 (.pv (pU l)) k=k (.pv (iv l.length)):=eY (fun _=>adm l) (bD _)
theorem DU{l:List Cn}{i:Nat}{x:Cn}(h:l[i]? = some x):fG Tryz.prog d 74 (.pv (pU l)) (.pv (.lit (.int .i64 (i:Int)))) k=k (.cptr [sv x.name,bH x.args,iv x.at_]):=iy (fun _=>adO h) (nW (by simp[gB,iM]))
theorem LJ(l:List Dt):gG Tryz.prog d 35 (.pv (jq l)) k=k (.pv (iv l.length)):=eY (fun _=>adl l) (bD _)
theorem DT{l:List Dt}{i:Nat}{x:Dt}(h:l[i]? = some x):fG Tryz.prog d 35 (.pv (jq l)) (.pv (.lit (.int .i64 (i:Int)))) k=k (.cptr [sv x.name,strs x.params,pU x.cons,strs x.deriv,iv x.at_]):=iy (fun _=>adN h) (nW (by simp[gB,iM]))
theorem Zf(l:List Md):gG Tryz.prog d 78 (.pv (mP l)) k=k (.pv (iv l.length)):=eY (fun _=>adi l) (bD _)
theorem DN{l:List Md}{i:Nat}{x:Md}(h:l[i]? = some x):fG Tryz.prog d 78 (.pv (mP l)) (.pv (.lit (.int .i64 (i:Int)))) k=k (.cptr [sv x.name,iv x.t.kind,sv x.t.name,iv x.t.n,bH x.t.kids,iv x.at_]):=iy (fun _=>adK h) (nW (by simp[gB,iM]))
theorem LK(l:List Cl):gG Tryz.prog d 36 (.pv (cls l)) k=k (.pv (iv l.length)):=eY (fun _=>adn l) (bD _)
theorem tH{l:List Cl}{i:Nat}{x:Cl}(h:l[i]? = some x):fG Tryz.prog d 36 (.pv (cls l)) (.pv (.lit (.int .i64 (i:Int)))) k=k (.cptr [sv x.name,sv x.var,strs x.supers,mP x.methods,aZ x.defaults,iv x.at_]):=iy (fun _=>adP h) (nW (by simp[gB,iM]))
theorem Ze(l:List Pd):gG Tryz.prog d 82 (.pv (sD l)) k=k (.pv (iv l.length)):=eY (fun _=>adg l) (bD _)
theorem ZB{l:List Pd}{i:Nat}{x:Pd}(h:l[i]? = some x):fG Tryz.prog d 82 (.pv (sD l)) (.pv (.lit (.int .i64 (i:Int)))) k=k (.cptr [sv x.cls,iv x.t.kind,sv x.t.name,iv x.t.n,bH x.t.kids]):=iy (fun _=>adJ h) (nW (by simp[gB,iM]))
theorem LH(l:List It):gG Tryz.prog d 37 (.pv (its l)) k=k (.pv (iv l.length)):=eY (fun _=>adj l) (bD _)
theorem tC{l:List It}{i:Nat}{x:It}(h:l[i]? = some x):fG Tryz.prog d 37 (.pv (its l)) (.pv (.lit (.int .i64 (i:Int)))) k=k (.cptr [sv x.cls,iv x.head.kind,sv x.head.name,iv x.head.n,bH x.head.kids,sD x.ctx,aZ x.binds,iv x.at_]):=iy (fun _=>adL h) (nW (by simp[gB,iM]))
end
attribute [simp] U6 Za Zd Zg Zi LM Zh LJ Zf LK Ze LH
end Go.Proofs.YtijcobeebaceoaaGreatDoor
namespace Go.Proofs.YtijcobeebaceoaaGreatDoor
open Go.RowKit
theorem nE{α β:Type}{P:Program}(x:Go.Sem α)(f:α→Go.Sem β):bT P (x >>= f)=(bT P x).bind fun a=>bT P (f a):=by
 induction x with
 |pure a=>rfl
 |program k ih=>exact ih P
 |mark m k ih=>exact ih
 |_=>rfl
theorem mD{P:Program}{t:TypeId}{d:TypeDesc}(h:P.underlying t=some d):bT P (underlying t)=some d:=by
 have e : bT P (underlying t) = bT P (match P.underlying t with | some d => pure d | none => stuck "no such type" : Go.Sem TypeDesc) := rfl;rw [e, h]; rfl
theorem RX{α:Type}{P:Program}(a:α):bT P (pure a:Go.Sem α)=some a:=rfl
def byt(s:ByteArray)(i:Nat):Int:=((s.data.toList.getD i 0).toNat:Int)
theorem zJ(s:ByteArray)(i:Nat):0≤byt s i∧byt s i≤255:=by
 unfold byt;have:=(s.data.toList.getD i 0).toNat_lt;omega
abbrev cv(n:Int):PV:=.lit (.int .u8 n)
abbrev wv(n:Int):PV:=.lit (.int .u64 n)
@[simp] theorem ajt(k:IntKind)(n:Int):ES (.lit (.int k n))=.lit (.int k n):=rfl
section
variable{P:Program}{t:TypeId}{r:AV}{β:Type}{d:β}{k:AV→β}
theorem ade(ht:P.underlying t=some .string)(s:ByteArray):mM P t (.pv (sv s)) r↔r=.pv (iv s.size):=by
 have hl:∀ty,gU P .len #[t] ty [.pv (sv s)]=some (.pv (iv s.size)):=by
  intro ty;have h1:bT P (Builtin.len_ #[t] ty #[.string s])=some (.int .i64 s.size):=by
   simp only[Builtin.len_,List.getElem?_toArray,List.getElem?_cons_zero,nE,mD ht,Option.bind_some];rfl
  have h2:LP P #[t] (.pv (sv s))=none:=by
   unfold LP;simp[rowsOf,OP]
  unfold gU;simp only[h2,AV.val?,h1];simp[lK,pJ]
 constructor
 ·intro h;have:=h 0;rw[hl] at this;exact(Option.some.inj this).symm
 ·intro h ty;rw[hl,h]
theorem Zc(ht:P.underlying t=some .string)(s:ByteArray):gG P d t (.pv (sv s)) k=k (.pv (iv s.size)):=eY (fun _=>ade ht s) (bD _)
theorem adD(ht:P.underlying t=some .string){s:ByteArray}{i:Nat}(hi:i<s.size):rf P t (.pv (sv s)) (.pv (iv i))=some (.pv (cv (byt s i))):=by
 have hb:(if(0:Int)≤(i:Int) then s[((i:Int)).toNat]? else none)=some (s[i]'hi):=by
  rw[if_pos (by omega)];simp[hi]
 have h1:bT P (Instr.index t (.string s) (.int .i64 i))=some (.int .u8 (byt s i)):=by
  simp only[Instr.index,asIntOf,nE,RX,Option.bind_some,mD ht,hb];have e:byt s i=((s[i]'hi).toNat:Int):=by
   unfold byt;have hl:i<s.data.toList.length:=by simpa using hi
   rw[List.getD_eq_getElem?_getD,List.getElem?_eq_getElem hl];rfl
  rw[e]
 unfold rf;simp only[AV.val?,h1];simp[lK,pJ]
theorem Zx(ht:P.underlying t=some .string){s:ByteArray}{i:Nat}(hi:i<s.size):L6 P d t (.pv (sv s)) (.pv (iv i)) k=k (.pv (cv (byt s i))):=
 kS (lD (fun w=>by rw[adD ht hi];exact⟨fun h=>(Option.some.inj h).symm,fun h=>by rw[h]⟩) (bD _))
theorem ab4(ht:P.underlying t=some .string){s:ByteArray}{l m:Nat}(hl:l≤m)(hm:m≤s.size):AA P t (.pv (sv s)) (some (.pv (iv l))) (some (.pv (iv m))) (.pv (sv (s.extract l m))):=by
 intro ρ a b ha hb;cases a with
 |none=>cases ha
 |some x=>
  cases b with
  |none=>cases hb
  |some y=>
   have hx:ρ x=some (.pv (iv l)):=ha;have hy:ρ y=some (.pv (iv m)):=hb;have h1:bT P (Instr.sliceAt t (.string s) (some (.int .i64 l)) (some (.int .i64 m)) none)=some (.string (s.extract l m)):=by
    have e1:(0:Int)≤(m:Int)∧(m:Int)≤(s.size:Int):=by omega
    have e2:(0:Int)≤(l:Int)∧(l:Int)≤(m:Int):=by omega
    simp only[Instr.sliceAt,Instr.slice,Instr.sliceBounds,Instr.sliceBound,asIntOf,nE,RX,Option.bind_some,mD ht,if_pos e1,Option.isSome_none,Bool.false_eq_true,if_false,Int.toNat_natCast,if_pos e2]
   have h0:rowsOf (.pv (sv s))=none:=rfl;simp only[lQ,h0,AV.val?,FJ,hx,hy,Option.map_some,h1];rfl
theorem V8(ht:P.underlying t=some .string){s:ByteArray}{l m:Nat}(hl:l≤m)(hm:m≤s.size):Fe P d t (.pv (sv s)) (some (.pv (iv l))) (some (.pv (iv m))) k=k (.pv (sv (s.extract l m))):=PI (PE (ab4 ht hl hm)) (bD _)
theorem Vi{s t:TypeId}{ds:TypeDesc}{k1 k2:IntKind}(hs:P.underlying s=some ds)(ht:P.underlying t=some (.int k2))(n:Int):vF P s t (.pv (.lit (.int k1 n)))=some (.pv (.lit (.int k2 (k2.wrap n)))):=by
 have h1:bT P (convert s t (.int k1 n))=some (.int k2 (k2.wrap n)):=by
  simp only[convert,nE,mD hs,mD ht,Option.bind_some];cases ds<;>rfl
 simp only[vF,AV.val?,h1];rfl
theorem uW{s t:TypeId}{ds:TypeDesc}{k1 k2:IntKind}(hs:P.underlying s=some ds)(ht:P.underlying t=some (.int k2))(n:Int):rZ P d s t (.pv (.lit (.int k1 n))) k=k (.pv (.lit (.int k2 (k2.wrap n)))):=
 kS (lD (fun w=>by unfold J5;rw[Vi hs ht];exact⟨fun h=>(Option.some.inj h).symm,fun h=>by rw[h]⟩) (bD _))
theorem O1(l:List Int):tY (l.map fun n=>[cv n])=some l:=by
 induction l with
 |nil=>rfl
 |cons a l ih=>simp only[List.map_cons,tY,ih,Option.map_some]
theorem MC{s t e:TypeId}(hs:P.underlying s=some (.slice e))(he:P.underlying e=some (.int .u8))(ht:P.underlying t=some .string)(l:List Int) :
  vF P s t (.pv (.rows (l.map fun n=>[cv n])))=some (.pv (sv (Ku l))):=by
 simp only[vF,AV.val?,rowsOf,hs,ht,he,O1]
theorem Mx{s t e:TypeId}(hs:P.underlying s=some (.slice e))(he:P.underlying e=some (.int .u8))(ht:P.underlying t=some .string)(l:List Int) :
  rZ P d s t (.pv (.rows (l.map fun n=>[cv n]))) k=k (.pv (sv (Ku l))):=
 kS (lD (fun w=>by unfold J5;rw[MC hs he ht];exact⟨fun h=>(Option.some.inj h).symm,fun h=>by rw[h]⟩) (bD _))
variable{a b:Int}
theorem ML:jM P d .lss t (.pv (.lit (.int .u8 a))) (.pv (.lit (.int .u8 b))) k=k (.pv (.lit (.bool (decide (a<b))))):=dH (fun _=>dR.iff fun _ _=>rfl) (bD _)
theorem MN:jM P d .leq t (.pv (.lit (.int .u8 a))) (.pv (.lit (.int .u8 b))) k=k (.pv (.lit (.bool (decide (a≤b))))):=dH (fun _=>dR.iff fun _ _=>rfl) (bD _)
theorem MO:jM P d .gtr t (.pv (.lit (.int .u8 a))) (.pv (.lit (.int .u8 b))) k=k (.pv (.lit (.bool (decide (b<a))))):=dH (fun _=>dR.iff fun _ _=>rfl) (bD _)
theorem MP:jM P d .geq t (.pv (.lit (.int .u8 a))) (.pv (.lit (.int .u8 b))) k=k (.pv (.lit (.bool (decide (b≤a))))):=dH (fun _=>dR.iff fun _ _=>rfl) (bD _)
theorem MQ:jM P d .eql t (.pv (.lit (.int .u8 a))) (.pv (.lit (.int .u8 b))) k=k (.pv (.lit (.bool (decide (a=b))))):=dH (fun _=>dR.iff fun _ _=>by
 have e:(a==b)=decide (a=b):=by by_cases h:a=b<;>simp[h]
 rw[←e];rfl) (bD _)
theorem MJ:jM P d .neq t (.pv (.lit (.int .u8 a))) (.pv (.lit (.int .u8 b))) k=k (.pv (.lit (.bool (!decide (a=b))))):=dH (fun _=>dR.iff fun _ _=>by
 have e:(a==b)=decide (a=b):=by by_cases h:a=b<;>simp[h]
 rw[←e];rfl) (bD _)
theorem JL:jM P d .gtr t (.pv (.lit (.int .u64 a))) (.pv (.lit (.int .u64 b))) k=k (.pv (.lit (.bool (decide (b<a))))):=dH (fun _=>dR.iff fun _ _=>rfl) (bD _)
theorem JM:jM P d .geq t (.pv (.lit (.int .u64 a))) (.pv (.lit (.int .u64 b))) k=k (.pv (.lit (.bool (decide (b≤a))))):=dH (fun _=>dR.iff fun _ _=>rfl) (bD _)
theorem JN:jM P d .eql t (.pv (.lit (.int .u64 a))) (.pv (.lit (.int .u64 b))) k=k (.pv (.lit (.bool (decide (a=b))))):=dH (fun _=>dR.iff fun _ _=>by
 have e:(a==b)=decide (a=b):=by by_cases h:a=b<;>simp[h]
 rw[←e];rfl) (bD _)
theorem MI:jM P d .sub t (.pv (.lit (.int .u8 a))) (.pv (.lit (.int .u8 b))) k=k (.pv (.lit (.int .u8 (IntKind.u8.wrap (a-b))))):=dH (fun _=>dR.iff fun _ _=>rfl) (bD _)
theorem agu(hb:b≠0):jM P d .quo t (.pv (.lit (.int .u8 a))) (.pv (.lit (.int .u8 b))) k=k (.pv (.lit (.int .u8 (IntKind.u8.wrap (a.tdiv b))))):=dH (fun _=>dR.iff fun _ _=>by
 have h1:bT P (Op.intDiv .quo .u8 a b)=some (.int .u8 (IntKind.u8.wrap (a.tdiv b))):=by simp only[Op.intDiv,if_neg hb];rfl
 show (match bT P (Op.intDiv .quo .u8 a b) with|some r=>lK r|none=>none)=_;rw[h1];rfl) (bD _)
theorem JO:jM P d .add t (.pv (.lit (.int .u64 a))) (.pv (.lit (.int .u64 b))) k=k (.pv (.lit (.int .u64 (IntKind.u64.wrap (a+b))))):=dH (fun _=>dR.iff fun _ _=>rfl) (bD _)
theorem JH:jM P d .sub t (.pv (.lit (.int .u64 a))) (.pv (.lit (.int .u64 b))) k=k (.pv (.lit (.int .u64 (IntKind.u64.wrap (a-b))))):=dH (fun _=>dR.iff fun _ _=>rfl) (bD _)
theorem JJ:jM P d .mul t (.pv (.lit (.int .u64 a))) (.pv (.lit (.int .u64 b))) k=k (.pv (.lit (.int .u64 (IntKind.u64.wrap (a*b))))):=dH (fun _=>dR.iff fun _ _=>rfl) (bD _)
theorem JI(hb:b≠0):jM P d .rem t (.pv (.lit (.int .u64 a))) (.pv (.lit (.int .u64 b))) k=k (.pv (.lit (.int .u64 (a.tmod b)))):=dH (fun _=>dR.iff fun _ _=>by
 have h1:bT P (Op.intDiv .rem .u64 a b)=some (.int .u64 (a.tmod b)):=by simp only[Op.intDiv,if_neg hb];rfl
 show (match bT P (Op.intDiv .rem .u64 a b) with|some r=>lK r|none=>none)=_;rw[h1];rfl) (bD _)
theorem JK:jM P d .mul t (.pv (.lit (.int .i64 a))) (.pv (.lit (.int .i64 b))) k=k (.pv (.lit (.int .i64 (IntKind.i64.wrap (a*b))))):=dH (fun _=>dR.iff fun _ _=>rfl) (bD _)
end
attribute [simp] ML MN MO MP MQ MJ MI JL JM JN JO JH JJ JK
theorem yT:ja Tryz.prog 66 4 40:=ja.of (by kernel_rfl)
section
variable{β:Type}{d:β}{k:AV→β}
@[simp] theorem Zb(l:List Tk):gG Tryz.prog d 66 (.pv (aU l)) k=k (.pv (iv l.length)):=eY (fun _=>by rw[aU,iQ yT,List.length_map]) (bD _)
theorem dY{l:List Tk}{i:Nat}{x:Tk}(h:l[i]? = some x):fG Tryz.prog d 66 (.pv (aU l)) (.pv (.lit (.int .i64 (i:Int)))) k=k (.cptr [iv x.kind,sv x.text,iv x.n,iv x.at_]):=
 iy (fun _=>by rw[aU];exact jL yT (by rw[List.getElem?_map,h];rfl) rfl) (nW (by simp[gB,iM]))
end
abbrev eB:ByteArray:=⟨#[]⟩
def zT:Tk:=⟨0,eB,0,0⟩
structure St where
 a:Nat
 lv:Int
 e:Int
 w:Int
def St.up:St→St
 |⟨a,lv,e,w⟩=>⟨a+1,lv,e,w⟩
theorem nO(s:St):s.up.a=s.a+1:=by cases s;rfl
theorem aR(s:St):s.up.lv=s.lv:=by cases s;rfl
theorem bN(s:St):s.up.e=s.e:=by cases s;rfl
theorem bP(s:St):s.up.w=s.w:=by cases s;rfl
section
variable(L:List Tk)
def bg(s:St):Tk:=if s.e=0 then(L[s.a]?).getD zT else zT
def mu(s:St):Nat:=if s.e=0 then L.length-s.a+1 else 0
def iB(e w:Int)(s:St):St:=if s.e=0 then⟨s.a,s.lv,e,w⟩ else s
def gD(x:ByteArray)(s:St):Bool:=decide (6≤(bg L s).kind)&&decide ((bg L s).text=x)
def zw(x:ByteArray)(s:St):St:=if gD L x s then s.up else s
def okB(k:Int)(x:ByteArray)(s:St):Bool:=decide (s.e=0)&&(if k<6 then decide ((bg L s).kind=k) else gD L x s)
def aL(k:Int)(x:ByteArray)(s:St):Tk:=if okB L k x s then bg L s else zT
def au(k:Int)(x:ByteArray)(s:St):St:=if okB L k x s then s.up else iB 110 (bg L s).at_ s
def EX(s:St):St:=⟨s.a,IntKind.i64.wrap (s.lv+1),s.e,s.w⟩
def ic(s:St):St:=if 300<(EX s).lv then iB 111 (bg L (EX s)).at_ (EX s) else EX s
end
section
variable{L:List Tk}
theorem dO{s:St}(h:(bg L s).kind≠0):s.e=0∧s.a<L.length:=by
 unfold bg at h;split at h
 ·rename_i he
  refine⟨he,?_⟩;by_cases hl:s.a<L.length
  ·exact hl
  ·rw[List.getElem?_eq_none (by omega)] at h
   exact absurd rfl h
 ·exact absurd rfl h
theorem aW{s:St}(he:s.e=0):0<mu L s:=by unfold mu;rw[if_pos he];omega
theorem vB{s:St}(he:s.e=0)(hl:s.a<L.length):mu L s.up≤mu L s-1:=by
 unfold mu;simp only[bN,nO,he,if_true];omega
theorem wZ{s:St}{n:Nat}(hl:s.a<n)(hn:n≤1000000):IntKind.i64.wrap ((s.a:Int)+1)=(s.up.a:Int):=by
 rw[aP (by omega),nO];rfl
theorem Js{e w:Int}(he:e≠0)(s:St):mu L (iB e w s)=0:=by
 unfold mu iB;by_cases h:s.e=0<;>simp[h,he]
theorem Jt(e w:Int)(s:St):(iB e w s).a=s.a:=by unfold iB;split<;>rfl
theorem gZ{x:ByteArray}{s:St}(h:gD L x s=true):s.e=0∧s.a<L.length:=by
 unfold gD at h;simp only[Bool.and_eq_true,decide_eq_true_eq] at h;exact dO (by omega)
theorem YQ{k:Int}{x:ByteArray}{s:St}(hk:1≤k)(h:okB L k x s=true):s.e=0∧s.a<L.length:=by
 unfold okB at h;simp only[Bool.and_eq_true,decide_eq_true_eq] at h;refine⟨h.1,?_⟩;have h2:=h.2;split at h2
 ·simp only[decide_eq_true_eq] at h2
  exact(dO (by omega)).2
 ·exact(gZ h2).2
theorem aQ{k:Int}{x:ByteArray}(hk:1≤k)(s:St):mu L (au L k x s)≤mu L s-1:=by
 unfold au;split
 ·rename_i h
  obtain⟨h1,h2⟩:=YQ hk h;exact vB h1 h2
 ·rw[Js (by decide)];omega
theorem aV{k:Int}{x:ByteArray}(hk:1≤k){s:St}(hs:s.a≤L.length):(au L k x s).a≤L.length:=by
 unfold au;split
 ·rename_i h
  obtain⟨h1,h2⟩:=YQ hk h;rw[nO];exact h2
 ·rw[Jt];exact hs
@[simp] theorem aeV(e w:Int)(s:St):(iB e w s).a=s.a:=Jt e w s
@[simp] theorem TA(e w:Int)(s:St):(iB e w s).lv=s.lv:=by unfold iB;split<;>rfl
@[simp] theorem aO(k:Int)(x:ByteArray)(s:St):(au L k x s).lv=s.lv:=by
 unfold au;split
 ·exact aR s
 ·exact TA _ _ s
@[simp] theorem ap0(x:ByteArray)(s:St):(zw L x s).lv=s.lv:=by unfold zw;split<;>first|exact aR s|rfl
@[simp] theorem asW(x:ByteArray)(s:St):(zw L x s).e=s.e:=by unfold zw;split<;>first|exact bN s|rfl
@[simp] theorem asV(x:ByteArray)(s:St):(zw L x s).w=s.w:=by unfold zw;split<;>first|exact bP s|rfl
theorem JB(s:St):mu L (ic L s)≤mu L s:=by
 unfold ic;split
 ·rw[Js (by decide)];omega
 ·exact Nat.le_refl _
theorem Ez(s:St):(ic L s).a=s.a:=by
 unfold ic;split
 ·rw[Jt];rfl
 ·rfl
@[simp] theorem anY(s:St):(ic L s).a=s.a:=Ez s
theorem bS{x:ByteArray}{s:St}(h:gD L x s=true):mu L s.up≤mu L s-1∧s.up.a≤L.length:=⟨vB (gZ h).1 (gZ h).2,by rw[nO];exact(gZ h).2⟩
end
section
variable{L:List Tk}(hL:L.length≤1000000)
abbrev dh(L:List Tk)(s:St)(l:List PV):List PV:=aU L::iv s.a::iv s.lv::iv s.e::iv s.w::l
theorem kX(s:St):ev (ahR (aU L) (iv s.a) (iv s.lv) (iv s.e) (iv s.w))=some (0,dh L s (bg L s).cells):=
 ay.of (by
  rw[aqL];unfold bg Tk.cells;by_cases he:s.e=0
  ·by_cases hl:s.a<L.length
   ·have h1:=List.getElem?_eq_getElem hl
    have h2:¬L.length≤s.a:=by omega
    simp[he,dY h1,h2,h1,hl]
   ·have h1:=List.getElem?_eq_none (l:=L) (i:=s.a) (by omega)
    have h2:L.length≤s.a:=by omega
    simp[he,h1,h2,zT]
  ·simp[he,zT])
theorem Jr(e w:Int)(s:St):ev (ahI (iv e) (iv w) (aU L) (iv s.a) (iv s.lv) (iv s.e) (iv s.w))=some (0,dh L (iB e w s) []):=
 ay.of (by
  rw[aqy];unfold iB;by_cases he:s.e=0<;>simp[he])
theorem LY(x:ByteArray)(s:St):ev (ahF (sv x) (aU L) (iv s.a) (iv s.lv) (iv s.e) (iv s.w))=some (0,dh L s [bv (gD L x s)]):=
 ay.of (by
  rw[aqo];unfold gD;simp[kX,Tk.cells];by_cases h1:6≤(bg L s).kind
  ·by_cases h2:(bg L s).text=x<;>simp[h1,h2]
  ·simp[h1])
include hL in
theorem aij(x:ByteArray)(s:St):ev (ahQ (sv x) (aU L) (iv s.a) (iv s.lv) (iv s.e) (iv s.w))=some (0,dh L (zw L x s) [bv (gD L x s)]):=
 ay.of (by
  rw[aqK];unfold zw;cases h:gD L x s with
  |true=>
   have h1:=wZ (gZ h).2 hL;simp[LY,h,h1,aR,bN,bP]
  |false=>simp[LY,h])
include hL in
theorem abY{k:Int}(hk:1≤k)(x:ByteArray)(s:St):ev (ahS (iv k) (sv x) (aU L) (iv s.a) (iv s.lv) (iv s.e) (iv s.w))=some (0,dh L (au L k x s) (aL L k x s).cells):=
 ay.of (by
  rw[aqM];unfold au aL;by_cases he:s.e=0
  ·have hf:iB 110 (bg L s).at_ s=⟨s.a,s.lv,110,(bg L s).at_⟩:=by unfold iB;rw[if_pos he]
   cases ho:okB L k x s with
   |true=>
    have h1:=wZ (YQ hk ho).2 hL;unfold okB gD at ho;by_cases h6:k<6
    ·simp[eq_true he,h6] at ho
     have h7:¬6≤k:=by omega
     simp[kX,Tk.cells,eq_true he,h6,ho,h7,h1,aR,bN,bP]
    ·simp[eq_true he,h6] at ho
     have h7:6≤k:=by omega
     have h8:¬(bg L s).kind<6:=by omega
     simp[kX,Tk.cells,eq_true he,h6,ho,h7,h8,h1,aR,bN,bP]
   |false=>
    have e0:=Jr (L:=L) 110 (bg L s).at_ s;rw[hf] at e0;rw[hf];unfold okB gD at ho;by_cases h6:k<6
    ·simp[eq_true he,h6] at ho
     have h7:¬6≤k:=by omega
     simp[kX,Tk.cells,eq_true he,h6,ho,h7,e0,zT]
    ·simp[eq_true he,h6] at ho
     have h7:6≤k:=by omega
     by_cases h8:(bg L s).kind<6
     ·simp[kX,Tk.cells,eq_true he,h6,h7,h8,e0,zT]
     ·simp[kX,Tk.cells,eq_true he,h6,ho (by omega),h7,h8,e0,zT]
  ·have ho:okB L k x s=false:=by unfold okB;simp[he]
   have hz:bg L s=zT:=by unfold bg;rw[if_neg he]
   have hf:iB 110 (bg L s).at_ s=s:=by unfold iB;rw[if_neg he]
   simp[kX,Tk.cells,he,ho,hz];rw[←hz,hf]
   first|rfl|exact⟨rfl,rfl⟩|exact⟨rfl,rfl,rfl⟩|exact⟨rfl,rfl,rfl,rfl⟩)
theorem ae9(s:St):ev (ahH (aU L) (iv s.a) (iv s.lv) (iv s.e) (iv s.w))=some (0,dh L (ic L s) []):=
 ay.of (by
  rw[aqx];unfold ic;have e1:=kX (L:=L) (EX s);have e2:=Jr (L:=L) 111 (bg L (EX s)).at_ (EX s);by_cases h:300<(EX s).lv
  ·have h':=h
   unfold EX at h' e1 e2;simp only at h' e1 e2;simp only[if_pos h];simp[h',e1,e2,Tk.cells];exact⟨rfl,rfl,rfl,rfl⟩
  ·have h':=h
   unfold EX at h';simp only at h';simp only[if_neg h];simp[h',EX])
theorem dF{β:Type}{P:β→Prop}{b:Bool}{x y:β}(h1:b=true→P x)(h2:b=false→P y):P (bK b x y):=by
 cases b
 ·exact h2 rfl
 ·exact h1 rfl
@[simp] theorem St.eta(s:St):St.mk s.a s.lv s.e s.w=s:=rfl
@[simp] theorem St.etaTake(L:List Tk)(k:Int)(x:ByteArray)(s:St):St.mk (au L k x s).a s.lv (au L k x s).e (au L k x s).w=au L k x s:=by
 have h:=aO (L:=L) k x s;generalize au L k x s=t at *;obtain⟨a,lv,e,w⟩:=t;simp only at h;rw[h]
@[simp] theorem St.etaDeep(L:List Tk)(s:St):St.mk s.a (ic L s).lv (ic L s).e (ic L s).w=ic L s:=by
 have h:=Ez (L:=L) s;generalize ic L s=t at *;obtain⟨a,lv,e,w⟩:=t;simp only at h;rw[h]
@[simp] theorem St.etaUp(s:St):St.mk s.up.a s.lv s.e s.w=s.up:=by cases s;rfl
theorem fE(a:Nat)(lv e w:Int):ev (ahR (aU L) (iv a) (iv lv) (iv e) (iv w))=some (0,dh L ⟨a,lv,e,w⟩ (bg L ⟨a,lv,e,w⟩).cells):=kX ⟨a,lv,e,w⟩
theorem ap4(x:ByteArray)(a:Nat)(lv e w:Int):ev (ahF (sv x) (aU L) (iv a) (iv lv) (iv e) (iv w))=some (0,dh L ⟨a,lv,e,w⟩ [bv (gD L x ⟨a,lv,e,w⟩)]):=LY x ⟨a,lv,e,w⟩
theorem aaF(e' w':Int)(a:Nat)(lv e w:Int):ev (ahI (iv e') (iv w') (aU L) (iv a) (iv lv) (iv e) (iv w))=some (0,dh L (iB e' w' ⟨a,lv,e,w⟩) []):=Jr e' w' ⟨a,lv,e,w⟩
theorem OU(a:Nat)(lv e w:Int):ev (ahH (aU L) (iv a) (iv lv) (iv e) (iv w))=some (0,dh L (ic L ⟨a,lv,e,w⟩) []):=ae9 ⟨a,lv,e,w⟩
include hL in
theorem bG(x:ByteArray)(a:Nat)(lv e w:Int):ev (ahQ (sv x) (aU L) (iv a) (iv lv) (iv e) (iv w))=some (0,dh L (zw L x ⟨a,lv,e,w⟩) [bv (gD L x ⟨a,lv,e,w⟩)]):=aij hL x ⟨a,lv,e,w⟩
include hL in
theorem aK{k:Int}(hk:1≤k)(x:ByteArray)(a:Nat)(lv e w:Int):ev (ahS (iv k) (sv x) (aU L) (iv a) (iv lv) (iv e) (iv w))=some (0,dh L (au L k x ⟨a,lv,e,w⟩) (aL L k x ⟨a,lv,e,w⟩).cells):=abY hL hk x ⟨a,lv,e,w⟩
end
@[simp] theorem Kj:dL []=[]:=by rw[dL]
@[simp] theorem uj(p:PV)(l:List PV):dL (p::l)=kP p::dL l:=by rw[dL]
@[simp] theorem Pq(k:IntKind)(n:Int):kP (.lit (.int k n))=.lit (.int k n):=by rw[kP];rfl
@[simp] theorem Po(s:ByteArray):kP (.lit (.string s))=.lit (.string s):=by rw[kP];rfl
@[simp] theorem Pp:kP (.lit (.slice none 0 0))=.rows []:=by rw[kP];rfl
theorem bJ(es:List (List PV)):kP (.rows es)=.rows (fB es):=by rw[kP]
theorem kg:fB []=[]:=by rw[fB]
theorem iH(c:List PV)(l:List (List PV)):fB (c::l)=dL c::fB l:=by rw[fB]
mutual
theorem Ty.wd:∀t:Ty,dL t.cells=t.cells
 |.mk k s n ks=>by
  have h:=Ty.wdL ks;rw[Ty.cells];simp[bJ,h]
theorem Ty.wdL:∀l:List Ty,fB (Ty.rows l)=Ty.rows l
 |[]=>by rw[Ty.rows,fB]
 |v::l=>by
  have h1:=Ty.wd v;have h2:=Ty.wdL l;rw[Ty.rows,fB,h1,h2]
end
mutual
theorem Pt.wd:∀t:Pt,dL t.cells=t.cells
 |.mk k s n ks a=>by
  have h:=Pt.wdL ks;rw[Pt.cells];simp[bJ,h]
theorem Pt.wdL:∀l:List Pt,fB (Pt.rows l)=Pt.rows l
 |[]=>by rw[Pt.rows,fB]
 |v::l=>by
  have h1:=Pt.wd v;have h2:=Pt.wdL l;rw[Pt.rows,fB,h1,h2]
end
@[simp] theorem aog(l:List Ty):kP (bH l)=bH l:=by rw[bH,←Ty.rows_eq,bJ,Ty.wdL]
@[simp] theorem aoi(l:List Pt):kP (pts l)=pts l:=by rw[pts,←Pt.rows_eq,bJ,Pt.wdL]
theorem VK(a b:List PV):dL (a++b)=dL a++dL b:=by rw[l6,l6,l6,List.map_append]
theorem Um(a b:List (List PV)):fB (a++b)=fB a++fB b:=by rw[kR,kR,kR,List.map_append]
mutual
theorem Ex.wd:∀t:Ex,dL t.cells=t.cells
 |.mk k s n t ks xs bs a=>by
  have h1:=Ex.wdL ks;have h2:=Al.wdL xs;have h3:=Bd.wdL bs;rw[Ex.cells];simp[bJ,h1,h2,h3]
theorem Al.wd:∀t:Al,dL t.cells=t.cells
 |.mk p e=>by
  have h:=Ex.wd e;rw[Al.cells];simp[h]
theorem Bd.wd:∀t:Bd,dL t.cells=t.cells
 |.mk s e a=>by
  have h:=Ex.wd e;rw[Bd.cells];simp[VK,h]
theorem Ex.wdL:∀l:List Ex,fB (Ex.rows l)=Ex.rows l
 |[]=>by rw[Ex.rows,fB]
 |v::l=>by
  have h1:=Ex.wd v;have h2:=Ex.wdL l;rw[Ex.rows,fB,h1,h2]
theorem Al.wdL:∀l:List Al,fB (Al.rows l)=Al.rows l
 |[]=>by rw[Al.rows,fB]
 |v::l=>by
  have h1:=Al.wd v;have h2:=Al.wdL l;rw[Al.rows,fB,h1,h2]
theorem Bd.wdL:∀l:List Bd,fB (Bd.rows l)=Bd.rows l
 |[]=>by rw[Bd.rows,fB]
 |v::l=>by
  have h1:=Bd.wd v;have h2:=Bd.wdL l;rw[Bd.rows,fB,h1,h2]
end
@[simp] theorem aom(l:List Ex):kP (exs l)=exs l:=by rw[exs,←Ex.rows_eq,bJ,Ex.wdL]
@[simp] theorem aor(l:List Al):kP (eu l)=eu l:=by rw[eu,←Al.rows_eq,bJ,Al.wdL]
@[simp] theorem aoq(l:List Bd):kP (aZ l)=aZ l:=by rw[aZ,←Bd.rows_eq,bJ,Bd.wdL]
theorem sF{α:Type}{f:α→List PV}(l:List α)(h:∀x,dL (f x)=f x):kP (.rows (l.map f))=.rows (l.map f):=by
 rw[bJ,kR,List.map_map];congr 2;funext x;exact h x
@[simp] theorem am1(l:List ByteArray):kP (strs l)=strs l:=sF l fun x=>by simp
@[simp] theorem aoh(l:List Tk):kP (aU l)=aU l:=sF l fun x=>by simp[Tk.cells]
@[simp] theorem aoo(l:List Cn):kP (pU l)=pU l:=sF l fun x=>by simp[Cn.cells]
@[simp] theorem aok(l:List Md):kP (mP l)=mP l:=sF l fun x=>by simp[Md.cells]
@[simp] theorem aoj(l:List Pd):kP (sD l)=sD l:=sF l fun x=>by simp[Pd.cells]
@[simp] theorem aon(l:List Dt):kP (jq l)=jq l:=sF l fun x=>by simp[Dt.cells]
@[simp] theorem aop(l:List Cl):kP (cls l)=cls l:=sF l fun x=>by simp[Cl.cells]
@[simp] theorem aol(l:List It):kP (its l)=its l:=sF l fun x=>by simp[It.cells]
structure Raw(sz:Nat)(es cs:List (List PV)):Prop where
 w:fB es=cs
 n:∀c∈es,c.length=sz
 ns:∀c∈es,∀p∈c,NS p
theorem Raw.nil(sz:Nat):Raw sz [] []:=⟨kg,(fun c hc=>by cases hc),(fun c hc=>by cases hc)⟩
theorem Raw.app{sz:Nat}{es cs:List (List PV)}(h:Raw sz es cs){c c':List PV}(h1:dL c=c')(h2:c.length=sz)(h3:kM c):Raw sz (es++[c]) (cs++[c']):=
 ⟨by rw[Um,h.w,iH,kg,h1],fun d hd=>by
  rcases List.mem_append.1 hd with hd|hd
  ·exact h.n d hd
  ·rw[List.mem_singleton.1 hd];exact h2,fun d hd p hp=>by
  rcases List.mem_append.1 hd with hd|hd
  ·exact h.ns d hd p hp
  ·rw[List.mem_singleton.1 hd] at hp;exact h3 p hp⟩
theorem Raw.one{sz:Nat}{c c':List PV}(h1:dL c=c')(h2:c.length=sz)(h3:kM c):Raw sz [c] [c']:=(Raw.nil sz).app h1 h2 h3
theorem Raw.len{sz:Nat}{es cs:List (List PV)}(h:Raw sz es cs):es.length=cs.length:=by rw[←h.w,kR,List.length_map]
theorem Raw.wd{sz:Nat}{es cs:List (List PV)}(h:Raw sz es cs):kP (.rows es)=.rows cs:=by rw[bJ,h.w]
theorem Raw.of{α:Type}{f:α→List PV}{sz:Nat}(l:List α)(h1:∀x,dL (f x)=f x)(h2:∀x,(f x).length=sz)(h3:∀x,kM (f x)):Raw sz (l.map f) (l.map f):=
 ⟨by rw[kR,List.map_map];congr 1;funext x;exact h1 x,fun c hc=>by obtain⟨x,_,rfl⟩:=List.mem_map.1 hc;exact h2 x,fun c hc p hp=>by obtain⟨x,_,rfl⟩:=List.mem_map.1 hc;exact h3 x p hp⟩
section
variable{P:Program}{d:aM}{k:PV→aM}
theorem aH{t:TypeId}{sz b:Nat}(ht:ja P t sz b){es cs:List (List PV)}(h:Raw sz es cs){c:List PV}(hc:c.length=sz)(hn:kM c)(hl:es.length≤100000000)(hb:b≤1000) :
  iO P d t (.pv (.rows es)) (.pv (.rows [c])) k=k (.rows (es++[c])):=
 BR (fun w=>JV ht (Ad es) rfl (by simp) (fun c' h'=>by rw[List.mem_singleton.1 h'];exact hc) (by simp;omega)
  (Nat.le_trans (Nat.mul_le_mul (by simp;omega:es.length+[c].length≤100000001) hb) (by decide)))
  (.rows _ fun c' h' p hp=>by
   rcases List.mem_append.1 h' with h'|h'
   ·exact h.ns c' h' p hp
   ·rw[List.mem_singleton.1 h'] at hp;exact hn p hp)
end
inductive Rz(α:Type) where
 |out
 |err (e w:Int)
 |ok (v:α) (a:Nat)
def Rz.bind{α β:Type}(r:Rz α)(k:α→Nat→Rz β):Rz β:=match r with
 |.out=>.out
 |.err e w=>.err e w
 |.ok v a=>k v a
@[simp] theorem Rz.bind_out{α β:Type}(k:α→Nat→Rz β):(Rz.out:Rz α).bind k=.out:=rfl
@[simp] theorem Rz.bind_err{α β:Type}(e w:Int)(k:α→Nat→Rz β):(Rz.err e w:Rz α).bind k=.err e w:=rfl
@[simp] theorem Rz.bind_ok{α β:Type}(v:α)(a:Nat)(k:α→Nat→Rz β):(Rz.ok v a).bind k=k v a:=rfl
section
variable(L:List Tk)
def ai(a:Nat):Tk:=(L[a]?).getD zT
def lG(x:ByteArray)(a:Nat):Bool:=decide (6≤(ai L a).kind)&&decide ((ai L a).text=x)
def stT(a:Nat):Bool:=decide ((ai L a).kind=1)||(decide ((ai L a).kind=2)||lG L ⟨#[40]⟩ a)
abbrev Cr:ByteArray:=⟨#[45,62]⟩
abbrev KM:ByteArray:=⟨#[40]⟩
abbrev Cq:ByteArray:=⟨#[41]⟩
abbrev sUn:ByteArray:=⟨#[85,110,105,116]⟩
def afz(x:ByteArray)(a:Nat):Rz Unit:=if lG L x a then .ok () (a+1) else .err 110 (ai L a).at_
mutual
def iU:Nat→Int→Nat→Rz Ty
 |0,_,_=>.out
 |n+1,d,a=>if 300<d+1 then .err 111 (ai L a).at_ else
  (if(ai L a).kind=2 then(ol n (d+1) (a+1) []).bind fun l b=>.ok (.mk 3 (ai L a).text 0 l) b else fU n (d+1) a).bind fun x b=>
   if lG L Cr b then(iU n (d+1) (b+1)).bind fun y c=>.ok (.mk 3 Cr 0 [x,y]) c else .ok x b
def fU:Nat→Int→Nat→Rz Ty
 |0,_,_=>.out
 |n+1,d,a=>if(ai L a).kind=2 then .ok (.mk 3 (ai L a).text 0 []) (a+1)
  else if(ai L a).kind=1 then .ok (.mk 1 (ai L a).text 0 []) (a+1)
  else if lG L KM a then
   if lG L Cq (a+1) then .ok (.mk 3 sUn 0 []) (a+2)
   else(iU n d (a+1)).bind fun x b=>(afz L Cq b).bind fun _ c=>.ok x c
  else .err 110 (ai L a).at_
def ol:Nat→Int→Nat→List Ty→Rz (List Ty)
 |0,_,_,_=>.out
 |n+1,d,a,l=>if stT L a then(fU n d a).bind fun x b=>ol n d b (l++[x]) else .ok l a
end
end
structure Gg(L:List Tk):Prop where
 len:L.length≤1000000
 pos:0<L.length
 fin:∀a,(ai L a).kind≠0→a+1<L.length
 top:∀a,(ai L a).kind≤7
 k6:∀a,(ai L a).kind=6→(ai L a).text≠KM∧(ai L a).text≠⟨#[95]⟩
 k7:∀a,(ai L a).kind=7→(ai L a).text≠⟨#[99,97,115,101]⟩
abbrev GM(α:Type):=Int→Nat→Rz α
def pK{α:Type}:GM α:=fun _ _=>.out
def aX{α:Type}(v:α):GM α:=fun _ a=>.ok v a
def aA{α β:Type}(p:GM α)(k:α→GM β):GM β:=fun d a=>(p d a).bind fun v b=>k v d b
def AY{α:Type}(p:GM α):GM α:=fun d a=>p d (a+1)
def jo(x:ByteArray):Nat:=
 if x=⟨#[58,61]⟩ then 1 else if x=⟨#[124,124]⟩ then 2 else if x=⟨#[38,38]⟩ then 3
 else if x=⟨#[61,61]⟩∨x=⟨#[47,61]⟩∨x=⟨#[60]⟩∨x=⟨#[60,61]⟩∨x=⟨#[62]⟩∨x=⟨#[62,61]⟩ then 4
 else if x=⟨#[58,58]⟩∨x=⟨#[94]⟩ then 5 else if x=⟨#[43]⟩∨x=⟨#[45]⟩ then 6
 else if x=⟨#[42]⟩∨x=⟨#[47]⟩∨x=⟨#[37]⟩ then 7 else 8
def bW(k:Nat):Nat:=if k=4 then 0 else if k<6 then 2 else 1
def jE(V:Nat→Nat)(to:Nat):Nat→Nat→Nat→Nat
 |0,_,at_=>at_
 |n+1,i,at_=>if i<to then jE V to n (i+1) (if V i<V at_∨V i=V at_∧bW (V at_)=1 then i else at_) else at_
def Nf:Ty:=.mk 0 eB 0 []
def iP(k:Int)(s:ByteArray)(n:Int)(ks:List Ex)(a:Int):Ex:=.mk k s n Nf ks [] [] a
def opE(t:Tk)(x y:Ex):Ex:=
 if t.text=⟨#[38,38]⟩ then iP 10 eB 0 [x,y] t.at_ else if t.text=⟨#[124,124]⟩ then iP 11 eB 0 [x,y] t.at_
 else iP 5 eB 0 [iP 5 eB 0 [iP 3 t.text 0 [] t.at_,x] t.at_,y] t.at_
def opAt(ops:List Tk)(i:Nat):Tk:=(ops[i]?).getD zT
def ve(l:List Ex)(i:Nat):Ex:=(l[i]?).getD (iP 0 eB 0 [] 0)
def AX(ops:List Tk)(i:Nat):Nat:=jo (opAt ops i).text
def fQ(l:List Ex)(ops:List Tk):Nat→Nat→Nat→Ex
 |0,f,_=>ve l f
 |n+1,f,to=>if f=to then ve l f else
  let at_:=jE (AX ops) to to (f+1) f
  opE (opAt ops at_) (fQ l ops n f at_) (fQ l ops n (at_+1) to)
def wQ(V:Nat→Nat):Nat→Bool
 |0=>false
 |i+1=>if 4<V i then wQ V i else decide (V i=4)
def iK(V:Nat→Nat)(len:Nat):Nat→Nat→Option Nat
 |0,_=>none
 |n+1,k=>if k<len then(if V k=4∧wQ V k=true then some k else iK V len n (k+1)) else none
section
variable(L:List Tk)
def UX(k:Int)(x:ByteArray)(a:Nat):Bool:=if k<6 then decide ((ai L a).kind=k) else lG L x a
def aY(k:Int)(x:ByteArray):GM Tk:=fun _ a=>if UX L k x a then .ok (ai L a) (a+1) else .err 110 (ai L a).at_
def dV{α:Type}(x:ByteArray)(A B:GM α):GM α:=fun d a=>if lG L x a then A d (a+1) else B d a
def kz{α:Type}(k:Int)(A B:GM α):GM α:=fun d a=>if(ai L a).kind=k then A d a else B d a
def mZ{α:Type}(k:Tk→GM α):GM α:=fun d a=>k (ai L a) d a
def rY{α:Type}(p:GM α):GM α:=fun d a=>if 300<d+1 then .err 111 (ai L a).at_ else p (d+1) a
abbrev sUs:ByteArray:=⟨#[95]⟩
abbrev KN:ByteArray:=⟨#[99,97,115,101]⟩
def Gv(w:Int)(a:Nat):Bool:=decide ((ai L a).kind=1)||(decide ((ai L a).kind=2)||(lG L KM a||(decide (1≤w)&&decide ((ai L a).kind=3)||(decide (w=1)&&lG L sUs a||decide (w=2)&&(decide ((ai L a).kind=4)||lG L KN a)))))
def Vw{α:Type}(w:Int)(A B:GM α):GM α:=fun d a=>if Gv L w a then A d a else B d a
mutual
def jU:Nat→GM Pt
 |0=>pK
 |m+1=>mZ L fun t=>if t.kind=2 then AY (aX (.mk 3 t.text 0 [] t.at_)) else if t.kind=1 then AY (aX (.mk 2 t.text 0 [] t.at_))
   else if t.kind=3 then AY (aX (.mk 4 eB t.n [] t.at_)) else dV L sUs (aX (.mk 1 eB 0 [] t.at_))
    (aA (aY L 7 KM) fun _=>dV L Cq (aX (.mk 3 sUn 0 [] t.at_)) (aA (ou m) fun x=>aA (aY L 7 Cq) fun _=>aX x))
def ou:Nat→GM Pt
 |0=>pK
 |m+1=>rY L (mZ L fun t=>aA (jU m) fun x=>if t.kind=2 then aA (jy m []) fun l=>aX (.mk x.kind x.name x.n l x.at_) else aX x)
def jy:Nat→List Pt→GM (List Pt)
 |0,_=>pK
 |m+1,l=>Vw L 1 (aA (jU m) fun x=>jy m (l++[x])) (aX l)
end
abbrev sEq:ByteArray:=⟨#[61]⟩
abbrev sBs:ByteArray:=⟨#[92]⟩
abbrev acv:ByteArray:=⟨#[108,101,116]⟩
abbrev sIf:ByteArray:=⟨#[105,102]⟩
abbrev afD:ByteArray:=⟨#[116,104,101,110]⟩
abbrev afE:ByteArray:=⟨#[101,108,115,101]⟩
abbrev WU:ByteArray:=⟨#[114,101,99]⟩
abbrev aoL:ByteArray:=⟨#[97,110,100]⟩
abbrev sIn:ByteArray:=⟨#[105,110]⟩
abbrev sOf:ByteArray:=⟨#[111,102]⟩
abbrev ajV:ByteArray:=⟨#[124]⟩
abbrev acw:ByteArray:=⟨#[101,110,100]⟩
abbrev acy:ByteArray:=⟨#[58]⟩
abbrev ajU:ByteArray:=⟨#[44]⟩
abbrev NA:ByteArray:=⟨#[59]⟩
abbrev ahd:ByteArray:=⟨#[100,101,102]⟩
abbrev xD:ByteArray:=⟨#[102,114,111,109]⟩
abbrev mQ:ByteArray:=⟨#[119,104,101,114,101]⟩
abbrev WV:ByteArray:=⟨#[100,101,114,105,118,105,110,103]⟩
abbrev ajT:ByteArray:=⟨#[100,97,116,97]⟩
abbrev ahe:ByteArray:=⟨#[99,108,97,115,115]⟩
abbrev ajS:ByteArray:=⟨#[105,110,115,116,97,110,99,101]⟩
def Am:GM Tk:=dV L KM (aA (aY L 5 eB) fun t=>aA (aY L 7 Cq) fun _=>aX t) (aY L 1 eB)
def vo(l:List (ByteArray×Int))(e:Ex):Ex:=l.foldr (fun p e=>iP 6 p.1 0 [e] p.2) e
def rG(l:List Ex)(ops:List Tk):GM Ex:=match iK (AX ops) ops.length ops.length 0 with
 |some k=>fun _ _=>.err 112 (opAt ops k).at_
 |none=>aX (fQ l ops ops.length 0 ops.length)
mutual
def fK:Nat→GM Ex
 |0=>pK
 |m+1=>rY L (aA (fI m) fun x=>aA (pM m [x] []) fun r=>rG r.1 r.2)
def pM:Nat→List Ex→List Tk→GM (List Ex×List Tk)
 |0,_,_=>pK
 |m+1,l,o=>kz L 5 (aA (aY L 5 eB) fun t=>aA (fI m) fun x=>pM m (l++[x]) (o++[t])) (aX (l,o))
def fI:Nat→GM Ex
 |0=>pK
 |m+1=>mZ L fun t=>dV L sBs (iw m t.at_) (dV L acv (dV L WU (qY m 1 t.at_) (qY m 0 t.at_))
   (dV L sIf (aA (fK m) fun a=>aA (aY L 6 afD) fun _=>aA (fK m) fun b=>aA (aY L 6 afE) fun _=>aA (fK m) fun c=>aX (iP 9 eB 0 [a,b,c] t.at_))
    (aA (iY m) fun x=>jF m t.at_ x)))
def jF:Nat→Int→Ex→GM Ex
 |0,_,_=>pK
 |m+1,w,x=>Vw L 2 (aA (iY m) fun y=>jF m w (iP 5 eB 0 [x,y] w)) (aX x)
def iw:Nat→Int→GM Ex
 |0,_=>pK
 |m+1,w=>aA (aY L 1 eB) fun t=>gP m [(t.text,w)]
def gP:Nat→List (ByteArray×Int)→GM Ex
 |0,_=>pK
 |m+1,l=>kz L 1 (mZ L fun t=>AY (gP m (l++[(t.text,t.at_)]))) (aA (aY L 7 Cr) fun _=>aA (fK m) fun e=>aX (vo l e))
def qY:Nat→Int→Int→GM Ex
 |0,_,_=>pK
 |m+1,k,w=>aA (AO m) fun b=>aA (fq m [b]) fun l=>aA (aY L 6 sIn) fun _=>aA (fK m) fun e=>aX (.mk 7 eB k Nf [e] [] l w)
def AO:Nat→GM Bd
 |0=>pK
 |m+1=>aA (Am L) fun t=>aA (aY L 7 sEq) fun _=>aA (fK m) fun e=>aX (.mk t.text e t.at_)
def fq:Nat→List Bd→GM (List Bd)
 |0,_=>pK
 |m+1,l=>dV L aoL (aA (AO m) fun b=>fq m (l++[b])) (aX l)
def iY:Nat→GM Ex
 |0=>pK
 |m+1=>mZ L fun t=>if t.kind=1 then AY (aX (iP 3 t.text 0 [] t.at_)) else if t.kind=2 then AY (aX (iP 4 t.text 0 [] t.at_))
   else if t.kind=3 then AY (aX (iP 1 eB t.n [] t.at_)) else if t.kind=4 then AY (aX (iP 2 t.text 0 [] t.at_))
   else dV L KN (aA (fK m) fun x=>aA (aY L 6 sOf) fun _=>aA (kK m []) fun l=>aA (aY L 6 acw) fun _=>aX (.mk 8 eB 0 Nf [x] l [] t.at_))
    (aA (aY L 7 KM) fun _=>dV L Cq (aX (iP 4 sUn 0 [] t.at_)) (kz L 5 (aA (aY L 5 eB) fun o=>aA (aY L 7 Cq) fun _=>aX (iP 3 o.text 0 [] t.at_))
     (aA (fK m) fun y=>dV L acy (aA (iU L m) fun ty=>aA (aY L 7 Cq) fun _=>aX (.mk 12 eB 0 ty [y] [] [] t.at_)) (aA (aY L 7 Cq) fun _=>aX y))))
def kK:Nat→List Al→GM (List Al)
 |0,_=>pK
 |m+1,l=>aA (ou L m) fun p=>aA (aY L 7 Cr) fun _=>aA (fK m) fun e=>dV L ajV (kK m (l++[.mk p e])) (aX (l++[.mk p e]))
end
def kr:Nat→List ByteArray→GM (List ByteArray)
 |0,_=>pK
 |m+1,l=>kz L 1 (aA (aY L 1 eB) fun t=>kr m (l++[t.text])) (aX l)
def pG:Nat→List ByteArray→GM (List ByteArray)
 |0,_=>pK
 |m+1,l=>dV L ajU (aA (aY L 2 eB) fun t=>pG m (l++[t.text])) (aX l)
def jV(m:Nat):GM (List ByteArray):=aA (aY L 2 eB) fun t=>pG L m [t.text]
def bC(m:Nat)(l:List Ty):GM (List Ty):=fun d a=>ol L m d a l
def cZ:Nat→List Cn→GM (List Cn)
 |0,_=>pK
 |m+1,l=>aA (aY L 2 eB) fun c=>aA (bC L m []) fun tl=>dV L ajV (cZ m (l++[⟨c.text,tl,c.at_⟩])) (aX (l++[⟨c.text,tl,c.at_⟩]))
def yx(m:Nat):GM Dt:=aA (aY L 2 eB) fun t=>aA (kr L m []) fun ps=>aA (aY L 7 sEq) fun _=>aA (cZ L m []) fun cs=>
 dV L WV (aA (aY L 7 KM) fun _=>aA (jV L m) fun ds=>aA (aY L 7 Cq) fun _=>aX ⟨t.text,ps,cs,ds,t.at_⟩) (aX ⟨t.text,ps,cs,[],t.at_⟩)
def bR:Nat→List Md→List Bd→GM (List Md×List Bd)
 |0,_,_=>pK
 |m+1,ms,ds=>dV L acw (aX (ms,ds)) (dV L ahd (aA (AO L m) fun b=>aA (aY L 7 NA) fun _=>bR m ms (ds++[b]))
   (aA (Am L) fun n=>aA (aY L 7 acy) fun _=>aA (iU L m) fun ty=>aA (aY L 7 NA) fun _=>bR m (ms++[⟨n.text,ty,n.at_⟩]) ds))
def Tz(m:Nat):GM (List ByteArray):=dV L xD (jV L m) (aX [])
def rE(m:Nat):GM Cl:=aA (aY L 2 eB) fun t=>aA (aY L 1 eB) fun v=>aA (Tz L m) fun sup=>aA (aY L 6 mQ) fun _=>
 aA (bR L m [] []) fun r=>aX ⟨t.text,v.text,sup,r.1,r.2,t.at_⟩
def og:Nat→List Pd→GM (List Pd)
 |0,_=>pK
 |m+1,l=>aA (aY L 2 eB) fun c=>aA (aY L 1 eB) fun v=>dV L ajU (og m (l++[⟨c.text,.mk 1 v.text 0 []⟩])) (aX (l++[⟨c.text,.mk 1 v.text 0 []⟩]))
def d9:Nat→List Bd→GM (List Bd)
 |0,_=>pK
 |m+1,l=>dV L acw (aX l) (aA (aY L 6 ahd) fun _=>aA (AO L m) fun b=>aA (aY L 7 NA) fun _=>d9 m (l++[b]))
def xX(m:Nat):GM It:=aA (aY L 2 eB) fun t=>aA (fU L m) fun h=>aA (dV L xD (og L m []) (aX [])) fun c=>aA (aY L 6 mQ) fun _=>
 aA (d9 L m []) fun bs=>aX ⟨t.text,h,c,bs,t.at_⟩
def eU:Nat→Pg→GM Pg
 |0,_=>pK
 |m+1,p=>kz L 0 (aX p) (dV L ajT (aA (yx L m) fun x=>aA (aY L 7 NA) fun _=>eU m {p with datas:=p.datas++[x] })
   (dV L ahe (aA (rE L m) fun x=>aA (aY L 7 NA) fun _=>eU m {p with classes:=p.classes++[x] })
   (dV L ajS (aA (xX L m) fun x=>aA (aY L 7 NA) fun _=>eU m {p with insts:=p.insts++[x] })
   (aA (aY L 6 ahd) fun _=>aA (AO L m) fun x=>aA (aY L 7 NA) fun _=>eU m {p with binds:=p.binds++[x] }))))
end
structure Fin(s s':St)(b:Nat):Prop where
 a:s'.a=b
 lv:s'.lv=s.lv
 e:s'.e=0
 w:s'.w=s.w
def Kb(s:St):St:=⟨s.a,IntKind.i64.wrap (s.lv-1),s.e,s.w⟩
theorem may_t{L:List Tk}{x:ByteArray}{s:St}(h:gD L x s=true):zw L x s=s.up:=by unfold zw;rw[if_pos h]
theorem may_f{L:List Tk}{x:ByteArray}{s:St}(h:gD L x s=false):zw L x s=s:=by unfold zw;rw[h];rfl
theorem Sg{L:List Tk}{s:St}(h:s.e≠0):bg L s=zT:=by unfold bg;rw[if_neg h]
theorem l9{L:List Tk}{s:St}(h:s.e=0):bg L s=ai L s.a:=by unfold bg ai;rw[if_pos h]
theorem alz{L:List Tk}{x:ByteArray}{s:St}(h:s.e≠0):gD L x s=false:=by unfold gD;rw[Sg h];simp[zT]
theorem Sv{L:List Tk}{x:ByteArray}{s:St}(h:s.e=0):gD L x s=lG L x s.a:=by unfold gD lG;rw[l9 h]
def Rl{α:Type}(s s':St)(v:α)(r:Rz α):Prop:=
 (s.e≠0→s'.e=s.e∧s'.w=s.w)∧(s.e=0→0≤s.lv→s.lv≤300→match r with
  |.out=>False
  |.err e w=>e≠0∧s'.e=e∧s'.w=w
  |.ok x b=>v=x∧Fin s s' b)
def Gr{α:Type}(g:Nat→GM α)(s s':St)(v:α):Prop:=∃m0,∀m,m0≤m→Rl s s' v (g m s.lv s.a)
section
variable{α β:Type}{L:List Tk}{s s1 s2 s':St}{v:α}{v1:β}{g G A B:Nat→GM α}{p:Nat→GM β}
theorem Gr.of(hG:Gr G s s' v)(h:∀m,g (m+1)=G m):Gr g s s' v:=by
 obtain⟨m0,h0⟩:=hG;refine⟨m0+1,fun m hm=>?_⟩;obtain⟨m,rfl⟩:∃k,m=k+1:=⟨m-1,by omega⟩;rw[h];exact h0 m (by omega)
theorem Gr.fx(h:∀m,g (m+1)=G m)(hG:Gr G s s' v):Gr g s s' v:=hG.of h
theorem Gr.to(hG:Gr G s s' v)(h:∀m,g m=G m):Gr g s s' v:=by
 obtain⟨m0,h0⟩:=hG;exact⟨m0,fun m hm=>by rw[h];exact h0 m hm⟩
theorem Gr.tx(h:∀m,g m=G m)(hG:Gr G s s' v):Gr g s s' v:=by
 obtain⟨m0,h0⟩:=hG;exact⟨m0,fun m hm=>by rw[h];exact h0 m hm⟩
theorem Gr.pt(m1:Nat)(h:∀m,m1≤m→s.e=0→g m s.lv s.a=G m s.lv s.a)(hG:Gr G s s' v):Gr g s s' v:=by
 obtain⟨m0,h0⟩:=hG;refine⟨max m0 m1,fun m hm=>⟨(h0 m (by omega)).1,fun he l0 l1=>?_⟩⟩;rw[h m (by omega) he];exact(h0 m (by omega)).2 he l0 l1
theorem Gr.fault(h:s.e≠0)(h1:s'.e=s.e)(h2:s'.w=s.w):Gr g s s' v:=⟨0,fun m _=>⟨fun _=>⟨h1,h2⟩,fun he=>absurd he h⟩⟩
theorem Gr.pure:Gr (fun _=>aX v) s s v:=⟨0,fun m _=>⟨fun _=>⟨rfl,rfl⟩,fun he _ _=>⟨rfl,rfl,rfl,he,rfl⟩⟩⟩
theorem Gr.eq{u:α}(h:Gr g s s' v)(e:v=u):Gr g s s' u:=e ▸ h
theorem Rl.bind{r:Rz β}{k:β→GM α}(h1:Rl s s1 v1 r)(h2:Rl s1 s2 v (k v1 s1.lv s1.a)):Rl s s2 v (r.bind fun x b=>k x s.lv b):=by
 refine⟨fun he=>?_,fun he l0 l1=>?_⟩
 ·obtain⟨a1,a2⟩:=h1.1 he
  obtain⟨b1,b2⟩:=h2.1 (by rw[a1];exact he);exact⟨b1.trans a1,b2.trans a2⟩
 ·have h:=h1.2 he l0 l1
  cases r with
  |out=>exact h
  |err e w=>
   obtain⟨c0,c1,c2⟩:=h;obtain⟨b1,b2⟩:=h2.1 (by rw[c1];exact c0);exact⟨c0,b1.trans c1,b2.trans c2⟩
  |ok x b=>
   obtain⟨rfl,hf⟩:=h;have h3:=h2.2 hf.e (by rw[hf.lv];exact l0) (by rw[hf.lv];exact l1);rw[hf.lv,hf.a] at h3;rw[Rz.bind_ok];cases hr:k v1 s.lv b with
   |out=>rw[hr] at h3;exact h3
   |err e w=>rw[hr] at h3;exact h3
   |ok y c=>
    rw[hr] at h3;obtain⟨e1,f⟩:=h3;exact⟨e1,f.a,f.lv.trans hf.lv,f.e,f.w.trans hf.w⟩
theorem Gr.bind{k:Nat→β→GM α}(h1:Gr p s s1 v1)(h2:Gr (fun m=>k m v1) s1 s2 v):Gr (fun m=>aA (p m) (k m)) s s2 v:=by
 obtain⟨a,ha⟩:=h1;obtain⟨b,hb⟩:=h2;exact⟨max a b,fun m hm=>Rl.bind (k:=k m) (ha m (by omega)) (hb m (by omega))⟩
theorem Gr.take(k:Int)(x:ByteArray)(s:St):Gr (fun _=>aY L k x) s (au L k x s) (aL L k x s):=by
 refine⟨0,fun m _=>⟨fun he=>?_,fun he _ _=>?_⟩⟩
 ·unfold au okB;simp[iB,he]
 ·have hok:okB L k x s=UX L k x s.a:=by unfold okB UX;rw[Sv he,l9 he];simp[he]
  simp only[aY];unfold au aL;rw[hok];cases h:UX L k x s.a with
  |true=>simp only[if_true];exact⟨l9 he,nO s,aR s,(bN s).trans he,bP s⟩
  |false=>simp only[Bool.false_eq_true,if_false];rw[l9 he];simp[iB,he]
theorem Gr.may_t{x:ByteArray}(h:gD L x s=true)(hA:Gr A s.up s' v):Gr (fun m=>dV L x (A m) (B m)) s s' v:=by
 obtain⟨m0,h0⟩:=hA;have he:=(gZ h).1;refine⟨m0,fun m hm=>?_⟩;have hi:lG L x s.a=true:=by rw[←Sv he];exact h
 simp only[dV];rw[hi,if_pos rfl];have:=h0 m hm;rw[aR,nO] at this;refine⟨fun hne=>absurd he hne,fun _ l0 l1=>?_⟩;have h2:=this.2 ((bN s).trans he) (by rw[aR];exact l0) (by rw[aR];exact l1);cases hr:A m s.lv (s.a+1) with
 |out=>rw[hr] at h2;exact h2
 |err e w=>rw[hr] at h2;exact h2
 |ok y c=>rw[hr] at h2;exact⟨h2.1,h2.2.a,h2.2.lv.trans (aR s),h2.2.e,h2.2.w.trans (bP s)⟩
theorem Gr.may_f{x:ByteArray}(h:gD L x s=false)(hB:Gr B s s' v):Gr (fun m=>dV L x (A m) (B m)) s s' v:=by
 obtain⟨m0,h0⟩:=hB;refine⟨m0,fun m hm=>⟨(h0 m hm).1,fun he l0 l1=>?_⟩⟩;have hi:lG L x s.a=false:=by rw[←Sv he];exact h
 simp only[dV];rw[hi];simpa using(h0 m hm).2 he l0 l1
theorem Gr.kind_t{k:Int}(h:(bg L s).kind=k)(hA:Gr A s s' v):Gr (fun m=>kz L k (A m) (B m)) s s' v:=by
 obtain⟨m0,h0⟩:=hA;refine⟨m0,fun m hm=>⟨(h0 m hm).1,fun he l0 l1=>?_⟩⟩;rw[l9 he] at h;simp only[kz];rw[if_pos h];exact(h0 m hm).2 he l0 l1
theorem Gr.kind_f{k:Int}(h:(bg L s).kind≠k)(hB:Gr B s s' v):Gr (fun m=>kz L k (A m) (B m)) s s' v:=by
 obtain⟨m0,h0⟩:=hB;refine⟨m0,fun m hm=>⟨(h0 m hm).1,fun he l0 l1=>?_⟩⟩;rw[l9 he] at h;simp only[kz];rw[if_neg h];exact(h0 m hm).2 he l0 l1
theorem Gr.next{k:Nat→Tk→GM α}(h:Gr (fun m=>k m (bg L s)) s s' v):Gr (fun m=>mZ L (k m)) s s' v:=by
 obtain⟨m0,h0⟩:=h;refine⟨m0,fun m hm=>⟨(h0 m hm).1,fun he l0 l1=>?_⟩⟩;have:=(h0 m hm).2 he l0 l1;rw[l9 he] at this;exact this
theorem Gr.up(he:s.e=0)(h:Gr A s.up s' v):Gr (fun m=>AY (A m)) s s' v:=by
 obtain⟨m0,h0⟩:=h;refine⟨m0,fun m hm=>⟨fun hne=>absurd he hne,fun _ l0 l1=>?_⟩⟩;have:=h0 m hm;rw[aR,nO] at this;have h2:=this.2 ((bN s).trans he) (by rw[aR];exact l0) (by rw[aR];exact l1);simp only[AY];cases hr:A m s.lv (s.a+1) with
 |out=>rw[hr] at h2;exact h2
 |err e w=>rw[hr] at h2;exact h2
 |ok y c=>rw[hr] at h2;exact⟨h2.1,h2.2.a,h2.2.lv.trans (aR s),h2.2.e,h2.2.w.trans (bP s)⟩
theorem Gr.st_t{w:Int}(h:Gv L w s.a=true)(hA:Gr A s s' v):Gr (fun m=>Vw L w (A m) (B m)) s s' v:=by
 obtain⟨m0,h0⟩:=hA;refine⟨m0,fun m hm=>?_⟩;simp only[Vw];rw[if_pos h];exact h0 m hm
theorem Gr.st_f{w:Int}(h:s.e=0→Gv L w s.a=false)(hB:Gr B s s' v):Gr (fun m=>Vw L w (A m) (B m)) s s' v:=by
 obtain⟨m0,h0⟩:=hB;refine⟨m0,fun m hm=>⟨(h0 m hm).1,fun he l0 l1=>?_⟩⟩;simp only[Vw];rw[h he];simpa using(h0 m hm).2 he l0 l1
theorem Gr.if_t{c:Prop}[Decidable c](h:c)(hA:Gr A s s' v):Gr (fun m=>if c then A m else B m) s s' v:=hA.to fun m=>if_pos h
theorem Gr.if_f{c:Prop}[Decidable c](h:¬c)(hB:Gr B s s' v):Gr (fun m=>if c then A m else B m) s s' v:=hB.to fun m=>if_neg h
theorem Gr.deep'{s3:St}(h:Gr A (ic L s) s2 v)(h3:s3.e=s2.e)(h4:s3.w=s2.w)(h5:s2.e=0→s3=Kb s2):Gr (fun m=>rY L (A m)) s s3 v:=by
 obtain⟨m0,h0⟩:=h;refine⟨m0,fun m hm=>⟨fun he=>?_,fun he l0 l1=>?_⟩⟩
 ·have hd:(ic L s).e=s.e∧(ic L s).w=s.w:=by
   unfold ic;split
   ·have:(EX s).e≠0:=he
    simp[iB,this];exact⟨rfl,rfl⟩
   ·exact⟨rfl,rfl⟩
  obtain⟨b1,b2⟩:=(h0 m hm).1 (by rw[hd.1];exact he);exact⟨h3.trans (b1.trans hd.1),h4.trans (b2.trans hd.2)⟩
 ·have hw:(EX s).lv=s.lv+1:=by unfold EX;exact aP (by omega)
  have hz:(EX s).e=0:=he;simp only[rY];by_cases hc:300<s.lv+1
  ·rw[if_pos hc]
   have hd:ic L s=iB 111 (bg L (EX s)).at_ (EX s):=by unfold ic;rw[if_pos (by rw[hw];exact hc)]
   have hn:bg L (EX s)=ai L s.a:=l9 hz;have hE:(ic L s).e=111∧(ic L s).w=(ai L s.a).at_:=by rw[hd,hn];simp[iB,hz]
   obtain⟨b1,b2⟩:=(h0 m hm).1 (by rw[hE.1];decide);exact⟨by decide,h3.trans (b1.trans hE.1),h4.trans (b2.trans hE.2)⟩
  ·rw[if_neg hc]
   have hd:ic L s=EX s:=by unfold ic;rw[if_neg (by rw[hw];exact hc)]
   have h6:=h0 m hm;rw[hd] at h6;have h7:=h6.2 hz (by rw[hw];omega) (by rw[hw];omega);rw[hw] at h7;show match A m (s.lv+1) s.a with | .out=>False | .err e w=>_ | .ok x b=>_
   cases hr:A m (s.lv+1) s.a with
   |out=>exact(by rw[show (EX s).a=s.a from rfl,hr] at h7;exact h7)
   |err e w=>
    rw[show (EX s).a=s.a from rfl,hr] at h7;exact⟨h7.1,h3.trans h7.2.1,h4.trans h7.2.2⟩
   |ok x b=>
    rw[show (EX s).a=s.a from rfl,hr] at h7;obtain⟨e1,f⟩:=h7;have e3:=h5 f.e;subst e3;refine⟨e1,f.a,?_,f.e,f.w⟩;show IntKind.i64.wrap (s2.lv-1)=s.lv;rw[f.lv,hw,aP (by omega)];omega
theorem Gr.takex{k:Int}{x:ByteArray}{t:Tk}(h:au L k x s=s1)(ht:aL L k x s=t):Gr (fun _=>aY L k x) s s1 t:=by
 rw[←h,←ht];exact Gr.take k x s
theorem Gr.deepx(hd:ic L s=s1)(h:Gr A s1 s2 v):Gr (fun m=>rY L (A m)) s (Kb s2) v:=by
 rw[←hd] at h;exact h.deep' rfl rfl fun _=>rfl
theorem Gr.deepy{s3:St}(hd:ic L s=s1)(h:Gr A s1 s2 v)(h3:s3.e=s2.e)(h4:s3.w=s2.w)(h5:s2.e=0→s3=Kb s2):Gr (fun m=>rY L (A m)) s s3 v:=by
 rw[←hd] at h;exact h.deep' h3 h4 h5
theorem Gr.clash_t{l:List Ex}{ops:List Tk}{k:Nat}(h:iK (AX ops) ops.length ops.length 0=some k)(u:Ex):Gr (fun _=>rG l ops) s (iB 112 (opAt ops k).at_ s) u:=by
 refine⟨0,fun m _=>⟨fun he=>by simp[iB,he],fun he _ _=>?_⟩⟩;unfold rG;rw[h];simp[iB,he]
theorem Gr.clash_n{l:List Ex}{ops:List Tk}(h:iK (AX ops) ops.length ops.length 0=none):Gr (fun _=>rG l ops) s s (fQ l ops ops.length 0 ops.length):=by
 have e:rG l ops=aX (fQ l ops ops.length 0 ops.length):=by unfold rG;rw[h]
 rw[e];exact .pure
end
section
variable(L:List Tk)
theorem oz(m:Nat):iU L (m+1)=rY L (mZ L fun t=>aA (if t.kind=2 then AY (aA (bC L m []) fun l=>aX (.mk 3 t.text 0 l)) else fU L m) fun x=>dV L Cr (aA (iU L m) fun y=>aX (.mk 3 Cr 0 [x,y])) (aX x)):=by
 funext d a;rw[iU];unfold rY mZ aA dV aX;by_cases h:300<d+1
 ·simp[h]
 ·by_cases k:(ai L a).kind=2<;>simp[h,k,AY,aA,aX,bC]
theorem qA(m:Nat):fU L (m+1)=mZ L fun t=>if t.kind=2 then AY (aX (.mk 3 t.text 0 [])) else if t.kind=1 then AY (aX (.mk 1 t.text 0 []))
  else aA (aY L 7 KM) fun _=>dV L Cq (aX (.mk 3 sUn 0 [])) (aA (iU L m) fun x=>aA (aY L 7 Cq) fun _=>aX x):=by
 funext d a;rw[fU];unfold mZ;by_cases k2:(ai L a).kind=2
 ·simp[k2,AY,aX]
 ·by_cases k1:(ai L a).kind=1
  ·simp[k2,k1,AY,aX]
  ·simp only[k2,k1,if_false]
   unfold aA aY dV aX UX afz;cases h1:lG L KM a with
   |false=>simp
   |true=>
    cases h2:lG L Cq (a+1) with
    |true=>simp[h2]
    |false=>
     simp[h2];cases iU L m d (a+1) with
     |out=>rfl
     |err e w=>rfl
     |ok x b=>simp;split<;>rfl
theorem bQ(m:Nat)(l:List Ty):bC L (m+1) l=Vw L 0 (aA (fU L m) fun x=>bC L m (l++[x])) (aX l):=by
 funext d a;unfold bC Vw aA aX;rw[ol];have:Gv L 0 a=stT L a:=by unfold Gv stT;simp
 rw[this]
end
inductive Ty.Ok:Ty→Prop where
 |mk (k:Int) (s:ByteArray) (n:Int) (ks:List Ty) (h:ks.length≤bM) (hk:∀t∈ks,Ty.Ok t):Ty.Ok (.mk k s n ks)
def bE{α:Type}(L:List Tk)(s:St)(enc:α→List PV)(ok:α→Prop)(g:Nat→GM α)(r:aM):Prop:=
 ∃k ys s' v,r=.ok (k,dh L s' ys)∧dL ys=enc v∧s'.a≤L.length∧mu L s'≤mu L s-1∧ok v∧Gr g s s' v
def lM{α:Type}(L:List Tk)(n:Nat)(q:St→Q)(enc:α→List PV)(ok:α→Prop)(g:Nat→GM α):Prop:=
 ∀s:St,s.a≤L.length→mu L s≤n→∃v s',ev (q s)=some (0,dh L s' (enc v))∧s'.a≤L.length∧mu L s'≤mu L s-1∧ok v∧Gr g s s' v
section
variable{α:Type}{L:List Tk}{n:Nat}{enc:α→List PV}{ok:α→Prop}{g:Nat→GM α}
theorem lM.weak{q qw:St→Q}(hw:∀s,body PG EE TT ev (qw s)=weakD (ev (q s)))(h:∀s:St,s.a≤L.length→mu L s≤n→bE L s enc ok g (body PG EE TT ev (q s))):lM L n qw enc ok g:=fun s h1 h2=>by
 obtain⟨k,ys,s',v,e1,e2,e3⟩:=h s h1 h2;have e:ev (q s)=some (k,dh L s' ys):=ay.of e1;exact⟨v,s',ay.of (by rw[hw,e];simp[gX,dh,e2]),e3⟩
theorem lM.mono{q:St→Q}{m:Nat}(hm:m≤n)(h:lM L n q enc ok g):lM L m q enc ok g:=fun s h1 h2=>h s h1 (Nat.le_trans h2 hm)
theorem bE.of{s:St}(k:Nat)(ys:List PV)(s':St)(v:α)(h1:dL ys=enc v)(h2:s'.a≤L.length)(h3:mu L s'≤mu L s-1)(h4:ok v)(h5:Gr g s s' v):bE L s enc ok g (.ok (k,dh L s' ys)):=⟨k,ys,s',v,rfl,h1,h2,h3,h4,h5⟩
theorem bE.ofUp{s s1:St}(k:Nat)(ys:List PV)(v:α)(h1:dL ys=enc v)(h2:s1.up.a≤L.length)(h3:mu L s1.up≤mu L s-1)(h4:ok v)(h5:Gr g s s1.up v):bE L s enc ok g (.ok (k,aU L::iv s1.up.a::iv s1.lv::iv s1.e::iv s1.w::ys)):=
 ⟨k,ys,s1.up,v,by show _=aM.ok (k,aU L::iv s1.up.a::iv s1.up.lv::iv s1.up.e::iv s1.up.w::ys);rw[aR,bN,bP],h1,h2,h3,h4,h5⟩
theorem bE.ofT{s s1:St}{kk:Int}{x:ByteArray}(k:Nat)(ys:List PV)(v:α)(h1:dL ys=enc v)(h2:(au L kk x s1).a≤L.length)(h3:mu L (au L kk x s1)≤mu L s-1)(h4:ok v)(h5:Gr g s (au L kk x s1) v):bE L s enc ok g (.ok (k,aU L::iv (au L kk x s1).a::iv s1.lv::iv (au L kk x s1).e::iv (au L kk x s1).w::ys)):=
 ⟨k,ys,au L kk x s1,v,by rw[←aO (L:=L) kk x s1],h1,h2,h3,h4,h5⟩
end
theorem rW{L:List Tk}(s:St):mu L (Kb s)=mu L s:=rfl
theorem Iy{L:List Tk}{s:St}(h:s.e≠0):mu L s=0:=by unfold mu;rw[if_neg h]
theorem iV(L:List Tk)(s:St):mu L s≤L.length+1:=by unfold mu;split<;>omega
abbrev oq(t:Ty):List PV:=[iv t.kind,sv t.name,iv t.n,bH t.kids]
def ET(k:Int)(s:ByteArray):Ty:=.mk k s 0 []
theorem sH(k:Int)(s:ByteArray):(ET k s).Ok:=.mk _ _ _ _ (by simp[bM]) (fun t ht=>by cases ht)
theorem Fg:ja PG 23 4 56:=ja.of (by kernel_rfl)
theorem kU(l:List Ty):Raw 4 (l.map Ty.cells) (l.map Ty.cells):=.of l Ty.wd (fun x=>by rw[Ty.cells_eq];rfl) (fun x=>by rw[Ty.cells_eq];simp)
@[simp] theorem am4(k:Int)(s:ByteArray)(n:Int)(l:List Ty):(Ty.mk k s n l).kind=k:=rfl
@[simp] theorem am3(k:Int)(s:ByteArray)(n:Int)(l:List Ty):(Ty.mk k s n l).name=s:=rfl
@[simp] theorem atl(k:Int)(s:ByteArray)(n:Int)(l:List Ty):(Ty.mk k s n l).n=n:=rfl
@[simp] theorem am5(k:Int)(s:ByteArray)(n:Int)(l:List Ty):(Ty.mk k s n l).kids=l:=rfl
@[simp] theorem am2:bH []=.rows []:=rfl
theorem AZ(x y:Ty):bH [x,y]=.rows [oq x,oq y]:=by simp[bH,Ty.cells_eq]
abbrev J7(L:List Tk)(s:St):Q:=af0 (aU L) (iv s.a) (iv s.lv) (iv s.e) (iv s.w)
abbrev qAt(L:List Tk)(s:St):Q:=afT (aU L) (iv s.a) (iv s.lv) (iv s.e) (iv s.w)
section
variable{L:List Tk}
theorem dK{k:Int}(hk:k=0∨k=1∨k=2)(s:St):∃b,ev (akC (iv k) (aU L) (iv s.a) (iv s.lv) (iv s.e) (iv s.w))=some (0,dh L s [bv b])∧(b=true→s.e=0∧s.a<L.length∧Gv L k s.a=true)∧(b=false→s.e=0→Gv L k s.a=false):=by
 by_cases he:s.e=0
 ·refine⟨Gv L k s.a,ay.of ?_,fun h=>⟨he,?_,h⟩,fun h _=>h⟩
  ·rw[alT]
   unfold Gv;simp[kX,Tk.cells,LY,Sv he,l9 he];by_cases h1:(ai L s.a).kind=1
   ·simp[h1]
   ·by_cases h2:(ai L s.a).kind=2
    ·simp[h1,h2]
    ·cases h3:lG L KM s.a with
     |true=>simp[h1,h2,h3]
     |false=>
      by_cases h5:(ai L s.a).kind=3
      ·rcases hk with rfl|rfl|rfl<;>simp[h1,h2,h3,h5]
      ·rcases hk with rfl|rfl|rfl
       ·simp[h1,h2,h3,h5]
       ·cases h6:lG L sUs s.a<;>simp[h1,h2,h3,h5,h6]
       ·by_cases h7:(ai L s.a).kind=4
        ·simp[h1,h2,h3,h5,h7]
        ·cases h8:lG L KN s.a<;>simp[h1,h2,h3,h5,h7,h8]
  ·by_cases hl:s.a<L.length
   ·exact hl
   ·have hz:ai L s.a=zT:=by unfold ai;rw[List.getElem?_eq_none (by omega)];rfl
    unfold Gv lG at h;simp[hz,zT] at h
 ·refine⟨false,ay.of ?_,(fun h=>by cases h),fun _ h=>absurd h he⟩
  rw[alT];simp[kX,Tk.cells,LY,alz he,Sg he,zT]
end
section
variable{L:List Tk}(hL:L.length≤1000000)
include hL
theorem EJ{n:Nat}(ih:lM L n (J7 L) oq Ty.Ok (iU L)):lM L (n+1) (qAt L) oq Ty.Ok (fU L):=
 lM.weak (q:=fun s=>ahG (aU L) (iv s.a) (iv s.lv) (iv s.e) (iv s.w)) (fun s=>alS ev _ _ _ _ _) fun s hs hm=>by
  show bE L s oq Ty.Ok _ (body PG EE TT ev (ahG (aU L) (iv s.a) (iv s.lv) (iv s.e) (iv s.w)));rw[aqw];simp[fE,Tk.cells];refine dF (fun h2=>?_) (fun h2=>dF (fun h1=>?_) (fun h1=>?_))
  ·simp only[decide_eq_true_eq] at h2
   obtain⟨he,hl⟩:=dO (L:=L) (s:=s) (by omega);have hmu:=vB he hl;simp[wZ hl hL];exact bE.ofUp 0 [iv 3,sv (bg L s).text,iv 0,.lit (.slice none 0 0)] (ET 3 (bg L s).text) (by simp[ET,bH]) (by rw[nO];exact hl) hmu (sH _ _) (.fx (qA L) (.next (.if_t h2 (.up he .pure))))
  ·simp only[decide_eq_true_eq] at h1
   obtain⟨he,hl⟩:=dO (L:=L) (s:=s) (by omega);have hmu:=vB he hl;simp[wZ hl hL];exact bE.ofUp 0 [iv 1,sv (bg L s).text,iv 0,.lit (.slice none 0 0)] (ET 1 (bg L s).text) (by simp[ET,bH]) (by rw[nO];exact hl) hmu (sH _ _) (.fx (qA L) (.next (.if_f (by rw[h1];decide) (.if_t h1 (.up he .pure)))))
  ·simp only[decide_eq_false_iff_not] at h1 h2
   have t1:=aQ (L:=L) (k:=7) (x:=⟨#[40]⟩) (by decide) s;have t2:=aV (k:=7) (x:=⟨#[40]⟩) (by decide) hs;simp[aK hL (k:=7) (by decide),bG hL,Tk.cells];generalize h3:au L 7 ⟨#[40]⟩ s=s1 at *;have hl1:s1.lv=s.lv:=by rw[←h3];exact aO _ _ s
   simp only[←hl1];refine dF (fun hb=>?_) (fun hb=>?_)
   ·obtain⟨m1,m2⟩:=bS hb
    rw[may_t hb];exact bE.of 0 _ s1.up (ET 3 ⟨#[85,110,105,116]⟩) (by simp[ET,bH]) m2 (by omega) (sH _ _) (.fx (qA L) (.next (.if_f h2 (.if_f h1 (.bind (.takex h3 rfl) (.may_t hb .pure))))))
   ·rw[may_f hb]
    obtain⟨v,s2,e1,e2,e3,e4,r1⟩:=ih s1 t2 (by omega);simp only[J7] at e1;have t3:=aQ (L:=L) (k:=7) (x:=⟨#[41]⟩) (by decide) s2;have t4:=aV (k:=7) (x:=⟨#[41]⟩) (by decide) e2;simp[e1,aK hL (k:=7) (by decide),Tk.cells];exact bE.ofT 0 _ v (by simp) t4 (by omega) e4 (.fx (qA L) (.next (.if_f h2 (.if_f h1 (.bind (.takex h3 rfl) (.may_f hb (.bind r1 (.bind (.take _ _ _) .pure))))))))
theorem aou{n:Nat}(hat:lM L n (qAt L) oq Ty.Ok (fU L))(nm:ByteArray):∀(m:Nat) (s:St) (l:List Ty),mu L s≤m→m≤n→s.a≤L.length→l.length+m≤2000000→∃s' l',
  ev (RG (aU L) (iv s.a) (iv s.lv) (iv s.e) (iv s.w) (sv nm) (l.map Ty.cells))=some (1,dh L s' [iv 3,sv nm,iv 0,bH (l++l'),iv 0,sv eB,iv 0,.lit (.slice none 0 0)])∧
  s'.a≤L.length∧mu L s'≤mu L s∧(∀t∈l',t.Ok)∧l'.length≤mu L s-mu L s'∧Gr (fun m=>bC L m l) s s' (l++l'):=by
 intro m
 induction m with
 |zero=>
  intro s l hm hn hs hl;obtain⟨b,h1,h2,h3⟩:=dK (L:=L) (k:=0) (.inl rfl) s;cases b with
  |true=>have:=aW (L:=L) (h2 rfl).1;omega
  |false=>exact⟨s,[],ay.of (by rw[Jj];simp[h1,bH]),hs,Nat.le_refl _,(fun t ht=>by cases ht),by simp,(Gr.fx (fun m=>bQ L m l) (.st_f (h3 rfl) .pure)).eq (by simp)⟩
 |succ m ih=>
  intro s l hm hn hs hl;obtain⟨b,h1,h2,h3⟩:=dK (L:=L) (k:=0) (.inl rfl) s;cases b with
  |false=>exact⟨s,[],ay.of (by rw[Jj];simp[h1,bH]),hs,Nat.le_refl _,(fun t ht=>by cases ht),by simp,(Gr.fx (fun m=>bQ L m l) (.st_f (h3 rfl) .pure)).eq (by simp)⟩
  |true=>
   have hp:=aW (L:=L) (h2 rfl).1;obtain⟨v,s1,e1,e2,e3,e4,r1⟩:=hat s hs (by omega);obtain⟨s2,l',g1,g2,g3,g4,g5,r2⟩:=ih s1 (l++[v]) (by omega) (by omega) e2 (by simp;omega);refine⟨s2,v::l',ay.of ?_,g2,by omega,?_,by simp;omega,(Gr.fx (fun m=>bQ L m l) (.st_t (h2 rfl).2.2 (.bind r1 r2))).eq (by simp)⟩
   ·rw[Jj]
    rw[List.map_append,List.map_cons,List.map_nil,Ty.cells_eq v,List.append_assoc] at g1;have ha:=fun k'=>aH (P:=PG) (d:=.fail) (k:=k') Fg (kU l) (c:=oq v) rfl (by simp) (by simp;omega) (by decide)
    simp[h1,e1,ha,g1]
   ·intro t ht
    rcases List.mem_cons.1 ht with rfl|ht
    ·exact e4
    ·exact g4 t ht
theorem aov{n:Nat}(hat:lM L n (qAt L) oq Ty.Ok (fU L))(nm:ByteArray)(s:St)(hm:mu L s≤n)(hs:s.a≤L.length):∃s' l',
  ((l'=[]∧ev (Hy (aU L) (iv s.a) (iv s.lv) (iv s.e) (iv s.w) (sv nm))=some (0,dh L s' [iv 3,sv nm,iv 0,.lit (.slice none 0 0),iv 0,sv eB,iv 0,.lit (.slice none 0 0)]))∨
   ev (Hy (aU L) (iv s.a) (iv s.lv) (iv s.e) (iv s.w) (sv nm))=some (1,dh L s' [iv 3,sv nm,iv 0,bH l',iv 0,sv eB,iv 0,.lit (.slice none 0 0)]))∧
  s'.a≤L.length∧mu L s'≤mu L s∧(∀t∈l',t.Ok)∧l'.length≤mu L s-mu L s'∧Gr (fun m=>bC L m []) s s' l':=by
 obtain⟨b,h1,h2,h3⟩:=dK (L:=L) (k:=0) (.inl rfl) s;cases b with
 |false=>exact⟨s,[],.inl ⟨rfl,ay.of (by rw[Tg];simp[h1])⟩,hs,Nat.le_refl _,(fun t ht=>by cases ht),by simp,.fx (fun m=>bQ L m []) (.st_f (h3 rfl) .pure)⟩
 |true=>
  have hp:=aW (L:=L) (h2 rfl).1;obtain⟨v,s1,e1,e2,e3,e4,r1⟩:=hat s hs (by omega);have hml:=iV L s1;obtain⟨s2,l',g1,g2,g3,g4,g5,r2⟩:=aou hL hat nm (mu L s1) s1 [v] (Nat.le_refl _) (by omega) e2 (by simp;omega);refine⟨s2,v::l',.inr (ay.of ?_),g2,by omega,?_,by simp;omega,.fx (fun m=>bQ L m []) (.st_t (h2 rfl).2.2 (.bind r1 r2))⟩
  ·rw[Tg]
   rw[List.map_cons,List.map_nil,Ty.cells_eq v] at g1;simp[h1,e1,g1]
  ·intro t ht
   rcases List.mem_cons.1 ht with rfl|ht
   ·exact e4
   ·exact g4 t ht
theorem abV{n:Nat}(ih:lM L n (J7 L) oq Ty.Ok (iU L)):lM L (n+1) (J7 L) oq Ty.Ok (iU L):=
 lM.weak (q:=fun s=>acN (aU L) (iv s.a) (iv s.lv) (iv s.e) (iv s.w)) (fun s=>agf ev _ _ _ _ _) fun s hs hm=>by
  show bE L s oq Ty.Ok _ (body PG EE TT ev (acN (aU L) (iv s.a) (iv s.lv) (iv s.e) (iv s.w)));rw[al1];by_cases he:s.e=0
  ·have hp:=aW (L:=L) he
   have d1:=JB (L:=L) s;have d2:=Ez (L:=L) s;simp[eq_true he,OU,fE,Tk.cells];generalize hd:ic L s=s1 at *;have hs1:s1.a≤L.length:=by omega
   simp only[←d2];refine dF (fun h2=>?_) (fun h2=>?_)
   ·simp only[decide_eq_true_eq] at h2
    obtain⟨he1,hl1⟩:=dO (L:=L) (s:=s1) (by omega);have hmu:=vB he1 hl1;have hp1:=aW (L:=L) he1;obtain⟨s2,l,hc,e2,m2,g4,g5,r1⟩:=aov hL (EJ hL ih) (bg L s1).text s1.up (by omega) (by rw[nO];exact hl1);have hml:=iV L s1.up;have hx:(Ty.mk 3 (bg L s1).text 0 l).Ok:=.mk _ _ _ _ (by unfold bM;omega) g4;have r2:Gr (fun m=>if(bg L s1).kind=2 then AY (aA (bC L m []) fun l=>aX (.mk 3 (bg L s1).text 0 l)) else fU L m) s1 s2 (Ty.mk 3 (bg L s1).text 0 l):=.if_t h2 (.up he1 (.bind r1 .pure));rcases hc with⟨rfl,hc⟩|hc
    ·simp only[wZ hl1 hL]
     simp only[aR,bN,bP] at hc;simp[hc,bG hL];refine dF (fun hb=>?_) (fun hb=>?_)
     ·obtain⟨b1,b2⟩:=bS hb
      rw[may_t hb];obtain⟨y,s3,f1,f2,f3,f4,r3⟩:=ih s2.up b2 (by omega);simp only[J7,aR,bN,bP] at f1;simp[f1];exact bE.of 1 _ (Kb s3) (.mk 3 ⟨#[45,62]⟩ 0 [(Ty.mk 3 (bg L s1).text 0 []),y]) (by simp[bJ,iH,kg,AZ]) f2 (by rw[rW];omega) (.mk _ _ _ _ (by simp[bM]) (by simp[hx,f4])) (.fx (oz L) (.deepx hd (.next (.bind r2 (.may_t hb (.bind r3 .pure))))))
     ·rw[may_f hb]
      exact bE.of 0 _ (Kb s2) (Ty.mk 3 (bg L s1).text 0 []) (by simp) e2 (by rw[rW];omega) hx (.fx (oz L) (.deepx hd (.next (.bind r2 (.may_f hb .pure)))))
    ·simp only[wZ hl1 hL]
     simp only[aR,bN,bP] at hc;simp[hc,bG hL];refine dF (fun hb=>?_) (fun hb=>?_)
     ·obtain⟨b1,b2⟩:=bS hb
      rw[may_t hb];obtain⟨y,s3,f1,f2,f3,f4,r3⟩:=ih s2.up b2 (by omega);simp only[J7,aR,bN,bP] at f1;simp[f1];exact bE.of 1 _ (Kb s3) (.mk 3 ⟨#[45,62]⟩ 0 [(Ty.mk 3 (bg L s1).text 0 l),y]) (by simp[bJ,iH,kg,AZ]) f2 (by rw[rW];omega) (.mk _ _ _ _ (by simp[bM]) (by simp[hx,f4])) (.fx (oz L) (.deepx hd (.next (.bind r2 (.may_t hb (.bind r3 .pure))))))
     ·rw[may_f hb]
      exact bE.of 1 _ (Kb s2) (Ty.mk 3 (bg L s1).text 0 l) (by simp) e2 (by rw[rW];omega) hx (.fx (oz L) (.deepx hd (.next (.bind r2 (.may_f hb .pure)))))
   ·simp only[decide_eq_false_iff_not] at h2
    obtain⟨x,s2,e1,e2,e3,hx,r1⟩:=EJ hL ih s1 hs1 (by omega);have r2:Gr (fun m=>if(bg L s1).kind=2 then AY (aA (bC L m []) fun l=>aX (.mk 3 (bg L s1).text 0 l)) else fU L m) s1 s2 x:=.if_f h2 r1;simp[e1,bG hL];refine dF (fun hb=>?_) (fun hb=>?_)
    ·obtain⟨b1,b2⟩:=bS hb
     rw[may_t hb];obtain⟨y,s3,f1,f2,f3,f4,r3⟩:=ih s2.up b2 (by omega);simp only[J7,aR,bN,bP] at f1;simp[f1];exact bE.of 1 _ (Kb s3) (.mk 3 ⟨#[45,62]⟩ 0 [x,y]) (by simp[bJ,iH,kg,AZ]) f2 (by rw[rW];omega) (.mk _ _ _ _ (by simp[bM]) (by simp[hx,f4])) (.fx (oz L) (.deepx hd (.next (.bind r2 (.may_t hb (.bind r3 .pure))))))
    ·rw[may_f hb]
     exact bE.of 0 _ (Kb s2) x (by simp) e2 (by rw[rW];omega) hx (.fx (oz L) (.deepx hd (.next (.bind r2 (.may_f hb .pure)))))
  ·simp[he]
   exact bE.of 0 _ s (ET 0 eB) (by simp[ET]) hs (by have:=Iy (L:=L) he;omega) (sH _ _) (.fault he rfl rfl)
theorem w9:∀n,lM L n (J7 L) oq Ty.Ok (iU L)
 |0=>fun s hs hm=>by
   have he:s.e≠0:=fun he=>by have:=aW (L:=L) he;omega
   refine⟨ET 0 eB,s,ay.of ?_,hs,by omega,sH _ _,.fault he rfl rfl⟩;rw[agf,ay.of (q:=acN (aU L) (iv s.a) (iv s.lv) (iv s.e) (iv s.w)) (r:=(0,dh L s [iv 0,sv eB,iv 0,.lit (.slice none 0 0)])) (by rw[al1];simp[he])];simp[gX,dh,ET]
 |n+1=>abV hL (w9 n)
theorem jr(n:Nat):lM L n (qAt L) oq Ty.Ok (fU L):=(EJ hL (w9 hL n)).mono (Nat.le_succ _)
end
end Go.Proofs.YtijcobeebaceoaaGreatDoor
