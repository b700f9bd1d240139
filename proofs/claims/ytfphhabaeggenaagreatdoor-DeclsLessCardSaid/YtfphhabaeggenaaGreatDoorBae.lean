/- Joined texts. -/
import Derived.Test.YtfphhabaeggenaaGreatDoorBad
import Derived.Test.YtfphhabaeggenaaGreatDoorProg
import Derived.KernelRfl
import Derived.Shelf.Strings.Trim
import Derived.Shelf.Small.Utf8
import Derived.Shelf.Small.Strs
import Derived.Shelf.Strings.Search1
import Derived.Shelf.Strings.Prefix
import Derived.Shelf.Strings.Runes
import Derived.Shelf.Strings.AsciiSet
import Derived.Shelf.Unicode.DecodeSlow
import Derived.Lib.IndexAny
import Derived.Lib.Hide
import Derived.WalkKit
import Derived.WalkSpells
import Derived.WalkLawsBesides
import Derived.Deep.LoopGhost
import Derived.Deep.QuietTactic
import Derived.BigQuiet
set_option linter.all false
namespace Go.Proofs.YtfphhabaeggenaaGreatDoor
open Go.RowKit
inductive Ty where
 |mk (kind:Int) (name:ByteArray) (n:Int) (kids:List Ty)
inductive Pt where
 |mk (kind:Int) (name:ByteArray) (n:Int) (kids:List Pt) (at_:Int)
mutual
inductive Ex where
 |mk (kind:Int) (name:ByteArray) (n:Int) (t:Ty) (kids:List Ex) (alts:List Al) (binds:List Bd) (at_:Int)
inductive Al where
 |mk (p:Pt) (e:Ex)
inductive Bd where
 |mk (name:ByteArray) (e:Ex) (at_:Int)
end
def Ty.kind:Ty→Int | .mk k _ _ _=>k
def Ty.name:Ty→ByteArray | .mk _ s _ _=>s
def Ty.n:Ty→Int | .mk _ _ n _=>n
def Ty.kids:Ty→List Ty | .mk _ _ _ ks=>ks
def Pt.kind:Pt→Int | .mk k _ _ _ _=>k
def Pt.name:Pt→ByteArray | .mk _ s _ _ _=>s
def Pt.n:Pt→Int | .mk _ _ n _ _=>n
def Pt.kids:Pt→List Pt | .mk _ _ _ ks _=>ks
def Pt.at_:Pt→Int | .mk _ _ _ _ a=>a
def Ex.kind:Ex→Int | .mk k _ _ _ _ _ _ _=>k
def Ex.name:Ex→ByteArray | .mk _ s _ _ _ _ _ _=>s
def Ex.n:Ex→Int | .mk _ _ n _ _ _ _ _=>n
def Ex.t:Ex→Ty | .mk _ _ _ t _ _ _ _=>t
def Ex.kids:Ex→List Ex | .mk _ _ _ _ ks _ _ _=>ks
def Ex.alts:Ex→List Al | .mk _ _ _ _ _ l _ _=>l
def Ex.binds:Ex→List Bd | .mk _ _ _ _ _ _ l _=>l
def Ex.at_:Ex→Int | .mk _ _ _ _ _ _ _ a=>a
def Al.p:Al→Pt | .mk p _=>p
def Al.e:Al→Ex | .mk _ e=>e
def Bd.name:Bd→ByteArray | .mk s _ _=>s
def Bd.e:Bd→Ex | .mk _ e _=>e
def Bd.at_:Bd→Int | .mk _ _ a=>a
structure Cn where
 name:ByteArray
 args:List Ty
 at_:Int
structure Dt where
 name:ByteArray
 params:List ByteArray
 cons:List Cn
 deriv:List ByteArray
 at_:Int
structure Md where
 name:ByteArray
 t:Ty
 at_:Int
structure Cl where
 name:ByteArray
 var:ByteArray
 supers:List ByteArray
 methods:List Md
 defaults:List Bd
 at_:Int
structure Pd where
 cls:ByteArray
 t:Ty
structure It where
 cls:ByteArray
 head:Ty
 ctx:List Pd
 binds:List Bd
 at_:Int
mutual
def Ty.cells:Ty→List PV
 |.mk k s n ks=>[iv k,sv s,iv n,.rows (Ty.rows ks)]
def Ty.rows:List Ty→List (List PV)
 |[]=>[]
 |v::l=>v.cells::Ty.rows l
end
mutual
def Pt.cells:Pt→List PV
 |.mk k s n ks a=>[iv k,sv s,iv n,.rows (Pt.rows ks),iv a]
def Pt.rows:List Pt→List (List PV)
 |[]=>[]
 |v::l=>v.cells::Pt.rows l
end
theorem Ty.rows_eq:∀l,Ty.rows l=l.map Ty.cells
 |[]=>by rw[Ty.rows];rfl
 |v::l=>by rw[Ty.rows,Ty.rows_eq l];rfl
theorem Pt.rows_eq:∀l,Pt.rows l=l.map Pt.cells
 |[]=>by rw[Pt.rows];rfl
 |v::l=>by rw[Pt.rows,Pt.rows_eq l];rfl
def aV(l:List Ty):PV:=.rows (l.map Ty.cells)
def pts(l:List Pt):PV:=.rows (l.map Pt.cells)
def strs(l:List ByteArray):PV:=.rows (l.map fun s=>[sv s])
theorem Ty.cells_eq(t:Ty):t.cells=[iv t.kind,sv t.name,iv t.n,aV t.kids]:=by cases t;rw[Ty.cells,Ty.rows_eq];rfl
theorem Pt.cells_eq(p:Pt):p.cells=[iv p.kind,sv p.name,iv p.n,pts p.kids,iv p.at_]:=by cases p;rw[Pt.cells,Pt.rows_eq];rfl
mutual
def Ex.cells:Ex→List PV
 |.mk k s n t ks xs bs a=>[iv k,sv s,iv n,iv t.kind,sv t.name,iv t.n,aV t.kids,.rows (Ex.rows ks),.rows (Al.rows xs),.rows (Bd.rows bs),iv a]
def Al.cells:Al→List PV
 |.mk p e=>iv p.kind::sv p.name::iv p.n::pts p.kids::iv p.at_::e.cells
def Bd.cells:Bd→List PV
 |.mk s e a=>sv s::(e.cells++[iv a])
def Ex.rows:List Ex→List (List PV)
 |[]=>[]
 |v::l=>v.cells::Ex.rows l
def Al.rows:List Al→List (List PV)
 |[]=>[]
 |v::l=>v.cells::Al.rows l
def Bd.rows:List Bd→List (List PV)
 |[]=>[]
 |v::l=>v.cells::Bd.rows l
end
theorem Ex.rows_eq:∀l,Ex.rows l=l.map Ex.cells
 |[]=>by rw[Ex.rows];rfl
 |v::l=>by rw[Ex.rows,Ex.rows_eq l];rfl
theorem Al.rows_eq:∀l,Al.rows l=l.map Al.cells
 |[]=>by rw[Al.rows];rfl
 |v::l=>by rw[Al.rows,Al.rows_eq l];rfl
theorem Bd.rows_eq:∀l,Bd.rows l=l.map Bd.cells
 |[]=>by rw[Bd.rows];rfl
 |v::l=>by rw[Bd.rows,Bd.rows_eq l];rfl
def exs(l:List Ex):PV:=.rows (l.map Ex.cells)
def lU(l:List Al):PV:=.rows (l.map Al.cells)
def bg(l:List Bd):PV:=.rows (l.map Bd.cells)
theorem Ex.cells_eq(e:Ex):e.cells=[iv e.kind,sv e.name,iv e.n,iv e.t.kind,sv e.t.name,iv e.t.n,aV e.t.kids,exs e.kids,lU e.alts,bg e.binds,iv e.at_]:=by cases e;rw[Ex.cells,Ex.rows_eq,Al.rows_eq,Bd.rows_eq];rfl
theorem Al.cells_eq(x:Al):x.cells=[iv x.p.kind,sv x.p.name,iv x.p.n,pts x.p.kids,iv x.p.at_,iv x.e.kind,sv x.e.name,iv x.e.n,iv x.e.t.kind,sv x.e.t.name,iv x.e.t.n,aV x.e.t.kids,exs x.e.kids,lU x.e.alts,bg x.e.binds,iv x.e.at_]:=by cases x;rw[Al.cells,Ex.cells_eq];rfl
theorem Bd.cells_eq(x:Bd):x.cells=[sv x.name,iv x.e.kind,sv x.e.name,iv x.e.n,iv x.e.t.kind,sv x.e.t.name,iv x.e.t.n,aV x.e.t.kids,exs x.e.kids,lU x.e.alts,bg x.e.binds,iv x.e.at_,iv x.at_]:=by cases x;rw[Bd.cells,Ex.cells_eq];rfl
def Cn.cells(x:Cn):List PV:=[sv x.name,aV x.args,iv x.at_]
def nK(l:List Cn):PV:=.rows (l.map Cn.cells)
def Dt.cells(x:Dt):List PV:=[sv x.name,strs x.params,nK x.cons,strs x.deriv,iv x.at_]
def aZ(l:List Dt):PV:=.rows (l.map Dt.cells)
def Md.cells(x:Md):List PV:=[sv x.name,iv x.t.kind,sv x.t.name,iv x.t.n,aV x.t.kids,iv x.at_]
def jb(l:List Md):PV:=.rows (l.map Md.cells)
def Cl.cells(x:Cl):List PV:=[sv x.name,sv x.var,strs x.supers,jb x.methods,bg x.defaults,iv x.at_]
def cls(l:List Cl):PV:=.rows (l.map Cl.cells)
def Pd.cells(x:Pd):List PV:=[sv x.cls,iv x.t.kind,sv x.t.name,iv x.t.n,aV x.t.kids]
def jT(l:List Pd):PV:=.rows (l.map Pd.cells)
def It.cells(x:It):List PV:=[sv x.cls,iv x.head.kind,sv x.head.name,iv x.head.n,aV x.head.kids,jT x.ctx,bg x.binds,iv x.at_]
def its(l:List It):PV:=.rows (l.map It.cells)
mutual
theorem Ty.ns:∀(v:Ty),∀p∈v.cells,NS p
 |.mk k s n ks,p,hp=>by
  have:=Ty.nsL ks;rw[Ty.cells] at hp;simp only[List.mem_cons,List.not_mem_nil,or_false] at hp;rcases hp with rfl|rfl|rfl|rfl
  ·exact .lit _
  ·exact .lit _
  ·exact .lit _
  ·exact .rows _ this
theorem Ty.nsL:∀(l:List Ty),∀c∈Ty.rows l,∀p∈c,NS p
 |[],c,hc,_,_=>by simp[Ty.rows] at hc
 |v::l,c,hc,p,hp=>by
  have h1:=Ty.ns v;have h2:=Ty.nsL l;rw[Ty.rows,List.mem_cons] at hc;rcases hc with rfl|hc
  ·exact h1 p hp
  ·exact h2 c hc p hp
end
mutual
theorem Pt.ns:∀(v:Pt),∀p∈v.cells,NS p
 |.mk k s n ks a,p,hp=>by
  have:=Pt.nsL ks;rw[Pt.cells] at hp;simp only[List.mem_cons,List.not_mem_nil,or_false] at hp;rcases hp with rfl|rfl|rfl|rfl|rfl
  ·exact .lit _
  ·exact .lit _
  ·exact .lit _
  ·exact .rows _ this
  ·exact .lit _
theorem Pt.nsL:∀(l:List Pt),∀c∈Pt.rows l,∀p∈c,NS p
 |[],c,hc,_,_=>by simp[Pt.rows] at hc
 |v::l,c,hc,p,hp=>by
  have h1:=Pt.ns v;have h2:=Pt.nsL l;rw[Pt.rows,List.mem_cons] at hc;rcases hc with rfl|hc
  ·exact h1 p hp
  ·exact h2 c hc p hp
end
@[simp] theorem Y0(l:List Ty):NS (aV l):=by rw[aV,←Ty.rows_eq];exact .rows _ (Ty.nsL l)
@[simp] theorem ajU(l:List Pt):NS (pts l):=by rw[pts,←Pt.rows_eq];exact .rows _ (Pt.nsL l)
theorem oh{α:Type}{f:α→List PV}{l:List α}(h:∀x∈l,∀p∈f x,NS p):NS (.rows (l.map f)):=.rows _ fun c hc p hp=>by
 obtain⟨x,hx,rfl⟩:=List.mem_map.1 hc;exact h x hx p hp
@[simp] theorem sI(l:List ByteArray):NS (strs l):=oh fun x _ p hp=>by simp at hp;subst hp;exact .lit _
mutual
theorem Ex.ns:∀(v:Ex),∀p∈v.cells,NS p
 |.mk k s n t ks xs bs a,p,hp=>by
  have h1:=Ex.nsL ks;have h2:=Al.nsL xs;have h3:=Bd.nsL bs;rw[Ex.cells] at hp;simp only[List.mem_cons,List.not_mem_nil,or_false] at hp;rcases hp with rfl|rfl|rfl|rfl|rfl|rfl|rfl|rfl|rfl|rfl|rfl
  ·exact .lit _
  ·exact .lit _
  ·exact .lit _
  ·exact .lit _
  ·exact .lit _
  ·exact .lit _
  ·exact Y0 _
  ·exact .rows _ h1
  ·exact .rows _ h2
  ·exact .rows _ h3
  ·exact .lit _
theorem Al.ns:∀(v:Al),∀p∈v.cells,NS p
 |.mk q e,p,hp=>by
  have h1:=Ex.ns e;rw[Al.cells] at hp;simp only[List.mem_cons] at hp;rcases hp with rfl|rfl|rfl|rfl|rfl|hp
  ·exact .lit _
  ·exact .lit _
  ·exact .lit _
  ·exact ajU _
  ·exact .lit _
  ·exact h1 p hp
theorem Bd.ns:∀(v:Bd),∀p∈v.cells,NS p
 |.mk s e a,p,hp=>by
  have h1:=Ex.ns e;rw[Bd.cells] at hp;simp only[List.mem_cons,List.mem_append,List.not_mem_nil,or_false] at hp;rcases hp with rfl|hp|rfl
  ·exact .lit _
  ·exact h1 p hp
  ·exact .lit _
theorem Ex.nsL:∀(l:List Ex),∀c∈Ex.rows l,∀p∈c,NS p
 |[],c,hc,_,_=>by simp[Ex.rows] at hc
 |v::l,c,hc,p,hp=>by
  have h1:=Ex.ns v;have h2:=Ex.nsL l;rw[Ex.rows,List.mem_cons] at hc;rcases hc with rfl|hc
  ·exact h1 p hp
  ·exact h2 c hc p hp
theorem Al.nsL:∀(l:List Al),∀c∈Al.rows l,∀p∈c,NS p
 |[],c,hc,_,_=>by simp[Al.rows] at hc
 |v::l,c,hc,p,hp=>by
  have h1:=Al.ns v;have h2:=Al.nsL l;rw[Al.rows,List.mem_cons] at hc;rcases hc with rfl|hc
  ·exact h1 p hp
  ·exact h2 c hc p hp
theorem Bd.nsL:∀(l:List Bd),∀c∈Bd.rows l,∀p∈c,NS p
 |[],c,hc,_,_=>by simp[Bd.rows] at hc
 |v::l,c,hc,p,hp=>by
  have h1:=Bd.ns v;have h2:=Bd.nsL l;rw[Bd.rows,List.mem_cons] at hc;rcases hc with rfl|hc
  ·exact h1 p hp
  ·exact h2 c hc p hp
end
@[simp] theorem axR(l:List Ex):NS (exs l):=by rw[exs,←Ex.rows_eq];exact .rows _ (Ex.nsL l)
@[simp] theorem axT(l:List Al):NS (lU l):=by rw[lU,←Al.rows_eq];exact .rows _ (Al.nsL l)
@[simp] theorem ajZ(l:List Bd):NS (bg l):=by rw[bg,←Bd.rows_eq];exact .rows _ (Bd.nsL l)
@[simp] theorem axS(l:List Cn):NS (nK l):=oh fun x _ p hp=>by
 simp only[Cn.cells,List.mem_cons,List.not_mem_nil,or_false] at hp;rcases hp with rfl|rfl|rfl<;>simp
@[simp] theorem Y2(l:List Dt):NS (aZ l):=oh fun x _ p hp=>by
 simp only[Dt.cells,List.mem_cons,List.not_mem_nil,or_false] at hp;rcases hp with rfl|rfl|rfl|rfl|rfl<;>simp
@[simp] theorem axP(l:List Md):NS (jb l):=oh fun x _ p hp=>by
 simp only[Md.cells,List.mem_cons,List.not_mem_nil,or_false] at hp;rcases hp with rfl|rfl|rfl|rfl|rfl|rfl<;>simp
@[simp] theorem ajY(l:List Cl):NS (cls l):=oh fun x _ p hp=>by
 simp only[Cl.cells,List.mem_cons,List.not_mem_nil,or_false] at hp;rcases hp with rfl|rfl|rfl|rfl|rfl|rfl<;>simp
@[simp] theorem ajV(l:List Pd):NS (jT l):=oh fun x _ p hp=>by
 simp only[Pd.cells,List.mem_cons,List.not_mem_nil,or_false] at hp;rcases hp with rfl|rfl|rfl|rfl|rfl<;>simp
@[simp] theorem Y1(l:List It):NS (its l):=oh fun x _ p hp=>by
 simp only[It.cells,List.mem_cons,List.not_mem_nil,or_false] at hp;rcases hp with rfl|rfl|rfl|rfl|rfl|rfl|rfl|rfl<;>simp
theorem CK:jQ Tryz.prog 38 1 16:=jQ.of (by kernel_rfl)
@[simp] theorem Zj{r:AV}(l:List ByteArray):pV Tryz.prog 38 (.pv (strs l)) r↔r=.pv (iv l.length):=by rw[strs,kJ CK,List.length_map]
theorem ZL{r:AV}{l:List ByteArray}{i:Nat}{x:ByteArray}(h:l[i]? = some x):qD Tryz.prog 38 (.pv (strs l)) (.pv (.lit (.int .i64 (i:Int)))) r↔r=.cptr [sv x]:=by
 rw[strs];exact mH CK (by rw[List.getElem?_map,h];rfl) rfl
theorem Qa:jQ Tryz.prog 42 4 56:=jQ.of (by kernel_rfl)
@[simp] theorem adj{r:AV}(l:List Ty):pV Tryz.prog 42 (.pv (aV l)) r↔r=.pv (iv l.length):=by rw[aV,kJ Qa,List.length_map]
theorem adO{r:AV}{l:List Ty}{i:Nat}{x:Ty}(h:l[i]? = some x):qD Tryz.prog 42 (.pv (aV l)) (.pv (.lit (.int .i64 (i:Int)))) r↔r=.cptr [iv x.kind,sv x.name,iv x.n,aV x.kids]:=by
 rw[aV];exact mH Qa (by rw[List.getElem?_map,h,Option.map_some,Ty.cells_eq]) rfl
theorem XJ:jQ Tryz.prog 49 11 168:=jQ.of (by kernel_rfl)
@[simp] theorem adp{r:AV}(l:List Ex):pV Tryz.prog 49 (.pv (exs l)) r↔r=.pv (iv l.length):=by rw[exs,kJ XJ,List.length_map]
theorem adS{r:AV}{l:List Ex}{i:Nat}{x:Ex}(h:l[i]? = some x):qD Tryz.prog 49 (.pv (exs l)) (.pv (.lit (.int .i64 (i:Int)))) r↔r=.cptr [iv x.kind,sv x.name,iv x.n,iv x.t.kind,sv x.t.name,iv x.t.n,aV x.t.kids,exs x.kids,lU x.alts,bg x.binds,iv x.at_]:=by
 rw[exs];exact mH XJ (by rw[List.getElem?_map,h,Option.map_some,Ex.cells_eq]) rfl
theorem jK:jQ Tryz.prog 26 13 192:=jQ.of (by kernel_rfl)
@[simp] theorem adt{r:AV}(l:List Bd):pV Tryz.prog 26 (.pv (bg l)) r↔r=.pv (iv l.length):=by rw[bg,kJ jK,List.length_map]
theorem adW{r:AV}{l:List Bd}{i:Nat}{x:Bd}(h:l[i]? = some x):qD Tryz.prog 26 (.pv (bg l)) (.pv (.lit (.int .i64 (i:Int)))) r↔r=.cptr [sv x.name,iv x.e.kind,sv x.e.name,iv x.e.n,iv x.e.t.kind,sv x.e.t.name,iv x.e.t.n,aV x.e.t.kids,exs x.e.kids,lU x.e.alts,bg x.e.binds,iv x.e.at_,iv x.at_]:=by
 rw[bg];exact mH jK (by rw[List.getElem?_map,h,Option.map_some,Bd.cells_eq]) rfl
theorem XK:jQ Tryz.prog 39 3 48:=jQ.of (by kernel_rfl)
@[simp] theorem adr{r:AV}(l:List Cn):pV Tryz.prog 39 (.pv (nK l)) r↔r=.pv (iv l.length):=by rw[nK,kJ XK,List.length_map]
theorem adU{r:AV}{l:List Cn}{i:Nat}{x:Cn}(h:l[i]? = some x):qD Tryz.prog 39 (.pv (nK l)) (.pv (.lit (.int .i64 (i:Int)))) r↔r=.cptr [sv x.name,aV x.args,iv x.at_]:=by
 rw[nK];exact mH XK (by rw[List.getElem?_map,h,Option.map_some,Cn.cells]) rfl
theorem gD:jQ Tryz.prog 23 5 96:=jQ.of (by kernel_rfl)
@[simp] theorem adq{r:AV}(l:List Dt):pV Tryz.prog 23 (.pv (aZ l)) r↔r=.pv (iv l.length):=by rw[aZ,kJ gD,List.length_map]
theorem adT{r:AV}{l:List Dt}{i:Nat}{x:Dt}(h:l[i]? = some x):qD Tryz.prog 23 (.pv (aZ l)) (.pv (.lit (.int .i64 (i:Int)))) r↔r=.cptr [sv x.name,strs x.params,nK x.cons,strs x.deriv,iv x.at_]:=by
 rw[aZ];exact mH gD (by rw[List.getElem?_map,h,Option.map_some,Dt.cells]) rfl
theorem XI:jQ Tryz.prog 68 6 80:=jQ.of (by kernel_rfl)
@[simp] theorem adn{r:AV}(l:List Md):pV Tryz.prog 68 (.pv (jb l)) r↔r=.pv (iv l.length):=by rw[jb,kJ XI,List.length_map]
theorem adQ{r:AV}{l:List Md}{i:Nat}{x:Md}(h:l[i]? = some x):qD Tryz.prog 68 (.pv (jb l)) (.pv (.lit (.int .i64 (i:Int)))) r↔r=.cptr [sv x.name,iv x.t.kind,sv x.t.name,iv x.t.n,aV x.t.kids,iv x.at_]:=by
 rw[jb];exact mH XI (by rw[List.getElem?_map,h,Option.map_some,Md.cells]) rfl
theorem gZ:jQ Tryz.prog 24 6 112:=jQ.of (by kernel_rfl)
@[simp] theorem ads{r:AV}(l:List Cl):pV Tryz.prog 24 (.pv (cls l)) r↔r=.pv (iv l.length):=by rw[cls,kJ gZ,List.length_map]
theorem adV{r:AV}{l:List Cl}{i:Nat}{x:Cl}(h:l[i]? = some x):qD Tryz.prog 24 (.pv (cls l)) (.pv (.lit (.int .i64 (i:Int)))) r↔r=.cptr [sv x.name,sv x.var,strs x.supers,jb x.methods,bg x.defaults,iv x.at_]:=by
 rw[cls];exact mH gZ (by rw[List.getElem?_map,h,Option.map_some,Cl.cells]) rfl
theorem Qb:jQ Tryz.prog 45 5 72:=jQ.of (by kernel_rfl)
@[simp] theorem adl{r:AV}(l:List Pd):pV Tryz.prog 45 (.pv (jT l)) r↔r=.pv (iv l.length):=by rw[jT,kJ Qb,List.length_map]
theorem adP{r:AV}{l:List Pd}{i:Nat}{x:Pd}(h:l[i]? = some x):qD Tryz.prog 45 (.pv (jT l)) (.pv (.lit (.int .i64 (i:Int)))) r↔r=.cptr [sv x.cls,iv x.t.kind,sv x.t.name,iv x.t.n,aV x.t.kids]:=by
 rw[jT];exact mH Qb (by rw[List.getElem?_map,h,Option.map_some,Pd.cells]) rfl
theorem gN:jQ Tryz.prog 25 8 128:=jQ.of (by kernel_rfl)
@[simp] theorem ado{r:AV}(l:List It):pV Tryz.prog 25 (.pv (its l)) r↔r=.pv (iv l.length):=by rw[its,kJ gN,List.length_map]
theorem adR{r:AV}{l:List It}{i:Nat}{x:It}(h:l[i]? = some x):qD Tryz.prog 25 (.pv (its l)) (.pv (.lit (.int .i64 (i:Int)))) r↔r=.cptr [sv x.cls,iv x.head.kind,sv x.head.name,iv x.head.n,aV x.head.kids,jT x.ctx,bg x.binds,iv x.at_]:=by
 rw[its];exact mH gN (by rw[List.getElem?_map,h,Option.map_some,It.cells]) rfl
structure Ev where
 datas:List Dt
 classes:List Cl
 insts:List It
structure Pg extends Ev where
 binds:List Bd
def aW:Nat:=9223372036854775807
theorem aO{k n:Nat}(h:k<n)(hn:n≤aW):IntKind.i64.wrap ((k:Int)+1)=((k+1:Nat):Int):=by unfold aW at hn;rw[bR (by omega)];omega
theorem oK{α:Type}{l:List α}{i:Nat}{a:α}(h:l[i]? = some a):i<l.length:=by
 by_cases hi:i<l.length
 ·exact hi
 ·rw[List.getElem?_eq_none (by omega)] at h;cases h
end Go.Proofs.YtfphhabaeggenaaGreatDoor
namespace Go.Proofs.YtfphhabaeggenaaGreatDoor
open Go.RowKit
mutual
def kX:PV→PV
 |.lit v=>if Kh (.lit v) then .rows [] else .lit v
 |.rows es=>.rows (fH es)
 |.sym i=>.sym i
 |.opq ne lo hi=>.opq ne lo hi
 |.rng lo hi=>.rng lo hi
 |.any=>.any
def fC:List PV→List PV
 |[]=>[]
 |p::l=>kX p::fC l
def fH:List (List PV)→List (List PV)
 |[]=>[]
 |c::l=>fC c::fH l
end
theorem mQ:∀l,fC l=l.map kX
 |[]=>by rw[fC];rfl
 |p::l=>by rw[fC,mQ l];rfl
theorem kY:∀es,fH es=es.map fC
 |[]=>by rw[fH];rfl
 |l::es=>by rw[fH,kY es];rfl
theorem PR.wd{R:Nat→PV}{M:Nat→Nat→Option Value}{p:PV}{v:Value}(h:PR R M p v):PR R M (kX p) v:=by
 induction h with
 |sym i v h _=>rw[kX];exact .sym i v h
 |lit v h=>
  rw[kX];split
  ·rename_i hn
   have:=Ay hn;injection this with this
   subst this;exact PR.nilRow
  ·exact .lit v h
 |rows es a cap g off sz us ha hn hsz hc hr ih=>
  rw[kX,kY];have:=PR.rows (R:=R) (M:=M) (es.map fC) a cap g off sz us (fun hne=>ha (fun e=>hne (by rw[e];rfl))) (by simpa using hn)
   (fun i hi=>by simp only[List.getElem_map,mQ,List.length_map];exact hsz i (by simpa using hi)) (fun i hi j hj=>hc i (by simpa using hi) j hj)
   (fun i hi j hj=>by
    simp only[List.getElem_map,mQ];exact ih i (by simpa using hi) j (by simpa[mQ] using hj))
  rwa [List.length_map] at this
 |opq ne lo hi s hne hlo hhi=>rw[kX];exact .opq ne lo hi s hne hlo hhi
 |rng lo hi n hlo hhi=>rw[kX];exact .rng lo hi n hlo hhi
 |any v h=>rw[kX];exact .any v h
theorem Jb(p:PV):kX (Py p)=kX p:=by
 unfold Py;split
 ·rename_i h
  rw[Ay h,kX,kX,fH];rfl
 ·rfl
theorem LH(l:List PV):(fC l).length=l.length:=by rw[mQ,List.length_map]
theorem yT:∀(l:List PV) (i:Nat),nm (fC l) i=kX (nm l i)
 |[],i=>by rw[fC];show PV.any=kX PV.any;rw[kX]
 |p::l,0=>by rw[fC];rfl
 |p::l,i+1=>by rw[fC];exact yT l i
theorem aiw{p:PV}(h:NS p):NS (kX p):=by
 induction h with
 |lit v=>
  rw[kX];split
  ·exact .rows _ fun c hc=>by cases hc
  ·exact .lit v
 |rows es h ih=>
  rw[kX,kY];refine .rows _ fun c hc p hp=>?_
  obtain⟨c',hc',rfl⟩:=List.mem_map.1 hc;rw[mQ] at hp;obtain⟨p',hp',rfl⟩:=List.mem_map.1 hp;exact ih c' hc' p' hp'
 |opq ne lo hi=>rw[kX];exact .opq ne lo hi
 |rng lo hi=>rw[kX];exact .rng lo hi
 |any=>rw[kX];exact .any
mutual
/-- Nothing but names and what is put together of them. -/
def CZ:AV→Bool
 |.pv (.sym _)=>true
 |.tup l=>Aj l
 |.agg l=>Aj l
 |_=>false
def Aj:List AV→Bool
 |[]=>true
 |a::l=>CZ a&&Aj l
end
section
variable{K:Kn}{ys zs:List PV}(hz:∀i v,PR K.R K.M (nm ys i) v→PR K.R K.M (nm zs i) v)
include hz
mutual
theorem Qp:∀a,CZ a=true→∀u,VR K (af (nm ys) a) u→VR K (af (nm zs) a) u
 |.pv p,h,u,hv=>by
  cases p with
  |sym i=>
   rw[af,aj] at hv ⊢;cases hv with
   |pv hp=>exact .pv (hz i _ hp)
  |_=>simp[CZ] at h
 |.tup l,h,u,hv=>by
  have hm:=CY l (by rw[CZ] at h;exact h);rw[af,cB] at hv ⊢;cases hv with
  |tup _ cs hl hh=>exact .tup _ cs (by simpa using hl) (fun i hi hi'=>by
    have:=hm _ (List.getElem_mem (by simpa using hi)) _ (by have:=hh i (by simpa using hi) hi';rw[List.getElem_map] at this;exact this);rw[List.getElem_map];exact this)
 |.agg l,h,u,hv=>by
  have hm:=CY l (by rw[CZ] at h;exact h);rw[af,cB] at hv ⊢;cases hv with
  |agg _ cs hl hh=>exact .agg _ cs (by simpa using hl) (fun i hi hi'=>by
    have:=hm _ (List.getElem_mem (by simpa using hi)) _ (by have:=hh i (by simpa using hi) hi';rw[List.getElem_map] at this;exact this);rw[List.getElem_map];exact this)
 |.trows _ _,h,_,_=>by simp[CZ] at h
 |.tsym _ _,h,_,_=>by simp[CZ] at h
 |.ptr _ _,h,_,_=>by simp[CZ] at h
 |.cptr _,h,_,_=>by simp[CZ] at h
 |.fn _ _,h,_,_=>by simp[CZ] at h
 |.sl _ _ _ _,h,_,_=>by simp[CZ] at h
 |.mp _,h,_,_=>by simp[CZ] at h
 |.ifc _ _,h,_,_=>by simp[CZ] at h
 |.arr _,h,_,_=>by simp[CZ] at h
 |.aptr _ _ _,h,_,_=>by simp[CZ] at h
 |.arv _ _ _,h,_,_=>by simp[CZ] at h
theorem CY:∀(l:List AV),Aj l=true→∀a∈l,∀u,VR K (af (nm ys) a) u→VR K (af (nm zs) a) u
 |[],_,a,ha,_,_=>by cases ha
 |b::l,h,a,ha,u,hv=>by
  rw[Aj,Bool.and_eq_true] at h;have h1:=Qp b h.1;have h2:=CY l h.2;rcases List.mem_cons.1 ha with rfl|ha
  ·exact h1 u hv
  ·exact h2 a ha u hv
end
theorem acV{a:AV}(h:CZ a=true){e:Ending}(he:gW K (af (nm ys) a) e):gW K (af (nm zs) a) e:=by
 refine he.map (fun x hx=>?_) (fun hn=>?_)
 ·rw[nk] at hx
  obtain⟨y,hy,rfl⟩:=au hx;refine⟨af (nm zs) y,by rw[nk,hy];rfl,fun u hu=>?_⟩;rw[ic hy,CZ,Aj,Aj,Aj,Bool.and_eq_true,Bool.and_eq_true] at h;exact Qp hz y h.2.1 u hu
 ·rw[nk] at hn
  refine⟨?_,fun u hu=>Qp hz a h u hu⟩;rw[nk];cases hp:dN a with
  |none=>rfl
  |some y=>rw[hp] at hn;cases hn
theorem acU{l:List AV}(h:Aj l=true){us:List Value}(hv:VL K (ay (nm ys) l) us):VL K (ay (nm zs) l) us:=by
 rw[cB] at hv ⊢;refine⟨by simpa using hv.1,fun i hi hi'=>?_⟩;have:=hv.2 i (by simpa using hi) hi';rw[List.getElem_map] at this ⊢;exact CY hz l h _ (List.getElem_mem (by simpa using hi)) _ this
theorem acT{ty:TypeId}{l:List AV}(h:Aj l=true){w:World}(W:WR K [.box ty (ay (nm ys) l)] w):WR K [.box ty (ay (nm zs) l)] w:=by
 have hlen:(ay (nm zs) l).length=(ay (nm ys) l).length:=by rw[cB,cB,List.length_map,List.length_map]
 have one:∀{x y:ah} (i:Nat) {z:ah},[x][i]? = some z→i=0∧z=x:=by
  intro x y i z hz;cases i with
  |zero=>exact⟨rfl,(Option.some.inj hz).symm⟩
  |succ n=>cases hz
 refine⟨W.fresh,W.has,W.lt,fun i ty' cells hi=>?_,fun i ks vs hi=>?_,fun t ty' sz len hi=>?_,fun i j x y g hx hy hlx hly=>?_,fun i ty' cells g hi hg=>?_,W.agr,fun i ty' sz p hi=>?_⟩
 ·obtain⟨rfl,e⟩:=one (y:=.dead) i hi
  cases e;obtain⟨g,cs,m1,m2,m3,m4⟩:=W.box 0 ty _ rfl;exact⟨g,cs,m1,m2,m3,by rw[hlen];exact acU hz h m4⟩
 ·obtain⟨rfl,e⟩:=one (y:=.dead) i hi;cases e
 ·obtain⟨rfl,e⟩:=one (y:=.dead) t hi;cases e
 ·intro h1 h2
  obtain⟨rfl,_⟩:=one (y:=.dead) i hx;obtain⟨rfl,_⟩:=one (y:=.dead) j hy;rfl
 ·obtain⟨rfl,e⟩:=one (y:=.dead) i hi
  exact W.apart 0 ty _ g rfl hg
 ·obtain⟨rfl,e⟩:=one (y:=.dead) i hi;cases e
end
def iw:List AV→Bool
 |[]=>true
 |.pv (.sym _)::l=>iw l
 |_=>false
theorem DT:∀{l:List AV},iw l=true→Aj l=true∧∀R,nU (ay R l)=[]
 |[],_=>⟨rfl,fun _=>rfl⟩
 |.pv (.sym i)::l,h=>by
  rw[iw] at h;obtain⟨h1,h2⟩:=DT h;exact⟨by rw[Aj,CZ,h1];rfl,fun R=>by rw[ay,nU,h2 R,af,refs];rfl⟩
 |.pv (.lit _)::l,h=>by simp[iw] at h
 |.pv (.rows _)::l,h=>by simp[iw] at h
 |.pv (.opq ..)::l,h=>by simp[iw] at h
 |.pv (.rng ..)::l,h=>by simp[iw] at h
 |.pv .any::l,h=>by simp[iw] at h
 |.trows _ _::_,h=>by simp[iw] at h
 |.tsym _ _::_,h=>by simp[iw] at h
 |.ptr _ _::_,h=>by simp[iw] at h
 |.cptr _::_,h=>by simp[iw] at h
 |.agg _::_,h=>by simp[iw] at h
 |.tup _::_,h=>by simp[iw] at h
 |.fn _ _::_,h=>by simp[iw] at h
 |.sl _ _ _ _::_,h=>by simp[iw] at h
 |.mp _::_,h=>by simp[iw] at h
 |.ifc _ _::_,h=>by simp[iw] at h
 |.arr _::_,h=>by simp[iw] at h
 |.aptr _ _ _::_,h=>by simp[iw] at h
 |.arv _ _ _::_,h=>by simp[iw] at h
theorem fG.box1{P:Program}{R:Nat→PV}{f:Nat}{args:List AV}{o0:ah}{v:AV}{ty:TypeId}{cs:List AV}{r:List ah}(hc:fG R P f args [o0] v (.box ty cs::r))(hv:refs (YtfphhabaeggenaaGreatDoor.wk v)=[])(hcs:nU cs=[]) :
  fG R P f args [o0] (YtfphhabaeggenaaGreatDoor.wk v) [.box ty cs]:=by
 intro K w us hR W hvl;refine(hc K w us hR W hvl).mono ?_;rintro e w' ⟨K',hu,hst⟩;have hf:qo (YtfphhabaeggenaaGreatDoor.wk v) (.box ty cs::r) ([o0]:List ah).length=some (YtfphhabaeggenaaGreatDoor.wk v,[.box ty cs]):=by
  have e1:(List.take 1 (ah.box ty cs::r)).flatMap Ed++refs (YtfphhabaeggenaaGreatDoor.wk v)=[]:=by
   rw[hv];show nU cs++[]++[]=[];rw[hcs];rfl
  show zB (YtfphhabaeggenaaGreatDoor.wk v) (.box ty cs::r) 1 (reach (.box ty cs::r) 1000 ((List.take 1 (ah.box ty cs::r)).flatMap Ed++refs (YtfphhabaeggenaaGreatDoor.wk v)) (List.range 1))=_;rw[e1];have e2:reach (ah.box ty cs::r) 1000 [] (List.range 1)=[0]:=rfl;rw[e2];unfold zB;have e3:(nodupB [0]&&(List.take 1 [0]==List.range 1))=true:=rfl;rw[if_pos e3];have e4:wE (.box ty cs::r) [0]=some [.box ty cs]:=by
   have e5:EF (ah.box ty cs::r) [0]=some [.box ty cs]:=rfl;unfold wE;rw[e5];simp only[GN,dL,mq _ cs hcs,Option.map_some]
  rw[e4,yJ _ _ hv]
 obtain⟨f,K2,h1,h2,h3⟩:=lK W hst hf;exact⟨K2,hu.wk.ren h1 h2,h3⟩
theorem fG.conv{P:Program}{R:Nat→PV}{f:Nat}{args:List AV}{o0:ah}{ty:TypeId}{ws ys zs:List PV}{a:AV}{cs:List AV}(ha:CZ a=true)(hcs:Aj cs=true)
  (h1:∀{R M} i v,PR R M (nm ws i) v→PR R M (nm zs i) v) (h2:∀{R M} i v,PR R M (nm ys i) v→PR R M (nm zs i) v)
  (hc:fG R P f args [o0] (af (nm ws) a) [.box ty (ay (nm ys) cs)]):fG R P f args [o0] (af (nm zs) a) [.box ty (ay (nm zs) cs)]:=by
 intro K w us hR W hvl;refine(hc K w us hR W hvl).mono ?_;rintro e w' ⟨K',hu,hst⟩;refine⟨K',acV (fun i v=>h1 i v) ha hu,acT (fun i v=>h2 i v) hcs hst.wr,hst.ext,hst.frm,hst.zs,hst.ms,hst.mu,fun b hb hlt=>hst.live b ?_ hlt,hst.len⟩;obtain⟨i,x,hx,hl,hm⟩:=hb;cases i with
 |zero=>exact⟨0,_,rfl,rfl,hm⟩
 |succ n=>cases hx
structure Q where
 k:Nat
 xs:List PV
abbrev Rs:=Nat×List PV
inductive bG where
 |bot
 |fail
 |ok (r:Rs)
structure Shape where
 ex:aN:=.ret
 v:AV:=.tup []
 e:Env:=[]
 h:List ah:=[]
 m:Nat
 rw:List Nat:=[]
structure gJ where
 lp:Option (Nat×Nat):=none
 f:Nat
 args:List AV:=[]
 e:Env:=[]
 h:List ah:=[]
 n:Nat
 rin:List Nat:=[]
 fam:Nat
 base:Option Nat:=none
 wm:List Nat:=[]
inductive Et where
 |say (f:SF) (k:Et)
 |alt (a b:Et)
 |call (q:Nat) (ps:List PV) (s:Nat) (pats:List PV) (k:Et)
 |out (s:Nat) (ps:List PV)
 |goto (q:Nat) (ps:List PV)
 |no (t:Tr)
 |ext (g:List PV→Option (Nat×List PV))
def Ws:Et:=.no (.ret (.tup []) [])
def nth{α:Type}(d:α):List α→Nat→α
 |[],_=>d
 |a::_,0=>a
 |_::l,n+1=>nth d l n
def jo:Shape:={m:=0 }
def dEn:gJ:={f:=0,n:=0,fam:=0 }
section
variable{β:Type}
open Classical in
noncomputable def isK(d:β)(p y:PV)(k:β):β:=if p=y then k else d
def Y6(d:β)(ys:List PV)(k:β):β:=match ys with
 |[]=>k
 |_=>d
def IJ(d:β)(ys:List PV)(k:PV→List PV→β):β:=match ys with
 |y::r=>k y r
 |[]=>d
def Nc(d:β)(w:AV)(k:PV→β):β:=match w with
 |.pv y=>k y
 |_=>d
def O1(d:β)(w:AV)(k:List PV→β):β:=match w with
 |.cptr ys=>k ys
 |_=>d
def yO(d:β)(w:AV)(k:PV→PV→β):β:=match w with
 |.tup [.pv y,.pv z]=>k y z
 |_=>d
def He:List AV→Option (List PV)
 |[]=>some []
 |.pv p::l=>match He l with
  |some r=>some (p::r)
  |none=>none
 |_::_=>none
theorem Bl:∀{l:List AV} {ps:List PV},He l=some ps→l=ps.map .pv
 |[],ps,h=>by cases h;rfl
 |a::l,ps,h=>by
  unfold He at h;split at h
  ·rename_i e;cases e
  ·rename_i p l' e
   cases e;split at h
   ·rename_i r hr
    cases h;rw[List.map_cons,←Bl hr]
   ·cases h
  ·cases h
def EG(d:β)(w:AV)(k:List PV→PV→β):β:=match w with
 |.tup [.agg l,.pv z]=>match He l with
  |some ys=>k ys z
  |none=>d
 |_=>d
open Classical in
noncomputable def qE{α:Type}(d:β)(p:α→Prop)(k:α→β):β:=if h:∃w,p w then k h.choose else d
noncomputable def GA(d:β)(p y:PV)(l:List PV)(k:List PV→β):β:=match p with
 |.sym i=>match Nat.blt i l.length with
  |true=>isK d (nm l i) y (k l)
  |false=>match Nat.beq i l.length with
   |true=>k (l++[y])
   |false=>d
 |.lit v=>isK d (.lit v) y (k l)
 |.rows es=>match jF l.length (nu es) with
  |true=>isK d (aj (nm l) (.rows es)) y (k l)
  |false=>d
 |_=>d
noncomputable def Nz(d:β):List PV→List PV→List PV→(List PV→β)→β
 |[],ys,l,k=>Y6 d ys (k l)
 |p::ps,ys,l,k=>IJ d ys fun y r=>GA d p y l fun l'=>Nz d ps r l' k
noncomputable def Gz(d:β)(r w:AV)(l:List PV)(k:List PV→β):β:=match r with
 |.pv p=>Nc d w fun y=>GA d p y l k
 |.cptr ps=>O1 d w fun ys=>Nz d ps ys l k
 |.tup [.pv p,.pv q]=>yO d w fun y z=>GA d p y l fun l'=>GA d q z l' k
 |.tup [.agg as',.pv q]=>match He as' with
  |some ps=>EG d w fun ys z=>GA d q z l fun l'=>Nz d ps ys l' k
  |none=>d
 |_=>d
noncomputable def qP(P:Program)(d:β)(b:BinOp)(t:TypeId)(u v:AV)(k:AV→β):β:=qE d (fun w=>fq P b t u v w∧oG w) k
noncomputable def mG(P:Program)(d:β)(t:TypeId)(u:AV)(k:AV→β):β:=qE d (fun w=>pV P t u w∧oG w) k
noncomputable def lX(P:Program)(d:β)(t:TypeId)(u i:AV)(k:AV→β):β:=qE d (fun w=>qD P t u i w∧oG w) k
noncomputable def aku(P:Program)(d:β)(t:TypeId)(u i:AV)(k:AV→β):β:=qE d (fun w=>xJ P t u i=some w∧oG w) k
noncomputable def xk(P:Program)(d:β)(t:TypeId)(u:AV)(lo hi:Option AV)(k:AV→β):β:=qE d (fun w=>Gq P t u lo hi w∧oG w) k
def abN(P:Program)(s d:TypeId)(u r:AV):Prop:=II P s d u=some r
def as4(P:Program)(o:UnOp)(u r:AV):Prop:=∃a c,u.val? = some a∧aP P (Op.unary o a)=some c∧pu c=some r
noncomputable def aa2(P:Program)(d:β)(s t:TypeId)(u:AV)(k:AV→β):β:=qE d (fun w=>abN P s t u w∧oG w) k
noncomputable def unK(P:Program)(d:β)(o:UnOp)(u:AV)(k:AV→β):β:=qE d (fun w=>as4 P o u w∧oG w) k
noncomputable def pO(P:Program)(d:β)(t:TypeId)(s x:AV)(k:PV→β):β:=qE d (fun w=>Gw P t s x w∧NS w) k
open Classical in
noncomputable def wV(P:Program)(d:β)(t:TypeId)(s x:AV)(k:β):β:=if abO P t s x then k else d
noncomputable def mxK(P:Program)(d:β)(mn:Bool)(u v:AV)(k:AV→β):β:=qE d (fun w=>agt P mn u v w∧oG w) k
noncomputable def wM(P:Program)(d:β)(t:TypeId)(p:PV)(a:AV)(ok:Bool)(k:AV→β):β:=qE d (fun w=>Gt P t p a w ok∧oG w) k
noncomputable def D6(d:β)(p i:PV)(o:Nat)(c:List PV)(k:PV→β):β:=qE d (fun w=>abK p i o c w∧NS w) k
noncomputable def mkK(P:Program)(d:β)(t:TypeId)(n:AV)(k:PV→β):β:=qE d (fun w=>agu P t n w∧NS w) k
noncomputable def alx(P:Program)(d:β)(t:TypeId)(p:PV)(a:AV)(k:PV→β):β:=qE d (fun w=>abM P t p a w∧NS w) k
noncomputable def aiM(d:β)(a b:PV)(k:PV→β):β:=qE d (fun w=>abJ a b w∧NS w) k
def acR:AV→PV
 |.pv p=>p
 |_=>.any
def ake:AV→PV
 |.pv p=>p
 |.agg l=>.rows [l.map acR]
 |_=>.any
def apd(p:PV)(a v:AV):PV:=match p with
 |.rows es=>.rows (es++[ake a::v.cells.map acR])
 |p=>p
open Classical in
noncomputable def DF(P:Program)(d:β)(t:TypeId)(p:PV)(a v:AV)(k:PV→β):β:=if I7 P t p a v (apd p a v)∧NS (apd p a v) then k (apd p a v) else d
noncomputable def ng(P:Program)(d:β)(f:SF)(l:List PV)(k:List PV→β):β:=match f with
 |.bin b t u v r=>qP P d b t (af (nm l) u) (af (nm l) v) fun w=>Gz d r w l k
 |.len t u r=>mG P d t (af (nm l) u) fun w=>Gz d r w l k
 |.idx t u i r=>lX P d t (af (nm l) u) (af (nm l) i) fun w=>Gz d r w l k
 |.ind t u i r=>aku P d t (af (nm l) u) (af (nm l) i) fun w=>Gz d r w l k
 |.slc t u lo hi r=>xk P d t (af (nm l) u) (lo.map (af (nm l))) (hi.map (af (nm l))) fun w=>Gz d r w l k
 |.conv s t u r=>aa2 P d s t (af (nm l) u) fun w=>Gz d r w l k
 |.un o u r=>unK P d o (af (nm l) u) fun w=>Gz d r w l k
 |.app t s x j=>pO P d t (af (nm l) s) (af (nm l) x) fun y=>GA d (.sym j) y l k
 |.app0 t s x=>wV P d t (af (nm l) s) (af (nm l) x) (k l)
 |.names=>k l
 |.mx mn u v r=>mxK P d mn (af (nm l) u) (af (nm l) v) fun w=>Gz d r w l k
 |.look t p a r ok=>wM P d t (aj (nm l) p) (af (nm l) a) ok fun w=>Gz d r w l k
 |.upd t p a v j=>DF P d t (aj (nm l) p) (af (nm l) a) (af (nm l) v) fun y=>GA d (.sym j) y l k
 |.set p i o c j=>D6 d (aj (nm l) p) (aj (nm l) i) o (aG (nm l) c) fun y=>GA d (.sym j) y l k
 |.mk t n j=>mkK P d t (af (nm l) n) fun y=>GA d (.sym j) y l k
 |.del t p a j=>alx P d t (aj (nm l) p) (af (nm l) a) fun y=>GA d (.sym j) y l k
 |.sum a b j=>aiM d (aj (nm l) a) (aj (nm l) b) fun y=>GA d (.sym j) y l k
 |.apq t s x j=>pO P d t (af (nm l) s) (af (nm l) x) fun y=>GA d (.sym j) y l k
end
def bG.alt(a b:bG):bG:=match a with
 |.bot=>.bot
 |.fail=>b
 |.ok r=>.ok r
def vB(o:Option Rs)(s:Nat)(k:List PV→bG):bG:=match o with
 |none=>.bot
 |some (s',ys)=>match Nat.beq s' s with
  |true=>k ys
  |false=>.fail
def tL(o:Option Rs):bG:=match o with
 |none=>.bot
 |some r=>.ok r
def OJ(o:Option Rs):bG:=match o with
 |none=>.fail
 |some r=>.ok r
noncomputable def run(P:Program)(O:Q→Option Rs):Et→List PV→bG
 |.say f k,l=>ng P .fail f l fun l'=>run P O k l'
 |.alt a b,l=>(run P O a l).alt (run P O b l)
 |.call q ps s pats k,l=>vB (O ⟨q,aG (nm l) ps⟩) s fun ys=>Nz .fail pats ys l fun l'=>run P O k l'
 |.out s ps,l=>.ok (s,aG (nm l) ps)
 |.goto q ps,l=>tL (O ⟨q,aG (nm l) ps⟩)
 |.no _,_=>.fail
 |.ext g,l=>OJ (g l)
def pX:List PV→List PV
 |[]=>[]
 |p::l=>Py p::pX l
def LF(o:Option Rs):bG:=match o with
 |none=>.bot
 |some (_,ys)=>.ok (0,pX ys)
def Xn(o:Option Rs):bG:=match o with
 |none=>.bot
 |some (_,ys)=>.ok (0,fC ys)
def weakM(m:List Nat)(o:Option Rs):bG:=match o with
 |none=>.bot
 |some (s,ys)=>match nth 0 m s with
  |0=>.ok (0,fC ys)
  |j+1=>.ok (j+1,ys)
noncomputable def body(P:Program)(E:Nat→gJ)(T:Nat→Et)(O:Q→Option Rs)(q:Q):bG:=match(E q.k).base with
 |some b=>match(E q.k).wm with
  |[]=>match(E q.k).h with
   |[]=>LF (O ⟨b,q.xs⟩)
   |_::_=>Xn (O ⟨b,q.xs⟩)
  |x::l=>weakM (x::l) (O ⟨b,q.xs⟩)
 |none=>run P O (T q.k) q.xs
section
variable{β:Type}
theorem Ki(d:β)(p y:PV)(k:Option (List PV))(g:List PV→β):(match isK none p y k with|none=>d|some l=>g l)=isK d p y (match k with|none=>d|some l=>g l):=by
 unfold isK;by_cases h:p=y
 ·rw[if_pos h,if_pos h]
 ·rw[if_neg h,if_neg h]
theorem qj(d:β)(p y:PV)(l:List PV)(k:List PV→Option (List PV))(g:List PV→β):(match GA none p y l k with|none=>d|some l=>g l)=GA d p y l fun l'=>(match k l' with|none=>d|some l=>g l):=by
 cases p with
 |sym i=>
  simp only[GA];cases Nat.blt i l.length with
  |true=>exact Ki ..
  |false=>cases Nat.beq i l.length<;>rfl
 |lit v=>exact Ki ..
 |rows es=>
  simp only[GA];cases jF l.length (nu es) with
  |true=>exact Ki ..
  |false=>rfl
 |_=>rfl
theorem Df(d:β)(g:List PV→β):∀(ps ys:List PV) (l:List PV) (k:List PV→Option (List PV)),(match Nz none ps ys l k with|none=>d|some l=>g l)=Nz d ps ys l fun l'=>(match k l' with|none=>d|some l=>g l)
 |[],ys,l,k=>by
  rw[Nz,Nz];unfold Y6;cases ys<;>rfl
 |p::ps,ys,l,k=>by
  rw[Nz,Nz];unfold IJ;cases ys with
  |nil=>rfl
  |cons y r=>
   simp only;rw[qj];congr 1;funext l';exact Df d g ps r l' k
theorem acS(d:β)(w:AV)(k:PV→Option (List PV))(g:List PV→β):(match Nc none w k with|none=>d|some l=>g l)=Nc d w fun y=>(match k y with|none=>d|some l=>g l):=by
 cases w<;>rfl
theorem Wy(d:β)(w:AV)(k:List PV→Option (List PV))(g:List PV→β):(match O1 none w k with|none=>d|some l=>g l)=O1 d w fun y=>(match k y with|none=>d|some l=>g l):=by
 cases w<;>rfl
theorem VY(d:β)(w:AV)(k:PV→PV→Option (List PV))(g:List PV→β):(match yO none w k with|none=>d|some l=>g l)=yO d w fun y z=>(match k y z with|none=>d|some l=>g l):=by
 have key:(∃y z,w=.tup [.pv y,.pv z])∨∀y z,w≠.tup [.pv y,.pv z]:=by
  by_cases h:∃y z,w=.tup [.pv y,.pv z]
  ·exact .inl h
  ·exact .inr fun y z e=>h ⟨y,z,e⟩
 rcases key with⟨y,z,rfl⟩|h
 ·rfl
 ·have e:∀{γ:Type} (d:γ) (k:PV→PV→γ),yO d w k=d:=by
   intro γ d k;unfold yO;split
   ·rename_i y z;exact absurd rfl (h y z)
   ·rfl
  rw[e,e]
theorem VZ(d:β)(w:AV)(k:List PV→PV→Option (List PV))(g:List PV→β):(match EG none w k with|none=>d|some l=>g l)=EG d w fun y z=>(match k y z with|none=>d|some l=>g l):=by
 have key:(∃l y z,w=.tup [.agg l,.pv z]∧He l=some y)∨∀{γ:Type} (d:γ) (k:List PV→PV→γ),EG d w k=d:=by
  by_cases h:∃l y z,w=.tup [.agg l,.pv z]∧He l=some y
  ·exact .inl h
  ·refine .inr fun d k=>?_
   unfold EG;split
   ·split
    ·rename_i l z _ ys hy;exact absurd ⟨l,ys,z,rfl,hy⟩ h
    ·rfl
   ·rfl
 rcases key with⟨l,y,z,rfl,hy⟩|h
 ·simp only[EG,hy]
 ·rw[h,h]
theorem Io(r:AV):(∃p,r=.pv p)∨(∃ps,r=.cptr ps)∨(∃p q,r=.tup [.pv p,.pv q])∨(∃as' ps q,r=.tup [.agg as',.pv q]∧He as'=some ps)∨∀{γ:Type} (d:γ) (w:AV) (l:List PV) (k:List PV→γ),Gz d r w l k=d:=by
 by_cases h1:∃p,r=.pv p
 ·exact .inl h1
 by_cases h2:∃ps,r=.cptr ps
 ·exact .inr (.inl h2)
 by_cases h3:∃p q,r=.tup [.pv p,.pv q]
 ·exact .inr (.inr (.inl h3))
 by_cases h4:∃as' ps q,r=.tup [.agg as',.pv q]∧He as'=some ps
 ·exact .inr (.inr (.inr (.inl h4)))
 refine .inr (.inr (.inr (.inr fun d w l k=>?_)));unfold Gz;split
 ·exact absurd ⟨_,rfl⟩ h1
 ·exact absurd ⟨_,rfl⟩ h2
 ·exact absurd ⟨_,_,rfl⟩ h3
 ·split
  ·rename_i as' q _ ps hp;exact absurd ⟨as',ps,q,rfl,hp⟩ h4
  ·rfl
 ·rfl
theorem ade(d:β)(r w:AV)(l:List PV)(k:List PV→Option (List PV))(g:List PV→β):(match Gz none r w l k with|none=>d|some l=>g l)=Gz d r w l fun l'=>(match k l' with|none=>d|some l=>g l):=by
 rcases Io r with⟨p,rfl⟩|⟨ps,rfl⟩|⟨p,q,rfl⟩|⟨as',ps,q,rfl,hp⟩|h
 ·simp only[Gz];rw[acS];congr 1;funext y;exact qj ..
 ·simp only[Gz];rw[Wy];congr 1;funext y;exact Df ..
 ·simp only[Gz];rw[VY];congr 1;funext y z;rw[qj];congr 1;funext l';exact qj ..
 ·simp only[Gz,hp];rw[VZ];congr 1;funext y z;rw[qj];congr 1;funext l';exact Df ..
 ·rw[h,h]
theorem Xy{α:Type}(d:β)(p:α→Prop)(k:α→Option (List PV))(g:List PV→β):(match qE none p k with|none=>d|some l=>g l)=qE d p fun w=>(match k w with|none=>d|some l=>g l):=by
 unfold qE;by_cases h:∃w,p w
 ·rw[dif_pos h,dif_pos h]
 ·rw[dif_neg h,dif_neg h]
theorem WQ(P:Program)(d:β)(t:TypeId)(s x:AV)(k:Option (List PV))(g:List PV→β):(match wV P none t s x k with|none=>d|some l=>g l)=wV P d t s x (match k with|none=>d|some l=>g l):=by
 unfold wV;by_cases h:abO P t s x
 ·rw[if_pos h,if_pos h]
 ·rw[if_neg h,if_neg h]
theorem Xp(P:Program)(d:β)(t:TypeId)(p:PV)(a v:AV)(k:PV→Option (List PV))(g:List PV→β):(match DF P none t p a v k with|none=>d|some l=>g l)=DF P d t p a v fun y=>(match k y with|none=>d|some l=>g l):=by
 unfold DF;by_cases h:I7 P t p a v (apd p a v)∧NS (apd p a v)
 ·rw[if_pos h,if_pos h]
 ·rw[if_neg h,if_neg h]
theorem XU(P:Program)(d:β)(f:SF)(l:List PV)(k:List PV→Option (List PV))(g:List PV→β):(match ng P none f l k with|none=>d|some l=>g l)=ng P d f l fun l'=>(match k l' with|none=>d|some l=>g l):=by
 cases f with
 |app0 t s x=>exact WQ ..
 |names=>rfl
 |upd t p a v j=>simp only[ng,Xp,qj]
 |_=>simp only[ng,qP,mG,lX,aku,xk,aa2,unK,pO,mxK,wM,D6,mkK,alx,aiM,Xy,ade,qj]
theorem D9(P:Program)(d:β)(f:SF)(l:List PV)(g:List PV→β):ng P d f l g=match ng P none f l some with|none=>d|some l'=>g l':=by rw[XU]
theorem Dg(d:β)(ps ys l:List PV)(g:List PV→β):Nz d ps ys l g=match Nz none ps ys l some with|none=>d|some l'=>g l':=by rw[Df]
end
def bG.Agree(a b:bG):Prop:=a≠.bot→b≠.bot→a=b
def Compat(O O':Q→Option Rs):Prop:=∀q r r',O q=some r→O' q=some r'→r=r'
theorem ru{P:Program}{O O':Q→Option Rs}(h:Compat O O'):∀(t:Et) (l:List PV),(run P O t l).Agree (run P O' t l)
 |.say f k,l=>by
  rw[run,run,D9,D9 P _ _ _ (fun l'=>run P O' k l')];cases ng P none f l some with
  |none=>intro _ _;rfl
  |some l'=>exact ru h k l'
 |.alt a b,l=>by
  rw[run,run];have h1:=ru (P:=P) h a l;have h2:=ru (P:=P) h b l;intro n1 n2;cases e1:run P O a l with
  |bot=>rw[e1] at n1;exact absurd rfl n1
  |fail=>
   cases e2:run P O' a l with
   |bot=>rw[e2] at n2;exact absurd rfl n2
   |fail=>
    rw[e1] at n1;rw[e2] at n2;exact h2 n1 n2
   |ok r=>have:=h1 (by rw[e1];simp) (by rw[e2];simp);rw[e1,e2] at this;cases this
  |ok r=>
   cases e2:run P O' a l with
   |bot=>rw[e2] at n2;exact absurd rfl n2
   |fail=>have:=h1 (by rw[e1];simp) (by rw[e2];simp);rw[e1,e2] at this;cases this
   |ok r'=>have:=h1 (by rw[e1];simp) (by rw[e2];simp);rw[e1,e2] at this;exact this
 |.call q ps s pats k,l=>by
  rw[run,run];intro n1 n2;cases e1:O ⟨q,aG (nm l) ps⟩ with
  |none=>rw[e1] at n1;exact absurd rfl n1
  |some r=>
   cases e2:O' ⟨q,aG (nm l) ps⟩ with
   |none=>rw[e2] at n2;exact absurd rfl n2
   |some r'=>
    have e:=h _ _ _ e1 e2;subst e;rw[e1] at n1;rw[e2] at n2;obtain⟨s',ys⟩:=r;simp only[vB] at n1 n2 ⊢;cases hb:Nat.beq s' s with
    |false=>rfl
    |true=>
     rw[hb] at n1 n2;simp only at n1 n2 ⊢;rw[Dg] at n1 n2;rw[Dg,Dg _ _ _ _ (fun l'=>run P O' k l')];cases hm:Nz none pats ys l some with
     |none=>rfl
     |some l'=>
      rw[hm] at n1 n2;exact ru h k l' n1 n2
 |.out s ps,l=>by rw[run,run];intro _ _;rfl
 |.goto q ps,l=>by
  rw[run,run];intro n1 n2;cases e1:O ⟨q,aG (nm l) ps⟩ with
  |none=>rw[e1] at n1;exact absurd rfl n1
  |some r=>
   cases e2:O' ⟨q,aG (nm l) ps⟩ with
   |none=>rw[e2] at n2;exact absurd rfl n2
   |some r'=>rw[h _ _ _ e1 e2]
 |.no _,l=>by rw[run,run];intro _ _;rfl
 |.ext _,l=>by rw[run,run];intro _ _;rfl
theorem Ro{P:Program}{E:Nat→gJ}{T:Nat→Et}{O O':Q→Option Rs}(h:Compat O O')(q:Q):(body P E T O q).Agree (body P E T O' q):=by
 unfold body;split
 ·rename_i b _
  have e0:∀o:Option Rs,(match(E q.k).wm with|[]=>(match(E q.k).h with|[]=>LF o|_::_=>Xn o)|x::l=>weakM (x::l) o)≠.bot→o≠none:=by
   intro o h0 e;subst e;split at h0
   ·split at h0<;>exact h0 rfl
   ·exact h0 rfl
  intro n1 n2;cases e1:O ⟨b,q.xs⟩ with
  |none=>exact absurd e1 (e0 _ n1)
  |some r=>
   cases e2:O' ⟨b,q.xs⟩ with
   |none=>exact absurd e2 (e0 _ n2)
   |some r'=>rw[h _ _ _ e1 e2]
 ·exact ru h _ _
inductive EvR(P:Program)(E:Nat→gJ)(T:Nat→Et):Q→Rs→Prop where
 |mk (q:Q) (r:Rs) (O:Q→Option Rs) (hO:∀q r,O q=some r→EvR P E T q r) (h:body P E T O q=.ok r):EvR P E T q r
theorem EvR.one{P:Program}{E:Nat→gJ}{T:Nat→Et}{q:Q}{r:Rs}(h:EvR P E T q r):∀{r'},EvR P E T q r'→r=r':=by
 induction h with
 |mk q r O hO h ih=>
  intro r' h';cases h' with
  |mk _ _ O' hO' h'=>
   have hc:Compat O O':=fun q1 r1 r2 e1 e2=>ih q1 r1 e1 (hO' q1 r2 e2)
   have:=Ro (E:=E) (T:=T) hc q (by rw[h];simp) (by rw[h'];simp);rw[h,h'] at this;exact bG.ok.inj this
open Classical in
noncomputable def aS(P:Program)(E:Nat→gJ)(T:Nat→Et)(q:Q):Option Rs:=if h:∃r,EvR P E T q r then some h.choose else none
theorem aS.iff{P:Program}{E:Nat→gJ}{T:Nat→Et}{q:Q}{r:Rs}:aS P E T q=some r↔EvR P E T q r:=by
 unfold aS;split
 ·rename_i h
  constructor
  ·intro e;rw[←Option.some.inj e];exact h.choose_spec
  ·intro h';rw[h.choose_spec.one h']
 ·rename_i h
  constructor
  ·intro e;cases e
  ·intro h';exact absurd ⟨r,h'⟩ h
theorem aS.of{P:Program}{E:Nat→gJ}{T:Nat→Et}{q:Q}{r:Rs}(h:body P E T (aS P E T) q=.ok r):aS P E T q=some r:=
 aS.iff.2 (.mk q r (aS P E T) (fun _ _ h=>aS.iff.1 h) h)
def Kl:List Nat→Nat→Bool
 |[],_=>false
 |j::l,i=>Nat.beq j i||Kl l i
theorem lH:∀{l:List Nat} {i:Nat},Kl l i=true→i∈l
 |[],_,h=>by cases h
 |j::l,i,h=>by
  rw[Kl,Bool.or_eq_true] at h;rcases h with h|h
  ·rw[Nat.eq_of_beq_eq_true h];exact List.mem_cons_self ..
  ·exact List.mem_cons_of_mem _ (lH h)
def short:PV→Prop
 |.rows es=>es.length<aH
 |_=>False
theorem mh{p:PV}(h:short p):∃es,p=.rows es∧es.length<aH:=by
 cases p with
 |rows es=>exact⟨es,rfl,h⟩
 |_=>exact h.elim
def Good(R:Nat→PV)(l:List Nat):Prop:=∀i∈l,short (R i)
mutual
def pY(ps:List PV):AV→AV
 |.pv p=>.pv (aj (nm ps) p)
 |.trows t es=>.trows t (aX (nm ps) es)
 |.tsym t i=>match nm ps i with
  |.rows es=>.trows t es
  |.sym j=>.tsym t j
  |_=>.tsym t i
 |.ptr i o=>.ptr i o
 |.cptr cs=>.cptr (aG (nm ps) cs)
 |.agg l=>.agg (uq ps l)
 |.tup l=>.tup (uq ps l)
 |.fn f l=>.fn f (uq ps l)
 |.sl t lo len sz=>.sl t lo len sz
 |.mp t=>.mp t
 |.ifc t v=>.ifc t (pY ps v)
 |.arr t=>.arr t
 |.aptr t i o=>.aptr t (aj (nm ps) i) o
 |.arv t i q=>.arv t (aj (nm ps) i) (aj (nm ps) q)
def uq(ps:List PV):List AV→List AV
 |[]=>[]
 |a::l=>pY ps a::uq ps l
end
def acf(ps:List PV)(n:Nat):Nat:=match Nat.blt n aH with
 |true=>n
 |false=>match nm ps (n-aH) with
  |.sym j=>aH+j
  |.rows es=>es.length
  |_=>n
def P7(ps:List PV):ah→ah
 |.box t l=>.box t (uq ps l)
 |.tok t s n=>.tok t s (acf ps n)
 |.dead=>.dead
 |.mp ks l=>.mp ks (uq ps l)
 |.arr t s p=>.arr t s (aj (nm ps) p)
def XF(ps:List PV):List ah→List ah
 |[]=>[]
 |x::l=>P7 ps x::XF ps l
def L8(ps:List PV):Env→Env
 |[]=>[]
 |(d,a)::l=>(d,pY ps a)::L8 ps l
mutual
def mJ(rw_:List Nat):AV→Bool
 |.pv _=>true
 |.trows _ _=>true
 |.tsym _ i=>Kl rw_ i
 |.ptr _ _=>true
 |.cptr _=>true
 |.agg l=>nX rw_ l
 |.tup l=>nX rw_ l
 |.fn _ l=>nX rw_ l
 |.sl _ _ _ _=>true
 |.mp _=>true
 |.ifc _ v=>mJ rw_ v
 |.arr _=>true
 |.aptr _ _ _=>true
 |.arv _ _ _=>true
def nX(rw_:List Nat):List AV→Bool
 |[]=>true
 |a::l=>mJ rw_ a&&nX rw_ l
end
def aa1(rw_:List Nat):ah→Bool
 |.box _ l=>nX rw_ l
 |.tok _ _ n=>match Nat.blt n aH with
  |true=>true
  |false=>Kl rw_ (n-aH)
 |.dead=>true
 |.mp _ l=>nX rw_ l
 |.arr _ _ _=>true
def Q8(rw_:List Nat):List ah→Bool
 |[]=>true
 |x::l=>aa1 rw_ x&&Q8 rw_ l
def Q9(rw_:List Nat):Env→Bool
 |[]=>true
 |(_,a)::l=>mJ rw_ a&&Q9 rw_ l
theorem qh(R:Nat→PV)(ps:List PV)(i:Nat):nm (aG R ps) i=aj R (nm ps i):=by
 unfold nm;rw[bM,List.getD_eq_getElem?_getD,List.getD_eq_getElem?_getD,List.getElem?_map];cases ps[i]? with
 |none=>simp[aj]
 |some p=>simp
section
variable(l ps:List PV)
mutual
theorem mD:∀p,aj (nm l) (aj (nm ps) p)=aj (nm (aG (nm l) ps)) p
 |.sym i=>by rw[aj,aj,qh]
 |.rows es=>by rw[aj,aj,aj,uN es]
 |.lit _=>by rw[aj,aj,aj]
 |.opq _ _ _=>by rw[aj,aj,aj]
 |.rng _ _=>by rw[aj,aj,aj]
 |.any=>by rw[aj,aj,aj]
theorem xD:∀p,aG (nm l) (aG (nm ps) p)=aG (nm (aG (nm l) ps)) p
 |[]=>by rw[aG,aG,aG]
 |p::r=>by rw[aG,aG,aG,mD p,xD r]
theorem uN:∀p,aX (nm l) (aX (nm ps) p)=aX (nm (aG (nm l) ps)) p
 |[]=>by rw[aX,aX,aX]
 |p::r=>by rw[aX,aX,aX,xD p,uN r]
end
theorem Y4{i:Nat}(h:short (nm (aG (nm l) ps) i)):(∃es,nm ps i=.rows es∧es.length<aH)∨(∃j,nm ps i=.sym j∧short (nm l j)):=by
 rw[qh] at h;cases hp:nm ps i with
 |rows es=>
  rw[hp,aj] at h;exact .inl ⟨es,rfl,by simpa[short,eO] using h⟩
 |sym j=>rw[hp,aj] at h;exact .inr ⟨j,rfl,h⟩
 |lit v=>rw[hp,aj] at h;exact h.elim
 |opq a b c=>rw[hp,aj] at h;exact h.elim
 |rng a b=>rw[hp,aj] at h;exact h.elim
 |any=>rw[hp,aj] at h;exact h.elim
variable{l ps}{rin:List Nat}(hg:Good (nm (aG (nm l) ps)) rin)
include hg
mutual
theorem yC:∀a,mJ rin a=true→af (nm l) (pY ps a)=af (nm (aG (nm l) ps)) a∧iq (nm l) (pY ps a)
 |.pv p,_=>by rw[pY,af,af,mD,iq];exact⟨rfl,trivial⟩
 |.trows t es,_=>by rw[pY,af,af,uN,iq];exact⟨rfl,trivial⟩
 |.tsym t i,h=>by
  rw[mJ] at h;have hs:=hg i (lH h);rcases Y4 l ps hs with⟨es,he,_⟩|⟨j,he,hj⟩
  ·rw[pY,he,af]
   simp only;rw[af,qh,he,aj,iq];exact⟨rfl,trivial⟩
  ·obtain⟨es,e1,_⟩:=mh hj
   rw[pY,he,af];simp only;rw[af,qh,he,aj,e1,iq,e1];exact⟨rfl,trivial⟩
 |.ptr _ _,_=>by rw[pY,af,af,iq];exact⟨rfl,trivial⟩
 |.cptr cs,_=>by rw[pY,af,af,xD,iq];exact⟨rfl,trivial⟩
 |.agg r,h=>by have:=oV r (by rw[mJ] at h;exact h);rw[pY,af,af,this.1,iq];exact⟨rfl,this.2⟩
 |.tup r,h=>by have:=oV r (by rw[mJ] at h;exact h);rw[pY,af,af,this.1,iq];exact⟨rfl,this.2⟩
 |.fn _ r,h=>by have:=oV r (by rw[mJ] at h;exact h);rw[pY,af,af,this.1,iq];exact⟨rfl,this.2⟩
 |.sl _ _ _ _,_=>by rw[pY,af,af,iq];exact⟨rfl,trivial⟩
 |.mp _,_=>by rw[pY,af,af,iq];exact⟨rfl,trivial⟩
 |.ifc _ v,h=>by have:=yC v (by rw[mJ] at h;exact h);rw[pY,af,af,this.1,iq];exact⟨rfl,this.2⟩
 |.arr _,_=>by rw[pY,af,af,iq];exact⟨rfl,trivial⟩
 |.aptr _ i _,_=>by rw[pY,af,af,mD,iq];exact⟨rfl,trivial⟩
 |.arv _ i q,_=>by rw[pY,af,af,mD,mD,iq];exact⟨rfl,trivial⟩
theorem oV:∀a,nX rin a=true→ay (nm l) (uq ps a)=ay (nm (aG (nm l) ps)) a∧lT (nm l) (uq ps a)
 |[],_=>by rw[uq,ay,ay,lT];exact⟨rfl,trivial⟩
 |a::r,h=>by
  rw[nX,Bool.and_eq_true] at h;have h1:=yC a h.1;have h2:=oV r h.2;rw[uq,ay,ay,h1.1,h2.1,lT];exact⟨rfl,h1.2,h2.2⟩
end
theorem ace(x:ah)(h:aa1 rin x=true):dG (nm l) (P7 ps x)=dG (nm (aG (nm l) ps)) x∧TsO (nm l) (P7 ps x):=by
 cases x with
 |box t r=>have:=oV hg r h;simp only[P7,dG,TsO];rw[this.1];exact⟨rfl,this.2⟩
 |mp ks r=>have:=oV hg r h;simp only[P7,dG,TsO];rw[this.1];exact⟨rfl,this.2⟩
 |arr t s p=>simp only[P7,dG,TsO,mD];exact⟨trivial,trivial⟩
 |dead=>exact⟨rfl,trivial⟩
 |tok t s n=>
  simp only[P7,dG,TsO];rw[aa1] at h;have key:dl (nm l) (acf ps n)=dl (nm (aG (nm l) ps)) n∧dl (nm l) (acf ps n)<aH:=by
   unfold acf;cases hb:Nat.blt n aH with
   |true=>
    have:n<aH:=Nat.le_of_ble_eq_true hb;simp only;rw[gq this,gq this];exact⟨rfl,this⟩
   |false=>
    rw[hb] at h;simp only at h;have hn:¬n<aH:=fun hlt=>by rw[Nat.blt,Nat.ble_eq_true_of_le hlt] at hb;cases hb
    have e:dl (nm (aG (nm l) ps)) n=(nm (aG (nm l) ps) (n-aH)).rowLen:=by unfold dl;rw[if_neg hn]
    rcases Y4 l ps (hg _ (lH h)) with⟨es,he,hl⟩|⟨j,he,hj⟩
    ·rw[he];simp only
     rw[e,qh,he,aj,gq hl];refine⟨?_,hl⟩;show es.length=(aX (nm l) es).length;rw[eO,List.length_map]
    ·obtain⟨es,e1,e2⟩:=mh hj
     rw[he];simp only;rw[e,qh,he,aj,sU e1,e1];exact⟨rfl,e2⟩
  rw[key.1];rw[key.1] at key;exact⟨rfl,key.2⟩
theorem DU:∀h,Q8 rin h=true→bP (nm l) (XF ps h)=bP (nm (aG (nm l) ps)) h∧Cf (nm l) (XF ps h)
 |[],_=>⟨rfl,trivial⟩
 |x::r,h=>by
  rw[Q8,Bool.and_eq_true] at h;have h1:=ace hg x h.1;have h2:=DU r h.2;rw[XF,bP,bP,h1.1,h2.1,Cf];exact⟨rfl,h1.2,h2.2⟩
theorem yB:∀e,Q9 rin e=true→openE (nm l) (L8 ps e)=openE (nm (aG (nm l) ps)) e∧TsE (nm l) (L8 ps e)
 |[],_=>⟨rfl,trivial⟩
 |(d,x)::r,h=>by
  rw[Q9,Bool.and_eq_true] at h;have h1:=yC hg x h.1;have h2:=yB r h.2;rw[L8,openE,openE,h1.1,h2.1,TsE];exact⟨rfl,h1.2,h2.2⟩
end
def OP(e:gJ):Bool:=nX e.rin e.args&&Q8 e.rin e.h&&Q9 e.rin e.e
def PI(n:Nat):PV→Nat
 |.sym i=>bif Nat.blt i n then n else i+1
 |_=>n
def nxL(n:Nat):List PV→Nat
 |[]=>n
 |p::l=>nxL (PI n p) l
def Xb(n:Nat):AV→Nat
 |.pv p=>PI n p
 |.cptr ps=>nxL n ps
 |.tup [.pv p,.pv q]=>PI (PI n p) q
 |.tup [.agg as',.pv q]=>match He as' with
  |some ps=>nxL (PI n q) ps
  |none=>n
 |_=>n
def nxF(n:Nat):SF→Nat
 |.bin _ _ _ _ r=>Xb n r
 |.len _ _ r=>Xb n r
 |.idx _ _ _ r=>Xb n r
 |.ind _ _ _ r=>Xb n r
 |.slc _ _ _ _ r=>Xb n r
 |.conv _ _ _ r=>Xb n r
 |.un _ _ r=>Xb n r
 |.app _ _ _ j=>PI n (.sym j)
 |.app0 _ _ _=>n
 |.names=>n
 |.mx _ _ _ r=>Xb n r
 |.look _ _ _ r _=>Xb n r
 |.upd _ _ _ _ j=>PI n (.sym j)
 |.set _ _ _ _ j=>PI n (.sym j)
 |.mk _ _ j=>PI n (.sym j)
 |.sum _ _ j=>PI n (.sym j)
 |.del _ _ _ j=>PI n (.sym j)
 |.apq _ _ _ j=>PI n (.sym j)
def vW:SF→List Nat
 |.bin _ _ u v _=>aK u++aK v
 |.len _ u _=>aK u
 |.idx _ u i _=>aK u++aK i
 |.ind _ u i _=>aK u++aK i
 |.slc _ u lo hi _=>aK u++vS lo++vS hi
 |.conv _ _ u _=>aK u
 |.un _ u _=>aK u
 |.app _ s x _=>aK s++aK x
 |.app0 _ s x=>aK s++aK x
 |.names=>[]
 |.mx _ u v _=>aK u++aK v
 |.look _ p k _ _=>fw p++aK k
 |.upd _ p k v _=>fw p++aK k++aK v
 |.set p i _ c _=>fw p++fw i++jZ c
 |.mk _ n _=>aK n
 |.sum a b _=>fw a++fw b
 |.del _ p k _=>fw p++aK k
 |.apq _ s x _=>aK s++aK x
def bex(id:Nat):aN→aN
 |.exit j=>match Nat.beq j id with
  |true=>.normal
  |false=>.exit j
 |e=>e
section
variable(S:Nat→List Shape)(E:Nat→gJ)(cur:gJ)
def BB(q s:Nat):Shape:=nth jo (S (E q).fam) s
def erase:Et→Nat→Tr
 |.say f k,n=>.say f (nxF n f-n) (erase k (nxF n f))
 |.alt a b,n=>.alt (erase a n) (erase b n)
 |.call q ps s pats k,n=>match(E q).lp with
  |none=>.call ⟨(E q).f,uq ps (E q).args,XF ps (E q).h,pY pats (BB S E q s).v,XF pats (BB S E q s).h⟩ (nxL n pats-n) (erase k (nxL n pats))
  |some (id,_)=>.blk ⟨id,L8 ps (E q).e,XF ps (E q).h,bex id (BB S E q s).ex,L8 pats (BB S E q s).e,XF pats (BB S E q s).h⟩ (nxL n pats-n) (erase k (nxL n pats))
 |.out s ps,_=>match cur.lp with
  |none=>.ret (pY ps (nth jo (S cur.fam) s).v) (XF ps (nth jo (S cur.fam) s).h)
  |some _=>.code (nth jo (S cur.fam) s).ex (L8 ps (nth jo (S cur.fam) s).e) (XF ps (nth jo (S cur.fam) s).h)
 |.goto q ps,_=>.code .normal (L8 ps (E q).e) (XF ps (E q).h)
 |.no t,_=>t
 |.ext _,_=>.ret (.tup []) []
def ahO(ps:List PV)(sh:List Nat)(i:Nat):Bool:=match nm ps i with
 |.sym j=>Kl sh j
 |.rows es=>Nat.blt es.length 1000
 |_=>false
def FN(ps:List PV)(sh:List Nat):List Nat→Bool
 |[]=>true
 |i::l=>ahO ps sh i&&FN ps sh l
def shL(ps:List PV):List Nat→List Nat
 |[]=>[]
 |i::l=>match nm ps i with
  |.sym j=>j::shL ps l
  |_=>shL ps l
def shF:SF→List Nat→List Nat
 |.app _ _ _ j,sh=>j::sh
 |.apq _ _ _ j,sh=>j::sh
 |.mk _ _ j,sh=>j::sh
 |.set (.sym i) _ _ _ j,sh=>match Kl sh i with
  |true=>j::sh
  |false=>sh
 |_,sh=>sh
def adN:Option (Nat×Nat)→Option (Nat×Nat)→Bool
 |some (a,b),some (c,d)=>Nat.beq a c&&Nat.beq b d
 |_,_=>false
def asZ:aN→Bool
 |.normal=>true
 |_=>false
def Jp(s:Shape):Bool:=mJ s.rw s.v&&Q8 s.rw s.h&&Q9 s.rw s.e && !(asZ s.ex)
def wfQ(q:Nat)(ps:List PV)(n:Nat)(sh:List Nat):Bool:=Nat.beq ps.length (E q).n&&jF n (jZ ps)&&FN ps sh (E q).rin
def Pz:Et→Nat→List Nat→Bool
 |.say f k,n,sh=>jF n (vW f)&&Pz k (nxF n f) (shF f sh)
 |.alt a b,n,sh=>Pz a n sh&&Pz b n sh
 |.call q ps s pats k,n,sh=>wfQ E q ps n sh&&Nat.beq pats.length (BB S E q s).m&&(match(E q).lp with
  |none=>true
  |some (_,m0)=>Nat.beq (E q).f cur.f&&Nat.beq (E q).h.length m0)&&Pz k (nxL n pats) (shL pats (BB S E q s).rw++sh)
 |.out s ps,n,sh=>Nat.blt s (S cur.fam).length&&Nat.beq ps.length (nth jo (S cur.fam) s).m&&jF n (jZ ps)&&FN ps sh (nth jo (S cur.fam) s).rw
 |.goto q ps,n,sh=>wfQ E q ps n sh&&adN (E q).lp cur.lp&&Nat.beq (E q).f cur.f&&Nat.beq (E q).fam cur.fam
 |.no _,_,_=>true
 |.ext _,_,_=>false
end
theorem wh:∀{m:Nat} {l vs:List PV} {X:List PV→Prop},vs.length=m→jh vs→X (l++vs)→Ct m l X
 |0,l,vs,X,hl,_,hX=>by
  have:vs=[]:=List.length_eq_zero_iff.1 hl;subst this;simpa[Ct] using hX
 |m+1,l,[],X,hl,_,hX=>by simp at hl
 |m+1,l,v::vs,X,hl,hn,hX=>by
  refine⟨v,wh (vs:=vs) (by simpa using hl) (fun p hp=>hn p (List.mem_cons_of_mem _ hp)) ⟨?_,hn v (List.mem_cons_self ..)⟩⟩;simpa using hX
theorem jh.app{l vs:List PV}(h1:jh l)(h2:jh vs):jh (l++vs):=fun p hp=>by
 rcases List.mem_append.1 hp with hp|hp
 ·exact h1 p hp
 ·exact h2 p hp
structure Xe(l l':List PV)(n:Nat):Prop where
 e:∃vs,l'=l++vs
 n:l'.length=n
 ns:jh l'
theorem Xe.trans{l l' l'':List PV}{n m:Nat}(h1:Xe l l' n)(h2:Xe l' l'' m):Xe l l'' m:=by
 obtain⟨vs,rfl⟩:=h1.e;obtain⟨ws,rfl⟩:=h2.e;exact⟨⟨vs++ws,by simp⟩,h2.n,h2.ns⟩
theorem Xe.rest{l l':List PV}{n:Nat}(h:Xe l l' n):∃vs,l'=l++vs∧vs.length=n-l.length∧jh vs:=by
 obtain⟨vs,rfl⟩:=h.e;refine⟨vs,rfl,?_,fun p hp=>h.ns p (List.mem_append_right _ hp)⟩;have:=h.n;simp at this;omega
theorem Xe.good{l l':List PV}{n:Nat}{sh:List Nat}(h:Xe l l' n)(hg:Good (nm l) sh):Good (nm l') sh:=by
 obtain⟨vs,rfl⟩:=h.e;intro i hi;have:=hg i hi;by_cases hl:i<l.length
 ·rwa [lu hl]
 ·exfalso
  unfold nm at this;rw[List.getD_eq_getElem?_getD,List.getElem?_eq_none (by omega)] at this;exact this
theorem FH{p y:PV}{k:Option (List PV)}{l':List PV}(h:isK none p y k=some l'):p=y∧k=some l':=by
 unfold isK at h;split at h
 ·rename_i e;exact⟨e,h⟩
 ·cases h
theorem iB{p y:PV}{l l':List PV}(h:GA none p y l some=some l')(hn:jh l)(hy:NS y):Xe l l' (PI l.length p)∧∀ws,aj (nm (l'++ws)) p=y:=by
 cases p with
 |sym i=>
  simp only[GA] at h;cases hb:Nat.blt i l.length with
  |true=>
   have hlt:i<l.length:=Nat.le_of_ble_eq_true hb;rw[hb] at h;obtain⟨e1,e2⟩:=FH h;cases e2;refine⟨⟨⟨[],by simp⟩,by simp[PI,hb],hn⟩,fun ws=>?_⟩;rw[aj,lu hlt,e1]
  |false=>
   rw[hb] at h;simp only at h;cases hc:Nat.beq i l.length with
   |true=>
    have hi:=Nat.eq_of_beq_eq_true hc;rw[hc] at h;cases h;refine⟨⟨⟨[y],rfl⟩,by rw[PI,hb];simp[hi],hn.app (jh.cons hy jh.nil)⟩,fun ws=>?_⟩;rw[aj,lu (by simp;omega)];unfold nm;rw[List.getD_eq_getElem?_getD,hi];simp
   |false=>rw[hc] at h;cases h
 |lit v=>
  obtain⟨e1,e2⟩:=FH h;cases e2;exact⟨⟨⟨[],by simp⟩,rfl,hn⟩,fun ws=>by rw[aj,e1]⟩
 |rows es=>
  simp only[GA] at h;cases hb:jF l.length (nu es) with
  |true=>
   rw[hb] at h;obtain⟨e1,e2⟩:=FH h;cases e2;refine⟨⟨⟨[],by simp⟩,rfl,hn⟩,fun ws=>?_⟩;rw[←e1];exact bN _ fun i hi=>lu (fB hb i (by rw[fw] at hi;exact hi))
  |false=>rw[hb] at h;cases h
 |opq _ _ _=>cases h
 |rng _ _=>cases h
 |any=>cases h
theorem Fa{β:Type}{p y:PV}{l:List PV}{k:List PV→Option β}{r:β}(h:GA none p y l k=some r):∃l',GA none p y l some=some l'∧k l'=some r:=by
 rw[←qj none p y l some k] at h;split at h
 ·cases h
 ·rename_i l' hl;exact⟨l',hl,h⟩
theorem yY:∀{ps ys l l':List PV},Nz none ps ys l some=some l'→jh l→jh ys→Xe l l' (nxL l.length ps)∧∀ws,aG (nm (l'++ws)) ps=ys
 |[],ys,l,l',h,hn,_=>by
  rw[Nz] at h;cases ys with
  |nil=>cases h;exact⟨⟨⟨[],by simp⟩,rfl,hn⟩,fun ws=>by rw[aG]⟩
  |cons _ _=>cases h
 |p::ps,ys,l,l',h,hn,hy=>by
  rw[Nz] at h;cases ys with
  |nil=>cases h
  |cons y r=>
   have h:GA none p y l (fun l'=>Nz none ps r l' some)=some l':=h;obtain⟨l1,h1,h2⟩:=Fa h;obtain⟨e1,e2⟩:=iB h1 hn (hy y (List.mem_cons_self ..));obtain⟨e3,e4⟩:=yY h2 e1.ns (fun p hp=>hy p (List.mem_cons_of_mem _ hp));rw[e1.n] at e3;refine⟨e1.trans e3,fun ws=>?_⟩;obtain⟨vs,rfl⟩:=e3.e;rw[aG,e4,List.append_assoc,e2]
theorem lC{r w:AV}{l l':List PV}(h:Gz none r w l some=some l')(hn:jh l)(hw:oG w):Xe l l' (Xb l.length r)∧∀ws,af (nm (l'++ws)) r=w:=by
 rcases Io r with⟨p,rfl⟩|⟨ps,rfl⟩|⟨p,q,rfl⟩|⟨as',ps,q,rfl,hp⟩|hd
 ·simp only[Gz] at h
  cases w with
  |pv y=>
   obtain⟨e1,e2⟩:=iB h hn (by cases hw;assumption);exact⟨e1,fun ws=>by rw[af,e2]⟩
  |_=>cases h
 ·simp only[Gz] at h
  cases w with
  |cptr ys=>
   obtain⟨e1,e2⟩:=yY h hn (by cases hw;assumption);exact⟨e1,fun ws=>by rw[af,e2]⟩
  |_=>cases h
 ·simp only[Gz] at h
  unfold yO at h;split at h
  ·rename_i y z
   have hw:NS y∧NS z:=by
    cases hw with|tup _ hw=>exact⟨by have:=hw (.pv y) (by simp);cases this;assumption,by have:=hw (.pv z) (by simp);cases this;assumption⟩
   obtain⟨l1,h1,h2⟩:=Fa h;obtain⟨e1,e2⟩:=iB h1 hn hw.1;obtain⟨e3,e4⟩:=iB h2 e1.ns hw.2;rw[e1.n] at e3;refine⟨e1.trans e3,fun ws=>?_⟩;obtain⟨vs,rfl⟩:=e3.e;rw[af,ay,ay,ay,af,af,e4,List.append_assoc,e2]
  ·cases h
 ·simp only[Gz,hp] at h
  unfold EG at h;split at h
  ·rename_i lw z
   split at h
   ·rename_i ys hy
    have hwl:=Bl hy;have hw:jh ys∧NS z:=by
     cases hw with|tup _ hw=>
      refine⟨fun y hy2=>?_,by have:=hw (.pv z) (by simp);cases this;assumption⟩;have h0:=hw (.agg lw) (by simp);cases h0 with|agg _ h0=>
       have:=h0 (.pv y) (by rw[hwl];exact List.mem_map.2 ⟨y,hy2,rfl⟩);cases this;assumption
    obtain⟨l1,h1,h2⟩:=Fa h;obtain⟨e1,e2⟩:=iB h1 hn hw.2;obtain⟨e3,e4⟩:=yY h2 e1.ns hw.1;rw[e1.n] at e3;have has:=Bl hp;have hnx:Xb l.length (.tup [.agg as',.pv q])=nxL (PI l.length q) ps:=by simp only[Xb,hp]
    refine⟨by rw[hnx];exact e1.trans e3,fun ws=>?_⟩;obtain⟨vs,rfl⟩:=e3.e;have hopen:∀(R:Nat→PV) (l:List PV),ay R (l.map .pv)=(aG R l).map .pv:=by
     intro R l
     induction l with
     |nil=>rw[aG];rfl
     |cons a l ih=>rw[List.map_cons,ay,aG,List.map_cons,af,ih]
    rw[af,ay,ay,ay,af,af,has,hopen,e4,List.append_assoc,e2,←hwl]
   ·cases h
  ·cases h
 ·rw[hd] at h;cases h
theorem eG{α:Type}{p:α→Prop}{k:α→Option (List PV)}{l':List PV}(h:qE none p k=some l'):∃w,p w∧k w=some l':=by
 unfold qE at h;split at h
 ·rename_i hp;exact⟨_,hp.choose_spec,h⟩
 ·cases h
theorem bC{l vs:List PV}{a:AV}{m:List Nat}(h:jF l.length m=true)(hm:∀i∈aK a,i∈m):af (nm l) a=af (nm (l++vs)) a:=
 aA a fun i hi=>(lu (fB h i (hm i hi))).symm
theorem kF{l vs:List PV}{a:PV}{m:List Nat}(h:jF l.length m=true)(hm:∀i∈fw a,i∈m):aj (nm l) a=aj (nm (l++vs)) a:=
 bN a fun i hi=>(lu (fB h i (hm i hi))).symm
theorem Nr{l vs:List PV}{ps:List PV}{m:List Nat}(h:jF l.length m=true)(hm:∀i∈jZ ps,i∈m):aG (nm l) ps=aG (nm (l++vs)) ps:=
 jk ps fun i hi=>(lu (fB h i (hm i hi))).symm
theorem VN{P:Program}{f:SF}{l l':List PV}{sh:List Nat}(h:ng P none f l some=some l')(hn:jh l)(hi:jF l.length (vW f)=true)(hg:Good (nm l) sh):Xe l l' (nxF l.length f)∧f.ok (nm l') P∧Good (nm l') (shF f sh):=by
 cases f with
 |bin b t u v r=>
  simp only[ng,qP] at h;obtain⟨w,⟨h1,h2⟩,h3⟩:=eG h;obtain⟨e1,e2⟩:=lC h3 hn h2;refine⟨e1,?_,e1.good hg⟩;obtain⟨vs,rfl⟩:=e1.e;have e3:=e2 [];rw[List.append_nil] at e3;show fq P b t _ _ _;rw[←bC hi (fun i hi=>by simp[vW,hi]),←bC hi (fun i hi=>by simp[vW,hi]),e3];exact h1
 |len t u r=>
  simp only[ng,mG] at h;obtain⟨w,⟨h1,h2⟩,h3⟩:=eG h;obtain⟨e1,e2⟩:=lC h3 hn h2;refine⟨e1,?_,e1.good hg⟩;obtain⟨vs,rfl⟩:=e1.e;have e3:=e2 [];rw[List.append_nil] at e3;show pV P t _ _;rw[←bC hi (fun i hi=>by simp[vW,hi]),e3];exact h1
 |idx t u v r=>
  simp only[ng,lX] at h;obtain⟨w,⟨h1,h2⟩,h3⟩:=eG h;obtain⟨e1,e2⟩:=lC h3 hn h2;refine⟨e1,?_,e1.good hg⟩;obtain⟨vs,rfl⟩:=e1.e;have e3:=e2 [];rw[List.append_nil] at e3;show qD P t _ _ _;rw[←bC hi (fun i hi=>by simp[vW,hi]),←bC hi (fun i hi=>by simp[vW,hi]),e3];exact h1
 |ind t u v r=>
  simp only[ng,aku] at h;obtain⟨w,⟨h1,h2⟩,h3⟩:=eG h;obtain⟨e1,e2⟩:=lC h3 hn h2;refine⟨e1,?_,e1.good hg⟩;obtain⟨vs,rfl⟩:=e1.e;have e3:=e2 [];rw[List.append_nil] at e3;show xJ P t _ _=some _;rw[←bC hi (fun i hi=>by simp[vW,hi]),←bC hi (fun i hi=>by simp[vW,hi]),e3];exact h1
 |slc t u lo hi_ r=>
  simp only[ng,xk] at h;obtain⟨w,⟨h1,h2⟩,h3⟩:=eG h;obtain⟨e1,e2⟩:=lC h3 hn h2;refine⟨e1,?_,e1.good hg⟩;obtain⟨vs,rfl⟩:=e1.e;have e3:=e2 [];rw[List.append_nil] at e3;show Gq P t _ _ _ _;have key:∀o:Option AV,(∀i∈vS o,i∈vW (.slc t u lo hi_ r))→o.map (af (nm (l++vs)))=o.map (af (nm l)):=fun o ho=>sH o fun i h2=>lu (fB hi i (ho i h2))
  rw[←bC hi (fun i hi=>by simp[vW,hi]),key lo (fun i hi=>by simp[vW,hi]),key hi_ (fun i hi=>by simp[vW,hi]),e3];exact h1
 |conv s t u r=>
  simp only[ng,aa2] at h;obtain⟨w,⟨h1,h2⟩,h3⟩:=eG h;obtain⟨e1,e2⟩:=lC h3 hn h2;refine⟨e1,?_,e1.good hg⟩;obtain⟨vs,rfl⟩:=e1.e;have e3:=e2 [];rw[List.append_nil] at e3;show abN P s t _ _;rw[←bC hi (fun i hi=>by simp[vW,hi]),e3];exact h1
 |un o u r=>
  simp only[ng,unK] at h;obtain⟨w,⟨h1,h2⟩,h3⟩:=eG h;obtain⟨e1,e2⟩:=lC h3 hn h2;refine⟨e1,?_,e1.good hg⟩;obtain⟨vs,rfl⟩:=e1.e;have e3:=e2 [];rw[List.append_nil] at e3;show as4 P o _ _;rw[←bC hi (fun i hi=>by simp[vW,hi]),e3];exact h1
 |app t s x j=>
  simp only[ng,pO] at h;obtain⟨w,⟨h1,h2⟩,h3⟩:=eG h;obtain⟨e1,e2⟩:=iB h3 hn h2;obtain⟨vs,rfl⟩:=e1.e;have e3:=e2 [];rw[List.append_nil,aj] at e3;refine⟨e1,?_,?_⟩
  ·refine agi ?_
   show Gw P t _ _ _;rw[←bC hi (fun i hi=>by simp[vW,hi]),←bC hi (fun i hi=>by simp[vW,hi]),e3];exact h1
  ·intro i hi2
   rcases List.mem_cons.1 hi2 with rfl|hi2
   ·rw[e3]
    obtain⟨e,sz,by_,zc,es,es',_,_,_,_,_,_,_,_,_,_,k1,_,k2⟩:=h1;rw[k2];show (es++es').length<aH;rw[List.length_append];unfold aH;omega
   ·exact e1.good hg i hi2
 |app0 t s x=>
  simp only[ng] at h;unfold wV at h;split at h
  ·rename_i h1;cases h;exact⟨⟨⟨[],by simp⟩,rfl,hn⟩,h1,hg⟩
  ·cases h
 |names=>cases h;exact⟨⟨⟨[],by simp⟩,rfl,hn⟩,trivial,hg⟩
 |mx mn u v r=>
  simp only[ng,mxK] at h;obtain⟨w,⟨h1,h2⟩,h3⟩:=eG h;obtain⟨e1,e2⟩:=lC h3 hn h2;refine⟨e1,?_,e1.good hg⟩;obtain⟨vs,rfl⟩:=e1.e;have e3:=e2 [];rw[List.append_nil] at e3;show agt P mn _ _ _;rw[←bC hi (fun i hi=>by simp[vW,hi]),←bC hi (fun i hi=>by simp[vW,hi]),e3];exact h1
 |look t p k r ok=>
  simp only[ng,wM] at h;obtain⟨w,⟨h1,h2⟩,h3⟩:=eG h;obtain⟨e1,e2⟩:=lC h3 hn h2;refine⟨e1,?_,e1.good hg⟩;obtain⟨vs,rfl⟩:=e1.e;have e3:=e2 [];rw[List.append_nil] at e3;show Gt P t _ _ _ _;rw[←kF hi (fun i hi=>by simp[vW,hi]),←bC hi (fun i hi=>by simp[vW,hi]),e3];exact h1
 |apq t s x j=>
  simp only[ng,pO] at h;obtain⟨w,⟨h1,h2⟩,h3⟩:=eG h;obtain⟨e1,e2⟩:=iB h3 hn h2;obtain⟨vs,rfl⟩:=e1.e;have e3:=e2 [];rw[List.append_nil,aj] at e3;refine⟨e1,⟨?_,by rw[e3];exact mE h2⟩,?_⟩
  ·show Gw P t _ _ _
   rw[←bC hi (fun i hi=>by simp[vW,hi]),←bC hi (fun i hi=>by simp[vW,hi]),e3];exact h1
  ·intro i hi2
   rcases List.mem_cons.1 hi2 with rfl|hi2
   ·rw[e3]
    obtain⟨e,sz,by_,zc,es,es',_,_,_,_,_,_,_,_,_,_,k1,_,k2⟩:=h1;rw[k2];show (es++es').length<aH;rw[List.length_append];unfold aH;omega
   ·exact e1.good hg i hi2
 |del t p k j=>
  simp only[ng,alx] at h;obtain⟨w,⟨h1,h2⟩,h3⟩:=eG h;obtain⟨e1,e2⟩:=iB h3 hn h2;refine⟨e1,?_,e1.good hg⟩;obtain⟨vs,rfl⟩:=e1.e;have e3:=e2 [];rw[List.append_nil,aj] at e3;show abM P t _ _ _;rw[←kF hi (fun i hi=>by simp[vW,hi]),←bC hi (fun i hi=>by simp[vW,hi]),e3];exact h1
 |sum a b j=>
  simp only[ng,aiM] at h;obtain⟨w,⟨h1,h2⟩,h3⟩:=eG h;obtain⟨e1,e2⟩:=iB h3 hn h2;refine⟨e1,?_,e1.good hg⟩;obtain⟨vs,rfl⟩:=e1.e;have e3:=e2 [];rw[List.append_nil,aj] at e3;show abJ _ _ _;rw[←kF hi (fun i hi=>by simp[vW,hi]),←kF hi (fun i hi=>by simp[vW,hi]),e3];exact h1
 |mk t m j=>
  simp only[ng,mkK] at h;obtain⟨w,⟨h1,h2⟩,h3⟩:=eG h;obtain⟨e1,e2⟩:=iB h3 hn h2;obtain⟨vs,rfl⟩:=e1.e;have e3:=e2 [];rw[List.append_nil,aj] at e3;refine⟨e1,?_,?_⟩
  ·show agu P t _ _
   rw[←bC hi (fun i hi=>by simp[vW,hi]),e3];exact h1
  ·intro i hi2
   rcases List.mem_cons.1 hi2 with rfl|hi2
   ·rw[e3]
    obtain⟨e,sz,by_,zc,z,k,_,_,_,_,_,_,_,_,k1,_,k2,_⟩:=h1;rw[k2];show (List.replicate k z).length<aH;rw[List.length_replicate];unfold aH;omega
   ·exact e1.good hg i hi2
 |set p a o c j=>
  simp only[ng,D6] at h;obtain⟨w,⟨h1,h2⟩,h3⟩:=eG h;obtain⟨e1,e2⟩:=iB h3 hn h2;obtain⟨vs,rfl⟩:=e1.e;have e3:=e2 [];rw[List.append_nil,aj] at e3;have hp:=kF (vs:=vs) (a:=p) hi (fun i hi=>by simp[vW,hi]);have ha:=kF (vs:=vs) (a:=a) hi (fun i hi=>by simp[vW,hi]);have hc:=Nr (vs:=vs) (ps:=c) hi (fun i hi=>by simp[vW,hi]);refine⟨e1,?_,?_⟩
  ·show abK _ _ o _ _
   rw[←hp,←ha,←hc,e3];exact h1
  ·have key:∀i,p=.sym i→Kl sh i=true→short (nm (l++vs) j):=by
    intro i hpi hh;have hs:=e1.good hg i (lH hh);subst hpi;obtain⟨es,n,kd,k1,_,_,_,_,k2,_⟩:=h1;rw[hp,aj] at k1;rw[e3,k2];rw[k1] at hs;show (es.set _ _).length<aH;rw[List.length_set];exact hs
   cases p with
   |sym i=>
    simp only[shF];cases hh:Kl sh i with
    |true=>
     intro i2 hi2;rcases List.mem_cons.1 hi2 with rfl|hi2
     ·exact key i rfl hh
     ·exact e1.good hg i2 hi2
    |false=>exact e1.good hg
   |_=>exact e1.good hg
 |upd t p k v j=>
  simp only[ng,DF] at h;split at h
  rotate_left
  ·cases h
  rename_i hc;obtain⟨h1,h2⟩:=hc;have h3:=h;obtain⟨e1,e2⟩:=iB h3 hn h2;refine⟨e1,?_,e1.good hg⟩;obtain⟨vs,rfl⟩:=e1.e;have e3:=e2 [];rw[List.append_nil,aj] at e3;show I7 P t _ _ _ _;rw[←kF hi (fun i hi=>by simp[vW,hi]),←bC hi (fun i hi=>by simp[vW,hi]),←bC hi (fun i hi=>by simp[vW,hi]),e3];exact h1
section
variable(P:Program)(S:Nat→List Shape)(E:Nat→gJ)(T:Nat→Et)
def tH(q:Q)(r:Rs):Prop:=match(E q.k).lp with
 |none=>Sem P (E q.k).f (ay (nm q.xs) (E q.k).args) (bP (nm q.xs) (E q.k).h) (af (nm r.2) (BB S E q.k r.1).v) (bP (nm r.2) (BB S E q.k r.1).h)
 |some (id,m0)=>∀fn,P.funcs[(E q.k).f]? = some fn→kW P fn id m0 (openE (nm q.xs) (E q.k).e) (bP (nm q.xs) (E q.k).h) (BB S E q.k r.1).ex (openE (nm r.2) (BB S E q.k r.1).e) (bP (nm r.2) (BB S E q.k r.1).h)
structure Pre(q:Q):Prop where
 n:q.xs.length=(E q.k).n
 ns:jh q.xs
 g:Good (nm q.xs) (E q.k).rin
structure Pst(fam:Nat)(r:Rs):Prop where
 s:r.1<(S fam).length
 n:r.2.length=(nth jo (S fam) r.1).m
 ns:jh r.2
 g:Good (nm r.2) (nth jo (S fam) r.1).rw
end
theorem AA{l ps:List PV}{sh:List Nat}(hg:Good (nm l) sh):∀{rin:List Nat},FN ps sh rin=true→Good (nm (aG (nm l) ps)) rin
 |[],_,i,hi=>by cases hi
 |j::r,h,i,hi=>by
  rw[FN,Bool.and_eq_true] at h;rcases List.mem_cons.1 hi with rfl|hi
  ·rw[qh]
   have h1:=h.1;unfold ahO at h1;split at h1
   ·rename_i j hj;rw[hj,aj];exact hg j (lH h1)
   ·rename_i es hj
    rw[hj,aj];have:es.length<1000:=Nat.le_of_ble_eq_true h1;show (aX (nm l) es).length<aH;rw[eO,List.length_map];unfold aH;omega
   ·cases h1
  ·exact AA hg h.2 i hi
theorem Qd{l:List PV}{pats:List PV}:∀{rw_:List Nat},Good (nm (aG (nm l) pats)) rw_→Good (nm l) (shL pats rw_)
 |[],_,i,hi=>by cases hi
 |j::r,h,i,hi=>by
  have h1:Good (nm (aG (nm l) pats)) r:=fun k hk=>h k (List.mem_cons_of_mem _ hk)
  rw[shL] at hi;split at hi
  ·rename_i k hk
   rcases List.mem_cons.1 hi with rfl|hi
   ·have:=h j (List.mem_cons_self ..)
    rwa [qh,hk,aj] at this
   ·exact Qd h1 i hi
  ·exact Qd h1 i hi
theorem EM(R:Nat→PV)(ps:List PV):(aG R ps).length=ps.length:=by rw[bM,List.length_map]
theorem V3(R:Nat→PV)(h:List ah):(bP R h).length=h.length:=by rw[dY,List.length_map]
theorem Qv{l vs:List PV}{ps:List PV}(h:jF l.length (jZ ps)=true):aG (nm (l++vs)) ps=aG (nm l) ps:=
 jk ps fun i hi=>lu (fB h i hi)
section
variable{P:Program}{S:Nat→List Shape}{E:Nat→gJ}{T:Nat→Et}
structure yc(P:Program)(S:Nat→List Shape)(E:Nat→gJ):Prop where
 e:∀k,OP (E k)=true
 s:∀f s,Jp (nth jo (S f) s)=true
 lp:∀k id m0 fn,(E k).lp=some (id,m0)→P.funcs[(E k).f]? = some fn→fV (subs id (cO fn))=true
def ac4(S:Nat→List Shape)(cur:gJ)(r:Rs):Out:=match cur.lp with
 |none=>.ret (af (nm r.2) (nth jo (S cur.fam) r.1).v) (bP (nm r.2) (nth jo (S cur.fam) r.1).h)
 |some _=>.code (nth jo (S cur.fam) r.1).ex (openE (nm r.2) (nth jo (S cur.fam) r.1).e) (bP (nm r.2) (nth jo (S cur.fam) r.1).h)
def Leaf(S:Nat→List Shape)(E:Nat→gJ)(O:Q→Option Rs)(cur:gJ)(o:Out)(r:Rs):Prop:=
 (Pst S cur.fam r∧o=ac4 S cur r)∨∃q,O q=some r∧Pre E q∧adN (E q.k).lp cur.lp=true∧(E q.k).f=cur.f∧(E q.k).fam=cur.fam∧o=.code .normal (openE (nm q.xs) (E q.k).e) (bP (nm q.xs) (E q.k).h)
theorem Xm{l ps:List PV}{sh:List Nat}{q:Nat}(h:wfQ E q ps l.length sh=true)(hn:jh l)(hg:Good (nm l) sh):Pre E ⟨q,aG (nm l) ps⟩∧jF l.length (jZ ps)=true:=by
 unfold wfQ at h;simp only[Bool.and_eq_true] at h;exact⟨⟨by rw[EM];exact Nat.eq_of_beq_eq_true h.1.1,rC hn.nm ps,AA hg h.2⟩,h.1.2⟩
theorem yH{O:Q→Option Rs}{cur:gJ}{fn:Func}(ht:yc P S E)(hfn:P.funcs[cur.f]? = some fn)(hO:∀q r,O q=some r→Pre E q→tH P S E q r∧Pst S (E q.k).fam r) :
  ∀(t:Et) (l:List PV) (sh:List Nat) (r:Rs),run P O t l=.ok r→Pz S E cur t l.length sh=true→jh l→Good (nm l) sh→∃o,nZ P fn (erase S E cur t l.length) l o∧Leaf S E O cur o r
 |.say f k,l,sh,r,hr,hw,hn,hg=>by
  rw[Pz,Bool.and_eq_true] at hw;rw[run,D9] at hr;split at hr
  ·cases hr
  ·rename_i l' hl
   obtain⟨e1,e2,e3⟩:=VN hl hn hw.1 hg;rw[←e1.n] at hw;obtain⟨o,h1,h2⟩:=yH ht hfn hO k l' _ r hr hw.2 e1.ns e3;refine⟨o,?_,h2⟩;rw[erase,nZ];obtain⟨vs,q1,q2,q3⟩:=e1.rest;subst q1;refine wh q2 q3 ⟨e2,?_⟩
   rwa [e1.n] at h1
 |.alt a b,l,sh,r,hr,hw,hn,hg=>by
  rw[Pz,Bool.and_eq_true] at hw;rw[run] at hr;rw[erase];cases ha:run P O a l with
  |bot=>rw[ha] at hr;cases hr
  |fail=>
   rw[ha] at hr;obtain⟨o,h1,h2⟩:=yH ht hfn hO b l sh r hr hw.2 hn hg;exact⟨o,.inr h1,h2⟩
  |ok r'=>
   rw[ha] at hr;cases hr;obtain⟨o,h1,h2⟩:=yH ht hfn hO a l sh r ha hw.1 hn hg;exact⟨o,.inl h1,h2⟩
 |.call q ps s pats k,l,sh,r,hr,hw,hn,hg=>by
  rw[Pz,Bool.and_eq_true,Bool.and_eq_true,Bool.and_eq_true] at hw;obtain⟨⟨⟨w1,w2⟩,w3⟩,w4⟩:=hw;rw[run] at hr;obtain⟨p1,p2⟩:=Xm w1 hn hg;cases ho:O ⟨q,aG (nm l) ps⟩ with
  |none=>rw[ho] at hr;cases hr
  |some r1=>
   obtain⟨s1,ys⟩:=r1;rw[ho] at hr;simp only[vB] at hr;cases hb:Nat.beq s1 s with
   |false=>rw[hb] at hr;cases hr
   |true=>
    have hs:=Nat.eq_of_beq_eq_true hb;subst hs;rw[hb] at hr;simp only at hr;rw[Dg] at hr;split at hr
    ·cases hr
    ·rename_i l' hl
     obtain⟨g1,g2⟩:=hO _ _ ho p1;have g2':Pst S (E q).fam (s1,ys):=g2;obtain⟨e1,e2⟩:=yY hl hn g2'.ns;have e2:=e2 [];rw[List.append_nil] at e2;obtain⟨vs,q1,q2,q3⟩:=e1.rest;have hgp:Good (nm (aG (nm l') pats)) (BB S E q s1).rw:=by rw[e2];exact g2'.g
     have hg':Good (nm l') (shL pats (BB S E q s1).rw++sh):=by
      intro i hi;rcases List.mem_append.1 hi with hi|hi
      ·exact Qd hgp i hi
      ·exact e1.good hg i hi
     rw[←e1.n] at w4;obtain⟨o,h1,h2⟩:=yH ht hfn hO k l' _ r hr w4 e1.ns hg';refine⟨o,?_,h2⟩;rw[e1.n] at h1;have hps:aG (nm l') ps=aG (nm l) ps:=by rw[q1];exact Qv p2
     have hgi:Good (nm (aG (nm l') ps)) (E q).rin:=by rw[hps];exact p1.g
     have ce:=ht.e q;have cs:Jp (BB S E q s1)=true:=ht.s (E q).fam s1;unfold OP at ce;unfold Jp at cs;simp only[Bool.and_eq_true] at ce cs;obtain⟨⟨c1,c2⟩,c3⟩:=ce;obtain⟨⟨⟨d1,d2⟩,d3⟩,d4⟩:=cs;have a2:=DU hgi _ c2;have a5:=DU hgp _ d2;rw[hps] at a2;rw[e2] at a5;unfold tH at g1;simp only at g1;rw[erase];cases hlp:(E q).lp with
     |none=>
      rw[hlp] at g1;simp only at g1 ⊢;rw[nZ];subst q1;refine wh q2 q3 ⟨⟨?_,a2.2,a5.2⟩,h1⟩;have a1:=(oV hgi _ c1).1;have a4:=(yC hgp _ d1).1;rw[hps] at a1;rw[e2] at a4;simp only;rw[a1,a2.1,a4,a5.1];exact g1
     |some idm=>
      obtain⟨id,m0⟩:=idm;rw[hlp] at g1 w3;simp only[Bool.and_eq_true] at g1 w3 ⊢;rw[nZ];subst q1;refine wh q2 q3 ⟨⟨?_,a2.2,a5.2⟩,h1⟩;have hf:=Nat.eq_of_beq_eq_true w3.1;have hm:=Nat.eq_of_beq_eq_true w3.2;have hfn':P.funcs[(E q).f]? = some fn:=by rw[hf];exact hfn
      have g3:=g1 fn hfn';have hlo:=ht.lp q id m0 fn hlp hfn';have a1:=(yB hgi _ c3).1;have a4:=(yB hgp _ d3).1;rw[hps] at a1;rw[e2] at a4;have hno:∀x∈bP (nm (aG (nm l) ps)) (E q).h,zY x:=by
       rw[←a2.1];exact jU e1.ns.nm _ a2.2
      simp only;rw[a1,a2.1,a4,a5.1];rw[←hm,←V3 (nm (aG (nm l) ps))] at g3;revert g3 d4;change (!(asZ (BB S E q s1).ex))=true→_;cases(BB S E q s1).ex with
      |normal=>intro d4;cases d4
      |ret=>intro _ g3;exact kW.blockRet hlo hno g3
      |pan=>intro _ g3;exact kW.blockPan hlo hno g3
      |exit j=>
       intro _ g3;unfold bex;cases hj:Nat.beq j id with
       |true=>
        have:=Nat.eq_of_beq_eq_true hj;subst this;simp only[Nat.beq_refl];exact kW.block hlo hno g3
       |false=>simp only[hj];exact kW.blockOut (fun e=>by rw[e,Nat.beq_refl] at hj;cases hj) hlo hno g3
 |.out s ps,l,sh,r,hr,hw,hn,hg=>by
  rw[run] at hr;cases hr;rw[Pz,Bool.and_eq_true,Bool.and_eq_true,Bool.and_eq_true] at hw;obtain⟨⟨⟨w0,w1⟩,w2⟩,w3⟩:=hw;have hgp:=AA hg w3;refine⟨ac4 S cur (s,aG (nm l) ps),?_,.inl ⟨⟨Nat.le_of_ble_eq_true w0,?_,rC hn.nm ps,hgp⟩,rfl⟩⟩
  ·have cs:=ht.s cur.fam s
   unfold Jp at cs;simp only[Bool.and_eq_true] at cs;obtain⟨⟨⟨d1,d2⟩,d3⟩,_⟩:=cs;have a1:=yC hgp _ d1;have a2:=DU hgp _ d2;have a3:=yB hgp _ d3;rw[erase];unfold ac4;cases hlp:cur.lp with
   |none=>simp only;rw[nZ];exact⟨by rw[a1.1,a2.1],a1.2,a2.2⟩
   |some _=>simp only;rw[nZ];exact⟨by rw[a3.1,a2.1],a3.2,a2.2⟩
  ·rw[EM];exact Nat.eq_of_beq_eq_true w1
 |.goto q ps,l,sh,r,hr,hw,hn,hg=>by
  rw[run] at hr;rw[Pz,Bool.and_eq_true,Bool.and_eq_true,Bool.and_eq_true] at hw;obtain⟨⟨⟨w1,w2⟩,w3⟩,w4⟩:=hw;obtain⟨p1,p2⟩:=Xm w1 hn hg;cases ho:O ⟨q,aG (nm l) ps⟩ with
  |none=>rw[ho] at hr;cases hr
  |some r1=>
   rw[ho] at hr;cases hr;refine⟨_,?_,.inr ⟨_,ho,p1,w2,Nat.eq_of_beq_eq_true w3,Nat.eq_of_beq_eq_true w4,rfl⟩⟩;have ce:=ht.e q;unfold OP at ce;simp only[Bool.and_eq_true] at ce;obtain⟨⟨c1,c2⟩,c3⟩:=ce;have a2:=DU p1.g _ c2;have a3:=yB p1.g _ c3;rw[erase,nZ];exact⟨by rw[a3.1,a2.1],a3.2,a2.2⟩
 |.no _,l,sh,r,hr,hw,hn,hg=>by rw[run] at hr;cases hr
 |.ext _,l,sh,r,hr,hw,hn,hg=>by rw[Pz] at hw;cases hw
mutual
def qF:AV→Bool
 |.pv (.sym _)=>true
 |.tsym _ _=>true
 |.tup l=>Mk l
 |.agg l=>Mk l
 |_=>false
def Mk:List AV→Bool
 |[]=>true
 |a::l=>qF a&&Mk l
end
theorem yS:∀(l:List PV) (i:Nat),nm (pX l) i=Py (nm l i)
 |[],i=>by rw[pX];rfl
 |p::l,0=>by rw[pX];rfl
 |p::l,i+1=>by rw[pX];exact yS l i
theorem Dy:∀(l:List PV),(pX l).length=l.length
 |[]=>rfl
 |p::l=>by rw[pX,List.length_cons,List.length_cons,Dy l]
theorem air{p:PV}(h:NS p):NS (Py p):=by
 unfold Py;split
 ·exact .rows _ fun c hc=>by cases hc
 ·exact h
theorem RD{l:List PV}(h:jh l):jh (fC l):=fun p hp=>by
 rw[mQ] at hp;obtain⟨p',hp',rfl⟩:=List.mem_map.1 hp;exact aiw (h p' hp')
theorem Ja:∀{l:List PV},jh l→jh (pX l)
 |[],_=>by rw[pX];exact jh.nil
 |p::l,h=>by
  rw[pX];exact jh.cons (air (h p (List.mem_cons_self ..))) (Ja fun q hq=>h q (List.mem_cons_of_mem _ hq))
section
variable{ys:List PV}{rw_:List Nat}(hg:Good (nm ys) rw_)
include hg
mutual
theorem Cy:∀a,qF a=true→mJ rw_ a=true→af (nm (pX ys)) (wk a)=wk (af (nm ys) a)∧refs (wk (af (nm ys) a))=[]
 |.pv p,h,_=>by
  cases p with
  |sym i=>rw[wk,show Py (.sym i)=.sym i from rfl,af,af,aj,aj,wk,yS];exact⟨rfl,rfl⟩
  |_=>simp[qF] at h
 |.tsym t i,_,hc=>by
  rw[mJ] at hc;obtain⟨es,e1,_⟩:=mh (hg i (lH hc));rw[wk,af,af,e1,aj,yS,e1];simp only;rw[wk];exact⟨rfl,rfl⟩
 |.tup l,h,hc=>by
  have:=Dx l (by rw[qF] at h;exact h) (by rw[mJ] at hc;exact hc);rw[wk,af,af,wk,this.1];exact⟨rfl,by rw[refs];exact this.2⟩
 |.agg l,h,hc=>by
  have:=Dx l (by rw[qF] at h;exact h) (by rw[mJ] at hc;exact hc);rw[wk,af,af,wk,this.1];exact⟨rfl,by rw[refs];exact this.2⟩
 |.trows _ _,h,_=>by simp[qF] at h
 |.ptr _ _,h,_=>by simp[qF] at h
 |.cptr _,h,_=>by simp[qF] at h
 |.fn _ _,h,_=>by simp[qF] at h
 |.sl _ _ _ _,h,_=>by simp[qF] at h
 |.mp _,h,_=>by simp[qF] at h
 |.ifc _ _,h,_=>by simp[qF] at h
 |.arr _,h,_=>by simp[qF] at h
 |.aptr _ _ _,h,_=>by simp[qF] at h
 |.arv _ _ _,h,_=>by simp[qF] at h
theorem Dx:∀a,Mk a=true→nX rw_ a=true→ay (nm (pX ys)) (yg a)=yg (ay (nm ys) a)∧nU (yg (ay (nm ys) a))=[]
 |[],_,_=>by rw[yg,ay,ay,yg];exact⟨rfl,rfl⟩
 |a::l,h,hc=>by
  rw[Mk,Bool.and_eq_true] at h;rw[nX,Bool.and_eq_true] at hc;have h1:=Cy a h.1 hc.1;have h2:=Dx l h.2 hc.2;rw[yg,ay,ay,yg,h1.1,h2.1];exact⟨rfl,by rw[nU,h1.2,h2.2];rfl⟩
end
end
structure alT(S:Nat→List Shape)(E:Nat→gJ)(k b:Nat):Prop where
 wm:(E k).wm=[]
 lp:(E k).lp=none
 lpb:(E b).lp=none
 f:(E k).f=(E b).f
 a:(E k).args=(E b).args
 h:(E k).h=[]
 hb:(E b).h=[]
 n:(E k).n=(E b).n
 r:(E k).rin=(E b).rin
 len:0<(S (E k).fam).length
 sh:∀s,s<(S (E b).fam).length→qF (nth jo (S (E b).fam) s).v=true∧wk (nth jo (S (E b).fam) s).v=(nth jo (S (E k).fam) 0).v∧(nth jo (S (E b).fam) s).m=(nth jo (S (E k).fam) 0).m
 sh0:(nth jo (S (E k).fam) 0).h=[]∧(nth jo (S (E k).fam) 0).rw=[]
structure atd(S:Nat→List Shape)(E:Nat→gJ)(k b:Nat):Prop where
 wm:(E k).wm=[]
 lp:(E k).lp=none
 lpb:(E b).lp=none
 f:(E k).f=(E b).f
 a:(E k).args=(E b).args
 h:∃x,(E k).h=[x]
 hb:(E b).h=(E k).h
 n:(E k).n=(E b).n
 r:(E k).rin=(E b).rin
 len:0<(S (E k).fam).length
 sh:∃ty cs,(nth jo (S (E k).fam) 0).h=[.box ty cs]∧iw cs=true∧∀s,s<(S (E b).fam).length→qF (nth jo (S (E b).fam) s).v=true∧wk (nth jo (S (E b).fam) s).v=(nth jo (S (E k).fam) 0).v∧(nth jo (S (E b).fam) s).m=(nth jo (S (E k).fam) 0).m∧∃r,(nth jo (S (E b).fam) s).h=.box ty cs::r
 ps:CZ (nth jo (S (E k).fam) 0).v=true
 rw0:(nth jo (S (E k).fam) 0).rw=[]
structure atc(S:Nat→List Shape)(E:Nat→gJ)(k b:Nat):Prop where
 wm:∃x l,(E k).wm=x::l
 lp:(E k).lp=none
 lpb:(E b).lp=none
 f:(E k).f=(E b).f
 a:(E k).args=(E b).args
 h:∃x,(E k).h=[x]
 hb:(E b).h=(E k).h
 n:(E k).n=(E b).n
 r:(E k).rin=(E b).rin
 len:0<(S (E k).fam).length
 sh:∃ty cs,(nth jo (S (E k).fam) 0).h=[.box ty cs]∧iw cs=true∧∀s,s<(S (E b).fam).length→nth 0 (E k).wm s=0→qF (nth jo (S (E b).fam) s).v=true∧wk (nth jo (S (E b).fam) s).v=(nth jo (S (E k).fam) 0).v∧(nth jo (S (E b).fam) s).m=(nth jo (S (E k).fam) 0).m∧∃r,(nth jo (S (E b).fam) s).h=.box ty cs::r
 ps:CZ (nth jo (S (E k).fam) 0).v=true
 rw0:(nth jo (S (E k).fam) 0).rw=[]
 sj:∀s,s<(S (E b).fam).length→∀j,nth 0 (E k).wm s=j+1→j+1<(S (E k).fam).length∧nth jo (S (E b).fam) s=nth jo (S (E k).fam) (j+1)
def aL(P:Program)(S:Nat→List Shape)(E:Nat→gJ)(T:Nat→Et)(k:Nat):Prop:=match(E k).base with
 |some b=>alT S E k b∨atd S E k b∨atc S E k b
 |none=>(∃g,T k=.ext g∧∀l r,Pre E ⟨k,l⟩→g l=some r→tH P S E ⟨k,l⟩ r∧Pst S (E k).fam r)∨∃fn,P.funcs[(E k).f]? = some fn∧Pz S E (E k) (T k) (E k).n (E k).rin=true∧match(E k).lp with
  |none=>∀l v h',l.length=(E k).n→jh l→lT (nm l) (E k).args→Cf (nm l) (E k).h→nZ P fn (erase S E (E k) (T k) (E k).n) l (.ret v h')→Sem P (E k).f (ay (nm l) (E k).args) (bP (nm l) (E k).h) v h'
  |some (id,m0)=>∀l ex e' h',l.length=(E k).n→jh l→TsE (nm l) (E k).e→Cf (nm l) (E k).h→nZ P fn (erase S E (E k) (T k) (E k).n) l (.code ex e' h')→∀R,tZ R P fn.ntmps (lb fn id) m0 (openE (nm l) (E k).e) (bP (nm l) (E k).h) ex e' h'
theorem CG{l:List PV}{rin:List Nat}(hg:Good (nm l) rin) :
  (∀a,mJ rin a=true→iq (nm l) a)∧(∀a,nX rin a=true→lT (nm l) a):=by
 constructor
 ·intro a
  exact AV.rec (motive_1:=fun a=>mJ rin a=true→iq (nm l) a) (motive_2:=fun a=>nX rin a=true→lT (nm l) a)
   (fun _ _=>by rw[iq];trivial) (fun _ _ _=>by rw[iq];trivial) (fun t i h=>by rw[mJ] at h;obtain⟨es,e,_⟩:=mh (hg i (lH h));rw[iq,e];trivial)
   (fun _ _ _=>by rw[iq];trivial) (fun _ _=>by rw[iq];trivial) (fun _ ih h=>by rw[iq];exact ih (by rw[mJ] at h;exact h)) (fun _ ih h=>by rw[iq];exact ih (by rw[mJ] at h;exact h))
   (fun _ _ ih h=>by rw[iq];exact ih (by rw[mJ] at h;exact h)) (fun _ _ _ _ _=>by rw[iq];trivial) (fun _ _=>by rw[iq];trivial) (fun _ _ ih h=>by rw[iq];exact ih (by rw[mJ] at h;exact h)) (fun _ _=>by rw[iq];trivial) (fun _ _ _ _=>by rw[iq];trivial) (fun _ _ _ _=>by rw[iq];trivial)
   (fun _=>by rw[lT];trivial) (fun _ _ i1 i2 h=>by rw[nX,Bool.and_eq_true] at h;rw[lT];exact⟨i1 h.1,i2 h.2⟩) a
 ·intro a
  exact AV.rec_1 (motive_1:=fun a=>mJ rin a=true→iq (nm l) a) (motive_2:=fun a=>nX rin a=true→lT (nm l) a)
   (fun _ _=>by rw[iq];trivial) (fun _ _ _=>by rw[iq];trivial) (fun t i h=>by rw[mJ] at h;obtain⟨es,e,_⟩:=mh (hg i (lH h));rw[iq,e];trivial)
   (fun _ _ _=>by rw[iq];trivial) (fun _ _=>by rw[iq];trivial) (fun _ ih h=>by rw[iq];exact ih (by rw[mJ] at h;exact h)) (fun _ ih h=>by rw[iq];exact ih (by rw[mJ] at h;exact h))
   (fun _ _ ih h=>by rw[iq];exact ih (by rw[mJ] at h;exact h)) (fun _ _ _ _ _=>by rw[iq];trivial) (fun _ _=>by rw[iq];trivial) (fun _ _ ih h=>by rw[iq];exact ih (by rw[mJ] at h;exact h)) (fun _ _=>by rw[iq];trivial) (fun _ _ _ _=>by rw[iq];trivial) (fun _ _ _ _=>by rw[iq];trivial)
   (fun _=>by rw[lT];trivial) (fun _ _ i1 i2 h=>by rw[nX,Bool.and_eq_true] at h;rw[lT];exact⟨i1 h.1,i2 h.2⟩) a
theorem Xv{l:List PV}{rin:List Nat}(hg:Good (nm l) rin)(x:ah)(h:aa1 rin x=true):TsO (nm l) x:=by
 cases x with
 |box t r=>exact(CG hg).2 r h
 |mp ks r=>exact(CG hg).2 r h
 |arr=>trivial
 |dead=>trivial
 |tok t s n=>
  show dl (nm l) n<aH;rw[aa1] at h;cases hb:Nat.blt n aH with
  |true=>rw[gq (Nat.le_of_ble_eq_true hb)];exact Nat.le_of_ble_eq_true hb
  |false=>
   rw[hb] at h;have hn:¬n<aH:=fun hlt=>by rw[Nat.blt,Nat.ble_eq_true_of_le hlt] at hb;cases hb
   obtain⟨es,e,h2⟩:=mh (hg _ (lH h));unfold dl;rw[if_neg hn,e];exact h2
theorem yx{l:List PV}{rin:List Nat}(hg:Good (nm l) rin):∀h,Q8 rin h=true→Cf (nm l) h
 |[],_=>trivial
 |x::r,h=>by
  rw[Q8,Bool.and_eq_true] at h;exact⟨Xv hg x h.1,yx hg r h.2⟩
theorem DJ{l:List PV}{rin:List Nat}(hg:Good (nm l) rin):∀e,Q9 rin e=true→TsE (nm l) e
 |[],_=>trivial
 |(d,a)::r,h=>by
  rw[Q9,Bool.and_eq_true] at h;exact⟨(CG hg).1 a h.1,DJ hg r h.2⟩
theorem adM{a b:Option (Nat×Nat)}(h:adN a b=true):a=b:=by
 unfold adN at h;split at h
 ·rw[Bool.and_eq_true] at h
  rw[Nat.eq_of_beq_eq_true h.1,Nat.eq_of_beq_eq_true h.2]
 ·cases h
theorem EvR.sound{N:Nat}(ht:yc P S E)(hr:∀k,k<N→aL P S E T k)(hN:∀k,N≤k→(E k).base=none∧T k=Ws){q:Q}{r:Rs}(h:EvR P E T q r):Pre E q→tH P S E q r∧Pst S (E q.k).fam r:=by
 induction h with
 |mk q r O hO h ih=>
  intro hp;unfold body at h;have hk:q.k<N:=by
   by_cases hk:q.k<N
   ·exact hk
   ·exfalso
    obtain⟨n1,n2⟩:=hN q.k (by omega);rw[n1,n2] at h;simp only[Ws,run] at h;cases h
  have hrk:=hr q.k hk;unfold aL at hrk;cases hb:(E q.k).base with
  |some b=>
   rw[hb] at h hrk;simp only at h hrk;cases ho:O ⟨b,q.xs⟩ with
   |none=>
    rw[ho] at h;split at h
    ·split at h<;>cases h
    ·cases h
   |some r1=>
    obtain⟨s,ys⟩:=r1;rw[ho] at h;rcases hrk with hrk|hrk|hrk
    ·rw[hrk.wm,hrk.h] at h
     cases h;obtain⟨g1,g2⟩:=ih _ _ ho ⟨by rw[hp.n,hrk.n],hp.ns,by show Good _ (E b).rin;rw[←hrk.r];exact hp.g⟩;unfold tH at g1 ⊢;simp only at g1 g2;rw[hrk.lpb] at g1;rw[hrk.lp];simp only at g1 ⊢;obtain⟨c1,c2,c3⟩:=hrk.sh s g2.s;have cs:=ht.s (E b).fam s;unfold Jp at cs;simp only[Bool.and_eq_true] at cs;have k1:=Cy g2.g _ c1 cs.1.1.1;refine⟨?_,hrk.len,?_,Ja g2.ns,?_⟩
     ·show Sem P (E q.k).f _ _ (af _ (nth jo (S (E q.k).fam) 0).v) (bP _ (nth jo (S (E q.k).fam) 0).h)
      rw[hrk.sh0.1,←c2,k1.1,hrk.f,hrk.a,hrk.h];rw[hrk.hb] at g1;exact fun R=>(g1 R).forget k1.2
     ·show (pX ys).length=_
      rw[Dy,←c3];exact g2.n
     ·show Good _ (nth jo (S (E q.k).fam) 0).rw
      rw[hrk.sh0.2];exact fun i hi=>by cases hi
    ·obtain⟨x,hx⟩:=hrk.h
     rw[hrk.wm,hx] at h;cases h;obtain⟨g1,g2⟩:=ih _ _ ho ⟨by rw[hp.n,hrk.n],hp.ns,by show Good _ (E b).rin;rw[←hrk.r];exact hp.g⟩;unfold tH at g1 ⊢;simp only at g1 g2;rw[hrk.lpb] at g1;rw[hrk.lp];simp only at g1 ⊢;obtain⟨ty,cs,d1,d2,d3⟩:=hrk.sh;obtain⟨c1,c2,c3,r,c4⟩:=d3 s g2.s;have cs':=ht.s (E b).fam s;unfold Jp at cs';simp only[Bool.and_eq_true] at cs';have k1:=Cy g2.g _ c1 cs'.1.1.1;refine⟨?_,hrk.len,?_,RD g2.ns,?_⟩
     ·show Sem P (E q.k).f _ _ (af _ (nth jo (S (E q.k).fam) 0).v) (bP _ (nth jo (S (E q.k).fam) 0).h)
      have g1':Sem P (E b).f (ay (nm q.xs) (E b).args) (bP (nm q.xs) (E b).h) (af (nm ys) (nth jo (S (E b).fam) s).v) (bP (nm ys) (nth jo (S (E b).fam) s).h):=g1;rw[c4,hrk.hb,hx] at g1';rw[d1,hrk.f,hrk.a,hx];obtain⟨e1,e2⟩:=DT d2;intro R;have g2':=(g1' R).box1 k1.2 (e2 _);rw[←k1.1,c2] at g2';exact g2'.conv hrk.ps e1 (fun i v hv=>by rw[yS] at hv;rw[yT,←Jb];exact hv.wd) (fun i v hv=>by rw[yT];exact hv.wd)
     ·show (fC ys).length=_
      rw[LH,←c3];exact g2.n
     ·show Good _ (nth jo (S (E q.k).fam) 0).rw
      rw[hrk.rw0];exact fun i hi=>by cases hi
    ·obtain⟨x,hx⟩:=hrk.h
     obtain⟨y0,y1,hy⟩:=hrk.wm;rw[hy] at h;simp only[weakM] at h;obtain⟨g1,g2⟩:=ih _ _ ho ⟨by rw[hp.n,hrk.n],hp.ns,by show Good _ (E b).rin;rw[←hrk.r];exact hp.g⟩;rw[←hy] at h;split at h
     ·rename_i h0
      cases h;unfold tH at g1 ⊢;simp only at g1 g2;rw[hrk.lpb] at g1;rw[hrk.lp];simp only at g1 ⊢;obtain⟨ty,cs,d1,d2,d3⟩:=hrk.sh;obtain⟨c1,c2,c3,r,c4⟩:=d3 s g2.s h0;have cs':=ht.s (E b).fam s;unfold Jp at cs';simp only[Bool.and_eq_true] at cs';have k1:=Cy g2.g _ c1 cs'.1.1.1;refine⟨?_,hrk.len,?_,RD g2.ns,?_⟩
      ·show Sem P (E q.k).f _ _ (af _ (nth jo (S (E q.k).fam) 0).v) (bP _ (nth jo (S (E q.k).fam) 0).h)
       have g1':Sem P (E b).f (ay (nm q.xs) (E b).args) (bP (nm q.xs) (E b).h) (af (nm ys) (nth jo (S (E b).fam) s).v) (bP (nm ys) (nth jo (S (E b).fam) s).h):=g1;rw[c4,hrk.hb,hx] at g1';rw[d1,hrk.f,hrk.a,hx];obtain⟨e1,e2⟩:=DT d2;intro R;have g2':=(g1' R).box1 k1.2 (e2 _);rw[←k1.1,c2] at g2';exact g2'.conv hrk.ps e1 (fun i v hv=>by rw[yS] at hv;rw[yT,←Jb];exact hv.wd) (fun i v hv=>by rw[yT];exact hv.wd)
      ·show (fC ys).length=_
       rw[LH,←c3];exact g2.n
      ·show Good _ (nth jo (S (E q.k).fam) 0).rw
       rw[hrk.rw0];exact fun i hi=>by cases hi
     ·rename_i j h0
      cases h;have e0:=hrk.sj s g2.s j h0;unfold tH at g1 ⊢;simp only at g1 g2;rw[hrk.lpb] at g1;rw[hrk.lp];simp only at g1 ⊢;refine⟨?_,e0.1,?_,g2.ns,?_⟩
      ·have g1':Sem P (E b).f (ay (nm q.xs) (E b).args) (bP (nm q.xs) (E b).h) (af (nm ys) (nth jo (S (E b).fam) s).v) (bP (nm ys) (nth jo (S (E b).fam) s).h):=g1
       rw[e0.2,←hrk.f,←hrk.a,hrk.hb] at g1';exact g1'
      ·show ys.length=_
       rw[←e0.2];exact g2.n
      ·show Good _ (nth jo (S (E q.k).fam) (j+1)).rw
       rw[←e0.2];exact g2.g
  |none=>
   rw[hb] at h hrk;simp only at h hrk;rcases hrk with⟨g,hT,hx⟩|⟨fn,hfn,hw,hk⟩
   ·rw[hT] at h
    simp only[run,OJ] at h;split at h
    ·cases h
    ·rename_i r' hg
     cases h;exact hx q.xs _ hp hg
   rw[←hp.n] at hw hk;obtain⟨o,h1,h2⟩:=yH ht hfn (fun q r ho hp=>ih q r ho hp) (T q.k) q.xs _ r h hw hp.ns hp.g;have ce:=ht.e q.k;unfold OP at ce;simp only[Bool.and_eq_true] at ce;unfold tH;rcases h2 with⟨p1,p2⟩|⟨q',p1,p2,p3,p4,p5,p6⟩
   ·refine⟨?_,p1⟩
    unfold ac4 at p2;cases hlp:(E q.k).lp with
    |none=>
     rw[hlp] at hk p2;simp only at hk p2 ⊢;rw[p2] at h1;exact hk _ _ _ rfl hp.ns ((CG hp.g).2 _ ce.1.1) (yx hp.g _ ce.1.2) h1
    |some idm=>
     obtain⟨id,m0⟩:=idm;rw[hlp] at hk p2;simp only at hk p2 ⊢;rw[p2] at h1;intro fn' hfn';rw[hfn] at hfn';cases hfn';have hx:(nth jo (S (E q.k).fam) r.1).ex≠.normal:=by
      have cs:=ht.s (E q.k).fam r.1;unfold Jp at cs;simp only[Bool.and_eq_true] at cs;intro e;rw[e] at cs;exact absurd cs.2 (by decide)
     exact kW.done (hk _ _ _ _ rfl hp.ns (DJ hp.g _ ce.2) (yx hp.g _ ce.1.2) h1) hx
   ·have hq:=ih q' r p1 p2
    have hlq:=adM p3;refine⟨?_,by rw[←p5];exact hq.2⟩;have g1:=hq.1;unfold tH at g1;cases hlp:(E q.k).lp with
    |none=>rw[hlp] at p3;rw[hlq,hlp] at p3;cases p3
    |some idm=>
     obtain⟨id,m0⟩:=idm;rw[hlq,hlp] at g1;rw[hlp] at hk;simp only at g1 hk ⊢;intro fn' hfn';rw[hfn] at hfn';cases hfn';have g2:=g1 fn (by rw[p4];exact hfn);rw[p6] at h1;have g3:=hk _ _ _ _ rfl hp.ns (DJ hp.g _ ce.2) (yx hp.g _ ce.1.2) h1;have e:BB S E q'.k r.1=BB S E q.k r.1:=by unfold BB;rw[p5]
     rw[e] at g2;exact kW.again g3 g2
theorem aS.sound{N:Nat}(ht:yc P S E)(hr:∀k,k<N→aL P S E T k)(hN:∀k,N≤k→(E k).base=none∧T k=Ws){q:Q}{r:Rs}(h:aS P E T q=some r)(hp:Pre E q):tH P S E q r∧Pst S (E q.k).fam r:=EvR.sound ht hr hN (aS.iff.1 h) hp
theorem aL.fn{k:Nat}{ent:gJ}{et:Et}{fn:Func}{t:Tr}(he:E k=ent)(hT:T k=et)(hb:ent.base=none)(hl:ent.lp=none)(hf:P.funcs[ent.f]? = some fn)(hw:Pz S E ent et ent.n ent.rin=true)(hr:erase S E ent et ent.n=t)
  (hd:∀l v h',l.length=ent.n→jh l→lT (nm l) ent.args→Cf (nm l) ent.h→nZ P fn t l (.ret v h')→Sem P ent.f (ay (nm l) ent.args) (bP (nm l) ent.h) v h'):aL P S E T k:=by
 unfold aL;rw[he,hT,hb,hl];subst hr;exact .inr ⟨fn,hf,hw,hd⟩
theorem aL.ext{k:Nat}{g:List PV→Option Rs}(hb:(E k).base=none)(hT:T k=.ext g)(h:∀l r,Pre E ⟨k,l⟩→g l=some r→tH P S E ⟨k,l⟩ r∧Pst S (E k).fam r):aL P S E T k:=by
 unfold aL;rw[hb];exact .inl ⟨g,hT,h⟩
theorem aL.loop{k id m0:Nat}{ent:gJ}{et:Et}{fn:Func}{t:Tr}(he:E k=ent)(hT:T k=et)(hb:ent.base=none)(hl:ent.lp=some (id,m0))(hf:P.funcs[ent.f]? = some fn)(hw:Pz S E ent et ent.n ent.rin=true)(hr:erase S E ent et ent.n=t)
  (hd:∀l ex e' h',l.length=ent.n→jh l→TsE (nm l) ent.e→Cf (nm l) ent.h→nZ P fn t l (.code ex e' h')→∀R,tZ R P fn.ntmps (lb fn id) m0 (openE (nm l) ent.e) (bP (nm l) ent.h) ex e' h'):aL P S E T k:=by
 unfold aL;rw[he,hT,hb,hl];subst hr;exact .inr ⟨fn,hf,hw,hd⟩
def aij(b w:List Shape):Bool:=match w with
 |[w0]=>w0.h.isEmpty&&w0.rw.isEmpty&&b.all fun s=>qF s.v&&tV (wk s.v) w0.v&&Nat.beq s.m w0.m
 |_=>false
def aB6(b w:List Shape):Bool:=match w with
 |[w0]=>match w0.h with
  |[.box ty cs]=>w0.rw.isEmpty&&iw cs&&CZ w0.v&&b.all fun s=>qF s.v&&tV (wk s.v) w0.v&&Nat.beq s.m w0.m&&(match s.h with
   |.box ty' cs'::_=>Nat.beq ty' ty&&zI cs' cs
   |_=>false)
  |_=>false
 |_=>false
def ak5(a b:Shape):Bool:=match a.ex,b.ex,a.e,b.e,a.h,b.h,a.rw,b.rw with
 |.ret,.ret,[],[],[.box t1 c1],[.box t2 c2],[],[]=>tV a.v b.v&&Nat.beq t1 t2&&zI c1 c2&&Nat.beq a.m b.m
 |_,_,_,_,_,_,_,_=>false
theorem afH{a b:Shape}(h:ak5 a b=true):a=b:=by
 obtain⟨x1,v1,e1,h1,m1,r1⟩:=a;obtain⟨x2,v2,e2,h2,m2,r2⟩:=b;unfold ak5 at h;split at h
 ·rename_i q1 q2 q3 q4 q5 q6 q7 q8
  simp only at q1 q2 q3 q4 q5 q6 q7 q8;simp only[Bool.and_eq_true] at h;obtain⟨⟨⟨g1,g2⟩,g3⟩,g4⟩:=h;rw[q1,q2,q3,q4,q5,q6,q7,q8,vv _ _ g1,Nat.eq_of_beq_eq_true g2,ou _ _ g3,Nat.eq_of_beq_eq_true g4]
 ·cases h
def af7(s:Shape)(ws:List Shape)(ty:TypeId)(cs:List AV)(w0:Shape):Nat→Bool
 |0=>qF s.v&&tV (wk s.v) w0.v&&Nat.beq s.m w0.m&&(match s.h with
   |.box ty' cs'::_=>Nat.beq ty' ty&&zI cs' cs
   |_=>false)
 |j+1=>decide (j+1<ws.length)&&ak5 s (nth jo ws (j+1))
def FK(f:Shape→Nat→Bool):List Shape→List Nat→Bool
 |[],_=>true
 |s::l,m=>f s (nth 0 m 0)&&FK f l m.tail
theorem FJ(f:Shape→Nat→Bool):∀(l:List Shape) (m:List Nat),FK f l m=true→∀s,s<l.length→f (nth jo l s) (nth 0 m s)=true
 |[],_,_,s,hs=>by simp at hs
 |a::l,m,h,0,_=>by
  rw[FK,Bool.and_eq_true] at h;exact h.1
 |a::l,m,h,s+1,hs=>by
  rw[FK,Bool.and_eq_true] at h;have:=FJ f l m.tail h.2 s (by simpa using hs);cases m with
  |nil=>exact this
  |cons x m=>exact this
def asV(b w:List Shape)(m:List Nat):Bool:=match w with
 |w0::wl=>match w0.h with
  |[.box ty cs]=>w0.rw.isEmpty&&iw cs&&CZ w0.v&&FK (fun s j=>af7 s (w0::wl) ty cs w0 j) b m
  |_=>false
 |[]=>false
theorem vR{α:Type}(d:α):∀(l:List α) (i:Nat),i<l.length→nth d l i∈l
 |[],_,h=>by simp at h
 |a::l,0,_=>by simp[nth]
 |a::l,i+1,h=>by rw[nth];exact List.mem_cons_of_mem _ (vR d l i (by simpa using h))
theorem qg{α:Type}(d:α):∀(l:List α) (i:Nat),l.length≤i→nth d l i=d
 |[],_,_=>by cases ‹Nat›<;>rfl
 |a::l,0,h=>by simp at h
 |a::l,i+1,h=>by rw[nth];exact qg d l i (by simpa using h)
theorem aL.weak{k b:Nat}{ek eb:gJ}(he:E k=ek)(hb:E b=eb)(h0:ek.base=some b)(h1:ek.lp=none)(h2:eb.lp=none)(h3:ek.f=eb.f)(h4:ek.args=eb.args)(h5:ek.h=[])(h6:eb.h=[])(h7:ek.n=eb.n)(h8:ek.rin=eb.rin)
  (hc:aij (S eb.fam) (S ek.fam)=true) (hw0:ek.wm=[]:=by rfl):aL P S E T k:=by
 unfold aL;rw[he,h0];simp only;left;unfold aij at hc;split at hc
 ·rename_i w0 hw
  simp only[Bool.and_eq_true,List.all_eq_true] at hc;obtain⟨⟨c1,c2⟩,c3⟩:=hc;have e0:nth jo (S (E k).fam) 0=w0:=by rw[he,hw];rfl
  refine⟨by rw[he,hw0],by rw[he,h1],by rw[hb,h2],by rw[he,hb,h3],by rw[he,hb,h4],by rw[he,h5],by rw[hb,h6],by rw[he,hb,h7],by rw[he,hb,h8],by rw[he,hw];simp,fun s hs=>?_,?_⟩
  ·rw[e0]
   rw[hb] at hs ⊢;obtain⟨⟨d1,d2⟩,d3⟩:=c3 _ (vR jo _ s hs);exact⟨d1,vv _ _ d2,Nat.eq_of_beq_eq_true d3⟩
  ·rw[e0]
   exact⟨List.isEmpty_iff.1 c1,List.isEmpty_iff.1 c2⟩
 ·cases hc
theorem aL.weakM{k b:Nat}{ek eb:gJ}(he:E k=ek)(hb:E b=eb)(h0:ek.base=some b)(h1:ek.lp=none)(h2:eb.lp=none)(h3:ek.f=eb.f)(h4:ek.args=eb.args)(h5:∃x,ek.h=[x])(h6:eb.h=ek.h)(h7:ek.n=eb.n)(h8:ek.rin=eb.rin)
  (hc:asV (S eb.fam) (S ek.fam) ek.wm=true) (hw0:∃x l,ek.wm=x::l):aL P S E T k:=by
 unfold aL;rw[he,h0];simp only;right;right;unfold asV at hc;split at hc
 ·rename_i w0 wl hw
  split at hc
  ·rename_i ty cs hh
   simp only[Bool.and_eq_true,List.all_eq_true] at hc;obtain⟨⟨⟨c1,c2⟩,c4⟩,c3⟩:=hc;have e0:nth jo (S (E k).fam) 0=w0:=by rw[he,hw];rfl
   have g0:∀s,s<(S (E b).fam).length→af7 (nth jo (S (E b).fam) s) (S (E k).fam) ty cs w0 (nth 0 (E k).wm s)=true:=by
    intro s hs;rw[he,hw,hb] at *;exact FJ _ _ _ c3 s hs
   refine⟨by rw[he];exact hw0,by rw[he,h1],by rw[hb,h2],by rw[he,hb,h3],by rw[he,hb,h4],by rw[he];exact h5,by rw[he,hb,h6],by rw[he,hb,h7],by rw[he,hb,h8],by rw[he,hw];simp,⟨ty,cs,by rw[e0];exact hh,c2,fun s hs hz=>?_⟩,by rw[e0];exact c4,by rw[e0];exact List.isEmpty_iff.1 c1,fun s hs j hz=>?_⟩
   ·have c:=g0 s hs
    rw[hz] at c;unfold af7 at c;simp only[Bool.and_eq_true] at c;obtain⟨⟨⟨d1,d2⟩,d3⟩,d4⟩:=c;rw[e0];refine⟨d1,vv _ _ d2,Nat.eq_of_beq_eq_true d3,?_⟩;split at d4
    ·rename_i ty' cs' r e
     rw[Bool.and_eq_true] at d4;rw[e,Nat.eq_of_beq_eq_true d4.1,ou _ _ d4.2];exact⟨r,rfl⟩
    ·cases d4
   ·have c:=g0 s hs
    rw[hz] at c;unfold af7 at c;simp only[Bool.and_eq_true] at c;exact⟨of_decide_eq_true c.1,afH c.2⟩
  ·cases hc
 ·cases hc
def lpB(P:Program)(e:gJ):Bool:=match e.lp with
 |none=>true
 |some (id,_)=>match P.funcs[e.f]? with
  |none=>true
  |some fn=>fV (subs id (cO fn))
theorem yc.of{es:List gJ}{ss:List (List Shape)}(h1:es.all OP=true)(h2:ss.all (fun l=>l.all Jp)=true)(h3:es.all (lpB P)=true):yc P (nth [] ss) (nth dEn es):=by
 rw[List.all_eq_true] at h1 h2 h3;refine⟨fun k=>?_,fun f s=>?_,fun k id m0 fn hl hf=>?_⟩
 ·by_cases hk:k<es.length
  ·exact h1 _ (vR dEn es k hk)
  ·rw[qg dEn es k (by omega)];rfl
 ·by_cases hk:f<ss.length
  ·have:=h2 _ (vR [] ss f hk)
   rw[List.all_eq_true] at this;by_cases hs:s<(nth [] ss f).length
   ·exact this _ (vR jo _ s hs)
   ·rw[qg jo _ s (by omega)];rfl
  ·rw[qg [] ss f (by omega),qg jo [] s (by simp)];rfl
 ·by_cases hk:k<es.length
  ·have:=h3 _ (vR dEn es k hk)
   unfold lpB at this;rw[hl] at this;simp only at this;rw[hf] at this;exact this
  ·rw[qg dEn es k (by omega)] at hl;cases hl
def uh(p:Nat→Prop):Nat→Prop
 |0=>True
 |n+1=>uh p n∧p n
theorem uh.get{p:Nat→Prop}:∀{n:Nat},uh p n→∀k,k<n→p k
 |0,_,k,hk=>by omega
 |n+1,h,k,hk=>by
  by_cases e:k=n
  ·rw[e];exact h.2
  ·exact h.1.get k (by omega)
end
section
variable{β:Type}
def bK(b:Bool)(x y:β):β:=match b with
 |true=>x
 |false=>y
theorem agd(x y:β):bK true x y=x:=rfl
theorem abu(x y:β):bK false x y=y:=rfl
theorem agf(b:Bool)(x:β):bK b x x=x:=by cases b<;>rfl
theorem alL(b:Bool)(x y:β):bK (!b) x y=bK b y x:=by cases b<;>rfl
theorem ZH(d:β)(p:PV)(k:β):isK d p p k=k:=by unfold isK;rw[if_pos rfl]
theorem aqR(d:β)(b:Bool)(k:β):isK d (.lit (.bool true)) (.lit (.bool b)) k=bK b k d:=by
 unfold isK;cases b<;>simp[bK]
theorem aqS(d:β)(b:Bool)(k:β):isK d (.lit (.bool false)) (.lit (.bool b)) k=bK b d k:=by
 unfold isK;cases b<;>simp[bK]
theorem zh(d:β)(es:List (List PV))(k:β):isK d (.lit (.slice none 0 0)) (.rows es) k=d:=by unfold isK;simp
theorem Y5(d:β)(k:β):Y6 d [] k=k:=rfl
theorem V7(d:β)(y:PV)(r:List PV)(k:β):Y6 d (y::r) k=d:=rfl
theorem Ra(d:β)(y:PV)(r:List PV)(k:PV→List PV→β):IJ d (y::r) k=k y r:=rfl
theorem Wz(d:β)(k:PV→List PV→β):IJ d [] k=d:=rfl
theorem ajM(d:β)(y:PV)(k:PV→β):Nc d (.pv y) k=k y:=rfl
theorem afU(d:β)(c:List PV)(k:List PV→β):O1 d (.cptr c) k=k c:=rfl
theorem ac0(d:β)(y z:PV)(k:PV→PV→β):yO d (.tup [.pv y,.pv z]) k=k y z:=rfl
theorem jY{α:Type}{d:β}{p:α→Prop}{k:α→β}{w0:α}(h:∀w,p w↔w=w0):qE d p k=k w0:=by
 unfold qE;have he:∃w,p w:=⟨w0,(h w0).2 rfl⟩;rw[dif_pos he,(h _).1 he.choose_spec]
theorem mV{α:Type}{p n:α→Prop}{w0:α}(h:∀w,p w↔w=w0)(hn:n w0):∀w,(p w∧n w)↔w=w0:=fun w=>by
 constructor
 ·exact fun h1=>(h w).1 h1.1
 ·intro e;subst e;exact⟨(h w).2 rfl,hn⟩
variable{P:Program}{d:β}{k:AV→β}
theorem lM{b:BinOp}{t:TypeId}{u v w0:AV}(h:∀w,fq P b t u v w↔w=w0)(hn:oG w0):qP P d b t u v k=k w0:=jY (mV h hn)
theorem fM{t:TypeId}{u w0:AV}(h:∀w,pV P t u w↔w=w0)(hn:oG w0):mG P d t u k=k w0:=jY (mV h hn)
theorem jm{t:TypeId}{u i w0:AV}(h:∀w,qD P t u i w↔w=w0)(hn:oG w0):lX P d t u i k=k w0:=jY (mV h hn)
theorem rX{t:TypeId}{u:AV}{lo hi:Option AV}{w0:AV}(h:∀w,Gq P t u lo hi w↔w=w0)(hn:oG w0):xk P d t u lo hi k=k w0:=jY (mV h hn)
theorem aj6{mn:Bool}{u v w0:AV}(h:∀w,agt P mn u v w↔w=w0)(hn:oG w0):mxK P d mn u v k=k w0:=jY (mV h hn)
theorem NG{t:TypeId}{p:PV}{a:AV}{ok:Bool}{w0:AV}(h:∀w,Gt P t p a w ok↔w=w0)(hn:oG w0):wM P d t p a ok k=k w0:=jY (mV h hn)
theorem RJ{t:TypeId}{p:PV}{a v:AV}{w0:PV}{k:PV→β}(e:apd p a v=w0)(h:I7 P t p a v w0)(hn:NS w0):DF P d t p a v k=k w0:=by
 subst e;unfold DF;rw[if_pos ⟨h,hn⟩]
theorem wB{t:TypeId}{s x:AV}{w0:PV}{k:PV→β}(h:∀w,Gw P t s x w↔w=w0)(hn:NS w0):pO P d t s x k=k w0:=jY (mV h hn)
theorem bH(v:Value):oG (.pv (.lit v)):=.pv _ (.lit v)
theorem rW{t:TypeId}{u:AV}{lo hi:Option AV}{w0:AV}(h:Gq P t u lo hi w0)(w:AV):Gq P t u lo hi w↔w=w0:=by
 constructor
 ·intro hw
  -- operands that stand for the bounds
  let ρ:Operand→Option AV:=fun
   |.tmp 0=>lo
   |.tmp 1=>hi
   |_=>none
  have hl:pU ρ (lo.map fun _=>Operand.tmp 0) lo:=by cases lo<;>simp[pU,ρ]
  have hh:pU ρ (hi.map fun _=>Operand.tmp 1) hi:=by cases hi<;>simp[pU,ρ]
  have h1:=hw ρ _ _ hl hh;have h2:=h ρ _ _ hl hh;rw[h1] at h2;exact Option.some.inj h2
 ·rintro rfl;exact h
variable{t:TypeId}{a b:Int}
theorem abk:qP P d .lss t (.pv (.lit (.int .i64 a))) (.pv (.lit (.int .i64 b))) k=k (.pv (.lit (.bool (decide (a<b))))):=lM (fun _=>Vb) (bH _)
theorem abl:qP P d .leq t (.pv (.lit (.int .i64 a))) (.pv (.lit (.int .i64 b))) k=k (.pv (.lit (.bool (decide (a≤b))))):=lM (fun _=>Vd) (bH _)
theorem abm:qP P d .gtr t (.pv (.lit (.int .i64 a))) (.pv (.lit (.int .i64 b))) k=k (.pv (.lit (.bool (decide (b<a))))):=lM (fun _=>Ve) (bH _)
theorem abn:qP P d .geq t (.pv (.lit (.int .i64 a))) (.pv (.lit (.int .i64 b))) k=k (.pv (.lit (.bool (decide (b≤a))))):=lM (fun _=>Vf) (bH _)
theorem abp:qP P d .eql t (.pv (.lit (.int .i64 a))) (.pv (.lit (.int .i64 b))) k=k (.pv (.lit (.bool (decide (a=b))))):=lM (fun _=>Vh) (bH _)
theorem abj:qP P d .neq t (.pv (.lit (.int .i64 a))) (.pv (.lit (.int .i64 b))) k=k (.pv (.lit (.bool (!decide (a=b))))):=lM (fun _=>by rw[Va];simp) (bH _)
theorem abq:qP P d .add t (.pv (.lit (.int .i64 a))) (.pv (.lit (.int .i64 b))) k=k (.pv (.lit (.int .i64 (IntKind.i64.wrap (a+b))))):=lM (fun _=>Vi) (bH _)
theorem abg:qP P d .sub t (.pv (.lit (.int .i64 a))) (.pv (.lit (.int .i64 b))) k=k (.pv (.lit (.int .i64 (IntKind.i64.wrap (a-b))))):=lM (fun _=>U8) (bH _)
theorem abo{x y:ByteArray}:qP P d .eql t (.pv (.lit (.string x))) (.pv (.lit (.string y))) k=k (.pv (.lit (.bool (decide (x=y))))):=lM (fun _=>Vg) (bH _)
theorem abh{x y:ByteArray}:qP P d .neq t (.pv (.lit (.string x))) (.pv (.lit (.string y))) k=k (.pv (.lit (.bool (!decide (x=y))))):=lM (fun _=>by rw[U9];simp) (bH _)
theorem adb:mxK P d false (.pv (.lit (.int .i64 a))) (.pv (.lit (.int .i64 b))) k=k (.pv (.lit (.int .i64 (max a b)))):=aj6 (fun _=>Y9) (bH _)
end
theorem abA(a:bG):bG.alt .fail a=a:=rfl
theorem Bj(a:bG):bG.alt a .fail=a:=by cases a<;>rfl
theorem alO(r:Rs)(a:bG):bG.alt (.ok r) a=.ok r:=rfl
theorem alQ(b:Bool)(x y:bG):bG.alt (bK b x .fail) (bK b .fail y)=bK b x y:=by
 cases b
 ·rfl
 ·exact Bj x
theorem agl(b:Bool)(x y:bG):bG.alt (bK b .fail x) (bK b y .fail)=bK b y x:=by
 cases b
 ·exact Bj x
 ·rfl
theorem Rk(s' s:Nat)(ys:List PV)(k:List PV→bG):vB (some (s',ys)) s k=if s'=s then k ys else .fail:=by
 unfold vB;by_cases h:s'=s
 ·subst h;rw[if_pos rfl];simp
 ·rw[if_neg h]
  simp only;cases hb:Nat.beq s' s with
  |true=>exact absurd (Nat.eq_of_beq_eq_true hb) h
  |false=>rfl
theorem Qq(r:Rs):tL (some r)=.ok r:=rfl
theorem WS(o:Option Rs)(x:bG):bG.alt (tL o) x=tL o:=by cases o<;>rfl
theorem PO(s:Nat)(ys:List PV):LF (some (s,ys))=.ok (0,pX ys):=rfl
theorem aiv(s:Nat)(ys:List PV):Xn (some (s,ys))=.ok (0,fC ys):=rfl
@[simp] theorem iT(m:List Nat)(s:Nat)(ys:List PV):weakM m (some (s,ys))=(match nth 0 m s with|0=>.ok (0,fC ys)|j+1=>.ok (j+1,ys)):=rfl
theorem Xj:pX []=[]:=rfl
theorem Vu(p:PV)(l:List PV):pX (p::l)=Py p::pX l:=rfl
theorem abX(i:IntKind)(n:Int):Py (.lit (.int i n))=.lit (.int i n):=rfl
theorem Xl(b:Bool):Py (.lit (.bool b))=.lit (.bool b):=rfl
theorem abV(b:ByteArray):Py (.lit (.string b))=.lit (.string b):=rfl
theorem Xk(es:List (List PV)):Py (.rows es)=.rows es:=rfl
theorem abW:Py (.lit (.slice none 0 0))=.rows []:=rfl
def lW{α σ ε:Type}(g:Nat→σ→α→Except ε σ):List α→Nat→σ→Except ε σ
 |[],_,s=>.ok s
 |a::l,i,s=>match g i s a with
  |.ok s'=>lW g l (i+1) s'
  |.error e=>.error e
section
variable{P:Program}{E:Nat→gJ}{T:Nat→Et}
theorem UZ{α σ:Type}(l:List α)(g:Nat→σ→α→Except Rs σ)(q:Nat→σ→Q)(fin:σ→Rs)(I:Nat→σ→Prop)
  (step:∀i s a,l[i]? = some a→I i s→match g i s a with
   |.ok s'=>I (i+1) s'∧body P E T (aS P E T) (q i s)=tL (aS P E T (q (i+1) s'))
   |.error r=>body P E T (aS P E T) (q i s)=.ok r)
  (done:∀s,I l.length s→body P E T (aS P E T) (q l.length s)=.ok (fin s)) (s:σ) (h0:I 0 s) :
  aS P E T (q 0 s)=some (match lW g l 0 s with | .ok s'=>fin s' | .error r=>r):=by
 have key:∀(m i:Nat) (s:σ),l.length-i=m→i≤l.length→I i s→aS P E T (q i s)=some (match lW g (l.drop i) i s with | .ok s'=>fin s' | .error r=>r):=by
  intro m
  induction m with
  |zero=>
   intro i s hm hi hs;have:i=l.length:=by omega
   subst this;rw[List.drop_length];exact aS.of (done s hs)
  |succ m ih=>
   intro i s hm hi hs;have hlt:i<l.length:=by omega
   have h1:=step i s _ (List.getElem?_eq_getElem hlt) hs;rw[List.drop_eq_getElem_cons hlt,lW];cases hg:g i s l[i] with
   |ok s'=>
    rw[hg] at h1;refine aS.of ?_;rw[h1.2,ih (i+1) s' (by omega) (by omega) h1.1];rfl
   |error r=>
    rw[hg] at h1;exact aS.of h1
 simpa using key l.length 0 s rfl (Nat.zero_le _) h0
end
attribute [simp] agd abu agf alL ZH aqR aqS zh Y5 V7 Ra Wz ajM afU ac0 abk abl abm abn abp abj abq abg abo abh adb abA Bj alO alQ agl WS Rk Qq PO Xj Vu abX Xl abV Xk abW
end Go.Proofs.YtfphhabaeggenaaGreatDoor
namespace Go.Proofs.YtfphhabaeggenaaGreatDoor
open Go.RowKit
section
variable{β:Type}{d:β}{k:AV→β}
theorem tN{l:List PV}(h:jh l):oG (.cptr l):=.cptr _ h
theorem Wj(l:List ByteArray):mG Tryz.prog d 38 (.pv (strs l)) k=k (.pv (iv l.length)):=fM (fun _=>Zj l) (bH _)
theorem bq{l:List ByteArray}{i:Nat}{x:ByteArray}(h:l[i]? = some x):lX Tryz.prog d 38 (.pv (strs l)) (.pv (.lit (.int .i64 (i:Int)))) k=k (.cptr [sv x]):=jm (fun _=>ZL h) (tN (by simp[bE,bT]))
theorem Hy{l:List ByteArray}{i:Nat}(h:i≤l.length):xk Tryz.prog d 38 (.pv (strs l)) none (some (.pv (.lit (.int .i64 (i:Int))))) k=k (.pv (strs (l.take i))):=
 rX (rW (by have:=xh CK (es:=l.map (fun s=>[sv s])) (m:=i) (by simpa using h);rwa [←List.map_take] at this)) (.pv _ (sI _))
theorem Zm(l:List Ty):mG Tryz.prog d 42 (.pv (aV l)) k=k (.pv (iv l.length)):=fM (fun _=>adj l) (bH _)
theorem lG{l:List Ty}{i:Nat}{x:Ty}(h:l[i]? = some x):lX Tryz.prog d 42 (.pv (aV l)) (.pv (.lit (.int .i64 (i:Int)))) k=k (.cptr [iv x.kind,sv x.name,iv x.n,aV x.kids]):=jm (fun _=>adO h) (tN (by simp[bE,bT]))
theorem Mg{l:List Ty}{i:Nat}(h:i≤l.length):xk Tryz.prog d 42 (.pv (aV l)) none (some (.pv (.lit (.int .i64 (i:Int))))) k=k (.pv (aV (l.take i))):=
 rX (rW (by have:=xh Qa (es:=l.map (Ty.cells)) (m:=i) (by simpa using h);rwa [←List.map_take] at this)) (.pv _ (Y0 _))
theorem Zr(l:List Ex):mG Tryz.prog d 49 (.pv (exs l)) k=k (.pv (iv l.length)):=fM (fun _=>adp l) (bH _)
theorem ZM{l:List Ex}{i:Nat}{x:Ex}(h:l[i]? = some x):lX Tryz.prog d 49 (.pv (exs l)) (.pv (.lit (.int .i64 (i:Int)))) k=k (.cptr [iv x.kind,sv x.name,iv x.n,iv x.t.kind,sv x.t.name,iv x.t.n,aV x.t.kids,exs x.kids,lU x.alts,bg x.binds,iv x.at_]):=jm (fun _=>adS h) (tN (by simp[bE,bT]))
theorem Zw(l:List Bd):mG Tryz.prog d 26 (.pv (bg l)) k=k (.pv (iv l.length)):=fM (fun _=>adt l) (bH _)
theorem nC{l:List Bd}{i:Nat}{x:Bd}(h:l[i]? = some x):lX Tryz.prog d 26 (.pv (bg l)) (.pv (.lit (.int .i64 (i:Int)))) k=k (.cptr [sv x.name,iv x.e.kind,sv x.e.name,iv x.e.n,iv x.e.t.kind,sv x.e.t.name,iv x.e.t.n,aV x.e.t.kids,exs x.e.kids,lU x.e.alts,bg x.e.binds,iv x.e.at_,iv x.at_]):=jm (fun _=>adW h) (tN (by simp[bE,bT]))
theorem uy{l:List Bd}{i:Nat}(h:i≤l.length):xk Tryz.prog d 26 (.pv (bg l)) none (some (.pv (.lit (.int .i64 (i:Int))))) k=k (.pv (bg (l.take i))):=
 rX (rW (by have:=xh jK (es:=l.map (Bd.cells)) (m:=i) (by simpa using h);rwa [←List.map_take] at this)) (.pv _ (ajZ _))
theorem Zu(l:List Cn):mG Tryz.prog d 39 (.pv (nK l)) k=k (.pv (iv l.length)):=fM (fun _=>adr l) (bH _)
theorem zk{l:List Cn}{i:Nat}{x:Cn}(h:l[i]? = some x):lX Tryz.prog d 39 (.pv (nK l)) (.pv (.lit (.int .i64 (i:Int)))) k=k (.cptr [sv x.name,aV x.args,iv x.at_]):=jm (fun _=>adU h) (tN (by simp[bE,bT]))
theorem Zt(l:List Dt):mG Tryz.prog d 23 (.pv (aZ l)) k=k (.pv (iv l.length)):=fM (fun _=>adq l) (bH _)
theorem iD{l:List Dt}{i:Nat}{x:Dt}(h:l[i]? = some x):lX Tryz.prog d 23 (.pv (aZ l)) (.pv (.lit (.int .i64 (i:Int)))) k=k (.cptr [sv x.name,strs x.params,nK x.cons,strs x.deriv,iv x.at_]):=jm (fun _=>adT h) (tN (by simp[bE,bT]))
theorem Mi{l:List Dt}{i:Nat}(h:i≤l.length):xk Tryz.prog d 23 (.pv (aZ l)) none (some (.pv (.lit (.int .i64 (i:Int))))) k=k (.pv (aZ (l.take i))):=
 rX (rW (by have:=xh gD (es:=l.map (Dt.cells)) (m:=i) (by simpa using h);rwa [←List.map_take] at this)) (.pv _ (Y2 _))
theorem Zp(l:List Md):mG Tryz.prog d 68 (.pv (jb l)) k=k (.pv (iv l.length)):=fM (fun _=>adn l) (bH _)
theorem ny{l:List Md}{i:Nat}{x:Md}(h:l[i]? = some x):lX Tryz.prog d 68 (.pv (jb l)) (.pv (.lit (.int .i64 (i:Int)))) k=k (.cptr [sv x.name,iv x.t.kind,sv x.t.name,iv x.t.n,aV x.t.kids,iv x.at_]):=jm (fun _=>adQ h) (tN (by simp[bE,bT]))
theorem Zv(l:List Cl):mG Tryz.prog d 24 (.pv (cls l)) k=k (.pv (iv l.length)):=fM (fun _=>ads l) (bH _)
theorem eu{l:List Cl}{i:Nat}{x:Cl}(h:l[i]? = some x):lX Tryz.prog d 24 (.pv (cls l)) (.pv (.lit (.int .i64 (i:Int)))) k=k (.cptr [sv x.name,sv x.var,strs x.supers,jb x.methods,bg x.defaults,iv x.at_]):=jm (fun _=>adV h) (tN (by simp[bE,bT]))
theorem XH{l:List Cl}{i:Nat}(h:i≤l.length):xk Tryz.prog d 24 (.pv (cls l)) none (some (.pv (.lit (.int .i64 (i:Int))))) k=k (.pv (cls (l.take i))):=
 rX (rW (by have:=xh gZ (es:=l.map (Cl.cells)) (m:=i) (by simpa using h);rwa [←List.map_take] at this)) (.pv _ (ajY _))
theorem Zo(l:List Pd):mG Tryz.prog d 45 (.pv (jT l)) k=k (.pv (iv l.length)):=fM (fun _=>adl l) (bH _)
theorem pG{l:List Pd}{i:Nat}{x:Pd}(h:l[i]? = some x):lX Tryz.prog d 45 (.pv (jT l)) (.pv (.lit (.int .i64 (i:Int)))) k=k (.cptr [sv x.cls,iv x.t.kind,sv x.t.name,iv x.t.n,aV x.t.kids]):=jm (fun _=>adP h) (tN (by simp[bE,bT]))
theorem Mh{l:List Pd}{i:Nat}(h:i≤l.length):xk Tryz.prog d 45 (.pv (jT l)) none (some (.pv (.lit (.int .i64 (i:Int))))) k=k (.pv (jT (l.take i))):=
 rX (rW (by have:=xh Qb (es:=l.map (Pd.cells)) (m:=i) (by simpa using h);rwa [←List.map_take] at this)) (.pv _ (ajV _))
theorem Zq(l:List It):mG Tryz.prog d 25 (.pv (its l)) k=k (.pv (iv l.length)):=fM (fun _=>ado l) (bH _)
theorem fZ{l:List It}{i:Nat}{x:It}(h:l[i]? = some x):lX Tryz.prog d 25 (.pv (its l)) (.pv (.lit (.int .i64 (i:Int)))) k=k (.cptr [sv x.cls,iv x.head.kind,sv x.head.name,iv x.head.n,aV x.head.kids,jT x.ctx,bg x.binds,iv x.at_]):=jm (fun _=>adR h) (tN (by simp[bE,bT]))
end
attribute [simp] Wj Zm Zr Zw Zu Zt Zp Zv Zo Zq
end Go.Proofs.YtfphhabaeggenaaGreatDoor
set_option linter.all false
namespace Go.Proofs
open Go.Shelf
def Tryz.lays161_ren:Go.Shelf.Ren:=⟨fun|161=>203|231=>222|227=>223|233=>224|235=>225|228=>239|197=>240|151=>241|260=>248|152=>249|137=>205|119=>252|224=>253|225=>254|217=>227|266=>242|n=>n,fun|9=>9|4=>4|3=>3|5=>5|117=>245|116=>244|0=>0|124=>248|105=>263|21=>21|119=>186|46=>190|139=>189|138=>188|n=>n,fun|3=>0|4=>1|n=>n⟩
theorem Tryz.lays161:Go.Proofs.Lays.n161 Tryz.prog Tryz.lays161_ren:={
 mixed:=by kernel_rfl
 f119:=Tryz.func252.trans (congrArg some (by kernel_rfl))
 f137:=Tryz.func205.trans (congrArg some (by kernel_rfl))
 f151:=Tryz.func241.trans (congrArg some (by kernel_rfl))
 f152:=Tryz.func249.trans (congrArg some (by kernel_rfl))
 f161:=Tryz.func203.trans (congrArg some (by kernel_rfl))
 f197:=Tryz.func240.trans (congrArg some (by kernel_rfl))
 f217:=Tryz.func227.trans (congrArg some (by kernel_rfl))
 f224:=Tryz.func253.trans (congrArg some (by kernel_rfl))
 f225:=Tryz.func254.trans (congrArg some (by kernel_rfl))
 f227:=Tryz.func223.trans (congrArg some (by kernel_rfl))
 f228:=Tryz.func239.trans (congrArg some (by kernel_rfl))
 f231:=Tryz.func222.trans (congrArg some (by kernel_rfl))
 f233:=Tryz.func224.trans (congrArg some (by kernel_rfl))
 f235:=Tryz.func225.trans (congrArg some (by kernel_rfl))
 f260:=Tryz.func248.trans (congrArg some (by kernel_rfl))
 f266:=Tryz.func242.trans (congrArg some (by kernel_rfl))
 t0:=Tryz.underlying0
 a0:=Tryz.isAgg0
 z0:=Tryz.sizeOf0
 v0:=Tryz.zeroValue0
 t3:=Tryz.underlying3
 a3:=Tryz.isAgg3
 z3:=Tryz.sizeOf3
 v3:=Tryz.zeroValue3
 t4:=Tryz.underlying4
 a4:=Tryz.isAgg4
 z4:=Tryz.sizeOf4
 v4:=Tryz.zeroValue4
 t5:=Tryz.underlying5
 a5:=Tryz.isAgg5
 z5:=Tryz.sizeOf5
 v5:=Tryz.zeroValue5
 t9:=Tryz.underlying9
 a9:=Tryz.isAgg9
 z9:=Tryz.sizeOf9
 v9:=Tryz.zeroValue9
 t21:=Tryz.underlying21
 a21:=Tryz.isAgg21
 z21:=Tryz.sizeOf21
 v21:=Tryz.zeroValue21
 t46:=Tryz.underlying190
 a46:=Tryz.isAgg190
 z46:=Tryz.sizeOf190
 v46:=Tryz.zeroValue190
 t105:=Tryz.underlying263
 a105:=Tryz.isAgg263
 z105:=Tryz.sizeOf263
 v105:=Tryz.zeroValue263
 t116:=Tryz.underlying244
 a116:=Tryz.isAgg244
 z116:=Tryz.sizeOf244
 t117:=Tryz.underlying245
 a117:=Tryz.isAgg245
 z117:=Tryz.sizeOf245
 v117:=Tryz.zeroValue245
 t119:=Tryz.underlying186
 a119:=Tryz.isAgg186
 z119:=Tryz.sizeOf186
 t124:=Tryz.underlying248
 a124:=Tryz.isAgg248
 z124:=Tryz.sizeOf248
 v124:=Tryz.zeroValue248
 t138:=Tryz.underlying188
 a138:=Tryz.isAgg188
 z138:=Tryz.sizeOf188
 v138:=Tryz.zeroValue188
 t139:=Tryz.underlying189
 a139:=Tryz.isAgg189
 z139:=Tryz.sizeOf189
 v139:=Tryz.zeroValue189
 g3:=by kernel_rfl
 g4:=by kernel_rfl }
open Go.RowKit in
theorem Tryz.strings_TrimLeft_one(s:ByteArray)(c:UInt8)(hc:c.toNat<128)(w:World) :
  Calls Tryz.prog 203 #[.string s,.string ⟨#[c]⟩] w fun e w'=>e=.returned (.string ⟨(Lib.trimLeftB s.data.toList c).toArray⟩)∧w'=w:=Any.strings_TrimLeft_one Tryz.lays161 s c hc w
def Tryz.lays137_ren:Go.Shelf.Ren:=⟨fun|137=>205|217=>227|266=>242|n=>n,fun|9=>9|5=>5|3=>3|n=>n,fun|n=>n⟩
theorem Tryz.lays137:Go.Proofs.Lays.n137 Tryz.prog Tryz.lays137_ren:={
 mixed:=by kernel_rfl
 f137:=Tryz.func205.trans (congrArg some (by kernel_rfl))
 f217:=Tryz.func227.trans (congrArg some (by kernel_rfl))
 f266:=Tryz.func242.trans (congrArg some (by kernel_rfl))
 t3:=Tryz.underlying3
 a3:=Tryz.isAgg3
 z3:=Tryz.sizeOf3
 v3:=Tryz.zeroValue3
 t5:=Tryz.underlying5
 a5:=Tryz.isAgg5
 z5:=Tryz.sizeOf5
 v5:=Tryz.zeroValue5
 t9:=Tryz.underlying9
 a9:=Tryz.isAgg9
 z9:=Tryz.sizeOf9
 v9:=Tryz.zeroValue9 }
open Go.RowKit in
theorem Tryz.strings_IndexByte(s:ByteArray)(c:Int)(w:World) :
  Calls Tryz.prog 205 #[.string s,.int .u8 c] w fun e w'=>e=.returned (.int .i64 (Lib.indexByte s.data.toList c.toNat.toUInt8))∧w'=w:=Any.strings_IndexByte Tryz.lays137 s c w
def Tryz.lays206_ren:Go.Shelf.Ren:=⟨fun|206=>202|n=>n,fun|9=>9|4=>4|3=>3|n=>n,fun|n=>n⟩
def Tryz.lays99_ren:Go.Shelf.Ren:=⟨fun|99=>151|206=>202|n=>n,fun|9=>9|4=>4|3=>3|n=>n,fun|n=>n⟩
theorem Tryz.lays99:Go.Proofs.Lays.n99 Tryz.prog Tryz.lays99_ren:={
 mixed:=by kernel_rfl
 f99:=Tryz.func151.trans (congrArg some (by kernel_rfl))
 f206:=Tryz.func202.trans (congrArg some (by kernel_rfl))
 t3:=Tryz.underlying3
 a3:=Tryz.isAgg3
 z3:=Tryz.sizeOf3
 v3:=Tryz.zeroValue3
 t4:=Tryz.underlying4
 a4:=Tryz.isAgg4
 z4:=Tryz.sizeOf4
 v4:=Tryz.zeroValue4
 t9:=Tryz.underlying9
 a9:=Tryz.isAgg9
 z9:=Tryz.sizeOf9
 v9:=Tryz.zeroValue9 }
open Go.RowKit Go.Lib in
theorem Tryz.strings_HasPrefix(s p:ByteArray)(w:World) :
  Calls Tryz.prog 151 #[.string s,.string p] w fun e w'=>e=.returned (.bool (Lib.hasPrefix s.data.toList p.data.toList))∧w'=w:=Any.strings_HasPrefix Tryz.lays99 s p w
end Go.Proofs
namespace Go.Proofs.YtfphhabaeggenaaGreatDoor.Lx
set_option maxRecDepth 20000
open Go.RowKit
def ND(c:UInt8):Bool:=decide (97≤c.toNat∧c.toNat≤122∨c.toNat=95)
def RN(c:UInt8):Bool:=decide (65≤c.toNat∧c.toNat≤90)
def bJ(c:UInt8):Bool:=decide (48≤c.toNat∧c.toNat≤57)
def kL(c:UInt8):Bool:=decide (c.toNat=32∨c.toNat=9∨c.toNat=10∨c.toNat=13)
def bS(c:UInt8):Bool:=ND c||RN c||bJ c||decide (c.toNat=39)
def jV(c:UInt8):Bool:=decide (c.toNat≠10)
def RS:List UInt8:=[33,36,37,38,42,43,46,47,60,61,62,63,64,94,124,126,58,45]
def qX(c:UInt8):Bool:=RS.contains c
theorem iX{a b:Bool}(h:a=b):Ending.returned (.bool a)=.returned (.bool b):=by rw[h]
set_option maxHeartbeats 400000 in
theorem rU(c:UInt8)(w:World) :
  Calls Tryz.prog 134 #[.int .u8 (c.toNat:Int)] w fun e w'=>e=.returned (.bool (RN c))∧w=w':=by
 go_enter Tryz.func134,Tryz.ntmps134
 go_wp2
 all_goals go_ret
 all_goals exact⟨iX (by rw[Bool.eq_iff_iff];simp[RN];try omega),rfl⟩
set_option maxHeartbeats 400000 in
theorem ol(c:UInt8)(w:World) :
  Calls Tryz.prog 135 #[.int .u8 (c.toNat:Int)] w fun e w'=>e=.returned (.bool (ND c))∧w=w':=by
 go_enter Tryz.func135,Tryz.ntmps135
 go_wp2
 all_goals go_ret
 all_goals exact⟨iX (by rw[Bool.eq_iff_iff];simp[ND];try omega),rfl⟩
set_option maxHeartbeats 400000 in
theorem kT(c:UInt8)(w:World) :
  Calls Tryz.prog 156 #[.int .u8 (c.toNat:Int)] w fun e w'=>e=.returned (.bool (bJ c))∧w=w':=by
 go_enter Tryz.func156,Tryz.ntmps156
 go_wp2
 all_goals go_ret
 all_goals exact⟨iX (by rw[Bool.eq_iff_iff];simp[bJ];try omega),rfl⟩
set_option maxHeartbeats 400000 in
theorem WL(c:UInt8)(w:World) :
  Calls Tryz.prog 153 #[.int .u8 (c.toNat:Int)] w fun e w'=>e=.returned (.bool (kL c))∧w=w':=by
 go_enter Tryz.func153,Tryz.ntmps153
 go_wp2
 all_goals go_ret
 all_goals exact⟨iX (by rw[Bool.eq_iff_iff];simp[kL];try omega),rfl⟩
set_option maxHeartbeats 400000 in
theorem Zi(v:Value)(c:UInt8)(w:World) :
  Calls Tryz.prog 154 #[v,.int .u8 (c.toNat:Int)] w fun e w'=>e=.returned (.bool (jV c))∧w=w':=by
 go_enter Tryz.func154,Tryz.ntmps154
 go_wp2
 all_goals go_ret
 all_goals exact⟨iX (by rw[Bool.eq_iff_iff];simp[jV];try omega),rfl⟩
set_option maxHeartbeats 400000 in
theorem QH(c:UInt8)(w:World) :
  Calls Tryz.prog 133 #[.int .u8 (c.toNat:Int)] w fun e w'=>e=.returned (.bool (bS c))∧w=w':=by
 cases hl:ND c
 ·cases hu:RN c
  ·cases hd:bJ c
   all_goals
    go_enter Tryz.func133,Tryz.ntmps133
    go_wp2_with (first|(go_at_call 135;refine(ol _ _).mono ?_;rintro e w' ⟨rfl,rfl⟩)|(go_at_call 134;refine(rU _ _).mono ?_;rintro e w' ⟨rfl,rfl⟩)|(go_at_call 156;refine(kT _ _).mono ?_;rintro e w' ⟨rfl,rfl⟩))
    all_goals go_ret
    all_goals exact⟨iX (by rw[Bool.eq_iff_iff];simp[bS,hl,hu,hd];try omega),rfl⟩
  ·go_enter Tryz.func133,Tryz.ntmps133
   go_wp2_with (first|(go_at_call 135;refine(ol _ _).mono ?_;rintro e w' ⟨rfl,rfl⟩)|(go_at_call 134;refine(rU _ _).mono ?_;rintro e w' ⟨rfl,rfl⟩)|(go_at_call 156;refine(kT _ _).mono ?_;rintro e w' ⟨rfl,rfl⟩))
   all_goals go_ret
   all_goals exact⟨iX (by simp[bS,hl,hu]),rfl⟩
 ·go_enter Tryz.func133,Tryz.ntmps133
  go_wp2_with (first|(go_at_call 135;refine(ol _ _).mono ?_;rintro e w' ⟨rfl,rfl⟩)|(go_at_call 134;refine(rU _ _).mono ?_;rintro e w' ⟨rfl,rfl⟩)|(go_at_call 156;refine(kT _ _).mono ?_;rintro e w' ⟨rfl,rfl⟩))
  all_goals go_ret
  all_goals exact⟨iX (by simp[bS,hl]),rfl⟩
set_option maxHeartbeats 400000 in
theorem xf(c:UInt8)(w:World) :
  Calls Tryz.prog 159 #[.int .u8 (c.toNat:Int)] w fun e w'=>e=.returned (.bool (qX c))∧w=w':=by
 go_enter Tryz.func159,Tryz.ntmps159
 go_wp2_with (go_at_call 205;refine(Tryz.strings_IndexByte _ _ _).mono ?_;rintro e w' ⟨rfl,rfl⟩)
 go_ret
 exact⟨iX (Lib.contains_iff_indexByte RS c).symm,rfl⟩
def Pp(p:UInt8→Bool)(s:ByteArray):Bool:=s.data.toList.all p
theorem Vy(s:ByteArray)(k:Nat)(h:k<s.size):s.data.toList.take (k+1)=s.data.toList.take k++[s[k]]:=by
 rw[List.take_succ_eq_append_getElem (by simpa using h)];rfl
theorem XA(s:ByteArray)(k:Nat)(h:¬k<s.size):s.data.toList.take k=s.data.toList:=
 List.take_of_length_le (by have:s.data.toList.length=s.size:=rfl;omega)
theorem akb(s:ByteArray)(k:Nat)(h:k<s.size):s[k]∈s.data.toList:=by
 have:s[k]=s.data.toList[k]'(by simpa using h):=rfl;rw[this];exact List.getElem_mem _
end Go.Proofs.YtfphhabaeggenaaGreatDoor.Lx
namespace Go.Proofs.YtfphhabaeggenaaGreatDoor.Lx
set_option maxRecDepth 20000
open Go.RowKit
def keyList:List (List UInt8):=[[100,97,116,97],[99,108,97,115,115],[105,110,115,116,97,110,99,101],[102,114,111,109],[119,104,101,114,101],[101,110,100],[100,101,114,105,118,105,110,103],[100,101,102],[108,101,116],[114,101,99],[97,110,100],[105,110],[99,97,115,101],[111,102],[105,102],[116,104,101,110],[101,108,115,101]]
def markList:List (List UInt8):=[[40],[41],[44],[59],[92],[95],[61],[45,62],[124],[58]]
def Kg(s:ByteArray):Bool:=keyList.contains s.toList
def za(s:ByteArray):Bool:=markList.contains s.toList
set_option maxHeartbeats 1000000 in
theorem Fb(s:ByteArray)(w:World) :
  Calls Tryz.prog 160 #[.string s] w fun e w'=>e=.returned (.bool (za s))∧w=w':=by
 go_enter Tryz.func160,Tryz.ntmps160
 go_wp2
 all_goals go_ret
 all_goals exact⟨iX (by simp_all[za,markList]),rfl⟩
set_option maxHeartbeats 1000000 in
theorem adz(s:ByteArray)(w:World) :
  Calls Tryz.prog 136 #[.string s] w fun e w'=>e=.returned (.bool (Kg s))∧w=w':=by
 go_enter Tryz.func136,Tryz.ntmps136
 go_wp2
 all_goals go_ret
 all_goals exact⟨iX (by simp_all[Kg,keyList]),rfl⟩
def Gv(f:Nat)(p:UInt8→Bool):Prop:=
 (∀(args:Array Value) (w:World),Sem.run Tryz.prog (callFunc f args) w=.ok (.enter f args) w)∧
 ∀(c:UInt8) (w:World),Calls Tryz.prog f #[.int .u8 (c.toNat:Int)] w fun e w'=>e=.returned (.bool (p c))∧w=w'
theorem Wm:Gv 133 bS:=⟨fun _ _=>by kernel_rfl,QH⟩
theorem VA:Gv 159 qX:=⟨fun _ _=>by kernel_rfl,xf⟩
theorem aaZ:Gv 156 bJ:=⟨fun _ _=>by kernel_rfl,kT⟩
theorem abf:Gv 153 kL:=⟨fun _ _=>by kernel_rfl,WL⟩
def ZQ(p:UInt8→Bool)(s:ByteArray):Bool:=match s.data.toList with|[]=>false|c::_=>p c
theorem ZP(p:UInt8→Bool)(s:ByteArray)(h:0<s.size):ZQ p s=p s[0]:=by
 obtain⟨⟨l⟩⟩:=s;cases l with
 |nil=>exact absurd h (by decide)
 |cons c r=>rfl
def textOf(l:List UInt8):ByteArray:=⟨l.toArray⟩
end Go.Proofs.YtfphhabaeggenaaGreatDoor.Lx
namespace Go.Proofs.YtfphhabaeggenaaGreatDoor.Lx
set_option maxRecDepth 20000
open Go.RowKit
end Go.Proofs.YtfphhabaeggenaaGreatDoor.Lx
namespace Go.Proofs.YtfphhabaeggenaaGreatDoor.Lx
set_option maxRecDepth 20000
open Go.RowKit
theorem xK(w:World)(r:Option Nat):w.grownBy w r:=⟨rfl,rfl,rfl,Nat.le_refl _,fun _ _ _=>rfl⟩
theorem uZ{a b c:World}{r:Option Nat}(h:a.grownBy b r)(k:b.grownBy c r):a.grownBy c r:=
 ⟨k.os.trans h.os,k.tape.trans h.tape,k.output.trans h.output,Nat.le_trans h.size k.size,fun i hi hr=>(k.block i (Nat.lt_of_lt_of_le hi h.size) hr).trans (h.block i hi hr)⟩
theorem dH{a b:World}{r:Option Nat}(h:a.grownBy b r)(n:Nat):a.grownBy (b.drewN n) r:=⟨h.os,h.tape,h.output,h.size,h.block⟩
theorem wO{a b:World}{k:Nat}(h:a.grownBy b (some k))(o:Nat)(u:Value):a.grownBy (b.setCell ⟨k,o,none⟩ u) (some k):=
 uZ h ⟨rfl,rfl,rfl,by simp[World.setCell],fun i _ hr=>Below.heap_setCell _ _ _ _ (fun e=>hr (by rw[e]))⟩
def ug(w:World)(b:Nat)(s:ByteArray)(k:Nat)(v:Value):Prop:=w.heap[b]? = some (.cells #[.string s,.int .i64 (k:Int),v] 159 (0,0))
theorem ug.c0{w:World}{b k:Nat}{s:ByteArray}{v:Value}(h:ug w b s k v):w.cell? ⟨b,0,none⟩=some (.string s):=by simp[World.cell?,show w.heap[b]? = _ from h]
theorem ug.c1{w:World}{b k:Nat}{s:ByteArray}{v:Value}(h:ug w b s k v):w.cell? ⟨b,1,none⟩=some (.int .i64 (k:Int)):=by simp[World.cell?,show w.heap[b]? = _ from h]
theorem ug.c2{w:World}{b k:Nat}{s:ByteArray}{v:Value}(h:ug w b s k v):w.cell? ⟨b,2,none⟩=some v:=by simp[World.cell?,show w.heap[b]? = _ from h]
theorem ug.f{w:World}{b k:Nat}{s:ByteArray}{v:Value}(h:ug w b s k v)(o:Nat):w.frozen? ⟨b,o,none⟩=false:=by simp[World.frozen?,show w.heap[b]? = _ from h]
theorem ug.drewN{w:World}{b k:Nat}{s:ByteArray}{v:Value}(h:ug w b s k v)(n:Nat):ug (w.drewN n) b s k v:=h
theorem ug.lt{w:World}{b k:Nat}{s:ByteArray}{v:Value}(h:ug w b s k v):b<w.heap.size:=lt_of_block h
theorem ug.set1{w:World}{b k:Nat}{s:ByteArray}{v:Value}(h:ug w b s k v)(j:Nat):ug (w.setCell ⟨b,1,none⟩ (.int .i64 (j:Int))) b s j v:=by
 have hlt:=lt_of_block h;have h':w.heap[b]=.cells #[.string s,.int .i64 (k:Int),v] 159 (0,0):=by have:=h;unfold ug at this;simpa[Array.getElem?_eq_getElem hlt] using this
 show (w.heap.modify b _)[b]? = _;rw[Array.getElem?_eq_getElem (by simpa using hlt),Array.getElem_modify_self,h'];rfl
theorem ug.set2{w:World}{b k:Nat}{s:ByteArray}{v:Value}(h:ug w b s k v)(u:Value):ug (w.setCell ⟨b,2,none⟩ u) b s k u:=by
 have hlt:=lt_of_block h;have h':w.heap[b]=.cells #[.string s,.int .i64 (k:Int),v] 159 (0,0):=by have:=h;unfold ug at this;simpa[Array.getElem?_eq_getElem hlt] using this
 show (w.heap.modify b _)[b]? = _;rw[Array.getElem?_eq_getElem (by simpa using hlt),Array.getElem_modify_self,h'];rfl
theorem sw{P:Program}{f:FuncId}{args:Array Value}{w:World}{n:Nat}{v:Value}
  (h:Calls P f args (w.drewN n) fun e w'=>e=.returned v∧w.drewN n=w'):Calls P f args (w.drewN n) fun e w''=>e=.returned v∧∃m,w''=w.drewN m:=
 h.mono fun _ _ ⟨he,hm⟩=>⟨he,n,hm.symm⟩
def nO(p:UInt8→Bool)(s:ByteArray)(k:Nat):Nat:=k+((s.data.toList.drop k).takeWhile p).length
theorem tK(p:UInt8→Bool):∀(l:List UInt8) (n:Nat),n≤l.length→(∀i (h:i<l.length),i<n→p l[i]=true)→(∀h:n<l.length,p l[n]=false)→(l.takeWhile p).length=n
 |[],n,hn,_,_=>by simp at hn;simp[hn]
 |c::r,0,_,_,h=>by
  have:=h (by simp);simp at this;simp[this]
 |c::r,n+1,hn,ha,h=>by
  have h0:p c=true:=ha 0 (by simp) (by omega);have ih:=tK p r n (by simpa using hn) (fun i hi hin=>by have:=ha (i+1) (by simpa using hi) (by omega);simpa using this) (fun hlt=>by have:=h (by simpa using hlt);simpa using this);simp[h0,ih]
theorem Lu{p:UInt8→Bool}{s:ByteArray}{k j:Nat}(hkj:k≤j)(hj:j≤s.size)(ha:∀i (h:i<s.size),k≤i→i<j→p s[i]=true)(he:∀h:j<s.size,p s[j]=false):nO p s k=j:=by
 have hl:s.data.toList.length=s.size:=rfl;have:=tK p (s.data.toList.drop k) (j-k) (by simp only[List.length_drop];omega)
  (fun i hi hin=>by
   have hi':k+i<s.size:=by simp only[List.length_drop] at hi;omega
   have:=ha (k+i) hi' (by omega) (by omega);simp only[List.getElem_drop];exact this)
  (fun hlt=>by
   have hlt':j<s.size:=by simp only[List.length_drop] at hlt;omega
   have:=he hlt';have e:k+(j-k)=j:=by omega
   simp only[List.getElem_drop,e];exact this)
 unfold nO;omega
set_option maxHeartbeats 1000000 in
theorem yZ(f:Nat)(p:UInt8→Bool)(hf:Gv f p)(b k:Nat)(s:ByteArray)(v:Value)(w:World)(hb:ug w b s k v)(hk:k≤s.size)(hs:s.size≤1000000) :
  Calls Tryz.prog 152 #[.pointer (some ⟨b,0,none⟩),.func (.func f) #[] #[]] w fun e w'=>e=.returned (.string (s.extract k (nO p s k)))∧ug w' b s (nO p s k) v∧w.grownBy w' (some b):=by
 obtain⟨hcf,hf⟩:=hf;have HF:=Lib.hid hf;clear hf;have hc1:=hb.c1
 go_enter Tryz.func152,Tryz.ntmps152
 go_wp2_with fail
 go_loopg [] (s.size-k) (fun g wr=>∃j:Nat,k≤j∧j≤s.size∧s.size-j=g∧ug wr b s j v∧w.grownBy wr (some b)∧∀i (h:i<s.size),k≤i→i<j→p s[i]=true)
 case atStart=>exact⟨k,Nat.le_refl _,hk,rfl,hb,xK _ _,fun i _ h1 h2=>by omega⟩
 case round=>
  obtain⟨j,hkj,hj,hg,hbj,hgr,hall⟩:=hrel;have HG:=Lib.hid hg;have HA:=Lib.hid hall;clear hg hall hc1;have c0:=hbj.c0;have c1:=hbj.c1;by_cases hlt:j<s.size
  ·have hd:decide ((j:Int)<(s.size:Int))=true:=by simp;omega
   cases hi:p s[j]
   all_goals go_wp2_with fail
   all_goals go_quiet (exact sw (HF.out _ _))
   ·have HE:=Lib.hid (Lu hkj hj HA.out (fun _=>hi))
    have hb2:=hbj.drewN nq;have hg2:=dH hgr nq;clear c0 c1 hbj hgr;generalize wr.drewN nq=w2 at *;have c0:=hb2.c0;have c1:=hb2.c1
    go_wp2_with fail
    go_quiet (fail)
    go_wp2_with fail
    go_ret
    rw[HE.out];exact⟨rfl,hb2.drewN _,dH hg2 _⟩
   ·have hb2:=hbj.drewN nq
    have hg2:=dH hgr nq;clear c0 c1 hbj hgr;generalize wr.drewN nq=w2 at *;have c0:=hb2.c0;have c1:=hb2.c1;have f1:=hb2.f 1
    go_wp2_with fail
    go_roundg (s.size-(j+1))
    case measure=>have:=HG.out;omega
    case rel=>
     refine⟨j+1,by omega,by omega,rfl,hb2.set1 (j+1),wO hg2 _ _,?_⟩;intro i h1 h2 h3;by_cases e:i=j
     ·subst e;exact hi
     ·exact HA.out i h1 h2 (by omega)
  ·have hd:decide ((j:Int)<(s.size:Int))=false:=by simp;omega
   have HE:=Lib.hid (Lu (p:=p) hkj hj HA.out (fun h=>absurd h hlt))
   go_wp2_with fail
   go_quiet (fail)
   have hb2:=hbj.drewN nq;have hg2:=dH hgr nq;clear c0 c1 hbj hgr;generalize wr.drewN nq=w2 at *;have c0:=hb2.c0;have c1:=hb2.c1
   go_wp2_with fail
   go_quiet (fail)
   go_wp2_with fail
   go_ret
   rw[HE.out];exact⟨rfl,hb2.drewN _,dH hg2 _⟩
end Go.Proofs.YtfphhabaeggenaaGreatDoor.Lx
namespace Go.Proofs.YtfphhabaeggenaaGreatDoor.Lx
set_option maxRecDepth 20000
open Go.RowKit
set_option maxHeartbeats 1000000 in
theorem J6(b k:Nat)(s:ByteArray)(v:Value)(w:World)(hb:ug w b s k v)(hk:k≤s.size)(hs:s.size≤1000000) :
  Calls Tryz.prog 152 #[.pointer (some ⟨b,0,none⟩),.func (.func 154) #[.pointer (some ⟨b,0,none⟩)] #[]] w fun e w'=>e=.returned (.string (s.extract k (nO jV s k)))∧ug w' b s (nO jV s k) v∧w.grownBy w' (some b):=by
 have hcf:∀(args:Array Value) (w:World),Sem.run Tryz.prog (callFunc 41 args) w=.ok (.enter 41 args) w:=fun _ _=>by kernel_rfl
 have HF:=Lib.hid (Zi (.pointer (some ⟨b,0,none⟩)));have hc1:=hb.c1
 go_enter Tryz.func152,Tryz.ntmps152
 go_wp2_with fail
 go_loopg [] (s.size-k) (fun g wr=>∃j:Nat,k≤j∧j≤s.size∧s.size-j=g∧ug wr b s j v∧w.grownBy wr (some b)∧∀i (h:i<s.size),k≤i→i<j→jV s[i]=true)
 case atStart=>exact⟨k,Nat.le_refl _,hk,rfl,hb,xK _ _,fun i _ h1 h2=>by omega⟩
 case round=>
  obtain⟨j,hkj,hj,hg,hbj,hgr,hall⟩:=hrel;have HG:=Lib.hid hg;have HA:=Lib.hid hall;clear hg hall hc1;have c0:=hbj.c0;have c1:=hbj.c1;by_cases hlt:j<s.size
  ·have hd:decide ((j:Int)<(s.size:Int))=true:=by simp;omega
   cases hi:jV s[j]
   all_goals go_wp2_with fail
   all_goals go_quiet (exact sw (HF.out _ _))
   ·have HE:=Lib.hid (Lu hkj hj HA.out (fun _=>hi))
    have hb2:=hbj.drewN nq;have hg2:=dH hgr nq;clear c0 c1 hbj hgr;generalize wr.drewN nq=w2 at *;have c0:=hb2.c0;have c1:=hb2.c1
    go_wp2_with fail
    go_quiet (fail)
    go_wp2_with fail
    go_ret
    rw[HE.out];exact⟨rfl,hb2.drewN _,dH hg2 _⟩
   ·have hb2:=hbj.drewN nq
    have hg2:=dH hgr nq;clear c0 c1 hbj hgr;generalize wr.drewN nq=w2 at *;have c0:=hb2.c0;have c1:=hb2.c1;have f1:=hb2.f 1
    go_wp2_with fail
    go_roundg (s.size-(j+1))
    case measure=>have:=HG.out;omega
    case rel=>
     refine⟨j+1,by omega,by omega,rfl,hb2.set1 (j+1),wO hg2 _ _,?_⟩;intro i h1 h2 h3;by_cases e:i=j
     ·subst e;exact hi
     ·exact HA.out i h1 h2 (by omega)
  ·have hd:decide ((j:Int)<(s.size:Int))=false:=by simp;omega
   have HE:=Lib.hid (Lu (p:=jV) hkj hj HA.out (fun h=>absurd h hlt))
   go_wp2_with fail
   go_quiet (fail)
   have hb2:=hbj.drewN nq;have hg2:=dH hgr nq;clear c0 c1 hbj hgr;generalize wr.drewN nq=w2 at *;have c0:=hb2.c0;have c1:=hb2.c1
   go_wp2_with fail
   go_quiet (fail)
   go_wp2_with fail
   go_ret
   rw[HE.out];exact⟨rfl,hb2.drewN _,dH hg2 _⟩
theorem alR(p:UInt8→Bool)(s:ByteArray)(k:Nat):k≤nO p s k:=Nat.le_add_right _ _
theorem vD(p:UInt8→Bool)(s:ByteArray)(k:Nat)(hk:k≤s.size):nO p s k≤s.size:=by
 have h1:=(List.takeWhile_sublist p (l:=s.data.toList.drop k)).length_le;have hl:s.data.toList.length=s.size:=rfl;rw[List.length_drop] at h1;unfold nO;omega
theorem pJ(p:UInt8→Bool):∀l:List UInt8,l.drop (l.takeWhile p).length=l.dropWhile p
 |[]=>rfl
 |c::r=>by
  cases h:p c
  ·simp[h]
  ·simp[h,pJ p r]
theorem zW(p:UInt8→Bool)(s:ByteArray)(k:Nat):s.data.toList.drop (nO p s k)=(s.data.toList.drop k).dropWhile p:=by
 unfold nO;rw[←List.drop_drop,pJ]
theorem take_takeWhile(p:UInt8→Bool):∀l:List UInt8,l.take (l.takeWhile p).length=l.takeWhile p
 |[]=>rfl
 |c::r=>by
  cases h:p c
  ·simp[h]
  ·simp[h,take_takeWhile p r]
theorem Pq(p:UInt8→Bool)(s:ByteArray)(k:Nat):(s.extract k (nO p s k)).data.toList=(s.data.toList.drop k).takeWhile p:=by
 rw[Lib.extract_data];unfold nO;rw[Nat.add_sub_cancel_left,take_takeWhile]
def skipC:Bool→List UInt8→List UInt8
 |_,[]=>[]
 |true,c::r=>if c.toNat=10 then skipC false r else skipC true r
 |false,c::r=>if kL c=true then skipC false r else if c.toNat=35 then skipC true r else c::r
theorem BA:∀l:List UInt8,skipC false l=skipC false (l.dropWhile kL)
 |[]=>rfl
 |c::r=>by
  by_cases h:kL c=true
  ·rw[List.dropWhile_cons_of_pos h,←BA r];simp[skipC,h]
  ·rw[List.dropWhile_cons_of_neg h]
theorem D5:∀l:List UInt8,skipC true l=skipC false (l.dropWhile jV)
 |[]=>rfl
 |c::r=>by
  by_cases h:c.toNat=10
  ·have hl:¬jV c=true:=by simp[jV,h]
   have hb:kL c=true:=by simp[kL,h]
   rw[List.dropWhile_cons_of_neg hl];simp[skipC,h,hb]
  ·have hl:jV c=true:=by simp[jV,h]
   rw[List.dropWhile_cons_of_pos hl,←D5 r];simp[skipC,h]
theorem skipC_length:∀(b:Bool) (l:List UInt8),(skipC b l).length≤l.length
 |_,[]=>by simp[skipC]
 |true,c::r=>by
  have h1:=skipC_length false r;have h2:=skipC_length true r;simp only[skipC,List.length_cons];split<;>omega
 |false,c::r=>by
  have h1:=skipC_length false r;have h2:=skipC_length true r;simp only[skipC,List.length_cons];split
  ·omega
  ·split
   ·omega
   ·simp
def skipPos(s:ByteArray)(k:Nat):Nat:=s.size-(skipC false (s.data.toList.drop k)).length
theorem drop_at(s:ByteArray)(k:Nat)(h:k<s.size):s.data.toList.drop k=s[k]::s.data.toList.drop (k+1):=by
 rw[List.drop_eq_getElem_cons (by simpa using h)];rfl
theorem Mj{s:ByteArray}{k j:Nat}(hj:j≤s.size)(he:skipC false (s.data.toList.drop k)=skipC false (s.data.toList.drop j))(hnb:∀h:j<s.size,kL s[j]=false)(hh:∀h:j<s.size,s[j].toNat≠35):skipPos s k=j:=by
 unfold skipPos;rw[he];have hl:s.data.toList.length=s.size:=rfl;by_cases h:j<s.size
 ·rw[drop_at s j h]
  have h1:=hnb h;have h2:=hh h;simp only[skipC,h1,h2,if_false,Bool.false_eq_true,List.length_cons,List.length_drop];omega
 ·rw[List.drop_eq_nil_of_le (by omega)]
  simp only[skipC,List.length_nil];omega
theorem abC{p:UInt8→Bool}{s:ByteArray}{k:Nat}(h:nO p s k<s.size):p s[nO p s k]=false:=by
 have e:=zW p s k;rw[drop_at s _ h] at e;cases hp:p s[nO p s k]
 ·rfl
 ·exfalso
  have:∀l:List UInt8,∀c r,c::r=l.dropWhile p→p c=true→False:=by
   intro l
   induction l with
   |nil=>intro c r h;simp at h
   |cons x y ih=>
    intro c r h hc;by_cases hx:p x=true
    ·rw[List.dropWhile_cons_of_pos hx] at h;exact ih c r h hc
    ·rw[List.dropWhile_cons_of_neg hx] at h
     cases h;exact hx hc
  exact this _ _ _ e hp
set_option maxHeartbeats 1000000 in
theorem XL(b k:Nat)(s:ByteArray)(v:Value)(w:World)(hb:ug w b s k v)(hk:k≤s.size)(hs:s.size≤1000000) :
  Calls Tryz.prog 93 #[.pointer (some ⟨b,0,none⟩)] w fun e w'=>e=.returned (.tuple #[])∧ug w' b s (skipPos s k) v∧w.grownBy w' (some b):=by
 go_enter Tryz.func93,Tryz.ntmps93
 go_wp2_with fail
 go_loopg [] (s.size-k) (fun g wr=>∃j:Nat,j≤s.size∧s.size-j=g∧ug wr b s j v∧w.grownBy wr (some b)∧skipC false (s.data.toList.drop k)=skipC false (s.data.toList.drop j))
 case atStart=>exact⟨k,hk,rfl,hb,xK _ _,rfl⟩
 case round=>
  obtain⟨j,hj,hg,hbj,hgr,hsk⟩:=hrel;have HG:=Lib.hid hg;have HS:=Lib.hid hsk;clear hg hsk
  go_wp2_with fail
  refine(yZ 153 kL abf b j s v _ hbj hj hs).mono ?_;rintro e w1 ⟨rfl,hb1,hg1⟩;have hge:=alR kL s j;have hle:=vD kL s j hj;have hst:=abC (p:=kL) (s:=s) (k:=j);have hdr:=zW kL s j;generalize nO kL s j=j1 at *;have HST:=Lib.hid hst;have HS1:Hid (skipC false (s.data.toList.drop k)=skipC false (s.data.toList.drop j1)):=by
   rw[hdr];exact HS.out.trans (BA _)
  clear hst hdr HS;have hg2:=uZ hgr hg1;clear hgr hg1 hbj hb;have c0:=hb1.c0;have c1:=hb1.c1;by_cases hlt:j1<s.size
  ·have hd:((j1:Int)==(s.size:Int))=false:=by simp;omega
   by_cases h35:s[j1].toNat=35
   ·have hd2:((s[j1].toNat:Int) != 35)=false:=by simp[h35]
    have H35:=Lib.hid h35;clear h35
    go_wp2_with fail
    go_quiet (fail)
    have hb2:=hb1.drewN nq;have hg3:=dH hg2 nq;clear c0 c1 hb1 hg2;generalize w1.drewN nq=w2 at *
    go_wp2_with fail
    refine(J6 b j1 s v _ hb2 hle hs).mono ?_;rintro e w3 ⟨rfl,hb3,hg4⟩;have hge2:j1<nO jV s j1:=by
     unfold nO;rw[drop_at s j1 hlt];have:jV s[j1]=true:=by simp[jV,H35.out]
     simp[this]
    have hle2:=vD jV s j1 hle;have HS2:Hid (skipC false (s.data.toList.drop k)=skipC false (s.data.toList.drop (nO jV s j1))):=by
     show skipC false (s.data.toList.drop k)=skipC false (s.data.toList.drop (nO jV s j1));rw[HS1.out,zW,drop_at s j1 hlt];have h1:=HST.out hlt;have h2:=H35.out;have h3:jV s[j1]=true:=by simp[jV,h2]
     rw[List.dropWhile_cons_of_pos h3,←D5];simp[skipC,h1,h2]
    generalize nO jV s j1=j2 at *
    go_wp2_with fail
    go_roundg (s.size-j2)
    case measure=>have:=HG.out;omega
    case rel=>exact⟨j2,hle2,rfl,hb3,uZ hg3 hg4,HS2.out⟩
   ·have hd2:((s[j1].toNat:Int) != 35)=true:=by simp;omega
    have HE:=Lib.hid (Mj hle HS1.out HST.out (fun _=>h35));clear h35
    go_wp2_with fail
    go_quiet (fail)
    go_wp2_with fail
    refine bodyPost_ret (results_none rfl _ _ _) rfl ?_;rw[HE.out];exact⟨rfl,hb1.drewN _,dH hg2 _⟩
  ·have hd:((j1:Int)==(s.size:Int))=true:=by simp;omega
   have HE:=Lib.hid (Mj hle HS1.out HST.out (fun h=>absurd h hlt))
   go_wp2_with fail
   go_quiet (fail)
   go_wp2_with fail
   refine bodyPost_ret (results_none rfl _ _ _) rfl ?_;rw[HE.out];exact⟨rfl,hb1.drewN _,dH hg2 _⟩
end Go.Proofs.YtfphhabaeggenaaGreatDoor.Lx
namespace Go.Proofs.YtfphhabaeggenaaGreatDoor.Lx
set_option maxRecDepth 20000
open Go.RowKit
structure Tok where
 kind:Int
 text:ByteArray
 n:Int
 at_:Nat
def Tok.cells(t:Tok):List Value:=[.int .i64 t.kind,.string t.text,.int .i64 t.n,.int .i64 (t.at_:Int)]
def tokCells(ts:List Tok):List Value:=ts.flatMap Tok.cells
theorem GI(ts:List Tok)(t:Tok):tokCells (ts++[t])=tokCells ts++t.cells:=by simp[tokCells]
def Sc(w:World)(b:Nat)(s:ByteArray)(k:Nat)(ts:List Tok):Prop:=∃v,ug w b s k v∧w.ownsRow (b+1) 106 4 v ts.length (tokCells ts)
theorem Sc.moved{w w':World}{b k':Nat}{s:ByteArray}{ts:List Tok}{v:Value}(ho:w.ownsRow (b+1) 106 4 v ts.length (tokCells ts))(hb':ug w' b s k' v)(hg:w.grownBy w' (some b)):Sc w' b s k' ts:=by
 refine⟨v,hb',ho.kept hg ?_⟩;cases hv:v.ownBlock with
 |none=>exact .inl rfl
 |some g=>exact .inr (fun e=>by have:=(ho.lt g hv).1;cases e;omega)
theorem lN{w w':World}{b:Nat}(hg:w.grownBy w' (some b))(hb:b≤w.heap.size):Below b w w':=
 (Below.refl b w).grown hg hb (fun k hk=>by cases hk;exact Nat.le_refl _)
theorem akt:(Tryz.prog.info? 106).map (fun i=>(i.zero,i.size,i.bytes))=some (some (.agg #[.int .i64 0,.string ⟨#[]⟩,.int .i64 0,.int .i64 0]),4,40):=by kernel_rfl
theorem oN(w:World)(xs:List Value)(t:TypeId):∀(j:Nat) (u:Value),xs[j]? = some u→(w.alloc (.cells xs.toArray t)).cell? ((⟨w.heap.size,0,none⟩:Addr).add j)=some u:=by
 intro j u h;have hadd:(⟨w.heap.size,0,none⟩:Addr).add j=⟨w.heap.size,j,none⟩:=by unfold Addr.add;split<;>simp_all
 rw[hadd,cell_of_row _ w.heap.size j xs.toArray t (0,0) (heap_alloc_new w _)];simpa using h
theorem ab2(t:Tok):∀u,u∈t.cells→u.oneCell'=true:=by
 intro u h;simp[Tok.cells] at h;rcases h with rfl|rfl|rfl|rfl<;>rfl
theorem EH{w:World}{base:Nat}{e:TypeId}{size:Nat}{v:Value}{n:Nat}{xs:List Value}(h:w.ownsRow base e size v (n+1) xs):∃g cap,v=.slice (some ⟨g,0,none⟩) (n+1) cap:=by
 rcases h.2 with⟨_,h0⟩|⟨g,cap,_,hv,_⟩
 ·omega
 ·exact⟨g,cap,hv⟩
theorem ug.later{w w1:World}{b k:Nat}{s:ByteArray}{v:Value}(h:ug w b s k v)(o:Obj){r:Option Nat}(hg:(w.alloc o).grownBy w1 r)(hr:r≠some b):ug w1 b s k v:=by
 unfold ug at *;rw[hg.block b (by have:=lt_of_block h;simp;omega) (fun e=>hr e.symm),Below.heap_alloc w o b (lt_of_block h)];exact h
theorem own_ne{w:World}{b:Nat}{v:Value}{n:Nat}{xs:List Value}(ho:w.ownsRow (b+1) 106 4 v n xs):v.ownBlock≠some b:=by
 intro e;have:=(ho.lt b e).1;omega
set_option maxHeartbeats 400000 in
theorem YD(b:Nat)(kind n:Int)(text:ByteArray)(at_:Int)(w:World)(h3:kind≠3)(h4:kind≠4)(hl:40<(text.size:Int)) :
  Calls Tryz.prog 95 #[.pointer (some ⟨b,0,none⟩),.int .i64 kind,.string text,.int .i64 n,.int .i64 at_] w fun e w'=>e=.returned (.int .i64 104)∧w=w':=by
 have h3':(kind != 3)=true:=by simp[h3]
 have h4':(kind != 4)=true:=by simp[h4]
 go_enter Tryz.func95,Tryz.ntmps95
 go_wp2
 go_ret
 exact⟨rfl,rfl⟩
set_option maxHeartbeats 1000000 in
theorem TU(b:Nat)(s:ByteArray)(k:Nat)(ts:List Tok)(kind n:Int)(text:ByteArray)(at_:Nat)(w:World)(hsc:Sc w b s k ts)(hts:ts.length≤1000000)
  (h:kind=3∨kind=4∨(text.size:Int)≤40) :
  Calls Tryz.prog 95 #[.pointer (some ⟨b,0,none⟩),.int .i64 kind,.string text,.int .i64 n,.int .i64 (at_:Int)] w fun e w'=>e=.returned (.int .i64 0)∧Sc w' b s k (ts++[⟨kind,text,n,at_⟩])∧Below b w w':=by
 obtain⟨v,hb,ho⟩:=hsc;obtain⟨i0,hi,hz0,hz1,hz2⟩:=info_parts akt;have c2:=hb.c2;have hlt:=hb.lt;have hcase:(kind != 3)=false∨((kind != 3)=true∧(kind != 4)=false)∨((kind != 3)=true∧(kind != 4)=true∧(text.size:Int)≤40):=by
  simp only[bne_iff_ne,bne_eq_false_iff_eq];omega
 clear h;rcases hcase with h3|⟨h3,h4⟩|⟨h3,h4,h40⟩
 all_goals
  go_enter Tryz.func95,Tryz.ntmps95
  go_wp2_with (at_builtin;refine wpList_append_own _ rfl _ _ 102 rfl (b+1) 106 i0 (.agg #[.int .i64 0,.string ⟨#[]⟩,.int .i64 0,.int .i64 0]) 4 40 Tryz.underlying102 hi hz0 hz1 hz2 rfl (by decide) v ts.length (tokCells ts) rfl (ho.alloc _) ⟨w.heap.size,0,none⟩ 1 1 (Tok.cells ⟨kind,text,n,at_⟩) rfl rfl ?_ ?_ ?_ ?_ ?_ ?_)
  ·exact oN w (Tok.cells ⟨kind,text,n,at_⟩) 106
  ·exact ab2 _
  ·unfold maxLen;omega
  ·omega
  ·simp;omega
  ·intro v' w1 ho' hgr _
   have hne:=own_ne ho;have hb1:=hb.later _ hgr hne;have hbl:Below b w w1:=((Below.refl b w).alloc (by omega) _).grown hgr (by simp;omega) (fun g hg=>by have:=(ho.lt g hg).1;omega);obtain⟨g,cap,hv⟩:=EH ho';rw[hv] at ho' ⊢;have f2:=hb1.f 2;have c2':=hb1.c2;have HO:=Lib.hid ho';have HG:=Lib.hid hgr;clear c2 ho hb ho' hgr hv
   go_wp2
   go_ret
   refine⟨rfl,⟨_,hb1.set2 _,?_⟩,hbl.setCell (Nat.le_refl _) _⟩;rw[GI,List.length_append];exact ownsRow_setCell_below HO.out (by simp) _
end Go.Proofs.YtfphhabaeggenaaGreatDoor.Lx
namespace Go.Proofs.YtfphhabaeggenaaGreatDoor.Lx
set_option maxRecDepth 20000
open Go.RowKit
def Gu(w:World)(b:Nat)(s:ByteArray)(ts:List Tok)(r:Except Int (Tok×Nat))(e:Ending)(w':World):Prop:=
 match r with
 |.ok (t,j)=>e=.returned (.int .i64 0)∧Sc w' b s j (ts++[t])∧Below b w w'
 |.error c=>e=.returned (.int .i64 c)∧Below b w w'
theorem Gu.after{w w1:World}{b:Nat}{s:ByteArray}{ts:List Tok}{r:Except Int (Tok×Nat)}{e:Ending}{w':World}(hb:Below b w w1)(h:Gu w1 b s ts r e w'):Gu w b s ts r e w':=by
 unfold Gu at *;split at h
 ·exact⟨h.1,h.2.1,hb.trans h.2.2⟩
 ·exact⟨h.1,hb.trans h.2⟩
theorem Gu.is{w:World}{b:Nat}{s:ByteArray}{ts:List Tok}{r:Except Int (Tok×Nat)}{e:Ending}{w':World}(h:Gu w b s ts r e w'):∃c,e=.returned (.int .i64 c):=by
 unfold Gu at h;split at h
 ·exact⟨_,h.1⟩
 ·exact⟨_,h.1⟩
def sD(kind:Int)(x:ByteArray)(n:Int)(at_:Nat)(k:Nat):Except Int (Tok×Nat):=
 if kind≠3∧kind≠4∧40<(x.size:Int) then .error 104 else .ok (⟨kind,x,n,at_⟩,k)
theorem yN(b:Nat)(s:ByteArray)(k:Nat)(ts:List Tok)(kind n:Int)(x:ByteArray)(at_:Nat)(w:World)(hsc:Sc w b s k ts)(hts:ts.length≤1000000) :
  Calls Tryz.prog 95 #[.pointer (some ⟨b,0,none⟩),.int .i64 kind,.string x,.int .i64 n,.int .i64 (at_:Int)] w (Gu w b s ts (sD kind x n at_ k)):=by
 by_cases h:kind≠3∧kind≠4∧40<(x.size:Int)
 ·refine(YD b kind n x at_ w h.1 h.2.1 h.2.2).mono ?_
  rintro e w' ⟨rfl,rfl⟩;unfold Gu sD;rw[if_pos h];exact⟨rfl,Below.refl _ _⟩
 ·refine(TU b s k ts kind n x at_ w hsc hts (by omega)).mono ?_
  rintro e w' ⟨rfl,h1,h2⟩;unfold Gu sD;rw[if_neg h];exact⟨rfl,h1,h2⟩
def zf(x:ByteArray):Int:=if Kg x=true then 6 else if(x.toList==[95])=true then 7 else if ZQ RN x=true then 2 else 1
def Bq(s:ByteArray)(k:Nat):Except Int (Tok×Nat):=sD (zf (s.extract k (nO bS s k))) (s.extract k (nO bS s k)) 0 k (nO bS s k)
theorem size_extract(s:ByteArray)(k j:Nat)(hj:j≤s.size):(s.extract k j).size=j-k:=by
 simp[ByteArray.size_extract];omega
set_option maxHeartbeats 1000000 in
theorem LD(b k:Nat)(s:ByteArray)(ts:List Tok)(w:World)(hsc:Sc w b s k ts)(hk:k<s.size)(hs:s.size≤1000000)(hts:ts.length≤1000000)(hin:bS s[k]=true) :
  Calls Tryz.prog 155 #[.pointer (some ⟨b,0,none⟩)] w (Gu w b s ts (Bq s k)):=by
 obtain⟨v,hb,ho⟩:=hsc;have c1:=hb.c1
 go_enter Tryz.func155,Tryz.ntmps155
 go_wp2_with fail
 refine(yZ 133 bS Wm b k s v _ hb (by omega) hs).mono ?_;rintro e w1 ⟨rfl,hb1,hg1⟩;have hsc1:=Sc.moved ho hb1 hg1;have hbl:=lN hg1 (Nat.le_of_lt hb.lt);have hlt:k<nO bS s k:=by
  unfold nO;rw[drop_at s k hk];simp[hin]
 have hle:=vD bS s k (by omega);have HR:Hid (Bq s k=sD (zf (s.extract k (nO bS s k))) (s.extract k (nO bS s k)) 0 k (nO bS s k)):=rfl;have hsz:=size_extract s k (nO bS s k) hle;have hx0:0<(s.extract k (nO bS s k)).size:=by omega
 clear hsz hb1 hg1 ho hb c1;generalize s.extract k (nO bS s k)=x at *;generalize nO bS s k=j at *;have HH:=Lib.hid (ZP RN x hx0);have hkind:(Kg x=true∧zf x=6)∨(Kg x=false∧(x.toList==[95])=true∧zf x=7)∨(Kg x=false∧(x.toList==[95])=false∧RN x[0]=true∧zf x=2)∨(Kg x=false∧(x.toList==[95])=false∧RN x[0]=false∧zf x=1):=by
  unfold zf;rw[HH.out];cases Kg x<;>cases(x.toList==[95])<;>cases RN x[0]<;>simp
 clear HH;rcases hkind with⟨h1,h4⟩|⟨h1,h2,h4⟩|⟨h1,h2,h3,h4⟩|⟨h1,h2,h3,h4⟩
 all_goals
  have HK:=Lib.hid h4;clear h4
  go_wp2_with (first|(go_at_call 136;refine(adz _ _).mono ?_;rintro e w' ⟨rfl,rfl⟩)|(go_at_call 134;refine(rU _ _).mono ?_;rintro e w' ⟨rfl,rfl⟩))
  refine(yN b s j ts _ _ x k _ hsc1 hts).mono ?_;rintro e w2 hgot;obtain⟨c,rfl⟩:=hgot.is;have HGOT:=Lib.hid hgot;clear hgot
  go_wp2_with fail
  go_ret
  rw[HR.out,HK.out];exact Gu.after hbl HGOT.out
end Go.Proofs.YtfphhabaeggenaaGreatDoor.Lx
namespace Go.Proofs.YtfphhabaeggenaaGreatDoor.Lx
set_option maxRecDepth 20000
open Go.RowKit
def Bv(a:Int×Bool)(c:UInt8):Int×Bool:=if a.2=true then a else(IntKind.u64.wrap (IntKind.u64.wrap (10*a.1)+((c.toNat:Int)-48)),decide (4611686018427387904<IntKind.u64.wrap (IntKind.u64.wrap (10*a.1)+((c.toNat:Int)-48))))
theorem Xh(n:Int):0≤IntKind.u64.wrap n∧IntKind.u64.wrap n<18446744073709551616:=by
 simp[IntKind.wrap,IntKind.signed,IntKind.bits];omega
def lI(l:List UInt8):Int×Bool:=l.foldl Bv (0,false)
theorem OE(l:List UInt8):0≤(lI l).1∧(lI l).1<18446744073709551616:=by
 unfold lI;have:∀(l:List UInt8) (a:Int×Bool),0≤a.1∧a.1<18446744073709551616→0≤(l.foldl Bv a).1∧(l.foldl Bv a).1<18446744073709551616:=by
  intro l
  induction l with
  |nil=>intro a h;exact h
  |cons c r ih=>
   intro a h;apply ih;unfold Bv;split
   ·exact h
   ·exact Xh _
 exact this l (0,false) (by simp)
theorem QO(s:ByteArray)(k:Nat)(h:k<s.size):lI (s.data.toList.take (k+1))=Bv (lI (s.data.toList.take k)) s[k]:=by
 unfold lI;rw[Vy s k h,List.foldl_append];rfl
theorem RA{p:UInt8→Bool}{s:ByteArray}(h:Pp p s=true)(k:Nat)(hk:k<s.size):p s[k]=true:=by
 unfold Pp at h;rw[List.all_eq_true] at h;exact h _ (akb s k hk)
set_option maxHeartbeats 1000000 in
theorem F3(s:ByteArray)(w:World)(h0:0<s.size)(hs:s.size≤1000000)(hz:s.size=1∨((s[0].toNat:Int)==48)=false)(hd:Pp bJ s=true) :
  Calls Tryz.prog 226 #[.string s] w fun e w'=>e=.returned (.tuple #[.int .u64 (lI s.data.toList).1,.bool (lI s.data.toList).2,.bool true])∧w=w':=by
 have he:s.toList.isEmpty=false:=by
  rw[ByteArray.toList_eq];obtain⟨⟨l⟩⟩:=s;cases l with
  |nil=>exact absurd h0 (by decide)
  |cons _ _=>rfl
 have hone:decide ((1:Int)<(s.size:Int))=false∨(decide ((1:Int)<(s.size:Int))=true∧((s[0].toNat:Int)==48)=false):=by
  rcases hz with h|h
  ·left;simp;omega
  ·by_cases h1:s.size=1
   ·left;simp;omega
   ·right;exact⟨by simp;omega,h⟩
 clear hz;rcases hone with h1|⟨h1,h2⟩
 all_goals
  go_enter Tryz.func226,Tryz.ntmps226
  go_wp2_with fail
  go_loop [2,3,4,5,20] (fun n g o _ i=>∃k:Nat,k≤s.size∧i=.int .i64 k∧o=.bool false∧n=.int .u64 (lI (s.data.toList.take k)).1∧g=.bool (lI (s.data.toList.take k)).2) (fun _ _ _ _ i=>s.size-(intOf i).toNat)
  case atStart=>exact⟨0,Nat.zero_le _,rfl,rfl,rfl,rfl⟩
  case round=>
   obtain⟨k,hk,rfl,rfl,rfl,rfl⟩:=hrel;by_cases hlt:k<s.size
   ·have hdk:=RA hd k hlt
    have hd1:48≤(s[k].toNat:Int)∧(s[k].toNat:Int)≤57:=by
     simp[bJ] at hdk;omega
    have HS:=Lib.hid (QO s k hlt);have hbd:=OE (s.data.toList.take k);generalize lI (s.data.toList.take k)=a at *;obtain⟨n,g⟩:=a;obtain⟨hlo,hhi⟩:=hd1;obtain⟨hb0,hb1⟩:=hbd;simp only at hb0 hb1;clear hdk hd;cases g
    all_goals go_wp2_with fail
    all_goals
     go_round
     case rel=>exact⟨k+1,by omega,by go_num,rfl,by rw[HS.out];rfl,by rw[HS.out];rfl⟩
     case measure=>simp[intOf];omega
   ·go_wp2_with fail
    go_ret3
    rw[XA s k hlt];exact⟨rfl,rfl⟩
end Go.Proofs.YtfphhabaeggenaaGreatDoor.Lx
namespace Go.Proofs.YtfphhabaeggenaaGreatDoor.Lx
set_option maxRecDepth 20000
open Go.RowKit
def uM(l:List UInt8):Option Int:=if(lI l).2=true∨(lI l).1=4611686018427387904 then none else some (lI l).1
theorem OD(l:List UInt8)(h:(lI l).2=false):(lI l).1≤4611686018427387904:=by
 unfold lI at *;have:∀(l:List UInt8) (a:Int×Bool),(a.2=false→a.1≤4611686018427387904)→(l.foldl Bv a).2=false→(l.foldl Bv a).1≤4611686018427387904:=by
  intro l
  induction l with
  |nil=>intro a h;exact h
  |cons c r ih=>
   intro a h;apply ih;unfold Bv;split
   ·exact h
   ·intro h1
    simpa using h1
 exact this l (0,false) (by simp) h
set_option maxHeartbeats 1000000 in
theorem VW(s:ByteArray)(w:World)(n:Int)(h0:0<s.size)(hs:s.size≤1000000)(hz:s.size=1∨((s[0].toNat:Int)==48)=false)(hd:Pp bJ s=true)(hp:uM s.data.toList=some n) :
  Calls Tryz.prog 204 #[.string s] w fun e w'=>e=.returned (.tuple #[.int .i64 n,.int .i64 0])∧w=w':=by
 have hd0:=RA hd 0 h0;have hneg:((s[0].toNat:Int)==45)=false:=by
  simp[bJ] at hd0;simp;omega
 have hlen:decide ((0:Int)<(s.size:Int))=true:=by simp;omega
 have hbd:=OE s.data.toList;have hsm:=OD s.data.toList;have HD:=Lib.hid (F3 s w h0 hs hz hd);clear hd0 hz hd;unfold uM at hp;generalize lI s.data.toList=a at *;obtain⟨m,g⟩:=a;cases g with
 |true=>simp at hp
 |false=>
  by_cases hm:m=4611686018427387904
  ·simp[hm] at hp
  ·obtain rfl:m=n:=by simpa[hm] using hp
   have hm':(m==4611686018427387904)=false:=by simp[hm]
   have hlt:m<4611686018427387904:=by have:=hsm rfl;simp only at this;omega
   obtain⟨hb0,hb1⟩:=hbd;simp only at hb0 hb1;clear hp hm hsm hb1
   go_enter Tryz.func204,Tryz.ntmps204
   go_wp2_with (go_at_call 226;refine HD.out.mono ?_;rintro e w' ⟨rfl,rfl⟩)
   go_ret2
   exact⟨rfl,rfl⟩
set_option maxHeartbeats 1000000 in
theorem YJ(s:ByteArray)(w:World)(h0:0<s.size)(hs:s.size≤1000000)(hz:s.size=1∨((s[0].toNat:Int)==48)=false)(hd:Pp bJ s=true)(hp:uM s.data.toList=none) :
  Calls Tryz.prog 204 #[.string s] w fun e w'=>e=.returned (.tuple #[.int .i64 0,.int .i64 3])∧w=w':=by
 have hd0:=RA hd 0 h0;have hneg:((s[0].toNat:Int)==45)=false:=by
  simp[bJ] at hd0;simp;omega
 have hlen:decide ((0:Int)<(s.size:Int))=true:=by simp;omega
 have HD:=Lib.hid (F3 s w h0 hs hz hd);clear hd0 hz hd;unfold uM at hp;generalize lI s.data.toList=a at *;obtain⟨m,g⟩:=a;have hcase:g=true∨(g=false∧(m==4611686018427387904)=true):=by
  cases g
  ·right;simpa using hp
  ·left;rfl
 clear hp;rcases hcase with rfl|⟨rfl,hm⟩
 all_goals
  go_enter Tryz.func204,Tryz.ntmps204
  go_wp2_with (go_at_call 226;refine HD.out.mono ?_;rintro e w' ⟨rfl,rfl⟩)
  go_ret2
  exact⟨rfl,rfl⟩
def fF(l:List UInt8):List UInt8:=if Lib.trimLeftB l 48=[] then [48] else Lib.trimLeftB l 48
def numOf(l:List UInt8)(k j:Nat):Except Int (Tok×Nat):=
 match uM l with
 |none=>.error 102
 |some n=>sD 3 (textOf l) n k j
def Nv(s:ByteArray)(k:Nat):Except Int (Tok×Nat):=numOf (fF ((s.data.toList.drop k).takeWhile bJ)) k (nO bJ s k)
theorem Nu(l:List UInt8)(h:l.all bJ=true):(fF l).all bJ=true:=by
 unfold fF;split
 ·decide
 ·rw[List.all_eq_true] at *
  intro x hx;exact h x ((List.dropWhile_sublist _).mem hx)
theorem Qx(l:List UInt8):fF l≠[]:=by
 unfold fF;split
 ·simp
 ·assumption
theorem JX(l:List UInt8)(c:UInt8)(r:List UInt8)(h:fF l=c::r):r=[]∨c≠48:=by
 unfold fF at h;split at h
 ·simp at h;exact .inl h.2
 ·right
  unfold Lib.trimLeftB at h;intro e;subst e;have:∀l:List UInt8,∀r,l.dropWhile (· == 48)=48::r→False:=by
   intro l
   induction l with
   |nil=>intro r h;simp at h
   |cons x y ih=>
    intro r h;by_cases hx:x=48
    ·rw[List.dropWhile_cons_of_pos (by simp[hx])] at h;exact ih r h
    ·rw[List.dropWhile_cons_of_neg (by simp[hx])] at h
     cases h;exact hx rfl
  exact this _ _ h
theorem Ns(l:List UInt8):(fF l).length≤l.length+1:=by
 unfold fF;split
 ·simp
 ·have:=(List.dropWhile_sublist (· == (48:UInt8)) (l:=l)).length_le
  unfold Lib.trimLeftB;omega
theorem textOf_size(l:List UInt8):(textOf l).size=l.length:=by simp[textOf,ByteArray.size]
theorem PU(p:UInt8→Bool)(l:List UInt8):Pp p (textOf l)=l.all p:=by simp[textOf,Pp]
theorem LQ(l:List UInt8):(textOf l).data.toList=l:=rfl
theorem wJ(l:List UInt8):(textOf l).toList=l:=by rw[ByteArray.toList_eq];rfl
theorem Zd(p:UInt8→Bool):∀(l:List UInt8) (x:UInt8),x∈l.takeWhile p→p x=true
 |[],x,h=>by simp at h
 |c::r,x,h=>by
  by_cases hc:p c=true
  ·rw[List.takeWhile_cons_of_pos hc] at h
   rcases List.mem_cons.1 h with rfl|h
   ·exact hc
   ·exact Zd p r x h
  ·rw[List.takeWhile_cons_of_neg hc] at h
   cases h
theorem GX{l:List UInt8}(h:(Lib.trimLeftB l 48).isEmpty=true):(ByteArray.mk #[48])=textOf (fF l):=by
 have:Lib.trimLeftB l 48=[]:=by simpa using h
 unfold fF;rw[if_pos this];rfl
theorem JY{l:List UInt8}(h:(Lib.trimLeftB l 48).isEmpty=false):(ByteArray.mk (Lib.trimLeftB l 48).toArray)=textOf (fF l):=by
 have:¬Lib.trimLeftB l 48=[]:=by simpa using h
 unfold fF;rw[if_neg this];rfl
set_option maxHeartbeats 1000000 in
theorem Qw(b k:Nat)(s:ByteArray)(ts:List Tok)(w:World)(hsc:Sc w b s k ts)(hk:k<s.size)(hs:s.size≤100000)(hts:ts.length≤1000000) :
  Calls Tryz.prog 157 #[.pointer (some ⟨b,0,none⟩)] w (Gu w b s ts (Nv s k)):=by
 obtain⟨v,hb,ho⟩:=hsc;have c1:=hb.c1
 go_enter Tryz.func157,Tryz.ntmps157
 go_wp2_with fail
 refine(yZ 156 bJ aaZ b k s v _ hb (by omega) (by omega)).mono ?_;rintro e w1 ⟨rfl,hb1,hg1⟩;have hsc1:=Sc.moved ho hb1 hg1;have hbl:=lN hg1 (Nat.le_of_lt hb.lt);have hle:=vD bJ s k (by omega);have hsz:=size_extract s k (nO bJ s k) hle;have htx:=Pq bJ s k;have hall:((s.data.toList.drop k).takeWhile bJ).all bJ=true:=by
  rw[List.all_eq_true];intro x hx;exact Zd _ _ _ hx
 have hlen:(fF ((s.data.toList.drop k).takeWhile bJ)).length≤1000000:=by
  have h1:=Ns ((s.data.toList.drop k).takeWhile bJ);have h2:((s.data.toList.drop k).takeWhile bJ).length≤s.size:=by
   have:=(List.takeWhile_sublist bJ (l:=s.data.toList.drop k)).length_le;have hl:s.data.toList.length=s.size:=rfl;rw[List.length_drop] at this;omega
  omega
 have HR:Hid (Nv s k=numOf (fF ((s.data.toList.drop k).takeWhile bJ)) k (nO bJ s k)):=rfl;rw[←htx] at hall hlen HR;clear hsz hb1 hg1 ho hb c1 htx;generalize s.extract k (nO bJ s k)=x at *;generalize nO bJ s k=j at *
 go_wp2_with fail
 refine(Tryz.strings_TrimLeft_one _ 48 (by decide) _).mono ?_;rintro e w' ⟨rfl,rfl⟩
 go_wp2_with fail
 all_goals
  first|rw[GX (by assumption)]|rw[JY (by assumption)]
  have hA:=Nu _ hall;have hN:=Qx x.data.toList;have hH:=JX x.data.toList;generalize fF x.data.toList=y at *;have h0:0<(textOf y).size:=by rw[textOf_size];cases y with|nil=>exact absurd rfl hN|cons _ _=>simp
  have hz:(textOf y).size=1∨(((textOf y)[0].toNat:Int)==48)=false:=by
   cases y with
   |nil=>exact absurd rfl hN
   |cons c r=>
    rcases hH c r rfl with rfl|h
    ·left;rfl
    ·right
     show ((c.toNat:Int)==48)=false;simp;intro e;exact h (UInt8.toNat_inj.1 (by have h48:(48:UInt8).toNat=48:=rfl;omega))
  have hd:Pp bJ (textOf y)=true:=by rw[PU];exact hA
  have hsz:(textOf y).size≤1000000:=by rw[textOf_size];exact hlen
  clear hall hA hN hH hlen;cases hp:uM y with
  |none=>
   refine(YJ (textOf y) _ h0 hsz hz hd hp).mono ?_;rintro e w2 ⟨rfl,rfl⟩;have HP:=Lib.hid hp;clear hp hz hd
   go_wp2_with fail
   go_ret
   rw[HR.out];unfold numOf;rw[HP.out];exact⟨rfl,hbl⟩
  |some n=>
   refine(VW (textOf y) _ n h0 hsz hz hd hp).mono ?_;rintro e w2 ⟨rfl,rfl⟩;have HP:=Lib.hid hp;clear hp hz hd
   go_wp2_with fail
   refine(yN b s j ts _ _ _ k _ hsc1 hts).mono ?_;rintro e w3 hgot;obtain⟨c,rfl⟩:=hgot.is;have HGOT:=Lib.hid hgot;clear hgot
   go_wp2_with fail
   go_ret
   rw[HR.out];unfold numOf;rw[HP.out];exact Gu.after hbl HGOT.out
end Go.Proofs.YtfphhabaeggenaaGreatDoor.Lx
namespace Go.Proofs.YtfphhabaeggenaaGreatDoor.Lx
set_option maxRecDepth 20000
open Go.RowKit
def xW(d:UInt8):Option UInt8:=if d.toNat=110 then some 10 else if d.toNat=116 then some 9 else if d.toNat=34 then some 34 else if d.toNat=92 then some 92 else none
def dW:List UInt8→Option (List UInt8×List UInt8)
 |[]=>none
 |c::r=>
  if c.toNat=34 then some ([],r)
  else if c.toNat=10 then none
  else if c.toNat=92 then
   match r with
   |[]=>none
   |d::r'=>
    match xW d with
    |none=>none
    |some x=>(dW r').map fun p=>(x::p.1,p.2)
  else(dW r).map fun p=>(c::p.1,p.2)
theorem ko(c:UInt8)(r:List UInt8):dW (c::r) =
  if c.toNat=34 then some ([],r)
  else if c.toNat=10 then none
  else if c.toNat=92 then
   match r with
   |[]=>none
   |d::r'=>
    match xW d with
    |none=>none
    |some x=>(dW r').map fun p=>(x::p.1,p.2)
  else(dW r).map fun p=>(c::p.1,p.2):=by
 cases r<;>rfl
def vG(o:Option (List UInt8×List UInt8))(s:ByteArray)(k:Nat):Except Int (Tok×Nat):=
 match o with
 |none=>.error 103
 |some (x,r)=>sD 4 (textOf x) 0 k (s.size-r.length)
def wI(s:ByteArray)(k:Nat):Except Int (Tok×Nat):=vG (dW (s.data.toList.drop (k+1))) s k
def more'(acc:List UInt8)(o:Option (List UInt8×List UInt8)):Option (List UInt8×List UInt8):=o.map fun p=>(acc++p.1,p.2)
theorem V8(o:Option (List UInt8×List UInt8)):more' [] o=o:=by cases o<;>rfl
theorem LV{s:ByteArray}{j:Nat}(h:j<s.size)(acc:List UInt8)(h1:s[j].toNat≠34)(h2:s[j].toNat≠10)(h3:s[j].toNat≠92) :
  more' acc (dW (s.data.toList.drop j))=more' (acc++[s[j]]) (dW (s.data.toList.drop (j+1))):=by
 rw[drop_at s j h,ko];simp only[h1,h2,h3,if_false];cases dW (s.data.toList.drop (j+1))<;>simp[more']
theorem LU{s:ByteArray}{j:Nat}(h:j<s.size)(acc:List UInt8)(h1:s[j].toNat=34) :
  more' acc (dW (s.data.toList.drop j))=some (acc,s.data.toList.drop (j+1)):=by
 rw[drop_at s j h,ko];simp[h1,more']
theorem PW{s:ByteArray}{j:Nat}(h:j<s.size)(acc:List UInt8)(h1:s[j].toNat=10):more' acc (dW (s.data.toList.drop j))=none:=by
 rw[drop_at s j h,ko];simp[h1,more']
theorem Vx{s:ByteArray}{j:Nat}(h:¬j<s.size)(acc:List UInt8):more' acc (dW (s.data.toList.drop j))=none:=by
 have hl:s.data.toList.length=s.size:=rfl;rw[List.drop_eq_nil_of_le (by omega)];rfl
theorem DN{s:ByteArray}{j:Nat}(h:j<s.size)(acc:List UInt8)(h1:s[j].toNat=92)(h2:¬j+1<s.size):more' acc (dW (s.data.toList.drop j))=none:=by
 have hl:s.data.toList.length=s.size:=rfl;rw[drop_at s j h,List.drop_eq_nil_of_le (by omega),ko];simp[h1,more']
theorem PX{s:ByteArray}{j:Nat}(h:j<s.size)(acc:List UInt8)(h1:s[j].toNat=92)(h2:j+1<s.size) :
  more' acc (dW (s.data.toList.drop j))=match xW s[j+1] with|none=>none|some x=>more' (acc++[x]) (dW (s.data.toList.drop (j+2))):=by
 rw[drop_at s j h,drop_at s (j+1) h2,ko];simp only[h1];cases xW s[j+1] with
 |none=>simp[more']
 |some x=>cases dW (s.data.toList.drop (j+2))<;>simp[more']
theorem Wt(d:UInt8):(Lib.indexByte [110,116,34,92] d = -1∧xW d=none)∨(Lib.indexByte [110,116,34,92] d=0∧xW d=some 10)∨(Lib.indexByte [110,116,34,92] d=1∧xW d=some 9)∨(Lib.indexByte [110,116,34,92] d=2∧xW d=some 34)∨(Lib.indexByte [110,116,34,92] d=3∧xW d=some 92):=by
 revert d;have:∀n:Fin 256,(Lib.indexByte [110,116,34,92] (UInt8.ofNat n) = -1∧xW (UInt8.ofNat n)=none)∨(Lib.indexByte [110,116,34,92] (UInt8.ofNat n)=0∧xW (UInt8.ofNat n)=some 10)∨(Lib.indexByte [110,116,34,92] (UInt8.ofNat n)=1∧xW (UInt8.ofNat n)=some 9)∨(Lib.indexByte [110,116,34,92] (UInt8.ofNat n)=2∧xW (UInt8.ofNat n)=some 34)∨(Lib.indexByte [110,116,34,92] (UInt8.ofNat n)=3∧xW (UInt8.ofNat n)=some 92):=by decide +kernel
 intro d;have:=this ⟨d.toNat,d.toNat_lt⟩;simpa using this
def byteCells(l:List UInt8):List Value:=l.map fun c=>Value.int .u8 (c.toNat:Int)
theorem byteCells_snoc(l:List UInt8)(c:UInt8):byteCells (l++[c])=byteCells l++[Value.int .u8 (c.toNat:Int)]:=by simp[byteCells]
theorem EI{w:World}{base:Nat}{v:Value}{l:List UInt8}(h:w.ownsRow base 5 1 v l.length (byteCells l)):(convert 226 9 v).run Tryz.prog w=.ok (.string (textOf l)) w:=by
 rcases h.2 with⟨rfl,h0⟩|⟨g,cap,cur,rfl,_,hg,_⟩
 ·rw[run_convert_bytes_nil w 226 5 Tryz.underlying226 Tryz.underlying5 0 0 9 Tryz.underlying9]
  have:l=[]:=List.eq_nil_of_length_eq_zero h0;subst this;rfl
 ·refine run_convert_bytes_back w 226 9 5 ⟨g,0,none⟩ cap l Tryz.underlying226 Tryz.underlying5 Tryz.underlying9 ?_
  intro j hj;exact h.cells (g:=g) rfl j _ (by simp[byteCells,hj])
structure Tx(w0:World)(b B2:Nat)(s:ByteArray)(ts:List Tok)(v:Value)(j:Nat)(acc:List UInt8)(bv:Value)(w:World):Prop where
 blk:ug w b s j v
 own:w.ownsRow (b+1) 106 4 v ts.length (tokCells ts)
 byt:w.ownsRow B2 5 1 bv acc.length (byteCells acc)
 bel:Below b w0 w
 hB:B2≤w.heap.size
 hb:b<B2
 hv:∀g,v.ownBlock=some g→g<B2
section
variable{w0 w:World}{b B2:Nat}{s:ByteArray}{ts:List Tok}{v:Value}{j:Nat}{acc:List UInt8}{bv:Value}
theorem Tx.drewN(h:Tx w0 b B2 s ts v j acc bv w)(n:Nat):Tx w0 b B2 s ts v j acc bv (w.drewN n):=
 ⟨h.blk,h.own,h.byt,⟨h.bel.os,h.bel.tape,h.bel.output,h.bel.size,h.bel.block⟩,h.hB,h.hb,h.hv⟩
theorem Tx.move(h:Tx w0 b B2 s ts v j acc bv w)(j':Nat):Tx w0 b B2 s ts v j' acc bv (w.setCell ⟨b,1,none⟩ (.int .i64 (j':Int))):=
 ⟨h.blk.set1 j',ownsRow_setCell_below h.own (by simp) _,ownsRow_setCell_below h.byt (by simpa using h.hb) _,h.bel.setCell (Nat.le_refl _) _,by simpa[World.setCell] using h.hB,h.hb,h.hv⟩
theorem Tx.appended(h:Tx w0 b B2 s ts v j acc bv w)(o:Obj)(c:UInt8){bv':Value}{w':World}(hown:w'.ownsRow B2 5 1 bv' (acc.length+1) (byteCells acc++[Value.int .u8 (c.toNat:Int)]))
  (hgr:(w.alloc o).grownBy w' bv.ownBlock):Tx w0 b B2 s ts v j (acc++[c]) bv' w':=by
 have hne:∀g,bv.ownBlock=some g→B2≤g:=fun g hg=>(h.byt.lt g hg).1
 refine⟨h.blk.later o hgr (fun e=>by have:=hne b e;have:=h.hb;omega),?_,?_,?_,?_,h.hb,h.hv⟩
 ·refine(h.own.alloc o).kept hgr ?_
  cases hv:v.ownBlock with
  |none=>exact .inl rfl
  |some g=>exact .inr (fun e=>by have:=h.hv g hv;have:=hne g e.symm;omega)
 ·rw[byteCells_snoc,List.length_append];exact hown
 ·refine(h.bel.alloc ?_ o).grown hgr ?_ (fun g hg=>?_)
  ·have:=h.hB;have:=h.hb;omega
  ·have:=h.hB;have:=h.hb;simp;omega
  ·have:=hne g hg;have:=h.hb;omega
 ·have:=hgr.size;have:=h.hB;simp at *;omega
end
end Go.Proofs.YtfphhabaeggenaaGreatDoor.Lx
