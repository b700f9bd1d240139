/- Joined texts. -/
import Derived.Test.YtfphhabaeggenaaGreatDoorBae
import Derived.Test.YtfphhabaeggenaaGreatDoorMq1
import Derived.Laws.StructEq
import Derived.Test.YtfphhabaeggenaaGreatDoorBaf
set_option linter.all false
namespace Go.Proofs.YtfphhabaeggenaaGreatDoor.C
open Go.RowKit
def fO{α:Type}(f:α→Bool):List α→Nat→Option Nat
 |[],_=>none
 |a::l,i=>if f a then some i else fO f l (i+1)
theorem lJ{α:Type}{f:α→Bool}:∀{l:List α} {i k:Nat},fO f l i=some k→i≤k∧∃a,l[k-i]? = some a∧f a=true
 |[],i,k,h=>by cases h
 |a::l,i,k,h=>by
  rw[fO] at h;split at h
  ·rename_i hf
   cases h;exact⟨Nat.le_refl _,a,by simp,hf⟩
  ·obtain⟨h1,b,h2,h3⟩:=lJ h
   refine⟨by omega,b,?_,h3⟩;rw[show k-i=(k-(i+1))+1 by omega];simpa using h2
theorem FP{α:Type}{f:α→Bool}:∀{l:List α} {i:Nat},fO f l i=none↔∀a∈l,f a=false
 |[],i=>by simp[fO]
 |a::l,i=>by
  rw[fO];cases hf:f a with
  |true=>simp[hf]
  |false=>simp[hf,FP (l:=l)]
def fi{α:Type}(f:α→Bool)(l:List α):Int:=match fO f l 0 with
 |some i=>i
 |none=>-1
theorem rO{α:Type}{f:α→Bool}{l:List α}(h:0≤fi f l):∃(k:Nat) (a:α),fi f l=k∧fO f l 0=some k∧l[k]? = some a∧f a=true:=by
 unfold fi at h ⊢;cases hf:fO f l 0 with
 |none=>rw[hf] at h;simp at h
 |some k=>
  obtain⟨_,a,h1,h2⟩:=lJ hf;exact⟨k,a,rfl,rfl,by simpa using h1,h2⟩
theorem FR{α:Type}{f:α→Bool}{l:List α}(h:¬0≤fi f l):fi f l = -1∧fO f l 0=none:=by
 unfold fi at h ⊢;cases hf:fO f l 0 with
 |none=>exact⟨rfl,rfl⟩
 |some k=>rw[hf] at h;exact absurd (Int.natCast_nonneg k) h
theorem UN{α:Type}{f:α→Bool}{l:List α}{k:Nat}(h:fO f l 0=some k):fi f l=k:=by unfold fi;rw[h]
theorem gL{α:Type}(l:List α)(f:α→Bool)(q:Nat→Q)(r0:Rs)(rf:Nat→Rs)
  (step:∀i a,l[i]? = some a→i<l.length→body PG EE TT ev (q i)=bK (f a) (.ok (rf i)) (tL (ev (q (i+1)))))
  (done:body PG EE TT ev (q l.length)=.ok r0):ev (q 0)=some (match fO f l 0 with|some i=>rf i|none=>r0):=by
 have key:∀(m i:Nat),l.length-i=m→i≤l.length→ev (q i)=some (match fO f (l.drop i) i with|some i=>rf i|none=>r0):=by
  intro m
  induction m with
  |zero=>
   intro i hm hi;have:i=l.length:=by omega
   subst this;rw[List.drop_length];exact aS.of done
  |succ m ih=>
   intro i hm hi;have hlt:i<l.length:=by omega
   have h1:=step i _ (List.getElem?_eq_getElem hlt) hlt;rw[List.drop_eq_getElem_cons hlt,fO];refine aS.of ?_;rw[h1];cases hf:f l[i] with
   |true=>rfl
   |false=>
    show tL _=_;rw[ih (i+1) (by omega) (by omega)];rfl
 simpa using key l.length 0 rfl (Nat.zero_le _)
theorem pI{α:Type}(f:α→Bool)(l:List α):decide (0≤fi f l)=l.any f:=by
 by_cases h:0≤fi f l
 ·obtain⟨k,a,_,_,h3,h4⟩:=rO h
  rw[decide_eq_true h,Eq.comm,List.any_eq_true];exact⟨a,List.mem_of_getElem? h3,h4⟩
 ·rw[decide_eq_false h,Eq.comm,List.any_eq_false]
  have:=FP.1 (FR h).2;intro x hx;simp[this x hx]
end Go.Proofs.YtfphhabaeggenaaGreatDoor.C
namespace Go.Proofs.YtfphhabaeggenaaGreatDoor.C
open Go.RowKit
def lF(s:ByteArray):Dt→Bool:=fun x=>decide (x.name=s)
def gI(s:ByteArray):Cl→Bool:=fun x=>decide (x.name=s)
def oo(s:ByteArray):Md→Bool:=fun x=>decide (x.name=s)
def jO(s:ByteArray):Bd→Bool:=fun x=>decide (x.name=s)
def isIt(s u:ByteArray):It→Bool:=fun x=>decide (x.cls=s∧x.head.name=u)
def pF(s:ByteArray):Ty→Bool:=fun x=>decide (x.name=s)
def Aw(t:Ty):Ty→Bool:=fun x=>decide (t.kind=1∧x.name=t.name)
def Co(c s:ByteArray):Pd→Bool:=fun x=>decide (x.cls=c∧x.t.name=s)
theorem alF(x:Dt)(s:ByteArray):ev (agT (sv x.name) (strs x.params) (nK x.cons) (strs x.deriv) (iv x.at_) (sv s))=some (0,[sv s,bv (lF s x)]):=
 aS.of (by rw[aq9];by_cases h0:x.name=s<;>simp[lF,h0])
theorem akg(l:List Dt)(hl:l.length≤aW)(s:ByteArray):ev (Ey (iv 0) (iv l.length) (aZ l) (sv s))=some (match fO (lF s) l 0 with|some i=>(0,[sv s,iv i])|none=>(1,[sv s])):=
 gL l (lF s) (fun i=>Ey (iv i) (iv l.length) (aZ l) (sv s)) _ _
  (fun i a ha hi=>by rw[Ol];simp[iD ha,hi,alF,aO hi hl])
  (by rw[Ol];simp)
theorem aqO(l:List Dt)(hl:l.length≤aW)(s:ByteArray):ev (ahe (aZ l) (sv s))=some (0,[sv s,iv (fi (lF s) l)]):=
 aS.of (by rw[arF];simp[akg l hl s];cases h:fO (lF s) l 0<;>simp[fi,h])
theorem aeW(l:List Dt)(hl:l.length≤aW)(s:ByteArray):ev (ahE (aZ l) (sv s))=some (0,[sv s,iv (max (fi (lF s) l) 0),bv (decide (0≤fi (lF s) l))]):=
 aS.of (by rw[ar9];simp[aqO l hl s];cases decide (0≤fi (lF s) l)<;>rfl)
theorem alG(x:Cl)(s:ByteArray):ev (aha (sv x.name) (sv x.var) (strs x.supers) (jb x.methods) (bg x.defaults) (iv x.at_) (sv s))=some (0,[sv s,bv (gI s x)]):=
 aS.of (by rw[arB];by_cases h0:x.name=s<;>simp[gI,h0])
theorem akh(l:List Cl)(hl:l.length≤aW)(s:ByteArray):ev (Eu (iv 0) (iv l.length) (cls l) (sv s))=some (match fO (gI s) l 0 with|some i=>(0,[sv s,iv i])|none=>(1,[sv s])):=
 gL l (gI s) (fun i=>Eu (iv i) (iv l.length) (cls l) (sv s)) _ _
  (fun i a ha hi=>by rw[Oi];simp[eu ha,hi,alG,aO hi hl])
  (by rw[Oi];simp)
theorem aqP(l:List Cl)(hl:l.length≤aW)(s:ByteArray):ev (ahc (cls l) (sv s))=some (0,[sv s,iv (fi (gI s) l)]):=
 aS.of (by rw[arD];simp[akh l hl s];cases h:fO (gI s) l 0<;>simp[fi,h])
theorem aeX(l:List Cl)(hl:l.length≤aW)(s:ByteArray):ev (ahB (cls l) (sv s))=some (0,[sv s,iv (max (fi (gI s) l) 0),bv (decide (0≤fi (gI s) l))]):=
 aS.of (by rw[ar6];simp[aqP l hl s];cases decide (0≤fi (gI s) l)<;>rfl)
theorem alE(x:Md)(s:ByteArray):ev (ahj (sv x.name) (iv x.t.kind) (sv x.t.name) (iv x.t.n) (aV x.t.kids) (iv x.at_) (sv s))=some (0,[sv s,bv (oo s x)]):=
 aS.of (by rw[arO];by_cases h0:x.name=s<;>simp[oo,h0])
theorem akf(l:List Md)(hl:l.length≤aW)(s:ByteArray):ev (Em (iv 0) (iv l.length) (jb l) (sv s))=some (match fO (oo s) l 0 with|some i=>(0,[sv s,iv i])|none=>(1,[sv s])):=
 gL l (oo s) (fun i=>Em (iv i) (iv l.length) (jb l) (sv s)) _ _
  (fun i a ha hi=>by rw[N8];simp[ny ha,hi,alE,aO hi hl])
  (by rw[N8];simp)
theorem aqN(l:List Md)(hl:l.length≤aW)(s:ByteArray):ev (agV (jb l) (sv s))=some (0,[sv s,iv (fi (oo s) l)]):=
 aS.of (by rw[arf];simp[akf l hl s];cases h:fO (oo s) l 0<;>simp[fi,h])
theorem aeV(l:List Md)(hl:l.length≤aW)(s:ByteArray):ev (ahl (jb l) (sv s))=some (0,[sv s,iv (max (fi (oo s) l) 0),bv (decide (0≤fi (oo s) l))]):=
 aS.of (by rw[arQ];simp[aqN l hl s];cases decide (0≤fi (oo s) l)<;>rfl)
theorem af0(x:Dt)(y:Dt):ev (ahC (sv x.name) (strs x.params) (nK x.cons) (strs x.deriv) (iv x.at_) (sv y.name) (strs y.params) (nK y.cons) (strs y.deriv) (iv y.at_))=some (0,[sv y.name,strs y.params,nK y.cons,strs y.deriv,iv y.at_,bv (lF y.name x)]):=
 aS.of (by rw[ar7];by_cases h0:x.name=y.name<;>simp[lF,h0])
theorem adF(l:List Dt)(hl:l.length≤aW)(y:Dt):ev (Ew (iv 0) (iv l.length) (aZ l) (sv y.name) (strs y.params) (nK y.cons) (strs y.deriv) (iv y.at_))=some (match fO (lF y.name) l 0 with|some i=>(2,[sv y.name,strs y.params,nK y.cons,strs y.deriv,iv y.at_,iv i])|none=>(3,[sv y.name,strs y.params,nK y.cons,strs y.deriv,iv y.at_])):=
 gL l (lF y.name) (fun i=>Ew (iv i) (iv l.length) (aZ l) (sv y.name) (strs y.params) (nK y.cons) (strs y.deriv) (iv y.at_)) _ _
  (fun i a ha hi=>by rw[Oj];simp[iD ha,hi,af0,aO hi hl])
  (by rw[Oj];simp)
theorem akn(l:List Dt)(hl:l.length≤aW)(y:Dt):ev (ahd (aZ l) (sv y.name) (strs y.params) (nK y.cons) (strs y.deriv) (iv y.at_))=some (0,[sv y.name,strs y.params,nK y.cons,strs y.deriv,iv y.at_,iv (fi (lF y.name) l)]):=
 aS.of (by rw[arE];simp[adF l hl y];cases h:fO (lF y.name) l 0<;>simp[fi,h])
theorem aap(l:List Dt)(hl:l.length≤aW)(y:Dt):ev (ahD (aZ l) (sv y.name) (strs y.params) (nK y.cons) (strs y.deriv) (iv y.at_))=some (0,[sv y.name,strs y.params,nK y.cons,strs y.deriv,iv y.at_,iv (max (fi (lF y.name) l) 0),bv (decide (0≤fi (lF y.name) l))]):=
 aS.of (by rw[ar8];simp[akn l hl y];cases decide (0≤fi (lF y.name) l)<;>rfl)
theorem af2(x:Cl)(y:Cl):ev (ahz (sv x.name) (sv x.var) (strs x.supers) (jb x.methods) (bg x.defaults) (iv x.at_) (sv y.name) (sv y.var) (strs y.supers) (jb y.methods) (bg y.defaults) (iv y.at_))=some (0,[sv y.name,sv y.var,strs y.supers,jb y.methods,bg y.defaults,iv y.at_,bv (gI y.name x)]):=
 aS.of (by rw[ar4];by_cases h0:x.name=y.name<;>simp[gI,h0])
theorem adG(l:List Cl)(hl:l.length≤aW)(y:Cl):ev (Es (iv 0) (iv l.length) (cls l) (sv y.name) (sv y.var) (strs y.supers) (jb y.methods) (bg y.defaults) (iv y.at_))=some (match fO (gI y.name) l 0 with|some i=>(2,[sv y.name,sv y.var,strs y.supers,jb y.methods,bg y.defaults,iv y.at_,iv i])|none=>(3,[sv y.name,sv y.var,strs y.supers,jb y.methods,bg y.defaults,iv y.at_])):=
 gL l (gI y.name) (fun i=>Es (iv i) (iv l.length) (cls l) (sv y.name) (sv y.var) (strs y.supers) (jb y.methods) (bg y.defaults) (iv y.at_)) _ _
  (fun i a ha hi=>by rw[Oh];simp[eu ha,hi,af2,aO hi hl])
  (by rw[Oh];simp)
theorem ako(l:List Cl)(hl:l.length≤aW)(y:Cl):ev (ahb (cls l) (sv y.name) (sv y.var) (strs y.supers) (jb y.methods) (bg y.defaults) (iv y.at_))=some (0,[sv y.name,sv y.var,strs y.supers,jb y.methods,bg y.defaults,iv y.at_,iv (fi (gI y.name) l)]):=
 aS.of (by rw[arC];simp[adG l hl y];cases h:fO (gI y.name) l 0<;>simp[fi,h])
theorem aaq(l:List Cl)(hl:l.length≤aW)(y:Cl):ev (ahA (cls l) (sv y.name) (sv y.var) (strs y.supers) (jb y.methods) (bg y.defaults) (iv y.at_))=some (0,[sv y.name,sv y.var,strs y.supers,jb y.methods,bg y.defaults,iv y.at_,iv (max (fi (gI y.name) l) 0),bv (decide (0≤fi (gI y.name) l))]):=
 aS.of (by rw[ar5];simp[ako l hl y];cases decide (0≤fi (gI y.name) l)<;>rfl)
theorem afZ(x:Md)(y:Bd):ev (ag6 (sv x.name) (iv x.t.kind) (sv x.t.name) (iv x.t.n) (aV x.t.kids) (iv x.at_) (sv y.name) (iv y.e.kind) (sv y.e.name) (iv y.e.n) (iv y.e.t.kind) (sv y.e.t.name) (iv y.e.t.n) (aV y.e.t.kids) (exs y.e.kids) (lU y.e.alts) (bg y.e.binds) (iv y.e.at_) (iv y.at_))=some (0,[sv y.name,iv y.e.kind,sv y.e.name,iv y.e.n,iv y.e.t.kind,sv y.e.t.name,iv y.e.t.n,aV y.e.t.kids,exs y.e.kids,lU y.e.alts,bg y.e.binds,iv y.e.at_,iv y.at_,bv (oo y.name x)]):=
 aS.of (by rw[arw];by_cases h0:x.name=y.name<;>simp[oo,h0])
theorem adE(l:List Md)(hl:l.length≤aW)(y:Bd):ev (El (iv 0) (iv l.length) (jb l) (sv y.name) (iv y.e.kind) (sv y.e.name) (iv y.e.n) (iv y.e.t.kind) (sv y.e.t.name) (iv y.e.t.n) (aV y.e.t.kids) (exs y.e.kids) (lU y.e.alts) (bg y.e.binds) (iv y.e.at_) (iv y.at_))=some (match fO (oo y.name) l 0 with|some i=>(2,[sv y.name,iv y.e.kind,sv y.e.name,iv y.e.n,iv y.e.t.kind,sv y.e.t.name,iv y.e.t.n,aV y.e.t.kids,exs y.e.kids,lU y.e.alts,bg y.e.binds,iv y.e.at_,iv y.at_,iv i])|none=>(3,[sv y.name,iv y.e.kind,sv y.e.name,iv y.e.n,iv y.e.t.kind,sv y.e.t.name,iv y.e.t.n,aV y.e.t.kids,exs y.e.kids,lU y.e.alts,bg y.e.binds,iv y.e.at_,iv y.at_])):=
 gL l (oo y.name) (fun i=>El (iv i) (iv l.length) (jb l) (sv y.name) (iv y.e.kind) (sv y.e.name) (iv y.e.n) (iv y.e.t.kind) (sv y.e.t.name) (iv y.e.t.n) (aV y.e.t.kids) (exs y.e.kids) (lU y.e.alts) (bg y.e.binds) (iv y.e.at_) (iv y.at_)) _ _
  (fun i a ha hi=>by rw[N7];simp[ny ha,hi,afZ,aO hi hl])
  (by rw[N7];simp)
theorem akm(l:List Md)(hl:l.length≤aW)(y:Bd):ev (agU (jb l) (sv y.name) (iv y.e.kind) (sv y.e.name) (iv y.e.n) (iv y.e.t.kind) (sv y.e.t.name) (iv y.e.t.n) (aV y.e.t.kids) (exs y.e.kids) (lU y.e.alts) (bg y.e.binds) (iv y.e.at_) (iv y.at_))=some (0,[sv y.name,iv y.e.kind,sv y.e.name,iv y.e.n,iv y.e.t.kind,sv y.e.t.name,iv y.e.t.n,aV y.e.t.kids,exs y.e.kids,lU y.e.alts,bg y.e.binds,iv y.e.at_,iv y.at_,iv (fi (oo y.name) l)]):=
 aS.of (by rw[ard];simp[adE l hl y];cases h:fO (oo y.name) l 0<;>simp[fi,h])
theorem aao(l:List Md)(hl:l.length≤aW)(y:Bd):ev (ahk (jb l) (sv y.name) (iv y.e.kind) (sv y.e.name) (iv y.e.n) (iv y.e.t.kind) (sv y.e.t.name) (iv y.e.t.n) (aV y.e.t.kids) (exs y.e.kids) (lU y.e.alts) (bg y.e.binds) (iv y.e.at_) (iv y.at_))=some (0,[sv y.name,iv y.e.kind,sv y.e.name,iv y.e.n,iv y.e.t.kind,sv y.e.t.name,iv y.e.t.n,aV y.e.t.kids,exs y.e.kids,lU y.e.alts,bg y.e.binds,iv y.e.at_,iv y.at_,iv (max (fi (oo y.name) l) 0),bv (decide (0≤fi (oo y.name) l))]):=
 aS.of (by rw[arP];simp[akm l hl y];cases decide (0≤fi (oo y.name) l)<;>rfl)
theorem af5(x:Bd)(y:Bd):ev (ap1 (sv x.name) (iv x.e.kind) (sv x.e.name) (iv x.e.n) (iv x.e.t.kind) (sv x.e.t.name) (iv x.e.t.n) (aV x.e.t.kids) (exs x.e.kids) (lU x.e.alts) (bg x.e.binds) (iv x.e.at_) (iv x.at_) (sv y.name) (iv y.e.kind) (sv y.e.name) (iv y.e.n) (iv y.e.t.kind) (sv y.e.t.name) (iv y.e.t.n) (aV y.e.t.kids) (exs y.e.kids) (lU y.e.alts) (bg y.e.binds) (iv y.e.at_) (iv y.at_))=some (0,[sv y.name,iv y.e.kind,sv y.e.name,iv y.e.n,iv y.e.t.kind,sv y.e.t.name,iv y.e.t.n,aV y.e.t.kids,exs y.e.kids,lU y.e.alts,bg y.e.binds,iv y.e.at_,iv y.at_,bv (jO y.name x)]):=
 aS.of (by rw[ax7];by_cases h0:x.name=y.name<;>simp[jO,h0])
theorem adJ(l:List Bd)(hl:l.length≤aW)(y:Bd):ev (EB (iv 0) (iv l.length) (bg l) (sv y.name) (iv y.e.kind) (sv y.e.name) (iv y.e.n) (iv y.e.t.kind) (sv y.e.t.name) (iv y.e.t.n) (aV y.e.t.kids) (exs y.e.kids) (lU y.e.alts) (bg y.e.binds) (iv y.e.at_) (iv y.at_))=some (match fO (jO y.name) l 0 with|some i=>(0,[sv y.name,iv y.e.kind,sv y.e.name,iv y.e.n,iv y.e.t.kind,sv y.e.t.name,iv y.e.t.n,aV y.e.t.kids,exs y.e.kids,lU y.e.alts,bg y.e.binds,iv y.e.at_,iv y.at_,iv i])|none=>(1,[sv y.name,iv y.e.kind,sv y.e.name,iv y.e.n,iv y.e.t.kind,sv y.e.t.name,iv y.e.t.n,aV y.e.t.kids,exs y.e.kids,lU y.e.alts,bg y.e.binds,iv y.e.at_,iv y.at_])):=
 gL l (jO y.name) (fun i=>EB (iv i) (iv l.length) (bg l) (sv y.name) (iv y.e.kind) (sv y.e.name) (iv y.e.n) (iv y.e.t.kind) (sv y.e.t.name) (iv y.e.t.n) (aV y.e.t.kids) (exs y.e.kids) (lU y.e.alts) (bg y.e.binds) (iv y.e.at_) (iv y.at_)) _ _
  (fun i a ha hi=>by rw[Ov];simp[nC ha,hi,af5,aO hi hl])
  (by rw[Ov];simp)
theorem akr(l:List Bd)(hl:l.length≤aW)(y:Bd):ev (ahi (bg l) (sv y.name) (iv y.e.kind) (sv y.e.name) (iv y.e.n) (iv y.e.t.kind) (sv y.e.t.name) (iv y.e.t.n) (aV y.e.t.kids) (exs y.e.kids) (lU y.e.alts) (bg y.e.binds) (iv y.e.at_) (iv y.at_))=some (0,[sv y.name,iv y.e.kind,sv y.e.name,iv y.e.n,iv y.e.t.kind,sv y.e.t.name,iv y.e.t.n,aV y.e.t.kids,exs y.e.kids,lU y.e.alts,bg y.e.binds,iv y.e.at_,iv y.at_,iv (fi (jO y.name) l)]):=
 aS.of (by rw[arN];simp[adJ l hl y];cases h:fO (jO y.name) l 0<;>simp[fi,h])
theorem aas(l:List Bd)(hl:l.length≤aW)(y:Bd):ev (ap3 (bg l) (sv y.name) (iv y.e.kind) (sv y.e.name) (iv y.e.n) (iv y.e.t.kind) (sv y.e.t.name) (iv y.e.t.n) (aV y.e.t.kids) (exs y.e.kids) (lU y.e.alts) (bg y.e.binds) (iv y.e.at_) (iv y.at_))=some (0,[sv y.name,iv y.e.kind,sv y.e.name,iv y.e.n,iv y.e.t.kind,sv y.e.t.name,iv y.e.t.n,aV y.e.t.kids,exs y.e.kids,lU y.e.alts,bg y.e.binds,iv y.e.at_,iv y.at_,iv (max (fi (jO y.name) l) 0),bv (decide (0≤fi (jO y.name) l))]):=
 aS.of (by rw[ax9];simp[akr l hl y];cases decide (0≤fi (jO y.name) l)<;>rfl)
theorem af4(x:Bd)(y:Bd):ev (ag5 (sv x.name) (iv x.e.kind) (sv x.e.name) (iv x.e.n) (iv x.e.t.kind) (sv x.e.t.name) (iv x.e.t.n) (aV x.e.t.kids) (exs x.e.kids) (lU x.e.alts) (bg x.e.binds) (iv x.e.at_) (iv x.at_) (sv y.name) (iv y.e.kind) (sv y.e.name) (iv y.e.n) (iv y.e.t.kind) (sv y.e.t.name) (iv y.e.t.n) (aV y.e.t.kids) (exs y.e.kids) (lU y.e.alts) (bg y.e.binds) (iv y.e.at_) (iv y.at_))=some (0,[sv y.name,iv y.e.kind,sv y.e.name,iv y.e.n,iv y.e.t.kind,sv y.e.t.name,iv y.e.t.n,aV y.e.t.kids,exs y.e.kids,lU y.e.alts,bg y.e.binds,iv y.e.at_,iv y.at_,bv (jO y.name x)]):=
 aS.of (by rw[ars];by_cases h0:x.name=y.name<;>simp[jO,h0])
theorem adI(l:List Bd)(hl:l.length≤aW)(y:Bd):ev (Ez (iv 0) (iv l.length) (bg l) (sv y.name) (iv y.e.kind) (sv y.e.name) (iv y.e.n) (iv y.e.t.kind) (sv y.e.t.name) (iv y.e.t.n) (aV y.e.t.kids) (exs y.e.kids) (lU y.e.alts) (bg y.e.binds) (iv y.e.at_) (iv y.at_))=some (match fO (jO y.name) l 0 with|some i=>(0,[sv y.name,iv y.e.kind,sv y.e.name,iv y.e.n,iv y.e.t.kind,sv y.e.t.name,iv y.e.t.n,aV y.e.t.kids,exs y.e.kids,lU y.e.alts,bg y.e.binds,iv y.e.at_,iv y.at_,iv i])|none=>(1,[sv y.name,iv y.e.kind,sv y.e.name,iv y.e.n,iv y.e.t.kind,sv y.e.t.name,iv y.e.t.n,aV y.e.t.kids,exs y.e.kids,lU y.e.alts,bg y.e.binds,iv y.e.at_,iv y.at_])):=
 gL l (jO y.name) (fun i=>Ez (iv i) (iv l.length) (bg l) (sv y.name) (iv y.e.kind) (sv y.e.name) (iv y.e.n) (iv y.e.t.kind) (sv y.e.t.name) (iv y.e.t.n) (aV y.e.t.kids) (exs y.e.kids) (lU y.e.alts) (bg y.e.binds) (iv y.e.at_) (iv y.at_)) _ _
  (fun i a ha hi=>by rw[Ot];simp[nC ha,hi,af4,aO hi hl])
  (by rw[Ot];simp)
theorem akq(l:List Bd)(hl:l.length≤aW)(y:Bd):ev (ahg (bg l) (sv y.name) (iv y.e.kind) (sv y.e.name) (iv y.e.n) (iv y.e.t.kind) (sv y.e.t.name) (iv y.e.t.n) (aV y.e.t.kids) (exs y.e.kids) (lU y.e.alts) (bg y.e.binds) (iv y.e.at_) (iv y.at_))=some (0,[sv y.name,iv y.e.kind,sv y.e.name,iv y.e.n,iv y.e.t.kind,sv y.e.t.name,iv y.e.t.n,aV y.e.t.kids,exs y.e.kids,lU y.e.alts,bg y.e.binds,iv y.e.at_,iv y.at_,iv (fi (jO y.name) l)]):=
 aS.of (by rw[arL];simp[adI l hl y];cases h:fO (jO y.name) l 0<;>simp[fi,h])
theorem aar(l:List Bd)(hl:l.length≤aW)(y:Bd):ev (ap2 (bg l) (sv y.name) (iv y.e.kind) (sv y.e.name) (iv y.e.n) (iv y.e.t.kind) (sv y.e.t.name) (iv y.e.t.n) (aV y.e.t.kids) (exs y.e.kids) (lU y.e.alts) (bg y.e.binds) (iv y.e.at_) (iv y.at_))=some (0,[sv y.name,iv y.e.kind,sv y.e.name,iv y.e.n,iv y.e.t.kind,sv y.e.t.name,iv y.e.t.n,aV y.e.t.kids,exs y.e.kids,lU y.e.alts,bg y.e.binds,iv y.e.at_,iv y.at_,iv (max (fi (jO y.name) l) 0),bv (decide (0≤fi (jO y.name) l))]):=
 aS.of (by rw[ax8];simp[akq l hl y];cases decide (0≤fi (jO y.name) l)<;>rfl)
theorem af3(x:Bd)(y:Md):ev (ahp (sv x.name) (iv x.e.kind) (sv x.e.name) (iv x.e.n) (iv x.e.t.kind) (sv x.e.t.name) (iv x.e.t.n) (aV x.e.t.kids) (exs x.e.kids) (lU x.e.alts) (bg x.e.binds) (iv x.e.at_) (iv x.at_) (sv y.name) (iv y.t.kind) (sv y.t.name) (iv y.t.n) (aV y.t.kids) (iv y.at_))=some (0,[sv y.name,iv y.t.kind,sv y.t.name,iv y.t.n,aV y.t.kids,iv y.at_,bv (jO y.name x)]):=
 aS.of (by rw[arU];by_cases h0:x.name=y.name<;>simp[jO,h0])
theorem adH(l:List Bd)(hl:l.length≤aW)(y:Md):ev (EA (iv 0) (iv l.length) (bg l) (sv y.name) (iv y.t.kind) (sv y.t.name) (iv y.t.n) (aV y.t.kids) (iv y.at_))=some (match fO (jO y.name) l 0 with|some i=>(2,[sv y.name,iv y.t.kind,sv y.t.name,iv y.t.n,aV y.t.kids,iv y.at_,iv i])|none=>(3,[sv y.name,iv y.t.kind,sv y.t.name,iv y.t.n,aV y.t.kids,iv y.at_])):=
 gL l (jO y.name) (fun i=>EA (iv i) (iv l.length) (bg l) (sv y.name) (iv y.t.kind) (sv y.t.name) (iv y.t.n) (aV y.t.kids) (iv y.at_)) _ _
  (fun i a ha hi=>by rw[Ou];simp[nC ha,hi,af3,aO hi hl])
  (by rw[Ou];simp)
theorem akp(l:List Bd)(hl:l.length≤aW)(y:Md):ev (ahh (bg l) (sv y.name) (iv y.t.kind) (sv y.t.name) (iv y.t.n) (aV y.t.kids) (iv y.at_))=some (0,[sv y.name,iv y.t.kind,sv y.t.name,iv y.t.n,aV y.t.kids,iv y.at_,iv (fi (jO y.name) l)]):=
 aS.of (by rw[arM];simp[adH l hl y];cases h:fO (jO y.name) l 0<;>simp[fi,h])
theorem Uu(l:List Bd)(hl:l.length≤aW)(y:Md):ev (aho (bg l) (sv y.name) (iv y.t.kind) (sv y.t.name) (iv y.t.n) (aV y.t.kids) (iv y.at_))=some (0,[sv y.name,iv y.t.kind,sv y.t.name,iv y.t.n,aV y.t.kids,iv y.at_,bv (l.any (jO y.name))]):=
 aS.of (by rw[arT];simp[akp l hl y];rw[←pI];cases decide (0≤fi (jO y.name) l)<;>rfl)
theorem afX(x:Ty)(y:Pd):ev (ahs (iv x.kind) (sv x.name) (iv x.n) (aV x.kids) (sv y.cls) (iv y.t.kind) (sv y.t.name) (iv y.t.n) (aV y.t.kids))=some (0,[sv y.cls,iv y.t.kind,sv y.t.name,iv y.t.n,aV y.t.kids,bv (Aw y.t x)]):=
 aS.of (by rw[arX];by_cases h0:y.t.kind=1<;>by_cases h1:x.name=y.t.name<;>simp[Aw,h0,h1])
theorem adC(l:List Ty)(hl:l.length≤aW)(y:Pd):ev (Eo (iv 0) (iv l.length) (aV l) (sv y.cls) (iv y.t.kind) (sv y.t.name) (iv y.t.n) (aV y.t.kids))=some (match fO (Aw y.t) l 0 with|some i=>(0,[sv y.cls,iv y.t.kind,sv y.t.name,iv y.t.n,aV y.t.kids,iv i])|none=>(1,[sv y.cls,iv y.t.kind,sv y.t.name,iv y.t.n,aV y.t.kids])):=
 gL l (Aw y.t) (fun i=>Eo (iv i) (iv l.length) (aV l) (sv y.cls) (iv y.t.kind) (sv y.t.name) (iv y.t.n) (aV y.t.kids)) _ _
  (fun i a ha hi=>by rw[Oc];simp[lG ha,hi,afX,aO hi hl])
  (by rw[Oc];simp)
theorem akk(l:List Ty)(hl:l.length≤aW)(y:Pd):ev (ag0 (aV l) (sv y.cls) (iv y.t.kind) (sv y.t.name) (iv y.t.n) (aV y.t.kids))=some (0,[sv y.cls,iv y.t.kind,sv y.t.name,iv y.t.n,aV y.t.kids,iv (fi (Aw y.t) l)]):=
 aS.of (by rw[arl];simp[adC l hl y];cases h:fO (Aw y.t) l 0<;>simp[fi,h])
theorem aam(l:List Ty)(hl:l.length≤aW)(y:Pd):ev (ahv (aV l) (sv y.cls) (iv y.t.kind) (sv y.t.name) (iv y.t.n) (aV y.t.kids))=some (0,[sv y.cls,iv y.t.kind,sv y.t.name,iv y.t.n,aV y.t.kids,iv (max (fi (Aw y.t) l) 0),bv (decide (0≤fi (Aw y.t) l))]):=
 aS.of (by rw[ar0];simp[akk l hl y];cases decide (0≤fi (Aw y.t) l)<;>rfl)
theorem afW(x:Ty)(y:Pd):ev (ahn (iv x.kind) (sv x.name) (iv x.n) (aV x.kids) (sv y.cls) (iv y.t.kind) (sv y.t.name) (iv y.t.n) (aV y.t.kids))=some (0,[sv y.cls,iv y.t.kind,sv y.t.name,iv y.t.n,aV y.t.kids,bv (pF y.t.name x)]):=
 aS.of (by rw[arS];by_cases h0:x.name=y.t.name<;>simp[pF,h0])
theorem adB(l:List Ty)(hl:l.length≤aW)(y:Pd):ev (Er (iv 0) (iv l.length) (aV l) (sv y.cls) (iv y.t.kind) (sv y.t.name) (iv y.t.n) (aV y.t.kids))=some (match fO (pF y.t.name) l 0 with|some i=>(0,[sv y.cls,iv y.t.kind,sv y.t.name,iv y.t.n,aV y.t.kids,iv i])|none=>(1,[sv y.cls,iv y.t.kind,sv y.t.name,iv y.t.n,aV y.t.kids])):=
 gL l (pF y.t.name) (fun i=>Er (iv i) (iv l.length) (aV l) (sv y.cls) (iv y.t.kind) (sv y.t.name) (iv y.t.n) (aV y.t.kids)) _ _
  (fun i a ha hi=>by rw[Oe];simp[lG ha,hi,afW,aO hi hl])
  (by rw[Oe];simp)
theorem akj(l:List Ty)(hl:l.length≤aW)(y:Pd):ev (ag2 (aV l) (sv y.cls) (iv y.t.kind) (sv y.t.name) (iv y.t.n) (aV y.t.kids))=some (0,[sv y.cls,iv y.t.kind,sv y.t.name,iv y.t.n,aV y.t.kids,iv (fi (pF y.t.name) l)]):=
 aS.of (by rw[aro];simp[adB l hl y];cases h:fO (pF y.t.name) l 0<;>simp[fi,h])
theorem aal(l:List Ty)(hl:l.length≤aW)(y:Pd):ev (ahu (aV l) (sv y.cls) (iv y.t.kind) (sv y.t.name) (iv y.t.n) (aV y.t.kids))=some (0,[sv y.cls,iv y.t.kind,sv y.t.name,iv y.t.n,aV y.t.kids,iv (max (fi (pF y.t.name) l) 0),bv (decide (0≤fi (pF y.t.name) l))]):=
 aS.of (by rw[arZ];simp[akj l hl y];cases decide (0≤fi (pF y.t.name) l)<;>rfl)
theorem afV(x:Ty)(y:Ty):ev (ag4 (iv x.kind) (sv x.name) (iv x.n) (aV x.kids) (iv y.kind) (sv y.name) (iv y.n) (aV y.kids))=some (0,[iv y.kind,sv y.name,iv y.n,aV y.kids,bv (pF y.name x)]):=
 aS.of (by rw[arq];by_cases h0:x.name=y.name<;>simp[pF,h0])
theorem adA(l:List Ty)(hl:l.length≤aW)(y:Ty):ev (Ep (iv 0) (iv l.length) (aV l) (iv y.kind) (sv y.name) (iv y.n) (aV y.kids))=some (match fO (pF y.name) l 0 with|some i=>(2,[iv y.kind,sv y.name,iv y.n,aV y.kids,iv i])|none=>(3,[iv y.kind,sv y.name,iv y.n,aV y.kids])):=
 gL l (pF y.name) (fun i=>Ep (iv i) (iv l.length) (aV l) (iv y.kind) (sv y.name) (iv y.n) (aV y.kids)) _ _
  (fun i a ha hi=>by rw[Od];simp[lG ha,hi,afV,aO hi hl])
  (by rw[Od];simp)
theorem aki(l:List Ty)(hl:l.length≤aW)(y:Ty):ev (ag1 (aV l) (iv y.kind) (sv y.name) (iv y.n) (aV y.kids))=some (0,[iv y.kind,sv y.name,iv y.n,aV y.kids,iv (fi (pF y.name) l)]):=
 aS.of (by rw[arn];simp[adA l hl y];cases h:fO (pF y.name) l 0<;>simp[fi,h])
theorem aak(l:List Ty)(hl:l.length≤aW)(y:Ty):ev (aht (aV l) (iv y.kind) (sv y.name) (iv y.n) (aV y.kids))=some (0,[iv y.kind,sv y.name,iv y.n,aV y.kids,iv (max (fi (pF y.name) l) 0),bv (decide (0≤fi (pF y.name) l))]):=
 aS.of (by rw[arY];simp[aki l hl y];cases decide (0≤fi (pF y.name) l)<;>rfl)
theorem afY(x:Pd)(y:Pd):ev (ahq (sv x.cls) (iv x.t.kind) (sv x.t.name) (iv x.t.n) (aV x.t.kids) (sv y.cls) (iv y.t.kind) (sv y.t.name) (iv y.t.n) (aV y.t.kids))=some (0,[sv y.cls,iv y.t.kind,sv y.t.name,iv y.t.n,aV y.t.kids,bv (Co y.cls y.t.name x)]):=
 aS.of (by rw[arV];by_cases h0:x.cls=y.cls<;>by_cases h1:x.t.name=y.t.name<;>simp[Co,h0,h1])
theorem adD(l:List Pd)(hl:l.length≤aW)(y:Pd):ev (En (iv 0) (iv l.length) (jT l) (sv y.cls) (iv y.t.kind) (sv y.t.name) (iv y.t.n) (aV y.t.kids))=some (match fO (Co y.cls y.t.name) l 0 with|some i=>(0,[sv y.cls,iv y.t.kind,sv y.t.name,iv y.t.n,aV y.t.kids,iv i])|none=>(1,[sv y.cls,iv y.t.kind,sv y.t.name,iv y.t.n,aV y.t.kids])):=
 gL l (Co y.cls y.t.name) (fun i=>En (iv i) (iv l.length) (jT l) (sv y.cls) (iv y.t.kind) (sv y.t.name) (iv y.t.n) (aV y.t.kids)) _ _
  (fun i a ha hi=>by rw[Ob];simp[pG ha,hi,afY,aO hi hl])
  (by rw[Ob];simp)
theorem akl(l:List Pd)(hl:l.length≤aW)(y:Pd):ev (agZ (jT l) (sv y.cls) (iv y.t.kind) (sv y.t.name) (iv y.t.n) (aV y.t.kids))=some (0,[sv y.cls,iv y.t.kind,sv y.t.name,iv y.t.n,aV y.t.kids,iv (fi (Co y.cls y.t.name) l)]):=
 aS.of (by rw[ark];simp[adD l hl y];cases h:fO (Co y.cls y.t.name) l 0<;>simp[fi,h])
theorem aan(l:List Pd)(hl:l.length≤aW)(y:Pd):ev (ahr (jT l) (sv y.cls) (iv y.t.kind) (sv y.t.name) (iv y.t.n) (aV y.t.kids))=some (0,[sv y.cls,iv y.t.kind,sv y.t.name,iv y.t.n,aV y.t.kids,iv (max (fi (Co y.cls y.t.name) l) 0),bv (decide (0≤fi (Co y.cls y.t.name) l))]):=
 aS.of (by rw[arW];simp[akl l hl y];cases decide (0≤fi (Co y.cls y.t.name) l)<;>rfl)
end Go.Proofs.YtfphhabaeggenaaGreatDoor.C
namespace Go.Proofs.YtfphhabaeggenaaGreatDoor.C
open Go.RowKit
abbrev amU:ByteArray:=⟨#[73,110,116]⟩
abbrev R4:ByteArray:=⟨#[83,116,114,105,110,103]⟩
abbrev amT:ByteArray:=⟨#[82,101,102]⟩
abbrev Af:ByteArray:=⟨#[45,62]⟩
def wS(s:ByteArray):Int:=if s=amU then 0 else if s=R4 then 0 else if s=amT then 1 else if s=Af then 2 else -1
theorem Du(s:ByteArray):ev (aqn (sv s))=some (0,[iv (max (wS s) 0),bv (decide (0≤wS s))]):=
 aS.of (by
  rw[ayu];unfold wS;by_cases h1:s=amU
  ·simp[h1]
  ·by_cases h2:s=R4
   ·simp[h2]
   ·by_cases h3:s=amT
    ·simp[h3];omega
    ·by_cases h4:s=Af
     ·simp[h4];omega
     ·simp[h1,h2,h3,h4];omega)
def Y8(v:Ev)(i:Nat):Int:=match v.datas[i]? with
 |some d=>d.params.length
 |none=>-1
def arity(v:Ev)(s:ByteArray):Int:=if 0≤wS s then wS s else match fO (lF s) v.datas 0 with
 |some i=>Y8 v i
 |none=>-1
theorem wz(v:Ev)(hd:v.datas.length≤aW)(s:ByteArray):ev (aqc (aZ v.datas) (cls v.classes) (its v.insts) (sv s))=some (0,[iv (max (arity v s) 0),bv (decide (0≤arity v s))]):=
 aS.of (by
  rw[ayl];unfold arity Y8;by_cases h0:0≤wS s
  ·simp[Du,h0]
  ·simp[Du,h0,aeW _ hd s]
   by_cases h1:0≤fi (lF s) v.datas
   ·obtain⟨k,d,e1,e2,e3,e4⟩:=rO h1
    have hm:max (k:Int) 0=k:=by omega
    simp[e1,e2,e3,hm,iD e3]
   ·have:=FR h1
    simp[h1,this.1,this.2];omega)
theorem wu(v:Ev)(hd:v.classes.length≤aW)(s:ByteArray):ev (aql (aZ v.datas) (cls v.classes) (its v.insts) (sv s))=some (0,[iv (max (fi (gI s) v.classes) 0),bv (decide (0≤fi (gI s) v.classes))]):=
 aS.of (by rw[ayr];simp[aeX _ hd s];cases decide (0≤fi (gI s) v.classes)<;>rfl)
def PK(s:ByteArray):ByteArray→Bool:=fun x=>decide (x=s)
def mem(l:List ByteArray)(s:ByteArray):Bool:=l.any (PK s)
theorem sN{α:Type}(f:α→Bool)(l:List α)(i:Nat):(fO f l i).isSome=l.any f:=by
 cases h:fO f l i with
 |none=>rw[Eq.comm,Option.isSome_none,List.any_eq_false];have:=FP.1 h;intro x hx;simp[this x hx]
 |some k=>obtain⟨_,a,h1,h2⟩:=lJ h;rw[Eq.comm,Option.isSome_some,List.any_eq_true];exact⟨a,List.mem_of_getElem? h1,h2⟩
theorem ZF(l:List ByteArray)(hl:l.length≤aW)(s:ByteArray):ev (aqd (strs l) (sv s))=some (0,[iv (fi (PK s) l)]):=
 aS.of (by
  rw[aym];have h1:=gL l (PK s) (fun i=>TQ (iv i) (iv l.length) (sv s) (strs l)) (1,[]) (fun i=>(0,[iv i]))
   (fun i a ha hi=>by
    rw[UG];by_cases h2:s=a
    ·simp[bq ha,hi,aO hi hl,PK,h2]
    ·have:¬a=s:=fun e=>h2 e.symm
     simp[bq ha,hi,aO hi hl,PK,h2,this])
   (by rw[UG];simp)
  simp at h1;simp[h1];cases h:fO (PK s) l 0<;>simp[fi,h])
theorem iG(l:List ByteArray)(hl:l.length≤aW)(s:ByteArray):ev (ajL (strs l) (sv s))=some (0,[bv (mem l s)]):=
 aS.of (by
  rw[ayt];simp[ZF l hl s];unfold mem;rw[←pI];cases decide (0≤fi (PK s) l)<;>rfl)
end Go.Proofs.YtfphhabaeggenaaGreatDoor.C
namespace Go.Proofs.YtfphhabaeggenaaGreatDoor
open Go.RowKit
theorem bB{α β:Type}{P:Program}(x:Go.Sem α)(f:α→Go.Sem β):aP P (x >>= f)=(aP P x).bind fun a=>aP P (f a):=by
 induction x with
 |pure a=>rfl
 |program k ih=>exact ih P
 |mark m k ih=>exact ih
 |_=>rfl
theorem iZ{P:Program}{t:TypeId}{d:TypeDesc}(h:P.underlying t=some d):aP P (underlying t)=some d:=by
 have e : aP P (underlying t) = aP P (match P.underlying t with | some d => pure d | none => stuck "no such type" : Go.Sem TypeDesc) := rfl;rw [e, h]; rfl
theorem BG{P:Program}{t:TypeId}(h:P.underlying t=some .string)(d:Nat)(a b:ByteArray):aP P (Op.equalIn (d+1) t (.string a) (.string b))=some (a==b):=by
 simp only[Op.equalIn,bB,iZ h,Option.bind_some];rfl
theorem uK{P : Program}{t t1 t2 : TypeId}{f1 f2 : Field}(d : Nat)(hs : P.underlying t = some (.struct #[f1, f2]))(hp : P.stoodInHeld t = false)(n1 : f1.name ≠ "_")(n2 : f2.name ≠ "_")(h1 : P.underlying f1.type = some .string)(h2 : P.underlying f2.type = some .string)
  (p1:∀a b:ByteArray,aP P (part f1.type #[.string a,.string b] f1.offset)=some (.string a)) (p2:∀a b:ByteArray,aP P (part f2.type #[.string a,.string b] f2.offset)=some (.string b)) (a b a' b':ByteArray) :
  aP P (Op.equalIn (d+2) t (.agg #[.string a,.string b]) (.agg #[.string a',.string b']))=some ((a==a')&&(b==b')):=by
 rw[Op.equalIn];simp only[bB,iZ hs,Option.bind_some];have hpr:aP P program=some P:=rfl;simp only[hpr,Option.bind_some,hp,Bool.false_eq_true,if_false];rw[←Array.forIn_toList];simp only[List.forIn_cons,List.forIn_nil,if_pos n1,if_pos n2,ne_eq,n1,n2,not_false_eq_true,if_true,bB,p1,p2,Option.bind_some];have e1:=BG h1 d a a';have e2:=BG h2 d b b';rw[e1];simp only[Option.bind_some];cases a==a' with
 |false=>rfl
 |true=>
  simp only[Bool.not_true,Bool.false_eq_true,if_false,bB,p1,p2,Option.bind_some,Bool.true_and];have e0:∀{α:Type} (x:α),aP P (pure x:Go.Sem α)=some x:=fun _=>rfl
  simp only[e0,Option.bind_some,bB,p1,p2,e2];cases b==b'<;>rfl
theorem atA{α:Type}{P:Program}(a:α):aP P (pure a:Go.Sem α)=some a:=rfl
@[simp] theorem amh(k:IntKind)(n:Int):Py (.lit (.int k n))=.lit (.int k n):=rfl
section
variable{P:Program}{t:TypeId}{r:AV}{β:Type}{d:β}{k:AV→β}
theorem adk(ht:P.underlying t=some .string)(s:ByteArray):pV P t (.pv (sv s)) r↔r=.pv (iv s.size):=by
 have hl:∀ty,dO P .len #[t] ty [.pv (sv s)]=some (.pv (iv s.size)):=by
  intro ty;have h1:aP P (Builtin.len_ #[t] ty #[.string s])=some (.int .i64 s.size):=by
   simp only[Builtin.len_,List.getElem?_toArray,List.getElem?_cons_zero,bB,iZ ht,Option.bind_some];rfl
  have h2:FB P #[t] (.pv (sv s))=none:=by
   unfold FB;simp[rowsOf,QY]
  unfold dO;simp only[h2,AV.val?,h1];simp[pu,sF]
 constructor
 ·intro h;have:=h 0;rw[hl] at this;exact(Option.some.inj this).symm
 ·intro h ty;rw[hl,h]
variable{a b:Int}
end
theorem DZ:jQ Tryz.prog 102 4 40:=jQ.of (by kernel_rfl)
section
variable{β:Type}{d:β}{k:AV→β}
@[simp] theorem Zn(l:List Tk):mG Tryz.prog d 102 (.pv (dA l)) k=k (.pv (iv l.length)):=fM (fun _=>by rw[dA,kJ DZ,List.length_map]) (bH _)
theorem rJ{l:List Tk}{i:Nat}{x:Tk}(h:l[i]? = some x):lX Tryz.prog d 102 (.pv (dA l)) (.pv (.lit (.int .i64 (i:Int)))) k=k (.cptr [iv x.kind,sv x.text,iv x.n,iv x.at_]):=
 jm (fun _=>by rw[dA];exact mH DZ (by rw[List.getElem?_map,h];rfl) rfl) (tN (by simp[bE,bT]))
end
abbrev eB:ByteArray:=⟨#[]⟩
def zT:Tk:=⟨0,eB,0,0⟩
@[simp] theorem LG:fC []=[]:=by rw[fC]
@[simp] theorem vF(p:PV)(l:List PV):fC (p::l)=kX p::fC l:=by rw[fC]
@[simp] theorem RH(k:IntKind)(n:Int):kX (.lit (.int k n))=.lit (.int k n):=by rw[kX];rfl
@[simp] theorem RF(s:ByteArray):kX (.lit (.string s))=.lit (.string s):=by rw[kX];rfl
@[simp] theorem RG:kX (.lit (.slice none 0 0))=.rows []:=by rw[kX];rfl
theorem dK(es:List (List PV)):kX (.rows es)=.rows (fH es):=by rw[kX]
theorem qV:fH []=[]:=by rw[fH]
theorem rR(c:List PV)(l:List (List PV)):fH (c::l)=fC c::fH l:=by rw[fH]
mutual
theorem Ty.wd:∀t:Ty,fC t.cells=t.cells
 |.mk k s n ks=>by
  have h:=Ty.wdL ks;rw[Ty.cells];simp[dK,h]
theorem Ty.wdL:∀l:List Ty,fH (Ty.rows l)=Ty.rows l
 |[]=>by rw[Ty.rows,fH]
 |v::l=>by
  have h1:=Ty.wd v;have h2:=Ty.wdL l;rw[Ty.rows,fH,h1,h2]
end
mutual
theorem Pt.wd:∀t:Pt,fC t.cells=t.cells
 |.mk k s n ks a=>by
  have h:=Pt.wdL ks;rw[Pt.cells];simp[dK,h]
theorem Pt.wdL:∀l:List Pt,fH (Pt.rows l)=Pt.rows l
 |[]=>by rw[Pt.rows,fH]
 |v::l=>by
  have h1:=Pt.wd v;have h2:=Pt.wdL l;rw[Pt.rows,fH,h1,h2]
end
@[simp] theorem auI(l:List Ty):kX (aV l)=aV l:=by rw[aV,←Ty.rows_eq,dK,Ty.wdL]
@[simp] theorem auK(l:List Pt):kX (pts l)=pts l:=by rw[pts,←Pt.rows_eq,dK,Pt.wdL]
theorem Xo(a b:List PV):fC (a++b)=fC a++fC b:=by rw[mQ,mQ,mQ,List.map_append]
theorem Vv(a b:List (List PV)):fH (a++b)=fH a++fH b:=by rw[kY,kY,kY,List.map_append]
mutual
theorem Ex.wd:∀t:Ex,fC t.cells=t.cells
 |.mk k s n t ks xs bs a=>by
  have h1:=Ex.wdL ks;have h2:=Al.wdL xs;have h3:=Bd.wdL bs;rw[Ex.cells];simp[dK,h1,h2,h3]
theorem Al.wd:∀t:Al,fC t.cells=t.cells
 |.mk p e=>by
  have h:=Ex.wd e;rw[Al.cells];simp[h]
theorem Bd.wd:∀t:Bd,fC t.cells=t.cells
 |.mk s e a=>by
  have h:=Ex.wd e;rw[Bd.cells];simp[Xo,h]
theorem Ex.wdL:∀l:List Ex,fH (Ex.rows l)=Ex.rows l
 |[]=>by rw[Ex.rows,fH]
 |v::l=>by
  have h1:=Ex.wd v;have h2:=Ex.wdL l;rw[Ex.rows,fH,h1,h2]
theorem Al.wdL:∀l:List Al,fH (Al.rows l)=Al.rows l
 |[]=>by rw[Al.rows,fH]
 |v::l=>by
  have h1:=Al.wd v;have h2:=Al.wdL l;rw[Al.rows,fH,h1,h2]
theorem Bd.wdL:∀l:List Bd,fH (Bd.rows l)=Bd.rows l
 |[]=>by rw[Bd.rows,fH]
 |v::l=>by
  have h1:=Bd.wd v;have h2:=Bd.wdL l;rw[Bd.rows,fH,h1,h2]
end
@[simp] theorem auO(l:List Ex):kX (exs l)=exs l:=by rw[exs,←Ex.rows_eq,dK,Ex.wdL]
@[simp] theorem auT(l:List Al):kX (lU l)=lU l:=by rw[lU,←Al.rows_eq,dK,Al.wdL]
@[simp] theorem auS(l:List Bd):kX (bg l)=bg l:=by rw[bg,←Bd.rows_eq,dK,Bd.wdL]
theorem ul{α:Type}{f:α→List PV}(l:List α)(h:∀x,fC (f x)=f x):kX (.rows (l.map f))=.rows (l.map f):=by
 rw[dK,kY,List.map_map];congr 2;funext x;exact h x
@[simp] theorem atj(l:List ByteArray):kX (strs l)=strs l:=ul l fun x=>by simp
@[simp] theorem auJ(l:List Tk):kX (dA l)=dA l:=ul l fun x=>by simp[Tk.cells]
@[simp] theorem auQ(l:List Cn):kX (nK l)=nK l:=ul l fun x=>by simp[Cn.cells]
@[simp] theorem auM(l:List Md):kX (jb l)=jb l:=ul l fun x=>by simp[Md.cells]
@[simp] theorem auL(l:List Pd):kX (jT l)=jT l:=ul l fun x=>by simp[Pd.cells]
@[simp] theorem auP(l:List Dt):kX (aZ l)=aZ l:=ul l fun x=>by simp[Dt.cells]
@[simp] theorem auR(l:List Cl):kX (cls l)=cls l:=ul l fun x=>by simp[Cl.cells]
@[simp] theorem auN(l:List It):kX (its l)=its l:=ul l fun x=>by simp[It.cells]
structure Raw(sz:Nat)(es cs:List (List PV)):Prop where
 w:fH es=cs
 n:∀c∈es,c.length=sz
 ns:∀c∈es,∀p∈c,NS p
theorem Raw.nil(sz:Nat):Raw sz [] []:=⟨qV,(fun c hc=>by cases hc),(fun c hc=>by cases hc)⟩
theorem Raw.app{sz:Nat}{es cs:List (List PV)}(h:Raw sz es cs){c c':List PV}(h1:fC c=c')(h2:c.length=sz)(h3:jh c):Raw sz (es++[c]) (cs++[c']):=
 ⟨by rw[Vv,h.w,rR,qV,h1],fun d hd=>by
  rcases List.mem_append.1 hd with hd|hd
  ·exact h.n d hd
  ·rw[List.mem_singleton.1 hd];exact h2,fun d hd p hp=>by
  rcases List.mem_append.1 hd with hd|hd
  ·exact h.ns d hd p hp
  ·rw[List.mem_singleton.1 hd] at hp;exact h3 p hp⟩
theorem Raw.one{sz:Nat}{c c':List PV}(h1:fC c=c')(h2:c.length=sz)(h3:jh c):Raw sz [c] [c']:=(Raw.nil sz).app h1 h2 h3
theorem Raw.len{sz:Nat}{es cs:List (List PV)}(h:Raw sz es cs):es.length=cs.length:=by rw[←h.w,kY,List.length_map]
theorem Raw.wd{sz:Nat}{es cs:List (List PV)}(h:Raw sz es cs):kX (.rows es)=.rows cs:=by rw[dK,h.w]
theorem Raw.of{α:Type}{f:α→List PV}{sz:Nat}(l:List α)(h1:∀x,fC (f x)=f x)(h2:∀x,(f x).length=sz)(h3:∀x,jh (f x)):Raw sz (l.map f) (l.map f):=
 ⟨by rw[kY,List.map_map];congr 1;funext x;exact h1 x,fun c hc=>by obtain⟨x,_,rfl⟩:=List.mem_map.1 hc;exact h2 x,fun c hc p hp=>by obtain⟨x,_,rfl⟩:=List.mem_map.1 hc;exact h3 x p hp⟩
section
variable{P:Program}{d:bG}{k:PV→bG}
theorem bD{t:TypeId}{sz b:Nat}(ht:jQ P t sz b){es cs:List (List PV)}(h:Raw sz es cs){c:List PV}(hc:c.length=sz)(hn:jh c)(hl:es.length≤100000000)(hb:b≤1000) :
  pO P d t (.pv (.rows es)) (.pv (.rows [c])) k=k (.rows (es++[c])):=
 wB (fun w=>Bf ht (Mv es) rfl (by simp) (fun c' h'=>by rw[List.mem_singleton.1 h'];exact hc) (by simp;omega)
  (Nat.le_trans (Nat.mul_le_mul (by simp;omega:es.length+[c].length≤100000001) hb) (by decide)))
  (.rows _ fun c' h' p hp=>by
   rcases List.mem_append.1 h' with h'|h'
   ·exact h.ns c' h' p hp
   ·rw[List.mem_singleton.1 h'] at hp;exact hn p hp)
end
inductive Rz(α:Type) where
 |out
 |err (e w:Int)
 |ok (v:α) (a:Nat)
def Rz.bind{α β:Type}(r:Rz α)(k:α→Nat→Rz β):Rz β:=match r with
 |.out=>.out
 |.err e w=>.err e w
 |.ok v a=>k v a
@[simp] theorem Rz.bind_out{α β:Type}(k:α→Nat→Rz β):(Rz.out:Rz α).bind k=.out:=rfl
@[simp] theorem Rz.bind_err{α β:Type}(e w:Int)(k:α→Nat→Rz β):(Rz.err e w:Rz α).bind k=.err e w:=rfl
@[simp] theorem Rz.bind_ok{α β:Type}(v:α)(a:Nat)(k:α→Nat→Rz β):(Rz.ok v a).bind k=k v a:=rfl
section
variable(L:List Tk)
def ak(a:Nat):Tk:=(L[a]?).getD zT
def nJ(x:ByteArray)(a:Nat):Bool:=decide (6≤(ak L a).kind)&&decide ((ak L a).text=x)
def stT(a:Nat):Bool:=decide ((ak L a).kind=1)||(decide ((ak L a).kind=2)||nJ L ⟨#[40]⟩ a)
abbrev GK:ByteArray:=⟨#[45,62]⟩
abbrev Qg:ByteArray:=⟨#[40]⟩
abbrev H7:ByteArray:=⟨#[41]⟩
abbrev sUn:ByteArray:=⟨#[85,110,105,116]⟩
def agx(x:ByteArray)(a:Nat):Rz Unit:=if nJ L x a then .ok () (a+1) else .err 110 (ak L a).at_
mutual
def jy:Nat→Int→Nat→Rz Ty
 |0,_,_=>.out
 |n+1,d,a=>if 300<d+1 then .err 111 (ak L a).at_ else
  (if(ak L a).kind=2 then(wU n (d+1) (a+1) []).bind fun l b=>.ok (.mk 3 (ak L a).text 0 l) b else gG n (d+1) a).bind fun x b=>
   if nJ L GK b then(jy n (d+1) (b+1)).bind fun y c=>.ok (.mk 3 GK 0 [x,y]) c else .ok x b
def gG:Nat→Int→Nat→Rz Ty
 |0,_,_=>.out
 |n+1,d,a=>if(ak L a).kind=2 then .ok (.mk 3 (ak L a).text 0 []) (a+1)
  else if(ak L a).kind=1 then .ok (.mk 1 (ak L a).text 0 []) (a+1)
  else if nJ L Qg a then
   if nJ L H7 (a+1) then .ok (.mk 3 sUn 0 []) (a+2)
   else(jy n d (a+1)).bind fun x b=>(agx L H7 b).bind fun _ c=>.ok x c
  else .err 110 (ak L a).at_
def wU:Nat→Int→Nat→List Ty→Rz (List Ty)
 |0,_,_,_=>.out
 |n+1,d,a,l=>if stT L a then(gG n d a).bind fun x b=>wU n d b (l++[x]) else .ok l a
end
end
structure I6(L:List Tk):Prop where
 len:L.length≤1000000
 pos:0<L.length
 fin:∀a,(ak L a).kind≠0→a+1<L.length
 top:∀a,(ak L a).kind≤7
 k6:∀a,(ak L a).kind=6→(ak L a).text≠Qg∧(ak L a).text≠⟨#[95]⟩
 k7:∀a,(ak L a).kind=7→(ak L a).text≠⟨#[99,97,115,101]⟩
abbrev GM(α:Type):=Int→Nat→Rz α
def qH{α:Type}:GM α:=fun _ _=>.out
def aT{α:Type}(v:α):GM α:=fun _ a=>.ok v a
def ax{α β:Type}(p:GM α)(k:α→GM β):GM β:=fun d a=>(p d a).bind fun v b=>k v d b
def Cz{α:Type}(p:GM α):GM α:=fun d a=>p d (a+1)
def Wd(x:ByteArray):Nat:=
 if x=⟨#[58,61]⟩ then 1 else if x=⟨#[124,124]⟩ then 2 else if x=⟨#[38,38]⟩ then 3
 else if x=⟨#[61,61]⟩∨x=⟨#[47,61]⟩∨x=⟨#[60]⟩∨x=⟨#[60,61]⟩∨x=⟨#[62]⟩∨x=⟨#[62,61]⟩ then 4
 else if x=⟨#[58,58]⟩∨x=⟨#[94]⟩ then 5 else if x=⟨#[43]⟩∨x=⟨#[45]⟩ then 6
 else if x=⟨#[42]⟩∨x=⟨#[47]⟩∨x=⟨#[37]⟩ then 7 else 8
def bO(k:Nat):Nat:=if k=4 then 0 else if k<6 then 2 else 1
def uT(V:Nat→Nat)(to:Nat):Nat→Nat→Nat→Nat
 |0,_,at_=>at_
 |n+1,i,at_=>if i<to then uT V to n (i+1) (if V i<V at_∨V i=V at_∧bO (V at_)=1 then i else at_) else at_
def T00:Ty:=.mk 0 eB 0 []
def nW(k:Int)(s:ByteArray)(n:Int)(ks:List Ex)(a:Int):Ex:=.mk k s n T00 ks [] [] a
def opE(t:Tk)(x y:Ex):Ex:=
 if t.text=⟨#[38,38]⟩ then nW 10 eB 0 [x,y] t.at_ else if t.text=⟨#[124,124]⟩ then nW 11 eB 0 [x,y] t.at_
 else nW 5 eB 0 [nW 5 eB 0 [nW 3 t.text 0 [] t.at_,x] t.at_,y] t.at_
def opAt(ops:List Tk)(i:Nat):Tk:=(ops[i]?).getD zT
def KO(l:List Ex)(i:Nat):Ex:=(l[i]?).getD (nW 0 eB 0 [] 0)
def PD(ops:List Tk)(i:Nat):Nat:=Wd (opAt ops i).text
def mK(l:List Ex)(ops:List Tk):Nat→Nat→Nat→Ex
 |0,f,_=>KO l f
 |n+1,f,to=>if f=to then KO l f else
  let at_:=uT (PD ops) to to (f+1) f
  opE (opAt ops at_) (mK l ops n f at_) (mK l ops n (at_+1) to)
def Lh(V:Nat→Nat):Nat→Bool
 |0=>false
 |i+1=>if 4<V i then Lh V i else decide (V i=4)
def nN(V:Nat→Nat)(len:Nat):Nat→Nat→Option Nat
 |0,_=>none
 |n+1,k=>if k<len then(if V k=4∧Lh V k=true then some k else nN V len n (k+1)) else none
section
variable(L:List Tk)
def okT(k:Int)(x:ByteArray)(a:Nat):Bool:=if k<6 then decide ((ak L a).kind=k) else nJ L x a
def aR(k:Int)(x:ByteArray):GM Tk:=fun _ a=>if okT L k x a then .ok (ak L a) (a+1) else .err 110 (ak L a).at_
def dZ{α:Type}(x:ByteArray)(A B:GM α):GM α:=fun d a=>if nJ L x a then A d (a+1) else B d a
def jH{α:Type}(k:Int)(A B:GM α):GM α:=fun d a=>if(ak L a).kind=k then A d a else B d a
def kR{α:Type}(k:Tk→GM α):GM α:=fun d a=>k (ak L a) d a
def rP{α:Type}(p:GM α):GM α:=fun d a=>if 300<d+1 then .err 111 (ak L a).at_ else p (d+1) a
abbrev sUs:ByteArray:=⟨#[95]⟩
abbrev R5:ByteArray:=⟨#[99,97,115,101]⟩
def WY(w:Int)(a:Nat):Bool:=decide ((ak L a).kind=1)||(decide ((ak L a).kind=2)||(nJ L Qg a||(decide (1≤w)&&decide ((ak L a).kind=3)||(decide (w=1)&&nJ L sUs a||decide (w=2)&&(decide ((ak L a).kind=4)||nJ L R5 a)))))
def VE{α:Type}(w:Int)(A B:GM α):GM α:=fun d a=>if WY L w a then A d a else B d a
mutual
def nI:Nat→GM Pt
 |0=>qH
 |m+1=>kR L fun t=>if t.kind=2 then Cz (aT (.mk 3 t.text 0 [] t.at_)) else if t.kind=1 then Cz (aT (.mk 2 t.text 0 [] t.at_))
   else if t.kind=3 then Cz (aT (.mk 4 eB t.n [] t.at_)) else dZ L sUs (aT (.mk 1 eB 0 [] t.at_))
    (ax (aR L 7 Qg) fun _=>dZ L H7 (aT (.mk 3 sUn 0 [] t.at_)) (ax (uL m) fun x=>ax (aR L 7 H7) fun _=>aT x))
def uL:Nat→GM Pt
 |0=>qH
 |m+1=>rP L (kR L fun t=>ax (nI m) fun x=>if t.kind=2 then ax (kQ m []) fun l=>aT (.mk x.kind x.name x.n l x.at_) else aT x)
def kQ:Nat→List Pt→GM (List Pt)
 |0,_=>qH
 |m+1,l=>VE L 1 (ax (nI m) fun x=>kQ m (l++[x])) (aT l)
end
abbrev sEq:ByteArray:=⟨#[61]⟩
abbrev sBs:ByteArray:=⟨#[92]⟩
abbrev aja:ByteArray:=⟨#[108,101,116]⟩
abbrev sIf:ByteArray:=⟨#[105,102]⟩
abbrev amS:ByteArray:=⟨#[116,104,101,110]⟩
abbrev amW:ByteArray:=⟨#[101,108,115,101]⟩
abbrev acD:ByteArray:=⟨#[114,101,99]⟩
abbrev avM:ByteArray:=⟨#[97,110,100]⟩
abbrev sIn:ByteArray:=⟨#[105,110]⟩
abbrev sOf:ByteArray:=⟨#[111,102]⟩
abbrev amZ:ByteArray:=⟨#[124]⟩
abbrev acE:ByteArray:=⟨#[101,110,100]⟩
abbrev ajd:ByteArray:=⟨#[58]⟩
abbrev amY:ByteArray:=⟨#[44]⟩
abbrev Ms:ByteArray:=⟨#[59]⟩
abbrev ajc:ByteArray:=⟨#[100,101,102]⟩
abbrev BD:ByteArray:=⟨#[102,114,111,109]⟩
abbrev qG:ByteArray:=⟨#[119,104,101,114,101]⟩
abbrev ajb:ByteArray:=⟨#[100,101,114,105,118,105,110,103]⟩
abbrev amX:ByteArray:=⟨#[100,97,116,97]⟩
abbrev aje:ByteArray:=⟨#[99,108,97,115,115]⟩
abbrev amV:ByteArray:=⟨#[105,110,115,116,97,110,99,101]⟩
def yX:GM Tk:=dZ L Qg (ax (aR L 5 eB) fun t=>ax (aR L 7 H7) fun _=>aT t) (aR L 1 eB)
def wH(l:List (ByteArray×Int))(e:Ex):Ex:=l.foldr (fun p e=>nW 6 p.1 0 [e] p.2) e
def vz(l:List Ex)(ops:List Tk):GM Ex:=match nN (PD ops) ops.length ops.length 0 with
 |some k=>fun _ _=>.err 112 (opAt ops k).at_
 |none=>aT (mK l ops ops.length 0 ops.length)
mutual
def iI:Nat→GM Ex
 |0=>qH
 |m+1=>rP L (ax (eT m) fun x=>ax (uf m [x] []) fun r=>vz r.1 r.2)
def uf:Nat→List Ex→List Tk→GM (List Ex×List Tk)
 |0,_,_=>qH
 |m+1,l,o=>jH L 5 (ax (aR L 5 eB) fun t=>ax (eT m) fun x=>uf m (l++[x]) (o++[t])) (aT (l,o))
def eT:Nat→GM Ex
 |0=>qH
 |m+1=>kR L fun t=>dZ L sBs (iL m t.at_) (dZ L aja (dZ L acD (rG m 1 t.at_) (rG m 0 t.at_))
   (dZ L sIf (ax (iI m) fun a=>ax (aR L 6 amS) fun _=>ax (iI m) fun b=>ax (aR L 6 amW) fun _=>ax (iI m) fun c=>aT (nW 9 eB 0 [a,b,c] t.at_))
    (ax (nG m) fun x=>lQ m t.at_ x)))
def lQ:Nat→Int→Ex→GM Ex
 |0,_,_=>qH
 |m+1,w,x=>VE L 2 (ax (nG m) fun y=>lQ m w (nW 5 eB 0 [x,y] w)) (aT x)
def iL:Nat→Int→GM Ex
 |0,_=>qH
 |m+1,w=>ax (aR L 1 eB) fun t=>jG m [(t.text,w)]
def jG:Nat→List (ByteArray×Int)→GM Ex
 |0,_=>qH
 |m+1,l=>jH L 1 (kR L fun t=>Cz (jG m (l++[(t.text,t.at_)]))) (ax (aR L 7 GK) fun _=>ax (iI m) fun e=>aT (wH l e))
def rG:Nat→Int→Int→GM Ex
 |0,_,_=>qH
 |m+1,k,w=>ax (Gi m) fun b=>ax (gY m [b]) fun l=>ax (aR L 6 sIn) fun _=>ax (iI m) fun e=>aT (.mk 7 eB k T00 [e] [] l w)
def Gi:Nat→GM Bd
 |0=>qH
 |m+1=>ax (yX L) fun t=>ax (aR L 7 sEq) fun _=>ax (iI m) fun e=>aT (.mk t.text e t.at_)
def gY:Nat→List Bd→GM (List Bd)
 |0,_=>qH
 |m+1,l=>dZ L avM (ax (Gi m) fun b=>gY m (l++[b])) (aT l)
def nG:Nat→GM Ex
 |0=>qH
 |m+1=>kR L fun t=>if t.kind=1 then Cz (aT (nW 3 t.text 0 [] t.at_)) else if t.kind=2 then Cz (aT (nW 4 t.text 0 [] t.at_))
   else if t.kind=3 then Cz (aT (nW 1 eB t.n [] t.at_)) else if t.kind=4 then Cz (aT (nW 2 t.text 0 [] t.at_))
   else dZ L R5 (ax (iI m) fun x=>ax (aR L 6 sOf) fun _=>ax (lS m []) fun l=>ax (aR L 6 acE) fun _=>aT (.mk 8 eB 0 T00 [x] l [] t.at_))
    (ax (aR L 7 Qg) fun _=>dZ L H7 (aT (nW 4 sUn 0 [] t.at_)) (jH L 5 (ax (aR L 5 eB) fun o=>ax (aR L 7 H7) fun _=>aT (nW 3 o.text 0 [] t.at_))
     (ax (iI m) fun y=>dZ L ajd (ax (jy L m) fun ty=>ax (aR L 7 H7) fun _=>aT (.mk 12 eB 0 ty [y] [] [] t.at_)) (ax (aR L 7 H7) fun _=>aT y))))
def lS:Nat→List Al→GM (List Al)
 |0,_=>qH
 |m+1,l=>ax (uL L m) fun p=>ax (aR L 7 GK) fun _=>ax (iI m) fun e=>dZ L amZ (lS m (l++[.mk p e])) (aT (l++[.mk p e]))
end
def lY:Nat→List ByteArray→GM (List ByteArray)
 |0,_=>qH
 |m+1,l=>jH L 1 (ax (aR L 1 eB) fun t=>lY m (l++[t.text])) (aT l)
def rT:Nat→List ByteArray→GM (List ByteArray)
 |0,_=>qH
 |m+1,l=>dZ L amY (ax (aR L 2 eB) fun t=>rT m (l++[t.text])) (aT l)
def kZ(m:Nat):GM (List ByteArray):=ax (aR L 2 eB) fun t=>rT L m [t.text]
def dI(m:Nat)(l:List Ty):GM (List Ty):=fun d a=>wU L m d a l
def kU:Nat→List Cn→GM (List Cn)
 |0,_=>qH
 |m+1,l=>ax (aR L 2 eB) fun c=>ax (dI L m []) fun tl=>dZ L amZ (kU m (l++[⟨c.text,tl,c.at_⟩])) (aT (l++[⟨c.text,tl,c.at_⟩]))
def F7(m:Nat):GM Dt:=ax (aR L 2 eB) fun t=>ax (lY L m []) fun ps=>ax (aR L 7 sEq) fun _=>ax (kU L m []) fun cs=>
 dZ L ajb (ax (aR L 7 Qg) fun _=>ax (kZ L m) fun ds=>ax (aR L 7 H7) fun _=>aT ⟨t.text,ps,cs,ds,t.at_⟩) (aT ⟨t.text,ps,cs,[],t.at_⟩)
def gQ:Nat→List Md→List Bd→GM (List Md×List Bd)
 |0,_,_=>qH
 |m+1,ms,ds=>dZ L acE (aT (ms,ds)) (dZ L ajc (ax (Gi L m) fun b=>ax (aR L 7 Ms) fun _=>gQ m ms (ds++[b]))
   (ax (yX L) fun n=>ax (aR L 7 ajd) fun _=>ax (jy L m) fun ty=>ax (aR L 7 Ms) fun _=>gQ m (ms++[⟨n.text,ty,n.at_⟩]) ds))
def OA(m:Nat):GM (List ByteArray):=dZ L BD (kZ L m) (aT [])
def xX(m:Nat):GM Cl:=ax (aR L 2 eB) fun t=>ax (aR L 1 eB) fun v=>ax (OA L m) fun sup=>ax (aR L 6 qG) fun _=>
 ax (gQ L m [] []) fun r=>aT ⟨t.text,v.text,sup,r.1,r.2,t.at_⟩
def qN:Nat→List Pd→GM (List Pd)
 |0,_=>qH
 |m+1,l=>ax (aR L 2 eB) fun c=>ax (aR L 1 eB) fun v=>dZ L amY (qN m (l++[⟨c.text,.mk 1 v.text 0 []⟩])) (aT (l++[⟨c.text,.mk 1 v.text 0 []⟩]))
def jJ:Nat→List Bd→GM (List Bd)
 |0,_=>qH
 |m+1,l=>dZ L acE (aT l) (ax (aR L 6 ajc) fun _=>ax (Gi L m) fun b=>ax (aR L 7 Ms) fun _=>jJ m (l++[b]))
def nV(m:Nat):GM It:=ax (aR L 2 eB) fun t=>ax (gG L m) fun h=>ax (dZ L BD (qN L m []) (aT [])) fun c=>ax (aR L 6 qG) fun _=>
 ax (jJ L m []) fun bs=>aT ⟨t.text,h,c,bs,t.at_⟩
def dX:Nat→Pg→GM Pg
 |0,_=>qH
 |m+1,p=>jH L 0 (aT p) (dZ L amX (ax (F7 L m) fun x=>ax (aR L 7 Ms) fun _=>dX m {p with datas:=p.datas++[x] })
   (dZ L aje (ax (xX L m) fun x=>ax (aR L 7 Ms) fun _=>dX m {p with classes:=p.classes++[x] })
   (dZ L amV (ax (nV L m) fun x=>ax (aR L 7 Ms) fun _=>dX m {p with insts:=p.insts++[x] })
   (ax (aR L 6 ajc) fun _=>ax (Gi L m) fun x=>ax (aR L 7 Ms) fun _=>dX m {p with binds:=p.binds++[x] }))))
end
theorem YS{l:List UInt8}{e:Int}(h:Lx.oneL l=.error e):e≠0:=by
 have hp:∀{k:Int} {x:List UInt8} {n:Int} {r:List UInt8},Lx.putL k x n r=.error e→e≠0:=by
  intro k x n r h;unfold Lx.putL at h;split at h
  ·cases h;decide
  ·cases h
 unfold Lx.oneL at h;split at h
 ·cases h;decide
 ·split at h
  ·exact hp h
  ·split at h
   ·split at h
    ·cases h;decide
    ·exact hp h
   ·split at h
    ·split at h
     ·cases h;decide
     ·exact hp h
    ·split at h
     ·exact hp h
     ·split at h
      ·exact hp h
      ·cases h;decide
abbrev D(b:ByteArray)(i:Nat):List UInt8:=b.data.toList.drop i
theorem atb(b:ByteArray)(i:Nat):(D b i).length=b.size-i:=by rw[List.length_drop];rfl
def ayI(b:ByteArray):Tk:=⟨0,eB,0,(b.size:Int)⟩
def Xc(b:ByteArray)(t:Lx.LTok):Tk:=ofTok (Lx.toTok b.size t)
theorem atN(b:ByteArray):Xc b (0,[],0,0)=ayI b:=rfl
theorem HZ:∀(f:Nat) (l:List UInt8) (ts:List Lx.LTok),Lx.scanL f l=.ok ts→ts.length≤l.length+1
 |0,l,ts,h=>by cases h;simp
 |f+1,[],ts,h=>by cases h;simp
 |f+1,c::l,ts,h=>by
  simp only[Lx.scanL] at h;cases h1:Lx.oneL (c::l) with
  |error e=>rw[h1] at h;cases h
  |ok p=>
   obtain⟨k,x,n,r⟩:=p;rw[h1] at h;simp only at h;cases h2:Lx.scanL f (Lx.skipC false r) with
   |error e=>rw[h2] at h;cases h
   |ok ts'=>
    rw[h2] at h;cases h;have:=HZ f _ _ h2;have:=Lx.oneL_shorter h1;simp;omega
def rq(b:ByteArray):Except (Int×Nat) (List Tk):=match Lx.scanP b with
 |.ok ts=>.ok (ts.map ofTok)
 |.error p=>.error p
theorem D8(b:ByteArray)(hb:b.size≤60000):rq b=match Lx.spoilAll b.data.toList with
  |some m=>.error (100,b.size-m)
  |none=>match Lx.scanL (b.size+1) (D b (Lx.skipPos b 0)) with | .error (e,k)=>.error (e,b.size-k) | .ok ts=>.ok (ts.map (Xc b)):=by
 unfold rq;rw[Lx.scanP_form b hb];cases Lx.spoilAll b.data.toList with
 |some m=>rfl
 |none=>
  simp only;have hd:D b (Lx.skipPos b 0)=Lx.skipC false b.data.toList:=Lx.drop_skipPos b 0;have e:Lx.scanAll b.data.toList=Lx.scanL (b.size+1) (D b (Lx.skipPos b 0)):=by
   rw[hd];unfold Lx.scanAll;have h1:=Lx.skipC_length false b.data.toList;have hl:b.data.toList.length=b.size:=rfl;exact Lx.scanL_two _ _ _ (by omega) (by omega)
  rw[e];cases Lx.scanL (b.size+1) (D b (Lx.skipPos b 0)) with
  |error p=>rfl
  |ok ts=>simp[Lx.liftScan,Xc]
def TOk(k:Int)(x:List UInt8):Prop:=1≤k∧k≤7∧(k=6→Lx.keyList.contains x=true)∧(k=7→Lx.markList.contains x=true)
theorem adh:Lx.markList.contains [95]=true:=by kernel_rfl
theorem ZC(x:List UInt8):TOk (Lx.kindL x) x:=by
 unfold Lx.kindL;split
 ·rename_i h;exact⟨by decide,by decide,fun _=>h,fun h=>absurd h (by decide)⟩
 ·split
  ·rename_i h
   refine⟨by decide,by decide,fun h=>absurd h (by decide),fun _=>?_⟩;rw[eq_of_beq h];exact adh
  ·have key:∀q:Bool,TOk (if q=true then 2 else 1) x:=fun q=>by
    cases q
    ·exact⟨by decide,by decide,fun h=>absurd h (by decide),fun h=>absurd h (by decide)⟩
    ·exact⟨by decide,by decide,fun h=>absurd h (by decide),fun h=>absurd h (by decide)⟩
   exact key _
theorem V4{l:List UInt8}{k n:Int}{x r:List UInt8}(h:Lx.oneL l=.ok (k,x,n,r)):TOk k x:=by
 have hp:∀{k':Int} {x':List UInt8} {n':Int} {r':List UInt8},TOk k' x'→Lx.putL k' x' n' r'=.ok (k,x,n,r)→TOk k x:=by
  intro k' x' n' r' ht h;obtain⟨_,rfl,rfl,_⟩:=Lx.putL_rest h;exact ht
 unfold Lx.oneL at h;split at h
 ·cases h
 ·split at h
  ·exact hp (ZC _) h
  ·split at h
   ·split at h
    ·cases h
    ·exact hp ⟨by decide,by decide,fun h=>absurd h (by decide),fun h=>absurd h (by decide)⟩ h
   ·split at h
    ·split at h
     ·cases h
     ·exact hp ⟨by decide,by decide,fun h=>absurd h (by decide),fun h=>absurd h (by decide)⟩ h
    ·split at h
     ·refine hp ?_ h
      split
      ·rename_i hm;exact⟨by decide,by decide,fun h=>absurd h (by decide),fun _=>hm⟩
      ·exact⟨by decide,by decide,fun h=>absurd h (by decide),fun h=>absurd h (by decide)⟩
     ·split at h
      ·rename_i hm
       exact hp ⟨by decide,by decide,fun h=>absurd h (by decide),fun _=>hm⟩ h
      ·cases h
theorem Mq:∀(f:Nat) (l:List UInt8) (ts:List Lx.LTok),Lx.scanL f l=.ok ts→∃ts',ts=ts'++[(0,[],0,0)]∧∀t∈ts',TOk t.1 t.2.1
 |0,l,ts,h=>by cases h;exact⟨[],rfl,fun t ht=>by cases ht⟩
 |f+1,[],ts,h=>by cases h;exact⟨[],rfl,fun t ht=>by cases ht⟩
 |f+1,c::l,ts,h=>by
  simp only[Lx.scanL] at h;cases h1:Lx.oneL (c::l) with
  |error e=>rw[h1] at h;cases h
  |ok p=>
   obtain⟨k,x,n,r⟩:=p;rw[h1] at h;simp only at h;cases h2:Lx.scanL f (Lx.skipC false r) with
   |error e=>rw[h2] at h;cases h
   |ok ts'=>
    rw[h2] at h;cases h;obtain⟨t2,e1,e2⟩:=Mq f _ _ h2;refine⟨(k,x,n,(c::l).length)::t2,by rw[e1];rfl,fun t ht=>?_⟩;rcases List.mem_cons.1 ht with rfl|ht
    ·exact V4 h1
    ·exact e2 t ht
theorem H6:∀(f:Nat) (l:List UInt8) (e:Int) (k:Nat),Lx.scanL f l=.error (e,k)→e≠0
 |0,l,e,k,h=>by cases h
 |f+1,[],e,k,h=>by cases h
 |f+1,c::l,e,k,h=>by
  simp only[Lx.scanL] at h;cases h1:Lx.oneL (c::l) with
  |error e=>rw[h1] at h;cases h;exact YS h1
  |ok p=>
   obtain⟨k,x,n,r⟩:=p;rw[h1] at h;simp only at h;cases h2:Lx.scanL f (Lx.skipC false r) with
   |error e=>rw[h2] at h;cases h;exact H6 f _ _ _ h2
   |ok ts'=>rw[h2] at h;cases h
theorem QE:Lx.keyList.contains [40]=false∧Lx.keyList.contains [95]=false∧Lx.markList.contains [99,97,115,101]=false:=⟨by kernel_rfl,by kernel_rfl,by kernel_rfl⟩
theorem xe{x:List UInt8}{a:Array UInt8}(h:Lx.textOf x=⟨a⟩):x=a.toList:=by
 have:=congrArg (fun b:ByteArray=>b.data.toList) h;exact this
theorem aiu(b:ByteArray)(ts:List Lx.LTok)(hk:∀t∈ts,TOk t.1 t.2.1)(hl:ts.length≤60000):I6 ((ts++[(0,[],0,0)]).map (Xc b)):=by
 have hin:∀a (h:a<ts.length),ak ((ts++[(0,[],0,0)]).map (Xc b)) a=Xc b ts[a]:=fun a h=>by
  unfold ak;rw[List.getElem?_map,List.getElem?_append_left h,List.getElem?_eq_getElem h];rfl
 have hout:∀a,ts.length≤a→(ak ((ts++[(0,[],0,0)]).map (Xc b)) a).kind=0:=fun a h=>by
  unfold ak;rw[List.getElem?_map,List.getElem?_append_right h];cases hd:a-ts.length with
  |zero=>rfl
  |succ n=>rfl
 have hc:∀a,(∃t,TOk t.1 t.2.1∧ak ((ts++[(0,[],0,0)]).map (Xc b)) a=Xc b t)∨(ak ((ts++[(0,[],0,0)]).map (Xc b)) a).kind=0:=fun a=>by
  by_cases h:a<ts.length
  ·exact .inl ⟨ts[a],hk _ (List.getElem_mem h),hin a h⟩
  ·exact .inr (hout a (by omega))
 have hkd:∀t:Lx.LTok,(Xc b t).kind=t.1:=fun t=>rfl
 have htx:∀t:Lx.LTok,(Xc b t).text=Lx.textOf t.2.1:=fun t=>rfl
 refine⟨by simp;omega,by simp,fun a h=>?_,fun a=>?_,fun a h=>?_,fun a h=>?_⟩
 ·have:a<ts.length:=by
   apply Decidable.byContradiction;intro hn;exact h (hout a (by omega))
  simp;omega
 ·rcases hc a with⟨t,ht,e⟩|e
  ·rw[e,hkd];exact ht.2.1
  ·rw[e];decide
 ·rcases hc a with⟨t,ht,e⟩|e
  ·rw[e,hkd] at h
   have hx:=ht.2.2.1 h;rw[e,htx];refine⟨fun he=>?_,fun he=>?_⟩
   ·rw[xe he] at hx
    exact absurd (hx.symm.trans QE.1) (by decide)
   ·rw[xe he] at hx
    exact absurd (hx.symm.trans QE.2.1) (by decide)
  ·rw[e] at h;exact absurd h (by decide)
 ·rcases hc a with⟨t,ht,e⟩|e
  ·rw[e,hkd] at h
   have hx:=ht.2.2.2 h;rw[e,htx];intro he;rw[xe he] at hx;exact absurd (hx.symm.trans QE.2.2) (by decide)
  ·rw[e] at h;exact absurd h (by decide)
theorem D7{b:ByteArray}{L:List Tk}(h:rq b=.ok L):b.size≤60000∧L.length≤60001∧I6 L:=by
 have hb:b.size≤60000:=by
  apply Decidable.byContradiction;intro hn;unfold rq Lx.scanP at h;rw[if_pos (by omega)] at h;cases h
 rw[D8 b hb] at h;split at h
 ·cases h
 ·split at h
  ·cases h
  ·rename_i ts hs
   cases h;have hl:=HZ _ _ _ hs;rw[atb] at hl;obtain⟨t2,rfl,hk⟩:=Mq _ _ _ hs;simp at hl;exact⟨hb,by simp;omega,aiu b t2 hk (by omega)⟩
theorem HY{b:ByteArray}{e:Int}{w:Nat}(h:rq b=.error (e,w)):e≠0:=by
 by_cases hb:b.size≤60000
 ·rw[D8 b hb] at h
  split at h
  ·cases h;decide
  ·split at h
   ·rename_i hs;cases h;exact H6 _ _ _ _ hs
   ·cases h
 ·unfold rq Lx.scanP at h
  rw[if_pos (by omega)] at h;cases h;decide
@[simp] theorem atn(k:Int)(s:ByteArray)(n:Int)(l:List Ty):(Ty.mk k s n l).kind=k:=rfl
@[simp] theorem atm(k:Int)(s:ByteArray)(n:Int)(l:List Ty):(Ty.mk k s n l).name=s:=rfl
@[simp] theorem aAm(k:Int)(s:ByteArray)(n:Int)(l:List Ty):(Ty.mk k s n l).n=n:=rfl
@[simp] theorem ato(k:Int)(s:ByteArray)(n:Int)(l:List Ty):(Ty.mk k s n l).kids=l:=rfl
@[simp] theorem atl:aV []=.rows []:=rfl
section
variable{k:Int}{s:ByteArray}{n:Int}{l:List Pt}{a:Int}
@[simp] theorem aty:(Pt.mk k s n l a).kind=k:=rfl
@[simp] theorem atx:(Pt.mk k s n l a).name=s:=rfl
@[simp] theorem aAV:(Pt.mk k s n l a).n=n:=rfl
@[simp] theorem atz:(Pt.mk k s n l a).kids=l:=rfl
@[simp] theorem azA:(Pt.mk k s n l a).at_=a:=rfl
end
@[simp] theorem atw:pts []=.rows []:=rfl
section
variable{k:Int}{s:ByteArray}{n:Int}{t:Ty}{ks:List Ex}{al:List Al}{bs:List Bd}{a:Int}
@[simp] theorem atT:(Ex.mk k s n t ks al bs a).kind=k:=rfl
@[simp] theorem atS:(Ex.mk k s n t ks al bs a).name=s:=rfl
@[simp] theorem aBX:(Ex.mk k s n t ks al bs a).n=n:=rfl
@[simp] theorem aBW:(Ex.mk k s n t ks al bs a).t=t:=rfl
@[simp] theorem atU:(Ex.mk k s n t ks al bs a).kids=ks:=rfl
@[simp] theorem atV:(Ex.mk k s n t ks al bs a).alts=al:=rfl
@[simp] theorem asn:(Ex.mk k s n t ks al bs a).binds=bs:=rfl
@[simp] theorem azT:(Ex.mk k s n t ks al bs a).at_=a:=rfl
@[simp] theorem auc:(nW k s n ks a).kind=k:=rfl
@[simp] theorem aub:(nW k s n ks a).name=s:=rfl
@[simp] theorem aB0:(nW k s n ks a).n=n:=rfl
@[simp] theorem aBZ:(nW k s n ks a).t=T00:=rfl
@[simp] theorem aud:(nW k s n ks a).kids=ks:=rfl
@[simp] theorem aue:(nW k s n ks a).alts=[]:=rfl
@[simp] theorem asD:(nW k s n ks a).binds=[]:=rfl
@[simp] theorem az0:(nW k s n ks a).at_=a:=rfl
end
@[simp] theorem atq:T00.kind=0:=rfl
@[simp] theorem atp:T00.name=eB:=rfl
@[simp] theorem aAw:T00.n=0:=rfl
@[simp] theorem atr:T00.kids=[]:=rfl
@[simp] theorem atQ:exs []=.rows []:=rfl
@[simp] theorem auq:lU []=.rows []:=rfl
@[simp] theorem qz:bg []=.rows []:=rfl
@[simp] theorem auo(s:ByteArray)(e:Ex)(a:Int):(Bd.mk s e a).name=s:=rfl
@[simp] theorem aB7(s:ByteArray)(e:Ex)(a:Int):(Bd.mk s e a).e=e:=rfl
@[simp] theorem az4(s:ByteArray)(e:Ex)(a:Int):(Bd.mk s e a).at_=a:=rfl
@[simp] theorem aB8(p:Pt)(e:Ex):(Al.mk p e).p=p:=rfl
@[simp] theorem aB9(p:Pt)(e:Ex):(Al.mk p e).e=e:=rfl
@[simp] theorem amu:strs []=.rows []:=rfl
@[simp] theorem auh:nK []=.rows []:=rfl
@[simp] theorem atO:jb []=.rows []:=rfl
@[simp] theorem atC:jT []=.rows []:=rfl
variable{L:List Tk}
abbrev Gy(t:Ty):List PV:=[iv t.kind,sv t.name,iv t.n,aV t.kids]
theorem amz:jQ PG 42 4 56:=jQ.of (by kernel_rfl)
theorem Jz(l:List Ty):Raw 4 (l.map Ty.cells) (l.map Ty.cells):=.of l Ty.wd (fun x=>by rw[Ty.cells_eq];rfl) (fun x=>by rw[Ty.cells_eq];simp)
theorem ab1(x y:Ty):aV [x,y]=.rows [Gy x,Gy y]:=by simp[aV,Ty.cells_eq]
abbrev W9(t:Pt):List PV:=[iv t.kind,sv t.name,iv t.n,pts t.kids,iv t.at_]
theorem amB:jQ PG 81 5 64:=jQ.of (by kernel_rfl)
def dD(l:List ByteArray)(i:Nat):Nat:=Wd ((l[i]?).getD eB)
abbrev jP(e:Ex):List PV:=[iv e.kind,sv e.name,iv e.n,iv e.t.kind,sv e.t.name,iv e.t.n,aV e.t.kids,exs e.kids,lU e.alts,bg e.binds,iv e.at_]
theorem Raw.ns'{sz:Nat}{es cs:List (List PV)}(h:Raw sz es cs):NS (.rows es):=.rows _ h.ns
theorem JA(l:List Ex):Raw 11 (l.map Ex.cells) (l.map Ex.cells):=.of l Ex.wd (fun x=>by rw[Ex.cells_eq];rfl) (fun x=>by rw[Ex.cells_eq];simp)
theorem R7(l:List Al):Raw 16 (l.map Al.cells) (l.map Al.cells):=.of l Al.wd (fun x=>by rw[Al.cells_eq];rfl) (fun x=>by rw[Al.cells_eq];simp)
theorem vL(l:List Bd):Raw 13 (l.map Bd.cells) (l.map Bd.cells):=.of l Bd.wd (fun x=>by rw[Bd.cells_eq];rfl) (fun x=>by rw[Bd.cells_eq];simp)
theorem mU(x:Ex):exs [x]=.rows [jP x]:=by simp[exs,Ex.cells_eq]
theorem Wp(x y z:Ex):exs [x,y,z]=.rows [jP x,jP y,jP z]:=by simp[exs,Ex.cells_eq]
theorem Ho(c:List PV):fH [c]=[fC c]:=by rw[rR,qV]
def WW(e:Ex)(ys:List PV):Prop:=∃A B C D,ys=[iv e.kind,sv e.name,iv e.n,iv e.t.kind,sv e.t.name,iv e.t.n,.rows A,.rows B,.rows C,.rows D,iv e.at_]∧Raw 4 A (e.t.kids.map Ty.cells)∧Raw 11 B (e.kids.map Ex.cells)∧Raw 16 C (e.alts.map Al.cells)∧Raw 13 D (e.binds.map Bd.cells)
theorem WW.wd{e:Ex}{ys:List PV}(h:WW e ys):fC ys=jP e:=by
 obtain⟨A,B,C,D,rfl,h1,h2,h3,h4⟩:=h;simp[h1.wd,h2.wd,h3.wd,h4.wd];exact⟨rfl,rfl,rfl,rfl⟩
theorem WW.ns{e:Ex}{ys:List PV}(h:WW e ys):jh ys:=by
 obtain⟨A,B,C,D,rfl,h1,h2,h3,h4⟩:=h;simp[h1.ns',h2.ns',h3.ns',h4.ns']
theorem WW.plain(e:Ex):WW e (jP e):=⟨_,_,_,_,rfl,Jz _,JA _,R7 _,vL _⟩
theorem WW.two{x y:Ex}{xs ys:List PV}(h1:WW x xs)(h2:WW y ys):Raw 11 [xs,ys] ([x,y].map Ex.cells):=by
 have e1:xs.length=11:=by obtain⟨A,B,C,D,rfl,_⟩:=h1;rfl
 have e2:ys.length=11:=by obtain⟨A,B,C,D,rfl,_⟩:=h2;rfl
 have:=(Raw.one (sz:=11) (c':=x.cells) (by rw[Ex.cells_eq];exact h1.wd) e1 h1.ns).app (c':=y.cells) (by rw[Ex.cells_eq];exact h2.wd) e2 h2.ns;exact this
theorem WW.raw(k:Int)(s:ByteArray)(n:Int)(ks:List Ex)(a:Int)(kd:PV)(hk:kd=nS∧ks=[]∨∃B,kd=.rows B∧Raw 11 B (ks.map Ex.cells)){y:Ex}{ys:List PV}(h2:WW y ys):Raw 11 [[iv k,sv s,iv n,iv 0,sv eB,iv 0,nS,kd,nS,nS,iv a],ys] ([nW k s n ks a,y].map Ex.cells):=by
 have e2:ys.length=11:=by obtain⟨A,B,C,D,rfl,_⟩:=h2;rfl
 have e1:fC [iv k,sv s,iv n,iv 0,sv eB,iv 0,nS,kd,nS,nS,iv a]=(nW k s n ks a).cells:=by
  rw[Ex.cells_eq];rcases hk with⟨rfl,rfl⟩|⟨B,rfl,hB⟩
  ·simp
  ·simp only[vF,LG,RH,RF,RG,hB.wd];rfl
 have hn:jh [iv k,sv s,iv n,iv 0,sv eB,iv 0,nS,kd,nS,nS,iv a]:=by
  rcases hk with⟨rfl,rfl⟩|⟨B,rfl,hB⟩
  ·simp
  ·have:=hB.ns';simp[this]
 have:=(Raw.one (sz:=11) e1 rfl hn).app (c':=y.cells) (by rw[Ex.cells_eq];exact h2.wd) e2 h2.ns;exact this
abbrev tX(b:Bd):List PV:=[sv b.name,iv b.e.kind,sv b.e.name,iv b.e.n,iv b.e.t.kind,sv b.e.t.name,iv b.e.t.n,aV b.e.t.kids,exs b.e.kids,lU b.e.alts,bg b.e.binds,iv b.e.at_,iv b.at_]
abbrev alC(x:Al):List PV:=[iv x.p.kind,sv x.p.name,iv x.p.n,pts x.p.kids,iv x.p.at_,iv x.e.kind,sv x.e.name,iv x.e.n,iv x.e.t.kind,sv x.e.t.name,iv x.e.t.n,aV x.e.t.kids,exs x.e.kids,lU x.e.alts,bg x.e.binds,iv x.e.at_]
abbrev alP(p:Pt)(e:Ex):List PV:=[iv p.kind,sv p.name,iv p.n,pts p.kids,iv p.at_,iv e.kind,sv e.name,iv e.n,iv e.t.kind,sv e.t.name,iv e.t.n,aV e.t.kids,exs e.kids,lU e.alts,bg e.binds,iv e.at_]
theorem Vj(x:Bd):bg [x]=.rows [tX x]:=by simp[bg,Bd.cells_eq]
theorem agm(x:Al):lU [x]=.rows [alC x]:=by simp[lU,Al.cells_eq]
theorem Qc:jQ PG 26 13 192:=jQ.of (by kernel_rfl)
theorem avt:jQ PG 50 16 232:=jQ.of (by kernel_rfl)
theorem VH:jQ PG 49 11 168:=jQ.of (by kernel_rfl)
theorem ach:jQ PG 38 1 16:=jQ.of (by kernel_rfl)
theorem acK(l:List Tk):Raw 4 (l.map Tk.cells) (l.map Tk.cells):=.of l (fun x=>by simp[Tk.cells]) (fun x=>rfl) (fun x=>by simp[Tk.cells])
theorem yK(l:List ByteArray):Raw 1 (l.map fun s=>[sv s]) (l.map fun s=>[sv s]):=.of l (fun x=>by simp) (fun x=>rfl) (fun x=>by simp)
theorem CF(ops:List Tk):dD (ops.map Tk.text)=PD ops:=by
 funext i;unfold dD PD opAt;rw[List.getElem?_map];cases ops[i]?<;>rfl
theorem IX(V:Nat→Nat)(len:Nat):∀(n i k:Nat),nN V len n i=some k→k<len
 |0,i,k,h=>by rw[nN] at h;cases h
 |n+1,i,k,h=>by
  rw[nN] at h;split at h
  ·split at h
   ·cases h;assumption
   ·exact IX V len n _ k h
  ·cases h
theorem CB(m:Nat):jy L (m+1)=rP L (kR L fun t=>ax (if t.kind=2 then Cz (ax (dI L m []) fun l=>aT (.mk 3 t.text 0 l)) else gG L m) fun x=>dZ L GK (ax (jy L m) fun y=>aT (.mk 3 GK 0 [x,y])) (aT x)):=by
 funext d a;rw[jy];unfold rP kR ax dZ aT;by_cases h:300<d+1
 ·simp[h]
 ·by_cases k:(ak L a).kind=2<;>simp[h,k,Cz,ax,aT,dI]
theorem zP(m:Nat):gG L (m+1)=kR L fun t=>if t.kind=2 then Cz (aT (.mk 3 t.text 0 [])) else if t.kind=1 then Cz (aT (.mk 1 t.text 0 []))
  else ax (aR L 7 Qg) fun _=>dZ L H7 (aT (.mk 3 sUn 0 [])) (ax (jy L m) fun x=>ax (aR L 7 H7) fun _=>aT x):=by
 funext d a;rw[gG];unfold kR;by_cases k2:(ak L a).kind=2
 ·simp[k2,Cz,aT]
 ·by_cases k1:(ak L a).kind=1
  ·simp[k2,k1,Cz,aT]
  ·simp only[k2,k1,if_false]
   unfold ax aR dZ aT okT agx;cases h1:nJ L Qg a with
   |false=>simp
   |true=>
    cases h2:nJ L H7 (a+1) with
    |true=>simp[h2]
    |false=>
     simp[h2];cases jy L m d (a+1) with
     |out=>rfl
     |err e w=>rfl
     |ok x b=>simp;split<;>rfl
theorem tu(m:Nat)(l:List Ty):dI L (m+1) l=VE L 0 (ax (gG L m) fun x=>dI L m (l++[x])) (aT l):=by
 funext d a;unfold dI VE ax aT;rw[wU];have:WY L 0 a=stT L a:=by unfold WY stT;simp
 rw[this]
theorem ajw(l:List Tk):Raw 4 (l.map Tk.cells) (l.map Tk.cells):=.of l (fun x=>by simp[Tk.cells]) (fun x=>rfl) (fun x=>by simp[Tk.cells])
theorem Ph(l:List Tk)(x:Tk)(k:PV→bG)(hl:l.length≤3000000):pO PG .fail 102 (.pv (.rows (l.map Tk.cells))) (.pv (.rows [[iv x.kind,sv x.text,iv x.n,iv x.at_]])) k=k (.rows ((l++[x]).map Tk.cells)):=by
 rw[bD (P:=PG) (d:=.fail) DZ (ajw l) (c:=[iv x.kind,sv x.text,iv x.n,iv x.at_]) rfl (by simp) (by simp;omega) (by decide)];simp[Tk.cells]
end Go.Proofs.YtfphhabaeggenaaGreatDoor
namespace Go.Proofs.YtfphhabaeggenaaGreatDoor
open Go.RowKit
abbrev ps(L:List Tk)(a:Nat)(d:Int)(l:List PV):List PV:=dA L::iv a::iv d::l
section
variable{L:List Tk}(hW:I6 L)
theorem Xx{a:Nat}(h:a<L.length):L[a]? = some (ak L a):=by
 unfold ak;rw[List.getElem?_eq_getElem h];rfl
theorem eH{a:Nat}(h:a<L.length)(d:PV):ev (ap7 (dA L) (iv a) d)=some (0,dA L::iv a::d::(ak L a).cells):=aS.of (by
 rw[ayh];have h2:¬L.length≤a:=by omega
 simp[rJ (Xx h),Tk.cells])
include hW
theorem I6.w1{a:Nat}(h:a<L.length):IntKind.i64.wrap ((a:Int)+1)=((a+1:Nat):Int):=by
 have:=hW.len;rw[bR (by omega)];omega
theorem qd{a:Nat}(h:a<L.length)(d:PV):ev (apY (dA L) (iv a) d)=some (0,dA L::iv (a+1:Nat)::d::(ak L a).cells):=aS.of (by
 rw[ax4];have hw:=hW.w1 h;simp[eH h,Tk.cells,hw])
theorem Qs{a:Nat}(h:a<L.length)(x:ByteArray)(d:PV):ev (apV (sv x) (dA L) (iv a) d)=some (0,[dA L,iv a,d,bv (nJ L x a)]):=aS.of (by
 rw[ax0];have ht:=hW.top a;unfold nJ;simp[eH h,Tk.cells];by_cases h7:(ak L a).kind=7
 ·by_cases hx:(ak L a).text=x<;>simp[h7,hx]
 ·by_cases h6:(ak L a).kind=6
  ·by_cases hx:(ak L a).text=x<;>simp[h6,hx]
  ·have:¬6≤(ak L a).kind:=by omega
   simp[h7,h6,this])
theorem dB{a:Nat}(h:a<L.length)(x:ByteArray)(d:PV):ev (ap6 (sv x) (dA L) (iv a) d)=some (0,[dA L,iv (if nJ L x a then a+1 else a:Nat),d,bv (nJ L x a)]):=aS.of (by
 rw[ayg];have hw:=hW.w1 h;cases hi:nJ L x a<;>simp[Qs hW h,hi,hw])
theorem pq(e w:Int)(a d:PV):ev (apX (iv e) (iv w) (dA L) a d)=some (0,[dA L,a,d,iv e,iv w]):=aS.of (by
 rw[ax3];simp)
theorem aJ{a:Nat}(h:a<L.length)(x:ByteArray)(d:PV):ev (ap5 (sv x) (dA L) (iv a) d)=some (if nJ L x a then(0,dA L::iv (a+1:Nat)::d::(ak L a).cells) else(1,[dA L,iv a,d,iv 110,iv (ak L a).at_])):=aS.of (by
 rw[ayc];cases hi:nJ L x a<;>simp[Qs hW h,hi,qd hW h,eH h,Tk.cells,pq hW])
theorem bY{a:Nat}(h:a<L.length)(k:Int)(d:PV):ev (ajI (iv k) (dA L) (iv a) d)=some (if(ak L a).kind=k then(1,dA L::iv (a+1:Nat)::d::(ak L a).cells) else(0,[dA L,iv a,d,iv 110,iv (ak L a).at_])):=aS.of (by
 rw[ayi];by_cases hi:(ak L a).kind=k
 ·simp[eH h,Tk.cells,hi,qd hW h]
 ·simp[eH h,Tk.cells,hi,pq hW])
theorem Qt{a:Nat}(h:a<L.length){d:Int}(h0:0≤d)(h1:d≤300):ev (ap0 (dA L) (iv a) (iv d))=some (if 300<d+1 then(0,[dA L,iv a,iv (d+1),iv 111,iv (ak L a).at_]) else(1,[dA L,iv a,iv (d+1)])):=aS.of (by
 rw[ax6];have hw:IntKind.i64.wrap (d+1)=d+1:=bR (by omega);by_cases hi:300<d+1
 ·simp[hw,hi,eH h,Tk.cells,pq hW]
 ·simp[hw,hi])
theorem yP{a:Nat}(h:a<L.length)(d:PV):ev (apU (dA L) (iv a) d)=some (0,[dA L,iv a,d,bv (WY L 0 a)]):=aS.of (by
 rw[axZ];unfold WY;simp[eH h,Tk.cells,Qs hW h];by_cases h2:(ak L a).kind=2
 ·simp[h2]
 ·by_cases h1:(ak L a).kind=1
  ·simp[h1,h2]
  ·cases h3:nJ L ⟨#[40]⟩ a<;>simp[h1,h2,h3])
theorem T9{a:Nat}(h:a<L.length)(d:PV):ev (agR (dA L) (iv a) d)=some (0,[dA L,iv a,d,bv (WY L 1 a)]):=aS.of (by
 rw[aq6];unfold WY;simp[eH h,Tk.cells,Qs hW h];by_cases h2:(ak L a).kind=2
 ·simp[h2]
 ·by_cases h1:(ak L a).kind=1
  ·simp[h1,h2]
  ·by_cases h4:(ak L a).kind=3
   ·simp[h4]
   ·cases h3:nJ L ⟨#[40]⟩ a<;>cases h5:nJ L ⟨#[95]⟩ a<;>simp[h1,h2,h3,h4,h5])
theorem TY{a:Nat}(h:a<L.length)(d:PV):ev (ahf (dA L) (iv a) d)=some (0,[dA L,iv a,d,bv (WY L 2 a)]):=aS.of (by
 rw[arH];unfold WY;simp[eH h,Tk.cells,Qs hW h];by_cases h2:(ak L a).kind=2
 ·simp[h2]
 ·by_cases h1:(ak L a).kind=1
  ·simp[h1,h2]
  ·by_cases h4:(ak L a).kind=3
   ·simp[h4]
   ·by_cases h6:(ak L a).kind=4
    ·simp[h6]
    ·cases h3:nJ L ⟨#[40]⟩ a<;>cases h5:nJ L ⟨#[99,97,115,101]⟩ a<;>simp[h1,h2,h3,h4,h5,h6])
end
def pQ{α:Type}(L:List Tk)(r:Rz α)(F:α→Nat→Rs→Prop)(E:Int→Int→Rs→Prop)(S:Rs→Prop):Prop:=match r with
 |.out=>True
 |.ok v b=>b<L.length∧∃z,S z∧F v b z
 |.err e w=>∃z,S z∧E e w z
def YT{α:Type}(L:List Tk)(a:Nat)(d:Int)(so:Nat)(enc:α→List PV)(v:α)(b:Nat)(z:Rs):Prop:=a<b∧z=(so,ps L b d (enc v))
def Xd(L:List Tk)(se:Nat)(e w:Int)(z:Rs):Prop:=∃(b:Nat) (d:Int),z=(se,ps L b d [iv e,iv w])
def okW{α:Type}(L:List Tk)(a:Nat)(d:Int)(m:List Nat)(enc:α→List PV)(v:α)(b:Nat)(z:Rs):Prop:=a<b∧∃k ys,z=(k,ps L b d ys)∧nth 0 m k=0∧fC ys=enc v
def erW(L:List Tk)(m:List Nat)(e w:Int)(z:Rs):Prop:=∃(k b:Nat) (d:Int),z=(k,ps L b d [iv e,iv w])∧nth 0 m k=1
section
variable{α β:Type}{L:List Tk}{F:α→Nat→Rs→Prop}{E E':Int→Int→Rs→Prop}{S:Rs→Prop}{R:bG}{d dd:Int}{a:Nat}
abbrev pW(L:List Tk)(q:Q)(r:Rz α)(F:α→Nat→Rs→Prop)(E:Int→Int→Rs→Prop):Prop:=pQ L r F E fun z=>ev q=some z
abbrev PB_(L:List Tk)(R:bG)(r:Rz α)(F:α→Nat→Rs→Prop)(E:Int→Int→Rs→Prop):Prop:=pQ L r F E fun z=>R=.ok z
theorem pQ.of{q:Q}{r:Rz α}(h:PB_ L (body PG EE TT ev q) r F E):pW L q r F E:=by
 cases r with
 |out=>trivial
 |ok v b=>obtain⟨h0,z,h1,h2⟩:=h;exact⟨h0,z,aS.of h1,h2⟩
 |err e w=>obtain⟨z,h1,h2⟩:=h;exact⟨z,aS.of h1,h2⟩
theorem pQ.bind{G:β→Nat→Rs→Prop}{q:Q}{p:GM β}{k:β→GM α}(h:pW L q (p dd a) G E')
  (hok:∀v b z,b<L.length→ev q=some z→G v b z→pQ L (k v dd b) F E S) (herr:∀e w z,ev q=some z→E' e w z→∃z',S z'∧E e w z'):pQ L (ax p k dd a) F E S:=by
 unfold ax;cases hr:p dd a with
 |out=>trivial
 |err e w=>
  rw[hr] at h;obtain⟨z,h1,h2⟩:=h;exact herr e w z h1 h2
 |ok v b=>
  rw[hr] at h;obtain⟨h0,z,h1,h2⟩:=h;exact hok v b z h0 h1 h2
theorem pQ.may{x:ByteArray}{A B:GM α}(ht:nJ L x a=true→pQ L (A dd (a+1)) F E S)(hf:nJ L x a=false→pQ L (B dd a) F E S):pQ L (dZ L x A B dd a) F E S:=by
 unfold dZ;cases h:nJ L x a with
 |true=>simpa using ht h
 |false=>simpa using hf h
theorem pQ.kind{k:Int}{A B:GM α}(ht:(ak L a).kind=k→pQ L (A dd a) F E S)(hf:(ak L a).kind≠k→pQ L (B dd a) F E S):pQ L (jH L k A B dd a) F E S:=by
 unfold jH;by_cases h:(ak L a).kind=k
 ·rw[if_pos h];exact ht h
 ·rw[if_neg h];exact hf h
theorem pQ.st{w:Int}{A B:GM α}(ht:WY L w a=true→pQ L (A dd a) F E S)(hf:WY L w a=false→pQ L (B dd a) F E S):pQ L (VE L w A B dd a) F E S:=by
 unfold VE;cases h:WY L w a with
 |true=>simpa using ht h
 |false=>simpa using hf h
theorem pQ.next{k:Tk→GM α}(h:pQ L (k (ak L a) dd a) F E S):pQ L (kR L k dd a) F E S:=h
theorem pQ.up{p:GM α}(h:pQ L (p dd (a+1)) F E S):pQ L (Cz p dd a) F E S:=h
theorem pQ.if'{c:Prop}[Decidable c]{A B:GM α}(ht:c→pQ L (A dd a) F E S)(hf:¬c→pQ L (B dd a) F E S):pQ L ((if c then A else B) dd a) F E S:=by
 by_cases h:c
 ·rw[if_pos h];exact ht h
 ·rw[if_neg h];exact hf h
theorem pQ.deep{A:GM α}(he:300<dd+1→∃z,S z∧E 111 (ak L a).at_ z)(hok:¬300<dd+1→pQ L (A (dd+1) a) F E S):pQ L (rP L A dd a) F E S:=by
 unfold rP;by_cases h:300<dd+1
 ·rw[if_pos h];exact he h
 ·rw[if_neg h];exact hok h
theorem pQ.pure{v:α}{z:Rs}(ha:a<L.length)(hR:S z)(hF:F v a z):pQ L (aT v dd a) F E S:=⟨ha,z,hR,hF⟩
theorem pQ.callW{q:Q}{p:GM β}{k:β→GM α}{so se:Nat}{enc:β→List PV}(h:pW L q (p dd a) (YT L a dd so enc) (Xd L se))
  (hok:∀v b,b<L.length→a<b→ev q=some (so,ps L b dd (enc v))→pQ L (k v dd b) F E S) (herr:∀e w b d',ev q=some (se,ps L b d' [iv e,iv w])→∃z',S z'∧E e w z'):pQ L (ax p k dd a) F E S:=
 .bind h (fun v b z hb hz hF=>by obtain⟨h1,rfl⟩:=hF;exact hok v b hb h1 hz) (fun e w z hz hE=>by obtain⟨b,d',rfl⟩:=hE;exact herr e w b d' hz)
theorem pQ.take{k:Int}{x:ByteArray}{f:Tk→GM α}(hk:¬k<6)(hok:nJ L x a=true→pQ L (f (ak L a) dd (a+1)) F E S)(herr:nJ L x a=false→∃z,S z∧E 110 (ak L a).at_ z):pQ L (ax (aR L k x) f dd a) F E S:=by
 unfold ax aR okT;simp only[if_neg hk];cases h:nJ L x a with
 |true=>simp only[if_true];exact hok h
 |false=>simp only[Bool.false_eq_true,if_false];exact herr h
theorem pQ.takeK{k:Int}{x:ByteArray}{f:Tk→GM α}(hk:k<6)(hok:(ak L a).kind=k→pQ L (f (ak L a) dd (a+1)) F E S)(herr:(ak L a).kind≠k→∃z,S z∧E 110 (ak L a).at_ z):pQ L (ax (aR L k x) f dd a) F E S:=by
 unfold ax aR okT;simp only[if_pos hk];by_cases h:(ak L a).kind=k
 ·rw[decide_eq_true h];simp only[if_true];exact hok h
 ·rw[decide_eq_false h];simp only[Bool.false_eq_true,if_false];exact herr h
theorem pQ.weak{q qw:Q}{r:Rz α}{enc:α→List PV}{m:List Nat}(hw:body PG EE TT ev qw=weakM m (ev q))(h:pW L q r (okW L a d m enc) (erW L m)):pW L qw r (YT L a d 0 enc) (Xd L 1):=by
 cases r with
 |out=>trivial
 |ok v b=>
  obtain⟨h0,z,h1,h2,k,ys,rfl,hk,hy⟩:=h;refine⟨h0,_,aS.of ?_,h2,rfl⟩;rw[hw,h1,iT,hk];simp[hy]
 |err e w=>
  obtain⟨z,h1,k,b,d',rfl,hk⟩:=h;refine⟨_,aS.of ?_,b,d',rfl⟩;rw[hw,h1,iT,hk]
theorem okW.of{m:List Nat}{enc:α→List PV}{v:α}{b k:Nat}{ys:List PV}(ha:a<b)(hk:nth 0 m k=0)(hy:fC ys=enc v):okW L a d m enc v b (k,ps L b d ys):=⟨ha,k,ys,rfl,hk,hy⟩
theorem erW.of{m:List Nat}{b k:Nat}{e w:Int}(hk:nth 0 m k=1):erW L m e w (k,ps L b d [iv e,iv w]):=⟨k,b,d,rfl,hk⟩
variable(hW:I6 L)
include hW
theorem ac2(h:a<L.length){k:Int}(h1:1≤k)(h6:k<6)(x:ByteArray):pW L (ajI (iv k) (dA L) (iv a) (iv d)) (aR L k x d a) (YT L a d 1 Tk.cells) (Xd L 0):=by
 have hq:=bY hW h k (iv d);unfold aR okT;simp only[if_pos h6];by_cases hi:(ak L a).kind=k
 ·simp only[hi,decide_true,if_true] at hq ⊢
  exact⟨hW.fin a (by omega),_,hq,Nat.lt_succ_self _,rfl⟩
 ·simp only[hi,decide_false,Bool.false_eq_true,if_false] at hq ⊢
  exact⟨_,hq,a,d,rfl⟩
end
abbrev pTy(L:List Tk)(a:Nat)(d:Int):Q:=YC (dA L) (iv a) (iv d)
abbrev pAt(L:List Tk)(a:Nat)(d:Int):Q:=agI (dA L) (iv a) (iv d)
abbrev pBt(L:List Tk)(a:Nat)(d:Int):Q:=Yy (dA L) (iv a) (iv d)
abbrev zz:List PV:=[iv 0,sv eB,iv 0,.lit (.slice none 0 0)]
abbrev Pa{α:Type}(L:List Tk)(q:Nat→Int→Q)(enc:α→List PV)(g:GM α):Prop:=∀(a:Nat) (d:Int),0≤d→d≤300→a<L.length→pW L (q a d) (g d a) (YT L a d 0 enc) (Xd L 1)
def btG(L:List Tk)(n:Nat):GM Ty:=kR L fun t=>if t.kind=2 then Cz (ax (dI L n []) fun l=>aT (.mk 3 t.text 0 l)) else gG L n
section
variable{L:List Tk}(hW:I6 L)
include hW
theorem ai6{n:Nat}(nm:ByteArray):∀(m:Nat),m≤n→(∀m,m≤n→Pa L (pAt L) Gy (gG L m))→∀(l:List Ty) (a:Nat) (d:Int),0≤d→d≤300→a<L.length→l.length≤a→pW L (MW (dA L) (iv a) (iv d) (sv nm) (l.map Ty.cells)) (dI L m l d a)
  (fun v b z=>a≤b∧(l≠[]→v≠[])∧z=(3,ps L b d (iv 3::sv nm::iv 0::aV v::zz))) (fun e w z=>∃(b:Nat) (d':Int) (T:PV),z=(2,ps L b d' (iv 3::sv nm::iv 0::T::(zz++[iv e,iv w])))):=by
 intro m hm hat
 induction m with
 |zero=>intro l a d h0 h1 ha hl;unfold dI;rw[wU];trivial
 |succ m ih=>
  intro l a d h0 h1 ha hl;refine .of ?_;rw[tu,aac];simp[yP hW ha];refine .st (fun hs=>?_) (fun hs=>?_)
  ·simp[hs]
   refine .callW (hat m (by omega) a d h0 h1 ha) (fun v b hb hab g=>?_) (fun e w b d' g=>?_)
   ·simp[g]
    have hap:=fun k'=>bD (P:=PG) (d:=.fail) (k:=k') amz (Jz l) (c:=Gy v) rfl (by simp) (by have:=hW.len;simp;omega) (by decide)
    simp[hap];have hn:=ih (by omega) (l++[v]) b d h0 h1 hb (by simp;omega);rw[List.map_append,List.map_cons,List.map_nil,Ty.cells_eq v] at hn;cases hr:dI L m (l++[v]) d b with
    |out=>trivial
    |err e w=>rw[hr] at hn;obtain⟨z,g1,b2,d',T,rfl⟩:=hn;exact⟨_,by simp[g1],b2,d',T,rfl⟩
    |ok v2 b2=>rw[hr] at hn;obtain⟨hb2,z,g1,h5,h6,rfl⟩:=hn;exact⟨hb2,_,by simp[g1],by omega,fun _=>h6 (by simp),rfl⟩
   ·exact⟨_,by simp[g,aV],b,d',aV l,rfl⟩
  ·exact .pure ha (by simp[hs,aV]) ⟨Nat.le_refl _,fun h=>h,rfl⟩
theorem acy{n:Nat}(nm:ByteArray)(m:Nat)(hm:m≤n+1)(hat:∀m,m≤n→Pa L (pAt L) Gy (gG L m))(a:Nat)(d:Int)(h0:0≤d)(h1:d≤300)(ha:a<L.length)(hpos:0<a):pW L (MX (dA L) (iv a) (iv d) (sv nm)) (dI L m [] d a)
  (fun v b z=>a≤b∧z=(match v with|[]=>(1,ps L b d (iv 3::sv nm::iv 0::nS::zz))|_::_=>(3,ps L b d (iv 3::sv nm::iv 0::aV v::zz))))
  (fun e w z=>∃(b:Nat) (d':Int),z=(0,ps L b d' (iv 3::sv nm::iv 0::nS::(zz++[iv e,iv w])))∨∃T,z=(2,ps L b d' (iv 3::sv nm::iv 0::T::(zz++[iv e,iv w])))):=by
 cases m with
 |zero=>unfold dI;rw[wU];trivial
 |succ m=>
  refine .of ?_;rw[tu,aad];simp[yP hW ha];refine .st (fun hs=>?_) (fun hs=>?_)
  ·simp[hs]
   refine .callW (hat m (by omega) a d h0 h1 ha) (fun v b hb hab g=>?_) (fun e w b d' g=>?_)
   ·simp[g]
    have hn:=ai6 hW nm m (by omega) hat [v] b d h0 h1 hb (by simp;omega);rw[List.map_cons,List.map_nil,Ty.cells_eq v] at hn;cases hr:dI L m [v] d b with
    |out=>trivial
    |err e w=>rw[hr] at hn;obtain⟨z,g1,b2,d',T,rfl⟩:=hn;exact⟨_,by simp[g1],b2,d',.inr ⟨T,rfl⟩⟩
    |ok v2 b2=>
     rw[hr] at hn;obtain⟨hb2,z,g1,h5,h6,rfl⟩:=hn;cases v2 with
     |nil=>exact absurd rfl (h6 (by simp))
     |cons x l=>exact⟨hb2,_,by simp[g1],by omega,rfl⟩
   ·exact⟨_,by simp[g],b,d',.inl rfl⟩
  ·exact .pure ha (by simp[hs]) ⟨Nat.le_refl _,rfl⟩
theorem acu{n:Nat}(hat:∀m,m≤n→Pa L (pAt L) Gy (gG L m)):Pa L (pBt L) Gy (btG L n):=by
 intro a d h0 h1 ha;refine .weak (akD ev _ _ _) (.of ?_);rw[arG];simp[eH ha,Tk.cells];refine .next (.if' (fun k2=>?_) (fun k2=>?_))
 ·simp[k2]
  have hl:=hW.fin a (by omega);simp[-Int.natCast_add,qd hW ha,Tk.cells];have hn:=acy hW (ak L a).text n (by omega) hat (a+1) d h0 h1 hl (by omega);refine .up (.bind hn (fun v b z hb g hz=>?_) (fun e w z g hz=>?_))
  ·obtain⟨hab,hz⟩:=hz
   cases v with
   |nil=>
    subst hz;exact .pure hb (by simp[-Int.natCast_add,g]) (.of (m:=[0,1,0]) (k:=0) (ys:=[iv 3,sv (ak L a).text,iv 0,nS]) (by omega) rfl (by simp[aV]))
   |cons x l=>
    subst hz;exact .pure hb (by simp[-Int.natCast_add,g]) (.of (m:=[0,1,0]) (k:=2) (ys:=[iv 3,sv (ak L a).text,iv 0,aV (x::l)]) (by omega) rfl (by simp))
  ·obtain⟨b,d',rfl|⟨T,rfl⟩⟩:=hz
   ·exact⟨_,by simp[-Int.natCast_add,g],.of (m:=[0,1,0]) (b:=b) (d:=d') (k:=1) rfl⟩
   ·exact⟨_,by simp[-Int.natCast_add,g],.of (m:=[0,1,0]) (b:=b) (d:=d') (k:=1) rfl⟩
 ·simp[k2]
  have ht:=hat n (Nat.le_refl _) a d h0 h1 ha;cases hr:gG L n d a with
  |out=>trivial
  |err e w=>rw[hr] at ht;obtain⟨z,g,b,d',rfl⟩:=ht;exact⟨_,by simp[g],.of (m:=[0,1,0]) (b:=b) (d:=d') (k:=1) rfl⟩
  |ok v b=>rw[hr] at ht;obtain⟨hb,z,g,hab,rfl⟩:=ht;exact⟨hb,_,by simp[g],.of (m:=[0,1,0]) (k:=0) (ys:=Gy v) hab rfl (by simp)⟩
theorem acw{n:Nat}(ih:Pa L (pTy L) Gy (jy L n)):Pa L (pAt L) Gy (gG L (n+1)):=by
 intro a d h0 h1 ha;refine .weak (aqV ev _ _ _) (.of ?_);rw[zP,axY];simp[-Int.natCast_add,qd hW ha,Tk.cells];refine .next (.if' (fun k2=>?_) (fun k2=>.if' (fun k1=>?_) (fun k1=>?_)))
 ·exact .up (.pure (hW.fin a (by omega)) (by simp[-Int.natCast_add,k2]) (.of (m:=[0,1]) (k:=0) (ys:=[iv 3,sv (ak L a).text,iv 0,nS]) (by omega) rfl (by simp[aV])))
 ·exact .up (.pure (hW.fin a (by omega)) (by simp[-Int.natCast_add,k1]) (.of (m:=[0,1]) (k:=0) (ys:=[iv 1,sv (ak L a).text,iv 0,nS]) (by omega) rfl (by simp[aV])))
 ·have ka:(ak L a).kind=7→(ak L a).text=Qg→nJ L Qg a=true:=fun h1 h2=>by unfold nJ;simp[h1,h2]
  refine .take (by decide) (fun ho=>?_) (fun ho=>?_)
  ·have hk:(ak L a).kind=7∧(ak L a).text=Qg:=by
    unfold nJ at ho;rw[Bool.and_eq_true,decide_eq_true_eq,decide_eq_true_eq] at ho;have ht:=hW.top a;have h6:(ak L a).kind≠6:=fun h6=>(hW.k6 a h6).1 ho.2
    exact⟨by omega,ho.2⟩
   have hl:=hW.fin a (by omega);simp[-Int.natCast_add,hk.1,hk.2];simp[-Int.natCast_add,dB hW hl];refine .may (fun hc=>?_) (fun hc=>?_)
   ·have hl2:=hW.fin (a+1) (by intro h0;unfold nJ at hc;simp[h0] at hc)
    exact .pure hl2 (by simp[-Int.natCast_add,hc]) (.of (m:=[0,1]) (k:=0) (ys:=[iv 3,sv sUn,iv 0,nS]) (by omega) rfl (by simp[aV]))
   ·simp[-Int.natCast_add,hc]
    refine .callW (ih (a+1) d h0 h1 hl) (fun v b hb hab g=>?_) (fun e w b d' g=>?_)
    ·simp[-Int.natCast_add,g]
     refine .take (by decide) (fun hc=>?_) (fun hc=>?_)
     ·have hb2:=hW.fin b (by intro h0;unfold nJ at hc;simp[h0] at hc)
      exact .pure hb2 (by simp[-Int.natCast_add,aJ hW hb,hc,Tk.cells]) (.of (m:=[0,1]) (k:=0) (ys:=Gy v) (by omega) rfl (by simp))
     ·exact⟨_,by simp[-Int.natCast_add,aJ hW hb,hc],.of (m:=[0,1]) (b:=b) (d:=d) (k:=1) rfl⟩
    ·exact⟨_,by simp[-Int.natCast_add,g],.of (m:=[0,1]) (b:=b) (d:=d') (k:=1) rfl⟩
  ·refine⟨_,?_,.of (m:=[0,1]) (b:=a+1) (d:=d) (k:=1) rfl⟩
   by_cases k7:(ak L a).kind=7
   ·have kx:¬(ak L a).text=Qg:=fun h=>by rw[ka k7 h] at ho;cases ho
    simp[-Int.natCast_add,k7,kx,pq hW]
   ·simp[-Int.natCast_add,k2,k1,k7,pq hW]
theorem aiV{n:Nat}(ih:Pa L (pTy L) Gy (jy L n))(hbt:Pa L (pBt L) Gy (btG L n)):Pa L (pTy L) Gy (jy L (n+1)):=by
 intro a d h0 h1 ha;refine .weak (akI ev _ _ _) (.of ?_);rw[CB,asa];simp[Qt hW ha h0 h1];refine .deep (fun hd=>?_) (fun hd=>?_)
 ·exact⟨_,by simp[hd],.of (m:=[0,1,0]) (b:=a) (d:=d+1) (k:=1) rfl⟩
 ·simp[hd]
  have hw:IntKind.i64.wrap d=d:=bR (by omega);have hq:=hbt a (d+1) (by omega) (by omega) ha;show pQ L (ax (btG L n) (fun x=>dZ L GK (ax (jy L n) fun y=>aT (.mk 3 GK 0 [x,y])) (aT x)) (d+1) a) _ _ _;refine .callW hq (fun v b hb hab g=>?_) (fun e w b d' g=>?_)
  ·simp[g,dB hW hb]
   refine .may (fun hc=>?_) (fun hc=>?_)
   ·have hl2:=hW.fin b (by intro h0;unfold nJ at hc;simp[h0] at hc)
    simp[-Int.natCast_add,hc];refine .callW (ih (b+1) (d+1) (by omega) (by omega) hl2) (fun v2 b2 hb2 hab2 g2=>?_) (fun e w b2 d' g2=>?_)
    ·exact .pure hb2 (by simp[-Int.natCast_add,g2,hw]) (.of (m:=[0,1,0]) (k:=0) (ys:=[iv 3,sv GK,iv 0,.rows [Gy v,Gy v2]]) (by omega) rfl (by simp[dK,rR,qV,ab1]))
    ·exact⟨_,by simp[-Int.natCast_add,g2];rfl,.of (m:=[0,1,0]) (b:=b2) (k:=1) rfl⟩
   ·exact .pure hb (by simp[hc,hw]) (.of (m:=[0,1,0]) (k:=2) (ys:=Gy v) (by omega) rfl (by simp))
  ·exact⟨_,by simp[g];rfl,.of (m:=[0,1,0]) (b:=b) (k:=1) rfl⟩
theorem yG:∀n m,m≤n→Pa L (pTy L) Gy (jy L m)∧Pa L (pAt L) Gy (gG L m)
 |_,0,_=>⟨fun a d _ _ _=>by rw[jy];trivial,fun a d _ _ _=>by rw[gG];trivial⟩
 |n+1,m+1,hm=>⟨aiV hW (yG n m (by omega)).1 (acu hW fun k hk=>(yG n k (by omega)).2),acw hW (yG n m (by omega)).1⟩
theorem amK(n:Nat):Pa L (pTy L) Gy (jy L n):=(yG hW n n (Nat.le_refl _)).1
theorem s_at(n:Nat):Pa L (pAt L) Gy (gG L n):=(yG hW n n (Nat.le_refl _)).2
end
abbrev pPt(L:List Tk)(a:Nat)(d:Int):Q:=Yv (dA L) (iv a) (iv d)
abbrev aqt(L:List Tk)(a:Nat)(d:Int):Q:=agS (dA L) (iv a) (iv d)
abbrev YN(L:List Tk)(a:Nat)(d:Int):Q:=Yu (dA L) (iv a) (iv d)
def axM(L:List Tk)(a:Nat)(d:Int)(v:Pt)(b:Nat)(z:Rs):Prop:=a<b∧∃K,z=(0,ps L b d [iv v.kind,sv v.name,iv v.n,K,iv v.at_])∧(K=nS∧v.kids=[]∨K=pts v.kids∧(ak L a).kind≠2)
abbrev PaA(L:List Tk)(g:GM Pt):Prop:=∀(a:Nat) (d:Int),0≤d→d≤300→a<L.length→pW L (aqt L a d) (g d a) (axM L a d) (Xd L 1)
theorem Bh{L:List Tk}{a:Nat}{d:Int}{z:Rs}(h:ev (aqt L a d)=some z):ev (YN L a d)=some (match z.1 with|0=>(0,fC z.2)|k=>(1,z.2))∨z.1≠0∧z.1≠1:=by
 obtain⟨k,ys⟩:=z
 match k with
 |0=>exact .inl (aS.of (by rw[Z0 ev,h,iT];rfl))
 |1=>exact .inl (aS.of (by rw[Z0 ev,h,iT];rfl))
 |k+2=>exact .inr ⟨by simp,by simp⟩
section
variable{L:List Tk}(hW:I6 L)
include hW
theorem aF{a:Nat}{x:ByteArray}(h:nJ L x a=true):a+1<L.length:=hW.fin a (by intro h0;unfold nJ at h;simp[h0] at h)
theorem ZG{a:Nat}{x:ByteArray}(hx:x=Qg∨x=sUs)(h:nJ L x a=true):(ak L a).kind=7∧(ak L a).text=x:=by
 unfold nJ at h;rw[Bool.and_eq_true,decide_eq_true_eq,decide_eq_true_eq] at h;have ht:=hW.top a;have h6:(ak L a).kind≠6:=fun h6=>by rcases hx with rfl|rfl;exact(hW.k6 a h6).1 h.2;exact(hW.k6 a h6).2 h.2
 exact⟨by omega,h.2⟩
omit hW in
theorem QF{a:Nat}{x:ByteArray}(h:nJ L x a=false)(k7:(ak L a).kind=7):¬(ak L a).text=x:=fun h2=>by unfold nJ at h;simp[k7,h2] at h
theorem ai8{n:Nat}(ih:Pa L (pPt L) W9 (uL L n)):PaA L (nI L (n+1)):=by
 intro a d h0 h1 ha;refine .of ?_;rw[nI,aq7];simp[-Int.natCast_add,qd hW ha,Tk.cells];refine .next (.if' (fun k2=>?_) (fun k2=>.if' (fun k1=>?_) (fun k1=>.if' (fun k3=>?_) (fun k3=>?_))))
 ·exact .up (.pure (hW.fin a (by omega)) (by simp[-Int.natCast_add,k2]) ⟨by omega,nS,rfl,.inl ⟨rfl,rfl⟩⟩)
 ·exact .up (.pure (hW.fin a (by omega)) (by simp[-Int.natCast_add,k1]) ⟨by omega,nS,rfl,.inl ⟨rfl,rfl⟩⟩)
 ·exact .up (.pure (hW.fin a (by omega)) (by simp[-Int.natCast_add,k3]) ⟨by omega,nS,rfl,.inl ⟨rfl,rfl⟩⟩)
 ·refine .may (fun hu=>?_) (fun hu=>?_)
  ·obtain⟨k7,hx⟩:=ZG hW (.inr rfl) hu
   exact .pure (aF hW hu) (by simp[-Int.natCast_add,k7,hx]) ⟨by omega,nS,rfl,.inl ⟨rfl,rfl⟩⟩
  ·refine .take (by decide) (fun ho=>?_) (fun ho=>?_)
   ·obtain⟨k7,hx⟩:=ZG hW (.inl rfl) ho
    have hl:=aF hW ho;simp[-Int.natCast_add,k7,hx];simp[-Int.natCast_add,dB hW hl];refine .may (fun hc=>?_) (fun hc=>?_)
    ·exact .pure (aF hW hc) (by simp[-Int.natCast_add,hc]) ⟨by omega,nS,rfl,.inl ⟨rfl,rfl⟩⟩
    ·simp[-Int.natCast_add,hc]
     refine .callW (ih (a+1) d h0 h1 hl) (fun v b hb hab g=>?_) (fun e w b d' g=>?_)
     ·simp[-Int.natCast_add,g]
      refine .take (by decide) (fun hc=>?_) (fun hc=>?_)
      ·exact .pure (aF hW hc) (by simp[-Int.natCast_add,aJ hW hb,hc,Tk.cells]) ⟨by omega,pts v.kids,rfl,.inr ⟨rfl,k2⟩⟩
      ·exact⟨_,by simp[-Int.natCast_add,aJ hW hb,hc],b,d,rfl⟩
     ·exact⟨_,by simp[-Int.natCast_add,g],b,d',rfl⟩
   ·refine⟨_,?_,a+1,d,rfl⟩
    by_cases k7:(ak L a).kind=7
    ·simp[-Int.natCast_add,k7,QF ho k7,QF hu k7,pq hW]
    ·simp[-Int.natCast_add,k2,k1,k3,k7,pq hW]
omit hW in
theorem YE{K:PV}{v:Pt}(hK:K=nS∧v.kids=[]∨K=pts v.kids):fC [iv v.kind,sv v.name,iv v.n,K,iv v.at_]=v.cells∧jh [iv v.kind,sv v.name,iv v.n,K,iv v.at_]:=by
 rcases hK with⟨rfl,h⟩|rfl
 ·exact⟨by rw[Pt.cells_eq];simp[h],by simp⟩
 ·exact⟨by rw[Pt.cells_eq];simp,by simp⟩
theorem aiX{n:Nat}(k:Int)(nm:ByteArray)(z0:Int)(at0:Int):∀(m:Nat),m≤n→(∀m,m≤n→PaA L (nI L m))→∀(l:List Pt) (es:List (List PV)) (a:Nat) (d:Int),0≤d→d≤300→a<L.length→l.length≤a→Raw 5 es (l.map Pt.cells)→pW L (MG (dA L) (iv a) (iv d) (iv k) (sv nm) (iv z0) es (iv at0)) (kQ L m l d a)
  (fun v b z=>a≤b∧∃es',Raw 5 es' (v.map Pt.cells)∧z=(3,ps L b d [iv k,sv nm,iv z0,.rows es',iv at0,iv 0,sv eB,iv 0,nS,iv 0])) (fun e w z=>∃(b:Nat) (d':Int) (T:PV),z=(2,ps L b d' [iv k,sv nm,iv z0,T,iv at0,iv 0,sv eB,iv 0,nS,iv 0,iv e,iv w])):=by
 intro m hm hat
 induction m with
 |zero=>intro l es a d h0 h1 ha hl hr;rw[kQ];trivial
 |succ m ih=>
  intro l es a d h0 h1 ha hl hr;refine .of ?_;rw[kQ,Z4];simp[T9 hW ha];refine .st (fun hs=>?_) (fun hs=>?_)
  ·simp[hs]
   refine .bind (hat m (by omega) a d h0 h1 ha) (fun v b z hb g hz=>?_) (fun e w z g hz=>?_)
   ·obtain⟨hab,K,rfl,hK⟩:=hz
    have gw:=(Bh g).resolve_right (fun h=>h.1 rfl);obtain⟨hc,hns⟩:=YE (v:=v) (hK.imp id And.left);have hln:=hr.len;rw[List.length_map] at hln;have hap:=fun k'=>bD (P:=PG) (d:=.fail) (k:=k') amB hr (c:=[iv v.kind,sv v.name,iv v.n,K,iv v.at_]) rfl hns (by have:=hW.len;omega) (by decide)
    have hapw:=fun k'=>bD (P:=PG) (d:=.fail) (k:=k') amB hr (c:=W9 v) rfl (by simp) (by have:=hW.len;omega) (by decide)
    have hr2:Raw 5 (es++[[iv v.kind,sv v.name,iv v.n,K,iv v.at_]]) ((l++[v]).map Pt.cells):=by
     have:=hr.app (c:=[iv v.kind,sv v.name,iv v.n,K,iv v.at_]) hc rfl hns;simpa using this
    have hr3:Raw 5 (es++[W9 v]) ((l++[v]).map Pt.cells):=by
     have:=hr.app (c:=W9 v) (c':=v.cells) (by rw[Pt.cells_eq];simp) rfl (by simp);simpa using this
    have key:∀es',Raw 5 es' ((l++[v]).map Pt.cells)→_:=fun es' he=>ih (by omega) (l++[v]) es' b d h0 h1 hb (by simp;omega) he
    rcases hK with⟨rfl,hk⟩|⟨rfl,hk⟩
    ·simp[g,gw,hap]
     have hn:=key _ hr2;cases hr:kQ L m (l++[v]) d b with
     |out=>trivial
     |err e w=>rw[hr] at hn;obtain⟨z,g1,b2,d',T,rfl⟩:=hn;exact⟨_,by simp[g1],b2,d',T,rfl⟩
     |ok v2 b2=>rw[hr] at hn;obtain⟨hb2,z,g1,h5,es',h6,rfl⟩:=hn;exact⟨hb2,_,by simp[g1],by omega,es',h6,rfl⟩
    ·have gw:ev (YN L a d)=some (0,ps L b d (W9 v)):=by simpa using gw
     have hx:∀k:bG,isK .fail nS (pts v.kids) k=.fail:=fun k=>zh _ _ _
     simp[g,gw,hx,hapw];have hn:=key _ hr3;cases hr:kQ L m (l++[v]) d b with
     |out=>trivial
     |err e w=>rw[hr] at hn;obtain⟨z,g1,b2,d',T,rfl⟩:=hn;exact⟨_,by simp[g1],b2,d',T,rfl⟩
     |ok v2 b2=>rw[hr] at hn;obtain⟨hb2,z,g1,h5,es',h6,rfl⟩:=hn;exact⟨hb2,_,by simp[g1],by omega,es',h6,rfl⟩
   ·obtain⟨b,d',rfl⟩:=hz
    have gw:=(Bh g).resolve_right (fun h=>h.2 rfl);exact⟨_,by simp[g,gw],b,d',.rows es,rfl⟩
  ·exact .pure ha (by simp[hs]) ⟨Nat.le_refl _,es,hr,rfl⟩
theorem acn{n:Nat}(k:Int)(nm:ByteArray)(z0:Int)(at0:Int)(m:Nat)(hm:m≤n)(hat:∀m,m≤n→PaA L (nI L m))(a:Nat)(d:Int)(h0:0≤d)(h1:d≤300)(ha:a<L.length):pW L (MJ (dA L) (iv a) (iv d) (iv k) (sv nm) (iv z0) (iv at0)) (kQ L m [] d a)
  (fun v b z=>a≤b∧(v=[]∧z=(1,ps L b d [iv k,sv nm,iv z0,nS,iv at0,iv 0,sv eB,iv 0,nS,iv 0])∨∃es',Raw 5 es' (v.map Pt.cells)∧z=(3,ps L b d [iv k,sv nm,iv z0,.rows es',iv at0,iv 0,sv eB,iv 0,nS,iv 0])))
  (fun e w z=>∃(b:Nat) (d':Int),z=(0,ps L b d' [iv k,sv nm,iv z0,nS,iv at0,iv 0,sv eB,iv 0,nS,iv 0,iv e,iv w])∨∃(T:PV),z=(2,ps L b d' [iv k,sv nm,iv z0,T,iv at0,iv 0,sv eB,iv 0,nS,iv 0,iv e,iv w])):=by
 cases m with
 |zero=>rw[kQ];trivial
 |succ m=>
  refine .of ?_;rw[kQ,Z7];simp[T9 hW ha];refine .st (fun hs=>?_) (fun hs=>?_)
  ·simp[hs]
   refine .bind (hat m (by omega) a d h0 h1 ha) (fun v b z hb g hz=>?_) (fun e w z g hz=>?_)
   ·obtain⟨hab,K,rfl,hK⟩:=hz
    have gw:=(Bh g).resolve_right (fun h=>h.1 rfl);obtain⟨hc,hns⟩:=YE (v:=v) (hK.imp id And.left);have hr2:Raw 5 [[iv v.kind,sv v.name,iv v.n,K,iv v.at_]] ([v].map Pt.cells):=.one hc rfl hns;have hr3:Raw 5 [W9 v] ([v].map Pt.cells):=.one (by rw[Pt.cells_eq];simp) rfl (by simp);have key:∀es',Raw 5 es' ([v].map Pt.cells)→_:=fun es' he=>aiX hW k nm z0 at0 m (by omega) hat [v] es' b d h0 h1 hb (by simp;omega) he
    rcases hK with⟨rfl,hk⟩|⟨rfl,hk⟩
    ·simp[g,gw]
     have hn:=key _ hr2;cases hr:kQ L m [v] d b with
     |out=>trivial
     |err e w=>rw[hr] at hn;obtain⟨z,g1,b2,d',T,rfl⟩:=hn;exact⟨_,by simp[g1],b2,d',.inr ⟨T,rfl⟩⟩
     |ok v2 b2=>rw[hr] at hn;obtain⟨hb2,z,g1,h5,es',h6,rfl⟩:=hn;exact⟨hb2,_,by simp[g1],by omega,.inr ⟨es',h6,rfl⟩⟩
    ·have gw:ev (YN L a d)=some (0,ps L b d (W9 v)):=by simpa using gw
     have hx:∀k:bG,isK .fail nS (pts v.kids) k=.fail:=fun k=>zh _ _ _
     simp[g,gw,hx];have hn:=key _ hr3;cases hr:kQ L m [v] d b with
     |out=>trivial
     |err e w=>rw[hr] at hn;obtain⟨z,g1,b2,d',T,rfl⟩:=hn;exact⟨_,by simp[g1],b2,d',.inr ⟨T,rfl⟩⟩
     |ok v2 b2=>rw[hr] at hn;obtain⟨hb2,z,g1,h5,es',h6,rfl⟩:=hn;exact⟨hb2,_,by simp[g1],by omega,.inr ⟨es',h6,rfl⟩⟩
   ·obtain⟨b,d',rfl⟩:=hz
    have gw:=(Bh g).resolve_right (fun h=>h.2 rfl);exact⟨_,by simp[g,gw],b,d',.inl rfl⟩
  ·exact .pure ha (by simp[hs]) ⟨Nat.le_refl _,.inl ⟨rfl,rfl⟩⟩
theorem amM{n:Nat}(hat:∀m,m≤n→PaA L (nI L m)):Pa L (pPt L) W9 (uL L (n+1)):=by
 intro a d h0 h1 ha;refine .weak (akA ev _ _ _) (.of ?_);rw[uL,aq8];simp[Qt hW ha h0 h1];refine .deep (fun hd=>?_) (fun hd=>?_)
 ·exact⟨_,by simp[hd],.of (m:=[0,0,1]) (b:=a) (d:=d+1) (k:=2) rfl⟩
 ·simp[hd,eH ha,Tk.cells]
  have hw:IntKind.i64.wrap d=d:=bR (by omega);refine .next (.bind (hat n (Nat.le_refl _) a (d+1) (by omega) (by omega) ha) (fun v b z hb g hz=>?_) (fun e w z g hz=>?_))
  ·obtain⟨hab,K,rfl,hK⟩:=hz
   have gw:=(Bh g).resolve_right (fun h=>h.1 rfl);refine .if' (fun k2=>?_) (fun k2=>?_)
   ·rcases hK with⟨rfl,hk⟩|⟨_,hk⟩
    ·simp[k2,g,gw]
     refine .bind (acn hW v.kind v.name v.n v.at_ n (Nat.le_refl _) hat b (d+1) (by omega) (by omega) hb) (fun l b2 z hb2 g2 hz=>?_) (fun e w z g2 hz=>?_)
     ·obtain⟨h5,hz⟩:=hz
      rcases hz with⟨rfl,rfl⟩|⟨es',h6,rfl⟩
      ·exact .pure hb2 (by simp[g2,hw]) (.of (m:=[0,0,1]) (k:=0) (ys:=[iv v.kind,sv v.name,iv v.n,nS,iv v.at_]) (by omega) rfl (by simp))
      ·exact .pure hb2 (by simp[g2,hw]) (.of (m:=[0,0,1]) (k:=1) (ys:=[iv v.kind,sv v.name,iv v.n,.rows es',iv v.at_]) (by omega) rfl (by simp[h6.wd,pts]))
     ·obtain⟨b2,d',rfl|⟨T,rfl⟩⟩:=hz
      ·exact⟨_,by simp[g2];rfl,.of (m:=[0,0,1]) (b:=b2) (k:=2) rfl⟩
      ·exact⟨_,by simp[g2];rfl,.of (m:=[0,0,1]) (b:=b2) (k:=2) rfl⟩
    ·exact absurd k2 hk
   ·rcases hK with⟨rfl,hk⟩|⟨rfl,hk⟩
    ·have hc:ev (MI (dA L) (iv b) (iv (d+1)) (iv v.kind) (sv v.name) (iv v.n) (iv v.at_))=some (1,ps L b (d+1) [iv v.kind,sv v.name,iv v.n,nS,iv v.at_,iv 0,sv eB,iv 0,nS,iv 0]):=aS.of (by rw[Z6];simp)
     exact .pure hb (by simp[k2,g,gw,hc,hw]) (.of (m:=[0,0,1]) (k:=0) (ys:=[iv v.kind,sv v.name,iv v.n,nS,iv v.at_]) (by omega) rfl (by simp[hk]))
    ·have gw:ev (YN L a (d+1))=some (0,ps L b (d+1) (W9 v)):=by simpa using gw
     have hx:∀k:bG,isK .fail nS (pts v.kids) k=.fail:=fun k=>zh _ _ _
     have hc:ev (MH (dA L) (iv b) (iv (d+1)) (iv v.kind) (sv v.name) (iv v.n) (pts v.kids) (iv v.at_))=some (1,ps L b (d+1) [iv v.kind,sv v.name,iv v.n,pts v.kids,iv v.at_,iv 0,sv eB,iv 0,nS,iv 0]):=aS.of (by rw[Z5];simp);exact .pure hb (by simp[k2,g,gw,hx,hc,hw]) (.of (m:=[0,0,1]) (k:=0) (ys:=W9 v) (by omega) rfl (by simp))
  ·obtain⟨b,d',rfl⟩:=hz
   have gw:=(Bh g).resolve_right (fun h=>h.2 rfl);have gw:ev (YN L a (d+1))=some (1,ps L b d' [iv e,iv w]):=gw;refine⟨_,?_,.of (m:=[0,0,1]) (b:=b) (d:=IntKind.i64.wrap (d'-1)) (k:=2) rfl⟩;by_cases k2:(ak L a).kind=2
   ·simp[k2,g,gw]
   ·simp[k2,g,gw]
theorem Jv:∀n m,m≤n→Pa L (pPt L) W9 (uL L m)∧PaA L (nI L m)
 |_,0,_=>⟨fun a d _ _ _=>by rw[uL];trivial,fun a d _ _ _=>by rw[nI];trivial⟩
 |n+1,m+1,hm=>⟨amM hW fun k hk=>(Jv n k (by omega)).2,ai8 hW (Jv n m (by omega)).1⟩
theorem amL(n:Nat):Pa L (pPt L) W9 (uL L n):=(Jv hW n n (Nat.le_refl _)).1
end
set_option maxRecDepth 10000
abbrev Ua(L:List Tk)(a:Nat)(d:Int):Q:=agQ (dA L) (iv a) (iv d)
abbrev pBd(L:List Tk)(a:Nat)(d:Int):Q:=agM (dA L) (iv a) (iv d)
abbrev pAm(L:List Tk)(a:Nat)(d:Int):Q:=Yz (dA L) (iv a) (iv d)
abbrev pBr(L:List Tk)(w:Int)(a:Nat)(d:Int):Q:=Yw (iv w) (dA L) (iv a) (iv d)
abbrev pCs(L:List Tk)(w:Int)(a:Nat)(d:Int):Q:=Yx (iv w) (dA L) (iv a) (iv d)
def erD(L:List Tk)(d:Int)(se:Nat)(e w:Int)(z:Rs):Prop:=∃(b:Nat),z=(se,ps L b d [iv e,iv w])
section
variable{L:List Tk}(hW:I6 L)
include hW
theorem XV(a:Nat)(d:Int)(ha:a<L.length):pW L (ahF (dA L) (iv a) (iv d)) (yX L d a) (YT L a d 0 Tk.cells) (erD L d 1):=by
 refine .of ?_;unfold yX;rw[asb];simp[Qs hW ha];refine .may (fun ho=>?_) (fun ho=>?_)
 ·have hl:=aF hW ho
  have hw:=hW.w1 ha;simp[-Int.natCast_add,ho,hw];refine .takeK (by decide) (fun k5=>?_) (fun k5=>?_)
  ·have hl2:=hW.fin (a+1) (by omega)
   simp[-Int.natCast_add,bY hW hl,k5,Tk.cells];refine .take (by decide) (fun hc=>?_) (fun hc=>?_)
   ·exact .pure (aF hW hc) (by simp[-Int.natCast_add,aJ hW hl2,hc,Tk.cells,k5]) ⟨by omega,rfl⟩
   ·exact⟨_,by simp[-Int.natCast_add,aJ hW hl2,hc],a+1+1,rfl⟩
  ·exact⟨_,by simp[-Int.natCast_add,bY hW hl,k5],a+1,rfl⟩
 ·have hq:=ac2 (d:=d) hW ha (k:=1) (by decide) (by decide) eB
  simp[ho];cases hr:aR L 1 eB d a with
  |out=>trivial
  |err e w=>
   unfold aR at hr;by_cases k1:okT L 1 eB a=true
   ·rw[if_pos k1] at hr;cases hr
   ·rw[if_neg k1] at hr
    cases hr;have k1:(ak L a).kind≠1:=by unfold okT at k1;simpa using k1
    exact⟨_,by simp[bY hW ha,k1],a,rfl⟩
  |ok v b=>
   unfold aR at hr;by_cases k1:okT L 1 eB a=true
   ·rw[if_pos k1] at hr
    cases hr;have k1:(ak L a).kind=1:=by unfold okT at k1;simpa using k1
    exact⟨hW.fin a (by omega),_,by simp[-Int.natCast_add,bY hW ha,k1,Tk.cells],by omega,rfl⟩
   ·rw[if_neg k1] at hr;cases hr
theorem XY{n:Nat}(ih:Pa L (Ua L) jP (iI L n)):Pa L (pBd L) tX (Gi L (n+1)):=by
 intro a d h0 h1 ha;refine .weak (aq1 ev _ _ _) (.of ?_);rw[Gi,ayb];refine .bind (XV hW a d ha) (fun t b z hb g hz=>?_) (fun e w z g hz=>?_)
 ·obtain⟨hab,rfl⟩:=hz
  simp[g,Tk.cells];refine .take (by decide) (fun hc=>?_) (fun hc=>?_)
  ·have hl:=aF hW hc
   simp[-Int.natCast_add,aJ hW hb,hc,Tk.cells];refine .callW (ih (b+1) d h0 h1 hl) (fun v b2 hb2 hab2 g2=>?_) (fun e w b2 d' g2=>?_)
   ·exact .pure hb2 (by simp[-Int.natCast_add,g2]) (.of (m:=[0,1]) (k:=0) (ys:=tX (.mk t.text v t.at_)) (by omega) rfl (by simp))
   ·exact⟨_,by simp[-Int.natCast_add,g2],.of (m:=[0,1]) (b:=b2) (d:=d') (k:=1) rfl⟩
  ·exact⟨_,by simp[aJ hW hb,hc],.of (m:=[0,1]) (b:=b) (d:=d) (k:=1) rfl⟩
 ·obtain⟨b,rfl⟩:=hz
  exact⟨_,by simp[g],.of (m:=[0,1]) (b:=b) (d:=d) (k:=1) rfl⟩
def brG(L:List Tk)(n:Nat)(w:Int):GM Ex:=dZ L H7 (aT (nW 4 sUn 0 [] w)) (jH L 5 (ax (aR L 5 eB) fun o=>ax (aR L 7 H7) fun _=>aT (nW 3 o.text 0 [] w))
 (ax (iI L n) fun y=>dZ L ajd (ax (jy L n) fun ty=>ax (aR L 7 H7) fun _=>aT (.mk 12 eB 0 ty [y] [] [] w)) (ax (aR L 7 H7) fun _=>aT y)))
theorem VP{n:Nat}(ih:Pa L (Ua L) jP (iI L n))(w:Int)(a:Nat)(d:Int)(h0:0≤d)(h1:d≤300)(ha:a<L.length)(hpos:0<a):pW L (pBr L w a d) (brG L n w d a) (YT L (a-1) d 0 jP) (Xd L 1):=by
 refine .weak (akB ev _ _ _ _) (.of ?_);unfold brG;rw[ara];simp[dB hW ha];refine .may (fun hc=>?_) (fun hc=>?_)
 ·exact .pure (aF hW hc) (by simp[-Int.natCast_add,hc]) (.of (m:=[0,1,0]) (k:=0) (ys:=[iv 4,sv sUn,iv 0,iv 0,sv eB,iv 0,nS,nS,nS,nS,iv w]) (by omega) rfl (by simp))
 ·simp[hc,eH ha,Tk.cells]
  refine .kind (fun k5=>?_) (fun k5=>?_)
  ·have hl:=hW.fin a (by omega)
   simp[-Int.natCast_add,k5,qd hW ha,Tk.cells];refine .takeK (by decide) (fun _=>?_) (fun h=>absurd k5 h);refine .take (by decide) (fun hc=>?_) (fun hc=>?_)
   ·exact .pure (aF hW hc) (by simp[-Int.natCast_add,aJ hW hl,hc,Tk.cells]) (.of (m:=[0,1,0]) (k:=0) (ys:=[iv 3,sv (ak L a).text,iv 0,iv 0,sv eB,iv 0,nS,nS,nS,nS,iv w]) (by omega) rfl (by simp))
   ·exact⟨_,by simp[-Int.natCast_add,aJ hW hl,hc],.of (m:=[0,1,0]) (b:=a+1) (d:=d) (k:=1) rfl⟩
  ·simp[k5]
   refine .callW (ih a d h0 h1 ha) (fun v b hb hab g=>?_) (fun e w b d' g=>?_)
   ·simp[g]
    simp[dB hW hb];refine .may (fun hc=>?_) (fun hc=>?_)
    ·have hl:=aF hW hc
     simp[-Int.natCast_add,hc];refine .callW (amK hW n (b+1) d h0 h1 hl) (fun ty b2 hb2 hab2 g2=>?_) (fun e w b2 d' g2=>?_)
     ·simp[-Int.natCast_add,g2]
      refine .take (by decide) (fun hc=>?_) (fun hc=>?_)
      ·exact .pure (aF hW hc) (by simp[-Int.natCast_add,aJ hW hb2,hc,Tk.cells]) (.of (m:=[0,1,0]) (k:=2) (ys:=[iv 12,sv eB,iv 0,iv ty.kind,sv ty.name,iv ty.n,aV ty.kids,.rows [jP v],nS,nS,iv w]) (by omega) rfl (by simp[dK,Ho,mU]))
      ·exact⟨_,by simp[-Int.natCast_add,aJ hW hb2,hc],.of (m:=[0,1,0]) (b:=b2) (d:=d) (k:=1) rfl⟩
     ·exact⟨_,by simp[-Int.natCast_add,g2],.of (m:=[0,1,0]) (b:=b2) (d:=d') (k:=1) rfl⟩
    ·simp[hc]
     refine .take (by decide) (fun hc=>?_) (fun hc=>?_)
     ·exact .pure (aF hW hc) (by simp[-Int.natCast_add,aJ hW hb,hc,Tk.cells]) (.of (m:=[0,1,0]) (k:=0) (ys:=jP v) (by omega) rfl (by simp))
     ·exact⟨_,by simp[-Int.natCast_add,aJ hW hb,hc],.of (m:=[0,1,0]) (b:=b) (d:=d) (k:=1) rfl⟩
   ·exact⟨_,by simp[g],.of (m:=[0,1,0]) (b:=b) (d:=d') (k:=1) rfl⟩
end
set_option maxRecDepth 10000
abbrev zE:List PV:=[iv 0,sv eB,iv 0,iv 0,sv eB,iv 0,nS,nS,nS,nS,iv 0]
section
variable{L:List Tk}(hW:I6 L)
include hW
theorem ai9{n:Nat}(ihE:∀m,m≤n→Pa L (Ua L) jP (iI L m))(KR:List (List PV))(w:Int):∀(m:Nat),m≤n→∀(l:List Al) (a:Nat) (d:Int),0≤d→d≤300→a<L.length→l.length≤a→pW L (MN (dA L) (iv a) (iv d) KR (l.map Al.cells) (iv w)) (lS L m l d a)
  (fun v b z=>a<b∧z=(0,ps L b d (iv 8::sv eB::iv 0::iv 0::sv eB::iv 0::nS :: .rows KR::lU v::nS::iv w::zE)))
  (fun e x z=>∃(b:Nat) (d':Int) (T:PV),z=(2,ps L b d' (iv 8::sv eB::iv 0::iv 0::sv eB::iv 0::nS :: .rows KR::T::nS::iv w::(zE++[iv e,iv x])))):=by
 intro m hm
 induction m with
 |zero=>intro l a d h0 h1 ha hl;rw[lS];trivial
 |succ m ih=>
  intro l a d h0 h1 ha hl;refine .of ?_;rw[lS,Z8];refine .callW (amL hW m a d h0 h1 ha) (fun p b hb hab g=>?_) (fun e w b d' g=>?_)
  ·simp[g]
   refine .take (by decide) (fun hc=>?_) (fun hc=>?_)
   ·have hl2:=aF hW hc
    simp[-Int.natCast_add,aJ hW hb,hc,Tk.cells];refine .callW (ihE m (by omega) (b+1) d h0 h1 hl2) (fun v b2 hb2 hab2 g2=>?_) (fun e w b2 d' g2=>?_)
    ·simp[-Int.natCast_add,g2]
     have hap:=fun k'=>bD (P:=PG) (d:=.fail) (k:=k') avt (R7 l) (c:=alP p v) rfl (by simp) (by have:=hW.len;simp;omega) (by decide)
     have hml:(l++[Al.mk p v]).map Al.cells=l.map Al.cells++[alP p v]:=by rw[List.map_append,List.map_cons,List.map_nil,Al.cells_eq];rfl
     simp[hap];simp[dB hW hb2];refine .may (fun hs=>?_) (fun hs=>?_)
     ·have hl3:=aF hW hs
      have hn:=ih (by omega) (l++[Al.mk p v]) (b2+1) d h0 h1 hl3 (by simp;omega);rw[hml] at hn;simp[-Int.natCast_add,hs];cases hr:lS L m (l++[Al.mk p v]) d (b2+1) with
      |out=>trivial
      |err e x=>rw[hr] at hn;obtain⟨z,g1,b3,d',T,rfl⟩:=hn;exact⟨_,by simp[-Int.natCast_add,g1],b3,d',T,rfl⟩
      |ok v2 b3=>rw[hr] at hn;obtain⟨hb3,z,g1,h5,rfl⟩:=hn;exact⟨hb3,_,by simp[-Int.natCast_add,g1],by omega,rfl⟩
     ·exact .pure hb2 (by simp[hs,lU,←hml]) ⟨by omega,rfl⟩
    ·exact⟨_,by simp[-Int.natCast_add,g2],b2,d',.rows (l.map Al.cells),rfl⟩
   ·exact⟨_,by simp[aJ hW hb,hc],b,d,.rows (l.map Al.cells),rfl⟩
  ·exact⟨_,by simp[g],b,d',.rows (l.map Al.cells),rfl⟩
theorem acC{n:Nat}(ihE:∀m,m≤n→Pa L (Ua L) jP (iI L m))(KR:List (List PV))(w:Int)(m:Nat)(hm:m≤n)(a:Nat)(d:Int)(h0:0≤d)(h1:d≤300)(ha:a<L.length):pW L (MO (dA L) (iv a) (iv d) KR (iv w)) (lS L m [] d a)
  (fun v b z=>a<b∧z=(0,ps L b d (iv 8::sv eB::iv 0::iv 0::sv eB::iv 0::nS :: .rows KR::lU v::nS::iv w::zE)))
  (fun e x z=>∃(b:Nat) (d':Int),z=(1,ps L b d' (iv 8::sv eB::iv 0::iv 0::sv eB::iv 0::nS :: .rows KR::nS::nS::iv w::(zE++[iv e,iv x])))∨∃(T:PV),z=(2,ps L b d' (iv 8::sv eB::iv 0::iv 0::sv eB::iv 0::nS :: .rows KR::T::nS::iv w::(zE++[iv e,iv x])))):=by
 cases m with
 |zero=>rw[lS];trivial
 |succ m=>
  refine .of ?_;rw[lS,Z9];refine .callW (amL hW m a d h0 h1 ha) (fun p b hb hab g=>?_) (fun e w b d' g=>?_)
  ·simp[g]
   refine .take (by decide) (fun hc=>?_) (fun hc=>?_)
   ·have hl2:=aF hW hc
    simp[-Int.natCast_add,aJ hW hb,hc,Tk.cells];refine .callW (ihE m (by omega) (b+1) d h0 h1 hl2) (fun v b2 hb2 hab2 g2=>?_) (fun e w b2 d' g2=>?_)
    ·simp[-Int.natCast_add,g2]
     have hml:[Al.mk p v].map Al.cells=[alP p v]:=by rw[List.map_cons,List.map_nil,Al.cells_eq];rfl
     simp[dB hW hb2];refine .may (fun hs=>?_) (fun hs=>?_)
     ·have hl3:=aF hW hs
      have hn:=ai9 hW ihE KR w m (by omega) [Al.mk p v] (b2+1) d h0 h1 hl3 (by simp);rw[hml] at hn;simp[-Int.natCast_add,hs];cases hr:lS L m [Al.mk p v] d (b2+1) with
      |out=>trivial
      |err e x=>rw[hr] at hn;obtain⟨z,g1,b3,d',T,rfl⟩:=hn;exact⟨_,by simp[-Int.natCast_add,g1],b3,d',.inr ⟨T,rfl⟩⟩
      |ok v2 b3=>rw[hr] at hn;obtain⟨hb3,z,g1,h5,rfl⟩:=hn;exact⟨hb3,_,by simp[-Int.natCast_add,g1],by omega,rfl⟩
     ·exact .pure hb2 (by simp[hs,agm]) ⟨by omega,rfl⟩
    ·exact⟨_,by simp[-Int.natCast_add,g2],b2,d',.inl rfl⟩
   ·exact⟨_,by simp[aJ hW hb,hc],b,d,.inl rfl⟩
  ·exact⟨_,by simp[g],b,d',.inl rfl⟩
def csG(L:List Tk)(n:Nat)(w:Int):GM Ex:=ax (iI L n) fun x=>ax (aR L 6 sOf) fun _=>ax (lS L n []) fun l=>ax (aR L 6 acE) fun _=>aT (.mk 8 eB 0 T00 [x] l [] w)
theorem acs{n:Nat}(ihE:∀m,m≤n→Pa L (Ua L) jP (iI L m))(w:Int)(a:Nat)(d:Int)(h0:0≤d)(h1:d≤300)(ha:a<L.length):pW L (pCs L w a d) (csG L n w d a) (YT L a d 0 jP) (Xd L 1):=by
 refine .weak (akC ev _ _ _ _) (.of ?_);unfold csG;rw[arb];refine .callW (ihE n (Nat.le_refl _) a d h0 h1 ha) (fun v b hb hab g=>?_) (fun e w b d' g=>?_)
 ·simp[g]
  refine .take (by decide) (fun hc=>?_) (fun hc=>?_)
  ·have hl:=aF hW hc
   simp[-Int.natCast_add,aJ hW hb,hc,Tk.cells];refine .bind (acC hW ihE [jP v] w n (Nat.le_refl _) (b+1) d h0 h1 hl) (fun l b2 z hb2 g2 hz=>?_) (fun e w z g2 hz=>?_)
   ·obtain⟨hab2,rfl⟩:=hz
    simp[-Int.natCast_add,g2];refine .take (by decide) (fun hs=>?_) (fun hs=>?_)
    ·exact .pure (aF hW hs) (by simp[-Int.natCast_add,aJ hW hb2,hs,Tk.cells]) (.of (m:=[0,1,0]) (k:=2) (ys:=[iv 8,sv eB,iv 0,iv 0,sv eB,iv 0,nS,.rows [jP v],lU l,nS,iv w]) (by omega) rfl (by simp[dK,Ho,mU]))
    ·exact⟨_,by simp[-Int.natCast_add,aJ hW hb2,hs],.of (m:=[0,1,0]) (b:=b2) (d:=d) (k:=1) rfl⟩
   ·obtain⟨b2,d',rfl|⟨T,rfl⟩⟩:=hz
    ·exact⟨_,by simp[-Int.natCast_add,g2],.of (m:=[0,1,0]) (b:=b2) (d:=d') (k:=1) rfl⟩
    ·exact⟨_,by simp[-Int.natCast_add,g2],.of (m:=[0,1,0]) (b:=b2) (d:=d') (k:=1) rfl⟩
  ·exact⟨_,by simp[aJ hW hb,hc],.of (m:=[0,1,0]) (b:=b) (d:=d) (k:=1) rfl⟩
 ·exact⟨_,by simp[g],.of (m:=[0,1,0]) (b:=b) (d:=d') (k:=1) rfl⟩
theorem aqQ{a:Nat}(h:nJ L R5 a=true):(ak L a).kind=6∧(ak L a).text=R5:=by
 unfold nJ at h;rw[Bool.and_eq_true,decide_eq_true_eq,decide_eq_true_eq] at h;have ht:=hW.top a;have h7:(ak L a).kind≠7:=fun h7=>hW.k7 a h7 h.2
 exact⟨by omega,h.2⟩
omit hW in
theorem adK{a:Nat}{x:ByteArray}(h:nJ L x a=false)(k6:(ak L a).kind=6):¬(ak L a).text=x:=fun h2=>by unfold nJ at h;simp[k6,h2] at h
theorem ai5{n:Nat}(ihE:∀m,m≤n→Pa L (Ua L) jP (iI L m)):Pa L (pAm L) jP (nG L (n+1)):=by
 intro a d h0 h1 ha;refine .weak (akF ev _ _ _) (.of ?_);rw[nG,arI];simp[-Int.natCast_add,qd hW ha,Tk.cells];refine .next (.if' (fun k1=>?_) (fun k1=>.if' (fun k2=>?_) (fun k2=>.if' (fun k3=>?_) (fun k3=>.if' (fun k4=>?_) (fun k4=>?_)))))
 ·exact .up (.pure (hW.fin a (by omega)) (by simp[-Int.natCast_add,k1]) (.of (m:=[0,1]) (k:=0) (ys:=[iv 3,sv (ak L a).text,iv 0,iv 0,sv eB,iv 0,nS,nS,nS,nS,iv (ak L a).at_]) (by omega) rfl (by simp)))
 ·exact .up (.pure (hW.fin a (by omega)) (by simp[-Int.natCast_add,k2]) (.of (m:=[0,1]) (k:=0) (ys:=[iv 4,sv (ak L a).text,iv 0,iv 0,sv eB,iv 0,nS,nS,nS,nS,iv (ak L a).at_]) (by omega) rfl (by simp)))
 ·exact .up (.pure (hW.fin a (by omega)) (by simp[-Int.natCast_add,k3]) (.of (m:=[0,1]) (k:=0) (ys:=[iv 1,sv eB,iv (ak L a).n,iv 0,sv eB,iv 0,nS,nS,nS,nS,iv (ak L a).at_]) (by omega) rfl (by simp)))
 ·exact .up (.pure (hW.fin a (by omega)) (by simp[-Int.natCast_add,k4]) (.of (m:=[0,1]) (k:=0) (ys:=[iv 2,sv (ak L a).text,iv 0,iv 0,sv eB,iv 0,nS,nS,nS,nS,iv (ak L a).at_]) (by omega) rfl (by simp)))
 ·refine .may (fun hc=>?_) (fun hc=>?_)
  ·obtain⟨k6,hx⟩:=aqQ hW hc
   have hl:=aF hW hc;simp[-Int.natCast_add,k6,hx];have hn:=acs hW ihE (ak L a).at_ (a+1) d h0 h1 hl;show pQ L (csG L n (ak L a).at_ d (a+1)) _ _ _;cases hr:csG L n (ak L a).at_ d (a+1) with
   |out=>trivial
   |err e w=>rw[hr] at hn;obtain⟨z,g,b,d',rfl⟩:=hn;exact⟨_,by simp[-Int.natCast_add,g],.of (m:=[0,1]) (b:=b) (d:=d') (k:=1) rfl⟩
   |ok v b=>rw[hr] at hn;obtain⟨hb,z,g,hab,rfl⟩:=hn;exact⟨hb,_,by simp[-Int.natCast_add,g],.of (m:=[0,1]) (k:=0) (ys:=jP v) (by omega) rfl (by simp)⟩
  ·refine .take (by decide) (fun ho=>?_) (fun ho=>?_)
   ·obtain⟨k7,hx⟩:=ZG hW (.inl rfl) ho
    have hl:=aF hW ho;simp[-Int.natCast_add,k7,hx];have hn:=VP hW (ihE n (Nat.le_refl _)) (ak L a).at_ (a+1) d h0 h1 hl (by omega);show pQ L (brG L n (ak L a).at_ d (a+1)) _ _ _;cases hr:brG L n (ak L a).at_ d (a+1) with
    |out=>trivial
    |err e w=>rw[hr] at hn;obtain⟨z,g,b,d',rfl⟩:=hn;exact⟨_,by simp[-Int.natCast_add,g],.of (m:=[0,1]) (b:=b) (d:=d') (k:=1) rfl⟩
    |ok v b=>rw[hr] at hn;obtain⟨hb,z,g,hab,rfl⟩:=hn;exact⟨hb,_,by simp[-Int.natCast_add,g],.of (m:=[0,1]) (k:=0) (ys:=jP v) (by omega) rfl (by simp)⟩
   ·refine⟨_,?_,.of (m:=[0,1]) (b:=a+1) (d:=d) (k:=1) rfl⟩
    by_cases k6:(ak L a).kind=6
    ·simp[-Int.natCast_add,k6,adK hc k6,pq hW]
    ·by_cases k7:(ak L a).kind=7
     ·simp[-Int.natCast_add,k7,QF ho k7,pq hW]
     ·simp[-Int.natCast_add,k1,k2,k3,k4,k6,k7,pq hW]
end
set_option maxRecDepth 10000
abbrev pLa(L:List Tk)(w:Int)(a:Nat)(d:Int):Q:=YB (iv w) (dA L) (iv a) (iv d)
def xF(w:Int):List Tk→List (ByteArray×Int)
 |[]=>[]
 |t::r=>(t.text,w)::r.map fun t=>(t.text,t.at_)
theorem Y7(w:Int)(N:List Tk)(t:Tk)(h:N≠[]):xF w (N++[t])=xF w N++[(t.text,t.at_)]:=by
 cases N with
 |nil=>exact absurd rfl h
 |cons x r=>simp[xF]
def NN(N:List Tk):Nat→Ex→Ex
 |0,y=>y
 |j+1,y=>NN N j (nW 6 (opAt N j).text 0 [y] (opAt N j).at_)
def NP(N:List Tk)(e:Ex):Ex:=N.foldr (fun t e=>nW 6 t.text 0 [e] t.at_) e
theorem Ur(N:List Tk):∀(j:Nat) (y:Ex),j≤N.length→NN N j y=NP (N.take j) y
 |0,y,_=>by simp[NN,NP]
 |j+1,y,h=>by
  rw[NN,Ur N j _ (by omega)];have:N.take (j+1)=N.take j++[opAt N j]:=by
   rw[List.take_add_one];unfold opAt;rw[List.getElem?_eq_getElem (by omega)];rfl
  rw[this];simp[NP]
theorem PL(r:List Tk)(e:Ex):wH (r.map fun t=>(t.text,t.at_)) e=NP r e:=by
 induction r with
 |nil=>rfl
 |cons t r ih=>simp only[wH,NP,List.map_cons,List.foldr_cons] at ih ⊢;rw[ih]
theorem Vt(w:Int)(t:Tk)(r:List Tk)(e:Ex):wH (xF w (t::r)) e=nW 6 t.text 0 [NP r e] w:=by
 rw[←PL];rfl
theorem vQ{N:List Tk}{j:Nat}(h:j<N.length):N[j]? = some (opAt N j):=by unfold opAt;rw[List.getElem?_eq_getElem h];rfl
section
variable{L:List Tk}
theorem Zz(N:List Tk)(w:Int)(hN:N.length≤2000000):∀(j:Nat) (x:Ex) (nm:ByteArray) (K:List (List PV)) (p:Int),j≤N.length→Raw 11 K [x.cells]→∃(x':Ex) (nm':ByteArray) (K':List (List PV)) (p':Int),NN N j (nW 6 nm 0 [x] p)=nW 6 nm' 0 [x'] p'∧Raw 11 K' [x'.cells]∧
  ev (M6 (iv ((j:Int)-1)) (N.map Tk.cells) (iv w) (sv nm) K (iv p))=some (1,iv 6::sv nm'::iv 0::iv 0::sv eB::iv 0::nS :: .rows K'::nS::nS::iv p'::(zE++[iv w,.rows (N.map Tk.cells)])):=by
 intro j
 induction j with
 |zero=>
  intro x nm K p hj hr;refine⟨x,nm,K,p,rfl,hr,aS.of ?_⟩;rw[Om];simp
 |succ j ih=>
  intro x nm K p hj hr;have hr2:Raw 11 [[iv 6,sv nm,iv 0,iv 0,sv eB,iv 0,nS,.rows K,nS,nS,iv p]] [(nW 6 nm 0 [x] p).cells]:=.one (by rw[Ex.cells_eq];simp[dK,hr.wd,exs]) rfl (by simp[hr.ns']);obtain⟨x',nm',K',p',e1,e2,e3⟩:=ih (nW 6 nm 0 [x] p) (opAt N j).text _ (opAt N j).at_ (by omega) hr2;refine⟨x',nm',K',p',by rw[NN,e1],e2,aS.of ?_⟩;rw[Om];have e0:((j+1:Nat):Int)-1=(j:Int):=by omega
  have hw:IntKind.i64.wrap ((j:Int)-1)=(j:Int)-1:=bR (by omega);rw[e0];have hx:∀(d:bG) (k:AV→bG),lX Tryz.prog d 102 (.pv (.rows (N.map Tk.cells))) (.pv (.lit (.int .i64 (j:Int)))) k=k (.cptr [iv (opAt N j).kind,sv (opAt N j).text,iv (opAt N j).n,iv (opAt N j).at_]):=fun d k=>rJ (vQ (show j<N.length by omega))
  simp[hx,hw];simp[e3]
variable(hW:I6 L)
include hW
def LW(L:List Tk)(k:Nat)(l:List (ByteArray×Int)):GM Ex:=ax (aR L 7 GK) fun _=>ax (iI L k) fun e=>aT (wH l e)
theorem Zy(w d:Int):∀(m:Nat) (N:List Tk) (a:Nat),N≠[]→a<L.length→N.length≤a→jG L m (xF w N) d a=.out∨∃(R:List Tk) (b k:Nat),k<m∧a≤b∧b<L.length∧(N++R).length≤b∧jG L m (xF w N) d a=LW L k (xF w (N++R)) d b∧
  ev (M8 (N.map Tk.cells) (iv w) (dA L) (iv a) (iv d))=some (1,dA L::iv b::iv d::(zE++[.rows ((N++R).map Tk.cells),iv w])):=by
 intro m
 induction m with
 |zero=>intro N a _ _ _;exact .inl (by rw[jG];rfl)
 |succ m ih=>
  intro N a hN ha hl;rw[jG.eq_2];unfold jH;by_cases k1:(ak L a).kind=1
  ·have hb:=hW.fin a (by omega)
   have e1:(if(ak L a).kind=1 then(kR L fun t=>Cz (jG L m (xF w N++[(t.text,t.at_)]))) d a else LW L m (xF w N) d a)=jG L m (xF w (N++[ak L a])) d (a+1):=by rw[if_pos k1,Y7 w N _ hN];rfl
   have e2:=ih (N++[ak L a]) (a+1) (by simp) hb (by simp;omega);rcases e2 with e2|⟨R,b,k,c1,c2,c3,c4,c5,c6⟩
   ·exact .inl (e1.trans e2)
   ·refine .inr ⟨ak L a::R,b,k,by omega,by omega,c3,by simpa using c4,(e1.trans c5).trans (by simp),aS.of ?_⟩
    rw[Oo];have hap:=fun k'=>Ph (k:=k') N (ak L a) (by have:=hW.len;omega)
    rw[List.map_append,List.map_cons,List.map_nil] at c6;simp[-Int.natCast_add,eH ha,Tk.cells,k1,qd hW ha];simp[-Int.natCast_add,Tk.cells,k1] at hap c6;simp[-Int.natCast_add,hap,c6]
  ·exact .inr ⟨[],a,m,by omega,Nat.le_refl _,ha,by simpa using hl,by rw[if_neg k1,List.append_nil];rfl,aS.of (by
    rw[Oo];simp[eH ha,Tk.cells,k1])⟩
theorem ZA(w d:Int)(t:Tk):∀(m:Nat) (a:Nat),a<L.length→1≤a→jG L m [(t.text,w)] d a=.out∨∃(R:List Tk) (b k:Nat),k<m∧a≤b∧b<L.length∧([t]++R).length≤b∧jG L m [(t.text,w)] d a=LW L k (xF w ([t]++R)) d b∧
  ev (M9 [t.cells] (iv w) (dA L) (iv a) (iv d))=some (match R with|[]=>0|_::_=>1,dA L::iv b::iv d::(zE++[.rows (([t]++R).map Tk.cells),iv w])):=by
 intro m a ha hl;cases m with
 |zero=>exact .inl (by rw[jG];rfl)
 |succ m=>
  rw[jG.eq_2];unfold jH;by_cases k1:(ak L a).kind=1
  ·have hb:=hW.fin a (by omega)
   have e1:(if(ak L a).kind=1 then(kR L fun t2=>Cz (jG L m ([(t.text,w)]++[(t2.text,t2.at_)]))) d a else LW L m (xF w [t]) d a)=jG L m (xF w ([t]++[ak L a])) d (a+1):=by rw[if_pos k1];rfl
   have e2:=Zy hW w d m ([t]++[ak L a]) (a+1) (by simp) hb (by simp;omega);rcases e2 with e2|⟨R,b,k,c1,c2,c3,c4,c5,c6⟩
   ·exact .inl (e1.trans e2)
   ·refine .inr ⟨ak L a::R,b,k,by omega,by omega,c3,by simpa using c4,(e1.trans c5).trans (by simp),aS.of ?_⟩
    rw[Oq];have hap:=fun k'=>Ph (k:=k') [t] (ak L a) (by simp)
    simp[-Int.natCast_add,eH ha,Tk.cells,k1,qd hW ha];simp[-Int.natCast_add,Tk.cells,k1] at hap c6;simp[-Int.natCast_add,hap,c6]
  ·exact .inr ⟨[],a,m,by omega,Nat.le_refl _,ha,by simpa using hl,by rw[if_neg k1,List.append_nil];rfl,aS.of (by
    rw[Oq];simp[eH ha,Tk.cells,k1])⟩
omit hW in
theorem ady(w:Int)(t:Tk)(R:List Tk)(hN:(t::R).length≤2000000)(e:Ex):∃(x':Ex) (nm':ByteArray) (K':List (List PV)) (p':Int),nW 6 nm' 0 [x'] w=wH (xF w (t::R)) e∧Raw 11 K' [x'.cells]∧
  ev (M7 (iv (R.length:Int)) ((t::R).map Tk.cells) (iv w) (iv e.kind) (sv e.name) (iv e.n) (iv e.t.kind) (sv e.t.name) (iv e.t.n) (aV e.t.kids) (exs e.kids) (lU e.alts) (bg e.binds) (iv e.at_))=some (1,iv 6::sv nm'::iv 0::iv 0::sv eB::iv 0::nS :: .rows K'::nS::nS::iv p'::(zE++[iv w,.rows ((t::R).map Tk.cells)])):=by
 have hj:R.length<(t::R).length:=by simp
 obtain⟨x',nm',K',p',e1,e2,e3⟩:=Zz (t::R) w hN R.length e (opAt (t::R) R.length).text [jP e] (opAt (t::R) R.length).at_ (by omega) (.one (by rw[Ex.cells_eq];simp) rfl (by simp));refine⟨x',nm',K',p',?_,e2,aS.of ?_⟩
 ·have h1:NN (t::R) (R.length+1) e=nW 6 nm' 0 [x'] p':=by rw[NN,e1]
  rw[Ur _ _ _ (by simp),show R.length+1=(t::R).length by simp,List.take_length] at h1;have h2:NP (t::R) e=nW 6 t.text 0 [NP R e] t.at_:=rfl;rw[h2] at h1;rw[Vt];simp only[nW,Ex.mk.injEq,List.cons.injEq] at h1 ⊢;obtain⟨_,hn,_,_,⟨hx,_⟩,_⟩:=h1;simp[hn,hx]
 ·rw[aai]
  have hx:∀(d:bG) (k:AV→bG),lX Tryz.prog d 102 (.pv (.rows ((t::R).map Tk.cells))) (.pv (.lit (.int .i64 (R.length:Int)))) k=k (.cptr [iv (opAt (t::R) R.length).kind,sv (opAt (t::R) R.length).text,iv (opAt (t::R) R.length).n,iv (opAt (t::R) R.length).at_]):=fun d k=>rJ (vQ hj)
  have hw:IntKind.i64.wrap ((R.length:Int)-1)=(R.length:Int)-1:=bR (by simp at hN;omega);generalize hG:(t::R).map Tk.cells=G at *;simp[hx,hw];simp[e3]
theorem XW{n:Nat}(ihE:∀m,m≤n→Pa L (Ua L) jP (iI L m))(w:Int)(a:Nat)(d:Int)(h0:0≤d)(h1:d≤300)(ha:a<L.length):pW L (pLa L w a d) (iL L (n+1) w d a) (YT L a d 0 jP) (Xd L 1):=by
 refine .weak (akH ev _ _ _ _) (.of ?_);rw[iL.eq_2,arK];refine .takeK (by decide) (fun k1=>?_) (fun k1=>?_)
 ·have hl:=hW.fin a (by omega)
  simp[-Int.natCast_add,bY hW ha,k1,Tk.cells];generalize ht:ak L a=t at *;rcases ZA hW w d t n (a+1) hl (by omega) with e0|⟨R,b,k,c1,c2,c3,c4,c5,c6⟩
  ·rw[e0];trivial
  ·rw[c5]
   unfold LW;have hlen:([t]++R).length≤2000000:=by have:=hW.len;omega
   simp only[Tk.cells,k1] at c6;refine .take (by decide) (fun hc=>?_) (fun hc=>?_)
   ·have hl3:=aF hW hc
    refine .callW (ihE k (by omega) (b+1) d h0 h1 hl3) (fun v b2 hb2 hab2 g2=>?_) (fun e x b2 d' g2=>?_)
    ·obtain⟨x',nm',K',p',z1,z2,z3⟩:=ady w t R hlen v
     refine .pure hb2 ?_ (.of (m:=[0,0,0,0,0,0,0,0,0,0,0,0,0,0,0,0,1]) (k:=4) (ys:=[iv 6,sv nm',iv 0,iv 0,sv eB,iv 0,nS,.rows K',nS,nS,iv w]) (by omega) rfl (by rw[show wH (xF w ([t]++R)) v=nW 6 nm' 0 [x'] w from z1.symm];simp[z2.wd,exs]));cases R with
     |nil=>
      simp[-Int.natCast_add,Tk.cells,k1] at c6 z3;simp[-Int.natCast_add,c6,aJ hW c3,hc,Tk.cells];simp[-Int.natCast_add,g2];simp[z3]
     |cons t2 R=>
      simp only[List.singleton_append] at c6;have hx:∀(d:bG) (k:AV→bG),mG Tryz.prog d 102 (.pv (.rows ((t::t2::R).map Tk.cells))) k=k (.pv (iv ((t::t2::R).length:Int))):=fun d k=>Zn _
      have hw:IntKind.i64.wrap (((t::t2::R).length:Int)-1)=((t2::R).length:Int):=by rw[bR (by simp at hlen ⊢;omega)];simp
      generalize hG:(t::t2::R).map Tk.cells=G at *;generalize hn1:((t::t2::R).length:Int)=n1 at *;generalize hn2:((t2::R).length:Int)=n2 at *;simp[-Int.natCast_add,c6,aJ hW c3,hc,Tk.cells];simp[-Int.natCast_add,g2];simp[hx,hw];simp[z3]
    ·refine⟨_,?_,.of (m:=[0,0,0,0,0,0,0,0,0,0,0,0,0,0,0,0,1]) (b:=b2) (d:=d') (k:=16) rfl⟩
     cases R with
     |nil=>
      simp[-Int.natCast_add,Tk.cells,k1] at c6;simp[-Int.natCast_add,c6,aJ hW c3,hc,Tk.cells];simp[-Int.natCast_add,g2]
     |cons t2 R=>
      simp only[List.singleton_append] at c6;generalize hG:(t::t2::R).map Tk.cells=G at *;simp[-Int.natCast_add,c6,aJ hW c3,hc,Tk.cells];simp[-Int.natCast_add,g2]
   ·refine⟨_,?_,.of (m:=[0,0,0,0,0,0,0,0,0,0,0,0,0,0,0,0,1]) (b:=b) (d:=d) (k:=16) rfl⟩
    cases R with
    |nil=>
     simp[-Int.natCast_add,Tk.cells,k1] at c6;simp[-Int.natCast_add,c6,aJ hW c3,hc,Tk.cells]
    |cons t2 R=>
     simp only[List.singleton_append] at c6;generalize hG:(t::t2::R).map Tk.cells=G at *;simp[-Int.natCast_add,c6,aJ hW c3,hc,Tk.cells]
 ·exact⟨_,by simp[bY hW ha,k1],.of (m:=[0,0,0,0,0,0,0,0,0,0,0,0,0,0,0,0,1]) (b:=a) (d:=d) (k:=16) rfl⟩
end
set_option maxRecDepth 10000
abbrev pLt(L:List Tk)(a:Nat)(d:Int):Q:=YA (dA L) (iv a) (iv d)
abbrev pOp(L:List Tk)(a:Nat)(d:Int):Q:=agJ (dA L) (iv a) (iv d)
section
variable{L:List Tk}(hW:I6 L)
include hW
theorem amR{n:Nat}(ihE:∀m,m≤n→Pa L (Ua L) jP (iI L m)):∀m,m≤n+1→Pa L (pBd L) tX (Gi L m)
 |0,_=>fun a d _ _ _=>by rw[Gi];trivial
 |m+1,hm=>XY hW (ihE m (by omega))
theorem acA{n:Nat}(ihB:∀m,m≤n→Pa L (pBd L) tX (Gi L m))(w:Int):∀(m:Nat),m≤n→∀(l:List Bd) (a:Nat) (d:Int),0≤d→d≤300→a<L.length→l.length≤a→pW L (M0 (dA L) (iv a) (iv d) (l.map Bd.cells) (iv w)) (gY L m l d a)
  (fun v b z=>a≤b∧z=(3,ps L b d (iv 7::sv eB::iv 1::iv 0::sv eB::iv 0::nS::nS::nS::bg v::iv w::zE)))
  (fun e x z=>∃(b:Nat) (d':Int) (T:PV),z=(2,ps L b d' (iv 7::sv eB::iv 1::iv 0::sv eB::iv 0::nS::nS::nS::T::iv w::(zE++[iv e,iv x])))):=by
 intro m hm
 induction m with
 |zero=>intro l a d h0 h1 ha hl;rw[gY];trivial
 |succ m ih=>
  intro l a d h0 h1 ha hl;refine .of ?_;rw[gY.eq_2,aaf];simp[dB hW ha];refine .may (fun hs=>?_) (fun hs=>?_)
  ·have hl3:=aF hW hs
   simp[-Int.natCast_add,hs];refine .callW (ihB m (by omega) (a+1) d h0 h1 hl3) (fun v b hb hab g=>?_) (fun e x b d' g=>?_)
   ·have hap:=fun k'=>bD (P:=PG) (d:=.fail) (k:=k') Qc (vL l) (c:=tX v) rfl (by simp) (by have:=hW.len;simp;omega) (by decide)
    have hml:(l++[v]).map Bd.cells=l.map Bd.cells++[tX v]:=by rw[List.map_append,List.map_cons,List.map_nil,Bd.cells_eq]
    simp[-Int.natCast_add,g];simp[hap];have hn:=ih (by omega) (l++[v]) b d h0 h1 hb (by simp;omega);rw[hml] at hn;cases hr:gY L m (l++[v]) d b with
    |out=>trivial
    |err e x=>rw[hr] at hn;obtain⟨z,g1,b3,d',T,rfl⟩:=hn;exact⟨_,by simp[g1],b3,d',T,rfl⟩
    |ok v2 b3=>rw[hr] at hn;obtain⟨hb3,z,g1,h5,rfl⟩:=hn;exact⟨hb3,_,by simp[g1],by omega,rfl⟩
   ·exact⟨_,by simp[-Int.natCast_add,g],b,d',.rows (l.map Bd.cells),rfl⟩
  ·exact .pure ha (by simp[hs,bg]) ⟨Nat.le_refl _,rfl⟩
theorem XZ{n:Nat}(ihB:∀m,m≤n→Pa L (pBd L) tX (Gi L m))(w:Int)(m:Nat)(hm:m≤n)(v0:Bd)(a:Nat)(d:Int)(h0:0≤d)(h1:d≤300)(ha:a<L.length):pW L (M5 (dA L) (iv a) (iv d) [tX v0] (iv w)) (gY L m [v0] d a)
  (fun v b z=>a≤b∧(v=[v0]∧z=(1,ps L b d (iv 7::sv eB::iv 1::iv 0::sv eB::iv 0::nS::nS::nS :: .rows [tX v0]::iv w::zE))∨z=(3,ps L b d (iv 7::sv eB::iv 1::iv 0::sv eB::iv 0::nS::nS::nS::bg v::iv w::zE))))
  (fun e x z=>∃(b:Nat) (d':Int),z=(0,ps L b d' (iv 7::sv eB::iv 1::iv 0::sv eB::iv 0::nS::nS::nS :: .rows [tX v0]::iv w::(zE++[iv e,iv x])))∨∃(T:PV),z=(2,ps L b d' (iv 7::sv eB::iv 1::iv 0::sv eB::iv 0::nS::nS::nS::T::iv w::(zE++[iv e,iv x])))):=by
 cases m with
 |zero=>rw[gY];trivial
 |succ m=>
  refine .of ?_;rw[gY.eq_2,aah];simp[dB hW ha];refine .may (fun hs=>?_) (fun hs=>?_)
  ·have hl3:=aF hW hs
   simp[-Int.natCast_add,hs];refine .callW (ihB m (by omega) (a+1) d h0 h1 hl3) (fun v b hb hab g=>?_) (fun e x b d' g=>?_)
   ·have hr:Raw 13 [tX v0] ([v0].map Bd.cells):=.one (by rw[Bd.cells_eq];simp) rfl (by simp)
    have hap:=fun k'=>bD (P:=PG) (d:=.fail) (k:=k') Qc hr (c:=tX v) rfl (by simp) (by simp) (by decide)
    have hml:[v0,v].map Bd.cells=[tX v0,tX v]:=by rw[List.map_cons,List.map_cons,List.map_nil,Bd.cells_eq,Bd.cells_eq]
    simp[-Int.natCast_add,g];simp at hap;simp[hap];have hn:=acA hW ihB w m (by omega) [v0,v] b d h0 h1 hb (by simp;omega);rw[hml] at hn;cases hr:gY L m [v0,v] d b with
    |out=>trivial
    |err e x=>rw[hr] at hn;obtain⟨z,g1,b3,d',T,rfl⟩:=hn;exact⟨_,by simp[g1],b3,d',.inr ⟨T,rfl⟩⟩
    |ok v2 b3=>rw[hr] at hn;obtain⟨hb3,z,g1,h5,rfl⟩:=hn;exact⟨hb3,_,by simp[g1],by omega,.inr rfl⟩
   ·exact⟨_,by simp[-Int.natCast_add,g],b,d',.inl rfl⟩
  ·exact .pure ha (by simp[hs]) ⟨Nat.le_refl _,.inl ⟨rfl,rfl⟩⟩
theorem acB{n:Nat}(ihB:∀m,m≤n→Pa L (pBd L) tX (Gi L m))(w:Int):∀(m:Nat),m≤n→∀(l:List Bd) (a:Nat) (d:Int),0≤d→d≤300→a<L.length→l.length≤a→pW L (MZ (dA L) (iv a) (iv d) (l.map Bd.cells) (iv w)) (gY L m l d a)
  (fun v b z=>a≤b∧z=(3,ps L b d (iv 7::sv eB::iv 0::iv 0::sv eB::iv 0::nS::nS::nS::bg v::iv w::zE)))
  (fun e x z=>∃(b:Nat) (d':Int) (T:PV),z=(2,ps L b d' (iv 7::sv eB::iv 0::iv 0::sv eB::iv 0::nS::nS::nS::T::iv w::(zE++[iv e,iv x])))):=by
 intro m hm
 induction m with
 |zero=>intro l a d h0 h1 ha hl;rw[gY];trivial
 |succ m ih=>
  intro l a d h0 h1 ha hl;refine .of ?_;rw[gY.eq_2,aae];simp[dB hW ha];refine .may (fun hs=>?_) (fun hs=>?_)
  ·have hl3:=aF hW hs
   simp[-Int.natCast_add,hs];refine .callW (ihB m (by omega) (a+1) d h0 h1 hl3) (fun v b hb hab g=>?_) (fun e x b d' g=>?_)
   ·have hap:=fun k'=>bD (P:=PG) (d:=.fail) (k:=k') Qc (vL l) (c:=tX v) rfl (by simp) (by have:=hW.len;simp;omega) (by decide)
    have hml:(l++[v]).map Bd.cells=l.map Bd.cells++[tX v]:=by rw[List.map_append,List.map_cons,List.map_nil,Bd.cells_eq]
    simp[-Int.natCast_add,g];simp[hap];have hn:=ih (by omega) (l++[v]) b d h0 h1 hb (by simp;omega);rw[hml] at hn;cases hr:gY L m (l++[v]) d b with
    |out=>trivial
    |err e x=>rw[hr] at hn;obtain⟨z,g1,b3,d',T,rfl⟩:=hn;exact⟨_,by simp[g1],b3,d',T,rfl⟩
    |ok v2 b3=>rw[hr] at hn;obtain⟨hb3,z,g1,h5,rfl⟩:=hn;exact⟨hb3,_,by simp[g1],by omega,rfl⟩
   ·exact⟨_,by simp[-Int.natCast_add,g],b,d',.rows (l.map Bd.cells),rfl⟩
  ·exact .pure ha (by simp[hs,bg]) ⟨Nat.le_refl _,rfl⟩
theorem X0{n:Nat}(ihB:∀m,m≤n→Pa L (pBd L) tX (Gi L m))(w:Int)(m:Nat)(hm:m≤n)(v0:Bd)(a:Nat)(d:Int)(h0:0≤d)(h1:d≤300)(ha:a<L.length):pW L (M4 (dA L) (iv a) (iv d) [tX v0] (iv w)) (gY L m [v0] d a)
  (fun v b z=>a≤b∧(v=[v0]∧z=(1,ps L b d (iv 7::sv eB::iv 0::iv 0::sv eB::iv 0::nS::nS::nS :: .rows [tX v0]::iv w::zE))∨z=(3,ps L b d (iv 7::sv eB::iv 0::iv 0::sv eB::iv 0::nS::nS::nS::bg v::iv w::zE))))
  (fun e x z=>∃(b:Nat) (d':Int),z=(0,ps L b d' (iv 7::sv eB::iv 0::iv 0::sv eB::iv 0::nS::nS::nS :: .rows [tX v0]::iv w::(zE++[iv e,iv x])))∨∃(T:PV),z=(2,ps L b d' (iv 7::sv eB::iv 0::iv 0::sv eB::iv 0::nS::nS::nS::T::iv w::(zE++[iv e,iv x])))):=by
 cases m with
 |zero=>rw[gY];trivial
 |succ m=>
  refine .of ?_;rw[gY.eq_2,aag];simp[dB hW ha];refine .may (fun hs=>?_) (fun hs=>?_)
  ·have hl3:=aF hW hs
   simp[-Int.natCast_add,hs];refine .callW (ihB m (by omega) (a+1) d h0 h1 hl3) (fun v b hb hab g=>?_) (fun e x b d' g=>?_)
   ·have hr:Raw 13 [tX v0] ([v0].map Bd.cells):=.one (by rw[Bd.cells_eq];simp) rfl (by simp)
    have hap:=fun k'=>bD (P:=PG) (d:=.fail) (k:=k') Qc hr (c:=tX v) rfl (by simp) (by simp) (by decide)
    have hml:[v0,v].map Bd.cells=[tX v0,tX v]:=by rw[List.map_cons,List.map_cons,List.map_nil,Bd.cells_eq,Bd.cells_eq]
    simp[-Int.natCast_add,g];simp at hap;simp[hap];have hn:=acB hW ihB w m (by omega) [v0,v] b d h0 h1 hb (by simp;omega);rw[hml] at hn;cases hr:gY L m [v0,v] d b with
    |out=>trivial
    |err e x=>rw[hr] at hn;obtain⟨z,g1,b3,d',T,rfl⟩:=hn;exact⟨_,by simp[g1],b3,d',.inr ⟨T,rfl⟩⟩
    |ok v2 b3=>rw[hr] at hn;obtain⟨hb3,z,g1,h5,rfl⟩:=hn;exact⟨hb3,_,by simp[g1],by omega,.inr rfl⟩
   ·exact⟨_,by simp[-Int.natCast_add,g],b,d',.inl rfl⟩
  ·exact .pure ha (by simp[hs]) ⟨Nat.le_refl _,.inl ⟨rfl,rfl⟩⟩
theorem amO{n:Nat}(ihE:∀m,m≤n→Pa L (Ua L) jP (iI L m))(a:Nat)(d:Int)(h0:0≤d)(h1:d≤300)(ha:a<L.length)(hl:nJ L aja a=true):pW L (pLt L a d) (dZ L acD (rG L (n+1) 1 (ak L a).at_) (rG L (n+1) 0 (ak L a).at_) d (a+1)) (YT L a d 0 jP) (Xd L 1):=by
 have ihB:=amR hW ihE;refine .weak (akG ev _ _ _) (.of ?_);have hl1:=aF hW hl;rw[rG.eq_2,rG.eq_2,arJ];simp[-Int.natCast_add,qd hW ha,Tk.cells];simp[-Int.natCast_add,dB hW hl1];refine .may (fun hr=>?_) (fun hr=>?_)
 ·have hl2:=aF hW hr
  simp[-Int.natCast_add,hr];refine .callW (ihB n (by omega) (a+1+1) d h0 h1 hl2) (fun v b hb hab g=>?_) (fun e x b d' g=>?_)
  ·simp[-Int.natCast_add,g]
   refine .bind (XZ hW ihB (ak L a).at_ n (by omega) v b d h0 h1 hb) (fun l b2 z hb2 g2 hz=>?_) (fun e x z g2 hz=>?_)
   ·obtain⟨hab2,hz⟩:=hz
    rcases hz with⟨rfl,rfl⟩|rfl
    ·simp[g2]
     refine .take (by decide) (fun hi=>?_) (fun hi=>?_)
     ·have hl3:=aF hW hi
      simp[-Int.natCast_add,aJ hW hb2,hi,Tk.cells];refine .callW (ihE n (by omega) (b2+1) d h0 h1 hl3) (fun e b3 hb3 hab3 g3=>?_) (fun e x b3 d' g3=>?_)
      ·exact .pure hb3 (by simp[-Int.natCast_add,g3]) (.of (m:=[0,1]) (k:=0) (ys:=[iv 7,sv eB,iv 1,iv 0,sv eB,iv 0,nS,.rows [jP e],nS,.rows [tX v],iv (ak L a).at_]) (by omega) rfl (by simp[dK,Ho,mU,Vj]))
      ·exact⟨_,by simp[-Int.natCast_add,g3],.of (m:=[0,1]) (b:=b3) (d:=d') (k:=1) rfl⟩
     ·exact⟨_,by simp[aJ hW hb2,hi],.of (m:=[0,1]) (b:=b2) (d:=d) (k:=1) rfl⟩
    ·simp[g2]
     refine .take (by decide) (fun hi=>?_) (fun hi=>?_)
     ·have hl3:=aF hW hi
      simp[-Int.natCast_add,aJ hW hb2,hi,Tk.cells];refine .callW (ihE n (by omega) (b2+1) d h0 h1 hl3) (fun e b3 hb3 hab3 g3=>?_) (fun e x b3 d' g3=>?_)
      ·exact .pure hb3 (by simp[-Int.natCast_add,g3]) (.of (m:=[0,1]) (k:=0) (ys:=[iv 7,sv eB,iv 1,iv 0,sv eB,iv 0,nS,.rows [jP e],nS,bg l,iv (ak L a).at_]) (by omega) rfl (by simp[dK,Ho,mU]))
      ·exact⟨_,by simp[-Int.natCast_add,g3],.of (m:=[0,1]) (b:=b3) (d:=d') (k:=1) rfl⟩
     ·exact⟨_,by simp[aJ hW hb2,hi],.of (m:=[0,1]) (b:=b2) (d:=d) (k:=1) rfl⟩
   ·obtain⟨b2,d',rfl|⟨T,rfl⟩⟩:=hz
    ·exact⟨_,by simp[g2],.of (m:=[0,1]) (b:=b2) (d:=d') (k:=1) rfl⟩
    ·exact⟨_,by simp[g2],.of (m:=[0,1]) (b:=b2) (d:=d') (k:=1) rfl⟩
  ·exact⟨_,by simp[-Int.natCast_add,g],.of (m:=[0,1]) (b:=b) (d:=d') (k:=1) rfl⟩
 ·have hl2:=hl1
  simp[-Int.natCast_add,hr];refine .callW (ihB n (by omega) (a+1) d h0 h1 hl2) (fun v b hb hab g=>?_) (fun e x b d' g=>?_)
  ·simp[-Int.natCast_add,g]
   refine .bind (X0 hW ihB (ak L a).at_ n (by omega) v b d h0 h1 hb) (fun l b2 z hb2 g2 hz=>?_) (fun e x z g2 hz=>?_)
   ·obtain⟨hab2,hz⟩:=hz
    rcases hz with⟨rfl,rfl⟩|rfl
    ·simp[g2]
     refine .take (by decide) (fun hi=>?_) (fun hi=>?_)
     ·have hl3:=aF hW hi
      simp[-Int.natCast_add,aJ hW hb2,hi,Tk.cells];refine .callW (ihE n (by omega) (b2+1) d h0 h1 hl3) (fun e b3 hb3 hab3 g3=>?_) (fun e x b3 d' g3=>?_)
      ·exact .pure hb3 (by simp[-Int.natCast_add,g3]) (.of (m:=[0,1]) (k:=0) (ys:=[iv 7,sv eB,iv 0,iv 0,sv eB,iv 0,nS,.rows [jP e],nS,.rows [tX v],iv (ak L a).at_]) (by omega) rfl (by simp[dK,Ho,mU,Vj]))
      ·exact⟨_,by simp[-Int.natCast_add,g3],.of (m:=[0,1]) (b:=b3) (d:=d') (k:=1) rfl⟩
     ·exact⟨_,by simp[aJ hW hb2,hi],.of (m:=[0,1]) (b:=b2) (d:=d) (k:=1) rfl⟩
    ·simp[g2]
     refine .take (by decide) (fun hi=>?_) (fun hi=>?_)
     ·have hl3:=aF hW hi
      simp[-Int.natCast_add,aJ hW hb2,hi,Tk.cells];refine .callW (ihE n (by omega) (b2+1) d h0 h1 hl3) (fun e b3 hb3 hab3 g3=>?_) (fun e x b3 d' g3=>?_)
      ·exact .pure hb3 (by simp[-Int.natCast_add,g3]) (.of (m:=[0,1]) (k:=0) (ys:=[iv 7,sv eB,iv 0,iv 0,sv eB,iv 0,nS,.rows [jP e],nS,bg l,iv (ak L a).at_]) (by omega) rfl (by simp[dK,Ho,mU]))
      ·exact⟨_,by simp[-Int.natCast_add,g3],.of (m:=[0,1]) (b:=b3) (d:=d') (k:=1) rfl⟩
     ·exact⟨_,by simp[aJ hW hb2,hi],.of (m:=[0,1]) (b:=b2) (d:=d) (k:=1) rfl⟩
   ·obtain⟨b2,d',rfl|⟨T,rfl⟩⟩:=hz
    ·exact⟨_,by simp[g2],.of (m:=[0,1]) (b:=b2) (d:=d') (k:=1) rfl⟩
    ·exact⟨_,by simp[g2],.of (m:=[0,1]) (b:=b2) (d:=d') (k:=1) rfl⟩
  ·exact⟨_,by simp[-Int.natCast_add,g],.of (m:=[0,1]) (b:=b) (d:=d') (k:=1) rfl⟩
end
set_option maxRecDepth 10000
def ahK(L:List Tk)(t:Tk)(a:Nat)(d:Int)(v:Ex)(b:Nat)(z:Rs):Prop:=a≤b∧∃(ks':List Ex) (B':List (List PV)),v=nW 5 eB 0 ks' t.at_∧Raw 11 B' (ks'.map Ex.cells)∧z=(3,ps L b d (iv 5::sv eB::iv 0::iv 0::sv eB::iv 0::nS :: .rows B'::nS::nS::iv t.at_::iv t.kind::sv t.text::iv t.n::iv t.at_::zE))
def aqA(L:List Tk)(t:Tk)(v0:Ex)(a:Nat)(d:Int)(v:Ex)(b:Nat)(z:Rs):Prop:=a≤b∧(v=v0∧z=(1,ps L b d (jP v0++iv t.kind::sv t.text::iv t.n::iv t.at_::zE))∨ahK L t a d v b z)
section
variable{L:List Tk}(hW:I6 L)
include hW
theorem ai7{n:Nat}(ihA:∀m,m≤n→Pa L (pAm L) jP (nG L m))(t:Tk):∀(m:Nat),m≤n→∀(ks:List Ex) (B:List (List PV)) (a:Nat) (d:Int),Raw 11 B (ks.map Ex.cells)→0≤d→d≤300→a<L.length→pW L (Sg (dA L) (iv a) (iv d) B (iv t.at_) (iv t.kind) (sv t.text) (iv t.n) (iv t.at_)) (lQ L m t.at_ (nW 5 eB 0 ks t.at_) d a)
  (ahK L t a d)
  (fun e x z=>∃(b:Nat) (d':Int) (T:PV),z=(2,ps L b d' (iv 5::sv eB::iv 0::iv 0::sv eB::iv 0::nS::T::nS::nS::iv t.at_::iv t.kind::sv t.text::iv t.n::iv t.at_::(zE++[iv e,iv x])))):=by
 intro m hm
 induction m with
 |zero=>intro ks B a d hr h0 h1 ha;rw[lQ];trivial
 |succ m ih=>
  intro ks B a d hr h0 h1 ha;refine .of ?_;rw[lQ.eq_2,ad2];simp[TY hW ha];refine .st (fun hs=>?_) (fun hs=>?_)
  ·simp[hs]
   refine .callW (ihA m (by omega) a d h0 h1 ha) (fun v b hb hab g=>?_) (fun e x b d' g=>?_)
   ·simp[g]
    have hr2:Raw 11 [[iv 5,sv eB,iv 0,iv 0,sv eB,iv 0,nS,.rows B,nS,nS,iv t.at_],jP v] ([nW 5 eB 0 ks t.at_,v].map Ex.cells):=WW.raw 5 eB 0 ks t.at_ _ (.inr ⟨B,rfl,hr⟩) (.plain v);have hn:=ih (by omega) [nW 5 eB 0 ks t.at_,v] _ b d hr2 h0 h1 hb;cases hr:lQ L m t.at_ (nW 5 eB 0 [nW 5 eB 0 ks t.at_,v] t.at_) d b with
    |out=>trivial
    |err e x=>rw[hr] at hn;obtain⟨z,g1,b3,d',T,rfl⟩:=hn;exact⟨_,by simp[g1],b3,d',T,rfl⟩
    |ok v2 b3=>rw[hr] at hn;obtain⟨hb3,z,g1,h5,ks',B',h6,h7,rfl⟩:=hn;exact⟨hb3,_,by simp[g1],by omega,ks',B',h6,h7,rfl⟩
   ·exact⟨_,by simp[g],b,d',.rows B,rfl⟩
  ·exact .pure ha (by simp[hs]) ⟨Nat.le_refl _,ks,B,rfl,hr,rfl⟩
theorem acz{n:Nat}(ihA:∀m,m≤n→Pa L (pAm L) jP (nG L m))(t:Tk)(m:Nat)(hm:m≤n)(v0:Ex)(a:Nat)(d:Int)(h0:0≤d)(h1:d≤300)(ha:a<L.length):pW L (Si (dA L) (iv a) (iv d) (iv v0.kind) (sv v0.name) (iv v0.n) (iv v0.t.kind) (sv v0.t.name) (iv v0.t.n) (aV v0.t.kids) (exs v0.kids) (lU v0.alts) (bg v0.binds) (iv v0.at_) (iv t.kind) (sv t.text) (iv t.n) (iv t.at_)) (lQ L m t.at_ v0 d a)
  (aqA L t v0 a d)
  (fun e x z=>∃(b:Nat) (d':Int),z=(0,ps L b d' (jP v0++iv t.kind::sv t.text::iv t.n::iv t.at_::(zE++[iv e,iv x])))∨∃(T:PV),z=(2,ps L b d' (iv 5::sv eB::iv 0::iv 0::sv eB::iv 0::nS::T::nS::nS::iv t.at_::iv t.kind::sv t.text::iv t.n::iv t.at_::(zE++[iv e,iv x])))):=by
 cases m with
 |zero=>rw[lQ];trivial
 |succ m=>
  refine .of ?_;rw[lQ.eq_2,ad3];simp[TY hW ha];refine .st (fun hs=>?_) (fun hs=>?_)
  ·simp[hs]
   refine .callW (ihA m (by omega) a d h0 h1 ha) (fun v b hb hab g=>?_) (fun e x b d' g=>?_)
   ·simp[g]
    have hn:=ai7 hW ihA t m (by omega) [v0,v] _ b d (WW.two (.plain v0) (.plain v)) h0 h1 hb;cases hr:lQ L m t.at_ (nW 5 eB 0 [v0,v] t.at_) d b with
    |out=>trivial
    |err e x=>rw[hr] at hn;obtain⟨z,g1,b3,d',T,rfl⟩:=hn;exact⟨_,by simp[g1],b3,d',.inr ⟨T,rfl⟩⟩
    |ok v2 b3=>rw[hr] at hn;obtain⟨hb3,z,g1,h5,ks',B',h6,h7,rfl⟩:=hn;exact⟨hb3,_,by simp[g1],by omega,.inr ⟨by omega,ks',B',h6,h7,rfl⟩⟩
   ·exact⟨_,by simp[g],b,d',.inl rfl⟩
  ·exact .pure ha (by simp[hs]) ⟨Nat.le_refl _,.inl ⟨rfl,rfl⟩⟩
theorem VO{n:Nat}(ihE:∀m,m≤n→Pa L (Ua L) jP (iI L m))(ihA:∀m,m≤n→Pa L (pAm L) jP (nG L m))(hLa:∀m,m≤n→∀(w:Int) (a:Nat) (d:Int),0≤d→d≤300→a<L.length→pW L (pLa L w a d) (iL L m w d a) (YT L a d 0 jP) (Xd L 1))
  (hLt:∀m,m≤n→∀(a:Nat) (d:Int),0≤d→d≤300→a<L.length→nJ L aja a=true→pW L (pLt L a d) (dZ L acD (rG L m 1 (ak L a).at_) (rG L m 0 (ak L a).at_) d (a+1)) (YT L a d 0 jP) (Xd L 1)):Pa L (pOp L) jP (eT L (n+1)):=by
 intro a d h0 h1 ha;refine .weak (aqW ev _ _ _) (.of ?_);rw[eT.eq_2,ax5];simp[eH ha,Tk.cells];simp[Qs hW ha];have hw:=hW.w1 ha;refine .next (.may (fun hb=>?_) (fun hb=>.may (fun hl=>?_) (fun hl=>.may (fun hi=>?_) (fun hi=>?_))))
 ·have hl1:=aF hW hb
  simp[-Int.natCast_add,hb,hw];have hn:=hLa n (Nat.le_refl _) (ak L a).at_ (a+1) d h0 h1 hl1;cases hr:iL L n (ak L a).at_ d (a+1) with
  |out=>trivial
  |err e x=>rw[hr] at hn;obtain⟨z,g,b,d',rfl⟩:=hn;exact⟨_,by simp[-Int.natCast_add,g],.of (m:=[0,1,0,0,0,0,0,0,0,0,0,0,0,0,0,0,0]) (b:=b) (d:=d') (k:=1) rfl⟩
  |ok v b=>rw[hr] at hn;obtain⟨hb,z,g,hab,rfl⟩:=hn;exact⟨hb,_,by simp[-Int.natCast_add,g],.of (m:=[0,1,0,0,0,0,0,0,0,0,0,0,0,0,0,0,0]) (k:=0) (ys:=jP v) (by omega) rfl (by simp)⟩
 ·simp[hb,hl]
  have hn:=hLt n (Nat.le_refl _) a d h0 h1 ha hl;cases hr:dZ L acD (rG L n 1 (ak L a).at_) (rG L n 0 (ak L a).at_) d (a+1) with
  |out=>trivial
  |err e x=>rw[hr] at hn;obtain⟨z,g,b,d',rfl⟩:=hn;exact⟨_,by simp[g],.of (m:=[0,1,0,0,0,0,0,0,0,0,0,0,0,0,0,0,0]) (b:=b) (d:=d') (k:=1) rfl⟩
  |ok v b=>rw[hr] at hn;obtain⟨hb,z,g,hab,rfl⟩:=hn;exact⟨hb,_,by simp[g],.of (m:=[0,1,0,0,0,0,0,0,0,0,0,0,0,0,0,0,0]) (k:=0) (ys:=jP v) (by omega) rfl (by simp)⟩
 ·have hl1:=aF hW hi
  simp[-Int.natCast_add,hb,hl,hi,hw];have hE:=ihE n (Nat.le_refl _);refine .callW (hE (a+1) d h0 h1 hl1) (fun v1 b1 hb1 hab1 g1=>?_) (fun e x b1 d' g1=>?_)
  ·simp[-Int.natCast_add,g1]
   refine .take (by decide) (fun hc=>?_) (fun hc=>?_)
   ·have hl2:=aF hW hc
    simp[-Int.natCast_add,aJ hW hb1,hc,Tk.cells];refine .callW (hE (b1+1) d h0 h1 hl2) (fun v2 b2 hb2 hab2 g2=>?_) (fun e x b2 d' g2=>?_)
    ·simp[-Int.natCast_add,g2]
     refine .take (by decide) (fun hd=>?_) (fun hd=>?_)
     ·have hl3:=aF hW hd
      simp[-Int.natCast_add,aJ hW hb2,hd,Tk.cells];refine .callW (hE (b2+1) d h0 h1 hl3) (fun v3 b3 hb3 hab3 g3=>?_) (fun e x b3 d' g3=>?_)
      ·exact .pure hb3 (by simp[-Int.natCast_add,g3]) (.of (m:=[0,1,0,0,0,0,0,0,0,0,0,0,0,0,0,0,0]) (k:=2) (ys:=[iv 9,sv eB,iv 0,iv 0,sv eB,iv 0,nS,.rows [jP v1,jP v2,jP v3],nS,nS,iv (ak L a).at_]) (by omega) rfl (by simp[dK,rR,qV,Wp]))
      ·exact⟨_,by simp[-Int.natCast_add,g3],.of (m:=[0,1,0,0,0,0,0,0,0,0,0,0,0,0,0,0,0]) (b:=b3) (d:=d') (k:=1) rfl⟩
     ·exact⟨_,by simp[-Int.natCast_add,aJ hW hb2,hd],.of (m:=[0,1,0,0,0,0,0,0,0,0,0,0,0,0,0,0,0]) (b:=b2) (d:=d) (k:=1) rfl⟩
    ·exact⟨_,by simp[-Int.natCast_add,g2],.of (m:=[0,1,0,0,0,0,0,0,0,0,0,0,0,0,0,0,0]) (b:=b2) (d:=d') (k:=1) rfl⟩
   ·exact⟨_,by simp[-Int.natCast_add,aJ hW hb1,hc],.of (m:=[0,1,0,0,0,0,0,0,0,0,0,0,0,0,0,0,0]) (b:=b1) (d:=d) (k:=1) rfl⟩
  ·exact⟨_,by simp[-Int.natCast_add,g1],.of (m:=[0,1,0,0,0,0,0,0,0,0,0,0,0,0,0,0,0]) (b:=b1) (d:=d') (k:=1) rfl⟩
 ·simp[hb,hl,hi]
  refine .callW (ihA n (Nat.le_refl _) a d h0 h1 ha) (fun v b hb2 hab g=>?_) (fun e x b d' g=>?_)
  ·simp[g]
   have hn:=acz hW ihA (ak L a) n (Nat.le_refl _) v b d h0 h1 hb2;cases hr:lQ L n (ak L a).at_ v d b with
   |out=>trivial
   |err e x=>
    rw[hr] at hn;obtain⟨z,g1,b3,d',rfl|⟨T,rfl⟩⟩:=hn
    ·exact⟨_,by simp[g1],.of (m:=[0,1,0,0,0,0,0,0,0,0,0,0,0,0,0,0,0]) (b:=b3) (d:=d') (k:=1) rfl⟩
    ·exact⟨_,by simp[g1],.of (m:=[0,1,0,0,0,0,0,0,0,0,0,0,0,0,0,0,0]) (b:=b3) (d:=d') (k:=1) rfl⟩
   |ok v2 b3=>
    rw[hr] at hn;obtain⟨hb3,z,g1,h5,hz⟩:=hn;rcases hz with⟨rfl,rfl⟩|⟨_,ks',B',rfl,h7,rfl⟩
    ·exact⟨hb3,_,by simp[g1],.of (m:=[0,1,0,0,0,0,0,0,0,0,0,0,0,0,0,0,0]) (k:=0) (ys:=jP v2) (by omega) rfl (by simp)⟩
    ·exact⟨hb3,_,by simp[g1],.of (m:=[0,1,0,0,0,0,0,0,0,0,0,0,0,0,0,0,0]) (k:=2) (ys:=[iv 5,sv eB,iv 0,iv 0,sv eB,iv 0,nS,.rows B',nS,nS,iv (ak L a).at_]) (by omega) rfl (by simp[h7.wd,exs])⟩
  ·exact⟨_,by simp[g],.of (m:=[0,1,0,0,0,0,0,0,0,0,0,0,0,0,0,0,0]) (b:=b) (d:=d') (k:=1) rfl⟩
end
set_option maxRecDepth 10000
theorem ac1(x:ByteArray):ev (ajK (sv x))=some (0,[iv (Wd x:Nat),iv (bO (Wd x):Nat)]):=aS.of (by
 rw[ayn];unfold Wd;by_cases h0:x=⟨#[58,61]⟩
 ·simp[h0,bO]
 by_cases h1:x=⟨#[124,124]⟩
 ·simp[h1,bO]
 by_cases h2:x=⟨#[38,38]⟩
 ·simp[h2,bO]
 by_cases h3:x=⟨#[61,61]⟩
 ·simp[h3,bO]
 by_cases h4:x=⟨#[47,61]⟩
 ·simp[h4,bO]
 by_cases h5:x=⟨#[60]⟩
 ·simp[h5,bO]
 by_cases h6:x=⟨#[60,61]⟩
 ·simp[h6,bO]
 by_cases h7:x=⟨#[62]⟩
 ·simp[h7,bO]
 by_cases h8:x=⟨#[62,61]⟩
 ·simp[h8,bO]
 by_cases h9:x=⟨#[58,58]⟩
 ·simp[h9,bO]
 by_cases h10:x=⟨#[94]⟩
 ·simp[h10,bO]
 by_cases h11:x=⟨#[43]⟩
 ·simp[h11,bO]
 by_cases h12:x=⟨#[45]⟩
 ·simp[h12,bO]
 by_cases h13:x=⟨#[42]⟩
 ·simp[h13,bO]
 by_cases h14:x=⟨#[47]⟩
 ·simp[h14,bO]
 by_cases h15:x=⟨#[37]⟩
 ·simp[h15,bO]
 simp[h0,h1,h2,h3,h4,h5,h6,h7,h8,h9,h10,h11,h12,h13,h14,h15,bO])
structure Cx(e:Ex)(c:List PV):Prop where
 w:fC c=e.cells
 l:c.length=11
 n:jh c
theorem Cx.two{x y:Ex}{c e:List PV}(hx:Cx x c)(hy:Cx y e):Raw 11 [c,e] ([x,y].map Ex.cells):=(Raw.one hx.w hx.l hx.n).app hy.w hy.l hy.n
theorem Cx.mk'(k:Int)(s:ByteArray)(n:Int)(ks:List Ex)(a:Int){B:List (List PV)}(hB:Raw 11 B (ks.map Ex.cells)):Cx (nW k s n ks a) [iv k,sv s,iv n,iv 0,sv eB,iv 0,nS,.rows B,nS,nS,iv a]:=
 ⟨by rw[Ex.cells_eq];simp only[vF,LG,RH,RF,RG,hB.wd];rfl,rfl,by have:=hB.ns';simp[this]⟩
theorem Cx.var(k:Int)(s:ByteArray)(n:Int)(a:Int):Cx (nW k s n [] a) [iv k,sv s,iv n,iv 0,sv eB,iv 0,nS,nS,nS,nS,iv a]:=⟨by rw[Ex.cells_eq];simp,rfl,by simp⟩
theorem Cx.plain(e:Ex):Cx e (jP e):=⟨by rw[Ex.cells_eq];simp,rfl,by simp⟩
theorem ac3(t:Tk){x y:Ex}{x0 x1 x2 x3 x4 x5 x6 x7 x8 x9 x10 y0 y1 y2 y3 y4 y5 y6 y7 y8 y9 Cg:PV}(hx:Cx x [x0,x1,x2,x3,x4,x5,x6,x7,x8,x9,x10])(hy:Cx y [y0,y1,y2,y3,y4,y5,y6,y7,y8,y9,Cg]):∃zs,ev (q79 (iv t.kind) (sv t.text) (iv t.n) (iv t.at_) x0 x1 x2 x3 x4 x5 x6 x7 x8 x9 x10 y0 y1 y2 y3 y4 y5 y6 y7 y8 y9 Cg)=some (0,zs)∧Cx (opE t x y) zs:=by
 unfold opE;by_cases h1:t.text=⟨#[38,38]⟩
 ·rw[if_pos h1]
  exact⟨_,aS.of (by rw[h79];simp[h1]),.mk' 10 eB 0 [x,y] t.at_ (hx.two hy)⟩
 ·rw[if_neg h1]
  by_cases h2:t.text=⟨#[124,124]⟩
  ·rw[if_pos h2]
   exact⟨_,aS.of (by rw[h79];simp[h2]),.mk' 11 eB 0 [x,y] t.at_ (hx.two hy)⟩
  ·rw[if_neg h2]
   exact⟨_,aS.of (by rw[h79];simp[h1,h2]),.mk' 5 eB 0 _ t.at_ ((Cx.mk' 5 eB 0 _ t.at_ ((Cx.var 3 t.text 0 t.at_).two hx)).two hy)⟩
def r1{α:Type}(e:α→PV)(l:List α):PV:=.rows (l.map fun x=>[e x])
theorem Ee{α:Type}{e:α→PV}(he:∀x,NS (e x))(l:List α):NS (r1 e l):=.rows _ fun c hc p hp=>by
 obtain⟨x,hx,rfl⟩:=List.mem_map.1 hc;rw[List.mem_singleton.1 hp];exact he x
section
variable{β:Type}{d:β}{α:Type}{e:α→PV}{t:TypeId}{b:Nat}
theorem adu{k:AV→β}(ht:jQ PG t 1 b)(l:List α):mG PG d t (.pv (r1 e l)) k=k (.pv (iv l.length)):=by
 rw[r1,fM (fun _=>kJ ht _) (bH _),List.length_map]
theorem adX{k:AV→β}(ht:jQ PG t 1 b)(he:∀x,NS (e x)){l:List α}{i:Nat}{x:α}(h:l[i]? = some x):lX PG d t (.pv (r1 e l)) (.pv (.lit (.int .i64 (i:Int)))) k=k (.cptr [e x]):=
 jm (fun _=>mH ht (by rw[List.getElem?_map,h];rfl) rfl) (.cptr _ fun p hp=>by rw[List.mem_singleton.1 hp];exact he x)
theorem agk{k:PV→β}(ht:jQ PG t 1 b)(he:∀x,NS (e x))(hb:b≤100){l:List α}{x:α}(h:l.length≤1000000000):pO PG d t (.pv (r1 e l)) (.pv (.rows [[e x]])) k=k (r1 e (l++[x])):=by
 refine wB (fun w=>?_) (Ee he _);have hbb:(l.length+1)*b≤140737488355328:=Nat.le_trans (Nat.mul_le_mul (show l.length+1≤1000000001 by omega) hb) (by decide);rw[r1,Bf ht (es:=l.map fun x=>[e x]) (es':=[[e x]]) rfl rfl (by simp) (by simp) (by simp;omega) (by simpa using hbb)];rw[r1,List.map_append];exact Iff.rfl
theorem agj{k:PV→β}(ht:jQ PG t 1 b)(he:∀x,NS (e x))(hb:b≤100){x:α}:pO PG d t (.pv (.lit (.slice none 0 0))) (.pv (.rows [[e x]])) k=k (r1 e [x]):=by
 refine wB (fun w=>?_) (Ee he _);rw[Bf ht (es:=[]) (es':=[[e x]]) rfl rfl (by simp) (by simp) (by simp) (by simp;omega)];exact Iff.rfl
theorem acj{k:PV→β}(he:∀x,NS (e x)){l:List α}{i:Nat}{x:α}(h:i<l.length):D6 d (r1 e l) (.lit (.int .i64 (i:Int))) 0 [e x] k=k (r1 e (l.set i x)):=by
 have hg:(l.map fun x=>[e x]).getD i []=[e l[i]]:=by
  rw[List.getD_eq_getElem?_getD,List.getElem?_map,List.getElem?_eq_getElem h];rfl
 have hs:setAt [e l[i]] 0 [e x]=[e x]:=rfl;have hset:(l.map fun x=>[e x]).set i [e x]=(l.set i x).map fun x=>[e x]:=by rw[List.map_set]
 refine jY (mV (fun w=>?_) (Ee he _));constructor
 ·rintro⟨es,n,kd,g1,g2,g3,g4,g5,rfl,_⟩
  cases g1;cases g2;rw[Int.toNat_natCast,hg,hs,hset];rfl
 ·rintro rfl
  refine⟨_,_,_,rfl,rfl,by omega,by rw[Int.toNat_natCast,List.length_map];exact h,?_,?_,mE (Ee he _)⟩
  ·rw[Int.toNat_natCast,hg];exact Nat.le_refl 1
  ·rw[Int.toNat_natCast,hg,hs,hset];rfl
theorem aj8{k:PV→β}(ht:jQ PG t 1 b)(he:∀x,NS (e x))(hb:b≤100){z:α}{el:TypeId}(h1:PG.underlying t=some (.slice el))(h2:jS PG el=some 1)(hby:gT PG el=some b)(h3:jw PG el=some [.pv (e z)]){n:Nat}(h:n≤1000000):mkK PG d t (.pv (iv n)) k=k (r1 e (List.replicate n z)):=by
 have hr:(List.replicate n z).map (fun x=>[e x])=List.replicate n [e z]:=List.map_replicate;refine jY (mV (fun w=>?_) (Ee he _));constructor
 ·rintro⟨e',sz,by_,zc,z',m,g1,g2,g3,g4,g5,g6,g7,g8,g9,g10,rfl,_⟩
  rw[h1] at g1;cases g1;rw[h3] at g4;cases g4;have hz:z'=[e z]:=by
   have:Bt [AV.pv (e z)]=some [e z]:=rfl;rw[this] at g5;exact(Option.some.inj g5).symm
  have hm:m=n:=by
   have:rH (.pv (iv n))=some (n:Int):=rfl;rw[this] at g8;have:=Option.some.inj g8;omega
  rw[hz,hm,r1,hr]
 ·rintro rfl
  refine⟨el,1,b,[.pv (e z)],[e z],n,h1,h2,hby,h3,rfl,Nat.one_pos,rfl,rfl,?_,?_,by rw[r1,hr],mE (Ee he _)⟩
  ·exact Nat.le_trans h (by decide)
  ·exact Nat.le_trans (Nat.mul_le_mul h hb) (by decide)
end
theorem acg{β:Type}{d:β}{α:Type}{e:α→PV}{t:TypeId}{b:Nat}{k:AV→β}(ht:jQ PG t 1 b)(he:∀x,NS (e x)){l:List α}{i:Nat}(h:i≤l.length):xk PG d t (.pv (r1 e l)) (some (.pv (.lit (.int .i64 0)))) (some (.pv (.lit (.int .i64 (i:Int))))) k=k (.pv (r1 e (l.take i))):=
 rX (rW (by
  have:=xh ht (es:=l.map fun x=>[e x]) (m:=i) (by simpa using h);rw[←List.map_take] at this;intro ρ lo m h1 h2;cases lo with
  |none=>exact h1.elim
  |some z=>exact(Bz h1).trans (this ρ none m trivial h2))) (.pv _ (Ee he _))
def eN(n:Nat):PV:=iv n
theorem IE(x:Nat):NS (eN x):=.lit _
def fJ(l:List Nat):PV:=r1 eN l
theorem VG:jQ PG 132 1 8:=jQ.of (by kernel_rfl)
section
variable{β:Type}{d:β}{k:AV→β}{kp:PV→β}
@[simp] theorem adm(l:List Nat):mG PG d 132 (.pv (fJ l)) k=k (.pv (iv l.length)):=adu VG l
theorem iM{l:List Nat}{i x:Nat}(h:l[i]? = some x):lX PG d 132 (.pv (fJ l)) (.pv (.lit (.int .i64 (i:Int)))) k=k (.cptr [iv x]):=adX VG IE h
theorem Jq{l:List Nat}{i x:Nat}(h:i<l.length):D6 d (fJ l) (.lit (.int .i64 (i:Int))) 0 [.lit (.int .i64 (x:Int))] kp=kp (fJ (l.set i x)):=acj IE h
theorem qC{l:List Nat}{x:Nat}(h:l.length≤1000000000):pO PG d 132 (.pv (fJ l)) (.pv (.rows [[.lit (.int .i64 (x:Int))]])) kp=kp (fJ (l++[x])):=agk VG IE (by decide) h
theorem Lr{x:Nat}:pO PG d 132 (.pv (.lit (.slice none 0 0))) (.pv (.rows [[.lit (.int .i64 (x:Int))]])) kp=kp (fJ [x]):=agj VG IE (by decide)
theorem yA{l:List Nat}{i:Nat}(h:i≤l.length):xk PG d 132 (.pv (fJ l)) (some (.pv (.lit (.int .i64 0)))) (some (.pv (.lit (.int .i64 (i:Int))))) k=k (.pv (fJ (l.take i))):=acg VG IE h
theorem Zb{n:Nat}(h:n≤1000000):mkK PG d 132 (.pv (iv n)) kp=kp (fJ (List.replicate n 0)):=aj8 (z:=0) VG IE (by decide) (el:=3) (by kernel_rfl) (by kernel_rfl) (by kernel_rfl) (by kernel_rfl) h
end
section
variable(V:Nat→Nat)
def iC(f:Nat):Nat→Nat
 |0=>f
 |k+1=>if V (f+1+k)<V (iC f k)∨V (f+1+k)=V (iC f k)∧bO (V (iC f k))=1 then f+1+k else iC f k
theorem Iy(f to:Nat):∀(n k:Nat),to-(f+1+k)≤n→f+1+k≤to→uT V to n (f+1+k) (iC V f k)=iC V f (to-f-1)
 |0,k,h1,h2=>by
  have:to-f-1=k:=by omega
  rw[uT,this]
 |n+1,k,h1,h2=>by
  rw[uT];by_cases h:f+1+k<to
  ·rw[if_pos h]
   have:=Iy f to n (k+1) (by omega) (by omega);rw[iC] at this;exact this
  ·rw[if_neg h]
   have:to-f-1=k:=by omega
   rw[this]
theorem QC(f:Nat):∀k,f≤iC V f k∧iC V f k≤f+k
 |0=>by simp[iC]
 |k+1=>by
  have:=QC f k;rw[iC];split<;>omega
theorem om{f to:Nat}(h:f<to):f≤iC V f (to-f-1)∧iC V f (to-f-1)<to:=by
 have:=QC V f (to-f-1);omega
theorem adx{f to:Nat}(h:f<to):uT V to to (f+1) f=iC V f (to-f-1):=Iy V f to to 0 (by omega) (by omega)
theorem J7(f:Nat):∀k j,iC V f k<j→j≤f+k→V (iC V f k)<V j∨V (iC V f k)=V j∧bO (V j)≠1
 |0,j,h1,h2=>by simp[iC] at h1;omega
 |k+1,j,h1,h2=>by
  rw[iC] at h1 ⊢;split at h1
  ·omega
  ·rename_i hc
   rw[if_neg hc];by_cases hj:j=f+1+k
   ·subst hj
    rcases Nat.lt_trichotomy (V (iC V f k)) (V (f+1+k)) with h|h|h
    ·exact .inl h
    ·refine .inr ⟨h,fun h3=>hc (.inr ⟨h.symm,by rw[h];exact h3⟩)⟩
    ·exact absurd (.inl h) hc
   ·exact J7 f k j h1 (by omega)
def qc:Nat→Nat→Nat→List Nat
 |0,_,_=>[]
 |n+1,f,to=>if f=to then [] else qc n f (iC V f (to-f-1))++qc n (iC V f (to-f-1)+1) to++[iC V f (to-f-1)]
theorem C8:∀(n m f to:Nat),f≤to→to-f≤n→to-f≤m→qc V n f to=qc V m f to
 |0,0,f,to,h,h1,h2=>rfl
 |0,m+1,f,to,h,h1,h2=>by
  obtain rfl:f=to:=by omega
  simp[qc]
 |n+1,0,f,to,h,h1,h2=>by
  obtain rfl:f=to:=by omega
  simp[qc]
 |n+1,m+1,f,to,h,h1,h2=>by
  rw[qc,qc];by_cases hf:f=to
  ·simp[hf]
  ·have:=om V (f:=f) (to:=to) (by omega)
   rw[if_neg hf,if_neg hf,C8 n m f _ (by omega) (by omega) (by omega),C8 n m _ to (by omega) (by omega) (by omega)]
def YF(f to:Nat):List Nat:=qc V (to-f) f to
theorem vM(f:Nat):YF V f f=[]:=by unfold YF;simp[qc]
theorem Qo{f to:Nat}(h:f<to):YF V f to=YF V f (iC V f (to-f-1))++YF V (iC V f (to-f-1)+1) to++[iC V f (to-f-1)]:=by
 have hl:=om V h;unfold YF;obtain⟨n,hn⟩:∃n,to-f=n+1:=⟨to-f-1,by omega⟩;rw[hn,qc,if_neg (by omega)];rw[hn] at hl;rw[hn,C8 V n _ f _ (by omega) (by omega) (Nat.le_refl _),C8 V n _ _ to (by omega) (by omega) (Nat.le_refl _)]
def Ad:Nat→Nat→Nat→List Nat
 |0,_,_=>[]
 |n+1,f,to=>if f=to then [] else Ad n (iC V f (to-f-1)+1) to++[iC V f (to-f-1)]
def Qu:Nat→Nat→Nat→List Nat
 |0,_,_=>[]
 |n+1,f,to=>if f=to then [] else YF V f (iC V f (to-f-1))++Qu n (iC V f (to-f-1)+1) to
theorem Db:∀(n f to:Nat),f≤to→to-f≤n→Qu V n f to++Ad V n f to=YF V f to
 |0,f,to,h,h1=>by
  obtain rfl:f=to:=by omega
  simp[Qu,Ad,vM]
 |n+1,f,to,h,h1=>by
  rw[Qu,Ad];by_cases hf:f=to
  ·subst hf;simp[vM]
  ·have hl:=om V (f:=f) (to:=to) (by omega)
   have ih:=Db n (iC V f (to-f-1)+1) to (by omega) (by omega);rw[if_neg hf,if_neg hf,Qo V (f:=f) (to:=to) (by omega),←ih];simp
def mr(i:Nat):List Nat→List Nat→Option (List Nat×List Nat)
 |[],out=>some ([],out)
 |t::st,out=>if V t<V i∨V t=V i∧bO (V i)=2 then some (t::st,out) else if V t=V i∧bO (V i)=0 then none else mr i st (out++[t])
def fP(len:Nat):Nat→Nat→List Nat→List Nat→Except Nat (List Nat)
 |0,i,st,out=>.ok (out++st)
 |n+1,i,st,out=>if i<len then(match mr V i st out with
  |none=>.error i
  |some (st',out')=>fP len n (i+1) (i::st') out') else .ok (out++st)
theorem Ni(i:Nat):∀(a b out:List Nat),(∀t∈a,V i<V t∨V t=V i∧bO (V i)=1)→mr V i (a++b) out=mr V i b (out++a)
 |[],b,out,h=>by simp
 |t::a,b,out,h=>by
  have ht:=h t (by simp);have h1:¬(V t<V i∨V t=V i∧bO (V i)=2):=by rcases ht with ht|⟨h1,h2⟩<;>rintro (h3|⟨h3,h4⟩)<;>omega
  have h2:¬(V t=V i∧bO (V i)=0):=by rcases ht with ht|⟨h1,h2⟩<;>rintro⟨h3,h4⟩<;>omega
  rw[List.cons_append,mr,if_neg h1,if_neg h2,Ni i a b _ (fun t' h'=>h t' (by simp[h']))];simp
theorem P9:∀(n f to:Nat),f≤to→to-f≤n→∀t∈Ad V n f to,f≤t∧t<to
 |0,f,to,h,h1,t,ht=>by simp[Ad] at ht
 |n+1,f,to,h,h1,t,ht=>by
  rw[Ad] at ht;by_cases hf:f=to
  ·simp[hf] at ht
  ·have hl:=om V (f:=f) (to:=to) (by omega)
   rw[if_neg hf] at ht;rcases List.mem_append.1 ht with ht|ht
   ·have:=P9 n _ to (by omega) (by omega) t ht;omega
   ·rw[List.mem_singleton.1 ht];omega
theorem avu{k:Nat}(h:bO k=0):k=4:=by
 unfold bO at h;split at h
 ·assumption
 ·split at h<;>omega
theorem qZ(k:Nat):bO k=0∨bO k=1∨bO k=2:=by
 unfold bO;split
 ·simp
 ·split<;>simp
theorem aiP(i:Nat):∀(n f:Nat),f<i→i-f≤n→(V i<V (iC V f (i-f-1))∨V i=V (iC V f (i-f-1))∧bO (V i)=1)→∀t∈Ad V n f i,V i<V t∨V t=V i∧bO (V i)=1:=by
 intro n f hf hn hb t ht;have hin:=P9 V n f i (by omega) hn t ht;by_cases h:t=iC V f (i-f-1)
 ·subst h;rcases hb with hb|⟨h1,h2⟩
  ·exact .inl hb
  ·exact .inr ⟨h1.symm,h2⟩
 ·by_cases h2:iC V f (i-f-1)<t
  ·have:=J7 V f (i-f-1) t h2 (by omega)
   rcases hb with hb|⟨h1,h3⟩
   ·rcases this with h4|⟨h4,_⟩<;>exact .inl (by omega)
   ·rcases this with h4|⟨h4,h5⟩
    ·exact .inl (by omega)
    ·rw[←h4,←h1] at h5;exact absurd h3 h5
  ·exfalso
   obtain⟨n,rfl⟩:∃k,n=k+1:=⟨n-1,by omega⟩;rw[Ad,if_neg (by omega)] at ht;have hl:=om V hf;rcases List.mem_append.1 ht with ht|ht
   ·have:=P9 V n _ i (by omega) (by omega) t ht;omega
   ·exact h (List.mem_singleton.1 ht)
theorem Hu(n f:Nat):Ad V n f f=[]:=by cases n<;>simp[Ad]
theorem Nn(n f:Nat):Qu V n f f=[]:=by cases n<;>simp[Qu]
theorem yD(n:Nat){f to s:Nat}(h:f<to)(hs:iC V f (to-f-1)=s):Ad V (n+1) f to=Ad V n (s+1) to++[s]:=by rw[Ad,if_neg (by omega),hs]
theorem Np(n:Nat){f to s:Nat}(h:f<to)(hs:iC V f (to-f-1)=s):Qu V (n+1) f to=YF V f s++Qu V n (s+1) to:=by rw[Qu,if_neg (by omega),hs]
theorem vU(f:Nat):iC V f (f+1-f-1)=f:=by rw[show f+1-f-1=0 by omega];rfl
theorem NC{f i:Nat}(h:f<i):iC V f (i+1-f-1)=if V i<V (iC V f (i-f-1))∨V i=V (iC V f (i-f-1))∧bO (V (iC V f (i-f-1)))=1 then i else iC V f (i-f-1):=by
 obtain⟨k,hk⟩:∃k,i-f-1=k:=⟨_,rfl⟩;have e1:i+1-f-1=k+1:=by omega
 have e2:f+1+k=i:=by omega
 rw[hk,e1,iC,e2]
theorem Nh(i:Nat):∀(n f:Nat) (rest out:List Nat),f≤i→i-f≤n→∃st' P,Ad V (n+1) f (i+1)=i::st'∧Qu V n f i++P=Qu V (n+1) f (i+1)∧
  mr V i (Ad V n f i++rest) out=(match st' with
   |[]=>mr V i rest (out++P)
   |t::_=>if V t=V i∧bO (V i)=0 then none else some (st'++rest,out++P)):=by
 intro n
 induction n with
 |zero=>
  intro f rest out hf hn;have:f=i:=by omega
  subst this;exact⟨[],[],by rw[yD V 0 (Nat.lt_succ_self f) (vU V f),Hu];rfl,by rw[Np V 0 (Nat.lt_succ_self f) (vU V f),Nn,Nn,vM],by simp[Ad]⟩
 |succ n ih=>
  intro f rest out hf hn;by_cases hfi:f=i
  ·subst hfi
   exact⟨[],[],by rw[yD V (n+1) (Nat.lt_succ_self f) (vU V f),Hu];rfl,by rw[Np V (n+1) (Nat.lt_succ_self f) (vU V f),Nn,Nn,vM],by simp[Ad]⟩
  ·have hl:=om V (f:=f) (to:=i) (by omega)
   have hs:=NC V (f:=f) (i:=i) (by omega);by_cases hb:V i<V (iC V f (i-f-1))∨V i=V (iC V f (i-f-1))∧bO (V (iC V f (i-f-1)))=1
   ·rw[if_pos hb] at hs
    have hb':V i<V (iC V f (i-f-1))∨V i=V (iC V f (i-f-1))∧bO (V i)=1:=by
     rcases hb with hb|⟨h1,h2⟩
     ·exact .inl hb
     ·exact .inr ⟨h1,by rw[h1];exact h2⟩
    refine⟨[],Ad V (n+1) f i,?_,?_,?_⟩
    ·rw[yD V (n+1) (by omega) hs,Hu];rfl
    ·rw[Db V (n+1) f i hf hn,Np V (n+1) (by omega) hs,Nn];simp
    ·exact Ni V i _ _ _ (aiP V i (n+1) f (by omega) hn hb')
   ·rw[if_neg hb] at hs
    obtain⟨st',P,c1,c2,c3⟩:=ih (iC V f (i-f-1)+1) (iC V f (i-f-1)::rest) out (by omega) (by omega);refine⟨st'++[iC V f (i-f-1)],P,?_,?_,?_⟩
    ·rw[yD V (n+1) (by omega) hs,c1];rfl
    ·rw[Np V n (by omega) rfl,Np V (n+1) (by omega) hs,←c2];simp
    ·have e1:Ad V (n+1) f i++rest=Ad V n (iC V f (i-f-1)+1) i++(iC V f (i-f-1)::rest):=by rw[yD V n (by omega) rfl];simp
     rw[e1,c3];cases st' with
     |cons t st'=>simp
     |nil=>
      simp only[List.nil_append];rw[mr];by_cases h1:V (iC V f (i-f-1))<V i∨V (iC V f (i-f-1))=V i∧bO (V i)=2
      ·rw[if_pos h1,if_neg (by rintro⟨h3,h4⟩;rcases h1 with h1|⟨_,h1⟩<;>omega)];rfl
      ·rw[if_neg h1]
       by_cases h2:V (iC V f (i-f-1))=V i∧bO (V i)=0
       ·rw[if_pos h2,if_pos h2]
       ·exfalso
        rcases Nat.lt_trichotomy (V i) (V (iC V f (i-f-1))) with h|h|h
        ·exact hb (.inl h)
        ·rcases qZ (V i) with h5|h5|h5
         ·exact h2 ⟨h.symm,h5⟩
         ·exact hb (.inr ⟨h,by rw[←h];exact h5⟩)
         ·exact h1 (.inr ⟨h.symm,h5⟩)
        ·exact h1 (.inl h)
theorem QB(f:Nat):∀k j,f≤j→j<iC V f k→V (iC V f k)<V j∨V (iC V f k)=V j∧bO (V (iC V f k))=1
 |0,j,h1,h2=>by simp[iC] at h2;omega
 |k+1,j,h1,h2=>by
  have hin:=QC V f k;rw[iC] at h2 ⊢;split at h2
  ·rename_i hc
   rw[if_pos hc];have key:∀j,f≤j→j≤f+k→V (iC V f k)<V j∨V (iC V f k)=V j:=fun j h1 h2=>by
    rcases Nat.lt_trichotomy j (iC V f k) with h|h|h
    ·rcases QB f k j h1 h with h|⟨h,_⟩
     ·exact .inl h
     ·exact .inr h
    ·exact .inr (by rw[h])
    ·rcases J7 V f k j h h2 with h|⟨h,_⟩
     ·exact .inl h
     ·exact .inr h
   rcases hc with hc|⟨hc,hs⟩
   ·rcases key j h1 (by omega) with h|h<;>exact .inl (by omega)
   ·rcases key j h1 (by omega) with h|h
    ·exact .inl (by omega)
    ·exact .inr ⟨by omega,by rw[hc];exact hs⟩
  ·rename_i hc
   rw[if_neg hc];exact QB f k j h1 h2
def alU(f i:Nat):List Nat→Prop
 |[]=>∀j,f≤j→j<i→V i<V j∨V i=V j∧bO (V i)=1
 |t::_=>f≤t∧t<i∧(V t<V i∨V t=V i∧bO (V i)≠1)∧∀j,t<j→j<i→V i<V j∨V i=V j∧bO (V i)=1
theorem RU(i:Nat):∀(n f:Nat) (st':List Nat),f≤i→i-f≤n→Ad V (n+1) f (i+1)=i::st'→alU V f i st':=by
 intro n
 induction n with
 |zero=>
  intro f st' hf hn h;obtain rfl:f=i:=by omega
  rw[yD V 0 (Nat.lt_succ_self f) (vU V f),Hu] at h;cases h;exact fun j h1 h2=>by omega
 |succ n ih=>
  intro f st' hf hn h;by_cases hfi:f=i
  ·subst hfi
   rw[yD V (n+1) (Nat.lt_succ_self f) (vU V f),Hu] at h;cases h;exact fun j h1 h2=>by omega
  ·have hl:=om V (f:=f) (to:=i) (by omega)
   have hs:=NC V (f:=f) (i:=i) (by omega);by_cases hb:V i<V (iC V f (i-f-1))∨V i=V (iC V f (i-f-1))∧bO (V (iC V f (i-f-1)))=1
   ·rw[if_pos hb] at hs
    rw[yD V (n+1) (by omega) hs,Hu] at h;cases h;intro j h1 h2;have key:V (iC V f (i-f-1))<V j∨V (iC V f (i-f-1))=V j:=by
     rcases Nat.lt_trichotomy j (iC V f (i-f-1)) with h|h|h
     ·rcases QB V f _ j h1 h with h|⟨h,_⟩
      ·exact .inl h
      ·exact .inr h
     ·exact .inr (by rw[h])
     ·rcases J7 V f _ j h (by omega) with h|⟨h,_⟩
      ·exact .inl h
      ·exact .inr h
    rcases hb with hb|⟨hb,hc⟩
    ·rcases key with h|h<;>exact .inl (by omega)
    ·rcases key with h|h
     ·exact .inl (by omega)
     ·exact .inr ⟨by omega,by rw[hb];exact hc⟩
   ·rw[if_neg hb] at hs
    obtain⟨st2,P,c1,_,_⟩:=Nh V i n (iC V f (i-f-1)+1) [] [] (by omega) (by omega);have h5:=ih _ st2 (by omega) (by omega) c1;rw[yD V (n+1) (by omega) hs,c1] at h;have h6:st'=st2++[iC V f (i-f-1)]:=by simpa using h.symm
    subst h6;cases st2 with
    |cons t r=>exact⟨by have:=h5.1;omega,h5.2.1,h5.2.2.1,h5.2.2.2⟩
    |nil=>
     refine⟨by omega,by omega,?_,fun j h1 h2=>h5 j (by omega) h2⟩;rcases Nat.lt_trichotomy (V i) (V (iC V f (i-f-1))) with h|h|h
     ·exact absurd (.inl h) hb
     ·exact .inr ⟨h.symm,fun h7=>hb (.inr ⟨h,by rw[←h];exact h7⟩)⟩
     ·exact .inl h
theorem Rq(V:Nat→Nat):∀(i t:Nat),t≤i→(∀j,t≤j→j<i→4<V j)→Lh V i=Lh V t
 |0,t,h,_=>by
  obtain rfl:t=0:=by omega
  rfl
 |i+1,t,h,hj=>by
  by_cases ht:t=i+1
  ·rw[ht]
  ·rw[Lh,if_pos (hj i (by omega) (by omega))]
   exact Rq V i t (by omega) fun j h1 h2=>hj j h1 (by omega)
theorem WH(i:Nat)(h:Ad V (i+1) 0 (i+1)=[i]):¬(V i=4∧Lh V i=true):=by
 rintro⟨h4,hb⟩;have hk:=RU V i i 0 [] (Nat.zero_le _) (by omega) h;have hs:bO (V i)=0:=by rw[h4];rfl
 rw[Rq V i 0 (Nat.zero_le _) fun j h1 h2=>by rcases hk j h1 h2 with h|⟨h,h5⟩<;>omega] at hb;cases hb
theorem F9(i t:Nat)(r:List Nat)(h:Ad V (i+1) 0 (i+1)=i::t::r):(V t=V i∧bO (V i)=0)↔(V i=4∧Lh V i=true):=by
 obtain⟨h0,h1,h2,h3⟩:=RU V i i 0 (t::r) (Nat.zero_le _) (by omega) h;by_cases h4:V i=4
 ·have hs:bO (V i)=0:=by rw[h4];rfl
  have hb:Lh V i=decide (V t=4):=by
   rw[Rq V i (t+1) (by omega) fun j h5 h6=>by rcases h3 j (by omega) h6 with h|⟨h,h7⟩<;>omega];rw[Lh,if_neg (by rcases h2 with h|⟨h,_⟩<;>omega)]
  rw[hb,decide_eq_true_eq];constructor
  ·rintro⟨h5,_⟩;exact⟨h4,by omega⟩
  ·rintro⟨_,h5⟩;exact⟨by omega,hs⟩
 ·constructor
  ·rintro⟨_,h5⟩;exact absurd (avu h5) h4
  ·rintro⟨h5,_⟩;exact absurd h5 h4
theorem EK(len:Nat):∀(n i:Nat),i≤len→len-i≤n→fP V len n i (Ad V i 0 i) (Qu V i 0 i)=match nN V len n i with
  |some k=>.error k
  |none=>.ok (YF V 0 len)
 |0,i,h,h1=>by
  obtain rfl:i=len:=by omega
  rw[fP,nN];simp only;rw[Db V i 0 i (Nat.zero_le _) (by omega)]
 |n+1,i,h,h1=>by
  rw[fP,nN];by_cases hi:i<len
  ·rw[if_pos hi,if_pos hi]
   obtain⟨st',P,c1,c2,c3⟩:=Nh V i i 0 [] (Qu V i 0 i) (Nat.zero_le _) (by omega);rw[List.append_nil] at c3;rw[c3];have ih:=EK len n (i+1) (by omega) (by omega);cases st' with
   |nil=>
    rw[if_neg (WH V i c1)];simp only[mr];rw[←ih,c1,c2]
   |cons t r=>
    simp only;by_cases hc:V t=V i∧bO (V i)=0
    ·rw[if_pos hc,if_pos ((F9 V i t r c1).1 hc)]
    ·rw[if_neg hc,if_neg (fun h=>hc ((F9 V i t r c1).2 h))]
     simp only[List.append_nil];rw[←ih,c1,c2]
  ·obtain rfl:i=len:=by omega
   rw[if_neg hi,if_neg hi];simp only;rw[Db V i 0 i (Nat.zero_le _) (by omega)]
end
end Go.Proofs.YtfphhabaeggenaaGreatDoor
namespace Go.Proofs.YtfphhabaeggenaaGreatDoor
open Go.RowKit
inductive Rt(F:Nat→Nat):Nat→Nat→Prop where
 |here (a:Nat) (h:F a=a):Rt F a a
 |go (j a:Nat) (h:F j≠j) (r:Rt F (F j) a):Rt F j a
def upd{α:Type}(F:Nat→α)(x:Nat)(v:α):Nat→α:=fun j=>if j=x then v else F j
theorem DC{α:Type}(F:Nat→α)(x:Nat)(v:α):upd F x v x=v:=if_pos rfl
theorem upd_ne{α:Type}(F:Nat→α){x j:Nat}(v:α)(h:j≠x):upd F x v j=F j:=if_neg h
inductive Run(ops:List Tk):List Nat→(Nat→Nat)→(Nat→Ex)→(Nat→Nat)→(Nat→Ex)→Prop where
 |nil (F:Nat→Nat) (A:Nat→Ex):Run ops [] F A F A
 |cons (i a:Nat) (r:List Nat) (F F':Nat→Nat) (A A':Nat→Ex) (h:Rt F i a) (hr:Run ops r (upd F (i+1) a) (upd A a (opE (opAt ops i) (A a) (A (i+1)))) F' A'):Run ops (i::r) F A F' A'
theorem Run.app{ops:List Tk}{r r2:List Nat}{F F1 F2:Nat→Nat}{A A1 A2:Nat→Ex}(h1:Run ops r F A F1 A1)(h2:Run ops r2 F1 A1 F2 A2):Run ops (r++r2) F A F2 A2:=by
 induction h1 with
 |nil=>exact h2
 |cons i a r F F' A A' h hr ih=>exact .cons i a _ _ _ _ _ h (ih h2)
def Seg(F:Nat→Nat)(f to:Nat):Prop:=∀j,f≤j→j≤to→f≤F j∧F j≤to∧Rt F j f
theorem Rt.keep{F F':Nat→Nat}{f to:Nat}(hs:∀j,f≤j→j≤to→f≤F j∧F j≤to)(he:∀j,f≤j→j≤to→F' j=F j){j a:Nat}(h:Rt F j a):f≤j→j≤to→Rt F' j a:=by
 induction h with
 |here a h=>intro h1 h2;exact .here a (by rw[he a h1 h2];exact h)
 |go j a h r ih=>
  intro h1 h2;have:=hs j h1 h2;exact .go j a (by rw[he j h1 h2];exact h) (by rw[he j h1 h2];exact ih this.1 this.2)
theorem Rt.root{F:Nat→Nat}{j a:Nat}(h:Rt F j a):F a=a:=by
 induction h with
 |here a h=>exact h
 |go j a h r ih=>exact ih
theorem Rt.tie{F F':Nat→Nat}{f s to:Nat}(hs:∀j,s≤j→j≤to→s≤F j∧F j≤to)(he:∀j,s<j→j≤to→F' j=F j)(hx:F' s=f)(hne:f≠s)(hf:F' f=f){j a:Nat}(h:Rt F j a):a=s→s≤j→j≤to→Rt F' j f:=by
 induction h with
 |here a h=>
  intro h0 h1 h2;subst h0;exact .go a f (by rw[hx];exact hne) (by rw[hx];exact .here f hf)
 |go j a h r ih=>
  intro h0 h1 h2;have h3:=hs j h1 h2;by_cases hj:j=s
  ·subst hj
   exact .go j f (by rw[hx];exact hne) (by rw[hx];exact .here f hf)
  ·exact .go j f (by rw[he j (by omega) h2];exact h) (by rw[he j (by omega) h2];exact ih h0 h3.1 h3.2)
theorem acF(l:List Ex)(ops:List Tk):∀(m f to:Nat) (F:Nat→Nat) (A:Nat→Ex),f≤to→to-f≤m→(∀j,f≤j→j≤to→F j=j∧A j=KO l j)→∃F' A',Run ops (YF (PD ops) f to) F A F' A'∧Seg F' f to∧A' f=mK l ops m f to∧∀j,(j<f∨to<j)→F' j=F j∧A' j=A j:=by
 intro m
 induction m with
 |zero=>
  intro f to F A hf hm h;obtain rfl:f=to:=by omega
  rw[vM];refine⟨F,A,.nil _ _,fun j h1 h2=>?_,?_,fun j _=>⟨rfl,rfl⟩⟩
  ·obtain rfl:j=f:=by omega
   have:=(h j h1 h2).1;exact⟨by omega,by omega,.here j this⟩
  ·rw[mK];exact(h f (by omega) (by omega)).2
 |succ m ih=>
  intro f to F A hf hm h;by_cases hft:f=to
  ·subst hft
   rw[vM];refine⟨F,A,.nil _ _,fun j h1 h2=>?_,?_,fun j _=>⟨rfl,rfl⟩⟩
   ·obtain rfl:j=f:=by omega
    have:=(h j h1 h2).1;exact⟨by omega,by omega,.here j this⟩
   ·rw[mK,if_pos rfl];exact(h f (by omega) (by omega)).2
  ·have hlt:f<to:=by omega
   have hl:=om (PD ops) hlt;have he:=adx (PD ops) hlt;rw[Qo (PD ops) hlt];generalize iC (PD ops) f (to-f-1)=s at *;obtain⟨F1,A1,r1,s1,b1,o1⟩:=ih f s F A hl.1 (by omega) (fun j h1 h2=>h j h1 (by omega));obtain⟨F2,A2,r2,s2,b2,o2⟩:=ih (s+1) to F1 A1 (by omega) (by omega) (fun j h1 h2=>by
    obtain⟨z1,z2⟩:=o1 j (.inr (by omega));rw[z1,z2];exact h j (by omega) h2)
   have e1:∀j,f≤j→j≤s→F2 j=F1 j∧A2 j=A1 j:=fun j h1 h2=>o2 j (.inl (by omega))
   have k1:Rt F2 s f:=(s1 s hl.1 (Nat.le_refl _)).2.2.keep (fun j h1 h2=>⟨(s1 j h1 h2).1,(s1 j h1 h2).2.1⟩) (fun j h1 h2=>(e1 j h1 h2).1) hl.1 (Nat.le_refl _);have hroot:=k1.root;refine⟨upd F2 (s+1) f,upd A2 f (opE (opAt ops s) (A2 f) (A2 (s+1))),(r1.app r2).app (.cons s f [] _ _ _ _ k1 (.nil _ _)),?_,?_,?_⟩
   ·intro j h1 h2
    by_cases hj:j≤s
    ·have z:=s1 j h1 hj
     have zz:upd F2 (s+1) f j=F1 j:=by rw[upd_ne _ _ (by omega)];exact(e1 j h1 hj).1
     rw[zz];refine⟨z.1,by omega,z.2.2.keep (fun j h1 h2=>⟨(s1 j h1 h2).1,(s1 j h1 h2).2.1⟩) (fun j h1 h2=>?_) h1 hj⟩;rw[upd_ne _ _ (by omega)];exact(e1 j h1 h2).1
    ·have z:=s2 j (by omega) h2
     have hff:upd F2 (s+1) f f=f:=by rw[upd_ne _ _ (by omega)];exact hroot
     have ht:=z.2.2.tie (F':=upd F2 (s+1) f) (f:=f) (fun j h1 h2=>⟨(s2 j h1 h2).1,(s2 j h1 h2).2.1⟩) (fun j h1 h2=>upd_ne _ _ (by omega)) (DC _ _ _) (by omega) hff rfl (by omega) h2;by_cases hjs:j=s+1
     ·subst hjs;rw[DC];exact⟨Nat.le_refl _,by omega,ht⟩
     ·rw[upd_ne _ _ hjs];exact⟨by omega,z.2.1,ht⟩
   ·rw[DC,mK,if_neg hft]
    simp only;rw[he,(e1 f (Nat.le_refl _) hl.1).2,b1,b2]
   ·intro j hj
    rw[upd_ne _ _ (by omega),upd_ne _ _ (by omega)];have z1:=o1 j (by omega);have z2:=o2 j (by omega);exact⟨z2.1.trans z1.1,z2.2.trans z1.2⟩
end Go.Proofs.YtfphhabaeggenaaGreatDoor
