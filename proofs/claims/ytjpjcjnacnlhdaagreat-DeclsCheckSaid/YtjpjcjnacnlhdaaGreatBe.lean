/- Joined. -/
import Derived.Test.YtjpjcjnacnlhdaaGreatBd
import Derived.Test.YtjpjcjnacnlhdaaGreatEz0
set_option linter.unusedSimpArgs false
set_option linter.unusedVariables false
namespace Go.Proofs.YtjpjcjnacnlhdaaGreat
open Go.RowKit
def fnd{α:Type}(f:α→Bool):List α→Nat→Option Nat
 |[],_=>none
 |a::l,i=>if f a then some i else fnd f l (i+1)
theorem fnd_some{α:Type}{f:α→Bool}:∀{l:List α} {i k:Nat},fnd f l i=some k→i≤k∧∃a,l[k-i]?=some a∧f a=true
 |[],i,k,h=>by cases h
 |a::l,i,k,h=>by
  rw[fnd]at h
  split at h
  ·rename_i hf
   cases h
   exact⟨Nat.le_refl _,a,by simp,hf⟩
  ·obtain⟨h1,b,h2,h3⟩:=fnd_some h
   refine⟨by omega,b,?_,h3⟩
   rw[show k-i=(k-(i+1))+1 by omega]
   simpa using h2
theorem fnd_none{α:Type}{f:α→Bool}:∀{l:List α} {i:Nat},fnd f l i=none↔∀a∈l,f a=false
 |[],i=>by simp[fnd]
 |a::l,i=>by
  rw[fnd]
  cases hf:f a with
  |true=>simp[hf]
  |false=>simp[hf,fnd_none (l:=l)]
def fi{α:Type}(f:α→Bool)(l:List α):Int:=match fnd f l 0 with
 |some i=>i
 |none=>-1
theorem fi_nonneg{α:Type}{f:α→Bool}{l:List α}(h:0≤fi f l):∃(k:Nat) (a:α),fi f l=k∧fnd f l 0=some k∧l[k]?=some a∧f a=true:=by
 unfold fi at h ⊢
 cases hf:fnd f l 0 with
 |none=>rw[hf]at h;simp at h
 |some k=>
  obtain⟨_,a,h1,h2⟩:=fnd_some hf
  exact⟨k,a,rfl,rfl,by simpa using h1,h2⟩
theorem fi_neg{α:Type}{f:α→Bool}{l:List α}(h:¬0≤fi f l):fi f l = -1∧fnd f l 0=none:=by
 unfold fi at h ⊢
 cases hf:fnd f l 0 with
 |none=>exact⟨rfl,rfl⟩
 |some k=>rw[hf]at h;exact absurd (Int.natCast_nonneg k) h
theorem fi_some{α:Type}{f:α→Bool}{l:List α}{k:Nat}(h:fnd f l 0=some k):fi f l=k:=by unfold fi;rw[h]
theorem ev_find{α:Type}(l:List α)(f:α→Bool)(q:Nat→Q)(r0:Rs)(rf:Nat→Rs)
  (step:∀i a,l[i]?=some a→i<l.length→body PG EE TT ev (q i)=bK (f a) (.ok (rf i)) (passK (ev (q (i+1)))))
  (done:body PG EE TT ev (q l.length)=.ok r0):ev (q 0)=some (match fnd f l 0 with|some i=>rf i|none=>r0):=by
 have key:∀(m i:Nat),l.length-i=m→i≤l.length→ev (q i)=some (match fnd f (l.drop i) i with|some i=>rf i|none=>r0):=by
  intro m
  induction m with
  |zero=>
   intro i hm hi
   have:i=l.length:=by omega
   subst this
   rw[List.drop_length]
   exact Evl.of done
  |succ m ih=>
   intro i hm hi
   have hlt:i<l.length:=by omega
   have h1:=step i _ (lGg hlt) hlt
   rw[List.drop_eq_getElem_cons hlt,fnd]
   refine Evl.of ?_
   rw[h1]
   cases hf:f l[i]with
   |true=>rfl
   |false=>
    show passK _=_
    rw[ih (i+1) (by omega) (by omega)];rfl
 simpa using key l.length 0 rfl (Nat.zero_le _)
theorem fi_any{α:Type}(f:α→Bool)(l:List α):decide (0≤fi f l)=l.any f:=by
 by_cases h:0≤fi f l
 ·obtain⟨k,a,_,_,h3,h4⟩:=fi_nonneg h
  rw[decide_eq_true h,Eq.comm,List.any_eq_true]
  exact⟨a,lMg h3,h4⟩
 ·rw[decide_eq_false h,Eq.comm,List.any_eq_false]
  have:=fnd_none.1 (fi_neg h).2
  intro x hx;simp[this x hx]
def isDt(s:ByteArray):Dt→Bool:=fun x=>decide (x.name=s)
def isCl(s:ByteArray):Cl→Bool:=fun x=>decide (x.name=s)
def isMd(s:ByteArray):Md→Bool:=fun x=>decide (x.name=s)
def isBd(s:ByteArray):Bd→Bool:=fun x=>decide (x.name=s)
def isIt(s u:ByteArray):It→Bool:=fun x=>decide (x.cls=s∧x.head.name=u)
def isTn(s:ByteArray):Ty→Bool:=fun x=>decide (x.name=s)
def isTv(t:Ty):Ty→Bool:=fun x=>decide (t.kind=1∧x.name=t.name)
def isPd(c s:ByteArray):Pd→Bool:=fun x=>decide (x.cls=c∧x.t.name=s)
theorem clo_dt(x:Dt)(s:ByteArray):ev (q53a (sv x.name) (strs x.params) (cns x.cons) (strs x.deriv) (iv x.at_) (sv s))=some (0,[sv s,bv (isDt s x)]):=
 Evl.of (by rw[h53a,g53a];by_cases h0:x.name=s<;>simp[isDt,h0])
theorem ixl_dt(l:List Dt)(hl:l.length≤maxN)(s:ByteArray):ev (q92ab0a (iv 0) (iv l.length) (dts l) (sv s))=some (match fnd (isDt s) l 0 with|some i=>(0,[sv s,iv i])|none=>(1,[sv s])):=
 ev_find l (isDt s) (fun i=>q92ab0a (iv i) (iv l.length) (dts l) (sv s)) _ _
  (fun i a ha hi=>by rw[h92ab0a,g92ab0a];simp[idxK_dts ha,hi,clo_dt,wL hi hl])
  (by rw[h92ab0a,g92ab0a];simp)
theorem ix_dt(l:List Dt)(hl:l.length≤maxN)(s:ByteArray):ev (q92a (dts l) (sv s))=some (0,[sv s,iv (fi (isDt s) l)]):=
 Evl.of (by rw[h92a,g92a];simp[ixl_dt l hl s];cases h:fnd (isDt s) l 0<;>simp[fi,h])
theorem find_dt(l:List Dt)(hl:l.length≤maxN)(s:ByteArray):ev (q52a (dts l) (sv s))=some (0,[sv s,iv (max (fi (isDt s) l) 0),bv (decide (0≤fi (isDt s) l))]):=
 Evl.of (by rw[h52a,g52a];simp[ix_dt l hl s];cases decide (0≤fi (isDt s) l)<;>rfl)
theorem clo_cl(x:Cl)(s:ByteArray):ev (q58a (sv x.name) (sv x.var) (strs x.supers) (mds x.methods) (bds x.defaults) (iv x.at_) (sv s))=some (0,[sv s,bv (isCl s x)]):=
 Evl.of (by rw[h58a,g58a];by_cases h0:x.name=s<;>simp[isCl,h0])
theorem ixl_cl(l:List Cl)(hl:l.length≤maxN)(s:ByteArray):ev (q95ab0a (iv 0) (iv l.length) (cls l) (sv s))=some (match fnd (isCl s) l 0 with|some i=>(0,[sv s,iv i])|none=>(1,[sv s])):=
 ev_find l (isCl s) (fun i=>q95ab0a (iv i) (iv l.length) (cls l) (sv s)) _ _
  (fun i a ha hi=>by rw[h95ab0a,g95ab0a];simp[idxK_cls ha,hi,clo_cl,wL hi hl])
  (by rw[h95ab0a,g95ab0a];simp)
theorem ix_cl(l:List Cl)(hl:l.length≤maxN)(s:ByteArray):ev (q95a (cls l) (sv s))=some (0,[sv s,iv (fi (isCl s) l)]):=
 Evl.of (by rw[h95a,g95a];simp[ixl_cl l hl s];cases h:fnd (isCl s) l 0<;>simp[fi,h])
theorem find_cl(l:List Cl)(hl:l.length≤maxN)(s:ByteArray):ev (q57a (cls l) (sv s))=some (0,[sv s,iv (max (fi (isCl s) l) 0),bv (decide (0≤fi (isCl s) l))]):=
 Evl.of (by rw[h57a,g57a];simp[ix_cl l hl s];cases decide (0≤fi (isCl s) l)<;>rfl)
theorem clo_md(x:Md)(s:ByteArray):ev (q60a (sv x.name) (iv x.t.kind) (sv x.t.name) (iv x.t.n) (tys x.t.kids) (iv x.at_) (sv s))=some (0,[sv s,bv (isMd s x)]):=
 Evl.of (by rw[h60a,g60a];by_cases h0:x.name=s<;>simp[isMd,h0])
theorem ixl_md(l:List Md)(hl:l.length≤maxN)(s:ByteArray):ev (q96ab0a (iv 0) (iv l.length) (mds l) (sv s))=some (match fnd (isMd s) l 0 with|some i=>(0,[sv s,iv i])|none=>(1,[sv s])):=
 ev_find l (isMd s) (fun i=>q96ab0a (iv i) (iv l.length) (mds l) (sv s)) _ _
  (fun i a ha hi=>by rw[h96ab0a,g96ab0a];simp[idxK_mds ha,hi,clo_md,wL hi hl])
  (by rw[h96ab0a,g96ab0a];simp)
theorem ix_md(l:List Md)(hl:l.length≤maxN)(s:ByteArray):ev (q96a (mds l) (sv s))=some (0,[sv s,iv (fi (isMd s) l)]):=
 Evl.of (by rw[h96a,g96a];simp[ixl_md l hl s];cases h:fnd (isMd s) l 0<;>simp[fi,h])
theorem find_md(l:List Md)(hl:l.length≤maxN)(s:ByteArray):ev (q59a (mds l) (sv s))=some (0,[sv s,iv (max (fi (isMd s) l) 0),bv (decide (0≤fi (isMd s) l))]):=
 Evl.of (by rw[h59a,g59a];simp[ix_md l hl s];cases decide (0≤fi (isMd s) l)<;>rfl)
theorem clo_dt2(x:Dt)(y:Dt):ev (q105a (sv x.name) (strs x.params) (cns x.cons) (strs x.deriv) (iv x.at_) (sv y.name) (strs y.params) (cns y.cons) (strs y.deriv) (iv y.at_))=some (0,[sv y.name,strs y.params,cns y.cons,strs y.deriv,iv y.at_,bv (isDt y.name x)]):=
 Evl.of (by rw[h105a,g105a];by_cases h0:x.name=y.name<;>simp[isDt,h0])
theorem ixl_dt2(l:List Dt)(hl:l.length≤maxN)(y:Dt):ev (q92kb0a (iv 0) (iv l.length) (dts l) (sv y.name) (strs y.params) (cns y.cons) (strs y.deriv) (iv y.at_))=some (match fnd (isDt y.name) l 0 with|some i=>(2,[sv y.name,strs y.params,cns y.cons,strs y.deriv,iv y.at_,iv i])|none=>(3,[sv y.name,strs y.params,cns y.cons,strs y.deriv,iv y.at_])):=
 ev_find l (isDt y.name) (fun i=>q92kb0a (iv i) (iv l.length) (dts l) (sv y.name) (strs y.params) (cns y.cons) (strs y.deriv) (iv y.at_)) _ _
  (fun i a ha hi=>by rw[h92kb0a,g92kb0a];simp[idxK_dts ha,hi,clo_dt2,wL hi hl])
  (by rw[h92kb0a,g92kb0a];simp)
theorem ix_dt2(l:List Dt)(hl:l.length≤maxN)(y:Dt):ev (q92k (dts l) (sv y.name) (strs y.params) (cns y.cons) (strs y.deriv) (iv y.at_))=some (0,[sv y.name,strs y.params,cns y.cons,strs y.deriv,iv y.at_,iv (fi (isDt y.name) l)]):=
 Evl.of (by rw[h92k,g92k];simp[ixl_dt2 l hl y];cases h:fnd (isDt y.name) l 0<;>simp[fi,h])
theorem find_dt2(l:List Dt)(hl:l.length≤maxN)(y:Dt):ev (q52k (dts l) (sv y.name) (strs y.params) (cns y.cons) (strs y.deriv) (iv y.at_))=some (0,[sv y.name,strs y.params,cns y.cons,strs y.deriv,iv y.at_,iv (max (fi (isDt y.name) l) 0),bv (decide (0≤fi (isDt y.name) l))]):=
 Evl.of (by rw[h52k,g52k];simp[ix_dt2 l hl y];cases decide (0≤fi (isDt y.name) l)<;>rfl)
theorem clo_cl2(x:Cl)(y:Cl):ev (q106a (sv x.name) (sv x.var) (strs x.supers) (mds x.methods) (bds x.defaults) (iv x.at_) (sv y.name) (sv y.var) (strs y.supers) (mds y.methods) (bds y.defaults) (iv y.at_))=some (0,[sv y.name,sv y.var,strs y.supers,mds y.methods,bds y.defaults,iv y.at_,bv (isCl y.name x)]):=
 Evl.of (by rw[h106a,g106a];by_cases h0:x.name=y.name<;>simp[isCl,h0])
theorem ixl_cl2(l:List Cl)(hl:l.length≤maxN)(y:Cl):ev (q95kb0a (iv 0) (iv l.length) (cls l) (sv y.name) (sv y.var) (strs y.supers) (mds y.methods) (bds y.defaults) (iv y.at_))=some (match fnd (isCl y.name) l 0 with|some i=>(2,[sv y.name,sv y.var,strs y.supers,mds y.methods,bds y.defaults,iv y.at_,iv i])|none=>(3,[sv y.name,sv y.var,strs y.supers,mds y.methods,bds y.defaults,iv y.at_])):=
 ev_find l (isCl y.name) (fun i=>q95kb0a (iv i) (iv l.length) (cls l) (sv y.name) (sv y.var) (strs y.supers) (mds y.methods) (bds y.defaults) (iv y.at_)) _ _
  (fun i a ha hi=>by rw[h95kb0a,g95kb0a];simp[idxK_cls ha,hi,clo_cl2,wL hi hl])
  (by rw[h95kb0a,g95kb0a];simp)
theorem ix_cl2(l:List Cl)(hl:l.length≤maxN)(y:Cl):ev (q95k (cls l) (sv y.name) (sv y.var) (strs y.supers) (mds y.methods) (bds y.defaults) (iv y.at_))=some (0,[sv y.name,sv y.var,strs y.supers,mds y.methods,bds y.defaults,iv y.at_,iv (fi (isCl y.name) l)]):=
 Evl.of (by rw[h95k,g95k];simp[ixl_cl2 l hl y];cases h:fnd (isCl y.name) l 0<;>simp[fi,h])
theorem find_cl2(l:List Cl)(hl:l.length≤maxN)(y:Cl):ev (q57k (cls l) (sv y.name) (sv y.var) (strs y.supers) (mds y.methods) (bds y.defaults) (iv y.at_))=some (0,[sv y.name,sv y.var,strs y.supers,mds y.methods,bds y.defaults,iv y.at_,iv (max (fi (isCl y.name) l) 0),bv (decide (0≤fi (isCl y.name) l))]):=
 Evl.of (by rw[h57k,g57k];simp[ix_cl2 l hl y];cases decide (0≤fi (isCl y.name) l)<;>rfl)
theorem clo_md2(x:Md)(y:Bd):ev (q140a (sv x.name) (iv x.t.kind) (sv x.t.name) (iv x.t.n) (tys x.t.kids) (iv x.at_) (sv y.name) (iv y.e.kind) (sv y.e.name) (iv y.e.n) (iv y.e.t.kind) (sv y.e.t.name) (iv y.e.t.n) (tys y.e.t.kids) (exs y.e.kids) (als y.e.alts) (bds y.e.binds) (iv y.e.at_) (iv y.at_))=some (0,[sv y.name,iv y.e.kind,sv y.e.name,iv y.e.n,iv y.e.t.kind,sv y.e.t.name,iv y.e.t.n,tys y.e.t.kids,exs y.e.kids,als y.e.alts,bds y.e.binds,iv y.e.at_,iv y.at_,bv (isMd y.name x)]):=
 Evl.of (by rw[h140a,g140a];by_cases h0:x.name=y.name<;>simp[isMd,h0])
theorem ixl_md2(l:List Md)(hl:l.length≤maxN)(y:Bd):ev (q96kb0a (iv 0) (iv l.length) (mds l) (sv y.name) (iv y.e.kind) (sv y.e.name) (iv y.e.n) (iv y.e.t.kind) (sv y.e.t.name) (iv y.e.t.n) (tys y.e.t.kids) (exs y.e.kids) (als y.e.alts) (bds y.e.binds) (iv y.e.at_) (iv y.at_))=some (match fnd (isMd y.name) l 0 with|some i=>(2,[sv y.name,iv y.e.kind,sv y.e.name,iv y.e.n,iv y.e.t.kind,sv y.e.t.name,iv y.e.t.n,tys y.e.t.kids,exs y.e.kids,als y.e.alts,bds y.e.binds,iv y.e.at_,iv y.at_,iv i])|none=>(3,[sv y.name,iv y.e.kind,sv y.e.name,iv y.e.n,iv y.e.t.kind,sv y.e.t.name,iv y.e.t.n,tys y.e.t.kids,exs y.e.kids,als y.e.alts,bds y.e.binds,iv y.e.at_,iv y.at_])):=
 ev_find l (isMd y.name) (fun i=>q96kb0a (iv i) (iv l.length) (mds l) (sv y.name) (iv y.e.kind) (sv y.e.name) (iv y.e.n) (iv y.e.t.kind) (sv y.e.t.name) (iv y.e.t.n) (tys y.e.t.kids) (exs y.e.kids) (als y.e.alts) (bds y.e.binds) (iv y.e.at_) (iv y.at_)) _ _
  (fun i a ha hi=>by rw[h96kb0a,g96kb0a];simp[idxK_mds ha,hi,clo_md2,wL hi hl])
  (by rw[h96kb0a,g96kb0a];simp)
theorem ix_md2(l:List Md)(hl:l.length≤maxN)(y:Bd):ev (q96k (mds l) (sv y.name) (iv y.e.kind) (sv y.e.name) (iv y.e.n) (iv y.e.t.kind) (sv y.e.t.name) (iv y.e.t.n) (tys y.e.t.kids) (exs y.e.kids) (als y.e.alts) (bds y.e.binds) (iv y.e.at_) (iv y.at_))=some (0,[sv y.name,iv y.e.kind,sv y.e.name,iv y.e.n,iv y.e.t.kind,sv y.e.t.name,iv y.e.t.n,tys y.e.t.kids,exs y.e.kids,als y.e.alts,bds y.e.binds,iv y.e.at_,iv y.at_,iv (fi (isMd y.name) l)]):=
 Evl.of (by rw[h96k,g96k];simp[ixl_md2 l hl y];cases h:fnd (isMd y.name) l 0<;>simp[fi,h])
theorem find_md2(l:List Md)(hl:l.length≤maxN)(y:Bd):ev (q59k (mds l) (sv y.name) (iv y.e.kind) (sv y.e.name) (iv y.e.n) (iv y.e.t.kind) (sv y.e.t.name) (iv y.e.t.n) (tys y.e.t.kids) (exs y.e.kids) (als y.e.alts) (bds y.e.binds) (iv y.e.at_) (iv y.at_))=some (0,[sv y.name,iv y.e.kind,sv y.e.name,iv y.e.n,iv y.e.t.kind,sv y.e.t.name,iv y.e.t.n,tys y.e.t.kids,exs y.e.kids,als y.e.alts,bds y.e.binds,iv y.e.at_,iv y.at_,iv (max (fi (isMd y.name) l) 0),bv (decide (0≤fi (isMd y.name) l))]):=
 Evl.of (by rw[h59k,g59k];simp[ix_md2 l hl y];cases decide (0≤fi (isMd y.name) l)<;>rfl)
theorem clo_bd1(x:Bd)(y:Bd):ev (q80a (sv x.name) (iv x.e.kind) (sv x.e.name) (iv x.e.n) (iv x.e.t.kind) (sv x.e.t.name) (iv x.e.t.n) (tys x.e.t.kids) (exs x.e.kids) (als x.e.alts) (bds x.e.binds) (iv x.e.at_) (iv x.at_) (sv y.name) (iv y.e.kind) (sv y.e.name) (iv y.e.n) (iv y.e.t.kind) (sv y.e.t.name) (iv y.e.t.n) (tys y.e.t.kids) (exs y.e.kids) (als y.e.alts) (bds y.e.binds) (iv y.e.at_) (iv y.at_))=some (0,[sv y.name,iv y.e.kind,sv y.e.name,iv y.e.n,iv y.e.t.kind,sv y.e.t.name,iv y.e.t.n,tys y.e.t.kids,exs y.e.kids,als y.e.alts,bds y.e.binds,iv y.e.at_,iv y.at_,bv (isBd y.name x)]):=
 Evl.of (by rw[h80a,g80a];by_cases h0:x.name=y.name<;>simp[isBd,h0])
theorem ixl_bd1(l:List Bd)(hl:l.length≤maxN)(y:Bd):ev (q118ab0a (iv 0) (iv l.length) (bds l) (sv y.name) (iv y.e.kind) (sv y.e.name) (iv y.e.n) (iv y.e.t.kind) (sv y.e.t.name) (iv y.e.t.n) (tys y.e.t.kids) (exs y.e.kids) (als y.e.alts) (bds y.e.binds) (iv y.e.at_) (iv y.at_))=some (match fnd (isBd y.name) l 0 with|some i=>(0,[sv y.name,iv y.e.kind,sv y.e.name,iv y.e.n,iv y.e.t.kind,sv y.e.t.name,iv y.e.t.n,tys y.e.t.kids,exs y.e.kids,als y.e.alts,bds y.e.binds,iv y.e.at_,iv y.at_,iv i])|none=>(1,[sv y.name,iv y.e.kind,sv y.e.name,iv y.e.n,iv y.e.t.kind,sv y.e.t.name,iv y.e.t.n,tys y.e.t.kids,exs y.e.kids,als y.e.alts,bds y.e.binds,iv y.e.at_,iv y.at_])):=
 ev_find l (isBd y.name) (fun i=>q118ab0a (iv i) (iv l.length) (bds l) (sv y.name) (iv y.e.kind) (sv y.e.name) (iv y.e.n) (iv y.e.t.kind) (sv y.e.t.name) (iv y.e.t.n) (tys y.e.t.kids) (exs y.e.kids) (als y.e.alts) (bds y.e.binds) (iv y.e.at_) (iv y.at_)) _ _
  (fun i a ha hi=>by rw[h118ab0a,g118ab0a];simp[idxK_bds ha,hi,clo_bd1,wL hi hl])
  (by rw[h118ab0a,g118ab0a];simp)
theorem ix_bd1(l:List Bd)(hl:l.length≤maxN)(y:Bd):ev (q118a (bds l) (sv y.name) (iv y.e.kind) (sv y.e.name) (iv y.e.n) (iv y.e.t.kind) (sv y.e.t.name) (iv y.e.t.n) (tys y.e.t.kids) (exs y.e.kids) (als y.e.alts) (bds y.e.binds) (iv y.e.at_) (iv y.at_))=some (0,[sv y.name,iv y.e.kind,sv y.e.name,iv y.e.n,iv y.e.t.kind,sv y.e.t.name,iv y.e.t.n,tys y.e.t.kids,exs y.e.kids,als y.e.alts,bds y.e.binds,iv y.e.at_,iv y.at_,iv (fi (isBd y.name) l)]):=
 Evl.of (by rw[h118a,g118a];simp[ixl_bd1 l hl y];cases h:fnd (isBd y.name) l 0<;>simp[fi,h])
theorem find_bd1(l:List Bd)(hl:l.length≤maxN)(y:Bd):ev (q79a (bds l) (sv y.name) (iv y.e.kind) (sv y.e.name) (iv y.e.n) (iv y.e.t.kind) (sv y.e.t.name) (iv y.e.t.n) (tys y.e.t.kids) (exs y.e.kids) (als y.e.alts) (bds y.e.binds) (iv y.e.at_) (iv y.at_))=some (0,[sv y.name,iv y.e.kind,sv y.e.name,iv y.e.n,iv y.e.t.kind,sv y.e.t.name,iv y.e.t.n,tys y.e.t.kids,exs y.e.kids,als y.e.alts,bds y.e.binds,iv y.e.at_,iv y.at_,iv (max (fi (isBd y.name) l) 0),bv (decide (0≤fi (isBd y.name) l))]):=
 Evl.of (by rw[h79a,g79a];simp[ix_bd1 l hl y];cases decide (0≤fi (isBd y.name) l)<;>rfl)
theorem clo_bd2(x:Bd)(y:Bd):ev (q141a (sv x.name) (iv x.e.kind) (sv x.e.name) (iv x.e.n) (iv x.e.t.kind) (sv x.e.t.name) (iv x.e.t.n) (tys x.e.t.kids) (exs x.e.kids) (als x.e.alts) (bds x.e.binds) (iv x.e.at_) (iv x.at_) (sv y.name) (iv y.e.kind) (sv y.e.name) (iv y.e.n) (iv y.e.t.kind) (sv y.e.t.name) (iv y.e.t.n) (tys y.e.t.kids) (exs y.e.kids) (als y.e.alts) (bds y.e.binds) (iv y.e.at_) (iv y.at_))=some (0,[sv y.name,iv y.e.kind,sv y.e.name,iv y.e.n,iv y.e.t.kind,sv y.e.t.name,iv y.e.t.n,tys y.e.t.kids,exs y.e.kids,als y.e.alts,bds y.e.binds,iv y.e.at_,iv y.at_,bv (isBd y.name x)]):=
 Evl.of (by rw[h141a,g141a];by_cases h0:x.name=y.name<;>simp[isBd,h0])
theorem ixl_bd2(l:List Bd)(hl:l.length≤maxN)(y:Bd):ev (q118cb0a (iv 0) (iv l.length) (bds l) (sv y.name) (iv y.e.kind) (sv y.e.name) (iv y.e.n) (iv y.e.t.kind) (sv y.e.t.name) (iv y.e.t.n) (tys y.e.t.kids) (exs y.e.kids) (als y.e.alts) (bds y.e.binds) (iv y.e.at_) (iv y.at_))=some (match fnd (isBd y.name) l 0 with|some i=>(0,[sv y.name,iv y.e.kind,sv y.e.name,iv y.e.n,iv y.e.t.kind,sv y.e.t.name,iv y.e.t.n,tys y.e.t.kids,exs y.e.kids,als y.e.alts,bds y.e.binds,iv y.e.at_,iv y.at_,iv i])|none=>(1,[sv y.name,iv y.e.kind,sv y.e.name,iv y.e.n,iv y.e.t.kind,sv y.e.t.name,iv y.e.t.n,tys y.e.t.kids,exs y.e.kids,als y.e.alts,bds y.e.binds,iv y.e.at_,iv y.at_])):=
 ev_find l (isBd y.name) (fun i=>q118cb0a (iv i) (iv l.length) (bds l) (sv y.name) (iv y.e.kind) (sv y.e.name) (iv y.e.n) (iv y.e.t.kind) (sv y.e.t.name) (iv y.e.t.n) (tys y.e.t.kids) (exs y.e.kids) (als y.e.alts) (bds y.e.binds) (iv y.e.at_) (iv y.at_)) _ _
  (fun i a ha hi=>by rw[h118cb0a,g118cb0a];simp[idxK_bds ha,hi,clo_bd2,wL hi hl])
  (by rw[h118cb0a,g118cb0a];simp)
theorem ix_bd2(l:List Bd)(hl:l.length≤maxN)(y:Bd):ev (q118c (bds l) (sv y.name) (iv y.e.kind) (sv y.e.name) (iv y.e.n) (iv y.e.t.kind) (sv y.e.t.name) (iv y.e.t.n) (tys y.e.t.kids) (exs y.e.kids) (als y.e.alts) (bds y.e.binds) (iv y.e.at_) (iv y.at_))=some (0,[sv y.name,iv y.e.kind,sv y.e.name,iv y.e.n,iv y.e.t.kind,sv y.e.t.name,iv y.e.t.n,tys y.e.t.kids,exs y.e.kids,als y.e.alts,bds y.e.binds,iv y.e.at_,iv y.at_,iv (fi (isBd y.name) l)]):=
 Evl.of (by rw[h118c,g118c];simp[ixl_bd2 l hl y];cases h:fnd (isBd y.name) l 0<;>simp[fi,h])
theorem find_bd2(l:List Bd)(hl:l.length≤maxN)(y:Bd):ev (q79b (bds l) (sv y.name) (iv y.e.kind) (sv y.e.name) (iv y.e.n) (iv y.e.t.kind) (sv y.e.t.name) (iv y.e.t.n) (tys y.e.t.kids) (exs y.e.kids) (als y.e.alts) (bds y.e.binds) (iv y.e.at_) (iv y.at_))=some (0,[sv y.name,iv y.e.kind,sv y.e.name,iv y.e.n,iv y.e.t.kind,sv y.e.t.name,iv y.e.t.n,tys y.e.t.kids,exs y.e.kids,als y.e.alts,bds y.e.binds,iv y.e.at_,iv y.at_,iv (max (fi (isBd y.name) l) 0),bv (decide (0≤fi (isBd y.name) l))]):=
 Evl.of (by rw[h79b,g79b];simp[ix_bd2 l hl y];cases decide (0≤fi (isBd y.name) l)<;>rfl)
theorem clo_bd3(x:Bd)(y:Md):ev (q114a (sv x.name) (iv x.e.kind) (sv x.e.name) (iv x.e.n) (iv x.e.t.kind) (sv x.e.t.name) (iv x.e.t.n) (tys x.e.t.kids) (exs x.e.kids) (als x.e.alts) (bds x.e.binds) (iv x.e.at_) (iv x.at_) (sv y.name) (iv y.t.kind) (sv y.t.name) (iv y.t.n) (tys y.t.kids) (iv y.at_))=some (0,[sv y.name,iv y.t.kind,sv y.t.name,iv y.t.n,tys y.t.kids,iv y.at_,bv (isBd y.name x)]):=
 Evl.of (by rw[h114a,g114a];by_cases h0:x.name=y.name<;>simp[isBd,h0])
theorem ixl_bd3(l:List Bd)(hl:l.length≤maxN)(y:Md):ev (q118bb0a (iv 0) (iv l.length) (bds l) (sv y.name) (iv y.t.kind) (sv y.t.name) (iv y.t.n) (tys y.t.kids) (iv y.at_))=some (match fnd (isBd y.name) l 0 with|some i=>(2,[sv y.name,iv y.t.kind,sv y.t.name,iv y.t.n,tys y.t.kids,iv y.at_,iv i])|none=>(3,[sv y.name,iv y.t.kind,sv y.t.name,iv y.t.n,tys y.t.kids,iv y.at_])):=
 ev_find l (isBd y.name) (fun i=>q118bb0a (iv i) (iv l.length) (bds l) (sv y.name) (iv y.t.kind) (sv y.t.name) (iv y.t.n) (tys y.t.kids) (iv y.at_)) _ _
  (fun i a ha hi=>by rw[h118bb0a,g118bb0a];simp[idxK_bds ha,hi,clo_bd3,wL hi hl])
  (by rw[h118bb0a,g118bb0a];simp)
theorem ix_bd3(l:List Bd)(hl:l.length≤maxN)(y:Md):ev (q118b (bds l) (sv y.name) (iv y.t.kind) (sv y.t.name) (iv y.t.n) (tys y.t.kids) (iv y.at_))=some (0,[sv y.name,iv y.t.kind,sv y.t.name,iv y.t.n,tys y.t.kids,iv y.at_,iv (fi (isBd y.name) l)]):=
 Evl.of (by rw[h118b,g118b];simp[ixl_bd3 l hl y];cases h:fnd (isBd y.name) l 0<;>simp[fi,h])
theorem has_bd3(l:List Bd)(hl:l.length≤maxN)(y:Md):ev (q115a (bds l) (sv y.name) (iv y.t.kind) (sv y.t.name) (iv y.t.n) (tys y.t.kids) (iv y.at_))=some (0,[sv y.name,iv y.t.kind,sv y.t.name,iv y.t.n,tys y.t.kids,iv y.at_,bv (l.any (isBd y.name))]):=
 Evl.of (by rw[h115a,g115a];simp[ix_bd3 l hl y];rw[←fi_any];cases decide (0≤fi (isBd y.name) l)<;>rfl)
theorem clo_ty1(x:Ty)(y:Pd):ev (q111a (iv x.kind) (sv x.name) (iv x.n) (tys x.kids) (sv y.cls) (iv y.t.kind) (sv y.t.name) (iv y.t.n) (tys y.t.kids))=some (0,[sv y.cls,iv y.t.kind,sv y.t.name,iv y.t.n,tys y.t.kids,bv (isTv y.t x)]):=
 Evl.of (by rw[h111a,g111a];by_cases h0:y.t.kind=1<;>by_cases h1:x.name=y.t.name<;>simp[isTv,h0,h1])
theorem ixl_ty1(l:List Ty)(hl:l.length≤maxN)(y:Pd):ev (q143ab0a (iv 0) (iv l.length) (tys l) (sv y.cls) (iv y.t.kind) (sv y.t.name) (iv y.t.n) (tys y.t.kids))=some (match fnd (isTv y.t) l 0 with|some i=>(0,[sv y.cls,iv y.t.kind,sv y.t.name,iv y.t.n,tys y.t.kids,iv i])|none=>(1,[sv y.cls,iv y.t.kind,sv y.t.name,iv y.t.n,tys y.t.kids])):=
 ev_find l (isTv y.t) (fun i=>q143ab0a (iv i) (iv l.length) (tys l) (sv y.cls) (iv y.t.kind) (sv y.t.name) (iv y.t.n) (tys y.t.kids)) _ _
  (fun i a ha hi=>by rw[h143ab0a,g143ab0a];simp[idxK_tys ha,hi,clo_ty1,wL hi hl])
  (by rw[h143ab0a,g143ab0a];simp)
theorem ix_ty1(l:List Ty)(hl:l.length≤maxN)(y:Pd):ev (q143a (tys l) (sv y.cls) (iv y.t.kind) (sv y.t.name) (iv y.t.n) (tys y.t.kids))=some (0,[sv y.cls,iv y.t.kind,sv y.t.name,iv y.t.n,tys y.t.kids,iv (fi (isTv y.t) l)]):=
 Evl.of (by rw[h143a,g143a];simp[ixl_ty1 l hl y];cases h:fnd (isTv y.t) l 0<;>simp[fi,h])
theorem find_ty1(l:List Ty)(hl:l.length≤maxN)(y:Pd):ev (q110a (tys l) (sv y.cls) (iv y.t.kind) (sv y.t.name) (iv y.t.n) (tys y.t.kids))=some (0,[sv y.cls,iv y.t.kind,sv y.t.name,iv y.t.n,tys y.t.kids,iv (max (fi (isTv y.t) l) 0),bv (decide (0≤fi (isTv y.t) l))]):=
 Evl.of (by rw[h110a,g110a];simp[ix_ty1 l hl y];cases decide (0≤fi (isTv y.t) l)<;>rfl)
theorem clo_ty2(x:Ty)(y:Pd):ev (q116a (iv x.kind) (sv x.name) (iv x.n) (tys x.kids) (sv y.cls) (iv y.t.kind) (sv y.t.name) (iv y.t.n) (tys y.t.kids))=some (0,[sv y.cls,iv y.t.kind,sv y.t.name,iv y.t.n,tys y.t.kids,bv (isTn y.t.name x)]):=
 Evl.of (by rw[h116a,g116a];by_cases h0:x.name=y.t.name<;>simp[isTn,h0])
theorem ixl_ty2(l:List Ty)(hl:l.length≤maxN)(y:Pd):ev (q143bb0a (iv 0) (iv l.length) (tys l) (sv y.cls) (iv y.t.kind) (sv y.t.name) (iv y.t.n) (tys y.t.kids))=some (match fnd (isTn y.t.name) l 0 with|some i=>(0,[sv y.cls,iv y.t.kind,sv y.t.name,iv y.t.n,tys y.t.kids,iv i])|none=>(1,[sv y.cls,iv y.t.kind,sv y.t.name,iv y.t.n,tys y.t.kids])):=
 ev_find l (isTn y.t.name) (fun i=>q143bb0a (iv i) (iv l.length) (tys l) (sv y.cls) (iv y.t.kind) (sv y.t.name) (iv y.t.n) (tys y.t.kids)) _ _
  (fun i a ha hi=>by rw[h143bb0a,g143bb0a];simp[idxK_tys ha,hi,clo_ty2,wL hi hl])
  (by rw[h143bb0a,g143bb0a];simp)
theorem ix_ty2(l:List Ty)(hl:l.length≤maxN)(y:Pd):ev (q143b (tys l) (sv y.cls) (iv y.t.kind) (sv y.t.name) (iv y.t.n) (tys y.t.kids))=some (0,[sv y.cls,iv y.t.kind,sv y.t.name,iv y.t.n,tys y.t.kids,iv (fi (isTn y.t.name) l)]):=
 Evl.of (by rw[h143b,g143b];simp[ixl_ty2 l hl y];cases h:fnd (isTn y.t.name) l 0<;>simp[fi,h])
theorem find_ty2(l:List Ty)(hl:l.length≤maxN)(y:Pd):ev (q110b (tys l) (sv y.cls) (iv y.t.kind) (sv y.t.name) (iv y.t.n) (tys y.t.kids))=some (0,[sv y.cls,iv y.t.kind,sv y.t.name,iv y.t.n,tys y.t.kids,iv (max (fi (isTn y.t.name) l) 0),bv (decide (0≤fi (isTn y.t.name) l))]):=
 Evl.of (by rw[h110b,g110b];simp[ix_ty2 l hl y];cases decide (0≤fi (isTn y.t.name) l)<;>rfl)
theorem clo_ty3(x:Ty)(y:Ty):ev (q142a (iv x.kind) (sv x.name) (iv x.n) (tys x.kids) (iv y.kind) (sv y.name) (iv y.n) (tys y.kids))=some (0,[iv y.kind,sv y.name,iv y.n,tys y.kids,bv (isTn y.name x)]):=
 Evl.of (by rw[h142a,g142a];by_cases h0:x.name=y.name<;>simp[isTn,h0])
theorem ixl_ty3(l:List Ty)(hl:l.length≤maxN)(y:Ty):ev (q143cb0a (iv 0) (iv l.length) (tys l) (iv y.kind) (sv y.name) (iv y.n) (tys y.kids))=some (match fnd (isTn y.name) l 0 with|some i=>(2,[iv y.kind,sv y.name,iv y.n,tys y.kids,iv i])|none=>(3,[iv y.kind,sv y.name,iv y.n,tys y.kids])):=
 ev_find l (isTn y.name) (fun i=>q143cb0a (iv i) (iv l.length) (tys l) (iv y.kind) (sv y.name) (iv y.n) (tys y.kids)) _ _
  (fun i a ha hi=>by rw[h143cb0a,g143cb0a];simp[idxK_tys ha,hi,clo_ty3,wL hi hl])
  (by rw[h143cb0a,g143cb0a];simp)
theorem ix_ty3(l:List Ty)(hl:l.length≤maxN)(y:Ty):ev (q143c (tys l) (iv y.kind) (sv y.name) (iv y.n) (tys y.kids))=some (0,[iv y.kind,sv y.name,iv y.n,tys y.kids,iv (fi (isTn y.name) l)]):=
 Evl.of (by rw[h143c,g143c];simp[ixl_ty3 l hl y];cases h:fnd (isTn y.name) l 0<;>simp[fi,h])
theorem find_ty3(l:List Ty)(hl:l.length≤maxN)(y:Ty):ev (q110c (tys l) (iv y.kind) (sv y.name) (iv y.n) (tys y.kids))=some (0,[iv y.kind,sv y.name,iv y.n,tys y.kids,iv (max (fi (isTn y.name) l) 0),bv (decide (0≤fi (isTn y.name) l))]):=
 Evl.of (by rw[h110c,g110c];simp[ix_ty3 l hl y];cases decide (0≤fi (isTn y.name) l)<;>rfl)
theorem clo_pd1(x:Pd)(y:Pd):ev (q113a (sv x.cls) (iv x.t.kind) (sv x.t.name) (iv x.t.n) (tys x.t.kids) (sv y.cls) (iv y.t.kind) (sv y.t.name) (iv y.t.n) (tys y.t.kids))=some (0,[sv y.cls,iv y.t.kind,sv y.t.name,iv y.t.n,tys y.t.kids,bv (isPd y.cls y.t.name x)]):=
 Evl.of (by rw[h113a,g113a];by_cases h0:x.cls=y.cls<;>by_cases h1:x.t.name=y.t.name<;>simp[isPd,h0,h1])
theorem ixl_pd1(l:List Pd)(hl:l.length≤maxN)(y:Pd):ev (q144ab0a (iv 0) (iv l.length) (pds l) (sv y.cls) (iv y.t.kind) (sv y.t.name) (iv y.t.n) (tys y.t.kids))=some (match fnd (isPd y.cls y.t.name) l 0 with|some i=>(0,[sv y.cls,iv y.t.kind,sv y.t.name,iv y.t.n,tys y.t.kids,iv i])|none=>(1,[sv y.cls,iv y.t.kind,sv y.t.name,iv y.t.n,tys y.t.kids])):=
 ev_find l (isPd y.cls y.t.name) (fun i=>q144ab0a (iv i) (iv l.length) (pds l) (sv y.cls) (iv y.t.kind) (sv y.t.name) (iv y.t.n) (tys y.t.kids)) _ _
  (fun i a ha hi=>by rw[h144ab0a,g144ab0a];simp[idxK_pds ha,hi,clo_pd1,wL hi hl])
  (by rw[h144ab0a,g144ab0a];simp)
theorem ix_pd1(l:List Pd)(hl:l.length≤maxN)(y:Pd):ev (q144a (pds l) (sv y.cls) (iv y.t.kind) (sv y.t.name) (iv y.t.n) (tys y.t.kids))=some (0,[sv y.cls,iv y.t.kind,sv y.t.name,iv y.t.n,tys y.t.kids,iv (fi (isPd y.cls y.t.name) l)]):=
 Evl.of (by rw[h144a,g144a];simp[ixl_pd1 l hl y];cases h:fnd (isPd y.cls y.t.name) l 0<;>simp[fi,h])
theorem find_pd1(l:List Pd)(hl:l.length≤maxN)(y:Pd):ev (q112a (pds l) (sv y.cls) (iv y.t.kind) (sv y.t.name) (iv y.t.n) (tys y.t.kids))=some (0,[sv y.cls,iv y.t.kind,sv y.t.name,iv y.t.n,tys y.t.kids,iv (max (fi (isPd y.cls y.t.name) l) 0),bv (decide (0≤fi (isPd y.cls y.t.name) l))]):=
 Evl.of (by rw[h112a,g112a];simp[ix_pd1 l hl y];cases decide (0≤fi (isPd y.cls y.t.name) l)<;>rfl)
abbrev sInt:ByteArray:=⟨#[73,110,116]⟩
abbrev sString:ByteArray:=⟨#[83,116,114,105,110,103]⟩
abbrev sRef:ByteArray:=⟨#[82,101,102]⟩
abbrev sArrow:ByteArray:=⟨#[45,62]⟩
def baseI(s:ByteArray):Int:=if s=sInt then 0 else if s=sString then 0 else if s=sRef then 1 else if s=sArrow then 2 else -1
theorem base_ok(s:ByteArray):ev (q51 (sv s))=some (0,[iv (max (baseI s) 0),bv (decide (0≤baseI s))]):=
 Evl.of (by
  rw[h51,g51]
  unfold baseI
  by_cases h1:s=sInt
  ·simp[h1]
  ·by_cases h2:s=sString
   ·simp[h2]
   ·by_cases h3:s=sRef
    ·simp[h3];omega
    ·by_cases h4:s=sArrow
     ·simp[h4];omega
     ·simp[h1,h2,h3,h4];omega)
def nPar(v:Ev)(i:Nat):Int:=match v.kj[i]? with
 |some d=>d.params.length
 |none=>-1
def arity(v:Ev)(s:ByteArray):Int:=if 0≤baseI s then baseI s else match fnd (isDt s) v.kj 0 with
 |some i=>nPar v i
 |none=>-1
theorem arity_p(v:Ev)(hd:v.kj.length≤maxN)(s:ByteArray):ev (q13 (dts v.kj) (cls v.kc) (its v.ki) (sv s))=some (0,[iv (max (arity v s) 0),bv (decide (0≤arity v s))]):=
 Evl.of (by
  rw[h13,g13]
  unfold arity nPar
  by_cases h0:0≤baseI s
  ·simp[base_ok,h0]
  ·simp[base_ok,h0,find_dt _ hd s]
   by_cases h1:0≤fi (isDt s) v.kj
   ·obtain⟨k,d,e1,e2,e3,e4⟩:=fi_nonneg h1
    have hm:max (k:Int) 0=k:=by omega
    simp[e1,e2,e3,hm,idxK_dts e3]
   ·have:=fi_neg h1
    simp[h1,this.1,this.2];omega)
theorem arity_r(v:Ev)(hd:v.kj.length≤maxN)(s:ByteArray):ev (q14 (dts v.kj) (cls v.kc) (its v.ki) (sv s))=some (0,[iv (arity v s)]):=
 Evl.of (by
  rw[h14,g14]
  have hl:=ev_find v.kj (isDt s) (fun i=>q14b0a (iv i) (sv s) (dts v.kj) (cls v.kc) (its v.ki)) (1,[dts v.kj,cls v.kc,its v.ki]) (fun i=>(0,[dts v.kj,cls v.kc,its v.ki,iv (nPar v i)]))
   (fun i a ha hi=>by
    rw[h14b0a,g14b0a]
    have e:nPar v i=a.params.length:=by simp only[nPar,ha]
    simp[idxK_dts ha,hi,wL hi hd,e,isDt])
   (by rw[h14b0a,g14b0a];simp)
  unfold arity baseI
  simp at hl
  by_cases h1:s=sInt
  ·simp[h1]
  ·by_cases h2:s=sString
   ·simp[h2]
   ·by_cases h3:s=sRef
    ·simp[h3]
    ·by_cases h4:s=sArrow
     ·simp[h4]
     ·simp[h1,h2,h3,h4,hl]
      cases fnd (isDt s) v.kj 0<;>simp)
theorem class_p(v:Ev)(hd:v.kc.length≤maxN)(s:ByteArray):ev (q19 (dts v.kj) (cls v.kc) (its v.ki) (sv s))=some (0,[iv (max (fi (isCl s) v.kc) 0),bv (decide (0≤fi (isCl s) v.kc))]):=
 Evl.of (by rw[h19,g19];simp[find_cl _ hd s];cases decide (0≤fi (isCl s) v.kc)<;>rfl)
theorem class_r(v:Ev)(hd:v.kc.length≤maxN)(s:ByteArray):ev (q20 (dts v.kj) (cls v.kc) (its v.ki) (sv s))=some (0,[iv (fi (isCl s) v.kc)]):=
 Evl.of (by
  rw[h20,g20]
  have hl:=ev_find v.kc (isCl s) (fun i=>q20b0a (iv i) (sv s) (dts v.kj) (cls v.kc) (its v.ki)) (1,[dts v.kj,cls v.kc,its v.ki]) (fun i=>(0,[dts v.kj,cls v.kc,its v.ki,iv i]))
   (fun i a ha hi=>by rw[h20b0a,g20b0a];simp[idxK_cls ha,hi,wL hi hd,isCl])
   (by rw[h20b0a,g20b0a];simp)
  simp at hl
  simp[hl];cases h:fnd (isCl s) v.kc 0<;>simp[fi,h])
theorem inst_r(v:Ev)(hd:v.ki.length≤maxN)(s u:ByteArray):ev (q24 (dts v.kj) (cls v.kc) (its v.ki) (sv s) (sv u))=some (0,[iv (fi (isIt s u) v.ki)]):=
 Evl.of (by
  rw[h24,g24]
  have hl:=ev_find v.ki (isIt s u) (fun i=>q24b0a (iv i) (sv s) (sv u) (dts v.kj) (cls v.kc) (its v.ki)) (1,[dts v.kj,cls v.kc,its v.ki]) (fun i=>(0,[dts v.kj,cls v.kc,its v.ki,iv i]))
   (fun i a ha hi=>by
    rw[h24b0a,g24b0a]
    by_cases h1:a.cls=s<;>by_cases h2:a.head.name=u<;>simp[idxK_its ha,hi,wL hi hd,isIt,h1,h2])
   (by rw[h24b0a,g24b0a];simp)
  simp at hl
  simp[hl];cases h:fnd (isIt s u) v.ki 0<;>simp[fi,h])
def isS(s:ByteArray):ByteArray→Bool:=fun x=>decide (x=s)
def mem(l:List ByteArray)(s:ByteArray):Bool:=l.any (isS s)
theorem fnd_isSome{α:Type}(f:α→Bool)(l:List α)(i:Nat):(fnd f l i).isSome=l.any f:=by
 cases h:fnd f l i with
 |none=>rw[Eq.comm,Option.isSome_none,List.any_eq_false];have:=fnd_none.1 h;intro x hx;simp[this x hx]
 |some k=>obtain⟨_,a,h1,h2⟩:=fnd_some h;rw[Eq.comm,Option.isSome_some,List.any_eq_true];exact⟨a,lMg h1,h2⟩
theorem has_strs(l:List ByteArray)(hl:l.length≤maxN)(s:ByteArray):ev (q44 (strs l) (sv s))=some (0,[bv (mem l s)]):=
 Evl.of (by
  rw[h44,g44]
  have h1:=ev_find l (isS s) (fun i=>q44b0a (iv i) (strs l) (sv s)) (1,[]) (fun _=>(0,[bv true]))
   (fun i a ha hi=>by rw[h44b0a,g44b0a];simp[idxK_strs ha,hi,wL hi hl,isS])
   (by rw[h44b0a,g44b0a];simp)
  simp at h1
  simp[h1];unfold mem;rw[←fnd_isSome _ _ 0];cases h:fnd (isS s) l 0<;>simp)
theorem ixs_strs(l:List ByteArray)(hl:l.length≤maxN)(s:ByteArray):ev (q93 (strs l) (sv s))=some (0,[iv (fi (isS s) l)]):=
 Evl.of (by
  rw[h93,g93]
  have h1:=ev_find l (isS s) (fun i=>q93b0a (iv i) (iv l.length) (sv s) (strs l)) (1,[]) (fun i=>(0,[iv i]))
   (fun i a ha hi=>by
    rw[h93b0a,g93b0a]
    by_cases h2:s=a
    ·simp[idxK_strs ha,hi,wL hi hl,isS,h2]
    ·have:¬a=s:=fun e=>h2 e.symm
     simp[idxK_strs ha,hi,wL hi hl,isS,h2,this])
   (by rw[h93b0a,g93b0a];simp)
  simp at h1
  simp[h1];cases h:fnd (isS s) l 0<;>simp[fi,h])
theorem contains_strs(l:List ByteArray)(hl:l.length≤maxN)(s:ByteArray):ev (q54 (strs l) (sv s))=some (0,[bv (mem l s)]):=
 Evl.of (by
  rw[h54,g54];simp[ixs_strs l hl s]
  unfold mem;rw[←fi_any];cases decide (0≤fi (isS s) l)<;>rfl)
def fe{α ε:Type}(e:Nat→α→Option ε):List α→Nat→Option ε
 |[],_=>none
 |a::l,i=>match e i a with
  |some x=>some x
  |none=>fe e l (i+1)
theorem ev_first{α ε:Type}(l:List α)(e:Nat→α→Option ε)(q:Nat→Q)(r0:Rs)(rf:ε→Rs)
  (step:∀i a,l[i]?=some a→i<l.length→fe e (l.take i) 0=none→body PG EE TT ev (q i)=match e i a with|some x=>.ok (rf x)|none=>passK (ev (q (i+1))))
  (done:fe e l 0=none→body PG EE TT ev (q l.length)=.ok r0):ev (q 0)=some (match fe e l 0 with|some x=>rf x|none=>r0):=by
 have split:∀(l1 l2:List α) (i:Nat),fe e (l1++l2) i=match fe e l1 i with|some x=>some x|none=>fe e l2 (i+l1.length):=by
  intro l1
  induction l1 with
  |nil=>intro l2 i;simp[fe]
  |cons a l1 ih=>
   intro l2 i
   rw[List.cons_append,fe,fe]
   cases e i a with
   |some x=>rfl
   |none=>simp only;rw[ih,List.length_cons,show i+1+l1.length=i+(l1.length+1) by omega]
 have key:∀(m i:Nat),l.length-i=m→i≤l.length→fe e (l.take i) 0=none→ev (q i)=some (match fe e (l.drop i) i with|some x=>rf x|none=>r0):=by
  intro m
  induction m with
  |zero=>
   intro i hm hi hf
   have:i=l.length:=by omega
   subst this
   rw[List.drop_length]
   exact Evl.of (done (by rwa [List.take_length]at hf))
  |succ m ih=>
   intro i hm hi hf
   have hlt:i<l.length:=by omega
   have h1:=step i _ (lGg hlt) hlt hf
   rw[List.drop_eq_getElem_cons hlt,fe]
   refine Evl.of ?_
   rw[h1]
   cases he:e i l[i]with
   |some x=>rfl
   |none=>
    simp only
    rw[ih (i+1) (by omega) (by omega) ?_]
    ·rfl
    ·have hq:=List.take_append_getElem hlt
     have hi2:(l.take i).length=i:=by rw[List.length_take];omega
     rw[←hq,split,hf]
     simp only[Nat.zero_add,hi2,fe]
     rw[he]
 simpa using key l.length 0 rfl (Nat.zero_le _) rfl
theorem fe_congr{α ε:Type}{e e':Nat→α→Option ε}:∀{l:List α} {i:Nat},(∀j a,l[j]?=some a→fe e (l.take j) i=none→e (i+j) a=e' (i+j) a)→fe e l i=fe e' l i
 |[],_,_=>rfl
 |a::l,i,h=>by
  rw[fe,fe]
  have h0:=h 0 a rfl rfl
  simp only[Nat.add_zero]at h0
  rw[←h0]
  cases he:e i a with
  |some x=>rfl
  |none=>
   simp only
   refine fe_congr fun j b hb hf=>?_
   have:=h (j+1) b hb (by rw[List.take_succ_cons,fe,he];exact hf)
   rwa [show i+(j+1)=i+1+j by omega]at this
theorem fe_none{α ε:Type}{e:Nat→α→Option ε}:∀{l:List α} {i:Nat},fe e l i=none→∀j a,l[j]?=some a→e (i+j) a=none
 |a::l,i,h,0,b,hb=>by
  rw[fe]at h
  simp at hb;subst hb
  cases he:e i a with
  |some x=>rw[he]at h;cases h
  |none=>simp[he]
 |a::l,i,h,j+1,b,hb=>by
  rw[fe]at h
  cases he:e i a with
  |some x=>rw[he]at h;cases h
  |none=>
   rw[he]at h
   have:=fe_none (l:=l) (i:=i+1) h j b (by simpa using hb)
   rwa [show i+(j+1)=i+1+j by omega]
 |[],_,_,_,_,hb=>by simp at hb
def mth(v:Ev)(s:ByteArray):Option (Nat×Nat):=fe (fun i (c:Cl)=>(fnd (isMd s) c.methods 0).map fun k=>(i,k)) v.kc 0
def ClsOk(l:List Cl):Prop:=l.length≤maxN∧∀c∈l,c.methods.length≤maxN
theorem method_p(v:Ev)(hd:ClsOk v.kc)(s:ByteArray):ev (q21 (dts v.kj) (cls v.kc) (its v.ki) (sv s))=some (0,match mth v s with|some (i,k)=>[iv i,iv k,bv true]|none=>[iv 0,iv 0,bv false]):=
 Evl.of (by
  rw[h21,g21]
  have hl:=ev_first v.kc (fun i (c:Cl)=>(fnd (isMd s) c.methods 0).map fun k=>(i,k)) (fun i=>q21b0a (iv i) (iv v.kc.length) (cls v.kc) (sv s)) (1,[sv s]) (fun x=>(0,[sv s,iv x.1,iv x.2,bv true]))
   (fun i a ha hi _=>by
    rw[h21b0a,g21b0a]
    simp[idxK_cls ha,hi,wL hi hd.1,find_md _ (hd.2 a (lMg ha)) s]
    cases h:fnd (isMd s) a.methods 0 with
    |none=>simp[fi,h]
    |some k=>simp[fi,h])
   (fun _=>by rw[h21b0a,g21b0a];simp)
  simp at hl
  simp[hl];unfold mth;cases h:fe (fun i (c:Cl)=>(fnd (isMd s) c.methods 0).map fun k=>(i,k)) v.kc 0<;>simp)
theorem method_r(v:Ev)(hd:ClsOk v.kc)(s:ByteArray):ev (q22 (dts v.kj) (cls v.kc) (its v.ki) (sv s))=some (0,match mth v s with|some (i,k)=>[iv i,iv k]|none=>[iv (-1),iv (-1)]):=
 Evl.of (by
  rw[h22,g22]
  have hl:=ev_first v.kc (fun i (c:Cl)=>(fnd (isMd s) c.methods 0).map fun k=>(i,k)) (fun i=>q22b0a (iv i) (sv s) (dts v.kj) (cls v.kc) (its v.ki)) (1,[dts v.kj,cls v.kc,its v.ki]) (fun x=>(0,[dts v.kj,cls v.kc,its v.ki,iv x.1,iv x.2]))
   (fun i a ha hi _=>by
    rw[h22b0a,g22b0a]
    have hm:=hd.2 a (lMg ha)
    have hl:=ev_find a.methods (isMd s) (fun k=>q22b2a (iv k) (iv i) (sv s) (dts v.kj) (cls v.kc) (its v.ki)) (1,[dts v.kj,cls v.kc,its v.ki,iv i,sv s]) (fun k=>(0,[dts v.kj,cls v.kc,its v.ki,iv i,iv k]))
     (fun k b hb hk=>by rw[h22b2a,g22b2a];simp[idxK_cls ha,idxK_mds hb,hk,wL hk hm,isMd])
     (by rw[h22b2a,g22b2a];simp[idxK_cls ha])
    simp at hl
    simp[hi,wL hi hd.1,hl]
    cases h:fnd (isMd s) a.methods 0<;>simp)
   (fun _=>by rw[h22b0a,g22b0a];simp)
  simp at hl
  simp[hl];unfold mth;cases h:fe (fun i (c:Cl)=>(fnd (isMd s) c.methods 0).map fun k=>(i,k)) v.kc 0<;>simp)
inductive Ty.Ok:Ty→Prop where
 |mk (k:Int) (s:ByteArray) (n:Int) (ks:List Ty) (h:ks.length≤maxN) (hk:∀t∈ks,Ty.Ok t):Ty.Ok (.mk k s n ks)
mutual
def rightI(v:Ev)(vars:List ByteArray):Ty→Int
 |.mk k s n ks=>if k=1 then(if mem vars s=true then rightL v vars ks else 123) else if k=3 then(if arity v s<0 then 121 else if arity v s=(ks.length:Int) then rightL v vars ks else 122) else 123
def rightL(v:Ev)(vars:List ByteArray):List Ty→Int
 |[]=>0
 |t::l=>if rightI v vars t=0 then rightL v vars l else rightI v vars t
end
def rightE(v:Ev)(vars:List ByteArray)(t:Ty):Option Int:=if rightI v vars t=0 then none else some (rightI v vars t)
theorem rightL_fe(v:Ev)(vars:List ByteArray):∀(l:List Ty) (i:Nat),rightL v vars l=match fe (fun _ t=>rightE v vars t) l i with|some e=>e|none=>0
 |[],i=>by rw[rightL];rfl
 |t::l,i=>by
  rw[rightL,fe,rightL_fe v vars l (i+1)]
  unfold rightE
  by_cases h:rightI v vars t=0<;>simp[h]
theorem right_p(v:Ev)(hd:v.kj.length≤maxN)(vars:List ByteArray)(hv:vars.length≤maxN):∀t:Ty,t.Ok→ev (q15 (dts v.kj) (cls v.kc) (its v.ki) (strs vars) (iv t.kind) (sv t.name) (iv t.n) (tys t.kids))=some (0,[iv (rightI v vars t)]):=by
 intro t ht
 induction ht with
 |mk k s n ks hl hk ih=>
  refine Evl.of ?_
  rw[h15,g15]
  have hkids:=ev_first ks (fun _ t=>rightE v vars t) (fun i=>q15b1a (iv i) (iv ks.length) (tys ks) (strs vars) (dts v.kj) (cls v.kc) (its v.ki)) (1,[dts v.kj,cls v.kc,its v.ki]) (fun e=>(0,[dts v.kj,cls v.kc,its v.ki,iv e]))
   (fun i a ha hi _=>by
    rw[h15b1a,g15b1a]
    have h1:=ih a (lMg ha)
    simp[idxK_tys ha,hi,wL hi hl,h1]
    unfold rightE
    by_cases h:rightI v vars a=0<;>simp[h])
   (fun _=>by rw[h15b1a,g15b1a];simp)
  simp at hkids
  have e:=rightL_fe v vars ks 0
  rw[rightI]
  simp only[Ty.kind,Ty.name,Ty.n,Ty.kids]
  by_cases h1:k=1
  ·simp[h1,contains_strs _ hv]
   cases hm:mem vars s with
   |false=>simp
   |true=>simp[hkids,e];cases fe (fun _ t=>rightE v vars t) ks 0<;>simp
  ·by_cases h3:k=3
   ·simp[h1,h3,arity_p v hd]
    by_cases h4:arity v s<0
    ·have:¬0≤arity v s:=by omega
     simp[h4,this]
    ·have h4':0≤arity v s:=by omega
     have hm:max (arity v s) 0=arity v s:=by omega
     by_cases h5:arity v s=(ks.length:Int)
     ·have h6:¬((ks.length:Int)<0):=by omega
      simp[h4,h4',hm,h5,h6,hkids,e];cases fe (fun _ t=>rightE v vars t) ks 0<;>simp
     ·simp[h4,h4',hm,h5]
   ·simp[h1,h3]
theorem right_r(v:Ev)(hd:v.kj.length≤maxN)(vars:List ByteArray)(hv:vars.length≤maxN):∀t:Ty,t.Ok→ev (q16 (dts v.kj) (cls v.kc) (its v.ki) (strs vars) (iv t.kind) (sv t.name) (iv t.n) (tys t.kids))=some (0,[iv (rightI v vars t)]):=by
 intro t ht
 induction ht with
 |mk k s n ks hl hk ih=>
  refine Evl.of ?_
  rw[h16,g16]
  have hkids:=ev_first ks (fun _ t=>rightE v vars t) (fun i=>q16b0a (iv i) (strs vars) (iv k) (sv s) (iv n) (tys ks) (dts v.kj) (cls v.kc) (its v.ki)) (1,[iv k,sv s,iv n,tys ks,dts v.kj,cls v.kc,its v.ki]) (fun e=>(0,[iv k,sv s,iv n,tys ks,dts v.kj,cls v.kc,its v.ki,iv e]))
   (fun i a ha hi _=>by
    rw[h16b0a,g16b0a]
    have h1:=ih a (lMg ha)
    simp[idxK_tys ha,hi,wL hi hl,h1]
    unfold rightE
    by_cases h:rightI v vars a=0<;>simp[h])
   (fun _=>by rw[h16b0a,g16b0a];simp)
  simp at hkids
  have e:=rightL_fe v vars ks 0
  rw[rightI]
  simp only[Ty.kind,Ty.name,Ty.n,Ty.kids]
  by_cases h1:k=1
  ·simp[h1,has_strs _ hv]
   rw[h1]at hkids
   cases hm:mem vars s with
   |false=>simp
   |true=>simp[hkids,e];cases fe (fun _ t=>rightE v vars t) ks 0<;>simp
  ·by_cases h3:k=3
   ·rw[h3]at hkids
    simp[h1,h3,arity_r v hd]
    by_cases h4:arity v s<0
    ·simp[h4]
    ·by_cases h5:arity v s=(ks.length:Int)
     ·have h6:¬((ks.length:Int)<0):=by omega
      simp[h5,h6,hkids,e];cases fe (fun _ t=>rightE v vars t) ks 0<;>simp
     ·simp[h4,h5]
   ·simp[h1,h3]
def srow(l:List ByteArray):List (List PV):=l.map fun s=>[sv s]
theorem srow_one(s:ByteArray):srow [s]=[[sv s]]:=rfl
theorem srow_nil:srow []=[]:=rfl
theorem srow_len(l:List ByteArray):(srow l).length=l.length:=by simp[srow]
@[simp] theorem ns_srow(l:List ByteArray):NS (.rows (srow l)):=ns_strs l
theorem strs_srow(l:List ByteArray):strs l=.rows (srow l):=rfl
theorem srow_app(a b:List ByteArray):srow (a++b)=srow a++srow b:=by simp[srow]
theorem srow_sz(l:List ByteArray):∀c∈srow l,c.length=1:=by simp[srow]
theorem app_s(a:List ByteArray)(s:ByteArray)(hb:a.length≤1000000000000-1){q:PV}:AppOk Tryz.prog 52 (.pv (.rows (srow a))) (.pv (.rows [[sv s]])) q↔q=.rows (srow (a++[s])):=by
 rw[srow_app]
 exact app_ok sl_strs (s:=.pv (.rows (srow a))) (x:=.pv (.rows [[sv s]])) (es:=srow a) (es':=[[sv s]]) rfl rfl (by simp) (by simp) (by rw[srow_len];simp;omega) (by rw[srow_len];simp;omega)
def cnt(U met:List ByteArray):Nat:=(U.filter fun s=>!mem met s).length
theorem mem_app(a b:List ByteArray)(s:ByteArray):mem (a++b) s=(mem a s||mem b s):=by simp[mem,isS]
theorem cnt_le{U met met':List ByteArray}(h:∀s,mem met s=true→mem met' s=true):cnt U met'≤cnt U met:=by
 unfold cnt
 induction U with
 |nil=>simp
 |cons s U ih=>
  rw[List.filter_cons,List.filter_cons]
  cases h1:mem met s with
  |true=>simp[h s h1];exact ih
  |false=>
   cases h2:mem met' s with
   |true=>simp;omega
   |false=>simp;exact ih
theorem cnt_lt{U met:List ByteArray}{s:ByteArray}(hs:s∈U)(h:mem met s=false):cnt U (met++[s])+1≤cnt U met:=by
 unfold cnt
 induction U with
 |nil=>cases hs
 |cons t U ih=>
  have hle:cnt U (met++[s])≤cnt U met:=cnt_le fun x hx=>by rw[mem_app,hx];rfl
  unfold cnt at hle
  rw[List.filter_cons,List.filter_cons]
  by_cases ht:t=s
  ·subst ht
   have:mem (met++[t]) t=true:=by rw[mem_app];simp[mem,isS]
   simp[this,h];omega
  ·have hs':s∈U:=by
    rcases List.mem_cons.1 hs with e|hs'
    ·exact absurd e.symm ht
    ·exact hs'
   have:=ih hs'
   have e1:mem [s] t=false:=by simp[mem,isS];exact fun h=>ht h.symm
   have e:mem (met++[s]) t=mem met t:=by rw[mem_app,e1,Bool.or_false]
   rw[e]
   cases mem met t<;>simp<;>omega
def supsAt(v:Ev)(i:Nat):List ByteArray:=match v.kc[i]? with
 |some x=>x.supers
 |none=>[]
def stepUp(rec_:List ByteArray→ByteArray→List ByteArray)(met:List ByteArray)(s:ByteArray):List ByteArray:=if mem met s=true then met else rec_ (met++[s]) s
def upN(v:Ev):Nat→List ByteArray→ByteArray→List ByteArray
 |0,met,_=>met
 |n+1,met,c=>match fnd (isCl c) v.kc 0 with
  |none=>met
  |some i=>(supsAt v i).foldl (stepUp (upN v n)) met
theorem foldl_sub{r:List ByteArray→ByteArray→List ByteArray}(hr:∀met c s,mem met s=true→mem (r met c) s=true):∀(l:List ByteArray) (met:List ByteArray) (s:ByteArray),mem met s=true→mem (l.foldl (stepUp r) met) s=true
 |[],met,s,h=>h
 |c::l,met,s,h=>by
  rw[List.foldl_cons]
  refine foldl_sub hr l _ s ?_
  unfold stepUp
  split
  ·exact h
  ·exact hr _ _ _ (by rw[mem_app,h];rfl)
theorem upN_sub(v:Ev):∀(n:Nat) (met:List ByteArray) (c s:ByteArray),mem met s=true→mem (upN v n met c) s=true
 |0,met,c,s,h=>h
 |n+1,met,c,s,h=>by
  rw[upN]
  split
  ·exact h
  ·exact foldl_sub (upN_sub v n) _ _ _ h
structure SupOk(v:Ev)(U:List ByteArray):Prop where
 cl:v.kc.length≤maxN
 su:∀x∈v.kc,x.supers.length≤maxN
 all:∀x∈v.kc,∀s∈x.supers,s∈U
theorem upN_len{v:Ev}{U:List ByteArray}(h:SupOk v U):∀(n:Nat) (met:List ByteArray) (c:ByteArray),(upN v n met c).length+cnt U (upN v n met c)≤met.length+cnt U met:=by
 intro n
 induction n with
 |zero=>intro met c;exact Nat.le_refl _
 |succ n ih=>
  intro met c
  rw[upN]
  split
  ·exact Nat.le_refl _
  ·rename_i i hi
   have key:∀(l:List ByteArray),(∀s∈l,s∈U)→∀met:List ByteArray,(l.foldl (stepUp (upN v n)) met).length+cnt U (l.foldl (stepUp (upN v n)) met)≤met.length+cnt U met:=by
    intro l
    induction l with
    |nil=>intro _ met;exact Nat.le_refl _
    |cons s l ih2=>
     intro hl met
     rw[List.foldl_cons]
     refine Nat.le_trans (ih2 (fun x hx=>hl x (lMc _ hx)) _) ?_
     unfold stepUp
     split
     ·exact Nat.le_refl _
     ·rename_i hm
      refine Nat.le_trans (ih _ _) ?_
      have:=cnt_lt (hl s (List.mem_cons_self ..)) (by simpa using hm:mem met s=false)
      rw[List.length_append];simp;omega
   refine key _ (fun s hs=>?_) met
   unfold supsAt at hs
   split at hs
   ·rename_i x hx;exact h.all x (lMg hx) s hs
   ·cases hs
theorem upN_ge(v:Ev):∀(n:Nat) (met:List ByteArray) (c:ByteArray),met.length≤(upN v n met c).length:=by
 intro n
 induction n with
 |zero=>intro met c;exact Nat.le_refl _
 |succ n ih=>
  intro met c
  rw[upN]
  split
  ·exact Nat.le_refl _
  ·rename_i i _
   have key:∀(l:List ByteArray) (m:List ByteArray),m.length≤(l.foldl (stepUp (upN v n)) m).length:=by
    intro l
    induction l with
    |nil=>intro m;exact Nat.le_refl _
    |cons s l ih2=>
     intro m
     rw[List.foldl_cons]
     refine Nat.le_trans ?_ (ih2 _)
     unfold stepUp
     split
     ·exact Nat.le_refl _
     ·refine Nat.le_trans ?_ (ih _ _)
      simp
   exact key _ _
theorem stepUp_ge(v:Ev)(n:Nat)(m:List ByteArray)(s:ByteArray):m.length≤(stepUp (upN v n) m s).length:=by
 unfold stepUp
 split
 ·exact Nat.le_refl _
 ·refine Nat.le_trans ?_ (upN_ge v n _ _)
  simp
theorem foldl_ge(v:Ev)(n:Nat):∀(l:List ByteArray) (m:List ByteArray),m.length≤(l.foldl (stepUp (upN v n)) m).length
 |[],m=>Nat.le_refl _
 |s::l,m=>by
  rw[List.foldl_cons]
  exact Nat.le_trans (stepUp_ge v n m s) (foldl_ge v n l _)
theorem foldl_same(v:Ev)(n:Nat):∀(l:List ByteArray) (m:List ByteArray),(l.foldl (stepUp (upN v n)) m).length=m.length→l.foldl (stepUp (upN v n)) m=m
 |[],m,_=>rfl
 |s::l,m,h=>by
  rw[List.foldl_cons]at h ⊢
  have h1:=foldl_ge v n l (stepUp (upN v n) m s)
  have e:stepUp (upN v n) m s=m:=by
   unfold stepUp at h1 h ⊢
   split
   ·rfl
   ·rename_i hm
    rw[if_neg hm]at h1 h
    have h2:=upN_ge v n (m++[s]) s
    rw[List.length_append]at h2
    simp at h2
    omega
  rw[e]at h ⊢
  exact foldl_same v n l m h
theorem upN_same(v:Ev):∀(n:Nat) (met:List ByteArray) (c:ByteArray),(upN v n met c).length=met.length→upN v n met c=met
 |0,met,c,_=>rfl
 |n+1,met,c,h=>by
  rw[upN]at h ⊢
  split
  ·rfl
  ·rename_i i hi
   rw[hi]at h
   exact foldl_same v n _ _ h
theorem runL_ok{α σ ε:Type}(g:σ→α→σ):∀(l:List α) (i:Nat) (s:σ),runL (ε:=ε) (fun _ s a=>.ok (g s a)) l i s=.ok (l.foldl g s)
 |[],_,_=>rfl
 |a::l,i,s=>by rw[runL];simp only;rw[runL_ok g l,List.foldl_cons]
section
variable{β:Type}{d:β}{k:PV→β}
theorem appK_s(a:List ByteArray)(s:ByteArray)(hb:a.length≤1000000000000-1):appK Tryz.prog d 52 (.pv (.rows (srow a))) (.pv (.rows [[sv s]])) k=k (.rows (srow (a++[s]))):=
 appK_of (fun w=>app_s a s hb) (ns_srow _)
end
abbrev nilS:PV:=.lit (.slice none 0 0)
theorem has_srow(l:List ByteArray)(hl:l.length≤maxN)(s:ByteArray):ev (q44 (.rows (srow l)) (sv s))=some (0,[bv (mem l s)]):=has_strs l hl s
theorem contains_srow(l:List ByteArray)(hl:l.length≤maxN)(s:ByteArray):ev (q54 (.rows (srow l)) (sv s))=some (0,[bv (mem l s)]):=contains_strs l hl s
section
variable{v:Ev}{U:List ByteArray}(h:SupOk v U)
include h
theorem up_b_p:∀(n:Nat) (met:List ByteArray) (c:ByteArray),cnt U met<n→met.length+cnt U met≤100000000000→
  ev (q63b (sv c) (dts v.kj) (cls v.kc) (its v.ki) (srow met))=some (if(upN v n met c).length=met.length then 0 else 1,[dts v.kj,cls v.kc,its v.ki,.rows (srow (upN v n met c))]):=by
 intro n
 induction n with
 |zero=>intro met c hc;omega
 |succ n ih=>
  intro met c hc hM
  refine Evl.of ?_
  rw[h63b,g63b]
  have hcl:=class_p v h.cl c
  by_cases h0:0≤fi (isCl c) v.kc
  ·obtain⟨k,x,e1,e2,e3,_⟩:=fi_nonneg h0
   rw[e1]at hcl
   have hx:=lMg e3
   have hsl:=h.su x hx
   have hm:max (k:Int) 0=k:=by omega
   have hk0:(0:Int)≤(k:Int):=by omega
   have hk1:¬(k:Int)<0:=by omega
   have eU:upN v (n+1) met c=x.supers.foldl (stepUp (upN v n)) met:=by rw[upN,e2];simp only[supsAt,e3]
   have hl:=ev_loop (P:=PG) (E:=EE) (T:=TT) x.supers (fun _ m s=>.ok (stepUp (upN v n) m s)) (fun i m=>if m.length=met.length then q63bb0a (iv i) (iv x.supers.length) (strs x.supers) (srow m) (dts v.kj) (cls v.kc) (its v.ki) else q63bb0b (iv i) (iv x.supers.length) (strs x.supers) (srow m) (dts v.kj) (cls v.kc) (its v.ki))
    (fun m=>(if m.length=met.length then 0 else 1,[.rows (srow m),dts v.kj,cls v.kc,its v.ki])) (fun _ m=>(m.length=met.length→m=met)∧cnt U m≤cnt U met∧m.length+cnt U m≤met.length+cnt U met∧met.length≤m.length)
    (fun i m s hs hI=>by
     obtain⟨i0,i1,i2,i3⟩:=hI
     have hi:=lt_of_get hs
     have hU:=h.all x hx s (lMg hs)
     have hml:m.length≤maxN:=by unfold maxN;omega
     have hge:=stepUp_ge v n m s
     simp only
     cases hmm:mem m s with
     |true=>
      have e:stepUp (upN v n) m s=m:=by unfold stepUp;rw[if_pos hmm]
      rw[e]
      refine⟨⟨i0,i1,i2,i3⟩,?_⟩
      by_cases hq:m.length=met.length
      ·rw[if_pos hq,if_pos hq,h63bb0a,g63bb0a];simp[idxK_strs hs,hi,contains_srow _ hml,hmm,wL hi hsl]
      ·rw[if_neg hq,if_neg hq,h63bb0b,g63bb0b];simp[idxK_strs hs,hi,contains_srow _ hml,hmm,wL hi hsl]
     |false=>
      have e:stepUp (upN v n) m s=upN v n (m++[s]) s:=by unfold stepUp;rw[if_neg (by rw[hmm];simp)]
      have hcl:=cnt_lt hU hmm
      have hr:=ih (m++[s]) s (by omega) (by rw[List.length_append];simp;omega)
      have hge2:=upN_ge v n (m++[s]) s
      have hlen:=upN_len h n (m++[s]) s
      rw[List.length_append]at hge2 hlen
      simp at hge2 hlen
      have hne:¬(upN v n (m++[s]) s).length=met.length:=by omega
      rw[e]
      refine⟨⟨fun hh=>absurd hh hne,?_,by omega,by omega⟩,?_⟩
      ·have:cnt U (upN v n (m++[s]) s)≤cnt U (m++[s]):=cnt_le fun t ht=>upN_sub v n _ _ _ ht
       omega
      rw[if_neg hne]
      by_cases hs2:(upN v n (m++[s]) s).length=(m++[s]).length
      ·have e5:=upN_same v n (m++[s]) s hs2
       rw[if_pos hs2,e5]at hr
       rw[e5]
       by_cases hq:m.length=met.length
       ·rw[if_pos hq,h63bb0a,g63bb0a];simp[idxK_strs hs,hi,contains_srow _ hml,hmm,wL hi hsl,appK_s m s (by omega),hr]
       ·rw[if_neg hq,h63bb0b,g63bb0b];simp[idxK_strs hs,hi,contains_srow _ hml,hmm,wL hi hsl,appK_s m s (by omega),hr]
      ·rw[if_neg hs2]at hr
       by_cases hq:m.length=met.length
       ·rw[if_pos hq,h63bb0a,g63bb0a];simp[idxK_strs hs,hi,contains_srow _ hml,hmm,wL hi hsl,appK_s m s (by omega),hr]
       ·rw[if_neg hq,h63bb0b,g63bb0b];simp[idxK_strs hs,hi,contains_srow _ hml,hmm,wL hi hsl,appK_s m s (by omega),hr])
    (fun m hI=>by
     by_cases hq:m.length=met.length
     ·rw[if_pos hq,if_pos hq,h63bb0a,g63bb0a];simp
     ·rw[if_neg hq,if_neg hq,h63bb0b,g63bb0b];simp)
    met ⟨fun _=>rfl,Nat.le_refl _,Nat.le_refl _,Nat.le_refl _⟩
   rw[runL_ok]at hl
   simp only[if_true]at hl
   rw[eU]
   have hsame:=foldl_same v n x.supers met
   generalize x.supers.foldl (stepUp (upN v n)) met=r at hl hsame ⊢
   by_cases hq:r.length=met.length
   ·have:=hsame hq
    subst this
    simp at hl
    simp[hcl,hm,hk0,hk1,idxK_cls e3,hl]
   ·simp[hq]at hl
    simp[hcl,hm,hk0,hk1,idxK_cls e3,hl,hq]
  ·have:=fi_neg h0
   rw[this.1]at hcl
   have eU:upN v (n+1) met c=met:=by rw[upN,this.2]
   simp[hcl,eU]
theorem up_b_r:∀(n:Nat) (met:List ByteArray) (c:ByteArray),cnt U met<n→met.length+cnt U met≤100000000000→
  ev (q64b (dts v.kj) (cls v.kc) (its v.ki) (sv c) (srow met))=some (if(upN v n met c).length=met.length then 0 else 1,[.rows (srow (upN v n met c))]):=by
 intro n
 induction n with
 |zero=>intro met c hc;omega
 |succ n ih=>
  intro met c hc hM
  refine Evl.of ?_
  rw[h64b,g64b]
  have hcl:=class_r v h.cl c
  by_cases h0:0≤fi (isCl c) v.kc
  ·obtain⟨k,x,e1,e2,e3,_⟩:=fi_nonneg h0
   rw[e1]at hcl
   have hx:=lMg e3
   have hsl:=h.su x hx
   have hm:max (k:Int) 0=k:=by omega
   have hk0:(0:Int)≤(k:Int):=by omega
   have hk1:¬(k:Int)<0:=by omega
   have eU:upN v (n+1) met c=x.supers.foldl (stepUp (upN v n)) met:=by rw[upN,e2];simp only[supsAt,e3]
   have hl:=ev_loop (P:=PG) (E:=EE) (T:=TT) x.supers (fun _ m s=>.ok (stepUp (upN v n) m s)) (fun i m=>if m.length=met.length then q64bb0a (iv i) (strs x.supers) (srow m) (dts v.kj) (cls v.kc) (its v.ki) else q64bb0b (iv i) (strs x.supers) (srow m) (dts v.kj) (cls v.kc) (its v.ki))
    (fun m=>(if m.length=met.length then 0 else 1,[dts v.kj,cls v.kc,its v.ki,.rows (srow m)])) (fun _ m=>(m.length=met.length→m=met)∧cnt U m≤cnt U met∧m.length+cnt U m≤met.length+cnt U met∧met.length≤m.length)
    (fun i m s hs hI=>by
     obtain⟨i0,i1,i2,i3⟩:=hI
     have hi:=lt_of_get hs
     have hU:=h.all x hx s (lMg hs)
     have hml:m.length≤maxN:=by unfold maxN;omega
     have hge:=stepUp_ge v n m s
     simp only
     cases hmm:mem m s with
     |true=>
      have e:stepUp (upN v n) m s=m:=by unfold stepUp;rw[if_pos hmm]
      rw[e]
      refine⟨⟨i0,i1,i2,i3⟩,?_⟩
      by_cases hq:m.length=met.length
      ·rw[if_pos hq,if_pos hq,h64bb0a,g64bb0a];simp[idxK_strs hs,hi,has_srow _ hml,hmm,wL hi hsl]
      ·rw[if_neg hq,if_neg hq,h64bb0b,g64bb0b];simp[idxK_strs hs,hi,has_srow _ hml,hmm,wL hi hsl]
     |false=>
      have e:stepUp (upN v n) m s=upN v n (m++[s]) s:=by unfold stepUp;rw[if_neg (by rw[hmm];simp)]
      have hcl:=cnt_lt hU hmm
      have hr:=ih (m++[s]) s (by omega) (by rw[List.length_append];simp;omega)
      have hge2:=upN_ge v n (m++[s]) s
      have hlen:=upN_len h n (m++[s]) s
      rw[List.length_append]at hge2 hlen
      simp at hge2 hlen
      have hne:¬(upN v n (m++[s]) s).length=met.length:=by omega
      rw[e]
      refine⟨⟨fun hh=>absurd hh hne,?_,by omega,by omega⟩,?_⟩
      ·have:cnt U (upN v n (m++[s]) s)≤cnt U (m++[s]):=cnt_le fun t ht=>upN_sub v n _ _ _ ht
       omega
      rw[if_neg hne]
      by_cases hs2:(upN v n (m++[s]) s).length=(m++[s]).length
      ·have e5:=upN_same v n (m++[s]) s hs2
       rw[if_pos hs2,e5]at hr
       rw[e5]
       by_cases hq:m.length=met.length
       ·rw[if_pos hq,h64bb0a,g64bb0a];simp[idxK_strs hs,hi,has_srow _ hml,hmm,wL hi hsl,appK_s m s (by omega),hr]
       ·rw[if_neg hq,h64bb0b,g64bb0b];simp[idxK_strs hs,hi,has_srow _ hml,hmm,wL hi hsl,appK_s m s (by omega),hr]
      ·rw[if_neg hs2]at hr
       by_cases hq:m.length=met.length
       ·rw[if_pos hq,h64bb0a,g64bb0a];simp[idxK_strs hs,hi,has_srow _ hml,hmm,wL hi hsl,appK_s m s (by omega),hr]
       ·rw[if_neg hq,h64bb0b,g64bb0b];simp[idxK_strs hs,hi,has_srow _ hml,hmm,wL hi hsl,appK_s m s (by omega),hr])
    (fun m hI=>by
     by_cases hq:m.length=met.length
     ·rw[if_pos hq,if_pos hq,h64bb0a,g64bb0a];simp
     ·rw[if_neg hq,if_neg hq,h64bb0b,g64bb0b];simp)
    met ⟨fun _=>rfl,Nat.le_refl _,Nat.le_refl _,Nat.le_refl _⟩
   rw[runL_ok]at hl
   simp only[if_true]at hl
   rw[eU]
   have hsame:=foldl_same v n x.supers met
   generalize x.supers.foldl (stepUp (upN v n)) met=r at hl hsame ⊢
   by_cases hq:r.length=met.length
   ·have:=hsame hq
    subst this
    simp at hl
    simp[hcl,hm,hk0,hk1,idxK_cls e3,hl]
   ·simp[hq]at hl
    simp[hcl,hm,hk0,hk1,idxK_cls e3,hl,hq]
  ·have:=fi_neg h0
   rw[this.1]at hcl
   have eU:upN v (n+1) met c=met:=by rw[upN,this.2]
   simp[hcl,eU]
end
section
variable{v:Ev}{U:List ByteArray}(h:SupOk v U)
include h
theorem up_a_p(n:Nat)(c:ByteArray)(hc:cnt U []<n+1)(hM:cnt U []≤100000000000) :
  ev (q63a (sv c) (dts v.kj) (cls v.kc) (its v.ki))=some (if(upN v (n+1) [] c).length=0 then(0,[dts v.kj,cls v.kc,its v.ki,nilS]) else(1,[dts v.kj,cls v.kc,its v.ki,.rows (srow (upN v (n+1) [] c))])):=by
 refine Evl.of ?_
 rw[h63a,g63a]
 have hcl:=class_p v h.cl c
 by_cases h0:0≤fi (isCl c) v.kc
 ·obtain⟨k,x,e1,e2,e3,_⟩:=fi_nonneg h0
  rw[e1]at hcl
  have hx:=lMg e3
  have hsl:=h.su x hx
  have hm:max (k:Int) 0=k:=by omega
  have hk0:(0:Int)≤(k:Int):=by omega
  have hk1:¬(k:Int)<0:=by omega
  have eU:upN v (n+1) [] c=x.supers.foldl (stepUp (upN v n)) []:=by rw[upN,e2];simp only[supsAt,e3]
  have hl:=ev_loop (P:=PG) (E:=EE) (T:=TT) x.supers (fun _ m s=>.ok (stepUp (upN v n) m s)) (fun i m=>if m.length=0 then q63ab0a (iv i) (iv x.supers.length) (strs x.supers) (dts v.kj) (cls v.kc) (its v.ki) else q63ab0b (iv i) (iv x.supers.length) (strs x.supers) (srow m) (dts v.kj) (cls v.kc) (its v.ki))
   (fun m=>if m.length=0 then(0,[nilS,dts v.kj,cls v.kc,its v.ki]) else(1,[.rows (srow m),dts v.kj,cls v.kc,its v.ki])) (fun _ m=>cnt U m≤cnt U []∧m.length+cnt U m≤cnt U [])
   (fun i m s hs hI=>by
    obtain⟨i1,i2⟩:=hI
    have hi:=lt_of_get hs
    have hU:=h.all x hx s (lMg hs)
    have hml:m.length≤maxN:=by unfold maxN;omega
    simp only
    cases hmm:mem m s with
    |true=>
     have e:stepUp (upN v n) m s=m:=by unfold stepUp;rw[if_pos hmm]
     rw[e]
     refine⟨⟨i1,i2⟩,?_⟩
     by_cases hq:m.length=0
     ·have:m=[]:=List.length_eq_zero_iff.1 hq
      rw[this]at hmm;simp[mem]at hmm
     ·rw[if_neg hq,if_neg hq,h63ab0b,g63ab0b];simp[idxK_strs hs,hi,contains_srow _ hml,hmm,wL hi hsl]
    |false=>
     have e:stepUp (upN v n) m s=upN v n (m++[s]) s:=by unfold stepUp;rw[if_neg (by rw[hmm];simp)]
     have hcl:=cnt_lt hU hmm
     have hr:=up_b_p h n (m++[s]) s (by omega) (by rw[List.length_append];simp;omega)
     have hge2:=upN_ge v n (m++[s]) s
     have hlen:=upN_len h n (m++[s]) s
     rw[List.length_append]at hge2 hlen
     simp at hge2 hlen
     have hne:¬(upN v n (m++[s]) s).length=0:=by omega
     rw[e]
     refine⟨⟨?_,by omega⟩,?_⟩
     ·have:cnt U (upN v n (m++[s]) s)≤cnt U (m++[s]):=cnt_le fun t ht=>upN_sub v n _ _ _ ht
      omega
     rw[if_neg hne]
     by_cases hs2:(upN v n (m++[s]) s).length=(m++[s]).length
     ·have e5:=upN_same v n (m++[s]) s hs2
      rw[if_pos hs2,e5]at hr
      rw[e5]
      by_cases hq:m.length=0
      ·have:m=[]:=List.length_eq_zero_iff.1 hq
       subst this
       have hc0:=contains_srow [] (by unfold maxN;simp) s
       simp only[List.nil_append,srow_one,srow_nil,hmm]at hr hc0
       rw[if_pos hq,h63ab0a,g63ab0a];simp[idxK_strs hs,hi,hc0,wL hi hsl,hr,srow_one]
      ·rw[if_neg hq,h63ab0b,g63ab0b];simp[idxK_strs hs,hi,contains_srow _ hml,hmm,wL hi hsl,appK_s m s (by omega),hr]
     ·rw[if_neg hs2]at hr
      by_cases hq:m.length=0
      ·have:m=[]:=List.length_eq_zero_iff.1 hq
       subst this
       have hc0:=contains_srow [] (by unfold maxN;simp) s
       simp only[List.nil_append,srow_one,srow_nil,hmm]at hr hc0
       rw[if_pos hq,h63ab0a,g63ab0a];simp[idxK_strs hs,hi,hc0,wL hi hsl,hr]
      ·rw[if_neg hq,h63ab0b,g63ab0b];simp[idxK_strs hs,hi,contains_srow _ hml,hmm,wL hi hsl,appK_s m s (by omega),hr])
   (fun m hI=>by
    by_cases hq:m.length=0
    ·rw[if_pos hq,if_pos hq,h63ab0a,g63ab0a];simp
    ·rw[if_neg hq,if_neg hq,h63ab0b,g63ab0b];simp)
   [] ⟨Nat.le_refl _,by simp⟩
  rw[runL_ok]at hl
  simp only[List.length_nil,if_true]at hl
  rw[eU]
  generalize x.supers.foldl (stepUp (upN v n)) []=r at hl ⊢
  by_cases hq:r.length=0
  ·rw[if_pos hq]at hl
   simp at hl
   simp[hcl,hm,hk0,hk1,idxK_cls e3,hl,List.length_eq_zero_iff.1 hq]
  ·rw[if_neg hq]at hl
   simp at hl
   simp[hcl,hm,hk0,hk1,idxK_cls e3,hl,hq,fun e=>hq (List.length_eq_zero_iff.2 e)]
 ·have:=fi_neg h0
  rw[this.1]at hcl
  have eU:upN v (n+1) [] c=[]:=by rw[upN,this.2]
  simp[hcl,eU]
theorem above_p(n:Nat)(c:ByteArray)(hc:cnt U []<n+1)(hM:cnt U []≤100000000000) :
  ev (q26w (dts v.kj) (cls v.kc) (its v.ki) (sv c))=some (0,[strs (upN v (n+1) [] c)]):=by
 have h1:=up_a_p h n c hc hM
 have h2:ev (q26 (dts v.kj) (cls v.kc) (its v.ki) (sv c))=some (if(upN v (n+1) [] c).length=0 then(0,[nilS]) else(1,[.rows (srow (upN v (n+1) [] c))])):=by
  refine Evl.of ?_
  rw[h26,g26]
  generalize upN v (n+1) [] c=r at h1 ⊢
  by_cases hq:r.length=0
  ·rw[if_pos hq]at h1 ⊢;simp[h1]
  ·rw[if_neg hq]at h1 ⊢;simp[h1]
 refine Evl.of ?_
 rw[h26w]
 generalize upN v (n+1) [] c=r at h2 ⊢
 by_cases hq:r.length=0
 ·rw[if_pos hq]at h2
  have:r=[]:=List.length_eq_zero_iff.1 hq
  subst this
  simp[h2,strs]
 ·rw[if_neg hq]at h2;simp[h2,strs_srow]
theorem up_a_r(n:Nat)(c:ByteArray)(hc:cnt U []<n+1)(hM:cnt U []≤100000000000) :
  ev (q64a (dts v.kj) (cls v.kc) (its v.ki) (sv c))=some (if(upN v (n+1) [] c).length=0 then(0,[nilS]) else(1,[.rows (srow (upN v (n+1) [] c))])):=by
 refine Evl.of ?_
 rw[h64a,g64a]
 have hcl:=class_r v h.cl c
 by_cases h0:0≤fi (isCl c) v.kc
 ·obtain⟨k,x,e1,e2,e3,_⟩:=fi_nonneg h0
  rw[e1]at hcl
  have hx:=lMg e3
  have hsl:=h.su x hx
  have hm:max (k:Int) 0=k:=by omega
  have hk0:(0:Int)≤(k:Int):=by omega
  have hk1:¬(k:Int)<0:=by omega
  have eU:upN v (n+1) [] c=x.supers.foldl (stepUp (upN v n)) []:=by rw[upN,e2];simp only[supsAt,e3]
  have hl:=ev_loop (P:=PG) (E:=EE) (T:=TT) x.supers (fun _ m s=>.ok (stepUp (upN v n) m s)) (fun i m=>if m.length=0 then q64ab0a (iv i) (strs x.supers) (dts v.kj) (cls v.kc) (its v.ki) else q64ab0b (iv i) (strs x.supers) (srow m) (dts v.kj) (cls v.kc) (its v.ki))
   (fun m=>if m.length=0 then(0,[dts v.kj,cls v.kc,its v.ki,nilS]) else(1,[dts v.kj,cls v.kc,its v.ki,.rows (srow m)])) (fun _ m=>cnt U m≤cnt U []∧m.length+cnt U m≤cnt U [])
   (fun i m s hs hI=>by
    obtain⟨i1,i2⟩:=hI
    have hi:=lt_of_get hs
    have hU:=h.all x hx s (lMg hs)
    have hml:m.length≤maxN:=by unfold maxN;omega
    simp only
    cases hmm:mem m s with
    |true=>
     have e:stepUp (upN v n) m s=m:=by unfold stepUp;rw[if_pos hmm]
     rw[e]
     refine⟨⟨i1,i2⟩,?_⟩
     by_cases hq:m.length=0
     ·have:m=[]:=List.length_eq_zero_iff.1 hq
      rw[this]at hmm;simp[mem]at hmm
     ·rw[if_neg hq,if_neg hq,h64ab0b,g64ab0b];simp[idxK_strs hs,hi,has_srow _ hml,hmm,wL hi hsl]
    |false=>
     have e:stepUp (upN v n) m s=upN v n (m++[s]) s:=by unfold stepUp;rw[if_neg (by rw[hmm];simp)]
     have hcl:=cnt_lt hU hmm
     have hr:=up_b_r h n (m++[s]) s (by omega) (by rw[List.length_append];simp;omega)
     have hge2:=upN_ge v n (m++[s]) s
     have hlen:=upN_len h n (m++[s]) s
     rw[List.length_append]at hge2 hlen
     simp at hge2 hlen
     have hne:¬(upN v n (m++[s]) s).length=0:=by omega
     rw[e]
     refine⟨⟨?_,by omega⟩,?_⟩
     ·have:cnt U (upN v n (m++[s]) s)≤cnt U (m++[s]):=cnt_le fun t ht=>upN_sub v n _ _ _ ht
      omega
     rw[if_neg hne]
     by_cases hs2:(upN v n (m++[s]) s).length=(m++[s]).length
     ·have e5:=upN_same v n (m++[s]) s hs2
      rw[if_pos hs2,e5]at hr
      rw[e5]
      by_cases hq:m.length=0
      ·have:m=[]:=List.length_eq_zero_iff.1 hq
       subst this
       have hc0:=has_srow [] (by unfold maxN;simp) s
       simp only[List.nil_append,srow_one,srow_nil,hmm]at hr hc0
       rw[if_pos hq,h64ab0a,g64ab0a];simp[idxK_strs hs,hi,hc0,wL hi hsl,hr,srow_one]
      ·rw[if_neg hq,h64ab0b,g64ab0b];simp[idxK_strs hs,hi,has_srow _ hml,hmm,wL hi hsl,appK_s m s (by omega),hr]
     ·rw[if_neg hs2]at hr
      by_cases hq:m.length=0
      ·have:m=[]:=List.length_eq_zero_iff.1 hq
       subst this
       have hc0:=has_srow [] (by unfold maxN;simp) s
       simp only[List.nil_append,srow_one,srow_nil,hmm]at hr hc0
       rw[if_pos hq,h64ab0a,g64ab0a];simp[idxK_strs hs,hi,hc0,wL hi hsl,hr]
      ·rw[if_neg hq,h64ab0b,g64ab0b];simp[idxK_strs hs,hi,has_srow _ hml,hmm,wL hi hsl,appK_s m s (by omega),hr])
   (fun m hI=>by
    by_cases hq:m.length=0
    ·rw[if_pos hq,if_pos hq,h64ab0a,g64ab0a];simp
    ·rw[if_neg hq,if_neg hq,h64ab0b,g64ab0b];simp)
   [] ⟨Nat.le_refl _,by simp⟩
  rw[runL_ok]at hl
  simp only[List.length_nil,if_true]at hl
  rw[eU]
  generalize x.supers.foldl (stepUp (upN v n)) []=r at hl ⊢
  by_cases hq:r.length=0
  ·rw[if_pos hq]at hl
   simp at hl
   simp[hcl,hm,hk0,hk1,idxK_cls e3,hl,List.length_eq_zero_iff.1 hq]
  ·rw[if_neg hq]at hl
   simp at hl
   simp[hcl,hm,hk0,hk1,idxK_cls e3,hl,hq,fun e=>hq (List.length_eq_zero_iff.2 e)]
 ·have:=fi_neg h0
  rw[this.1]at hcl
  have eU:upN v (n+1) [] c=[]:=by rw[upN,this.2]
  simp[hcl,eU]
theorem above_r(n:Nat)(c:ByteArray)(hc:cnt U []<n+1)(hM:cnt U []≤100000000000) :
  ev (q27w (dts v.kj) (cls v.kc) (its v.ki) (sv c))=some (0,[strs (upN v (n+1) [] c)]):=by
 have h1:=up_a_r h n c hc hM
 have h2:ev (q27 (dts v.kj) (cls v.kc) (its v.ki) (sv c))=some (if(upN v (n+1) [] c).length=0 then(0,[nilS]) else(1,[.rows (srow (upN v (n+1) [] c))])):=by
  refine Evl.of ?_
  rw[h27,g27]
  generalize upN v (n+1) [] c=r at h1 ⊢
  by_cases hq:r.length=0
  ·rw[if_pos hq]at h1 ⊢;simp[h1]
  ·rw[if_neg hq]at h1 ⊢;simp[h1]
 refine Evl.of ?_
 rw[h27w]
 generalize upN v (n+1) [] c=r at h2 ⊢
 by_cases hq:r.length=0
 ·rw[if_pos hq]at h2
  have:r=[]:=List.length_eq_zero_iff.1 hq
  subst this
  simp[h2,strs]
 ·rw[if_neg hq]at h2;simp[h2,strs_srow]
end
theorem foldl_snoc{α:Type}(f:α→ByteArray):∀(l:List α) (m:List ByteArray),l.foldl (fun m a=>m++[f a]) m=m++l.map f
 |[],m=>by simp
 |a::l,m=>by rw[List.foldl_cons,foldl_snoc f l];simp
theorem ev_map{α:Type}(l:List α)(hl:l.length≤1000000000000-1)(f:α→ByteArray)(qa:Nat→Q)(qb:Nat→List ByteArray→Q)(fa:Rs)(fb:List ByteArray→Rs)
  (stepa:∀i a,i=0→l[i]?=some a→i<l.length→body PG EE TT ev (qa i)=passK (ev (qb (i+1) [f a])))
  (stepb:∀i a (m:List ByteArray),l[i]?=some a→i<l.length→m.length≤1000000000000-1→body PG EE TT ev (qb i m)=passK (ev (qb (i+1) (m++[f a]))))
  (donea:l.length=0→body PG EE TT ev (qa 0)=.ok fa) (doneb:∀m,body PG EE TT ev (qb l.length m)=.ok (fb m)) :
  ev (qa 0)=some (if l.length=0 then fa else fb (l.map f)):=by
 have h:=ev_loop (P:=PG) (E:=EE) (T:=TT) l (fun _ m a=>.ok (m++[f a])) (fun i m=>if m.length=0 then qa i else qb i m) (fun m=>if m.length=0 then fa else fb m) (fun i m=>m.length=i)
  (fun i m a ha hI=>by
   have hi:=lt_of_get ha
   simp only
   refine⟨by simp[hI],?_⟩
   by_cases h0:m.length=0
   ·have:m=[]:=List.length_eq_zero_iff.1 h0
    subst this
    simp at hI
    simpa using stepa i a hI.symm ha hi
   ·rw[if_neg h0,if_neg (by simp)]
    exact stepb i a m ha hi (by omega))
  (fun m hI=>by
   by_cases h0:m.length=0
   ·have e:l.length=0:=by omega
    rw[if_pos h0,if_pos h0,e];exact donea e
   ·rw[if_neg h0,if_neg h0];exact doneb m)
  [] rfl
 rw[runL_ok,foldl_snoc]at h
 simpa using h
theorem names_r(c:Cl)(hl:c.methods.length≤1000000000):ev (q86w (sv c.name) (sv c.var) (strs c.supers) (mds c.methods) (bds c.defaults) (iv c.at_))=some (0,[strs (c.methods.map Md.name)]):=by
 have hm:c.methods.length≤maxN:=by unfold maxN;omega
 have h:=ev_map c.methods (by omega) Md.name (fun i=>q86b0a (iv i) (sv c.name) (sv c.var) (strs c.supers) (mds c.methods) (bds c.defaults) (iv c.at_)) (fun i m=>q86b0b (iv i) (srow m) (sv c.name) (sv c.var) (strs c.supers) (mds c.methods) (bds c.defaults) (iv c.at_))
  (0,[sv c.name,sv c.var,strs c.supers,mds c.methods,bds c.defaults,iv c.at_,nilS]) (fun m=>(1,[sv c.name,sv c.var,strs c.supers,mds c.methods,bds c.defaults,iv c.at_,.rows (srow m)]))
  (fun i a _ ha hi=>by rw[h86b0a,g86b0a];simp[idxK_mds ha,hi,wL hi hm,srow_one])
  (fun i a m ha hi hm2=>by rw[h86b0b,g86b0b];simp[idxK_mds ha,hi,wL hi hm,appK_s m a.name hm2])
  (fun e=>by rw[h86b0a,g86b0a];simp[e])
  (fun m=>by rw[h86b0b,g86b0b];simp)
 simp at h
 refine Evl.of ?_
 rw[h86w]
 by_cases h0:c.methods=[]
 ·simp[h0]at h
  have h2:ev (q86 (sv c.name) (sv c.var) (strs c.supers) (mds c.methods) (bds c.defaults) (iv c.at_))=some (0,[nilS]):=Evl.of (by rw[h86,g86];simp[h0,h])
  simp only[h2];simp[h0];rfl
 ·simp[h0]at h
  have h2:ev (q86 (sv c.name) (sv c.var) (strs c.supers) (mds c.methods) (bds c.defaults) (iv c.at_))=some (1,[strs (c.methods.map Md.name)]):=Evl.of (by rw[h86,g86];simp[h];rfl)
  simp[h2];rfl
theorem bound_raw(l:List Bd)(hl:l.length≤1000000000):ev (q45 (bds l))=some (if l.length=0 then(0,[nilS]) else(1,[.rows (srow (l.map Bd.name))])):=by
 have hm:l.length≤maxN:=by unfold maxN;omega
 have h:=ev_map l (by omega) Bd.name (fun i=>q45b0a (iv i) (bds l)) (fun i m=>q45b0b (iv i) (bds l) (srow m)) (0,[nilS]) (fun m=>(1,[.rows (srow m)]))
  (fun i a _ ha hi=>by rw[h45b0a,g45b0a];simp[idxK_bds ha,hi,wL hi hm,srow_one])
  (fun i a m ha hi hm2=>by rw[h45b0b,g45b0b];simp[idxK_bds ha,hi,wL hi hm,appK_s m a.name hm2])
  (fun e=>by rw[h45b0a,g45b0a];simp[e])
  (fun m=>by rw[h45b0b,g45b0b];simp)
 simp at h
 refine Evl.of ?_
 rw[h45,g45]
 by_cases h0:l=[]
 ·simp[h0]at h;simp[h0,h]
 ·simp[h0]at h;simp[h0,h]
theorem bound_r(l:List Bd)(hl:l.length≤1000000000):ev (q45w (bds l))=some (0,[strs (l.map Bd.name)]):=by
 have h:=bound_raw l hl
 refine Evl.of ?_
 rw[h45w]
 by_cases h0:l=[]
 ·simp[h0]at h;simp[h0,h];rfl
 ·simp[h0]at h;simp[h];rfl
theorem vars_r(x:It)(hl:x.head.kids.length≤1000000000):ev (q121w (sv x.cls) (iv x.head.kind) (sv x.head.name) (iv x.head.n) (tys x.head.kids) (pds x.ctx) (bds x.binds) (iv x.at_))=some (0,[strs (x.head.kids.map Ty.name)]):=by
 have hm:x.head.kids.length≤maxN:=by unfold maxN;omega
 have h:=ev_map x.head.kids (by omega) Ty.name (fun i=>q121b0a (iv i) (sv x.cls) (iv x.head.kind) (sv x.head.name) (iv x.head.n) (tys x.head.kids) (pds x.ctx) (bds x.binds) (iv x.at_)) (fun i m=>q121b0b (iv i) (srow m) (sv x.cls) (iv x.head.kind) (sv x.head.name) (iv x.head.n) (tys x.head.kids) (pds x.ctx) (bds x.binds) (iv x.at_))
  (0,[sv x.cls,iv x.head.kind,sv x.head.name,iv x.head.n,tys x.head.kids,pds x.ctx,bds x.binds,iv x.at_,nilS]) (fun m=>(1,[sv x.cls,iv x.head.kind,sv x.head.name,iv x.head.n,tys x.head.kids,pds x.ctx,bds x.binds,iv x.at_,.rows (srow m)]))
  (fun i a _ ha hi=>by rw[h121b0a,g121b0a];simp[idxK_tys ha,hi,wL hi hm,srow_one])
  (fun i a m ha hi hm2=>by rw[h121b0b,g121b0b];simp[idxK_tys ha,hi,wL hi hm,appK_s m a.name hm2])
  (fun e=>by rw[h121b0a,g121b0a];simp[e])
  (fun m=>by rw[h121b0b,g121b0b];simp)
 simp at h
 refine Evl.of ?_
 rw[h121w]
 by_cases h0:x.head.kids=[]
 ·simp[h0]at h
  have h2:ev (q121 (sv x.cls) (iv x.head.kind) (sv x.head.name) (iv x.head.n) (tys x.head.kids) (pds x.ctx) (bds x.binds) (iv x.at_))=some (0,[nilS]):=Evl.of (by rw[h121,g121];simp[h0,h])
  simp only[h2];simp[h0];rfl
 ·simp[h0]at h
  have h2:ev (q121 (sv x.cls) (iv x.head.kind) (sv x.head.name) (iv x.head.n) (tys x.head.kids) (pds x.ctx) (bds x.binds) (iv x.at_))=some (1,[strs (x.head.kids.map Ty.name)]):=Evl.of (by rw[h121,g121];simp[h];rfl)
  simp[h2];rfl
mutual
def allT:Ty→List Ty
 |.mk k s n ks=>.mk k s n ks::allL ks
def allL:List Ty→List Ty
 |[]=>[]
 |t::l=>allT t++allL l
end
theorem allT_eq(t:Ty):allT t=t::allL t.kids:=by cases t;rw[allT];rfl
theorem allT_ne(t:Ty):allT t≠[]:=by rw[allT_eq];simp
def trow(l:List Ty):List (List PV):=l.map Ty.cells
theorem tys_trow(l:List Ty):tys l=.rows (trow l):=rfl
theorem trow_len(l:List Ty):(trow l).length=l.length:=by simp[trow]
theorem trow_one(t:Ty):trow [t]=[[iv t.kind,sv t.name,iv t.n,tys t.kids]]:=by rw[trow,List.map_cons,List.map_nil,Ty.cells_eq]
theorem trow_sz(l:List Ty):∀c∈trow l,c.length=4:=by
 intro c hc
 obtain⟨x,_,rfl⟩:=List.mem_map.1 hc
 rw[Ty.cells_eq];rfl
section
variable{β:Type}{d:β}{k:PV→β}
theorem appK_t(a b:List Ty)(hb:b≠[])(hl:a.length+b.length≤1000000000000):appK Tryz.prog d 45 (.pv (.rows (trow a))) (.pv (.rows (trow b))) k=k (.rows (trow (a++b))):=by
 have e:trow (a++b)=trow a++trow b:=by simp[trow]
 rw[e]
 refine appK_of (fun w=>app_ok sl_tys (s:=.pv (.rows (trow a))) (x:=.pv (.rows (trow b))) (es:=trow a) (es':=trow b) rfl rfl (by simp[trow,hb]) (trow_sz b) (by rw[trow_len,trow_len];exact hl) (by rw[trow_len,trow_len];omega)) ?_
 rw[←e];exact ns_tys _
end
theorem all_r:∀t:Ty,t.Ok→(allT t).length≤1000000000→ev (q120 (iv t.kind) (sv t.name) (iv t.n) (tys t.kids))=some (0,[.rows (trow (allT t))]):=by
 intro t ht
 induction ht with
 |mk k s n ks hl hk ih=>
  intro hA
  simp only[Ty.kind,Ty.name,Ty.n,Ty.kids]
  refine Evl.of ?_
  rw[h120,g120]
  have hA2:(allL ks).length≤1000000000:=by rw[allT]at hA;simp at hA;omega
  have hsub:∀(l:List Ty) (a:Ty),a∈l→(allT a).length≤(allL l).length:=by
   intro l
   induction l with
   |nil=>intro a ha;cases ha
   |cons b l ihl=>
    intro a ha
    rw[allL,List.length_append]
    rcases List.mem_cons.1 ha with rfl|ha
    ·omega
    ·have:=ihl a ha;omega
  have happ:∀(l1 l2:List Ty),allL (l1++l2)=allL l1++allL l2:=by
   intro l1
   induction l1 with
   |nil=>intro l2;simp[allL]
   |cons b l1 ihl=>intro l2;rw[List.cons_append,allL,allL,ihl,List.append_assoc]
  have h:=ev_loop (P:=PG) (E:=EE) (T:=TT) ks (fun _ m a=>.ok (m++allT a)) (fun i m=>if i=0 then q120b0a (iv i) (trow m) (iv k) (sv s) (iv n) (tys ks) else q120b0b (iv i) (trow m) (iv k) (sv s) (iv n) (tys ks))
   (fun m=>(if ks.length=0 then 0 else 1,[iv k,sv s,iv n,tys ks,.rows (trow m)])) (fun i m=>m=.mk k s n ks::allL (ks.take i))
   (fun i m a ha hI=>by
    have hi:=lt_of_get ha
    have hmem:=lMg ha
    have hr:=ih a hmem (Nat.le_trans (hsub ks a hmem) hA2)
    have htk:ks.take (i+1)=ks.take i++[a]:=by
     rw[List.take_add_one,ha];rfl
    simp only
    refine⟨by rw[hI,htk,happ];simp[allL],?_⟩
    have hlen:m.length+(allT a).length≤1000000000000:=by
     have h1:=hsub ks a hmem
     have h2:(allL ks).length=(allL (ks.take i)).length+(allL (ks.drop i)).length:=by
      rw[←List.length_append,←happ,List.take_append_drop]
     rw[hI];simp;omega
    have hapK:=fun k=>appK_t (β:=Res) (d:=.fail) (k:=k) m (allT a) (allT_ne a) hlen
    rw[if_neg (Nat.succ_ne_zero i)]
    have hw:ev (q120w (iv a.kind) (sv a.name) (iv a.n) (tys a.kids))=some (0,[.rows (trow (allT a))]):=Evl.of (by rw[h120w];simp[hr])
    by_cases h0:i=0
    ·rw[if_pos h0,h120b0a,g120b0a];simp[idxK_tys ha,hi,hr,hw,hapK,wL hi hl]
    ·rw[if_neg h0,h120b0b,g120b0b];simp[idxK_tys ha,hi,hr,hw,hapK,wL hi hl])
   (fun m hI=>by
    by_cases h0:ks.length=0
    ·rw[if_pos h0,if_pos h0,h120b0a,g120b0a];simp[h0]
    ·rw[if_neg h0,if_neg h0,h120b0b,g120b0b];simp)
   [.mk k s n ks] (by simp[allL])
  have hfold:∀(l:List Ty) (m:List Ty),l.foldl (fun m a=>m++allT a) m=m++allL l:=by
   intro l
   induction l with
   |nil=>intro m;simp[allL]
   |cons b l ihl=>intro m;rw[List.foldl_cons,ihl,allL,List.append_assoc]
  rw[runL_ok,hfold]at h
  simp only[if_true]at h
  rw[trow_one]at h
  simp only[Ty.kind,Ty.name,Ty.n,Ty.kids]at h
  rw[allT]
  by_cases h0:ks.length=0
  ·have:ks=[]:=List.length_eq_zero_iff.1 h0
   subst this
   simp[trow_one,allL,Ty.kind,Ty.name,Ty.n,Ty.kids]at h
   simp[h,allL,trow_one,Ty.kind,Ty.name,Ty.n,Ty.kids]
  ·rw[if_neg h0]at h
   simp at h
   simp[h]
def stepV(out:List ByteArray)(t:Ty):List ByteArray:=if t.kind=1 then(if mem out t.name=true then out else out++[t.name]) else out
def varsT(t:Ty):List ByteArray:=(allT t).foldl stepV []
section
variable{β:Type}{d:β}{k:AV→β}
theorem lenK_trow(l:List Ty):lenK Tryz.prog d 45 (.pv (.rows (trow l))) k=k (.pv (iv l.length)):=lenK_tys l
theorem idxK_trow{l:List Ty}{i:Nat}{x:Ty}(h:l[i]?=some x):idxK Tryz.prog d 45 (.pv (.rows (trow l))) (.pv (.lit (.int .i64 (i:Int)))) k=k (.cptr [iv x.kind,sv x.name,iv x.n,tys x.kids]):=idxK_tys h
theorem lenK_srow(l:List ByteArray):lenK Tryz.prog d 52 (.pv (.rows (srow l))) k=k (.pv (iv l.length)):=lenK_strs l
end
theorem stepV_le(out:List ByteArray)(t:Ty):(stepV out t).length≤out.length+1:=by
 unfold stepV
 split
 ·split
  ·omega
  ·simp
 ·omega
theorem foldV_ge:∀(l:List Ty) (out:List ByteArray),out.length≤(l.foldl stepV out).length
 |[],out=>Nat.le_refl _
 |t::l,out=>by
  rw[List.foldl_cons]
  refine Nat.le_trans ?_ (foldV_ge l _)
  unfold stepV
  split
  ·split
   ·exact Nat.le_refl _
   ·simp
  ·exact Nat.le_refl _
theorem vars_raw(t:Ty)(ht:t.Ok)(hA:(allT t).length≤1000000000):ev (q82 (iv t.kind) (sv t.name) (iv t.n) (tys t.kids))=some (if(varsT t).length=0 then(0,[nilS]) else(1,[.rows (srow (varsT t))])):=by
 have hr:=all_r t ht hA
 have hw:ev (q120w (iv t.kind) (sv t.name) (iv t.n) (tys t.kids))=some (0,[.rows (trow (allT t))]):=Evl.of (by rw[h120w];simp[hr])
 have hl:(allT t).length≤maxN:=by unfold maxN;omega
 have h:=ev_loop (P:=PG) (E:=EE) (T:=TT) (allT t) (fun _ m a=>.ok (stepV m a)) (fun i m=>if m.length=0 then q82b0b (iv i) (trow (allT t)) else q82b0d (iv i) (trow (allT t)) (srow m))
  (fun m=>if m.length=0 then(0,[nilS,.rows (trow (allT t))]) else(1,[.rows (srow m),.rows (trow (allT t))])) (fun i m=>m.length≤i)
  (fun i m a ha hI=>by
   have hi:=lt_of_get ha
   have hle:=stepV_le m a
   simp only
   refine⟨by omega,?_⟩
   have hmm:m.length≤maxN:=by omega
   unfold stepV
   by_cases hk:a.kind=1
   ·cases hm:mem m a.name with
    |true=>
     have h0:¬m.length=0:=by
      intro e
      rw[List.length_eq_zero_iff.1 e]at hm
      simp[mem]at hm
     simp only[hk,if_true,if_neg h0]
     rw[h82b0d,g82b0d];simp[lenK_trow,idxK_trow ha,hi,wL hi hl,hk,has_srow m hmm,hm]
    |false=>
     by_cases h0:m.length=0
     ·have:=List.length_eq_zero_iff.1 h0
      subst this
      have hc:=has_srow [] hmm a.name
      rw[hm,srow_nil]at hc
      simp only[hk,if_true,if_pos h0]
      rw[h82b0b,g82b0b];simp[lenK_trow,idxK_trow ha,hi,wL hi hl,hk,hc,srow_one]
     ·simp only[hk,if_true,if_neg h0]
      rw[h82b0d,g82b0d];simp[lenK_trow,idxK_trow ha,hi,wL hi hl,hk,has_srow m hmm,hm,appK_s m a.name (by omega)]
   ·by_cases h0:m.length=0
    ·simp only[hk,if_false,if_pos h0]
     rw[h82b0b,g82b0b];simp[lenK_trow,idxK_trow ha,hi,wL hi hl,hk]
    ·simp only[hk,if_false,if_neg h0]
     rw[h82b0d,g82b0d];simp[lenK_trow,idxK_trow ha,hi,wL hi hl,hk])
  (fun m hI=>by
   by_cases h0:m.length=0
   ·rw[if_pos h0,if_pos h0,h82b0b,g82b0b];simp[lenK_trow]
   ·rw[if_neg h0,if_neg h0,h82b0d,g82b0d];simp[lenK_trow])
  [] (Nat.le_refl _)
 rw[runL_ok]at h
 simp only[List.length_nil,if_true]at h
 refine Evl.of ?_
 rw[h82,g82]
 unfold varsT
 generalize (allT t).foldl stepV []=r at h ⊢
 by_cases h0:r.length=0
 ·rw[if_pos h0]at h ⊢;simp at h;simp[hw,hr,h]
 ·rw[if_neg h0]at h ⊢;simp at h;simp[hw,hr,h]
mutual
def hasV:Ty→Bool
 |.mk k _ _ ks=>if k=1 then true else hasL ks
def hasL:List Ty→Bool
 |[]=>false
 |t::l=>hasV t||hasL l
end
theorem hasL_any:∀l,hasL l=l.any hasV
 |[]=>rfl
 |t::l=>by rw[hasL,List.any_cons,hasL_any l]
theorem has_p:∀t:Ty,t.Ok→ev (q107 (iv t.kind) (sv t.name) (iv t.n) (tys t.kids))=some (0,[bv (hasV t)]):=by
 intro t ht
 induction ht with
 |mk k s n ks hl hk ih=>
  simp only[Ty.kind,Ty.name,Ty.n,Ty.kids]
  have h1:=ev_find ks hasV (fun i=>q143kb0a (iv i) (iv ks.length) (tys ks)) (1,[]) (fun i=>(0,[iv i]))
   (fun i a ha hi=>by
    rw[h143kb0a,g143kb0a]
    simp[idxK_tys ha,hi,wL hi hl,ih a (lMg ha)])
   (by rw[h143kb0a,g143kb0a];simp)
  simp at h1
  have h2:ev (q143k (tys ks))=some (0,[iv (fi hasV ks)]):=
   Evl.of (by rw[h143k,g143k];simp[h1];cases h:fnd hasV ks 0<;>simp[fi,h])
  have h3:ev (q139a (tys ks))=some (0,[bv (ks.any hasV)]):=
   Evl.of (by rw[h139a,g139a];simp[h2];rw[←fi_any];cases decide (0≤fi hasV ks)<;>rfl)
  refine Evl.of ?_
  rw[h107,g107,hasV,hasL_any]
  by_cases h0:k=1
  ·simp[h0]
  ·simp[h0,h3];cases ks.any hasV<;>simp
mutual
theorem has_all:∀t:Ty,hasV t=(allT t).any (fun x=>decide (x.kind=1))
 |.mk k s n ks=>by
  have:=has_allL ks
  rw[hasV,allT,List.any_cons,this]
  by_cases h:k=1<;>simp[h,Ty.kind]
theorem has_allL:∀l:List Ty,hasL l=(allL l).any (fun x=>decide (x.kind=1))
 |[]=>by rw[hasL,allL];rfl
 |t::l=>by
  have h1:=has_all t
  have h2:=has_allL l
  rw[hasL,allL,List.any_append,h1,h2]
end
theorem vars_none(t:Ty):(varsT t).length=0↔hasV t=false:=by
 rw[has_all]
 unfold varsT
 have key:∀(l:List Ty),(l.foldl stepV []).length=0↔l.any (fun x=>decide (x.kind=1))=false:=by
  intro l
  induction l with
  |nil=>simp
  |cons t l ih=>
   rw[List.foldl_cons,List.any_cons]
   by_cases h:t.kind=1
   ·have e:stepV [] t=[t.name]:=by unfold stepV;simp[h,mem]
    rw[e]
    have:1≤(l.foldl stepV [t.name]).length:=foldV_ge l [t.name]
    simp[h];intro e;rw[e]at this;simp at this
   ·have e:stepV [] t=[]:=by unfold stepV;simp[h]
    rw[e,ih];simp[h]
 exact key _
theorem wrong_ok(a b:PV):ev (q119 a b)=some (0,[a,b]):=Evl.of (by rw[h119,g119];rfl)
theorem need_t(a b:PV):ev (q81g0 a b)=some (0,[]):=Evl.of (by rw[h81g0,g81g0];rfl)
theorem need_f(a b:PV):ev (q81g1 a b)=some (0,[a,b]):=Evl.of (by rw[h81g1,g81g1];simp[wrong_ok])
abbrev Flt:=Int×Int
theorem mem_map{α:Type}(f:α→ByteArray)(l:List α)(s:ByteArray):mem (l.map f) s=l.any (fun x=>decide (f x=s)):=by
 unfold mem isS
 rw[List.any_map];rfl
def bindE(c:Cl)(l:List Bd)(i:Nat)(b:Bd):Option Flt:=
 if mem (c.methods.map Md.name) b.name=true then(if mem ((l.take i).map Bd.name) b.name=true then some (120,b.at_) else if b.e.kind=6 then none else some (130,b.at_)) else some (121,b.at_)
def bindsF(c:Cl)(l:List Bd):Option Flt:=fe (bindE c l) l 0
theorem binds_r(c:Cl)(l:List Bd)(hc:c.methods.length≤1000000000)(hl:l.length≤1000000000) :
  ev (q83 (bds l) (sv c.name) (sv c.var) (strs c.supers) (mds c.methods) (bds c.defaults) (iv c.at_))=some (0,match bindsF c l with|some (e,a)=>[iv e,iv a]|none=>[iv 0,iv 0]):=by
 have hm:l.length≤maxN:=by unfold maxN;omega
 have h:=ev_first l (bindE c l) (fun i=>q83b0a (iv i) (bds l) (sv c.name) (sv c.var) (strs c.supers) (mds c.methods) (bds c.defaults) (iv c.at_) (iv 0) (iv 0))
  (1,[sv c.name,sv c.var,strs c.supers,mds c.methods,bds c.defaults,iv c.at_,iv 0,iv 0]) (fun x=>(0,[sv c.name,sv c.var,strs c.supers,mds c.methods,bds c.defaults,iv c.at_,iv x.1,iv x.2]))
  (fun i b hb hi _=>by
   rw[h83b0a,g83b0a]
   have h1:=has_strs (c.methods.map Md.name) (by rw[List.length_map];unfold maxN;omega) b.name
   have h2:=has_strs ((l.take i).map Bd.name) (by rw[List.length_map,List.length_take];omega) b.name
   have h3:=bound_r (l.take i) (by rw[List.length_take];omega)
   unfold bindE
   cases e1:mem (c.methods.map Md.name) b.name with
   |false=>rw[e1]at h1;simp[-List.map_take,idxK_bds hb,hi,wL hi hm,names_r c hc,h1]
   |true=>
    rw[e1]at h1
    cases e2:mem ((l.take i).map Bd.name) b.name with
    |true=>rw[e2]at h2;simp[-List.map_take,idxK_bds hb,hi,wL hi hm,names_r c hc,h1,slcK_bds (Nat.le_of_lt hi),h3,h2]
    |false=>
     rw[e2]at h2
     by_cases h6:b.e.kind=6<;>simp[-List.map_take,idxK_bds hb,hi,wL hi hm,names_r c hc,h1,slcK_bds (Nat.le_of_lt hi),h3,h2,h6])
  (fun _=>by rw[h83b0a,g83b0a];simp)
 simp at h
 refine Evl.of ?_
 rw[h83,g83]
 unfold bindsF
 simp[h]
 cases fe (bindE c l) l 0<;>simp
theorem binds_p(c:Cl)(l:List Bd)(hc:c.methods.length≤maxN)(hl:l.length≤maxN)(x7 x8 x9 x10:PV) :
  ev (q108a (bds l) (sv c.name) (sv c.var) (strs c.supers) (mds c.methods) (bds c.defaults) (iv c.at_) x7 x8 x9 x10)=some (match bindsF c l with|some (e,a)=>(1,[x7,x8,x9,x10,iv e,iv a])|none=>(0,[x7,x8,x9,x10])):=by
 have h:=ev_first l (bindE c l) (fun i=>q108ab0a (iv i) (iv l.length) (bds l) (bds l) (sv c.name) (sv c.var) (strs c.supers) (mds c.methods) (bds c.defaults) (iv c.at_))
  (1,[sv c.name,sv c.var,strs c.supers,mds c.methods,bds c.defaults,iv c.at_]) (fun x=>(0,[sv c.name,sv c.var,strs c.supers,mds c.methods,bds c.defaults,iv c.at_,iv x.1,iv x.2]))
  (fun i b hb hi _=>by
   rw[h108ab0a,g108ab0a]
   have h1:=find_md2 c.methods hc b
   have h2:=find_bd2 (l.take i) (by rw[List.length_take];omega) b
   rw[fi_any]at h1 h2
   have e1':=mem_map Md.name c.methods b.name
   have e2':=mem_map Bd.name (l.take i) b.name
   unfold bindE
   cases e1:mem (c.methods.map Md.name) b.name with
   |false=>
    rw[show c.methods.any (isMd b.name)=false by rw[←e1,e1'];rfl]at h1
    simp[-List.map_take,idxK_bds hb,hi,wL hi hl,h1,need_f]
   |true=>
    rw[show c.methods.any (isMd b.name)=true by rw[←e1,e1'];rfl]at h1
    cases e2:mem ((l.take i).map Bd.name) b.name with
    |true=>
     rw[show (l.take i).any (isBd b.name)=true by rw[←e2,e2'];rfl]at h2
     simp[-List.map_take,idxK_bds hb,hi,wL hi hl,h1,slcK_bds (Nat.le_of_lt hi),h2,need_t,need_f]
    |false=>
     rw[show (l.take i).any (isBd b.name)=false by rw[←e2,e2'];rfl]at h2
     simp[-List.map_take,idxK_bds hb,hi,wL hi hl,h1,slcK_bds (Nat.le_of_lt hi),h2,need_t,need_f]
     by_cases h6:b.e.kind=6<;>simp[h6])
  (fun _=>by rw[h108ab0a,g108ab0a];simp)
 simp at h
 refine Evl.of ?_
 rw[h108a,g108a]
 unfold bindsF
 simp[h]
 cases fe (bindE c l) l 0<;>simp
def headE(ks:List Ty)(i:Nat)(k:Ty):Option Int:=if k.kind=1 then(if k.kids.length=0 then(if mem ((ks.take i).map Ty.name) k.name=true then some 127 else none) else some 127) else some 127
def headF(v:Ev)(x:It):Option Int:=if x.head.kind=3 then(if x.head.name=sArrow then some 127 else if arity v x.head.name<0 then some 127 else if arity v x.head.name=(x.head.kids.length:Int) then fe (headE x.head.kids) x.head.kids 0 else some 122) else some 127
theorem head_r(v:Ev)(hd:v.kj.length≤maxN)(x:It)(hx:x.head.kids.length≤1000000000) :
  ev (q84 (dts v.kj) (cls v.kc) (its v.ki) (sv x.cls) (iv x.head.kind) (sv x.head.name) (iv x.head.n) (tys x.head.kids) (pds x.ctx) (bds x.binds) (iv x.at_))=some (0,[iv (match headF v x with|some e=>e|none=>0)]):=by
 have hm:x.head.kids.length≤maxN:=by unfold maxN;omega
 have h:=ev_first x.head.kids (headE x.head.kids) (fun i=>q84b0a (iv i) (strs (x.head.kids.map Ty.name)) (sv x.cls) (iv x.head.kind) (sv x.head.name) (iv x.head.n) (tys x.head.kids) (pds x.ctx) (bds x.binds) (iv x.at_))
  (1,[sv x.cls,iv x.head.kind,sv x.head.name,iv x.head.n,tys x.head.kids,pds x.ctx,bds x.binds,iv x.at_]) (fun e=>(0,[sv x.cls,iv x.head.kind,sv x.head.name,iv x.head.n,tys x.head.kids,pds x.ctx,bds x.binds,iv x.at_,iv e]))
  (fun i k hk hi _=>by
   rw[h84b0a,g84b0a]
   have h2:=has_strs ((x.head.kids.take i).map Ty.name) (by rw[List.length_map,List.length_take];omega) k.name
   have hk':(x.head.kids.map Ty.name)[i]?=some k.name:=by rw[List.getElem?_map,hk];rfl
   have hs:(x.head.kids.map Ty.name).take i=(x.head.kids.take i).map Ty.name:=by rw[List.map_take]
   have hi':i≤(x.head.kids.map Ty.name).length:=by rw[List.length_map];omega
   unfold headE
   by_cases k1:k.kind=1
   ·by_cases k2:k.kids.length=0
    ·cases e2:mem ((x.head.kids.take i).map Ty.name) k.name<;>rw[e2]at h2<;>simp[-List.map_take,idxK_tys hk,idxK_strs hk',hi,wL hi hm,k1,k2,slcK_strs hi',hs,h2]
    ·have:0<k.kids.length:=by omega
     simp[idxK_tys hk,hi,wL hi hm,k1,k2,this]
   ·simp[idxK_tys hk,hi,wL hi hm,k1])
  (fun _=>by rw[h84b0a,g84b0a];simp)
 simp at h
 refine Evl.of ?_
 rw[h84,g84]
 unfold headF
 by_cases k3:x.head.kind=3
 ·by_cases ka:x.head.name=sArrow
  ·simp[k3,ka]
  ·by_cases k4:arity v x.head.name<0
   ·simp[k3,ka,arity_r v hd,k4]
   ·by_cases k5:arity v x.head.name=(x.head.kids.length:Int)
    ·have k6:¬((x.head.kids.length:Int)<0):=by omega
     rw[k3]at h
     have hv:=vars_r x hx
     rw[k3]at hv
     simp[k3,ka,arity_r v hd,k5,k6,hv,h]
     cases fe (headE x.head.kids) x.head.kids 0<;>simp
    ·simp[k3,ka,arity_r v hd,k4,k5]
 ·simp[k3]
theorem head_p(v:Ev)(hd:v.kj.length≤maxN)(x:It)(hx:x.head.kids.length≤maxN)(m:PV) :
  ev (q109a (sv x.cls) (iv x.head.kind) (sv x.head.name) (iv x.head.n) (tys x.head.kids) (pds x.ctx) (bds x.binds) (iv x.at_) (dts v.kj) (cls v.kc) (its v.ki) m)=some (match headF v x with|some e=>(1,[dts v.kj,cls v.kc,its v.ki,m,iv e,iv x.at_])|none=>(0,[dts v.kj,cls v.kc,its v.ki,m])):=by
 have h:=ev_first x.head.kids (headE x.head.kids) (fun i=>q109ab0a (iv i) (iv x.head.kids.length) (tys x.head.kids) (sv x.cls) (iv x.head.kind) (sv x.head.name) (iv x.head.n) (tys x.head.kids) (pds x.ctx) (bds x.binds) (iv x.at_))
  (1,[sv x.cls,iv x.head.kind,sv x.head.name,iv x.head.n,tys x.head.kids,pds x.ctx,bds x.binds,iv x.at_]) (fun e=>(0,[sv x.cls,iv x.head.kind,sv x.head.name,iv x.head.n,tys x.head.kids,pds x.ctx,bds x.binds,iv x.at_,iv e,iv x.at_]))
  (fun i k hk hi _=>by
   rw[h109ab0a,g109ab0a]
   have h2:=find_ty3 (x.head.kids.take i) (by rw[List.length_take];omega) k
   rw[fi_any]at h2
   have e2':=mem_map Ty.name (x.head.kids.take i) k.name
   unfold headE
   cases e2:mem ((x.head.kids.take i).map Ty.name) k.name with
   |true=>
    rw[show (x.head.kids.take i).any (isTn k.name)=true by rw[←e2,e2'];rfl]at h2
    simp[idxK_tys hk,hi,wL hi hx,slcK_tys (Nat.le_of_lt hi),h2,need_t,need_f]
   |false=>
    rw[show (x.head.kids.take i).any (isTn k.name)=false by rw[←e2,e2'];rfl]at h2
    simp[idxK_tys hk,hi,wL hi hx,slcK_tys (Nat.le_of_lt hi),h2,need_t,need_f]
    by_cases k1:k.kind=1
    ·by_cases k2:k.kids=[]<;>simp[k1,k2]
    ·simp[k1])
  (fun _=>by rw[h109ab0a,g109ab0a];simp)
 simp at h
 refine Evl.of ?_
 rw[h109a,g109a]
 unfold headF
 by_cases k4:arity v x.head.name<0
 ·have k4':¬0≤arity v x.head.name:=by omega
  by_cases k3:x.head.kind=3<;>by_cases ka:x.head.name=sArrow<;>simp[k3,ka,arity_p v hd,k4,k4',need_f]
 ·have k4':0≤arity v x.head.name:=by omega
  have hmx:max (arity v x.head.name) 0=arity v x.head.name:=by omega
  by_cases k3:x.head.kind=3
  ·rw[k3]at h
   by_cases ka:x.head.name=sArrow
   ·have ka1:arity v sArrow=2:=by unfold arity baseI;simp
    simp[k3,ka,arity_p v hd,ka1,need_t,need_f]
   ·by_cases k5:arity v x.head.name=(x.head.kids.length:Int)
    ·have k6:¬((x.head.kids.length:Int)<0):=by omega
     simp[k3,ka,arity_p v hd,k4,k4',hmx,k5,k6,need_t,need_f,h]
     cases fe (headE x.head.kids) x.head.kids 0<;>simp
    ·simp[k3,ka,arity_p v hd,k4,k4',hmx,k5,need_t,need_f]
  ·simp[k3,arity_p v hd,k4,k4',need_f]
theorem names_raw(c:Cl)(hl:c.methods.length≤1000000000):ev (q86 (sv c.name) (sv c.var) (strs c.supers) (mds c.methods) (bds c.defaults) (iv c.at_))=some (if c.methods.length=0 then(0,[nilS]) else(1,[.rows (srow (c.methods.map Md.name))])):=by
 have hm:c.methods.length≤maxN:=by unfold maxN;omega
 have h:=ev_map c.methods (by omega) Md.name (fun i=>q86b0a (iv i) (sv c.name) (sv c.var) (strs c.supers) (mds c.methods) (bds c.defaults) (iv c.at_)) (fun i m=>q86b0b (iv i) (srow m) (sv c.name) (sv c.var) (strs c.supers) (mds c.methods) (bds c.defaults) (iv c.at_))
  (0,[sv c.name,sv c.var,strs c.supers,mds c.methods,bds c.defaults,iv c.at_,nilS]) (fun m=>(1,[sv c.name,sv c.var,strs c.supers,mds c.methods,bds c.defaults,iv c.at_,.rows (srow m)]))
  (fun i a _ ha hi=>by rw[h86b0a,g86b0a];simp[idxK_mds ha,hi,wL hi hm,srow_one])
  (fun i a m ha hi hm2=>by rw[h86b0b,g86b0b];simp[idxK_mds ha,hi,wL hi hm,appK_s m a.name hm2])
  (fun e=>by rw[h86b0a,g86b0a];simp[e])
  (fun m=>by rw[h86b0b,g86b0b];simp)
 simp at h
 refine Evl.of ?_
 rw[h86,g86]
 by_cases h0:c.methods=[]
 ·simp[h0]at h;simp[h0,h]
 ·simp[h0]at h;simp[h0,h]
theorem varsx_raw(x:It)(hl:x.head.kids.length≤1000000000):ev (q121 (sv x.cls) (iv x.head.kind) (sv x.head.name) (iv x.head.n) (tys x.head.kids) (pds x.ctx) (bds x.binds) (iv x.at_))=some (if x.head.kids.length=0 then(0,[nilS]) else(1,[.rows (srow (x.head.kids.map Ty.name))])):=by
 have hm:x.head.kids.length≤maxN:=by unfold maxN;omega
 have h:=ev_map x.head.kids (by omega) Ty.name (fun i=>q121b0a (iv i) (sv x.cls) (iv x.head.kind) (sv x.head.name) (iv x.head.n) (tys x.head.kids) (pds x.ctx) (bds x.binds) (iv x.at_)) (fun i m=>q121b0b (iv i) (srow m) (sv x.cls) (iv x.head.kind) (sv x.head.name) (iv x.head.n) (tys x.head.kids) (pds x.ctx) (bds x.binds) (iv x.at_))
  (0,[sv x.cls,iv x.head.kind,sv x.head.name,iv x.head.n,tys x.head.kids,pds x.ctx,bds x.binds,iv x.at_,nilS]) (fun m=>(1,[sv x.cls,iv x.head.kind,sv x.head.name,iv x.head.n,tys x.head.kids,pds x.ctx,bds x.binds,iv x.at_,.rows (srow m)]))
  (fun i a _ ha hi=>by rw[h121b0a,g121b0a];simp[idxK_tys ha,hi,wL hi hm,srow_one])
  (fun i a m ha hi hm2=>by rw[h121b0b,g121b0b];simp[idxK_tys ha,hi,wL hi hm,appK_s m a.name hm2])
  (fun e=>by rw[h121b0a,g121b0a];simp[e])
  (fun m=>by rw[h121b0b,g121b0b];simp)
 simp at h
 refine Evl.of ?_
 rw[h121,g121]
 by_cases h0:x.head.kids=[]
 ·simp[h0]at h;simp[h0,h]
 ·simp[h0]at h;simp[h0,h]
def ctxE(v:Ev)(x:It)(i:Nat)(p:Pd):Option Int:=
 if fi (isCl p.cls) v.kc<0 then some 121 else if p.t.kind=1 then(if mem (x.head.kids.map Ty.name) p.t.name=true then(if(x.ctx.take i).any (isPd p.cls p.t.name)=true then some 120 else none) else some 123) else some 123
def ctxF(v:Ev)(x:It):Option Int:=fe (ctxE v x) x.ctx 0
theorem ctx_in(v:Ev)(x:It)(hx:x.ctx.length≤maxN)(p:Pd)(i:Nat)(hi:i≤x.ctx.length) :
  ev (q85b2a (iv 0) (iv i) (sv x.cls) (iv x.head.kind) (sv x.head.name) (iv x.head.n) (tys x.head.kids) (pds x.ctx) (bds x.binds) (iv x.at_) (sv p.cls) (iv p.t.kind) (sv p.t.name) (iv p.t.n) (tys p.t.kids) (dts v.kj) (cls v.kc) (its v.ki)) =
   some (if(x.ctx.take i).any (isPd p.cls p.t.name)=true then(0,[sv x.cls,iv x.head.kind,sv x.head.name,iv x.head.n,tys x.head.kids,pds x.ctx,bds x.binds,iv x.at_,sv p.cls,iv p.t.kind,sv p.t.name,iv p.t.n,tys p.t.kids,dts v.kj,cls v.kc,its v.ki,iv 120]) else(1,[sv x.cls,iv x.head.kind,sv x.head.name,iv x.head.n,tys x.head.kids,pds x.ctx,bds x.binds,iv x.at_,sv p.cls,iv p.t.kind,sv p.t.name,iv p.t.n,tys p.t.kids,dts v.kj,cls v.kc,its v.ki,iv i])):=by
 have hlen:(x.ctx.take i).length=i:=by rw[List.length_take];omega
 have h:=ev_find (x.ctx.take i) (isPd p.cls p.t.name) (fun k=>q85b2a (iv k) (iv i) (sv x.cls) (iv x.head.kind) (sv x.head.name) (iv x.head.n) (tys x.head.kids) (pds x.ctx) (bds x.binds) (iv x.at_) (sv p.cls) (iv p.t.kind) (sv p.t.name) (iv p.t.n) (tys p.t.kids) (dts v.kj) (cls v.kc) (its v.ki))
  (1,[sv x.cls,iv x.head.kind,sv x.head.name,iv x.head.n,tys x.head.kids,pds x.ctx,bds x.binds,iv x.at_,sv p.cls,iv p.t.kind,sv p.t.name,iv p.t.n,tys p.t.kids,dts v.kj,cls v.kc,its v.ki,iv i])
  (fun _=>(0,[sv x.cls,iv x.head.kind,sv x.head.name,iv x.head.n,tys x.head.kids,pds x.ctx,bds x.binds,iv x.at_,sv p.cls,iv p.t.kind,sv p.t.name,iv p.t.n,tys p.t.kids,dts v.kj,cls v.kc,its v.ki,iv 120]))
  (fun k a ha hk=>by
   rw[hlen]at hk
   have ha':x.ctx[k]?=some a:=by rw[List.getElem?_take,if_pos hk]at ha;exact ha
   rw[h85b2a,g85b2a]
   simp[idxK_pds ha',hk,wL (Nat.lt_of_lt_of_le hk hi) hx]
   unfold isPd
   by_cases h1:a.cls=p.cls<;>by_cases h2:a.t.name=p.t.name<;>simp[h1,h2])
  (by rw[hlen,h85b2a,g85b2a];simp)
 rw[←fnd_isSome _ _ 0]
 simp at h
 rw[h]
 cases fnd (isPd p.cls p.t.name) (x.ctx.take i) 0<;>simp
theorem ctx_r(v:Ev)(hd:v.kc.length≤maxN)(x:It)(hx:x.ctx.length≤maxN)(hk:x.head.kids.length≤1000000000) :
  ev (q85 (dts v.kj) (cls v.kc) (its v.ki) (sv x.cls) (iv x.head.kind) (sv x.head.name) (iv x.head.n) (tys x.head.kids) (pds x.ctx) (bds x.binds) (iv x.at_))=some (0,[iv (match ctxF v x with|some e=>e|none=>0)]):=by
 have h:=ev_first x.ctx (ctxE v x) (fun i=>q85b0a (iv i) (sv x.cls) (iv x.head.kind) (sv x.head.name) (iv x.head.n) (tys x.head.kids) (pds x.ctx) (bds x.binds) (iv x.at_) (dts v.kj) (cls v.kc) (its v.ki))
  (1,[sv x.cls,iv x.head.kind,sv x.head.name,iv x.head.n,tys x.head.kids,pds x.ctx,bds x.binds,iv x.at_,dts v.kj,cls v.kc,its v.ki]) (fun e=>(0,[sv x.cls,iv x.head.kind,sv x.head.name,iv x.head.n,tys x.head.kids,pds x.ctx,bds x.binds,iv x.at_,dts v.kj,cls v.kc,its v.ki,iv e]))
  (fun i p hp hi _=>by
   rw[h85b0a,g85b0a]
   have hin:=ctx_in v x hx p i (Nat.le_of_lt hi)
   have hvr:=varsx_raw x hk
   have hh:=has_strs (x.head.kids.map Ty.name) (by rw[List.length_map];unfold maxN;omega) p.t.name
   have hh2:=has_srow (x.head.kids.map Ty.name) (by rw[List.length_map];unfold maxN;omega) p.t.name
   have hcl:=class_r v hd p.cls
   unfold ctxE
   by_cases h1:fi (isCl p.cls) v.kc<0
   ·simp[idxK_pds hp,hi,hcl,h1]
   ·by_cases h2:p.t.kind=1
    ·rw[h2]at hin
     by_cases h3:x.head.kids.length=0
     ·rw[if_pos h3]at hvr
      have h4:x.head.kids=[]:=List.length_eq_zero_iff.1 h3
      have hh3:=has_srow [] (by unfold maxN;simp) p.t.name
      have hm:mem [] p.t.name=false:=rfl
      rw[hm,srow_nil]at hh3
      simp[idxK_pds hp,hi,hcl,h1,h2,hvr,hh3]
      simp[h4,hm]
     ·rw[if_neg h3]at hvr
      cases hm:mem (x.head.kids.map Ty.name) p.t.name with
      |false=>rw[hm]at hh2;simp[idxK_pds hp,hi,hcl,h1,h2,hvr,hh2]
      |true=>
       rw[hm]at hh2
       cases ha:(x.ctx.take i).any (isPd p.cls p.t.name) with
       |true=>rw[ha]at hin;simp only[if_true]at hin;simp[idxK_pds hp,hi,hcl,h1,h2,hvr,hh2,hin]
       |false=>rw[ha]at hin;simp only[Bool.false_eq_true,if_false]at hin;simp[idxK_pds hp,hi,hcl,h1,h2,hvr,hh2,hin,wL hi hx]
    ·simp[idxK_pds hp,hi,hcl,h1,h2])
  (fun _=>by rw[h85b0a,g85b0a];simp)
 simp at h
 refine Evl.of ?_
 rw[h85,g85]
 unfold ctxF
 simp[h]
 cases fe (ctxE v x) x.ctx 0<;>simp
structure Big(v:Ev)(U:List ByteArray)(n:Nat):Prop where
 s:SupOk v U
 c:cnt U []<n+1
 m:cnt U []≤100000000000
def abv(v:Ev)(n:Nat)(c:ByteArray):List ByteArray:=upN v (n+1) [] c
theorem Big.len{v:Ev}{U:List ByteArray}{n:Nat}(h:Big v U n)(c:ByteArray):(abv v n c).length≤maxN:=by
 have:=upN_len h.s (n+1) [] c
 have:=h.m
 unfold abv maxN;simp at *;omega
def givenE(v:Ev)(n:Nat)(c s:ByteArray)(p:Pd):Bool:=decide (p.t.name=s)&&(decide (p.cls=c)||mem (abv v n p.cls) c)
def givenB(v:Ev)(n:Nat)(x:It)(c s:ByteArray):Bool:=x.ctx.any (givenE v n c s)
section
variable{v:Ev}{U:List ByteArray}{n:Nat}(h:Big v U n)
include h
theorem given_r(x:It)(hx:x.ctx.length≤maxN)(c s:ByteArray) :
  ev (q87 (dts v.kj) (cls v.kc) (its v.ki) (sv x.cls) (iv x.head.kind) (sv x.head.name) (iv x.head.n) (tys x.head.kids) (pds x.ctx) (bds x.binds) (iv x.at_) (sv c) (sv s))=some (0,[bv (givenB v n x c s)]):=by
 have hl:=ev_find x.ctx (givenE v n c s) (fun i=>q87b0a (iv i) (sv s) (sv c) (sv x.cls) (iv x.head.kind) (sv x.head.name) (iv x.head.n) (tys x.head.kids) (pds x.ctx) (bds x.binds) (iv x.at_) (dts v.kj) (cls v.kc) (its v.ki))
  (1,[sv x.cls,iv x.head.kind,sv x.head.name,iv x.head.n,tys x.head.kids,pds x.ctx,bds x.binds,iv x.at_,dts v.kj,cls v.kc,its v.ki]) (fun _=>(0,[sv x.cls,iv x.head.kind,sv x.head.name,iv x.head.n,tys x.head.kids,pds x.ctx,bds x.binds,iv x.at_,dts v.kj,cls v.kc,its v.ki,bv true]))
  (fun i p hp hi=>by
   rw[h87b0a,g87b0a]
   have ha:=above_r h.s n p.cls h.c h.m
   have hb:=has_strs (abv v n p.cls) (h.len _) c
   unfold givenE
   by_cases h1:p.t.name=s
   ·by_cases h2:p.cls=c
    ·simp[idxK_pds hp,hi,h1,h2]
    ·unfold abv at hb ⊢
     cases hm:mem (upN v (n+1) [] p.cls) c<;>rw[hm]at hb<;>simp[idxK_pds hp,hi,h1,h2,ha,hb,wL hi hx]
   ·simp[idxK_pds hp,hi,h1,wL hi hx])
  (by rw[h87b0a,g87b0a];simp)
 simp at hl
 refine Evl.of ?_
 rw[h87,g87]
 simp[hl]
 unfold givenB
 rw[←fnd_isSome _ _ 0]
 cases fnd (givenE v n c s) x.ctx 0<;>simp
theorem given_clo(p:Pd)(c s:ByteArray)(m:PV) :
  ev (q146a (sv p.cls) (iv p.t.kind) (sv p.t.name) (iv p.t.n) (tys p.t.kids) (sv s) (sv c) (dts v.kj) (cls v.kc) (its v.ki) m)=some (0,[sv s,sv c,dts v.kj,cls v.kc,its v.ki,m,bv (givenE v n c s p)]):=by
 refine Evl.of ?_
 rw[h146a,g146a]
 have ha:=above_p h.s n p.cls h.c h.m
 have hb:=contains_strs (abv v n p.cls) (h.len _) c
 unfold givenE
 by_cases h1:p.t.name=s
 ·by_cases h2:p.cls=c
  ·simp[h1,h2]
  ·unfold abv at hb ⊢
   cases hm:mem (upN v (n+1) [] p.cls) c<;>rw[hm]at hb<;>simp[h1,h2,ha,hb]
 ·simp[h1]
theorem given_p(x:It)(hx:x.ctx.length≤maxN)(c s:ByteArray)(m:PV) :
  ev (q117a (sv x.cls) (iv x.head.kind) (sv x.head.name) (iv x.head.n) (tys x.head.kids) (pds x.ctx) (bds x.binds) (iv x.at_) (sv c) (sv s) (dts v.kj) (cls v.kc) (its v.ki) m)=some (0,[dts v.kj,cls v.kc,its v.ki,m,bv (givenB v n x c s)]):=by
 have hl:=ev_find x.ctx (givenE v n c s) (fun i=>q144bb0a (iv i) (iv x.ctx.length) (pds x.ctx) (sv s) (sv c) (dts v.kj) (cls v.kc) (its v.ki) m)
  (1,[sv s,sv c,dts v.kj,cls v.kc,its v.ki,m]) (fun i=>(0,[sv s,sv c,dts v.kj,cls v.kc,its v.ki,m,iv i]))
  (fun i p hp hi=>by
   rw[h144bb0a,g144bb0a]
   simp[idxK_pds hp,hi,given_clo h p c s m,wL hi hx])
  (by rw[h144bb0a,g144bb0a];simp)
 simp at hl
 have h2:ev (q144b (pds x.ctx) (sv s) (sv c) (dts v.kj) (cls v.kc) (its v.ki) m)=some (0,[sv s,sv c,dts v.kj,cls v.kc,its v.ki,m,iv (fi (givenE v n c s) x.ctx)]):=
  Evl.of (by rw[h144b,g144b];simp[hl];cases hh:fnd (givenE v n c s) x.ctx 0<;>simp[fi,hh])
 have h3:ev (q145a (pds x.ctx) (sv s) (sv c) (dts v.kj) (cls v.kc) (its v.ki) m)=some (0,[sv s,sv c,dts v.kj,cls v.kc,its v.ki,m,bv (givenB v n x c s)]):=
  Evl.of (by rw[h145a,g145a];simp[h2];unfold givenB;rw[←fi_any];cases decide (0≤fi (givenE v n c s) x.ctx)<;>rfl)
 refine Evl.of ?_
 rw[h117a,g117a]
 simp[h3]
 cases givenB v n x c s<;>simp
end
theorem fnd_shift{α:Type}(f:α→Bool):∀(l:List α) (i:Nat),fnd f l (i+1)=(fnd f l i).map (· + 1)
 |[],i=>rfl
 |a::l,i=>by
  rw[fnd,fnd]
  cases f a with
  |true=>simp
  |false=>simp;exact fnd_shift f l (i+1)
theorem look_iff{P:Program}{t kt et:TypeId}{d:TypeDesc}{es:List (List PV)}{k w0:AV}{key:Value}{ok:Bool}(h1:P.underlying t=some (.map kt et))(h2:P.underlying kt=some d)(hn:nsPss es=true)(hk:k.val? = some key)
  (hl:lookA P kt et d key (es.map keyV) (es.map valA) ok=some w0) (w:AV):LookOk P t (.rows es) k w ok↔w=w0:=by
 constructor
 ·rintro⟨kt',et',d',es',key',g1,g2,g3,_,g5,g6⟩
  rw[h1]at g1
  cases g1
  rw[h2]at g2
  cases g2
  cases g3
  rw[hk]at g5
  cases g5
  rw[hl]at g6
  exact(Option.some.inj g6).symm
 ·rintro rfl
  exact⟨kt,et,d,es,key,h1,h2,rfl,hn,hk,hl⟩
theorem nsPss_iff:∀{es:List (List PV)},nsPss es=true↔∀c∈es,nsPs c=true
 |[]=>by simp[nsPss]
 |c::es=>by rw[nsPss,bAt,nsPss_iff];simp
theorem upd_iff{P:Program}{t kt et:TypeId}{d:TypeDesc}{es es':List (List PV)}{k v:AV}{key:Value}(h1:P.underlying t=some (.map kt et))(h2:P.underlying kt=some d)(hn:nsPss es=true)(hk:k.val? = some key)(hf:keyFit P kt d key=true)
  (hu:updA P kt d key (es.map keyV) (es.map valA) v=some (es'.map keyV,es'.map valA)) (hn':nsPss es'=true):UpdOk P t (.rows es) k v (.rows es'):=
 ⟨kt,et,d,es,key,es',h1,h2,rfl,hn,hk,hf,hu,rfl,hn'⟩
def mtS(l:List ByteArray):PV:=.rows (l.map fun s=>[sv s,bv true])
theorem u_mtS:Tryz.prog.underlying 161=some (.map 9 4):=by kernel_rfl
theorem u_str:Tryz.prog.underlying 9=some .string:=by kernel_rfl
theorem zero_bool:zeroV Tryz.prog 4=some (.pv (bv false)):=by kernel_rfl
theorem beq_dec(a b:ByteArray):(a==b)=decide (a=b):=by
 obtain⟨x⟩:=a
 obtain⟨y⟩:=b
 show (x==y)=_
 by_cases h:x=y<;>simp[h]
theorem findK_s(s:ByteArray):∀l:List ByteArray,findK .string (.string s) (l.map fun x=>.string x)=some (fnd (isS s) l 0)
 |[]=>rfl
 |a::l=>by
  rw[List.map_cons,findK]
  have e:Instr.sameNow .string (.string s) (.string a)=some (decide (a=s)):=by
   show some (s==a)=_
   rw[beq_dec]
   by_cases h:a=s
   ·simp[h]
   ·have:¬s=a:=fun e=>h e.symm
    simp[h,this]
  rw[e,findK_s s l,fnd]
  unfold isS
  cases decide (a=s) with
  |true=>rfl
  |false=>
   simp only[Bool.false_eq_true,if_false,Nat.zero_add]
   rw[fnd_shift (fun x=>decide (x=s)) l 0]
   cases fnd (fun x=>decide (x=s)) l 0<;>rfl
theorem mtS_keys(l:List ByteArray):(l.map fun s=>[sv s,bv true]).map keyV=l.map fun s=>.string s:=by rw[List.map_map];rfl
theorem mtS_vals(l:List ByteArray):(l.map fun s=>[sv s,bv true]).map valA=l.map fun _=>.pv (bv true):=by rw[List.map_map];rfl
theorem mtS_ns(l:List ByteArray):nsPss (l.map fun s=>[sv s,bv true])=true:=by
 rw[nsPss_iff]
 intro c hc
 obtain⟨s,_,rfl⟩:=List.mem_map.1 hc
 rfl
@[simp] theorem ns_mtS(l:List ByteArray):NS (mtS l):=ns_rows fun x _ p hp=>by
 simp only[List.mem_cons,List.not_mem_nil,or_false]at hp
 rcases hp with rfl|rfl<;>exact .lit _
section
variable{β:Type}{d:β}
theorem lookK_S{k:AV→β}(l:List ByteArray)(s:ByteArray):lookK Tryz.prog d 161 (mtS l) (.pv (.lit (.string s))) false k=k (.pv (bv (mem l s))):=by
 refine lookK_of (fun w=>look_iff u_mtS u_str (mtS_ns l) (key:=.string s) rfl ?_ w) (nsa_lit _)
 rw[mtS_keys,mtS_vals]
 unfold lookA keyFit findKP
 simp only[keyOk,findK_s,if_true]
 unfold mem
 rw[←fnd_isSome _ _ 0]
 cases hf:fnd (isS s) l 0 with
 |none=>simp[zero_bool]
 |some j=>
  obtain⟨_,a,h1,_⟩:=fnd_some hf
  simp at h1
  have hj:=lt_of_get h1
  simp[hj]
theorem updK_S{k:PV→β}(l:List ByteArray)(s:ByteArray)(hm:mem l s=false):updK Tryz.prog d 161 (mtS l) (.pv (.lit (.string s))) (.pv (bv true)) k=k (mtS (l++[s])):=by
 refine updK_of (w0:=mtS (l++[s])) (by simp[mtS,apd,keyP,pvOf]) (upd_iff u_mtS u_str (mtS_ns l) (key:=.string s) rfl rfl ?_ (mtS_ns _)) (ns_mtS _)
 rw[mtS_keys,mtS_vals,mtS_keys,mtS_vals]
 unfold updA findKP
 simp only[findK_s]
 have:fnd (isS s) l 0=none:=by
  unfold mem at hm
  rw[←fnd_isSome _ _ 0]at hm
  cases hf:fnd (isS s) l 0 with
  |none=>rfl
  |some _=>rw[hf]at hm;simp at hm
 rw[this]
 simp
end
abbrev Ke:=ByteArray×ByteArray×Int
def isK2(c s:ByteArray):Ke→Bool:=fun e=>decide (e.1=c∧e.2.1=s)
def mtI(l:List Ke):PV:=.rows (l.map fun e=>[.rows [[sv e.1,sv e.2.1]],iv e.2.2])
noncomputable def kf:Array Field:=Tryz.prog.fieldsOf 165
noncomputable def kf1:Field:=kf.getD 0 default
noncomputable def kf2:Field:=kf.getD 1 default
theorem u_mtI:Tryz.prog.underlying 95=some (.map 165 3):=by kernel_rfl
theorem u_key:Tryz.prog.underlying 165=some (.struct #[kf1,kf2]):=by kernel_rfl
theorem zero_int:zeroV Tryz.prog 3=some (.pv (iv 0)):=by kernel_rfl
theorem key_fit(d:TypeDesc)(c s:ByteArray):keyFit Tryz.prog 165 (.struct #[kf1,kf2]) (.agg #[.string c,.string s])=true:=by kernel_rfl
theorem kn1 : kf1.name ≠ "_" := of_decide_eq_false (by kernel_rfl)
theorem kn2 : kf2.name ≠ "_" := of_decide_eq_false (by kernel_rfl)
theorem key_eq(a b a' b':ByteArray):pureRun Tryz.prog (Op.equal 165 (.agg #[.string a,.string b]) (.agg #[.string a',.string b']))=some ((a==a')&&(b==b')):=
 pureRun_eq2 (P:=Tryz.prog) (t:=165) (t1:=0) (t2:=0) (f1:=kf1) (f2:=kf2) 9998 u_key (by kernel_rfl) kn1 kn2 (by kernel_rfl) (by kernel_rfl) (fun _ _=>by kernel_rfl) (fun _ _=>by kernel_rfl) a b a' b'
theorem findP_2(c s:ByteArray):∀l:List Ke,findP Tryz.prog 165 (.agg #[.string c,.string s]) (l.map fun e=>.agg #[.string e.1,.string e.2.1])=some (fnd (isK2 c s) l 0)
 |[]=>rfl
 |e::l=>by
  rw[List.map_cons,findP,key_eq,findP_2 c s l,fnd]
  have he:((c==e.1)&&(s==e.2.1))=isK2 c s e:=by
   unfold isK2
   rw[beq_dec,beq_dec]
   by_cases h1:e.1=c<;>by_cases h2:e.2.1=s<;>simp[h1,h2]
   ·intro h;exact absurd h.symm h2
   ·intro h;exact absurd h.symm h1
   ·intro h;exact absurd h.symm h1
  rw[he]
  cases isK2 c s e with
  |true=>rfl
  |false=>
   simp only[Bool.false_eq_true,if_false,Nat.zero_add]
   rw[fnd_shift (isK2 c s) l 0]
   cases fnd (isK2 c s) l 0<;>rfl
theorem findKP_2(c s:ByteArray)(l:List Ke):findKP Tryz.prog 165 (.struct #[kf1,kf2]) (.agg #[.string c,.string s]) (l.map fun e=>.agg #[.string e.1,.string e.2.1])=some (fnd (isK2 c s) l 0):=by
 unfold findKP
 cases l with
 |nil=>rfl
 |cons e l=>
  have:findK (.struct #[kf1,kf2]) (.agg #[.string c,.string s]) ((e::l).map fun e=>.agg #[.string e.1,.string e.2.1])=none:=rfl
  rw[this,findP_2]
theorem mtI_keys(l:List Ke):(l.map fun e=>[.rows [[sv e.1,sv e.2.1]],iv e.2.2]).map keyV=l.map fun e=>.agg #[.string e.1,.string e.2.1]:=by rw[List.map_map];rfl
theorem mtI_vals(l:List Ke):(l.map fun e=>[.rows [[sv e.1,sv e.2.1]],iv e.2.2]).map valA=l.map fun e=>.pv (iv e.2.2):=by rw[List.map_map];rfl
theorem mtI_ns(l:List Ke):nsPss (l.map fun e=>[.rows [[sv e.1,sv e.2.1]],iv e.2.2])=true:=by
 rw[nsPss_iff]
 intro c hc
 obtain⟨s,_,rfl⟩:=List.mem_map.1 hc
 rfl
@[simp] theorem ns_mtI(l:List Ke):NS (mtI l):=ns_rows fun x _ p hp=>by
 simp only[List.mem_cons,List.not_mem_nil,or_false]at hp
 rcases hp with rfl|rfl
 ·exact .rows _ fun c hc p hp=>by
   simp at hc
   subst hc
   simp at hp
   rcases hp with rfl|rfl<;>exact .lit _
 ·exact .lit _
section
variable{β:Type}{d:β}
theorem lookK_I{k:AV→β}(l:List Ke)(c s:ByteArray):lookK Tryz.prog d 95 (mtI l) (.agg [.pv (.lit (.string c)),.pv (.lit (.string s))]) true k=k (match fnd (isK2 c s) l 0 with|some j=>.tup [.pv (iv (match l[j]? with|some e=>e.2.2|none=>0)),.pv (bv true)]|none=>.tup [.pv (iv 0),.pv (bv false)]):=by
 refine lookK_of (fun w=>look_iff u_mtI u_key (mtI_ns l) (key:=.agg #[.string c,.string s]) rfl ?_ w) ?_
 ·rw[mtI_keys,mtI_vals]
  unfold lookA
  rw[key_fit (.bool),findKP_2]
  simp only[if_true]
  cases hf:fnd (isK2 c s) l 0 with
  |none=>simp[zero_int]
  |some j=>
   obtain⟨_,a,h1,_⟩:=fnd_some hf
   simp at h1
   simp[h1]
 ·cases fnd (isK2 c s) l 0 with
  |none=>exact .tup _ (by intro a ha;simp at ha;rcases ha with rfl|rfl<;>exact nsa_lit _)
  |some j=>exact .tup _ (by intro a ha;simp at ha;rcases ha with rfl|rfl<;>exact nsa_lit _)
theorem updK_I{k:PV→β}(l:List Ke)(c s:ByteArray)(i:Int)(hm:fnd (isK2 c s) l 0=none):updK Tryz.prog d 95 (mtI l) (.agg [.pv (.lit (.string c)),.pv (.lit (.string s))]) (.pv (.lit (.int .i64 i))) k=k (mtI (l++[(c,s,i)])):=by
 refine updK_of (w0:=mtI (l++[(c,s,i)])) (by simp[mtI,apd,keyP,pvOf]) (upd_iff u_mtI u_key (mtI_ns l) (key:=.agg #[.string c,.string s]) rfl (key_fit .bool c s) ?_ (mtI_ns _)) (ns_mtI _)
 rw[mtI_keys,mtI_vals,mtI_keys,mtI_vals]
 unfold updA
 rw[findKP_2,hm]
 simp
end
end Go.Proofs.YtjpjcjnacnlhdaaGreat
