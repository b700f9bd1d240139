/- Joined texts. -/
import Derived.Test.YtfphhabaeggenaaDoorBg
import Derived.Test.YtfphhabaeggenaaDoorBe
import Derived.Test.YtfphhabaeggenaaDoorBn
import Derived.Test.YtfphhabaeggenaaDoorBp
set_option linter.all false
namespace Go.Proofs.YtfphhabaeggenaaDoor
open Go.RowKit
mutual
def Ty.w:Ty→Nat
 |.mk _ _ _ ks=>Ty.wL ks
def Ty.wL:List Ty→Nat
 |[]=>0
 |t::l=>1+t.w+Ty.wL l
end
theorem Ty.wL_app:∀(a b:List Ty),Ty.wL (a++b)=Ty.wL a+Ty.wL b
 |[],b=>by rw[List.nil_append,Ty.wL];omega
 |x::a,b=>by rw[List.cons_append,Ty.wL,Ty.wL,Ty.wL_app a b];omega
@[simp] theorem Ty.wL_one(x:Ty):Ty.wL [x]=1+x.w:=by rw[Ty.wL,Ty.wL];omega
@[simp] theorem Ty.wL_two(x y:Ty):Ty.wL [x,y]=2+x.w+y.w:=by rw[Ty.wL,Ty.wL,Ty.wL];omega
@[simp] theorem Ty.wL_nil:Ty.wL []=0:=by rw[Ty.wL]
@[simp] theorem Ty.w_mk(k:Int)(s:ByteArray)(n:Int)(l:List Ty):(Ty.mk k s n l).w=Ty.wL l:=by rw[Ty.w]
@[simp] theorem T00_w:T00.w=0:=by rw[T00,Ty.w,Ty.wL]
mutual
def Pt.aw:Pt→Nat
 |.mk _ _ _ ks _=>1+Pt.awL ks
def Pt.awL:List Pt→Nat
 |[]=>0
 |p::l=>p.aw+Pt.awL l
end
mutual
def Ex.aw:Ex→Nat
 |.mk _ _ _ t ks xs bs _=>1+t.w+Ex.awL ks+Al.awL xs+Bd.awL bs
def Al.aw:Al→Nat
 |.mk p e=>p.aw+e.aw
def Bd.aw:Bd→Nat
 |.mk _ e _=>1+e.aw
def Ex.awL:List Ex→Nat
 |[]=>0
 |x::l=>x.aw+Ex.awL l
def Al.awL:List Al→Nat
 |[]=>0
 |x::l=>x.aw+Al.awL l
def Bd.awL:List Bd→Nat
 |[]=>0
 |x::l=>x.aw+Bd.awL l
end
theorem Pt.awL_app:∀(a b:List Pt),Pt.awL (a++b)=Pt.awL a+Pt.awL b
 |[],b=>by rw[List.nil_append,Pt.awL];omega
 |x::a,b=>by rw[List.cons_append,Pt.awL,Pt.awL,Pt.awL_app a b];omega
theorem Ex.awL_app:∀(a b:List Ex),Ex.awL (a++b)=Ex.awL a+Ex.awL b
 |[],b=>by rw[List.nil_append,Ex.awL];omega
 |x::a,b=>by rw[List.cons_append,Ex.awL,Ex.awL,Ex.awL_app a b];omega
theorem Al.awL_app:∀(a b:List Al),Al.awL (a++b)=Al.awL a+Al.awL b
 |[],b=>by rw[List.nil_append,Al.awL];omega
 |x::a,b=>by rw[List.cons_append,Al.awL,Al.awL,Al.awL_app a b];omega
theorem Bd.awL_app:∀(a b:List Bd),Bd.awL (a++b)=Bd.awL a+Bd.awL b
 |[],b=>by rw[List.nil_append,Bd.awL];omega
 |x::a,b=>by rw[List.cons_append,Bd.awL,Bd.awL,Bd.awL_app a b];omega
@[simp] theorem Pt.awL_one(x:Pt):Pt.awL [x]=x.aw:=by rw[Pt.awL,Pt.awL];rfl
@[simp] theorem Ex.awL_one(x:Ex):Ex.awL [x]=x.aw:=by rw[Ex.awL,Ex.awL];rfl
@[simp] theorem Al.awL_one(x:Al):Al.awL [x]=x.aw:=by rw[Al.awL,Al.awL];rfl
@[simp] theorem Bd.awL_one(x:Bd):Bd.awL [x]=x.aw:=by rw[Bd.awL,Bd.awL];rfl
@[simp] theorem Pt.awL_nil:Pt.awL []=0:=by rw[Pt.awL]
@[simp] theorem Ex.awL_nil:Ex.awL []=0:=by rw[Ex.awL]
@[simp] theorem Al.awL_nil:Al.awL []=0:=by rw[Al.awL]
@[simp] theorem Bd.awL_nil:Bd.awL []=0:=by rw[Bd.awL]
@[simp] theorem Ex.awL_cons(x:Ex)(l:List Ex):Ex.awL (x::l)=x.aw+Ex.awL l:=by rw[Ex.awL]
@[simp] theorem Bd.awL_cons(x:Bd)(l:List Bd):Bd.awL (x::l)=x.aw+Bd.awL l:=by rw[Bd.awL]
@[simp] theorem exM_aw(k:Int)(s:ByteArray)(n:Int)(ks:List Ex)(a:Int):(exM k s n ks a).aw=1+Ex.awL ks:=by rw[exM,Ex.aw];simp
theorem opE_aw(t:Tk)(x y:Ex):(opE t x y).aw≤3+x.aw+y.aw:=by
 unfold opE
 split
 ·simp;omega
 ·split
  ·simp;omega
  ·simp;omega
theorem wrapE_aw(e:Ex):∀(l:List (ByteArray×Int)),(wrapE l e).aw=l.length+e.aw
 |[]=>by simp[wrapE]
 |p::l=>by
  have:=wrapE_aw e l
  unfold wrapE at this ⊢
  rw[List.foldr_cons,exM_aw,Ex.awL_one,this,List.length_cons];omega
def preE(l:List Ex)(i:Nat):Nat:=Ex.awL (l.take i)
theorem preE_s{l:List Ex}{i:Nat}(h:i<l.length):preE l (i+1)=preE l i+(exAt l i).aw:=by
 unfold preE exAt
 rw[List.take_add_one,Ex.awL_app,List.getElem?_eq_getElem h]
 simp
theorem lastF_in(V:Nat→Nat)(to:Nat):∀(n i a:Nat),a<to→a≤i→a≤lastF V to n i a∧lastF V to n i a<to
 |0,i,a,h,h2=>by rw[lastF];omega
 |n+1,i,a,h,h2=>by
  rw[lastF]
  split
  ·rename_i hi
   split
   ·have:=lastF_in V to n (i+1) i hi (by omega);omega
   ·exact lastF_in V to n (i+1) a h (by omega)
  ·omega
theorem buildF_aw(l:List Ex)(ops:List Tk):∀(m f to:Nat),f≤to→to<l.length→to-f≤m→(buildF l ops m f to).aw+preE l f≤preE l (to+1)+3*(to-f)
 |0,f,to,h,h1,h2=>by
  obtain rfl:f=to:=by omega
  rw[buildF,preE_s h1];omega
 |m+1,f,to,h,h1,h2=>by
  rw[buildF]
  split
  ·rename_i hf
   subst hf
   rw[preE_s h1];omega
  ·rename_i hf
   have hl:=lastF_in (vlv ops) to to (f+1) f (by omega) (by omega)
   simp only
   generalize lastF (vlv ops) to to (f+1) f=s at *
   have h3:=buildF_aw l ops m f s (by omega) (by omega) (by omega)
   have h4:=buildF_aw l ops m (s+1) to (by omega) (by omega) (by omega)
   have h5:=opE_aw (opAt ops s) (buildF l ops m f s) (buildF l ops m (s+1) to)
   omega
structure Cst{α:Type}(g:GM α)(Q:α→Nat→Prop):Prop where
 ok:∀(d:Int) (a:Nat) (v:α) (b:Nat),g d a=.ok v b→a≤b∧Q v (b-a)
 er:∀(d:Int) (a:Nat) (e w:Int),g d a=.err e w→e≠0
section
variable{α β:Type}{L:List Tk}{g A B:GM α}{Q:α→Nat→Prop}
theorem Cst.no(h:∀d a,g d a=.out):Cst g Q:=⟨fun d a v b e=>(by rw[h] at e;cases e),fun d a e w k=>(by rw[h] at k;cases k)⟩
theorem Cst.pure{v:α}(h:Q v 0):Cst (pureG v) Q:=⟨fun d a w b hw=>by cases hw;exact⟨Nat.le_refl _,by rw[Nat.sub_self];exact h⟩,fun d a e w k=>by cases k⟩
theorem Cst.bind{p:GM β}{k:β→GM α}{P:β→Nat→Prop}(hp:Cst p P)(hk:∀x n,P x n→Cst (k x) (fun v n'=>Q v (n+n'))):Cst (bindG p k) Q:=by
 constructor
 ·intro d a v b h
  unfold bindG at h
  cases hr:p d a with
  |out=>rw[hr] at h;cases h
  |err e w=>rw[hr] at h;cases h
  |ok x c=>
   rw[hr] at h
   obtain⟨h1,h2⟩:=hp.ok d a x c hr
   obtain⟨h3,h4⟩:=(hk x _ h2).ok d c v b h
   exact⟨by omega,by rw[show b-a=c-a+(b-c) by omega];exact h4⟩
 ·intro d a e w h
  unfold bindG at h
  cases hr:p d a with
  |out=>rw[hr] at h;cases h
  |err e' w'=>rw[hr] at h;cases h;exact hp.er d a _ _ hr
  |ok x c=>
   rw[hr] at h
   exact(hk x _ (hp.ok d a x c hr).2).er d c e w h
theorem Cst.up(h:Cst g fun v n=>Q v (1+n)):Cst (upG g) Q:=by
 refine⟨fun d a v b hr=>?_,fun d a e w hr=>h.er d (a+1) e w hr⟩
 obtain⟨h1,h2⟩:=h.ok d (a+1) v b hr
 exact⟨by omega,by rw[show b-a=1+(b-(a+1)) by omega];exact h2⟩
theorem Cst.may{x:ByteArray}(hA:Cst A fun v n=>Q v (1+n))(hB:Cst B Q):Cst (mayG L x A B) Q:=by
 constructor
 ·intro d a v b hr
  unfold mayG at hr
  split at hr
  ·exact(Cst.up hA).ok d a v b hr
  ·exact hB.ok d a v b hr
 ·intro d a v b hr
  unfold mayG at hr
  split at hr
  ·exact(Cst.up hA).er d a v b hr
  ·exact hB.er d a v b hr
theorem Cst.if'{c:Prop}[Decidable c](hA:Cst A Q)(hB:Cst B Q):Cst (if c then A else B) Q:=by
 split
 ·exact hA
 ·exact hB
theorem Cst.kind{k:Int}(hA:Cst A Q)(hB:Cst B Q):Cst (kindG L k A B) Q:=by
 constructor
 ·intro d a v b hr
  unfold kindG at hr
  split at hr
  ·exact hA.ok d a v b hr
  ·exact hB.ok d a v b hr
 ·intro d a v b hr
  unfold kindG at hr
  split at hr
  ·exact hA.er d a v b hr
  ·exact hB.er d a v b hr
theorem Cst.st{w:Int}(hA:Cst A Q)(hB:Cst B Q):Cst (stG L w A B) Q:=by
 constructor
 ·intro d a v b hr
  unfold stG at hr
  split at hr
  ·exact hA.ok d a v b hr
  ·exact hB.ok d a v b hr
 ·intro d a v b hr
  unfold stG at hr
  split at hr
  ·exact hA.er d a v b hr
  ·exact hB.er d a v b hr
theorem Cst.next{k:Tk→GM α}(h:∀t,Cst (k t) Q):Cst (nextG L k) Q:=⟨fun d a v b hr=>(h _).ok d a v b hr,fun d a v b hr=>(h _).er d a v b hr⟩
theorem Cst.deep(h:Cst g Q):Cst (deepG L g) Q:=by
 constructor
 ·intro d a v b hr
  unfold deepG at hr
  split at hr
  ·cases hr
  ·exact h.ok _ a v b hr
 ·intro d a v b hr
  unfold deepG at hr
  split at hr
  ·cases hr;decide
  ·exact h.er _ a v b hr
theorem Cst.tk(k:Int)(x:ByteArray):Cst (takeG L k x) (fun _ n=>n=1):=by
 constructor
 ·intro d a v b hr
  unfold takeG at hr
  split at hr
  ·cases hr;exact⟨by omega,by omega⟩
  ·cases hr
 ·intro d a v b hr
  unfold takeG at hr
  split at hr
  ·cases hr
  ·cases hr;decide
theorem Cst.take(k:Int)(x:ByteArray){f:Tk→GM α}(h:∀t,Cst (f t) fun v n=>Q v (1+n)):Cst (bindG (takeG L k x) f) Q:=by
 refine .bind (.tk k x) fun t n hn=>?_
 subst hn;exact h t
theorem Cst.mono{P:α→Nat→Prop}(h:Cst g P)(hq:∀v n,P v n→Q v n):Cst g Q:=⟨fun d a v b hr=>⟨(h.ok d a v b hr).1,hq _ _ (h.ok d a v b hr).2⟩,h.er⟩
end
section
variable(L:List Tk)
def Tt{α:Type}(_:α)(_:Nat):Prop:=True
theorem c_types:∀m,Cst (typeF L m) (fun t n=>t.w+1≤n)∧Cst (atypeF L m) (fun t n=>t.w+1≤n)∧∀l,Cst (tyargsG L m l) (fun v n=>Ty.wL v≤Ty.wL l+n)
 |0=>⟨.no fun d a=>(by rw[typeF]<;>rfl),.no fun d a=>(by rw[atypeF]<;>rfl),fun l=>.no fun d a=>(by unfold tyargsG;rw[argsF]<;>rfl)⟩
 |m+1=>by
  obtain⟨i1,i2,i3⟩:=c_types m
  refine⟨?_,?_,fun l=>?_⟩
  ·rw[typeF_g]
   refine .deep (.next fun t=>.bind (P:=fun t n=>t.w+1≤n) (.if' (.up (.bind (i3 []) fun l n h=>.pure ?_)) i2) fun x n hx=>.may (.bind i1 fun y n2 hy=>.pure ?_) (.pure ?_))
   ·simp at h ⊢;omega
   ·simp;omega
   ·omega
  ·rw[atypeF_g]
   refine .next fun t=>.if' (.up (.pure ?_)) (.if' (.up (.pure ?_)) (.take _ _ fun _=>.may (.pure ?_) (.bind i1 fun x n hx=>.take _ _ fun _=>.pure ?_)))
   ·simp
   ·simp
   ·simp
   ·omega
  ·rw[argsF_g]
   refine .st (.bind i2 fun x n hx=>(i3 _).mono fun v n2 h=>?_) (.pure (by omega))
   rw[Ty.wL_app,Ty.wL_one] at h;omega
theorem c_pats:∀m,Cst (apatG L m) (fun p n=>p.aw≤n∧1≤n)∧Cst (patG L m) (fun p n=>p.aw≤n∧1≤n)∧∀l,Cst (patsG L m l) (fun v n=>Pt.awL v≤Pt.awL l+n)
 |0=>⟨.no fun d a=>(by rw[apatG]<;>rfl),.no fun d a=>(by rw[patG]<;>rfl),fun l=>.no fun d a=>(by rw[patsG]<;>rfl)⟩
 |m+1=>by
  obtain⟨i1,i2,i3⟩:=c_pats m
  have hp:∀(k:Int) (s:ByteArray) (n a:Int),(Pt.mk k s n [] a).aw=1:=fun k s n a=>by rw[Pt.aw];simp
  refine⟨?_,?_,fun l=>?_⟩
  ·rw[apatG]
   refine .next fun t=>.if' (.up (.pure (by simp[hp]))) (.if' (.up (.pure (by simp[hp]))) (.if' (.up (.pure (by simp[hp]))) (.may (.pure (by simp[hp])) (.take _ _ fun _=>.may (.pure (by simp[hp])) (.bind i2 fun x n hx=>.take _ _ fun _=>.pure ?_)))))
   omega
  ·rw[patG]
   refine .deep (.next fun t=>.bind i1 fun x n hx=>.if' (.bind (i3 []) fun l n' hl=>.pure ?_) (.pure ?_))
   ·rw[Pt.aw];simp at hl;omega
   ·simpa using hx
  ·rw[patsG]
   refine .st (.bind i1 fun x n hx=>(i3 _).mono fun v n' h=>?_) (.pure (by omega))
   rw[Pt.awL_app,Pt.awL_one] at h;omega
structure CEx(m:Nat):Prop where
 exp:Cst (expG L m) fun e n=>e.aw+2≤3*n
 ops:∀l o,l.length=o.length+1→Cst (opsG L m l o) fun r n=>Ex.awL r.1+3*r.2.length≤Ex.awL l+3*o.length+3*n∧r.1.length=r.2.length+1
 opr:Cst (operandG L m) fun e n=>e.aw+2≤3*n
 apps:∀w x,Cst (appsG L m w x) fun e n=>e.aw≤x.aw+3*n
 lam:∀w,Cst (lambdaG L m w) fun e n=>e.aw+2≤3*n
 lams:∀l,Cst (lamsG L m l) fun e n=>e.aw+2≤l.length+3*n
 let_:∀k w,Cst (letG L m k w) fun e n=>e.aw≤3*n
 bd:Cst (bdG L m) fun x n=>x.aw≤3*n
 ands:∀l,Cst (andsG L m l) fun v n=>Bd.awL v≤Bd.awL l+3*n
 atom:Cst (atomG L m) fun e n=>e.aw+2≤3*n
 alts:∀l,Cst (altsG L m l) fun v n=>Al.awL v≤Al.awL l+3*n
theorem c_name:Cst (nameG L) Tt:=by
 unfold nameG
 exact .may (.take _ _ fun t=>.take _ _ fun _=>.pure trivial) ((Cst.tk _ _).mono fun _ _ _=>trivial)
theorem c_clash{l:List Ex}{o:List Tk}(h:l.length=o.length+1):Cst (clashG l o) fun e n=>e.aw≤Ex.awL l+3*o.length:=by
 unfold clashG
 split
 ·exact⟨fun d a v b h=>(by cases h),fun d a e w h=>(by cases h;decide)⟩
 ·refine .pure ?_
  have:=buildF_aw l o o.length 0 o.length (Nat.zero_le _) (by omega) (by omega)
  have e1:preE l 0=0:=by simp[preE]
  have e2:preE l (o.length+1)=Ex.awL l:=by unfold preE;rw[List.take_of_length_le (by omega)]
  rw[e1,e2] at this
  omega
theorem c_exps:∀m,CEx L m
 |0=>⟨.no fun d a=>(by rw[expG]<;>rfl),fun l o _=>.no fun d a=>(by rw[opsG]<;>rfl),.no fun d a=>(by rw[operandG]<;>rfl),fun w x=>.no fun d a=>(by rw[appsG]<;>rfl),fun w=>.no fun d a=>(by rw[lambdaG]<;>rfl),fun l=>.no fun d a=>(by rw[lamsG]<;>rfl),fun k w=>.no fun d a=>(by rw[letG]<;>rfl),.no fun d a=>(by rw[bdG]<;>rfl),fun l=>.no fun d a=>(by rw[andsG]<;>rfl),.no fun d a=>(by rw[atomG]<;>rfl),fun l=>.no fun d a=>(by rw[altsG]<;>rfl)⟩
 |m+1=>by
  have ih:=c_exps m
  constructor
  ·rw[expG]
   refine .deep (.bind ih.opr fun x n hx=>.bind (ih.ops [x] [] rfl) fun r n2 hr=>(c_clash hr.2).mono fun v n3 hv=>?_)
   have:=hr.1
   simp at this;omega
  ·intro l o hl
   rw[opsG]
   refine .kind (.take _ _ fun t=>.bind ih.opr fun x n hx=>(ih.ops _ _ (by simp[hl])).mono fun v n2 hv=>?_) (.pure ⟨by simp only;omega,hl⟩)
   rw[Ex.awL_app,Ex.awL_one,List.length_append,List.length_singleton] at hv
   omega
  ·rw[operandG]
   refine .next fun t=>.may ((ih.lam _).mono fun v n h=>by omega) (.may (.may ((ih.let_ _ _).mono fun v n h=>by omega) ((ih.let_ _ _).mono fun v n h=>by omega)) (.may ?_ ?_))
   ·refine .bind ih.exp fun a n1 h1=>.take _ _ fun _=>.bind ih.exp fun b n2 h2=>.take _ _ fun _=>.bind ih.exp fun c n3 h3=>.pure ?_
    simp;omega
   ·refine .bind ih.atom fun x n hx=>(ih.apps _ _).mono fun v n2 h=>by omega
  ·intro w x
   rw[appsG]
   refine .st (.bind ih.atom fun y n hy=>(ih.apps _ _).mono fun v n2 h=>?_) (.pure (by omega))
   simp at h;omega
  ·intro w
   rw[lambdaG]
   refine .take _ _ fun t=>(ih.lams _).mono fun v n h=>?_
   simp at h;omega
  ·intro l
   rw[lamsG]
   refine .kind (.next fun t=>.up ((ih.lams _).mono fun v n h=>?_)) (.take _ _ fun _=>.bind ih.exp fun e n he=>.pure ?_)
   ·simp at h;omega
   ·rw[wrapE_aw];omega
  ·intro k w
   rw[letG]
   refine .bind ih.bd fun b n hb=>.bind (ih.ands [b]) fun l n2 hl=>.take _ _ fun _=>.bind ih.exp fun e n3 he=>.pure ?_
   rw[Ex.aw];simp at hl ⊢;omega
  ·rw[bdG]
   refine .bind (c_name L) fun t n _=>.take _ _ fun _=>.bind ih.exp fun e n3 he=>.pure ?_
   rw[Bd.aw];omega
  ·intro l
   rw[andsG]
   refine .may (.bind ih.bd fun b n hb=>(ih.ands _).mono fun v n2 h=>?_) (.pure (by omega))
   rw[Bd.awL_app,Bd.awL_one] at h;omega
  ·rw[atomG]
   refine .next fun t=>.if' (.up (.pure (by simp))) (.if' (.up (.pure (by simp))) (.if' (.up (.pure (by simp))) (.if' (.up (.pure (by simp))) (.may ?_ (.take _ _ fun _=>.may (.pure (by simp)) (.kind (.take _ _ fun o=>.take _ _ fun _=>.pure (by simp)) (.bind ih.exp fun y n hy=>.may (.bind (c_types L m).1 fun ty n2 hty=>.take _ _ fun _=>.pure ?_) (.take _ _ fun _=>.pure ?_))))))))
   ·refine .bind ih.exp fun x n hx=>.take _ _ fun _=>.bind (ih.alts []) fun l n2 hl=>.take _ _ fun _=>.pure ?_
    rw[Ex.aw];simp at hl ⊢;omega
   ·rw[Ex.aw];simp;omega
   ·omega
  ·intro l
   rw[altsG]
   have key:∀(p:Pt) (e:Ex),Al.awL (l++[.mk p e])=Al.awL l+(p.aw+e.aw):=fun p e=>by rw[Al.awL_app,Al.awL_one,Al.aw]
   refine .bind (c_pats L m).2.1 fun p n hp=>.take _ _ fun _=>.bind ih.exp fun e n2 he=>.may ((ih.alts _).mono fun v n3 h=>?_) (.pure ?_)
   ·rw[key] at h;omega
   ·rw[key];omega
def sumF{α:Type}(f:α→Nat):List α→Nat
 |[]=>0
 |x::l=>f x+sumF f l
theorem sumF_app{α:Type}(f:α→Nat):∀(a b:List α),sumF f (a++b)=sumF f a+sumF f b
 |[],b=>by rw[List.nil_append,sumF];omega
 |x::a,b=>by rw[List.cons_append,sumF,sumF,sumF_app f a b];omega
abbrev cnW(c:Cn):Nat:=1+Ty.wL c.args
abbrev mdW(m:Md):Nat:=1+m.t.w
abbrev pdW(p:Pd):Nat:=1+p.t.w
def Dt.aw(x:Dt):Nat:=1+x.params.length+sumF cnW x.cons+x.deriv.length
def Cl.aw(x:Cl):Nat:=1+x.supers.length+sumF mdW x.methods+Bd.awL x.defaults
def It.aw(x:It):Nat:=1+x.head.w+sumF pdW x.ctx+Bd.awL x.binds
def Pg.aw(p:Pg):Nat:=sumF Dt.aw p.datas+sumF Cl.aw p.classes+sumF It.aw p.insts+Bd.awL p.binds
theorem c_pars:∀m l,Cst (parsG L m l) (fun v n=>v.length≤l.length+n)
 |0,l=>.no fun d a=>(by rw[parsG]<;>rfl)
 |m+1,l=>by rw[parsG];exact .kind (.take _ _ fun t=>(c_pars m _).mono fun v n h=>by simp at h;omega) (.pure (by omega))
theorem c_ups:∀m l,Cst (upsG L m l) (fun v n=>v.length≤l.length+n)
 |0,l=>.no fun d a=>(by rw[upsG]<;>rfl)
 |m+1,l=>by rw[upsG];exact .may (.take _ _ fun t=>(c_ups m _).mono fun v n h=>by simp at h;omega) (.pure (by omega))
theorem c_uppers(m:Nat):Cst (uppersG L m) (fun v n=>v.length≤n):=by unfold uppersG;exact .take _ _ fun t=>(c_ups L m _).mono fun v n h=>by simp at h;omega
theorem c_cons:∀m l,Cst (consG L m l) (fun v n=>sumF cnW v≤sumF cnW l+n)
 |0,l=>.no fun d a=>(by rw[consG]<;>rfl)
 |m+1,l=>by
  rw[consG]
  refine .take _ _ fun c=>.bind ((c_types L m).2.2 []) fun tl n hl=>.may ((c_cons m _).mono fun v n2 h=>?_) (.pure ?_)
  ·simp[sumF_app,sumF,cnW] at h hl;omega
  ·simp[sumF_app,sumF,cnW] at hl ⊢;omega
theorem c_data(m:Nat):Cst (dataG L m) (fun x n=>x.aw≤3*n):=by
 unfold dataG
 refine .take _ _ fun t=>.bind (c_pars L m []) fun ps n1 hp=>.take _ _ fun _=>.bind (c_cons L m []) fun cs n2 h=>.may (.take _ _ fun _=>.bind (c_uppers L m) fun ds n3 hd=>.take _ _ fun _=>.pure ?_) (.pure ?_)
 ·simp[sumF] at h hp;simp[Dt.aw];omega
 ·simp[sumF] at h hp;simp[Dt.aw];omega
theorem c_items:∀m ms ds,Cst (itemsG L m ms ds) (fun v n=>sumF mdW v.1+Bd.awL v.2≤sumF mdW ms+Bd.awL ds+3*n)
 |0,ms,ds=>.no fun d a=>(by rw[itemsG]<;>rfl)
 |m+1,ms,ds=>by
  rw[itemsG]
  refine .may (.pure (by simp only;omega)) (.may (.bind (c_exps L m).bd fun x n hx=>.take _ _ fun _=>(c_items m _ _).mono fun v n2 h=>?_) (.bind (c_name L) fun t n1 _=>.take _ _ fun _=>.bind (c_types L m).1 fun ty n2 hty=>.take _ _ fun _=>(c_items m _ _).mono fun v n3 h=>?_))
  ·rw[Bd.awL_app,Bd.awL_one] at h;omega
  ·simp[sumF_app,sumF,mdW] at h;omega
theorem c_class(m:Nat):Cst (classG L m) (fun x n=>x.aw≤3*n):=by
 unfold classG fromG
 refine .take _ _ fun t=>.take _ _ fun v=>.bind (P:=fun v n=>v.length≤n) (.may ((c_uppers L m).mono fun v n h=>by omega) (.pure (by simp))) fun sup n1 hsup=>.take _ _ fun _=>.bind (c_items L m [] []) fun r n2 h=>.pure ?_
 simp[sumF] at h;simp[Cl.aw];omega
theorem c_ctx:∀m l,Cst (ctxG L m l) (fun v n=>sumF pdW v≤sumF pdW l+n)
 |0,l=>.no fun d a=>(by rw[ctxG]<;>rfl)
 |m+1,l=>by
  rw[ctxG]
  refine .take _ _ fun c=>.take _ _ fun v=>.may ((c_ctx m _).mono fun v n2 h=>?_) (.pure ?_)
  ·simp[sumF_app,sumF,pdW] at h;omega
  ·simp[sumF_app,sumF,pdW]
theorem c_defs:∀m l,Cst (defsG L m l) (fun v n=>Bd.awL v≤Bd.awL l+3*n)
 |0,l=>.no fun d a=>(by rw[defsG]<;>rfl)
 |m+1,l=>by
  rw[defsG]
  refine .may (.pure (by omega)) (.take _ _ fun _=>.bind (c_exps L m).bd fun x n hx=>.take _ _ fun _=>(c_defs m _).mono fun v n2 h=>?_)
  rw[Bd.awL_app,Bd.awL_one] at h;omega
theorem c_inst(m:Nat):Cst (instG L m) (fun x n=>x.aw≤3*n):=by
 unfold instG
 refine .take _ _ fun t=>.bind (c_types L m).2.1 fun h n1 hh=>.bind (P:=fun v n=>sumF pdW v≤n) (.may ((c_ctx L m []).mono fun v n h=>by simp[sumF] at h;omega) (.pure (by simp[sumF]))) fun c n2 hc=>.take _ _ fun _=>.bind (c_defs L m []) fun bs n3 h=>.pure ?_
 simp at h;simp[It.aw];omega
theorem c_prog:∀m p,Cst (progG L m p) (fun v n=>v.aw≤p.aw+3*n)
 |0,p=>.no fun d a=>(by rw[progG]<;>rfl)
 |m+1,p=>by
  rw[progG]
  refine .kind (.pure (by omega)) (.may (.bind (c_data L m) fun x n hx=>.take _ _ fun _=>(c_prog m _).mono fun v n2 h=>?_) (.may (.bind (c_class L m) fun x n hx=>.take _ _ fun _=>(c_prog m _).mono fun v n2 h=>?_) (.may (.bind (c_inst L m) fun x n hx=>.take _ _ fun _=>(c_prog m _).mono fun v n2 h=>?_) (.take _ _ fun _=>.bind (c_exps L m).bd fun x n hx=>.take _ _ fun _=>(c_prog m _).mono fun v n2 h=>?_))))
  ·simp only[Pg.aw,sumF_app,sumF] at h ⊢;omega
  ·simp only[Pg.aw,sumF_app,sumF] at h ⊢;omega
  ·simp only[Pg.aw,sumF_app,sumF] at h ⊢;omega
  ·simp only[Pg.aw,Bd.awL_app,Bd.awL_one] at h ⊢;omega
end
inductive Ty.Ok:Ty→Prop where
 |mk (k:Int) (s:ByteArray) (n:Int) (ks:List Ty) (h:ks.length≤maxN) (hk:∀t∈ks,Ty.Ok t):Ty.Ok (.mk k s n ks)
inductive Pt.Ok:Pt→Prop where
 |mk (k:Int) (s:ByteArray) (n:Int) (ks:List Pt) (a:Int) (h:ks.length≤maxN) (hk:∀t∈ks,Pt.Ok t):Pt.Ok (.mk k s n ks a)
mutual
def Ex.Ok:Ex→Prop
 |.mk _ _ _ t ks xs bs _=>t.Ok∧(ks.length≤maxN∧Ex.OkL ks)∧(xs.length≤maxN∧Al.OkL xs)∧(bs.length≤maxN∧Bd.OkL bs)
def Al.Ok:Al→Prop
 |.mk p e=>p.Ok∧e.Ok
def Bd.Ok:Bd→Prop
 |.mk _ e _=>e.Ok
def Ex.OkL:List Ex→Prop
 |[]=>True
 |x::l=>x.Ok∧Ex.OkL l
def Al.OkL:List Al→Prop
 |[]=>True
 |x::l=>x.Ok∧Al.OkL l
def Bd.OkL:List Bd→Prop
 |[]=>True
 |x::l=>x.Ok∧Bd.OkL l
end
def Cn.Ok(x:Cn):Prop:=x.args.length≤maxN∧∀y∈x.args,y.Ok
def Dt.Ok(x:Dt):Prop:=x.params.length≤maxN∧(x.cons.length≤maxN∧∀y∈x.cons,y.Ok)∧x.deriv.length≤maxN
def Md.Ok(x:Md):Prop:=x.t.Ok
def Cl.Ok(x:Cl):Prop:=x.supers.length≤maxN∧(x.methods.length≤maxN∧∀y∈x.methods,y.Ok)∧(x.defaults.length≤maxN∧∀y∈x.defaults,y.Ok)
def Pd.Ok(x:Pd):Prop:=x.t.Ok
def It.Ok(x:It):Prop:=x.head.Ok∧(x.ctx.length≤maxN∧∀y∈x.ctx,y.Ok)∧(x.binds.length≤maxN∧∀y∈x.binds,y.Ok)
theorem Ty.wL_len:∀l:List Ty,l.length≤Ty.wL l
 |[]=>by simp
 |t::l=>by have:=Ty.wL_len l;rw[Ty.wL,List.length_cons];omega
mutual
theorem Ty.ok_of:∀t:Ty,t.w≤maxN→t.Ok
 |.mk k s n ks,h=>by
  rw[Ty.w] at h
  exact .mk k s n ks (Nat.le_trans (Ty.wL_len ks) h) (Ty.ok_ofL ks h)
theorem Ty.ok_ofL:∀l:List Ty,Ty.wL l≤maxN→∀t∈l,t.Ok
 |[],_,t,ht=>by cases ht
 |x::l,h,t,ht=>by
  rw[Ty.wL] at h
  rcases List.mem_cons.1 ht with e|ht
  ·rw[e];exact Ty.ok_of x (by omega)
  ·exact Ty.ok_ofL l (by omega) t ht
end
theorem Pt.aw_pos(p:Pt):1≤p.aw:=by cases p;rw[Pt.aw];omega
theorem Ex.aw_pos(p:Ex):1≤p.aw:=by cases p;rw[Ex.aw];omega
theorem Al.aw_pos(p:Al):1≤p.aw:=by cases p with|mk p e=>have:=Pt.aw_pos p;rw[Al.aw];omega
theorem Bd.aw_pos(p:Bd):1≤p.aw:=by cases p;rw[Bd.aw];omega
theorem Pt.awL_len:∀l:List Pt,l.length≤Pt.awL l
 |[]=>by simp
 |t::l=>by have:=Pt.awL_len l;have:=Pt.aw_pos t;rw[Pt.awL,List.length_cons];omega
theorem Ex.awL_len:∀l:List Ex,l.length≤Ex.awL l
 |[]=>by simp
 |t::l=>by have:=Ex.awL_len l;have:=Ex.aw_pos t;rw[Ex.awL,List.length_cons];omega
theorem Al.awL_len:∀l:List Al,l.length≤Al.awL l
 |[]=>by simp
 |t::l=>by have:=Al.awL_len l;have:=Al.aw_pos t;rw[Al.awL,List.length_cons];omega
theorem Bd.awL_len:∀l:List Bd,l.length≤Bd.awL l
 |[]=>by simp
 |t::l=>by have:=Bd.awL_len l;have:=Bd.aw_pos t;rw[Bd.awL,List.length_cons];omega
mutual
theorem Pt.ok_of:∀t:Pt,t.aw≤maxN→t.Ok
 |.mk k s n ks a,h=>by
  rw[Pt.aw] at h
  exact .mk k s n ks a (Nat.le_trans (Pt.awL_len ks) (by omega)) (Pt.ok_ofL ks (by omega))
theorem Pt.ok_ofL:∀l:List Pt,Pt.awL l≤maxN→∀t∈l,t.Ok
 |[],_,t,ht=>by cases ht
 |x::l,h,t,ht=>by
  rw[Pt.awL] at h
  rcases List.mem_cons.1 ht with e|ht
  ·rw[e];exact Pt.ok_of x (by omega)
  ·exact Pt.ok_ofL l (by omega) t ht
end
mutual
theorem Ex.ok_of:∀e:Ex,e.aw≤maxN→e.Ok
 |.mk k s n t ks xs bs a,h=>by
  rw[Ex.aw] at h
  rw[Ex.Ok]
  have h1:=Ex.awL_len ks
  have h2:=Al.awL_len xs
  have h3:=Bd.awL_len bs
  exact⟨Ty.ok_of t (by omega),⟨by omega,Ex.ok_ofL ks (by omega)⟩,⟨by omega,Al.ok_ofL xs (by omega)⟩,⟨by omega,Bd.ok_ofL bs (by omega)⟩⟩
theorem Al.ok_of:∀e:Al,e.aw≤maxN→e.Ok
 |.mk p e,h=>by rw[Al.aw] at h;rw[Al.Ok];exact⟨Pt.ok_of p (by omega),Ex.ok_of e (by omega)⟩
theorem Bd.ok_of:∀e:Bd,e.aw≤maxN→e.Ok
 |.mk s e a,h=>by rw[Bd.aw] at h;rw[Bd.Ok];exact Ex.ok_of e (by omega)
theorem Ex.ok_ofL:∀l:List Ex,Ex.awL l≤maxN→Ex.OkL l
 |[],_=>by rw[Ex.OkL];trivial
 |x::l,h=>by rw[Ex.awL] at h;rw[Ex.OkL];exact⟨Ex.ok_of x (by omega),Ex.ok_ofL l (by omega)⟩
theorem Al.ok_ofL:∀l:List Al,Al.awL l≤maxN→Al.OkL l
 |[],_=>by rw[Al.OkL];trivial
 |x::l,h=>by rw[Al.awL] at h;rw[Al.OkL];exact⟨Al.ok_of x (by omega),Al.ok_ofL l (by omega)⟩
theorem Bd.ok_ofL:∀l:List Bd,Bd.awL l≤maxN→Bd.OkL l
 |[],_=>by rw[Bd.OkL];trivial
 |x::l,h=>by rw[Bd.awL] at h;rw[Bd.OkL];exact⟨Bd.ok_of x (by omega),Bd.ok_ofL l (by omega)⟩
end
theorem Bd.ok_all:∀l:List Bd,Bd.awL l≤maxN→∀x∈l,x.Ok
 |[],_,x,hx=>by cases hx
 |y::l,h,x,hx=>by
  rw[Bd.awL] at h
  rcases List.mem_cons.1 hx with e|hx
  ·rw[e];exact Bd.ok_of y (by omega)
  ·exact Bd.ok_all l (by omega) x hx
theorem sumF_all{α:Type}{f:α→Nat}(hf:∀x,1≤f x):∀l:List α,l.length≤sumF f l∧∀x∈l,f x≤sumF f l
 |[]=>⟨by simp[sumF],fun x hx=>by cases hx⟩
 |y::l=>by
  obtain⟨h1,h2⟩:=sumF_all hf l
  have:=hf y
  rw[sumF]
  refine⟨by rw[List.length_cons];omega,fun x hx=>?_⟩
  rcases List.mem_cons.1 hx with e|hx
  ·rw[e];omega
  ·have:=h2 x hx;omega
theorem Dt.ok_of{x:Dt}(h:x.aw≤maxN):x.Ok:=by
 unfold Dt.aw at h
 obtain⟨h1,h2⟩:=sumF_all (f:=cnW) (fun x=>by unfold cnW;omega) x.cons
 refine⟨by omega,⟨by omega,fun y hy=>?_⟩,by omega⟩
 have h3:=h2 y hy
 have:=Ty.wL_len y.args
 exact⟨by unfold cnW at h3 h;omega,Ty.ok_ofL y.args (by unfold cnW at h3 h;omega)⟩
theorem Cl.ok_of{x:Cl}(h:x.aw≤maxN):x.Ok:=by
 unfold Cl.aw at h
 obtain⟨h1,h2⟩:=sumF_all (f:=mdW) (fun x=>by unfold mdW;omega) x.methods
 have h4:=Bd.awL_len x.defaults
 refine⟨by omega,⟨by omega,fun y hy=>?_⟩,⟨by omega,Bd.ok_all _ (by omega)⟩⟩
 have h3:=h2 y hy
 exact Ty.ok_of _ (by unfold mdW at h3 h;omega)
theorem It.ok_of{x:It}(h:x.aw≤maxN):x.Ok:=by
 unfold It.aw at h
 obtain⟨h1,h2⟩:=sumF_all (f:=pdW) (fun x=>by unfold pdW;omega) x.ctx
 have h4:=Bd.awL_len x.binds
 refine⟨Ty.ok_of _ (by omega),⟨by omega,fun y hy=>?_⟩,⟨by omega,Bd.ok_all _ (by omega)⟩⟩
 have h3:=h2 y hy
 exact Ty.ok_of _ (by unfold pdW at h3 h;omega)
structure Pg.Ok(p:Pg):Prop where
 d:p.datas.length≤maxN∧∀x∈p.datas,x.Ok
 c:p.classes.length≤maxN∧∀x∈p.classes,x.Ok
 i:p.insts.length≤maxN∧∀x∈p.insts,x.Ok
 b:p.binds.length≤maxN∧∀x∈p.binds,x.Ok
theorem Pg.ok_of{p:Pg}(h:p.aw≤maxN):p.Ok:=by
 unfold Pg.aw at h
 obtain⟨d1,d2⟩:=sumF_all (f:=Dt.aw) (fun x=>by unfold Dt.aw;omega) p.datas
 obtain⟨c1,c2⟩:=sumF_all (f:=Cl.aw) (fun x=>by unfold Cl.aw;omega) p.classes
 obtain⟨i1,i2⟩:=sumF_all (f:=It.aw) (fun x=>by unfold It.aw;omega) p.insts
 have b1:=Bd.awL_len p.binds
 exact⟨⟨by omega,fun x hx=>Dt.ok_of (by have:=d2 x hx;omega)⟩,⟨by omega,fun x hx=>Cl.ok_of (by have:=c2 x hx;omega)⟩,⟨by omega,fun x hx=>It.ok_of (by have:=i2 x hx;omega)⟩,⟨by omega,Bd.ok_all _ (by omega)⟩⟩
theorem expOk{L:List Tk}{m a b:Nat}{d:Int}{v:Ex}(h:expG L m d a=.ok v b)(hb:b≤1000000):v.Ok:=by
 have:=((c_exps L m).exp.ok d a v b h).2
 exact Ex.ok_of v (by unfold maxN;omega)
theorem progOk{L:List Tk}{m a b:Nat}{d:Int}{p v:Pg}(h:progG L m p d a=.ok v b)(hb:b≤1000000)(hp:p.aw=0):v.aw≤3000000:=by
 have:=((c_prog L m p).ok d a v b h).2
 omega
theorem Pg.okW{p:Pg}(h:p.aw≤3000000):p.Ok:=Pg.ok_of (by unfold maxN;omega)
theorem Pg.lens{p:Pg}(h:p.aw≤3000000):p.datas.length≤3000000∧p.classes.length≤3000000∧p.insts.length≤3000000∧p.binds.length≤3000000:=by
 unfold Pg.aw at h
 have d1:=(sumF_all (f:=Dt.aw) (fun x=>by unfold Dt.aw;omega) p.datas).1
 have c1:=(sumF_all (f:=Cl.aw) (fun x=>by unfold Cl.aw;omega) p.classes).1
 have i1:=(sumF_all (f:=It.aw) (fun x=>by unfold It.aw;omega) p.insts).1
 have b1:=Bd.awL_len p.binds
 omega
theorem expEr{L:List Tk}{m a:Nat}{d e w:Int}(h:expG L m d a=.err e w):e≠0:=(c_exps L m).exp.er d a e w h
theorem progEr{L:List Tk}{m a:Nat}{d e w:Int}{p:Pg}(h:progG L m p d a=.err e w):e≠0:=(c_prog L m p).er d a e w h
set_option linter.all false
theorem map_len{α β:Type}{f:α→β}{l l':List α}(h:l.map f=l'.map f):l'.length=l.length:=by
 have:=congrArg List.length h
 rw[List.length_map,List.length_map] at this
 exact this.symm
theorem same_loop{α β:Type}(l l':List α)(f:α→β)(hf:l.map f=l'.map f)(q:Nat→Q)(r:Rs)(hl:l.length≤maxN)
  (hs:∀(i j:Nat) (x x':α),IntKind.i64.wrap ((i:Int)+1)=(j:Int)→l[i]? = some x→l'[i]? = some x'→(i:Int)<(l.length:Int)→x∈l→f x=f x'→body PG EE TT ev (q i)=passK (ev (q j)))
  (he:body PG EE TT ev (q l.length)=.ok r):ev (q 0)=some r:=by
 have h:∀(m i:Nat),i+m=l.length→ev (q i)=some r:=by
  intro m
  induction m with
  |zero=>intro i hi;rw[Nat.add_zero] at hi;rw[hi];exact Evl.of he
  |succ m ih=>
   intro i hi
   have hi':i<l.length:=by omega
   have hi2:i<l'.length:=by rw[map_len hf];exact hi'
   obtain⟨j,hj⟩:∃j,j=i+1:=⟨_,rfl⟩
   have hx:f l[i]=f l'[i]:=by
    have h1:(l.map f)[i]? = (l'.map f)[i]?:=by rw[hf]
    rw[List.getElem?_map,List.getElem?_map,List.getElem?_eq_getElem hi',List.getElem?_eq_getElem hi2] at h1
    exact Option.some.inj h1
   exact Evl.of (by rw[hs i j l[i] l'[i] (by rw[wrap_id (by unfold maxN at hl;omega)];omega) (List.getElem?_eq_getElem hi') (List.getElem?_eq_getElem hi2) (by omega) (List.getElem_mem hi') hx,ih j (by omega)];rfl)
 exact h l.length 0 (by omega)
theorem texts_same(l:List ByteArray)(hl:l.length≤maxN):ev (q37 (strs l) (strs l))=some (0,[bv true]):=by
 have lpl:l.length=l.length:=map_len (f:=id) rfl
 have lp:ev (q37b0a (iv 0) (strs l) (strs l))=some (1,[]):=same_loop l l id rfl (fun i0=>q37b0a (iv (i0:Int)) (strs l) (strs l)) (1,[]) (by assumption) (fun i0 j0 x x' e0 hx hx' hi0 hm hxx=>by
   show body PG EE TT ev (q37b0a (iv (i0:Int)) (strs l) (strs l))=passK (ev (q37b0a (iv (j0:Int)) (strs l) (strs l)))
   rw[h37b0a,g37b0a]
   simp[hi0,lpl,idxK_strs hx,idxK_strs hx']
   skip
   simp[e0]) (by
   show body PG EE TT ev (q37b0a (iv (l.length:Int)) (strs l) (strs l))=_
   rw[h37b0a,g37b0a]
   simp[lpl])
 exact Evl.of (by rw[h37,g37];simp[lp])
def SamT(t:Ty):Prop:=ev (q18 (iv t.kind) (sv t.name) (iv t.n) (tys t.kids) (iv t.kind) (sv t.name) (iv t.n) (tys t.kids))=some (0,[bv true])
theorem types_same(l:List Ty)(hl:l.length≤maxN)(h:∀x∈l,SamT x):ev (q38 (tys l) (tys l))=some (0,[bv true]):=by
 have lpl:l.length=l.length:=map_len (f:=id) rfl
 have lp:ev (q38b0a (iv 0) (tys l) (tys l))=some (1,[]):=same_loop l l id rfl (fun i0=>q38b0a (iv (i0:Int)) (tys l) (tys l)) (1,[]) (by assumption) (fun i0 j0 x x' e0 hx hx' hi0 hm hxx=>by
   show body PG EE TT ev (q38b0a (iv (i0:Int)) (tys l) (tys l))=passK (ev (q38b0a (iv (j0:Int)) (tys l) (tys l)))
   rw[h38b0a,g38b0a]
   simp[hi0,lpl,idxK_tys hx,idxK_tys hx']
   have g:=h x hm;unfold SamT at g;cases hxx;simp[g]
   simp[e0]) (by
   show body PG EE TT ev (q38b0a (iv (l.length:Int)) (tys l) (tys l))=_
   rw[h38b0a,g38b0a]
   simp[lpl])
 exact Evl.of (by rw[h38,g38];simp[lp])
theorem type_same{t:Ty}(h:t.Ok):SamT t:=by
 induction h with
 |mk k s n ks hl hk ih=>
  have g:=types_same ks hl ih
  exact Evl.of (by rw[h18,g18];simp[Ty.kind,Ty.name,Ty.n,Ty.kids,g])
def SamP(p:Pt):Prop:=∀p':Pt,p.er=p'.er→ev (q19 (iv p.kind) (sv p.name) (iv p.n) (pts p.kids) (iv p.at_) (iv p'.kind) (sv p'.name) (iv p'.n) (pts p'.kids) (iv p'.at_))=some (0,[bv true])
theorem pat_step(k:Int)(s:ByteArray)(n:Int)(ks ks':List Pt)(a a':Int)(hl:ks.length≤maxN)(hf:ks.map Pt.er=ks'.map Pt.er)(ih:∀x∈ks,SamP x):ev (q19 (iv k) (sv s) (iv n) (pts ks) (iv a) (iv k) (sv s) (iv n) (pts ks') (iv a'))=some (0,[bv true]):=by
 have lpl:ks'.length=ks.length:=map_len (f:=Pt.er) hf
 have lp:ev (q19b0a (iv 0) (iv k) (sv s) (iv n) (pts ks) (iv a) (iv k) (sv s) (iv n) (pts ks') (iv a'))=some (1,[iv k,sv s,iv n,pts ks,iv a,iv k,sv s,iv n,pts ks',iv a']):=same_loop ks ks' Pt.er hf (fun i0=>q19b0a (iv (i0:Int)) (iv k) (sv s) (iv n) (pts ks) (iv a) (iv k) (sv s) (iv n) (pts ks') (iv a')) (1,[iv k,sv s,iv n,pts ks,iv a,iv k,sv s,iv n,pts ks',iv a']) (by assumption) (fun i0 j0 x x' e0 hx hx' hi0 hm hxx=>by
   show body PG EE TT ev (q19b0a (iv (i0:Int)) (iv k) (sv s) (iv n) (pts ks) (iv a) (iv k) (sv s) (iv n) (pts ks') (iv a'))=passK (ev (q19b0a (iv (j0:Int)) (iv k) (sv s) (iv n) (pts ks) (iv a) (iv k) (sv s) (iv n) (pts ks') (iv a')))
   rw[h19b0a,g19b0a]
   simp[hi0,lpl,idxK_pts hx,idxK_pts hx']
   have g:=ih x hm x' hxx;simp[g]
   simp[e0]) (by
   show body PG EE TT ev (q19b0a (iv (ks.length:Int)) (iv k) (sv s) (iv n) (pts ks) (iv a) (iv k) (sv s) (iv n) (pts ks') (iv a'))=_
   rw[h19b0a,g19b0a]
   simp[lpl])
 exact Evl.of (by rw[h19,g19];simp[lpl,lp])
theorem pat_same{p:Pt}(h:p.Ok):SamP p:=by
 induction h with
 |mk k s n ks a hl hk ih=>
  intro p' he
  cases p' with
  |mk k' s' n' ks' a'=>
   rw[Pt.er,Pt.er,Pt.erL_map,Pt.erL_map] at he
   injection he with h1 h2 h3 h4
   subst h1 h2 h3
   exact pat_step k s n ks ks' a a' hl h4 ih
def SamE(e:Ex):Prop:=∀e':Ex,e.er=e'.er→ev (q9 (iv e.kind) (sv e.name) (iv e.n) (iv e.t.kind) (sv e.t.name) (iv e.t.n) (tys e.t.kids) (exs e.kids) (als e.alts) (bds e.binds) (iv e.at_) (iv e'.kind) (sv e'.name) (iv e'.n) (iv e'.t.kind) (sv e'.t.name) (iv e'.t.n) (tys e'.t.kids) (exs e'.kids) (als e'.alts) (bds e'.binds) (iv e'.at_))=some (0,[bv true])
theorem ex_er{e e':Ex}(h:e.er=e'.er):e.kind=e'.kind∧e.name=e'.name∧e.n=e'.n∧e.t=e'.t∧e.kids.map Ex.er=e'.kids.map Ex.er∧e.alts.map Al.er=e'.alts.map Al.er∧e.binds.map Bd.er=e'.binds.map Bd.er:=by
 cases e with
 |mk k s n t ks xs bs a=>
  cases e' with
  |mk k' s' n' t' ks' xs' bs' a'=>
   rw[Ex.er,Ex.er,Ex.erL_map,Ex.erL_map,Al.erL_map,Al.erL_map,Bd.erL_map,Bd.erL_map] at h
   injection h with h1 h2 h3 h4 h5 h6 h7
   exact⟨h1,h2,h3,h4,h5,h6,h7⟩
theorem al_er{x x':Al}(h:x.er=x'.er):x.p.er=x'.p.er∧x.e.er=x'.e.er:=by
 cases x with
 |mk p e=>
  cases x' with
  |mk p' e'=>rw[Al.er,Al.er] at h;injection h with h1 h2;exact⟨h1,h2⟩
theorem bd_er{x x':Bd}(h:x.er=x'.er):x.name=x'.name∧x.e.er=x'.e.er:=by
 cases x with
 |mk s e a=>
  cases x' with
  |mk s' e' a'=>rw[Bd.er,Bd.er] at h;injection h with h1 h2;exact⟨h1,h2⟩
theorem binds_same(l l':List Bd)(hf:l.map Bd.er=l'.map Bd.er)(hl:l.length≤maxN)(h:∀x∈l,SamE x.e):ev (q17 (bds l) (bds l'))=some (0,[bv true]):=by
 have lpl:l'.length=l.length:=map_len (f:=Bd.er) hf
 have lp:ev (q17b0a (iv 0) (bds l) (bds l'))=some (1,[]):=same_loop l l' Bd.er hf (fun i0=>q17b0a (iv (i0:Int)) (bds l) (bds l')) (1,[]) (by assumption) (fun i0 j0 x x' e0 hx hx' hi0 hm hxx=>by
   show body PG EE TT ev (q17b0a (iv (i0:Int)) (bds l) (bds l'))=passK (ev (q17b0a (iv (j0:Int)) (bds l) (bds l')))
   rw[h17b0a,g17b0a]
   simp[hi0,lpl,idxK_bds hx,idxK_bds hx']
   have g:=h x hm x'.e (bd_er hxx).2;simp[g,(bd_er hxx).1]
   simp[e0]) (by
   show body PG EE TT ev (q17b0a (iv (l.length:Int)) (bds l) (bds l'))=_
   rw[h17b0a,g17b0a]
   simp[lpl])
 exact Evl.of (by rw[h17,g17];simp[lpl,lp])
theorem ex_step(e:Ex)(h0:e.t.Ok)(l1:e.kids.length≤maxN)(h1:∀x∈e.kids,SamE x)(l2:e.alts.length≤maxN)(h2:∀x∈e.alts,SamP x.p∧SamE x.e)(l3:e.binds.length≤maxN)(h3:∀x∈e.binds,SamE x.e):SamE e:=by
 intro e' he
 obtain⟨q1,q2,q3,q4,q5,q6,q7⟩:=ex_er he
 rw[←q1,←q2,←q3,←q4]
 have g0:=type_same h0
 unfold SamT at g0
 have g3:=binds_same e.binds e'.binds q7 l3 h3
 have k3l:=map_len q7
 have k1l:e'.kids.length=e.kids.length:=map_len (f:=Ex.er) q5
 have k1:ev (q9b0a (iv 0) (iv e.kind) (sv e.name) (iv e.n) (iv e.t.kind) (sv e.t.name) (iv e.t.n) (tys e.t.kids) (exs e.kids) (als e.alts) (bds e.binds) (iv e.at_) (iv e.kind) (sv e.name) (iv e.n) (iv e.t.kind) (sv e.t.name) (iv e.t.n) (tys e.t.kids) (exs e'.kids) (als e'.alts) (bds e'.binds) (iv e'.at_))=some (1,[iv e.kind,sv e.name,iv e.n,iv e.t.kind,sv e.t.name,iv e.t.n,tys e.t.kids,exs e.kids,als e.alts,bds e.binds,iv e.at_,iv e.kind,sv e.name,iv e.n,iv e.t.kind,sv e.t.name,iv e.t.n,tys e.t.kids,exs e'.kids,als e'.alts,bds e'.binds,iv e'.at_]):=same_loop e.kids e'.kids Ex.er q5 (fun i0=>q9b0a (iv (i0:Int)) (iv e.kind) (sv e.name) (iv e.n) (iv e.t.kind) (sv e.t.name) (iv e.t.n) (tys e.t.kids) (exs e.kids) (als e.alts) (bds e.binds) (iv e.at_) (iv e.kind) (sv e.name) (iv e.n) (iv e.t.kind) (sv e.t.name) (iv e.t.n) (tys e.t.kids) (exs e'.kids) (als e'.alts) (bds e'.binds) (iv e'.at_)) (1,[iv e.kind,sv e.name,iv e.n,iv e.t.kind,sv e.t.name,iv e.t.n,tys e.t.kids,exs e.kids,als e.alts,bds e.binds,iv e.at_,iv e.kind,sv e.name,iv e.n,iv e.t.kind,sv e.t.name,iv e.t.n,tys e.t.kids,exs e'.kids,als e'.alts,bds e'.binds,iv e'.at_]) (by assumption) (fun i0 j0 x x' e0 hx hx' hi0 hm hxx=>by
   show body PG EE TT ev (q9b0a (iv (i0:Int)) (iv e.kind) (sv e.name) (iv e.n) (iv e.t.kind) (sv e.t.name) (iv e.t.n) (tys e.t.kids) (exs e.kids) (als e.alts) (bds e.binds) (iv e.at_) (iv e.kind) (sv e.name) (iv e.n) (iv e.t.kind) (sv e.t.name) (iv e.t.n) (tys e.t.kids) (exs e'.kids) (als e'.alts) (bds e'.binds) (iv e'.at_))=passK (ev (q9b0a (iv (j0:Int)) (iv e.kind) (sv e.name) (iv e.n) (iv e.t.kind) (sv e.t.name) (iv e.t.n) (tys e.t.kids) (exs e.kids) (als e.alts) (bds e.binds) (iv e.at_) (iv e.kind) (sv e.name) (iv e.n) (iv e.t.kind) (sv e.t.name) (iv e.t.n) (tys e.t.kids) (exs e'.kids) (als e'.alts) (bds e'.binds) (iv e'.at_)))
   rw[h9b0a,g9b0a]
   simp[hi0,k1l,idxK_exs hx,idxK_exs hx']
   have g:=h1 x hm x' hxx;simp[g]
   simp[e0]) (by
   show body PG EE TT ev (q9b0a (iv (e.kids.length:Int)) (iv e.kind) (sv e.name) (iv e.n) (iv e.t.kind) (sv e.t.name) (iv e.t.n) (tys e.t.kids) (exs e.kids) (als e.alts) (bds e.binds) (iv e.at_) (iv e.kind) (sv e.name) (iv e.n) (iv e.t.kind) (sv e.t.name) (iv e.t.n) (tys e.t.kids) (exs e'.kids) (als e'.alts) (bds e'.binds) (iv e'.at_))=_
   rw[h9b0a,g9b0a]
   simp[k1l])
 have k2l:e'.alts.length=e.alts.length:=map_len (f:=Al.er) q6
 have k2:ev (q9b2a (iv 0) (iv e.kind) (sv e.name) (iv e.n) (iv e.t.kind) (sv e.t.name) (iv e.t.n) (tys e.t.kids) (exs e.kids) (als e.alts) (bds e.binds) (iv e.at_) (iv e.kind) (sv e.name) (iv e.n) (iv e.t.kind) (sv e.t.name) (iv e.t.n) (tys e.t.kids) (exs e'.kids) (als e'.alts) (bds e'.binds) (iv e'.at_))=some (1,[iv e.kind,sv e.name,iv e.n,iv e.t.kind,sv e.t.name,iv e.t.n,tys e.t.kids,exs e.kids,als e.alts,bds e.binds,iv e.at_,iv e.kind,sv e.name,iv e.n,iv e.t.kind,sv e.t.name,iv e.t.n,tys e.t.kids,exs e'.kids,als e'.alts,bds e'.binds,iv e'.at_]):=same_loop e.alts e'.alts Al.er q6 (fun i0=>q9b2a (iv (i0:Int)) (iv e.kind) (sv e.name) (iv e.n) (iv e.t.kind) (sv e.t.name) (iv e.t.n) (tys e.t.kids) (exs e.kids) (als e.alts) (bds e.binds) (iv e.at_) (iv e.kind) (sv e.name) (iv e.n) (iv e.t.kind) (sv e.t.name) (iv e.t.n) (tys e.t.kids) (exs e'.kids) (als e'.alts) (bds e'.binds) (iv e'.at_)) (1,[iv e.kind,sv e.name,iv e.n,iv e.t.kind,sv e.t.name,iv e.t.n,tys e.t.kids,exs e.kids,als e.alts,bds e.binds,iv e.at_,iv e.kind,sv e.name,iv e.n,iv e.t.kind,sv e.t.name,iv e.t.n,tys e.t.kids,exs e'.kids,als e'.alts,bds e'.binds,iv e'.at_]) (by assumption) (fun i0 j0 x x' e0 hx hx' hi0 hm hxx=>by
   show body PG EE TT ev (q9b2a (iv (i0:Int)) (iv e.kind) (sv e.name) (iv e.n) (iv e.t.kind) (sv e.t.name) (iv e.t.n) (tys e.t.kids) (exs e.kids) (als e.alts) (bds e.binds) (iv e.at_) (iv e.kind) (sv e.name) (iv e.n) (iv e.t.kind) (sv e.t.name) (iv e.t.n) (tys e.t.kids) (exs e'.kids) (als e'.alts) (bds e'.binds) (iv e'.at_))=passK (ev (q9b2a (iv (j0:Int)) (iv e.kind) (sv e.name) (iv e.n) (iv e.t.kind) (sv e.t.name) (iv e.t.n) (tys e.t.kids) (exs e.kids) (als e.alts) (bds e.binds) (iv e.at_) (iv e.kind) (sv e.name) (iv e.n) (iv e.t.kind) (sv e.t.name) (iv e.t.n) (tys e.t.kids) (exs e'.kids) (als e'.alts) (bds e'.binds) (iv e'.at_)))
   rw[h9b2a,g9b2a]
   simp[hi0,k2l,idxK_als hx,idxK_als hx']
   have g:=(h2 x hm).1 x'.p (al_er hxx).1;have g2:=(h2 x hm).2 x'.e (al_er hxx).2;simp[g,g2]
   simp[e0]) (by
   show body PG EE TT ev (q9b2a (iv (e.alts.length:Int)) (iv e.kind) (sv e.name) (iv e.n) (iv e.t.kind) (sv e.t.name) (iv e.t.n) (tys e.t.kids) (exs e.kids) (als e.alts) (bds e.binds) (iv e.at_) (iv e.kind) (sv e.name) (iv e.n) (iv e.t.kind) (sv e.t.name) (iv e.t.n) (tys e.t.kids) (exs e'.kids) (als e'.alts) (bds e'.binds) (iv e'.at_))=_
   rw[h9b2a,g9b2a]
   simp[k2l])
 exact Evl.of (by
  rw[h9,g9]
  simp[k1l,k2l,k3l]
  simp[g0]
  simp[g3]
  simp[k1]
  simp[k2])
mutual
theorem ex_same:∀(e:Ex),e.Ok→SamE e
 |.mk k s n t ks xs bs a,h=>by
  rw[Ex.Ok] at h
  exact ex_step (.mk k s n t ks xs bs a) h.1 h.2.1.1 (ex_sameL ks h.2.1.2) h.2.2.1.1 (al_sameL xs h.2.2.1.2) h.2.2.2.1 (bd_sameL bs h.2.2.2.2)
theorem ex_sameL:∀(l:List Ex),Ex.OkL l→∀x∈l,SamE x
 |[],_,x,hx=>by cases hx
 |y::l,h,x,hx=>by
  rw[Ex.OkL] at h
  exact(List.mem_cons.1 hx).elim (fun e=>e ▸ ex_same y h.1) (fun hx=>ex_sameL l h.2 x hx)
theorem al_sameL:∀(l:List Al),Al.OkL l→∀x∈l,SamP x.p∧SamE x.e
 |[],_,x,hx=>by cases hx
 |.mk p e::l,h,x,hx=>by
  rw[Al.OkL,Al.Ok] at h
  exact(List.mem_cons.1 hx).elim (fun q=>q ▸ ⟨pat_same h.1.1,ex_same e h.1.2⟩) (fun hx=>al_sameL l h.2 x hx)
theorem bd_sameL:∀(l:List Bd),Bd.OkL l→∀x∈l,SamE x.e
 |[],_,x,hx=>by cases hx
 |.mk s e a::l,h,x,hx=>by
  rw[Bd.OkL,Bd.Ok] at h
  exact(List.mem_cons.1 hx).elim (fun q=>q ▸ ex_same e h.1) (fun hx=>bd_sameL l h.2 x hx)
end
theorem bd_same{b:Bd}(h:b.Ok):SamE b.e:=by
 cases b with
 |mk s e a=>rw[Bd.Ok] at h;exact ex_same e h
theorem data_same{v v':Dt}(h:v.Ok)(he:v.er=v'.er):ev (q14 (sv v.name) (strs v.params) (cns v.cons) (strs v.deriv) (iv v.at_) (sv v'.name) (strs v'.params) (cns v'.cons) (strs v'.deriv) (iv v'.at_))=some (0,[bv true]):=by
 unfold Dt.er at he
 injection he with q1 q2 q3 q4
 rw[←q1,←q2,←q4]
 obtain⟨h1,⟨h2,h3⟩,h4⟩:=h
 have g1:=texts_same v.params h1
 have g2:=texts_same v.deriv h4
 have lpl:v'.cons.length=v.cons.length:=map_len (f:=Cn.er) q3
 have lp:ev (q14b0a (iv 0) (sv v.name) (strs v.params) (cns v.cons) (strs v.deriv) (iv v.at_) (sv v.name) (strs v.params) (cns v'.cons) (strs v.deriv) (iv v'.at_))=some (1,[sv v.name,strs v.params,cns v.cons,strs v.deriv,iv v.at_,sv v.name,strs v.params,cns v'.cons,strs v.deriv,iv v'.at_]):=same_loop v.cons v'.cons Cn.er q3 (fun i0=>q14b0a (iv (i0:Int)) (sv v.name) (strs v.params) (cns v.cons) (strs v.deriv) (iv v.at_) (sv v.name) (strs v.params) (cns v'.cons) (strs v.deriv) (iv v'.at_)) (1,[sv v.name,strs v.params,cns v.cons,strs v.deriv,iv v.at_,sv v.name,strs v.params,cns v'.cons,strs v.deriv,iv v'.at_]) (by assumption) (fun i0 j0 x x' e0 hx hx' hi0 hm hxx=>by
   show body PG EE TT ev (q14b0a (iv (i0:Int)) (sv v.name) (strs v.params) (cns v.cons) (strs v.deriv) (iv v.at_) (sv v.name) (strs v.params) (cns v'.cons) (strs v.deriv) (iv v'.at_))=passK (ev (q14b0a (iv (j0:Int)) (sv v.name) (strs v.params) (cns v.cons) (strs v.deriv) (iv v.at_) (sv v.name) (strs v.params) (cns v'.cons) (strs v.deriv) (iv v'.at_)))
   rw[h14b0a,g14b0a]
   simp[hi0,lpl,idxK_cns hx,idxK_cns hx']
   have g:=types_same x.args (h3 x hm).1 (fun y hy=>type_same ((h3 x hm).2 y hy));unfold Cn.er at hxx;injection hxx with c1 c2;simp[←c1,←c2,g]
   simp[e0]) (by
   show body PG EE TT ev (q14b0a (iv (v.cons.length:Int)) (sv v.name) (strs v.params) (cns v.cons) (strs v.deriv) (iv v.at_) (sv v.name) (strs v.params) (cns v'.cons) (strs v.deriv) (iv v'.at_))=_
   rw[h14b0a,g14b0a]
   simp[lpl])
 exact Evl.of (by
  rw[h14,g14]
  simp[lpl]
  simp[g1]
  simp[g2]
  simp[lp])
theorem class_same{v v':Cl}(h:v.Ok)(he:v.er=v'.er):ev (q15 (sv v.name) (sv v.var) (strs v.supers) (mds v.methods) (bds v.defaults) (iv v.at_) (sv v'.name) (sv v'.var) (strs v'.supers) (mds v'.methods) (bds v'.defaults) (iv v'.at_))=some (0,[bv true]):=by
 unfold Cl.er at he
 injection he with q1 q2 q3 q4 q5
 rw[←q1,←q2,←q3]
 obtain⟨h1,⟨h2,h3⟩,h4,h5⟩:=h
 have g1:=texts_same v.supers h1
 have g2:=binds_same v.defaults v'.defaults q5 h4 (fun x hx=>bd_same (h5 x hx))
 have l2:=map_len q5
 have lpl:v'.methods.length=v.methods.length:=map_len (f:=Md.er) q4
 have lp:ev (q15b0a (iv 0) (sv v.name) (sv v.var) (strs v.supers) (mds v.methods) (bds v.defaults) (iv v.at_) (sv v.name) (sv v.var) (strs v.supers) (mds v'.methods) (bds v'.defaults) (iv v'.at_))=some (1,[sv v.name,sv v.var,strs v.supers,mds v.methods,bds v.defaults,iv v.at_,sv v.name,sv v.var,strs v.supers,mds v'.methods,bds v'.defaults,iv v'.at_]):=same_loop v.methods v'.methods Md.er q4 (fun i0=>q15b0a (iv (i0:Int)) (sv v.name) (sv v.var) (strs v.supers) (mds v.methods) (bds v.defaults) (iv v.at_) (sv v.name) (sv v.var) (strs v.supers) (mds v'.methods) (bds v'.defaults) (iv v'.at_)) (1,[sv v.name,sv v.var,strs v.supers,mds v.methods,bds v.defaults,iv v.at_,sv v.name,sv v.var,strs v.supers,mds v'.methods,bds v'.defaults,iv v'.at_]) (by assumption) (fun i0 j0 x x' e0 hx hx' hi0 hm hxx=>by
   show body PG EE TT ev (q15b0a (iv (i0:Int)) (sv v.name) (sv v.var) (strs v.supers) (mds v.methods) (bds v.defaults) (iv v.at_) (sv v.name) (sv v.var) (strs v.supers) (mds v'.methods) (bds v'.defaults) (iv v'.at_))=passK (ev (q15b0a (iv (j0:Int)) (sv v.name) (sv v.var) (strs v.supers) (mds v.methods) (bds v.defaults) (iv v.at_) (sv v.name) (sv v.var) (strs v.supers) (mds v'.methods) (bds v'.defaults) (iv v'.at_)))
   rw[h15b0a,g15b0a]
   simp[hi0,lpl,idxK_mds hx,idxK_mds hx']
   have g:=type_same (h3 x hm);unfold SamT at g;unfold Md.er at hxx;injection hxx with c1 c2;simp[←c1,←c2,g]
   simp[e0]) (by
   show body PG EE TT ev (q15b0a (iv (v.methods.length:Int)) (sv v.name) (sv v.var) (strs v.supers) (mds v.methods) (bds v.defaults) (iv v.at_) (sv v.name) (sv v.var) (strs v.supers) (mds v'.methods) (bds v'.defaults) (iv v'.at_))=_
   rw[h15b0a,g15b0a]
   simp[lpl])
 exact Evl.of (by
  rw[h15,g15]
  simp[lpl,l2]
  simp[g1]
  simp[lp]
  simp[g2])
theorem inst_same{v v':It}(h:v.Ok)(he:v.er=v'.er):ev (q16 (sv v.cls) (iv v.head.kind) (sv v.head.name) (iv v.head.n) (tys v.head.kids) (pds v.ctx) (bds v.binds) (iv v.at_) (sv v'.cls) (iv v'.head.kind) (sv v'.head.name) (iv v'.head.n) (tys v'.head.kids) (pds v'.ctx) (bds v'.binds) (iv v'.at_))=some (0,[bv true]):=by
 unfold It.er at he
 injection he with q1 q2 q3 q4
 rw[←q1,←q2,←q3]
 obtain⟨h1,⟨h2,h3⟩,h4,h5⟩:=h
 have g1:=type_same h1
 unfold SamT at g1
 have g2:=binds_same v.binds v'.binds q4 h4 (fun x hx=>bd_same (h5 x hx))
 have l2:=map_len q4
 have lpl:v.ctx.length=v.ctx.length:=map_len (f:=id) rfl
 have lp:ev (q16b0a (iv 0) (sv v.cls) (iv v.head.kind) (sv v.head.name) (iv v.head.n) (tys v.head.kids) (pds v.ctx) (bds v.binds) (iv v.at_) (sv v.cls) (iv v.head.kind) (sv v.head.name) (iv v.head.n) (tys v.head.kids) (pds v.ctx) (bds v'.binds) (iv v'.at_))=some (1,[sv v.cls,iv v.head.kind,sv v.head.name,iv v.head.n,tys v.head.kids,pds v.ctx,bds v.binds,iv v.at_,sv v.cls,iv v.head.kind,sv v.head.name,iv v.head.n,tys v.head.kids,pds v.ctx,bds v'.binds,iv v'.at_]):=same_loop v.ctx v.ctx id rfl (fun i0=>q16b0a (iv (i0:Int)) (sv v.cls) (iv v.head.kind) (sv v.head.name) (iv v.head.n) (tys v.head.kids) (pds v.ctx) (bds v.binds) (iv v.at_) (sv v.cls) (iv v.head.kind) (sv v.head.name) (iv v.head.n) (tys v.head.kids) (pds v.ctx) (bds v'.binds) (iv v'.at_)) (1,[sv v.cls,iv v.head.kind,sv v.head.name,iv v.head.n,tys v.head.kids,pds v.ctx,bds v.binds,iv v.at_,sv v.cls,iv v.head.kind,sv v.head.name,iv v.head.n,tys v.head.kids,pds v.ctx,bds v'.binds,iv v'.at_]) (by assumption) (fun i0 j0 x x' e0 hx hx' hi0 hm hxx=>by
   show body PG EE TT ev (q16b0a (iv (i0:Int)) (sv v.cls) (iv v.head.kind) (sv v.head.name) (iv v.head.n) (tys v.head.kids) (pds v.ctx) (bds v.binds) (iv v.at_) (sv v.cls) (iv v.head.kind) (sv v.head.name) (iv v.head.n) (tys v.head.kids) (pds v.ctx) (bds v'.binds) (iv v'.at_))=passK (ev (q16b0a (iv (j0:Int)) (sv v.cls) (iv v.head.kind) (sv v.head.name) (iv v.head.n) (tys v.head.kids) (pds v.ctx) (bds v.binds) (iv v.at_) (sv v.cls) (iv v.head.kind) (sv v.head.name) (iv v.head.n) (tys v.head.kids) (pds v.ctx) (bds v'.binds) (iv v'.at_)))
   rw[h16b0a,g16b0a]
   simp[hi0,lpl,idxK_pds hx,idxK_pds hx']
   have g:=type_same (show x.t.Ok from h3 x hm);unfold SamT at g;cases hxx;simp[g]
   simp[e0]) (by
   show body PG EE TT ev (q16b0a (iv (v.ctx.length:Int)) (sv v.cls) (iv v.head.kind) (sv v.head.name) (iv v.head.n) (tys v.head.kids) (pds v.ctx) (bds v.binds) (iv v.at_) (sv v.cls) (iv v.head.kind) (sv v.head.name) (iv v.head.n) (tys v.head.kids) (pds v.ctx) (bds v'.binds) (iv v'.at_))=_
   rw[h16b0a,g16b0a]
   simp[lpl])
 exact Evl.of (by
  rw[h16,g16]
  simp[l2]
  simp[g1]
  simp[lp]
  simp[g2])
theorem prog_same(d d':List Dt)(c c':List Cl)(i i':List It)(b b':List Bd)(qd:d.map Dt.er=d'.map Dt.er)(qc:c.map Cl.er=c'.map Cl.er)(qi:i.map It.er=i'.map It.er)(qb:b.map Bd.er=b'.map Bd.er)(hd:d.length≤maxN)(hd':∀x∈d,x.Ok)(hc:c.length≤maxN)(hc':∀x∈c,x.Ok)(hi:i.length≤maxN)(hi':∀x∈i,x.Ok)(hb:b.length≤maxN)(hb':∀x∈b,x.Ok):ev (q8 (dts d) (cls c) (its i) (bds b) (dts d') (cls c') (its i') (bds b'))=some (0,[bv true]):=by
 have g:=binds_same b b' qb hb (fun x hx=>bd_same (hb' x hx))
 have l4:=map_len qb
 have k1l:d'.length=d.length:=map_len (f:=Dt.er) qd
 have k1:ev (q8b0a (iv 0) (dts d) (cls c) (its i) (bds b) (dts d') (cls c') (its i') (bds b'))=some (1,[dts d,cls c,its i,bds b,dts d',cls c',its i',bds b']):=same_loop d d' Dt.er qd (fun i0=>q8b0a (iv (i0:Int)) (dts d) (cls c) (its i) (bds b) (dts d') (cls c') (its i') (bds b')) (1,[dts d,cls c,its i,bds b,dts d',cls c',its i',bds b']) (by assumption) (fun i0 j0 x x' e0 hx hx' hi0 hm hxx=>by
   show body PG EE TT ev (q8b0a (iv (i0:Int)) (dts d) (cls c) (its i) (bds b) (dts d') (cls c') (its i') (bds b'))=passK (ev (q8b0a (iv (j0:Int)) (dts d) (cls c) (its i) (bds b) (dts d') (cls c') (its i') (bds b')))
   rw[h8b0a,g8b0a]
   simp[hi0,k1l,idxK_dts hx,idxK_dts hx']
   have g:=data_same (hd' x hm) hxx;simp[g]
   simp[e0]) (by
   show body PG EE TT ev (q8b0a (iv (d.length:Int)) (dts d) (cls c) (its i) (bds b) (dts d') (cls c') (its i') (bds b'))=_
   rw[h8b0a,g8b0a]
   simp[k1l])
 have k2l:c'.length=c.length:=map_len (f:=Cl.er) qc
 have k2:ev (q8b2a (iv 0) (dts d) (cls c) (its i) (bds b) (dts d') (cls c') (its i') (bds b'))=some (1,[dts d,cls c,its i,bds b,dts d',cls c',its i',bds b']):=same_loop c c' Cl.er qc (fun i0=>q8b2a (iv (i0:Int)) (dts d) (cls c) (its i) (bds b) (dts d') (cls c') (its i') (bds b')) (1,[dts d,cls c,its i,bds b,dts d',cls c',its i',bds b']) (by assumption) (fun i0 j0 x x' e0 hx hx' hi0 hm hxx=>by
   show body PG EE TT ev (q8b2a (iv (i0:Int)) (dts d) (cls c) (its i) (bds b) (dts d') (cls c') (its i') (bds b'))=passK (ev (q8b2a (iv (j0:Int)) (dts d) (cls c) (its i) (bds b) (dts d') (cls c') (its i') (bds b')))
   rw[h8b2a,g8b2a]
   simp[hi0,k2l,idxK_cls hx,idxK_cls hx']
   have g:=class_same (hc' x hm) hxx;simp[g]
   simp[e0]) (by
   show body PG EE TT ev (q8b2a (iv (c.length:Int)) (dts d) (cls c) (its i) (bds b) (dts d') (cls c') (its i') (bds b'))=_
   rw[h8b2a,g8b2a]
   simp[k2l])
 have k3l:i'.length=i.length:=map_len (f:=It.er) qi
 have k3:ev (q8b4a (iv 0) (dts d) (cls c) (its i) (bds b) (dts d') (cls c') (its i') (bds b'))=some (1,[dts d,cls c,its i,bds b,dts d',cls c',its i',bds b']):=same_loop i i' It.er qi (fun i0=>q8b4a (iv (i0:Int)) (dts d) (cls c) (its i) (bds b) (dts d') (cls c') (its i') (bds b')) (1,[dts d,cls c,its i,bds b,dts d',cls c',its i',bds b']) (by assumption) (fun i0 j0 x x' e0 hx hx' hi0 hm hxx=>by
   show body PG EE TT ev (q8b4a (iv (i0:Int)) (dts d) (cls c) (its i) (bds b) (dts d') (cls c') (its i') (bds b'))=passK (ev (q8b4a (iv (j0:Int)) (dts d) (cls c) (its i) (bds b) (dts d') (cls c') (its i') (bds b')))
   rw[h8b4a,g8b4a]
   simp[hi0,k3l,idxK_its hx,idxK_its hx']
   have g:=inst_same (hi' x hm) hxx;simp[g]
   simp[e0]) (by
   show body PG EE TT ev (q8b4a (iv (i.length:Int)) (dts d) (cls c) (its i) (bds b) (dts d') (cls c') (its i') (bds b'))=_
   rw[h8b4a,g8b4a]
   simp[k3l])
 exact Evl.of (by
  rw[h8,g8]
  simp[k1l,k2l,k3l,l4]
  simp[k1]
  simp[k2]
  simp[k3]
  simp[g])
set_option linter.all false
def PgOk(b:ByteArray)(p:Pg):Prop:=(∃L m x,scanT b=.ok L∧progG L m pg0 0 0=.ok p x)∧p.aw≤3000000∧ev (q7 (sv b))=some (0,pgC p++[iv 0,iv 0])
theorem gp_prog{L:List Tk}:∀m p,Gp L.length 0 (progG L m p)
 |0,p=>gp_no fun d a=>by rw[progG];rfl
 |m+1,p=>by
  rw[progG]
  have k:∀p,Gp L.length 0 (bindG (takeG L 7 sSem) fun _=>progG L m p):=fun p=>.le (.bind1 (.take (by decide) _) fun _=>gp_prog m _)
  exact .kind (.pure _) (.may (.le (.bind1 (gp_data m) fun x=>k _)) (.may (.le (.bind1 (gp_class m) fun x=>k _)) (.may (.le (.bind1 (gp_inst m) fun x=>k _)) (.le (.bind1 (.take (by decide) _) fun _=>.le (.bind1 (gp_e m).bd fun x=>k _))) (by decide)) (by decide)) (by decide))
theorem prog_end_le{L:List Tk}{m x:Nat}{p:Pg}(hl:L.length≤60001)(h:progG L m pg0 0 0=.ok p x):x≤1000000:=by
 have:=gp_prog (L:=L) m pg0 0 0 p x h
 omega
theorem prog_two(b:ByteArray)(hb:b.size≤1000000):(∃p,PgOk b p)∨∃e w,e≠0∧ev (q7 (sv b))=some (0,[nS,nS,nS,nS,iv e,iv w]):=by
 have hx:=pprog_x b hb
 cases hs:scanT b with
 |error p=>
  obtain⟨c,k⟩:=p
  rw[hs] at hx
  exact .inr ⟨c,k,scanT_bad hs,hx⟩
 |ok L=>
  rw[hs] at hx
  obtain⟨m,hm⟩:=prog_ends L pg0 0
  have hx:=hx m
  cases hr:progG L m pg0 0 0 with
  |out=>exact absurd hr hm
  |err e w=>
   have hx:PPr b (progG L m pg0 0 0):=hx
   rw[hr] at hx
   exact .inr ⟨e,w,progEr hr,hx⟩
  |ok p x=>
   have hx:PPr b (progG L m pg0 0 0):=hx
   rw[hr] at hx
   exact .inl ⟨p,⟨L,m,x,hs,hr⟩,progOk hr (prog_end_le (scanT_ok hs).2.1 hr) rfl,hx⟩
theorem both_x{a b S:ByteArray}{p q:Pg}(hS:S.data.toList=a.data.toList++10::b.data.toList)(hl:S.size≤60000)(ha:PgOk a p)(hb:PgOk b q):∃r,PgOk S r∧r.er=(p.add q).er:=by
 obtain⟨⟨La,m,x,s1,g1⟩,_,_⟩:=ha
 obtain⟨⟨Lb,m2,y,s2,g2⟩,_,_⟩:=hb
 obtain⟨Lab,ea,eb,s3,e1,e2,h1,h2⟩:=sep_scan hS hl s1 s2
 obtain⟨n,r,z,g3,he⟩:=prog_both e1 e2 h1 h2 g1 g2
 refine⟨r,⟨⟨Lab,n,z,s3,g3⟩,progOk g3 (prog_end_le (scanT_ok s3).2.1 g3) rfl,?_⟩,he⟩
 have hx:=pprog_x S (by omega)
 rw[s3] at hx
 have hx:PPr S (progG Lab n pg0 0 0):=hx n
 rw[g3] at hx
 exact hx
theorem both_same{p q r:Pg}(hr:r.Ok)(he:r.er=(p.add q).er):ev (q8 (dts r.datas) (cls r.classes) (its r.insts) (bds r.binds) (dts (p.datas++q.datas)) (cls (p.classes++q.classes)) (its (p.insts++q.insts)) (bds (p.binds++q.binds)))=some (0,[bv true]):=by
 unfold Pg.er at he
 injection he with h1 h2
 injection h1 with h3 h4 h5
 exact prog_same _ _ _ _ _ _ _ _ h3 h4 h5 h2 hr.d.1 hr.d.2 hr.c.1 hr.c.2 hr.i.1 hr.i.2 hr.b.1 hr.b.2
def ExOk(b:ByteArray)(v:Ex):Prop:=(∃L m x,scanT b=.ok L∧expG L m 0 0=.ok v x∧(tkAt L x).kind=0)∧v.Ok∧ev (q6 (sv b))=some (0,exC v++[iv 0,iv 0])
theorem exp_two(b:ByteArray)(hb:b.size≤1000000):(∃v,ExOk b v)∨∃e w,e≠0∧ev (q6 (sv b))=some (0,zX++[iv e,iv w]):=by
 cases hs:scanT b with
 |error p=>
  obtain⟨c,k⟩:=p
  exact .inr ⟨c,k,scanT_bad hs,pexp_bad b hb hs⟩
 |ok L=>
  obtain⟨m,hm⟩:=exp_ends L 0
  have hx:=pexp_x b hb hs m
  cases hr:expG L m 0 0 with
  |out=>exact absurd hr hm
  |err e w=>
   rw[hr] at hx
   exact .inr ⟨e,w,expEr hr,hx⟩
  |ok v x=>
   rw[hr] at hx
   have hx:_=_:=hx
   by_cases h0:(tkAt L x).kind=0
   ·rw[if_pos h0] at hx
    have:=(gp_e (L:=L) m).ex 0 0 v x hr
    have:=(scanT_ok hs).2.1
    exact .inl ⟨v,⟨L,m,x,hs,hr,h0⟩,expOk hr (by omega),hx⟩
   ·rw[if_neg h0] at hx
    exact .inr ⟨110,_,by decide,hx⟩
theorem br_x{a S:ByteArray}{v:Ex}(hS:S.data.toList=brL a.data.toList)(hl:S.size≤60000)(ha:ExOk a v):(∃v',v.er=v'.er∧ev (q6 (sv S))=some (0,exC v'++[iv 0,iv 0]))∨∃w,ev (q6 (sv S))=some (0,zX++[iv 111,iv w]):=by
 obtain⟨⟨L,m,x,s1,g1,k1⟩,_,_⟩:=ha
 obtain⟨L',e,w,w2,w3,s2,h1,h2,h3,h4,h5,h6,h7⟩:=br_scan hS hl s1
 rcases exp_br h1 h2 h3 h4 h5 h6 h7 g1 k1 with⟨M,v',g2,he⟩|⟨M,y,g2⟩
 ·have hx:=pexp_x S (by omega) s2 M
  rw[g2] at hx
  have hx:_=_:=hx
  rw[if_pos (by rw[h7])] at hx
  exact .inl ⟨v',he,hx⟩
 ·have hx:=pexp_x S (by omega) s2 M
  rw[g2] at hx
  exact .inr ⟨y,hx⟩
end Go.Proofs.YtfphhabaeggenaaDoor
