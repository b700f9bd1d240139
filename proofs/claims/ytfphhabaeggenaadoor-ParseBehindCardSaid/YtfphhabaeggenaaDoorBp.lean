/- Joined texts. -/
import Derived.Test.YtfphhabaeggenaaDoorBe
import Derived.Test.YtfphhabaeggenaaDoorBy
set_option linter.all false
namespace Go.Proofs.YtfphhabaeggenaaDoor
open Go.RowKit
set_option linter.all false
def Gp(N:Nat)(c:Nat){α:Type}(g:GM α):Prop:=∀d a v b,g d a=.ok v b→a+c≤b∧b≤max a N
def Nt(N:Nat)(r:Nat){α:Type}(g:GM α):Prop:=∀d a,N-a≤r→g d a≠.out
section
variable{α β:Type}{N c r:Nat}
theorem Gp.le{g:GM α}(h:Gp N 1 g):Gp N 0 g:=fun d a v b e=>by have:=h d a v b e;omega
theorem Gp.pure(v:α):Gp N 0 (pureG v):=fun d a w b e=>by cases e;omega
theorem Gp.bind0{p:GM β}{k:β→GM α}(hp:Gp N 0 p)(hk:∀x,Gp N 0 (k x)):Gp N 0 (bindG p k):=fun d a v b e=>by
 unfold bindG at e
 cases hr:p d a with
 |out=>rw[hr] at e;cases e
 |err x y=>rw[hr] at e;cases e
 |ok x m=>rw[hr] at e;have h1:=hp d a x m hr;have h2:=hk x d m v b e;omega
theorem Gp.bind1{p:GM β}{k:β→GM α}(hp:Gp N 1 p)(hk:∀x,Gp N 0 (k x)):Gp N 1 (bindG p k):=fun d a v b e=>by
 unfold bindG at e
 cases hr:p d a with
 |out=>rw[hr] at e;cases e
 |err x y=>rw[hr] at e;cases e
 |ok x m=>rw[hr] at e;have h1:=hp d a x m hr;have h2:=hk x d m v b e;omega
theorem Gp.if'{C:Prop}[Decidable C]{A B:GM α}(h1:Gp N c A)(h2:Gp N c B):Gp N c (if C then A else B):=by split<;>assumption
theorem Nt.pure(v:α):Nt N r (pureG v):=fun d a _ e=>by cases e
theorem Nt.bind0{p:GM β}{k:β→GM α}(hp:Nt N r p)(hg:Gp N 0 p)(hk:∀x,Nt N r (k x)):Nt N r (bindG p k):=fun d a ha e=>by
 unfold bindG at e
 cases hr:p d a with
 |out=>exact hp d a ha hr
 |err x y=>rw[hr] at e;cases e
 |ok x m=>rw[hr] at e;have h1:=hg d a x m hr;exact hk x d m (by omega) e
theorem Nt.bind1{p:GM β}{k:β→GM α}(hp:Nt N r p)(hg:Gp N 1 p)(hk:∀r',r=r'+1→∀x,Nt N r' (k x)):Nt N r (bindG p k):=fun d a ha e=>by
 unfold bindG at e
 cases hr:p d a with
 |out=>exact hp d a ha hr
 |err x y=>rw[hr] at e;cases e
 |ok x m=>rw[hr] at e;have h1:=hg d a x m hr;exact hk (r-1) (by omega) x d m (by omega) e
theorem Nt.if'{C:Prop}[Decidable C]{A B:GM α}(h1:Nt N r A)(h2:Nt N r B):Nt N r (if C then A else B):=by split<;>assumption
end
section
variable{L:List Tk}{α:Type}{c r:Nat}
theorem tk_in{a:Nat}(h:(tkAt L a).kind≠0):a<L.length:=by
 apply Decidable.byContradiction
 intro hn
 apply h
 unfold tkAt
 rw[List.getElem?_eq_none (by omega)]
 rfl
theorem isT_at{a:Nat}{x:ByteArray}(h:isT L x a=true):a<L.length:=tk_in fun h0=>by
 unfold isT at h;rw[h0] at h;simp at h
theorem Gp.take{k:Int}(hk:k≠0)(x:ByteArray):Gp L.length 1 (takeG L k x):=fun d a v b e=>by
 unfold takeG at e
 split at e
 ·rename_i h
  cases e
  have:a<L.length:=by
   unfold okT at h
   split at h
   ·exact tk_in (by simp at h;rw[h];exact hk)
   ·exact isT_at h
  omega
 ·cases e
theorem Gp.up{g:GM α}(h:Gp L.length 0 g):∀d a v b,a<L.length→upG g d a=.ok v b→a+1≤b∧b≤max a L.length:=fun d a v b ha e=>by
 have:=h d (a+1) v b e;omega
theorem Gp.may{x:ByteArray}{A B:GM α}(h1:Gp L.length 0 A)(h2:Gp L.length c B)(hc:c≤1):Gp L.length c (mayG L x A B):=fun d a v b e=>by
 unfold mayG at e
 split at e
 ·rename_i h
  have:=isT_at h
  have:=h1 d (a+1) v b e;omega
 ·exact h2 d a v b e
theorem Gp.kind{k:Int}{A B:GM α}(h1:Gp L.length c A)(h2:Gp L.length c B):Gp L.length c (kindG L k A B):=fun d a v b e=>by
 unfold kindG at e
 split at e
 ·exact h1 d a v b e
 ·exact h2 d a v b e
theorem Gp.kindU{k:Int}(hk:k≠0){f:Tk→GM α}{B:GM α}(h1:∀t,Gp L.length 0 (f t))(h2:Gp L.length c B)(hc:c≤1):Gp L.length c (kindG L k (nextG L fun t=>upG (f t)) B):=fun d a v b e=>by
 unfold kindG at e
 split at e
 ·rename_i h
  have:=tk_in (L:=L) (a:=a) (by rw[h];exact hk)
  have:=Gp.up (h1 _) d a v b this e;omega
 ·exact h2 d a v b e
theorem Gp.st{w:Int}{A B:GM α}(h1:Gp L.length c A)(h2:Gp L.length c B):Gp L.length c (stG L w A B):=fun d a v b e=>by
 unfold stG at e
 split at e
 ·exact h1 d a v b e
 ·exact h2 d a v b e
theorem Gp.next{f:Tk→GM α}(h:∀t,Gp L.length c (f t)):Gp L.length c (nextG L f):=fun d a v b e=>h _ d a v b e
theorem Gp.deep{A:GM α}(h:Gp L.length c A):Gp L.length c (deepG L A):=fun d a v b e=>by
 unfold deepG at e
 split at e
 ·cases e
 ·exact h _ a v b e
theorem Nt.take(k:Int)(x:ByteArray):Nt L.length r (takeG L k x):=fun d a _ e=>by
 unfold takeG at e
 split at e<;>cases e
theorem Nt.may{x:ByteArray}{A B:GM α}(h1:∀r',r=r'+1→Nt L.length r' A)(h2:Nt L.length r B):Nt L.length r (mayG L x A B):=fun d a ha e=>by
 unfold mayG at e
 split at e
 ·rename_i h
  have:=isT_at h
  exact h1 (r-1) (by omega) d (a+1) (by omega) e
 ·exact h2 d a ha e
theorem Nt.kind{k:Int}{A B:GM α}(h1:Nt L.length r A)(h2:Nt L.length r B):Nt L.length r (kindG L k A B):=fun d a ha e=>by
 unfold kindG at e
 split at e
 ·exact h1 d a ha e
 ·exact h2 d a ha e
theorem Nt.kindU{k:Int}(hk:k≠0){f:Tk→GM α}{B:GM α}(h1:∀r',r=r'+1→∀t,Nt L.length r' (f t))(h2:Nt L.length r B):Nt L.length r (kindG L k (nextG L fun t=>upG (f t)) B):=fun d a ha e=>by
 unfold kindG at e
 split at e
 ·rename_i h
  have:=tk_in (L:=L) (a:=a) (by rw[h];exact hk)
  exact h1 (r-1) (by omega) _ d (a+1) (by omega) e
 ·exact h2 d a ha e
theorem Nt.st{w:Int}{A B:GM α}(h1:Nt L.length r A)(h2:Nt L.length r B):Nt L.length r (stG L w A B):=fun d a ha e=>by
 unfold stG at e
 split at e
 ·exact h1 d a ha e
 ·exact h2 d a ha e
theorem Nt.next{f:Tk→GM α}(h:∀t,Nt L.length r (f t)):Nt L.length r (nextG L f):=fun d a ha e=>h _ d a ha e
theorem Nt.deep{A:GM α}(h:Nt L.length r A):Nt L.length r (deepG L A):=fun d a ha e=>by
 unfold deepG at e
 split at e
 ·cases e
 ·exact h _ a ha e
def GpT(L:List Tk)(c:Nat){α:Type}(f:Tk→GM α):Prop:=∀d a v b,f (tkAt L a) d a=.ok v b→a+c≤b∧b≤max a L.length
def NtT(L:List Tk)(r:Nat){α:Type}(f:Tk→GM α):Prop:=∀d a,L.length-a≤r→f (tkAt L a) d a≠.out
theorem Gp.nextT{f:Tk→GM α}(h:GpT L c f):Gp L.length c (nextG L f):=h
theorem GpT.of{f:Tk→GM α}(h:∀t,Gp L.length c (f t)):GpT L c f:=fun d a v b e=>h _ d a v b e
theorem GpT.if'{k:Int}(hk:k≠0){q B:Tk→GM α}(h1:∀t,Gp L.length 0 (q t))(h2:GpT L c B)(hc:c≤1):GpT L c fun t=>if t.kind=k then upG (q t) else B t:=fun d a v b e=>by
 simp only at e
 split at e
 ·rename_i h
  have:=tk_in (L:=L) (a:=a) (by rw[h];exact hk)
  have:=Gp.up (h1 _) d a v b this e;omega
 ·exact h2 d a v b e
theorem GpT.bind1{β:Type}{p:Tk→GM β}{k:Tk→β→GM α}(hp:GpT L 1 p)(hk:∀t x,Gp L.length 0 (k t x)):GpT L 1 fun t=>bindG (p t) (k t):=fun d a v b e=>by
 have e:bindG (p (tkAt L a)) (k (tkAt L a)) d a=.ok v b:=e
 unfold bindG at e
 cases hr:p (tkAt L a) d a with
 |out=>rw[hr] at e;cases e
 |err x y=>rw[hr] at e;cases e
 |ok x m=>rw[hr] at e;have h1:=hp d a x m hr;have h2:=hk _ x d m v b e;omega
theorem Nt.nextT{f:Tk→GM α}(h:NtT L r f):Nt L.length r (nextG L f):=h
theorem NtT.of{f:Tk→GM α}(h:∀t,Nt L.length r (f t)):NtT L r f:=fun d a ha e=>h _ d a ha e
theorem NtT.if'{k:Int}(hk:k≠0){q B:Tk→GM α}(h1:∀r',r=r'+1→∀t,Nt L.length r' (q t))(h2:NtT L r B):NtT L r fun t=>if t.kind=k then upG (q t) else B t:=fun d a ha e=>by
 simp only at e
 split at e
 ·rename_i h
  have:=tk_in (L:=L) (a:=a) (by rw[h];exact hk)
  exact h1 (r-1) (by omega) _ d (a+1) (by omega) e
 ·exact h2 d a ha e
theorem NtT.bind1{β:Type}{p:Tk→GM β}{k:Tk→β→GM α}(hp:NtT L r p)(hg:GpT L 1 p)(hk:∀r',r=r'+1→∀t x,Nt L.length r' (k t x)):NtT L r fun t=>bindG (p t) (k t):=fun d a ha e=>by
 have e:bindG (p (tkAt L a)) (k (tkAt L a)) d a=.out:=e
 unfold bindG at e
 cases hr:p (tkAt L a) d a with
 |out=>exact hp d a ha hr
 |err x y=>rw[hr] at e;cases e
 |ok x m=>rw[hr] at e;have h1:=hg d a x m hr;exact hk (r-1) (by omega) _ x d m (by omega) e
theorem Gp.clash(l:List Ex)(o:List Tk):Gp L.length 0 (clashG l o):=fun d a v b e=>by
 unfold clashG at e
 cases h:clashF (vlv o) o.length o.length 0 with
 |some k=>rw[h] at e;cases e
 |none=>rw[h] at e;exact Gp.pure _ d a v b e
theorem Nt.clash(l:List Ex)(o:List Tk):Nt L.length r (clashG l o):=fun d a _ e=>by
 unfold clashG at e
 cases h:clashF (vlv o) o.length o.length 0 with
 |some k=>rw[h] at e;cases e
 |none=>rw[h] at e;cases e
end
set_option linter.all false
section
variable{L:List Tk}
theorem gp_no{α:Type}{N c:Nat}{g:GM α}(h:∀d a,g d a=.out):Gp N c g:=fun d a v b e=>by rw[h] at e;cases e
theorem gp_ty:∀m,Gp L.length 1 (typeF L m)∧Gp L.length 1 (atypeF L m)∧∀l,Gp L.length 0 (tyargsG L m l)
 |0=>⟨gp_no fun d a=>by rw[typeF],gp_no fun d a=>by rw[atypeF],fun l=>gp_no fun d a=>by unfold tyargsG;rw[argsF]⟩
 |m+1=>by
  obtain⟨h1,h2,h3⟩:=gp_ty m
  refine⟨?_,?_,fun l=>?_⟩
  ·rw[typeF_g]
   refine .deep (.nextT (.bind1 (.if' (by decide) (fun t=>.bind0 (h3 _) fun l=>.pure _) (.of fun t=>h2) (by decide)) fun t x=>?_))
   exact .may (.le (.bind1 h1 fun y=>.pure _)) (.pure _) (by decide)
  ·rw[atypeF_g]
   refine .nextT (.if' (by decide) (fun t=>.pure _) (.if' (by decide) (fun t=>.pure _) (.of fun t=>?_) (by decide)) (by decide))
   exact .bind1 (.take (by decide) _) fun _=>.may (.pure _) (.le (.bind1 h1 fun x=>.bind0 (.le (.take (by decide) _)) fun _=>.pure _)) (by decide)
  ·rw[argsF_g]
   exact .st (.le (.bind1 h2 fun x=>h3 _)) (.pure _)
theorem gp_pat:∀m,Gp L.length 1 (apatG L m)∧Gp L.length 1 (patG L m)∧∀l,Gp L.length 0 (patsG L m l)
 |0=>⟨gp_no fun d a=>by rw[apatG];rfl,gp_no fun d a=>by rw[patG];rfl,fun l=>gp_no fun d a=>by rw[patsG];rfl⟩
 |m+1=>by
  obtain⟨h1,h2,h3⟩:=gp_pat m
  refine⟨?_,?_,fun l=>?_⟩
  ·rw[apatG]
   refine .nextT (.if' (by decide) (fun t=>.pure _) (.if' (by decide) (fun t=>.pure _) (.if' (by decide) (fun t=>.pure _) (.of fun t=>?_) (by decide)) (by decide)) (by decide))
   intro d a v b e
   unfold mayG at e
   split at e
   ·rename_i h
    have:=isT_at h
    cases e
    omega
   ·exact(Gp.bind1 (Gp.take (by decide) _) fun _=>.may (.pure _) (.le (.bind1 h2 fun x=>.bind0 (.le (.take (by decide) _)) fun _=>.pure _)) (by decide):Gp L.length 1 (bindG (takeG L 7 sOp) fun _=>mayG L sCl (pureG (.mk 3 sUn 0 [] t.at_)) (bindG (patG L m) fun x=>bindG (takeG L 7 sCl) fun _=>pureG x))) d a v b e
  ·rw[patG]
   exact .deep (.next fun t=>.bind1 h1 fun x=>.if' (.bind0 (h3 _) fun l=>.pure _) (.pure _))
  ·rw[patsG]
   exact .st (.le (.bind1 h1 fun x=>h3 _)) (.pure _)
theorem gp_name:Gp L.length 1 (nameG L):=by
 unfold nameG
 intro d a v b e
 unfold mayG at e
 split at e
 ·rename_i h
  have h0:=isT_at h
  have:=(Gp.bind1 (Gp.take (by decide) _) fun t=>.bind0 (.le (.take (by decide) _)) fun _=>.pure t:Gp L.length 1 (bindG (takeG L 5 eB) fun t=>bindG (takeG L 7 sCl) fun _=>pureG t)) d (a+1) v b e
  omega
 ·exact Gp.take (by decide) _ d a v b e
structure GpE(L:List Tk)(m:Nat):Prop where
 ex:Gp L.length 1 (expG L m)
 ops:∀l o,Gp L.length 0 (opsG L m l o)
 opd:Gp L.length 1 (operandG L m)
 app:∀w x,Gp L.length 0 (appsG L m w x)
 lam:∀w,Gp L.length 1 (lambdaG L m w)
 lams:∀l,Gp L.length 1 (lamsG L m l)
 lt:∀k w,Gp L.length 1 (letG L m k w)
 bd:Gp L.length 1 (bdG L m)
 ands:∀l,Gp L.length 0 (andsG L m l)
 atom:Gp L.length 1 (atomG L m)
 alts:∀l,Gp L.length 1 (altsG L m l)
theorem Gp.may1{α:Type}{x:ByteArray}{A B:GM α}(h1:Gp L.length 0 A)(h2:Gp L.length 1 B):Gp L.length 1 (mayG L x A B):=.may h1 h2 (by decide)
theorem gp_e:∀m,GpE L m
 |0=>⟨gp_no fun d a=>by rw[expG];rfl,fun l o=>gp_no fun d a=>by rw[opsG];rfl,gp_no fun d a=>by rw[operandG];rfl,fun w x=>gp_no fun d a=>by rw[appsG];rfl,fun w=>gp_no fun d a=>by rw[lambdaG];rfl,fun l=>gp_no fun d a=>by rw[lamsG];rfl,fun k w=>gp_no fun d a=>by rw[letG];rfl,gp_no fun d a=>by rw[bdG];rfl,fun l=>gp_no fun d a=>by rw[andsG];rfl,gp_no fun d a=>by rw[atomG];rfl,fun l=>gp_no fun d a=>by rw[altsG];rfl⟩
 |m+1=>by
  have H:=gp_e m
  have T:=(gp_ty (L:=L) m).1
  have P:=(gp_pat (L:=L) m).2.1
  have tk:∀{k:Int} (x:ByteArray),k≠0→Gp L.length 1 (takeG L k x):=fun x hk=>.take hk x
  refine⟨?_,fun l o=>?_,?_,fun w x=>?_,fun w=>?_,fun l=>?_,fun k w=>?_,?_,fun l=>?_,?_,fun l=>?_⟩
  ·rw[expG];exact .deep (.bind1 H.opd fun x=>.bind0 (H.ops _ _) fun r=>.clash _ _)
  ·rw[opsG];exact .kind (.le (.bind1 (tk _ (by decide)) fun t=>.le (.bind1 H.opd fun x=>H.ops _ _))) (.pure _)
  ·rw[operandG]
   refine .next fun t=>.may1 (H.lam _).le (.may1 (.may (H.lt _ _).le (H.lt _ _).le (by decide)) (.may1 (.le ?_) (.bind1 H.atom fun x=>H.app _ _)))
   exact .bind1 H.ex fun a=>.le (.bind1 (tk _ (by decide)) fun _=>.le (.bind1 H.ex fun b=>.le (.bind1 (tk _ (by decide)) fun _=>.le (.bind1 H.ex fun c=>.pure _))))
  ·rw[appsG];exact .st (.le (.bind1 H.atom fun y=>H.app _ _)) (.pure _)
  ·rw[lambdaG];exact .bind1 (tk _ (by decide)) fun t=>(H.lams _).le
  ·rw[lamsG];exact .kindU (by decide) (fun t=>(H.lams _).le) (.bind1 (tk _ (by decide)) fun _=>.le (.bind1 H.ex fun e=>.pure _)) (by decide)
  ·rw[letG];exact .bind1 H.bd fun b=>.bind0 (H.ands _) fun l=>.le (.bind1 (tk _ (by decide)) fun _=>.le (.bind1 H.ex fun e=>.pure _))
  ·rw[bdG];exact .bind1 gp_name fun t=>.le (.bind1 (tk _ (by decide)) fun _=>.le (.bind1 H.ex fun e=>.pure _))
  ·rw[andsG];exact .may (.le (.bind1 H.bd fun b=>H.ands _)) (.pure _) (by decide)
  ·rw[atomG]
   refine .nextT (.if' (by decide) (fun t=>.pure _) (.if' (by decide) (fun t=>.pure _) (.if' (by decide) (fun t=>.pure _) (.if' (by decide) (fun t=>.pure _) (.of fun t=>?_) (by decide)) (by decide)) (by decide)) (by decide))
   refine .may1 (.le (.bind1 H.ex fun x=>.le (.bind1 (tk _ (by decide)) fun _=>.le (.bind1 (H.alts _) fun l=>.le (.bind1 (tk _ (by decide)) fun _=>.pure _))))) (.bind1 (tk _ (by decide)) fun _=>.may (.pure _) (.kind (.le (.bind1 (tk _ (by decide)) fun o=>.le (.bind1 (tk _ (by decide)) fun _=>.pure _))) (.le (.bind1 H.ex fun y=>?_))) (by decide))
   exact .may (.le (.bind1 T fun ty=>.le (.bind1 (tk _ (by decide)) fun _=>.pure _))) (.le (.bind1 (tk _ (by decide)) fun _=>.pure _)) (by decide)
  ·rw[altsG];exact .bind1 P fun p=>.le (.bind1 (tk _ (by decide)) fun _=>.le (.bind1 H.ex fun e=>.may (H.alts _).le (.pure _) (by decide)))
theorem gp_ups:∀m l,Gp L.length 0 (upsG L m l)
 |0,l=>gp_no fun d a=>by rw[upsG];rfl
 |m+1,l=>by rw[upsG];exact .may (.le (.bind1 (.take (by decide) _) fun t=>gp_ups m _)) (.pure _) (by decide)
theorem gp_uppers(m:Nat):Gp L.length 1 (uppersG L m):=.bind1 (.take (by decide) _) fun t=>gp_ups m _
theorem gp_pars:∀m l,Gp L.length 0 (parsG L m l)
 |0,l=>gp_no fun d a=>by rw[parsG];rfl
 |m+1,l=>by rw[parsG];exact .kind (.le (.bind1 (.take (by decide) _) fun t=>gp_pars m _)) (.pure _)
theorem gp_cons:∀m l,Gp L.length 1 (consG L m l)
 |0,l=>gp_no fun d a=>by rw[consG];rfl
 |m+1,l=>by rw[consG];exact .bind1 (.take (by decide) _) fun c=>.bind0 ((gp_ty m).2.2 _) fun tl=>.may (gp_cons m _).le (.pure _) (by decide)
theorem gp_data(m:Nat):Gp L.length 1 (dataG L m):=
 .bind1 (.take (by decide) _) fun t=>.bind0 (gp_pars m _) fun ps=>.le (.bind1 (.take (by decide) _) fun _=>.le (.bind1 (gp_cons m _) fun cs=>
  .may (.le (.bind1 (.take (by decide) _) fun _=>.le (.bind1 (gp_uppers m) fun ds=>.le (.bind1 (.take (by decide) _) fun _=>.pure _)))) (.pure _) (by decide)))
theorem gp_items:∀m ms ds,Gp L.length 0 (itemsG L m ms ds)
 |0,ms,ds=>gp_no fun d a=>by rw[itemsG];rfl
 |m+1,ms,ds=>by
  rw[itemsG]
  exact .may (.pure _) (.may (.le (.bind1 (gp_e m).bd fun b=>.le (.bind1 (.take (by decide) _) fun _=>gp_items m _ _)))
   (.le (.bind1 gp_name fun n=>.le (.bind1 (.take (by decide) _) fun _=>.le (.bind1 (gp_ty m).1 fun ty=>.le (.bind1 (.take (by decide) _) fun _=>gp_items m _ _))))) (by decide)) (by decide)
theorem gp_from(m:Nat):Gp L.length 0 (fromG L m):=.may (gp_uppers m).le (.pure _) (by decide)
theorem gp_class(m:Nat):Gp L.length 1 (classG L m):=
 .bind1 (.take (by decide) _) fun t=>.le (.bind1 (.take (by decide) _) fun v=>.bind0 (gp_from m) fun sup=>.le (.bind1 (.take (by decide) _) fun _=>.bind0 (gp_items m _ _) fun r=>.pure _))
theorem gp_ctx:∀m l,Gp L.length 1 (ctxG L m l)
 |0,l=>gp_no fun d a=>by rw[ctxG];rfl
 |m+1,l=>by rw[ctxG];exact .bind1 (.take (by decide) _) fun c=>.le (.bind1 (.take (by decide) _) fun v=>.may (gp_ctx m _).le (.pure _) (by decide))
theorem gp_defs:∀m l,Gp L.length 0 (defsG L m l)
 |0,l=>gp_no fun d a=>by rw[defsG];rfl
 |m+1,l=>by rw[defsG];exact .may (.pure _) (.le (.bind1 (.take (by decide) _) fun _=>.le (.bind1 (gp_e m).bd fun b=>.le (.bind1 (.take (by decide) _) fun _=>gp_defs m _)))) (by decide)
theorem gp_inst(m:Nat):Gp L.length 1 (instG L m):=
 .bind1 (.take (by decide) _) fun t=>.le (.bind1 (gp_ty m).2.1 fun h=>.bind0 (.may (gp_ctx m _).le (.pure _) (by decide)) fun c=>.le (.bind1 (.take (by decide) _) fun _=>.bind0 (gp_defs m _) fun bs=>.pure _))
end
set_option linter.all false
section
variable{L:List Tk}
theorem Nt.b1{α β:Type}{r:Nat}{p:GM β}{k:β→GM α}(hp:Nt L.length r p)(hg:Gp L.length 1 p)(hk:∀r',r=r'+1→∀x,Nt L.length r' (k x)):Nt L.length r (bindG p k):=.bind1 hp hg hk
theorem Nt.tk{α:Type}{r:Nat}{k:Int}{x:ByteArray}{f:Tk→GM α}(hk0:k≠0)(hk:∀r',r=r'+1→∀t,Nt L.length r' (f t)):Nt L.length r (bindG (takeG L k x) f):=.bind1 (.take _ _) (.take hk0 _) hk
theorem nt_ty:∀m,(∀r,8*r+3≤m→Nt L.length r (typeF L m))∧(∀r,8*r+2≤m→Nt L.length r (atypeF L m))∧∀l r,8*r+3≤m→Nt L.length r (tyargsG L m l)
 |0=>⟨fun r h=>by omega,fun r h=>by omega,fun l r h=>by omega⟩
 |m+1=>by
  obtain⟨h1,h2,h3⟩:=nt_ty m
  obtain⟨g1,g2,g3⟩:=gp_ty (L:=L) m
  refine⟨fun r h=>?_,fun r h=>?_,fun l r h=>?_⟩
  ·rw[typeF_g]
   refine .deep (.nextT (.bind1 (.if' (by decide) (fun r' e t=>.bind0 (h3 _ _ (by omega)) (g3 _) fun l=>.pure _) (.of fun t=>h2 _ (by omega))) (.if' (by decide) (fun t=>.bind0 (g3 _) fun l=>.pure _) (.of fun t=>g2) (by decide)) fun r' e t x=>?_))
   exact .may (fun r2 e2=>.bind0 (h1 _ (by omega)) g1.le fun y=>.pure _) (.pure _)
  ·rw[atypeF_g]
   refine .nextT (.if' (by decide) (fun r' e t=>.pure _) (.if' (by decide) (fun r' e t=>.pure _) (.of fun t=>?_)))
   exact .tk (by decide) fun r' e _=>.may (fun _ _=>.pure _) (.bind0 (h1 _ (by omega)) g1.le fun x=>.tk (by decide) fun _ _ _=>.pure _)
  ·rw[argsF_g]
   exact .st (.b1 (h2 _ (by omega)) g2 fun r' e x=>h3 _ _ (by omega)) (.pure _)
theorem nt_pat:∀m,(∀r,8*r+2≤m→Nt L.length r (apatG L m))∧(∀r,8*r+3≤m→Nt L.length r (patG L m))∧∀l r,8*r+3≤m→Nt L.length r (patsG L m l)
 |0=>⟨fun r h=>by omega,fun r h=>by omega,fun l r h=>by omega⟩
 |m+1=>by
  obtain⟨h1,h2,h3⟩:=nt_pat m
  obtain⟨g1,g2,g3⟩:=gp_pat (L:=L) m
  refine⟨fun r h=>?_,fun r h=>?_,fun l r h=>?_⟩
  ·rw[apatG]
   refine .nextT (.if' (by decide) (fun _ _ t=>.pure _) (.if' (by decide) (fun _ _ t=>.pure _) (.if' (by decide) (fun _ _ t=>.pure _) (.of fun t=>?_))))
   exact .may (fun _ _=>.pure _) (.tk (by decide) fun r' e _=>.may (fun _ _=>.pure _) (.bind0 (h2 _ (by omega)) g2.le fun x=>.tk (by decide) fun _ _ _=>.pure _))
  ·rw[patG]
   exact .deep (.next fun t=>.b1 (h1 _ (by omega)) g1 fun r' e x=>.if' (.bind0 (h3 _ _ (by omega)) (g3 _) fun l=>.pure _) (.pure _))
  ·rw[patsG]
   exact .st (.b1 (h1 _ (by omega)) g1 fun r' e x=>h3 _ _ (by omega)) (.pure _)
theorem nt_name(r:Nat):Nt L.length r (nameG L):=.may (fun _ _=>.tk (by decide) fun _ _ t=>.tk (by decide) fun _ _ _=>.pure _) (.take _ _)
structure NtE(L:List Tk)(m:Nat):Prop where
 ex:∀r,8*r+5≤m→Nt L.length r (expG L m)
 ops:∀l o r,8*r+1≤m→Nt L.length r (opsG L m l o)
 opd:∀r,8*r+4≤m→Nt L.length r (operandG L m)
 app:∀w x r,8*r+4≤m→Nt L.length r (appsG L m w x)
 lam:∀w r,8*r+1≤m→Nt L.length r (lambdaG L m w)
 lams:∀l r,8*r+1≤m→Nt L.length r (lamsG L m l)
 lt:∀k w r,8*r+2≤m→Nt L.length r (letG L m k w)
 bd:∀r,8*r+1≤m→Nt L.length r (bdG L m)
 ands:∀l r,8*r+1≤m→Nt L.length r (andsG L m l)
 atom:∀r,8*r+3≤m→Nt L.length r (atomG L m)
 alts:∀l r,8*r+4≤m→Nt L.length r (altsG L m l)
theorem nt_e:∀m,NtE L m
 |0=>⟨fun r h=>by omega,fun l o r h=>by omega,fun r h=>by omega,fun w x r h=>by omega,fun w r h=>by omega,fun l r h=>by omega,fun k w r h=>by omega,fun r h=>by omega,fun l r h=>by omega,fun r h=>by omega,fun l r h=>by omega⟩
 |m+1=>by
  have H:=nt_e m
  have G:=gp_e (L:=L) m
  obtain⟨T,_,_⟩:=nt_ty (L:=L) m
  have GT:=(gp_ty (L:=L) m).1
  obtain⟨_,P,_⟩:=nt_pat (L:=L) m
  have GP:=(gp_pat (L:=L) m).2.1
  refine⟨fun r h=>?_,fun l o r h=>?_,fun r h=>?_,fun w x r h=>?_,fun w r h=>?_,fun l r h=>?_,fun k w r h=>?_,fun r h=>?_,fun l r h=>?_,fun r h=>?_,fun l r h=>?_⟩
  ·rw[expG];exact .deep (.b1 (H.opd _ (by omega)) G.opd fun r' e x=>.bind0 (H.ops _ _ _ (by omega)) (G.ops _ _) fun q=>.clash _ _)
  ·rw[opsG];exact .kind (.tk (by decide) fun r' e t=>.bind0 (H.opd _ (by omega)) G.opd.le fun x=>H.ops _ _ _ (by omega)) (.pure _)
  ·rw[operandG]
   refine .next fun t=>.may (fun r' e=>H.lam _ _ (by omega)) (.may (fun r' e=>.may (fun r2 e2=>H.lt _ _ _ (by omega)) (H.lt _ _ _ (by omega))) (.may (fun r' e=>?_) (.b1 (H.atom _ (by omega)) G.atom fun r' e x=>H.app _ _ _ (by omega))))
   exact .bind0 (H.ex _ (by omega)) G.ex.le fun a=>.tk (by decide) fun r2 e2 _=>.bind0 (H.ex _ (by omega)) G.ex.le fun b=>.tk (by decide) fun r3 e3 _=>.bind0 (H.ex _ (by omega)) G.ex.le fun c=>.pure _
  ·rw[appsG];exact .st (.b1 (H.atom _ (by omega)) G.atom fun r' e y=>H.app _ _ _ (by omega)) (.pure _)
  ·rw[lambdaG];exact .tk (by decide) fun r' e t=>H.lams _ _ (by omega)
  ·rw[lamsG];exact .kindU (by decide) (fun r' e t=>H.lams _ _ (by omega)) (.tk (by decide) fun r' e _=>.bind0 (H.ex _ (by omega)) G.ex.le fun e=>.pure _)
  ·rw[letG];exact .b1 (H.bd _ (by omega)) G.bd fun r' e b=>.bind0 (H.ands _ _ (by omega)) (G.ands _) fun l=>.tk (by decide) fun r2 e2 _=>.bind0 (H.ex _ (by omega)) G.ex.le fun e=>.pure _
  ·rw[bdG];exact .b1 (nt_name _) gp_name fun r' e t=>.tk (by decide) fun r2 e2 _=>.bind0 (H.ex _ (by omega)) G.ex.le fun e=>.pure _
  ·rw[andsG];exact .may (fun r' e=>.bind0 (H.bd _ (by omega)) G.bd.le fun b=>H.ands _ _ (by omega)) (.pure _)
  ·rw[atomG]
   refine .nextT (.if' (by decide) (fun _ _ t=>.pure _) (.if' (by decide) (fun _ _ t=>.pure _) (.if' (by decide) (fun _ _ t=>.pure _) (.if' (by decide) (fun _ _ t=>.pure _) (.of fun t=>?_)))))
   refine .may (fun r' e=>.bind0 (H.ex _ (by omega)) G.ex.le fun x=>.tk (by decide) fun r2 e2 _=>.bind0 (H.alts _ _ (by omega)) (G.alts _).le fun l=>.tk (by decide) fun _ _ _=>.pure _)
    (.tk (by decide) fun r' e _=>.may (fun _ _=>.pure _) (.kind (.tk (by decide) fun _ _ o=>.tk (by decide) fun _ _ _=>.pure _) (.b1 (H.ex _ (by omega)) G.ex fun r2 e2 y=>?_)))
   exact .may (fun r3 e3=>.bind0 (T _ (by omega)) GT.le fun ty=>.tk (by decide) fun _ _ _=>.pure _) (.tk (by decide) fun _ _ _=>.pure _)
  ·rw[altsG];exact .b1 (P _ (by omega)) GP fun r' e p=>.tk (by decide) fun r2 e2 _=>.bind0 (H.ex _ (by omega)) G.ex.le fun e=>.may (fun r3 e3=>H.alts _ _ (by omega)) (.pure _)
theorem nt_ups:∀m l r,8*r+1≤m→Nt L.length r (upsG L m l)
 |0,l,r,h=>by omega
 |m+1,l,r,h=>by rw[upsG];exact .may (fun r' e=>.tk (by decide) fun r2 e2 t=>nt_ups m _ _ (by omega)) (.pure _)
theorem nt_uppers(m r:Nat)(h:8*r+1≤m):Nt L.length r (uppersG L m):=.tk (by decide) fun r' e t=>nt_ups m _ _ (by omega)
theorem nt_pars:∀m l r,8*r+1≤m→Nt L.length r (parsG L m l)
 |0,l,r,h=>by omega
 |m+1,l,r,h=>by rw[parsG];exact .kind (.tk (by decide) fun r' e t=>nt_pars m _ _ (by omega)) (.pure _)
theorem nt_cons:∀m l r,8*r+1≤m→Nt L.length r (consG L m l)
 |0,l,r,h=>by omega
 |m+1,l,r,h=>by rw[consG];exact .tk (by decide) fun r' e c=>.bind0 ((nt_ty m).2.2 _ _ (by omega)) ((gp_ty m).2.2 _) fun tl=>.may (fun r2 e2=>nt_cons m _ _ (by omega)) (.pure _)
theorem nt_data(m r:Nat)(h:8*r+1≤m):Nt L.length r (dataG L m):=
 .tk (by decide) fun r' e t=>.bind0 (nt_pars m _ _ (by omega)) (gp_pars m _) fun ps=>.tk (by decide) fun r2 e2 _=>.bind0 (nt_cons m _ _ (by omega)) (gp_cons m _).le fun cs=>
  .may (fun r3 e3=>.tk (by decide) fun r4 e4 _=>.bind0 (nt_uppers m _ (by omega)) (gp_uppers m).le fun ds=>.tk (by decide) fun _ _ _=>.pure _) (.pure _)
theorem nt_items:∀m ms ds r,8*r+1≤m→Nt L.length r (itemsG L m ms ds)
 |0,ms,ds,r,h=>by omega
 |m+1,ms,ds,r,h=>by
  rw[itemsG]
  exact .may (fun _ _=>.pure _) (.may (fun r' e=>.bind0 ((nt_e m).bd _ (by omega)) (gp_e m).bd.le fun b=>.tk (by decide) fun r2 e2 _=>nt_items m _ _ _ (by omega))
   (.b1 (nt_name _) gp_name fun r' e n=>.tk (by decide) fun r2 e2 _=>.bind0 ((nt_ty m).1 _ (by omega)) (gp_ty m).1.le fun ty=>.tk (by decide) fun r3 e3 _=>nt_items m _ _ _ (by omega)))
theorem nt_from(m r:Nat)(h:8*r+1≤m):Nt L.length r (fromG L m):=.may (fun r' e=>nt_uppers m _ (by omega)) (.pure _)
theorem nt_class(m r:Nat)(h:8*r+1≤m):Nt L.length r (classG L m):=
 .tk (by decide) fun r' e t=>.tk (by decide) fun r2 e2 v=>.bind0 (nt_from m _ (by omega)) (gp_from m) fun sup=>.tk (by decide) fun r3 e3 _=>.bind0 (nt_items m _ _ _ (by omega)) (gp_items m _ _) fun q=>.pure _
theorem nt_ctx:∀m l r,8*r+1≤m→Nt L.length r (ctxG L m l)
 |0,l,r,h=>by omega
 |m+1,l,r,h=>by rw[ctxG];exact .tk (by decide) fun r' e c=>.tk (by decide) fun r2 e2 v=>.may (fun r3 e3=>nt_ctx m _ _ (by omega)) (.pure _)
theorem nt_defs:∀m l r,8*r+1≤m→Nt L.length r (defsG L m l)
 |0,l,r,h=>by omega
 |m+1,l,r,h=>by rw[defsG];exact .may (fun _ _=>.pure _) (.tk (by decide) fun r' e _=>.bind0 ((nt_e m).bd _ (by omega)) (gp_e m).bd.le fun b=>.tk (by decide) fun r2 e2 _=>nt_defs m _ _ (by omega))
theorem nt_inst(m r:Nat)(h:8*r+1≤m):Nt L.length r (instG L m):=
 .tk (by decide) fun r' e t=>.bind0 ((nt_ty m).2.1 _ (by omega)) (gp_ty m).2.1.le fun h=>.bind0 (.may (fun r2 e2=>nt_ctx m _ _ (by omega)) (.pure _)) (.may (gp_ctx m _).le (.pure _) (by decide)) fun c=>.tk (by decide) fun r3 e3 _=>.bind0 (nt_defs m _ _ (by omega)) (gp_defs m _) fun bs=>.pure _
theorem nt_prog:∀m p r,8*r+1≤m→Nt L.length r (progG L m p)
 |0,p,r,h=>by omega
 |m+1,p,r,h=>by
  rw[progG]
  exact .kind (.pure _) (.may (fun r' e=>.bind0 (nt_data m _ (by omega)) (gp_data m).le fun x=>.tk (by decide) fun r2 e2 _=>nt_prog m _ _ (by omega))
   (.may (fun r' e=>.bind0 (nt_class m _ (by omega)) (gp_class m).le fun x=>.tk (by decide) fun r2 e2 _=>nt_prog m _ _ (by omega))
   (.may (fun r' e=>.bind0 (nt_inst m _ (by omega)) (gp_inst m).le fun x=>.tk (by decide) fun r2 e2 _=>nt_prog m _ _ (by omega))
   (.tk (by decide) fun r' e _=>.bind0 ((nt_e m).bd _ (by omega)) (gp_e m).bd.le fun x=>.tk (by decide) fun r2 e2 _=>nt_prog m _ _ (by omega)))))
theorem exp_ends(L:List Tk)(d:Int):∃m,expG L m d 0≠.out:=⟨8*L.length+5,(nt_e _).ex L.length (Nat.le_refl _) d 0 (by omega)⟩
theorem prog_ends(L:List Tk)(p:Pg)(d:Int):∃m,progG L m p d 0≠.out:=⟨8*L.length+1,nt_prog _ p L.length (Nat.le_refl _) d 0 (by omega)⟩
end
set_option linter.all false
def Tk.er(t:Tk):Tk:=⟨t.kind,t.text,t.n,0⟩
mutual
def Pt.er:Pt→Pt
 |.mk k s n ks _=>.mk k s n (Pt.erL ks) 0
def Pt.erL:List Pt→List Pt
 |[]=>[]
 |p::l=>p.er::Pt.erL l
end
mutual
def Ex.er:Ex→Ex
 |.mk k s n t ks xs bs _=>.mk k s n t (Ex.erL ks) (Al.erL xs) (Bd.erL bs) 0
def Ex.erL:List Ex→List Ex
 |[]=>[]
 |p::l=>p.er::Ex.erL l
def Al.er:Al→Al
 |.mk p e=>.mk p.er e.er
def Al.erL:List Al→List Al
 |[]=>[]
 |p::l=>p.er::Al.erL l
def Bd.er:Bd→Bd
 |.mk s e _=>.mk s e.er 0
def Bd.erL:List Bd→List Bd
 |[]=>[]
 |p::l=>p.er::Bd.erL l
end
theorem Pt.erL_map:∀l,Pt.erL l=l.map Pt.er
 |[]=>by rw[Pt.erL];rfl
 |p::l=>by rw[Pt.erL,Pt.erL_map l];rfl
theorem Ex.erL_map:∀l,Ex.erL l=l.map Ex.er
 |[]=>by rw[Ex.erL];rfl
 |p::l=>by rw[Ex.erL,Ex.erL_map l];rfl
theorem Al.erL_map:∀l,Al.erL l=l.map Al.er
 |[]=>by rw[Al.erL];rfl
 |p::l=>by rw[Al.erL,Al.erL_map l];rfl
theorem Bd.erL_map:∀l,Bd.erL l=l.map Bd.er
 |[]=>by rw[Bd.erL];rfl
 |p::l=>by rw[Bd.erL,Bd.erL_map l];rfl
theorem er_pt(k:Int)(s:ByteArray)(n:Int)(ks:List Pt)(a:Int):(Pt.mk k s n ks a).er=.mk k s n (ks.map Pt.er) 0:=by rw[Pt.er,Pt.erL_map]
theorem er_ex(k:Int)(s:ByteArray)(n:Int)(t:Ty)(ks:List Ex)(xs:List Al)(bs:List Bd)(a:Int):(Ex.mk k s n t ks xs bs a).er=.mk k s n t (ks.map Ex.er) (xs.map Al.er) (bs.map Bd.er) 0:=by rw[Ex.er,Ex.erL_map,Al.erL_map,Bd.erL_map]
theorem er_exM(k:Int)(s:ByteArray)(n:Int)(ks:List Ex)(a:Int):(exM k s n ks a).er=.mk k s n T00 (ks.map Ex.er) [] [] 0:=er_ex _ _ _ _ _ _ _ _
theorem er_al(p:Pt)(e:Ex):(Al.mk p e).er=.mk p.er e.er:=by rw[Al.er]
theorem er_bd(s:ByteArray)(e:Ex)(a:Int):(Bd.mk s e a).er=.mk s e.er 0:=by rw[Bd.er]
def TE(t t':Tk):Prop:=t.er=t'.er∨t.kind=0∧t'.kind=7∧t'.text=sCl
theorem er_tk{t t':Tk}(h:t.er=t'.er):t.kind=t'.kind∧t.text=t'.text∧t.n=t'.n:=by
 unfold Tk.er at h
 injection h with h1 h2 h3
 exact⟨h1,h2,h3⟩
theorem TE.kind{t t':Tk}(h:TE t t'){k:Int}(h0:k≠0)(h7:k≠7):t.kind=k↔t'.kind=k:=by
 rcases h with h|⟨h1,h2,_⟩
 ·rw[(er_tk h).1]
 ·rw[h1,h2];constructor<;>intro e<;>omega
theorem TE.eq{t t':Tk}(h:TE t t'){k:Int}(h0:k≠0)(hk:t.kind=k):t.er=t'.er:=by
 rcases h with h|⟨h1,_,_⟩
 ·exact h
 ·omega
structure Agr(L L':List Tk)(e s:Nat):Prop where
 lt:∀i,i<e→(tkAt L i).er=(tkAt L' (i+s)).er
 fin:TE (tkAt L e) (tkAt L' (e+s))
def Rl(e s:Nat)(dl:Int){α:Type}(E:α→α→Prop)(g g':GM α):Prop:=∀d a v b,g d a=.ok v b→a≤b∧(b≤e→(∃v',g' (d+dl) (a+s)=.ok v' (b+s)∧E v v')∨∃w,dl=1∧g' (d+dl) (a+s)=.err 111 w)
section
variable{e s:Nat}{dl:Int}{α β:Type}{E:α→α→Prop}
theorem Rl.no{g g':GM α}(h:∀d a,g d a=.out):Rl e s dl E g g':=fun d a v b e=>by rw[h] at e;cases e
theorem Rl.pure{v v':α}(h:E v v'):Rl e s dl E (pureG v) (pureG v'):=fun d a w b hq=>by
 cases hq
 exact⟨Nat.le_refl _,fun _=>.inl ⟨v',rfl,h⟩⟩
theorem Rl.bind{E1:β→β→Prop}{p p':GM β}{k k':β→GM α}(hr:∀x,E1 x x)(hp:Rl e s dl E1 p p')(hk:∀x x',E1 x x'→Rl e s dl E (k x) (k' x')):Rl e s dl E (bindG p k) (bindG p' k'):=fun d a v b h=>by
 unfold bindG at h ⊢
 cases hx:p d a with
 |out=>rw[hx] at h;cases h
 |err x y=>rw[hx] at h;cases h
 |ok x c=>
  rw[hx] at h
  have h:k x d c=.ok v b:=h
  obtain⟨h1,h2⟩:=hp d a x c hx
  have h3:=(hk x x (hr x) d c v b h).1
  refine⟨by omega,fun hb=>?_⟩
  rcases h2 (by omega) with⟨x',e1,e2⟩|⟨w,e1,e2⟩
  ·rw[e1]
   exact(hk x x' e2 d c v b h).2 hb
  ·rw[e2];exact .inr ⟨w,e1,rfl⟩
theorem Rl.up{g g':GM α}(h:Rl e s dl E g g'):Rl e s dl E (upG g) (upG g'):=fun d a v b hq=>by
 obtain⟨h1,h2⟩:=h d (a+1) v b hq
 refine⟨by omega,fun hb=>?_⟩
 have:=h2 hb
 rw[show a+1+s=a+s+1 by omega] at this
 exact this
theorem Rl.if'{t t':Tk}(ht:TE t t'){k:Int}(h0:k≠0)(h7:k≠7){A A' B B':GM α}(h1:t.er=t'.er→Rl e s dl E A A')(h2:Rl e s dl E B B'):Rl e s dl E (if t.kind=k then A else B) (if t'.kind=k then A' else B'):=by
 by_cases hk:t.kind=k
 ·rw[if_pos hk,if_pos ((ht.kind h0 h7).1 hk)];exact h1 (ht.eq h0 hk)
 ·rw[if_neg hk,if_neg (fun h=>hk ((ht.kind h0 h7).2 h))];exact h2
end
section
variable{L L':List Tk}{e s:Nat}{dl:Int}{α β:Type}{E:α→α→Prop}(H:Agr L L' e s)
include H
theorem Agr.te{a:Nat}(h:a≤e):TE (tkAt L a) (tkAt L' (a+s)):=by
 by_cases h1:a<e
 ·exact .inl (H.lt a h1)
 ·have:a=e:=by omega
  subst this;exact H.fin
theorem Agr.isT{a:Nat}(h:a<e)(x:ByteArray):isT L' x (a+s)=isT L x a:=by
 obtain⟨h1,h2,_⟩:=er_tk (H.lt a h)
 unfold Go.Proofs.YtfphhabaeggenaaDoor.isT
 rw[h1,h2]
theorem Agr.isF{a:Nat}(h:a≤e){x:ByteArray}(hx:x≠sCl):Go.Proofs.YtfphhabaeggenaaDoor.isT L' x (a+s)=Go.Proofs.YtfphhabaeggenaaDoor.isT L x a:=by
 rcases H.te h with h1|⟨h1,h2,h3⟩
 ·obtain⟨h1,h2,_⟩:=er_tk h1
  unfold Go.Proofs.YtfphhabaeggenaaDoor.isT
  rw[h1,h2]
 ·unfold Go.Proofs.YtfphhabaeggenaaDoor.isT
  rw[h1,h2,h3]
  have:decide (sCl=x)=false:=decide_eq_false (fun e=>hx e.symm)
  rw[this];rfl
theorem Agr.stW{a:Nat}(h:a≤e)(w:Int):Go.Proofs.YtfphhabaeggenaaDoor.stW L' w (a+s)=Go.Proofs.YtfphhabaeggenaaDoor.stW L w a:=by
 unfold Go.Proofs.YtfphhabaeggenaaDoor.stW
 have k:∀j:Int,j≠0→j≠7→decide ((tkAt L' (a+s)).kind=j)=decide ((tkAt L a).kind=j):=fun j h0 h7=>by
  rw[decide_eq_decide];exact((H.te h).kind h0 h7).symm
 rw[k 1 (by decide) (by decide),k 2 (by decide) (by decide),k 3 (by decide) (by decide),k 4 (by decide) (by decide),H.isF h (by decide),H.isF h (by decide),H.isF h (by decide)]
theorem Rl.take{k:Int}(x:ByteArray):Rl e s dl (fun t t'=>t.er=t'.er) (takeG L k x) (takeG L' k x):=fun d a v b h=>by
 unfold takeG at h ⊢
 split at h
 ·rename_i ho
  cases h
  refine⟨by omega,fun hb=>.inl ⟨tkAt L' (a+s),?_,H.lt a (by omega)⟩⟩
  have:okT L' k x (a+s)=true:=by
   unfold okT at ho ⊢
   rw[H.isT (by omega),←(er_tk (H.lt a (by omega))).1];exact ho
  rw[if_pos this,show a+1+s=a+s+1 by omega]
 ·cases h
theorem Rl.may{x:ByteArray}(hx:x≠sCl){A A' B B':GM α}(h1:Rl e s dl E A A')(h2:Rl e s dl E B B'):Rl e s dl E (mayG L x A B) (mayG L' x A' B'):=fun d a v b h=>by
 unfold mayG at h ⊢
 cases hi:Go.Proofs.YtfphhabaeggenaaDoor.isT L x a with
 |true=>
  rw[hi,if_pos rfl] at h
  obtain⟨q1,q2⟩:=h1 d (a+1) v b h
  refine⟨by omega,fun hb=>?_⟩
  rw[H.isT (by omega),hi,if_pos rfl]
  have:=q2 hb
  rw[show a+1+s=a+s+1 by omega] at this
  exact this
 |false=>
  rw[hi,if_neg (by decide)] at h
  obtain⟨q1,q2⟩:=h2 d a v b h
  refine⟨q1,fun hb=>?_⟩
  rw[H.isF (by omega) hx,hi,if_neg (by decide)]
  exact q2 hb
theorem Rl.mayCl{A A' B B':GM α}(h1:Rl e s dl E A A')(h2:Rl e s dl E B B')(hn:∀d a v b,(tkAt L a).kind=0→B d a≠.ok v b):Rl e s dl E (mayG L sCl A B) (mayG L' sCl A' B'):=fun d a v b h=>by
 unfold mayG at h ⊢
 cases hi:Go.Proofs.YtfphhabaeggenaaDoor.isT L sCl a with
 |true=>
  rw[hi,if_pos rfl] at h
  obtain⟨q1,q2⟩:=h1 d (a+1) v b h
  refine⟨by omega,fun hb=>?_⟩
  rw[H.isT (by omega),hi,if_pos rfl]
  have:=q2 hb
  rw[show a+1+s=a+s+1 by omega] at this
  exact this
 |false=>
  rw[hi,if_neg (by decide)] at h
  obtain⟨q1,q2⟩:=h2 d a v b h
  refine⟨q1,fun hb=>?_⟩
  have:Go.Proofs.YtfphhabaeggenaaDoor.isT L' sCl (a+s)=false:=by
   rcases H.te (a:=a) (by omega) with h3|⟨h3,_,_⟩
   ·obtain⟨k1,k2,_⟩:=er_tk h3
    unfold Go.Proofs.YtfphhabaeggenaaDoor.isT at hi ⊢
    rw[←k1,←k2];exact hi
   ·exact absurd h (hn d a v b h3)
  rw[this,if_neg (by decide)]
  exact q2 hb
theorem Rl.kind{k:Int}(h0:k≠0)(h7:k≠7){A A' B B':GM α}(h1:Rl e s dl E A A')(h2:Rl e s dl E B B'):Rl e s dl E (kindG L k A B) (kindG L' k A' B'):=fun d a v b h=>by
 unfold kindG at h ⊢
 by_cases hk:(tkAt L a).kind=k
 ·rw[if_pos hk] at h
  obtain⟨q1,q2⟩:=h1 d a v b h
  refine⟨q1,fun hb=>?_⟩
  rw[if_pos (((H.te (by omega)).kind h0 h7).1 hk)];exact q2 hb
 ·rw[if_neg hk] at h
  obtain⟨q1,q2⟩:=h2 d a v b h
  refine⟨q1,fun hb=>?_⟩
  rw[if_neg (fun h=>hk (((H.te (by omega)).kind h0 h7).2 h))];exact q2 hb
theorem Rl.kindU{k:Int}(h0:k≠0)(h7:k≠7){f f':Tk→GM α}{B B':GM α}(h1:∀t t',t.er=t'.er→Rl e s dl E (f t) (f' t'))(h2:Rl e s dl E B B'):Rl e s dl E (kindG L k (nextG L fun t=>upG (f t)) B) (kindG L' k (nextG L' fun t=>upG (f' t)) B'):=fun d a v b h=>by
 unfold kindG at h ⊢
 by_cases hk:(tkAt L a).kind=k
 ·rw[if_pos hk] at h
  have q1:=((h1 _ _ rfl).up d a v b h).1
  refine⟨q1,fun hb=>?_⟩
  have ht:=H.te (a:=a) (by omega)
  rw[if_pos ((ht.kind h0 h7).1 hk)]
  exact((h1 _ _ (ht.eq h0 hk)).up d a v b h).2 hb
 ·rw[if_neg hk] at h
  obtain⟨q1,q2⟩:=h2 d a v b h
  refine⟨q1,fun hb=>?_⟩
  rw[if_neg (fun h=>hk (((H.te (by omega)).kind h0 h7).2 h))];exact q2 hb
theorem Rl.st{w:Int}{A A' B B':GM α}(h1:Rl e s dl E A A')(h2:Rl e s dl E B B'):Rl e s dl E (stG L w A B) (stG L' w A' B'):=fun d a v b h=>by
 unfold stG at h ⊢
 cases hi:Go.Proofs.YtfphhabaeggenaaDoor.stW L w a with
 |true=>
  rw[hi,if_pos rfl] at h
  obtain⟨q1,q2⟩:=h1 d a v b h
  refine⟨q1,fun hb=>?_⟩
  rw[H.stW (by omega),hi,if_pos rfl];exact q2 hb
 |false=>
  rw[hi,if_neg (by decide)] at h
  obtain⟨q1,q2⟩:=h2 d a v b h
  refine⟨q1,fun hb=>?_⟩
  rw[H.stW (by omega),hi,if_neg (by decide)];exact q2 hb
theorem Rl.next{f f':Tk→GM α}(h:∀t t',TE t t'→Rl e s dl E (f t) (f' t')):Rl e s dl E (nextG L f) (nextG L' f'):=fun d a v b hq=>by
 have q1:=(h _ _ (.inl rfl) d a v b hq).1
 exact⟨q1,fun hb=>(h _ _ (H.te (by omega)) d a v b hq).2 hb⟩
theorem Rl.deep(hd:dl=0∨dl=1){A A':GM α}(h:Rl e s dl E A A'):Rl e s dl E (deepG L A) (deepG L' A'):=fun d a v b hq=>by
 unfold deepG at hq ⊢
 split at hq
 ·cases hq
 ·obtain⟨q1,q2⟩:=h (d+1) a v b hq
  refine⟨q1,fun hb=>?_⟩
  by_cases h3:300<d+dl+1
  ·rw[if_pos h3]
   exact .inr ⟨_,by omega,rfl⟩
  ·rw[if_neg h3,show d+dl+1=d+1+dl by omega];exact q2 hb
end
section
variable{L:List Tk}{a:Nat}(h:(tkAt L a).kind=0)
include h
theorem no_isT(x:ByteArray):isT L x a=false:=by unfold isT;rw[h];rfl
theorem no_take{k:Int}(hk:k≠0)(x:ByteArray)(d:Int):takeG L k x d a=.err 110 (tkAt L a).at_:=by
 unfold takeG okT
 rw[no_isT h,h]
 have:decide ((0:Int)=k)=false:=decide_eq_false (fun e=>hk e.symm)
 rw[this]
 simp
theorem no_bind{α β:Type}{p:GM β}{k:β→GM α}{d:Int}(hp:∀v b,p d a≠.ok v b):∀v b,bindG p k d a≠.ok v b:=fun v b e=>by
 unfold bindG at e
 cases hx:p d a with
 |out=>rw[hx] at e;cases e
 |err x y=>rw[hx] at e;cases e
 |ok x c=>exact hp x c hx
theorem no_at:∀m d v b,atypeF L m d a≠.ok v b
 |0,d,v,b=>by rw[atypeF];exact fun e=>by cases e
 |m+1,d,v,b=>by
  rw[atypeF_g]
  dsimp only[nextG]
  rw[h,if_neg (by decide),if_neg (by decide)]
  exact no_bind h (fun v b e=>by rw[no_take h (by decide)] at e;cases e) v b
theorem no_ty:∀m d v b,typeF L m d a≠.ok v b
 |0,d,v,b=>by rw[typeF];exact fun e=>by cases e
 |m+1,d,v,b=>by
  rw[typeF_g]
  unfold deepG
  split
  ·exact fun e=>by cases e
  ·dsimp only[nextG]
   rw[h,if_neg (by decide)]
   exact no_bind h (no_at h m _) v b
theorem no_apat:∀m d v b,apatG L m d a≠.ok v b
 |0,d,v,b=>by rw[apatG];exact fun e=>by cases e
 |m+1,d,v,b=>by
  rw[apatG]
  dsimp only[nextG]
  rw[h,if_neg (by decide),if_neg (by decide),if_neg (by decide)]
  unfold mayG
  rw[no_isT h,if_neg (by decide)]
  exact no_bind h (fun v b e=>by rw[no_take h (by decide)] at e;cases e) v b
theorem no_pat:∀m d v b,patG L m d a≠.ok v b
 |0,d,v,b=>by rw[patG];exact fun e=>by cases e
 |m+1,d,v,b=>by
  rw[patG]
  unfold deepG
  split
  ·exact fun e=>by cases e
  ·exact no_bind h (no_apat h m _) v b
theorem no_atom:∀m d v b,atomG L m d a≠.ok v b
 |0,d,v,b=>by rw[atomG];exact fun e=>by cases e
 |m+1,d,v,b=>by
  rw[atomG]
  dsimp only[nextG]
  rw[h,if_neg (by decide),if_neg (by decide),if_neg (by decide),if_neg (by decide)]
  unfold mayG
  rw[no_isT h,if_neg (by decide)]
  exact no_bind h (fun v b e=>by rw[no_take h (by decide)] at e;cases e) v b
theorem no_opd:∀m d v b,operandG L m d a≠.ok v b
 |0,d,v,b=>by rw[operandG];exact fun e=>by cases e
 |m+1,d,v,b=>by
  rw[operandG]
  dsimp only[nextG]
  unfold mayG
  rw[no_isT h,if_neg (by decide),no_isT h,if_neg (by decide),no_isT h,if_neg (by decide)]
  exact no_bind h (no_atom h m _) v b
theorem no_exp:∀m d v b,expG L m d a≠.ok v b
 |0,d,v,b=>by rw[expG];exact fun e=>by cases e
 |m+1,d,v,b=>by
  rw[expG]
  unfold deepG
  split
  ·exact fun e=>by cases e
  ·exact no_bind h (no_opd h m _) v b
end
set_option linter.all false
theorem pt_er{x y:Pt}(h:x.er=y.er):x.kind=y.kind∧x.name=y.name∧x.n=y.n:=by
 cases x;cases y
 rw[er_pt,er_pt] at h
 injection h with h1 h2 h3
 exact⟨h1,h2,h3⟩
abbrev EP(x y:Pt):Prop:=x.er=y.er
abbrev EPs(x y:List Pt):Prop:=x.map Pt.er=y.map Pt.er
abbrev EX(x y:Ex):Prop:=x.er=y.er
abbrev EXs(x y:List Ex):Prop:=x.map Ex.er=y.map Ex.er
abbrev EAs(x y:List Al):Prop:=x.map Al.er=y.map Al.er
abbrev EB(x y:Bd):Prop:=x.er=y.er
abbrev EBs(x y:List Bd):Prop:=x.map Bd.er=y.map Bd.er
abbrev ET(x y:Tk):Prop:=x.er=y.er
abbrev EO(x y:List Ex×List Tk):Prop:=x.1.map Ex.er=y.1.map Ex.er∧x.2.map Tk.er=y.2.map Tk.er
theorem map_snoc{α β:Type}{f:α→β}{l l':List α}{x x':α}(h:l.map f=l'.map f)(hx:f x=f x'):(l++[x]).map f=(l'++[x']).map f:=by
 rw[List.map_append,List.map_append,h,List.map_cons,List.map_cons,hx,List.map_nil]
theorem map_at{α β:Type}{f:α→β}{l l':List α}(h:l.map f=l'.map f)(d:α)(i:Nat):f ((l[i]?).getD d)=f ((l'[i]?).getD d):=by
 have:=congrArg (fun q:List β=>q[i]?) h
 simp only[List.getElem?_map] at this
 cases h1:l[i]? with
 |none=>cases h2:l'[i]? with
  |none=>rfl
  |some y=>rw[h1,h2] at this;cases this
 |some x=>cases h2:l'[i]? with
  |none=>rw[h1,h2] at this;cases this
  |some y=>rw[h1,h2] at this;simpa using this
theorem opE_er{t t':Tk}(ht:t.er=t'.er){x y x' y':Ex}(hx:x.er=x'.er)(hy:y.er=y'.er):(opE t x y).er=(opE t' x' y').er:=by
 unfold opE
 rw[(er_tk ht).2.1]
 split
 ·rw[er_exM,er_exM];simp only[List.map_cons,List.map_nil,hx,hy]
 ·split
  ·rw[er_exM,er_exM];simp only[List.map_cons,List.map_nil,hx,hy]
  ·rw[er_exM,er_exM];simp only[List.map_cons,List.map_nil,er_exM,hx,hy]
theorem vlv_er{o o':List Tk}(h:o.map Tk.er=o'.map Tk.er):vlv o=vlv o':=by
 funext i
 unfold vlv opAt
 rw[(er_tk (map_at h zT i)).2.1]
theorem build_er{l l':List Ex}{o o':List Tk}(hl:EXs l l')(ho:o.map Tk.er=o'.map Tk.er):∀n f to,(buildF l o n f to).er=(buildF l' o' n f to).er
 |0,f,to=>by rw[buildF,buildF];exact map_at hl _ f
 |n+1,f,to=>by
  rw[buildF,buildF]
  split
  ·exact map_at hl _ f
  ·rw[vlv_er ho]
   exact opE_er (map_at ho zT _) (build_er hl ho n _ _) (build_er hl ho n _ _)
theorem wrap_er:∀{l l':List (ByteArray×Int)} {x x':Ex},l.map Prod.fst=l'.map Prod.fst→x.er=x'.er→(wrapE l x).er=(wrapE l' x').er
 |[],[],x,x',_,h=>h
 |[],_::_,_,_,h,_=>by cases h
 |_::_,[],_,_,h,_=>by cases h
 |p::l,q::l',x,x',h,hx=>by
  simp only[List.map_cons,List.cons.injEq] at h
  have:=wrap_er h.2 hx
  unfold wrapE at this ⊢
  rw[List.foldr_cons,List.foldr_cons,er_exM,er_exM,h.1]
  simp only[List.map_cons,List.map_nil,this]
section
variable{L L':List Tk}{e s:Nat}{dl:Int}(H:Agr L L' e s)(hd:dl=0∨dl=1)
include H hd
theorem rl_ty:∀m n,m≤n→Rl e s dl Eq (typeF L m) (typeF L' n)∧Rl e s dl Eq (atypeF L m) (atypeF L' n)∧∀l,Rl e s dl Eq (tyargsG L m l) (tyargsG L' n l)
 |0,_,_=>⟨.no fun d a=>by rw[typeF],.no fun d a=>by rw[atypeF],fun l=>.no fun d a=>by unfold tyargsG;rw[argsF]⟩
 |m+1,0,h=>by omega
 |m+1,n+1,h=>by
  obtain⟨h1,h2,h3⟩:=rl_ty m n (by omega)
  refine⟨?_,?_,fun l=>?_⟩
  ·rw[typeF_g,typeF_g]
   refine .deep H hd (.next H fun t t' ht=>.bind (E1:=Eq) (fun _=>rfl) (.if' ht (by decide) (by decide) (fun he=>?_) h2) fun x x' ex=>?_)
   ·rw[(er_tk he).2.1]
    exact .up (.bind (E1:=Eq) (fun _=>rfl) (h3 _) fun l l' el=>by subst el;exact .pure rfl)
   ·subst ex
    exact .may H (by decide) (.bind (E1:=Eq) (fun _=>rfl) h1 fun y y' ey=>by subst ey;exact .pure rfl) (.pure rfl)
  ·rw[atypeF_g,atypeF_g]
   refine .next H fun t t' ht=>.if' ht (by decide) (by decide) (fun he=>by rw[(er_tk he).2.1];exact .up (.pure rfl)) (.if' ht (by decide) (by decide) (fun he=>by rw[(er_tk he).2.1];exact .up (.pure rfl)) ?_)
   exact .bind (E1:=ET) (fun _=>rfl) (.take H _) fun _ _ _=>.mayCl H (.pure rfl) (.bind (E1:=Eq) (fun _=>rfl) h1 fun x x' ex=>by subst ex;exact .bind (E1:=ET) (fun _=>rfl) (.take H _) fun _ _ _=>.pure rfl) (fun d a v b hk=>no_bind hk (no_ty hk m d) v b)
  ·rw[argsF_g,argsF_g]
   exact .st H (.bind (E1:=Eq) (fun _=>rfl) h2 fun x x' ex=>by subst ex;exact h3 _) (.pure rfl)
theorem rl_pat:∀m n,m≤n→Rl e s dl EP (apatG L m) (apatG L' n)∧Rl e s dl EP (patG L m) (patG L' n)∧∀l l',EPs l l'→Rl e s dl EPs (patsG L m l) (patsG L' n l')
 |0,_,_=>⟨.no fun d a=>by rw[apatG];rfl,.no fun d a=>by rw[patG];rfl,fun l l' _=>.no fun d a=>by rw[patsG];rfl⟩
 |m+1,0,h=>by omega
 |m+1,n+1,h=>by
  obtain⟨h1,h2,h3⟩:=rl_pat m n (by omega)
  refine⟨?_,?_,fun l l' hl=>?_⟩
  ·rw[apatG,apatG]
   refine .next H fun t t' ht=>.if' ht (by decide) (by decide) (fun he=>.up (.pure (by show _=_;rw[er_pt,er_pt,(er_tk he).2.1]))) (.if' ht (by decide) (by decide) (fun he=>.up (.pure (by show _=_;rw[er_pt,er_pt,(er_tk he).2.1]))) (.if' ht (by decide) (by decide) (fun he=>.up (.pure (by show _=_;rw[er_pt,er_pt,(er_tk he).2.2]))) ?_))
   exact .may H (by decide) (.pure (by show _=_;rw[er_pt,er_pt])) (.bind (E1:=ET) (fun _=>rfl) (.take H _) fun _ _ _=>.mayCl H (.pure (by show _=_;rw[er_pt,er_pt])) (.bind (E1:=EP) (fun _=>rfl) h2 fun x x' ex=>.bind (E1:=ET) (fun _=>rfl) (.take H _) fun _ _ _=>.pure ex) (fun d a v b hk=>no_bind hk (no_pat hk m d) v b))
  ·rw[patG,patG]
   refine .deep H hd (.next H fun t t' ht=>.bind (E1:=EP) (fun _=>rfl) h1 fun x x' ex=>.if' ht (by decide) (by decide) (fun he=>.bind (E1:=EPs) (fun _=>rfl) (h3 _ _ rfl) fun l l' el=>.pure ?_) (.pure ex))
   obtain⟨k1,k2,k3⟩:=pt_er ex
   show _=_
   rw[er_pt,er_pt,k1,k2,k3,el]
  ·rw[patsG,patsG]
   exact .st H (.bind (E1:=EP) (fun _=>rfl) h1 fun x x' ex=>h3 _ _ (map_snoc hl ex)) (.pure hl)
theorem rl_name:Rl e s dl ET (nameG L) (nameG L'):=
 .may H (by decide) (.bind (E1:=ET) (fun _=>rfl) (.take H _) fun t t' ht=>.bind (E1:=ET) (fun _=>rfl) (.take H _) fun _ _ _=>.pure ht) (.take H _)
omit hd in
theorem rl_clash{r r':List Ex×List Tk}(h:EO r r'):Rl e s dl EX (clashG r.1 r.2) (clashG r'.1 r'.2):=fun d a v b hq=>by
 unfold clashG at hq ⊢
 have hl:r'.2.length=r.2.length:=by have:=congrArg List.length h.2;simpa using this.symm
 rw[hl,←vlv_er h.2]
 cases hc:clashF (vlv r.2) r.2.length r.2.length 0 with
 |some k=>rw[hc] at hq;cases hq
 |none=>
  rw[hc] at hq
  exact(Rl.pure (E:=EX) (v:=buildF r.1 r.2 r.2.length 0 r.2.length) (v':=buildF r'.1 r'.2 r.2.length 0 r.2.length) (build_er h.1 h.2 _ _ _)) d a v b hq
structure RlE(L L':List Tk)(e s:Nat)(dl:Int)(m n:Nat):Prop where
 ex:Rl e s dl EX (expG L m) (expG L' n)
 ops:∀l l' o o',EXs l l'→o.map Tk.er=o'.map Tk.er→Rl e s dl EO (opsG L m l o) (opsG L' n l' o')
 opd:Rl e s dl EX (operandG L m) (operandG L' n)
 app:∀w w' x x',EX x x'→Rl e s dl EX (appsG L m w x) (appsG L' n w' x')
 lam:∀w w',Rl e s dl EX (lambdaG L m w) (lambdaG L' n w')
 lams:∀l l':List (ByteArray×Int),l.map Prod.fst=l'.map Prod.fst→Rl e s dl EX (lamsG L m l) (lamsG L' n l')
 lt:∀k w w',Rl e s dl EX (letG L m k w) (letG L' n k w')
 bd:Rl e s dl EB (bdG L m) (bdG L' n)
 ands:∀l l',EBs l l'→Rl e s dl EBs (andsG L m l) (andsG L' n l')
 atom:Rl e s dl EX (atomG L m) (atomG L' n)
 alts:∀l l',EAs l l'→Rl e s dl EAs (altsG L m l) (altsG L' n l')
omit H hd in
theorem ex_mk{k:Int}{n:ByteArray}{z:Int}{t:Ty}{ks ks':List Ex}{xs xs':List Al}{bs bs':List Bd}{a a':Int}(h1:EXs ks ks')(h2:EAs xs xs')(h3:EBs bs bs'):EX (.mk k n z t ks xs bs a) (.mk k n z t ks' xs' bs' a'):=by
 show _=_
 rw[er_ex,er_ex,h1,h2,h3]
omit H hd in
theorem ex_m{k:Int}{n:ByteArray}{z:Int}{ks ks':List Ex}{a a':Int}(h1:EXs ks ks'):EX (exM k n z ks a) (exM k n z ks' a'):=ex_mk h1 rfl rfl
theorem rl_e:∀m n,m≤n→RlE L L' e s dl m n
 |0,_,_=>⟨.no fun d a=>by rw[expG];rfl,fun l l' o o' _ _=>.no fun d a=>by rw[opsG];rfl,.no fun d a=>by rw[operandG];rfl,fun w w' x x' _=>.no fun d a=>by rw[appsG];rfl,fun w w'=>.no fun d a=>by rw[lambdaG];rfl,fun l l' _=>.no fun d a=>by rw[lamsG];rfl,fun k w w'=>.no fun d a=>by rw[letG];rfl,.no fun d a=>by rw[bdG];rfl,fun l l' _=>.no fun d a=>by rw[andsG];rfl,.no fun d a=>by rw[atomG];rfl,fun l l' _=>.no fun d a=>by rw[altsG];rfl⟩
 |m+1,0,h=>by omega
 |m+1,n+1,h=>by
  have G:=rl_e m n (by omega)
  have T:=(rl_ty H hd m n (by omega)).1
  have P:=(rl_pat H hd m n (by omega)).2.1
  refine⟨?_,fun l l' o o' hl ho=>?_,?_,fun w w' x x' hx=>?_,fun w w'=>?_,fun l l' hl=>?_,fun k w w'=>?_,?_,fun l l' hl=>?_,?_,fun l l' hl=>?_⟩
  ·rw[expG,expG]
   exact .deep H hd (.bind (E1:=EX) (fun _=>rfl) G.opd fun x x' hx=>.bind (E1:=EO) (fun _=>⟨rfl,rfl⟩) (G.ops _ _ _ _ (by show _=_;simp only[List.map_cons,List.map_nil,hx]) rfl) fun r r' hr=>rl_clash H hr)
  ·rw[opsG,opsG]
   exact .kind H (by decide) (by decide) (.bind (E1:=ET) (fun _=>rfl) (.take H _) fun t t' ht=>.bind (E1:=EX) (fun _=>rfl) G.opd fun x x' hx=>G.ops _ _ _ _ (map_snoc hl hx) (map_snoc ho ht)) (.pure ⟨hl,ho⟩)
  ·rw[operandG,operandG]
   refine .next H fun t t' ht=>.may H (by decide) (G.lam _ _) (.may H (by decide) (.may H (by decide) (G.lt _ _ _) (G.lt _ _ _)) (.may H (by decide) ?_ (.bind (E1:=EX) (fun _=>rfl) G.atom fun x x' hx=>G.app _ _ _ _ hx)))
   exact .bind (E1:=EX) (fun _=>rfl) G.ex fun a a' ha=>.bind (E1:=ET) (fun _=>rfl) (.take H _) fun _ _ _=>.bind (E1:=EX) (fun _=>rfl) G.ex fun b b' hb=>.bind (E1:=ET) (fun _=>rfl) (.take H _) fun _ _ _=>.bind (E1:=EX) (fun _=>rfl) G.ex fun c c' hc=>.pure (ex_m (by show _=_;simp only[List.map_cons,List.map_nil,ha,hb,hc]))
  ·rw[appsG,appsG]
   exact .st H (.bind (E1:=EX) (fun _=>rfl) G.atom fun y y' hy=>G.app _ _ _ _ (ex_m (by show _=_;simp only[List.map_cons,List.map_nil,hx,hy]))) (.pure hx)
  ·rw[lambdaG,lambdaG]
   exact .bind (E1:=ET) (fun _=>rfl) (.take H _) fun t t' ht=>G.lams _ _ (by simp only[List.map_cons,List.map_nil,(er_tk ht).2.1])
  ·rw[lamsG,lamsG]
   exact .kindU H (by decide) (by decide) (fun t t' ht=>G.lams _ _ (map_snoc hl (er_tk ht).2.1)) (.bind (E1:=ET) (fun _=>rfl) (.take H _) fun _ _ _=>.bind (E1:=EX) (fun _=>rfl) G.ex fun x x' hx=>.pure (wrap_er hl hx))
  ·rw[letG,letG]
   exact .bind (E1:=EB) (fun _=>rfl) G.bd fun b b' hb=>.bind (E1:=EBs) (fun _=>rfl) (G.ands _ _ (by show _=_;simp only[List.map_cons,List.map_nil,hb])) fun l l' hl=>.bind (E1:=ET) (fun _=>rfl) (.take H _) fun _ _ _=>.bind (E1:=EX) (fun _=>rfl) G.ex fun x x' hx=>.pure (ex_mk (by show _=_;simp only[List.map_cons,List.map_nil,hx]) rfl hl)
  ·rw[bdG,bdG]
   exact .bind (E1:=ET) (fun _=>rfl) (rl_name H hd) fun t t' ht=>.bind (E1:=ET) (fun _=>rfl) (.take H _) fun _ _ _=>.bind (E1:=EX) (fun _=>rfl) G.ex fun x x' hx=>.pure (by show _=_;rw[er_bd,er_bd,(er_tk ht).2.1,hx])
  ·rw[andsG,andsG]
   exact .may H (by decide) (.bind (E1:=EB) (fun _=>rfl) G.bd fun b b' hb=>G.ands _ _ (map_snoc hl hb)) (.pure hl)
  ·rw[atomG,atomG]
   refine .next H fun t t' ht=>.if' ht (by decide) (by decide) (fun he=>.up (.pure (by rw[(er_tk he).2.1];exact ex_m rfl))) (.if' ht (by decide) (by decide) (fun he=>.up (.pure (by rw[(er_tk he).2.1];exact ex_m rfl))) (.if' ht (by decide) (by decide) (fun he=>.up (.pure (by rw[(er_tk he).2.2];exact ex_m rfl))) (.if' ht (by decide) (by decide) (fun he=>.up (.pure (by rw[(er_tk he).2.1];exact ex_m rfl))) ?_)))
   refine .may H (by decide) (.bind (E1:=EX) (fun _=>rfl) G.ex fun x x' hx=>.bind (E1:=ET) (fun _=>rfl) (.take H _) fun _ _ _=>.bind (E1:=EAs) (fun _=>rfl) (G.alts _ _ rfl) fun l l' hl=>.bind (E1:=ET) (fun _=>rfl) (.take H _) fun _ _ _=>.pure (ex_mk (by show _=_;simp only[List.map_cons,List.map_nil,hx]) hl rfl)) ?_
   refine .bind (E1:=ET) (fun _=>rfl) (.take H _) fun _ _ _=>.mayCl H (.pure (ex_m rfl)) (.kind H (by decide) (by decide) (.bind (E1:=ET) (fun _=>rfl) (.take H _) fun o o' ho=>.bind (E1:=ET) (fun _=>rfl) (.take H _) fun _ _ _=>.pure (by rw[(er_tk ho).2.1];exact ex_m rfl)) (.bind (E1:=EX) (fun _=>rfl) G.ex fun y y' hy=>?_)) (fun d a v b hk hq=>?_)
   ·exact .may H (by decide) (.bind (E1:=Eq) (fun _=>rfl) T fun ty ty' ht=>.bind (E1:=ET) (fun _=>rfl) (.take H _) fun _ _ _=>.pure (by subst ht;exact ex_mk (by show _=_;simp only[List.map_cons,List.map_nil,hy]) rfl rfl)) (.bind (E1:=ET) (fun _=>rfl) (.take H _) fun _ _ _=>.pure hy)
   ·unfold kindG at hq
    rw[hk,if_neg (by decide)] at hq
    exact no_bind hk (no_exp hk m d) v b hq
  ·rw[altsG,altsG]
   have al:∀{p p':Pt} {x x':Ex},EP p p'→EX x x'→(Al.mk p x).er=(Al.mk p' x').er:=fun hp hx=>by rw[er_al,er_al,hp,hx]
   exact .bind (E1:=EP) (fun _=>rfl) P fun p p' hp=>.bind (E1:=ET) (fun _=>rfl) (.take H _) fun _ _ _=>.bind (E1:=EX) (fun _=>rfl) G.ex fun x x' hx=>.may H (by decide) (G.alts _ _ (map_snoc hl (al hp hx))) (.pure (map_snoc hl (al hp hx)))
end
set_option linter.all false
def Cn.er(c:Cn):Cn:=⟨c.name,c.args,0⟩
def Dt.er(d:Dt):Dt:=⟨d.name,d.params,d.cons.map Cn.er,d.deriv,0⟩
def Md.er(m:Md):Md:=⟨m.name,m.t,0⟩
def Cl.er(c:Cl):Cl:=⟨c.name,c.var,c.supers,c.methods.map Md.er,c.defaults.map Bd.er,0⟩
def It.er(i:It):It:=⟨i.cls,i.head,i.ctx,i.binds.map Bd.er,0⟩
def Pg.er(p:Pg):Pg:=⟨⟨p.datas.map Dt.er,p.classes.map Cl.er,p.insts.map It.er⟩,p.binds.map Bd.er⟩
abbrev ECs(x y:List Cn):Prop:=x.map Cn.er=y.map Cn.er
abbrev ED(x y:Dt):Prop:=x.er=y.er
abbrev EMB(x y:List Md×List Bd):Prop:=x.1.map Md.er=y.1.map Md.er∧x.2.map Bd.er=y.2.map Bd.er
abbrev EC(x y:Cl):Prop:=x.er=y.er
abbrev EI(x y:It):Prop:=x.er=y.er
section
variable{L L':List Tk}{e s:Nat}{dl:Int}(H:Agr L L' e s)(hd:dl=0∨dl=1)
include H hd
theorem rl_pars:∀m n,m≤n→∀l,Rl e s dl Eq (parsG L m l) (parsG L' n l)
 |0,_,_,l=>.no fun d a=>by rw[parsG];rfl
 |m+1,0,h,l=>by omega
 |m+1,n+1,h,l=>by
  rw[parsG,parsG]
  exact .kind H (by decide) (by decide) (.bind (E1:=ET) (fun _=>rfl) (.take H _) fun t t' ht=>by rw[(er_tk ht).2.1];exact rl_pars m n (by omega) _) (.pure rfl)
theorem rl_ups:∀m n,m≤n→∀l,Rl e s dl Eq (upsG L m l) (upsG L' n l)
 |0,_,_,l=>.no fun d a=>by rw[upsG];rfl
 |m+1,0,h,l=>by omega
 |m+1,n+1,h,l=>by
  rw[upsG,upsG]
  exact .may H (by decide) (.bind (E1:=ET) (fun _=>rfl) (.take H _) fun t t' ht=>by rw[(er_tk ht).2.1];exact rl_ups m n (by omega) _) (.pure rfl)
theorem rl_uppers(m n:Nat)(h:m≤n):Rl e s dl Eq (uppersG L m) (uppersG L' n):=
 .bind (E1:=ET) (fun _=>rfl) (.take H _) fun t t' ht=>by rw[(er_tk ht).2.1];exact rl_ups H hd m n h _
theorem rl_cons:∀m n,m≤n→∀l l',ECs l l'→Rl e s dl ECs (consG L m l) (consG L' n l')
 |0,_,_,l,l',_=>.no fun d a=>by rw[consG];rfl
 |m+1,0,h,l,l',_=>by omega
 |m+1,n+1,h,l,l',hl=>by
  rw[consG,consG]
  refine .bind (E1:=ET) (fun _=>rfl) (.take H _) fun t t' ht=>.bind (E1:=Eq) (fun _=>rfl) ((rl_ty H hd m n (by omega)).2.2 _) fun x x' hx=>?_
  have hs:ECs (l++[⟨t.text,x,t.at_⟩]) (l'++[⟨t'.text,x',t'.at_⟩]):=map_snoc hl (by unfold Cn.er;simp only[(er_tk ht).2.1,hx])
  exact .may H (by decide) (rl_cons m n (by omega) _ _ hs) (.pure hs)
theorem rl_data(m n:Nat)(h:m≤n):Rl e s dl ED (dataG L m) (dataG L' n):=
 .bind (E1:=ET) (fun _=>rfl) (.take H _) fun t t' ht=>.bind (E1:=Eq) (fun _=>rfl) (rl_pars H hd m n h _) fun ps ps' hp=>.bind (E1:=ET) (fun _=>rfl) (.take H _) fun _ _ _=>.bind (E1:=ECs) (fun _=>rfl) (rl_cons H hd m n h _ _ rfl) fun cs cs' hc=>
  .may H (by decide) (.bind (E1:=ET) (fun _=>rfl) (.take H _) fun _ _ _=>.bind (E1:=Eq) (fun _=>rfl) (rl_uppers H hd m n h) fun ds ds' hds=>.bind (E1:=ET) (fun _=>rfl) (.take H _) fun _ _ _=>.pure (by show _=_;unfold Dt.er;simp only[(er_tk ht).2.1,hp,hds];rw[hc]))
   (.pure (by show _=_;unfold Dt.er;simp only[(er_tk ht).2.1,hp];rw[hc]))
theorem rl_items:∀m n,m≤n→∀ms ms' ds ds',ms.map Md.er=ms'.map Md.er→EBs ds ds'→Rl e s dl EMB (itemsG L m ms ds) (itemsG L' n ms' ds')
 |0,_,_,ms,ms',ds,ds',_,_=>.no fun d a=>by rw[itemsG];rfl
 |m+1,0,h,_,_,_,_,_,_=>by omega
 |m+1,n+1,h,ms,ms',ds,ds',h1,h2=>by
  rw[itemsG,itemsG]
  exact .may H (by decide) (.pure ⟨h1,h2⟩) (.may H (by decide) (.bind (E1:=EB) (fun _=>rfl) (rl_e H hd m n (by omega)).bd fun b b' hb=>.bind (E1:=ET) (fun _=>rfl) (.take H _) fun _ _ _=>rl_items m n (by omega) _ _ _ _ h1 (map_snoc h2 hb))
   (.bind (E1:=ET) (fun _=>rfl) (rl_name H hd) fun t t' ht=>.bind (E1:=ET) (fun _=>rfl) (.take H _) fun _ _ _=>.bind (E1:=Eq) (fun _=>rfl) (rl_ty H hd m n (by omega)).1 fun ty ty' hy=>.bind (E1:=ET) (fun _=>rfl) (.take H _) fun _ _ _=>rl_items m n (by omega) _ _ _ _ (map_snoc h1 (by unfold Md.er;simp only[(er_tk ht).2.1,hy])) h2))
theorem rl_from(m n:Nat)(h:m≤n):Rl e s dl Eq (fromG L m) (fromG L' n):=.may H (by decide) (rl_uppers H hd m n h) (.pure rfl)
theorem rl_class(m n:Nat)(h:m≤n):Rl e s dl EC (classG L m) (classG L' n):=
 .bind (E1:=ET) (fun _=>rfl) (.take H _) fun t t' ht=>.bind (E1:=ET) (fun _=>rfl) (.take H _) fun v v' hv=>.bind (E1:=Eq) (fun _=>rfl) (rl_from H hd m n h) fun sp sp' hs=>.bind (E1:=ET) (fun _=>rfl) (.take H _) fun _ _ _=>
  .bind (E1:=EMB) (fun _=>⟨rfl,rfl⟩) (rl_items H hd m n h _ _ _ _ rfl rfl) fun r r' hr=>.pure (by show _=_;unfold Cl.er;simp only[(er_tk ht).2.1,(er_tk hv).2.1,hs,hr.1,hr.2])
theorem rl_ctx:∀m n,m≤n→∀l,Rl e s dl Eq (ctxG L m l) (ctxG L' n l)
 |0,_,_,l=>.no fun d a=>by rw[ctxG];rfl
 |m+1,0,h,l=>by omega
 |m+1,n+1,h,l=>by
  rw[ctxG,ctxG]
  exact .bind (E1:=ET) (fun _=>rfl) (.take H _) fun t t' ht=>.bind (E1:=ET) (fun _=>rfl) (.take H _) fun v v' hv=>by
   rw[(er_tk ht).2.1,(er_tk hv).2.1]
   exact .may H (by decide) (rl_ctx m n (by omega) _) (.pure rfl)
theorem rl_defs:∀m n,m≤n→∀l l',EBs l l'→Rl e s dl EBs (defsG L m l) (defsG L' n l')
 |0,_,_,l,l',_=>.no fun d a=>by rw[defsG];rfl
 |m+1,0,h,l,l',_=>by omega
 |m+1,n+1,h,l,l',hl=>by
  rw[defsG,defsG]
  exact .may H (by decide) (.pure hl) (.bind (E1:=ET) (fun _=>rfl) (.take H _) fun _ _ _=>.bind (E1:=EB) (fun _=>rfl) (rl_e H hd m n (by omega)).bd fun b b' hb=>.bind (E1:=ET) (fun _=>rfl) (.take H _) fun _ _ _=>rl_defs m n (by omega) _ _ (map_snoc hl hb))
theorem rl_inst(m n:Nat)(h:m≤n):Rl e s dl EI (instG L m) (instG L' n):=
 .bind (E1:=ET) (fun _=>rfl) (.take H _) fun t t' ht=>.bind (E1:=Eq) (fun _=>rfl) (rl_ty H hd m n h).2.1 fun hh hh' hq=>.bind (E1:=Eq) (fun _=>rfl) (.may H (by decide) (rl_ctx H hd m n h _) (.pure rfl)) fun c c' hc=>.bind (E1:=ET) (fun _=>rfl) (.take H _) fun _ _ _=>
  .bind (E1:=EBs) (fun _=>rfl) (rl_defs H hd m n h _ _ rfl) fun bs bs' hb=>.pure (by show _=_;unfold It.er;simp only[(er_tk ht).2.1,hq,hc];rw[hb])
structure Beh(P q q':Pg):Prop where
 ds:q'.datas.map Dt.er=P.datas.map Dt.er++q.datas.map Dt.er
 cs:q'.classes.map Cl.er=P.classes.map Cl.er++q.classes.map Cl.er
 is:q'.insts.map It.er=P.insts.map It.er++q.insts.map It.er
 bs:q'.binds.map Bd.er=P.binds.map Bd.er++q.binds.map Bd.er
omit H hd in
theorem snoc3{α β:Type}{f:α→β}{l l':List α}{A:List β}{x x':α}(h:l'.map f=A++l.map f)(hx:f x=f x'):(l'++[x']).map f=A++(l++[x]).map f:=by
 rw[List.map_append,List.map_append,h,List.map_cons,List.map_cons,hx,List.append_assoc]
theorem rl_prog(hf:(tkAt L e).er=(tkAt L' (e+s)).er)(P:Pg):∀m n,m≤n→∀q q',Beh P q q'→Rl e s dl (Beh P) (progG L m q) (progG L' n q')
 |0,_,_,q,q',_=>.no fun d a=>by rw[progG];rfl
 |m+1,0,h,_,_,_=>by omega
 |m+1,n+1,h,q,q',hq=>by
  have ih:=rl_prog hf P m n (by omega)
  rw[progG,progG]
  have hk0:∀{A A' B B':GM Pg},Rl e s dl (Beh P) A A'→Rl e s dl (Beh P) B B'→Rl e s dl (Beh P) (kindG L 0 A B) (kindG L' 0 A' B'):=fun {A A' B B'} h1 h2 d a v b h=>by
   have hk:a≤e→((tkAt L a).kind=0↔(tkAt L' (a+s)).kind=0):=fun ha=>by
    by_cases h1:a<e
    ·rw[(er_tk (H.lt a h1)).1]
    ·have:a=e:=by omega
     subst this;rw[(er_tk hf).1]
   unfold kindG at h ⊢
   by_cases hk1:(tkAt L a).kind=0
   ·rw[if_pos hk1] at h
    obtain⟨q1,q2⟩:=h1 d a v b h
    refine⟨q1,fun hb=>?_⟩
    rw[if_pos ((hk (by omega)).1 hk1)];exact q2 hb
   ·rw[if_neg hk1] at h
    obtain⟨q1,q2⟩:=h2 d a v b h
    refine⟨q1,fun hb=>?_⟩
    rw[if_neg (fun h=>hk1 ((hk (by omega)).2 h))];exact q2 hb
  refine hk0 (.pure hq) (.may H (by decide) ?_ (.may H (by decide) ?_ (.may H (by decide) ?_ ?_)))
  ·exact .bind (E1:=ED) (fun _=>rfl) (rl_data H hd m n (by omega)) fun x x' hx=>.bind (E1:=ET) (fun _=>rfl) (.take H _) fun _ _ _=>ih _ _ ⟨snoc3 hq.ds hx,hq.cs,hq.is,hq.bs⟩
  ·exact .bind (E1:=EC) (fun _=>rfl) (rl_class H hd m n (by omega)) fun x x' hx=>.bind (E1:=ET) (fun _=>rfl) (.take H _) fun _ _ _=>ih _ _ ⟨hq.ds,snoc3 hq.cs hx,hq.is,hq.bs⟩
  ·exact .bind (E1:=EI) (fun _=>rfl) (rl_inst H hd m n (by omega)) fun x x' hx=>.bind (E1:=ET) (fun _=>rfl) (.take H _) fun _ _ _=>ih _ _ ⟨hq.ds,hq.cs,snoc3 hq.is hx,hq.bs⟩
  ·exact .bind (E1:=ET) (fun _=>rfl) (.take H _) fun _ _ _=>.bind (E1:=EB) (fun _=>rfl) (rl_e H hd m n (by omega)).bd fun x x' hx=>.bind (E1:=ET) (fun _=>rfl) (.take H _) fun _ _ _=>ih _ _ ⟨hq.ds,hq.cs,hq.is,snoc3 hq.bs hx⟩
end
set_option linter.all false
namespace Lx
set_option maxRecDepth 100000
end Lx
set_option linter.all false
section
variable(L:List Tk)
theorem kindG_no{α:Type}{k:Int}{A B:GM α}{d:Int}{a:Nat}(h:(tkAt L a).kind≠k):kindG L k A B d a=B d a:=by
 unfold kindG;rw[if_neg h]
theorem kindG_is{α:Type}{k:Int}{A B:GM α}{d:Int}{a:Nat}(h:(tkAt L a).kind=k):kindG L k A B d a=A d a:=by
 unfold kindG;rw[if_pos h]
theorem mayG_is{α:Type}{x:ByteArray}{A B:GM α}{d:Int}{a:Nat}(h:isT L x a=true):mayG L x A B d a=A d (a+1):=by
 unfold mayG;rw[if_pos h]
theorem mayG_no{α:Type}{x:ByteArray}{A B:GM α}{d:Int}{a:Nat}(h:isT L x a=false):mayG L x A B d a=B d a:=by
 unfold mayG;rw[if_neg (by simp[h])]
theorem stG_no{α:Type}{w:Int}{A B:GM α}{d:Int}{a:Nat}(h:stW L w a=false):stG L w A B d a=B d a:=by
 unfold stG;rw[if_neg (by simp[h])]
theorem bindG_of{α β:Type}{p:GM α}{k:α→GM β}{d:Int}{a b:Nat}{v:α}(h:p d a=.ok v b):bindG p k d a=k v d b:=by
 unfold bindG;rw[h];rfl
theorem bindG_er{α β:Type}{p:GM α}{k:α→GM β}{d:Int}{a:Nat}{e w:Int}(h:p d a=.err e w):bindG p k d a=.err e w:=by
 unfold bindG;rw[h];rfl
theorem takeG_is{x:ByteArray}{k:Int}{d:Int}{a:Nat}(hk:¬k<6)(h:isT L x a=true):takeG L k x d a=.ok (tkAt L a) (a+1):=by
 unfold takeG okT;rw[if_neg hk,h];rfl
theorem isT_of{x:ByteArray}{a:Nat}{k:Int}{y:ByteArray}{n w:Int}(h:tkAt L a=⟨k,y,n,w⟩):isT L x a=(decide (6≤k)&&decide (y=x)):=by
 unfold isT;rw[h]
theorem exp_ok{m a b:Nat}{d:Int}{x:Ex}(hd:¬300<d+1)(ho:operandG L (m+1) (d+1) a=.ok x b)(hn:(tkAt L b).kind≠5):expG L (m+2) d a=.ok x b:=by
 rw[expG]
 unfold deepG
 rw[if_neg hd,bindG_of ho]
 have:opsG L (m+1) [x] [] (d+1) b=.ok ([x],[]) b:=by
  rw[opsG,kindG_no L hn];rfl
 rw[bindG_of this]
 rfl
theorem exp_er{m a:Nat}{d e w:Int}(hd:¬300<d+1)(ho:operandG L m (d+1) a=.err e w):expG L (m+1) d a=.err e w:=by
 rw[expG]
 unfold deepG
 rw[if_neg hd,bindG_er ho]
theorem st_key{a:Nat}{k:Int}{y:ByteArray}{n w:Int}(h:tkAt L a=⟨k,y,n,w⟩)(hk:k=0∨6≤k)(h1:y≠sOp)(h2:y≠sCase):stW L 2 a=false:=by
 unfold stW
 rw[isT_of L h,isT_of L h,isT_of L h,h]
 have e1:¬k=1:=by omega
 have e2:¬k=2:=by omega
 have e3:¬k=3:=by omega
 have e4:¬k=4:=by omega
 simp[e1,e2,e3,e4,h1,h2]
end
def Ends(L:List Tk)(a:Nat):Prop:=stW L 2 a=false∧(tkAt L a).kind≠5
theorem ends_of{L:List Tk}{a:Nat}{k:Int}{y:ByteArray}{n w:Int}(h:tkAt L a=⟨k,y,n,w⟩)(hk:k=0∨6≤k)(h1:y≠sOp)(h2:y≠sCase):Ends L a:=⟨st_key L h hk h1 h2,by rw[h];simp only;omega⟩
section
variable{L:List Tk}{n:Nat}{p:Nat→Int}
theorem op_br{m a:Nat}{d:Int}{w:Int}(ha:tkAt L a=⟨7,sOp,0,w⟩)(h1:isT L sCl (a+1)=false)(h2:(tkAt L (a+1)).kind≠5):operandG L (m+3) d a=bindG (bindG (expG L (m+1)) fun y=>mayG L sCol (bindG (typeF L (m+1)) fun ty=>bindG (takeG L 7 sCl) fun _=>pureG (.mk 12 eB 0 ty [y] [] [] w)) (bindG (takeG L 7 sCl) fun _=>pureG y)) (fun x=>appsG L (m+2) w x) d (a+1):=by
 have h:∀x,sOp≠x→isT L x a=false:=fun x hx=>by rw[isT_of L ha];simp[hx]
 have ho:isT L sOp a=true:=by rw[isT_of L ha];decide
 rw[operandG]
 dsimp only[nextG]
 rw[mayG_no L (h _ (by decide)),mayG_no L (h _ (by decide)),mayG_no L (h _ (by decide))]
 have e:atomG L (m+2) d a=bindG (expG L (m+1)) (fun y=>mayG L sCol (bindG (typeF L (m+1)) fun ty=>bindG (takeG L 7 sCl) fun _=>pureG (.mk 12 eB 0 ty [y] [] [] w)) (bindG (takeG L 7 sCl) fun _=>pureG y)) d (a+1):=by
  rw[atomG]
  dsimp only[nextG]
  rw[ha]
  simp only[if_neg (show ¬(7:Int)=1 by decide),if_neg (show ¬(7:Int)=2 by decide),if_neg (show ¬(7:Int)=3 by decide),if_neg (show ¬(7:Int)=4 by decide)]
  rw[mayG_no L (h _ (by decide)),bindG_of (takeG_is L (by decide) ho),mayG_no L h1,kindG_no L h2]
 show (bindG (atomG L (m+2)) fun x=>appsG L (m+2) (tkAt L a).at_ x) d a=_
 rw[ha]
 unfold bindG at e ⊢
 rw[e]
end
set_option linter.all false
theorem bind_ok{α β:Type}{p:GM β}{k:β→GM α}{d:Int}{a b:Nat}{v:α}(h:bindG p k d a=.ok v b):∃x c,p d a=.ok x c∧k x d c=.ok v b:=by
 unfold bindG at h
 cases hr:p d a with
 |out=>rw[hr] at h;cases h
 |err x y=>rw[hr] at h;cases h
 |ok x c=>rw[hr] at h;exact⟨x,c,rfl,h⟩
theorem take_ok{L:List Tk}{k:Int}{x:ByteArray}{d:Int}{a b:Nat}{t:Tk}(h:takeG L k x d a=.ok t b):okT L k x a=true∧b=a+1:=by
 unfold takeG at h
 split at h
 ·rename_i ho;cases h;exact⟨ho,rfl⟩
 ·cases h
theorem sem_kind{L:List Tk}{c:Nat}(h:isT L sSem c=true):(tkAt L c).kind≠0:=fun h0=>by
 unfold isT at h;rw[h0] at h;simp at h
section
variable{La Lab:List Tk}{ea:Nat}
theorem pre_step{α β:Type}{E:α→α→Prop}{g g':GM α}(hz:∀i,ea≤i→(tkAt La i).kind=0)(hA:∀i,i<ea→(tkAt La i).er=(tkAt Lab i).er)(hg:Rl (ea-1) 0 0 E g g'){K:α→GM β}{d:Int}{a b:Nat}{v:β}(h:bindG g (fun x=>bindG (takeG La 7 sSem) fun _=>K x) d a=.ok v b) :
  ∃x x' c,E x x'∧c<ea∧K x d (c+1)=.ok v b∧∀(K':α→GM β),bindG g' (fun x=>bindG (takeG Lab 7 sSem) fun _=>K' x) d a=K' x' d (c+1):=by
 obtain⟨x,c,h1,h2⟩:=bind_ok h
 obtain⟨t,c2,h3,h4⟩:=bind_ok h2
 obtain⟨h5,rfl⟩:=take_ok h3
 have h6:isT La sSem c=true:=by unfold okT at h5;rw[if_neg (by decide)] at h5;exact h5
 have hc:c<ea:=by
  apply Decidable.byContradiction
  intro hn
  exact sem_kind h6 (hz c (by omega))
 obtain⟨_,q⟩:=hg d a x c h1
 rcases q (by omega) with⟨x',e1,e2⟩|⟨w,e1,_⟩
 ·refine⟨x,x',c,e2,hc,h4,fun K'=>?_⟩
  have e1:g' d a=.ok x' c:=by have:=e1;simpa using this
  rw[bindG_of e1,bindG_of (takeG_is Lab (by decide) ?_)]
  obtain⟨k1,k2,_⟩:=er_tk (hA c hc)
  unfold isT at h6 ⊢
  rw[←k1,←k2];exact h6
 ·cases e1
theorem prog_pre(hz:∀i,ea≤i→(tkAt La i).kind=0)(hA:∀i,i<ea→(tkAt La i).er=(tkAt Lab i).er)(hn:∀i,i<ea→(tkAt La i).kind≠0):∀(m:Nat) (p p':Pg) (d:Int) (a b:Nat) (pf:Pg),progG La m p d a=.ok pf b→p.er=p'.er→a≤ea→b=ea∧∀n,∃pf' n',n≤n'∧pf.er=pf'.er∧progG Lab (m+n) p' d a=progG Lab n' pf' d ea
 |0,p,p',d,a,b,pf,h,_,_=>by rw[progG] at h;cases h
 |m+1,p,p',d,a,b,pf,h,hp,ha=>by
  have e4:p.datas.map Dt.er=p'.datas.map Dt.er∧p.classes.map Cl.er=p'.classes.map Cl.er∧p.insts.map It.er=p'.insts.map It.er∧p.binds.map Bd.er=p'.binds.map Bd.er:=by
   unfold Pg.er at hp
   injection hp with h1 h2
   injection h1 with h3 h4 h5
   exact⟨h3,h4,h5,h2⟩
  rw[progG] at h
  by_cases hk:(tkAt La a).kind=0
  ·rw[kindG_is La hk] at h
   have hae:a=ea:=by
    apply Decidable.byContradiction
    intro hne
    exact hn a (by omega) hk
   cases h
   exact⟨hae,fun n=>⟨p',m+1+n,by omega,hp,by rw[hae]⟩⟩
  ·rw[kindG_no La hk] at h
   have hlt:a<ea:=by
    apply Decidable.byContradiction
    intro hne
    exact hk (hz a (by omega))
   have H:Agr La Lab (ea-1) 0:=⟨fun i hi=>hA i (by omega),.inl (hA (ea-1) (by omega))⟩
   have hk':(tkAt Lab a).kind≠0:=by rw[←(er_tk (hA a hlt)).1];exact hk
   have hT:∀x,isT Lab x a=isT La x a:=fun x=>by
    obtain⟨k1,k2,_⟩:=er_tk (hA a hlt)
    unfold isT;rw[k1,k2]
   have fin:∀{α:Type} {E:α→α→Prop} {g:GM α} (g':Nat→GM α) (f:Pg→α→Pg) (a1:Nat),(∀n,m≤n→Rl (ea-1) 0 0 E g (g' n))→(∀x x',E x x'→(f p x).er=(f p' x').er)→bindG g (fun x=>bindG (takeG La 7 sSem) fun _=>progG La m (f p x)) d a1=.ok pf b→
     b=ea∧∀n,∃pf' n',n≤n'∧pf.er=pf'.er∧bindG (g' (m+n)) (fun x=>bindG (takeG Lab 7 sSem) fun _=>progG Lab (m+n) (f p' x)) d a1=progG Lab n' pf' d ea:=by
    intro α E g g' f a1 hg hf hb
    refine⟨?_,fun n=>?_⟩
    ·obtain⟨x,x',c,q1,q2,q3,q4⟩:=pre_step hz hA (hg m (Nat.le_refl _)) hb
     exact(prog_pre hz hA hn m _ _ d (c+1) b pf q3 rfl (by omega)).1
    ·obtain⟨x,x',c,q1,q2,q3,q4⟩:=pre_step hz hA (hg (m+n) (by omega)) hb
     rw[q4 fun x=>progG Lab (m+n) (f p' x)]
     exact(prog_pre hz hA hn m _ _ d (c+1) b pf q3 (hf x x' q1) (by omega)).2 n
   have go:∀n,progG Lab (m+1+n) p' d a=(mayG Lab sData (bindG (dataG Lab (m+n)) fun x=>bindG (takeG Lab 7 sSem) fun _=>progG Lab (m+n) {p' with datas:=p'.datas++[x] })
     (mayG Lab sClass (bindG (classG Lab (m+n)) fun x=>bindG (takeG Lab 7 sSem) fun _=>progG Lab (m+n) {p' with classes:=p'.classes++[x] })
     (mayG Lab sInst (bindG (instG Lab (m+n)) fun x=>bindG (takeG Lab 7 sSem) fun _=>progG Lab (m+n) {p' with insts:=p'.insts++[x] })
     (bindG (takeG Lab 6 sDef) fun _=>bindG (bdG Lab (m+n)) fun x=>bindG (takeG Lab 7 sSem) fun _=>progG Lab (m+n) {p' with binds:=p'.binds++[x] })))) d a:=fun n=>by
    rw[show m+1+n=(m+n)+1 by omega,progG,kindG_no Lab hk']
   cases c1:isT La sData a with
   |true=>
    rw[mayG_is La c1] at h
    have:=fin (fun n=>dataG Lab n) (fun p x=>{p with datas:=p.datas++[x] }) (a+1) (fun n hmn=>rl_data H (.inl rfl) m n hmn) (fun x x' hx=>by unfold Pg.er;simp only[map_snoc e4.1 hx,e4.2.1,e4.2.2.1,e4.2.2.2]) h
    refine⟨this.1,fun n=>?_⟩
    rw[go n,mayG_is Lab (by rw[hT];exact c1)]
    exact this.2 n
   |false=>
    rw[mayG_no La c1] at h
    cases c2:isT La sClass a with
    |true=>
     rw[mayG_is La c2] at h
     have:=fin (fun n=>classG Lab n) (fun p x=>{p with classes:=p.classes++[x] }) (a+1) (fun n hmn=>rl_class H (.inl rfl) m n hmn) (fun x x' hx=>by unfold Pg.er;simp only[map_snoc e4.2.1 hx,e4.1,e4.2.2.1,e4.2.2.2]) h
     refine⟨this.1,fun n=>?_⟩
     rw[go n,mayG_no Lab (by rw[hT];exact c1),mayG_is Lab (by rw[hT];exact c2)]
     exact this.2 n
    |false=>
     rw[mayG_no La c2] at h
     cases c3:isT La sInst a with
     |true=>
      rw[mayG_is La c3] at h
      have:=fin (fun n=>instG Lab n) (fun p x=>{p with insts:=p.insts++[x] }) (a+1) (fun n hmn=>rl_inst H (.inl rfl) m n hmn) (fun x x' hx=>by unfold Pg.er;simp only[map_snoc e4.2.2.1 hx,e4.1,e4.2.1,e4.2.2.2]) h
      refine⟨this.1,fun n=>?_⟩
      rw[go n,mayG_no Lab (by rw[hT];exact c1),mayG_no Lab (by rw[hT];exact c2),mayG_is Lab (by rw[hT];exact c3)]
      exact this.2 n
     |false=>
      rw[mayG_no La c3] at h
      obtain⟨t,c,h1,h2⟩:=bind_ok h
      obtain⟨h5,rfl⟩:=take_ok h1
      have h6:isT La sDef a=true:=by unfold okT at h5;rw[if_neg (by decide)] at h5;exact h5
      have:=fin (fun n=>bdG Lab n) (fun p x=>{p with binds:=p.binds++[x] }) (a+1) (fun n hmn=>(rl_e H (.inl rfl) m n hmn).bd) (fun x x' hx=>by unfold Pg.er;simp only[map_snoc e4.2.2.2 hx,e4.1,e4.2.1,e4.2.2.1]) h2
      refine⟨this.1,fun n=>?_⟩
      rw[go n,mayG_no Lab (by rw[hT];exact c1),mayG_no Lab (by rw[hT];exact c2),mayG_no Lab (by rw[hT];exact c3),bindG_of (takeG_is Lab (by decide) (by rw[hT];exact h6))]
      exact this.2 n
end
abbrev pg0:Pg:=⟨⟨[],[],[]⟩,[]⟩
def Pg.add(p q:Pg):Pg:=⟨⟨p.datas++q.datas,p.classes++q.classes,p.insts++q.insts⟩,p.binds++q.binds⟩
structure Ends_(L:List Tk)(e:Nat):Prop where
 z:∀i,e≤i→(tkAt L i).kind=0
 n:∀i,i<e→(tkAt L i).kind≠0
theorem prog_both{La Lb Lab:List Tk}{ea eb:Nat}(ha:Ends_ La ea)(hb:Ends_ Lb eb)(hA:∀i,i<ea→(tkAt La i).er=(tkAt Lab i).er)(hB:∀i,i≤eb→(tkAt Lb i).er=(tkAt Lab (i+ea)).er){m m2 x y:Nat}{p q:Pg}(h1:progG La m pg0 0 0=.ok p x)(h2:progG Lb m2 pg0 0 0=.ok q y) :
  ∃n r z,progG Lab n pg0 0 0=.ok r z∧r.er=(p.add q).er:=by
 obtain⟨_,f⟩:=prog_pre ha.z hA ha.n m pg0 pg0 0 0 x p h1 rfl (Nat.zero_le _)
 obtain⟨rfl,_⟩:=prog_pre hb.z (Lab:=Lb) (fun _ _=>rfl) hb.n m2 pg0 pg0 0 0 y q h2 rfl (Nat.zero_le _)
 obtain⟨pf',n',hn',he,hq⟩:=f m2
 have H:Agr Lb Lab y ea:=⟨fun i hi=>hB i (by omega),.inl (hB y (Nat.le_refl _))⟩
 have hr:=rl_prog H (.inl rfl) (hB y (Nat.le_refl _)) pf' m2 n' hn' pg0 pf' ⟨by simp,by simp,by simp,by simp⟩ 0 0 q y h2
 rcases hr.2 (Nat.le_refl _) with⟨r,e1,e2⟩|⟨w,e1,_⟩
 ·refine⟨m+m2,r,y+ea,?_,?_⟩
  ·rw[hq]
   have e1:=e1
   simp only[Nat.zero_add] at e1
   exact e1
  ·unfold Pg.er at he ⊢
   injection he with g1 g2
   injection g1 with g3 g4 g5
   unfold Pg.add
   simp only[List.map_append]
   rw[e2.ds,e2.cs,e2.is,e2.bs,g3,g4,g5,g2]
 ·cases e1
section
variable{L:List Tk}{a:Nat}(hk:(tkAt L a).kind≠1∧(tkAt L a).kind≠2∧(tkAt L a).kind≠3∧(tkAt L a).kind≠4)(hx:∀x,x≠sCl→isT L x a=false)
include hk hx
theorem no2_atom:∀m d v b,atomG L m d a≠.ok v b
 |0,d,v,b=>by rw[atomG];exact fun e=>by cases e
 |m+1,d,v,b=>by
  rw[atomG]
  dsimp only[nextG]
  rw[if_neg hk.1,if_neg hk.2.1,if_neg hk.2.2.1,if_neg hk.2.2.2,mayG_no L (hx _ (by decide))]
  intro e
  obtain⟨t,c,h1,_⟩:=bind_ok e
  have:=(take_ok h1).1
  unfold okT at this
  rw[if_neg (by decide),hx _ (by decide)] at this
  cases this
theorem no2_opd:∀m d v b,operandG L m d a≠.ok v b
 |0,d,v,b=>by rw[operandG];exact fun e=>by cases e
 |m+1,d,v,b=>by
  rw[operandG]
  dsimp only[nextG]
  rw[mayG_no L (hx _ (by decide)),mayG_no L (hx _ (by decide)),mayG_no L (hx _ (by decide))]
  intro e
  obtain⟨t,c,h1,_⟩:=bind_ok e
  exact no2_atom hk hx m d t c h1
theorem no2_exp:∀m d v b,expG L m d a≠.ok v b
 |0,d,v,b=>by rw[expG];exact fun e=>by cases e
 |m+1,d,v,b=>by
  rw[expG]
  unfold deepG
  split
  ·exact fun e=>by cases e
  ·intro e
   obtain⟨t,c,h1,_⟩:=bind_ok e
   exact no2_opd hk hx m _ t c h1
end
theorem exp_first{L:List Tk}{m a b:Nat}{d:Int}{v:Ex}(h:expG L m d a=.ok v b):isT L sCl a=false∧(tkAt L a).kind≠5:=by
 refine⟨?_,fun h5=>?_⟩
 ·cases hc:isT L sCl a with
  |false=>rfl
  |true=>
   unfold isT at hc
   rw[Bool.and_eq_true,decide_eq_true_eq,decide_eq_true_eq] at hc
   refine absurd h (no2_exp ⟨by omega,by omega,by omega,by omega⟩ (fun x hx=>?_) m d v b)
   unfold isT
   have h9:decide (sCl=x)=false:=decide_eq_false (fun e=>hx e.symm)
   rw[hc.2,h9,Bool.and_false]
 ·refine absurd h (no2_exp ⟨by omega,by omega,by omega,by omega⟩ (fun x hx=>?_) m d v b)
  unfold isT
  rw[h5];rfl
theorem exp_upto{L:List Tk}{e m a b:Nat}{d:Int}{v:Ex}(he:Ends_ L e)(ht:∀i,e≤i→(tkAt L i).er=zT.er)(ha:a≤e)(hl:e≤L.length)(h:expG L m d a=.ok v b):b≤e:=by
 have ht':∀i,(tkAt L i).er=(tkAt (L.take e) i).er:=fun i=>by
  by_cases hi:i<e
  ·unfold tkAt;rw[List.getElem?_take,if_pos hi]
  ·rw[ht i (by omega)]
   unfold tkAt
   rw[List.getElem?_take,if_neg hi];rfl
 have H:Agr L (L.take e) b 0:=⟨fun i _=>ht' i,.inl (ht' b)⟩
 rcases((rl_e H (.inl rfl) m m (Nat.le_refl _)).ex d a v b h).2 (Nat.le_refl _) with⟨v',e1,_⟩|⟨w,e1,_⟩
 ·have:=(gp_e (L:=L.take e) m).ex _ _ _ _ e1
  have hlen:(L.take e).length=e:=by rw[List.length_take];omega
  omega
 ·cases e1
theorem exp_br{L L':List Tk}{e m b:Nat}{v:Ex}{w w2 w3:Int}(he:Ends_ L e)(ht:∀i,e≤i→(tkAt L i).er=zT.er)(hl:e≤L.length)(h0:tkAt L' 0=⟨7,sOp,0,w⟩)(hA:∀i,i<e→(tkAt L i).er=(tkAt L' (i+1)).er)(h1:tkAt L' (e+1)=⟨7,sCl,0,w2⟩)(h2:tkAt L' (e+2)=⟨0,eB,0,w3⟩)
  (h:expG L m 0 0=.ok v b) (hz:(tkAt L b).kind=0):(∃M v',expG L' M 0 0=.ok v' (e+2)∧v.er=v'.er)∨∃M x,expG L' M 0 0=.err 111 x:=by
 have hb:b=e:=by
  have h3:=exp_upto he ht (Nat.zero_le _) hl h
  apply Decidable.byContradiction
  intro hne
  exact he.n b (by omega) hz
 subst hb
 have hpos:0<b:=by
  apply Decidable.byContradiction
  intro hne
  have:b=0:=by omega
  subst this
  exact no_exp (he.z 0 (Nat.le_refl _)) m 0 v 0 h
 have H:Agr L L' b 1:=⟨hA,.inr ⟨he.z b (Nat.le_refl _),by rw[h1],by rw[h1]⟩⟩
 obtain⟨f1,f2⟩:=exp_first h
 have g1:isT L' sCl 1=false:=by rw[show (1:Nat)=0+1 from rfl,H.isT hpos];exact f1
 have g2:(tkAt L' 1).kind≠5:=by rw[show (1:Nat)=0+1 from rfl,←(er_tk (hA 0 hpos)).1];exact f2
 obtain⟨m',hm'⟩:∃m',m≤m'+1:=⟨m,by omega⟩
 have hr:=((rl_e H (.inr rfl) m (m'+1) hm').ex 0 0 v b h).2 (Nat.le_refl _)
 have ob:=op_br (m:=m') (d:=0+1) h0 g1 g2
 have e2:Ends L' (b+2):=ends_of h2 (.inl rfl) (by decide) (by decide)
 rcases hr with⟨v',r1,r2⟩|⟨x,_,r1⟩
 ·refine .inl ⟨m'+4,v',exp_ok L' (m:=m'+2) (by decide) ?_ e2.2,r2⟩
  rw[ob]
  have h3:isT L' sCol (b+1)=false:=by rw[isT_of L' h1];decide
  have h4:isT L' sCl (b+1)=true:=by rw[isT_of L' h1];decide
  have h5:bindG (expG L' (m'+1)) (fun y=>mayG L' sCol (bindG (typeF L' (m'+1)) fun ty=>bindG (takeG L' 7 sCl) fun _=>pureG (.mk 12 eB 0 ty [y] [] [] w)) (bindG (takeG L' 7 sCl) fun _=>pureG y)) (0+1) (0+1)=.ok v' (b+2):=by
   rw[bindG_of r1,mayG_no L' h3,bindG_of (takeG_is L' (by decide) h4)]
   rfl
  rw[bindG_of h5,appsG,stG_no L' e2.1]
  rfl
 ·refine .inr ⟨m'+4,x,exp_er L' (m:=m'+3) (by decide) ?_⟩
  rw[ob]
  exact bindG_er (bindG_er r1)
set_option linter.all false
set_option maxRecDepth 20000
abbrev lEnd:Lx.LTok:=(0,[],0,0)
def ltE(t:Lx.LTok):Tk:=⟨t.1,Lx.textOf t.2.1,t.2.2.1,0⟩
theorem mkT_er(b:ByteArray)(t:Lx.LTok):(mkT b t).er=ltE t:=rfl
theorem ltE_add(m:Nat)(t:Lx.LTok):ltE (Lx.addRem m t)=ltE t:=rfl
theorem scanL_end:∀(f:Nat) (l:List UInt8) (ts:List Lx.LTok),Lx.scanL f l=.ok ts→∃us,ts=us++[lEnd]∧∀t∈us,t.1≠0
 |0,l,ts,h=>by cases h;exact⟨[],rfl,fun t ht=>by cases ht⟩
 |f+1,[],ts,h=>by cases h;exact⟨[],rfl,fun t ht=>by cases ht⟩
 |f+1,c::l,ts,h=>by
  simp only[Lx.scanL] at h
  cases h1:Lx.oneL (c::l) with
  |error e=>rw[h1] at h;cases h
  |ok p=>
   obtain⟨k,x,n,r⟩:=p
   rw[h1] at h
   simp only at h
   cases h2:Lx.scanL f (Lx.skipC false r) with
   |error e=>rw[h2] at h;cases h
   |ok ts'=>
    rw[h2] at h
    cases h
    obtain⟨us,rfl,hu⟩:=scanL_end f _ _ h2
    refine⟨_::us,rfl,fun t ht=>?_⟩
    rcases List.mem_cons.1 ht with rfl|ht
    ·have:=(oneL_kind h1).1
     show k≠0
     omega
    ·exact hu t ht
theorem scT{b:ByteArray}{L:List Tk}(h:scanT b=.ok L):Lx.spoilAll b.data.toList=none∧∃us,Lx.scanAll b.data.toList=.ok (us++[lEnd])∧L=(us++[lEnd]).map (mkT b)∧∀t∈us,t.1≠0:=by
 have hb:=(scanT_ok h).1
 unfold scanT at h
 rw[Lx.scanP_form b hb] at h
 cases hs:Lx.spoilAll b.data.toList with
 |some m=>rw[hs] at h;cases h
 |none=>
  rw[hs] at h
  simp only at h
  cases ha:Lx.scanAll b.data.toList with
  |error p=>rw[ha] at h;cases h
  |ok ts=>
   rw[ha] at h
   obtain⟨us,rfl,hu⟩:=scanL_end _ _ _ ha
   refine⟨rfl,us,rfl,?_,hu⟩
   have h:(Except.ok (((us++[lEnd]).map (Lx.toTok b.size)).map ofTok):Except (Int×Nat) (List Tk))=Except.ok L:=by
    have h:=h
    simp only[Lx.liftScan,List.nil_append] at h
    exact h
   cases h
   rw[List.map_map]
   rfl
theorem scT_mk{b:ByteArray}{ts:List Lx.LTok}(hb:b.size≤60000)(h1:Lx.spoilAll b.data.toList=none)(h2:Lx.scanAll b.data.toList=.ok ts):scanT b=.ok (ts.map (mkT b)):=by
 unfold scanT
 rw[Lx.scanP_form b hb,h1,h2]
 simp[Lx.liftScan,mkT]
section
variable{f:Lx.LTok→Tk}{us:List Lx.LTok}
theorem tk_lt{r:List Lx.LTok}{i:Nat}(h:i<us.length):tkAt ((us++r).map f) i=f us[i]:=by
 unfold tkAt
 rw[List.getElem?_map,List.getElem?_append_left h,List.getElem?_eq_getElem h]
 rfl
theorem tk_at{x:Lx.LTok}{r:List Lx.LTok}:tkAt ((us++x::r).map f) us.length=f x:=by
 unfold tkAt
 rw[List.getElem?_map,List.getElem?_append_right (Nat.le_refl _),Nat.sub_self]
 rfl
theorem tk_ge(b:ByteArray){i:Nat}(h:us.length≤i):(tkAt ((us++[lEnd]).map (mkT b)) i).er=zT.er:=by
 by_cases hi:i=us.length
 ·rw[hi,tk_at];rfl
 ·unfold tkAt
  rw[List.getElem?_eq_none (by rw[List.length_map,List.length_append];simp;omega)]
  rfl
theorem ends_map(b:ByteArray)(hu:∀t∈us,t.1≠0):Ends_ ((us++[lEnd]).map (mkT b)) us.length:=by
 refine⟨fun i hi=>?_,fun i hi=>?_⟩
 ·exact(er_tk (tk_ge b hi)).1
 ·rw[tk_lt hi]
  exact hu _ (List.getElem_mem hi)
end
theorem sep_scan{a b S:ByteArray}{La Lb:List Tk}(hS:S.data.toList=a.data.toList++10::b.data.toList)(hl:S.size≤60000)(ha:scanT a=.ok La)(hb:scanT b=.ok Lb) :
  ∃Lab ea eb,scanT S=.ok Lab∧Ends_ La ea∧Ends_ Lb eb∧(∀i,i<ea→(tkAt La i).er=(tkAt Lab i).er)∧∀i,i≤eb→(tkAt Lb i).er=(tkAt Lab (i+ea)).er:=by
 obtain⟨s1,ua,a1,rfl,a2⟩:=scT ha
 obtain⟨s2,ub,b1,rfl,b2⟩:=scT hb
 have h1:Lx.spoilAll S.data.toList=none:=by rw[hS,Lx.spoil_sep _ _ _ (Nat.le_refl _),s1];exact s2
 have h2:Lx.scanAll S.data.toList=.ok (ua.map (Lx.addRem (b.data.toList.length+1))++(ub++[lEnd])):=by
  rw[hS,Lx.scan_sep _ _ _ (Nat.le_refl _),a1,b1]
  simp only[Lx.behind,List.dropLast_concat]
 refine⟨_,ua.length,ub.length,scT_mk hl h1 h2,ends_map a a2,ends_map b b2,fun i hi=>?_,fun i hi=>?_⟩
 ·rw[tk_lt hi,tk_lt (by rw[List.length_map];exact hi),mkT_er,mkT_er,List.getElem_map,ltE_add]
 ·have key:tkAt ((ua.map (Lx.addRem (b.data.toList.length+1))++(ub++[lEnd])).map (mkT S)) (i+ua.length)=tkAt ((ub++[lEnd]).map (mkT S)) i:=by
   unfold tkAt
   rw[List.map_append,List.getElem?_append_right (by simp only[List.length_map];omega)]
   simp only[List.length_map,Nat.add_sub_cancel]
  rw[key]
  by_cases h:i<ub.length
  ·rw[tk_lt h,tk_lt h];rfl
  ·have:i=ub.length:=by omega
   subst this
   rw[tk_at,tk_at];rfl
abbrev brL(u:List UInt8):List UInt8:=[32,40]++10::(u++10::[41,9])
theorem scan_op:Lx.scanAll [32,40]=.ok ([(7,[40],0,1)]++[lEnd]):=by kernel_rfl
theorem scan_cl:Lx.scanAll [41,9]=.ok ([(7,[41],0,2)]++[lEnd]):=by kernel_rfl
theorem br_scan{a S:ByteArray}{L:List Tk}(hS:S.data.toList=brL a.data.toList)(hl:S.size≤60000)(ha:scanT a=.ok L) :
  ∃L' e w w2 w3,scanT S=.ok L'∧Ends_ L e∧(∀i,e≤i→(tkAt L i).er=zT.er)∧e≤L.length∧tkAt L' 0=⟨7,sOp,0,w⟩∧(∀i,i<e→(tkAt L i).er=(tkAt L' (i+1)).er)∧tkAt L' (e+1)=⟨7,sCl,0,w2⟩∧tkAt L' (e+2)=⟨0,eB,0,w3⟩:=by
 obtain⟨s1,us,a1,rfl,a2⟩:=scT ha
 have h1:Lx.spoilAll S.data.toList=none:=by
  rw[hS,Lx.spoil_sep _ _ _ (Nat.le_refl _),show Lx.spoilAll [32,40]=none by kernel_rfl]
  show Lx.spoilAll (a.data.toList++10::[41,9])=none
  rw[Lx.spoil_sep _ _ _ (Nat.le_refl _),s1]
  kernel_rfl
 obtain⟨m1,m2,h2⟩:∃m1 m2,Lx.scanAll S.data.toList=.ok (Lx.addRem m1 (7,[40],0,1)::(us.map (Lx.addRem m2)++(7,[41],0,2)::[lEnd])):=by
  refine⟨(a.data.toList++10::[41,9]).length+1,[41,9].length+1,?_⟩
  rw[hS,Lx.scan_sep _ _ _ (Nat.le_refl _),scan_op,Lx.scan_sep _ _ _ (Nat.le_refl _),a1,scan_cl]
  simp only[Lx.behind,List.dropLast_concat]
  rfl
 have g0:∀i,tkAt (List.map (mkT S) (Lx.addRem m1 (7,[40],0,1)::(us.map (Lx.addRem m2)++(7,[41],0,2)::[lEnd]))) (i+1)=tkAt (List.map (mkT S) (us.map (Lx.addRem m2)++(7,[41],0,2)::[lEnd])) i:=fun i=>by
  unfold tkAt
  rw[List.map_cons,List.getElem?_cons_succ]
 refine⟨_,us.length,(mkT S (Lx.addRem m1 (7,[40],0,1))).at_,(mkT S (7,[41],0,2)).at_,(mkT S lEnd).at_,scT_mk hl h1 h2,ends_map a a2,fun i hi=>tk_ge a hi,by simp,rfl,fun i hi=>?_,?_,?_⟩
 ·rw[g0,tk_lt hi,tk_lt (by rw[List.length_map];exact hi),mkT_er,mkT_er,List.getElem_map,ltE_add]
 ·rw[g0]
  have:=tk_at (f:=mkT S) (us:=us.map (Lx.addRem m2)) (x:=(7,[41],0,2)) (r:=[lEnd])
  rw[List.length_map] at this
  rw[this];rfl
 ·rw[g0]
  have:=tk_at (f:=mkT S) (us:=us.map (Lx.addRem m2)++[(7,[41],0,2)]) (x:=lEnd) (r:=[])
  rw[List.length_append,List.length_map,List.append_assoc] at this
  exact this
set_option linter.all false
open Lx
theorem mk_of(b:ByteArray)(k:Int)(x:List UInt8)(n:Int)(r:Nat):mkT b (k,x,n,r)=⟨k,textOf x,n,((b.size-r:Nat):Int)⟩:=rfl
end Go.Proofs.YtfphhabaeggenaaDoor
