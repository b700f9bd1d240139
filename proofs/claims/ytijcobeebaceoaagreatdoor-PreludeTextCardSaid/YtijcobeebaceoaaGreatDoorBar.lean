/- Joined texts. -/
import Derived.Test.YtijcobeebaceoaaGreatDoorBaq
set_option linter.unusedVariables false
set_option linter.unusedSimpArgs false
set_option linter.unusedSectionVars false
namespace Go.Proofs.YtijcobeebaceoaaGreatDoor
open Go.RowKit
theorem gm{α:Type}(l:List α)(q:Nat→Q)(r:Rs)(hl:l.length≤bM)
  (hs:∀(i j:Nat) (x:α),IntKind.i64.wrap ((i:Int)+1)=(j:Int)→l[i]? = some x→(i:Int)<(l.length:Int)→x∈l→body PG EE TT ev (q i)=iA (ev (q j)))
  (he:body PG EE TT ev (q l.length)=.ok r):ev (q 0)=some r:=by
 have h:∀(m i:Nat),i+m=l.length→ev (q i)=some r:=by
  intro m
  induction m with
  |zero=>intro i hi;rw[Nat.add_zero] at hi;rw[hi];exact ay.of he
  |succ m ih=>
   intro i hi;have hi':i<l.length:=by omega
   obtain⟨j,hj⟩:∃j,j=i+1:=⟨_,rfl⟩;exact ay.of (by rw[hs i j l[i] (by rw[aP (by unfold bM at hl;omega)];omega) (List.getElem?_eq_getElem hi') (by omega) (List.getElem_mem hi'),ih j (by omega)];rfl)
 exact h l.length 0 (by omega)
theorem vM(l:List ByteArray)(hl:l.length≤bM):ev (q64 (strs l) (strs l))=some (0,[bv true]):=by
 have lp:ev (zf (iv 0) (strs l) (strs l))=some (1,[]):=gm l (fun i0=>zf (iv (i0:Int)) (strs l) (strs l)) (1,[]) (by assumption) (fun i0 j0 x e0 hx hi0 hm=>by
   show body PG EE TT ev (zf (iv (i0:Int)) (strs l) (strs l))=iA (ev (zf (iv (j0:Int)) (strs l) (strs l)));rw[Z4];simp[hi0,dx hx]
   skip
   simp[e0]) (by
   show body PG EE TT ev (zf (iv (l.length:Int)) (strs l) (strs l))=_;rw[Z4];simp)
 exact ay.of (by rw[h64];simp[lp])
def Pk(t:Ty):Prop:=ev (q9 (iv t.kind) (sv t.name) (iv t.n) (bH t.kids) (iv t.kind) (sv t.name) (iv t.n) (bH t.kids))=some (0,[bv true])
theorem Cb(l:List Ty)(hl:l.length≤bM)(h:∀x∈l,Pk x):ev (q25 (bH l) (bH l))=some (0,[bv true]):=by
 have lp:ev (zl (iv 0) (bH l) (bH l))=some (1,[]):=gm l (fun i0=>zl (iv (i0:Int)) (bH l) (bH l)) (1,[]) (by assumption) (fun i0 j0 x e0 hx hi0 hm=>by
   show body PG EE TT ev (zl (iv (i0:Int)) (bH l) (bH l))=iA (ev (zl (iv (j0:Int)) (bH l) (bH l)));rw[aag];simp[hi0,ZA hx];have g:=h x hm;unfold Pk at g;simp[g];simp[e0]) (by
   show body PG EE TT ev (zl (iv (l.length:Int)) (bH l) (bH l))=_;rw[aag];simp)
 exact ay.of (by rw[h25];simp[lp])
theorem pY{t:Ty}(h:t.Ok):Pk t:=by
 induction h with
 |mk k s n ks hl hk ih=>
  have g:=Cb ks hl ih;exact ay.of (by rw[h9];simp[Ty.kind,Ty.name,Ty.n,Ty.kids,g])
def abF(p:Pt):Prop:=ev (q91 (iv p.kind) (sv p.name) (iv p.n) (pts p.kids) (iv p.at_) (iv p.kind) (sv p.name) (iv p.n) (pts p.kids) (iv p.at_))=some (0,[bv true])
theorem Yv{p:Pt}(h:p.Ok):abF p:=by
 induction h with
 |mk k s n ks a hl hk ih=>
  have lp:ev (za (iv 0) (iv k) (sv s) (iv n) (pts ks) (iv a) (iv k) (sv s) (iv n) (pts ks) (iv a))=some (1,[iv k,sv s,iv n,pts ks,iv a,iv k,sv s,iv n,pts ks,iv a]):=gm ks (fun i0=>za (iv (i0:Int)) (iv k) (sv s) (iv n) (pts ks) (iv a) (iv k) (sv s) (iv n) (pts ks) (iv a)) (1,[iv k,sv s,iv n,pts ks,iv a,iv k,sv s,iv n,pts ks,iv a]) (by assumption) (fun i0 j0 x e0 hx hi0 hm=>by
   show body PG EE TT ev (za (iv (i0:Int)) (iv k) (sv s) (iv n) (pts ks) (iv a) (iv k) (sv s) (iv n) (pts ks) (iv a))=iA (ev (za (iv (j0:Int)) (iv k) (sv s) (iv n) (pts ks) (iv a) (iv k) (sv s) (iv n) (pts ks) (iv a)));rw[ZF];simp[hi0,DK hx];have g:=ih x hm;unfold abF at g;simp[g];simp[e0]) (by
   show body PG EE TT ev (za (iv (ks.length:Int)) (iv k) (sv s) (iv n) (pts ks) (iv a) (iv k) (sv s) (iv n) (pts ks) (iv a))=_;rw[ZF];simp)
  exact ay.of (by rw[h91];simp[Pt.kind,Pt.name,Pt.n,Pt.kids,Pt.at_,lp])
def zU(e:Ex):Prop:=ev (q65 (iv e.kind) (sv e.name) (iv e.n) (iv e.t.kind) (sv e.t.name) (iv e.t.n) (bH e.t.kids) (exs e.kids) (eu e.alts) (aZ e.binds) (iv e.at_) (iv e.kind) (sv e.name) (iv e.n) (iv e.t.kind) (sv e.t.name) (iv e.t.n) (bH e.t.kids) (exs e.kids) (eu e.alts) (aZ e.binds) (iv e.at_))=some (0,[bv true])
theorem rO(l:List Bd)(hl:l.length≤bM)(h:∀x∈l,zU x.e):ev (q37 (aZ l) (aZ l))=some (0,[bv true]):=by
 have lp:ev (vU (iv 0) (aZ l) (aZ l))=some (1,[]):=gm l (fun i0=>vU (iv (i0:Int)) (aZ l) (aZ l)) (1,[]) (by assumption) (fun i0 j0 x e0 hx hi0 hm=>by
   show body PG EE TT ev (vU (iv (i0:Int)) (aZ l) (aZ l))=iA (ev (vU (iv (j0:Int)) (aZ l) (aZ l)));rw[OC];simp[hi0,gy hx];have g:=h x hm;unfold zU at g;simp[g];simp[e0]) (by
   show body PG EE TT ev (vU (iv (l.length:Int)) (aZ l) (aZ l))=_;rw[OC];simp)
 exact ay.of (by rw[h37];simp[lp])
theorem aeX(e:Ex)(h0:e.t.Ok)(l1:e.kids.length≤bM)(h1:∀x∈e.kids,zU x)(l2:e.alts.length≤bM)(h2:∀x∈e.alts,abF x.p∧zU x.e)(l3:e.binds.length≤bM)(h3:∀x∈e.binds,zU x.e):zU e:=by
 have g0:=pY h0;unfold Pk at g0;have g3:=rO e.binds l3 h3;have k1:ev (ze (iv 0) (iv e.kind) (sv e.name) (iv e.n) (iv e.t.kind) (sv e.t.name) (iv e.t.n) (bH e.t.kids) (exs e.kids) (eu e.alts) (aZ e.binds) (iv e.at_) (iv e.kind) (sv e.name) (iv e.n) (iv e.t.kind) (sv e.t.name) (iv e.t.n) (bH e.t.kids) (exs e.kids) (eu e.alts) (aZ e.binds) (iv e.at_))=some (1,[iv e.kind,sv e.name,iv e.n,iv e.t.kind,sv e.t.name,iv e.t.n,bH e.t.kids,exs e.kids,eu e.alts,aZ e.binds,iv e.at_,iv e.kind,sv e.name,iv e.n,iv e.t.kind,sv e.t.name,iv e.t.n,bH e.t.kids,exs e.kids,eu e.alts,aZ e.binds,iv e.at_]):=gm e.kids (fun i0=>ze (iv (i0:Int)) (iv e.kind) (sv e.name) (iv e.n) (iv e.t.kind) (sv e.t.name) (iv e.t.n) (bH e.t.kids) (exs e.kids) (eu e.alts) (aZ e.binds) (iv e.at_) (iv e.kind) (sv e.name) (iv e.n) (iv e.t.kind) (sv e.t.name) (iv e.t.n) (bH e.t.kids) (exs e.kids) (eu e.alts) (aZ e.binds) (iv e.at_)) (1,[iv e.kind,sv e.name,iv e.n,iv e.t.kind,sv e.t.name,iv e.t.n,bH e.t.kids,exs e.kids,eu e.alts,aZ e.binds,iv e.at_,iv e.kind,sv e.name,iv e.n,iv e.t.kind,sv e.t.name,iv e.t.n,bH e.t.kids,exs e.kids,eu e.alts,aZ e.binds,iv e.at_]) (by assumption) (fun i0 j0 x e0 hx hi0 hm=>by
   show body PG EE TT ev (ze (iv (i0:Int)) (iv e.kind) (sv e.name) (iv e.n) (iv e.t.kind) (sv e.t.name) (iv e.t.n) (bH e.t.kids) (exs e.kids) (eu e.alts) (aZ e.binds) (iv e.at_) (iv e.kind) (sv e.name) (iv e.n) (iv e.t.kind) (sv e.t.name) (iv e.t.n) (bH e.t.kids) (exs e.kids) (eu e.alts) (aZ e.binds) (iv e.at_))=iA (ev (ze (iv (j0:Int)) (iv e.kind) (sv e.name) (iv e.n) (iv e.t.kind) (sv e.t.name) (iv e.t.n) (bH e.t.kids) (exs e.kids) (eu e.alts) (aZ e.binds) (iv e.at_) (iv e.kind) (sv e.name) (iv e.n) (iv e.t.kind) (sv e.t.name) (iv e.t.n) (bH e.t.kids) (exs e.kids) (eu e.alts) (aZ e.binds) (iv e.at_)));rw[Z0];simp[hi0,tF hx];have g:=h1 x hm;unfold zU at g;simp[g];simp[e0]) (by
   show body PG EE TT ev (ze (iv (e.kids.length:Int)) (iv e.kind) (sv e.name) (iv e.n) (iv e.t.kind) (sv e.t.name) (iv e.t.n) (bH e.t.kids) (exs e.kids) (eu e.alts) (aZ e.binds) (iv e.at_) (iv e.kind) (sv e.name) (iv e.n) (iv e.t.kind) (sv e.t.name) (iv e.t.n) (bH e.t.kids) (exs e.kids) (eu e.alts) (aZ e.binds) (iv e.at_))=_;rw[Z0];simp)
 have k2:ev (zb (iv 0) (iv e.kind) (sv e.name) (iv e.n) (iv e.t.kind) (sv e.t.name) (iv e.t.n) (bH e.t.kids) (exs e.kids) (eu e.alts) (aZ e.binds) (iv e.at_) (iv e.kind) (sv e.name) (iv e.n) (iv e.t.kind) (sv e.t.name) (iv e.t.n) (bH e.t.kids) (exs e.kids) (eu e.alts) (aZ e.binds) (iv e.at_))=some (1,[iv e.kind,sv e.name,iv e.n,iv e.t.kind,sv e.t.name,iv e.t.n,bH e.t.kids,exs e.kids,eu e.alts,aZ e.binds,iv e.at_,iv e.kind,sv e.name,iv e.n,iv e.t.kind,sv e.t.name,iv e.t.n,bH e.t.kids,exs e.kids,eu e.alts,aZ e.binds,iv e.at_]):=gm e.alts (fun i0=>zb (iv (i0:Int)) (iv e.kind) (sv e.name) (iv e.n) (iv e.t.kind) (sv e.t.name) (iv e.t.n) (bH e.t.kids) (exs e.kids) (eu e.alts) (aZ e.binds) (iv e.at_) (iv e.kind) (sv e.name) (iv e.n) (iv e.t.kind) (sv e.t.name) (iv e.t.n) (bH e.t.kids) (exs e.kids) (eu e.alts) (aZ e.binds) (iv e.at_)) (1,[iv e.kind,sv e.name,iv e.n,iv e.t.kind,sv e.t.name,iv e.t.n,bH e.t.kids,exs e.kids,eu e.alts,aZ e.binds,iv e.at_,iv e.kind,sv e.name,iv e.n,iv e.t.kind,sv e.t.name,iv e.t.n,bH e.t.kids,exs e.kids,eu e.alts,aZ e.binds,iv e.at_]) (by assumption) (fun i0 j0 x e0 hx hi0 hm=>by
   show body PG EE TT ev (zb (iv (i0:Int)) (iv e.kind) (sv e.name) (iv e.n) (iv e.t.kind) (sv e.t.name) (iv e.t.n) (bH e.t.kids) (exs e.kids) (eu e.alts) (aZ e.binds) (iv e.at_) (iv e.kind) (sv e.name) (iv e.n) (iv e.t.kind) (sv e.t.name) (iv e.t.n) (bH e.t.kids) (exs e.kids) (eu e.alts) (aZ e.binds) (iv e.at_))=iA (ev (zb (iv (j0:Int)) (iv e.kind) (sv e.name) (iv e.n) (iv e.t.kind) (sv e.t.name) (iv e.t.n) (bH e.t.kids) (exs e.kids) (eu e.alts) (aZ e.binds) (iv e.at_) (iv e.kind) (sv e.name) (iv e.n) (iv e.t.kind) (sv e.t.name) (iv e.t.n) (bH e.t.kids) (exs e.kids) (eu e.alts) (aZ e.binds) (iv e.at_)));rw[ZY];simp[hi0,nY hx];obtain⟨g,g2⟩:=h2 x hm;unfold abF at g;unfold zU at g2;simp[g,g2];simp[e0]) (by
   show body PG EE TT ev (zb (iv (e.alts.length:Int)) (iv e.kind) (sv e.name) (iv e.n) (iv e.t.kind) (sv e.t.name) (iv e.t.n) (bH e.t.kids) (exs e.kids) (eu e.alts) (aZ e.binds) (iv e.at_) (iv e.kind) (sv e.name) (iv e.n) (iv e.t.kind) (sv e.t.name) (iv e.t.n) (bH e.t.kids) (exs e.kids) (eu e.alts) (aZ e.binds) (iv e.at_))=_;rw[ZY];simp)
 exact ay.of (by
  rw[h65];simp;simp[g0];simp[g3];simp[k1];simp[k2])
mutual
theorem BP:∀(e:Ex),e.Ok→zU e
 |.mk k s n t ks xs bs a,h=>by
  rw[Ex.Ok] at h;exact aeX (.mk k s n t ks xs bs a) h.1 h.2.1.1 (Mf ks h.2.1.2) h.2.2.1.1 (M4 xs h.2.2.1.2) h.2.2.2.1 (MS bs h.2.2.2.2)
theorem Mf:∀(l:List Ex),Ex.OkL l→∀x∈l,zU x
 |[],_,x,hx=>by cases hx
 |y::l,h,x,hx=>by
  rw[Ex.OkL] at h;exact(List.mem_cons.1 hx).elim (fun e=>e ▸ BP y h.1) (fun hx=>Mf l h.2 x hx)
theorem M4:∀(l:List Al),Al.OkL l→∀x∈l,abF x.p∧zU x.e
 |[],_,x,hx=>by cases hx
 |.mk p e::l,h,x,hx=>by
  rw[Al.OkL,Al.Ok] at h;exact(List.mem_cons.1 hx).elim (fun q=>q ▸ ⟨Yv h.1.1,BP e h.1.2⟩) (fun hx=>M4 l h.2 x hx)
theorem MS:∀(l:List Bd),Bd.OkL l→∀x∈l,zU x.e
 |[],_,x,hx=>by cases hx
 |.mk s e a::l,h,x,hx=>by
  rw[Bd.OkL,Bd.Ok] at h;exact(List.mem_cons.1 hx).elim (fun q=>q ▸ BP e h.1) (fun hx=>MS l h.2 x hx)
end
theorem JP{b:Bd}(h:b.Ok):zU b.e:=by
 cases b with
 |mk s e a=>rw[Bd.Ok] at h;exact BP e h
theorem Vg{v:Dt}(h:v.Ok):ev (q34 (sv v.name) (strs v.params) (pU v.cons) (strs v.deriv) (iv v.at_) (sv v.name) (strs v.params) (pU v.cons) (strs v.deriv) (iv v.at_))=some (0,[bv true]):=by
 obtain⟨h1,⟨h2,h3⟩,h4⟩:=h;have g1:=vM v.params h1;have g2:=vM v.deriv h4;have lp:ev (zk (iv 0) (sv v.name) (strs v.params) (pU v.cons) (strs v.deriv) (iv v.at_) (sv v.name) (strs v.params) (pU v.cons) (strs v.deriv) (iv v.at_))=some (1,[sv v.name,strs v.params,pU v.cons,strs v.deriv,iv v.at_,sv v.name,strs v.params,pU v.cons,strs v.deriv,iv v.at_]):=gm v.cons (fun i0=>zk (iv (i0:Int)) (sv v.name) (strs v.params) (pU v.cons) (strs v.deriv) (iv v.at_) (sv v.name) (strs v.params) (pU v.cons) (strs v.deriv) (iv v.at_)) (1,[sv v.name,strs v.params,pU v.cons,strs v.deriv,iv v.at_,sv v.name,strs v.params,pU v.cons,strs v.deriv,iv v.at_]) (by assumption) (fun i0 j0 x e0 hx hi0 hm=>by
   show body PG EE TT ev (zk (iv (i0:Int)) (sv v.name) (strs v.params) (pU v.cons) (strs v.deriv) (iv v.at_) (sv v.name) (strs v.params) (pU v.cons) (strs v.deriv) (iv v.at_))=iA (ev (zk (iv (j0:Int)) (sv v.name) (strs v.params) (pU v.cons) (strs v.deriv) (iv v.at_) (sv v.name) (strs v.params) (pU v.cons) (strs v.deriv) (iv v.at_)));rw[aaf];simp[hi0,DU hx];have g:=Cb x.args (h3 x hm).1 (fun y hy=>pY ((h3 x hm).2 y hy));simp[g];simp[e0]) (by
   show body PG EE TT ev (zk (iv (v.cons.length:Int)) (sv v.name) (strs v.params) (pU v.cons) (strs v.deriv) (iv v.at_) (sv v.name) (strs v.params) (pU v.cons) (strs v.deriv) (iv v.at_))=_;rw[aaf];simp)
 exact ay.of (by
  rw[yM];simp;simp[g1];simp[g2];simp[lp])
theorem OY{v:Cl}(h:v.Ok):ev (q35 (sv v.name) (sv v.var) (strs v.supers) (mP v.methods) (aZ v.defaults) (iv v.at_) (sv v.name) (sv v.var) (strs v.supers) (mP v.methods) (aZ v.defaults) (iv v.at_))=some (0,[bv true]):=by
 obtain⟨h1,⟨h2,h3⟩,h4,h5⟩:=h;have g1:=vM v.supers h1;have g2:=rO v.defaults h4 (fun x hx=>JP (h5 x hx));have lp:ev (zi (iv 0) (sv v.name) (sv v.var) (strs v.supers) (mP v.methods) (aZ v.defaults) (iv v.at_) (sv v.name) (sv v.var) (strs v.supers) (mP v.methods) (aZ v.defaults) (iv v.at_))=some (1,[sv v.name,sv v.var,strs v.supers,mP v.methods,aZ v.defaults,iv v.at_,sv v.name,sv v.var,strs v.supers,mP v.methods,aZ v.defaults,iv v.at_]):=gm v.methods (fun i0=>zi (iv (i0:Int)) (sv v.name) (sv v.var) (strs v.supers) (mP v.methods) (aZ v.defaults) (iv v.at_) (sv v.name) (sv v.var) (strs v.supers) (mP v.methods) (aZ v.defaults) (iv v.at_)) (1,[sv v.name,sv v.var,strs v.supers,mP v.methods,aZ v.defaults,iv v.at_,sv v.name,sv v.var,strs v.supers,mP v.methods,aZ v.defaults,iv v.at_]) (by assumption) (fun i0 j0 x e0 hx hi0 hm=>by
   show body PG EE TT ev (zi (iv (i0:Int)) (sv v.name) (sv v.var) (strs v.supers) (mP v.methods) (aZ v.defaults) (iv v.at_) (sv v.name) (sv v.var) (strs v.supers) (mP v.methods) (aZ v.defaults) (iv v.at_))=iA (ev (zi (iv (j0:Int)) (sv v.name) (sv v.var) (strs v.supers) (mP v.methods) (aZ v.defaults) (iv v.at_) (sv v.name) (sv v.var) (strs v.supers) (mP v.methods) (aZ v.defaults) (iv v.at_)));rw[aae];simp[hi0,DN hx];have g:=pY (h3 x hm);unfold Pk at g;simp[g];simp[e0]) (by
   show body PG EE TT ev (zi (iv (v.methods.length:Int)) (sv v.name) (sv v.var) (strs v.supers) (mP v.methods) (aZ v.defaults) (iv v.at_) (sv v.name) (sv v.var) (strs v.supers) (mP v.methods) (aZ v.defaults) (iv v.at_))=_;rw[aae];simp)
 exact ay.of (by
  rw[h35];simp;simp[g1];simp[lp];simp[g2])
theorem U8{v:It}(h:v.Ok):ev (q36 (sv v.cls) (iv v.head.kind) (sv v.head.name) (iv v.head.n) (bH v.head.kids) (sD v.ctx) (aZ v.binds) (iv v.at_) (sv v.cls) (iv v.head.kind) (sv v.head.name) (iv v.head.n) (bH v.head.kids) (sD v.ctx) (aZ v.binds) (iv v.at_))=some (0,[bv true]):=by
 obtain⟨h1,⟨h2,h3⟩,h4,h5⟩:=h;have g1:=pY h1;unfold Pk at g1;have g2:=rO v.binds h4 (fun x hx=>JP (h5 x hx));have lp:ev (zh (iv 0) (sv v.cls) (iv v.head.kind) (sv v.head.name) (iv v.head.n) (bH v.head.kids) (sD v.ctx) (aZ v.binds) (iv v.at_) (sv v.cls) (iv v.head.kind) (sv v.head.name) (iv v.head.n) (bH v.head.kids) (sD v.ctx) (aZ v.binds) (iv v.at_))=some (1,[sv v.cls,iv v.head.kind,sv v.head.name,iv v.head.n,bH v.head.kids,sD v.ctx,aZ v.binds,iv v.at_,sv v.cls,iv v.head.kind,sv v.head.name,iv v.head.n,bH v.head.kids,sD v.ctx,aZ v.binds,iv v.at_]):=gm v.ctx (fun i0=>zh (iv (i0:Int)) (sv v.cls) (iv v.head.kind) (sv v.head.name) (iv v.head.n) (bH v.head.kids) (sD v.ctx) (aZ v.binds) (iv v.at_) (sv v.cls) (iv v.head.kind) (sv v.head.name) (iv v.head.n) (bH v.head.kids) (sD v.ctx) (aZ v.binds) (iv v.at_)) (1,[sv v.cls,iv v.head.kind,sv v.head.name,iv v.head.n,bH v.head.kids,sD v.ctx,aZ v.binds,iv v.at_,sv v.cls,iv v.head.kind,sv v.head.name,iv v.head.n,bH v.head.kids,sD v.ctx,aZ v.binds,iv v.at_]) (by assumption) (fun i0 j0 x e0 hx hi0 hm=>by
   show body PG EE TT ev (zh (iv (i0:Int)) (sv v.cls) (iv v.head.kind) (sv v.head.name) (iv v.head.n) (bH v.head.kids) (sD v.ctx) (aZ v.binds) (iv v.at_) (sv v.cls) (iv v.head.kind) (sv v.head.name) (iv v.head.n) (bH v.head.kids) (sD v.ctx) (aZ v.binds) (iv v.at_))=iA (ev (zh (iv (j0:Int)) (sv v.cls) (iv v.head.kind) (sv v.head.name) (iv v.head.n) (bH v.head.kids) (sD v.ctx) (aZ v.binds) (iv v.at_) (sv v.cls) (iv v.head.kind) (sv v.head.name) (iv v.head.n) (bH v.head.kids) (sD v.ctx) (aZ v.binds) (iv v.at_)));rw[aad];simp[hi0,ZB hx];have g:=pY (show x.t.Ok from h3 x hm);unfold Pk at g;simp[g];simp[e0]) (by
   show body PG EE TT ev (zh (iv (v.ctx.length:Int)) (sv v.cls) (iv v.head.kind) (sv v.head.name) (iv v.head.n) (bH v.head.kids) (sD v.ctx) (aZ v.binds) (iv v.at_) (sv v.cls) (iv v.head.kind) (sv v.head.name) (iv v.head.n) (bH v.head.kids) (sD v.ctx) (aZ v.binds) (iv v.at_))=_;rw[aad];simp)
 exact ay.of (by
  rw[h36];simp;simp[g1];simp[lp];simp[g2])
theorem FU(d:List Dt)(c:List Cl)(i:List It)(b:List Bd)(hd:d.length≤bM)(hd':∀x∈d,x.Ok)(hc:c.length≤bM)(hc':∀x∈c,x.Ok)(hi:i.length≤bM)(hi':∀x∈i,x.Ok)(hb:b.length≤bM)(hb':∀x∈b,x.Ok):ev (q12 (jq d) (cls c) (its i) (aZ b) (jq d) (cls c) (its i) (aZ b))=some (0,[bv true]):=by
 have g:=rO b hb (fun x hx=>JP (hb' x hx));have k1:ev (vX (iv 0) (jq d) (cls c) (its i) (aZ b) (jq d) (cls c) (its i) (aZ b))=some (1,[jq d,cls c,its i,aZ b,jq d,cls c,its i,aZ b]):=gm d (fun i0=>vX (iv (i0:Int)) (jq d) (cls c) (its i) (aZ b) (jq d) (cls c) (its i) (aZ b)) (1,[jq d,cls c,its i,aZ b,jq d,cls c,its i,aZ b]) (by assumption) (fun i0 j0 x e0 hx hi0 hm=>by
   show body PG EE TT ev (vX (iv (i0:Int)) (jq d) (cls c) (its i) (aZ b) (jq d) (cls c) (its i) (aZ b))=iA (ev (vX (iv (j0:Int)) (jq d) (cls c) (its i) (aZ b) (jq d) (cls c) (its i) (aZ b)));rw[OG];simp[hi0,DT hx];have g:=Vg (hd' x hm);simp[g];simp[e0]) (by
   show body PG EE TT ev (vX (iv (d.length:Int)) (jq d) (cls c) (its i) (aZ b) (jq d) (cls c) (its i) (aZ b))=_;rw[OG];simp)
 have k2:ev (vW (iv 0) (jq d) (cls c) (its i) (aZ b) (jq d) (cls c) (its i) (aZ b))=some (1,[jq d,cls c,its i,aZ b,jq d,cls c,its i,aZ b]):=gm c (fun i0=>vW (iv (i0:Int)) (jq d) (cls c) (its i) (aZ b) (jq d) (cls c) (its i) (aZ b)) (1,[jq d,cls c,its i,aZ b,jq d,cls c,its i,aZ b]) (by assumption) (fun i0 j0 x e0 hx hi0 hm=>by
   show body PG EE TT ev (vW (iv (i0:Int)) (jq d) (cls c) (its i) (aZ b) (jq d) (cls c) (its i) (aZ b))=iA (ev (vW (iv (j0:Int)) (jq d) (cls c) (its i) (aZ b) (jq d) (cls c) (its i) (aZ b)));rw[OE];simp[hi0,tH hx];have g:=OY (hc' x hm);simp[g];simp[e0]) (by
   show body PG EE TT ev (vW (iv (c.length:Int)) (jq d) (cls c) (its i) (aZ b) (jq d) (cls c) (its i) (aZ b))=_;rw[OE];simp)
 have k3:ev (vV (iv 0) (jq d) (cls c) (its i) (aZ b) (jq d) (cls c) (its i) (aZ b))=some (1,[jq d,cls c,its i,aZ b,jq d,cls c,its i,aZ b]):=gm i (fun i0=>vV (iv (i0:Int)) (jq d) (cls c) (its i) (aZ b) (jq d) (cls c) (its i) (aZ b)) (1,[jq d,cls c,its i,aZ b,jq d,cls c,its i,aZ b]) (by assumption) (fun i0 j0 x e0 hx hi0 hm=>by
   show body PG EE TT ev (vV (iv (i0:Int)) (jq d) (cls c) (its i) (aZ b) (jq d) (cls c) (its i) (aZ b))=iA (ev (vV (iv (j0:Int)) (jq d) (cls c) (its i) (aZ b) (jq d) (cls c) (its i) (aZ b)));rw[OD];simp[hi0,tC hx];have g:=U8 (hi' x hm);simp[g];simp[e0]) (by
   show body PG EE TT ev (vV (iv (i.length:Int)) (jq d) (cls c) (its i) (aZ b) (jq d) (cls c) (its i) (aZ b))=_;rw[OD];simp)
 exact ay.of (by
  rw[h12];simp;simp[k1];simp[k2];simp[k3];simp[g])
set_option maxRecDepth 10000
theorem IJ{t:TypeId}(h:∀ty,gU PG .len #[t] ty [.pv nS]=some (.pv (.lit (.int .i64 0))))(k:AV→aM):gG PG aM.fail t (.pv nS) k=k (.pv (iv 0)):=eY (fun r=>by
 constructor
 ·intro hr
  have h1:=hr 0;rw[h 0] at h1;exact(Option.some.inj h1).symm
 ·rintro rfl;exact h) (bD _)
theorem Oq(k:AV→aM):gG PG aM.fail 35 (.pv nS) k=k (.pv (iv 0)):=IJ (fun ty=>by kernel_rfl) k
theorem Oo(k:AV→aM):gG PG aM.fail 36 (.pv nS) k=k (.pv (iv 0)):=IJ (fun ty=>by kernel_rfl) k
theorem Om(k:AV→aM):gG PG aM.fail 37 (.pv nS) k=k (.pv (iv 0)):=IJ (fun ty=>by kernel_rfl) k
theorem Ol(k:AV→aM):gG PG aM.fail 38 (.pv nS) k=k (.pv (iv 0)):=IJ (fun ty=>by kernel_rfl) k
theorem Oj(k:AV→aM):gG PG aM.fail 35 (.pv (.rows [])) k=k (.pv (iv 0)):=LJ (d:=aM.fail) (k:=k) []
theorem Oi(k:AV→aM):gG PG aM.fail 36 (.pv (.rows [])) k=k (.pv (iv 0)):=LK (d:=aM.fail) (k:=k) []
theorem Oh(k:AV→aM):gG PG aM.fail 37 (.pv (.rows [])) k=k (.pv (iv 0)):=LH (d:=aM.fail) (k:=k) []
theorem Og(k:AV→aM):gG PG aM.fail 38 (.pv (.rows [])) k=k (.pv (iv 0)):=LM (d:=aM.fail) (k:=k) []
theorem uh:ev (q12 nS nS nS nS (.rows []) (.rows []) (.rows []) (.rows []))=some (0,[bv true]):=by
 have b1:ev (vU (iv 0) nS (.rows []))=some (1,[]):=ay.of (by rw[OC];simp[Ol,Og]);have b2:ev (q37 nS (.rows []))=some (0,[bv true]):=ay.of (by rw[h37];simp[Ol,Og,b1]);have l1:ev (vX (iv 0) nS nS nS nS (.rows []) (.rows []) (.rows []) (.rows []))=some (1,[nS,nS,nS,nS,.rows [],.rows [],.rows [],.rows []]):=ay.of (by rw[OG];simp[Oq,Oj]);have l2:ev (vW (iv 0) nS nS nS nS (.rows []) (.rows []) (.rows []) (.rows []))=some (1,[nS,nS,nS,nS,.rows [],.rows [],.rows [],.rows []]):=ay.of (by rw[OE];simp[Oo,Oi]);have l3:ev (vV (iv 0) nS nS nS nS (.rows []) (.rows []) (.rows []) (.rows []))=some (1,[nS,nS,nS,nS,.rows [],.rows [],.rows [],.rows []]):=ay.of (by rw[OD];simp[Om,Oh]);exact ay.of (by rw[h12];simp[Oq,Oj,Oo,Oi,Om,Oh,l1,l2,l3,b2])
theorem amA(b:ByteArray)(hb:b.size≤1000000):∃(x0 x1 x2 x3 y0 y1 y2 y3:PV) (e w:Int),ev (q10 (sv b))=some (0,[x0,x1,x2,x3,iv e,iv w])∧ev (UL (sv b))=some (0,[y0,y1,y2,y3,iv e,iv w])∧
  ev (q12 x0 x1 x2 x3 y0 y1 y2 y3)=some (0,[bv true]):=by
 have h1:=RY b hb;have h2:=Yq b;cases ht:jP b with
 |error p=>
  obtain⟨c,p⟩:=p;rw[ht] at h1 h2;exact⟨_,_,_,_,_,_,_,_,_,_,h1,h2.2.2,uh⟩
 |ok L=>
  rw[ht] at h1 h2;obtain⟨m0,h2⟩:=h2;have h2:=h2 m0 (Nat.le_refl _);have h1:=h1 m0;cases hr:eU L m0 ⟨⟨[],[],[]⟩,[]⟩ 0 0 with
  |out=>rw[hr] at h2;exact h2.elim
  |err e w=>
   rw[hr] at h1 h2;exact⟨_,_,_,_,_,_,_,_,_,_,h1,h2.2,uh⟩
  |ok v b'=>
   rw[hr] at h1 h2;obtain⟨h3,⟨k1,k2⟩,⟨k3,k4⟩,⟨k5,k6⟩,⟨k7,k8⟩⟩:=h2;exact⟨_,_,_,_,_,_,_,_,0,0,h1,h3,FU v.datas v.classes v.insts v.binds k1 k2 k3 k4 k5 k6 k7 k8⟩
theorem adq:ev q5=some (0,[bv true]):=by
 have ha:ev q15=some (0,[bv true]):=ay.of (by rw[h15];rfl);obtain⟨b,hb⟩:∃b,z46=sv b:=⟨_,rfl⟩;have hz:b.size≤1000000:=by
  have:z46=sv b→b.size≤1000000:=fun h=>by
   injection h with h;injection h with h;rw[←h];decide
  exact this hb
 obtain⟨x0,x1,x2,x3,y0,y1,y2,y3,e,w,k1,k2,k3⟩:=amA b hz;have s1:ev q16=some (0,[z46]):=ay.of (by rw[h16];simp);have s2:ev q17=some (0,[x0,x1,x2,x3]):=ay.of (by rw[h17,hb];simp[k1]);have s3:ev q18=some (0,[y0,y1,y2,y3]):=ay.of (by rw[h18,hb];simp[k2]);refine ay.of ?_;rw[h5];rw[hb] at s1 ⊢;simp[ha,s1,s2,s3,k3]
end Go.Proofs.YtijcobeebaceoaaGreatDoor
