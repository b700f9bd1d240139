/- Joined. -/
import Derived.Test.YtjpjcjnacnlhdaaGreatBe
set_option linter.unusedSimpArgs false
set_option linter.unusedVariables false
set_option linter.unusedSectionVars false
namespace Go.Proofs.YtjpjcjnacnlhdaaGreat
open Go.RowKit
theorem fe_some{α ε:Type}{e:Nat→α→Option ε}:∀{l:List α} {i:Nat} {x:ε},fe e l i=some x→∃j a,a∈l∧e j a=some x
 |[],_,_,h=>by cases h
 |a::l,i,x,h=>by
  rw[fe]at h
  cases he:e i a with
  |some y=>rw[he]at h;cases h;exact⟨i,a,List.mem_cons_self ..,he⟩
  |none=>
   rw[he]at h
   obtain⟨j,b,h1,h2⟩:=fe_some h
   exact⟨j,b,lMc _ h1,h2⟩
theorem fnd_app{α:Type}(f:α→Bool):∀(a b:List α) (i:Nat),fnd f (a++b) i=match fnd f a i with|some k=>some k|none=>fnd f b (i+a.length)
 |[],b,i=>by simp[fnd]
 |x::a,b,i=>by
  rw[List.cons_append,fnd,fnd]
  cases f x with
  |true=>rfl
  |false=>simp only[Bool.false_eq_true,if_false];rw[fnd_app f a b (i+1),List.length_cons,show i+1+a.length=i+(a.length+1) by omega]
theorem fi_lt{α:Type}{f:α→Bool}{l:List α}{i:Nat}{x:α}(hx:l[i]?=some x)(hf:f x=true):fi f l<(i:Int)↔(l.take i).any f=true:=by
 have hi:=lt_of_get hx
 have hlen:(l.take i).length=i:=by rw[List.length_take];omega
 have hs:fnd f l 0=match fnd f (l.take i) 0 with|some k=>some k|none=>fnd f (l.drop i) i:=by
  have:=fnd_app f (l.take i) (l.drop i) 0
  rw[List.take_append_drop,hlen,Nat.zero_add]at this
  exact this
 rw[←fnd_isSome _ _ 0]
 unfold fi
 rw[hs]
 cases h:fnd f (l.take i) 0 with
 |some k=>
  obtain⟨_,a,h1,_⟩:=fnd_some h
  have:=lt_of_get h1
  simp;omega
 |none=>
  have hd:l.drop i=x::l.drop (i+1):=by
   rw[List.drop_eq_getElem_cons hi]
   rw[lGg hi]at hx
   rw[Option.some.inj hx]
  rw[hd,fnd,hf]
  simp
theorem headF_ne{v:Ev}{x:It}{e:Int}(h:headF v x=some e):e≠0:=by
 unfold headF at h
 have key:∀e,fe (headE x.head.kids) x.head.kids 0=some e→e≠0:=by
  intro e h
  obtain⟨j,a,_,h2⟩:=fe_some h
  unfold headE at h2
  split at h2
  ·split at h2
   ·split at h2<;>cases h2
    omega
   ·cases h2;omega
  ·cases h2;omega
 split at h
 ·split at h
  ·cases h;omega
  ·split at h
   ·cases h;omega
   ·split at h
    ·exact key e h
    ·cases h;omega
 ·cases h;omega
theorem ctxF_ne{v:Ev}{x:It}{e:Int}(h:ctxF v x=some e):e≠0:=by
 obtain⟨j,a,_,h2⟩:=fe_some h
 unfold ctxE at h2
 split at h2
 ·cases h2;omega
 ·split at h2
  ·split at h2
   ·split at h2<;>cases h2
    omega
   ·cases h2;omega
  ·cases h2;omega
theorem bindsF_ne{c:Cl}{l:List Bd}{f:Flt}(h:bindsF c l=some f):f.1≠0:=by
 obtain⟨j,a,_,h2⟩:=fe_some h
 unfold bindE at h2
 split at h2
 ·split at h2
  ·cases h2;simp
  ·split at h2<;>cases h2
   simp
 ·cases h2;simp
def missE(c:Cl)(x:It)(m:Md):Bool:=mem (x.binds.map Bd.name) m.name||mem (c.defaults.map Bd.name) m.name
def missB(c:Cl)(x:It):Bool:=c.methods.all (missE c x)
def missK(own:List ByteArray)(l:List ByteArray):Option Unit:=fe (fun _ s=>if mem own s=true then none else some ()) l 0
theorem fe_all{α:Type}(p:α→Bool):∀(l:List α) (i:Nat),fe (fun _ a=>if p a=true then none else some ()) l i=if l.all p=true then none else some ()
 |[],i=>by simp[fe]
 |a::l,i=>by
  rw[fe,List.all_cons]
  cases h:p a with
  |true=>simp;rw[fe_all p l (i+1)];simp
  |false=>simp
theorem missK_B(c:Cl)(x:It):missK (x.binds.map Bd.name++c.defaults.map Bd.name) (c.methods.map Md.name)=if missB c x=true then none else some ():=by
 unfold missK
 rw[fe_all (fun s=>mem (x.binds.map Bd.name++c.defaults.map Bd.name) s),List.all_map]
 unfold missB
 have:((fun s=>mem (x.binds.map Bd.name++c.defaults.map Bd.name) s)∘Md.name)=missE c x:=by
  funext m
  simp only[Function.comp,missE,mem_app]
 rw[this]
section
variable{β:Type}{d:β}{k:PV→β}
theorem appK_ss(a b:List ByteArray)(hb:b≠[])(hl:a.length+b.length≤1000000000000):appK Tryz.prog d 52 (.pv (.rows (srow a))) (.pv (.rows (srow b))) k=k (.rows (srow (a++b))):=by
 rw[srow_app]
 refine appK_of (fun w=>app_ok sl_strs (s:=.pv (.rows (srow a))) (x:=.pv (.rows (srow b))) (es:=srow a) (es':=srow b) rfl rfl (by simp[srow,hb]) (srow_sz b) (by rw[srow_len,srow_len];exact hl) (by rw[srow_len,srow_len];omega)) ?_
 rw[←srow_app];exact ns_srow _
theorem appK_ns(b:List ByteArray)(hb:b≠[])(hl:b.length≤1000000000000):appK Tryz.prog d 52 (.pv (.lit (.slice none 0 0))) (.pv (.rows (srow b))) k=k (.rows (srow b)):=by
 refine appK_of (fun w=>app_ok sl_strs (s:=.pv (.lit (.slice none 0 0))) (x:=.pv (.rows (srow b))) (es:=[]) (es':=srow b) rfl rfl (by simp[srow,hb]) (srow_sz b) (by rw[srow_len];simpa using hl) (by rw[srow_len];simp;omega)) (ns_srow _)
theorem app0K_s{k:β}(a:List ByteArray):app0K Tryz.prog d 52 (.pv (.rows (srow a))) (.pv (.lit (.slice none 0 0))) k=k:=app0K_of (app0_ok sl_strs (es:=srow a) rfl rfl)
theorem appK_no(s:AV):appK Tryz.prog d 52 s (.pv (.lit (.slice none 0 0))) k=d:=by
 unfold appK theK
 rw[dif_neg]
 rintro⟨w,⟨e,sz,by_,zc,es,es',_,_,_,_,_,_,_,h,_⟩,_⟩
 cases h
end
theorem idxK_srow{β:Type}{d:β}{k:AV→β}{l:List ByteArray}{i:Nat}{x:ByteArray}(h:l[i]?=some x):idxK Tryz.prog d 52 (.pv (.rows (srow l))) (.pv (.lit (.int .i64 (i:Int)))) k=k (.cptr [sv x]):=idxK_strs h
theorem miss_a(x:It):ev (q42b0a (iv 0) (sv x.cls) (iv x.head.kind) (sv x.head.name) (iv x.head.n) (tys x.head.kids) (pds x.ctx) (bds x.binds) (iv x.at_) (iv 0) (iv 0))=some (1,[sv x.cls,iv x.head.kind,sv x.head.name,iv x.head.n,tys x.head.kids,pds x.ctx,bds x.binds,iv x.at_,iv 0,iv 0]):=Evl.of (by rw[h42b0a,g42b0a];simp)
theorem miss_c(x:It)(o:List ByteArray):ev (q42b0c (iv 0) (srow o) (sv x.cls) (iv x.head.kind) (sv x.head.name) (iv x.head.n) (tys x.head.kids) (pds x.ctx) (bds x.binds) (iv x.at_) (iv 0) (iv 0))=some (1,[sv x.cls,iv x.head.kind,sv x.head.name,iv x.head.n,tys x.head.kids,pds x.ctx,bds x.binds,iv x.at_,iv 0,iv 0,.rows (srow o)]):=Evl.of (by rw[h42b0c,g42b0c];simp)
theorem miss_b(x:It)(l:List ByteArray)(hl:l.length≤maxN):ev (q42b0b (iv 0) (srow l) (sv x.cls) (iv x.head.kind) (sv x.head.name) (iv x.head.n) (tys x.head.kids) (pds x.ctx) (bds x.binds) (iv x.at_) (iv 0) (iv 0))=some (match missK [] l with|some _=>(0,[sv x.cls,iv x.head.kind,sv x.head.name,iv x.head.n,tys x.head.kids,pds x.ctx,bds x.binds,iv x.at_,iv 128,iv x.at_,.rows (srow l)])|none=>(1,[sv x.cls,iv x.head.kind,sv x.head.name,iv x.head.n,tys x.head.kids,pds x.ctx,bds x.binds,iv x.at_,iv 0,iv 0,.rows (srow l)])):=by
 have h:=ev_first l (fun _ s=>if mem [] s=true then none else some ()) (fun i=>q42b0b (iv i) (srow l) (sv x.cls) (iv x.head.kind) (sv x.head.name) (iv x.head.n) (tys x.head.kids) (pds x.ctx) (bds x.binds) (iv x.at_) (iv 0) (iv 0)) (1,[sv x.cls,iv x.head.kind,sv x.head.name,iv x.head.n,tys x.head.kids,pds x.ctx,bds x.binds,iv x.at_,iv 0,iv 0,.rows (srow l)]) (fun _=>(0,[sv x.cls,iv x.head.kind,sv x.head.name,iv x.head.n,tys x.head.kids,pds x.ctx,bds x.binds,iv x.at_,iv 128,iv x.at_,.rows (srow l)]))
  (fun i s hs hi _=>by
   rw[h42b0b,g42b0b]
   have hc:=has_srow [] (by unfold maxN;simp) s
   rw[srow_nil]at hc
   cases hm:mem [] s<;>rw[hm]at hc<;>simp[lenK_srow,idxK_srow hs,hi,hc,wL hi hl])
  (fun _=>by rw[h42b0b,g42b0b];simp[lenK_srow])
 simp at h
 rw[h]
 unfold missK
 cases fe (fun _ s=>if mem [] s=true then none else some ()) l 0<;>rfl
theorem miss_d(x:It)(o l:List ByteArray)(ho:o.length≤maxN)(hl:l.length≤maxN):ev (q42b0d (iv 0) (srow l) (srow o) (sv x.cls) (iv x.head.kind) (sv x.head.name) (iv x.head.n) (tys x.head.kids) (pds x.ctx) (bds x.binds) (iv x.at_) (iv 0) (iv 0))=some (match missK o l with|some _=>(0,[sv x.cls,iv x.head.kind,sv x.head.name,iv x.head.n,tys x.head.kids,pds x.ctx,bds x.binds,iv x.at_,iv 128,iv x.at_,.rows (srow l),.rows (srow o)])|none=>(1,[sv x.cls,iv x.head.kind,sv x.head.name,iv x.head.n,tys x.head.kids,pds x.ctx,bds x.binds,iv x.at_,iv 0,iv 0,.rows (srow l),.rows (srow o)])):=by
 have h:=ev_first l (fun _ s=>if mem o s=true then none else some ()) (fun i=>q42b0d (iv i) (srow l) (srow o) (sv x.cls) (iv x.head.kind) (sv x.head.name) (iv x.head.n) (tys x.head.kids) (pds x.ctx) (bds x.binds) (iv x.at_) (iv 0) (iv 0)) (1,[sv x.cls,iv x.head.kind,sv x.head.name,iv x.head.n,tys x.head.kids,pds x.ctx,bds x.binds,iv x.at_,iv 0,iv 0,.rows (srow l),.rows (srow o)]) (fun _=>(0,[sv x.cls,iv x.head.kind,sv x.head.name,iv x.head.n,tys x.head.kids,pds x.ctx,bds x.binds,iv x.at_,iv 128,iv x.at_,.rows (srow l),.rows (srow o)]))
  (fun i s hs hi _=>by
   rw[h42b0d,g42b0d]
   have hc:=has_srow o ho s
   cases hm:mem o s<;>rw[hm]at hc<;>simp[lenK_srow,idxK_srow hs,hi,hc,wL hi hl])
  (fun _=>by rw[h42b0d,g42b0d];simp[lenK_srow])
 simp at h
 rw[h]
 unfold missK
 cases fe (fun _ s=>if mem o s=true then none else some ()) l 0<;>rfl
def instG(v:Ev)(i:Nat)(x:It)(c:Cl):Option Flt:=match headF v x with
 |some e=>some (e,x.at_)
 |none=>if(v.ki.take i).any (isIt x.cls x.head.name)=true then some (125,x.at_) else match ctxF v x with
  |some e=>some (e,x.at_)
  |none=>match bindsF c x.binds with
   |some f=>some f
   |none=>if missB c x=true then none else some (128,x.at_)
def instF(v:Ev)(i:Nat)(x:It):Option Flt:=match fnd (isCl x.cls) v.kc 0 with
 |none=>some (121,x.at_)
 |some k=>match v.kc[k]? with
  |none=>none
  |some c=>instG v i x c
structure EvOk(v:Ev):Prop where
 d:v.kj.length≤maxN
 c:v.kc.length≤maxN
 i:v.ki.length≤maxN
 m:∀c∈v.kc,c.methods.length≤1000000000∧c.defaults.length≤1000000000
 x:∀x∈v.ki,x.ctx.length≤maxN∧x.head.kids.length≤1000000000∧x.binds.length≤1000000000
theorem inst_f_r(v:Ev)(hv:EvOk v)(i:Nat)(x:It)(hx:v.ki[i]?=some x) :
  ev (q42 (dts v.kj) (cls v.kc) (its v.ki) (iv i))=some (0,match instF v i x with|some (e,a)=>[iv e,iv a]|none=>[iv 0,iv 0]):=by
 refine Evl.of ?_
 rw[h42,g42]
 obtain⟨x1,x2,x3⟩:=hv.x x (lMg hx)
 have hcl:=class_r v hv.c x.cls
 unfold instF
 by_cases h0:0≤fi (isCl x.cls) v.kc
 ·obtain⟨k,c,e1,e2,e3,_⟩:=fi_nonneg h0
  obtain⟨c1,c2⟩:=hv.m c (lMg e3)
  rw[e1]at hcl
  have hk1:¬(k:Int)<0:=by omega
  have hh:=head_r v hv.d x x2
  have hi:=inst_r v hv.i x.cls x.head.name
  have hc:=ctx_r v hv.c x x1 x2
  have hb:=binds_r c x.binds c1 x3
  have hlt:=fi_lt (f:=isIt x.cls x.head.name) hx (by simp[isIt])
  rw[e2]
  simp only[e3]
  unfold instG
  cases hH:headF v x with
  |some e=>
   have hne:=headF_ne hH
   rw[hH]at hh
   simp[idxK_its hx,hcl,hk1,hh,hne]
  |none=>
   rw[hH]at hh
   cases hO:(v.ki.take i).any (isIt x.cls x.head.name) with
   |true=>
    have:=hlt.2 hO
    simp[idxK_its hx,hcl,hk1,hh,hi,this]
   |false=>
    have hO':¬fi (isIt x.cls x.head.name) v.ki<(i:Int):=fun hh=>by rw[hlt.1 hh]at hO;cases hO
    cases hC:ctxF v x with
    |some e=>
     have hne:=ctxF_ne hC
     rw[hC]at hc
     simp[idxK_its hx,hcl,hk1,hh,hi,hO',hc,hne]
    |none=>
     rw[hC]at hc
     cases hB:bindsF c x.binds with
     |some f=>
      obtain⟨fe,fa⟩:=f
      have hne:=bindsF_ne hB
      simp only at hne
      rw[hB]at hb
      simp only at hb
      simp[idxK_its hx,hcl,hk1,hh,hi,hO',hc,idxK_cls e3,hb,hne]
     |none=>
      rw[hB]at hb
      simp only at hb
      have b1:=bound_raw x.binds x3
      have b2:=bound_raw c.defaults c2
      have b3:=names_raw c c1
      have hm:=missK_B c x
      have l1:(x.binds.map Bd.name).length≤1000000000:=by rw[List.length_map];exact x3
      have l2:(c.defaults.map Bd.name).length≤1000000000:=by rw[List.length_map];exact c2
      have l3:(c.methods.map Md.name).length≤maxN:=by rw[List.length_map];unfold maxN;omega
      have z1:x.binds.length=0↔x.binds.map Bd.name=[]:=by simp
      have z2:c.defaults.length=0↔c.defaults.map Bd.name=[]:=by simp
      have z3:c.methods.length=0↔c.methods.map Md.name=[]:=by simp
      simp only[z1]at b1
      simp only[z2]at b2
      simp only[z3]at b3
      revert b1 b2 b3 hm l1 l2 l3
      generalize x.binds.map Bd.name=o1
      generalize c.defaults.map Bd.name=o2
      generalize c.methods.map Md.name=o3
      intro hm l1 l2 l3 b1 b2 b3
      have hl12:(o1++o2).length≤maxN:=by rw[List.length_append];unfold maxN;omega
      have ma:=miss_a x
      by_cases n1:o1=[]
      ·rw[if_pos n1]at b1
       subst n1
       rw[List.nil_append]at hm hl12
       by_cases n2:o2=[]
       ·rw[if_pos n2]at b2
        subst n2
        by_cases n3:o3=[]
        ·rw[if_pos n3]at b3
         subst n3
         have:missB c x=true:=by
          cases hq:missB c x with
          |true=>rfl
          |false=>rw[hq]at hm;simp[missK,fe]at hm
         simp[idxK_its hx,hcl,hk1,hh,hi,hO',hc,idxK_cls e3,hb,b1,b2,b3,ma,appK_no,this]
        ·rw[if_neg n3]at b3
         have mb:=miss_b x o3 l3
         rw[hm]at mb
         cases hq:missB c x<;>rw[hq]at mb<;>simp at mb<;>simp[idxK_its hx,hcl,hk1,hh,hi,hO',hc,idxK_cls e3,hb,b1,b2,b3,mb,appK_no]
       ·rw[if_neg n2]at b2
        by_cases n3:o3=[]
        ·rw[if_pos n3]at b3
         subst n3
         have:missB c x=true:=by
          cases hq:missB c x with
          |true=>rfl
          |false=>rw[hq]at hm;simp[missK,fe]at hm
         simp[idxK_its hx,hcl,hk1,hh,hi,hO',hc,idxK_cls e3,hb,b1,b2,b3,miss_c,appK_ns o2 n2 (by omega),this]
        ·rw[if_neg n3]at b3
         have md:=miss_d x o2 o3 hl12 l3
         rw[hm]at md
         cases hq:missB c x<;>rw[hq]at md<;>simp at md<;>simp[idxK_its hx,hcl,hk1,hh,hi,hO',hc,idxK_cls e3,hb,b1,b2,b3,md,appK_ns o2 n2 (by omega)]
      ·rw[if_neg n1]at b1
       by_cases n2:o2=[]
       ·rw[if_pos n2]at b2
        subst n2
        rw[List.append_nil]at hm hl12
        by_cases n3:o3=[]
        ·rw[if_pos n3]at b3
         subst n3
         have:missB c x=true:=by
          cases hq:missB c x with
          |true=>rfl
          |false=>rw[hq]at hm;simp[missK,fe]at hm
         simp[idxK_its hx,hcl,hk1,hh,hi,hO',hc,idxK_cls e3,hb,b1,b2,b3,miss_c,appK_no,app0K_s,this]
        ·rw[if_neg n3]at b3
         have md:=miss_d x o1 o3 hl12 l3
         rw[hm]at md
         cases hq:missB c x<;>rw[hq]at md<;>simp at md<;>simp[idxK_its hx,hcl,hk1,hh,hi,hO',hc,idxK_cls e3,hb,b1,b2,b3,md,appK_no,app0K_s]
       ·rw[if_neg n2]at b2
        by_cases n3:o3=[]
        ·rw[if_pos n3]at b3
         subst n3
         have:missB c x=true:=by
          cases hq:missB c x with
          |true=>rfl
          |false=>rw[hq]at hm;simp[missK,fe]at hm
         simp[idxK_its hx,hcl,hk1,hh,hi,hO',hc,idxK_cls e3,hb,b1,b2,b3,miss_c,appK_ss o1 o2 n2 (by omega),this]
        ·rw[if_neg n3]at b3
         have md:=miss_d x (o1++o2) o3 hl12 l3
         rw[hm]at md
         cases hq:missB c x<;>rw[hq]at md<;>simp at md<;>simp[idxK_its hx,hcl,hk1,hh,hi,hO',hc,idxK_cls e3,hb,b1,b2,b3,md,appK_ss o1 o2 n2 (by omega)]
 ·have:=fi_neg h0
  rw[this.1]at hcl
  rw[this.2]
  simp[idxK_its hx,hcl]
def keyL:List It→Nat→List Ke
 |[],_=>[]
 |x::l,i=>(x.cls,x.head.name,(i:Int))::keyL l (i+1)
theorem keyL_fnd(c s:ByteArray):∀(l:List It) (j i:Nat),fnd (isK2 c s) (keyL l j) i=fnd (isIt c s) l i
 |[],_,_=>rfl
 |x::l,j,i=>by
  rw[keyL,fnd,fnd,keyL_fnd c s l (j+1) (i+1)]
  have:isK2 c s (x.cls,x.head.name,(j:Int))=isIt c s x:=by simp[isK2,isIt]
  rw[this]
theorem keyL_snoc:∀(l:List It) (x:It) (j:Nat),keyL (l++[x]) j=keyL l j++[(x.cls,x.head.name,((j+l.length:Nat):Int))]
 |[],x,j=>by simp[keyL]
 |y::l,x,j=>by rw[List.cons_append,keyL,keyL_snoc l x (j+1),keyL,List.length_cons,List.cons_append,show j+1+l.length=j+(l.length+1) by omega]
theorem keyL_get:∀(l:List It) (j k:Nat) (x:It),l[k]?=some x→(keyL l j)[k]?=some (x.cls,x.head.name,((j+k:Nat):Int))
 |y::l,j,0,x,h=>by simp at h;subst h;simp[keyL]
 |y::l,j,k+1,x,h=>by
  rw[keyL,List.getElem?_cons_succ,keyL_get l (j+1) k x (by simpa using h),show j+1+k=j+(k+1) by omega]
 |[],_,_,_,h=>by simp at h
theorem any_map{α:Type}(f:α→ByteArray)(l:List α)(s:ByteArray)(g:α→Bool)(hg:∀x,g x=decide (f x=s)):l.any g=mem (l.map f) s:=by
 rw[mem_map];congr 1;funext x;exact hg x
theorem ctx_p(v:Ev)(hd:v.kc.length≤maxN)(x:It)(hx:x.ctx.length≤maxN)(hk:x.head.kids.length≤maxN)(y m:PV) :
  ev (q77ab0a (iv 0) (iv x.ctx.length) (pds x.ctx) y (dts v.kj) (cls v.kc) (its v.ki) m (sv x.cls) (iv x.head.kind) (sv x.head.name) (iv x.head.n) (tys x.head.kids) (pds x.ctx) (bds x.binds) (iv x.at_))=some (match ctxF v x with|some e=>(0,[dts v.kj,cls v.kc,its v.ki,m,sv x.cls,iv x.head.kind,sv x.head.name,iv x.head.n,tys x.head.kids,pds x.ctx,bds x.binds,iv x.at_,iv e,iv x.at_])|none=>(1,[dts v.kj,cls v.kc,its v.ki,m,sv x.cls,iv x.head.kind,sv x.head.name,iv x.head.n,tys x.head.kids,pds x.ctx,bds x.binds,iv x.at_,y])):=by
 have h:=ev_first x.ctx (ctxE v x) (fun i=>q77ab0a (iv i) (iv x.ctx.length) (pds x.ctx) y (dts v.kj) (cls v.kc) (its v.ki) m (sv x.cls) (iv x.head.kind) (sv x.head.name) (iv x.head.n) (tys x.head.kids) (pds x.ctx) (bds x.binds) (iv x.at_))
  (1,[dts v.kj,cls v.kc,its v.ki,m,sv x.cls,iv x.head.kind,sv x.head.name,iv x.head.n,tys x.head.kids,pds x.ctx,bds x.binds,iv x.at_,y]) (fun e=>(0,[dts v.kj,cls v.kc,its v.ki,m,sv x.cls,iv x.head.kind,sv x.head.name,iv x.head.n,tys x.head.kids,pds x.ctx,bds x.binds,iv x.at_,iv e,iv x.at_]))
  (fun i p hp hi _=>by
   rw[h77ab0a,g77ab0a]
   have hcl:=class_p v hd p.cls
   have h1:=find_ty1 x.head.kids hk p
   have h2:=find_pd1 (x.ctx.take i) (by rw[List.length_take];omega) p
   rw[fi_any]at h1 h2
   unfold ctxE
   by_cases k0:fi (isCl p.cls) v.kc<0
   ·have k0':¬0≤fi (isCl p.cls) v.kc:=by omega
    rw[decide_eq_false k0']at hcl
    simp[idxK_pds hp,hi,hcl,k0,need_f]
   ·have k0':0≤fi (isCl p.cls) v.kc:=by omega
    rw[decide_eq_true k0']at hcl
    have e3:x.head.kids.any (isTv p.t)=(decide (p.t.kind=1)&&mem (x.head.kids.map Ty.name) p.t.name):=by
     rw[mem_map]
     by_cases k1:p.t.kind=1
     ·simp[k1];congr 1;funext a;simp[isTv,k1]
     ·simp[k1];intro a _;simp[isTv,k1]
    cases e4:x.head.kids.any (isTv p.t) with
    |false=>
     rw[e4]at h1
     have:(if p.t.kind=1 then(if mem (x.head.kids.map Ty.name) p.t.name=true then(if(x.ctx.take i).any (isPd p.cls p.t.name)=true then some 120 else none) else some 123) else some 123:Option Int)=some 123:=by
      rw[e4]at e3
      by_cases k1:p.t.kind=1
      ·simp[k1]at e3;simp[k1,←e3]
      ·simp[k1]
     rw[if_neg k0,this]
     simp[idxK_pds hp,hi,hcl,h1,need_t,need_f]
    |true=>
     rw[e4]at h1 e3
     have e5:=e3.symm
     rw[bAt]at e5
     have k1:p.t.kind=1:=of_decide_eq_true e5.1
     rw[if_neg k0,if_pos k1,if_pos e5.2]
     cases e6:(x.ctx.take i).any (isPd p.cls p.t.name) with
     |true=>rw[e6]at h2;simp[idxK_pds hp,hi,hcl,h1,slcK_pds (Nat.le_of_lt hi),h2,need_t,need_f]
     |false=>rw[e6]at h2;simp[idxK_pds hp,hi,hcl,h1,slcK_pds (Nat.le_of_lt hi),h2,need_t,need_f,wL hi hx])
  (fun _=>by rw[h77ab0a,g77ab0a];simp)
 unfold ctxF
 simp at h
 rw[h]
 cases fe (ctxE v x) x.ctx 0<;>rfl
theorem miss_p(c:Cl)(x:It)(hc:c.methods.length≤maxN)(hd:c.defaults.length≤maxN)(hb:x.binds.length≤maxN) :
  ev (q77ab2a (iv 0) (iv c.methods.length) (mds c.methods) (sv x.cls) (iv x.head.kind) (sv x.head.name) (iv x.head.n) (tys x.head.kids) (pds x.ctx) (bds x.binds) (iv x.at_) (sv c.name) (sv c.var) (strs c.supers) (mds c.methods) (bds c.defaults) (iv c.at_))=some (if missB c x=true then(1,[sv x.cls,iv x.head.kind,sv x.head.name,iv x.head.n,tys x.head.kids,pds x.ctx,bds x.binds,iv x.at_,sv c.name,sv c.var,strs c.supers,mds c.methods,bds c.defaults,iv c.at_]) else(0,[sv x.cls,iv x.head.kind,sv x.head.name,iv x.head.n,tys x.head.kids,pds x.ctx,bds x.binds,iv x.at_,sv c.name,sv c.var,strs c.supers,mds c.methods,bds c.defaults,iv c.at_,iv 128,iv x.at_])):=by
 have h:=ev_first c.methods (fun _ m=>if missE c x m=true then none else some ()) (fun i=>q77ab2a (iv i) (iv c.methods.length) (mds c.methods) (sv x.cls) (iv x.head.kind) (sv x.head.name) (iv x.head.n) (tys x.head.kids) (pds x.ctx) (bds x.binds) (iv x.at_) (sv c.name) (sv c.var) (strs c.supers) (mds c.methods) (bds c.defaults) (iv c.at_))
  (1,[sv x.cls,iv x.head.kind,sv x.head.name,iv x.head.n,tys x.head.kids,pds x.ctx,bds x.binds,iv x.at_,sv c.name,sv c.var,strs c.supers,mds c.methods,bds c.defaults,iv c.at_]) (fun _=>(0,[sv x.cls,iv x.head.kind,sv x.head.name,iv x.head.n,tys x.head.kids,pds x.ctx,bds x.binds,iv x.at_,sv c.name,sv c.var,strs c.supers,mds c.methods,bds c.defaults,iv c.at_,iv 128,iv x.at_]))
  (fun i m hm hi _=>by
   rw[h77ab2a,g77ab2a]
   have h1:=has_bd3 x.binds hb m
   have h2:=has_bd3 c.defaults hd m
   rw[any_map Bd.name x.binds m.name (isBd m.name) (fun _=>rfl)]at h1
   rw[any_map Bd.name c.defaults m.name (isBd m.name) (fun _=>rfl)]at h2
   unfold missE
   cases e1:mem (x.binds.map Bd.name) m.name with
   |true=>rw[e1]at h1;simp[idxK_mds hm,hi,h1,need_t,wL hi hc]
   |false=>
    rw[e1]at h1
    cases e2:mem (c.defaults.map Bd.name) m.name<;>rw[e2]at h2<;>simp[idxK_mds hm,hi,h1,h2,need_t,need_f,wL hi hc])
  (fun _=>by rw[h77ab2a,g77ab2a];simp)
 rw[fe_all]at h
 unfold missB
 generalize c.methods.all (missE c x)=b at h ⊢
 simp at h
 rw[h]
 cases b<;>rfl
theorem inst_f_p(v:Ev)(hv:EvOk v)(i:Nat)(x:It)(hx:v.ki[i]?=some x):match instF v i x with
  |none=>ev (q77a (iv i) (dts v.kj) (cls v.kc) (its v.ki) (mtI (keyL (v.ki.take i) 0)))=some (1,[dts v.kj,cls v.kc,its v.ki,mtI (keyL (v.ki.take (i+1)) 0)])
  |some (e,a)=>∃m,ev (q77a (iv i) (dts v.kj) (cls v.kc) (its v.ki) (mtI (keyL (v.ki.take i) 0)))=some (0,[dts v.kj,cls v.kc,its v.ki,m,iv e,iv a]):=by
 obtain⟨x1,x2,x3⟩:=hv.x x (lMg hx)
 have hxN:x.head.kids.length≤maxN:=by unfold maxN;omega
 have hbN:x.binds.length≤maxN:=by unfold maxN;omega
 have hi:=lt_of_get hx
 have hcl:=class_p v hv.c x.cls
 unfold instF
 by_cases h0:0≤fi (isCl x.cls) v.kc
 ·obtain⟨k,c,e1,e2,e3,_⟩:=fi_nonneg h0
  obtain⟨c1,c2⟩:=hv.m c (lMg e3)
  have hcN:c.methods.length≤maxN:=by unfold maxN;omega
  have hdN:c.defaults.length≤maxN:=by unfold maxN;omega
  rw[decide_eq_true h0,e1]at hcl
  have hm0:max (k:Int) 0=k:=by omega
  rw[hm0]at hcl
  rw[e2]
  simp only[e3]
  have hh:=head_p v hv.d x hxN (mtI (keyL (v.ki.take i) 0))
  have hf:=keyL_fnd x.cls x.head.name (v.ki.take i) 0 0
  have hany:=fnd_isSome (isIt x.cls x.head.name) (v.ki.take i) 0
  have hti:v.ki.take (i+1)=v.ki.take i++[x]:=by rw[List.take_add_one,hx];rfl
  have hlen:(v.ki.take i).length=i:=by rw[List.length_take];omega
  unfold instG
  cases hH:headF v x with
  |some e=>
   rw[hH]at hh
   exact⟨_,Evl.of (by rw[h77a,g77a];simp[idxK_its hx,hcl,need_t,hh];rfl)⟩
  |none=>
   rw[hH]at hh
   cases hO:(v.ki.take i).any (isIt x.cls x.head.name) with
   |true=>
    rw[hO]at hany
    obtain⟨j,hj⟩:=Option.isSome_iff_exists.1 hany
    rw[hj]at hf
    exact⟨_,Evl.of (by rw[h77a,g77a];simp[idxK_its hx,hcl,need_t,hh,lookK_I,hf,need_f];rfl)⟩
   |false=>
    rw[hO]at hany
    have hj:fnd (isIt x.cls x.head.name) (v.ki.take i) 0=none:=by
     cases hq:fnd (isIt x.cls x.head.name) (v.ki.take i) 0 with
     |none=>rfl
     |some _=>rw[hq]at hany;cases hany
    rw[hj]at hf
    have hup:mtI (keyL (v.ki.take (i+1)) 0)=mtI (keyL (v.ki.take i) 0++[(x.cls,x.head.name,(i:Int))]):=by
     rw[hti,keyL_snoc,hlen,Nat.zero_add]
    rw[hup]
    have hc:=ctx_p v hv.c x x1 hxN (iv k) (mtI (keyL (v.ki.take i) 0++[(x.cls,x.head.name,(i:Int))]))
    have hup2:=fun kk=>updK_I (β:=Res) (d:=.fail) (k:=kk) (keyL (v.ki.take i) 0) x.cls x.head.name (i:Int) hf
    cases hC:ctxF v x with
    |some e=>
     rw[hC]at hc
     exact⟨_,Evl.of (by rw[h77a,g77a];simp[idxK_its hx,hcl,need_t,hh,lookK_I,hf,hup2,hc];rfl)⟩
    |none=>
     rw[hC]at hc
     have hb:=binds_p c x.binds hcN hbN (dts v.kj) (cls v.kc) (its v.ki) (mtI (keyL (v.ki.take i) 0++[(x.cls,x.head.name,(i:Int))]))
     cases hB:bindsF c x.binds with
     |some f=>
      obtain⟨fe,fa⟩:=f
      rw[hB]at hb
      exact⟨_,Evl.of (by rw[h77a,g77a];simp[idxK_its hx,hcl,need_t,hh,lookK_I,hf,hup2,hc,idxK_cls e3,hb];rfl)⟩
     |none=>
      rw[hB]at hb
      have hm:=miss_p c x hcN hdN hbN
      cases hq:missB c x with
      |true=>
       rw[hq]at hm
       simp only[if_true]at hm ⊢
       exact Evl.of (by rw[h77a,g77a];simp[idxK_its hx,hcl,need_t,hh,lookK_I,hf,hup2,hc,idxK_cls e3,hb,hm])
      |false=>
       rw[hq]at hm
       simp only[Bool.false_eq_true,if_false]at hm ⊢
       exact⟨_,Evl.of (by rw[h77a,g77a];simp[idxK_its hx,hcl,need_t,hh,lookK_I,hf,hup2,hc,idxK_cls e3,hb,hm];rfl)⟩
 ·have:=fi_neg h0
  rw[decide_eq_false h0]at hcl
  rw[this.2]
  exact⟨_,Evl.of (by rw[h77a,g77a];simp[idxK_its hx,hcl,need_f];rfl)⟩
theorem fe_one{α ε:Type}{e:Nat→α→Option ε}:∀{l:List α} {i j0:Nat} {a0:α},l[j0]?=some a0→(∀j a,l[j]?=some a→j≠j0→e (i+j) a=none)→fe e l i=e (i+j0) a0
 |[],_,_,_,h,_=>by simp at h
 |a::l,i,0,a0,h,hn=>by
  simp at h
  subst h
  rw[fe,Nat.add_zero]
  cases he:e i a with
  |some x=>rfl
  |none=>
   simp only
   have:∀(l:List α) (i:Nat),(∀j a,l[j]?=some a→e (i+j) a=none)→fe e l i=none:=by
    intro l
    induction l with
    |nil=>intro i _;rfl
    |cons b l ih=>
     intro i h
     rw[fe]
     have:=h 0 b rfl
     rw[Nat.add_zero]at this
     rw[this]
     exact ih (i+1) fun j a ha=>by have:=h (j+1) a (by simpa using ha);rwa [show i+(j+1)=i+1+j by omega]at this
   exact this l (i+1) fun j b hb=>by
    have:=hn (j+1) b (by simpa using hb) (by omega)
    rwa [show i+(j+1)=i+1+j by omega]at this
 |a::l,i,j0+1,a0,h,hn=>by
  rw[fe]
  have h0:=hn 0 a rfl (by omega)
  rw[Nat.add_zero]at h0
  rw[h0]
  simp only
  rw[fe_one (l:=l) (i:=i+1) (j0:=j0) (a0:=a0) (by simpa using h) (fun j b hb hj=>by
   have:=hn (j+1) b (by simpa using hb) (by omega)
   rwa [show i+(j+1)=i+1+j by omega]at this),show i+1+j0=i+(j0+1) by omega]
structure HeadOk(v:Ev)(x:It):Prop where
 k:(x.head.kids.length:Int)=arity v x.head.name
 d:∀j t,x.head.kids[j]?=some t→mem ((x.head.kids.take j).map Ty.name) t.name=false
 c:∀p∈x.ctx,mem (x.head.kids.map Ty.name) p.t.name=true
theorem HeadOk.of{v:Ev}{i:Nat}{x:It}(h:instF v i x=none)(hc:∃k c,fnd (isCl x.cls) v.kc 0=some k∧v.kc[k]?=some c):HeadOk v x:=by
 obtain⟨k,c,h1,h2⟩:=hc
 unfold instF at h
 rw[h1]at h
 simp only[h2]at h
 unfold instG at h
 cases hH:headF v x with
 |some e=>rw[hH]at h;cases h
 |none=>
  rw[hH]at h
  simp only at h
  split at h
  ·cases h
  ·cases hC:ctxF v x with
   |some e=>rw[hC]at h;cases h
   |none=>
    unfold headF at hH
    split at hH
    ·split at hH
     ·cases hH
     ·split at hH
      ·cases hH
      ·split at hH
       ·rename_i hk
        refine⟨hk.symm,fun j t ht=>?_,fun p hp=>?_⟩
        ·have:=fe_none hH j t ht
         rw[Nat.zero_add]at this
         unfold headE at this
         split at this
         ·split at this
          ·split at this
           ·cases this
           ·rename_i hq;simpa using hq
          ·cases this
         ·cases this
        ·obtain⟨j,hj⟩:=List.getElem?_of_mem hp
         have:=fe_none hC j p hj
         unfold ctxE at this
         split at this
         ·cases this
         ·split at this
          ·split at this
           ·assumption
           ·cases this
          ·cases this
       ·cases hH
    ·cases hH
theorem class_ex{v:Ev}{i:Nat}{x:It}(h:instF v i x=none):∃k c,fnd (isCl x.cls) v.kc 0=some k∧v.kc[k]?=some c:=by
 unfold instF at h
 cases hf:fnd (isCl x.cls) v.kc 0 with
 |none=>rw[hf]at h;cases h
 |some k=>
  obtain⟨_,c,h1,_⟩:=fnd_some hf
  exact⟨k,c,rfl,by simpa using h1⟩
def nameAt(x:It)(j:Nat):ByteArray:=match x.head.kids[j]? with
 |some t=>t.name
 |none=>⟨#[]⟩
def supJ(v:Ev)(n:Nat)(x y:It)(p:Pd)(j:Nat)(t:Ty):Option Unit:=if t.name=p.t.name then(if givenB v n x p.cls (nameAt x j)=true then none else some ()) else none
def supP(v:Ev)(n:Nat)(x y:It)(_:Nat)(p:Pd):Option Unit:=fe (supJ v n x y p) y.head.kids 0
def supS(v:Ev)(n:Nat)(x:It)(_:Nat)(s:ByteArray):Option Unit:=match fnd (isIt s x.head.name) v.ki 0 with
 |none=>some ()
 |some k=>match v.ki[k]? with
  |none=>none
  |some y=>fe (supP v n x y) y.ctx 0
theorem supP_one{v:Ev}{n:Nat}{x y:It}(hy:HeadOk v y)(hx:HeadOk v x)(hn:y.head.name=x.head.name){p:Pd}(hp:p∈y.ctx) :
  ∃(j:Nat) (t:Ty),fi (isTn p.t.name) y.head.kids=(j:Int)∧x.head.kids[j]?=some t∧∀i,supP v n x y i p=if givenB v n x p.cls t.name=true then none else some ():=by
 have hm:=hy.c p hp
 rw[←any_map Ty.name y.head.kids p.t.name (isTn p.t.name) (fun _=>rfl),←fnd_isSome _ _ 0]at hm
 obtain⟨j,hj⟩:=Option.isSome_iff_exists.1 hm
 obtain⟨_,t,ht,htn⟩:=fnd_some hj
 simp at ht
 have hjl:=lt_of_get ht
 have hlen:x.head.kids.length=y.head.kids.length:=by
  have h1:=hx.k
  have h2:=hy.k
  rw[hn]at h2
  omega
 have hxj:x.head.kids[j]?=some (x.head.kids[j]'(by omega)):=lGg (by omega)
 refine⟨j,_,fi_some hj,hxj,fun i=>?_⟩
 have htn':t.name=p.t.name:=by simpa[isTn]using htn
 unfold supP
 rw[fe_one (j0:=j) (a0:=t) ht ?_]
 ·unfold supJ
  rw[if_pos htn',Nat.zero_add]
  unfold nameAt
  rw[hxj]
 ·intro j' a ha hne
  unfold supJ
  by_cases hq:a.name=p.t.name
  ·exfalso
   rcases Nat.lt_or_gt_of_ne hne with hlt|hlt
   ·have:=hy.d j t ht
    rw[mem_map,List.any_eq_false]at this
    refine this a ?_ (by simp[hq,htn'])
    exact lMg (i:=j') (by rw[List.getElem?_take,if_pos hlt];exact ha)
   ·have:=hy.d j' a ha
    rw[mem_map,List.any_eq_false]at this
    refine this t ?_ (by simp[hq,htn'])
    exact lMg (i:=j) (by rw[List.getElem?_take,if_pos hlt];exact ht)
  ·rw[if_neg hq]
section
variable{v:Ev}{U:List ByteArray}{n:Nat}(h:Big v U n)(hv:EvOk v)(hok:∀i x,v.ki[i]?=some x→instF v i x=none)
include h hv hok
theorem headOk{i:Nat}{x:It}(hx:v.ki[i]?=some x):HeadOk v x:=HeadOk.of (hok i x hx) (class_ex (hok i x hx))
theorem sup_j(x y:It){ix iy:Nat}(hx:v.ki[ix]?=some x)(hy:v.ki[iy]?=some y)(hn:y.head.name=x.head.name)(p:Pd)(m i:Nat)(hp:y.ctx[m]?=some p)(sl:PV) :
  ev (q43b4a (iv 0) (iv m) (iv i) sl (sv y.cls) (iv y.head.kind) (sv y.head.name) (iv y.head.n) (tys y.head.kids) (pds y.ctx) (bds y.binds) (iv y.at_) (dts v.kj) (cls v.kc) (its v.ki) (sv x.cls) (iv x.head.kind) (sv x.head.name) (iv x.head.n) (tys x.head.kids) (pds x.ctx) (bds x.binds) (iv x.at_))=some (match supP v n x y 0 p with|some _=>(0,[sv y.cls,iv y.head.kind,sv y.head.name,iv y.head.n,tys y.head.kids,pds y.ctx,bds y.binds,iv y.at_,dts v.kj,cls v.kc,its v.ki,sv x.cls,iv x.head.kind,sv x.head.name,iv x.head.n,tys x.head.kids,pds x.ctx,bds x.binds,iv x.at_,bv false])|none=>(1,[sv y.cls,iv y.head.kind,sv y.head.name,iv y.head.n,tys y.head.kids,pds y.ctx,bds y.binds,iv y.at_,dts v.kj,cls v.kc,its v.ki,sv x.cls,iv x.head.kind,sv x.head.name,iv x.head.n,tys x.head.kids,pds x.ctx,bds x.binds,iv x.at_,iv m,iv i,sl])):=by
 have hxo:=headOk h hv hok hx
 have hyo:=headOk h hv hok hy
 obtain⟨x1,x2,x3⟩:=hv.x x (lMg hx)
 obtain⟨y1,y2,y3⟩:=hv.x y (lMg hy)
 have hyN:y.head.kids.length≤maxN:=by unfold maxN;omega
 have hlen:x.head.kids.length=y.head.kids.length:=by
  have h1:=hxo.k
  have h2:=hyo.k
  rw[hn]at h2
  omega
 have hl:=ev_first y.head.kids (supJ v n x y p) (fun j=>q43b4a (iv j) (iv m) (iv i) sl (sv y.cls) (iv y.head.kind) (sv y.head.name) (iv y.head.n) (tys y.head.kids) (pds y.ctx) (bds y.binds) (iv y.at_) (dts v.kj) (cls v.kc) (its v.ki) (sv x.cls) (iv x.head.kind) (sv x.head.name) (iv x.head.n) (tys x.head.kids) (pds x.ctx) (bds x.binds) (iv x.at_))
  (1,[sv y.cls,iv y.head.kind,sv y.head.name,iv y.head.n,tys y.head.kids,pds y.ctx,bds y.binds,iv y.at_,dts v.kj,cls v.kc,its v.ki,sv x.cls,iv x.head.kind,sv x.head.name,iv x.head.n,tys x.head.kids,pds x.ctx,bds x.binds,iv x.at_,iv m,iv i,sl]) (fun _=>(0,[sv y.cls,iv y.head.kind,sv y.head.name,iv y.head.n,tys y.head.kids,pds y.ctx,bds y.binds,iv y.at_,dts v.kj,cls v.kc,its v.ki,sv x.cls,iv x.head.kind,sv x.head.name,iv x.head.n,tys x.head.kids,pds x.ctx,bds x.binds,iv x.at_,bv false]))
  (fun j t ht hj _=>by
   rw[h43b4a,g43b4a]
   have hxj:x.head.kids[j]?=some (x.head.kids[j]'(by omega)):=lGg (by omega)
   have hg:=given_r h x x1 p.cls (nameAt x j)
   have hna:nameAt x j=(x.head.kids[j]'(by omega)).name:=by unfold nameAt;rw[hxj]
   rw[hna]at hg
   unfold supJ
   rw[hna]
   by_cases hq:t.name=p.t.name
   ·rw[if_pos hq]
    cases hb:givenB v n x p.cls (x.head.kids[j]'(by omega)).name<;>rw[hb]at hg<;>simp[idxK_tys ht,idxK_pds hp,hj,hq,idxK_tys hxj,hg,wL hj hyN]
   ·simp[idxK_tys ht,idxK_pds hp,hj,hq,wL hj hyN])
  (fun _=>by rw[h43b4a,g43b4a];simp)
 simp at hl
 rw[hl]
 unfold supP
 cases fe (supJ v n x y p) y.head.kids 0<;>rfl
theorem sup_m(x y:It){ix iy:Nat}(hx:v.ki[ix]?=some x)(hy:v.ki[iy]?=some y)(hn:y.head.name=x.head.name)(i:Nat)(sl:PV) :
  ev (q43b2a (iv 0) (iv i) sl (sv y.cls) (iv y.head.kind) (sv y.head.name) (iv y.head.n) (tys y.head.kids) (pds y.ctx) (bds y.binds) (iv y.at_) (dts v.kj) (cls v.kc) (its v.ki) (sv x.cls) (iv x.head.kind) (sv x.head.name) (iv x.head.n) (tys x.head.kids) (pds x.ctx) (bds x.binds) (iv x.at_))=some (match fe (supP v n x y) y.ctx 0 with|some _=>(0,[sv y.cls,iv y.head.kind,sv y.head.name,iv y.head.n,tys y.head.kids,pds y.ctx,bds y.binds,iv y.at_,dts v.kj,cls v.kc,its v.ki,sv x.cls,iv x.head.kind,sv x.head.name,iv x.head.n,tys x.head.kids,pds x.ctx,bds x.binds,iv x.at_,bv false])|none=>(1,[sv y.cls,iv y.head.kind,sv y.head.name,iv y.head.n,tys y.head.kids,pds y.ctx,bds y.binds,iv y.at_,dts v.kj,cls v.kc,its v.ki,sv x.cls,iv x.head.kind,sv x.head.name,iv x.head.n,tys x.head.kids,pds x.ctx,bds x.binds,iv x.at_,iv i,sl])):=by
 obtain⟨y1,y2,y3⟩:=hv.x y (lMg hy)
 have hl:=ev_first y.ctx (supP v n x y) (fun m=>q43b2a (iv m) (iv i) sl (sv y.cls) (iv y.head.kind) (sv y.head.name) (iv y.head.n) (tys y.head.kids) (pds y.ctx) (bds y.binds) (iv y.at_) (dts v.kj) (cls v.kc) (its v.ki) (sv x.cls) (iv x.head.kind) (sv x.head.name) (iv x.head.n) (tys x.head.kids) (pds x.ctx) (bds x.binds) (iv x.at_))
  (1,[sv y.cls,iv y.head.kind,sv y.head.name,iv y.head.n,tys y.head.kids,pds y.ctx,bds y.binds,iv y.at_,dts v.kj,cls v.kc,its v.ki,sv x.cls,iv x.head.kind,sv x.head.name,iv x.head.n,tys x.head.kids,pds x.ctx,bds x.binds,iv x.at_,iv i,sl]) (fun _=>(0,[sv y.cls,iv y.head.kind,sv y.head.name,iv y.head.n,tys y.head.kids,pds y.ctx,bds y.binds,iv y.at_,dts v.kj,cls v.kc,its v.ki,sv x.cls,iv x.head.kind,sv x.head.name,iv x.head.n,tys x.head.kids,pds x.ctx,bds x.binds,iv x.at_,bv false]))
  (fun m p hp hm _=>by
   rw[h43b2a,g43b2a]
   have hj:=sup_j h hv hok x y hx hy hn p m i hp sl
   have e:supP v n x y m p=supP v n x y 0 p:=rfl
   rw[e]
   cases hq:supP v n x y 0 p<;>rw[hq]at hj<;>simp at hj<;>simp[hm,hj,wL hm y1])
  (fun _=>by rw[h43b2a,g43b2a];simp)
 simp at hl
 rw[hl]
 cases fe (supP v n x y) y.ctx 0<;>rfl
theorem sup_r(x:It){ix:Nat}(hx:v.ki[ix]?=some x){k:Nat}{c:Cl}(h1:fnd (isCl x.cls) v.kc 0=some k)(h2:v.kc[k]?=some c)(hs:c.supers.length≤maxN) :
  ev (q43 (dts v.kj) (cls v.kc) (its v.ki) (sv x.cls) (iv x.head.kind) (sv x.head.name) (iv x.head.n) (tys x.head.kids) (pds x.ctx) (bds x.binds) (iv x.at_))=some (0,[bv (fe (supS v n x) c.supers 0).isNone]):=by
 have hl:=ev_first c.supers (supS v n x) (fun i=>q43b0a (iv i) (strs c.supers) (dts v.kj) (cls v.kc) (its v.ki) (sv x.cls) (iv x.head.kind) (sv x.head.name) (iv x.head.n) (tys x.head.kids) (pds x.ctx) (bds x.binds) (iv x.at_))
  (1,[dts v.kj,cls v.kc,its v.ki,sv x.cls,iv x.head.kind,sv x.head.name,iv x.head.n,tys x.head.kids,pds x.ctx,bds x.binds,iv x.at_]) (fun _=>(0,[dts v.kj,cls v.kc,its v.ki,sv x.cls,iv x.head.kind,sv x.head.name,iv x.head.n,tys x.head.kids,pds x.ctx,bds x.binds,iv x.at_,bv false]))
  (fun i s hs2 hi _=>by
   rw[h43b0a,g43b0a]
   have hin:=inst_r v hv.i s x.head.name
   unfold supS
   by_cases h0:0≤fi (isIt s x.head.name) v.ki
   ·obtain⟨k,y,e1,e2,e3,e4⟩:=fi_nonneg h0
    rw[e1]at hin
    have hk1:¬(k:Int)<0:=by omega
    have hn:y.head.name=x.head.name:=by
     have:y.cls=s∧y.head.name=x.head.name:=by simpa[isIt]using e4
     exact this.2
    have hm:=sup_m h hv hok x y hx e3 hn i (strs c.supers)
    rw[e2]
    simp only[e3]
    cases hq:fe (supP v n x y) y.ctx 0<;>rw[hq]at hm<;>simp at hm<;>simp[idxK_strs hs2,hi,hin,hk1,idxK_its e3,hm,wL hi hs]
   ·have:=fi_neg h0
    rw[this.1]at hin
    rw[this.2]
    simp[idxK_strs hs2,hi,hin])
  (fun _=>by rw[h43b0a,g43b0a];simp)
 simp at hl
 refine Evl.of ?_
 rw[h43,g43]
 have hcl:=class_r v hv.c x.cls
 rw[fi_some h1]at hcl
 simp[hcl,idxK_cls h2,hl]
 cases fe (supS v n x) c.supers 0<;>simp
theorem sup_mp(x y:It){ix iy:Nat}(hx:v.ki[ix]?=some x)(hy:v.ki[iy]?=some y)(hn:y.head.name=x.head.name)(i:Nat)(a b m:PV) :
  ev (q78ab2a (iv 0) (iv y.ctx.length) (pds y.ctx) (iv i) a b (sv y.cls) (iv y.head.kind) (sv y.head.name) (iv y.head.n) (tys y.head.kids) (pds y.ctx) (bds y.binds) (iv y.at_) (dts v.kj) (cls v.kc) (its v.ki) m (sv x.cls) (iv x.head.kind) (sv x.head.name) (iv x.head.n) (tys x.head.kids) (pds x.ctx) (bds x.binds) (iv x.at_))=some (match fe (supP v n x y) y.ctx 0 with|some _=>(0,[sv y.cls,iv y.head.kind,sv y.head.name,iv y.head.n,tys y.head.kids,pds y.ctx,bds y.binds,iv y.at_,dts v.kj,cls v.kc,its v.ki,m,sv x.cls,iv x.head.kind,sv x.head.name,iv x.head.n,tys x.head.kids,pds x.ctx,bds x.binds,iv x.at_,iv 126,iv x.at_])|none=>(1,[sv y.cls,iv y.head.kind,sv y.head.name,iv y.head.n,tys y.head.kids,pds y.ctx,bds y.binds,iv y.at_,dts v.kj,cls v.kc,its v.ki,m,sv x.cls,iv x.head.kind,sv x.head.name,iv x.head.n,tys x.head.kids,pds x.ctx,bds x.binds,iv x.at_,iv i,a,b])):=by
 have hxo:=headOk h hv hok hx
 have hyo:=headOk h hv hok hy
 obtain⟨x1,x2,x3⟩:=hv.x x (lMg hx)
 obtain⟨y1,y2,y3⟩:=hv.x y (lMg hy)
 have hyN:y.head.kids.length≤maxN:=by unfold maxN;omega
 have hl:=ev_first y.ctx (supP v n x y) (fun k=>q78ab2a (iv k) (iv y.ctx.length) (pds y.ctx) (iv i) a b (sv y.cls) (iv y.head.kind) (sv y.head.name) (iv y.head.n) (tys y.head.kids) (pds y.ctx) (bds y.binds) (iv y.at_) (dts v.kj) (cls v.kc) (its v.ki) m (sv x.cls) (iv x.head.kind) (sv x.head.name) (iv x.head.n) (tys x.head.kids) (pds x.ctx) (bds x.binds) (iv x.at_))
  (1,[sv y.cls,iv y.head.kind,sv y.head.name,iv y.head.n,tys y.head.kids,pds y.ctx,bds y.binds,iv y.at_,dts v.kj,cls v.kc,its v.ki,m,sv x.cls,iv x.head.kind,sv x.head.name,iv x.head.n,tys x.head.kids,pds x.ctx,bds x.binds,iv x.at_,iv i,a,b]) (fun _=>(0,[sv y.cls,iv y.head.kind,sv y.head.name,iv y.head.n,tys y.head.kids,pds y.ctx,bds y.binds,iv y.at_,dts v.kj,cls v.kc,its v.ki,m,sv x.cls,iv x.head.kind,sv x.head.name,iv x.head.n,tys x.head.kids,pds x.ctx,bds x.binds,iv x.at_,iv 126,iv x.at_]))
  (fun k p hp hk _=>by
   rw[h78ab2a,g78ab2a]
   obtain⟨j,t,e1,e2,e3⟩:=supP_one (n:=n) hyo hxo hn (lMg hp)
   have hf:=find_ty2 y.head.kids hyN p
   rw[e1]at hf
   have hm0:max (j:Int) 0=j:=by omega
   have hj0:(0:Int)≤(j:Int):=by omega
   rw[hm0,decide_eq_true hj0]at hf
   have hg:=given_p h x x1 p.cls t.name m
   rw[e3]
   cases hb:givenB v n x p.cls t.name<;>rw[hb]at hg<;>simp[idxK_pds hp,hk,hf,idxK_tys e2,hg,need_t,need_f,wL hk y1])
  (fun _=>by rw[h78ab2a,g78ab2a];simp)
 simp at hl
 rw[hl]
 cases fe (supP v n x y) y.ctx 0<;>rfl
theorem sup_p(x:It){ix:Nat}(hx:v.ki[ix]?=some x){k:Nat}{c:Cl}(h1:fnd (isCl x.cls) v.kc 0=some k)(h2:v.kc[k]?=some c)(hs:c.supers.length≤maxN) :
  ev (q78a (sv x.cls) (iv x.head.kind) (sv x.head.name) (iv x.head.n) (tys x.head.kids) (pds x.ctx) (bds x.binds) (iv x.at_) (dts v.kj) (cls v.kc) (its v.ki) (mtI (keyL v.ki 0)))=some (match fe (supS v n x) c.supers 0 with|some _=>(1,[dts v.kj,cls v.kc,its v.ki,mtI (keyL v.ki 0),iv 126,iv x.at_])|none=>(0,[dts v.kj,cls v.kc,its v.ki,mtI (keyL v.ki 0)])):=by
 have hl:=ev_first c.supers (supS v n x) (fun i=>q78ab0a (iv i) (iv c.supers.length) (strs c.supers) (dts v.kj) (cls v.kc) (its v.ki) (mtI (keyL v.ki 0)) (sv x.cls) (iv x.head.kind) (sv x.head.name) (iv x.head.n) (tys x.head.kids) (pds x.ctx) (bds x.binds) (iv x.at_))
  (1,[dts v.kj,cls v.kc,its v.ki,mtI (keyL v.ki 0),sv x.cls,iv x.head.kind,sv x.head.name,iv x.head.n,tys x.head.kids,pds x.ctx,bds x.binds,iv x.at_]) (fun _=>(0,[dts v.kj,cls v.kc,its v.ki,mtI (keyL v.ki 0),sv x.cls,iv x.head.kind,sv x.head.name,iv x.head.n,tys x.head.kids,pds x.ctx,bds x.binds,iv x.at_,iv 126,iv x.at_]))
  (fun i s hs2 hi _=>by
   rw[h78ab0a,g78ab0a]
   have hkey:=keyL_fnd s x.head.name v.ki 0 0
   unfold supS
   cases hf:fnd (isIt s x.head.name) v.ki 0 with
   |none=>
    rw[hf]at hkey
    simp[idxK_strs hs2,hi,lookK_I,hkey,need_f]
   |some k=>
    rw[hf]at hkey
    obtain⟨_,y,e3,e4⟩:=fnd_some hf
    simp at e3
    have hn:y.head.name=x.head.name:=by
     have:y.cls=s∧y.head.name=x.head.name:=by simpa[isIt]using e4
     exact this.2
    have hget:=keyL_get v.ki 0 k y e3
    rw[Nat.zero_add]at hget
    have hm:=sup_mp h hv hok x y hx e3 hn i (iv c.supers.length) (strs c.supers) (mtI (keyL v.ki 0))
    simp only[e3]
    cases hq:fe (supP v n x y) y.ctx 0<;>rw[hq]at hm<;>simp at hm<;>simp[idxK_strs hs2,hi,lookK_I,hkey,hget,need_t,idxK_its e3,hm,wL hi hs])
  (fun _=>by rw[h78ab0a,g78ab0a];simp)
 simp at hl
 refine Evl.of ?_
 rw[h78a,g78a]
 have hcl:=class_p v hv.c x.cls
 rw[fi_some h1]at hcl
 have hm0:max (k:Int) 0=k:=by omega
 have hj0:(0:Int)≤(k:Int):=by omega
 rw[hm0,decide_eq_true hj0]at hcl
 simp[hcl,idxK_cls h2,hl]
 cases fe (supS v n x) c.supers 0<;>simp
end
theorem ev_run{α σ ε:Type}(l:List α)(g:Nat→σ→α→Except ε σ)(q:Nat→σ→Q)(fin:σ→Rs)(rf:ε→Rs)(I:Nat→σ→Prop)
  (step:∀i s a,l[i]?=some a→i<l.length→I i s→match g i s a with
   |.ok s'=>I (i+1) s'∧body PG EE TT ev (q i s)=passK (ev (q (i+1) s'))
   |.error r=>body PG EE TT ev (q i s)=.ok (rf r))
  (done:∀s,I l.length s→body PG EE TT ev (q l.length s)=.ok (fin s)) (s:σ) (h0:I 0 s) :
  ev (q 0 s)=some (match runL g l 0 s with | .ok s'=>fin s' | .error r=>rf r):=by
 have key:∀(m i:Nat) (s:σ),l.length-i=m→i≤l.length→I i s→ev (q i s)=some (match runL g (l.drop i) i s with | .ok s'=>fin s' | .error r=>rf r):=by
  intro m
  induction m with
  |zero=>
   intro i s hm hi hs
   have:i=l.length:=by omega
   subst this
   rw[List.drop_length]
   exact Evl.of (done s hs)
  |succ m ih=>
   intro i s hm hi hs
   have hlt:i<l.length:=by omega
   have h1:=step i s _ (lGg hlt) hlt hs
   rw[List.drop_eq_getElem_cons hlt,runL]
   cases hg:g i s l[i]with
   |ok s'=>
    rw[hg]at h1
    refine Evl.of ?_
    rw[h1.2,ih (i+1) s' (by omega) (by omega) h1.1];rfl
   |error r=>
    rw[hg]at h1
    exact Evl.of h1
 simpa using key l.length 0 s rfl (Nat.zero_le _) h0
theorem runL_inv{α σ ε:Type}(g:Nat→σ→α→Except ε σ)(I:Nat→σ→Prop):∀(l:List α) (i:Nat) (s s':σ),(∀j s a s',l[j]?=some a→I (i+j) s→g (i+j) s a=.ok s'→I (i+j+1) s')→I i s→runL g l i s=.ok s'→I (i+l.length) s'
 |[],i,s,s',_,h0,hr=>by cases hr;exact h0
 |a::l,i,s,s',hs,h0,hr=>by
  rw[runL]at hr
  cases hg:g i s a with
  |error e=>rw[hg]at hr;cases hr
  |ok s1=>
   rw[hg]at hr
   have h1:=hs 0 s a s1 rfl h0 hg
   have:=runL_inv g I l (i+1) s1 s' (fun j s a s' ha hI hg=>by
    have:=hs (j+1) s a s' (by simpa using ha) (by rwa [show i+(j+1)=i+1+j by omega]) (by rwa [show i+(j+1)=i+1+j by omega])
    rwa [show i+(j+1)+1=i+1+j+1 by omega]at this) h1 hr
   rwa [List.length_cons,show i+(l.length+1)=i+1+l.length by omega]
structure Fit(v:Ev):Prop extends EvOk v where
 dl:v.kj.length≤4000
 dc:∀d∈v.kj,d.cons.length≤4000∧d.params.length≤maxN∧∀c∈d.cons,c.args.length≤maxN∧∀t∈c.args,t.Ok
 cl:v.kc.length≤4000
 cm:∀c∈v.kc,c.methods.length≤4000∧c.supers.length≤maxN∧∀m∈c.methods,m.t.Ok∧(allT m.t).length≤1000000000
def datE(v:Ev)(i:Nat)(d:Dt):Option Flt:=if 0≤baseI d.name then some (120,d.at_) else if(v.kj.take i).any (isDt d.name)=true then some (120,d.at_) else none
def datasA(v:Ev):Option Flt:=fe (datE v) v.kj 0
def parE(d:Dt)(k:Nat)(p:ByteArray):Option Flt:=if mem (d.params.take k) p=true then some (120,d.at_) else none
def parF(d:Dt):Option Flt:=fe (parE d) d.params 0
def argF(v:Ev)(d:Dt)(c:Cn):Option Int:=fe (fun _ t=>rightE v d.params t) c.args 0
def conG(v:Ev)(d:Dt)(_:Nat)(met:List ByteArray)(c:Cn):Except (Flt×List ByteArray) (List ByteArray):=
 if mem met c.name=true then .error ((120,c.at_),met) else if 60<(c.args.length:Int) then .error ((3,c.at_),met++[c.name]) else match argF v d c with
  |some e=>.error ((e,c.at_),met++[c.name])
  |none=>.ok (met++[c.name])
def datG(v:Ev)(_:Nat)(met:List ByteArray)(d:Dt):Except (Flt×List ByteArray) (List ByteArray):=match parF d with
 |some f=>.error (f,met)
 |none=>runL (conG v d) d.cons 0 met
def datasB(v:Ev):Except (Flt×List ByteArray) (List ByteArray):=runL (datG v) v.kj 0 []
def datasF(v:Ev):Option Flt:=match datasA v with
 |some f=>some f
 |none=>match datasB v with
  |.error (f,_)=>some f
  |.ok _=>none
theorem conG_len{v:Ev}{d:Dt}{i:Nat}{met met':List ByteArray}{c:Cn}(h:conG v d i met c=.ok met'):met'.length=met.length+1:=by
 unfold conG at h
 split at h
 ·cases h
 ·split at h
  ·cases h
  ·split at h
   ·cases h
   ·cases h;simp
theorem cons_len{v:Ev}{d:Dt}{met met':List ByteArray}(h:runL (conG v d) d.cons 0 met=.ok met'):met'.length=met.length+d.cons.length:=by
 have:=runL_inv (conG v d) (fun i s=>s.length=met.length+i) d.cons 0 met met' (fun j s a s' _ hI hg=>by rw[conG_len hg,hI];omega) rfl h
 simpa using this
section
variable{v:Ev}(hv:Fit v)
include hv
theorem datA_r:ev (q40b0a (iv 0) (dts v.kj) (cls v.kc) (its v.ki) (iv 0) (iv 0))=some (match datasA v with|some (e,a)=>(0,[dts v.kj,cls v.kc,its v.ki,iv e,iv a])|none=>(1,[dts v.kj,cls v.kc,its v.ki,iv 0,iv 0])):=by
 have h:=ev_first v.kj (datE v) (fun i=>q40b0a (iv i) (dts v.kj) (cls v.kc) (its v.ki) (iv 0) (iv 0)) (1,[dts v.kj,cls v.kc,its v.ki,iv 0,iv 0]) (fun f=>(0,[dts v.kj,cls v.kc,its v.ki,iv f.1,iv f.2]))
  (fun i d hd hi _=>by
   rw[h40b0a,g40b0a]
   have hlen:(v.kj.take i).length=i:=by rw[List.length_take];omega
   have hl:=ev_find (v.kj.take i) (isDt d.name) (fun k=>q40b2a (iv k) (iv i) (dts v.kj) (cls v.kc) (its v.ki) (sv d.name) (strs d.params) (cns d.cons) (strs d.deriv) (iv d.at_) (iv 0) (iv 0)) (1,[dts v.kj,cls v.kc,its v.ki,sv d.name,strs d.params,cns d.cons,strs d.deriv,iv d.at_,iv 0,iv 0,iv i]) (fun _=>(0,[dts v.kj,cls v.kc,its v.ki,sv d.name,strs d.params,cns d.cons,strs d.deriv,iv d.at_,iv 120,iv d.at_]))
    (fun k b hb hk=>by
     rw[hlen]at hk
     have hb':v.kj[k]?=some b:=by rw[List.getElem?_take,if_pos hk]at hb;exact hb
     rw[h40b2a,g40b2a]
     simp[idxK_dts hb',hk,wL (Nat.lt_trans hk hi) hv.d,isDt])
    (by rw[hlen,h40b2a,g40b2a];simp)
   have hs:=fnd_isSome (isDt d.name) (v.kj.take i) 0
   simp at hl
   unfold datE baseI
   by_cases h1:d.name=sInt
   ·simp[idxK_dts hd,hi,h1]
   ·by_cases h2:d.name=sString
    ·simp[idxK_dts hd,hi,h2]
    ·by_cases h3:d.name=sRef
     ·simp[idxK_dts hd,hi,h3]
     ·by_cases h4:d.name=sArrow
      ·simp[idxK_dts hd,hi,h4]
      ·have h5:¬(0:Int)≤-1:=by omega
       cases hf:fnd (isDt d.name) (v.kj.take i) 0 with
       |none=>rw[hf]at hl hs;have hs':(v.kj.take i).any (isDt d.name)=false:=hs.symm;simp at hl;rw[hs'];simp[idxK_dts hd,hi,h1,h2,h3,h4,hl,wL hi hv.d]
       |some k=>rw[hf]at hl hs;have hs':(v.kj.take i).any (isDt d.name)=true:=hs.symm;simp at hl;rw[hs'];simp[idxK_dts hd,hi,h1,h2,h3,h4,hl])
  (fun _=>by rw[h40b0a,g40b0a];simp)
 simp at h
 rw[h]
 unfold datasA
 cases fe (datE v) v.kj 0<;>rfl
theorem arg_r(d:Dt)(hd:d∈v.kj)(c:Cn)(hc:c∈d.cons)(met:List ByteArray)(i j a b:PV) :
  ev (q40b10a (iv 0) j (srow met) i (sv c.name) (tys c.args) (iv c.at_) (dts v.kj) (cls v.kc) (its v.ki) (sv d.name) (strs d.params) (cns d.cons) (strs d.deriv) (iv d.at_) a b)=some (match argF v d c with|some e=>(0,[sv c.name,tys c.args,iv c.at_,dts v.kj,cls v.kc,its v.ki,sv d.name,strs d.params,cns d.cons,strs d.deriv,iv d.at_,iv e,iv c.at_,.rows (srow met)])|none=>(1,[sv c.name,tys c.args,iv c.at_,dts v.kj,cls v.kc,its v.ki,sv d.name,strs d.params,cns d.cons,strs d.deriv,iv d.at_,a,b,j,.rows (srow met),i])):=by
 obtain⟨d1,d2,d3⟩:=hv.dc d hd
 obtain⟨c1,c2⟩:=d3 c hc
 have h:=ev_first c.args (fun _ t=>rightE v d.params t) (fun k=>q40b10a (iv k) j (srow met) i (sv c.name) (tys c.args) (iv c.at_) (dts v.kj) (cls v.kc) (its v.ki) (sv d.name) (strs d.params) (cns d.cons) (strs d.deriv) (iv d.at_) a b) (1,[sv c.name,tys c.args,iv c.at_,dts v.kj,cls v.kc,its v.ki,sv d.name,strs d.params,cns d.cons,strs d.deriv,iv d.at_,a,b,j,.rows (srow met),i]) (fun e=>(0,[sv c.name,tys c.args,iv c.at_,dts v.kj,cls v.kc,its v.ki,sv d.name,strs d.params,cns d.cons,strs d.deriv,iv d.at_,iv e,iv c.at_,.rows (srow met)]))
  (fun k t ht hk _=>by
   rw[h40b10a,g40b10a]
   have hr:=right_r v hv.d d.params d2 t (c2 t (lMg ht))
   simp[idxK_tys ht,hk,hr,wL hk c1]
   unfold rightE
   by_cases hq:rightI v d.params t=0<;>simp[hq])
  (fun _=>by rw[h40b10a,g40b10a];simp)
 simp at h
 rw[h]
 unfold argF
 cases fe (fun _ t=>rightE v d.params t) c.args 0<;>rfl
theorem con_nil(d:Dt)(hd:d∈v.kj)(i a b:PV) :
  ev (q40b8a (iv 0) i (sv d.name) (strs d.params) (cns d.cons) (strs d.deriv) (iv d.at_) a b (dts v.kj) (cls v.kc) (its v.ki))=some (match runL (conG v d) d.cons 0 []with | .ok m=>(if m.length=0 then(1,[sv d.name,strs d.params,cns d.cons,strs d.deriv,iv d.at_,a,b,dts v.kj,cls v.kc,its v.ki,i,nilS]) else(2,[sv d.name,strs d.params,cns d.cons,strs d.deriv,iv d.at_,a,b,dts v.kj,cls v.kc,its v.ki,i,.rows (srow m)])) | .error (f,_)=>(0,[sv d.name,strs d.params,cns d.cons,strs d.deriv,iv d.at_,iv f.1,iv f.2,dts v.kj,cls v.kc,its v.ki])):=by
 obtain⟨d1,d2,d3⟩:=hv.dc d hd
 have hN:d.cons.length≤maxN:=by unfold maxN;omega
 have h:=ev_run d.cons (conG v d) (fun j m=>if m.length=0 then q40b8a (iv j) i (sv d.name) (strs d.params) (cns d.cons) (strs d.deriv) (iv d.at_) a b (dts v.kj) (cls v.kc) (its v.ki) else q40b8c (iv j) (srow m) i (sv d.name) (strs d.params) (cns d.cons) (strs d.deriv) (iv d.at_) a b (dts v.kj) (cls v.kc) (its v.ki))
  (fun m=>if m.length=0 then(1,[sv d.name,strs d.params,cns d.cons,strs d.deriv,iv d.at_,a,b,dts v.kj,cls v.kc,its v.ki,i,nilS]) else(2,[sv d.name,strs d.params,cns d.cons,strs d.deriv,iv d.at_,a,b,dts v.kj,cls v.kc,its v.ki,i,.rows (srow m)])) (fun e=>(0,[sv d.name,strs d.params,cns d.cons,strs d.deriv,iv d.at_,iv e.1.1,iv e.1.2,dts v.kj,cls v.kc,its v.ki])) (fun j m=>m.length=j)
  (fun j m c hc hj hI=>by
   have hml:m.length≤maxN:=by omega
   have hmem:=lMg hc
   unfold conG
   by_cases h0:m.length=0
   ·have hm:=List.length_eq_zero_iff.1 h0
    subst hm
    have hh:=has_srow [] hml c.name
    have hm:mem [] c.name=false:=rfl
    rw[hm,srow_nil]at hh
    rw[hm,if_neg (by simp)]
    have ha:=arg_r hv d hd c hmem [c.name] i (iv j) a b
    by_cases h60:60<(c.args.length:Int)
    ·rw[if_pos h60,if_pos h0,h40b8a,g40b8a];simp[idxK_cns hc,hj,hh,h60]
    ·rw[if_neg h60]
     have h60':¬60<c.args.length:=by omega
     cases hA:argF v d c with
     |some e=>rw[hA]at ha;simp only;rw[if_pos h0,h40b8a,g40b8a];simp[srow_one]at ha;simp[idxK_cns hc,hj,hh,h60,ha]
     |none=>rw[hA]at ha;simp only;refine⟨by simp[←hI],?_⟩;rw[if_pos h0,if_neg (by simp),h40b8a,g40b8a];simp[srow_one]at ha;simp[idxK_cns hc,hj,hh,h60,ha,wL hj hN,srow_one]
   ·have hh:=has_srow m hml c.name
    cases hm:mem m c.name with
    |true=>rw[hm]at hh;rw[if_pos rfl,if_neg h0,h40b8c,g40b8c];simp[idxK_cns hc,hj,hh]
    |false=>
     rw[hm]at hh
     rw[if_neg (by simp)]
     have ha:=arg_r hv d hd c hmem (m++[c.name]) i (iv j) a b
     by_cases h60:60<(c.args.length:Int)
     ·rw[if_pos h60,if_neg h0,h40b8c,g40b8c];simp[idxK_cns hc,hj,hh,appK_s m c.name (by omega),h60]
     ·rw[if_neg h60]
      have h60':¬60<c.args.length:=by omega
      cases hA:argF v d c with
      |some e=>rw[hA]at ha;simp only;rw[if_neg h0,h40b8c,g40b8c];simp[idxK_cns hc,hj,hh,appK_s m c.name (by omega),h60,ha]
      |none=>rw[hA]at ha;simp only;refine⟨by simp[hI],?_⟩;rw[if_neg h0,if_neg (by simp),h40b8c,g40b8c];simp[idxK_cns hc,hj,hh,appK_s m c.name (by omega),h60,ha,wL hj hN])
  (fun m hI=>by
   by_cases h0:m.length=0
   ·rw[if_pos h0,if_pos h0,h40b8a,g40b8a];simp
   ·rw[if_neg h0,if_neg h0,h40b8c,g40b8c];simp)
  [] rfl
 simp only[List.length_nil,if_true]at h
 simp at h
 rw[h]
 cases runL (conG v d) d.cons 0 []with
 |ok m=>simp
 |error e=>obtain⟨f,_⟩:=e;rfl
theorem con_tok(d:Dt)(hd:d∈v.kj)(met:List ByteArray)(hm0:met.length≤100000000)(i a b:PV) :
  ev (q40b8b (iv 0) (srow met) i (sv d.name) (strs d.params) (cns d.cons) (strs d.deriv) (iv d.at_) a b (dts v.kj) (cls v.kc) (its v.ki))=some (match runL (conG v d) d.cons 0 met with | .ok m=>(if m.length=met.length then 2 else 3,[sv d.name,strs d.params,cns d.cons,strs d.deriv,iv d.at_,a,b,dts v.kj,cls v.kc,its v.ki,i,.rows (srow m)]) | .error (f,m)=>(if m.length=met.length then(0,[sv d.name,strs d.params,cns d.cons,strs d.deriv,iv d.at_,iv f.1,iv f.2,dts v.kj,cls v.kc,its v.ki,.rows (srow met)]) else(1,[sv d.name,strs d.params,cns d.cons,strs d.deriv,iv d.at_,iv f.1,iv f.2,dts v.kj,cls v.kc,its v.ki]))):=by
 obtain⟨d1,d2,d3⟩:=hv.dc d hd
 have hN:d.cons.length≤maxN:=by unfold maxN;omega
 have h:=ev_run d.cons (conG v d) (fun j m=>if m.length=met.length then q40b8b (iv j) (srow m) i (sv d.name) (strs d.params) (cns d.cons) (strs d.deriv) (iv d.at_) a b (dts v.kj) (cls v.kc) (its v.ki) else q40b8d (iv j) (srow m) i (sv d.name) (strs d.params) (cns d.cons) (strs d.deriv) (iv d.at_) a b (dts v.kj) (cls v.kc) (its v.ki))
  (fun m=>(if m.length=met.length then 2 else 3,[sv d.name,strs d.params,cns d.cons,strs d.deriv,iv d.at_,a,b,dts v.kj,cls v.kc,its v.ki,i,.rows (srow m)])) (fun e=>if e.2.length=met.length then(0,[sv d.name,strs d.params,cns d.cons,strs d.deriv,iv d.at_,iv e.1.1,iv e.1.2,dts v.kj,cls v.kc,its v.ki,.rows (srow met)]) else(1,[sv d.name,strs d.params,cns d.cons,strs d.deriv,iv d.at_,iv e.1.1,iv e.1.2,dts v.kj,cls v.kc,its v.ki])) (fun j m=>m.length=met.length+j∧(j=0→m=met))
  (fun j m c hc hj hI=>by
   obtain⟨hI,hJ⟩:=hI
   have hml:m.length≤maxN:=by unfold maxN;omega
   have hmem:=lMg hc
   have hh:=has_srow m hml c.name
   have hne:¬(m++[c.name]).length=met.length:=by rw[List.length_append];simp;omega
   have ha:=arg_r hv d hd c hmem (m++[c.name]) i (iv j) a b
   unfold conG
   by_cases h0:m.length=met.length
   ·have hj0:j=0:=by omega
    have hmm:=hJ hj0
    cases hm:mem m c.name with
    |true=>rw[hm]at hh;rw[if_pos rfl];simp only;rw[if_pos h0,if_pos h0,h40b8b,g40b8b];simp[idxK_cns hc,hj,hh,hmm];rw[hmm]at hh;simp[hh]
    |false=>
     rw[hm]at hh
     rw[if_neg (by simp)]
     by_cases h60:60<(c.args.length:Int)
     ·rw[if_pos h60];simp only;rw[if_neg hne,if_pos h0,h40b8b,g40b8b];simp[idxK_cns hc,hj,hh,appK_s m c.name (by omega),h60]
     ·rw[if_neg h60]
      have h60':¬60<c.args.length:=by omega
      cases hA:argF v d c with
      |some e=>rw[hA]at ha;simp only;rw[if_neg hne,if_pos h0,h40b8b,g40b8b];simp[idxK_cns hc,hj,hh,appK_s m c.name (by omega),h60,ha]
      |none=>rw[hA]at ha;simp only;refine⟨⟨by simp;omega,fun e=>by omega⟩,?_⟩;rw[if_pos h0,if_neg hne,h40b8b,g40b8b];simp[idxK_cns hc,hj,hh,appK_s m c.name (by omega),h60,ha,wL hj hN]
   ·cases hm:mem m c.name with
    |true=>rw[hm]at hh;rw[if_pos rfl];simp only;rw[if_neg h0,if_neg h0,h40b8d,g40b8d];simp[idxK_cns hc,hj,hh]
    |false=>
     rw[hm]at hh
     rw[if_neg (by simp)]
     by_cases h60:60<(c.args.length:Int)
     ·rw[if_pos h60];simp only;rw[if_neg hne,if_neg h0,h40b8d,g40b8d];simp[idxK_cns hc,hj,hh,appK_s m c.name (by omega),h60]
     ·rw[if_neg h60]
      have h60':¬60<c.args.length:=by omega
      cases hA:argF v d c with
      |some e=>rw[hA]at ha;simp only;rw[if_neg hne,if_neg h0,h40b8d,g40b8d];simp[idxK_cns hc,hj,hh,appK_s m c.name (by omega),h60,ha]
      |none=>rw[hA]at ha;simp only;refine⟨⟨by simp;omega,fun e=>by omega⟩,?_⟩;rw[if_neg h0,if_neg hne,h40b8d,g40b8d];simp[idxK_cns hc,hj,hh,appK_s m c.name (by omega),h60,ha,wL hj hN])
  (fun m hI=>by
   by_cases h0:m.length=met.length
   ·rw[if_pos h0,if_pos h0,h40b8b,g40b8b];simp
   ·rw[if_neg h0,if_neg h0,h40b8d,g40b8d];simp)
  met ⟨rfl,fun _=>rfl⟩
 simp only[if_true]at h
 simp at h
 rw[h]
 cases runL (conG v d) d.cons 0 met with
 |ok m=>rfl
 |error e=>obtain⟨f,m⟩:=e;rfl
end
theorem mtS_nil:mtS []=.rows []:=rfl
section
variable{v:Ev}(hv:Fit v)
include hv
theorem par_nil(d:Dt)(hd:d∈v.kj)(i a b:PV):ev (q40b6a (iv 0) i (sv d.name) (strs d.params) (cns d.cons) (strs d.deriv) (iv d.at_) a b (dts v.kj) (cls v.kc) (its v.ki))=some (match parF d with|some f=>(0,[sv d.name,strs d.params,cns d.cons,strs d.deriv,iv d.at_,iv f.1,iv f.2,dts v.kj,cls v.kc,its v.ki])|none=>(1,[sv d.name,strs d.params,cns d.cons,strs d.deriv,iv d.at_,a,b,dts v.kj,cls v.kc,its v.ki,nilS,i])):=by
 obtain⟨d1,d2,d3⟩:=hv.dc d hd
 have h:=ev_first d.params (parE d) (fun k=>q40b6a (iv k) i (sv d.name) (strs d.params) (cns d.cons) (strs d.deriv) (iv d.at_) a b (dts v.kj) (cls v.kc) (its v.ki)) (1,[sv d.name,strs d.params,cns d.cons,strs d.deriv,iv d.at_,a,b,dts v.kj,cls v.kc,its v.ki,nilS,i]) (fun f=>(0,[sv d.name,strs d.params,cns d.cons,strs d.deriv,iv d.at_,iv f.1,iv f.2,dts v.kj,cls v.kc,its v.ki]))
  (fun k p hp hk _=>by
   rw[h40b6a,g40b6a]
   have hh:=has_strs (d.params.take k) (by rw[List.length_take];omega) p
   unfold parE
   cases hm:mem (d.params.take k) p<;>rw[hm]at hh<;>simp[idxK_strs hp,hk,slcK_strs (Nat.le_of_lt hk),hh,wL hk d2])
  (fun _=>by rw[h40b6a,g40b6a];simp)
 simp at h
 rw[h]
 unfold parF
 cases fe (parE d) d.params 0<;>rfl
theorem par_tok(d:Dt)(hd:d∈v.kj)(met:List ByteArray)(i a b:PV):ev (q40b6b (iv 0) (srow met) i (sv d.name) (strs d.params) (cns d.cons) (strs d.deriv) (iv d.at_) a b (dts v.kj) (cls v.kc) (its v.ki))=some (match parF d with|some f=>(0,[sv d.name,strs d.params,cns d.cons,strs d.deriv,iv d.at_,iv f.1,iv f.2,dts v.kj,cls v.kc,its v.ki,.rows (srow met)])|none=>(1,[sv d.name,strs d.params,cns d.cons,strs d.deriv,iv d.at_,a,b,dts v.kj,cls v.kc,its v.ki,.rows (srow met),i])):=by
 obtain⟨d1,d2,d3⟩:=hv.dc d hd
 have h:=ev_first d.params (parE d) (fun k=>q40b6b (iv k) (srow met) i (sv d.name) (strs d.params) (cns d.cons) (strs d.deriv) (iv d.at_) a b (dts v.kj) (cls v.kc) (its v.ki)) (1,[sv d.name,strs d.params,cns d.cons,strs d.deriv,iv d.at_,a,b,dts v.kj,cls v.kc,its v.ki,.rows (srow met),i]) (fun f=>(0,[sv d.name,strs d.params,cns d.cons,strs d.deriv,iv d.at_,iv f.1,iv f.2,dts v.kj,cls v.kc,its v.ki,.rows (srow met)]))
  (fun k p hp hk _=>by
   rw[h40b6b,g40b6b]
   have hh:=has_strs (d.params.take k) (by rw[List.length_take];omega) p
   unfold parE
   cases hm:mem (d.params.take k) p<;>rw[hm]at hh<;>simp[idxK_strs hp,hk,slcK_strs (Nat.le_of_lt hk),hh,wL hk d2])
  (fun _=>by rw[h40b6b,g40b6b];simp)
 simp at h
 rw[h]
 unfold parF
 cases fe (parE d) d.params 0<;>rfl
theorem datB_r:ev (q40b4a (iv 0) (dts v.kj) (cls v.kc) (its v.ki) (iv 0) (iv 0))=some (match datasB v with | .ok _=>(1,[dts v.kj,cls v.kc,its v.ki,iv 0,iv 0]) | .error (f,_)=>(0,[dts v.kj,cls v.kc,its v.ki,iv f.1,iv f.2])):=by
 have h:=ev_run v.kj (datG v) (fun i m=>if m.length=0 then q40b4a (iv i) (dts v.kj) (cls v.kc) (its v.ki) (iv 0) (iv 0) else q40b4b (iv i) (srow m) (dts v.kj) (cls v.kc) (its v.ki) (iv 0) (iv 0))
  (fun _=>(1,[dts v.kj,cls v.kc,its v.ki,iv 0,iv 0])) (fun e=>(0,[dts v.kj,cls v.kc,its v.ki,iv e.1.1,iv e.1.2])) (fun i m=>m.length≤i*4000)
  (fun i m d hd hi hI=>by
   have hmem:=lMg hd
   obtain⟨d1,d2,d3⟩:=hv.dc d hmem
   have hdl:=hv.dl
   have hm0:m.length≤100000000:=by have:i*4000≤4000*4000:=Nat.mul_le_mul_right _ (by omega);omega
   unfold datG
   by_cases h0:m.length=0
   ·have:=List.length_eq_zero_iff.1 h0
    subst this
    have hp:=par_nil hv d hmem (iv i) (iv 0) (iv 0)
    cases hP:parF d with
    |some f=>rw[hP]at hp;simp only;rw[if_pos h0,h40b4a,g40b4a];simp[idxK_dts hd,hi,hp]
    |none=>
     rw[hP]at hp
     have hc:=con_nil hv d hmem (iv i) (iv 0) (iv 0)
     simp only
     cases hr:runL (conG v d) d.cons 0 []with
     |error e=>obtain⟨f,m'⟩:=e;rw[hr]at hc;simp only;rw[if_pos h0,h40b4a,g40b4a];simp[idxK_dts hd,hi,hp,hc]
     |ok m'=>
      have hlen:=cons_len hr
      rw[hr]at hc
      simp only
      refine⟨by simp at hlen;omega,?_⟩
      rw[if_pos h0,h40b4a,g40b4a]
      by_cases h1:m'.length=0
      ·simp only[if_pos h1]at hc ⊢;simp[idxK_dts hd,hi,hp,hc,wL hi hv.d]
      ·simp only[if_neg h1]at hc ⊢;simp[idxK_dts hd,hi,hp,hc,wL hi hv.d]
   ·have hp:=par_tok hv d hmem m (iv i) (iv 0) (iv 0)
    cases hP:parF d with
    |some f=>rw[hP]at hp;simp only;rw[if_neg h0,h40b4b,g40b4b];simp[idxK_dts hd,hi,hp]
    |none=>
     rw[hP]at hp
     have hc:=con_tok hv d hmem m hm0 (iv i) (iv 0) (iv 0)
     simp only
     cases hr:runL (conG v d) d.cons 0 m with
     |error e=>
      obtain⟨f,m'⟩:=e
      rw[hr]at hc
      simp only at hc ⊢
      rw[if_neg h0,h40b4b,g40b4b]
      by_cases h1:m'.length=m.length
      ·rw[if_pos h1]at hc;simp[idxK_dts hd,hi,hp,hc]
      ·rw[if_neg h1]at hc;simp[idxK_dts hd,hi,hp,hc]
     |ok m'=>
      have hlen:=cons_len hr
      rw[hr]at hc
      simp only at hc ⊢
      refine⟨by omega,?_⟩
      have h2:¬m'.length=0:=by omega
      rw[if_neg h0,if_neg h2,h40b4b,g40b4b]
      by_cases h1:m'.length=m.length
      ·have hcn:d.cons=[]:=List.length_eq_zero_iff.1 (by omega)
       have hmm:m'=m:=by rw[hcn]at hr;cases hr;rfl
       rw[if_pos h1,hmm]at hc
       rw[hmm]
       simp[idxK_dts hd,hi,hp,hc,wL hi hv.d]
      ·rw[if_neg h1]at hc;simp[idxK_dts hd,hi,hp,hc,wL hi hv.d])
  (fun m hI=>by
   by_cases h0:m.length=0
   ·rw[if_pos h0,h40b4a,g40b4a];simp
   ·rw[if_neg h0,h40b4b,g40b4b];simp)
  [] (Nat.zero_le _)
 simp only[List.length_nil,if_true]at h
 simp at h
 rw[h]
 unfold datasB
 cases runL (datG v) v.kj 0 []with
 |ok m=>rfl
 |error e=>obtain⟨f,m⟩:=e;rfl
theorem datas_r:ev (q40 (dts v.kj) (cls v.kc) (its v.ki))=some (0,match datasF v with|some (e,a)=>[iv e,iv a]|none=>[iv 0,iv 0]):=by
 refine Evl.of ?_
 rw[h40,g40]
 have ha:=datA_r hv
 have hb:=datB_r hv
 unfold datasF
 cases hA:datasA v with
 |some f=>obtain⟨e,x⟩:=f;rw[hA]at ha;simp[ha]
 |none=>
  rw[hA]at ha
  cases hB:datasB v with
  |ok m=>rw[hB]at hb;simp[ha,hb]
  |error e=>obtain⟨⟨e,x⟩,m⟩:=e;rw[hB]at hb;simp[ha,hb]
theorem datA_p(m:PV):ev (q75ab0a (iv 0) (iv v.kj.length) (dts v.kj) (dts v.kj) (cls v.kc) (its v.ki) m)=some (match datasA v with|some (e,a)=>(0,[dts v.kj,cls v.kc,its v.ki,m,iv e,iv a])|none=>(1,[dts v.kj,cls v.kc,its v.ki,m])):=by
 have h:=ev_first v.kj (datE v) (fun i=>q75ab0a (iv i) (iv v.kj.length) (dts v.kj) (dts v.kj) (cls v.kc) (its v.ki) m) (1,[dts v.kj,cls v.kc,its v.ki,m]) (fun f=>(0,[dts v.kj,cls v.kc,its v.ki,m,iv f.1,iv f.2]))
  (fun i d hd hi _=>by
   rw[h75ab0a,g75ab0a]
   have hf:=find_dt2 (v.kj.take i) (by rw[List.length_take];exact Nat.le_trans (Nat.min_le_right ..) hv.d) d
   rw[fi_any]at hf
   unfold datE
   by_cases h0:0≤baseI d.name
   ·cases hm:(v.kj.take i).any (isDt d.name)<;>rw[hm]at hf<;>simp[idxK_dts hd,hi,base_ok,h0,slcK_dts (Nat.le_of_lt hi),hf,need_f]
   ·cases hm:(v.kj.take i).any (isDt d.name)<;>rw[hm]at hf<;>simp[idxK_dts hd,hi,base_ok,h0,slcK_dts (Nat.le_of_lt hi),hf,need_f,need_t,wL hi hv.d])
  (fun _=>by rw[h75ab0a,g75ab0a];simp)
 simp at h
 rw[h]
 unfold datasA
 cases fe (datE v) v.kj 0<;>rfl
theorem par_p(d:Dt)(hd:d∈v.kj)(a b c met m:PV):ev (q75ab4a (iv 0) (iv d.params.length) (strs d.params) a b c (sv d.name) (strs d.params) (cns d.cons) (strs d.deriv) (iv d.at_) met (dts v.kj) (cls v.kc) (its v.ki) m)=some (match parF d with|some f=>(0,[sv d.name,strs d.params,cns d.cons,strs d.deriv,iv d.at_,met,dts v.kj,cls v.kc,its v.ki,m,iv f.1,iv f.2])|none=>(1,[sv d.name,strs d.params,cns d.cons,strs d.deriv,iv d.at_,met,dts v.kj,cls v.kc,its v.ki,m,a,b,c])):=by
 obtain⟨d1,d2,d3⟩:=hv.dc d hd
 have h:=ev_first d.params (parE d) (fun k=>q75ab4a (iv k) (iv d.params.length) (strs d.params) a b c (sv d.name) (strs d.params) (cns d.cons) (strs d.deriv) (iv d.at_) met (dts v.kj) (cls v.kc) (its v.ki) m) (1,[sv d.name,strs d.params,cns d.cons,strs d.deriv,iv d.at_,met,dts v.kj,cls v.kc,its v.ki,m,a,b,c]) (fun f=>(0,[sv d.name,strs d.params,cns d.cons,strs d.deriv,iv d.at_,met,dts v.kj,cls v.kc,its v.ki,m,iv f.1,iv f.2]))
  (fun k p hp hk _=>by
   rw[h75ab4a,g75ab4a]
   have hh:=contains_strs (d.params.take k) (by rw[List.length_take];omega) p
   unfold parE
   cases hm:mem (d.params.take k) p<;>rw[hm]at hh<;>simp[idxK_strs hp,hk,slcK_strs (Nat.le_of_lt hk),hh,need_t,need_f,wL hk d2])
  (fun _=>by rw[h75ab4a,g75ab4a];simp)
 simp at h
 rw[h]
 unfold parF
 cases fe (parE d) d.params 0<;>rfl
theorem arg_p(d:Dt)(hd:d∈v.kj)(c:Cn)(hc:c∈d.cons)(a1 a2 a3 a4 a5 a6 m met:PV) :
  ev (q75ab8a (iv 0) (iv c.args.length) (tys c.args) a1 a2 a3 a4 a5 a6 (dts v.kj) (cls v.kc) (its v.ki) m (sv d.name) (strs d.params) (cns d.cons) (strs d.deriv) (iv d.at_) (sv c.name) (tys c.args) (iv c.at_) met)=some (match argF v d c with|some e=>(0,[dts v.kj,cls v.kc,its v.ki,m,sv d.name,strs d.params,cns d.cons,strs d.deriv,iv d.at_,sv c.name,tys c.args,iv c.at_,met,iv e,iv c.at_])|none=>(1,[dts v.kj,cls v.kc,its v.ki,m,sv d.name,strs d.params,cns d.cons,strs d.deriv,iv d.at_,sv c.name,tys c.args,iv c.at_,met,a1,a2,a3,a4,a5,a6])):=by
 obtain⟨d1,d2,d3⟩:=hv.dc d hd
 obtain⟨c1,c2⟩:=d3 c hc
 have h:=ev_first c.args (fun _ t=>rightE v d.params t) (fun k=>q75ab8a (iv k) (iv c.args.length) (tys c.args) a1 a2 a3 a4 a5 a6 (dts v.kj) (cls v.kc) (its v.ki) m (sv d.name) (strs d.params) (cns d.cons) (strs d.deriv) (iv d.at_) (sv c.name) (tys c.args) (iv c.at_) met) (1,[dts v.kj,cls v.kc,its v.ki,m,sv d.name,strs d.params,cns d.cons,strs d.deriv,iv d.at_,sv c.name,tys c.args,iv c.at_,met,a1,a2,a3,a4,a5,a6]) (fun e=>(0,[dts v.kj,cls v.kc,its v.ki,m,sv d.name,strs d.params,cns d.cons,strs d.deriv,iv d.at_,sv c.name,tys c.args,iv c.at_,met,iv e,iv c.at_]))
  (fun k t ht hk _=>by
   rw[h75ab8a,g75ab8a]
   have hr:=right_p v hv.d d.params d2 t (c2 t (lMg ht))
   simp[idxK_tys ht,hk,hr,wL hk c1,need_t,need_f]
   unfold rightE
   by_cases hq:rightI v d.params t=0<;>simp[hq])
  (fun _=>by rw[h75ab8a,g75ab8a];simp)
 simp at h
 rw[h]
 unfold argF
 cases fe (fun _ t=>rightE v d.params t) c.args 0<;>rfl
theorem con_p(d:Dt)(hd:d∈v.kj)(met:List ByteArray)(a b c0 m:PV) :
  ev (q75ab6a (iv 0) (iv d.cons.length) (cns d.cons) a b c0 (mtS met) (dts v.kj) (cls v.kc) (its v.ki) m (sv d.name) (strs d.params) (cns d.cons) (strs d.deriv) (iv d.at_))=some (match runL (conG v d) d.cons 0 met with | .ok met'=>(1,[mtS met',dts v.kj,cls v.kc,its v.ki,m,sv d.name,strs d.params,cns d.cons,strs d.deriv,iv d.at_,a,b,c0]) | .error (f,met')=>(0,[mtS met',dts v.kj,cls v.kc,its v.ki,m,sv d.name,strs d.params,cns d.cons,strs d.deriv,iv d.at_,iv f.1,iv f.2])):=by
 obtain⟨d1,d2,d3⟩:=hv.dc d hd
 have hN:d.cons.length≤maxN:=by unfold maxN;omega
 have h:=ev_run d.cons (conG v d) (fun j met=>q75ab6a (iv j) (iv d.cons.length) (cns d.cons) a b c0 (mtS met) (dts v.kj) (cls v.kc) (its v.ki) m (sv d.name) (strs d.params) (cns d.cons) (strs d.deriv) (iv d.at_))
  (fun met'=>(1,[mtS met',dts v.kj,cls v.kc,its v.ki,m,sv d.name,strs d.params,cns d.cons,strs d.deriv,iv d.at_,a,b,c0])) (fun e=>(0,[mtS e.2,dts v.kj,cls v.kc,its v.ki,m,sv d.name,strs d.params,cns d.cons,strs d.deriv,iv d.at_,iv e.1.1,iv e.1.2])) (fun _ _=>True)
  (fun j met c hc hj _=>by
   have hmem:=lMg hc
   have ha:=arg_p hv d hd c hmem (iv j) (iv d.cons.length) (cns d.cons) a b c0 m (mtS (met++[c.name]))
   unfold conG
   cases hm:mem met c.name with
   |true=>rw[if_pos rfl,h75ab6a,g75ab6a];simp[idxK_cns hc,hj,lookK_S,hm,need_f]
   |false=>
    rw[if_neg (by simp)]
    have hu:=fun kk=>updK_S (β:=Res) (d:=.fail) (k:=kk) met c.name hm
    by_cases h60:60<(c.args.length:Int)
    ·have h60':¬(c.args.length:Int)≤60:=by omega
     rw[if_pos h60,h75ab6a,g75ab6a];simp[idxK_cns hc,hj,lookK_S,hm,need_t,need_f,hu,h60']
    ·have h60':(c.args.length:Int)≤60:=by omega
     rw[if_neg h60]
     cases hA:argF v d c with
     |some e=>rw[hA]at ha;simp only;rw[h75ab6a,g75ab6a];simp[idxK_cns hc,hj,lookK_S,hm,need_t,need_f,hu,h60',ha]
     |none=>rw[hA]at ha;simp only;refine⟨trivial,?_⟩;rw[h75ab6a,g75ab6a];simp[idxK_cns hc,hj,lookK_S,hm,need_t,need_f,hu,h60',ha,wL hj hN])
  (fun met _=>by rw[h75ab6a,g75ab6a];simp)
  met trivial
 simp at h
 rw[h]
 cases runL (conG v d) d.cons 0 met with
 |ok m=>rfl
 |error e=>obtain⟨f,m⟩:=e;rfl
theorem datB_p(m:PV):ev (q75ab2a (iv 0) (iv v.kj.length) (dts v.kj) (mtS []) (dts v.kj) (cls v.kc) (its v.ki) m)=some (match datasB v with | .ok met=>(1,[mtS met,dts v.kj,cls v.kc,its v.ki,m]) | .error (f,met)=>(0,[mtS met,dts v.kj,cls v.kc,its v.ki,m,iv f.1,iv f.2])):=by
 have h:=ev_run v.kj (datG v) (fun i met=>q75ab2a (iv i) (iv v.kj.length) (dts v.kj) (mtS met) (dts v.kj) (cls v.kc) (its v.ki) m)
  (fun met=>(1,[mtS met,dts v.kj,cls v.kc,its v.ki,m])) (fun e=>(0,[mtS e.2,dts v.kj,cls v.kc,its v.ki,m,iv e.1.1,iv e.1.2])) (fun _ _=>True)
  (fun i met d hd hi _=>by
   have hmem:=lMg hd
   have hp:=par_p hv d hmem (iv i) (iv v.kj.length) (dts v.kj) (mtS met) m
   have hc:=con_p hv d hmem met (iv i) (iv v.kj.length) (dts v.kj) m
   unfold datG
   cases hP:parF d with
   |some f=>rw[hP]at hp;simp only;rw[h75ab2a,g75ab2a];simp[idxK_dts hd,hi,hp]
   |none=>
    rw[hP]at hp
    simp only
    cases hr:runL (conG v d) d.cons 0 met with
    |error e=>obtain⟨f,m'⟩:=e;rw[hr]at hc;simp only;rw[h75ab2a,g75ab2a];simp[idxK_dts hd,hi,hp,hc]
    |ok m'=>rw[hr]at hc;simp only;refine⟨trivial,?_⟩;rw[h75ab2a,g75ab2a];simp[idxK_dts hd,hi,hp,hc,wL hi hv.d])
  (fun met _=>by rw[h75ab2a,g75ab2a];simp)
  [] trivial
 simp at h
 rw[h]
 unfold datasB
 cases runL (datG v) v.kj 0 []with
 |ok m=>rfl
 |error e=>obtain⟨f,m⟩:=e;rfl
theorem datas_p(m:PV):ev (q75a (dts v.kj) (cls v.kc) (its v.ki) m)=some (match datasF v with|some (e,a)=>(1,[dts v.kj,cls v.kc,its v.ki,m,iv e,iv a])|none=>(0,[dts v.kj,cls v.kc,its v.ki,m])):=by
 refine Evl.of ?_
 rw[h75a,g75a]
 have ha:=datA_p hv m
 have hb:=datB_p hv m
 rw[mtS_nil]at hb
 unfold datasF
 cases hA:datasA v with
 |some f=>obtain⟨e,x⟩:=f;rw[hA]at ha;simp[ha]
 |none=>
  rw[hA]at ha
  cases hB:datasB v with
  |ok m=>rw[hB]at hb;simp[ha,hb]
  |error e=>obtain⟨⟨e,x⟩,m⟩:=e;rw[hB]at hb;simp[ha,hb]
end
theorem take1{α:Type}{l:List α}{i:Nat}{a:α}(h:l[i]?=some a):l.take (i+1)=l.take i++[a]:=by rw[List.take_add_one,h];rfl
theorem mem_cls(l:List Cl)(s:ByteArray):mem (l.map Cl.name) s=l.any (isCl s):=mem_map _ _ _
def clsE(v:Ev)(i:Nat)(c:Cl):Option Flt:=if(v.kc.take i).any (isCl c.name)=true then some (120,c.at_) else none
def clsA(v:Ev):Option Flt:=fe (clsE v) v.kc 0
def supE(v:Ev)(c:Cl)(k:Nat)(s:ByteArray):Option Flt:=if v.kc.any (isCl s)=true then(if mem (c.supers.take k) s=true then some (120,c.at_) else none) else some (121,c.at_)
def supF(v:Ev)(c:Cl):Option Flt:=fe (supE v c) c.supers 0
def clsB(v:Ev):Option Flt:=fe (fun _ c=>supF v c) v.kc 0
def clsC(v:Ev)(n:Nat):Option Flt:=fe (fun _ c=>if mem (abv v n c.name) c.name=true then some ((124:Int),c.at_) else none) v.kc 0
def metE(v:Ev)(c:Cl)(m:Md):Option Int:=if rightI v [c.var] m.t=0 then(if hasV m.t=true then none else some 123) else some (rightI v [c.var] m.t)
def metG(v:Ev)(c:Cl)(_:Nat)(known:List ByteArray)(m:Md):Except (Flt×List ByteArray) (List ByteArray):=
 if mem known m.name=true then .error ((120,m.at_),known) else match metE v c m with
  |some e=>.error ((e,m.at_),known++[m.name])
  |none=>.ok (known++[m.name])
def clsG(v:Ev)(_:Nat)(known:List ByteArray)(c:Cl):Except (Flt×List ByteArray) (List ByteArray):=match runL (metG v c) c.methods 0 known with
 |.error e=>.error e
 |.ok k=>match bindsF c c.defaults with
  |some f=>.error (f,k)
  |none=>.ok k
def clsD(v:Ev):Except (Flt×List ByteArray) (List ByteArray):=runL (clsG v) v.kc 0 []
def classesF(v:Ev)(n:Nat):Option Flt:=match clsA v with
 |some f=>some f
 |none=>match clsB v with
  |some f=>some f
  |none=>match clsC v n with
   |some f=>some f
   |none=>match clsD v with
    |.error (f,_)=>some f
    |.ok _=>none
theorem metG_len{v:Ev}{c:Cl}{i:Nat}{k k':List ByteArray}{m:Md}(h:metG v c i k m=.ok k'):k'.length=k.length+1:=by
 unfold metG at h
 split at h
 ·cases h
 ·split at h
  ·cases h
  ·cases h;simp
theorem mets_len{v:Ev}{c:Cl}{k k':List ByteArray}(h:runL (metG v c) c.methods 0 k=.ok k'):k'.length=k.length+c.methods.length:=by
 have:=runL_inv (metG v c) (fun i s=>s.length=k.length+i) c.methods 0 k k' (fun j s a s' _ hI hg=>by rw[metG_len hg,hI];omega) rfl h
 simpa using this
section
variable{v:Ev}{U:List ByteArray}{n:Nat}(hB:Big v U n)(hv:Fit v)
include hB hv
theorem clA_r:ev (q41b0a (iv 0) (dts v.kj) (cls v.kc) (its v.ki) (iv 0) (iv 0))=some (match clsA v with|some (e,a)=>(0,[dts v.kj,cls v.kc,its v.ki,iv e,iv a])|none=>if v.kc.length=0 then(1,[dts v.kj,cls v.kc,its v.ki,iv 0,iv 0,nilS]) else(2,[dts v.kj,cls v.kc,its v.ki,iv 0,iv 0,.rows (srow (v.kc.map Cl.name))])):=by
 have hcl:=hv.cl
 have h:=ev_first v.kc (clsE v) (fun i=>if i=0 then q41b0a (iv i) (dts v.kj) (cls v.kc) (its v.ki) (iv 0) (iv 0) else q41b0b (iv i) (srow ((v.kc.take i).map Cl.name)) (dts v.kj) (cls v.kc) (its v.ki) (iv 0) (iv 0))
  (if v.kc.length=0 then(1,[dts v.kj,cls v.kc,its v.ki,iv 0,iv 0,nilS]) else(2,[dts v.kj,cls v.kc,its v.ki,iv 0,iv 0,.rows (srow (v.kc.map Cl.name))])) (fun f=>(0,[dts v.kj,cls v.kc,its v.ki,iv f.1,iv f.2]))
  (fun i c hc hi _=>by
   have hlen:((v.kc.take i).map Cl.name).length=i:=by rw[List.length_map,List.length_take];omega
   have hh:=has_srow ((v.kc.take i).map Cl.name) (by rw[hlen];unfold maxN;omega) c.name
   rw[mem_cls]at hh
   have ht:(v.kc.take (i+1)).map Cl.name=(v.kc.take i).map Cl.name++[c.name]:=by rw[take1 hc,List.map_append];rfl
   unfold clsE
   rw[if_neg (Nat.succ_ne_zero i),ht]
   by_cases h0:i=0
   ·have e0:(v.kc.take i).map Cl.name=[]:=List.length_eq_zero_iff.1 (by omega)
    rw[if_pos h0,h41b0a,g41b0a]
    rw[e0]at hh ⊢
    have e1:(v.kc.take i).any (isCl c.name)=false:=by rw[←mem_cls,e0];rfl
    rw[e1,srow_nil]at hh
    rw[e1]
    simp[idxK_cls hc,hi,hh,wL hi hv.c,srow_one]
   ·rw[if_neg h0,h41b0b,g41b0b]
    cases hm:(v.kc.take i).any (isCl c.name)<;>rw[hm]at hh<;>simp[-List.map_take,idxK_cls hc,hi,hh,wL hi hv.c,appK_s ((v.kc.take i).map Cl.name) c.name (by omega)])
  (fun _=>by
   by_cases h0:v.kc.length=0
   ·rw[if_pos h0,if_pos h0,h41b0a,g41b0a];simp
   ·rw[if_neg h0,if_neg h0,h41b0b,g41b0b];simp)
 refine Eq.trans h ?_
 unfold clsA
 cases fe (clsE v) v.kc 0<;>rfl
theorem sup_tok(c:Cl)(hc:c∈v.kc)(i a b:PV):ev (q41b4b (iv 0) (srow (v.kc.map Cl.name)) i (sv c.name) (sv c.var) (strs c.supers) (mds c.methods) (bds c.defaults) (iv c.at_) a b (dts v.kj) (cls v.kc) (its v.ki))=some (match supF v c with|some f=>(0,[sv c.name,sv c.var,strs c.supers,mds c.methods,bds c.defaults,iv c.at_,iv f.1,iv f.2,dts v.kj,cls v.kc,its v.ki,.rows (srow (v.kc.map Cl.name))])|none=>(1,[sv c.name,sv c.var,strs c.supers,mds c.methods,bds c.defaults,iv c.at_,a,b,dts v.kj,cls v.kc,its v.ki,i,.rows (srow (v.kc.map Cl.name))])):=by
 obtain⟨c1,c2,c3⟩:=hv.cm c hc
 have hlen:(v.kc.map Cl.name).length≤maxN:=by rw[List.length_map];exact hv.c
 have h:=ev_first c.supers (supE v c) (fun k=>q41b4b (iv k) (srow (v.kc.map Cl.name)) i (sv c.name) (sv c.var) (strs c.supers) (mds c.methods) (bds c.defaults) (iv c.at_) a b (dts v.kj) (cls v.kc) (its v.ki)) (1,[sv c.name,sv c.var,strs c.supers,mds c.methods,bds c.defaults,iv c.at_,a,b,dts v.kj,cls v.kc,its v.ki,i,.rows (srow (v.kc.map Cl.name))]) (fun f=>(0,[sv c.name,sv c.var,strs c.supers,mds c.methods,bds c.defaults,iv c.at_,iv f.1,iv f.2,dts v.kj,cls v.kc,its v.ki,.rows (srow (v.kc.map Cl.name))]))
  (fun k s hs hk _=>by
   rw[h41b4b,g41b4b]
   have h1:=has_srow (v.kc.map Cl.name) hlen s
   rw[mem_cls]at h1
   have h2:=has_strs (c.supers.take k) (by rw[List.length_take];omega) s
   unfold supE
   cases hA:v.kc.any (isCl s) with
   |false=>rw[hA]at h1;simp[idxK_strs hs,hk,h1]
   |true=>
    rw[hA]at h1
    cases hm:mem (c.supers.take k) s<;>rw[hm]at h2<;>simp[idxK_strs hs,hk,h1,slcK_strs (Nat.le_of_lt hk),h2,wL hk c2])
  (fun _=>by rw[h41b4b,g41b4b];simp)
 simp at h
 rw[h]
 unfold supF
 cases fe (supE v c) c.supers 0<;>rfl
theorem clB_r:ev (q41b2b (iv 0) (srow (v.kc.map Cl.name)) (dts v.kj) (cls v.kc) (its v.ki) (iv 0) (iv 0))=some (match clsB v with|some (e,a)=>(0,[dts v.kj,cls v.kc,its v.ki,iv e,iv a,.rows (srow (v.kc.map Cl.name))])|none=>(1,[dts v.kj,cls v.kc,its v.ki,iv 0,iv 0,.rows (srow (v.kc.map Cl.name))])):=by
 have h:=ev_first v.kc (fun _ c=>supF v c) (fun i=>q41b2b (iv i) (srow (v.kc.map Cl.name)) (dts v.kj) (cls v.kc) (its v.ki) (iv 0) (iv 0)) (1,[dts v.kj,cls v.kc,its v.ki,iv 0,iv 0,.rows (srow (v.kc.map Cl.name))]) (fun f=>(0,[dts v.kj,cls v.kc,its v.ki,iv f.1,iv f.2,.rows (srow (v.kc.map Cl.name))]))
  (fun i c hc hi _=>by
   rw[h41b2b,g41b2b]
   have hs:=sup_tok hB hv c (lMg hc) (iv i) (iv 0) (iv 0)
   cases hF:supF v c with
   |none=>rw[hF]at hs;simp at hs;simp[idxK_cls hc,hi,hs,wL hi hv.c]
   |some f=>rw[hF]at hs;simp at hs;simp[idxK_cls hc,hi,hs])
  (fun _=>by rw[h41b2b,g41b2b];simp)
 simp at h
 rw[h]
 unfold clsB
 cases fe (fun _ c=>supF v c) v.kc 0<;>rfl
theorem clC_r:ev (q41b6a (iv 0) (dts v.kj) (cls v.kc) (its v.ki) (iv 0) (iv 0))=some (match clsC v n with|some (e,a)=>(0,[dts v.kj,cls v.kc,its v.ki,iv e,iv a])|none=>(1,[dts v.kj,cls v.kc,its v.ki,iv 0,iv 0])):=by
 have h:=ev_first v.kc (fun _ c=>if mem (abv v n c.name) c.name=true then some ((124:Int),c.at_) else none) (fun i=>q41b6a (iv i) (dts v.kj) (cls v.kc) (its v.ki) (iv 0) (iv 0)) (1,[dts v.kj,cls v.kc,its v.ki,iv 0,iv 0]) (fun f=>(0,[dts v.kj,cls v.kc,its v.ki,iv f.1,iv f.2]))
  (fun i c hc hi _=>by
   rw[h41b6a,g41b6a]
   have ha:=above_r hB.s n c.name hB.c hB.m
   have hm:=has_strs (abv v n c.name) (hB.len c.name) c.name
   unfold abv at hm ⊢
   cases hq:mem (upN v (n+1) [] c.name) c.name<;>rw[hq]at hm<;>simp[idxK_cls hc,hi,ha,hm,wL hi hv.c])
  (fun _=>by rw[h41b6a,g41b6a];simp)
 simp at h
 rw[h]
 unfold clsC
 cases fe (fun _ c=>if mem (abv v n c.name) c.name=true then some ((124:Int),c.at_) else none) v.kc 0<;>rfl
theorem met_nil(c:Cl)(hc:c∈v.kc)(i a b:PV) :
  ev (q41b10a (iv 0) i (sv c.name) (sv c.var) (strs c.supers) (mds c.methods) (bds c.defaults) (iv c.at_) a b (dts v.kj) (cls v.kc) (its v.ki))=some (match runL (metG v c) c.methods 0 []with | .ok m=>(if m.length=0 then(1,[sv c.name,sv c.var,strs c.supers,mds c.methods,bds c.defaults,iv c.at_,a,b,dts v.kj,cls v.kc,its v.ki,i,nilS]) else(2,[sv c.name,sv c.var,strs c.supers,mds c.methods,bds c.defaults,iv c.at_,a,b,dts v.kj,cls v.kc,its v.ki,i,.rows (srow m)])) | .error (f,_)=>(0,[sv c.name,sv c.var,strs c.supers,mds c.methods,bds c.defaults,iv c.at_,iv f.1,iv f.2,dts v.kj,cls v.kc,its v.ki])):=by
 obtain⟨c1,c2,c3⟩:=hv.cm c hc
 have hN:c.methods.length≤maxN:=by unfold maxN;omega
 have h:=ev_run c.methods (metG v c) (fun k m=>if m.length=0 then q41b10a (iv k) i (sv c.name) (sv c.var) (strs c.supers) (mds c.methods) (bds c.defaults) (iv c.at_) a b (dts v.kj) (cls v.kc) (its v.ki) else q41b10c (iv k) (srow m) i (sv c.name) (sv c.var) (strs c.supers) (mds c.methods) (bds c.defaults) (iv c.at_) a b (dts v.kj) (cls v.kc) (its v.ki))
  (fun m=>if m.length=0 then(1,[sv c.name,sv c.var,strs c.supers,mds c.methods,bds c.defaults,iv c.at_,a,b,dts v.kj,cls v.kc,its v.ki,i,nilS]) else(2,[sv c.name,sv c.var,strs c.supers,mds c.methods,bds c.defaults,iv c.at_,a,b,dts v.kj,cls v.kc,its v.ki,i,.rows (srow m)])) (fun e=>(0,[sv c.name,sv c.var,strs c.supers,mds c.methods,bds c.defaults,iv c.at_,iv e.1.1,iv e.1.2,dts v.kj,cls v.kc,its v.ki])) (fun k m=>m.length=k)
  (fun k kn m hm hk hI=>by
   have hml:kn.length≤maxN:=by omega
   obtain⟨c4,c5⟩:=c3 m (lMg hm)
   have hvr:=vars_raw m.t c4 c5
   have hr:=right_r v hv.d [c.var] (by simp[maxN]) m.t c4
   rw[show strs [c.var]=.rows [[sv c.var]] from rfl]at hr
   have hh:=has_srow kn hml m.name
   unfold metG
   by_cases h0:kn.length=0
   ·have hkn:=List.length_eq_zero_iff.1 h0
    subst hkn
    have hmm:mem [] m.name=false:=rfl
    rw[hmm,srow_nil]at hh
    rw[hmm,if_neg (by simp)]
    unfold metE
    by_cases hR:rightI v [c.var] m.t=0
    ·rw[hR]at hr
     cases hV:hasV m.t with
     |false=>rw[if_pos ((vars_none m.t).2 hV)]at hvr;simp only[hR,hV,if_true,if_false,Bool.false_eq_true];rw[if_pos h0,h41b10a,g41b10a];simp[idxK_mds hm,hk,hh,hR,hr,hvr]
     |true=>
      have hn0:¬(varsT m.t).length=0:=fun e=>by rw[(vars_none m.t).1 e]at hV;cases hV
      have hn1:varsT m.t≠[]:=fun e=>hn0 (by rw[e];rfl)
      rw[if_neg hn0]at hvr;simp only[hR,hV,if_true];refine⟨by simp[←hI],?_⟩;rw[if_pos h0,if_neg (by simp),h41b10a,g41b10a];simp[idxK_mds hm,hk,hh,hR,hr,hvr,lenK_srow,hn1,wL hk hN,srow_one]
    ·simp only[hR,if_false];rw[if_pos h0,h41b10a,g41b10a];simp[idxK_mds hm,hk,hh,hR,hr]
   ·cases hmm:mem kn m.name with
    |true=>rw[hmm]at hh;rw[if_pos rfl,if_neg h0,h41b10c,g41b10c];simp[idxK_mds hm,hk,hh]
    |false=>
     rw[hmm]at hh
     rw[if_neg (by simp)]
     unfold metE
     by_cases hR:rightI v [c.var] m.t=0
     ·rw[hR]at hr
      cases hV:hasV m.t with
      |false=>rw[if_pos ((vars_none m.t).2 hV)]at hvr;simp only[hR,hV,if_true,if_false,Bool.false_eq_true];rw[if_neg h0,h41b10c,g41b10c];simp[idxK_mds hm,hk,hh,hR,hr,hvr,appK_s kn m.name (by omega)]
      |true=>
       have hn0:¬(varsT m.t).length=0:=fun e=>by rw[(vars_none m.t).1 e]at hV;cases hV
       have hn1:varsT m.t≠[]:=fun e=>hn0 (by rw[e];rfl)
       rw[if_neg hn0]at hvr;simp only[hR,hV,if_true];refine⟨by simp[hI],?_⟩;rw[if_neg h0,if_neg (by simp),h41b10c,g41b10c];simp[idxK_mds hm,hk,hh,hR,hr,hvr,lenK_srow,hn1,wL hk hN,srow_one,appK_s kn m.name (by omega)]
     ·simp only[hR,if_false];rw[if_neg h0,h41b10c,g41b10c];simp[idxK_mds hm,hk,hh,hR,hr,appK_s kn m.name (by omega)])
  (fun m hI=>by
   by_cases h0:m.length=0
   ·rw[if_pos h0,if_pos h0,h41b10a,g41b10a];simp
   ·rw[if_neg h0,if_neg h0,h41b10c,g41b10c];simp)
  [] rfl
 simp only[List.length_nil,if_true]at h
 simp at h
 rw[h]
 cases runL (metG v c) c.methods 0 []with
 |ok m=>simp
 |error e=>obtain⟨f,_⟩:=e;rfl
theorem met_tok(c:Cl)(hc:c∈v.kc)(met:List ByteArray)(hm0:met.length≤100000000)(i a b:PV) :
  ev (q41b10b (iv 0) (srow met) i (sv c.name) (sv c.var) (strs c.supers) (mds c.methods) (bds c.defaults) (iv c.at_) a b (dts v.kj) (cls v.kc) (its v.ki))=some (match runL (metG v c) c.methods 0 met with | .ok m=>(if m.length=met.length then 2 else 3,[sv c.name,sv c.var,strs c.supers,mds c.methods,bds c.defaults,iv c.at_,a,b,dts v.kj,cls v.kc,its v.ki,i,.rows (srow m)]) | .error (f,m)=>(if m.length=met.length then(0,[sv c.name,sv c.var,strs c.supers,mds c.methods,bds c.defaults,iv c.at_,iv f.1,iv f.2,dts v.kj,cls v.kc,its v.ki,.rows (srow met)]) else(1,[sv c.name,sv c.var,strs c.supers,mds c.methods,bds c.defaults,iv c.at_,iv f.1,iv f.2,dts v.kj,cls v.kc,its v.ki]))):=by
 obtain⟨c1,c2,c3⟩:=hv.cm c hc
 have hN:c.methods.length≤maxN:=by unfold maxN;omega
 have h:=ev_run c.methods (metG v c) (fun k m=>if m.length=met.length then q41b10b (iv k) (srow m) i (sv c.name) (sv c.var) (strs c.supers) (mds c.methods) (bds c.defaults) (iv c.at_) a b (dts v.kj) (cls v.kc) (its v.ki) else q41b10d (iv k) (srow m) i (sv c.name) (sv c.var) (strs c.supers) (mds c.methods) (bds c.defaults) (iv c.at_) a b (dts v.kj) (cls v.kc) (its v.ki))
  (fun m=>(if m.length=met.length then 2 else 3,[sv c.name,sv c.var,strs c.supers,mds c.methods,bds c.defaults,iv c.at_,a,b,dts v.kj,cls v.kc,its v.ki,i,.rows (srow m)])) (fun e=>if e.2.length=met.length then(0,[sv c.name,sv c.var,strs c.supers,mds c.methods,bds c.defaults,iv c.at_,iv e.1.1,iv e.1.2,dts v.kj,cls v.kc,its v.ki,.rows (srow met)]) else(1,[sv c.name,sv c.var,strs c.supers,mds c.methods,bds c.defaults,iv c.at_,iv e.1.1,iv e.1.2,dts v.kj,cls v.kc,its v.ki])) (fun k m=>m.length=met.length+k∧(k=0→m=met))
  (fun k kn m hm hk hI=>by
   obtain⟨hI,hJ⟩:=hI
   have hml:kn.length≤maxN:=by unfold maxN;omega
   obtain⟨c4,c5⟩:=c3 m (lMg hm)
   have hvr:=vars_raw m.t c4 c5
   have hr:=right_r v hv.d [c.var] (by simp[maxN]) m.t c4
   rw[show strs [c.var]=.rows [[sv c.var]] from rfl]at hr
   have hh:=has_srow kn hml m.name
   have hne:¬(kn++[m.name]).length=met.length:=by rw[List.length_append];simp;omega
   unfold metG
   by_cases h0:kn.length=met.length
   ·have hj0:k=0:=by omega
    have hkm:=hJ hj0
    cases hmm:mem kn m.name with
    |true=>rw[hmm]at hh;rw[if_pos rfl];simp only;rw[if_pos h0,if_pos h0,h41b10b,g41b10b];simp[idxK_mds hm,hk,hh,hkm];rw[hkm]at hh;simp[hh]
    |false=>
     rw[hmm]at hh
     rw[if_neg (by simp)]
     unfold metE
     by_cases hR:rightI v [c.var] m.t=0
     ·rw[hR]at hr
      cases hV:hasV m.t with
      |false=>rw[if_pos ((vars_none m.t).2 hV)]at hvr;simp only[hR,hV,if_true,if_false,Bool.false_eq_true];rw[if_neg hne,if_pos h0,h41b10b,g41b10b];simp[idxK_mds hm,hk,hh,hR,hr,hvr,appK_s kn m.name (by omega)]
      |true=>
       have hn0:¬(varsT m.t).length=0:=fun e=>by rw[(vars_none m.t).1 e]at hV;cases hV
       have hn1:varsT m.t≠[]:=fun e=>hn0 (by rw[e];rfl)
       rw[if_neg hn0]at hvr;simp only[hR,hV,if_true];refine⟨⟨by simp;omega,fun e=>by omega⟩,?_⟩;rw[if_pos h0,if_neg hne,h41b10b,g41b10b];simp[idxK_mds hm,hk,hh,hR,hr,hvr,lenK_srow,hn1,wL hk hN,srow_one,appK_s kn m.name (by omega)]
     ·simp only[hR,if_false];rw[if_neg hne,if_pos h0,h41b10b,g41b10b];simp[idxK_mds hm,hk,hh,hR,hr,appK_s kn m.name (by omega)]
   ·cases hmm:mem kn m.name with
    |true=>rw[hmm]at hh;rw[if_pos rfl];simp only;rw[if_neg h0,if_neg h0,h41b10d,g41b10d];simp[idxK_mds hm,hk,hh]
    |false=>
     rw[hmm]at hh
     rw[if_neg (by simp)]
     unfold metE
     by_cases hR:rightI v [c.var] m.t=0
     ·rw[hR]at hr
      cases hV:hasV m.t with
      |false=>rw[if_pos ((vars_none m.t).2 hV)]at hvr;simp only[hR,hV,if_true,if_false,Bool.false_eq_true];rw[if_neg hne,if_neg h0,h41b10d,g41b10d];simp[idxK_mds hm,hk,hh,hR,hr,hvr,appK_s kn m.name (by omega)]
      |true=>
       have hn0:¬(varsT m.t).length=0:=fun e=>by rw[(vars_none m.t).1 e]at hV;cases hV
       have hn1:varsT m.t≠[]:=fun e=>hn0 (by rw[e];rfl)
       rw[if_neg hn0]at hvr;simp only[hR,hV,if_true];refine⟨⟨by simp;omega,fun e=>by omega⟩,?_⟩;rw[if_neg h0,if_neg hne,h41b10d,g41b10d];simp[idxK_mds hm,hk,hh,hR,hr,hvr,lenK_srow,hn1,wL hk hN,srow_one,appK_s kn m.name (by omega)]
     ·simp only[hR,if_false];rw[if_neg hne,if_neg h0,h41b10d,g41b10d];simp[idxK_mds hm,hk,hh,hR,hr,appK_s kn m.name (by omega)])
  (fun m hI=>by
   by_cases h0:m.length=met.length
   ·rw[if_pos h0,if_pos h0,h41b10b,g41b10b];simp
   ·rw[if_neg h0,if_neg h0,h41b10d,g41b10d];simp)
  met ⟨rfl,fun _=>rfl⟩
 simp only[if_true]at h
 simp at h
 rw[h]
 cases runL (metG v c) c.methods 0 met with
 |ok m=>rfl
 |error e=>obtain⟨f,m⟩:=e;rfl
end
section
variable{v:Ev}{U:List ByteArray}{n:Nat}(hB:Big v U n)(hv:Fit v)
include hB hv
theorem clD_r:ev (q41b8a (iv 0) (dts v.kj) (cls v.kc) (its v.ki) (iv 0) (iv 0))=some (match clsD v with | .ok _=>(1,[dts v.kj,cls v.kc,its v.ki,iv 0,iv 0]) | .error (f,_)=>(0,[dts v.kj,cls v.kc,its v.ki,iv f.1,iv f.2])):=by
 have h:=ev_run v.kc (clsG v) (fun i m=>if m.length=0 then q41b8a (iv i) (dts v.kj) (cls v.kc) (its v.ki) (iv 0) (iv 0) else q41b8b (iv i) (srow m) (dts v.kj) (cls v.kc) (its v.ki) (iv 0) (iv 0))
  (fun _=>(1,[dts v.kj,cls v.kc,its v.ki,iv 0,iv 0])) (fun e=>(0,[dts v.kj,cls v.kc,its v.ki,iv e.1.1,iv e.1.2])) (fun i m=>m.length≤i*4000)
  (fun i m c hc hi hI=>by
   have hmem:=lMg hc
   obtain⟨c1,c2,c3⟩:=hv.cm c hmem
   obtain⟨m1,m2⟩:=hv.m c hmem
   have hcl:=hv.cl
   have hm0:m.length≤100000000:=by have:i*4000≤4000*4000:=Nat.mul_le_mul_right _ (by omega);omega
   have hbd:=binds_r c c.defaults m1 m2
   unfold clsG
   by_cases h0:m.length=0
   ·have:=List.length_eq_zero_iff.1 h0
    subst this
    have hp:=met_nil hB hv c hmem (iv i) (iv 0) (iv 0)
    cases hr:runL (metG v c) c.methods 0 []with
    |error e=>obtain⟨f,m'⟩:=e;rw[hr]at hp;simp only at hp ⊢;rw[if_pos h0,h41b8a,g41b8a];simp[idxK_cls hc,hi,hp]
    |ok m'=>
     have hlen:=mets_len hr
     rw[hr]at hp
     simp only at hp ⊢
     cases hF:bindsF c c.defaults with
     |some f=>
      obtain⟨e,a⟩:=f
      have hne:e≠0:=bindsF_ne hF
      rw[hF]at hbd;simp only at hbd ⊢
      rw[if_pos h0,h41b8a,g41b8a]
      by_cases h1:m'.length=0
      ·rw[if_pos h1]at hp;simp[idxK_cls hc,hi,hp,hbd,hne]
      ·rw[if_neg h1]at hp;simp[idxK_cls hc,hi,hp,hbd,hne]
     |none=>
      rw[hF]at hbd;simp only at hbd ⊢
      refine⟨by simp at hlen;omega,?_⟩
      rw[if_pos h0,h41b8a,g41b8a]
      by_cases h1:m'.length=0
      ·simp only[if_pos h1]at hp ⊢;simp[idxK_cls hc,hi,hp,hbd,wL hi hv.c]
      ·simp only[if_neg h1]at hp ⊢;simp[idxK_cls hc,hi,hp,hbd,wL hi hv.c]
   ·have hp:=met_tok hB hv c hmem m hm0 (iv i) (iv 0) (iv 0)
    cases hr:runL (metG v c) c.methods 0 m with
    |error e=>
     obtain⟨f,m'⟩:=e
     rw[hr]at hp
     simp only at hp ⊢
     rw[if_neg h0,h41b8b,g41b8b]
     by_cases h1:m'.length=m.length
     ·rw[if_pos h1]at hp;simp[idxK_cls hc,hi,hp]
     ·rw[if_neg h1]at hp;simp[idxK_cls hc,hi,hp]
    |ok m'=>
     have hlen:=mets_len hr
     rw[hr]at hp
     simp only at hp ⊢
     have h2:¬m'.length=0:=by omega
     cases hF:bindsF c c.defaults with
     |some f=>
      obtain⟨e,a⟩:=f
      have hne:e≠0:=bindsF_ne hF
      rw[hF]at hbd;simp only at hbd ⊢
      rw[if_neg h0,h41b8b,g41b8b]
      by_cases h1:m'.length=m.length
      ·have hcn:c.methods=[]:=List.length_eq_zero_iff.1 (by omega)
       have hmm:m'=m:=by rw[hcn]at hr;cases hr;rfl
       rw[if_pos h1,hmm]at hp;simp[idxK_cls hc,hi,hp,hbd,hne]
      ·rw[if_neg h1]at hp;simp[idxK_cls hc,hi,hp,hbd,hne]
     |none=>
      rw[hF]at hbd;simp only at hbd ⊢
      refine⟨by omega,?_⟩
      rw[if_neg h0,if_neg h2,h41b8b,g41b8b]
      by_cases h1:m'.length=m.length
      ·have hcn:c.methods=[]:=List.length_eq_zero_iff.1 (by omega)
       have hmm:m'=m:=by rw[hcn]at hr;cases hr;rfl
       rw[if_pos h1,hmm]at hp
       rw[hmm]
       simp[idxK_cls hc,hi,hp,hbd,wL hi hv.c]
      ·rw[if_neg h1]at hp;simp[idxK_cls hc,hi,hp,hbd,wL hi hv.c])
  (fun m hI=>by
   by_cases h0:m.length=0
   ·rw[if_pos h0,h41b8a,g41b8a];simp
   ·rw[if_neg h0,h41b8b,g41b8b];simp)
  [] (Nat.zero_le _)
 simp only[List.length_nil,if_true]at h
 simp at h
 rw[h]
 unfold clsD
 cases runL (clsG v) v.kc 0 []with
 |ok m=>rfl
 |error e=>obtain⟨f,m⟩:=e;rfl
theorem classes_r:ev (q41 (dts v.kj) (cls v.kc) (its v.ki))=some (0,match classesF v n with|some (e,a)=>[iv e,iv a]|none=>[iv 0,iv 0]):=by
 refine Evl.of ?_
 rw[h41,g41]
 have ha:=clA_r hB hv
 have hb:=clB_r hB hv
 have hc:=clC_r hB hv
 have hd:=clD_r hB hv
 unfold classesF
 cases hA:clsA v with
 |some f=>obtain⟨e,x⟩:=f;rw[hA]at ha;simp at ha;simp[ha]
 |none=>
  rw[hA]at ha
  by_cases h0:v.kc.length=0
  ·have hn:=List.length_eq_zero_iff.1 h0
   have hb0:ev (q41b2a (iv 0) (dts v.kj) (cls v.kc) (its v.ki) (iv 0) (iv 0))=some (1,[dts v.kj,cls v.kc,its v.ki,iv 0,iv 0]):=Evl.of (by rw[h41b2a,g41b2a];simp[hn])
   have e1:clsB v=none:=by unfold clsB;rw[hn];rfl
   have e2:clsC v n=none:=by unfold clsC;rw[hn];rfl
   have e3:clsD v=.ok []:=by unfold clsD;rw[hn];rfl
   rw[e2]at hc
   rw[e3]at hd
   rw[e1,e2,e3]
   simp only[if_pos h0]at ha hc hd
   simp[ha,hb0,hc,hd]
  ·simp only[if_neg h0]at ha
   cases hBB:clsB v with
   |some f=>obtain⟨e,x⟩:=f;rw[hBB]at hb;simp only at hb;simp[ha,hb]
   |none=>
    rw[hBB]at hb
    simp only at hb
    cases hC:clsC v n with
    |some f=>obtain⟨e,x⟩:=f;rw[hC]at hc;simp only at hc;simp[ha,hb,hc]
    |none=>
     rw[hC]at hc
     simp only at hc
     cases hD:clsD v with
     |ok m=>rw[hD]at hd;simp only at hd;simp[ha,hb,hc,hd]
     |error e=>obtain⟨⟨e,x⟩,m⟩:=e;rw[hD]at hd;simp only at hd;simp[ha,hb,hc,hd]
theorem clA_p(m:PV):ev (q76ab0a (iv 0) (iv v.kc.length) (cls v.kc) (cls v.kc) (dts v.kj) (cls v.kc) (its v.ki) m)=some (match clsA v with|some (e,a)=>(0,[dts v.kj,cls v.kc,its v.ki,m,iv e,iv a])|none=>(1,[dts v.kj,cls v.kc,its v.ki,m,cls v.kc])):=by
 have h:=ev_first v.kc (clsE v) (fun i=>q76ab0a (iv i) (iv v.kc.length) (cls v.kc) (cls v.kc) (dts v.kj) (cls v.kc) (its v.ki) m) (1,[dts v.kj,cls v.kc,its v.ki,m,cls v.kc]) (fun f=>(0,[dts v.kj,cls v.kc,its v.ki,m,iv f.1,iv f.2]))
  (fun i c hc hi _=>by
   rw[h76ab0a,g76ab0a]
   have hf:=find_cl2 (v.kc.take i) (by rw[List.length_take];exact Nat.le_trans (Nat.min_le_right ..) hv.c) c
   rw[fi_any]at hf
   unfold clsE
   cases hm:(v.kc.take i).any (isCl c.name)<;>rw[hm]at hf<;>simp[idxK_cls hc,hi,slcK_cls (Nat.le_of_lt hi),hf,need_f,need_t,wL hi hv.c])
  (fun _=>by rw[h76ab0a,g76ab0a];simp)
 simp at h
 rw[h]
 unfold clsA
 cases fe (clsE v) v.kc 0<;>rfl
theorem sup1_p(c:Cl)(hc:c∈v.kc)(o1 o2 o3 o4 m:PV):ev (q76ab4a (iv 0) (iv c.supers.length) (strs c.supers) o1 o2 o3 o4 (dts v.kj) (cls v.kc) (its v.ki) m (sv c.name) (sv c.var) (strs c.supers) (mds c.methods) (bds c.defaults) (iv c.at_))=some (match supF v c with|some f=>(0,[dts v.kj,cls v.kc,its v.ki,m,sv c.name,sv c.var,strs c.supers,mds c.methods,bds c.defaults,iv c.at_,iv f.1,iv f.2])|none=>(1,[dts v.kj,cls v.kc,its v.ki,m,sv c.name,sv c.var,strs c.supers,mds c.methods,bds c.defaults,iv c.at_,o1,o2,o3,o4])):=by
 obtain⟨c1,c2,c3⟩:=hv.cm c hc
 have h:=ev_first c.supers (supE v c) (fun k=>q76ab4a (iv k) (iv c.supers.length) (strs c.supers) o1 o2 o3 o4 (dts v.kj) (cls v.kc) (its v.ki) m (sv c.name) (sv c.var) (strs c.supers) (mds c.methods) (bds c.defaults) (iv c.at_)) (1,[dts v.kj,cls v.kc,its v.ki,m,sv c.name,sv c.var,strs c.supers,mds c.methods,bds c.defaults,iv c.at_,o1,o2,o3,o4]) (fun f=>(0,[dts v.kj,cls v.kc,its v.ki,m,sv c.name,sv c.var,strs c.supers,mds c.methods,bds c.defaults,iv c.at_,iv f.1,iv f.2]))
  (fun k s hs hk _=>by
   rw[h76ab4a,g76ab4a]
   have h1:=class_p v hv.c s
   rw[fi_any]at h1
   have h2:=contains_strs (c.supers.take k) (by rw[List.length_take];omega) s
   unfold supE
   cases hA:v.kc.any (isCl s) with
   |false=>rw[hA]at h1;simp[idxK_strs hs,hk,h1,need_f]
   |true=>
    rw[hA]at h1
    cases hm:mem (c.supers.take k) s<;>rw[hm]at h2<;>simp[idxK_strs hs,hk,h1,slcK_strs (Nat.le_of_lt hk),h2,need_t,need_f,wL hk c2])
  (fun _=>by rw[h76ab4a,g76ab4a];simp)
 simp at h
 rw[h]
 unfold supF
 cases fe (supE v c) c.supers 0<;>rfl
theorem clB_p(m:PV):ev (q76ab2a (iv 0) (iv v.kc.length) (cls v.kc) (cls v.kc) (dts v.kj) (cls v.kc) (its v.ki) m)=some (match clsB v with|some (e,a)=>(0,[dts v.kj,cls v.kc,its v.ki,m,iv e,iv a])|none=>(1,[dts v.kj,cls v.kc,its v.ki,m,cls v.kc])):=by
 have h:=ev_first v.kc (fun _ c=>supF v c) (fun i=>q76ab2a (iv i) (iv v.kc.length) (cls v.kc) (cls v.kc) (dts v.kj) (cls v.kc) (its v.ki) m) (1,[dts v.kj,cls v.kc,its v.ki,m,cls v.kc]) (fun f=>(0,[dts v.kj,cls v.kc,its v.ki,m,iv f.1,iv f.2]))
  (fun i c hc hi _=>by
   rw[h76ab2a,g76ab2a]
   have hs:=sup1_p hB hv c (lMg hc) (iv i) (iv v.kc.length) (cls v.kc) (cls v.kc) m
   cases hF:supF v c with
   |none=>rw[hF]at hs;simp only at hs;simp[idxK_cls hc,hi,hs,wL hi hv.c]
   |some f=>rw[hF]at hs;simp only at hs;simp[idxK_cls hc,hi,hs])
  (fun _=>by rw[h76ab2a,g76ab2a];simp)
 simp at h
 rw[h]
 unfold clsB
 cases fe (fun _ c=>supF v c) v.kc 0<;>rfl
theorem clC_p(m:PV):ev (q76ab6a (iv 0) (iv v.kc.length) (cls v.kc) (cls v.kc) (dts v.kj) (cls v.kc) (its v.ki) m)=some (match clsC v n with|some (e,a)=>(0,[dts v.kj,cls v.kc,its v.ki,m,iv e,iv a])|none=>(1,[dts v.kj,cls v.kc,its v.ki,m,cls v.kc])):=by
 have h:=ev_first v.kc (fun _ c=>if mem (abv v n c.name) c.name=true then some ((124:Int),c.at_) else none) (fun i=>q76ab6a (iv i) (iv v.kc.length) (cls v.kc) (cls v.kc) (dts v.kj) (cls v.kc) (its v.ki) m) (1,[dts v.kj,cls v.kc,its v.ki,m,cls v.kc]) (fun f=>(0,[dts v.kj,cls v.kc,its v.ki,m,iv f.1,iv f.2]))
  (fun i c hc hi _=>by
   rw[h76ab6a,g76ab6a]
   have ha:=above_p hB.s n c.name hB.c hB.m
   have hm:=contains_strs (abv v n c.name) (hB.len c.name) c.name
   unfold abv at hm ⊢
   cases hq:mem (upN v (n+1) [] c.name) c.name<;>rw[hq]at hm<;>simp[idxK_cls hc,hi,ha,hm,need_t,need_f,wL hi hv.c])
  (fun _=>by rw[h76ab6a,g76ab6a];simp)
 simp at h
 rw[h]
 unfold clsC
 cases fe (fun _ c=>if mem (abv v n c.name) c.name=true then some ((124:Int),c.at_) else none) v.kc 0<;>rfl
theorem met_p(c:Cl)(hc:c∈v.kc)(met:List ByteArray)(a b o3 m:PV) :
  ev (q76ab10a (iv 0) (iv c.methods.length) (mds c.methods) a b o3 (mtS met) (dts v.kj) (cls v.kc) (its v.ki) m (sv c.name) (sv c.var) (strs c.supers) (mds c.methods) (bds c.defaults) (iv c.at_))=some (match runL (metG v c) c.methods 0 met with | .ok met'=>(1,[mtS met',dts v.kj,cls v.kc,its v.ki,m,sv c.name,sv c.var,strs c.supers,mds c.methods,bds c.defaults,iv c.at_,a,b,o3]) | .error (f,met')=>(0,[mtS met',dts v.kj,cls v.kc,its v.ki,m,sv c.name,sv c.var,strs c.supers,mds c.methods,bds c.defaults,iv c.at_,iv f.1,iv f.2])):=by
 obtain⟨c1,c2,c3⟩:=hv.cm c hc
 have hN:c.methods.length≤maxN:=by unfold maxN;omega
 have h:=ev_run c.methods (metG v c) (fun j met=>q76ab10a (iv j) (iv c.methods.length) (mds c.methods) a b o3 (mtS met) (dts v.kj) (cls v.kc) (its v.ki) m (sv c.name) (sv c.var) (strs c.supers) (mds c.methods) (bds c.defaults) (iv c.at_))
  (fun met'=>(1,[mtS met',dts v.kj,cls v.kc,its v.ki,m,sv c.name,sv c.var,strs c.supers,mds c.methods,bds c.defaults,iv c.at_,a,b,o3])) (fun e=>(0,[mtS e.2,dts v.kj,cls v.kc,its v.ki,m,sv c.name,sv c.var,strs c.supers,mds c.methods,bds c.defaults,iv c.at_,iv e.1.1,iv e.1.2])) (fun _ _=>True)
  (fun j met x hx hj _=>by
   obtain⟨c4,c5⟩:=c3 x (lMg hx)
   have hr:=right_p v hv.d [c.var] (by simp[maxN]) x.t c4
   rw[show strs [c.var]=.rows [[sv c.var]] from rfl]at hr
   have hvr:=has_p x.t c4
   unfold metG
   cases hm:mem met x.name with
   |true=>rw[if_pos rfl,h76ab10a,g76ab10a];simp[idxK_mds hx,hj,lookK_S,hm,need_f]
   |false=>
    rw[if_neg (by simp)]
    have hu:=fun kk=>updK_S (β:=Res) (d:=.fail) (k:=kk) met x.name hm
    unfold metE
    by_cases hR:rightI v [c.var] x.t=0
    ·rw[hR]at hr
     cases hV:hasV x.t with
     |false=>rw[hV]at hvr;simp only[hR,hV,if_true,if_false,Bool.false_eq_true];rw[h76ab10a,g76ab10a];simp[idxK_mds hx,hj,lookK_S,hm,need_t,need_f,hu,hr,hR,hvr]
     |true=>rw[hV]at hvr;simp only[hR,hV,if_true];refine⟨trivial,?_⟩;rw[h76ab10a,g76ab10a];simp[idxK_mds hx,hj,lookK_S,hm,need_t,need_f,hu,hr,hR,hvr,wL hj hN]
    ·simp only[hR,if_false];rw[h76ab10a,g76ab10a];simp[idxK_mds hx,hj,lookK_S,hm,need_t,need_f,hu,hr,hR])
  (fun met _=>by rw[h76ab10a,g76ab10a];simp)
  met trivial
 simp at h
 rw[h]
 cases runL (metG v c) c.methods 0 met with
 |ok m=>rfl
 |error e=>obtain⟨f,m⟩:=e;rfl
theorem clD_p(m:PV):ev (q76ab8a (iv 0) (iv v.kc.length) (cls v.kc) (mtS []) (dts v.kj) (cls v.kc) (its v.ki) m)=some (match clsD v with | .ok met=>(1,[mtS met,dts v.kj,cls v.kc,its v.ki,m]) | .error (f,met)=>(0,[mtS met,dts v.kj,cls v.kc,its v.ki,m,iv f.1,iv f.2])):=by
 have h:=ev_run v.kc (clsG v) (fun i met=>q76ab8a (iv i) (iv v.kc.length) (cls v.kc) (mtS met) (dts v.kj) (cls v.kc) (its v.ki) m)
  (fun met=>(1,[mtS met,dts v.kj,cls v.kc,its v.ki,m])) (fun e=>(0,[mtS e.2,dts v.kj,cls v.kc,its v.ki,m,iv e.1.1,iv e.1.2])) (fun _ _=>True)
  (fun i met c hc hi _=>by
   have hmem:=lMg hc
   obtain⟨m1,m2⟩:=hv.m c hmem
   have hp:=met_p hB hv c hmem met (iv i) (iv v.kc.length) (cls v.kc) m
   have hbd:=binds_p c c.defaults (by unfold maxN;omega) (by unfold maxN;omega) (dts v.kj) (cls v.kc) (its v.ki) m
   unfold clsG
   cases hr:runL (metG v c) c.methods 0 met with
   |error e=>obtain⟨f,m'⟩:=e;rw[hr]at hp;simp only at hp ⊢;rw[h76ab8a,g76ab8a];simp[idxK_cls hc,hi,hp]
   |ok m'=>
    rw[hr]at hp
    simp only at hp ⊢
    cases hF:bindsF c c.defaults with
    |some f=>obtain⟨e,a⟩:=f;rw[hF]at hbd;simp only at hbd ⊢;rw[h76ab8a,g76ab8a];simp[idxK_cls hc,hi,hp,hbd]
    |none=>rw[hF]at hbd;simp only at hbd ⊢;refine⟨trivial,?_⟩;rw[h76ab8a,g76ab8a];simp[idxK_cls hc,hi,hp,hbd,wL hi hv.c])
  (fun met _=>by rw[h76ab8a,g76ab8a];simp)
  [] trivial
 simp at h
 rw[h]
 unfold clsD
 cases runL (clsG v) v.kc 0 []with
 |ok m=>rfl
 |error e=>obtain⟨f,m⟩:=e;rfl
theorem classes_p(m:PV):ev (q76a (dts v.kj) (cls v.kc) (its v.ki) m)=some (match classesF v n with|some (e,a)=>(1,[dts v.kj,cls v.kc,its v.ki,m,iv e,iv a])|none=>(0,[dts v.kj,cls v.kc,its v.ki,m])):=by
 refine Evl.of ?_
 rw[h76a,g76a]
 have ha:=clA_p hB hv m
 have hb:=clB_p hB hv m
 have hc:=clC_p hB hv m
 have hd:=clD_p hB hv m
 rw[mtS_nil]at hd
 unfold classesF
 cases hA:clsA v with
 |some f=>obtain⟨e,x⟩:=f;rw[hA]at ha;simp only at ha;simp[ha]
 |none=>
  rw[hA]at ha
  simp only at ha
  cases hBB:clsB v with
  |some f=>obtain⟨e,x⟩:=f;rw[hBB]at hb;simp only at hb;simp[ha,hb]
  |none=>
   rw[hBB]at hb
   simp only at hb
   cases hC:clsC v n with
   |some f=>obtain⟨e,x⟩:=f;rw[hC]at hc;simp only at hc;simp[ha,hb,hc]
   |none=>
    rw[hC]at hc
    simp only at hc
    cases hD:clsD v with
    |ok m=>rw[hD]at hd;simp only at hd;simp[ha,hb,hc,hd]
    |error e=>obtain⟨⟨e,x⟩,m⟩:=e;rw[hD]at hd;simp only at hd;simp[ha,hb,hc,hd]
end
theorem ev_firstX{α ε:Type}(l:List α)(e:Nat→α→Option ε)(q:Nat→Q)(r0:Rs)(rf:PV→ε→Rs)
  (step:∀i a,l[i]?=some a→i<l.length→match e i a with|some x=>∃m,body PG EE TT ev (q i)=.ok (rf m x)|none=>body PG EE TT ev (q i)=passK (ev (q (i+1))))
  (done:body PG EE TT ev (q l.length)=.ok r0):match fe e l 0 with|some x=>∃m,ev (q 0)=some (rf m x)|none=>ev (q 0)=some r0:=by
 have key:∀(m i:Nat),l.length-i=m→i≤l.length→match fe e (l.drop i) i with|some x=>∃m,ev (q i)=some (rf m x)|none=>ev (q i)=some r0:=by
  intro m
  induction m with
  |zero=>
   intro i hm hi
   have:i=l.length:=by omega
   subst this
   rw[List.drop_length,fe]
   exact Evl.of done
  |succ m ih=>
   intro i hm hi
   have hlt:i<l.length:=by omega
   have h1:=step i _ (lGg hlt) hlt
   have h2:=ih (i+1) (by omega) (by omega)
   rw[List.drop_eq_getElem_cons hlt,fe]
   cases hg:e i l[i]with
   |some x=>
    rw[hg]at h1
    obtain⟨m,hm⟩:=h1
    exact⟨m,Evl.of hm⟩
   |none=>
    rw[hg]at h1
    simp only at h1 ⊢
    cases hf:fe e (l.drop (i+1)) (i+1) with
    |some x=>
     rw[hf]at h2
     obtain⟨m,hm⟩:=h2
     exact⟨m,Evl.of (by rw[h1,hm];rfl)⟩
    |none=>
     rw[hf]at h2
     exact Evl.of (by rw[h1,h2];rfl)
 simpa using key l.length 0 rfl (Nat.zero_le _)
theorem runL_err{α σ ε:Type}{g:Nat→σ→α→Except ε σ}:∀{l:List α} {i:Nat} {s:σ} {e:ε},runL g l i s=.error e→∃j s a,a∈l∧g j s a=.error e
 |[],_,_,_,h=>by cases h
 |a::l,i,s,e,h=>by
  rw[runL]at h
  cases hg:g i s a with
  |ok s'=>
   rw[hg]at h
   obtain⟨j,s1,b,h1,h2⟩:=runL_err h
   exact⟨j,s1,b,lMc _ h1,h2⟩
  |error e'=>rw[hg]at h;cases h;exact⟨i,s,a,List.mem_cons_self ..,hg⟩
theorem rightE_ne{v:Ev}{l:List ByteArray}{t:Ty}{e:Int}(h:rightE v l t=some e):e≠0:=by
 unfold rightE at h
 split at h
 ·cases h
 ·rename_i h0;cases h;exact h0
theorem datasF_ne{v:Ev}{f:Flt}(h:datasF v=some f):f.1≠0:=by
 unfold datasF at h
 split at h
 ·rename_i f' hA
  cases h
  obtain⟨j,d,_,h2⟩:=fe_some hA
  unfold datE at h2
  split at h2
  ·cases h2;simp
  ·split at h2<;>cases h2
   simp
 ·split at h
  ·rename_i f' m hB
   cases h
   obtain⟨j,s,d,_,h2⟩:=runL_err hB
   unfold datG at h2
   split at h2
   ·rename_i f2 hP
    cases h2
    obtain⟨j,p,_,h3⟩:=fe_some hP
    unfold parE at h3
    split at h3<;>cases h3
    simp
   ·obtain⟨j,s,c,_,h3⟩:=runL_err h2
    unfold conG at h3
    split at h3
    ·cases h3;simp
    ·split at h3
     ·cases h3;simp
     ·split at h3
      ·rename_i e hA
       cases h3
       obtain⟨j,t,_,h4⟩:=fe_some hA
       exact rightE_ne h4
      ·cases h3
  ·cases h
theorem classesF_ne{v:Ev}{n:Nat}{f:Flt}(h:classesF v n=some f):f.1≠0:=by
 unfold classesF at h
 split at h
 ·rename_i f' hA
  cases h
  obtain⟨j,d,_,h2⟩:=fe_some hA
  unfold clsE at h2
  split at h2<;>cases h2
  simp
 ·split at h
  ·rename_i f' hA
   cases h
   obtain⟨j,c,_,h2⟩:=fe_some hA
   obtain⟨j,s,_,h3⟩:=fe_some h2
   unfold supE at h3
   split at h3
   ·split at h3<;>cases h3
    simp
   ·cases h3;simp
  ·split at h
   ·rename_i f' hA
    cases h
    obtain⟨j,c,_,h2⟩:=fe_some hA
    split at h2<;>cases h2
    simp
   ·split at h
    ·rename_i f' m hB
     cases h
     obtain⟨j,s,c,_,h2⟩:=runL_err hB
     unfold clsG at h2
     split at h2
     ·rename_i e hE
      cases h2
      obtain⟨j,s,m,_,h3⟩:=runL_err hE
      unfold metG at h3
      split at h3
      ·cases h3;simp
      ·split at h3
       ·rename_i e hM
        cases h3
        unfold metE at hM
        split at hM
        ·split at hM<;>cases hM
         simp
        ·rename_i h0;cases hM;exact h0
       ·cases h3
     ·split at h2
      ·rename_i f2 hF
       cases h2
       exact bindsF_ne hF
      ·cases h2
    ·cases h
theorem instF_ne{v:Ev}{i:Nat}{x:It}{f:Flt}(h:instF v i x=some f):f.1≠0:=by
 unfold instF at h
 split at h
 ·cases h;simp
 ·split at h
  ·cases h
  ·unfold instG at h
   split at h
   ·rename_i e hE;cases h;exact headF_ne hE
   ·split at h
    ·cases h;simp
    ·split at h
     ·rename_i e hE;cases h;exact ctxF_ne hE
     ·split at h
      ·rename_i f' hF;cases h;exact bindsF_ne hF
      ·split at h<;>cases h
       simp
def insF(v:Ev):Option Flt:=fe (instF v) v.ki 0
def supX(v:Ev)(n:Nat)(x:It):Option Flt:=match fnd (isCl x.cls) v.kc 0 with
 |none=>none
 |some k=>match v.kc[k]? with
  |none=>none
  |some c=>if(fe (supS v n x) c.supers 0).isSome=true then some (126,x.at_) else none
def supA(v:Ev)(n:Nat):Option Flt:=fe (fun _ x=>supX v n x) v.ki 0
def bndE(v:Ev)(l:List Bd)(i:Nat)(b:Bd):Option Flt:=if(mth v b.name).isSome=true then some (120,b.at_) else if(l.take i).any (isBd b.name)=true then some (120,b.at_) else none
def bndF(v:Ev)(l:List Bd):Option Flt:=fe (bndE v l) l 0
def checkF(v:Ev)(n:Nat)(l:List Bd):Option Flt:=match datasF v with
 |some f=>some f
 |none=>match classesF v n with
  |some f=>some f
  |none=>match insF v with
   |some f=>some f
   |none=>match supA v n with
    |some f=>some f
    |none=>bndF v l
theorem checkF_ne{v:Ev}{n:Nat}{l:List Bd}{f:Flt}(h:checkF v n l=some f):f.1≠0:=by
 unfold checkF at h
 split at h
 ·rename_i f' hA;cases h;exact datasF_ne hA
 ·split at h
  ·rename_i f' hA;cases h;exact classesF_ne hA
  ·split at h
   ·rename_i f' hA
    cases h
    obtain⟨j,x,_,h2⟩:=fe_some hA
    exact instF_ne h2
   ·split at h
    ·rename_i f' hA
     cases h
     obtain⟨j,x,_,h2⟩:=fe_some hA
     unfold supX at h2
     split at h2
     ·cases h2
     ·split at h2
      ·cases h2
      ·split at h2<;>cases h2
       simp
    ·obtain⟨j,b,_,h2⟩:=fe_some h
     unfold bndE at h2
     split at h2
     ·cases h2;simp
     ·split at h2<;>cases h2
      simp
theorem hok_of{v:Ev}(h:insF v=none):∀i x,v.ki[i]?=some x→instF v i x=none:=fun i x hx=>by
 have:=fe_none h i x hx
 simpa using this
section
variable{v:Ev}{U:List ByteArray}{n:Nat}(hB:Big v U n)(hv:Fit v)(l:List Bd)(hl:l.length≤1000000000)
include hB hv hl
omit hB hl in
theorem clsOk:ClsOk v.kc:=⟨hv.c,fun c hc=>by have:=(hv.m c hc).1;unfold maxN;omega⟩
omit hB hl in
theorem ins_r(o1 o2 o3 o4:PV):ev (q9b0a (iv 0) (dts v.kj) (cls v.kc) (its v.ki) (iv 0) (iv 0) (iv 0) (iv 0) o1 o2 o3 o4)=some (match insF v with|some (e,a)=>(0,[dts v.kj,cls v.kc,its v.ki,iv e,iv a,iv e,iv a,o1,o2,o3,o4])|none=>(1,[dts v.kj,cls v.kc,its v.ki,iv 0,iv 0,iv 0,iv 0,o1,o2,o3,o4])):=by
 have h:=ev_first v.ki (instF v) (fun i=>q9b0a (iv i) (dts v.kj) (cls v.kc) (its v.ki) (iv 0) (iv 0) (iv 0) (iv 0) o1 o2 o3 o4) (1,[dts v.kj,cls v.kc,its v.ki,iv 0,iv 0,iv 0,iv 0,o1,o2,o3,o4]) (fun f=>(0,[dts v.kj,cls v.kc,its v.ki,iv f.1,iv f.2,iv f.1,iv f.2,o1,o2,o3,o4]))
  (fun i x hx hi _=>by
   rw[h9b0a,g9b0a]
   have hin:=inst_f_r v hv.toEvOk i x hx
   cases hF:instF v i x with
   |none=>rw[hF]at hin;simp only at hin;simp[hi,hin,wL hi hv.i]
   |some f=>
    obtain⟨e,a⟩:=f
    have hne:e≠0:=instF_ne hF
    rw[hF]at hin;simp only at hin;simp[hi,hin,hne])
  (fun _=>by rw[h9b0a,g9b0a];simp)
 simp at h
 rw[h]
 unfold insF
 cases fe (instF v) v.ki 0<;>rfl
omit hl in
theorem sups_r(hok:∀i x,v.ki[i]?=some x→instF v i x=none)(a b o1 o2 o3 o4:PV):ev (q9b2a (iv 0) (dts v.kj) (cls v.kc) (its v.ki) a b o1 o2 o3 o4)=some (match supA v n with|some (e,at_)=>(0,[dts v.kj,cls v.kc,its v.ki,iv e,iv at_,o1,o2,o3,o4])|none=>(1,[dts v.kj,cls v.kc,its v.ki,a,b,o1,o2,o3,o4])):=by
 have h:=ev_first v.ki (fun _ x=>supX v n x) (fun i=>q9b2a (iv i) (dts v.kj) (cls v.kc) (its v.ki) a b o1 o2 o3 o4) (1,[dts v.kj,cls v.kc,its v.ki,a,b,o1,o2,o3,o4]) (fun f=>(0,[dts v.kj,cls v.kc,its v.ki,iv f.1,iv f.2,o1,o2,o3,o4]))
  (fun i x hx hi _=>by
   rw[h9b2a,g9b2a]
   obtain⟨k,c,h1,h2⟩:=class_ex (hok i x hx)
   have hs:=sup_r hB hv.toEvOk hok x hx h1 h2 (hv.cm c (lMg h2)).2.1
   unfold supX
   rw[h1]
   simp only[h2]
   cases hq:fe (supS v n x) c.supers 0 with
   |none=>rw[hq]at hs;simp at hs;simp[idxK_its hx,hi,hs,wL hi hv.i]
   |some u=>rw[hq]at hs;simp at hs;simp[idxK_its hx,hi,hs])
  (fun _=>by rw[h9b2a,g9b2a];simp)
 simp at h
 rw[h]
 unfold supA
 cases fe (fun _ x=>supX v n x) v.ki 0<;>rfl
omit hB in
theorem bnds_r(a b:PV):ev (q9b4a (iv 0) (dts v.kj) (cls v.kc) (its v.ki) (bds l) (dts v.kj) (cls v.kc) (its v.ki) a b)=some (match bndF v l with|some (e,at_)=>(0,[dts v.kj,cls v.kc,its v.ki,bds l,dts v.kj,cls v.kc,its v.ki,iv e,iv at_])|none=>(1,[dts v.kj,cls v.kc,its v.ki,bds l,dts v.kj,cls v.kc,its v.ki,a,b])):=by
 have hlN:l.length≤maxN:=by unfold maxN;omega
 have h:=ev_first l (bndE v l) (fun i=>q9b4a (iv i) (dts v.kj) (cls v.kc) (its v.ki) (bds l) (dts v.kj) (cls v.kc) (its v.ki) a b) (1,[dts v.kj,cls v.kc,its v.ki,bds l,dts v.kj,cls v.kc,its v.ki,a,b]) (fun f=>(0,[dts v.kj,cls v.kc,its v.ki,bds l,dts v.kj,cls v.kc,its v.ki,iv f.1,iv f.2]))
  (fun i y hy hi _=>by
   rw[h9b4a,g9b4a]
   have hm:=method_r v (clsOk hv) y.name
   have hbr:=bound_raw (l.take i) (by rw[List.length_take];omega)
   have hml:((l.take i).map Bd.name).length≤maxN:=by rw[List.length_map,List.length_take];omega
   have hh:=has_srow ((l.take i).map Bd.name) hml y.name
   rw[mem_map]at hh
   change ev _=some (0,[bv ((l.take i).any (isBd y.name))]) at hh
   unfold bndE
   cases hM:mth v y.name with
   |some p=>
    obtain⟨j,k⟩:=p
    rw[hM]at hm
    simp only at hm
    have hj:(0:Int)≤(j:Int):=by omega
    simp[idxK_bds hy,hi,hm,hj]
   |none=>
    rw[hM]at hm
    simp only at hm
    by_cases h0:(l.take i).length=0
    ·rw[if_pos h0]at hbr
     have e0:l.take i=[]:=List.length_eq_zero_iff.1 h0
     have e1:(l.take i).any (isBd y.name)=false:=by rw[e0];rfl
     rw[e1]at hh
     have e2:(.rows (srow ((l.take i).map Bd.name)):PV)=.rows []:=by rw[e0];rfl
     rw[e2]at hh
     rw[e1]
     simp[idxK_bds hy,hi,hm,slcK_bds (Nat.le_of_lt hi),hbr,hh,wL hi hlN]
    ·rw[if_neg h0]at hbr
     cases hA:(l.take i).any (isBd y.name)<;>rw[hA]at hh<;>simp[-List.map_take,idxK_bds hy,hi,hm,slcK_bds (Nat.le_of_lt hi),hbr,hh,wL hi hlN])
  (fun _=>by rw[h9b4a,g9b4a];simp)
 simp at h
 rw[h]
 unfold bndF
 cases fe (bndE v l) l 0<;>rfl
theorem check_r:ev (q9 (dts v.kj) (cls v.kc) (its v.ki) (bds l))=some (0,match checkF v n l with|some (e,a)=>[iv e,iv a]|none=>[iv 0,iv 0]):=by
 refine Evl.of ?_
 rw[h9,g9]
 have h1:=datas_r hv
 have h2:=classes_r hB hv
 have h3:=ins_r hv (dts v.kj) (cls v.kc) (its v.ki) (bds l)
 unfold checkF
 cases hA:datasF v with
 |some f=>obtain⟨e,a⟩:=f;have hne:e≠0:=datasF_ne hA;rw[hA]at h1;simp only at h1 ⊢;simp[h1,hne]
 |none=>
  rw[hA]at h1
  simp only at h1 ⊢
  cases hC:classesF v n with
  |some f=>obtain⟨e,a⟩:=f;have hne:e≠0:=classesF_ne hC;rw[hC]at h2;simp only at h2 ⊢;simp[h1,h2,hne]
  |none=>
   rw[hC]at h2
   simp only at h2 ⊢
   cases hI:insF v with
   |some f=>obtain⟨e,a⟩:=f;rw[hI]at h3;simp only at h3 ⊢;simp[h1,h2,h3]
   |none=>
    rw[hI]at h3
    simp only at h3 ⊢
    have h4:=sups_r hB hv (hok_of hI) (iv 0) (iv 0) (dts v.kj) (cls v.kc) (its v.ki) (bds l)
    have h5:=bnds_r hv l hl (iv 0) (iv 0)
    cases hS:supA v n with
    |some f=>obtain⟨e,a⟩:=f;rw[hS]at h4;simp only at h4 ⊢;simp[h1,h2,h3,h4]
    |none=>
     rw[hS]at h4
     simp only at h4 ⊢
     cases hD:bndF v l with
     |some f=>obtain⟨e,a⟩:=f;rw[hD]at h5;simp only at h5 ⊢;simp[h1,h2,h3,h4,h5]
     |none=>rw[hD]at h5;simp only at h5 ⊢;simp[h1,h2,h3,h4,h5]
omit hB in
theorem ins_p:match insF v with
  |some (e,a)=>∃m,ev (q39ab0a (iv 0) (iv v.ki.length) (bds l) (dts v.kj) (cls v.kc) (its v.ki) (.rows []))=some (0,[dts v.kj,cls v.kc,its v.ki,m,iv 0,iv 0,iv e,iv a])
  |none=>ev (q39ab0a (iv 0) (iv v.ki.length) (bds l) (dts v.kj) (cls v.kc) (its v.ki) (.rows []))=some (1,[dts v.kj,cls v.kc,its v.ki,mtI (keyL v.ki 0),iv 0,iv 0,bds l]):=by
 have h:=ev_firstX v.ki (instF v) (fun i=>q39ab0a (iv i) (iv v.ki.length) (bds l) (dts v.kj) (cls v.kc) (its v.ki) (mtI (keyL (v.ki.take i) 0))) (1,[dts v.kj,cls v.kc,its v.ki,mtI (keyL v.ki 0),iv 0,iv 0,bds l]) (fun m f=>(0,[dts v.kj,cls v.kc,its v.ki,m,iv 0,iv 0,iv f.1,iv f.2]))
  (fun i x hx hi=>by
   have hin:=inst_f_p v hv.toEvOk i x hx
   cases hF:instF v i x with
   |none=>rw[hF]at hin;simp only at hin ⊢;rw[h39ab0a,g39ab0a];simp[hi,hin,wL hi hv.i]
   |some f=>
    obtain⟨e,a⟩:=f
    rw[hF]at hin;simp only at hin ⊢
    obtain⟨m,hm⟩:=hin
    refine⟨m,?_⟩
    rw[h39ab0a,g39ab0a];simp[hi,hm])
  (by rw[h39ab0a,g39ab0a];simp)
 unfold insF
 cases hF:fe (instF v) v.ki 0 with
 |none=>rw[hF]at h;exact h
 |some f=>rw[hF]at h;exact h
omit hl in
theorem sups_p(hok:∀i x,v.ki[i]?=some x→instF v i x=none):ev (q39ab2a (iv 0) (iv v.ki.length) (its v.ki) (bds l) (dts v.kj) (cls v.kc) (its v.ki) (mtI (keyL v.ki 0)))=some (match supA v n with|some (e,at_)=>(0,[dts v.kj,cls v.kc,its v.ki,mtI (keyL v.ki 0),iv 0,iv 0,iv e,iv at_])|none=>(1,[dts v.kj,cls v.kc,its v.ki,mtI (keyL v.ki 0),iv 0,iv 0,bds l])):=by
 have h:=ev_first v.ki (fun _ x=>supX v n x) (fun i=>q39ab2a (iv i) (iv v.ki.length) (its v.ki) (bds l) (dts v.kj) (cls v.kc) (its v.ki) (mtI (keyL v.ki 0))) (1,[dts v.kj,cls v.kc,its v.ki,mtI (keyL v.ki 0),iv 0,iv 0,bds l]) (fun f=>(0,[dts v.kj,cls v.kc,its v.ki,mtI (keyL v.ki 0),iv 0,iv 0,iv f.1,iv f.2]))
  (fun i x hx hi _=>by
   rw[h39ab2a,g39ab2a]
   obtain⟨k,c,h1,h2⟩:=class_ex (hok i x hx)
   have hs:=sup_p hB hv.toEvOk hok x hx h1 h2 (hv.cm c (lMg h2)).2.1
   unfold supX
   rw[h1]
   simp only[h2]
   cases hq:fe (supS v n x) c.supers 0 with
   |none=>rw[hq]at hs;simp at hs;simp[idxK_its hx,hi,hs,wL hi hv.i]
   |some u=>rw[hq]at hs;simp at hs;simp[idxK_its hx,hi,hs])
  (fun _=>by rw[h39ab2a,g39ab2a];simp)
 simp at h
 rw[h]
 unfold supA
 cases fe (fun _ x=>supX v n x) v.ki 0<;>rfl
omit hB in
theorem bnds_p(m:PV):ev (q39ab4a (iv 0) (iv l.length) (bds l) (bds l) (dts v.kj) (cls v.kc) (its v.ki) m)=some (match bndF v l with|some (e,at_)=>(0,[dts v.kj,cls v.kc,its v.ki,m,iv 0,iv 0,iv e,iv at_])|none=>(1,[dts v.kj,cls v.kc,its v.ki,m,iv 0,iv 0])):=by
 have hlN:l.length≤maxN:=by unfold maxN;omega
 have h:=ev_first l (bndE v l) (fun i=>q39ab4a (iv i) (iv l.length) (bds l) (bds l) (dts v.kj) (cls v.kc) (its v.ki) m) (1,[dts v.kj,cls v.kc,its v.ki,m,iv 0,iv 0]) (fun f=>(0,[dts v.kj,cls v.kc,its v.ki,m,iv 0,iv 0,iv f.1,iv f.2]))
  (fun i y hy hi _=>by
   rw[h39ab4a,g39ab4a]
   have hm:=method_p v (clsOk hv) y.name
   have hf:=find_bd1 (l.take i) (by rw[List.length_take];omega) y
   rw[fi_any]at hf
   unfold bndE
   cases hM:mth v y.name with
   |some p=>
    obtain⟨j,k⟩:=p
    rw[hM]at hm
    simp only at hm
    cases hA:(l.take i).any (isBd y.name)<;>rw[hA]at hf<;>simp[idxK_bds hy,hi,hm,slcK_bds (Nat.le_of_lt hi),hf,need_f]
   |none=>
    rw[hM]at hm
    simp only at hm
    cases hA:(l.take i).any (isBd y.name)<;>rw[hA]at hf<;>simp[idxK_bds hy,hi,hm,slcK_bds (Nat.le_of_lt hi),hf,need_f,need_t,wL hi hlN])
  (fun _=>by rw[h39ab4a,g39ab4a];simp)
 simp at h
 rw[h]
 unfold bndF
 cases fe (bndE v l) l 0<;>rfl
theorem run_p:∃m,ev (q39a (bds l) (dts v.kj) (cls v.kc) (its v.ki) (.rows []))=some (0,[dts v.kj,cls v.kc,its v.ki,m]++match checkF v n l with|some (e,a)=>[iv e,iv a]|none=>[iv 0,iv 0]):=by
 have h1:=datas_p hv (.rows [])
 have h2:=classes_p hB hv (.rows [])
 have h3:=ins_p hv l hl
 unfold checkF
 cases hA:datasF v with
 |some f=>obtain⟨e,a⟩:=f;rw[hA]at h1;simp only at h1 ⊢;exact⟨_,Evl.of (by rw[h39a,g39a];simp[h1];rfl)⟩
 |none=>
  rw[hA]at h1
  simp only at h1 ⊢
  cases hC:classesF v n with
  |some f=>obtain⟨e,a⟩:=f;rw[hC]at h2;simp only at h2 ⊢;exact⟨_,Evl.of (by rw[h39a,g39a];simp[h1,h2];rfl)⟩
  |none=>
   rw[hC]at h2
   simp only at h2 ⊢
   cases hI:insF v with
   |some f=>obtain⟨e,a⟩:=f;rw[hI]at h3;simp only at h3 ⊢;obtain⟨m,h3⟩:=h3;exact⟨m,Evl.of (by rw[h39a,g39a];simp[h1,h2,h3])⟩
   |none=>
    rw[hI]at h3
    simp only at h3 ⊢
    have h4:=sups_p hB hv l (hok_of hI)
    have h5:=bnds_p hv l hl (mtI (keyL v.ki 0))
    cases hS:supA v n with
    |some f=>obtain⟨e,a⟩:=f;rw[hS]at h4;simp only at h4 ⊢;exact⟨_,Evl.of (by rw[h39a,g39a];simp[h1,h2,h3,h4];rfl)⟩
    |none=>
     rw[hS]at h4
     simp only at h4 ⊢
     cases hD:bndF v l with
     |some f=>obtain⟨e,a⟩:=f;rw[hD]at h5;simp only at h5 ⊢;exact⟨_,Evl.of (by rw[h39a,g39a];simp[h1,h2,h3,h4,h5];rfl)⟩
     |none=>rw[hD]at h5;simp only at h5 ⊢;exact⟨_,Evl.of (by rw[h39a,g39a];simp[h1,h2,h3,h4,h5];rfl)⟩
end
inductive Pt.Ok:Pt→Prop where
 |mk (k:Int) (s:ByteArray) (n:Int) (ks:List Pt) (a:Int) (h:ks.length≤maxN) (hk:∀t∈ks,Pt.Ok t):Pt.Ok (.mk k s n ks a)
mutual
def Ex.Ok:Ex→Prop
 |.mk _ _ _ t ks xs bs _=>t.Ok∧(ks.length≤maxN∧Ex.OkL ks)∧(xs.length≤maxN∧Al.OkL xs)∧(bs.length≤maxN∧Bd.OkL bs)
def Al.Ok:Al→Prop
 |.mk p e=>p.Ok∧e.Ok
def Bd.Ok:Bd→Prop
 |.mk _ e _=>e.Ok
def Ex.OkL:List Ex→Prop
 |[]=>True
 |x::l=>x.Ok∧Ex.OkL l
def Al.OkL:List Al→Prop
 |[]=>True
 |x::l=>x.Ok∧Al.OkL l
def Bd.OkL:List Bd→Prop
 |[]=>True
 |x::l=>x.Ok∧Bd.OkL l
end
theorem Ex.OkL_iff:∀l,Ex.OkL l↔∀x∈l,x.Ok
 |[]=>by simp[Ex.OkL]
 |x::l=>by simp[Ex.OkL,Ex.OkL_iff l]
theorem Al.OkL_iff:∀l,Al.OkL l↔∀x∈l,x.Ok
 |[]=>by simp[Al.OkL]
 |x::l=>by simp[Al.OkL,Al.OkL_iff l]
theorem Bd.OkL_iff:∀l,Bd.OkL l↔∀x∈l,x.Ok
 |[]=>by simp[Bd.OkL]
 |x::l=>by simp[Bd.OkL,Bd.OkL_iff l]
def Cn.Ok(x:Cn):Prop:=x.args.length≤maxN∧∀y∈x.args,y.Ok
def Dt.Ok(x:Dt):Prop:=x.params.length≤maxN∧(x.cons.length≤maxN∧∀y∈x.cons,y.Ok)∧x.deriv.length≤maxN
def Md.Ok(x:Md):Prop:=x.t.Ok∧(allT x.t).length≤1048576
def Cl.Ok(x:Cl):Prop:=x.supers.length≤maxN∧(x.methods.length≤maxN∧∀y∈x.methods,y.Ok)∧(x.defaults.length≤maxN∧∀y∈x.defaults,y.Ok)
def Pd.Ok(x:Pd):Prop:=x.t.Ok
def It.Ok(x:It):Prop:=x.head.Ok∧(x.ctx.length≤maxN∧∀y∈x.ctx,y.Ok)∧(x.binds.length≤maxN∧∀y∈x.binds,y.Ok)
end Go.Proofs.YtjpjcjnacnlhdaaGreat
