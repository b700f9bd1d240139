/- Joined. -/
import Derived.Test.YtjpjcjnacnlhdaaGreatBf
set_option linter.unusedSimpArgs false
set_option linter.unusedVariables false
set_option linter.unusedSectionVars false
namespace Go.Proofs.YtjpjcjnacnlhdaaGreat.X
open Go.RowKit
def Good{α:Type}(L:List Tk)(s:St)(enc:α→List PV)(ok:α→Nat→Nat→Prop)(r:Res):Prop:=
 ∃k ys s' v,r=.ok (k,sts L s' ys)∧wdPs ys=enc v∧s'.a≤L.length∧mu L s'≤mu L s-1∧ok v (mu L s) (mu L s')
def Par{α:Type}(L:List Tk)(n:Nat)(q:St→Q)(enc:α→List PV)(ok:α→Nat→Nat→Prop):Prop:=
 ∀s:St,s.a≤L.length→mu L s≤n→∃v s',ev (q s)=some (0,sts L s' (enc v))∧s'.a≤L.length∧mu L s'≤mu L s-1∧ok v (mu L s) (mu L s')
section
variable{α:Type}{L:List Tk}{n:Nat}{enc:α→List PV}{ok:α→Nat→Nat→Prop}
theorem Par.weak{q qw:St→Q}(hw:∀s,body PG EE TT ev (qw s)=weakD (ev (q s)))(h:∀s:St,s.a≤L.length→mu L s≤n→Good L s enc ok (body PG EE TT ev (q s))):Par L n qw enc ok:=fun s h1 h2=>by
 obtain⟨k,ys,s',v,e1,e2,e3⟩:=h s h1 h2
 have e:ev (q s)=some (k,sts L s' ys):=Evl.of e1
 exact⟨v,s',Evl.of (by rw[hw,e];simp[weakD_some,sts,e2]),e3⟩
theorem Par.mono{q:St→Q}{m:Nat}(hm:m≤n)(h:Par L n q enc ok):Par L m q enc ok:=fun s h1 h2=>h s h1 (Nat.le_trans h2 hm)
theorem Good.of{s:St}(k:Nat)(ys:List PV)(s':St)(v:α)(h1:wdPs ys=enc v)(h2:s'.a≤L.length)(h3:mu L s'≤mu L s-1)(h4:ok v (mu L s) (mu L s')):Good L s enc ok (.ok (k,sts L s' ys)):=⟨k,ys,s',v,rfl,h1,h2,h3,h4⟩
theorem Good.ofUp{s s1:St}(k:Nat)(ys:List PV)(v:α)(h1:wdPs ys=enc v)(h2:s1.up.a≤L.length)(h3:mu L s1.up≤mu L s-1)(h4:ok v (mu L s) (mu L s1.up)):Good L s enc ok (.ok (k,tks L::iv s1.up.a::iv s1.lv::iv s1.e::iv s1.w::ys)):=
 ⟨k,ys,s1.up,v,by show _=Res.ok (k,tks L::iv s1.up.a::iv s1.up.lv::iv s1.up.e::iv s1.up.w::ys);rw[up_lv,up_e,up_w],h1,h2,h3,h4⟩
end
def dnS(s:St):St:=⟨s.a,IntKind.i64.wrap (s.lv-1),s.e,s.w⟩
theorem mu_dn{L:List Tk}(s:St):mu L (dnS s)=mu L s:=rfl
theorem may_t{L:List Tk}{x:ByteArray}{s:St}(h:isB L x s=true):mayS L x s=s.up:=by unfold mayS;rw[if_pos h]
theorem may_f{L:List Tk}{x:ByteArray}{s:St}(h:isB L x s=false):mayS L x s=s:=by unfold mayS;rw[h];rfl
theorem mu_zero{L:List Tk}{s:St}(h:s.e≠0):mu L s=0:=by unfold mu;rw[if_neg h]
abbrev tyC(t:Ty):List PV:=[iv t.kind,sv t.name,iv t.n,tys t.kids]
def tyOk(t:Ty)(m m':Nat):Prop:=t.Ok∧((m=0∧(allT t).length≤1)∨(allT t).length+1≤2*(m-m'))
def ty0(k:Int)(s:ByteArray):Ty:=.mk k s 0 []
theorem ty0_ok(k:Int)(s:ByteArray):(ty0 k s).Ok:=.mk _ _ _ _ (by simp[maxN]) (fun t ht=>by cases ht)
theorem ty0_len(k:Int)(s:ByteArray):(allT (ty0 k s)).length=1:=by simp[ty0,allT,allL]
theorem allT_pos(t:Ty):1≤(allT t).length:=by rw[allT_eq];simp
theorem tyOk.of{t:Ty}{m m':Nat}(h1:t.Ok)(h2:(allT t).length+1≤2*(m-m')):tyOk t m m':=⟨h1,.inr h2⟩
theorem kids_le:∀(l:List Ty),l.length≤(allL l).length
 |[]=>by simp
 |t::l=>by
  have h1:=kids_le l
  have h2:=allT_pos t
  rw[allL]
  simp
  omega
theorem allT_mk(k:Int)(s:ByteArray)(n:Int)(l:List Ty):(allT (.mk k s n l)).length=(allL l).length+1:=by rw[allT];simp
theorem slTy:SlT PG 45 4 56:=SlT.of (by kernel_rfl)
theorem raw_tys(l:List Ty):Raw 4 (l.map Ty.cells) (l.map Ty.cells):=.of l Ty.wd (fun x=>by rw[Ty.cells_eq];rfl) (fun x=>by rw[Ty.cells_eq];simp)
@[simp] theorem ty_kind(k:Int)(s:ByteArray)(n:Int)(l:List Ty):(Ty.mk k s n l).kind=k:=rfl
@[simp] theorem ty_name(k:Int)(s:ByteArray)(n:Int)(l:List Ty):(Ty.mk k s n l).name=s:=rfl
@[simp] theorem ty_n(k:Int)(s:ByteArray)(n:Int)(l:List Ty):(Ty.mk k s n l).n=n:=rfl
@[simp] theorem ty_kids(k:Int)(s:ByteArray)(n:Int)(l:List Ty):(Ty.mk k s n l).kids=l:=rfl
@[simp] theorem tys_nil:tys []=.rows []:=rfl
theorem tys_two(x y:Ty):tys [x,y]=.rows [tyC x,tyC y]:=by simp[tys,Ty.cells_eq]
abbrev qTy(L:List Tk)(s:St):Q:=q72aw (tks L) (iv s.a) (iv s.lv) (iv s.e) (iv s.w)
abbrev qAt(L:List Tk)(s:St):Q:=q69aw (tks L) (iv s.a) (iv s.lv) (iv s.e) (iv s.w)
section
variable{L:List Tk}(hL:L.length≤1000000)
include hL
theorem atype_ok{n:Nat}(ih:Par L n (qTy L) tyC tyOk):Par L (n+1) (qAt L) tyC tyOk:=
 Par.weak (q:=fun s=>q69a (tks L) (iv s.a) (iv s.lv) (iv s.e) (iv s.w)) (fun s=>h69aw ev _ _ _ _ _) fun s hs hm=>by
  show Good L s tyC tyOk (body PG EE TT ev (q69a (tks L) (iv s.a) (iv s.lv) (iv s.e) (iv s.w)))
  rw[h69a,g69a]
  simp[next_m,Tk.cells]
  refine bK_ind (fun h2=>?_) (fun h2=>bK_ind (fun h1=>?_) (fun h1=>?_))
  ·simp only[decide_eq_true_eq]at h2
   obtain⟨he,hl⟩:=nextT_in (L:=L) (s:=s) (by omega)
   have hmu:=mu_up he hl
   have hp:=mu_pos (L:=L) he
   simp[up_a hl hL]
   refine Good.ofUp 0 [iv 3,sv (nextT L s).text,iv 0,.lit (.slice none 0 0)] (ty0 3 (nextT L s).text) (by simp[ty0,Ty.kind,Ty.name,Ty.n,Ty.kids,tys]) (by rw[up_aa];exact hl) hmu (.of (ty0_ok _ _) (by rw[ty0_len];omega))
  ·simp only[decide_eq_true_eq]at h1
   obtain⟨he,hl⟩:=nextT_in (L:=L) (s:=s) (by omega)
   have hmu:=mu_up he hl
   have hp:=mu_pos (L:=L) he
   simp[up_a hl hL]
   refine Good.ofUp 0 [iv 1,sv (nextT L s).text,iv 0,.lit (.slice none 0 0)] (ty0 1 (nextT L s).text) (by simp[ty0,Ty.kind,Ty.name,Ty.n,Ty.kids,tys]) (by rw[up_aa];exact hl) hmu (.of (ty0_ok _ _) (by rw[ty0_len];omega))
  ·have t1:=take_mu (L:=L) (k:=7) (x:=⟨#[40]⟩) (by decide) s
   have t2:=take_a (k:=7) (x:=⟨#[40]⟩) (by decide) hs
   simp[take_m hL (k:=7) (by decide),may_m hL,Tk.cells]
   generalize takeS L 7 ⟨#[40]⟩ s=s1 at *
   refine bK_ind (fun hb=>?_) (fun hb=>?_)
   ·obtain⟨m1,m2⟩:=may_in hb
    have he:=(is_in hb).1
    have hp:=mu_pos (L:=L) he
    rw[may_t hb]
    refine Good.of 0 _ s1.up (ty0 3 ⟨#[85,110,105,116]⟩) (by simp[ty0,Ty.kind,Ty.name,Ty.n,Ty.kids,tys]) m2 (by omega) (.of (ty0_ok _ _) (by rw[ty0_len];omega))
   ·rw[may_f hb]
    obtain⟨v,s2,e1,e2,e3,e4⟩:=ih s1 t2 (by omega)
    have t3:=take_mu (L:=L) (k:=7) (x:=⟨#[41]⟩) (by decide) s2
    have t4:=take_a (k:=7) (x:=⟨#[41]⟩) (by decide) e2
    simp[e1,take_m hL (k:=7) (by decide),Tk.cells]
    refine Good.of 0 _ _ v (by simp) t4 (by omega) ⟨e4.1,?_⟩
    rcases e4.2 with⟨z1,z2⟩|z
    ·by_cases hz:mu L s=0
     ·exact .inl ⟨hz,z2⟩
     ·right;omega
    ·right;omega
end
section
variable{L:List Tk}(hL:L.length≤1000000)
include hL
theorem ty_b{n:Nat}(hat:Par L n (qAt L) tyC tyOk)(k:Int)(nm:ByteArray)(z:Int):∀(m:Nat) (s:St) (l:List Ty),mu L s≤m→m≤n→s.a≤L.length→l.length+m≤2000000→∃s' l',
  ev (q72ab0b (tks L) (iv s.a) (iv s.lv) (iv s.e) (iv s.w) (iv k) (sv nm) (iv z) (l.map Ty.cells))=some (1,sts L s' [iv k,sv nm,iv z,tys (l++l'),iv 0,sv eB,iv 0,.lit (.slice none 0 0)])∧
  s'.a≤L.length∧mu L s'≤mu L s∧(∀t∈l',t.Ok)∧(allL l').length+l'.length≤2*(mu L s-mu L s'):=by
 intro m
 induction m with
 |zero=>
  intro s l hm hn hs hl
  obtain⟨b,h1,h2⟩:=starts_ok (L:=L) 0 s
  cases b with
  |true=>have:=mu_pos (L:=L) (h2 rfl).1;omega
  |false=>exact⟨s,[],Evl.of (by rw[h72ab0b,g72ab0b];simp[h1,tys]),hs,Nat.le_refl _,(fun t ht=>by cases ht),by simp[allL]⟩
 |succ m ih=>
  intro s l hm hn hs hl
  obtain⟨b,h1,h2⟩:=starts_ok (L:=L) 0 s
  cases b with
  |false=>exact⟨s,[],Evl.of (by rw[h72ab0b,g72ab0b];simp[h1,tys]),hs,Nat.le_refl _,(fun t ht=>by cases ht),by simp[allL]⟩
  |true=>
   have hp:=mu_pos (L:=L) (h2 rfl).1
   obtain⟨v,s1,e1,e2,e3,e4⟩:=hat s hs (by omega)
   obtain⟨s2,l',g1,g2,g3,g4,g5⟩:=ih s1 (l++[v]) (by omega) (by omega) e2 (by simp;omega)
   have hv:(allT v).length+1≤2*(mu L s-mu L s1):=by
    rcases e4.2 with⟨z1,_⟩|z
    ·omega
    ·exact z
   refine⟨s2,v::l',Evl.of ?_,g2,by omega,?_,?_⟩
   ·rw[h72ab0b,g72ab0b]
    rw[List.map_append,List.map_cons,List.map_nil,Ty.cells_eq v,List.append_assoc]at g1
    have ha:=fun k'=>appK_raw (P:=PG) (d:=.fail) (k:=k') slTy (raw_tys l) (c:=tyC v) rfl (by simp) (by simp;omega) (by decide)
    simp[h1,e1,ha,g1]
   ·intro t ht
    rcases List.mem_cons.1 ht with rfl|ht
    ·exact e4.1
    ·exact g4 t ht
   ·simp only[allL,List.length_append,List.length_cons]
    omega
theorem ty_a{n:Nat}(hat:Par L n (qAt L) tyC tyOk)(k:Int)(nm:ByteArray)(z:Int)(s:St)(hm:mu L s≤n)(hs:s.a≤L.length):∃s' l',
  ((l'=[]∧ev (q72ab0a (tks L) (iv s.a) (iv s.lv) (iv s.e) (iv s.w) (iv k) (sv nm) (iv z))=some (0,sts L s' [iv k,sv nm,iv z,.lit (.slice none 0 0),iv 0,sv eB,iv 0,.lit (.slice none 0 0)]))∨
   ev (q72ab0a (tks L) (iv s.a) (iv s.lv) (iv s.e) (iv s.w) (iv k) (sv nm) (iv z))=some (1,sts L s' [iv k,sv nm,iv z,tys l',iv 0,sv eB,iv 0,.lit (.slice none 0 0)]))∧
  s'.a≤L.length∧mu L s'≤mu L s∧(∀t∈l',t.Ok)∧(allL l').length+l'.length≤2*(mu L s-mu L s'):=by
 obtain⟨b,h1,h2⟩:=starts_ok (L:=L) 0 s
 cases b with
 |false=>exact⟨s,[],.inl ⟨rfl,Evl.of (by rw[h72ab0a,g72ab0a];simp[h1])⟩,hs,Nat.le_refl _,(fun t ht=>by cases ht),by simp[allL]⟩
 |true=>
  have hp:=mu_pos (L:=L) (h2 rfl).1
  obtain⟨v,s1,e1,e2,e3,e4⟩:=hat s hs (by omega)
  have hml:mu L s1≤L.length+1:=by unfold mu;split<;>omega
  obtain⟨s2,l',g1,g2,g3,g4,g5⟩:=ty_b hL hat k nm z (mu L s1) s1 [v] (Nat.le_refl _) (by omega) e2 (by simp;omega)
  have hv:(allT v).length+1≤2*(mu L s-mu L s1):=by
   rcases e4.2 with⟨z1,_⟩|z
   ·omega
   ·exact z
  refine⟨s2,v::l',.inr (Evl.of ?_),g2,by omega,?_,?_⟩
  ·rw[h72ab0a,g72ab0a]
   rw[List.map_cons,List.map_nil,Ty.cells_eq v]at g1
   simp[h1,e1,g1]
  ·intro t ht
   rcases List.mem_cons.1 ht with rfl|ht
   ·exact e4.1
   ·exact g4 t ht
  ·simp only[allL,List.length_append,List.length_cons]
   omega
theorem type_ok{n:Nat}(ih:Par L n (qTy L) tyC tyOk):Par L (n+1) (qTy L) tyC tyOk:=
 Par.weak (q:=fun s=>q72a (tks L) (iv s.a) (iv s.lv) (iv s.e) (iv s.w)) (fun s=>h72aw ev _ _ _ _ _) fun s hs hm=>by
  show Good L s tyC tyOk (body PG EE TT ev (q72a (tks L) (iv s.a) (iv s.lv) (iv s.e) (iv s.w)))
  rw[h72a,g72a]
  by_cases he:s.e=0
  ·have hp:=mu_pos (L:=L) he
   have d1:=deep_mu (L:=L) s
   have d2:=deep_a (L:=L) s
   simp[eq_true he,deep_m,next_m,Tk.cells]
   generalize deepS L s=s1 at *
   have hs1:s1.a≤L.length:=by omega
   refine bK_ind (fun h2=>?_) (fun h2=>?_)
   ·simp only[decide_eq_true_eq]at h2
    obtain⟨he1,hl1⟩:=nextT_in (L:=L) (s:=s1) (by omega)
    have hmu:=mu_up he1 hl1
    have hp1:=mu_pos (L:=L) he1
    obtain⟨s2,l,hc,e2,m2,g4,g5⟩:=ty_a hL (atype_ok hL ih) 3 (nextT L s1).text 0 s1.up (by omega) (by rw[up_aa];exact hl1)
    have hx:(Ty.mk 3 (nextT L s1).text 0 l).Ok:=.mk _ _ _ _ (by have:=kids_le l;have hml:mu L s1.up≤L.length+1:=(by unfold mu;split<;>omega);unfold maxN;omega) g4
    have hk:=allT_mk 3 (nextT L s1).text 0 l
    rcases hc with⟨rfl,hc⟩|hc
    ·simp only[up_a hl1 hL]
     simp only[up_lv,up_e,up_w]at hc
     simp[hc,may_m hL]
     refine bK_ind (fun hb=>?_) (fun hb=>?_)
     ·obtain⟨b1,b2⟩:=may_in hb
      have bp:=mu_pos (L:=L) (is_in hb).1
      rw[may_t hb]
      obtain⟨y,s3,f1,f2,f3,f4⟩:=ih s2.up b2 (by omega)
      simp[f1]
      refine Good.of 1 _ (dnS s3) (.mk 3 ⟨#[45,62]⟩ 0 [(Ty.mk 3 (nextT L s1).text 0 []),y]) (by simp[wdP_rows,wdPss_cons,wdPss_nil,tys_two]) f2 (by rw[mu_dn];omega) (.of (.mk _ _ _ _ (by simp[maxN]) (by simp[hx,f4.1])) ?_)
      rw[allT_mk,mu_dn]
      simp only[allL,List.length_append,List.length_nil]
      rcases f4.2 with⟨z1,z2⟩|z<;>omega
     ·rw[may_f hb]
      exact Good.of 0 _ (dnS s2) (Ty.mk 3 (nextT L s1).text 0 []) (by simp) e2 (by rw[mu_dn];omega) (.of hx (by rw[mu_dn];omega))
    ·simp only[up_a hl1 hL]
     simp only[up_lv,up_e,up_w]at hc
     simp[hc,may_m hL]
     refine bK_ind (fun hb=>?_) (fun hb=>?_)
     ·obtain⟨b1,b2⟩:=may_in hb
      have bp:=mu_pos (L:=L) (is_in hb).1
      rw[may_t hb]
      obtain⟨y,s3,f1,f2,f3,f4⟩:=ih s2.up b2 (by omega)
      simp[f1]
      refine Good.of 1 _ (dnS s3) (.mk 3 ⟨#[45,62]⟩ 0 [(Ty.mk 3 (nextT L s1).text 0 l),y]) (by simp[wdP_rows,wdPss_cons,wdPss_nil,tys_two]) f2 (by rw[mu_dn];omega) (.of (.mk _ _ _ _ (by simp[maxN]) (by simp[hx,f4.1])) ?_)
      rw[allT_mk,mu_dn]
      simp only[allL,List.length_append,List.length_nil]
      rcases f4.2 with⟨z1,z2⟩|z<;>omega
     ·rw[may_f hb]
      exact Good.of 1 _ (dnS s2) (Ty.mk 3 (nextT L s1).text 0 l) (by simp) e2 (by rw[mu_dn];omega) (.of hx (by rw[mu_dn];omega))
   ·obtain⟨x,s2,e1,e2,e3,e4⟩:=atype_ok hL ih s1 hs1 (by omega)
    have hx:=e4.1
    simp[e1,may_m hL]
    have hk:(allT x).length+1≤2*(mu L s-mu L s2):=by
     rcases e4.2 with⟨z1,z2⟩|z<;>omega
    refine bK_ind (fun hb=>?_) (fun hb=>?_)
    ·obtain⟨b1,b2⟩:=may_in hb
     have bp:=mu_pos (L:=L) (is_in hb).1
     rw[may_t hb]
     obtain⟨y,s3,f1,f2,f3,f4⟩:=ih s2.up b2 (by omega)
     simp[f1]
     refine Good.of 1 _ (dnS s3) (.mk 3 ⟨#[45,62]⟩ 0 [x,y]) (by simp[wdP_rows,wdPss_cons,wdPss_nil,tys_two]) f2 (by rw[mu_dn];omega) (.of (.mk _ _ _ _ (by simp[maxN]) (by simp[hx,f4.1])) ?_)
     rw[allT_mk,mu_dn]
     simp only[allL,List.length_append,List.length_nil]
     rcases f4.2 with⟨z1,z2⟩|z<;>omega
    ·rw[may_f hb]
     exact Good.of 0 _ (dnS s2) x (by simp) e2 (by rw[mu_dn];omega) (.of hx (by rw[mu_dn];omega))
  ·simp[he]
   exact Good.of 0 _ s (ty0 0 eB) (by simp[ty0]) hs (by have:=mu_zero (L:=L) he;omega) ⟨ty0_ok _ _,.inl ⟨mu_zero he,by rw[ty0_len];omega⟩⟩
theorem types_ok:∀n,Par L n (qTy L) tyC tyOk
 |0=>(type_ok hL (n:=0) fun s hs hm=>by
   have he:s.e≠0:=fun he=>by have:=mu_pos (L:=L) he;omega
   refine⟨ty0 0 eB,s,Evl.of ?_,hs,by omega,ty0_ok _ _,.inl ⟨by omega,by rw[ty0_len];omega⟩⟩
   rw[h72aw,Evl.of (q:=q72a (tks L) (iv s.a) (iv s.lv) (iv s.e) (iv s.w)) (r:=(0,sts L s [iv 0,sv eB,iv 0,.lit (.slice none 0 0)])) (by rw[h72a,g72a];simp[he])]
   simp[weakD_some,sts,ty0]).mono (Nat.zero_le _)
 |n+1=>type_ok hL (types_ok n)
theorem atypes_ok(n:Nat):Par L n (qAt L) tyC tyOk:=(atype_ok hL (types_ok hL n)).mono (Nat.le_succ _)
end
abbrev nilS:PV:=.lit (.slice none 0 0)
abbrev ptC(t:Pt):List PV:=[iv t.kind,sv t.name,iv t.n,pts t.kids,iv t.at_]
def ptOk(t:Pt)(_ _:Nat):Prop:=t.Ok
@[simp] theorem pt_kind(k:Int)(s:ByteArray)(n:Int)(l:List Pt)(a:Int):(Pt.mk k s n l a).kind=k:=rfl
@[simp] theorem pt_name(k:Int)(s:ByteArray)(n:Int)(l:List Pt)(a:Int):(Pt.mk k s n l a).name=s:=rfl
@[simp] theorem pt_n(k:Int)(s:ByteArray)(n:Int)(l:List Pt)(a:Int):(Pt.mk k s n l a).n=n:=rfl
@[simp] theorem pt_kids(k:Int)(s:ByteArray)(n:Int)(l:List Pt)(a:Int):(Pt.mk k s n l a).kids=l:=rfl
@[simp] theorem pt_at(k:Int)(s:ByteArray)(n:Int)(l:List Pt)(a:Int):(Pt.mk k s n l a).at_=a:=rfl
@[simp] theorem pts_nil:pts []=.rows []:=rfl
theorem pt0_ok(k:Int)(s:ByteArray)(n a:Int):(Pt.mk k s n [] a).Ok:=.mk _ _ _ _ _ (by simp[maxN]) (fun t ht=>by cases ht)
theorem isK_nil_pts{β:Type}(d:β)(l:List Pt)(k:β):isK d nilS (pts l) k=d:=isK_nilr d _ k
theorem slPt:SlT PG 176 5 64:=SlT.of (by kernel_rfl)
abbrev qPt(L:List Tk)(s:St):Q:=q151aw (tks L) (iv s.a) (iv s.lv) (iv s.e) (iv s.w)
abbrev qAp(L:List Tk)(s:St):Q:=q154a (tks L) (iv s.a) (iv s.lv) (iv s.e) (iv s.w)
abbrev qApw(L:List Tk)(s:St):Q:=q154aw (tks L) (iv s.a) (iv s.lv) (iv s.e) (iv s.w)
def ApG(L:List Tk)(s:St)(r:Res):Prop:=∃(v:Pt) (kd:PV) (s':St),r=.ok (0,sts L s' [iv v.kind,sv v.name,iv v.n,kd,iv v.at_])∧(kd=nilS∧v.kids=[]∨kd=pts v.kids)∧((nextT L s).kind=2→kd=nilS∧v.kids=[])∧s'.a≤L.length∧mu L s'≤mu L s-1∧v.Ok
theorem ApG.up{L:List Tk}{s:St}(k:Int)(x:ByteArray)(n a:Int)(he:s.e=0)(hl:s.a<L.length):ApG L s (.ok (0,tks L::iv s.up.a::iv s.lv::iv s.e::iv s.w::[iv k,sv x,iv n,nilS,iv a])):=
 ⟨.mk k x n [] a,nilS,s.up,by show _=Res.ok (0,tks L::iv s.up.a::iv s.up.lv::iv s.up.e::iv s.up.w::_);rw[up_lv,up_e,up_w];rfl,.inl ⟨rfl,rfl⟩,fun _=>⟨rfl,rfl⟩,by rw[up_aa];exact hl,mu_up he hl,pt0_ok _ _ _ _⟩
section
variable{L:List Tk}(hL:L.length≤1000000)
include hL
theorem apat_g{n:Nat}(ih:Par L n (qPt L) ptC ptOk)(s:St)(hs:s.a≤L.length)(hm:mu L s≤n+1):ApG L s (body PG EE TT ev (qAp L s)):=by
 rw[h154a,g154a]
 simp[next_m,Tk.cells]
 refine bK_ind (fun h2=>?_) (fun h2=>bK_ind (fun h1=>?_) (fun h1=>bK_ind (fun h3=>?_) (fun h3=>?_)))
 ·simp only[decide_eq_true_eq]at h2
  obtain⟨he,hl⟩:=nextT_in (L:=L) (s:=s) (by omega)
  simp only[up_a hl hL]
  exact .up 3 _ 0 _ he hl
 ·simp only[decide_eq_true_eq]at h1
  obtain⟨he,hl⟩:=nextT_in (L:=L) (s:=s) (by omega)
  simp only[up_a hl hL]
  exact .up 2 _ 0 _ he hl
 ·simp only[decide_eq_true_eq]at h3
  obtain⟨he,hl⟩:=nextT_in (L:=L) (s:=s) (by omega)
  simp only[up_a hl hL]
  exact .up 4 eB _ _ he hl
 ·simp[is_m]
  refine bK_ind (fun hu=>?_) (fun hu=>?_)
  ·obtain⟨he,hl⟩:=is_in hu
   simp only[up_a hl hL]
   exact .up 1 eB 0 _ he hl
  ·have hk:(nextT L s).kind≠2:=by simpa using h2
   have t1:=take_mu (L:=L) (k:=7) (x:=⟨#[40]⟩) (by decide) s
   have t2:=take_a (k:=7) (x:=⟨#[40]⟩) (by decide) hs
   simp[take_m hL (k:=7) (by decide),may_m hL,Tk.cells]
   generalize takeS L 7 ⟨#[40]⟩ s=s1 at *
   refine bK_ind (fun hb=>?_) (fun hb=>?_)
   ·obtain⟨m1,m2⟩:=may_in hb
    have hp:=mu_pos (L:=L) (is_in hb).1
    rw[may_t hb]
    exact⟨.mk 3 ⟨#[85,110,105,116]⟩ 0 [] (nextT L s).at_,nilS,s1.up,rfl,.inl ⟨rfl,rfl⟩,fun _=>⟨rfl,rfl⟩,m2,by omega,pt0_ok _ _ _ _⟩
   ·rw[may_f hb]
    obtain⟨v,s2,e1,e2,e3,e4⟩:=ih s1 t2 (by omega)
    have t3:=take_mu (L:=L) (k:=7) (x:=⟨#[41]⟩) (by decide) s2
    have t4:=take_a (k:=7) (x:=⟨#[41]⟩) (by decide) e2
    simp[e1,take_m hL (k:=7) (by decide),Tk.cells]
    exact⟨v,pts v.kids,_,rfl,.inr rfl,fun h=>absurd h hk,t4,by omega,e4⟩
theorem apat_ok{n:Nat}(ih:Par L n (qPt L) ptC ptOk)(s:St)(hs:s.a≤L.length)(hm:mu L s≤n+1):∃(v:Pt) (kd:PV) (s':St),ev (qAp L s)=some (0,sts L s' [iv v.kind,sv v.name,iv v.n,kd,iv v.at_])∧ev (qApw L s)=some (0,sts L s' (ptC v))∧
  (kd=nilS∧v.kids=[]∨kd=pts v.kids)∧((nextT L s).kind=2→kd=nilS∧v.kids=[])∧s'.a≤L.length∧mu L s'≤mu L s-1∧v.Ok:=by
 obtain⟨v,kd,s',h1,h2,h3⟩:=apat_g hL ih s hs hm
 have e:ev (qAp L s)=some (0,sts L s' [iv v.kind,sv v.name,iv v.n,kd,iv v.at_]):=Evl.of h1
 refine⟨v,kd,s',e,Evl.of ?_,h2,h3⟩
 rw[h154aw]
 show weakD (ev (qAp L s))=_
 rw[e]
 rcases h2 with⟨rfl,hk⟩|rfl
 ·simp[weakD_some,sts,hk]
 ·simp[weakD_some,sts]
theorem pt_e{n:Nat}(ih:Par L n (qPt L) ptC ptOk)(k:Int)(nm:ByteArray)(z a:Int):∀(m:Nat) (s:St) (es:List (List PV)) (l:List Pt),Raw 5 es (l.map Pt.cells)→mu L s≤m→m≤n+1→s.a≤L.length→l.length+m≤2000000→∃s' es' l',
  ev (q151ab0e (tks L) (iv s.a) (iv s.lv) (iv s.e) (iv s.w) (iv k) (sv nm) (iv z) es (iv a))=some (1,sts L s' [iv k,sv nm,iv z,.rows es',iv a,iv 0,sv eB,iv 0,nilS,iv 0])∧Raw 5 es' ((l++l').map Pt.cells)∧
  s'.a≤L.length∧mu L s'≤mu L s∧(∀t∈l',t.Ok)∧l'.length≤mu L s-mu L s':=by
 intro m
 induction m with
 |zero=>
  intro s es l hr hm hn hs hl
  obtain⟨b,h1,h2⟩:=starts_ok (L:=L) 1 s
  cases b with
  |true=>have:=mu_pos (L:=L) (h2 rfl).1;omega
  |false=>exact⟨s,es,[],Evl.of (by rw[h151ab0e,g151ab0e];simp[h1]),by simpa using hr,hs,Nat.le_refl _,(fun t ht=>by cases ht),by simp⟩
 |succ m ihm=>
  intro s es l hr hm hn hs hl
  obtain⟨b,h1,h2⟩:=starts_ok (L:=L) 1 s
  cases b with
  |false=>exact⟨s,es,[],Evl.of (by rw[h151ab0e,g151ab0e];simp[h1]),by simpa using hr,hs,Nat.le_refl _,(fun t ht=>by cases ht),by simp⟩
  |true=>
   have hp:=mu_pos (L:=L) (h2 rfl).1
   obtain⟨v,kd,s1,e1,e1w,hk,_,e2,e3,e4⟩:=apat_ok hL ih s hs (by omega)
   have hln:=hr.len
   rw[List.length_map]at hln
   have hns:NS kd:=by rcases hk with⟨rfl,_⟩|rfl<;>simp
   have hw:wdPs [iv v.kind,sv v.name,iv v.n,kd,iv v.at_]=v.cells:=by
    rw[Pt.cells_eq]
    rcases hk with⟨rfl,hk⟩|rfl
    ·simp[hk]
    ·simp
   have hr':=hr.app hw rfl (by simp[hns])
   have ha:=fun k'=>appK_raw (P:=PG) (d:=.fail) (k:=k') slPt hr (c:=[iv v.kind,sv v.name,iv v.n,kd,iv v.at_]) rfl (by simp[hns]) (by omega) (by decide)
   have hr2:Raw 5 (es++[[iv v.kind,sv v.name,iv v.n,kd,iv v.at_]]) ((l++[v]).map Pt.cells):=by simpa using hr'
   obtain⟨s2,es',l',g1,g2,g3,g4,g5,g6⟩:=ihm s1 _ (l++[v]) hr2 (by omega) (by omega) e2 (by simp;omega)
   refine⟨s2,es',v::l',Evl.of ?_,by simpa using g2,g3,by omega,?_,by simp;omega⟩
   ·rw[h151ab0e,g151ab0e]
    rcases hk with⟨rfl,hk⟩|rfl
    ·simp[h1,e1,ha,g1]
    ·simp[h1,e1,e1w,isK_nil_pts,ha,g1]
   ·intro t ht
    rcases List.mem_cons.1 ht with rfl|ht
    ·exact e4
    ·exact g5 t ht
theorem pt_a{n:Nat}(ih:Par L n (qPt L) ptC ptOk)(k:Int)(nm:ByteArray)(z a:Int)(s:St)(hm:mu L s≤n+1)(hs:s.a≤L.length):∃s' es' l',
  ((l'=[]∧ev (q151ab0a (tks L) (iv s.a) (iv s.lv) (iv s.e) (iv s.w) (iv k) (sv nm) (iv z) (iv a))=some (0,sts L s' [iv k,sv nm,iv z,nilS,iv a,iv 0,sv eB,iv 0,nilS,iv 0]))∨
   (Raw 5 es' (l'.map Pt.cells)∧ev (q151ab0a (tks L) (iv s.a) (iv s.lv) (iv s.e) (iv s.w) (iv k) (sv nm) (iv z) (iv a))=some (1,sts L s' [iv k,sv nm,iv z,.rows es',iv a,iv 0,sv eB,iv 0,nilS,iv 0])))∧
  s'.a≤L.length∧mu L s'≤mu L s∧(∀t∈l',t.Ok)∧l'.length≤mu L s-mu L s':=by
 obtain⟨b,h1,h2⟩:=starts_ok (L:=L) 1 s
 cases b with
 |false=>exact⟨s,[],[],.inl ⟨rfl,Evl.of (by rw[h151ab0a,g151ab0a];simp[h1])⟩,hs,Nat.le_refl _,(fun t ht=>by cases ht),by simp⟩
 |true=>
  have hp:=mu_pos (L:=L) (h2 rfl).1
  obtain⟨v,kd,s1,e1,e1w,hk,_,e2,e3,e4⟩:=apat_ok hL ih s hs (by omega)
  have hml:mu L s1≤L.length+1:=by unfold mu;split<;>omega
  have hns:NS kd:=by rcases hk with⟨rfl,_⟩|rfl<;>simp
  have hw:wdPs [iv v.kind,sv v.name,iv v.n,kd,iv v.at_]=v.cells:=by
   rw[Pt.cells_eq]
   rcases hk with⟨rfl,hk⟩|rfl
   ·simp[hk]
   ·simp
  have hr:Raw 5 [[iv v.kind,sv v.name,iv v.n,kd,iv v.at_]] ([v].map Pt.cells):=.one hw rfl (by simp[hns])
  obtain⟨s2,es',l',g1,g2,g3,g4,g5,g6⟩:=pt_e hL ih k nm z a (mu L s1) s1 _ [v] hr (Nat.le_refl _) (by omega) e2 (by simp;omega)
  refine⟨s2,es',v::l',.inr ⟨by simpa using g2,Evl.of ?_⟩,g3,by omega,?_,by simp;omega⟩
  ·rw[h151ab0a,g151ab0a]
   rcases hk with⟨rfl,hk⟩|rfl
   ·simp[h1,e1,g1]
   ·simp[h1,e1,e1w,isK_nil_pts,g1]
  ·intro t ht
   rcases List.mem_cons.1 ht with rfl|ht
   ·exact e4
   ·exact g5 t ht
theorem pat_ok{n:Nat}(ih:Par L n (qPt L) ptC ptOk):Par L (n+1) (qPt L) ptC ptOk:=
 Par.weak (q:=fun s=>q151a (tks L) (iv s.a) (iv s.lv) (iv s.e) (iv s.w)) (fun s=>h151aw ev _ _ _ _ _) fun s hs hm=>by
  show Good L s ptC ptOk (body PG EE TT ev (q151a (tks L) (iv s.a) (iv s.lv) (iv s.e) (iv s.w)))
  rw[h151a,g151a]
  by_cases he:s.e=0
  ·have hp:=mu_pos (L:=L) he
   have d1:=deep_mu (L:=L) s
   have d2:=deep_a (L:=L) s
   simp[eq_true he,deep_m,next_m,Tk.cells]
   generalize deepS L s=s1 at *
   have hs1:s1.a≤L.length:=by omega
   obtain⟨v,kd,s2,e1,e1w,hk,hk2,e2,e3,e4⟩:=apat_ok hL ih s1 hs1 (by omega)
   refine bK_ind (fun h2=>?_) (fun h2=>?_)
   ·simp only[decide_eq_true_eq]at h2
    obtain⟨rfl,hkd⟩:=hk2 h2
    obtain⟨s3,es,l,hc,g1,g2,g3,g4⟩:=pt_a hL ih v.kind v.name v.n v.at_ s2 (by omega) e2
    have hml:mu L s2≤L.length+1:=by unfold mu;split<;>omega
    have hx:(Pt.mk v.kind v.name v.n l v.at_).Ok:=.mk _ _ _ _ _ (by unfold maxN;omega) g3
    rcases hc with⟨rfl,hc⟩|⟨hr,hc⟩
    ·simp[e1,hc]
     exact Good.of 0 _ (dnS s3) _ (by simp) g1 (by rw[mu_dn];omega) hx
    ·simp[e1,hc]
     exact Good.of 1 _ (dnS s3) _ (by simp[hr.wd];rfl) g1 (by rw[mu_dn];omega) hx
   ·rcases hk with⟨rfl,hk⟩|rfl
    ·have hc:ev (q151ab0c (tks L) (iv s2.a) (iv s2.lv) (iv s2.e) (iv s2.w) (iv v.kind) (sv v.name) (iv v.n) (iv v.at_))=some (0,sts L s2 [iv v.kind,sv v.name,iv v.n,nilS,iv v.at_,iv 0,sv eB,iv 0,nilS,iv 0]):=Evl.of (by rw[h151ab0c,g151ab0c];rfl)
     simp[e1,hc]
     exact Good.of 0 _ (dnS s2) v (by simp[hk]) e2 (by rw[mu_dn];omega) e4
    ·have hc:ev (q151ab0d (tks L) (iv s2.a) (iv s2.lv) (iv s2.e) (iv s2.w) (iv v.kind) (sv v.name) (iv v.n) (pts v.kids) (iv v.at_))=some (0,sts L s2 [iv v.kind,sv v.name,iv v.n,pts v.kids,iv v.at_,iv 0,sv eB,iv 0,nilS,iv 0]):=Evl.of (by rw[h151ab0d,g151ab0d];rfl)
     simp[e1,e1w,hc,isK_nil_pts]
     exact Good.of 0 _ (dnS s2) v (by simp) e2 (by rw[mu_dn];omega) e4
  ·simp[he]
   exact Good.of 0 _ s (.mk 0 eB 0 [] 0) (by simp) hs (by have:=mu_zero (L:=L) he;omega) (pt0_ok _ _ _ _)
theorem pats_ok:∀n,Par L n (qPt L) ptC ptOk
 |0=>fun s hs hm=>by
   have he:s.e≠0:=fun he=>by have:=mu_pos (L:=L) he;omega
   refine⟨.mk 0 eB 0 [] 0,s,Evl.of ?_,hs,by omega,pt0_ok _ _ _ _⟩
   rw[h151aw,Evl.of (q:=q151a (tks L) (iv s.a) (iv s.lv) (iv s.e) (iv s.w)) (r:=(0,sts L s [iv 0,sv eB,iv 0,nilS,iv 0])) (by rw[h151a,g151a];simp[he])]
   simp[weakD_some,sts]
 |n+1=>pat_ok hL (pats_ok n)
end
theorem ev_down{σ:Type}(q:σ→Q)(m:σ→Nat)(I:σ→Prop)(F:Rs→Prop)(step:∀s,I s→(∃r,body PG EE TT ev (q s)=.ok r∧F r)∨(∃s',I s'∧m s'<m s∧body PG EE TT ev (q s)=passK (ev (q s'))))(s:σ)(hs:I s):∃r,ev (q s)=some r∧F r:=by
 have key:∀(n:Nat) (s:σ),m s≤n→I s→∃r,ev (q s)=some r∧F r:=by
  intro n
  induction n with
  |zero=>
   intro s hm hs
   rcases step s hs with⟨r,h1,h2⟩|⟨s',_,h2,_⟩
   ·exact⟨r,Evl.of h1,h2⟩
   ·omega
  |succ n ih=>
   intro s hm hs
   rcases step s hs with⟨r,h1,h2⟩|⟨s',h1,h2,h3⟩
   ·exact⟨r,Evl.of h1,h2⟩
   ·obtain⟨r,g1,g2⟩:=ih s' (by omega) h1
    exact⟨r,Evl.of (by rw[h3,g1];rfl),g2⟩
 exact key (m s) s (Nat.le_refl _) hs
theorem wrap_up{i n:Nat}(h:i<n)(hn:n≤100000000):IntKind.i64.wrap ((i:Int)+1)=((i+1:Nat):Int):=by
 rw[wrap_id (by omega)];rfl
def lvls:List (List ByteArray):=[[⟨#[58,61]⟩],[⟨#[124,124]⟩],[⟨#[38,38]⟩],[⟨#[61,61]⟩,⟨#[47,61]⟩,⟨#[60]⟩,⟨#[60,61]⟩,⟨#[62]⟩,⟨#[62,61]⟩],[⟨#[58,58]⟩,⟨#[94]⟩],[⟨#[43]⟩,⟨#[45]⟩],[⟨#[42]⟩,⟨#[47]⟩,⟨#[37]⟩]]
def lvR:List (List PV):=lvls.map fun l=>[strs l]
theorem sl_lv:SlT Tryz.prog 200 1 24:=SlT.of (by kernel_rfl)
section
variable{β:Type}{d:β}{k:AV→β}
theorem lenK_lv:lenK Tryz.prog d 200 (.pv (.rows lvR)) k=k (.pv (iv 7)):=lenK_of (fun _=>by rw[len_ok sl_lv];rfl) (nsa_lit _)
theorem idxK_lv{i:Nat}{l:List ByteArray}(h:lvls[i]?=some l):idxK Tryz.prog d 200 (.pv (.rows lvR)) (.pv (.lit (.int .i64 (i:Int)))) k=k (.cptr [strs l]):=
 idxK_of (fun _=>idx_ok sl_lv (by unfold lvR;rw[List.getElem?_map,h];rfl) rfl) (nsa_c (by simp[NSL_cons,NSL_nil]))
end
theorem lvls_le{i:Nat}{l:List ByteArray}(h:lvls[i]?=some l):l.length≤6:=by
 have hm:=lMg h
 simp only[lvls,List.mem_cons,List.not_mem_nil,or_false]at hm
 rcases hm with rfl|rfl|rfl|rfl|rfl|rfl|rfl<;>decide
theorem level_ok(x:ByteArray):∃k:Int,ev (q137 (sv x))=some (0,[iv k]):=by
 have inner:∀(i:Nat) (l:List ByteArray),lvls[i]?=some l→∃r,ev (q137b2a (iv (0:Nat)) lvR (iv i) (sv x))=some r∧(r=(0,[iv ((i+1:Nat):Int),.rows lvR])∨r=(1,[iv i,.rows lvR,sv x])):=by
  intro i l hl
  have h6:=lvls_le hl
  have hi:i<7:=by
   by_cases h:i<7
   ·exact h
   ·rw[List.getElem?_eq_none (by simp[lvls];omega)]at hl;cases hl
  refine ev_down (σ:=Nat) (fun k=>q137b2a (iv k) lvR (iv i) (sv x)) (fun k=>l.length-k) (fun k=>k≤l.length) _ (fun k hk=>?_) 0 (Nat.zero_le _)
  by_cases hlt:k<l.length
  ·have he:=lGg hlt
   by_cases hx:l[k]=x
   ·left
    refine⟨_,?_,.inl rfl⟩
    rw[h137b2a,g137b2a]
    simp[idxK_lv hl,idxK_strs he,hlt,hx,wrap_up hi (by decide)]
   ·right
    refine⟨k+1,hlt,by omega,?_⟩
    rw[h137b2a,g137b2a]
    simp[idxK_lv hl,idxK_strs he,hlt,hx,wrap_up hlt (by omega)]
  ·left
   refine⟨_,?_,.inr rfl⟩
   rw[h137b2a,g137b2a]
   simp[idxK_lv hl,hlt]
 have outer:∃r,ev (q137b0a (iv (0:Nat)) lvR (sv x))=some r∧((∃y:Int,r=(0,[iv y,.rows lvR]))∨r=(1,[.rows lvR])):=by
  refine ev_down (σ:=Nat) (fun i=>q137b0a (iv i) lvR (sv x)) (fun k=>7-k) (fun k=>k≤7) _ (fun i hi=>?_) 0 (Nat.zero_le _)
  by_cases hlt:i<7
  ·have he:lvls[i]?=some (lvls[i]'hlt):=lGg hlt
   have hlt':(i:Int)<7:=by omega
   obtain⟨r,h1,h2⟩:=inner i _ he
   rcases h2 with rfl|rfl
   ·left
    refine⟨(0,[iv ((i+1:Nat):Int),.rows lvR]),?_,.inl ⟨_,rfl⟩⟩
    rw[h137b0a,g137b0a]
    simp at h1
    simp[lenK_lv,hlt',h1]
   ·right
    refine⟨i+1,hlt,by omega,?_⟩
    rw[h137b0a,g137b0a]
    simp at h1
    simp[lenK_lv,hlt',h1,wrap_up hlt (by decide)]
  ·left
   refine⟨_,?_,.inr rfl⟩
   have hlt':¬(i:Int)<7:=by omega
   rw[h137b0a,g137b0a]
   simp[lenK_lv,hlt']
 obtain⟨r,h1,h2⟩:=outer
 have hr:(.rows lvR:PV)=.rows [[.rows [[sv ⟨#[58,61]⟩]]],[.rows [[sv ⟨#[124,124]⟩]]],[.rows [[sv ⟨#[38,38]⟩]]],[.rows [[sv ⟨#[61,61]⟩],[sv ⟨#[47,61]⟩],[sv ⟨#[60]⟩],[sv ⟨#[60,61]⟩],[sv ⟨#[62]⟩],[sv ⟨#[62,61]⟩]]],[.rows [[sv ⟨#[58,58]⟩],[sv ⟨#[94]⟩]]],[.rows [[sv ⟨#[43]⟩],[sv ⟨#[45]⟩]]],[.rows [[sv ⟨#[42]⟩],[sv ⟨#[47]⟩],[sv ⟨#[37]⟩]]]]:=rfl
 rw[hr]at h2
 have hr2:lvR=[[.rows [[sv ⟨#[58,61]⟩]]],[.rows [[sv ⟨#[124,124]⟩]]],[.rows [[sv ⟨#[38,38]⟩]]],[.rows [[sv ⟨#[61,61]⟩],[sv ⟨#[47,61]⟩],[sv ⟨#[60]⟩],[sv ⟨#[60,61]⟩],[sv ⟨#[62]⟩],[sv ⟨#[62,61]⟩]]],[.rows [[sv ⟨#[58,58]⟩],[sv ⟨#[94]⟩]]],[.rows [[sv ⟨#[43]⟩],[sv ⟨#[45]⟩]]],[.rows [[sv ⟨#[42]⟩],[sv ⟨#[47]⟩],[sv ⟨#[37]⟩]]]]:=rfl
 rw[hr2]at h1
 simp at h1
 rcases h2 with⟨y,rfl⟩|rfl
 ·exact⟨y,Evl.of (by rw[h137,g137];simp[h1])⟩
 ·exact⟨8,Evl.of (by rw[h137,g137];simp[h1])⟩
theorem side_ok(k:Int):∃y:Int,ev (q138 (iv k))=some (0,[iv y]):=by
 by_cases h1:k=4
 ·exact⟨0,Evl.of (by rw[h138,g138];simp[h1])⟩
 ·by_cases h2:k<6
  ·exact⟨2,Evl.of (by rw[h138,g138];simp[h1,h2])⟩
  ·exact⟨1,Evl.of (by rw[h138,g138];simp[h1,h2])⟩
noncomputable def lvl(x:ByteArray):Int:=(level_ok x).choose
theorem level_m(x:ByteArray):ev (q137 (sv x))=some (0,[iv (lvl x)]):=(level_ok x).choose_spec
noncomputable def sid(k:Int):Int:=(side_ok k).choose
theorem side_m(k:Int):ev (q138 (iv k))=some (0,[iv (sid k)]):=(side_ok k).choose_spec
theorem clash_in(l:List ByteArray)(k:Nat)(hl:l.length≤10000000):∀i:Int,-1≤i∧i<l.length→∃r,ev (q103b2a (iv i) (strs l) (iv k))=some r∧∃j:Int,(-1≤j∧j<l.length)∧r=(0,[iv j,strs l,iv k]):=by
 refine ev_down (σ:=Int) (fun i=>q103b2a (iv i) (strs l) (iv k)) (fun i=>(i+1).toNat) (fun i=>-1≤i∧i<l.length) _ (fun i hi=>?_)
 by_cases h0:0≤i
 ·obtain⟨n,rfl⟩:=Int.eq_ofNat_of_zero_le h0
  have hn:n<l.length:=by omega
  have he:=lGg hn
  by_cases hg:4<lvl l[n]
  ·right
   refine⟨(n:Int)-1,by omega,by omega,?_⟩
   rw[h103b2a,g103b2a]
   have hw:IntKind.i64.wrap ((n:Int)-1)=(n:Int)-1:=wrap_id (by omega)
   simp[idxK_strs he,level_m,hg,hw]
  ·left
   refine⟨_,?_,n,⟨by omega,by omega⟩,rfl⟩
   rw[h103b2a,g103b2a]
   simp[idxK_strs he,level_m,hg]
 ·left
  refine⟨_,?_,i,hi,rfl⟩
  rw[h103b2a,g103b2a]
  simp[h0]
theorem clash_ok(l:List ByteArray)(hl:l.length≤10000000):∃k:Int,ev (q103 (strs l))=some (0,[iv k])∧-1≤k∧k<l.length:=by
 have outer:∃r,ev (q103b0a (iv (0:Nat)) (strs l))=some r∧((∃y:Nat,y<l.length∧r=(0,[iv y]))∨r=(1,[])):=by
  refine ev_down (σ:=Nat) (fun i=>q103b0a (iv i) (strs l)) (fun k=>l.length-k) (fun k=>k≤l.length) _ (fun i hi=>?_) 0 (Nat.zero_le _)
  by_cases hlt:i<l.length
  ·have he:=lGg hlt
   by_cases h4:lvl l[i]=4
   ·have hw:IntKind.i64.wrap ((i:Int)-1)=(i:Int)-1:=wrap_id (by omega)
    obtain⟨r,h1,j,hj,rfl⟩:=clash_in l i hl ((i:Int)-1) (by omega)
    by_cases hj0:0≤j
    ·obtain⟨n,rfl⟩:=Int.eq_ofNat_of_zero_le hj0
     have hn:n<l.length:=by omega
     have he2:=lGg hn
     by_cases h5:lvl l[n]=4
     ·left
      refine⟨_,?_,.inl ⟨i,hlt,rfl⟩⟩
      rw[h103b0a,g103b0a]
      simp[idxK_strs he,hlt,level_m,h4,hw,h1,idxK_strs he2,h5]
     ·right
      refine⟨i+1,hlt,by omega,?_⟩
      rw[h103b0a,g103b0a]
      simp[idxK_strs he,hlt,level_m,h4,hw,h1,idxK_strs he2,h5,wrap_up hlt (by omega)]
    ·right
     refine⟨i+1,hlt,by omega,?_⟩
     rw[h103b0a,g103b0a]
     simp[idxK_strs he,hlt,level_m,h4,hw,h1,hj0,wrap_up hlt (by omega)]
   ·right
    refine⟨i+1,hlt,by omega,?_⟩
    rw[h103b0a,g103b0a]
    simp[idxK_strs he,hlt,level_m,h4,wrap_up hlt (by omega)]
  ·left
   refine⟨_,?_,.inr rfl⟩
   rw[h103b0a,g103b0a]
   simp[hlt]
 obtain⟨r,h1,h2⟩:=outer
 simp at h1
 rcases h2 with⟨y,hy,rfl⟩|rfl
 ·exact⟨y,Evl.of (by rw[h103,g103];simp[h1]),by omega,by omega⟩
 ·exact⟨-1,Evl.of (by rw[h103,g103];simp[h1]),by omega,by omega⟩
abbrev exC(e:Ex):List PV:=[iv e.kind,sv e.name,iv e.n,iv e.t.kind,sv e.t.name,iv e.t.n,tys e.t.kids,exs e.kids,als e.alts,bds e.binds,iv e.at_]
def ExW(e:Ex)(ys:List PV):Prop:=∃A B C D,ys=[iv e.kind,sv e.name,iv e.n,iv e.t.kind,sv e.t.name,iv e.t.n,.rows A,.rows B,.rows C,.rows D,iv e.at_]∧Raw 4 A (e.t.kids.map Ty.cells)∧Raw 11 B (e.kids.map Ex.cells)∧Raw 16 C (e.alts.map Al.cells)∧Raw 13 D (e.binds.map Bd.cells)
theorem Raw.ns'{sz:Nat}{es cs:List (List PV)}(h:Raw sz es cs):NS (.rows es):=.rows _ h.ns
theorem ExW.wd{e:Ex}{ys:List PV}(h:ExW e ys):wdPs ys=exC e:=by
 obtain⟨A,B,C,D,rfl,h1,h2,h3,h4⟩:=h
 simp[h1.wd,h2.wd,h3.wd,h4.wd]
 exact⟨rfl,rfl,rfl,rfl⟩
theorem ExW.ns{e:Ex}{ys:List PV}(h:ExW e ys):NSL ys:=by
 obtain⟨A,B,C,D,rfl,h1,h2,h3,h4⟩:=h
 simp[h1.ns',h2.ns',h3.ns',h4.ns']
theorem raw_exs(l:List Ex):Raw 11 (l.map Ex.cells) (l.map Ex.cells):=.of l Ex.wd (fun x=>by rw[Ex.cells_eq];rfl) (fun x=>by rw[Ex.cells_eq];simp)
theorem raw_als(l:List Al):Raw 16 (l.map Al.cells) (l.map Al.cells):=.of l Al.wd (fun x=>by rw[Al.cells_eq];rfl) (fun x=>by rw[Al.cells_eq];simp)
theorem raw_bds(l:List Bd):Raw 13 (l.map Bd.cells) (l.map Bd.cells):=.of l Bd.wd (fun x=>by rw[Bd.cells_eq];rfl) (fun x=>by rw[Bd.cells_eq];simp)
theorem ExW.plain(e:Ex):ExW e (exC e):=⟨_,_,_,_,rfl,raw_tys _,raw_exs _,raw_als _,raw_bds _⟩
def exM(k:Int)(s:ByteArray)(n:Int)(ks:List Ex)(a:Int):Ex:=.mk k s n (.mk 0 eB 0 []) ks [] [] a
theorem exM_ok(k:Int)(s:ByteArray)(n:Int)(ks:List Ex)(a:Int)(hl:ks.length≤1000)(h:∀x∈ks,x.Ok):(exM k s n ks a).Ok:=by
 rw[exM,Ex.Ok]
 exact⟨ty0_ok _ _,⟨by unfold maxN;omega,(Ex.OkL_iff ks).2 h⟩,⟨by simp[maxN],trivial⟩,by simp[maxN],trivial⟩
theorem ExW.mk(k:Int)(s:ByteArray)(n:Int)(ks:List Ex)(a:Int){B:List (List PV)}(h:Raw 11 B (ks.map Ex.cells)):ExW (exM k s n ks a) [iv k,sv s,iv n,iv 0,sv eB,iv 0,.rows [],.rows B,.rows [],.rows [],iv a]:=
 ⟨[],B,[],[],rfl,Raw.nil _,h,Raw.nil _,Raw.nil _⟩
theorem ExW.two{x y:Ex}{xs ys:List PV}(h1:ExW x xs)(h2:ExW y ys):Raw 11 [xs,ys] ([x,y].map Ex.cells):=by
 have e1:xs.length=11:=by obtain⟨A,B,C,D,rfl,_⟩:=h1;rfl
 have e2:ys.length=11:=by obtain⟨A,B,C,D,rfl,_⟩:=h2;rfl
 have:=(Raw.one (sz:=11) (c':=x.cells) (by rw[Ex.cells_eq];exact h1.wd) e1 h1.ns).app (c':=y.cells) (by rw[Ex.cells_eq];exact h2.wd) e2 h2.ns
 exact this
theorem build_in(ops:List Tk)(hl:ops.length≤10000000)(x:PV)(f to:Nat)(hto:to≤ops.length):∀s:Nat×Nat,(f≤s.2∧s.2<to∧s.1≤to∧f≤s.1)→∃r,ev (q104b0a (iv s.1) (iv to) (tks ops) (iv s.2) x (iv f))=some r∧∃at_:Nat,(f≤at_∧at_<to)∧r=(0,[iv 0,sv eB,iv 0,iv 0,sv eB,iv 0,nilS,nilS,nilS,nilS,iv 0,x,tks ops,iv f,iv at_,iv to]):=by
 refine ev_down (σ:=Nat×Nat) (fun s=>q104b0a (iv s.1) (iv to) (tks ops) (iv s.2) x (iv f)) (fun s=>to-s.1) (fun s=>f≤s.2∧s.2<to∧s.1≤to∧f≤s.1) _ (fun s hs=>?_)
 obtain⟨i,a⟩:=s
 obtain⟨h1,h2,h3,h4⟩:=hs
 simp only at h1 h2 h3 h4 ⊢
 by_cases hi:i<to
 ·have ha:=lGg (l:=ops) (i:=a) (by omega)
  have hb:=lGg (l:=ops) (i:=i) (by omega)
  have hw:=wrap_up hi (by omega)
  by_cases c1:lvl (ops[i]).text<lvl (ops[a]).text
  ·right
   refine⟨(i+1,i),⟨by omega,hi,by simp;omega,by simp;omega⟩,by simp;omega,?_⟩
   rw[h104b0a,g104b0a]
   simp[hi,idxK_tks ha,idxK_tks hb,level_m,c1,hw]
  ·by_cases c2:lvl (ops[i]).text=lvl (ops[a]).text
   ·by_cases c3:sid (lvl (ops[a]).text)=1
    ·right
     refine⟨(i+1,i),⟨by omega,hi,by simp;omega,by simp;omega⟩,by simp;omega,?_⟩
     rw[h104b0a,g104b0a]
     simp[hi,idxK_tks ha,idxK_tks hb,level_m,side_m,c1,c2,c3,hw]
    ·right
     refine⟨(i+1,a),⟨by omega,by omega,by simp;omega,by simp;omega⟩,by simp;omega,?_⟩
     rw[h104b0a,g104b0a]
     simp[hi,idxK_tks ha,idxK_tks hb,level_m,side_m,c1,c2,c3,hw]
   ·right
    refine⟨(i+1,a),⟨by omega,by omega,by simp;omega,by simp;omega⟩,by simp;omega,?_⟩
    rw[h104b0a,g104b0a]
    simp[hi,idxK_tks ha,idxK_tks hb,level_m,c1,c2,hw]
 ·left
  refine⟨_,?_,a,⟨h1,h2⟩,rfl⟩
  rw[h104b0a,g104b0a]
  simp[hi]
theorem build_ok(l:List Ex)(ops:List Tk)(hl:ops.length≤2000000)(hn:l.length=ops.length+1)(hok:∀x∈l,x.Ok):∀(m f to:Nat),f≤to→to≤ops.length→to-f≤m→∃(e:Ex) (ys:List PV),ev (q104w (exs l) (tks ops) (iv f) (iv to))=some (0,ys)∧ExW e ys∧e.Ok:=by
 intro m
 induction m with
 |zero=>
  intro f to h1 h2 h3
  have:f=to:=by omega
  subst this
  have he:=lGg (l:=l) (i:=f) (by omega)
  have hb:ev (q104 (exs l) (tks ops) (iv f) (iv f))=some (0,exC l[f]):=Evl.of (by rw[h104,g104];simp[idxK_exs he])
  exact⟨l[f],exC l[f],Evl.of (by rw[h104w];show weakK (ev (q104 (exs l) (tks ops) (iv f) (iv f)))=_;rw[hb];simp;exact⟨rfl,rfl,rfl,rfl⟩),.plain _,hok _ (List.getElem_mem _)⟩
 |succ m ih=>
  intro f to h1 h2 h3
  by_cases hft:f=to
  ·exact ih f to h1 h2 (by omega)
  ·obtain⟨r,g1,a,⟨ha1,ha2⟩,rfl⟩:=build_in ops (by omega) (exs l) f to h2 (f+1,f) ⟨Nat.le_refl _,by simp;omega,by simp;omega,by simp⟩
   obtain⟨x,xs,e1,e2,e3⟩:=ih f a ha1 (by omega) (by omega)
   obtain⟨y,ys,f1,f2,f3⟩:=ih (a+1) to (by omega) h2 (by omega)
   have hk:=lGg (l:=ops) (i:=a) (by omega)
   have hw:=wrap_up (i:=f) (n:=to) (by omega) (by omega)
   have hw2:=wrap_up (i:=a) (n:=to) (by omega) (by omega)
   have hne:¬((f:Int)=(to:Int)):=by omega
   have h2k:=ExW.two e2 f2
   obtain⟨A,B,C,D,rfl,xr⟩:=e2
   obtain⟨A',B',C',D',rfl,yr⟩:=f2
   simp at g1 f1
   by_cases c1:(ops[a]).text=⟨#[38,38]⟩
   ·refine⟨exM 10 eB 0 [x,y] (ops[a]).at_,_,Evl.of ?_,.mk _ _ _ _ _ h2k,exM_ok _ _ _ _ _ (by simp) (by simp[e3,f3])⟩
    rw[h104w]
    have hb:ev (q104 (exs l) (tks ops) (iv f) (iv to))=some (1,[iv 10,sv eB,iv 0,iv 0,sv eB,iv 0,nilS,.rows [_,_],nilS,nilS,iv (ops[a]).at_]):=Evl.of (by rw[h104,g104];simp[hne,hw,hw2,g1,e1,f1,idxK_tks hk,c1];exact⟨rfl,rfl⟩)
    show weakK (ev (q104 (exs l) (tks ops) (iv f) (iv to)))=_
    rw[hb]
    simp
   ·by_cases c2:(ops[a]).text=⟨#[124,124]⟩
    ·refine⟨exM 11 eB 0 [x,y] (ops[a]).at_,_,Evl.of ?_,.mk _ _ _ _ _ h2k,exM_ok _ _ _ _ _ (by simp) (by simp[e3,f3])⟩
     rw[h104w]
     have hb:ev (q104 (exs l) (tks ops) (iv f) (iv to))=some (1,[iv 11,sv eB,iv 0,iv 0,sv eB,iv 0,nilS,.rows [_,_],nilS,nilS,iv (ops[a]).at_]):=Evl.of (by rw[h104,g104];simp[hne,hw,hw2,g1,e1,f1,idxK_tks hk,c1,c2];exact⟨rfl,rfl⟩)
     show weakK (ev (q104 (exs l) (tks ops) (iv f) (iv to)))=_
     rw[hb]
     simp
    ·have hv:Raw 11 [[iv 3,sv (ops[a]).text,iv 0,iv 0,sv eB,iv 0,nilS,nilS,nilS,nilS,iv (ops[a]).at_],[iv x.kind,sv x.name,iv x.n,iv x.t.kind,sv x.t.name,iv x.t.n,.rows A,.rows B,.rows C,.rows D,iv x.at_]] ([exM 3 (ops[a]).text 0 [] (ops[a]).at_,x].map Ex.cells):=by
      have q1:ExW x [iv x.kind,sv x.name,iv x.n,iv x.t.kind,sv x.t.name,iv x.t.n,.rows A,.rows B,.rows C,.rows D,iv x.at_]:=⟨A,B,C,D,rfl,xr⟩
      have:=(Raw.one (sz:=11) (c:=[iv 3,sv (ops[a]).text,iv 0,iv 0,sv eB,iv 0,nilS,nilS,nilS,nilS,iv (ops[a]).at_]) (c':=(exM 3 (ops[a]).text 0 [] (ops[a]).at_).cells) (by rw[Ex.cells_eq];simp;exact⟨rfl,rfl,rfl,rfl,rfl,rfl,rfl,rfl,rfl,rfl,rfl⟩) rfl (by simp)).app (c':=x.cells) (by rw[Ex.cells_eq];exact q1.wd) rfl q1.ns
      exact this
     have hz:Raw 11 [[iv 5,sv eB,iv 0,iv 0,sv eB,iv 0,nilS,.rows [[iv 3,sv (ops[a]).text,iv 0,iv 0,sv eB,iv 0,nilS,nilS,nilS,nilS,iv (ops[a]).at_],[iv x.kind,sv x.name,iv x.n,iv x.t.kind,sv x.t.name,iv x.t.n,.rows A,.rows B,.rows C,.rows D,iv x.at_]],nilS,nilS,iv (ops[a]).at_],[iv y.kind,sv y.name,iv y.n,iv y.t.kind,sv y.t.name,iv y.t.n,.rows A',.rows B',.rows C',.rows D',iv y.at_]] ([exM 5 eB 0 [exM 3 (ops[a]).text 0 [] (ops[a]).at_,x] (ops[a]).at_,y].map Ex.cells):=by
      have q1:ExW y [iv y.kind,sv y.name,iv y.n,iv y.t.kind,sv y.t.name,iv y.t.n,.rows A',.rows B',.rows C',.rows D',iv y.at_]:=⟨A',B',C',D',rfl,yr⟩
      have:=(Raw.one (sz:=11) (c:=[iv 5,sv eB,iv 0,iv 0,sv eB,iv 0,nilS,.rows [[iv 3,sv (ops[a]).text,iv 0,iv 0,sv eB,iv 0,nilS,nilS,nilS,nilS,iv (ops[a]).at_],[iv x.kind,sv x.name,iv x.n,iv x.t.kind,sv x.t.name,iv x.t.n,.rows A,.rows B,.rows C,.rows D,iv x.at_]],nilS,nilS,iv (ops[a]).at_]) (c':=(exM 5 eB 0 [exM 3 (ops[a]).text 0 [] (ops[a]).at_,x] (ops[a]).at_).cells) (by rw[Ex.cells_eq];simp only[wdPs_cons,wdPs_nil,wdP_int,wdP_str,wdP_nil,hv.wd];rfl) rfl (by have:=hv.ns';simp[this])).app (c':=y.cells) (by rw[Ex.cells_eq];exact q1.wd) rfl q1.ns
      exact this
     refine⟨exM 5 eB 0 [exM 5 eB 0 [exM 3 (ops[a]).text 0 [] (ops[a]).at_,x] (ops[a]).at_,y] (ops[a]).at_,_,Evl.of ?_,.mk _ _ _ _ _ hz,exM_ok _ _ _ _ _ (by simp) ?_⟩
     ·rw[h104w]
      have hb:ev (q104 (exs l) (tks ops) (iv f) (iv to))=some (1,[iv 5,sv eB,iv 0,iv 0,sv eB,iv 0,nilS,.rows [_,_],nilS,nilS,iv (ops[a]).at_]):=Evl.of (by rw[h104,g104];simp[hne,hw,hw2,g1,e1,f1,idxK_tks hk,c1,c2];exact⟨rfl,rfl⟩)
      show weakK (ev (q104 (exs l) (tks ops) (iv f) (iv to)))=_
      rw[hb]
      simp
     ·intro z hz
      simp only[List.mem_cons,List.not_mem_nil,or_false]at hz
      rcases hz with rfl|rfl
      ·refine exM_ok _ _ _ _ _ (by simp) ?_
       intro w hw
       simp only[List.mem_cons,List.not_mem_nil,or_false]at hw
       rcases hw with rfl|rfl
       ·exact exM_ok _ _ _ _ _ (by simp) (by simp)
       ·exact e3
      ·exact f3
abbrev exOk(e:Ex)(_ _:Nat):Prop:=e.Ok
abbrev bdOk(b:Bd)(_ _:Nat):Prop:=b.Ok
section
variable(k:Int)(s:ByteArray)(n:Int)(t:Ty)(ks:List Ex)(al:List Al)(bs:List Bd)(a:Int)
@[simp] theorem ex_kind:(Ex.mk k s n t ks al bs a).kind=k:=rfl
@[simp] theorem ex_name:(Ex.mk k s n t ks al bs a).name=s:=rfl
@[simp] theorem ex_n:(Ex.mk k s n t ks al bs a).n=n:=rfl
@[simp] theorem ex_t:(Ex.mk k s n t ks al bs a).t=t:=rfl
@[simp] theorem ex_kids:(Ex.mk k s n t ks al bs a).kids=ks:=rfl
@[simp] theorem ex_alts:(Ex.mk k s n t ks al bs a).alts=al:=rfl
@[simp] theorem ex_binds:(Ex.mk k s n t ks al bs a).binds=bs:=rfl
@[simp] theorem ex_at:(Ex.mk k s n t ks al bs a).at_=a:=rfl
end
@[simp] theorem bd_name(s:ByteArray)(e:Ex)(a:Int):(Bd.mk s e a).name=s:=rfl
@[simp] theorem bd_e(s:ByteArray)(e:Ex)(a:Int):(Bd.mk s e a).e=e:=rfl
@[simp] theorem bd_at(s:ByteArray)(e:Ex)(a:Int):(Bd.mk s e a).at_=a:=rfl
@[simp] theorem al_p(p:Pt)(e:Ex):(Al.mk p e).p=p:=rfl
@[simp] theorem al_e(p:Pt)(e:Ex):(Al.mk p e).e=e:=rfl
@[simp] theorem exs_nil:exs []=.rows []:=rfl
@[simp] theorem als_nil:als []=.rows []:=rfl
@[simp] theorem bds_nil:bds []=.rows []:=rfl
theorem exs_one(x:Ex):exs [x]=.rows [exC x]:=by simp[exs,Ex.cells_eq]
theorem exs_three(x y z:Ex):exs [x,y,z]=.rows [exC x,exC y,exC z]:=by simp[exs,Ex.cells_eq]
abbrev bdC(b:Bd):List PV:=[sv b.name,iv b.e.kind,sv b.e.name,iv b.e.n,iv b.e.t.kind,sv b.e.t.name,iv b.e.t.n,tys b.e.t.kids,exs b.e.kids,als b.e.alts,bds b.e.binds,iv b.e.at_,iv b.at_]
abbrev alP(p:Pt)(e:Ex):List PV:=[iv p.kind,sv p.name,iv p.n,pts p.kids,iv p.at_,iv e.kind,sv e.name,iv e.n,iv e.t.kind,sv e.t.name,iv e.t.n,tys e.t.kids,exs e.kids,als e.alts,bds e.binds,iv e.at_]
theorem bds_one(x:Bd):bds [x]=.rows [bdC x]:=by simp[bds,Bd.cells_eq]
theorem wdss1(c:List PV):wdPss [c]=[wdPs c]:=by rw[wdPss_cons,wdPss_nil]
theorem wdss2(c d:List PV):wdPss [c,d]=[wdPs c,wdPs d]:=by rw[wdPss_cons,wdss1]
theorem wdss3(c d e:List PV):wdPss [c,d,e]=[wdPs c,wdPs d,wdPs e]:=by rw[wdPss_cons,wdss2]
abbrev T0:Ty:=.mk 0 eB 0 []
theorem T0_ok:T0.Ok:=ty0_ok 0 eB
abbrev ex0:Ex:=.mk 0 eB 0 T0 [] [] [] 0
theorem ex_ok(k:Int)(s:ByteArray)(n:Int)(t:Ty)(ks:List Ex)(al:List Al)(bs:List Bd)(a:Int)(ht:t.Ok)(h1:ks.length≤100000000)(h2:∀x∈ks,x.Ok)(h3:al.length≤100000000)(h4:∀x∈al,x.Ok)(h5:bs.length≤100000000)(h6:∀x∈bs,x.Ok):(Ex.mk k s n t ks al bs a).Ok:=by
 rw[Ex.Ok]
 exact⟨ht,⟨by unfold maxN;omega,(Ex.OkL_iff ks).2 h2⟩,⟨by unfold maxN;omega,(Al.OkL_iff al).2 h4⟩,by unfold maxN;omega,(Bd.OkL_iff bs).2 h6⟩
theorem ex1_ok(k:Int)(s:ByteArray)(n:Int)(t:Ty)(ks:List Ex)(a:Int)(ht:t.Ok)(h1:ks.length≤100)(h2:∀x∈ks,x.Ok):(Ex.mk k s n t ks [] [] a).Ok:=ex_ok _ _ _ _ _ _ _ _ ht (by omega) h2 (by simp) (by simp) (by simp) (by simp)
theorem ex0_ok:ex0.Ok:=ex1_ok _ _ _ _ _ _ T0_ok (by simp) (by simp)
theorem slBd:SlT PG 26 13 192:=SlT.of (by kernel_rfl)
theorem slAl:SlT PG 85 16 232:=SlT.of (by kernel_rfl)
theorem slEx:SlT PG 84 11 168:=SlT.of (by kernel_rfl)
theorem slSt:SlT PG 52 1 16:=SlT.of (by kernel_rfl)
theorem raw_tks(l:List Tk):Raw 4 (l.map Tk.cells) (l.map Tk.cells):=.of l (fun x=>by simp[Tk.cells]) (fun x=>rfl) (fun x=>by simp[Tk.cells])
theorem raw_strs(l:List ByteArray):Raw 1 (l.map fun s=>[sv s]) (l.map fun s=>[sv s]):=.of l (fun x=>by simp) (fun x=>rfl) (fun x=>by simp)
abbrev qEx(L:List Tk)(s:St):Q:=q73aw (tks L) (iv s.a) (iv s.lv) (iv s.e) (iv s.w)
abbrev qNm(L:List Tk)(s:St):Q:=q71a (tks L) (iv s.a) (iv s.lv) (iv s.e) (iv s.w)
abbrev qBd(L:List Tk)(s:St):Q:=q35aw (tks L) (iv s.a) (iv s.lv) (iv s.e) (iv s.w)
abbrev qLa(L:List Tk)(a:Int)(s:St):Q:=q135aw (iv a) (tks L) (iv s.a) (iv s.lv) (iv s.e) (iv s.w)
abbrev qAm(L:List Tk)(s:St):Q:=q136aw (tks L) (iv s.a) (iv s.lv) (iv s.e) (iv s.w)
abbrev qOp(L:List Tk)(s:St):Q:=q102aw (tks L) (iv s.a) (iv s.lv) (iv s.e) (iv s.w)
theorem mu_le(L:List Tk)(s:St):mu L s≤L.length+1:=by unfold mu;split<;>omega
section
variable{L:List Tk}(hL:L.length≤1000000)
include hL
theorem name_ok(n:Nat):Par L n (qNm L) Tk.cells (fun _ _ _=>True):=fun s hs hm=>by
 have key:∃(v:Tk) (s':St),body PG EE TT ev (qNm L s)=.ok (0,sts L s' v.cells)∧s'.a≤L.length∧mu L s'≤mu L s-1:=by
  rw[h71a,g71a]
  cases hb:isB L ⟨#[40]⟩ s with
  |true=>
   obtain⟨b1,b2⟩:=may_in hb
   have t1:=take_mu (L:=L) (k:=5) (x:=eB) (by decide) s.up
   have t2:=take_a (L:=L) (k:=5) (x:=eB) (by decide) b2
   have t3:=take_mu (L:=L) (k:=7) (x:=⟨#[41]⟩) (by decide) (takeS L 5 eB s.up)
   have t4:=take_a (L:=L) (k:=7) (x:=⟨#[41]⟩) (by decide) t2
   refine⟨takeT L 5 eB s.up,_,?_,t4,by omega⟩
   simp[may_m hL,hb,may_t hb,take_m hL (k:=5) (by decide),take_m hL (k:=7) (by decide),Tk.cells]
  |false=>
   have t1:=take_mu (L:=L) (k:=1) (x:=eB) (by decide) s
   have t2:=take_a (L:=L) (k:=1) (x:=eB) (by decide) hs
   refine⟨takeT L 1 eB s,_,?_,t2,t1⟩
   simp[may_m hL,hb,may_f hb,take_m hL (k:=1) (by decide),Tk.cells]
 obtain⟨v,s',h1,h2,h3⟩:=key
 exact⟨v,s',Evl.of h1,h2,h3,trivial⟩
theorem bind_ok{n:Nat}(ih:Par L n (qEx L) exC exOk):Par L (n+1) (qBd L) bdC bdOk:=
 Par.weak (q:=fun s=>q35a (tks L) (iv s.a) (iv s.lv) (iv s.e) (iv s.w)) (fun s=>h35aw ev _ _ _ _ _) fun s hs hm=>by
  show Good L s bdC bdOk (body PG EE TT ev (q35a (tks L) (iv s.a) (iv s.lv) (iv s.e) (iv s.w)))
  rw[h35a,g35a]
  obtain⟨t,s1,e1,e2,e3,_⟩:=name_ok hL (n+1) s hs hm
  have t1:=take_mu (L:=L) (k:=7) (x:=⟨#[61]⟩) (by decide) s1
  have t2:=take_a (L:=L) (k:=7) (x:=⟨#[61]⟩) (by decide) e2
  obtain⟨v,s2,f1,f2,f3,f4⟩:=ih _ t2 (by omega)
  simp[e1,take_m hL (k:=7) (by decide),Tk.cells,f1]
  exact Good.of 0 _ s2 (.mk t.text v t.at_) (by simp) f2 (by omega) (by show Bd.Ok _;rw[Bd.Ok];exact f4)
theorem lam_ok{n:Nat}(ih:Par L n (qEx L) exC exOk):∀m,m≤n+1→∀a,Par L m (qLa L a) exC exOk:=by
 intro m
 induction m with
 |zero=>
  intro _ a
  refine Par.weak (q:=fun s=>q135a (iv a) (tks L) (iv s.a) (iv s.lv) (iv s.e) (iv s.w)) (fun s=>h135aw ev _ _ _ _ _ _) fun s hs hm=>?_
  show Good L s exC exOk (body PG EE TT ev (q135a (iv a) (tks L) (iv s.a) (iv s.lv) (iv s.e) (iv s.w)))
  rw[h135a,g135a]
  have t1:=take_mu (L:=L) (k:=1) (x:=eB) (by decide) s
  have t2:=take_a (L:=L) (k:=1) (x:=eB) (by decide) hs
  have hk:(nextT L (takeS L 1 eB s)).kind≠1:=fun h=>by
   have:=mu_pos (L:=L) (nextT_in (L:=L) (s:=takeS L 1 eB s) (by omega)).1
   omega
  have t3:=take_mu (L:=L) (k:=7) (x:=⟨#[45,62]⟩) (by decide) (takeS L 1 eB s)
  have t4:=take_a (L:=L) (k:=7) (x:=⟨#[45,62]⟩) (by decide) t2
  obtain⟨v,s2,f1,f2,f3,f4⟩:=ih _ t4 (by omega)
  simp[next_m,take_m hL (k:=1) (by decide),take_m hL (k:=7) (by decide),Tk.cells,hk,f1]
  exact Good.of 0 _ s2 (.mk 6 (takeT L 1 eB s).text 0 T0 [v] [] [] a) (by simp[wdP_rows,wdss1,exs_one]) f2 (by omega) (ex1_ok _ _ _ _ _ _ T0_ok (by simp) (by simpa using f4))
 |succ m ihm=>
  intro hmn a
  refine Par.weak (q:=fun s=>q135a (iv a) (tks L) (iv s.a) (iv s.lv) (iv s.e) (iv s.w)) (fun s=>h135aw ev _ _ _ _ _ _) fun s hs hm=>?_
  show Good L s exC exOk (body PG EE TT ev (q135a (iv a) (tks L) (iv s.a) (iv s.lv) (iv s.e) (iv s.w)))
  rw[h135a,g135a]
  have t1:=take_mu (L:=L) (k:=1) (x:=eB) (by decide) s
  have t2:=take_a (L:=L) (k:=1) (x:=eB) (by decide) hs
  by_cases hk:(nextT L (takeS L 1 eB s)).kind=1
  ·obtain⟨v,s2,f1,f2,f3,f4⟩:=ihm (by omega) (nextT L (takeS L 1 eB s)).at_ _ t2 (by omega)
   simp[next_m,take_m hL (k:=1) (by decide),Tk.cells,hk,f1]
   exact Good.of 0 _ s2 (.mk 6 (takeT L 1 eB s).text 0 T0 [v] [] [] a) (by simp[wdP_rows,wdss1,exs_one]) f2 (by omega) (ex1_ok _ _ _ _ _ _ T0_ok (by simp) (by simpa using f4))
  ·have t3:=take_mu (L:=L) (k:=7) (x:=⟨#[45,62]⟩) (by decide) (takeS L 1 eB s)
   have t4:=take_a (L:=L) (k:=7) (x:=⟨#[45,62]⟩) (by decide) t2
   obtain⟨v,s2,f1,f2,f3,f4⟩:=ih _ t4 (by omega)
   simp[next_m,take_m hL (k:=1) (by decide),take_m hL (k:=7) (by decide),Tk.cells,hk,f1]
   exact Good.of 0 _ s2 (.mk 6 (takeT L 1 eB s).text 0 T0 [v] [] [] a) (by simp[wdP_rows,wdss1,exs_one]) f2 (by omega) (ex1_ok _ _ _ _ _ _ T0_ok (by simp) (by simpa using f4))
theorem alt_b{n:Nat}(ih:Par L n (qEx L) exC exOk)(k:Int)(nm:ByteArray)(z tk:Int)(tn:ByteArray)(tz:Int)(KR:List (List PV))(a:Int):∀(m:Nat) (s:St) (l:List Al),mu L s≤m→m≤n+1→s.a≤L.length→l.length+m≤2000000→∃s' l',
  ev (q136ab1b (tks L) (iv s.a) (iv s.lv) (iv s.e) (iv s.w) (iv k) (sv nm) (iv z) (iv tk) (sv tn) (iv tz) KR (l.map Al.cells) (iv a))=some (1,sts L s' [iv k,sv nm,iv z,iv tk,sv tn,iv tz,nilS,.rows KR,als (l++l'),nilS,iv a,iv 0,sv eB,iv 0,iv 0,sv eB,iv 0,nilS,nilS,nilS,nilS,iv 0])∧
  s'.a≤L.length∧mu L s'≤mu L s∧(∀x∈l',x.Ok)∧l'.length≤mu L s-mu L s':=by
 intro m
 induction m with
 |zero=>
  intro s l hm hn hs hl
  have he:s.e≠0:=fun he=>by have:=mu_pos (L:=L) he;omega
  exact⟨s,[],Evl.of (by rw[h136ab1b,g136ab1b];simp[he,als]),hs,Nat.le_refl _,(by simp),by simp⟩
 |succ m ihm=>
  intro s l hm hn hs hl
  by_cases he:s.e=0
  ·have hp:=mu_pos (L:=L) he
   obtain⟨p,s1,e1,e2,e3,e4⟩:=pats_ok hL (m+1) s hs hm
   have t1:=take_mu (L:=L) (k:=7) (x:=⟨#[45,62]⟩) (by decide) s1
   have t2:=take_a (L:=L) (k:=7) (x:=⟨#[45,62]⟩) (by decide) e2
   obtain⟨v,s2,f1,f2,f3,f4⟩:=ih _ t2 (by omega)
   have hv:(Al.mk p v).Ok:=by rw[Al.Ok];exact⟨e4,f4⟩
   have ha:=fun k'=>appK_raw (P:=PG) (d:=.fail) (k:=k') slAl (raw_als l) (c:=alP p v) rfl (by simp) (by simp;omega) (by decide)
   have hml:(l++[Al.mk p v]).map Al.cells=l.map Al.cells++[alP p v]:=by rw[List.map_append,List.map_cons,List.map_nil,Al.cells_eq];rfl
   cases hb:isB L ⟨#[124]⟩ s2 with
   |true=>
    obtain⟨b1,b2⟩:=may_in hb
    obtain⟨s3,l',g1,g2,g3,g4,g5⟩:=ihm s2.up (l++[.mk p v]) (by omega) (by omega) b2 (by simp;omega)
    rw[hml,List.append_assoc]at g1
    simp only[up_lv,up_e,up_w]at g1
    refine⟨s3,.mk p v::l',Evl.of ?_,g2,by omega,?_,by simp;omega⟩
    ·rw[h136ab1b,g136ab1b]
     simp[eq_true he,e1,take_m hL (k:=7) (by decide),Tk.cells,f1,ha]
     simp[may_m hL,hb,may_t hb,up_lv,up_e,up_w,g1]
    ·intro x hx
     rcases List.mem_cons.1 hx with rfl|hx
     ·exact hv
     ·exact g4 x hx
   |false=>
    have hc:ev (q136ab1c (tks L) (iv s2.a) (iv s2.lv) (iv s2.e) (iv s2.w) (iv k) (sv nm) (iv z) (iv tk) (sv tn) (iv tz) KR ((l++[Al.mk p v]).map Al.cells) (iv a))=some (1,sts L s2 [iv k,sv nm,iv z,iv tk,sv tn,iv tz,nilS,.rows KR,als (l++[.mk p v]),nilS,iv a,iv 0,sv eB,iv 0,iv 0,sv eB,iv 0,nilS,nilS,nilS,nilS,iv 0]):=Evl.of (by rw[h136ab1c,g136ab1c];rfl)
    rw[hml]at hc
    refine⟨s2,[.mk p v],Evl.of ?_,f2,by omega,by simpa using hv,by simp;omega⟩
    rw[h136ab1b,g136ab1b]
    simp[eq_true he,e1,take_m hL (k:=7) (by decide),Tk.cells,f1,ha]
    simp[may_m hL,hb,may_f hb,hc]
  ·exact⟨s,[],Evl.of (by rw[h136ab1b,g136ab1b];simp[he,als]),hs,Nat.le_refl _,(by simp),by simp⟩
theorem alt_a{n:Nat}(ih:Par L n (qEx L) exC exOk)(k:Int)(nm:ByteArray)(z tk:Int)(tn:ByteArray)(tz:Int)(KR:List (List PV))(a:Int)(s:St)(hm:mu L s≤n+1)(hs:s.a≤L.length):∃s' l',
  ((l'=[]∧ev (q136ab1a (tks L) (iv s.a) (iv s.lv) (iv s.e) (iv s.w) (iv k) (sv nm) (iv z) (iv tk) (sv tn) (iv tz) KR (iv a))=some (0,sts L s' [iv k,sv nm,iv z,iv tk,sv tn,iv tz,nilS,.rows KR,nilS,nilS,iv a,iv 0,sv eB,iv 0,iv 0,sv eB,iv 0,nilS,nilS,nilS,nilS,iv 0]))∨
   ev (q136ab1a (tks L) (iv s.a) (iv s.lv) (iv s.e) (iv s.w) (iv k) (sv nm) (iv z) (iv tk) (sv tn) (iv tz) KR (iv a))=some (1,sts L s' [iv k,sv nm,iv z,iv tk,sv tn,iv tz,nilS,.rows KR,als l',nilS,iv a,iv 0,sv eB,iv 0,iv 0,sv eB,iv 0,nilS,nilS,nilS,nilS,iv 0]))∧
  s'.a≤L.length∧mu L s'≤mu L s∧(∀x∈l',x.Ok)∧l'.length≤100000000:=by
 by_cases he:s.e=0
 ·have hp:=mu_pos (L:=L) he
  obtain⟨p,s1,e1,e2,e3,e4⟩:=pats_ok hL (n+1) s hs hm
  have t1:=take_mu (L:=L) (k:=7) (x:=⟨#[45,62]⟩) (by decide) s1
  have t2:=take_a (L:=L) (k:=7) (x:=⟨#[45,62]⟩) (by decide) e2
  obtain⟨v,s2,f1,f2,f3,f4⟩:=ih _ t2 (by omega)
  have hv:(Al.mk p v).Ok:=by rw[Al.Ok];exact⟨e4,f4⟩
  have hml:[Al.mk p v].map Al.cells=[alP p v]:=by rw[List.map_cons,List.map_nil,Al.cells_eq];rfl
  cases hb:isB L ⟨#[124]⟩ s2 with
  |true=>
   obtain⟨b1,b2⟩:=may_in hb
   have hl2:=mu_le L s2.up
   obtain⟨s3,l',g1,g2,g3,g4,g5⟩:=alt_b hL ih k nm z tk tn tz KR a (mu L s2.up) s2.up [.mk p v] (Nat.le_refl _) (by omega) b2 (by simp;omega)
   rw[hml]at g1
   simp only[up_lv,up_e,up_w]at g1
   refine⟨s3,.mk p v::l',.inr (Evl.of ?_),g2,by omega,?_,by simp;omega⟩
   ·rw[h136ab1a,g136ab1a]
    simp[eq_true he,e1,take_m hL (k:=7) (by decide),Tk.cells,f1]
    simp[may_m hL,hb,may_t hb,up_lv,up_e,up_w,g1]
   ·intro x hx
    rcases List.mem_cons.1 hx with rfl|hx
    ·exact hv
    ·exact g4 x hx
  |false=>
   have hc:ev (q136ab1c (tks L) (iv s2.a) (iv s2.lv) (iv s2.e) (iv s2.w) (iv k) (sv nm) (iv z) (iv tk) (sv tn) (iv tz) KR ([Al.mk p v].map Al.cells) (iv a))=some (1,sts L s2 [iv k,sv nm,iv z,iv tk,sv tn,iv tz,nilS,.rows KR,als [.mk p v],nilS,iv a,iv 0,sv eB,iv 0,iv 0,sv eB,iv 0,nilS,nilS,nilS,nilS,iv 0]):=Evl.of (by rw[h136ab1c,g136ab1c];rfl)
   rw[hml]at hc
   refine⟨s2,[.mk p v],.inr (Evl.of ?_),f2,by omega,by simpa using hv,by simp⟩
   rw[h136ab1a,g136ab1a]
   simp[eq_true he,e1,take_m hL (k:=7) (by decide),Tk.cells,f1]
   simp[may_m hL,hb,may_f hb,hc]
 ·exact⟨s,[],.inl ⟨rfl,Evl.of (by rw[h136ab1a,g136ab1a];simp[he])⟩,hs,Nat.le_refl _,(by simp),by simp⟩
theorem atom_ok{n:Nat}(ih:Par L n (qEx L) exC exOk):Par L (n+1) (qAm L) exC exOk:=
 Par.weak (q:=fun s=>q136a (tks L) (iv s.a) (iv s.lv) (iv s.e) (iv s.w)) (fun s=>h136aw ev _ _ _ _ _) fun s hs hm=>by
  show Good L s exC exOk (body PG EE TT ev (q136a (tks L) (iv s.a) (iv s.lv) (iv s.e) (iv s.w)))
  rw[h136a,g136a]
  simp[next_m,Tk.cells]
  refine bK_ind (fun h1=>?_) (fun h1=>bK_ind (fun h2=>?_) (fun h2=>bK_ind (fun h3=>?_) (fun h3=>bK_ind (fun h4=>?_) (fun h4=>?_))))
  ·simp only[decide_eq_true_eq]at h1
   obtain⟨he,hl⟩:=nextT_in (L:=L) (s:=s) (by omega)
   simp only[up_a hl hL]
   exact Good.ofUp 0 _ (.mk 3 (nextT L s).text 0 T0 [] [] [] (nextT L s).at_) (by simp) (by rw[up_aa];exact hl) (mu_up he hl) (ex1_ok _ _ _ _ _ _ T0_ok (by simp) (by simp))
  ·simp only[decide_eq_true_eq]at h2
   obtain⟨he,hl⟩:=nextT_in (L:=L) (s:=s) (by omega)
   simp only[up_a hl hL]
   exact Good.ofUp 0 _ (.mk 4 (nextT L s).text 0 T0 [] [] [] (nextT L s).at_) (by simp) (by rw[up_aa];exact hl) (mu_up he hl) (ex1_ok _ _ _ _ _ _ T0_ok (by simp) (by simp))
  ·simp only[decide_eq_true_eq]at h3
   obtain⟨he,hl⟩:=nextT_in (L:=L) (s:=s) (by omega)
   simp only[up_a hl hL]
   exact Good.ofUp 0 _ (.mk 1 eB (nextT L s).n T0 [] [] [] (nextT L s).at_) (by simp) (by rw[up_aa];exact hl) (mu_up he hl) (ex1_ok _ _ _ _ _ _ T0_ok (by simp) (by simp))
  ·simp only[decide_eq_true_eq]at h4
   obtain⟨he,hl⟩:=nextT_in (L:=L) (s:=s) (by omega)
   simp only[up_a hl hL]
   exact Good.ofUp 0 _ (.mk 2 (nextT L s).text 0 T0 [] [] [] (nextT L s).at_) (by simp) (by rw[up_aa];exact hl) (mu_up he hl) (ex1_ok _ _ _ _ _ _ T0_ok (by simp) (by simp))
  ·simp[may_m hL]
   refine bK_ind (fun hc=>?_) (fun hc=>?_)
   ·obtain⟨b1,b2⟩:=may_in hc
    have hp:=mu_pos (L:=L) (is_in hc).1
    rw[may_t hc]
    obtain⟨v,s1,f1,f2,f3,f4⟩:=ih s.up b2 (by omega)
    have t1:=take_mu (L:=L) (k:=6) (x:=⟨#[111,102]⟩) (by decide) s1
    have t2:=take_a (L:=L) (k:=6) (x:=⟨#[111,102]⟩) (by decide) f2
    obtain⟨s2,l,hc,g2,g3,g4,g5⟩:=alt_a hL ih 8 eB 0 0 eB 0 [exC v] (nextT L s).at_ _ (by omega) t2
    have t3:=take_mu (L:=L) (k:=6) (x:=⟨#[101,110,100]⟩) (by decide) s2
    have t4:=take_a (L:=L) (k:=6) (x:=⟨#[101,110,100]⟩) (by decide) g2
    have hx:(Ex.mk 8 eB 0 T0 [v] l [] (nextT L s).at_).Ok:=ex_ok _ _ _ _ _ _ _ _ T0_ok (by simp) (by simpa using f4) g5 g4 (by simp) (by simp)
    rcases hc with⟨rfl,hc⟩|hc
    ·simp[f1]
     simp[take_m hL (k:=6) (by decide),Tk.cells]
     simp[hc]
     simp[take_m hL (k:=6) (by decide),Tk.cells]
     exact Good.of _ _ (takeS L 6 ⟨#[101,110,100]⟩ s2) (Ex.mk 8 eB 0 T0 [v] [] [] (nextT L s).at_) (by simp[wdP_rows,wdss1,exs_one]) t4 (by omega) hx
    ·simp[f1]
     simp[take_m hL (k:=6) (by decide),Tk.cells]
     simp[hc]
     simp[take_m hL (k:=6) (by decide),Tk.cells]
     exact Good.of _ _ (takeS L 6 ⟨#[101,110,100]⟩ s2) (Ex.mk 8 eB 0 T0 [v] l [] (nextT L s).at_) (by simp[wdP_rows,wdss1,exs_one]) t4 (by omega) hx
   ·rw[may_f hc]
    have t1:=take_mu (L:=L) (k:=7) (x:=⟨#[40]⟩) (by decide) s
    have t2:=take_a (L:=L) (k:=7) (x:=⟨#[40]⟩) (by decide) hs
    simp[take_m hL (k:=7) (by decide)]
    simp[may_m hL,Tk.cells]
    generalize takeS L 7 ⟨#[40]⟩ s=s1 at *
    refine bK_ind (fun hb=>?_) (fun hb=>?_)
    ·obtain⟨m1,m2⟩:=may_in hb
     have hp:=mu_pos (L:=L) (is_in hb).1
     rw[may_t hb]
     exact Good.of 0 _ s1.up (.mk 4 ⟨#[85,110,105,116]⟩ 0 T0 [] [] [] (nextT L s).at_) (by simp) m2 (by omega) (ex1_ok _ _ _ _ _ _ T0_ok (by simp) (by simp))
    ·rw[may_f hb]
     simp[next_m,Tk.cells]
     refine bK_ind (fun h5=>?_) (fun h5=>?_)
     ·have t3:=take_mu (L:=L) (k:=5) (x:=eB) (by decide) s1
      have t4:=take_a (L:=L) (k:=5) (x:=eB) (by decide) t2
      have t5:=take_mu (L:=L) (k:=7) (x:=⟨#[41]⟩) (by decide) (takeS L 5 eB s1)
      have t6:=take_a (L:=L) (k:=7) (x:=⟨#[41]⟩) (by decide) t4
      simp[take_m hL (k:=5) (by decide),take_m hL (k:=7) (by decide),Tk.cells]
      exact Good.of 0 _ (takeS L 7 ⟨#[41]⟩ (takeS L 5 eB s1)) (.mk 3 (takeT L 5 eB s1).text 0 T0 [] [] [] (nextT L s).at_) (by simp) t6 (by omega) (ex1_ok _ _ _ _ _ _ T0_ok (by simp) (by simp))
     ·obtain⟨v,s2,f1,f2,f3,f4⟩:=ih s1 t2 (by omega)
      simp[f1]
      simp[may_m hL]
      refine bK_ind (fun hc=>?_) (fun hc=>?_)
      ·obtain⟨m1,m2⟩:=may_in hc
       rw[may_t hc]
       obtain⟨ty,s3,g1,g2,g3,g4⟩:=types_ok hL (n+1) s2.up m2 (by omega)
       have t3:=take_mu (L:=L) (k:=7) (x:=⟨#[41]⟩) (by decide) s3
       have t4:=take_a (L:=L) (k:=7) (x:=⟨#[41]⟩) (by decide) g2
       simp[g1,take_m hL (k:=7) (by decide),Tk.cells]
       exact Good.of 1 _ _ (.mk 12 eB 0 ty [v] [] [] (nextT L s).at_) (by simp[wdP_rows,wdss1,exs_one]) t4 (by omega) (ex1_ok _ _ _ _ _ _ g4.1 (by simp) (by simpa using f4))
      ·rw[may_f hc]
       have t3:=take_mu (L:=L) (k:=7) (x:=⟨#[41]⟩) (by decide) s2
       have t4:=take_a (L:=L) (k:=7) (x:=⟨#[41]⟩) (by decide) f2
       simp[take_m hL (k:=7) (by decide),Tk.cells]
       exact Good.of 0 _ _ v (by simp) t4 (by omega) f4
end
set_option maxRecDepth 10000
section
variable{L:List Tk}(hL:L.length≤1000000)
include hL
theorem bnd_b{n:Nat}(ih:Par L n (qBd L) bdC bdOk)(k:Int)(nm:ByteArray)(z tk:Int)(tn:ByteArray)(tz a:Int):∀(m:Nat) (s:St) (l:List Bd),mu L s≤m→m≤n→s.a≤L.length→l.length+m≤2000000→∃(s':St) (l':List Bd),
  ev (q102ab0b (tks L) (iv s.a) (iv s.lv) (iv s.e) (iv s.w) (iv k) (sv nm) (iv z) (iv tk) (sv tn) (iv tz) (l.map Bd.cells) (iv a))=some (1,sts L s' [iv k,sv nm,iv z,iv tk,sv tn,iv tz,nilS,nilS,nilS,bds (l++l'),iv a,iv 0,sv eB,iv 0,iv 0,sv eB,iv 0,nilS,nilS,nilS,nilS,iv 0])∧
  s'.a≤L.length∧mu L s'≤mu L s∧(∀x∈l',x.Ok)∧l'.length≤mu L s-mu L s':=by
 intro m
 induction m with
 |zero=>
  intro s l hm hn hs hl
  have hb:isB L ⟨#[97,110,100]⟩ s=false:=by
   cases hb:isB L ⟨#[97,110,100]⟩ s with
   |false=>rfl
   |true=>have:=mu_pos (L:=L) (is_in hb).1;omega
  exact⟨s,[],Evl.of (by rw[h102ab0b,g102ab0b];simp[may_m hL,hb,may_f hb,bds]),hs,Nat.le_refl _,(by simp),by simp⟩
 |succ m ihm=>
  intro s l hm hn hs hl
  cases hb:isB L ⟨#[97,110,100]⟩ s with
  |false=>exact⟨s,[],Evl.of (by rw[h102ab0b,g102ab0b];simp[may_m hL,hb,may_f hb,bds]),hs,Nat.le_refl _,(by simp),by simp⟩
  |true=>
   have hp:=mu_pos (L:=L) (is_in hb).1
   obtain⟨b1,b2⟩:=may_in hb
   obtain⟨v,s1,f1,f2,f3,f4⟩:=ih s.up b2 (by omega)
   obtain⟨s2,l',g1,g2,g3,g4,g5⟩:=ihm s1 (l++[v]) (by omega) (by omega) f2 (by simp;omega)
   have hml:(l++[v]).map Bd.cells=l.map Bd.cells++[bdC v]:=by rw[List.map_append,List.map_cons,List.map_nil,Bd.cells_eq]
   rw[hml,List.append_assoc]at g1
   have ha:=fun k'=>appK_raw (P:=PG) (d:=.fail) (k:=k') slBd (raw_bds l) (c:=bdC v) rfl (by simp) (by simp;omega) (by decide)
   refine⟨s2,v::l',Evl.of ?_,g2,by omega,?_,by simp;omega⟩
   ·rw[h102ab0b,g102ab0b]
    simp[may_m hL,hb,may_t hb]
    simp[f1,ha,g1]
   ·intro x hx
    rcases List.mem_cons.1 hx with rfl|hx
    ·exact f4
    ·exact g4 x hx
theorem bnd_a{n:Nat}(ih:Par L n (qBd L) bdC bdOk)(k:Int)(nm:ByteArray)(z tk:Int)(tn:ByteArray)(tz a:Int)(v0:Bd)(s:St)(hm:mu L s≤n)(hs:s.a≤L.length):∃(s':St) (l':List Bd),
  ((l'=[]∧ev (q102ab0a (tks L) (iv s.a) (iv s.lv) (iv s.e) (iv s.w) (iv k) (sv nm) (iv z) (iv tk) (sv tn) (iv tz) [bdC v0] (iv a))=some (0,sts L s' [iv k,sv nm,iv z,iv tk,sv tn,iv tz,nilS,nilS,nilS,.rows [bdC v0],iv a,iv 0,sv eB,iv 0,iv 0,sv eB,iv 0,nilS,nilS,nilS,nilS,iv 0]))∨
   ev (q102ab0a (tks L) (iv s.a) (iv s.lv) (iv s.e) (iv s.w) (iv k) (sv nm) (iv z) (iv tk) (sv tn) (iv tz) [bdC v0] (iv a))=some (1,sts L s' [iv k,sv nm,iv z,iv tk,sv tn,iv tz,nilS,nilS,nilS,bds (v0::l'),iv a,iv 0,sv eB,iv 0,iv 0,sv eB,iv 0,nilS,nilS,nilS,nilS,iv 0]))∧
  s'.a≤L.length∧mu L s'≤mu L s∧(∀x∈l',x.Ok)∧l'.length≤10000000:=by
 cases hb:isB L ⟨#[97,110,100]⟩ s with
 |false=>exact⟨s,[],.inl ⟨rfl,Evl.of (by rw[h102ab0a,g102ab0a];simp[may_m hL,hb,may_f hb])⟩,hs,Nat.le_refl _,(by simp),by simp⟩
 |true=>
  have hp:=mu_pos (L:=L) (is_in hb).1
  obtain⟨b1,b2⟩:=may_in hb
  obtain⟨v,s1,f1,f2,f3,f4⟩:=ih s.up b2 (by omega)
  have hml:[v0,v].map Bd.cells=[bdC v0]++[bdC v]:=by rw[List.map_cons,List.map_cons,List.map_nil,Bd.cells_eq,Bd.cells_eq];rfl
  have hm1:=mu_le L s1
  obtain⟨s2,l',g1,g2,g3,g4,g5⟩:=bnd_b hL ih k nm z tk tn tz a (mu L s1) s1 [v0,v] (Nat.le_refl _) (by omega) f2 (by simp;omega)
  rw[hml]at g1
  have hr:Raw 13 [bdC v0] ([v0].map Bd.cells):=.one (by rw[Bd.cells_eq];simp) rfl (by simp)
  have ha:=fun k'=>appK_raw (P:=PG) (d:=.fail) (k:=k') slBd hr (c:=bdC v) rfl (by simp) (by simp) (by decide)
  refine⟨s2,v::l',.inr (Evl.of ?_),g2,by omega,?_,by simp;omega⟩
  ·rw[h102ab0a,g102ab0a]
   simp at g1
   simp[may_m hL,hb,may_t hb]
   simp[f1,ha,g1]
  ·intro x hx
   rcases List.mem_cons.1 hx with rfl|hx
   ·exact f4
   ·exact g4 x hx
theorem app_b{n:Nat}(ih:Par L n (qAm L) exC exOk)(t:Tk)(a:Int):∀(m:Nat) (s:St) (ks:List Ex) (B:List (List PV)),Raw 11 B (ks.map Ex.cells)→ks.length=2→(∀x∈ks,x.Ok)→mu L s≤m→m≤n→s.a≤L.length→a=t.at_→∃(s':St) (ks':List Ex) (B':List (List PV)),
  ev (q102ab2b (tks L) (iv s.a) (iv s.lv) (iv s.e) (iv s.w) (iv 5) (sv eB) (iv 0) (iv 0) (sv eB) (iv 0) B (iv a) (iv t.kind) (sv t.text) (iv t.n) (iv t.at_))=some (1,sts L s' [iv 5,sv eB,iv 0,iv 0,sv eB,iv 0,nilS,.rows B',nilS,nilS,iv a,iv t.kind,sv t.text,iv t.n,iv t.at_,iv 0,sv eB,iv 0,iv 0,sv eB,iv 0,nilS,nilS,nilS,nilS,iv 0])∧
  Raw 11 B' (ks'.map Ex.cells)∧ks'.length=2∧(∀x∈ks',x.Ok)∧s'.a≤L.length∧mu L s'≤mu L s:=by
 intro m
 induction m with
 |zero=>
  intro s ks B hr hk hok hm hn hs ha
  obtain⟨b,h1,h2⟩:=starts_ok (L:=L) 2 s
  cases b with
  |true=>have:=mu_pos (L:=L) (h2 rfl).1;omega
  |false=>exact⟨s,ks,B,Evl.of (by rw[h102ab2b,g102ab2b];simp[h1]),hr,hk,hok,hs,Nat.le_refl _⟩
 |succ m ihm=>
  intro s ks B hr hk hok hm hn hs ha
  obtain⟨b,h1,h2⟩:=starts_ok (L:=L) 2 s
  cases b with
  |false=>exact⟨s,ks,B,Evl.of (by rw[h102ab2b,g102ab2b];simp[h1]),hr,hk,hok,hs,Nat.le_refl _⟩
  |true=>
   have hp:=mu_pos (L:=L) (h2 rfl).1
   obtain⟨v,s1,f1,f2,f3,f4⟩:=ih s hs (by omega)
   have hr2:Raw 11 [[iv 5,sv eB,iv 0,iv 0,sv eB,iv 0,nilS,.rows B,nilS,nilS,iv a],exC v] ([Ex.mk 5 eB 0 T0 ks [] [] a,v].map Ex.cells):=by
    have:=(Raw.one (sz:=11) (c:=[iv 5,sv eB,iv 0,iv 0,sv eB,iv 0,nilS,.rows B,nilS,nilS,iv a]) (c':=(Ex.mk 5 eB 0 T0 ks [] [] a).cells) (by rw[Ex.cells_eq];simp only[wdPs_cons,wdPs_nil,wdP_int,wdP_str,wdP_nil,hr.wd];rfl) rfl (by have:=hr.ns';simp[this])).app (c:=exC v) (c':=v.cells) (by rw[Ex.cells_eq];simp) rfl (by simp)
    exact this
   obtain⟨s2,ks',B',g1,g2,g3,g4,g5,g6⟩:=ihm s1 _ _ hr2 rfl (by
    intro x hx
    simp only[List.mem_cons,List.not_mem_nil,or_false]at hx
    rcases hx with rfl|rfl
    ·exact ex1_ok _ _ _ _ _ _ T0_ok (by omega) hok
    ·exact f4) (by omega) (by omega) f2 ha
   refine⟨s2,ks',B',Evl.of ?_,g2,g3,g4,g5,by omega⟩
   rw[h102ab2b,g102ab2b]
   subst ha
   simp[h1,f1,g1]
theorem app_a{n:Nat}(ih:Par L n (qAm L) exC exOk)(t:Tk)(v0:Ex)(hv0:v0.Ok)(s:St)(hm:mu L s≤n)(hs:s.a≤L.length):∃(s':St) (k:Nat) (ys:List PV) (e:Ex),
  ev (q102ab2a (tks L) (iv s.a) (iv s.lv) (iv s.e) (iv s.w) (iv v0.kind) (sv v0.name) (iv v0.n) (iv v0.t.kind) (sv v0.t.name) (iv v0.t.n) (tys v0.t.kids) (exs v0.kids) (als v0.alts) (bds v0.binds) (iv v0.at_) (iv t.kind) (sv t.text) (iv t.n) (iv t.at_))=some (k,tks L::iv s'.a::iv s'.lv::iv s'.e::iv s'.w::(ys++[iv t.kind,sv t.text,iv t.n,iv t.at_,iv 0,sv eB,iv 0,iv 0,sv eB,iv 0,nilS,nilS,nilS,nilS,iv 0]))∧
  (k=0∧ys=exC v0∧e=v0∨k=1∧∃B ks,ys=[iv 5,sv eB,iv 0,iv 0,sv eB,iv 0,nilS,.rows B,nilS,nilS,iv t.at_]∧Raw 11 B (ks.map Ex.cells)∧e=Ex.mk 5 eB 0 T0 ks [] [] t.at_)∧e.Ok∧s'.a≤L.length∧mu L s'≤mu L s:=by
 obtain⟨b,h1,h2⟩:=starts_ok (L:=L) 2 s
 cases b with
 |false=>exact⟨s,0,exC v0,v0,Evl.of (by rw[h102ab2a,g102ab2a];simp[h1]),.inl ⟨rfl,rfl,rfl⟩,hv0,hs,Nat.le_refl _⟩
 |true=>
  have hp:=mu_pos (L:=L) (h2 rfl).1
  obtain⟨v,s1,f1,f2,f3,f4⟩:=ih s hs (by omega)
  have hr2:Raw 11 [exC v0,exC v] ([v0,v].map Ex.cells):=ExW.two (.plain v0) (.plain v)
  obtain⟨s2,ks,B,g1,g2,g3,g4,g5,g6⟩:=app_b hL ih t t.at_ (mu L s1) s1 [v0,v] _ hr2 rfl (by simp[hv0,f4]) (Nat.le_refl _) (by omega) f2 rfl
  refine⟨s2,1,_,Ex.mk 5 eB 0 T0 ks [] [] t.at_,Evl.of ?_,.inr ⟨rfl,B,ks,rfl,g2,rfl⟩,ex1_ok _ _ _ _ _ _ T0_ok (by omega) g4,g5,by omega⟩
  rw[h102ab2a,g102ab2a]
  simp[h1,f1,g1]
theorem operand_ok{n:Nat}(ih:Par L n (qEx L) exC exOk):Par L (n+1) (qOp L) exC exOk:=
 Par.weak (q:=fun s=>q102a (tks L) (iv s.a) (iv s.lv) (iv s.e) (iv s.w)) (fun s=>h102aw ev _ _ _ _ _) fun s hs hm=>by
  show Good L s exC exOk (body PG EE TT ev (q102a (tks L) (iv s.a) (iv s.lv) (iv s.e) (iv s.w)))
  rw[h102a,g102a]
  simp[next_m,Tk.cells]
  simp[may_m hL]
  generalize hT:nextT L s=t
  refine bK_ind (fun h1=>?_) (fun h1=>?_)
  ·obtain⟨b1,b2⟩:=may_in h1
   have hp:=mu_pos (L:=L) (is_in h1).1
   rw[may_t h1]
   obtain⟨v,s1,f1,f2,f3,f4⟩:=lam_ok hL ih (n+1) (Nat.le_refl _) t.at_ s.up b2 (by omega)
   simp[f1]
   exact Good.of _ _ s1 v (by simp) f2 (by omega) f4
  ·rw[may_f h1]
   try simp[may_m hL]
   refine bK_ind (fun h2=>?_) (fun h2=>?_)
   ·obtain⟨b1,b2⟩:=may_in h2
    have hp:=mu_pos (L:=L) (is_in h2).1
    rw[may_t h2]
    try simp[may_m hL]
    refine bK_ind (fun h3=>?_) (fun h3=>?_)
    ·obtain⟨c1,c2⟩:=may_in h3
     rw[may_t h3]
     obtain⟨v,s1,f1,f2,f3,f4⟩:=bind_ok hL ih s.up.up c2 (by omega)
     obtain⟨s2,l,hc,g2,g3,g4,g5⟩:=bnd_a hL (bind_ok hL ih) 7 eB 1 0 eB 0 t.at_ v s1 (by omega) f2
     have t1:=take_mu (L:=L) (k:=6) (x:=⟨#[105,110]⟩) (by decide) s2
     have t2:=take_a (L:=L) (k:=6) (x:=⟨#[105,110]⟩) (by decide) g2
     obtain⟨e,s3,k1,k2,k3,k4⟩:=ih _ t2 (by omega)
     have hx:(Ex.mk 7 eB 1 T0 [e] [] (v::l) t.at_).Ok:=ex_ok _ _ _ _ _ _ _ _ T0_ok (by simp) (by simpa using k4) (by simp) (by simp) (by simp;omega) (by
      intro x hx
      rcases List.mem_cons.1 hx with rfl|hx
      ·exact f4
      ·exact g4 x hx)
     rcases hc with⟨rfl,hc⟩|hc
     ·simp[f1]
      simp[hc]
      simp[take_m hL (k:=6) (by decide),Tk.cells]
      simp[k1]
      exact Good.of _ _ s3 _ (by simp[wdP_rows,wdss1,exs_one,bds_one]) k2 (by omega) hx
     ·simp[f1]
      simp[hc]
      simp[take_m hL (k:=6) (by decide),Tk.cells]
      simp[k1]
      exact Good.of _ _ s3 _ (by simp[wdP_rows,wdss1,exs_one]) k2 (by omega) hx
    ·rw[may_f h3]
     obtain⟨v,s1,f1,f2,f3,f4⟩:=bind_ok hL ih s.up b2 (by omega)
     obtain⟨s2,l,hc,g2,g3,g4,g5⟩:=bnd_a hL (bind_ok hL ih) 7 eB 0 0 eB 0 t.at_ v s1 (by omega) f2
     have t1:=take_mu (L:=L) (k:=6) (x:=⟨#[105,110]⟩) (by decide) s2
     have t2:=take_a (L:=L) (k:=6) (x:=⟨#[105,110]⟩) (by decide) g2
     obtain⟨e,s3,k1,k2,k3,k4⟩:=ih _ t2 (by omega)
     have hx:(Ex.mk 7 eB 0 T0 [e] [] (v::l) t.at_).Ok:=ex_ok _ _ _ _ _ _ _ _ T0_ok (by simp) (by simpa using k4) (by simp) (by simp) (by simp;omega) (by
      intro x hx
      rcases List.mem_cons.1 hx with rfl|hx
      ·exact f4
      ·exact g4 x hx)
     rcases hc with⟨rfl,hc⟩|hc
     ·simp[f1]
      simp[hc]
      simp[take_m hL (k:=6) (by decide),Tk.cells]
      simp[k1]
      exact Good.of _ _ s3 _ (by simp[wdP_rows,wdss1,exs_one,bds_one]) k2 (by omega) hx
     ·simp[f1]
      simp[hc]
      simp[take_m hL (k:=6) (by decide),Tk.cells]
      simp[k1]
      exact Good.of _ _ s3 _ (by simp[wdP_rows,wdss1,exs_one]) k2 (by omega) hx
   ·rw[may_f h2]
    try simp[may_m hL]
    refine bK_ind (fun h3=>?_) (fun h3=>?_)
    ·obtain⟨b1,b2⟩:=may_in h3
     have hp:=mu_pos (L:=L) (is_in h3).1
     rw[may_t h3]
     obtain⟨v1,s1,f1,f2,f3,f4⟩:=ih s.up b2 (by omega)
     have t1:=take_mu (L:=L) (k:=6) (x:=⟨#[116,104,101,110]⟩) (by decide) s1
     have t2:=take_a (L:=L) (k:=6) (x:=⟨#[116,104,101,110]⟩) (by decide) f2
     obtain⟨v2,s2,g1,g2,g3,g4⟩:=ih _ t2 (by omega)
     have t3:=take_mu (L:=L) (k:=6) (x:=⟨#[101,108,115,101]⟩) (by decide) s2
     have t4:=take_a (L:=L) (k:=6) (x:=⟨#[101,108,115,101]⟩) (by decide) g2
     obtain⟨v3,s3,k1,k2,k3,k4⟩:=ih _ t4 (by omega)
     simp[f1]
     simp[take_m hL (k:=6) (by decide),Tk.cells]
     simp[g1]
     simp[take_m hL (k:=6) (by decide),Tk.cells]
     simp[k1]
     exact Good.of _ _ s3 (.mk 9 eB 0 T0 [v1,v2,v3] [] [] t.at_) (by simp[wdP_rows,wdss3,exs_three]) k2 (by omega) (ex1_ok _ _ _ _ _ _ T0_ok (by simp) (by simp[f4,g4,k4]))
    ·rw[may_f h3]
     obtain⟨v,s1,f1,f2,f3,f4⟩:=atom_ok hL ih s hs hm
     obtain⟨s2,k,ys,e,g1,g2,g3,g4,g5⟩:=app_a hL (atom_ok hL ih) t v f4 s1 (by omega) f2
     rcases g2 with⟨rfl,rfl,rfl⟩|⟨rfl,B,ks,rfl,g6,rfl⟩
     ·simp at g1
      simp[f1]
      simp[g1]
      exact Good.of _ _ s2 e (by simp) g4 (by omega) g3
     ·simp at g1
      simp[f1]
      simp[g1]
      exact Good.of _ [iv 5,sv eB,iv 0,iv 0,sv eB,iv 0,nilS,.rows B,nilS,nilS,iv t.at_] s2 (Ex.mk 5 eB 0 T0 ks [] [] t.at_) (by simp[g6.wd];rfl) g4 (by omega) g3
theorem ops_b{n:Nat}(ih:Par L n (qOp L) exC exOk):∀(m:Nat) (s:St) (ops:List Tk) (xs:List ByteArray) (l:List Ex),mu L s≤m→m≤n→s.a≤L.length→ops.length+m≤2000000→xs.length=ops.length→l.length=ops.length+1→(∀x∈l,x.Ok)→∃(s':St) (ops':List Tk) (xs':List ByteArray) (l':List Ex),
  ev (q73ab0b (ops.map Tk.cells) (xs.map fun x=>[sv x]) (l.map Ex.cells) (tks L) (iv s.a) (iv s.lv) (iv s.e) (iv s.w))=some (1,sts L s' [iv 0,sv eB,iv 0,iv 0,sv eB,iv 0,nilS,nilS,nilS,nilS,iv 0,strs xs',tks ops',exs l'])∧
  xs'.length=ops'.length∧l'.length=ops'.length+1∧(∀x∈l',x.Ok)∧s'.a≤L.length∧mu L s'≤mu L s∧ops'.length≤ops.length+m:=by
 intro m
 induction m with
 |zero=>
  intro s ops xs l hm hn hs hl h1 h2 h3
  have hk:(nextT L s).kind≠5:=fun h=>by
   have:=mu_pos (L:=L) (nextT_in (L:=L) (s:=s) (by omega)).1
   omega
  exact⟨s,ops,xs,l,Evl.of (by rw[h73ab0b,g73ab0b];simp[next_m,Tk.cells,hk];exact⟨rfl,rfl,rfl⟩),h1,h2,h3,hs,Nat.le_refl _,by omega⟩
 |succ m ihm=>
  intro s ops xs l hm hn hs hl h1 h2 h3
  by_cases hk:(nextT L s).kind=5
  ·have he:=nextT_in (L:=L) (s:=s) (by omega)
   have hp:=mu_pos (L:=L) he.1
   have t1:=take_mu (L:=L) (k:=5) (x:=eB) (by decide) s
   have t2:=take_a (L:=L) (k:=5) (x:=eB) (by decide) hs
   obtain⟨v,s1,f1,f2,f3,f4⟩:=ih _ t2 (by omega)
   obtain⟨s2,ops',xs',l',g1,g2,g3,g4,g5,g6,g7⟩:=ihm s1 (ops++[takeT L 5 eB s]) (xs++[(takeT L 5 eB s).text]) (l++[v]) (by omega) (by omega) f2 (by simp;omega) (by simp[h1]) (by simp[h2]) (by
    intro x hx
    rcases List.mem_append.1 hx with hx|hx
    ·exact h3 x hx
    ·rw[List.mem_singleton.1 hx];exact f4)
   have m1:(l++[v]).map Ex.cells=l.map Ex.cells++[exC v]:=by rw[List.map_append,List.map_cons,List.map_nil,Ex.cells_eq]
   have m2:(ops++[takeT L 5 eB s]).map Tk.cells=ops.map Tk.cells++[[iv (takeT L 5 eB s).kind,sv (takeT L 5 eB s).text,iv (takeT L 5 eB s).n,iv (takeT L 5 eB s).at_]]:=by rw[List.map_append,List.map_cons,List.map_nil,Tk.cells]
   have m3:(xs++[(takeT L 5 eB s).text]).map (fun x=>[sv x])=xs.map (fun x=>[sv x])++[[sv (takeT L 5 eB s).text]]:=by rw[List.map_append,List.map_cons,List.map_nil]
   rw[m1,m2,m3]at g1
   have a1:=fun k'=>appK_raw (P:=PG) (d:=.fail) (k:=k') sl_tks (raw_tks ops) (c:=[iv (takeT L 5 eB s).kind,sv (takeT L 5 eB s).text,iv (takeT L 5 eB s).n,iv (takeT L 5 eB s).at_]) rfl (by simp) (by simp;omega) (by decide)
   have a2:=fun k'=>appK_raw (P:=PG) (d:=.fail) (k:=k') slSt (raw_strs xs) (c:=[sv (takeT L 5 eB s).text]) rfl (by simp) (by simp;omega) (by decide)
   have a3:=fun k'=>appK_raw (P:=PG) (d:=.fail) (k:=k') slEx (raw_exs l) (c:=exC v) rfl (by simp) (by simp;omega) (by decide)
   refine⟨s2,ops',xs',l',Evl.of ?_,g2,g3,g4,g5,by omega,by simp at g7;omega⟩
   rw[h73ab0b,g73ab0b]
   simp[next_m,Tk.cells,hk]
   simp[take_m hL (k:=5) (by decide),Tk.cells]
   simp[a1,a2]
   simp[f1]
   simp[a3,g1]
  ·exact⟨s,ops,xs,l,Evl.of (by rw[h73ab0b,g73ab0b];simp[next_m,Tk.cells,hk];exact⟨rfl,rfl,rfl⟩),h1,h2,h3,hs,Nat.le_refl _,by omega⟩
theorem exp_ok{n:Nat}(ih:Par L n (qEx L) exC exOk):Par L (n+1) (qEx L) exC exOk:=
 Par.weak (q:=fun s=>q73a (tks L) (iv s.a) (iv s.lv) (iv s.e) (iv s.w)) (fun s=>h73aw ev _ _ _ _ _) fun s hs hm=>by
  show Good L s exC exOk (body PG EE TT ev (q73a (tks L) (iv s.a) (iv s.lv) (iv s.e) (iv s.w)))
  rw[h73a,g73a]
  by_cases he:s.e=0
  ·have hp:=mu_pos (L:=L) he
   have d1:=deep_mu (L:=L) s
   have d2:=deep_a (L:=L) s
   simp only[m_E3,m_N3,bA,bI]
   generalize hd:deepS L s=s1 at *
   have hs1:s1.a≤L.length:=by omega
   obtain⟨v,s2,f1,f2,f3,f4⟩:=operand_ok hL ih s1 hs1 (by omega)
   simp[eq_true he,deep_m,hd]
   simp[f1]
   by_cases hk:(nextT L s2).kind=5
   ·have he2:=nextT_in (L:=L) (s:=s2) (by omega)
    have hp2:=mu_pos (L:=L) he2.1
    have t1:=take_mu (L:=L) (k:=5) (x:=eB) (by decide) s2
    have t2:=take_a (L:=L) (k:=5) (x:=eB) (by decide) f2
    obtain⟨v2,s3,g1,g2,g3,g4⟩:=operand_ok hL ih _ t2 (by omega)
    have hm3:=mu_le L s3
    obtain⟨s4,ops,xs,l,k1,k2,k3,k4,k5,k6,k7⟩:=ops_b hL (operand_ok hL ih) (mu L s3) s3 [takeT L 5 eB s2] [(takeT L 5 eB s2).text] [v,v2] (Nat.le_refl _) (by omega) g2 (by simp;omega) rfl rfl (by simp[f4,g4])
    have m1:[v,v2].map Ex.cells=[exC v]++[exC v2]:=by rw[List.map_cons,List.map_cons,List.map_nil,Ex.cells_eq,Ex.cells_eq];rfl
    rw[m1]at k1
    have hr:Raw 11 [exC v] ([v].map Ex.cells):=.one (by rw[Ex.cells_eq];simp) rfl (by simp)
    have a3:=fun k'=>appK_raw (P:=PG) (d:=.fail) (k:=k') slEx hr (c:=exC v2) rfl (by simp) (by simp) (by decide)
    have hc:ev (q73ab0a [exC v] (tks L) (iv s2.a) (iv s2.lv) (iv s2.e) (iv s2.w))=some (1,sts L s4 [iv 0,sv eB,iv 0,iv 0,sv eB,iv 0,nilS,nilS,nilS,nilS,iv 0,strs xs,tks ops,exs l]):=Evl.of (by
     rw[h73ab0a,g73ab0a]
     simp[Tk.cells]at k1
     simp[next_m,Tk.cells,hk]
     simp[take_m hL (k:=5) (by decide),Tk.cells]
     simp[g1]
     simp[a3,k1])
    obtain⟨c,c1,c2,c3⟩:=clash_ok xs (by simp at k7;omega)
    simp[hc]
    refine bK_ind (fun he4=>?_) (fun he4=>?_)
    ·simp[c1]
     refine bK_ind (fun hcg=>?_) (fun hcg=>?_)
     ·simp only[decide_eq_true_eq]at hcg
      obtain⟨i,rfl⟩:=Int.eq_ofNat_of_zero_le hcg
      have hi:i<ops.length:=by omega
      simp[idxK_tks (lGg hi),fail_m]
      exact Good.of _ _ (failS 112 (ops[i]).at_ s4) ex0 (by simp) (by rw[fail_a];exact k5) (by rw[fail_mu (by decide)];omega) ex0_ok
     ·obtain⟨e,ys,b1,b2,b3⟩:=build_ok l ops (by simp at k7;omega) k3 k4 ops.length 0 ops.length (Nat.zero_le _) (Nat.le_refl _) (by omega)
      obtain⟨A,B,C,D,rfl,hx⟩:=id b2
      simp at b1
      simp[b1]
      exact Good.of _ _ (dnS s4) e b2.wd k5 (by rw[mu_dn];omega) b3
    ·exact Good.of _ _ s4 ex0 (by simp) k5 (by omega) ex0_ok
   ·have hc:ev (q73ab0a [exC v] (tks L) (iv s2.a) (iv s2.lv) (iv s2.e) (iv s2.w))=some (0,sts L s2 [iv 0,sv eB,iv 0,iv 0,sv eB,iv 0,nilS,nilS,nilS,nilS,iv 0,nilS,nilS,.rows [exC v]]):=Evl.of (by
     rw[h73ab0a,g73ab0a]
     simp[next_m,hk,Tk.cells])
    obtain⟨c,c1,c2,c3⟩:=clash_ok [] (by simp)
    have c4:c = -1:=by simp at c3;omega
    subst c4
    have c5:ev (q103 (.rows []))=some (0,[iv (-1)]):=c1
    simp[hc]
    refine bK_ind (fun he4=>?_) (fun he4=>?_)
    ·obtain⟨e,ys,b1,b2,b3⟩:=build_ok [v] [] (by simp) rfl (by simpa using f4) 0 0 0 (Nat.le_refl _) (Nat.le_refl _) (by omega)
     have b4:ev (q104w (.rows [exC v]) (.rows []) (iv 0) (iv 0))=some (0,ys):=by rw[←exs_one];exact b1
     obtain⟨A,B,C,D,rfl,hx⟩:=id b2
     simp[c5,b4]
     exact Good.of _ _ (dnS s2) e b2.wd f2 (by rw[mu_dn];omega) b3
    ·exact Good.of _ _ s2 ex0 (by simp) f2 (by omega) ex0_ok
  ·simp[he]
   exact Good.of _ _ s ex0 (by simp) hs (by have:=mu_zero (L:=L) he;omega) ex0_ok
theorem exps_ok:∀n,Par L n (qEx L) exC exOk
 |0=>fun s hs hm=>by
   have he:s.e≠0:=fun he=>by have:=mu_pos (L:=L) he;omega
   refine⟨ex0,s,Evl.of ?_,hs,by omega,ex0_ok⟩
   rw[h73aw,Evl.of (q:=q73a (tks L) (iv s.a) (iv s.lv) (iv s.e) (iv s.w)) (r:=(0,sts L s [iv 0,sv eB,iv 0,iv 0,sv eB,iv 0,nilS,nilS,nilS,nilS,iv 0])) (by rw[h73a,g73a];simp[he])]
   simp[weakD_some,sts]
 |n+1=>exp_ok hL (exps_ok n)
theorem binds_ok(n:Nat):Par L n (qBd L) bdC bdOk:=(bind_ok hL (exps_ok hL n)).mono (Nat.le_succ _)
end
abbrev qUp(L:List Tk)(s:St):Q:=q70aw (tks L) (iv s.a) (iv s.lv) (iv s.e) (iv s.w)
abbrev qDt(L:List Tk)(s:St):Q:=q31aw (tks L) (iv s.a) (iv s.lv) (iv s.e) (iv s.w)
abbrev dtC(x:Dt):List PV:=[sv x.name,strs x.params,cns x.cons,strs x.deriv,iv x.at_]
def dtOk(x:Dt)(m _:Nat):Prop:=x.Ok∧x.cons.length≤m
theorem slCn:SlT PG 71 3 48:=SlT.of (by kernel_rfl)
@[simp] theorem strs_nil:strs []=.rows []:=rfl
@[simp] theorem cns_nil:cns []=.rows []:=rfl
section
variable{L:List Tk}(hL:L.length≤1000000)
include hL
theorem up_b{n:Nat}:∀(m:Nat) (s:St) (l:List ByteArray),mu L s≤m→m≤n→s.a≤L.length→l.length+m≤2000000→∃(s':St) (l':List ByteArray),
  ev (q70ab0b (l.map fun x=>[sv x]) (tks L) (iv s.a) (iv s.lv) (iv s.e) (iv s.w))=some (1,sts L s' [strs (l++l')])∧s'.a≤L.length∧mu L s'≤mu L s∧l'.length≤mu L s-mu L s':=by
 intro m
 induction m with
 |zero=>
  intro s l hm hn hs hl
  have hb:isB L ⟨#[44]⟩ s=false:=by
   cases hb:isB L ⟨#[44]⟩ s with
   |false=>rfl
   |true=>have:=mu_pos (L:=L) (is_in hb).1;omega
  exact⟨s,[],Evl.of (by rw[h70ab0b,g70ab0b];simp[may_m hL,hb,may_f hb,strs]),hs,Nat.le_refl _,by simp⟩
 |succ m ihm=>
  intro s l hm hn hs hl
  cases hb:isB L ⟨#[44]⟩ s with
  |false=>exact⟨s,[],Evl.of (by rw[h70ab0b,g70ab0b];simp[may_m hL,hb,may_f hb,strs]),hs,Nat.le_refl _,by simp⟩
  |true=>
   have hp:=mu_pos (L:=L) (is_in hb).1
   obtain⟨b1,b2⟩:=may_in hb
   have t1:=take_mu (L:=L) (k:=2) (x:=eB) (by decide) s.up
   have t2:=take_a (L:=L) (k:=2) (x:=eB) (by decide) b2
   obtain⟨s2,l',g1,g2,g3,g4⟩:=ihm (takeS L 2 eB s.up) (l++[(takeT L 2 eB s.up).text]) (by omega) (by omega) t2 (by simp;omega)
   rw[List.map_append,List.map_cons,List.map_nil,List.append_assoc]at g1
   have ha:=fun k'=>appK_raw (P:=PG) (d:=.fail) (k:=k') slSt (raw_strs l) (c:=[sv (takeT L 2 eB s.up).text]) rfl (by simp) (by simp;omega) (by decide)
   refine⟨s2,(takeT L 2 eB s.up).text::l',Evl.of ?_,g2,by omega,by simp;omega⟩
   rw[h70ab0b,g70ab0b]
   simp[may_m hL,hb,may_t hb]
   simp[take_m hL (k:=2) (by decide),Tk.cells]
   simp[ha,g1]
theorem uppers_ok(n:Nat):Par L n (qUp L) (fun l=>[strs l]) (fun l _ _=>l.length≤10000000):=
 Par.weak (q:=fun s=>q70a (tks L) (iv s.a) (iv s.lv) (iv s.e) (iv s.w)) (fun s=>h70aw ev _ _ _ _ _) fun s hs hm=>by
  show Good L s (fun l=>[strs l]) (fun l _ _=>l.length≤10000000) (body PG EE TT ev (q70a (tks L) (iv s.a) (iv s.lv) (iv s.e) (iv s.w)))
  rw[h70a,g70a]
  have t1:=take_mu (L:=L) (k:=2) (x:=eB) (by decide) s
  have t2:=take_a (L:=L) (k:=2) (x:=eB) (by decide) hs
  simp[take_m hL (k:=2) (by decide),Tk.cells]
  generalize takeS L 2 eB s=s1 at *
  generalize takeT L 2 eB s=t at *
  cases hb:isB L ⟨#[44]⟩ s1 with
  |false=>
   have hc:ev (q70ab0a [[sv t.text]] (tks L) (iv s1.a) (iv s1.lv) (iv s1.e) (iv s1.w))=some (0,sts L s1 [.rows [[sv t.text]]]):=Evl.of (by rw[h70ab0a,g70ab0a];simp[may_m hL,hb,may_f hb])
   simp[hc]
   exact Good.of _ _ s1 [t.text] (by simp[wdP_rows,wdss1,strs]) t2 (by omega) (by simp)
  |true=>
   have hp:=mu_pos (L:=L) (is_in hb).1
   obtain⟨b1,b2⟩:=may_in hb
   have t3:=take_mu (L:=L) (k:=2) (x:=eB) (by decide) s1.up
   have t4:=take_a (L:=L) (k:=2) (x:=eB) (by decide) b2
   have hml:=mu_le L (takeS L 2 eB s1.up)
   obtain⟨s2,l',g1,g2,g3,g4⟩:=up_b hL (mu L (takeS L 2 eB s1.up)) (takeS L 2 eB s1.up) [t.text,(takeT L 2 eB s1.up).text] (Nat.le_refl _) (Nat.le_refl _) t4 (by simp;omega)
   have hr:Raw 1 [[sv t.text]] ([t.text].map fun x=>[sv x]):=raw_strs [t.text]
   have ha:=fun k'=>appK_raw (P:=PG) (d:=.fail) (k:=k') slSt hr (c:=[sv (takeT L 2 eB s1.up).text]) rfl (by simp) (by simp) (by decide)
   have hc:ev (q70ab0a [[sv t.text]] (tks L) (iv s1.a) (iv s1.lv) (iv s1.e) (iv s1.w))=some (1,sts L s2 [strs (t.text::(takeT L 2 eB s1.up).text::l')]):=Evl.of (by
    rw[h70ab0a,g70ab0a]
    simp[may_m hL,hb,may_t hb]
    simp[take_m hL (k:=2) (by decide),Tk.cells]
    simp at g1
    simp[ha,g1])
   simp[hc]
   exact Good.of _ _ s2 (t.text::(takeT L 2 eB s1.up).text::l') (by simp) g2 (by omega) (by simp;omega)
theorem par_b{n:Nat}(nm:ByteArray)(a:Int):∀(m:Nat) (s:St) (l:List ByteArray),mu L s≤m→m≤n→s.a≤L.length→l.length+m≤2000000→∃(s':St) (l':List ByteArray),
  ev (q31ab0b (tks L) (iv s.a) (iv s.lv) (iv s.e) (iv s.w) (sv nm) (l.map fun x=>[sv x]) (iv a))=some (1,sts L s' [sv nm,strs (l++l'),nilS,nilS,iv a,sv eB,nilS,nilS,nilS,iv 0])∧s'.a≤L.length∧mu L s'≤mu L s∧l'.length≤mu L s-mu L s':=by
 intro m
 induction m with
 |zero=>
  intro s l hm hn hs hl
  have hk:(nextT L s).kind≠1:=fun h=>by
   have:=mu_pos (L:=L) (nextT_in (L:=L) (s:=s) (by omega)).1
   omega
  exact⟨s,[],Evl.of (by rw[h31ab0b,g31ab0b];simp[next_m,Tk.cells,hk,strs]),hs,Nat.le_refl _,by simp⟩
 |succ m ihm=>
  intro s l hm hn hs hl
  by_cases hk:(nextT L s).kind=1
  ·have he:=nextT_in (L:=L) (s:=s) (by omega)
   have hp:=mu_pos (L:=L) he.1
   have t1:=take_mu (L:=L) (k:=1) (x:=eB) (by decide) s
   have t2:=take_a (L:=L) (k:=1) (x:=eB) (by decide) hs
   obtain⟨s2,l',g1,g2,g3,g4⟩:=ihm (takeS L 1 eB s) (l++[(takeT L 1 eB s).text]) (by omega) (by omega) t2 (by simp;omega)
   rw[List.map_append,List.map_cons,List.map_nil,List.append_assoc]at g1
   have ha:=fun k'=>appK_raw (P:=PG) (d:=.fail) (k:=k') slSt (raw_strs l) (c:=[sv (takeT L 1 eB s).text]) rfl (by simp) (by simp;omega) (by decide)
   refine⟨s2,(takeT L 1 eB s).text::l',Evl.of ?_,g2,by omega,by simp;omega⟩
   rw[h31ab0b,g31ab0b]
   simp[next_m,Tk.cells,hk]
   simp[take_m hL (k:=1) (by decide),Tk.cells]
   simp[ha,g1]
  ·exact⟨s,[],Evl.of (by rw[h31ab0b,g31ab0b];simp[next_m,Tk.cells,hk,strs]),hs,Nat.le_refl _,by simp⟩
theorem par_a(nm:ByteArray)(a:Int)(s:St)(hs:s.a≤L.length):∃(s':St) (l':List ByteArray),
  ((l'=[]∧ev (q31ab0a (tks L) (iv s.a) (iv s.lv) (iv s.e) (iv s.w) (sv nm) (iv a))=some (0,sts L s' [sv nm,nilS,nilS,nilS,iv a,sv eB,nilS,nilS,nilS,iv 0]))∨
   ∃x xs,l'=x::xs∧ev (q31ab0a (tks L) (iv s.a) (iv s.lv) (iv s.e) (iv s.w) (sv nm) (iv a))=some (1,sts L s' [sv nm,strs l',nilS,nilS,iv a,sv eB,nilS,nilS,nilS,iv 0]))∧s'.a≤L.length∧mu L s'≤mu L s∧l'.length≤10000000:=by
 by_cases hk:(nextT L s).kind=1
 ·have he:=nextT_in (L:=L) (s:=s) (by omega)
  have hp:=mu_pos (L:=L) he.1
  have t1:=take_mu (L:=L) (k:=1) (x:=eB) (by decide) s
  have t2:=take_a (L:=L) (k:=1) (x:=eB) (by decide) hs
  have hml:=mu_le L (takeS L 1 eB s)
  obtain⟨s2,l',g1,g2,g3,g4⟩:=par_b hL nm a (mu L (takeS L 1 eB s)) (takeS L 1 eB s) [(takeT L 1 eB s).text] (Nat.le_refl _) (Nat.le_refl _) t2 (by simp;omega)
  simp at g1
  refine⟨s2,(takeT L 1 eB s).text::l',.inr ⟨_,_,rfl,Evl.of ?_⟩,g2,by omega,by simp;omega⟩
  rw[h31ab0a,g31ab0a]
  simp[next_m,Tk.cells,hk]
  simp[take_m hL (k:=1) (by decide),Tk.cells]
  simp[g1]
 ·exact⟨s,[],.inl ⟨rfl,Evl.of (by rw[h31ab0a,g31ab0a];simp[next_m,Tk.cells,hk])⟩,hs,Nat.le_refl _,by simp⟩
theorem arg_i{n:Nat}(nm:ByteArray)(a:Int)(dn:ByteArray)(da:Int):∀(m:Nat) (s:St) (l:List Ty),mu L s≤m→m≤n→s.a≤L.length→l.length+m≤2000000→∃(s':St) (l':List Ty),
  ev (q31ab4i (tks L) (iv s.a) (iv s.lv) (iv s.e) (iv s.w) (sv nm) (l.map Ty.cells) (iv a) (sv dn) (iv da))=some (1,sts L s' [sv nm,tys (l++l'),iv a,sv dn,nilS,nilS,nilS,iv da,sv eB,nilS,nilS,nilS,iv 0])∧
  s'.a≤L.length∧mu L s'≤mu L s∧(∀t∈l',t.Ok)∧l'.length≤mu L s-mu L s':=by
 intro m
 induction m with
 |zero=>
  intro s l hm hn hs hl
  obtain⟨b,h1,h2⟩:=starts_ok (L:=L) 0 s
  cases b with
  |true=>have:=mu_pos (L:=L) (h2 rfl).1;omega
  |false=>exact⟨s,[],Evl.of (by rw[h31ab4i,g31ab4i];simp[h1,tys]),hs,Nat.le_refl _,(fun t ht=>by cases ht),by simp⟩
 |succ m ih=>
  intro s l hm hn hs hl
  obtain⟨b,h1,h2⟩:=starts_ok (L:=L) 0 s
  cases b with
  |false=>exact⟨s,[],Evl.of (by rw[h31ab4i,g31ab4i];simp[h1,tys]),hs,Nat.le_refl _,(fun t ht=>by cases ht),by simp⟩
  |true=>
   have hp:=mu_pos (L:=L) (h2 rfl).1
   obtain⟨v,s1,e1,e2,e3,e4⟩:=atypes_ok hL (m+1) s hs (by omega)
   obtain⟨s2,l',g1,g2,g3,g4,g5⟩:=ih s1 (l++[v]) (by omega) (by omega) e2 (by simp;omega)
   refine⟨s2,v::l',Evl.of ?_,g2,by omega,?_,by simp;omega⟩
   ·rw[h31ab4i,g31ab4i]
    rw[List.map_append,List.map_cons,List.map_nil,Ty.cells_eq v,List.append_assoc]at g1
    have ha:=fun k'=>appK_raw (P:=PG) (d:=.fail) (k:=k') slTy (raw_tys l) (c:=tyC v) rfl (by simp) (by simp;omega) (by decide)
    simp[h1,e1]
    simp[ha,g1]
   ·intro t ht
    rcases List.mem_cons.1 ht with rfl|ht
    ·exact e4.1
    ·exact g4 t ht
theorem arg_a(nm:ByteArray)(a:Int)(dn:ByteArray)(da:Int)(s:St)(hs:s.a≤L.length):∃(s':St) (l':List Ty),
  ((l'=[]∧ev (q31ab4a (tks L) (iv s.a) (iv s.lv) (iv s.e) (iv s.w) (sv nm) (iv a) (sv dn) (iv da))=some (0,sts L s' [sv nm,nilS,iv a,sv dn,nilS,nilS,nilS,iv da,sv eB,nilS,nilS,nilS,iv 0]))∨
   ev (q31ab4a (tks L) (iv s.a) (iv s.lv) (iv s.e) (iv s.w) (sv nm) (iv a) (sv dn) (iv da))=some (1,sts L s' [sv nm,tys l',iv a,sv dn,nilS,nilS,nilS,iv da,sv eB,nilS,nilS,nilS,iv 0]))∧
  s'.a≤L.length∧mu L s'≤mu L s∧(∀t∈l',t.Ok)∧l'.length≤10000000:=by
 obtain⟨b,h1,h2⟩:=starts_ok (L:=L) 0 s
 cases b with
 |false=>exact⟨s,[],.inl ⟨rfl,Evl.of (by rw[h31ab4a,g31ab4a];simp[h1])⟩,hs,Nat.le_refl _,(fun t ht=>by cases ht),by simp⟩
 |true=>
  have hp:=mu_pos (L:=L) (h2 rfl).1
  obtain⟨v,s1,e1,e2,e3,e4⟩:=atypes_ok hL (mu L s) s hs (Nat.le_refl _)
  have hml:=mu_le L s1
  obtain⟨s2,l',g1,g2,g3,g4,g5⟩:=arg_i hL nm a dn da (mu L s1) s1 [v] (Nat.le_refl _) (Nat.le_refl _) e2 (by simp;omega)
  refine⟨s2,v::l',.inr (Evl.of ?_),g2,by omega,?_,by simp;omega⟩
  ·rw[h31ab4a,g31ab4a]
   rw[List.map_cons,List.map_nil,Ty.cells_eq v]at g1
   simp[h1,e1]
   simp[g1]
  ·intro t ht
   rcases List.mem_cons.1 ht with rfl|ht
   ·exact e4.1
   ·exact g4 t ht
theorem arg_k{n:Nat}(nm:ByteArray)(a:Int)(dn:ByteArray)(da:Int)(CR:List (List PV)):∀(m:Nat) (s:St) (l:List Ty),mu L s≤m→m≤n→s.a≤L.length→l.length+m≤2000000→∃(s':St) (l':List Ty),
  ev (q31ab4k (tks L) (iv s.a) (iv s.lv) (iv s.e) (iv s.w) (sv nm) (l.map Ty.cells) (iv a) (sv dn) CR (iv da))=some (2,sts L s' [sv nm,tys (l++l'),iv a,sv dn,nilS,.rows CR,nilS,iv da,sv eB,nilS,nilS,nilS,iv 0])∧
  s'.a≤L.length∧mu L s'≤mu L s∧(∀t∈l',t.Ok)∧l'.length≤mu L s-mu L s':=by
 intro m
 induction m with
 |zero=>
  intro s l hm hn hs hl
  obtain⟨b,h1,h2⟩:=starts_ok (L:=L) 0 s
  cases b with
  |true=>have:=mu_pos (L:=L) (h2 rfl).1;omega
  |false=>exact⟨s,[],Evl.of (by rw[h31ab4k,g31ab4k];simp[h1,tys]),hs,Nat.le_refl _,(fun t ht=>by cases ht),by simp⟩
 |succ m ih=>
  intro s l hm hn hs hl
  obtain⟨b,h1,h2⟩:=starts_ok (L:=L) 0 s
  cases b with
  |false=>exact⟨s,[],Evl.of (by rw[h31ab4k,g31ab4k];simp[h1,tys]),hs,Nat.le_refl _,(fun t ht=>by cases ht),by simp⟩
  |true=>
   have hp:=mu_pos (L:=L) (h2 rfl).1
   obtain⟨v,s1,e1,e2,e3,e4⟩:=atypes_ok hL (m+1) s hs (by omega)
   obtain⟨s2,l',g1,g2,g3,g4,g5⟩:=ih s1 (l++[v]) (by omega) (by omega) e2 (by simp;omega)
   refine⟨s2,v::l',Evl.of ?_,g2,by omega,?_,by simp;omega⟩
   ·rw[h31ab4k,g31ab4k]
    rw[List.map_append,List.map_cons,List.map_nil,Ty.cells_eq v,List.append_assoc]at g1
    have ha:=fun k'=>appK_raw (P:=PG) (d:=.fail) (k:=k') slTy (raw_tys l) (c:=tyC v) rfl (by simp) (by simp;omega) (by decide)
    simp[h1,e1]
    simp[ha,g1]
   ·intro t ht
    rcases List.mem_cons.1 ht with rfl|ht
    ·exact e4.1
    ·exact g4 t ht
theorem arg_c(nm:ByteArray)(a:Int)(dn:ByteArray)(da:Int)(CR:List (List PV))(s:St)(hs:s.a≤L.length):∃(s':St) (l':List Ty),
  ((l'=[]∧ev (q31ab4c (tks L) (iv s.a) (iv s.lv) (iv s.e) (iv s.w) (sv nm) (iv a) (sv dn) CR (iv da))=some (0,sts L s' [sv nm,nilS,iv a,sv dn,nilS,.rows CR,nilS,iv da,sv eB,nilS,nilS,nilS,iv 0]))∨
   ev (q31ab4c (tks L) (iv s.a) (iv s.lv) (iv s.e) (iv s.w) (sv nm) (iv a) (sv dn) CR (iv da))=some (2,sts L s' [sv nm,tys l',iv a,sv dn,nilS,.rows CR,nilS,iv da,sv eB,nilS,nilS,nilS,iv 0]))∧
  s'.a≤L.length∧mu L s'≤mu L s∧(∀t∈l',t.Ok)∧l'.length≤10000000:=by
 obtain⟨b,h1,h2⟩:=starts_ok (L:=L) 0 s
 cases b with
 |false=>exact⟨s,[],.inl ⟨rfl,Evl.of (by rw[h31ab4c,g31ab4c];simp[h1])⟩,hs,Nat.le_refl _,(fun t ht=>by cases ht),by simp⟩
 |true=>
  have hp:=mu_pos (L:=L) (h2 rfl).1
  obtain⟨v,s1,e1,e2,e3,e4⟩:=atypes_ok hL (mu L s) s hs (Nat.le_refl _)
  have hml:=mu_le L s1
  obtain⟨s2,l',g1,g2,g3,g4,g5⟩:=arg_k hL nm a dn da CR (mu L s1) s1 [v] (Nat.le_refl _) (Nat.le_refl _) e2 (by simp;omega)
  refine⟨s2,v::l',.inr (Evl.of ?_),g2,by omega,?_,by simp;omega⟩
  ·rw[h31ab4c,g31ab4c]
   rw[List.map_cons,List.map_nil,Ty.cells_eq v]at g1
   simp[h1,e1]
   simp[g1]
  ·intro t ht
   rcases List.mem_cons.1 ht with rfl|ht
   ·exact e4.1
   ·exact g4 t ht
theorem arg_m{n:Nat}(nm:ByteArray)(a:Int)(dn:ByteArray)(da:Int)(PR:List (List PV)):∀(m:Nat) (s:St) (l:List Ty),mu L s≤m→m≤n→s.a≤L.length→l.length+m≤2000000→∃(s':St) (l':List Ty),
  ev (q31ab4m (tks L) (iv s.a) (iv s.lv) (iv s.e) (iv s.w) (sv nm) (l.map Ty.cells) (iv a) (sv dn) PR (iv da))=some (3,sts L s' [sv nm,tys (l++l'),iv a,sv dn,.rows PR,nilS,nilS,iv da,sv eB,nilS,nilS,nilS,iv 0])∧
  s'.a≤L.length∧mu L s'≤mu L s∧(∀t∈l',t.Ok)∧l'.length≤mu L s-mu L s':=by
 intro m
 induction m with
 |zero=>
  intro s l hm hn hs hl
  obtain⟨b,h1,h2⟩:=starts_ok (L:=L) 0 s
  cases b with
  |true=>have:=mu_pos (L:=L) (h2 rfl).1;omega
  |false=>exact⟨s,[],Evl.of (by rw[h31ab4m,g31ab4m];simp[h1,tys]),hs,Nat.le_refl _,(fun t ht=>by cases ht),by simp⟩
 |succ m ih=>
  intro s l hm hn hs hl
  obtain⟨b,h1,h2⟩:=starts_ok (L:=L) 0 s
  cases b with
  |false=>exact⟨s,[],Evl.of (by rw[h31ab4m,g31ab4m];simp[h1,tys]),hs,Nat.le_refl _,(fun t ht=>by cases ht),by simp⟩
  |true=>
   have hp:=mu_pos (L:=L) (h2 rfl).1
   obtain⟨v,s1,e1,e2,e3,e4⟩:=atypes_ok hL (m+1) s hs (by omega)
   obtain⟨s2,l',g1,g2,g3,g4,g5⟩:=ih s1 (l++[v]) (by omega) (by omega) e2 (by simp;omega)
   refine⟨s2,v::l',Evl.of ?_,g2,by omega,?_,by simp;omega⟩
   ·rw[h31ab4m,g31ab4m]
    rw[List.map_append,List.map_cons,List.map_nil,Ty.cells_eq v,List.append_assoc]at g1
    have ha:=fun k'=>appK_raw (P:=PG) (d:=.fail) (k:=k') slTy (raw_tys l) (c:=tyC v) rfl (by simp) (by simp;omega) (by decide)
    simp[h1,e1]
    simp[ha,g1]
   ·intro t ht
    rcases List.mem_cons.1 ht with rfl|ht
    ·exact e4.1
    ·exact g4 t ht
theorem arg_e(nm:ByteArray)(a:Int)(dn:ByteArray)(da:Int)(PR:List (List PV))(s:St)(hs:s.a≤L.length):∃(s':St) (l':List Ty),
  ((l'=[]∧ev (q31ab4e (tks L) (iv s.a) (iv s.lv) (iv s.e) (iv s.w) (sv nm) (iv a) (sv dn) PR (iv da))=some (1,sts L s' [sv nm,nilS,iv a,sv dn,.rows PR,nilS,nilS,iv da,sv eB,nilS,nilS,nilS,iv 0]))∨
   ev (q31ab4e (tks L) (iv s.a) (iv s.lv) (iv s.e) (iv s.w) (sv nm) (iv a) (sv dn) PR (iv da))=some (3,sts L s' [sv nm,tys l',iv a,sv dn,.rows PR,nilS,nilS,iv da,sv eB,nilS,nilS,nilS,iv 0]))∧
  s'.a≤L.length∧mu L s'≤mu L s∧(∀t∈l',t.Ok)∧l'.length≤10000000:=by
 obtain⟨b,h1,h2⟩:=starts_ok (L:=L) 0 s
 cases b with
 |false=>exact⟨s,[],.inl ⟨rfl,Evl.of (by rw[h31ab4e,g31ab4e];simp[h1])⟩,hs,Nat.le_refl _,(fun t ht=>by cases ht),by simp⟩
 |true=>
  have hp:=mu_pos (L:=L) (h2 rfl).1
  obtain⟨v,s1,e1,e2,e3,e4⟩:=atypes_ok hL (mu L s) s hs (Nat.le_refl _)
  have hml:=mu_le L s1
  obtain⟨s2,l',g1,g2,g3,g4,g5⟩:=arg_m hL nm a dn da PR (mu L s1) s1 [v] (Nat.le_refl _) (Nat.le_refl _) e2 (by simp;omega)
  refine⟨s2,v::l',.inr (Evl.of ?_),g2,by omega,?_,by simp;omega⟩
  ·rw[h31ab4e,g31ab4e]
   rw[List.map_cons,List.map_nil,Ty.cells_eq v]at g1
   simp[h1,e1]
   simp[g1]
  ·intro t ht
   rcases List.mem_cons.1 ht with rfl|ht
   ·exact e4.1
   ·exact g4 t ht
theorem arg_o{n:Nat}(nm:ByteArray)(a:Int)(dn:ByteArray)(da:Int)(PR:List (List PV))(CR:List (List PV)):∀(m:Nat) (s:St) (l:List Ty),mu L s≤m→m≤n→s.a≤L.length→l.length+m≤2000000→∃(s':St) (l':List Ty),
  ev (q31ab4o (tks L) (iv s.a) (iv s.lv) (iv s.e) (iv s.w) (sv nm) (l.map Ty.cells) (iv a) (sv dn) PR CR (iv da))=some (1,sts L s' [sv nm,tys (l++l'),iv a,sv dn,.rows PR,.rows CR,nilS,iv da,sv eB,nilS,nilS,nilS,iv 0])∧
  s'.a≤L.length∧mu L s'≤mu L s∧(∀t∈l',t.Ok)∧l'.length≤mu L s-mu L s':=by
 intro m
 induction m with
 |zero=>
  intro s l hm hn hs hl
  obtain⟨b,h1,h2⟩:=starts_ok (L:=L) 0 s
  cases b with
  |true=>have:=mu_pos (L:=L) (h2 rfl).1;omega
  |false=>exact⟨s,[],Evl.of (by rw[h31ab4o,g31ab4o];simp[h1,tys]),hs,Nat.le_refl _,(fun t ht=>by cases ht),by simp⟩
 |succ m ih=>
  intro s l hm hn hs hl
  obtain⟨b,h1,h2⟩:=starts_ok (L:=L) 0 s
  cases b with
  |false=>exact⟨s,[],Evl.of (by rw[h31ab4o,g31ab4o];simp[h1,tys]),hs,Nat.le_refl _,(fun t ht=>by cases ht),by simp⟩
  |true=>
   have hp:=mu_pos (L:=L) (h2 rfl).1
   obtain⟨v,s1,e1,e2,e3,e4⟩:=atypes_ok hL (m+1) s hs (by omega)
   obtain⟨s2,l',g1,g2,g3,g4,g5⟩:=ih s1 (l++[v]) (by omega) (by omega) e2 (by simp;omega)
   refine⟨s2,v::l',Evl.of ?_,g2,by omega,?_,by simp;omega⟩
   ·rw[h31ab4o,g31ab4o]
    rw[List.map_append,List.map_cons,List.map_nil,Ty.cells_eq v,List.append_assoc]at g1
    have ha:=fun k'=>appK_raw (P:=PG) (d:=.fail) (k:=k') slTy (raw_tys l) (c:=tyC v) rfl (by simp) (by simp;omega) (by decide)
    simp[h1,e1]
    simp[ha,g1]
   ·intro t ht
    rcases List.mem_cons.1 ht with rfl|ht
    ·exact e4.1
    ·exact g4 t ht
theorem arg_g(nm:ByteArray)(a:Int)(dn:ByteArray)(da:Int)(PR:List (List PV))(CR:List (List PV))(s:St)(hs:s.a≤L.length):∃(s':St) (l':List Ty),
  ((l'=[]∧ev (q31ab4g (tks L) (iv s.a) (iv s.lv) (iv s.e) (iv s.w) (sv nm) (iv a) (sv dn) PR CR (iv da))=some (0,sts L s' [sv nm,nilS,iv a,sv dn,.rows PR,.rows CR,nilS,iv da,sv eB,nilS,nilS,nilS,iv 0]))∨
   ev (q31ab4g (tks L) (iv s.a) (iv s.lv) (iv s.e) (iv s.w) (sv nm) (iv a) (sv dn) PR CR (iv da))=some (1,sts L s' [sv nm,tys l',iv a,sv dn,.rows PR,.rows CR,nilS,iv da,sv eB,nilS,nilS,nilS,iv 0]))∧
  s'.a≤L.length∧mu L s'≤mu L s∧(∀t∈l',t.Ok)∧l'.length≤10000000:=by
 obtain⟨b,h1,h2⟩:=starts_ok (L:=L) 0 s
 cases b with
 |false=>exact⟨s,[],.inl ⟨rfl,Evl.of (by rw[h31ab4g,g31ab4g];simp[h1])⟩,hs,Nat.le_refl _,(fun t ht=>by cases ht),by simp⟩
 |true=>
  have hp:=mu_pos (L:=L) (h2 rfl).1
  obtain⟨v,s1,e1,e2,e3,e4⟩:=atypes_ok hL (mu L s) s hs (Nat.le_refl _)
  have hml:=mu_le L s1
  obtain⟨s2,l',g1,g2,g3,g4,g5⟩:=arg_o hL nm a dn da PR CR (mu L s1) s1 [v] (Nat.le_refl _) (Nat.le_refl _) e2 (by simp;omega)
  refine⟨s2,v::l',.inr (Evl.of ?_),g2,by omega,?_,by simp;omega⟩
  ·rw[h31ab4g,g31ab4g]
   rw[List.map_cons,List.map_nil,Ty.cells_eq v]at g1
   simp[h1,e1]
   simp[g1]
  ·intro t ht
   rcases List.mem_cons.1 ht with rfl|ht
   ·exact e4.1
   ·exact g4 t ht
theorem con_i{n:Nat}(nm:ByteArray)(a:Int):∀(m:Nat) (s:St) (es:List (List PV)) (l:List Cn),Raw 3 es (l.map Cn.cells)→mu L s≤m→m≤n→s.a≤L.length→l.length+m≤2000000→∃(s':St) (es':List (List PV)) (l':List Cn),
  ev (q31ab2i (tks L) (iv s.a) (iv s.lv) (iv s.e) (iv s.w) (sv nm) es (iv a))=some (1,sts L s' [sv nm,nilS,.rows es',nilS,iv a,sv eB,nilS,nilS,nilS,iv 0])∧Raw 3 es' ((l++l').map Cn.cells)∧
  s'.a≤L.length∧mu L s'≤mu L s∧(∀t∈l',t.Ok)∧l'.length≤mu L s-mu L s':=by
 intro m
 induction m with
 |zero=>
  intro s es l hr hm hn hs hl
  have he:s.e≠0:=fun he=>by have:=mu_pos (L:=L) he;omega
  exact⟨s,es,[],Evl.of (by rw[h31ab2i,g31ab2i];simp[he]),by simpa using hr,hs,Nat.le_refl _,(by simp),by simp⟩
 |succ m ihm=>
  intro s es l hr hm hn hs hl
  by_cases he:s.e=0
  ·have hp:=mu_pos (L:=L) he
   have hln:=hr.len
   rw[List.length_map]at hln
   have t1:=take_mu (L:=L) (k:=2) (x:=eB) (by decide) s
   have t2:=take_a (L:=L) (k:=2) (x:=eB) (by decide) hs
   obtain⟨s2,al,hc,g2,g3,g4,g5⟩:=arg_c hL (takeT L 2 eB s).text (takeT L 2 eB s).at_ nm a es (takeS L 2 eB s) t2
   have hx:(Cn.mk (takeT L 2 eB s).text al (takeT L 2 eB s).at_).Ok:=⟨by unfold maxN;simp only;omega,g4⟩
   have key:∀(kd:PV),(kd=nilS∧al=[]∨kd=tys al)→Raw 3 (es++[[sv (takeT L 2 eB s).text,kd,iv (takeT L 2 eB s).at_]]) ((l++[Cn.mk (takeT L 2 eB s).text al (takeT L 2 eB s).at_]).map Cn.cells)∧(∀k':PV→Res,appK PG .fail 71 (.pv (.rows es)) (.pv (.rows [[sv (takeT L 2 eB s).text,kd,iv (takeT L 2 eB s).at_]])) k'=k' (.rows (es++[[sv (takeT L 2 eB s).text,kd,iv (takeT L 2 eB s).at_]]))):=by
    intro kd hkd
    have hns:NS kd:=by rcases hkd with⟨rfl,_⟩|rfl<;>simp
    refine⟨?_,fun k'=>appK_raw (P:=PG) (d:=.fail) (k:=k') slCn hr (c:=[sv (takeT L 2 eB s).text,kd,iv (takeT L 2 eB s).at_]) rfl (by simp[hns]) (by omega) (by decide)⟩
    have:=hr.app (c:=[sv (takeT L 2 eB s).text,kd,iv (takeT L 2 eB s).at_]) (c':=(Cn.mk (takeT L 2 eB s).text al (takeT L 2 eB s).at_).cells) (by rcases hkd with⟨rfl,rfl⟩|rfl<;>simp[Cn.cells]) rfl (by simp[hns])
    simpa using this
   cases hb:isB L ⟨#[124]⟩ s2 with
   |true=>
    obtain⟨b1,b2⟩:=may_in hb
    rcases hc with⟨rfl,hc⟩|hc
    ·obtain⟨k1,k2⟩:=key nilS (.inl ⟨rfl,rfl⟩)
     obtain⟨s3,es',l',r1,r2,r3,r4,r5,r6⟩:=ihm s2.up _ _ k1 (by omega) (by omega) b2 (by simp;omega)
     refine⟨s3,es',_::l',Evl.of ?_,by simpa using r2,r3,by omega,?_,by simp;omega⟩
     ·rw[h31ab2i,g31ab2i]
      simp[eq_true he]
      simp[take_m hL (k:=2) (by decide),Tk.cells]
      simp[hc]
      simp[k2]
      simp[may_m hL,hb,may_t hb]
      simp[r1]
     ·intro x hx'
      rcases List.mem_cons.1 hx' with rfl|hx'
      ·exact hx
      ·exact r5 x hx'
    ·obtain⟨k1,k2⟩:=key (tys al) (.inr rfl)
     obtain⟨s3,es',l',r1,r2,r3,r4,r5,r6⟩:=ihm s2.up _ _ k1 (by omega) (by omega) b2 (by simp;omega)
     refine⟨s3,es',_::l',Evl.of ?_,by simpa using r2,r3,by omega,?_,by simp;omega⟩
     ·rw[h31ab2i,g31ab2i]
      simp[eq_true he]
      simp[take_m hL (k:=2) (by decide),Tk.cells]
      simp[hc]
      simp[k2]
      simp[may_m hL,hb,may_t hb]
      simp[r1]
     ·intro x hx'
      rcases List.mem_cons.1 hx' with rfl|hx'
      ·exact hx
      ·exact r5 x hx'
   |false=>
    rcases hc with⟨rfl,hc⟩|hc
    ·obtain⟨k1,k2⟩:=key nilS (.inl ⟨rfl,rfl⟩)
     refine⟨s2,_,[_],Evl.of ?_,k1,g2,by omega,by simpa using hx,by simp;omega⟩
     rw[h31ab2i,g31ab2i]
     simp[eq_true he]
     simp[take_m hL (k:=2) (by decide),Tk.cells]
     simp[hc]
     simp[k2]
     simp[may_m hL,hb,may_f hb]
     rw[Evl.of (h31ab2j ev _ _ _ _ _ _ _ _)]
     rfl
    ·obtain⟨k1,k2⟩:=key (tys al) (.inr rfl)
     refine⟨s2,_,[_],Evl.of ?_,k1,g2,by omega,by simpa using hx,by simp;omega⟩
     rw[h31ab2i,g31ab2i]
     simp[eq_true he]
     simp[take_m hL (k:=2) (by decide),Tk.cells]
     simp[hc]
     simp[k2]
     simp[may_m hL,hb,may_f hb]
     rw[Evl.of (h31ab2j ev _ _ _ _ _ _ _ _)]
     rfl
  ·exact⟨s,es,[],Evl.of (by rw[h31ab2i,g31ab2i];simp[he]),by simpa using hr,hs,Nat.le_refl _,(by simp),by simp⟩
theorem con_a(nm:ByteArray)(a:Int)(s:St)(hs:s.a≤L.length):∃(s':St) (es':List (List PV)) (l':List Cn),
  ((l'=[]∧ev (q31ab2a (tks L) (iv s.a) (iv s.lv) (iv s.e) (iv s.w) (sv nm) (iv a))=some (0,sts L s' [sv nm,nilS,nilS,nilS,iv a,sv eB,nilS,nilS,nilS,iv 0]))∨
   (Raw 3 es' (l'.map Cn.cells)∧ev (q31ab2a (tks L) (iv s.a) (iv s.lv) (iv s.e) (iv s.w) (sv nm) (iv a))=some (1,sts L s' [sv nm,nilS,.rows es',nilS,iv a,sv eB,nilS,nilS,nilS,iv 0])))∧
  s'.a≤L.length∧mu L s'≤mu L s∧(∀t∈l',t.Ok)∧l'.length≤mu L s:=by
 by_cases he:s.e=0
 ·have hp:=mu_pos (L:=L) he
  have t1:=take_mu (L:=L) (k:=2) (x:=eB) (by decide) s
  have t2:=take_a (L:=L) (k:=2) (x:=eB) (by decide) hs
  obtain⟨s2,al,hc,g2,g3,g4,g5⟩:=arg_a hL (takeT L 2 eB s).text (takeT L 2 eB s).at_ nm a (takeS L 2 eB s) t2
  have hx:(Cn.mk (takeT L 2 eB s).text al (takeT L 2 eB s).at_).Ok:=⟨by unfold maxN;simp only;omega,g4⟩
  have key:∀(kd:PV),(kd=nilS∧al=[]∨kd=tys al)→Raw 3 [[sv (takeT L 2 eB s).text,kd,iv (takeT L 2 eB s).at_]] ([Cn.mk (takeT L 2 eB s).text al (takeT L 2 eB s).at_].map Cn.cells):=by
   intro kd hkd
   have hns:NS kd:=by rcases hkd with⟨rfl,_⟩|rfl<;>simp
   exact .one (c':=(Cn.mk (takeT L 2 eB s).text al (takeT L 2 eB s).at_).cells) (by rcases hkd with⟨rfl,rfl⟩|rfl<;>simp[Cn.cells]) rfl (by simp[hns])
  cases hb:isB L ⟨#[124]⟩ s2 with
  |true=>
   obtain⟨b1,b2⟩:=may_in hb
   have hml:=mu_le L s2.up
   rcases hc with⟨rfl,hc⟩|hc
   ·obtain⟨s3,es',l',r1,r2,r3,r4,r5,r6⟩:=con_i hL nm a (mu L s2.up) s2.up _ _ (key nilS (.inl ⟨rfl,rfl⟩)) (Nat.le_refl _) (Nat.le_refl _) b2 (by simp;omega)
    refine⟨s3,es',_::l',.inr ⟨by simpa using r2,Evl.of ?_⟩,r3,by omega,?_,by simp;omega⟩
    ·rw[h31ab2a,g31ab2a]
     simp[eq_true he]
     simp[take_m hL (k:=2) (by decide),Tk.cells]
     simp[hc]
     simp[may_m hL,hb,may_t hb]
     simp[r1]
    ·intro x hx'
     rcases List.mem_cons.1 hx' with rfl|hx'
     ·exact hx
     ·exact r5 x hx'
   ·obtain⟨s3,es',l',r1,r2,r3,r4,r5,r6⟩:=con_i hL nm a (mu L s2.up) s2.up _ _ (key (tys al) (.inr rfl)) (Nat.le_refl _) (Nat.le_refl _) b2 (by simp;omega)
    refine⟨s3,es',_::l',.inr ⟨by simpa using r2,Evl.of ?_⟩,r3,by omega,?_,by simp;omega⟩
    ·rw[h31ab2a,g31ab2a]
     simp[eq_true he]
     simp[take_m hL (k:=2) (by decide),Tk.cells]
     simp[hc]
     simp[may_m hL,hb,may_t hb]
     simp[r1]
    ·intro x hx'
     rcases List.mem_cons.1 hx' with rfl|hx'
     ·exact hx
     ·exact r5 x hx'
  |false=>
   rcases hc with⟨rfl,hc⟩|hc
   ·refine⟨s2,_,[_],.inr ⟨key nilS (.inl ⟨rfl,rfl⟩),Evl.of ?_⟩,g2,by omega,by simpa using hx,by simp;omega⟩
    rw[h31ab2a,g31ab2a]
    simp[eq_true he]
    simp[take_m hL (k:=2) (by decide),Tk.cells]
    simp[hc]
    simp[may_m hL,hb,may_f hb]
    rw[Evl.of (h31ab2j ev _ _ _ _ _ _ _ _)]
    rfl
   ·refine⟨s2,_,[_],.inr ⟨key (tys al) (.inr rfl),Evl.of ?_⟩,g2,by omega,by simpa using hx,by simp;omega⟩
    rw[h31ab2a,g31ab2a]
    simp[eq_true he]
    simp[take_m hL (k:=2) (by decide),Tk.cells]
    simp[hc]
    simp[may_m hL,hb,may_f hb]
    rw[Evl.of (h31ab2j ev _ _ _ _ _ _ _ _)]
    rfl
 ·exact⟨s,[],[],.inl ⟨rfl,Evl.of (by rw[h31ab2a,g31ab2a];simp[he])⟩,hs,Nat.le_refl _,(by simp),by simp⟩
theorem con_q{n:Nat}(nm:ByteArray)(a:Int)(PR:List (List PV)):∀(m:Nat) (s:St) (es:List (List PV)) (l:List Cn),Raw 3 es (l.map Cn.cells)→mu L s≤m→m≤n→s.a≤L.length→l.length+m≤2000000→∃(s':St) (es':List (List PV)) (l':List Cn),
  ev (q31ab2q (tks L) (iv s.a) (iv s.lv) (iv s.e) (iv s.w) (sv nm) PR es (iv a))=some (1,sts L s' [sv nm,.rows PR,.rows es',nilS,iv a,sv eB,nilS,nilS,nilS,iv 0])∧Raw 3 es' ((l++l').map Cn.cells)∧
  s'.a≤L.length∧mu L s'≤mu L s∧(∀t∈l',t.Ok)∧l'.length≤mu L s-mu L s':=by
 intro m
 induction m with
 |zero=>
  intro s es l hr hm hn hs hl
  have he:s.e≠0:=fun he=>by have:=mu_pos (L:=L) he;omega
  exact⟨s,es,[],Evl.of (by rw[h31ab2q,g31ab2q];simp[he]),by simpa using hr,hs,Nat.le_refl _,(by simp),by simp⟩
 |succ m ihm=>
  intro s es l hr hm hn hs hl
  by_cases he:s.e=0
  ·have hp:=mu_pos (L:=L) he
   have hln:=hr.len
   rw[List.length_map]at hln
   have t1:=take_mu (L:=L) (k:=2) (x:=eB) (by decide) s
   have t2:=take_a (L:=L) (k:=2) (x:=eB) (by decide) hs
   obtain⟨s2,al,hc,g2,g3,g4,g5⟩:=arg_g hL (takeT L 2 eB s).text (takeT L 2 eB s).at_ nm a PR es (takeS L 2 eB s) t2
   have hx:(Cn.mk (takeT L 2 eB s).text al (takeT L 2 eB s).at_).Ok:=⟨by unfold maxN;simp only;omega,g4⟩
   have key:∀(kd:PV),(kd=nilS∧al=[]∨kd=tys al)→Raw 3 (es++[[sv (takeT L 2 eB s).text,kd,iv (takeT L 2 eB s).at_]]) ((l++[Cn.mk (takeT L 2 eB s).text al (takeT L 2 eB s).at_]).map Cn.cells)∧(∀k':PV→Res,appK PG .fail 71 (.pv (.rows es)) (.pv (.rows [[sv (takeT L 2 eB s).text,kd,iv (takeT L 2 eB s).at_]])) k'=k' (.rows (es++[[sv (takeT L 2 eB s).text,kd,iv (takeT L 2 eB s).at_]]))):=by
    intro kd hkd
    have hns:NS kd:=by rcases hkd with⟨rfl,_⟩|rfl<;>simp
    refine⟨?_,fun k'=>appK_raw (P:=PG) (d:=.fail) (k:=k') slCn hr (c:=[sv (takeT L 2 eB s).text,kd,iv (takeT L 2 eB s).at_]) rfl (by simp[hns]) (by omega) (by decide)⟩
    have:=hr.app (c:=[sv (takeT L 2 eB s).text,kd,iv (takeT L 2 eB s).at_]) (c':=(Cn.mk (takeT L 2 eB s).text al (takeT L 2 eB s).at_).cells) (by rcases hkd with⟨rfl,rfl⟩|rfl<;>simp[Cn.cells]) rfl (by simp[hns])
    simpa using this
   cases hb:isB L ⟨#[124]⟩ s2 with
   |true=>
    obtain⟨b1,b2⟩:=may_in hb
    rcases hc with⟨rfl,hc⟩|hc
    ·obtain⟨k1,k2⟩:=key nilS (.inl ⟨rfl,rfl⟩)
     obtain⟨s3,es',l',r1,r2,r3,r4,r5,r6⟩:=ihm s2.up _ _ k1 (by omega) (by omega) b2 (by simp;omega)
     refine⟨s3,es',_::l',Evl.of ?_,by simpa using r2,r3,by omega,?_,by simp;omega⟩
     ·rw[h31ab2q,g31ab2q]
      simp[eq_true he]
      simp[take_m hL (k:=2) (by decide),Tk.cells]
      simp[hc]
      simp[k2]
      simp[may_m hL,hb,may_t hb]
      simp[r1]
     ·intro x hx'
      rcases List.mem_cons.1 hx' with rfl|hx'
      ·exact hx
      ·exact r5 x hx'
    ·obtain⟨k1,k2⟩:=key (tys al) (.inr rfl)
     obtain⟨s3,es',l',r1,r2,r3,r4,r5,r6⟩:=ihm s2.up _ _ k1 (by omega) (by omega) b2 (by simp;omega)
     refine⟨s3,es',_::l',Evl.of ?_,by simpa using r2,r3,by omega,?_,by simp;omega⟩
     ·rw[h31ab2q,g31ab2q]
      simp[eq_true he]
      simp[take_m hL (k:=2) (by decide),Tk.cells]
      simp[hc]
      simp[k2]
      simp[may_m hL,hb,may_t hb]
      simp[r1]
     ·intro x hx'
      rcases List.mem_cons.1 hx' with rfl|hx'
      ·exact hx
      ·exact r5 x hx'
   |false=>
    rcases hc with⟨rfl,hc⟩|hc
    ·obtain⟨k1,k2⟩:=key nilS (.inl ⟨rfl,rfl⟩)
     refine⟨s2,_,[_],Evl.of ?_,k1,g2,by omega,by simpa using hx,by simp;omega⟩
     rw[h31ab2q,g31ab2q]
     simp[eq_true he]
     simp[take_m hL (k:=2) (by decide),Tk.cells]
     simp[hc]
     simp[k2]
     simp[may_m hL,hb,may_f hb]
     rw[Evl.of (h31ab2r ev _ _ _ _ _ _ _ _ _)]
     rfl
    ·obtain⟨k1,k2⟩:=key (tys al) (.inr rfl)
     refine⟨s2,_,[_],Evl.of ?_,k1,g2,by omega,by simpa using hx,by simp;omega⟩
     rw[h31ab2q,g31ab2q]
     simp[eq_true he]
     simp[take_m hL (k:=2) (by decide),Tk.cells]
     simp[hc]
     simp[k2]
     simp[may_m hL,hb,may_f hb]
     rw[Evl.of (h31ab2r ev _ _ _ _ _ _ _ _ _)]
     rfl
  ·exact⟨s,es,[],Evl.of (by rw[h31ab2q,g31ab2q];simp[he]),by simpa using hr,hs,Nat.le_refl _,(by simp),by simp⟩
theorem con_e(nm:ByteArray)(a:Int)(PR:List (List PV))(s:St)(hs:s.a≤L.length):∃(s':St) (es':List (List PV)) (l':List Cn),
  ((l'=[]∧ev (q31ab2e (tks L) (iv s.a) (iv s.lv) (iv s.e) (iv s.w) (sv nm) PR (iv a))=some (0,sts L s' [sv nm,.rows PR,nilS,nilS,iv a,sv eB,nilS,nilS,nilS,iv 0]))∨
   (Raw 3 es' (l'.map Cn.cells)∧ev (q31ab2e (tks L) (iv s.a) (iv s.lv) (iv s.e) (iv s.w) (sv nm) PR (iv a))=some (1,sts L s' [sv nm,.rows PR,.rows es',nilS,iv a,sv eB,nilS,nilS,nilS,iv 0])))∧
  s'.a≤L.length∧mu L s'≤mu L s∧(∀t∈l',t.Ok)∧l'.length≤mu L s:=by
 by_cases he:s.e=0
 ·have hp:=mu_pos (L:=L) he
  have t1:=take_mu (L:=L) (k:=2) (x:=eB) (by decide) s
  have t2:=take_a (L:=L) (k:=2) (x:=eB) (by decide) hs
  obtain⟨s2,al,hc,g2,g3,g4,g5⟩:=arg_e hL (takeT L 2 eB s).text (takeT L 2 eB s).at_ nm a PR (takeS L 2 eB s) t2
  have hx:(Cn.mk (takeT L 2 eB s).text al (takeT L 2 eB s).at_).Ok:=⟨by unfold maxN;simp only;omega,g4⟩
  have key:∀(kd:PV),(kd=nilS∧al=[]∨kd=tys al)→Raw 3 [[sv (takeT L 2 eB s).text,kd,iv (takeT L 2 eB s).at_]] ([Cn.mk (takeT L 2 eB s).text al (takeT L 2 eB s).at_].map Cn.cells):=by
   intro kd hkd
   have hns:NS kd:=by rcases hkd with⟨rfl,_⟩|rfl<;>simp
   exact .one (c':=(Cn.mk (takeT L 2 eB s).text al (takeT L 2 eB s).at_).cells) (by rcases hkd with⟨rfl,rfl⟩|rfl<;>simp[Cn.cells]) rfl (by simp[hns])
  cases hb:isB L ⟨#[124]⟩ s2 with
  |true=>
   obtain⟨b1,b2⟩:=may_in hb
   have hml:=mu_le L s2.up
   rcases hc with⟨rfl,hc⟩|hc
   ·obtain⟨s3,es',l',r1,r2,r3,r4,r5,r6⟩:=con_q hL nm a PR (mu L s2.up) s2.up _ _ (key nilS (.inl ⟨rfl,rfl⟩)) (Nat.le_refl _) (Nat.le_refl _) b2 (by simp;omega)
    refine⟨s3,es',_::l',.inr ⟨by simpa using r2,Evl.of ?_⟩,r3,by omega,?_,by simp;omega⟩
    ·rw[h31ab2e,g31ab2e]
     simp[eq_true he]
     simp[take_m hL (k:=2) (by decide),Tk.cells]
     simp[hc]
     simp[may_m hL,hb,may_t hb]
     simp[r1]
    ·intro x hx'
     rcases List.mem_cons.1 hx' with rfl|hx'
     ·exact hx
     ·exact r5 x hx'
   ·obtain⟨s3,es',l',r1,r2,r3,r4,r5,r6⟩:=con_q hL nm a PR (mu L s2.up) s2.up _ _ (key (tys al) (.inr rfl)) (Nat.le_refl _) (Nat.le_refl _) b2 (by simp;omega)
    refine⟨s3,es',_::l',.inr ⟨by simpa using r2,Evl.of ?_⟩,r3,by omega,?_,by simp;omega⟩
    ·rw[h31ab2e,g31ab2e]
     simp[eq_true he]
     simp[take_m hL (k:=2) (by decide),Tk.cells]
     simp[hc]
     simp[may_m hL,hb,may_t hb]
     simp[r1]
    ·intro x hx'
     rcases List.mem_cons.1 hx' with rfl|hx'
     ·exact hx
     ·exact r5 x hx'
  |false=>
   rcases hc with⟨rfl,hc⟩|hc
   ·refine⟨s2,_,[_],.inr ⟨key nilS (.inl ⟨rfl,rfl⟩),Evl.of ?_⟩,g2,by omega,by simpa using hx,by simp;omega⟩
    rw[h31ab2e,g31ab2e]
    simp[eq_true he]
    simp[take_m hL (k:=2) (by decide),Tk.cells]
    simp[hc]
    simp[may_m hL,hb,may_f hb]
    rw[Evl.of (h31ab2r ev _ _ _ _ _ _ _ _ _)]
    rfl
   ·refine⟨s2,_,[_],.inr ⟨key (tys al) (.inr rfl),Evl.of ?_⟩,g2,by omega,by simpa using hx,by simp;omega⟩
    rw[h31ab2e,g31ab2e]
    simp[eq_true he]
    simp[take_m hL (k:=2) (by decide),Tk.cells]
    simp[hc]
    simp[may_m hL,hb,may_f hb]
    rw[Evl.of (h31ab2r ev _ _ _ _ _ _ _ _ _)]
    rfl
 ·exact⟨s,[],[],.inl ⟨rfl,Evl.of (by rw[h31ab2e,g31ab2e];simp[he])⟩,hs,Nat.le_refl _,(by simp),by simp⟩
theorem data_ok(n:Nat):Par L (n+1) (qDt L) dtC dtOk:=
 Par.weak (q:=fun s=>q31a (tks L) (iv s.a) (iv s.lv) (iv s.e) (iv s.w)) (fun s=>h31aw ev _ _ _ _ _) fun s hs hm=>by
  show Good L s dtC dtOk (body PG EE TT ev (q31a (tks L) (iv s.a) (iv s.lv) (iv s.e) (iv s.w)))
  rw[h31a,g31a]
  have t1:=take_mu (L:=L) (k:=2) (x:=eB) (by decide) s
  have t2:=take_a (L:=L) (k:=2) (x:=eB) (by decide) hs
  simp[take_m hL (k:=2) (by decide),Tk.cells]
  generalize takeS L 2 eB s=s1 at *
  generalize takeT L 2 eB s=t at *
  have hml:=mu_le L s
  obtain⟨s2,ps,hc,p2,p3,p4⟩:=par_a hL t.text t.at_ s1 t2
  have q1:=take_mu (L:=L) (k:=7) (x:=⟨#[61]⟩) (by decide) s2
  have q2:=take_a (L:=L) (k:=7) (x:=⟨#[61]⟩) (by decide) p2
  rcases hc with⟨rfl,hc⟩|⟨x,xs,hps,hc⟩
  ·simp[hc]
   simp[take_m hL (k:=7) (by decide),Tk.cells]
   obtain⟨s3,es,l,hd,g2,g3,g4,g5⟩:=con_a hL t.text t.at_ (takeS L 7 ⟨#[61]⟩ s2) q2
   rcases hd with⟨rfl,hd⟩|⟨hr,hd⟩
   ·simp[hd]
    simp[may_m hL]
    refine bK_ind (fun hb=>?_) (fun hb=>?_)
    ·obtain⟨b1,b2⟩:=may_in hb
     rw[may_t hb]
     have d1:=take_mu (L:=L) (k:=7) (x:=⟨#[40]⟩) (by decide) s3.up
     have d2:=take_a (L:=L) (k:=7) (x:=⟨#[40]⟩) (by decide) b2
     obtain⟨us,s4,u1,u2,u3,u4⟩:=uppers_ok hL (n+1) _ d2 (by omega)
     have d3:=take_mu (L:=L) (k:=7) (x:=⟨#[41]⟩) (by decide) s4
     have d4:=take_a (L:=L) (k:=7) (x:=⟨#[41]⟩) (by decide) u2
     simp[take_m hL (k:=7) (by decide),Tk.cells]
     simp[u1]
     simp[take_m hL (k:=7) (by decide),Tk.cells]
     exact Good.of _ _ (takeS L 7 ⟨#[41]⟩ s4) ⟨t.text,[],[],us,t.at_⟩ (by simp) d4 (by omega) ⟨⟨by unfold maxN;simp;try omega,⟨by unfold maxN;simp;try omega,g4⟩,by unfold maxN;simp only;omega⟩,by simp;try omega⟩
    ·rw[may_f hb]
     exact Good.of _ _ s3 ⟨t.text,[],[],[],t.at_⟩ (by simp) g2 (by omega) ⟨⟨by unfold maxN;simp;try omega,⟨by unfold maxN;simp;try omega,g4⟩,by simp[maxN]⟩,by simp;try omega⟩
   ·simp[hd]
    simp[may_m hL]
    refine bK_ind (fun hb=>?_) (fun hb=>?_)
    ·obtain⟨b1,b2⟩:=may_in hb
     rw[may_t hb]
     have d1:=take_mu (L:=L) (k:=7) (x:=⟨#[40]⟩) (by decide) s3.up
     have d2:=take_a (L:=L) (k:=7) (x:=⟨#[40]⟩) (by decide) b2
     obtain⟨us,s4,u1,u2,u3,u4⟩:=uppers_ok hL (n+1) _ d2 (by omega)
     have d3:=take_mu (L:=L) (k:=7) (x:=⟨#[41]⟩) (by decide) s4
     have d4:=take_a (L:=L) (k:=7) (x:=⟨#[41]⟩) (by decide) u2
     simp[take_m hL (k:=7) (by decide),Tk.cells]
     simp[u1]
     simp[take_m hL (k:=7) (by decide),Tk.cells]
     exact Good.of _ _ (takeS L 7 ⟨#[41]⟩ s4) ⟨t.text,[],l,us,t.at_⟩ (by simp[hr.wd,cns]) d4 (by omega) ⟨⟨by unfold maxN;simp;try omega,⟨by unfold maxN;simp;try omega,g4⟩,by unfold maxN;simp only;omega⟩,by simp;try omega⟩
    ·rw[may_f hb]
     exact Good.of _ _ s3 ⟨t.text,[],l,[],t.at_⟩ (by simp[hr.wd,cns]) g2 (by omega) ⟨⟨by unfold maxN;simp;try omega,⟨by unfold maxN;simp;try omega,g4⟩,by simp[maxN]⟩,by simp;try omega⟩
  ·simp[hc]
   simp[take_m hL (k:=7) (by decide),Tk.cells]
   obtain⟨s3,es,l,hd,g2,g3,g4,g5⟩:=con_e hL t.text t.at_ (ps.map fun x=>[sv x]) (takeS L 7 ⟨#[61]⟩ s2) q2
   have hst:strs ps=.rows (ps.map fun x=>[sv x]):=rfl
   have hne:∀k:Res,isK .fail nilS (strs ps) k=.fail:=fun k=>isK_nilr _ _ _
   rw[hst]
   rcases hd with⟨rfl,hd⟩|⟨hr,hd⟩
   ·simp[hd]
    simp[may_m hL]
    refine bK_ind (fun hb=>?_) (fun hb=>?_)
    ·obtain⟨b1,b2⟩:=may_in hb
     rw[may_t hb]
     have d1:=take_mu (L:=L) (k:=7) (x:=⟨#[40]⟩) (by decide) s3.up
     have d2:=take_a (L:=L) (k:=7) (x:=⟨#[40]⟩) (by decide) b2
     obtain⟨us,s4,u1,u2,u3,u4⟩:=uppers_ok hL (n+1) _ d2 (by omega)
     have d3:=take_mu (L:=L) (k:=7) (x:=⟨#[41]⟩) (by decide) s4
     have d4:=take_a (L:=L) (k:=7) (x:=⟨#[41]⟩) (by decide) u2
     simp[take_m hL (k:=7) (by decide),Tk.cells]
     simp[u1]
     simp[take_m hL (k:=7) (by decide),Tk.cells]
     exact Good.of _ _ (takeS L 7 ⟨#[41]⟩ s4) ⟨t.text,ps,[],us,t.at_⟩ (by simp[←hst]) d4 (by omega) ⟨⟨by unfold maxN;simp;try omega,⟨by unfold maxN;simp;try omega,g4⟩,by unfold maxN;simp only;omega⟩,by simp;try omega⟩
    ·rw[may_f hb]
     exact Good.of _ _ s3 ⟨t.text,ps,[],[],t.at_⟩ (by simp[←hst]) g2 (by omega) ⟨⟨by unfold maxN;simp;try omega,⟨by unfold maxN;simp;try omega,g4⟩,by simp[maxN]⟩,by simp;try omega⟩
   ·simp[hd]
    simp[may_m hL]
    refine bK_ind (fun hb=>?_) (fun hb=>?_)
    ·obtain⟨b1,b2⟩:=may_in hb
     rw[may_t hb]
     have d1:=take_mu (L:=L) (k:=7) (x:=⟨#[40]⟩) (by decide) s3.up
     have d2:=take_a (L:=L) (k:=7) (x:=⟨#[40]⟩) (by decide) b2
     obtain⟨us,s4,u1,u2,u3,u4⟩:=uppers_ok hL (n+1) _ d2 (by omega)
     have d3:=take_mu (L:=L) (k:=7) (x:=⟨#[41]⟩) (by decide) s4
     have d4:=take_a (L:=L) (k:=7) (x:=⟨#[41]⟩) (by decide) u2
     simp[take_m hL (k:=7) (by decide),Tk.cells]
     simp[u1]
     simp[take_m hL (k:=7) (by decide),Tk.cells]
     exact Good.of _ _ (takeS L 7 ⟨#[41]⟩ s4) ⟨t.text,ps,l,us,t.at_⟩ (by simp[hr.wd,cns,←hst]) d4 (by omega) ⟨⟨by unfold maxN;simp;try omega,⟨by unfold maxN;simp;try omega,g4⟩,by unfold maxN;simp only;omega⟩,by simp;try omega⟩
    ·rw[may_f hb]
     exact Good.of _ _ s3 ⟨t.text,ps,l,[],t.at_⟩ (by simp[hr.wd,cns,←hst]) g2 (by omega) ⟨⟨by unfold maxN;simp;try omega,⟨by unfold maxN;simp;try omega,g4⟩,by simp[maxN]⟩,by simp;try omega⟩
end
abbrev mdC(x:Md):List PV:=[sv x.name,iv x.t.kind,sv x.t.name,iv x.t.n,tys x.t.kids,iv x.at_]
abbrev clC(x:Cl):List PV:=[sv x.name,sv x.var,strs x.supers,mds x.methods,bds x.defaults,iv x.at_]
abbrev itC(x:It):List PV:=[sv x.cls,iv x.head.kind,sv x.head.name,iv x.head.n,tys x.head.kids,pds x.ctx,bds x.binds,iv x.at_]
@[simp] theorem mds_nil:mds []=.rows []:=rfl
@[simp] theorem pds_nil:pds []=.rows []:=rfl
theorem slMd:SlT PG 75 6 80:=SlT.of (by kernel_rfl)
theorem slPd:SlT PG 79 5 72:=SlT.of (by kernel_rfl)
theorem raw_mds(l:List Md):Raw 6 (l.map Md.cells) (l.map Md.cells):=.of l (fun x=>by simp[Md.cells]) (fun x=>rfl) (fun x=>by simp[Md.cells])
theorem mapB(l:List Bd)(v:Bd):(l++[v]).map Bd.cells=l.map Bd.cells++[bdC v]:=by rw[List.map_append,List.map_cons,List.map_nil,Bd.cells_eq]
theorem mapM(l:List Md)(v:Md):(l++[v]).map Md.cells=l.map Md.cells++[mdC v]:=by rw[List.map_append,List.map_cons,List.map_nil];rfl
abbrev qCl(L:List Tk)(s:St):Q:=q32aw (tks L) (iv s.a) (iv s.lv) (iv s.e) (iv s.w)
abbrev qIt(L:List Tk)(s:St):Q:=q33aw (tks L) (iv s.a) (iv s.lv) (iv s.e) (iv s.w)
section
variable{L:List Tk}(hL:L.length≤1000000)
include hL
theorem co_a(nm var:ByteArray)(sup:PV)(a:Int)(s:St)(he:s.e≠0):ev (q32ab0a (tks L) (iv s.a) (iv s.lv) (iv s.e) (iv s.w) (sv nm) (sv var) sup (iv a))=some (0,sts L s [sv nm,sv var,sup,nilS,nilS,iv a,sv eB,sv eB,nilS,nilS,nilS,iv 0]):=Evl.of (by
 rw[h32ab0a,g32ab0a]
 simp[he])
theorem ce_a(nm var:ByteArray)(sup:PV)(a:Int)(s:St)(he:s.e=0)(hb:isB L ⟨#[101,110,100]⟩ s=true):ev (q32ab0a (tks L) (iv s.a) (iv s.lv) (iv s.e) (iv s.w) (sv nm) (sv var) sup (iv a))=some (0,sts L s.up [sv nm,sv var,sup,nilS,nilS,iv a,sv eB,sv eB,nilS,nilS,nilS,iv 0]):=Evl.of (by
 rw[h32ab0a,g32ab0a]
 simp[eq_true he]
 simp[may_m hL,hb,may_t hb])
theorem cd_a(nm var:ByteArray)(sup:PV)(a:Int)(s s1:St)(v:Bd)(r:Rs)(he:s.e=0)(hb:isB L ⟨#[101,110,100]⟩ s=false)(hd:isB L ⟨#[100,101,102]⟩ s=true)(f1:ev (qBd L s.up)=some (0,sts L s1 (bdC v)))
  (hn:ev (q32ab0c (tks L) (iv (takeS L 7 ⟨#[59]⟩ s1).a) (iv (takeS L 7 ⟨#[59]⟩ s1).lv) (iv (takeS L 7 ⟨#[59]⟩ s1).e) (iv (takeS L 7 ⟨#[59]⟩ s1).w) (sv nm) (sv var) sup [bdC v] (iv a))=some r):ev (q32ab0a (tks L) (iv s.a) (iv s.lv) (iv s.e) (iv s.w) (sv nm) (sv var) sup (iv a))=some r:=Evl.of (by
 rw[h32ab0a,g32ab0a]
 simp[eq_true he]
 simp[may_m hL,hb,may_f hb,hd,may_t hd]
 simp[f1]
 simp[take_m hL (k:=7) (by decide),Tk.cells]
 simp[hn])
theorem cm_a(nm var:ByteArray)(sup:PV)(a:Int)(s s1 s3:St)(t:Tk)(ty:Ty)(r:Rs)(he:s.e=0)(hb:isB L ⟨#[101,110,100]⟩ s=false)(hd:isB L ⟨#[100,101,102]⟩ s=false)(f1:ev (qNm L s)=some (0,sts L s1 t.cells))(f2:ev (qTy L (takeS L 7 ⟨#[58]⟩ s1))=some (0,sts L s3 (tyC ty)))
  (hn:ev (q32ab0d (tks L) (iv (takeS L 7 ⟨#[59]⟩ s3).a) (iv (takeS L 7 ⟨#[59]⟩ s3).lv) (iv (takeS L 7 ⟨#[59]⟩ s3).e) (iv (takeS L 7 ⟨#[59]⟩ s3).w) (sv nm) (sv var) sup [[sv t.text,iv ty.kind,sv ty.name,iv ty.n,tys ty.kids,iv t.at_]] (iv a))=some r):ev (q32ab0a (tks L) (iv s.a) (iv s.lv) (iv s.e) (iv s.w) (sv nm) (sv var) sup (iv a))=some r:=Evl.of (by
 rw[h32ab0a,g32ab0a]
 simp[eq_true he]
 simp[may_m hL,hb,may_f hb,hd,may_f hd]
 simp[f1,Tk.cells]
 simp[take_m hL (k:=7) (by decide),Tk.cells]
 simp[f2]
 simp[take_m hL (k:=7) (by decide),Tk.cells]
 simp[hn])
theorem co_c(nm var:ByteArray)(sup:PV)(a:Int)(DR:List (List PV))(s:St)(he:s.e≠0):ev (q32ab0c (tks L) (iv s.a) (iv s.lv) (iv s.e) (iv s.w) (sv nm) (sv var) sup DR (iv a))=some (1,sts L s [sv nm,sv var,sup,nilS,.rows DR,iv a,sv eB,sv eB,nilS,nilS,nilS,iv 0]):=Evl.of (by
 rw[h32ab0c,g32ab0c]
 simp[he])
theorem ce_c(nm var:ByteArray)(sup:PV)(a:Int)(DR:List (List PV))(s:St)(he:s.e=0)(hb:isB L ⟨#[101,110,100]⟩ s=true):ev (q32ab0c (tks L) (iv s.a) (iv s.lv) (iv s.e) (iv s.w) (sv nm) (sv var) sup DR (iv a))=some (1,sts L s.up [sv nm,sv var,sup,nilS,.rows DR,iv a,sv eB,sv eB,nilS,nilS,nilS,iv 0]):=Evl.of (by
 rw[h32ab0c,g32ab0c]
 simp[eq_true he]
 simp[may_m hL,hb,may_t hb])
theorem cd_c(nm var:ByteArray)(sup:PV)(a:Int)(DR:List (List PV)){cs:List (List PV)}(hr:Raw 13 DR cs)(hl:DR.length≤3000000)(s s1:St)(v:Bd)(r:Rs)(he:s.e=0)(hb:isB L ⟨#[101,110,100]⟩ s=false)(hd:isB L ⟨#[100,101,102]⟩ s=true)(f1:ev (qBd L s.up)=some (0,sts L s1 (bdC v)))
  (hn:ev (q32ab0c (tks L) (iv (takeS L 7 ⟨#[59]⟩ s1).a) (iv (takeS L 7 ⟨#[59]⟩ s1).lv) (iv (takeS L 7 ⟨#[59]⟩ s1).e) (iv (takeS L 7 ⟨#[59]⟩ s1).w) (sv nm) (sv var) sup (DR++[bdC v]) (iv a))=some r):ev (q32ab0c (tks L) (iv s.a) (iv s.lv) (iv s.e) (iv s.w) (sv nm) (sv var) sup DR (iv a))=some r:=Evl.of (by
 rw[h32ab0c,g32ab0c]
 simp[eq_true he]
 simp[may_m hL,hb,may_f hb,hd,may_t hd]
 simp[f1]
 simp[appK_raw (P:=PG) (d:=.fail) slBd hr (c:=bdC v) rfl (by simp) (by omega) (by decide)]
 simp[take_m hL (k:=7) (by decide),Tk.cells]
 simp[hn])
theorem cm_c(nm var:ByteArray)(sup:PV)(a:Int)(DR:List (List PV))(s s1 s3:St)(t:Tk)(ty:Ty)(r:Rs)(he:s.e=0)(hb:isB L ⟨#[101,110,100]⟩ s=false)(hd:isB L ⟨#[100,101,102]⟩ s=false)(f1:ev (qNm L s)=some (0,sts L s1 t.cells))(f2:ev (qTy L (takeS L 7 ⟨#[58]⟩ s1))=some (0,sts L s3 (tyC ty)))
  (hn:ev (q32ab0g (tks L) (iv (takeS L 7 ⟨#[59]⟩ s3).a) (iv (takeS L 7 ⟨#[59]⟩ s3).lv) (iv (takeS L 7 ⟨#[59]⟩ s3).e) (iv (takeS L 7 ⟨#[59]⟩ s3).w) (sv nm) (sv var) sup [[sv t.text,iv ty.kind,sv ty.name,iv ty.n,tys ty.kids,iv t.at_]] DR (iv a))=some r):ev (q32ab0c (tks L) (iv s.a) (iv s.lv) (iv s.e) (iv s.w) (sv nm) (sv var) sup DR (iv a))=some r:=Evl.of (by
 rw[h32ab0c,g32ab0c]
 simp[eq_true he]
 simp[may_m hL,hb,may_f hb,hd,may_f hd]
 simp[f1,Tk.cells]
 simp[take_m hL (k:=7) (by decide),Tk.cells]
 simp[f2]
 simp[take_m hL (k:=7) (by decide),Tk.cells]
 simp[hn])
theorem co_d(nm var:ByteArray)(sup:PV)(a:Int)(MR:List (List PV))(s:St)(he:s.e≠0):ev (q32ab0d (tks L) (iv s.a) (iv s.lv) (iv s.e) (iv s.w) (sv nm) (sv var) sup MR (iv a))=some (2,sts L s [sv nm,sv var,sup,.rows MR,nilS,iv a,sv eB,sv eB,nilS,nilS,nilS,iv 0]):=Evl.of (by
 rw[h32ab0d,g32ab0d]
 simp[he])
theorem ce_d(nm var:ByteArray)(sup:PV)(a:Int)(MR:List (List PV))(s:St)(he:s.e=0)(hb:isB L ⟨#[101,110,100]⟩ s=true):ev (q32ab0d (tks L) (iv s.a) (iv s.lv) (iv s.e) (iv s.w) (sv nm) (sv var) sup MR (iv a))=some (2,sts L s.up [sv nm,sv var,sup,.rows MR,nilS,iv a,sv eB,sv eB,nilS,nilS,nilS,iv 0]):=Evl.of (by
 rw[h32ab0d,g32ab0d]
 simp[eq_true he]
 simp[may_m hL,hb,may_t hb])
theorem cd_d(nm var:ByteArray)(sup:PV)(a:Int)(MR:List (List PV))(s s1:St)(v:Bd)(r:Rs)(he:s.e=0)(hb:isB L ⟨#[101,110,100]⟩ s=false)(hd:isB L ⟨#[100,101,102]⟩ s=true)(f1:ev (qBd L s.up)=some (0,sts L s1 (bdC v)))
  (hn:ev (q32ab0g (tks L) (iv (takeS L 7 ⟨#[59]⟩ s1).a) (iv (takeS L 7 ⟨#[59]⟩ s1).lv) (iv (takeS L 7 ⟨#[59]⟩ s1).e) (iv (takeS L 7 ⟨#[59]⟩ s1).w) (sv nm) (sv var) sup MR [bdC v] (iv a))=some r):ev (q32ab0d (tks L) (iv s.a) (iv s.lv) (iv s.e) (iv s.w) (sv nm) (sv var) sup MR (iv a))=some r:=Evl.of (by
 rw[h32ab0d,g32ab0d]
 simp[eq_true he]
 simp[may_m hL,hb,may_f hb,hd,may_t hd]
 simp[f1]
 simp[take_m hL (k:=7) (by decide),Tk.cells]
 simp[hn])
theorem cm_d(nm var:ByteArray)(sup:PV)(a:Int)(MR:List (List PV)){cs:List (List PV)}(hr:Raw 6 MR cs)(hl:MR.length≤3000000)(s s1 s3:St)(t:Tk)(ty:Ty)(r:Rs)(he:s.e=0)(hb:isB L ⟨#[101,110,100]⟩ s=false)(hd:isB L ⟨#[100,101,102]⟩ s=false)(f1:ev (qNm L s)=some (0,sts L s1 t.cells))(f2:ev (qTy L (takeS L 7 ⟨#[58]⟩ s1))=some (0,sts L s3 (tyC ty)))
  (hn:ev (q32ab0d (tks L) (iv (takeS L 7 ⟨#[59]⟩ s3).a) (iv (takeS L 7 ⟨#[59]⟩ s3).lv) (iv (takeS L 7 ⟨#[59]⟩ s3).e) (iv (takeS L 7 ⟨#[59]⟩ s3).w) (sv nm) (sv var) sup (MR++[[sv t.text,iv ty.kind,sv ty.name,iv ty.n,tys ty.kids,iv t.at_]]) (iv a))=some r):ev (q32ab0d (tks L) (iv s.a) (iv s.lv) (iv s.e) (iv s.w) (sv nm) (sv var) sup MR (iv a))=some r:=Evl.of (by
 rw[h32ab0d,g32ab0d]
 simp[eq_true he]
 simp[may_m hL,hb,may_f hb,hd,may_f hd]
 simp[f1,Tk.cells]
 simp[take_m hL (k:=7) (by decide),Tk.cells]
 simp[f2]
 simp[appK_raw (P:=PG) (d:=.fail) slMd hr (c:=[sv t.text,iv ty.kind,sv ty.name,iv ty.n,tys ty.kids,iv t.at_]) rfl (by simp) (by omega) (by decide)]
 simp[take_m hL (k:=7) (by decide),Tk.cells]
 simp[hn])
theorem co_g(nm var:ByteArray)(sup:PV)(a:Int)(MR:List (List PV))(DR:List (List PV))(s:St)(he:s.e≠0):ev (q32ab0g (tks L) (iv s.a) (iv s.lv) (iv s.e) (iv s.w) (sv nm) (sv var) sup MR DR (iv a))=some (3,sts L s [sv nm,sv var,sup,.rows MR,.rows DR,iv a,sv eB,sv eB,nilS,nilS,nilS,iv 0]):=Evl.of (by
 rw[h32ab0g,g32ab0g]
 simp[he])
theorem ce_g(nm var:ByteArray)(sup:PV)(a:Int)(MR:List (List PV))(DR:List (List PV))(s:St)(he:s.e=0)(hb:isB L ⟨#[101,110,100]⟩ s=true):ev (q32ab0g (tks L) (iv s.a) (iv s.lv) (iv s.e) (iv s.w) (sv nm) (sv var) sup MR DR (iv a))=some (3,sts L s.up [sv nm,sv var,sup,.rows MR,.rows DR,iv a,sv eB,sv eB,nilS,nilS,nilS,iv 0]):=Evl.of (by
 rw[h32ab0g,g32ab0g]
 simp[eq_true he]
 simp[may_m hL,hb,may_t hb])
theorem cd_g(nm var:ByteArray)(sup:PV)(a:Int)(MR:List (List PV))(DR:List (List PV)){cs:List (List PV)}(hr:Raw 13 DR cs)(hl:DR.length≤3000000)(s s1:St)(v:Bd)(r:Rs)(he:s.e=0)(hb:isB L ⟨#[101,110,100]⟩ s=false)(hd:isB L ⟨#[100,101,102]⟩ s=true)(f1:ev (qBd L s.up)=some (0,sts L s1 (bdC v)))
  (hn:ev (q32ab0g (tks L) (iv (takeS L 7 ⟨#[59]⟩ s1).a) (iv (takeS L 7 ⟨#[59]⟩ s1).lv) (iv (takeS L 7 ⟨#[59]⟩ s1).e) (iv (takeS L 7 ⟨#[59]⟩ s1).w) (sv nm) (sv var) sup MR (DR++[bdC v]) (iv a))=some r):ev (q32ab0g (tks L) (iv s.a) (iv s.lv) (iv s.e) (iv s.w) (sv nm) (sv var) sup MR DR (iv a))=some r:=Evl.of (by
 rw[h32ab0g,g32ab0g]
 simp[eq_true he]
 simp[may_m hL,hb,may_f hb,hd,may_t hd]
 simp[f1]
 simp[appK_raw (P:=PG) (d:=.fail) slBd hr (c:=bdC v) rfl (by simp) (by omega) (by decide)]
 simp[take_m hL (k:=7) (by decide),Tk.cells]
 simp[hn])
theorem cm_g(nm var:ByteArray)(sup:PV)(a:Int)(MR:List (List PV))(DR:List (List PV)){cs:List (List PV)}(hr:Raw 6 MR cs)(hl:MR.length≤3000000)(s s1 s3:St)(t:Tk)(ty:Ty)(r:Rs)(he:s.e=0)(hb:isB L ⟨#[101,110,100]⟩ s=false)(hd:isB L ⟨#[100,101,102]⟩ s=false)(f1:ev (qNm L s)=some (0,sts L s1 t.cells))(f2:ev (qTy L (takeS L 7 ⟨#[58]⟩ s1))=some (0,sts L s3 (tyC ty)))
  (hn:ev (q32ab0g (tks L) (iv (takeS L 7 ⟨#[59]⟩ s3).a) (iv (takeS L 7 ⟨#[59]⟩ s3).lv) (iv (takeS L 7 ⟨#[59]⟩ s3).e) (iv (takeS L 7 ⟨#[59]⟩ s3).w) (sv nm) (sv var) sup (MR++[[sv t.text,iv ty.kind,sv ty.name,iv ty.n,tys ty.kids,iv t.at_]]) DR (iv a))=some r):ev (q32ab0g (tks L) (iv s.a) (iv s.lv) (iv s.e) (iv s.w) (sv nm) (sv var) sup MR DR (iv a))=some r:=Evl.of (by
 rw[h32ab0g,g32ab0g]
 simp[eq_true he]
 simp[may_m hL,hb,may_f hb,hd,may_f hd]
 simp[f1,Tk.cells]
 simp[take_m hL (k:=7) (by decide),Tk.cells]
 simp[f2]
 simp[appK_raw (P:=PG) (d:=.fail) slMd hr (c:=[sv t.text,iv ty.kind,sv ty.name,iv ty.n,tys ty.kids,iv t.at_]) rfl (by simp) (by omega) (by decide)]
 simp[take_m hL (k:=7) (by decide),Tk.cells]
 simp[hn])
def qC(L:List Tk)(nm var:ByteArray)(sup:PV)(a:Int)(s:St):List Md→List Bd→Q
 |[],[]=>q32ab0a (tks L) (iv s.a) (iv s.lv) (iv s.e) (iv s.w) (sv nm) (sv var) sup (iv a)
 |[],d::ds=>q32ab0c (tks L) (iv s.a) (iv s.lv) (iv s.e) (iv s.w) (sv nm) (sv var) sup ((d::ds).map Bd.cells) (iv a)
 |m::ms,[]=>q32ab0d (tks L) (iv s.a) (iv s.lv) (iv s.e) (iv s.w) (sv nm) (sv var) sup ((m::ms).map Md.cells) (iv a)
 |m::ms,d::ds=>q32ab0g (tks L) (iv s.a) (iv s.lv) (iv s.e) (iv s.w) (sv nm) (sv var) sup ((m::ms).map Md.cells) ((d::ds).map Bd.cells) (iv a)
def fC(L:List Tk)(nm var:ByteArray)(sup:PV)(a:Int)(s:St):List Md→List Bd→Rs
 |[],[]=>(0,sts L s [sv nm,sv var,sup,nilS,nilS,iv a,sv eB,sv eB,nilS,nilS,nilS,iv 0])
 |[],d::ds=>(1,sts L s [sv nm,sv var,sup,nilS,bds (d::ds),iv a,sv eB,sv eB,nilS,nilS,nilS,iv 0])
 |m::ms,[]=>(2,sts L s [sv nm,sv var,sup,mds (m::ms),nilS,iv a,sv eB,sv eB,nilS,nilS,nilS,iv 0])
 |m::ms,d::ds=>(3,sts L s [sv nm,sv var,sup,mds (m::ms),bds (d::ds),iv a,sv eB,sv eB,nilS,nilS,nilS,iv 0])
theorem qC_out(nm var:ByteArray)(sup:PV)(a:Int)(s:St)(ms:List Md)(ds:List Bd)(he:s.e≠0):ev (qC L nm var sup a s ms ds)=some (fC L nm var sup a s ms ds):=by
 match ms,ds with
 |[],[]=>exact co_a hL nm var sup a s he
 |[],d::ds=>exact co_c hL nm var sup a _ s he
 |m::ms,[]=>exact co_d hL nm var sup a _ s he
 |m::ms,d::ds=>exact co_g hL nm var sup a _ _ s he
theorem qC_end(nm var:ByteArray)(sup:PV)(a:Int)(s:St)(ms:List Md)(ds:List Bd)(he:s.e=0)(hb:isB L ⟨#[101,110,100]⟩ s=true):ev (qC L nm var sup a s ms ds)=some (fC L nm var sup a s.up ms ds):=by
 match ms,ds with
 |[],[]=>exact ce_a hL nm var sup a s he hb
 |[],d::ds=>exact ce_c hL nm var sup a _ s he hb
 |m::ms,[]=>exact ce_d hL nm var sup a _ s he hb
 |m::ms,d::ds=>exact ce_g hL nm var sup a _ _ s he hb
theorem qC_def(nm var:ByteArray)(sup:PV)(a:Int)(s:St)(ms:List Md)(ds:List Bd)(hl:ds.length≤3000000)(s1:St)(v:Bd)(r:Rs)(he:s.e=0)(hb:isB L ⟨#[101,110,100]⟩ s=false)(hd:isB L ⟨#[100,101,102]⟩ s=true)(f1:ev (qBd L s.up)=some (0,sts L s1 (bdC v)))(hn:ev (qC L nm var sup a (takeS L 7 ⟨#[59]⟩ s1) ms (ds++[v]))=some r):ev (qC L nm var sup a s ms ds)=some r:=by
 match ms,ds with
 |[],[]=>exact cd_a hL nm var sup a s s1 v r he hb hd f1 (by have e:[v].map Bd.cells=[bdC v]:=mapB [] v;rw[←e];exact hn)
 |[],d::ds=>exact cd_c hL nm var sup a _ (raw_bds _) (by simpa using hl) s s1 v r he hb hd f1 (by rw[←mapB];exact hn)
 |m::ms,[]=>exact cd_d hL nm var sup a _ s s1 v r he hb hd f1 (by have e:[v].map Bd.cells=[bdC v]:=mapB [] v;rw[←e];exact hn)
 |m::ms,d::ds=>exact cd_g hL nm var sup a _ _ (raw_bds _) (by simpa using hl) s s1 v r he hb hd f1 (by rw[←mapB];exact hn)
theorem qC_met(nm var:ByteArray)(sup:PV)(a:Int)(s:St)(ms:List Md)(ds:List Bd)(hl:ms.length≤3000000)(s1 s3:St)(t:Tk)(ty:Ty)(r:Rs)(he:s.e=0)(hb:isB L ⟨#[101,110,100]⟩ s=false)(hd:isB L ⟨#[100,101,102]⟩ s=false)(f1:ev (qNm L s)=some (0,sts L s1 t.cells))(f2:ev (qTy L (takeS L 7 ⟨#[58]⟩ s1))=some (0,sts L s3 (tyC ty)))(hn:ev (qC L nm var sup a (takeS L 7 ⟨#[59]⟩ s3) (ms++[⟨t.text,ty,t.at_⟩]) ds)=some r):ev (qC L nm var sup a s ms ds)=some r:=by
 match ms,ds with
 |[],[]=>exact cm_a hL nm var sup a s s1 s3 t ty r he hb hd f1 f2 (by have e:[(⟨t.text,ty,t.at_⟩:Md)].map Md.cells=[[sv t.text,iv ty.kind,sv ty.name,iv ty.n,tys ty.kids,iv t.at_]]:=rfl;rw[←e];exact hn)
 |[],d::ds=>exact cm_c hL nm var sup a _ s s1 s3 t ty r he hb hd f1 f2 (by have e:[(⟨t.text,ty,t.at_⟩:Md)].map Md.cells=[[sv t.text,iv ty.kind,sv ty.name,iv ty.n,tys ty.kids,iv t.at_]]:=rfl;rw[←e];exact hn)
 |m::ms,[]=>exact cm_d hL nm var sup a _ (raw_mds _) (by simpa using hl) s s1 s3 t ty r he hb hd f1 f2 (by have e:((m::ms)++[(⟨t.text,ty,t.at_⟩:Md)]).map Md.cells=(m::ms).map Md.cells++[[sv t.text,iv ty.kind,sv ty.name,iv ty.n,tys ty.kids,iv t.at_]]:=mapM (m::ms) ⟨t.text,ty,t.at_⟩;rw[←e];exact hn)
 |m::ms,d::ds=>exact cm_g hL nm var sup a _ _ (raw_mds _) (by simpa using hl) s s1 s3 t ty r he hb hd f1 f2 (by have e:((m::ms)++[(⟨t.text,ty,t.at_⟩:Md)]).map Md.cells=(m::ms).map Md.cells++[[sv t.text,iv ty.kind,sv ty.name,iv ty.n,tys ty.kids,iv t.at_]]:=mapM (m::ms) ⟨t.text,ty,t.at_⟩;rw[←e];exact hn)
theorem qC_loop(hS:L.length≤100000)(nm var:ByteArray)(sup:PV)(a:Int):∀(m:Nat) (s:St) (ms:List Md) (ds:List Bd),mu L s≤m→s.a≤L.length→ms.length+m≤2000000→ds.length+m≤2000000→∃(s':St) (ms':List Md) (ds':List Bd),ev (qC L nm var sup a s ms ds)=some (fC L nm var sup a s' (ms++ms') (ds++ds'))∧
  s'.a≤L.length∧mu L s'≤mu L s∧(∀x∈ms',x.Ok)∧(∀x∈ds',x.Ok)∧ms'.length≤mu L s∧ds'.length≤mu L s:=by
 intro m
 induction m with
 |zero=>
  intro s ms ds hm hs h1 h2
  have he:s.e≠0:=fun he=>by have:=mu_pos (L:=L) he;omega
  exact⟨s,[],[],by rw[List.append_nil,List.append_nil];exact qC_out hL nm var sup a s ms ds he,hs,Nat.le_refl _,by simp,by simp,by simp,by simp⟩
 |succ m ih=>
  intro s ms ds hm hs h1 h2
  by_cases he:s.e=0
  ·have hp:=mu_pos (L:=L) he
   cases hb:isB L ⟨#[101,110,100]⟩ s with
   |true=>
    obtain⟨b1,b2⟩:=may_in hb
    exact⟨s.up,[],[],by rw[List.append_nil,List.append_nil];exact qC_end hL nm var sup a s ms ds he hb,b2,by omega,by simp,by simp,by simp,by simp⟩
   |false=>
    cases hd:isB L ⟨#[100,101,102]⟩ s with
    |true=>
     obtain⟨b1,b2⟩:=may_in hd
     obtain⟨v,s1,f1,f2,f3,f4⟩:=binds_ok hL (mu L s) s.up b2 (by omega)
     have t1:=take_mu (L:=L) (k:=7) (x:=⟨#[59]⟩) (by decide) s1
     have t2:=take_a (L:=L) (k:=7) (x:=⟨#[59]⟩) (by decide) f2
     obtain⟨s',ms',ds',g1,g2,g3,g4,g5,g6,g7⟩:=ih (takeS L 7 ⟨#[59]⟩ s1) ms (ds++[v]) (by omega) t2 (by omega) (by simp;omega)
     refine⟨s',ms',v::ds',qC_def hL nm var sup a s ms ds (by omega) s1 v _ he hb hd f1 (by rw[List.append_assoc]at g1;exact g1),g2,by omega,g4,?_,by omega,by simp;omega⟩
     intro x hx
     rcases List.mem_cons.1 hx with rfl|hx
     ·exact f4
     ·exact g5 x hx
    |false=>
     obtain⟨t,s1,f1,f2,f3,_⟩:=name_ok hL (mu L s) s hs (Nat.le_refl _)
     have t1:=take_mu (L:=L) (k:=7) (x:=⟨#[58]⟩) (by decide) s1
     have t2:=take_a (L:=L) (k:=7) (x:=⟨#[58]⟩) (by decide) f2
     obtain⟨ty,s3,k1,k2,k3,k4⟩:=types_ok hL (mu L s) _ t2 (by omega)
     have t3:=take_mu (L:=L) (k:=7) (x:=⟨#[59]⟩) (by decide) s3
     have t4:=take_a (L:=L) (k:=7) (x:=⟨#[59]⟩) (by decide) k2
     obtain⟨s',ms',ds',g1,g2,g3,g4,g5,g6,g7⟩:=ih (takeS L 7 ⟨#[59]⟩ s3) (ms++[⟨t.text,ty,t.at_⟩]) ds (by omega) t4 (by simp;omega) (by omega)
     have hml:=mu_le L (takeS L 7 ⟨#[58]⟩ s1)
     refine⟨s',⟨t.text,ty,t.at_⟩::ms',ds',qC_met hL nm var sup a s ms ds (by omega) s1 s3 t ty _ he hb hd f1 k1 (by rw[List.append_assoc]at g1;exact g1),g2,by omega,?_,g5,by simp;omega,by omega⟩
     intro x hx
     rcases List.mem_cons.1 hx with rfl|hx
     ·exact⟨k4.1,by rcases k4.2 with⟨_,z⟩|z<;>simp only<;>omega⟩
     ·exact g4 x hx
  ·exact⟨s,[],[],by rw[List.append_nil,List.append_nil];exact qC_out hL nm var sup a s ms ds he,hs,Nat.le_refl _,by simp,by simp,by simp,by simp⟩
theorem class_ok(hS:L.length≤100000)(n:Nat):Par L (n+1) (qCl L) clC (fun x m _=>x.Ok∧x.methods.length≤m∧x.supers.length≤10000000∧x.defaults.length≤10000000):=
 Par.weak (q:=fun s=>q32a (tks L) (iv s.a) (iv s.lv) (iv s.e) (iv s.w)) (fun s=>h32aw ev _ _ _ _ _) fun s hs hm=>by
  show Good L s clC (fun x m _=>x.Ok∧x.methods.length≤m∧x.supers.length≤10000000∧x.defaults.length≤10000000) (body PG EE TT ev (q32a (tks L) (iv s.a) (iv s.lv) (iv s.e) (iv s.w)))
  rw[h32a,g32a]
  have t1:=take_mu (L:=L) (k:=2) (x:=eB) (by decide) s
  have t2:=take_a (L:=L) (k:=2) (x:=eB) (by decide) hs
  have t3:=take_mu (L:=L) (k:=1) (x:=eB) (by decide) (takeS L 2 eB s)
  have t4:=take_a (L:=L) (k:=1) (x:=eB) (by decide) t2
  simp[take_m hL (k:=2) (by decide),take_m hL (k:=1) (by decide),Tk.cells]
  generalize takeS L 1 eB (takeS L 2 eB s)=s1 at *
  generalize takeT L 2 eB s=t at *
  generalize takeT L 1 eB (takeS L 2 eB s)=v at *
  have hml:=mu_le L s
  simp[may_m hL]
  refine bK_ind (fun hb=>?_) (fun hb=>?_)
  ·obtain⟨b1,b2⟩:=may_in hb
   rw[may_t hb]
   obtain⟨us,s2,u1,u2,u3,u4⟩:=uppers_ok hL (n+1) s1.up b2 (by omega)
   have q1:=take_mu (L:=L) (k:=6) (x:=⟨#[119,104,101,114,101]⟩) (by decide) s2
   have q2:=take_a (L:=L) (k:=6) (x:=⟨#[119,104,101,114,101]⟩) (by decide) u2
   simp[u1]
   simp[take_m hL (k:=6) (by decide),Tk.cells]
   have hml2:=mu_le L (takeS L 6 ⟨#[119,104,101,114,101]⟩ s2)
   obtain⟨s4,ms,ds,g1,g2,g3,g4,g5,g6,g7⟩:=qC_loop hL hS t.text v.text (strs us) t.at_ (mu L (takeS L 6 ⟨#[119,104,101,114,101]⟩ s2)) (takeS L 6 ⟨#[119,104,101,114,101]⟩ s2) [] [] (Nat.le_refl _) q2 (by simp;omega) (by simp;omega)
   match ms,ds with
   |[],[]=>
    simp only[List.nil_append,qC,fC]at g1
    simp[g1]
    exact Good.of _ _ s4 ⟨t.text,v.text,us,[],[],t.at_⟩ (by simp) g2 (by omega) ⟨⟨by unfold maxN;simp only;omega,⟨by unfold maxN;simp at g6 ⊢;try omega,g4⟩,by unfold maxN;simp at g7 ⊢;try omega,g5⟩,by simp at g6 ⊢;try omega,by first|(simp;done)|exact u4,by simp at g7 ⊢;try omega⟩
   |[],d::ds=>
    simp only[List.nil_append,qC,fC]at g1
    simp[g1]
    exact Good.of _ _ s4 ⟨t.text,v.text,us,[],d::ds,t.at_⟩ (by simp) g2 (by omega) ⟨⟨by unfold maxN;simp only;omega,⟨by unfold maxN;simp at g6 ⊢;try omega,g4⟩,by unfold maxN;simp at g7 ⊢;try omega,g5⟩,by simp at g6 ⊢;try omega,by first|(simp;done)|exact u4,by simp at g7 ⊢;try omega⟩
   |m::ms,[]=>
    simp only[List.nil_append,qC,fC]at g1
    simp[g1]
    exact Good.of _ _ s4 ⟨t.text,v.text,us,m::ms,[],t.at_⟩ (by simp) g2 (by omega) ⟨⟨by unfold maxN;simp only;omega,⟨by unfold maxN;simp at g6 ⊢;try omega,g4⟩,by unfold maxN;simp at g7 ⊢;try omega,g5⟩,by simp at g6 ⊢;try omega,by first|(simp;done)|exact u4,by simp at g7 ⊢;try omega⟩
   |m::ms,d::ds=>
    simp only[List.nil_append,qC,fC]at g1
    simp[g1]
    exact Good.of _ _ s4 ⟨t.text,v.text,us,m::ms,d::ds,t.at_⟩ (by simp) g2 (by omega) ⟨⟨by unfold maxN;simp only;omega,⟨by unfold maxN;simp at g6 ⊢;try omega,g4⟩,by unfold maxN;simp at g7 ⊢;try omega,g5⟩,by simp at g6 ⊢;try omega,by first|(simp;done)|exact u4,by simp at g7 ⊢;try omega⟩
  ·rw[may_f hb]
   have q1:=take_mu (L:=L) (k:=6) (x:=⟨#[119,104,101,114,101]⟩) (by decide) s1
   have q2:=take_a (L:=L) (k:=6) (x:=⟨#[119,104,101,114,101]⟩) (by decide) t4
   simp[take_m hL (k:=6) (by decide),Tk.cells]
   have hml2:=mu_le L (takeS L 6 ⟨#[119,104,101,114,101]⟩ s1)
   obtain⟨s4,ms,ds,g1,g2,g3,g4,g5,g6,g7⟩:=qC_loop hL hS t.text v.text nilS t.at_ (mu L (takeS L 6 ⟨#[119,104,101,114,101]⟩ s1)) (takeS L 6 ⟨#[119,104,101,114,101]⟩ s1) [] [] (Nat.le_refl _) q2 (by simp;omega) (by simp;omega)
   match ms,ds with
   |[],[]=>
    simp only[List.nil_append,qC,fC]at g1
    simp[g1]
    exact Good.of _ _ s4 ⟨t.text,v.text,[],[],[],t.at_⟩ (by simp) g2 (by omega) ⟨⟨by simp[maxN],⟨by unfold maxN;simp at g6 ⊢;try omega,g4⟩,by unfold maxN;simp at g7 ⊢;try omega,g5⟩,by simp at g6 ⊢;try omega,by first|(simp;done)|exact u4,by simp at g7 ⊢;try omega⟩
   |[],d::ds=>
    simp only[List.nil_append,qC,fC]at g1
    simp[g1]
    exact Good.of _ _ s4 ⟨t.text,v.text,[],[],d::ds,t.at_⟩ (by simp) g2 (by omega) ⟨⟨by simp[maxN],⟨by unfold maxN;simp at g6 ⊢;try omega,g4⟩,by unfold maxN;simp at g7 ⊢;try omega,g5⟩,by simp at g6 ⊢;try omega,by first|(simp;done)|exact u4,by simp at g7 ⊢;try omega⟩
   |m::ms,[]=>
    simp only[List.nil_append,qC,fC]at g1
    simp[g1]
    exact Good.of _ _ s4 ⟨t.text,v.text,[],m::ms,[],t.at_⟩ (by simp) g2 (by omega) ⟨⟨by simp[maxN],⟨by unfold maxN;simp at g6 ⊢;try omega,g4⟩,by unfold maxN;simp at g7 ⊢;try omega,g5⟩,by simp at g6 ⊢;try omega,by first|(simp;done)|exact u4,by simp at g7 ⊢;try omega⟩
   |m::ms,d::ds=>
    simp only[List.nil_append,qC,fC]at g1
    simp[g1]
    exact Good.of _ _ s4 ⟨t.text,v.text,[],m::ms,d::ds,t.at_⟩ (by simp) g2 (by omega) ⟨⟨by simp[maxN],⟨by unfold maxN;simp at g6 ⊢;try omega,g4⟩,by unfold maxN;simp at g7 ⊢;try omega,g5⟩,by simp at g6 ⊢;try omega,by first|(simp;done)|exact u4,by simp at g7 ⊢;try omega⟩
end
end Go.Proofs.YtjpjcjnacnlhdaaGreat.X
