/- Joined texts. -/
import Derived.Test.YtijcobeebaceoaaGreatDoorBaj
set_option linter.unusedVariables false
set_option linter.unusedSimpArgs false
set_option linter.unusedSectionVars false
namespace Go.Proofs.YtijcobeebaceoaaGreatDoor
open Go.RowKit
inductive Pt.Ok:Pt→Prop where
 |mk (k:Int) (s:ByteArray) (n:Int) (ks:List Pt) (a:Int) (h:ks.length≤bM) (hk:∀t∈ks,Pt.Ok t):Pt.Ok (.mk k s n ks a)
abbrev aj:PV:=.lit (.slice none 0 0)
abbrev Fp(t:Pt):List PV:=[iv t.kind,sv t.name,iv t.n,pts t.kids,iv t.at_]
section
variable(k:Int)(s:ByteArray)(n:Int)(l:List Pt)(a:Int)
@[simp] theorem anm:(Pt.mk k s n l a).kind=k:=rfl
@[simp] theorem anl:(Pt.mk k s n l a).name=s:=rfl
@[simp] theorem atI:(Pt.mk k s n l a).n=n:=rfl
@[simp] theorem ann:(Pt.mk k s n l a).kids=l:=rfl
@[simp] theorem asI:(Pt.mk k s n l a).at_=a:=rfl
end
@[simp] theorem ank:pts []=.rows []:=rfl
theorem Ia(k:Int)(s:ByteArray)(n a:Int):(Pt.mk k s n [] a).Ok:=.mk _ _ _ _ _ (by simp[bM]) (fun t ht=>by cases ht)
theorem mI{β:Type}(d:β)(l:List Pt)(k:β):isK d aj (pts l) k=d:=qo d _ k
theorem agX:ja PG 127 5 64:=ja.of (by kernel_rfl)
abbrev qPt(L:List Tk)(s:St):Q:=XY (aU L) (iv s.a) (iv s.lv) (iv s.e) (iv s.w)
abbrev qAp(L:List Tk)(s:St):Q:=af5 (aU L) (iv s.a) (iv s.lv) (iv s.e) (iv s.w)
abbrev apb(L:List Tk)(s:St):Q:=XO (aU L) (iv s.a) (iv s.lv) (iv s.e) (iv s.w)
def ApG(L:List Tk)(s:St)(r:aM):Prop:=∃(v:Pt) (kd:PV) (s':St),r=.ok (0,dh L s' [iv v.kind,sv v.name,iv v.n,kd,iv v.at_])∧(kd=aj∧v.kids=[]∨kd=pts v.kids)∧((bg L s).kind=2→kd=aj∧v.kids=[])∧s'.a≤L.length∧mu L s'≤mu L s-1∧v.Ok∧Gr (jU L) s s' v
theorem ApG.up{L:List Tk}{s:St}(k:Int)(x:ByteArray)(n a:Int)(he:s.e=0)(hl:s.a<L.length)(hr:Gr (jU L) s s.up (.mk k x n [] a)):ApG L s (.ok (0,aU L::iv s.up.a::iv s.lv::iv s.e::iv s.w::[iv k,sv x,iv n,aj,iv a])):=
 ⟨.mk k x n [] a,aj,s.up,by show _=aM.ok (0,aU L::iv s.up.a::iv s.up.lv::iv s.up.e::iv s.up.w::_);rw[aR,bN,bP];rfl,.inl ⟨rfl,rfl⟩,fun _=>⟨rfl,rfl⟩,by rw[nO];exact hl,vB he hl,Ia _ _ _ _,hr⟩
section
variable{L:List Tk}(hL:L.length≤1000000)
include hL
theorem ajb{n:Nat}(ih:lM L n (qPt L) Fp Pt.Ok (ou L))(s:St)(hs:s.a≤L.length)(hm:mu L s≤n+1):ApG L s (body PG EE TT ev (qAp L s)):=by
 rw[al5];simp[fE,Tk.cells];refine dF (fun h2=>?_) (fun h2=>dF (fun h1=>?_) (fun h1=>dF (fun h3=>?_) (fun h3=>?_)))
 ·simp only[decide_eq_true_eq] at h2
  obtain⟨he,hl⟩:=dO (L:=L) (s:=s) (by omega);simp only[wZ hl hL];exact .up 3 _ 0 _ he hl (.fx (jU.eq_2 L) (.next (.if_t h2 (.up he .pure))))
 ·simp only[decide_eq_true_eq,decide_eq_false_iff_not] at h1 h2
  obtain⟨he,hl⟩:=dO (L:=L) (s:=s) (by omega);simp only[wZ hl hL];exact .up 2 _ 0 _ he hl (.fx (jU.eq_2 L) (.next (.if_f h2 (.if_t h1 (.up he .pure)))))
 ·simp only[decide_eq_true_eq,decide_eq_false_iff_not] at h1 h2 h3
  obtain⟨he,hl⟩:=dO (L:=L) (s:=s) (by omega);simp only[wZ hl hL];exact .up 4 eB _ _ he hl (.fx (jU.eq_2 L) (.next (.if_f h2 (.if_f h1 (.if_t h3 (.up he .pure))))))
 ·simp only[decide_eq_false_iff_not] at h1 h2 h3
  simp[ap4];refine dF (fun hu=>?_) (fun hu=>?_)
  ·obtain⟨he,hl⟩:=gZ hu
   simp only[wZ hl hL];exact .up 1 eB 0 _ he hl (.fx (jU.eq_2 L) (.next (.if_f h2 (.if_f h1 (.if_f h3 (.may_t hu .pure))))))
  ·have t1:=aQ (L:=L) (k:=7) (x:=⟨#[40]⟩) (by decide) s
   have t2:=aV (k:=7) (x:=⟨#[40]⟩) (by decide) hs;simp[aK hL (k:=7) (by decide),bG hL,Tk.cells];generalize ht:au L 7 ⟨#[40]⟩ s=s1 at *;have hl1:s1.lv=s.lv:=by rw[←ht];exact aO _ _ s
   simp only[←hl1];refine dF (fun hb=>?_) (fun hb=>?_)
   ·obtain⟨m1,m2⟩:=bS hb
    have hp:=aW (L:=L) (gZ hb).1;rw[may_t hb];refine⟨.mk 3 ⟨#[85,110,105,116]⟩ 0 [] (bg L s).at_,aj,s1.up,by simp[aR,bN,bP],.inl ⟨rfl,rfl⟩,fun _=>⟨rfl,rfl⟩,m2,by omega,Ia _ _ _ _,.fx (jU.eq_2 L) (.next (.if_f h2 (.if_f h1 (.if_f h3 (.may_f hu (.bind (.takex ht rfl) (.may_t hb .pure)))))))⟩
   ·rw[may_f hb]
    obtain⟨v,s2,e1,e2,e3,e4,r1⟩:=ih s1 t2 (by omega);have t3:=aQ (L:=L) (k:=7) (x:=⟨#[41]⟩) (by decide) s2;have t4:=aV (k:=7) (x:=⟨#[41]⟩) (by decide) e2;simp[e1,aK hL (k:=7) (by decide),Tk.cells];exact⟨v,pts v.kids,au L 7 ⟨#[41]⟩ s2,by rw[←aO (L:=L) 7 ⟨#[41]⟩ s2],.inr rfl,fun h=>absurd h h2,t4,by omega,e4,.fx (jU.eq_2 L) (.next (.if_f h2 (.if_f h1 (.if_f h3 (.may_f hu (.bind (.takex ht rfl) (.may_f hb (.bind r1 (.bind (.take _ _ _) .pure)))))))))⟩
theorem JX{n:Nat}(ih:lM L n (qPt L) Fp Pt.Ok (ou L))(s:St)(hs:s.a≤L.length)(hm:mu L s≤n+1):∃(v:Pt) (kd:PV) (s':St),ev (qAp L s)=some (0,dh L s' [iv v.kind,sv v.name,iv v.n,kd,iv v.at_])∧ev (apb L s)=some (0,dh L s' (Fp v))∧
  (kd=aj∧v.kids=[]∨kd=pts v.kids)∧((bg L s).kind=2→kd=aj∧v.kids=[])∧s'.a≤L.length∧mu L s'≤mu L s-1∧v.Ok∧Gr (jU L) s s' v:=by
 obtain⟨v,kd,s',h1,h2,h3⟩:=ajb hL ih s hs hm;have e:ev (qAp L s)=some (0,dh L s' [iv v.kind,sv v.name,iv v.n,kd,iv v.at_]):=ay.of h1;refine⟨v,kd,s',e,ay.of ?_,h2,h3⟩;rw[ait];show weakD (ev (qAp L s))=_;rw[e];rcases h2 with⟨rfl,hk⟩|rfl
 ·simp[gX,dh,hk]
 ·simp[gX,dh]
theorem apy{n:Nat}(ih:lM L n (qPt L) Fp Pt.Ok (ou L))(k:Int)(nm:ByteArray)(z a:Int):∀(m:Nat) (s:St) (es:List (List PV)) (l:List Pt),Raw 5 es (l.map Pt.cells)→mu L s≤m→m≤n+1→s.a≤L.length→l.length+m≤2000000→∃s' es' l',
  ev (KY (aU L) (iv s.a) (iv s.lv) (iv s.e) (iv s.w) (iv k) (sv nm) (iv z) es (iv a))=some (1,dh L s' [iv k,sv nm,iv z,.rows es',iv a,iv 0,sv eB,iv 0,aj,iv 0])∧Raw 5 es' ((l++l').map Pt.cells)∧
  s'.a≤L.length∧mu L s'≤mu L s∧(∀t∈l',t.Ok)∧l'.length≤mu L s-mu L s'∧Gr (fun m=>jy L m l) s s' (l++l'):=by
 intro m
 induction m with
 |zero=>
  intro s es l hr hm hn hs hl;obtain⟨b,h1,h2,h3⟩:=dK (L:=L) (k:=1) (.inr (.inl rfl)) s;cases b with
  |true=>have:=aW (L:=L) (h2 rfl).1;omega
  |false=>exact⟨s,es,[],ay.of (by rw[DY];simp[h1]),by simpa using hr,hs,Nat.le_refl _,(fun t ht=>by cases ht),by simp,(Gr.fx (jy.eq_2 L l) (.st_f (h3 rfl) .pure)).eq (by simp)⟩
 |succ m ihm=>
  intro s es l hr hm hn hs hl;obtain⟨b,h1,h2,h3⟩:=dK (L:=L) (k:=1) (.inr (.inl rfl)) s;cases b with
  |false=>exact⟨s,es,[],ay.of (by rw[DY];simp[h1]),by simpa using hr,hs,Nat.le_refl _,(fun t ht=>by cases ht),by simp,(Gr.fx (jy.eq_2 L l) (.st_f (h3 rfl) .pure)).eq (by simp)⟩
  |true=>
   have hp:=aW (L:=L) (h2 rfl).1;obtain⟨v,kd,s1,e1,e1w,hk,_,e2,e3,e4,r1⟩:=JX hL ih s hs (by omega);have hln:=hr.len;rw[List.length_map] at hln;have hns:NS kd:=by rcases hk with⟨rfl,_⟩|rfl<;>simp
   have hw:dL [iv v.kind,sv v.name,iv v.n,kd,iv v.at_]=v.cells:=by
    rw[Pt.cells_eq];rcases hk with⟨rfl,hk⟩|rfl
    ·simp[hk]
    ·simp
   have hr':=hr.app hw rfl (by simp[hns]);have ha:=fun k'=>aH (P:=PG) (d:=.fail) (k:=k') agX hr (c:=[iv v.kind,sv v.name,iv v.n,kd,iv v.at_]) rfl (by simp[hns]) (by omega) (by decide)
   have hr2:Raw 5 (es++[[iv v.kind,sv v.name,iv v.n,kd,iv v.at_]]) ((l++[v]).map Pt.cells):=by simpa using hr'
   obtain⟨s2,es',l',g1,g2,g3,g4,g5,g6,r2⟩:=ihm s1 _ (l++[v]) hr2 (by omega) (by omega) e2 (by simp;omega);refine⟨s2,es',v::l',ay.of ?_,by simpa using g2,g3,by omega,?_,by simp;omega,(Gr.fx (jy.eq_2 L l) (.st_t (h2 rfl).2.2 (.bind r1 r2))).eq (by simp)⟩
   ·rw[DY]
    rcases hk with⟨rfl,hk⟩|rfl
    ·simp[h1,e1,ha,g1]
    ·simp[h1,e1,e1w,mI,ha,g1]
   ·intro t ht
    rcases List.mem_cons.1 ht with rfl|ht
    ·exact e4
    ·exact g5 t ht
theorem apz{n:Nat}(ih:lM L n (qPt L) Fp Pt.Ok (ou L))(k:Int)(nm:ByteArray)(z a:Int)(s:St)(hm:mu L s≤n+1)(hs:s.a≤L.length):∃s' es' l',
  ((l'=[]∧ev (CF (aU L) (iv s.a) (iv s.lv) (iv s.e) (iv s.w) (iv k) (sv nm) (iv z) (iv a))=some (0,dh L s' [iv k,sv nm,iv z,aj,iv a,iv 0,sv eB,iv 0,aj,iv 0]))∨
   (Raw 5 es' (l'.map Pt.cells)∧ev (CF (aU L) (iv s.a) (iv s.lv) (iv s.e) (iv s.w) (iv k) (sv nm) (iv z) (iv a))=some (1,dh L s' [iv k,sv nm,iv z,.rows es',iv a,iv 0,sv eB,iv 0,aj,iv 0])))∧
  s'.a≤L.length∧mu L s'≤mu L s∧(∀t∈l',t.Ok)∧l'.length≤mu L s-mu L s'∧Gr (fun m=>jy L m []) s s' l':=by
 obtain⟨b,h1,h2,h3⟩:=dK (L:=L) (k:=1) (.inr (.inl rfl)) s;cases b with
 |false=>exact⟨s,[],[],.inl ⟨rfl,ay.of (by rw[L8];simp[h1])⟩,hs,Nat.le_refl _,(fun t ht=>by cases ht),by simp,.fx (jy.eq_2 L []) (.st_f (h3 rfl) .pure)⟩
 |true=>
  have hp:=aW (L:=L) (h2 rfl).1;obtain⟨v,kd,s1,e1,e1w,hk,_,e2,e3,e4,r1⟩:=JX hL ih s hs (by omega);have hml:=iV L s1;have hns:NS kd:=by rcases hk with⟨rfl,_⟩|rfl<;>simp
  have hw:dL [iv v.kind,sv v.name,iv v.n,kd,iv v.at_]=v.cells:=by
   rw[Pt.cells_eq];rcases hk with⟨rfl,hk⟩|rfl
   ·simp[hk]
   ·simp
  have hr:Raw 5 [[iv v.kind,sv v.name,iv v.n,kd,iv v.at_]] ([v].map Pt.cells):=.one hw rfl (by simp[hns]);obtain⟨s2,es',l',g1,g2,g3,g4,g5,g6,r2⟩:=apy hL ih k nm z a (mu L s1) s1 _ [v] hr (Nat.le_refl _) (by omega) e2 (by simp;omega);refine⟨s2,es',v::l',.inr ⟨by simpa using g2,ay.of ?_⟩,g3,by omega,?_,by simp;omega,.fx (jy.eq_2 L []) (.st_t (h2 rfl).2.2 (.bind r1 r2))⟩
  ·rw[L8]
   rcases hk with⟨rfl,hk⟩|rfl
   ·simp[h1,e1,g1]
   ·simp[h1,e1,e1w,mI,g1]
  ·intro t ht
   rcases List.mem_cons.1 ht with rfl|ht
   ·exact e4
   ·exact g5 t ht
theorem ahV{n:Nat}(ih:lM L n (qPt L) Fp Pt.Ok (ou L)):lM L (n+1) (qPt L) Fp Pt.Ok (ou L):=
 lM.weak (q:=fun s=>RP (aU L) (iv s.a) (iv s.lv) (iv s.e) (iv s.w)) (fun s=>aaw ev _ _ _ _ _) fun s hs hm=>by
  show bE L s Fp Pt.Ok _ (body PG EE TT ev (RP (aU L) (iv s.a) (iv s.lv) (iv s.e) (iv s.w)));rw[agh];by_cases he:s.e=0
  ·have hp:=aW (L:=L) he
   have d1:=JB (L:=L) s;have d2:=Ez (L:=L) s;simp[eq_true he,OU,fE,Tk.cells];generalize hd:ic L s=s1 at *;have hs1:s1.a≤L.length:=by omega
   simp only[←d2];obtain⟨v,kd,s2,e1,e1w,hk,hk2,e2,e3,e4,r1⟩:=JX hL ih s1 hs1 (by omega);refine dF (fun h2=>?_) (fun h2=>?_)
   ·simp only[decide_eq_true_eq] at h2
    obtain⟨rfl,hkd⟩:=hk2 h2;obtain⟨s3,es,l,hc,g1,g2,g3,g4,r2⟩:=apz hL ih v.kind v.name v.n v.at_ s2 (by omega) e2;have hml:=iV L s2;have hx:(Pt.mk v.kind v.name v.n l v.at_).Ok:=.mk _ _ _ _ _ (by unfold bM;omega) g3;have hg:Gr (ou L) s (Kb s3) (Pt.mk v.kind v.name v.n l v.at_):=.fx (ou.eq_2 L) (.deepx hd (.next (.bind r1 (.if_t h2 (.bind r2 .pure)))));rcases hc with⟨rfl,hc⟩|⟨hr,hc⟩
    ·simp[e1,e1w,hc,mI]
     exact bE.of 0 _ (Kb s3) _ (by simp) g1 (by rw[rW];omega) hx hg
    ·simp[e1,e1w,hc,mI]
     exact bE.of 1 _ (Kb s3) _ (by simp[hr.wd];rfl) g1 (by rw[rW];omega) hx hg
   ·simp only[decide_eq_false_iff_not] at h2
    have hg:Gr (ou L) s (Kb s2) v:=.fx (ou.eq_2 L) (.deepx hd (.next (.bind r1 (.if_f h2 .pure))));rcases hk with⟨rfl,hk⟩|rfl
    ·have hc:ev (K4 (aU L) (iv s2.a) (iv s2.lv) (iv s2.e) (iv s2.w) (iv v.kind) (sv v.name) (iv v.n) (iv v.at_))=some (0,dh L s2 [iv v.kind,sv v.name,iv v.n,aj,iv v.at_,iv 0,sv eB,iv 0,aj,iv 0]):=ay.of (by rw[aay];rfl)
     simp[e1,hc];exact bE.of 0 _ (Kb s2) v (by simp[hk]) e2 (by rw[rW];omega) e4 hg
    ·have hc:ev (KZ (aU L) (iv s2.a) (iv s2.lv) (iv s2.e) (iv s2.w) (iv v.kind) (sv v.name) (iv v.n) (pts v.kids) (iv v.at_))=some (0,dh L s2 [iv v.kind,sv v.name,iv v.n,pts v.kids,iv v.at_,iv 0,sv eB,iv 0,aj,iv 0]):=ay.of (by rw[aax];rfl)
     simp[e1,e1w,hc,mI];exact bE.of 0 _ (Kb s2) v (by simp) e2 (by rw[rW];omega) e4 hg
  ·simp[he]
   exact bE.of 0 _ s (.mk 0 eB 0 [] 0) (by simp) hs (by have:=Iy (L:=L) he;omega) (Ia _ _ _ _) (.fault he rfl rfl)
theorem Ie:∀n,lM L n (qPt L) Fp Pt.Ok (ou L)
 |0=>fun s hs hm=>by
   have he:s.e≠0:=fun he=>by have:=aW (L:=L) he;omega
   refine⟨.mk 0 eB 0 [] 0,s,ay.of ?_,hs,by omega,Ia _ _ _ _,.fault he rfl rfl⟩;rw[aaw,ay.of (q:=RP (aU L) (iv s.a) (iv s.lv) (iv s.e) (iv s.w)) (r:=(0,dh L s [iv 0,sv eB,iv 0,aj,iv 0])) (by rw[agh];simp[he])];simp[gX,dh]
 |n+1=>ahV hL (Ie n)
end
set_option maxRecDepth 10000
theorem nC{i n:Nat}(h:i<n)(hn:n≤100000000):IntKind.i64.wrap ((i:Int)+1)=((i+1:Nat):Int):=by
 rw[aP (by omega)];rfl
def sZ:List (List ByteArray):=[[⟨#[58,61]⟩],[⟨#[124,124]⟩],[⟨#[38,38]⟩],[⟨#[61,61]⟩,⟨#[47,61]⟩,⟨#[60]⟩,⟨#[60,61]⟩,⟨#[62]⟩,⟨#[62,61]⟩],[⟨#[58,58]⟩,⟨#[94]⟩],[⟨#[43]⟩,⟨#[45]⟩],[⟨#[42]⟩,⟨#[47]⟩,⟨#[37]⟩]]
def lvR:List (List PV):=sZ.map fun l=>[strs l]
theorem afB:ja Tryz.prog 187 1 24:=ja.of (by kernel_rfl)
section
variable{β:Type}{d:β}{k:AV→β}
theorem Bp:gG Tryz.prog d 187 (.pv (.rows lvR)) k=k (.pv (iv 7)):=eY (fun _=>by rw[iQ afB];rfl) (bD _)
theorem Bq{i:Nat}{l:List ByteArray}(h:sZ[i]? = some l):fG Tryz.prog d 187 (.pv (.rows lvR)) (.pv (.lit (.int .i64 (i:Int)))) k=k (.cptr [strs l]):=
 iy (fun _=>jL afB (by unfold lvR;rw[List.getElem?_map,h];rfl) rfl) (nW (by simp[gB,iM]))
end
theorem ac8{i:Nat}{l:List ByteArray}(h:sZ[i]? = some l):l.length≤6:=by
 have hm:=List.mem_of_getElem? h;simp only[sZ,List.mem_cons,List.not_mem_nil,or_false] at hm;rcases hm with rfl|rfl|rfl|rfl|rfl|rfl|rfl<;>decide
def xY(x:ByteArray):List ByteArray→Bool
 |[]=>false
 |y::l=>decide (x=y)||xY x l
def KO(x:ByteArray):List (List ByteArray)→Nat→Option Nat
 |[],_=>none
 |l::r,i=>if xY x l=true then some (i+1) else KO x r (i+1)
theorem WX(x:ByteArray):(KO x sZ 0).getD 8=jo x:=by
 unfold jo;simp only[KO,sZ,xY,Bool.or_false,Bool.or_eq_true,decide_eq_true_eq]
 repeat' (split<;>try rfl)
theorem mg(x:ByteArray):ev (akQ (sv x))=some (0,[iv (jo x:Nat)]):=by
 have inner:∀(i:Nat) (l:List ByteArray),sZ[i]? = some l→∀(n k:Nat),l.length-k≤n→k≤l.length→ev (RQ (iv k) lvR (iv i) (sv x))=some (if xY x (l.drop k)=true then(0,[iv ((i+1:Nat):Int),.rows lvR]) else(1,[iv i,.rows lvR,sv x])):=by
  intro i l hl n;have h6:=ac8 hl;have hi:i<7:=by
   by_cases h:i<7
   ·exact h
   ·rw[List.getElem?_eq_none (by simp[sZ];omega)] at hl;cases hl
  induction n with
  |zero=>
   intro k h1 h2;have hk:l.length=k:=by omega
   have hdr:l.drop k=[]:=List.drop_eq_nil_of_le (by omega);rw[hdr];refine ay.of ?_;rw[Jm];simp[Bq hl,hk,xY]
  |succ n ih=>
   intro k h1 h2;by_cases hlt:k<l.length
   ·have he:=List.getElem?_eq_getElem hlt
    have hh:xY x (l.drop k)=(decide (x=l[k])||xY x (l.drop (k+1))):=by rw[List.drop_eq_getElem_cons hlt];rfl
    rw[hh];refine ay.of ?_;rw[Jm];by_cases hx:l[k]=x
    ·simp[Bq hl,dx he,hlt,hx,nC hi (by decide)]
    ·have hx2:¬x=l[k]:=fun e=>hx e.symm
     have:=ih (k+1) (by omega) hlt;simp only[Int.natCast_add,Int.natCast_one] at this;simp[Bq hl,dx he,hlt,hx,nC hlt (by omega),this,hx2]
   ·have hk:l.length=k:=by omega
    have hdr:l.drop k=[]:=List.drop_eq_nil_of_le (by omega);rw[hdr];refine ay.of ?_;rw[Jm];simp[Bq hl,hk,xY]
 have outer:∀(n i:Nat),7-i≤n→i≤7→ev (RS (iv i) lvR (sv x))=some (match KO x (sZ.drop i) i with|some y=>(0,[iv (y:Nat),.rows lvR])|none=>(1,[.rows lvR])):=by
  intro n
  induction n with
  |zero=>
   intro i h1 h2;have hi:i=7:=by omega
   subst hi;refine ay.of ?_;rw[Jo];simp[Bp,sZ,KO]
  |succ n ih=>
   intro i h1 h2;by_cases hlt:i<7
   ·have hlt7:i<sZ.length:=hlt
    obtain⟨lr,he,hd⟩:∃lr,sZ[i]? = some lr∧sZ.drop i=lr::sZ.drop (i+1):=⟨sZ[i]'hlt7,List.getElem?_eq_getElem hlt7,List.drop_eq_getElem_cons hlt7⟩;have hlt':(i:Int)<7:=by omega
    have h1':=inner i _ he _ 0 (Nat.le_refl _) (Nat.zero_le _);simp only[List.drop_zero] at h1';rw[hd,KO];refine ay.of ?_;rw[Jo];by_cases hx:xY x lr=true
    ·rw[if_pos hx] at h1' ⊢
     simp at h1';simp[Bp,hlt',h1']
    ·rw[if_neg hx] at h1' ⊢
     have:=ih (i+1) (by omega) (by omega);simp only[Int.natCast_add,Int.natCast_one] at this;simp at h1';simp[Bp,hlt',h1',nC hlt (by decide),this]
   ·have hi:i=7:=by omega
    subst hi;refine ay.of ?_;rw[Jo];simp[Bp,sZ,KO]
 have h1:=outer _ 0 (Nat.le_refl _) (by omega);have hr2:lvR=[[.rows [[sv ⟨#[58,61]⟩]]],[.rows [[sv ⟨#[124,124]⟩]]],[.rows [[sv ⟨#[38,38]⟩]]],[.rows [[sv ⟨#[61,61]⟩],[sv ⟨#[47,61]⟩],[sv ⟨#[60]⟩],[sv ⟨#[60,61]⟩],[sv ⟨#[62]⟩],[sv ⟨#[62,61]⟩]]],[.rows [[sv ⟨#[58,58]⟩],[sv ⟨#[94]⟩]]],[.rows [[sv ⟨#[43]⟩],[sv ⟨#[45]⟩]]],[.rows [[sv ⟨#[42]⟩],[sv ⟨#[47]⟩],[sv ⟨#[37]⟩]]]]:=rfl;rw[List.drop_zero,hr2] at h1;have h8:=WX x;refine ay.of ?_;rw[aqV];cases hr:KO x sZ 0 with
 |some y=>
  rw[hr] at h1 h8;simp at h1 h8;simp[h1,h8]
 |none=>
  rw[hr] at h1 h8;simp at h1 h8;simp[h1,←h8]
theorem Ww(k:Nat):ev (akP (iv k))=some (0,[iv (bW k:Nat)]):=by
 refine ay.of ?_;rw[aqU];unfold bW;by_cases h1:k=4
 ·subst h1;simp
 ·have h1':¬(k:Int)=4:=by omega
  by_cases h2:k<6
  ·have h2':(k:Int)<6:=by omega
   simp[h1,h1',h2,h2']
  ·have h2':¬(k:Int)<6:=by omega
   simp[h1,h1',h2,h2']
def dw(l:List ByteArray)(i:Nat):Nat:=jo ((l[i]?).getD eB)
def qy(V:Nat→Nat):Nat→Int
 |0=>-1
 |i+1=>if 4<V i then qy V i else i
theorem Ms(V:Nat→Nat):∀i:Nat,-1≤qy V i∧qy V i<i
 |0=>by simp[qy]
 |i+1=>by
  have:=Ms V i;rw[qy];split<;>omega
theorem MU(V:Nat→Nat):∀i:Nat,wQ V i=decide (0≤qy V i∧V (qy V i).toNat=4)
 |0=>by simp[wQ,qy]
 |i+1=>by
  rw[wQ,qy];by_cases h:4<V i
  ·rw[if_pos h,if_pos h];exact MU V i
  ·rw[if_neg h,if_neg h];simp
theorem ME(l:List ByteArray)(k:Nat)(hl:l.length≤10000000):∀i:Nat,i≤l.length→ev (Xj (iv ((i:Int)-1)) (strs l) (iv k))=some (0,[iv (qy (dw l) i),strs l,iv k])
 |0,_=>ay.of (by rw[ZG];simp[qy])
 |i+1,hi=>by
  have hn:i<l.length:=by omega
  have he:=List.getElem?_eq_getElem hn;have ih:=ME l k hl i (by omega);have hc:((i+1:Nat):Int)-1=(i:Int):=by omega
  have hV:dw l i=jo l[i]:=by unfold dw;rw[he];rfl
  refine ay.of ?_;rw[hc,ZG,qy,hV];have hw:IntKind.i64.wrap ((i:Int)-1)=(i:Int)-1:=aP (by omega);by_cases hg:4<jo l[i]
  ·have hg':(4:Int)<(jo l[i]:Nat):=by omega
   simp[dx he,mg,hg,hg',hw,ih]
  ·have hg':¬(4:Int)<(jo l[i]:Nat):=by omega
   simp[dx he,mg,hg,hg',hw]
def clI(V:Nat→Nat)(n:Nat):Int:=match iK V n n 0 with
 |some k=>k
 |none=>-1
theorem TJ(l:List ByteArray)(hl:l.length≤10000000):ev (q89 (strs l))=some (0,[iv (clI (dw l) l.length)]):=by
 have outer:∀(n i:Nat),l.length-i≤n→i≤l.length→ev (Xk (iv i) (strs l))=some (match iK (dw l) l.length n i with|some k=>(0,[iv (k:Nat)])|none=>(1,[])):=by
  intro n
  induction n with
  |zero=>
   intro i h1 h2;have:¬i<l.length:=by omega
   exact ay.of (by rw[Oy,iK];simp[this])
  |succ n ih=>
   intro i h1 h2;by_cases hlt:i<l.length
   ·have he:=List.getElem?_eq_getElem hlt
    have hV:dw l i=jo l[i]:=by unfold dw;rw[he];rfl
    have hin:=ME l i hl i (by omega);have hdl:=Ms (dw l) i;have hb:=MU (dw l) i;have hn:=ih (i+1) (by omega) (by omega);simp only[Int.natCast_add,Int.natCast_one] at hn;have hw:IntKind.i64.wrap ((i:Int)-1)=(i:Int)-1:=aP (by omega);refine ay.of ?_;rw[Oy,iK,if_pos hlt,hV];by_cases h4:jo l[i]=4
    ·have h4':((jo l[i]:Nat):Int)=4:=by omega
     by_cases hj0:0≤qy (dw l) i
     ·obtain⟨j,hj⟩:=Int.eq_ofNat_of_zero_le hj0
      rw[hj] at hin hb hdl;have hjl:j<l.length:=by omega
      have he2:=List.getElem?_eq_getElem hjl;have hV2:dw l j=jo l[j]:=by unfold dw;rw[he2];rfl
      simp only[Int.toNat_natCast,hV2] at hb;by_cases h5:jo l[j]=4
      ·have h5':((jo l[j]:Nat):Int)=4:=by omega
       have hbt:wQ (dw l) i=true:=by rw[hb];simp[h5]
       simp[dx he,hlt,mg,h4,h4',hw,hin,dx he2,h5,h5',hbt]
      ·have h5':¬((jo l[j]:Nat):Int)=4:=by omega
       have hbt:wQ (dw l) i=false:=by rw[hb];simp[h5]
       simp[dx he,hlt,mg,h4,h4',hw,hin,dx he2,h5,h5',hbt,nC hlt (by omega),hn]
     ·have hbt:wQ (dw l) i=false:=by rw[hb];simp[hj0]
      simp[dx he,hlt,mg,h4,h4',hw,hin,hj0,hbt,nC hlt (by omega),hn]
    ·have h4':¬((jo l[i]:Nat):Int)=4:=by omega
     simp[dx he,hlt,mg,h4,h4',nC hlt (by omega),hn]
   ·exact ay.of (by rw[Oy,iK];simp[hlt])
 have h1:=outer l.length 0 (by omega) (Nat.zero_le _);simp only[Int.natCast_zero] at h1;refine ay.of ?_;rw[h89];unfold clI;cases hr:iK (dw l) l.length l.length 0 with
 |some k=>rw[hr] at h1;simp[h1]
 |none=>rw[hr] at h1;simp[h1]
abbrev eH(e:Ex):List PV:=[iv e.kind,sv e.name,iv e.n,iv e.t.kind,sv e.t.name,iv e.t.n,bH e.t.kids,exs e.kids,eu e.alts,aZ e.binds,iv e.at_]
theorem Raw.ns'{sz:Nat}{es cs:List (List PV)}(h:Raw sz es cs):NS (.rows es):=.rows _ h.ns
theorem l7(l:List Ex):Raw 11 (l.map Ex.cells) (l.map Ex.cells):=.of l Ex.wd (fun x=>by rw[Ex.cells_eq];rfl) (fun x=>by rw[Ex.cells_eq];simp)
theorem GQ(l:List Al):Raw 16 (l.map Al.cells) (l.map Al.cells):=.of l Al.wd (fun x=>by rw[Al.cells_eq];rfl) (fun x=>by rw[Al.cells_eq];simp)
theorem gL(l:List Bd):Raw 13 (l.map Bd.cells) (l.map Bd.cells):=.of l Bd.wd (fun x=>by rw[Bd.cells_eq];rfl) (fun x=>by rw[Bd.cells_eq];simp)
section
variable(k:Int)(s:ByteArray)(n:Int)(t:Ty)(ks:List Ex)(al:List Al)(bs:List Bd)(a:Int)
@[simp] theorem anJ:(Ex.mk k s n t ks al bs a).kind=k:=rfl
@[simp] theorem anI:(Ex.mk k s n t ks al bs a).name=s:=rfl
@[simp] theorem auQ:(Ex.mk k s n t ks al bs a).n=n:=rfl
@[simp] theorem auP:(Ex.mk k s n t ks al bs a).t=t:=rfl
@[simp] theorem anK:(Ex.mk k s n t ks al bs a).kids=ks:=rfl
@[simp] theorem anL:(Ex.mk k s n t ks al bs a).alts=al:=rfl
@[simp] theorem amf:(Ex.mk k s n t ks al bs a).binds=bs:=rfl
@[simp] theorem as0:(Ex.mk k s n t ks al bs a).at_=a:=rfl
@[simp] theorem anV:(iP k s n ks a).kind=k:=rfl
@[simp] theorem anU:(iP k s n ks a).name=s:=rfl
@[simp] theorem auT:(iP k s n ks a).n=n:=rfl
@[simp] theorem auS:(iP k s n ks a).t=Nf:=rfl
@[simp] theorem anW:(iP k s n ks a).kids=ks:=rfl
@[simp] theorem anX:(iP k s n ks a).alts=[]:=rfl
@[simp] theorem amn:(iP k s n ks a).binds=[]:=rfl
@[simp] theorem as9:(iP k s n ks a).at_=a:=rfl
end
@[simp] theorem am7:Nf.kind=0:=rfl
@[simp] theorem am6:Nf.name=eB:=rfl
@[simp] theorem atr:Nf.n=0:=rfl
@[simp] theorem am8:Nf.kids=[]:=rfl
@[simp] theorem anH:exs []=.rows []:=rfl
@[simp] theorem aoa:eu []=.rows []:=rfl
@[simp] theorem an7:aZ []=.rows []:=rfl
theorem fe(x:Ex):exs [x]=.rows [eH x]:=by simp[exs,Ex.cells_eq]
theorem Ga(x y z:Ex):exs [x,y,z]=.rows [eH x,eH y,eH z]:=by simp[exs,Ex.cells_eq]
theorem lJ(c:List PV):fB [c]=[dL c]:=by rw[iH,kg]
theorem ajv(c d:List PV):fB [c,d]=[dL c,dL d]:=by rw[iH,lJ]
theorem aju(c d e:List PV):fB [c,d,e]=[dL c,dL d,dL e]:=by rw[iH,ajv]
theorem xL{ops:List Tk}{i:Nat}(h:i<ops.length):ops[i]? = some (opAt ops i):=by unfold opAt;rw[List.getElem?_eq_getElem h];rfl
theorem aaH{l:List Ex}{i:Nat}(h:i<l.length):l[i]? = some (ve l i):=by unfold ve;rw[List.getElem?_eq_getElem h];rfl
theorem LQ(V:Nat→Nat)(to:Nat):∀(n i a:Nat),a<to→jE V to n i a<to
 |0,i,a,h=>h
 |n+1,i,a,h=>by
  rw[jE];by_cases hi:i<to
  ·rw[if_pos hi]
   refine LQ V to n _ _ ?_;split<;>assumption
  ·rw[if_neg hi];exact h
theorem LU(V:Nat→Nat)(to f:Nat):∀(n i a:Nat),f≤a→f≤i→f≤jE V to n i a
 |0,i,a,h,_=>h
 |n+1,i,a,h,hi=>by
  rw[jE];split
  ·refine LU V to f n _ _ ?_ (by omega)
   split<;>assumption
  ·exact h
theorem EG(ops:List Tk)(hl:ops.length≤10000000)(x:PV)(f to:Nat)(hto:to≤ops.length):∀(n i a:Nat),to-i≤n→a<to→i≤to→ev (Xi (iv i) (iv to) (aU ops) (iv a) x (iv f))=some (0,[iv 0,sv eB,iv 0,iv 0,sv eB,iv 0,nS,nS,nS,nS,iv 0,x,aU ops,iv f,iv (jE (AX ops) to n i a:Nat),iv to])
 |0,i,a,h1,h2,h3=>by
  have:¬i<to:=by omega
  exact ay.of (by rw[Ox,jE];simp[this])
 |n+1,i,a,h1,h2,h3=>by
  by_cases hi:i<to
  ·have ha:=xL (ops:=ops) (i:=a) (by omega)
   have hb:=xL (ops:=ops) (i:=i) (by omega);have hw:=nC hi (by omega);have r1:=EG ops hl x f to hto n (i+1) i (by omega) hi (by omega);have r2:=EG ops hl x f to hto n (i+1) a (by omega) h2 (by omega);simp only[Int.natCast_add,Int.natCast_one] at r1 r2;refine ay.of ?_;rw[Ox,jE,if_pos hi];unfold AX at r1 r2 ⊢;by_cases c1:jo (opAt ops i).text<jo (opAt ops a).text
   ·have c1':((jo (opAt ops i).text:Nat):Int)<(jo (opAt ops a).text:Nat):=by omega
    simp[hi,dY ha,dY hb,mg,c1,c1',hw,r1]
   ·have c1':¬((jo (opAt ops i).text:Nat):Int)<(jo (opAt ops a).text:Nat):=by omega
    by_cases c2:jo (opAt ops i).text=jo (opAt ops a).text
    ·by_cases c3:bW (jo (opAt ops a).text)=1
     ·have c3':((bW (jo (opAt ops a).text):Nat):Int)=1:=by omega
      simp[hi,dY ha,dY hb,mg,Ww,c1,c1',c2,c3,c3',hw,r1]
     ·have c3':¬((bW (jo (opAt ops a).text):Nat):Int)=1:=by omega
      simp[hi,dY ha,dY hb,mg,Ww,c1,c1',c2,c3,c3',hw,r2]
    ·have c2':¬((jo (opAt ops i).text:Nat):Int)=(jo (opAt ops a).text:Nat):=by omega
     simp[hi,dY ha,dY hb,mg,c1,c1',c2,c2',hw,r2]
  ·exact ay.of (by rw[Ox,jE];simp[hi])
def Fa(e:Ex)(ys:List PV):Prop:=∃A B C D,ys=[iv e.kind,sv e.name,iv e.n,iv e.t.kind,sv e.t.name,iv e.t.n,.rows A,.rows B,.rows C,.rows D,iv e.at_]∧Raw 4 A (e.t.kids.map Ty.cells)∧Raw 11 B (e.kids.map Ex.cells)∧Raw 16 C (e.alts.map Al.cells)∧Raw 13 D (e.binds.map Bd.cells)
theorem Fa.wd{e:Ex}{ys:List PV}(h:Fa e ys):dL ys=eH e:=by
 obtain⟨A,B,C,D,rfl,h1,h2,h3,h4⟩:=h;simp[h1.wd,h2.wd,h3.wd,h4.wd];exact⟨rfl,rfl,rfl,rfl⟩
theorem Fa.ns{e:Ex}{ys:List PV}(h:Fa e ys):kM ys:=by
 obtain⟨A,B,C,D,rfl,h1,h2,h3,h4⟩:=h;simp[h1.ns',h2.ns',h3.ns',h4.ns']
theorem Fa.plain(e:Ex):Fa e (eH e):=⟨_,_,_,_,rfl,kU _,l7 _,GQ _,gL _⟩
theorem Fa.mk(k:Int)(s:ByteArray)(n:Int)(ks:List Ex)(a:Int){B:List (List PV)}(h:Raw 11 B (ks.map Ex.cells)):Fa (iP k s n ks a) [iv k,sv s,iv n,iv 0,sv eB,iv 0,.rows [],.rows B,.rows [],.rows [],iv a]:=
 ⟨[],B,[],[],rfl,Raw.nil _,h,Raw.nil _,Raw.nil _⟩
theorem Fa.two{x y:Ex}{xs ys:List PV}(h1:Fa x xs)(h2:Fa y ys):Raw 11 [xs,ys] ([x,y].map Ex.cells):=by
 have e1:xs.length=11:=by obtain⟨A,B,C,D,rfl,_⟩:=h1;rfl
 have e2:ys.length=11:=by obtain⟨A,B,C,D,rfl,_⟩:=h2;rfl
 have:=(Raw.one (sz:=11) (c':=x.cells) (by rw[Ex.cells_eq];exact h1.wd) e1 h1.ns).app (c':=y.cells) (by rw[Ex.cells_eq];exact h2.wd) e2 h2.ns;exact this
theorem Fa.raw(k:Int)(s:ByteArray)(n:Int)(ks:List Ex)(a:Int)(kd:PV)(hk:kd=nS∧ks=[]∨∃B,kd=.rows B∧Raw 11 B (ks.map Ex.cells)){y:Ex}{ys:List PV}(h2:Fa y ys):Raw 11 [[iv k,sv s,iv n,iv 0,sv eB,iv 0,nS,kd,nS,nS,iv a],ys] ([iP k s n ks a,y].map Ex.cells):=by
 have e2:ys.length=11:=by obtain⟨A,B,C,D,rfl,_⟩:=h2;rfl
 have e1:dL [iv k,sv s,iv n,iv 0,sv eB,iv 0,nS,kd,nS,nS,iv a]=(iP k s n ks a).cells:=by
  rw[Ex.cells_eq];rcases hk with⟨rfl,rfl⟩|⟨B,rfl,hB⟩
  ·simp
  ·simp only[uj,Kj,Pq,Po,Pp,hB.wd];rfl
 have hn:kM [iv k,sv s,iv n,iv 0,sv eB,iv 0,nS,kd,nS,nS,iv a]:=by
  rcases hk with⟨rfl,rfl⟩|⟨B,rfl,hB⟩
  ·simp
  ·have:=hB.ns';simp[this]
 have:=(Raw.one (sz:=11) e1 rfl hn).app (c':=y.cells) (by rw[Ex.cells_eq];exact h2.wd) e2 h2.ns;exact this
theorem TK(l:List Ex)(ops:List Tk)(hl:ops.length≤2000000)(hn:l.length=ops.length+1):∀(m f to:Nat),f≤to→to≤ops.length→to-f≤m→∃ys,ev (acE (exs l) (aU ops) (iv f) (iv to))=some (0,ys)∧Fa (fQ l ops m f to) ys:=by
 have same:∀(m f:Nat),f≤ops.length→∃ys,ev (acE (exs l) (aU ops) (iv f) (iv f))=some (0,ys)∧Fa (ve l f) ys:=by
  intro m f h2;have he:=aaH (l:=l) (i:=f) (by omega);have hb:ev (q90 (exs l) (aU ops) (iv f) (iv f))=some (0,eH (ve l f)):=ay.of (by rw[h90];simp[tF he]);exact⟨eH (ve l f),ay.of (by rw[adX];show mV (ev (q90 (exs l) (aU ops) (iv f) (iv f)))=_;rw[hb];simp;exact⟨rfl,rfl,rfl,rfl⟩),.plain _⟩
 intro m
 induction m with
 |zero=>
  intro f to h1 h2 h3;have hf:f=to:=by omega
  subst hf;rw[fQ];exact same 0 f h2
 |succ m ih=>
  intro f to h1 h2 h3;by_cases hft:f=to
  ·subst hft
   rw[fQ,if_pos rfl];exact same 0 f h2
  ·have g1:=EG ops (by omega) (exs l) f to h2 to (f+1) f (by omega) (by omega) (by omega)
   have ha1:=LU (AX ops) to f to (f+1) f (Nat.le_refl _) (by omega);have ha2:=LQ (AX ops) to to (f+1) f (by omega);rw[fQ,if_neg hft];simp only;generalize jE (AX ops) to to (f+1) f=a at *;obtain⟨xs,e1,e2⟩:=ih f a ha1 (by omega) (by omega);obtain⟨ys,f1,f2⟩:=ih (a+1) to (by omega) h2 (by omega);generalize fQ l ops m f a=x at *;generalize fQ l ops m (a+1) to=y at *;have hk:=xL (ops:=ops) (i:=a) (by omega);generalize opAt ops a=o at *;have hw:=nC (i:=f) (n:=to) (by omega) (by omega);have hw2:=nC (i:=a) (n:=to) (by omega) (by omega);have hne:¬((f:Int)=(to:Int)):=by omega
   have h2k:=Fa.two e2 f2;have hv:=Fa.raw 3 o.text 0 [] o.at_ nS (.inl ⟨rfl,rfl⟩) e2;have hz:=Fa.raw 5 eB 0 [iP 3 o.text 0 [] o.at_,x] o.at_ _ (.inr ⟨_,rfl,hv⟩) f2;obtain⟨A,B,C,D,rfl,xr⟩:=e2;obtain⟨A',B',C',D',rfl,yr⟩:=f2
   try simp only[Int.natCast_add,Int.natCast_one] at g1
   try simp only[Int.natCast_add,Int.natCast_one] at f1
   try simp at g1
   try simp at f1
   try simp at e1
   unfold opE;by_cases c1:o.text=⟨#[38,38]⟩
   ·rw[if_pos c1]
    refine⟨_,ay.of ?_,.mk _ _ _ _ _ h2k⟩;rw[adX];have hb:ev (q90 (exs l) (aU ops) (iv f) (iv to))=some (1,[iv 10,sv eB,iv 0,iv 0,sv eB,iv 0,nS,.rows [_,_],nS,nS,iv o.at_]):=ay.of (by rw[h90];simp[hne,hw,hw2,g1,e1,f1,dY hk,c1];exact⟨rfl,rfl⟩);show mV (ev (q90 (exs l) (aU ops) (iv f) (iv to)))=_;rw[hb];simp
   ·rw[if_neg c1]
    by_cases c2:o.text=⟨#[124,124]⟩
    ·rw[if_pos c2]
     refine⟨_,ay.of ?_,.mk _ _ _ _ _ h2k⟩;rw[adX];have hb:ev (q90 (exs l) (aU ops) (iv f) (iv to))=some (1,[iv 11,sv eB,iv 0,iv 0,sv eB,iv 0,nS,.rows [_,_],nS,nS,iv o.at_]):=ay.of (by rw[h90];simp[hne,hw,hw2,g1,e1,f1,dY hk,c1,c2];exact⟨rfl,rfl⟩);show mV (ev (q90 (exs l) (aU ops) (iv f) (iv to)))=_;rw[hb];simp
    ·rw[if_neg c2]
     refine⟨_,ay.of ?_,.mk _ _ _ _ _ hz⟩;rw[adX];have hb:ev (q90 (exs l) (aU ops) (iv f) (iv to))=some (1,[iv 5,sv eB,iv 0,iv 0,sv eB,iv 0,nS,.rows [_,_],nS,nS,iv o.at_]):=ay.of (by rw[h90];simp[hne,hw,hw2,g1,e1,f1,dY hk,c1,c2];exact⟨rfl,rfl⟩);show mV (ev (q90 (exs l) (aU ops) (iv f) (iv to)))=_;rw[hb];simp
set_option maxRecDepth 10000
mutual
def Ex.Ok:Ex→Prop
 |.mk _ _ _ t ks xs bs _=>t.Ok∧(ks.length≤bM∧Ex.OkL ks)∧(xs.length≤bM∧Al.OkL xs)∧(bs.length≤bM∧Bd.OkL bs)
def Al.Ok:Al→Prop
 |.mk p e=>p.Ok∧e.Ok
def Bd.Ok:Bd→Prop
 |.mk _ e _=>e.Ok
def Ex.OkL:List Ex→Prop
 |[]=>True
 |x::l=>x.Ok∧Ex.OkL l
def Al.OkL:List Al→Prop
 |[]=>True
 |x::l=>x.Ok∧Al.OkL l
def Bd.OkL:List Bd→Prop
 |[]=>True
 |x::l=>x.Ok∧Bd.OkL l
end
theorem Ex.OkL_iff:∀l,Ex.OkL l↔∀x∈l,x.Ok
 |[]=>by simp[Ex.OkL]
 |x::l=>by simp[Ex.OkL,Ex.OkL_iff l]
theorem Al.OkL_iff:∀l,Al.OkL l↔∀x∈l,x.Ok
 |[]=>by simp[Al.OkL]
 |x::l=>by simp[Al.OkL,Al.OkL_iff l]
theorem Bd.OkL_iff:∀l,Bd.OkL l↔∀x∈l,x.Ok
 |[]=>by simp[Bd.OkL]
 |x::l=>by simp[Bd.OkL,Bd.OkL_iff l]
@[simp] theorem an8(s:ByteArray)(e:Ex)(a:Int):(Bd.mk s e a).name=s:=rfl
@[simp] theorem au1(s:ByteArray)(e:Ex)(a:Int):(Bd.mk s e a).e=e:=rfl
@[simp] theorem ate(s:ByteArray)(e:Ex)(a:Int):(Bd.mk s e a).at_=a:=rfl
@[simp] theorem au2(p:Pt)(e:Ex):(Al.mk p e).p=p:=rfl
@[simp] theorem au3(p:Pt)(e:Ex):(Al.mk p e).e=e:=rfl
abbrev fZ(b:Bd):List PV:=[sv b.name,iv b.e.kind,sv b.e.name,iv b.e.n,iv b.e.t.kind,sv b.e.t.name,iv b.e.t.n,bH b.e.t.kids,exs b.e.kids,eu b.e.alts,aZ b.e.binds,iv b.e.at_,iv b.at_]
abbrev alC(x:Al):List PV:=[iv x.p.kind,sv x.p.name,iv x.p.n,pts x.p.kids,iv x.p.at_,iv x.e.kind,sv x.e.name,iv x.e.n,iv x.e.t.kind,sv x.e.t.name,iv x.e.t.n,bH x.e.t.kids,exs x.e.kids,eu x.e.alts,aZ x.e.binds,iv x.e.at_]
abbrev alP(p:Pt)(e:Ex):List PV:=[iv p.kind,sv p.name,iv p.n,pts p.kids,iv p.at_,iv e.kind,sv e.name,iv e.n,iv e.t.kind,sv e.t.name,iv e.t.n,bH e.t.kids,exs e.kids,eu e.alts,aZ e.binds,iv e.at_]
theorem BQ(x:Bd):aZ [x]=.rows [fZ x]:=by simp[aZ,Bd.cells_eq]
theorem aft(x:Al):eu [x]=.rows [alC x]:=by simp[eu,Al.cells_eq]
theorem J3:Nf.Ok:=sH 0 eB
abbrev ex0:Ex:=iP 0 eB 0 [] 0
theorem TF(k:Int)(s:ByteArray)(n:Int)(t:Ty)(ks:List Ex)(al:List Al)(bs:List Bd)(a:Int)(ht:t.Ok)(h1:ks.length≤100000000)(h2:∀x∈ks,x.Ok)(h3:al.length≤100000000)(h4:∀x∈al,x.Ok)(h5:bs.length≤100000000)(h6:∀x∈bs,x.Ok):(Ex.mk k s n t ks al bs a).Ok:=by
 rw[Ex.Ok];exact⟨ht,⟨by unfold bM;omega,(Ex.OkL_iff ks).2 h2⟩,⟨by unfold bM;omega,(Al.OkL_iff al).2 h4⟩,by unfold bM;omega,(Bd.OkL_iff bs).2 h6⟩
theorem aaI(k:Int)(s:ByteArray)(n:Int)(t:Ty)(ks:List Ex)(a:Int)(ht:t.Ok)(h1:ks.length≤100)(h2:∀x∈ks,x.Ok):(Ex.mk k s n t ks [] [] a).Ok:=TF _ _ _ _ _ _ _ _ ht (by omega) h2 (by simp) (by simp) (by simp) (by simp)
theorem iR(k:Int)(s:ByteArray)(n:Int)(ks:List Ex)(a:Int)(h1:ks.length≤100)(h2:∀x∈ks,x.Ok):(iP k s n ks a).Ok:=aaI _ _ _ _ _ _ J3 h1 h2
theorem zD:ex0.Ok:=iR _ _ _ _ _ (by simp) (by simp)
theorem qf:ja PG 38 13 192:=ja.of (by kernel_rfl)
theorem ajJ:ja PG 52 16 232:=ja.of (by kernel_rfl)
theorem nQ:ja PG 51 11 168:=ja.of (by kernel_rfl)
theorem KC:ja PG 73 1 16:=ja.of (by kernel_rfl)
theorem PS(l:List Tk):Raw 4 (l.map Tk.cells) (l.map Tk.cells):=.of l (fun x=>by simp[Tk.cells]) (fun x=>rfl) (fun x=>by simp[Tk.cells])
theorem mr(l:List ByteArray):Raw 1 (l.map fun s=>[sv s]) (l.map fun s=>[sv s]):=.of l (fun x=>by simp) (fun x=>rfl) (fun x=>by simp)
abbrev FR(L:List Tk)(s:St):Q:=afN (aU L) (iv s.a) (iv s.lv) (iv s.e) (iv s.w)
abbrev qNm(L:List Tk)(s:St):Q:=akz (aU L) (iv s.a) (iv s.lv) (iv s.e) (iv s.w)
abbrev yL(L:List Tk)(s:St):Q:=afW (aU L) (iv s.a) (iv s.lv) (iv s.e) (iv s.w)
abbrev qLa(L:List Tk)(a:Int)(s:St):Q:=X6 (iv a) (aU L) (iv s.a) (iv s.lv) (iv s.e) (iv s.w)
abbrev qAm(L:List Tk)(s:St):Q:=X4 (aU L) (iv s.a) (iv s.lv) (iv s.e) (iv s.w)
abbrev qOp(L:List Tk)(s:St):Q:=afK (aU L) (iv s.a) (iv s.lv) (iv s.e) (iv s.w)
theorem LV(L:List Tk)(x:ByteArray×Int):∀(m:Nat) (l:List (ByteArray×Int)),gP L m (x::l)=aA (gP L m l) fun e=>aX (iP 6 x.1 0 [e] x.2)
 |0,l=>by rw[gP];rw[gP.eq_1];rfl
 |m+1,l=>by
  rw[gP.eq_2,gP.eq_2];funext d a;unfold kz;by_cases h:(ai L a).kind=1
  ·rw[if_pos h]
   show (gP L m (x::(l++[((ai L a).text,(ai L a).at_)]))) d (a+1)=_;rw[LV L x m];unfold aA mZ AY;simp only[if_pos h]
  ·rw[if_neg h]
   unfold aA;simp only[if_neg h];cases aY L 7 Cr d a with
   |out=>rfl
   |err e w=>rfl
   |ok v b=>
    simp only[Rz.bind_ok];cases fK L m d b<;>rfl
theorem Sj(L:List Tk)(m:Nat):Am L=dV L KM (aA (aY L 5 eB) fun t=>aA (aY L 7 Cq) fun _=>aX t) (aY L 1 eB):=rfl
theorem aim{L:List Tk}{s s':St}{v:Ex}(hk:(bg L s).kind=1)(x:ByteArray×Int)(h:Gr (fun m=>iw L m (bg L s).at_) s s' v):Gr (fun m=>gP L m [x]) s s' (iP 6 x.1 0 [v] x.2):=by
 have h2:=Gr.bind (k:=fun _ e=>aX (iP 6 x.1 0 [e] x.2)) h .pure;refine h2.pt 2 fun m hm he=>?_
 obtain⟨m,rfl⟩:∃k,m=k+2:=⟨m-2,by omega⟩;rw[l9 he] at hk ⊢;rw[gP.eq_2,iw.eq_2];unfold kz;rw[if_pos hk];show (gP L (m+1) ([x]++[((ai L s.a).text,(ai L s.a).at_)])) s.lv (s.a+1)=_;rw[List.singleton_append,LV];unfold aA aY UX;simp[hk]
section
variable{L:List Tk}(hL:L.length≤1000000)
include hL
theorem Si(s:St)(hs:s.a≤L.length):∃v s',ev (qNm L s)=some (0,dh L s' v.cells)∧s'.a≤L.length∧mu L s'≤mu L s-1∧s'.lv=s.lv∧Gr (fun _=>Am L) s s' v:=by
 cases hb:gD L ⟨#[40]⟩ s with
 |true=>
  obtain⟨b1,b2⟩:=bS hb;have t1:=aQ (L:=L) (k:=5) (x:=eB) (by decide) s.up;have t2:=aV (L:=L) (k:=5) (x:=eB) (by decide) b2;have t3:=aQ (L:=L) (k:=7) (x:=⟨#[41]⟩) (by decide) (au L 5 eB s.up);have t4:=aV (L:=L) (k:=7) (x:=⟨#[41]⟩) (by decide) t2;refine⟨aL L 5 eB s.up,au L 7 ⟨#[41]⟩ (au L 5 eB s.up),ay.of ?_,t4,by omega,by simp[aR],.tx (Sj L) (.may_t hb (.bind (.take _ _ _) (.bind (.take _ _ _) .pure)))⟩;rw[alL];have hz:St.mk (au L 5 eB s.up).a s.lv (au L 5 eB s.up).e (au L 5 eB s.up).w=au L 5 eB s.up:=by rw[←aR s];exact St.etaTake _ _ _ _
  simp[bG hL,hb,may_t hb,aK hL (k:=5) (by decide),Tk.cells,aR,bN,bP];simp[hz,aK hL (k:=7) (by decide),Tk.cells,aR]
 |false=>
  have t1:=aQ (L:=L) (k:=1) (x:=eB) (by decide) s;have t2:=aV (L:=L) (k:=1) (x:=eB) (by decide) hs;refine⟨aL L 1 eB s,au L 1 eB s,ay.of ?_,t2,t1,by simp,.tx (Sj L) (.may_f hb (.take _ _ _))⟩;rw[alL];simp[bG hL,hb,may_f hb,aK hL (k:=1) (by decide),Tk.cells]
theorem bind_ok{n:Nat}(ih:lM L n (FR L) eH Ex.Ok (fK L)):lM L (n+1) (yL L) fZ Bd.Ok (AO L):=
 lM.weak (q:=fun s=>ahM (aU L) (iv s.a) (iv s.lv) (iv s.e) (iv s.w)) (fun s=>alW ev _ _ _ _ _) fun s hs hm=>by
  show bE L s fZ Bd.Ok _ (body PG EE TT ev (ahM (aU L) (iv s.a) (iv s.lv) (iv s.e) (iv s.w)));rw[aqG];obtain⟨t,s1,e1,e2,e3,l1,r1⟩:=Si hL s hs;have t1:=aQ (L:=L) (k:=7) (x:=⟨#[61]⟩) (by decide) s1;have t2:=aV (L:=L) (k:=7) (x:=⟨#[61]⟩) (by decide) e2;obtain⟨v,s2,f1,f2,f3,f4,r2⟩:=ih _ t2 (by omega);simp only[FR,aO] at f1;simp only[qNm] at e1;simp[e1,Tk.cells,l1];simp only[←l1];simp[aK hL (k:=7) (by decide),Tk.cells,f1];exact bE.of 0 _ s2 (.mk t.text v t.at_) (by simp) f2 (by omega) (by show Bd.Ok _;rw[Bd.Ok];exact f4) (.fx (AO.eq_2 L) (.bind r1 (.bind (.take _ _ _) (.bind r2 .pure))))
theorem ail{n:Nat}(ih:lM L n (FR L) eH Ex.Ok (fK L)):∀m,m≤n+1→∀a,lM L m (qLa L a) eH Ex.Ok (fun m=>iw L m a):=by
 intro m
 induction m with
 |zero=>
  intro _ a;refine lM.weak (q:=fun s=>K8 (iv a) (aU L) (iv s.a) (iv s.lv) (iv s.e) (iv s.w)) (fun s=>aaC ev _ _ _ _ _ _) fun s hs hm=>?_
  show bE L s eH Ex.Ok _ (body PG EE TT ev (K8 (iv a) (aU L) (iv s.a) (iv s.lv) (iv s.e) (iv s.w)));rw[agi];have t1:=aQ (L:=L) (k:=1) (x:=eB) (by decide) s;have t2:=aV (L:=L) (k:=1) (x:=eB) (by decide) hs;have hk:(bg L (au L 1 eB s)).kind≠1:=fun h=>by
   have:=aW (L:=L) (dO (L:=L) (s:=au L 1 eB s) (by omega)).1;omega
  have t3:=aQ (L:=L) (k:=7) (x:=⟨#[45,62]⟩) (by decide) (au L 1 eB s);have t4:=aV (L:=L) (k:=7) (x:=⟨#[45,62]⟩) (by decide) t2;obtain⟨v,s2,f1,f2,f3,f4,r2⟩:=ih _ t4 (by omega);simp only[FR,aO] at f1;simp[aK hL (k:=1) (by decide),Tk.cells];simp[fE,Tk.cells,hk];have hz:St.mk (au L 1 eB s).a s.lv (au L 1 eB s).e (au L 1 eB s).w=au L 1 eB s:=St.etaTake _ _ _ _;simp[aK hL (k:=7) (by decide),Tk.cells,f1];exact bE.of 0 _ s2 (iP 6 (aL L 1 eB s).text 0 [v] a) (by simp[bJ,lJ,fe]) f2 (by omega) (iR _ _ _ _ _ (by simp) (by simpa using f4)) (.fx (iw.eq_2 L a) (.bind (.take _ _ _) (.fx (gP.eq_2 L _) (.kind_f hk (.bind (.take _ _ _) (.bind r2 .pure))))))
 |succ m ihm=>
  intro hmn a;refine lM.weak (q:=fun s=>K8 (iv a) (aU L) (iv s.a) (iv s.lv) (iv s.e) (iv s.w)) (fun s=>aaC ev _ _ _ _ _ _) fun s hs hm=>?_
  show bE L s eH Ex.Ok _ (body PG EE TT ev (K8 (iv a) (aU L) (iv s.a) (iv s.lv) (iv s.e) (iv s.w)));rw[agi];have t1:=aQ (L:=L) (k:=1) (x:=eB) (by decide) s;have t2:=aV (L:=L) (k:=1) (x:=eB) (by decide) hs;by_cases hk:(bg L (au L 1 eB s)).kind=1
  ·have hin:=dO (L:=L) (s:=au L 1 eB s) (by omega)
   obtain⟨v,s2,f1,f2,f3,f4,r2⟩:=ihm (by omega) (bg L (au L 1 eB s)).at_ _ t2 (by omega);simp only[qLa,aO] at f1;simp[aK hL (k:=1) (by decide),Tk.cells];simp[fE,Tk.cells,hk,f1];refine bE.of 0 _ s2 (iP 6 (aL L 1 eB s).text 0 [v] a) (by simp[bJ,lJ,fe]) f2 (by omega) (iR _ _ _ _ _ (by simp) (by simpa using f4)) ?_;exact .fx (iw.eq_2 L a) (.bind (.take _ _ _) (aim hk _ r2))
  ·have t3:=trivial
   have t3:=aQ (L:=L) (k:=7) (x:=⟨#[45,62]⟩) (by decide) (au L 1 eB s);have t4:=aV (L:=L) (k:=7) (x:=⟨#[45,62]⟩) (by decide) t2;obtain⟨v,s2,f1,f2,f3,f4,r2⟩:=ih _ t4 (by omega);simp only[FR,aO] at f1;simp[aK hL (k:=1) (by decide),Tk.cells];simp[fE,Tk.cells,hk];have hz:St.mk (au L 1 eB s).a s.lv (au L 1 eB s).e (au L 1 eB s).w=au L 1 eB s:=St.etaTake _ _ _ _;simp[aK hL (k:=7) (by decide),Tk.cells,f1];exact bE.of 0 _ s2 (iP 6 (aL L 1 eB s).text 0 [v] a) (by simp[bJ,lJ,fe]) f2 (by omega) (iR _ _ _ _ _ (by simp) (by simpa using f4)) (.fx (iw.eq_2 L a) (.bind (.take _ _ _) (.fx (gP.eq_2 L _) (.kind_f hk (.bind (.take _ _ _) (.bind r2 .pure))))))
theorem amO{n:Nat}(ih:lM L n (FR L) eH Ex.Ok (fK L))(KR:List (List PV))(a:Int):∀(m:Nat) (s:St) (l:List Al),mu L s≤m→m≤n+1→s.a≤L.length→l.length+m≤2000000→∃s' l',
  ev (K7 (aU L) (iv s.a) (iv s.lv) (iv s.e) (iv s.w) KR (l.map Al.cells) (iv a))=some (1,dh L s' [iv 8,sv eB,iv 0,iv 0,sv eB,iv 0,aj,.rows KR,eu (l++l'),aj,iv a,iv 0,sv eB,iv 0,iv 0,sv eB,iv 0,aj,aj,aj,aj,iv 0])∧
  s'.a≤L.length∧mu L s'≤mu L s∧(∀x∈l',x.Ok)∧l'.length≤mu L s-mu L s'∧Gr (fun m=>kK L m l) s s' (l++l'):=by
 intro m
 induction m with
 |zero=>
  intro s l hm hn hs hl;have he:s.e≠0:=fun he=>by have:=aW (L:=L) he;omega
  exact⟨s,[],ay.of (by rw[yg];simp[he,eu]),hs,Nat.le_refl _,(by simp),by simp,.fault he rfl rfl⟩
 |succ m ihm=>
  intro s l hm hn hs hl;by_cases he:s.e=0
  ·have hp:=aW (L:=L) he
   obtain⟨p,s1,e1,e2,e3,e4,r1⟩:=Ie hL (m+1) s hs hm;have t1:=aQ (L:=L) (k:=7) (x:=⟨#[45,62]⟩) (by decide) s1;have t2:=aV (L:=L) (k:=7) (x:=⟨#[45,62]⟩) (by decide) e2;obtain⟨v,s2,f1,f2,f3,f4,r2⟩:=ih _ t2 (by omega);simp only[FR,aO] at f1;have hv:(Al.mk p v).Ok:=by rw[Al.Ok];exact⟨e4,f4⟩
   have ha:=fun k'=>aH (P:=PG) (d:=.fail) (k:=k') ajJ (GQ l) (c:=alP p v) rfl (by simp) (by simp;omega) (by decide)
   have hml:(l++[Al.mk p v]).map Al.cells=l.map Al.cells++[alP p v]:=by rw[List.map_append,List.map_cons,List.map_nil,Al.cells_eq];rfl
   cases hb:gD L ⟨#[124]⟩ s2 with
   |true=>
    obtain⟨b1,b2⟩:=bS hb;obtain⟨s3,l',g1,g2,g3,g4,g5,r3⟩:=ihm s2.up (l++[.mk p v]) (by omega) (by omega) b2 (by simp;omega);rw[hml,List.append_assoc] at g1;simp only[aR,bN,bP] at g1;refine⟨s3,.mk p v::l',ay.of ?_,g2,by omega,?_,by simp;omega,(Gr.fx (kK.eq_2 L l) (.bind r1 (.bind (.take _ _ _) (.bind r2 (.may_t hb r3))))).eq (by simp)⟩
    ·rw[yg]
     simp[eq_true he,e1,aK hL (k:=7) (by decide),Tk.cells,f1,ha];simp[bG hL,hb,may_t hb,aR,bN,bP,g1]
    ·intro x hx
     rcases List.mem_cons.1 hx with rfl|hx
     ·exact hv
     ·exact g4 x hx
   |false=>
    have hc:ev (CG (aU L) (iv s2.a) (iv s2.lv) (iv s2.e) (iv s2.w) KR ((l++[Al.mk p v]).map Al.cells) (iv a))=some (1,dh L s2 [iv 8,sv eB,iv 0,iv 0,sv eB,iv 0,aj,.rows KR,eu (l++[.mk p v]),aj,iv a,iv 0,sv eB,iv 0,iv 0,sv eB,iv 0,aj,aj,aj,aj,iv 0]):=ay.of (by rw[L9];rfl);rw[hml] at hc;refine⟨s2,[.mk p v],ay.of ?_,f2,by omega,by simpa using hv,by simp;omega,.fx (kK.eq_2 L l) (.bind r1 (.bind (.take _ _ _) (.bind r2 (.may_f hb .pure))))⟩;rw[yg];simp[eq_true he,e1,aK hL (k:=7) (by decide),Tk.cells,f1,ha];simp[bG hL,hb,may_f hb,hc]
  ·exact⟨s,[],ay.of (by rw[yg];simp[he,eu]),hs,Nat.le_refl _,(by simp),by simp,.fault he rfl rfl⟩
theorem amP{n:Nat}(ih:lM L n (FR L) eH Ex.Ok (fK L))(KR:List (List PV))(a:Int)(s:St)(hm:mu L s≤n+1)(hs:s.a≤L.length):∃s' l',
  ((l'=[]∧ev (CJ (aU L) (iv s.a) (iv s.lv) (iv s.e) (iv s.w) KR (iv a))=some (0,dh L s' [iv 8,sv eB,iv 0,iv 0,sv eB,iv 0,aj,.rows KR,aj,aj,iv a,iv 0,sv eB,iv 0,iv 0,sv eB,iv 0,aj,aj,aj,aj,iv 0]))∨
   ev (CJ (aU L) (iv s.a) (iv s.lv) (iv s.e) (iv s.w) KR (iv a))=some (1,dh L s' [iv 8,sv eB,iv 0,iv 0,sv eB,iv 0,aj,.rows KR,eu l',aj,iv a,iv 0,sv eB,iv 0,iv 0,sv eB,iv 0,aj,aj,aj,aj,iv 0]))∧
  s'.a≤L.length∧mu L s'≤mu L s∧(∀x∈l',x.Ok)∧l'.length≤100000000∧Gr (fun m=>kK L m []) s s' l':=by
 by_cases he:s.e=0
 ·have hp:=aW (L:=L) he
  obtain⟨p,s1,e1,e2,e3,e4,r1⟩:=Ie hL (n+1) s hs hm;have t1:=aQ (L:=L) (k:=7) (x:=⟨#[45,62]⟩) (by decide) s1;have t2:=aV (L:=L) (k:=7) (x:=⟨#[45,62]⟩) (by decide) e2;obtain⟨v,s2,f1,f2,f3,f4,r2⟩:=ih _ t2 (by omega);simp only[FR,aO] at f1;have hv:(Al.mk p v).Ok:=by rw[Al.Ok];exact⟨e4,f4⟩
  have hml:[Al.mk p v].map Al.cells=[alP p v]:=by rw[List.map_cons,List.map_nil,Al.cells_eq];rfl
  cases hb:gD L ⟨#[124]⟩ s2 with
  |true=>
   obtain⟨b1,b2⟩:=bS hb;have hl2:=iV L s2.up;obtain⟨s3,l',g1,g2,g3,g4,g5,r3⟩:=amO hL ih KR a (mu L s2.up) s2.up [.mk p v] (Nat.le_refl _) (by omega) b2 (by simp;omega);rw[hml] at g1;simp only[aR,bN,bP] at g1;refine⟨s3,.mk p v::l',.inr (ay.of ?_),g2,by omega,?_,by simp;omega,.fx (kK.eq_2 L []) (.bind r1 (.bind (.take _ _ _) (.bind r2 (.may_t hb r3))))⟩
   ·rw[DZ]
    simp[eq_true he,e1,aK hL (k:=7) (by decide),Tk.cells,f1];simp[bG hL,hb,may_t hb,aR,bN,bP,g1]
   ·intro x hx
    rcases List.mem_cons.1 hx with rfl|hx
    ·exact hv
    ·exact g4 x hx
  |false=>
   have hc:ev (CG (aU L) (iv s2.a) (iv s2.lv) (iv s2.e) (iv s2.w) KR ([Al.mk p v].map Al.cells) (iv a))=some (1,dh L s2 [iv 8,sv eB,iv 0,iv 0,sv eB,iv 0,aj,.rows KR,eu [.mk p v],aj,iv a,iv 0,sv eB,iv 0,iv 0,sv eB,iv 0,aj,aj,aj,aj,iv 0]):=ay.of (by rw[L9];rfl);rw[hml] at hc;refine⟨s2,[.mk p v],.inr (ay.of ?_),f2,by omega,by simpa using hv,by simp,.fx (kK.eq_2 L []) (.bind r1 (.bind (.take _ _ _) (.bind r2 (.may_f hb .pure))))⟩;rw[DZ];simp[eq_true he,e1,aK hL (k:=7) (by decide),Tk.cells,f1];simp[bG hL,hb,may_f hb,hc]
 ·exact⟨s,[],.inl ⟨rfl,ay.of (by rw[DZ];simp[he])⟩,hs,Nat.le_refl _,(by simp),by simp,.fault he rfl rfl⟩
theorem Ua{n:Nat}(ih:lM L n (FR L) eH Ex.Ok (fK L)):lM L (n+1) (qAm L) eH Ex.Ok (iY L):=
 lM.weak (q:=fun s=>X5 (aU L) (iv s.a) (iv s.lv) (iv s.e) (iv s.w)) (fun s=>aiz ev _ _ _ _ _) fun s hs hm=>by
  show bE L s eH Ex.Ok _ (body PG EE TT ev (X5 (aU L) (iv s.a) (iv s.lv) (iv s.e) (iv s.w)));rw[al9];simp[fE,Tk.cells];refine dF (fun h1=>?_) (fun h1=>dF (fun h2=>?_) (fun h2=>dF (fun h3=>?_) (fun h3=>dF (fun h4=>?_) (fun h4=>?_))))
  ·simp only[decide_eq_true_eq] at h1
   obtain⟨he,hl⟩:=dO (L:=L) (s:=s) (by omega);simp only[wZ hl hL];exact bE.ofUp 0 _ (iP 3 (bg L s).text 0 [] (bg L s).at_) (by simp) (by rw[nO];exact hl) (vB he hl) (iR _ _ _ _ _ (by simp) (by simp)) (.fx (iY.eq_2 L) (.next (.if_t h1 (.up he .pure))))
  ·simp only[decide_eq_true_eq,decide_eq_false_iff_not] at h1 h2
   obtain⟨he,hl⟩:=dO (L:=L) (s:=s) (by omega);simp only[wZ hl hL];exact bE.ofUp 0 _ (iP 4 (bg L s).text 0 [] (bg L s).at_) (by simp) (by rw[nO];exact hl) (vB he hl) (iR _ _ _ _ _ (by simp) (by simp)) (.fx (iY.eq_2 L) (.next (.if_f h1 (.if_t h2 (.up he .pure)))))
  ·simp only[decide_eq_true_eq,decide_eq_false_iff_not] at h1 h2 h3
   obtain⟨he,hl⟩:=dO (L:=L) (s:=s) (by omega);simp only[wZ hl hL];exact bE.ofUp 0 _ (iP 1 eB (bg L s).n [] (bg L s).at_) (by simp) (by rw[nO];exact hl) (vB he hl) (iR _ _ _ _ _ (by simp) (by simp)) (.fx (iY.eq_2 L) (.next (.if_f h1 (.if_f h2 (.if_t h3 (.up he .pure))))))
  ·simp only[decide_eq_true_eq,decide_eq_false_iff_not] at h1 h2 h3 h4
   obtain⟨he,hl⟩:=dO (L:=L) (s:=s) (by omega);simp only[wZ hl hL];exact bE.ofUp 0 _ (iP 2 (bg L s).text 0 [] (bg L s).at_) (by simp) (by rw[nO];exact hl) (vB he hl) (iR _ _ _ _ _ (by simp) (by simp)) (.fx (iY.eq_2 L) (.next (.if_f h1 (.if_f h2 (.if_f h3 (.if_t h4 (.up he .pure)))))))
  ·simp only[decide_eq_false_iff_not] at h1 h2 h3 h4
   simp[bG hL];refine dF (fun hc=>?_) (fun hc=>?_)
   ·obtain⟨b1,b2⟩:=bS hc
    have hp:=aW (L:=L) (gZ hc).1;rw[may_t hc];obtain⟨v,s1,f1,f2,f3,f4,r1⟩:=ih s.up b2 (by omega);simp only[FR,aR,bN,bP] at f1;have t1:=aQ (L:=L) (k:=6) (x:=⟨#[111,102]⟩) (by decide) s1;have t2:=aV (L:=L) (k:=6) (x:=⟨#[111,102]⟩) (by decide) f2;obtain⟨s2,l,hc2,g2,g3,g4,g5,r2⟩:=amP hL ih [eH v] (bg L s).at_ _ (by omega) t2;simp only[aO] at hc2;have t3:=aQ (L:=L) (k:=6) (x:=⟨#[101,110,100]⟩) (by decide) s2;have t4:=aV (L:=L) (k:=6) (x:=⟨#[101,110,100]⟩) (by decide) g2;have hx:(Ex.mk 8 eB 0 Nf [v] l [] (bg L s).at_).Ok:=TF _ _ _ _ _ _ _ _ J3 (by simp) (by simpa using f4) g5 g4 (by simp) (by simp);have hg:Gr (iY L) s (au L 6 ⟨#[101,110,100]⟩ s2) (Ex.mk 8 eB 0 Nf [v] l [] (bg L s).at_):=.fx (iY.eq_2 L) (.next (.if_f h1 (.if_f h2 (.if_f h3 (.if_f h4 (.may_t hc (.bind r1 (.bind (.take _ _ _) (.bind r2 (.bind (.take _ _ _) .pure))))))))));rcases hc2 with⟨rfl,hc2⟩|hc2
    ·simp[f1]
     simp[aK hL (k:=6) (by decide),Tk.cells];simp[hc2];simp[aK hL (k:=6) (by decide),Tk.cells];exact bE.ofT _ _ (Ex.mk 8 eB 0 Nf [v] [] [] (bg L s).at_) (by simp[bJ,lJ,fe]) t4 (by omega) hx hg
    ·simp[f1]
     simp[aK hL (k:=6) (by decide),Tk.cells];simp[hc2];simp[aK hL (k:=6) (by decide),Tk.cells];exact bE.ofT _ _ (Ex.mk 8 eB 0 Nf [v] l [] (bg L s).at_) (by simp[bJ,lJ,fe]) t4 (by omega) hx hg
   ·rw[may_f hc]
    have t1:=aQ (L:=L) (k:=7) (x:=⟨#[40]⟩) (by decide) s;have t2:=aV (L:=L) (k:=7) (x:=⟨#[40]⟩) (by decide) hs;simp[aK hL (k:=7) (by decide)];simp[bG hL,Tk.cells];generalize ht:au L 7 ⟨#[40]⟩ s=s1 at *;have hl1:s1.lv=s.lv:=by rw[←ht];exact aO _ _ s
    simp only[←hl1];have hg:∀{s' v},Gr (fun m=>dV L Cq (aX (iP 4 sUn 0 [] (bg L s).at_)) (kz L 5 (aA (aY L 5 eB) fun o=>aA (aY L 7 Cq) fun _=>aX (iP 3 o.text 0 [] (bg L s).at_))
     (aA (fK L m) fun y=>dV L acy (aA (iU L m) fun ty=>aA (aY L 7 Cq) fun _=>aX (.mk 12 eB 0 ty [y] [] [] (bg L s).at_)) (aA (aY L 7 Cq) fun _=>aX y)))) s1 s' v→Gr (iY L) s s' v:=
     fun hr=>.fx (iY.eq_2 L) (.next (.if_f h1 (.if_f h2 (.if_f h3 (.if_f h4 (.may_f hc (.bind (.takex ht rfl) hr)))))))
    refine dF (fun hb=>?_) (fun hb=>?_)
    ·obtain⟨m1,m2⟩:=bS hb
     have hp:=aW (L:=L) (gZ hb).1;rw[may_t hb];exact bE.ofUp 0 _ (iP 4 ⟨#[85,110,105,116]⟩ 0 [] (bg L s).at_) (by simp) m2 (by omega) (iR _ _ _ _ _ (by simp) (by simp)) (hg (.may_t hb .pure))
    ·rw[may_f hb]
     simp[fE,Tk.cells];refine dF (fun h5=>?_) (fun h5=>?_)
     ·simp only[decide_eq_true_eq] at h5
      have t3:=aQ (L:=L) (k:=5) (x:=eB) (by decide) s1;have t4:=aV (L:=L) (k:=5) (x:=eB) (by decide) t2;have t5:=aQ (L:=L) (k:=7) (x:=⟨#[41]⟩) (by decide) (au L 5 eB s1);have t6:=aV (L:=L) (k:=7) (x:=⟨#[41]⟩) (by decide) t4;simp[aK hL (k:=5) (by decide),Tk.cells];generalize ht5:au L 5 eB s1=s5 at *;have hl5:s5.lv=s1.lv:=by rw[←ht5];exact aO _ _ s1
      simp only[←hl5];simp[aK hL (k:=7) (by decide),Tk.cells];exact bE.ofT 0 _ (iP 3 (aL L 5 eB s1).text 0 [] (bg L s).at_) (by simp) t6 (by omega) (iR _ _ _ _ _ (by simp) (by simp)) (hg (.may_f hb (.kind_t h5 (.bind (.takex ht5 rfl) (.bind (.take _ _ _) .pure)))))
     ·simp only[decide_eq_false_iff_not] at h5
      obtain⟨v,s2,f1,f2,f3,f4,r1⟩:=ih s1 t2 (by omega);simp[f1];simp[bG hL];refine dF (fun hc=>?_) (fun hc=>?_)
      ·obtain⟨m1,m2⟩:=bS hc
       rw[may_t hc];obtain⟨ty,s3,g1,g2,g3,g4,r2⟩:=w9 hL (n+1) s2.up m2 (by omega);simp only[J7,aR,bN,bP] at g1;have t3:=aQ (L:=L) (k:=7) (x:=⟨#[41]⟩) (by decide) s3;have t4:=aV (L:=L) (k:=7) (x:=⟨#[41]⟩) (by decide) g2;simp[g1,aK hL (k:=7) (by decide),Tk.cells];exact bE.ofT 1 _ (.mk 12 eB 0 ty [v] [] [] (bg L s).at_) (by simp[bJ,lJ,fe]) t4 (by omega) (aaI _ _ _ _ _ _ g4 (by simp) (by simpa using f4)) (hg (.may_f hb (.kind_f h5 (.bind r1 (.may_t hc (.bind r2 (.bind (.take _ _ _) .pure)))))))
      ·rw[may_f hc]
       have t3:=aQ (L:=L) (k:=7) (x:=⟨#[41]⟩) (by decide) s2;have t4:=aV (L:=L) (k:=7) (x:=⟨#[41]⟩) (by decide) f2;simp[aK hL (k:=7) (by decide),Tk.cells];exact bE.ofT 0 _ v (by simp) t4 (by omega) f4 (hg (.may_f hb (.kind_f h5 (.bind r1 (.may_f hc (.bind (.take _ _ _) .pure))))))
end
end Go.Proofs.YtijcobeebaceoaaGreatDoor
namespace Go.Proofs.YtijcobeebaceoaaGreatDoor
open Go.RowKit
set_option maxRecDepth 10000
section
variable{L:List Tk}(hL:L.length≤1000000)
include hL
theorem ai4{n:Nat}(ih:lM L n (yL L) fZ Bd.Ok (AO L))(a:Int):∀(m:Nat) (s:St) (l:List Bd),mu L s≤m→m≤n→s.a≤L.length→l.length+m≤2000000→∃(s':St) (l':List Bd),
  ev (Qh (aU L) (iv s.a) (iv s.lv) (iv s.e) (iv s.w) (l.map Bd.cells) (iv a))=some (1,dh L s' [iv 7,sv eB,iv 1,iv 0,sv eB,iv 0,aj,aj,aj,aZ (l++l'),iv a,iv 0,sv eB,iv 0,iv 0,sv eB,iv 0,aj,aj,aj,aj,iv 0])∧
  s'.a≤L.length∧mu L s'≤mu L s∧(∀x∈l',x.Ok)∧l'.length≤mu L s-mu L s'∧Gr (fun m=>fq L m l) s s' (l++l'):=by
 intro m
 induction m with
 |zero=>
  intro s l hm hn hs hl;have hb:gD L ⟨#[97,110,100]⟩ s=false:=by
   cases hb:gD L ⟨#[97,110,100]⟩ s with
   |false=>rfl
   |true=>have:=aW (L:=L) (gZ hb).1;omega
  exact⟨s,[],ay.of (by rw[I4];simp[bG hL,hb,may_f hb,aZ]),hs,Nat.le_refl _,(by simp),by simp,(Gr.fx (fq.eq_2 L l) (.may_f hb .pure)).eq (by simp)⟩
 |succ m ihm=>
  intro s l hm hn hs hl;cases hb:gD L ⟨#[97,110,100]⟩ s with
  |false=>exact⟨s,[],ay.of (by rw[I4];simp[bG hL,hb,may_f hb,aZ]),hs,Nat.le_refl _,(by simp),by simp,(Gr.fx (fq.eq_2 L l) (.may_f hb .pure)).eq (by simp)⟩
  |true=>
   have hp:=aW (L:=L) (gZ hb).1;obtain⟨b1,b2⟩:=bS hb;obtain⟨v,s1,f1,f2,f3,f4,r1⟩:=ih s.up b2 (by omega);simp only[yL,aR,bN,bP] at f1;obtain⟨s2,l',g1,g2,g3,g4,g5,r2⟩:=ihm s1 (l++[v]) (by omega) (by omega) f2 (by simp;omega);have hml:(l++[v]).map Bd.cells=l.map Bd.cells++[fZ v]:=by rw[List.map_append,List.map_cons,List.map_nil,Bd.cells_eq]
   rw[hml,List.append_assoc] at g1;have ha:=fun k'=>aH (P:=PG) (d:=.fail) (k:=k') qf (gL l) (c:=fZ v) rfl (by simp) (by simp;omega) (by decide)
   refine⟨s2,v::l',ay.of ?_,g2,by omega,?_,by simp;omega,(Gr.fx (fq.eq_2 L l) (.may_t hb (.bind r1 r2))).eq (by simp)⟩
   ·rw[I4]
    simp[bG hL,hb,may_t hb,aR,bN,bP];simp[f1,ha,g1]
   ·intro x hx
    rcases List.mem_cons.1 hx with rfl|hx
    ·exact f4
    ·exact g4 x hx
theorem ai6{n:Nat}(ih:lM L n (yL L) fZ Bd.Ok (AO L))(a:Int)(v0:Bd)(s:St)(hm:mu L s≤n)(hs:s.a≤L.length):∃(s':St) (l':List Bd),
  ((l'=[]∧ev (GU (aU L) (iv s.a) (iv s.lv) (iv s.e) (iv s.w) [fZ v0] (iv a))=some (0,dh L s' [iv 7,sv eB,iv 1,iv 0,sv eB,iv 0,aj,aj,aj,.rows [fZ v0],iv a,iv 0,sv eB,iv 0,iv 0,sv eB,iv 0,aj,aj,aj,aj,iv 0]))∨
   ev (GU (aU L) (iv s.a) (iv s.lv) (iv s.e) (iv s.w) [fZ v0] (iv a))=some (1,dh L s' [iv 7,sv eB,iv 1,iv 0,sv eB,iv 0,aj,aj,aj,aZ (v0::l'),iv a,iv 0,sv eB,iv 0,iv 0,sv eB,iv 0,aj,aj,aj,aj,iv 0]))∧
  s'.a≤L.length∧mu L s'≤mu L s∧(∀x∈l',x.Ok)∧l'.length≤10000000∧Gr (fun m=>fq L m [v0]) s s' (v0::l'):=by
 cases hb:gD L ⟨#[97,110,100]⟩ s with
 |false=>exact⟨s,[],.inl ⟨rfl,ay.of (by rw[SK];simp[bG hL,hb,may_f hb])⟩,hs,Nat.le_refl _,(by simp),by simp,.fx (fq.eq_2 L [v0]) (.may_f hb .pure)⟩
 |true=>
  have hp:=aW (L:=L) (gZ hb).1;obtain⟨b1,b2⟩:=bS hb;obtain⟨v,s1,f1,f2,f3,f4,r1⟩:=ih s.up b2 (by omega);simp only[yL,aR,bN,bP] at f1;have hml:[v0,v].map Bd.cells=[fZ v0]++[fZ v]:=by rw[List.map_cons,List.map_cons,List.map_nil,Bd.cells_eq,Bd.cells_eq];rfl
  have hm1:=iV L s1;obtain⟨s2,l',g1,g2,g3,g4,g5,r2⟩:=ai4 hL ih a (mu L s1) s1 [v0,v] (Nat.le_refl _) (by omega) f2 (by simp;omega);rw[hml] at g1;have hr:Raw 13 [fZ v0] ([v0].map Bd.cells):=.one (by rw[Bd.cells_eq];simp) rfl (by simp);have ha:=fun k'=>aH (P:=PG) (d:=.fail) (k:=k') qf hr (c:=fZ v) rfl (by simp) (by simp) (by decide)
  refine⟨s2,v::l',.inr (ay.of ?_),g2,by omega,?_,by simp;omega,.fx (fq.eq_2 L [v0]) (.may_t hb (.bind r1 r2))⟩
  ·rw[SK]
   simp at g1;simp[bG hL,hb,may_t hb,aR,bN,bP];simp[f1,ha,g1]
  ·intro x hx
   rcases List.mem_cons.1 hx with rfl|hx
   ·exact f4
   ·exact g4 x hx
theorem ai5{n:Nat}(ih:lM L n (yL L) fZ Bd.Ok (AO L))(a:Int):∀(m:Nat) (s:St) (l:List Bd),mu L s≤m→m≤n→s.a≤L.length→l.length+m≤2000000→∃(s':St) (l':List Bd),
  ev (Qg (aU L) (iv s.a) (iv s.lv) (iv s.e) (iv s.w) (l.map Bd.cells) (iv a))=some (1,dh L s' [iv 7,sv eB,iv 0,iv 0,sv eB,iv 0,aj,aj,aj,aZ (l++l'),iv a,iv 0,sv eB,iv 0,iv 0,sv eB,iv 0,aj,aj,aj,aj,iv 0])∧
  s'.a≤L.length∧mu L s'≤mu L s∧(∀x∈l',x.Ok)∧l'.length≤mu L s-mu L s'∧Gr (fun m=>fq L m l) s s' (l++l'):=by
 intro m
 induction m with
 |zero=>
  intro s l hm hn hs hl;have hb:gD L ⟨#[97,110,100]⟩ s=false:=by
   cases hb:gD L ⟨#[97,110,100]⟩ s with
   |false=>rfl
   |true=>have:=aW (L:=L) (gZ hb).1;omega
  exact⟨s,[],ay.of (by rw[IZ];simp[bG hL,hb,may_f hb,aZ]),hs,Nat.le_refl _,(by simp),by simp,(Gr.fx (fq.eq_2 L l) (.may_f hb .pure)).eq (by simp)⟩
 |succ m ihm=>
  intro s l hm hn hs hl;cases hb:gD L ⟨#[97,110,100]⟩ s with
  |false=>exact⟨s,[],ay.of (by rw[IZ];simp[bG hL,hb,may_f hb,aZ]),hs,Nat.le_refl _,(by simp),by simp,(Gr.fx (fq.eq_2 L l) (.may_f hb .pure)).eq (by simp)⟩
  |true=>
   have hp:=aW (L:=L) (gZ hb).1;obtain⟨b1,b2⟩:=bS hb;obtain⟨v,s1,f1,f2,f3,f4,r1⟩:=ih s.up b2 (by omega);simp only[yL,aR,bN,bP] at f1;obtain⟨s2,l',g1,g2,g3,g4,g5,r2⟩:=ihm s1 (l++[v]) (by omega) (by omega) f2 (by simp;omega);have hml:(l++[v]).map Bd.cells=l.map Bd.cells++[fZ v]:=by rw[List.map_append,List.map_cons,List.map_nil,Bd.cells_eq]
   rw[hml,List.append_assoc] at g1;have ha:=fun k'=>aH (P:=PG) (d:=.fail) (k:=k') qf (gL l) (c:=fZ v) rfl (by simp) (by simp;omega) (by decide)
   refine⟨s2,v::l',ay.of ?_,g2,by omega,?_,by simp;omega,(Gr.fx (fq.eq_2 L l) (.may_t hb (.bind r1 r2))).eq (by simp)⟩
   ·rw[IZ]
    simp[bG hL,hb,may_t hb,aR,bN,bP];simp[f1,ha,g1]
   ·intro x hx
    rcases List.mem_cons.1 hx with rfl|hx
    ·exact f4
    ·exact g4 x hx
theorem ai7{n:Nat}(ih:lM L n (yL L) fZ Bd.Ok (AO L))(a:Int)(v0:Bd)(s:St)(hm:mu L s≤n)(hs:s.a≤L.length):∃(s':St) (l':List Bd),
  ((l'=[]∧ev (GR (aU L) (iv s.a) (iv s.lv) (iv s.e) (iv s.w) [fZ v0] (iv a))=some (0,dh L s' [iv 7,sv eB,iv 0,iv 0,sv eB,iv 0,aj,aj,aj,.rows [fZ v0],iv a,iv 0,sv eB,iv 0,iv 0,sv eB,iv 0,aj,aj,aj,aj,iv 0]))∨
   ev (GR (aU L) (iv s.a) (iv s.lv) (iv s.e) (iv s.w) [fZ v0] (iv a))=some (1,dh L s' [iv 7,sv eB,iv 0,iv 0,sv eB,iv 0,aj,aj,aj,aZ (v0::l'),iv a,iv 0,sv eB,iv 0,iv 0,sv eB,iv 0,aj,aj,aj,aj,iv 0]))∧
  s'.a≤L.length∧mu L s'≤mu L s∧(∀x∈l',x.Ok)∧l'.length≤10000000∧Gr (fun m=>fq L m [v0]) s s' (v0::l'):=by
 cases hb:gD L ⟨#[97,110,100]⟩ s with
 |false=>exact⟨s,[],.inl ⟨rfl,ay.of (by rw[SI];simp[bG hL,hb,may_f hb])⟩,hs,Nat.le_refl _,(by simp),by simp,.fx (fq.eq_2 L [v0]) (.may_f hb .pure)⟩
 |true=>
  have hp:=aW (L:=L) (gZ hb).1;obtain⟨b1,b2⟩:=bS hb;obtain⟨v,s1,f1,f2,f3,f4,r1⟩:=ih s.up b2 (by omega);simp only[yL,aR,bN,bP] at f1;have hml:[v0,v].map Bd.cells=[fZ v0]++[fZ v]:=by rw[List.map_cons,List.map_cons,List.map_nil,Bd.cells_eq,Bd.cells_eq];rfl
  have hm1:=iV L s1;obtain⟨s2,l',g1,g2,g3,g4,g5,r2⟩:=ai5 hL ih a (mu L s1) s1 [v0,v] (Nat.le_refl _) (by omega) f2 (by simp;omega);rw[hml] at g1;have hr:Raw 13 [fZ v0] ([v0].map Bd.cells):=.one (by rw[Bd.cells_eq];simp) rfl (by simp);have ha:=fun k'=>aH (P:=PG) (d:=.fail) (k:=k') qf hr (c:=fZ v) rfl (by simp) (by simp) (by decide)
  refine⟨s2,v::l',.inr (ay.of ?_),g2,by omega,?_,by simp;omega,.fx (fq.eq_2 L [v0]) (.may_t hb (.bind r1 r2))⟩
  ·rw[SI]
   simp at g1;simp[bG hL,hb,may_t hb,aR,bN,bP];simp[f1,ha,g1]
  ·intro x hx
   rcases List.mem_cons.1 hx with rfl|hx
   ·exact f4
   ·exact g4 x hx
theorem amL{n:Nat}(ih:lM L n (qAm L) eH Ex.Ok (iY L))(t:Tk)(a:Int):∀(m:Nat) (s:St) (ks:List Ex) (B:List (List PV)),Raw 11 B (ks.map Ex.cells)→ks.length=2→(∀x∈ks,x.Ok)→mu L s≤m→m≤n→s.a≤L.length→a=t.at_→∃(s':St) (ks':List Ex) (B':List (List PV)),
  ev (Qe (aU L) (iv s.a) (iv s.lv) (iv s.e) (iv s.w) B (iv a) (iv t.kind) (sv t.text) (iv t.n) (iv t.at_))=some (1,dh L s' [iv 5,sv eB,iv 0,iv 0,sv eB,iv 0,aj,.rows B',aj,aj,iv a,iv t.kind,sv t.text,iv t.n,iv t.at_,iv 0,sv eB,iv 0,iv 0,sv eB,iv 0,aj,aj,aj,aj,iv 0])∧
  Raw 11 B' (ks'.map Ex.cells)∧ks'.length=2∧(∀x∈ks',x.Ok)∧s'.a≤L.length∧mu L s'≤mu L s∧Gr (fun m=>jF L m a (iP 5 eB 0 ks a)) s s' (iP 5 eB 0 ks' a):=by
 intro m
 induction m with
 |zero=>
  intro s ks B hr hk hok hm hn hs ha;obtain⟨b,h1,h2,h3⟩:=dK (L:=L) (k:=2) (.inr (.inr rfl)) s;cases b with
  |true=>have:=aW (L:=L) (h2 rfl).1;omega
  |false=>exact⟨s,ks,B,ay.of (by rw[IY];simp[h1]),hr,hk,hok,hs,Nat.le_refl _,.fx (jF.eq_2 L a _) (.st_f (h3 rfl) .pure)⟩
 |succ m ihm=>
  intro s ks B hr hk hok hm hn hs ha;obtain⟨b,h1,h2,h3⟩:=dK (L:=L) (k:=2) (.inr (.inr rfl)) s;cases b with
  |false=>exact⟨s,ks,B,ay.of (by rw[IY];simp[h1]),hr,hk,hok,hs,Nat.le_refl _,.fx (jF.eq_2 L a _) (.st_f (h3 rfl) .pure)⟩
  |true=>
   have hp:=aW (L:=L) (h2 rfl).1;obtain⟨v,s1,f1,f2,f3,f4,r1⟩:=ih s hs (by omega);have hr2:Raw 11 [[iv 5,sv eB,iv 0,iv 0,sv eB,iv 0,aj,.rows B,aj,aj,iv a],eH v] ([iP 5 eB 0 ks a,v].map Ex.cells):=Fa.raw 5 eB 0 ks a _ (.inr ⟨B,rfl,hr⟩) (.plain v);obtain⟨s2,ks',B',g1,g2,g3,g4,g5,g6,r2⟩:=ihm s1 _ _ hr2 rfl (by
    intro x hx;simp only[List.mem_cons,List.not_mem_nil,or_false] at hx;rcases hx with rfl|rfl
    ·exact iR _ _ _ _ _ (by omega) hok
    ·exact f4) (by omega) (by omega) f2 ha
   refine⟨s2,ks',B',ay.of ?_,g2,g3,g4,g5,by omega,.fx (jF.eq_2 L a _) (.st_t (h2 rfl).2.2 (.bind r1 r2))⟩;rw[IY];subst ha;simp[h1,f1,g1]
theorem amM{n:Nat}(ih:lM L n (qAm L) eH Ex.Ok (iY L))(t:Tk)(v0:Ex)(hv0:v0.Ok)(s:St)(hm:mu L s≤n)(hs:s.a≤L.length):∃(s':St) (k:Nat) (ys:List PV) (e:Ex),
  ev (Qf (aU L) (iv s.a) (iv s.lv) (iv s.e) (iv s.w) (iv v0.kind) (sv v0.name) (iv v0.n) (iv v0.t.kind) (sv v0.t.name) (iv v0.t.n) (bH v0.t.kids) (exs v0.kids) (eu v0.alts) (aZ v0.binds) (iv v0.at_) (iv t.kind) (sv t.text) (iv t.n) (iv t.at_))=some (k,aU L::iv s'.a::iv s'.lv::iv s'.e::iv s'.w::(ys++[iv t.kind,sv t.text,iv t.n,iv t.at_,iv 0,sv eB,iv 0,iv 0,sv eB,iv 0,aj,aj,aj,aj,iv 0]))∧
  (k=0∧ys=eH v0∧e=v0∨k=1∧∃B ks,ys=[iv 5,sv eB,iv 0,iv 0,sv eB,iv 0,aj,.rows B,aj,aj,iv t.at_]∧Raw 11 B (ks.map Ex.cells)∧e=iP 5 eB 0 ks t.at_)∧e.Ok∧s'.a≤L.length∧mu L s'≤mu L s∧Gr (fun m=>jF L m t.at_ v0) s s' e:=by
 obtain⟨b,h1,h2,h3⟩:=dK (L:=L) (k:=2) (.inr (.inr rfl)) s;cases b with
 |false=>exact⟨s,0,eH v0,v0,ay.of (by rw[SH];simp[h1]),.inl ⟨rfl,rfl,rfl⟩,hv0,hs,Nat.le_refl _,.fx (jF.eq_2 L _ _) (.st_f (h3 rfl) .pure)⟩
 |true=>
  have hp:=aW (L:=L) (h2 rfl).1;obtain⟨v,s1,f1,f2,f3,f4,r1⟩:=ih s hs (by omega);have hr2:Raw 11 [eH v0,eH v] ([v0,v].map Ex.cells):=Fa.two (.plain v0) (.plain v);obtain⟨s2,ks,B,g1,g2,g3,g4,g5,g6,r2⟩:=amL hL ih t t.at_ (mu L s1) s1 [v0,v] _ hr2 rfl (by simp[hv0,f4]) (Nat.le_refl _) (by omega) f2 rfl;refine⟨s2,1,_,iP 5 eB 0 ks t.at_,ay.of ?_,.inr ⟨rfl,B,ks,rfl,g2,rfl⟩,iR _ _ _ _ _ (by omega) g4,g5,by omega,.fx (jF.eq_2 L _ _) (.st_t (h2 rfl).2.2 (.bind r1 r2))⟩;rw[SH];simp[h1,f1,g1]
theorem vZ{n:Nat}(ih:lM L n (FR L) eH Ex.Ok (fK L)):lM L (n+1) (qOp L) eH Ex.Ok (fI L):=
 lM.weak (q:=fun s=>ahC (aU L) (iv s.a) (iv s.lv) (iv s.e) (iv s.w)) (fun s=>alH ev _ _ _ _ _) fun s hs hm=>by
  show bE L s eH Ex.Ok _ (body PG EE TT ev (ahC (aU L) (iv s.a) (iv s.lv) (iv s.e) (iv s.w)));rw[aqc];simp[fE,Tk.cells];simp[bG hL];generalize hT:bg L s=t;have hg:∀{s' v},Gr (fun m=>dV L sBs (iw L m t.at_) (dV L acv (dV L WU (qY L m 1 t.at_) (qY L m 0 t.at_))
   (dV L sIf (aA (fK L m) fun a=>aA (aY L 6 afD) fun _=>aA (fK L m) fun b=>aA (aY L 6 afE) fun _=>aA (fK L m) fun c=>aX (iP 9 eB 0 [a,b,c] t.at_))
    (aA (iY L m) fun x=>jF L m t.at_ x)))) s s' v→Gr (fI L) s s' v:=fun hr=>.fx (fI.eq_2 L) (.next (by rw[hT];exact hr))
  refine dF (fun h1=>?_) (fun h1=>?_)
  ·obtain⟨b1,b2⟩:=bS h1
   have hp:=aW (L:=L) (gZ h1).1;rw[may_t h1];obtain⟨v,s1,f1,f2,f3,f4,r1⟩:=ail hL ih (n+1) (Nat.le_refl _) t.at_ s.up b2 (by omega);simp only[qLa,aR,bN,bP] at f1;simp[f1];exact bE.of _ _ s1 v (by simp) f2 (by omega) f4 (hg (.may_t h1 r1))
  ·rw[may_f h1]
   try simp[bG hL]
   refine dF (fun h2=>?_) (fun h2=>?_)
   ·obtain⟨b1,b2⟩:=bS h2
    have hp:=aW (L:=L) (gZ h2).1;rw[may_t h2]
    try simp[bG hL]
    refine dF (fun h3=>?_) (fun h3=>?_)
    ·obtain⟨c1,c2⟩:=bS h3
     rw[may_t h3];obtain⟨v,s1,f1,f2,f3,f4,r1⟩:=bind_ok hL ih s.up.up c2 (by omega);simp only[yL,aR,bN,bP] at f1;obtain⟨s2,l,hc,g2,g3,g4,g5,r2⟩:=ai6 hL (bind_ok hL ih) t.at_ v s1 (by omega) f2;have t1:=aQ (L:=L) (k:=6) (x:=⟨#[105,110]⟩) (by decide) s2;have t2:=aV (L:=L) (k:=6) (x:=⟨#[105,110]⟩) (by decide) g2;obtain⟨e,s3,k1,k2,k3,k4,r3⟩:=ih _ t2 (by omega);simp only[FR,aO] at k1;have hx:(Ex.mk 7 eB 1 Nf [e] [] (v::l) t.at_).Ok:=TF _ _ _ _ _ _ _ _ J3 (by simp) (by simpa using k4) (by simp) (by simp) (by simp;omega) (by
      intro x hx;rcases List.mem_cons.1 hx with rfl|hx
      ·exact f4
      ·exact g4 x hx)
     have hh:=hg (.may_f h1 (.may_t h2 (.may_t h3 (.fx (qY.eq_2 L 1 t.at_) (.bind r1 (.bind r2 (.bind (.take _ _ _) (.bind r3 .pure))))))));rcases hc with⟨rfl,hc⟩|hc
     ·simp[f1]
      simp[hc];simp[aK hL (k:=6) (by decide),Tk.cells];simp[k1];exact bE.of _ _ s3 _ (by simp[bJ,lJ,fe,BQ]) k2 (by omega) hx hh
     ·simp[f1]
      simp[hc];simp[aK hL (k:=6) (by decide),Tk.cells];simp[k1];exact bE.of _ _ s3 _ (by simp[bJ,lJ,fe]) k2 (by omega) hx hh
    ·rw[may_f h3]
     obtain⟨v,s1,f1,f2,f3,f4,r1⟩:=bind_ok hL ih s.up b2 (by omega);simp only[yL,aR,bN,bP] at f1;obtain⟨s2,l,hc,g2,g3,g4,g5,r2⟩:=ai7 hL (bind_ok hL ih) t.at_ v s1 (by omega) f2;have t1:=aQ (L:=L) (k:=6) (x:=⟨#[105,110]⟩) (by decide) s2;have t2:=aV (L:=L) (k:=6) (x:=⟨#[105,110]⟩) (by decide) g2;obtain⟨e,s3,k1,k2,k3,k4,r3⟩:=ih _ t2 (by omega);simp only[FR,aO] at k1;have hx:(Ex.mk 7 eB 0 Nf [e] [] (v::l) t.at_).Ok:=TF _ _ _ _ _ _ _ _ J3 (by simp) (by simpa using k4) (by simp) (by simp) (by simp;omega) (by
      intro x hx;rcases List.mem_cons.1 hx with rfl|hx
      ·exact f4
      ·exact g4 x hx)
     have hh:=hg (.may_f h1 (.may_t h2 (.may_f h3 (.fx (qY.eq_2 L 0 t.at_) (.bind r1 (.bind r2 (.bind (.take _ _ _) (.bind r3 .pure))))))));rcases hc with⟨rfl,hc⟩|hc
     ·simp[f1]
      simp[hc];simp[aK hL (k:=6) (by decide),Tk.cells];simp[k1];exact bE.of _ _ s3 _ (by simp[bJ,lJ,fe,BQ]) k2 (by omega) hx hh
     ·simp[f1]
      simp[hc];simp[aK hL (k:=6) (by decide),Tk.cells];simp[k1];exact bE.of _ _ s3 _ (by simp[bJ,lJ,fe]) k2 (by omega) hx hh
   ·rw[may_f h2]
    try simp[bG hL]
    refine dF (fun h3=>?_) (fun h3=>?_)
    ·obtain⟨b1,b2⟩:=bS h3
     have hp:=aW (L:=L) (gZ h3).1;rw[may_t h3];obtain⟨v1,s1,f1,f2,f3,f4,r1⟩:=ih s.up b2 (by omega);simp only[FR,aR,bN,bP] at f1;have t1:=aQ (L:=L) (k:=6) (x:=⟨#[116,104,101,110]⟩) (by decide) s1;have t2:=aV (L:=L) (k:=6) (x:=⟨#[116,104,101,110]⟩) (by decide) f2;obtain⟨v2,s2,g1,g2,g3,g4,r2⟩:=ih _ t2 (by omega);simp only[FR,aO] at g1;have t3:=aQ (L:=L) (k:=6) (x:=⟨#[101,108,115,101]⟩) (by decide) s2;have t4:=aV (L:=L) (k:=6) (x:=⟨#[101,108,115,101]⟩) (by decide) g2;obtain⟨v3,s3,k1,k2,k3,k4,r3⟩:=ih _ t4 (by omega);simp only[FR,aO] at k1;simp[f1];simp[aK hL (k:=6) (by decide),Tk.cells];simp[g1];simp[aK hL (k:=6) (by decide),Tk.cells];simp[k1];exact bE.of _ _ s3 (iP 9 eB 0 [v1,v2,v3] t.at_) (by simp[bJ,aju,Ga]) k2 (by omega) (iR _ _ _ _ _ (by simp) (by simp[f4,g4,k4])) (hg (.may_f h1 (.may_f h2 (.may_t h3 (.bind r1 (.bind (.take _ _ _) (.bind r2 (.bind (.take _ _ _) (.bind r3 .pure)))))))))
    ·rw[may_f h3]
     obtain⟨v,s1,f1,f2,f3,f4,r1⟩:=Ua hL ih s hs hm;obtain⟨s2,k,ys,e,g1,g2,g3,g4,g5,r2⟩:=amM hL (Ua hL ih) t v f4 s1 (by omega) f2;have hh:=hg (.may_f h1 (.may_f h2 (.may_f h3 (.bind r1 r2))));rcases g2 with⟨rfl,rfl,rfl⟩|⟨rfl,B,ks,rfl,g6,rfl⟩
     ·simp at g1
      simp[f1];simp[g1];exact bE.of _ _ s2 e (by simp) g4 (by omega) g3 hh
     ·simp at g1
      simp[f1];simp[g1];exact bE.of (enc:=eH) _ [iv 5,sv eB,iv 0,iv 0,sv eB,iv 0,aj,.rows B,aj,aj,iv t.at_] s2 (iP 5 eB 0 ks t.at_) (by simp[g6.wd,exs]) g4 (by omega) g3 hh
theorem alc{n:Nat}(ih:lM L n (qOp L) eH Ex.Ok (fI L)):∀(m:Nat) (s:St) (ops:List Tk) (l:List Ex),mu L s≤m→m≤n→s.a≤L.length→ops.length+m≤2000000→l.length=ops.length+1→(∀x∈l,x.Ok)→∃(s':St) (ops':List Tk) (l':List Ex),
  ev (Qm (ops.map Tk.cells) ((ops.map Tk.text).map fun x=>[sv x]) (l.map Ex.cells) (aU L) (iv s.a) (iv s.lv) (iv s.e) (iv s.w))=some (1,dh L s' [iv 0,sv eB,iv 0,iv 0,sv eB,iv 0,aj,aj,aj,aj,iv 0,strs (ops'.map Tk.text),aU ops',exs l'])∧
  l'.length=ops'.length+1∧(∀x∈l',x.Ok)∧s'.a≤L.length∧mu L s'≤mu L s∧ops'.length≤ops.length+m∧Gr (fun m=>pM L m l ops) s s' (l',ops'):=by
 intro m
 induction m with
 |zero=>
  intro s ops l hm hn hs hl h2 h3;have hk:(bg L s).kind≠5:=fun h=>by
   have:=aW (L:=L) (dO (L:=L) (s:=s) (by omega)).1;omega
  exact⟨s,ops,l,ay.of (by rw[I8];simp[fE,Tk.cells,hk,strs];exact⟨rfl,rfl⟩),h2,h3,hs,Nat.le_refl _,by omega,.fx (pM.eq_2 L l ops) (.kind_f hk .pure)⟩
 |succ m ihm=>
  intro s ops l hm hn hs hl h2 h3;by_cases hk:(bg L s).kind=5
  ·have he:=dO (L:=L) (s:=s) (by omega)
   have hp:=aW (L:=L) he.1;have t1:=aQ (L:=L) (k:=5) (x:=eB) (by decide) s;have t2:=aV (L:=L) (k:=5) (x:=eB) (by decide) hs;obtain⟨v,s1,f1,f2,f3,f4,r1⟩:=ih _ t2 (by omega);simp only[qOp,aO] at f1;obtain⟨s2,ops',l',g1,g3,g4,g5,g6,g7,r2⟩:=ihm s1 (ops++[aL L 5 eB s]) (l++[v]) (by omega) (by omega) f2 (by simp;omega) (by simp[h2]) (by
    intro x hx;rcases List.mem_append.1 hx with hx|hx
    ·exact h3 x hx
    ·rw[List.mem_singleton.1 hx];exact f4)
   have m1:(l++[v]).map Ex.cells=l.map Ex.cells++[eH v]:=by rw[List.map_append,List.map_cons,List.map_nil,Ex.cells_eq]
   have m2:(ops++[aL L 5 eB s]).map Tk.cells=ops.map Tk.cells++[[iv (aL L 5 eB s).kind,sv (aL L 5 eB s).text,iv (aL L 5 eB s).n,iv (aL L 5 eB s).at_]]:=by rw[List.map_append,List.map_cons,List.map_nil,Tk.cells]
   have m3:((ops++[aL L 5 eB s]).map Tk.text).map (fun x=>[sv x])=(ops.map Tk.text).map (fun x=>[sv x])++[[sv (aL L 5 eB s).text]]:=by rw[List.map_append,List.map_append,List.map_cons,List.map_nil,List.map_cons,List.map_nil]
   rw[m1,m2,m3] at g1;have a1:=fun k'=>aH (P:=PG) (d:=.fail) (k:=k') yT (PS ops) (c:=[iv (aL L 5 eB s).kind,sv (aL L 5 eB s).text,iv (aL L 5 eB s).n,iv (aL L 5 eB s).at_]) rfl (by simp) (by simp;omega) (by decide)
   have a2:=fun k'=>aH (P:=PG) (d:=.fail) (k:=k') KC (mr (ops.map Tk.text)) (c:=[sv (aL L 5 eB s).text]) rfl (by simp) (by simp;omega) (by decide)
   have a3:=fun k'=>aH (P:=PG) (d:=.fail) (k:=k') nQ (l7 l) (c:=eH v) rfl (by simp) (by simp;omega) (by decide)
   refine⟨s2,ops',l',ay.of ?_,g3,g4,g5,by omega,by simp at g7;omega,.fx (pM.eq_2 L l ops) (.kind_t hk (.bind (.take _ _ _) (.bind r1 r2)))⟩;rw[I8];simp[fE,Tk.cells,hk,-List.map_map];simp[aK hL (k:=5) (by decide),Tk.cells,-List.map_map];rw[a1,a2];simp[f1,-List.map_map];simp[a3,g1,-List.map_map]
  ·exact⟨s,ops,l,ay.of (by rw[I8];simp[fE,Tk.cells,hk,strs];exact⟨rfl,rfl⟩),h2,h3,hs,Nat.le_refl _,by omega,.fx (pM.eq_2 L l ops) (.kind_f hk .pure)⟩
theorem xe(ops:List Tk):dw (ops.map Tk.text)=AX ops:=by
 funext i;unfold dw AX opAt;rw[List.getElem?_map];cases ops[i]?<;>rfl
theorem zH(V:Nat→Nat)(len:Nat):∀(n i k:Nat),iK V len n i=some k→k<len
 |0,i,k,h=>by rw[iK] at h;cases h
 |n+1,i,k,h=>by
  rw[iK] at h;split at h
  ·split at h
   ·cases h;assumption
   ·exact zH V len n _ k h
  ·cases h
omit hL in
theorem Gd(l:List Ex)(ops:List Tk)(hl:∀x∈l,x.Ok):∀m f to,(fQ l ops m f to).Ok:=by
 have h0:∀f,(ve l f).Ok:=fun f=>by
  unfold ve;cases h:l[f]? with
  |none=>exact zD
  |some x=>exact hl x (List.mem_of_getElem? h)
 intro m
 induction m with
 |zero=>intro f to;rw[fQ];exact h0 f
 |succ m ih=>
  intro f to;rw[fQ];split
  ·exact h0 f
  ·have h1:=ih f (jE (AX ops) to to (f+1) f)
   have h2:=ih (jE (AX ops) to to (f+1) f+1) to;simp only;unfold opE;split
   ·exact iR _ _ _ _ _ (by simp) (by simp[h1,h2])
   ·split
    ·exact iR _ _ _ _ _ (by simp) (by simp[h1,h2])
    ·exact iR _ _ _ _ _ (by simp) (by simpa using⟨iR _ _ _ _ _ (by simp) (by simpa using⟨iR _ _ _ _ _ (by simp) (by simp),h1⟩),h2⟩)
theorem aiF{n:Nat}(ih:lM L n (FR L) eH Ex.Ok (fK L)):lM L (n+1) (FR L) eH Ex.Ok (fK L):=
 lM.weak (q:=fun s=>acI (aU L) (iv s.a) (iv s.lv) (iv s.e) (iv s.w)) (fun s=>agc ev _ _ _ _ _) fun s hs hm=>by
  show bE L s eH Ex.Ok _ (body PG EE TT ev (acI (aU L) (iv s.a) (iv s.lv) (iv s.e) (iv s.w)));rw[alK];by_cases he:s.e=0
  ·have hp:=aW (L:=L) he
   have d1:=JB (L:=L) s;have d2:=Ez (L:=L) s;simp only[ap2,ap1,bA,bI];simp[eq_true he,OU];generalize hd:ic L s=s1 at *;have hs1:s1.a≤L.length:=by omega
   simp only[←d2];obtain⟨v,s2,f1,f2,f3,f4,r1⟩:=vZ hL ih s1 hs1 (by omega);simp[f1];by_cases hk:(bg L s2).kind=5
   ·have he2:=dO (L:=L) (s:=s2) (by omega)
    have hp2:=aW (L:=L) he2.1;have t1:=aQ (L:=L) (k:=5) (x:=eB) (by decide) s2;have t2:=aV (L:=L) (k:=5) (x:=eB) (by decide) f2;obtain⟨v2,s3,g1,g2,g3,g4,r2⟩:=vZ hL ih _ t2 (by omega);simp only[qOp,aO] at g1;have hm3:=iV L s3;obtain⟨s4,ops,l,k1,k3,k4,k5,k6,k7,r3⟩:=alc hL (vZ hL ih) (mu L s3) s3 [aL L 5 eB s2] [v,v2] (Nat.le_refl _) (by omega) g2 (by simp;omega) rfl (by simp[f4,g4]);have ro:Gr (fun m=>pM L m [v] []) s2 s4 (l,ops):=.fx (pM.eq_2 L [v] []) (.kind_t hk (.bind (.take _ _ _) (.bind r2 r3)));have m1:[v,v2].map Ex.cells=[eH v]++[eH v2]:=by rw[List.map_cons,List.map_cons,List.map_nil,Ex.cells_eq,Ex.cells_eq];rfl
    rw[m1] at k1;have hr:Raw 11 [eH v] ([v].map Ex.cells):=.one (by rw[Ex.cells_eq];simp) rfl (by simp);have a3:=fun k'=>aH (P:=PG) (d:=.fail) (k:=k') nQ hr (c:=eH v2) rfl (by simp) (by simp) (by decide)
    have hc:ev (GX [eH v] (aU L) (iv s2.a) (iv s2.lv) (iv s2.e) (iv s2.w))=some (1,dh L s4 [iv 0,sv eB,iv 0,iv 0,sv eB,iv 0,aj,aj,aj,aj,iv 0,strs (ops.map Tk.text),aU ops,exs l]):=ay.of (by
     rw[SL];simp[Tk.cells] at k1;simp[fE,Tk.cells,hk];simp[aK hL (k:=5) (by decide),Tk.cells];simp[g1];simp[a3,k1])
    have hol:ops.length≤2000000:=by simp at k7;omega
    have c1:=TJ (ops.map Tk.text) (by simp;omega);rw[xe hL,List.length_map] at c1;simp[hc];refine dF (fun he4=>?_) (fun he4=>?_)
    ·simp[c1]
     unfold clI;cases hcl:iK (AX ops) ops.length ops.length 0 with
     |some i=>
      have hi:i<ops.length:=zH hL _ _ _ _ _ hcl;have he4':s4.e=0:=by simpa using he4
      simp[dY (xL hi),aaF];exact⟨0,[iv 0,sv eB,iv 0,iv 0,sv eB,iv 0,aj,aj,aj,aj,iv 0],iB 112 (opAt ops i).at_ s4,ex0,by simp only[dh,aeV,TA],by simp,by rw[Jt];exact k5,by rw[Js (by decide)];omega,zD,
       .fx (fK.eq_2 L) (.deepy hd (.bind r1 (.bind ro (.clash_t hcl _))) rfl rfl (fun e=>by simp[iB,he4'] at e))⟩
     |none=>
      obtain⟨ys,b1,b2⟩:=TK l ops hol k3 ops.length 0 ops.length (Nat.zero_le _) (Nat.le_refl _) (by omega);obtain⟨A,B,C,D,rfl,hx⟩:=id b2;simp at b1;simp[b1];exact bE.of _ _ (Kb s4) _ b2.wd k5 (by rw[rW];omega) (Gd l ops k4 _ _ _) (.fx (fK.eq_2 L) (.deepx hd (.bind r1 (.bind ro (.clash_n hcl)))))
    ·have he4':s4.e≠0:=by simpa using he4
     exact bE.of _ _ s4 ex0 (by simp) k5 (by omega) zD (.fx (fK.eq_2 L) (.deepy hd (.bind r1 (.bind ro (.fault he4' rfl rfl))) rfl rfl (fun e=>absurd e he4')))
   ·have ro:Gr (fun m=>pM L m [v] []) s2 s2 ([v],[]):=.fx (pM.eq_2 L [v] []) (.kind_f hk .pure)
    have hc:ev (GX [eH v] (aU L) (iv s2.a) (iv s2.lv) (iv s2.e) (iv s2.w))=some (0,dh L s2 [iv 0,sv eB,iv 0,iv 0,sv eB,iv 0,aj,aj,aj,aj,iv 0,aj,aj,.rows [eH v]]):=ay.of (by
     rw[SL];simp[fE,hk,Tk.cells])
    have c5:ev (q89 (.rows []))=some (0,[iv (-1)]):=TJ [] (by simp);simp[hc];refine dF (fun he4=>?_) (fun he4=>?_)
    ·obtain⟨ys,b1,b2⟩:=TK [v] [] (by simp) rfl 0 0 0 (Nat.le_refl _) (Nat.le_refl _) (by omega)
     have b4:ev (acE (.rows [eH v]) (.rows []) (iv 0) (iv 0))=some (0,ys):=by rw[←fe];exact b1
     obtain⟨A,B,C,D,rfl,hx⟩:=id b2;simp[c5,b4];exact bE.of _ _ (Kb s2) _ b2.wd f2 (by rw[rW];omega) (Gd [v] [] (by simpa using f4) _ _ _) (.fx (fK.eq_2 L) (.deepx hd (.bind r1 (.bind ro (.clash_n rfl)))))
    ·have he4':s2.e≠0:=by simpa using he4
     exact bE.of _ _ s2 ex0 (by simp) f2 (by omega) zD (.fx (fK.eq_2 L) (.deepy hd (.bind r1 (.bind ro (.fault he4' rfl rfl))) rfl rfl (fun e=>absurd e he4')))
  ·simp[he]
   exact bE.of _ _ s ex0 (by simp) hs (by have:=Iy (L:=L) he;omega) zD (.fault he rfl rfl)
theorem TD:∀n,lM L n (FR L) eH Ex.Ok (fK L)
 |0=>fun s hs hm=>by
   have he:s.e≠0:=fun he=>by have:=aW (L:=L) he;omega
   refine⟨ex0,s,ay.of ?_,hs,by omega,zD,.fault he rfl rfl⟩;rw[agc,ay.of (q:=acI (aU L) (iv s.a) (iv s.lv) (iv s.e) (iv s.w)) (r:=(0,dh L s [iv 0,sv eB,iv 0,iv 0,sv eB,iv 0,aj,aj,aj,aj,iv 0])) (by rw[alK];simp[he])];simp[gX,dh]
 |n+1=>aiF hL (TD n)
theorem qz(n:Nat):lM L n (yL L) fZ Bd.Ok (AO L):=(bind_ok hL (TD hL n)).mono (Nat.le_succ _)
end
end Go.Proofs.YtijcobeebaceoaaGreatDoor
