/- Joined texts. -/
import Derived.Test.YtijcobeebaceoaaGreatDoorBaf
set_option linter.all false
namespace Go.Proofs.YtijcobeebaceoaaGreatDoor
open Go.RowKit
set_option maxRecDepth 10000
def Cn.Ok(x:Cn):Prop:=x.args.length≤dF∧∀y∈x.args,y.Ok
def Dt.Ok(x:Dt):Prop:=x.params.length≤dF∧(x.cons.length≤dF∧∀y∈x.cons,y.Ok)∧x.deriv.length≤dF
abbrev qUp(L:List Tk)(s:St):Q:=afI (aW L) (iv s.a) (iv s.lv) (iv s.e) (iv s.w)
abbrev qDt(L:List Tk)(s:St):Q:=afT (aW L) (iv s.a) (iv s.lv) (iv s.e) (iv s.w)
abbrev dtC(x:Dt):List PV:=[sv x.name,strs x.params,qb x.cons,strs x.deriv,iv x.at_]
theorem agT:iY PG 74 3 48:=iY.of (by kernel_rfl)
@[simp] theorem ajD:strs []=.rows []:=rfl
theorem Vw{α:Type}{p:α→Prop}{x:α}{l:List α}(h1:p x)(h2:∀y∈l,p y):∀y∈x::l,p y:=fun y hy=>by
 rcases List.mem_cons.1 hy with rfl|hy
 ·exact h1
 ·exact h2 y hy
@[simp] theorem an0:qb []=.rows []:=rfl
section
variable{L:List Tk}(hL:L.length≤1000000)
include hL
theorem aor{n:Nat}:∀(m:Nat) (s:St) (l:List ByteArray),mu L s≤m→m≤n→s.a≤L.length→l.length+m≤2000000→∃(s':St) (l':List ByteArray),
  ev (Qa (l.map fun x=>[sv x]) (aW L) (iv s.a) (iv s.lv) (iv s.e) (iv s.w))=some (1,eU L s' [strs (l++l')])∧s'.a≤L.length∧mu L s'≤mu L s∧l'.length≤mu L s-mu L s'∧s'.lv=s.lv∧Gr (fun m=>o5 L m l) s s' (l++l'):=by
 intro m
 induction m with
 |zero=>
  intro s l hm hn hs hl;have hb:iM L ⟨#[44]⟩ s=false:=by
   cases hb:iM L ⟨#[44]⟩ s with
   |false=>rfl
   |true=>have:=bE (L:=L) (iy hb).1;omega
  exact⟨s,[],ax.of (by rw[Iy];simp[bM hL,hb,may_f hb,strs]),hs,Nat.le_refl _,by simp,rfl,(Gr.fx (o5.eq_2 L l) (.may_f hb .pure)).eq (by simp)⟩
 |succ m ihm=>
  intro s l hm hn hs hl;cases hb:iM L ⟨#[44]⟩ s with
  |false=>exact⟨s,[],ax.of (by rw[Iy];simp[bM hL,hb,may_f hb,strs]),hs,Nat.le_refl _,by simp,rfl,(Gr.fx (o5.eq_2 L l) (.may_f hb .pure)).eq (by simp)⟩
  |true=>
   have hp:=bE (L:=L) (iy hb).1;obtain⟨b1,b2⟩:=bY hb;have t1:=aQ (L:=L) (k:=2) (x:=eB) (by decide) s.up;have t2:=bC (L:=L) (k:=2) (x:=eB) (by decide) b2;obtain⟨s2,l',g1,g2,g3,g4,g5,r2⟩:=ihm (au L 2 eB s.up) (l++[(aT L 2 eB s.up).text]) (by omega) (by omega) t2 (by simp;omega);rw[List.map_append,List.map_cons,List.map_nil,List.append_assoc] at g1;simp only[aU,bD] at g1 g5;have ha:=fun k'=>aN (P:=PG) (d:=.fail) (k:=k') J7 (l9 l) (c:=[sv (aT L 2 eB s.up).text]) rfl (by simp) (by simp;omega) (by decide)
   refine⟨s2,(aT L 2 eB s.up).text::l',ax.of ?_,g2,by omega,by simp;omega,g5,(Gr.fx (o5.eq_2 L l) (.may_t hb (.bind (.take _ _ _) r2))).eq (by simp)⟩;have hz:St.mk s.up.a s.lv s.e s.w=s.up:=by rw[←bD s,←cZ s,←dG s]
   rw[Iy];simp[bM hL,hb,may_t hb,bD,cZ,dG];simp[hz,aR hL (k:=2) (by decide),Tk.cells,bD];simp[ha,g1,g5]
theorem Fq(s:St)(hs:s.a≤L.length):∃v s',ev (qUp L s)=some (0,eU L s' [strs v])∧s'.a≤L.length∧mu L s'≤mu L s-1∧v.length≤10000000∧s'.lv=s.lv∧Gr (fun m=>jR L m) s s' v:=by
 have t1:=aQ (L:=L) (k:=2) (x:=eB) (by decide) s;have t2:=bC (L:=L) (k:=2) (x:=eB) (by decide) hs;have hg:∀{s' v},Gr (fun m=>o5 L m [(aT L 2 eB s).text]) (au L 2 eB s) s' v→Gr (fun m=>jR L m) s s' v:=fun hr=>.tx (fun _=>rfl) (.bind (.take _ _ _) hr)
 have hl1:(au L 2 eB s).lv=s.lv:=aU _ _ s;generalize h1:au L 2 eB s=s1 at *;generalize h2:aT L 2 eB s=t at *;cases hb:iM L ⟨#[44]⟩ s1 with
 |false=>
  have hc:ev (Gz [[sv t.text]] (aW L) (iv s1.a) (iv s1.lv) (iv s1.e) (iv s1.w))=some (0,eU L s1 [.rows [[sv t.text]]]):=ax.of (by rw[SL];simp[bM hL,hb,may_f hb]);have hq:ev (ahD (aW L) (iv s.a) (iv s.lv) (iv s.e) (iv s.w))=some (0,eU L s1 [.rows [[sv t.text]]]):=ax.of (by
   rw[alT];simp[aR hL (k:=2) (by decide),Tk.cells,h1,h2];simp only[←hl1];simp[hc])
  exact⟨[t.text],s1,ax.of (by rw[af7 ev,hq];simp[gN,eU,bG,lH,strs]),t2,t1,by simp,hl1,hg ((Gr.fx (o5.eq_2 L _) (.may_f hb .pure)))⟩
 |true=>
  have hp:=bE (L:=L) (iy hb).1;obtain⟨b1,b2⟩:=bY hb;have t3:=aQ (L:=L) (k:=2) (x:=eB) (by decide) s1.up;have t4:=bC (L:=L) (k:=2) (x:=eB) (by decide) b2;have hml:=kV L (au L 2 eB s1.up);obtain⟨s2,l',g1,g2,g3,g4,g5,r2⟩:=aor hL (mu L (au L 2 eB s1.up)) (au L 2 eB s1.up) [t.text,(aT L 2 eB s1.up).text] (Nat.le_refl _) (Nat.le_refl _) t4 (by simp;omega);have hr:Raw 1 [[sv t.text]] ([t.text].map fun x=>[sv x]):=l9 [t.text];have ha:=fun k'=>aN (P:=PG) (d:=.fail) (k:=k') J7 hr (c:=[sv (aT L 2 eB s1.up).text]) rfl (by simp) (by simp) (by decide)
  have hz:St.mk s1.up.a s1.lv s1.e s1.w=s1.up:=by rw[←bD s1,←cZ s1,←dG s1]
  simp only[aU,bD] at g1 g5;have hc:ev (Gz [[sv t.text]] (aW L) (iv s1.a) (iv s1.lv) (iv s1.e) (iv s1.w))=some (1,eU L s2 [strs (t.text::(aT L 2 eB s1.up).text::l')]):=ax.of (by
   rw[SL];simp[bM hL,hb,may_t hb,bD,cZ,dG];simp[hz,aR hL (k:=2) (by decide),Tk.cells,bD];simp at g1;simp[ha,g1,g5])
  have hq:ev (ahD (aW L) (iv s.a) (iv s.lv) (iv s.e) (iv s.w))=some (0,eU L s2 [strs (t.text::(aT L 2 eB s1.up).text::l')]):=ax.of (by
   rw[alT];simp[aR hL (k:=2) (by decide),Tk.cells,h1,h2];simp only[←hl1];simp[hc,g5])
  exact⟨t.text::(aT L 2 eB s1.up).text::l',s2,ax.of (by rw[af7 ev,hq];simp[gN,eU]),g2,by omega,by simp;omega,g5.trans hl1,hg ((Gr.fx (o5.eq_2 L _) (.may_t hb (.bind (.take _ _ _) r2))))⟩
theorem ala{n:Nat}(nm:ByteArray)(a:Int):∀(m:Nat) (s:St) (l:List ByteArray),mu L s≤m→m≤n→s.a≤L.length→l.length+m≤2000000→∃(s':St) (l':List ByteArray),
  ev (Rb (aW L) (iv s.a) (iv s.lv) (iv s.e) (iv s.w) (sv nm) (l.map fun x=>[sv x]) (iv a))=some (1,eU L s' [sv nm,strs (l++l'),aF,aF,iv a,sv eB,aF,aF,aF,iv 0])∧s'.a≤L.length∧mu L s'≤mu L s∧l'.length≤mu L s-mu L s'∧s'.lv=s.lv∧Gr (fun m=>j5 L m l) s s' (l++l'):=by
 intro m
 induction m with
 |zero=>
  intro s l hm hn hs hl;have hk:(aX L s).kind≠1:=fun h=>by
   have:=bE (L:=L) (dI (L:=L) (s:=s) (by omega)).1;omega
  exact⟨s,[],ax.of (by rw[IQ];simp[fu,Tk.cells,hk,strs]),hs,Nat.le_refl _,by simp,rfl,(Gr.fx (j5.eq_2 L l) (.kind_f hk .pure)).eq (by simp)⟩
 |succ m ihm=>
  intro s l hm hn hs hl;by_cases hk:(aX L s).kind=1
  ·have he:=dI (L:=L) (s:=s) (by omega)
   have hp:=bE (L:=L) he.1;have t1:=aQ (L:=L) (k:=1) (x:=eB) (by decide) s;have t2:=bC (L:=L) (k:=1) (x:=eB) (by decide) hs;obtain⟨s2,l',g1,g2,g3,g4,g5,r2⟩:=ihm (au L 1 eB s) (l++[(aT L 1 eB s).text]) (by omega) (by omega) t2 (by simp;omega);rw[List.map_append,List.map_cons,List.map_nil,List.append_assoc] at g1;simp only[aU] at g1 g5;have ha:=fun k'=>aN (P:=PG) (d:=.fail) (k:=k') J7 (l9 l) (c:=[sv (aT L 1 eB s).text]) rfl (by simp) (by simp;omega) (by decide)
   refine⟨s2,(aT L 1 eB s).text::l',ax.of ?_,g2,by omega,by simp;omega,g5,(Gr.fx (j5.eq_2 L l) (.kind_t hk (.bind (.take _ _ _) r2))).eq (by simp)⟩;rw[IQ];simp[fu,Tk.cells,hk];simp[aR hL (k:=1) (by decide),Tk.cells];simp[ha,g1,g5]
  ·exact⟨s,[],ax.of (by rw[IQ];simp[fu,Tk.cells,hk,strs]),hs,Nat.le_refl _,by simp,rfl,(Gr.fx (j5.eq_2 L l) (.kind_f hk .pure)).eq (by simp)⟩
theorem alb(nm:ByteArray)(a:Int)(s:St)(hs:s.a≤L.length):∃(s':St) (l':List ByteArray),
  ((l'=[]∧ev (GN (aW L) (iv s.a) (iv s.lv) (iv s.e) (iv s.w) (sv nm) (iv a))=some (0,eU L s' [sv nm,aF,aF,aF,iv a,sv eB,aF,aF,aF,iv 0]))∨
   ∃x xs,l'=x::xs∧ev (GN (aW L) (iv s.a) (iv s.lv) (iv s.e) (iv s.w) (sv nm) (iv a))=some (1,eU L s' [sv nm,strs l',aF,aF,iv a,sv eB,aF,aF,aF,iv 0]))∧s'.a≤L.length∧mu L s'≤mu L s∧l'.length≤10000000∧s'.lv=s.lv∧Gr (fun m=>j5 L m []) s s' l':=by
 by_cases hk:(aX L s).kind=1
 ·have he:=dI (L:=L) (s:=s) (by omega)
  have hp:=bE (L:=L) he.1;have t1:=aQ (L:=L) (k:=1) (x:=eB) (by decide) s;have t2:=bC (L:=L) (k:=1) (x:=eB) (by decide) hs;have hml:=kV L (au L 1 eB s);obtain⟨s2,l',g1,g2,g3,g4,g5,r2⟩:=ala hL nm a (mu L (au L 1 eB s)) (au L 1 eB s) [(aT L 1 eB s).text] (Nat.le_refl _) (Nat.le_refl _) t2 (by simp;omega);simp at g1;simp only[aU] at g5;refine⟨s2,(aT L 1 eB s).text::l',.inr ⟨_,_,rfl,ax.of ?_⟩,g2,by omega,by simp;omega,g5,.fx (j5.eq_2 L _) (.kind_t hk (.bind (.take _ _ _) r2))⟩;rw[Tj];simp[fu,Tk.cells,hk];simp[aR hL (k:=1) (by decide),Tk.cells];simp[g1,g5]
 ·exact⟨s,[],.inl ⟨rfl,ax.of (by rw[Tj];simp[fu,Tk.cells,hk])⟩,hs,Nat.le_refl _,by simp,rfl,.fx (j5.eq_2 L _) (.kind_f hk .pure)⟩
def dA(b:Bool)(p:PV):PV:=if b=true then p else nS
def kA:Bool→Bool→Bool→Nat
 |false,false,b=>if b=true then 1 else 0
 |false,true,b=>if b=true then 3 else 1
 |true,false,b=>if b=true then 2 else 0
 |true,true,b=>if b=true then 1 else 0
section
omit hL
variable(L)(nm:ByteArray)(a:Int)(s:St)
section
variable(dn:ByteArray)(da:Int)(PR CR:List (List PV))
def Nj(l:List (List PV)):Bool→Bool→Q
 |false,false=>QX (aW L) (iv s.a) (iv s.lv) (iv s.e) (iv s.w) (sv nm) l (iv a) (sv dn) (iv da)
 |false,true=>QV (aW L) (iv s.a) (iv s.lv) (iv s.e) (iv s.w) (sv nm) l (iv a) (sv dn) CR (iv da)
 |true,false=>QW (aW L) (iv s.a) (iv s.lv) (iv s.e) (iv s.w) (sv nm) l (iv a) (sv dn) PR (iv da)
 |true,true=>QU (aW L) (iv s.a) (iv s.lv) (iv s.e) (iv s.w) (sv nm) l (iv a) (sv dn) PR CR (iv da)
def UG:Bool→Bool→Q
 |false,false=>Q6 (aW L) (iv s.a) (iv s.lv) (iv s.e) (iv s.w) (sv nm) (iv a) (sv dn) (iv da)
 |false,true=>QZ (aW L) (iv s.a) (iv s.lv) (iv s.e) (iv s.w) (sv nm) (iv a) (sv dn) CR (iv da)
 |true,false=>Q5 (aW L) (iv s.a) (iv s.lv) (iv s.e) (iv s.w) (sv nm) (iv a) (sv dn) PR (iv da)
 |true,true=>QY (aW L) (iv s.a) (iv s.lv) (iv s.e) (iv s.w) (sv nm) (iv a) (sv dn) PR CR (iv da)
end
variable(PR:List (List PV))
def qC2:Bool→Q
 |false=>Ra (aW L) (iv s.a) (iv s.lv) (iv s.e) (iv s.w) (sv nm) (iv a)
 |true=>Q9 (aW L) (iv s.a) (iv s.lv) (iv s.e) (iv s.w) (sv nm) PR (iv a)
def qC3(es:List (List PV)):Bool→Q
 |false=>Q8 (aW L) (iv s.a) (iv s.lv) (iv s.e) (iv s.w) (sv nm) es (iv a)
 |true=>Q7 (aW L) (iv s.a) (iv s.lv) (iv s.e) (iv s.w) (sv nm) PR es (iv a)
end
section
variable(nm:ByteArray)(a:Int)
section
variable(dn:ByteArray)(da:Int)(PR CR:List (List PV))(p c:Bool)
theorem amH{n:Nat}:∀(m:Nat) (s:St) (l:List Ty),mu L s≤m→m≤n→s.a≤L.length→l.length+m≤2000000→∃(s':St) (l':List Ty),
  ev (Nj L nm a s dn da PR CR (l.map Ty.cells) p c)=some (kA p c true,eU L s' [sv nm,bH (l++l'),iv a,sv dn,dA p (.rows PR),dA c (.rows CR),aF,iv da,sv eB,aF,aF,aF,iv 0])∧
  s'.a≤L.length∧mu L s'≤mu L s∧(∀t∈l',t.Ok)∧l'.length≤mu L s-mu L s'∧Gr (fun m=>cu L m l) s s' (l++l'):=by
 intro m
 induction m with
 |zero=>
  intro s l hm hn hs hl;obtain⟨b,h1,h2,h3⟩:=iI (L:=L) (k:=0) (.inl rfl) s;cases b with
  |true=>have:=bE (L:=L) (h2 rfl).1;omega
  |false=>exact⟨s,[],ax.of (by cases p<;>cases c<;>(first|rw[Nj,IJ]|rw[Nj,IG]|rw[Nj,II]|rw[Nj,IE])<;>simp[h1,bH,kA,dA]),hs,Nat.le_refl _,(fun t ht=>by cases ht),by simp,(Gr.fx (fun m=>iG L m l) (.st_f (h3 rfl) .pure)).eq (by simp)⟩
 |succ m ih=>
  intro s l hm hn hs hl;obtain⟨b,h1,h2,h3⟩:=iI (L:=L) (k:=0) (.inl rfl) s;cases b with
  |false=>exact⟨s,[],ax.of (by cases p<;>cases c<;>(first|rw[Nj,IJ]|rw[Nj,IG]|rw[Nj,II]|rw[Nj,IE])<;>simp[h1,bH,kA,dA]),hs,Nat.le_refl _,(fun t ht=>by cases ht),by simp,(Gr.fx (fun m=>iG L m l) (.st_f (h3 rfl) .pure)).eq (by simp)⟩
  |true=>
   have hp:=bE (L:=L) (h2 rfl).1;obtain⟨v,s1,e1,e2,e3,e4,r1⟩:=zu hL (m+1) s hs (by omega);obtain⟨s2,l',g1,g2,g3,g4,g5,r2⟩:=ih s1 (l++[v]) (by omega) (by omega) e2 (by simp;omega);refine⟨s2,v::l',ax.of ?_,g2,by omega,?_,by simp;omega,(Gr.fx (fun m=>iG L m l) (.st_t (h2 rfl).2.2 (.bind r1 r2))).eq (by simp)⟩
   ·rw[List.map_append,List.map_cons,List.map_nil,Ty.cells_eq v,List.append_assoc] at g1
    have ha:=fun k'=>aN (P:=PG) (d:=.fail) (k:=k') abU (wZ l) (c:=rP v) rfl (by simp) (by simp;omega) (by decide)
    clear r1 r2 ih;cases p<;>cases c
    all_goals
     simp only[Nj] at g1
     (first|rw[Nj,IJ]|rw[Nj,IG]|rw[Nj,II]|rw[Nj,IE])
     simp[h1,e1,ha,g1,dA]
   ·intro t ht
    rcases List.mem_cons.1 ht with rfl|ht
    ·exact e4
    ·exact g4 t ht
theorem agn(s:St)(hs:s.a≤L.length):∃(s':St) (l':List Ty),
  ev (UG L nm a s dn da PR CR p c)=some (kA p c (!l'.isEmpty),eU L s' [sv nm,dA (!l'.isEmpty) (bH l'),iv a,sv dn,dA p (.rows PR),dA c (.rows CR),aF,iv da,sv eB,aF,aF,aF,iv 0])∧
  s'.a≤L.length∧mu L s'≤mu L s∧(∀t∈l',t.Ok)∧l'.length≤10000000∧Gr (fun m=>cu L m []) s s' l':=by
 obtain⟨b,h1,h2,h3⟩:=iI (L:=L) (k:=0) (.inl rfl) s;cases b with
 |false=>exact⟨s,[],ax.of (by cases p<;>cases c<;>(first|rw[UG,Td]|rw[UG,Ta]|rw[UG,Tc]|rw[UG,S9])<;>simp[h1,kA,dA]),hs,Nat.le_refl _,(fun t ht=>by cases ht),by simp,.fx (fun m=>iG L m []) (.st_f (h3 rfl) .pure)⟩
 |true=>
  have hp:=bE (L:=L) (h2 rfl).1;obtain⟨v,s1,e1,e2,e3,e4,r1⟩:=zu hL (mu L s) s hs (Nat.le_refl _);have hml:=kV L s1;obtain⟨s2,l',g1,g2,g3,g4,g5,r2⟩:=amH hL nm a dn da PR CR p c (mu L s1) s1 [v] (Nat.le_refl _) (Nat.le_refl _) e2 (by simp;omega);refine⟨s2,v::l',ax.of ?_,g2,by omega,?_,by simp;omega,.fx (fun m=>iG L m []) (.st_t (h2 rfl).2.2 (.bind r1 r2))⟩
  ·rw[List.map_cons,List.map_nil,Ty.cells_eq v] at g1
   clear r1 r2;cases p<;>cases c
   all_goals
    simp only[Nj] at g1
    (first|rw[UG,Td]|rw[UG,Ta]|rw[UG,Tc]|rw[UG,S9])
    simp[h1,e1,g1,kA,dA]
  ·intro t ht
   rcases List.mem_cons.1 ht with rfl|ht
   ·exact e4
   ·exact g4 t ht
end
variable(PR:List (List PV))(p:Bool)
theorem amz{n:Nat}:∀(m:Nat) (s:St) (es:List (List PV)) (l:List Cn),Raw 3 es (l.map Cn.cells)→mu L s≤m→m≤n→s.a≤L.length→l.length+m≤2000000→s.e=0→∃(s':St) (es':List (List PV)) (l':List Cn),
  ev (qC3 L nm a s PR es p)=some (1,eU L s' [sv nm,dA p (.rows PR),.rows es',aF,iv a,sv eB,aF,aF,aF,iv 0])∧Raw 3 es' ((l++l').map Cn.cells)∧
  s'.a≤L.length∧mu L s'≤mu L s∧(∀t∈l',t.Ok)∧l'.length≤mu L s-mu L s'∧Gr (fun m=>iV L m l) s s' (l++l'):=by
 intro m
 induction m with
 |zero=>
  intro s es l hr hm hn hs hl he;have:=bE (L:=L) he;omega
 |succ m ihm=>
  intro s es l hr hm hn hs hl he;have hp:=bE (L:=L) he;have hln:=hr.len;rw[List.length_map] at hln;have t1:=aQ (L:=L) (k:=2) (x:=eB) (by decide) s;have t2:=bC (L:=L) (k:=2) (x:=eB) (by decide) hs;obtain⟨s2,al,hc,g2,g3,g4,g5,r1⟩:=agn hL (aT L 2 eB s).text (aT L 2 eB s).at_ nm a PR es p true (au L 2 eB s) t2;have hx:(Cn.mk (aT L 2 eB s).text al (aT L 2 eB s).at_).Ok:=⟨by unfold dF;simp only;omega,g4⟩;obtain⟨kd,hkd⟩:∃kd,kd=dA (!al.isEmpty) (bH al):=⟨_,rfl⟩;have hk:kd=aF∧al=[]∨kd=bH al:=by
   subst hkd;cases al with
   |nil=>exact .inl ⟨rfl,rfl⟩
   |cons x l=>exact .inr rfl
  have hns:NS kd:=by rcases hk with⟨rfl,_⟩|rfl<;>simp
  have k1:Raw 3 (es++[[sv (aT L 2 eB s).text,kd,iv (aT L 2 eB s).at_]]) ((l++[(Cn.mk (aT L 2 eB s).text al (aT L 2 eB s).at_)]).map Cn.cells):=by
   have:=hr.app (c:=[sv (aT L 2 eB s).text,kd,iv (aT L 2 eB s).at_]) (c':=(Cn.mk (aT L 2 eB s).text al (aT L 2 eB s).at_).cells) (by rcases hk with⟨rfl,rfl⟩|rfl<;>simp[Cn.cells]) rfl (by simp[hns]);simpa using this
  have k2:=fun k'=>aN (P:=PG) (d:=.fail) (k:=k') agT hr (c:=[sv (aT L 2 eB s).text,kd,iv (aT L 2 eB s).at_]) rfl (by simp[hns]) (by omega) (by decide)
  rw[←hkd] at hc;cases hb:iM L ⟨#[124]⟩ s2 with
  |true=>
   obtain⟨b1,b2⟩:=bY hb;have he2:s2.up.e=0:=(cZ s2).trans (iy hb).1;have hg:∀{s' v},Gr (fun m=>iV L m (l++[(Cn.mk (aT L 2 eB s).text al (aT L 2 eB s).at_)])) s2.up s' v→Gr (fun m=>iV L m l) s s' v:=fun hr=>.fx (iV.eq_2 L l) (.bind (.take _ _ _) (.bind r1 (.may_t hb hr)))
   obtain⟨s3,es',l',f1,f2,f3,f4,f5,f6,r3⟩:=ihm s2.up _ _ k1 (by omega) (by omega) b2 (by simp;omega) he2;refine⟨s3,es',_::l',ax.of ?_,by simpa using f2,f3,by omega,Vw hx f5,by simp;omega,(hg r3).eq (by simp)⟩;clear hg r3 r1 ihm;cases p<;>cases hae:al.isEmpty
   all_goals
    simp only[hae,dA,Bool.not_true,Bool.not_false,if_true,if_false,Bool.false_eq_true] at hkd;subst hkd;simp only[hae,UG,kA,aU,Bool.not_true,Bool.not_false,if_true,if_false,Bool.false_eq_true] at hc;simp only[qC3,bD,cZ,dG] at f1
    (first|rw[qC3,Ti]|rw[qC3,Tf])
    simp[eq_true he];simp[aR hL (k:=2) (by decide),Tk.cells];simp[hc,dA];simp[k2];simp[bM hL,hb,may_t hb,bD,cZ,dG];simp[f1,dA]
  |false=>
   refine⟨s2,_,[_],ax.of ?_,k1,g2,by omega,by simpa using hx,by simp;omega,.fx (iV.eq_2 L l) (.bind (.take _ _ _) (.bind r1 (.may_f hb .pure)))⟩;clear r1 ihm;cases p<;>cases hae:al.isEmpty
   all_goals
    simp only[hae,dA,Bool.not_true,Bool.not_false,if_true,if_false,Bool.false_eq_true] at hkd;subst hkd;simp only[hae,UG,kA,aU,Bool.not_true,Bool.not_false,if_true,if_false,Bool.false_eq_true] at hc
    (first|rw[qC3,Ti]|rw[qC3,Tf])
    simp[eq_true he];simp[aR hL (k:=2) (by decide),Tk.cells];simp[hc,dA];simp[k2];simp[bM hL,hb,may_f hb]
    first
     |rw[ax.of ((Tg ev _ _ _ _ _ _ _ _).trans rfl)];rfl
     |rw[ax.of ((Te ev _ _ _ _ _ _ _ _ _).trans rfl)];rfl
theorem agj(s:St)(hs:s.a≤L.length):∃(s':St) (es':List (List PV)) (l':List Cn),
  ((l'=[]∧ev (qC2 L nm a s PR p)=some (0,eU L s' [sv nm,dA p (.rows PR),aF,aF,iv a,sv eB,aF,aF,aF,iv 0]))∨
   (Raw 3 es' (l'.map Cn.cells)∧ev (qC2 L nm a s PR p)=some (1,eU L s' [sv nm,dA p (.rows PR),.rows es',aF,iv a,sv eB,aF,aF,aF,iv 0])))∧
  s'.a≤L.length∧mu L s'≤mu L s∧(∀t∈l',t.Ok)∧l'.length≤mu L s∧Gr (fun m=>iV L m []) s s' l':=by
 by_cases he:s.e=0
 ·have hp:=bE (L:=L) he
  have t1:=aQ (L:=L) (k:=2) (x:=eB) (by decide) s;have t2:=bC (L:=L) (k:=2) (x:=eB) (by decide) hs;obtain⟨s2,al,hc,g2,g3,g4,g5,r1⟩:=agn hL (aT L 2 eB s).text (aT L 2 eB s).at_ nm a PR [] p false (au L 2 eB s) t2;have hx:(Cn.mk (aT L 2 eB s).text al (aT L 2 eB s).at_).Ok:=⟨by unfold dF;simp only;omega,g4⟩;obtain⟨kd,hkd⟩:∃kd,kd=dA (!al.isEmpty) (bH al):=⟨_,rfl⟩;have hk:kd=aF∧al=[]∨kd=bH al:=by
   subst hkd;cases al with
   |nil=>exact .inl ⟨rfl,rfl⟩
   |cons x l=>exact .inr rfl
  have hns:NS kd:=by rcases hk with⟨rfl,_⟩|rfl<;>simp
  have k1:Raw 3 [[sv (aT L 2 eB s).text,kd,iv (aT L 2 eB s).at_]] ([(Cn.mk (aT L 2 eB s).text al (aT L 2 eB s).at_)].map Cn.cells):=.one (c':=(Cn.mk (aT L 2 eB s).text al (aT L 2 eB s).at_).cells) (by rcases hk with⟨rfl,rfl⟩|rfl<;>simp[Cn.cells]) rfl (by simp[hns]);rw[←hkd] at hc;cases hb:iM L ⟨#[124]⟩ s2 with
  |true=>
   obtain⟨b1,b2⟩:=bY hb;have he2:s2.up.e=0:=(cZ s2).trans (iy hb).1;have hml:=kV L s2.up;obtain⟨s3,es',l',f1,f2,f3,f4,f5,f6,r3⟩:=amz hL nm a PR p (mu L s2.up) s2.up _ _ k1 (Nat.le_refl _) (Nat.le_refl _) b2 (by simp;omega) he2;refine⟨s3,es',_::l',.inr ⟨by simpa using f2,ax.of ?_⟩,f3,by omega,Vw hx f5,by simp;omega,.fx (iV.eq_2 L []) (.bind (.take _ _ _) (.bind r1 (.may_t hb r3)))⟩;clear r3 r1;cases p<;>cases hae:al.isEmpty
   all_goals
    simp only[hae,dA,Bool.not_true,Bool.not_false,if_true,if_false,Bool.false_eq_true] at hkd;subst hkd;simp only[hae,UG,kA,aU,Bool.not_true,Bool.not_false,if_true,if_false,Bool.false_eq_true] at hc;simp only[qC3,bD,cZ,dG] at f1
    (first|rw[qC2,IL]|rw[qC2,IK])
    simp[eq_true he];simp[aR hL (k:=2) (by decide),Tk.cells];simp[hc,dA];simp[bM hL,hb,may_t hb,bD,cZ,dG];simp[f1,dA]
  |false=>
   refine⟨s2,_,[_],.inr ⟨k1,ax.of ?_⟩,g2,by omega,by simpa using hx,by simp;omega,.fx (iV.eq_2 L []) (.bind (.take _ _ _) (.bind r1 (.may_f hb .pure)))⟩;clear r1;cases p<;>cases hae:al.isEmpty
   all_goals
    simp only[hae,dA,Bool.not_true,Bool.not_false,if_true,if_false,Bool.false_eq_true] at hkd;subst hkd;simp only[hae,UG,kA,aU,Bool.not_true,Bool.not_false,if_true,if_false,Bool.false_eq_true] at hc
    (first|rw[qC2,IL]|rw[qC2,IK])
    simp[eq_true he];simp[aR hL (k:=2) (by decide),Tk.cells];simp[hc,dA];simp[bM hL,hb,may_f hb]
    first
     |rw[ax.of ((Tg ev _ _ _ _ _ _ _ _).trans rfl)];rfl
     |rw[ax.of ((Te ev _ _ _ _ _ _ _ _ _).trans rfl)];rfl
 ·exact⟨s,[],[],.inl ⟨rfl,ax.of (by cases p<;>(first|rw[qC2,IL]|rw[qC2,IK])<;>simp[he,dA])⟩,hs,Nat.le_refl _,(by simp),by simp,.fault he rfl rfl⟩
end
theorem aeZ(n:Nat):lJ L (n+1) (qDt L) dtC Dt.Ok (fun m=>xQ L m):=
 lJ.weak (q:=fun s=>ahO (aW L) (iv s.a) (iv s.lv) (iv s.e) (iv s.w)) (fun s=>al5 ev _ _ _ _ _) fun s hs hm=>by
  show bF L s dtC Dt.Ok _ (body PG EE TT ev (ahO (aW L) (iv s.a) (iv s.lv) (iv s.e) (iv s.w)));rw[aqH];have t1:=aQ (L:=L) (k:=2) (x:=eB) (by decide) s;have t2:=bC (L:=L) (k:=2) (x:=eB) (by decide) hs;simp[aR hL (k:=2) (by decide),Tk.cells];have hl1:(au L 2 eB s).lv=s.lv:=aU _ _ s;generalize h1:au L 2 eB s=s1 at *;generalize h2:aT L 2 eB s=t at *;simp only[←hl1];have hml:=kV L s;obtain⟨s2,ps,hc,p2,p3,p4,p5,rp⟩:=alb hL t.text t.at_ s1 t2;have q1:=aQ (L:=L) (k:=7) (x:=⟨#[61]⟩) (by decide) s2;have q2:=bC (L:=L) (k:=7) (x:=⟨#[61]⟩) (by decide) p2;have hg0:∀{s3 s' l v},Gr (fun m=>iV L m []) (au L 7 ⟨#[61]⟩ s2) s3 l→Gr (fun m=>dP L WK (ak (aV L 7 Ki) fun _=>ak (jR L m) fun ds=>ak (aV L 7 BU) fun _=>aS ⟨t.text,ps,l,ds,t.at_⟩) (aS ⟨t.text,ps,l,[],t.at_⟩)) s3 s' v→Gr (fun m=>xQ L m) s s' v:=
   fun a b=>.tx (fun _=>rfl) (.bind (.takex h1 h2) (.bind rp (.bind (.take _ _ _) (.bind a b))))
  rcases hc with⟨hps,hc⟩|⟨x,xs,hps,hc⟩
  case' inl=>
   simp only[eU,p5] at hc;simp[hc];simp only[←p5]
   try simp[aR hL (k:=7) (by decide),Tk.cells]
   obtain⟨s3,es,l,hd,g2,g3,g4,g5,rc⟩:=agj hL t.text t.at_ [] false (au L 7 ⟨#[61]⟩ s2) q2;simp only[qC2,dA,aU,if_false,Bool.false_eq_true] at hd;have hg:∀{s' v},_→Gr (fun m=>xQ L m) s s' v:=fun {s' v}=>hg0 rc
   have hst : .rows []=strs ps:=by rw[hps];rfl
   rcases hd with⟨hl0,hd⟩|⟨hr,hd⟩
   all_goals simp[hd]
  case' inr=>
   simp only[eU,p5] at hc;simp[hc];simp only[←p5];have hst : .rows (ps.map fun x=>[sv x])=strs ps:=rfl;have hne:∀k:aK,isK .fail aF (strs ps) k=.fail:=fun k=>pV _ _ _
   try simp[aR hL (k:=7) (by decide),Tk.cells]
   rw[←hst];obtain⟨s3,es,l,hd,g2,g3,g4,g5,rc⟩:=agj hL t.text t.at_ (ps.map fun x=>[sv x]) true (au L 7 ⟨#[61]⟩ s2) q2;simp only[qC2,dA,aU,if_true] at hd;have hg:∀{s' v},_→Gr (fun m=>xQ L m) s s' v:=fun {s' v}=>hg0 rc
   rcases hd with⟨hl0,hd⟩|⟨hr,hd⟩
   all_goals simp[hd]
  all_goals
    simp[bM hL];refine dO (fun hb=>?_) (fun hb=>?_)
    ·obtain⟨b1,b2⟩:=bY hb
     rw[may_t hb];have d1:=aQ (L:=L) (k:=7) (x:=⟨#[40]⟩) (by decide) s3.up;have d2:=bC (L:=L) (k:=7) (x:=⟨#[40]⟩) (by decide) b2;obtain⟨us,s4,u1,u2,u3,u4,u5,ru⟩:=Fq hL _ d2;have d3:=aQ (L:=L) (k:=7) (x:=⟨#[41]⟩) (by decide) s4;have d4:=bC (L:=L) (k:=7) (x:=⟨#[41]⟩) (by decide) u2;simp only[qUp,aU,bD] at u1 u5;have hz:St.mk s3.up.a s3.lv s3.e s3.w=s3.up:=by rw[←bD s3,←cZ s3,←dG s3]
     try simp only[bD,cZ,dG]
     simp[hz,aR hL (k:=7) (by decide),Tk.cells,bD];simp only[eU,u5] at u1;simp[u1];simp only[←u5];simp[aR hL (k:=7) (by decide),Tk.cells];exact bF.ofT _ _ ⟨t.text,ps,l,us,t.at_⟩ (by first|simp[hst,hl0]|simp[hst,hr.wd,qb]) d4 (by omega) ⟨by unfold dF;simp;try omega,⟨by unfold dF;simp;try omega,g4⟩,by unfold dF;simp only;omega⟩ (hg (.may_t hb (.bind (.take _ _ _) (.bind ru (.bind (.take _ _ _) .pure)))))
    ·rw[may_f hb]
     exact bF.of _ _ s3 ⟨t.text,ps,l,[],t.at_⟩ (by first|simp[hst,hl0]|simp[hst,hr.wd,qb]) g2 (by omega) ⟨by unfold dF;simp;try omega,⟨by unfold dF;simp;try omega,g4⟩,by simp[dF]⟩ (hg (.may_f hb .pure))
end
set_option maxRecDepth 10000
def Md.Ok(x:Md):Prop:=x.t.Ok
def Cl.Ok(x:Cl):Prop:=x.supers.length≤dF∧(x.methods.length≤dF∧∀y∈x.methods,y.Ok)∧(x.defaults.length≤dF∧∀y∈x.defaults,y.Ok)
def Pd.Ok(x:Pd):Prop:=x.t.Ok
def It.Ok(x:It):Prop:=x.head.Ok∧(x.ctx.length≤dF∧∀y∈x.ctx,y.Ok)∧(x.binds.length≤dF∧∀y∈x.binds,y.Ok)
abbrev mdC(x:Md):List PV:=[sv x.name,iv x.t.kind,sv x.t.name,iv x.t.n,bH x.t.kids,iv x.at_]
abbrev OC(x:Cl):List PV:=[sv x.name,sv x.var,strs x.supers,mJ x.methods,bn x.defaults,iv x.at_]
abbrev Zf(x:It):List PV:=[sv x.cls,iv x.head.kind,sv x.head.name,iv x.head.n,bH x.head.kids,rQ x.ctx,bn x.binds,iv x.at_]
@[simp] theorem anA:mJ []=.rows []:=rfl
@[simp] theorem anm:rQ []=.rows []:=rfl
theorem ajJ:iY PG 78 6 80:=iY.of (by kernel_rfl)
theorem ajI:iY PG 82 5 72:=iY.of (by kernel_rfl)
theorem Pq(l:List Md):Raw 6 (l.map Md.cells) (l.map Md.cells):=.of l (fun x=>by simp[Md.cells]) (fun x=>rfl) (fun x=>by simp[Md.cells])
theorem acW(l:List Bd)(v:Bd):(l++[v]).map Bd.cells=l.map Bd.cells++[iP v]:=by rw[List.map_append,List.map_cons,List.map_nil,Bd.cells_eq]
theorem mapM(l:List Md)(v:Md):(l++[v]).map Md.cells=l.map Md.cells++[mdC v]:=by rw[List.map_append,List.map_cons,List.map_nil];rfl
theorem St.eta2(L:List Tk)(k k2:Int)(x x2:ByteArray)(s:St):St.mk (au L k x (au L k2 x2 s)).a s.lv (au L k x (au L k2 x2 s)).e (au L k x (au L k2 x2 s)).w=au L k x (au L k2 x2 s):=by
 have h:(au L k x (au L k2 x2 s)).lv=s.lv:=by simp
 generalize au L k x (au L k2 x2 s)=t at *;obtain⟨a,lv,e,w⟩:=t;cases h;rfl
abbrev qCl(L:List Tk)(s:St):Q:=afS (aW L) (iv s.a) (iv s.lv) (iv s.e) (iv s.w)
abbrev qIt(L:List Tk)(s:St):Q:=afR (aW L) (iv s.a) (iv s.lv) (iv s.e) (iv s.w)
section
variable{L:List Tk}(hL:L.length≤1000000)
include hL
section
variable(L)(nm var:ByteArray)(sup:PV)(a:Int)(s:St)
omit hL
def yJ(MR DR:List (List PV)):Bool→Bool→Q
 |false,false=>QT (aW L) (iv s.a) (iv s.lv) (iv s.e) (iv s.w) (sv nm) (sv var) sup (iv a)
 |false,true=>QS (aW L) (iv s.a) (iv s.lv) (iv s.e) (iv s.w) (sv nm) (sv var) sup DR (iv a)
 |true,false=>QR (aW L) (iv s.a) (iv s.lv) (iv s.e) (iv s.w) (sv nm) (sv var) sup MR (iv a)
 |true,true=>QO (aW L) (iv s.a) (iv s.lv) (iv s.e) (iv s.w) (sv nm) (sv var) sup MR DR (iv a)
def kC:Bool→Bool→Nat
 |false,c=>if c then 1 else 0
 |true,c=>if c then 3 else 2
def qC(ms:List Md)(ds:List Bd):Q:=yJ L nm var sup a s (ms.map Md.cells) (ds.map Bd.cells) (!ms.isEmpty) (!ds.isEmpty)
def fC(ms:List Md)(ds:List Bd):Rs:=(kC (!ms.isEmpty) (!ds.isEmpty),eU L s [sv nm,sv var,sup,dA (!ms.isEmpty) (mJ ms),dA (!ds.isEmpty) (bn ds),iv a,sv eB,sv eB,aF,aF,aF,iv 0])
end
section
variable(nm var:ByteArray)(sup:PV)(a:Int)(s:St)
section
variable(MR DR:List (List PV))(c0 c1:Bool)
theorem ai2(he:s.e≠0):ev (yJ L nm var sup a s MR DR c0 c1)=some (kC c0 c1,eU L s [sv nm,sv var,sup,dA c0 (.rows MR),dA c1 (.rows DR),iv a,sv eB,sv eB,aF,aF,aF,iv 0]):=by
 refine ax.of ?_;cases c0<;>cases c1
 all_goals
  (first|rw[yJ,Bh]|rw[yJ,Bg]|rw[yJ,Bf]|rw[yJ,Be])
  simp[he,kC,dA]
theorem ai4(he:s.e=0)(hb:iM L ⟨#[101,110,100]⟩ s=true):ev (yJ L nm var sup a s MR DR c0 c1)=some (kC c0 c1,eU L s.up [sv nm,sv var,sup,dA c0 (.rows MR),dA c1 (.rows DR),iv a,sv eB,sv eB,aF,aF,aF,iv 0]):=by
 refine ax.of ?_;cases c0<;>cases c1
 all_goals
  (first|rw[yJ,Bh]|rw[yJ,Bg]|rw[yJ,Bf]|rw[yJ,Be])
  simp[eq_true he];simp[bM hL,hb,may_t hb,bD,cZ,dG,kC,dA]
theorem ai5(hz:c1=false→DR=[]){cs:List (List PV)}(hr:Raw 13 DR cs)(hl:DR.length≤3000000)(s1:St)(v:Bd)(r:Rs)(he:s.e=0)(hb:iM L ⟨#[101,110,100]⟩ s=false)(hd:iM L ⟨#[100,101,102]⟩ s=true)(f1:ev (FC L s.up)=some (0,eU L s1 (iP v)))
  (hn:ev (yJ L nm var sup a (au L 7 ⟨#[59]⟩ s1) MR (DR++[iP v]) c0 true)=some r):ev (yJ L nm var sup a s MR DR c0 c1)=some r:=by
 have aD:=fun k'=>aN (P:=PG) (d:=.fail) (k:=k') wS hr (c:=iP v) rfl (by simp) (by omega) (by decide)
 refine ax.of ?_;simp only[FC,bD,cZ,dG] at f1;cases c0<;>cases c1
 all_goals
  (first|(obtain rfl:=hz rfl)|skip)
  simp only[yJ,aU,List.nil_append] at hn
  (first|rw[yJ,Bh]|rw[yJ,Bg]|rw[yJ,Bf]|rw[yJ,Be])
  simp[eq_true he];simp[bM hL,hb,may_f hb,hd,may_t hd,bD,cZ,dG];simp[f1]
  (first|simp[aD]|skip)
  simp[aR hL (k:=7) (by decide),Tk.cells];simp[hn]
theorem ai3(hz:c0=false→MR=[]){cs:List (List PV)}(hr:Raw 6 MR cs)(hl:MR.length≤3000000)(s1 s3:St)(t:Tk)(ty:Ty)(r:Rs)(he:s.e=0)(hb:iM L ⟨#[101,110,100]⟩ s=false)(hd:iM L ⟨#[100,101,102]⟩ s=false)(f1:ev (qNm L s)=some (0,eU L s1 t.cells))(h1:s1.lv=s.lv)(f2:ev (Vu L (au L 7 ⟨#[58]⟩ s1))=some (0,eU L s3 (rP ty)))
  (hn:ev (yJ L nm var sup a (au L 7 ⟨#[59]⟩ s3) (MR++[[sv t.text,iv ty.kind,sv ty.name,iv ty.n,bH ty.kids,iv t.at_]]) DR true c1)=some r):ev (yJ L nm var sup a s MR DR c0 c1)=some r:=by
 have aD:=fun k'=>aN (P:=PG) (d:=.fail) (k:=k') ajJ hr (c:=[sv t.text,iv ty.kind,sv ty.name,iv ty.n,bH ty.kids,iv t.at_]) rfl (by simp) (by omega) (by decide)
 refine ax.of ?_;simp only[Vu,aU] at f2;simp only[eU,h1] at f1;cases c0<;>cases c1
 all_goals
  (first|(obtain rfl:=hz rfl)|skip)
  simp only[yJ,aU,List.nil_append] at hn
  (first|rw[yJ,Bh]|rw[yJ,Bg]|rw[yJ,Bf]|rw[yJ,Be])
  simp[eq_true he];simp[bM hL,hb,may_f hb,hd,may_f hd];simp[f1,Tk.cells];simp only[←h1];simp[aR hL (k:=7) (by decide),Tk.cells];simp[f2]
  (first|simp[aD]|skip)
  simp[aR hL (k:=7) (by decide),Tk.cells];simp[hn]
end
variable(ms:List Md)(ds:List Bd)
theorem WZ(he:s.e≠0):ev (qC L nm var sup a s ms ds)=some (fC L nm var sup a s ms ds):=ai2 hL _ _ _ _ _ _ _ _ _ he
theorem ahv(he:s.e=0)(hb:iM L ⟨#[101,110,100]⟩ s=true):ev (qC L nm var sup a s ms ds)=some (fC L nm var sup a s.up ms ds):=ai4 hL _ _ _ _ _ _ _ _ _ he hb
theorem ahw(hl:ds.length≤3000000)(s1:St)(v:Bd)(r:Rs)(he:s.e=0)(hb:iM L ⟨#[101,110,100]⟩ s=false)(hd:iM L ⟨#[100,101,102]⟩ s=true)(f1:ev (FC L s.up)=some (0,eU L s1 (iP v)))(hn:ev (qC L nm var sup a (au L 7 ⟨#[59]⟩ s1) ms (ds++[v]))=some r):ev (qC L nm var sup a s ms ds)=some r:=by
 refine ai5 hL _ _ _ _ _ _ _ _ _ ?_ (kR ds) (by simpa using hl) s1 v r he hb hd f1 ?_
 ·cases ds<;>simp
 ·have e:(ds++[v]).isEmpty=false:=by cases ds<;>rfl
  rw[←acW];simpa[qC,e] using hn
theorem ahu(hl:ms.length≤3000000)(s1 s3:St)(t:Tk)(ty:Ty)(r:Rs)(he:s.e=0)(hb:iM L ⟨#[101,110,100]⟩ s=false)(hd:iM L ⟨#[100,101,102]⟩ s=false)(f1:ev (qNm L s)=some (0,eU L s1 t.cells))(h1:s1.lv=s.lv)(f2:ev (Vu L (au L 7 ⟨#[58]⟩ s1))=some (0,eU L s3 (rP ty)))(hn:ev (qC L nm var sup a (au L 7 ⟨#[59]⟩ s3) (ms++[⟨t.text,ty,t.at_⟩]) ds)=some r):ev (qC L nm var sup a s ms ds)=some r:=by
 refine ai3 hL _ _ _ _ _ _ _ _ _ ?_ (Pq ms) (by simpa using hl) s1 s3 t ty r he hb hd f1 h1 f2 ?_
 ·cases ms<;>simp
 ·have e:(ms++[(⟨t.text,ty,t.at_⟩:Md)]).isEmpty=false:=by cases ms<;>rfl
  have e2:ms.map Md.cells++[[sv t.text,iv ty.kind,sv ty.name,iv ty.n,bH ty.kids,iv t.at_]]=(ms++[(⟨t.text,ty,t.at_⟩:Md)]).map Md.cells:=(mapM ms ⟨t.text,ty,t.at_⟩).symm;rw[e2];simpa only [qC,e,Bool.not_false] using hn
end
theorem Pz(nm var:ByteArray)(sup:PV)(a:Int):∀(m:Nat) (s:St) (ms:List Md) (ds:List Bd),mu L s≤m→s.a≤L.length→ms.length+m≤2000000→ds.length+m≤2000000→∃(s':St) (ms':List Md) (ds':List Bd),ev (qC L nm var sup a s ms ds)=some (fC L nm var sup a s' (ms++ms') (ds++ds'))∧
  s'.a≤L.length∧mu L s'≤mu L s∧(∀x∈ms',x.Ok)∧(∀x∈ds',x.Ok)∧ms'.length≤mu L s∧ds'.length≤mu L s∧Gr (fun m=>gY L m ms ds) s s' (ms++ms',ds++ds'):=by
 intro m
 induction m with
 |zero=>
  intro s ms ds hm hs h1 h2;have he:s.e≠0:=fun he=>by have:=bE (L:=L) he;omega
  exact⟨s,[],[],by rw[List.append_nil,List.append_nil];exact WZ hL nm var sup a s ms ds he,hs,Nat.le_refl _,by simp,by simp,by simp,by simp,.fault he rfl rfl⟩
 |succ m ih=>
  intro s ms ds hm hs h1 h2;by_cases he:s.e=0
  ·have hp:=bE (L:=L) he
   cases hb:iM L ⟨#[101,110,100]⟩ s with
   |true=>
    obtain⟨b1,b2⟩:=bY hb;exact⟨s.up,[],[],by rw[List.append_nil,List.append_nil];exact ahv hL nm var sup a s ms ds he hb,b2,by omega,by simp,by simp,by simp,by simp,(Gr.fx (gY.eq_2 L ms ds) (.may_t hb .pure)).eq (by simp)⟩
   |false=>
    cases hd:iM L ⟨#[100,101,102]⟩ s with
    |true=>
     obtain⟨b1,b2⟩:=bY hd;obtain⟨v,s1,f1,f2,f3,f4,q1⟩:=xX hL (mu L s) s.up b2 (by omega);have t1:=aQ (L:=L) (k:=7) (x:=⟨#[59]⟩) (by decide) s1;have t2:=bC (L:=L) (k:=7) (x:=⟨#[59]⟩) (by decide) f2;obtain⟨s',ms',ds',g1,g2,g3,g4,g5,g6,g7,q2⟩:=ih (au L 7 ⟨#[59]⟩ s1) ms (ds++[v]) (by omega) t2 (by omega) (by simp;omega);exact⟨s',ms',v::ds',ahw hL nm var sup a s ms ds (by omega) s1 v _ he hb hd f1 (by rw[List.append_assoc] at g1;exact g1),g2,by omega,g4,Vw f4 g5,by omega,by simp;omega,(Gr.fx (gY.eq_2 L ms ds) (.may_f hb (.may_t hd (.bind q1 (.bind (.take _ _ _) q2))))).eq (by simp)⟩
    |false=>
     obtain⟨t,s1,f1,f2,f3,f4,q1⟩:=Sg hL s hs;have t1:=aQ (L:=L) (k:=7) (x:=⟨#[58]⟩) (by decide) s1;have t2:=bC (L:=L) (k:=7) (x:=⟨#[58]⟩) (by decide) f2;obtain⟨ty,s3,k1,k2,k3,k4,q2⟩:=wG hL (mu L s) _ t2 (by omega);have t3:=aQ (L:=L) (k:=7) (x:=⟨#[59]⟩) (by decide) s3;have t4:=bC (L:=L) (k:=7) (x:=⟨#[59]⟩) (by decide) k2;obtain⟨s',ms',ds',g1,g2,g3,g4,g5,g6,g7,q3⟩:=ih (au L 7 ⟨#[59]⟩ s3) (ms++[⟨t.text,ty,t.at_⟩]) ds (by omega) t4 (by simp;omega) (by omega);exact⟨s',⟨t.text,ty,t.at_⟩::ms',ds',ahu hL nm var sup a s ms ds (by omega) s1 s3 t ty _ he hb hd f1 f4 k1 (by rw[List.append_assoc] at g1;exact g1),g2,by omega,Vw k4 g4,g5,by simp;omega,by omega,(Gr.fx (gY.eq_2 L ms ds) (.may_f hb (.may_f hd (.bind q1 (.bind (.take _ _ _) (.bind q2 (.bind (.take _ _ _) q3))))))).eq (by simp)⟩
  ·exact⟨s,[],[],by rw[List.append_nil,List.append_nil];exact WZ hL nm var sup a s ms ds he,hs,Nat.le_refl _,by simp,by simp,by simp,by simp,.fault he rfl rfl⟩
theorem aaM(n:Nat):lJ L (n+1) (qCl L) OC Cl.Ok (fun m=>nV L m):=
 lJ.weak (q:=fun s=>ahN (aW L) (iv s.a) (iv s.lv) (iv s.e) (iv s.w)) (fun s=>al4 ev _ _ _ _ _) fun s hs hm=>by
  show bF L s OC Cl.Ok _ (body PG EE TT ev (ahN (aW L) (iv s.a) (iv s.lv) (iv s.e) (iv s.w)));rw[aqG];have t1:=aQ (L:=L) (k:=2) (x:=eB) (by decide) s;have t2:=bC (L:=L) (k:=2) (x:=eB) (by decide) hs;have t3:=aQ (L:=L) (k:=1) (x:=eB) (by decide) (au L 2 eB s);have t4:=bC (L:=L) (k:=1) (x:=eB) (by decide) t2;simp[aR hL (k:=2) (by decide),Tk.cells];simp[aR hL (k:=1) (by decide),Tk.cells];have hl1:(au L 1 eB (au L 2 eB s)).lv=s.lv:=by simp
  generalize h1:au L 1 eB (au L 2 eB s)=s1 at *;generalize h2:aT L 2 eB s=t at *;generalize h3:aT L 1 eB (au L 2 eB s)=v at *;simp only[←hl1];have hml:=kV L s;have hg0:∀{s2 s' us x},Gr (fun m=>TD L m) s1 s2 us→Gr (fun m=>ak (aV L 6 mH) fun _=>ak (gY L m [] []) fun r=>aS ⟨t.text,v.text,us,r.1,r.2,t.at_⟩) s2 s' x→Gr (fun m=>nV L m) s s' x:=
   fun a b=>.tx (fun _=>rfl) (.bind (.takex rfl h2) (.bind (.takex h1 h3) (.bind a b)))
  simp[bM hL];refine dO (fun hb=>?_) (fun hb=>?_)
  ·obtain⟨b1,b2⟩:=bY hb
   rw[may_t hb];obtain⟨us,s2,u1,u2,u3,u4,u5,ru⟩:=Fq hL s1.up b2;have hg:∀{s' x},_→Gr (fun m=>nV L m) s s' x:=fun {s' x}=>hg0 (.tx (fun _=>rfl) (.may_t hb ru))
   have q1:=aQ (L:=L) (k:=6) (x:=⟨#[119,104,101,114,101]⟩) (by decide) s2;have q2:=bC (L:=L) (k:=6) (x:=⟨#[119,104,101,114,101]⟩) (by decide) u2;simp only[bD] at u5;simp only[qUp,eU,bD,cZ,dG,u5] at u1;simp[u1];simp only[←u5];simp[aR hL (k:=6) (by decide),Tk.cells];have hml2:=kV L (au L 6 ⟨#[119,104,101,114,101]⟩ s2);obtain⟨s4,ms,ds,g1,g2,g3,g4,g5,g6,g7,rl⟩:=Pz hL t.text v.text (strs us) t.at_ (mu L (au L 6 ⟨#[119,104,101,114,101]⟩ s2)) (au L 6 ⟨#[119,104,101,114,101]⟩ s2) [] [] (Nat.le_refl _) q2 (by simp;omega) (by simp;omega);have fin:∀{c:List PV} {k:Nat},dD c=OC ⟨t.text,v.text,us,ms,ds,t.at_⟩→bF L s OC Cl.Ok (fun m=>nV L m) (.ok (k,eU L s4 c)):=fun h=>bF.of _ _ s4 _ h g2 (by omega) ⟨by unfold dF;simp only;omega,⟨by unfold dF;simp at g6 ⊢;omega,g4⟩,by unfold dF;simp at g7 ⊢;omega,g5⟩ (hg (.bind (.take _ _ _) (.bind rl .pure)))
   clear rl g4 g5 g6 g7;cases ms<;>cases ds
   all_goals
    simp only[List.nil_append,qC,fC,yJ,aU,List.isEmpty_nil,List.isEmpty_cons,Bool.not_true,Bool.not_false,kC,dA,if_true,Bool.false_eq_true,if_false,List.map_nil] at g1;simp[g1];exact fin (by simp)
  ·rw[may_f hb]
   have hg:∀{s' x},_→Gr (fun m=>nV L m) s s' x:=fun {s' x}=>hg0 (us:=[]) (.tx (fun _=>rfl) (.may_f hb .pure))
   have q1:=aQ (L:=L) (k:=6) (x:=⟨#[119,104,101,114,101]⟩) (by decide) s1;have q2:=bC (L:=L) (k:=6) (x:=⟨#[119,104,101,114,101]⟩) (by decide) t4;simp[aR hL (k:=6) (by decide),Tk.cells];have hml2:=kV L (au L 6 ⟨#[119,104,101,114,101]⟩ s1);obtain⟨s4,ms,ds,g1,g2,g3,g4,g5,g6,g7,rl⟩:=Pz hL t.text v.text aF t.at_ (mu L (au L 6 ⟨#[119,104,101,114,101]⟩ s1)) (au L 6 ⟨#[119,104,101,114,101]⟩ s1) [] [] (Nat.le_refl _) q2 (by simp;omega) (by simp;omega);have fin:∀{c:List PV} {k:Nat},dD c=OC ⟨t.text,v.text,[],ms,ds,t.at_⟩→bF L s OC Cl.Ok (fun m=>nV L m) (.ok (k,eU L s4 c)):=fun h=>bF.of _ _ s4 _ h g2 (by omega) ⟨by simp[dF],⟨by unfold dF;simp at g6 ⊢;omega,g4⟩,by unfold dF;simp at g7 ⊢;omega,g5⟩ (hg (.bind (.take _ _ _) (.bind rl .pure)))
   clear rl g4 g5 g6 g7;cases ms<;>cases ds
   all_goals
    simp only[List.nil_append,qC,fC,yJ,aU,List.isEmpty_nil,List.isEmpty_cons,Bool.not_true,Bool.not_false,kC,dA,if_true,Bool.false_eq_true,if_false,List.map_nil] at g1;simp[g1];exact fin (by simp)
theorem amx{n:Nat}(nm:ByteArray)(hk:Int)(hn:ByteArray)(hz:Int)(hq:PV)(a:Int):∀(m:Nat) (s:St) (es:List (List PV)) (l:List Pd),Raw 5 es (l.map Pd.cells)→mu L s≤m→m≤n→s.a≤L.length→l.length+m≤2000000→s.e=0→∃(s':St) (es':List (List PV)) (l':List Pd),
  ev (QN (aW L) (iv s.a) (iv s.lv) (iv s.e) (iv s.w) (sv nm) (iv hk) (sv hn) (iv hz) hq es (iv a))=some (1,eU L s' [sv nm,iv hk,sv hn,iv hz,hq,.rows es',aF,iv a,sv eB,iv 0,sv eB,iv 0,aF,aF,aF,iv 0])∧Raw 5 es' ((l++l').map Pd.cells)∧
  s'.a≤L.length∧mu L s'≤mu L s∧(∀t∈l',t.Ok)∧l'.length≤mu L s-mu L s'∧s'.lv=s.lv∧Gr (fun m=>nT L m l) s s' (l++l'):=by
 intro m
 induction m with
 |zero=>
  intro s es l hr hm hn' hs hl he;have:=bE (L:=L) he;omega
 |succ m ihm=>
  intro s es l hr hm hn' hs hl he;have hp:=bE (L:=L) he;have hln:=hr.len;rw[List.length_map] at hln;have t1:=aQ (L:=L) (k:=2) (x:=eB) (by decide) s;have t2:=bC (L:=L) (k:=2) (x:=eB) (by decide) hs;have t3:=aQ (L:=L) (k:=1) (x:=eB) (by decide) (au L 2 eB s);have t4:=bC (L:=L) (k:=1) (x:=eB) (by decide) t2;have hw:dD [sv (aT L 2 eB s).text,iv 1,sv (aT L 1 eB (au L 2 eB s)).text,iv 0,aF]=Pd.cells ⟨(aT L 2 eB s).text,EF 1 (aT L 1 eB (au L 2 eB s)).text⟩:=by simp[Pd.cells,EF]
  have hx:(Pd.mk (aT L 2 eB s).text (EF 1 (aT L 1 eB (au L 2 eB s)).text)).Ok:=rU _ _;have he2:=(iy (L:=L) (x:=⟨#[44]⟩) (s:=(au L 1 eB (au L 2 eB s))));have hr2:Raw 5 (es++[[sv (aT L 2 eB s).text,iv 1,sv (aT L 1 eB (au L 2 eB s)).text,iv 0,aF]]) ((l++[(Pd.mk (aT L 2 eB s).text (EF 1 (aT L 1 eB (au L 2 eB s)).text))]).map Pd.cells):=by
   have:=hr.app (c:=[sv (aT L 2 eB s).text,iv 1,sv (aT L 1 eB (au L 2 eB s)).text,iv 0,aF]) hw rfl (by simp);simpa using this
  have ha:=fun k'=>aN (P:=PG) (d:=.fail) (k:=k') ajI hr (c:=[sv (aT L 2 eB s).text,iv 1,sv (aT L 1 eB (au L 2 eB s)).text,iv 0,aF]) rfl (by simp) (by omega) (by decide)
  cases hb:iM L ⟨#[44]⟩ (au L 1 eB (au L 2 eB s)) with
  |true=>
   obtain⟨b1,b2⟩:=bY hb;obtain⟨s3,es',l',f1,f2,f3,f4,f5,f6,f7,q3⟩:=ihm (au L 1 eB (au L 2 eB s)).up _ _ hr2 (by omega) (by omega) b2 (by simp;omega) ((cZ _).trans (he2 hb).1);simp only[bD,cZ,dG,aU] at f1 f7;refine⟨s3,es',_::l',ax.of ?_,by simpa using f2,f3,by omega,Vw hx f5,by simp;omega,f7,(Gr.fx (nT.eq_2 L l) (.bind (.take _ _ _) (.bind (.take _ _ _) (.may_t hb q3)))).eq (by simp)⟩
   ·rw[SY]
    simp[eq_true he];simp[aR hL (k:=2) (by decide),Tk.cells];simp[aR hL (k:=1) (by decide),Tk.cells];simp[ha];simp[bM hL,St.eta2,hb,may_t hb,bD,cZ,dG];simp[f1,f7]
  |false=>
   refine⟨(au L 1 eB (au L 2 eB s)),_,[_],ax.of ?_,hr2,t4,by omega,by simpa using hx,by simp;omega,by simp,.fx (nT.eq_2 L l) (.bind (.take _ _ _) (.bind (.take _ _ _) (.may_f hb .pure)))⟩
   ·rw[SY]
    simp[eq_true he];simp[aR hL (k:=2) (by decide),Tk.cells];simp[aR hL (k:=1) (by decide),Tk.cells];simp[ha];simp[bM hL,St.eta2,hb,may_f hb];rw[ax.of ((SX ev _ _ _ _ _ _ _ _ _ _ _ _).trans rfl)];simp
theorem amy(nm:ByteArray)(hk:Int)(hn:ByteArray)(hz:Int)(hq:PV)(a:Int)(s:St)(hs:s.a≤L.length):∃(s':St) (es':List (List PV)) (l':List Pd),
  ((l'=[]∧ev (GL (aW L) (iv s.a) (iv s.lv) (iv s.e) (iv s.w) (sv nm) (iv hk) (sv hn) (iv hz) hq (iv a))=some (0,eU L s' [sv nm,iv hk,sv hn,iv hz,hq,aF,aF,iv a,sv eB,iv 0,sv eB,iv 0,aF,aF,aF,iv 0]))∨
   (Raw 5 es' (l'.map Pd.cells)∧ev (GL (aW L) (iv s.a) (iv s.lv) (iv s.e) (iv s.w) (sv nm) (iv hk) (sv hn) (iv hz) hq (iv a))=some (1,eU L s' [sv nm,iv hk,sv hn,iv hz,hq,.rows es',aF,iv a,sv eB,iv 0,sv eB,iv 0,aF,aF,aF,iv 0])))∧
  s'.a≤L.length∧mu L s'≤mu L s∧(∀t∈l',t.Ok)∧l'.length≤10000000∧s'.lv=s.lv∧Gr (fun m=>nT L m []) s s' l':=by
 by_cases he:s.e=0
 ·have hp:=bE (L:=L) he
  have t1:=aQ (L:=L) (k:=2) (x:=eB) (by decide) s;have t2:=bC (L:=L) (k:=2) (x:=eB) (by decide) hs;have t3:=aQ (L:=L) (k:=1) (x:=eB) (by decide) (au L 2 eB s);have t4:=bC (L:=L) (k:=1) (x:=eB) (by decide) t2;have hw:dD [sv (aT L 2 eB s).text,iv 1,sv (aT L 1 eB (au L 2 eB s)).text,iv 0,aF]=Pd.cells ⟨(aT L 2 eB s).text,EF 1 (aT L 1 eB (au L 2 eB s)).text⟩:=by simp[Pd.cells,EF]
  have hx:(Pd.mk (aT L 2 eB s).text (EF 1 (aT L 1 eB (au L 2 eB s)).text)).Ok:=rU _ _;have he2:=(iy (L:=L) (x:=⟨#[44]⟩) (s:=(au L 1 eB (au L 2 eB s))));have hr2:Raw 5 [[sv (aT L 2 eB s).text,iv 1,sv (aT L 1 eB (au L 2 eB s)).text,iv 0,aF]] ([(Pd.mk (aT L 2 eB s).text (EF 1 (aT L 1 eB (au L 2 eB s)).text))].map Pd.cells):=.one hw rfl (by simp);cases hb:iM L ⟨#[44]⟩ (au L 1 eB (au L 2 eB s)) with
  |true=>
   obtain⟨b1,b2⟩:=bY hb;have hml:=kV L (au L 1 eB (au L 2 eB s)).up;obtain⟨s3,es',l',f1,f2,f3,f4,f5,f6,f7,q3⟩:=amx hL nm hk hn hz hq a (mu L (au L 1 eB (au L 2 eB s)).up) (au L 1 eB (au L 2 eB s)).up _ _ hr2 (Nat.le_refl _) (Nat.le_refl _) b2 (by simp;omega) ((cZ _).trans (he2 hb).1);simp only[bD,cZ,dG,aU] at f1 f7;refine⟨s3,es',_::l',.inr ⟨by simpa using f2,ax.of ?_⟩,f3,by omega,Vw hx f5,by simp;omega,f7,.fx (nT.eq_2 L []) (.bind (.take _ _ _) (.bind (.take _ _ _) (.may_t hb q3)))⟩
   ·rw[IC]
    simp[eq_true he];simp[aR hL (k:=2) (by decide),Tk.cells];simp[aR hL (k:=1) (by decide),Tk.cells];simp[bM hL,St.eta2,hb,may_t hb,bD,cZ,dG];simp[f1,f7]
  |false=>
   refine⟨(au L 1 eB (au L 2 eB s)),_,[_],.inr ⟨hr2,ax.of ?_⟩,t4,by omega,by simpa using hx,by simp,by simp,.fx (nT.eq_2 L []) (.bind (.take _ _ _) (.bind (.take _ _ _) (.may_f hb .pure)))⟩
   ·rw[IC]
    simp[eq_true he];simp[aR hL (k:=2) (by decide),Tk.cells];simp[aR hL (k:=1) (by decide),Tk.cells];simp[bM hL,St.eta2,hb,may_f hb];rw[ax.of ((SX ev _ _ _ _ _ _ _ _ _ _ _ _).trans rfl)];simp
 ·exact⟨s,[],[],.inl ⟨rfl,ax.of (by rw[IC];simp[he])⟩,hs,Nat.le_refl _,(by simp),by simp,rfl,.fault he rfl rfl⟩
section
omit hL
variable(L)(nm:ByteArray)(hk:Int)(hn:ByteArray)(hz:Int)(hq:PV)(a:Int)(s:St)(CR:List (List PV))
def Cf(l:List (List PV)):Bool→Q
 |false=>QK (aW L) (iv s.a) (iv s.lv) (iv s.e) (iv s.w) (sv nm) (iv hk) (sv hn) (iv hz) hq l (iv a)
 |true=>QJ (aW L) (iv s.a) (iv s.lv) (iv s.e) (iv s.w) (sv nm) (iv hk) (sv hn) (iv hz) hq CR l (iv a)
def Cg:Bool→Q
 |false=>QM (aW L) (iv s.a) (iv s.lv) (iv s.e) (iv s.w) (sv nm) (iv hk) (sv hn) (iv hz) hq (iv a)
 |true=>QL (aW L) (iv s.a) (iv s.lv) (iv s.e) (iv s.w) (sv nm) (iv hk) (sv hn) (iv hz) hq CR (iv a)
end
theorem ap5{n:Nat}(nm:ByteArray)(hk:Int)(hn:ByteArray)(hz:Int)(hq:PV)(a:Int)(CR:List (List PV))(c:Bool):∀(m:Nat) (s:St) (l:List Bd),mu L s≤m→m≤n→s.a≤L.length→l.length+m≤2000000→∃(s':St) (l':List Bd),
  ev (Cf L nm hk hn hz hq a s CR (l.map Bd.cells) c)=some (1,eU L s' [sv nm,iv hk,sv hn,iv hz,hq,dA c (.rows CR),bn (l++l'),iv a,sv eB,iv 0,sv eB,iv 0,aF,aF,aF,iv 0])∧
  s'.a≤L.length∧mu L s'≤mu L s∧(∀t∈l',t.Ok)∧l'.length≤mu L s-mu L s'∧Gr (fun m=>iU L m l) s s' (l++l'):=by
 intro m
 induction m with
 |zero=>
  intro s l hm hn' hs hl;have he:s.e≠0:=fun he=>by have:=bE (L:=L) he;omega
  exact⟨s,[],ax.of (by cases c<;>(first|rw[Cf,Bc]|rw[Cf,Bb])<;>simp[he,bn,dA]),hs,Nat.le_refl _,(by simp),by simp,.fault he rfl rfl⟩
 |succ m ihm=>
  intro s l hm hn' hs hl;by_cases he:s.e=0
  ·have hp:=bE (L:=L) he
   cases hb:iM L ⟨#[101,110,100]⟩ s with
   |true=>
    obtain⟨b1,b2⟩:=bY hb;refine⟨s.up,[],ax.of ?_,b2,by omega,(by simp),by simp,(Gr.fx (iU.eq_2 L l) (.may_t hb .pure)).eq (by simp)⟩;cases c
    all_goals
     (first|rw[Cf,Bc]|rw[Cf,Bb])
     simp[eq_true he];simp[dA,bM hL,hb,may_t hb,bn,bD,cZ,dG]
   |false=>
    have t1:=aQ (L:=L) (k:=6) (x:=⟨#[100,101,102]⟩) (by decide) s;have t2:=bC (L:=L) (k:=6) (x:=⟨#[100,101,102]⟩) (by decide) hs;obtain⟨v,s2,f1,f2,f3,f4,q1⟩:=xX hL (mu L s) (au L 6 ⟨#[100,101,102]⟩ s) t2 (by omega);have t3:=aQ (L:=L) (k:=7) (x:=⟨#[59]⟩) (by decide) s2;have t4:=bC (L:=L) (k:=7) (x:=⟨#[59]⟩) (by decide) f2;obtain⟨s3,l',g1,g2,g3,g4,g5,q2⟩:=ihm (au L 7 ⟨#[59]⟩ s2) (l++[v]) (by omega) (by omega) t4 (by simp;omega);rw[acW,List.append_assoc] at g1;simp only[FC,aU] at f1;have ha:=fun k'=>aN (P:=PG) (d:=.fail) (k:=k') wS (kR l) (c:=iP v) rfl (by simp) (by simp;omega) (by decide)
    refine⟨s3,v::l',ax.of ?_,g2,by omega,Vw f4 g4,by simp;omega,(Gr.fx (iU.eq_2 L l) (.may_f hb (.bind (.take _ _ _) (.bind q1 (.bind (.take _ _ _) q2))))).eq (by simp)⟩
    ·cases c
     all_goals
      simp only[Cf,aU] at g1
      (first|rw[Cf,Bc]|rw[Cf,Bb])
      simp[eq_true he];simp[bM hL,hb,may_f hb];simp[aR hL (k:=6) (by decide),Tk.cells];simp[f1];simp[ha];simp[aR hL (k:=7) (by decide),Tk.cells];simp[g1,dA]
  ·exact⟨s,[],ax.of (by cases c<;>(first|rw[Cf,Bc]|rw[Cf,Bb])<;>simp[he,bn,dA]),hs,Nat.le_refl _,(by simp),by simp,.fault he rfl rfl⟩
theorem aio(nm:ByteArray)(hk:Int)(hn:ByteArray)(hz:Int)(hq:PV)(a:Int)(CR:List (List PV))(c:Bool)(s:St)(hs:s.a≤L.length):∃(s':St) (l':List Bd),
  ((l'=[]∧ev (Cg L nm hk hn hz hq a s CR c)=some (0,eU L s' [sv nm,iv hk,sv hn,iv hz,hq,dA c (.rows CR),aF,iv a,sv eB,iv 0,sv eB,iv 0,aF,aF,aF,iv 0]))∨
   ev (Cg L nm hk hn hz hq a s CR c)=some (1,eU L s' [sv nm,iv hk,sv hn,iv hz,hq,dA c (.rows CR),bn l',iv a,sv eB,iv 0,sv eB,iv 0,aF,aF,aF,iv 0]))∧
  s'.a≤L.length∧mu L s'≤mu L s∧(∀t∈l',t.Ok)∧l'.length≤10000000∧Gr (fun m=>iU L m []) s s' l':=by
 by_cases he:s.e=0
 ·have hp:=bE (L:=L) he
  cases hb:iM L ⟨#[101,110,100]⟩ s with
  |true=>
   obtain⟨b1,b2⟩:=bY hb;refine⟨s.up,[],.inl ⟨rfl,ax.of ?_⟩,b2,by omega,(by simp),by simp,.fx (iU.eq_2 L []) (.may_t hb .pure)⟩;cases c
   all_goals
    (first|rw[Cg,IB]|rw[Cg,IA])
    simp[eq_true he];simp[dA,bM hL,hb,may_t hb,bD,cZ,dG]
  |false=>
   have t1:=aQ (L:=L) (k:=6) (x:=⟨#[100,101,102]⟩) (by decide) s;have t2:=bC (L:=L) (k:=6) (x:=⟨#[100,101,102]⟩) (by decide) hs;obtain⟨v,s2,f1,f2,f3,f4,q1⟩:=xX hL (mu L s) (au L 6 ⟨#[100,101,102]⟩ s) t2 (by omega);have t3:=aQ (L:=L) (k:=7) (x:=⟨#[59]⟩) (by decide) s2;have t4:=bC (L:=L) (k:=7) (x:=⟨#[59]⟩) (by decide) f2;have hml:=kV L (au L 7 ⟨#[59]⟩ s2);obtain⟨s3,l',g1,g2,g3,g4,g5,q2⟩:=ap5 hL nm hk hn hz hq a CR c (mu L (au L 7 ⟨#[59]⟩ s2)) (au L 7 ⟨#[59]⟩ s2) [v] (Nat.le_refl _) (Nat.le_refl _) t4 (by simp;omega);have e:[v].map Bd.cells=[iP v]:=acW [] v;rw[e] at g1;simp only[FC,aU] at f1;refine⟨s3,v::l',.inr (ax.of ?_),g2,by omega,Vw f4 g4,by simp;omega,.fx (iU.eq_2 L []) (.may_f hb (.bind (.take _ _ _) (.bind q1 (.bind (.take _ _ _) q2))))⟩
   ·cases c
    all_goals
     simp only[Cf,aU] at g1
     (first|rw[Cg,IB]|rw[Cg,IA])
     simp[eq_true he];simp[bM hL,hb,may_f hb];simp[aR hL (k:=6) (by decide),Tk.cells];simp[f1];simp[aR hL (k:=7) (by decide),Tk.cells];simp at g1;simp[g1,dA]
 ·exact⟨s,[],.inl ⟨rfl,ax.of (by cases c<;>(first|rw[Cg,IB]|rw[Cg,IA])<;>simp[he,dA])⟩,hs,Nat.le_refl _,(by simp),by simp,.fault he rfl rfl⟩
theorem adq(n:Nat):lJ L (n+1) (qIt L) Zf It.Ok (fun m=>xI L m):=
 lJ.weak (q:=fun s=>ahM (aW L) (iv s.a) (iv s.lv) (iv s.e) (iv s.w)) (fun s=>al3 ev _ _ _ _ _) fun s hs hm=>by
  show bF L s Zf It.Ok _ (body PG EE TT ev (ahM (aW L) (iv s.a) (iv s.lv) (iv s.e) (iv s.w)));rw[aqF];have t1:=aQ (L:=L) (k:=2) (x:=eB) (by decide) s;have t2:=bC (L:=L) (k:=2) (x:=eB) (by decide) hs;simp[aR hL (k:=2) (by decide),Tk.cells];have hl1:(au L 2 eB s).lv=s.lv:=aU _ _ s;generalize h1:au L 2 eB s=s1 at *;generalize h2:aT L 2 eB s=t at *;simp only[←hl1];obtain⟨h,s2,e1,e2,e3,e4,ra⟩:=zu hL (n+1) s1 t2 (by omega);simp[e1];simp[bM hL];have hg0:∀{s3 s' cl x},Gr (fun m=>dP L wV (nT L m []) (aS [])) s2 s3 cl→Gr (fun m=>ak (aV L 6 mH) fun _=>ak (iU L m []) fun bs=>aS ⟨t.text,h,cl,bs,t.at_⟩) s3 s' x→Gr (fun m=>xI L m) s s' x:=
   fun a b=>.tx (fun _=>rfl) (.bind (.takex h1 h2) (.bind ra (.bind a b)))
  refine dO (fun hb=>?_) (fun hb=>?_)
  ·obtain⟨b1,b2⟩:=bY hb
   rw[may_t hb];obtain⟨s3,es,cl,hc,g2,g3,g4,g5,g6,rc⟩:=amy hL t.text h.kind h.name h.n (bH h.kids) t.at_ s2.up b2;have hg:∀{s' x},_→Gr (fun m=>xI L m) s s' x:=fun {s' x}=>hg0 (.may_t hb rc)
   simp only[bD] at g6;simp only[bD,cZ,dG,eU,g6] at hc;rcases hc with⟨rfl,hc⟩|⟨hr,hc⟩
   ·simp[hc]
    simp only[←g6];have w1:=aQ (L:=L) (k:=6) (x:=⟨#[119,104,101,114,101]⟩) (by decide) s3;have w2:=bC (L:=L) (k:=6) (x:=⟨#[119,104,101,114,101]⟩) (by decide) g2;simp[aR hL (k:=6) (by decide),Tk.cells];obtain⟨s5,l,hd,z2,z3,z4,z5,rb⟩:=aio hL t.text h.kind h.name h.n (bH h.kids) t.at_ [] false (au L 6 ⟨#[119,104,101,114,101]⟩ s3) w2;simp only[Cg,dA,aU,if_true,if_false,Bool.false_eq_true] at hd;have hx:(It.mk t.text h [] l t.at_).Ok:=⟨e4,⟨by unfold dF;simp;try omega,by simp⟩,by unfold dF;simp only;omega,z4⟩;have hh:=hg (.bind (.take _ _ _) (.bind rb .pure));rcases hd with⟨rfl,hd⟩|hd
    ·simp[hd]
     exact bF.of _ _ s5 ⟨t.text,h,[],[],t.at_⟩ (by simp) z2 (by omega) hx hh
    ·simp[hd]
     exact bF.of _ _ s5 ⟨t.text,h,[],l,t.at_⟩ (by simp) z2 (by omega) hx hh
   ·simp[hc]
    simp only[←g6];have w1:=aQ (L:=L) (k:=6) (x:=⟨#[119,104,101,114,101]⟩) (by decide) s3;have w2:=bC (L:=L) (k:=6) (x:=⟨#[119,104,101,114,101]⟩) (by decide) g2;simp[aR hL (k:=6) (by decide),Tk.cells];obtain⟨s5,l,hd,z2,z3,z4,z5,rb⟩:=aio hL t.text h.kind h.name h.n (bH h.kids) t.at_ es true (au L 6 ⟨#[119,104,101,114,101]⟩ s3) w2;simp only[Cg,dA,aU,if_true,if_false,Bool.false_eq_true] at hd;have hx:(It.mk t.text h cl l t.at_).Ok:=⟨e4,⟨by unfold dF;simp;try omega,g4⟩,by unfold dF;simp only;omega,z4⟩;have hh:=hg (.bind (.take _ _ _) (.bind rb .pure));rcases hd with⟨rfl,hd⟩|hd
    ·simp[hd]
     exact bF.of _ _ s5 ⟨t.text,h,cl,[],t.at_⟩ (by simp[hr.wd,rQ]) z2 (by omega) hx hh
    ·simp[hd]
     exact bF.of _ _ s5 ⟨t.text,h,cl,l,t.at_⟩ (by simp[hr.wd,rQ]) z2 (by omega) hx hh
  ·rw[may_f hb]
   have hg:∀{s' x},_→Gr (fun m=>xI L m) s s' x:=fun {s' x}=>hg0 (cl:=[]) (.may_f hb .pure)
   have w1:=aQ (L:=L) (k:=6) (x:=⟨#[119,104,101,114,101]⟩) (by decide) s2;have w2:=bC (L:=L) (k:=6) (x:=⟨#[119,104,101,114,101]⟩) (by decide) e2;simp[aR hL (k:=6) (by decide),Tk.cells];obtain⟨s5,l,hd,z2,z3,z4,z5,rb⟩:=aio hL t.text h.kind h.name h.n (bH h.kids) t.at_ [] false (au L 6 ⟨#[119,104,101,114,101]⟩ s2) w2;simp only[Cg,dA,aU,if_true,if_false,Bool.false_eq_true] at hd;have hx:(It.mk t.text h [] l t.at_).Ok:=⟨e4,⟨by unfold dF;simp;try omega,by simp⟩,by unfold dF;simp only;omega,z4⟩;have hh:=hg (.bind (.take _ _ _) (.bind rb .pure));rcases hd with⟨rfl,hd⟩|hd
   ·simp[hd]
    exact bF.of _ _ s5 ⟨t.text,h,[],[],t.at_⟩ (by simp) z2 (by omega) hx hh
   ·simp[hd]
    exact bF.of _ _ s5 ⟨t.text,h,[],l,t.at_⟩ (by simp) z2 (by omega) hx hh
end
set_option maxRecDepth 10000
theorem ajL:iY PG 35 5 96:=iY.of (by kernel_rfl)
theorem ajM:iY PG 36 6 112:=iY.of (by kernel_rfl)
theorem ajK:iY PG 37 8 128:=iY.of (by kernel_rfl)
theorem Pv(l:List Dt):Raw 5 (l.map Dt.cells) (l.map Dt.cells):=.of l (fun x=>by simp[Dt.cells]) (fun x=>rfl) (fun x=>by simp[Dt.cells])
theorem Pw(l:List Cl):Raw 6 (l.map Cl.cells) (l.map Cl.cells):=.of l (fun x=>by simp[Cl.cells]) (fun x=>rfl) (fun x=>by simp[Cl.cells])
theorem Ps(l:List It):Raw 8 (l.map It.cells) (l.map It.cells):=.of l (fun x=>by simp[It.cells]) (fun x=>rfl) (fun x=>by simp[It.cells])
theorem alu(l:List Dt)(v:Dt):(l++[v]).map Dt.cells=l.map Dt.cells++[dtC v]:=by rw[List.map_append,List.map_cons,List.map_nil];rfl
theorem alv(l:List Cl)(v:Cl):(l++[v]).map Cl.cells=l.map Cl.cells++[OC v]:=by rw[List.map_append,List.map_cons,List.map_nil];rfl
theorem alr(l:List It)(v:It):(l++[v]).map It.cells=l.map It.cells++[Zf v]:=by rw[List.map_append,List.map_cons,List.map_nil];rfl
theorem alx(l:List Bd)(v:Bd):(l++[v]).map Bd.cells=l.map Bd.cells++[iP v]:=acW l v
def qF(L:List Tk)(s:St)(R0 R1 R2 R3:List (List PV)):Bool→Bool→Bool→Bool→Q
 |false,false,false,false=>Yd (aW L) (iv s.a) (iv s.lv) (iv s.e) (iv s.w)
 |true,false,false,false=>Yc (aW L) (iv s.a) (iv s.lv) (iv s.e) (iv s.w) R0
 |false,true,false,false=>Yb (aW L) (iv s.a) (iv s.lv) (iv s.e) (iv s.w) R1
 |false,false,true,false=>Ya (aW L) (iv s.a) (iv s.lv) (iv s.e) (iv s.w) R2
 |false,false,false,true=>X9 (aW L) (iv s.a) (iv s.lv) (iv s.e) (iv s.w) R3
 |true,true,false,false=>X8 (aW L) (iv s.a) (iv s.lv) (iv s.e) (iv s.w) R0 R1
 |true,false,true,false=>X7 (aW L) (iv s.a) (iv s.lv) (iv s.e) (iv s.w) R0 R2
 |true,false,false,true=>X6 (aW L) (iv s.a) (iv s.lv) (iv s.e) (iv s.w) R0 R3
 |false,true,true,false=>X5 (aW L) (iv s.a) (iv s.lv) (iv s.e) (iv s.w) R1 R2
 |false,true,false,true=>X4 (aW L) (iv s.a) (iv s.lv) (iv s.e) (iv s.w) R1 R3
 |false,false,true,true=>X3 (aW L) (iv s.a) (iv s.lv) (iv s.e) (iv s.w) R2 R3
 |true,true,true,false=>X0 (aW L) (iv s.a) (iv s.lv) (iv s.e) (iv s.w) R0 R1 R2
 |true,true,false,true=>XZ (aW L) (iv s.a) (iv s.lv) (iv s.e) (iv s.w) R0 R1 R3
 |true,false,true,true=>XY (aW L) (iv s.a) (iv s.lv) (iv s.e) (iv s.w) R0 R2 R3
 |false,true,true,true=>XW (aW L) (iv s.a) (iv s.lv) (iv s.e) (iv s.w) R1 R2 R3
 |true,true,true,true=>XV (aW L) (iv s.a) (iv s.lv) (iv s.e) (iv s.w) R0 R1 R2 R3
def kF:Bool→Bool→Bool→Bool→Nat
 |false,false,false,false=>0
 |true,false,false,false=>1
 |false,true,false,false=>2
 |false,false,true,false=>3
 |false,false,false,true=>4
 |true,true,false,false=>5
 |true,false,true,false=>6
 |true,false,false,true=>7
 |false,true,true,false=>8
 |false,true,false,true=>9
 |false,false,true,true=>10
 |true,true,true,false=>11
 |true,true,false,true=>12
 |true,false,true,true=>13
 |false,true,true,true=>14
 |true,true,true,true=>15
def qP(L:List Tk)(s:St)(d:List Dt)(c:List Cl)(i:List It)(b:List Bd):Q:=qF L s (d.map Dt.cells) (c.map Cl.cells) (i.map It.cells) (b.map Bd.cells) (!d.isEmpty) (!c.isEmpty) (!i.isEmpty) (!b.isEmpty)
def fP(L:List Tk)(s:St)(d:List Dt)(c:List Cl)(i:List It)(b:List Bd):Rs:=(kF (!d.isEmpty) (!c.isEmpty) (!i.isEmpty) (!b.isEmpty),eU L s [dA (!d.isEmpty) (jm d),dA (!c.isEmpty) (cls c),dA (!i.isEmpty) (its i),dA (!b.isEmpty) (bn b),nS,nS,nS,nS])
section
variable{L:List Tk}(hL:L.length≤1000000)
include hL
theorem aht(s:St)(R0 R1 R2 R3:List (List PV))(c0 c1 c2 c3:Bool)(h:s.e≠0∨(aX L s).kind=0):ev (qF L s R0 R1 R2 R3 c0 c1 c2 c3)=some (kF c0 c1 c2 c3,eU L s [dA c0 (.rows R0),dA c1 (.rows R1),dA c2 (.rows R2),dA c3 (.rows R3),nS,nS,nS,nS]):=by
 refine ax.of ?_;have hk:=fun(he:s.e=0)=>h.resolve_left (fun h=>h he)
 clear h;cases c0<;>cases c1<;>cases c2<;>cases c3
 all_goals
  (first
   |rw[qF,D6]
   |rw[qF,D5]
   |rw[qF,DZ]
   |rw[qF,DY]
   |rw[qF,DX]
   |rw[qF,DW]
   |rw[qF,DV]
   |rw[qF,DU]
   |rw[qF,DT]
   |rw[qF,DN]
   |rw[qF,DK]
   |rw[qF,DJ]
   |rw[qF,DI]
   |rw[qF,DF]
   |rw[qF,DC]
   |rw[qF,Dz]
   )
  by_cases he:s.e=0
  ·simp[eq_true he]
   simp[fu,Tk.cells,hk he,kF,dA]
  ·simp[he,kF,dA]
theorem apa(R0 R1 R2 R3:List (List PV))(c0 c1 c2 c3:Bool)(hz:c0=false→R0=[]){cs:List (List PV)}(hr:Raw 5 R0 cs)(hl:R0.length≤3000000)(s s1:St)(v:Dt)(r:Rs)(he:s.e=0)(hk:(aX L s).kind≠0)(b0:iM L ⟨#[100,97,116,97]⟩ s=true)(f1:ev (qDt L s.up)=some (0,eU L s1 (dtC v)))
  (hn:ev (qF L (au L 7 ⟨#[59]⟩ s1) (R0++[dtC v]) R1 R2 R3 true c1 c2 c3)=some r):ev (qF L s R0 R1 R2 R3 c0 c1 c2 c3)=some r:=by
 have aD:=fun k'=>aN (P:=PG) (d:=.fail) (k:=k') ajL hr (c:=dtC v) rfl (by simp) (by omega) (by decide)
 refine ax.of ?_;simp only[qDt,bD,cZ,dG,aU] at f1;cases c0<;>cases c1<;>cases c2<;>cases c3
 all_goals
  (first|(obtain rfl:=hz rfl)|skip)
  simp only[qF,aU,List.nil_append] at hn
  (first
   |rw[qF,D6]
   |rw[qF,D5]
   |rw[qF,DZ]
   |rw[qF,DY]
   |rw[qF,DX]
   |rw[qF,DW]
   |rw[qF,DV]
   |rw[qF,DU]
   |rw[qF,DT]
   |rw[qF,DN]
   |rw[qF,DK]
   |rw[qF,DJ]
   |rw[qF,DI]
   |rw[qF,DF]
   |rw[qF,DC]
   |rw[qF,Dz]
   )
  simp[eq_true he];simp[fu,Tk.cells,hk];simp[bM hL,b0,may_t b0,bD,cZ,dG];simp[f1]
  (first|simp[aD]|skip)
  simp[aR hL (k:=7) (by decide),Tk.cells];simp[hn]
theorem ao9(R0 R1 R2 R3:List (List PV))(c0 c1 c2 c3:Bool)(hz:c1=false→R1=[]){cs:List (List PV)}(hr:Raw 6 R1 cs)(hl:R1.length≤3000000)(s s1:St)(v:Cl)(r:Rs)(he:s.e=0)(hk:(aX L s).kind≠0)(b0:iM L ⟨#[100,97,116,97]⟩ s=false)(b1:iM L ⟨#[99,108,97,115,115]⟩ s=true)(f1:ev (qCl L s.up)=some (0,eU L s1 (OC v)))
  (hn:ev (qF L (au L 7 ⟨#[59]⟩ s1) R0 (R1++[OC v]) R2 R3 c0 true c2 c3)=some r):ev (qF L s R0 R1 R2 R3 c0 c1 c2 c3)=some r:=by
 have aD:=fun k'=>aN (P:=PG) (d:=.fail) (k:=k') ajM hr (c:=OC v) rfl (by simp) (by omega) (by decide)
 refine ax.of ?_;simp only[qCl,bD,cZ,dG,aU] at f1;cases c0<;>cases c1<;>cases c2<;>cases c3
 all_goals
  (first|(obtain rfl:=hz rfl)|skip)
  simp only[qF,aU,List.nil_append] at hn
  (first
   |rw[qF,D6]
   |rw[qF,D5]
   |rw[qF,DZ]
   |rw[qF,DY]
   |rw[qF,DX]
   |rw[qF,DW]
   |rw[qF,DV]
   |rw[qF,DU]
   |rw[qF,DT]
   |rw[qF,DN]
   |rw[qF,DK]
   |rw[qF,DJ]
   |rw[qF,DI]
   |rw[qF,DF]
   |rw[qF,DC]
   |rw[qF,Dz]
   )
  simp[eq_true he];simp[fu,Tk.cells,hk];simp[bM hL,b0,may_f b0,b1,may_t b1,bD,cZ,dG];simp[f1]
  (first|simp[aD]|skip)
  simp[aR hL (k:=7) (by decide),Tk.cells];simp[hn]
theorem ao8(R0 R1 R2 R3:List (List PV))(c0 c1 c2 c3:Bool)(hz:c2=false→R2=[]){cs:List (List PV)}(hr:Raw 8 R2 cs)(hl:R2.length≤3000000)(s s1:St)(v:It)(r:Rs)(he:s.e=0)(hk:(aX L s).kind≠0)(b0:iM L ⟨#[100,97,116,97]⟩ s=false)(b1:iM L ⟨#[99,108,97,115,115]⟩ s=false)(b2:iM L ⟨#[105,110,115,116,97,110,99,101]⟩ s=true)(f1:ev (qIt L s.up)=some (0,eU L s1 (Zf v)))
  (hn:ev (qF L (au L 7 ⟨#[59]⟩ s1) R0 R1 (R2++[Zf v]) R3 c0 c1 true c3)=some r):ev (qF L s R0 R1 R2 R3 c0 c1 c2 c3)=some r:=by
 have aD:=fun k'=>aN (P:=PG) (d:=.fail) (k:=k') ajK hr (c:=Zf v) rfl (by simp) (by omega) (by decide)
 refine ax.of ?_;simp only[qIt,bD,cZ,dG,aU] at f1;cases c0<;>cases c1<;>cases c2<;>cases c3
 all_goals
  (first|(obtain rfl:=hz rfl)|skip)
  simp only[qF,aU,List.nil_append] at hn
  (first
   |rw[qF,D6]
   |rw[qF,D5]
   |rw[qF,DZ]
   |rw[qF,DY]
   |rw[qF,DX]
   |rw[qF,DW]
   |rw[qF,DV]
   |rw[qF,DU]
   |rw[qF,DT]
   |rw[qF,DN]
   |rw[qF,DK]
   |rw[qF,DJ]
   |rw[qF,DI]
   |rw[qF,DF]
   |rw[qF,DC]
   |rw[qF,Dz]
   )
  simp[eq_true he];simp[fu,Tk.cells,hk];simp[bM hL,b0,may_f b0,b1,may_f b1,b2,may_t b2,bD,cZ,dG];simp[f1]
  (first|simp[aD]|skip)
  simp[aR hL (k:=7) (by decide),Tk.cells];simp[hn]
theorem ao7(R0 R1 R2 R3:List (List PV))(c0 c1 c2 c3:Bool)(hz:c3=false→R3=[]){cs:List (List PV)}(hr:Raw 13 R3 cs)(hl:R3.length≤3000000)(s s1:St)(v:Bd)(r:Rs)(he:s.e=0)(hk:(aX L s).kind≠0)(b0:iM L ⟨#[100,97,116,97]⟩ s=false)(b1:iM L ⟨#[99,108,97,115,115]⟩ s=false)(b2:iM L ⟨#[105,110,115,116,97,110,99,101]⟩ s=false)(f1:ev (FC L (au L 6 ⟨#[100,101,102]⟩ s))=some (0,eU L s1 (iP v)))
  (hn:ev (qF L (au L 7 ⟨#[59]⟩ s1) R0 R1 R2 (R3++[iP v]) c0 c1 c2 true)=some r):ev (qF L s R0 R1 R2 R3 c0 c1 c2 c3)=some r:=by
 have aD:=fun k'=>aN (P:=PG) (d:=.fail) (k:=k') wS hr (c:=iP v) rfl (by simp) (by omega) (by decide)
 refine ax.of ?_;simp only[FC,bD,cZ,dG,aU] at f1;cases c0<;>cases c1<;>cases c2<;>cases c3
 all_goals
  (first|(obtain rfl:=hz rfl)|skip)
  simp only[qF,aU,List.nil_append] at hn
  (first
   |rw[qF,D6]
   |rw[qF,D5]
   |rw[qF,DZ]
   |rw[qF,DY]
   |rw[qF,DX]
   |rw[qF,DW]
   |rw[qF,DV]
   |rw[qF,DU]
   |rw[qF,DT]
   |rw[qF,DN]
   |rw[qF,DK]
   |rw[qF,DJ]
   |rw[qF,DI]
   |rw[qF,DF]
   |rw[qF,DC]
   |rw[qF,Dz]
   )
  simp[eq_true he];simp[fu,Tk.cells,hk];simp[bM hL,b0,may_f b0,b1,may_f b1,b2,may_f b2,bD,cZ,dG];simp[aR hL (k:=6) (by decide),Tk.cells];simp[f1]
  (first|simp[aD]|skip)
  simp[aR hL (k:=7) (by decide),Tk.cells];simp[hn]
theorem Nh(s:St)(d:List Dt)(c:List Cl)(i:List It)(b:List Bd)(h:s.e≠0∨(aX L s).kind=0):ev (qP L s d c i b)=some (fP L s d c i b):=aht hL s _ _ _ _ _ _ _ _ h
theorem ao4(s:St)(d:List Dt)(c:List Cl)(i:List It)(b:List Bd)(hl:d.length≤3000000)(s1:St)(v:Dt)(r:Rs)(he:s.e=0)(hk:(aX L s).kind≠0)(b0:iM L ⟨#[100,97,116,97]⟩ s=true)(f1:ev (qDt L s.up)=some (0,eU L s1 (dtC v)))(hn:ev (qP L (au L 7 ⟨#[59]⟩ s1) (d++[v]) c i b)=some r):ev (qP L s d c i b)=some r:=by
 refine apa hL _ _ _ _ _ _ _ _ ?_ (Pv d) (by simpa using hl) s s1 v r he hk b0 f1 ?_
 ·cases d<;>simp
 ·have e:(d++[v]).isEmpty=false:=by cases d<;>rfl
  rw[←alu];simpa[qP,e] using hn
theorem ao3(s:St)(d:List Dt)(c:List Cl)(i:List It)(b:List Bd)(hl:c.length≤3000000)(s1:St)(v:Cl)(r:Rs)(he:s.e=0)(hk:(aX L s).kind≠0)(b0:iM L ⟨#[100,97,116,97]⟩ s=false)(b1:iM L ⟨#[99,108,97,115,115]⟩ s=true)(f1:ev (qCl L s.up)=some (0,eU L s1 (OC v)))(hn:ev (qP L (au L 7 ⟨#[59]⟩ s1) d (c++[v]) i b)=some r):ev (qP L s d c i b)=some r:=by
 refine ao9 hL _ _ _ _ _ _ _ _ ?_ (Pw c) (by simpa using hl) s s1 v r he hk b0 b1 f1 ?_
 ·cases c<;>simp
 ·have e:(c++[v]).isEmpty=false:=by cases c<;>rfl
  rw[←alv];simpa[qP,e] using hn
theorem ao2(s:St)(d:List Dt)(c:List Cl)(i:List It)(b:List Bd)(hl:i.length≤3000000)(s1:St)(v:It)(r:Rs)(he:s.e=0)(hk:(aX L s).kind≠0)(b0:iM L ⟨#[100,97,116,97]⟩ s=false)(b1:iM L ⟨#[99,108,97,115,115]⟩ s=false)(b2:iM L ⟨#[105,110,115,116,97,110,99,101]⟩ s=true)(f1:ev (qIt L s.up)=some (0,eU L s1 (Zf v)))(hn:ev (qP L (au L 7 ⟨#[59]⟩ s1) d c (i++[v]) b)=some r):ev (qP L s d c i b)=some r:=by
 refine ao8 hL _ _ _ _ _ _ _ _ ?_ (Ps i) (by simpa using hl) s s1 v r he hk b0 b1 b2 f1 ?_
 ·cases i<;>simp
 ·have e:(i++[v]).isEmpty=false:=by cases i<;>rfl
  rw[←alr];simpa[qP,e] using hn
theorem ao1(s:St)(d:List Dt)(c:List Cl)(i:List It)(b:List Bd)(hl:b.length≤3000000)(s1:St)(v:Bd)(r:Rs)(he:s.e=0)(hk:(aX L s).kind≠0)(b0:iM L ⟨#[100,97,116,97]⟩ s=false)(b1:iM L ⟨#[99,108,97,115,115]⟩ s=false)(b2:iM L ⟨#[105,110,115,116,97,110,99,101]⟩ s=false)(f1:ev (FC L (au L 6 ⟨#[100,101,102]⟩ s))=some (0,eU L s1 (iP v)))(hn:ev (qP L (au L 7 ⟨#[59]⟩ s1) d c i (b++[v]))=some r):ev (qP L s d c i b)=some r:=by
 refine ao7 hL _ _ _ _ _ _ _ _ ?_ (kR b) (by simpa using hl) s s1 v r he hk b0 b1 b2 f1 ?_
 ·cases b<;>simp
 ·have e:(b++[v]).isEmpty=false:=by cases b<;>rfl
  rw[←alx];simpa[qP,e] using hn
end
set_option maxRecDepth 10000
def Pg.Ok(p:Pg):Prop:=(p.datas.length≤dF∧∀x∈p.datas,x.Ok)∧(p.classes.length≤dF∧∀x∈p.classes,x.Ok)∧(p.insts.length≤dF∧∀x∈p.insts,x.Ok)∧(p.binds.length≤dF∧∀x∈p.binds,x.Ok)
structure PgP(n:Nat)(d:List Dt)(c:List Cl)(i:List It)(b:List Bd):Prop where
 od:∀x∈d,x.Ok
 oc:∀x∈c,x.Ok
 oi:∀x∈i,x.Ok
 ob:∀x∈b,x.Ok
 nd:d.length≤n
 nc:c.length≤n
 ni:i.length≤n
 nb:b.length≤n
def kB:Bool→Bool→Bool→Bool→Nat
 |false,false,false,false=>0
 |true,false,false,false=>8
 |false,true,false,false=>4
 |false,false,true,false=>2
 |false,false,false,true=>1
 |true,true,false,false=>12
 |true,false,true,false=>10
 |true,false,false,true=>9
 |false,true,true,false=>6
 |false,true,false,true=>5
 |false,false,true,true=>3
 |true,true,true,false=>14
 |true,true,false,true=>13
 |true,false,true,true=>11
 |false,true,true,true=>7
 |true,true,true,true=>15
section
variable{L:List Tk}(hL:L.length≤1000000)
include hL
theorem aco:∀(m:Nat) (s:St) (d:List Dt) (c:List Cl) (i:List It) (b:List Bd),mu L s≤m→s.a≤L.length→d.length+m≤2000000→c.length+m≤2000000→i.length+m≤2000000→b.length+m≤2000000→
  ∃(s':St) (d':List Dt) (c':List Cl) (i':List It) (b':List Bd),ev (qP L s d c i b)=some (fP L s' (d++d') (c++c') (i++i') (b++b'))∧PgP (mu L s) d' c' i' b'∧Gr (fun m=>eG L m ⟨⟨d,c,i⟩,b⟩) s s' ⟨⟨d++d',c++c',i++i'⟩,b++b'⟩:=by
 intro m
 induction m with
 |zero=>
  intro s d c i b hm hs _ _ _ _;have he:s.e≠0:=fun he=>by have:=bE (L:=L) he;omega
  exact⟨s,[],[],[],[],by simpa using Nh hL s d c i b (.inl he),⟨by simp,by simp,by simp,by simp,by simp,by simp,by simp,by simp⟩,.fault he rfl rfl⟩
 |succ m ih=>
  intro s d c i b hm hs h1 h2 h3 h4;by_cases he:s.e=0
  ·by_cases hk:(aX L s).kind=0
   ·exact⟨s,[],[],[],[],by simpa using Nh hL s d c i b (.inr hk),⟨by simp,by simp,by simp,by simp,by simp,by simp,by simp,by simp⟩,(Gr.fx (eG.eq_2 L _) (.kind_t hk .pure)).eq (by simp)⟩
   ·have hp:=bE (L:=L) he
    cases hb0:iM L ⟨#[100,97,116,97]⟩ s with
    |true=>
     obtain⟨b1,b2⟩:=bY hb0;obtain⟨v,s1,f1,f2,f3,f4,q1⟩:=aeZ hL (mu L s) s.up b2 (by omega);have t1:=aQ (L:=L) (k:=7) (x:=⟨#[59]⟩) (by decide) s1;have t2:=bC (L:=L) (k:=7) (x:=⟨#[59]⟩) (by decide) f2;obtain⟨s',d',c',i',b',g1,g,q2⟩:=ih (au L 7 ⟨#[59]⟩ s1) (d++[v]) c i b (by omega) t2 (by simp;omega) (by omega) (by omega) (by omega);have g0:=ao4 hL s d c i b (by omega) s1 v _ he hk hb0 f1 g1;rw[List.append_assoc] at g0;rw[List.append_assoc] at q2;exact⟨s',v::d',c',i',b',g0,⟨Vw f4 g.od,g.oc,g.oi,g.ob,by have:=g.nd;simp;omega,by have:=g.nc;omega,by have:=g.ni;omega,by have:=g.nb;omega⟩,.fx (eG.eq_2 L _) (.kind_f hk (.may_t hb0 (.bind q1 (.bind (.take _ _ _) q2))))⟩
    |false=>
     cases hb1:iM L ⟨#[99,108,97,115,115]⟩ s with
     |true=>
      obtain⟨b1,b2⟩:=bY hb1;obtain⟨v,s1,f1,f2,f3,f4,q1⟩:=aaM hL (mu L s) s.up b2 (by omega);have t1:=aQ (L:=L) (k:=7) (x:=⟨#[59]⟩) (by decide) s1;have t2:=bC (L:=L) (k:=7) (x:=⟨#[59]⟩) (by decide) f2;obtain⟨s',d',c',i',b',g1,g,q2⟩:=ih (au L 7 ⟨#[59]⟩ s1) d (c++[v]) i b (by omega) t2 (by omega) (by simp;omega) (by omega) (by omega);have g0:=ao3 hL s d c i b (by omega) s1 v _ he hk hb0 hb1 f1 g1;rw[List.append_assoc] at g0;rw[List.append_assoc] at q2;exact⟨s',d',v::c',i',b',g0,⟨g.od,Vw f4 g.oc,g.oi,g.ob,by have:=g.nd;omega,by have:=g.nc;simp;omega,by have:=g.ni;omega,by have:=g.nb;omega⟩,.fx (eG.eq_2 L _) (.kind_f hk (.may_f hb0 (.may_t hb1 (.bind q1 (.bind (.take _ _ _) q2)))))⟩
     |false=>
      cases hb2:iM L ⟨#[105,110,115,116,97,110,99,101]⟩ s with
      |true=>
       obtain⟨b1,b2⟩:=bY hb2;obtain⟨v,s1,f1,f2,f3,f4,q1⟩:=adq hL (mu L s) s.up b2 (by omega);have t1:=aQ (L:=L) (k:=7) (x:=⟨#[59]⟩) (by decide) s1;have t2:=bC (L:=L) (k:=7) (x:=⟨#[59]⟩) (by decide) f2;obtain⟨s',d',c',i',b',g1,g,q2⟩:=ih (au L 7 ⟨#[59]⟩ s1) d c (i++[v]) b (by omega) t2 (by omega) (by omega) (by simp;omega) (by omega);have g0:=ao2 hL s d c i b (by omega) s1 v _ he hk hb0 hb1 hb2 f1 g1;rw[List.append_assoc] at g0;rw[List.append_assoc] at q2;exact⟨s',d',c',v::i',b',g0,⟨g.od,g.oc,Vw f4 g.oi,g.ob,by have:=g.nd;omega,by have:=g.nc;omega,by have:=g.ni;simp;omega,by have:=g.nb;omega⟩,.fx (eG.eq_2 L _) (.kind_f hk (.may_f hb0 (.may_f hb1 (.may_t hb2 (.bind q1 (.bind (.take _ _ _) q2))))))⟩
      |false=>
       have q1':=aQ (L:=L) (k:=6) (x:=⟨#[100,101,102]⟩) (by decide) s;have q2':=bC (L:=L) (k:=6) (x:=⟨#[100,101,102]⟩) (by decide) hs;obtain⟨v,s1,f1,f2,f3,f4,q1⟩:=xX hL (mu L s) (au L 6 ⟨#[100,101,102]⟩ s) q2' (by omega);have t1:=aQ (L:=L) (k:=7) (x:=⟨#[59]⟩) (by decide) s1;have t2:=bC (L:=L) (k:=7) (x:=⟨#[59]⟩) (by decide) f2;obtain⟨s',d',c',i',b',g1,g,q2⟩:=ih (au L 7 ⟨#[59]⟩ s1) d c i (b++[v]) (by omega) t2 (by omega) (by omega) (by omega) (by simp;omega);have g0:=ao1 hL s d c i b (by omega) s1 v _ he hk hb0 hb1 hb2 f1 g1;rw[List.append_assoc] at g0;rw[List.append_assoc] at q2;exact⟨s',d',c',i',v::b',g0,⟨g.od,g.oc,g.oi,Vw f4 g.ob,by have:=g.nd;omega,by have:=g.nc;omega,by have:=g.ni;omega,by have:=g.nb;simp;omega⟩,.fx (eG.eq_2 L _) (.kind_f hk (.may_f hb0 (.may_f hb1 (.may_f hb2 (.bind (.take _ _ _) (.bind q1 (.bind (.take _ _ _) q2)))))))⟩
  ·exact⟨s,[],[],[],[],by simpa using Nh hL s d c i b (.inl he),⟨by simp,by simp,by simp,by simp,by simp,by simp,by simp,by simp⟩,.fault he rfl rfl⟩
def RPr(b:ByteArray)(r:Rz Pg):Prop:=match r with
 |.out=>False
 |.ok v _=>ev (UI (sv b))=some (0,[jm v.datas,cls v.classes,its v.insts,bn v.binds,iv 0,iv 0])∧v.Ok
 |.err e w=>e≠0∧ev (UI (sv b))=some (0,[.rows [],.rows [],.rows [],.rows [],iv e,iv w])
theorem Yi(b:ByteArray)(s:St)(hs:s.a≤L.length)(hz:s.e=0→s.lv=0∧s.a=0)(hb:ev (q22 (sv b))=some (0,eU L s [])):(s.e=0→∃m0,∀m,m0≤m→RPr b (eG L m ⟨⟨[],[],[]⟩,[]⟩ 0 0))∧(s.e≠0→RPr b (.err s.e s.w)):=by
 have hml:=kV L s;obtain⟨s',d,c,i,bs,g1,g,q1⟩:=aco hL (mu L s) s [] [] [] [] (Nat.le_refl _) hs (by simp;omega) (by simp;omega) (by simp;omega) (by simp;omega);simp only[List.nil_append] at g1 q1;have hq:∃(k:Nat) (x0 x1 x2 x3:PV),ev (q11 (sv b))=some (if s'.e=0 then(k,[x0,x1,x2,x3,iv 0,iv 0]) else(0,[aF,aF,aF,aF,iv s'.e,iv s'.w]))∧ED x0=jm d∧ED x1=cls c∧ED x2=its i∧ED x3=bn bs:=by
  refine⟨kB (!d.isEmpty) (!c.isEmpty) (!i.isEmpty) (!bs.isEmpty),dA (!d.isEmpty) (jm d),dA (!c.isEmpty) (cls c),dA (!i.isEmpty) (its i),dA (!bs.isEmpty) (bn bs),ax.of ?_,?_,?_,?_,?_⟩
  ·rw[h11]
   simp[hb];simp only[qP,fP,List.map_nil,List.isEmpty_nil,Bool.not_true] at g1;generalize (!d.isEmpty)=c0 at *;generalize (!c.isEmpty)=c1 at *;generalize (!i.isEmpty)=c2 at *;generalize (!bs.isEmpty)=c3 at *;cases c0<;>cases c1<;>cases c2<;>cases c3
   all_goals
    simp only[kF,kB,dA] at g1 ⊢;simp only[qF] at g1;simp[g1];by_cases he:s'.e=0
    ·simp[he]
    ·simp[he]
  ·cases d<;>rfl
  ·cases c<;>rfl
  ·cases i<;>rfl
  ·cases bs<;>rfl
 obtain⟨k,x0,x1,x2,x3,hq,e0,e1,e2,e3⟩:=hq;have hw:ev (UI (sv b))=some (0,if s'.e=0 then [jm d,cls c,its i,bn bs,iv 0,iv 0] else [.rows [],.rows [],.rows [],.rows [],iv s'.e,iv s'.w]):=ax.of (by
  rw[aqW ev,hq];by_cases he:s'.e=0
  ·simp[he,gN,e0,e1,e2,e3]
  ·simp[he,gN])
 obtain⟨m0,hm0⟩:=q1;refine⟨fun he=>⟨m0,fun m hm=>?_⟩,fun he=>?_⟩
 ·obtain⟨z1,z2⟩:=hz he
  have h:=(hm0 m hm).2 he (by omega) (by omega);rw[z1,z2] at h;dsimp only at h;cases hr:eG L m ⟨⟨[],[],[]⟩,[]⟩ 0 0 with
  |out=>rw[hr] at h;exact h
  |err e w=>
   rw[hr] at h;obtain⟨h1,rfl,rfl⟩:=h;exact⟨h1,by rw[hw,if_neg h1]⟩
  |ok v a=>
   rw[hr] at h;obtain⟨rfl,hf⟩:=h;refine⟨by rw[hw,if_pos hf.e],?_⟩;have:=g.nd;have:=g.nc;have:=g.ni;have:=g.nb;exact⟨⟨by unfold dF;simp only;omega,g.od⟩,⟨by unfold dF;simp only;omega,g.oc⟩,⟨by unfold dF;simp only;omega,g.oi⟩,by unfold dF;simp only;omega,g.ob⟩
 ·obtain⟨h1,h2⟩:=(hm0 m0 (Nat.le_refl _)).1 he
  exact⟨he,by rw[hw,if_neg (by rw[h1];exact he),h1,h2]⟩
end
theorem uS:PG.underlying 9=some .string:=by kernel_rfl
theorem u8:PG.underlying 5=some (.int .u8):=by kernel_rfl
theorem uI:PG.underlying 3=some (.int .i64):=by kernel_rfl
theorem uL:PG.underlying 2=some (.int .i64):=by kernel_rfl
theorem uU:PG.underlying 183=some (.int .u64):=by kernel_rfl
theorem uB:PG.underlying 180=some (.slice 5):=by kernel_rfl
section
variable{β:Type}{d:β}{k:AV→β}
@[simp] theorem auj(s:ByteArray):gm PG d 9 (.pv (sv s)) k=k (.pv (iv s.size)):=YZ uS s
theorem nQ{s:ByteArray}{i:Nat}(hi:i<s.size):Lr PG d 9 (.pv (sv s)) (.pv (iv i)) k=k (.pv (cv (byt s i))):=Zj uS hi
theorem abT{s:ByteArray}{l m:Nat}(hl:l≤m)(hm:m≤s.size):EO PG d 9 (.pv (sv s)) (some (.pv (iv l))) (some (.pv (iv m))) k=k (.pv (sv (s.extract l m))):=V6 uS hl hm
@[simp] theorem arn(n:Int):rG PG d 5 3 (.pv (cv n)) k=k (.pv (iv (IntKind.i64.wrap n))):=uD u8 uI n
@[simp] theorem arl(n:Int):rG PG d 5 183 (.pv (cv n)) k=k (.pv (wv (IntKind.u64.wrap n))):=uD u8 uU n
@[simp] theorem arj(n:Int):rG PG d 183 2 (.pv (wv n)) k=k (.pv (iv (IntKind.i64.wrap n))):=uD uU uL n
@[simp] theorem ark(n:Int):rG PG d 2 183 (.pv (iv n)) k=k (.pv (wv (IntKind.u64.wrap n))):=uD uL uU n
end
theorem uH{i j:Nat}(hj:j=i+1)(h:i≤1000000000):IntKind.i64.wrap ((i:Int)+1)=(j:Int):=by rw[aJ (by omega)];omega
theorem abD{i j k:Nat}(hj:j=i+k)(h:i+k≤1000000000):IntKind.i64.wrap ((i:Int)+(k:Int))=(j:Int):=by rw[aJ (by omega)];omega
end Go.Proofs.YtijcobeebaceoaaGreatDoor
namespace Go.Proofs.YtijcobeebaceoaaGreatDoor
open Go.RowKit
def uM(l:List Int):List (List PV):=l.map fun n=>[cv n]
theorem aoE:iY PG 180 1 1:=iY.of (by kernel_rfl)
theorem ahm(l:List Int):Raw 1 (uM l) (uM l):=.of l (fun x=>by simp) (fun x=>rfl) (fun x=>by simp)
theorem afg(l:List Int)(n:Int)(k:PV→aK)(hl:l.length≤3000000):lu PG .fail 180 (.pv (.rows (uM l))) (.pv (.rows [[cv n]])) k=k (.rows (uM (l++[n]))):=by
 rw[aN (P:=PG) (d:=.fail) aoE (ahm l) (c:=[cv n]) rfl (by simp) (by simp[uM];omega) (by decide)];simp[uM]
theorem aiW(l:List Int)(k:AV→aK):rG PG .fail 180 9 (.pv (.rows (uM l))) k=k (.pv (sv (J3 l))):=LX uB u8 uS l
theorem Hf{q q':Q}(h:body PG EE TT ev q=gX (ev q')){r:Rs}(hr:ev q'=some r):ev q=some r:=ax.of (by rw[h,hr];rfl)
theorem afv(n:Int)(k:AV→aK):jH PG .fail .rem 183 (.pv (wv n)) (.pv (wv 9223372036854775808)) k=k (.pv (wv (n.tmod 9223372036854775808))):=Jl (by decide)
abbrev D(b:ByteArray)(i:Nat):List UInt8:=b.data.toList.drop i
theorem cO{b:ByteArray}{i:Nat}(h:i<b.size):D b i=b[i]::D b (i+1):=Lx.drop_at b i h
theorem oZ{b:ByteArray}{i:Nat}(h:b.size≤i):D b i=[]:=List.drop_eq_nil_of_le (by simpa using h)
theorem mX(b:ByteArray)(i:Nat):(D b i).length=b.size-i:=by rw[List.length_drop];rfl
theorem iF{b:ByteArray}{i:Nat}(h:i<b.size):byt b i=(b[i].toNat:Int):=by
 unfold byt;rw[List.getD_eq_getElem?_getD,Array.getElem?_toList,Array.getElem?_eq_getElem (by simpa using h)];rfl
theorem ae7(c:UInt8):ev (ak6 (cv (c.toNat:Int)))=some (0,[bv (Lx.blankB c)]):=ax.of (by
 rw[aqZ];by_cases h0:(c.toNat:Int)=32
 ·by_cases h1:(c.toNat:Int)=9
  ·by_cases h2:(c.toNat:Int)=10
   ·by_cases h3:(c.toNat:Int)=13
    ·cases hb:Lx.blankB c<;>(unfold Lx.blankB at hb;simp at hb;first|(exfalso;omega)|(simp[h0,h1,h2,h3]))
    ·cases hb:Lx.blankB c<;>(unfold Lx.blankB at hb;simp at hb;first|(exfalso;omega)|(simp[h0,h1,h2,h3]))
   ·by_cases h3:(c.toNat:Int)=13
    ·cases hb:Lx.blankB c<;>(unfold Lx.blankB at hb;simp at hb;first|(exfalso;omega)|(simp[h0,h1,h2,h3]))
    ·cases hb:Lx.blankB c<;>(unfold Lx.blankB at hb;simp at hb;first|(exfalso;omega)|(simp[h0,h1,h2,h3]))
  ·by_cases h2:(c.toNat:Int)=10
   ·by_cases h3:(c.toNat:Int)=13
    ·cases hb:Lx.blankB c<;>(unfold Lx.blankB at hb;simp at hb;first|(exfalso;omega)|(simp[h0,h1,h2,h3]))
    ·cases hb:Lx.blankB c<;>(unfold Lx.blankB at hb;simp at hb;first|(exfalso;omega)|(simp[h0,h1,h2,h3]))
   ·by_cases h3:(c.toNat:Int)=13
    ·cases hb:Lx.blankB c<;>(unfold Lx.blankB at hb;simp at hb;first|(exfalso;omega)|(simp[h0,h1,h2,h3]))
    ·cases hb:Lx.blankB c<;>(unfold Lx.blankB at hb;simp at hb;first|(exfalso;omega)|(simp[h0,h1,h2,h3]))
 ·by_cases h1:(c.toNat:Int)=9
  ·by_cases h2:(c.toNat:Int)=10
   ·by_cases h3:(c.toNat:Int)=13
    ·cases hb:Lx.blankB c<;>(unfold Lx.blankB at hb;simp at hb;first|(exfalso;omega)|(simp[h0,h1,h2,h3]))
    ·cases hb:Lx.blankB c<;>(unfold Lx.blankB at hb;simp at hb;first|(exfalso;omega)|(simp[h0,h1,h2,h3]))
   ·by_cases h3:(c.toNat:Int)=13
    ·cases hb:Lx.blankB c<;>(unfold Lx.blankB at hb;simp at hb;first|(exfalso;omega)|(simp[h0,h1,h2,h3]))
    ·cases hb:Lx.blankB c<;>(unfold Lx.blankB at hb;simp at hb;first|(exfalso;omega)|(simp[h0,h1,h2,h3]))
  ·by_cases h2:(c.toNat:Int)=10
   ·by_cases h3:(c.toNat:Int)=13
    ·cases hb:Lx.blankB c<;>(unfold Lx.blankB at hb;simp at hb;first|(exfalso;omega)|(simp[h0,h1,h2,h3]))
    ·cases hb:Lx.blankB c<;>(unfold Lx.blankB at hb;simp at hb;first|(exfalso;omega)|(simp[h0,h1,h2,h3]))
   ·by_cases h3:(c.toNat:Int)=13
    ·cases hb:Lx.blankB c<;>(unfold Lx.blankB at hb;simp at hb;first|(exfalso;omega)|(simp[h0,h1,h2,h3]))
    ·cases hb:Lx.blankB c<;>(unfold Lx.blankB at hb;simp at hb;first|(exfalso;omega)|(simp[h0,h1,h2,h3])))
theorem l6(c:UInt8):ev (ak4 (cv (c.toNat:Int)))=some (0,[bv (Lx.digitB c)]):=ax.of (by
 rw[aqY];by_cases h0:(48:Int)≤c.toNat
 ·by_cases h1:(c.toNat:Int)≤57
  ·cases hb:Lx.digitB c<;>(unfold Lx.digitB at hb;simp at hb;first|(exfalso;omega)|(simp[h0,h1]))
  ·cases hb:Lx.digitB c<;>(unfold Lx.digitB at hb;simp at hb;first|(exfalso;omega)|(simp[h0,h1]))
 ·by_cases h1:(c.toNat:Int)≤57
  ·cases hb:Lx.digitB c<;>(unfold Lx.digitB at hb;simp at hb;first|(exfalso;omega)|(simp[h0,h1]))
  ·cases hb:Lx.digitB c<;>(unfold Lx.digitB at hb;simp at hb;first|(exfalso;omega)|(simp[h0,h1])))
theorem ol(c:UInt8):ev (ak3 (cv (c.toNat:Int)))=some (0,[bv (Lx.lowB c)]):=ax.of (by
 rw[aqX];by_cases h0:(97:Int)≤c.toNat
 ·by_cases h1:(c.toNat:Int)≤122
  ·by_cases h2:(c.toNat:Int)=95
   ·cases hb:Lx.lowB c<;>(unfold Lx.lowB at hb;simp at hb;first|(exfalso;omega)|(simp[h0,h1,h2]))
   ·cases hb:Lx.lowB c<;>(unfold Lx.lowB at hb;simp at hb;first|(exfalso;omega)|(simp[h0,h1,h2]))
  ·by_cases h2:(c.toNat:Int)=95
   ·cases hb:Lx.lowB c<;>(unfold Lx.lowB at hb;simp at hb;first|(exfalso;omega)|(simp[h0,h1,h2]))
   ·cases hb:Lx.lowB c<;>(unfold Lx.lowB at hb;simp at hb;first|(exfalso;omega)|(simp[h0,h1,h2]))
 ·by_cases h1:(c.toNat:Int)≤122
  ·by_cases h2:(c.toNat:Int)=95
   ·cases hb:Lx.lowB c<;>(unfold Lx.lowB at hb;simp at hb;first|(exfalso;omega)|(simp[h0,h1,h2]))
   ·cases hb:Lx.lowB c<;>(unfold Lx.lowB at hb;simp at hb;first|(exfalso;omega)|(simp[h0,h1,h2]))
  ·by_cases h2:(c.toNat:Int)=95
   ·cases hb:Lx.lowB c<;>(unfold Lx.lowB at hb;simp at hb;first|(exfalso;omega)|(simp[h0,h1,h2]))
   ·cases hb:Lx.lowB c<;>(unfold Lx.lowB at hb;simp at hb;first|(exfalso;omega)|(simp[h0,h1,h2])))
theorem oH(c:UInt8):ev (ak2 (cv (c.toNat:Int)))=some (0,[bv (Lx.upB c)]):=ax.of (by
 rw[h119];by_cases h0:(65:Int)≤c.toNat
 ·by_cases h1:(c.toNat:Int)≤90
  ·cases hb:Lx.upB c<;>(unfold Lx.upB at hb;simp at hb;first|(exfalso;omega)|(simp[h0,h1]))
  ·cases hb:Lx.upB c<;>(unfold Lx.upB at hb;simp at hb;first|(exfalso;omega)|(simp[h0,h1]))
 ·by_cases h1:(c.toNat:Int)≤90
  ·cases hb:Lx.upB c<;>(unfold Lx.upB at hb;simp at hb;first|(exfalso;omega)|(simp[h0,h1]))
  ·cases hb:Lx.upB c<;>(unfold Lx.upB at hb;simp at hb;first|(exfalso;omega)|(simp[h0,h1])))
theorem aic(c:UInt8):ev (akR (cv (c.toNat:Int)))=some (0,[bv (Lx.insideB c)]):=ax.of (by
 rw[aqQ];unfold Lx.insideB;cases h1:Lx.lowB c
 ·cases h2:Lx.upB c
  ·cases h3:Lx.digitB c
   ·by_cases h4:(c.toNat:Int)=39
    ·have h5:c.toNat=39:=by omega
     simp[ol,oH,l6,h1,h2,h3,show decide ((c.toNat:Int)=39)=true from decide_eq_true h4,show decide (c.toNat=39)=true from decide_eq_true h5,-decide_eq_true_eq]
    ·have h5:¬c.toNat=39:=by omega
     simp[ol,oH,l6,h1,h2,h3,h4,h5]
   ·simp[ol,oH,l6,h1,h2,h3]
  ·simp[ol,oH,l6,h1,h2]
 ·simp[ol,oH,l6,h1])
theorem alI(t:ByteArray)(c:UInt8)(ht:t.size≤1000000):∀(m i:Nat),t.size-i≤m→ev (GZ (iv i) (sv t) (cv (c.toNat:Int)))=some (if(D t i).contains c then(0,[bv true]) else(1,[])):=by
 intro m
 induction m with
 |zero=>
  intro i hi;rw[oZ (by omega)];exact ax.of (by rw[Bo];simp[show ¬(i:Int)<(t.size:Int) by omega])
 |succ m ih=>
  intro i hi;by_cases h1:i<t.size
  ·have h1':(i:Int)<(t.size:Int):=by omega
   have hx:=fun(k:AV→aK)=>nQ (d:=aK.fail) (k:=k) h1
   obtain⟨j,hj⟩:∃j,j=i+1:=⟨_,rfl⟩;have e1:=uH hj (by omega);have hc:=ih j (by omega);rw[cO h1,←hj,List.contains_cons];rw[iF h1] at hx;by_cases h2:t[i]=c
   ·have h3:(c==t[i])=true:=by rw[h2];exact beq_self_eq_true c
    rw[h3,Bool.true_or];exact ax.of (by rw[Bo];simp[h1',hx,h2])
   ·have h3:(c==t[i])=false:=by rw[beq_eq_false_iff_ne];exact fun e=>h2 e.symm
    have h4:¬(t[i].toNat:Int)=(c.toNat:Int):=by
     intro e;apply h2;apply UInt8.toNat_inj.1;omega
    rw[h3,Bool.false_or];exact ax.of (by rw[Bo];simp[h1',hx,h4,e1,hc])
  ·rw[oZ (by omega)]
   exact ax.of (by rw[Bo];simp[show ¬(i:Int)<(t.size:Int) by omega])
theorem ain(t:ByteArray)(c:UInt8)(ht:t.size≤1000000):ev (akS (sv t) (cv (c.toNat:Int)))=some (0,[bv (t.data.toList.contains c)]):=ax.of (by
 have hc:ev (GZ (iv 0) (sv t) (cv (c.toNat:Int)))=_:=alI t c ht t.size 0 (by omega);rw[show D t 0=t.data.toList from rfl] at hc;rw[aqR];cases hb:t.data.toList.contains c<;>(rw[hb] at hc;simp[hc]))
theorem Gh(c:UInt8):ev (ak0 (cv (c.toNat:Int)))=some (0,[bv (Lx.symB c)]):=ax.of (by
 have f:=ain ⟨#[33,36,37,38,42,43,46,47,60,61,62,63,64,94,124,126,58,45]⟩ c (by decide);have e:(⟨#[33,36,37,38,42,43,46,47,60,61,62,63,64,94,124,126,58,45]⟩:ByteArray).data.toList.contains c=Lx.symB c:=rfl;rw[e] at f;rw[aqV];cases hb:Lx.symB c<;>(rw[hb] at f;simp[f]))
theorem abh(x:ByteArray)(l:List ByteArray)(hl:l.length≤1000000):∀(m i:Nat),l.length-i≤m→ev (GY (iv i) (strs l) (sv x))=some (if(l.drop i).any (fun y=>decide (y=x)) then(0,[bv true]) else(1,[])):=by
 intro m
 induction m with
 |zero=>
  intro i hi;rw[List.drop_eq_nil_of_le (by omega)];exact ax.of (by rw[Bn];simp[show ¬(i:Int)<(l.length:Int) by omega])
 |succ m ih=>
  intro i hi;by_cases h1:i<l.length
  ·have h1':(i:Int)<(l.length:Int):=by omega
   have hx:=fun(k:AV→aK)=>cK (d:=aK.fail) (k:=k) (List.getElem?_eq_getElem h1)
   obtain⟨j,hj⟩:∃j,j=i+1:=⟨_,rfl⟩;have e1:=uH hj (by omega);have hc:=ih j (by omega);rw[List.drop_eq_getElem_cons h1,←hj,List.any_cons];by_cases h2:l[i]=x
   ·simp only[h2,decide_true,Bool.true_or]
    exact ax.of (by rw[Bn];simp[h1',hx,h2])
   ·simp only[h2,decide_false,Bool.false_or]
    exact ax.of (by rw[Bn];simp[h1',hx,h2,e1,hc])
  ·rw[List.drop_eq_nil_of_le (by omega)]
   exact ax.of (by rw[Bn];simp[show ¬(i:Int)<(l.length:Int) by omega])
theorem Uh(x:ByteArray)(l:List ByteArray)(hl:l.length≤1000000):ev (akQ (sv x) (strs l))=some (0,[bv (l.any (fun y=>decide (y=x)))]):=ax.of (by
 have hc:ev (GY (iv 0) (strs l) (sv x))=_:=abh x l hl l.length 0 (by omega);rw[List.drop_zero] at hc;rw[aqP];cases hb:l.any (fun y=>decide (y=x))<;>(rw[hb] at hc;simp[hc]))
theorem abt(x:ByteArray):([⟨#[40]⟩,⟨#[41]⟩,⟨#[44]⟩,⟨#[59]⟩,⟨#[92]⟩,⟨#[95]⟩,⟨#[61]⟩,⟨#[45,62]⟩,⟨#[124]⟩,⟨#[58]⟩]:List ByteArray).any (fun y=>decide (y=x))=Lx.markB x:=by
 unfold Lx.markB Lx.markList;rw[List.contains_eq_any_beq];simp only[List.any_cons,List.any_nil];have e:∀(l:List UInt8),decide ((⟨l.toArray⟩:ByteArray)=x)=(x.toList==l):=by
  intro l;rw[Bool.eq_iff_iff,decide_eq_true_eq,beq_iff_eq];constructor
  ·rintro rfl;exact Lx.textOf_toList l
  ·intro h
   have:=Lx.text_eq (s:=x) (x:=l) (by rw[←h];exact(ByteArray.toList_eq x).symm);exact this.symm
 simp only[←e]
theorem OX(x:ByteArray):ev (akZ (sv x))=some (0,[bv (Lx.markB x)]):=ax.of (by
 have f:=Uh x [⟨#[40]⟩,⟨#[41]⟩,⟨#[44]⟩,⟨#[59]⟩,⟨#[92]⟩,⟨#[95]⟩,⟨#[61]⟩,⟨#[45,62]⟩,⟨#[124]⟩,⟨#[58]⟩] (by decide);rw[abt] at f;simp only[strs,List.map_cons,List.map_nil] at f;rw[aqU];cases hb:Lx.markB x<;>(rw[hb] at f;simp[f]))
theorem afn(x:ByteArray):([⟨#[100,97,116,97]⟩,⟨#[99,108,97,115,115]⟩,⟨#[105,110,115,116,97,110,99,101]⟩,⟨#[102,114,111,109]⟩,⟨#[119,104,101,114,101]⟩,⟨#[101,110,100]⟩,⟨#[100,101,114,105,118,105,110,103]⟩,⟨#[100,101,102]⟩,⟨#[108,101,116]⟩,⟨#[114,101,99]⟩,⟨#[97,110,100]⟩,⟨#[105,110]⟩,⟨#[99,97,115,101]⟩,⟨#[111,102]⟩,⟨#[105,102]⟩,⟨#[116,104,101,110]⟩,⟨#[101,108,115,101]⟩]:List ByteArray).any (fun y=>decide (y=x))=Lx.keyB x:=by
 unfold Lx.keyB Lx.keyList;rw[List.contains_eq_any_beq];simp only[List.any_cons,List.any_nil];have e:∀(l:List UInt8),decide ((⟨l.toArray⟩:ByteArray)=x)=(x.toList==l):=by
  intro l;rw[Bool.eq_iff_iff,decide_eq_true_eq,beq_iff_eq];constructor
  ·rintro rfl;exact Lx.textOf_toList l
  ·intro h
   have:=Lx.text_eq (s:=x) (x:=l) (by rw[←h];exact(ByteArray.toList_eq x).symm);exact this.symm
 simp only[←e]
theorem abu(x:ByteArray):ev (akY (sv x))=some (0,[bv (Lx.keyB x)]):=ax.of (by
 have f:=Uh x [⟨#[100,97,116,97]⟩,⟨#[99,108,97,115,115]⟩,⟨#[105,110,115,116,97,110,99,101]⟩,⟨#[102,114,111,109]⟩,⟨#[119,104,101,114,101]⟩,⟨#[101,110,100]⟩,⟨#[100,101,114,105,118,105,110,103]⟩,⟨#[100,101,102]⟩,⟨#[108,101,116]⟩,⟨#[114,101,99]⟩,⟨#[97,110,100]⟩,⟨#[105,110]⟩,⟨#[99,97,115,101]⟩,⟨#[111,102]⟩,⟨#[105,102]⟩,⟨#[116,104,101,110]⟩,⟨#[101,108,115,101]⟩] (by decide);rw[afn] at f;simp only[strs,List.map_cons,List.map_nil] at f;rw[h122];cases hb:Lx.keyB x<;>(rw[hb] at f;simp[f]))
theorem uG{p:UInt8→Bool}{b:ByteArray}{i:Nat}(h:i<b.size)(hp:p b[i]=true):Lx.adv p b i=Lx.adv p b (i+1):=by
 unfold Lx.adv;rw[show b.data.toList.drop i=b[i]::b.data.toList.drop (i+1) from cO h,List.takeWhile_cons_of_pos hp,List.length_cons];omega
theorem JD{p:UInt8→Bool}{b:ByteArray}{i:Nat}(h:i<b.size)(hp:p b[i]=false):Lx.adv p b i=i:=by
 unfold Lx.adv;rw[show b.data.toList.drop i=b[i]::b.data.toList.drop (i+1) from cO h,List.takeWhile_cons_of_neg (by simp[hp])];rfl
theorem oW{p:UInt8→Bool}{b:ByteArray}{i:Nat}(h:b.size≤i):Lx.adv p b i=i:=by
 unfold Lx.adv;rw[show b.data.toList.drop i=[] from oZ h];rfl
theorem R6(b:ByteArray)(hb:b.size≤1000000):∀(m i:Nat),b.size-i≤m→ev (Nk (iv i) (sv b))=some (0,[iv (Lx.adv Lx.lineB b i:Nat),sv b]):=by
 intro m
 induction m with
 |zero=>exact fun i hi=>by rw[oW (by omega)];exact ax.of (by rw[Iq];simp[show ¬(i:Int)<(b.size:Int) by omega])
 |succ m ih=>
  intro i hi;by_cases h1:i<b.size
  ·have h1':(i:Int)<(b.size:Int):=by omega
   have hx:=fun(k:AV→aK)=>nQ (d:=aK.fail) (k:=k) h1
   rw[iF h1] at hx;obtain⟨j,hj⟩:∃j,j=i+1:=⟨_,rfl⟩;have e1:=uH hj (by omega);by_cases h2:b[i].toNat=10
   ·rw[JD h1 (by simp[Lx.lineB,h2])]
    have h3:(b[i].toNat:Int)=10:=by omega
    rw[h3] at hx;exact ax.of (by rw[Iq];simp[h1',hx])
   ·rw[uG h1 (by simp[Lx.lineB,h2]),←hj]
    have h3:¬(b[i].toNat:Int)=10:=by omega
    have g:=ih j (by omega);exact ax.of (by rw[Iq];simp[h1',hx,h3,e1,g])
  ·rw[oW (by omega)]
   exact ax.of (by rw[Iq];simp[show ¬(i:Int)<(b.size:Int) by omega])
theorem M6{b:ByteArray}{i:Nat}(h:i<b.size)(hc:Lx.blankB b[i]=true):Lx.skipPos b i=Lx.skipPos b (i+1):=by
 unfold Lx.skipPos;rw[show b.data.toList.drop i=b[i]::b.data.toList.drop (i+1) from cO h];simp[Lx.skipC,hc]
theorem Wp{b:ByteArray}{i:Nat}(h:i<b.size)(hc:Lx.blankB b[i]=false)(h2:b[i].toNat=35):Lx.skipPos b i=Lx.skipPos b (Lx.adv Lx.lineB b (i+1)):=by
 unfold Lx.skipPos;rw[Lx.adv_drop,←Lx.skipC_line,show b.data.toList.drop i=b[i]::b.data.toList.drop (i+1) from cO h];simp[Lx.skipC,hc,h2]
theorem Wq{b:ByteArray}{i:Nat}(h:i<b.size)(hc:Lx.blankB b[i]=false)(h2:¬b[i].toNat=35):Lx.skipPos b i=i:=by
 unfold Lx.skipPos;rw[show b.data.toList.drop i=b[i]::b.data.toList.drop (i+1) from cO h];have hl:=mX b (i+1);simp[Lx.skipC,hc,h2];omega
theorem J8{b:ByteArray}{i:Nat}(h:b.size≤i):Lx.skipPos b i=b.size:=by
 unfold Lx.skipPos;rw[show b.data.toList.drop i=[] from oZ h];simp[Lx.skipC]
theorem acP(b:ByteArray)(hb:b.size≤1000000):∀(m i:Nat),b.size-i≤m→i≤b.size→ev (Xe (iv i) (sv b))=some (0,[iv (Lx.skipPos b i:Nat)]):=by
 intro m
 induction m with
 |zero=>exact fun i hi hl=>by rw[J8 (by omega),show b.size=i by omega];exact ax.of (by rw[Dw];simp[show ¬(i:Int)<(b.size:Int) by omega])
 |succ m ih=>
  intro i hi hl;by_cases h1:i<b.size
  ·have h1':(i:Int)<(b.size:Int):=by omega
   have hx:=fun(k:AV→aK)=>nQ (d:=aK.fail) (k:=k) h1
   rw[iF h1] at hx;have hb0:=ae7 b[i];obtain⟨j,hj⟩:∃j,j=i+1:=⟨_,rfl⟩;have e1:=uH hj (by omega);cases hc:Lx.blankB b[i] with
   |true=>
    rw[hc] at hb0;have h2:¬(b[i].toNat:Int)=35:=by
     intro e;unfold Lx.blankB at hc;rw[decide_eq_true_eq] at hc;omega
    rw[M6 h1 hc,←hj];have f:=ih j (by omega) (by omega);exact ax.of (by rw[Dw];simp[h1',hx,h2,hb0,e1,f])
   |false=>
    rw[hc] at hb0;by_cases h2:b[i].toNat=35
    ·have h2':(b[i].toNat:Int)=35:=by omega
     rw[Wp h1 hc h2,←hj];have g:=R6 b hb m i;have gi:ev (Nk (iv i) (sv b))=some (0,[iv (Lx.adv Lx.lineB b j:Nat),sv b]):=by
      rw[R6 b hb _ i (Nat.le_refl _),uG h1 (by simp[Lx.lineB,h2]),←hj]
     have hle:=Lx.adv_le Lx.lineB b j (by omega);have hge:=Lx.adv_ge Lx.lineB b j;have f:=ih (Lx.adv Lx.lineB b j) (by omega) hle;rw[h2'] at hx hb0;exact ax.of (by rw[Dw];simp[h1',hx,hb0,gi,f])
    ·have h2':¬(b[i].toNat:Int)=35:=by omega
     rw[Wq h1 hc h2];exact ax.of (by rw[Dw];simp[h1',hx,h2',hb0])
  ·rw[J8 (by omega),show b.size=i by omega]
   exact ax.of (by rw[Dw];simp[show ¬(i:Int)<(b.size:Int) by omega])
theorem Yu(b:ByteArray)(hb:b.size≤1000000)(i:Nat)(hi:i≤b.size):ev (q84 (sv b) (iv i))=some (0,[iv (Lx.skipPos b i:Nat)]):=
 ax.of (by rw[h84];simp[acP b hb _ i (Nat.le_refl _) hi])
theorem aeX(b:ByteArray)(hb:b.size≤1000000):∀(m i:Nat),b.size-i≤m→ev (AF (iv i) (sv b) (iv 1))=some (0,[iv (Lx.adv Lx.insideB b i:Nat)]):=by
 intro m
 induction m with
 |zero=>exact fun i hi=>by rw[oW (by omega)];exact ax.of (by rw[jU];simp[show ¬(i:Int)<(b.size:Int) by omega])
 |succ m ih=>
  intro i hi;by_cases h1:i<b.size
  ·have h1':(i:Int)<(b.size:Int):=by omega
   have hx:=fun(k:AV→aK)=>nQ (d:=aK.fail) (k:=k) h1
   rw[iF h1] at hx;have hb0:=aic b[i];cases hc:Lx.insideB b[i] with
   |true=>
    obtain⟨j,hj⟩:∃j,j=i+1:=⟨_,rfl⟩;have e1:=uH hj (by omega);have f:=ih j (by omega);rw[uG h1 hc,←hj];exact ax.of (by rw[jU];rw[hc] at hb0;simp[h1',hx];simp[hb0];simp[e1,f])
   |false=>
    rw[JD h1 hc];exact ax.of (by rw[jU];rw[hc] at hb0;simp[h1',hx];simp[hb0])
  ·rw[oW (by omega)]
   exact ax.of (by rw[jU];simp[show ¬(i:Int)<(b.size:Int) by omega])
theorem aiQ(b:ByteArray)(hb:b.size≤1000000)(i:Nat):ev (acC (sv b) (iv i) (iv 1))=some (0,[iv (Lx.adv Lx.insideB b i:Nat)]):=
 ax.of (by rw[h116];simp[aeX b hb _ i (Nat.le_refl _)])
theorem aeW(b:ByteArray)(hb:b.size≤1000000):∀(m i:Nat),b.size-i≤m→ev (AF (iv i) (sv b) (iv 2))=some (0,[iv (Lx.adv Lx.digitB b i:Nat)]):=by
 intro m
 induction m with
 |zero=>exact fun i hi=>by rw[oW (by omega)];exact ax.of (by rw[jU];simp[show ¬(i:Int)<(b.size:Int) by omega])
 |succ m ih=>
  intro i hi;by_cases h1:i<b.size
  ·have h1':(i:Int)<(b.size:Int):=by omega
   have hx:=fun(k:AV→aK)=>nQ (d:=aK.fail) (k:=k) h1
   rw[iF h1] at hx;have hb0:=l6 b[i];cases hc:Lx.digitB b[i] with
   |true=>
    obtain⟨j,hj⟩:∃j,j=i+1:=⟨_,rfl⟩;have e1:=uH hj (by omega);have f:=ih j (by omega);rw[uG h1 hc,←hj];exact ax.of (by rw[jU];rw[hc] at hb0;simp[h1',hx];simp[hb0];simp[e1,f])
   |false=>
    rw[JD h1 hc];exact ax.of (by rw[jU];rw[hc] at hb0;simp[h1',hx];simp[hb0])
  ·rw[oW (by omega)]
   exact ax.of (by rw[jU];simp[show ¬(i:Int)<(b.size:Int) by omega])
theorem aiP(b:ByteArray)(hb:b.size≤1000000)(i:Nat):ev (acC (sv b) (iv i) (iv 2))=some (0,[iv (Lx.adv Lx.digitB b i:Nat)]):=
 ax.of (by rw[h116];simp[aeW b hb _ i (Nat.le_refl _)])
theorem aeV(b:ByteArray)(hb:b.size≤1000000):∀(m i:Nat),b.size-i≤m→ev (AF (iv i) (sv b) (iv 3))=some (0,[iv (Lx.adv Lx.symB b i:Nat)]):=by
 intro m
 induction m with
 |zero=>exact fun i hi=>by rw[oW (by omega)];exact ax.of (by rw[jU];simp[show ¬(i:Int)<(b.size:Int) by omega])
 |succ m ih=>
  intro i hi;by_cases h1:i<b.size
  ·have h1':(i:Int)<(b.size:Int):=by omega
   have hx:=fun(k:AV→aK)=>nQ (d:=aK.fail) (k:=k) h1
   rw[iF h1] at hx;have hb0:=Gh b[i];cases hc:Lx.symB b[i] with
   |true=>
    obtain⟨j,hj⟩:∃j,j=i+1:=⟨_,rfl⟩;have e1:=uH hj (by omega);have f:=ih j (by omega);rw[uG h1 hc,←hj];exact ax.of (by rw[jU];rw[hc] at hb0;simp[h1',hx];simp[hb0];simp[e1,f])
   |false=>
    rw[JD h1 hc];exact ax.of (by rw[jU];rw[hc] at hb0;simp[h1',hx];simp[hb0])
  ·rw[oW (by omega)]
   exact ax.of (by rw[jU];simp[show ¬(i:Int)<(b.size:Int) by omega])
theorem aiO(b:ByteArray)(hb:b.size≤1000000)(i:Nat):ev (acC (sv b) (iv i) (iv 3))=some (0,[iv (Lx.adv Lx.symB b i:Nat)]):=
 ax.of (by rw[h116];simp[aeV b hb _ i (Nat.le_refl _)])
abbrev qG(l:List UInt8):List Int:=l.map fun c=>(c.toNat:Int)
theorem O9:∀(l:List UInt8) (r:ByteArray),(qG l).foldl (fun r n=>r.push (UInt8.ofNat n.toNat)) r=⟨(r.data.toList++l).toArray⟩
 |[],r=>by simp[qG]
 |c::l,r=>by
  have h:=O9 l (r.push c);have e:UInt8.ofNat ((c.toNat:Int)).toNat=c:=by simp
  simp only[qG,List.map_cons,List.foldl_cons,e];rw[show (List.map (fun c=>(c.toNat:Int)) l)=qG l from rfl,h];congr 2;rw[show (r.push c).data=r.data.push c from rfl,Array.toList_push,List.append_assoc];rfl
theorem Ux(l:List UInt8):J3 (qG l)=Lx.textOf l:=by
 unfold J3;rw[O9 l ByteArray.empty];rfl
def EK(b:ByteArray)(i:Nat)(acc:List UInt8)(r:Option Rs):Prop:=match Lx.textL (D b i) with
 |none=>r=some (1,[])∨r=some (0,[sv eB,iv 0,bv false])
 |some (x,rest)=>r=some (0,[sv (Lx.textOf (acc++x)),iv (b.size-rest.length:Nat),bv true])
theorem EK.pass{b:ByteArray}{i j:Nat}{acc:List UInt8}{q q':Q}{x:UInt8}(h:body PG EE TT ev q=gX (ev q'))(ht:Lx.textL (D b i)=(Lx.textL (D b j)).map fun p=>(x::p.1,p.2))(hg:EK b j (acc++[x]) (ev q')):EK b i acc (ev q):=by
 unfold EK at *;rw[ht];cases he:Lx.textL (D b j) with
 |none=>
  rw[he] at hg;rcases hg with hg|hg
  ·exact .inl (Hf h hg)
  ·exact .inr (Hf h hg)
 |some p=>
  rw[he] at hg;simp only[List.append_assoc,List.singleton_append] at hg;exact Hf h hg
theorem aeN:(List.range 256).all (fun n=>([110,116,34,92]:List UInt8).contains (UInt8.ofNat n)==(Lx.escC (UInt8.ofNat n)).isSome)=true:=by kernel_rfl
theorem aaz(d:UInt8):(⟨#[110,116,34,92]⟩:ByteArray).data.toList.contains d=(Lx.escC d).isSome:=by
 have h:=List.all_eq_true.1 aeN d.toNat (List.mem_range.2 d.toNat_lt);rw[beq_iff_eq] at h;have e:UInt8.ofNat d.toNat=d:=by simp
 rw[e] at h;exact h
theorem aay{d x:UInt8}(h:Lx.escC d=some x):((d.toNat:Int)=110∧x=10)∨((d.toNat:Int)=116∧x=9)∨(¬(d.toNat:Int)=110∧¬(d.toNat:Int)=116∧x=d):=by
 unfold Lx.escC at h;split at h
 ·cases h;exact .inl ⟨by omega,rfl⟩
 ·split at h
  ·cases h;exact .inr (.inl ⟨by omega,rfl⟩)
  ·split at h
   ·rename_i h1
    cases h;exact .inr (.inr ⟨by omega,by omega,UInt8.toNat_inj.1 (by rw[h1];rfl)⟩)
   ·split at h
    ·rename_i h1
     cases h;exact .inr (.inr ⟨by omega,by omega,UInt8.toNat_inj.1 (by rw[h1];rfl)⟩)
    ·cases h
theorem O5(b:ByteArray)(hb:b.size≤1000000):∀(m i:Nat) (acc:List UInt8),b.size-i≤m→acc.length+m≤2000000→EK b i acc (ev (tY (iv i) (sv b) (uM (qG acc)))):=by
 intro m
 induction m with
 |zero=>
  intro i acc hi hl;unfold EK;rw[oZ (by omega)];exact .inl (ax.of (by rw[oG];simp[show ¬(i:Int)<(b.size:Int) by omega]))
 |succ m ih=>
  intro i acc hi hl;have hap:=fun(n:Int) (k:PV→aK)=>afg (qG acc) n k (by simp;omega)
  by_cases h1:i<b.size
  ·have h1':(i:Int)<(b.size:Int):=by omega
   have hx:=fun(k:AV→aK)=>nQ (d:=aK.fail) (k:=k) h1
   rw[iF h1] at hx;obtain⟨j,hj⟩:∃j,j=i+1:=⟨_,rfl⟩;have e1:=uH hj (by omega);have hT:=Lx.textL_cons b[i] (D b (i+1));rw[←cO h1,←hj] at hT;by_cases h2:b[i].toNat=34
   ·have h2':(b[i].toNat:Int)=34:=by omega
    rw[h2'] at hx;unfold EK;rw[hT,if_pos h2];have hl:=mX b j;simp only[List.append_nil];rw[hl,show b.size-(b.size-j)=j by omega];exact ax.of (by rw[oG];simp[h1',hx,aiW,Ux,e1])
   ·have h2':¬(b[i].toNat:Int)=34:=by omega
    rw[if_neg h2] at hT;by_cases h3:b[i].toNat=10
    ·have h3':(b[i].toNat:Int)=10:=by omega
     rw[h3'] at hx;unfold EK;rw[hT,if_pos h3];exact .inr (ax.of (by rw[oG];simp[h1',hx]))
    ·have h3':¬(b[i].toNat:Int)=10:=by omega
     rw[if_neg h3] at hT;by_cases h4:b[i].toNat=92
     ·have h4':(b[i].toNat:Int)=92:=by omega
      rw[if_pos h4] at hT;rw[h4'] at hx;by_cases h5:j<b.size
      ·have h5':¬(j:Int)=(b.size:Int):=by omega
       have hy:=fun(k:AV→aK)=>nQ (d:=aK.fail) (k:=k) (s:=b) (i:=j) h5
       rw[iF h5] at hy;obtain⟨z,hz⟩:∃z,z=j+1:=⟨_,rfl⟩;have e2:=uH hz (by omega);rw[cO h5,←hz] at hT;simp only at hT;have hi:=ain ⟨#[110,116,34,92]⟩ b[j] (by decide);have hin:(⟨#[110,116,34,92]⟩:ByteArray).data.toList.contains b[j]=(Lx.escC b[j]).isSome:=aaz b[j];rw[hin] at hi;cases hc:Lx.escC b[j] with
       |none=>
        rw[hc] at hi hT;unfold EK;rw[hT];exact .inr (ax.of (by rw[oG];simp[h1',hx,e1,h5'];simp[hy,hi]))
       |some x=>
        rw[hc] at hi hT;simp only at hT;refine EK.pass (q':=tY (iv z) (sv b) (uM (qG (acc++[x])))) ?_ hT (ih z (acc++[x]) (by omega) (by simp;omega));rw[oG];simp[h1',hx,e1,h5'];rcases aay hc with⟨h6,rfl⟩|⟨h6,rfl⟩|⟨h6,h7,rfl⟩
        ·rw[h6] at hi hy
         simp[hy,hi,e2,hap,qG]
        ·rw[h6] at hi hy
         simp[hy,hi,e2,hap,qG]
        ·simp[hy,hi,h6,h7,e2,hap,qG]
      ·have h5':(j:Int)=(b.size:Int):=by omega
       rw[oZ (b:=b) (i:=j) (by omega)] at hT;simp only at hT;unfold EK;rw[hT];exact .inr (ax.of (by rw[oG];simp[h1',hx,e1,h5']))
     ·have h4':¬(b[i].toNat:Int)=92:=by omega
      rw[if_neg h4] at hT;refine EK.pass (q':=tY (iv j) (sv b) (uM (qG (acc++[b[i]])))) ?_ hT (ih j (acc++[b[i]]) (by omega) (by simp;omega));rw[oG];simp[h1',hx,h2',h3',h4',e1,hap,qG]
  ·unfold EK
   rw[oZ (by omega)];exact .inl (ax.of (by rw[oG];simp[show ¬(i:Int)<(b.size:Int) by omega]))
theorem abK(b:ByteArray)(hb:b.size≤1000000)(i:Nat):EK b i [] (ev (RS (iv i) (sv b))):=by
 by_cases h1:i<b.size
 ·have h1':(i:Int)<(b.size:Int):=by omega
  have hx:=fun(k:AV→aK)=>nQ (d:=aK.fail) (k:=k) h1
  rw[iF h1] at hx;obtain⟨j,hj⟩:∃j,j=i+1:=⟨_,rfl⟩;have e1:=uH hj (by omega);have hT:=Lx.textL_cons b[i] (D b (i+1));rw[←cO h1,←hj] at hT;by_cases h2:b[i].toNat=34
  ·have h2':(b[i].toNat:Int)=34:=by omega
   rw[h2'] at hx;unfold EK;rw[hT,if_pos h2];have hl:=mX b j;simp only[List.append_nil];rw[hl,show b.size-(b.size-j)=j by omega];exact ax.of (by rw[qM];simp[h1',hx,Lx.textOf,e1])
  ·have h2':¬(b[i].toNat:Int)=34:=by omega
   rw[if_neg h2] at hT;by_cases h3:b[i].toNat=10
   ·have h3':(b[i].toNat:Int)=10:=by omega
    rw[h3'] at hx;unfold EK;rw[hT,if_pos h3];exact .inr (ax.of (by rw[qM];simp[h1',hx]))
   ·have h3':¬(b[i].toNat:Int)=10:=by omega
    rw[if_neg h3] at hT;by_cases h4:b[i].toNat=92
    ·have h4':(b[i].toNat:Int)=92:=by omega
     rw[if_pos h4] at hT;rw[h4'] at hx;by_cases h5:j<b.size
     ·have h5':¬(j:Int)=(b.size:Int):=by omega
      have hy:=fun(k:AV→aK)=>nQ (d:=aK.fail) (k:=k) (s:=b) (i:=j) h5
      rw[iF h5] at hy;obtain⟨z,hz⟩:∃z,z=j+1:=⟨_,rfl⟩;have e2:=uH hz (by omega);rw[cO h5,←hz] at hT;simp only at hT;have hi:=ain ⟨#[110,116,34,92]⟩ b[j] (by decide);have hin:(⟨#[110,116,34,92]⟩:ByteArray).data.toList.contains b[j]=(Lx.escC b[j]).isSome:=aaz b[j];rw[hin] at hi;cases hc:Lx.escC b[j] with
      |none=>
       rw[hc] at hi hT;unfold EK;rw[hT];exact .inr (ax.of (by rw[qM];simp[h1',hx,e1,h5'];simp[hy,hi]))
      |some x=>
       rw[hc] at hi hT;simp only at hT;refine EK.pass (q':=tY (iv z) (sv b) (uM (qG ([]++[x])))) ?_ hT (O5 b hb _ z ([]++[x]) (Nat.le_refl _) (by simp;omega));rw[qM];simp[h1',hx,e1,h5'];rcases aay hc with⟨h6,rfl⟩|⟨h6,rfl⟩|⟨h6,h7,rfl⟩
       ·rw[h6] at hi hy
        simp[hy,hi,e2,uM,qG]
       ·rw[h6] at hi hy
        simp[hy,hi,e2,uM,qG]
       ·simp[hy,hi,h6,h7,e2,uM,qG]
     ·have h5':(j:Int)=(b.size:Int):=by omega
      rw[oZ (b:=b) (i:=j) (by omega)] at hT;simp only at hT;unfold EK;rw[hT];exact .inr (ax.of (by rw[qM];simp[h1',hx,e1,h5']))
    ·have h4':¬(b[i].toNat:Int)=92:=by omega
     rw[if_neg h4] at hT;refine EK.pass (q':=tY (iv j) (sv b) (uM (qG ([]++[b[i]])))) ?_ hT (O5 b hb _ j ([]++[b[i]]) (Nat.le_refl _) (by simp;omega));rw[qM];simp[h1',hx,h2',h3',h4',e1,uM,qG]
 ·unfold EK
  rw[oZ (by omega)];exact .inl (ax.of (by rw[qM];simp[show ¬(i:Int)<(b.size:Int) by omega]))
theorem agI(b:ByteArray)(hb:b.size≤1000000)(i:Nat)(hi:i<b.size):ev (ak5 (sv b) (iv i))=some (0,match Lx.textL (D b (i+1)) with
  |none=>[sv eB,iv 0,bv false]
  |some (x,rest)=>[sv (Lx.textOf x),iv (b.size-rest.length:Nat),bv true]):=by
 obtain⟨k,hk⟩:∃k,k=i+1:=⟨_,rfl⟩;have e1:=uH hk (by omega);have h0:=abK b hb k;unfold EK at h0;rw[←hk];cases hT:Lx.textL (D b k) with
 |none=>
  rw[hT] at h0;rcases h0 with h0|h0
  ·exact ax.of (by rw[aiB];simp[e1,h0])
  ·exact ax.of (by rw[aiB];simp[e1,h0])
 |some p=>
  rw[hT] at h0;simp only[List.nil_append] at h0;exact ax.of (by rw[aiB];simp[e1,h0])
theorem O4{n m:Int}(h0:0≤n)(h1:n<m):n.tmod m=n:=by
 rw[Int.tmod_eq_emod_of_nonneg h0];exact Int.emod_eq_of_lt h0 h1
theorem JO{n:Int}(h0:0≤n)(h1:n<18446744073709551616):IntKind.u64.wrap n=n:=by
 simp[IntKind.wrap,IntKind.signed,IntKind.bits];omega
theorem VB{n:Int}(h0:0≤n)(h1:n<256):IntKind.u8.wrap n=n:=by
 simp[IntKind.wrap,IntKind.signed,IntKind.bits];omega
theorem alq{n:Int}(h0:0≤n)(h1:n<4611686018427387904):ev (akM (iv n))=some (0,[wv n]):=ax.of (by
 rw[aqM];simp[afv,JO h0 (by omega),O4 h0 (show n<9223372036854775808 by omega)])
theorem aif{n:Int}(h0:0≤n)(h1:n<4611686018427387904):ev (akN (wv n))=some (0,[iv n]):=ax.of (by
 rw[aqN];simp[show ¬4611686018427387904≤n by omega,aJ (n:=n) (by omega)])
theorem Wt{n:Int}(h0:0≤n)(h1:n<4611686018427387904):ev (XO (wv n))=some (0,[iv n]):=ax.of (by
 have hw:ev (akO (iv n))=some (0,[iv n]):=ax.of (by rw[aqO];simp[alq h0 h1,aif h0 h1]);rw[aiw];simp[afv,O4 h0 (show n<9223372036854775808 by omega),aJ (n:=n) (by omega),hw])
theorem Ef{c:UInt8}(h:Lx.digitB c=true):48≤(c.toNat:Int)∧(c.toNat:Int)≤57:=by
 unfold Lx.digitB at h;rw[decide_eq_true_eq] at h;omega
theorem Yp(s:ByteArray)(hs:s.size≤1000000):∀(m i:Nat),s.size-i≤m→(D s i).all Lx.digitB=true→ev (G6 (iv i) (sv s))=some (1,[iv 0,sv s,bv false]):=by
 intro m
 induction m with
 |zero=>exact fun i hi _=>ax.of (by rw[IZ];simp[show ¬(i:Int)<(s.size:Int) by omega])
 |succ m ih=>
  intro i hi hd;by_cases h1:i<s.size
  ·have h1':(i:Int)<(s.size:Int):=by omega
   have hx:=fun(k:AV→aK)=>nQ (d:=aK.fail) (k:=k) h1
   rw[iF h1] at hx;obtain⟨j,hj⟩:∃j,j=i+1:=⟨_,rfl⟩;have e1:=uH hj (by omega);rw[cO h1,←hj,List.all_cons,Bool.and_eq_true] at hd;obtain⟨d1,d2⟩:=Ef hd.1;have g:=ih j (by omega) hd.2;exact ax.of (by rw[IZ];simp[h1',hx,show ¬(s[i].toNat:Int)<48 by omega,show ¬57<(s[i].toNat:Int) by omega,e1,g])
  ·exact ax.of (by rw[IZ];simp[show ¬(i:Int)<(s.size:Int) by omega])
theorem Uy(l:List UInt8):∀a:Int×Bool,a.2=true→(l.foldl Lx.stepD a).2=true:=by
 induction l with
 |nil=>intro a h;exact h
 |cons c r ih=>
  intro a h;rw[List.foldl_cons];apply ih;unfold Lx.stepD;rw[if_pos h];exact h
theorem Yo(s:ByteArray)(hs:s.size≤1000000):∀(m i:Nat) (z:Int),s.size-i≤m→(D s i).all Lx.digitB=true→
  ev (G5 (iv i) (sv s) (wv z))=some (if((D s i).foldl Lx.stepD (z,false)).2 then(0,[iv 0,iv 3]) else(1,[wv ((D s i).foldl Lx.stepD (z,false)).1,bv false])):=by
 intro m
 induction m with
 |zero=>
  intro i z hi _;rw[oZ (by omega)];exact ax.of (by rw[Bp];simp[show ¬(i:Int)<(s.size:Int) by omega])
 |succ m ih=>
  intro i z hi hd;by_cases h1:i<s.size
  ·have h1':(i:Int)<(s.size:Int):=by omega
   have hx:=fun(k:AV→aK)=>nQ (d:=aK.fail) (k:=k) h1
   rw[iF h1] at hx;obtain⟨j,hj⟩:∃j,j=i+1:=⟨_,rfl⟩;have e1:=uH hj (by omega);rw[cO h1,←hj,List.all_cons,Bool.and_eq_true] at hd;obtain⟨d1,d2⟩:=Ef hd.1;have hw8:IntKind.u8.wrap ((s[i].toNat:Int)-48)=(s[i].toNat:Int)-48:=VB (by omega) (by omega);have hw64:IntKind.u64.wrap ((s[i].toNat:Int)-48)=(s[i].toNat:Int)-48:=JO (by omega) (by omega);obtain⟨w,hw⟩:∃w:Int,w=IntKind.u64.wrap (IntKind.u64.wrap (10*z)+((s[i].toNat:Int)-48)):=⟨_,rfl⟩;have hst:Lx.stepD (z,false) s[i]=(w,decide (4611686018427387904<w)):=by
    unfold Lx.stepD;simp only[Bool.false_eq_true,if_false,←hw]
   rw[cO h1,←hj,List.foldl_cons,hst];by_cases h2:4611686018427387904<w
   ·rw[Uy _ _ (by simp[h2])]
    exact ax.of (by rw[Bp];simp[h1',hx,hw8,hw64,←hw,h2])
   ·have g:=ih j w (by omega) hd.2
    rw[show decide (4611686018427387904<w)=false from decide_eq_false h2];exact ax.of (by rw[Bp];simp[h1',hx,hw8,hw64,←hw,h2,e1,g])
  ·rw[oZ (by omega)]
   exact ax.of (by rw[Bp];simp[show ¬(i:Int)<(s.size:Int) by omega])
theorem acJ(s:ByteArray)(hs:s.size≤1000000)(h0:0<s.size)(hz:s.size=1∨¬s[0].toNat=48)(hd:s.data.toList.all Lx.digitB=true) :
  ev (ahS (sv s))=some (0,match Lx.parseD s.data.toList with|none=>[iv 0,iv 3]|some n=>[iv n,iv 0]):=by
 have h1:0<(s.size:Int):=by omega
 have h1a:¬(0:Int)=(s.size:Int):=by omega
 have hx:∀(k:AV→aK),Lr PG .fail 9 (.pv (sv s)) (.pv (iv 0)) k=k (.pv (cv (byt s 0))):=fun k=>nQ (d:=aK.fail) (k:=k) (s:=s) (i:=0) h0
 rw[iF h0] at hx;have hd0:(D s 0).all Lx.digitB=true:=hd;have hd1:=hd0;rw[cO h0,List.all_cons,Bool.and_eq_true] at hd1;obtain⟨d1,d2⟩:=Ef hd1.1;have g1:ev (G6 (iv 0) (sv s))=_:=Yp s hs _ 0 (Nat.le_refl _) hd0;have g2:ev (G5 (iv 0) (sv s) (wv 0))=_:=Yo s hs _ 0 0 (Nat.le_refl _) hd0;rw[show (D s 0).foldl Lx.stepD (0,false)=Lx.foldD s.data.toList from rfl] at g2;have hn45:¬(s[0].toNat:Int)=45:=by omega
 have hzz:(s[0].toNat:Int)=48→¬1<(s.size:Int):=by
  intro e;rcases hz with hz|hz
  ·omega
  ·omega
 have key:body PG EE TT ev (ahS (sv s))=.ok (0,match Lx.parseD s.data.toList with|none=>[iv 0,iv 3]|some n=>[iv n,iv 0]):=by
  unfold Lx.parseD;cases hb:(Lx.foldD s.data.toList).2 with
  |true=>
   rw[hb] at g2;simp only[if_true] at g2;simp only[true_or,if_true];rw[aiA];by_cases h48:(s[0].toNat:Int)=48
   ·rw[h48] at hx
    have h12:¬1<s.size:=by have:=hzz h48;omega
    simp[h1,h0,h1a,hx,hzz h48,h12,g1,g2]
   ·simp[h1,h0,h1a,hx,hn45,h48,g1,g2]
  |false=>
   rw[hb] at g2;simp only[Bool.false_eq_true,if_false] at g2;have hbd:=Lx.foldD_bd s.data.toList;have hsm:=Lx.foldD_small s.data.toList hb;generalize (Lx.foldD s.data.toList).1=n at *;by_cases hh:n=4611686018427387904
   ·simp only[Bool.false_eq_true,false_or,hh,if_true]
    rw[hh] at g2;rw[aiA];by_cases h48:(s[0].toNat:Int)=48
    ·rw[h48] at hx
     have h12:¬1<s.size:=by have:=hzz h48;omega
     simp[h1,h0,h1a,hx,hzz h48,h12,g1,g2]
    ·simp[h1,h0,h1a,hx,hn45,h48,g1,g2]
   ·simp only[Bool.false_eq_true,false_or,hh,if_false]
    have hsg:=Wt (n:=n) hbd.1 (by omega);rw[aiA];by_cases h48:(s[0].toNat:Int)=48
    ·rw[h48] at hx
     have h12:¬1<s.size:=by have:=hzz h48;omega
     simp[h1,h0,h1a,hx,hzz h48,h12,g1,g2,hh,hsg]
    ·simp[h1,h0,h1a,hx,hn45,h48,g1,g2,hh,hsg]
 exact ax.of key
def nt:List UInt8→List UInt8
 |[]=>[]
 |[c]=>[c]
 |c::d::r=>if c.toNat=48 then nt (d::r) else c::d::r
theorem NF:∀(l:List UInt8),l≠[]→Lx.numText l=nt l
 |[],h=>absurd rfl h
 |[c],_=>by
  unfold Lx.numText nt Lib.trimLeftB;by_cases h:c=48
  ·subst h;rfl
  ·have h2:(c==(48:UInt8))=false:=by simpa using h
   simp[h2]
 |c::d::r,_=>by
  have ih:=NF (d::r) (by simp);rw[nt];by_cases h:c.toNat=48
  ·have hc:c=48:=UInt8.toNat_inj.1 (by rw[h];rfl)
   rw[if_pos h,←ih,hc];unfold Lx.numText;rfl
  ·have hc:¬c=48:=fun e=>h (by rw[e];rfl)
   rw[if_neg h];unfold Lx.numText Lib.trimLeftB;have h2:(c==(48:UInt8))=false:=by simpa using hc
   simp[h2]
theorem agt(b:ByteArray)(hb:b.size≤1000000)(y:Nat)(hy:y≤b.size)(a:Int):∀(m i:Nat),y-i≤m→i<y→
  ∃z:Nat,ev (Xd (iv i) (iv y) (sv b) (iv a))=some (0,[iv 0,sv eB,iv 0,iv a,iv 0,sv eB,iv 0,iv 0,sv b,iv z,iv y])∧i≤z∧z<y∧(D b z).take (y-z)=nt ((D b i).take (y-i)):=by
 intro m
 induction m with
 |zero=>intro i hi h;omega
 |succ m ih=>
  intro i hi h;have h1:i<b.size:=by omega
  have hx:=fun(k:AV→aK)=>nQ (d:=aK.fail) (k:=k) h1
  rw[iF h1] at hx;obtain⟨j,hj⟩:∃j,j=i+1:=⟨_,rfl⟩;have e1:=uH hj (by omega);have ey:IntKind.i64.wrap ((y:Int)-1)=(y:Int)-1:=aJ (by omega);by_cases hl:j<y
  ·have hl':(i:Int)<(y:Int)-1:=by omega
   have h2:j<b.size:=by omega
   have hc:(D b i).take (y-i)=b[i]::b[j]::(D b (j+1)).take (y-i-2):=by
    rw[cO h1,←hj,cO h2,show y-i=(y-i-2)+1+1 by omega];rw[List.take_succ_cons,List.take_succ_cons];simp
   have hc2:(D b j).take (y-j)=b[j]::(D b (j+1)).take (y-i-2):=by
    rw[cO h2,show y-j=(y-i-2)+1 by omega,List.take_succ_cons]
   by_cases h48:b[i].toNat=48
   ·have h48':(b[i].toNat:Int)=48:=by omega
    rw[h48'] at hx;obtain⟨z,g,g1,g2,g3⟩:=ih j (by omega) hl;refine⟨z,ax.of ?_,by omega,g2,?_⟩
    ·rw[Ob]
     simp[ey,hl',hx,e1,g]
    ·rw[g3,hc,nt,if_pos h48,hc2]
   ·have h48':¬(b[i].toNat:Int)=48:=by omega
    refine⟨i,ax.of ?_,Nat.le_refl _,h,?_⟩
    ·rw[Ob]
     simp[ey,hl',hx,h48']
    ·rw[hc,nt,if_neg h48]
  ·have hl':¬(i:Int)<(y:Int)-1:=by omega
   refine⟨i,ax.of ?_,Nat.le_refl _,h,?_⟩
   ·rw[Ob]
    simp[ey,hl']
   ·rw[show y-i=0+1 by omega,cO h1,List.take_succ_cons]
    rfl
theorem VO:(List.range 256).all (fun n=>!(Lx.lowB (UInt8.ofNat n)&&Lx.upB (UInt8.ofNat n)) && !(Lx.lowB (UInt8.ofNat n)&&Lx.digitB (UInt8.ofNat n)) && !(Lx.lowB (UInt8.ofNat n)&&Lx.symB (UInt8.ofNat n)) && !(Lx.upB (UInt8.ofNat n)&&Lx.digitB (UInt8.ofNat n)) && !(Lx.upB (UInt8.ofNat n)&&Lx.symB (UInt8.ofNat n)) && !(Lx.digitB (UInt8.ofNat n)&&Lx.symB (UInt8.ofNat n))&&((UInt8.ofNat n).toNat != 34 || !(Lx.lowB (UInt8.ofNat n)||Lx.upB (UInt8.ofNat n)||Lx.digitB (UInt8.ofNat n)||Lx.symB (UInt8.ofNat n))))=true:=by kernel_rfl
theorem agE(c:UInt8):(!(Lx.lowB c&&Lx.upB c) && !(Lx.lowB c&&Lx.digitB c) && !(Lx.lowB c&&Lx.symB c) && !(Lx.upB c&&Lx.digitB c) && !(Lx.upB c&&Lx.symB c) && !(Lx.digitB c&&Lx.symB c)&&(c.toNat != 34 || !(Lx.lowB c||Lx.upB c||Lx.digitB c||Lx.symB c)))=true:=by
 have h:=List.all_eq_true.1 VO c.toNat (List.mem_range.2 c.toNat_lt);have e:UInt8.ofNat c.toNat=c:=by simp
 rw[e] at h;exact h
theorem Ig(x:List UInt8):Lx.keyB (Lx.textOf x)=Lx.keyList.contains x:=by unfold Lx.keyB;rw[Lx.textOf_toList]
theorem CX(x:List UInt8):Lx.markB (Lx.textOf x)=Lx.markList.contains x:=by unfold Lx.markB;rw[Lx.textOf_toList]
theorem Ze:Lx.keyList.all (fun k=>match k with|c::d::_=>Lx.lowB c && !(Lx.markList.contains k)|_=>false)=true:=by kernel_rfl
theorem Dj{x:List UInt8}(h:Lx.keyList.contains x=true):∃c d r,x=c::d::r∧Lx.lowB c=true∧Lx.markList.contains x=false:=by
 have hm:x∈Lx.keyList:=by simpa using h
 have:=List.all_eq_true.1 Ze x hm
 match x,this with
 |c::d::r,h2=>
  simp only[Bool.and_eq_true,Bool.not_eq_true'] at h2;exact⟨c,d,r,rfl,h2.1,h2.2⟩
theorem UZ:Lx.markList.all (fun k=>match k with|c::_=>!(Lx.lowB c||Lx.upB c)||k==[95]|_=>false)=true:=by kernel_rfl
theorem U0{c:UInt8}{r:List UInt8}(hc:Lx.lowB c=true∨Lx.upB c=true):Lx.markList.contains (c::r)=(c::r==[95]):=by
 cases hb:Lx.markList.contains (c::r) with
 |true=>
  have hm:(c::r)∈Lx.markList:=by simpa using hb
  have:=List.all_eq_true.1 UZ _ hm;simp only[Bool.or_eq_true,Bool.not_eq_true',Bool.or_eq_false_iff] at this;rcases this with h|h
  ·rcases hc with hc|hc
   ·rw[hc] at h;exact absurd h.1 (by simp)
   ·rw[hc] at h;exact absurd h.2 (by simp)
  ·exact h.symm
 |false=>
  cases he:(c::r==[95]) with
  |false=>rfl
  |true=>
   have:c::r=[95]:=by simpa using he
   rw[this] at hb;exact absurd hb (by decide)
theorem LB(p:UInt8→Bool)(b:ByteArray)(i:Nat):b.extract i (Lx.adv p b i)=Lx.textOf ((D b i).takeWhile p):=Lx.text_eq (Lx.adv_text p b i)
theorem yC(x:List UInt8):((Lx.textOf x).size:Int)=(x.length:Int):=by rw[Lx.textOf_size]
def Ey(b:ByteArray)(i:Nat)(o:Except Int (Int×List UInt8×Int×List UInt8))(r:Option Rs):Prop:=match o with
 |.error e=>∃(k:Int) (t:ByteArray) (n:Int),r=some (0,[iv k,sv t,iv n,iv i,iv 0,iv e])
 |.ok (kind,x,n,l)=>r=some (0,[iv kind,sv (Lx.textOf x),iv n,iv i,iv (b.size-l.length:Nat),iv 0])
theorem Yy(b:ByteArray)(hb:b.size≤1000000)(i:Nat)(hi:i<b.size)(hw:Lx.lowB b[i]=true∨Lx.upB b[i]=true) :
  Ey b i (Lx.putL (Lx.kindL ((D b i).takeWhile Lx.insideB)) ((D b i).takeWhile Lx.insideB) 0 ((D b i).dropWhile Lx.insideB)) (ev (q85 (sv b) (iv i))):=by
 have hx:=fun(k:AV→aK)=>nQ (d:=aK.fail) (k:=k) hi
 rw[iF hi] at hx;have hcls:=agE b[i];have hin:Lx.insideB b[i]=true:=by
  unfold Lx.insideB;rcases hw with h|h<;>simp[h]
 have hdg:Lx.digitB b[i]=false:=by
  cases h:Lx.digitB b[i] with
  |false=>rfl
  |true=>rcases hw with h2|h2<;>simp[h,h2] at hcls
 have hsy:Lx.symB b[i]=false:=by
  cases h:Lx.symB b[i] with
  |false=>rfl
  |true=>rcases hw with h2|h2<;>simp[h,h2] at hcls
 have yw:¬(b[i].toNat:Int)=34:=by
  intro h;have h':b[i].toNat=34:=by omega
  rcases hw with h2|h2<;>simp[h',h2] at hcls
 obtain⟨r,hr⟩:∃r,(D b i).takeWhile Lx.insideB=b[i]::r:=⟨_,by rw[cO hi,List.takeWhile_cons_of_pos hin]⟩;have hle:=Lx.adv_le Lx.insideB b i (by omega);have hge:=Lx.adv_ge Lx.insideB b i;have hsl:=fun(k:AV→aK)=>abT (d:=aK.fail) (k:=k) (s:=b) hge hle
 rw[LB,hr] at hsl;have hnx:b.size-((D b i).dropWhile Lx.insideB).length=Lx.adv Lx.insideB b i:=Lx.adv_pos Lx.insideB b i (by omega);have he:=aiQ b hb i;obtain⟨y,hy⟩:∃y,y=Lx.adv Lx.insideB b i:=⟨_,rfl⟩;rw[←hy] at he hsl hnx;have hsz:=yC (b[i]::r);have hK:=abu (Lx.textOf (b[i]::r));have hM:=OX (Lx.textOf (b[i]::r));rw[Ig] at hK;rw[CX,U0 hw] at hM;have hS:=ol b[i];have hG:=oH b[i];have hD:=l6 b[i];have hY:=Gh b[i];rw[hdg] at hD;rw[hsy] at hY;rw[hr];unfold Lx.putL Ey;have hkm:Lx.keyList.contains (b[i]::r)=true→(b[i]::r==[95])=false:=by
  intro h;obtain⟨_,_,_,h1,_,_⟩:=Dj h;rw[h1];simp
 have hkind:Lx.kindL (b[i]::r)=if Lx.keyList.contains (b[i]::r)=true then 6 else if(b[i]::r==[95])=true then 7 else if Lx.upB b[i]=true then 2 else 1:=rfl
 have hkk:Lx.kindL (b[i]::r)≠3∧Lx.kindL (b[i]::r)≠4:=by
  rw[hkind];cases Lx.keyList.contains (b[i]::r)<;>cases(b[i]::r==[95])<;>cases Lx.upB b[i]<;>simp
 by_cases hlen:40<(b[i]::r).length
 ·rw[if_pos ⟨hkk.1,hkk.2,hlen⟩]
  simp only;refine⟨0,Lx.textOf (b[i]::r),0,ax.of ?_⟩;have hl2:40<((b[i]::r).length:Int):=by omega
  rw[h85];cases hs:Lx.lowB b[i]<;>cases hg:Lx.upB b[i]<;>(rw[hs] at hS;rw[hg] at hG;first|(rw[hs,hg] at hw;simp at hw;done)|simp[-Int.natCast_add,-List.length_cons,hx,yw,hD,hS,hG,hY,he,hsl,hsz,hl2])
 ·have hl2:¬40<((b[i]::r).length:Int):=by omega
  rw[if_neg (fun h=>hlen h.2.2)];simp only;rw[hnx];refine ax.of ?_;rw[h85];rw[hkind];generalize b[i]::r=X at *;cases hs:Lx.lowB b[i]<;>cases hg:Lx.upB b[i]<;>(rw[hs] at hS;rw[hg] at hG;first|(rw[hs,hg] at hw;simp at hw;done)|(rw[hs,hg] at hcls;simp at hcls;done)|(cases hk:Lx.keyList.contains X<;>cases hm:(X==[95])<;>(rw[hk] at hK;rw[hm] at hM;first|exact absurd (hkm hk) (by rw[hm];decide)|simp[-Int.natCast_add,-List.length_cons,-List.contains_eq_mem,-beq_iff_eq,hx,yw,hD,hS,hG,hY,he,hsl,hsz,hl2,hK,hM,hg])))
theorem Yz(b:ByteArray)(hb:b.size≤1000000)(i:Nat)(hi:i<b.size)(hc:b[i].toNat=34) :
  Ey b i (match Lx.textL (D b (i+1)) with|none=>.error 103|some (x,r')=>Lx.putL 4 x 0 r') (ev (q85 (sv b) (iv i))):=by
 have hx:=fun(k:AV→aK)=>nQ (d:=aK.fail) (k:=k) hi
 rw[iF hi,show ((b[i].toNat:Nat):Int)=34 by omega] at hx;have ht:=agI b hb i hi;cases hT:Lx.textL (D b (i+1)) with
 |none=>
  rw[hT] at ht;exact⟨0,eB,0,ax.of (by rw[h85];simp[hx,ht])⟩
 |some p=>
  obtain⟨x,r⟩:=p;rw[hT] at ht;unfold Ey Lx.putL;simp only[ne_eq,not_true_eq_false,false_and,and_false,if_false];exact ax.of (by rw[h85];simp[-Int.natCast_add,hx,ht])
theorem acR(b:ByteArray)(hb:b.size≤1000000)(i:Nat)(hi:i<b.size)(hc:Lx.symB b[i]=true) :
  Ey b i (Lx.putL (if Lx.markList.contains ((D b i).takeWhile Lx.symB)=true then 7 else 5) ((D b i).takeWhile Lx.symB) 0 ((D b i).dropWhile Lx.symB)) (ev (q85 (sv b) (iv i))):=by
 have hx:=fun(k:AV→aK)=>nQ (d:=aK.fail) (k:=k) hi
 rw[iF hi] at hx;have hcls:=agE b[i];rw[hc] at hcls;have hdg:Lx.digitB b[i]=false:=by cases h:Lx.digitB b[i] with|false=>rfl|true=>simp[h] at hcls
 have hlo:Lx.lowB b[i]=false:=by cases h:Lx.lowB b[i] with|false=>rfl|true=>simp[h] at hcls
 have hup:Lx.upB b[i]=false:=by cases h:Lx.upB b[i] with|false=>rfl|true=>simp[h] at hcls
 have yw:¬(b[i].toNat:Int)=34:=by
  intro h;have h':b[i].toNat=34:=by omega
  simp[h'] at hcls
 obtain⟨r,hr⟩:∃r,(D b i).takeWhile Lx.symB=b[i]::r:=⟨_,by rw[cO hi,List.takeWhile_cons_of_pos hc]⟩;have hle:=Lx.adv_le Lx.symB b i (by omega);have hge:=Lx.adv_ge Lx.symB b i;have hsl:=fun(k:AV→aK)=>abT (d:=aK.fail) (k:=k) (s:=b) hge hle
 rw[LB,hr] at hsl;have hnx:b.size-((D b i).dropWhile Lx.symB).length=Lx.adv Lx.symB b i:=Lx.adv_pos Lx.symB b i (by omega);have he:=aiO b hb i;obtain⟨y,hy⟩:∃y,y=Lx.adv Lx.symB b i:=⟨_,rfl⟩;rw[←hy] at he hsl hnx;have hsz:=yC (b[i]::r);have hK:=abu (Lx.textOf (b[i]::r));have hM:=OX (Lx.textOf (b[i]::r));rw[Ig] at hK;rw[CX] at hM;have hkey:Lx.keyList.contains (b[i]::r)=false:=by
  cases h:Lx.keyList.contains (b[i]::r) with
  |false=>rfl
  |true=>
   obtain⟨c,d,r2,h1,h2,_⟩:=Dj h;rw[List.cons.injEq] at h1;rw[←h1.1,hlo] at h2;cases h2
 rw[hkey] at hK;have hS:=ol b[i];have hG:=oH b[i];have hD:=l6 b[i];have hY:=Gh b[i];rw[hlo] at hS;rw[hup] at hG;rw[hdg] at hD;rw[hc] at hY;rw[hr];unfold Lx.putL Ey;generalize b[i]::r=X at *;by_cases hlen:40<X.length
 ·rw[if_pos ⟨by split<;>decide,by split<;>decide,hlen⟩]
  simp only;refine⟨0,Lx.textOf X,0,ax.of ?_⟩;have hl2:40<(X.length:Int):=by omega
  rw[h85];simp[-Int.natCast_add,hx,yw,hD,hS,hG,hY,he,hsl,hsz,hl2]
 ·have hl2:¬40<(X.length:Int):=by omega
  rw[if_neg (fun h=>hlen h.2.2)];simp only;rw[hnx];refine ax.of ?_;rw[h85];cases hm:Lx.markList.contains X<;>(rw[hm] at hM;simp[-Int.natCast_add,-List.contains_eq_mem,hx,yw,hD,hS,hG,hY,he,hsl,hsz,hl2,hK,hM])
theorem YA(b:ByteArray)(hb:b.size≤1000000)(i:Nat)(hi:i<b.size)(h1:Lx.lowB b[i]=false)(h2:Lx.upB b[i]=false)(h3:Lx.digitB b[i]=false)(h4:¬b[i].toNat=34)(h5:Lx.symB b[i]=false) :
  Ey b i (if Lx.markList.contains [b[i]]=true then Lx.putL 7 [b[i]] 0 (D b (i+1)) else .error 101) (ev (q85 (sv b) (iv i))):=by
 have hx:=fun(k:AV→aK)=>nQ (d:=aK.fail) (k:=k) hi
 rw[iF hi] at hx;have yw:¬(b[i].toNat:Int)=34:=by omega
 obtain⟨j,hj⟩:∃j,j=i+1:=⟨_,rfl⟩;have e1:=uH hj (by omega);have hsl:=fun(k:AV→aK)=>abT (d:=aK.fail) (k:=k) (s:=b) (l:=i) (m:=j) (by omega) (by omega)
 have hone:b.extract i j=Lx.textOf [b[i]]:=Lx.text_eq (by rw[hj,Lib.extract_data,Nat.add_sub_cancel_left,show b.data.toList.drop i=b[i]::b.data.toList.drop (i+1) from cO hi];rfl);rw[hone] at hsl;have hnx:b.size-(D b (i+1)).length=j:=by rw[mX];omega
 have hsz:((Lx.textOf [b[i]]).size:Int)=1:=yC [b[i]];have hK:=abu (Lx.textOf [b[i]]);have hM:=OX (Lx.textOf [b[i]]);rw[Ig] at hK;rw[CX] at hM;have hkey:Lx.keyList.contains [b[i]]=false:=by
  cases h:Lx.keyList.contains [b[i]] with
  |false=>rfl
  |true=>
   obtain⟨c,d,r2,h1,h2,_⟩:=Dj h;simp at h1
 rw[hkey] at hK;have hS:=ol b[i];have hG:=oH b[i];have hD:=l6 b[i];have hY:=Gh b[i];rw[h1] at hS;rw[h2] at hG;rw[h3] at hD;rw[h5] at hY;cases hm:Lx.markList.contains [b[i]] with
 |true=>
  rw[hm] at hM;simp only[if_true];unfold Lx.putL Ey;rw[if_neg (by simp)];simp only;rw[hnx];exact ax.of (by rw[h85];simp[-Int.natCast_add,hx,yw,hD,hS,hG,hY,e1,hsl,hsz,hK,hM])
 |false=>
  rw[hm] at hM;simp only[Bool.false_eq_true,if_false];exact⟨0,eB,0,ax.of (by rw[h85];simp[-Int.natCast_add,hx,yw,hD,hS,hG,hY,e1,hsl,hsz,hK,hM])⟩
theorem abM(b:ByteArray)(p:UInt8→Bool)(i:Nat):(D b i).take (Lx.adv p b i-i)=(D b i).takeWhile p:=by
 have h:=Lx.adv_text p b i;rw[Lib.extract_data] at h;exact h
theorem af3:∀(l:List UInt8),l.all Lx.digitB=true→(nt l).all Lx.digitB=true∧(l≠[]→nt l≠[])∧((nt l).length=1∨∀c r,nt l=c::r→¬c.toNat=48)
 |[],_=>⟨rfl,fun h=>absurd rfl h,.inr fun c r h=>by simp[nt] at h⟩
 |[c],h=>⟨h,fun _=>by simp[nt],.inl rfl⟩
 |c::d::r,h=>by
  rw[nt];by_cases h48:c.toNat=48
  ·rw[if_pos h48]
   rw[List.all_cons,Bool.and_eq_true] at h;obtain⟨i1,i2,i3⟩:=af3 (d::r) h.2;exact⟨i1,fun _=>i2 (by simp),i3⟩
  ·rw[if_neg h48]
   exact⟨h,fun _=>by simp,.inr fun c' r' e=>by cases e;exact h48⟩
theorem one_num(b:ByteArray)(hb:b.size≤1000000)(i:Nat)(hi:i<b.size)(hc:Lx.digitB b[i]=true) :
  Ey b i (match Lx.parseD (Lx.numText ((D b i).takeWhile Lx.digitB)) with|none=>.error 102|some n=>Lx.putL 3 (Lx.numText ((D b i).takeWhile Lx.digitB)) n ((D b i).dropWhile Lx.digitB)) (ev (q85 (sv b) (iv i))):=by
 have hx:=fun(k:AV→aK)=>nQ (d:=aK.fail) (k:=k) hi
 rw[iF hi] at hx;have hcls:=agE b[i];rw[hc] at hcls;have yw:¬(b[i].toNat:Int)=34:=by
  intro h;have h':b[i].toNat=34:=by omega
  simp[h'] at hcls
 have hD:=l6 b[i];rw[hc] at hD;obtain⟨r,hr⟩:∃r,(D b i).takeWhile Lx.digitB=b[i]::r:=⟨_,by rw[cO hi,List.takeWhile_cons_of_pos hc]⟩;have hle:=Lx.adv_le Lx.digitB b i (by omega);have hlt:i<Lx.adv Lx.digitB b i:=by
  have:=uG (p:=Lx.digitB) hi hc;have:=Lx.adv_ge Lx.digitB b (i+1);omega
 have hnx:b.size-((D b i).dropWhile Lx.digitB).length=Lx.adv Lx.digitB b i:=Lx.adv_pos Lx.digitB b i (by omega);have he:=aiP b hb i;have htk:=abM b Lx.digitB i;obtain⟨y,hy⟩:∃y,y=Lx.adv Lx.digitB b i:=⟨_,rfl⟩;rw[←hy] at he hle hlt hnx htk;obtain⟨z,g,g1,g2,g3⟩:=agt b hb y hle (i:Int) _ i (Nat.le_refl _) hlt;have hne:(D b i).takeWhile Lx.digitB≠[]:=by rw[hr];simp
 rw[htk,←NF _ hne] at g3;have hall:((D b i).takeWhile Lx.digitB).all Lx.digitB=true:=List.all_takeWhile;obtain⟨n1,n2,n3⟩:=af3 _ hall;rw[←NF _ hne] at n1 n2 n3;have hsl:=fun(k:AV→aK)=>abT (d:=aK.fail) (k:=k) (s:=b) (l:=z) (m:=y) (by omega) hle
 have htx:b.extract z y=Lx.textOf (Lx.numText ((D b i).takeWhile Lx.digitB)):=Lx.text_eq (by rw[Lib.extract_data];exact g3);rw[htx] at hsl;have hn2:=n2 hne;have hlen:(Lx.numText ((D b i).takeWhile Lx.digitB)).length≤b.size:=by
  rw[←g3,List.length_take];have:=mX b z;omega
 generalize Lx.numText ((D b i).takeWhile Lx.digitB)=X at *;have hXs:(Lx.textOf X).size=X.length:=Lx.textOf_size X;have hXd:(Lx.textOf X).data.toList=X:=Lx.textOf_data X;have hp:=acJ (Lx.textOf X) (by omega) (by rw[hXs];exact List.length_pos_iff.2 hn2) (by
  rcases n3 with n3|n3
  ·exact .inl (by omega)
  ·right
   match X,n3 with
   |c::r,n3=>exact n3 c r rfl
   |[],_=>exact absurd rfl hn2) (by rw[hXd];exact n1)
 rw[hXd] at hp;cases hq:Lx.parseD X with
 |none=>
  rw[hq] at hp;exact⟨0,eB,0,ax.of (by rw[h85];simp[-Int.natCast_add,hx,yw,hD,he,g,hsl,hp])⟩
 |some n=>
  rw[hq] at hp;unfold Ey Lx.putL;simp only[ne_eq,not_true_eq_false,false_and,and_false,if_false];rw[hnx];exact ax.of (by rw[h85];simp[-Int.natCast_add,hx,yw,hD,he,g,hsl,hp])
theorem Yx(b:ByteArray)(hb:b.size≤1000000)(i:Nat)(hi:i<b.size):Ey b i (Lx.oneL (D b i)) (ev (q85 (sv b) (iv i))):=by
 have hd:=cO hi;rw[hd];unfold Lx.oneL;simp only;rw[←hd];by_cases h1:Lx.lowB b[i]=true∨Lx.upB b[i]=true
 ·rw[if_pos h1];exact Yy b hb i hi h1
 ·rw[if_neg h1]
  by_cases h2:Lx.digitB b[i]=true
  ·rw[if_pos h2];exact one_num b hb i hi h2
  ·rw[if_neg h2]
   by_cases h3:b[i].toNat=34
   ·rw[if_pos h3];exact Yz b hb i hi h3
   ·rw[if_neg h3]
    by_cases h4:Lx.symB b[i]=true
    ·rw[if_pos h4];exact acR b hb i hi h4
    ·rw[if_neg h4]
     exact YA b hb i hi (by cases h:Lx.lowB b[i] with|false=>rfl|true=>exact absurd (.inl h) h1) (by cases h:Lx.upB b[i] with|false=>rfl|true=>exact absurd (.inr h) h1) (by simpa using h2) h3 (by simpa using h4)
theorem uF(b:ByteArray)(i k:Nat):(Lx.byteN (D b i) k:Int)=byt b (i+k):=by
 unfold Lx.byteN byt;rw[List.getD_eq_getElem?_getD,List.getD_eq_getElem?_getD,List.getElem?_drop]
theorem xW(l:List UInt8)(k:Nat):Lx.byteN l k<256:=UInt8.toNat_lt _
theorem Nr:∀(l:List UInt8),Lib.hasPrefix l [239,191,189]=true↔(2<l.length∧Lx.byteN l 0=239∧Lx.byteN l 1=191∧Lx.byteN l 2=189)
 |[]=>by simp[Lib.hasPrefix,List.isPrefixOf]
 |[a]=>by simp[Lib.hasPrefix,List.isPrefixOf]
 |[a,c]=>by simp[Lib.hasPrefix,List.isPrefixOf]
 |a::c::d::r=>by
  have h:∀(x y:UInt8),(x==y)=decide (y.toNat=x.toNat):=by
   intro x y;rw[Bool.eq_iff_iff,beq_iff_eq,decide_eq_true_eq];exact⟨fun e=>by rw[e],fun e=>UInt8.toNat_inj.1 e.symm⟩
  simp[Lib.hasPrefix,List.isPrefixOf,Lx.byteN,h]
def VK(l:List UInt8):Nat:=if Lx.badL l=true then 0 else(Lx.decL l).2
theorem agD(b:ByteArray)(i:Nat)(z:Int):ev (xg (iv 4) (sv b) (iv i) (iv z))=some (1,[iv z,iv 65536,iv 4]):=ax.of (by rw[Bt];simp)
theorem MP(b:ByteArray)(i:Nat)(hb:b.size≤1000000)(k:Nat)(hk:k<4)(hi:i+k<b.size)(z:Int)(h0:0≤z)(h1:z≤10000000)(k':Int)(hk':k'=(k:Int)+1)(x:Int)(hx':x=byt b (i+k))
  {r:Rs} (hbad:x<128∨191<x→r=(0,[iv 0])) (hgo:¬(x<128∨191<x)→ev (xg (iv k') (sv b) (iv i) (iv (64*z+x-128)))=some r):ev (xg (iv k) (sv b) (iv i) (iv z))=some r:=by
 obtain⟨j,hj⟩:∃j,j=i+k:=⟨_,rfl⟩;have h1':(k:Int)<4:=by omega
 have e1:=abD hj (by omega);have e2:IntKind.i64.wrap ((k:Int)+1)=k':=by rw[aJ (by omega),hk']
 have hr:=zn b (i+k);rw[←hj] at hx' hr;have hx:=fun(k:AV→aK)=>nQ (d:=aK.fail) (k:=k) (s:=b) (i:=j) (by omega)
 rw[←hx'] at hx hr;have w0:IntKind.i64.wrap x=x:=aJ (by omega);have w1:IntKind.i64.wrap (64*z)=64*z:=aJ (by omega);have w2:IntKind.i64.wrap (64*z+x)=64*z+x:=aJ (by omega);have w3:IntKind.i64.wrap (64*z+x-128)=64*z+x-128:=aJ (by omega);by_cases h2:x<128
 ·rw[hbad (.inl h2)]
  exact ax.of (by rw[Bt];simp[h1',e1,hx,w0,h2])
 ·by_cases h3:191<x
  ·rw[hbad (.inr h3)]
   exact ax.of (by rw[Bt];simp[h1',e1,hx,w0,h2,h3])
  ·have hg:=hgo (by omega)
   exact ax.of (by rw[Bt];simp[h1',e1,e2,hx,w0,w1,w2,w3,h2,h3,hg])
theorem agC(b:ByteArray)(i:Nat)(z:Int):ev (xf (iv 3) (sv b) (iv i) (iv z))=some (1,[iv z,iv 2048,iv 3]):=ax.of (by rw[Br];simp)
theorem VJ(b:ByteArray)(i:Nat)(hb:b.size≤1000000)(k:Nat)(hk:k<3)(hi:i+k<b.size)(z:Int)(h0:0≤z)(h1:z≤10000000)(k':Int)(hk':k'=(k:Int)+1)(x:Int)(hx':x=byt b (i+k))
  {r:Rs} (hbad:x<128∨191<x→r=(0,[iv 0])) (hgo:¬(x<128∨191<x)→ev (xf (iv k') (sv b) (iv i) (iv (64*z+x-128)))=some r):ev (xf (iv k) (sv b) (iv i) (iv z))=some r:=by
 obtain⟨j,hj⟩:∃j,j=i+k:=⟨_,rfl⟩;have h1':(k:Int)<3:=by omega
 have e1:=abD hj (by omega);have e2:IntKind.i64.wrap ((k:Int)+1)=k':=by rw[aJ (by omega),hk']
 have hr:=zn b (i+k);rw[←hj] at hx' hr;have hx:=fun(k:AV→aK)=>nQ (d:=aK.fail) (k:=k) (s:=b) (i:=j) (by omega)
 rw[←hx'] at hx hr;have w0:IntKind.i64.wrap x=x:=aJ (by omega);have w1:IntKind.i64.wrap (64*z)=64*z:=aJ (by omega);have w2:IntKind.i64.wrap (64*z+x)=64*z+x:=aJ (by omega);have w3:IntKind.i64.wrap (64*z+x-128)=64*z+x-128:=aJ (by omega);by_cases h2:x<128
 ·rw[hbad (.inl h2)]
  exact ax.of (by rw[Br];simp[h1',e1,hx,w0,h2])
 ·by_cases h3:191<x
  ·rw[hbad (.inr h3)]
   exact ax.of (by rw[Br];simp[h1',e1,hx,w0,h2,h3])
  ·have hg:=hgo (by omega)
   exact ax.of (by rw[Br];simp[h1',e1,e2,hx,w0,w1,w2,w3,h2,h3,hg])
theorem agB(b:ByteArray)(i:Nat)(z:Int):ev (xe (iv 2) (sv b) (iv i) (iv z))=some (1,[iv z,iv 128,iv 2]):=ax.of (by rw[Bq];simp)
theorem agA(b:ByteArray)(i:Nat)(hb:b.size≤1000000)(k:Nat)(hk:k<2)(hi:i+k<b.size)(z:Int)(h0:0≤z)(h1:z≤10000000)(k':Int)(hk':k'=(k:Int)+1)(x:Int)(hx':x=byt b (i+k))
  {r:Rs} (hbad:x<128∨191<x→r=(0,[iv 0])) (hgo:¬(x<128∨191<x)→ev (xe (iv k') (sv b) (iv i) (iv (64*z+x-128)))=some r):ev (xe (iv k) (sv b) (iv i) (iv z))=some r:=by
 obtain⟨j,hj⟩:∃j,j=i+k:=⟨_,rfl⟩;have h1':(k:Int)<2:=by omega
 have e1:=abD hj (by omega);have e2:IntKind.i64.wrap ((k:Int)+1)=k':=by rw[aJ (by omega),hk']
 have hr:=zn b (i+k);rw[←hj] at hx' hr;have hx:=fun(k:AV→aK)=>nQ (d:=aK.fail) (k:=k) (s:=b) (i:=j) (by omega)
 rw[←hx'] at hx hr;have w0:IntKind.i64.wrap x=x:=aJ (by omega);have w1:IntKind.i64.wrap (64*z)=64*z:=aJ (by omega);have w2:IntKind.i64.wrap (64*z+x)=64*z+x:=aJ (by omega);have w3:IntKind.i64.wrap (64*z+x-128)=64*z+x-128:=aJ (by omega);by_cases h2:x<128
 ·rw[hbad (.inl h2)]
  exact ax.of (by rw[Bq];simp[h1',e1,hx,w0,h2])
 ·by_cases h3:191<x
  ·rw[hbad (.inr h3)]
   exact ax.of (by rw[Bq];simp[h1',e1,hx,w0,h2,h3])
  ·have hg:=hgo (by omega)
   exact ax.of (by rw[Bq];simp[h1',e1,e2,hx,w0,w1,w2,w3,h2,h3,hg])
theorem agx(b:ByteArray)(i:Nat)(hb:b.size≤1000000)(hi:i+1<b.size)(z:Int)(h0:0≤z)(h1:z≤1000)(x1:Int)(e1:x1=byt b (i+1)) :
  ev (xe (iv 1) (sv b) (iv i) (iv z))=some (if x1<128∨191<x1 then(0,[iv 0]) else(1,[iv (64*z+x1-128),iv 128,iv 2])):=
 agA b i hb 1 (by omega) hi z h0 (by omega) 2 rfl x1 e1 (fun h=>by rw[if_pos h]) (fun h=>by rw[if_neg h];exact agB b i _)
theorem agy(b:ByteArray)(i:Nat)(hb:b.size≤1000000)(hi:i+2<b.size)(z:Int)(h0:0≤z)(h1:z≤1000)(x1 x2:Int)(e1:x1=byt b (i+1))(e2:x2=byt b (i+2)) :
  ev (xf (iv 1) (sv b) (iv i) (iv z))=some (if(x1<128∨191<x1)∨(x2<128∨191<x2) then(0,[iv 0]) else(1,[iv (64*(64*z+x1-128)+x2-128),iv 2048,iv 3])):=
 VJ b i hb 1 (by omega) (by omega) z h0 (by omega) 2 rfl x1 e1 (fun h=>by rw[if_pos (.inl h)]) (fun h=>VJ b i hb 2 (by omega) hi _ (by omega) (by omega) 3 rfl x2 e2 (fun h'=>by rw[if_pos (.inr h')]) (fun h'=>by rw[if_neg (fun hh=>hh.elim h h')];exact agC b i _))
theorem agz(b:ByteArray)(i:Nat)(hb:b.size≤1000000)(hi:i+3<b.size)(z:Int)(h0:0≤z)(h1:z≤1000)(x1 x2 x3:Int)(e1:x1=byt b (i+1))(e2:x2=byt b (i+2))(e3:x3=byt b (i+3)) :
  ev (xg (iv 1) (sv b) (iv i) (iv z))=some (if(x1<128∨191<x1)∨(x2<128∨191<x2)∨(x3<128∨191<x3) then(0,[iv 0]) else(1,[iv (64*(64*(64*z+x1-128)+x2-128)+x3-128),iv 65536,iv 4])):=
 MP b i hb 1 (by omega) (by omega) z h0 (by omega) 2 rfl x1 e1 (fun h=>by rw[if_pos (.inl h)]) (fun h=>MP b i hb 2 (by omega) (by omega) _ (by omega) (by omega) 3 rfl x2 e2 (fun h'=>by rw[if_pos (.inr (.inl h'))]) (fun h'=>MP b i hb 3 (by omega) hi _ (by omega) (by omega) 4 rfl x3 e3 (fun h''=>by rw[if_pos (.inr (.inr h''))]) (fun h''=>by rw[if_neg (fun hh=>hh.elim h (fun hh=>hh.elim h' h''))];exact agD b i _)))
set_option maxHeartbeats 2000000 in
theorem ajz(b:ByteArray)(hb:b.size≤1000000)(i:Nat)(hi:i<b.size):ev (ak7 (sv b) (iv i))=some (0,[iv (VK (D b i):Nat)]):=by
 have hx:=fun(k:AV→aK)=>nQ (d:=aK.fail) (k:=k) hi
 have b0:=uF b i 0;have b1:=uF b i 1;have b2:=uF b i 2;have b3:=uF b i 3;rw[Nat.add_zero] at b0;have l0:=xW (D b i) 0;have l1:=xW (D b i) 1;have l2:=xW (D b i) 2;have l3:=xW (D b i) 3;have hl:=mX b i;have hp:=Nr (D b i);rw[←b0] at hx;have ww:∀z:Int,0≤z→z≤2000000→IntKind.i64.wrap z=z:=fun z h1 h2=>aJ (by omega)
 obtain⟨c0,hc0⟩:∃c,c=Lx.byteN (D b i) 0:=⟨_,rfl⟩;obtain⟨c1,hc1⟩:∃c,c=Lx.byteN (D b i) 1:=⟨_,rfl⟩;obtain⟨c2,hc2⟩:∃c,c=Lx.byteN (D b i) 2:=⟨_,rfl⟩;obtain⟨c3,hc3⟩:∃c,c=Lx.byteN (D b i) 3:=⟨_,rfl⟩;have hdec:Lx.decL (D b i)=Lib.decodeN (D b i).length c0 c1 c2 c3:=by unfold Lx.decL;rw[hc0,hc1,hc2,hc3]
 rw[←hc0] at hx b0 l0 hp;rw[←hc1] at b1 l1 hp;rw[←hc2] at b2 l2 hp;rw[←hc3] at b3 l3;have hbad:∀(v w:Nat),Lx.decL (D b i)=(v,w)→VK (D b i)=if v=65533∧¬(2<b.size-i∧c0=239∧c1=191∧c2=189) then 0 else w:=by
  intro v w h;unfold VK Lx.badL;rw[h];simp only;rw[←hl];cases hq:Lib.hasPrefix (D b i) [239,191,189] with
  |true=>
   have:=hp.1 hq;rw[if_neg (by simp),if_neg (fun hh=>hh.2 this)]
  |false=>
   have hn:¬(2<(D b i).length∧c0=239∧c1=191∧c2=189):=fun h=>by rw[hp.2 h] at hq;cases hq
   by_cases hv:v=65533
   ·rw[if_pos (by simp[hv]),if_pos ⟨hv,hn⟩]
   ·have hv':¬(v:Int)=65533:=by omega
    rw[if_neg (by simp[hv']),if_neg (fun hh=>hv hh.1)]
 have fin:∀(r:Nat),(∀v w,Lx.decL (D b i)=(v,w)→(if v=65533∧¬(2<b.size-i∧c0=239∧c1=191∧c2=189) then 0 else w)=r)→VK (D b i)=r:=by
  intro r h;rw[hbad _ _ rfl];exact h _ _ rfl
 have ji1:IntKind.i64.wrap ((i:Int)+2)=(i:Int)+2:=ww _ (by omega) (by omega);have ji2:IntKind.i64.wrap ((i:Int)+3)=(i:Int)+3:=ww _ (by omega) (by omega);have ji3:IntKind.i64.wrap ((i:Int)+4)=(i:Int)+4:=ww _ (by omega) (by omega);have w0:=ww (c0:Int) (by omega) (by omega);rw[hdec,hl] at fin;unfold Lib.decodeN at fin;by_cases k1:c0<128
 ·rw[fin 1 (fun v w h=>by rw[if_pos k1] at h;cases h;rw[if_neg (by omega)])]
  exact ax.of (by rw[h112];simp[hx,w0,show (c0:Int)<128 by omega])
 rw[if_neg k1] at fin;by_cases k2:c0<192
 ·rw[fin 0 (fun v w h=>by rw[if_neg (by omega),if_neg (by omega),if_neg (by omega)] at h;cases h;rw[if_pos (by omega)])]
  exact ax.of (by rw[h112];simp[hx,w0,show ¬(c0:Int)<128 by omega,show ¬(192:Int)≤c0 by omega,show ¬(224:Int)≤c0 by omega,show ¬(240:Int)≤c0 by omega])
 by_cases k3:c0<224
 ·have wz:IntKind.i64.wrap ((c0:Int)-192)=(c0:Int)-192:=ww _ (by omega) (by omega)
  by_cases s2:b.size<i+2
  ·rw[fin 0 (fun v w h=>by rw[if_neg (by omega),if_neg (by omega),if_neg (by omega)] at h;cases h;rw[if_pos (by omega)])]
   exact ax.of (by rw[h112];simp[hx,w0,wz,show ¬(c0:Int)<128 by omega,show (c0:Int)<224 by omega,ji1,show (192:Int)≤c0 by omega,show ¬(224:Int)≤c0 by omega,show ¬(240:Int)≤c0 by omega,show (b.size:Int)<(i:Int)+2 by omega])
  ·have hu:=agx b i hb (by omega) ((c0:Int)-192) (by omega) (by omega) _ b1
   have hs:¬(b.size:Int)<(i:Int)+2:=by omega
   by_cases r1:(c1:Int)<128∨191<(c1:Int)
   ·rw[if_pos r1] at hu
    rw[fin 0 (fun v w h=>by rw[if_neg (by omega),if_neg (by omega),if_neg (by omega)] at h;cases h;rw[if_pos (by omega)])];exact ax.of (by rw[h112];simp[hx,w0,wz,show ¬(c0:Int)<128 by omega,show (c0:Int)<224 by omega,ji1,show (192:Int)≤c0 by omega,show ¬(224:Int)≤c0 by omega,show ¬(240:Int)≤c0 by omega,hs,hu])
   ·rw[if_neg r1] at hu
    obtain⟨y,hy⟩:∃y:Int,y=64*((c0:Int)-192)+(c1:Int)-128:=⟨_,rfl⟩;rw[←hy] at hu;by_cases v1:y<128
    ·rw[fin 0 (fun v w h=>by rw[if_pos (by omega),if_neg (by omega)] at h;cases h;rw[if_pos (by omega)])]
     exact ax.of (by rw[h112];simp[hx,w0,wz,show ¬(c0:Int)<128 by omega,show (c0:Int)<224 by omega,ji1,show (192:Int)≤c0 by omega,show ¬(224:Int)≤c0 by omega,show ¬(240:Int)≤c0 by omega,hs,hu,v1])
    ·rw[fin 2 (fun v w h=>by rw[if_pos (by omega),if_pos (by omega)] at h;cases h;rw[if_neg (by omega)])]
     exact ax.of (by rw[h112];simp[hx,w0,wz,show ¬(c0:Int)<128 by omega,show (c0:Int)<224 by omega,ji1,show (192:Int)≤c0 by omega,show ¬(224:Int)≤c0 by omega,show ¬(240:Int)≤c0 by omega,hs,hu,v1,show ¬1114111<y by omega,show ¬55296≤y by omega])
 by_cases k4:c0<240
 ·have wz:IntKind.i64.wrap ((c0:Int)-224)=(c0:Int)-224:=ww _ (by omega) (by omega)
  have wq:IntKind.i64.wrap ((c0:Int)-192)=(c0:Int)-192:=ww _ (by omega) (by omega);by_cases s2:b.size<i+3
  ·rw[fin 0 (fun v w h=>by rw[if_neg (by omega),if_neg (by omega),if_neg (by omega)] at h;cases h;rw[if_pos (by omega)])]
   exact ax.of (by rw[h112];simp[hx,w0,wz,wq,show ¬(c0:Int)<128 by omega,show ¬(c0:Int)<224 by omega,show (c0:Int)<240 by omega,ji2,show (192:Int)≤c0 by omega,show (224:Int)≤c0 by omega,show ¬(240:Int)≤c0 by omega,show (b.size:Int)<(i:Int)+3 by omega])
  ·have hu:=agy b i hb (by omega) ((c0:Int)-224) (by omega) (by omega) _ _ b1 b2
   have hs:¬(b.size:Int)<(i:Int)+3:=by omega
   by_cases r1:((c1:Int)<128∨191<(c1:Int))∨((c2:Int)<128∨191<(c2:Int))
   ·rw[if_pos r1] at hu
    rw[fin 0 (fun v w h=>by rw[if_neg (by omega),if_neg (by omega),if_neg (by omega)] at h;cases h;rw[if_pos (by omega)])];exact ax.of (by rw[h112];simp[hx,w0,wz,wq,show ¬(c0:Int)<128 by omega,show ¬(c0:Int)<224 by omega,show (c0:Int)<240 by omega,ji2,show (192:Int)≤c0 by omega,show (224:Int)≤c0 by omega,show ¬(240:Int)≤c0 by omega,hs,hu])
   ·rw[if_neg r1] at hu
    obtain⟨y,hy⟩:∃y:Int,y=64*(64*((c0:Int)-224)+(c1:Int)-128)+(c2:Int)-128:=⟨_,rfl⟩;rw[←hy] at hu;by_cases v1:y<2048
    ·rw[fin 0 (fun v w h=>by rw[if_neg (by omega),if_pos (by omega),if_neg (by omega)] at h;cases h;rw[if_pos (by omega)])]
     exact ax.of (by rw[h112];simp[hx,w0,wz,wq,show ¬(c0:Int)<128 by omega,show ¬(c0:Int)<224 by omega,show (c0:Int)<240 by omega,ji2,show (192:Int)≤c0 by omega,show (224:Int)≤c0 by omega,show ¬(240:Int)≤c0 by omega,hs,hu,v1])
    ·by_cases v2:55296≤y∧y≤57343
     ·rw[fin 0 (fun v w h=>by rw[if_neg (by omega),if_pos (by omega),if_neg (by omega)] at h;cases h;rw[if_pos (by omega)])]
      exact ax.of (by rw[h112];simp[hx,w0,wz,wq,show ¬(c0:Int)<128 by omega,show ¬(c0:Int)<224 by omega,show (c0:Int)<240 by omega,ji2,show (192:Int)≤c0 by omega,show (224:Int)≤c0 by omega,show ¬(240:Int)≤c0 by omega,hs,hu,v1,show ¬1114111<y by omega,v2.1,v2.2])
     ·rw[fin 3 (fun v w h=>by rw[if_neg (by omega),if_pos (by omega),if_pos (by omega)] at h;cases h;rw[if_neg (by omega)])]
      by_cases v3:55296≤y
      ·exact ax.of (by rw[h112];simp[hx,w0,wz,wq,show ¬(c0:Int)<128 by omega,show ¬(c0:Int)<224 by omega,show (c0:Int)<240 by omega,ji2,show (192:Int)≤c0 by omega,show (224:Int)≤c0 by omega,show ¬(240:Int)≤c0 by omega,hs,hu,v1,show ¬1114111<y by omega,v3,show ¬y≤57343 by omega])
      ·exact ax.of (by rw[h112];simp[hx,w0,wz,wq,show ¬(c0:Int)<128 by omega,show ¬(c0:Int)<224 by omega,show (c0:Int)<240 by omega,ji2,show (192:Int)≤c0 by omega,show (224:Int)≤c0 by omega,show ¬(240:Int)≤c0 by omega,hs,hu,v1,show ¬1114111<y by omega,v3])
 by_cases k5:c0<248
 ·have wz:IntKind.i64.wrap ((c0:Int)-240)=(c0:Int)-240:=ww _ (by omega) (by omega)
  have wq:IntKind.i64.wrap ((c0:Int)-192)=(c0:Int)-192:=ww _ (by omega) (by omega);have wr:IntKind.i64.wrap ((c0:Int)-224)=(c0:Int)-224:=ww _ (by omega) (by omega);by_cases s2:b.size<i+4
  ·rw[fin 0 (fun v w h=>by rw[if_neg (by omega),if_neg (by omega),if_neg (by omega)] at h;cases h;rw[if_pos (by omega)])]
   exact ax.of (by rw[h112];simp[hx,w0,wz,wq,wr,show ¬(c0:Int)<128 by omega,show ¬(c0:Int)<224 by omega,show ¬(c0:Int)<240 by omega,show (c0:Int)<248 by omega,ji3,show (192:Int)≤c0 by omega,show (224:Int)≤c0 by omega,show (240:Int)≤c0 by omega,show (b.size:Int)<(i:Int)+4 by omega])
  ·have hu:=agz b i hb (by omega) ((c0:Int)-240) (by omega) (by omega) _ _ _ b1 b2 b3
   have hs:¬(b.size:Int)<(i:Int)+4:=by omega
   by_cases r1:((c1:Int)<128∨191<(c1:Int))∨((c2:Int)<128∨191<(c2:Int))∨((c3:Int)<128∨191<(c3:Int))
   ·rw[if_pos r1] at hu
    rw[fin 0 (fun v w h=>by rw[if_neg (by omega),if_neg (by omega),if_neg (by omega)] at h;cases h;rw[if_pos (by omega)])];exact ax.of (by rw[h112];simp[hx,w0,wz,wq,wr,show ¬(c0:Int)<128 by omega,show ¬(c0:Int)<224 by omega,show ¬(c0:Int)<240 by omega,show (c0:Int)<248 by omega,ji3,show (192:Int)≤c0 by omega,show (224:Int)≤c0 by omega,show (240:Int)≤c0 by omega,hs,hu])
   ·rw[if_neg r1] at hu
    obtain⟨y,hy⟩:∃y:Int,y=64*(64*(64*((c0:Int)-240)+(c1:Int)-128)+(c2:Int)-128)+(c3:Int)-128:=⟨_,rfl⟩;rw[←hy] at hu;by_cases v1:y<65536
    ·rw[fin 0 (fun v w h=>by rw[if_neg (by omega),if_neg (by omega),if_pos (by omega),if_neg (by omega)] at h;cases h;rw[if_pos (by omega)])]
     exact ax.of (by rw[h112];simp[hx,w0,wz,wq,wr,show ¬(c0:Int)<128 by omega,show ¬(c0:Int)<224 by omega,show ¬(c0:Int)<240 by omega,show (c0:Int)<248 by omega,ji3,show (192:Int)≤c0 by omega,show (224:Int)≤c0 by omega,show (240:Int)≤c0 by omega,hs,hu,v1])
    ·by_cases v2:1114111<y
     ·rw[fin 0 (fun v w h=>by rw[if_neg (by omega),if_neg (by omega),if_pos (by omega),if_neg (by omega)] at h;cases h;rw[if_pos (by omega)])]
      exact ax.of (by rw[h112];simp[hx,w0,wz,wq,wr,show ¬(c0:Int)<128 by omega,show ¬(c0:Int)<224 by omega,show ¬(c0:Int)<240 by omega,show (c0:Int)<248 by omega,ji3,show (192:Int)≤c0 by omega,show (224:Int)≤c0 by omega,show (240:Int)≤c0 by omega,hs,hu,v1,v2])
     ·rw[fin 4 (fun v w h=>by rw[if_neg (by omega),if_neg (by omega),if_pos (by omega),if_pos (by omega)] at h;cases h;rw[if_neg (by omega)])]
      exact ax.of (by rw[h112];simp[hx,w0,wz,wq,wr,show ¬(c0:Int)<128 by omega,show ¬(c0:Int)<224 by omega,show ¬(c0:Int)<240 by omega,show (c0:Int)<248 by omega,ji3,show (192:Int)≤c0 by omega,show (224:Int)≤c0 by omega,show (240:Int)≤c0 by omega,hs,hu,v1,v2,show 55296≤y by omega,show ¬y≤57343 by omega])
 ·rw[fin 0 (fun v w h=>by rw[if_neg (by omega),if_neg (by omega),if_neg (by omega)] at h;cases h;rw[if_pos (by omega)])]
  exact ax.of (by rw[h112];simp[hx,w0,ww ((c0:Int)-192) (by omega) (by omega),ww ((c0:Int)-224) (by omega) (by omega),ww ((c0:Int)-240) (by omega) (by omega),show ¬(c0:Int)<128 by omega,show ¬(c0:Int)<224 by omega,show ¬(c0:Int)<240 by omega,show ¬(c0:Int)<248 by omega,show (192:Int)≤c0 by omega,show (224:Int)≤c0 by omega,show (240:Int)≤c0 by omega])
theorem aja(b:ByteArray)(hb:b.size≤1000000):∀(m i:Nat),b.size-i<m→ev (Nl (iv i) (sv b))=some (match Lx.spoilL m (D b i) with|none=>(1,[])|some k=>(0,[iv (b.size-k:Nat)])):=by
 intro m
 induction m with
 |zero=>intro i hi;omega
 |succ m ih=>
  intro i hi;by_cases h1:i<b.size
  ·have h1':(i:Int)<(b.size:Int):=by omega
   have hu:=ajz b hb i h1;unfold VK at hu;have hne:D b i≠[]:=by rw[cO h1];simp
   have hw:=Lx.decL_width b[i] (D b (i+1));rw[←cO h1,mX] at hw;rw[Lx.spoilL,if_neg hne];by_cases h2:Lx.badL (D b i)=true
   ·rw[if_pos h2] at hu
    rw[if_pos h2,mX];simp only;rw[show b.size-(b.size-i)=i by omega];exact ax.of (by rw[Ir];simp[h1',hu])
   ·rw[if_neg h2] at hu
    rw[if_neg h2];obtain⟨n,hn⟩:∃n,n=(Lx.decL (D b i)).2:=⟨_,rfl⟩;rw[←hn] at hu hw ⊢;obtain⟨j,hj⟩:∃j,j=i+n:=⟨_,rfl⟩;have e1:=abD hj (by omega);have hn0:¬(n:Int)=0:=by omega
    have hg:=ih j (by omega);rw[show (D b i).drop n=D b j by rw[List.drop_drop,hj]];cases hs:Lx.spoilL m (D b j) with
    |none=>rw[hs] at hg;exact ax.of (by rw[Ir];simp[-Int.natCast_eq_zero,h1',hu,hn0,e1,hg])
    |some k=>rw[hs] at hg;exact ax.of (by rw[Ir];simp[-Int.natCast_eq_zero,h1',hu,hn0,e1,hg])
  ·rw[Lx.spoilL,if_pos (oZ (by omega))]
   exact ax.of (by rw[Ir];simp[show ¬(i:Int)<(b.size:Int) by omega])
theorem amF(b:ByteArray)(hb:b.size≤1000000):ev (q83 (sv b))=some (0,[iv (match Lx.spoilAll b.data.toList with|none=>-1|some k=>((b.size-k:Nat):Int))]):=by
 have h0:ev (Nl (iv 0) (sv b))=_:=aja b hb (b.size+1) 0 (by omega);rw[show Lx.spoilL (b.size+1) (D b 0)=Lx.spoilAll b.data.toList from rfl] at h0;cases hs:Lx.spoilAll b.data.toList with
 |none=>rw[hs] at h0;exact ax.of (by rw[h83];simp[h0])
 |some k=>rw[hs] at h0;exact ax.of (by rw[h83];simp[h0])
end Go.Proofs.YtijcobeebaceoaaGreatDoor
namespace Go.Proofs.YtijcobeebaceoaaGreatDoor
open Go.RowKit Go.Maps
set_option maxRecDepth 20000
theorem WR.grow{K:Kn}{h:List af}{w w':World}(H:WR K h w)(hf:lD (fun _=>False) w w'):WR K h w' where
 fresh:=H.fresh
 has:=H.has
 lt:=fun i g hi=>Nat.lt_of_lt_of_le (H.lt i g hi) hf.size
 box:=fun i ty cells hi=>let ⟨g,cs,a,b,c,d⟩:=H.box i ty cells hi;⟨g,cs,a,by rw[hf.block g (H.lt i g a) id];exact b,c,d⟩
 tok:=fun t ty sz len hi=>let ⟨g,cs,a,b,c⟩:=H.tok t ty sz len hi;⟨g,cs,a,by rw[hf.block g (H.lt t g a) id];exact b,c⟩
 inj:=H.inj
 apart:=H.apart
 agr:=fun g o v hm=>by
  have h1:=H.agr g o v hm;have hg:g<w.heap.size:=by
   apply Decidable.byContradiction;intro hn;have:w.heap[g]? = Option.none:=Array.getElem?_eq_none (by omega);unfold World.cell? at h1;rw[this] at h1;cases h1
  rw[←h1];exact World.cell?_of_block (hf.block g hg id)
 arr:=fun i ty sz p hi=>let ⟨g,cs,a,b,c⟩:=H.arr i ty sz p hi;⟨g,cs,a,by rw[hf.block g (H.lt i g a) id];exact b,c⟩
theorem Step.known{K:Kn}{h:List af}{w w':World}(H:WR K h w)(hf:lD (fun _=>False) w w')(M2:Nat→Nat→Option Value)(h2:∀g o v,M2 g o=some v→w.heap.size≤g∧w'.cell? ⟨g,o,none⟩=some v) :
  ∃K',Step K h w K' h w'∧K'.R=K.R∧(∀g o v,M2 g o=some v→K'.M g o=some v)∧∀g o v,K.M g o=some v→K'.M g o=some v:=by
 have hG:=H.grow hf;have hlow:∀g o,g<w.heap.size→M2 g o=none:=fun g o hg=>by
  cases hm:M2 g o with
  |none=>rfl
  |some v=>have:=(h2 g o v hm).1;omega
 have hno:∀g o v,K.M g o=some v→g<w.heap.size:=fun g o v hm=>by
  apply Decidable.byContradiction;intro hn;have h1:=H.agr g o v hm;have:w.heap[g]? = none:=Array.getElem?_eq_none (by omega);unfold World.cell? at h1;rw[this] at h1;cases h1
 obtain⟨K',hK'⟩:∃K':Kn,K' = {M:=fun g o=>match K.M g o with|some v=>some v|none=>M2 g o,Z:=K.Z,E:=K.E,mu:=K.mu,R:=K.R,N:=K.N,gl:=fun b cs hb i v hv=>by show (match K.M b i with|some v=>some v|none=>M2 b i)=some v;rw[K.gl b cs hb i v hv] }:=⟨_,rfl⟩;have hmu:K'.mu=K.mu:=by rw[hK']
 have hZ:K'.Z=K.Z:=by rw[hK']
 have hE:K'.E=K.E:=by rw[hK']
 have hR:K'.R=K.R:=by rw[hK']
 have hN:K'.N=K.N:=by rw[hK']
 have hM:∀g o,K'.M g o=match K.M g o with|some v=>some v|none=>M2 g o:=fun g o=>by rw[hK']
 have hold:∀g o v,K.M g o=some v→K'.M g o=some v:=fun g o v hm=>by rw[hM,hm]
 have hlt:∀g o,g<w.heap.size→K'.M g o=K.M g o:=fun g o hg=>by
  rw[hM];cases hm:K.M g o with
  |some v=>rfl
  |none=>exact hlow g o hg
 have hnew:∀g o v,M2 g o=some v→K'.M g o=some v:=fun g o v hm=>by
  rw[hM];cases hk:K.M g o with
  |none=>exact hm
  |some u=>have:=hno g o u hk;have:=(h2 g o v hm).1;omega
 have hext:Ext K K':=⟨hold,fun i g h=>by rw[hmu];exact h,fun i g _=>by rw[hZ],fun i g _=>by rw[hE],hR,fun i g _=>by rw[hN]⟩;have hlv:∀b,K'.liveB h b→K.liveB h b:=fun b ⟨i,x,h1,h3,h4⟩=>⟨i,x,h1,h3,by rw[←hmu];exact h4⟩
 refine⟨K',⟨⟨fun i hi=>by rw[hmu];exact H.fresh i hi,fun i hi=>by rw[hmu];exact H.has i hi,fun i g hi=>by rw[hmu] at hi;exact hG.lt i g hi,fun i ty cells hi=>?_,fun t ty sz len hi=>?_,fun i j x y g hi hj hx hy hm1 hm2=>?_,fun i ty cells g hi hm o=>?_,fun g o v hm=>?_,fun i ty sz p hi=>?_⟩,hext,hf.mono (fun _ _ e=>e.elim),fun g _=>⟨by rw[hZ],by rw[hE]⟩,fun g o hg _=>hlt g o hg,fun k b hb=>.inl (by rw[hmu] at hb;exact hb),fun b hb _=>hlv b hb,Nat.le_refl _⟩,hR,hnew,hold⟩
 ·obtain⟨g,cs,a,b,c,d⟩:=hG.box i ty cells hi
  exact⟨g,cs,by rw[hmu];exact a,b,by rw[hZ,hE];exact c,d.mono hext⟩
 ·obtain⟨g,cs,a,b,c,d,e,f⟩:=hG.tok t ty sz len hi
  refine⟨g,cs,by rw[hmu];exact a,b,by rw[hZ];exact c,by rw[hE];exact d,by rw[hZ];exact e,fun o ho=>?_⟩;rw[hR] at ho;rw[hlt g o (H.lt t g a)];exact f o ho
 ·rw[hmu] at hm1 hm2
  exact H.inj i j x y g hi hj hx hy hm1 hm2
 ·rw[hmu] at hm
  rw[hlt g o (H.lt i g hm)];exact H.apart i ty cells g hi hm o
 ·rw[hM] at hm
  cases hk:K.M g o with
  |some u=>rw[hk] at hm;cases hm;exact hG.agr g o _ hk
  |none=>rw[hk] at hm;exact(h2 g o v hm).2
 ·obtain⟨g,cs,a,b,c,d⟩:=hG.arr i ty sz p hi
  refine⟨g,cs,by rw[hmu];exact a,b,by rw[hZ,hE];exact c,d.go (fun o=>?_) (by rw[hR]) (by rw[hN]) (by rw[hZ]) (by rw[hE]) (fun q v _ h=>h.ext hext)⟩;rw[hlt g o (H.lt i g a)];exact d.none o
theorem FR{w w':World}(h:Below w.heap.size w w'):lD (fun _=>False) w w':=⟨h.os,h.tape,h.output,h.size,fun k hk _=>h.block k hk⟩
theorem Ga(ts:List Lx.Tok):∀(i j:Nat) (h:i<ts.length),j<4→(Lx.tokCells ts)[i*4+j]? = (ts[i].cells)[j]?:=by
 induction ts with
 |nil=>intro i j h;simp at h
 |cons t l ih=>
  intro i j h hj;have hc:t.cells.length=4:=rfl;rw[show Lx.tokCells (t::l)=t.cells++Lx.tokCells l by simp[Lx.tokCells]];cases i with
  |zero=>rw[List.getElem?_append_left (by omega)];simp
  |succ i=>
   rw[List.getElem?_append_right (by omega),show (i+1)*4+j-t.cells.length=i*4+j by omega,ih i j (by simpa using h) hj];simp
theorem Ke(b:ByteArray)(hb:b.size≤maxLen)(hn:∀ts,Lx.scanP b=.ok ts→ts≠[]):Sem Tryz.prog 42 [.pv (sv b)] [] (.tup [.pv (om (Lx.scanP b)).1,.agg [.pv (iv (om (Lx.scanP b)).2.1),.pv (iv (om (Lx.scanP b)).2.2)]]) []:=by
 intro R K w us hR W hv;have hus:us=[.string b]:=by
  obtain⟨hl,hh⟩:=hv
  match us,hl with
  |[u],_=>
   have h0:=hh 0 (by simp) (by simp);simp only[List.getElem_cons_zero] at h0;cases h0 with
   |pv h1=>cases h1;rfl
 subst hus;refine(Lx.scan_any b w hb).mono fun e w' hs=>?_
 unfold Lx.Scanned at hs;have hnone:∀p x,dQ (.tup [.pv p,.agg x])=none:=fun p x=>rfl
 cases hr:Lx.scanP b with
 |ok ts=>
  rw[hr] at hs;obtain⟨v,rfl,ho,hbl⟩:=hs;have hne:=hn ts hr;obtain⟨hlen,ho|ho⟩:=ho
  ·exact absurd (List.length_eq_zero_iff.1 ho.2) hne
  ·obtain⟨g,cap,cur,rfl,hg,hc,hcap,hcm,hsz,htk⟩:=ho
   obtain⟨K',hst,hKR,hnew,_⟩:=Step.known W (FR hbl) (fun gg o=>if gg=g then cur[o]? else none) (fun gg o v hm=>by
    split at hm
    ·rename_i e;subst e;exact⟨hg,by simp[World.cell?,hc,hm]⟩
    ·cases hm)
   refine⟨K',?_,hst⟩;unfold ic;rw[hnone];refine⟨_,rfl,.tup _ _ rfl fun i h h'=>?_⟩;have hi:i=0∨i=1:=by simp at h;omega
   rcases hi with rfl|rfl
   ·show VR _ (.pv (om (.ok ts)).1) _
    refine .pv ?_;unfold om aW;simp only;have hl:(ts.map ofTok |>.map Tk.cells).length=ts.length:=by simp
    have key:∀i (h:i<ts.length) j,j<4→cur[i*4+j]? = (ts[i].cells)[j]?:=by
     intro i h j hj;rw[←Ga ts i j h hj,←htk,List.getElem?_take_of_lt (by omega)];simp
    have hpr:=PR.rows (R:=K'.R) (M:=K'.M) (ts.map ofTok |>.map Tk.cells) (some ⟨g,0,none⟩) cap g 0 4 (fun i j=>(cur[i*4+j]?).getD .nilFunc) (fun _=>rfl) (by simpa using hcap)
     (fun i h=>by simp[Tk.cells]) (fun i h j hj=>by
      have hi:i<ts.length:=by simpa using h
      have k1:=key i hi j hj;have k2:j<(ts[i].cells).length:=hj;rw[List.getElem?_eq_getElem k2] at k1;refine hnew g _ _ ?_;rw[if_pos rfl,Nat.zero_add,k1];rfl)
     (fun i h j hj=>by
      have hi:i<ts.length:=by simpa using h
      have hj':j<4:=by simpa[Tk.cells] using hj
      have k1:=key i hi j hj';rw[k1];have e:(List.map Tk.cells (List.map ofTok ts))[i]=(ofTok ts[i]).cells:=by simp
      have hcase:j=0∨j=1∨j=2∨j=3:=by omega
      rcases hcase with rfl|rfl|rfl|rfl
      all_goals
       simp only[e,Tk.cells,ofTok,Lx.Tok.cells];exact .lit _ rfl)
    rw[hl] at hpr;exact hpr
   ·show VR _ (.agg [.pv (iv 0),.pv (iv 0)]) _
    exact .agg _ [_,_] rfl fun i h h'=>by
     have hi:i=0∨i=1:=by simp at h;omega
     rcases hi with rfl|rfl<;>exact .pv (.lit _ rfl)
 |error p=>
  obtain⟨c,at_⟩:=p;rw[hr] at hs;obtain⟨rfl,hbl⟩:=hs;have hag:∀g o v,K.M g o=some v→g<w.heap.size:=by
   intro g o v h;apply Decidable.byContradiction;intro hn;rw[W.noM (by omega)] at h;cases h
  refine⟨K,?_,?_⟩
  ·unfold ic
   rw[hnone];refine⟨_,rfl,.tup _ [_,_] rfl fun i h h'=>?_⟩;have hi:i=0∨i=1:=by simp at h;omega
   rcases hi with rfl|rfl
   ·exact .pv (.lit _ rfl)
   ·exact .agg _ [_,_] rfl fun i h h'=>by
     have hi:i=0∨i=1:=by simp at h;omega
     rcases hi with rfl|rfl<;>exact .pv (.lit _ rfl)
  ·exact⟨W.grow (FR hbl),Ext.refl K,⟨hbl.os,hbl.tape,hbl.output,hbl.size,fun k hk _=>hbl.block k hk⟩,fun b _=>⟨rfl,rfl⟩,fun b o _ _=>rfl,fun k b h=>.inl h,fun b h _=>h,Nat.le_refl _⟩
end Go.Proofs.YtijcobeebaceoaaGreatDoor
namespace Go.Proofs.YtijcobeebaceoaaGreatDoor
open Go.RowKit
theorem CO{l:List UInt8}{e:Int}(h:Lx.oneL l=.error e):e≠0:=by
 have hp:∀{k:Int} {x:List UInt8} {n:Int} {r:List UInt8},Lx.putL k x n r=.error e→e≠0:=by
  intro k x n r h;unfold Lx.putL at h;split at h
  ·cases h;decide
  ·cases h
 unfold Lx.oneL at h;split at h
 ·cases h;decide
 ·split at h
  ·exact hp h
  ·split at h
   ·split at h
    ·cases h;decide
    ·exact hp h
   ·split at h
    ·split at h
     ·cases h;decide
     ·exact hp h
    ·split at h
     ·exact hp h
     ·split at h
      ·exact hp h
      ·cases h;decide
theorem ahl(l:List Tk):Raw 4 (l.map Tk.cells) (l.map Tk.cells):=.of l (fun x=>by simp[Tk.cells]) (fun x=>rfl) (fun x=>by simp[Tk.cells])
theorem yh(l:List Tk)(x:Tk)(k:PV→aK)(hl:l.length≤3000000):lu PG .fail 66 (.pv (.rows (l.map Tk.cells))) (.pv (.rows [[iv x.kind,sv x.text,iv x.n,iv x.at_]])) k=k (.rows ((l++[x]).map Tk.cells)):=by
 rw[aN (P:=PG) (d:=.fail) yF (ahl l) (c:=[iv x.kind,sv x.text,iv x.n,iv x.at_]) rfl (by simp) (by simp;omega) (by decide)];simp[Tk.cells]
def Vb(b:ByteArray):Tk:=⟨0,eB,0,(b.size:Int)⟩
def MI(b:ByteArray)(t:Lx.LTok):Tk:=ofTok (Lx.toTok b.size t)
theorem YM(b:ByteArray)(k:Int)(x:List UInt8)(n:Int)(i:Nat)(hi:i≤b.size):MI b (k,x,n,(D b i).length)=⟨k,Lx.textOf x,n,(i:Int)⟩:=by
 unfold MI ofTok Lx.toTok;simp only;rw[mX,show b.size-(b.size-i)=i by omega]
theorem yI:∀(f:Nat) (l:List UInt8) (ts:List Lx.LTok),Lx.scanL f l=.ok ts→ts.length≤l.length+1
 |0,l,ts,h=>by cases h;simp
 |f+1,[],ts,h=>by cases h;simp
 |f+1,c::l,ts,h=>by
  simp only[Lx.scanL] at h;cases h1:Lx.oneL (c::l) with
  |error e=>rw[h1] at h;cases h
  |ok p=>
   obtain⟨k,x,n,r⟩:=p;rw[h1] at h;simp only at h;cases h2:Lx.scanL f (Lx.skipC false r) with
   |error e=>rw[h2] at h;cases h
   |ok ts'=>
    rw[h2] at h;cases h;have:=yI f _ _ h2;have:=Lx.oneL_shorter h1;simp;omega
theorem Sj(b:ByteArray):MI b (0,[],0,0)=Vb b:=rfl
def amR(b:ByteArray)(acc:List Tk)(o:Except (Int×Nat) (List Lx.LTok))(r:Option Rs):Prop:=match o with
 |.error (e,k)=>e≠0∧r=some (0,[nS,iv e,iv (b.size-k:Nat)])
 |.ok ts=>∃L',r=some (2,[.rows ((acc++L').map Tk.cells),sv b])∧ts.map (MI b)=L'++[Vb b]
def amS(b:ByteArray)(o:Except (Int×Nat) (List Lx.LTok))(r:Option Rs):Prop:=match o with
 |.error (e,k)=>e≠0∧r=some (0,[nS,iv e,iv (b.size-k:Nat)])
 |.ok ts=>∃L',ts.map (MI b)=L'++[Vb b]∧r=some (match L' with|[]=>(1,[nS,sv b])|x::l=>(2,[.rows ((x::l).map Tk.cells),sv b]))
theorem KS(b:ByteArray)(hb:b.size≤60000)(i:Nat)(h1:i<b.size)(k:Int)(x:List UInt8)(n:Int)(r:List UInt8)(hone:Lx.oneL (b[i]::D b (i+1))=.ok (k,x,n,r)) :
  ∃j i':Nat,ev (q85 (sv b) (iv i))=some (0,[iv k,sv (Lx.textOf x),iv n,iv i,iv j,iv 0])∧ev (q84 (sv b) (iv j))=some (0,[iv i'])∧i<i'∧i'≤b.size∧D b i'=Lx.skipC false r:=by
 have ho:=Yx b (by omega) i h1;rw[cO h1,hone] at ho;have hev:ev (q85 (sv b) (iv i))=_:=ho;obtain⟨q,hq⟩:=Lx.oneL_suffix hone;have hq':r=D b (i+1+q):=by rw[hq,List.drop_drop]
 have hdp:=Lx.drop_pos b r (i+1+q) hq';have hrl:r.length≤b.size:=by rw[hq',mX];omega
 have hov:=Yu b (by omega) (b.size-r.length) (by omega);have hds:=Lx.drop_skipPos b (b.size-r.length);rw[hdp] at hds;have hge:=Lx.skipPos_ge b (b.size-r.length) (by omega);have hsh:=Lx.oneL_shorter hone;rw[←hds,mX,mX] at hsh;exact⟨b.size-r.length,Lx.skipPos b (b.size-r.length),hev,hov,by omega,hge.2,hds⟩
theorem abX(b:ByteArray)(hb:b.size≤60000):∀(m i:Nat) (acc:List Tk),b.size-i<m→i≤b.size→acc.length≤i→amR b acc (Lx.scanL m (D b i)) (ev (Cj (iv i) (sv b) (acc.map Tk.cells))):=by
 intro m
 induction m with
 |zero=>intro i acc hi;omega
 |succ m ih=>
  intro i acc hi hi2 ha;by_cases h1:i<b.size
  ·have h1':(i:Int)<(b.size:Int):=by omega
   rw[cO h1];simp only[Lx.scanL];cases hone:Lx.oneL (b[i]::D b (i+1)) with
   |error e=>
    have ho:=Yx b (by omega) i h1;rw[cO h1,hone] at ho;obtain⟨k,t,n,hev⟩:=ho;have he:=CO hone;refine⟨he,?_⟩;rw[←cO h1,mX,show b.size-(b.size-i)=i by omega];exact ax.of (by rw[Oc];simp[h1',hev,he])
   |ok p=>
    obtain⟨k,x,n,r⟩:=p;dsimp only;obtain⟨j,i',hev,hov,hlt,hle,hds⟩:=KS b hb i h1 k x n r hone;obtain⟨rr,hrr⟩:∃rr,rr=(acc++[(⟨k,Lx.textOf x,n,(i:Int)⟩:Tk)]).map Tk.cells:=⟨_,rfl⟩;have ap:∀kk:PV→aK,lu PG .fail 66 (.pv (.rows (acc.map Tk.cells))) (.pv (.rows [[iv k,sv (Lx.textOf x),iv n,iv i]])) kk=kk (.rows rr):=fun kk=>by
     rw[hrr];exact yh acc ⟨k,Lx.textOf x,n,(i:Int)⟩ kk (by omega)
    have hih:=ih i' (acc++[(⟨k,Lx.textOf x,n,(i:Int)⟩:Tk)]) (by omega) hle (by simp;omega);rw[←hrr] at hih;have hst:∀R,ev (Cj (iv i') (sv b) rr)=some R→ev (Cj (iv i) (sv b) (acc.map Tk.cells))=some R:=fun R hR=>ax.of (by
     rw[Oc];simp[h1',hev,ap,hov,hR])
    rw[hds] at hih;cases hs:Lx.scanL m (Lx.skipC false r) with
    |error p=>obtain⟨e,kk⟩:=p;rw[hs] at hih;exact⟨hih.1,hst _ hih.2⟩
    |ok ts=>
     rw[hs] at hih;obtain⟨L',h2,h3⟩:=hih;refine⟨⟨k,Lx.textOf x,n,(i:Int)⟩::L',?_,?_⟩
     ·rw[hst _ h2];simp
     ·rw[List.map_cons,←cO h1,YM b k x n i hi2,h3];rfl
  ·rw[oZ (by omega)]
   refine⟨[],?_,by simp[Sj]⟩;exact ax.of (by rw[Oc];simp[show ¬(i:Int)<(b.size:Int) by omega])
theorem abY(b:ByteArray)(hb:b.size≤60000)(m i:Nat)(hi:b.size-i<m)(hi2:i≤b.size):amS b (Lx.scanL m (D b i)) (ev (Nn (iv i) (sv b))):=by
 obtain⟨m,rfl⟩:∃k,m=k+1:=⟨m-1,by omega⟩;by_cases h1:i<b.size
 ·have h1':(i:Int)<(b.size:Int):=by omega
  rw[cO h1];simp only[Lx.scanL];cases hone:Lx.oneL (b[i]::D b (i+1)) with
  |error e=>
   have ho:=Yx b (by omega) i h1;rw[cO h1,hone] at ho;obtain⟨k,t,n,hev⟩:=ho;have he:=CO hone;refine⟨he,?_⟩;rw[←cO h1,mX,show b.size-(b.size-i)=i by omega];exact ax.of (by rw[Od];simp[h1',hev,he])
  |ok p=>
   obtain⟨k,x,n,r⟩:=p;dsimp only;obtain⟨j,i',hev,hov,hlt,hle,hds⟩:=KS b hb i h1 k x n r hone;have hih:=abX b hb m i' [(⟨k,Lx.textOf x,n,(i:Int)⟩:Tk)] (by omega) hle (by simp;omega);have hst:∀R,ev (Cj (iv i') (sv b) [[iv k,sv (Lx.textOf x),iv n,iv i]])=some R→ev (Nn (iv i) (sv b))=some R:=fun R hR=>ax.of (by
    rw[Od];simp[h1',hev,hov,hR])
   rw[hds] at hih;cases hs:Lx.scanL m (Lx.skipC false r) with
   |error p=>obtain⟨e,kk⟩:=p;rw[hs] at hih;exact⟨hih.1,hst _ hih.2⟩
   |ok ts=>
    rw[hs] at hih;obtain⟨L',h2,h3⟩:=hih;refine⟨⟨k,Lx.textOf x,n,(i:Int)⟩::L',?_,?_⟩
    ·rw[List.map_cons,←cO h1,YM b k x n i hi2,h3];rfl
    ·rw[hst _ h2];rfl
 ·rw[oZ (by omega)]
  refine⟨[],by simp[Sj],?_⟩;exact ax.of (by rw[Od];simp[show ¬(i:Int)<(b.size:Int) by omega])
def jL(b:ByteArray):Except (Int×Nat) (List Tk):=match Lx.scanP b with
 |.ok ts=>.ok (ts.map ofTok)
 |.error p=>.error p
theorem vB(b:ByteArray)(hb:b.size≤60000):jL b=match Lx.spoilAll b.data.toList with
  |some m=>.error (100,b.size-m)
  |none=>match Lx.scanL (b.size+1) (D b (Lx.skipPos b 0)) with | .error (e,k)=>.error (e,b.size-k) | .ok ts=>.ok (ts.map (MI b)):=by
 unfold jL;rw[Lx.scanP_form b hb];cases Lx.spoilAll b.data.toList with
 |some m=>rfl
 |none=>
  simp only;have hd:D b (Lx.skipPos b 0)=Lx.skipC false b.data.toList:=Lx.drop_skipPos b 0;have e:Lx.scanAll b.data.toList=Lx.scanL (b.size+1) (D b (Lx.skipPos b 0)):=by
   rw[hd];unfold Lx.scanAll;have h1:=Lx.skipC_length false b.data.toList;have hl:b.data.toList.length=b.size:=rfl;exact Lx.scanL_two _ _ _ (by omega) (by omega)
  rw[e];cases Lx.scanL (b.size+1) (D b (Lx.skipPos b 0)) with
  |error p=>rfl
  |ok ts=>simp[Lx.liftScan,MI]
theorem agU(b:ByteArray):ev (ahI (sv b))=some (0,match jL b with
  |.ok L=>[aW L,iv 0,iv 0]
  |.error (c,p)=>[aW [],iv c,iv p]):=by
 have key:∀(s:Nat) (ys:List PV),ev (q48 (sv b))=some (s,ys)→ev (ahI (sv b))=some (0,nI ys):=fun s ys h=>ax.of (by
  rw[aqx];show mM (ev (q48 (sv b)))=_;rw[h,BF])
 by_cases h0:60000<b.size
 ·have h0':(60000:Int)<(b.size:Int):=by omega
  have e:jL b=.error (3,0):=by unfold jL Lx.scanP;rw[if_pos h0]
  rw[e,key 0 [nS,iv 3,iv 0] (ax.of (by rw[h48];simp[h0']))];rfl
 have hb:b.size≤60000:=by omega
 have h0':¬(60000:Int)<(b.size:Int):=by omega
 have hbad:=amF b (by omega);rw[vB b hb];cases hsp:Lx.spoilAll b.data.toList with
 |some m=>
  rw[hsp] at hbad;rw[key 0 [nS,iv 100,iv (b.size-m:Nat)] (ax.of (by rw[h48];simp[h0',hbad]))];rfl
 |none=>
  rw[hsp] at hbad;simp only at hbad ⊢;have hov:=Yu b (by omega) 0 (by omega);have hov':ev (q84 (sv b) (iv 0))=some (0,[iv (Lx.skipPos b 0:Nat)]):=hov;have hge:=Lx.skipPos_ge b 0 (by omega);obtain⟨i,hi⟩:∃i,i=Lx.skipPos b 0:=⟨_,rfl⟩;rw[←hi] at hov' hge ⊢;have hl:=abY b hb (b.size+1) i (by omega) hge.2;cases hs:Lx.scanL (b.size+1) (D b i) with
  |error p=>
   obtain⟨e,k⟩:=p;rw[hs] at hl;have hl2:=hl.2;rw[key 0 [nS,iv e,iv (b.size-k:Nat)] (ax.of (by rw[h48];simp[h0',hbad,hov',hl2]))];rfl
  |ok ts=>
   rw[hs] at hl;obtain⟨L',h3,h4⟩:=hl;simp only;rw[h3];have hlen:L'.length≤b.size:=by
    have:=yI _ _ _ hs;have e:=congrArg List.length h3;simp at e;rw[mX] at this;omega
   cases L' with
   |nil=>
    simp only at h4;rw[key 1 [.rows [[iv 0,sv eB,iv 0,iv b.size]],iv 0,iv 0] (ax.of (by rw[h48];simp[h0',hbad,hov',h4]))];rfl
   |cons x l=>
    simp only at h4;have ap:∀kk:PV→aK,lu PG .fail 66 (.pv (.rows ((x::l).map Tk.cells))) (.pv (.rows [[iv 0,sv eB,iv 0,iv b.size]])) kk=kk (.rows ((x::l++[Vb b]).map Tk.cells)):=fun kk=>yh (x::l) (Vb b) kk (by omega)
    obtain⟨ra,hra⟩:∃ra,ra=(x::l).map Tk.cells:=⟨_,rfl⟩;obtain⟨rr,hrr⟩:∃rr,rr=(x::l++[Vb b]).map Tk.cells:=⟨_,rfl⟩;rw[←hra] at h4;simp only[←hra,←hrr] at ap;rw[key 1 [.rows rr,iv 0,iv 0] (ax.of (by rw[h48];simp[h0',hbad,hov',h4,ap]))];rw[hrr];rfl
def TOk(k:Int)(x:List UInt8):Prop:=1≤k∧k≤7∧(k=6→Lx.keyList.contains x=true)∧(k=7→Lx.markList.contains x=true)
theorem acV:Lx.markList.contains [95]=true:=by kernel_rfl
theorem Zd(x:List UInt8):TOk (Lx.kindL x) x:=by
 unfold Lx.kindL;split
 ·rename_i h;exact⟨by decide,by decide,fun _=>h,fun h=>absurd h (by decide)⟩
 ·split
  ·rename_i h
   refine⟨by decide,by decide,fun h=>absurd h (by decide),fun _=>?_⟩;rw[eq_of_beq h];exact acV
  ·have key:∀q:Bool,TOk (if q=true then 2 else 1) x:=fun q=>by
    cases q
    ·exact⟨by decide,by decide,fun h=>absurd h (by decide),fun h=>absurd h (by decide)⟩
    ·exact⟨by decide,by decide,fun h=>absurd h (by decide),fun h=>absurd h (by decide)⟩
   exact key _
theorem UQ{l:List UInt8}{k n:Int}{x r:List UInt8}(h:Lx.oneL l=.ok (k,x,n,r)):TOk k x:=by
 have hp:∀{k':Int} {x':List UInt8} {n':Int} {r':List UInt8},TOk k' x'→Lx.putL k' x' n' r'=.ok (k,x,n,r)→TOk k x:=by
  intro k' x' n' r' ht h;obtain⟨_,rfl,rfl,_⟩:=Lx.putL_rest h;exact ht
 unfold Lx.oneL at h;split at h
 ·cases h
 ·split at h
  ·exact hp (Zd _) h
  ·split at h
   ·split at h
    ·cases h
    ·exact hp ⟨by decide,by decide,fun h=>absurd h (by decide),fun h=>absurd h (by decide)⟩ h
   ·split at h
    ·split at h
     ·cases h
     ·exact hp ⟨by decide,by decide,fun h=>absurd h (by decide),fun h=>absurd h (by decide)⟩ h
    ·split at h
     ·refine hp ?_ h
      split
      ·rename_i hm;exact⟨by decide,by decide,fun h=>absurd h (by decide),fun _=>hm⟩
      ·exact⟨by decide,by decide,fun h=>absurd h (by decide),fun h=>absurd h (by decide)⟩
     ·split at h
      ·rename_i hm
       exact hp ⟨by decide,by decide,fun h=>absurd h (by decide),fun _=>hm⟩ h
      ·cases h
theorem Kg:∀(f:Nat) (l:List UInt8) (ts:List Lx.LTok),Lx.scanL f l=.ok ts→∃ts',ts=ts'++[(0,[],0,0)]∧∀t∈ts',TOk t.1 t.2.1
 |0,l,ts,h=>by cases h;exact⟨[],rfl,fun t ht=>by cases ht⟩
 |f+1,[],ts,h=>by cases h;exact⟨[],rfl,fun t ht=>by cases ht⟩
 |f+1,c::l,ts,h=>by
  simp only[Lx.scanL] at h;cases h1:Lx.oneL (c::l) with
  |error e=>rw[h1] at h;cases h
  |ok p=>
   obtain⟨k,x,n,r⟩:=p;rw[h1] at h;simp only at h;cases h2:Lx.scanL f (Lx.skipC false r) with
   |error e=>rw[h2] at h;cases h
   |ok ts'=>
    rw[h2] at h;cases h;obtain⟨t2,e1,e2⟩:=Kg f _ _ h2;refine⟨(k,x,n,(c::l).length)::t2,by rw[e1];rfl,fun t ht=>?_⟩;rcases List.mem_cons.1 ht with rfl|ht
    ·exact UQ h1
    ·exact e2 t ht
theorem Fx:∀(f:Nat) (l:List UInt8) (e:Int) (k:Nat),Lx.scanL f l=.error (e,k)→e≠0
 |0,l,e,k,h=>by cases h
 |f+1,[],e,k,h=>by cases h
 |f+1,c::l,e,k,h=>by
  simp only[Lx.scanL] at h;cases h1:Lx.oneL (c::l) with
  |error e=>rw[h1] at h;cases h;exact CO h1
  |ok p=>
   obtain⟨k,x,n,r⟩:=p;rw[h1] at h;simp only at h;cases h2:Lx.scanL f (Lx.skipC false r) with
   |error e=>rw[h2] at h;cases h;exact Fx f _ _ _ h2
   |ok ts'=>rw[h2] at h;cases h
theorem NW:Lx.keyList.contains [40]=false∧Lx.keyList.contains [95]=false∧Lx.markList.contains [99,97,115,101]=false:=⟨by kernel_rfl,by kernel_rfl,by kernel_rfl⟩
theorem vv{x:List UInt8}{a:Array UInt8}(h:Lx.textOf x=⟨a⟩):x=a.toList:=by
 have:=congrArg (fun b:ByteArray=>b.data.toList) h;exact this
theorem agv(b:ByteArray)(ts:List Lx.LTok)(hk:∀t∈ts,TOk t.1 t.2.1)(hl:ts.length≤60000):F3 ((ts++[(0,[],0,0)]).map (MI b)):=by
 have hin:∀a (h:a<ts.length),ai ((ts++[(0,[],0,0)]).map (MI b)) a=MI b ts[a]:=fun a h=>by
  unfold ai;rw[List.getElem?_map,List.getElem?_append_left h,List.getElem?_eq_getElem h];rfl
 have hout:∀a,ts.length≤a→(ai ((ts++[(0,[],0,0)]).map (MI b)) a).kind=0:=fun a h=>by
  unfold ai;rw[List.getElem?_map,List.getElem?_append_right h];cases hd:a-ts.length with
  |zero=>rfl
  |succ n=>rfl
 have hc:∀a,(∃t,TOk t.1 t.2.1∧ai ((ts++[(0,[],0,0)]).map (MI b)) a=MI b t)∨(ai ((ts++[(0,[],0,0)]).map (MI b)) a).kind=0:=fun a=>by
  by_cases h:a<ts.length
  ·exact .inl ⟨ts[a],hk _ (List.getElem_mem h),hin a h⟩
  ·exact .inr (hout a (by omega))
 have hkd:∀t:Lx.LTok,(MI b t).kind=t.1:=fun t=>rfl
 have htx:∀t:Lx.LTok,(MI b t).text=Lx.textOf t.2.1:=fun t=>rfl
 refine⟨by simp;omega,by simp,fun a h=>?_,fun a=>?_,fun a h=>?_,fun a h=>?_⟩
 ·have:a<ts.length:=by
   apply Decidable.byContradiction;intro hn;exact h (hout a (by omega))
  simp;omega
 ·rcases hc a with⟨t,ht,e⟩|e
  ·rw[e,hkd];exact ht.2.1
  ·rw[e];decide
 ·rcases hc a with⟨t,ht,e⟩|e
  ·rw[e,hkd] at h
   have hx:=ht.2.2.1 h;rw[e,htx];refine⟨fun he=>?_,fun he=>?_⟩
   ·rw[vv he] at hx
    exact absurd (hx.symm.trans NW.1) (by decide)
   ·rw[vv he] at hx
    exact absurd (hx.symm.trans NW.2.1) (by decide)
  ·rw[e] at h;exact absurd h (by decide)
 ·rcases hc a with⟨t,ht,e⟩|e
  ·rw[e,hkd] at h
   have hx:=ht.2.2.2 h;rw[e,htx];intro he;rw[vv he] at hx;exact absurd (hx.symm.trans NW.2.2) (by decide)
  ·rw[e] at h;exact absurd h (by decide)
theorem wT{b:ByteArray}{L:List Tk}(h:jL b=.ok L):b.size≤60000∧L.length≤60001∧F3 L:=by
 have hb:b.size≤60000:=by
  apply Decidable.byContradiction;intro hn;unfold jL Lx.scanP at h;rw[if_pos (by omega)] at h;cases h
 rw[vB b hb] at h;split at h
 ·cases h
 ·split at h
  ·cases h
  ·rename_i ts hs
   cases h;have hl:=yI _ _ _ hs;rw[mX] at hl;obtain⟨t2,rfl,hk⟩:=Kg _ _ _ hs;simp at hl;exact⟨hb,by simp;omega,agv b t2 hk (by omega)⟩
theorem yH{b:ByteArray}{e:Int}{w:Nat}(h:jL b=.error (e,w)):e≠0:=by
 by_cases hb:b.size≤60000
 ·rw[vB b hb] at h
  split at h
  ·cases h;decide
  ·split at h
   ·rename_i hs;cases h;exact Fx _ _ _ _ hs
   ·cases h
 ·unfold jL Lx.scanP at h
  rw[if_pos (by omega)] at h;cases h;decide
theorem ae8(b:ByteArray):ev (q22 (sv b))=some (0,match jL b with
  |.ok L=>eU L ⟨0,0,0,0⟩ []
  |.error (c,p)=>eU [] ⟨0,0,c,p⟩ []):=ax.of (by
 have hs:=agU b;rw[h22];cases ht:jL b with
 |ok L=>rw[ht] at hs;simp[hs]
 |error p=>
  obtain⟨c,p⟩:=p;rw[ht] at hs;have hc:=yH ht;have hf:=aas (L:=[]) c p 0 0 0 0;simp only[Int.natCast_zero] at hf;simp[hs,hc,hf,gZ])
theorem Yh(b:ByteArray):match jL b with
  |.error (c,p)=>c≠0∧RPr b (.err c p)
  |.ok L=>∃m0,∀m,m0≤m→RPr b (eG L m ⟨⟨[],[],[]⟩,[]⟩ 0 0):=by
 have hs:=ae8 b;cases ht:jL b with
 |error p=>
  obtain⟨c,p⟩:=p;rw[ht] at hs;have hc:=yH ht;exact⟨hc,(Yi (L:=[]) (by simp) b ⟨0,0,c,p⟩ (by simp) (fun _=>⟨rfl,rfl⟩) hs).2 hc⟩
 |ok L=>
  rw[ht] at hs;obtain⟨hb,hl,hW⟩:=wT ht;exact(Yi (L:=L) (by omega) b ⟨0,0,0,0⟩ (by simp) (fun _=>⟨rfl,rfl⟩) hs).1 rfl
end Go.Proofs.YtijcobeebaceoaaGreatDoor
