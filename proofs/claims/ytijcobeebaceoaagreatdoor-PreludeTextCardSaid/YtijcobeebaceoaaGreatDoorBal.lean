/- Joined texts. -/
import Derived.Test.YtijcobeebaceoaaGreatDoorBak
set_option linter.unusedVariables false
set_option linter.unusedSimpArgs false
set_option linter.unusedSectionVars false
namespace Go.Proofs.YtijcobeebaceoaaGreatDoor
open Go.RowKit
set_option maxRecDepth 10000
def Cn.Ok(x:Cn):Prop:=x.args.length≤bM∧∀y∈x.args,y.Ok
def Dt.Ok(x:Dt):Prop:=x.params.length≤bM∧(x.cons.length≤bM∧∀y∈x.cons,y.Ok)∧x.deriv.length≤bM
abbrev qUp(L:List Tk)(s:St):Q:=afO (aU L) (iv s.a) (iv s.lv) (iv s.e) (iv s.w)
abbrev qDt(L:List Tk)(s:St):Q:=afZ (aU L) (iv s.a) (iv s.lv) (iv s.e) (iv s.w)
abbrev dtC(x:Dt):List PV:=[sv x.name,strs x.params,pU x.cons,strs x.deriv,iv x.at_]
theorem Ux:ja PG 74 3 48:=ja.of (by kernel_rfl)
@[simp] theorem ajA:strs []=.rows []:=rfl
@[simp] theorem an1:pU []=.rows []:=rfl
section
variable{L:List Tk}(hL:L.length≤1000000)
include hL
theorem aos{n:Nat}:∀(m:Nat) (s:St) (l:List ByteArray),mu L s≤m→m≤n→s.a≤L.length→l.length+m≤2000000→∃(s':St) (l':List ByteArray),
  ev (Qn (l.map fun x=>[sv x]) (aU L) (iv s.a) (iv s.lv) (iv s.e) (iv s.w))=some (1,dh L s' [strs (l++l')])∧s'.a≤L.length∧mu L s'≤mu L s∧l'.length≤mu L s-mu L s'∧s'.lv=s.lv∧Gr (fun m=>pG L m l) s s' (l++l'):=by
 intro m
 induction m with
 |zero=>
  intro s l hm hn hs hl;have hb:gD L ⟨#[44]⟩ s=false:=by
   cases hb:gD L ⟨#[44]⟩ s with
   |false=>rfl
   |true=>have:=aW (L:=L) (gZ hb).1;omega
  exact⟨s,[],ay.of (by rw[I9];simp[bG hL,hb,may_f hb,strs]),hs,Nat.le_refl _,by simp,rfl,(Gr.fx (pG.eq_2 L l) (.may_f hb .pure)).eq (by simp)⟩
 |succ m ihm=>
  intro s l hm hn hs hl;cases hb:gD L ⟨#[44]⟩ s with
  |false=>exact⟨s,[],ay.of (by rw[I9];simp[bG hL,hb,may_f hb,strs]),hs,Nat.le_refl _,by simp,rfl,(Gr.fx (pG.eq_2 L l) (.may_f hb .pure)).eq (by simp)⟩
  |true=>
   have hp:=aW (L:=L) (gZ hb).1;obtain⟨b1,b2⟩:=bS hb;have t1:=aQ (L:=L) (k:=2) (x:=eB) (by decide) s.up;have t2:=aV (L:=L) (k:=2) (x:=eB) (by decide) b2;obtain⟨s2,l',g1,g2,g3,g4,g5,r2⟩:=ihm (au L 2 eB s.up) (l++[(aL L 2 eB s.up).text]) (by omega) (by omega) t2 (by simp;omega);rw[List.map_append,List.map_cons,List.map_nil,List.append_assoc] at g1;simp only[aO,aR] at g1 g5;have ha:=fun k'=>aH (P:=PG) (d:=.fail) (k:=k') KC (mr l) (c:=[sv (aL L 2 eB s.up).text]) rfl (by simp) (by simp;omega) (by decide)
   refine⟨s2,(aL L 2 eB s.up).text::l',ay.of ?_,g2,by omega,by simp;omega,g5,(Gr.fx (pG.eq_2 L l) (.may_t hb (.bind (.take _ _ _) r2))).eq (by simp)⟩;have hz:St.mk s.up.a s.lv s.e s.w=s.up:=by rw[←aR s,←bN s,←bP s]
   rw[I9];simp[bG hL,hb,may_t hb,aR,bN,bP];simp[hz,aK hL (k:=2) (by decide),Tk.cells,aR];simp[ha,g1,g5]
theorem pX(s:St)(hs:s.a≤L.length):∃v s',ev (qUp L s)=some (0,dh L s' [strs v])∧s'.a≤L.length∧mu L s'≤mu L s-1∧v.length≤10000000∧s'.lv=s.lv∧Gr (fun m=>jV L m) s s' v:=by
 have t1:=aQ (L:=L) (k:=2) (x:=eB) (by decide) s;have t2:=aV (L:=L) (k:=2) (x:=eB) (by decide) hs;have hg:∀{s' v},Gr (fun m=>pG L m [(aL L 2 eB s).text]) (au L 2 eB s) s' v→Gr (fun m=>jV L m) s s' v:=fun hr=>.tx (fun _=>rfl) (.bind (.take _ _ _) hr)
 have hl1:(au L 2 eB s).lv=s.lv:=aO _ _ s;generalize h1:au L 2 eB s=s1 at *;generalize h2:aL L 2 eB s=t at *;cases hb:gD L ⟨#[44]⟩ s1 with
 |false=>
  have hc:ev (GY [[sv t.text]] (aU L) (iv s1.a) (iv s1.lv) (iv s1.e) (iv s1.w))=some (0,dh L s1 [.rows [[sv t.text]]]):=ay.of (by rw[SN];simp[bG hL,hb,may_f hb]);have hq:ev (ahE (aU L) (iv s.a) (iv s.lv) (iv s.e) (iv s.w))=some (0,dh L s1 [.rows [[sv t.text]]]):=ay.of (by
   rw[alM];simp[aK hL (k:=2) (by decide),Tk.cells,h1,h2];simp only[←hl1];simp[hc])
  exact⟨[t.text],s1,ay.of (by rw[agd ev,hq];simp[gX,dh,bJ,lJ,strs]),t2,t1,by simp,hl1,hg ((Gr.fx (pG.eq_2 L _) (.may_f hb .pure)))⟩
 |true=>
  have hp:=aW (L:=L) (gZ hb).1;obtain⟨b1,b2⟩:=bS hb;have t3:=aQ (L:=L) (k:=2) (x:=eB) (by decide) s1.up;have t4:=aV (L:=L) (k:=2) (x:=eB) (by decide) b2;have hml:=iV L (au L 2 eB s1.up);obtain⟨s2,l',g1,g2,g3,g4,g5,r2⟩:=aos hL (mu L (au L 2 eB s1.up)) (au L 2 eB s1.up) [t.text,(aL L 2 eB s1.up).text] (Nat.le_refl _) (Nat.le_refl _) t4 (by simp;omega);have hr:Raw 1 [[sv t.text]] ([t.text].map fun x=>[sv x]):=mr [t.text];have ha:=fun k'=>aH (P:=PG) (d:=.fail) (k:=k') KC hr (c:=[sv (aL L 2 eB s1.up).text]) rfl (by simp) (by simp) (by decide)
  have hz:St.mk s1.up.a s1.lv s1.e s1.w=s1.up:=by rw[←aR s1,←bN s1,←bP s1]
  simp only[aO,aR] at g1 g5;have hc:ev (GY [[sv t.text]] (aU L) (iv s1.a) (iv s1.lv) (iv s1.e) (iv s1.w))=some (1,dh L s2 [strs (t.text::(aL L 2 eB s1.up).text::l')]):=ay.of (by
   rw[SN];simp[bG hL,hb,may_t hb,aR,bN,bP];simp[hz,aK hL (k:=2) (by decide),Tk.cells,aR];simp at g1;simp[ha,g1,g5])
  have hq:ev (ahE (aU L) (iv s.a) (iv s.lv) (iv s.e) (iv s.w))=some (0,dh L s2 [strs (t.text::(aL L 2 eB s1.up).text::l')]):=ay.of (by
   rw[alM];simp[aK hL (k:=2) (by decide),Tk.cells,h1,h2];simp only[←hl1];simp[hc,g5])
  exact⟨t.text::(aL L 2 eB s1.up).text::l',s2,ay.of (by rw[agd ev,hq];simp[gX,dh]),g2,by omega,by simp;omega,g5.trans hl1,hg ((Gr.fx (pG.eq_2 L _) (.may_t hb (.bind (.take _ _ _) r2))))⟩
theorem ak3{n:Nat}(nm:ByteArray)(a:Int):∀(m:Nat) (s:St) (l:List ByteArray),mu L s≤m→m≤n→s.a≤L.length→l.length+m≤2000000→∃(s':St) (l':List ByteArray),
  ev (Rc (aU L) (iv s.a) (iv s.lv) (iv s.e) (iv s.w) (sv nm) (l.map fun x=>[sv x]) (iv a))=some (1,dh L s' [sv nm,strs (l++l'),aj,aj,iv a,sv eB,aj,aj,aj,iv 0])∧s'.a≤L.length∧mu L s'≤mu L s∧l'.length≤mu L s-mu L s'∧s'.lv=s.lv∧Gr (fun m=>kr L m l) s s' (l++l'):=by
 intro m
 induction m with
 |zero=>
  intro s l hm hn hs hl;have hk:(bg L s).kind≠1:=fun h=>by
   have:=aW (L:=L) (dO (L:=L) (s:=s) (by omega)).1;omega
  exact⟨s,[],ay.of (by rw[Ji];simp[fE,Tk.cells,hk,strs]),hs,Nat.le_refl _,by simp,rfl,(Gr.fx (kr.eq_2 L l) (.kind_f hk .pure)).eq (by simp)⟩
 |succ m ihm=>
  intro s l hm hn hs hl;by_cases hk:(bg L s).kind=1
  ·have he:=dO (L:=L) (s:=s) (by omega)
   have hp:=aW (L:=L) he.1;have t1:=aQ (L:=L) (k:=1) (x:=eB) (by decide) s;have t2:=aV (L:=L) (k:=1) (x:=eB) (by decide) hs;obtain⟨s2,l',g1,g2,g3,g4,g5,r2⟩:=ihm (au L 1 eB s) (l++[(aL L 1 eB s).text]) (by omega) (by omega) t2 (by simp;omega);rw[List.map_append,List.map_cons,List.map_nil,List.append_assoc] at g1;simp only[aO] at g1 g5;have ha:=fun k'=>aH (P:=PG) (d:=.fail) (k:=k') KC (mr l) (c:=[sv (aL L 1 eB s).text]) rfl (by simp) (by simp;omega) (by decide)
   refine⟨s2,(aL L 1 eB s).text::l',ay.of ?_,g2,by omega,by simp;omega,g5,(Gr.fx (kr.eq_2 L l) (.kind_t hk (.bind (.take _ _ _) r2))).eq (by simp)⟩;rw[Ji];simp[fE,Tk.cells,hk];simp[aK hL (k:=1) (by decide),Tk.cells];simp[ha,g1,g5]
  ·exact⟨s,[],ay.of (by rw[Ji];simp[fE,Tk.cells,hk,strs]),hs,Nat.le_refl _,by simp,rfl,(Gr.fx (kr.eq_2 L l) (.kind_f hk .pure)).eq (by simp)⟩
theorem ak4(nm:ByteArray)(a:Int)(s:St)(hs:s.a≤L.length):∃(s':St) (l':List ByteArray),
  ((l'=[]∧ev (Hw (aU L) (iv s.a) (iv s.lv) (iv s.e) (iv s.w) (sv nm) (iv a))=some (0,dh L s' [sv nm,aj,aj,aj,iv a,sv eB,aj,aj,aj,iv 0]))∨
   ∃x xs,l'=x::xs∧ev (Hw (aU L) (iv s.a) (iv s.lv) (iv s.e) (iv s.w) (sv nm) (iv a))=some (1,dh L s' [sv nm,strs l',aj,aj,iv a,sv eB,aj,aj,aj,iv 0]))∧s'.a≤L.length∧mu L s'≤mu L s∧l'.length≤10000000∧s'.lv=s.lv∧Gr (fun m=>kr L m []) s s' l':=by
 by_cases hk:(bg L s).kind=1
 ·have he:=dO (L:=L) (s:=s) (by omega)
  have hp:=aW (L:=L) he.1;have t1:=aQ (L:=L) (k:=1) (x:=eB) (by decide) s;have t2:=aV (L:=L) (k:=1) (x:=eB) (by decide) hs;have hml:=iV L (au L 1 eB s);obtain⟨s2,l',g1,g2,g3,g4,g5,r2⟩:=ak3 hL nm a (mu L (au L 1 eB s)) (au L 1 eB s) [(aL L 1 eB s).text] (Nat.le_refl _) (Nat.le_refl _) t2 (by simp;omega);simp at g1;simp only[aO] at g5;refine⟨s2,(aL L 1 eB s).text::l',.inr ⟨_,_,rfl,ay.of ?_⟩,g2,by omega,by simp;omega,g5,.fx (kr.eq_2 L _) (.kind_t hk (.bind (.take _ _ _) r2))⟩;rw[Tf];simp[fE,Tk.cells,hk];simp[aK hL (k:=1) (by decide),Tk.cells];simp[g1,g5]
 ·exact⟨s,[],.inl ⟨rfl,ay.of (by rw[Tf];simp[fE,Tk.cells,hk])⟩,hs,Nat.le_refl _,by simp,rfl,.fx (kr.eq_2 L _) (.kind_f hk .pure)⟩
theorem amG{n:Nat}(nm:ByteArray)(a:Int)(dn:ByteArray)(da:Int):∀(m:Nat) (s:St) (l:List Ty),mu L s≤m→m≤n→s.a≤L.length→l.length+m≤2000000→∃(s':St) (l':List Ty),
  ev (Q9 (aU L) (iv s.a) (iv s.lv) (iv s.e) (iv s.w) (sv nm) (l.map Ty.cells) (iv a) (sv dn) (iv da))=some (1,dh L s' [sv nm,bH (l++l'),iv a,sv dn,aj,aj,aj,iv da,sv eB,aj,aj,aj,iv 0])∧
  s'.a≤L.length∧mu L s'≤mu L s∧(∀t∈l',t.Ok)∧l'.length≤mu L s-mu L s'∧Gr (fun m=>bC L m l) s s' (l++l'):=by
 intro m
 induction m with
 |zero=>
  intro s l hm hn hs hl;obtain⟨b,h1,h2,h3⟩:=dK (L:=L) (k:=0) (.inl rfl) s;cases b with
  |true=>have:=aW (L:=L) (h2 rfl).1;omega
  |false=>exact⟨s,[],ay.of (by rw[Jh];simp[h1,bH]),hs,Nat.le_refl _,(fun t ht=>by cases ht),by simp,(Gr.fx (fun m=>bQ L m l) (.st_f (h3 rfl) .pure)).eq (by simp)⟩
 |succ m ih=>
  intro s l hm hn hs hl;obtain⟨b,h1,h2,h3⟩:=dK (L:=L) (k:=0) (.inl rfl) s;cases b with
  |false=>exact⟨s,[],ay.of (by rw[Jh];simp[h1,bH]),hs,Nat.le_refl _,(fun t ht=>by cases ht),by simp,(Gr.fx (fun m=>bQ L m l) (.st_f (h3 rfl) .pure)).eq (by simp)⟩
  |true=>
   have hp:=aW (L:=L) (h2 rfl).1;obtain⟨v,s1,e1,e2,e3,e4,r1⟩:=jr hL (m+1) s hs (by omega);obtain⟨s2,l',g1,g2,g3,g4,g5,r2⟩:=ih s1 (l++[v]) (by omega) (by omega) e2 (by simp;omega);refine⟨s2,v::l',ay.of ?_,g2,by omega,?_,by simp;omega,(Gr.fx (fun m=>bQ L m l) (.st_t (h2 rfl).2.2 (.bind r1 r2))).eq (by simp)⟩
   ·rw[Jh]
    rw[List.map_append,List.map_cons,List.map_nil,Ty.cells_eq v,List.append_assoc] at g1;have ha:=fun k'=>aH (P:=PG) (d:=.fail) (k:=k') Fg (kU l) (c:=oq v) rfl (by simp) (by simp;omega) (by decide)
    simp[h1,e1,ha,g1]
   ·intro t ht
    rcases List.mem_cons.1 ht with rfl|ht
    ·exact e4
    ·exact g4 t ht
theorem amK(nm:ByteArray)(a:Int)(dn:ByteArray)(da:Int)(s:St)(hs:s.a≤L.length):∃(s':St) (l':List Ty),
  ((l'=[]∧ev (Hr (aU L) (iv s.a) (iv s.lv) (iv s.e) (iv s.w) (sv nm) (iv a) (sv dn) (iv da))=some (0,dh L s' [sv nm,aj,iv a,sv dn,aj,aj,aj,iv da,sv eB,aj,aj,aj,iv 0]))∨
   ev (Hr (aU L) (iv s.a) (iv s.lv) (iv s.e) (iv s.w) (sv nm) (iv a) (sv dn) (iv da))=some (1,dh L s' [sv nm,bH l',iv a,sv dn,aj,aj,aj,iv da,sv eB,aj,aj,aj,iv 0]))∧
  s'.a≤L.length∧mu L s'≤mu L s∧(∀t∈l',t.Ok)∧l'.length≤10000000∧Gr (fun m=>bC L m []) s s' l':=by
 obtain⟨b,h1,h2,h3⟩:=dK (L:=L) (k:=0) (.inl rfl) s;cases b with
 |false=>exact⟨s,[],.inl ⟨rfl,ay.of (by rw[Te];simp[h1])⟩,hs,Nat.le_refl _,(fun t ht=>by cases ht),by simp,.fx (fun m=>bQ L m []) (.st_f (h3 rfl) .pure)⟩
 |true=>
  have hp:=aW (L:=L) (h2 rfl).1;obtain⟨v,s1,e1,e2,e3,e4,r1⟩:=jr hL (mu L s) s hs (Nat.le_refl _);have hml:=iV L s1;obtain⟨s2,l',g1,g2,g3,g4,g5,r2⟩:=amG hL nm a dn da (mu L s1) s1 [v] (Nat.le_refl _) (Nat.le_refl _) e2 (by simp;omega);refine⟨s2,v::l',.inr (ay.of ?_),g2,by omega,?_,by simp;omega,.fx (fun m=>bQ L m []) (.st_t (h2 rfl).2.2 (.bind r1 r2))⟩
  ·rw[Te]
   rw[List.map_cons,List.map_nil,Ty.cells_eq v] at g1;simp[h1,e1,g1]
  ·intro t ht
   rcases List.mem_cons.1 ht with rfl|ht
   ·exact e4
   ·exact g4 t ht
theorem amE{n:Nat}(nm:ByteArray)(a:Int)(dn:ByteArray)(da:Int)(CR:List (List PV)):∀(m:Nat) (s:St) (l:List Ty),mu L s≤m→m≤n→s.a≤L.length→l.length+m≤2000000→∃(s':St) (l':List Ty),
  ev (Q7 (aU L) (iv s.a) (iv s.lv) (iv s.e) (iv s.w) (sv nm) (l.map Ty.cells) (iv a) (sv dn) CR (iv da))=some (3,dh L s' [sv nm,bH (l++l'),iv a,sv dn,aj,.rows CR,aj,iv da,sv eB,aj,aj,aj,iv 0])∧
  s'.a≤L.length∧mu L s'≤mu L s∧(∀t∈l',t.Ok)∧l'.length≤mu L s-mu L s'∧Gr (fun m=>bC L m l) s s' (l++l'):=by
 intro m
 induction m with
 |zero=>
  intro s l hm hn hs hl;obtain⟨b,h1,h2,h3⟩:=dK (L:=L) (k:=0) (.inl rfl) s;cases b with
  |true=>have:=aW (L:=L) (h2 rfl).1;omega
  |false=>exact⟨s,[],ay.of (by rw[Jf];simp[h1,bH]),hs,Nat.le_refl _,(fun t ht=>by cases ht),by simp,(Gr.fx (fun m=>bQ L m l) (.st_f (h3 rfl) .pure)).eq (by simp)⟩
 |succ m ih=>
  intro s l hm hn hs hl;obtain⟨b,h1,h2,h3⟩:=dK (L:=L) (k:=0) (.inl rfl) s;cases b with
  |false=>exact⟨s,[],ay.of (by rw[Jf];simp[h1,bH]),hs,Nat.le_refl _,(fun t ht=>by cases ht),by simp,(Gr.fx (fun m=>bQ L m l) (.st_f (h3 rfl) .pure)).eq (by simp)⟩
  |true=>
   have hp:=aW (L:=L) (h2 rfl).1;obtain⟨v,s1,e1,e2,e3,e4,r1⟩:=jr hL (m+1) s hs (by omega);obtain⟨s2,l',g1,g2,g3,g4,g5,r2⟩:=ih s1 (l++[v]) (by omega) (by omega) e2 (by simp;omega);refine⟨s2,v::l',ay.of ?_,g2,by omega,?_,by simp;omega,(Gr.fx (fun m=>bQ L m l) (.st_t (h2 rfl).2.2 (.bind r1 r2))).eq (by simp)⟩
   ·rw[Jf]
    rw[List.map_append,List.map_cons,List.map_nil,Ty.cells_eq v,List.append_assoc] at g1;have ha:=fun k'=>aH (P:=PG) (d:=.fail) (k:=k') Fg (kU l) (c:=oq v) rfl (by simp) (by simp;omega) (by decide)
    simp[h1,e1,ha,g1]
   ·intro t ht
    rcases List.mem_cons.1 ht with rfl|ht
    ·exact e4
    ·exact g4 t ht
theorem amI(nm:ByteArray)(a:Int)(dn:ByteArray)(da:Int)(CR:List (List PV))(s:St)(hs:s.a≤L.length):∃(s':St) (l':List Ty),
  ((l'=[]∧ev (Ho (aU L) (iv s.a) (iv s.lv) (iv s.e) (iv s.w) (sv nm) (iv a) (sv dn) CR (iv da))=some (1,dh L s' [sv nm,aj,iv a,sv dn,aj,.rows CR,aj,iv da,sv eB,aj,aj,aj,iv 0]))∨
   ev (Ho (aU L) (iv s.a) (iv s.lv) (iv s.e) (iv s.w) (sv nm) (iv a) (sv dn) CR (iv da))=some (3,dh L s' [sv nm,bH l',iv a,sv dn,aj,.rows CR,aj,iv da,sv eB,aj,aj,aj,iv 0]))∧
  s'.a≤L.length∧mu L s'≤mu L s∧(∀t∈l',t.Ok)∧l'.length≤10000000∧Gr (fun m=>bC L m []) s s' l':=by
 obtain⟨b,h1,h2,h3⟩:=dK (L:=L) (k:=0) (.inl rfl) s;cases b with
 |false=>exact⟨s,[],.inl ⟨rfl,ay.of (by rw[Tc];simp[h1])⟩,hs,Nat.le_refl _,(fun t ht=>by cases ht),by simp,.fx (fun m=>bQ L m []) (.st_f (h3 rfl) .pure)⟩
 |true=>
  have hp:=aW (L:=L) (h2 rfl).1;obtain⟨v,s1,e1,e2,e3,e4,r1⟩:=jr hL (mu L s) s hs (Nat.le_refl _);have hml:=iV L s1;obtain⟨s2,l',g1,g2,g3,g4,g5,r2⟩:=amE hL nm a dn da CR (mu L s1) s1 [v] (Nat.le_refl _) (Nat.le_refl _) e2 (by simp;omega);refine⟨s2,v::l',.inr (ay.of ?_),g2,by omega,?_,by simp;omega,.fx (fun m=>bQ L m []) (.st_t (h2 rfl).2.2 (.bind r1 r2))⟩
  ·rw[Tc]
   rw[List.map_cons,List.map_nil,Ty.cells_eq v] at g1;simp[h1,e1,g1]
  ·intro t ht
   rcases List.mem_cons.1 ht with rfl|ht
   ·exact e4
   ·exact g4 t ht
theorem amF{n:Nat}(nm:ByteArray)(a:Int)(dn:ByteArray)(da:Int)(PR:List (List PV)):∀(m:Nat) (s:St) (l:List Ty),mu L s≤m→m≤n→s.a≤L.length→l.length+m≤2000000→∃(s':St) (l':List Ty),
  ev (Q8 (aU L) (iv s.a) (iv s.lv) (iv s.e) (iv s.w) (sv nm) (l.map Ty.cells) (iv a) (sv dn) PR (iv da))=some (2,dh L s' [sv nm,bH (l++l'),iv a,sv dn,.rows PR,aj,aj,iv da,sv eB,aj,aj,aj,iv 0])∧
  s'.a≤L.length∧mu L s'≤mu L s∧(∀t∈l',t.Ok)∧l'.length≤mu L s-mu L s'∧Gr (fun m=>bC L m l) s s' (l++l'):=by
 intro m
 induction m with
 |zero=>
  intro s l hm hn hs hl;obtain⟨b,h1,h2,h3⟩:=dK (L:=L) (k:=0) (.inl rfl) s;cases b with
  |true=>have:=aW (L:=L) (h2 rfl).1;omega
  |false=>exact⟨s,[],ay.of (by rw[Jg];simp[h1,bH]),hs,Nat.le_refl _,(fun t ht=>by cases ht),by simp,(Gr.fx (fun m=>bQ L m l) (.st_f (h3 rfl) .pure)).eq (by simp)⟩
 |succ m ih=>
  intro s l hm hn hs hl;obtain⟨b,h1,h2,h3⟩:=dK (L:=L) (k:=0) (.inl rfl) s;cases b with
  |false=>exact⟨s,[],ay.of (by rw[Jg];simp[h1,bH]),hs,Nat.le_refl _,(fun t ht=>by cases ht),by simp,(Gr.fx (fun m=>bQ L m l) (.st_f (h3 rfl) .pure)).eq (by simp)⟩
  |true=>
   have hp:=aW (L:=L) (h2 rfl).1;obtain⟨v,s1,e1,e2,e3,e4,r1⟩:=jr hL (m+1) s hs (by omega);obtain⟨s2,l',g1,g2,g3,g4,g5,r2⟩:=ih s1 (l++[v]) (by omega) (by omega) e2 (by simp;omega);refine⟨s2,v::l',ay.of ?_,g2,by omega,?_,by simp;omega,(Gr.fx (fun m=>bQ L m l) (.st_t (h2 rfl).2.2 (.bind r1 r2))).eq (by simp)⟩
   ·rw[Jg]
    rw[List.map_append,List.map_cons,List.map_nil,Ty.cells_eq v,List.append_assoc] at g1;have ha:=fun k'=>aH (P:=PG) (d:=.fail) (k:=k') Fg (kU l) (c:=oq v) rfl (by simp) (by simp;omega) (by decide)
    simp[h1,e1,ha,g1]
   ·intro t ht
    rcases List.mem_cons.1 ht with rfl|ht
    ·exact e4
    ·exact g4 t ht
theorem amJ(nm:ByteArray)(a:Int)(dn:ByteArray)(da:Int)(PR:List (List PV))(s:St)(hs:s.a≤L.length):∃(s':St) (l':List Ty),
  ((l'=[]∧ev (Hq (aU L) (iv s.a) (iv s.lv) (iv s.e) (iv s.w) (sv nm) (iv a) (sv dn) PR (iv da))=some (0,dh L s' [sv nm,aj,iv a,sv dn,.rows PR,aj,aj,iv da,sv eB,aj,aj,aj,iv 0]))∨
   ev (Hq (aU L) (iv s.a) (iv s.lv) (iv s.e) (iv s.w) (sv nm) (iv a) (sv dn) PR (iv da))=some (2,dh L s' [sv nm,bH l',iv a,sv dn,.rows PR,aj,aj,iv da,sv eB,aj,aj,aj,iv 0]))∧
  s'.a≤L.length∧mu L s'≤mu L s∧(∀t∈l',t.Ok)∧l'.length≤10000000∧Gr (fun m=>bC L m []) s s' l':=by
 obtain⟨b,h1,h2,h3⟩:=dK (L:=L) (k:=0) (.inl rfl) s;cases b with
 |false=>exact⟨s,[],.inl ⟨rfl,ay.of (by rw[Td];simp[h1])⟩,hs,Nat.le_refl _,(fun t ht=>by cases ht),by simp,.fx (fun m=>bQ L m []) (.st_f (h3 rfl) .pure)⟩
 |true=>
  have hp:=aW (L:=L) (h2 rfl).1;obtain⟨v,s1,e1,e2,e3,e4,r1⟩:=jr hL (mu L s) s hs (Nat.le_refl _);have hml:=iV L s1;obtain⟨s2,l',g1,g2,g3,g4,g5,r2⟩:=amF hL nm a dn da PR (mu L s1) s1 [v] (Nat.le_refl _) (Nat.le_refl _) e2 (by simp;omega);refine⟨s2,v::l',.inr (ay.of ?_),g2,by omega,?_,by simp;omega,.fx (fun m=>bQ L m []) (.st_t (h2 rfl).2.2 (.bind r1 r2))⟩
  ·rw[Td]
   rw[List.map_cons,List.map_nil,Ty.cells_eq v] at g1;simp[h1,e1,g1]
  ·intro t ht
   rcases List.mem_cons.1 ht with rfl|ht
   ·exact e4
   ·exact g4 t ht
theorem amD{n:Nat}(nm:ByteArray)(a:Int)(dn:ByteArray)(da:Int)(PR:List (List PV))(CR:List (List PV)):∀(m:Nat) (s:St) (l:List Ty),mu L s≤m→m≤n→s.a≤L.length→l.length+m≤2000000→∃(s':St) (l':List Ty),
  ev (Q6 (aU L) (iv s.a) (iv s.lv) (iv s.e) (iv s.w) (sv nm) (l.map Ty.cells) (iv a) (sv dn) PR CR (iv da))=some (1,dh L s' [sv nm,bH (l++l'),iv a,sv dn,.rows PR,.rows CR,aj,iv da,sv eB,aj,aj,aj,iv 0])∧
  s'.a≤L.length∧mu L s'≤mu L s∧(∀t∈l',t.Ok)∧l'.length≤mu L s-mu L s'∧Gr (fun m=>bC L m l) s s' (l++l'):=by
 intro m
 induction m with
 |zero=>
  intro s l hm hn hs hl;obtain⟨b,h1,h2,h3⟩:=dK (L:=L) (k:=0) (.inl rfl) s;cases b with
  |true=>have:=aW (L:=L) (h2 rfl).1;omega
  |false=>exact⟨s,[],ay.of (by rw[Je];simp[h1,bH]),hs,Nat.le_refl _,(fun t ht=>by cases ht),by simp,(Gr.fx (fun m=>bQ L m l) (.st_f (h3 rfl) .pure)).eq (by simp)⟩
 |succ m ih=>
  intro s l hm hn hs hl;obtain⟨b,h1,h2,h3⟩:=dK (L:=L) (k:=0) (.inl rfl) s;cases b with
  |false=>exact⟨s,[],ay.of (by rw[Je];simp[h1,bH]),hs,Nat.le_refl _,(fun t ht=>by cases ht),by simp,(Gr.fx (fun m=>bQ L m l) (.st_f (h3 rfl) .pure)).eq (by simp)⟩
  |true=>
   have hp:=aW (L:=L) (h2 rfl).1;obtain⟨v,s1,e1,e2,e3,e4,r1⟩:=jr hL (m+1) s hs (by omega);obtain⟨s2,l',g1,g2,g3,g4,g5,r2⟩:=ih s1 (l++[v]) (by omega) (by omega) e2 (by simp;omega);refine⟨s2,v::l',ay.of ?_,g2,by omega,?_,by simp;omega,(Gr.fx (fun m=>bQ L m l) (.st_t (h2 rfl).2.2 (.bind r1 r2))).eq (by simp)⟩
   ·rw[Je]
    rw[List.map_append,List.map_cons,List.map_nil,Ty.cells_eq v,List.append_assoc] at g1;have ha:=fun k'=>aH (P:=PG) (d:=.fail) (k:=k') Fg (kU l) (c:=oq v) rfl (by simp) (by simp;omega) (by decide)
    simp[h1,e1,ha,g1]
   ·intro t ht
    rcases List.mem_cons.1 ht with rfl|ht
    ·exact e4
    ·exact g4 t ht
theorem amH(nm:ByteArray)(a:Int)(dn:ByteArray)(da:Int)(PR:List (List PV))(CR:List (List PV))(s:St)(hs:s.a≤L.length):∃(s':St) (l':List Ty),
  ((l'=[]∧ev (Hl (aU L) (iv s.a) (iv s.lv) (iv s.e) (iv s.w) (sv nm) (iv a) (sv dn) PR CR (iv da))=some (0,dh L s' [sv nm,aj,iv a,sv dn,.rows PR,.rows CR,aj,iv da,sv eB,aj,aj,aj,iv 0]))∨
   ev (Hl (aU L) (iv s.a) (iv s.lv) (iv s.e) (iv s.w) (sv nm) (iv a) (sv dn) PR CR (iv da))=some (1,dh L s' [sv nm,bH l',iv a,sv dn,.rows PR,.rows CR,aj,iv da,sv eB,aj,aj,aj,iv 0]))∧
  s'.a≤L.length∧mu L s'≤mu L s∧(∀t∈l',t.Ok)∧l'.length≤10000000∧Gr (fun m=>bC L m []) s s' l':=by
 obtain⟨b,h1,h2,h3⟩:=dK (L:=L) (k:=0) (.inl rfl) s;cases b with
 |false=>exact⟨s,[],.inl ⟨rfl,ay.of (by rw[Ta];simp[h1])⟩,hs,Nat.le_refl _,(fun t ht=>by cases ht),by simp,.fx (fun m=>bQ L m []) (.st_f (h3 rfl) .pure)⟩
 |true=>
  have hp:=aW (L:=L) (h2 rfl).1;obtain⟨v,s1,e1,e2,e3,e4,r1⟩:=jr hL (mu L s) s hs (Nat.le_refl _);have hml:=iV L s1;obtain⟨s2,l',g1,g2,g3,g4,g5,r2⟩:=amD hL nm a dn da PR CR (mu L s1) s1 [v] (Nat.le_refl _) (Nat.le_refl _) e2 (by simp;omega);refine⟨s2,v::l',.inr (ay.of ?_),g2,by omega,?_,by simp;omega,.fx (fun m=>bQ L m []) (.st_t (h2 rfl).2.2 (.bind r1 r2))⟩
  ·rw[Ta]
   rw[List.map_cons,List.map_nil,Ty.cells_eq v] at g1;simp[h1,e1,g1]
  ·intro t ht
   rcases List.mem_cons.1 ht with rfl|ht
   ·exact e4
   ·exact g4 t ht
theorem agq{n:Nat}(nm:ByteArray)(a:Int):∀(m:Nat) (s:St) (es:List (List PV)) (l:List Cn),Raw 3 es (l.map Cn.cells)→mu L s≤m→m≤n→s.a≤L.length→l.length+m≤2000000→s.e=0→∃(s':St) (es':List (List PV)) (l':List Cn),
  ev (Rb (aU L) (iv s.a) (iv s.lv) (iv s.e) (iv s.w) (sv nm) es (iv a))=some (1,dh L s' [sv nm,aj,.rows es',aj,iv a,sv eB,aj,aj,aj,iv 0])∧Raw 3 es' ((l++l').map Cn.cells)∧
  s'.a≤L.length∧mu L s'≤mu L s∧(∀t∈l',t.Ok)∧l'.length≤mu L s-mu L s'∧Gr (fun m=>cZ L m l) s s' (l++l'):=by
 intro m
 induction m with
 |zero=>
  intro s es l hr hm hn hs hl he;have:=aW (L:=L) he;omega
 |succ m ihm=>
  intro s es l hr hm hn hs hl he;have hp:=aW (L:=L) he;have hln:=hr.len;rw[List.length_map] at hln;have t1:=aQ (L:=L) (k:=2) (x:=eB) (by decide) s;have t2:=aV (L:=L) (k:=2) (x:=eB) (by decide) hs;obtain⟨s2,al,hc,g2,g3,g4,g5,r1⟩:=amI hL (aL L 2 eB s).text (aL L 2 eB s).at_ nm a es (au L 2 eB s) t2;simp only[aO] at hc;have hx:(Cn.mk (aL L 2 eB s).text al (aL L 2 eB s).at_).Ok:=⟨by unfold bM;simp only;omega,g4⟩;have key:∀(kd:PV),(kd=aj∧al=[]∨kd=bH al)→Raw 3 (es++[[sv (aL L 2 eB s).text,kd,iv (aL L 2 eB s).at_]]) ((l++[(Cn.mk (aL L 2 eB s).text al (aL L 2 eB s).at_)]).map Cn.cells)∧(∀k':PV→aM,iO PG .fail 74 (.pv (.rows es)) (.pv (.rows [[sv (aL L 2 eB s).text,kd,iv (aL L 2 eB s).at_]])) k'=k' (.rows (es++[[sv (aL L 2 eB s).text,kd,iv (aL L 2 eB s).at_]]))):=by
   intro kd hkd;have hns:NS kd:=by rcases hkd with⟨rfl,_⟩|rfl<;>simp
   refine⟨?_,fun k'=>aH (P:=PG) (d:=.fail) (k:=k') Ux hr (c:=[sv (aL L 2 eB s).text,kd,iv (aL L 2 eB s).at_]) rfl (by simp[hns]) (by omega) (by decide)⟩;have:=hr.app (c:=[sv (aL L 2 eB s).text,kd,iv (aL L 2 eB s).at_]) (c':=(Cn.mk (aL L 2 eB s).text al (aL L 2 eB s).at_).cells) (by rcases hkd with⟨rfl,rfl⟩|rfl<;>simp[Cn.cells]) rfl (by simp[hns]);simpa using this
  cases hb:gD L ⟨#[124]⟩ s2 with
  |true=>
   obtain⟨b1,b2⟩:=bS hb;have he2:s2.up.e=0:=(bN s2).trans (gZ hb).1;have hg:∀{s' v},Gr (fun m=>cZ L m (l++[(Cn.mk (aL L 2 eB s).text al (aL L 2 eB s).at_)])) s2.up s' v→Gr (fun m=>cZ L m l) s s' v:=fun hr=>.fx (cZ.eq_2 L l) (.bind (.take _ _ _) (.bind r1 (.may_t hb hr)))
   have fin:∀{x:Cn} {l':List Cn},x.Ok→(∀t∈l',t.Ok)→∀t∈x::l',t.Ok:=fun hx hl x hx'=>by
    rcases List.mem_cons.1 hx' with rfl|hx'
    ·exact hx
    ·exact hl x hx'
   rcases hc with⟨rfl,hc⟩|hc
   ·obtain⟨k1,k2⟩:=key aj (.inl ⟨rfl,rfl⟩)
    obtain⟨s3,es',l',f1,f2,f3,f4,f5,f6,r3⟩:=ihm s2.up _ _ k1 (by omega) (by omega) b2 (by simp;omega) he2;simp only[aR,bN,bP] at f1;refine⟨s3,es',_::l',ay.of ?_,by simpa using f2,f3,by omega,fin hx f5,by simp;omega,(hg r3).eq (by simp)⟩;rw[BG];simp[eq_true he];simp[aK hL (k:=2) (by decide),Tk.cells];simp[hc];simp[k2];simp[bG hL,hb,may_t hb,aR,bN,bP];simp[f1]
   ·obtain⟨k1,k2⟩:=key (bH al) (.inr rfl)
    obtain⟨s3,es',l',f1,f2,f3,f4,f5,f6,r3⟩:=ihm s2.up _ _ k1 (by omega) (by omega) b2 (by simp;omega) he2;simp only[aR,bN,bP] at f1;refine⟨s3,es',_::l',ay.of ?_,by simpa using f2,f3,by omega,fin hx f5,by simp;omega,(hg r3).eq (by simp)⟩;rw[BG];simp[eq_true he];simp[aK hL (k:=2) (by decide),Tk.cells];simp[hc];simp[k2];simp[bG hL,hb,may_t hb,aR,bN,bP];simp[f1]
  |false=>
   have hg:Gr (fun m=>cZ L m l) s s2 (l++[(Cn.mk (aL L 2 eB s).text al (aL L 2 eB s).at_)]):=.fx (cZ.eq_2 L l) (.bind (.take _ _ _) (.bind r1 (.may_f hb .pure)));rcases hc with⟨rfl,hc⟩|hc
   ·obtain⟨k1,k2⟩:=key aj (.inl ⟨rfl,rfl⟩)
    refine⟨s2,_,[_],ay.of ?_,k1,g2,by omega,by simpa using hx,by simp;omega,hg⟩;rw[BG];simp[eq_true he];simp[aK hL (k:=2) (by decide),Tk.cells];simp[hc];simp[k2];simp[bG hL,hb,may_f hb];rw[ay.of ((BF ev _ _ _ _ _ _ _ _).trans rfl)];rfl
   ·obtain⟨k1,k2⟩:=key (bH al) (.inr rfl)
    refine⟨s2,_,[_],ay.of ?_,k1,g2,by omega,by simpa using hx,by simp;omega,hg⟩;rw[BG];simp[eq_true he];simp[aK hL (k:=2) (by decide),Tk.cells];simp[hc];simp[k2];simp[bG hL,hb,may_f hb];rw[ay.of ((BF ev _ _ _ _ _ _ _ _).trans rfl)];rfl
theorem amv(nm:ByteArray)(a:Int)(s:St)(hs:s.a≤L.length):∃(s':St) (es':List (List PV)) (l':List Cn),
  ((l'=[]∧ev (Hu (aU L) (iv s.a) (iv s.lv) (iv s.e) (iv s.w) (sv nm) (iv a))=some (0,dh L s' [sv nm,aj,aj,aj,iv a,sv eB,aj,aj,aj,iv 0]))∨
   (Raw 3 es' (l'.map Cn.cells)∧ev (Hu (aU L) (iv s.a) (iv s.lv) (iv s.e) (iv s.w) (sv nm) (iv a))=some (1,dh L s' [sv nm,aj,.rows es',aj,iv a,sv eB,aj,aj,aj,iv 0])))∧
  s'.a≤L.length∧mu L s'≤mu L s∧(∀t∈l',t.Ok)∧l'.length≤mu L s∧Gr (fun m=>cZ L m []) s s' l':=by
 by_cases he:s.e=0
 ·have hp:=aW (L:=L) he
  have t1:=aQ (L:=L) (k:=2) (x:=eB) (by decide) s;have t2:=aV (L:=L) (k:=2) (x:=eB) (by decide) hs;obtain⟨s2,al,hc,g2,g3,g4,g5,r1⟩:=amK hL (aL L 2 eB s).text (aL L 2 eB s).at_ nm a (au L 2 eB s) t2;simp only[aO] at hc;have hx:(Cn.mk (aL L 2 eB s).text al (aL L 2 eB s).at_).Ok:=⟨by unfold bM;simp only;omega,g4⟩;have key:∀(kd:PV),(kd=aj∧al=[]∨kd=bH al)→Raw 3 [[sv (aL L 2 eB s).text,kd,iv (aL L 2 eB s).at_]] ([(Cn.mk (aL L 2 eB s).text al (aL L 2 eB s).at_)].map Cn.cells):=by
   intro kd hkd;have hns:NS kd:=by rcases hkd with⟨rfl,_⟩|rfl<;>simp
   exact .one (c':=(Cn.mk (aL L 2 eB s).text al (aL L 2 eB s).at_).cells) (by rcases hkd with⟨rfl,rfl⟩|rfl<;>simp[Cn.cells]) rfl (by simp[hns])
  cases hb:gD L ⟨#[124]⟩ s2 with
  |true=>
   obtain⟨b1,b2⟩:=bS hb;have he2:s2.up.e=0:=(bN s2).trans (gZ hb).1;have hg:∀{s' v},Gr (fun m=>cZ L m [(Cn.mk (aL L 2 eB s).text al (aL L 2 eB s).at_)]) s2.up s' v→Gr (fun m=>cZ L m []) s s' v:=fun hr=>.fx (cZ.eq_2 L []) (.bind (.take _ _ _) (.bind r1 (.may_t hb hr)))
   have fin:∀{x:Cn} {l':List Cn},x.Ok→(∀t∈l',t.Ok)→∀t∈x::l',t.Ok:=fun hx hl x hx'=>by
    rcases List.mem_cons.1 hx' with rfl|hx'
    ·exact hx
    ·exact hl x hx'
   have hml:=iV L s2.up;rcases hc with⟨rfl,hc⟩|hc
   ·obtain⟨s3,es',l',f1,f2,f3,f4,f5,f6,r3⟩:=agq hL nm a (mu L s2.up) s2.up _ _ (key aj (.inl ⟨rfl,rfl⟩)) (Nat.le_refl _) (Nat.le_refl _) b2 (by simp;omega) he2
    simp only[aR,bN,bP] at f1;refine⟨s3,es',_::l',.inr ⟨by simpa using f2,ay.of ?_⟩,f3,by omega,fin hx f5,by simp;omega,hg r3⟩;rw[yc];simp[eq_true he];simp[aK hL (k:=2) (by decide),Tk.cells];simp[hc];simp[bG hL,hb,may_t hb,aR,bN,bP];simp[f1]
   ·obtain⟨s3,es',l',f1,f2,f3,f4,f5,f6,r3⟩:=agq hL nm a (mu L s2.up) s2.up _ _ (key (bH al) (.inr rfl)) (Nat.le_refl _) (Nat.le_refl _) b2 (by simp;omega) he2
    simp only[aR,bN,bP] at f1;refine⟨s3,es',_::l',.inr ⟨by simpa using f2,ay.of ?_⟩,f3,by omega,fin hx f5,by simp;omega,hg r3⟩;rw[yc];simp[eq_true he];simp[aK hL (k:=2) (by decide),Tk.cells];simp[hc];simp[bG hL,hb,may_t hb,aR,bN,bP];simp[f1]
  |false=>
   have hg:Gr (fun m=>cZ L m []) s s2 [(Cn.mk (aL L 2 eB s).text al (aL L 2 eB s).at_)]:=.fx (cZ.eq_2 L []) (.bind (.take _ _ _) (.bind r1 (.may_f hb .pure)));rcases hc with⟨rfl,hc⟩|hc
   ·refine⟨s2,_,[_],.inr ⟨key aj (.inl ⟨rfl,rfl⟩),ay.of ?_⟩,g2,by omega,by simpa using hx,by simp;omega,hg⟩
    rw[yc];simp[eq_true he];simp[aK hL (k:=2) (by decide),Tk.cells];simp[hc];simp[bG hL,hb,may_f hb];rw[ay.of ((BF ev _ _ _ _ _ _ _ _).trans rfl)];rfl
   ·refine⟨s2,_,[_],.inr ⟨key (bH al) (.inr rfl),ay.of ?_⟩,g2,by omega,by simpa using hx,by simp;omega,hg⟩
    rw[yc];simp[eq_true he];simp[aK hL (k:=2) (by decide),Tk.cells];simp[hc];simp[bG hL,hb,may_f hb];rw[ay.of ((BF ev _ _ _ _ _ _ _ _).trans rfl)];rfl
 ·exact⟨s,[],[],.inl ⟨rfl,ay.of (by rw[yc];simp[he])⟩,hs,Nat.le_refl _,(by simp),by simp,.fault he rfl rfl⟩
theorem agp{n:Nat}(nm:ByteArray)(a:Int)(PR:List (List PV)):∀(m:Nat) (s:St) (es:List (List PV)) (l:List Cn),Raw 3 es (l.map Cn.cells)→mu L s≤m→m≤n→s.a≤L.length→l.length+m≤2000000→s.e=0→∃(s':St) (es':List (List PV)) (l':List Cn),
  ev (Ra (aU L) (iv s.a) (iv s.lv) (iv s.e) (iv s.w) (sv nm) PR es (iv a))=some (1,dh L s' [sv nm,.rows PR,.rows es',aj,iv a,sv eB,aj,aj,aj,iv 0])∧Raw 3 es' ((l++l').map Cn.cells)∧
  s'.a≤L.length∧mu L s'≤mu L s∧(∀t∈l',t.Ok)∧l'.length≤mu L s-mu L s'∧Gr (fun m=>cZ L m l) s s' (l++l'):=by
 intro m
 induction m with
 |zero=>
  intro s es l hr hm hn hs hl he;have:=aW (L:=L) he;omega
 |succ m ihm=>
  intro s es l hr hm hn hs hl he;have hp:=aW (L:=L) he;have hln:=hr.len;rw[List.length_map] at hln;have t1:=aQ (L:=L) (k:=2) (x:=eB) (by decide) s;have t2:=aV (L:=L) (k:=2) (x:=eB) (by decide) hs;obtain⟨s2,al,hc,g2,g3,g4,g5,r1⟩:=amH hL (aL L 2 eB s).text (aL L 2 eB s).at_ nm a PR es (au L 2 eB s) t2;simp only[aO] at hc;have hx:(Cn.mk (aL L 2 eB s).text al (aL L 2 eB s).at_).Ok:=⟨by unfold bM;simp only;omega,g4⟩;have key:∀(kd:PV),(kd=aj∧al=[]∨kd=bH al)→Raw 3 (es++[[sv (aL L 2 eB s).text,kd,iv (aL L 2 eB s).at_]]) ((l++[(Cn.mk (aL L 2 eB s).text al (aL L 2 eB s).at_)]).map Cn.cells)∧(∀k':PV→aM,iO PG .fail 74 (.pv (.rows es)) (.pv (.rows [[sv (aL L 2 eB s).text,kd,iv (aL L 2 eB s).at_]])) k'=k' (.rows (es++[[sv (aL L 2 eB s).text,kd,iv (aL L 2 eB s).at_]]))):=by
   intro kd hkd;have hns:NS kd:=by rcases hkd with⟨rfl,_⟩|rfl<;>simp
   refine⟨?_,fun k'=>aH (P:=PG) (d:=.fail) (k:=k') Ux hr (c:=[sv (aL L 2 eB s).text,kd,iv (aL L 2 eB s).at_]) rfl (by simp[hns]) (by omega) (by decide)⟩;have:=hr.app (c:=[sv (aL L 2 eB s).text,kd,iv (aL L 2 eB s).at_]) (c':=(Cn.mk (aL L 2 eB s).text al (aL L 2 eB s).at_).cells) (by rcases hkd with⟨rfl,rfl⟩|rfl<;>simp[Cn.cells]) rfl (by simp[hns]);simpa using this
  cases hb:gD L ⟨#[124]⟩ s2 with
  |true=>
   obtain⟨b1,b2⟩:=bS hb;have he2:s2.up.e=0:=(bN s2).trans (gZ hb).1;have hg:∀{s' v},Gr (fun m=>cZ L m (l++[(Cn.mk (aL L 2 eB s).text al (aL L 2 eB s).at_)])) s2.up s' v→Gr (fun m=>cZ L m l) s s' v:=fun hr=>.fx (cZ.eq_2 L l) (.bind (.take _ _ _) (.bind r1 (.may_t hb hr)))
   have fin:∀{x:Cn} {l':List Cn},x.Ok→(∀t∈l',t.Ok)→∀t∈x::l',t.Ok:=fun hx hl x hx'=>by
    rcases List.mem_cons.1 hx' with rfl|hx'
    ·exact hx
    ·exact hl x hx'
   rcases hc with⟨rfl,hc⟩|hc
   ·obtain⟨k1,k2⟩:=key aj (.inl ⟨rfl,rfl⟩)
    obtain⟨s3,es',l',f1,f2,f3,f4,f5,f6,r3⟩:=ihm s2.up _ _ k1 (by omega) (by omega) b2 (by simp;omega) he2;simp only[aR,bN,bP] at f1;refine⟨s3,es',_::l',ay.of ?_,by simpa using f2,f3,by omega,fin hx f5,by simp;omega,(hg r3).eq (by simp)⟩;rw[BD];simp[eq_true he];simp[aK hL (k:=2) (by decide),Tk.cells];simp[hc];simp[k2];simp[bG hL,hb,may_t hb,aR,bN,bP];simp[f1]
   ·obtain⟨k1,k2⟩:=key (bH al) (.inr rfl)
    obtain⟨s3,es',l',f1,f2,f3,f4,f5,f6,r3⟩:=ihm s2.up _ _ k1 (by omega) (by omega) b2 (by simp;omega) he2;simp only[aR,bN,bP] at f1;refine⟨s3,es',_::l',ay.of ?_,by simpa using f2,f3,by omega,fin hx f5,by simp;omega,(hg r3).eq (by simp)⟩;rw[BD];simp[eq_true he];simp[aK hL (k:=2) (by decide),Tk.cells];simp[hc];simp[k2];simp[bG hL,hb,may_t hb,aR,bN,bP];simp[f1]
  |false=>
   have hg:Gr (fun m=>cZ L m l) s s2 (l++[(Cn.mk (aL L 2 eB s).text al (aL L 2 eB s).at_)]):=.fx (cZ.eq_2 L l) (.bind (.take _ _ _) (.bind r1 (.may_f hb .pure)));rcases hc with⟨rfl,hc⟩|hc
   ·obtain⟨k1,k2⟩:=key aj (.inl ⟨rfl,rfl⟩)
    refine⟨s2,_,[_],ay.of ?_,k1,g2,by omega,by simpa using hx,by simp;omega,hg⟩;rw[BD];simp[eq_true he];simp[aK hL (k:=2) (by decide),Tk.cells];simp[hc];simp[k2];simp[bG hL,hb,may_f hb];rw[ay.of ((BB ev _ _ _ _ _ _ _ _ _).trans rfl)];rfl
   ·obtain⟨k1,k2⟩:=key (bH al) (.inr rfl)
    refine⟨s2,_,[_],ay.of ?_,k1,g2,by omega,by simpa using hx,by simp;omega,hg⟩;rw[BD];simp[eq_true he];simp[aK hL (k:=2) (by decide),Tk.cells];simp[hc];simp[k2];simp[bG hL,hb,may_f hb];rw[ay.of ((BB ev _ _ _ _ _ _ _ _ _).trans rfl)];rfl
theorem amu(nm:ByteArray)(a:Int)(PR:List (List PV))(s:St)(hs:s.a≤L.length):∃(s':St) (es':List (List PV)) (l':List Cn),
  ((l'=[]∧ev (Ht (aU L) (iv s.a) (iv s.lv) (iv s.e) (iv s.w) (sv nm) PR (iv a))=some (0,dh L s' [sv nm,.rows PR,aj,aj,iv a,sv eB,aj,aj,aj,iv 0]))∨
   (Raw 3 es' (l'.map Cn.cells)∧ev (Ht (aU L) (iv s.a) (iv s.lv) (iv s.e) (iv s.w) (sv nm) PR (iv a))=some (1,dh L s' [sv nm,.rows PR,.rows es',aj,iv a,sv eB,aj,aj,aj,iv 0])))∧
  s'.a≤L.length∧mu L s'≤mu L s∧(∀t∈l',t.Ok)∧l'.length≤mu L s∧Gr (fun m=>cZ L m []) s s' l':=by
 by_cases he:s.e=0
 ·have hp:=aW (L:=L) he
  have t1:=aQ (L:=L) (k:=2) (x:=eB) (by decide) s;have t2:=aV (L:=L) (k:=2) (x:=eB) (by decide) hs;obtain⟨s2,al,hc,g2,g3,g4,g5,r1⟩:=amJ hL (aL L 2 eB s).text (aL L 2 eB s).at_ nm a PR (au L 2 eB s) t2;simp only[aO] at hc;have hx:(Cn.mk (aL L 2 eB s).text al (aL L 2 eB s).at_).Ok:=⟨by unfold bM;simp only;omega,g4⟩;have key:∀(kd:PV),(kd=aj∧al=[]∨kd=bH al)→Raw 3 [[sv (aL L 2 eB s).text,kd,iv (aL L 2 eB s).at_]] ([(Cn.mk (aL L 2 eB s).text al (aL L 2 eB s).at_)].map Cn.cells):=by
   intro kd hkd;have hns:NS kd:=by rcases hkd with⟨rfl,_⟩|rfl<;>simp
   exact .one (c':=(Cn.mk (aL L 2 eB s).text al (aL L 2 eB s).at_).cells) (by rcases hkd with⟨rfl,rfl⟩|rfl<;>simp[Cn.cells]) rfl (by simp[hns])
  cases hb:gD L ⟨#[124]⟩ s2 with
  |true=>
   obtain⟨b1,b2⟩:=bS hb;have he2:s2.up.e=0:=(bN s2).trans (gZ hb).1;have hg:∀{s' v},Gr (fun m=>cZ L m [(Cn.mk (aL L 2 eB s).text al (aL L 2 eB s).at_)]) s2.up s' v→Gr (fun m=>cZ L m []) s s' v:=fun hr=>.fx (cZ.eq_2 L []) (.bind (.take _ _ _) (.bind r1 (.may_t hb hr)))
   have fin:∀{x:Cn} {l':List Cn},x.Ok→(∀t∈l',t.Ok)→∀t∈x::l',t.Ok:=fun hx hl x hx'=>by
    rcases List.mem_cons.1 hx' with rfl|hx'
    ·exact hx
    ·exact hl x hx'
   have hml:=iV L s2.up;rcases hc with⟨rfl,hc⟩|hc
   ·obtain⟨s3,es',l',f1,f2,f3,f4,f5,f6,r3⟩:=agp hL nm a PR (mu L s2.up) s2.up _ _ (key aj (.inl ⟨rfl,rfl⟩)) (Nat.le_refl _) (Nat.le_refl _) b2 (by simp;omega) he2
    simp only[aR,bN,bP] at f1;refine⟨s3,es',_::l',.inr ⟨by simpa using f2,ay.of ?_⟩,f3,by omega,fin hx f5,by simp;omega,hg r3⟩;rw[xZ];simp[eq_true he];simp[aK hL (k:=2) (by decide),Tk.cells];simp[hc];simp[bG hL,hb,may_t hb,aR,bN,bP];simp[f1]
   ·obtain⟨s3,es',l',f1,f2,f3,f4,f5,f6,r3⟩:=agp hL nm a PR (mu L s2.up) s2.up _ _ (key (bH al) (.inr rfl)) (Nat.le_refl _) (Nat.le_refl _) b2 (by simp;omega) he2
    simp only[aR,bN,bP] at f1;refine⟨s3,es',_::l',.inr ⟨by simpa using f2,ay.of ?_⟩,f3,by omega,fin hx f5,by simp;omega,hg r3⟩;rw[xZ];simp[eq_true he];simp[aK hL (k:=2) (by decide),Tk.cells];simp[hc];simp[bG hL,hb,may_t hb,aR,bN,bP];simp[f1]
  |false=>
   have hg:Gr (fun m=>cZ L m []) s s2 [(Cn.mk (aL L 2 eB s).text al (aL L 2 eB s).at_)]:=.fx (cZ.eq_2 L []) (.bind (.take _ _ _) (.bind r1 (.may_f hb .pure)));rcases hc with⟨rfl,hc⟩|hc
   ·refine⟨s2,_,[_],.inr ⟨key aj (.inl ⟨rfl,rfl⟩),ay.of ?_⟩,g2,by omega,by simpa using hx,by simp;omega,hg⟩
    rw[xZ];simp[eq_true he];simp[aK hL (k:=2) (by decide),Tk.cells];simp[hc];simp[bG hL,hb,may_f hb];rw[ay.of ((BB ev _ _ _ _ _ _ _ _ _).trans rfl)];rfl
   ·refine⟨s2,_,[_],.inr ⟨key (bH al) (.inr rfl),ay.of ?_⟩,g2,by omega,by simpa using hx,by simp;omega,hg⟩
    rw[xZ];simp[eq_true he];simp[aK hL (k:=2) (by decide),Tk.cells];simp[hc];simp[bG hL,hb,may_f hb];rw[ay.of ((BB ev _ _ _ _ _ _ _ _ _).trans rfl)];rfl
 ·exact⟨s,[],[],.inl ⟨rfl,ay.of (by rw[xZ];simp[he])⟩,hs,Nat.le_refl _,(by simp),by simp,.fault he rfl rfl⟩
theorem afa(n:Nat):lM L (n+1) (qDt L) dtC Dt.Ok (fun m=>yx L m):=
 lM.weak (q:=fun s=>ahP (aU L) (iv s.a) (iv s.lv) (iv s.e) (iv s.w)) (fun s=>alZ ev _ _ _ _ _) fun s hs hm=>by
  show bE L s dtC Dt.Ok _ (body PG EE TT ev (ahP (aU L) (iv s.a) (iv s.lv) (iv s.e) (iv s.w)));rw[aqJ];have t1:=aQ (L:=L) (k:=2) (x:=eB) (by decide) s;have t2:=aV (L:=L) (k:=2) (x:=eB) (by decide) hs;simp[aK hL (k:=2) (by decide),Tk.cells];have hl1:(au L 2 eB s).lv=s.lv:=aO _ _ s;generalize h1:au L 2 eB s=s1 at *;generalize h2:aL L 2 eB s=t at *;simp only[←hl1];have hml:=iV L s;obtain⟨s2,ps,hc,p2,p3,p4,p5,rp⟩:=ak4 hL t.text t.at_ s1 t2;have q1:=aQ (L:=L) (k:=7) (x:=⟨#[61]⟩) (by decide) s2;have q2:=aV (L:=L) (k:=7) (x:=⟨#[61]⟩) (by decide) p2;have hg0:∀{s3 s' l v},Gr (fun m=>cZ L m []) (au L 7 ⟨#[61]⟩ s2) s3 l→Gr (fun m=>dV L WV (aA (aY L 7 KM) fun _=>aA (jV L m) fun ds=>aA (aY L 7 Cq) fun _=>aX ⟨t.text,ps,l,ds,t.at_⟩) (aX ⟨t.text,ps,l,[],t.at_⟩)) s3 s' v→Gr (fun m=>yx L m) s s' v:=
   fun a b=>.tx (fun _=>rfl) (.bind (.takex h1 h2) (.bind rp (.bind (.take _ _ _) (.bind a b))))
  rcases hc with⟨rfl,hc⟩|⟨x,xs,hps,hc⟩
  ·simp only[dh,p5] at hc
   simp[hc];simp only[←p5]
   try simp[aK hL (k:=7) (by decide),Tk.cells]
   obtain⟨s3,es,l,hd,g2,g3,g4,g5,rc⟩:=amv hL t.text t.at_ (au L 7 ⟨#[61]⟩ s2) q2;simp only[aO] at hd;have hg:∀{s' v},_→Gr (fun m=>yx L m) s s' v:=fun {s' v}=>hg0 rc
   rcases hd with⟨rfl,hd⟩|⟨hr,hd⟩
   ·simp[hd]
    simp[bG hL];refine dF (fun hb=>?_) (fun hb=>?_)
    ·obtain⟨b1,b2⟩:=bS hb
     rw[may_t hb];have d1:=aQ (L:=L) (k:=7) (x:=⟨#[40]⟩) (by decide) s3.up;have d2:=aV (L:=L) (k:=7) (x:=⟨#[40]⟩) (by decide) b2;obtain⟨us,s4,u1,u2,u3,u4,u5,ru⟩:=pX hL _ d2;have d3:=aQ (L:=L) (k:=7) (x:=⟨#[41]⟩) (by decide) s4;have d4:=aV (L:=L) (k:=7) (x:=⟨#[41]⟩) (by decide) u2;simp only[qUp,aO,aR] at u1 u5;have hz:St.mk s3.up.a s3.lv s3.e s3.w=s3.up:=by rw[←aR s3,←bN s3,←bP s3]
     try simp only[aR,bN,bP]
     simp[hz,aK hL (k:=7) (by decide),Tk.cells,aR];simp only[dh,u5] at u1;simp[u1];simp only[←u5];simp[aK hL (k:=7) (by decide),Tk.cells];exact bE.ofT _ _ ⟨t.text,[],[],us,t.at_⟩ (by simp) d4 (by omega) ⟨by unfold bM;simp;try omega,⟨by unfold bM;simp;try omega,g4⟩,by unfold bM;simp only;omega⟩ (hg (.may_t hb (.bind (.take _ _ _) (.bind ru (.bind (.take _ _ _) .pure)))))
    ·rw[may_f hb]
     exact bE.of _ _ s3 ⟨t.text,[],[],[],t.at_⟩ (by simp) g2 (by omega) ⟨by unfold bM;simp;try omega,⟨by unfold bM;simp;try omega,g4⟩,by simp[bM]⟩ (hg (.may_f hb .pure))
   ·simp[hd]
    simp[bG hL];refine dF (fun hb=>?_) (fun hb=>?_)
    ·obtain⟨b1,b2⟩:=bS hb
     rw[may_t hb];have d1:=aQ (L:=L) (k:=7) (x:=⟨#[40]⟩) (by decide) s3.up;have d2:=aV (L:=L) (k:=7) (x:=⟨#[40]⟩) (by decide) b2;obtain⟨us,s4,u1,u2,u3,u4,u5,ru⟩:=pX hL _ d2;have d3:=aQ (L:=L) (k:=7) (x:=⟨#[41]⟩) (by decide) s4;have d4:=aV (L:=L) (k:=7) (x:=⟨#[41]⟩) (by decide) u2;simp only[qUp,aO,aR] at u1 u5;have hz:St.mk s3.up.a s3.lv s3.e s3.w=s3.up:=by rw[←aR s3,←bN s3,←bP s3]
     try simp only[aR,bN,bP]
     simp[hz,aK hL (k:=7) (by decide),Tk.cells,aR];simp only[dh,u5] at u1;simp[u1];simp only[←u5];simp[aK hL (k:=7) (by decide),Tk.cells];exact bE.ofT _ _ ⟨t.text,[],l,us,t.at_⟩ (by simp[hr.wd,pU]) d4 (by omega) ⟨by unfold bM;simp;try omega,⟨by unfold bM;simp;try omega,g4⟩,by unfold bM;simp only;omega⟩ (hg (.may_t hb (.bind (.take _ _ _) (.bind ru (.bind (.take _ _ _) .pure)))))
    ·rw[may_f hb]
     exact bE.of _ _ s3 ⟨t.text,[],l,[],t.at_⟩ (by simp[hr.wd,pU]) g2 (by omega) ⟨by unfold bM;simp;try omega,⟨by unfold bM;simp;try omega,g4⟩,by simp[bM]⟩ (hg (.may_f hb .pure))
  ·simp only[dh,p5] at hc
   simp[hc];simp only[←p5];have hst:strs ps=.rows (ps.map fun x=>[sv x]):=rfl;have hne:∀k:aM,isK .fail aj (strs ps) k=.fail:=fun k=>qo _ _ _
   try simp[aK hL (k:=7) (by decide),Tk.cells]
   rw[hst];obtain⟨s3,es,l,hd,g2,g3,g4,g5,rc⟩:=amu hL t.text t.at_ (ps.map fun x=>[sv x]) (au L 7 ⟨#[61]⟩ s2) q2;simp only[aO] at hd;have hg:∀{s' v},_→Gr (fun m=>yx L m) s s' v:=fun {s' v}=>hg0 rc
   rcases hd with⟨rfl,hd⟩|⟨hr,hd⟩
   ·simp[hd]
    simp[bG hL];refine dF (fun hb=>?_) (fun hb=>?_)
    ·obtain⟨b1,b2⟩:=bS hb
     rw[may_t hb];have d1:=aQ (L:=L) (k:=7) (x:=⟨#[40]⟩) (by decide) s3.up;have d2:=aV (L:=L) (k:=7) (x:=⟨#[40]⟩) (by decide) b2;obtain⟨us,s4,u1,u2,u3,u4,u5,ru⟩:=pX hL _ d2;have d3:=aQ (L:=L) (k:=7) (x:=⟨#[41]⟩) (by decide) s4;have d4:=aV (L:=L) (k:=7) (x:=⟨#[41]⟩) (by decide) u2;simp only[qUp,aO,aR] at u1 u5;have hz:St.mk s3.up.a s3.lv s3.e s3.w=s3.up:=by rw[←aR s3,←bN s3,←bP s3]
     try simp only[aR,bN,bP]
     simp[hz,aK hL (k:=7) (by decide),Tk.cells,aR];simp only[dh,u5] at u1;simp[u1];simp only[←u5];simp[aK hL (k:=7) (by decide),Tk.cells];exact bE.ofT _ _ ⟨t.text,ps,[],us,t.at_⟩ (by simp[←hst]) d4 (by omega) ⟨by unfold bM;simp;try omega,⟨by unfold bM;simp;try omega,g4⟩,by unfold bM;simp only;omega⟩ (hg (.may_t hb (.bind (.take _ _ _) (.bind ru (.bind (.take _ _ _) .pure)))))
    ·rw[may_f hb]
     exact bE.of _ _ s3 ⟨t.text,ps,[],[],t.at_⟩ (by simp[←hst]) g2 (by omega) ⟨by unfold bM;simp;try omega,⟨by unfold bM;simp;try omega,g4⟩,by simp[bM]⟩ (hg (.may_f hb .pure))
   ·simp[hd]
    simp[bG hL];refine dF (fun hb=>?_) (fun hb=>?_)
    ·obtain⟨b1,b2⟩:=bS hb
     rw[may_t hb];have d1:=aQ (L:=L) (k:=7) (x:=⟨#[40]⟩) (by decide) s3.up;have d2:=aV (L:=L) (k:=7) (x:=⟨#[40]⟩) (by decide) b2;obtain⟨us,s4,u1,u2,u3,u4,u5,ru⟩:=pX hL _ d2;have d3:=aQ (L:=L) (k:=7) (x:=⟨#[41]⟩) (by decide) s4;have d4:=aV (L:=L) (k:=7) (x:=⟨#[41]⟩) (by decide) u2;simp only[qUp,aO,aR] at u1 u5;have hz:St.mk s3.up.a s3.lv s3.e s3.w=s3.up:=by rw[←aR s3,←bN s3,←bP s3]
     try simp only[aR,bN,bP]
     simp[hz,aK hL (k:=7) (by decide),Tk.cells,aR];simp only[dh,u5] at u1;simp[u1];simp only[←u5];simp[aK hL (k:=7) (by decide),Tk.cells];exact bE.ofT _ _ ⟨t.text,ps,l,us,t.at_⟩ (by simp[hr.wd,pU,←hst]) d4 (by omega) ⟨by unfold bM;simp;try omega,⟨by unfold bM;simp;try omega,g4⟩,by unfold bM;simp only;omega⟩ (hg (.may_t hb (.bind (.take _ _ _) (.bind ru (.bind (.take _ _ _) .pure)))))
    ·rw[may_f hb]
     exact bE.of _ _ s3 ⟨t.text,ps,l,[],t.at_⟩ (by simp[hr.wd,pU,←hst]) g2 (by omega) ⟨by unfold bM;simp;try omega,⟨by unfold bM;simp;try omega,g4⟩,by simp[bM]⟩ (hg (.may_f hb .pure))
end
set_option maxRecDepth 10000
def Md.Ok(x:Md):Prop:=x.t.Ok
def Cl.Ok(x:Cl):Prop:=x.supers.length≤bM∧(x.methods.length≤bM∧∀y∈x.methods,y.Ok)∧(x.defaults.length≤bM∧∀y∈x.defaults,y.Ok)
def Pd.Ok(x:Pd):Prop:=x.t.Ok
def It.Ok(x:It):Prop:=x.head.Ok∧(x.ctx.length≤bM∧∀y∈x.ctx,y.Ok)∧(x.binds.length≤bM∧∀y∈x.binds,y.Ok)
abbrev mdC(x:Md):List PV:=[sv x.name,iv x.t.kind,sv x.t.name,iv x.t.n,bH x.t.kids,iv x.at_]
abbrev clC(x:Cl):List PV:=[sv x.name,sv x.var,strs x.supers,mP x.methods,aZ x.defaults,iv x.at_]
abbrev Zt(x:It):List PV:=[sv x.cls,iv x.head.kind,sv x.head.name,iv x.head.n,bH x.head.kids,sD x.ctx,aZ x.binds,iv x.at_]
@[simp] theorem anC:mP []=.rows []:=rfl
@[simp] theorem ano:sD []=.rows []:=rfl
theorem Uw:ja PG 78 6 80:=ja.of (by kernel_rfl)
theorem ajF:ja PG 82 5 72:=ja.of (by kernel_rfl)
theorem uq(l:List Md):Raw 6 (l.map Md.cells) (l.map Md.cells):=.of l (fun x=>by simp[Md.cells]) (fun x=>rfl) (fun x=>by simp[Md.cells])
theorem IB(l:List Bd)(v:Bd):(l++[v]).map Bd.cells=l.map Bd.cells++[fZ v]:=by rw[List.map_append,List.map_cons,List.map_nil,Bd.cells_eq]
theorem mapM(l:List Md)(v:Md):(l++[v]).map Md.cells=l.map Md.cells++[mdC v]:=by rw[List.map_append,List.map_cons,List.map_nil];rfl
theorem Vy{α:Type}{p:α→Prop}{x:α}{l:List α}(h1:p x)(h2:∀y∈l,p y):∀y∈x::l,p y:=fun y hy=>by
 rcases List.mem_cons.1 hy with rfl|hy
 ·exact h1
 ·exact h2 y hy
theorem St.eta2(L:List Tk)(k k2:Int)(x x2:ByteArray)(s:St):St.mk (au L k x (au L k2 x2 s)).a s.lv (au L k x (au L k2 x2 s)).e (au L k x (au L k2 x2 s)).w=au L k x (au L k2 x2 s):=by
 have h:(au L k x (au L k2 x2 s)).lv=s.lv:=by simp
 generalize au L k x (au L k2 x2 s)=t at *;obtain⟨a,lv,e,w⟩:=t;cases h;rfl
abbrev qCl(L:List Tk)(s:St):Q:=afY (aU L) (iv s.a) (iv s.lv) (iv s.e) (iv s.w)
abbrev qIt(L:List Tk)(s:St):Q:=afX (aU L) (iv s.a) (iv s.lv) (iv s.e) (iv s.w)
section
variable{L:List Tk}(hL:L.length≤1000000)
include hL
theorem arv(nm var:ByteArray)(sup:PV)(a:Int)(s:St)(he:s.e≠0):ev (uw (aU L) (iv s.a) (iv s.lv) (iv s.e) (iv s.w) (sv nm) (sv var) sup (iv a))=some (0,dh L s [sv nm,sv var,sup,aj,aj,iv a,sv eB,sv eB,aj,aj,aj,iv 0]):=ay.of (by
 rw[BA];simp[he])
theorem arF(nm var:ByteArray)(sup:PV)(a:Int)(s:St)(he:s.e=0)(hb:gD L ⟨#[101,110,100]⟩ s=true):ev (uw (aU L) (iv s.a) (iv s.lv) (iv s.e) (iv s.w) (sv nm) (sv var) sup (iv a))=some (0,dh L s.up [sv nm,sv var,sup,aj,aj,iv a,sv eB,sv eB,aj,aj,aj,iv 0]):=ay.of (by
 rw[BA];simp[eq_true he];simp[bG hL,hb,may_t hb,aR,bN,bP])
theorem arJ(nm var:ByteArray)(sup:PV)(a:Int)(s s1:St)(v:Bd)(r:Rs)(he:s.e=0)(hb:gD L ⟨#[101,110,100]⟩ s=false)(hd:gD L ⟨#[100,101,102]⟩ s=true)(f1:ev (yL L s.up)=some (0,dh L s1 (fZ v)))
  (hn:ev (oK (aU L) (iv (au L 7 ⟨#[59]⟩ s1).a) (iv (au L 7 ⟨#[59]⟩ s1).lv) (iv (au L 7 ⟨#[59]⟩ s1).e) (iv (au L 7 ⟨#[59]⟩ s1).w) (sv nm) (sv var) sup [fZ v] (iv a))=some r):ev (uw (aU L) (iv s.a) (iv s.lv) (iv s.e) (iv s.w) (sv nm) (sv var) sup (iv a))=some r:=ay.of (by
 simp only[yL,aR,bN,bP] at f1;simp only[aO] at hn;rw[BA];simp[eq_true he];simp[bG hL,hb,may_f hb,hd,may_t hd,aR,bN,bP];simp[f1];simp[aK hL (k:=7) (by decide),Tk.cells];simp[hn])
theorem arA(nm var:ByteArray)(sup:PV)(a:Int)(s s1 s3:St)(t:Tk)(ty:Ty)(r:Rs)(he:s.e=0)(hb:gD L ⟨#[101,110,100]⟩ s=false)(hd:gD L ⟨#[100,101,102]⟩ s=false)(f1:ev (qNm L s)=some (0,dh L s1 t.cells))(h1:s1.lv=s.lv)(f2:ev (J7 L (au L 7 ⟨#[58]⟩ s1))=some (0,dh L s3 (oq ty)))
  (hn:ev (oH (aU L) (iv (au L 7 ⟨#[59]⟩ s3).a) (iv (au L 7 ⟨#[59]⟩ s3).lv) (iv (au L 7 ⟨#[59]⟩ s3).e) (iv (au L 7 ⟨#[59]⟩ s3).w) (sv nm) (sv var) sup [[sv t.text,iv ty.kind,sv ty.name,iv ty.n,bH ty.kids,iv t.at_]] (iv a))=some r):ev (uw (aU L) (iv s.a) (iv s.lv) (iv s.e) (iv s.w) (sv nm) (sv var) sup (iv a))=some r:=ay.of (by
 simp only[aO] at hn;simp only[J7,aO] at f2;simp only[dh,h1] at f1;rw[BA];simp[eq_true he];simp[bG hL,hb,may_f hb,hd,may_f hd];simp[f1,Tk.cells];simp only[←h1];simp[aK hL (k:=7) (by decide),Tk.cells];simp[f2];simp[aK hL (k:=7) (by decide),Tk.cells];simp[hn])
theorem aru(nm var:ByteArray)(sup:PV)(a:Int)(DR:List (List PV))(s:St)(he:s.e≠0):ev (oK (aU L) (iv s.a) (iv s.lv) (iv s.e) (iv s.w) (sv nm) (sv var) sup DR (iv a))=some (1,dh L s [sv nm,sv var,sup,aj,.rows DR,iv a,sv eB,sv eB,aj,aj,aj,iv 0]):=ay.of (by
 rw[Bz];simp[he])
theorem arE(nm var:ByteArray)(sup:PV)(a:Int)(DR:List (List PV))(s:St)(he:s.e=0)(hb:gD L ⟨#[101,110,100]⟩ s=true):ev (oK (aU L) (iv s.a) (iv s.lv) (iv s.e) (iv s.w) (sv nm) (sv var) sup DR (iv a))=some (1,dh L s.up [sv nm,sv var,sup,aj,.rows DR,iv a,sv eB,sv eB,aj,aj,aj,iv 0]):=ay.of (by
 rw[Bz];simp[eq_true he];simp[bG hL,hb,may_t hb,aR,bN,bP])
theorem arI(nm var:ByteArray)(sup:PV)(a:Int)(DR:List (List PV)){cs:List (List PV)}(hr:Raw 13 DR cs)(hl:DR.length≤3000000)(s s1:St)(v:Bd)(r:Rs)(he:s.e=0)(hb:gD L ⟨#[101,110,100]⟩ s=false)(hd:gD L ⟨#[100,101,102]⟩ s=true)(f1:ev (yL L s.up)=some (0,dh L s1 (fZ v)))
  (hn:ev (oK (aU L) (iv (au L 7 ⟨#[59]⟩ s1).a) (iv (au L 7 ⟨#[59]⟩ s1).lv) (iv (au L 7 ⟨#[59]⟩ s1).e) (iv (au L 7 ⟨#[59]⟩ s1).w) (sv nm) (sv var) sup (DR++[fZ v]) (iv a))=some r):ev (oK (aU L) (iv s.a) (iv s.lv) (iv s.e) (iv s.w) (sv nm) (sv var) sup DR (iv a))=some r:=ay.of (by
 simp only[yL,aR,bN,bP] at f1;simp only[aO] at hn;rw[Bz];simp[eq_true he];simp[bG hL,hb,may_f hb,hd,may_t hd,aR,bN,bP];simp[f1];simp[aH (P:=PG) (d:=.fail) qf hr (c:=fZ v) rfl (by simp) (by omega) (by decide)];simp[aK hL (k:=7) (by decide),Tk.cells];simp[hn])
theorem arz(nm var:ByteArray)(sup:PV)(a:Int)(DR:List (List PV))(s s1 s3:St)(t:Tk)(ty:Ty)(r:Rs)(he:s.e=0)(hb:gD L ⟨#[101,110,100]⟩ s=false)(hd:gD L ⟨#[100,101,102]⟩ s=false)(f1:ev (qNm L s)=some (0,dh L s1 t.cells))(h1:s1.lv=s.lv)(f2:ev (J7 L (au L 7 ⟨#[58]⟩ s1))=some (0,dh L s3 (oq ty)))
  (hn:ev (l8 (aU L) (iv (au L 7 ⟨#[59]⟩ s3).a) (iv (au L 7 ⟨#[59]⟩ s3).lv) (iv (au L 7 ⟨#[59]⟩ s3).e) (iv (au L 7 ⟨#[59]⟩ s3).w) (sv nm) (sv var) sup [[sv t.text,iv ty.kind,sv ty.name,iv ty.n,bH ty.kids,iv t.at_]] DR (iv a))=some r):ev (oK (aU L) (iv s.a) (iv s.lv) (iv s.e) (iv s.w) (sv nm) (sv var) sup DR (iv a))=some r:=ay.of (by
 simp only[aO] at hn;simp only[J7,aO] at f2;simp only[dh,h1] at f1;rw[Bz];simp[eq_true he];simp[bG hL,hb,may_f hb,hd,may_f hd];simp[f1,Tk.cells];simp only[←h1];simp[aK hL (k:=7) (by decide),Tk.cells];simp[f2];simp[aK hL (k:=7) (by decide),Tk.cells];simp[hn])
theorem ars(nm var:ByteArray)(sup:PV)(a:Int)(MR:List (List PV))(s:St)(he:s.e≠0):ev (oH (aU L) (iv s.a) (iv s.lv) (iv s.e) (iv s.w) (sv nm) (sv var) sup MR (iv a))=some (2,dh L s [sv nm,sv var,sup,.rows MR,aj,iv a,sv eB,sv eB,aj,aj,aj,iv 0]):=ay.of (by
 rw[Bw];simp[he])
theorem arD(nm var:ByteArray)(sup:PV)(a:Int)(MR:List (List PV))(s:St)(he:s.e=0)(hb:gD L ⟨#[101,110,100]⟩ s=true):ev (oH (aU L) (iv s.a) (iv s.lv) (iv s.e) (iv s.w) (sv nm) (sv var) sup MR (iv a))=some (2,dh L s.up [sv nm,sv var,sup,.rows MR,aj,iv a,sv eB,sv eB,aj,aj,aj,iv 0]):=ay.of (by
 rw[Bw];simp[eq_true he];simp[bG hL,hb,may_t hb,aR,bN,bP])
theorem arH(nm var:ByteArray)(sup:PV)(a:Int)(MR:List (List PV))(s s1:St)(v:Bd)(r:Rs)(he:s.e=0)(hb:gD L ⟨#[101,110,100]⟩ s=false)(hd:gD L ⟨#[100,101,102]⟩ s=true)(f1:ev (yL L s.up)=some (0,dh L s1 (fZ v)))
  (hn:ev (l8 (aU L) (iv (au L 7 ⟨#[59]⟩ s1).a) (iv (au L 7 ⟨#[59]⟩ s1).lv) (iv (au L 7 ⟨#[59]⟩ s1).e) (iv (au L 7 ⟨#[59]⟩ s1).w) (sv nm) (sv var) sup MR [fZ v] (iv a))=some r):ev (oH (aU L) (iv s.a) (iv s.lv) (iv s.e) (iv s.w) (sv nm) (sv var) sup MR (iv a))=some r:=ay.of (by
 simp only[yL,aR,bN,bP] at f1;simp only[aO] at hn;rw[Bw];simp[eq_true he];simp[bG hL,hb,may_f hb,hd,may_t hd,aR,bN,bP];simp[f1];simp[aK hL (k:=7) (by decide),Tk.cells];simp[hn])
theorem arx(nm var:ByteArray)(sup:PV)(a:Int)(MR:List (List PV)){cs:List (List PV)}(hr:Raw 6 MR cs)(hl:MR.length≤3000000)(s s1 s3:St)(t:Tk)(ty:Ty)(r:Rs)(he:s.e=0)(hb:gD L ⟨#[101,110,100]⟩ s=false)(hd:gD L ⟨#[100,101,102]⟩ s=false)(f1:ev (qNm L s)=some (0,dh L s1 t.cells))(h1:s1.lv=s.lv)(f2:ev (J7 L (au L 7 ⟨#[58]⟩ s1))=some (0,dh L s3 (oq ty)))
  (hn:ev (oH (aU L) (iv (au L 7 ⟨#[59]⟩ s3).a) (iv (au L 7 ⟨#[59]⟩ s3).lv) (iv (au L 7 ⟨#[59]⟩ s3).e) (iv (au L 7 ⟨#[59]⟩ s3).w) (sv nm) (sv var) sup (MR++[[sv t.text,iv ty.kind,sv ty.name,iv ty.n,bH ty.kids,iv t.at_]]) (iv a))=some r):ev (oH (aU L) (iv s.a) (iv s.lv) (iv s.e) (iv s.w) (sv nm) (sv var) sup MR (iv a))=some r:=ay.of (by
 simp only[aO] at hn;simp only[J7,aO] at f2;simp only[dh,h1] at f1;rw[Bw];simp[eq_true he];simp[bG hL,hb,may_f hb,hd,may_f hd];simp[f1,Tk.cells];simp only[←h1];simp[aK hL (k:=7) (by decide),Tk.cells];simp[f2];simp[aH (P:=PG) (d:=.fail) Uw hr (c:=[sv t.text,iv ty.kind,sv ty.name,iv ty.n,bH ty.kids,iv t.at_]) rfl (by simp) (by omega) (by decide)];simp[aK hL (k:=7) (by decide),Tk.cells];simp[hn])
theorem arq(nm var:ByteArray)(sup:PV)(a:Int)(MR:List (List PV))(DR:List (List PV))(s:St)(he:s.e≠0):ev (l8 (aU L) (iv s.a) (iv s.lv) (iv s.e) (iv s.w) (sv nm) (sv var) sup MR DR (iv a))=some (3,dh L s [sv nm,sv var,sup,.rows MR,.rows DR,iv a,sv eB,sv eB,aj,aj,aj,iv 0]):=ay.of (by
 rw[Bv];simp[he])
theorem arC(nm var:ByteArray)(sup:PV)(a:Int)(MR:List (List PV))(DR:List (List PV))(s:St)(he:s.e=0)(hb:gD L ⟨#[101,110,100]⟩ s=true):ev (l8 (aU L) (iv s.a) (iv s.lv) (iv s.e) (iv s.w) (sv nm) (sv var) sup MR DR (iv a))=some (3,dh L s.up [sv nm,sv var,sup,.rows MR,.rows DR,iv a,sv eB,sv eB,aj,aj,aj,iv 0]):=ay.of (by
 rw[Bv];simp[eq_true he];simp[bG hL,hb,may_t hb,aR,bN,bP])
theorem arG(nm var:ByteArray)(sup:PV)(a:Int)(MR:List (List PV))(DR:List (List PV)){cs:List (List PV)}(hr:Raw 13 DR cs)(hl:DR.length≤3000000)(s s1:St)(v:Bd)(r:Rs)(he:s.e=0)(hb:gD L ⟨#[101,110,100]⟩ s=false)(hd:gD L ⟨#[100,101,102]⟩ s=true)(f1:ev (yL L s.up)=some (0,dh L s1 (fZ v)))
  (hn:ev (l8 (aU L) (iv (au L 7 ⟨#[59]⟩ s1).a) (iv (au L 7 ⟨#[59]⟩ s1).lv) (iv (au L 7 ⟨#[59]⟩ s1).e) (iv (au L 7 ⟨#[59]⟩ s1).w) (sv nm) (sv var) sup MR (DR++[fZ v]) (iv a))=some r):ev (l8 (aU L) (iv s.a) (iv s.lv) (iv s.e) (iv s.w) (sv nm) (sv var) sup MR DR (iv a))=some r:=ay.of (by
 simp only[yL,aR,bN,bP] at f1;simp only[aO] at hn;rw[Bv];simp[eq_true he];simp[bG hL,hb,may_f hb,hd,may_t hd,aR,bN,bP];simp[f1];simp[aH (P:=PG) (d:=.fail) qf hr (c:=fZ v) rfl (by simp) (by omega) (by decide)];simp[aK hL (k:=7) (by decide),Tk.cells];simp[hn])
theorem arw(nm var:ByteArray)(sup:PV)(a:Int)(MR:List (List PV))(DR:List (List PV)){cs:List (List PV)}(hr:Raw 6 MR cs)(hl:MR.length≤3000000)(s s1 s3:St)(t:Tk)(ty:Ty)(r:Rs)(he:s.e=0)(hb:gD L ⟨#[101,110,100]⟩ s=false)(hd:gD L ⟨#[100,101,102]⟩ s=false)(f1:ev (qNm L s)=some (0,dh L s1 t.cells))(h1:s1.lv=s.lv)(f2:ev (J7 L (au L 7 ⟨#[58]⟩ s1))=some (0,dh L s3 (oq ty)))
  (hn:ev (l8 (aU L) (iv (au L 7 ⟨#[59]⟩ s3).a) (iv (au L 7 ⟨#[59]⟩ s3).lv) (iv (au L 7 ⟨#[59]⟩ s3).e) (iv (au L 7 ⟨#[59]⟩ s3).w) (sv nm) (sv var) sup (MR++[[sv t.text,iv ty.kind,sv ty.name,iv ty.n,bH ty.kids,iv t.at_]]) DR (iv a))=some r):ev (l8 (aU L) (iv s.a) (iv s.lv) (iv s.e) (iv s.w) (sv nm) (sv var) sup MR DR (iv a))=some r:=ay.of (by
 simp only[aO] at hn;simp only[J7,aO] at f2;simp only[dh,h1] at f1;rw[Bv];simp[eq_true he];simp[bG hL,hb,may_f hb,hd,may_f hd];simp[f1,Tk.cells];simp only[←h1];simp[aK hL (k:=7) (by decide),Tk.cells];simp[f2];simp[aH (P:=PG) (d:=.fail) Uw hr (c:=[sv t.text,iv ty.kind,sv ty.name,iv ty.n,bH ty.kids,iv t.at_]) rfl (by simp) (by omega) (by decide)];simp[aK hL (k:=7) (by decide),Tk.cells];simp[hn])
def qC(L:List Tk)(nm var:ByteArray)(sup:PV)(a:Int)(s:St):List Md→List Bd→Q
 |[],[]=>uw (aU L) (iv s.a) (iv s.lv) (iv s.e) (iv s.w) (sv nm) (sv var) sup (iv a)
 |[],d::ds=>oK (aU L) (iv s.a) (iv s.lv) (iv s.e) (iv s.w) (sv nm) (sv var) sup ((d::ds).map Bd.cells) (iv a)
 |m::ms,[]=>oH (aU L) (iv s.a) (iv s.lv) (iv s.e) (iv s.w) (sv nm) (sv var) sup ((m::ms).map Md.cells) (iv a)
 |m::ms,d::ds=>l8 (aU L) (iv s.a) (iv s.lv) (iv s.e) (iv s.w) (sv nm) (sv var) sup ((m::ms).map Md.cells) ((d::ds).map Bd.cells) (iv a)
def fC(L:List Tk)(nm var:ByteArray)(sup:PV)(a:Int)(s:St):List Md→List Bd→Rs
 |[],[]=>(0,dh L s [sv nm,sv var,sup,aj,aj,iv a,sv eB,sv eB,aj,aj,aj,iv 0])
 |[],d::ds=>(1,dh L s [sv nm,sv var,sup,aj,aZ (d::ds),iv a,sv eB,sv eB,aj,aj,aj,iv 0])
 |m::ms,[]=>(2,dh L s [sv nm,sv var,sup,mP (m::ms),aj,iv a,sv eB,sv eB,aj,aj,aj,iv 0])
 |m::ms,d::ds=>(3,dh L s [sv nm,sv var,sup,mP (m::ms),aZ (d::ds),iv a,sv eB,sv eB,aj,aj,aj,iv 0])
theorem Xh(nm var:ByteArray)(sup:PV)(a:Int)(s:St)(ms:List Md)(ds:List Bd)(he:s.e≠0):ev (qC L nm var sup a s ms ds)=some (fC L nm var sup a s ms ds):=by
 match ms,ds with
 |[],[]=>exact arv hL nm var sup a s he
 |[],d::ds=>exact aru hL nm var sup a _ s he
 |m::ms,[]=>exact ars hL nm var sup a _ s he
 |m::ms,d::ds=>exact arq hL nm var sup a _ _ s he
theorem ahy(nm var:ByteArray)(sup:PV)(a:Int)(s:St)(ms:List Md)(ds:List Bd)(he:s.e=0)(hb:gD L ⟨#[101,110,100]⟩ s=true):ev (qC L nm var sup a s ms ds)=some (fC L nm var sup a s.up ms ds):=by
 match ms,ds with
 |[],[]=>exact arF hL nm var sup a s he hb
 |[],d::ds=>exact arE hL nm var sup a _ s he hb
 |m::ms,[]=>exact arD hL nm var sup a _ s he hb
 |m::ms,d::ds=>exact arC hL nm var sup a _ _ s he hb
theorem ahz(nm var:ByteArray)(sup:PV)(a:Int)(s:St)(ms:List Md)(ds:List Bd)(hl:ds.length≤3000000)(s1:St)(v:Bd)(r:Rs)(he:s.e=0)(hb:gD L ⟨#[101,110,100]⟩ s=false)(hd:gD L ⟨#[100,101,102]⟩ s=true)(f1:ev (yL L s.up)=some (0,dh L s1 (fZ v)))(hn:ev (qC L nm var sup a (au L 7 ⟨#[59]⟩ s1) ms (ds++[v]))=some r):ev (qC L nm var sup a s ms ds)=some r:=by
 match ms,ds with
 |[],[]=>exact arJ hL nm var sup a s s1 v r he hb hd f1 (by have e:[v].map Bd.cells=[fZ v]:=IB [] v;rw[←e];exact hn)
 |[],d::ds=>exact arI hL nm var sup a _ (gL _) (by simpa using hl) s s1 v r he hb hd f1 (by rw[←IB];exact hn)
 |m::ms,[]=>exact arH hL nm var sup a _ s s1 v r he hb hd f1 (by have e:[v].map Bd.cells=[fZ v]:=IB [] v;rw[←e];exact hn)
 |m::ms,d::ds=>exact arG hL nm var sup a _ _ (gL _) (by simpa using hl) s s1 v r he hb hd f1 (by rw[←IB];exact hn)
theorem ahx(nm var:ByteArray)(sup:PV)(a:Int)(s:St)(ms:List Md)(ds:List Bd)(hl:ms.length≤3000000)(s1 s3:St)(t:Tk)(ty:Ty)(r:Rs)(he:s.e=0)(hb:gD L ⟨#[101,110,100]⟩ s=false)(hd:gD L ⟨#[100,101,102]⟩ s=false)(f1:ev (qNm L s)=some (0,dh L s1 t.cells))(h1:s1.lv=s.lv)(f2:ev (J7 L (au L 7 ⟨#[58]⟩ s1))=some (0,dh L s3 (oq ty)))(hn:ev (qC L nm var sup a (au L 7 ⟨#[59]⟩ s3) (ms++[⟨t.text,ty,t.at_⟩]) ds)=some r):ev (qC L nm var sup a s ms ds)=some r:=by
 match ms,ds with
 |[],[]=>exact arA hL nm var sup a s s1 s3 t ty r he hb hd f1 h1 f2 (by have e:[(⟨t.text,ty,t.at_⟩:Md)].map Md.cells=[[sv t.text,iv ty.kind,sv ty.name,iv ty.n,bH ty.kids,iv t.at_]]:=rfl;rw[←e];exact hn)
 |[],d::ds=>exact arz hL nm var sup a _ s s1 s3 t ty r he hb hd f1 h1 f2 (by have e:[(⟨t.text,ty,t.at_⟩:Md)].map Md.cells=[[sv t.text,iv ty.kind,sv ty.name,iv ty.n,bH ty.kids,iv t.at_]]:=rfl;rw[←e];exact hn)
 |m::ms,[]=>exact arx hL nm var sup a _ (uq _) (by simpa using hl) s s1 s3 t ty r he hb hd f1 h1 f2 (by have e:((m::ms)++[(⟨t.text,ty,t.at_⟩:Md)]).map Md.cells=(m::ms).map Md.cells++[[sv t.text,iv ty.kind,sv ty.name,iv ty.n,bH ty.kids,iv t.at_]]:=mapM (m::ms) ⟨t.text,ty,t.at_⟩;rw[←e];exact hn)
 |m::ms,d::ds=>exact arw hL nm var sup a _ _ (uq _) (by simpa using hl) s s1 s3 t ty r he hb hd f1 h1 f2 (by have e:((m::ms)++[(⟨t.text,ty,t.at_⟩:Md)]).map Md.cells=(m::ms).map Md.cells++[[sv t.text,iv ty.kind,sv ty.name,iv ty.n,bH ty.kids,iv t.at_]]:=mapM (m::ms) ⟨t.text,ty,t.at_⟩;rw[←e];exact hn)
theorem P5(nm var:ByteArray)(sup:PV)(a:Int):∀(m:Nat) (s:St) (ms:List Md) (ds:List Bd),mu L s≤m→s.a≤L.length→ms.length+m≤2000000→ds.length+m≤2000000→∃(s':St) (ms':List Md) (ds':List Bd),ev (qC L nm var sup a s ms ds)=some (fC L nm var sup a s' (ms++ms') (ds++ds'))∧
  s'.a≤L.length∧mu L s'≤mu L s∧(∀x∈ms',x.Ok)∧(∀x∈ds',x.Ok)∧ms'.length≤mu L s∧ds'.length≤mu L s∧Gr (fun m=>bR L m ms ds) s s' (ms++ms',ds++ds'):=by
 intro m
 induction m with
 |zero=>
  intro s ms ds hm hs h1 h2;have he:s.e≠0:=fun he=>by have:=aW (L:=L) he;omega
  exact⟨s,[],[],by rw[List.append_nil,List.append_nil];exact Xh hL nm var sup a s ms ds he,hs,Nat.le_refl _,by simp,by simp,by simp,by simp,.fault he rfl rfl⟩
 |succ m ih=>
  intro s ms ds hm hs h1 h2;by_cases he:s.e=0
  ·have hp:=aW (L:=L) he
   cases hb:gD L ⟨#[101,110,100]⟩ s with
   |true=>
    obtain⟨b1,b2⟩:=bS hb;exact⟨s.up,[],[],by rw[List.append_nil,List.append_nil];exact ahy hL nm var sup a s ms ds he hb,b2,by omega,by simp,by simp,by simp,by simp,(Gr.fx (bR.eq_2 L ms ds) (.may_t hb .pure)).eq (by simp)⟩
   |false=>
    cases hd:gD L ⟨#[100,101,102]⟩ s with
    |true=>
     obtain⟨b1,b2⟩:=bS hd;obtain⟨v,s1,f1,f2,f3,f4,q1⟩:=qz hL (mu L s) s.up b2 (by omega);have t1:=aQ (L:=L) (k:=7) (x:=⟨#[59]⟩) (by decide) s1;have t2:=aV (L:=L) (k:=7) (x:=⟨#[59]⟩) (by decide) f2;obtain⟨s',ms',ds',g1,g2,g3,g4,g5,g6,g7,q2⟩:=ih (au L 7 ⟨#[59]⟩ s1) ms (ds++[v]) (by omega) t2 (by omega) (by simp;omega);exact⟨s',ms',v::ds',ahz hL nm var sup a s ms ds (by omega) s1 v _ he hb hd f1 (by rw[List.append_assoc] at g1;exact g1),g2,by omega,g4,Vy f4 g5,by omega,by simp;omega,(Gr.fx (bR.eq_2 L ms ds) (.may_f hb (.may_t hd (.bind q1 (.bind (.take _ _ _) q2))))).eq (by simp)⟩
    |false=>
     obtain⟨t,s1,f1,f2,f3,f4,q1⟩:=Si hL s hs;have t1:=aQ (L:=L) (k:=7) (x:=⟨#[58]⟩) (by decide) s1;have t2:=aV (L:=L) (k:=7) (x:=⟨#[58]⟩) (by decide) f2;obtain⟨ty,s3,k1,k2,k3,k4,q2⟩:=w9 hL (mu L s) _ t2 (by omega);have t3:=aQ (L:=L) (k:=7) (x:=⟨#[59]⟩) (by decide) s3;have t4:=aV (L:=L) (k:=7) (x:=⟨#[59]⟩) (by decide) k2;obtain⟨s',ms',ds',g1,g2,g3,g4,g5,g6,g7,q3⟩:=ih (au L 7 ⟨#[59]⟩ s3) (ms++[⟨t.text,ty,t.at_⟩]) ds (by omega) t4 (by simp;omega) (by omega);exact⟨s',⟨t.text,ty,t.at_⟩::ms',ds',ahx hL nm var sup a s ms ds (by omega) s1 s3 t ty _ he hb hd f1 f4 k1 (by rw[List.append_assoc] at g1;exact g1),g2,by omega,Vy k4 g4,g5,by simp;omega,by omega,(Gr.fx (bR.eq_2 L ms ds) (.may_f hb (.may_f hd (.bind q1 (.bind (.take _ _ _) (.bind q2 (.bind (.take _ _ _) q3))))))).eq (by simp)⟩
  ·exact⟨s,[],[],by rw[List.append_nil,List.append_nil];exact Xh hL nm var sup a s ms ds he,hs,Nat.le_refl _,by simp,by simp,by simp,by simp,.fault he rfl rfl⟩
theorem aaZ(n:Nat):lM L (n+1) (qCl L) clC Cl.Ok (fun m=>rE L m):=
 lM.weak (q:=fun s=>ahO (aU L) (iv s.a) (iv s.lv) (iv s.e) (iv s.w)) (fun s=>alY ev _ _ _ _ _) fun s hs hm=>by
  show bE L s clC Cl.Ok _ (body PG EE TT ev (ahO (aU L) (iv s.a) (iv s.lv) (iv s.e) (iv s.w)));rw[aqI];have t1:=aQ (L:=L) (k:=2) (x:=eB) (by decide) s;have t2:=aV (L:=L) (k:=2) (x:=eB) (by decide) hs;have t3:=aQ (L:=L) (k:=1) (x:=eB) (by decide) (au L 2 eB s);have t4:=aV (L:=L) (k:=1) (x:=eB) (by decide) t2;simp[aK hL (k:=2) (by decide),Tk.cells];simp[aK hL (k:=1) (by decide),Tk.cells];have hl1:(au L 1 eB (au L 2 eB s)).lv=s.lv:=by simp
  generalize h1:au L 1 eB (au L 2 eB s)=s1 at *;generalize h2:aL L 2 eB s=t at *;generalize h3:aL L 1 eB (au L 2 eB s)=v at *;simp only[←hl1];have hml:=iV L s;have hg0:∀{s2 s' us x},Gr (fun m=>Tz L m) s1 s2 us→Gr (fun m=>aA (aY L 6 mQ) fun _=>aA (bR L m [] []) fun r=>aX ⟨t.text,v.text,us,r.1,r.2,t.at_⟩) s2 s' x→Gr (fun m=>rE L m) s s' x:=
   fun a b=>.tx (fun _=>rfl) (.bind (.takex rfl h2) (.bind (.takex h1 h3) (.bind a b)))
  simp[bG hL];refine dF (fun hb=>?_) (fun hb=>?_)
  ·obtain⟨b1,b2⟩:=bS hb
   rw[may_t hb];obtain⟨us,s2,u1,u2,u3,u4,u5,ru⟩:=pX hL s1.up b2;have hg:∀{s' x},_→Gr (fun m=>rE L m) s s' x:=fun {s' x}=>hg0 (.tx (fun _=>rfl) (.may_t hb ru))
   have q1:=aQ (L:=L) (k:=6) (x:=⟨#[119,104,101,114,101]⟩) (by decide) s2;have q2:=aV (L:=L) (k:=6) (x:=⟨#[119,104,101,114,101]⟩) (by decide) u2;simp only[aR] at u5;simp only[qUp,dh,aR,bN,bP,u5] at u1;simp[u1];simp only[←u5];simp[aK hL (k:=6) (by decide),Tk.cells];have hml2:=iV L (au L 6 ⟨#[119,104,101,114,101]⟩ s2);obtain⟨s4,ms,ds,g1,g2,g3,g4,g5,g6,g7,rl⟩:=P5 hL t.text v.text (strs us) t.at_ (mu L (au L 6 ⟨#[119,104,101,114,101]⟩ s2)) (au L 6 ⟨#[119,104,101,114,101]⟩ s2) [] [] (Nat.le_refl _) q2 (by simp;omega) (by simp;omega)
   match ms,ds with
   |[],[]=>
    simp only[List.nil_append,qC,fC,aO] at g1;simp[g1];exact bE.of _ _ s4 ⟨t.text,v.text,us,[],[],t.at_⟩ (by simp) g2 (by omega) ⟨by unfold bM;simp only;omega,⟨by unfold bM;simp at g6 ⊢;try omega,g4⟩,by unfold bM;simp at g7 ⊢;try omega,g5⟩ (hg (.bind (.take _ _ _) (.bind rl .pure)))
   |[],d::ds=>
    simp only[List.nil_append,qC,fC,aO] at g1;simp[g1];exact bE.of _ _ s4 ⟨t.text,v.text,us,[],d::ds,t.at_⟩ (by simp) g2 (by omega) ⟨by unfold bM;simp only;omega,⟨by unfold bM;simp at g6 ⊢;try omega,g4⟩,by unfold bM;simp at g7 ⊢;try omega,g5⟩ (hg (.bind (.take _ _ _) (.bind rl .pure)))
   |m::ms,[]=>
    simp only[List.nil_append,qC,fC,aO] at g1;simp[g1];exact bE.of _ _ s4 ⟨t.text,v.text,us,m::ms,[],t.at_⟩ (by simp) g2 (by omega) ⟨by unfold bM;simp only;omega,⟨by unfold bM;simp at g6 ⊢;try omega,g4⟩,by unfold bM;simp at g7 ⊢;try omega,g5⟩ (hg (.bind (.take _ _ _) (.bind rl .pure)))
   |m::ms,d::ds=>
    simp only[List.nil_append,qC,fC,aO] at g1;simp[g1];exact bE.of _ _ s4 ⟨t.text,v.text,us,m::ms,d::ds,t.at_⟩ (by simp) g2 (by omega) ⟨by unfold bM;simp only;omega,⟨by unfold bM;simp at g6 ⊢;try omega,g4⟩,by unfold bM;simp at g7 ⊢;try omega,g5⟩ (hg (.bind (.take _ _ _) (.bind rl .pure)))
  ·rw[may_f hb]
   have hg:∀{s' x},_→Gr (fun m=>rE L m) s s' x:=fun {s' x}=>hg0 (us:=[]) (.tx (fun _=>rfl) (.may_f hb .pure))
   have q1:=aQ (L:=L) (k:=6) (x:=⟨#[119,104,101,114,101]⟩) (by decide) s1;have q2:=aV (L:=L) (k:=6) (x:=⟨#[119,104,101,114,101]⟩) (by decide) t4;simp[aK hL (k:=6) (by decide),Tk.cells];have hml2:=iV L (au L 6 ⟨#[119,104,101,114,101]⟩ s1);obtain⟨s4,ms,ds,g1,g2,g3,g4,g5,g6,g7,rl⟩:=P5 hL t.text v.text aj t.at_ (mu L (au L 6 ⟨#[119,104,101,114,101]⟩ s1)) (au L 6 ⟨#[119,104,101,114,101]⟩ s1) [] [] (Nat.le_refl _) q2 (by simp;omega) (by simp;omega)
   match ms,ds with
   |[],[]=>
    simp only[List.nil_append,qC,fC,aO] at g1;simp[g1];exact bE.of _ _ s4 ⟨t.text,v.text,[],[],[],t.at_⟩ (by simp) g2 (by omega) ⟨by simp[bM],⟨by unfold bM;simp at g6 ⊢;try omega,g4⟩,by unfold bM;simp at g7 ⊢;try omega,g5⟩ (hg (.bind (.take _ _ _) (.bind rl .pure)))
   |[],d::ds=>
    simp only[List.nil_append,qC,fC,aO] at g1;simp[g1];exact bE.of _ _ s4 ⟨t.text,v.text,[],[],d::ds,t.at_⟩ (by simp) g2 (by omega) ⟨by simp[bM],⟨by unfold bM;simp at g6 ⊢;try omega,g4⟩,by unfold bM;simp at g7 ⊢;try omega,g5⟩ (hg (.bind (.take _ _ _) (.bind rl .pure)))
   |m::ms,[]=>
    simp only[List.nil_append,qC,fC,aO] at g1;simp[g1];exact bE.of _ _ s4 ⟨t.text,v.text,[],m::ms,[],t.at_⟩ (by simp) g2 (by omega) ⟨by simp[bM],⟨by unfold bM;simp at g6 ⊢;try omega,g4⟩,by unfold bM;simp at g7 ⊢;try omega,g5⟩ (hg (.bind (.take _ _ _) (.bind rl .pure)))
   |m::ms,d::ds=>
    simp only[List.nil_append,qC,fC,aO] at g1;simp[g1];exact bE.of _ _ s4 ⟨t.text,v.text,[],m::ms,d::ds,t.at_⟩ (by simp) g2 (by omega) ⟨by simp[bM],⟨by unfold bM;simp at g6 ⊢;try omega,g4⟩,by unfold bM;simp at g7 ⊢;try omega,g5⟩ (hg (.bind (.take _ _ _) (.bind rl .pure)))
theorem ams{n:Nat}(nm:ByteArray)(hk:Int)(hn:ByteArray)(hz:Int)(hq:PV)(a:Int):∀(m:Nat) (s:St) (es:List (List PV)) (l:List Pd),Raw 5 es (l.map Pd.cells)→mu L s≤m→m≤n→s.a≤L.length→l.length+m≤2000000→s.e=0→∃(s':St) (es':List (List PV)) (l':List Pd),
  ev (Q5 (aU L) (iv s.a) (iv s.lv) (iv s.e) (iv s.w) (sv nm) (iv hk) (sv hn) (iv hz) hq es (iv a))=some (1,dh L s' [sv nm,iv hk,sv hn,iv hz,hq,.rows es',aj,iv a,sv eB,iv 0,sv eB,iv 0,aj,aj,aj,iv 0])∧Raw 5 es' ((l++l').map Pd.cells)∧
  s'.a≤L.length∧mu L s'≤mu L s∧(∀t∈l',t.Ok)∧l'.length≤mu L s-mu L s'∧s'.lv=s.lv∧Gr (fun m=>og L m l) s s' (l++l'):=by
 intro m
 induction m with
 |zero=>
  intro s es l hr hm hn' hs hl he;have:=aW (L:=L) he;omega
 |succ m ihm=>
  intro s es l hr hm hn' hs hl he;have hp:=aW (L:=L) he;have hln:=hr.len;rw[List.length_map] at hln;have t1:=aQ (L:=L) (k:=2) (x:=eB) (by decide) s;have t2:=aV (L:=L) (k:=2) (x:=eB) (by decide) hs;have t3:=aQ (L:=L) (k:=1) (x:=eB) (by decide) (au L 2 eB s);have t4:=aV (L:=L) (k:=1) (x:=eB) (by decide) t2;have hw:dL [sv (aL L 2 eB s).text,iv 1,sv (aL L 1 eB (au L 2 eB s)).text,iv 0,aj]=Pd.cells ⟨(aL L 2 eB s).text,ET 1 (aL L 1 eB (au L 2 eB s)).text⟩:=by simp[Pd.cells,ET]
  have hx:(Pd.mk (aL L 2 eB s).text (ET 1 (aL L 1 eB (au L 2 eB s)).text)).Ok:=sH _ _;have he2:=(gZ (L:=L) (x:=⟨#[44]⟩) (s:=(au L 1 eB (au L 2 eB s))));have hr2:Raw 5 (es++[[sv (aL L 2 eB s).text,iv 1,sv (aL L 1 eB (au L 2 eB s)).text,iv 0,aj]]) ((l++[(Pd.mk (aL L 2 eB s).text (ET 1 (aL L 1 eB (au L 2 eB s)).text))]).map Pd.cells):=by
   have:=hr.app (c:=[sv (aL L 2 eB s).text,iv 1,sv (aL L 1 eB (au L 2 eB s)).text,iv 0,aj]) hw rfl (by simp);simpa using this
  have ha:=fun k'=>aH (P:=PG) (d:=.fail) (k:=k') ajF hr (c:=[sv (aL L 2 eB s).text,iv 1,sv (aL L 1 eB (au L 2 eB s)).text,iv 0,aj]) rfl (by simp) (by omega) (by decide)
  cases hb:gD L ⟨#[44]⟩ (au L 1 eB (au L 2 eB s)) with
  |true=>
   obtain⟨b1,b2⟩:=bS hb;obtain⟨s3,es',l',f1,f2,f3,f4,f5,f6,f7,q3⟩:=ihm (au L 1 eB (au L 2 eB s)).up _ _ hr2 (by omega) (by omega) b2 (by simp;omega) ((bN _).trans (he2 hb).1);simp only[aR,bN,bP,aO] at f1 f7;refine⟨s3,es',_::l',ay.of ?_,by simpa using f2,f3,by omega,Vy hx f5,by simp;omega,f7,(Gr.fx (og.eq_2 L l) (.bind (.take _ _ _) (.bind (.take _ _ _) (.may_t hb q3)))).eq (by simp)⟩
   ·rw[S9]
    simp[eq_true he];simp[aK hL (k:=2) (by decide),Tk.cells];simp[aK hL (k:=1) (by decide),Tk.cells];simp[ha];simp[bG hL,St.eta2,hb,may_t hb,aR,bN,bP];simp[f1,f7]
  |false=>
   refine⟨(au L 1 eB (au L 2 eB s)),_,[_],ay.of ?_,hr2,t4,by omega,by simpa using hx,by simp;omega,by simp,.fx (og.eq_2 L l) (.bind (.take _ _ _) (.bind (.take _ _ _) (.may_f hb .pure)))⟩
   ·rw[S9]
    simp[eq_true he];simp[aK hL (k:=2) (by decide),Tk.cells];simp[aK hL (k:=1) (by decide),Tk.cells];simp[ha];simp[bG hL,St.eta2,hb,may_f hb];rw[ay.of ((SY ev _ _ _ _ _ _ _ _ _ _ _ _).trans rfl)];simp
theorem amt(nm:ByteArray)(hk:Int)(hn:ByteArray)(hz:Int)(hq:PV)(a:Int)(s:St)(hs:s.a≤L.length):∃(s':St) (es':List (List PV)) (l':List Pd),
  ((l'=[]∧ev (Hg (aU L) (iv s.a) (iv s.lv) (iv s.e) (iv s.w) (sv nm) (iv hk) (sv hn) (iv hz) hq (iv a))=some (0,dh L s' [sv nm,iv hk,sv hn,iv hz,hq,aj,aj,iv a,sv eB,iv 0,sv eB,iv 0,aj,aj,aj,iv 0]))∨
   (Raw 5 es' (l'.map Pd.cells)∧ev (Hg (aU L) (iv s.a) (iv s.lv) (iv s.e) (iv s.w) (sv nm) (iv hk) (sv hn) (iv hz) hq (iv a))=some (1,dh L s' [sv nm,iv hk,sv hn,iv hz,hq,.rows es',aj,iv a,sv eB,iv 0,sv eB,iv 0,aj,aj,aj,iv 0])))∧
  s'.a≤L.length∧mu L s'≤mu L s∧(∀t∈l',t.Ok)∧l'.length≤10000000∧s'.lv=s.lv∧Gr (fun m=>og L m []) s s' l':=by
 by_cases he:s.e=0
 ·have hp:=aW (L:=L) he
  have t1:=aQ (L:=L) (k:=2) (x:=eB) (by decide) s;have t2:=aV (L:=L) (k:=2) (x:=eB) (by decide) hs;have t3:=aQ (L:=L) (k:=1) (x:=eB) (by decide) (au L 2 eB s);have t4:=aV (L:=L) (k:=1) (x:=eB) (by decide) t2;have hw:dL [sv (aL L 2 eB s).text,iv 1,sv (aL L 1 eB (au L 2 eB s)).text,iv 0,aj]=Pd.cells ⟨(aL L 2 eB s).text,ET 1 (aL L 1 eB (au L 2 eB s)).text⟩:=by simp[Pd.cells,ET]
  have hx:(Pd.mk (aL L 2 eB s).text (ET 1 (aL L 1 eB (au L 2 eB s)).text)).Ok:=sH _ _;have he2:=(gZ (L:=L) (x:=⟨#[44]⟩) (s:=(au L 1 eB (au L 2 eB s))));have hr2:Raw 5 [[sv (aL L 2 eB s).text,iv 1,sv (aL L 1 eB (au L 2 eB s)).text,iv 0,aj]] ([(Pd.mk (aL L 2 eB s).text (ET 1 (aL L 1 eB (au L 2 eB s)).text))].map Pd.cells):=.one hw rfl (by simp);cases hb:gD L ⟨#[44]⟩ (au L 1 eB (au L 2 eB s)) with
  |true=>
   obtain⟨b1,b2⟩:=bS hb;have hml:=iV L (au L 1 eB (au L 2 eB s)).up;obtain⟨s3,es',l',f1,f2,f3,f4,f5,f6,f7,q3⟩:=ams hL nm hk hn hz hq a (mu L (au L 1 eB (au L 2 eB s)).up) (au L 1 eB (au L 2 eB s)).up _ _ hr2 (Nat.le_refl _) (Nat.le_refl _) b2 (by simp;omega) ((bN _).trans (he2 hb).1);simp only[aR,bN,bP,aO] at f1 f7;refine⟨s3,es',_::l',.inr ⟨by simpa using f2,ay.of ?_⟩,f3,by omega,Vy hx f5,by simp;omega,f7,.fx (og.eq_2 L []) (.bind (.take _ _ _) (.bind (.take _ _ _) (.may_t hb q3)))⟩
   ·rw[Jd]
    simp[eq_true he];simp[aK hL (k:=2) (by decide),Tk.cells];simp[aK hL (k:=1) (by decide),Tk.cells];simp[bG hL,St.eta2,hb,may_t hb,aR,bN,bP];simp[f1,f7]
  |false=>
   refine⟨(au L 1 eB (au L 2 eB s)),_,[_],.inr ⟨hr2,ay.of ?_⟩,t4,by omega,by simpa using hx,by simp,by simp,.fx (og.eq_2 L []) (.bind (.take _ _ _) (.bind (.take _ _ _) (.may_f hb .pure)))⟩
   ·rw[Jd]
    simp[eq_true he];simp[aK hL (k:=2) (by decide),Tk.cells];simp[aK hL (k:=1) (by decide),Tk.cells];simp[bG hL,St.eta2,hb,may_f hb];rw[ay.of ((SY ev _ _ _ _ _ _ _ _ _ _ _ _).trans rfl)];simp
 ·exact⟨s,[],[],.inl ⟨rfl,ay.of (by rw[Jd];simp[he])⟩,hs,Nat.le_refl _,(by simp),by simp,rfl,.fault he rfl rfl⟩
theorem ap6{n:Nat}(nm:ByteArray)(hk:Int)(hn:ByteArray)(hz:Int)(hq:PV)(a:Int):∀(m:Nat) (s:St) (l:List Bd),mu L s≤m→m≤n→s.a≤L.length→l.length+m≤2000000→∃(s':St) (l':List Bd),
  ev (QZ (aU L) (iv s.a) (iv s.lv) (iv s.e) (iv s.w) (sv nm) (iv hk) (sv hn) (iv hz) hq (l.map Bd.cells) (iv a))=some (1,dh L s' [sv nm,iv hk,sv hn,iv hz,hq,aj,aZ (l++l'),iv a,sv eB,iv 0,sv eB,iv 0,aj,aj,aj,iv 0])∧
  s'.a≤L.length∧mu L s'≤mu L s∧(∀t∈l',t.Ok)∧l'.length≤mu L s-mu L s'∧Gr (fun m=>d9 L m l) s s' (l++l'):=by
 intro m
 induction m with
 |zero=>
  intro s l hm hn' hs hl;have he:s.e≠0:=fun he=>by have:=aW (L:=L) he;omega
  exact⟨s,[],ay.of (by rw[Bu];simp[he,aZ]),hs,Nat.le_refl _,(by simp),by simp,.fault he rfl rfl⟩
 |succ m ihm=>
  intro s l hm hn' hs hl;by_cases he:s.e=0
  ·have hp:=aW (L:=L) he
   cases hb:gD L ⟨#[101,110,100]⟩ s with
   |true=>
    obtain⟨b1,b2⟩:=bS hb;refine⟨s.up,[],ay.of ?_,b2,by omega,(by simp),by simp,(Gr.fx (d9.eq_2 L l) (.may_t hb .pure)).eq (by simp)⟩;rw[Bu];simp[eq_true he];simp[bG hL,hb,may_t hb,aZ,aR,bN,bP]
   |false=>
    have t1:=aQ (L:=L) (k:=6) (x:=⟨#[100,101,102]⟩) (by decide) s;have t2:=aV (L:=L) (k:=6) (x:=⟨#[100,101,102]⟩) (by decide) hs;obtain⟨v,s2,f1,f2,f3,f4,q1⟩:=qz hL (mu L s) (au L 6 ⟨#[100,101,102]⟩ s) t2 (by omega);have t3:=aQ (L:=L) (k:=7) (x:=⟨#[59]⟩) (by decide) s2;have t4:=aV (L:=L) (k:=7) (x:=⟨#[59]⟩) (by decide) f2;obtain⟨s3,l',g1,g2,g3,g4,g5,q2⟩:=ihm (au L 7 ⟨#[59]⟩ s2) (l++[v]) (by omega) (by omega) t4 (by simp;omega);rw[IB,List.append_assoc] at g1;simp only[aO] at g1;simp only[yL,aO] at f1;have ha:=fun k'=>aH (P:=PG) (d:=.fail) (k:=k') qf (gL l) (c:=fZ v) rfl (by simp) (by simp;omega) (by decide)
    refine⟨s3,v::l',ay.of ?_,g2,by omega,Vy f4 g4,by simp;omega,(Gr.fx (d9.eq_2 L l) (.may_f hb (.bind (.take _ _ _) (.bind q1 (.bind (.take _ _ _) q2))))).eq (by simp)⟩
    ·rw[Bu]
     simp[eq_true he];simp[bG hL,hb,may_f hb];simp[aK hL (k:=6) (by decide),Tk.cells];simp[f1];simp[ha];simp[aK hL (k:=7) (by decide),Tk.cells];simp[g1]
  ·exact⟨s,[],ay.of (by rw[Bu];simp[he,aZ]),hs,Nat.le_refl _,(by simp),by simp,.fault he rfl rfl⟩
theorem alD(nm:ByteArray)(hk:Int)(hn:ByteArray)(hz:Int)(hq:PV)(a:Int)(s:St)(hs:s.a≤L.length):∃(s':St) (l':List Bd),
  ((l'=[]∧ev (Hf (aU L) (iv s.a) (iv s.lv) (iv s.e) (iv s.w) (sv nm) (iv hk) (sv hn) (iv hz) hq (iv a))=some (0,dh L s' [sv nm,iv hk,sv hn,iv hz,hq,aj,aj,iv a,sv eB,iv 0,sv eB,iv 0,aj,aj,aj,iv 0]))∨
   ev (Hf (aU L) (iv s.a) (iv s.lv) (iv s.e) (iv s.w) (sv nm) (iv hk) (sv hn) (iv hz) hq (iv a))=some (1,dh L s' [sv nm,iv hk,sv hn,iv hz,hq,aj,aZ l',iv a,sv eB,iv 0,sv eB,iv 0,aj,aj,aj,iv 0]))∧
  s'.a≤L.length∧mu L s'≤mu L s∧(∀t∈l',t.Ok)∧l'.length≤10000000∧Gr (fun m=>d9 L m []) s s' l':=by
 by_cases he:s.e=0
 ·have hp:=aW (L:=L) he
  cases hb:gD L ⟨#[101,110,100]⟩ s with
  |true=>
   obtain⟨b1,b2⟩:=bS hb;refine⟨s.up,[],.inl ⟨rfl,ay.of ?_⟩,b2,by omega,(by simp),by simp,.fx (d9.eq_2 L []) (.may_t hb .pure)⟩;rw[Jc];simp[eq_true he];simp[bG hL,hb,may_t hb,aR,bN,bP]
  |false=>
   have t1:=aQ (L:=L) (k:=6) (x:=⟨#[100,101,102]⟩) (by decide) s;have t2:=aV (L:=L) (k:=6) (x:=⟨#[100,101,102]⟩) (by decide) hs;obtain⟨v,s2,f1,f2,f3,f4,q1⟩:=qz hL (mu L s) (au L 6 ⟨#[100,101,102]⟩ s) t2 (by omega);have t3:=aQ (L:=L) (k:=7) (x:=⟨#[59]⟩) (by decide) s2;have t4:=aV (L:=L) (k:=7) (x:=⟨#[59]⟩) (by decide) f2;have hml:=iV L (au L 7 ⟨#[59]⟩ s2);obtain⟨s3,l',g1,g2,g3,g4,g5,q2⟩:=ap6 hL nm hk hn hz hq a (mu L (au L 7 ⟨#[59]⟩ s2)) (au L 7 ⟨#[59]⟩ s2) [v] (Nat.le_refl _) (Nat.le_refl _) t4 (by simp;omega);have e:[v].map Bd.cells=[fZ v]:=IB [] v;rw[e] at g1;simp only[yL,aO] at f1;refine⟨s3,v::l',.inr (ay.of ?_),g2,by omega,Vy f4 g4,by simp;omega,.fx (d9.eq_2 L []) (.may_f hb (.bind (.take _ _ _) (.bind q1 (.bind (.take _ _ _) q2))))⟩
   ·rw[Jc]
    simp[eq_true he];simp[bG hL,hb,may_f hb];simp[aK hL (k:=6) (by decide),Tk.cells];simp[f1];simp[aK hL (k:=7) (by decide),Tk.cells];simp at g1;simp[g1]
 ·exact⟨s,[],.inl ⟨rfl,ay.of (by rw[Jc];simp[he])⟩,hs,Nat.le_refl _,(by simp),by simp,.fault he rfl rfl⟩
theorem ap5{n:Nat}(nm:ByteArray)(hk:Int)(hn:ByteArray)(hz:Int)(hq:PV)(a:Int)(CR:List (List PV)):∀(m:Nat) (s:St) (l:List Bd),mu L s≤m→m≤n→s.a≤L.length→l.length+m≤2000000→∃(s':St) (l':List Bd),
  ev (QY (aU L) (iv s.a) (iv s.lv) (iv s.e) (iv s.w) (sv nm) (iv hk) (sv hn) (iv hz) hq CR (l.map Bd.cells) (iv a))=some (1,dh L s' [sv nm,iv hk,sv hn,iv hz,hq,.rows CR,aZ (l++l'),iv a,sv eB,iv 0,sv eB,iv 0,aj,aj,aj,iv 0])∧
  s'.a≤L.length∧mu L s'≤mu L s∧(∀t∈l',t.Ok)∧l'.length≤mu L s-mu L s'∧Gr (fun m=>d9 L m l) s s' (l++l'):=by
 intro m
 induction m with
 |zero=>
  intro s l hm hn' hs hl;have he:s.e≠0:=fun he=>by have:=aW (L:=L) he;omega
  exact⟨s,[],ay.of (by rw[Bt];simp[he,aZ]),hs,Nat.le_refl _,(by simp),by simp,.fault he rfl rfl⟩
 |succ m ihm=>
  intro s l hm hn' hs hl;by_cases he:s.e=0
  ·have hp:=aW (L:=L) he
   cases hb:gD L ⟨#[101,110,100]⟩ s with
   |true=>
    obtain⟨b1,b2⟩:=bS hb;refine⟨s.up,[],ay.of ?_,b2,by omega,(by simp),by simp,(Gr.fx (d9.eq_2 L l) (.may_t hb .pure)).eq (by simp)⟩;rw[Bt];simp[eq_true he];simp[bG hL,hb,may_t hb,aZ,aR,bN,bP]
   |false=>
    have t1:=aQ (L:=L) (k:=6) (x:=⟨#[100,101,102]⟩) (by decide) s;have t2:=aV (L:=L) (k:=6) (x:=⟨#[100,101,102]⟩) (by decide) hs;obtain⟨v,s2,f1,f2,f3,f4,q1⟩:=qz hL (mu L s) (au L 6 ⟨#[100,101,102]⟩ s) t2 (by omega);have t3:=aQ (L:=L) (k:=7) (x:=⟨#[59]⟩) (by decide) s2;have t4:=aV (L:=L) (k:=7) (x:=⟨#[59]⟩) (by decide) f2;obtain⟨s3,l',g1,g2,g3,g4,g5,q2⟩:=ihm (au L 7 ⟨#[59]⟩ s2) (l++[v]) (by omega) (by omega) t4 (by simp;omega);rw[IB,List.append_assoc] at g1;simp only[aO] at g1;simp only[yL,aO] at f1;have ha:=fun k'=>aH (P:=PG) (d:=.fail) (k:=k') qf (gL l) (c:=fZ v) rfl (by simp) (by simp;omega) (by decide)
    refine⟨s3,v::l',ay.of ?_,g2,by omega,Vy f4 g4,by simp;omega,(Gr.fx (d9.eq_2 L l) (.may_f hb (.bind (.take _ _ _) (.bind q1 (.bind (.take _ _ _) q2))))).eq (by simp)⟩
    ·rw[Bt]
     simp[eq_true he];simp[bG hL,hb,may_f hb];simp[aK hL (k:=6) (by decide),Tk.cells];simp[f1];simp[ha];simp[aK hL (k:=7) (by decide),Tk.cells];simp[g1]
  ·exact⟨s,[],ay.of (by rw[Bt];simp[he,aZ]),hs,Nat.le_refl _,(by simp),by simp,.fault he rfl rfl⟩
theorem ap7(nm:ByteArray)(hk:Int)(hn:ByteArray)(hz:Int)(hq:PV)(a:Int)(CR:List (List PV))(s:St)(hs:s.a≤L.length):∃(s':St) (l':List Bd),
  ((l'=[]∧ev (He (aU L) (iv s.a) (iv s.lv) (iv s.e) (iv s.w) (sv nm) (iv hk) (sv hn) (iv hz) hq CR (iv a))=some (0,dh L s' [sv nm,iv hk,sv hn,iv hz,hq,.rows CR,aj,iv a,sv eB,iv 0,sv eB,iv 0,aj,aj,aj,iv 0]))∨
   ev (He (aU L) (iv s.a) (iv s.lv) (iv s.e) (iv s.w) (sv nm) (iv hk) (sv hn) (iv hz) hq CR (iv a))=some (1,dh L s' [sv nm,iv hk,sv hn,iv hz,hq,.rows CR,aZ l',iv a,sv eB,iv 0,sv eB,iv 0,aj,aj,aj,iv 0]))∧
  s'.a≤L.length∧mu L s'≤mu L s∧(∀t∈l',t.Ok)∧l'.length≤10000000∧Gr (fun m=>d9 L m []) s s' l':=by
 by_cases he:s.e=0
 ·have hp:=aW (L:=L) he
  cases hb:gD L ⟨#[101,110,100]⟩ s with
  |true=>
   obtain⟨b1,b2⟩:=bS hb;refine⟨s.up,[],.inl ⟨rfl,ay.of ?_⟩,b2,by omega,(by simp),by simp,.fx (d9.eq_2 L []) (.may_t hb .pure)⟩;rw[Jb];simp[eq_true he];simp[bG hL,hb,may_t hb,aR,bN,bP]
  |false=>
   have t1:=aQ (L:=L) (k:=6) (x:=⟨#[100,101,102]⟩) (by decide) s;have t2:=aV (L:=L) (k:=6) (x:=⟨#[100,101,102]⟩) (by decide) hs;obtain⟨v,s2,f1,f2,f3,f4,q1⟩:=qz hL (mu L s) (au L 6 ⟨#[100,101,102]⟩ s) t2 (by omega);have t3:=aQ (L:=L) (k:=7) (x:=⟨#[59]⟩) (by decide) s2;have t4:=aV (L:=L) (k:=7) (x:=⟨#[59]⟩) (by decide) f2;have hml:=iV L (au L 7 ⟨#[59]⟩ s2);obtain⟨s3,l',g1,g2,g3,g4,g5,q2⟩:=ap5 hL nm hk hn hz hq a CR (mu L (au L 7 ⟨#[59]⟩ s2)) (au L 7 ⟨#[59]⟩ s2) [v] (Nat.le_refl _) (Nat.le_refl _) t4 (by simp;omega);have e:[v].map Bd.cells=[fZ v]:=IB [] v;rw[e] at g1;simp only[yL,aO] at f1;refine⟨s3,v::l',.inr (ay.of ?_),g2,by omega,Vy f4 g4,by simp;omega,.fx (d9.eq_2 L []) (.may_f hb (.bind (.take _ _ _) (.bind q1 (.bind (.take _ _ _) q2))))⟩
   ·rw[Jb]
    simp[eq_true he];simp[bG hL,hb,may_f hb];simp[aK hL (k:=6) (by decide),Tk.cells];simp[f1];simp[aK hL (k:=7) (by decide),Tk.cells];simp at g1;simp[g1]
 ·exact⟨s,[],.inl ⟨rfl,ay.of (by rw[Jb];simp[he])⟩,hs,Nat.le_refl _,(by simp),by simp,.fault he rfl rfl⟩
theorem adC(n:Nat):lM L (n+1) (qIt L) Zt It.Ok (fun m=>xX L m):=
 lM.weak (q:=fun s=>ahN (aU L) (iv s.a) (iv s.lv) (iv s.e) (iv s.w)) (fun s=>alX ev _ _ _ _ _) fun s hs hm=>by
  show bE L s Zt It.Ok _ (body PG EE TT ev (ahN (aU L) (iv s.a) (iv s.lv) (iv s.e) (iv s.w)));rw[aqH];have t1:=aQ (L:=L) (k:=2) (x:=eB) (by decide) s;have t2:=aV (L:=L) (k:=2) (x:=eB) (by decide) hs;simp[aK hL (k:=2) (by decide),Tk.cells];have hl1:(au L 2 eB s).lv=s.lv:=aO _ _ s;generalize h1:au L 2 eB s=s1 at *;generalize h2:aL L 2 eB s=t at *;simp only[←hl1];obtain⟨h,s2,e1,e2,e3,e4,ra⟩:=jr hL (n+1) s1 t2 (by omega);simp[e1];simp[bG hL];have hg0:∀{s3 s' cl x},Gr (fun m=>dV L xD (og L m []) (aX [])) s2 s3 cl→Gr (fun m=>aA (aY L 6 mQ) fun _=>aA (d9 L m []) fun bs=>aX ⟨t.text,h,cl,bs,t.at_⟩) s3 s' x→Gr (fun m=>xX L m) s s' x:=
   fun a b=>.tx (fun _=>rfl) (.bind (.takex h1 h2) (.bind ra (.bind a b)))
  refine dF (fun hb=>?_) (fun hb=>?_)
  ·obtain⟨b1,b2⟩:=bS hb
   rw[may_t hb];obtain⟨s3,es,cl,hc,g2,g3,g4,g5,g6,rc⟩:=amt hL t.text h.kind h.name h.n (bH h.kids) t.at_ s2.up b2;have hg:∀{s' x},_→Gr (fun m=>xX L m) s s' x:=fun {s' x}=>hg0 (.may_t hb rc)
   simp only[aR] at g6;simp only[aR,bN,bP,dh,g6] at hc;rcases hc with⟨rfl,hc⟩|⟨hr,hc⟩
   ·simp[hc]
    simp only[←g6];have w1:=aQ (L:=L) (k:=6) (x:=⟨#[119,104,101,114,101]⟩) (by decide) s3;have w2:=aV (L:=L) (k:=6) (x:=⟨#[119,104,101,114,101]⟩) (by decide) g2;simp[aK hL (k:=6) (by decide),Tk.cells];obtain⟨s5,l,hd,z2,z3,z4,z5,rb⟩:=alD hL t.text h.kind h.name h.n (bH h.kids) t.at_ (au L 6 ⟨#[119,104,101,114,101]⟩ s3) w2;simp only[aO] at hd;have hx:(It.mk t.text h [] l t.at_).Ok:=⟨e4,⟨by unfold bM;simp;try omega,by simp⟩,by unfold bM;simp only;omega,z4⟩;have hh:=hg (.bind (.take _ _ _) (.bind rb .pure));rcases hd with⟨rfl,hd⟩|hd
    ·simp[hd]
     exact bE.of _ _ s5 ⟨t.text,h,[],[],t.at_⟩ (by simp) z2 (by omega) hx hh
    ·simp[hd]
     exact bE.of _ _ s5 ⟨t.text,h,[],l,t.at_⟩ (by simp) z2 (by omega) hx hh
   ·simp[hc]
    simp only[←g6];have w1:=aQ (L:=L) (k:=6) (x:=⟨#[119,104,101,114,101]⟩) (by decide) s3;have w2:=aV (L:=L) (k:=6) (x:=⟨#[119,104,101,114,101]⟩) (by decide) g2;simp[aK hL (k:=6) (by decide),Tk.cells];obtain⟨s5,l,hd,z2,z3,z4,z5,rb⟩:=ap7 hL t.text h.kind h.name h.n (bH h.kids) t.at_ es (au L 6 ⟨#[119,104,101,114,101]⟩ s3) w2;simp only[aO] at hd;have hx:(It.mk t.text h cl l t.at_).Ok:=⟨e4,⟨by unfold bM;simp;try omega,g4⟩,by unfold bM;simp only;omega,z4⟩;have hh:=hg (.bind (.take _ _ _) (.bind rb .pure));rcases hd with⟨rfl,hd⟩|hd
    ·simp[hd]
     exact bE.of _ _ s5 ⟨t.text,h,cl,[],t.at_⟩ (by simp[hr.wd,sD]) z2 (by omega) hx hh
    ·simp[hd]
     exact bE.of _ _ s5 ⟨t.text,h,cl,l,t.at_⟩ (by simp[hr.wd,sD]) z2 (by omega) hx hh
  ·rw[may_f hb]
   have hg:∀{s' x},_→Gr (fun m=>xX L m) s s' x:=fun {s' x}=>hg0 (cl:=[]) (.may_f hb .pure)
   have w1:=aQ (L:=L) (k:=6) (x:=⟨#[119,104,101,114,101]⟩) (by decide) s2;have w2:=aV (L:=L) (k:=6) (x:=⟨#[119,104,101,114,101]⟩) (by decide) e2;simp[aK hL (k:=6) (by decide),Tk.cells];obtain⟨s5,l,hd,z2,z3,z4,z5,rb⟩:=alD hL t.text h.kind h.name h.n (bH h.kids) t.at_ (au L 6 ⟨#[119,104,101,114,101]⟩ s2) w2;simp only[aO] at hd;have hx:(It.mk t.text h [] l t.at_).Ok:=⟨e4,⟨by unfold bM;simp;try omega,by simp⟩,by unfold bM;simp only;omega,z4⟩;have hh:=hg (.bind (.take _ _ _) (.bind rb .pure));rcases hd with⟨rfl,hd⟩|hd
   ·simp[hd]
    exact bE.of _ _ s5 ⟨t.text,h,[],[],t.at_⟩ (by simp) z2 (by omega) hx hh
   ·simp[hd]
    exact bE.of _ _ s5 ⟨t.text,h,[],l,t.at_⟩ (by simp) z2 (by omega) hx hh
end
end Go.Proofs.YtijcobeebaceoaaGreatDoor
