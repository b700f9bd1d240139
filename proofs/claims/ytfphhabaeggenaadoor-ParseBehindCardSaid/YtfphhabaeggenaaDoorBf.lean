/- Joined texts. -/
import Derived.Test.YtfphhabaeggenaaDoorBe
set_option linter.all false
namespace Go.Proofs.YtfphhabaeggenaaDoor
open Go.RowKit
set_option maxRecDepth 10000
abbrev zE:List PV:=[iv 0,sv eB,iv 0,iv 0,sv eB,iv 0,nS,nS,nS,nS,iv 0]
section
variable{L:List Tk}(hW:WfL L)
include hW
theorem s_alts{n:Nat}(ihE:∀m,m≤n→Pa L (pEx L) exC (expG L m))(KR:List (List PV))(w:Int):∀(m:Nat),m≤n→∀(l:List Al) (a:Nat) (d:Int),0≤d→d≤300→a<L.length→l.length≤a→PE_ L (q67ab0b (tks L) (iv a) (iv d) KR (l.map Al.cells) (iv w)) (altsG L m l d a)
  (fun v b z=>a<b∧z=(0,ps L b d (iv 8::sv eB::iv 0::iv 0::sv eB::iv 0::nS :: .rows KR::als v::nS::iv w::zE)))
  (fun e x z=>∃(b:Nat) (d':Int) (T:PV),z=(2,ps L b d' (iv 8::sv eB::iv 0::iv 0::sv eB::iv 0::nS :: .rows KR::T::nS::iv w::(zE++[iv e,iv x])))):=by
 intro m hm
 induction m with
 |zero=>intro l a d h0 h1 ha hl;rw[altsG];trivial
 |succ m ih=>
  intro l a d h0 h1 ha hl
  refine .of ?_
  rw[altsG,h67ab0b,g67ab0b]
  refine .callW (s_pt hW m a d h0 h1 ha) (fun p b hb hab g=>?_) (fun e w b d' g=>?_)
  ·simp[g]
   refine .take (by decide) (fun hc=>?_) (fun hc=>?_)
   ·have hl2:=isT_fin hW hc
    simp[-Int.natCast_add,p_want hW hb,hc,Tk.cells]
    refine .callW (ihE m (by omega) (b+1) d h0 h1 hl2) (fun v b2 hb2 hab2 g2=>?_) (fun e w b2 d' g2=>?_)
    ·simp[-Int.natCast_add,g2]
     have hap:=fun k'=>appK_raw (P:=PG) (d:=.fail) (k:=k') slAl (raw_als l) (c:=alP p v) rfl (by simp) (by have:=hW.len;simp;omega) (by decide)
     have hml:(l++[Al.mk p v]).map Al.cells=l.map Al.cells++[alP p v]:=by rw[List.map_append,List.map_cons,List.map_nil,Al.cells_eq];rfl
     simp[hap]
     simp[p_skip hW hb2]
     refine .may (fun hs=>?_) (fun hs=>?_)
     ·have hl3:=isT_fin hW hs
      have hn:=ih (by omega) (l++[Al.mk p v]) (b2+1) d h0 h1 hl3 (by simp;omega)
      rw[hml] at hn
      simp[-Int.natCast_add,hs]
      cases hr:altsG L m (l++[Al.mk p v]) d (b2+1) with
      |out=>trivial
      |err e x=>rw[hr] at hn;obtain⟨z,g1,b3,d',T,rfl⟩:=hn;exact⟨_,by simp[-Int.natCast_add,g1],b3,d',T,rfl⟩
      |ok v2 b3=>rw[hr] at hn;obtain⟨hb3,z,g1,h5,rfl⟩:=hn;exact⟨hb3,_,by simp[-Int.natCast_add,g1],by omega,rfl⟩
     ·exact .pure hb2 (by simp[hs,als,←hml]) ⟨by omega,rfl⟩
    ·exact⟨_,by simp[-Int.natCast_add,g2],b2,d',.rows (l.map Al.cells),rfl⟩
   ·exact⟨_,by simp[p_want hW hb,hc],b,d,.rows (l.map Al.cells),rfl⟩
  ·exact⟨_,by simp[g],b,d',.rows (l.map Al.cells),rfl⟩
theorem s_altsA{n:Nat}(ihE:∀m,m≤n→Pa L (pEx L) exC (expG L m))(KR:List (List PV))(w:Int)(m:Nat)(hm:m≤n)(a:Nat)(d:Int)(h0:0≤d)(h1:d≤300)(ha:a<L.length):PE_ L (q67ab0a (tks L) (iv a) (iv d) KR (iv w)) (altsG L m [] d a)
  (fun v b z=>a<b∧z=(0,ps L b d (iv 8::sv eB::iv 0::iv 0::sv eB::iv 0::nS :: .rows KR::als v::nS::iv w::zE)))
  (fun e x z=>∃(b:Nat) (d':Int),z=(1,ps L b d' (iv 8::sv eB::iv 0::iv 0::sv eB::iv 0::nS :: .rows KR::nS::nS::iv w::(zE++[iv e,iv x])))∨∃(T:PV),z=(2,ps L b d' (iv 8::sv eB::iv 0::iv 0::sv eB::iv 0::nS :: .rows KR::T::nS::iv w::(zE++[iv e,iv x])))):=by
 cases m with
 |zero=>rw[altsG];trivial
 |succ m=>
  refine .of ?_
  rw[altsG,h67ab0a,g67ab0a]
  refine .callW (s_pt hW m a d h0 h1 ha) (fun p b hb hab g=>?_) (fun e w b d' g=>?_)
  ·simp[g]
   refine .take (by decide) (fun hc=>?_) (fun hc=>?_)
   ·have hl2:=isT_fin hW hc
    simp[-Int.natCast_add,p_want hW hb,hc,Tk.cells]
    refine .callW (ihE m (by omega) (b+1) d h0 h1 hl2) (fun v b2 hb2 hab2 g2=>?_) (fun e w b2 d' g2=>?_)
    ·simp[-Int.natCast_add,g2]
     have hml:[Al.mk p v].map Al.cells=[alP p v]:=by rw[List.map_cons,List.map_nil,Al.cells_eq];rfl
     simp[p_skip hW hb2]
     refine .may (fun hs=>?_) (fun hs=>?_)
     ·have hl3:=isT_fin hW hs
      have hn:=s_alts hW ihE KR w m (by omega) [Al.mk p v] (b2+1) d h0 h1 hl3 (by simp)
      rw[hml] at hn
      simp[-Int.natCast_add,hs]
      cases hr:altsG L m [Al.mk p v] d (b2+1) with
      |out=>trivial
      |err e x=>rw[hr] at hn;obtain⟨z,g1,b3,d',T,rfl⟩:=hn;exact⟨_,by simp[-Int.natCast_add,g1],b3,d',.inr ⟨T,rfl⟩⟩
      |ok v2 b3=>rw[hr] at hn;obtain⟨hb3,z,g1,h5,rfl⟩:=hn;exact⟨hb3,_,by simp[-Int.natCast_add,g1],by omega,rfl⟩
     ·exact .pure hb2 (by simp[hs,als_one]) ⟨by omega,rfl⟩
    ·exact⟨_,by simp[-Int.natCast_add,g2],b2,d',.inl rfl⟩
   ·exact⟨_,by simp[p_want hW hb,hc],b,d,.inl rfl⟩
  ·exact⟨_,by simp[g],b,d',.inl rfl⟩
def csG(L:List Tk)(n:Nat)(w:Int):GM Ex:=bindG (expG L n) fun x=>bindG (takeG L 6 sOf) fun _=>bindG (altsG L n []) fun l=>bindG (takeG L 6 sEnd) fun _=>pureG (.mk 8 eB 0 T00 [x] l [] w)
theorem s_cases{n:Nat}(ihE:∀m,m≤n→Pa L (pEx L) exC (expG L m))(w:Int)(a:Nat)(d:Int)(h0:0≤d)(h1:d≤300)(ha:a<L.length):PE_ L (pCs L w a d) (csG L n w d a) (okS L a d 0 exC) (erS L 1):=by
 refine .weak (h67aw ev _ _ _ _) (.of ?_)
 unfold csG
 rw[h67a,g67a]
 refine .callW (ihE n (Nat.le_refl _) a d h0 h1 ha) (fun v b hb hab g=>?_) (fun e w b d' g=>?_)
 ·simp[g]
  refine .take (by decide) (fun hc=>?_) (fun hc=>?_)
  ·have hl:=isT_fin hW hc
   simp[-Int.natCast_add,p_want hW hb,hc,Tk.cells]
   refine .bind (s_altsA hW ihE [exC v] w n (Nat.le_refl _) (b+1) d h0 h1 hl) (fun l b2 z hb2 g2 hz=>?_) (fun e w z g2 hz=>?_)
   ·obtain⟨hab2,rfl⟩:=hz
    simp[-Int.natCast_add,g2]
    refine .take (by decide) (fun hs=>?_) (fun hs=>?_)
    ·exact .pure (isT_fin hW hs) (by simp[-Int.natCast_add,p_want hW hb2,hs,Tk.cells]) (.of (m:=[0,1,0]) (k:=2) (ys:=[iv 8,sv eB,iv 0,iv 0,sv eB,iv 0,nS,.rows [exC v],als l,nS,iv w]) (by omega) rfl (by simp[wdP_rows,wdss1,exs_one]))
    ·exact⟨_,by simp[-Int.natCast_add,p_want hW hb2,hs],.of (m:=[0,1,0]) (b:=b2) (d:=d) (k:=1) rfl⟩
   ·obtain⟨b2,d',rfl|⟨T,rfl⟩⟩:=hz
    ·exact⟨_,by simp[-Int.natCast_add,g2],.of (m:=[0,1,0]) (b:=b2) (d:=d') (k:=1) rfl⟩
    ·exact⟨_,by simp[-Int.natCast_add,g2],.of (m:=[0,1,0]) (b:=b2) (d:=d') (k:=1) rfl⟩
  ·exact⟨_,by simp[p_want hW hb,hc],.of (m:=[0,1,0]) (b:=b) (d:=d) (k:=1) rfl⟩
 ·exact⟨_,by simp[g],.of (m:=[0,1,0]) (b:=b) (d:=d') (k:=1) rfl⟩
theorem isT_6{a:Nat}(h:isT L sCase a=true):(tkAt L a).kind=6∧(tkAt L a).text=sCase:=by
 unfold isT at h
 rw[Bool.and_eq_true,decide_eq_true_eq,decide_eq_true_eq] at h
 have ht:=hW.top a
 have h7:(tkAt L a).kind≠7:=fun h7=>hW.k7 a h7 h.2
 exact⟨by omega,h.2⟩
omit hW in
theorem isT_no6{a:Nat}{x:ByteArray}(h:isT L x a=false)(k6:(tkAt L a).kind=6):¬(tkAt L a).text=x:=fun h2=>by unfold isT at h;simp[k6,h2] at h
theorem s_atom{n:Nat}(ihE:∀m,m≤n→Pa L (pEx L) exC (expG L m)):Pa L (pAm L) exC (atomG L (n+1)):=by
 intro a d h0 h1 ha
 refine .weak (h47aw ev _ _ _) (.of ?_)
 rw[atomG,h47a,g47a]
 simp[-Int.natCast_add,p_any hW ha,Tk.cells]
 refine .next (.if' (fun k1=>?_) (fun k1=>.if' (fun k2=>?_) (fun k2=>.if' (fun k3=>?_) (fun k3=>.if' (fun k4=>?_) (fun k4=>?_)))))
 ·exact .up (.pure (hW.fin a (by omega)) (by simp[-Int.natCast_add,k1]) (.of (m:=[0,1]) (k:=0) (ys:=[iv 3,sv (tkAt L a).text,iv 0,iv 0,sv eB,iv 0,nS,nS,nS,nS,iv (tkAt L a).at_]) (by omega) rfl (by simp)))
 ·exact .up (.pure (hW.fin a (by omega)) (by simp[-Int.natCast_add,k2]) (.of (m:=[0,1]) (k:=0) (ys:=[iv 4,sv (tkAt L a).text,iv 0,iv 0,sv eB,iv 0,nS,nS,nS,nS,iv (tkAt L a).at_]) (by omega) rfl (by simp)))
 ·exact .up (.pure (hW.fin a (by omega)) (by simp[-Int.natCast_add,k3]) (.of (m:=[0,1]) (k:=0) (ys:=[iv 1,sv eB,iv (tkAt L a).n,iv 0,sv eB,iv 0,nS,nS,nS,nS,iv (tkAt L a).at_]) (by omega) rfl (by simp)))
 ·exact .up (.pure (hW.fin a (by omega)) (by simp[-Int.natCast_add,k4]) (.of (m:=[0,1]) (k:=0) (ys:=[iv 2,sv (tkAt L a).text,iv 0,iv 0,sv eB,iv 0,nS,nS,nS,nS,iv (tkAt L a).at_]) (by omega) rfl (by simp)))
 ·refine .may (fun hc=>?_) (fun hc=>?_)
  ·obtain⟨k6,hx⟩:=isT_6 hW hc
   have hl:=isT_fin hW hc
   simp[-Int.natCast_add,k6,hx]
   have hn:=s_cases hW ihE (tkAt L a).at_ (a+1) d h0 h1 hl
   show PG_ L (csG L n (tkAt L a).at_ d (a+1)) _ _ _
   cases hr:csG L n (tkAt L a).at_ d (a+1) with
   |out=>trivial
   |err e w=>rw[hr] at hn;obtain⟨z,g,b,d',rfl⟩:=hn;exact⟨_,by simp[-Int.natCast_add,g],.of (m:=[0,1]) (b:=b) (d:=d') (k:=1) rfl⟩
   |ok v b=>rw[hr] at hn;obtain⟨hb,z,g,hab,rfl⟩:=hn;exact⟨hb,_,by simp[-Int.natCast_add,g],.of (m:=[0,1]) (k:=0) (ys:=exC v) (by omega) rfl (by simp)⟩
  ·refine .take (by decide) (fun ho=>?_) (fun ho=>?_)
   ·obtain⟨k7,hx⟩:=isT_7 hW (.inl rfl) ho
    have hl:=isT_fin hW ho
    simp[-Int.natCast_add,k7,hx]
    have hn:=s_bracket hW (ihE n (Nat.le_refl _)) (tkAt L a).at_ (a+1) d h0 h1 hl (by omega)
    show PG_ L (brG L n (tkAt L a).at_ d (a+1)) _ _ _
    cases hr:brG L n (tkAt L a).at_ d (a+1) with
    |out=>trivial
    |err e w=>rw[hr] at hn;obtain⟨z,g,b,d',rfl⟩:=hn;exact⟨_,by simp[-Int.natCast_add,g],.of (m:=[0,1]) (b:=b) (d:=d') (k:=1) rfl⟩
    |ok v b=>rw[hr] at hn;obtain⟨hb,z,g,hab,rfl⟩:=hn;exact⟨hb,_,by simp[-Int.natCast_add,g],.of (m:=[0,1]) (k:=0) (ys:=exC v) (by omega) rfl (by simp)⟩
   ·refine⟨_,?_,.of (m:=[0,1]) (b:=a+1) (d:=d) (k:=1) rfl⟩
    by_cases k6:(tkAt L a).kind=6
    ·simp[-Int.natCast_add,k6,isT_no6 hc k6,p_fail hW]
    ·by_cases k7:(tkAt L a).kind=7
     ·simp[-Int.natCast_add,k7,isT_no ho k7,p_fail hW]
     ·simp[-Int.natCast_add,k1,k2,k3,k4,k6,k7,p_fail hW]
end
set_option maxRecDepth 10000
abbrev pLa(L:List Tk)(w:Int)(a:Nat)(d:Int):Q:=q45aw (iv w) (tks L) (iv a) (iv d)
def namL(w:Int):List Tk→List (ByteArray×Int)
 |[]=>[]
 |t::r=>(t.text,w)::r.map fun t=>(t.text,t.at_)
theorem namL_app(w:Int)(N:List Tk)(t:Tk)(h:N≠[]):namL w (N++[t])=namL w N++[(t.text,t.at_)]:=by
 cases N with
 |nil=>exact absurd rfl h
 |cons x r=>simp[namL]
def lamW(N:List Tk):Nat→Ex→Ex
 |0,y=>y
 |j+1,y=>lamW N j (exM 6 (opAt N j).text 0 [y] (opAt N j).at_)
def lamF(N:List Tk)(e:Ex):Ex:=N.foldr (fun t e=>exM 6 t.text 0 [e] t.at_) e
theorem lamW_eq(N:List Tk):∀(j:Nat) (y:Ex),j≤N.length→lamW N j y=lamF (N.take j) y
 |0,y,_=>by simp[lamW,lamF]
 |j+1,y,h=>by
  rw[lamW,lamW_eq N j _ (by omega)]
  have:N.take (j+1)=N.take j++[opAt N j]:=by
   rw[List.take_add_one]
   unfold opAt
   rw[List.getElem?_eq_getElem (by omega)]
   rfl
  rw[this]
  simp[lamF]
theorem wrapE_tail(r:List Tk)(e:Ex):wrapE (r.map fun t=>(t.text,t.at_)) e=lamF r e:=by
 induction r with
 |nil=>rfl
 |cons t r ih=>simp only[wrapE,lamF,List.map_cons,List.foldr_cons] at ih ⊢;rw[ih]
theorem wrapE_nam(w:Int)(t:Tk)(r:List Tk)(e:Ex):wrapE (namL w (t::r)) e=exM 6 t.text 0 [lamF r e] w:=by
 rw[←wrapE_tail];rfl
theorem opAt_get2{N:List Tk}{j:Nat}(h:j<N.length):N[j]? = some (opAt N j):=by unfold opAt;rw[List.getElem?_eq_getElem h];rfl
section
variable{L:List Tk}
theorem lam_back(N:List Tk)(w:Int)(hN:N.length≤2000000):∀(j:Nat) (x:Ex) (nm:ByteArray) (K:List (List PV)) (p:Int),j≤N.length→Raw 11 K [x.cells]→∃(x':Ex) (nm':ByteArray) (K':List (List PV)) (p':Int),lamW N j (exM 6 nm 0 [x] p)=exM 6 nm' 0 [x'] p'∧Raw 11 K' [x'.cells]∧
  ev (q45ab2b (iv ((j:Int)-1)) (N.map Tk.cells) (iv w) (sv nm) K (iv p))=some (1,iv 6::sv nm'::iv 0::iv 0::sv eB::iv 0::nS :: .rows K'::nS::nS::iv p'::(zE++[iv w,.rows (N.map Tk.cells)])):=by
 intro j
 induction j with
 |zero=>
  intro x nm K p hj hr
  refine⟨x,nm,K,p,rfl,hr,Evl.of ?_⟩
  rw[h45ab2b,g45ab2b]
  simp
 |succ j ih=>
  intro x nm K p hj hr
  have hr2:Raw 11 [[iv 6,sv nm,iv 0,iv 0,sv eB,iv 0,nS,.rows K,nS,nS,iv p]] [(exM 6 nm 0 [x] p).cells]:=.one (by rw[Ex.cells_eq];simp[wdP_rows,hr.wd,exs]) rfl (by simp[hr.ns'])
  obtain⟨x',nm',K',p',e1,e2,e3⟩:=ih (exM 6 nm 0 [x] p) (opAt N j).text _ (opAt N j).at_ (by omega) hr2
  refine⟨x',nm',K',p',by rw[lamW,e1],e2,Evl.of ?_⟩
  rw[h45ab2b,g45ab2b]
  have e0:((j+1:Nat):Int)-1=(j:Int):=by omega
  have hw:IntKind.i64.wrap ((j:Int)-1)=(j:Int)-1:=wrap_id (by omega)
  rw[e0]
  have hx:∀(d:Res) (k:AV→Res),idxK Tryd.prog d 76 (.pv (.rows (N.map Tk.cells))) (.pv (.lit (.int .i64 (j:Int)))) k=k (.cptr [iv (opAt N j).kind,sv (opAt N j).text,iv (opAt N j).n,iv (opAt N j).at_]):=fun d k=>idxK_tks (opAt_get2 (show j<N.length by omega))
  simp[hx,hw]
  simp[e3]
variable(hW:WfL L)
include hW
def tailG(L:List Tk)(k:Nat)(l:List (ByteArray×Int)):GM Ex:=bindG (takeG L 7 sArr) fun _=>bindG (expG L k) fun e=>pureG (wrapE l e)
theorem lams_run(w d:Int):∀(m:Nat) (N:List Tk) (a:Nat),N≠[]→a<L.length→N.length≤a→lamsG L m (namL w N) d a=.out∨∃(R:List Tk) (b k:Nat),k<m∧a≤b∧b<L.length∧(N++R).length≤b∧lamsG L m (namL w N) d a=tailG L k (namL w (N++R)) d b∧
  ev (q45ab0b (N.map Tk.cells) (iv w) (tks L) (iv a) (iv d))=some (1,tks L::iv b::iv d::(zE++[.rows ((N++R).map Tk.cells),iv w])):=by
 intro m
 induction m with
 |zero=>intro N a _ _ _;exact .inl (by rw[lamsG];rfl)
 |succ m ih=>
  intro N a hN ha hl
  rw[lamsG.eq_2]
  unfold kindG
  by_cases k1:(tkAt L a).kind=1
  ·have hb:=hW.fin a (by omega)
   have e1:(if(tkAt L a).kind=1 then(nextG L fun t=>upG (lamsG L m (namL w N++[(t.text,t.at_)]))) d a else tailG L m (namL w N) d a)=lamsG L m (namL w (N++[tkAt L a])) d (a+1):=by rw[if_pos k1,namL_app w N _ hN];rfl
   have e2:=ih (N++[tkAt L a]) (a+1) (by simp) hb (by simp;omega)
   rcases e2 with e2|⟨R,b,k,c1,c2,c3,c4,c5,c6⟩
   ·exact .inl (e1.trans e2)
   ·refine .inr ⟨tkAt L a::R,b,k,by omega,by omega,c3,by simpa using c4,(e1.trans c5).trans (by simp),Evl.of ?_⟩
    rw[h45ab0b,g45ab0b]
    have hap:=fun k'=>appK_tks (k:=k') N (tkAt L a) (by have:=hW.len;omega)
    rw[List.map_append,List.map_cons,List.map_nil] at c6
    simp[-Int.natCast_add,p_next ha,Tk.cells,k1,p_any hW ha]
    simp[-Int.natCast_add,Tk.cells,k1] at hap c6
    simp[-Int.natCast_add,hap,c6]
  ·exact .inr ⟨[],a,m,by omega,Nat.le_refl _,ha,by simpa using hl,by rw[if_neg k1,List.append_nil];rfl,Evl.of (by
    rw[h45ab0b,g45ab0b]
    simp[p_next ha,Tk.cells,k1])⟩
theorem lamA_run(w d:Int)(t:Tk):∀(m:Nat) (a:Nat),a<L.length→1≤a→lamsG L m [(t.text,w)] d a=.out∨∃(R:List Tk) (b k:Nat),k<m∧a≤b∧b<L.length∧([t]++R).length≤b∧lamsG L m [(t.text,w)] d a=tailG L k (namL w ([t]++R)) d b∧
  ev (q45ab0a [t.cells] (iv w) (tks L) (iv a) (iv d))=some (match R with|[]=>0|_::_=>1,tks L::iv b::iv d::(zE++[.rows (([t]++R).map Tk.cells),iv w])):=by
 intro m a ha hl
 cases m with
 |zero=>exact .inl (by rw[lamsG];rfl)
 |succ m=>
  rw[lamsG.eq_2]
  unfold kindG
  by_cases k1:(tkAt L a).kind=1
  ·have hb:=hW.fin a (by omega)
   have e1:(if(tkAt L a).kind=1 then(nextG L fun t2=>upG (lamsG L m ([(t.text,w)]++[(t2.text,t2.at_)]))) d a else tailG L m (namL w [t]) d a)=lamsG L m (namL w ([t]++[tkAt L a])) d (a+1):=by rw[if_pos k1];rfl
   have e2:=lams_run hW w d m ([t]++[tkAt L a]) (a+1) (by simp) hb (by simp;omega)
   rcases e2 with e2|⟨R,b,k,c1,c2,c3,c4,c5,c6⟩
   ·exact .inl (e1.trans e2)
   ·refine .inr ⟨tkAt L a::R,b,k,by omega,by omega,c3,by simpa using c4,(e1.trans c5).trans (by simp),Evl.of ?_⟩
    rw[h45ab0a,g45ab0a]
    have hap:=fun k'=>appK_tks (k:=k') [t] (tkAt L a) (by simp)
    simp[-Int.natCast_add,p_next ha,Tk.cells,k1,p_any hW ha]
    simp[-Int.natCast_add,Tk.cells,k1] at hap c6
    simp[-Int.natCast_add,hap,c6]
  ·exact .inr ⟨[],a,m,by omega,Nat.le_refl _,ha,by simpa using hl,by rw[if_neg k1,List.append_nil];rfl,Evl.of (by
    rw[h45ab0a,g45ab0a]
    simp[p_next ha,Tk.cells,k1])⟩
omit hW in
theorem lam_end(w:Int)(t:Tk)(R:List Tk)(hN:(t::R).length≤2000000)(e:Ex):∃(x':Ex) (nm':ByteArray) (K':List (List PV)) (p':Int),exM 6 nm' 0 [x'] w=wrapE (namL w (t::R)) e∧Raw 11 K' [x'.cells]∧
  ev (q45ab2a (iv (R.length:Int)) ((t::R).map Tk.cells) (iv w) (iv e.kind) (sv e.name) (iv e.n) (iv e.t.kind) (sv e.t.name) (iv e.t.n) (tys e.t.kids) (exs e.kids) (als e.alts) (bds e.binds) (iv e.at_))=some (1,iv 6::sv nm'::iv 0::iv 0::sv eB::iv 0::nS :: .rows K'::nS::nS::iv p'::(zE++[iv w,.rows ((t::R).map Tk.cells)])):=by
 have hj:R.length<(t::R).length:=by simp
 obtain⟨x',nm',K',p',e1,e2,e3⟩:=lam_back (t::R) w hN R.length e (opAt (t::R) R.length).text [exC e] (opAt (t::R) R.length).at_ (by omega) (.one (by rw[Ex.cells_eq];simp) rfl (by simp))
 refine⟨x',nm',K',p',?_,e2,Evl.of ?_⟩
 ·have h1:lamW (t::R) (R.length+1) e=exM 6 nm' 0 [x'] p':=by rw[lamW,e1]
  rw[lamW_eq _ _ _ (by simp),show R.length+1=(t::R).length by simp,List.take_length] at h1
  have h2:lamF (t::R) e=exM 6 t.text 0 [lamF R e] t.at_:=rfl
  rw[h2] at h1
  rw[wrapE_nam]
  simp only[exM,Ex.mk.injEq,List.cons.injEq] at h1 ⊢
  obtain⟨_,hn,_,_,⟨hx,_⟩,_⟩:=h1
  simp[hn,hx]
 ·rw[h45ab2a,g45ab2a]
  have hx:∀(d:Res) (k:AV→Res),idxK Tryd.prog d 76 (.pv (.rows ((t::R).map Tk.cells))) (.pv (.lit (.int .i64 (R.length:Int)))) k=k (.cptr [iv (opAt (t::R) R.length).kind,sv (opAt (t::R) R.length).text,iv (opAt (t::R) R.length).n,iv (opAt (t::R) R.length).at_]):=fun d k=>idxK_tks (opAt_get2 hj)
  have hw:IntKind.i64.wrap ((R.length:Int)-1)=(R.length:Int)-1:=wrap_id (by simp at hN;omega)
  generalize hG:(t::R).map Tk.cells=G at *
  simp[hx,hw]
  simp[e3]
theorem s_lambda{n:Nat}(ihE:∀m,m≤n→Pa L (pEx L) exC (expG L m))(w:Int)(a:Nat)(d:Int)(h0:0≤d)(h1:d≤300)(ha:a<L.length):PE_ L (pLa L w a d) (lambdaG L (n+1) w d a) (okS L a d 0 exC) (erS L 1):=by
 refine .weak (h45aw ev _ _ _ _) (.of ?_)
 rw[lambdaG.eq_2,h45a,g45a]
 refine .takeK (by decide) (fun k1=>?_) (fun k1=>?_)
 ·have hl:=hW.fin a (by omega)
  simp[-Int.natCast_add,p_kind hW ha,k1,Tk.cells]
  generalize ht:tkAt L a=t at *
  rcases lamA_run hW w d t n (a+1) hl (by omega) with e0|⟨R,b,k,c1,c2,c3,c4,c5,c6⟩
  ·rw[e0];trivial
  ·rw[c5]
   unfold tailG
   have hlen:([t]++R).length≤2000000:=by have:=hW.len;omega
   simp only[Tk.cells,k1] at c6
   refine .take (by decide) (fun hc=>?_) (fun hc=>?_)
   ·have hl3:=isT_fin hW hc
    refine .callW (ihE k (by omega) (b+1) d h0 h1 hl3) (fun v b2 hb2 hab2 g2=>?_) (fun e x b2 d' g2=>?_)
    ·obtain⟨x',nm',K',p',z1,z2,z3⟩:=lam_end w t R hlen v
     refine .pure hb2 ?_ (.of (m:=[0,0,0,0,0,0,0,0,0,0,0,0,0,0,0,0,1]) (k:=4) (ys:=[iv 6,sv nm',iv 0,iv 0,sv eB,iv 0,nS,.rows K',nS,nS,iv w]) (by omega) rfl (by rw[show wrapE (namL w ([t]++R)) v=exM 6 nm' 0 [x'] w from z1.symm];simp[z2.wd,exs]))
     cases R with
     |nil=>
      simp[-Int.natCast_add,Tk.cells,k1] at c6 z3
      simp[-Int.natCast_add,c6,p_want hW c3,hc,Tk.cells]
      simp[-Int.natCast_add,g2]
      simp[z3]
     |cons t2 R=>
      simp only[List.singleton_append] at c6
      have hx:∀(d:Res) (k:AV→Res),lenK Tryd.prog d 76 (.pv (.rows ((t::t2::R).map Tk.cells))) k=k (.pv (iv ((t::t2::R).length:Int))):=fun d k=>lenK_tks _
      have hw:IntKind.i64.wrap (((t::t2::R).length:Int)-1)=((t2::R).length:Int):=by rw[wrap_id (by simp at hlen ⊢;omega)];simp
      generalize hG:(t::t2::R).map Tk.cells=G at *
      generalize hn1:((t::t2::R).length:Int)=n1 at *
      generalize hn2:((t2::R).length:Int)=n2 at *
      simp[-Int.natCast_add,c6,p_want hW c3,hc,Tk.cells]
      simp[-Int.natCast_add,g2]
      simp[hx,hw]
      simp[z3]
    ·refine⟨_,?_,.of (m:=[0,0,0,0,0,0,0,0,0,0,0,0,0,0,0,0,1]) (b:=b2) (d:=d') (k:=16) rfl⟩
     cases R with
     |nil=>
      simp[-Int.natCast_add,Tk.cells,k1] at c6
      simp[-Int.natCast_add,c6,p_want hW c3,hc,Tk.cells]
      simp[-Int.natCast_add,g2]
     |cons t2 R=>
      simp only[List.singleton_append] at c6
      generalize hG:(t::t2::R).map Tk.cells=G at *
      simp[-Int.natCast_add,c6,p_want hW c3,hc,Tk.cells]
      simp[-Int.natCast_add,g2]
   ·refine⟨_,?_,.of (m:=[0,0,0,0,0,0,0,0,0,0,0,0,0,0,0,0,1]) (b:=b) (d:=d) (k:=16) rfl⟩
    cases R with
    |nil=>
     simp[-Int.natCast_add,Tk.cells,k1] at c6
     simp[-Int.natCast_add,c6,p_want hW c3,hc,Tk.cells]
    |cons t2 R=>
     simp only[List.singleton_append] at c6
     generalize hG:(t::t2::R).map Tk.cells=G at *
     simp[-Int.natCast_add,c6,p_want hW c3,hc,Tk.cells]
 ·exact⟨_,by simp[p_kind hW ha,k1],.of (m:=[0,0,0,0,0,0,0,0,0,0,0,0,0,0,0,0,1]) (b:=a) (d:=d) (k:=16) rfl⟩
end
set_option maxRecDepth 10000
abbrev pLt(L:List Tk)(a:Nat)(d:Int):Q:=q46aw (tks L) (iv a) (iv d)
abbrev pOp(L:List Tk)(a:Nat)(d:Int):Q:=q24aw (tks L) (iv a) (iv d)
section
variable{L:List Tk}(hW:WfL L)
include hW
theorem s_bds{n:Nat}(ihE:∀m,m≤n→Pa L (pEx L) exC (expG L m)):∀m,m≤n+1→Pa L (pBd L) bdC (bdG L m)
 |0,_=>fun a d _ _ _=>by rw[bdG];trivial
 |m+1,hm=>s_bind hW (ihE m (by omega))
theorem s_ands1{n:Nat}(ihB:∀m,m≤n→Pa L (pBd L) bdC (bdG L m))(w:Int):∀(m:Nat),m≤n→∀(l:List Bd) (a:Nat) (d:Int),0≤d→d≤300→a<L.length→l.length≤a→PE_ L (q46ab0c (tks L) (iv a) (iv d) (l.map Bd.cells) (iv w)) (andsG L m l d a)
  (fun v b z=>a≤b∧z=(3,ps L b d (iv 7::sv eB::iv 1::iv 0::sv eB::iv 0::nS::nS::nS::bds v::iv w::zE)))
  (fun e x z=>∃(b:Nat) (d':Int) (T:PV),z=(2,ps L b d' (iv 7::sv eB::iv 1::iv 0::sv eB::iv 0::nS::nS::nS::T::iv w::(zE++[iv e,iv x])))):=by
 intro m hm
 induction m with
 |zero=>intro l a d h0 h1 ha hl;rw[andsG];trivial
 |succ m ih=>
  intro l a d h0 h1 ha hl
  refine .of ?_
  rw[andsG.eq_2,h46ab0c,g46ab0c]
  simp[p_skip hW ha]
  refine .may (fun hs=>?_) (fun hs=>?_)
  ·have hl3:=isT_fin hW hs
   simp[-Int.natCast_add,hs]
   refine .callW (ihB m (by omega) (a+1) d h0 h1 hl3) (fun v b hb hab g=>?_) (fun e x b d' g=>?_)
   ·have hap:=fun k'=>appK_raw (P:=PG) (d:=.fail) (k:=k') slBd (raw_bds l) (c:=bdC v) rfl (by simp) (by have:=hW.len;simp;omega) (by decide)
    have hml:(l++[v]).map Bd.cells=l.map Bd.cells++[bdC v]:=by rw[List.map_append,List.map_cons,List.map_nil,Bd.cells_eq]
    simp[-Int.natCast_add,g]
    simp[hap]
    have hn:=ih (by omega) (l++[v]) b d h0 h1 hb (by simp;omega)
    rw[hml] at hn
    cases hr:andsG L m (l++[v]) d b with
    |out=>trivial
    |err e x=>rw[hr] at hn;obtain⟨z,g1,b3,d',T,rfl⟩:=hn;exact⟨_,by simp[g1],b3,d',T,rfl⟩
    |ok v2 b3=>rw[hr] at hn;obtain⟨hb3,z,g1,h5,rfl⟩:=hn;exact⟨hb3,_,by simp[g1],by omega,rfl⟩
   ·exact⟨_,by simp[-Int.natCast_add,g],b,d',.rows (l.map Bd.cells),rfl⟩
  ·exact .pure ha (by simp[hs,bds]) ⟨Nat.le_refl _,rfl⟩
theorem s_andsA1{n:Nat}(ihB:∀m,m≤n→Pa L (pBd L) bdC (bdG L m))(w:Int)(m:Nat)(hm:m≤n)(v0:Bd)(a:Nat)(d:Int)(h0:0≤d)(h1:d≤300)(ha:a<L.length):PE_ L (q46ab0a (tks L) (iv a) (iv d) [bdC v0] (iv w)) (andsG L m [v0] d a)
  (fun v b z=>a≤b∧(v=[v0]∧z=(1,ps L b d (iv 7::sv eB::iv 1::iv 0::sv eB::iv 0::nS::nS::nS :: .rows [bdC v0]::iv w::zE))∨z=(3,ps L b d (iv 7::sv eB::iv 1::iv 0::sv eB::iv 0::nS::nS::nS::bds v::iv w::zE))))
  (fun e x z=>∃(b:Nat) (d':Int),z=(0,ps L b d' (iv 7::sv eB::iv 1::iv 0::sv eB::iv 0::nS::nS::nS :: .rows [bdC v0]::iv w::(zE++[iv e,iv x])))∨∃(T:PV),z=(2,ps L b d' (iv 7::sv eB::iv 1::iv 0::sv eB::iv 0::nS::nS::nS::T::iv w::(zE++[iv e,iv x])))):=by
 cases m with
 |zero=>rw[andsG];trivial
 |succ m=>
  refine .of ?_
  rw[andsG.eq_2,h46ab0a,g46ab0a]
  simp[p_skip hW ha]
  refine .may (fun hs=>?_) (fun hs=>?_)
  ·have hl3:=isT_fin hW hs
   simp[-Int.natCast_add,hs]
   refine .callW (ihB m (by omega) (a+1) d h0 h1 hl3) (fun v b hb hab g=>?_) (fun e x b d' g=>?_)
   ·have hr:Raw 13 [bdC v0] ([v0].map Bd.cells):=.one (by rw[Bd.cells_eq];simp) rfl (by simp)
    have hap:=fun k'=>appK_raw (P:=PG) (d:=.fail) (k:=k') slBd hr (c:=bdC v) rfl (by simp) (by simp) (by decide)
    have hml:[v0,v].map Bd.cells=[bdC v0,bdC v]:=by rw[List.map_cons,List.map_cons,List.map_nil,Bd.cells_eq,Bd.cells_eq]
    simp[-Int.natCast_add,g]
    simp at hap
    simp[hap]
    have hn:=s_ands1 hW ihB w m (by omega) [v0,v] b d h0 h1 hb (by simp;omega)
    rw[hml] at hn
    cases hr:andsG L m [v0,v] d b with
    |out=>trivial
    |err e x=>rw[hr] at hn;obtain⟨z,g1,b3,d',T,rfl⟩:=hn;exact⟨_,by simp[g1],b3,d',.inr ⟨T,rfl⟩⟩
    |ok v2 b3=>rw[hr] at hn;obtain⟨hb3,z,g1,h5,rfl⟩:=hn;exact⟨hb3,_,by simp[g1],by omega,.inr rfl⟩
   ·exact⟨_,by simp[-Int.natCast_add,g],b,d',.inl rfl⟩
  ·exact .pure ha (by simp[hs]) ⟨Nat.le_refl _,.inl ⟨rfl,rfl⟩⟩
theorem s_ands0{n:Nat}(ihB:∀m,m≤n→Pa L (pBd L) bdC (bdG L m))(w:Int):∀(m:Nat),m≤n→∀(l:List Bd) (a:Nat) (d:Int),0≤d→d≤300→a<L.length→l.length≤a→PE_ L (q46ab0d (tks L) (iv a) (iv d) (l.map Bd.cells) (iv w)) (andsG L m l d a)
  (fun v b z=>a≤b∧z=(3,ps L b d (iv 7::sv eB::iv 0::iv 0::sv eB::iv 0::nS::nS::nS::bds v::iv w::zE)))
  (fun e x z=>∃(b:Nat) (d':Int) (T:PV),z=(2,ps L b d' (iv 7::sv eB::iv 0::iv 0::sv eB::iv 0::nS::nS::nS::T::iv w::(zE++[iv e,iv x])))):=by
 intro m hm
 induction m with
 |zero=>intro l a d h0 h1 ha hl;rw[andsG];trivial
 |succ m ih=>
  intro l a d h0 h1 ha hl
  refine .of ?_
  rw[andsG.eq_2,h46ab0d,g46ab0d]
  simp[p_skip hW ha]
  refine .may (fun hs=>?_) (fun hs=>?_)
  ·have hl3:=isT_fin hW hs
   simp[-Int.natCast_add,hs]
   refine .callW (ihB m (by omega) (a+1) d h0 h1 hl3) (fun v b hb hab g=>?_) (fun e x b d' g=>?_)
   ·have hap:=fun k'=>appK_raw (P:=PG) (d:=.fail) (k:=k') slBd (raw_bds l) (c:=bdC v) rfl (by simp) (by have:=hW.len;simp;omega) (by decide)
    have hml:(l++[v]).map Bd.cells=l.map Bd.cells++[bdC v]:=by rw[List.map_append,List.map_cons,List.map_nil,Bd.cells_eq]
    simp[-Int.natCast_add,g]
    simp[hap]
    have hn:=ih (by omega) (l++[v]) b d h0 h1 hb (by simp;omega)
    rw[hml] at hn
    cases hr:andsG L m (l++[v]) d b with
    |out=>trivial
    |err e x=>rw[hr] at hn;obtain⟨z,g1,b3,d',T,rfl⟩:=hn;exact⟨_,by simp[g1],b3,d',T,rfl⟩
    |ok v2 b3=>rw[hr] at hn;obtain⟨hb3,z,g1,h5,rfl⟩:=hn;exact⟨hb3,_,by simp[g1],by omega,rfl⟩
   ·exact⟨_,by simp[-Int.natCast_add,g],b,d',.rows (l.map Bd.cells),rfl⟩
  ·exact .pure ha (by simp[hs,bds]) ⟨Nat.le_refl _,rfl⟩
theorem s_andsA0{n:Nat}(ihB:∀m,m≤n→Pa L (pBd L) bdC (bdG L m))(w:Int)(m:Nat)(hm:m≤n)(v0:Bd)(a:Nat)(d:Int)(h0:0≤d)(h1:d≤300)(ha:a<L.length):PE_ L (q46ab0b (tks L) (iv a) (iv d) [bdC v0] (iv w)) (andsG L m [v0] d a)
  (fun v b z=>a≤b∧(v=[v0]∧z=(1,ps L b d (iv 7::sv eB::iv 0::iv 0::sv eB::iv 0::nS::nS::nS :: .rows [bdC v0]::iv w::zE))∨z=(3,ps L b d (iv 7::sv eB::iv 0::iv 0::sv eB::iv 0::nS::nS::nS::bds v::iv w::zE))))
  (fun e x z=>∃(b:Nat) (d':Int),z=(0,ps L b d' (iv 7::sv eB::iv 0::iv 0::sv eB::iv 0::nS::nS::nS :: .rows [bdC v0]::iv w::(zE++[iv e,iv x])))∨∃(T:PV),z=(2,ps L b d' (iv 7::sv eB::iv 0::iv 0::sv eB::iv 0::nS::nS::nS::T::iv w::(zE++[iv e,iv x])))):=by
 cases m with
 |zero=>rw[andsG];trivial
 |succ m=>
  refine .of ?_
  rw[andsG.eq_2,h46ab0b,g46ab0b]
  simp[p_skip hW ha]
  refine .may (fun hs=>?_) (fun hs=>?_)
  ·have hl3:=isT_fin hW hs
   simp[-Int.natCast_add,hs]
   refine .callW (ihB m (by omega) (a+1) d h0 h1 hl3) (fun v b hb hab g=>?_) (fun e x b d' g=>?_)
   ·have hr:Raw 13 [bdC v0] ([v0].map Bd.cells):=.one (by rw[Bd.cells_eq];simp) rfl (by simp)
    have hap:=fun k'=>appK_raw (P:=PG) (d:=.fail) (k:=k') slBd hr (c:=bdC v) rfl (by simp) (by simp) (by decide)
    have hml:[v0,v].map Bd.cells=[bdC v0,bdC v]:=by rw[List.map_cons,List.map_cons,List.map_nil,Bd.cells_eq,Bd.cells_eq]
    simp[-Int.natCast_add,g]
    simp at hap
    simp[hap]
    have hn:=s_ands0 hW ihB w m (by omega) [v0,v] b d h0 h1 hb (by simp;omega)
    rw[hml] at hn
    cases hr:andsG L m [v0,v] d b with
    |out=>trivial
    |err e x=>rw[hr] at hn;obtain⟨z,g1,b3,d',T,rfl⟩:=hn;exact⟨_,by simp[g1],b3,d',.inr ⟨T,rfl⟩⟩
    |ok v2 b3=>rw[hr] at hn;obtain⟨hb3,z,g1,h5,rfl⟩:=hn;exact⟨hb3,_,by simp[g1],by omega,.inr rfl⟩
   ·exact⟨_,by simp[-Int.natCast_add,g],b,d',.inl rfl⟩
  ·exact .pure ha (by simp[hs]) ⟨Nat.le_refl _,.inl ⟨rfl,rfl⟩⟩
theorem s_let{n:Nat}(ihE:∀m,m≤n→Pa L (pEx L) exC (expG L m))(a:Nat)(d:Int)(h0:0≤d)(h1:d≤300)(ha:a<L.length)(hl:isT L sLet a=true):PE_ L (pLt L a d) (mayG L sRec (letG L (n+1) 1 (tkAt L a).at_) (letG L (n+1) 0 (tkAt L a).at_) d (a+1)) (okS L a d 0 exC) (erS L 1):=by
 have ihB:=s_bds hW ihE
 refine .weak (h46aw ev _ _ _) (.of ?_)
 have hl1:=isT_fin hW hl
 rw[letG.eq_2,letG.eq_2,h46a,g46a]
 simp[-Int.natCast_add,p_any hW ha,Tk.cells]
 simp[-Int.natCast_add,p_skip hW hl1]
 refine .may (fun hr=>?_) (fun hr=>?_)
 ·have hl2:=isT_fin hW hr
  simp[-Int.natCast_add,hr]
  refine .callW (ihB n (by omega) (a+1+1) d h0 h1 hl2) (fun v b hb hab g=>?_) (fun e x b d' g=>?_)
  ·simp[-Int.natCast_add,g]
   refine .bind (s_andsA1 hW ihB (tkAt L a).at_ n (by omega) v b d h0 h1 hb) (fun l b2 z hb2 g2 hz=>?_) (fun e x z g2 hz=>?_)
   ·obtain⟨hab2,hz⟩:=hz
    rcases hz with⟨rfl,rfl⟩|rfl
    ·simp[g2]
     refine .take (by decide) (fun hi=>?_) (fun hi=>?_)
     ·have hl3:=isT_fin hW hi
      simp[-Int.natCast_add,p_want hW hb2,hi,Tk.cells]
      refine .callW (ihE n (by omega) (b2+1) d h0 h1 hl3) (fun e b3 hb3 hab3 g3=>?_) (fun e x b3 d' g3=>?_)
      ·exact .pure hb3 (by simp[-Int.natCast_add,g3]) (.of (m:=[0,1]) (k:=0) (ys:=[iv 7,sv eB,iv 1,iv 0,sv eB,iv 0,nS,.rows [exC e],nS,.rows [bdC v],iv (tkAt L a).at_]) (by omega) rfl (by simp[wdP_rows,wdss1,exs_one,bds_one]))
      ·exact⟨_,by simp[-Int.natCast_add,g3],.of (m:=[0,1]) (b:=b3) (d:=d') (k:=1) rfl⟩
     ·exact⟨_,by simp[p_want hW hb2,hi],.of (m:=[0,1]) (b:=b2) (d:=d) (k:=1) rfl⟩
    ·simp[g2]
     refine .take (by decide) (fun hi=>?_) (fun hi=>?_)
     ·have hl3:=isT_fin hW hi
      simp[-Int.natCast_add,p_want hW hb2,hi,Tk.cells]
      refine .callW (ihE n (by omega) (b2+1) d h0 h1 hl3) (fun e b3 hb3 hab3 g3=>?_) (fun e x b3 d' g3=>?_)
      ·exact .pure hb3 (by simp[-Int.natCast_add,g3]) (.of (m:=[0,1]) (k:=0) (ys:=[iv 7,sv eB,iv 1,iv 0,sv eB,iv 0,nS,.rows [exC e],nS,bds l,iv (tkAt L a).at_]) (by omega) rfl (by simp[wdP_rows,wdss1,exs_one]))
      ·exact⟨_,by simp[-Int.natCast_add,g3],.of (m:=[0,1]) (b:=b3) (d:=d') (k:=1) rfl⟩
     ·exact⟨_,by simp[p_want hW hb2,hi],.of (m:=[0,1]) (b:=b2) (d:=d) (k:=1) rfl⟩
   ·obtain⟨b2,d',rfl|⟨T,rfl⟩⟩:=hz
    ·exact⟨_,by simp[g2],.of (m:=[0,1]) (b:=b2) (d:=d') (k:=1) rfl⟩
    ·exact⟨_,by simp[g2],.of (m:=[0,1]) (b:=b2) (d:=d') (k:=1) rfl⟩
  ·exact⟨_,by simp[-Int.natCast_add,g],.of (m:=[0,1]) (b:=b) (d:=d') (k:=1) rfl⟩
 ·have hl2:=hl1
  simp[-Int.natCast_add,hr]
  refine .callW (ihB n (by omega) (a+1) d h0 h1 hl2) (fun v b hb hab g=>?_) (fun e x b d' g=>?_)
  ·simp[-Int.natCast_add,g]
   refine .bind (s_andsA0 hW ihB (tkAt L a).at_ n (by omega) v b d h0 h1 hb) (fun l b2 z hb2 g2 hz=>?_) (fun e x z g2 hz=>?_)
   ·obtain⟨hab2,hz⟩:=hz
    rcases hz with⟨rfl,rfl⟩|rfl
    ·simp[g2]
     refine .take (by decide) (fun hi=>?_) (fun hi=>?_)
     ·have hl3:=isT_fin hW hi
      simp[-Int.natCast_add,p_want hW hb2,hi,Tk.cells]
      refine .callW (ihE n (by omega) (b2+1) d h0 h1 hl3) (fun e b3 hb3 hab3 g3=>?_) (fun e x b3 d' g3=>?_)
      ·exact .pure hb3 (by simp[-Int.natCast_add,g3]) (.of (m:=[0,1]) (k:=0) (ys:=[iv 7,sv eB,iv 0,iv 0,sv eB,iv 0,nS,.rows [exC e],nS,.rows [bdC v],iv (tkAt L a).at_]) (by omega) rfl (by simp[wdP_rows,wdss1,exs_one,bds_one]))
      ·exact⟨_,by simp[-Int.natCast_add,g3],.of (m:=[0,1]) (b:=b3) (d:=d') (k:=1) rfl⟩
     ·exact⟨_,by simp[p_want hW hb2,hi],.of (m:=[0,1]) (b:=b2) (d:=d) (k:=1) rfl⟩
    ·simp[g2]
     refine .take (by decide) (fun hi=>?_) (fun hi=>?_)
     ·have hl3:=isT_fin hW hi
      simp[-Int.natCast_add,p_want hW hb2,hi,Tk.cells]
      refine .callW (ihE n (by omega) (b2+1) d h0 h1 hl3) (fun e b3 hb3 hab3 g3=>?_) (fun e x b3 d' g3=>?_)
      ·exact .pure hb3 (by simp[-Int.natCast_add,g3]) (.of (m:=[0,1]) (k:=0) (ys:=[iv 7,sv eB,iv 0,iv 0,sv eB,iv 0,nS,.rows [exC e],nS,bds l,iv (tkAt L a).at_]) (by omega) rfl (by simp[wdP_rows,wdss1,exs_one]))
      ·exact⟨_,by simp[-Int.natCast_add,g3],.of (m:=[0,1]) (b:=b3) (d:=d') (k:=1) rfl⟩
     ·exact⟨_,by simp[p_want hW hb2,hi],.of (m:=[0,1]) (b:=b2) (d:=d) (k:=1) rfl⟩
   ·obtain⟨b2,d',rfl|⟨T,rfl⟩⟩:=hz
    ·exact⟨_,by simp[g2],.of (m:=[0,1]) (b:=b2) (d:=d') (k:=1) rfl⟩
    ·exact⟨_,by simp[g2],.of (m:=[0,1]) (b:=b2) (d:=d') (k:=1) rfl⟩
  ·exact⟨_,by simp[-Int.natCast_add,g],.of (m:=[0,1]) (b:=b) (d:=d') (k:=1) rfl⟩
end
set_option maxRecDepth 10000
def okAps(L:List Tk)(t:Tk)(a:Nat)(d:Int)(v:Ex)(b:Nat)(z:Rs):Prop:=a≤b∧∃(ks':List Ex) (B':List (List PV)),v=exM 5 eB 0 ks' t.at_∧Raw 11 B' (ks'.map Ex.cells)∧z=(3,ps L b d (iv 5::sv eB::iv 0::iv 0::sv eB::iv 0::nS :: .rows B'::nS::nS::iv t.at_::iv t.kind::sv t.text::iv t.n::iv t.at_::zE))
def okApA(L:List Tk)(t:Tk)(v0:Ex)(a:Nat)(d:Int)(v:Ex)(b:Nat)(z:Rs):Prop:=a≤b∧(v=v0∧z=(1,ps L b d (exC v0++iv t.kind::sv t.text::iv t.n::iv t.at_::zE))∨okAps L t a d v b z)
section
variable{L:List Tk}(hW:WfL L)
include hW
theorem s_apps{n:Nat}(ihA:∀m,m≤n→Pa L (pAm L) exC (atomG L m))(t:Tk):∀(m:Nat),m≤n→∀(ks:List Ex) (B:List (List PV)) (a:Nat) (d:Int),Raw 11 B (ks.map Ex.cells)→0≤d→d≤300→a<L.length→PE_ L (q24ab1b (tks L) (iv a) (iv d) B (iv t.at_) (iv t.kind) (sv t.text) (iv t.n) (iv t.at_)) (appsG L m t.at_ (exM 5 eB 0 ks t.at_) d a)
  (okAps L t a d)
  (fun e x z=>∃(b:Nat) (d':Int) (T:PV),z=(2,ps L b d' (iv 5::sv eB::iv 0::iv 0::sv eB::iv 0::nS::T::nS::nS::iv t.at_::iv t.kind::sv t.text::iv t.n::iv t.at_::(zE++[iv e,iv x])))):=by
 intro m hm
 induction m with
 |zero=>intro ks B a d hr h0 h1 ha;rw[appsG];trivial
 |succ m ih=>
  intro ks B a d hr h0 h1 ha
  refine .of ?_
  rw[appsG.eq_2,h24ab1b,g24ab1b]
  simp[p_atoms hW ha]
  refine .st (fun hs=>?_) (fun hs=>?_)
  ·simp[hs]
   refine .callW (ihA m (by omega) a d h0 h1 ha) (fun v b hb hab g=>?_) (fun e x b d' g=>?_)
   ·simp[g]
    have hr2:Raw 11 [[iv 5,sv eB,iv 0,iv 0,sv eB,iv 0,nS,.rows B,nS,nS,iv t.at_],exC v] ([exM 5 eB 0 ks t.at_,v].map Ex.cells):=ExW.raw 5 eB 0 ks t.at_ _ (.inr ⟨B,rfl,hr⟩) (.plain v)
    have hn:=ih (by omega) [exM 5 eB 0 ks t.at_,v] _ b d hr2 h0 h1 hb
    cases hr:appsG L m t.at_ (exM 5 eB 0 [exM 5 eB 0 ks t.at_,v] t.at_) d b with
    |out=>trivial
    |err e x=>rw[hr] at hn;obtain⟨z,g1,b3,d',T,rfl⟩:=hn;exact⟨_,by simp[g1],b3,d',T,rfl⟩
    |ok v2 b3=>rw[hr] at hn;obtain⟨hb3,z,g1,h5,ks',B',h6,h7,rfl⟩:=hn;exact⟨hb3,_,by simp[g1],by omega,ks',B',h6,h7,rfl⟩
   ·exact⟨_,by simp[g],b,d',.rows B,rfl⟩
  ·exact .pure ha (by simp[hs]) ⟨Nat.le_refl _,ks,B,rfl,hr,rfl⟩
theorem s_appsA{n:Nat}(ihA:∀m,m≤n→Pa L (pAm L) exC (atomG L m))(t:Tk)(m:Nat)(hm:m≤n)(v0:Ex)(a:Nat)(d:Int)(h0:0≤d)(h1:d≤300)(ha:a<L.length):PE_ L (q24ab1a (tks L) (iv a) (iv d) (iv v0.kind) (sv v0.name) (iv v0.n) (iv v0.t.kind) (sv v0.t.name) (iv v0.t.n) (tys v0.t.kids) (exs v0.kids) (als v0.alts) (bds v0.binds) (iv v0.at_) (iv t.kind) (sv t.text) (iv t.n) (iv t.at_)) (appsG L m t.at_ v0 d a)
  (okApA L t v0 a d)
  (fun e x z=>∃(b:Nat) (d':Int),z=(0,ps L b d' (exC v0++iv t.kind::sv t.text::iv t.n::iv t.at_::(zE++[iv e,iv x])))∨∃(T:PV),z=(2,ps L b d' (iv 5::sv eB::iv 0::iv 0::sv eB::iv 0::nS::T::nS::nS::iv t.at_::iv t.kind::sv t.text::iv t.n::iv t.at_::(zE++[iv e,iv x])))):=by
 cases m with
 |zero=>rw[appsG];trivial
 |succ m=>
  refine .of ?_
  rw[appsG.eq_2,h24ab1a,g24ab1a]
  simp[p_atoms hW ha]
  refine .st (fun hs=>?_) (fun hs=>?_)
  ·simp[hs]
   refine .callW (ihA m (by omega) a d h0 h1 ha) (fun v b hb hab g=>?_) (fun e x b d' g=>?_)
   ·simp[g]
    have hn:=s_apps hW ihA t m (by omega) [v0,v] _ b d (ExW.two (.plain v0) (.plain v)) h0 h1 hb
    cases hr:appsG L m t.at_ (exM 5 eB 0 [v0,v] t.at_) d b with
    |out=>trivial
    |err e x=>rw[hr] at hn;obtain⟨z,g1,b3,d',T,rfl⟩:=hn;exact⟨_,by simp[g1],b3,d',.inr ⟨T,rfl⟩⟩
    |ok v2 b3=>rw[hr] at hn;obtain⟨hb3,z,g1,h5,ks',B',h6,h7,rfl⟩:=hn;exact⟨hb3,_,by simp[g1],by omega,.inr ⟨by omega,ks',B',h6,h7,rfl⟩⟩
   ·exact⟨_,by simp[g],b,d',.inl rfl⟩
  ·exact .pure ha (by simp[hs]) ⟨Nat.le_refl _,.inl ⟨rfl,rfl⟩⟩
theorem s_operand{n:Nat}(ihE:∀m,m≤n→Pa L (pEx L) exC (expG L m))(ihA:∀m,m≤n→Pa L (pAm L) exC (atomG L m))(hLa:∀m,m≤n→∀(w:Int) (a:Nat) (d:Int),0≤d→d≤300→a<L.length→PE_ L (pLa L w a d) (lambdaG L m w d a) (okS L a d 0 exC) (erS L 1))
  (hLt:∀m,m≤n→∀(a:Nat) (d:Int),0≤d→d≤300→a<L.length→isT L sLet a=true→PE_ L (pLt L a d) (mayG L sRec (letG L m 1 (tkAt L a).at_) (letG L m 0 (tkAt L a).at_) d (a+1)) (okS L a d 0 exC) (erS L 1)):Pa L (pOp L) exC (operandG L (n+1)):=by
 intro a d h0 h1 ha
 refine .weak (h24aw ev _ _ _) (.of ?_)
 rw[operandG.eq_2,h24a,g24a]
 simp[p_next ha,Tk.cells]
 simp[p_is hW ha]
 have hw:=hW.w1 ha
 refine .next (.may (fun hb=>?_) (fun hb=>.may (fun hl=>?_) (fun hl=>.may (fun hi=>?_) (fun hi=>?_))))
 ·have hl1:=isT_fin hW hb
  simp[-Int.natCast_add,hb,hw]
  have hn:=hLa n (Nat.le_refl _) (tkAt L a).at_ (a+1) d h0 h1 hl1
  cases hr:lambdaG L n (tkAt L a).at_ d (a+1) with
  |out=>trivial
  |err e x=>rw[hr] at hn;obtain⟨z,g,b,d',rfl⟩:=hn;exact⟨_,by simp[-Int.natCast_add,g],.of (m:=[0,1,0,0,0,0,0,0,0,0,0,0,0,0,0,0,0]) (b:=b) (d:=d') (k:=1) rfl⟩
  |ok v b=>rw[hr] at hn;obtain⟨hb,z,g,hab,rfl⟩:=hn;exact⟨hb,_,by simp[-Int.natCast_add,g],.of (m:=[0,1,0,0,0,0,0,0,0,0,0,0,0,0,0,0,0]) (k:=0) (ys:=exC v) (by omega) rfl (by simp)⟩
 ·simp[hb,hl]
  have hn:=hLt n (Nat.le_refl _) a d h0 h1 ha hl
  cases hr:mayG L sRec (letG L n 1 (tkAt L a).at_) (letG L n 0 (tkAt L a).at_) d (a+1) with
  |out=>trivial
  |err e x=>rw[hr] at hn;obtain⟨z,g,b,d',rfl⟩:=hn;exact⟨_,by simp[g],.of (m:=[0,1,0,0,0,0,0,0,0,0,0,0,0,0,0,0,0]) (b:=b) (d:=d') (k:=1) rfl⟩
  |ok v b=>rw[hr] at hn;obtain⟨hb,z,g,hab,rfl⟩:=hn;exact⟨hb,_,by simp[g],.of (m:=[0,1,0,0,0,0,0,0,0,0,0,0,0,0,0,0,0]) (k:=0) (ys:=exC v) (by omega) rfl (by simp)⟩
 ·have hl1:=isT_fin hW hi
  simp[-Int.natCast_add,hb,hl,hi,hw]
  have hE:=ihE n (Nat.le_refl _)
  refine .callW (hE (a+1) d h0 h1 hl1) (fun v1 b1 hb1 hab1 g1=>?_) (fun e x b1 d' g1=>?_)
  ·simp[-Int.natCast_add,g1]
   refine .take (by decide) (fun hc=>?_) (fun hc=>?_)
   ·have hl2:=isT_fin hW hc
    simp[-Int.natCast_add,p_want hW hb1,hc,Tk.cells]
    refine .callW (hE (b1+1) d h0 h1 hl2) (fun v2 b2 hb2 hab2 g2=>?_) (fun e x b2 d' g2=>?_)
    ·simp[-Int.natCast_add,g2]
     refine .take (by decide) (fun hd=>?_) (fun hd=>?_)
     ·have hl3:=isT_fin hW hd
      simp[-Int.natCast_add,p_want hW hb2,hd,Tk.cells]
      refine .callW (hE (b2+1) d h0 h1 hl3) (fun v3 b3 hb3 hab3 g3=>?_) (fun e x b3 d' g3=>?_)
      ·exact .pure hb3 (by simp[-Int.natCast_add,g3]) (.of (m:=[0,1,0,0,0,0,0,0,0,0,0,0,0,0,0,0,0]) (k:=2) (ys:=[iv 9,sv eB,iv 0,iv 0,sv eB,iv 0,nS,.rows [exC v1,exC v2,exC v3],nS,nS,iv (tkAt L a).at_]) (by omega) rfl (by simp[wdP_rows,wdPss_cons,wdPss_nil,exs_three]))
      ·exact⟨_,by simp[-Int.natCast_add,g3],.of (m:=[0,1,0,0,0,0,0,0,0,0,0,0,0,0,0,0,0]) (b:=b3) (d:=d') (k:=1) rfl⟩
     ·exact⟨_,by simp[-Int.natCast_add,p_want hW hb2,hd],.of (m:=[0,1,0,0,0,0,0,0,0,0,0,0,0,0,0,0,0]) (b:=b2) (d:=d) (k:=1) rfl⟩
    ·exact⟨_,by simp[-Int.natCast_add,g2],.of (m:=[0,1,0,0,0,0,0,0,0,0,0,0,0,0,0,0,0]) (b:=b2) (d:=d') (k:=1) rfl⟩
   ·exact⟨_,by simp[-Int.natCast_add,p_want hW hb1,hc],.of (m:=[0,1,0,0,0,0,0,0,0,0,0,0,0,0,0,0,0]) (b:=b1) (d:=d) (k:=1) rfl⟩
  ·exact⟨_,by simp[-Int.natCast_add,g1],.of (m:=[0,1,0,0,0,0,0,0,0,0,0,0,0,0,0,0,0]) (b:=b1) (d:=d') (k:=1) rfl⟩
 ·simp[hb,hl,hi]
  refine .callW (ihA n (Nat.le_refl _) a d h0 h1 ha) (fun v b hb2 hab g=>?_) (fun e x b d' g=>?_)
  ·simp[g]
   have hn:=s_appsA hW ihA (tkAt L a) n (Nat.le_refl _) v b d h0 h1 hb2
   cases hr:appsG L n (tkAt L a).at_ v d b with
   |out=>trivial
   |err e x=>
    rw[hr] at hn
    obtain⟨z,g1,b3,d',rfl|⟨T,rfl⟩⟩:=hn
    ·exact⟨_,by simp[g1],.of (m:=[0,1,0,0,0,0,0,0,0,0,0,0,0,0,0,0,0]) (b:=b3) (d:=d') (k:=1) rfl⟩
    ·exact⟨_,by simp[g1],.of (m:=[0,1,0,0,0,0,0,0,0,0,0,0,0,0,0,0,0]) (b:=b3) (d:=d') (k:=1) rfl⟩
   |ok v2 b3=>
    rw[hr] at hn
    obtain⟨hb3,z,g1,h5,hz⟩:=hn
    rcases hz with⟨rfl,rfl⟩|⟨_,ks',B',rfl,h7,rfl⟩
    ·exact⟨hb3,_,by simp[g1],.of (m:=[0,1,0,0,0,0,0,0,0,0,0,0,0,0,0,0,0]) (k:=0) (ys:=exC v2) (by omega) rfl (by simp)⟩
    ·exact⟨hb3,_,by simp[g1],.of (m:=[0,1,0,0,0,0,0,0,0,0,0,0,0,0,0,0,0]) (k:=2) (ys:=[iv 5,sv eB,iv 0,iv 0,sv eB,iv 0,nS,.rows B',nS,nS,iv (tkAt L a).at_]) (by omega) rfl (by simp[h7.wd,exs])⟩
  ·exact⟨_,by simp[g],.of (m:=[0,1,0,0,0,0,0,0,0,0,0,0,0,0,0,0,0]) (b:=b) (d:=d') (k:=1) rfl⟩
end
set_option maxRecDepth 10000
theorem p_level(x:ByteArray):ev (q49 (sv x))=some (0,[iv (lvlF x:Nat),iv (sidF (lvlF x):Nat)]):=Evl.of (by
 rw[h49,g49]
 unfold lvlF
 by_cases h0:x=⟨#[58,61]⟩
 ·simp[h0,sidF]
 by_cases h1:x=⟨#[124,124]⟩
 ·simp[h1,sidF]
 by_cases h2:x=⟨#[38,38]⟩
 ·simp[h2,sidF]
 by_cases h3:x=⟨#[61,61]⟩
 ·simp[h3,sidF]
 by_cases h4:x=⟨#[47,61]⟩
 ·simp[h4,sidF]
 by_cases h5:x=⟨#[60]⟩
 ·simp[h5,sidF]
 by_cases h6:x=⟨#[60,61]⟩
 ·simp[h6,sidF]
 by_cases h7:x=⟨#[62]⟩
 ·simp[h7,sidF]
 by_cases h8:x=⟨#[62,61]⟩
 ·simp[h8,sidF]
 by_cases h9:x=⟨#[58,58]⟩
 ·simp[h9,sidF]
 by_cases h10:x=⟨#[94]⟩
 ·simp[h10,sidF]
 by_cases h11:x=⟨#[43]⟩
 ·simp[h11,sidF]
 by_cases h12:x=⟨#[45]⟩
 ·simp[h12,sidF]
 by_cases h13:x=⟨#[42]⟩
 ·simp[h13,sidF]
 by_cases h14:x=⟨#[47]⟩
 ·simp[h14,sidF]
 by_cases h15:x=⟨#[37]⟩
 ·simp[h15,sidF]
 simp[h0,h1,h2,h3,h4,h5,h6,h7,h8,h9,h10,h11,h12,h13,h14,h15,sidF])
structure ExR(e:Ex)(c:List PV):Prop where
 w:wdPs c=e.cells
 l:c.length=11
 n:NSL c
theorem ExR.two{x y:Ex}{c e:List PV}(hx:ExR x c)(hy:ExR y e):Raw 11 [c,e] ([x,y].map Ex.cells):=(Raw.one hx.w hx.l hx.n).app hy.w hy.l hy.n
theorem ExR.mk'(k:Int)(s:ByteArray)(n:Int)(ks:List Ex)(a:Int){B:List (List PV)}(hB:Raw 11 B (ks.map Ex.cells)):ExR (exM k s n ks a) [iv k,sv s,iv n,iv 0,sv eB,iv 0,nS,.rows B,nS,nS,iv a]:=
 ⟨by rw[Ex.cells_eq];simp only[wdPs_cons,wdPs_nil,wdP_int,wdP_str,wdP_nil,hB.wd];rfl,rfl,by have:=hB.ns';simp[this]⟩
theorem ExR.var(k:Int)(s:ByteArray)(n:Int)(a:Int):ExR (exM k s n [] a) [iv k,sv s,iv n,iv 0,sv eB,iv 0,nS,nS,nS,nS,iv a]:=⟨by rw[Ex.cells_eq];simp,rfl,by simp⟩
theorem ExR.plain(e:Ex):ExR e (exC e):=⟨by rw[Ex.cells_eq];simp,rfl,by simp⟩
theorem p_apply(t:Tk){x y:Ex}{x0 x1 x2 x3 x4 x5 x6 x7 x8 x9 x10 y0 y1 y2 y3 y4 y5 y6 y7 y8 y9 y10:PV}(hx:ExR x [x0,x1,x2,x3,x4,x5,x6,x7,x8,x9,x10])(hy:ExR y [y0,y1,y2,y3,y4,y5,y6,y7,y8,y9,y10]):∃zs,ev (q29 (iv t.kind) (sv t.text) (iv t.n) (iv t.at_) x0 x1 x2 x3 x4 x5 x6 x7 x8 x9 x10 y0 y1 y2 y3 y4 y5 y6 y7 y8 y9 y10)=some (0,zs)∧ExR (opE t x y) zs:=by
 unfold opE
 by_cases h1:t.text=⟨#[38,38]⟩
 ·rw[if_pos h1]
  exact⟨_,Evl.of (by rw[h29,g29];simp[h1]),.mk' 10 eB 0 [x,y] t.at_ (hx.two hy)⟩
 ·rw[if_neg h1]
  by_cases h2:t.text=⟨#[124,124]⟩
  ·rw[if_pos h2]
   exact⟨_,Evl.of (by rw[h29,g29];simp[h2]),.mk' 11 eB 0 [x,y] t.at_ (hx.two hy)⟩
  ·rw[if_neg h2]
   exact⟨_,Evl.of (by rw[h29,g29];simp[h1,h2]),.mk' 5 eB 0 _ t.at_ ((ExR.mk' 5 eB 0 _ t.at_ ((ExR.var 3 t.text 0 t.at_).two hx)).two hy)⟩
end Go.Proofs.YtfphhabaeggenaaDoor
