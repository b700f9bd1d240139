/- Joined texts. -/
import Derived.Test.YtijcobeebaceoaaGreatDoorBan
import Derived.Test.YtijcobeebaceoaaGreatDoorBaj
set_option linter.unusedVariables false
set_option linter.unusedSimpArgs false
set_option linter.unusedSectionVars false
namespace Go.Proofs.YtijcobeebaceoaaGreatDoor
open Go.RowKit
set_option maxRecDepth 10000
abbrev zE:List PV:=[iv 0,sv eB,iv 0,iv 0,sv eB,iv 0,nS,nS,nS,nS,iv 0]
section
variable{L:List Tk}(hW:Gg L)
include hW
theorem ahc{n:Nat}(ihE:∀m,m≤n→Pa L (R6 L) eH (fK L m))(KR:List (List PV))(w:Int):∀(m:Nat),m≤n→∀(l:List Al) (a:Nat) (d:Int),0≤d→d≤300→a<L.length→l.length≤a→lI L (K5 (aU L) (iv a) (iv d) KR (l.map Al.cells) (iv w)) (kK L m l d a)
  (fun v b z=>a<b∧z=(0,ps L b d (iv 8::sv eB::iv 0::iv 0::sv eB::iv 0::nS :: .rows KR::eu v::nS::iv w::zE)))
  (fun e x z=>∃(b:Nat) (d':Int) (T:PV),z=(2,ps L b d' (iv 8::sv eB::iv 0::iv 0::sv eB::iv 0::nS :: .rows KR::T::nS::iv w::(zE++[iv e,iv x])))):=by
 intro m hm
 induction m with
 |zero=>intro l a d h0 h1 ha hl;rw[kK];trivial
 |succ m ih=>
  intro l a d h0 h1 ha hl;refine .of ?_;rw[kK,aaA];refine .callW (ajL hW m a d h0 h1 ha) (fun p b hb hab g=>?_) (fun e w b d' g=>?_)
  ·simp[g]
   refine .take (by decide) (fun hc=>?_) (fun hc=>?_)
   ·have hl2:=ax hW hc
    simp[-Int.natCast_add,aF hW hb,hc,Tk.cells];refine .callW (ihE m (by omega) (b+1) d h0 h1 hl2) (fun v b2 hb2 hab2 g2=>?_) (fun e w b2 d' g2=>?_)
    ·simp[-Int.natCast_add,g2]
     have hap:=fun k'=>aH (P:=PG) (d:=.fail) (k:=k') ajJ (GQ l) (c:=alP p v) rfl (by simp) (by have:=hW.len;simp;omega) (by decide)
     have hml:(l++[Al.mk p v]).map Al.cells=l.map Al.cells++[alP p v]:=by rw[List.map_append,List.map_cons,List.map_nil,Al.cells_eq];rfl
     simp[hap];simp[bL hW hb2];refine .may (fun hs=>?_) (fun hs=>?_)
     ·have hl3:=ax hW hs
      have hn:=ih (by omega) (l++[Al.mk p v]) (b2+1) d h0 h1 hl3 (by simp;omega);rw[hml] at hn;simp[-Int.natCast_add,hs];cases hr:kK L m (l++[Al.mk p v]) d (b2+1) with
      |out=>trivial
      |err e x=>rw[hr] at hn;obtain⟨z,g1,b3,d',T,rfl⟩:=hn;exact⟨_,by simp[-Int.natCast_add,g1],b3,d',T,rfl⟩
      |ok v2 b3=>rw[hr] at hn;obtain⟨hb3,z,g1,h5,rfl⟩:=hn;exact⟨hb3,_,by simp[-Int.natCast_add,g1],by omega,rfl⟩
     ·exact .pure hb2 (by simp[hs,eu,←hml]) ⟨by omega,rfl⟩
    ·exact⟨_,by simp[-Int.natCast_add,g2],b2,d',.rows (l.map Al.cells),rfl⟩
   ·exact⟨_,by simp[aF hW hb,hc],b,d,.rows (l.map Al.cells),rfl⟩
  ·exact⟨_,by simp[g],b,d',.rows (l.map Al.cells),rfl⟩
theorem acu{n:Nat}(ihE:∀m,m≤n→Pa L (R6 L) eH (fK L m))(KR:List (List PV))(w:Int)(m:Nat)(hm:m≤n)(a:Nat)(d:Int)(h0:0≤d)(h1:d≤300)(ha:a<L.length):lI L (K6 (aU L) (iv a) (iv d) KR (iv w)) (kK L m [] d a)
  (fun v b z=>a<b∧z=(0,ps L b d (iv 8::sv eB::iv 0::iv 0::sv eB::iv 0::nS :: .rows KR::eu v::nS::iv w::zE)))
  (fun e x z=>∃(b:Nat) (d':Int),z=(1,ps L b d' (iv 8::sv eB::iv 0::iv 0::sv eB::iv 0::nS :: .rows KR::nS::nS::iv w::(zE++[iv e,iv x])))∨∃(T:PV),z=(2,ps L b d' (iv 8::sv eB::iv 0::iv 0::sv eB::iv 0::nS :: .rows KR::T::nS::iv w::(zE++[iv e,iv x])))):=by
 cases m with
 |zero=>rw[kK];trivial
 |succ m=>
  refine .of ?_;rw[kK,aaB];refine .callW (ajL hW m a d h0 h1 ha) (fun p b hb hab g=>?_) (fun e w b d' g=>?_)
  ·simp[g]
   refine .take (by decide) (fun hc=>?_) (fun hc=>?_)
   ·have hl2:=ax hW hc
    simp[-Int.natCast_add,aF hW hb,hc,Tk.cells];refine .callW (ihE m (by omega) (b+1) d h0 h1 hl2) (fun v b2 hb2 hab2 g2=>?_) (fun e w b2 d' g2=>?_)
    ·simp[-Int.natCast_add,g2]
     have hml:[Al.mk p v].map Al.cells=[alP p v]:=by rw[List.map_cons,List.map_nil,Al.cells_eq];rfl
     simp[bL hW hb2];refine .may (fun hs=>?_) (fun hs=>?_)
     ·have hl3:=ax hW hs
      have hn:=ahc hW ihE KR w m (by omega) [Al.mk p v] (b2+1) d h0 h1 hl3 (by simp);rw[hml] at hn;simp[-Int.natCast_add,hs];cases hr:kK L m [Al.mk p v] d (b2+1) with
      |out=>trivial
      |err e x=>rw[hr] at hn;obtain⟨z,g1,b3,d',T,rfl⟩:=hn;exact⟨_,by simp[-Int.natCast_add,g1],b3,d',.inr ⟨T,rfl⟩⟩
      |ok v2 b3=>rw[hr] at hn;obtain⟨hb3,z,g1,h5,rfl⟩:=hn;exact⟨hb3,_,by simp[-Int.natCast_add,g1],by omega,rfl⟩
     ·exact .pure hb2 (by simp[hs,aft]) ⟨by omega,rfl⟩
    ·exact⟨_,by simp[-Int.natCast_add,g2],b2,d',.inl rfl⟩
   ·exact⟨_,by simp[aF hW hb,hc],b,d,.inl rfl⟩
  ·exact⟨_,by simp[g],b,d',.inl rfl⟩
def csG(L:List Tk)(n:Nat)(w:Int):GM Ex:=aA (fK L n) fun x=>aA (aY L 6 sOf) fun _=>aA (kK L n []) fun l=>aA (aY L 6 acw) fun _=>aX (.mk 8 eB 0 Nf [x] l [] w)
theorem ack{n:Nat}(ihE:∀m,m≤n→Pa L (R6 L) eH (fK L m))(w:Int)(a:Nat)(d:Int)(h0:0≤d)(h1:d≤300)(ha:a<L.length):lI L (pCs L w a d) (csG L n w d a) (YR L a d 0 eH) (Vz L 1):=by
 refine .weak (aiy ev _ _ _ _) (.of ?_);unfold csG;rw[al8];refine .callW (ihE n (Nat.le_refl _) a d h0 h1 ha) (fun v b hb hab g=>?_) (fun e w b d' g=>?_)
 ·simp[g]
  refine .take (by decide) (fun hc=>?_) (fun hc=>?_)
  ·have hl:=ax hW hc
   simp[-Int.natCast_add,aF hW hb,hc,Tk.cells];refine .bind (acu hW ihE [eH v] w n (Nat.le_refl _) (b+1) d h0 h1 hl) (fun l b2 z hb2 g2 hz=>?_) (fun e w z g2 hz=>?_)
   ·obtain⟨hab2,rfl⟩:=hz
    simp[-Int.natCast_add,g2];refine .take (by decide) (fun hs=>?_) (fun hs=>?_)
    ·exact .pure (ax hW hs) (by simp[-Int.natCast_add,aF hW hb2,hs,Tk.cells]) (.of (m:=[0,1,0]) (k:=2) (ys:=[iv 8,sv eB,iv 0,iv 0,sv eB,iv 0,nS,.rows [eH v],eu l,nS,iv w]) (by omega) rfl (by simp[bJ,lJ,fe]))
    ·exact⟨_,by simp[-Int.natCast_add,aF hW hb2,hs],.of (m:=[0,1,0]) (b:=b2) (d:=d) (k:=1) rfl⟩
   ·obtain⟨b2,d',rfl|⟨T,rfl⟩⟩:=hz
    ·exact⟨_,by simp[-Int.natCast_add,g2],.of (m:=[0,1,0]) (b:=b2) (d:=d') (k:=1) rfl⟩
    ·exact⟨_,by simp[-Int.natCast_add,g2],.of (m:=[0,1,0]) (b:=b2) (d:=d') (k:=1) rfl⟩
  ·exact⟨_,by simp[aF hW hb,hc],.of (m:=[0,1,0]) (b:=b) (d:=d) (k:=1) rfl⟩
 ·exact⟨_,by simp[g],.of (m:=[0,1,0]) (b:=b) (d:=d') (k:=1) rfl⟩
theorem alv{a:Nat}(h:lG L KN a=true):(ai L a).kind=6∧(ai L a).text=KN:=by
 unfold lG at h;rw[Bool.and_eq_true,decide_eq_true_eq,decide_eq_true_eq] at h;have ht:=hW.top a;have h7:(ai L a).kind≠7:=fun h7=>hW.k7 a h7 h.2
 exact⟨by omega,h.2⟩
omit hW in
theorem adw{a:Nat}{x:ByteArray}(h:lG L x a=false)(k6:(ai L a).kind=6):¬(ai L a).text=x:=fun h2=>by unfold lG at h;simp[k6,h2] at h
theorem ag8{n:Nat}(ihE:∀m,m≤n→Pa L (R6 L) eH (fK L m)):Pa L (pAm L) eH (iY L (n+1)):=by
 intro a d h0 h1 ha;refine .weak (alE ev _ _ _) (.of ?_);rw[iY,ap9];simp[-Int.natCast_add,oN hW ha,Tk.cells];refine .next (.if' (fun k1=>?_) (fun k1=>.if' (fun k2=>?_) (fun k2=>.if' (fun k3=>?_) (fun k3=>.if' (fun k4=>?_) (fun k4=>?_)))))
 ·exact .up (.pure (hW.fin a (by omega)) (by simp[-Int.natCast_add,k1]) (.of (m:=[0,1]) (k:=0) (ys:=[iv 3,sv (ai L a).text,iv 0,iv 0,sv eB,iv 0,nS,nS,nS,nS,iv (ai L a).at_]) (by omega) rfl (by simp)))
 ·exact .up (.pure (hW.fin a (by omega)) (by simp[-Int.natCast_add,k2]) (.of (m:=[0,1]) (k:=0) (ys:=[iv 4,sv (ai L a).text,iv 0,iv 0,sv eB,iv 0,nS,nS,nS,nS,iv (ai L a).at_]) (by omega) rfl (by simp)))
 ·exact .up (.pure (hW.fin a (by omega)) (by simp[-Int.natCast_add,k3]) (.of (m:=[0,1]) (k:=0) (ys:=[iv 1,sv eB,iv (ai L a).n,iv 0,sv eB,iv 0,nS,nS,nS,nS,iv (ai L a).at_]) (by omega) rfl (by simp)))
 ·exact .up (.pure (hW.fin a (by omega)) (by simp[-Int.natCast_add,k4]) (.of (m:=[0,1]) (k:=0) (ys:=[iv 2,sv (ai L a).text,iv 0,iv 0,sv eB,iv 0,nS,nS,nS,nS,iv (ai L a).at_]) (by omega) rfl (by simp)))
 ·refine .may (fun hc=>?_) (fun hc=>?_)
  ·obtain⟨k6,hx⟩:=alv hW hc
   have hl:=ax hW hc;simp[-Int.natCast_add,k6,hx];have hn:=ack hW ihE (ai L a).at_ (a+1) d h0 h1 hl;show oo L (csG L n (ai L a).at_ d (a+1)) _ _ _;cases hr:csG L n (ai L a).at_ d (a+1) with
   |out=>trivial
   |err e w=>rw[hr] at hn;obtain⟨z,g,b,d',rfl⟩:=hn;exact⟨_,by simp[-Int.natCast_add,g],.of (m:=[0,1]) (b:=b) (d:=d') (k:=1) rfl⟩
   |ok v b=>rw[hr] at hn;obtain⟨hb,z,g,hab,rfl⟩:=hn;exact⟨hb,_,by simp[-Int.natCast_add,g],.of (m:=[0,1]) (k:=0) (ys:=eH v) (by omega) rfl (by simp)⟩
  ·refine .take (by decide) (fun ho=>?_) (fun ho=>?_)
   ·obtain⟨k7,hx⟩:=Zu hW (.inl rfl) ho
    have hl:=ax hW ho;simp[-Int.natCast_add,k7,hx];have hn:=UF hW (ihE n (Nat.le_refl _)) (ai L a).at_ (a+1) d h0 h1 hl (by omega);show oo L (brG L n (ai L a).at_ d (a+1)) _ _ _;cases hr:brG L n (ai L a).at_ d (a+1) with
    |out=>trivial
    |err e w=>rw[hr] at hn;obtain⟨z,g,b,d',rfl⟩:=hn;exact⟨_,by simp[-Int.natCast_add,g],.of (m:=[0,1]) (b:=b) (d:=d') (k:=1) rfl⟩
    |ok v b=>rw[hr] at hn;obtain⟨hb,z,g,hab,rfl⟩:=hn;exact⟨hb,_,by simp[-Int.natCast_add,g],.of (m:=[0,1]) (k:=0) (ys:=eH v) (by omega) rfl (by simp)⟩
   ·refine⟨_,?_,.of (m:=[0,1]) (b:=a+1) (d:=d) (k:=1) rfl⟩
    by_cases k6:(ai L a).kind=6
    ·simp[-Int.natCast_add,k6,adw hc k6,nV hW]
    ·by_cases k7:(ai L a).kind=7
     ·simp[-Int.natCast_add,k7,Ou ho k7,nV hW]
     ·simp[-Int.natCast_add,k1,k2,k3,k4,k6,k7,nV hW]
end
set_option maxRecDepth 10000
abbrev pLa(L:List Tk)(w:Int)(a:Nat)(d:Int):Q:=afJ (iv w) (aU L) (iv a) (iv d)
def wG(w:Int):List Tk→List (ByteArray×Int)
 |[]=>[]
 |t::r=>(t.text,w)::r.map fun t=>(t.text,t.at_)
theorem YX(w:Int)(N:List Tk)(t:Tk)(h:N≠[]):wG w (N++[t])=wG w N++[(t.text,t.at_)]:=by
 cases N with
 |nil=>exact absurd rfl h
 |cons x r=>simp[wG]
def LW(N:List Tk):Nat→Ex→Ex
 |0,y=>y
 |j+1,y=>LW N j (iP 6 (opAt N j).text 0 [y] (opAt N j).at_)
def LX(N:List Tk)(e:Ex):Ex:=N.foldr (fun t e=>iP 6 t.text 0 [e] t.at_) e
theorem Sr(N:List Tk):∀(j:Nat) (y:Ex),j≤N.length→LW N j y=LX (N.take j) y
 |0,y,_=>by simp[LW,LX]
 |j+1,y,h=>by
  rw[LW,Sr N j _ (by omega)];have:N.take (j+1)=N.take j++[opAt N j]:=by
   rw[List.take_add_one];unfold opAt;rw[List.getElem?_eq_getElem (by omega)];rfl
  rw[this];simp[LX]
theorem Ng(r:List Tk)(e:Ex):vo (r.map fun t=>(t.text,t.at_)) e=LX r e:=by
 induction r with
 |nil=>rfl
 |cons t r ih=>simp only[vo,LX,List.map_cons,List.foldr_cons] at ih ⊢;rw[ih]
theorem Uk(w:Int)(t:Tk)(r:List Tk)(e:Ex):vo (wG w (t::r)) e=iP 6 t.text 0 [LX r e] w:=by
 rw[←Ng];rfl
theorem uM{N:List Tk}{j:Nat}(h:j<N.length):N[j]? = some (opAt N j):=by unfold opAt;rw[List.getElem?_eq_getElem h];rfl
section
variable{L:List Tk}
theorem Zo(N:List Tk)(w:Int)(hN:N.length≤2000000):∀(j:Nat) (x:Ex) (nm:ByteArray) (K:List (List PV)) (p:Int),j≤N.length→Raw 11 K [x.cells]→∃(x':Ex) (nm':ByteArray) (K':List (List PV)) (p':Int),LW N j (iP 6 nm 0 [x] p)=iP 6 nm' 0 [x'] p'∧Raw 11 K' [x'.cells]∧
  ev (Qa (iv ((j:Int)-1)) (N.map Tk.cells) (iv w) (sv nm) K (iv p))=some (1,iv 6::sv nm'::iv 0::iv 0::sv eB::iv 0::nS :: .rows K'::nS::nS::iv p'::(zE++[iv w,.rows (N.map Tk.cells)])):=by
 intro j
 induction j with
 |zero=>
  intro x nm K p hj hr;refine⟨x,nm,K,p,rfl,hr,ay.of ?_⟩;rw[SA];simp
 |succ j ih=>
  intro x nm K p hj hr;have hr2:Raw 11 [[iv 6,sv nm,iv 0,iv 0,sv eB,iv 0,nS,.rows K,nS,nS,iv p]] [(iP 6 nm 0 [x] p).cells]:=.one (by rw[Ex.cells_eq];simp[bJ,hr.wd,exs]) rfl (by simp[hr.ns']);obtain⟨x',nm',K',p',e1,e2,e3⟩:=ih (iP 6 nm 0 [x] p) (opAt N j).text _ (opAt N j).at_ (by omega) hr2;refine⟨x',nm',K',p',by rw[LW,e1],e2,ay.of ?_⟩;rw[SA];have e0:((j+1:Nat):Int)-1=(j:Int):=by omega
  have hw:IntKind.i64.wrap ((j:Int)-1)=(j:Int)-1:=aP (by omega);rw[e0];have hx:∀(d:aM) (k:AV→aM),fG Tryz.prog d 66 (.pv (.rows (N.map Tk.cells))) (.pv (.lit (.int .i64 (j:Int)))) k=k (.cptr [iv (opAt N j).kind,sv (opAt N j).text,iv (opAt N j).n,iv (opAt N j).at_]):=fun d k=>dY (uM (show j<N.length by omega))
  simp[hx,hw];simp[e3]
variable(hW:Gg L)
include hW
def Kq(L:List Tk)(k:Nat)(l:List (ByteArray×Int)):GM Ex:=aA (aY L 7 Cr) fun _=>aA (fK L k) fun e=>aX (vo l e)
theorem Zn(w d:Int):∀(m:Nat) (N:List Tk) (a:Nat),N≠[]→a<L.length→N.length≤a→gP L m (wG w N) d a=.out∨∃(R:List Tk) (b k:Nat),k<m∧a≤b∧b<L.length∧(N++R).length≤b∧gP L m (wG w N) d a=Kq L k (wG w (N++R)) d b∧
  ev (Qc (N.map Tk.cells) (iv w) (aU L) (iv a) (iv d))=some (1,aU L::iv b::iv d::(zE++[.rows ((N++R).map Tk.cells),iv w])):=by
 intro m
 induction m with
 |zero=>intro N a _ _ _;exact .inl (by rw[gP];rfl)
 |succ m ih=>
  intro N a hN ha hl;rw[gP.eq_2];unfold kz;by_cases k1:(ai L a).kind=1
  ·have hb:=hW.fin a (by omega)
   have e1:(if(ai L a).kind=1 then(mZ L fun t=>AY (gP L m (wG w N++[(t.text,t.at_)]))) d a else Kq L m (wG w N) d a)=gP L m (wG w (N++[ai L a])) d (a+1):=by rw[if_pos k1,YX w N _ hN];rfl
   have e2:=ih (N++[ai L a]) (a+1) (by simp) hb (by simp;omega);rcases e2 with e2|⟨R,b,k,c1,c2,c3,c4,c5,c6⟩
   ·exact .inl (e1.trans e2)
   ·refine .inr ⟨ai L a::R,b,k,by omega,by omega,c3,by simpa using c4,(e1.trans c5).trans (by simp),ay.of ?_⟩
    rw[SB];have hap:=fun k'=>yH (k:=k') N (ai L a) (by have:=hW.len;omega)
    rw[List.map_append,List.map_cons,List.map_nil] at c6;simp[-Int.natCast_add,eP ha,Tk.cells,k1,oN hW ha];simp[-Int.natCast_add,Tk.cells,k1] at hap c6;simp[-Int.natCast_add,hap,c6]
  ·exact .inr ⟨[],a,m,by omega,Nat.le_refl _,ha,by simpa using hl,by rw[if_neg k1,List.append_nil];rfl,ay.of (by
    rw[SB];simp[eP ha,Tk.cells,k1])⟩
theorem Zp(w d:Int)(t:Tk):∀(m:Nat) (a:Nat),a<L.length→1≤a→gP L m [(t.text,w)] d a=.out∨∃(R:List Tk) (b k:Nat),k<m∧a≤b∧b<L.length∧([t]++R).length≤b∧gP L m [(t.text,w)] d a=Kq L k (wG w ([t]++R)) d b∧
  ev (Qd [t.cells] (iv w) (aU L) (iv a) (iv d))=some (match R with|[]=>0|_::_=>1,aU L::iv b::iv d::(zE++[.rows (([t]++R).map Tk.cells),iv w])):=by
 intro m a ha hl;cases m with
 |zero=>exact .inl (by rw[gP];rfl)
 |succ m=>
  rw[gP.eq_2];unfold kz;by_cases k1:(ai L a).kind=1
  ·have hb:=hW.fin a (by omega)
   have e1:(if(ai L a).kind=1 then(mZ L fun t2=>AY (gP L m ([(t.text,w)]++[(t2.text,t2.at_)]))) d a else Kq L m (wG w [t]) d a)=gP L m (wG w ([t]++[ai L a])) d (a+1):=by rw[if_pos k1];rfl
   have e2:=Zn hW w d m ([t]++[ai L a]) (a+1) (by simp) hb (by simp;omega);rcases e2 with e2|⟨R,b,k,c1,c2,c3,c4,c5,c6⟩
   ·exact .inl (e1.trans e2)
   ·refine .inr ⟨ai L a::R,b,k,by omega,by omega,c3,by simpa using c4,(e1.trans c5).trans (by simp),ay.of ?_⟩
    rw[SG];have hap:=fun k'=>yH (k:=k') [t] (ai L a) (by simp)
    simp[-Int.natCast_add,eP ha,Tk.cells,k1,oN hW ha];simp[-Int.natCast_add,Tk.cells,k1] at hap c6;simp[-Int.natCast_add,hap,c6]
  ·exact .inr ⟨[],a,m,by omega,Nat.le_refl _,ha,by simpa using hl,by rw[if_neg k1,List.append_nil];rfl,ay.of (by
    rw[SG];simp[eP ha,Tk.cells,k1])⟩
omit hW in
theorem adt(w:Int)(t:Tk)(R:List Tk)(hN:(t::R).length≤2000000)(e:Ex):∃(x':Ex) (nm':ByteArray) (K':List (List PV)) (p':Int),iP 6 nm' 0 [x'] w=vo (wG w (t::R)) e∧Raw 11 K' [x'.cells]∧
  ev (Qb (iv (R.length:Int)) ((t::R).map Tk.cells) (iv w) (iv e.kind) (sv e.name) (iv e.n) (iv e.t.kind) (sv e.t.name) (iv e.t.n) (bH e.t.kids) (exs e.kids) (eu e.alts) (aZ e.binds) (iv e.at_))=some (1,iv 6::sv nm'::iv 0::iv 0::sv eB::iv 0::nS :: .rows K'::nS::nS::iv p'::(zE++[iv w,.rows ((t::R).map Tk.cells)])):=by
 have hj:R.length<(t::R).length:=by simp
 obtain⟨x',nm',K',p',e1,e2,e3⟩:=Zo (t::R) w hN R.length e (opAt (t::R) R.length).text [eH e] (opAt (t::R) R.length).at_ (by omega) (.one (by rw[Ex.cells_eq];simp) rfl (by simp));refine⟨x',nm',K',p',?_,e2,ay.of ?_⟩
 ·have h1:LW (t::R) (R.length+1) e=iP 6 nm' 0 [x'] p':=by rw[LW,e1]
  rw[Sr _ _ _ (by simp),show R.length+1=(t::R).length by simp,List.take_length] at h1;have h2:LX (t::R) e=iP 6 t.text 0 [LX R e] t.at_:=rfl;rw[h2] at h1;rw[Uk];simp only[iP,Ex.mk.injEq,List.cons.injEq] at h1 ⊢;obtain⟨_,hn,_,_,⟨hx,_⟩,_⟩:=h1;simp[hn,hx]
 ·rw[adW]
  have hx:∀(d:aM) (k:AV→aM),fG Tryz.prog d 66 (.pv (.rows ((t::R).map Tk.cells))) (.pv (.lit (.int .i64 (R.length:Int)))) k=k (.cptr [iv (opAt (t::R) R.length).kind,sv (opAt (t::R) R.length).text,iv (opAt (t::R) R.length).n,iv (opAt (t::R) R.length).at_]):=fun d k=>dY (uM hj)
  have hw:IntKind.i64.wrap ((R.length:Int)-1)=(R.length:Int)-1:=aP (by simp at hN;omega);generalize hG:(t::R).map Tk.cells=G at *;simp[hx,hw];simp[e3]
theorem WG{n:Nat}(ihE:∀m,m≤n→Pa L (R6 L) eH (fK L m))(w:Int)(a:Nat)(d:Int)(h0:0≤d)(h1:d≤300)(ha:a<L.length):lI L (pLa L w a d) (iw L (n+1) w d a) (YR L a d 0 eH) (Vz L 1):=by
 refine .weak (alG ev _ _ _ _) (.of ?_);rw[iw.eq_2,aqb];refine .takeK (by decide) (fun k1=>?_) (fun k1=>?_)
 ·have hl:=hW.fin a (by omega)
  simp[-Int.natCast_add,cu hW ha,k1,Tk.cells];generalize ht:ai L a=t at *;rcases Zp hW w d t n (a+1) hl (by omega) with e0|⟨R,b,k,c1,c2,c3,c4,c5,c6⟩
  ·rw[e0];trivial
  ·rw[c5]
   unfold Kq;have hlen:([t]++R).length≤2000000:=by have:=hW.len;omega
   simp only[Tk.cells,k1] at c6;refine .take (by decide) (fun hc=>?_) (fun hc=>?_)
   ·have hl3:=ax hW hc
    refine .callW (ihE k (by omega) (b+1) d h0 h1 hl3) (fun v b2 hb2 hab2 g2=>?_) (fun e x b2 d' g2=>?_)
    ·obtain⟨x',nm',K',p',z1,z2,z3⟩:=adt w t R hlen v
     refine .pure hb2 ?_ (.of (m:=[0,0,0,0,0,0,0,0,0,0,0,0,0,0,0,0,1]) (k:=4) (ys:=[iv 6,sv nm',iv 0,iv 0,sv eB,iv 0,nS,.rows K',nS,nS,iv w]) (by omega) rfl (by rw[show vo (wG w ([t]++R)) v=iP 6 nm' 0 [x'] w from z1.symm];simp[z2.wd,exs]));cases R with
     |nil=>
      simp[-Int.natCast_add,Tk.cells,k1] at c6 z3;simp[-Int.natCast_add,c6,aF hW c3,hc,Tk.cells];simp[-Int.natCast_add,g2];simp[z3]
     |cons t2 R=>
      simp only[List.singleton_append] at c6;have hx:∀(d:aM) (k:AV→aM),gG Tryz.prog d 66 (.pv (.rows ((t::t2::R).map Tk.cells))) k=k (.pv (iv ((t::t2::R).length:Int))):=fun d k=>Zb _
      have hw:IntKind.i64.wrap (((t::t2::R).length:Int)-1)=((t2::R).length:Int):=by rw[aP (by simp at hlen ⊢;omega)];simp
      generalize hG:(t::t2::R).map Tk.cells=G at *;generalize hn1:((t::t2::R).length:Int)=n1 at *;generalize hn2:((t2::R).length:Int)=n2 at *;simp[-Int.natCast_add,c6,aF hW c3,hc,Tk.cells];simp[-Int.natCast_add,g2];simp[hx,hw];simp[z3]
    ·refine⟨_,?_,.of (m:=[0,0,0,0,0,0,0,0,0,0,0,0,0,0,0,0,1]) (b:=b2) (d:=d') (k:=16) rfl⟩
     cases R with
     |nil=>
      simp[-Int.natCast_add,Tk.cells,k1] at c6;simp[-Int.natCast_add,c6,aF hW c3,hc,Tk.cells];simp[-Int.natCast_add,g2]
     |cons t2 R=>
      simp only[List.singleton_append] at c6;generalize hG:(t::t2::R).map Tk.cells=G at *;simp[-Int.natCast_add,c6,aF hW c3,hc,Tk.cells];simp[-Int.natCast_add,g2]
   ·refine⟨_,?_,.of (m:=[0,0,0,0,0,0,0,0,0,0,0,0,0,0,0,0,1]) (b:=b) (d:=d) (k:=16) rfl⟩
    cases R with
    |nil=>
     simp[-Int.natCast_add,Tk.cells,k1] at c6;simp[-Int.natCast_add,c6,aF hW c3,hc,Tk.cells]
    |cons t2 R=>
     simp only[List.singleton_append] at c6;generalize hG:(t::t2::R).map Tk.cells=G at *;simp[-Int.natCast_add,c6,aF hW c3,hc,Tk.cells]
 ·exact⟨_,by simp[cu hW ha,k1],.of (m:=[0,0,0,0,0,0,0,0,0,0,0,0,0,0,0,0,1]) (b:=a) (d:=d) (k:=16) rfl⟩
end
set_option maxRecDepth 10000
abbrev pLt(L:List Tk)(a:Nat)(d:Int):Q:=afI (aU L) (iv a) (iv d)
abbrev pOp(L:List Tk)(a:Nat)(d:Int):Q:=afM (aU L) (iv a) (iv d)
section
variable{L:List Tk}(hW:Gg L)
include hW
theorem ajR{n:Nat}(ihE:∀m,m≤n→Pa L (R6 L) eH (fK L m)):∀m,m≤n+1→Pa L (pBd L) fZ (AO L m)
 |0,_=>fun a d _ _ _=>by rw[AO];trivial
 |m+1,hm=>WL hW (ihE m (by omega))
theorem acr{n:Nat}(ihB:∀m,m≤n→Pa L (pBd L) fZ (AO L m))(w:Int):∀(m:Nat),m≤n→∀(l:List Bd) (a:Nat) (d:Int),0≤d→d≤300→a<L.length→l.length≤a→lI L (P7 (aU L) (iv a) (iv d) (l.map Bd.cells) (iv w)) (fq L m l d a)
  (fun v b z=>a≤b∧z=(3,ps L b d (iv 7::sv eB::iv 1::iv 0::sv eB::iv 0::nS::nS::nS::aZ v::iv w::zE)))
  (fun e x z=>∃(b:Nat) (d':Int) (T:PV),z=(2,ps L b d' (iv 7::sv eB::iv 1::iv 0::sv eB::iv 0::nS::nS::nS::T::iv w::(zE++[iv e,iv x])))):=by
 intro m hm
 induction m with
 |zero=>intro l a d h0 h1 ha hl;rw[fq];trivial
 |succ m ih=>
  intro l a d h0 h1 ha hl;refine .of ?_;rw[fq.eq_2,adT];simp[bL hW ha];refine .may (fun hs=>?_) (fun hs=>?_)
  ·have hl3:=ax hW hs
   simp[-Int.natCast_add,hs];refine .callW (ihB m (by omega) (a+1) d h0 h1 hl3) (fun v b hb hab g=>?_) (fun e x b d' g=>?_)
   ·have hap:=fun k'=>aH (P:=PG) (d:=.fail) (k:=k') qf (gL l) (c:=fZ v) rfl (by simp) (by have:=hW.len;simp;omega) (by decide)
    have hml:(l++[v]).map Bd.cells=l.map Bd.cells++[fZ v]:=by rw[List.map_append,List.map_cons,List.map_nil,Bd.cells_eq]
    simp[-Int.natCast_add,g];simp[hap];have hn:=ih (by omega) (l++[v]) b d h0 h1 hb (by simp;omega);rw[hml] at hn;cases hr:fq L m (l++[v]) d b with
    |out=>trivial
    |err e x=>rw[hr] at hn;obtain⟨z,g1,b3,d',T,rfl⟩:=hn;exact⟨_,by simp[g1],b3,d',T,rfl⟩
    |ok v2 b3=>rw[hr] at hn;obtain⟨hb3,z,g1,h5,rfl⟩:=hn;exact⟨hb3,_,by simp[g1],by omega,rfl⟩
   ·exact⟨_,by simp[-Int.natCast_add,g],b,d',.rows (l.map Bd.cells),rfl⟩
  ·exact .pure ha (by simp[hs,aZ]) ⟨Nat.le_refl _,rfl⟩
theorem WS{n:Nat}(ihB:∀m,m≤n→Pa L (pBd L) fZ (AO L m))(w:Int)(m:Nat)(hm:m≤n)(v0:Bd)(a:Nat)(d:Int)(h0:0≤d)(h1:d≤300)(ha:a<L.length):lI L (P9 (aU L) (iv a) (iv d) [fZ v0] (iv w)) (fq L m [v0] d a)
  (fun v b z=>a≤b∧(v=[v0]∧z=(1,ps L b d (iv 7::sv eB::iv 1::iv 0::sv eB::iv 0::nS::nS::nS :: .rows [fZ v0]::iv w::zE))∨z=(3,ps L b d (iv 7::sv eB::iv 1::iv 0::sv eB::iv 0::nS::nS::nS::aZ v::iv w::zE))))
  (fun e x z=>∃(b:Nat) (d':Int),z=(0,ps L b d' (iv 7::sv eB::iv 1::iv 0::sv eB::iv 0::nS::nS::nS :: .rows [fZ v0]::iv w::(zE++[iv e,iv x])))∨∃(T:PV),z=(2,ps L b d' (iv 7::sv eB::iv 1::iv 0::sv eB::iv 0::nS::nS::nS::T::iv w::(zE++[iv e,iv x])))):=by
 cases m with
 |zero=>rw[fq];trivial
 |succ m=>
  refine .of ?_;rw[fq.eq_2,adV];simp[bL hW ha];refine .may (fun hs=>?_) (fun hs=>?_)
  ·have hl3:=ax hW hs
   simp[-Int.natCast_add,hs];refine .callW (ihB m (by omega) (a+1) d h0 h1 hl3) (fun v b hb hab g=>?_) (fun e x b d' g=>?_)
   ·have hr:Raw 13 [fZ v0] ([v0].map Bd.cells):=.one (by rw[Bd.cells_eq];simp) rfl (by simp)
    have hap:=fun k'=>aH (P:=PG) (d:=.fail) (k:=k') qf hr (c:=fZ v) rfl (by simp) (by simp) (by decide)
    have hml:[v0,v].map Bd.cells=[fZ v0,fZ v]:=by rw[List.map_cons,List.map_cons,List.map_nil,Bd.cells_eq,Bd.cells_eq]
    simp[-Int.natCast_add,g];simp at hap;simp[hap];have hn:=acr hW ihB w m (by omega) [v0,v] b d h0 h1 hb (by simp;omega);rw[hml] at hn;cases hr:fq L m [v0,v] d b with
    |out=>trivial
    |err e x=>rw[hr] at hn;obtain⟨z,g1,b3,d',T,rfl⟩:=hn;exact⟨_,by simp[g1],b3,d',.inr ⟨T,rfl⟩⟩
    |ok v2 b3=>rw[hr] at hn;obtain⟨hb3,z,g1,h5,rfl⟩:=hn;exact⟨hb3,_,by simp[g1],by omega,.inr rfl⟩
   ·exact⟨_,by simp[-Int.natCast_add,g],b,d',.inl rfl⟩
  ·exact .pure ha (by simp[hs]) ⟨Nat.le_refl _,.inl ⟨rfl,rfl⟩⟩
theorem acs{n:Nat}(ihB:∀m,m≤n→Pa L (pBd L) fZ (AO L m))(w:Int):∀(m:Nat),m≤n→∀(l:List Bd) (a:Nat) (d:Int),0≤d→d≤300→a<L.length→l.length≤a→lI L (P6 (aU L) (iv a) (iv d) (l.map Bd.cells) (iv w)) (fq L m l d a)
  (fun v b z=>a≤b∧z=(3,ps L b d (iv 7::sv eB::iv 0::iv 0::sv eB::iv 0::nS::nS::nS::aZ v::iv w::zE)))
  (fun e x z=>∃(b:Nat) (d':Int) (T:PV),z=(2,ps L b d' (iv 7::sv eB::iv 0::iv 0::sv eB::iv 0::nS::nS::nS::T::iv w::(zE++[iv e,iv x])))):=by
 intro m hm
 induction m with
 |zero=>intro l a d h0 h1 ha hl;rw[fq];trivial
 |succ m ih=>
  intro l a d h0 h1 ha hl;refine .of ?_;rw[fq.eq_2,adS];simp[bL hW ha];refine .may (fun hs=>?_) (fun hs=>?_)
  ·have hl3:=ax hW hs
   simp[-Int.natCast_add,hs];refine .callW (ihB m (by omega) (a+1) d h0 h1 hl3) (fun v b hb hab g=>?_) (fun e x b d' g=>?_)
   ·have hap:=fun k'=>aH (P:=PG) (d:=.fail) (k:=k') qf (gL l) (c:=fZ v) rfl (by simp) (by have:=hW.len;simp;omega) (by decide)
    have hml:(l++[v]).map Bd.cells=l.map Bd.cells++[fZ v]:=by rw[List.map_append,List.map_cons,List.map_nil,Bd.cells_eq]
    simp[-Int.natCast_add,g];simp[hap];have hn:=ih (by omega) (l++[v]) b d h0 h1 hb (by simp;omega);rw[hml] at hn;cases hr:fq L m (l++[v]) d b with
    |out=>trivial
    |err e x=>rw[hr] at hn;obtain⟨z,g1,b3,d',T,rfl⟩:=hn;exact⟨_,by simp[g1],b3,d',T,rfl⟩
    |ok v2 b3=>rw[hr] at hn;obtain⟨hb3,z,g1,h5,rfl⟩:=hn;exact⟨hb3,_,by simp[g1],by omega,rfl⟩
   ·exact⟨_,by simp[-Int.natCast_add,g],b,d',.rows (l.map Bd.cells),rfl⟩
  ·exact .pure ha (by simp[hs,aZ]) ⟨Nat.le_refl _,rfl⟩
theorem WT{n:Nat}(ihB:∀m,m≤n→Pa L (pBd L) fZ (AO L m))(w:Int)(m:Nat)(hm:m≤n)(v0:Bd)(a:Nat)(d:Int)(h0:0≤d)(h1:d≤300)(ha:a<L.length):lI L (P8 (aU L) (iv a) (iv d) [fZ v0] (iv w)) (fq L m [v0] d a)
  (fun v b z=>a≤b∧(v=[v0]∧z=(1,ps L b d (iv 7::sv eB::iv 0::iv 0::sv eB::iv 0::nS::nS::nS :: .rows [fZ v0]::iv w::zE))∨z=(3,ps L b d (iv 7::sv eB::iv 0::iv 0::sv eB::iv 0::nS::nS::nS::aZ v::iv w::zE))))
  (fun e x z=>∃(b:Nat) (d':Int),z=(0,ps L b d' (iv 7::sv eB::iv 0::iv 0::sv eB::iv 0::nS::nS::nS :: .rows [fZ v0]::iv w::(zE++[iv e,iv x])))∨∃(T:PV),z=(2,ps L b d' (iv 7::sv eB::iv 0::iv 0::sv eB::iv 0::nS::nS::nS::T::iv w::(zE++[iv e,iv x])))):=by
 cases m with
 |zero=>rw[fq];trivial
 |succ m=>
  refine .of ?_;rw[fq.eq_2,adU];simp[bL hW ha];refine .may (fun hs=>?_) (fun hs=>?_)
  ·have hl3:=ax hW hs
   simp[-Int.natCast_add,hs];refine .callW (ihB m (by omega) (a+1) d h0 h1 hl3) (fun v b hb hab g=>?_) (fun e x b d' g=>?_)
   ·have hr:Raw 13 [fZ v0] ([v0].map Bd.cells):=.one (by rw[Bd.cells_eq];simp) rfl (by simp)
    have hap:=fun k'=>aH (P:=PG) (d:=.fail) (k:=k') qf hr (c:=fZ v) rfl (by simp) (by simp) (by decide)
    have hml:[v0,v].map Bd.cells=[fZ v0,fZ v]:=by rw[List.map_cons,List.map_cons,List.map_nil,Bd.cells_eq,Bd.cells_eq]
    simp[-Int.natCast_add,g];simp at hap;simp[hap];have hn:=acs hW ihB w m (by omega) [v0,v] b d h0 h1 hb (by simp;omega);rw[hml] at hn;cases hr:fq L m [v0,v] d b with
    |out=>trivial
    |err e x=>rw[hr] at hn;obtain⟨z,g1,b3,d',T,rfl⟩:=hn;exact⟨_,by simp[g1],b3,d',.inr ⟨T,rfl⟩⟩
    |ok v2 b3=>rw[hr] at hn;obtain⟨hb3,z,g1,h5,rfl⟩:=hn;exact⟨hb3,_,by simp[g1],by omega,.inr rfl⟩
   ·exact⟨_,by simp[-Int.natCast_add,g],b,d',.inl rfl⟩
  ·exact .pure ha (by simp[hs]) ⟨Nat.le_refl _,.inl ⟨rfl,rfl⟩⟩
theorem ajO{n:Nat}(ihE:∀m,m≤n→Pa L (R6 L) eH (fK L m))(a:Nat)(d:Int)(h0:0≤d)(h1:d≤300)(ha:a<L.length)(hl:lG L acv a=true):lI L (pLt L a d) (dV L WU (qY L (n+1) 1 (ai L a).at_) (qY L (n+1) 0 (ai L a).at_) d (a+1)) (YR L a d 0 eH) (Vz L 1):=by
 have ihB:=ajR hW ihE;refine .weak (alF ev _ _ _) (.of ?_);have hl1:=ax hW hl;rw[qY.eq_2,qY.eq_2,aqa];simp[-Int.natCast_add,oN hW ha,Tk.cells];simp[-Int.natCast_add,bL hW hl1];refine .may (fun hr=>?_) (fun hr=>?_)
 ·have hl2:=ax hW hr
  simp[-Int.natCast_add,hr];refine .callW (ihB n (by omega) (a+1+1) d h0 h1 hl2) (fun v b hb hab g=>?_) (fun e x b d' g=>?_)
  ·simp[-Int.natCast_add,g]
   refine .bind (WS hW ihB (ai L a).at_ n (by omega) v b d h0 h1 hb) (fun l b2 z hb2 g2 hz=>?_) (fun e x z g2 hz=>?_)
   ·obtain⟨hab2,hz⟩:=hz
    rcases hz with⟨rfl,rfl⟩|rfl
    ·simp[g2]
     refine .take (by decide) (fun hi=>?_) (fun hi=>?_)
     ·have hl3:=ax hW hi
      simp[-Int.natCast_add,aF hW hb2,hi,Tk.cells];refine .callW (ihE n (by omega) (b2+1) d h0 h1 hl3) (fun e b3 hb3 hab3 g3=>?_) (fun e x b3 d' g3=>?_)
      ·exact .pure hb3 (by simp[-Int.natCast_add,g3]) (.of (m:=[0,1]) (k:=0) (ys:=[iv 7,sv eB,iv 1,iv 0,sv eB,iv 0,nS,.rows [eH e],nS,.rows [fZ v],iv (ai L a).at_]) (by omega) rfl (by simp[bJ,lJ,fe,BQ]))
      ·exact⟨_,by simp[-Int.natCast_add,g3],.of (m:=[0,1]) (b:=b3) (d:=d') (k:=1) rfl⟩
     ·exact⟨_,by simp[aF hW hb2,hi],.of (m:=[0,1]) (b:=b2) (d:=d) (k:=1) rfl⟩
    ·simp[g2]
     refine .take (by decide) (fun hi=>?_) (fun hi=>?_)
     ·have hl3:=ax hW hi
      simp[-Int.natCast_add,aF hW hb2,hi,Tk.cells];refine .callW (ihE n (by omega) (b2+1) d h0 h1 hl3) (fun e b3 hb3 hab3 g3=>?_) (fun e x b3 d' g3=>?_)
      ·exact .pure hb3 (by simp[-Int.natCast_add,g3]) (.of (m:=[0,1]) (k:=0) (ys:=[iv 7,sv eB,iv 1,iv 0,sv eB,iv 0,nS,.rows [eH e],nS,aZ l,iv (ai L a).at_]) (by omega) rfl (by simp[bJ,lJ,fe]))
      ·exact⟨_,by simp[-Int.natCast_add,g3],.of (m:=[0,1]) (b:=b3) (d:=d') (k:=1) rfl⟩
     ·exact⟨_,by simp[aF hW hb2,hi],.of (m:=[0,1]) (b:=b2) (d:=d) (k:=1) rfl⟩
   ·obtain⟨b2,d',rfl|⟨T,rfl⟩⟩:=hz
    ·exact⟨_,by simp[g2],.of (m:=[0,1]) (b:=b2) (d:=d') (k:=1) rfl⟩
    ·exact⟨_,by simp[g2],.of (m:=[0,1]) (b:=b2) (d:=d') (k:=1) rfl⟩
  ·exact⟨_,by simp[-Int.natCast_add,g],.of (m:=[0,1]) (b:=b) (d:=d') (k:=1) rfl⟩
 ·have hl2:=hl1
  simp[-Int.natCast_add,hr];refine .callW (ihB n (by omega) (a+1) d h0 h1 hl2) (fun v b hb hab g=>?_) (fun e x b d' g=>?_)
  ·simp[-Int.natCast_add,g]
   refine .bind (WT hW ihB (ai L a).at_ n (by omega) v b d h0 h1 hb) (fun l b2 z hb2 g2 hz=>?_) (fun e x z g2 hz=>?_)
   ·obtain⟨hab2,hz⟩:=hz
    rcases hz with⟨rfl,rfl⟩|rfl
    ·simp[g2]
     refine .take (by decide) (fun hi=>?_) (fun hi=>?_)
     ·have hl3:=ax hW hi
      simp[-Int.natCast_add,aF hW hb2,hi,Tk.cells];refine .callW (ihE n (by omega) (b2+1) d h0 h1 hl3) (fun e b3 hb3 hab3 g3=>?_) (fun e x b3 d' g3=>?_)
      ·exact .pure hb3 (by simp[-Int.natCast_add,g3]) (.of (m:=[0,1]) (k:=0) (ys:=[iv 7,sv eB,iv 0,iv 0,sv eB,iv 0,nS,.rows [eH e],nS,.rows [fZ v],iv (ai L a).at_]) (by omega) rfl (by simp[bJ,lJ,fe,BQ]))
      ·exact⟨_,by simp[-Int.natCast_add,g3],.of (m:=[0,1]) (b:=b3) (d:=d') (k:=1) rfl⟩
     ·exact⟨_,by simp[aF hW hb2,hi],.of (m:=[0,1]) (b:=b2) (d:=d) (k:=1) rfl⟩
    ·simp[g2]
     refine .take (by decide) (fun hi=>?_) (fun hi=>?_)
     ·have hl3:=ax hW hi
      simp[-Int.natCast_add,aF hW hb2,hi,Tk.cells];refine .callW (ihE n (by omega) (b2+1) d h0 h1 hl3) (fun e b3 hb3 hab3 g3=>?_) (fun e x b3 d' g3=>?_)
      ·exact .pure hb3 (by simp[-Int.natCast_add,g3]) (.of (m:=[0,1]) (k:=0) (ys:=[iv 7,sv eB,iv 0,iv 0,sv eB,iv 0,nS,.rows [eH e],nS,aZ l,iv (ai L a).at_]) (by omega) rfl (by simp[bJ,lJ,fe]))
      ·exact⟨_,by simp[-Int.natCast_add,g3],.of (m:=[0,1]) (b:=b3) (d:=d') (k:=1) rfl⟩
     ·exact⟨_,by simp[aF hW hb2,hi],.of (m:=[0,1]) (b:=b2) (d:=d) (k:=1) rfl⟩
   ·obtain⟨b2,d',rfl|⟨T,rfl⟩⟩:=hz
    ·exact⟨_,by simp[g2],.of (m:=[0,1]) (b:=b2) (d:=d') (k:=1) rfl⟩
    ·exact⟨_,by simp[g2],.of (m:=[0,1]) (b:=b2) (d:=d') (k:=1) rfl⟩
  ·exact⟨_,by simp[-Int.natCast_add,g],.of (m:=[0,1]) (b:=b) (d:=d') (k:=1) rfl⟩
end
set_option maxRecDepth 10000
def af8(L:List Tk)(t:Tk)(a:Nat)(d:Int)(v:Ex)(b:Nat)(z:Rs):Prop:=a≤b∧∃(ks':List Ex) (B':List (List PV)),v=iP 5 eB 0 ks' t.at_∧Raw 11 B' (ks'.map Ex.cells)∧z=(3,ps L b d (iv 5::sv eB::iv 0::iv 0::sv eB::iv 0::nS :: .rows B'::nS::nS::iv t.at_::iv t.kind::sv t.text::iv t.n::iv t.at_::zE))
def alh(L:List Tk)(t:Tk)(v0:Ex)(a:Nat)(d:Int)(v:Ex)(b:Nat)(z:Rs):Prop:=a≤b∧(v=v0∧z=(1,ps L b d (eH v0++iv t.kind::sv t.text::iv t.n::iv t.at_::zE))∨af8 L t a d v b z)
section
variable{L:List Tk}(hW:Gg L)
include hW
theorem aha{n:Nat}(ihA:∀m,m≤n→Pa L (pAm L) eH (iY L m))(t:Tk):∀(m:Nat),m≤n→∀(ks:List Ex) (B:List (List PV)) (a:Nat) (d:Int),Raw 11 B (ks.map Ex.cells)→0≤d→d≤300→a<L.length→lI L (Qk (aU L) (iv a) (iv d) B (iv t.at_) (iv t.kind) (sv t.text) (iv t.n) (iv t.at_)) (jF L m t.at_ (iP 5 eB 0 ks t.at_) d a)
  (af8 L t a d)
  (fun e x z=>∃(b:Nat) (d':Int) (T:PV),z=(2,ps L b d' (iv 5::sv eB::iv 0::iv 0::sv eB::iv 0::nS::T::nS::nS::iv t.at_::iv t.kind::sv t.text::iv t.n::iv t.at_::(zE++[iv e,iv x])))):=by
 intro m hm
 induction m with
 |zero=>intro ks B a d hr h0 h1 ha;rw[jF];trivial
 |succ m ih=>
  intro ks B a d hr h0 h1 ha;refine .of ?_;rw[jF.eq_2,ad1];simp[R4 hW ha];refine .st (fun hs=>?_) (fun hs=>?_)
  ·simp[hs]
   refine .callW (ihA m (by omega) a d h0 h1 ha) (fun v b hb hab g=>?_) (fun e x b d' g=>?_)
   ·simp[g]
    have hr2:Raw 11 [[iv 5,sv eB,iv 0,iv 0,sv eB,iv 0,nS,.rows B,nS,nS,iv t.at_],eH v] ([iP 5 eB 0 ks t.at_,v].map Ex.cells):=Fa.raw 5 eB 0 ks t.at_ _ (.inr ⟨B,rfl,hr⟩) (.plain v);have hn:=ih (by omega) [iP 5 eB 0 ks t.at_,v] _ b d hr2 h0 h1 hb;cases hr:jF L m t.at_ (iP 5 eB 0 [iP 5 eB 0 ks t.at_,v] t.at_) d b with
    |out=>trivial
    |err e x=>rw[hr] at hn;obtain⟨z,g1,b3,d',T,rfl⟩:=hn;exact⟨_,by simp[g1],b3,d',T,rfl⟩
    |ok v2 b3=>rw[hr] at hn;obtain⟨hb3,z,g1,h5,ks',B',h6,h7,rfl⟩:=hn;exact⟨hb3,_,by simp[g1],by omega,ks',B',h6,h7,rfl⟩
   ·exact⟨_,by simp[g],b,d',.rows B,rfl⟩
  ·exact .pure ha (by simp[hs]) ⟨Nat.le_refl _,ks,B,rfl,hr,rfl⟩
theorem acp{n:Nat}(ihA:∀m,m≤n→Pa L (pAm L) eH (iY L m))(t:Tk)(m:Nat)(hm:m≤n)(v0:Ex)(a:Nat)(d:Int)(h0:0≤d)(h1:d≤300)(ha:a<L.length):lI L (Ql (aU L) (iv a) (iv d) (iv v0.kind) (sv v0.name) (iv v0.n) (iv v0.t.kind) (sv v0.t.name) (iv v0.t.n) (bH v0.t.kids) (exs v0.kids) (eu v0.alts) (aZ v0.binds) (iv v0.at_) (iv t.kind) (sv t.text) (iv t.n) (iv t.at_)) (jF L m t.at_ v0 d a)
  (alh L t v0 a d)
  (fun e x z=>∃(b:Nat) (d':Int),z=(0,ps L b d' (eH v0++iv t.kind::sv t.text::iv t.n::iv t.at_::(zE++[iv e,iv x])))∨∃(T:PV),z=(2,ps L b d' (iv 5::sv eB::iv 0::iv 0::sv eB::iv 0::nS::T::nS::nS::iv t.at_::iv t.kind::sv t.text::iv t.n::iv t.at_::(zE++[iv e,iv x])))):=by
 cases m with
 |zero=>rw[jF];trivial
 |succ m=>
  refine .of ?_;rw[jF.eq_2,ad2];simp[R4 hW ha];refine .st (fun hs=>?_) (fun hs=>?_)
  ·simp[hs]
   refine .callW (ihA m (by omega) a d h0 h1 ha) (fun v b hb hab g=>?_) (fun e x b d' g=>?_)
   ·simp[g]
    have hn:=aha hW ihA t m (by omega) [v0,v] _ b d (Fa.two (.plain v0) (.plain v)) h0 h1 hb;cases hr:jF L m t.at_ (iP 5 eB 0 [v0,v] t.at_) d b with
    |out=>trivial
    |err e x=>rw[hr] at hn;obtain⟨z,g1,b3,d',T,rfl⟩:=hn;exact⟨_,by simp[g1],b3,d',.inr ⟨T,rfl⟩⟩
    |ok v2 b3=>rw[hr] at hn;obtain⟨hb3,z,g1,h5,ks',B',h6,h7,rfl⟩:=hn;exact⟨hb3,_,by simp[g1],by omega,.inr ⟨by omega,ks',B',h6,h7,rfl⟩⟩
   ·exact⟨_,by simp[g],b,d',.inl rfl⟩
  ·exact .pure ha (by simp[hs]) ⟨Nat.le_refl _,.inl ⟨rfl,rfl⟩⟩
theorem UC{n:Nat}(ihE:∀m,m≤n→Pa L (R6 L) eH (fK L m))(ihA:∀m,m≤n→Pa L (pAm L) eH (iY L m))(hLa:∀m,m≤n→∀(w:Int) (a:Nat) (d:Int),0≤d→d≤300→a<L.length→lI L (pLa L w a d) (iw L m w d a) (YR L a d 0 eH) (Vz L 1))
  (hLt:∀m,m≤n→∀(a:Nat) (d:Int),0≤d→d≤300→a<L.length→lG L acv a=true→lI L (pLt L a d) (dV L WU (qY L m 1 (ai L a).at_) (qY L m 0 (ai L a).at_) d (a+1)) (YR L a d 0 eH) (Vz L 1)):Pa L (pOp L) eH (fI L (n+1)):=by
 intro a d h0 h1 ha;refine .weak (alJ ev _ _ _) (.of ?_);rw[fI.eq_2,aql];simp[eP ha,Tk.cells];simp[NT hW ha];have hw:=hW.w1 ha;refine .next (.may (fun hb=>?_) (fun hb=>.may (fun hl=>?_) (fun hl=>.may (fun hi=>?_) (fun hi=>?_))))
 ·have hl1:=ax hW hb
  simp[-Int.natCast_add,hb,hw];have hn:=hLa n (Nat.le_refl _) (ai L a).at_ (a+1) d h0 h1 hl1;cases hr:iw L n (ai L a).at_ d (a+1) with
  |out=>trivial
  |err e x=>rw[hr] at hn;obtain⟨z,g,b,d',rfl⟩:=hn;exact⟨_,by simp[-Int.natCast_add,g],.of (m:=[0,1,0,0,0,0,0,0,0,0,0,0,0,0,0,0,0]) (b:=b) (d:=d') (k:=1) rfl⟩
  |ok v b=>rw[hr] at hn;obtain⟨hb,z,g,hab,rfl⟩:=hn;exact⟨hb,_,by simp[-Int.natCast_add,g],.of (m:=[0,1,0,0,0,0,0,0,0,0,0,0,0,0,0,0,0]) (k:=0) (ys:=eH v) (by omega) rfl (by simp)⟩
 ·simp[hb,hl]
  have hn:=hLt n (Nat.le_refl _) a d h0 h1 ha hl;cases hr:dV L WU (qY L n 1 (ai L a).at_) (qY L n 0 (ai L a).at_) d (a+1) with
  |out=>trivial
  |err e x=>rw[hr] at hn;obtain⟨z,g,b,d',rfl⟩:=hn;exact⟨_,by simp[g],.of (m:=[0,1,0,0,0,0,0,0,0,0,0,0,0,0,0,0,0]) (b:=b) (d:=d') (k:=1) rfl⟩
  |ok v b=>rw[hr] at hn;obtain⟨hb,z,g,hab,rfl⟩:=hn;exact⟨hb,_,by simp[g],.of (m:=[0,1,0,0,0,0,0,0,0,0,0,0,0,0,0,0,0]) (k:=0) (ys:=eH v) (by omega) rfl (by simp)⟩
 ·have hl1:=ax hW hi
  simp[-Int.natCast_add,hb,hl,hi,hw];have hE:=ihE n (Nat.le_refl _);refine .callW (hE (a+1) d h0 h1 hl1) (fun v1 b1 hb1 hab1 g1=>?_) (fun e x b1 d' g1=>?_)
  ·simp[-Int.natCast_add,g1]
   refine .take (by decide) (fun hc=>?_) (fun hc=>?_)
   ·have hl2:=ax hW hc
    simp[-Int.natCast_add,aF hW hb1,hc,Tk.cells];refine .callW (hE (b1+1) d h0 h1 hl2) (fun v2 b2 hb2 hab2 g2=>?_) (fun e x b2 d' g2=>?_)
    ·simp[-Int.natCast_add,g2]
     refine .take (by decide) (fun hd=>?_) (fun hd=>?_)
     ·have hl3:=ax hW hd
      simp[-Int.natCast_add,aF hW hb2,hd,Tk.cells];refine .callW (hE (b2+1) d h0 h1 hl3) (fun v3 b3 hb3 hab3 g3=>?_) (fun e x b3 d' g3=>?_)
      ·exact .pure hb3 (by simp[-Int.natCast_add,g3]) (.of (m:=[0,1,0,0,0,0,0,0,0,0,0,0,0,0,0,0,0]) (k:=2) (ys:=[iv 9,sv eB,iv 0,iv 0,sv eB,iv 0,nS,.rows [eH v1,eH v2,eH v3],nS,nS,iv (ai L a).at_]) (by omega) rfl (by simp[bJ,iH,kg,Ga]))
      ·exact⟨_,by simp[-Int.natCast_add,g3],.of (m:=[0,1,0,0,0,0,0,0,0,0,0,0,0,0,0,0,0]) (b:=b3) (d:=d') (k:=1) rfl⟩
     ·exact⟨_,by simp[-Int.natCast_add,aF hW hb2,hd],.of (m:=[0,1,0,0,0,0,0,0,0,0,0,0,0,0,0,0,0]) (b:=b2) (d:=d) (k:=1) rfl⟩
    ·exact⟨_,by simp[-Int.natCast_add,g2],.of (m:=[0,1,0,0,0,0,0,0,0,0,0,0,0,0,0,0,0]) (b:=b2) (d:=d') (k:=1) rfl⟩
   ·exact⟨_,by simp[-Int.natCast_add,aF hW hb1,hc],.of (m:=[0,1,0,0,0,0,0,0,0,0,0,0,0,0,0,0,0]) (b:=b1) (d:=d) (k:=1) rfl⟩
  ·exact⟨_,by simp[-Int.natCast_add,g1],.of (m:=[0,1,0,0,0,0,0,0,0,0,0,0,0,0,0,0,0]) (b:=b1) (d:=d') (k:=1) rfl⟩
 ·simp[hb,hl,hi]
  refine .callW (ihA n (Nat.le_refl _) a d h0 h1 ha) (fun v b hb2 hab g=>?_) (fun e x b d' g=>?_)
  ·simp[g]
   have hn:=acp hW ihA (ai L a) n (Nat.le_refl _) v b d h0 h1 hb2;cases hr:jF L n (ai L a).at_ v d b with
   |out=>trivial
   |err e x=>
    rw[hr] at hn;obtain⟨z,g1,b3,d',rfl|⟨T,rfl⟩⟩:=hn
    ·exact⟨_,by simp[g1],.of (m:=[0,1,0,0,0,0,0,0,0,0,0,0,0,0,0,0,0]) (b:=b3) (d:=d') (k:=1) rfl⟩
    ·exact⟨_,by simp[g1],.of (m:=[0,1,0,0,0,0,0,0,0,0,0,0,0,0,0,0,0]) (b:=b3) (d:=d') (k:=1) rfl⟩
   |ok v2 b3=>
    rw[hr] at hn;obtain⟨hb3,z,g1,h5,hz⟩:=hn;rcases hz with⟨rfl,rfl⟩|⟨_,ks',B',rfl,h7,rfl⟩
    ·exact⟨hb3,_,by simp[g1],.of (m:=[0,1,0,0,0,0,0,0,0,0,0,0,0,0,0,0,0]) (k:=0) (ys:=eH v2) (by omega) rfl (by simp)⟩
    ·exact⟨hb3,_,by simp[g1],.of (m:=[0,1,0,0,0,0,0,0,0,0,0,0,0,0,0,0,0]) (k:=2) (ys:=[iv 5,sv eB,iv 0,iv 0,sv eB,iv 0,nS,.rows B',nS,nS,iv (ai L a).at_]) (by omega) rfl (by simp[h7.wd,exs])⟩
  ·exact⟨_,by simp[g],.of (m:=[0,1,0,0,0,0,0,0,0,0,0,0,0,0,0,0,0]) (b:=b) (d:=d') (k:=1) rfl⟩
end
set_option maxRecDepth 10000
theorem acY(x:ByteArray):ev (q99 (sv x))=some (0,[iv (jo x:Nat),iv (bW (jo x):Nat)]):=ay.of (by
 rw[h99];unfold jo;by_cases h0:x=⟨#[58,61]⟩
 ·simp[h0,bW]
 by_cases h1:x=⟨#[124,124]⟩
 ·simp[h1,bW]
 by_cases h2:x=⟨#[38,38]⟩
 ·simp[h2,bW]
 by_cases h3:x=⟨#[61,61]⟩
 ·simp[h3,bW]
 by_cases h4:x=⟨#[47,61]⟩
 ·simp[h4,bW]
 by_cases h5:x=⟨#[60]⟩
 ·simp[h5,bW]
 by_cases h6:x=⟨#[60,61]⟩
 ·simp[h6,bW]
 by_cases h7:x=⟨#[62]⟩
 ·simp[h7,bW]
 by_cases h8:x=⟨#[62,61]⟩
 ·simp[h8,bW]
 by_cases h9:x=⟨#[58,58]⟩
 ·simp[h9,bW]
 by_cases h10:x=⟨#[94]⟩
 ·simp[h10,bW]
 by_cases h11:x=⟨#[43]⟩
 ·simp[h11,bW]
 by_cases h12:x=⟨#[45]⟩
 ·simp[h12,bW]
 by_cases h13:x=⟨#[42]⟩
 ·simp[h13,bW]
 by_cases Fw:x=⟨#[47]⟩
 ·simp[Fw,bW]
 by_cases h15:x=⟨#[37]⟩
 ·simp[h15,bW]
 simp[h0,h1,h2,h3,h4,h5,h6,h7,h8,h9,h10,h11,h12,h13,Fw,h15,bW])
structure AP(e:Ex)(c:List PV):Prop where
 w:dL c=e.cells
 l:c.length=11
 n:kM c
theorem AP.two{x y:Ex}{c e:List PV}(hx:AP x c)(hy:AP y e):Raw 11 [c,e] ([x,y].map Ex.cells):=(Raw.one hx.w hx.l hx.n).app hy.w hy.l hy.n
theorem AP.mk'(k:Int)(s:ByteArray)(n:Int)(ks:List Ex)(a:Int){B:List (List PV)}(hB:Raw 11 B (ks.map Ex.cells)):AP (iP k s n ks a) [iv k,sv s,iv n,iv 0,sv eB,iv 0,nS,.rows B,nS,nS,iv a]:=
 ⟨by rw[Ex.cells_eq];simp only[uj,Kj,Pq,Po,Pp,hB.wd];rfl,rfl,by have:=hB.ns';simp[this]⟩
theorem AP.var(k:Int)(s:ByteArray)(n:Int)(a:Int):AP (iP k s n [] a) [iv k,sv s,iv n,iv 0,sv eB,iv 0,nS,nS,nS,nS,iv a]:=⟨by rw[Ex.cells_eq];simp,rfl,by simp⟩
theorem AP.plain(e:Ex):AP e (eH e):=⟨by rw[Ex.cells_eq];simp,rfl,by simp⟩
theorem ac0(t:Tk){x y:Ex}{x0 x1 x2 x3 x4 x5 x6 x7 x8 x9 x10 y0 y1 y2 y3 y4 y5 y6 y7 y8 y9 y10:PV}(hx:AP x [x0,x1,x2,x3,x4,x5,x6,x7,x8,x9,x10])(hy:AP y [y0,y1,y2,y3,y4,y5,y6,y7,y8,y9,y10]):∃zs,ev (q74 (iv t.kind) (sv t.text) (iv t.n) (iv t.at_) x0 x1 x2 x3 x4 x5 x6 x7 x8 x9 x10 y0 y1 y2 y3 y4 y5 y6 y7 y8 y9 y10)=some (0,zs)∧AP (opE t x y) zs:=by
 unfold opE;by_cases h1:t.text=⟨#[38,38]⟩
 ·rw[if_pos h1]
  exact⟨_,ay.of (by rw[h74];simp[h1]),.mk' 10 eB 0 [x,y] t.at_ (hx.two hy)⟩
 ·rw[if_neg h1]
  by_cases h2:t.text=⟨#[124,124]⟩
  ·rw[if_pos h2]
   exact⟨_,ay.of (by rw[h74];simp[h2]),.mk' 11 eB 0 [x,y] t.at_ (hx.two hy)⟩
  ·rw[if_neg h2]
   exact⟨_,ay.of (by rw[h74];simp[h1,h2]),.mk' 5 eB 0 _ t.at_ ((AP.mk' 5 eB 0 _ t.at_ ((AP.var 3 t.text 0 t.at_).two hx)).two hy)⟩
def r1{α:Type}(e:α→PV)(l:List α):PV:=.rows (l.map fun x=>[e x])
theorem Af{α:Type}{e:α→PV}(he:∀x,NS (e x))(l:List α):NS (r1 e l):=.rows _ fun c hc p hp=>by
 obtain⟨x,hx,rfl⟩:=List.mem_map.1 hc;rw[List.mem_singleton.1 hp];exact he x
section
variable{β:Type}{d:β}{α:Type}{e:α→PV}{t:TypeId}{b:Nat}
theorem Sn{k:AV→β}(ht:ja PG t 1 b)(l:List α):gG PG d t (.pv (r1 e l)) k=k (.pv (iv l.length)):=by
 rw[r1,eY (fun _=>iQ ht _) (bD _),List.length_map]
theorem Sy{k:AV→β}(ht:ja PG t 1 b)(he:∀x,NS (e x)){l:List α}{i:Nat}{x:α}(h:l[i]? = some x):fG PG d t (.pv (r1 e l)) (.pv (.lit (.int .i64 (i:Int)))) k=k (.cptr [e x]):=
 iy (fun _=>jL ht (by rw[List.getElem?_map,h];rfl) rfl) (.cptr _ fun p hp=>by rw[List.mem_singleton.1 hp];exact he x)
theorem afp{k:PV→β}(ht:ja PG t 1 b)(he:∀x,NS (e x))(hb:b≤100){l:List α}{x:α}(h:l.length≤1000000000):iO PG d t (.pv (r1 e l)) (.pv (.rows [[e x]])) k=k (r1 e (l++[x])):=by
 refine BR (fun w=>?_) (Af he _);have hbb:(l.length+1)*b≤140737488355328:=Nat.le_trans (Nat.mul_le_mul (show l.length+1≤1000000001 by omega) hb) (by decide);rw[r1,JV ht (es:=l.map fun x=>[e x]) (es':=[[e x]]) rfl rfl (by simp) (by simp) (by simp;omega) (by simpa using hbb)];rw[r1,List.map_append];exact Iff.rfl
theorem afo{k:PV→β}(ht:ja PG t 1 b)(he:∀x,NS (e x))(hb:b≤100){x:α}:iO PG d t (.pv (.lit (.slice none 0 0))) (.pv (.rows [[e x]])) k=k (r1 e [x]):=by
 refine BR (fun w=>?_) (Af he _);rw[JV ht (es:=[]) (es':=[[e x]]) rfl rfl (by simp) (by simp) (by simp) (by simp;omega)];exact Iff.rfl
theorem ab8{k:PV→β}(he:∀x,NS (e x)){l:List α}{i:Nat}{x:α}(h:i<l.length):GA d (r1 e l) (.lit (.int .i64 (i:Int))) 0 [e x] k=k (r1 e (l.set i x)):=by
 have hg:(l.map fun x=>[e x]).getD i []=[e l[i]]:=by
  rw[List.getD_eq_getElem?_getD,List.getElem?_map,List.getElem?_eq_getElem h];rfl
 have hs:setAt [e l[i]] 0 [e x]=[e x]:=rfl;have hset:(l.map fun x=>[e x]).set i [e x]=(l.set i x).map fun x=>[e x]:=by rw[List.map_set]
 refine kS (lD (fun w=>?_) (Af he _));constructor
 ·rintro⟨es,n,kd,g1,g2,g3,g4,g5,rfl,_⟩
  cases g1;cases g2;rw[Int.toNat_natCast,hg,hs,hset];rfl
 ·rintro rfl
  refine⟨_,_,_,rfl,rfl,by omega,by rw[Int.toNat_natCast,List.length_map];exact h,?_,?_,Dg (Af he _)⟩
  ·rw[Int.toNat_natCast,hg];exact Nat.le_refl 1
  ·rw[Int.toNat_natCast,hg,hs,hset];rfl
theorem aie{k:PV→β}(ht:ja PG t 1 b)(he:∀x,NS (e x))(hb:b≤100){z:α}{el:TypeId}(h1:PG.underlying t=some (.slice el))(h2:mO PG el=some 1)(hby:iT PG el=some b)(h3:j6 PG el=some [.pv (e z)]){n:Nat}(h:n≤1000000):mkK PG d t (.pv (iv n)) k=k (r1 e (List.replicate n z)):=by
 have hr:(List.replicate n z).map (fun x=>[e x])=List.replicate n [e z]:=List.map_replicate;refine kS (lD (fun w=>?_) (Af he _));constructor
 ·rintro⟨e',sz,by_,zc,z',m,g1,g2,g3,g4,g5,g6,g7,g8,g9,g10,rfl,_⟩
  rw[h1] at g1;cases g1;rw[h3] at g4;cases g4;have hz:z'=[e z]:=by
   have:zY [AV.pv (e z)]=some [e z]:=rfl;rw[this] at g5;exact(Option.some.inj g5).symm
  have hm:m=n:=by
   have:su (.pv (iv n))=some (n:Int):=rfl;rw[this] at g8;have:=Option.some.inj g8;omega
  rw[hz,hm,r1,hr]
 ·rintro rfl
  refine⟨el,1,b,[.pv (e z)],[e z],n,h1,h2,hby,h3,rfl,Nat.one_pos,rfl,rfl,?_,?_,by rw[r1,hr],Dg (Af he _)⟩
  ·exact Nat.le_trans h (by decide)
  ·exact Nat.le_trans (Nat.mul_le_mul h hb) (by decide)
end
theorem ab5{β:Type}{d:β}{α:Type}{e:α→PV}{t:TypeId}{b:Nat}{k:AV→β}(ht:ja PG t 1 b)(he:∀x,NS (e x)){l:List α}{i:Nat}(h:i≤l.length):Fe PG d t (.pv (r1 e l)) (some (.pv (.lit (.int .i64 0)))) (some (.pv (.lit (.int .i64 (i:Int))))) k=k (.pv (r1 e (l.take i))):=
 PI (PE (by
  have:=agW ht (es:=l.map fun x=>[e x]) (m:=i) (by simpa using h);rw[←List.map_take] at this;intro ρ lo m h1 h2;cases lo with
  |none=>exact h1.elim
  |some z=>exact(Aa h1).trans (this ρ none m trivial h2))) (.pv _ (Af he _))
def eN(n:Nat):PV:=iv n
theorem Gb(x:Nat):NS (eN x):=.lit _
def gq(l:List Nat):PV:=r1 eN l
theorem Ff:ja PG 47 1 8:=ja.of (by kernel_rfl)
section
variable{β:Type}{d:β}{k:AV→β}{kp:PV→β}
@[simp] theorem adh(l:List Nat):gG PG d 47 (.pv (gq l)) k=k (.pv (iv l.length)):=Sn Ff l
theorem iX{l:List Nat}{i x:Nat}(h:l[i]? = some x):fG PG d 47 (.pv (gq l)) (.pv (.lit (.int .i64 (i:Int)))) k=k (.cptr [iv x]):=Sy Ff Gb h
theorem Gz{l:List Nat}{i x:Nat}(h:i<l.length):GA d (gq l) (.lit (.int .i64 (i:Int))) 0 [.lit (.int .i64 (x:Int))] kp=kp (gq (l.set i x)):=ab8 Gb h
theorem pq{l:List Nat}{x:Nat}(h:l.length≤1000000000):iO PG d 47 (.pv (gq l)) (.pv (.rows [[.lit (.int .i64 (x:Int))]])) kp=kp (gq (l++[x])):=afp Ff Gb (by decide) h
theorem JW{x:Nat}:iO PG d 47 (.pv (.lit (.slice none 0 0))) (.pv (.rows [[.lit (.int .i64 (x:Int))]])) kp=kp (gq [x]):=afo Ff Gb (by decide)
theorem xg{l:List Nat}{i:Nat}(h:i≤l.length):Fe PG d 47 (.pv (gq l)) (some (.pv (.lit (.int .i64 0)))) (some (.pv (.lit (.int .i64 (i:Int))))) k=k (.pv (gq (l.take i))):=ab5 Ff Gb h
theorem YZ{n:Nat}(h:n≤1000000):mkK PG d 47 (.pv (iv n)) kp=kp (gq (List.replicate n 0)):=aie (z:=0) Ff Gb (by decide) (el:=3) (by kernel_rfl) (by kernel_rfl) (by kernel_rfl) (by kernel_rfl) h
end
section
variable(V:Nat→Nat)
def iN(f:Nat):Nat→Nat
 |0=>f
 |k+1=>if V (f+1+k)<V (iN f k)∨V (f+1+k)=V (iN f k)∧bW (V (iN f k))=1 then f+1+k else iN f k
theorem F8(f to:Nat):∀(n k:Nat),to-(f+1+k)≤n→f+1+k≤to→jE V to n (f+1+k) (iN V f k)=iN V f (to-f-1)
 |0,k,h1,h2=>by
  have:to-f-1=k:=by omega
  rw[jE,this]
 |n+1,k,h1,h2=>by
  rw[jE];by_cases h:f+1+k<to
  ·rw[if_pos h]
   have:=F8 f to n (k+1) (by omega) (by omega);rw[iN] at this;exact this
  ·rw[if_neg h]
   have:to-f-1=k:=by omega
   rw[this]
theorem Oc(f:Nat):∀k,f≤iN V f k∧iN V f k≤f+k
 |0=>by simp[iN]
 |k+1=>by
  have:=Oc f k;rw[iN];split<;>omega
theorem nH{f to:Nat}(h:f<to):f≤iN V f (to-f-1)∧iN V f (to-f-1)<to:=by
 have:=Oc V f (to-f-1);omega
theorem ads{f to:Nat}(h:f<to):jE V to to (f+1) f=iN V f (to-f-1):=F8 V f to to 0 (by omega) (by omega)
theorem IC(f:Nat):∀k j,iN V f k<j→j≤f+k→V (iN V f k)<V j∨V (iN V f k)=V j∧bW (V j)≠1
 |0,j,h1,h2=>by simp[iN] at h1;omega
 |k+1,j,h1,h2=>by
  rw[iN] at h1 ⊢;split at h1
  ·omega
  ·rename_i hc
   rw[if_neg hc];by_cases hj:j=f+1+k
   ·subst hj
    rcases Nat.lt_trichotomy (V (iN V f k)) (V (f+1+k)) with h|h|h
    ·exact .inl h
    ·refine .inr ⟨h,fun h3=>hc (.inr ⟨h.symm,by rw[h];exact h3⟩)⟩
    ·exact absurd (.inl h) hc
   ·exact IC f k j h1 (by omega)
def oM:Nat→Nat→Nat→List Nat
 |0,_,_=>[]
 |n+1,f,to=>if f=to then [] else oM n f (iN V f (to-f-1))++oM n (iN V f (to-f-1)+1) to++[iN V f (to-f-1)]
theorem Be:∀(n m f to:Nat),f≤to→to-f≤n→to-f≤m→oM V n f to=oM V m f to
 |0,0,f,to,h,h1,h2=>rfl
 |0,m+1,f,to,h,h1,h2=>by
  obtain rfl:f=to:=by omega
  simp[oM]
 |n+1,0,f,to,h,h1,h2=>by
  obtain rfl:f=to:=by omega
  simp[oM]
 |n+1,m+1,f,to,h,h1,h2=>by
  rw[oM,oM];by_cases hf:f=to
  ·simp[hf]
  ·have:=nH V (f:=f) (to:=to) (by omega)
   rw[if_neg hf,if_neg hf,Be n m f _ (by omega) (by omega) (by omega),Be n m _ to (by omega) (by omega) (by omega)]
def Yp(f to:Nat):List Nat:=oM V (to-f) f to
theorem uF(f:Nat):Yp V f f=[]:=by unfold Yp;simp[oM]
theorem NM{f to:Nat}(h:f<to):Yp V f to=Yp V f (iN V f (to-f-1))++Yp V (iN V f (to-f-1)+1) to++[iN V f (to-f-1)]:=by
 have hl:=nH V h;unfold Yp;obtain⟨n,hn⟩:∃n,to-f=n+1:=⟨to-f-1,by omega⟩;rw[hn,oM,if_neg (by omega)];rw[hn] at hl;rw[hn,Be V n _ f _ (by omega) (by omega) (Nat.le_refl _),Be V n _ _ to (by omega) (by omega) (Nat.le_refl _)]
def yS:Nat→Nat→Nat→List Nat
 |0,_,_=>[]
 |n+1,f,to=>if f=to then [] else yS n (iN V f (to-f-1)+1) to++[iN V f (to-f-1)]
def NV:Nat→Nat→Nat→List Nat
 |0,_,_=>[]
 |n+1,f,to=>if f=to then [] else Yp V f (iN V f (to-f-1))++NV n (iN V f (to-f-1)+1) to
theorem Bh:∀(n f to:Nat),f≤to→to-f≤n→NV V n f to++yS V n f to=Yp V f to
 |0,f,to,h,h1=>by
  obtain rfl:f=to:=by omega
  simp[NV,yS,uF]
 |n+1,f,to,h,h1=>by
  rw[NV,yS];by_cases hf:f=to
  ·subst hf;simp[uF]
  ·have hl:=nH V (f:=f) (to:=to) (by omega)
   have ih:=Bh n (iN V f (to-f-1)+1) to (by omega) (by omega);rw[if_neg hf,if_neg hf,NM V (f:=f) (to:=to) (by omega),←ih];simp
def lU(i:Nat):List Nat→List Nat→Option (List Nat×List Nat)
 |[],out=>some ([],out)
 |t::st,out=>if V t<V i∨V t=V i∧bW (V i)=2 then some (t::st,out) else if V t=V i∧bW (V i)=0 then none else lU i st (out++[t])
def gF(len:Nat):Nat→Nat→List Nat→List Nat→Except Nat (List Nat)
 |0,i,st,out=>.ok (out++st)
 |n+1,i,st,out=>if i<len then(match lU V i st out with
  |none=>.error i
  |some (st',out')=>gF len n (i+1) (i::st') out') else .ok (out++st)
theorem Lb(i:Nat):∀(a b out:List Nat),(∀t∈a,V i<V t∨V t=V i∧bW (V i)=1)→lU V i (a++b) out=lU V i b (out++a)
 |[],b,out,h=>by simp
 |t::a,b,out,h=>by
  have ht:=h t (by simp);have h1:¬(V t<V i∨V t=V i∧bW (V i)=2):=by rcases ht with ht|⟨h1,h2⟩<;>rintro (h3|⟨h3,h4⟩)<;>omega
  have h2:¬(V t=V i∧bW (V i)=0):=by rcases ht with ht|⟨h1,h2⟩<;>rintro⟨h3,h4⟩<;>omega
  rw[List.cons_append,lU,if_neg h1,if_neg h2,Lb i a b _ (fun t' h'=>h t' (by simp[h']))];simp
theorem Nu:∀(n f to:Nat),f≤to→to-f≤n→∀t∈yS V n f to,f≤t∧t<to
 |0,f,to,h,h1,t,ht=>by simp[yS] at ht
 |n+1,f,to,h,h1,t,ht=>by
  rw[yS] at ht;by_cases hf:f=to
  ·simp[hf] at ht
  ·have hl:=nH V (f:=f) (to:=to) (by omega)
   rw[if_neg hf] at ht;rcases List.mem_append.1 ht with ht|ht
   ·have:=Nu n _ to (by omega) (by omega) t ht;omega
   ·rw[List.mem_singleton.1 ht];omega
theorem aoG{k:Nat}(h:bW k=0):k=4:=by
 unfold bW at h;split at h
 ·assumption
 ·split at h<;>omega
theorem qg(k:Nat):bW k=0∨bW k=1∨bW k=2:=by
 unfold bW;split
 ·simp
 ·split<;>simp
theorem agV(i:Nat):∀(n f:Nat),f<i→i-f≤n→(V i<V (iN V f (i-f-1))∨V i=V (iN V f (i-f-1))∧bW (V i)=1)→∀t∈yS V n f i,V i<V t∨V t=V i∧bW (V i)=1:=by
 intro n f hf hn hb t ht;have hin:=Nu V n f i (by omega) hn t ht;by_cases h:t=iN V f (i-f-1)
 ·subst h;rcases hb with hb|⟨h1,h2⟩
  ·exact .inl hb
  ·exact .inr ⟨h1.symm,h2⟩
 ·by_cases h2:iN V f (i-f-1)<t
  ·have:=IC V f (i-f-1) t h2 (by omega)
   rcases hb with hb|⟨h1,h3⟩
   ·rcases this with h4|⟨h4,_⟩<;>exact .inl (by omega)
   ·rcases this with h4|⟨h4,h5⟩
    ·exact .inl (by omega)
    ·rw[←h4,←h1] at h5;exact absurd h3 h5
  ·exfalso
   obtain⟨n,rfl⟩:∃k,n=k+1:=⟨n-1,by omega⟩;rw[yS,if_neg (by omega)] at ht;have hl:=nH V hf;rcases List.mem_append.1 ht with ht|ht
   ·have:=Nu V n _ i (by omega) (by omega) t ht;omega
   ·exact h (List.mem_singleton.1 ht)
theorem FL(n f:Nat):yS V n f f=[]:=by cases n<;>simp[yS]
theorem Lf(n f:Nat):NV V n f f=[]:=by cases n<;>simp[NV]
theorem xu(n:Nat){f to s:Nat}(h:f<to)(hs:iN V f (to-f-1)=s):yS V (n+1) f to=yS V n (s+1) to++[s]:=by rw[yS,if_neg (by omega),hs]
theorem Lg(n:Nat){f to s:Nat}(h:f<to)(hs:iN V f (to-f-1)=s):NV V (n+1) f to=Yp V f s++NV V n (s+1) to:=by rw[NV,if_neg (by omega),hs]
theorem uO(f:Nat):iN V f (f+1-f-1)=f:=by rw[show f+1-f-1=0 by omega];rfl
theorem LA{f i:Nat}(h:f<i):iN V f (i+1-f-1)=if V i<V (iN V f (i-f-1))∨V i=V (iN V f (i-f-1))∧bW (V (iN V f (i-f-1)))=1 then i else iN V f (i-f-1):=by
 obtain⟨k,hk⟩:∃k,i-f-1=k:=⟨_,rfl⟩;have e1:i+1-f-1=k+1:=by omega
 have e2:f+1+k=i:=by omega
 rw[hk,e1,iN,e2]
theorem La(i:Nat):∀(n f:Nat) (rest out:List Nat),f≤i→i-f≤n→∃st' P,yS V (n+1) f (i+1)=i::st'∧NV V n f i++P=NV V (n+1) f (i+1)∧
  lU V i (yS V n f i++rest) out=(match st' with
   |[]=>lU V i rest (out++P)
   |t::_=>if V t=V i∧bW (V i)=0 then none else some (st'++rest,out++P)):=by
 intro n
 induction n with
 |zero=>
  intro f rest out hf hn;have:f=i:=by omega
  subst this;exact⟨[],[],by rw[xu V 0 (Nat.lt_succ_self f) (uO V f),FL];rfl,by rw[Lg V 0 (Nat.lt_succ_self f) (uO V f),Lf,Lf,uF],by simp[yS]⟩
 |succ n ih=>
  intro f rest out hf hn;by_cases hfi:f=i
  ·subst hfi
   exact⟨[],[],by rw[xu V (n+1) (Nat.lt_succ_self f) (uO V f),FL];rfl,by rw[Lg V (n+1) (Nat.lt_succ_self f) (uO V f),Lf,Lf,uF],by simp[yS]⟩
  ·have hl:=nH V (f:=f) (to:=i) (by omega)
   have hs:=LA V (f:=f) (i:=i) (by omega);by_cases hb:V i<V (iN V f (i-f-1))∨V i=V (iN V f (i-f-1))∧bW (V (iN V f (i-f-1)))=1
   ·rw[if_pos hb] at hs
    have hb':V i<V (iN V f (i-f-1))∨V i=V (iN V f (i-f-1))∧bW (V i)=1:=by
     rcases hb with hb|⟨h1,h2⟩
     ·exact .inl hb
     ·exact .inr ⟨h1,by rw[h1];exact h2⟩
    refine⟨[],yS V (n+1) f i,?_,?_,?_⟩
    ·rw[xu V (n+1) (by omega) hs,FL];rfl
    ·rw[Bh V (n+1) f i hf hn,Lg V (n+1) (by omega) hs,Lf];simp
    ·exact Lb V i _ _ _ (agV V i (n+1) f (by omega) hn hb')
   ·rw[if_neg hb] at hs
    obtain⟨st',P,c1,c2,c3⟩:=ih (iN V f (i-f-1)+1) (iN V f (i-f-1)::rest) out (by omega) (by omega);refine⟨st'++[iN V f (i-f-1)],P,?_,?_,?_⟩
    ·rw[xu V (n+1) (by omega) hs,c1];rfl
    ·rw[Lg V n (by omega) rfl,Lg V (n+1) (by omega) hs,←c2];simp
    ·have e1:yS V (n+1) f i++rest=yS V n (iN V f (i-f-1)+1) i++(iN V f (i-f-1)::rest):=by rw[xu V n (by omega) rfl];simp
     rw[e1,c3];cases st' with
     |cons t st'=>simp
     |nil=>
      simp only[List.nil_append];rw[lU];by_cases h1:V (iN V f (i-f-1))<V i∨V (iN V f (i-f-1))=V i∧bW (V i)=2
      ·rw[if_pos h1,if_neg (by rintro⟨h3,h4⟩;rcases h1 with h1|⟨_,h1⟩<;>omega)];rfl
      ·rw[if_neg h1]
       by_cases h2:V (iN V f (i-f-1))=V i∧bW (V i)=0
       ·rw[if_pos h2,if_pos h2]
       ·exfalso
        rcases Nat.lt_trichotomy (V i) (V (iN V f (i-f-1))) with h|h|h
        ·exact hb (.inl h)
        ·rcases qg (V i) with h5|h5|h5
         ·exact h2 ⟨h.symm,h5⟩
         ·exact hb (.inr ⟨h,by rw[←h];exact h5⟩)
         ·exact h1 (.inr ⟨h.symm,h5⟩)
        ·exact h1 (.inl h)
theorem Ob(f:Nat):∀k j,f≤j→j<iN V f k→V (iN V f k)<V j∨V (iN V f k)=V j∧bW (V (iN V f k))=1
 |0,j,h1,h2=>by simp[iN] at h2;omega
 |k+1,j,h1,h2=>by
  have hin:=Oc V f k;rw[iN] at h2 ⊢;split at h2
  ·rename_i hc
   rw[if_pos hc];have key:∀j,f≤j→j≤f+k→V (iN V f k)<V j∨V (iN V f k)=V j:=fun j h1 h2=>by
    rcases Nat.lt_trichotomy j (iN V f k) with h|h|h
    ·rcases Ob f k j h1 h with h|⟨h,_⟩
     ·exact .inl h
     ·exact .inr h
    ·exact .inr (by rw[h])
    ·rcases IC V f k j h h2 with h|⟨h,_⟩
     ·exact .inl h
     ·exact .inr h
   rcases hc with hc|⟨hc,hs⟩
   ·rcases key j h1 (by omega) with h|h<;>exact .inl (by omega)
   ·rcases key j h1 (by omega) with h|h
    ·exact .inl (by omega)
    ·exact .inr ⟨by omega,by rw[hc];exact hs⟩
  ·rename_i hc
   rw[if_neg hc];exact Ob f k j h1 h2
def ajg(f i:Nat):List Nat→Prop
 |[]=>∀j,f≤j→j<i→V i<V j∨V i=V j∧bW (V i)=1
 |t::_=>f≤t∧t<i∧(V t<V i∨V t=V i∧bW (V i)≠1)∧∀j,t<j→j<i→V i<V j∨V i=V j∧bW (V i)=1
theorem PD(i:Nat):∀(n f:Nat) (st':List Nat),f≤i→i-f≤n→yS V (n+1) f (i+1)=i::st'→ajg V f i st':=by
 intro n
 induction n with
 |zero=>
  intro f st' hf hn h;obtain rfl:f=i:=by omega
  rw[xu V 0 (Nat.lt_succ_self f) (uO V f),FL] at h;cases h;exact fun j h1 h2=>by omega
 |succ n ih=>
  intro f st' hf hn h;by_cases hfi:f=i
  ·subst hfi
   rw[xu V (n+1) (Nat.lt_succ_self f) (uO V f),FL] at h;cases h;exact fun j h1 h2=>by omega
  ·have hl:=nH V (f:=f) (to:=i) (by omega)
   have hs:=LA V (f:=f) (i:=i) (by omega);by_cases hb:V i<V (iN V f (i-f-1))∨V i=V (iN V f (i-f-1))∧bW (V (iN V f (i-f-1)))=1
   ·rw[if_pos hb] at hs
    rw[xu V (n+1) (by omega) hs,FL] at h;cases h;intro j h1 h2;have key:V (iN V f (i-f-1))<V j∨V (iN V f (i-f-1))=V j:=by
     rcases Nat.lt_trichotomy j (iN V f (i-f-1)) with h|h|h
     ·rcases Ob V f _ j h1 h with h|⟨h,_⟩
      ·exact .inl h
      ·exact .inr h
     ·exact .inr (by rw[h])
     ·rcases IC V f _ j h (by omega) with h|⟨h,_⟩
      ·exact .inl h
      ·exact .inr h
    rcases hb with hb|⟨hb,hc⟩
    ·rcases key with h|h<;>exact .inl (by omega)
    ·rcases key with h|h
     ·exact .inl (by omega)
     ·exact .inr ⟨by omega,by rw[hb];exact hc⟩
   ·rw[if_neg hb] at hs
    obtain⟨st2,P,c1,_,_⟩:=La V i n (iN V f (i-f-1)+1) [] [] (by omega) (by omega);have h5:=ih _ st2 (by omega) (by omega) c1;rw[xu V (n+1) (by omega) hs,c1] at h;have h6:st'=st2++[iN V f (i-f-1)]:=by simpa using h.symm
    subst h6;cases st2 with
    |cons t r=>exact⟨by have:=h5.1;omega,h5.2.1,h5.2.2.1,h5.2.2.2⟩
    |nil=>
     refine⟨by omega,by omega,?_,fun j h1 h2=>h5 j (by omega) h2⟩;rcases Nat.lt_trichotomy (V i) (V (iN V f (i-f-1))) with h|h|h
     ·exact absurd (.inl h) hb
     ·exact .inr ⟨h.symm,fun h7=>hb (.inr ⟨h,by rw[←h];exact h7⟩)⟩
     ·exact .inl h
theorem O8(V:Nat→Nat):∀(i t:Nat),t≤i→(∀j,t≤j→j<i→4<V j)→wQ V i=wQ V t
 |0,t,h,_=>by
  obtain rfl:t=0:=by omega
  rfl
 |i+1,t,h,hj=>by
  by_cases ht:t=i+1
  ·rw[ht]
  ·rw[wQ,if_pos (hj i (by omega) (by omega))]
   exact O8 V i t (by omega) fun j h1 h2=>hj j h1 (by omega)
theorem Vk(i:Nat)(h:yS V (i+1) 0 (i+1)=[i]):¬(V i=4∧wQ V i=true):=by
 rintro⟨h4,hb⟩;have hk:=PD V i i 0 [] (Nat.zero_le _) (by omega) h;have hs:bW (V i)=0:=by rw[h4];rfl
 rw[O8 V i 0 (Nat.zero_le _) fun j h1 h2=>by rcases hk j h1 h2 with h|⟨h,h5⟩<;>omega] at hb;cases hb
theorem EA(i t:Nat)(r:List Nat)(h:yS V (i+1) 0 (i+1)=i::t::r):(V t=V i∧bW (V i)=0)↔(V i=4∧wQ V i=true):=by
 obtain⟨h0,h1,h2,h3⟩:=PD V i i 0 (t::r) (Nat.zero_le _) (by omega) h;by_cases h4:V i=4
 ·have hs:bW (V i)=0:=by rw[h4];rfl
  have hb:wQ V i=decide (V t=4):=by
   rw[O8 V i (t+1) (by omega) fun j h5 h6=>by rcases h3 j (by omega) h6 with h|⟨h,h7⟩<;>omega];rw[wQ,if_neg (by rcases h2 with h|⟨h,_⟩<;>omega)]
  rw[hb,decide_eq_true_eq];constructor
  ·rintro⟨h5,_⟩;exact⟨h4,by omega⟩
  ·rintro⟨_,h5⟩;exact⟨by omega,hs⟩
 ·constructor
  ·rintro⟨_,h5⟩;exact absurd (aoG h5) h4
  ·rintro⟨h5,_⟩;exact absurd h5 h4
theorem CX(len:Nat):∀(n i:Nat),i≤len→len-i≤n→gF V len n i (yS V i 0 i) (NV V i 0 i)=match iK V len n i with
  |some k=>.error k
  |none=>.ok (Yp V 0 len)
 |0,i,h,h1=>by
  obtain rfl:i=len:=by omega
  rw[gF,iK];simp only;rw[Bh V i 0 i (Nat.zero_le _) (by omega)]
 |n+1,i,h,h1=>by
  rw[gF,iK];by_cases hi:i<len
  ·rw[if_pos hi,if_pos hi]
   obtain⟨st',P,c1,c2,c3⟩:=La V i i 0 [] (NV V i 0 i) (Nat.zero_le _) (by omega);rw[List.append_nil] at c3;rw[c3];have ih:=CX len n (i+1) (by omega) (by omega);cases st' with
   |nil=>
    rw[if_neg (Vk V i c1)];simp only[lU];rw[←ih,c1,c2]
   |cons t r=>
    simp only;by_cases hc:V t=V i∧bW (V i)=0
    ·rw[if_pos hc,if_pos ((EA V i t r c1).1 hc)]
    ·rw[if_neg hc,if_neg (fun h=>hc ((EA V i t r c1).2 h))]
     simp only[List.append_nil];rw[←ih,c1,c2]
  ·obtain rfl:i=len:=by omega
   rw[if_neg hi,if_neg hi];simp only;rw[Bh V i 0 i (Nat.zero_le _) (by omega)]
end
end Go.Proofs.YtijcobeebaceoaaGreatDoor
namespace Go.Proofs.YtijcobeebaceoaaGreatDoor
open Go.RowKit
inductive Rt(F:Nat→Nat):Nat→Nat→Prop where
 |here (a:Nat) (h:F a=a):Rt F a a
 |go (j a:Nat) (h:F j≠j) (r:Rt F (F j) a):Rt F j a
def upd{α:Type}(F:Nat→α)(x:Nat)(v:α):Nat→α:=fun j=>if j=x then v else F j
theorem Ca{α:Type}(F:Nat→α)(x:Nat)(v:α):upd F x v x=v:=if_pos rfl
theorem upd_ne{α:Type}(F:Nat→α){x j:Nat}(v:α)(h:j≠x):upd F x v j=F j:=if_neg h
inductive Run(ops:List Tk):List Nat→(Nat→Nat)→(Nat→Ex)→(Nat→Nat)→(Nat→Ex)→Prop where
 |nil (F:Nat→Nat) (A:Nat→Ex):Run ops [] F A F A
 |cons (i a:Nat) (r:List Nat) (F F':Nat→Nat) (A A':Nat→Ex) (h:Rt F i a) (hr:Run ops r (upd F (i+1) a) (upd A a (opE (opAt ops i) (A a) (A (i+1)))) F' A'):Run ops (i::r) F A F' A'
theorem Run.app{ops:List Tk}{r r2:List Nat}{F F1 F2:Nat→Nat}{A A1 A2:Nat→Ex}(h1:Run ops r F A F1 A1)(h2:Run ops r2 F1 A1 F2 A2):Run ops (r++r2) F A F2 A2:=by
 induction h1 with
 |nil=>exact h2
 |cons i a r F F' A A' h hr ih=>exact .cons i a _ _ _ _ _ h (ih h2)
def Seg(F:Nat→Nat)(f to:Nat):Prop:=∀j,f≤j→j≤to→f≤F j∧F j≤to∧Rt F j f
theorem Rt.keep{F F':Nat→Nat}{f to:Nat}(hs:∀j,f≤j→j≤to→f≤F j∧F j≤to)(he:∀j,f≤j→j≤to→F' j=F j){j a:Nat}(h:Rt F j a):f≤j→j≤to→Rt F' j a:=by
 induction h with
 |here a h=>intro h1 h2;exact .here a (by rw[he a h1 h2];exact h)
 |go j a h r ih=>
  intro h1 h2;have:=hs j h1 h2;exact .go j a (by rw[he j h1 h2];exact h) (by rw[he j h1 h2];exact ih this.1 this.2)
theorem Rt.root{F:Nat→Nat}{j a:Nat}(h:Rt F j a):F a=a:=by
 induction h with
 |here a h=>exact h
 |go j a h r ih=>exact ih
theorem Rt.tie{F F':Nat→Nat}{f s to:Nat}(hs:∀j,s≤j→j≤to→s≤F j∧F j≤to)(he:∀j,s<j→j≤to→F' j=F j)(hx:F' s=f)(hne:f≠s)(hf:F' f=f){j a:Nat}(h:Rt F j a):a=s→s≤j→j≤to→Rt F' j f:=by
 induction h with
 |here a h=>
  intro h0 h1 h2;subst h0;exact .go a f (by rw[hx];exact hne) (by rw[hx];exact .here f hf)
 |go j a h r ih=>
  intro h0 h1 h2;have h3:=hs j h1 h2;by_cases hj:j=s
  ·subst hj
   exact .go j f (by rw[hx];exact hne) (by rw[hx];exact .here f hf)
  ·exact .go j f (by rw[he j (by omega) h2];exact h) (by rw[he j (by omega) h2];exact ih h0 h3.1 h3.2)
theorem acz(l:List Ex)(ops:List Tk):∀(m f to:Nat) (F:Nat→Nat) (A:Nat→Ex),f≤to→to-f≤m→(∀j,f≤j→j≤to→F j=j∧A j=ve l j)→∃F' A',Run ops (Yp (AX ops) f to) F A F' A'∧Seg F' f to∧A' f=fQ l ops m f to∧∀j,(j<f∨to<j)→F' j=F j∧A' j=A j:=by
 intro m
 induction m with
 |zero=>
  intro f to F A hf hm h;obtain rfl:f=to:=by omega
  rw[uF];refine⟨F,A,.nil _ _,fun j h1 h2=>?_,?_,fun j _=>⟨rfl,rfl⟩⟩
  ·obtain rfl:j=f:=by omega
   have:=(h j h1 h2).1;exact⟨by omega,by omega,.here j this⟩
  ·rw[fQ];exact(h f (by omega) (by omega)).2
 |succ m ih=>
  intro f to F A hf hm h;by_cases hft:f=to
  ·subst hft
   rw[uF];refine⟨F,A,.nil _ _,fun j h1 h2=>?_,?_,fun j _=>⟨rfl,rfl⟩⟩
   ·obtain rfl:j=f:=by omega
    have:=(h j h1 h2).1;exact⟨by omega,by omega,.here j this⟩
   ·rw[fQ,if_pos rfl];exact(h f (by omega) (by omega)).2
  ·have hlt:f<to:=by omega
   have hl:=nH (AX ops) hlt;have he:=ads (AX ops) hlt;rw[NM (AX ops) hlt];generalize iN (AX ops) f (to-f-1)=s at *;obtain⟨F1,A1,r1,s1,b1,o1⟩:=ih f s F A hl.1 (by omega) (fun j h1 h2=>h j h1 (by omega));obtain⟨F2,A2,r2,s2,b2,o2⟩:=ih (s+1) to F1 A1 (by omega) (by omega) (fun j h1 h2=>by
    obtain⟨z1,z2⟩:=o1 j (.inr (by omega));rw[z1,z2];exact h j (by omega) h2)
   have e1:∀j,f≤j→j≤s→F2 j=F1 j∧A2 j=A1 j:=fun j h1 h2=>o2 j (.inl (by omega))
   have k1:Rt F2 s f:=(s1 s hl.1 (Nat.le_refl _)).2.2.keep (fun j h1 h2=>⟨(s1 j h1 h2).1,(s1 j h1 h2).2.1⟩) (fun j h1 h2=>(e1 j h1 h2).1) hl.1 (Nat.le_refl _);have hroot:=k1.root;refine⟨upd F2 (s+1) f,upd A2 f (opE (opAt ops s) (A2 f) (A2 (s+1))),(r1.app r2).app (.cons s f [] _ _ _ _ k1 (.nil _ _)),?_,?_,?_⟩
   ·intro j h1 h2
    by_cases hj:j≤s
    ·have z:=s1 j h1 hj
     have zz:upd F2 (s+1) f j=F1 j:=by rw[upd_ne _ _ (by omega)];exact(e1 j h1 hj).1
     rw[zz];refine⟨z.1,by omega,z.2.2.keep (fun j h1 h2=>⟨(s1 j h1 h2).1,(s1 j h1 h2).2.1⟩) (fun j h1 h2=>?_) h1 hj⟩;rw[upd_ne _ _ (by omega)];exact(e1 j h1 h2).1
    ·have z:=s2 j (by omega) h2
     have hff:upd F2 (s+1) f f=f:=by rw[upd_ne _ _ (by omega)];exact hroot
     have ht:=z.2.2.tie (F':=upd F2 (s+1) f) (f:=f) (fun j h1 h2=>⟨(s2 j h1 h2).1,(s2 j h1 h2).2.1⟩) (fun j h1 h2=>upd_ne _ _ (by omega)) (Ca _ _ _) (by omega) hff rfl (by omega) h2;by_cases hjs:j=s+1
     ·subst hjs;rw[Ca];exact⟨Nat.le_refl _,by omega,ht⟩
     ·rw[upd_ne _ _ hjs];exact⟨by omega,z.2.1,ht⟩
   ·rw[Ca,fQ,if_neg hft]
    simp only;rw[he,(e1 f (Nat.le_refl _) hl.1).2,b1,b2]
   ·intro j hj
    rw[upd_ne _ _ (by omega),upd_ne _ _ (by omega)];have z1:=o1 j (by omega);have z2:=o2 j (by omega);exact⟨z2.1.trans z1.1,z2.2.trans z1.2⟩
end Go.Proofs.YtijcobeebaceoaaGreatDoor
