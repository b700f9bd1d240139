/- Joined texts. -/
import Derived.Test.YtijcobeebaceoaaGreatDoorBae
set_option linter.unusedVariables false
set_option linter.unusedSimpArgs false
set_option linter.unusedSectionVars false
namespace Go.Proofs.YtijcobeebaceoaaGreatDoor
open Go.RowKit
def yj(v:AV)(h:List af)(m:Nat)(ids:List Nat):Option (AV×List af):=
 if nodupB ids&&(ids.take m==List.range m) then match u7 h ids,ren (fun i=>posOf i ids) v with
  |some hs,some v'=>some (v',hs)
  |_,_=>none
 else none
def o7(v:AV)(h:List af)(m:Nat):Option (AV×List af):=match m,refs v with
 |0,[]=>some (v,[])
 |m,r=>yj v h m (reach h 1000 ((h.take m).flatMap Cv++r) (List.range m))
def aiC(o:Nat)(h:List af):Option (AV×List af):=match h[o]? with
 |some (.arr ty sz (.sym j))=>some (.pv (.sym j),h.set o .dead++[.tok ty sz (bq+j)])
 |some (.arr ty sz (.rows es))=>match Nat.blt es.length bq with
  |true=>some (.pv (.rows es),h.set o .dead++[.tok ty sz es.length])
  |false=>none
 |_=>none
mutual
def wK:AV→List af→Option (AV×List af)
 |.arr o,h=>aiC o h
 |.agg l,h=>(Va l h).map fun r=>(.agg r.1,r.2)
 |.tup l,h=>(Va l h).map fun r=>(.tup r.1,r.2)
 |.pv p,h=>some (.pv p,h)
 |.trows t es,h=>some (.trows t es,h)
 |.tsym t i,h=>some (.tsym t i,h)
 |.ptr i o,h=>some (.ptr i o,h)
 |.cptr cs,h=>some (.cptr cs,h)
 |.fn f l,h=>some (.fn f l,h)
 |.sl t lo len sz,h=>some (.sl t lo len sz,h)
 |.ifc t v,h=>some (.ifc t v,h)
 |.aptr t i o,h=>some (.aptr t i o,h)
def Va:List AV→List af→Option (List AV×List af)
 |[],h=>some ([],h)
 |a::l,h=>match wK a h with
  |some (b,h1)=>match Va l h1 with
   |some (r,h2)=>some (b::r,h2)
   |none=>none
  |none=>none
end
theorem agk{K:Kn}{h:List af}{w:World}(H:WR K h w){o:Nat}{ty:TypeId}{sz n:Nat}{p:PV}(ho:h[o]? = some (.arr ty sz p))(hn:∀es,ak K.R p=.rows es→dl K.R n=es.length){u:Value}(hu:VR K (.arr o) u) :
  ∃K',Step K h w K' (h.set o .dead++[.tok ty sz n]) w∧VR K' (.pv p) u:=by
 obtain⟨g,cur,hm,hw,⟨hcs,hZ⟩,hr⟩:=H.arr o ty sz p ho;obtain⟨es,he,hns,hlen,hle,hel,hcell⟩:=hr.row;have hE:=hr.el;rw[hE] at hel hcell hcs;have hold:∀o v,K.M g o=some v→o<es.length*sz∧cur[o]? = some v:=fun o v hm=>by rw[hr.none o] at hm;cases hm
 have hkill:∀(j:Nat) x,(h.set o .dead)[j]? = some x→x.live=true→h[j]? = some x∧K.mu j≠some g:=fun j x hj hl=>by
  obtain⟨h2,h3⟩:=IK j x hj hl;exact⟨h2,fun e=>h3 (H.inj j o x _ g h2 ho hl rfl e hm)⟩
 have st:=Step.withTok H ty g es.length sz (K.Z g) cur hw hcs hZ (lF.refl _ w) hold (by simp) hkill (fun _ _=>⟨rfl,hE⟩) (.inr ⟨o,_,ho,rfl,hm⟩) (hn es he);refine⟨_,st,.pv ?_⟩;cases hu with
 |arr _ g' cap hm' hnc hcap=>
  rw[hm] at hm';cases hm';have key:PR (K.withTok h.length g es.length sz (K.Z g) cur).R (K.withTok h.length g es.length sz (K.Z g) cur).M (.rows es) (.slice (some ⟨g,0,none⟩) es.length cap):=by
   refine .rows es _ cap g 0 sz (fun i j=>(cur[i*sz+j]?).getD Go.undef) (fun _=>rfl) (by omega) hel (fun i hi j hj=>?_) (fun i hi j hj=>?_)
   ·rw[Nat.zero_add,FH _ _ _ _ _ _ _ _ (pQ hi hj) hold]
    obtain⟨v,hv,_⟩:=hcell i hi j (by rw[hel i hi];exact hj);rw[hv];rfl
   ·obtain⟨v,hv,hp⟩:=hcell i hi j hj
    rw[hv];exact hp.ext st.ext
  rw[←hlen];have:ak (K.withTok h.length g es.length sz (K.Z g) cur).R p=.rows es:=he;rw[←this] at key;exact key.closed
theorem OJ{K:Kn}{h h':List af}{w:World}(H:WR K h w){o:Nat}{u:Value}(hu:VR K (.arr o) u){v:AV}(hf:aiC o h=some (v,h')):∃K',Step K h w K' h' w∧VR K' v u:=by
 unfold aiC at hf;split at hf
 ·rename_i ty sz j ho
  cases hf;exact agk H ho (fun es he=>by rw[ak] at he;exact Eu he) hu
 ·rename_i ty sz es ho
  split at hf
  ·rename_i hb
   cases hf;refine agk H ho (fun es' he=>?_) hu;rw[ak,eT] at he;injection he with he
   rw[←he,List.length_map];exact gT (Nat.le_of_ble_eq_true hb)
  ·cases hf
 ·cases hf
mutual
theorem En{K:Kn}{h h':List af}{w:World}(H:WR K h w):∀(a:AV) {u:Value} (_:VR K a u) {v:AV} (_:wK a h=some (v,h')),∃K',Step K h w K' h' w∧VR K' v u
 |.arr o,u,hu,v,hf=>by rw[wK] at hf;exact OJ H hu hf
 |.agg l,u,hu,v,hf=>by
  rw[wK] at hf;obtain⟨⟨r,h1⟩,hr,e⟩:=aG hf;cases e;cases hu with
  |agg _ cs hl hh=>
   obtain⟨K',st,hv⟩:=wL H l (us:=cs) ⟨hl,hh⟩ hr;exact⟨K',st,.agg _ cs hv.1 hv.2⟩
 |.tup l,u,hu,v,hf=>by
  rw[wK] at hf;obtain⟨⟨r,h1⟩,hr,e⟩:=aG hf;cases e;cases hu with
  |tup _ cs hl hh=>
   obtain⟨K',st,hv⟩:=wL H l (us:=cs) ⟨hl,hh⟩ hr;exact⟨K',st,.tup _ cs hv.1 hv.2⟩
 |.pv p,u,hu,v,hf=>by rw[wK] at hf;cases hf;exact⟨K,Step.refl H,hu⟩
 |.trows t es,u,hu,v,hf=>by rw[wK] at hf;cases hf;exact⟨K,Step.refl H,hu⟩
 |.tsym t i,u,hu,v,hf=>by rw[wK] at hf;cases hf;exact⟨K,Step.refl H,hu⟩
 |.ptr i o,u,hu,v,hf=>by rw[wK] at hf;cases hf;exact⟨K,Step.refl H,hu⟩
 |.cptr cs,u,hu,v,hf=>by rw[wK] at hf;cases hf;exact⟨K,Step.refl H,hu⟩
 |.fn f l,u,hu,v,hf=>by rw[wK] at hf;cases hf;exact⟨K,Step.refl H,hu⟩
 |.sl t lo len sz,u,hu,v,hf=>by rw[wK] at hf;cases hf;exact⟨K,Step.refl H,hu⟩
 |.ifc t x,u,hu,v,hf=>by rw[wK] at hf;cases hf;exact⟨K,Step.refl H,hu⟩
 |.aptr t i o,u,hu,v,hf=>by rw[wK] at hf;cases hf;exact⟨K,Step.refl H,hu⟩
theorem wL{K:Kn}{h h':List af}{w:World}(H:WR K h w):∀(l:List AV) {us:List Value} (_:VL K l us) {r:List AV} (_:Va l h=some (r,h')),∃K',Step K h w K' h' w∧VL K' r us
 |[],us,hu,r,hf=>by rw[Va] at hf;cases hf;exact⟨K,Step.refl H,hu⟩
 |a::l,us,hu,r,hf=>by
  rw[Va] at hf;split at hf
  ·rename_i b h1 hb
   split at hf
   ·rename_i r' h2 hr
    cases hf
    match us,hu with
    |[],hu=>have:=hu.1;simp at this
    |u::us,hu=>
     obtain⟨K1,s1,v1⟩:=En H a (hu.2 0 (by simp) (by simp)) hb;obtain⟨K2,s2,v2⟩:=wL s1.wr l (us:=us) ⟨by simpa using hu.1,fun i hi hi'=>(hu.2 (i+1) (by simpa using hi) (by simpa using hi')).mono s1.ext⟩ hr;refine⟨K2,s1.trans s2,⟨by simpa using v2.1,fun i hi hi'=>?_⟩⟩;cases i with
     |zero=>exact v1.mono s2.ext
     |succ i=>exact v2.2 i (by simpa using hi) (by simpa using hi')
   ·cases hf
  ·cases hf
end
def o6(P:Program)(fn:Func)(sl:Env)(h:List af)(m:Nat):Option (AV×List af):=match Fh P sl h fn.results.toList with
 |some l=>match wK (af6 l) h with
  |some (v0,h0)=>match o7 v0 h0 m with
   |some (v,hs)=>match dW v with
    |none=>some (v,hs)
    |some _=>none
   |none=>none
  |none=>none
 |none=>none
def vD:Nat→List AV→Env
 |_,[]=>[]
 |k,a::l=>(k,a)::vD (k+1) l
def KG:Code→Nat→List (Nat×Bool)
 |.region j ops true,id=>match Nat.beq j id with
  |true=>OH ops ops.size (Array.replicate ops.size false)
  |false=>[]
 |.seq a b,id=>KG a id++KG b id
 |.cond _ a b,id=>KG a id++KG b id
 |.scope c,id=>KG c id
 |.block _ c,id=>KG c id
 |.loop c,id=>KG c id
 |_,_=>[]
def T0(c:Code):FT:={keep:=[],sd:=KG c }
def NC(P:Program)(call:Nat→List AV→List af→Option (AV×List af))(okf:Nat→Bool)(tab:List SF)(g:Nat)(caps:List AV)(h:List af)(st:yO):Option (List af×yO):=match P.funcs[g]? with
 |some fn=>match fn.body with
  |some c=>if callable P g&&tabOk (T0 c).sd (T0 c).sx c then match pW P call okf tab 0 fn.ntmps (T0 c) c (vD 0 caps) h st with
    |some (.normal,sl,h',st')=>if(Fh P sl h' fn.results.toList).isSome then some (h',st') else none
    |some (.ret,sl,h',st')=>if(Fh P sl h' fn.results.toList).isSome then some (h',st') else none
    |_=>none
   else none
  |none=>none
 |none=>none
def PO:yO→yO
 |.taken=>.ret
 |st=>st
def zy(P:Program)(call:Nat→List AV→List af→Option (AV×List af))(okf:Nat→Bool)(tab:List SF):List AV→yO→List af→Option (List af×yO)
 |[],st,h=>some (h,st)
 |.fn g caps::ds,st,h=>match NC P call okf tab g caps h st with
  |some (h',st')=>zy P call okf tab ds (PO st') h'
  |none=>none
 |_::_,_,_=>none
def FK(n:Nat):Env→Env
 |[]=>[]
 |(d,v)::e=>match Nat.beq n d with
  |true=>FK n e
  |false=>(d,v)::FK n e
def agl(P:Program)(fn:Func)(m:Nat)(r:Option (bB×Env×List af)):Option (AV×List af):=match r with
 |some (.normal,sl,h')=>o6 P fn sl h' m
 |some (.ret,sl,h')=>o6 P fn sl h' m
 |some (.pan,sl,h')=>match look sl fn.ntmps with
  |some x=>o7 (.tup [.tup [],x]) h' m
  |none=>none
 |_=>none
def aaJ(P:Program)(call:Nat→List AV→List af→Option (AV×List af))(okf:Nat→Bool)(tab:List SF)(fn:Func)(m:Nat)(r:Option (bB×Env×List af×List AV)):Option (AV×List af):=match r with
 |some (.normal,sl,h',ds)=>match zy P call okf tab ds .ret h' with
  |some (h2,.ret)=>o6 P fn sl h2 m
  |_=>none
 |some (.ret,sl,h',ds)=>match zy P call okf tab ds .ret h' with
  |some (h2,.ret)=>o6 P fn sl h2 m
  |_=>none
 |some (.pan,sl,h',ds)=>match look sl fn.ntmps with
  |some x=>match zy P call okf tab ds (.pan x) h' with
   |some (h2,.pan y)=>o7 (.tup [.tup [],y]) h2 m
   |some (h2,.ret)=>o6 P fn (FK fn.ntmps sl) h2 m
   |_=>none
  |none=>none
 |_=>none
def acA(P:Program)(call:Nat→List AV→List af→Option (AV×List af))(okf:Nat→Bool)(tab:List SF)(lf:Nat)(T:FT)(f:Nat)(args:List AV)(h:List af):Option (AV×List af):=match P.funcs[f]? with
 |some fn=>match fn.body with
  |some c=>match T.df with
   |false=>agl P fn h.length (gW P call okf tab lf fn.ntmps T c (vD 0 args) h)
   |true=>aaJ P call okf tab fn h.length (wS P call okf tab lf fn.ntmps T c (vD 0 args) h [])
  |none=>none
 |none=>none
def Mg(P:Program)(okf:Nat→Bool)(T:Nat→FT)(Sp:Nat→List AV→List af→Option (AV×List af))(lf:Nat):Nat→Nat→List AV→List af→Option (AV×List af)
 |0,_,_,_=>none
 |m+1,f,args,h=>match Sp f args h with
  |some r=>some r
  |none=>acA P (Mg P okf T Sp lf m) okf [] lf (T f) f args h
def OI(P:Program)(T:Nat→FT)(f:Nat):Bool:=match P.funcs[f]? with
 |some fn=>match fn.body with
  |some c=>tabOk (T f).sd (T f).sx c
  |none=>true
 |none=>true
def Nq(P:Program)(T:Nat→FT):Prop:=∀f fn c,P.funcs[f]? = some fn→fn.body=some c→tabOk (T f).sd (T f).sx c=true
section
variable{P:Program}{okf:Nat→Bool}{T:Nat→FT}{Sp:Nat→List AV→List af→Option (AV×List af)}{lf:Nat}
theorem KP{ids:List Nat}{m:Nat}(h:ids.take m=List.range m)(k:Nat)(hk:k<m):ids[k]? = some k:=by
 have:(ids.take m)[k]? = some k:=by rw[h,List.getElem?_range hk]
 rw[List.getElem?_take,if_pos hk] at this;exact this
theorem lu{K K':Kn}{h h':List af}{w w':World}(H:WR K h w)(S:Step K h w K' h' w'){v:AV}{v':AV}{hs:List af}(hf:o7 v h' h.length=some (v',hs)) :
  ∃f K2,Ren f K' K2∧ren f v=some v'∧Step K h w K2 hs w':=by
 unfold o7 at hf;split at hf
 ·rename_i hm hr
  cases hf;exact⟨_,K'.sub [],Ren.sub K' [],xG _ _ hr,Step.sub H S rfl rfl (fun k hk=>by omega)⟩
 ·unfold yj at hf
  split at hf
  ·rename_i hc
   rw[Bool.and_eq_true] at hc;split at hf
   ·rename_i hs0 v0 h1 h2
    cases hf;exact⟨_,_,Ren.sub K' _,h2,Step.sub H S hc.1 h1 (fun k hk=>KP (by simpa using hc.2) k hk)⟩
   ·cases hf
  ·cases hf
theorem vz{K:Kn}{h:List af}{w:World}{sl:Env}{fn:Func}{n:Nat}{tm:Array Value}(W:WR K h w)(hs:bF K n sl tm){l:List AV}(hr:Fh P sl h fn.results.toList=some l) :
  ∃u,VR K (af6 l) u∧(results fn tm).run P w=.ok u w:=by
 obtain⟨us,hv,hrun⟩:=vQ W hs _ _ hr;have he:results fn tm=(fn.results.mapM (Ct tm) >>= fun vs=>pure (if h:vs.size=1 then vs[0] else .tuple vs)):=by
  unfold results;congr 1
 have hrun2:(fn.results.mapM (Ct tm)).run P w=.ok us.toArray w:=by
  rw[Array.mapM_eq_mapM_toList];simp[hrun]
 refine⟨if h:us.toArray.size=1 then us.toArray[0] else .tuple us.toArray,?_,?_⟩
 ·match l,us,hv with
  |[],[],hv=>exact .tup [] [] rfl (fun i h=>by simp at h)
  |[a],[u],hv=>exact hv.2 0 (by simp) (by simp)
  |a::b::l,u::v::us,hv=>
   rw[dif_neg (by simp)];exact .tup _ _ hv.1 hv.2
  |[],_::_,hv=>have:=hv.1;simp at this
  |[_],[],hv=>have:=hv.1;simp at this
  |[_],_::_::_,hv=>have:=hv.1;simp at this
  |_::_::_,[],hv=>have:=hv.1;simp at this
  |_::_::_,[_],hv=>have:=hv.1;simp at this
 ·rw[he]
  simp only[Sem.run_bind,hrun2,Result.andThen_ok,Sem.run_pure]
theorem U4{args:List AV}{d:Nat}{v:AV}:∀{k:Nat},look (vD k args) d=some v→k≤d∧args[d-k]? = some v:=by
 induction args with
 |nil=>intro k h;cases h
 |cons a l ih=>
  intro k h;simp only[vD,look] at h;split at h
  ·rename_i hb
   have e:=Nat.eq_of_beq_eq_true hb;subst e;cases h;exact⟨Nat.le_refl _,by simp⟩
  ·obtain⟨h1,h2⟩:=ih h
   refine⟨by omega,?_⟩;rw[show d-k=(d-(k+1))+1 by omega];simpa using h2
theorem bF.init{K:Kn}{args:List AV}{us:List Value}(hv:VL K args us)(n:Nat):bF K n (vD 0 args) (us.toArray++Array.replicate (n-us.toArray.size) Go.undef):=by
 refine⟨by simp;omega,fun d v hd=>?_⟩;obtain⟨_,h2⟩:=U4 hd;rw[Nat.sub_zero] at h2;obtain⟨c,hc,hvc⟩:=hv.at_ h2;have hlt:d<us.length:=by
  by_cases hh:d<us.length
  ·exact hh
  ·rw[List.getElem?_eq_none (by omega)] at hc;cases hc
 have:(us.toArray++Array.replicate (n-us.toArray.size) Go.undef).getD d Go.undef=c:=by
  rw[Array.getD_eq_getD_getElem?,Array.getElem?_append_left (by simpa using hlt),List.getElem?_toArray,hc];rfl
 rw[this];exact hvc
theorem vL{n d:Nat}{v:AV}:∀{e:Env},look (FK n e) d=some v→n≠d∧look e d=some v
 |[],h=>by cases h
 |(k,u)::e,h=>by
  rw[FK] at h;split at h
  ·rename_i hb
   obtain⟨h1,h2⟩:=vL h;refine⟨h1,?_⟩;have e1:=Nat.eq_of_beq_eq_true hb;have:Nat.beq k d=false:=by
    cases hq:Nat.beq k d with
    |false=>rfl
    |true=>exact absurd (e1.trans (Nat.eq_of_beq_eq_true hq)) h1
   simp only[look,this];exact h2
  ·rename_i hb
   simp only[look] at h ⊢;split at h
   ·rename_i hq
    cases h;exact⟨by rw[←Nat.eq_of_beq_eq_true hq];exact Nat.ne_of_beq_eq_false hb,rfl⟩
   ·exact vL h
theorem VP{K:Kn}{n:Nat}{sl:Env}{tm:Array Value}{u:Value}(h:bF K n sl (Fq n tm u))(hn:n≤tm.size):bF K n (FK n sl) tm:=by
 refine⟨hn,fun d v hd=>?_⟩;obtain⟨h1,h2⟩:=vL hd;have:=h.2 d v h2;rw[Bg hn h1] at this;exact this
theorem lN.settle{K:Kn}{st:yO}{m:FrameMode}(h:lN K st m):lN K (PO st) (Go.settle m):=by
 cases st with
 |ret=>cases h;rfl
 |pan x=>obtain⟨u,rfl,hu⟩:=h;exact⟨u,rfl,hu⟩
 |taken=>obtain⟨u,rfl⟩:=h;rfl
theorem GN{R:Nat→PV}{call:Nat→List AV→List af→Option (AV×List af)}{tab:List SF}(hcall:dJ R P call)(htab:cK R P tab)(hok:∀f,okf f=true→callable P f=true)(hm:P.follows .mixedOrders=true)
  {g:Nat} {caps:List AV} {h:List af} {st:yO} {h':List af} {st':yO} (he:NC P call okf tab g caps h st=some (h',st')) {K:Kn} {w:World} {us:List Value} {m:FrameMode} (hR:K.R=R) (W:WR K h w) (hv:VL K caps us) (hd:lN K st m) :
  callable P g=true∧CallsD P g us.toArray m w fun e m' w'=>∃u K',e=.returned u∧lN K' st' m'∧Step K h w K' h' w':=by
 unfold NC at he;split at he
 ·rename_i fn hfn
  split at he
  ·rename_i c hc
   split at he
   ·rename_i hcond
    rw[Bool.and_eq_true] at hcond;refine⟨hcond.1,callsD_of_wpS hfn hc fun c0 cs hm0=>?_⟩;have hc0:({c0 with mode:=m }:Frame)=c0:=by subst hm0;rfl
    have hfin:∀(ex:bB) (sl:Env),(ex=.normal∨ex=.ret)→pW P call okf tab 0 fn.ntmps (T0 c) c (vD 0 caps) h st=some (ex,sl,h',st')→(Fh P sl h' fn.results.toList).isSome=true→
      c.wpS P (bodyPostS P fn c0 cs fun e m' w'=>∃u K',e=.returned u∧lN K' st' m'∧Step K h w K' h' w') {tmps:=us.toArray++Array.replicate (fn.ntmps-us.toArray.size) Go.undef,defers:=[] } (c0::cs) w:=by
     intro ex sl hex ha hr;have hcode:=jv (c0:=c0) (cs:=cs) hcall htab hok hm c (fun lp hlp=>by cases hlp) hcond.2 _ _ _ _ _ _ _ ha K w {tmps:=us.toArray++Array.replicate (fn.ntmps-us.toArray.size) Go.undef,defers:=[] } m hR W (bF.init hv _) hd;rw[hc0] at hcode;refine wW hcode fun e a' cs' w' hp=>?_
     obtain⟨rfl,_,K1,m1,q1,q2,q3,q4,q5⟩:=hp;obtain⟨l,hl⟩:=Option.isSome_iff_exists.1 hr;obtain⟨u,_,hrun⟩:=vz q5.wr q1 hl;rcases hex with rfl|rfl
     ·exact⟨q2,m1,q3,u,hrun,u,K1,rfl,q4,q5⟩
     ·exact⟨q2,m1,q3,u,hrun,u,K1,rfl,q4,q5⟩
    split at he
    ·rename_i sl h1 st1 ha
     split at he
     ·rename_i hr
      cases he;exact hfin _ _ (.inl rfl) ha hr
     ·cases he
    ·rename_i sl h1 st1 ha
     split at he
     ·rename_i hr
      cases he;exact hfin _ _ (.inr rfl) ha hr
     ·cases he
    ·cases he
   ·cases he
  ·cases he
 ·cases he
theorem lg{R:Nat→PV}{call:Nat→List AV→List af→Option (AV×List af)}{tab:List SF}(hcall:dJ R P call)(htab:cK R P tab)(hok:∀f,okf f=true→callable P f=true)(hm:P.follows .mixedOrders=true){fn:Func}{tmps:Array Value}{Q:Ending→World→Prop} :
  ∀(ds:List AV) (st:yO) (h:List af) (h':List af) (st':yO),zy P call okf tab ds st h=some (h',st')→∀{K:Kn} {w:World} {dl:List Deferred} {m:FrameMode},K.R=R→WR K h w→DL K ds dl→lN K st m→
   (∀K' w' m',Step K h w K' h' w'→lN K' st' m'→Leaves P fn tmps Q [] m' w')→Leaves P fn tmps Q dl m w
 |[],st,h,h',st',he,K,w,[],m,hR,W,_,hd,hq=>by
  cases he;exact hq K w m (Step.refl W) hd
 |.fn g caps::ds,st,h,h',st',he,K,w,d::dl,m,hR,W,hdl,hd,hq=>by
  rw[zy] at he;split at he
  ·rename_i h1 st1 hr
   obtain⟨⟨g',cs',us,e1,hv,rfl⟩,hdl'⟩:=hdl;cases e1;obtain⟨hcal,hcd⟩:=GN hcall htab hok hm hr hR W hv hd;refine leaves_cons (f:=g) (args:=us.toArray) ?_ ?_ (hcd.mono fun e m' w' hp=>?_)
   ·intro e
    cases st with
    |ret=>cases hd;cases e
    |pan x=>obtain⟨u,rfl,_⟩:=hd;cases e
    |taken=>obtain⟨u,rfl⟩:=hd;cases e
   ·unfold callable at hcal
    split at hcal
    ·rename_i fn' hfn
     rw [Bool.and_eq_true] at hcal;obtain ⟨b1, b2⟩ := hcal;have b3 : (fn'.name == "runtime.NumGoroutine") = false := by simpa using b2
     have b4:fn'.body.isNone=false:=by cases hb:fn'.body<;>simp_all
     simp only[invoke,callFunc,Sem.run_bind,Sem.run_pure,Result.andThen_ok,run_program,hfn,b3,b4,Bool.false_eq_true,if_false];simp
    ·cases hcal
   ·obtain⟨u,K1,rfl,q1,q2⟩:=hp
    exact lg hcall htab hok hm ds _ h1 h' st' he (q2.ext.R.trans hR) q2.wr (hdl'.mono q2.ext) q1.settle (fun K' w2 m2 r1 r2=>hq K' w2 m2 (q2.trans r1) r2)
  ·cases he
 |[],_,_,_,_,_,_,_,_::_,_,_,_,h,_,_=>h.elim
 |_::_,_,_,_,_,_,_,_,[],_,_,_,h,_,_=>h.elim
 |.pv _::_,_,_,_,_,he,_,_,_::_,_,_,_,_,_,_=>by cases he
 |.trows _ _::_,_,_,_,_,he,_,_,_::_,_,_,_,_,_,_=>by cases he
 |.tsym _ _::_,_,_,_,_,he,_,_,_::_,_,_,_,_,_,_=>by cases he
 |.ptr _ _::_,_,_,_,_,he,_,_,_::_,_,_,_,_,_,_=>by cases he
 |.cptr _::_,_,_,_,_,he,_,_,_::_,_,_,_,_,_,_=>by cases he
 |.agg _::_,_,_,_,_,he,_,_,_::_,_,_,_,_,_,_=>by cases he
 |.tup _::_,_,_,_,_,he,_,_,_::_,_,_,_,_,_,_=>by cases he
 |.sl _ _ _ _::_,_,_,_,_,he,_,_,_::_,_,_,_,_,_,_=>by cases he
 |.ifc _ _::_,_,_,_,_,he,_,_,_::_,_,_,_,_,_,_=>by cases he
theorem jT{K K':Kn}{h h':List af}{w w':World}{sl:Env}{fn:Func}{n:Nat}{tm:Array Value}(H:WR K h w)(S:Step K h w K' h' w')(hs:bF K' n sl tm){v:AV}{hs':List af}(hf:o6 P fn sl h' h.length=some (v,hs')) :
  ∃u,(results fn tm).run P w'=.ok u w'∧∃K2,iC K2 v (.returned u)∧Step K h w K2 hs' w':=by
 unfold o6 at hf;split at hf
 ·rename_i l hl
  obtain⟨u,hvu,hrun⟩:=vz S.wr hs hl;split at hf
  ·rename_i v0 h0 hz
   obtain⟨Kz,sz,hvz⟩:=En S.wr _ hvu hz;split at hf
   ·rename_i v1 hs1 hf1
    split at hf
    ·rename_i hn
     cases hf;obtain⟨f,K2,r1,r2,r3⟩:=lu H (S.trans sz) hf1;exact⟨u,hrun,K2,.of hn (qj r1 hvz r2),r3⟩
    ·cases hf
   ·cases hf
  ·cases hf
 ·cases hf
theorem Cs{R:Nat→PV}{call:Nat→List AV→List af→Option (AV×List af)}{tab:List SF}{t:FT}{f:Nat}(hcall:dJ R P call)(htab:cK R P tab)(hok:∀f,okf f=true→callable P f=true)(hm:P.follows .mixedOrders=true)
  (hT:∀fn c,P.funcs[f]? = some fn→fn.body=some c→tabOk t.sd t.sx c=true) (hL:∀fn c,P.funcs[f]? = some fn→fn.body=some c→EO R P fn.ntmps t c)
  {args:List AV} {h:List af} {v:AV} {h':List af} (he:acA P call okf tab lf t f args h=some (v,h')):fH R P f args h v h':=by
 unfold acA at he;split at he
 ·rename_i fn hfn
  split at he
  ·rename_i c hc
   split at he
   ·intro K w us hR W hv
    have hfin:∀(ex:bB) (sl:Env) (h1:List af),(ex=.normal∨ex=.ret)→gW P call okf tab lf fn.ntmps t c (vD 0 args) h=some (ex,sl,h1)→o6 P fn sl h1 h.length=some (v,h')→
      Calls P f us.toArray w fun e w'=>∃K',iC K' v e∧Step K h w K' h' w':=by
     intro ex sl h1 hex ha hf;refine calls_of_wp hfn hc ?_;have hcode:=dI hcall htab hok hm c (hL fn c hfn hc) (hT fn c hfn hc) _ _ _ _ _ ha K w {tmps:=us.toArray++Array.replicate (fn.ntmps-us.toArray.size) Go.undef,defers:=[] } hR W (bF.init hv _);refine wp_mono hcode fun e a' w' hp=>?_
     obtain⟨tm,q0,K1,q1,q2,q3⟩:=hp;rcases hex with rfl|rfl
     ·obtain⟨rfl,rfl⟩:=q0
      obtain⟨u,hrun,hu⟩:=jT W q3 q1 hf;exact⟨q2,u,hrun,hu⟩
     ·obtain⟨rfl,rfl⟩:=q0
      obtain⟨u,hrun,hu⟩:=jT W q3 q1 hf;exact⟨q2,u,hrun,hu⟩
    unfold agl at he;split at he
    ·rename_i sl h1 ha
     exact hfin _ _ _ (.inl rfl) ha he
    ·rename_i sl h1 ha
     exact hfin _ _ _ (.inr rfl) ha he
    ·rename_i sl h1 ha
     split at he
     ·rename_i x hx
      refine calls_of_wp hfn hc ?_;have hcode:=dI hcall htab hok hm c (hL fn c hfn hc) (hT fn c hfn hc) _ _ _ _ _ ha K w {tmps:=us.toArray++Array.replicate (fn.ntmps-us.toArray.size) Go.undef,defers:=[] } hR W (bF.init hv _);refine wp_mono hcode fun e a' w' hp=>?_
      obtain⟨tm,⟨hn,u,rfl,rfl⟩,K1,q1,q2,q3⟩:=hp;obtain⟨g,K2,r1,r2,r3⟩:=lu W q3 he;have hxu:=q1.2 _ _ hx;rw[uH hn] at hxu;exact⟨q2,K2,(iC.ofPan hxu).ren r1 r2,r3⟩
     ·cases he
    ·cases he
   ·intro K w us hR W hv
    unfold aaJ at he;have hcodeD:∀{ex sl h1 ds},wS P call okf tab lf fn.ntmps t c (vD 0 args) h []=some (ex,sl,h1,ds)→c.wp P (abG K fn.ntmps h w ex sl h1 ds) {tmps:=us.toArray++Array.replicate (fn.ntmps-us.toArray.size) Go.undef,defers:=[] } w:=fun ha=>
     nL hcall htab hok hm c (hL fn c hfn hc) (hT fn c hfn hc) _ _ _ _ _ _ _ ha K w _ hR W (bF.init hv _) trivial
    split at he
    ·rename_i sl h1 ds ha
     split at he
     ·rename_i h2 hle
      refine calls_of_wp_defers hfn hc (wp_mono (hcodeD ha) fun e a' w' hp=>?_);obtain⟨tm,⟨rfl,rfl⟩,K1,q1,q2,q3⟩:=hp;refine lg hcall htab hok hm _ _ _ _ _ hle (q3.ext.R.trans hR) q3.wr q2 rfl (fun K2 w2 m2 s1 s2=>?_);cases s2;obtain⟨u,hrun,hu⟩:=jT W (q3.trans s1) (q1.mono s1.ext) he;exact⟨u,hrun,hu⟩
     ·cases he
    ·rename_i sl h1 ds ha
     split at he
     ·rename_i h2 hle
      refine calls_of_wp_defers hfn hc (wp_mono (hcodeD ha) fun e a' w' hp=>?_);obtain⟨tm,⟨rfl,rfl⟩,K1,q1,q2,q3⟩:=hp;refine lg hcall htab hok hm _ _ _ _ _ hle (q3.ext.R.trans hR) q3.wr q2 rfl (fun K2 w2 m2 s1 s2=>?_);cases s2;obtain⟨u,hrun,hu⟩:=jT W (q3.trans s1) (q1.mono s1.ext) he;exact⟨u,hrun,hu⟩
     ·cases he
    ·rename_i sl h1 ds ha
     split at he
     ·rename_i x hx
      split at he
      ·rename_i h2 y hle
       refine calls_of_wp_defers hfn hc (wp_mono (hcodeD ha) fun e a' w' hp=>?_);obtain⟨tm,⟨hn,u,rfl,rfl⟩,K1,q1,q2,q3⟩:=hp;have hxu:=q1.2 _ _ hx;rw[uH hn] at hxu;refine lg hcall htab hok hm _ _ _ _ _ hle (q3.ext.R.trans hR) q3.wr q2 ⟨u,rfl,hxu⟩ (fun K2 w2 m2 s1 s2=>?_);obtain⟨u2,rfl,hu2⟩:=s2;obtain⟨g,K3,r1,r2,r3⟩:=lu W (q3.trans s1) he;exact⟨K3,(iC.ofPan hu2).ren r1 r2,r3⟩
      ·rename_i h2 hle
       refine calls_of_wp_defers hfn hc (wp_mono (hcodeD ha) fun e a' w' hp=>?_);obtain⟨tm,⟨hn,u,rfl,rfl⟩,K1,q1,q2,q3⟩:=hp;have hxu:=q1.2 _ _ hx;rw[uH hn] at hxu;refine lg hcall htab hok hm _ _ _ _ _ hle (q3.ext.R.trans hR) q3.wr q2 ⟨u,rfl,hxu⟩ (fun K2 w2 m2 s1 s2=>?_);cases s2;obtain⟨u,hrun,hu⟩:=jT W (q3.trans s1) ((VP q1 hn).mono s1.ext) he;exact⟨u,hrun,hu⟩
      ·cases he
     ·cases he
    ·cases he
  ·cases he
 ·cases he
theorem tQ{R:Nat→PV}(hsp:dJ R P Sp)(hok:∀f,okf f=true→callable P f=true)(hT:Nq P T)(hL:∀f,(T f).lp=none)(hm:P.follows .mixedOrders=true):∀m,dJ R P (Mg P okf T Sp lf m)
 |0,f,args,h,v,h',he=>by cases he
 |m+1,f,args,h,v,h',he=>by
  rw[Mg] at he;split at he
  ·rename_i r hr
   cases he;exact hsp f args h v h' hr
  ·exact Cs (tQ hsp hok hT hL hm m) (cK.nil R P) hok hm (hT f) (fun fn c _ _ lp hlp=>by rw[hL] at hlp;cases hlp) he
theorem Uq{n:Nat}(hs:P.funcs.size=n)(h:(List.range n).all (OI P T)=true):Nq P T:=by
 intro f fn c hf hc;have hlt:f<n:=by
  rw[←hs];exact(Array.getElem?_eq_some_iff.1 hf).1
 rw[List.all_eq_true] at h;have h1:=h f (List.mem_range.2 hlt);unfold OI at h1;rw[hf] at h1;simp only[hc] at h1;exact h1
theorem apB{n:Nat}(hl:∀f,n≤f→okf f=false)(h:(List.range n).all (fun f=>!okf f||callable P f)=true):∀f,okf f=true→callable P f=true:=by
 intro f hf;by_cases hlt:f<n
 ·rw[List.all_eq_true] at h
  have h1:=h f (List.mem_range.2 hlt);rw[hf] at h1;simpa using h1
 ·rw[hl f (by omega)] at hf;cases hf
theorem Step.below{K:Kn}{w:World}{K':Kn}{h':List af}{w':World}(S:Step K [] w K' h' w'):Below w.heap.size w w':=
 ⟨S.frm.os,S.frm.tape,S.frm.output,S.frm.size,fun k hk=>S.frm.block k hk (fun⟨i,x,hi,_⟩=>by simp at hi)⟩
end
inductive NS:PV→Prop where
 |lit (v:Value):NS (.lit v)
 |rows (es:List (List PV)) (h:∀c∈es,∀p∈c,NS p):NS (.rows es)
 |opq (ne:List ByteArray) (lo hi:Nat):NS (.opq ne lo hi)
 |rng (lo hi:Nat):NS (.rng lo hi)
 |any:NS .any
theorem PR.swap{R R':Nat→PV}{M:Nat→Nat→Option Value}{p:PV}{v:Value}(h:PR R M p v):NS p→PR R' M p v:=by
 induction h with
 |lit v h=>exact fun _=>.lit v h
 |rows es a cap g off sz us ha hn hsz hc _ ih=>
  intro hp;cases hp with
  |rows _ hp=>exact .rows es a cap g off sz us ha hn hsz hc (fun i hi j hj=>ih i hi j hj (hp _ (List.getElem_mem hi) _ (List.getElem_mem hj)))
 |opq ne lo hi s hne hlo hhi=>exact fun _=>.opq ne lo hi s hne hlo hhi
 |rng lo hi n hlo hhi=>exact fun _=>.rng lo hi n hlo hhi
 |sym i v _ _=>exact fun hp=>by cases hp
 |any v h=>exact fun _=>.any v h
inductive rR:AV→Prop where
 |pv (p:PV) (h:NS p):rR (.pv p)
 |trows (t:Nat) (es:List (List PV)) (h:∀c∈es,∀p∈c,NS p):rR (.trows t es)
 |ptr (i o:Nat):rR (.ptr i o)
 |cptr (cs:List PV) (h:∀p∈cs,NS p):rR (.cptr cs)
 |agg (l:List AV) (h:∀a∈l,rR a):rR (.agg l)
 |tup (l:List AV) (h:∀a∈l,rR a):rR (.tup l)
 |fn (f:Nat) (l:List AV) (h:∀a∈l,rR a):rR (.fn f l)
 |sl (t lo len sz:Nat):rR (.sl t lo len sz)
 |ifc (t:TypeId) (v:AV) (h:rR v):rR (.ifc t v)
 |arr (t:Nat):rR (.arr t)
 |aptr (t:Nat) (i:PV) (o:Nat) (h:NS i):rR (.aptr t i o)
theorem RL.swap{R R':Nat→PV}{q:PV}{n:Nat}(h:RL R q n)(hn:NS q):RL R' q n:=by
 cases h with
 |rows es=>exact .rows es
 |sym i n h=>cases hn
def Kn.re(K:Kn)(R:Nat→PV):Kn:={K with R:=R }
theorem VR.swap{K:Kn}{R:Nat→PV}{a:AV}{v:Value}(h:VR K a v):rR a→VR (K.re R) a v:=by
 induction h with
 |pv h=>intro hn;cases hn with|pv _ hn=>exact .pv (h.swap hn)
 |trows t es g us hm hn hsz hc hr=>
  intro hp;cases hp with
  |trows _ _ hp=>exact .trows (K:=K.re R) t es g us hm hn hsz hc (fun i hi j hj=>(hr i hi j hj).swap (hp _ (List.getElem_mem hi) _ (List.getElem_mem hj)))
 |tsym=>intro hp;cases hp
 |ptr i o g hm=>exact fun _=>.ptr i o g hm
 |cptr cs g o us hc hr=>
  intro hp;cases hp with
  |cptr _ hp=>exact .cptr (K:=K.re R) cs g o us hc (fun j hj=>(hr j hj).swap (hp _ (List.getElem_mem hj)))
 |agg l cs hl _ ih=>
  intro hp;cases hp with
  |agg _ hp=>exact .agg l cs hl (fun i hi hi'=>ih i hi hi' (hp _ (List.getElem_mem hi)))
 |tup l cs hl _ ih=>
  intro hp;cases hp with
  |tup _ hp=>exact .tup l cs hl (fun i hi hi'=>ih i hi hi' (hp _ (List.getElem_mem hi)))
 |fn f l cs hl _ hb ih=>
  intro hp;cases hp with
  |fn _ _ hp=>exact .fn f l cs hl (fun i hi hi'=>ih i hi hi' (hp _ (List.getElem_mem hi))) hb
 |bfn f g l cs hl _ hg ih=>
  intro hp;cases hp with
  |fn _ _ hp=>exact .bfn f g l cs hl (fun i hi hi'=>ih i hi hi' (hp _ (List.getElem_mem hi))) hg
 |sl t lo len sz g cap off hm he hl hz hof=>exact fun _=>.sl (K:=K.re R) t lo len sz g cap off hm he hl hz hof
 |ifc t _ ih=>intro hp;cases hp with|ifc _ _ hp=>exact .ifc t (ih hp)
 |arr t g c a b d=>exact fun _=>.arr (K:=K.re R) t g c a b d
 |aptr t i o g k kd a b c=>intro hp;cases hp with|aptr _ _ _ hp=>exact .aptr (K:=K.re R) t i o g k kd a (b.swap hp) c
theorem Kn.re_re(K:Kn)(R:Nat→PV):(K.re R).re K.R=K:=rfl
def dX(R:Nat→PV):af→af
 |.box ty cells=>.box ty (aN R cells)
 |.tok ty sz len=>.tok ty sz (dl R len)
 |.dead=>.dead
 |.arr ty sz p=>.arr ty sz (ak R p)
inductive yN:af→Prop where
 |box (ty:TypeId) (l:List AV) (h:∀a∈l,rR a):yN (.box ty l)
 |tok (ty:TypeId) (sz len:Nat) (h:len<bq):yN (.tok ty sz len)
 |dead:yN .dead
 |arr (ty:TypeId) (sz:Nat) (p:PV) (h:NS p):yN (.arr ty sz p)
theorem C9(R:Nat→PV)(x:af):(dX R x).live=x.live:=by cases x<;>rfl
theorem VL.opened{K:Kn}{l:List AV}{us:List Value}(h:VL K l us):VL K (aN K.R l) us:=by
 rw[dD];exact⟨by simpa using h.1,fun i hi hi'=>by simpa using(h.2 i (by simpa using hi) hi').opened rfl⟩
theorem VL.closed{K:Kn}{l:List AV}{us:List Value}(h:VL K (aN K.R l) us):VL K l us:=by
 rw[dD] at h;exact⟨by simpa using h.1,fun i hi hi'=>by have:=h.2 i (by simpa using hi) hi';rw[List.getElem_map] at this;exact this.closed rfl⟩
theorem VL.swap{K:Kn}{R:Nat→PV}{l:List AV}{us:List Value}(h:VL K l us)(hn:∀a∈l,rR a):VL (K.re R) l us:=⟨h.1,fun i hi hi'=>(h.2 i hi hi').swap (hn _ (List.getElem_mem hi))⟩
mutual
theorem YT:∀p:PV,EW p=true→NS p
 |.lit v,_=>.lit v
 |.sym i,h=>by rw[EW] at h;cases h
 |.rows es,h=>by
  have:=Lp es;rw[EW] at h;exact .rows _ (this h)
 |.opq ..,_=>.opq ..
 |.rng ..,_=>.rng ..
 |.any,_=>.any
theorem R9:∀l:List PV,AJ l=true→∀p∈l,NS p
 |[],_,p,hp=>by cases hp
 |q::l,h,p,hp=>by
  have h1:=YT q;have h2:=R9 l;rw[AJ,Bool.and_eq_true] at h;rcases List.mem_cons.1 hp with e|hp
  ·rw[e];exact h1 h.1
  ·exact h2 h.2 p hp
theorem Lp:∀l:List (List PV),ku l=true→∀c∈l,∀p∈c,NS p
 |[],_,p,hp=>by cases hp
 |q::l,h,c,hc=>by
  have h1:=R9 q;have h2:=Lp l;rw[ku,Bool.and_eq_true] at h;rcases List.mem_cons.1 hc with e|hc
  ·rw[e];exact h1 h.1
  ·exact h2 h.2 c hc
end
theorem Sb:∀{l:List PV},(∀p∈l,EW p=true)→AJ l=true
 |[],_=>by rw[AJ]
 |p::l,h=>by rw[AJ,h p (List.mem_cons_self ..),Sb fun q hq=>h q (List.mem_cons_of_mem _ hq)];rfl
theorem Lr:∀{l:List (List PV)},(∀c∈l,∀p∈c,EW p=true)→ku l=true
 |[],_=>by rw[ku]
 |c::l,h=>by rw[ku,Sb (h c (List.mem_cons_self ..)),Lr fun q hq=>h q (List.mem_cons_of_mem _ hq)];rfl
theorem Dg{p:PV}(h:NS p):EW p=true:=by
 induction h with
 |rows es _ ih=>rw[EW];exact Lr ih
 |_=>simp[EW]
theorem NS.id{p:PV}(h:NS p)(R:Nat→PV):ak R p=p:=F3 R p (Dg h)
theorem anr{R:Nat→PV}{a:AV}{q:PV}(h:ah R a=.pv q):∃p,a=.pv p∧q=ak R p:=by
 cases a with
 |pv p=>rw[ah] at h;cases h;exact⟨p,rfl,rfl⟩
 |tsym t i=>
  rw[ah] at h;split at h<;>cases h
 |_=>rw[ah] at h;cases h
structure HSame(K K':Kn)(h h':List af):Prop where
 M:K'.M=K.M
 Z:K'.Z=K.Z
 E:K'.E=K.E
 mu:K'.mu=K.mu
 N:K'.N=K.N
 len:h'.length=h.length
 at_:∀(i:Nat) x',h'[i]? = some x'→∃x,h[i]? = some x∧x'.live=x.live∧
  (∀ty l',x'=.box ty l'→∃l,x=.box ty l∧l'.length=l.length∧∀us,VL K l us→VL K' l' us)∧
  (∀ty sz n',x'=.tok ty sz n'→∃n,x=.tok ty sz n∧dl K'.R n'=dl K.R n)∧
  (∀ty sz p',x'=.arr ty sz p'→∃p,x=.arr ty sz p∧ak K'.R p'=ak K.R p)
theorem WR.of_same{K K':Kn}{h h':List af}{w:World}(H:WR K h w)(s:HSame K K' h h'):WR K' h' w:=by
 refine⟨fun i hi=>?_,fun i hi=>?_,fun i g hi=>?_,fun i ty cells hi=>?_,fun t ty sz len ht=>?_,fun i j x y g hi hj hlx hly hmi hmj=>?_,fun i ty cells g hi hm o=>?_,fun g o v hm=>?_,fun i ty sz p hi=>?_⟩
 ·rw[s.mu];exact H.fresh i (by rw[←s.len];exact hi)
 ·rw[s.mu];exact H.has i (by rw[←s.len];exact hi)
 ·rw[s.mu] at hi;exact H.lt i g hi
 ·obtain⟨x,hx,_,hb,_,_⟩:=s.at_ i _ hi
  obtain⟨l,rfl,hlen,hv⟩:=hb ty cells rfl;obtain⟨g,cs,h1,h2,h3,h4⟩:=H.box i ty l hx;exact⟨g,cs,by rw[s.mu];exact h1,h2,by rw[s.Z,s.E];exact h3,by rw[hlen];exact hv _ h4⟩
 ·obtain⟨x,hx,_,_,hb,_⟩:=s.at_ t _ ht
  obtain⟨n,rfl,hv⟩:=hb ty sz len rfl;obtain⟨g,cs,h1,h2,h3,h4,h5,h6⟩:=H.tok t ty sz n hx;exact⟨g,cs,by rw[s.mu];exact h1,h2,by rw[s.Z];exact h3,by rw[s.E];exact h4,by rw[s.Z];exact h5,by rw[hv,s.M];exact h6⟩
 ·obtain⟨x0,hx,hl,_⟩:=s.at_ i _ hi
  obtain⟨y0,hy,hl2,_⟩:=s.at_ j _ hj;rw[s.mu] at hmi hmj;exact H.inj i j x0 y0 g hx hy (by rw[←hl];exact hlx) (by rw[←hl2];exact hly) hmi hmj
 ·obtain⟨x,hx,_,hb,_,_⟩:=s.at_ i _ hi
  obtain⟨l,rfl,_,hv⟩:=hb ty cells rfl;rw[s.mu] at hm;rw[s.M];exact H.apart i ty l g hx hm o
 ·rw[s.M] at hm;exact H.agr g o v hm
 ·obtain⟨x,hx,_,_,_,hb⟩:=s.at_ i _ hi
  obtain⟨p0,rfl,hv⟩:=hb ty sz p rfl;obtain⟨g,cs,h1,h2,h3,h4⟩:=H.arr i ty sz p0 hx;refine⟨g,cs,by rw[s.mu];exact h1,h2,by rw[s.Z,s.E];exact h3,h4.go (fun o=>by rw[s.M];exact h4.none o) hv (by rw[s.N]) (by rw[s.Z]) (by rw[s.E]) (fun q v hq hp=>?_)⟩;rw[s.M];exact hp.swap (YT q hq)
theorem HSame.live{K K':Kn}{h h':List af}(s:HSame K K' h h'){b:Nat}(hb:K'.liveB h' b):K.liveB h b:=by
 obtain⟨i,x,hi,hl,hm⟩:=hb;obtain⟨x0,hx,hl2,_⟩:=s.at_ i _ hi;exact⟨i,x0,hx,by rw[←hl2];exact hl,by rw[←s.mu];exact hm⟩
theorem Step.of_same{K Ka Ka':Kn}{h ha ha' h':List af}{w w':World}(s1:HSame K Ka h ha)(S:Step Ka ha w Ka' ha' w')(s2:HSame Ka' (Ka'.re K.R) ha' h'):Step K h w (Ka'.re K.R) h' w' where
 wr:=S.wr.of_same s2
 ext:=⟨fun g o v hm=>S.ext.M g o v (by rw[s1.M];exact hm),fun i g hm=>S.ext.mu i g (by rw[s1.mu];exact hm),fun i g hm=>(S.ext.Z i g (by rw[s1.mu];exact hm)).trans (by rw[s1.Z]),fun i g hm=>(S.ext.E i g (by rw[s1.mu];exact hm)).trans (by rw[s1.E]),rfl,fun i g hm=>(S.ext.N i g (by rw[s1.mu];exact hm)).trans (by rw[s1.N])⟩
 frm:=S.frm.mono fun _ _ hb=>s1.live hb
 zs:=fun g hg=>⟨(S.zs g hg).1.trans (by rw[s1.Z]),(S.zs g hg).2.trans (by rw[s1.E])⟩
 ms:=fun g o hg hl=>(S.ms g o hg fun hb=>hl (s1.live hb)).trans (by rw[s1.M])
 mu:=fun k b hk=>by
  rcases S.mu k b hk with h|h|h
  ·exact .inl (by rw[←s1.mu];exact h)
  ·exact .inr (.inl h)
  ·exact .inr (.inr (s1.live h))
 live:=fun b hb hlt=>s1.live (S.live b (s2.live hb) hlt)
 len:=by rw[←s1.len,s2.len];exact S.len
theorem HSame.plain{K:Kn}{R:Nat→PV}{h:List af}(hb:∀x∈h,yN x):HSame K (K.re R) h h:=by
 refine⟨rfl,rfl,rfl,rfl,rfl,rfl,fun i x hx=>⟨x,hx,rfl,fun ty l e=>?_,fun ty sz n e=>?_,fun ty sz p e=>?_⟩⟩
 ·subst e
  have:=hb _ (List.mem_of_getElem? hx);cases this with|box _ _ hn=>exact⟨l,rfl,rfl,fun us hv=>hv.swap hn⟩
 ·subst e
  have:=hb _ (List.mem_of_getElem? hx);cases this with|tok _ _ _ hn=>exact⟨n,rfl,(gT hn).trans (gT hn).symm⟩
 ·subst e
  have:=hb _ (List.mem_of_getElem? hx);cases this with|arr _ _ _ hn=>exact⟨p,rfl,(hn.id R).trans (hn.id K.R).symm⟩
theorem Aj(R:Nat→PV)(l:List AV):(aN R l).length=l.length:=by rw[dD,List.length_map]
theorem HSame.opened{K:Kn}{R:Nat→PV}{h:List af}(hb:∀x∈h.map (dX K.R),yN x):HSame K (K.re R) h (h.map (dX K.R)):=by
 refine⟨rfl,rfl,rfl,rfl,rfl,by simp,fun i x' hx'=>?_⟩;have hns:=hb x' (List.mem_of_getElem? hx');rw[List.getElem?_map] at hx';obtain⟨x,hx,e⟩:=aG hx';subst e;refine⟨x,hx,C9 _ x,fun ty l' e=>?_,fun ty sz n' e=>?_,fun ty sz p' e=>?_⟩
 ·cases x with
  |box ET l=>
   cases e;cases hns with
   |box _ _ hn=>exact⟨l,rfl,Aj _ _,fun us hv=>hv.opened.swap hn⟩
  |tok=>cases e
  |dead=>cases e
  |arr=>cases e
 ·cases x with
  |box=>cases e
  |tok ET sz0 n=>
   cases e;cases hns with
   |tok _ _ _ hn=>exact⟨n,rfl,gT hn⟩
  |dead=>cases e
  |arr=>cases e
 ·cases x with
  |box=>cases e
  |tok=>cases e
  |dead=>cases e
  |arr ET sz0 p=>
   cases e;cases hns with
   |arr _ _ _ hn=>exact⟨p,rfl,hn.id R⟩
theorem HSame.closed{K:Kn}{R:Nat→PV}{h:List af}(hb:∀x∈h.map (dX R),yN x):HSame K (K.re R) (h.map (dX R)) h:=by
 refine⟨rfl,rfl,rfl,rfl,rfl,by simp,fun i x hx=>?_⟩;have hx2:(h.map (dX R))[i]? = some (dX R x):=by rw[List.getElem?_map,hx];rfl
 have hns:=hb _ (List.mem_of_getElem? hx2);refine⟨dX R x,hx2,(C9 _ x).symm,fun ty l' e=>?_,fun ty sz n' e=>?_,fun ty sz p' e=>?_⟩
 ·subst e
  cases hns with
  |box _ _ hn=>exact⟨_,rfl,(Aj _ _).symm,fun us hv=>VL.closed (K:=K.re R) (hv.swap hn)⟩
 ·subst e
  cases hns with
  |tok _ _ _ hn=>exact⟨_,rfl,(gT hn).symm⟩
 ·subst e
  cases hns with
  |arr _ _ _ hn=>exact⟨_,rfl,(hn.id K.R).symm⟩
theorem mF(R:Nat→PV)(v:AV):dW (ah R v)=(dW v).map (ah R):=by
 have key:∀a:AV,(∃m,ah R a=.tup m)→∃m,a=.tup m:=by
  intro a ⟨m,h⟩;cases a with
  |tup l=>exact⟨l,rfl⟩
  |tsym t i=>
   rw[ah] at h;split at h<;>cases h
  |_=>rw[ah] at h;cases h
 cases hv:dW v with
 |some x=>
  rw[iI hv,ah,aN,aN,aN,ah,aN];rfl
 |none=>
  cases ho:dW (ah R v) with
  |none=>rfl
  |some y=>
   exfalso;have e:=iI ho;obtain⟨l,rfl⟩:=key v ⟨_,e⟩;rw[ah] at e;injection e with e
   match l,e with
   |[],e=>rw[aN] at e;cases e
   |[a],e=>rw[aN,aN] at e;injection e with _ e;cases e
   |a::b::c::r,e=>rw[aN,aN,aN] at e;injection e with _ e;injection e with _ e;cases e
   |[a,b],e=>
    rw[aN,aN,aN] at e;injection e with e1 e2
    obtain⟨m,rfl⟩:=key a ⟨_,e1⟩;rw[ah] at e1;injection e1 with e1
    cases m with
    |nil=>cases hv
    |cons _ _=>rw[aN] at e1;cases e1
theorem iC.opened{K:Kn}{v:AV}{e:Ending}(h:iC K v e):iC K (ah K.R v) e:=by
 refine h.map (fun x hx=>⟨ah K.R x,by rw[mF,hx];rfl,fun u hu=>hu.opened rfl⟩) (fun hn=>⟨by rw[mF,hn];rfl,fun u hu=>hu.opened rfl⟩)
theorem iC.closed{K:Kn}{v:AV}{e:Ending}(h:iC K (ah K.R v) e):iC K v e:=by
 refine h.map (fun x hx=>?_) (fun hn=>?_)
 ·rw[mF] at hx
  obtain⟨y,hy,rfl⟩:=aG hx;exact⟨y,hy,fun u hu=>hu.closed rfl⟩
 ·rw[mF] at hn
  refine⟨?_,fun u hu=>hu.closed rfl⟩;cases hv:dW v with
  |none=>rfl
  |some x=>rw[hv] at hn;cases hn
theorem iC.swap{K:Kn}{R:Nat→PV}{v:AV}{e:Ending}(h:iC K v e)(hn:rR v):iC (K.re R) v e:=by
 refine h.map (fun x hx=>⟨x,hx,fun u hu=>hu.swap ?_⟩) (fun hp=>⟨hp,fun u hu=>hu.swap hn⟩);rw[iI hx] at hn;cases hn with
 |tup _ hl=>exact hl x (by simp)
theorem fH.to{P:Program}{R R':Nat→PV}{f:Nat}{args args':List AV}{h ha ha' h':List af}{v v':AV}(hc:fH R' P f args' ha v' ha')
  (hargs:∀K us,K.R=R→VL K args us→VL (K.re R') args' us) (hh:∀K,K.R=R→HSame K (K.re R') h ha) (hh':∀K,K.R=R'→HSame K (K.re R) ha' h')
  (hv:∀K e,K.R=R'→iC K v' e→iC (K.re R) v e):fH R P f args h v h':=by
 intro K w us hR W hvl;have h1:=hh K hR;refine(hc (K.re R') w us rfl (W.of_same h1) (hargs K us hR hvl)).mono ?_;rintro e w' ⟨K',hu,hst⟩;have hR':K'.R=R':=hst.ext.R;have h2:=hh' K' hR';subst hR;exact⟨K'.re K.R,hv K' e hR' hu,Step.of_same h1 hst h2⟩
theorem fH.names{P:Program}{R:Nat→PV}{f:Nat}{args:List AV}{h h':List af}{v:AV}(hc:∀R',fH R' P f (aN R args) (h.map (dX R)) (ah R v) (h'.map (dX R)))
  (n1:∀x∈h.map (dX R),yN x) (n2:∀x∈h'.map (dX R),yN x):fH R P f args h v h':=by
 refine(hc R).to (fun K us hR hv=>?_) (fun K hR=>?_) (fun K hR=>?_) (fun K u hR hv=>?_)
 ·subst hR;exact hv.opened
 ·subst hR;exact HSame.opened n1
 ·subst hR;exact HSame.closed n2
 ·subst hR;exact iC.closed hv
theorem fH.values{P:Program}{R:Nat→PV}{f:Nat}{args:List AV}{h h':List af}{v:AV}(hc:fH R P f args h v h')
  (a1:∀a∈aN R args,rR a) (a2:rR (ah R v)) (n1:∀x∈h.map (dX R),yN x) (n2:∀x∈h'.map (dX R),yN x) (R':Nat→PV) :
  fH R' P f (aN R args) (h.map (dX R)) (ah R v) (h'.map (dX R)):=by
 refine hc.to (fun K us hR hv=>?_) (fun K hR=>?_) (fun K hR=>?_) (fun K u hR hv=>?_)
 ·exact VL.closed (K:=K.re R) (hv.swap a1)
 ·exact HSame.closed n1
 ·subst hR;exact HSame.opened n2
 ·subst hR;exact hv.opened.swap a2
def IQ:PV→Bool
 |.lit (.slice none 0 0)=>true
 |_=>false
theorem zB{p:PV}(h:IQ p=true):p=.lit (.slice none 0 0):=by
 unfold IQ at h;split at h
 ·rfl
 ·cases h
def ES(p:PV):PV:=if IQ p then .rows [] else p
mutual
def wk:AV→AV
 |.pv p=>.pv (ES p)
 |.trows _ es=>.pv (.rows es)
 |.tsym _ i=>.pv (.sym i)
 |.agg l=>.agg (wV l)
 |.tup l=>.tup (wV l)
 |.fn f l=>.fn f (wV l)
 |.ptr i o=>.ptr i o
 |.cptr cs=>.cptr cs
 |.sl t lo len sz=>.sl t lo len sz
 |.ifc t v=>.ifc t (wk v)
 |.arr t=>.arr t
 |.aptr t i o=>.aptr t i o
def wV:List AV→List AV
 |[]=>[]
 |a::l=>wk a::wV l
end
theorem yP:∀l,wV l=l.map wk
 |[]=>by rw[wV];rfl
 |a::l=>by rw[wV,yP l];rfl
theorem PR.nilRow{R:Nat→PV}{M:Nat→Nat→Option Value}:PR R M (.rows []) (.slice none 0 0):=
 .rows [] none 0 0 0 0 (fun _ _=>.bool false) (fun h=>absurd rfl h) (Nat.le_refl _) (fun i h=>by simp at h) (fun i h=>by simp at h) (fun i h=>by simp at h)
theorem VR.wk{K:Kn}{a:AV}{v:Value}(h:VR K a v):VR K (wk a) v:=by
 induction h with
 |pv h=>
  rw[YtijcobeebaceoaaGreatDoor.wk];unfold ES;split
  ·rename_i hp
   rw[zB hp] at h;cases h;exact .pv PR.nilRow
  ·exact .pv h
 |trows t es g us hm hn hsz hc hr=>rw[YtijcobeebaceoaaGreatDoor.wk];exact .pv ((VR.trows t es g us hm hn hsz hc hr).toPV rfl)
 |tsym t i es hi h _=>rw[YtijcobeebaceoaaGreatDoor.wk];exact .pv ((VR.tsym t i es hi h).toPV rfl)
 |ptr i o g hm=>rw[YtijcobeebaceoaaGreatDoor.wk];exact .ptr i o g hm
 |cptr cs g o us hc hr=>rw[YtijcobeebaceoaaGreatDoor.wk];exact .cptr cs g o us hc hr
 |agg l cs hl _ ih=>rw[YtijcobeebaceoaaGreatDoor.wk,yP];exact .agg _ cs (by simpa using hl) (fun i hi hi'=>by simpa using ih i (by simpa using hi) hi')
 |tup l cs hl _ ih=>rw[YtijcobeebaceoaaGreatDoor.wk,yP];exact .tup _ cs (by simpa using hl) (fun i hi hi'=>by simpa using ih i (by simpa using hi) hi')
 |fn f l cs hl _ hb ih=>rw[YtijcobeebaceoaaGreatDoor.wk,yP];exact .fn f _ cs (by simpa using hl) (fun i hi hi'=>by simpa using ih i (by simpa using hi) hi') hb
 |bfn f g l cs hl _ hg ih=>rw[YtijcobeebaceoaaGreatDoor.wk,yP];exact .bfn f g _ cs (by simpa using hl) (fun i hi hi'=>by simpa using ih i (by simpa using hi) hi') hg
 |sl t lo len sz g cap off a b c d f=>rw[YtijcobeebaceoaaGreatDoor.wk];exact .sl t lo len sz g cap off a b c d f
 |ifc t _ ih=>rw[YtijcobeebaceoaaGreatDoor.wk];exact .ifc t ih
 |arr t g c a b d=>rw[YtijcobeebaceoaaGreatDoor.wk];exact .arr t g c a b d
 |aptr t i o g k kd a b c=>rw[YtijcobeebaceoaaGreatDoor.wk];exact .aptr t i o g k kd a b c
theorem VL.wk{K:Kn}{l:List AV}{us:List Value}(h:VL K l us):VL K (wV l) us:=by
 rw[yP];exact⟨by simpa using h.1,fun i hi hi'=>by simpa using(h.2 i (by simpa using hi) hi').wk⟩
theorem VF(v:AV):dW (wk v)=(dW v).map wk:=by
 have key:∀a:AV,(∃m,wk a=.tup m)→∃m,a=.tup m:=by
  intro a ⟨m,h⟩;cases a with
  |tup l=>exact⟨l,rfl⟩
  |_=>rw[wk] at h;cases h
 cases hv:dW v with
 |some x=>
  rw[iI hv,wk,wV,wV,wV,wk,wV];rfl
 |none=>
  cases ho:dW (wk v) with
  |none=>rfl
  |some y=>
   exfalso;have e:=iI ho;obtain⟨l,rfl⟩:=key v ⟨_,e⟩;rw[wk] at e;injection e with e
   match l,e with
   |[],e=>rw[wV] at e;cases e
   |[a],e=>rw[wV,wV] at e;injection e with _ e;cases e
   |a::b::c::r,e=>rw[wV,wV,wV] at e;injection e with _ e;injection e with _ e;cases e
   |[a,b],e=>
    rw[wV,wV,wV] at e;injection e with e1 e2
    obtain⟨m,rfl⟩:=key a ⟨_,e1⟩;rw[wk] at e1;injection e1 with e1
    cases m with
    |nil=>cases hv
    |cons _ _=>rw[wV] at e1;cases e1
theorem iC.wk{K:Kn}{v:AV}{e:Ending}(h:iC K v e):iC K (YtijcobeebaceoaaGreatDoor.wk v) e:=
 h.map (fun x hx=>⟨YtijcobeebaceoaaGreatDoor.wk x,by rw[VF,hx];rfl,fun u hu=>hu.wk⟩) (fun hn=>⟨by rw[VF,hn];rfl,fun u hu=>hu.wk⟩)
def MF(call:Nat→List AV→List af→Option (AV×List af))(f:Nat)(args:List AV)(h:List af):Option (AV×List af):=match call f args h with
 |some r=>some r
 |none=>match JA call f (wV args) h with
  |some (v,h',_)=>some (v,h')
  |none=>none
theorem aa2{P:Program}{R:Nat→PV}{call:Nat→List AV→List af→Option (AV×List af)}(hc:dJ R P call):dJ R P (MF call):=by
 intro f args h v h' he;unfold MF at he;split at he
 ·rename_i r hr
  cases he;exact hc _ _ _ _ _ hr
 ·split at he
  ·rename_i v1 h1 ids hd
   cases he;obtain⟨hs,args',v0,hs',q1,q2,q3,q4,q5,q6⟩:=Aq hd (fun hr=>lT _ _ hr);intro K w us hR W hvl;refine(hc _ _ _ _ _ q4 (K.sub ids) w us hR (W.sub q1 q2) (qL (Ren.sub K ids) hvl.wk q3)).mono ?_;rintro e w' ⟨K',hu,hst⟩;obtain⟨m1,m2,_⟩:=sW W q1 q2 hst q6;exact⟨_,hu.ren m2 q5,m1⟩
  ·cases he
theorem fH.forget{P:Program}{R:Nat→PV}{f:Nat}{args:List AV}{v:AV}{h':List af}(hc:fH R P f args [] v h')(hv:refs (YtijcobeebaceoaaGreatDoor.wk v)=[]):fH R P f args [] (YtijcobeebaceoaaGreatDoor.wk v) []:=by
 intro K w us hR W hvl;refine(hc K w us hR W hvl).mono ?_;rintro e w' ⟨K',hu,hst⟩;have hf:o7 (YtijcobeebaceoaaGreatDoor.wk v) h' ([]:List af).length=some (YtijcobeebaceoaaGreatDoor.wk v,[]):=by
  unfold o7;simp[hv]
 obtain⟨f,K2,h1,h2,h3⟩:=lu W hst hf;exact⟨K2,hu.wk.ren h1 h2,h3⟩
def openE(R:Nat→PV):Env→Env
 |[]=>[]
 |(d,v)::e=>(d,ah R v)::openE R e
theorem wH(R:Nat→PV):∀(e:Env) (d:Nat),look (openE R e) d=(look e d).map (ah R)
 |[],_=>rfl
 |(k,v)::r,d=>by
  show (match Nat.beq k d with|true=>some (ah R v)|false=>look (openE R r) d)=Option.map (ah R) (match Nat.beq k d with|true=>some v|false=>look r d);cases Nat.beq k d with
  |true=>rfl
  |false=>exact wH R r d
theorem LB{d:Nat}{v:AV}:∀{e:Env},look e d=some v→(d,v)∈e
 |[],h=>by cases h
 |(k,u)::r,h=>by
  simp only[look] at h;split at h
  ·rename_i hb
   cases h;rw[←Nat.eq_of_beq_eq_true hb];exact List.mem_cons_self ..
  ·exact List.mem_cons_of_mem _ (LB h)
theorem bF.openE{K:Kn}{n:Nat}{e:Env}{tm:Array Value}(h:bF K n e tm):bF K n (openE K.R e) tm:=by
 refine⟨h.1,fun d v hd=>?_⟩;rw[wH] at hd;obtain⟨u,hu,e⟩:=aG hd;subst e;exact(h.2 d u hu).opened rfl
theorem bF.closeE{K:Kn}{n:Nat}{e:Env}{tm:Array Value}(h:bF K n (YtijcobeebaceoaaGreatDoor.openE K.R e) tm):bF K n e tm:=by
 refine⟨h.1,fun d v hd=>?_⟩;exact VR.closed rfl (h.2 d (ah K.R v) (by rw[wH,hd];rfl))
def NSE(e:Env):Prop:=∀p∈e,rR p.2
theorem bF.swap{K:Kn}{R:Nat→PV}{n:Nat}{e:Env}{tm:Array Value}(h:bF K n e tm)(hn:NSE e):bF (K.re R) n e tm:=⟨h.1,fun d v hd=>(h.2 d v hd).swap (hn _ (LB hd))⟩
section
variable{P:Program}{n:Nat}{c:Code}{sl sl':Env}{h h':List af}{ex:bB}{R:Nat→PV}
def Ui(e e':Env):Prop:=∀d v,look e d=some v→look e' d=some v
theorem bF.le{K:Kn}{e e':Env}{tm:Array Value}(h:bF K n e' tm)(hl:Ui e e'):bF K n e tm:=⟨h.1,fun d v hd=>h.2 d v (hl d v hd)⟩
theorem gH.weak{sl0 sl1:Env}(hc:gH R P n c sl0 h ex sl1 h')(h0:Ui sl0 sl)(h1:Ui sl' sl1):gH R P n c sl h ex sl' h':=by
 intro K w a hR W hs;refine wp_mono (hc K w a hR W (hs.le h0)) fun e a' w' hp=>?_
 obtain⟨tm,q0,K',q1,q2,q3⟩:=hp;exact⟨tm,q0,K',q1.le h1,q2,q3⟩
theorem gH.to{R R':Nat→PV}{sla sla':Env}{ha ha':List af}(hc:gH R' P n c sla ha ex sla' ha')
  (he:∀K tm,K.R=R→bF K n sl tm→bF (K.re R') n sla tm) (hh:∀K,K.R=R→HSame K (K.re R') h ha) (hh':∀K,K.R=R'→HSame K (K.re R) ha' h')
  (he':∀K tm,K.R=R'→bF K n sla' tm→bF (K.re R) n sl' tm):gH R P n c sl h ex sl' h':=by
 intro K w a hR W hs;have h1:=hh K hR;refine wp_mono (hc (K.re R') w a rfl (W.of_same h1) (he K _ hR hs)) fun e a' w' hp=>?_
 obtain⟨tm,q0,K',q1,q2,q3⟩:=hp;have hR':K'.R=R':=q3.ext.R;have h2:=hh' K' hR';have e':=he' K' _ hR' q1;subst hR;exact⟨tm,q0,K'.re K.R,e',q2,Step.of_same h1 q3 h2⟩
theorem gH.names(hc:∀R',gH R' P n c (openE R sl) (h.map (dX R)) ex (openE R sl') (h'.map (dX R)))
  (n1:∀x∈h.map (dX R),yN x) (n2:∀x∈h'.map (dX R),yN x):gH R P n c sl h ex sl' h':=by
 refine(hc R).to (fun K tm hR hv=>?_) (fun K hR=>?_) (fun K hR=>?_) (fun K tm hR hv=>?_)
 ·subst hR;exact hv.openE
 ·subst hR;exact HSame.opened n1
 ·subst hR;exact HSame.closed n2
 ·subst hR;exact bF.closeE hv
def si(R:Nat→PV)(P:Program)(n:Nat)(c:Code)(m0:Nat)(sl:Env)(h:List af)(ex:bB)(sl':Env)(h':List af):Prop:=
 ∀(K0:Kn) (h0:List af) (w0:World) (a0:Act) (K:Kn) (w:World) (a:Act),h0.length=m0→(∀x∈h0,yN x)→K.R=R→WR K0 h0 w0→Step K0 h0 w0 K h w→a.defers=a0.defers→bF K n sl a.tmps→
  c.wp P (Post K0 n h0 w0 a0 ex sl' h') a w
theorem gH.toB{m0:Nat}{sl1:Env}{h1:List af}{ids ks:List Nat}(hb:gH R P n c sl h ex sl1 h1)(hn:nodupB ids=true)(hp:ids.take m0=List.range m0)(hh:u7 h1 ids=some h') :
  si R P n c m0 sl h ex (tV (fun i=>posOf i ids) sl1 ks) h':=by
 intro K0 h0 w0 a0 K w a hm _ hR W S hd hs;refine wp_mono (hb K w a hR S.wr hs) fun e a1 w1 hq=>?_
 obtain⟨tm,q0,K1,q1,q2,q3⟩:=hq;subst hm;have S2:=Step.sub W (S.trans q3) hn hh (fun k hk=>KP hp k hk);exact⟨tm,q0,K1.sub ids,q1.comp (Ren.sub K1 ids) ks,q2.trans hd,S2⟩
theorem si.values{m0:Nat}(hc:si R P n c m0 sl h ex sl' h')(a1:NSE (openE R sl))(a2:NSE (openE R sl'))(n1:∀x∈h.map (dX R),yN x)(n2:∀x∈h'.map (dX R),yN x)(R':Nat→PV) :
  si R' P n c m0 (openE R sl) (h.map (dX R)) ex (openE R sl') (h'.map (dX R)):=by
 intro K0 h0 w0 a0 K w a hm hns hR W S hd hs;have s0:HSame K0 (K0.re R) h0 h0:=HSame.plain hns;have s0':HSame (K0.re R) K0 h0 h0:=HSame.plain (K:=K0.re R) (R:=K0.R) hns;have S1:Step (K0.re R) h0 w0 (K.re R) h w:=Step.of_same s0' S (HSame.closed n1);refine wp_mono (hc (K0.re R) h0 w0 a0 (K.re R) w a hm hns rfl (W.of_same s0) S1 hd (bF.closeE (K:=K.re R) (hs.swap a1))) fun e a' w' hp=>?_
 obtain⟨tm,q0,K',q1,q2,q3⟩:=hp;have hR':K'.R=R:=q3.ext.R;subst hR';exact⟨tm,q0,K'.re K0.R,q1.openE.swap a2,q2,Step.of_same s0 q3 (HSame.opened n2)⟩
def ng(R:Nat→PV)(P:Program)(n:Nat)(c:Code)(m0:Nat)(sl:Env)(h:List af)(ex:bB)(sl':Env)(h':List af):Prop:=
 ∃m,∀(K0:Kn) (h0:List af) (w0:World) (a0:Act) (K:Kn) (w:World) (a:Act),h0.length=m0→(∀x∈h0,yN x)→K.R=R→WR K0 h0 w0→Step K0 h0 w0 K h w→a.defers=a0.defers→bF K n sl a.tmps→
  Code.rounds P c (Post K0 n h0 w0 a0 ex sl' h') m a w
theorem ng.again{m0:Nat}{sl1:Env}{h1:List af}(hb:si R P n c m0 sl h .normal sl1 h1)(hl:ng R P n c m0 sl1 h1 ex sl' h'):ng R P n c m0 sl h ex sl' h':=by
 obtain⟨m,hm⟩:=hl;refine⟨m+1,fun K0 h0 w0 a0 K w a h1 h2 h3 h4 h5 h6 h7=>?_⟩;rw[rounds_succ];refine wp_mono (hb K0 h0 w0 a0 K w a h1 h2 h3 h4 h5 h6 h7) fun e a1 w1 hq=>?_
 obtain⟨tm,⟨rfl,rfl⟩,K1,q1,q2,q3⟩:=hq;exact hm K0 h0 w0 a0 K1 w1 a1 h1 h2 (by rw[q3.ext.R,←h5.ext.R];exact h3) h4 q3 q2 q1
theorem ng.done{m0:Nat}(hb:si R P n c m0 sl h ex sl' h')(hx:ex≠.normal):ng R P n c m0 sl h ex sl' h':=by
 refine⟨1,fun K0 h0 w0 a0 K w a h1 h2 h3 h4 h5 h6 h7=>?_⟩;rw[rounds_succ];refine wp_mono (hb K0 h0 w0 a0 K w a h1 h2 h3 h4 h5 h6 h7) fun e a1 w1 hp=>?_
 have hp':=hp;obtain⟨tm,ho,_⟩:=hp';cases ex with
 |normal=>exact absurd rfl hx
 |exit id=>obtain⟨rfl,_⟩:=ho;exact hp
 |ret=>obtain⟨rfl,_⟩:=ho;exact hp
 |pan=>obtain⟨_,u,rfl,_⟩:=ho;exact hp
theorem ng.block{id:Nat}(hn:∀x∈h,yN x)(hl:ng R P n c h.length sl h (.exit id) sl' h'):gH R P n (.block id (.loop c)) sl h .normal sl' h':=by
 obtain⟨m,hm⟩:=hl;intro K w a hR W hs;refine wp_block (wp_mono (wp_loop_rounds m (hm K h w a K w a rfl hn hR W (Step.refl W) rfl hs)) fun e a1 w1 hp=>?_);obtain⟨tm,⟨rfl,rfl⟩,K1,q1,q2,q3⟩:=hp;show (if id=id then _ else _);rw[if_pos rfl];exact⟨_,⟨rfl,rfl⟩,K1,q1,q2,q3⟩
theorem ng.blockRet{id:Nat}(hn:∀x∈h,yN x)(hl:ng R P n c h.length sl h .ret sl' h'):gH R P n (.block id (.loop c)) sl h .ret sl' h':=by
 obtain⟨m,hm⟩:=hl;intro K w a hR W hs;refine wp_block (wp_mono (wp_loop_rounds m (hm K h w a K w a rfl hn hR W (Step.refl W) rfl hs)) fun e a1 w1 hp=>?_);have hp':=hp;obtain⟨tm,⟨rfl,_⟩,_⟩:=hp';exact hp
theorem ng.blockPan{id:Nat}(hn:∀x∈h,yN x)(hl:ng R P n c h.length sl h .pan sl' h'):gH R P n (.block id (.loop c)) sl h .pan sl' h':=by
 obtain⟨m,hm⟩:=hl;intro K w a hR W hs;refine wp_block (wp_mono (wp_loop_rounds m (hm K h w a K w a rfl hn hR W (Step.refl W) rfl hs)) fun e a1 w1 hp=>?_);have hp':=hp;obtain⟨tm,⟨_,u,rfl,_⟩,_⟩:=hp';exact hp
theorem ng.blockOut{id j:Nat}(hne:j≠id)(hn:∀x∈h,yN x)(hl:ng R P n c h.length sl h (.exit j) sl' h'):gH R P n (.block id (.loop c)) sl h (.exit j) sl' h':=by
 obtain⟨m,hm⟩:=hl;intro K w a hR W hs;refine wp_block (wp_mono (wp_loop_rounds m (hm K h w a K w a rfl hn hR W (Step.refl W) rfl hs)) fun e a1 w1 hp=>?_);have hp':=hp;obtain⟨tm,⟨rfl,_⟩,_⟩:=hp';show (if j=id then _ else _);rw[if_neg hne];exact hp
end
structure CE where
 f:Nat
 args:List AV
 h:List af
 v:AV
 h':List af
def uX:List CE→Nat→List AV→List af→Option (AV×List af)
 |[],_,_,_=>none
 |e::l,f,args,h=>if Nat.beq f e.f&&zF args e.args&&Mj h e.h then some (e.v,e.h') else uX l f args h
theorem EC{R:Nat→PV}{P:Program}:∀{l:List CE},(∀e∈l,fH R P e.f e.args e.h e.v e.h')→dJ R P (uX l)
 |[],_,_,_,_,_,_,h=>by cases h
 |e::l,he,f,args,h,v,h',hc=>by
  rw[uX] at hc;split at hc
  ·rename_i hb
   rw[Bool.and_eq_true,Bool.and_eq_true] at hb;cases hc;have e1:=Nat.eq_of_beq_eq_true hb.1.1;have e2:=nI _ _ hb.1.2;have e3:=uT hb.2;subst e1;subst e2;subst e3;exact he e (List.mem_cons_self ..)
  ·exact EC (fun x hx=>he x (List.mem_cons_of_mem _ hx)) f args h v h' hc
structure BE where
 id:Nat
 e:Env
 h:List af
 ex:bB
 e':Env
 h':List af
def hasB(sl:Env):Env→Bool
 |[]=>true
 |(d,v)::r=>(match look sl d with|some u=>uV u v|none=>false)&&hasB sl r
theorem Sz{sl:Env}:∀{e:Env},hasB sl e=true→Ui e sl
 |[],_,d,v,h=>by cases h
 |(k,u)::r,he,d,v,h=>by
  rw[hasB,Bool.and_eq_true] at he;simp only[look] at h;split at h
  ·rename_i hb
   cases h;have:=he.1;split at this
   ·rename_i w hw
    rw[←Nat.eq_of_beq_eq_true hb,hw,rC _ _ this]
   ·cases this
  ·exact Sz he.2 d v h
def Dn:List BE→Nat→Env→List af→Option (bB×Env×List af)
 |[],_,_,_=>none
 |b::l,i,sl,h=>if Nat.beq i b.id&&hasB sl b.e&&Mj h b.h then some (b.ex,b.e',b.h') else Dn l i sl h
theorem Y2{R:Nat→PV}{P:Program}{n:Nat}{T:FT}{c:Code}{l:List BE}(hT:T.lp=some (Dn l))(hc:∀b∈l,∀c'∈subs b.id c,gH R P n (.block b.id c') b.e b.h b.ex b.e' b.h'):EO R P n T c:=by
 intro lp hlp i c' hm sl h ex1 sl1 h1 hl;rw[hT] at hlp;cases hlp;clear hT
 induction l with
 |nil=>cases hl
 |cons b l ih=>
  rw[Dn] at hl;split at hl
  ·rename_i hb
   rw[Bool.and_eq_true,Bool.and_eq_true] at hb;cases hl;have e1:=Nat.eq_of_beq_eq_true hb.1.1;have e3:=uT hb.2;subst e1;subst e3;exact(hc b (List.mem_cons_self ..) c' hm).weak (Sz hb.1.2) (fun _ _ h=>h)
  ·exact ih (fun x hx=>hc x (List.mem_cons_of_mem _ hx)) hl
mutual
def lX:PV→List Nat
 |.sym i=>[i]
 |.rows es=>mG es
 |.lit _=>[]
 |.opq _ _ _=>[]
 |.rng _ _=>[]
 |.any=>[]
def jX:List PV→List Nat
 |[]=>[]
 |p::l=>lX p++jX l
def mG:List (List PV)→List Nat
 |[]=>[]
 |p::l=>jX p++mG l
end
mutual
def bn:AV→List Nat
 |.pv p=>lX p
 |.trows _ es=>mG es
 |.tsym _ i=>[i]
 |.ptr _ _=>[]
 |.cptr cs=>jX cs
 |.agg l=>jm l
 |.tup l=>jm l
 |.fn _ l=>jm l
 |.sl _ _ _ _=>[]
 |.ifc _ v=>bn v
 |.arr _=>[]
 |.aptr _ i _=>lX i
def jm:List AV→List Nat
 |[]=>[]
 |p::l=>bn p++jm l
end
section
variable{R R':Nat→PV}
mutual
theorem gM:∀(p:PV),(∀i∈lX p,R i=R' i)→ak R p=ak R' p
 |.sym i,h=>by rw[ak,ak];exact h i (by simp[lX])
 |.rows es,h=>by rw[ak,ak,pO es (by rw[lX] at h;exact h)]
 |.lit _,_=>by rw[ak,ak]
 |.opq _ _ _,_=>by rw[ak,ak]
 |.rng _ _,_=>by rw[ak,ak]
 |.any,_=>by rw[ak,ak]
theorem jl:∀(l:List PV),(∀i∈jX l,R i=R' i)→aS R l=aS R' l
 |[],_=>by rw[aS,aS]
 |p::l,h=>by
  rw[jX] at h;rw[aS,aS,gM p (fun i hi=>h i (List.mem_append_left _ hi)),jl l (fun i hi=>h i (List.mem_append_right _ hi))]
theorem pO:∀(l:List (List PV)),(∀i∈mG l,R i=R' i)→bO R l=bO R' l
 |[],_=>by rw[bO,bO]
 |p::l,h=>by
  rw[mG] at h;rw[bO,bO,jl p (fun i hi=>h i (List.mem_append_left _ hi)),pO l (fun i hi=>h i (List.mem_append_right _ hi))]
end
mutual
theorem aT:∀(a:AV),(∀i∈bn a,R i=R' i)→ah R a=ah R' a
 |.pv p,h=>by rw[ah,ah,gM p (by rw[bn] at h;exact h)]
 |.trows t es,h=>by rw[ah,ah,pO es (by rw[bn] at h;exact h)]
 |.tsym t i,h=>by rw[ah,ah,h i (by simp[bn])]
 |.ptr _ _,_=>by rw[ah,ah]
 |.cptr cs,h=>by rw[ah,ah,jl cs (by rw[bn] at h;exact h)]
 |.agg l,h=>by rw[ah,ah,gY l (by rw[bn] at h;exact h)]
 |.tup l,h=>by rw[ah,ah,gY l (by rw[bn] at h;exact h)]
 |.fn _ l,h=>by rw[ah,ah,gY l (by rw[bn] at h;exact h)]
 |.sl _ _ _ _,_=>by rw[ah,ah]
 |.ifc _ v,h=>by rw[ah,ah,aT v (by rw[bn] at h;exact h)]
 |.arr _,_=>by rw[ah,ah]
 |.aptr _ i _,h=>by rw[ah,ah,gM i (by rw[bn] at h;exact h)]
theorem gY:∀(l:List AV),(∀i∈jm l,R i=R' i)→aN R l=aN R' l
 |[],_=>by rw[aN,aN]
 |p::l,h=>by
  rw[jm] at h;rw[aN,aN,aT p (fun i hi=>h i (List.mem_append_left _ hi)),gY l (fun i hi=>h i (List.mem_append_right _ hi))]
end
end
def Iu:af→List Nat
 |.box _ l=>jm l
 |.tok _ _ n=>if n<bq then [] else [n-bq]
 |.dead=>[]
 |.arr _ _ p=>lX p
def j4:List af→List Nat
 |[]=>[]
 |x::l=>Iu x++j4 l
def sV:Env→List Nat
 |[]=>[]
 |(_,a)::l=>bn a++sV l
def cB(R:Nat→PV):List af→List af
 |[]=>[]
 |x::l=>dX R x::cB R l
theorem eG(R:Nat→PV):∀h,cB R h=h.map (dX R)
 |[]=>rfl
 |x::l=>by rw[cB,eG R l];rfl
theorem Ai{R R':Nat→PV}(x:af)(h:∀i∈Iu x,R i=R' i):dX R x=dX R' x:=by
 cases x with
 |box ty l=>simp only[dX];rw[gY l h]
 |arr ty sz p=>simp only[dX];rw[gM p h]
 |dead=>rfl
 |tok ty sz n=>
  simp only[dX];unfold dl;split
  ·rfl
  ·rename_i hn
   rw[h (n-bq) (by rw[Iu,if_neg hn];exact List.mem_singleton.2 rfl)]
theorem jg{R R':Nat→PV}:∀(h:List af),(∀i∈j4 h,R i=R' i)→cB R h=cB R' h
 |[],_=>rfl
 |x::l,h=>by
  rw[j4] at h;rw[cB,cB,Ai x (fun i hi=>h i (List.mem_append_left _ hi)),jg l (fun i hi=>h i (List.mem_append_right _ hi))]
theorem oQ{R R':Nat→PV}:∀(e:Env),(∀i∈sV e,R i=R' i)→openE R e=openE R' e
 |[],_=>rfl
 |(d,a)::l,h=>by
  rw[sV] at h;rw[openE,openE,aT a (fun i hi=>h i (List.mem_append_left _ hi)),oQ l (fun i hi=>h i (List.mem_append_right _ hi))]
def uN:Option AV→List Nat
 |none=>[]
 |some a=>bn a
def jK:SF→List Nat
 |.bin _ _ u v r=>bn u++bn v++bn r
 |.len _ u r=>bn u++bn r
 |.idx _ u i r=>bn u++bn i++bn r
 |.ind _ u i r=>bn u++bn i++bn r
 |.slc _ u lo hi r=>bn u++uN lo++uN hi++bn r
 |.conv _ _ u r=>bn u++bn r
 |.un _ u r=>bn u++bn r
 |.app _ s x j=>bn s++bn x++[j]
 |.app0 _ s x=>bn s++bn x
 |.names=>[]
 |.mx _ u v r=>bn u++bn v++bn r
 |.set p i _ c j=>lX p++lX i++jX c++[j]
 |.mk _ n j=>bn n++[j]
 |.apq _ s x j=>bn s++bn x++[j]
theorem qU{R R':Nat→PV}(a:Option AV)(h:∀i∈uN a,R i=R' i):a.map (ah R)=a.map (ah R'):=by
 cases a with
 |none=>rfl
 |some a=>simp only[Option.map_some];rw[aT a h]
theorem SF.ok_congr{R R':Nat→PV}{P:Program}(f:SF)(h:∀i∈jK f,R i=R' i)(hf:f.ok R P):f.ok R' P:=by
 cases f with
 |bin b t u v r=>
  simp only[jK,List.mem_append] at h;simp only[SF.ok] at hf ⊢
  rwa [←aT u (fun i hi=>h i (.inl (.inl hi))),←aT v (fun i hi=>h i (.inl (.inr hi))),←aT r (fun i hi=>h i (.inr hi))]
 |mx mn u v r=>
  simp only[jK,List.mem_append] at h;simp only[SF.ok] at hf ⊢
  rwa [←aT u (fun i hi=>h i (.inl (.inl hi))),←aT v (fun i hi=>h i (.inl (.inr hi))),←aT r (fun i hi=>h i (.inr hi))]
 |len t u r=>
  simp only[jK,List.mem_append] at h;simp only[SF.ok] at hf ⊢
  rwa [←aT u (fun i hi=>h i (.inl hi)),←aT r (fun i hi=>h i (.inr hi))]
 |idx t u v r=>
  simp only[jK,List.mem_append] at h;simp only[SF.ok] at hf ⊢
  rwa [←aT u (fun i hi=>h i (.inl (.inl hi))),←aT v (fun i hi=>h i (.inl (.inr hi))),←aT r (fun i hi=>h i (.inr hi))]
 |ind t u v r=>
  simp only[jK,List.mem_append] at h;simp only[SF.ok] at hf ⊢
  rwa [←aT u (fun i hi=>h i (.inl (.inl hi))),←aT v (fun i hi=>h i (.inl (.inr hi))),←aT r (fun i hi=>h i (.inr hi))]
 |slc t u lo hi r=>
  simp only[jK,List.mem_append] at h;simp only[SF.ok] at hf ⊢
  rwa [←aT u (fun i hi=>h i (.inl (.inl (.inl hi)))),←qU lo (fun i hi=>h i (.inl (.inl (.inr hi)))),←qU hi (fun i hi=>h i (.inl (.inr hi))),←aT r (fun i hi=>h i (.inr hi))]
 |conv s d u r=>
  simp only[jK,List.mem_append] at h;simp only[SF.ok] at hf ⊢
  rwa [←aT u (fun i hi=>h i (.inl hi)),←aT r (fun i hi=>h i (.inr hi))]
 |un o u r=>
  simp only[jK,List.mem_append] at h;simp only[SF.ok] at hf ⊢
  rwa [←aT u (fun i hi=>h i (.inl hi)),←aT r (fun i hi=>h i (.inr hi))]
 |app t s x j=>
  simp only[jK,List.mem_append] at h;simp only[SF.ok] at hf ⊢
  rwa [←aT s (fun i hi=>h i (.inl (.inl hi))),←aT x (fun i hi=>h i (.inl (.inr hi))),←h j (.inr (List.mem_singleton.2 rfl))]
 |app0 t s x=>
  simp only[jK,List.mem_append] at h;simp only[SF.ok] at hf ⊢
  rwa [←aT s (fun i hi=>h i (.inl hi)),←aT x (fun i hi=>h i (.inr hi))]
 |names=>trivial
 |apq t s x j=>
  simp only[jK,List.mem_append] at h;simp only[SF.ok] at hf ⊢
  rwa [←aT s (fun i hi=>h i (.inl (.inl hi))),←aT x (fun i hi=>h i (.inl (.inr hi))),←h j (.inr (List.mem_singleton.2 rfl))]
 |mk t m j=>
  simp only[jK,List.mem_append] at h;simp only[SF.ok] at hf ⊢
  rwa [←aT m (fun i hi=>h i (.inl hi)),←h j (.inr (List.mem_singleton.2 rfl))]
 |set p a o c j=>
  simp only[jK,List.mem_append] at h;simp only[SF.ok] at hf ⊢
  rwa [←gM p (fun i hi=>h i (.inl (.inl (.inl hi)))),←gM a (fun i hi=>h i (.inl (.inl (.inr hi)))),←jl c (fun i hi=>h i (.inl (.inr hi))),←h j (.inr (List.mem_singleton.2 rfl))]
section
variable{R:Nat→PV}
mutual
theorem uJ(hR:∀i,NS (R i)):∀(p:PV),NS (ak R p)
 |.sym i=>by rw[ak];exact hR i
 |.rows es=>by rw[ak];exact .rows _ (wh hR es)
 |.lit _=>by rw[ak];exact .lit _
 |.opq _ _ _=>by rw[ak];exact .opq ..
 |.rng _ _=>by rw[ak];exact .rng ..
 |.any=>by rw[ak];exact .any
theorem ql(hR:∀i,NS (R i)):∀(l:List PV),∀p∈aS R l,NS p
 |[],p,hp=>by rw[aS] at hp;cases hp
 |q::l,p,hp=>by
  have h1:=uJ hR q;have h2:=ql hR l;rw[aS] at hp;rcases List.mem_cons.1 hp with rfl|hp
  ·exact h1
  ·exact h2 p hp
theorem wh(hR:∀i,NS (R i)):∀(es:List (List PV)),∀c∈bO R es,∀p∈c,NS p
 |[],c,hc,_,_=>by rw[bO] at hc;cases hc
 |q::l,c,hc,p,hp=>by
  have h1:=ql hR q;have h2:=wh hR l;rw[bO] at hc;rcases List.mem_cons.1 hc with rfl|hc
  ·exact h1 p hp
  ·exact h2 c hc p hp
end
end
def isRow:PV→Prop
 |.rows _=>True
 |_=>False
mutual
def jN(R:Nat→PV):AV→Prop
 |.tsym _ i=>isRow (R i)
 |.agg l=>mU R l
 |.tup l=>mU R l
 |.fn _ l=>mU R l
 |.pv _=>True
 |.trows _ _=>True
 |.ptr _ _=>True
 |.cptr _=>True
 |.sl _ _ _ _=>True
 |.ifc _ v=>jN R v
 |.arr _=>True
 |.aptr _ _ _=>True
def mU(R:Nat→PV):List AV→Prop
 |[]=>True
 |a::l=>jN R a∧mU R l
end
def TsO(R:Nat→PV):af→Prop
 |.box _ l=>mU R l
 |.tok _ _ n=>dl R n<bq
 |.dead=>True
 |.arr _ _ _=>True
def Az(R:Nat→PV):List af→Prop
 |[]=>True
 |x::l=>TsO R x∧Az R l
def TsE(R:Nat→PV):Env→Prop
 |[]=>True
 |(_,a)::l=>jN R a∧TsE R l
section
variable{R:Nat→PV}
mutual
theorem uK(hR:∀i,NS (R i)):∀(a:AV),jN R a→rR (ah R a)
 |.pv p,_=>by rw[ah];exact .pv _ (uJ hR p)
 |.trows t es,_=>by rw[ah];exact .trows _ _ (wh hR es)
 |.tsym t i,h=>by
  rw[ah];rw[jN] at h;split
  ·rename_i es he
   have:=hR i;rw[he] at this;cases this with|rows _ hn=>exact .trows _ _ hn
  ·rename_i hn
   unfold isRow at h;split at h
   ·rename_i es he;exact absurd he (hn es)
   ·exact h.elim
 |.ptr _ _,_=>by rw[ah];exact .ptr ..
 |.cptr cs,_=>by rw[ah];exact .cptr _ (ql hR cs)
 |.agg l,h=>by rw[ah];exact .agg _ (lW hR l (by rw[jN] at h;exact h))
 |.tup l,h=>by rw[ah];exact .tup _ (lW hR l (by rw[jN] at h;exact h))
 |.fn _ l,h=>by rw[ah];exact .fn _ _ (lW hR l (by rw[jN] at h;exact h))
 |.sl _ _ _ _,_=>by rw[ah];exact .sl ..
 |.ifc _ v,h=>by rw[ah];exact .ifc _ _ (uK hR v (by rw[jN] at h;exact h))
 |.arr _,_=>by rw[ah];exact .arr ..
 |.aptr _ i _,_=>by rw[ah];exact .aptr _ _ _ (uJ hR i)
theorem lW(hR:∀i,NS (R i)):∀(l:List AV),mU R l→∀a∈aN R l,rR a
 |[],_,a,ha=>by rw[aN] at ha;cases ha
 |b::l,h,a,ha=>by
  rw[mU] at h;have h1:=uK hR b h.1;have h2:=lW hR l h.2;rw[aN] at ha;rcases List.mem_cons.1 ha with rfl|ha
  ·exact h1
  ·exact h2 a ha
end
theorem YJ(hR:∀i,NS (R i))(x:af)(h:TsO R x):yN (dX R x):=by
 cases x with
 |box ty l=>exact .box _ _ (lW hR l h)
 |tok ty sz n=>exact .tok _ _ _ h
 |dead=>exact .dead
 |arr ty sz p=>exact .arr _ _ _ (uJ hR p)
theorem jS(hR:∀i,NS (R i)):∀(l:List af),Az R l→∀x∈cB R l,yN x
 |[],_,x,hx=>by cases hx
 |y::l,h,x,hx=>by
  rcases List.mem_cons.1 hx with rfl|hx
  ·exact YJ hR y h.1
  ·exact jS hR l h.2 x hx
theorem Da(hR:∀i,NS (R i)):∀(e:Env),TsE R e→NSE (openE R e)
 |[],_,x,hx=>by cases hx
 |(d,a)::l,h,x,hx=>by
  rcases List.mem_cons.1 hx with rfl|hx
  ·exact uK hR a h.1
  ·exact Da hR l h.2 x hx
end
def nm(l:List PV):Nat→PV:=fun i=>l.getD i .any
theorem kW{l ws:List PV}{i:Nat}(h:i<l.length):nm (l++ws) i=nm l i:=by
 unfold nm;rw[List.getD_eq_getElem?_getD,List.getD_eq_getElem?_getD,List.getElem?_append_left h]
def kM(l:List PV):Prop:=∀p∈l,NS p
theorem kM.nm{l:List PV}(h:kM l)(i:Nat):NS (nm l i):=by
 unfold YtijcobeebaceoaaGreatDoor.nm;rw[List.getD_eq_getElem?_getD];cases hi:l[i]? with
 |none=>exact .any
 |some p=>exact h p (List.mem_of_getElem? hi)
inductive Tr where
 |say (f:SF) (m:Nat) (k:Tr)
 |alt (k l:Tr)
 |call (c:CE) (m:Nat) (k:Tr)
 |blk (b:BE) (m:Nat) (k:Tr)
 |code (ex:bB) (e:Env) (h:List af)
 |ret (v:AV) (h:List af)
inductive Out where
 |code (ex:bB) (e:Env) (h:List af)
 |ret (v:AV) (h:List af)
def exN:Nat→List PV→(List PV→Prop)→Prop
 |0,l,X=>X l
 |m+1,l,X=>∃v,exN m (l++[v]) fun l'=>X l'∧NS v
theorem Eo:∀{m:Nat} {l:List PV} {X:List PV→Prop},exN m l X→kM l→∃vs,vs.length=m∧kM (l++vs)∧X (l++vs):=by
 have key:∀{m:Nat} {l:List PV} {X:List PV→Prop},exN m l X→∃vs,vs.length=m∧X (l++vs)∧kM vs:=by
  intro m
  induction m with
  |zero=>intro l X h;exact⟨[],rfl,by simpa[exN] using h,fun p hp=>by cases hp⟩
  |succ m ih=>
   intro l X h;obtain⟨v,hv⟩:=h;obtain⟨vs,h1,⟨h2,h3⟩,h4⟩:=ih hv;refine⟨v::vs,by simp[h1],by simpa using h2,fun p hp=>?_⟩;rcases List.mem_cons.1 hp with rfl|hp
   ·exact h3
   ·exact h4 p hp
 intro m l X h hn;obtain⟨vs,h1,h2,h3⟩:=key h;refine⟨vs,h1,fun p hp=>?_,h2⟩;rcases List.mem_append.1 hp with hp|hp
 ·exact hn p hp
 ·exact h3 p hp
def fT(fn:Func):Code:=match fn.body with
 |some c=>c
 |none=>.skip
theorem afh{fn:Func}(h:fn.body.isSome=true):fn.body=some (fT fn):=by
 unfold fT;cases hb:fn.body with
 |none=>rw[hb] at h;cases h
 |some c=>rfl
def Sem(P:Program)(f:Nat)(args:List AV)(h:List af)(v:AV)(h':List af):Prop:=∀R,fH R P f args h v h'
def Vv(P:Program)(fn:Func)(id:Nat)(e:Env)(h:List af)(ex:bB)(e':Env)(h':List af):Prop:=∀R,∀c'∈subs id (fT fn),gH R P fn.ntmps (.block id c') e h ex e' h'
def AB(P:Program)(fn:Func):Tr→List PV→Out→Prop
 |.say f m k,l,o=>exN m l fun l'=>f.ok (nm l') P∧AB P fn k l' o
 |.alt a b,l,o=>AB P fn a l o∨AB P fn b l o
 |.call c m k,l,o=>exN m l fun l'=>(Sem P c.f (aN (nm l') c.args) (cB (nm l') c.h) (ah (nm l') c.v) (cB (nm l') c.h')∧Az (nm l') c.h∧Az (nm l') c.h')∧AB P fn k l' o
 |.blk b m k,l,o=>exN m l fun l'=>(Vv P fn b.id (openE (nm l') b.e) (cB (nm l') b.h) b.ex (openE (nm l') b.e') (cB (nm l') b.h')∧Az (nm l') b.h∧Az (nm l') b.h')∧AB P fn k l' o
 |.code ex e h,l,o=>o=.code ex (openE (nm l) e) (cB (nm l) h)∧TsE (nm l) e∧Az (nm l) h
 |.ret v h,l,o=>o=.ret (ah (nm l) v) (cB (nm l) h)∧jN (nm l) v∧Az (nm l) h
def jA(n:Nat):List Nat→Bool
 |[]=>true
 |i::l=>Nat.blt i n&&jA n l
theorem fF{n:Nat}:∀{l:List Nat},jA n l=true→∀i∈l,i<n
 |[],_,i,hi=>by cases hi
 |j::l,h,i,hi=>by
  rw[jA,Bool.and_eq_true] at h;rcases List.mem_cons.1 hi with rfl|hi
  ·exact Nat.le_of_ble_eq_true h.1
  ·exact fF h.2 i hi
def Di(c:CE):List Nat:=jm c.args++j4 c.h++bn c.v++j4 c.h'
def Dj(b:BE):List Nat:=sV b.e++j4 b.h++sV b.e'++j4 b.h'
def Nc(P:Program)(leaf:Out→List SF→List CE→List BE→Bool):Tr→Nat→List SF→List CE→List BE→Bool
 |.say f m k,n,tab,cs,bs=>jA (n+m) (jK f)&&Nc P leaf k (n+m) (f::tab) cs bs
 |.alt a b,n,tab,cs,bs=>Nc P leaf a n tab cs bs&&Nc P leaf b n tab cs bs
 |.call c m k,n,tab,cs,bs=>jA (n+m) (Di c)&&(callable P c.f&&Nc P leaf k (n+m) tab (c::cs) bs)
 |.blk b m k,n,tab,cs,bs=>jA (n+m) (Dj b)&&Nc P leaf k (n+m) tab cs (b::bs)
 |.code ex e h,_,tab,cs,bs=>leaf (.code ex e h) tab cs bs
 |.ret v h,_,tab,cs,bs=>leaf (.ret v h) tab cs bs
def Ik(R:Nat→PV):Out→Out
 |.code ex e h=>.code ex (openE R e) (cB R h)
 |.ret v h=>.ret (ah R v) (cB R h)
def abC(R:Nat→PV):Out→Prop
 |.code _ e h=>TsE R e∧Az R h
 |.ret v h=>jN R v∧Az R h
def Uj(P:Program)(l:List PV)(c:CE):Prop:=Sem P c.f (aN (nm l) c.args) (cB (nm l) c.h) (ah (nm l) c.v) (cB (nm l) c.h')∧Az (nm l) c.h∧Az (nm l) c.h'
def afy(P:Program)(fn:Func)(l:List PV)(b:BE):Prop:=Vv P fn b.id (openE (nm l) b.e) (cB (nm l) b.h) b.ex (openE (nm l) b.e') (cB (nm l) b.h')∧Az (nm l) b.h∧Az (nm l) b.h'
structure Inv(P:Program)(fn:Func)(l:List PV)(tab:List SF)(cs:List CE)(bs:List BE):Prop where
 ns:kM l
 tab:∀f∈tab,f.ok (nm l) P∧∀i∈jK f,i<l.length
 cs:∀c∈cs,Uj P l c∧(∀i∈Di c,i<l.length)∧callable P c.f=true
 bs:∀b∈bs,afy P fn l b∧∀i∈Dj b,i<l.length
section
variable{P:Program}{fn:Func}
mutual
theorem Gh{R R':Nat→PV}:∀(a:AV),(∀i∈bn a,R i=R' i)→jN R a→jN R' a
 |.tsym t i,h,ht=>by rw[jN] at ht ⊢;rw[←h i (by simp[bn])];exact ht
 |.agg l,h,ht=>by rw[jN] at ht ⊢;exact om l (by rw[bn] at h;exact h) ht
 |.tup l,h,ht=>by rw[jN] at ht ⊢;exact om l (by rw[bn] at h;exact h) ht
 |.fn _ l,h,ht=>by rw[jN] at ht ⊢;exact om l (by rw[bn] at h;exact h) ht
 |.pv _,_,_=>by rw[jN];trivial
 |.trows _ _,_,_=>by rw[jN];trivial
 |.ptr _ _,_,_=>by rw[jN];trivial
 |.cptr _,_,_=>by rw[jN];trivial
 |.sl _ _ _ _,_,_=>by rw[jN];trivial
 |.ifc _ v,h,ht=>by rw[jN] at ht ⊢;exact Gh v (by rw[bn] at h;exact h) ht
 |.arr _,_,_=>by rw[jN];trivial
 |.aptr _ _ _,_,_=>by rw[jN];trivial
theorem om{R R':Nat→PV}:∀(l:List AV),(∀i∈jm l,R i=R' i)→mU R l→mU R' l
 |[],_,_=>by rw[mU];trivial
 |a::l,h,ht=>by
  rw[jm] at h;rw[mU] at ht ⊢;exact⟨Gh a (fun i hi=>h i (List.mem_append_left _ hi)) ht.1,om l (fun i hi=>h i (List.mem_append_right _ hi)) ht.2⟩
end
theorem Vu{R R':Nat→PV}(x:af)(h:∀i∈Iu x,R i=R' i)(ht:TsO R x):TsO R' x:=by
 cases x with
 |box ty l=>exact om l h ht
 |arr=>trivial
 |dead=>trivial
 |tok ty sz n=>
  have:=Ai (.tok ty sz n) h;simp only[dX,af.tok.injEq] at this;show dl R' n<bq;rw[←this.2.2];exact ht
theorem ug{R R':Nat→PV}:∀(h:List af),(∀i∈j4 h,R i=R' i)→Az R h→Az R' h
 |[],_,_=>trivial
 |x::l,h,ht=>by
  rw[j4] at h;exact⟨Vu x (fun i hi=>h i (List.mem_append_left _ hi)) ht.1,ug l (fun i hi=>h i (List.mem_append_right _ hi)) ht.2⟩
theorem Uj.lift{l ws:List PV}{c:CE}(h:Uj P l c)(hn:∀i∈Di c,i<l.length):Uj P (l++ws) c:=by
 have e:∀i∈Di c,nm l i=nm (l++ws) i:=fun i hi=>(kW (hn i hi)).symm
 simp only[Di,List.mem_append] at e;obtain⟨h1,h2,h3⟩:=h;refine⟨?_,ug _ (fun i hi=>e i (.inl (.inl (.inr hi)))) h2,ug _ (fun i hi=>e i (.inr hi)) h3⟩;rw[←gY c.args (fun i hi=>e i (.inl (.inl (.inl hi)))),←aT c.v (fun i hi=>e i (.inl (.inr hi))),←jg c.h (fun i hi=>e i (.inl (.inl (.inr hi)))),←jg c.h' (fun i hi=>e i (.inr hi))];exact h1
theorem afy.lift{l ws:List PV}{b:BE}(h:afy P fn l b)(hn:∀i∈Dj b,i<l.length):afy P fn (l++ws) b:=by
 have e:∀i∈Dj b,nm l i=nm (l++ws) i:=fun i hi=>(kW (hn i hi)).symm
 simp only[Dj,List.mem_append] at e;obtain⟨h1,h2,h3⟩:=h;refine⟨?_,ug _ (fun i hi=>e i (.inl (.inl (.inr hi)))) h2,ug _ (fun i hi=>e i (.inr hi)) h3⟩;rw[←oQ b.e (fun i hi=>e i (.inl (.inl (.inl hi)))),←oQ b.e' (fun i hi=>e i (.inl (.inr hi))),←jg b.h (fun i hi=>e i (.inl (.inl (.inr hi)))),←jg b.h' (fun i hi=>e i (.inr hi))];exact h1
theorem Inv.lift{l ws:List PV}{tab:List SF}{cs:List CE}{bs:List BE}(h:Inv P fn l tab cs bs)(hw:kM (l++ws)):Inv P fn (l++ws) tab cs bs:=by
 have hlen:∀i,i<l.length→i<(l++ws).length:=fun i hi=>by simp;omega
 refine⟨hw,fun f hf=>?_,fun c hc=>?_,fun b hb=>?_⟩
 ·obtain⟨h1,h2⟩:=h.tab f hf
  exact⟨f.ok_congr (fun i hi=>(kW (h2 i hi)).symm) h1,fun i hi=>hlen i (h2 i hi)⟩
 ·obtain⟨h1,h2,h3⟩:=h.cs c hc
  exact⟨h1.lift h2,fun i hi=>hlen i (h2 i hi),h3⟩
 ·obtain⟨h1,h2⟩:=h.bs b hb
  exact⟨h1.lift h2,fun i hi=>hlen i (h2 i hi)⟩
theorem Inv.nil{l:List PV}(h:kM l):Inv P fn l [] [] []:=⟨h,fun _ h=>by simp at h,fun _ h=>by simp at h,fun _ h=>by simp at h⟩
theorem lZ{leaf:Out→List SF→List CE→List BE→Bool}:∀(t:Tr) (l:List PV) (tab:List SF) (cs:List CE) (bs:List BE) (o:Out),
  Nc P leaf t l.length tab cs bs=true→Inv P fn l tab cs bs→AB P fn t l o→
  ∃(o':Out) (ws:List PV) (tab':List SF) (cs':List CE) (bs':List BE),o=Ik (nm (l++ws)) o'∧abC (nm (l++ws)) o'∧leaf o' tab' cs' bs'=true∧Inv P fn (l++ws) tab' cs' bs'
 |.say f m k,l,tab,cs,bs,o,hc,hi,hd=>by
  rw[Nc,Bool.and_eq_true] at hc;rw[AB] at hd;obtain⟨vs,h1,h2,h3,h4⟩:=Eo hd hi.ns;have hl:l.length+m=(l++vs).length:=by simp[h1]
  rw[hl] at hc;have hi':=hi.lift h2;obtain⟨o',ws,tab',cs',bs',q1,q2,q3,q4⟩:=lZ k (l++vs) (f::tab) cs bs o hc.2 ⟨hi'.ns,fun g hg=>by
   rcases List.mem_cons.1 hg with rfl|hg
   ·exact⟨h3,fF hc.1⟩
   ·exact hi'.tab g hg,hi'.cs,hi'.bs⟩ h4
  exact⟨o',vs++ws,tab',cs',bs',by rw[←List.append_assoc];exact q1,by rw[←List.append_assoc];exact q2,q3,by rw[←List.append_assoc];exact q4⟩
 |.alt a b,l,tab,cs,bs,o,hc,hi,hd=>by
  rw[Nc,Bool.and_eq_true] at hc;rw[AB] at hd;rcases hd with hd|hd
  ·exact lZ a l tab cs bs o hc.1 hi hd
  ·exact lZ b l tab cs bs o hc.2 hi hd
 |.call c m k,l,tab,cs,bs,o,hc,hi,hd=>by
  rw[Nc,Bool.and_eq_true,Bool.and_eq_true] at hc;obtain⟨c1,c2,c4⟩:=hc;rw[AB] at hd;obtain⟨vs,h1,h2,h3,h4⟩:=Eo hd hi.ns;have hl:l.length+m=(l++vs).length:=by simp[h1]
  rw[hl] at c1 c4;have hi':=hi.lift h2;obtain⟨o',ws,tab',cs',bs',q1,q2,q3,q4⟩:=lZ k (l++vs) tab (c::cs) bs o c4 ⟨hi'.ns,hi'.tab,fun g hg=>by
   rcases List.mem_cons.1 hg with rfl|hg
   ·exact⟨h3,fF c1,c2⟩
   ·exact hi'.cs g hg,hi'.bs⟩ h4
  exact⟨o',vs++ws,tab',cs',bs',by rw[←List.append_assoc];exact q1,by rw[←List.append_assoc];exact q2,q3,by rw[←List.append_assoc];exact q4⟩
 |.blk b m k,l,tab,cs,bs,o,hc,hi,hd=>by
  rw[Nc,Bool.and_eq_true] at hc;rw[AB] at hd;obtain⟨vs,h1,h2,h3,h4⟩:=Eo hd hi.ns;have hl:l.length+m=(l++vs).length:=by simp[h1]
  rw[hl] at hc;have hi':=hi.lift h2;obtain⟨o',ws,tab',cs',bs',q1,q2,q3,q4⟩:=lZ k (l++vs) tab cs (b::bs) o hc.2 ⟨hi'.ns,hi'.tab,hi'.cs,fun g hg=>by
   rcases List.mem_cons.1 hg with rfl|hg
   ·exact⟨h3,fF hc.1⟩
   ·exact hi'.bs g hg⟩ h4
  exact⟨o',vs++ws,tab',cs',bs',by rw[←List.append_assoc];exact q1,by rw[←List.append_assoc];exact q2,q3,by rw[←List.append_assoc];exact q4⟩
 |.code ex e h,l,tab,cs,bs,o,hc,hi,hd=>by
  rw[Nc] at hc;rw[AB] at hd;exact⟨.code ex e h,[],tab,cs,bs,by simpa[Ik] using hd.1,by simpa[abC] using hd.2,hc,by simpa using hi⟩
 |.ret v h,l,tab,cs,bs,o,hc,hi,hd=>by
  rw[Nc] at hc;rw[AB] at hd;exact⟨.ret v h,[],tab,cs,bs,by simpa[Ik] using hd.1,by simpa[abC] using hd.2,hc,by simpa using hi⟩
def ac5(cs:List CE)(f:Nat):Bool:=cs.any fun c=>Nat.beq c.f f
theorem Inv.calls{l:List PV}{tab:List SF}{cs:List CE}{bs:List BE}(h:Inv P fn l tab cs bs):dJ (nm l) P (MF (uX cs)):=by
 refine aa2 (EC fun c hc=>?_);obtain⟨⟨g1,g2,g3⟩,h2,h3⟩:=h.cs _ hc;refine fH.names (fun R'=>?_) (by rw[←eG];exact jS h.ns.nm _ g2) (by rw[←eG];exact jS h.ns.nm _ g3);rw[←eG,←eG];exact g1 R'
theorem Inv.okf{l:List PV}{tab:List SF}{cs:List CE}{bs:List BE}(h:Inv P fn l tab cs bs):∀f,ac5 cs f=true→callable P f=true:=by
 intro f hf;unfold ac5 at hf;rw[List.any_eq_true] at hf;obtain⟨c,hc,he⟩:=hf;rw[←Nat.eq_of_beq_eq_true he];exact(h.cs c hc).2.2
theorem Inv.tabOk{l:List PV}{tab:List SF}{cs:List CE}{bs:List BE}(h:Inv P fn l tab cs bs):cK (nm l) P (.names::tab):=by
 intro f hf;rcases List.mem_cons.1 hf with rfl|hf
 ·trivial
 ·exact(h.tab f hf).1
theorem Inv.blks{l:List PV}{tab:List SF}{cs:List CE}{bs:List BE}(h:Inv P fn l tab cs bs){T:FT}{c:Code}(hs:∀id,subs id c⊆subs id (fT fn))(hT:T.lp=some (Dn bs)):EO (nm l) P fn.ntmps T c:=by
 refine Y2 hT fun b hb c' hc'=>?_
 obtain⟨⟨g1,g2,g3⟩,_⟩:=h.bs b hb;refine gH.names (fun R'=>?_) (by rw[←eG];exact jS h.ns.nm _ g2) (by rw[←eG];exact jS h.ns.nm _ g3);rw[←eG,←eG];exact g1 R' c' (hs _ hc')
def Zj(P:Program)(T:FT)(f:Nat)(args:List AV)(h:List af):Out→List SF→List CE→List BE→Bool
 |.ret v h',tab,cs,bs=>match acA P (MF (uX cs)) (ac5 cs) (.names::tab) 0 {T with lp:=some (Dn bs) } f args h with
  |some (v1,h1)=>uV v1 v&&Mj h1 h'
  |none=>false
 |_,_,_,_=>false
theorem aaD{T:FT}{f:Nat}{args:List AV}{h:List af}{t:Tr}{k0:Nat}(hf:P.funcs[f]? = some fn)(hb:fn.body.isSome=true)(hm:P.follows .mixedOrders=true)(ht:tabOk T.sd T.sx (fT fn)=true)
  (hn:jA k0 (jm args++j4 h)=true) (hc:Nc P (Zj P T f args h) t k0 [] [] []=true) {l:List PV} (hl:l.length=k0) (hns:kM l) (h1:mU (nm l) args) (h2:Az (nm l) h) {v:AV} {h':List af} (hd:AB P fn t l (.ret v h')) :
  Sem P f (aN (nm l) args) (cB (nm l) h) v h':=by
 subst hl;obtain⟨o',ws,tab,cs,bs,e,q2,q3,q4⟩:=lZ t l [] [] [] _ hc (Inv.nil hns) hd;cases o' with
 |code=>cases e
 |ret v0 h0=>
  cases e;rw[Zj] at q3;split at q3
  ·rename_i v1 h1' hr
   rw[Bool.and_eq_true] at q3;rw[rC _ _ q3.1,uT q3.2] at hr;have hbe:=afh hb;have hrun:fH (nm (l++ws)) P f args h v0 h0:=by
    refine Cs q4.calls q4.tabOk q4.okf hm (fun fn' c hf' hc=>?_) (fun fn' c hf' hc=>?_) hr
    ·rw[hf] at hf';cases hf';rw[hbe] at hc;cases hc;exact ht
    ·rw[hf] at hf';cases hf';rw[hbe] at hc;cases hc;exact q4.blks (fun _ _ h=>h) rfl
   have hnn:=fF hn;have e:∀i∈jm args++j4 h,nm (l++ws) i=nm l i:=fun i hi=>kW (hnn i hi)
   have e1:=gY args (fun i hi=>e i (List.mem_append_left _ hi));have e2:=jg h (fun i hi=>e i (List.mem_append_right _ hi));intro R;have:=hrun.values (by rw[e1];exact lW hns.nm _ h1) (uK q4.ns.nm _ q2.1) (by rw[←eG,e2];exact jS hns.nm _ h2) (by rw[←eG];exact jS q4.ns.nm _ q2.2) R;rw[←eG,←eG,e1,e2] at this;exact this
  ·cases q3
theorem mq:∀(c:Code) (id:Nat) (x:Code),x∈subs id c→∀id' y,y∈subs id' x→y∈subs id' c
 |.seq a b,id,x,hx,id',y,hy=>by
  rw[subs,List.mem_append] at hx ⊢;rcases hx with hx|hx
  ·exact .inl (mq a id x hx id' y hy)
  ·exact .inr (mq b id x hx id' y hy)
 |.cond _ a b,id,x,hx,id',y,hy=>by
  rw[subs,List.mem_append] at hx ⊢;rcases hx with hx|hx
  ·exact .inl (mq a id x hx id' y hy)
  ·exact .inr (mq b id x hx id' y hy)
 |.block j c,id,x,hx,id',y,hy=>by
  rw[subs,List.mem_append] at hx ⊢;rcases hx with hx|hx
  ·split at hx
   ·rw[List.mem_singleton.1 hx] at hy;exact .inr hy
   ·cases hx
  ·exact .inr (mq c id x hx id' y hy)
 |.loop c,id,x,hx,id',y,hy=>by rw[subs] at hx ⊢;exact mq c id x hx id' y hy
 |.scope c,id,x,hx,id',y,hy=>by rw[subs] at hx ⊢;exact mq c id x hx id' y hy
 |.skip,_,_,hx,_,_,_=>by simp[subs] at hx
 |.label _,_,_,hx,_,_,_=>by simp[subs] at hx
 |.region ..,_,_,hx,_,_,_=>by simp[subs] at hx
 |.exit _,_,_,hx,_,_,_=>by simp[subs] at hx
 |.ret,_,_,hx,_,_,_=>by simp[subs] at hx
 |.rangeFunc ..,_,_,hx,_,_,_=>by simp[subs] at hx
 |.goto _,_,_,hx,_,_,_=>by simp[subs] at hx
 |.refuse _,_,_,hx,_,_,_=>by simp[subs] at hx
def lb(fn:Func)(id:Nat):Code:=match subs id (fT fn) with
 |[.loop d]=>d
 |_=>.skip
def iW:List Code→Bool
 |[.loop _]=>true
 |_=>false
theorem ul{id:Nat}(h1:iW (subs id (fT fn))=true):∀d∈subs id (fT fn),d=.loop (lb fn id):=by
 intro d hd;unfold lb;unfold iW at h1;split at h1
 ·rename_i e he
  rw[he] at hd;simpa using hd
 ·cases h1
theorem aik{id:Nat}(h1:iW (subs id (fT fn))=true):∀id',subs id' (lb fn id)⊆subs id' (fT fn):=by
 intro id' y hy;unfold iW at h1;split at h1
 ·rename_i e he
  have hm:Code.loop e∈subs id (fT fn):=by rw[he];exact List.mem_singleton.2 rfl
  refine mq _ id _ hm id' y ?_;unfold lb at hy;rw[he] at hy;rw[subs];exact hy
 ·cases h1
def amx(m0:Nat)(ks:List Nat)(ex:bB)(sl:Env)(h:List af)(ids:List Nat):Option (bB×Env×List af×List Nat):=if nodupB ids&&(ids.take m0==List.range m0) then match u7 h ids with
 |some h'=>some (ex,tV (fun i=>posOf i ids) sl ks,h',ids)
 |none=>none
 else none
def amw(m0:Nat)(ks:List Nat)(r:Option (bB×Env×List af)):Option (bB×Env×List af×List Nat):=match r with
 |some (ex,sl,h)=>amx m0 ks ex sl h (reach h 1000 ((h.take m0).flatMap Cv++(rX ks sl).flatMap fun p=>refs p.2) (List.range m0))
 |none=>none
def eqX:bB→bB→Bool
 |.normal,.normal=>true
 |.ret,.ret=>true
 |.exit i,.exit j=>Nat.beq i j
 |.pan,.pan=>true
 |_,_=>false
theorem aiI{a b:bB}(h:eqX a b=true):a=b:=by
 unfold eqX at h;split at h
 ·rfl
 ·rfl
 ·rw[Nat.eq_of_beq_eq_true h]
 ·rfl
 ·cases h
def Zk(P:Program)(fn:Func)(T:FT)(c:Code)(m0:Nat)(e:Env)(h:List af):Out→List SF→List CE→List BE→Bool
 |.code ex e' h',tab,cs,bs=>match amw m0 (slotsOf e') (gW P (MF (uX cs)) (ac5 cs) (.names::tab) 0 fn.ntmps {T with lp:=some (Dn bs) } c e h) with
  |some (ex1,e1,h1,_)=>eqX ex1 ex&&aaQ e1 e'&&Mj h1 h'
  |none=>false
 |_,_,_,_=>false
def kN(P:Program)(fn:Func)(id m0:Nat)(e:Env)(h:List af)(ex:bB)(e':Env)(h':List af):Prop:=∀R,ng R P fn.ntmps (lb fn id) m0 e h ex e' h'
theorem Vm{T:FT}{id m0:Nat}{e:Env}{h:List af}{t:Tr}{k0:Nat}(hlo:iW (subs id (fT fn))=true)(hm:P.follows .mixedOrders=true)(ht:tabOk T.sd T.sx (lb fn id)=true)
  (hn:jA k0 (sV e++j4 h)=true) (hc:Nc P (Zk P fn T (lb fn id) m0 e h) t k0 [] [] []=true) {l:List PV} (hl:l.length=k0) (hns:kM l) (h1:TsE (nm l) e) (h2:Az (nm l) h) {ex:bB} {e':Env} {h':List af} (hd:AB P fn t l (.code ex e' h')) (R:Nat→PV) :
  si R P fn.ntmps (lb fn id) m0 (openE (nm l) e) (cB (nm l) h) ex e' h':=by
 subst hl;obtain⟨o',ws,tab,cs,bs,eo,q2,q3,q4⟩:=lZ t l [] [] [] _ hc (Inv.nil hns) hd;cases o' with
 |ret=>cases eo
 |code ex0 e0 h0=>
  cases eo;rw[Zk] at q3;split at q3
  ·rename_i ex1 e1 h1' ids hr
   rw[Bool.and_eq_true,Bool.and_eq_true] at q3;rw[aiI q3.1.1,Jv q3.1.2,uT q3.2] at hr;have hrun:si (nm (l++ws)) P fn.ntmps (lb fn id) m0 e h ex e0 h0:=by
    unfold amw at hr;split at hr
    ·rename_i ex2 sl2 h2' hac
     unfold amx at hr;split at hr
     ·rename_i hcond
      rw[Bool.and_eq_true] at hcond;split at hr
      ·rename_i h3 hsub
       simp only[Option.some.injEq,Prod.mk.injEq] at hr;obtain⟨r1,r2,r3,_⟩:=hr;subst r1;rw[←r2,←r3];exact gH.toB (dI (T:={T with lp:=some (Dn bs) }) q4.calls q4.tabOk q4.okf hm _ (q4.blks (aik hlo) rfl) ht _ _ _ _ _ hac) hcond.1 (by simpa using hcond.2) hsub
      ·cases hr
     ·cases hr
    ·cases hr
   have hnn:=fF hn;have en:∀i∈sV e++j4 h,nm (l++ws) i=nm l i:=fun i hi=>kW (hnn i hi)
   have e1':=oQ e (fun i hi=>en i (List.mem_append_left _ hi));have e2':=jg h (fun i hi=>en i (List.mem_append_right _ hi));have:=hrun.values (by rw[e1'];exact Da hns.nm _ h1) (Da q4.ns.nm _ q2.1) (by rw[←eG,e2'];exact jS hns.nm _ h2) (by rw[←eG];exact jS q4.ns.nm _ q2.2) R;rw[←eG,←eG,e1',e2'] at this;exact this
  ·cases q3
theorem kN.again{id m0:Nat}{e e1 e':Env}{h h1 h':List af}{ex:bB}(hb:∀R,si R P fn.ntmps (lb fn id) m0 e h .normal e1 h1)(hl:kN P fn id m0 e1 h1 ex e' h'):kN P fn id m0 e h ex e' h':=fun R=>ng.again (hb R) (hl R)
theorem kN.done{id m0:Nat}{e e':Env}{h h':List af}{ex:bB}(hb:∀R,si R P fn.ntmps (lb fn id) m0 e h ex e' h')(hx:ex≠.normal):kN P fn id m0 e h ex e' h':=fun R=>ng.done (hb R) hx
theorem kN.block{id:Nat}{e e':Env}{h h':List af}(hlo:iW (subs id (fT fn))=true)(hn:∀x∈h,yN x)(hl:kN P fn id h.length e h (.exit id) e' h'):Vv P fn id e h .normal e' h':=fun R c' hc'=>by
 rw[ul hlo c' hc'];exact(hl R).block hn
theorem kN.blockRet{id:Nat}{e e':Env}{h h':List af}(hlo:iW (subs id (fT fn))=true)(hn:∀x∈h,yN x)(hl:kN P fn id h.length e h .ret e' h'):Vv P fn id e h .ret e' h':=fun R c' hc'=>by
 rw[ul hlo c' hc'];exact(hl R).blockRet hn
theorem kN.blockPan{id:Nat}{e e':Env}{h h':List af}(hlo:iW (subs id (fT fn))=true)(hn:∀x∈h,yN x)(hl:kN P fn id h.length e h .pan e' h'):Vv P fn id e h .pan e' h':=fun R c' hc'=>by
 rw[ul hlo c' hc'];exact(hl R).blockPan hn
theorem kN.blockOut{id j:Nat}{e e':Env}{h h':List af}(hne:j≠id)(hlo:iW (subs id (fT fn))=true)(hn:∀x∈h,yN x)(hl:kN P fn id h.length e h (.exit j) e' h'):Vv P fn id e h (.exit j) e' h':=fun R c' hc'=>by
 rw[ul hlo c' hc'];exact(hl R).blockOut hne hn
end
end Go.Proofs.YtijcobeebaceoaaGreatDoor
