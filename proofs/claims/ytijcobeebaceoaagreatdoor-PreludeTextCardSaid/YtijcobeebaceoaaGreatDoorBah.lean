/- Joined texts. -/
import Derived.Test.YtijcobeebaceoaaGreatDoorBag
import Derived.Shelf.Strings.Trim
import Derived.Shelf.Small.Utf8
import Derived.Shelf.Small.Strs
import Derived.Shelf.Strings.Search1
import Derived.Shelf.Strings.Prefix
import Derived.Shelf.Unicode.DecodeSlow
import Derived.Test.YtijcobeebaceoaaGreatDoorProg
import Derived.Lib.IndexAny
import Derived.Lib.Hide
import Derived.WalkKit
import Derived.WalkSpells
import Derived.WalkLawsBesides
import Derived.Deep.LoopGhost
import Derived.Deep.QuietTactic
import Derived.BigQuiet
set_option linter.unusedVariables false
set_option linter.unusedSimpArgs false
set_option linter.unusedSectionVars false
namespace Go.Proofs.YtijcobeebaceoaaGreatDoor
open Go.RowKit
theorem zC{l ps:List PV}{sh:List Nat}(hg:Good (nm l) sh):∀{rin:List Nat},Em ps sh rin=true→Good (nm (aS (nm l) ps)) rin
 |[],_,i,hi=>by cases hi
 |j::r,h,i,hi=>by
  rw[Em,Bool.and_eq_true] at h;rcases List.mem_cons.1 hi with rfl|hi
  ·rw[oW]
   have h1:=h.1;unfold agj at h1;split at h1
   ·rename_i j hj;rw[hj,ak];exact hg j (lq h1)
   ·rename_i es hj
    rw[hj,ak];have:es.length<1000:=Nat.le_of_ble_eq_true h1;show (bO (nm l) es).length<bq;rw[eT,List.length_map];unfold bq;omega
   ·cases h1
  ·exact zC hg h.2 i hi
theorem Nw{l:List PV}{pats:List PV}:∀{rw_:List Nat},Good (nm (aS (nm l) pats)) rw_→Good (nm l) (shL pats rw_)
 |[],_,i,hi=>by cases hi
 |j::r,h,i,hi=>by
  have h1:Good (nm (aS (nm l) pats)) r:=fun k hk=>h k (List.mem_cons_of_mem _ hk)
  rw[shL] at hi;split at hi
  ·rename_i k hk
   rcases List.mem_cons.1 hi with rfl|hi
   ·have:=h j (List.mem_cons_self ..)
    rwa [oW,hk,ak] at this
   ·exact Nw h1 i hi
  ·exact Nw h1 i hi
theorem CZ(R:Nat→PV)(ps:List PV):(aS R ps).length=ps.length:=by rw[bY,List.length_map]
theorem UU(R:Nat→PV)(h:List af):(cB R h).length=h.length:=by rw[eG,List.length_map]
theorem NW{l vs:List PV}{ps:List PV}(h:jA l.length (jX ps)=true):aS (nm (l++vs)) ps=aS (nm l) ps:=
 jl ps fun i hi=>kW (fF h i hi)
section
variable{P:Program}{S:Nat→List Shape}{E:Nat→ow}{T:Nat→Et}
structure wT(P:Program)(S:Nat→List Shape)(E:Nat→ow):Prop where
 e:∀k,Mk (E k)=true
 s:∀f s,Gy (nth jk (S f) s)=true
 lp:∀k id m0 fn,(E k).lp=some (id,m0)→P.funcs[(E k).f]? = some fn→iW (subs id (fT fn))=true
def ac2(S:Nat→List Shape)(cur:ow)(r:Rs):Out:=match cur.lp with
 |none=>.ret (ah (nm r.2) (nth jk (S cur.fam) r.1).v) (cB (nm r.2) (nth jk (S cur.fam) r.1).h)
 |some _=>.code (nth jk (S cur.fam) r.1).ex (openE (nm r.2) (nth jk (S cur.fam) r.1).e) (cB (nm r.2) (nth jk (S cur.fam) r.1).h)
def Leaf(S:Nat→List Shape)(E:Nat→ow)(O:Q→Option Rs)(cur:ow)(o:Out)(r:Rs):Prop:=
 (Pst S cur.fam r∧o=ac2 S cur r)∨∃q,O q=some r∧Pre E q∧adz (E q.k).lp cur.lp=true∧(E q.k).f=cur.f∧(E q.k).fam=cur.fam∧o=.code .normal (openE (nm q.xs) (E q.k).e) (cB (nm q.xs) (E q.k).h)
theorem VJ{l ps:List PV}{sh:List Nat}{q:Nat}(h:wfQ E q ps l.length sh=true)(hn:kM l)(hg:Good (nm l) sh):Pre E ⟨q,aS (nm l) ps⟩∧jA l.length (jX ps)=true:=by
 unfold wfQ at h;simp only[Bool.and_eq_true] at h;exact⟨⟨by rw[CZ];exact Nat.eq_of_beq_eq_true h.1.1,ql hn.nm ps,zC hg h.2⟩,h.1.2⟩
theorem xE{O:Q→Option Rs}{cur:ow}{fn:Func}(ht:wT P S E)(hfn:P.funcs[cur.f]? = some fn)(hO:∀q r,O q=some r→Pre E q→vk P S E q r∧Pst S (E q.k).fam r) :
  ∀(t:Et) (l:List PV) (sh:List Nat) (r:Rs),run P O t l=.ok r→M9 S E cur t l.length sh=true→kM l→Good (nm l) sh→∃o,AB P fn (erase S E cur t l.length) l o∧Leaf S E O cur o r
 |.say f k,l,sh,r,hr,hw,hn,hg=>by
  rw[M9,Bool.and_eq_true] at hw;rw[run,Co] at hr;split at hr
  ·cases hr
  ·rename_i l' hl
   obtain⟨e1,e2,e3⟩:=UB hl hn hw.1 hg;rw[←e1.n] at hw;obtain⟨o,h1,h2⟩:=xE ht hfn hO k l' _ r hr hw.2 e1.ns e3;refine⟨o,?_,h2⟩;rw[erase,AB];obtain⟨vs,q1,q2,q3⟩:=e1.rest;subst q1;refine uR q2 q3 ⟨e2,?_⟩
   rwa [e1.n] at h1
 |.alt a b,l,sh,r,hr,hw,hn,hg=>by
  rw[M9,Bool.and_eq_true] at hw;rw[run] at hr;rw[erase];cases ha:run P O a l with
  |bot=>rw[ha] at hr;cases hr
  |fail=>
   rw[ha] at hr;obtain⟨o,h1,h2⟩:=xE ht hfn hO b l sh r hr hw.2 hn hg;exact⟨o,.inr h1,h2⟩
  |ok r'=>
   rw[ha] at hr;cases hr;obtain⟨o,h1,h2⟩:=xE ht hfn hO a l sh r ha hw.1 hn hg;exact⟨o,.inl h1,h2⟩
 |.call q ps s pats k,l,sh,r,hr,hw,hn,hg=>by
  rw[M9,Bool.and_eq_true,Bool.and_eq_true,Bool.and_eq_true] at hw;obtain⟨⟨⟨w1,w2⟩,w3⟩,w4⟩:=hw;rw[run] at hr;obtain⟨p1,p2⟩:=VJ w1 hn hg;cases ho:O ⟨q,aS (nm l) ps⟩ with
  |none=>rw[ho] at hr;cases hr
  |some r1=>
   obtain⟨s1,ys⟩:=r1;rw[ho] at hr;simp only[tX] at hr;cases hb:Nat.beq s1 s with
   |false=>rw[hb] at hr;cases hr
   |true=>
    have hs:=Nat.eq_of_beq_eq_true hb;subst hs;rw[hb] at hr;simp only at hr;rw[Bn] at hr;split at hr
    ·cases hr
    ·rename_i l' hl
     obtain⟨g1,g2⟩:=hO _ _ ho p1;have g2':Pst S (E q).fam (s1,ys):=g2;obtain⟨e1,e2⟩:=xO hl hn g2'.ns;have e2:=e2 [];rw[List.append_nil] at e2;obtain⟨vs,q1,q2,q3⟩:=e1.rest;have hgp:Good (nm (aS (nm l') pats)) (Cm S E q s1).rw:=by rw[e2];exact g2'.g
     have hg':Good (nm l') (shL pats (Cm S E q s1).rw++sh):=by
      intro i hi;rcases List.mem_append.1 hi with hi|hi
      ·exact Nw hgp i hi
      ·exact e1.good hg i hi
     rw[←e1.n] at w4;obtain⟨o,h1,h2⟩:=xE ht hfn hO k l' _ r hr w4 e1.ns hg';refine⟨o,?_,h2⟩;rw[e1.n] at h1;have hps:aS (nm l') ps=aS (nm l) ps:=by rw[q1];exact NW p2
     have hgi:Good (nm (aS (nm l') ps)) (E q).rin:=by rw[hps];exact p1.g
     have ce:=ht.e q;have cs:Gy (Cm S E q s1)=true:=ht.s (E q).fam s1;unfold Mk at ce;unfold Gy at cs;simp only[Bool.and_eq_true] at ce cs;obtain⟨⟨c1,c2⟩,c3⟩:=ce;obtain⟨⟨⟨d1,d2⟩,d3⟩,d4⟩:=cs;have a2:=Ci hgi _ c2;have a5:=Ci hgp _ d2;rw[hps] at a2;rw[e2] at a5;unfold vk at g1;simp only at g1;rw[erase];cases hlp:(E q).lp with
     |none=>
      rw[hlp] at g1;simp only at g1 ⊢;rw[AB];subst q1;refine uR q2 q3 ⟨⟨?_,a2.2,a5.2⟩,h1⟩;have a1:=(qc hgi _ c1).1;have a4:=(xq hgp _ d1).1;rw[hps] at a1;rw[e2] at a4;simp only;rw[a1,a2.1,a4,a5.1];exact g1
     |some idm=>
      obtain⟨id,m0⟩:=idm;rw[hlp] at g1 w3;simp only[Bool.and_eq_true] at g1 w3 ⊢;rw[AB];subst q1;refine uR q2 q3 ⟨⟨?_,a2.2,a5.2⟩,h1⟩;have hf:=Nat.eq_of_beq_eq_true w3.1;have hm:=Nat.eq_of_beq_eq_true w3.2;have hfn':P.funcs[(E q).f]? = some fn:=by rw[hf];exact hfn
      have g3:=g1 fn hfn';have hlo:=ht.lp q id m0 fn hlp hfn';have a1:=(xk hgi _ c3).1;have a4:=(xk hgp _ d3).1;rw[hps] at a1;rw[e2] at a4;have hno:∀x∈cB (nm (aS (nm l) ps)) (E q).h,yN x:=by
       rw[←a2.1];exact jS e1.ns.nm _ a2.2
      simp only;rw[a1,a2.1,a4,a5.1];rw[←hm,←UU (nm (aS (nm l) ps))] at g3;revert g3 d4;change (!(amC (Cm S E q s1).ex))=true→_;cases(Cm S E q s1).ex with
      |normal=>intro d4;cases d4
      |ret=>intro _ g3;exact kN.blockRet hlo hno g3
      |pan=>intro _ g3;exact kN.blockPan hlo hno g3
      |exit j=>
       intro _ g3;unfold bex;cases hj:Nat.beq j id with
       |true=>
        have:=Nat.eq_of_beq_eq_true hj;subst this;simp only[Nat.beq_refl];exact kN.block hlo hno g3
       |false=>simp only[hj];exact kN.blockOut (fun e=>by rw[e,Nat.beq_refl] at hj;cases hj) hlo hno g3
 |.out s ps,l,sh,r,hr,hw,hn,hg=>by
  rw[run] at hr;cases hr;rw[M9,Bool.and_eq_true,Bool.and_eq_true,Bool.and_eq_true] at hw;obtain⟨⟨⟨w0,w1⟩,w2⟩,w3⟩:=hw;have hgp:=zC hg w3;refine⟨ac2 S cur (s,aS (nm l) ps),?_,.inl ⟨⟨Nat.le_of_ble_eq_true w0,?_,ql hn.nm ps,hgp⟩,rfl⟩⟩
  ·have cs:=ht.s cur.fam s
   unfold Gy at cs;simp only[Bool.and_eq_true] at cs;obtain⟨⟨⟨d1,d2⟩,d3⟩,_⟩:=cs;have a1:=xq hgp _ d1;have a2:=Ci hgp _ d2;have a3:=xk hgp _ d3;rw[erase];unfold ac2;cases hlp:cur.lp with
   |none=>simp only;rw[AB];exact⟨by rw[a1.1,a2.1],a1.2,a2.2⟩
   |some _=>simp only;rw[AB];exact⟨by rw[a3.1,a2.1],a3.2,a2.2⟩
  ·rw[CZ];exact Nat.eq_of_beq_eq_true w1
 |.goto q ps,l,sh,r,hr,hw,hn,hg=>by
  rw[run] at hr;rw[M9,Bool.and_eq_true,Bool.and_eq_true,Bool.and_eq_true] at hw;obtain⟨⟨⟨w1,w2⟩,w3⟩,w4⟩:=hw;obtain⟨p1,p2⟩:=VJ w1 hn hg;cases ho:O ⟨q,aS (nm l) ps⟩ with
  |none=>rw[ho] at hr;cases hr
  |some r1=>
   rw[ho] at hr;cases hr;refine⟨_,?_,.inr ⟨_,ho,p1,w2,Nat.eq_of_beq_eq_true w3,Nat.eq_of_beq_eq_true w4,rfl⟩⟩;have ce:=ht.e q;unfold Mk at ce;simp only[Bool.and_eq_true] at ce;obtain⟨⟨c1,c2⟩,c3⟩:=ce;have a2:=Ci p1.g _ c2;have a3:=xk p1.g _ c3;rw[erase,AB];exact⟨by rw[a3.1,a2.1],a3.2,a2.2⟩
 |.no _,l,sh,r,hr,hw,hn,hg=>by rw[run] at hr;cases hr
 |.ext _,l,sh,r,hr,hw,hn,hg=>by rw[M9] at hw;cases hw
mutual
def qH:AV→Bool
 |.pv (.sym _)=>true
 |.tsym _ _=>true
 |.tup l=>KF l
 |.agg l=>KF l
 |_=>false
def KF:List AV→Bool
 |[]=>true
 |a::l=>qH a&&KF l
end
theorem xM:∀(l:List PV) (i:Nat),nm (nN l) i=ES (nm l i)
 |[],i=>by rw[nN];rfl
 |p::l,0=>by rw[nN];rfl
 |p::l,i+1=>by rw[nN];exact xM l i
theorem BV:∀(l:List PV),(nN l).length=l.length
 |[]=>rfl
 |p::l=>by rw[nN,List.length_cons,List.length_cons,BV l]
theorem agz{p:PV}(h:NS p):NS (ES p):=by
 unfold ES;split
 ·exact .rows _ fun c hc=>by cases hc
 ·exact h
theorem Pn{l:List PV}(h:kM l):kM (dL l):=fun p hp=>by
 rw[l6] at hp;obtain⟨p',hp',rfl⟩:=List.mem_map.1 hp;exact agB (h p' hp')
theorem Gj:∀{l:List PV},kM l→kM (nN l)
 |[],_=>by rw[nN];exact kM.nil
 |p::l,h=>by
  rw[nN];exact kM.cons (agz (h p (List.mem_cons_self ..))) (Gj fun q hq=>h q (List.mem_cons_of_mem _ hq))
section
variable{ys:List PV}{rw_:List Nat}(hg:Good (nm ys) rw_)
include hg
mutual
theorem AU:∀a,qH a=true→l5 rw_ a=true→ah (nm (nN ys)) (wk a)=wk (ah (nm ys) a)∧refs (wk (ah (nm ys) a))=[]
 |.pv p,h,_=>by
  cases p with
  |sym i=>rw[wk,show ES (.sym i)=.sym i from rfl,ah,ah,ak,ak,wk,xM];exact⟨rfl,rfl⟩
  |_=>simp[qH] at h
 |.tsym t i,_,hc=>by
  rw[l5] at hc;obtain⟨es,e1,_⟩:=lS (hg i (lq hc));rw[wk,ah,ah,e1,ak,xM,e1];simp only;rw[wk];exact⟨rfl,rfl⟩
 |.tup l,h,hc=>by
  have:=BU l (by rw[qH] at h;exact h) (by rw[l5] at hc;exact hc);rw[wk,ah,ah,wk,this.1];exact⟨rfl,by rw[refs];exact this.2⟩
 |.agg l,h,hc=>by
  have:=BU l (by rw[qH] at h;exact h) (by rw[l5] at hc;exact hc);rw[wk,ah,ah,wk,this.1];exact⟨rfl,by rw[refs];exact this.2⟩
 |.trows _ _,h,_=>by simp[qH] at h
 |.ptr _ _,h,_=>by simp[qH] at h
 |.cptr _,h,_=>by simp[qH] at h
 |.fn _ _,h,_=>by simp[qH] at h
 |.sl _ _ _ _,h,_=>by simp[qH] at h
 |.ifc _ _,h,_=>by simp[qH] at h
 |.arr _,h,_=>by simp[qH] at h
 |.aptr _ _ _,h,_=>by simp[qH] at h
theorem BU:∀a,KF a=true→oh rw_ a=true→aN (nm (nN ys)) (wV a)=wV (aN (nm ys) a)∧nT (wV (aN (nm ys) a))=[]
 |[],_,_=>by rw[wV,aN,aN,wV];exact⟨rfl,rfl⟩
 |a::l,h,hc=>by
  rw[KF,Bool.and_eq_true] at h;rw[oh,Bool.and_eq_true] at hc;have h1:=AU a h.1 hc.1;have h2:=BU l h.2 hc.2;rw[wV,aN,aN,wV,h1.1,h2.1];exact⟨rfl,by rw[nT,h1.2,h2.2];rfl⟩
end
end
structure ajf(S:Nat→List Shape)(E:Nat→ow)(k b:Nat):Prop where
 wm:(E k).wm=[]
 lp:(E k).lp=none
 lpb:(E b).lp=none
 f:(E k).f=(E b).f
 a:(E k).args=(E b).args
 h:(E k).h=[]
 hb:(E b).h=[]
 n:(E k).n=(E b).n
 r:(E k).rin=(E b).rin
 len:0<(S (E k).fam).length
 sh:∀s,s<(S (E b).fam).length→qH (nth jk (S (E b).fam) s).v=true∧wk (nth jk (S (E b).fam) s).v=(nth jk (S (E k).fam) 0).v∧(nth jk (S (E b).fam) s).m=(nth jk (S (E k).fam) 0).m
 sh0:(nth jk (S (E k).fam) 0).h=[]∧(nth jk (S (E k).fam) 0).rw=[]
structure amX(S:Nat→List Shape)(E:Nat→ow)(k b:Nat):Prop where
 wm:(E k).wm=[]
 lp:(E k).lp=none
 lpb:(E b).lp=none
 f:(E k).f=(E b).f
 a:(E k).args=(E b).args
 h:∃x,(E k).h=[x]
 hb:(E b).h=(E k).h
 n:(E k).n=(E b).n
 r:(E k).rin=(E b).rin
 len:0<(S (E k).fam).length
 sh:∃ty cs,(nth jk (S (E k).fam) 0).h=[.box ty cs]∧jc cs=true∧∀s,s<(S (E b).fam).length→qH (nth jk (S (E b).fam) s).v=true∧wk (nth jk (S (E b).fam) s).v=(nth jk (S (E k).fam) 0).v∧(nth jk (S (E b).fam) s).m=(nth jk (S (E k).fam) 0).m∧∃r,(nth jk (S (E b).fam) s).h=.box ty cs::r
 ps:EU (nth jk (S (E k).fam) 0).v=true
 rw0:(nth jk (S (E k).fam) 0).rw=[]
structure amW(S:Nat→List Shape)(E:Nat→ow)(k b:Nat):Prop where
 wm:∃x l,(E k).wm=x::l
 lp:(E k).lp=none
 lpb:(E b).lp=none
 f:(E k).f=(E b).f
 a:(E k).args=(E b).args
 h:∃x,(E k).h=[x]
 hb:(E b).h=(E k).h
 n:(E k).n=(E b).n
 r:(E k).rin=(E b).rin
 len:0<(S (E k).fam).length
 sh:∃ty cs,(nth jk (S (E k).fam) 0).h=[.box ty cs]∧jc cs=true∧∀s,s<(S (E b).fam).length→nth 0 (E k).wm s=0→qH (nth jk (S (E b).fam) s).v=true∧wk (nth jk (S (E b).fam) s).v=(nth jk (S (E k).fam) 0).v∧(nth jk (S (E b).fam) s).m=(nth jk (S (E k).fam) 0).m∧∃r,(nth jk (S (E b).fam) s).h=.box ty cs::r
 ps:EU (nth jk (S (E k).fam) 0).v=true
 rw0:(nth jk (S (E k).fam) 0).rw=[]
 sj:∀s,s<(S (E b).fam).length→∀j,nth 0 (E k).wm s=j+1→j+1<(S (E k).fam).length∧nth jk (S (E b).fam) s=nth jk (S (E k).fam) (j+1)
def aJ(P:Program)(S:Nat→List Shape)(E:Nat→ow)(T:Nat→Et)(k:Nat):Prop:=match(E k).base with
 |some b=>ajf S E k b∨amX S E k b∨amW S E k b
 |none=>(∃g,T k=.ext g∧∀l r,Pre E ⟨k,l⟩→g l=some r→vk P S E ⟨k,l⟩ r∧Pst S (E k).fam r)∨∃fn,P.funcs[(E k).f]? = some fn∧M9 S E (E k) (T k) (E k).n (E k).rin=true∧match(E k).lp with
  |none=>∀l v h',l.length=(E k).n→kM l→mU (nm l) (E k).args→Az (nm l) (E k).h→AB P fn (erase S E (E k) (T k) (E k).n) l (.ret v h')→Sem P (E k).f (aN (nm l) (E k).args) (cB (nm l) (E k).h) v h'
  |some (id,m0)=>∀l ex e' h',l.length=(E k).n→kM l→TsE (nm l) (E k).e→Az (nm l) (E k).h→AB P fn (erase S E (E k) (T k) (E k).n) l (.code ex e' h')→∀R,si R P fn.ntmps (lb fn id) m0 (openE (nm l) (E k).e) (cB (nm l) (E k).h) ex e' h'
theorem Gp{l:List PV}{rin:List Nat}(hg:Good (nm l) rin) :
  (∀a,l5 rin a=true→jN (nm l) a)∧(∀a,oh rin a=true→mU (nm l) a):=by
 constructor
 ·intro a
  exact AV.rec (motive_1:=fun a=>l5 rin a=true→jN (nm l) a) (motive_2:=fun a=>oh rin a=true→mU (nm l) a)
   (fun _ _=>by rw[jN];trivial) (fun _ _ _=>by rw[jN];trivial) (fun t i h=>by rw[l5] at h;obtain⟨es,e,_⟩:=lS (hg i (lq h));rw[jN,e];trivial)
   (fun _ _ _=>by rw[jN];trivial) (fun _ _=>by rw[jN];trivial) (fun _ ih h=>by rw[jN];exact ih (by rw[l5] at h;exact h)) (fun _ ih h=>by rw[jN];exact ih (by rw[l5] at h;exact h))
   (fun _ _ ih h=>by rw[jN];exact ih (by rw[l5] at h;exact h)) (fun _ _ _ _ _=>by rw[jN];trivial) (fun _ _ ih h=>by rw[jN];exact ih (by rw[l5] at h;exact h)) (fun _ _=>by rw[jN];trivial) (fun _ _ _ _=>by rw[jN];trivial)
   (fun _=>by rw[mU];trivial) (fun _ _ i1 i2 h=>by rw[oh,Bool.and_eq_true] at h;rw[mU];exact⟨i1 h.1,i2 h.2⟩) a
 ·intro a
  exact AV.rec_1 (motive_1:=fun a=>l5 rin a=true→jN (nm l) a) (motive_2:=fun a=>oh rin a=true→mU (nm l) a)
   (fun _ _=>by rw[jN];trivial) (fun _ _ _=>by rw[jN];trivial) (fun t i h=>by rw[l5] at h;obtain⟨es,e,_⟩:=lS (hg i (lq h));rw[jN,e];trivial)
   (fun _ _ _=>by rw[jN];trivial) (fun _ _=>by rw[jN];trivial) (fun _ ih h=>by rw[jN];exact ih (by rw[l5] at h;exact h)) (fun _ ih h=>by rw[jN];exact ih (by rw[l5] at h;exact h))
   (fun _ _ ih h=>by rw[jN];exact ih (by rw[l5] at h;exact h)) (fun _ _ _ _ _=>by rw[jN];trivial) (fun _ _ ih h=>by rw[jN];exact ih (by rw[l5] at h;exact h)) (fun _ _=>by rw[jN];trivial) (fun _ _ _ _=>by rw[jN];trivial)
   (fun _=>by rw[mU];trivial) (fun _ _ i1 i2 h=>by rw[oh,Bool.and_eq_true] at h;rw[mU];exact⟨i1 h.1,i2 h.2⟩) a
theorem VS{l:List PV}{rin:List Nat}(hg:Good (nm l) rin)(x:af)(h:aaY rin x=true):TsO (nm l) x:=by
 cases x with
 |box t r=>exact(Gp hg).2 r h
 |arr=>trivial
 |dead=>trivial
 |tok t s n=>
  show dl (nm l) n<bq;rw[aaY] at h;cases hb:Nat.blt n bq with
  |true=>rw[gT (Nat.le_of_ble_eq_true hb)];exact Nat.le_of_ble_eq_true hb
  |false=>
   rw[hb] at h;have hn:¬n<bq:=fun hlt=>by rw[Nat.blt,Nat.ble_eq_true_of_le hlt] at hb;cases hb
   obtain⟨es,e,h2⟩:=lS (hg _ (lq h));unfold dl;rw[if_neg hn,e];exact h2
theorem xf{l:List PV}{rin:List Nat}(hg:Good (nm l) rin):∀h,OV rin h=true→Az (nm l) h
 |[],_=>trivial
 |x::r,h=>by
  rw[OV,Bool.and_eq_true] at h;exact⟨VS hg x h.1,xf hg r h.2⟩
theorem Ce{l:List PV}{rin:List Nat}(hg:Good (nm l) rin):∀e,OW rin e=true→TsE (nm l) e
 |[],_=>trivial
 |(d,a)::r,h=>by
  rw[OW,Bool.and_eq_true] at h;exact⟨(Gp hg).1 a h.1,Ce hg r h.2⟩
theorem ady{a b:Option (Nat×Nat)}(h:adz a b=true):a=b:=by
 unfold adz at h;split at h
 ·rw[Bool.and_eq_true] at h
  rw[Nat.eq_of_beq_eq_true h.1,Nat.eq_of_beq_eq_true h.2]
 ·cases h
theorem EvR.sound{N:Nat}(ht:wT P S E)(hr:∀k,k<N→aJ P S E T k)(hN:∀k,N≤k→(E k).base=none∧T k=Vb){q:Q}{r:Rs}(h:EvR P E T q r):Pre E q→vk P S E q r∧Pst S (E q.k).fam r:=by
 induction h with
 |mk q r O hO h ih=>
  intro hp;unfold body at h;have hk:q.k<N:=by
   by_cases hk:q.k<N
   ·exact hk
   ·exfalso
    obtain⟨n1,n2⟩:=hN q.k (by omega);rw[n1,n2] at h;simp only[Vb,run] at h;cases h
  have hrk:=hr q.k hk;unfold aJ at hrk;cases hb:(E q.k).base with
  |some b=>
   rw[hb] at h hrk;simp only at h hrk;cases ho:O ⟨b,q.xs⟩ with
   |none=>
    rw[ho] at h;split at h
    ·split at h<;>cases h
    ·cases h
   |some r1=>
    obtain⟨s,ys⟩:=r1;rw[ho] at h;rcases hrk with hrk|hrk|hrk
    ·rw[hrk.wm,hrk.h] at h
     cases h;obtain⟨g1,g2⟩:=ih _ _ ho ⟨by rw[hp.n,hrk.n],hp.ns,by show Good _ (E b).rin;rw[←hrk.r];exact hp.g⟩;unfold vk at g1 ⊢;simp only at g1 g2;rw[hrk.lpb] at g1;rw[hrk.lp];simp only at g1 ⊢;obtain⟨c1,c2,c3⟩:=hrk.sh s g2.s;have cs:=ht.s (E b).fam s;unfold Gy at cs;simp only[Bool.and_eq_true] at cs;have k1:=AU g2.g _ c1 cs.1.1.1;refine⟨?_,hrk.len,?_,Gj g2.ns,?_⟩
     ·show Sem P (E q.k).f _ _ (ah _ (nth jk (S (E q.k).fam) 0).v) (cB _ (nth jk (S (E q.k).fam) 0).h)
      rw[hrk.sh0.1,←c2,k1.1,hrk.f,hrk.a,hrk.h];rw[hrk.hb] at g1;exact fun R=>(g1 R).forget k1.2
     ·show (nN ys).length=_
      rw[BV,←c3];exact g2.n
     ·show Good _ (nth jk (S (E q.k).fam) 0).rw
      rw[hrk.sh0.2];exact fun i hi=>by cases hi
    ·obtain⟨x,hx⟩:=hrk.h
     rw[hrk.wm,hx] at h;cases h;obtain⟨g1,g2⟩:=ih _ _ ho ⟨by rw[hp.n,hrk.n],hp.ns,by show Good _ (E b).rin;rw[←hrk.r];exact hp.g⟩;unfold vk at g1 ⊢;simp only at g1 g2;rw[hrk.lpb] at g1;rw[hrk.lp];simp only at g1 ⊢;obtain⟨ty,cs,d1,d2,d3⟩:=hrk.sh;obtain⟨c1,c2,c3,r,c4⟩:=d3 s g2.s;have cs':=ht.s (E b).fam s;unfold Gy at cs';simp only[Bool.and_eq_true] at cs';have k1:=AU g2.g _ c1 cs'.1.1.1;refine⟨?_,hrk.len,?_,Pn g2.ns,?_⟩
     ·show Sem P (E q.k).f _ _ (ah _ (nth jk (S (E q.k).fam) 0).v) (cB _ (nth jk (S (E q.k).fam) 0).h)
      have g1':Sem P (E b).f (aN (nm q.xs) (E b).args) (cB (nm q.xs) (E b).h) (ah (nm ys) (nth jk (S (E b).fam) s).v) (cB (nm ys) (nth jk (S (E b).fam) s).h):=g1;rw[c4,hrk.hb,hx] at g1';rw[d1,hrk.f,hrk.a,hx];obtain⟨e1,e2⟩:=Cg d2;intro R;have g2':=(g1' R).box1 k1.2 (e2 _);rw[←k1.1,c2] at g2';exact g2'.conv hrk.ps e1 (fun i v hv=>by rw[xM] at hv;rw[xN,←Gl];exact hv.wd) (fun i v hv=>by rw[xN];exact hv.wd)
     ·show (dL ys).length=_
      rw[Kk,←c3];exact g2.n
     ·show Good _ (nth jk (S (E q.k).fam) 0).rw
      rw[hrk.rw0];exact fun i hi=>by cases hi
    ·obtain⟨x,hx⟩:=hrk.h
     obtain⟨y0,y1,hy⟩:=hrk.wm;rw[hy] at h;simp only[weakM] at h;obtain⟨g1,g2⟩:=ih _ _ ho ⟨by rw[hp.n,hrk.n],hp.ns,by show Good _ (E b).rin;rw[←hrk.r];exact hp.g⟩;rw[←hy] at h;split at h
     ·rename_i h0
      cases h;unfold vk at g1 ⊢;simp only at g1 g2;rw[hrk.lpb] at g1;rw[hrk.lp];simp only at g1 ⊢;obtain⟨ty,cs,d1,d2,d3⟩:=hrk.sh;obtain⟨c1,c2,c3,r,c4⟩:=d3 s g2.s h0;have cs':=ht.s (E b).fam s;unfold Gy at cs';simp only[Bool.and_eq_true] at cs';have k1:=AU g2.g _ c1 cs'.1.1.1;refine⟨?_,hrk.len,?_,Pn g2.ns,?_⟩
      ·show Sem P (E q.k).f _ _ (ah _ (nth jk (S (E q.k).fam) 0).v) (cB _ (nth jk (S (E q.k).fam) 0).h)
       have g1':Sem P (E b).f (aN (nm q.xs) (E b).args) (cB (nm q.xs) (E b).h) (ah (nm ys) (nth jk (S (E b).fam) s).v) (cB (nm ys) (nth jk (S (E b).fam) s).h):=g1;rw[c4,hrk.hb,hx] at g1';rw[d1,hrk.f,hrk.a,hx];obtain⟨e1,e2⟩:=Cg d2;intro R;have g2':=(g1' R).box1 k1.2 (e2 _);rw[←k1.1,c2] at g2';exact g2'.conv hrk.ps e1 (fun i v hv=>by rw[xM] at hv;rw[xN,←Gl];exact hv.wd) (fun i v hv=>by rw[xN];exact hv.wd)
      ·show (dL ys).length=_
       rw[Kk,←c3];exact g2.n
      ·show Good _ (nth jk (S (E q.k).fam) 0).rw
       rw[hrk.rw0];exact fun i hi=>by cases hi
     ·rename_i j h0
      cases h;have e0:=hrk.sj s g2.s j h0;unfold vk at g1 ⊢;simp only at g1 g2;rw[hrk.lpb] at g1;rw[hrk.lp];simp only at g1 ⊢;refine⟨?_,e0.1,?_,g2.ns,?_⟩
      ·have g1':Sem P (E b).f (aN (nm q.xs) (E b).args) (cB (nm q.xs) (E b).h) (ah (nm ys) (nth jk (S (E b).fam) s).v) (cB (nm ys) (nth jk (S (E b).fam) s).h):=g1
       rw[e0.2,←hrk.f,←hrk.a,hrk.hb] at g1';exact g1'
      ·show ys.length=_
       rw[←e0.2];exact g2.n
      ·show Good _ (nth jk (S (E q.k).fam) (j+1)).rw
       rw[←e0.2];exact g2.g
  |none=>
   rw[hb] at h hrk;simp only at h hrk;rcases hrk with⟨g,hT,hx⟩|⟨fn,hfn,hw,hk⟩
   ·rw[hT] at h
    simp only[run,aaG] at h;split at h
    ·cases h
    ·rename_i r' hg
     cases h;exact hx q.xs _ hp hg
   rw[←hp.n] at hw hk;obtain⟨o,h1,h2⟩:=xE ht hfn (fun q r ho hp=>ih q r ho hp) (T q.k) q.xs _ r h hw hp.ns hp.g;have ce:=ht.e q.k;unfold Mk at ce;simp only[Bool.and_eq_true] at ce;unfold vk;rcases h2 with⟨p1,p2⟩|⟨q',p1,p2,p3,p4,p5,p6⟩
   ·refine⟨?_,p1⟩
    unfold ac2 at p2;cases hlp:(E q.k).lp with
    |none=>
     rw[hlp] at hk p2;simp only at hk p2 ⊢;rw[p2] at h1;exact hk _ _ _ rfl hp.ns ((Gp hp.g).2 _ ce.1.1) (xf hp.g _ ce.1.2) h1
    |some idm=>
     obtain⟨id,m0⟩:=idm;rw[hlp] at hk p2;simp only at hk p2 ⊢;rw[p2] at h1;intro fn' hfn';rw[hfn] at hfn';cases hfn';have hx:(nth jk (S (E q.k).fam) r.1).ex≠.normal:=by
      have cs:=ht.s (E q.k).fam r.1;unfold Gy at cs;simp only[Bool.and_eq_true] at cs;intro e;rw[e] at cs;exact absurd cs.2 (by decide)
     exact kN.done (hk _ _ _ _ rfl hp.ns (Ce hp.g _ ce.2) (xf hp.g _ ce.1.2) h1) hx
   ·have hq:=ih q' r p1 p2
    have hlq:=ady p3;refine⟨?_,by rw[←p5];exact hq.2⟩;have g1:=hq.1;unfold vk at g1;cases hlp:(E q.k).lp with
    |none=>rw[hlp] at p3;rw[hlq,hlp] at p3;cases p3
    |some idm=>
     obtain⟨id,m0⟩:=idm;rw[hlq,hlp] at g1;rw[hlp] at hk;simp only at g1 hk ⊢;intro fn' hfn';rw[hfn] at hfn';cases hfn';have g2:=g1 fn (by rw[p4];exact hfn);rw[p6] at h1;have g3:=hk _ _ _ _ rfl hp.ns (Ce hp.g _ ce.2) (xf hp.g _ ce.1.2) h1;have e:Cm S E q'.k r.1=Cm S E q.k r.1:=by unfold Cm;rw[p5]
     rw[e] at g2;exact kN.again g3 g2
theorem ay.sound{N:Nat}(ht:wT P S E)(hr:∀k,k<N→aJ P S E T k)(hN:∀k,N≤k→(E k).base=none∧T k=Vb){q:Q}{r:Rs}(h:ay P E T q=some r)(hp:Pre E q):vk P S E q r∧Pst S (E q.k).fam r:=EvR.sound ht hr hN (ay.iff.1 h) hp
theorem aJ.fn{k:Nat}{ent:ow}{et:Et}{fn:Func}{t:Tr}(he:E k=ent)(hT:T k=et)(hb:ent.base=none)(hl:ent.lp=none)(hf:P.funcs[ent.f]? = some fn)(hw:M9 S E ent et ent.n ent.rin=true)(hr:erase S E ent et ent.n=t)
  (hd:∀l v h',l.length=ent.n→kM l→mU (nm l) ent.args→Az (nm l) ent.h→AB P fn t l (.ret v h')→Sem P ent.f (aN (nm l) ent.args) (cB (nm l) ent.h) v h'):aJ P S E T k:=by
 unfold aJ;rw[he,hT,hb,hl];subst hr;exact .inr ⟨fn,hf,hw,hd⟩
theorem aJ.ext{k:Nat}{g:List PV→Option Rs}(hb:(E k).base=none)(hT:T k=.ext g)(h:∀l r,Pre E ⟨k,l⟩→g l=some r→vk P S E ⟨k,l⟩ r∧Pst S (E k).fam r):aJ P S E T k:=by
 unfold aJ;rw[hb];exact .inl ⟨g,hT,h⟩
theorem aJ.loop{k id m0:Nat}{ent:ow}{et:Et}{fn:Func}{t:Tr}(he:E k=ent)(hT:T k=et)(hb:ent.base=none)(hl:ent.lp=some (id,m0))(hf:P.funcs[ent.f]? = some fn)(hw:M9 S E ent et ent.n ent.rin=true)(hr:erase S E ent et ent.n=t)
  (hd:∀l ex e' h',l.length=ent.n→kM l→TsE (nm l) ent.e→Az (nm l) ent.h→AB P fn t l (.code ex e' h')→∀R,si R P fn.ntmps (lb fn id) m0 (openE (nm l) ent.e) (cB (nm l) ent.h) ex e' h'):aJ P S E T k:=by
 unfold aJ;rw[he,hT,hb,hl];subst hr;exact .inr ⟨fn,hf,hw,hd⟩
def aa1(b w:List Shape):Bool:=match w with
 |[w0]=>w0.h.isEmpty&&w0.rw.isEmpty&&b.all fun s=>qH s.v&&uV (wk s.v) w0.v&&Nat.beq s.m w0.m
 |_=>false
def ai0(b w:List Shape):Bool:=match w with
 |[w0]=>match w0.h with
  |[.box ty cs]=>w0.rw.isEmpty&&jc cs&&EU w0.v&&b.all fun s=>qH s.v&&uV (wk s.v) w0.v&&Nat.beq s.m w0.m&&(match s.h with
   |.box ty' cs'::_=>Nat.beq ty' ty&&zF cs' cs
   |_=>false)
  |_=>false
 |_=>false
def aiK(a b:Shape):Bool:=match a.ex,b.ex,a.e,b.e,a.h,b.h,a.rw,b.rw with
 |.ret,.ret,[],[],[.box t1 c1],[.box t2 c2],[],[]=>uV a.v b.v&&Nat.beq t1 t2&&zF c1 c2&&Nat.beq a.m b.m
 |_,_,_,_,_,_,_,_=>false
theorem ae0{a b:Shape}(h:aiK a b=true):a=b:=by
 obtain⟨x1,v1,e1,h1,m1,r1⟩:=a;obtain⟨x2,v2,e2,h2,m2,r2⟩:=b;unfold aiK at h;split at h
 ·rename_i q1 q2 q3 q4 q5 q6 q7 q8
  simp only at q1 q2 q3 q4 q5 q6 q7 q8;simp only[Bool.and_eq_true] at h;obtain⟨⟨⟨g1,g2⟩,g3⟩,g4⟩:=h;rw[q1,q2,q3,q4,q5,q6,q7,q8,rC _ _ g1,Nat.eq_of_beq_eq_true g2,nI _ _ g3,Nat.eq_of_beq_eq_true g4]
 ·cases h
def afd(s:Shape)(ws:List Shape)(ty:TypeId)(cs:List AV)(w0:Shape):Nat→Bool
 |0=>qH s.v&&uV (wk s.v) w0.v&&Nat.beq s.m w0.m&&(match s.h with
   |.box ty' cs'::_=>Nat.beq ty' ty&&zF cs' cs
   |_=>false)
 |j+1=>decide (j+1<ws.length)&&aiK s (nth jk ws (j+1))
def DW(f:Shape→Nat→Bool):List Shape→List Nat→Bool
 |[],_=>true
 |s::l,m=>f s (nth 0 m 0)&&DW f l m.tail
theorem DV(f:Shape→Nat→Bool):∀(l:List Shape) (m:List Nat),DW f l m=true→∀s,s<l.length→f (nth jk l s) (nth 0 m s)=true
 |[],_,_,s,hs=>by simp at hs
 |a::l,m,h,0,_=>by
  rw[DW,Bool.and_eq_true] at h;exact h.1
 |a::l,m,h,s+1,hs=>by
  rw[DW,Bool.and_eq_true] at h;have:=DV f l m.tail h.2 s (by simpa using hs);cases m with
  |nil=>exact this
  |cons x m=>exact this
def aiZ(b w:List Shape)(m:List Nat):Bool:=match w with
 |w0::wl=>match w0.h with
  |[.box ty cs]=>w0.rw.isEmpty&&jc cs&&EU w0.v&&DW (fun s j=>afd s (w0::wl) ty cs w0 j) b m
  |_=>false
 |[]=>false
theorem qV{α:Type}(d:α):∀(l:List α) (i:Nat),i<l.length→nth d l i∈l
 |[],_,h=>by simp at h
 |a::l,0,_=>by simp[nth]
 |a::l,i+1,h=>by rw[nth];exact List.mem_cons_of_mem _ (qV d l i (by simpa using h))
theorem oU{α:Type}(d:α):∀(l:List α) (i:Nat),l.length≤i→nth d l i=d
 |[],_,_=>by cases ‹Nat›<;>rfl
 |a::l,0,h=>by simp at h
 |a::l,i+1,h=>by rw[nth];exact oU d l i (by simpa using h)
theorem aJ.weak{k b:Nat}{ek eb:ow}(he:E k=ek)(hb:E b=eb)(h0:ek.base=some b)(h1:ek.lp=none)(h2:eb.lp=none)(h3:ek.f=eb.f)(h4:ek.args=eb.args)(h5:ek.h=[])(h6:eb.h=[])(h7:ek.n=eb.n)(h8:ek.rin=eb.rin)
  (hc:aa1 (S eb.fam) (S ek.fam)=true) (hw0:ek.wm=[]:=by rfl):aJ P S E T k:=by
 unfold aJ;rw[he,h0];simp only;left;unfold aa1 at hc;split at hc
 ·rename_i w0 hw
  simp only[Bool.and_eq_true,List.all_eq_true] at hc;obtain⟨⟨c1,c2⟩,c3⟩:=hc;have e0:nth jk (S (E k).fam) 0=w0:=by rw[he,hw];rfl
  refine⟨by rw[he,hw0],by rw[he,h1],by rw[hb,h2],by rw[he,hb,h3],by rw[he,hb,h4],by rw[he,h5],by rw[hb,h6],by rw[he,hb,h7],by rw[he,hb,h8],by rw[he,hw];simp,fun s hs=>?_,?_⟩
  ·rw[e0]
   rw[hb] at hs ⊢;obtain⟨⟨d1,d2⟩,d3⟩:=c3 _ (qV jk _ s hs);exact⟨d1,rC _ _ d2,Nat.eq_of_beq_eq_true d3⟩
  ·rw[e0]
   exact⟨List.isEmpty_iff.1 c1,List.isEmpty_iff.1 c2⟩
 ·cases hc
theorem aJ.weakD{k b:Nat}{ek eb:ow}(he:E k=ek)(hb:E b=eb)(h0:ek.base=some b)(h1:ek.lp=none)(h2:eb.lp=none)(h3:ek.f=eb.f)(h4:ek.args=eb.args)(h5:∃x,ek.h=[x])(h6:eb.h=ek.h)(h7:ek.n=eb.n)(h8:ek.rin=eb.rin)
  (hc:ai0 (S eb.fam) (S ek.fam)=true) (hw0:ek.wm=[]:=by rfl):aJ P S E T k:=by
 unfold aJ;rw[he,h0];simp only;right;left;unfold ai0 at hc;split at hc
 ·rename_i w0 hw
  split at hc
  ·rename_i ty cs hh
   simp only[Bool.and_eq_true,List.all_eq_true] at hc;obtain⟨⟨⟨c1,c2⟩,c4⟩,c3⟩:=hc;have e0:nth jk (S (E k).fam) 0=w0:=by rw[he,hw];rfl
   refine⟨by rw[he,hw0],by rw[he,h1],by rw[hb,h2],by rw[he,hb,h3],by rw[he,hb,h4],by rw[he];exact h5,by rw[he,hb,h6],by rw[he,hb,h7],by rw[he,hb,h8],by rw[he,hw];simp,⟨ty,cs,by rw[e0];exact hh,c2,fun s hs=>?_⟩,by rw[e0];exact c4,by rw[e0];exact List.isEmpty_iff.1 c1⟩;rw[e0];rw[hb] at hs ⊢;obtain⟨⟨⟨d1,d2⟩,d3⟩,d4⟩:=c3 _ (qV jk _ s hs);refine⟨d1,rC _ _ d2,Nat.eq_of_beq_eq_true d3,?_⟩;split at d4
   ·rename_i ty' cs' r e
    rw[Bool.and_eq_true] at d4;rw[e,Nat.eq_of_beq_eq_true d4.1,nI _ _ d4.2];exact⟨r,rfl⟩
   ·cases d4
  ·cases hc
 ·cases hc
theorem aJ.weakM{k b:Nat}{ek eb:ow}(he:E k=ek)(hb:E b=eb)(h0:ek.base=some b)(h1:ek.lp=none)(h2:eb.lp=none)(h3:ek.f=eb.f)(h4:ek.args=eb.args)(h5:∃x,ek.h=[x])(h6:eb.h=ek.h)(h7:ek.n=eb.n)(h8:ek.rin=eb.rin)
  (hc:aiZ (S eb.fam) (S ek.fam) ek.wm=true) (hw0:∃x l,ek.wm=x::l):aJ P S E T k:=by
 unfold aJ;rw[he,h0];simp only;right;right;unfold aiZ at hc;split at hc
 ·rename_i w0 wl hw
  split at hc
  ·rename_i ty cs hh
   simp only[Bool.and_eq_true,List.all_eq_true] at hc;obtain⟨⟨⟨c1,c2⟩,c4⟩,c3⟩:=hc;have e0:nth jk (S (E k).fam) 0=w0:=by rw[he,hw];rfl
   have g0:∀s,s<(S (E b).fam).length→afd (nth jk (S (E b).fam) s) (S (E k).fam) ty cs w0 (nth 0 (E k).wm s)=true:=by
    intro s hs;rw[he,hw,hb] at *;exact DV _ _ _ c3 s hs
   refine⟨by rw[he];exact hw0,by rw[he,h1],by rw[hb,h2],by rw[he,hb,h3],by rw[he,hb,h4],by rw[he];exact h5,by rw[he,hb,h6],by rw[he,hb,h7],by rw[he,hb,h8],by rw[he,hw];simp,⟨ty,cs,by rw[e0];exact hh,c2,fun s hs hz=>?_⟩,by rw[e0];exact c4,by rw[e0];exact List.isEmpty_iff.1 c1,fun s hs j hz=>?_⟩
   ·have c:=g0 s hs
    rw[hz] at c;unfold afd at c;simp only[Bool.and_eq_true] at c;obtain⟨⟨⟨d1,d2⟩,d3⟩,d4⟩:=c;rw[e0];refine⟨d1,rC _ _ d2,Nat.eq_of_beq_eq_true d3,?_⟩;split at d4
    ·rename_i ty' cs' r e
     rw[Bool.and_eq_true] at d4;rw[e,Nat.eq_of_beq_eq_true d4.1,nI _ _ d4.2];exact⟨r,rfl⟩
    ·cases d4
   ·have c:=g0 s hs
    rw[hz] at c;unfold afd at c;simp only[Bool.and_eq_true] at c;exact⟨of_decide_eq_true c.1,ae0 c.2⟩
  ·cases hc
 ·cases hc
def lpB(P:Program)(e:ow):Bool:=match e.lp with
 |none=>true
 |some (id,_)=>match P.funcs[e.f]? with
  |none=>true
  |some fn=>iW (subs id (fT fn))
theorem wT.of{es:List ow}{ss:List (List Shape)}(h1:es.all Mk=true)(h2:ss.all (fun l=>l.all Gy)=true)(h3:es.all (lpB P)=true):wT P (nth [] ss) (nth dEn es):=by
 rw[List.all_eq_true] at h1 h2 h3;refine⟨fun k=>?_,fun f s=>?_,fun k id m0 fn hl hf=>?_⟩
 ·by_cases hk:k<es.length
  ·exact h1 _ (qV dEn es k hk)
  ·rw[oU dEn es k (by omega)];rfl
 ·by_cases hk:f<ss.length
  ·have:=h2 _ (qV [] ss f hk)
   rw[List.all_eq_true] at this;by_cases hs:s<(nth [] ss f).length
   ·exact this _ (qV jk _ s hs)
   ·rw[oU jk _ s (by omega)];rfl
  ·rw[oU [] ss f (by omega),oU jk [] s (by simp)];rfl
 ·by_cases hk:k<es.length
  ·have:=h3 _ (qV dEn es k hk)
   unfold lpB at this;rw[hl] at this;simp only at this;rw[hf] at this;exact this
  ·rw[oU dEn es k (by omega)] at hl;cases hl
def bZ(p:Nat→Prop):Nat→Prop
 |0=>True
 |n+1=>bZ p n∧p n
theorem bZ.get{p:Nat→Prop}:∀{n:Nat},bZ p n→∀k,k<n→p k
 |0,_,k,hk=>by omega
 |n+1,h,k,hk=>by
  by_cases e:k=n
  ·rw[e];exact h.2
  ·exact h.1.get k (by omega)
end
section
variable{β:Type}
def bK(b:Bool)(x y:β):β:=match b with
 |true=>x
 |false=>y
theorem afk(x y:β):bK true x y=x:=rfl
theorem abn(x y:β):bK false x y=y:=rfl
theorem afl(b:Bool)(x:β):bK b x x=x:=by cases b<;>rfl
theorem ai9(b:Bool)(x y:β):bK (!b) x y=bK b y x:=by cases b<;>rfl
theorem fo(d:β)(p:PV)(k:β):isK d p p k=k:=by unfold isK;rw[if_pos rfl]
theorem alx(d:β)(b:Bool)(k:β):isK d (.lit (.bool true)) (.lit (.bool b)) k=bK b k d:=by
 unfold isK;cases b<;>simp[bK]
theorem aly(d:β)(b:Bool)(k:β):isK d (.lit (.bool false)) (.lit (.bool b)) k=bK b d k:=by
 unfold isK;cases b<;>simp[bK]
theorem adA(d:β)(a b:Int)(k:β):isK d (.lit (.int .i64 a)) (.lit (.int .i64 b)) k=if a=b then k else d:=by
 unfold isK;by_cases h:a=b<;>simp[h]
theorem qo(d:β)(es:List (List PV))(k:β):isK d (.lit (.slice none 0 0)) (.rows es) k=d:=by unfold isK;simp
theorem YV(d:β)(k:β):YW d [] k=k:=rfl
theorem U0(d:β)(y:PV)(r:List PV)(k:β):YW d (y::r) k=d:=rfl
theorem OX(d:β)(y:PV)(r:List PV)(k:PV→List PV→β):Gc d (y::r) k=k y r:=rfl
theorem Vj(d:β)(k:PV→List PV→β):Gc d [] k=d:=rfl
theorem ahU(d:β)(y:PV)(k:PV→β):UM d (.pv y) k=k y:=rfl
theorem afc(d:β)(c:List PV)(k:List PV→β):Mw d (.cptr c) k=k c:=rfl
theorem acX(d:β)(y z:PV)(k:PV→PV→β):CQ d (.tup [.pv y,.pv z]) k=k y z:=rfl
theorem kS{α:Type}{d:β}{p:α→Prop}{k:α→β}{w0:α}(h:∀w,p w↔w=w0):qE d p k=k w0:=by
 unfold qE;have he:∃w,p w:=⟨w0,(h w0).2 rfl⟩;rw[dif_pos he,(h _).1 he.choose_spec]
theorem lD{α:Type}{p n:α→Prop}{w0:α}(h:∀w,p w↔w=w0)(hn:n w0):∀w,(p w∧n w)↔w=w0:=fun w=>by
 constructor
 ·exact fun h1=>(h w).1 h1.1
 ·intro e;subst e;exact⟨(h w).2 rfl,hn⟩
variable{P:Program}{d:β}{k:AV→β}
theorem dH{b:BinOp}{t:TypeId}{u v w0:AV}(h:∀w,dR P b t u v w↔w=w0)(hn:rR w0):jM P d b t u v k=k w0:=kS (lD h hn)
theorem eY{t:TypeId}{u w0:AV}(h:∀w,mM P t u w↔w=w0)(hn:rR w0):gG P d t u k=k w0:=kS (lD h hn)
theorem iy{t:TypeId}{u i w0:AV}(h:∀w,nk P t u i w↔w=w0)(hn:rR w0):fG P d t u i k=k w0:=kS (lD h hn)
theorem PI{t:TypeId}{u:AV}{lo hi:Option AV}{w0:AV}(h:∀w,AA P t u lo hi w↔w=w0)(hn:rR w0):Fe P d t u lo hi k=k w0:=kS (lD h hn)
theorem BR{t:TypeId}{s x:AV}{w0:PV}{k:PV→β}(h:∀w,M8 P t s x w↔w=w0)(hn:NS w0):iO P d t s x k=k w0:=kS (lD h hn)
theorem abv{t:TypeId}{s x:AV}{k:β}(h:J6 P t s x):jG P d t s x k=k:=by unfold jG;rw[if_pos h]
theorem bD(v:Value):rR (.pv (.lit v)):=.pv _ (.lit v)
theorem PE{t:TypeId}{u:AV}{lo hi:Option AV}{w0:AV}(h:AA P t u lo hi w0)(w:AV):AA P t u lo hi w↔w=w0:=by
 constructor
 ·intro hw
  -- operands that stand for the bounds
  let ρ:Operand→Option AV:=fun
   |.tmp 0=>lo
   |.tmp 1=>hi
   |_=>none
  have hl:rT ρ (lo.map fun _=>Operand.tmp 0) lo:=by cases lo<;>simp[rT,ρ]
  have hh:rT ρ (hi.map fun _=>Operand.tmp 1) hi:=by cases hi<;>simp[rT,ρ]
  have h1:=hw ρ _ _ hl hh;have h2:=h ρ _ _ hl hh;rw[h1] at h2;exact Option.some.inj h2
 ·rintro rfl;exact h
variable{t:TypeId}{a b:Int}
theorem abe:jM P d .lss t (.pv (.lit (.int .i64 a))) (.pv (.lit (.int .i64 b))) k=k (.pv (.lit (.bool (decide (a<b))))):=dH (fun _=>TP) (bD _)
theorem abf:jM P d .leq t (.pv (.lit (.int .i64 a))) (.pv (.lit (.int .i64 b))) k=k (.pv (.lit (.bool (decide (a≤b))))):=dH (fun _=>TQ) (bD _)
theorem abg:jM P d .gtr t (.pv (.lit (.int .i64 a))) (.pv (.lit (.int .i64 b))) k=k (.pv (.lit (.bool (decide (b<a))))):=dH (fun _=>TS) (bD _)
theorem abh:jM P d .geq t (.pv (.lit (.int .i64 a))) (.pv (.lit (.int .i64 b))) k=k (.pv (.lit (.bool (decide (b≤a))))):=dH (fun _=>TU) (bD _)
theorem abk:jM P d .eql t (.pv (.lit (.int .i64 a))) (.pv (.lit (.int .i64 b))) k=k (.pv (.lit (.bool (decide (a=b))))):=dH (fun _=>TY) (bD _)
theorem abd:jM P d .neq t (.pv (.lit (.int .i64 a))) (.pv (.lit (.int .i64 b))) k=k (.pv (.lit (.bool (!decide (a=b))))):=dH (fun _=>by rw[TN];simp) (bD _)
theorem abl:jM P d .add t (.pv (.lit (.int .i64 a))) (.pv (.lit (.int .i64 b))) k=k (.pv (.lit (.int .i64 (IntKind.i64.wrap (a+b))))):=dH (fun _=>T9) (bD _)
theorem aa9:jM P d .sub t (.pv (.lit (.int .i64 a))) (.pv (.lit (.int .i64 b))) k=k (.pv (.lit (.int .i64 (IntKind.i64.wrap (a-b))))):=dH (fun _=>TL) (bD _)
theorem abj{x y:ByteArray}:jM P d .eql t (.pv (.lit (.string x))) (.pv (.lit (.string y))) k=k (.pv (.lit (.bool (decide (x=y))))):=dH (fun _=>TV) (bD _)
theorem abb{x y:ByteArray}:jM P d .neq t (.pv (.lit (.string x))) (.pv (.lit (.string y))) k=k (.pv (.lit (.bool (!decide (x=y))))):=dH (fun _=>by rw[TM];simp) (bD _)
end
theorem aby(a:aM):aM.alt .fail a=a:=rfl
theorem zR(a:aM):aM.alt a .fail=a:=by cases a<;>rfl
theorem ajc(r:Rs)(a:aM):aM.alt (.ok r) a=.ok r:=rfl
theorem ajd(b:Bool)(x y:aM):aM.alt (bK b x .fail) (bK b .fail y)=bK b x y:=by
 cases b
 ·rfl
 ·exact zR x
theorem afs(b:Bool)(x y:aM):aM.alt (bK b .fail x) (bK b y .fail)=bK b y x:=by
 cases b
 ·exact zR x
 ·rfl
theorem OZ(s' s:Nat)(ys:List PV)(k:List PV→aM):tX (some (s',ys)) s k=if s'=s then k ys else .fail:=by
 unfold tX;by_cases h:s'=s
 ·subst h;rw[if_pos rfl];simp
 ·rw[if_neg h]
  simp only;cases hb:Nat.beq s' s with
  |true=>exact absurd (Nat.eq_of_beq_eq_true hb) h
  |false=>rfl
theorem NQ(r:Rs):iA (some r)=.ok r:=rfl
theorem Vt(o:Option Rs)(x:aM):aM.alt (iA o) x=iA o:=by cases o<;>rfl
theorem BX(s:Nat)(ys:List PV):mV (some (s,ys))=.ok (0,nN ys):=rfl
theorem gX(s:Nat)(ys:List PV):weakD (some (s,ys))=.ok (0,dL ys):=rfl
@[simp] theorem jb(m:List Nat)(s:Nat)(ys:List PV):weakM m (some (s,ys))=(match nth 0 m s with|0=>.ok (0,dL ys)|j+1=>.ok (j+1,ys)):=rfl
theorem VG:nN []=[]:=rfl
theorem Ul(p:PV)(l:List PV):nN (p::l)=ES p::nN l:=rfl
theorem abT(i:IntKind)(n:Int):ES (.lit (.int i n))=.lit (.int i n):=rfl
theorem VI(b:Bool):ES (.lit (.bool b))=.lit (.bool b):=rfl
theorem abR(b:ByteArray):ES (.lit (.string b))=.lit (.string b):=rfl
theorem VH(es:List (List PV)):ES (.rows es)=.rows es:=rfl
theorem abS:ES (.lit (.slice none 0 0))=.rows []:=rfl
attribute [simp] afk abn afl ai9 fo alx aly adA qo YV U0 OX Vj ahU afc acX abe abf abg abh abk abd abl aa9 abj abb aby zR ajc ajd afs Vt OZ NQ BX VG Ul abT VI abR VH abS
end Go.Proofs.YtijcobeebaceoaaGreatDoor
namespace Go.Proofs
open Go.Shelf
def Tryz.lays161_ren:Go.Shelf.Ren:=⟨fun|161=>139|231=>150|227=>151|233=>152|235=>153|228=>161|197=>162|151=>163|260=>167|152=>168|137=>141|119=>169|224=>170|225=>171|217=>155|266=>164|n=>n,fun|9=>9|4=>4|3=>3|5=>5|117=>193|116=>192|0=>0|124=>196|105=>201|21=>21|119=>207|46=>208|139=>211|138=>210|n=>n,fun|3=>1|4=>2|n=>n⟩
theorem Tryz.lays161:Go.Proofs.Lays.n161 Tryz.prog Tryz.lays161_ren:={
 mixed:=by kernel_rfl
 f119:=Tryz.func169.trans (congrArg some (by kernel_rfl))
 f137:=Tryz.func141.trans (congrArg some (by kernel_rfl))
 f151:=Tryz.func163.trans (congrArg some (by kernel_rfl))
 f152:=Tryz.func168.trans (congrArg some (by kernel_rfl))
 f161:=Tryz.func139.trans (congrArg some (by kernel_rfl))
 f197:=Tryz.func162.trans (congrArg some (by kernel_rfl))
 f217:=Tryz.func155.trans (congrArg some (by kernel_rfl))
 f224:=Tryz.func170.trans (congrArg some (by kernel_rfl))
 f225:=Tryz.func171.trans (congrArg some (by kernel_rfl))
 f227:=Tryz.func151.trans (congrArg some (by kernel_rfl))
 f228:=Tryz.func161.trans (congrArg some (by kernel_rfl))
 f231:=Tryz.func150.trans (congrArg some (by kernel_rfl))
 f233:=Tryz.func152.trans (congrArg some (by kernel_rfl))
 f235:=Tryz.func153.trans (congrArg some (by kernel_rfl))
 f260:=Tryz.func167.trans (congrArg some (by kernel_rfl))
 f266:=Tryz.func164.trans (congrArg some (by kernel_rfl))
 t0:=Tryz.underlying0
 a0:=Tryz.isAgg0
 z0:=Tryz.sizeOf0
 v0:=Tryz.zeroValue0
 t3:=Tryz.underlying3
 a3:=Tryz.isAgg3
 z3:=Tryz.sizeOf3
 v3:=Tryz.zeroValue3
 t4:=Tryz.underlying4
 a4:=Tryz.isAgg4
 z4:=Tryz.sizeOf4
 v4:=Tryz.zeroValue4
 t5:=Tryz.underlying5
 a5:=Tryz.isAgg5
 z5:=Tryz.sizeOf5
 v5:=Tryz.zeroValue5
 t9:=Tryz.underlying9
 a9:=Tryz.isAgg9
 z9:=Tryz.sizeOf9
 v9:=Tryz.zeroValue9
 t21:=Tryz.underlying21
 a21:=Tryz.isAgg21
 z21:=Tryz.sizeOf21
 v21:=Tryz.zeroValue21
 t46:=Tryz.underlying208
 a46:=Tryz.isAgg208
 z46:=Tryz.sizeOf208
 v46:=Tryz.zeroValue208
 t105:=Tryz.underlying201
 a105:=Tryz.isAgg201
 z105:=Tryz.sizeOf201
 v105:=Tryz.zeroValue201
 t116:=Tryz.underlying192
 a116:=Tryz.isAgg192
 z116:=Tryz.sizeOf192
 t117:=Tryz.underlying193
 a117:=Tryz.isAgg193
 z117:=Tryz.sizeOf193
 v117:=Tryz.zeroValue193
 t119:=Tryz.underlying207
 a119:=Tryz.isAgg207
 z119:=Tryz.sizeOf207
 t124:=Tryz.underlying196
 a124:=Tryz.isAgg196
 z124:=Tryz.sizeOf196
 v124:=Tryz.zeroValue196
 t138:=Tryz.underlying210
 a138:=Tryz.isAgg210
 z138:=Tryz.sizeOf210
 v138:=Tryz.zeroValue210
 t139:=Tryz.underlying211
 a139:=Tryz.isAgg211
 z139:=Tryz.sizeOf211
 v139:=Tryz.zeroValue211
 g3:=by kernel_rfl
 g4:=by kernel_rfl }
open Go.RowKit in
theorem Tryz.strings_TrimLeft_one(s:ByteArray)(c:UInt8)(hc:c.toNat<128)(w:World) :
  Calls Tryz.prog 139 #[.string s,.string ⟨#[c]⟩] w fun e w'=>e=.returned (.string ⟨(Lib.trimLeftB s.data.toList c).toArray⟩)∧w'=w:=Any.strings_TrimLeft_one Tryz.lays161 s c hc w
def Tryz.lays137_ren:Go.Shelf.Ren:=⟨fun|137=>141|217=>155|266=>164|n=>n,fun|9=>9|5=>5|3=>3|n=>n,fun|n=>n⟩
theorem Tryz.lays137:Go.Proofs.Lays.n137 Tryz.prog Tryz.lays137_ren:={
 mixed:=by kernel_rfl
 f137:=Tryz.func141.trans (congrArg some (by kernel_rfl))
 f217:=Tryz.func155.trans (congrArg some (by kernel_rfl))
 f266:=Tryz.func164.trans (congrArg some (by kernel_rfl))
 t3:=Tryz.underlying3
 a3:=Tryz.isAgg3
 z3:=Tryz.sizeOf3
 v3:=Tryz.zeroValue3
 t5:=Tryz.underlying5
 a5:=Tryz.isAgg5
 z5:=Tryz.sizeOf5
 v5:=Tryz.zeroValue5
 t9:=Tryz.underlying9
 a9:=Tryz.isAgg9
 z9:=Tryz.sizeOf9
 v9:=Tryz.zeroValue9 }
open Go.RowKit in
theorem Tryz.strings_IndexByte(s:ByteArray)(c:Int)(w:World) :
  Calls Tryz.prog 141 #[.string s,.int .u8 c] w fun e w'=>e=.returned (.int .i64 (Lib.indexByte s.data.toList c.toNat.toUInt8))∧w'=w:=Any.strings_IndexByte Tryz.lays137 s c w
def Tryz.lays206_ren:Go.Shelf.Ren:=⟨fun|206=>136|n=>n,fun|9=>9|4=>4|3=>3|n=>n,fun|n=>n⟩
def Tryz.lays99_ren:Go.Shelf.Ren:=⟨fun|99=>100|206=>136|n=>n,fun|9=>9|4=>4|3=>3|n=>n,fun|n=>n⟩
theorem Tryz.lays99:Go.Proofs.Lays.n99 Tryz.prog Tryz.lays99_ren:={
 mixed:=by kernel_rfl
 f99:=Tryz.func100.trans (congrArg some (by kernel_rfl))
 f206:=Tryz.func136.trans (congrArg some (by kernel_rfl))
 t3:=Tryz.underlying3
 a3:=Tryz.isAgg3
 z3:=Tryz.sizeOf3
 v3:=Tryz.zeroValue3
 t4:=Tryz.underlying4
 a4:=Tryz.isAgg4
 z4:=Tryz.sizeOf4
 v4:=Tryz.zeroValue4
 t9:=Tryz.underlying9
 a9:=Tryz.isAgg9
 z9:=Tryz.sizeOf9
 v9:=Tryz.zeroValue9 }
open Go.RowKit Go.Lib in
theorem Tryz.strings_HasPrefix(s p:ByteArray)(w:World) :
  Calls Tryz.prog 100 #[.string s,.string p] w fun e w'=>e=.returned (.bool (Lib.hasPrefix s.data.toList p.data.toList))∧w'=w:=Any.strings_HasPrefix Tryz.lays99 s p w
end Go.Proofs
namespace Go.Proofs.YtijcobeebaceoaaGreatDoor.Lx
set_option maxRecDepth 20000
open Go.RowKit
def lowB(c:UInt8):Bool:=decide (97≤c.toNat∧c.toNat≤122∨c.toNat=95)
def upB(c:UInt8):Bool:=decide (65≤c.toNat∧c.toNat≤90)
def digitB(c:UInt8):Bool:=decide (48≤c.toNat∧c.toNat≤57)
def blankB(c:UInt8):Bool:=decide (c.toNat=32∨c.toNat=9∨c.toNat=10∨c.toNat=13)
def insideB(c:UInt8):Bool:=lowB c||upB c||digitB c||decide (c.toNat=39)
def lineB(c:UInt8):Bool:=decide (c.toNat≠10)
def Py:List UInt8:=[33,36,37,38,42,43,46,47,60,61,62,63,64,94,124,126,58,45]
def symB(c:UInt8):Bool:=Py.contains c
theorem jf{a b:Bool}(h:a=b):Ending.returned (.bool a)=.returned (.bool b):=by rw[h]
set_option maxHeartbeats 400000 in
theorem qD(c:UInt8)(w:World) :
  Calls Tryz.prog 105 #[.int .u8 (c.toNat:Int)] w fun e w'=>e=.returned (.bool (upB c))∧w=w':=by
 go_enter Tryz.func105,Tryz.ntmps105
 go_wp2
 all_goals go_ret
 all_goals exact⟨jf (by rw[Bool.eq_iff_iff];simp[upB];try omega),rfl⟩
set_option maxHeartbeats 400000 in
theorem nG(c:UInt8)(w:World) :
  Calls Tryz.prog 104 #[.int .u8 (c.toNat:Int)] w fun e w'=>e=.returned (.bool (lowB c))∧w=w':=by
 go_enter Tryz.func104,Tryz.ntmps104
 go_wp2
 all_goals go_ret
 all_goals exact⟨jf (by rw[Bool.eq_iff_iff];simp[lowB];try omega),rfl⟩
set_option maxHeartbeats 400000 in
theorem kH(c:UInt8)(w:World) :
  Calls Tryz.prog 107 #[.int .u8 (c.toNat:Int)] w fun e w'=>e=.returned (.bool (digitB c))∧w=w':=by
 go_enter Tryz.func107,Tryz.ntmps107
 go_wp2
 all_goals go_ret
 all_goals exact⟨jf (by rw[Bool.eq_iff_iff];simp[digitB];try omega),rfl⟩
set_option maxHeartbeats 400000 in
theorem Vn(c:UInt8)(w:World) :
  Calls Tryz.prog 102 #[.int .u8 (c.toNat:Int)] w fun e w'=>e=.returned (.bool (blankB c))∧w=w':=by
 go_enter Tryz.func102,Tryz.ntmps102
 go_wp2
 all_goals go_ret
 all_goals exact⟨jf (by rw[Bool.eq_iff_iff];simp[blankB];try omega),rfl⟩
set_option maxHeartbeats 400000 in
theorem Y6(v:Value)(c:UInt8)(w:World) :
  Calls Tryz.prog 103 #[v,.int .u8 (c.toNat:Int)] w fun e w'=>e=.returned (.bool (lineB c))∧w=w':=by
 go_enter Tryz.func103,Tryz.ntmps103
 go_wp2
 all_goals go_ret
 all_goals exact⟨jf (by rw[Bool.eq_iff_iff];simp[lineB];try omega),rfl⟩
set_option maxHeartbeats 400000 in
theorem Ow(c:UInt8)(w:World) :
  Calls Tryz.prog 137 #[.int .u8 (c.toNat:Int)] w fun e w'=>e=.returned (.bool (insideB c))∧w=w':=by
 cases hl:lowB c
 ·cases hu:upB c
  ·cases hd:digitB c
   all_goals
    go_enter Tryz.func137,Tryz.ntmps137
    go_wp2_with (first|(go_at_call 104;refine(nG _ _).mono ?_;rintro e w' ⟨rfl,rfl⟩)|(go_at_call 105;refine(qD _ _).mono ?_;rintro e w' ⟨rfl,rfl⟩)|(go_at_call 107;refine(kH _ _).mono ?_;rintro e w' ⟨rfl,rfl⟩))
    all_goals go_ret
    all_goals exact⟨jf (by rw[Bool.eq_iff_iff];simp[insideB,hl,hu,hd];try omega),rfl⟩
  ·go_enter Tryz.func137,Tryz.ntmps137
   go_wp2_with (first|(go_at_call 104;refine(nG _ _).mono ?_;rintro e w' ⟨rfl,rfl⟩)|(go_at_call 105;refine(qD _ _).mono ?_;rintro e w' ⟨rfl,rfl⟩)|(go_at_call 107;refine(kH _ _).mono ?_;rintro e w' ⟨rfl,rfl⟩))
   all_goals go_ret
   all_goals exact⟨jf (by simp[insideB,hl,hu]),rfl⟩
 ·go_enter Tryz.func137,Tryz.ntmps137
  go_wp2_with (first|(go_at_call 104;refine(nG _ _).mono ?_;rintro e w' ⟨rfl,rfl⟩)|(go_at_call 105;refine(qD _ _).mono ?_;rintro e w' ⟨rfl,rfl⟩)|(go_at_call 107;refine(kH _ _).mono ?_;rintro e w' ⟨rfl,rfl⟩))
  all_goals go_ret
  all_goals exact⟨jf (by simp[insideB,hl]),rfl⟩
set_option maxHeartbeats 400000 in
theorem vO(c:UInt8)(w:World) :
  Calls Tryz.prog 110 #[.int .u8 (c.toNat:Int)] w fun e w'=>e=.returned (.bool (symB c))∧w=w':=by
 go_enter Tryz.func110,Tryz.ntmps110
 go_wp2_with (go_at_call 141;refine(Tryz.strings_IndexByte _ _ _).mono ?_;rintro e w' ⟨rfl,rfl⟩)
 go_ret
 exact⟨jf (Lib.contains_iff_indexByte Py c).symm,rfl⟩
def M0(p:UInt8→Bool)(s:ByteArray):Bool:=s.data.toList.all p
theorem Uo(s:ByteArray)(k:Nat)(h:k<s.size):s.data.toList.take (k+1)=s.data.toList.take k++[s[k]]:=by
 rw[List.take_succ_eq_append_getElem (by simpa using h)];rfl
theorem VY(s:ByteArray)(k:Nat)(h:¬k<s.size):s.data.toList.take k=s.data.toList:=
 List.take_of_length_le (by have:s.data.toList.length=s.size:=rfl;omega)
theorem aif(s:ByteArray)(k:Nat)(h:k<s.size):s[k]∈s.data.toList:=by
 have:s[k]=s.data.toList[k]'(by simpa using h):=rfl;rw[this];exact List.getElem_mem _
end Go.Proofs.YtijcobeebaceoaaGreatDoor.Lx
namespace Go.Proofs.YtijcobeebaceoaaGreatDoor.Lx
set_option maxRecDepth 20000
open Go.RowKit
def keyList:List (List UInt8):=[[100,97,116,97],[99,108,97,115,115],[105,110,115,116,97,110,99,101],[102,114,111,109],[119,104,101,114,101],[101,110,100],[100,101,114,105,118,105,110,103],[100,101,102],[108,101,116],[114,101,99],[97,110,100],[105,110],[99,97,115,101],[111,102],[105,102],[116,104,101,110],[101,108,115,101]]
def markList:List (List UInt8):=[[40],[41],[44],[59],[92],[95],[61],[45,62],[124],[58]]
def keyB(s:ByteArray):Bool:=keyList.contains s.toList
def markB(s:ByteArray):Bool:=markList.contains s.toList
set_option maxHeartbeats 1000000 in
theorem Dl(s:ByteArray)(w:World) :
  Calls Tryz.prog 111 #[.string s] w fun e w'=>e=.returned (.bool (markB s))∧w=w':=by
 go_enter Tryz.func111,Tryz.ntmps111
 go_wp2
 all_goals go_ret
 all_goals exact⟨jf (by simp_all[markB,markList]),rfl⟩
set_option maxHeartbeats 1000000 in
theorem adu(s:ByteArray)(w:World) :
  Calls Tryz.prog 138 #[.string s] w fun e w'=>e=.returned (.bool (keyB s))∧w=w':=by
 go_enter Tryz.func138,Tryz.ntmps138
 go_wp2
 all_goals go_ret
 all_goals exact⟨jf (by simp_all[keyB,keyList]),rfl⟩
def EQ(f:Nat)(p:UInt8→Bool):Prop:=
 (∀(args:Array Value) (w:World),Sem.run Tryz.prog (callFunc f args) w=.ok (.enter f args) w)∧
 ∀(c:UInt8) (w:World),Calls Tryz.prog f #[.int .u8 (c.toNat:Int)] w fun e w'=>e=.returned (.bool (p c))∧w=w'
theorem U9:EQ 137 insideB:=⟨fun _ _=>by kernel_rfl,Ow⟩
theorem Ur:EQ 110 symB:=⟨fun _ _=>by kernel_rfl,vO⟩
theorem aaW:EQ 107 digitB:=⟨fun _ _=>by kernel_rfl,kH⟩
theorem aa8:EQ 102 blankB:=⟨fun _ _=>by kernel_rfl,Vn⟩
def ZE(p:UInt8→Bool)(s:ByteArray):Bool:=match s.data.toList with|[]=>false|c::_=>p c
theorem ZC(p:UInt8→Bool)(s:ByteArray)(h:0<s.size):ZE p s=p s[0]:=by
 obtain⟨⟨l⟩⟩:=s;cases l with
 |nil=>exact absurd h (by decide)
 |cons c r=>rfl
def textOf(l:List UInt8):ByteArray:=⟨l.toArray⟩
end Go.Proofs.YtijcobeebaceoaaGreatDoor.Lx
namespace Go.Proofs.YtijcobeebaceoaaGreatDoor.Lx
set_option maxRecDepth 20000
open Go.RowKit
end Go.Proofs.YtijcobeebaceoaaGreatDoor.Lx
namespace Go.Proofs.YtijcobeebaceoaaGreatDoor.Lx
set_option maxRecDepth 20000
open Go.RowKit
theorem wI(w:World)(r:Option Nat):w.grownBy w r:=⟨rfl,rfl,rfl,Nat.le_refl _,fun _ _ _=>rfl⟩
theorem tO{a b c:World}{r:Option Nat}(h:a.grownBy b r)(k:b.grownBy c r):a.grownBy c r:=
 ⟨k.os.trans h.os,k.tape.trans h.tape,k.output.trans h.output,Nat.le_trans h.size k.size,fun i hi hr=>(k.block i (Nat.lt_of_lt_of_le hi h.size) hr).trans (h.block i hi hr)⟩
theorem dP{a b:World}{r:Option Nat}(h:a.grownBy b r)(n:Nat):a.grownBy (b.drewN n) r:=⟨h.os,h.tape,h.output,h.size,h.block⟩
theorem vE{a b:World}{k:Nat}(h:a.grownBy b (some k))(o:Nat)(u:Value):a.grownBy (b.setCell ⟨k,o,none⟩ u) (some k):=
 tO h ⟨rfl,rfl,rfl,by simp[World.setCell],fun i _ hr=>Below.heap_setCell _ _ _ _ (fun e=>hr (by rw[e]))⟩
def sw(w:World)(b:Nat)(s:ByteArray)(k:Nat)(v:Value):Prop:=w.heap[b]? = some (.cells #[.string s,.int .i64 (k:Int),v] 142 (0,0))
theorem sw.c0{w:World}{b k:Nat}{s:ByteArray}{v:Value}(h:sw w b s k v):w.cell? ⟨b,0,none⟩=some (.string s):=by simp[World.cell?,show w.heap[b]? = _ from h]
theorem sw.c1{w:World}{b k:Nat}{s:ByteArray}{v:Value}(h:sw w b s k v):w.cell? ⟨b,1,none⟩=some (.int .i64 (k:Int)):=by simp[World.cell?,show w.heap[b]? = _ from h]
theorem sw.c2{w:World}{b k:Nat}{s:ByteArray}{v:Value}(h:sw w b s k v):w.cell? ⟨b,2,none⟩=some v:=by simp[World.cell?,show w.heap[b]? = _ from h]
theorem sw.f{w:World}{b k:Nat}{s:ByteArray}{v:Value}(h:sw w b s k v)(o:Nat):w.frozen? ⟨b,o,none⟩=false:=by simp[World.frozen?,show w.heap[b]? = _ from h]
theorem sw.drewN{w:World}{b k:Nat}{s:ByteArray}{v:Value}(h:sw w b s k v)(n:Nat):sw (w.drewN n) b s k v:=h
theorem sw.lt{w:World}{b k:Nat}{s:ByteArray}{v:Value}(h:sw w b s k v):b<w.heap.size:=lt_of_block h
theorem sw.set1{w:World}{b k:Nat}{s:ByteArray}{v:Value}(h:sw w b s k v)(j:Nat):sw (w.setCell ⟨b,1,none⟩ (.int .i64 (j:Int))) b s j v:=by
 have hlt:=lt_of_block h;have h':w.heap[b]=.cells #[.string s,.int .i64 (k:Int),v] 142 (0,0):=by have:=h;unfold sw at this;simpa[Array.getElem?_eq_getElem hlt] using this
 show (w.heap.modify b _)[b]? = _;rw[Array.getElem?_eq_getElem (by simpa using hlt),Array.getElem_modify_self,h'];rfl
theorem sw.set2{w:World}{b k:Nat}{s:ByteArray}{v:Value}(h:sw w b s k v)(u:Value):sw (w.setCell ⟨b,2,none⟩ u) b s k u:=by
 have hlt:=lt_of_block h;have h':w.heap[b]=.cells #[.string s,.int .i64 (k:Int),v] 142 (0,0):=by have:=h;unfold sw at this;simpa[Array.getElem?_eq_getElem hlt] using this
 show (w.heap.modify b _)[b]? = _;rw[Array.getElem?_eq_getElem (by simpa using hlt),Array.getElem_modify_self,h'];rfl
theorem qN{P:Program}{f:FuncId}{args:Array Value}{w:World}{n:Nat}{v:Value}
  (h:Calls P f args (w.drewN n) fun e w'=>e=.returned v∧w.drewN n=w'):Calls P f args (w.drewN n) fun e w''=>e=.returned v∧∃m,w''=w.drewN m:=
 h.mono fun _ _ ⟨he,hm⟩=>⟨he,n,hm.symm⟩
def adv(p:UInt8→Bool)(s:ByteArray)(k:Nat):Nat:=k+((s.data.toList.drop k).takeWhile p).length
theorem rV(p:UInt8→Bool):∀(l:List UInt8) (n:Nat),n≤l.length→(∀i (h:i<l.length),i<n→p l[i]=true)→(∀h:n<l.length,p l[n]=false)→(l.takeWhile p).length=n
 |[],n,hn,_,_=>by simp at hn;simp[hn]
 |c::r,0,_,_,h=>by
  have:=h (by simp);simp at this;simp[this]
 |c::r,n+1,hn,ha,h=>by
  have h0:p c=true:=ha 0 (by simp) (by omega);have ih:=rV p r n (by simpa using hn) (fun i hi hin=>by have:=ha (i+1) (by simpa using hi) (by omega);simpa using this) (fun hlt=>by have:=h (by simpa using hlt);simpa using this);simp[h0,ih]
theorem J2{p:UInt8→Bool}{s:ByteArray}{k j:Nat}(hkj:k≤j)(hj:j≤s.size)(ha:∀i (h:i<s.size),k≤i→i<j→p s[i]=true)(he:∀h:j<s.size,p s[j]=false):adv p s k=j:=by
 have hl:s.data.toList.length=s.size:=rfl;have:=rV p (s.data.toList.drop k) (j-k) (by simp only[List.length_drop];omega)
  (fun i hi hin=>by
   have hi':k+i<s.size:=by simp only[List.length_drop] at hi;omega
   have:=ha (k+i) hi' (by omega) (by omega);simp only[List.getElem_drop];exact this)
  (fun hlt=>by
   have hlt':j<s.size:=by simp only[List.length_drop] at hlt;omega
   have:=he hlt';have e:k+(j-k)=j:=by omega
   simp only[List.getElem_drop,e];exact this)
 unfold adv;omega
set_option maxHeartbeats 1000000 in
theorem xP(f:Nat)(p:UInt8→Bool)(hf:EQ f p)(b k:Nat)(s:ByteArray)(v:Value)(w:World)(hb:sw w b s k v)(hk:k≤s.size)(hs:s.size≤1000000) :
  Calls Tryz.prog 101 #[.pointer (some ⟨b,0,none⟩),.func (.func f) #[] #[]] w fun e w'=>e=.returned (.string (s.extract k (adv p s k)))∧sw w' b s (adv p s k) v∧w.grownBy w' (some b):=by
 obtain⟨hcf,hf⟩:=hf;have HF:=Lib.hid hf;clear hf;have hc1:=hb.c1
 go_enter Tryz.func101,Tryz.ntmps101
 go_wp2_with fail
 go_loopg [] (s.size-k) (fun g wr=>∃j:Nat,k≤j∧j≤s.size∧s.size-j=g∧sw wr b s j v∧w.grownBy wr (some b)∧∀i (h:i<s.size),k≤i→i<j→p s[i]=true)
 case atStart=>exact⟨k,Nat.le_refl _,hk,rfl,hb,wI _ _,fun i _ h1 h2=>by omega⟩
 case round=>
  obtain⟨j,hkj,hj,hg,hbj,hgr,hall⟩:=hrel;have HG:=Lib.hid hg;have HA:=Lib.hid hall;clear hg hall hc1;have c0:=hbj.c0;have c1:=hbj.c1;by_cases hlt:j<s.size
  ·have hd:decide ((j:Int)<(s.size:Int))=true:=by simp;omega
   cases hi:p s[j]
   all_goals go_wp2_with fail
   all_goals go_quiet (exact qN (HF.out _ _))
   ·have HE:=Lib.hid (J2 hkj hj HA.out (fun _=>hi))
    have hb2:=hbj.drewN nq;have hg2:=dP hgr nq;clear c0 c1 hbj hgr;generalize wr.drewN nq=w2 at *;have c0:=hb2.c0;have c1:=hb2.c1
    go_wp2_with fail
    go_quiet (fail)
    go_wp2_with fail
    go_ret
    rw[HE.out];exact⟨rfl,hb2.drewN _,dP hg2 _⟩
   ·have hb2:=hbj.drewN nq
    have hg2:=dP hgr nq;clear c0 c1 hbj hgr;generalize wr.drewN nq=w2 at *;have c0:=hb2.c0;have c1:=hb2.c1;have f1:=hb2.f 1
    go_wp2_with fail
    go_roundg (s.size-(j+1))
    case measure=>have:=HG.out;omega
    case rel=>
     refine⟨j+1,by omega,by omega,rfl,hb2.set1 (j+1),vE hg2 _ _,?_⟩;intro i h1 h2 h3;by_cases e:i=j
     ·subst e;exact hi
     ·exact HA.out i h1 h2 (by omega)
  ·have hd:decide ((j:Int)<(s.size:Int))=false:=by simp;omega
   have HE:=Lib.hid (J2 (p:=p) hkj hj HA.out (fun h=>absurd h hlt))
   go_wp2_with fail
   go_quiet (fail)
   have hb2:=hbj.drewN nq;have hg2:=dP hgr nq;clear c0 c1 hbj hgr;generalize wr.drewN nq=w2 at *;have c0:=hb2.c0;have c1:=hb2.c1
   go_wp2_with fail
   go_quiet (fail)
   go_wp2_with fail
   go_ret
   rw[HE.out];exact⟨rfl,hb2.drewN _,dP hg2 _⟩
end Go.Proofs.YtijcobeebaceoaaGreatDoor.Lx
namespace Go.Proofs.YtijcobeebaceoaaGreatDoor.Lx
set_option maxRecDepth 20000
open Go.RowKit
set_option maxHeartbeats 1000000 in
theorem IA(b k:Nat)(s:ByteArray)(v:Value)(w:World)(hb:sw w b s k v)(hk:k≤s.size)(hs:s.size≤1000000) :
  Calls Tryz.prog 101 #[.pointer (some ⟨b,0,none⟩),.func (.func 103) #[.pointer (some ⟨b,0,none⟩)] #[]] w fun e w'=>e=.returned (.string (s.extract k (adv lineB s k)))∧sw w' b s (adv lineB s k) v∧w.grownBy w' (some b):=by
 have hcf:∀(args:Array Value) (w:World),Sem.run Tryz.prog (callFunc 41 args) w=.ok (.enter 41 args) w:=fun _ _=>by kernel_rfl
 have HF:=Lib.hid (Y6 (.pointer (some ⟨b,0,none⟩)));have hc1:=hb.c1
 go_enter Tryz.func101,Tryz.ntmps101
 go_wp2_with fail
 go_loopg [] (s.size-k) (fun g wr=>∃j:Nat,k≤j∧j≤s.size∧s.size-j=g∧sw wr b s j v∧w.grownBy wr (some b)∧∀i (h:i<s.size),k≤i→i<j→lineB s[i]=true)
 case atStart=>exact⟨k,Nat.le_refl _,hk,rfl,hb,wI _ _,fun i _ h1 h2=>by omega⟩
 case round=>
  obtain⟨j,hkj,hj,hg,hbj,hgr,hall⟩:=hrel;have HG:=Lib.hid hg;have HA:=Lib.hid hall;clear hg hall hc1;have c0:=hbj.c0;have c1:=hbj.c1;by_cases hlt:j<s.size
  ·have hd:decide ((j:Int)<(s.size:Int))=true:=by simp;omega
   cases hi:lineB s[j]
   all_goals go_wp2_with fail
   all_goals go_quiet (exact qN (HF.out _ _))
   ·have HE:=Lib.hid (J2 hkj hj HA.out (fun _=>hi))
    have hb2:=hbj.drewN nq;have hg2:=dP hgr nq;clear c0 c1 hbj hgr;generalize wr.drewN nq=w2 at *;have c0:=hb2.c0;have c1:=hb2.c1
    go_wp2_with fail
    go_quiet (fail)
    go_wp2_with fail
    go_ret
    rw[HE.out];exact⟨rfl,hb2.drewN _,dP hg2 _⟩
   ·have hb2:=hbj.drewN nq
    have hg2:=dP hgr nq;clear c0 c1 hbj hgr;generalize wr.drewN nq=w2 at *;have c0:=hb2.c0;have c1:=hb2.c1;have f1:=hb2.f 1
    go_wp2_with fail
    go_roundg (s.size-(j+1))
    case measure=>have:=HG.out;omega
    case rel=>
     refine⟨j+1,by omega,by omega,rfl,hb2.set1 (j+1),vE hg2 _ _,?_⟩;intro i h1 h2 h3;by_cases e:i=j
     ·subst e;exact hi
     ·exact HA.out i h1 h2 (by omega)
  ·have hd:decide ((j:Int)<(s.size:Int))=false:=by simp;omega
   have HE:=Lib.hid (J2 (p:=lineB) hkj hj HA.out (fun h=>absurd h hlt))
   go_wp2_with fail
   go_quiet (fail)
   have hb2:=hbj.drewN nq;have hg2:=dP hgr nq;clear c0 c1 hbj hgr;generalize wr.drewN nq=w2 at *;have c0:=hb2.c0;have c1:=hb2.c1
   go_wp2_with fail
   go_quiet (fail)
   go_wp2_with fail
   go_ret
   rw[HE.out];exact⟨rfl,hb2.drewN _,dP hg2 _⟩
theorem adv_ge(p:UInt8→Bool)(s:ByteArray)(k:Nat):k≤adv p s k:=Nat.le_add_right _ _
theorem adv_le(p:UInt8→Bool)(s:ByteArray)(k:Nat)(hk:k≤s.size):adv p s k≤s.size:=by
 have h1:=(List.takeWhile_sublist p (l:=s.data.toList.drop k)).length_le;have hl:s.data.toList.length=s.size:=rfl;rw[List.length_drop] at h1;unfold adv;omega
theorem nZ(p:UInt8→Bool):∀l:List UInt8,l.drop (l.takeWhile p).length=l.dropWhile p
 |[]=>rfl
 |c::r=>by
  cases h:p c
  ·simp[h]
  ·simp[h,nZ p r]
theorem adv_drop(p:UInt8→Bool)(s:ByteArray)(k:Nat):s.data.toList.drop (adv p s k)=(s.data.toList.drop k).dropWhile p:=by
 unfold adv;rw[←List.drop_drop,nZ]
theorem take_takeWhile(p:UInt8→Bool):∀l:List UInt8,l.take (l.takeWhile p).length=l.takeWhile p
 |[]=>rfl
 |c::r=>by
  cases h:p c
  ·simp[h]
  ·simp[h,take_takeWhile p r]
theorem adv_text(p:UInt8→Bool)(s:ByteArray)(k:Nat):(s.extract k (adv p s k)).data.toList=(s.data.toList.drop k).takeWhile p:=by
 rw[Lib.extract_data];unfold adv;rw[Nat.add_sub_cancel_left,take_takeWhile]
def skipC:Bool→List UInt8→List UInt8
 |_,[]=>[]
 |true,c::r=>if c.toNat=10 then skipC false r else skipC true r
 |false,c::r=>if blankB c=true then skipC false r else if c.toNat=35 then skipC true r else c::r
theorem Ab:∀l:List UInt8,skipC false l=skipC false (l.dropWhile blankB)
 |[]=>rfl
 |c::r=>by
  by_cases h:blankB c=true
  ·rw[List.dropWhile_cons_of_pos h,←Ab r];simp[skipC,h]
  ·rw[List.dropWhile_cons_of_neg h]
theorem skipC_line:∀l:List UInt8,skipC true l=skipC false (l.dropWhile lineB)
 |[]=>rfl
 |c::r=>by
  by_cases h:c.toNat=10
  ·have hl:¬lineB c=true:=by simp[lineB,h]
   have hb:blankB c=true:=by simp[blankB,h]
   rw[List.dropWhile_cons_of_neg hl];simp[skipC,h,hb]
  ·have hl:lineB c=true:=by simp[lineB,h]
   rw[List.dropWhile_cons_of_pos hl,←skipC_line r];simp[skipC,h]
theorem skipC_length:∀(b:Bool) (l:List UInt8),(skipC b l).length≤l.length
 |_,[]=>by simp[skipC]
 |true,c::r=>by
  have h1:=skipC_length false r;have h2:=skipC_length true r;simp only[skipC,List.length_cons];split<;>omega
 |false,c::r=>by
  have h1:=skipC_length false r;have h2:=skipC_length true r;simp only[skipC,List.length_cons];split
  ·omega
  ·split
   ·omega
   ·simp
def skipPos(s:ByteArray)(k:Nat):Nat:=s.size-(skipC false (s.data.toList.drop k)).length
theorem drop_at(s:ByteArray)(k:Nat)(h:k<s.size):s.data.toList.drop k=s[k]::s.data.toList.drop (k+1):=by
 rw[List.drop_eq_getElem_cons (by simpa using h)];rfl
theorem KE{s:ByteArray}{k j:Nat}(hj:j≤s.size)(he:skipC false (s.data.toList.drop k)=skipC false (s.data.toList.drop j))(hnb:∀h:j<s.size,blankB s[j]=false)(hh:∀h:j<s.size,s[j].toNat≠35):skipPos s k=j:=by
 unfold skipPos;rw[he];have hl:s.data.toList.length=s.size:=rfl;by_cases h:j<s.size
 ·rw[drop_at s j h]
  have h1:=hnb h;have h2:=hh h;simp only[skipC,h1,h2,if_false,Bool.false_eq_true,List.length_cons,List.length_drop];omega
 ·rw[List.drop_eq_nil_of_le (by omega)]
  simp only[skipC,List.length_nil];omega
theorem abz{p:UInt8→Bool}{s:ByteArray}{k:Nat}(h:adv p s k<s.size):p s[adv p s k]=false:=by
 have e:=adv_drop p s k;rw[drop_at s _ h] at e;cases hp:p s[adv p s k]
 ·rfl
 ·exfalso
  have:∀l:List UInt8,∀c r,c::r=l.dropWhile p→p c=true→False:=by
   intro l
   induction l with
   |nil=>intro c r h;simp at h
   |cons x y ih=>
    intro c r h hc;by_cases hx:p x=true
    ·rw[List.dropWhile_cons_of_pos hx] at h;exact ih c r h hc
    ·rw[List.dropWhile_cons_of_neg hx] at h
     cases h;exact hx hc
  exact this _ _ _ e hp
set_option maxHeartbeats 1000000 in
theorem Wu(b k:Nat)(s:ByteArray)(v:Value)(w:World)(hb:sw w b s k v)(hk:k≤s.size)(hs:s.size≤1000000) :
  Calls Tryz.prog 76 #[.pointer (some ⟨b,0,none⟩)] w fun e w'=>e=.returned (.tuple #[])∧sw w' b s (skipPos s k) v∧w.grownBy w' (some b):=by
 go_enter Tryz.func76,Tryz.ntmps76
 go_wp2_with fail
 go_loopg [] (s.size-k) (fun g wr=>∃j:Nat,j≤s.size∧s.size-j=g∧sw wr b s j v∧w.grownBy wr (some b)∧skipC false (s.data.toList.drop k)=skipC false (s.data.toList.drop j))
 case atStart=>exact⟨k,hk,rfl,hb,wI _ _,rfl⟩
 case round=>
  obtain⟨j,hj,hg,hbj,hgr,hsk⟩:=hrel;have HG:=Lib.hid hg;have HS:=Lib.hid hsk;clear hg hsk
  go_wp2_with fail
  refine(xP 102 blankB aa8 b j s v _ hbj hj hs).mono ?_;rintro e w1 ⟨rfl,hb1,hg1⟩;have hge:=adv_ge blankB s j;have hle:=adv_le blankB s j hj;have hst:=abz (p:=blankB) (s:=s) (k:=j);have hdr:=adv_drop blankB s j;generalize adv blankB s j=j1 at *;have HST:=Lib.hid hst;have HS1:Hid (skipC false (s.data.toList.drop k)=skipC false (s.data.toList.drop j1)):=by
   rw[hdr];exact HS.out.trans (Ab _)
  clear hst hdr HS;have hg2:=tO hgr hg1;clear hgr hg1 hbj hb;have c0:=hb1.c0;have c1:=hb1.c1;by_cases hlt:j1<s.size
  ·have hd:((j1:Int)==(s.size:Int))=false:=by simp;omega
   by_cases h35:s[j1].toNat=35
   ·have hd2:((s[j1].toNat:Int) != 35)=false:=by simp[h35]
    have H35:=Lib.hid h35;clear h35
    go_wp2_with fail
    go_quiet (fail)
    have hb2:=hb1.drewN nq;have hg3:=dP hg2 nq;clear c0 c1 hb1 hg2;generalize w1.drewN nq=w2 at *
    go_wp2_with fail
    refine(IA b j1 s v _ hb2 hle hs).mono ?_;rintro e w3 ⟨rfl,hb3,hg4⟩;have hge2:j1<adv lineB s j1:=by
     unfold adv;rw[drop_at s j1 hlt];have:lineB s[j1]=true:=by simp[lineB,H35.out]
     simp[this]
    have hle2:=adv_le lineB s j1 hle;have HS2:Hid (skipC false (s.data.toList.drop k)=skipC false (s.data.toList.drop (adv lineB s j1))):=by
     show skipC false (s.data.toList.drop k)=skipC false (s.data.toList.drop (adv lineB s j1));rw[HS1.out,adv_drop,drop_at s j1 hlt];have h1:=HST.out hlt;have h2:=H35.out;have h3:lineB s[j1]=true:=by simp[lineB,h2]
     rw[List.dropWhile_cons_of_pos h3,←skipC_line];simp[skipC,h1,h2]
    generalize adv lineB s j1=j2 at *
    go_wp2_with fail
    go_roundg (s.size-j2)
    case measure=>have:=HG.out;omega
    case rel=>exact⟨j2,hle2,rfl,hb3,tO hg3 hg4,HS2.out⟩
   ·have hd2:((s[j1].toNat:Int) != 35)=true:=by simp;omega
    have HE:=Lib.hid (KE hle HS1.out HST.out (fun _=>h35));clear h35
    go_wp2_with fail
    go_quiet (fail)
    go_wp2_with fail
    refine bodyPost_ret (results_none rfl _ _ _) rfl ?_;rw[HE.out];exact⟨rfl,hb1.drewN _,dP hg2 _⟩
  ·have hd:((j1:Int)==(s.size:Int))=true:=by simp;omega
   have HE:=Lib.hid (KE hle HS1.out HST.out (fun h=>absurd h hlt))
   go_wp2_with fail
   go_quiet (fail)
   go_wp2_with fail
   refine bodyPost_ret (results_none rfl _ _ _) rfl ?_;rw[HE.out];exact⟨rfl,hb1.drewN _,dP hg2 _⟩
end Go.Proofs.YtijcobeebaceoaaGreatDoor.Lx
namespace Go.Proofs.YtijcobeebaceoaaGreatDoor.Lx
set_option maxRecDepth 20000
open Go.RowKit
structure Tok where
 kind:Int
 text:ByteArray
 n:Int
 at_:Nat
def Tok.cells(t:Tok):List Value:=[.int .i64 t.kind,.string t.text,.int .i64 t.n,.int .i64 (t.at_:Int)]
def tokCells(ts:List Tok):List Value:=ts.flatMap Tok.cells
theorem Fb(ts:List Tok)(t:Tok):tokCells (ts++[t])=tokCells ts++t.cells:=by simp[tokCells]
def Sc(w:World)(b:Nat)(s:ByteArray)(k:Nat)(ts:List Tok):Prop:=∃v,sw w b s k v∧w.ownsRow (b+1) 64 4 v ts.length (tokCells ts)
theorem Sc.moved{w w':World}{b k':Nat}{s:ByteArray}{ts:List Tok}{v:Value}(ho:w.ownsRow (b+1) 64 4 v ts.length (tokCells ts))(hb':sw w' b s k' v)(hg:w.grownBy w' (some b)):Sc w' b s k' ts:=by
 refine⟨v,hb',ho.kept hg ?_⟩;cases hv:v.ownBlock with
 |none=>exact .inl rfl
 |some g=>exact .inr (fun e=>by have:=(ho.lt g hv).1;cases e;omega)
theorem lC{w w':World}{b:Nat}(hg:w.grownBy w' (some b))(hb:b≤w.heap.size):Below b w w':=
 (Below.refl b w).grown hg hb (fun k hk=>by cases hk;exact Nat.le_refl _)
theorem ain:(Tryz.prog.info? 64).map (fun i=>(i.zero,i.size,i.bytes))=some (some (.agg #[.int .i64 0,.string ⟨#[]⟩,.int .i64 0,.int .i64 0]),4,40):=by kernel_rfl
theorem nM(w:World)(xs:List Value)(t:TypeId):∀(j:Nat) (u:Value),xs[j]? = some u→(w.alloc (.cells xs.toArray t)).cell? ((⟨w.heap.size,0,none⟩:Addr).add j)=some u:=by
 intro j u h;have hadd:(⟨w.heap.size,0,none⟩:Addr).add j=⟨w.heap.size,j,none⟩:=by unfold Addr.add;split<;>simp_all
 rw[hadd,cell_of_row _ w.heap.size j xs.toArray t (0,0) (heap_alloc_new w _)];simpa using h
theorem abW(t:Tok):∀u,u∈t.cells→u.oneCell'=true:=by
 intro u h;simp[Tok.cells] at h;rcases h with rfl|rfl|rfl|rfl<;>rfl
theorem CU{w:World}{base:Nat}{e:TypeId}{size:Nat}{v:Value}{n:Nat}{xs:List Value}(h:w.ownsRow base e size v (n+1) xs):∃g cap,v=.slice (some ⟨g,0,none⟩) (n+1) cap:=by
 rcases h.2 with⟨_,h0⟩|⟨g,cap,_,hv,_⟩
 ·omega
 ·exact⟨g,cap,hv⟩
theorem sw.later{w w1:World}{b k:Nat}{s:ByteArray}{v:Value}(h:sw w b s k v)(o:Obj){r:Option Nat}(hg:(w.alloc o).grownBy w1 r)(hr:r≠some b):sw w1 b s k v:=by
 unfold sw at *;rw[hg.block b (by have:=lt_of_block h;simp;omega) (fun e=>hr e.symm),Below.heap_alloc w o b (lt_of_block h)];exact h
theorem own_ne{w:World}{b:Nat}{v:Value}{n:Nat}{xs:List Value}(ho:w.ownsRow (b+1) 64 4 v n xs):v.ownBlock≠some b:=by
 intro e;have:=(ho.lt b e).1;omega
set_option maxHeartbeats 400000 in
theorem Yn(b:Nat)(kind n:Int)(text:ByteArray)(at_:Int)(w:World)(h3:kind≠3)(h4:kind≠4)(hl:40<(text.size:Int)) :
  Calls Tryz.prog 78 #[.pointer (some ⟨b,0,none⟩),.int .i64 kind,.string text,.int .i64 n,.int .i64 at_] w fun e w'=>e=.returned (.int .i64 104)∧w=w':=by
 have h3':(kind != 3)=true:=by simp[h3]
 have h4':(kind != 4)=true:=by simp[h4]
 go_enter Tryz.func78,Tryz.ntmps78
 go_wp2
 go_ret
 exact⟨rfl,rfl⟩
set_option maxHeartbeats 1000000 in
theorem RV(b:Nat)(s:ByteArray)(k:Nat)(ts:List Tok)(kind n:Int)(text:ByteArray)(at_:Nat)(w:World)(hsc:Sc w b s k ts)(hts:ts.length≤1000000)
  (h:kind=3∨kind=4∨(text.size:Int)≤40) :
  Calls Tryz.prog 78 #[.pointer (some ⟨b,0,none⟩),.int .i64 kind,.string text,.int .i64 n,.int .i64 (at_:Int)] w fun e w'=>e=.returned (.int .i64 0)∧Sc w' b s k (ts++[⟨kind,text,n,at_⟩])∧Below b w w':=by
 obtain⟨v,hb,ho⟩:=hsc;obtain⟨i0,hi,hz0,hz1,hz2⟩:=info_parts ain;have c2:=hb.c2;have hlt:=hb.lt;have hcase:(kind != 3)=false∨((kind != 3)=true∧(kind != 4)=false)∨((kind != 3)=true∧(kind != 4)=true∧(text.size:Int)≤40):=by
  simp only[bne_iff_ne,bne_eq_false_iff_eq];omega
 clear h;rcases hcase with h3|⟨h3,h4⟩|⟨h3,h4,h40⟩
 all_goals
  go_enter Tryz.func78,Tryz.ntmps78
  go_wp2_with (at_builtin;refine wpList_append_own _ rfl _ _ 66 rfl (b+1) 64 i0 (.agg #[.int .i64 0,.string ⟨#[]⟩,.int .i64 0,.int .i64 0]) 4 40 Tryz.underlying66 hi hz0 hz1 hz2 rfl (by decide) v ts.length (tokCells ts) rfl (ho.alloc _) ⟨w.heap.size,0,none⟩ 1 1 (Tok.cells ⟨kind,text,n,at_⟩) rfl rfl ?_ ?_ ?_ ?_ ?_ ?_)
  ·exact nM w (Tok.cells ⟨kind,text,n,at_⟩) 64
  ·exact abW _
  ·unfold maxLen;omega
  ·omega
  ·simp;omega
  ·intro v' w1 ho' hgr _
   have hne:=own_ne ho;have hb1:=hb.later _ hgr hne;have hbl:Below b w w1:=((Below.refl b w).alloc (by omega) _).grown hgr (by simp;omega) (fun g hg=>by have:=(ho.lt g hg).1;omega);obtain⟨g,cap,hv⟩:=CU ho';rw[hv] at ho' ⊢;have f2:=hb1.f 2;have c2':=hb1.c2;have HO:=Lib.hid ho';have HG:=Lib.hid hgr;clear c2 ho hb ho' hgr hv
   go_wp2
   go_ret
   refine⟨rfl,⟨_,hb1.set2 _,?_⟩,hbl.setCell (Nat.le_refl _) _⟩;rw[Fb,List.length_append];exact ownsRow_setCell_below HO.out (by simp) _
end Go.Proofs.YtijcobeebaceoaaGreatDoor.Lx
namespace Go.Proofs.YtijcobeebaceoaaGreatDoor.Lx
set_option maxRecDepth 20000
open Go.RowKit
def EP(w:World)(b:Nat)(s:ByteArray)(ts:List Tok)(r:Except Int (Tok×Nat))(e:Ending)(w':World):Prop:=
 match r with
 |.ok (t,j)=>e=.returned (.int .i64 0)∧Sc w' b s j (ts++[t])∧Below b w w'
 |.error c=>e=.returned (.int .i64 c)∧Below b w w'
theorem EP.after{w w1:World}{b:Nat}{s:ByteArray}{ts:List Tok}{r:Except Int (Tok×Nat)}{e:Ending}{w':World}(hb:Below b w w1)(h:EP w1 b s ts r e w'):EP w b s ts r e w':=by
 unfold EP at *;split at h
 ·exact⟨h.1,h.2.1,hb.trans h.2.2⟩
 ·exact⟨h.1,hb.trans h.2⟩
theorem EP.is{w:World}{b:Nat}{s:ByteArray}{ts:List Tok}{r:Except Int (Tok×Nat)}{e:Ending}{w':World}(h:EP w b s ts r e w'):∃c,e=.returned (.int .i64 c):=by
 unfold EP at h;split at h
 ·exact⟨_,h.1⟩
 ·exact⟨_,h.1⟩
def qO(kind:Int)(x:ByteArray)(n:Int)(at_:Nat)(k:Nat):Except Int (Tok×Nat):=
 if kind≠3∧kind≠4∧40<(x.size:Int) then .error 104 else .ok (⟨kind,x,n,at_⟩,k)
theorem xK(b:Nat)(s:ByteArray)(k:Nat)(ts:List Tok)(kind n:Int)(x:ByteArray)(at_:Nat)(w:World)(hsc:Sc w b s k ts)(hts:ts.length≤1000000) :
  Calls Tryz.prog 78 #[.pointer (some ⟨b,0,none⟩),.int .i64 kind,.string x,.int .i64 n,.int .i64 (at_:Int)] w (EP w b s ts (qO kind x n at_ k)):=by
 by_cases h:kind≠3∧kind≠4∧40<(x.size:Int)
 ·refine(Yn b kind n x at_ w h.1 h.2.1 h.2.2).mono ?_
  rintro e w' ⟨rfl,rfl⟩;unfold EP qO;rw[if_pos h];exact⟨rfl,Below.refl _ _⟩
 ·refine(RV b s k ts kind n x at_ w hsc hts (by omega)).mono ?_
  rintro e w' ⟨rfl,h1,h2⟩;unfold EP qO;rw[if_neg h];exact⟨rfl,h1,h2⟩
def xW(x:ByteArray):Int:=if keyB x=true then 6 else if(x.toList==[95])=true then 7 else if ZE upB x=true then 2 else 1
def zW(s:ByteArray)(k:Nat):Except Int (Tok×Nat):=qO (xW (s.extract k (adv insideB s k))) (s.extract k (adv insideB s k)) 0 k (adv insideB s k)
theorem size_extract(s:ByteArray)(k j:Nat)(hj:j≤s.size):(s.extract k j).size=j-k:=by
 simp[ByteArray.size_extract];omega
set_option maxHeartbeats 1000000 in
theorem Ki(b k:Nat)(s:ByteArray)(ts:List Tok)(w:World)(hsc:Sc w b s k ts)(hk:k<s.size)(hs:s.size≤1000000)(hts:ts.length≤1000000)(hin:insideB s[k]=true) :
  Calls Tryz.prog 106 #[.pointer (some ⟨b,0,none⟩)] w (EP w b s ts (zW s k)):=by
 obtain⟨v,hb,ho⟩:=hsc;have c1:=hb.c1
 go_enter Tryz.func106,Tryz.ntmps106
 go_wp2_with fail
 refine(xP 137 insideB U9 b k s v _ hb (by omega) hs).mono ?_;rintro e w1 ⟨rfl,hb1,hg1⟩;have hsc1:=Sc.moved ho hb1 hg1;have hbl:=lC hg1 (Nat.le_of_lt hb.lt);have hlt:k<adv insideB s k:=by
  unfold adv;rw[drop_at s k hk];simp[hin]
 have hle:=adv_le insideB s k (by omega);have HR:Hid (zW s k=qO (xW (s.extract k (adv insideB s k))) (s.extract k (adv insideB s k)) 0 k (adv insideB s k)):=rfl;have hsz:=size_extract s k (adv insideB s k) hle;have hx0:0<(s.extract k (adv insideB s k)).size:=by omega
 clear hsz hb1 hg1 ho hb c1;generalize s.extract k (adv insideB s k)=x at *;generalize adv insideB s k=j at *;have HH:=Lib.hid (ZC upB x hx0);have hkind:(keyB x=true∧xW x=6)∨(keyB x=false∧(x.toList==[95])=true∧xW x=7)∨(keyB x=false∧(x.toList==[95])=false∧upB x[0]=true∧xW x=2)∨(keyB x=false∧(x.toList==[95])=false∧upB x[0]=false∧xW x=1):=by
  unfold xW;rw[HH.out];cases keyB x<;>cases(x.toList==[95])<;>cases upB x[0]<;>simp
 clear HH;rcases hkind with⟨h1,h4⟩|⟨h1,h2,h4⟩|⟨h1,h2,h3,h4⟩|⟨h1,h2,h3,h4⟩
 all_goals
  have HK:=Lib.hid h4;clear h4
  go_wp2_with (first|(go_at_call 138;refine(adu _ _).mono ?_;rintro e w' ⟨rfl,rfl⟩)|(go_at_call 105;refine(qD _ _).mono ?_;rintro e w' ⟨rfl,rfl⟩))
  refine(xK b s j ts _ _ x k _ hsc1 hts).mono ?_;rintro e w2 hgot;obtain⟨c,rfl⟩:=hgot.is;have HGOT:=Lib.hid hgot;clear hgot
  go_wp2_with fail
  go_ret
  rw[HR.out,HK.out];exact EP.after hbl HGOT.out
end Go.Proofs.YtijcobeebaceoaaGreatDoor.Lx
namespace Go.Proofs.YtijcobeebaceoaaGreatDoor.Lx
set_option maxRecDepth 20000
open Go.RowKit
def stepD(a:Int×Bool)(c:UInt8):Int×Bool:=if a.2=true then a else(IntKind.u64.wrap (IntKind.u64.wrap (10*a.1)+((c.toNat:Int)-48)),decide (4611686018427387904<IntKind.u64.wrap (IntKind.u64.wrap (10*a.1)+((c.toNat:Int)-48))))
theorem VD(n:Int):0≤IntKind.u64.wrap n∧IntKind.u64.wrap n<18446744073709551616:=by
 simp[IntKind.wrap,IntKind.signed,IntKind.bits];omega
def foldD(l:List UInt8):Int×Bool:=l.foldl stepD (0,false)
theorem foldD_bd(l:List UInt8):0≤(foldD l).1∧(foldD l).1<18446744073709551616:=by
 unfold foldD;have:∀(l:List UInt8) (a:Int×Bool),0≤a.1∧a.1<18446744073709551616→0≤(l.foldl stepD a).1∧(l.foldl stepD a).1<18446744073709551616:=by
  intro l
  induction l with
  |nil=>intro a h;exact h
  |cons c r ih=>
   intro a h;apply ih;unfold stepD;split
   ·exact h
   ·exact VD _
 exact this l (0,false) (by simp)
theorem OL(s:ByteArray)(k:Nat)(h:k<s.size):foldD (s.data.toList.take (k+1))=stepD (foldD (s.data.toList.take k)) s[k]:=by
 unfold foldD;rw[Uo s k h,List.foldl_append];rfl
theorem Ph{p:UInt8→Bool}{s:ByteArray}(h:M0 p s=true)(k:Nat)(hk:k<s.size):p s[k]=true:=by
 unfold M0 at h;rw[List.all_eq_true] at h;exact h _ (aif s k hk)
set_option maxHeartbeats 1000000 in
theorem Ew(s:ByteArray)(w:World)(h0:0<s.size)(hs:s.size≤1000000)(hz:s.size=1∨((s[0].toNat:Int)==48)=false)(hd:M0 digitB s=true) :
  Calls Tryz.prog 154 #[.string s] w fun e w'=>e=.returned (.tuple #[.int .u64 (foldD s.data.toList).1,.bool (foldD s.data.toList).2,.bool true])∧w=w':=by
 have he:s.toList.isEmpty=false:=by
  rw[ByteArray.toList_eq];obtain⟨⟨l⟩⟩:=s;cases l with
  |nil=>exact absurd h0 (by decide)
  |cons _ _=>rfl
 have hone:decide ((1:Int)<(s.size:Int))=false∨(decide ((1:Int)<(s.size:Int))=true∧((s[0].toNat:Int)==48)=false):=by
  rcases hz with h|h
  ·left;simp;omega
  ·by_cases h1:s.size=1
   ·left;simp;omega
   ·right;exact⟨by simp;omega,h⟩
 clear hz;rcases hone with h1|⟨h1,h2⟩
 all_goals
  go_enter Tryz.func154,Tryz.ntmps154
  go_wp2_with fail
  go_loop [2,3,4,5,20] (fun n g o _ i=>∃k:Nat,k≤s.size∧i=.int .i64 k∧o=.bool false∧n=.int .u64 (foldD (s.data.toList.take k)).1∧g=.bool (foldD (s.data.toList.take k)).2) (fun _ _ _ _ i=>s.size-(intOf i).toNat)
  case atStart=>exact⟨0,Nat.zero_le _,rfl,rfl,rfl,rfl⟩
  case round=>
   obtain⟨k,hk,rfl,rfl,rfl,rfl⟩:=hrel;by_cases hlt:k<s.size
   ·have hdk:=Ph hd k hlt
    have hd1:48≤(s[k].toNat:Int)∧(s[k].toNat:Int)≤57:=by
     simp[digitB] at hdk;omega
    have HS:=Lib.hid (OL s k hlt);have hbd:=foldD_bd (s.data.toList.take k);generalize foldD (s.data.toList.take k)=a at *;obtain⟨n,g⟩:=a;obtain⟨hlo,hhi⟩:=hd1;obtain⟨hb0,hb1⟩:=hbd;simp only at hb0 hb1;clear hdk hd;cases g
    all_goals go_wp2_with fail
    all_goals
     go_round
     case rel=>exact⟨k+1,by omega,by go_num,rfl,by rw[HS.out];rfl,by rw[HS.out];rfl⟩
     case measure=>simp[intOf];omega
   ·go_wp2_with fail
    go_ret3
    rw[VY s k hlt];exact⟨rfl,rfl⟩
end Go.Proofs.YtijcobeebaceoaaGreatDoor.Lx
namespace Go.Proofs.YtijcobeebaceoaaGreatDoor.Lx
set_option maxRecDepth 20000
open Go.RowKit
def parseD(l:List UInt8):Option Int:=if(foldD l).2=true∨(foldD l).1=4611686018427387904 then none else some (foldD l).1
theorem foldD_small(l:List UInt8)(h:(foldD l).2=false):(foldD l).1≤4611686018427387904:=by
 unfold foldD at *;have:∀(l:List UInt8) (a:Int×Bool),(a.2=false→a.1≤4611686018427387904)→(l.foldl stepD a).2=false→(l.foldl stepD a).1≤4611686018427387904:=by
  intro l
  induction l with
  |nil=>intro a h;exact h
  |cons c r ih=>
   intro a h;apply ih;unfold stepD;split
   ·exact h
   ·intro h1
    simpa using h1
 exact this l (0,false) (by simp) h
set_option maxHeartbeats 1000000 in
theorem UN(s:ByteArray)(w:World)(n:Int)(h0:0<s.size)(hs:s.size≤1000000)(hz:s.size=1∨((s[0].toNat:Int)==48)=false)(hd:M0 digitB s=true)(hp:parseD s.data.toList=some n) :
  Calls Tryz.prog 140 #[.string s] w fun e w'=>e=.returned (.tuple #[.int .i64 n,.int .i64 0])∧w=w':=by
 have hd0:=Ph hd 0 h0;have hneg:((s[0].toNat:Int)==45)=false:=by
  simp[digitB] at hd0;simp;omega
 have hlen:decide ((0:Int)<(s.size:Int))=true:=by simp;omega
 have hbd:=foldD_bd s.data.toList;have hsm:=foldD_small s.data.toList;have HD:=Lib.hid (Ew s w h0 hs hz hd);clear hd0 hz hd;unfold parseD at hp;generalize foldD s.data.toList=a at *;obtain⟨m,g⟩:=a;cases g with
 |true=>simp at hp
 |false=>
  by_cases hm:m=4611686018427387904
  ·simp[hm] at hp
  ·obtain rfl:m=n:=by simpa[hm] using hp
   have hm':(m==4611686018427387904)=false:=by simp[hm]
   have hlt:m<4611686018427387904:=by have:=hsm rfl;simp only at this;omega
   obtain⟨hb0,hb1⟩:=hbd;simp only at hb0 hb1;clear hp hm hsm hb1
   go_enter Tryz.func140,Tryz.ntmps140
   go_wp2_with (go_at_call 154;refine HD.out.mono ?_;rintro e w' ⟨rfl,rfl⟩)
   go_ret2
   exact⟨rfl,rfl⟩
set_option maxHeartbeats 1000000 in
theorem YB(s:ByteArray)(w:World)(h0:0<s.size)(hs:s.size≤1000000)(hz:s.size=1∨((s[0].toNat:Int)==48)=false)(hd:M0 digitB s=true)(hp:parseD s.data.toList=none) :
  Calls Tryz.prog 140 #[.string s] w fun e w'=>e=.returned (.tuple #[.int .i64 0,.int .i64 3])∧w=w':=by
 have hd0:=Ph hd 0 h0;have hneg:((s[0].toNat:Int)==45)=false:=by
  simp[digitB] at hd0;simp;omega
 have hlen:decide ((0:Int)<(s.size:Int))=true:=by simp;omega
 have HD:=Lib.hid (Ew s w h0 hs hz hd);clear hd0 hz hd;unfold parseD at hp;generalize foldD s.data.toList=a at *;obtain⟨m,g⟩:=a;have hcase:g=true∨(g=false∧(m==4611686018427387904)=true):=by
  cases g
  ·right;simpa using hp
  ·left;rfl
 clear hp;rcases hcase with rfl|⟨rfl,hm⟩
 all_goals
  go_enter Tryz.func140,Tryz.ntmps140
  go_wp2_with (go_at_call 154;refine HD.out.mono ?_;rintro e w' ⟨rfl,rfl⟩)
  go_ret2
  exact⟨rfl,rfl⟩
def numText(l:List UInt8):List UInt8:=if Lib.trimLeftB l 48=[] then [48] else Lib.trimLeftB l 48
def numOf(l:List UInt8)(k j:Nat):Except Int (Tok×Nat):=
 match parseD l with
 |none=>.error 102
 |some n=>qO 3 (textOf l) n k j
def Lm(s:ByteArray)(k:Nat):Except Int (Tok×Nat):=numOf (numText ((s.data.toList.drop k).takeWhile digitB)) k (adv digitB s k)
theorem Ll(l:List UInt8)(h:l.all digitB=true):(numText l).all digitB=true:=by
 unfold numText;split
 ·decide
 ·rw[List.all_eq_true] at *
  intro x hx;exact h x ((List.dropWhile_sublist _).mem hx)
theorem N7(l:List UInt8):numText l≠[]:=by
 unfold numText;split
 ·simp
 ·assumption
theorem Io(l:List UInt8)(c:UInt8)(r:List UInt8)(h:numText l=c::r):r=[]∨c≠48:=by
 unfold numText at h;split at h
 ·simp at h;exact .inl h.2
 ·right
  unfold Lib.trimLeftB at h;intro e;subst e;have:∀l:List UInt8,∀r,l.dropWhile (· == 48)=48::r→False:=by
   intro l
   induction l with
   |nil=>intro r h;simp at h
   |cons x y ih=>
    intro r h;by_cases hx:x=48
    ·rw[List.dropWhile_cons_of_pos (by simp[hx])] at h;exact ih r h
    ·rw[List.dropWhile_cons_of_neg (by simp[hx])] at h
     cases h;exact hx rfl
  exact this _ _ h
theorem Lj(l:List UInt8):(numText l).length≤l.length+1:=by
 unfold numText;split
 ·simp
 ·have:=(List.dropWhile_sublist (· == (48:UInt8)) (l:=l)).length_le
  unfold Lib.trimLeftB;omega
theorem textOf_size(l:List UInt8):(textOf l).size=l.length:=by simp[textOf,ByteArray.size]
theorem Nk(p:UInt8→Bool)(l:List UInt8):M0 p (textOf l)=l.all p:=by simp[textOf,M0]
theorem textOf_data(l:List UInt8):(textOf l).data.toList=l:=rfl
theorem textOf_toList(l:List UInt8):(textOf l).toList=l:=by rw[ByteArray.toList_eq];rfl
theorem Y1(p:UInt8→Bool):∀(l:List UInt8) (x:UInt8),x∈l.takeWhile p→p x=true
 |[],x,h=>by simp at h
 |c::r,x,h=>by
  by_cases hc:p c=true
  ·rw[List.takeWhile_cons_of_pos hc] at h
   rcases List.mem_cons.1 h with rfl|h
   ·exact hc
   ·exact Y1 p r x h
  ·rw[List.takeWhile_cons_of_neg hc] at h
   cases h
theorem Fu{l:List UInt8}(h:(Lib.trimLeftB l 48).isEmpty=true):(ByteArray.mk #[48])=textOf (numText l):=by
 have:Lib.trimLeftB l 48=[]:=by simpa using h
 unfold numText;rw[if_pos this];rfl
theorem Ip{l:List UInt8}(h:(Lib.trimLeftB l 48).isEmpty=false):(ByteArray.mk (Lib.trimLeftB l 48).toArray)=textOf (numText l):=by
 have:¬Lib.trimLeftB l 48=[]:=by simpa using h
 unfold numText;rw[if_neg this];rfl
set_option maxHeartbeats 1000000 in
theorem NZ(b k:Nat)(s:ByteArray)(ts:List Tok)(w:World)(hsc:Sc w b s k ts)(hk:k<s.size)(hs:s.size≤100000)(hts:ts.length≤1000000) :
  Calls Tryz.prog 108 #[.pointer (some ⟨b,0,none⟩)] w (EP w b s ts (Lm s k)):=by
 obtain⟨v,hb,ho⟩:=hsc;have c1:=hb.c1
 go_enter Tryz.func108,Tryz.ntmps108
 go_wp2_with fail
 refine(xP 107 digitB aaW b k s v _ hb (by omega) (by omega)).mono ?_;rintro e w1 ⟨rfl,hb1,hg1⟩;have hsc1:=Sc.moved ho hb1 hg1;have hbl:=lC hg1 (Nat.le_of_lt hb.lt);have hle:=adv_le digitB s k (by omega);have hsz:=size_extract s k (adv digitB s k) hle;have htx:=adv_text digitB s k;have hall:((s.data.toList.drop k).takeWhile digitB).all digitB=true:=by
  rw[List.all_eq_true];intro x hx;exact Y1 _ _ _ hx
 have hlen:(numText ((s.data.toList.drop k).takeWhile digitB)).length≤1000000:=by
  have h1:=Lj ((s.data.toList.drop k).takeWhile digitB);have h2:((s.data.toList.drop k).takeWhile digitB).length≤s.size:=by
   have:=(List.takeWhile_sublist digitB (l:=s.data.toList.drop k)).length_le;have hl:s.data.toList.length=s.size:=rfl;rw[List.length_drop] at this;omega
  omega
 have HR:Hid (Lm s k=numOf (numText ((s.data.toList.drop k).takeWhile digitB)) k (adv digitB s k)):=rfl;rw[←htx] at hall hlen HR;clear hsz hb1 hg1 ho hb c1 htx;generalize s.extract k (adv digitB s k)=x at *;generalize adv digitB s k=j at *
 go_wp2_with fail
 refine(Tryz.strings_TrimLeft_one _ 48 (by decide) _).mono ?_;rintro e w' ⟨rfl,rfl⟩
 go_wp2_with fail
 all_goals
  first|rw[Fu (by assumption)]|rw[Ip (by assumption)]
  have hA:=Ll _ hall;have hN:=N7 x.data.toList;have hH:=Io x.data.toList;generalize numText x.data.toList=y at *;have h0:0<(textOf y).size:=by rw[textOf_size];cases y with|nil=>exact absurd rfl hN|cons _ _=>simp
  have hz:(textOf y).size=1∨(((textOf y)[0].toNat:Int)==48)=false:=by
   cases y with
   |nil=>exact absurd rfl hN
   |cons c r=>
    rcases hH c r rfl with rfl|h
    ·left;rfl
    ·right
     show ((c.toNat:Int)==48)=false;simp;intro e;exact h (UInt8.toNat_inj.1 (by have h48:(48:UInt8).toNat=48:=rfl;omega))
  have hd:M0 digitB (textOf y)=true:=by rw[Nk];exact hA
  have hsz:(textOf y).size≤1000000:=by rw[textOf_size];exact hlen
  clear hall hA hN hH hlen;cases hp:parseD y with
  |none=>
   refine(YB (textOf y) _ h0 hsz hz hd hp).mono ?_;rintro e w2 ⟨rfl,rfl⟩;have HP:=Lib.hid hp;clear hp hz hd
   go_wp2_with fail
   go_ret
   rw[HR.out];unfold numOf;rw[HP.out];exact⟨rfl,hbl⟩
  |some n=>
   refine(UN (textOf y) _ n h0 hsz hz hd hp).mono ?_;rintro e w2 ⟨rfl,rfl⟩;have HP:=Lib.hid hp;clear hp hz hd
   go_wp2_with fail
   refine(xK b s j ts _ _ _ k _ hsc1 hts).mono ?_;rintro e w3 hgot;obtain⟨c,rfl⟩:=hgot.is;have HGOT:=Lib.hid hgot;clear hgot
   go_wp2_with fail
   go_ret
   rw[HR.out];unfold numOf;rw[HP.out];exact EP.after hbl HGOT.out
end Go.Proofs.YtijcobeebaceoaaGreatDoor.Lx
