import Derived.Test.YtijcobeebaceoaaGreatDoorBac
import Derived.Tactics
set_option linter.unusedVariables false
set_option linter.unusedSimpArgs false
set_option linter.unusedSectionVars false
namespace Go.Proofs.YtijcobeebaceoaaGreatDoor
open Go.RowKit
def dW:AV→Option AV
 |.tup [.tup [],v]=>some v
 |_=>none
theorem iI{v x:AV}(h:dW v=some x):v=.tup [.tup [],x]:=by
 unfold dW at h;split at h
 ·cases h;rfl
 ·cases h
def iC(K:Kn)(v:AV)(e:Ending):Prop:=match dW v with
 |some x=>∃u,e=.panicked [{v:=u,recovered:=false }]∧VR K x u
 |none=>∃u,e=.returned u∧VR K v u
theorem iC.ret{K:Kn}{v:AV}{e:Ending}(h:iC K v e)(hn:dW v=none):∃u,e=.returned u∧VR K v u:=by
 unfold iC at h;rw[hn] at h;exact h
theorem iC.pan{K:Kn}{v x:AV}{e:Ending}(h:iC K v e)(hn:dW v=some x):∃u,e=.panicked [{v:=u,recovered:=false }]∧VR K x u:=by
 unfold iC at h;rw[hn] at h;exact h
theorem iC.of{K:Kn}{v:AV}{u:Value}(hn:dW v=none)(h:VR K v u):iC K v (.returned u):=by
 unfold iC;rw[hn];exact⟨u,rfl,h⟩
theorem iC.ofPan{K:Kn}{x:AV}{u:Value}(h:VR K x u):iC K (.tup [.tup [],x]) (.panicked [{v:=u,recovered:=false }]):=⟨u,rfl,h⟩
theorem iC.map{K K':Kn}{v v':AV}{e:Ending}(h:iC K v e)(h1:∀x,dW v=some x→∃x',dW v'=some x'∧∀u,VR K x u→VR K' x' u)(h2:dW v=none→dW v'=none∧∀u,VR K v u→VR K' v' u):iC K' v' e:=by
 cases hv:dW v with
 |none=>
  obtain⟨u,rfl,hu⟩:=h.ret hv;exact .of (h2 hv).1 ((h2 hv).2 u hu)
 |some x=>
  obtain⟨u,rfl,hu⟩:=h.pan hv;obtain⟨x',hx',hh⟩:=h1 x hv;rw[iI hx'];exact .ofPan (hh u hu)
theorem acC{f:Nat→Option Nat}{v v':AV}(h:ren f v=some v'):(∀x,dW v=some x→∃x',dW v'=some x'∧ren f x=some x')∧(dW v=none→dW v'=none):=by
 refine⟨fun x hx=>?_,fun hn=>?_⟩
 ·rw[iI hx,ren] at h
  obtain⟨l,hl,e⟩:=aG h;subst e;rw[nR,nR,nR,ren,nR] at hl;simp only[Option.map_some] at hl;cases hx':ren f x with
  |none=>rw[hx'] at hl;cases hl
  |some x'=>rw[hx'] at hl;cases hl;exact⟨x',rfl,rfl⟩
 ·cases hp:dW v' with
  |none=>rfl
  |some y=>
   rw[iI hp] at h;exfalso;cases v with
   |tup l=>
    rw[ren] at h;obtain⟨l',hl,e⟩:=aG h;cases e;have h1:=jQ hl
    match l,h1,hl,hn with
    |[a,b],_,hl,hn=>
     have ha:=qM hl 0 (by simp) (by simp);simp only[List.getElem_cons_zero] at ha;cases a with
     |tup m=>
      rw[ren] at ha;obtain⟨m',hm,e⟩:=aG ha;cases e;have h2:=jQ hm;cases m with
      |nil=>cases hn
      |cons _ _=>simp at h2
     |pv _=>cases ha
     |cptr _=>cases ha
     |trows _ _=>rw[ren] at ha;obtain⟨_,_,e⟩:=aG ha;cases e
     |tsym _ _=>rw[ren] at ha;obtain⟨_,_,e⟩:=aG ha;cases e
     |ptr _ _=>rw[ren] at ha;obtain⟨_,_,e⟩:=aG ha;cases e
     |agg _=>rw[ren] at ha;obtain⟨_,_,e⟩:=aG ha;cases e
     |fn _ _=>rw[ren] at ha;obtain⟨_,_,e⟩:=aG ha;cases e
     |sl _ _ _ _=>rw[ren] at ha;obtain⟨_,_,e⟩:=aG ha;cases e
     |ifc _ _=>rw[ren] at ha;obtain⟨_,_,e⟩:=aG ha;cases e
     |arr _=>rw[ren] at ha;obtain⟨_,_,e⟩:=aG ha;cases e
     |aptr _ _ _=>rw[ren] at ha;obtain⟨_,_,e⟩:=aG ha;cases e
   |pv _=>cases h
   |cptr _=>cases h
   |trows _ _=>rw[ren] at h;obtain⟨_,_,e⟩:=aG h;cases e
   |tsym _ _=>rw[ren] at h;obtain⟨_,_,e⟩:=aG h;cases e
   |ptr _ _=>rw[ren] at h;obtain⟨_,_,e⟩:=aG h;cases e
   |agg _=>rw[ren] at h;obtain⟨_,_,e⟩:=aG h;cases e
   |fn _ _=>rw[ren] at h;obtain⟨_,_,e⟩:=aG h;cases e
   |sl _ _ _ _=>rw[ren] at h;obtain⟨_,_,e⟩:=aG h;cases e
   |ifc _ _=>rw[ren] at h;obtain⟨_,_,e⟩:=aG h;cases e
   |arr _=>rw[ren] at h;obtain⟨_,_,e⟩:=aG h;cases e
   |aptr _ _ _=>rw[ren] at h;obtain⟨_,_,e⟩:=aG h;cases e
theorem iC.ren{f:Nat→Option Nat}{K K':Kn}(R:Ren f K K'){v v':AV}{e:Ending}(h:iC K v e)(hr:ren f v=some v'):iC K' v' e:=by
 obtain⟨h1,h2⟩:=acC hr;refine h.map (fun x hx=>?_) (fun hn=>⟨h2 hn,fun u hu=>qj R hu hr⟩);obtain⟨x',hx',hr'⟩:=h1 x hx;exact⟨x',hx',fun u hu=>qj R hu hr'⟩
def fH(R:Nat→PV)(P:Program)(f:Nat)(args:List AV)(h:List af)(v:AV)(h':List af):Prop:=
 ∀(K:Kn) (w:World) (us:List Value),K.R=R→WR K h w→VL K args us→Calls P f us.toArray w fun e w'=>∃K',iC K' v e∧Step K h w K' h' w'
def dJ(R:Nat→PV)(P:Program)(call:Nat→List AV→List af→Option (AV×List af)):Prop:=∀f args h v h',call f args h=some (v,h')→fH R P f args h v h'
def callable(P:Program)(f:Nat):Bool:=match P.funcs[f]? with
 |some fn => fn.body.isSome && !(fn.name == "runtime.NumGoroutine")
 |none=>false
def callee(ρ:Operand→Option AV):Op→Option (Nat×List AV)
 |.call ⟨.value f,args,_⟩=>match ρ f,lH ρ args.toList with
  |some (.fn g caps),some vs=>match Nat.blt g EH with
   |true=>some (g,vs++caps)
   |false=>some (g-EH,caps++vs)
  |_,_=>none
 |_=>none
mutual
def refs:AV→List Nat
 |.pv _=>[]
 |.trows t _=>[t]
 |.tsym t _=>[t]
 |.ptr i _=>[i]
 |.cptr _=>[]
 |.agg l=>nT l
 |.tup l=>nT l
 |.fn _ l=>nT l
 |.sl t _ _ _=>[t]
 |.ifc _ v=>refs v
 |.arr t=>[t]
 |.aptr t _ _=>[t]
def nT:List AV→List Nat
 |[]=>[]
 |a::l=>refs a++nT l
end
def Cv:af→List Nat
 |.box _ cells=>nT cells
 |_=>[]
def reach(h:List af):Nat→List Nat→List Nat→List Nat
 |0,_,done=>done
 |_+1,[],done=>done
 |n+1,i::todo,done=>if done.elem i then reach h n todo done else match h[i]? with
  |some x=>reach h n (Cv x++todo) (done++[i])
  |none=>done
def Mt(call:Nat→List AV→List af→Option (AV×List af))(f:Nat)(args:List AV)(h:List af)(ids:List Nat):Option (AV×List af×List Nat):=
 if nodupB ids then match u7 h ids,nR (fun i=>posOf i ids) args with
  |some hs,some args'=>match call f args' hs with
   |some (v,hs')=>match ren (vH ids h.length) v,zu h ids hs' with
    |some v',some h'=>some (v',h',ids)
    |_,_=>none
   |none=>none
  |_,_=>none
 else none
def JA(call:Nat→List AV→List af→Option (AV×List af))(f:Nat)(args:List AV)(h:List af):Option (AV×List af×List Nat):=
 match nT args with
 |[]=>match call f args [] with
  |some (v,hs')=>match ren (vH [] h.length) v,zu h [] hs' with
   |some v',some h'=>some (v',h',[])
   |_,_=>none
  |none=>none
 |r=>Mt call f args h (reach h 1000 r [])
theorem Aq{call:Nat→List AV→List af→Option (AV×List af)}{f:Nat}{args:List AV}{h:List af}{v:AV}{h':List af}{ids:List Nat}(hd:JA call f args h=some (v,h',ids))
  (hrefs:nT args=[]→nR (fun i=>posOf i []) args=some args) :
  ∃hs args' v0 hs',nodupB ids=true∧u7 h ids=some hs∧nR (fun i=>posOf i ids) args=some args'∧call f args' hs=some (v0,hs')∧ren (vH ids h.length) v0=some v∧zu h ids hs'=some h':=by
 unfold JA at hd;split at hd
 ·rename_i hr
  split at hd
  ·rename_i v0 hs' hc
   split at hd
   ·rename_i v' h'' hv hm
    cases hd;exact⟨[],args,v0,hs',rfl,rfl,hrefs hr,hc,hv,hm⟩
   ·cases hd
  ·cases hd
 ·unfold Mt at hd
  split at hd
  ·rename_i hn
   split at hd
   ·rename_i hs args' hs1 hr1
    split at hd
    ·rename_i v0 hs' hc
     split at hd
     ·rename_i v' h'' hv hm
      cases hd;exact⟨hs,args',v0,hs',hn,hs1,hr1,hc,hv,hm⟩
     ·cases hd
    ·cases hd
   ·cases hd
  ·cases hd
mutual
theorem xG(f:Nat→Option Nat):∀a:AV,refs a=[]→ren f a=some a
 |.pv p,_=>rfl
 |.trows t es,h=>by simp[refs] at h
 |.tsym t i,h=>by simp[refs] at h
 |.ptr i o,h=>by simp[refs] at h
 |.cptr cs,_=>rfl
 |.agg l,h=>by rw[refs] at h;rw[ren,lT f l h];rfl
 |.tup l,h=>by rw[refs] at h;rw[ren,lT f l h];rfl
 |.fn g l,h=>by rw[refs] at h;rw[ren,lT f l h];rfl
 |.sl t a b c,h=>by simp[refs] at h
 |.ifc t v,h=>by rw[refs] at h;rw[ren,xG f v h];rfl
 |.arr t,h=>by simp[refs] at h
 |.aptr t _ _,h=>by simp[refs] at h
theorem lT(f:Nat→Option Nat):∀l:List AV,nT l=[]→nR f l=some l
 |[],_=>rfl
 |a::l,h=>by
  rw[nT,List.append_eq_nil_iff] at h;rw[nR,xG f a h.1,lT f l h.2]
end
def FQ(ρ:Operand→Option AV)(x:Operand):Option (AV×Option Nat):=match ρ x with
 |some v=>some (v,none)
 |none=>none
def akn(ρ:Operand→Option AV)(c a b:Operand):Option (AV×Option Nat):=match ρ c with
 |some (.pv (.lit (.bool t)))=>(if t then ρ a else ρ b).map fun v=>(v,none)
 |_=>none
def ao5(ρ:Operand→Option AV)(x:Operand):Option (AV×Option Nat):=match ρ x with
 |some v=>if v.isThere then some (v,none) else none
 |none=>none
def ako(P:Program)(ρ:Operand→Option AV)(h:List af)(t:TypeId)(x:Operand):Option (AV×Option Nat):=match ρ x with
 |some a=>match yB h a with
  |some (l,d)=>(F5 P t l).map fun v=>(v,d)
  |none=>none
 |none=>none
def qFA(P:Program)(ρ:Operand→Option AV)(s:TypeId)(x:Operand)(f:Nat):Option (AV×Option Nat):=match ρ x,wP P s f with
 |some a,some fl=>match mO P fl.type with
  |some (_+1)=>(abA a fl.offset).map fun v=>(v,none)
  |_=>none
 |_,_=>none
def ahv(P:Program)(ρ:Operand→Option AV)(s:TypeId)(x:Operand)(f:Nat):Option (AV×Option Nat):=match ρ x,wP P s f with
 |some (.agg l),some fl=>(Ld P fl.type l fl.offset).map fun v=>(v,none)
 |_,_=>none
def qIA(P:Program)(ρ:Operand→Option AV)(t:TypeId)(x i:Operand):Option (AV×Option Nat):=match ρ x,ρ i with
 |some a,some v=>match su v with
  |some n=>(lm P t a n).map fun v=>(v,none)
  |none=>none
 |_,_=>none
def Xf(P:Program)(ρ:Operand→Option AV)(t:TypeId)(x i:Operand):Option (AV×Option Nat):=match ρ x,ρ i with
 |some a,some v=>(rf P t a v).map fun v=>(v,none)
 |_,_=>none
def Xg(ρ:Operand→Option AV)(x:Operand)(i:Nat):Option (AV×Option Nat):=match ρ x with
 |some (.tup l)=>l[i]?.map fun v=>(v,none)
 |_=>none
def akq(P:Program)(ρ:Operand→Option AV)(b:BinOp)(t:TypeId)(x y:Operand):Option (AV×Option Nat):=match ρ x,ρ y with
 |some u,some v=>(O7 P b t x y u v).map fun v=>(v,none)
 |_,_=>none
def qUn(P:Program)(ρ:Operand→Option AV)(u:UnOp)(x:Operand):Option (AV×Option Nat):=match ρ x with
 |some v=>match v.val? with
  |some a=>match bT P (Op.unary u a) with
   |some r=>(lK r).map fun v=>(v,none)
   |none=>none
  |none=>none
 |none=>none
def afG(P:Program)(ρ:Operand→Option AV)(s d:TypeId)(x:Operand):Option (AV×Option Nat):=match ρ x with
 |some v=>(vF P s d v).map fun v=>(v,none)
 |none=>none
def Xe(P:Program)(ρ:Operand→Option AV)(t:TypeId)(x:Operand)(lo hi mx:Option Operand):Option (AV×Option Nat):=match ρ x with
 |some a=>(lQ P t ρ a lo hi mx).map fun v=>(v,none)
 |none=>none
def qMk(ρ:Operand→Option AV)(fn:Fn)(first caps:Array Operand):Option (AV×Option Nat):=match fn with
 |.func f=>if first.isEmpty then match lH ρ caps.toList with
   |some l=>match Nat.blt f EH with
    |true=>some (.fn f l,none)
    |false=>none
   |none=>none
  else match lH ρ first.toList,lH ρ caps.toList with
   |some l,some []=>some (.fn (f+EH) l,none)
   |some _,some _=>some (.pv .any,none)
   |_,_=>none
 |_=>none
def ahA(P:Program)(ρ:Operand→Option AV)(t:TypeId)(parts:Array (Nat×Operand)):Option (AV×Option Nat):=match nU ρ parts.toList with
 |some ps=>(JG P t ps).map fun l=>(.agg l,none)
 |none=>none
def PZ(P:Program)(ty:TypeId)(ρ:Operand→Option AV)(c:Call):Option (AV×Option Nat):=match c with
 |⟨.builtin b,args,ts⟩=>match lH ρ args.toList with
  |some vs=>(gU P b ts ty vs).map fun v=>(v,none)
  |none=>none
 |_=>none
def AF(P:Program)(op:Op)(ty:TypeId)(ρ:Operand→Option AV)(h:List af):Option (AV×Option Nat):=match op with
 |.move x=>FQ ρ x
 |.assign x=>FQ ρ x
 |.pick c a b=>akn ρ c a b
 |.nilCheck x=>ao5 ρ x
 |.load t x=>ako P ρ h t x
 |.fieldAddr s x f=>qFA P ρ s x f
 |.field s x f=>ahv P ρ s x f
 |.indexAddr t x i=>qIA P ρ t x i
 |.index t x i=>Xf P ρ t x i
 |.extract x i=>Xg ρ x i
 |.binOp b t x y _=>akq P ρ b t x y
 |.unOp u _ x=>qUn P ρ u x
 |.convert s d x=>afG P ρ s d x
 |.slice t x lo hi mx=>Xe P ρ t x lo hi mx
 |.makeFunc fn first caps=>qMk ρ fn first caps
 |.build t parts=>ahA P ρ t parts
 |.call c=>PZ P ty ρ c
 |_=>none
theorem PY(P:Program)(op:Op)(ty:TypeId)(ρ:Operand→Option AV)(h:List af):AF P op ty ρ h=qop P op ty ρ h:=by
 cases op with
 |move x=>show FQ ρ x=(ρ x).map _;unfold FQ;cases ρ x<;>rfl
 |assign x=>show FQ ρ x=(ρ x).map _;unfold FQ;cases ρ x<;>rfl
 |makeFunc fn first caps=>cases fn<;>rfl
 |call c=>
  obtain⟨f,args,ts⟩:=c;cases f<;>rfl
 |_=>rfl
def ark(ρ:Operand→Option AV)(h:List af)(t:TypeId)(x:Operand):Option (AV×List af×List Nat):=match ρ x with
 |some v=>some (.ptr h.length 0,h++[.box t v.cells],[])
 |none=>none
def aiV(P:Program)(h:List af)(t:TypeId):Option (AV×List af×List Nat):=match j6 P t with
 |some l=>some (.ptr h.length 0,h++[.box t l],[])
 |none=>none
def arj(P:Program)(ρ:Operand→Option AV)(h:List af)(t:TypeId)(len:Nat)(parts:Array (Nat×Operand)):Option (AV×List af×List Nat):=match nU ρ parts.toList with
 |some ps=>match O3 P t len ps with
  |some (e,s,pvs)=>some (.trows h.length (chunk s len pvs),h++[.tok e s len],[])
  |none=>none
 |none=>none
def aiT(P:Program)(ρ:Operand→Option AV)(h:List af)(t:TypeId)(x y:Operand):Option (AV×List af×List Nat):=match ρ x,ρ y with
 |some (.ptr i o),some v=>match h[i]? with
  |some (.box bt cells)=>if mO P t=some v.cells.length∧o+v.cells.length≤cells.length∧v.cells.all AV.isCell=true then some (.tup [],h.set i (.box bt (setAt cells o v.cells)),[i]) else none
  |_=>none
 |_,_=>none
def amr(P:Program)(ρ:Operand→Option AV)(h:List af)(c:Call):Option (AV×List af×List Nat):=match c with
 |⟨.builtin .append,args,ts⟩=>match lH ρ args.toList,ts.toList with
  |some [s,x],[t,t']=>if t=t' then match rowsOf x with
    |some es'=>yG P t s es' h
    |none=>if bU x then yG P t s [] h else none
   else none
  |_,_=>none
 |_=>none
def aml(P:Program)(op:Op)(ρ:Operand→Option AV)(h:List af):Option (AV×List af×List Nat):=match op with
 |.alloc t=>aiV P h t
 |.box t x=>ark ρ h t x
 |.buildSlice t len parts=>arj P ρ h t len parts
 |.store t x y=>aiT P ρ h t x y
 |.call c=>amr P ρ h c
 |_=>none
theorem ae4(P:Program)(op:Op)(ρ:Operand→Option AV)(h:List af):aml P op ρ h=eop P op ρ h:=by
 cases op with
 |call c=>
  obtain⟨f,args,ts⟩:=c;cases f with
  |builtin b=>cases b<;>rfl
  |_=>rfl
 |_=>rfl
theorem bY(R:Nat→PV):∀l,aS R l=l.map (ak R)
 |[]=>by rw[aS];rfl
 |p::l=>by rw[aS,bY R l];rfl
theorem eT(R:Nat→PV):∀es,bO R es=es.map (aS R)
 |[]=>by rw[bO];rfl
 |l::es=>by rw[bO,eT R es];rfl
mutual
def ah(R:Nat→PV):AV→AV
 |.pv p=>.pv (ak R p)
 |.trows t es=>.trows t (bO R es)
 |.tsym t i=>match R i with
  |.rows es=>.trows t es
  |_=>.tsym t i
 |.ptr i o=>.ptr i o
 |.cptr cs=>.cptr (aS R cs)
 |.agg l=>.agg (aN R l)
 |.tup l=>.tup (aN R l)
 |.fn f l=>.fn f (aN R l)
 |.sl t lo len sz=>.sl t lo len sz
 |.ifc t v=>.ifc t (ah R v)
 |.arr t=>.arr t
 |.aptr t i o=>.aptr t (ak R i) o
def aN(R:Nat→PV):List AV→List AV
 |[]=>[]
 |a::l=>ah R a::aN R l
end
theorem dD(R:Nat→PV):∀l,aN R l=l.map (ah R)
 |[]=>by rw[aN];rfl
 |p::l=>by rw[aN,dD R l];rfl
theorem PR.opened{R:Nat→PV}{M:Nat→Nat→Option Value}{p:PV}{v:Value}(h:PR R M p v):PR R M (ak R p) v:=by
 induction h with
 |sym i v h _=>rw[ak];exact h
 |lit v h=>rw[ak];exact .lit v h
 |rows es a cap g off sz us ha hn hsz hc hr ih=>
  rw[ak,eT];have:=PR.rows (R:=R) (M:=M) (es.map (aS R)) a cap g off sz us (fun hne=>ha (fun e=>hne (by rw[e];rfl))) (by simpa using hn)
   (fun i hi=>by simp only[List.getElem_map,bY,List.length_map];exact hsz i (by simpa using hi)) (fun i hi j hj=>hc i (by simpa using hi) j hj)
   (fun i hi j hj=>by
    simp only[List.getElem_map,bY];exact ih i (by simpa using hi) j (by simpa[bY] using hj))
  rwa [List.length_map] at this
 |opq ne lo hi s hne hlo hhi=>rw[ak];exact .opq ne lo hi s hne hlo hhi
 |rng lo hi n hlo hhi=>rw[ak];exact .rng lo hi n hlo hhi
 |any v h=>rw[ak];exact .any v h
mutual
theorem PR.closed{R:Nat→PV}{M:Nat→Nat→Option Value}:∀{p:PV} {v:Value},PR R M (ak R p) v→PR R M p v
 |.sym i,v,h=>by rw[ak] at h;exact .sym i v h
 |.lit u,v,h=>by rw[ak] at h;exact h
 |.opq ne lo hi,v,h=>by rw[ak] at h;exact h
 |.rng lo hi,v,h=>by rw[ak] at h;exact h
 |.any,v,h=>by rw[ak] at h;exact h
 |.rows es,v,h=>by
  rw[ak,eT] at h;have hm:=PR.closedss (R:=R) (M:=M) es;cases h with
  |rows _ a cap g off sz us ha hn hsz hc hr=>
   simp only[List.length_map] at hn hsz hc hr ⊢;refine .rows es a cap g off sz us (fun hne=>ha (fun e=>hne (List.map_eq_nil_iff.1 e))) hn (fun i hi=>?_) hc (fun i hi j hj=>?_)
   ·have:=hsz i hi;simpa[bY] using this
   ·have:=hr i hi j (by simpa[bY] using hj)
    simp only[List.getElem_map,bY] at this;exact hm _ (List.getElem_mem hi) _ (List.getElem_mem hj) _ this
theorem PR.closeds{R:Nat→PV}{M:Nat→Nat→Option Value}:∀(l:List PV),∀p∈l,∀v,PR R M (ak R p) v→PR R M p v
 |[],p,hp,_,_=>by cases hp
 |q::l,p,hp,v,h=>by
  have h1:=@PR.closed R M q;have h2:=PR.closeds (R:=R) (M:=M) l;rcases List.mem_cons.1 hp with rfl|hp
  ·exact h1 h
  ·exact h2 p hp v h
theorem PR.closedss{R:Nat→PV}{M:Nat→Nat→Option Value}:∀(es:List (List PV)),∀l∈es,∀p∈l,∀v,PR R M (ak R p) v→PR R M p v
 |[],l,hl,_,_,_,_=>by cases hl
 |q::es,l,hl,p,hp,v,h=>by
  have h1:=PR.closeds (R:=R) (M:=M) q;have h2:=PR.closedss (R:=R) (M:=M) es;rcases List.mem_cons.1 hl with rfl|hl
  ·exact h1 p hp v h
  ·exact h2 l hl p hp v h
end
theorem Ah(R:Nat→PV)(es:List (List PV)):(bO R es).length=es.length:=by rw[eT,List.length_map]
theorem RL.opened{R:Nat→PV}{q:PV}{n:Nat}(h:RL R q n):RL R (ak R q) n:=by
 cases h with
 |rows es=>rw[ak,←Ah R es];exact .rows _
 |sym i n h=>rw[ak];exact h
theorem RL.closed{R:Nat→PV}{q:PV}{n:Nat}(h:RL R (ak R q) n):RL R q n:=by
 cases q with
 |sym i=>rw[ak] at h;exact .sym i n h
 |rows es=>
  rw[ak] at h;cases h with
  |rows _=>rw[Ah];exact .rows es
 |lit v=>rw[ak] at h;cases h
 |opq a b c=>rw[ak] at h;cases h
 |rng a b=>rw[ak] at h;cases h
 |any=>rw[ak] at h;cases h
theorem VR.opened{R:Nat→PV}{K:Kn}(hR:K.R=R){a:AV}{v:Value}(h:VR K a v):VR K (ah R a) v:=by
 subst hR
 induction h with
 |pv h=>rw[ah];exact .pv h.opened
 |tsym t i es hi h _=>
  rw[ah,hi];exact h
 |cptr cs g o us hc hr=>
  rw[ah,bY];exact .cptr _ g o us (by simpa using hc) (fun j hj=>by simpa using(hr j (by simpa using hj)).opened)
 |trows t es g us hm hn hsz hc hr=>
  rw[ah,eT];have:=VR.trows (K:=K) t (es.map (aS K.R)) g us hm (by simpa using hn)
   (fun i hi=>by simp only[List.getElem_map,bY,List.length_map];exact hsz i (by simpa using hi)) (fun i hi j hj=>hc i (by simpa using hi) j hj)
   (fun i hi j hj=>by
    simp only[List.getElem_map,bY];exact(hr i (by simpa using hi) j (by simpa[bY] using hj)).opened)
  rwa [List.length_map] at this
 |ptr i o g hm=>rw[ah];exact .ptr i o g hm
 |agg l cs hl _ ih=>rw[ah,dD];exact .agg _ cs (by simpa using hl) (fun i hi hi'=>by simpa using ih i (by simpa using hi) hi')
 |tup l cs hl _ ih=>rw[ah,dD];exact .tup _ cs (by simpa using hl) (fun i hi hi'=>by simpa using ih i (by simpa using hi) hi')
 |fn f l cs hl _ hb ih=>rw[ah,dD];exact .fn f _ cs (by simpa using hl) (fun i hi hi'=>by simpa using ih i (by simpa using hi) hi') hb
 |bfn f g l cs hl _ hg ih=>rw[ah,dD];exact .bfn f g _ cs (by simpa using hl) (fun i hi hi'=>by simpa using ih i (by simpa using hi) hi') hg
 |sl t lo len sz g cap off a b c d f=>rw[ah];exact .sl t lo len sz g cap off a b c d f
 |ifc t _ ih=>rw[ah];exact .ifc t ih
 |arr t g c a b d=>rw[ah];exact .arr t g c a b d
 |aptr t i o g k kd a b c=>rw[ah];exact .aptr t _ o g k kd a b.opened c
theorem VR.trowsClosed{K:Kn}{t:Nat}{es:List (List PV)}{v:Value}(h:VR K (.trows t (bO K.R es)) v):VR K (.trows t es) v:=by
 rw[eT] at h;cases h with
 |trows _ _ g us hm hn hsz hc hr=>
  simp only[List.length_map] at hn hsz hc hr ⊢;refine .trows t es g us hm hn (fun i hi=>?_) hc (fun i hi j hj=>?_)
  ·have:=hsz i hi;simpa[bY] using this
  ·have:=hr i hi j (by simpa[bY] using hj)
   simp only[List.getElem_map,bY] at this;exact this.closed
mutual
theorem VR.closedK{K:Kn}:∀{a:AV} {v:Value},VR K (ah K.R a) v→VR K a v
 |.pv p,v,h=>by rw[ah] at h;cases h with|pv h=>exact .pv h.closed
 |.tsym t i,v,h=>by
  rw[ah] at h;split at h
  ·rename_i es hi;exact .tsym t i es hi h
  ·exact h
 |.trows t es,v,h=>by rw[ah] at h;exact h.trowsClosed
 |.ptr i o,v,h=>by rw[ah] at h;exact h
 |.cptr cs,v,h=>by
  rw[ah,bY] at h;cases h with|cptr _ g o us hc hr=>exact .cptr cs g o us (by simpa using hc) (fun j hj=>by have:=hr j (by simpa using hj);simp only[List.getElem_map] at this;exact this.closed)
 |.agg l,v,h=>by
  rw[ah,dD] at h;have hm:=VR.closedKs (K:=K) l;cases h with|agg _ cs hl hh=>exact .agg l cs (by simpa using hl) (fun i hi hi'=>hm _ (List.getElem_mem hi) _ (by have:=hh i (by simpa using hi) hi';rw[List.getElem_map] at this;exact this))
 |.tup l,v,h=>by
  rw[ah,dD] at h;have hm:=VR.closedKs (K:=K) l;cases h with|tup _ cs hl hh=>exact .tup l cs (by simpa using hl) (fun i hi hi'=>hm _ (List.getElem_mem hi) _ (by have:=hh i (by simpa using hi) hi';rw[List.getElem_map] at this;exact this))
 |.fn f l,v,h=>by
  rw[ah,dD] at h;have hm:=VR.closedKs (K:=K) l;cases h with
  |fn _ _ cs hl hh hb=>exact .fn f l cs (by simpa using hl) (fun i hi hi'=>hm _ (List.getElem_mem hi) _ (by have:=hh i (by simpa using hi) hi';rw[List.getElem_map] at this;exact this)) hb
  |bfn f' _ _ cs hl hh hg=>exact .bfn f' f l cs (by simpa using hl) (fun i hi hi'=>hm _ (List.getElem_mem hi) _ (by have:=hh i (by simpa using hi) hi';rw[List.getElem_map] at this;exact this)) hg
 |.sl t lo len sz,v,h=>by rw[ah] at h;exact h
 |.ifc t x,v,h=>by rw[ah] at h;cases h with|ifc _ h=>exact .ifc t (VR.closedK h)
 |.arr t,v,h=>by rw[ah] at h;exact h
 |.aptr t i o,v,h=>by rw[ah] at h;cases h with|aptr _ _ _ g k kd a b c=>exact .aptr t i o g k kd a b.closed c
theorem VR.closedKs{K:Kn}:∀(l:List AV),∀a∈l,∀v,VR K (ah K.R a) v→VR K a v
 |[],a,ha,_,_=>by cases ha
 |b::l,a,ha,v,h=>by
  have h1:=@VR.closedK K b;have h2:=VR.closedKs (K:=K) l;rcases List.mem_cons.1 ha with rfl|ha
  ·exact h1 h
  ·exact h2 a ha v h
end
theorem VR.closed{R:Nat→PV}{K:Kn}(hR:K.R=R){a:AV}{v:Value}(h:VR K (ah R a) v):VR K a v:=by
 subst hR;exact h.closedK
inductive SF where
 |bin (b:BinOp) (t:TypeId) (u v r:AV)
 |len (t:TypeId) (u r:AV)
 |idx (t:TypeId) (u i r:AV)
 |ind (t:TypeId) (u i r:AV)
 |slc (t:TypeId) (u:AV) (lo hi:Option AV) (r:AV)
 |conv (s d:TypeId) (u r:AV)
 |un (o:UnOp) (u r:AV)
 |app (t:TypeId) (s x:AV) (j:Nat)
 |app0 (t:TypeId) (s x:AV)
 |names
 |mx (mn:Bool) (u v r:AV)
 |set (p i:PV) (o:Nat) (c:List PV) (j:Nat)
 |mk (t:TypeId) (n:AV) (j:Nat)
 |apq (t:TypeId) (s x:AV) (j:Nat)
def eqV:Value→Value→Bool
 |.int k n,.int k' n'=>decide (k=k')&&decide (n=n')
 |.bool a,.bool b=>a==b
 |.string x,.string y=>Mi x y
 |.slice none 0 0,.slice none 0 0=>true
 |_,_=>false
mutual
def J9:PV→PV→Bool
 |.sym i,.sym j=>Nat.beq i j
 |.lit v,.lit v'=>eqV v v'
 |.rows es,.rows es'=>Er es es'
 |_,_=>false
def Ju:List PV→List PV→Bool
 |[],[]=>true
 |p::l,q::r=>J9 p q&&Ju l r
 |_,_=>false
def Er:List (List PV)→List (List PV)→Bool
 |[],[]=>true
 |p::l,q::r=>Ju p q&&Er l r
 |_,_=>false
end
def zG:AV→AV→Bool
 |.pv p,.pv q=>J9 p q
 |.cptr cs,.cptr cs'=>Ju cs cs'
 |_,_=>false
theorem yo{x y:ByteArray}(h:Mi x y=true):x=y:=by
 have:=(yw _ _).1 h;cases x;cases y;congr 1;exact Array.ext' this
theorem aaN{a b:Value}(h:eqV a b=true):a=b:=by
 unfold eqV at h;split at h
 ·simp only[Bool.and_eq_true,decide_eq_true_eq] at h;obtain⟨rfl,rfl⟩:=h;rfl
 ·rw[eq_of_beq h]
 ·rw[yo h]
 ·rfl
 ·cases h
mutual
theorem tT:∀{a b:PV},J9 a b=true→a=b
 |.sym i,b,h=>by cases b with|sym j=>rw[J9] at h;rw[Nat.eq_of_beq_eq_true h]|_=>simp[J9] at h
 |.lit v,b,h=>by cases b with|lit v'=>rw[J9] at h;rw[aaN h]|_=>simp[J9] at h
 |.rows es,b,h=>by cases b with|rows es'=>rw[J9] at h;rw[Ep h]|_=>simp[J9] at h
 |.opq ..,b,h=>by cases b<;>simp[J9] at h
 |.rng ..,b,h=>by cases b<;>simp[J9] at h
 |.any,b,h=>by cases b<;>simp[J9] at h
theorem yu:∀{a b:List PV},Ju a b=true→a=b
 |[],[],_=>rfl
 |p::l,q::r,h=>by
  rw[Ju,Bool.and_eq_true] at h;rw[tT h.1,yu h.2]
 |[],_::_,h=>by simp[Ju] at h
 |_::_,[],h=>by simp[Ju] at h
theorem Ep:∀{a b:List (List PV)},Er a b=true→a=b
 |[],[],_=>rfl
 |p::l,q::r,h=>by
  rw[Er,Bool.and_eq_true] at h;rw[yu h.1,Ep h.2]
 |[],_::_,h=>by simp[Er] at h
 |_::_,[],h=>by simp[Er] at h
end
theorem fO{a b:AV}(h:zG a b=true):a=b:=by
 unfold zG at h;split at h
 ·rw[tT h]
 ·rw[yu h]
 ·cases h
def nrm(a:AV):AV:=match a.toPV with
 |some p=>.pv p
 |none=>a
theorem VR.nrm{K:Kn}{a:AV}{v:Value}(h:VR K a v):VR K (nrm a) v:=by
 unfold YtijcobeebaceoaaGreatDoor.nrm;split
 ·rename_i p hp;exact .pv (h.toPV hp)
 ·exact h
def eqO:Option AV→Option AV→Bool
 |none,none=>true
 |some a,some b=>zG a b
 |_,_=>false
theorem aaP{a b:Option AV}(h:eqO a b=true):a=b:=by
 unfold eqO at h;split at h
 ·rfl
 ·rw[fO h]
 ·cases h
def rT(ρ:Operand→Option AV):Option Operand→Option AV→Prop
 |none,none=>True
 |some x,some a=>ρ x=some a
 |_,_=>False
def gK(a:AV):Option (List (List PV)):=if bU a then some [] else rowsOf a
def abE(p i:PV)(o:Nat)(c:List PV)(q:PV):Prop:=∃es n kd,p=.rows es∧i=.lit (.int kd n)∧0≤n∧n.toNat<es.length∧o+c.length≤(es.getD n.toNat []).length∧q=.rows (es.set n.toNat (setAt (es.getD n.toNat []) o c))∧EW q=true
def aje(P:Program)(t:TypeId)(n:AV)(q:PV):Prop:=∃e sz by_ zc z k,P.underlying t=some (.slice e)∧mO P e=some sz∧iT P e=some by_∧j6 P e=some zc∧zY zc=some z∧0<sz∧zc.length=sz∧
 su n=some ((k:Nat):Int)∧k≤1000000000000∧k*by_≤140737488355328∧q=.rows (List.replicate k z)∧EW q=true
def ajh(P:Program)(t:TypeId)(s x:AV)(q:PV):Prop:=∃e sz by_ zc es es',P.underlying t=some (.slice e)∧mO P e=some sz∧iT P e=some by_∧j6 P e=some zc∧0<sz∧zc.length=sz∧
   gK s=some es∧rowsOf x=some es'∧es'≠[]∧(∀c∈es',c.length=sz)∧es.length+es'.length≤1000000000000∧(es.length+es'.length)*by_≤140737488355328∧q=.rows (es++es')
def SF.ok(R:Nat→PV)(P:Program):SF→Prop
 |.bin b t u v r=>∀x y,O7 P b t x y (ah R u) (ah R v)=some (ah R r)
 |.len t u r=>∀ty,gU P .len #[t] ty [ah R u]=some (ah R r)
 |.idx t u i r=>∃n,su (ah R i)=some n∧lm P t (ah R u) n=some (ah R r)
 |.ind t u i r=>rf P t (ah R u) (ah R i)=some (ah R r)
 |.slc t u lo hi r=>∀(ρ:Operand→Option AV) (l m:Option Operand),rT ρ l (lo.map (ah R))→rT ρ m (hi.map (ah R))→lQ P t ρ (ah R u) l m none=some (ah R r)
 |.conv s d u r=>vF P s d (ah R u)=some (ah R r)
 |.un o u r=>∃a c,(ah R u).val? = some a∧bT P (Op.unary o a)=some c∧lK c=some (ah R r)
 |.app t s x j=>∃e sz by_ zc es es',P.underlying t=some (.slice e)∧mO P e=some sz∧iT P e=some by_∧j6 P e=some zc∧0<sz∧zc.length=sz∧
   gK (ah R s)=some es∧rowsOf (ah R x)=some es'∧es'≠[]∧(∀c∈es',c.length=sz)∧es.length+es'.length≤1000000000000∧(es.length+es'.length)*by_≤140737488355328∧R j=.rows (es++es')
 |.app0 t s x=>∃e sz by_ zc,P.underlying t=some (.slice e)∧mO P e=some sz∧iT P e=some by_∧j6 P e=some zc∧(gK (ah R s)).isSome=true∧gK (ah R x)=some []
 |.names=>True
 |.set p i o c j=>abE (ak R p) (ak R i) o (aS R c) (R j)
 |.mk t n j=>aje P t (ah R n) (R j)
 |.apq t s x j=>ajh P t (ah R s) (ah R x) (R j)∧EW (R j)=true
 |.mx mn u v r=>∀ts ty,gU P (if mn then .min else .max) ts ty [ah R u,ah R v]=some (ah R r)
def cK(R:Nat→PV)(P:Program)(tab:List SF):Prop:=∀f∈tab,f.ok R P
theorem cK.nil(R:Nat→PV)(P:Program):cK R P []:=fun f hf=>by cases hf
def LF(b:BinOp)(t:TypeId)(u:AV)(v:AV):List SF→Option AV
 |[]=>none
 |.bin b' t' u' v' r::l=>if decide (b=b')&&decide (t=t')&&zG u u'&&zG v v' then some r else LF b t u v l
 |_::l=>LF b t u v l
theorem Dx{R:Nat→PV}{P:Program}{b:BinOp}{t:TypeId}{u:AV}{v:AV}{r:AV}:∀{tab:List SF},cK R P tab→LF b t u v tab=some r→(SF.bin b t u v r).ok R P
 |[],_,h=>by cases h
 |f::l,ht,h=>by
  unfold LF at h;split at h
  ·cases h
  ·rename_i heq
   cases heq;split at h
   ·rename_i hc
    cases h;simp only[Bool.and_eq_true] at hc;obtain⟨⟨⟨e0,e1⟩,e2⟩,e3⟩:=hc;have e0:=of_decide_eq_true e0;have e1:=of_decide_eq_true e1;have e2:=fO e2;have e3:=fO e3;subst e0;subst e1;subst e2;subst e3;exact ht _ (List.mem_cons_self ..)
   ·exact Dx (fun g hg=>ht g (List.mem_cons_of_mem _ hg)) h
  ·rename_i heq
   cases heq;exact Dx (fun g hg=>ht g (List.mem_cons_of_mem _ hg)) h
def F7(t:TypeId)(u:AV):List SF→Option AV
 |[]=>none
 |.len t' u' r::l=>if decide (t=t')&&zG u u' then some r else F7 t u l
 |_::l=>F7 t u l
theorem xS{R:Nat→PV}{P:Program}{t:TypeId}{u:AV}{r:AV}:∀{tab:List SF},cK R P tab→F7 t u tab=some r→(SF.len t u r).ok R P
 |[],_,h=>by cases h
 |f::l,ht,h=>by
  unfold F7 at h;split at h
  ·cases h
  ·rename_i heq
   cases heq;split at h
   ·rename_i hc
    cases h;simp only[Bool.and_eq_true] at hc;obtain⟨e0,e1⟩:=hc;have e0:=of_decide_eq_true e0;have e1:=fO e1;subst e0;subst e1;exact ht _ (List.mem_cons_self ..)
   ·exact xS (fun g hg=>ht g (List.mem_cons_of_mem _ hg)) h
  ·rename_i heq
   cases heq;exact xS (fun g hg=>ht g (List.mem_cons_of_mem _ hg)) h
def Y4(mn:Bool)(u v:AV):List SF→Option AV
 |[]=>none
 |.mx mn' u' v' r::l=>if decide (mn=mn')&&zG u u'&&zG v v' then some r else Y4 mn u v l
 |_::l=>Y4 mn u v l
theorem Bo{R:Nat→PV}{P:Program}{mn:Bool}{u v:AV}{r:AV}:∀{tab:List SF},cK R P tab→Y4 mn u v tab=some r→(SF.mx mn u v r).ok R P
 |[],_,h=>by cases h
 |f::l,ht,h=>by
  unfold Y4 at h;split at h
  ·cases h
  ·rename_i heq
   cases heq;split at h
   ·rename_i hc
    cases h;simp only[Bool.and_eq_true] at hc;obtain⟨⟨e0,e1⟩,e2⟩:=hc;have e0:=of_decide_eq_true e0;have e1:=fO e1;have e2:=fO e2;subst e0;subst e1;subst e2;exact ht _ (List.mem_cons_self ..)
   ·exact Bo (fun g hg=>ht g (List.mem_cons_of_mem _ hg)) h
  ·rename_i heq
   cases heq;exact Bo (fun g hg=>ht g (List.mem_cons_of_mem _ hg)) h
def LD(t:TypeId)(u:AV)(i:AV):List SF→Option AV
 |[]=>none
 |.idx t' u' i' r::l=>if decide (t=t')&&zG u u'&&zG i i' then some r else LD t u i l
 |_::l=>LD t u i l
theorem Dv{R:Nat→PV}{P:Program}{t:TypeId}{u:AV}{i:AV}{r:AV}:∀{tab:List SF},cK R P tab→LD t u i tab=some r→(SF.idx t u i r).ok R P
 |[],_,h=>by cases h
 |f::l,ht,h=>by
  unfold LD at h;split at h
  ·cases h
  ·rename_i heq
   cases heq;split at h
   ·rename_i hc
    cases h;simp only[Bool.and_eq_true] at hc;obtain⟨⟨e0,e1⟩,e2⟩:=hc;have e0:=of_decide_eq_true e0;have e1:=fO e1;have e2:=fO e2;subst e0;subst e1;subst e2;exact ht _ (List.mem_cons_self ..)
   ·exact Dv (fun g hg=>ht g (List.mem_cons_of_mem _ hg)) h
  ·rename_i heq
   cases heq;exact Dv (fun g hg=>ht g (List.mem_cons_of_mem _ hg)) h
def LC(t:TypeId)(u:AV)(i:AV):List SF→Option AV
 |[]=>none
 |.ind t' u' i' r::l=>if decide (t=t')&&zG u u'&&zG i i' then some r else LC t u i l
 |_::l=>LC t u i l
theorem Du{R:Nat→PV}{P:Program}{t:TypeId}{u:AV}{i:AV}{r:AV}:∀{tab:List SF},cK R P tab→LC t u i tab=some r→(SF.ind t u i r).ok R P
 |[],_,h=>by cases h
 |f::l,ht,h=>by
  unfold LC at h;split at h
  ·cases h
  ·rename_i heq
   cases heq;split at h
   ·rename_i hc
    cases h;simp only[Bool.and_eq_true] at hc;obtain⟨⟨e0,e1⟩,e2⟩:=hc;have e0:=of_decide_eq_true e0;have e1:=fO e1;have e2:=fO e2;subst e0;subst e1;subst e2;exact ht _ (List.mem_cons_self ..)
   ·exact Du (fun g hg=>ht g (List.mem_cons_of_mem _ hg)) h
  ·rename_i heq
   cases heq;exact Du (fun g hg=>ht g (List.mem_cons_of_mem _ hg)) h
def Dq(t:TypeId)(u:AV)(lo:Option AV)(hi:Option AV):List SF→Option AV
 |[]=>none
 |.slc t' u' lo' hi' r::l=>if decide (t=t')&&zG u u'&&eqO lo lo'&&eqO hi hi' then some r else Dq t u lo hi l
 |_::l=>Dq t u lo hi l
theorem xR{R:Nat→PV}{P:Program}{t:TypeId}{u:AV}{lo:Option AV}{hi:Option AV}{r:AV}:∀{tab:List SF},cK R P tab→Dq t u lo hi tab=some r→(SF.slc t u lo hi r).ok R P
 |[],_,h=>by cases h
 |f::l,ht,h=>by
  unfold Dq at h;split at h
  ·cases h
  ·rename_i heq
   cases heq;split at h
   ·rename_i hc
    cases h;simp only[Bool.and_eq_true] at hc;obtain⟨⟨⟨e0,e1⟩,e2⟩,e3⟩:=hc;have e0:=of_decide_eq_true e0;have e1:=fO e1;have e2:=aaP e2;have e3:=aaP e3;subst e0;subst e1;subst e2;subst e3;exact ht _ (List.mem_cons_self ..)
   ·exact xR (fun g hg=>ht g (List.mem_cons_of_mem _ hg)) h
  ·rename_i heq
   cases heq;exact xR (fun g hg=>ht g (List.mem_cons_of_mem _ hg)) h
def Dw(s:TypeId)(d:TypeId)(u:AV):List SF→Option AV
 |[]=>none
 |.conv s' d' u' r::l=>if decide (s=s')&&decide (d=d')&&zG u u' then some r else Dw s d u l
 |_::l=>Dw s d u l
theorem zx{R:Nat→PV}{P:Program}{s:TypeId}{d:TypeId}{u:AV}{r:AV}:∀{tab:List SF},cK R P tab→Dw s d u tab=some r→(SF.conv s d u r).ok R P
 |[],_,h=>by cases h
 |f::l,ht,h=>by
  unfold Dw at h;split at h
  ·cases h
  ·rename_i heq
   cases heq;split at h
   ·rename_i hc
    cases h;simp only[Bool.and_eq_true] at hc;obtain⟨⟨e0,e1⟩,e2⟩:=hc;have e0:=of_decide_eq_true e0;have e1:=of_decide_eq_true e1;have e2:=fO e2;subst e0;subst e1;subst e2;exact ht _ (List.mem_cons_self ..)
   ·exact zx (fun g hg=>ht g (List.mem_cons_of_mem _ hg)) h
  ·rename_i heq
   cases heq;exact zx (fun g hg=>ht g (List.mem_cons_of_mem _ hg)) h
def Y3(o:UnOp)(u:AV):List SF→Option AV
 |[]=>none
 |.un o' u' r::l=>if decide (o=o')&&zG u u' then some r else Y3 o u l
 |_::l=>Y3 o u l
theorem IE{R:Nat→PV}{P:Program}{o:UnOp}{u:AV}{r:AV}:∀{tab:List SF},cK R P tab→Y3 o u tab=some r→(SF.un o u r).ok R P
 |[],_,h=>by cases h
 |f::l,ht,h=>by
  unfold Y3 at h;split at h
  ·cases h
  ·rename_i heq
   cases heq;split at h
   ·rename_i hc
    cases h;simp only[Bool.and_eq_true] at hc;obtain⟨e0,e1⟩:=hc;have e0:=of_decide_eq_true e0;have e1:=fO e1;subst e0;subst e1;exact ht _ (List.mem_cons_self ..)
   ·exact IE (fun g hg=>ht g (List.mem_cons_of_mem _ hg)) h
  ·rename_i heq
   cases heq;exact IE (fun g hg=>ht g (List.mem_cons_of_mem _ hg)) h
def akp(tab:List SF)(ρ:Operand→Option AV)(args:List Operand)(ts:List TypeId):Option AV:=match args,ts with
 |[x],[t]=>match ρ x with
  |some u=>F7 t u tab
  |none=>none
 |_,_=>none
def qMx(mn:Bool)(tab:List SF)(ρ:Operand→Option AV)(args:List Operand):Option AV:=match args with
 |[x,y]=>match ρ x,ρ y with
  |some u,some v=>Y4 mn u v tab
  |_,_=>none
 |_=>none
def ah3(ρ:Operand→Option AV):Option Operand→Option (Option AV)
 |none=>some none
 |some x=>(ρ x).map some
def akm(tab:List SF)(ρ:Operand→Option AV)(t:TypeId)(x:Operand)(lo hi mx:Option Operand):Option AV:=match mx with
 |none=>match ρ x,ah3 ρ lo,ah3 ρ hi with
  |some u,some l,some r=>Dq t u l r tab
  |_,_,_=>none
 |some _=>none
def two(ρ:Operand→Option AV)(x y:Operand)(f:AV→AV→Option AV):Option AV:=match ρ x,ρ y with
 |some u,some v=>f u v
 |_,_=>none
def ahs(tab:List SF)(op:Op)(ρ:Operand→Option AV):Option AV:=match op with
 |.binOp b t x y _=>two ρ x y fun u v=>LF b t u v tab
 |.indexAddr t x i=>two ρ x i fun u v=>LD t u v tab
 |.index t x i=>two ρ x i fun u v=>LC t u v tab
 |.unOp u _ x=>match ρ x with
  |some v=>Y3 u v tab
  |none=>none
 |.convert s d x=>match ρ x with
  |some v=>Dw s d v tab
  |none=>none
 |.slice t x lo hi mx=>akm tab ρ t x lo hi mx
 |.call ⟨.builtin .len,args,ts⟩=>akp tab ρ args.toList ts.toList
 |.call ⟨.builtin .max,args,_⟩=>qMx false tab ρ args.toList
 |.call ⟨.builtin .min,args,_⟩=>qMx true tab ρ args.toList
 |_=>none
theorem Cc{ρ:Operand→Option AV}{x y:Operand}{f:AV→AV→Option AV}{r:AV}(h:two ρ x y f=some r):∃u v,ρ x=some u∧ρ y=some v∧f u v=some r:=by
 unfold two at h;split at h
 ·rename_i u v hu hv;exact⟨u,v,hu,hv,h⟩
 ·cases h
theorem Db{R:Nat→PV}{ρ:Operand→Option AV}{x:Option Operand}{a:Option AV}(h:ah3 ρ x=some a):rT (fun x=>(ρ x).map (ah R)) x (a.map (ah R)):=by
 cases x with
 |none=>cases h;trivial
 |some x=>
  obtain⟨v,hv,e⟩:=aG h;subst e;show (ρ x).map (ah R)=some (ah R v);rw[hv];rfl
theorem Xc{R:Nat→PV}{P:Program}{tab:List SF}(ht:cK R P tab){op:Op}{ty:TypeId}{ρ:Operand→Option AV}{h:List af}{r:AV}(hq:ahs tab op ρ=some r) :
  AF P op ty (fun x=>(ρ x).map (ah R)) h=some (ah R r,none):=by
 unfold ahs at hq;split at hq
 ·obtain⟨u,v,hu,hv,hf⟩:=Cc hq
  have:=Dx ht hf;simp only[AF,akq,hu,hv,Option.map_some,this _ _]
 ·obtain⟨u,v,hu,hv,hf⟩:=Cc hq
  obtain⟨n,hn,hi⟩:=Dv ht hf;simp only[AF,qIA,hu,hv,Option.map_some,hn,hi]
 ·obtain⟨u,v,hu,hv,hf⟩:=Cc hq
  have:=Du ht hf;simp only[SF.ok] at this;simp only[AF,Xf,hu,hv,Option.map_some,this]
 ·split at hq
  ·rename_i v hv
   obtain⟨a,c,h1,h2,h3⟩:=IE ht hq;simp only[AF,qUn,hv,Option.map_some,h1,h2,h3]
  ·cases hq
 ·split at hq
  ·rename_i v hv
   have h1:=zx ht hq;simp only[SF.ok] at h1;simp only[AF,afG,hv,Option.map_some,h1]
  ·cases hq
 ·unfold akm at hq
  split at hq
  ·split at hq
   ·rename_i u l m hu hl hm
    have:=xR ht hq _ _ _ (Db hl) (Db hm);simp only[AF,Xe,hu,Option.map_some,this]
   ·cases hq
  ·cases hq
 ·rename_i args ts
  unfold akp at hq;split at hq
  ·rename_i x t ha hts
   split at hq
   ·rename_i u hu
    have:=xS ht hq ty;have e:ts = #[t]:=by apply Array.ext';rw[hts]
    subst e;simp only[AF,PZ,ha,lH,hu,Option.map_some,this]
   ·cases hq
  ·cases hq
 ·rename_i args ts
  unfold qMx at hq;split at hq
  ·rename_i x y ha
   split at hq
   ·rename_i u v hu hv
    have:=Bo ht hq ts ty;simp only[Bool.false_eq_true,if_false] at this;simp only[AF,PZ,ha,lH,hu,hv,Option.map_some,this]
   ·cases hq
  ·cases hq
 ·rename_i args ts
  unfold qMx at hq;split at hq
  ·rename_i x y ha
   split at hq
   ·rename_i u v hu hv
    have:=Bo ht hq ts ty;simp only[if_true] at this;simp only[AF,PZ,ha,lH,hu,hv,Option.map_some,this]
   ·cases hq
  ·cases hq
 ·cases hq
def Ao(t:TypeId)(s x:AV):List SF→Option (Option Nat)
 |[]=>none
 |.app t' s' x' j::l=>if decide (t=t')&&zG s s'&&zG x x' then some (some j) else Ao t s x l
 |.app0 t' s' x'::l=>if decide (t=t')&&zG s s'&&zG x x' then some none else Ao t s x l
 |_::l=>Ao t s x l
def amN(R:Nat→PV)(P:Program)(t:TypeId)(s x:AV):Option Nat→Prop
 |some j=>(SF.app t s x j).ok R P
 |none=>(SF.app0 t s x).ok R P
theorem qm{R:Nat→PV}{P:Program}{t:TypeId}{s x:AV}{r:Option Nat}:∀{tab:List SF},cK R P tab→Ao t s x tab=some r→amN R P t s x r
 |[],_,h=>by cases h
 |f::l,ht,h=>by
  unfold Ao at h;split at h
  ·cases h
  ·rename_i heq
   cases heq;split at h
   ·rename_i hc
    cases h;simp only[Bool.and_eq_true] at hc;obtain⟨⟨e0,e1⟩,e2⟩:=hc;have e0:=of_decide_eq_true e0;have e1:=fO e1;have e2:=fO e2;subst e0;subst e1;subst e2;exact ht _ (List.mem_cons_self ..)
   ·exact qm (fun g hg=>ht g (List.mem_cons_of_mem _ hg)) h
  ·rename_i heq
   cases heq;split at h
   ·rename_i hc
    cases h;simp only[Bool.and_eq_true] at hc;obtain⟨⟨e0,e1⟩,e2⟩:=hc;have e0:=of_decide_eq_true e0;have e1:=fO e1;have e2:=fO e2;subst e0;subst e1;subst e2;exact ht _ (List.mem_cons_self ..)
   ·exact qm (fun g hg=>ht g (List.mem_cons_of_mem _ hg)) h
  ·rename_i heq
   cases heq;exact qm (fun g hg=>ht g (List.mem_cons_of_mem _ hg)) h
def VT:AV→Option (Nat×Nat)
 |.tsym tk i=>some (tk,bq+i)
 |.trows tk es=>some (tk,es.length)
 |_=>none
def aja(tab:List SF)(P:Program)(t:TypeId)(s x:AV)(h:List af):Option (AV×List af×List Nat):=match Ao t (nrm s) (nrm x) tab with
 |some (some j)=>match P.underlying t with
  |some (.slice e)=>match mO P e with
   |some sz=>match VT s with
    |some (tk,lc)=>match h[tk]? with
     |some (.tok e' sz' lc')=>if e'=e∧sz'=sz∧lc'=lc then some (.tsym h.length j,h.set tk .dead++[.tok e sz (bq+j)],[tk]) else none
     |_=>none
    |none=>if bU s then some (.tsym h.length j,h++[.tok e sz (bq+j)],[]) else none
   |none=>none
  |_=>none
 |some none=>some (s,h,[])
 |none=>none
def amo(tab:List SF)(P:Program)(op:Op)(ρ:Operand→Option AV)(h:List af):Option (AV×List af×List Nat):=match op with
 |.call ⟨.builtin .append,args,ts⟩=>match lH ρ args.toList,ts.toList with
  |some [s,x],[t,t']=>if t=t' then aja tab P t s x h else none
  |_,_=>none
 |_=>none
def ae3:List AV→List AV→Bool
 |[],[]=>true
 |a::l,b::r=>zG a b&&ae3 l r
 |_,_=>false
theorem TH:∀{a b:List AV},ae3 a b=true→a=b
 |[],[],_=>rfl
 |a::l,b::r,h=>by rw[ae3,Bool.and_eq_true] at h;rw[fO h.1,TH h.2]
 |[],_::_,h=>by cases h
 |_::_,[],h=>by cases h
def eqK:AV→AV→Bool
 |.agg l,.agg l'=>ae3 l l'
 |a,b=>zG a b
theorem arf{a b:AV}(h:eqK a b=true):a=b:=by
 unfold eqK at h;split at h
 ·rw[TH h]
 ·exact fO h
theorem Ug.closed{R:Nat→PV}{P:Program}{o:Oper}{ρ:Operand→Value}{K:Kn}{w:World}{v:AV}{dep:Option Nat}(hR:K.R=R)(h:Ug P o ρ K w (ah R v) dep):Ug P o ρ K w v dep:=by
 obtain⟨u,hu,hy⟩:=h;exact⟨u,hu.closed hR,hy⟩
theorem yV{α:Type}{l vs:List α}{off:Nat}(h:off+vs.length≤l.length)(x:Nat):(setAt l off vs)[x]? = if off≤x∧x<off+vs.length then vs[x-off]? else l[x]?:=by
 unfold setAt;have ht:(l.take off).length=off:=by simp;omega
 by_cases h1:x<off
 ·rw[if_neg (by omega),List.getElem?_append_left (by simp;omega),List.getElem?_append_left (by omega),List.getElem?_take,if_pos h1]
 ·by_cases h2:x<off+vs.length
  ·rw[if_pos ⟨by omega,h2⟩,List.getElem?_append_left (by simp;omega),List.getElem?_append_right (by omega),ht]
  ·rw[if_neg (by omega),List.getElem?_append_right (by simp;omega)]
   simp only[List.length_append,ht];rw[List.getElem?_drop];congr 1;omega
theorem FM{α:Type}{l vs:List α}{off:Nat}(h:off+vs.length≤l.length):(setAt l off vs).length=l.length:=by simp[setAt];omega
def yJ(h:List af)(t:Nat):Option (TypeId×Nat×PV):=match h[t]? with
 |some (.arr ty sz p)=>some (ty,sz,p)
 |_=>none
theorem gJ{h:List af}{t:Nat}{ty:TypeId}{sz:Nat}{p:PV}(hm:yJ h t=some (ty,sz,p)):h[t]? = some (.arr ty sz p):=by
 unfold yJ at hm;split at hm
 ·rename_i hq;cases hm;exact hq
 ·cases hm
def Od(p i:PV):List SF→Option (List PV)
 |[]=>none
 |.idx _ (.pv q) (.pv j) (.cptr cs)::l=>match J9 p q&&J9 i j with
  |true=>some cs
  |false=>Od p i l
 |_::l=>Od p i l
theorem II{R:Nat→PV}{P:Program}{p i:PV}{cs:List PV}:∀{tab:List SF},cK R P tab→Od p i tab=some cs→∃t,(SF.idx t (.pv p) (.pv i) (.cptr cs)).ok R P
 |[],_,h=>by cases h
 |f::l,ht,h=>by
  unfold Od at h;split at h
  ·cases h
  ·rename_i heq
   cases heq;split at h
   ·rename_i hc
    cases h;rw[Bool.and_eq_true] at hc;have e1:=tT hc.1;have e2:=tT hc.2;subst e1;subst e2;exact⟨_,ht _ (List.mem_cons_self ..)⟩
   ·exact II (fun g hg=>ht g (List.mem_cons_of_mem _ hg)) h
  ·rename_i heq
   cases heq;exact II (fun g hg=>ht g (List.mem_cons_of_mem _ hg)) h
def F6(p i:PV)(o:Nat)(c:List PV):List SF→Option Nat
 |[]=>none
 |.set p' i' o' c' j::l=>match Nat.beq o o'&&(J9 p p'&&(J9 i i'&&Ju c c')) with
  |true=>some j
  |false=>F6 p i o c l
 |_::l=>F6 p i o c l
theorem Dr{R:Nat→PV}{P:Program}{p i:PV}{o:Nat}{c:List PV}{j:Nat}:∀{tab:List SF},cK R P tab→F6 p i o c tab=some j→(SF.set p i o c j).ok R P
 |[],_,h=>by cases h
 |f::l,ht,h=>by
  unfold F6 at h;split at h
  ·cases h
  ·rename_i heq
   cases heq;split at h
   ·rename_i hc
    cases h;simp only[Bool.and_eq_true] at hc;obtain⟨e0,e1,e2,e3⟩:=hc;have e0:=Nat.eq_of_beq_eq_true e0;have e1:=tT e1;have e2:=tT e2;have e3:=yu e3;subst e0;subst e1;subst e2;subst e3;exact ht _ (List.mem_cons_self ..)
   ·exact Dr (fun g hg=>ht g (List.mem_cons_of_mem _ hg)) h
  ·rename_i heq
   cases heq;exact Dr (fun g hg=>ht g (List.mem_cons_of_mem _ hg)) h
def U5(t:TypeId)(n:AV):List SF→Option Nat
 |[]=>none
 |.mk t' n' j::l=>match decide (t=t')&&zG n n' with
  |true=>some j
  |false=>U5 t n l
 |_::l=>U5 t n l
theorem IG{R:Nat→PV}{P:Program}{t:TypeId}{n:AV}{j:Nat}:∀{tab:List SF},cK R P tab→U5 t n tab=some j→(SF.mk t n j).ok R P
 |[],_,h=>by cases h
 |f::l,ht,h=>by
  unfold U5 at h;split at h
  ·cases h
  ·rename_i heq
   cases heq;split at h
   ·rename_i hc
    cases h;rw[Bool.and_eq_true,decide_eq_true_eq] at hc;obtain⟨rfl,e1⟩:=hc;have e1:=fO e1;subst e1;exact ht _ (List.mem_cons_self ..)
   ·exact IG (fun g hg=>ht g (List.mem_cons_of_mem _ hg)) h
  ·rename_i heq
   cases heq;exact IG (fun g hg=>ht g (List.mem_cons_of_mem _ hg)) h
def vC(t:TypeId)(s x:AV):List SF→Option Nat
 |[]=>none
 |.apq t' s' x' j::l=>match decide (t=t')&&(zG s s'&&zG x x') with
  |true=>some j
  |false=>vC t s x l
 |_::l=>vC t s x l
theorem tu{R:Nat→PV}{P:Program}{t:TypeId}{s x:AV}{j:Nat}:∀{tab:List SF},cK R P tab→vC t s x tab=some j→(SF.apq t s x j).ok R P
 |[],_,h=>by cases h
 |f::l,ht,h=>by
  unfold vC at h;split at h
  ·cases h
  ·rename_i heq
   cases heq;split at h
   ·rename_i hc
    cases h;simp only[Bool.and_eq_true,decide_eq_true_eq] at hc;obtain⟨rfl,e1,e2⟩:=hc;have e1:=fO e1;have e2:=fO e2;subst e1;subst e2;exact ht _ (List.mem_cons_self ..)
   ·exact tu (fun g hg=>ht g (List.mem_cons_of_mem _ hg)) h
  ·rename_i heq
   cases heq;exact tu (fun g hg=>ht g (List.mem_cons_of_mem _ hg)) h
def ahB(tab:List SF)(P:Program)(ρ:Operand→Option AV)(h:List af):Op→Option (AV×Option Nat)
 |.indexAddr t x i=>match ρ x,ρ i,P.underlying t with
  |some (.arr a),some iv,some (.slice e)=>match yJ h a,iv.toPV with
   |some (_,sz,p),some ip=>match Od p ip tab,mO P e with
    |some _,some s=>if s=sz then some (.aptr a ip 0,none) else none
    |_,_=>none
   |_,_=>none
  |_,_,_=>none
 |.load t x=>match ρ x with
  |some (.aptr a ip o)=>match yJ h a with
   |some (_,_,p)=>match Od p ip tab with
    |some cs=>(F5 P t ((cs.map AV.pv).drop o)).map fun v=>(v,some a)
    |none=>none
   |none=>none
  |_=>none
 |.fieldAddr s x f=>match ρ x,wP P s f with
  |some (.aptr a ip o),some fl=>match mO P fl.type with
   |some (_+1)=>some (.aptr a ip (o+fl.offset),none)
   |_=>none
  |_,_=>none
 |.nilCheck x=>match ρ x with
  |some (.aptr a ip o)=>some (.aptr a ip o,none)
  |_=>none
 |.call ⟨.builtin .len,args,ts⟩=>match args.toList,ts.toList with
  |[x],[t]=>match ρ x,P.underlying t with
   |some (.arr a),some (.slice _)=>match yJ h a with
    |some (_,_,p)=>(F7 t (.pv p) tab).map fun v=>(v,none)
    |none=>none
   |_,_=>none
  |_,_=>none
 |_=>none
def Uc:List SF→Bool
 |[]=>false
 |.apq _ (.pv (.rows [])) _ _::_=>true
 |_::l=>Uc l
def aiU(tab:List SF)(P:Program)(ρ:Operand→Option AV)(h:List af):Op→Option (AV×List af×List Nat)
 |.buildSlice t len parts=>match Uc tab with
  |false=>none
  |true=>match nU ρ parts.toList with
   |some ps=>match O3 P t len ps with
    |some (e,s,pvs)=>match vC t (.pv (.rows [])) (.pv (.rows (chunk s len pvs))) tab with
     |some j=>some (.arr h.length,h++[.arr e s (.sym j)],[])
     |none=>none
    |none=>none
   |none=>none
 |.store t x y=>match ρ x,ρ y with
  |some (.aptr a ip o),some v=>match yJ h a,zY v.cells,mO P t with
   |some (ty,sz,p),some c,some s=>match F6 p ip o c tab with
    |some j=>if s=c.length∧v.cells.all AV.isCell=true then some (.tup [],h.set a (.arr ty sz (.sym j)),[a]) else none
    |none=>none
   |_,_,_=>none
  |_,_=>none
 |.slice t x none (some y) none=>match ρ x,ρ y with
  |some (.arr a),some yv=>match yJ h a,P.underlying t with
   |some (ty,sz,p),some (.slice e)=>match Dq t (.pv p) (some (.pv (.lit (.int .i64 0)))) (some (nrm yv)) tab,mO P e with
    |some (.pv q),some s=>if s=sz then some (.arr h.length,h.set a af.dead++[af.arr ty sz q],[a]) else none
    |_,_=>none
   |_,_=>none
  |_,_=>none
 |.makeSlice t l c=>match ρ l,ρ c with
  |some lv,some cv=>match U5 t (nrm lv) tab,zG (nrm lv) (nrm cv),P.underlying t with
   |some j,true,some (.slice e)=>match mO P e with
    |some sz=>some (.arr h.length,h++[.arr e sz (.sym j)],[])
    |none=>none
   |_,_,_=>none
  |_,_=>none
 |.call ⟨.builtin .append,args,ts⟩=>match args.toList,ts.toList with
  |[s,x],[t,t']=>match decide (t=t'),P.underlying t,ρ s,ρ x with
   |true,some (.slice e),some sv,some xv=>match sv,mO P e with
    |.arr a,some sz=>match yJ h a with
     |some (ty,sz',p)=>match vC t (.pv p) (nrm xv) tab with
      |some j=>if ty=e∧sz'=sz then some (.arr h.length,h.set a .dead++[.arr e sz (.sym j)],[a]) else none
      |none=>match Ao t (.pv p) (nrm xv) tab with
       |some none=>some (.arr a,h,[])
       |_=>none
     |none=>none
    |sv,some sz=>match bU sv,vC t (nrm sv) (nrm xv) tab with
     |true,some j=>some (.arr h.length,h++[.arr e sz (.sym j)],[])
     |_,_=>none
    |_,_=>none
   |_,_,_,_=>none
  |_,_=>none
 |_=>none
theorem Zz{R:Nat→PV}{P:Program}{t:TypeId}{p i:PV}{cs:List PV}(h:(SF.idx t (.pv p) (.pv i) (.cptr cs)).ok R P):∃kd n es,ak R i=.lit (.int kd n)∧0≤n∧(∀es',ak R p=.rows es'→es'=es)∧es[n.toNat]? = some (aS R cs):=by
 obtain⟨n,hn,hi⟩:=h;have hi0:∃kd,ak R i=.lit (.int kd n):=by
  rw[ah] at hn;unfold su at hn;split at hn
  ·rename_i kd m heq
   cases hn;injection heq with heq
   exact⟨kd,heq⟩
  ·cases hn
 obtain⟨kd,hkd⟩:=hi0;rw[ah,ah] at hi;unfold lm at hi;split at hi
 ·split at hi
  ·rename_i es hes
   split at hi
   ·rename_i h0
    split at hi
    ·rename_i c hc
     split at hi
     ·injection hi with hi
      injection hi with hi
      subst hi;refine⟨kd,n,es,hkd,h0,fun es' he=>?_,hc⟩;rw[he] at hes;simpa[rowsOf] using hes
     ·cases hi
    ·cases hi
   ·cases hi
  ·cases hi
 ·split at hi
  ·split at hi
   ·obtain⟨b,hb,e⟩:=Option.map_eq_some_iff.1 hi
    exfalso;cases hp:ak R p<;>rw[hp] at hb<;>simp[abA] at hb
   ·cases hi
  ·cases hi
 ·cases hi
theorem PR.int_eq{R:Nat→PV}{M:Nat→Nat→Option Value}{i:PV}{kd kd':IntKind}{n:Int}{k:Int}(h:PR R M i (.int kd k))(e:ak R i=.lit (.int kd' n)):n=k:=by
 have:=h.opened;rw[e] at this;cases this;rfl
theorem PR.int_of{R:Nat→PV}{M:Nat→Nat→Option Value}{i:PV}{v:Value}{kd:IntKind}{n:Int}(h:PR R M i v)(e:ak R i=.lit (.int kd n)):v=.int kd n:=by
 have:=h.opened;rw[e] at this;cases this;rfl
theorem abt{R:Nat→PV}{P:Program}{tab:List SF}(ht:cK R P tab){K:Kn}{h:List af}{w:World}(hR:K.R=R)(H:WR K h w){a:Nat}{ty:TypeId}{sz:Nat}{p:PV}(ha:yJ h a=some (ty,sz,p)){ip:PV}{cs:List PV}(hl:Od p ip tab=some cs) :
  ∃g cur es kd n,K.mu a=some g∧w.heap[g]? = some (.cells cur ty (0,0))∧(cur.size=K.Z g*sz∧K.Z g≤maxLen)∧AR K a g sz p cur∧ak R p=.rows es∧ak R ip=.lit (.int kd n)∧0≤n∧es[n.toNat]? = some (aS R cs)∧n.toNat<K.N a:=by
 obtain⟨g,cur,hm,hw,hs,hr⟩:=H.arr a ty sz p (gJ ha);obtain⟨es,he,hns,hlen,_⟩:=hr.row;obtain⟨t,hf⟩:=II ht hl;obtain⟨kd,n,es',h1,h2,h3,h4⟩:=Zz hf;rw[hR] at he;have:=h3 es he;subst this;refine⟨g,cur,es,kd,n,hm,hw,by rw[←hr.el];exact hs,hr,he,h1,h2,h4,?_⟩;rw[←hlen];by_cases hh:n.toNat<es.length
 ·exact hh
 ·rw[List.getElem?_eq_none (by omega)] at h4;cases h4
theorem RL.len{R:Nat→PV}{q:PV}{n:Nat}(h:RL R q n){es:List (List PV)}(e:ak R q=.rows es):n=es.length:=by
 have:=h.opened;rw[e] at this;cases this;rfl
theorem NH{R:Nat→PV}{P:Program}{tab:List SF}(ht:cK R P tab){o:Oper}{ρ:Operand→Value}{ρA:Operand→Option AV}{K:Kn}{h:List af}{w:World}(hR:K.R=R)(H:WR K h w)(hρ:∀x v,ρA x=some v→VR K v (ρ x)){v:AV}{dep:Option Nat}
  (hq:ahB tab P ρA h o.op=some (v,dep)):Ug P o ρ K w v dep:=by
 unfold ahB at hq;split at hq
 ·rename_i t x i ho
  split at hq
  ·rename_i a iv e hx hi hu
   split at hq
   ·rename_i ty sz p ip hrow hip
    split at hq
    ·rename_i cs s hl hs
     split at hq
     ·rename_i hse
      subst hse;cases hq;obtain⟨g,cur,es,kd,n,hm,hw,_,hr,he,hn1,h0,hn3,hlt⟩:=abt ht hR H hrow hl;have hiv:=(hρ i _ hi).toPV hip;rw[hR] at hiv;have hie:ρ i=.int kd n:=hiv.int_of hn1;have hxv:=hρ x _ hx;generalize hxe:ρ x=xv at hxv;cases hxv with
      |arr _ g' cap hm' hnc hz=>
       rw[hm] at hm';cases hm';rw[hie] at hiv;have hnn:((n.toNat:Nat):Int)=n:=by omega
       have key:=VR.aptr (K:=K) a ip 0 g n.toNat kd hm (by rw[hR,hnn];exact hiv) hlt;rw[hr.el,Nat.add_zero] at key;refine .of _ key (fun w'=>?_);have hlt':n<(K.N a:Int):=by omega
       simp[execOp,ho,hxe,hie,Instr.indexAt,asIntOf,run_underlying hu,h0,hlt',iq hs,Addr.add_lit]
     ·cases hq
    ·cases hq
   ·cases hq
  ·cases hq
 ·rename_i t x ho
  split at hq
  ·rename_i a ip off hx
   split at hq
   ·rename_i ty sz p hrow
    split at hq
    ·rename_i cs hl
     obtain⟨r,hr',e⟩:=aG hq;cases e;obtain⟨g,cur,es,kd,n,hm,hw,_,hr,he,hn1,h0,hn3,hlt⟩:=abt ht hR H hrow hl;have hxv:=hρ x _ hx;generalize hxe:ρ x=xv at hxv;cases hxv with
     |aptr _ _ _ g' k kd' hm' hik hk=>
      rw[hm] at hm';cases hm';rw[hR] at hik;have hkn:=hik.int_eq hn1;have hkn':n.toNat=k:=by omega
      rw[hkn'] at hn3;obtain⟨es',he',hns,hlen,hZ,hel,hcell⟩:=hr.row;rw[hR] at he';have:=he.symm.trans he';injection this with this
      subst this;have hk':k<es.length:=by omega
      rw[List.getElem?_eq_getElem hk'] at hn3;have hn3:=Option.some.inj hn3;have hcl:∀j,j<cs.length→∃v,cur[k*K.E g+j]? = some v∧PR K.R K.M (cs.getD j .any) v:=by
       intro j hj;have hj':j<es[k].length:=by rw[hn3,bY];simpa using hj
       obtain⟨v,h1,h2⟩:=hcell k hk' j hj';refine⟨v,h1,?_⟩;have e1:es[k][j]=ak R cs[j]:=by
        have:es[k][j]? = (aS R cs)[j]?:=by rw[hn3]
        rw[List.getElem?_eq_getElem hj',bY,List.getElem?_map,List.getElem?_eq_getElem hj] at this;simpa using this
       rw[e1,←hR] at h2;rw[List.getD_eq_getElem?_getD,List.getElem?_eq_getElem hj];exact h2.closed
      have hcs:∃us:List Value,us.length=cs.length∧∀j,j<cs.length→∃v,us[j]? = some v∧cur[k*K.E g+j]? = some v∧PR K.R K.M (cs.getD j .any) v:=by
       refine⟨(List.range cs.length).map fun j=>cur.getD (k*K.E g+j) (.bool false),by simp,fun j hj=>?_⟩;obtain⟨v,h1,h2⟩:=hcl j hj;refine⟨v,?_,h1,h2⟩;rw[List.getElem?_map,List.getElem?_range hj];simp[Array.getD_eq_getD_getElem?,h1]
      obtain⟨us,hul,hus⟩:=hcs;have hvl:VL K (cs.map AV.pv) us:=⟨by simp[hul],fun j hj hj'=>by
       obtain⟨v,h1,_,h3⟩:=hus j (by simpa using hj);rw[List.getElem?_eq_getElem hj'] at h1;rw[Option.some.inj h1];rw[List.getElem_map];rw[List.getD_eq_getElem?_getD,List.getElem?_eq_getElem (by simpa using hj)] at h3;exact .pv h3⟩
      obtain⟨u,hvu,hrun⟩:=tq (hvl.drop off) hr' g (k*K.E g+off);refine⟨u,hvu,fun w' hM hd=>?_⟩;have hblk:=hd a rfl g hm;have hcells:∀j c,(us.drop off)[j]? = some c→w'.cell? ⟨g,k*K.E g+off+j,none⟩=some c:=by
       intro j c hj;rw[List.getElem?_drop] at hj;have hjl:off+j<cs.length:=by
        by_cases hh:off+j<us.length
        ·omega
        ·rw[List.getElem?_eq_none (by omega)] at hj;cases hj
       obtain⟨v,h1,h2,_⟩:=hus (off+j) hjl;rw[hj] at h1;rw[World.cell?_of_block (w:=w) hblk];rw[show k*K.E g+off+j=k*K.E g+(off+j) by omega];simp only[World.cell?,hw,h2];simp[←Option.some.inj h1]
      have:=hrun w' hcells;simp[execOp,ho,Instr.loadAt,Instr.sureAddr,hxe,this]
    ·cases hq
   ·cases hq
  ·cases hq
 ·rename_i s x f ho
  split at hq
  ·rename_i a ip off fl hx hf
   split at hq
   ·rename_i n hn
    cases hq;obtain⟨fs,hu,hfs⟩:=wO hf;have hxv:=hρ x _ hx;generalize hxe:ρ x=xv at hxv;cases hxv with
    |aptr _ _ _ g k kd hm hik hk=>
     refine .of _ (.aptr a ip (off+fl.offset) g k kd hm hik hk) (fun w'=>?_);simp[execOp,ho,Instr.fieldAt,run_underlying hu,hfs,Instr.sureAddr,hxe,fieldPlace,iq hn,Addr.add_lit,Nat.add_assoc]
   ·cases hq
  ·cases hq
 ·rename_i x ho
  split at hq
  ·rename_i a ip off hx
   cases hq;have hxv:=hρ x _ hx;refine .of (ρ x) hxv (fun w'=>?_);generalize hxe:ρ x=xv at hxv;cases hxv with
   |aptr _ _ _ g k kd hm hik hk=>simp[execOp,ho,hxe]
  ·cases hq
 ·rename_i args ts ho
  split at hq
  ·rename_i x t ha hts
   have e1:args = #[x]:=by rw[←Array.toArray_toList (xs:=args),ha]
   have e2:ts = #[t]:=by rw[←Array.toArray_toList (xs:=ts),hts]
   subst e1;subst e2;split at hq
   ·rename_i a e hx hu
    split at hq
    ·rename_i ty sz p hrow
     obtain⟨r,hr',e⟩:=aG hq;cases e;obtain⟨g,cur,hm,hw,hs,hr⟩:=H.arr a ty sz p (gJ hrow);obtain⟨es,he,hns,hlen,_⟩:=hr.row;rw[hR] at he;have hok:=xS ht hr' o.type;rw[ah,he] at hok;have hxv:=hρ x _ hx;generalize hxe:ρ x=xv at hxv;cases hxv with
     |arr _ g' cap hm' hnc hz=>
      have hrv:ah R v=.pv (.lit (.int .i64 es.length)):=by
       simp[gU,LP,hu,rowsOf] at hok;exact hok.symm
      refine .of (.int .i64 es.length) ?_ (fun w'=>?_)
      ·have:VR K (ah R v) (.int .i64 es.length):=by rw[hrv];exact .pv (.lit _ rfl)
       exact this.closed hR
      ·rw[hlen]
       simp[execOp,ho,resolve,invoke,builtin,hxe,Builtin.len_,run_underlying hu,goInt]
    ·cases hq
   ·cases hq
  ·cases hq
 ·cases hq
def WZ(tab:List SF)(P:Program)(op:Op)(ty:TypeId)(ρ:Operand→Option AV)(h:List af):Option (AV×Option Nat):=match AF P op ty ρ h with
 |some r=>some r
 |none=>match ahq P op ρ h with
  |some r=>some r
  |none=>match ahs tab op (fun x=>(ρ x).map nrm) with
  |some v=>some (v,none)
  |none=>ahB tab P ρ h op
def Zw:Op→Bool
 |.call ⟨.builtin .append,_,_⟩=>true
 |_=>false
def Iw:List SF→Bool
 |[]=>false
 |.names::_=>true
 |_::l=>Iw l
def amk(tab:List SF)(P:Program)(op:Op)(ρ:Operand→Option AV)(h:List af):Option (AV×List af×List Nat):=match Zw op&&Iw tab with
 |true=>none
 |false=>aiP P op ρ h
def amm(tab:List SF)(P:Program)(op:Op)(ρ:Operand→Option AV)(h:List af):Option (AV×List af×List Nat):=match Iw tab with
 |true=>none
 |false=>ae5 P op ρ h
def aiO(tab:List SF)(P:Program)(op:Op)(ρ:Operand→Option AV)(h:List af):Option (AV×List af×List Nat):=match aiU tab P ρ h op with
 |some r=>some r
 |none=>match amk tab P op ρ h with
 |some r=>some r
 |none=>match amm tab P op ρ h with
  |some r=>some r
  |none=>match aml P op ρ h with
  |some r=>some r
  |none=>match ae5 P op ρ h with
   |some r=>some r
   |none=>amo tab P op ρ h
theorem vR{R:Nat→PV}{P:Program}{tab:List SF}(ht:cK R P tab){o:Oper}{ρ:Operand→Value}{ρA:Operand→Option AV}{K:Kn}{h:List af}{w:World}(hR:K.R=R)(H:WR K h w)(hρ:∀x v,ρA x=some v→VR K v (ρ x)){v:AV}{dep:Option Nat}
  (hq:WZ tab P o.op o.type ρA h=some (v,dep)):Ug P o ρ K w v dep:=by
 unfold WZ at hq;split at hq
 ·rename_i r hr
  cases hq;rw[PY] at hr;exact FP H hρ hr
 ·split at hq
  ·rename_i r hr
   cases hq;exact NE H hρ hr
  split at hq
  ·rename_i v' hv
   cases hq;have h1:=Xc (ty:=o.type) (h:=h) ht hv;rw[PY] at h1;obtain⟨u,hu,hy⟩:=FP (o:=o) (ρ:=ρ) H (fun x a hx=>by
    obtain⟨b,hb,e⟩:=aG hx;obtain⟨c,hc,e'⟩:=aG hb;subst e;subst e';exact(hρ x c hc).nrm.opened hR) h1
   exact⟨u,hu.closed hR,hy⟩
  ·exact NH ht hR H hρ hq
theorem qK{R:Nat→PV}{K:Kn}(hR:K.R=R){a:AV}{v:Value}(h:VR K a v){es:List (List PV)}(hr:gK (ah R (nrm a))=some es):PR K.R K.M (.rows es) v∨(es=[]∧v=.slice none 0 0):=by
 have h1:=h.nrm.opened hR;unfold gK at hr;split at hr
 ·rename_i hn
  cases hr;exact .inr ⟨rfl,iG h1 hn⟩
 ·exact .inl (fM h1 hr)
theorem sN{R:Nat→PV}{K:Kn}(hR:K.R=R){a:AV}{v:Value}(h:VR K a v){es:List (List PV)}(hr:rowsOf (ah R (nrm a))=some es):PR K.R K.M (.rows es) v:=fM (h.nrm.opened hR) hr
theorem Eff.closed{R:Nat→PV}{P:Program}{o:Oper}{ρ:Operand→Value}{K:Kn}{h:List af}{w:World}{v v':AV}{h':List af}{touch:List Nat}(hR:K.R=R)(hv:∀K' u,K'.R=R→VR K' v u→VR K' v' u)(H:Eff P o ρ K h w v h' touch):Eff P o ρ K h w v' h' touch:=by
 obtain⟨n,u,w',K',h1,h2,h3,h4,h5⟩:=H;exact⟨n,u,w',K',h1,h2,hv K' u (h4.ext.R.trans hR) h3,h4,h5⟩
theorem Nj{R:Nat→PV}{K:Kn}(hR:K.R=R){s:AV}{v:Value}{tk lc:Nat}(h:VR K s v)(ht:VT s=some (tk,lc)){es:List (List PV)}(hr:gK (ah R (nrm s))=some es):VR K (.trows tk es) v∧(lc<bq∨True)∧(es.length<bq→dl R lc=es.length):=by
 unfold VT at ht;split at ht
 ·rename_i tk' i
  cases ht;cases h with
  |tsym _ _ es0 hi h=>
   subst hR;have e:gK (.pv (K.R i))=some es:=by simpa[YtijcobeebaceoaaGreatDoor.nrm,AV.toPV,ah,ak] using hr
   rw[hi] at e;have e2:es0=es:=by simpa[gK,bU,rowsOf] using e
   subst e2;exact⟨h,.inr trivial,fun _=>Eu hi⟩
 ·rename_i tk' es0
  cases ht;have e:gK (.pv (.rows (bO R es0)))=some es:=by simpa[YtijcobeebaceoaaGreatDoor.nrm,AV.toPV,ah,ak] using hr
  have e2:bO R es0=es:=by simpa[gK,bU,rowsOf] using e
  subst e2;have ho:=h.opened hR;rw[ah] at ho;have hlen:(bO R es0).length=es0.length:=by rw[eT,List.length_map]
  exact⟨ho,.inr trivial,fun hl=>by rw[hlen] at hl ⊢;exact gT hl⟩
 ·cases ht
theorem Zv{a:AV}(h:bU a=true):a=.pv (.lit (.slice none 0 0)):=by
 unfold bU at h;split at h
 ·rfl
 ·cases h
theorem Pf{R:Nat→PV}{P:Program}{tab:List SF}(ht:cK R P tab){o:Oper}{ρ:Operand→Value}{K:Kn}{h:List af}{w:World}(hR:K.R=R)(H:WR K h w)
  {args:Array Operand} {s x:Operand} (ha:args.toList=[s,x]) {t:TypeId} {ts:Array TypeId} (hts:ts.toList=[t,t]) (ho:o.op=.call ⟨.builtin .append,args,ts⟩)
  {sA xA:AV} (hs:VR K sA (ρ s)) (hx:VR K xA (ρ x)) {v:AV} {h':List af} {touch:List Nat} (hq:aja tab P t sA xA h=some (v,h',touch)):Eff P o ρ K h w v h' touch:=by
 unfold aja at hq;split at hq
 ·rename_i j hl
  obtain⟨e,sz,by_,zc,es,es',h1,h2,h3,h4,h5,h6,h7,h8,h9,h10,h11,h12,h13⟩:=qm ht hl;rw[h1] at hq;simp only[h2] at hq;obtain⟨c0,cs0,rfl⟩:∃c0 cs0,es'=c0::cs0:=by cases es' with|nil=>exact absurd rfl h9|cons a b=>exact⟨a,b,rfl⟩
  have hx':=sN hR hx h8;have hall:(c0::cs0).all (fun c=>c.length==sz)=true:=by rw[List.all_eq_true];intro c hc;simpa using h10 c hc
  split at hq
  ·rename_i tk lc htk
   obtain⟨hv,_,hdl⟩:=Nj hR hs htk h7;split at hq
   ·rename_i e' sz' lc' hh
    split at hq
    ·rename_i hc
     obtain⟨rfl,rfl,rfl⟩:=hc;cases hq;have hd:dl R lc'=es.length:=hdl (by unfold bq;omega);have hg:rQ (dl R) (fun _=>bq+j) P t (.trows tk es) (c0::cs0) h=some (.trows h.length (es++c0::cs0),h.set tk .dead++[.tok e' sz' (bq+j)],[tk]):=by
      unfold rQ;simp only[h1,h2,h3,h4];rw[if_pos ⟨h5,h6,hall⟩];simp only[hh];rw[if_pos ⟨trivial,trivial,hd.symm,by rw[hd];exact h11,by rw[hd];exact h12⟩]
     refine Eff.closed hR (fun K' u hK hu=>.tsym _ j _ (by rw[hK];exact h13) hu) (pV H ha hts ho hv (.inl hx') hg (fun n _=>by rw[hR]) (fun es2 h2 _=>?_) (fun hn=>by cases hn));cases h2;rw[hR,Eu h13,List.length_append]
    ·cases hq
   ·cases hq
  ·split at hq
   ·rename_i hn
    cases hq;have he:=Zv hn;subst he;have hes:es=[]:=by
     have e:gK (.pv (.lit (.slice none 0 0)))=some es:=by simpa[YtijcobeebaceoaaGreatDoor.nrm,AV.toPV,ah,ak] using h7
     simpa[gK,bU] using e.symm
    subst hes;have hg:rQ (dl R) (fun _=>bq+j) P t (.pv (.lit (.slice none 0 0))) (c0::cs0) h=some (.trows h.length (c0::cs0),h++[.tok e sz (bq+j)],[]):=by
     unfold rQ;simp only[h1,h2,h3,h4];rw[if_pos ⟨h5,h6,hall⟩];rw[if_pos ⟨rfl,by simpa using h11,by simpa using h12⟩]
    refine Eff.closed hR (fun K' u hK hu=>.tsym _ j _ (by rw[hK];exact h13) hu) (pV H ha hts ho hs (.inl hx') hg (fun n _=>by rw[hR]) (fun es2 h2 _=>?_) (fun _ _=>?_))
    ·cases h2
    ·rw[hR,Eu h13];rfl
   ·cases hq
 ·rename_i hl
  cases hq;obtain⟨e,sz,by_,zc,h1,h2,h3,h4,h5,h6⟩:=qm ht hl;obtain⟨es,hes⟩:=Option.isSome_iff_exists.1 h5;have hx':=qK hR hx h6;have hs':=qK hR hs hes;obtain⟨i,z,hi,_,_⟩:=dG (K:=K) h4;obtain⟨base,n,cap,hse,hn⟩:∃base n cap,ρ s=.slice base n cap∧n≤cap:=by
   rcases hs' with hs'|⟨_,hs'⟩
   ·generalize ρ s=sv at hs'
    cases hs' with
    |rows _ a cap g off sz us ha hn _ _ _=>exact⟨a,_,cap,rfl,hn⟩
   ·exact⟨none,0,0,hs',Nat.le_refl _⟩
  obtain⟨a,c,hxe⟩:∃a c,ρ x=.slice a 0 c:=by
   rcases hx' with hx'|⟨_,hx'⟩
   ·generalize ρ x=xv at hx'
    cases hx' with
    |rows _ a cap g off sz us ha hn _ _ _=>exact⟨a,cap,rfl⟩
   ·exact⟨none,0,hx'⟩
  refine⟨_,ρ s,w,K,dQ ha hts ho (v:=ρ s) ?_,.inl rfl,hs,Step.refl H,lF.refl _ _⟩;rw[hse,hxe];exact jW t o.type e i h1 hi base a n cap c hn w
 ·cases hq
theorem WW{k k' j sz:Nat}(hj:j<sz)(h1:k*sz≤k'*sz+j)(h2:k'*sz+j<k*sz+sz):k'=k:=by
 rcases Nat.lt_trichotomy k' k with h|h|h
 ·have:=Nat.mul_le_mul_right sz h
  rw[Nat.succ_mul] at this;omega
 ·exact h
 ·have:=Nat.mul_le_mul_right sz h
  rw[Nat.succ_mul] at this;omega
theorem AR.set{K:Kn}{a g sz:Nat}{p q:PV}{cur:Array Value}(hr:AR K a g sz p cur)(hcs:cur.size=K.Z g*sz){es:List (List PV)}(he:ak K.R p=.rows es){k:Nat}(hk:k<es.length){o:Nat}{c:List PV}{us:List Value}
  (hl:c.length=us.length) (ho:o+c.length≤es[k].length) (hq:ak K.R q=.rows (es.set k (setAt es[k] o c))) (hns:ku (es.set k (setAt es[k] o c))=true)
  (hv:∀i (h:i<c.length) (h':i<us.length),PR K.R K.M c[i] us[i]):AR K a g sz q (setAt cur.toList (k*sz+o) us).toArray∧k*sz+o+us.length≤cur.size:=by
 obtain⟨es',h1,h2,h3,h4,h5,h6⟩:=hr.row;rw[he] at h1;injection h1 with h1
 subst h1;have hE:=hr.el;have hsz:=h5 k hk;rw[hE] at hsz h6;have hfit:k*sz+o+us.length≤cur.size:=by
  have:=Nat.mul_le_mul_right sz (show k+1≤K.Z g by omega);rw[Nat.succ_mul] at this;omega
 have hfit':k*sz+o+us.length≤cur.toList.length:=by simpa using hfit
 have hlen:∀k' (h:k'<(es.set k (setAt es[k] o c)).length),(es.set k (setAt es[k] o c))[k'].length=sz:=by
  intro k' hk';rw[List.getElem_set];split
  ·rw[FM ho];exact hsz
  ·have:=h5 k' (by simpa using hk');rw[hE] at this;exact this
 refine⟨⟨hE,hr.none,_,hq,hns,by simpa using h3,by simpa using h4,fun k' hk'=>by rw[hE];exact hlen k' hk',fun k' hk' j hj=>?_⟩,hfit⟩;rw[hE];have hjs:j<sz:=by rw[←hlen k' hk'];exact hj
 have hcur:(setAt cur.toList (k*sz+o) us).toArray[k'*sz+j]? = if k*sz+o≤k'*sz+j∧k'*sz+j<k*sz+o+us.length then us[k'*sz+j-(k*sz+o)]? else cur[k'*sz+j]?:=by
  rw[List.getElem?_toArray,yV hfit'];simp only[Array.getElem?_toList]
 rw[hcur];by_cases e:k=k'
 ·subst e
  have hes:(es.set k (setAt es[k] o c))[k]'hk'=setAt es[k] o c:=by rw[List.getElem_set_self]
  have hget:∀(x:PV),(setAt es[k] o c)[j]? = some x→(es.set k (setAt es[k] o c))[k][j]=x:=by
   intro x hx;have:(es.set k (setAt es[k] o c))[k][j]? = some x:=by rw[hes];exact hx
   rw[List.getElem?_eq_getElem hj] at this;exact Option.some.inj this
  by_cases hin:o≤j∧j<o+c.length
  ·rw[if_pos (by omega),show k*sz+j-(k*sz+o)=j-o by omega]
   have hu:j-o<us.length:=by omega
   refine⟨_,List.getElem?_eq_getElem hu,?_⟩;have hc:j-o<c.length:=by omega
   rw[hget c[j-o] (by rw[yV ho,if_pos hin,List.getElem?_eq_getElem hc])];exact hv _ hc hu
  ·rw[if_neg (by omega)]
   have hj':j<es[k].length:=by rw[hsz];exact hjs
   obtain⟨v,a1,a2⟩:=h6 k hk j hj';refine⟨v,a1,?_⟩;rw[hget es[k][j] (by rw[yV ho,if_neg hin,List.getElem?_eq_getElem hj'])];exact a2
 ·have hk2:k'<es.length:=by simpa using hk'
  have hes:(es.set k (setAt es[k] o c))[k']=es[k']:=by rw[List.getElem_set_ne e]
  rw[if_neg (fun h=>e (WW (k:=k) (k':=k') hjs (by omega) (by rw[hl.symm] at h;omega)).symm)];have hj':j<es[k'].length:=by rw[←hes];exact hj
  obtain⟨v,a1,a2⟩:=h6 k' hk2 j hj';refine⟨v,a1,?_⟩;have:(es.set k (setAt es[k] o c))[k'][j]=es[k'][j]:=by simp only[hes]
  rw[this];exact a2
theorem IK{h:List af}{a:Nat}(j:Nat)(x:af)(hj:(h.set a .dead)[j]? = some x)(hl:x.live=true):h[j]? = some x∧j≠a:=by
 rw[List.getElem?_set] at hj;by_cases ej:a=j
 ·rw[if_pos ej] at hj
  split at hj
  ·cases hj;cases hl
  ·cases hj
 ·rw[if_neg ej] at hj;exact⟨hj,fun e=>ej e.symm⟩
theorem EK{R:Nat→PV}{P:Program}{tab:List SF}(ht:cK R P tab){o:Oper}{ρ:Operand→Value}{ρA:Operand→Option AV}{K:Kn}{h:List af}{w:World}(hR:K.R=R)(H:WR K h w)(hρ:∀x v,ρA x=some v→VR K v (ρ x))
  {t:TypeId} {x y:Operand} {a off:Nat} {ip p:PV} {v:AV} {ty:TypeId} {sz s j:Nat} {c:List PV} (ho:o.op=.store t x y) (hx:ρA x=some (.aptr a ip off)) (hy:ρA y=some v) (hrow:yJ h a=some (ty,sz,p)) (hc:zY v.cells=some c) (hs:mO P t=some s) (hl:F6 p ip off c tab=some j) (hsc:s=c.length) (hcell:v.cells.all AV.isCell=true) :
  Eff P o ρ K h w (.tup []) (h.set a (.arr ty sz (.sym j))) [a]:=by
 obtain⟨g,cur,hm,hw,hsz,hr⟩:=H.arr a ty sz p (gJ hrow);obtain⟨es0,he0,_,hlen0,hZ0,_⟩:=hr.row;obtain⟨es,n,kd,h1,h2,h3,h4,h5,h6,h7⟩:=Dr ht hl;rw[hR] at he0;rw[he0] at h1;injection h1 with h1
 subst h1;have hE:=hr.el;have hcs:cur.size=K.Z g*sz:=by rw[←hE];exact hsz.1
 have hxv:=hρ x _ hx;generalize hxe:ρ x=xv at hxv;cases hxv with
 |aptr _ _ _ g' k kd' hm' hik hk=>
  rw[hm] at hm';cases hm';rw[hR] at hik;have hkn:=hik.int_eq h2;have hkn':n.toNat=k:=by omega
  rw[hkn'] at h4 h5 h6;have hgd:es0.getD k []=es0[k]:=by rw[List.getD_eq_getElem?_getD,List.getElem?_eq_getElem h4];rfl
  rw[hgd] at h5 h6;have hyv:=(hρ y v hy).cells;have hps:=mo hyv hc;have hcl:c.length=(ρ y).cells.toList.length:=hps.1;have hop:(aS R c).length=c.length:=by rw[bY,List.length_map]
  have hset:=AR.set hr hcs (p:=p) (q:=.sym j) (by rw[hR];exact he0) h4 (o:=off) (c:=aS R c) (us:=(ρ y).cells.toList) (by rw[hop];exact hcl) h5 (by rw[hR,ak];exact h6)
   (by rw[h6] at h7;rw[EW] at h7;exact h7) (fun i hi hi'=>by
    have hi2:i<c.length:=by rw[←hop];exact hi
    have:=(hps.2 i hi2 hi').opened;have e1:(aS R c)[i]=ak R c[i]:=by simp only[bY,List.getElem_map]
    rw[e1,←hR];exact this)
  have hone:=EL hyv hcell;have hst:=run_storeCells_at P g (k*sz+off) ty (ρ y).cells.toList 0 cur w hw (by have:=hset.2;simp at this ⊢;omega) hone;simp only[Nat.add_zero] at hst;rw[hE] at hxe;refine⟨.skip,_,w.setRow g (setAt cur.toList (k*sz+off) (ρ y).cells.toList).toArray,K,?_,.inr ⟨rfl,rfl⟩,VR.undef K,?_,?_⟩
  ·have hlen:(ρ y).cells.size=s:=by rw[hsc,hcl];simp
   simp[execOp,ho,Instr.storeAt,Instr.sureAddr,hxe,storeVar,iq hs,hlen];simp only[Array.length_toList] at hst;rw[hlen] at hst;rw[hst];simp[setAt,hlen]
  ·refine Step.store H a (.arr ty sz p) (.arr ty sz (.sym j)) g (gJ hrow) rfl rfl hm ⟨_,setRow_heap w g cur _ ty _ hw,⟨?_,hsz.2⟩,hset.1⟩ (fun o=>hr.none o) ⟨rfl,rfl,rfl,by simp[World.setRow],fun k _ hk=>setRow_other w g k _ hk⟩ (by simp[World.setRow]) (fun k hk=>setRow_other w g k _ hk)
   rw[List.size_toArray,FM (by have:=hset.2;simp at this ⊢;omega)];simpa using hsz.1
  ·exact⟨rfl,rfl,rfl,by simp[World.setRow],fun k hk hs=>setRow_other w g k _ (fun e=>hs ⟨a,_,by simp,gJ hrow,rfl,by rw[e];exact hm⟩)⟩
theorem Fz{R:Nat→PV}{P:Program}{tab:List SF}(ht:cK R P tab){o:Oper}{ρ:Operand→Value}{ρA:Operand→Option AV}{K:Kn}{h:List af}{w:World}(hR:K.R=R)(H:WR K h w)(hρ:∀x v,ρA x=some v→VR K v (ρ x))
  {t:TypeId} {l c:Operand} {lv cv:AV} {j sz:Nat} {e:TypeId} (ho:o.op=.makeSlice t l c) (hl:ρA l=some lv) (hc:ρA c=some cv) (hk:U5 t (nrm lv) tab=some j) (heq:zG (nrm lv) (nrm cv)=true) (hu:P.underlying t=some (.slice e)) (hs:mO P e=some sz) :
  Eff P o ρ K h w (.arr h.length) (h++[.arr e sz (.sym j)]) []:=by
 obtain⟨e',sz',by_,zc,z0,k,a1,a2,a3,a4,a5,a6,a7,a8,a9,a10,a11,a12⟩:=IG ht hk;rw[hu] at a1;cases a1;rw[hs] at a2;cases a2;have heq:=fO heq;have hlv:=((hρ l _ hl).nrm).opened hR;have hcv:=((hρ c _ hc).nrm).opened hR;rw[←heq] at hcv;obtain⟨k1,hk1⟩:=ji hlv a8;obtain⟨k2,hk2⟩:=ji hcv a8;obtain⟨i,z,hi,hiz,hvz⟩:=dG (K:=K) a4;have his:i.size=sz:=by unfold mO at hs;rw[hi] at hs;simpa using hs
 have hib:i.bytes=by_:=by unfold iT at a3;rw[hi] at a3;simpa using a3
 have hbytes:(i.bytes:Int)*(k:Int)≤281474976710656:=by
  rw[hib];have:((k*by_:Nat):Int)≤140737488355328:=Int.ofNat_le.2 a10;rw[Int.natCast_mul,Int.mul_comm] at this;omega
 have hrun:=run_make (P:=P) w t e i z hu hi hiz k1 k2 (k:Int) (k:Int) (by omega) (Int.le_refl _) hbytes (by omega);rw[his,Int.toNat_natCast] at hrun;have hms:(madeCells z.cells (k*sz)).size=k*sz:=size_madeCells _ _;have hzs:z.cells.size=sz:=by have:=hvz.1;simp at this;omega
 have hpz:=mo hvz a5;have hz0:z0.length=sz:=by rw[hpz.1];simpa using hzs
 rw[a11] at a12;rw[EW] at a12;obtain⟨K',st,m1,m2,m3,m4⟩:=Step.putArr H (h1:=h) (w':=w.alloc (.cells (madeCells z.cells (k*sz)) e)) e sz (.sym j) w.heap.size k _ (List.replicate k z0) (by rw[hR,ak];exact a11) a12 (heap_alloc_new w _) hms (by unfold maxLen;omega) (by simp)
  (fun i hi=>by simp[hz0]) (fun i hi jj hj=>by
   have hi':i<k:=by simpa using hi
   have hj':jj<sz:=by simpa[hz0] using hj
   have hidx:i*sz+jj<k*sz:=pQ hi' hj';refine⟨z.cells.toList[jj]'(by simpa[hzs] using hj'),?_,?_⟩
   ·have hmod:(i*sz+jj)%z.cells.size=jj:=by rw[hzs,Nat.mul_comm,Nat.mul_add_mod];exact Nat.mod_eq_of_lt hj'
    simp only[madeCells];rw[Array.getElem?_map,Array.getElem?_range,if_pos hidx];simp only[Option.map_some,hmod,Array.getElem_toList];rw[getElem!_pos z.cells jj (by rw[hzs];exact hj')]
   ·have:=hpz.2 jj (by rw[hz0];exact hj') (by simpa[hzs] using hj')
    simpa using this)
  (by simp) ((lF.alloc (fun _=>False) w _).mono (fun _ _ h=>h.elim)) (fun o=>H.noM (Nat.le_refl _) o) rfl (fun j x hj _=>⟨hj,fun hm=>by have:=H.lt j _ hm;omega⟩) (fun i hi=>by have:=H.lt i _ hi;omega) (.inl (Nat.le_refl _))
 refine⟨.value (.slice (some ⟨w.heap.size,0,none⟩) k k),_,_,K',?_,.inl rfl,?_,st,lF.alloc _ _ _⟩
 ·have e1:=(hρ l _ hl).nrm
  simp only[execOp,ho,hk1,hk2,Sem.run_bind,hrun,Result.andThen_ok,Sem.run_pure]
 ·have:=VR.arr (K:=K') h.length w.heap.size k m1 (by rw[m2];simp) (by rw[m3];exact Nat.le_refl _)
  rw[m2,List.length_replicate] at this;exact this
theorem Gf{K:Kn}{es es':List (List PV)}{sz:Nat}{old news:List Value}(hold:old.length=es.length*sz)(hel:∀k (h:k<es.length),es[k].length=sz)(hel':∀k (h:k<es'.length),es'[k].length=sz)
  (h1:∀k (h:k<es.length) j (hj:j<es[k].length),∃v,old[k*sz+j]? = some v∧PR K.R K.M es[k][j] v) (h2:∀k (h:k<es'.length) j (hj:j<es'[k].length),∃v,news[k*sz+j]? = some v∧PR K.R K.M es'[k][j] v)
  {cur:Array Value} (hc:∀(x:Nat) (v:Value),(old++news)[x]? = some v→cur[x]? = some v) :
  (∀k (h:k<(es++es').length),(es++es')[k].length=sz)∧∀k (h:k<(es++es').length) j (hj:j<(es++es')[k].length),∃v,cur[k*sz+j]? = some v∧PR K.R K.M (es++es')[k][j] v:=by
 constructor
 ·intro k hk
  rw[List.getElem_append];split
  ·exact hel k _
  ·exact hel' _ _
 ·intro k hk j hj
  by_cases hlt:k<es.length
  ·have e:(es++es')[k]=es[k]:=List.getElem_append_left hlt
   have hj':j<es[k].length:=by rw[←e];exact hj
   obtain⟨v,a1,a2⟩:=h1 k hlt j hj';refine⟨v,hc _ _ ?_,by simp only[e];exact a2⟩;rw[List.getElem?_append_left (by rw[hold];exact pQ hlt (by rw[←hel k hlt];exact hj'))];exact a1
  ·have hk':k-es.length<es'.length:=by simp at hk;omega
   have e:(es++es')[k]=es'[k-es.length]:=List.getElem_append_right (by omega);have hj':j<es'[k-es.length].length:=by rw[←e];exact hj
   obtain⟨v,a1,a2⟩:=h2 _ hk' j hj';refine⟨v,hc _ _ ?_,by simp only[e];exact a2⟩;have e2:k*sz+j=old.length+((k-es.length)*sz+j):=by
    rw[hold];have:k=es.length+(k-es.length):=by omega
    rw[this,Nat.add_mul,show es.length+(k-es.length)-es.length=k-es.length by omega];omega
   rw[e2,List.getElem?_append_right (by omega),Nat.add_sub_cancel_left];exact a1
theorem JU{R:Nat→PV}{P:Program}{tab:List SF}(ht:cK R P tab){o:Oper}{ρ:Operand→Value}{K:Kn}{h:List af}{w:World}(hR:K.R=R)(H:WR K h w)
  {args:Array Operand} {s x:Operand} (ha:args.toList=[s,x]) {t:TypeId} {ts:Array TypeId} (hts:ts.toList=[t,t]) (ho:o.op=.call ⟨.builtin .append,args,ts⟩) {e:TypeId} (hu:P.underlying t=some (.slice e)) {a sz:Nat} {xv:AV} {p:PV} {j:Nat}
  (hsv:VR K (.arr a) (ρ s)) (hxv0:VR K xv (ρ x)) (hsz:mO P e=some sz) (hrow:yJ h a=some (e,sz,p)) (hl:vC t (.pv p) (nrm xv) tab=some j) :
  Eff P o ρ K h w (.arr h.length) (h.set a .dead++[.arr e sz (.sym j)]) [a]:=by
 obtain⟨⟨e',sz',by_,zc,es,es',a1,a2,a3,a4,a5,a6,a7,a8,a9,a10,a11,a12,a13⟩,hns⟩:=tu ht hl;rw[hu] at a1;cases a1;rw[hsz] at a2;cases a2;obtain⟨g,cur,hm,hw,⟨hcs,hZ⟩,hr⟩:=H.arr a e sz p (gJ hrow);obtain⟨es0,he0,hns0,hlen0,hZ0,hel0,hcell0⟩:=hr.row;have hE:=hr.el;rw[hE] at hel0 hcell0 hcs;have hes:es0=es:=by
  rw[hR] at he0;rw[ah,he0] at a7;simpa[gK,bU,rowsOf] using a7
 subst hes;have hxv:=sN hR hxv0 a8;have hel':∀k (h:k<es'.length),es'[k].length=sz:=fun k hk=>a10 _ (List.getElem_mem hk)
 obtain⟨gx,ox,capx,news,hxe,hnl,hnM,hnP⟩:=xF hxv a9 hel' a5;have hncell:∀j u,news[j]? = some u→w.cell? ((⟨gx,ox,none⟩:Addr).add j)=some u:=fun j u hj=>by rw[add_mid];exact H.agr _ _ _ (hnM j u hj)
 obtain⟨i,z,hi,hiz,hvz⟩:=dG (K:=K) a4;have his:i.size=sz:=by unfold mO at hsz;rw[hi] at hsz;simpa using hsz
 have hib:i.bytes=by_:=by unfold iT at a3;rw[hi] at a3;simpa using a3
 have hzs:z.cells.size=sz:=by have:=hvz.1;simp at this;omega
 have h1:∀u∈news,u.oneCell'=true:=fun u hu=>by
  obtain⟨x,hx1,hx2⟩:=List.mem_iff_getElem.1 hu;have hxl:x<es'.length*sz:=by rw[←hnl];exact hx1
  have hd:x/sz<es'.length:=Nat.div_lt_of_lt_mul (by rw[Nat.mul_comm];exact hxl);obtain⟨v,b1,b2⟩:=hnP (x/sz) hd (x%sz) (by rw[hel' _ hd];exact Nat.mod_lt _ a5);rw[show x/sz*sz+x%sz=x by rw[Nat.mul_comm];exact Nat.div_add_mod x sz,List.getElem?_eq_getElem hx1] at b1;rw[←hx2,Option.some.inj b1];exact b2.one
 have hlpos:0<es'.length:=List.length_pos_iff.2 a9;have hmul:(es0.length+es'.length)*sz=es0.length*sz+es'.length*sz:=Nat.add_mul _ _ _;have hole:es0.length*sz≤cur.size:=by rw[hcs];exact Nat.mul_le_mul_right _ hZ0
 have hold:(cur.toList.take (es0.length*sz)).length=es0.length*sz:=by simp;omega
 have holdc:∀k (h:k<es0.length) j (hj:j<es0[k].length),∃v,(cur.toList.take (es0.length*sz))[k*sz+j]? = some v∧PR K.R K.M es0[k][j] v:=by
  intro k hk j hj;obtain⟨v,b1,b2⟩:=hcell0 k hk j hj;refine⟨v,?_,b2⟩;rw[List.getElem?_take,if_pos (pQ hk (by rw[←hel0 k hk];exact hj)),Array.getElem?_toList];exact b1
 have hq:ak K.R (.sym j)=.rows (es0++es'):=by rw[hR,ak];exact a13
 have hns2:ku (es0++es')=true:=by rw[a13,EW] at hns;exact hns
 generalize hse:ρ s=sv at hsv;have hsetlen:(h.set a .dead).length=h.length:=by simp
 cases hsv with
 |arr _ g' cap hm' hnc hcap=>
  rw[hm] at hm';cases hm';rw[←hlen0] at hse hnc;by_cases hroom:es0.length+es'.length≤cap
  ·have hfit:es0.length*sz+news.length≤cur.size:=by rw[hnl,hcs,←hmul];exact Nat.mul_le_mul_right _ (by omega)
   have hrun:=run_append_room (P:=P) w t o.type e i hu hi g es0.length cap cur hw ⟨gx,ox,none⟩ es'.length capx news (by rw[his];exact hnl) hncell h1 hroom (by rw[his];exact hfit);rw[his] at hrun;rw[←hse,←hxe] at hrun;generalize hcur:(cur.toList.take (es0.length*sz)++news++cur.toList.drop (es0.length*sz+news.length)).toArray=cur' at hrun;obtain⟨c1,c2⟩:=Gf (K:=K) hold hel0 hel' holdc hnP (cur:=cur') (fun x v hx=>by
    rw[←hcur,List.getElem?_toArray];have hxl:x<(cur.toList.take (es0.length*sz)++news).length:=by
     by_cases hh:x<(cur.toList.take (es0.length*sz)++news).length
     ·exact hh
     ·rw[List.getElem?_eq_none (by omega)] at hx;cases hx
    rw[List.getElem?_append_left hxl];exact hx)
   obtain⟨K',st,m1,m2,m3,m4⟩:=Step.putArr H (h1:=h.set a .dead) (w':=w.setRow g cur') e sz (.sym j) g (K.Z g) cur' (es0++es') hq hns2 (setRow_heap w g cur cur' e _ hw) (by rw[←hcur,←hcs];simp;omega) hZ (by simp;omega) c1 c2
    (by have:=Br hw;simpa[World.setRow] using this) ⟨rfl,rfl,rfl,by simp[World.setRow],fun k _ hk=>setRow_other w g k _ hk⟩ hr.none hsetlen (fun j x hj hl=>by
     obtain⟨h2,h3⟩:=IK j x hj hl;exact⟨h2,fun e=>h3 (H.inj j a x _ g h2 (gJ hrow) hl rfl e hm)⟩) (fun _ _=>⟨rfl,hE⟩) (.inr ⟨a,_,gJ hrow,rfl,hm⟩)
   refine⟨_,_,_,K',dQ ha hts ho hrun,.inl rfl,?_,st,⟨rfl,rfl,rfl,by simp[World.setRow],fun k _ hk=>setRow_other w g k _ (fun e=>hk ⟨a,_,by simp,gJ hrow,rfl,by rw[e];exact hm⟩)⟩⟩;have:=VR.arr (K:=K') h.length g cap m1 (by rw[m2];simpa using hroom) (by rw[m3];exact hcap);rw[m2,List.length_append] at this;exact this
  ·have holds:∀j v,(cur.toList.take (es0.length*sz))[j]? = some v→w.cell? ((⟨g,0,none⟩:Addr).add j)=some v:=by
    intro j v hj;have hjl:j<es0.length*sz:=by
     by_cases hh:j<es0.length*sz
     ·exact hh
     ·rw[List.getElem?_eq_none (by omega)] at hj;cases hj
    rw[add_mid,Nat.zero_add];rw[List.getElem?_take,if_pos hjl,Array.getElem?_toList] at hj;simp[World.cell?,hw,hj]
   have hrun:=run_append_grow (P:=P) w t o.type e i z hu hi hiz ⟨g,0,none⟩ es0.length cap (cur.toList.take (es0.length*sz)) (by rw[his];exact hold) holds ⟨gx,ox,none⟩ es'.length capx news (by rw[his];exact hnl) hncell (by omega) (by omega) (growslice_fits (by omega) (by rw[hib];exact a12));rw[←hse,←hxe] at hrun;have hge:=grownCap_ge w (es0.length+es'.length) cap e;have hcm:=grownCap_le_maxLen w (es0.length+es'.length) cap e (by unfold maxLen;omega);generalize grownCap w (es0.length+es'.length) cap e=cap' at *;generalize hcur:(cur.toList.take (es0.length*sz)).toArray++news.toArray++Builtin.zeroCells z.cells (cap'-(es0.length+es'.length))=cur' at hrun;have hcurs:cur'.size=cap'*sz:=by
    rw[←hcur];simp only[Array.size_append,List.size_toArray,size_zeroCells,hzs,hnl,hold,←Nat.add_mul];congr 1;omega
   obtain⟨c1,c2⟩:=Gf (K:=K) hold hel0 hel' holdc hnP (cur:=cur') (fun x v hx=>by
    have e5:((cur.toList.take (es0.length*sz)).toArray++news.toArray++Builtin.zeroCells z.cells (cap'-(es0.length+es'.length))).toList=(cur.toList.take (es0.length*sz)++news)++(Builtin.zeroCells z.cells (cap'-(es0.length+es'.length))).toList:=by simp
    rw[←hcur,←Array.getElem?_toList,e5];have hxl:x<(cur.toList.take (es0.length*sz)++news).length:=by
     by_cases hh:x<(cur.toList.take (es0.length*sz)++news).length
     ·exact hh
     ·rw[List.getElem?_eq_none (by omega)] at hx;cases hx
    rw[List.getElem?_append_left hxl];exact hx)
   obtain⟨K',st,m1,m2,m3,m4⟩:=Step.putArr H (h1:=h.set a .dead) (w':=w.drew.alloc (.cells cur' e)) e sz (.sym j) w.heap.size cap' cur' (es0++es') hq hns2 (heap_alloc_new w.drew _) hcurs hcm (by simp;omega) c1 c2
    (by simp) (lF.drewAlloc _ _ _) (fun o=>H.noM (Nat.le_refl _) o) hsetlen (fun j x hj hl=>by
     obtain⟨h2,h3⟩:=IK j x hj hl;exact⟨h2,fun e=>by have:=H.lt j _ e;omega⟩) (fun i hi=>by have:=H.lt i _ hi;omega) (.inl (Nat.le_refl _))
   refine⟨_,_,_,K',dQ ha hts ho hrun,.inl rfl,?_,st,lF.drewAlloc _ _ _⟩;have:=VR.arr (K:=K') h.length w.heap.size cap' m1 (by rw[m2];simpa using hge) (by rw[m3];exact Nat.le_refl _);rw[m2,List.length_append] at this;exact this
theorem FB{R:Nat→PV}{P:Program}{tab:List SF}(ht:cK R P tab){o:Oper}{ρ:Operand→Value}{ρA:Operand→Option AV}{K:Kn}{h:List af}{w:World}(hR:K.R=R)(H:WR K h w)(hρ:∀x v,ρA x=some v→VR K v (ρ x))
  {args:Array Operand} {s x:Operand} (ha:args.toList=[s,x]) {t:TypeId} {ts:Array TypeId} (hts:ts.toList=[t,t]) (ho:o.op=.call ⟨.builtin .append,args,ts⟩) {a:Nat} {xv:AV} {p:PV}
  (hs:ρA s=some (.arr a)) (hx:ρA x=some xv) (hl:Ao t (.pv p) (nrm xv) tab=some none) :
  Eff P o ρ K h w (.arr a) h []:=by
 obtain⟨e,sz,by_,zc,h1,h2,h3,h4,h5,h6⟩:=qm ht hl;have hx':=qK hR (hρ x _ hx) h6;obtain⟨i,z,hi,_,_⟩:=dG (K:=K) h4;have hsv:=hρ s _ hs;obtain⟨base,n,cap,hse,hn⟩:∃base n cap,ρ s=.slice base n cap∧n≤cap:=by
  generalize ρ s=sv at hsv;cases hsv with
  |arr _ g cap hm hnc hz=>exact⟨_,_,cap,rfl,hnc⟩
 obtain⟨a',c,hxe⟩:∃a c,ρ x=.slice a 0 c:=by
  rcases hx' with hx'|⟨_,hx'⟩
  ·generalize ρ x=xv at hx'
   cases hx' with
   |rows _ a cap g off sz us ha hn _ _ _=>exact⟨a,cap,rfl⟩
  ·exact⟨none,0,hx'⟩
 refine⟨_,ρ s,w,K,dQ ha hts ho (v:=ρ s) ?_,.inl rfl,hsv,Step.refl H,lF.refl _ _⟩;rw[hse,hxe];exact jW t o.type e i h1 hi base a' n cap c hn w
theorem JQ{R:Nat→PV}{P:Program}{tab:List SF}(ht:cK R P tab){o:Oper}{ρ:Operand→Value}{ρA:Operand→Option AV}{K:Kn}{h:List af}{w:World}(hR:K.R=R)(H:WR K h w)(hρ:∀x v,ρA x=some v→VR K v (ρ x))
  {args:Array Operand} {s x:Operand} (ha:args.toList=[s,x]) {t:TypeId} {ts:Array TypeId} (hts:ts.toList=[t,t]) (ho:o.op=.call ⟨.builtin .append,args,ts⟩) {e:TypeId} (hu:P.underlying t=some (.slice e)) {sz:Nat} {sv xv:AV} {j:Nat}
  (hs:ρA s=some sv) (hx:ρA x=some xv) (hsz:mO P e=some sz) (hnil:bU sv=true) (hl:vC t (nrm sv) (nrm xv) tab=some j) :
  Eff P o ρ K h w (.arr h.length) (h++[.arr e sz (.sym j)]) []:=by
 obtain⟨⟨e',sz',by_,zc,es,es',a1,a2,a3,a4,a5,a6,a7,a8,a9,a10,a11,a12,a13⟩,hns⟩:=tu ht hl;rw[hu] at a1;cases a1;rw[hsz] at a2;cases a2;have hes:es=[]:=by
  rcases qK hR (hρ s _ hs) a7 with h1|h1
  ·have key:∀v,PR K.R K.M (.rows es) v→v=.slice none 0 0→es=[]:=by
    intro v h e;cases h with
    |rows _ a cap g off sz us=>injection e with _ e2 _;exact List.length_eq_zero_iff.1 e2
   exact key _ h1 (iG (hρ s _ hs) hnil)
  ·exact h1.1
 subst hes;have hxv:=sN hR (hρ x _ hx) a8;have hel':∀k (h:k<es'.length),es'[k].length=sz:=fun k hk=>a10 _ (List.getElem_mem hk)
 obtain⟨gx,ox,capx,news,hxe,hnl,hnM,hnP⟩:=xF hxv a9 hel' a5;have hncell:∀j u,news[j]? = some u→w.cell? ((⟨gx,ox,none⟩:Addr).add j)=some u:=fun j u hj=>by rw[add_mid];exact H.agr _ _ _ (hnM j u hj)
 obtain⟨i,z,hi,hiz,hvz⟩:=dG (K:=K) a4;have his:i.size=sz:=by unfold mO at hsz;rw[hi] at hsz;simpa using hsz
 have hib:i.bytes=by_:=by unfold iT at a3;rw[hi] at a3;simpa using a3
 have hzs:z.cells.size=sz:=by have:=hvz.1;simp at this;omega
 have hlpos:0<es'.length:=List.length_pos_iff.2 a9;have hse:=iG (hρ s _ hs) hnil;simp only[List.length_nil,Nat.zero_add] at a11 a12;have hrun:=run_append_nil (P:=P) w t o.type e i z hu hi hiz ⟨gx,ox,none⟩ es'.length capx news (by rw[his];exact hnl) hncell (by omega) (by omega) (by rw[hib];omega);rw[←hse,←hxe] at hrun;have hge:=grownCap_ge w es'.length 0 e;have hcm:=grownCap_le_maxLen w es'.length 0 e (by unfold maxLen;omega);generalize grownCap w es'.length 0 e=cap at *;generalize hcur:news.toArray++Builtin.zeroCells z.cells (cap-es'.length)=cur at hrun;have hcurs:cur.size=cap*sz:=by
  rw[←hcur];simp only[Array.size_append,List.size_toArray,size_zeroCells,hzs,hnl,←Nat.add_mul];congr 1;omega
 obtain⟨K',st,m1,m2,m3,m4⟩:=Step.putArr H (h1:=h) (w':=w.drew.alloc (.cells cur e)) e sz (.sym j) w.heap.size cap cur es' (by rw[hR,ak];exact a13) (by rw[a13,EW] at hns;exact hns) (heap_alloc_new w.drew _) hcurs hcm hge hel' (fun k hk jj hj=>by
   obtain⟨v,b1,b2⟩:=hnP k hk jj hj;refine⟨v,?_,b2⟩;rw[←hcur,←Array.getElem?_toList];have e5:(news.toArray++Builtin.zeroCells z.cells (cap-es'.length)).toList=news++(Builtin.zeroCells z.cells (cap-es'.length)).toList:=by simp
   rw[e5,List.getElem?_append_left (by rw[hnl];exact pQ hk (by rw[←hel' k hk];exact hj))];exact b1)
  (by simp) (lF.drewAlloc _ _ _) (fun o=>H.noM (Nat.le_refl _) o) rfl (fun j x hj _=>⟨hj,fun hm=>by have:=H.lt j _ hm;omega⟩) (fun i hi=>by have:=H.lt i _ hi;omega) (.inl (Nat.le_refl _))
 refine⟨_,_,_,K',dQ ha hts ho hrun,.inl rfl,?_,st,lF.drewAlloc _ _ _⟩;have:=VR.arr (K:=K') h.length w.heap.size cap m1 (by rw[m2];exact hge) (by rw[m3];exact Nat.le_refl _);rw[m2] at this;exact this
theorem Pw:∀(l:List (List PV)) (n:Nat),ku l=true→ku (l.take n)=true
 |[],n,_=>by simp[ku]
 |c::l,n,hl=>by
  rw[ku,Bool.and_eq_true] at hl;cases n with
  |zero=>rfl
  |succ n=>rw[List.take_succ_cons,ku,hl.1,Pw l n hl.2];rfl
theorem Aa{P:Program}{t:TypeId}{ρ:Operand→Option AV}{es:List (List PV)}{l:Operand}{hi mx:Option Operand}(hl:ρ l=some (.pv (.lit (.int .i64 0)))):lQ P t ρ (.pv (.rows es)) (some l) hi mx=lQ P t ρ (.pv (.rows es)) none hi mx:=by
 simp only[lQ,rowsOf];have:rM ρ 0 (some l)=some 0:=by simp[rM,hl,su]
 rw[this];rfl
theorem JR{R:Nat→PV}{P:Program}{tab:List SF}(ht:cK R P tab){o:Oper}{ρ:Operand→Value}{ρA:Operand→Option AV}{K:Kn}{h:List af}{w:World}(hR:K.R=R)(H:WR K h w)(hρ:∀x v,ρA x=some v→VR K v (ρ x))
  {t:TypeId} {x y:Operand} (ho:o.op=.slice t x none (some y) none) {a:Nat} {q:PV} {yv:AV} {e ty:TypeId} {sz:Nat} {p:PV} (hx:ρA x=some (.arr a)) (hy:ρA y=some yv) (hu:P.underlying t=some (.slice e)) (hrow:yJ h a=some (ty,sz,p))
  (hf:Dq t (.pv p) (some (.pv (.lit (.int .i64 0)))) (some (nrm yv)) tab=some (.pv q)) (hs:mO P e=some sz):Eff P o ρ K h w (.arr h.length) (h.set a .dead++[.arr ty sz q]) [a]:=by
 obtain⟨g,cur,hm,hw,⟨hcs,hZ⟩,hr⟩:=H.arr a ty sz p (gJ hrow);obtain⟨es,he,hns,hlen,hZ0,hel,hcell⟩:=hr.row;have hE:=hr.el;rw[hE] at hel hcell hcs;have k:=xR ht hf (fun w=>match w with | .tmp 0=>some (.pv (.lit (.int .i64 0)))|_=>some (ah R (nrm yv))) (some (.tmp 0)) (some (.tmp 1)) rfl rfl;rw[hR] at he;rw[ah,he,Aa rfl] at k;obtain⟨kd,r,hrl,hyo,hq⟩:∃(kd:IntKind) (r:Nat),r≤es.length∧ah R (nrm yv)=.pv (.lit (.int kd (r:Int)))∧ak R q=.rows (es.take r):=by
  simp only[lQ,rowsOf,hu,rM,hs] at k;cases hi:su (ah R (nrm yv)) with
  |none=>simp[hi] at k
  |some m=>
   rw[hi] at k;have hlit:∃kd,ah R (nrm yv)=.pv (.lit (.int kd m)):=by
    unfold su at hi;split at hi
    ·rename_i kd m' heq;cases hi;exact⟨kd,heq⟩
    ·cases hi
   obtain⟨kd,hkd⟩:=hlit;by_cases h0:0≤m
   ·simp only[h0,if_true,hs] at k
    split at k
    ·rename_i hc
     refine⟨kd,m.toNat,hc.2.1,by rw[hkd,Int.toNat_of_nonneg h0],?_⟩;rw[ah] at k;injection k with k
     injection k with k
     rw[←k];simp
    ·cases k
   ·simp[h0] at k
 have hye:ρ y=.int kd (r:Int):=by
  have hv1:=((hρ y yv hy).nrm).opened hR;rw[hyo] at hv1;generalize ρ y=z at hv1;cases hv1 with|pv hv2=>cases hv2;rfl
 have hlt:(es.take r).length=r:=by simp;omega
 have hxv:=hρ x _ hx;generalize hxe:ρ x=xv at hxv;cases hxv with
 |arr _ g' cap hm' hnc hcap=>
  rw[hm] at hm';cases hm';obtain⟨K',st,m1,m2,m3,m4⟩:=Step.putArr H (h1:=h.set a .dead) (w':=w) ty sz q g (K.Z g) cur (es.take r) (by rw[hR];exact hq) (Pw es r hns) hw hcs hZ (by omega) (fun k hk=>by
    rw[List.getElem_take];exact hel k (by omega)) (fun k hk jj hj=>by
    rw[List.getElem_take] at hj;obtain⟨v,b1,b2⟩:=hcell k (by omega) jj hj;refine⟨v,b1,?_⟩;simp only[List.getElem_take];exact b2)
   (Br hw) (lF.refl _ w) hr.none (by simp) (fun j x hj hl=>by
    obtain⟨h2,h3⟩:=IK j x hj hl;exact⟨h2,fun e=>h3 (H.inj j a x _ g h2 (gJ hrow) hl rfl e hm)⟩) (fun _ _=>⟨rfl,hE⟩) (.inr ⟨a,_,gJ hrow,rfl,hm⟩)
  rw[hlt] at m2;have hv:=VR.arr (K:=K') h.length g cap m1 (by rw[m2];omega) (by rw[m3];omega);rw[m2] at hv;refine⟨.value (.slice (some ⟨g,0,none⟩) r cap),_,w,K',?_,.inl rfl,hv,st,lF.refl _ _⟩;have hb1:∀(w':World) k c,(Instr.sliceBound (.int k (r:Int)) cap c).run P w'=.ok r w':=fun w' k c=>run_sliceBound w' k r cap c (by omega)
  simp[execOp,ho,hxe,hye,hb1,Instr.sliceAt,Instr.slice,Instr.sliceBounds,run_underlying hu,iq hs,Addr.add_lit]
theorem anZ{h:List af}{a:Nat}{ty:TypeId}{sz:Nat}{q:PV}:yJ (h.set a .dead++[.arr ty sz q]) h.length=some (ty,sz,q):=by
 have:(h.set a af.dead++[af.arr ty sz q])[h.length]? = some (.arr ty sz q):=by rw[List.getElem?_append_right (by simp)];simp
 simp[yJ,this]
theorem JS{R:Nat→PV}{P:Program}{tab:List SF}(ht:cK R P tab){o:Oper}{ρ:Operand→Value}{ρA:Operand→Option AV}{K:Kn}{h:List af}{w:World}(hR:K.R=R)(H:WR K h w)(hρ:∀x v,ρA x=some v→VR K v (ρ x))
  {t:TypeId} {len:Nat} {parts:Array (Nat×Operand)} {ps:List (Nat×AV)} {e:TypeId} {s:Nat} {pvs:List PV} {j:Nat}
  (ho:o.op=.buildSlice t len parts) (hps:nU ρA parts.toList=some ps) (hb:O3 P t len ps=some (e,s,pvs)) (hk:vC t (.pv (.rows [])) (.pv (.rows (chunk s len pvs))) tab=some j) :
  Eff P o ρ K h w (.arr h.length) (h++[.arr e s (.sym j)]) []:=by
 obtain⟨⟨e',sz',by_,zc',es,es',a1,a2,a3,a4,a5,a6,a7,a8,a9,a10,a11,a12,a13⟩,hns⟩:=tu ht hk;unfold O3 at hb;split at hb
 ·rename_i e0 hu
  split at hb
  ·rename_i zc s' hz hs
   split at hb
   ·rename_i hc
    split at hb
    ·rename_i out hf
     split at hb
     ·rename_i pvs' hp
      cases hb;rw[hu] at a1;cases a1;rw[hs] at a2;cases a2;have hes:es=[]:=by
       rw[ah,ak] at a7;simpa[gK,bU,rowsOf,bO] using a7.symm
      subst hes;have hes':es'=bO R (chunk s len pvs):=by
       rw[ah,ak] at a8;simpa[rowsOf] using a8.symm
      obtain⟨ie,z,hi,hiz,hvz⟩:=dG (K:=K) hz;obtain⟨h1,h2⟩:=kV hρ _ _ hps;have hies:ie.size=s:=by unfold mO at hs;rw[hi] at hs;simpa using hs
      obtain⟨us,hfill,hvu⟩:=kG _ ps (gQ ρ parts.toList) _ ((Array.range (len*s)).map (z.cells[· % z.cells.size]!)) out (ny hvz (by omega) _) h1 h2 hf;obtain⟨hpl,hpr⟩:=mo hvu hp;have hout:∀(ps:List (Nat×AV)) (cells out:List AV),qp (fun i=>some (i*s,s)) cells ps=some out→out.length=cells.length:=by
       intro ps
       induction ps with
       |nil=>intro cells out hf;cases hf;rfl
       |cons q ps ih=>
        intro cells out hf;obtain⟨qi,qv⟩:=q;simp only[qp] at hf;split at hf
        ·cases hf
        ·rename_i hcond
         rw[ih _ _ hf];simp[setAt];omega
      have hol:=hout _ _ _ hf;have hzl:(kQ zc (len*s)).length=len*s:=by simp[kQ]
      have husz:us.size=len*s:=by have:=hvu.1;simp at this;omega
      have hlen:len≤16777216:=Nat.le_trans (Nat.le_mul_of_pos_right len hc.1) hc.2.2;have hrun:(execOp ρ o).run P w=.ok (.value (.slice (some ⟨w.heap.size,0,none⟩) len len)) (w.alloc (.cells us e)):=by
       have hp':(parts.map fun(i,x)=>(i,ρ x)).toList=gQ ρ parts.toList:=by simp[gQ]
       by_cases h0:len*s=0
       ·have hl0:len=0:=by
         rcases Nat.mul_eq_zero.1 h0 with h0|h0
         ·exact h0
         ·omega
        subst hl0;have e0:∀f:Nat→Value,(Array.range (0*s)).map f = #[]:=fun f=>by apply Array.ext';simp
        rw[e0] at hfill;simp only[execOp,ho,Instr.buildSlice,Sem.run_bind,run_underlying hu,Result.andThen_ok,iq hs];rw[if_neg (by simp),if_pos (by simp)];simp only[Sem.run_bind,Sem.run_pure,Result.andThen_ok,e0,hp',hfill];simp[newRow]
       ·have:=run_buildSlice (P:=P) w t e len (parts.map fun(i,x)=>(i,ρ x)) us ie z hu hi hiz (by rw[hies];have:=hc.2.2;omega) (by rw[hies];exact h0) (by rw[hies,hp'];exact hfill)
        simp only[execOp,ho,Sem.run_bind,this,Result.andThen_ok,Sem.run_pure]
      have hcl:(chunk s len pvs).length=len:=zI _ _ _;have hel':es'.length=len:=by rw[hes',eT,List.length_map];exact hcl
      obtain⟨K',st,m1,m2,m3,m4⟩:=Step.putArr H (h1:=h) (w':=w.alloc (.cells us e)) e s (.sym j) w.heap.size len us es' (by rw[hR,ak];simpa using a13) (by rw[a13,EW] at hns;simpa using hns) (heap_alloc_new w _) husz (by unfold maxLen;omega) (by omega)
       (fun k hk=>a10 _ (List.getElem_mem hk)) (fun k hk jj hj=>by
        have hk':k<len:=by omega
        have hjs:jj<s:=by rw[a10 _ (List.getElem_mem hk)] at hj;exact hj
        have hca:=yA s len pvs (by rw[hpl];simpa using husz) k (by rw[hcl];exact hk');have hj2:jj<(chunk s len pvs)[k].length:=by rw[hca.1];exact hjs
        have hg:=hca.2 jj hj2;have hlt:k*s+jj<pvs.length:=by
         by_cases hh:k*s+jj<pvs.length
         ·exact hh
         ·rw[List.getElem?_eq_none (by omega)] at hg;cases hg
        have hlt':k*s+jj<us.toList.length:=by omega
        refine⟨us.toList[k*s+jj],?_,?_⟩
        ·rw[←Array.getElem?_toList,List.getElem?_eq_getElem hlt']
        ·have hpv:=hpr (k*s+jj) hlt hlt'
         rw[List.getElem?_eq_getElem hlt] at hg;rw[Option.some.inj hg] at hpv;have hop:=hpv.opened;rw[hR] at hop;have he:es'[k][jj]=ak R (chunk s len pvs)[k][jj]:=by
          have:es'[k]=aS R (chunk s len pvs)[k]:=by simp only[hes',eT,List.getElem_map]
          simp only[this,bY,List.getElem_map]
         rw[he];rw[←hR] at hop ⊢;exact hop)
       (by simp) ((lF.alloc (fun _=>False) w _).mono (fun _ _ h=>h.elim)) (fun o=>H.noM (Nat.le_refl _) o) rfl (fun j x hj _=>⟨hj,fun hm=>by have:=H.lt j _ hm;omega⟩) (fun i hi=>by have:=H.lt i _ hi;omega) (.inl (Nat.le_refl _))
      refine⟨.value (.slice (some ⟨w.heap.size,0,none⟩) len len),_,_,K',hrun,.inl rfl,?_,st,lF.alloc _ _ _⟩;have:=VR.arr (K:=K') h.length w.heap.size len m1 (by rw[m2,hel'];exact Nat.le_refl _) (by rw[m3];exact Nat.le_refl _);rw[m2,hel'] at this;exact this
     ·cases hb
    ·cases hb
   ·cases hb
  ·cases hb
 ·cases hb
theorem OT{R:Nat→PV}{P:Program}{tab:List SF}(ht:cK R P tab){o:Oper}{ρ:Operand→Value}{ρA:Operand→Option AV}{K:Kn}{h:List af}{w:World}(hR:K.R=R)(H:WR K h w)(hρ:∀x v,ρA x=some v→VR K v (ρ x)){v:AV}{h':List af}{touch:List Nat}
  (hq:aiU tab P ρA h o.op=some (v,h',touch)):Eff P o ρ K h w v h' touch:=by
 unfold aiU at hq;split at hq
 ·rename_i t len parts ho
  split at hq
  ·cases hq
  ·split at hq
   ·rename_i ps hps
    split at hq
    ·rename_i e s pvs hb
     split at hq
     ·rename_i j hk
      cases hq;exact JS ht hR H hρ ho hps hb hk
     ·cases hq
    ·cases hq
   ·cases hq
 ·rename_i t x y ho
  split at hq
  ·rename_i a ip off va hx hy
   split at hq
   ·rename_i ty sz p c s hrow hc hs
    split at hq
    ·rename_i j hl
     split at hq
     ·rename_i hcond
      cases hq;exact EK ht hR H hρ ho hx hy hrow hc hs hl hcond.1 hcond.2
     ·cases hq
    ·cases hq
   ·cases hq
  ·cases hq
 ·rename_i t x y ho
  split at hq
  ·rename_i a yv hx hy
   split at hq
   ·rename_i ty sz p e hrow hu
    split at hq
    ·rename_i q s hf hs
     split at hq
     ·rename_i hc
      cases hq;subst hc;exact JR ht hR H hρ ho hx hy hu hrow hf hs
     ·cases hq
    ·cases hq
   ·cases hq
  ·cases hq
 ·rename_i t l c ho
  split at hq
  ·rename_i lv cv hl hc
   split at hq
   ·rename_i j e hk he hu
    split at hq
    ·rename_i sz hs
     cases hq;exact Fz ht hR H hρ ho hl hc hk he hu hs
    ·cases hq
   ·cases hq
  ·cases hq
 ·rename_i args ts ho
  split at hq
  ·rename_i s x t t' ha hts
   split at hq
   ·rename_i e sv xv ht' hu hs hx
    have htt:t=t':=by simpa using ht'
    subst htt;split at hq
    ·rename_i a sz hsz
     split at hq
     ·rename_i ty sz' p hrow
      split at hq
      ·rename_i j hl
       split at hq
       ·rename_i hcond
        cases hq;obtain⟨rfl,rfl⟩:=hcond;exact JU ht hR H ha hts ho hu (hρ s _ hs) (hρ x _ hx) hsz hrow hl
       ·cases hq
      ·split at hq
       ·rename_i hl
        cases hq;exact FB ht hR H hρ ha hts ho hs hx hl
       ·cases hq
     ·cases hq
    ·rename_i sz hsz
     split at hq
     ·rename_i j hnil hl
      cases hq;exact JQ ht hR H hρ ha hts ho hu hs hx hsz hnil hl
     ·cases hq
    ·cases hq
   ·cases hq
  ·cases hq
 ·cases hq
theorem OM{R:Nat→PV}{P:Program}{tab:List SF}(ht:cK R P tab){o:Oper}{ρ:Operand→Value}{ρA:Operand→Option AV}{K:Kn}{h:List af}{w:World}(hR:K.R=R)(H:WR K h w)(hρ:∀x v,ρA x=some v→VR K v (ρ x)){v:AV}{h':List af}{touch:List Nat}
  (hq:aiO tab P o.op ρA h=some (v,h',touch)):Eff P o ρ K h w v h' touch:=by
 unfold aiO at hq;split at hq
 ·rename_i r hr
  cases hq;exact OT ht hR H hρ hr
 split at hq
 ·rename_i r hr
  cases hq;unfold amk at hr;split at hr
  ·cases hr
  ·exact OO H hρ hr
 split at hq
 ·rename_i r hr
  cases hq;unfold amm at hr;split at hr
  ·cases hr
  ·exact Es H hρ hr
 split at hq
 ·rename_i r hr
  cases hq;rw[ae4] at hr;exact Ve H hρ hr
 split at hq
 ·rename_i r hr
  cases hq;exact Es H hρ hr
 ·unfold amo at hq
  split at hq
  ·rename_i args ts ho
   split at hq
   ·rename_i s x t t' hop hts
    split at hq
    ·rename_i e
     subst e;obtain⟨so,xo,hargs⟩:∃so xo,args.toList=[so,xo]:=by
      have:=(iJ hρ _ _ hop).1
      match hargs:args.toList with
      |[]=>rw[hargs] at this;simp at this
      |[_]=>rw[hargs] at this;simp at this
      |[a,b]=>exact⟨a,b,rfl⟩
      |_::_::_::_=>rw[hargs] at this;simp at this
     have hv:=iJ hρ _ _ hop;rw[hargs] at hv;exact Pf ht hR H hargs hts ho (hv.2 0 (by simp) (by simp)) (hv.2 1 (by simp) (by simp)) hq
    ·cases hq
   ·cases hq
  ·cases hq
def Sd(r:AV×List af×List Nat):Option (AV×List af×List Nat):=match dW r.1 with
 |none=>some r
 |some _=>none
theorem Dh{r r':AV×List af×List Nat}(h:Sd r=some r'):r=r'∧dW r'.1=none:=by
 unfold Sd at h;split at h
 ·rename_i hn;cases h;exact⟨rfl,hn⟩
 ·cases h
def YE(ρ:Operand→Option AV):Op→Option AV
 |.panic x=>match ρ x with
  |some (.ifc t v)=>some (.ifc t v)
  |_=>none
 |_=>none
def M5(P:Program)(call:Nat→List AV→List af→Option (AV×List af))(okf:Nat→Bool)(tab:List SF)(o:Oper)(sl:Env)(h:List af):Option (AV×List af×List Nat):=
 match WZ tab P o.op o.type (Uf sl) h with
 |some (v,_)=>Sd (v,h,[])
 |none=>match aiO tab P o.op (Uf sl) h with
  |some r=>Sd r
  |none=>match callee (Uf sl) o.op with
   |some (g,args)=>if okf g then JA call g args h else none
   |none=>match YE (Uf sl) o.op with
    |some x=>some (.tup [.tup [],x],h,[])
    |none=>none
def sS(n:Nat)(sl:Env)(d:Option Tmp)(v:AV):Env:=match d with
 |some d=>match Nat.blt d n with
  |true=>(d,v)::sl
  |false=>[]
 |none=>sl
theorem dA{K:Kn}{n:Nat}{sl:Env}{a:Act}(h:bF K n sl a.tmps){v:AV}{u:Value}(hv:VR K v u)(d:Option Tmp):bF K n (sS n sl d v) (a.put d u).tmps∧(a.put d u).defers=a.defers:=by
 cases d with
 |none=>exact⟨h,rfl⟩
 |some d=>
  refine⟨?_,rfl⟩;show bF K n (match Nat.blt d n with|true=>(d,v)::sl|false=>[]) (a.tmps.setIfInBounds d u);cases hb:Nat.blt d n with
  |false=>exact⟨by simpa using h.1,fun d v hd=>by cases hd⟩
  |true=>
   have hlt:(d:Nat)<n:=Nat.le_of_ble_eq_true hb;have hlt':(d:Nat)<a.tmps.size:=Nat.lt_of_lt_of_le hlt h.1;refine⟨by simpa using h.1,fun k x hk=>?_⟩;simp only[look] at hk;cases hq:Nat.beq d k with
   |true=>
    rw[hq] at hk;cases hk;have e:(d:Nat)=k:=Nat.eq_of_beq_eq_true hq;subst e;have:(a.tmps.setIfInBounds d u).getD d Go.undef=u:=by simp[Array.getD,hlt']
    rw[this];exact hv
   |false=>
    rw[hq] at hk;have e:(d:Nat)≠k:=Nat.ne_of_beq_eq_false hq;have:(a.tmps.setIfInBounds d u).getD k Go.undef=a.tmps.getD k Go.undef:=by
     simp only[Array.getD_eq_getD_getElem?];rw[Array.getElem?_setIfInBounds_ne e]
    rw[this];exact h.2 k x hk
inductive bB where
 |normal
 |exit (id:Nat)
 |ret
 |pan
def bB.out:bB→Exit
 |.normal=>.normal
 |.exit id=>.exit id
 |.ret=>.ret
 |.pan=>.outgrown
def Fq(n:Nat)(tm:Array Value)(u:Value):Array Value:=if n<tm.size then tm.setIfInBounds n u else tm.push u
theorem FY{n:Nat}{tm:Array Value}{u:Value}(h:n≤tm.size):n≤(Fq n tm u).size:=by
 unfold Fq;split<;>simp<;>omega
theorem uH{n:Nat}{tm:Array Value}{u:Value}(h:n≤tm.size):(Fq n tm u).getD n Go.undef=u:=by
 unfold Fq;split
 ·rename_i hl;simp[Array.getD,hl]
 ·rename_i hl
  have:tm.size=n:=by omega
  subst this;simp[Array.getD]
theorem Bg{n k:Nat}{tm:Array Value}{u:Value}(h:n≤tm.size)(hk:n≠k):(Fq n tm u).getD k Go.undef=tm.getD k Go.undef:=by
 unfold Fq;split
 ·simp only[Array.getD_eq_getD_getElem?]
  rw[Array.getElem?_setIfInBounds_ne hk]
 ·have:tm.size=n:=by omega
  subst this;simp only[Array.getD_eq_getD_getElem?];by_cases hlt:k<tm.size
  ·rw[Array.getElem?_push_lt hlt,Array.getElem?_eq_getElem hlt]
  ·rw[Array.getElem?_eq_none (by simp;omega),Array.getElem?_eq_none (by omega)]
def r9(n:Nat)(ex:bB)(e:Exit)(a':Act)(tm:Array Value):Prop:=match ex with
 |.pan=>n≤a'.tmps.size∧∃u,e=.panic [{v:=u,recovered:=false }]∧tm=Fq n a'.tmps u
 |ex=>e=ex.out∧tm=a'.tmps
def rX:List Nat→Env→Env
 |[],_=>[]
 |d::ks,e=>match look e d with
  |some v=>(d,v)::rX ks e
  |none=>rX ks e
theorem qZ{e:Env}{d:Nat}{v:AV}:∀{ks:List Nat},look (rX ks e) d=some v→look e d=some v
 |[],h=>by cases h
 |k::ks,h=>by
  rw[rX] at h;split at h
  ·rename_i x hx
   simp only[look] at h;split at h
   ·rename_i hb
    cases h;rw[←Nat.eq_of_beq_eq_true hb];exact hx
   ·exact qZ h
  ·exact qZ h
theorem bF.keep{K:Kn}{n:Nat}{e:Env}{tm:Array Value}(h:bF K n e tm)(ks:List Nat):bF K n (rX ks e) tm:=⟨h.1,fun d v hd=>h.2 d v (qZ hd)⟩
def UO(n:Nat)(rs:List Nat)(sl:Env)(x:AV):Env:=(n,x)::rX rs sl
theorem qQ{K:Kn}{n:Nat}{rs:List Nat}{sl:Env}{tm:Array Value}{x:AV}{u:Value}(h:bF K n sl tm)(hx:VR K x u):bF K n (UO n rs sl x) (Fq n tm u):=by
 refine⟨FY h.1,fun d v hd=>?_⟩;simp only[UO,look] at hd;cases hb:Nat.beq n d with
 |true=>
  rw[hb] at hd;cases hd;rw[←Nat.eq_of_beq_eq_true hb,uH h.1];exact hx
 |false=>
  rw[hb] at hd;rw[Bg h.1 (Nat.ne_of_beq_eq_false hb)];exact h.2 d v (qZ hd)
def wX(ops:Array Oper)(sl:Env)(o:Oper):Option Bool:=match o.guard with
 |none=>some true
 |some (j,b)=>match(ops[j]?).bind (·.dst) with
  |some d=>match look sl d with
   |some (.pv (.lit (.bool c)))=>some (c==b)
   |some (.tup [])=>some false
   |_=>none
  |none=>none
theorem di{K:Kn}{n:Nat}{ops:Array Oper}{sl:Env}{a:Act}(h:bF K n sl a.tmps){o:Oper}{b:Bool}(hw:wX ops sl o=some b):Region.wanted o (yielded ops a.tmps)=b:=by
 unfold wX at hw;unfold Region.wanted;cases hg:o.guard with
 |none=>rw[hg] at hw;cases hw;rfl
 |some p=>
  obtain⟨j,c⟩:=p;rw[hg] at hw;simp only at hw ⊢;cases hd:(ops[j]?).bind (·.dst) with
  |none=>rw[hd] at hw;cases hw
  |some d=>
   rw[hd] at hw;simp only at hw;have key:∀x:Value,a.tmps.getD d Go.undef=x→(yielded ops a.tmps j==some c)=(match x with | .bool e=>e==c|_=>false):=by
    intro x hx;unfold yielded;rw[hd];simp only[Option.bind_some];by_cases hlt:d<a.tmps.size
    ·have e1:a.tmps[d]? = some a.tmps[d]:=Array.getElem?_eq_getElem hlt
     have e2:a.tmps[d]=x:=by simpa[Array.getD,hlt] using hx
     rw[e1,e2];cases x<;>simp
    ·have e1:a.tmps[d]? = none:=Array.getElem?_eq_none (Nat.le_of_not_lt hlt)
     have e2:x=Go.undef:=by rw[←hx];simp[Array.getD,hlt]
     rw[e1,e2];simp[Go.undef]
   split at hw
   ·rename_i e he
    cases hw;have hs:=h.2 d _ he;rw[key _ (eO hs rfl)]
   ·rename_i he
    cases hw;have hs:=h.2 d _ he;generalize hx:a.tmps.getD d Go.undef=x at hs;cases hs with
    |tup _ cs hl _=>
     rw[key _ hx]
   ·cases hw
section
variable{P:Program}{call:Nat→List AV→List af→Option (AV×List af)}{okf:Nat→Bool}{tab:List SF}{R:Nat→PV}{ops:Array Oper}{Q:Exit→Act→World→Prop}
theorem j5(hcall:dJ R P call)(htab:cK R P tab)(hok:∀f,okf f=true→callable P f=true){n:Nat}{o:Oper}{sl:Env}{h:List af}{v:AV}{h':List af}{touch:List Nat}(ha:M5 P call okf tab o sl h=some (v,h',touch))
  {K:Kn} {w:World} {a:Act} (hR:K.R=R) (H:WR K h w) (hs:bF K n sl a.tmps) {next:Act→World→Prop}
  (hn:∀K' w' u,dW v=none→VR K' v u→Step K h w K' h' w'→lF (K.at h touch) w w'→next (a.put o.dst u) w')
  (hp:∀x K' w' u,dW v=some x→VR K' x u→Step K h w K' h' w'→Q (.panic [{v:=u,recovered:=false }]) a w'):o.wp P a w next Q:=by
 have hρ:∀x v,Uf sl x=some v→VR K v (a.eval x):=fun x v hx=>kL hs hx
 unfold M5 at ha;split at ha
 ·rename_i v' d hq
  obtain⟨e1,e2⟩:=Dh ha;cases e1;obtain⟨u,hu,hr⟩:=vR (o:=o) (ρ:=a.eval) htab hR H hρ hq;have:=hr w H.agr (fun _ _ _ _=>rfl);unfold Oper.wp;rw[this];exact hn K w u e2 hu (Step.refl H) (lF.refl _ _)
 ·split at ha
  ·rename_i r he
   obtain⟨e1,e2⟩:=Dh ha;subst e1;obtain⟨n,u,w',K',hrun,hnu,hv,hst,hf⟩:=OM (o:=o) (ρ:=a.eval) htab hR H hρ he;unfold Oper.wp;rw[hrun];rcases hnu with rfl|⟨rfl,rfl⟩
   ·exact hn K' w' u e2 hv hst hf
   ·exact hn K' w' _ e2 hv hst hf
  ·split at ha
   ·rename_i g args hc
    split at ha
    ·rename_i hg
     obtain⟨hs0,args',v0,hs',h1,h2,h3,h4,h5,h6⟩:=Aq ha (fun hr=>lT _ args hr)
     -- the operation enters the callee
     have hex:∃us:List Value,VL K args us∧(execOp a.eval o).run P w=.ok (.enter g us.toArray) w:=by
      unfold callee at hc;split at hc
      ·rename_i f as ts ho
       split at hc
       ·rename_i g' caps vs hf hvs
        have hfv:=hρ f _ hf;generalize hfe:a.eval f=fv at hfv;have hvl:=iJ hρ _ _ hvs;split at hc
        rotate_left
        ·rename_i hb
         obtain⟨e1,e0⟩:=Prod.mk.inj (Option.some.inj hc);generalize hg3:EH=bd at *;subst e1;subst e0;clear hc;cases hfv with
         |fn _ _ cs hl hh hlt=>rw[show Nat.blt g' bd=true from Nat.ble_eq_true_of_le (by rw[←hg3];exact hlt)] at hb;cases hb
         |bfn f2 _ _ cs hl hh hg2=>
          have e2:g'-bd=f2:=by omega
          rw[e2] at hg ⊢;refine⟨cs++as.toList.map a.eval,VL.append ⟨hl,hh⟩ hvl,?_⟩;have hcal:=hok f2 hg;unfold callable at hcal;split at hcal
          ·rename_i fn hfn
           rw [Bool.and_eq_true] at hcal;obtain ⟨b1, b2⟩ := hcal;have b3 : (fn.name == "runtime.NumGoroutine") = false := by simpa using b2
           have b4:fn.body.isNone=false:=by cases hb:fn.body<;>simp_all
           simp only[execOp,ho,resolve,Deferred.ofValue,hfe,invoke,callFunc,Sem.run_bind,Sem.run_pure,Result.andThen_ok,run_program,hfn,b3,b4,Bool.false_eq_true,if_false,o8 a.eval as];simp
          ·cases hcal
        rename_i hb;cases hc;cases hfv with
        |bfn f2 _ _ cs hl hh hg2=>
         have:=Nat.le_of_ble_eq_true hb;omega
        |fn _ _ cs hl hh _=>
         refine⟨as.toList.map a.eval++cs,hvl.append ⟨hl,hh⟩,?_⟩;have hcal:=hok g hg;unfold callable at hcal;split at hcal
         ·rename_i fn hfn
          rw [Bool.and_eq_true] at hcal;obtain ⟨b1, b2⟩ := hcal;have b3 : (fn.name == "runtime.NumGoroutine") = false := by simpa using b2
          have b4:fn.body.isNone=false:=by cases hb:fn.body<;>simp_all
          simp only[execOp,ho,resolve,Deferred.ofValue,hfe,invoke,callFunc,Sem.run_bind,Sem.run_pure,Result.andThen_ok,run_program,hfn,b3,b4,Bool.false_eq_true,if_false,o8 a.eval as];simp
         ·cases hcal
       ·cases hc
      ·cases hc
     obtain⟨us,hvl,hrun⟩:=hex;unfold Oper.wp;rw[hrun];have hcs:=hcall g args' hs0 v0 hs' h4 (K.sub touch) w us hR (H.sub h1 h2) (qL (Ren.sub K touch) hvl h3);refine hcs.mono ?_;rintro e w' ⟨K',hv,hst⟩;obtain⟨m1,m2,m3⟩:=sW H h1 h2 hst h6;have hv':=hv.ren m2 h5;cases hpv:dW v with
     |none=>
      obtain⟨u,rfl,hu⟩:=hv'.ret hpv;exact hn _ w' u hpv hu m1 m3
     |some x=>
      obtain⟨u,rfl,hu⟩:=hv'.pan hpv;exact hp x _ w' u hpv hu m1
    ·cases ha
   ·split at ha
    ·rename_i x hx
     cases ha;unfold YE at hx;split at hx
     ·rename_i y ho
      split at hx
      ·rename_i t z hy
       cases hx;have hyv:=hρ y _ hy;have hyv':=hyv;generalize hye:a.eval y=yv at hyv;cases hyv with
       |ifc _ hz=>
        rename_i uz;have hrun:(execOp a.eval o).run P w=.halt (.panic (.iface t uz)) w:=by
         simp only[execOp,ho];rw[hye];rfl
        unfold Oper.wp;rw[hrun];exact hp _ K w _ rfl (by rw[hye] at hyv';exact hyv') (Step.refl H)
      ·cases hx
     ·cases hx
    ·cases ha
def MW(P:Program)(call:Nat→List AV→List af→Option (AV×List af))(okf:Nat→Bool)(tab:List SF)(n:Nat)(rs:List Nat)(ops:Array Oper):List Oper→Env→List af→Option (bB×Env×List af)
 |[],sl,h=>some (.normal,sl,h)
 |o::rest,sl,h=>match wX ops sl o with
  |some true=>match M5 P call okf tab o sl h with
   |some (v,h',_)=>match dW v with
    |none=>MW P call okf tab n rs ops rest (sS n sl o.dst v) h'
    |some x=>some (.pan,UO n rs sl x,h')
   |none=>none
  |some false=>MW P call okf tab n rs ops rest (sS n sl o.dst (.tup [])) h
  |none=>none
theorem tZ(hcall:dJ R P call)(htab:cK R P tab)(hok:∀f,okf f=true→callable P f=true){n:Nat}{rs:List Nat}:∀(l:List Oper) (sl:Env) (h:List af) (ex:bB) (sl':Env) (h':List af),MW P call okf tab n rs ops l sl h=some (ex,sl',h')→
  ∀(K:Kn) (w:World) (a:Act),K.R=R→WR K h w→bF K n sl a.tmps→(∀e K' a' w' tm,r9 n ex e a' tm→bF K' n sl' tm→a'.defers=a.defers→Step K h w K' h' w'→Q e a' w')→wpList P ops Q l a w
 |[],sl,h,ex,sl',h',he,K,w,a,hR,H,hs,hq=>by
  cases he;exact hq .normal K a w _ ⟨rfl,rfl⟩ hs rfl (Step.refl H)
 |o::rest,sl,h,ex,sl',h',he,K,w,a,hR,H,hs,hq=>by
  rw[MW] at he;refine wpList_step fun Kp hK=>?_
  split at he
  ·rename_i hw
   rw[di hs hw];simp only[if_true];split at he
   ·rename_i v h1 t ha
    refine j5 hcall htab hok ha hR H hs (fun K' w' u hpn hv hst _=>hK _ _ ?_) (fun x K' w' u hpx hv hst=>?_)
    ·rw[hpn] at he
     obtain⟨p1,p2⟩:=dA (hs.mono hst.ext) hv o.dst;exact tZ hcall htab hok rest _ h1 ex sl' h' he K' w' _ (hst.ext.R.trans hR) hst.wr p1 (fun e K2 a2 w2 tm q0 q1 q2 q3=>hq e K2 a2 w2 tm q0 q1 (q2.trans p2) (hst.trans q3))
    ·rw[hpx] at he
     cases he;exact hq _ K' a w' _ ⟨hs.1,u,rfl,rfl⟩ (qQ (hs.mono hst.ext) hv) rfl hst
   ·cases he
  ·rename_i hw
   rw[di hs hw];simp only[Bool.false_eq_true,if_false];refine hK _ _ ?_;obtain⟨p1,p2⟩:=dA hs (VR.undef K) o.dst;exact tZ hcall htab hok rest _ h ex sl' h' he K w _ hR H p1 (fun e K2 a2 w2 tm q0 q1 q2 q3=>hq e K2 a2 w2 tm q0 q1 (q2.trans p2) q3)
  ·cases he
end
end Go.Proofs.YtijcobeebaceoaaGreatDoor
