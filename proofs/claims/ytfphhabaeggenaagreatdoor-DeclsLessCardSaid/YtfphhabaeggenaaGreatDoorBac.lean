/- Joined texts. -/
import Derived.Test.YtfphhabaeggenaaGreatDoorBab
import Derived.Tactics
set_option linter.all false
namespace Go.Proofs.YtfphhabaeggenaaGreatDoor
open Go.RowKit
def dN:AV→Option AV
 |.tup [.tup [],v]=>some v
 |_=>none
theorem ic{v x:AV}(h:dN v=some x):v=.tup [.tup [],x]:=by
 unfold dN at h;split at h
 ·cases h;rfl
 ·cases h
def gW(K:Kn)(v:AV)(e:Ending):Prop:=match dN v with
 |some x=>∃u,e=.panicked [{v:=u,recovered:=false }]∧VR K x u
 |none=>∃u,e=.returned u∧VR K v u
theorem gW.ret{K:Kn}{v:AV}{e:Ending}(h:gW K v e)(hn:dN v=none):∃u,e=.returned u∧VR K v u:=by
 unfold gW at h;rw[hn] at h;exact h
theorem gW.pan{K:Kn}{v x:AV}{e:Ending}(h:gW K v e)(hn:dN v=some x):∃u,e=.panicked [{v:=u,recovered:=false }]∧VR K x u:=by
 unfold gW at h;rw[hn] at h;exact h
theorem gW.of{K:Kn}{v:AV}{u:Value}(hn:dN v=none)(h:VR K v u):gW K v (.returned u):=by
 unfold gW;rw[hn];exact⟨u,rfl,h⟩
theorem gW.ofPan{K:Kn}{x:AV}{u:Value}(h:VR K x u):gW K (.tup [.tup [],x]) (.panicked [{v:=u,recovered:=false }]):=⟨u,rfl,h⟩
theorem gW.map{K K':Kn}{v v':AV}{e:Ending}(h:gW K v e)(h1:∀x,dN v=some x→∃x',dN v'=some x'∧∀u,VR K x u→VR K' x' u)(h2:dN v=none→dN v'=none∧∀u,VR K v u→VR K' v' u):gW K' v' e:=by
 cases hv:dN v with
 |none=>
  obtain⟨u,rfl,hu⟩:=h.ret hv;exact .of (h2 hv).1 ((h2 hv).2 u hu)
 |some x=>
  obtain⟨u,rfl,hu⟩:=h.pan hv;obtain⟨x',hx',hh⟩:=h1 x hv;rw[ic hx'];exact .ofPan (hh u hu)
theorem acJ{f:Nat→Option Nat}{v v':AV}(h:ren f v=some v'):(∀x,dN v=some x→∃x',dN v'=some x'∧ren f x=some x')∧(dN v=none→dN v'=none):=by
 refine⟨fun x hx=>?_,fun hn=>?_⟩
 ·rw[ic hx,ren] at h
  obtain⟨l,hl,e⟩:=au h;subst e;rw[ku,ku,ku,ren,ku] at hl;simp only[Option.map_some] at hl;cases hx':ren f x with
  |none=>rw[hx'] at hl;cases hl
  |some x'=>rw[hx'] at hl;cases hl;exact⟨x',rfl,rfl⟩
 ·cases hp:dN v' with
  |none=>rfl
  |some y=>
   rw[ic hp] at h;exfalso;cases v with
   |tup l=>
    rw[ren] at h;obtain⟨l',hl,e⟩:=au h;cases e;have h1:=iY hl
    match l,h1,hl,hn with
    |[a,b],_,hl,hn=>
     have ha:=si hl 0 (by simp) (by simp);simp only[List.getElem_cons_zero] at ha;cases a with
     |tup m=>
      rw[ren] at ha;obtain⟨m',hm,e⟩:=au ha;cases e;have h2:=iY hm;cases m with
      |nil=>cases hn
      |cons _ _=>simp at h2
     |pv _=>cases ha
     |cptr _=>cases ha
     |trows _ _=>rw[ren] at ha;obtain⟨_,_,e⟩:=au ha;cases e
     |tsym _ _=>rw[ren] at ha;obtain⟨_,_,e⟩:=au ha;cases e
     |ptr _ _=>rw[ren] at ha;obtain⟨_,_,e⟩:=au ha;cases e
     |agg _=>rw[ren] at ha;obtain⟨_,_,e⟩:=au ha;cases e
     |fn _ _=>rw[ren] at ha;obtain⟨_,_,e⟩:=au ha;cases e
     |sl _ _ _ _=>rw[ren] at ha;obtain⟨_,_,e⟩:=au ha;cases e
     |mp _=>rw[ren] at ha;obtain⟨_,_,e⟩:=au ha;cases e
     |ifc _ _=>rw[ren] at ha;obtain⟨_,_,e⟩:=au ha;cases e
     |arr _=>rw[ren] at ha;obtain⟨_,_,e⟩:=au ha;cases e
     |aptr _ _ _=>rw[ren] at ha;obtain⟨_,_,e⟩:=au ha;cases e
     |arv _ _ _=>rw[ren] at ha;obtain⟨_,_,e⟩:=au ha;cases e
   |pv _=>cases h
   |cptr _=>cases h
   |trows _ _=>rw[ren] at h;obtain⟨_,_,e⟩:=au h;cases e
   |tsym _ _=>rw[ren] at h;obtain⟨_,_,e⟩:=au h;cases e
   |ptr _ _=>rw[ren] at h;obtain⟨_,_,e⟩:=au h;cases e
   |agg _=>rw[ren] at h;obtain⟨_,_,e⟩:=au h;cases e
   |fn _ _=>rw[ren] at h;obtain⟨_,_,e⟩:=au h;cases e
   |sl _ _ _ _=>rw[ren] at h;obtain⟨_,_,e⟩:=au h;cases e
   |mp _=>rw[ren] at h;obtain⟨_,_,e⟩:=au h;cases e
   |ifc _ _=>rw[ren] at h;obtain⟨_,_,e⟩:=au h;cases e
   |arr _=>rw[ren] at h;obtain⟨_,_,e⟩:=au h;cases e
   |aptr _ _ _=>rw[ren] at h;obtain⟨_,_,e⟩:=au h;cases e
   |arv _ _ _=>rw[ren] at h;obtain⟨_,_,e⟩:=au h;cases e
theorem gW.ren{f:Nat→Option Nat}{K K':Kn}(R:Ren f K K'){v v':AV}{e:Ending}(h:gW K v e)(hr:ren f v=some v'):gW K' v' e:=by
 obtain⟨h1,h2⟩:=acJ hr;refine h.map (fun x hx=>?_) (fun hn=>⟨h2 hn,fun u hu=>rz R hu hr⟩);obtain⟨x',hx',hr'⟩:=h1 x hx;exact⟨x',hx',fun u hu=>rz R hu hr'⟩
def fG(R:Nat→PV)(P:Program)(f:Nat)(args:List AV)(h:List ah)(v:AV)(h':List ah):Prop:=
 ∀(K:Kn) (w:World) (us:List Value),K.R=R→WR K h w→VL K args us→Calls P f us.toArray w fun e w'=>∃K',gW K' v e∧Step K h w K' h' w'
def bZ(R:Nat→PV)(P:Program)(call:Nat→List AV→List ah→Option (AV×List ah)):Prop:=∀f args h v h',call f args h=some (v,h')→fG R P f args h v h'
def callable(P:Program)(f:Nat):Bool:=match P.funcs[f]? with
 |some fn => fn.body.isSome && !(fn.name == "runtime.NumGoroutine")
 |none=>false
def callee(ρ:Operand→Option AV):Op→Option (Nat×List AV)
 |.call ⟨.value f,args,_⟩=>match ρ f,lq ρ args.toList with
  |some (.fn g caps),some vs=>match Nat.blt g qO with
   |true=>some (g,vs++caps)
   |false=>some (g-qO,caps++vs)
  |_,_=>none
 |_=>none
mutual
def refs:AV→List Nat
 |.pv _=>[]
 |.trows t _=>[t]
 |.tsym t _=>[t]
 |.ptr i _=>[i]
 |.cptr _=>[]
 |.agg l=>nU l
 |.tup l=>nU l
 |.fn _ l=>nU l
 |.sl t _ _ _=>[t]
 |.mp t=>[t]
 |.ifc _ v=>refs v
 |.arr t=>[t]
 |.aptr t _ _=>[t]
 |.arv t _ _=>[t]
def nU:List AV→List Nat
 |[]=>[]
 |a::l=>refs a++nU l
end
def Ed:ah→List Nat
 |.box _ cells=>nU cells
 |.mp _ vs=>nU vs
 |_=>[]
def reach(h:List ah):Nat→List Nat→List Nat→List Nat
 |0,_,done=>done
 |_+1,[],done=>done
 |n+1,i::todo,done=>if done.elem i then reach h n todo done else match h[i]? with
  |some x=>reach h n (Ed x++todo) (done++[i])
  |none=>done
def OX(call:Nat→List AV→List ah→Option (AV×List ah))(f:Nat)(args:List AV)(h:List ah)(ids:List Nat):Option (AV×List ah×List Nat):=
 if nodupB ids then match wE h ids,ku (fun i=>posOf i ids) args with
  |some hs,some args'=>match call f args' hs with
   |some (v,hs')=>match ren (wT ids h.length) v,Ap h ids hs' with
    |some v',some h'=>some (v',h',ids)
    |_,_=>none
   |none=>none
  |_,_=>none
 else none
def KZ(call:Nat→List AV→List ah→Option (AV×List ah))(f:Nat)(args:List AV)(h:List ah):Option (AV×List ah×List Nat):=
 match nU args with
 |[]=>match call f args [] with
  |some (v,hs')=>match ren (wT [] h.length) v,Ap h [] hs' with
   |some v',some h'=>some (v',h',[])
   |_,_=>none
  |none=>none
 |r=>OX call f args h (reach h 1000 r [])
theorem BV{call:Nat→List AV→List ah→Option (AV×List ah)}{f:Nat}{args:List AV}{h:List ah}{v:AV}{h':List ah}{ids:List Nat}(hd:KZ call f args h=some (v,h',ids))
  (hrefs:nU args=[]→ku (fun i=>posOf i []) args=some args) :
  ∃hs args' v0 hs',nodupB ids=true∧wE h ids=some hs∧ku (fun i=>posOf i ids) args=some args'∧call f args' hs=some (v0,hs')∧ren (wT ids h.length) v0=some v∧Ap h ids hs'=some h':=by
 unfold KZ at hd;split at hd
 ·rename_i hr
  split at hd
  ·rename_i v0 hs' hc
   split at hd
   ·rename_i v' h'' hv hm
    cases hd;exact⟨[],args,v0,hs',rfl,rfl,hrefs hr,hc,hv,hm⟩
   ·cases hd
  ·cases hd
 ·unfold OX at hd
  split at hd
  ·rename_i hn
   split at hd
   ·rename_i hs args' hs1 hr1
    split at hd
    ·rename_i v0 hs' hc
     split at hd
     ·rename_i v' h'' hv hm
      cases hd;exact⟨hs,args',v0,hs',hn,hs1,hr1,hc,hv,hm⟩
     ·cases hd
    ·cases hd
   ·cases hd
  ·cases hd
mutual
theorem yJ(f:Nat→Option Nat):∀a:AV,refs a=[]→ren f a=some a
 |.pv p,_=>rfl
 |.trows t es,h=>by simp[refs] at h
 |.tsym t i,h=>by simp[refs] at h
 |.ptr i o,h=>by simp[refs] at h
 |.cptr cs,_=>rfl
 |.agg l,h=>by rw[refs] at h;rw[ren,mq f l h];rfl
 |.tup l,h=>by rw[refs] at h;rw[ren,mq f l h];rfl
 |.fn g l,h=>by rw[refs] at h;rw[ren,mq f l h];rfl
 |.sl t a b c,h=>by simp[refs] at h
 |.mp t,h=>by simp[refs] at h
 |.ifc t v,h=>by rw[refs] at h;rw[ren,yJ f v h];rfl
 |.arr t,h=>by simp[refs] at h
 |.aptr t _ _,h=>by simp[refs] at h
 |.arv t _ _,h=>by simp[refs] at h
theorem mq(f:Nat→Option Nat):∀l:List AV,nU l=[]→ku f l=some l
 |[],_=>rfl
 |a::l,h=>by
  rw[nU,List.append_eq_nil_iff] at h;rw[ku,yJ f a h.1,mq f l h.2]
end
def Ic(ρ:Operand→Option AV)(x:Operand):Option (AV×Option Nat):=match ρ x with
 |some v=>some (v,none)
 |none=>none
def apO(ρ:Operand→Option AV)(c a b:Operand):Option (AV×Option Nat):=match ρ c with
 |some (.pv (.lit (.bool t)))=>(if t then ρ a else ρ b).map fun v=>(v,none)
 |_=>none
def axn(ρ:Operand→Option AV)(x:Operand):Option (AV×Option Nat):=match ρ x with
 |some v=>if v.isThere then some (v,none) else none
 |none=>none
def apP(P:Program)(ρ:Operand→Option AV)(h:List ah)(t:TypeId)(x:Operand):Option (AV×Option Nat):=match ρ x with
 |some a=>match zL h a with
  |some (l,d)=>(Ip P t l).map fun v=>(v,d)
  |none=>none
 |none=>none
def qFA(P:Program)(ρ:Operand→Option AV)(s:TypeId)(x:Operand)(f:Nat):Option (AV×Option Nat):=match ρ x,xQ P s f with
 |some a,some fl=>match jS P fl.type with
  |some (_+1)=>(WT a fl.offset).map fun v=>(v,none)
  |_=>none
 |_,_=>none
def ajB(P:Program)(ρ:Operand→Option AV)(s:TypeId)(x:Operand)(f:Nat):Option (AV×Option Nat):=match ρ x,xQ P s f with
 |some (.agg l),some fl=>(Nk P fl.type l fl.offset).map fun v=>(v,none)
 |_,_=>none
def qIA(P:Program)(ρ:Operand→Option AV)(t:TypeId)(x i:Operand):Option (AV×Option Nat):=match ρ x,ρ i with
 |some a,some v=>match rH v with
  |some n=>(jW P t a n).map fun v=>(v,none)
  |none=>none
 |_,_=>none
def Yd(P:Program)(ρ:Operand→Option AV)(t:TypeId)(x i:Operand):Option (AV×Option Nat):=match ρ x,ρ i with
 |some a,some v=>(xJ P t a v).map fun v=>(v,none)
 |_,_=>none
def Ye(ρ:Operand→Option AV)(x:Operand)(i:Nat):Option (AV×Option Nat):=match ρ x with
 |some (.tup l)=>l[i]?.map fun v=>(v,none)
 |_=>none
def apT(P:Program)(ρ:Operand→Option AV)(b:BinOp)(t:TypeId)(x y:Operand):Option (AV×Option Nat):=match ρ x,ρ y with
 |some u,some v=>(Cu P b t x y u v).map fun v=>(v,none)
 |_,_=>none
def qUn(P:Program)(ρ:Operand→Option AV)(u:UnOp)(x:Operand):Option (AV×Option Nat):=match ρ x with
 |some v=>match v.val? with
  |some a=>match aP P (Op.unary u a) with
   |some r=>(pu r).map fun v=>(v,none)
   |none=>none
  |none=>none
 |none=>none
def agG(P:Program)(ρ:Operand→Option AV)(s d:TypeId)(x:Operand):Option (AV×Option Nat):=match ρ x with
 |some v=>(II P s d v).map fun v=>(v,none)
 |none=>none
def Yc(P:Program)(ρ:Operand→Option AV)(t:TypeId)(x:Operand)(lo hi mx:Option Operand):Option (AV×Option Nat):=match ρ x with
 |some a=>(iW P t ρ a lo hi mx).map fun v=>(v,none)
 |none=>none
def qMk(ρ:Operand→Option AV)(fn:Fn)(first caps:Array Operand):Option (AV×Option Nat):=match fn with
 |.func f=>if first.isEmpty then match lq ρ caps.toList with
   |some l=>match Nat.blt f qO with
    |true=>some (.fn f l,none)
    |false=>none
   |none=>none
  else match lq ρ first.toList,lq ρ caps.toList with
   |some l,some []=>some (.fn (f+qO) l,none)
   |some _,some _=>some (.pv .any,none)
   |_,_=>none
 |_=>none
def ajC(P:Program)(ρ:Operand→Option AV)(t:TypeId)(parts:Array (Nat×Operand)):Option (AV×Option Nat):=match oZ ρ parts.toList with
 |some ps=>(Lc P t ps).map fun l=>(.agg l,none)
 |none=>none
def R9(P:Program)(ty:TypeId)(ρ:Operand→Option AV)(c:Call):Option (AV×Option Nat):=match c with
 |⟨.builtin b,args,ts⟩=>match lq ρ args.toList with
  |some vs=>(dO P b ts ty vs).map fun v=>(v,none)
  |none=>none
 |_=>none
def Ci(P:Program)(op:Op)(ty:TypeId)(ρ:Operand→Option AV)(h:List ah):Option (AV×Option Nat):=match op with
 |.move x=>Ic ρ x
 |.assign x=>Ic ρ x
 |.pick c a b=>apO ρ c a b
 |.nilCheck x=>axn ρ x
 |.load t x=>apP P ρ h t x
 |.fieldAddr s x f=>qFA P ρ s x f
 |.field s x f=>ajB P ρ s x f
 |.indexAddr t x i=>qIA P ρ t x i
 |.index t x i=>Yd P ρ t x i
 |.extract x i=>Ye ρ x i
 |.binOp b t x y _=>apT P ρ b t x y
 |.unOp u _ x=>qUn P ρ u x
 |.convert s d x=>agG P ρ s d x
 |.slice t x lo hi mx=>Yc P ρ t x lo hi mx
 |.makeFunc fn first caps=>qMk ρ fn first caps
 |.build t parts=>ajC P ρ t parts
 |.call c=>R9 P ty ρ c
 |_=>none
theorem R8(P:Program)(op:Op)(ty:TypeId)(ρ:Operand→Option AV)(h:List ah):Ci P op ty ρ h=qop P op ty ρ h:=by
 cases op with
 |move x=>show Ic ρ x=(ρ x).map _;unfold Ic;cases ρ x<;>rfl
 |assign x=>show Ic ρ x=(ρ x).map _;unfold Ic;cases ρ x<;>rfl
 |makeFunc fn first caps=>cases fn<;>rfl
 |call c=>
  obtain⟨f,args,ts⟩:=c;cases f<;>rfl
 |_=>rfl
def ayK(ρ:Operand→Option AV)(h:List ah)(t:TypeId)(x:Operand):Option (AV×List ah×List Nat):=match ρ x with
 |some v=>some (.ptr h.length 0,h++[.box t v.cells],[])
 |none=>none
def alr(P:Program)(h:List ah)(t:TypeId):Option (AV×List ah×List Nat):=match jw P t with
 |some l=>some (.ptr h.length 0,h++[.box t l],[])
 |none=>none
def ayJ(P:Program)(ρ:Operand→Option AV)(h:List ah)(t:TypeId)(len:Nat)(parts:Array (Nat×Operand)):Option (AV×List ah×List Nat):=match oZ ρ parts.toList with
 |some ps=>match Rl P t len ps with
  |some (e,s,pvs)=>some (.trows h.length (chunk s len pvs),h++[.tok e s len],[])
  |none=>none
 |none=>none
def alo(P:Program)(ρ:Operand→Option AV)(h:List ah)(t:TypeId)(x y:Operand):Option (AV×List ah×List Nat):=match ρ x,ρ y with
 |some (.ptr i o),some v=>match h[i]? with
  |some (.box bt cells)=>if jS P t=some v.cells.length∧o+v.cells.length≤cells.length∧v.cells.all AV.isCell=true then some (.tup [],h.set i (.box bt (setAt cells o v.cells)),[i]) else none
  |_=>none
 |_,_=>none
def asG(P:Program)(ρ:Operand→Option AV)(h:List ah)(c:Call):Option (AV×List ah×List Nat):=match c with
 |⟨.builtin .append,args,ts⟩=>match lq ρ args.toList,ts.toList with
  |some [s,x],[t,t']=>if t=t' then match rowsOf x with
    |some es'=>zS P t s es' h
    |none=>if bn x then zS P t s [] h else none
   else none
  |_,_=>none
 |_=>none
def asB(P:Program)(op:Op)(ρ:Operand→Option AV)(h:List ah):Option (AV×List ah×List Nat):=match op with
 |.alloc t=>alr P h t
 |.box t x=>ayK ρ h t x
 |.buildSlice t len parts=>ayJ P ρ h t len parts
 |.store t x y=>alo P ρ h t x y
 |.call c=>asG P ρ h c
 |_=>none
theorem afK(P:Program)(op:Op)(ρ:Operand→Option AV)(h:List ah):asB P op ρ h=eop P op ρ h:=by
 cases op with
 |call c=>
  obtain⟨f,args,ts⟩:=c;cases f with
  |builtin b=>cases b<;>rfl
  |_=>rfl
 |_=>rfl
theorem bM(R:Nat→PV):∀l,aG R l=l.map (aj R)
 |[]=>by rw[aG];rfl
 |p::l=>by rw[aG,bM R l];rfl
theorem eO(R:Nat→PV):∀es,aX R es=es.map (aG R)
 |[]=>by rw[aX];rfl
 |l::es=>by rw[aX,eO R es];rfl
mutual
def af(R:Nat→PV):AV→AV
 |.pv p=>.pv (aj R p)
 |.trows t es=>.trows t (aX R es)
 |.tsym t i=>match R i with
  |.rows es=>.trows t es
  |_=>.tsym t i
 |.ptr i o=>.ptr i o
 |.cptr cs=>.cptr (aG R cs)
 |.agg l=>.agg (ay R l)
 |.tup l=>.tup (ay R l)
 |.fn f l=>.fn f (ay R l)
 |.sl t lo len sz=>.sl t lo len sz
 |.mp t=>.mp t
 |.ifc t v=>.ifc t (af R v)
 |.arr t=>.arr t
 |.aptr t i o=>.aptr t (aj R i) o
 |.arv t i q=>.arv t (aj R i) (aj R q)
def ay(R:Nat→PV):List AV→List AV
 |[]=>[]
 |a::l=>af R a::ay R l
end
theorem cB(R:Nat→PV):∀l,ay R l=l.map (af R)
 |[]=>by rw[ay];rfl
 |p::l=>by rw[ay,cB R l];rfl
theorem PR.opened{R:Nat→PV}{M:Nat→Nat→Option Value}{p:PV}{v:Value}(h:PR R M p v):PR R M (aj R p) v:=by
 induction h with
 |sym i v h _=>rw[aj];exact h
 |lit v h=>rw[aj];exact .lit v h
 |rows es a cap g off sz us ha hn hsz hc hr ih=>
  rw[aj,eO];have:=PR.rows (R:=R) (M:=M) (es.map (aG R)) a cap g off sz us (fun hne=>ha (fun e=>hne (by rw[e];rfl))) (by simpa using hn)
   (fun i hi=>by simp only[List.getElem_map,bM,List.length_map];exact hsz i (by simpa using hi)) (fun i hi j hj=>hc i (by simpa using hi) j hj)
   (fun i hi j hj=>by
    simp only[List.getElem_map,bM];exact ih i (by simpa using hi) j (by simpa[bM] using hj))
  rwa [List.length_map] at this
 |opq ne lo hi s hne hlo hhi=>rw[aj];exact .opq ne lo hi s hne hlo hhi
 |rng lo hi n hlo hhi=>rw[aj];exact .rng lo hi n hlo hhi
 |any v h=>rw[aj];exact .any v h
mutual
theorem PR.closed{R:Nat→PV}{M:Nat→Nat→Option Value}:∀{p:PV} {v:Value},PR R M (aj R p) v→PR R M p v
 |.sym i,v,h=>by rw[aj] at h;exact .sym i v h
 |.lit u,v,h=>by rw[aj] at h;exact h
 |.opq ne lo hi,v,h=>by rw[aj] at h;exact h
 |.rng lo hi,v,h=>by rw[aj] at h;exact h
 |.any,v,h=>by rw[aj] at h;exact h
 |.rows es,v,h=>by
  rw[aj,eO] at h;have hm:=PR.closedss (R:=R) (M:=M) es;cases h with
  |rows _ a cap g off sz us ha hn hsz hc hr=>
   simp only[List.length_map] at hn hsz hc hr ⊢;refine .rows es a cap g off sz us (fun hne=>ha (fun e=>hne (List.map_eq_nil_iff.1 e))) hn (fun i hi=>?_) hc (fun i hi j hj=>?_)
   ·have:=hsz i hi;simpa[bM] using this
   ·have:=hr i hi j (by simpa[bM] using hj)
    simp only[List.getElem_map,bM] at this;exact hm _ (List.getElem_mem hi) _ (List.getElem_mem hj) _ this
theorem PR.closeds{R:Nat→PV}{M:Nat→Nat→Option Value}:∀(l:List PV),∀p∈l,∀v,PR R M (aj R p) v→PR R M p v
 |[],p,hp,_,_=>by cases hp
 |q::l,p,hp,v,h=>by
  have h1:=@PR.closed R M q;have h2:=PR.closeds (R:=R) (M:=M) l;rcases List.mem_cons.1 hp with rfl|hp
  ·exact h1 h
  ·exact h2 p hp v h
theorem PR.closedss{R:Nat→PV}{M:Nat→Nat→Option Value}:∀(es:List (List PV)),∀l∈es,∀p∈l,∀v,PR R M (aj R p) v→PR R M p v
 |[],l,hl,_,_,_,_=>by cases hl
 |q::es,l,hl,p,hp,v,h=>by
  have h1:=PR.closeds (R:=R) (M:=M) q;have h2:=PR.closedss (R:=R) (M:=M) es;rcases List.mem_cons.1 hl with rfl|hl
  ·exact h1 p hp v h
  ·exact h2 l hl p hp v h
end
theorem BJ(R:Nat→PV)(es:List (List PV)):(aX R es).length=es.length:=by rw[eO,List.length_map]
theorem RL.opened{R:Nat→PV}{q:PV}{n:Nat}(h:RL R q n):RL R (aj R q) n:=by
 cases h with
 |rows es=>rw[aj,←BJ R es];exact .rows _
 |sym i n h=>rw[aj];exact h
theorem RL.closed{R:Nat→PV}{q:PV}{n:Nat}(h:RL R (aj R q) n):RL R q n:=by
 cases q with
 |sym i=>rw[aj] at h;exact .sym i n h
 |rows es=>
  rw[aj] at h;cases h with
  |rows _=>rw[BJ];exact .rows es
 |lit v=>rw[aj] at h;cases h
 |opq a b c=>rw[aj] at h;cases h
 |rng a b=>rw[aj] at h;cases h
 |any=>rw[aj] at h;cases h
theorem VR.opened{R:Nat→PV}{K:Kn}(hR:K.R=R){a:AV}{v:Value}(h:VR K a v):VR K (af R a) v:=by
 subst hR
 induction h with
 |pv h=>rw[af];exact .pv h.opened
 |tsym t i es hi h _=>
  rw[af,hi];exact h
 |cptr cs g o us hc hr=>
  rw[af,bM];exact .cptr _ g o us (by simpa using hc) (fun j hj=>by simpa using(hr j (by simpa using hj)).opened)
 |trows t es g us hm hn hsz hc hr=>
  rw[af,eO];have:=VR.trows (K:=K) t (es.map (aG K.R)) g us hm (by simpa using hn)
   (fun i hi=>by simp only[List.getElem_map,bM,List.length_map];exact hsz i (by simpa using hi)) (fun i hi j hj=>hc i (by simpa using hi) j hj)
   (fun i hi j hj=>by
    simp only[List.getElem_map,bM];exact(hr i (by simpa using hi) j (by simpa[bM] using hj)).opened)
  rwa [List.length_map] at this
 |ptr i o g hm=>rw[af];exact .ptr i o g hm
 |agg l cs hl _ ih=>rw[af,cB];exact .agg _ cs (by simpa using hl) (fun i hi hi'=>by simpa using ih i (by simpa using hi) hi')
 |tup l cs hl _ ih=>rw[af,cB];exact .tup _ cs (by simpa using hl) (fun i hi hi'=>by simpa using ih i (by simpa using hi) hi')
 |fn f l cs hl _ hb ih=>rw[af,cB];exact .fn f _ cs (by simpa using hl) (fun i hi hi'=>by simpa using ih i (by simpa using hi) hi') hb
 |bfn f g l cs hl _ hg ih=>rw[af,cB];exact .bfn f g _ cs (by simpa using hl) (fun i hi hi'=>by simpa using ih i (by simpa using hi) hi') hg
 |sl t lo len sz g cap off a b c d f=>rw[af];exact .sl t lo len sz g cap off a b c d f
 |mp t g a=>rw[af];exact .mp t g a
 |ifc t _ ih=>rw[af];exact .ifc t ih
 |arr t g c a b d=>rw[af];exact .arr t g c a b d
 |aptr t i o g k kd a b c=>rw[af];exact .aptr t _ o g k kd a b.opened c
 |arv t i q g k n cap off kd a b c d e f h=>rw[af];exact .arv t _ _ g k n cap off kd a b.opened c.opened d e f h
theorem VR.trowsClosed{K:Kn}{t:Nat}{es:List (List PV)}{v:Value}(h:VR K (.trows t (aX K.R es)) v):VR K (.trows t es) v:=by
 rw[eO] at h;cases h with
 |trows _ _ g us hm hn hsz hc hr=>
  simp only[List.length_map] at hn hsz hc hr ⊢;refine .trows t es g us hm hn (fun i hi=>?_) hc (fun i hi j hj=>?_)
  ·have:=hsz i hi;simpa[bM] using this
  ·have:=hr i hi j (by simpa[bM] using hj)
   simp only[List.getElem_map,bM] at this;exact this.closed
mutual
theorem VR.closedK{K:Kn}:∀{a:AV} {v:Value},VR K (af K.R a) v→VR K a v
 |.pv p,v,h=>by rw[af] at h;cases h with|pv h=>exact .pv h.closed
 |.tsym t i,v,h=>by
  rw[af] at h;split at h
  ·rename_i es hi;exact .tsym t i es hi h
  ·exact h
 |.trows t es,v,h=>by rw[af] at h;exact h.trowsClosed
 |.ptr i o,v,h=>by rw[af] at h;exact h
 |.cptr cs,v,h=>by
  rw[af,bM] at h;cases h with|cptr _ g o us hc hr=>exact .cptr cs g o us (by simpa using hc) (fun j hj=>by have:=hr j (by simpa using hj);simp only[List.getElem_map] at this;exact this.closed)
 |.agg l,v,h=>by
  rw[af,cB] at h;have hm:=VR.closedKs (K:=K) l;cases h with|agg _ cs hl hh=>exact .agg l cs (by simpa using hl) (fun i hi hi'=>hm _ (List.getElem_mem hi) _ (by have:=hh i (by simpa using hi) hi';rw[List.getElem_map] at this;exact this))
 |.tup l,v,h=>by
  rw[af,cB] at h;have hm:=VR.closedKs (K:=K) l;cases h with|tup _ cs hl hh=>exact .tup l cs (by simpa using hl) (fun i hi hi'=>hm _ (List.getElem_mem hi) _ (by have:=hh i (by simpa using hi) hi';rw[List.getElem_map] at this;exact this))
 |.fn f l,v,h=>by
  rw[af,cB] at h;have hm:=VR.closedKs (K:=K) l;cases h with
  |fn _ _ cs hl hh hb=>exact .fn f l cs (by simpa using hl) (fun i hi hi'=>hm _ (List.getElem_mem hi) _ (by have:=hh i (by simpa using hi) hi';rw[List.getElem_map] at this;exact this)) hb
  |bfn f' _ _ cs hl hh hg=>exact .bfn f' f l cs (by simpa using hl) (fun i hi hi'=>hm _ (List.getElem_mem hi) _ (by have:=hh i (by simpa using hi) hi';rw[List.getElem_map] at this;exact this)) hg
 |.sl t lo len sz,v,h=>by rw[af] at h;exact h
 |.mp t,v,h=>by rw[af] at h;exact h
 |.ifc t x,v,h=>by rw[af] at h;cases h with|ifc _ h=>exact .ifc t (VR.closedK h)
 |.arr t,v,h=>by rw[af] at h;exact h
 |.aptr t i o,v,h=>by rw[af] at h;cases h with|aptr _ _ _ g k kd a b c=>exact .aptr t i o g k kd a b.closed c
 |.arv t i q,v,h=>by rw[af] at h;cases h with|arv _ _ _ g k n cap off kd a b c d e f h=>exact .arv t i q g k n cap off kd a b.closed c.closed d e f h
theorem VR.closedKs{K:Kn}:∀(l:List AV),∀a∈l,∀v,VR K (af K.R a) v→VR K a v
 |[],a,ha,_,_=>by cases ha
 |b::l,a,ha,v,h=>by
  have h1:=@VR.closedK K b;have h2:=VR.closedKs (K:=K) l;rcases List.mem_cons.1 ha with rfl|ha
  ·exact h1 h
  ·exact h2 a ha v h
end
theorem VR.closed{R:Nat→PV}{K:Kn}(hR:K.R=R){a:AV}{v:Value}(h:VR K (af R a) v):VR K a v:=by
 subst hR;exact h.closedK
inductive SF where
 |bin (b:BinOp) (t:TypeId) (u v r:AV)
 |len (t:TypeId) (u r:AV)
 |idx (t:TypeId) (u i r:AV)
 |ind (t:TypeId) (u i r:AV)
 |slc (t:TypeId) (u:AV) (lo hi:Option AV) (r:AV)
 |conv (s d:TypeId) (u r:AV)
 |un (o:UnOp) (u r:AV)
 |app (t:TypeId) (s x:AV) (j:Nat)
 |app0 (t:TypeId) (s x:AV)
 |names
 |mx (mn:Bool) (u v r:AV)
 |look (t:TypeId) (p:PV) (k r:AV) (ok:Bool)
 |upd (t:TypeId) (p:PV) (k v:AV) (j:Nat)
 |set (p i:PV) (o:Nat) (c:List PV) (j:Nat)
 |mk (t:TypeId) (n:AV) (j:Nat)
 |apq (t:TypeId) (s x:AV) (j:Nat)
 |del (t:TypeId) (p:PV) (k:AV) (j:Nat)
 |sum (a b:PV) (j:Nat)
def eqV:Value→Value→Bool
 |.int k n,.int k' n'=>decide (k=k')&&decide (n=n')
 |.bool a,.bool b=>a==b
 |.string x,.string y=>U3 x y
 |.slice none 0 0,.slice none 0 0=>true
 |_,_=>false
mutual
def AL:PV→PV→Bool
 |.sym i,.sym j=>Nat.beq i j
 |.lit v,.lit v'=>eqV v v'
 |.rows es,.rows es'=>FW es es'
 |_,_=>false
def KQ:List PV→List PV→Bool
 |[],[]=>true
 |p::l,q::r=>AL p q&&KQ l r
 |_,_=>false
def FW:List (List PV)→List (List PV)→Bool
 |[],[]=>true
 |p::l,q::r=>KQ p q&&FW l r
 |_,_=>false
end
def BS:AV→AV→Bool
 |.pv p,.pv q=>AL p q
 |.cptr cs,.cptr cs'=>KQ cs cs'
 |_,_=>false
theorem U1{x y:ByteArray}(h:U3 x y=true):x=y:=by
 have:=(zH _ _).1 h;cases x;cases y;congr 1;exact Array.ext' this
theorem aaH{a b:Value}(h:eqV a b=true):a=b:=by
 unfold eqV at h;split at h
 ·simp only[Bool.and_eq_true,decide_eq_true_eq] at h;obtain⟨rfl,rfl⟩:=h;rfl
 ·rw[eq_of_beq h]
 ·rw[U1 h]
 ·rfl
 ·cases h
mutual
theorem jf:∀{a b:PV},AL a b=true→a=b
 |.sym i,b,h=>by cases b with|sym j=>rw[AL] at h;rw[Nat.eq_of_beq_eq_true h]|_=>simp[AL] at h
 |.lit v,b,h=>by cases b with|lit v'=>rw[AL] at h;rw[aaH h]|_=>simp[AL] at h
 |.rows es,b,h=>by cases b with|rows es'=>rw[AL] at h;rw[FV h]|_=>simp[AL] at h
 |.opq ..,b,h=>by cases b<;>simp[AL] at h
 |.rng ..,b,h=>by cases b<;>simp[AL] at h
 |.any,b,h=>by cases b<;>simp[AL] at h
theorem zG:∀{a b:List PV},KQ a b=true→a=b
 |[],[],_=>rfl
 |p::l,q::r,h=>by
  rw[KQ,Bool.and_eq_true] at h;rw[jf h.1,zG h.2]
 |[],_::_,h=>by simp[KQ] at h
 |_::_,[],h=>by simp[KQ] at h
theorem FV:∀{a b:List (List PV)},FW a b=true→a=b
 |[],[],_=>rfl
 |p::l,q::r,h=>by
  rw[FW,Bool.and_eq_true] at h;rw[zG h.1,FV h.2]
 |[],_::_,h=>by simp[FW] at h
 |_::_,[],h=>by simp[FW] at h
end
theorem fK{a b:AV}(h:BS a b=true):a=b:=by
 unfold BS at h;split at h
 ·rw[jf h]
 ·rw[zG h]
 ·cases h
def nrm(a:AV):AV:=match a.toPV with
 |some p=>.pv p
 |none=>a
theorem VR.nrm{K:Kn}{a:AV}{v:Value}(h:VR K a v):VR K (nrm a) v:=by
 unfold YtfphhabaeggenaaGreatDoor.nrm;split
 ·rename_i p hp;exact .pv (h.toPV hp)
 ·exact h
def eqO:Option AV→Option AV→Bool
 |none,none=>true
 |some a,some b=>BS a b
 |_,_=>false
theorem aaJ{a b:Option AV}(h:eqO a b=true):a=b:=by
 unfold eqO at h;split at h
 ·rfl
 ·rw[fK h]
 ·cases h
def pU(ρ:Operand→Option AV):Option Operand→Option AV→Prop
 |none,none=>True
 |some x,some a=>ρ x=some a
 |_,_=>False
def jE(a:AV):Option (List (List PV)):=if bn a then some [] else rowsOf a
def Gt(P:Program)(t:TypeId)(m:PV)(k r:AV)(ok:Bool):Prop:=∃kt et d es key,P.underlying t=some (.map kt et)∧P.underlying kt=some d∧m=.rows es∧dQ es=true∧k.val? = some key∧Ff P kt et d key (es.map Cm) (es.map qW) ok=some r
def I7(P:Program)(t:TypeId)(m:PV)(k v:AV)(q:PV):Prop:=∃kt et d es key es',P.underlying t=some (.map kt et)∧P.underlying kt=some d∧m=.rows es∧dQ es=true∧k.val? = some key∧qJ P kt d key=true∧
 GH P kt d key (es.map Cm) (es.map qW) v=some (es'.map Cm,es'.map qW)∧q=.rows es'∧dQ es'=true
def abJ(a b r:PV):Prop:=∃kd kd' m n,a=.lit (.int kd m)∧b=.lit (.int kd' n)∧r=.lit (.int .i64 (m+n))
def abM(P:Program)(t:TypeId)(m:PV)(k:AV)(q:PV):Prop:=∃kt et d es key r,P.underlying t=some (.map kt et)∧P.underlying kt=some d∧m=.rows es∧dQ es=true∧k.val? = some key∧qJ P kt d key=true∧
 sO P kt d key (es.map Cm)=some r∧q=.rows (match r with|some j=>es.eraseIdx j|none=>es)∧Ck q=true
def abK(p i:PV)(o:Nat)(c:List PV)(q:PV):Prop:=∃es n kd,p=.rows es∧i=.lit (.int kd n)∧0≤n∧n.toNat<es.length∧o+c.length≤(es.getD n.toNat []).length∧q=.rows (es.set n.toNat (setAt (es.getD n.toNat []) o c))∧Ck q=true
def agu(P:Program)(t:TypeId)(n:AV)(q:PV):Prop:=∃e sz by_ zc z k,P.underlying t=some (.slice e)∧jS P e=some sz∧gT P e=some by_∧jw P e=some zc∧Bt zc=some z∧0<sz∧zc.length=sz∧
 rH n=some ((k:Nat):Int)∧k≤1000000000000∧k*by_≤140737488355328∧q=.rows (List.replicate k z)∧Ck q=true
def alV(P:Program)(t:TypeId)(s x:AV)(q:PV):Prop:=∃e sz by_ zc es es',P.underlying t=some (.slice e)∧jS P e=some sz∧gT P e=some by_∧jw P e=some zc∧0<sz∧zc.length=sz∧
   jE s=some es∧rowsOf x=some es'∧es'≠[]∧(∀c∈es',c.length=sz)∧es.length+es'.length≤1000000000000∧(es.length+es'.length)*by_≤140737488355328∧q=.rows (es++es')
def SF.ok(R:Nat→PV)(P:Program):SF→Prop
 |.bin b t u v r=>∀x y,Cu P b t x y (af R u) (af R v)=some (af R r)
 |.len t u r=>∀ty,dO P .len #[t] ty [af R u]=some (af R r)
 |.idx t u i r=>∃n,rH (af R i)=some n∧jW P t (af R u) n=some (af R r)
 |.ind t u i r=>xJ P t (af R u) (af R i)=some (af R r)
 |.slc t u lo hi r=>∀(ρ:Operand→Option AV) (l m:Option Operand),pU ρ l (lo.map (af R))→pU ρ m (hi.map (af R))→iW P t ρ (af R u) l m none=some (af R r)
 |.conv s d u r=>II P s d (af R u)=some (af R r)
 |.un o u r=>∃a c,(af R u).val? = some a∧aP P (Op.unary o a)=some c∧pu c=some (af R r)
 |.app t s x j=>∃e sz by_ zc es es',P.underlying t=some (.slice e)∧jS P e=some sz∧gT P e=some by_∧jw P e=some zc∧0<sz∧zc.length=sz∧
   jE (af R s)=some es∧rowsOf (af R x)=some es'∧(bn (af R s)=true→es'≠[])∧(∀c∈es',c.length=sz)∧es.length+es'.length≤1000000000000∧(es.length+es'.length)*by_≤140737488355328∧R j=.rows (es++es')
 |.app0 t s x=>∃e sz by_ zc,P.underlying t=some (.slice e)∧jS P e=some sz∧gT P e=some by_∧jw P e=some zc∧(jE (af R s)).isSome=true∧jE (af R x)=some []
 |.names=>True
 |.look t p k r ok=>Gt P t (aj R p) (af R k) (af R r) ok
 |.upd t p k v j=>I7 P t (aj R p) (af R k) (af R v) (R j)
 |.set p i o c j=>abK (aj R p) (aj R i) o (aG R c) (R j)
 |.mk t n j=>agu P t (af R n) (R j)
 |.del t p k j=>abM P t (aj R p) (af R k) (R j)
 |.sum a b j=>abJ (aj R a) (aj R b) (R j)
 |.apq t s x j=>alV P t (af R s) (af R x) (R j)∧Ck (R j)=true
 |.mx mn u v r=>∀ts ty,dO P (if mn then .min else .max) ts ty [af R u,af R v]=some (af R r)
def aY(R:Nat→PV)(P:Program)(tab:List SF):Prop:=∀f∈tab,f.ok R P
theorem aY.nil(R:Nat→PV)(P:Program):aY R P []:=fun f hf=>by cases hf
def OO:List AV→List AV→Bool
 |[],[]=>true
 |a::l,b::r=>BS a b&&OO l r
 |_,_=>false
theorem wo:∀{a b:List AV},OO a b=true→a=b
 |[],[],_=>rfl
 |a::l,b::r,h=>by rw[OO,Bool.and_eq_true] at h;rw[fK h.1,wo h.2]
 |[],_::_,h=>by cases h
 |_::_,[],h=>by cases h
def eqK:AV→AV→Bool
 |.agg l,.agg l'=>OO l l'
 |a,b=>BS a b
theorem AO{a b:AV}(h:eqK a b=true):a=b:=by
 unfold eqK at h;split at h
 ·rw[wo h]
 ·exact fK h
def NK(b:BinOp)(t:TypeId)(u:AV)(v:AV):List SF→Option AV
 |[]=>none
 |.bin b' t' u' v' r::l=>if decide (b=b')&&decide (t=t')&&eqK u u'&&eqK v v' then some r else NK b t u v l
 |_::l=>NK b t u v l
theorem Fy{R:Nat→PV}{P:Program}{b:BinOp}{t:TypeId}{u:AV}{v:AV}{r:AV}:∀{tab:List SF},aY R P tab→NK b t u v tab=some r→(SF.bin b t u v r).ok R P
 |[],_,h=>by cases h
 |f::l,ht,h=>by
  unfold NK at h;split at h
  ·cases h
  ·rename_i heq
   cases heq;split at h
   ·rename_i hc
    cases h;simp only[Bool.and_eq_true] at hc;obtain⟨⟨⟨e0,e1⟩,e2⟩,e3⟩:=hc;have e0:=of_decide_eq_true e0;have e1:=of_decide_eq_true e1;have e2:=AO e2;have e3:=AO e3;subst e0;subst e1;subst e2;subst e3;exact ht _ (List.mem_cons_self ..)
   ·exact Fy (fun g hg=>ht g (List.mem_cons_of_mem _ hg)) h
  ·rename_i heq
   cases heq;exact Fy (fun g hg=>ht g (List.mem_cons_of_mem _ hg)) h
def Fq(t:TypeId)(u:AV):List SF→Option AV
 |[]=>none
 |.len t' u' r::l=>if decide (t=t')&&BS u u' then some r else Fq t u l
 |_::l=>Fq t u l
theorem uR{R:Nat→PV}{P:Program}{t:TypeId}{u:AV}{r:AV}:∀{tab:List SF},aY R P tab→Fq t u tab=some r→(SF.len t u r).ok R P
 |[],_,h=>by cases h
 |f::l,ht,h=>by
  unfold Fq at h;split at h
  ·cases h
  ·rename_i heq
   cases heq;split at h
   ·rename_i hc
    cases h;simp only[Bool.and_eq_true] at hc;obtain⟨e0,e1⟩:=hc;have e0:=of_decide_eq_true e0;have e1:=fK e1;subst e0;subst e1;exact ht _ (List.mem_cons_self ..)
   ·exact uR (fun g hg=>ht g (List.mem_cons_of_mem _ hg)) h
  ·rename_i heq
   cases heq;exact uR (fun g hg=>ht g (List.mem_cons_of_mem _ hg)) h
def Zg(mn:Bool)(u v:AV):List SF→Option AV
 |[]=>none
 |.mx mn' u' v' r::l=>if decide (mn=mn')&&BS u u'&&BS v v' then some r else Zg mn u v l
 |_::l=>Zg mn u v l
theorem Di{R:Nat→PV}{P:Program}{mn:Bool}{u v:AV}{r:AV}:∀{tab:List SF},aY R P tab→Zg mn u v tab=some r→(SF.mx mn u v r).ok R P
 |[],_,h=>by cases h
 |f::l,ht,h=>by
  unfold Zg at h;split at h
  ·cases h
  ·rename_i heq
   cases heq;split at h
   ·rename_i hc
    cases h;simp only[Bool.and_eq_true] at hc;obtain⟨⟨e0,e1⟩,e2⟩:=hc;have e0:=of_decide_eq_true e0;have e1:=fK e1;have e2:=fK e2;subst e0;subst e1;subst e2;exact ht _ (List.mem_cons_self ..)
   ·exact Di (fun g hg=>ht g (List.mem_cons_of_mem _ hg)) h
  ·rename_i heq
   cases heq;exact Di (fun g hg=>ht g (List.mem_cons_of_mem _ hg)) h
def NJ(t:TypeId)(u:AV)(i:AV):List SF→Option AV
 |[]=>none
 |.idx t' u' i' r::l=>if decide (t=t')&&BS u u'&&BS i i' then some r else NJ t u i l
 |_::l=>NJ t u i l
theorem Fu{R:Nat→PV}{P:Program}{t:TypeId}{u:AV}{i:AV}{r:AV}:∀{tab:List SF},aY R P tab→NJ t u i tab=some r→(SF.idx t u i r).ok R P
 |[],_,h=>by cases h
 |f::l,ht,h=>by
  unfold NJ at h;split at h
  ·cases h
  ·rename_i heq
   cases heq;split at h
   ·rename_i hc
    cases h;simp only[Bool.and_eq_true] at hc;obtain⟨⟨e0,e1⟩,e2⟩:=hc;have e0:=of_decide_eq_true e0;have e1:=fK e1;have e2:=fK e2;subst e0;subst e1;subst e2;exact ht _ (List.mem_cons_self ..)
   ·exact Fu (fun g hg=>ht g (List.mem_cons_of_mem _ hg)) h
  ·rename_i heq
   cases heq;exact Fu (fun g hg=>ht g (List.mem_cons_of_mem _ hg)) h
def NI(t:TypeId)(u:AV)(i:AV):List SF→Option AV
 |[]=>none
 |.ind t' u' i' r::l=>if decide (t=t')&&BS u u'&&BS i i' then some r else NI t u i l
 |_::l=>NI t u i l
theorem Fs{R:Nat→PV}{P:Program}{t:TypeId}{u:AV}{i:AV}{r:AV}:∀{tab:List SF},aY R P tab→NI t u i tab=some r→(SF.ind t u i r).ok R P
 |[],_,h=>by cases h
 |f::l,ht,h=>by
  unfold NI at h;split at h
  ·cases h
  ·rename_i heq
   cases heq;split at h
   ·rename_i hc
    cases h;simp only[Bool.and_eq_true] at hc;obtain⟨⟨e0,e1⟩,e2⟩:=hc;have e0:=of_decide_eq_true e0;have e1:=fK e1;have e2:=fK e2;subst e0;subst e1;subst e2;exact ht _ (List.mem_cons_self ..)
   ·exact Fs (fun g hg=>ht g (List.mem_cons_of_mem _ hg)) h
  ·rename_i heq
   cases heq;exact Fs (fun g hg=>ht g (List.mem_cons_of_mem _ hg)) h
def rD(t:TypeId)(u:AV)(lo:Option AV)(hi:Option AV):List SF→Option AV
 |[]=>none
 |.slc t' u' lo' hi' r::l=>if decide (t=t')&&BS u u'&&eqO lo lo'&&eqO hi hi' then some r else rD t u lo hi l
 |_::l=>rD t u lo hi l
theorem pz{R:Nat→PV}{P:Program}{t:TypeId}{u:AV}{lo:Option AV}{hi:Option AV}{r:AV}:∀{tab:List SF},aY R P tab→rD t u lo hi tab=some r→(SF.slc t u lo hi r).ok R P
 |[],_,h=>by cases h
 |f::l,ht,h=>by
  unfold rD at h;split at h
  ·cases h
  ·rename_i heq
   cases heq;split at h
   ·rename_i hc
    cases h;simp only[Bool.and_eq_true] at hc;obtain⟨⟨⟨e0,e1⟩,e2⟩,e3⟩:=hc;have e0:=of_decide_eq_true e0;have e1:=fK e1;have e2:=aaJ e2;have e3:=aaJ e3;subst e0;subst e1;subst e2;subst e3;exact ht _ (List.mem_cons_self ..)
   ·exact pz (fun g hg=>ht g (List.mem_cons_of_mem _ hg)) h
  ·rename_i heq
   cases heq;exact pz (fun g hg=>ht g (List.mem_cons_of_mem _ hg)) h
def Fx(s:TypeId)(d:TypeId)(u:AV):List SF→Option AV
 |[]=>none
 |.conv s' d' u' r::l=>if decide (s=s')&&decide (d=d')&&BS u u' then some r else Fx s d u l
 |_::l=>Fx s d u l
theorem Ar{R:Nat→PV}{P:Program}{s:TypeId}{d:TypeId}{u:AV}{r:AV}:∀{tab:List SF},aY R P tab→Fx s d u tab=some r→(SF.conv s d u r).ok R P
 |[],_,h=>by cases h
 |f::l,ht,h=>by
  unfold Fx at h;split at h
  ·cases h
  ·rename_i heq
   cases heq;split at h
   ·rename_i hc
    cases h;simp only[Bool.and_eq_true] at hc;obtain⟨⟨e0,e1⟩,e2⟩:=hc;have e0:=of_decide_eq_true e0;have e1:=of_decide_eq_true e1;have e2:=fK e2;subst e0;subst e1;subst e2;exact ht _ (List.mem_cons_self ..)
   ·exact Ar (fun g hg=>ht g (List.mem_cons_of_mem _ hg)) h
  ·rename_i heq
   cases heq;exact Ar (fun g hg=>ht g (List.mem_cons_of_mem _ hg)) h
def Zf(o:UnOp)(u:AV):List SF→Option AV
 |[]=>none
 |.un o' u' r::l=>if decide (o=o')&&BS u u' then some r else Zf o u l
 |_::l=>Zf o u l
theorem J8{R:Nat→PV}{P:Program}{o:UnOp}{u:AV}{r:AV}:∀{tab:List SF},aY R P tab→Zf o u tab=some r→(SF.un o u r).ok R P
 |[],_,h=>by cases h
 |f::l,ht,h=>by
  unfold Zf at h;split at h
  ·cases h
  ·rename_i heq
   cases heq;split at h
   ·rename_i hc
    cases h;simp only[Bool.and_eq_true] at hc;obtain⟨e0,e1⟩:=hc;have e0:=of_decide_eq_true e0;have e1:=fK e1;subst e0;subst e1;exact ht _ (List.mem_cons_self ..)
   ·exact J8 (fun g hg=>ht g (List.mem_cons_of_mem _ hg)) h
  ·rename_i heq
   cases heq;exact J8 (fun g hg=>ht g (List.mem_cons_of_mem _ hg)) h
def apQ(tab:List SF)(ρ:Operand→Option AV)(args:List Operand)(ts:List TypeId):Option AV:=match args,ts with
 |[x],[t]=>match ρ x with
  |some u=>Fq t u tab
  |none=>none
 |_,_=>none
def qMx(mn:Bool)(tab:List SF)(ρ:Operand→Option AV)(args:List Operand):Option AV:=match args with
 |[x,y]=>match ρ x,ρ y with
  |some u,some v=>Zg mn u v tab
  |_,_=>none
 |_=>none
def ajQ(ρ:Operand→Option AV):Option Operand→Option (Option AV)
 |none=>some none
 |some x=>(ρ x).map some
def apN(tab:List SF)(ρ:Operand→Option AV)(t:TypeId)(x:Operand)(lo hi mx:Option Operand):Option AV:=match mx with
 |none=>match ρ x,ajQ ρ lo,ajQ ρ hi with
  |some u,some l,some r=>rD t u l r tab
  |_,_,_=>none
 |some _=>none
def two(ρ:Operand→Option AV)(x y:Operand)(f:AV→AV→Option AV):Option AV:=match ρ x,ρ y with
 |some u,some v=>f u v
 |_,_=>none
def ajz(tab:List SF)(op:Op)(ρ:Operand→Option AV):Option AV:=match op with
 |.binOp b t x y _=>two ρ x y fun u v=>NK b t u v tab
 |.indexAddr t x i=>two ρ x i fun u v=>NJ t u v tab
 |.index t x i=>two ρ x i fun u v=>NI t u v tab
 |.unOp u _ x=>match ρ x with
  |some v=>Zf u v tab
  |none=>none
 |.convert s d x=>match ρ x with
  |some v=>Fx s d v tab
  |none=>none
 |.slice t x lo hi mx=>apN tab ρ t x lo hi mx
 |.call ⟨.builtin .len,args,ts⟩=>apQ tab ρ args.toList ts.toList
 |.call ⟨.builtin .max,args,_⟩=>qMx false tab ρ args.toList
 |.call ⟨.builtin .min,args,_⟩=>qMx true tab ρ args.toList
 |_=>none
theorem DI{ρ:Operand→Option AV}{x y:Operand}{f:AV→AV→Option AV}{r:AV}(h:two ρ x y f=some r):∃u v,ρ x=some u∧ρ y=some v∧f u v=some r:=by
 unfold two at h;split at h
 ·rename_i u v hu hv;exact⟨u,v,hu,hv,h⟩
 ·cases h
theorem EP{R:Nat→PV}{ρ:Operand→Option AV}{x:Option Operand}{a:Option AV}(h:ajQ ρ x=some a):pU (fun x=>(ρ x).map (af R)) x (a.map (af R)):=by
 cases x with
 |none=>cases h;trivial
 |some x=>
  obtain⟨v,hv,e⟩:=au h;subst e;show (ρ x).map (af R)=some (af R v);rw[hv];rfl
theorem Ya{R:Nat→PV}{P:Program}{tab:List SF}(ht:aY R P tab){op:Op}{ty:TypeId}{ρ:Operand→Option AV}{h:List ah}{r:AV}(hq:ajz tab op ρ=some r) :
  Ci P op ty (fun x=>(ρ x).map (af R)) h=some (af R r,none):=by
 unfold ajz at hq;split at hq
 ·obtain⟨u,v,hu,hv,hf⟩:=DI hq
  have:=Fy ht hf;simp only[Ci,apT,hu,hv,Option.map_some,this _ _]
 ·obtain⟨u,v,hu,hv,hf⟩:=DI hq
  obtain⟨n,hn,hi⟩:=Fu ht hf;simp only[Ci,qIA,hu,hv,Option.map_some,hn,hi]
 ·obtain⟨u,v,hu,hv,hf⟩:=DI hq
  have:=Fs ht hf;simp only[SF.ok] at this;simp only[Ci,Yd,hu,hv,Option.map_some,this]
 ·split at hq
  ·rename_i v hv
   obtain⟨a,c,h1,h2,h3⟩:=J8 ht hq;simp only[Ci,qUn,hv,Option.map_some,h1,h2,h3]
  ·cases hq
 ·split at hq
  ·rename_i v hv
   have h1:=Ar ht hq;simp only[SF.ok] at h1;simp only[Ci,agG,hv,Option.map_some,h1]
  ·cases hq
 ·unfold apN at hq
  split at hq
  ·split at hq
   ·rename_i u l m hu hl hm
    have:=pz ht hq _ _ _ (EP hl) (EP hm);simp only[Ci,Yc,hu,Option.map_some,this]
   ·cases hq
  ·cases hq
 ·rename_i args ts
  unfold apQ at hq;split at hq
  ·rename_i x t ha hts
   split at hq
   ·rename_i u hu
    have:=uR ht hq ty;have e:ts = #[t]:=by apply Array.ext';rw[hts]
    subst e;simp only[Ci,R9,ha,lq,hu,Option.map_some,this]
   ·cases hq
  ·cases hq
 ·rename_i args ts
  unfold qMx at hq;split at hq
  ·rename_i x y ha
   split at hq
   ·rename_i u v hu hv
    have:=Di ht hq ts ty;simp only[Bool.false_eq_true,if_false] at this;simp only[Ci,R9,ha,lq,hu,hv,Option.map_some,this]
   ·cases hq
  ·cases hq
 ·rename_i args ts
  unfold qMx at hq;split at hq
  ·rename_i x y ha
   split at hq
   ·rename_i u v hu hv
    have:=Di ht hq ts ty;simp only[if_true] at this;simp only[Ci,R9,ha,lq,hu,hv,Option.map_some,this]
   ·cases hq
  ·cases hq
 ·cases hq
def BP(t:TypeId)(s x:AV):List SF→Option (Option Nat)
 |[]=>none
 |.app t' s' x' j::l=>if decide (t=t')&&BS s s'&&BS x x' then some (some j) else BP t s x l
 |.app0 t' s' x'::l=>if decide (t=t')&&BS s s'&&BS x x' then some none else BP t s x l
 |_::l=>BP t s x l
def as3(R:Nat→PV)(P:Program)(t:TypeId)(s x:AV):Option Nat→Prop
 |some j=>(SF.app t s x j).ok R P
 |none=>(SF.app0 t s x).ok R P
theorem rE{R:Nat→PV}{P:Program}{t:TypeId}{s x:AV}{r:Option Nat}:∀{tab:List SF},aY R P tab→BP t s x tab=some r→as3 R P t s x r
 |[],_,h=>by cases h
 |f::l,ht,h=>by
  unfold BP at h;split at h
  ·cases h
  ·rename_i heq
   cases heq;split at h
   ·rename_i hc
    cases h;simp only[Bool.and_eq_true] at hc;obtain⟨⟨e0,e1⟩,e2⟩:=hc;have e0:=of_decide_eq_true e0;have e1:=fK e1;have e2:=fK e2;subst e0;subst e1;subst e2;exact ht _ (List.mem_cons_self ..)
   ·exact rE (fun g hg=>ht g (List.mem_cons_of_mem _ hg)) h
  ·rename_i heq
   cases heq;split at h
   ·rename_i hc
    cases h;simp only[Bool.and_eq_true] at hc;obtain⟨⟨e0,e1⟩,e2⟩:=hc;have e0:=of_decide_eq_true e0;have e1:=fK e1;have e2:=fK e2;subst e0;subst e1;subst e2;exact ht _ (List.mem_cons_self ..)
   ·exact rE (fun g hg=>ht g (List.mem_cons_of_mem _ hg)) h
  ·rename_i heq
   cases heq;exact rE (fun g hg=>ht g (List.mem_cons_of_mem _ hg)) h
def Xw:AV→Option (Nat×Nat)
 |.tsym tk i=>some (tk,aH+i)
 |.trows tk es=>some (tk,es.length)
 |_=>none
def alM(tab:List SF)(P:Program)(t:TypeId)(s x:AV)(h:List ah):Option (AV×List ah×List Nat):=match BP t (nrm s) (nrm x) tab with
 |some (some j)=>match P.underlying t with
  |some (.slice e)=>match jS P e with
   |some sz=>match Xw s with
    |some (tk,lc)=>match h[tk]? with
     |some (.tok e' sz' lc')=>if e'=e∧sz'=sz∧lc'=lc then some (.tsym h.length j,h.set tk .dead++[.tok e sz (aH+j)],[tk]) else none
     |_=>none
    |none=>if bn s then some (.tsym h.length j,h++[.tok e sz (aH+j)],[]) else none
   |none=>none
  |_=>none
 |some none=>some (s,h,[])
 |none=>none
def asE(tab:List SF)(P:Program)(op:Op)(ρ:Operand→Option AV)(h:List ah):Option (AV×List ah×List Nat):=match op with
 |.call ⟨.builtin .append,args,ts⟩=>match lq ρ args.toList,ts.toList with
  |some [s,x],[t,t']=>if t=t' then alM tab P t s x h else none
  |_,_=>none
 |_=>none
def Fp(t:TypeId)(p:PV)(k:AV)(ok:Bool):List SF→Option AV
 |[]=>none
 |.look t' p' k' r ok'::l=>match decide (t=t')&&(decide (ok=ok')&&(AL p p'&&eqK k k')) with
  |true=>some r
  |false=>Fp t p k ok l
 |_::l=>Fp t p k ok l
theorem Aq{R:Nat→PV}{P:Program}{t:TypeId}{p:PV}{k r:AV}{ok:Bool}:∀{tab:List SF},aY R P tab→Fp t p k ok tab=some r→(SF.look t p k r ok).ok R P
 |[],_,h=>by cases h
 |f::l,ht,h=>by
  unfold Fp at h;split at h
  ·cases h
  ·rename_i heq
   cases heq;split at h
   ·rename_i hc
    cases h;simp only[Bool.and_eq_true,decide_eq_true_eq] at hc;obtain⟨rfl,rfl,e1,e2⟩:=hc;have e1:=jf e1;have e2:=AO e2;subst e1;subst e2;exact ht _ (List.mem_cons_self ..)
   ·exact Aq (fun g hg=>ht g (List.mem_cons_of_mem _ hg)) h
  ·rename_i heq
   cases heq;exact Aq (fun g hg=>ht g (List.mem_cons_of_mem _ hg)) h
def NH(t:TypeId)(p:PV)(k v:AV):List SF→Option Nat
 |[]=>none
 |.upd t' p' k' v' j::l=>match decide (t=t')&&(AL p p'&&(eqK k k'&&eqK v v')) with
  |true=>some j
  |false=>NH t p k v l
 |_::l=>NH t p k v l
theorem Fg{R:Nat→PV}{P:Program}{t:TypeId}{p:PV}{k v:AV}{j:Nat}:∀{tab:List SF},aY R P tab→NH t p k v tab=some j→(SF.upd t p k v j).ok R P
 |[],_,h=>by cases h
 |f::l,ht,h=>by
  unfold NH at h;split at h
  ·cases h
  ·rename_i heq
   cases heq;split at h
   ·rename_i hc
    cases h;simp only[Bool.and_eq_true,decide_eq_true_eq] at hc;obtain⟨rfl,e1,e2,e3⟩:=hc;have e1:=jf e1;have e2:=AO e2;have e3:=AO e3;subst e1;subst e2;subst e3;exact ht _ (List.mem_cons_self ..)
   ·exact Fg (fun g hg=>ht g (List.mem_cons_of_mem _ hg)) h
  ·rename_i heq
   cases heq;exact Fg (fun g hg=>ht g (List.mem_cons_of_mem _ hg)) h
def V9(h:List ah)(i:Nat):Option PV:=match h[i]? with
 |some (.mp [] [.pv p])=>some p
 |_=>none
theorem oI{h:List ah}{i:Nat}{p:PV}(hm:V9 h i=some p):h[i]? = some (.mp [] [.pv p]):=by
 unfold V9 at hm;split at hm
 ·rename_i q hq;cases hm;exact hq
 ·cases hm
def ajA(tab:List SF)(ρ:Operand→Option AV)(h:List ah):Op→Option (AV×Option Nat)
 |.lookup t m k ok=>match ρ m with
  |some (.mp i)=>match ρ k,V9 h i with
   |some kv,some p=>match Fp t p kv ok tab with
    |some r=>some (r,some i)
    |none=>none
   |_,_=>none
  |_=>none
 |_=>none
def afN(tab:List SF)(ρ:Operand→Option AV)(h:List ah)(t:TypeId)(m k x:Operand):Option (AV×List ah×List Nat):=match ρ m with
 |some (.mp i)=>match ρ k,ρ x with
  |some kv,some v=>match V9 h i with
   |some p=>match NH t p kv v tab with
    |some j=>some (.tup [],h.set i (.mp [] [.pv (.sym j)]),[i])
    |none=>none
   |none=>none
  |_,_=>none
 |_=>none
def alp(tab:List SF)(ρ:Operand→Option AV)(h:List ah):Op→Option (AV×List ah×List Nat)
 |.mapUpdate t m k x=>afN tab ρ h t m k x
 |.insert t m k x=>afN tab ρ h t m k x
 |.makeMap _ none=>some (.mp h.length,h++[.mp [] [.pv (.rows [])]],[])
 |_=>none
theorem Dv.closed{R:Nat→PV}{P:Program}{o:Oper}{ρ:Operand→Value}{K:Kn}{w:World}{v:AV}{dep:Option Nat}(hR:K.R=R)(h:Dv P o ρ K w (af R v) dep):Dv P o ρ K w v dep:=by
 obtain⟨u,hu,hy⟩:=h;exact⟨u,hu.closed hR,hy⟩
theorem QX{R:Nat→PV}{K:Kn}(hR:K.R=R){p:PV}{es es':List (List PV)}(ho:aj R p=.rows es)(he:wG K.R p=some es'):es'=es:=by
 unfold wG at he;rw[hR,ho] at he;simp only at he;split at he
 ·cases he;rfl
 ·cases he
theorem Qm{R:Nat→PV}{P:Program}{tab:List SF}(ht:aY R P tab){o:Oper}{ρ:Operand→Value}{ρA:Operand→Option AV}{K:Kn}{h:List ah}{w:World}(hR:K.R=R)(H:WR K h w)(hρ:∀x v,ρA x=some v→VR K v (ρ x)){v:AV}{dep:Option Nat}
  (hq:ajA tab ρA h o.op=some (v,dep)):Dv P o ρ K w v dep:=by
 unfold ajA at hq;split at hq
 ·rename_i t m k ok ho
  split at hq
  ·rename_i i hm
   split at hq
   ·rename_i kv p hk hp
    split at hq
    ·rename_i r hl
     cases hq;obtain⟨kt,et,d,es,key,hu,hd,hrow,hns,hkv,hlook⟩:=Aq ht hl;have hkey:ρ k=key:=bW ((hρ k _ hk).opened hR) hkv;have hmv:=hρ m _ hm;generalize hme:ρ m=mv at hmv;cases hmv with
     |mp _ g hg=>
      obtain⟨g',ents,clock,hg',hw,hml⟩:=H.map i _ _ (oI hp);rw[hg] at hg';cases hg';obtain⟨es',he,h1,h2⟩:=ML.row.1 hml;have:=QX hR hrow he;subst this;exact Dv.closed hR (BO hu hd h1 h2 hg hw ho hme hkey hlook)
    ·cases hq
   ·cases hq
  ·cases hq
 ·cases hq
theorem FZ{R:Nat→PV}{P:Program}{tab:List SF}(ht:aY R P tab){o:Oper}{ρ:Operand→Value}{ρA:Operand→Option AV}{K:Kn}{h:List ah}{w:World}(hR:K.R=R)(H:WR K h w)(hρ:∀x v,ρA x=some v→VR K v (ρ x)){v:AV}{h':List ah}{touch:List Nat}
  {t:TypeId} {m k x:Operand} (ho:o.op=.mapUpdate t m k x∨o.op=.insert t m k x) (hq:afN tab ρA h t m k x=some (v,h',touch)):Eff P o ρ K h w v h' touch:=by
 unfold afN at hq;split at hq
 ·rename_i i hm
  split at hq
  ·rename_i kv vx hk hx
   split at hq
   ·rename_i p hp
    split at hq
    ·rename_i j hl
     cases hq;obtain⟨kt,et,d,es,key,es2,hu,hd,hrow,hns,hkv,hko,hup,hrow2,hns2⟩:=Fg ht hl;have hkey:ρ k=key:=bW ((hρ k _ hk).opened hR) hkv;have hmv:=hρ m _ hm;generalize hme:ρ m=mv at hmv;cases hmv with
     |mp _ g hg=>
      obtain⟨g',ents,clock,hg',hw,hml⟩:=H.map i _ _ (oI hp);rw[hg] at hg';cases hg';obtain⟨es',he,h1,h2⟩:=ML.row.1 hml;have:=QX hR hrow he;subst this;refine LK H hu hd ho (oI hp) hg hw ⟨h1,h2⟩ hko hkey hme ((hρ x _ hx).opened hR) hup (fun l hl=>ML.row.2 ⟨es2,?_,hl.1,hl.2⟩);unfold wG;rw[hR,aj,hrow2];simp only[hns2,if_true]
    ·cases hq
   ·cases hq
  ·cases hq
 ·cases hq
theorem Q6{R:Nat→PV}{P:Program}{tab:List SF}(ht:aY R P tab){o:Oper}{ρ:Operand→Value}{ρA:Operand→Option AV}{K:Kn}{h:List ah}{w:World}(hR:K.R=R)(H:WR K h w)(hρ:∀x v,ρA x=some v→VR K v (ρ x)){v:AV}{h':List ah}{touch:List Nat}
  (hq:alp tab ρA h o.op=some (v,h',touch)):Eff P o ρ K h w v h' touch:=by
 unfold alp at hq;split at hq
 ·rename_i t m k x ho;exact FZ ht hR H hρ (.inl ho) hq
 ·rename_i t m k x ho;exact FZ ht hR H hρ (.inr ho) hq
 ·rename_i t ho
  cases hq;exact Wv H ho
 ·cases hq
theorem Ae{α:Type}{l vs:List α}{off:Nat}(h:off+vs.length≤l.length)(x:Nat):(setAt l off vs)[x]? = if off≤x∧x<off+vs.length then vs[x-off]? else l[x]?:=by
 unfold setAt;have ht:(l.take off).length=off:=by simp;omega
 by_cases h1:x<off
 ·rw[if_neg (by omega),List.getElem?_append_left (by simp;omega),List.getElem?_append_left (by omega),List.getElem?_take,if_pos h1]
 ·by_cases h2:x<off+vs.length
  ·rw[if_pos ⟨by omega,h2⟩,List.getElem?_append_left (by simp;omega),List.getElem?_append_right (by omega),ht]
  ·rw[if_neg (by omega),List.getElem?_append_right (by simp;omega)]
   simp only[List.length_append,ht];rw[List.getElem?_drop];congr 1;omega
theorem Hz{α:Type}{l vs:List α}{off:Nat}(h:off+vs.length≤l.length):(setAt l off vs).length=l.length:=by simp[setAt];omega
def mO(h:List ah)(t:Nat):Option (TypeId×Nat×PV):=match h[t]? with
 |some (.arr ty sz p)=>some (ty,sz,p)
 |_=>none
theorem dm{h:List ah}{t:Nat}{ty:TypeId}{sz:Nat}{p:PV}(hm:mO h t=some (ty,sz,p)):h[t]? = some (.arr ty sz p):=by
 unfold mO at hm;split at hm
 ·rename_i hq;cases hm;exact hq
 ·cases hm
def Kb(p i:PV):List SF→Option (List PV)
 |[]=>none
 |.idx _ (.pv q) (.pv j) (.cptr cs)::l=>match AL p q&&AL i j with
  |true=>some cs
  |false=>Kb p i l
 |_::l=>Kb p i l
theorem Dj{R:Nat→PV}{P:Program}{p i:PV}{cs:List PV}:∀{tab:List SF},aY R P tab→Kb p i tab=some cs→∃t,(SF.idx t (.pv p) (.pv i) (.cptr cs)).ok R P
 |[],_,h=>by cases h
 |f::l,ht,h=>by
  unfold Kb at h;split at h
  ·cases h
  ·rename_i heq
   cases heq;split at h
   ·rename_i hc
    cases h;rw[Bool.and_eq_true] at hc;have e1:=jf hc.1;have e2:=jf hc.2;subst e1;subst e2;exact⟨_,ht _ (List.mem_cons_self ..)⟩
   ·exact Dj (fun g hg=>ht g (List.mem_cons_of_mem _ hg)) h
  ·rename_i heq
   cases heq;exact Dj (fun g hg=>ht g (List.mem_cons_of_mem _ hg)) h
def Ir(p i:PV)(o:Nat)(c:List PV):List SF→Option Nat
 |[]=>none
 |.set p' i' o' c' j::l=>match Nat.beq o o'&&(AL p p'&&(AL i i'&&KQ c c')) with
  |true=>some j
  |false=>Ir p i o c l
 |_::l=>Ir p i o c l
theorem Fj{R:Nat→PV}{P:Program}{p i:PV}{o:Nat}{c:List PV}{j:Nat}:∀{tab:List SF},aY R P tab→Ir p i o c tab=some j→(SF.set p i o c j).ok R P
 |[],_,h=>by cases h
 |f::l,ht,h=>by
  unfold Ir at h;split at h
  ·cases h
  ·rename_i heq
   cases heq;split at h
   ·rename_i hc
    cases h;simp only[Bool.and_eq_true] at hc;obtain⟨e0,e1,e2,e3⟩:=hc;have e0:=Nat.eq_of_beq_eq_true e0;have e1:=jf e1;have e2:=jf e2;have e3:=zG e3;subst e0;subst e1;subst e2;subst e3;exact ht _ (List.mem_cons_self ..)
   ·exact Fj (fun g hg=>ht g (List.mem_cons_of_mem _ hg)) h
  ·rename_i heq
   cases heq;exact Fj (fun g hg=>ht g (List.mem_cons_of_mem _ hg)) h
def Wi(t:TypeId)(n:AV):List SF→Option Nat
 |[]=>none
 |.mk t' n' j::l=>match decide (t=t')&&BS n n' with
  |true=>some j
  |false=>Wi t n l
 |_::l=>Wi t n l
theorem J9{R:Nat→PV}{P:Program}{t:TypeId}{n:AV}{j:Nat}:∀{tab:List SF},aY R P tab→Wi t n tab=some j→(SF.mk t n j).ok R P
 |[],_,h=>by cases h
 |f::l,ht,h=>by
  unfold Wi at h;split at h
  ·cases h
  ·rename_i heq
   cases heq;split at h
   ·rename_i hc
    cases h;rw[Bool.and_eq_true,decide_eq_true_eq] at hc;obtain⟨rfl,e1⟩:=hc;have e1:=fK e1;subst e1;exact ht _ (List.mem_cons_self ..)
   ·exact J9 (fun g hg=>ht g (List.mem_cons_of_mem _ hg)) h
  ·rename_i heq
   cases heq;exact J9 (fun g hg=>ht g (List.mem_cons_of_mem _ hg)) h
def tO(t:TypeId)(s x:AV):List SF→Option Nat
 |[]=>none
 |.apq t' s' x' j::l=>match decide (t=t')&&(BS s s'&&BS x x') with
  |true=>some j
  |false=>tO t s x l
 |_::l=>tO t s x l
theorem uS{R:Nat→PV}{P:Program}{t:TypeId}{s x:AV}{j:Nat}:∀{tab:List SF},aY R P tab→tO t s x tab=some j→(SF.apq t s x j).ok R P
 |[],_,h=>by cases h
 |f::l,ht,h=>by
  unfold tO at h;split at h
  ·cases h
  ·rename_i heq
   cases heq;split at h
   ·rename_i hc
    cases h;simp only[Bool.and_eq_true,decide_eq_true_eq] at hc;obtain⟨rfl,e1,e2⟩:=hc;have e1:=fK e1;have e2:=fK e2;subst e1;subst e2;exact ht _ (List.mem_cons_self ..)
   ·exact uS (fun g hg=>ht g (List.mem_cons_of_mem _ hg)) h
  ·rename_i heq
   cases heq;exact uS (fun g hg=>ht g (List.mem_cons_of_mem _ hg)) h
def Iq(a b:PV):List SF→Option Nat
 |[]=>none
 |.sum a' b' j::l=>match AL a a'&&AL b b' with
  |true=>some j
  |false=>Iq a b l
 |_::l=>Iq a b l
theorem Fh{R:Nat→PV}{P:Program}{a b:PV}{j:Nat}:∀{tab:List SF},aY R P tab→Iq a b tab=some j→(SF.sum a b j).ok R P
 |[],_,h=>by cases h
 |f::l,ht,h=>by
  unfold Iq at h;split at h
  ·cases h
  ·rename_i heq
   cases heq;split at h
   ·rename_i hc
    cases h;rw[Bool.and_eq_true] at hc;have e1:=jf hc.1;have e2:=jf hc.2;subst e1;subst e2;exact ht _ (List.mem_cons_self ..)
   ·exact Fh (fun g hg=>ht g (List.mem_cons_of_mem _ hg)) h
  ·rename_i heq
   cases heq;exact Fh (fun g hg=>ht g (List.mem_cons_of_mem _ hg)) h
def Iu(t:TypeId)(p:PV)(k:AV):List SF→Option Nat
 |[]=>none
 |.del t' p' k' j::l=>match decide (t=t')&&(AL p p'&&eqK k k') with
  |true=>some j
  |false=>Iu t p k l
 |_::l=>Iu t p k l
theorem Fv{R:Nat→PV}{P:Program}{t:TypeId}{p:PV}{k:AV}{j:Nat}:∀{tab:List SF},aY R P tab→Iu t p k tab=some j→(SF.del t p k j).ok R P
 |[],_,h=>by cases h
 |f::l,ht,h=>by
  unfold Iu at h;split at h
  ·cases h
  ·rename_i heq
   cases heq;split at h
   ·rename_i hc
    cases h;simp only[Bool.and_eq_true,decide_eq_true_eq] at hc;obtain⟨rfl,e1,e2⟩:=hc;have e1:=jf e1;have e2:=AO e2;subst e1;subst e2;exact ht _ (List.mem_cons_self ..)
   ·exact Fv (fun g hg=>ht g (List.mem_cons_of_mem _ hg)) h
  ·rename_i heq
   cases heq;exact Fv (fun g hg=>ht g (List.mem_cons_of_mem _ hg)) h
def zN(ρ:Operand→Option AV):Option Operand→Option (Option AV)
 |none=>some none
 |some x=>(ρ x).map some
def alK:Option AV→Option PV
 |none=>some (.lit (.int .i64 0))
 |some v=>v.toPV
theorem Gf{ρ:Operand→Option AV}{R:Nat→PV}{l:Option Operand}{lv:Option AV}(h:zN ρ l=some lv):pU (fun y=>(ρ y).map fun v=>af R (nrm v)) l ((lv.map nrm).map (af R)):=by
 cases l with
 |none=>cases h;trivial
 |some x=>
  obtain⟨v,hv,e⟩:=au h;subst e;show (ρ x).map _=some _;rw[hv];rfl
def Za(ρ:Operand→Option AV)(hv:Option AV):Option Operand→Bool
 |none=>true
 |some x=>match ρ x,hv with
  |some m,some v=>BS (nrm m) (nrm v)
  |_,_=>false
def zb(p q:PV):List SF→Bool
 |[]=>false
 |.slc _ (.pv p') none (some _) (.pv q')::l=>(AL p p'&&AL q q')||zb p q l
 |_::l=>zb p q l
def uk:PV→Bool
 |.lit (.int _ n)=>decide (n=0)
 |_=>false
def ajD(tab:List SF)(P:Program)(ρ:Operand→Option AV)(h:List ah):Op→Option (AV×Option Nat)
 |.indexAddr t x i=>match ρ x,ρ i,P.underlying t with
  |some (.arv a lo q),some iv,some (.slice e)=>match mO h a,iv.toPV with
   |some (_,sz,_),some ip=>match Kb q ip tab,Iq lo ip tab,jS P e with
    |some _,some j,some s=>if s=sz then some (.aptr a (.sym j) 0,none) else none
    |_,_,_=>none
   |_,_=>none
  |some (.arr a),some iv,some (.slice e)=>match mO h a,iv.toPV with
   |some (_,sz,p),some ip=>match Kb p ip tab,jS P e with
    |some _,some s=>if s=sz then some (.aptr a ip 0,none) else none
    |_,_=>none
   |_,_=>none
  |_,_,_=>none
 |.load t x=>match ρ x with
  |some (.aptr a ip o)=>match mO h a with
   |some (_,_,p)=>match Kb p ip tab with
    |some cs=>(Ip P t ((cs.map AV.pv).drop o)).map fun v=>(v,some a)
    |none=>none
   |none=>none
  |_=>none
 |.fieldAddr s x f=>match ρ x,xQ P s f with
  |some (.aptr a ip o),some fl=>match jS P fl.type with
   |some (_+1)=>some (.aptr a ip (o+fl.offset),none)
   |_=>none
  |_,_=>none
 |.slice t x l hi mx=>match ρ x,zN ρ l,zN ρ hi,P.underlying t with
  |some (.arr a),some lv,some hv,some (.slice e)=>match mO h a,jS P e,alK lv with
   |some (_,sz,p),some s,some lp=>match rD t (.pv p) (lv.map nrm) (hv.map nrm) tab with
    |some (.pv q)=>if s=sz∧Za ρ hv mx=true then some (.arv a lp q,none) else none
    |_=>none
   |_,_,_=>none
  |some (.arv a lo q),some none,some (some yv),some (.slice e)=>match mO h a,jS P e with
   |some (_,sz,p),some s=>match rD t (.pv q) none (some (nrm yv)) tab,rD t (.pv p) none (some (nrm yv)) tab with
    |some (.pv _),some (.pv q2)=>if s=sz∧uk lo=true∧mx=none then some (.arv a lo q2,none) else none
    |_,_=>none
   |_,_=>none
  |_,_,_,_=>none
 |.nilCheck x=>match ρ x with
  |some (.aptr a ip o)=>some (.aptr a ip o,none)
  |_=>none
 |.call ⟨.builtin .len,args,ts⟩=>match args.toList,ts.toList with
  |[x],[t]=>match ρ x,P.underlying t with
   |some (.arr a),some (.slice _)=>match mO h a with
    |some (_,_,p)=>(Fq t (.pv p) tab).map fun v=>(v,none)
    |none=>none
   |some (.arv _ _ q),some (.slice _)=>(Fq t (.pv q) tab).map fun v=>(v,none)
   |_,_=>none
  |_,_=>none
 |_=>none
def Vk:List SF→Bool
 |[]=>false
 |.apq _ (.pv (.rows [])) _ _::_=>true
 |_::l=>Vk l
def Ry(t:TypeId):List SF→Bool
 |[]=>false
 |.mk t' (.pv (.lit (.int .i64 0))) _::l=>decide (t'=t)||Ry t l
 |_::l=>Ry t l
def aaV(tab:List SF)(P:Program)(h:List ah)(t:TypeId)(len:Nat)(parts:Array (Nat×Operand)):Option (AV×List ah×List Nat):=match Ry t tab,P.underlying t with
 |true,some (.slice e)=>match jS P e,len,parts with
  |some (s+1),0,⟨[]⟩=>some (.arr h.length,h++[.arr e (s+1) (.rows [])],[])
  |_,_,_=>none
 |_,_=>none
def alq(tab:List SF)(P:Program)(ρ:Operand→Option AV)(h:List ah):Op→Option (AV×List ah×List Nat)
 |.buildSlice t len parts=>match len,Vk tab with
  |0,_=>aaV tab P h t 0 parts
  |_,false=>none
  |len,true=>match oZ ρ parts.toList with
   |some ps=>match Rl P t len ps with
    |some (e,s,pvs)=>match tO t (.pv (.rows [])) (.pv (.rows (chunk s len pvs))) tab with
     |some j=>some (.arr h.length,h++[.arr e s (.sym j)],[])
     |none=>none
    |none=>none
   |none=>none
 |.store t x y=>match ρ x,ρ y with
  |some (.ptr i off),some (.arv a lo q)=>match mO h a,h[i]? with
   |some (ty,sz,p),some (.box bt cells)=>if zb p q tab=true∧uk lo=true∧jS P t=some 1∧off+1≤cells.length then
     some (AV.tup [],(h.set a ah.dead++[ah.arr ty sz q]).set i (.box bt (setAt cells off [AV.arr h.length])),[i,a]) else none
   |_,_=>none
  |some (.aptr a ip o),some v=>match mO h a,Bt v.cells,jS P t with
   |some (ty,sz,p),some c,some s=>match Ir p ip o c tab with
    |some j=>if s=c.length∧v.cells.all AV.isCell=true then some (.tup [],h.set a (.arr ty sz (.sym j)),[a]) else none
    |none=>none
   |_,_,_=>none
  |_,_=>none
 |.slice t x none (some y) none=>match ρ x,ρ y with
  |some (.arr a),some yv=>match mO h a,P.underlying t with
   |some (ty,sz,p),some (.slice e)=>match rD t (.pv p) (some (.pv (.lit (.int .i64 0)))) (some (nrm yv)) tab,jS P e with
    |some (.pv q),some s=>if s=sz then some (.arr h.length,h.set a ah.dead++[ah.arr ty sz q],[a]) else none
    |_,_=>none
   |_,_=>none
  |_,_=>none
 |.makeSlice t l c=>match ρ l,ρ c with
  |some lv,some cv=>match Wi t (nrm lv) tab,BS (nrm lv) (nrm cv),P.underlying t with
   |some j,true,some (.slice e)=>match jS P e with
    |some sz=>some (.arr h.length,h++[.arr e sz (.sym j)],[])
    |none=>none
   |_,_,_=>none
  |_,_=>none
 |.call ⟨.builtin .append,args,ts⟩=>match args.toList,ts.toList with
  |[s,x],[t,t']=>match decide (t=t'),P.underlying t,ρ s,ρ x with
   |true,some (.slice e),some sv,some xv=>match sv,jS P e with
    |.arr a,some sz=>match mO h a with
     |some (ty,sz',p)=>match tO t (.pv p) (nrm xv) tab with
      |some j=>if ty=e∧sz'=sz then some (.arr h.length,h.set a .dead++[.arr e sz (.sym j)],[a]) else none
      |none=>match BP t (.pv p) (nrm xv) tab with
       |some none=>some (.arr a,h,[])
       |_=>none
     |none=>none
    |.arv a lo q,some sz=>match mO h a with
     |some (ty,sz',p)=>match zb p q tab,uk lo,tO t (.pv q) (nrm xv) tab with
      |true,true,some j=>if ty=e∧sz'=sz then some (AV.arr (h.length+1),h.set a ah.dead++[ah.dead,ah.arr e sz (.sym j)],[a]) else none
      |_,_,_=>none
     |none=>none
    |sv,some sz=>match bn sv,tO t (nrm sv) (nrm xv) tab with
     |true,some j=>some (.arr h.length,h++[.arr e sz (.sym j)],[])
     |_,_=>none
    |_,_=>none
   |_,_,_,_=>none
  |_,_=>none
 |.call ⟨.builtin .delete,args,ts⟩=>match args.toList,ts.toList with
  |[m,k],[t,_]=>match ρ m with
   |some (.mp i)=>match ρ k,V9 h i with
    |some kv,some p=>match Iu t p kv tab with
     |some j=>some (.tup [],h.set i (.mp [] [.pv (.sym j)]),[i])
     |none=>none
    |_,_=>none
   |_=>none
  |_,_=>none
 |_=>none
theorem NW{R:Nat→PV}{P:Program}{t:TypeId}{p i:PV}{cs:List PV}(h:(SF.idx t (.pv p) (.pv i) (.cptr cs)).ok R P):∃kd n es,aj R i=.lit (.int kd n)∧0≤n∧(∀es',aj R p=.rows es'→es'=es)∧es[n.toNat]? = some (aG R cs):=by
 obtain⟨n,hn,hi⟩:=h;have hi0:∃kd,aj R i=.lit (.int kd n):=by
  rw[af] at hn;unfold rH at hn;split at hn
  ·rename_i kd m heq
   cases hn;injection heq with heq
   exact⟨kd,heq⟩
  ·cases hn
 obtain⟨kd,hkd⟩:=hi0;rw[af,af] at hi;unfold jW at hi;split at hi
 ·split at hi
  ·rename_i es hes
   split at hi
   ·rename_i h0
    split at hi
    ·rename_i c hc
     split at hi
     ·injection hi with hi
      injection hi with hi
      subst hi;refine⟨kd,n,es,hkd,h0,fun es' he=>?_,hc⟩;rw[he] at hes;simpa[rowsOf] using hes
     ·cases hi
    ·cases hi
   ·cases hi
  ·cases hi
 ·split at hi
  ·split at hi
   ·obtain⟨b,hb,e⟩:=Option.map_eq_some_iff.1 hi
    exfalso;cases hp:aj R p<;>rw[hp] at hb<;>simp[WT] at hb
   ·cases hi
  ·cases hi
 ·cases hi
theorem PR.int_eq{R:Nat→PV}{M:Nat→Nat→Option Value}{i:PV}{kd kd':IntKind}{n:Int}{k:Int}(h:PR R M i (.int kd k))(e:aj R i=.lit (.int kd' n)):n=k:=by
 have:=h.opened;rw[e] at this;cases this;rfl
theorem PR.int_of{R:Nat→PV}{M:Nat→Nat→Option Value}{i:PV}{v:Value}{kd:IntKind}{n:Int}(h:PR R M i v)(e:aj R i=.lit (.int kd n)):v=.int kd n:=by
 have:=h.opened;rw[e] at this;cases this;rfl
theorem abw{R:Nat→PV}{P:Program}{tab:List SF}(ht:aY R P tab){K:Kn}{h:List ah}{w:World}(hR:K.R=R)(H:WR K h w){a:Nat}{ty:TypeId}{sz:Nat}{p:PV}(ha:mO h a=some (ty,sz,p)){ip:PV}{cs:List PV}(hl:Kb p ip tab=some cs) :
  ∃g cur es kd n,K.mu a=some g∧w.heap[g]? = some (.cells cur ty (0,0))∧(cur.size=K.Z g*sz∧K.Z g≤maxLen)∧AR K a g sz p cur∧aj R p=.rows es∧aj R ip=.lit (.int kd n)∧0≤n∧es[n.toNat]? = some (aG R cs)∧n.toNat<K.N a:=by
 obtain⟨g,cur,hm,hw,hs,hr⟩:=H.arr a ty sz p (dm ha);obtain⟨es,he,hns,hlen,_⟩:=hr.row;obtain⟨t,hf⟩:=Dj ht hl;obtain⟨kd,n,es',h1,h2,h3,h4⟩:=NW hf;rw[hR] at he;have:=h3 es he;subst this;refine⟨g,cur,es,kd,n,hm,hw,by rw[←hr.el];exact hs,hr,he,h1,h2,h4,?_⟩;rw[←hlen];by_cases hh:n.toNat<es.length
 ·exact hh
 ·rw[List.getElem?_eq_none (by omega)] at h4;cases h4
theorem RL.len{R:Nat→PV}{q:PV}{n:Nat}(h:RL R q n){es:List (List PV)}(e:aj R q=.rows es):n=es.length:=by
 have:=h.opened;rw[e] at this;cases this;rfl
theorem Yf{R:Nat→PV}{P:Program}{tab:List SF}(ht:aY R P tab){o:Oper}{ρ:Operand→Value}{ρA:Operand→Option AV}{K:Kn}{h:List ah}{w:World}(hR:K.R=R)(H:WR K h w)(hρ:∀x v,ρA x=some v→VR K v (ρ x))
  {t:TypeId} {x i:Operand} (ho:o.op=.indexAddr t x i) {a:Nat} {lo q ip:PV} {iv:AV} {e ty:TypeId} {sz j:Nat} {p:PV} {cs:List PV} (hx:ρA x=some (.arv a lo q)) (hi:ρA i=some iv) (hu:P.underlying t=some (.slice e)) (hrow:mO h a=some (ty,sz,p)) (hip:iv.toPV=some ip)
  (hl:Kb q ip tab=some cs) (hj:Iq lo ip tab=some j) (hs:jS P e=some sz):Dv P o ρ K w (.aptr a (.sym j) 0) none:=by
 obtain⟨g,cur,hm,hw,hsz,hr⟩:=H.arr a ty sz p (dm hrow);obtain⟨t',hf⟩:=Dj ht hl;obtain⟨kd,n,es,h1,h2,h3,h4⟩:=NW hf;obtain⟨k1,k2,m,n',s1,s2,s3⟩:=Fh ht hj;rw[h1] at s2;cases s2;have hiv:=(hρ i _ hi).toPV hip;rw[hR] at hiv;have hie:ρ i=.int kd n:=hiv.int_of h1;have hxv:=hρ x _ hx;generalize hxe:ρ x=xv at hxv;cases hxv with
 |arv _ _ _ g' k nn cap off kd' hm' hlo hq hk hnc hz hof=>
  rw[hm] at hm';cases hm';rw[hR] at hlo hq;have hkm:m=k:=hlo.int_eq s1;have hrows:∃es',aj R q=.rows es':=by
   have:=hq.opened;cases ho:aj R q with
   |rows es'=>exact⟨es',rfl⟩
   |sym i=>
    obtain⟨nn,hn2,hi2⟩:=hf;rw[af,ho] at hi2;unfold jW at hi2;split at hi2<;>simp[rowsOf,WT] at hi2;split at hi2<;>simp at hi2
   |lit v=>rw[ho] at this;cases this
   |opq a b c=>rw[ho] at this;cases this
   |rng a b=>rw[ho] at this;cases this
   |any=>rw[ho] at this;cases this
  obtain⟨es',hes⟩:=hrows;have hlen:=hq.len hes;have:=h3 es' hes;subst this;have hlt:n.toNat<es'.length:=by
   by_cases hh:n.toNat<es'.length
   ·exact hh
   ·rw[List.getElem?_eq_none (by omega)] at h4;cases h4
  have hoff:=hof;rw[if_pos (by omega)] at hoff;have hmn:m+n=((k+n.toNat:Nat):Int):=by omega
  have hpj:PR K.R K.M (.sym j) (.int .i64 ((k+n.toNat:Nat):Int)):=by
   refine .sym j _ ?_;rw[hR,s3,hmn];exact .lit _ rfl
  have key:=VR.aptr (K:=K) a (.sym j) 0 g (k+n.toNat) .i64 hm hpj (by omega);rw[hr.el,Nat.add_zero] at key;refine .of _ key (fun w'=>?_);have hlt':n<(nn:Int):=by omega
  rw[hr.el] at hoff;simp[execOp,ho,hxe,hie,Instr.indexAt,asIntOf,run_underlying hu,h2,hlt',dV hs,Addr.add_lit,hoff,Nat.add_mul]
theorem Ie{R:Nat→PV}{P:Program}{o:Oper}{ρ:Operand→Value}{ρA:Operand→Option AV}{K:Kn}{h:List ah}{w:World}(hR:K.R=R)(H:WR K h w)(hρ:∀x v,ρA x=some v→VR K v (ρ x))
  {t:TypeId} {x:Operand} {l hi mx:Option Operand} (ho:o.op=.slice t x l hi mx) {a:Nat} {lp q:PV} {lv hv:Option AV} {e ty:TypeId} {sz:Nat} {p:PV} (hx:ρA x=some (.arr a)) (hl:zN ρA l=some lv) (hh:zN ρA hi=some hv) (hu:P.underlying t=some (.slice e)) (hrow:mO h a=some (ty,sz,p)) (hlp:alK lv=some lp)
  (hok0:(SF.slc t (.pv p) (lv.map nrm) (hv.map nrm) (.pv q)).ok R P) (hs:jS P e=some sz) (hmx:Za ρA hv mx=true):Dv P o ρ K w (.arv a lp q) none:=by
 obtain⟨g,cur,hm,hw,hsz,hr⟩:=H.arr a ty sz p (dm hrow);obtain⟨es,he,hns,hlen,hZ0,_⟩:=hr.row;have hok:=hok0 (fun y=>(ρA y).map fun v=>af R (nrm v)) l hi (Gf hl) (Gf hh);have he':=he;rw[hR] at he';rw[af,he',af] at hok
 -- the bounds,as' numbers
 have hbl:∀(z:Option Operand) (zv:Option AV) (d n:Nat),zN ρA z=some zv→iJ (fun y=>(ρA y).map fun v=>af R (nrm v)) d z=some n→(z=none∧zv=none∧n=d)∨∃y kd v,z=some y∧zv=some v∧ρ y=.int kd (n:Int)∧af R (nrm v)=.pv (.lit (.int kd (n:Int)))∧VR K v (.int kd (n:Int)):=by
  intro z zv d n h1 h2;cases z with
  |none=>cases h1;cases h2;exact .inl ⟨rfl,rfl,rfl⟩
  |some y=>
   unfold zN at h1;simp only at h1;cases hy:ρA y with
   |none=>rw[hy] at h1;cases h1
   |some v=>
    rw[hy] at h1;cases h1;simp only[iJ,hy,Option.map_some] at h2;split at h2
    ·rename_i m hm2
     split at h2
     ·rename_i h0
      cases h2;have hv1:=((hρ y v hy).nrm).opened hR;have hlit:∃kd,af R (nrm v)=.pv (.lit (.int kd m)):=by
       unfold rH at hm2;split at hm2
       ·rename_i kd m' heq;cases hm2;exact⟨kd,heq⟩
       ·cases hm2
      obtain⟨kd,hkd⟩:=hlit;rw[hkd] at hv1;have hmm:((m.toNat:Nat):Int)=m:=by omega
      have hye:ρ y=.int kd m:=by
       generalize ρ y=yv at hv1;cases hv1 with|pv hv2=>cases hv2;rfl
      refine .inr ⟨y,kd,v,rfl,rfl,by rw[hmm];exact hye,by rw[hmm];exact hkd,by rw[hmm,←hye];exact hρ y v hy⟩
     ·cases h2
    ·cases h2
 have hres:∃r s:Nat,iJ (fun y=>(ρA y).map fun v=>af R (nrm v)) 0 l=some r∧iJ (fun y=>(ρA y).map fun v=>af R (nrm v)) es.length hi=some s∧r≤s∧s≤es.length∧aj R q=.rows ((es.drop r).take (s-r)):=by
  unfold iW at hok;simp only[rowsOf,hu] at hok;split at hok
  ·rename_i e1 r s hu1 hr1 hs1 _
   cases hu1;simp only[hs] at hok;split at hok
   ·rename_i hc
    refine⟨r,s,hr1,hs1,hc.1,hc.2.1,?_⟩;injection hok with hok
    injection hok with hok
    exact hok.symm
   ·cases hok
  ·cases hok
 obtain⟨r,s,hr1,hs1,hrs,hsl,hq⟩:=hres;have hxv:=hρ x _ hx;generalize hxe:ρ x=xv at hxv;cases hxv with
 |arr _ g' cap hm' hnc hcap=>
  rw[hm] at hm';cases hm';have hRL:RL K.R q (s-r):=by
   have:RL R (aj R q) (s-r):=by
    have e1:((es.drop r).take (s-r)).length=s-r:=by simp;omega
    have h0:RL R (.rows ((es.drop r).take (s-r))) ((es.drop r).take (s-r)).length:=.rows _;rw[hq];rw[e1] at h0;exact h0
   rw[hR];exact this.closed
  have hlo:∃kd,PR K.R K.M lp (.int kd (r:Int)):=by
   rcases hbl l lv 0 r hl hr1 with⟨_,rfl,rfl⟩|⟨y,kd,v,_,rfl,_,_,hv⟩
   ·cases hlp;exact⟨.i64,.lit _ rfl⟩
   ·exact⟨kd,hv.toPV hlp⟩
  obtain⟨kdl,hlo⟩:=hlo;have hmxc:∃c,s≤c∧c≤cap∧∀w':World,(Instr.sliceBounds true (K.N a) cap (l.map ρ) (hi.map ρ) (mx.map ρ)).run P w'=.ok (r,s,c) w':=by
   have hb2:∀(w':World) k c,(Instr.sliceBound (.int k (r:Int)) s c).run P w'=.ok r w':=fun w' k c=>run_sliceBound w' k r s c hrs
   have hb1:∀(w':World) k c m,s≤m→(Instr.sliceBound (.int k (s:Int)) m c).run P w'=.ok s w':=fun w' k c m hm=>run_sliceBound w' k s m c hm
   rcases hbl hi hv es.length s hh hs1 with⟨rfl,rfl,rfl⟩|⟨y,kd,v,rfl,rfl,hy,hyo,_⟩
   ·cases mx with
    |none=>
     refine⟨cap,by omega,Nat.le_refl _,fun w'=>?_⟩;rcases hbl l lv 0 r hl hr1 with⟨rfl,rfl,rfl⟩|⟨y,kd,v,rfl,rfl,hy,_,_⟩
     ·simp[Instr.sliceBounds,hlen]
     ·rw[hlen] at hb2;simp[Instr.sliceBounds,hy,hb2,hlen]
    |some z=>simp[Za] at hmx
   ·cases mx with
    |none=>
     refine⟨cap,by omega,Nat.le_refl _,fun w'=>?_⟩;have h3:=fun k c=>hb1 w' k c cap (by omega)
     rcases hbl l lv 0 r hl hr1 with⟨rfl,rfl,rfl⟩|⟨y2,kd2,v2,rfl,rfl,hy2,_,_⟩
     ·simp[Instr.sliceBounds,hy,h3]
     ·simp[Instr.sliceBounds,hy,hy2,hb2,h3]
    |some z=>
     unfold Za at hmx;simp only at hmx;split at hmx
     ·rename_i m v' hz hv'
      cases hv';have e1:=fK hmx;have hzv:=((hρ z _ hz).nrm).opened hR;rw[e1,hyo] at hzv;have hze:ρ z=.int kd (s:Int):=by
       generalize ρ z=zv at hzv;cases hzv with|pv h2=>cases h2;rfl
      refine⟨s,Nat.le_refl _,by omega,fun w'=>?_⟩;have h3:=fun k c=>hb1 w' k c cap (by omega)
      have h4:=fun k c=>hb1 w' k c s (Nat.le_refl _)
      rcases hbl l lv 0 r hl hr1 with⟨rfl,rfl,rfl⟩|⟨y2,kd2,v2,rfl,rfl,hy2,_,_⟩
      ·simp[Instr.sliceBounds,hy,hze,h3,h4]
      ·simp[Instr.sliceBounds,hy,hy2,hze,hb2,h3,h4]
     ·cases hmx
  obtain⟨c,hc1,hc2,hB⟩:=hmxc;have hoff2:(if c=r then 0 else r*K.E g)=if 0<c-r then r*K.E g else 0:=by
   by_cases hcr:c=r
   ·rw[if_pos hcr,if_neg (by omega)]
   ·rw[if_neg hcr,if_pos (by omega)]
  refine .of (.slice (some ⟨g,if c=r then 0 else r*K.E g,none⟩) (s-r) (c-r)) (.arv a lp q g r (s-r) (c-r) _ kdl hm hlo hRL (by omega) (by omega) (by omega) hoff2) (fun w'=>?_);rw[hr.el];by_cases hrc:c=r
  ·subst hrc
   simp[execOp,ho,hxe,Instr.sliceAt,Instr.slice,run_underlying hu,hB,dV hs,Addr.add_lit]
  ·simp[execOp,ho,hxe,Instr.sliceAt,Instr.slice,run_underlying hu,hB,dV hs,Addr.add_lit,hrc]
theorem Yg{R:Nat→PV}{P:Program}{tab:List SF}(ht:aY R P tab){o:Oper}{ρ:Operand→Value}{ρA:Operand→Option AV}{K:Kn}{h:List ah}{w:World}(hR:K.R=R)(H:WR K h w)(hρ:∀x v,ρA x=some v→VR K v (ρ x))
  {t:TypeId} {x:Operand} {l hi mx:Option Operand} (ho:o.op=.slice t x l hi mx) {a:Nat} {lp q:PV} {lv hv:Option AV} {e ty:TypeId} {sz:Nat} {p:PV} (hx:ρA x=some (.arr a)) (hl:zN ρA l=some lv) (hh:zN ρA hi=some hv) (hu:P.underlying t=some (.slice e)) (hrow:mO h a=some (ty,sz,p)) (hlp:alK lv=some lp)
  (hf:rD t (.pv p) (lv.map nrm) (hv.map nrm) tab=some (.pv q)) (hs:jS P e=some sz) (hmx:Za ρA hv mx=true):Dv P o ρ K w (.arv a lp q) none:=
 Ie hR H hρ ho hx hl hh hu hrow hlp (pz ht hf) hs hmx
theorem VT{R:Nat→PV}{P:Program}{tab:List SF}(ht:aY R P tab){o:Oper}{ρ:Operand→Value}{ρA:Operand→Option AV}{K:Kn}{h:List ah}{w:World}(hR:K.R=R)(H:WR K h w)(hρ:∀x v,ρA x=some v→VR K v (ρ x))
  {t:TypeId} {x y:Operand} (ho:o.op=.slice t x none (some y) none) {a:Nat} {lo q q1 q2:PV} {yv:AV} {e ty:TypeId} {sz:Nat} {p:PV} (hx:ρA x=some (.arv a lo q)) (hy:ρA y=some yv) (hu:P.underlying t=some (.slice e)) (hrow:mO h a=some (ty,sz,p)) (hz:uk lo=true)
  (hf1:rD t (.pv q) none (some (nrm yv)) tab=some (.pv q1)) (hf2:rD t (.pv p) none (some (nrm yv)) tab=some (.pv q2)) (hs:jS P e=some sz):Dv P o ρ K w (.arv a lo q2) none:=by
 obtain⟨g,cur,hm,hw,hsz,hr⟩:=H.arr a ty sz p (dm hrow);obtain⟨es,he,hns,hlen,hZ0,_⟩:=hr.row;have hmt:pU (fun z=>(ρA z).map fun v=>af R (nrm v)) (some y) ((some (nrm yv)).map (af R)):=by
  show (ρA y).map _=some _;rw[hy];rfl
 have ok1:=pz ht hf1 (fun z=>(ρA z).map fun v=>af R (nrm v)) none (some y) trivial hmt;have ok2:=pz ht hf2 (fun z=>(ρA z).map fun v=>af R (nrm v)) none (some y) trivial hmt;have he':=he;rw[hR] at he';rw[af,he',af] at ok2;have hxv:=hρ x _ hx;generalize hxe:ρ x=xv at hxv;cases hxv with
 |arv _ _ _ g' k nn cap off kd hm' hlo hqq hn hc hzz hof=>
  rw[hm] at hm';cases hm';have hk0:k=0:=by
   unfold uk at hz;split at hz
   ·cases hlo;simp at hz;omega
   ·cases hz
  subst hk0;obtain⟨eq,heq⟩:∃eq,aj R q=.rows eq:=by
   have h0:=hqq;rw[hR] at h0;generalize hq':aj R q=q' at *;have h1:=h0.opened;rw[hq'] at h1;cases h1 with
   |rows es=>exact⟨_,rfl⟩
   |sym i n hh=>
    rw[af,hq',af] at ok1;unfold iW at ok1;exfalso;simp[rowsOf,AV.val?] at ok1
  have hnn:nn=eq.length:=by
   have h0:=hqq;rw[hR] at h0;exact h0.len heq
  rw[af,heq,af] at ok1;have key:∀(es q:_),iW P t (fun z=>(ρA z).map fun v=>af R (nrm v)) (.pv (.rows es)) none (some y) none=some (.pv q)→∃s:Nat,iJ (fun z=>(ρA z).map fun v=>af R (nrm v)) es.length (some y)=some s∧s≤es.length∧q=.rows (es.take s):=by
   intro es q hok;unfold iW at hok;simp only[rowsOf,hu] at hok;split at hok
   ·rename_i e1 r s hu1 hr1 hs1 _
    cases hu1;cases hr1;simp only[hs] at hok;split at hok
    ·rename_i hc
     refine⟨s,hs1,hc.2.1,?_⟩;injection hok with hok
     injection hok with hok
     rw[←hok];simp
    ·cases hok
   ·cases hok
  obtain⟨s1,b1,l1,_⟩:=key eq _ ok1;obtain⟨s2,b2,l2,q2e⟩:=key es _ ok2;have hs12:s1=s2:=by
   simp only[iJ] at b1 b2;rw[b1] at b2;exact Option.some.inj b2
  subst hs12;have hye:∃kd,ρ y=.int kd (s1:Int):=by
   simp only[iJ,hy,Option.map_some] at b2;split at b2
   ·rename_i m hm2
    split at b2
    ·rename_i h0
     cases b2;have hv1:=((hρ y yv hy).nrm).opened hR;have hlit:∃kd,af R (nrm yv)=.pv (.lit (.int kd m)):=by
      unfold rH at hm2;split at hm2
      ·rename_i kd m' heq;cases hm2;exact⟨kd,heq⟩
      ·cases hm2
     obtain⟨kd,hkd⟩:=hlit;rw[hkd] at hv1;have hmm:((m.toNat:Nat):Int)=m:=by omega
     refine⟨kd,?_⟩;rw[hmm];generalize ρ y=yv at hv1;cases hv1 with|pv hv2=>cases hv2;rfl
    ·cases b2
   ·cases b2
  obtain⟨kd2,hye⟩:=hye;have hoff:off=0:=by rw[hof];simp
  subst hoff;have hRL:RL K.R q2 s1:=by
   have:RL R (aj R q2) s1:=by
    have e1:(es.take s1).length=s1:=by simp;omega
    have h0:RL R (.rows (es.take s1)) (es.take s1).length:=.rows _;rw[q2e];rw[e1] at h0;exact h0
   rw[hR];exact this.closed
  have h3:∀w':World,(Instr.sliceBounds true nn cap none (some (ρ y)) none).run P w'=.ok (0,s1,cap) w':=fun w'=>by
   have hb:=fun c=>run_sliceBound (P:=P) w' kd2 s1 cap c (by omega)
   simp[Instr.sliceBounds,hye,hb]
  refine .of (.slice (some ⟨g,0,none⟩) s1 cap) (.arv a lo q2 g 0 s1 cap 0 kd hm hlo hRL (by omega) (by omega) (by omega) (by simp)) (fun w'=>?_);by_cases hrc:cap=0
  ·subst hrc
   simp[execOp,ho,hxe,Instr.sliceAt,Instr.slice,run_underlying hu,h3,dV hs,Addr.add_lit]
  ·simp[execOp,ho,hxe,Instr.sliceAt,Instr.slice,run_underlying hu,h3,dV hs,Addr.add_lit,hrc]
theorem Qn{R:Nat→PV}{P:Program}{tab:List SF}(ht:aY R P tab){o:Oper}{ρ:Operand→Value}{ρA:Operand→Option AV}{K:Kn}{h:List ah}{w:World}(hR:K.R=R)(H:WR K h w)(hρ:∀x v,ρA x=some v→VR K v (ρ x)){v:AV}{dep:Option Nat}
  (hq:ajD tab P ρA h o.op=some (v,dep)):Dv P o ρ K w v dep:=by
 unfold ajD at hq;split at hq
 ·rename_i t x i ho
  split at hq
  ·rename_i a lo q iv e hx hi hu
   split at hq
   ·rename_i ty sz p ip hrow hip
    split at hq
    ·rename_i cs j s hl hj hs
     split at hq
     ·rename_i hse
      subst hse;cases hq;exact Yf ht hR H hρ ho hx hi hu hrow hip hl hj hs
     ·cases hq
    ·cases hq
   ·cases hq
  ·rename_i a iv e hx hi hu
   split at hq
   ·rename_i ty sz p ip hrow hip
    split at hq
    ·rename_i cs s hl hs
     split at hq
     ·rename_i hse
      subst hse;cases hq;obtain⟨g,cur,es,kd,n,hm,hw,_,hr,he,hn1,h0,hn3,hlt⟩:=abw ht hR H hrow hl;have hiv:=(hρ i _ hi).toPV hip;rw[hR] at hiv;have hie:ρ i=.int kd n:=hiv.int_of hn1;have hxv:=hρ x _ hx;generalize hxe:ρ x=xv at hxv;cases hxv with
      |arr _ g' cap hm' hnc hz=>
       rw[hm] at hm';cases hm';rw[hie] at hiv;have hnn:((n.toNat:Nat):Int)=n:=by omega
       have key:=VR.aptr (K:=K) a ip 0 g n.toNat kd hm (by rw[hR,hnn];exact hiv) hlt;rw[hr.el,Nat.add_zero] at key;refine .of _ key (fun w'=>?_);have hlt':n<(K.N a:Int):=by omega
       simp[execOp,ho,hxe,hie,Instr.indexAt,asIntOf,run_underlying hu,h0,hlt',dV hs,Addr.add_lit]
     ·cases hq
    ·cases hq
   ·cases hq
  ·cases hq
 ·rename_i t x ho
  split at hq
  ·rename_i a ip off hx
   split at hq
   ·rename_i ty sz p hrow
    split at hq
    ·rename_i cs hl
     obtain⟨r,hr',e⟩:=au hq;cases e;obtain⟨g,cur,es,kd,n,hm,hw,_,hr,he,hn1,h0,hn3,hlt⟩:=abw ht hR H hrow hl;have hxv:=hρ x _ hx;generalize hxe:ρ x=xv at hxv;cases hxv with
     |aptr _ _ _ g' k kd' hm' hik hk=>
      rw[hm] at hm';cases hm';rw[hR] at hik;have hkn:=hik.int_eq hn1;have hkn':n.toNat=k:=by omega
      rw[hkn'] at hn3;obtain⟨es',he',hns,hlen,hZ,hel,hcell⟩:=hr.row;rw[hR] at he';have:=he.symm.trans he';injection this with this
      subst this;have hk':k<es.length:=by omega
      rw[List.getElem?_eq_getElem hk'] at hn3;have hn3:=Option.some.inj hn3;have hcl:∀j,j<cs.length→∃v,cur[k*K.E g+j]? = some v∧PR K.R K.M (cs.getD j .any) v:=by
       intro j hj;have hj':j<es[k].length:=by rw[hn3,bM];simpa using hj
       obtain⟨v,h1,h2⟩:=hcell k hk' j hj';refine⟨v,h1,?_⟩;have e1:es[k][j]=aj R cs[j]:=by
        have:es[k][j]? = (aG R cs)[j]?:=by rw[hn3]
        rw[List.getElem?_eq_getElem hj',bM,List.getElem?_map,List.getElem?_eq_getElem hj] at this;simpa using this
       rw[e1,←hR] at h2;rw[List.getD_eq_getElem?_getD,List.getElem?_eq_getElem hj];exact h2.closed
      have hcs:∃us:List Value,us.length=cs.length∧∀j,j<cs.length→∃v,us[j]? = some v∧cur[k*K.E g+j]? = some v∧PR K.R K.M (cs.getD j .any) v:=by
       refine⟨(List.range cs.length).map fun j=>cur.getD (k*K.E g+j) (.bool false),by simp,fun j hj=>?_⟩;obtain⟨v,h1,h2⟩:=hcl j hj;refine⟨v,?_,h1,h2⟩;rw[List.getElem?_map,List.getElem?_range hj];simp[Array.getD_eq_getD_getElem?,h1]
      obtain⟨us,hul,hus⟩:=hcs;have hvl:VL K (cs.map AV.pv) us:=⟨by simp[hul],fun j hj hj'=>by
       obtain⟨v,h1,_,h3⟩:=hus j (by simpa using hj);rw[List.getElem?_eq_getElem hj'] at h1;rw[Option.some.inj h1];rw[List.getElem_map];rw[List.getD_eq_getElem?_getD,List.getElem?_eq_getElem (by simpa using hj)] at h3;exact .pv h3⟩
      obtain⟨u,hvu,hrun⟩:=uQ (hvl.drop off) hr' g (k*K.E g+off);refine⟨u,hvu,fun w' hM hd=>?_⟩;have hblk:=hd a rfl g hm;have hcells:∀j c,(us.drop off)[j]? = some c→w'.cell? ⟨g,k*K.E g+off+j,none⟩=some c:=by
       intro j c hj;rw[List.getElem?_drop] at hj;have hjl:off+j<cs.length:=by
        by_cases hh:off+j<us.length
        ·omega
        ·rw[List.getElem?_eq_none (by omega)] at hj;cases hj
       obtain⟨v,h1,h2,_⟩:=hus (off+j) hjl;rw[hj] at h1;rw[World.cell?_of_block (w:=w) hblk];rw[show k*K.E g+off+j=k*K.E g+(off+j) by omega];simp only[World.cell?,hw,h2];simp[←Option.some.inj h1]
      have:=hrun w' hcells;simp[execOp,ho,Instr.loadAt,Instr.sureAddr,hxe,this]
    ·cases hq
   ·cases hq
  ·cases hq
 ·rename_i s x f ho
  split at hq
  ·rename_i a ip off fl hx hf
   split at hq
   ·rename_i n hn
    cases hq;obtain⟨fs,hu,hfs⟩:=xP hf;have hxv:=hρ x _ hx;generalize hxe:ρ x=xv at hxv;cases hxv with
    |aptr _ _ _ g k kd hm hik hk=>
     refine .of _ (.aptr a ip (off+fl.offset) g k kd hm hik hk) (fun w'=>?_);simp[execOp,ho,Instr.fieldAt,run_underlying hu,hfs,Instr.sureAddr,hxe,fieldPlace,dV hn,Addr.add_lit,Nat.add_assoc]
   ·cases hq
  ·cases hq
 ·rename_i t x l hi mx ho
  split at hq
  ·rename_i a lv hv e hx hl hh hu
   split at hq
   ·rename_i ty sz p s lp hrow hs hlp
    split at hq
    ·rename_i q hf
     split at hq
     ·rename_i hse
      cases hq;obtain⟨rfl,hmx⟩:=hse;exact Yg ht hR H hρ ho hx hl hh hu hrow hlp hf hs hmx
     ·cases hq
    ·cases hq
   ·cases hq
  ·rename_i a lo q yv e hx hl hh hu
   split at hq
   ·rename_i ty sz p s hrow hs
    split at hq
    ·rename_i q1 q2 hf1 hf2
     split at hq
     ·rename_i hse
      cases hq;obtain⟨rfl,hz,rfl⟩:=hse;cases l with
      |some l=>cases hll:ρA l<;>simp[zN,hll] at hl
      |none=>
       cases hi with
       |none=>simp[zN] at hh
       |some y=>
        have hy:ρA y=some yv:=by
         unfold zN at hh;simpa using hh
        exact VT ht hR H hρ ho hx hy hu hrow hz hf1 hf2 hs
     ·cases hq
    ·cases hq
   ·cases hq
  ·cases hq
 ·rename_i x ho
  split at hq
  ·rename_i a ip off hx
   cases hq;have hxv:=hρ x _ hx;refine .of (ρ x) hxv (fun w'=>?_);generalize hxe:ρ x=xv at hxv;cases hxv with
   |aptr _ _ _ g k kd hm hik hk=>simp[execOp,ho,hxe]
  ·cases hq
 ·rename_i args ts ho
  split at hq
  ·rename_i x t ha hts
   have e1:args = #[x]:=by rw[←Array.toArray_toList (xs:=args),ha]
   have e2:ts = #[t]:=by rw[←Array.toArray_toList (xs:=ts),hts]
   subst e1;subst e2;split at hq
   ·rename_i a e hx hu
    split at hq
    ·rename_i ty sz p hrow
     obtain⟨r,hr',e⟩:=au hq;cases e;obtain⟨g,cur,hm,hw,hs,hr⟩:=H.arr a ty sz p (dm hrow);obtain⟨es,he,hns,hlen,_⟩:=hr.row;rw[hR] at he;have hok:=uR ht hr' o.type;rw[af,he] at hok;have hxv:=hρ x _ hx;generalize hxe:ρ x=xv at hxv;cases hxv with
     |arr _ g' cap hm' hnc hz=>
      have hrv:af R v=.pv (.lit (.int .i64 es.length)):=by
       simp[dO,FB,hu,rowsOf] at hok;exact hok.symm
      refine .of (.int .i64 es.length) ?_ (fun w'=>?_)
      ·have:VR K (af R v) (.int .i64 es.length):=by rw[hrv];exact .pv (.lit _ rfl)
       exact this.closed hR
      ·rw[hlen]
       simp[execOp,ho,resolve,invoke,builtin,hxe,Builtin.len_,run_underlying hu,goInt]
    ·cases hq
   ·rename_i b lo q e hx hu
    obtain⟨r,hr',e⟩:=au hq;cases e;have hok:=uR ht hr' o.type;have hxv:=hρ x _ hx;generalize hxe:ρ x=xv at hxv;cases hxv with
    |arv _ _ _ g' k nn cap off kd' hm' hlo hqq hk hnc hz hof=>
     rw[hR] at hqq;have hrows:∃es',aj R q=.rows es':=by
      have:=hqq.opened;rw[af] at hok;cases hoq:aj R q with
      |rows es'=>exact⟨es',rfl⟩
      |sym i=>
       exfalso;rw[hoq] at hok;have hb:dO P .len #[t] o.type [AV.pv (.sym i)]=none:=by simp[dO,FB,rowsOf,AV.toPV,AV.val?]
       rw[hb] at hok;cases hok
      |lit v=>rw[hoq] at this;cases this
      |opq a b c=>rw[hoq] at this;cases this
      |rng a b=>rw[hoq] at this;cases this
      |any=>rw[hoq] at this;cases this
     obtain⟨es',hes⟩:=hrows;have hlen:=hqq.len hes;rw[af,hes] at hok;have hrv:af R v=.pv (.lit (.int .i64 es'.length)):=by
      simp[dO,FB,hu,rowsOf] at hok;exact hok.symm
     refine .of (.int .i64 es'.length) ?_ (fun w'=>?_)
     ·have:VR K (af R v) (.int .i64 es'.length):=by rw[hrv];exact .pv (.lit _ rfl)
      exact this.closed hR
     ·rw[←hlen]
      simp[execOp,ho,resolve,invoke,builtin,hxe,Builtin.len_,run_underlying hu,goInt]
   ·cases hq
  ·cases hq
 ·cases hq
def X5(tab:List SF)(P:Program)(op:Op)(ty:TypeId)(ρ:Operand→Option AV)(h:List ah):Option (AV×Option Nat):=match Ci P op ty ρ h with
 |some r=>some r
 |none=>match ajx P op ρ h with
  |some r=>some r
  |none=>match ajz tab op (fun x=>(ρ x).map nrm) with
  |some v=>some (v,none)
  |none=>match ajA tab ρ h op with
   |some r=>some r
   |none=>ajD tab P ρ h op
def ZI:Op→Bool
 |.call ⟨.builtin .append,_,_⟩=>true
 |.makeMap _ none=>true
 |_=>false
def J5:List SF→Bool
 |[]=>false
 |.names::_=>true
 |_::l=>J5 l
def asA(tab:List SF)(P:Program)(op:Op)(ρ:Operand→Option AV)(h:List ah):Option (AV×List ah×List Nat):=match ZI op&&J5 tab with
 |true=>none
 |false=>ala P op ρ h
def asC(tab:List SF)(P:Program)(op:Op)(ρ:Operand→Option AV)(h:List ah):Option (AV×List ah×List Nat):=match J5 tab with
 |true=>none
 |false=>afL P op ρ h
def ak9(tab:List SF)(P:Program)(op:Op)(ρ:Operand→Option AV)(h:List ah):Option (AV×List ah×List Nat):=match alq tab P ρ h op with
 |some r=>some r
 |none=>match asA tab P op ρ h with
 |some r=>some r
 |none=>match asC tab P op ρ h with
  |some r=>some r
  |none=>match asB P op ρ h with
  |some r=>some r
  |none=>match afL P op ρ h with
   |some r=>some r
   |none=>match asE tab P op ρ h with
    |some r=>some r
    |none=>alp tab ρ h op
theorem xw{R:Nat→PV}{P:Program}{tab:List SF}(ht:aY R P tab){o:Oper}{ρ:Operand→Value}{ρA:Operand→Option AV}{K:Kn}{h:List ah}{w:World}(hR:K.R=R)(H:WR K h w)(hρ:∀x v,ρA x=some v→VR K v (ρ x)){v:AV}{dep:Option Nat}
  (hq:X5 tab P o.op o.type ρA h=some (v,dep)):Dv P o ρ K w v dep:=by
 unfold X5 at hq;split at hq
 ·rename_i r hr
  cases hq;rw[R8] at hr;exact Ib H hρ hr
 ·split at hq
  ·rename_i r hr
   cases hq;exact Qj H hρ hr
  split at hq
  ·rename_i v' hv
   cases hq;have h1:=Ya (ty:=o.type) (h:=h) ht hv;rw[R8] at h1;obtain⟨u,hu,hy⟩:=Ib (o:=o) (ρ:=ρ) H (fun x a hx=>by
    obtain⟨b,hb,e⟩:=au hx;obtain⟨c,hc,e'⟩:=au hb;subst e;subst e';exact(hρ x c hc).nrm.opened hR) h1
   exact⟨u,hu.closed hR,hy⟩
  ·split at hq
   ·rename_i r hr
    cases hq;exact Qm ht hR H hρ hr
   ·exact Qn ht hR H hρ hq
theorem rZ{R:Nat→PV}{K:Kn}(hR:K.R=R){a:AV}{v:Value}(h:VR K a v){es:List (List PV)}(hr:jE (af R (nrm a))=some es):PR K.R K.M (.rows es) v∨(es=[]∧v=.slice none 0 0):=by
 have h1:=h.nrm.opened hR;unfold jE at hr;split at hr
 ·rename_i hn
  cases hr;exact .inr ⟨rfl,fU h1 hn⟩
 ·exact .inl (fE h1 hr)
theorem uE{R:Nat→PV}{K:Kn}(hR:K.R=R){a:AV}{v:Value}(h:VR K a v){es:List (List PV)}(hr:rowsOf (af R (nrm a))=some es):PR K.R K.M (.rows es) v:=fE (h.nrm.opened hR) hr
theorem Eff.closed{R:Nat→PV}{P:Program}{o:Oper}{ρ:Operand→Value}{K:Kn}{h:List ah}{w:World}{v v':AV}{h':List ah}{touch:List Nat}(hR:K.R=R)(hv:∀K' u,K'.R=R→VR K' v u→VR K' v' u)(H:Eff P o ρ K h w v h' touch):Eff P o ρ K h w v' h' touch:=by
 obtain⟨n,u,w',K',h1,h2,h3,h4,h5⟩:=H;exact⟨n,u,w',K',h1,h2,hv K' u (h4.ext.R.trans hR) h3,h4,h5⟩
theorem DK{R:Nat→PV}{K:Kn}(hR:K.R=R){s:AV}{v:Value}{tk lc:Nat}(h:VR K s v)(ht:Xw s=some (tk,lc)){es:List (List PV)}(hr:jE (af R (nrm s))=some es):VR K (.trows tk es) v∧(lc<aH∨True)∧(es.length<aH→dl R lc=es.length):=by
 unfold Xw at ht;split at ht
 ·rename_i tk' i
  cases ht;cases h with
  |tsym _ _ es0 hi h=>
   subst hR;have e:jE (.pv (K.R i))=some es:=by simpa[YtfphhabaeggenaaGreatDoor.nrm,AV.toPV,af,aj] using hr
   rw[hi] at e;have e2:es0=es:=by simpa[jE,bn,rowsOf] using e
   subst e2;exact⟨h,.inr trivial,fun _=>sU hi⟩
 ·rename_i tk' es0
  cases ht;have e:jE (.pv (.rows (aX R es0)))=some es:=by simpa[YtfphhabaeggenaaGreatDoor.nrm,AV.toPV,af,aj] using hr
  have e2:aX R es0=es:=by simpa[jE,bn,rowsOf] using e
  subst e2;have ho:=h.opened hR;rw[af] at ho;have hlen:(aX R es0).length=es0.length:=by rw[eO,List.length_map]
  exact⟨ho,.inr trivial,fun hl=>by rw[hlen] at hl ⊢;exact gq hl⟩
 ·cases ht
theorem NU{a:AV}(h:bn a=true):a=.pv (.lit (.slice none 0 0)):=by
 unfold bn at h;split at h
 ·rfl
 ·cases h
theorem ab3{K:Kn}{h:List ah}{w:World}(H:WR K h w){tk:Nat}{e:TypeId}{sz lc:Nat}(hh:h[tk]? = some (.tok e sz lc)){es:List (List PV)}{v:Value}(hv:VR K (.trows tk es) v)(hd:dl K.R lc=es.length){n':Nat}(hn':dl K.R n'=es.length) :
  ∃K',Step K h w K' (h.set tk .dead++[.tok e sz n']) w∧VR K' (.trows h.length es) v∧K'.R=K.R:=by
 cases hv with
 |trows _ _ g us hm hn hsz hc hr=>
  obtain⟨g2,cs,hm2,hw,hcs,hE,hZ,hno⟩:=H.tok tk e sz lc hh;rw[hm] at hm2;cases hm2;have hold:∀o v,K.M g o=some v→o<es.length*sz∧cs[o]? = some v:=fun o v hmv=>by
   refine⟨?_,?_⟩
   ·apply Decidable.byContradiction
    intro hn2;rw[hno o (by rw[hd];omega)] at hmv;cases hmv
   ·have:=H.agr g o v hmv
    unfold World.cell? at this;rw[hw] at this;simpa using this
  have st:=Step.withTok H (h1:=h.set tk .dead) e g es.length sz (K.Z g) cs hw hcs hZ (jv.refl _ w) hold (by simp) (fun j x hj hl=>by
   have hne:j≠tk:=fun ej=>by
    subst ej;rw[List.getElem?_set_self (by rw[List.getElem?_eq_some_iff] at hh;exact hh.1)] at hj;cases hj;cases hl
   rw[List.getElem?_set_ne (fun ej=>hne ej.symm)] at hj;exact⟨hj,fun e2=>hne (H.inj j tk x _ g hj hh hl rfl e2 hm)⟩) (fun _ _=>⟨rfl,hE⟩) (.inr ⟨tk,_,hh,rfl,hm⟩) hn'
  refine⟨_,st,?_,rfl⟩;have eZ:(K.withTok h.length g es.length sz (K.Z g) cs).Z g=K.Z g:=by show (if g=g then K.Z g else K.Z g)=_;rw[if_pos rfl]
  have eE:(K.withTok h.length g es.length sz (K.Z g) cs).E g=K.E g:=by show (if g=g then sz else K.E g)=_;rw[if_pos rfl,hE]
  have key:=VR.trows (K:=K.withTok h.length g es.length sz (K.Z g) cs) h.length es g us (by show (if h.length=h.length then some g else _)=_;rw[if_pos rfl]) (by rw[eZ];exact hn) (fun i hi=>by rw[eE];exact hsz i hi) (fun i hi j hj=>by
   rw[eE] at hj ⊢;exact st.ext.M g _ _ (hc i hi j hj)) (fun i hi j hj=>(hr i hi j hj).ext st.ext)
  rw[eZ] at key;exact key
theorem Rx{R:Nat→PV}{P:Program}{tab:List SF}(ht:aY R P tab){o:Oper}{ρ:Operand→Value}{K:Kn}{h:List ah}{w:World}(hR:K.R=R)(H:WR K h w)
  {args:Array Operand} {s x:Operand} (ha:args.toList=[s,x]) {t:TypeId} {ts:Array TypeId} (hts:ts.toList=[t,t]) (ho:o.op=.call ⟨.builtin .append,args,ts⟩)
  {sA xA:AV} (hs:VR K sA (ρ s)) (hx:VR K xA (ρ x)) {v:AV} {h':List ah} {touch:List Nat} (hq:alM tab P t sA xA h=some (v,h',touch)):Eff P o ρ K h w v h' touch:=by
 unfold alM at hq;split at hq
 ·rename_i j hl
  obtain⟨e,sz,by_,zc,es,es',h1,h2,h3,h4,h5,h6,h7,h8,h9,h10,h11,h12,h13⟩:=rE ht hl;rw[h1] at hq;simp only[h2] at hq;have hx':=uE hR hx h8;cases hes':es' with
  |nil=>
   subst hes';split at hq
   ·rename_i tk lc htk
    obtain⟨hv,_,hdl⟩:=DK hR hs htk h7;split at hq
    ·rename_i e' sz' lc' hh
     split at hq
     ·rename_i hc
      obtain⟨rfl,rfl,rfl⟩:=hc;cases hq;have hd:dl R lc'=es.length:=hdl (by unfold aH;omega);rw[List.append_nil] at h13;obtain⟨K',st,hv',hR'⟩:=ab3 H hh hv (by rw[hR];exact hd) (n':=aH+j) (by rw[hR];exact sU h13);obtain⟨i,z,hi,_,_⟩:=bL (K:=K) h4;obtain⟨base,n,cap,hse,hn⟩:∃base n cap,ρ s=.slice base n cap∧n≤cap:=by
       generalize ρ s=sv at hv;cases hv with
       |trows _ _ g us hm hn hsz hc hr=>exact⟨_,_,_,rfl,hn⟩
      obtain⟨a,c,hxe⟩:∃a c,ρ x=.slice a 0 c:=by
       generalize ρ x=xv at hx';cases hx' with
       |rows _ a cap g off sz us ha hn _ _ _=>exact⟨a,cap,rfl⟩
      refine⟨_,ρ s,w,K',cZ ha hts ho (v:=ρ s) ?_,.inl rfl,.tsym _ j _ (by rw[hR',hR];exact h13) hv',st,jv.refl _ _⟩;rw[hse,hxe];exact iA t o.type e' i h1 hi base a n cap c hn w
     ·cases hq
    ·cases hq
   ·split at hq
    ·rename_i hn
     cases hq;have he:=NU hn;subst he;exact absurd rfl (h9 rfl)
    ·cases hq
  |cons c0 cs0=>
  subst hes';have hall:(c0::cs0).all (fun c=>c.length==sz)=true:=by rw[List.all_eq_true];intro c hc;simpa using h10 c hc
  split at hq
  ·rename_i tk lc htk
   obtain⟨hv,_,hdl⟩:=DK hR hs htk h7;split at hq
   ·rename_i e' sz' lc' hh
    split at hq
    ·rename_i hc
     obtain⟨rfl,rfl,rfl⟩:=hc;cases hq;have hd:dl R lc'=es.length:=hdl (by unfold aH;omega);have hg:tF (dl R) (fun _=>aH+j) P t (.trows tk es) (c0::cs0) h=some (.trows h.length (es++c0::cs0),h.set tk .dead++[.tok e' sz' (aH+j)],[tk]):=by
      unfold tF;simp only[h1,h2,h3,h4];rw[if_pos ⟨h5,h6,hall⟩];simp only[hh];rw[if_pos ⟨trivial,trivial,hd.symm,by rw[hd];exact h11,by rw[hd];exact h12⟩]
     refine Eff.closed hR (fun K' u hK hu=>.tsym _ j _ (by rw[hK];exact h13) hu) (qR H ha hts ho hv (.inl hx') hg (fun n _=>by rw[hR]) (fun es2 h2 _=>?_) (fun hn=>by cases hn));cases h2;rw[hR,sU h13,List.length_append]
    ·cases hq
   ·cases hq
  ·split at hq
   ·rename_i hn
    cases hq;have he:=NU hn;subst he;have hes:es=[]:=by
     have e:jE (.pv (.lit (.slice none 0 0)))=some es:=by simpa[YtfphhabaeggenaaGreatDoor.nrm,AV.toPV,af,aj] using h7
     simpa[jE,bn] using e.symm
    subst hes;have hg:tF (dl R) (fun _=>aH+j) P t (.pv (.lit (.slice none 0 0))) (c0::cs0) h=some (.trows h.length (c0::cs0),h++[.tok e sz (aH+j)],[]):=by
     unfold tF;simp only[h1,h2,h3,h4];rw[if_pos ⟨h5,h6,hall⟩];rw[if_pos ⟨rfl,by simpa using h11,by simpa using h12⟩]
    refine Eff.closed hR (fun K' u hK hu=>.tsym _ j _ (by rw[hK];exact h13) hu) (qR H ha hts ho hs (.inl hx') hg (fun n _=>by rw[hR]) (fun es2 h2 _=>?_) (fun _ _=>?_))
    ·cases h2
    ·rw[hR,sU h13];rfl
   ·cases hq
 ·rename_i hl
  cases hq;obtain⟨e,sz,by_,zc,h1,h2,h3,h4,h5,h6⟩:=rE ht hl;obtain⟨es,hes⟩:=Option.isSome_iff_exists.1 h5;have hx':=rZ hR hx h6;have hs':=rZ hR hs hes;obtain⟨i,z,hi,_,_⟩:=bL (K:=K) h4;obtain⟨base,n,cap,hse,hn⟩:∃base n cap,ρ s=.slice base n cap∧n≤cap:=by
   rcases hs' with hs'|⟨_,hs'⟩
   ·generalize ρ s=sv at hs'
    cases hs' with
    |rows _ a cap g off sz us ha hn _ _ _=>exact⟨a,_,cap,rfl,hn⟩
   ·exact⟨none,0,0,hs',Nat.le_refl _⟩
  obtain⟨a,c,hxe⟩:∃a c,ρ x=.slice a 0 c:=by
   rcases hx' with hx'|⟨_,hx'⟩
   ·generalize ρ x=xv at hx'
    cases hx' with
    |rows _ a cap g off sz us ha hn _ _ _=>exact⟨a,cap,rfl⟩
   ·exact⟨none,0,hx'⟩
  refine⟨_,ρ s,w,K,cZ ha hts ho (v:=ρ s) ?_,.inl rfl,hs,Step.refl H,jv.refl _ _⟩;rw[hse,hxe];exact iA t o.type e i h1 hi base a n cap c hn w
 ·cases hq
theorem X3{k k' j sz:Nat}(hj:j<sz)(h1:k*sz≤k'*sz+j)(h2:k'*sz+j<k*sz+sz):k'=k:=by
 rcases Nat.lt_trichotomy k' k with h|h|h
 ·have:=Nat.mul_le_mul_right sz h
  rw[Nat.succ_mul] at this;omega
 ·exact h
 ·have:=Nat.mul_le_mul_right sz h
  rw[Nat.succ_mul] at this;omega
theorem AR.set{K:Kn}{a g sz:Nat}{p q:PV}{cur:Array Value}(hr:AR K a g sz p cur)(hcs:cur.size=K.Z g*sz){es:List (List PV)}(he:aj K.R p=.rows es){k:Nat}(hk:k<es.length){o:Nat}{c:List PV}{us:List Value}
  (hl:c.length=us.length) (ho:o+c.length≤es[k].length) (hq:aj K.R q=.rows (es.set k (setAt es[k] o c))) (hns:dQ (es.set k (setAt es[k] o c))=true)
  (hv:∀i (h:i<c.length) (h':i<us.length),PR K.R K.M c[i] us[i]):AR K a g sz q (setAt cur.toList (k*sz+o) us).toArray∧k*sz+o+us.length≤cur.size:=by
 obtain⟨es',h1,h2,h3,h4,h5,h6⟩:=hr.row;rw[he] at h1;injection h1 with h1
 subst h1;have hE:=hr.el;have hsz:=h5 k hk;rw[hE] at hsz h6;have hfit:k*sz+o+us.length≤cur.size:=by
  have:=Nat.mul_le_mul_right sz (show k+1≤K.Z g by omega);rw[Nat.succ_mul] at this;omega
 have hfit':k*sz+o+us.length≤cur.toList.length:=by simpa using hfit
 have hlen:∀k' (h:k'<(es.set k (setAt es[k] o c)).length),(es.set k (setAt es[k] o c))[k'].length=sz:=by
  intro k' hk';rw[List.getElem_set];split
  ·rw[Hz ho];exact hsz
  ·have:=h5 k' (by simpa using hk');rw[hE] at this;exact this
 refine⟨⟨hE,hr.none,_,hq,hns,by simpa using h3,by simpa using h4,fun k' hk'=>by rw[hE];exact hlen k' hk',fun k' hk' j hj=>?_⟩,hfit⟩;rw[hE];have hjs:j<sz:=by rw[←hlen k' hk'];exact hj
 have hcur:(setAt cur.toList (k*sz+o) us).toArray[k'*sz+j]? = if k*sz+o≤k'*sz+j∧k'*sz+j<k*sz+o+us.length then us[k'*sz+j-(k*sz+o)]? else cur[k'*sz+j]?:=by
  rw[List.getElem?_toArray,Ae hfit'];simp only[Array.getElem?_toList]
 rw[hcur];by_cases e:k=k'
 ·subst e
  have hes:(es.set k (setAt es[k] o c))[k]'hk'=setAt es[k] o c:=by rw[List.getElem_set_self]
  have hget:∀(x:PV),(setAt es[k] o c)[j]? = some x→(es.set k (setAt es[k] o c))[k][j]=x:=by
   intro x hx;have:(es.set k (setAt es[k] o c))[k][j]? = some x:=by rw[hes];exact hx
   rw[List.getElem?_eq_getElem hj] at this;exact Option.some.inj this
  by_cases hin:o≤j∧j<o+c.length
  ·rw[if_pos (by omega),show k*sz+j-(k*sz+o)=j-o by omega]
   have hu:j-o<us.length:=by omega
   refine⟨_,List.getElem?_eq_getElem hu,?_⟩;have hc:j-o<c.length:=by omega
   rw[hget c[j-o] (by rw[Ae ho,if_pos hin,List.getElem?_eq_getElem hc])];exact hv _ hc hu
  ·rw[if_neg (by omega)]
   have hj':j<es[k].length:=by rw[hsz];exact hjs
   obtain⟨v,a1,a2⟩:=h6 k hk j hj';refine⟨v,a1,?_⟩;rw[hget es[k][j] (by rw[Ae ho,if_neg hin,List.getElem?_eq_getElem hj'])];exact a2
 ·have hk2:k'<es.length:=by simpa using hk'
  have hes:(es.set k (setAt es[k] o c))[k']=es[k']:=by rw[List.getElem_set_ne e]
  rw[if_neg (fun h=>e (X3 (k:=k) (k':=k') hjs (by omega) (by rw[hl.symm] at h;omega)).symm)];have hj':j<es[k'].length:=by rw[←hes];exact hj
  obtain⟨v,a1,a2⟩:=h6 k' hk2 j hj';refine⟨v,a1,?_⟩;have:(es.set k (setAt es[k] o c))[k'][j]=es[k'][j]:=by simp only[hes]
  rw[this];exact a2
theorem Kc{h:List ah}{a:Nat}(j:Nat)(x:ah)(hj:(h.set a .dead)[j]? = some x)(hl:x.live=true):h[j]? = some x∧j≠a:=by
 rw[List.getElem?_set] at hj;by_cases ej:a=j
 ·rw[if_pos ej] at hj
  split at hj
  ·cases hj;cases hl
  ·cases hj
 ·rw[if_neg ej] at hj;exact⟨hj,fun e=>ej e.symm⟩
theorem Gl{R:Nat→PV}{P:Program}{tab:List SF}(ht:aY R P tab){o:Oper}{ρ:Operand→Value}{ρA:Operand→Option AV}{K:Kn}{h:List ah}{w:World}(hR:K.R=R)(H:WR K h w)(hρ:∀x v,ρA x=some v→VR K v (ρ x))
  {t:TypeId} {x y:Operand} {a off:Nat} {ip p:PV} {v:AV} {ty:TypeId} {sz s j:Nat} {c:List PV} (ho:o.op=.store t x y) (hx:ρA x=some (.aptr a ip off)) (hy:ρA y=some v) (hrow:mO h a=some (ty,sz,p)) (hc:Bt v.cells=some c) (hs:jS P t=some s) (hl:Ir p ip off c tab=some j) (hsc:s=c.length) (hcell:v.cells.all AV.isCell=true) :
  Eff P o ρ K h w (.tup []) (h.set a (.arr ty sz (.sym j))) [a]:=by
 obtain⟨g,cur,hm,hw,hsz,hr⟩:=H.arr a ty sz p (dm hrow);obtain⟨es0,he0,_,hlen0,hZ0,_⟩:=hr.row;obtain⟨es,n,kd,h1,h2,h3,h4,h5,h6,h7⟩:=Fj ht hl;rw[hR] at he0;rw[he0] at h1;injection h1 with h1
 subst h1;have hE:=hr.el;have hcs:cur.size=K.Z g*sz:=by rw[←hE];exact hsz.1
 have hxv:=hρ x _ hx;generalize hxe:ρ x=xv at hxv;cases hxv with
 |aptr _ _ _ g' k kd' hm' hik hk=>
  rw[hm] at hm';cases hm';rw[hR] at hik;have hkn:=hik.int_eq h2;have hkn':n.toNat=k:=by omega
  rw[hkn'] at h4 h5 h6;have hgd:es0.getD k []=es0[k]:=by rw[List.getD_eq_getElem?_getD,List.getElem?_eq_getElem h4];rfl
  rw[hgd] at h5 h6;have hyv:=(hρ y v hy).cells;have hps:=mW hyv hc;have hcl:c.length=(ρ y).cells.toList.length:=hps.1;have hop:(aG R c).length=c.length:=by rw[bM,List.length_map]
  have hset:=AR.set hr hcs (p:=p) (q:=.sym j) (by rw[hR];exact he0) h4 (o:=off) (c:=aG R c) (us:=(ρ y).cells.toList) (by rw[hop];exact hcl) h5 (by rw[hR,aj];exact h6)
   (by rw[h6] at h7;rw[Ck] at h7;exact h7) (fun i hi hi'=>by
    have hi2:i<c.length:=by rw[←hop];exact hi
    have:=(hps.2 i hi2 hi').opened;have e1:(aG R c)[i]=aj R c[i]:=by simp only[bM,List.getElem_map]
    rw[e1,←hR];exact this)
  have hone:=zU hyv hcell;have hst:=run_storeCells_at P g (k*sz+off) ty (ρ y).cells.toList 0 cur w hw (by have:=hset.2;simp at this ⊢;omega) hone;simp only[Nat.add_zero] at hst;rw[hE] at hxe;refine⟨.skip,_,w.setRow g (setAt cur.toList (k*sz+off) (ρ y).cells.toList).toArray,K,?_,.inr ⟨rfl,rfl⟩,VR.undef K,?_,?_⟩
  ·have hlen:(ρ y).cells.size=s:=by rw[hsc,hcl];simp
   simp[execOp,ho,Instr.storeAt,Instr.sureAddr,hxe,storeVar,dV hs,hlen];simp only[Array.length_toList] at hst;rw[hlen] at hst;rw[hst];simp[setAt,hlen]
  ·refine Step.store H a (.arr ty sz p) (.arr ty sz (.sym j)) g (dm hrow) rfl rfl hm ⟨_,setRow_heap w g cur _ ty _ hw,⟨?_,hsz.2⟩,hset.1⟩ (fun o=>hr.none o) ⟨rfl,rfl,rfl,by simp[World.setRow],fun k _ hk=>setRow_other w g k _ hk⟩ (by simp[World.setRow]) (fun k hk=>setRow_other w g k _ hk)
   rw[List.size_toArray,Hz (by have:=hset.2;simp at this ⊢;omega)];simpa using hsz.1
  ·exact⟨rfl,rfl,rfl,by simp[World.setRow],fun k hk hs=>setRow_other w g k _ (fun e=>hs ⟨a,_,by simp,dm hrow,rfl,by rw[e];exact hm⟩)⟩
theorem G8{R:Nat→PV}{P:Program}{tab:List SF}(ht:aY R P tab){o:Oper}{ρ:Operand→Value}{ρA:Operand→Option AV}{K:Kn}{h:List ah}{w:World}(hR:K.R=R)(H:WR K h w)(hρ:∀x v,ρA x=some v→VR K v (ρ x))
  {t:TypeId} {l c:Operand} {lv cv:AV} {j sz:Nat} {e:TypeId} (ho:o.op=.makeSlice t l c) (hl:ρA l=some lv) (hc:ρA c=some cv) (hk:Wi t (nrm lv) tab=some j) (heq:BS (nrm lv) (nrm cv)=true) (hu:P.underlying t=some (.slice e)) (hs:jS P e=some sz) :
  Eff P o ρ K h w (.arr h.length) (h++[.arr e sz (.sym j)]) []:=by
 obtain⟨e',sz',by_,zc,z0,k,a1,a2,a3,a4,a5,a6,a7,a8,a9,a10,a11,a12⟩:=J9 ht hk;rw[hu] at a1;cases a1;rw[hs] at a2;cases a2;have heq:=fK heq;have hlv:=((hρ l _ hl).nrm).opened hR;have hcv:=((hρ c _ hc).nrm).opened hR;rw[←heq] at hcv;obtain⟨k1,hk1⟩:=gF hlv a8;obtain⟨k2,hk2⟩:=gF hcv a8;obtain⟨i,z,hi,hiz,hvz⟩:=bL (K:=K) a4;have his:i.size=sz:=by unfold jS at hs;rw[hi] at hs;simpa using hs
 have hib:i.bytes=by_:=by unfold gT at a3;rw[hi] at a3;simpa using a3
 have hbytes:(i.bytes:Int)*(k:Int)≤281474976710656:=by
  rw[hib];have:((k*by_:Nat):Int)≤140737488355328:=Int.ofNat_le.2 a10;rw[Int.natCast_mul,Int.mul_comm] at this;omega
 have hrun:=run_make (P:=P) w t e i z hu hi hiz k1 k2 (k:Int) (k:Int) (by omega) (Int.le_refl _) hbytes (by omega);rw[his,Int.toNat_natCast] at hrun;have hms:(madeCells z.cells (k*sz)).size=k*sz:=size_madeCells _ _;have hzs:z.cells.size=sz:=by have:=hvz.1;simp at this;omega
 have hpz:=mW hvz a5;have hz0:z0.length=sz:=by rw[hpz.1];simpa using hzs
 rw[a11] at a12;rw[Ck] at a12;obtain⟨K',st,m1,m2,m3,m4⟩:=Step.putArr H (h1:=h) (w':=w.alloc (.cells (madeCells z.cells (k*sz)) e)) e sz (.sym j) w.heap.size k _ (List.replicate k z0) (by rw[hR,aj];exact a11) a12 (heap_alloc_new w _) hms (by unfold maxLen;omega) (by simp)
  (fun i hi=>by simp[hz0]) (fun i hi jj hj=>by
   have hi':i<k:=by simpa using hi
   have hj':jj<sz:=by simpa[hz0] using hj
   have hidx:i*sz+jj<k*sz:=qK hi' hj';refine⟨z.cells.toList[jj]'(by simpa[hzs] using hj'),?_,?_⟩
   ·have hmod:(i*sz+jj)%z.cells.size=jj:=by rw[hzs,Nat.mul_comm,Nat.mul_add_mod];exact Nat.mod_eq_of_lt hj'
    simp only[madeCells];rw[Array.getElem?_map,Array.getElem?_range,if_pos hidx];simp only[Option.map_some,hmod,Array.getElem_toList];rw[getElem!_pos z.cells jj (by rw[hzs];exact hj')]
   ·have:=hpz.2 jj (by rw[hz0];exact hj') (by simpa[hzs] using hj')
    simpa using this)
  (by simp) ((jv.alloc (fun _=>False) w _).mono (fun _ _ h=>h.elim)) (fun o=>H.noM (Nat.le_refl _) o) rfl (fun j x hj _=>⟨hj,fun hm=>by have:=H.lt j _ hm;omega⟩) (fun i hi=>by have:=H.lt i _ hi;omega) (.inl (Nat.le_refl _))
 refine⟨.value (.slice (some ⟨w.heap.size,0,none⟩) k k),_,_,K',?_,.inl rfl,?_,st,jv.alloc _ _ _⟩
 ·have e1:=(hρ l _ hl).nrm
  simp only[execOp,ho,hk1,hk2,Sem.run_bind,hrun,Result.andThen_ok,Sem.run_pure]
 ·have:=VR.arr (K:=K') h.length w.heap.size k m1 (by rw[m2];simp) (by rw[m3];exact Nat.le_refl _)
  rw[m2,List.length_replicate] at this;exact this
theorem I5{K:Kn}{es es':List (List PV)}{sz:Nat}{old news:List Value}(hold:old.length=es.length*sz)(hel:∀k (h:k<es.length),es[k].length=sz)(hel':∀k (h:k<es'.length),es'[k].length=sz)
  (h1:∀k (h:k<es.length) j (hj:j<es[k].length),∃v,old[k*sz+j]? = some v∧PR K.R K.M es[k][j] v) (h2:∀k (h:k<es'.length) j (hj:j<es'[k].length),∃v,news[k*sz+j]? = some v∧PR K.R K.M es'[k][j] v)
  {cur:Array Value} (hc:∀(x:Nat) (v:Value),(old++news)[x]? = some v→cur[x]? = some v) :
  (∀k (h:k<(es++es').length),(es++es')[k].length=sz)∧∀k (h:k<(es++es').length) j (hj:j<(es++es')[k].length),∃v,cur[k*sz+j]? = some v∧PR K.R K.M (es++es')[k][j] v:=by
 constructor
 ·intro k hk
  rw[List.getElem_append];split
  ·exact hel k _
  ·exact hel' _ _
 ·intro k hk j hj
  by_cases hlt:k<es.length
  ·have e:(es++es')[k]=es[k]:=List.getElem_append_left hlt
   have hj':j<es[k].length:=by rw[←e];exact hj
   obtain⟨v,a1,a2⟩:=h1 k hlt j hj';refine⟨v,hc _ _ ?_,by simp only[e];exact a2⟩;rw[List.getElem?_append_left (by rw[hold];exact qK hlt (by rw[←hel k hlt];exact hj'))];exact a1
  ·have hk':k-es.length<es'.length:=by simp at hk;omega
   have e:(es++es')[k]=es'[k-es.length]:=List.getElem_append_right (by omega);have hj':j<es'[k-es.length].length:=by rw[←e];exact hj
   obtain⟨v,a1,a2⟩:=h2 _ hk' j hj';refine⟨v,hc _ _ ?_,by simp only[e];exact a2⟩;have e2:k*sz+j=old.length+((k-es.length)*sz+j):=by
    rw[hold];have:k=es.length+(k-es.length):=by omega
    rw[this,Nat.add_mul,show es.length+(k-es.length)-es.length=k-es.length by omega];omega
   rw[e2,List.getElem?_append_right (by omega),Nat.add_sub_cancel_left];exact a1
theorem zQ{R:Nat→PV}{P:Program}{tab:List SF}(ht:aY R P tab){o:Oper}{ρ:Operand→Value}{K:Kn}{h:List ah}{w:World}(hR:K.R=R)(H:WR K h w)
  {args:Array Operand} {s x:Operand} (ha:args.toList=[s,x]) {t:TypeId} {ts:Array TypeId} (hts:ts.toList=[t,t]) (ho:o.op=.call ⟨.builtin .append,args,ts⟩) {e:TypeId} (hu:P.underlying t=some (.slice e)) {a sz:Nat} {xv:AV} {p:PV} {j:Nat}
  (hsv:VR K (.arr a) (ρ s)) (hxv0:VR K xv (ρ x)) (hsz:jS P e=some sz) (hrow:mO h a=some (e,sz,p)) (hl:tO t (.pv p) (nrm xv) tab=some j) :
  Eff P o ρ K h w (.arr h.length) (h.set a .dead++[.arr e sz (.sym j)]) [a]:=by
 obtain⟨⟨e',sz',by_,zc,es,es',a1,a2,a3,a4,a5,a6,a7,a8,a9,a10,a11,a12,a13⟩,hns⟩:=uS ht hl;rw[hu] at a1;cases a1;rw[hsz] at a2;cases a2;obtain⟨g,cur,hm,hw,⟨hcs,hZ⟩,hr⟩:=H.arr a e sz p (dm hrow);obtain⟨es0,he0,hns0,hlen0,hZ0,hel0,hcell0⟩:=hr.row;have hE:=hr.el;rw[hE] at hel0 hcell0 hcs;have hes:es0=es:=by
  rw[hR] at he0;rw[af,he0] at a7;simpa[jE,bn,rowsOf] using a7
 subst hes;have hxv:=uE hR hxv0 a8;have hel':∀k (h:k<es'.length),es'[k].length=sz:=fun k hk=>a10 _ (List.getElem_mem hk)
 obtain⟨gx,ox,capx,news,hxe,hnl,hnM,hnP⟩:=yI hxv a9 hel' a5;have hncell:∀j u,news[j]? = some u→w.cell? ((⟨gx,ox,none⟩:Addr).add j)=some u:=fun j u hj=>by rw[add_mid];exact H.agr _ _ _ (hnM j u hj)
 obtain⟨i,z,hi,hiz,hvz⟩:=bL (K:=K) a4;have his:i.size=sz:=by unfold jS at hsz;rw[hi] at hsz;simpa using hsz
 have hib:i.bytes=by_:=by unfold gT at a3;rw[hi] at a3;simpa using a3
 have hzs:z.cells.size=sz:=by have:=hvz.1;simp at this;omega
 have h1:∀u∈news,u.oneCell'=true:=fun u hu=>by
  obtain⟨x,hx1,hx2⟩:=List.mem_iff_getElem.1 hu;have hxl:x<es'.length*sz:=by rw[←hnl];exact hx1
  have hd:x/sz<es'.length:=Nat.div_lt_of_lt_mul (by rw[Nat.mul_comm];exact hxl);obtain⟨v,b1,b2⟩:=hnP (x/sz) hd (x%sz) (by rw[hel' _ hd];exact Nat.mod_lt _ a5);rw[show x/sz*sz+x%sz=x by rw[Nat.mul_comm];exact Nat.div_add_mod x sz,List.getElem?_eq_getElem hx1] at b1;rw[←hx2,Option.some.inj b1];exact b2.one
 have hlpos:0<es'.length:=List.length_pos_iff.2 a9;have hmul:(es0.length+es'.length)*sz=es0.length*sz+es'.length*sz:=Nat.add_mul _ _ _;have hole:es0.length*sz≤cur.size:=by rw[hcs];exact Nat.mul_le_mul_right _ hZ0
 have hold:(cur.toList.take (es0.length*sz)).length=es0.length*sz:=by simp;omega
 have holdc:∀k (h:k<es0.length) j (hj:j<es0[k].length),∃v,(cur.toList.take (es0.length*sz))[k*sz+j]? = some v∧PR K.R K.M es0[k][j] v:=by
  intro k hk j hj;obtain⟨v,b1,b2⟩:=hcell0 k hk j hj;refine⟨v,?_,b2⟩;rw[List.getElem?_take,if_pos (qK hk (by rw[←hel0 k hk];exact hj)),Array.getElem?_toList];exact b1
 have hq:aj K.R (.sym j)=.rows (es0++es'):=by rw[hR,aj];exact a13
 have hns2:dQ (es0++es')=true:=by rw[a13,Ck] at hns;exact hns
 generalize hse:ρ s=sv at hsv;have hsetlen:(h.set a .dead).length=h.length:=by simp
 cases hsv with
 |arr _ g' cap hm' hnc hcap=>
  rw[hm] at hm';cases hm';rw[←hlen0] at hse hnc;by_cases hroom:es0.length+es'.length≤cap
  ·have hfit:es0.length*sz+news.length≤cur.size:=by rw[hnl,hcs,←hmul];exact Nat.mul_le_mul_right _ (by omega)
   have hrun:=run_append_room (P:=P) w t o.type e i hu hi g es0.length cap cur hw ⟨gx,ox,none⟩ es'.length capx news (by rw[his];exact hnl) hncell h1 hroom (by rw[his];exact hfit);rw[his] at hrun;rw[←hse,←hxe] at hrun;generalize hcur:(cur.toList.take (es0.length*sz)++news++cur.toList.drop (es0.length*sz+news.length)).toArray=cur' at hrun;obtain⟨c1,c2⟩:=I5 (K:=K) hold hel0 hel' holdc hnP (cur:=cur') (fun x v hx=>by
    rw[←hcur,List.getElem?_toArray];have hxl:x<(cur.toList.take (es0.length*sz)++news).length:=by
     by_cases hh:x<(cur.toList.take (es0.length*sz)++news).length
     ·exact hh
     ·rw[List.getElem?_eq_none (by omega)] at hx;cases hx
    rw[List.getElem?_append_left hxl];exact hx)
   obtain⟨K',st,m1,m2,m3,m4⟩:=Step.putArr H (h1:=h.set a .dead) (w':=w.setRow g cur') e sz (.sym j) g (K.Z g) cur' (es0++es') hq hns2 (setRow_heap w g cur cur' e _ hw) (by rw[←hcur,←hcs];simp;omega) hZ (by simp;omega) c1 c2
    (by have:=Dk hw;simpa[World.setRow] using this) ⟨rfl,rfl,rfl,by simp[World.setRow],fun k _ hk=>setRow_other w g k _ hk⟩ hr.none hsetlen (fun j x hj hl=>by
     obtain⟨h2,h3⟩:=Kc j x hj hl;exact⟨h2,fun e=>h3 (H.inj j a x _ g h2 (dm hrow) hl rfl e hm)⟩) (fun _ _=>⟨rfl,hE⟩) (.inr ⟨a,_,dm hrow,rfl,hm⟩)
   refine⟨_,_,_,K',cZ ha hts ho hrun,.inl rfl,?_,st,⟨rfl,rfl,rfl,by simp[World.setRow],fun k _ hk=>setRow_other w g k _ (fun e=>hk ⟨a,_,by simp,dm hrow,rfl,by rw[e];exact hm⟩)⟩⟩;have:=VR.arr (K:=K') h.length g cap m1 (by rw[m2];simpa using hroom) (by rw[m3];exact hcap);rw[m2,List.length_append] at this;exact this
  ·have holds:∀j v,(cur.toList.take (es0.length*sz))[j]? = some v→w.cell? ((⟨g,0,none⟩:Addr).add j)=some v:=by
    intro j v hj;have hjl:j<es0.length*sz:=by
     by_cases hh:j<es0.length*sz
     ·exact hh
     ·rw[List.getElem?_eq_none (by omega)] at hj;cases hj
    rw[add_mid,Nat.zero_add];rw[List.getElem?_take,if_pos hjl,Array.getElem?_toList] at hj;simp[World.cell?,hw,hj]
   have hrun:=run_append_grow (P:=P) w t o.type e i z hu hi hiz ⟨g,0,none⟩ es0.length cap (cur.toList.take (es0.length*sz)) (by rw[his];exact hold) holds ⟨gx,ox,none⟩ es'.length capx news (by rw[his];exact hnl) hncell (by omega) (by omega) (growslice_fits (by omega) (by rw[hib];exact a12));rw[←hse,←hxe] at hrun;have hge:=grownCap_ge w (es0.length+es'.length) cap e;have hcm:=grownCap_le_maxLen w (es0.length+es'.length) cap e (by unfold maxLen;omega);generalize grownCap w (es0.length+es'.length) cap e=cap' at *;generalize hcur:(cur.toList.take (es0.length*sz)).toArray++news.toArray++Builtin.zeroCells z.cells (cap'-(es0.length+es'.length))=cur' at hrun;have hcurs:cur'.size=cap'*sz:=by
    rw[←hcur];simp only[Array.size_append,List.size_toArray,size_zeroCells,hzs,hnl,hold,←Nat.add_mul];congr 1;omega
   obtain⟨c1,c2⟩:=I5 (K:=K) hold hel0 hel' holdc hnP (cur:=cur') (fun x v hx=>by
    have e5:((cur.toList.take (es0.length*sz)).toArray++news.toArray++Builtin.zeroCells z.cells (cap'-(es0.length+es'.length))).toList=(cur.toList.take (es0.length*sz)++news)++(Builtin.zeroCells z.cells (cap'-(es0.length+es'.length))).toList:=by simp
    rw[←hcur,←Array.getElem?_toList,e5];have hxl:x<(cur.toList.take (es0.length*sz)++news).length:=by
     by_cases hh:x<(cur.toList.take (es0.length*sz)++news).length
     ·exact hh
     ·rw[List.getElem?_eq_none (by omega)] at hx;cases hx
    rw[List.getElem?_append_left hxl];exact hx)
   obtain⟨K',st,m1,m2,m3,m4⟩:=Step.putArr H (h1:=h.set a .dead) (w':=w.drew.alloc (.cells cur' e)) e sz (.sym j) w.heap.size cap' cur' (es0++es') hq hns2 (heap_alloc_new w.drew _) hcurs hcm (by simp;omega) c1 c2
    (by simp) (jv.drewAlloc _ _ _) (fun o=>H.noM (Nat.le_refl _) o) hsetlen (fun j x hj hl=>by
     obtain⟨h2,h3⟩:=Kc j x hj hl;exact⟨h2,fun e=>by have:=H.lt j _ e;omega⟩) (fun i hi=>by have:=H.lt i _ hi;omega) (.inl (Nat.le_refl _))
   refine⟨_,_,_,K',cZ ha hts ho hrun,.inl rfl,?_,st,jv.drewAlloc _ _ _⟩;have:=VR.arr (K:=K') h.length w.heap.size cap' m1 (by rw[m2];simpa using hge) (by rw[m3];exact Nat.le_refl _);rw[m2,List.length_append] at this;exact this
theorem G9{R:Nat→PV}{P:Program}{tab:List SF}(ht:aY R P tab){o:Oper}{ρ:Operand→Value}{ρA:Operand→Option AV}{K:Kn}{h:List ah}{w:World}(hR:K.R=R)(H:WR K h w)(hρ:∀x v,ρA x=some v→VR K v (ρ x))
  {args:Array Operand} {s x:Operand} (ha:args.toList=[s,x]) {t:TypeId} {ts:Array TypeId} (hts:ts.toList=[t,t]) (ho:o.op=.call ⟨.builtin .append,args,ts⟩) {a:Nat} {xv:AV} {p:PV}
  (hs:ρA s=some (.arr a)) (hx:ρA x=some xv) (hl:BP t (.pv p) (nrm xv) tab=some none) :
  Eff P o ρ K h w (.arr a) h []:=by
 obtain⟨e,sz,by_,zc,h1,h2,h3,h4,h5,h6⟩:=rE ht hl;have hx':=rZ hR (hρ x _ hx) h6;obtain⟨i,z,hi,_,_⟩:=bL (K:=K) h4;have hsv:=hρ s _ hs;obtain⟨base,n,cap,hse,hn⟩:∃base n cap,ρ s=.slice base n cap∧n≤cap:=by
  generalize ρ s=sv at hsv;cases hsv with
  |arr _ g cap hm hnc hz=>exact⟨_,_,cap,rfl,hnc⟩
 obtain⟨a',c,hxe⟩:∃a c,ρ x=.slice a 0 c:=by
  rcases hx' with hx'|⟨_,hx'⟩
  ·generalize ρ x=xv at hx'
   cases hx' with
   |rows _ a cap g off sz us ha hn _ _ _=>exact⟨a,cap,rfl⟩
  ·exact⟨none,0,hx'⟩
 refine⟨_,ρ s,w,K,cZ ha hts ho (v:=ρ s) ?_,.inl rfl,hsv,Step.refl H,jv.refl _ _⟩;rw[hse,hxe];exact iA t o.type e i h1 hi base a' n cap c hn w
theorem Lj{R:Nat→PV}{P:Program}{tab:List SF}(ht:aY R P tab){o:Oper}{ρ:Operand→Value}{ρA:Operand→Option AV}{K:Kn}{h:List ah}{w:World}(hR:K.R=R)(H:WR K h w)(hρ:∀x v,ρA x=some v→VR K v (ρ x))
  {args:Array Operand} {s x:Operand} (ha:args.toList=[s,x]) {t:TypeId} {ts:Array TypeId} (hts:ts.toList=[t,t]) (ho:o.op=.call ⟨.builtin .append,args,ts⟩) {e:TypeId} (hu:P.underlying t=some (.slice e)) {sz:Nat} {sv xv:AV} {j:Nat}
  (hs:ρA s=some sv) (hx:ρA x=some xv) (hsz:jS P e=some sz) (hnil:bn sv=true) (hl:tO t (nrm sv) (nrm xv) tab=some j) :
  Eff P o ρ K h w (.arr h.length) (h++[.arr e sz (.sym j)]) []:=by
 obtain⟨⟨e',sz',by_,zc,es,es',a1,a2,a3,a4,a5,a6,a7,a8,a9,a10,a11,a12,a13⟩,hns⟩:=uS ht hl;rw[hu] at a1;cases a1;rw[hsz] at a2;cases a2;have hes:es=[]:=by
  rcases rZ hR (hρ s _ hs) a7 with h1|h1
  ·have key:∀v,PR K.R K.M (.rows es) v→v=.slice none 0 0→es=[]:=by
    intro v h e;cases h with
    |rows _ a cap g off sz us=>injection e with _ e2 _;exact List.length_eq_zero_iff.1 e2
   exact key _ h1 (fU (hρ s _ hs) hnil)
  ·exact h1.1
 subst hes;have hxv:=uE hR (hρ x _ hx) a8;have hel':∀k (h:k<es'.length),es'[k].length=sz:=fun k hk=>a10 _ (List.getElem_mem hk)
 obtain⟨gx,ox,capx,news,hxe,hnl,hnM,hnP⟩:=yI hxv a9 hel' a5;have hncell:∀j u,news[j]? = some u→w.cell? ((⟨gx,ox,none⟩:Addr).add j)=some u:=fun j u hj=>by rw[add_mid];exact H.agr _ _ _ (hnM j u hj)
 obtain⟨i,z,hi,hiz,hvz⟩:=bL (K:=K) a4;have his:i.size=sz:=by unfold jS at hsz;rw[hi] at hsz;simpa using hsz
 have hib:i.bytes=by_:=by unfold gT at a3;rw[hi] at a3;simpa using a3
 have hzs:z.cells.size=sz:=by have:=hvz.1;simp at this;omega
 have hlpos:0<es'.length:=List.length_pos_iff.2 a9;have hse:=fU (hρ s _ hs) hnil;simp only[List.length_nil,Nat.zero_add] at a11 a12;have hrun:=run_append_nil (P:=P) w t o.type e i z hu hi hiz ⟨gx,ox,none⟩ es'.length capx news (by rw[his];exact hnl) hncell (by omega) (by omega) (by rw[hib];omega);rw[←hse,←hxe] at hrun;have hge:=grownCap_ge w es'.length 0 e;have hcm:=grownCap_le_maxLen w es'.length 0 e (by unfold maxLen;omega);generalize grownCap w es'.length 0 e=cap at *;generalize hcur:news.toArray++Builtin.zeroCells z.cells (cap-es'.length)=cur at hrun;have hcurs:cur.size=cap*sz:=by
  rw[←hcur];simp only[Array.size_append,List.size_toArray,size_zeroCells,hzs,hnl,←Nat.add_mul];congr 1;omega
 obtain⟨K',st,m1,m2,m3,m4⟩:=Step.putArr H (h1:=h) (w':=w.drew.alloc (.cells cur e)) e sz (.sym j) w.heap.size cap cur es' (by rw[hR,aj];exact a13) (by rw[a13,Ck] at hns;exact hns) (heap_alloc_new w.drew _) hcurs hcm hge hel' (fun k hk jj hj=>by
   obtain⟨v,b1,b2⟩:=hnP k hk jj hj;refine⟨v,?_,b2⟩;rw[←hcur,←Array.getElem?_toList];have e5:(news.toArray++Builtin.zeroCells z.cells (cap-es'.length)).toList=news++(Builtin.zeroCells z.cells (cap-es'.length)).toList:=by simp
   rw[e5,List.getElem?_append_left (by rw[hnl];exact qK hk (by rw[←hel' k hk];exact hj))];exact b1)
  (by simp) (jv.drewAlloc _ _ _) (fun o=>H.noM (Nat.le_refl _) o) rfl (fun j x hj _=>⟨hj,fun hm=>by have:=H.lt j _ hm;omega⟩) (fun i hi=>by have:=H.lt i _ hi;omega) (.inl (Nat.le_refl _))
 refine⟨_,_,_,K',cZ ha hts ho hrun,.inl rfl,?_,st,jv.drewAlloc _ _ _⟩;have:=VR.arr (K:=K') h.length w.heap.size cap m1 (by rw[m2];exact hge) (by rw[m3];exact Nat.le_refl _);rw[m2] at this;exact this
theorem Fw{R:Nat→PV}{P:Program}{p q:PV}:∀{tab:List SF},aY R P tab→zb p q tab=true→∃t hv,(SF.slc t (.pv p) none (some hv) (.pv q)).ok R P
 |[],_,h=>by cases h
 |f::l,ht,h=>by
  unfold zb at h;split at h
  ·cases h
  ·rename_i heq
   cases heq;rw[Bool.or_eq_true,Bool.and_eq_true] at h;rcases h with⟨e1,e2⟩|h
   ·have e1:=jf e1
    have e2:=jf e2;subst e1;subst e2;exact⟨_,_,ht _ (List.mem_cons_self ..)⟩
   ·exact Fw (fun g hg=>ht g (List.mem_cons_of_mem _ hg)) h
  ·rename_i heq
   cases heq;exact Fw (fun g hg=>ht g (List.mem_cons_of_mem _ hg)) h
theorem RP:∀(l:List (List PV)) (n:Nat),dQ l=true→dQ (l.take n)=true
 |[],n,_=>by simp[dQ]
 |c::l,n,hl=>by
  rw[dQ,Bool.and_eq_true] at hl;cases n with
  |zero=>rfl
  |succ n=>rw[List.take_succ_cons,dQ,hl.1,RP l n hl.2];rfl
theorem OZ{R:Nat→PV}{P:Program}{K:Kn}{h:List ah}{w:World}(hR:K.R=R)(H:WR K h w){a:Nat}{lo q p:PV}{ty:TypeId}{sz:Nat}{u:Value}
  (hrow:mO h a=some (ty,sz,p)) (hl:∃t hv,(SF.slc t (.pv p) none (some hv) (.pv q)).ok R P) (hz:uk lo=true) (hv:VR K (.arv a lo q) u) :
  ∃K',Step K h w K' (h.set a .dead++[.arr ty sz q]) w∧VR K' (.arr h.length) u∧∃g,K.mu a=some g∧K'.mu h.length=some g:=by
 obtain⟨g,cur,hm,hw,⟨hcs,hZ⟩,hr⟩:=H.arr a ty sz p (dm hrow);obtain⟨es,he,hns,hlen,hZ0,hel,hcell⟩:=hr.row;have hE:=hr.el;rw[hE] at hel hcell hcs;obtain⟨t,hva,hf⟩:=hl;have hok:=hf (fun _=>some (af R hva)) none (some (.tmp 0)) trivial rfl;have he':=he;rw[hR] at he';rw[af,he',af] at hok;have hres:∃r:Nat,r≤es.length∧aj R q=.rows (es.take r):=by
  unfold iW at hok;simp only[rowsOf] at hok;split at hok
  ·rename_i e1 l r hu1 hl1 hr1 _
   cases hl1;split at hok
   ·split at hok
    ·rename_i hc
     refine⟨r,hc.2.1,?_⟩;injection hok with hok
     injection hok with hok
     rw[←hok];simp
    ·cases hok
   ·cases hok
  ·cases hok
 obtain⟨r,hrl,hq⟩:=hres;have hlt:(es.take r).length=r:=by simp;omega
 cases hv with
 |arv _ _ _ g' k nn cap off kd hm' hlo hqq hn hc hzz hof=>
  rw[hm] at hm';cases hm';have hk0:k=0:=by
   unfold uk at hz;split at hz
   ·cases hlo;simp at hz;omega
   ·cases hz
  have hnn:nn=r:=by
   rw[hR] at hqq;have:=hqq.len hq;rw[hlt] at this;exact this
  subst hnn;have hoff:off=0:=by rw[hof,hk0];simp
  subst hoff;obtain⟨K',st,m1,m2,m3,m4⟩:=Step.putArr H (h1:=h.set a .dead) (w':=w) ty sz q g (K.Z g) cur (es.take nn) (by rw[hR];exact hq) (RP es nn hns) hw hcs hZ (by omega) (fun k hk=>by
    rw[List.getElem_take];exact hel k (by omega)) (fun k hk jj hj=>by
    rw[List.getElem_take] at hj;obtain⟨v,b1,b2⟩:=hcell k (by omega) jj hj;refine⟨v,b1,?_⟩;simp only[List.getElem_take];exact b2)
   (Dk hw) (jv.refl _ w) hr.none (by simp) (fun j x hj hl=>by
    obtain⟨h2,h3⟩:=Kc j x hj hl;exact⟨h2,fun e=>h3 (H.inj j a x _ g h2 (dm hrow) hl rfl e hm)⟩) (fun _ _=>⟨rfl,hE⟩) (.inr ⟨a,_,dm hrow,rfl,hm⟩)
  rw[hlt] at m2;refine⟨K',st,?_,g,hm,m1⟩;have:=VR.arr (K:=K') h.length g cap m1 (by rw[m2];exact hc) (by rw[m3];omega);rw[m2] at this;exact this
theorem U6{R:Nat→PV}{P:Program}{tab:List SF}(ht:aY R P tab){K:Kn}{h:List ah}{w:World}(hR:K.R=R)(H:WR K h w){a:Nat}{lo q p:PV}{ty:TypeId}{sz:Nat}{u:Value}
  (hrow:mO h a=some (ty,sz,p)) (hl:zb p q tab=true) (hz:uk lo=true) (hv:VR K (.arv a lo q) u) :
  ∃K',Step K h w K' (h.set a .dead++[.arr ty sz q]) w∧VR K' (.arr h.length) u∧∃g,K.mu a=some g∧K'.mu h.length=some g:=OZ hR H hrow (Fw ht hl) hz hv
theorem Bz{P:Program}{t:TypeId}{ρ:Operand→Option AV}{es:List (List PV)}{l:Operand}{hi mx:Option Operand}(hl:ρ l=some (.pv (.lit (.int .i64 0)))):iW P t ρ (.pv (.rows es)) (some l) hi mx=iW P t ρ (.pv (.rows es)) none hi mx:=by
 simp only[iW,rowsOf];have:iJ ρ 0 (some l)=some 0:=by simp[iJ,hl,rH]
 rw[this];rfl
theorem Lm{R:Nat→PV}{P:Program}{tab:List SF}(ht:aY R P tab){o:Oper}{ρ:Operand→Value}{ρA:Operand→Option AV}{K:Kn}{h:List ah}{w:World}(hR:K.R=R)(H:WR K h w)(hρ:∀x v,ρA x=some v→VR K v (ρ x))
  {t:TypeId} {x y:Operand} (ho:o.op=.slice t x none (some y) none) {a:Nat} {q:PV} {yv:AV} {e ty:TypeId} {sz:Nat} {p:PV} (hx:ρA x=some (.arr a)) (hy:ρA y=some yv) (hu:P.underlying t=some (.slice e)) (hrow:mO h a=some (ty,sz,p))
  (hf:rD t (.pv p) (some (.pv (.lit (.int .i64 0)))) (some (nrm yv)) tab=some (.pv q)) (hs:jS P e=some sz):Eff P o ρ K h w (.arr h.length) (h.set a .dead++[.arr ty sz q]) [a]:=by
 have h0:=pz ht hf;have h1:(SF.slc t (.pv p) none (some (nrm yv)) (.pv q)).ok R P:=by
  obtain⟨g,cur,hm,hw,hsz,hr⟩:=H.arr a ty sz p (dm hrow);obtain⟨es,he,hns,hlen,hZ0,_⟩:=hr.row;rw[hR] at he;intro ρ' l m hl hm';have hl0:l=none:=by cases l with|none=>rfl|some z=>exact hl.elim
  subst hl0;cases m with
  |none=>exact hm'.elim
  |some z=>
   have hm2:ρ' z=some (af R (nrm yv)):=hm';have k:=h0 (fun w=>match w with | .tmp 0=>some (.pv (.lit (.int .i64 0)))|_=>some (af R (nrm yv))) (some (.tmp 0)) (some (.tmp 1)) rfl rfl;rw[af,he,Bz rfl] at k;rw[af,he];refine Eq.trans ?_ k;simp only[iW,rowsOf,iJ,hm2]
 have hb:zN ρA (some y)=some (some yv):=by simp[zN,hy]
 obtain⟨u,hv,hrun⟩:=Ie hR H hρ ho (lp:=.lit (.int .i64 0)) (lv:=none) (hv:=some yv) (q:=q) hx rfl hb hu hrow rfl h1 hs rfl;obtain⟨K',st,hv',g,g1,g2⟩:=OZ hR H hrow (q:=q) ⟨_,_,h1⟩ (by simp[uk]) hv;exact⟨.value u,u,w,K',hrun w H.agr (fun _ h _ _=>by cases h),.inl rfl,hv',st,jv.refl _ _⟩
theorem afS{h:List ah}{a:Nat}{ty:TypeId}{sz:Nat}{q:PV}:mO (h.set a .dead++[.arr ty sz q]) h.length=some (ty,sz,q):=by
 have:(h.set a ah.dead++[ah.arr ty sz q])[h.length]? = some (.arr ty sz q):=by rw[List.getElem?_append_right (by simp)];simp
 simp[mO,this]
theorem Cw{R:Nat→PV}{P:Program}{tab:List SF}(ht:aY R P tab){o:Oper}{ρ:Operand→Value}{K:Kn}{h:List ah}{w:World}(hR:K.R=R)(H:WR K h w)
  {args:Array Operand} {s x:Operand} (ha:args.toList=[s,x]) {t:TypeId} {ts:Array TypeId} (hts:ts.toList=[t,t]) (ho:o.op=.call ⟨.builtin .append,args,ts⟩) {e:TypeId} (hu:P.underlying t=some (.slice e)) {a sz:Nat} {lo q:PV} {xv:AV} {p:PV} {j:Nat}
  (hsv:VR K (.arv a lo q) (ρ s)) (hxv0:VR K xv (ρ x)) (hsz:jS P e=some sz) (hrow:mO h a=some (e,sz,p)) (hc:zb p q tab=true) (hz:uk lo=true) (hl:tO t (.pv q) (nrm xv) tab=some j) :
  Eff P o ρ K h w (.arr (h.length+1)) (h.set a .dead++[.dead,.arr e sz (.sym j)]) [a]:=by
 obtain⟨K',st,hv,g,g1,g2⟩:=U6 ht hR H hrow hc hz hsv;have key:=zQ ht (st.ext.R.trans hR) st.wr ha hts ho hu hv (hxv0.mono st.ext) hsz afS hl;have e1:(h.set a ah.dead++[ah.arr e sz q]).length=h.length+1:=by simp
 have e2:(h.set a ah.dead++[ah.arr e sz q]).set h.length .dead++[.arr e sz (.sym j)]=h.set a .dead++[.dead,.arr e sz (.sym j)]:=by
  rw[List.set_append_right _ _ (by simp)];simp
 rw[e1,e2] at key;obtain⟨n,u,w',K2,k1,k2,k3,k4,k5⟩:=key;refine⟨n,u,w',K2,k1,k2,k3,st.trans k4,k5.mono (fun b hb hat=>?_)⟩;obtain⟨i,y,hi,hy,hl2,hm⟩:=hat;have hi:i=h.length:=by simpa using hi
 subst hi;rw[g2] at hm;cases hm;exact⟨a,_,by simp,dm hrow,rfl,g1⟩
open Classical in
theorem Li{R:Nat→PV}{P:Program}{tab:List SF}(ht:aY R P tab){o:Oper}{ρ:Operand→Value}{ρA:Operand→Option AV}{K:Kn}{h:List ah}{w:World}(hR:K.R=R)(H:WR K h w)(hρ:∀x v,ρA x=some v→VR K v (ρ x))
  {t bt:TypeId} {x y:Operand} {i off a:Nat} {lo q p:PV} {cells:List AV} {ty:TypeId} {sz:Nat} (ho:o.op=.store t x y) (hx:ρA x=some (.ptr i off)) (hy:ρA y=some (.arv a lo q)) (hrow:mO h a=some (ty,sz,p)) (hc:zb p q tab=true) (hz:uk lo=true)
  (hi:h[i]? = some (.box bt cells)) (hs:jS P t=some 1) (hle:off+1≤cells.length) :
  Eff P o ρ K h w (.tup []) ((h.set a .dead++[ah.arr ty sz q]).set i (.box bt (setAt cells off [AV.arr h.length]))) [i,a]:=by
 obtain⟨K',st,hv,g,g1,g2⟩:=U6 ht hR H hrow hc hz (hρ y _ hy);have hne:i≠a:=fun e=>by subst e;rw[dm hrow] at hi;cases hi
 have hil:i<h.length:=by
  by_cases hh:i<h.length
  ·exact hh
  ·rw[List.getElem?_eq_none (by omega)] at hi;cases hi
 have hi1:(h.set a ah.dead++[ah.arr ty sz q])[i]? = some (.box bt cells):=by
  rw[List.getElem?_append_left (by simpa using hil),List.getElem?_set_ne (fun e=>hne e.symm)];exact hi
 have hxy:x≠y:=fun e=>by subst e;rw[hx] at hy;cases hy
 have key:=Bu (P:=P) (o:=o) (ρ:=ρ) (ρA:=fun z=>if z=x then some (.ptr i off) else if z=y then some (.arr h.length) else none) (K:=K') (h:=h.set a .dead++[.arr ty sz q]) (w:=w) st.wr
  (fun z v hz=>by
   split at hz
   ·rename_i e;cases hz;subst e;exact(hρ _ _ hx).mono st.ext
   ·split at hz
    ·rename_i e;cases hz;subst e;exact hv
    ·cases hz)
  (t:=t) (bt:=bt) (x:=x) (y:=y) (i:=i) (off:=off) (v:=.arr h.length) (cells:=cells) ho (if_pos rfl) (by rw[if_neg (fun e=>hxy e.symm),if_pos rfl]) hi1 (by simpa[AV.cells] using hs) (by simpa[AV.cells] using hle) (by simp[AV.cells,AV.isCell])
 obtain⟨n,u,w',K2,k1,k2,k3,k4,k5⟩:=key;refine⟨n,u,w',K2,k1,k2,k3,st.trans k4,k5.mono (fun b hb hat=>?_)⟩;obtain⟨i',y',hi',hy',hl2,hm⟩:=hat;have hi':i'=i:=by simpa using hi'
 subst hi';obtain⟨b0,hb0⟩:=H.has i' hil;have:=st.ext.mu i' b0 hb0;rw[this] at hm;cases hm;exact⟨i',_,by simp,hi,rfl,hb0⟩
theorem vT{α β:Type}(f:α→β)(l:List α)(j:Nat):(l.eraseIdx j).map f=(l.map f).eraseIdx j:=by
 rw[List.eraseIdx_eq_take_drop_succ,List.eraseIdx_eq_take_drop_succ,List.map_append,List.map_take,List.map_drop]
theorem Ll{R:Nat→PV}{P:Program}{tab:List SF}(ht:aY R P tab){o:Oper}{ρ:Operand→Value}{ρA:Operand→Option AV}{K:Kn}{h:List ah}{w:World}(hR:K.R=R)(H:WR K h w)(hρ:∀x v,ρA x=some v→VR K v (ρ x))
  {args:Array Operand} {m k:Operand} (ha:args.toList=[m,k]) {t t':TypeId} {ts:Array TypeId} (hts:ts.toList=[t,t']) (ho:o.op=.call ⟨.builtin .delete,args,ts⟩) {i:Nat} {kv:AV} {p:PV} {j:Nat}
  (hm:ρA m=some (.mp i)) (hk:ρA k=some kv) (hp:V9 h i=some p) (hl:Iu t p kv tab=some j) :
  Eff P o ρ K h w (.tup []) (h.set i (.mp [] [.pv (.sym j)])) [i]:=by
 obtain⟨kt,et,d,es,key,r,hu,hd,hrow,hns,hkv,hko,hf,hq,hnq⟩:=Fv ht hl;have hkey:ρ k=key:=bW ((hρ k _ hk).opened hR) hkv;have e1:args = #[m,k]:=by rw[←Array.toArray_toList (xs:=args),ha]
 have e2:ts = #[t,t']:=by rw[←Array.toArray_toList (xs:=ts),hts]
 subst e1;subst e2;have hmv:=hρ m _ hm;generalize hme:ρ m=mv at hmv;cases hmv with
 |mp _ g hg=>
  obtain⟨g',ents,clock,hg',hw,hml⟩:=H.map i _ _ (oI hp);rw[hg] at hg';cases hg';obtain⟨es',he,h1,h2⟩:=ML.row.1 hml;have:=QX hR hrow he;subst this;rw[←h1] at hf;obtain⟨hfind,hlt⟩:=nD hd ents.toList r hf;have hck:=xI hd hko ents.isEmpty w;have hE:∃ents':Array MapEntry,ents'.toList=(match r with|some j=>ents.toList.eraseIdx j|none=>ents.toList)∧(Builtin.delete_ #[t,t'] o.type #[.map (some g),key]).run P w=.ok (.tuple #[]) {w with heap:=w.heap.setIfInBounds g (.map ents' clock) }:=by
   have hfk:=hfind w;cases r with
   |none=>
    refine⟨ents,rfl,?_⟩;simp[Builtin.delete_,run_underlying hu,MapKept.run_getObj_map hw,hck,hfk,MapKept.run_setObj_map _ hw]
   |some j0=>
    have hj:=hlt j0 rfl;have hj':j0<ents.size:=by simpa using hj
    refine⟨ents.eraseIdxIfInBounds j0,?_,?_⟩
    ·unfold Array.eraseIdxIfInBounds
     rw[dif_pos hj',Array.toList_eraseIdx]
    ·rw[Option.bind_some,List.getElem?_eq_getElem hj,Option.map_some] at hfk
     simp[Builtin.delete_,run_underlying hu,MapKept.run_getObj_map hw,hck,hfk,MapKept.run_setObj_map _ hw]
  obtain⟨ents',hents,hrun⟩:=hE;obtain⟨hs1,hs2⟩:=MapKept.heap_set (o':=.map ents' clock) hw;have hkeys:ents'.toList.map (·.key)=(match r with|some j=>es'.eraseIdx j|none=>es').map Cm:=by
   rw[hents];cases r with
   |none=>exact h1
   |some j0=>simp only;rw[vT,vT,h1]
  have hvals:VL K ((match r with|some j=>es'.eraseIdx j|none=>es').map qW) (ents'.toList.map (·.val)):=by
   rw[hents];cases r with
   |none=>exact h2
   |some j0=>
    simp only;rw[vT,vT,List.eraseIdx_eq_take_drop_succ,List.eraseIdx_eq_take_drop_succ];exact(h2.take j0).append (h2.drop (j0+1))
  refine⟨.value (.tuple #[]),_,{w with heap:=w.heap.setIfInBounds g (.map ents' clock) },K,?_,.inl rfl,.tup [] [] rfl (fun i h=>by simp at h),?_,?_⟩
  ·simp[execOp,ho,resolve,invoke,builtin,hme,hkey,hrun]
  ·refine Step.store H i (.mp [] [.pv p]) (.mp [] [.pv (.sym j)]) g (oI hp) rfl rfl hg ⟨ents',clock,hs1,ML.row.2 ⟨_,?_,hkeys,hvals⟩⟩ (fun o=>H.mapM hw o) ⟨rfl,rfl,rfl,by simp,fun k _ hk=>hs2 k hk⟩ (by simp) (fun k hk=>hs2 k hk)
   unfold wG;rw[hq,Ck] at hnq;rw[hR,aj,hq];simp only[hnq,if_true]
  ·exact⟨rfl,rfl,rfl,by simp,fun k hk hs=>hs2 k (fun e=>hs ⟨i,_,by simp,oI hp,rfl,by rw[e];exact hg⟩)⟩
theorem Lp{R:Nat→PV}{P:Program}{tab:List SF}(ht:aY R P tab){o:Oper}{ρ:Operand→Value}{ρA:Operand→Option AV}{K:Kn}{h:List ah}{w:World}(hR:K.R=R)(H:WR K h w)(hρ:∀x v,ρA x=some v→VR K v (ρ x))
  {t:TypeId} {len:Nat} {parts:Array (Nat×Operand)} {ps:List (Nat×AV)} {e:TypeId} {s:Nat} {pvs:List PV} {j:Nat}
  (ho:o.op=.buildSlice t len parts) (hps:oZ ρA parts.toList=some ps) (hb:Rl P t len ps=some (e,s,pvs)) (hk:tO t (.pv (.rows [])) (.pv (.rows (chunk s len pvs))) tab=some j) :
  Eff P o ρ K h w (.arr h.length) (h++[.arr e s (.sym j)]) []:=by
 obtain⟨⟨e',sz',by_,zc',es,es',a1,a2,a3,a4,a5,a6,a7,a8,a9,a10,a11,a12,a13⟩,hns⟩:=uS ht hk;unfold Rl at hb;split at hb
 ·rename_i e0 hu
  split at hb
  ·rename_i zc s' hz hs
   split at hb
   ·rename_i hc
    split at hb
    ·rename_i out hf
     split at hb
     ·rename_i pvs' hp
      cases hb;rw[hu] at a1;cases a1;rw[hs] at a2;cases a2;have hes:es=[]:=by
       rw[af,aj] at a7;simpa[jE,bn,rowsOf,aX] using a7.symm
      subst hes;have hes':es'=aX R (chunk s len pvs):=by
       rw[af,aj] at a8;simpa[rowsOf] using a8.symm
      obtain⟨ie,z,hi,hiz,hvz⟩:=bL (K:=K) hz;obtain⟨h1,h2⟩:=lm hρ _ _ hps;have hies:ie.size=s:=by unfold jS at hs;rw[hi] at hs;simpa using hs
      obtain⟨us,hfill,hvu⟩:=kS _ ps (gm ρ parts.toList) _ ((Array.range (len*s)).map (z.cells[· % z.cells.size]!)) out (ji hvz (by omega) _) h1 h2 hf;obtain⟨hpl,hpr⟩:=mW hvu hp;have hout:∀(ps:List (Nat×AV)) (cells out:List AV),rM (fun i=>some (i*s,s)) cells ps=some out→out.length=cells.length:=by
       intro ps
       induction ps with
       |nil=>intro cells out hf;cases hf;rfl
       |cons q ps ih=>
        intro cells out hf;obtain⟨qi,qv⟩:=q;simp only[rM] at hf;split at hf
        ·cases hf
        ·rename_i hcond
         rw[ih _ _ hf];simp[setAt];omega
      have hol:=hout _ _ _ hf;have hzl:(fD zc (len*s)).length=len*s:=by simp[fD]
      have husz:us.size=len*s:=by have:=hvu.1;simp at this;omega
      have hlen:len≤16777216:=Nat.le_trans (Nat.le_mul_of_pos_right len hc.1) hc.2.2;have hrun:(execOp ρ o).run P w=.ok (.value (.slice (some ⟨w.heap.size,0,none⟩) len len)) (w.alloc (.cells us e)):=by
       have hp':(parts.map fun(i,x)=>(i,ρ x)).toList=gm ρ parts.toList:=by simp[gm]
       by_cases h0:len*s=0
       ·have hl0:len=0:=by
         rcases Nat.mul_eq_zero.1 h0 with h0|h0
         ·exact h0
         ·omega
        subst hl0;have e0:∀f:Nat→Value,(Array.range (0*s)).map f = #[]:=fun f=>by apply Array.ext';simp
        rw[e0] at hfill;simp only[execOp,ho,Instr.buildSlice,Sem.run_bind,run_underlying hu,Result.andThen_ok,dV hs];rw[if_neg (by simp),if_pos (by simp)];simp only[Sem.run_bind,Sem.run_pure,Result.andThen_ok,e0,hp',hfill];simp[newRow]
       ·have:=run_buildSlice (P:=P) w t e len (parts.map fun(i,x)=>(i,ρ x)) us ie z hu hi hiz (by rw[hies];have:=hc.2.2;omega) (by rw[hies];exact h0) (by rw[hies,hp'];exact hfill)
        simp only[execOp,ho,Sem.run_bind,this,Result.andThen_ok,Sem.run_pure]
      have hcl:(chunk s len pvs).length=len:=AX _ _ _;have hel':es'.length=len:=by rw[hes',eO,List.length_map];exact hcl
      obtain⟨K',st,m1,m2,m3,m4⟩:=Step.putArr H (h1:=h) (w':=w.alloc (.cells us e)) e s (.sym j) w.heap.size len us es' (by rw[hR,aj];simpa using a13) (by rw[a13,Ck] at hns;simpa using hns) (heap_alloc_new w _) husz (by unfold maxLen;omega) (by omega)
       (fun k hk=>a10 _ (List.getElem_mem hk)) (fun k hk jj hj=>by
        have hk':k<len:=by omega
        have hjs:jj<s:=by rw[a10 _ (List.getElem_mem hk)] at hj;exact hj
        have hca:=zJ s len pvs (by rw[hpl];simpa using husz) k (by rw[hcl];exact hk');have hj2:jj<(chunk s len pvs)[k].length:=by rw[hca.1];exact hjs
        have hg:=hca.2 jj hj2;have hlt:k*s+jj<pvs.length:=by
         by_cases hh:k*s+jj<pvs.length
         ·exact hh
         ·rw[List.getElem?_eq_none (by omega)] at hg;cases hg
        have hlt':k*s+jj<us.toList.length:=by omega
        refine⟨us.toList[k*s+jj],?_,?_⟩
        ·rw[←Array.getElem?_toList,List.getElem?_eq_getElem hlt']
        ·have hpv:=hpr (k*s+jj) hlt hlt'
         rw[List.getElem?_eq_getElem hlt] at hg;rw[Option.some.inj hg] at hpv;have hop:=hpv.opened;rw[hR] at hop;have he:es'[k][jj]=aj R (chunk s len pvs)[k][jj]:=by
          have:es'[k]=aG R (chunk s len pvs)[k]:=by simp only[hes',eO,List.getElem_map]
          simp only[this,bM,List.getElem_map]
         rw[he];rw[←hR] at hop ⊢;exact hop)
       (by simp) ((jv.alloc (fun _=>False) w _).mono (fun _ _ h=>h.elim)) (fun o=>H.noM (Nat.le_refl _) o) rfl (fun j x hj _=>⟨hj,fun hm=>by have:=H.lt j _ hm;omega⟩) (fun i hi=>by have:=H.lt i _ hi;omega) (.inl (Nat.le_refl _))
      refine⟨.value (.slice (some ⟨w.heap.size,0,none⟩) len len),_,_,K',hrun,.inl rfl,?_,st,jv.alloc _ _ _⟩;have:=VR.arr (K:=K') h.length w.heap.size len m1 (by rw[m2,hel'];exact Nat.le_refl _) (by rw[m3];exact Nat.le_refl _);rw[m2,hel'] at this;exact this
     ·cases hb
    ·cases hb
   ·cases hb
  ·cases hb
 ·cases hb
theorem OW{R:Nat→PV}{P:Program}{tab:List SF}{o:Oper}{ρ:Operand→Value}{K:Kn}{h:List ah}{w:World}(hR:K.R=R)(H:WR K h w){t:TypeId}{len:Nat}{parts:Array (Nat×Operand)}{v:AV}{h':List ah}{touch:List Nat}
  (ho:o.op=.buildSlice t len parts) (hq:aaV tab P h t len parts=some (v,h',touch)):Eff P o ρ K h w v h' touch:=by
 unfold aaV at hq;split at hq
 ·rename_i e _ hu
  split at hq
  ·rename_i s hs
   cases hq;have hrun:(execOp ρ o).run P w=.ok (.value (.slice (some ⟨w.heap.size,0,none⟩) 0 0)) (w.alloc (.cells #[] e)):=by
    have e0:∀f:Nat→Value,(Array.range (0*(s+1))).map f = #[]:=fun f=>by apply Array.ext';simp
    simp only[execOp,ho,Instr.buildSlice,Sem.run_bind,run_underlying hu,Result.andThen_ok,dV hs];rw[if_neg (by simp),if_pos (by simp)];simp only[Sem.run_bind,Sem.run_pure,Result.andThen_ok,e0];simp[newRow,Instr.fill]
   obtain⟨K',st,m1,m2,m3,m4⟩:=Step.putArr H (h1:=h) (w':=w.alloc (.cells #[] e)) e (s+1) (.rows []) w.heap.size 0 #[] [] (by rw[aj,aX]) rfl (heap_alloc_new w _) (by simp) (by unfold maxLen;omega) (by simp)
    (fun k hk=>by simp at hk) (fun k hk=>by simp at hk)
    (by simp) ((jv.alloc (fun _=>False) w _).mono (fun _ _ h=>h.elim)) (fun o=>H.noM (Nat.le_refl _) o) rfl (fun j x hj _=>⟨hj,fun hm=>by have:=H.lt j _ hm;omega⟩) (fun i hi=>by have:=H.lt i _ hi;omega) (.inl (Nat.le_refl _))
   refine⟨.value (.slice (some ⟨w.heap.size,0,none⟩) 0 0),_,_,K',hrun,.inl rfl,?_,st,jv.alloc _ _ _⟩;have:=VR.arr (K:=K') h.length w.heap.size 0 m1 (by rw[m2];simp) (by rw[m3];exact Nat.le_refl _);rw[m2] at this;exact this
  ·cases hq
 ·cases hq
theorem Q7{R:Nat→PV}{P:Program}{tab:List SF}(ht:aY R P tab){o:Oper}{ρ:Operand→Value}{ρA:Operand→Option AV}{K:Kn}{h:List ah}{w:World}(hR:K.R=R)(H:WR K h w)(hρ:∀x v,ρA x=some v→VR K v (ρ x)){v:AV}{h':List ah}{touch:List Nat}
  (hq:alq tab P ρA h o.op=some (v,h',touch)):Eff P o ρ K h w v h' touch:=by
 unfold alq at hq;split at hq
 ·rename_i t len parts ho
  split at hq
  ·exact OW hR H ho hq
  ·cases hq
  ·split at hq
   ·rename_i ps hps
    split at hq
    ·rename_i e s pvs hb
     split at hq
     ·rename_i j hk
      cases hq;exact Lp ht hR H hρ ho hps hb hk
     ·cases hq
    ·cases hq
   ·cases hq
 ·rename_i t x y ho
  split at hq
  ·rename_i i off a lo q hx hy
   split at hq
   ·rename_i ty sz p bt cells hrow hi
    split at hq
    ·rename_i hcond
     cases hq;exact Li ht hR H hρ ho hx hy hrow hcond.1 hcond.2.1 hi hcond.2.2.1 hcond.2.2.2
    ·cases hq
   ·cases hq
  ·rename_i a ip off va hx hy
   split at hq
   ·rename_i ty sz p c s hrow hc hs
    split at hq
    ·rename_i j hl
     split at hq
     ·rename_i hcond
      cases hq;exact Gl ht hR H hρ ho hx hy hrow hc hs hl hcond.1 hcond.2
     ·cases hq
    ·cases hq
   ·cases hq
  ·cases hq
 ·rename_i t x y ho
  split at hq
  ·rename_i a yv hx hy
   split at hq
   ·rename_i ty sz p e hrow hu
    split at hq
    ·rename_i q s hf hs
     split at hq
     ·rename_i hc
      cases hq;subst hc;exact Lm ht hR H hρ ho hx hy hu hrow hf hs
     ·cases hq
    ·cases hq
   ·cases hq
  ·cases hq
 ·rename_i t l c ho
  split at hq
  ·rename_i lv cv hl hc
   split at hq
   ·rename_i j e hk he hu
    split at hq
    ·rename_i sz hs
     cases hq;exact G8 ht hR H hρ ho hl hc hk he hu hs
    ·cases hq
   ·cases hq
  ·cases hq
 ·rename_i args ts ho
  split at hq
  ·rename_i s x t t' ha hts
   split at hq
   ·rename_i e sv xv ht' hu hs hx
    have htt:t=t':=by simpa using ht'
    subst htt;split at hq
    ·rename_i a sz hsz
     split at hq
     ·rename_i ty sz' p hrow
      split at hq
      ·rename_i j hl
       split at hq
       ·rename_i hcond
        cases hq;obtain⟨rfl,rfl⟩:=hcond;exact zQ ht hR H ha hts ho hu (hρ s _ hs) (hρ x _ hx) hsz hrow hl
       ·cases hq
      ·split at hq
       ·rename_i hl
        cases hq;exact G9 ht hR H hρ ha hts ho hs hx hl
       ·cases hq
     ·cases hq
    ·rename_i a lo q sz hsz
     split at hq
     ·rename_i ty sz' p hrow
      split at hq
      ·rename_i j hc hz hl
       split at hq
       ·rename_i hcond
        cases hq;obtain⟨rfl,rfl⟩:=hcond;exact Cw ht hR H ha hts ho hu (hρ s _ hs) (hρ x _ hx) hsz hrow hc hz hl
       ·cases hq
      ·cases hq
     ·cases hq
    ·rename_i sz hsz
     split at hq
     ·rename_i j hnil hl
      cases hq;exact Lj ht hR H hρ ha hts ho hu hs hx hsz hnil hl
     ·cases hq
    ·cases hq
   ·cases hq
  ·cases hq
 ·rename_i args ts ho
  split at hq
  ·rename_i m k t t' ha hts
   split at hq
   ·rename_i i hm
    split at hq
    ·rename_i kv p hk hp
     split at hq
     ·rename_i j hl
      cases hq;exact Ll ht hR H hρ ha hts ho hm hk hp hl
     ·cases hq
    ·cases hq
   ·cases hq
  ·cases hq
 ·cases hq
theorem QV{R:Nat→PV}{P:Program}{tab:List SF}(ht:aY R P tab){o:Oper}{ρ:Operand→Value}{ρA:Operand→Option AV}{K:Kn}{h:List ah}{w:World}(hR:K.R=R)(H:WR K h w)(hρ:∀x v,ρA x=some v→VR K v (ρ x)){v:AV}{h':List ah}{touch:List Nat}
  (hq:ak9 tab P o.op ρA h=some (v,h',touch)):Eff P o ρ K h w v h' touch:=by
 unfold ak9 at hq;split at hq
 ·rename_i r hr
  cases hq;exact Q7 ht hR H hρ hr
 split at hq
 ·rename_i r hr
  cases hq;unfold asA at hr;split at hr
  ·cases hr
  ·exact QW H hρ hr
 split at hq
 ·rename_i r hr
  cases hq;unfold asC at hr;split at hr
  ·cases hr
  ·exact FY H hρ hr
 split at hq
 ·rename_i r hr
  cases hq;rw[afK] at hr;exact Wu H hρ hr
 split at hq
 ·rename_i r hr
  cases hq;exact FY H hρ hr
 split at hq
 rotate_left
 ·exact Q6 ht hR H hρ hq
 ·rename_i r hr
  cases hq;revert hr;intro hq;unfold asE at hq;split at hq
  ·rename_i args ts ho
   split at hq
   ·rename_i s x t t' hop hts
    split at hq
    ·rename_i e
     subst e;obtain⟨so,xo,hargs⟩:∃so xo,args.toList=[so,xo]:=by
      have:=(ig hρ _ _ hop).1
      match hargs:args.toList with
      |[]=>rw[hargs] at this;simp at this
      |[_]=>rw[hargs] at this;simp at this
      |[a,b]=>exact⟨a,b,rfl⟩
      |_::_::_::_=>rw[hargs] at this;simp at this
     have hv:=ig hρ _ _ hop;rw[hargs] at hv;exact Rx ht hR H hargs hts ho (hv.2 0 (by simp) (by simp)) (hv.2 1 (by simp) (by simp)) hq
    ·cases hq
   ·cases hq
  ·cases hq
def Uj(r:AV×List ah×List Nat):Option (AV×List ah×List Nat):=match dN r.1 with
 |none=>some r
 |some _=>none
theorem EU{r r':AV×List ah×List Nat}(h:Uj r=some r'):r=r'∧dN r'.1=none:=by
 unfold Uj at h;split at h
 ·rename_i hn;cases h;exact⟨rfl,hn⟩
 ·cases h
def YL(ρ:Operand→Option AV):Op→Option AV
 |.panic x=>match ρ x with
  |some (.ifc t v)=>some (.ifc t v)
  |_=>none
 |_=>none
def Ps(P:Program)(call:Nat→List AV→List ah→Option (AV×List ah))(okf:Nat→Bool)(tab:List SF)(o:Oper)(sl:Env)(h:List ah):Option (AV×List ah×List Nat):=
 match X5 tab P o.op o.type (Vm sl) h with
 |some (v,_)=>Uj (v,h,[])
 |none=>match ak9 tab P o.op (Vm sl) h with
  |some r=>Uj r
  |none=>match callee (Vm sl) o.op with
   |some (g,args)=>if okf g then KZ call g args h else none
   |none=>match YL (Vm sl) o.op with
    |some x=>some (.tup [.tup [],x],h,[])
    |none=>none
def uJ(n:Nat)(sl:Env)(d:Option Tmp)(v:AV):Env:=match d with
 |some d=>match Nat.blt d n with
  |true=>(d,v)::sl
  |false=>[]
 |none=>sl
theorem cu{K:Kn}{n:Nat}{sl:Env}{a:Act}(h:aU K n sl a.tmps){v:AV}{u:Value}(hv:VR K v u)(d:Option Tmp):aU K n (uJ n sl d v) (a.put d u).tmps∧(a.put d u).defers=a.defers:=by
 cases d with
 |none=>exact⟨h,rfl⟩
 |some d=>
  refine⟨?_,rfl⟩;show aU K n (match Nat.blt d n with|true=>(d,v)::sl|false=>[]) (a.tmps.setIfInBounds d u);cases hb:Nat.blt d n with
  |false=>exact⟨by simpa using h.1,fun d v hd=>by cases hd⟩
  |true=>
   have hlt:(d:Nat)<n:=Nat.le_of_ble_eq_true hb;have hlt':(d:Nat)<a.tmps.size:=Nat.lt_of_lt_of_le hlt h.1;refine⟨by simpa using h.1,fun k x hk=>?_⟩;simp only[look] at hk;cases hq:Nat.beq d k with
   |true=>
    rw[hq] at hk;cases hk;have e:(d:Nat)=k:=Nat.eq_of_beq_eq_true hq;subst e;have:(a.tmps.setIfInBounds d u).getD d Go.undef=u:=by simp[Array.getD,hlt']
    rw[this];exact hv
   |false=>
    rw[hq] at hk;have e:(d:Nat)≠k:=Nat.ne_of_beq_eq_false hq;have:(a.tmps.setIfInBounds d u).getD k Go.undef=a.tmps.getD k Go.undef:=by
     simp only[Array.getD_eq_getD_getElem?];rw[Array.getElem?_setIfInBounds_ne e]
    rw[this];exact h.2 k x hk
inductive aN where
 |normal
 |exit (id:Nat)
 |ret
 |pan
def aN.out:aN→Exit
 |.normal=>.normal
 |.exit id=>.exit id
 |.ret=>.ret
 |.pan=>.outgrown
def GU(n:Nat)(tm:Array Value)(u:Value):Array Value:=if n<tm.size then tm.setIfInBounds n u else tm.push u
theorem Ij{n:Nat}{tm:Array Value}{u:Value}(h:n≤tm.size):n≤(GU n tm u).size:=by
 unfold GU;split<;>simp<;>omega
theorem vO{n:Nat}{tm:Array Value}{u:Value}(h:n≤tm.size):(GU n tm u).getD n Go.undef=u:=by
 unfold GU;split
 ·rename_i hl;simp[Array.getD,hl]
 ·rename_i hl
  have:tm.size=n:=by omega
  subst this;simp[Array.getD]
theorem Da{n k:Nat}{tm:Array Value}{u:Value}(h:n≤tm.size)(hk:n≠k):(GU n tm u).getD k Go.undef=tm.getD k Go.undef:=by
 unfold GU;split
 ·simp only[Array.getD_eq_getD_getElem?]
  rw[Array.getElem?_setIfInBounds_ne hk]
 ·have:tm.size=n:=by omega
  subst this;simp only[Array.getD_eq_getD_getElem?];by_cases hlt:k<tm.size
  ·rw[Array.getElem?_push_lt hlt,Array.getElem?_eq_getElem hlt]
  ·rw[Array.getElem?_eq_none (by simp;omega),Array.getElem?_eq_none (by omega)]
def tY(n:Nat)(ex:aN)(e:Exit)(a':Act)(tm:Array Value):Prop:=match ex with
 |.pan=>n≤a'.tmps.size∧∃u,e=.panic [{v:=u,recovered:=false }]∧tm=GU n a'.tmps u
 |ex=>e=ex.out∧tm=a'.tmps
def tQ:List Nat→Env→Env
 |[],_=>[]
 |d::ks,e=>match look e d with
  |some v=>(d,v)::tQ ks e
  |none=>tQ ks e
theorem sK{e:Env}{d:Nat}{v:AV}:∀{ks:List Nat},look (tQ ks e) d=some v→look e d=some v
 |[],h=>by cases h
 |k::ks,h=>by
  rw[tQ] at h;split at h
  ·rename_i x hx
   simp only[look] at h;split at h
   ·rename_i hb
    cases h;rw[←Nat.eq_of_beq_eq_true hb];exact hx
   ·exact sK h
  ·exact sK h
theorem aU.keep{K:Kn}{n:Nat}{e:Env}{tm:Array Value}(h:aU K n e tm)(ks:List Nat):aU K n (tQ ks e) tm:=⟨h.1,fun d v hd=>h.2 d v (sK hd)⟩
def VX(n:Nat)(rs:List Nat)(sl:Env)(x:AV):Env:=(n,x)::tQ rs sl
theorem sG{K:Kn}{n:Nat}{rs:List Nat}{sl:Env}{tm:Array Value}{x:AV}{u:Value}(h:aU K n sl tm)(hx:VR K x u):aU K n (VX n rs sl x) (GU n tm u):=by
 refine⟨Ij h.1,fun d v hd=>?_⟩;simp only[VX,look] at hd;cases hb:Nat.beq n d with
 |true=>
  rw[hb] at hd;cases hd;rw[←Nat.eq_of_beq_eq_true hb,vO h.1];exact hx
 |false=>
  rw[hb] at hd;rw[Da h.1 (Nat.ne_of_beq_eq_false hb)];exact h.2 d v (sK hd)
def yu(ops:Array Oper)(sl:Env)(o:Oper):Option Bool:=match o.guard with
 |none=>some true
 |some (j,b)=>match(ops[j]?).bind (·.dst) with
  |some d=>match look sl d with
   |some (.pv (.lit (.bool c)))=>some (c==b)
   |some (.tup [])=>some false
   |_=>none
  |none=>none
theorem bU{K:Kn}{n:Nat}{ops:Array Oper}{sl:Env}{a:Act}(h:aU K n sl a.tmps){o:Oper}{b:Bool}(hw:yu ops sl o=some b):Region.wanted o (yielded ops a.tmps)=b:=by
 unfold yu at hw;unfold Region.wanted;cases hg:o.guard with
 |none=>rw[hg] at hw;cases hw;rfl
 |some p=>
  obtain⟨j,c⟩:=p;rw[hg] at hw;simp only at hw ⊢;cases hd:(ops[j]?).bind (·.dst) with
  |none=>rw[hd] at hw;cases hw
  |some d=>
   rw[hd] at hw;simp only at hw;have key:∀x:Value,a.tmps.getD d Go.undef=x→(yielded ops a.tmps j==some c)=(match x with | .bool e=>e==c|_=>false):=by
    intro x hx;unfold yielded;rw[hd];simp only[Option.bind_some];by_cases hlt:d<a.tmps.size
    ·have e1:a.tmps[d]? = some a.tmps[d]:=Array.getElem?_eq_getElem hlt
     have e2:a.tmps[d]=x:=by simpa[Array.getD,hlt] using hx
     rw[e1,e2];cases x<;>simp
    ·have e1:a.tmps[d]? = none:=Array.getElem?_eq_none (Nat.le_of_not_lt hlt)
     have e2:x=Go.undef:=by rw[←hx];simp[Array.getD,hlt]
     rw[e1,e2];simp[Go.undef]
   split at hw
   ·rename_i e he
    cases hw;have hs:=h.2 d _ he;rw[key _ (bW hs rfl)]
   ·rename_i he
    cases hw;have hs:=h.2 d _ he;generalize hx:a.tmps.getD d Go.undef=x at hs;cases hs with
    |tup _ cs hl _=>
     rw[key _ hx]
   ·cases hw
section
variable{P:Program}{call:Nat→List AV→List ah→Option (AV×List ah)}{okf:Nat→Bool}{tab:List SF}{R:Nat→PV}{ops:Array Oper}{Q:Exit→Act→World→Prop}
theorem kN(hcall:bZ R P call)(htab:aY R P tab)(hok:∀f,okf f=true→callable P f=true){n:Nat}{o:Oper}{sl:Env}{h:List ah}{v:AV}{h':List ah}{touch:List Nat}(ha:Ps P call okf tab o sl h=some (v,h',touch))
  {K:Kn} {w:World} {a:Act} (hR:K.R=R) (H:WR K h w) (hs:aU K n sl a.tmps) {next:Act→World→Prop}
  (hn:∀K' w' u,dN v=none→VR K' v u→Step K h w K' h' w'→jv (K.at h touch) w w'→next (a.put o.dst u) w')
  (hp:∀x K' w' u,dN v=some x→VR K' x u→Step K h w K' h' w'→Q (.panic [{v:=u,recovered:=false }]) a w'):o.wp P a w next Q:=by
 have hρ:∀x v,Vm sl x=some v→VR K v (a.eval x):=fun x v hx=>kV hs hx
 unfold Ps at ha;split at ha
 ·rename_i v' d hq
  obtain⟨e1,e2⟩:=EU ha;cases e1;obtain⟨u,hu,hr⟩:=xw (o:=o) (ρ:=a.eval) htab hR H hρ hq;have:=hr w H.agr (fun _ _ _ _=>rfl);unfold Oper.wp;rw[this];exact hn K w u e2 hu (Step.refl H) (jv.refl _ _)
 ·split at ha
  ·rename_i r he
   obtain⟨e1,e2⟩:=EU ha;subst e1;obtain⟨n,u,w',K',hrun,hnu,hv,hst,hf⟩:=QV (o:=o) (ρ:=a.eval) htab hR H hρ he;unfold Oper.wp;rw[hrun];rcases hnu with rfl|⟨rfl,rfl⟩
   ·exact hn K' w' u e2 hv hst hf
   ·exact hn K' w' _ e2 hv hst hf
  ·split at ha
   ·rename_i g args hc
    split at ha
    ·rename_i hg
     obtain⟨hs0,args',v0,hs',h1,h2,h3,h4,h5,h6⟩:=BV ha (fun hr=>mq _ args hr)
     -- the operation enters the callee
     have hex:∃us:List Value,VL K args us∧(execOp a.eval o).run P w=.ok (.enter g us.toArray) w:=by
      unfold callee at hc;split at hc
      ·rename_i f as' ts ho
       split at hc
       ·rename_i g' caps vs hf hvs
        have hfv:=hρ f _ hf;generalize hfe:a.eval f=fv at hfv;have hvl:=ig hρ _ _ hvs;split at hc
        rotate_left
        ·rename_i hb
         obtain⟨e1,e0⟩:=Prod.mk.inj (Option.some.inj hc);generalize hg3:qO=bd at *;subst e1;subst e0;clear hc;cases hfv with
         |fn _ _ cs hl hh hlt=>rw[show Nat.blt g' bd=true from Nat.ble_eq_true_of_le (by rw[←hg3];exact hlt)] at hb;cases hb
         |bfn f2 _ _ cs hl hh hg2=>
          have e2:g'-bd=f2:=by omega
          rw[e2] at hg ⊢;refine⟨cs++as'.toList.map a.eval,VL.append ⟨hl,hh⟩ hvl,?_⟩;have hcal:=hok f2 hg;unfold callable at hcal;split at hcal
          ·rename_i fn hfn
           rw [Bool.and_eq_true] at hcal;obtain ⟨b1, b2⟩ := hcal;have b3 : (fn.name == "runtime.NumGoroutine") = false := by simpa using b2
           have b4:fn.body.isNone=false:=by cases hb:fn.body<;>simp_all
           simp only[execOp,ho,resolve,Deferred.ofValue,hfe,invoke,callFunc,Sem.run_bind,Sem.run_pure,Result.andThen_ok,run_program,hfn,b3,b4,Bool.false_eq_true,if_false,qA a.eval as'];simp
          ·cases hcal
        rename_i hb;cases hc;cases hfv with
        |bfn f2 _ _ cs hl hh hg2=>
         have:=Nat.le_of_ble_eq_true hb;omega
        |fn _ _ cs hl hh _=>
         refine⟨as'.toList.map a.eval++cs,hvl.append ⟨hl,hh⟩,?_⟩;have hcal:=hok g hg;unfold callable at hcal;split at hcal
         ·rename_i fn hfn
          rw [Bool.and_eq_true] at hcal;obtain ⟨b1, b2⟩ := hcal;have b3 : (fn.name == "runtime.NumGoroutine") = false := by simpa using b2
          have b4:fn.body.isNone=false:=by cases hb:fn.body<;>simp_all
          simp only[execOp,ho,resolve,Deferred.ofValue,hfe,invoke,callFunc,Sem.run_bind,Sem.run_pure,Result.andThen_ok,run_program,hfn,b3,b4,Bool.false_eq_true,if_false,qA a.eval as'];simp
         ·cases hcal
       ·cases hc
      ·cases hc
     obtain⟨us,hvl,hrun⟩:=hex;unfold Oper.wp;rw[hrun];have hcs:=hcall g args' hs0 v0 hs' h4 (K.sub touch) w us hR (H.sub h1 h2) (mo (Ren.sub K touch) hvl h3);refine hcs.mono ?_;rintro e w' ⟨K',hv,hst⟩;obtain⟨m1,m2,m3⟩:=uP H h1 h2 hst h6;have hv':=hv.ren m2 h5;cases hpv:dN v with
     |none=>
      obtain⟨u,rfl,hu⟩:=hv'.ret hpv;exact hn _ w' u hpv hu m1 m3
     |some x=>
      obtain⟨u,rfl,hu⟩:=hv'.pan hpv;exact hp x _ w' u hpv hu m1
    ·cases ha
   ·split at ha
    ·rename_i x hx
     cases ha;unfold YL at hx;split at hx
     ·rename_i y ho
      split at hx
      ·rename_i t z hy
       cases hx;have hyv:=hρ y _ hy;have hyv':=hyv;generalize hye:a.eval y=yv at hyv;cases hyv with
       |ifc _ hz=>
        rename_i uz;have hrun:(execOp a.eval o).run P w=.halt (.panic (.iface t uz)) w:=by
         simp only[execOp,ho];rw[hye];rfl
        unfold Oper.wp;rw[hrun];exact hp _ K w _ rfl (by rw[hye] at hyv';exact hyv') (Step.refl H)
      ·cases hx
     ·cases hx
    ·cases ha
def Pf(P:Program)(call:Nat→List AV→List ah→Option (AV×List ah))(okf:Nat→Bool)(tab:List SF)(n:Nat)(rs:List Nat)(ops:Array Oper):List Oper→Env→List ah→Option (aN×Env×List ah)
 |[],sl,h=>some (.normal,sl,h)
 |o::rest,sl,h=>match yu ops sl o with
  |some true=>match Ps P call okf tab o sl h with
   |some (v,h',_)=>match dN v with
    |none=>Pf P call okf tab n rs ops rest (uJ n sl o.dst v) h'
    |some x=>some (.pan,VX n rs sl x,h')
   |none=>none
  |some false=>Pf P call okf tab n rs ops rest (uJ n sl o.dst (.tup [])) h
  |none=>none
theorem vC(hcall:bZ R P call)(htab:aY R P tab)(hok:∀f,okf f=true→callable P f=true){n:Nat}{rs:List Nat}:∀(l:List Oper) (sl:Env) (h:List ah) (ex:aN) (sl':Env) (h':List ah),Pf P call okf tab n rs ops l sl h=some (ex,sl',h')→
  ∀(K:Kn) (w:World) (a:Act),K.R=R→WR K h w→aU K n sl a.tmps→(∀e K' a' w' tm,tY n ex e a' tm→aU K' n sl' tm→a'.defers=a.defers→Step K h w K' h' w'→Q e a' w')→wpList P ops Q l a w
 |[],sl,h,ex,sl',h',he,K,w,a,hR,H,hs,hq=>by
  cases he;exact hq .normal K a w _ ⟨rfl,rfl⟩ hs rfl (Step.refl H)
 |o::rest,sl,h,ex,sl',h',he,K,w,a,hR,H,hs,hq=>by
  rw[Pf] at he;refine wpList_step fun Kp hK=>?_
  split at he
  ·rename_i hw
   rw[bU hs hw];simp only[if_true];split at he
   ·rename_i v h1 t ha
    refine kN hcall htab hok ha hR H hs (fun K' w' u hpn hv hst _=>hK _ _ ?_) (fun x K' w' u hpx hv hst=>?_)
    ·rw[hpn] at he
     obtain⟨p1,p2⟩:=cu (hs.mono hst.ext) hv o.dst;exact vC hcall htab hok rest _ h1 ex sl' h' he K' w' _ (hst.ext.R.trans hR) hst.wr p1 (fun e K2 a2 w2 tm q0 q1 q2 q3=>hq e K2 a2 w2 tm q0 q1 (q2.trans p2) (hst.trans q3))
    ·rw[hpx] at he
     cases he;exact hq _ K' a w' _ ⟨hs.1,u,rfl,rfl⟩ (sG (hs.mono hst.ext) hv) rfl hst
   ·cases he
  ·rename_i hw
   rw[bU hs hw];simp only[Bool.false_eq_true,if_false];refine hK _ _ ?_;obtain⟨p1,p2⟩:=cu hs (VR.undef K) o.dst;exact vC hcall htab hok rest _ h ex sl' h' he K w _ hR H p1 (fun e K2 a2 w2 tm q0 q1 q2 q3=>hq e K2 a2 w2 tm q0 q1 (q2.trans p2) q3)
  ·cases he
end
def eP(ops:Array Oper)(md:Region.Mode)(j k:Nat):Bool:=match ops[j]? with
 |some oj=>oj.after.any fun e=>Region.binds md e&&e.on==k
 |none=>false
section
variable{P:Program}{ops:Array Oper}{Q:Exit→Act→World→Prop}{md:Region.Mode}
def kg(P:Program)(md:Region.Mode)(ops:Array Oper)(Q:Exit→Act→World→Prop):Nat→List (Nat×(World→Prop))→Array Bool→Act→World→Prop
 |0,_,listed,a,w=>Region.ready md ops listed=[]∧Q .normal a w
 |fuel+1,H,listed,a,w=>
  (Region.ready md ops listed=[]→Q .normal a w)∧
  ∀i∈Region.ready md ops listed,wpOp P ops Q i (fun a' w'=>(∀p∈H,eP ops md i p.1=false→p.2 w')∧
   kg P md ops Q fuel (H.filter fun p=>!eP ops md i p.1) (listed.setIfInBounds i true) a' w') a w
theorem wW:∀(fuel:Nat) (H:List (Nat×(World→Prop))) (listed:Array Bool) (a:Act) (w:World),kg P md ops Q fuel H listed a w→wpAny P md ops Q fuel listed a w
 |0,_,_,_,_,h=>h
 |fuel+1,_,_,_,_,h=>⟨h.1,fun i hi=>wpOp_mono (fun a' w' h'=>wW fuel _ _ a' w' h'.2) (h.2 i hi)⟩
theorem Dw:∀(fuel:Nat) (H H':List (Nat×(World→Prop))) (listed:Array Bool) (a:Act) (w:World),(∀p∈H',p∈H)→kg P md ops Q fuel H listed a w→kg P md ops Q fuel H' listed a w
 |0,_,_,_,_,_,_,h=>h
 |fuel+1,H,H',listed,a,w,hs,h=>by
  refine⟨h.1,fun i hi=>wpOp_mono (fun a' w' h'=>⟨fun p hp hw=>h'.1 p (hs p hp) hw,Dw fuel _ _ _ a' w' (fun p hp=>?_) h'.2⟩) (h.2 i hi)⟩;rw[List.mem_filter] at hp ⊢;exact⟨hs p hp.1,hp.2⟩
theorem V6{i j:Nat}{oj:Oper}(hoj:ops[j]? = some oj)(hno:∀e∈oj.after,Region.binds md e=true→e.on≠i):eP ops md j i=false:=by
 unfold eP;rw[hoj];simp only;rw[Array.any_eq_false'];intro e he hb;rw[Bool.and_eq_true] at hb;exact hno e he hb.1 (by simpa using hb.2)
theorem og{i:Nat}{oi:Oper}{v:Value}{S:World→Prop}(hi:ops[i]? = some oi)(hsel:∀(j:Nat) (o:Oper) cs b,ops[j]? = some o→o.op≠.select cs b)
  (hQ:∀c a w,Q (.panic c) (a.put oi.dst v) w→Q (.panic c) a w) :
  ∀(fuel:Nat) (H:List (Nat×(World→Prop))) (listed:Array Bool) (a:Act) (w:World),
   (∀j oj,ops[j]? = some oj→j≠i→listed.getD j true=false→(∀e∈oj.after,Region.binds md e=true→e.on≠i)→oi.apart ops oj=true)→
   i∈Region.ready md ops listed→YieldsIf P ops S oi v a→S w→(∀p∈H,p.2 w)→
   kg P md ops Q fuel ((i,S)::H) (listed.setIfInBounds i true) (a.put oi.dst v) w→kg P md ops Q (fuel+1) H listed a w:=by
 intro fuel
 induction fuel with
 |zero=>
  intro H listed a w _ hr hy hS hH X;refine⟨fun h=>(by rw[h] at hr;cases hr),fun j hj=>?_⟩;by_cases hji:j=i
  ·subst hji;exact hy.wpOp hi hS ⟨fun p hp _=>hH p hp,X⟩
  ·have:=ready_mono hj hji
   rw[X.1] at this;cases this
 |succ fuel ih=>
  intro H listed a w hfree hr hy hS hH X;refine⟨fun h=>(by rw[h] at hr;cases hr),fun j hj=>?_⟩;by_cases hji:j=i
  ·subst hji
   refine hy.wpOp hi hS ⟨fun p hp _=>hH p hp,?_⟩;refine Dw _ _ _ _ _ _ (fun p hp=>?_) X;rw[List.mem_filter] at hp;exact List.mem_cons_of_mem _ hp.1
  ·have h1:=X.2 j (ready_mono hj hji)
   obtain⟨hjun,oj,hoj,hall⟩:=mem_ready.1 hj;have hnot:∀e∈oj.after,Region.binds md e=true→e.on≠i:=fun e he hb heq=>by
    have h1:=hall e he hb;have h0:=(mem_ready.1 hr).1;rw[heq] at h1;rcases Nat.lt_or_ge i listed.size with h'|h'
    ·simp[h'] at h0 h1;rw[h0] at h1;cases h1
    ·simp[Array.getElem?_eq_none h'] at h1
   have hnw:eP ops md j i=false:=V6 hoj hnot;have h2:=wpOp_putIf hoj (hfree j oj hoj hji hjun hnot) (fun cs b=>hsel i oi cs b hi) (fun cs b=>hsel j oj cs b hoj) hQ hy h1;have hfree':∀k ok,ops[k]? = some ok→k≠i→(listed.setIfInBounds j true).getD k true=false→
     (∀e∈ok.after,Region.binds md e=true→e.on≠i)→oi.apart ops ok=true:=fun k ok hk hki hun hno=>by
    refine hfree k ok hk hki ?_ hno;by_cases hjk:j=k
    ·subst hjk;exact hjun
    ·rw[getD_set_ne true hjk] at hun;exact hun
   refine wpOp_mono (fun a' w' h3=>⟨fun p hp hw=>h3.2.1 p (List.mem_cons_of_mem _ hp) hw,ih _ (listed.setIfInBounds j true) a' w' hfree' (ready_mono hr (Ne.symm hji)) h3.1 (h3.2.1 (i,S) (List.mem_cons_self ..) hnw) (fun p hp=>?_) ?_⟩) h2
   ·rw[List.mem_filter] at hp
    exact h3.2.1 p (List.mem_cons_of_mem _ hp.1) (by simpa using hp.2)
   ·rw[Array.setIfInBounds_comm _ _ hji]
    have:=h3.2.2;rw[List.filter_cons_of_pos (by simp[hnw])] at this;exact this
theorem Bp{listed:Array Bool}{a:Act}{w:World}(hr:Region.ready md ops listed=[])(h:Q .normal a w):∀fuel H,kg P md ops Q fuel H listed a w
 |0,_=>⟨hr,h⟩
 |_+1,_=>⟨fun _=>h,by rw[hr];simp⟩
end
def adL:Op→Bool
 |.move _ | .assign _ | .pick _ _ _ | .nilCheck _ | .load _ _ | .fieldAddr _ _ _ | .field _ _ _ | .indexAddr _ _ _ | .index _ _ _ | .extract _ _ | .binOp _ _ _ _ _ | .unOp _ _ _ | .convert _ _ _ | .slice _ _ _ _ _ | .makeFunc _ _ _ | .build _ _ | .lookup _ _ _ _ | .makeInterface _ _ | .typeAssert _ _ _ _=>true
 |.call ⟨.builtin .len,_,_⟩ | .call ⟨.builtin .min,_,_⟩ | .call ⟨.builtin .max,_,_⟩ | .call ⟨.builtin .cap,_,_⟩=>true
 |_=>false
def wY(ops:Array Oper):Array Bool→List (Nat×Bool)→Bool
 |listed,[]=>(Region.ready .any ops listed).isEmpty
 |listed,(i,true)::r=>(Region.ready .any ops listed).contains i&&Region.free .any ops listed i&&wY ops (listed.setIfInBounds i true) r
 |listed,(i,false)::r=>(Region.ready .any ops listed==[i])&&wY ops (listed.setIfInBounds i true) r
def QK(ops:Array Oper):Nat→Array Bool→List (Nat×Bool)
 |0,_=>[]
 |n+1,listed=>match Region.ready .any ops listed with
  |[]=>[]
  |i::rs=>match(i::rs).find? (fun j=>((ops[j]?).map fun o=>adL o.op).getD false&&Region.free .any ops listed j) with
   |some j=>(j,true)::QK ops n (listed.setIfInBounds j true)
   |none=>(i,false)::QK ops n (listed.setIfInBounds i true)
def Jr(ops:Array Oper)(st:List (Nat×Bool)):Bool:=Region.noSelect ops&&decide (st.length≤ops.size)&&wY ops (Array.replicate ops.size false) st
def QD(h:List ah)(i:Nat):Bool:=match h[i]? with
 |some x=>x.live
 |none=>false
def JW(o:Oper)(h:List ah)(touch:List Nat)(p:Nat×Nat):Bool:=(o.after.any fun e=>Region.binds .any e&&e.on==p.1)||(!touch.elem p.2&&QD h p.2)
def Cc(P:Program)(call:Nat→List AV→List ah→Option (AV×List ah))(okf:Nat→Bool)(tab:List SF)(n:Nat)(rs:List Nat)(ops:Array Oper):List (Nat×Bool)→List (Nat×Nat)→Env→List ah→Option (aN×Env×List ah)
 |[],_,sl,h=>some (.normal,sl,h)
 |(i,q)::r,holds,sl,h=>match ops[i]? with
  |none=>none
  |some o=>match yu ops sl o with
   |some true=>match q with
    |true=>match X5 tab P o.op o.type (Vm sl) h with
     |some (v,d)=>Cc P call okf tab n rs ops r (match d with|some b=>(i,b)::holds|none=>holds) (uJ n sl o.dst v) h
     |none=>none
    |false=>match Ps P call okf tab o sl h with
     |some (v,h',touch)=>match dN v with
      |none=>if holds.all (JW o h touch) then Cc P call okf tab n rs ops r (holds.filter fun p=>!(o.after.any fun e=>Region.binds .any e&&e.on==p.1)) (uJ n sl o.dst v) h' else none
      |some x=>some (.pan,VX n rs sl x,h')
     |none=>none
   |some false=>match q with
    |true=>Cc P call okf tab n rs ops r holds (uJ n sl o.dst (.tup [])) h
    |false=>Cc P call okf tab n rs ops r (holds.filter fun p=>!(o.after.any fun e=>Region.binds .any e&&e.on==p.1)) (uJ n sl o.dst (.tup [])) h
   |none=>none
section
variable{P:Program}{call:Nat→List AV→List ah→Option (AV×List ah)}{okf:Nat→Bool}{tab:List SF}{R:Nat→PV}{ops:Array Oper}{Q:Exit→Act→World→Prop}
def Holds(K:Kn)(w:World)(holds:List (Nat×Nat))(H:List (Nat×(World→Prop))):Prop:=
 ∀p∈H,p.2 w∧∃dep:Option Nat,(∀b,dep=some b→(p.1,b)∈holds)∧∀w':World,(∀g o c,K.M g o=some c→w'.cell? ⟨g,o,none⟩=some c)→(∀i,dep=some i→∀g,K.mu i=some g→w'.heap[g]? = w.heap[g]?)→p.2 w'
theorem nH(hcall:bZ R P call)(htab:aY R P tab)(hok:∀f,okf f=true→callable P f=true)(hsel:Region.noSelect ops=true)(hQp:∀(i:Nat) (oi:Oper),ops[i]? = some oi→∀c (a:Act) v w,Q (.panic c) (a.put oi.dst v) w→Q (.panic c) a w){n:Nat}{rs:List Nat}{ex:aN} :
  ∀(st:List (Nat×Bool)) (listed:Array Bool) (holds:List (Nat×Nat)) (sl:Env) (h:List ah) (sl':Env) (h':List ah) (fuel:Nat) (H:List (Nat×(World→Prop))) (K:Kn) (w:World) (a:Act),
   wY ops listed st=true→st.length≤fuel→Cc P call okf tab n rs ops st holds sl h=some (ex,sl',h')→K.R=R→WR K h w→aU K n sl a.tmps→Holds K w holds H→
   (∀e K' a' w' tm,tY n ex e a' tm→aU K' n sl' tm→a'.defers=a.defers→Step K h w K' h' w'→Q e a' w')→kg P .any ops Q fuel H listed a w
 |[],listed,holds,sl,h,sl',h',fuel,H,K,w,a,hv,_,he,hR,W,hs,_,hq=>by
  cases he;refine Bp (by simpa[wY] using hv) ?_ fuel H;exact hq .normal K a w _ ⟨rfl,rfl⟩ hs rfl (Step.refl W)
 |(i,q)::r,listed,holds,sl,h,sl',h',0,H,K,w,a,hv,hf,he,hR,W,hs,hh,hq=>by simp at hf
 |(i,q)::r,listed,holds,sl,h,sl',h',fuel+1,H,K,w,a,hv,hf,he,hR,W,hs,hh,hq=>by
  rw[Cc] at he;split at he
  ·cases he
  ·rename_i o ho
   have hfl:r.length≤fuel:=by simpa using hf
   cases q with
   |true=>
    rw[wY,Bool.and_eq_true,Bool.and_eq_true] at hv;obtain⟨⟨hr,hfr⟩,hv⟩:=hv;have hr':i∈Region.ready .any ops listed:=by simpa using hr
    split at he
    ·rename_i hw
     have hwant:=bU hs hw;simp only at he;split at he
     ·rename_i v d hqo
      obtain⟨u,hvu,hrun⟩:=xw (o:=o) (ρ:=a.eval) htab hR W (fun x v hx=>kV hs hx) hqo;obtain⟨p1,p2⟩:=cu hs hvu o.dst;refine og (S:=fun w'=>(∀g o c,K.M g o=some c→w'.cell? ⟨g,o,none⟩=some c)∧(∀i,d=some i→∀g,K.mu i=some g→w'.heap[g]? = w.heap[g]?)) (v:=u) ho (Region.noSelect_spec hsel) (fun c a w=>hQp i o ho c a _ w) fuel H listed a w (Region.free_spec ho hfr) hr'
       (.inl ⟨hwant,fun w' hS=>hrun w' hS.1 hS.2⟩) ⟨W.agr,fun _ _ _ _=>rfl⟩ (fun p hp=>(hh p hp).1) ?_
      refine nH hcall htab hok hsel hQp r _ _ _ _ sl' h' fuel _ K w _ hv hfl he hR W p1 (fun p hp=>?_) (fun e2 K2 a2 w2 tm2 q0 q1 q2 q3=>hq e2 K2 a2 w2 tm2 q0 q1 (q2.trans p2) q3);rcases List.mem_cons.1 hp with rfl|hp
      ·refine⟨⟨W.agr,fun _ _ _ _=>rfl⟩,d,fun b hb=>?_,fun w' h1 h2=>⟨h1,h2⟩⟩
       subst hb;exact List.mem_cons_self ..
      ·obtain⟨h1,dep,h2,h3⟩:=hh p hp
       refine⟨h1,dep,fun b hb=>?_,h3⟩;cases d with
       |none=>exact h2 b hb
       |some b'=>exact List.mem_cons_of_mem _ (h2 b hb)
     ·cases he
    ·rename_i hw
     have hwant:=bU hs hw;simp only at he;obtain⟨p1,p2⟩:=cu hs (VR.undef K) o.dst;refine og (S:=fun _=>True) (v:=Go.undef) ho (Region.noSelect_spec hsel) (fun c a w=>hQp i o ho c a _ w) fuel H listed a w (Region.free_spec ho hfr) hr'
      (.inr ⟨hwant,rfl⟩) trivial (fun p hp=>(hh p hp).1) ?_
     refine nH hcall htab hok hsel hQp r _ _ _ _ sl' h' fuel _ K w _ hv hfl he hR W p1 (fun p hp=>?_) (fun e2 K2 a2 w2 tm2 q0 q1 q2 q3=>hq e2 K2 a2 w2 tm2 q0 q1 (q2.trans p2) q3);rcases List.mem_cons.1 hp with rfl|hp
     ·exact⟨trivial,none,(fun b hb=>by cases hb),fun _ _ _=>trivial⟩
     ·exact hh p hp
    ·cases he
   |false=>
    rw[wY,Bool.and_eq_true] at hv;obtain⟨hr,hv⟩:=hv;have hr':Region.ready .any ops listed=[i]:=by simpa using hr
    have hwo:∀k,eP ops .any i k=o.after.any fun e=>Region.binds .any e&&e.on==k:=fun k=>by unfold eP;rw[ho]
    refine⟨(fun h=>by rw[hr'] at h;cases h),fun j hj=>?_⟩;rw[hr'] at hj;have hji:j=i:=by simpa using hj
    subst hji;unfold wpOp;rw[ho];simp only;split at he
    ·rename_i hw
     rw[bU hs hw];simp only[if_true];simp only at he;split at he
     ·rename_i v h1 touch ha
      split at he
      rotate_left
      ·rename_i x hpx
       cases he;refine .inl (kN hcall htab hok ha hR W hs (fun K' w' u hpn _ _ _=>(by rw[hpx] at hpn;cases hpn)) (fun y K' w' u hpy hv hst=>?_));rw[hpx] at hpy;cases hpy;exact hq _ K' a w' _ ⟨hs.1,u,rfl,rfl⟩ (sG (hs.mono hst.ext) hv) rfl hst
      rename_i hpn0;split at he
      ·rename_i hall
       refine .inl (kN hcall htab hok ha hR W hs (fun K' w' u hpn hvu hst hfrm=>?_) (fun y K' w' u hpy _ _=>(by rw[hpn0] at hpy;cases hpy)));obtain⟨p1,p2⟩:=cu (hs.mono hst.ext) hvu o.dst;have hkeep:∀p∈H,eP ops .any j p.1=false→p.2 w'∧∃dep:Option Nat,(∀b,dep=some b→(p.1,b)∈holds)∧∀w'':World,(∀g o c,K'.M g o=some c→w''.cell? ⟨g,o,none⟩=some c)→(∀i,dep=some i→∀g,K'.mu i=some g→w''.heap[g]? = w'.heap[g]?)→p.2 w'':=by
        intro p hp hnw;obtain⟨h1',dep,h2,h3⟩:=hh p hp;have hblk:∀i,dep=some i→∀g,K.mu i=some g→w'.heap[g]? = w.heap[g]?:=by
         intro b hb g hg;have hm:=h2 b hb;rw[List.all_eq_true] at hall;have hoh:=hall _ hm;unfold JW at hoh;rw[Bool.or_eq_true] at hoh;rcases hoh with hoh|hoh
         ·rw[hwo] at hnw
          simp only at hoh;rw[hnw] at hoh;cases hoh
         ·rw[Bool.and_eq_true] at hoh
          obtain⟨ho1,ho2⟩:=hoh;refine hfrm.block g (W.lt b g hg) ?_;rintro⟨t,x,ht,hx,hlx,hmt⟩;obtain⟨y,hbx,hly⟩:∃y,h[b]? = some y∧y.live=true:=by
           unfold QD at ho2;split at ho2
           ·rename_i y hc;exact⟨y,hc,ho2⟩
           ·cases ho2
          have:=W.inj t b x y g hx hbx hlx hly hmt hg;subst this;simp[ht] at ho1
        refine⟨h3 w' (fun g o c hm=>hst.wr.agr g o c (hst.ext.M g o c hm)) hblk,dep,h2,fun w'' g1 g2=>h3 w'' (fun g o c hm=>g1 g o c (hst.ext.M g o c hm)) (fun i hi g hg=>?_)⟩;rw[g2 i hi g (hst.ext.mu i g hg)];exact hblk i hi g hg
       refine⟨fun p hp hnw=>(hkeep p hp hnw).1,?_⟩;refine nH hcall htab hok hsel hQp r _ _ _ _ sl' h' fuel _ K' w' _ hv hfl he (hst.ext.R.trans hR) hst.wr p1 (fun p hp=>?_) (fun e2 K2 a2 w2 tm2 q0 q1 q2 q3=>hq e2 K2 a2 w2 tm2 q0 q1 (q2.trans p2) (hst.trans q3));rw[List.mem_filter] at hp;have hnw:eP ops .any j p.1=false:=by simpa using hp.2
       obtain⟨k1,dep,k2,k3⟩:=hkeep p hp.1 hnw;refine⟨k1,dep,fun b hb=>?_,k3⟩;rw[List.mem_filter];exact⟨k2 b hb,by rw[hwo] at hnw;simp only;rw[hnw];rfl⟩
      ·cases he
     ·cases he
    ·rename_i hw
     rw[bU hs hw];simp only[Bool.false_eq_true,if_false];simp only at he;obtain⟨p1,p2⟩:=cu hs (VR.undef K) o.dst;refine⟨fun p hp _=>(hh p hp).1,?_⟩;refine nH hcall htab hok hsel hQp r _ _ _ _ sl' h' fuel _ K w _ hv hfl he hR W p1 (fun p hp=>?_) (fun e2 K2 a2 w2 tm2 q0 q1 q2 q3=>hq e2 K2 a2 w2 tm2 q0 q1 (q2.trans p2) q3);rw[List.mem_filter] at hp;have hnw:eP ops .any j p.1=false:=by simpa using hp.2
     obtain⟨k1,dep,k2,k3⟩:=hh p hp.1;refine⟨k1,dep,fun b hb=>?_,k3⟩;rw[List.mem_filter];exact⟨k2 b hb,by rw[hwo] at hnw;simp only;rw[hnw];rfl⟩
    ·cases he
theorem WO(hcall:bZ R P call)(htab:aY R P tab)(hok:∀f,okf f=true→callable P f=true)(hm:P.follows .mixedOrders=true)(hQp:∀(i:Nat) (oi:Oper),ops[i]? = some oi→∀c (a:Act) v w,Q (.panic c) (a.put oi.dst v) w→Q (.panic c) a w){n id:Nat}{rs:List Nat}{st:List (Nat×Bool)}(hst:Jr ops st=true)
  {sl:Env} {h:List ah} {ex:aN} {sl':Env} {h':List ah} (he:Cc P call okf tab n rs ops st [] sl h=some (ex,sl',h')) {K:Kn} {w:World} {a:Act} (hR:K.R=R) (W:WR K h w) (hs:aU K n sl a.tmps)
  (hq:∀e K' a' w' tm,tY n ex e a' tm→aU K' n sl' tm→a'.defers=a.defers→Step K h w K' h' w'→Q e a' w'):(Code.region id ops true).wp P Q a w:=by
 unfold Jr at hst;rw[Bool.and_eq_true,Bool.and_eq_true] at hst;obtain⟨⟨h1,h2⟩,h3⟩:=hst;refine wp_region_any hm (wW _ [] _ _ _ ?_);have hd:Step K h w K h w.drew:=⟨W.same rfl,Ext.refl K,⟨rfl,rfl,rfl,Nat.le_refl _,fun _ _ _=>rfl⟩,fun _ _=>⟨rfl,rfl⟩,fun _ _ _ _=>rfl,fun _ _ h=>.inl h,fun _ h _=>h,Nat.le_refl _⟩;exact nH hcall htab hok h1 hQp _ _ [] sl h sl' h' ops.size [] K w.drew a h3 (by simpa using h2) he hR hd.wr hs (fun p hp=>by cases hp) (fun e K' a' w' tm q0 q1 q2 q3=>hq e K' a' w' tm q0 q1 q2 (hd.trans q3))
end
end Go.Proofs.YtfphhabaeggenaaGreatDoor
