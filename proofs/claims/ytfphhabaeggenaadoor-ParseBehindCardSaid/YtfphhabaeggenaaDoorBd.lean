/- Joined texts. -/
import Derived.Test.YtfphhabaeggenaaDoorBb
import Derived.Tactics
set_option linter.all false
namespace Go.Proofs.YtfphhabaeggenaaDoor
open Go.RowKit
def panOf:AV→Option AV
 |.tup [.tup [],v]=>some v
 |_=>none
theorem panOf_some{v x:AV}(h:panOf v=some x):v=.tup [.tup [],x]:=by
 unfold panOf at h
 split at h
 ·cases h;rfl
 ·cases h
def EndR(K:Kn)(v:AV)(e:Ending):Prop:=match panOf v with
 |some x=>∃u,e=.panicked [{v:=u,recovered:=false }]∧VR K x u
 |none=>∃u,e=.returned u∧VR K v u
theorem EndR.ret{K:Kn}{v:AV}{e:Ending}(h:EndR K v e)(hn:panOf v=none):∃u,e=.returned u∧VR K v u:=by
 unfold EndR at h
 rw[hn] at h;exact h
theorem EndR.pan{K:Kn}{v x:AV}{e:Ending}(h:EndR K v e)(hn:panOf v=some x):∃u,e=.panicked [{v:=u,recovered:=false }]∧VR K x u:=by
 unfold EndR at h
 rw[hn] at h;exact h
theorem EndR.of{K:Kn}{v:AV}{u:Value}(hn:panOf v=none)(h:VR K v u):EndR K v (.returned u):=by
 unfold EndR
 rw[hn];exact⟨u,rfl,h⟩
theorem EndR.ofPan{K:Kn}{x:AV}{u:Value}(h:VR K x u):EndR K (.tup [.tup [],x]) (.panicked [{v:=u,recovered:=false }]):=⟨u,rfl,h⟩
theorem EndR.map{K K':Kn}{v v':AV}{e:Ending}(h:EndR K v e)(h1:∀x,panOf v=some x→∃x',panOf v'=some x'∧∀u,VR K x u→VR K' x' u)(h2:panOf v=none→panOf v'=none∧∀u,VR K v u→VR K' v' u):EndR K' v' e:=by
 cases hv:panOf v with
 |none=>
  obtain⟨u,rfl,hu⟩:=h.ret hv
  exact .of (h2 hv).1 ((h2 hv).2 u hu)
 |some x=>
  obtain⟨u,rfl,hu⟩:=h.pan hv
  obtain⟨x',hx',hh⟩:=h1 x hv
  rw[panOf_some hx']
  exact .ofPan (hh u hu)
theorem ren_pan{f:Nat→Option Nat}{v v':AV}(h:ren f v=some v'):(∀x,panOf v=some x→∃x',panOf v'=some x'∧ren f x=some x')∧(panOf v=none→panOf v'=none):=by
 refine⟨fun x hx=>?_,fun hn=>?_⟩
 ·rw[panOf_some hx,ren] at h
  obtain⟨l,hl,e⟩:=map_some' h
  subst e
  rw[renL,renL,renL,ren,renL] at hl
  simp only[Option.map_some] at hl
  cases hx':ren f x with
  |none=>rw[hx'] at hl;cases hl
  |some x'=>rw[hx'] at hl;cases hl;exact⟨x',rfl,rfl⟩
 ·cases hp:panOf v' with
  |none=>rfl
  |some y=>
   rw[panOf_some hp] at h
   exfalso
   cases v with
   |tup l=>
    rw[ren] at h
    obtain⟨l',hl,e⟩:=map_some' h
    cases e
    have h1:=renL_len hl
    match l,h1,hl,hn with
    |[a,b],_,hl,hn=>
     have ha:=renL_at hl 0 (by simp) (by simp)
     simp only[List.getElem_cons_zero] at ha
     cases a with
     |tup m=>
      rw[ren] at ha
      obtain⟨m',hm,e⟩:=map_some' ha
      cases e
      have h2:=renL_len hm
      cases m with
      |nil=>cases hn
      |cons _ _=>simp at h2
     |pv _=>cases ha
     |cptr _=>cases ha
     |trows _ _=>rw[ren] at ha;obtain⟨_,_,e⟩:=map_some' ha;cases e
     |tsym _ _=>rw[ren] at ha;obtain⟨_,_,e⟩:=map_some' ha;cases e
     |ptr _ _=>rw[ren] at ha;obtain⟨_,_,e⟩:=map_some' ha;cases e
     |agg _=>rw[ren] at ha;obtain⟨_,_,e⟩:=map_some' ha;cases e
     |fn _ _=>rw[ren] at ha;obtain⟨_,_,e⟩:=map_some' ha;cases e
     |sl _ _ _ _=>rw[ren] at ha;obtain⟨_,_,e⟩:=map_some' ha;cases e
     |ifc _ _=>rw[ren] at ha;obtain⟨_,_,e⟩:=map_some' ha;cases e
     |arr _=>rw[ren] at ha;obtain⟨_,_,e⟩:=map_some' ha;cases e
     |aptr _ _ _=>rw[ren] at ha;obtain⟨_,_,e⟩:=map_some' ha;cases e
   |pv _=>cases h
   |cptr _=>cases h
   |trows _ _=>rw[ren] at h;obtain⟨_,_,e⟩:=map_some' h;cases e
   |tsym _ _=>rw[ren] at h;obtain⟨_,_,e⟩:=map_some' h;cases e
   |ptr _ _=>rw[ren] at h;obtain⟨_,_,e⟩:=map_some' h;cases e
   |agg _=>rw[ren] at h;obtain⟨_,_,e⟩:=map_some' h;cases e
   |fn _ _=>rw[ren] at h;obtain⟨_,_,e⟩:=map_some' h;cases e
   |sl _ _ _ _=>rw[ren] at h;obtain⟨_,_,e⟩:=map_some' h;cases e
   |ifc _ _=>rw[ren] at h;obtain⟨_,_,e⟩:=map_some' h;cases e
   |arr _=>rw[ren] at h;obtain⟨_,_,e⟩:=map_some' h;cases e
   |aptr _ _ _=>rw[ren] at h;obtain⟨_,_,e⟩:=map_some' h;cases e
theorem EndR.ren{f:Nat→Option Nat}{K K':Kn}(R:Ren f K K'){v v':AV}{e:Ending}(h:EndR K v e)(hr:ren f v=some v'):EndR K' v' e:=by
 obtain⟨h1,h2⟩:=ren_pan hr
 refine h.map (fun x hx=>?_) (fun hn=>⟨h2 hn,fun u hu=>ren_sound R hu hr⟩)
 obtain⟨x',hx',hr'⟩:=h1 x hx
 exact⟨x',hx',fun u hu=>ren_sound R hu hr'⟩
def CallOk(R:Nat→PV)(P:Program)(f:Nat)(args:List AV)(h:List AObj)(v:AV)(h':List AObj):Prop:=
 ∀(K:Kn) (w:World) (us:List Value),K.R=R→WR K h w→VL K args us→Calls P f us.toArray w fun e w'=>∃K',EndR K' v e∧Step K h w K' h' w'
def CallsOk(R:Nat→PV)(P:Program)(call:Nat→List AV→List AObj→Option (AV×List AObj)):Prop:=∀f args h v h',call f args h=some (v,h')→CallOk R P f args h v h'
def callable(P:Program)(f:Nat):Bool:=match P.funcs[f]? with
 |some fn => fn.body.isSome && !(fn.name == "runtime.NumGoroutine")
 |none=>false
def callee(ρ:Operand→Option AV):Op→Option (Nat×List AV)
 |.call ⟨.value f,args,_⟩=>match ρ f,opsA ρ args.toList with
  |some (.fn g caps),some vs=>match Nat.blt g bndF with
   |true=>some (g,vs++caps)
   |false=>some (g-bndF,caps++vs)
  |_,_=>none
 |_=>none
mutual
def refs:AV→List Nat
 |.pv _=>[]
 |.trows t _=>[t]
 |.tsym t _=>[t]
 |.ptr i _=>[i]
 |.cptr _=>[]
 |.agg l=>refsL l
 |.tup l=>refsL l
 |.fn _ l=>refsL l
 |.sl t _ _ _=>[t]
 |.ifc _ v=>refs v
 |.arr t=>[t]
 |.aptr t _ _=>[t]
def refsL:List AV→List Nat
 |[]=>[]
 |a::l=>refs a++refsL l
end
def refsO:AObj→List Nat
 |.box _ cells=>refsL cells
 |_=>[]
def reach(h:List AObj):Nat→List Nat→List Nat→List Nat
 |0,_,done=>done
 |_+1,[],done=>done
 |n+1,i::todo,done=>if done.elem i then reach h n todo done else match h[i]? with
  |some x=>reach h n (refsO x++todo) (done++[i])
  |none=>done
def doCallAt(call:Nat→List AV→List AObj→Option (AV×List AObj))(f:Nat)(args:List AV)(h:List AObj)(ids:List Nat):Option (AV×List AObj×List Nat):=
 if nodupB ids then match subH h ids,renL (fun i=>posOf i ids) args with
  |some hs,some args'=>match call f args' hs with
   |some (v,hs')=>match ren (backF ids h.length) v,mergeH h ids hs' with
    |some v',some h'=>some (v',h',ids)
    |_,_=>none
   |none=>none
  |_,_=>none
 else none
def doCall(call:Nat→List AV→List AObj→Option (AV×List AObj))(f:Nat)(args:List AV)(h:List AObj):Option (AV×List AObj×List Nat):=
 match refsL args with
 |[]=>match call f args [] with
  |some (v,hs')=>match ren (backF [] h.length) v,mergeH h [] hs' with
   |some v',some h'=>some (v',h',[])
   |_,_=>none
  |none=>none
 |r=>doCallAt call f args h (reach h 1000 r [])
theorem doCall_spec{call:Nat→List AV→List AObj→Option (AV×List AObj)}{f:Nat}{args:List AV}{h:List AObj}{v:AV}{h':List AObj}{ids:List Nat}(hd:doCall call f args h=some (v,h',ids))
  (hrefs:refsL args=[]→renL (fun i=>posOf i []) args=some args) :
  ∃hs args' v0 hs',nodupB ids=true∧subH h ids=some hs∧renL (fun i=>posOf i ids) args=some args'∧call f args' hs=some (v0,hs')∧ren (backF ids h.length) v0=some v∧mergeH h ids hs'=some h':=by
 unfold doCall at hd
 split at hd
 ·rename_i hr
  split at hd
  ·rename_i v0 hs' hc
   split at hd
   ·rename_i v' h'' hv hm
    cases hd
    exact⟨[],args,v0,hs',rfl,rfl,hrefs hr,hc,hv,hm⟩
   ·cases hd
  ·cases hd
 ·unfold doCallAt at hd
  split at hd
  ·rename_i hn
   split at hd
   ·rename_i hs args' hs1 hr1
    split at hd
    ·rename_i v0 hs' hc
     split at hd
     ·rename_i v' h'' hv hm
      cases hd
      exact⟨hs,args',v0,hs',hn,hs1,hr1,hc,hv,hm⟩
     ·cases hd
    ·cases hd
   ·cases hd
  ·cases hd
mutual
theorem ren_none(f:Nat→Option Nat):∀a:AV,refs a=[]→ren f a=some a
 |.pv p,_=>rfl
 |.trows t es,h=>by simp[refs] at h
 |.tsym t i,h=>by simp[refs] at h
 |.ptr i o,h=>by simp[refs] at h
 |.cptr cs,_=>rfl
 |.agg l,h=>by rw[refs] at h;rw[ren,renL_none f l h];rfl
 |.tup l,h=>by rw[refs] at h;rw[ren,renL_none f l h];rfl
 |.fn g l,h=>by rw[refs] at h;rw[ren,renL_none f l h];rfl
 |.sl t a b c,h=>by simp[refs] at h
 |.ifc t v,h=>by rw[refs] at h;rw[ren,ren_none f v h];rfl
 |.arr t,h=>by simp[refs] at h
 |.aptr t _ _,h=>by simp[refs] at h
theorem renL_none(f:Nat→Option Nat):∀l:List AV,refsL l=[]→renL f l=some l
 |[],_=>rfl
 |a::l,h=>by
  rw[refsL,List.append_eq_nil_iff] at h
  rw[renL,ren_none f a h.1,renL_none f l h.2]
end
def qMove(ρ:Operand→Option AV)(x:Operand):Option (AV×Option Nat):=match ρ x with
 |some v=>some (v,none)
 |none=>none
def qPick(ρ:Operand→Option AV)(c a b:Operand):Option (AV×Option Nat):=match ρ c with
 |some (.pv (.lit (.bool t)))=>(if t then ρ a else ρ b).map fun v=>(v,none)
 |_=>none
def qNil(ρ:Operand→Option AV)(x:Operand):Option (AV×Option Nat):=match ρ x with
 |some v=>if v.isThere then some (v,none) else none
 |none=>none
def qLoad(P:Program)(ρ:Operand→Option AV)(h:List AObj)(t:TypeId)(x:Operand):Option (AV×Option Nat):=match ρ x with
 |some a=>match cellsAt h a with
  |some (l,d)=>(loadA P t l).map fun v=>(v,d)
  |none=>none
 |none=>none
def qFA(P:Program)(ρ:Operand→Option AV)(s:TypeId)(x:Operand)(f:Nat):Option (AV×Option Nat):=match ρ x,fieldA P s f with
 |some a,some fl=>match szA P fl.type with
  |some (_+1)=>(addA a fl.offset).map fun v=>(v,none)
  |_=>none
 |_,_=>none
def qField(P:Program)(ρ:Operand→Option AV)(s:TypeId)(x:Operand)(f:Nat):Option (AV×Option Nat):=match ρ x,fieldA P s f with
 |some (.agg l),some fl=>(partA P fl.type l fl.offset).map fun v=>(v,none)
 |_,_=>none
def qIA(P:Program)(ρ:Operand→Option AV)(t:TypeId)(x i:Operand):Option (AV×Option Nat):=match ρ x,ρ i with
 |some a,some v=>match intV v with
  |some n=>(indexAtA P t a n).map fun v=>(v,none)
  |none=>none
 |_,_=>none
def qIndex(P:Program)(ρ:Operand→Option AV)(t:TypeId)(x i:Operand):Option (AV×Option Nat):=match ρ x,ρ i with
 |some a,some v=>(indexA P t a v).map fun v=>(v,none)
 |_,_=>none
def qExtract(ρ:Operand→Option AV)(x:Operand)(i:Nat):Option (AV×Option Nat):=match ρ x with
 |some (.tup l)=>l[i]?.map fun v=>(v,none)
 |_=>none
def qBin(P:Program)(ρ:Operand→Option AV)(b:BinOp)(t:TypeId)(x y:Operand):Option (AV×Option Nat):=match ρ x,ρ y with
 |some u,some v=>(binA P b t x y u v).map fun v=>(v,none)
 |_,_=>none
def qUn(P:Program)(ρ:Operand→Option AV)(u:UnOp)(x:Operand):Option (AV×Option Nat):=match ρ x with
 |some v=>match v.val? with
  |some a=>match pureRun P (Op.unary u a) with
   |some r=>(ofVal r).map fun v=>(v,none)
   |none=>none
  |none=>none
 |none=>none
def qConv(P:Program)(ρ:Operand→Option AV)(s d:TypeId)(x:Operand):Option (AV×Option Nat):=match ρ x with
 |some v=>(convA P s d v).map fun v=>(v,none)
 |none=>none
def qSlice(P:Program)(ρ:Operand→Option AV)(t:TypeId)(x:Operand)(lo hi mx:Option Operand):Option (AV×Option Nat):=match ρ x with
 |some a=>(sliceA P t ρ a lo hi mx).map fun v=>(v,none)
 |none=>none
def qMk(ρ:Operand→Option AV)(fn:Fn)(first caps:Array Operand):Option (AV×Option Nat):=match fn with
 |.func f=>if first.isEmpty then match opsA ρ caps.toList with
   |some l=>match Nat.blt f bndF with
    |true=>some (.fn f l,none)
    |false=>none
   |none=>none
  else match opsA ρ first.toList,opsA ρ caps.toList with
   |some l,some []=>some (.fn (f+bndF) l,none)
   |some _,some _=>some (.pv .any,none)
   |_,_=>none
 |_=>none
def qBuild(P:Program)(ρ:Operand→Option AV)(t:TypeId)(parts:Array (Nat×Operand)):Option (AV×Option Nat):=match partsA ρ parts.toList with
 |some ps=>(buildA P t ps).map fun l=>(.agg l,none)
 |none=>none
def qCall(P:Program)(ty:TypeId)(ρ:Operand→Option AV)(c:Call):Option (AV×Option Nat):=match c with
 |⟨.builtin b,args,ts⟩=>match opsA ρ args.toList with
  |some vs=>(builtinA P b ts ty vs).map fun v=>(v,none)
  |none=>none
 |_=>none
def qopF(P:Program)(op:Op)(ty:TypeId)(ρ:Operand→Option AV)(h:List AObj):Option (AV×Option Nat):=match op with
 |.move x=>qMove ρ x
 |.assign x=>qMove ρ x
 |.pick c a b=>qPick ρ c a b
 |.nilCheck x=>qNil ρ x
 |.load t x=>qLoad P ρ h t x
 |.fieldAddr s x f=>qFA P ρ s x f
 |.field s x f=>qField P ρ s x f
 |.indexAddr t x i=>qIA P ρ t x i
 |.index t x i=>qIndex P ρ t x i
 |.extract x i=>qExtract ρ x i
 |.binOp b t x y _=>qBin P ρ b t x y
 |.unOp u _ x=>qUn P ρ u x
 |.convert s d x=>qConv P ρ s d x
 |.slice t x lo hi mx=>qSlice P ρ t x lo hi mx
 |.makeFunc fn first caps=>qMk ρ fn first caps
 |.build t parts=>qBuild P ρ t parts
 |.call c=>qCall P ty ρ c
 |_=>none
theorem qopF_eq(P:Program)(op:Op)(ty:TypeId)(ρ:Operand→Option AV)(h:List AObj):qopF P op ty ρ h=qop P op ty ρ h:=by
 cases op with
 |move x=>show qMove ρ x=(ρ x).map _;unfold qMove;cases ρ x<;>rfl
 |assign x=>show qMove ρ x=(ρ x).map _;unfold qMove;cases ρ x<;>rfl
 |makeFunc fn first caps=>cases fn<;>rfl
 |call c=>
  obtain⟨f,args,ts⟩:=c
  cases f<;>rfl
 |_=>rfl
def eBox(ρ:Operand→Option AV)(h:List AObj)(t:TypeId)(x:Operand):Option (AV×List AObj×List Nat):=match ρ x with
 |some v=>some (.ptr h.length 0,h++[.box t v.cells],[])
 |none=>none
def eAlloc(P:Program)(h:List AObj)(t:TypeId):Option (AV×List AObj×List Nat):=match zeroA P t with
 |some l=>some (.ptr h.length 0,h++[.box t l],[])
 |none=>none
def eBsl(P:Program)(ρ:Operand→Option AV)(h:List AObj)(t:TypeId)(len:Nat)(parts:Array (Nat×Operand)):Option (AV×List AObj×List Nat):=match partsA ρ parts.toList with
 |some ps=>match bslA P t len ps with
  |some (e,s,pvs)=>some (.trows h.length (chunk s len pvs),h++[.tok e s len],[])
  |none=>none
 |none=>none
def eStore(P:Program)(ρ:Operand→Option AV)(h:List AObj)(t:TypeId)(x y:Operand):Option (AV×List AObj×List Nat):=match ρ x,ρ y with
 |some (.ptr i o),some v=>match h[i]? with
  |some (.box bt cells)=>if szA P t=some v.cells.length∧o+v.cells.length≤cells.length∧v.cells.all AV.isCell=true then some (.tup [],h.set i (.box bt (setAt cells o v.cells)),[i]) else none
  |_=>none
 |_,_=>none
def eCall(P:Program)(ρ:Operand→Option AV)(h:List AObj)(c:Call):Option (AV×List AObj×List Nat):=match c with
 |⟨.builtin .append,args,ts⟩=>match opsA ρ args.toList,ts.toList with
  |some [s,x],[t,t']=>if t=t' then match rowsOf x with
    |some es'=>appendA P t s es' h
    |none=>if isNilSlice x then appendA P t s [] h else none
   else none
  |_,_=>none
 |_=>none
def eopF(P:Program)(op:Op)(ρ:Operand→Option AV)(h:List AObj):Option (AV×List AObj×List Nat):=match op with
 |.alloc t=>eAlloc P h t
 |.box t x=>eBox ρ h t x
 |.buildSlice t len parts=>eBsl P ρ h t len parts
 |.store t x y=>eStore P ρ h t x y
 |.call c=>eCall P ρ h c
 |_=>none
theorem eopF_eq(P:Program)(op:Op)(ρ:Operand→Option AV)(h:List AObj):eopF P op ρ h=eop P op ρ h:=by
 cases op with
 |call c=>
  obtain⟨f,args,ts⟩:=c
  cases f with
  |builtin b=>cases b<;>rfl
  |_=>rfl
 |_=>rfl
theorem openPs_eq(R:Nat→PV):∀l,openPs R l=l.map (openPV R)
 |[]=>by rw[openPs];rfl
 |p::l=>by rw[openPs,openPs_eq R l];rfl
theorem openPss_eq(R:Nat→PV):∀es,openPss R es=es.map (openPs R)
 |[]=>by rw[openPss];rfl
 |l::es=>by rw[openPss,openPss_eq R es];rfl
mutual
def openAV(R:Nat→PV):AV→AV
 |.pv p=>.pv (openPV R p)
 |.trows t es=>.trows t (openPss R es)
 |.tsym t i=>match R i with
  |.rows es=>.trows t es
  |_=>.tsym t i
 |.ptr i o=>.ptr i o
 |.cptr cs=>.cptr (openPs R cs)
 |.agg l=>.agg (openAVs R l)
 |.tup l=>.tup (openAVs R l)
 |.fn f l=>.fn f (openAVs R l)
 |.sl t lo len sz=>.sl t lo len sz
 |.ifc t v=>.ifc t (openAV R v)
 |.arr t=>.arr t
 |.aptr t i o=>.aptr t (openPV R i) o
def openAVs(R:Nat→PV):List AV→List AV
 |[]=>[]
 |a::l=>openAV R a::openAVs R l
end
theorem openAVs_eq(R:Nat→PV):∀l,openAVs R l=l.map (openAV R)
 |[]=>by rw[openAVs];rfl
 |p::l=>by rw[openAVs,openAVs_eq R l];rfl
theorem PR.opened{R:Nat→PV}{M:Nat→Nat→Option Value}{p:PV}{v:Value}(h:PR R M p v):PR R M (openPV R p) v:=by
 induction h with
 |sym i v h _=>rw[openPV];exact h
 |lit v h=>rw[openPV];exact .lit v h
 |rows es a cap g off sz us ha hn hsz hc hr ih=>
  rw[openPV,openPss_eq]
  have:=PR.rows (R:=R) (M:=M) (es.map (openPs R)) a cap g off sz us (fun hne=>ha (fun e=>hne (by rw[e];rfl))) (by simpa using hn)
   (fun i hi=>by simp only[List.getElem_map,openPs_eq,List.length_map];exact hsz i (by simpa using hi)) (fun i hi j hj=>hc i (by simpa using hi) j hj)
   (fun i hi j hj=>by
    simp only[List.getElem_map,openPs_eq]
    exact ih i (by simpa using hi) j (by simpa[openPs_eq] using hj))
  rwa [List.length_map] at this
 |opq ne lo hi s hne hlo hhi=>rw[openPV];exact .opq ne lo hi s hne hlo hhi
 |rng lo hi n hlo hhi=>rw[openPV];exact .rng lo hi n hlo hhi
 |any v h=>rw[openPV];exact .any v h
mutual
theorem PR.closed{R:Nat→PV}{M:Nat→Nat→Option Value}:∀{p:PV} {v:Value},PR R M (openPV R p) v→PR R M p v
 |.sym i,v,h=>by rw[openPV] at h;exact .sym i v h
 |.lit u,v,h=>by rw[openPV] at h;exact h
 |.opq ne lo hi,v,h=>by rw[openPV] at h;exact h
 |.rng lo hi,v,h=>by rw[openPV] at h;exact h
 |.any,v,h=>by rw[openPV] at h;exact h
 |.rows es,v,h=>by
  rw[openPV,openPss_eq] at h
  have hm:=PR.closedss (R:=R) (M:=M) es
  cases h with
  |rows _ a cap g off sz us ha hn hsz hc hr=>
   simp only[List.length_map] at hn hsz hc hr ⊢
   refine .rows es a cap g off sz us (fun hne=>ha (fun e=>hne (List.map_eq_nil_iff.1 e))) hn (fun i hi=>?_) hc (fun i hi j hj=>?_)
   ·have:=hsz i hi;simpa[openPs_eq] using this
   ·have:=hr i hi j (by simpa[openPs_eq] using hj)
    simp only[List.getElem_map,openPs_eq] at this
    exact hm _ (List.getElem_mem hi) _ (List.getElem_mem hj) _ this
theorem PR.closeds{R:Nat→PV}{M:Nat→Nat→Option Value}:∀(l:List PV),∀p∈l,∀v,PR R M (openPV R p) v→PR R M p v
 |[],p,hp,_,_=>by cases hp
 |q::l,p,hp,v,h=>by
  have h1:=@PR.closed R M q
  have h2:=PR.closeds (R:=R) (M:=M) l
  rcases List.mem_cons.1 hp with rfl|hp
  ·exact h1 h
  ·exact h2 p hp v h
theorem PR.closedss{R:Nat→PV}{M:Nat→Nat→Option Value}:∀(es:List (List PV)),∀l∈es,∀p∈l,∀v,PR R M (openPV R p) v→PR R M p v
 |[],l,hl,_,_,_,_=>by cases hl
 |q::es,l,hl,p,hp,v,h=>by
  have h1:=PR.closeds (R:=R) (M:=M) q
  have h2:=PR.closedss (R:=R) (M:=M) es
  rcases List.mem_cons.1 hl with rfl|hl
  ·exact h1 p hp v h
  ·exact h2 l hl p hp v h
end
theorem VR.opened{R:Nat→PV}{K:Kn}(hR:K.R=R){a:AV}{v:Value}(h:VR K a v):VR K (openAV R a) v:=by
 subst hR
 induction h with
 |pv h=>rw[openAV];exact .pv h.opened
 |tsym t i es hi h _=>
  rw[openAV,hi];exact h
 |cptr cs g o us hc hr=>
  rw[openAV,openPs_eq]
  exact .cptr _ g o us (by simpa using hc) (fun j hj=>by simpa using(hr j (by simpa using hj)).opened)
 |trows t es g us hm hn hsz hc hr=>
  rw[openAV,openPss_eq]
  have:=VR.trows (K:=K) t (es.map (openPs K.R)) g us hm (by simpa using hn)
   (fun i hi=>by simp only[List.getElem_map,openPs_eq,List.length_map];exact hsz i (by simpa using hi)) (fun i hi j hj=>hc i (by simpa using hi) j hj)
   (fun i hi j hj=>by
    simp only[List.getElem_map,openPs_eq]
    exact(hr i (by simpa using hi) j (by simpa[openPs_eq] using hj)).opened)
  rwa [List.length_map] at this
 |ptr i o g hm=>rw[openAV];exact .ptr i o g hm
 |agg l cs hl _ ih=>rw[openAV,openAVs_eq];exact .agg _ cs (by simpa using hl) (fun i hi hi'=>by simpa using ih i (by simpa using hi) hi')
 |tup l cs hl _ ih=>rw[openAV,openAVs_eq];exact .tup _ cs (by simpa using hl) (fun i hi hi'=>by simpa using ih i (by simpa using hi) hi')
 |fn f l cs hl _ hb ih=>rw[openAV,openAVs_eq];exact .fn f _ cs (by simpa using hl) (fun i hi hi'=>by simpa using ih i (by simpa using hi) hi') hb
 |bfn f g l cs hl _ hg ih=>rw[openAV,openAVs_eq];exact .bfn f g _ cs (by simpa using hl) (fun i hi hi'=>by simpa using ih i (by simpa using hi) hi') hg
 |sl t lo len sz g cap off a b c d f=>rw[openAV];exact .sl t lo len sz g cap off a b c d f
 |ifc t _ ih=>rw[openAV];exact .ifc t ih
 |arr t g c a b d=>rw[openAV];exact .arr t g c a b d
 |aptr t i o g k kd a b c=>rw[openAV];exact .aptr t _ o g k kd a b.opened c
theorem VR.trowsClosed{K:Kn}{t:Nat}{es:List (List PV)}{v:Value}(h:VR K (.trows t (openPss K.R es)) v):VR K (.trows t es) v:=by
 rw[openPss_eq] at h
 cases h with
 |trows _ _ g us hm hn hsz hc hr=>
  simp only[List.length_map] at hn hsz hc hr ⊢
  refine .trows t es g us hm hn (fun i hi=>?_) hc (fun i hi j hj=>?_)
  ·have:=hsz i hi;simpa[openPs_eq] using this
  ·have:=hr i hi j (by simpa[openPs_eq] using hj)
   simp only[List.getElem_map,openPs_eq] at this
   exact this.closed
mutual
theorem VR.closedK{K:Kn}:∀{a:AV} {v:Value},VR K (openAV K.R a) v→VR K a v
 |.pv p,v,h=>by rw[openAV] at h;cases h with|pv h=>exact .pv h.closed
 |.tsym t i,v,h=>by
  rw[openAV] at h
  split at h
  ·rename_i es hi;exact .tsym t i es hi h
  ·exact h
 |.trows t es,v,h=>by rw[openAV] at h;exact h.trowsClosed
 |.ptr i o,v,h=>by rw[openAV] at h;exact h
 |.cptr cs,v,h=>by
  rw[openAV,openPs_eq] at h
  cases h with|cptr _ g o us hc hr=>exact .cptr cs g o us (by simpa using hc) (fun j hj=>by have:=hr j (by simpa using hj);simp only[List.getElem_map] at this;exact this.closed)
 |.agg l,v,h=>by
  rw[openAV,openAVs_eq] at h
  have hm:=VR.closedKs (K:=K) l
  cases h with|agg _ cs hl hh=>exact .agg l cs (by simpa using hl) (fun i hi hi'=>hm _ (List.getElem_mem hi) _ (by have:=hh i (by simpa using hi) hi';rw[List.getElem_map] at this;exact this))
 |.tup l,v,h=>by
  rw[openAV,openAVs_eq] at h
  have hm:=VR.closedKs (K:=K) l
  cases h with|tup _ cs hl hh=>exact .tup l cs (by simpa using hl) (fun i hi hi'=>hm _ (List.getElem_mem hi) _ (by have:=hh i (by simpa using hi) hi';rw[List.getElem_map] at this;exact this))
 |.fn f l,v,h=>by
  rw[openAV,openAVs_eq] at h
  have hm:=VR.closedKs (K:=K) l
  cases h with
  |fn _ _ cs hl hh hb=>exact .fn f l cs (by simpa using hl) (fun i hi hi'=>hm _ (List.getElem_mem hi) _ (by have:=hh i (by simpa using hi) hi';rw[List.getElem_map] at this;exact this)) hb
  |bfn f' _ _ cs hl hh hg=>exact .bfn f' f l cs (by simpa using hl) (fun i hi hi'=>hm _ (List.getElem_mem hi) _ (by have:=hh i (by simpa using hi) hi';rw[List.getElem_map] at this;exact this)) hg
 |.sl t lo len sz,v,h=>by rw[openAV] at h;exact h
 |.ifc t x,v,h=>by rw[openAV] at h;cases h with|ifc _ h=>exact .ifc t (VR.closedK h)
 |.arr t,v,h=>by rw[openAV] at h;exact h
 |.aptr t i o,v,h=>by rw[openAV] at h;cases h with|aptr _ _ _ g k kd a b c=>exact .aptr t i o g k kd a b.closed c
theorem VR.closedKs{K:Kn}:∀(l:List AV),∀a∈l,∀v,VR K (openAV K.R a) v→VR K a v
 |[],a,ha,_,_=>by cases ha
 |b::l,a,ha,v,h=>by
  have h1:=@VR.closedK K b
  have h2:=VR.closedKs (K:=K) l
  rcases List.mem_cons.1 ha with rfl|ha
  ·exact h1 h
  ·exact h2 a ha v h
end
theorem VR.closed{R:Nat→PV}{K:Kn}(hR:K.R=R){a:AV}{v:Value}(h:VR K (openAV R a) v):VR K a v:=by
 subst hR
 exact h.closedK
inductive SF where
 |bin (b:BinOp) (t:TypeId) (u v r:AV)
 |len (t:TypeId) (u r:AV)
 |idx (t:TypeId) (u i r:AV)
 |ind (t:TypeId) (u i r:AV)
 |slc (t:TypeId) (u:AV) (lo hi:Option AV) (r:AV)
 |conv (s d:TypeId) (u r:AV)
 |un (o:UnOp) (u r:AV)
 |app (t:TypeId) (s x:AV) (j:Nat)
 |app0 (t:TypeId) (s x:AV)
 |names
 |mx (mn:Bool) (u v r:AV)
 |set (p i:PV) (o:Nat) (c:List PV) (j:Nat)
 |mk (t:TypeId) (n:AV) (j:Nat)
 |apq (t:TypeId) (s x:AV) (j:Nat)
def eqV:Value→Value→Bool
 |.int k n,.int k' n'=>decide (k=k')&&decide (n=n')
 |.bool a,.bool b=>a==b
 |.string x,.string y=>eqS x y
 |.slice none 0 0,.slice none 0 0=>true
 |_,_=>false
mutual
def eqP:PV→PV→Bool
 |.sym i,.sym j=>Nat.beq i j
 |.lit v,.lit v'=>eqV v v'
 |.rows es,.rows es'=>eqPss es es'
 |_,_=>false
def eqPs:List PV→List PV→Bool
 |[],[]=>true
 |p::l,q::r=>eqP p q&&eqPs l r
 |_,_=>false
def eqPss:List (List PV)→List (List PV)→Bool
 |[],[]=>true
 |p::l,q::r=>eqPs p q&&eqPss l r
 |_,_=>false
end
def eqA:AV→AV→Bool
 |.pv p,.pv q=>eqP p q
 |.cptr cs,.cptr cs'=>eqPs cs cs'
 |_,_=>false
theorem eqS_eq'{x y:ByteArray}(h:eqS x y=true):x=y:=by
 have:=(eqL_iff _ _).1 h
 cases x;cases y
 congr 1
 exact Array.ext' this
theorem eqV_eq{a b:Value}(h:eqV a b=true):a=b:=by
 unfold eqV at h
 split at h
 ·simp only[Bool.and_eq_true,decide_eq_true_eq] at h;obtain⟨rfl,rfl⟩:=h;rfl
 ·rw[eq_of_beq h]
 ·rw[eqS_eq' h]
 ·rfl
 ·cases h
mutual
theorem eqP_eq:∀{a b:PV},eqP a b=true→a=b
 |.sym i,b,h=>by cases b with|sym j=>rw[eqP] at h;rw[Nat.eq_of_beq_eq_true h]|_=>simp[eqP] at h
 |.lit v,b,h=>by cases b with|lit v'=>rw[eqP] at h;rw[eqV_eq h]|_=>simp[eqP] at h
 |.rows es,b,h=>by cases b with|rows es'=>rw[eqP] at h;rw[eqPss_eq h]|_=>simp[eqP] at h
 |.opq ..,b,h=>by cases b<;>simp[eqP] at h
 |.rng ..,b,h=>by cases b<;>simp[eqP] at h
 |.any,b,h=>by cases b<;>simp[eqP] at h
theorem eqPs_eq:∀{a b:List PV},eqPs a b=true→a=b
 |[],[],_=>rfl
 |p::l,q::r,h=>by
  rw[eqPs,Bool.and_eq_true] at h
  rw[eqP_eq h.1,eqPs_eq h.2]
 |[],_::_,h=>by simp[eqPs] at h
 |_::_,[],h=>by simp[eqPs] at h
theorem eqPss_eq:∀{a b:List (List PV)},eqPss a b=true→a=b
 |[],[],_=>rfl
 |p::l,q::r,h=>by
  rw[eqPss,Bool.and_eq_true] at h
  rw[eqPs_eq h.1,eqPss_eq h.2]
 |[],_::_,h=>by simp[eqPss] at h
 |_::_,[],h=>by simp[eqPss] at h
end
theorem eqA_eq{a b:AV}(h:eqA a b=true):a=b:=by
 unfold eqA at h
 split at h
 ·rw[eqP_eq h]
 ·rw[eqPs_eq h]
 ·cases h
def nrm(a:AV):AV:=match a.toPV with
 |some p=>.pv p
 |none=>a
theorem VR.nrm{K:Kn}{a:AV}{v:Value}(h:VR K a v):VR K (nrm a) v:=by
 unfold YtfphhabaeggenaaDoor.nrm
 split
 ·rename_i p hp;exact .pv (h.toPV hp)
 ·exact h
def eqO:Option AV→Option AV→Bool
 |none,none=>true
 |some a,some b=>eqA a b
 |_,_=>false
theorem eqO_eq{a b:Option AV}(h:eqO a b=true):a=b:=by
 unfold eqO at h
 split at h
 ·rfl
 ·rw[eqA_eq h]
 ·cases h
def MatchO(ρ:Operand→Option AV):Option Operand→Option AV→Prop
 |none,none=>True
 |some x,some a=>ρ x=some a
 |_,_=>False
def rowsN(a:AV):Option (List (List PV)):=if isNilSlice a then some [] else rowsOf a
def SetOk(p i:PV)(o:Nat)(c:List PV)(q:PV):Prop:=∃es n kd,p=.rows es∧i=.lit (.int kd n)∧0≤n∧n.toNat<es.length∧o+c.length≤(es.getD n.toNat []).length∧q=.rows (es.set n.toNat (setAt (es.getD n.toNat []) o c))∧nsP q=true
def MkOk(P:Program)(t:TypeId)(n:AV)(q:PV):Prop:=∃e sz by_ zc z k,P.underlying t=some (.slice e)∧szA P e=some sz∧bytesA P e=some by_∧zeroA P e=some zc∧toPVs zc=some z∧0<sz∧zc.length=sz∧
 intV n=some ((k:Nat):Int)∧k≤1000000000000∧k*by_≤140737488355328∧q=.rows (List.replicate k z)∧nsP q=true
def AppOkR(P:Program)(t:TypeId)(s x:AV)(q:PV):Prop:=∃e sz by_ zc es es',P.underlying t=some (.slice e)∧szA P e=some sz∧bytesA P e=some by_∧zeroA P e=some zc∧0<sz∧zc.length=sz∧
   rowsN s=some es∧rowsOf x=some es'∧es'≠[]∧(∀c∈es',c.length=sz)∧es.length+es'.length≤1000000000000∧(es.length+es'.length)*by_≤140737488355328∧q=.rows (es++es')
def SF.ok(R:Nat→PV)(P:Program):SF→Prop
 |.bin b t u v r=>∀x y,binA P b t x y (openAV R u) (openAV R v)=some (openAV R r)
 |.len t u r=>∀ty,builtinA P .len #[t] ty [openAV R u]=some (openAV R r)
 |.idx t u i r=>∃n,intV (openAV R i)=some n∧indexAtA P t (openAV R u) n=some (openAV R r)
 |.ind t u i r=>indexA P t (openAV R u) (openAV R i)=some (openAV R r)
 |.slc t u lo hi r=>∀(ρ:Operand→Option AV) (l m:Option Operand),MatchO ρ l (lo.map (openAV R))→MatchO ρ m (hi.map (openAV R))→sliceA P t ρ (openAV R u) l m none=some (openAV R r)
 |.conv s d u r=>convA P s d (openAV R u)=some (openAV R r)
 |.un o u r=>∃a c,(openAV R u).val? = some a∧pureRun P (Op.unary o a)=some c∧ofVal c=some (openAV R r)
 |.app t s x j=>∃e sz by_ zc es es',P.underlying t=some (.slice e)∧szA P e=some sz∧bytesA P e=some by_∧zeroA P e=some zc∧0<sz∧zc.length=sz∧
   rowsN (openAV R s)=some es∧rowsOf (openAV R x)=some es'∧(isNilSlice (openAV R s)=true→es'≠[])∧(∀c∈es',c.length=sz)∧es.length+es'.length≤1000000000000∧(es.length+es'.length)*by_≤140737488355328∧R j=.rows (es++es')
 |.app0 t s x=>∃e sz by_ zc,P.underlying t=some (.slice e)∧szA P e=some sz∧bytesA P e=some by_∧zeroA P e=some zc∧(rowsN (openAV R s)).isSome=true∧rowsN (openAV R x)=some []
 |.names=>True
 |.set p i o c j=>SetOk (openPV R p) (openPV R i) o (openPs R c) (R j)
 |.mk t n j=>MkOk P t (openAV R n) (R j)
 |.apq t s x j=>AppOkR P t (openAV R s) (openAV R x) (R j)∧nsP (R j)=true
 |.mx mn u v r=>∀ts ty,builtinA P (if mn then .min else .max) ts ty [openAV R u,openAV R v]=some (openAV R r)
def TabOk(R:Nat→PV)(P:Program)(tab:List SF):Prop:=∀f∈tab,f.ok R P
theorem TabOk.nil(R:Nat→PV)(P:Program):TabOk R P []:=fun f hf=>by cases hf
def eqAs:List AV→List AV→Bool
 |[],[]=>true
 |a::l,b::r=>eqA a b&&eqAs l r
 |_,_=>false
theorem eqAs_eq:∀{a b:List AV},eqAs a b=true→a=b
 |[],[],_=>rfl
 |a::l,b::r,h=>by rw[eqAs,Bool.and_eq_true] at h;rw[eqA_eq h.1,eqAs_eq h.2]
 |[],_::_,h=>by cases h
 |_::_,[],h=>by cases h
def eqK:AV→AV→Bool
 |.agg l,.agg l'=>eqAs l l'
 |a,b=>eqA a b
theorem eqK_eq{a b:AV}(h:eqK a b=true):a=b:=by
 unfold eqK at h
 split at h
 ·rw[eqAs_eq h]
 ·exact eqA_eq h
def lkBin(b:BinOp)(t:TypeId)(u:AV)(v:AV):List SF→Option AV
 |[]=>none
 |.bin b' t' u' v' r::l=>if decide (b=b')&&decide (t=t')&&eqK u u'&&eqK v v' then some r else lkBin b t u v l
 |_::l=>lkBin b t u v l
theorem lkBin_ok{R:Nat→PV}{P:Program}{b:BinOp}{t:TypeId}{u:AV}{v:AV}{r:AV}:∀{tab:List SF},TabOk R P tab→lkBin b t u v tab=some r→(SF.bin b t u v r).ok R P
 |[],_,h=>by cases h
 |f::l,ht,h=>by
  unfold lkBin at h
  split at h
  ·cases h
  ·rename_i heq
   cases heq
   split at h
   ·rename_i hc
    cases h
    simp only[Bool.and_eq_true] at hc
    obtain⟨⟨⟨e0,e1⟩,e2⟩,e3⟩:=hc
    have e0:=of_decide_eq_true e0
    have e1:=of_decide_eq_true e1
    have e2:=eqK_eq e2
    have e3:=eqK_eq e3
    subst e0
    subst e1
    subst e2
    subst e3
    exact ht _ (List.mem_cons_self ..)
   ·exact lkBin_ok (fun g hg=>ht g (List.mem_cons_of_mem _ hg)) h
  ·rename_i heq
   cases heq
   exact lkBin_ok (fun g hg=>ht g (List.mem_cons_of_mem _ hg)) h
def lkLen(t:TypeId)(u:AV):List SF→Option AV
 |[]=>none
 |.len t' u' r::l=>if decide (t=t')&&eqA u u' then some r else lkLen t u l
 |_::l=>lkLen t u l
theorem lkLen_ok{R:Nat→PV}{P:Program}{t:TypeId}{u:AV}{r:AV}:∀{tab:List SF},TabOk R P tab→lkLen t u tab=some r→(SF.len t u r).ok R P
 |[],_,h=>by cases h
 |f::l,ht,h=>by
  unfold lkLen at h
  split at h
  ·cases h
  ·rename_i heq
   cases heq
   split at h
   ·rename_i hc
    cases h
    simp only[Bool.and_eq_true] at hc
    obtain⟨e0,e1⟩:=hc
    have e0:=of_decide_eq_true e0
    have e1:=eqA_eq e1
    subst e0
    subst e1
    exact ht _ (List.mem_cons_self ..)
   ·exact lkLen_ok (fun g hg=>ht g (List.mem_cons_of_mem _ hg)) h
  ·rename_i heq
   cases heq
   exact lkLen_ok (fun g hg=>ht g (List.mem_cons_of_mem _ hg)) h
def lkMx(mn:Bool)(u v:AV):List SF→Option AV
 |[]=>none
 |.mx mn' u' v' r::l=>if decide (mn=mn')&&eqA u u'&&eqA v v' then some r else lkMx mn u v l
 |_::l=>lkMx mn u v l
theorem lkMx_ok{R:Nat→PV}{P:Program}{mn:Bool}{u v:AV}{r:AV}:∀{tab:List SF},TabOk R P tab→lkMx mn u v tab=some r→(SF.mx mn u v r).ok R P
 |[],_,h=>by cases h
 |f::l,ht,h=>by
  unfold lkMx at h
  split at h
  ·cases h
  ·rename_i heq
   cases heq
   split at h
   ·rename_i hc
    cases h
    simp only[Bool.and_eq_true] at hc
    obtain⟨⟨e0,e1⟩,e2⟩:=hc
    have e0:=of_decide_eq_true e0
    have e1:=eqA_eq e1
    have e2:=eqA_eq e2
    subst e0
    subst e1
    subst e2
    exact ht _ (List.mem_cons_self ..)
   ·exact lkMx_ok (fun g hg=>ht g (List.mem_cons_of_mem _ hg)) h
  ·rename_i heq
   cases heq
   exact lkMx_ok (fun g hg=>ht g (List.mem_cons_of_mem _ hg)) h
def lkIdx(t:TypeId)(u:AV)(i:AV):List SF→Option AV
 |[]=>none
 |.idx t' u' i' r::l=>if decide (t=t')&&eqA u u'&&eqA i i' then some r else lkIdx t u i l
 |_::l=>lkIdx t u i l
theorem lkIdx_ok{R:Nat→PV}{P:Program}{t:TypeId}{u:AV}{i:AV}{r:AV}:∀{tab:List SF},TabOk R P tab→lkIdx t u i tab=some r→(SF.idx t u i r).ok R P
 |[],_,h=>by cases h
 |f::l,ht,h=>by
  unfold lkIdx at h
  split at h
  ·cases h
  ·rename_i heq
   cases heq
   split at h
   ·rename_i hc
    cases h
    simp only[Bool.and_eq_true] at hc
    obtain⟨⟨e0,e1⟩,e2⟩:=hc
    have e0:=of_decide_eq_true e0
    have e1:=eqA_eq e1
    have e2:=eqA_eq e2
    subst e0
    subst e1
    subst e2
    exact ht _ (List.mem_cons_self ..)
   ·exact lkIdx_ok (fun g hg=>ht g (List.mem_cons_of_mem _ hg)) h
  ·rename_i heq
   cases heq
   exact lkIdx_ok (fun g hg=>ht g (List.mem_cons_of_mem _ hg)) h
def lkInd(t:TypeId)(u:AV)(i:AV):List SF→Option AV
 |[]=>none
 |.ind t' u' i' r::l=>if decide (t=t')&&eqA u u'&&eqA i i' then some r else lkInd t u i l
 |_::l=>lkInd t u i l
theorem lkInd_ok{R:Nat→PV}{P:Program}{t:TypeId}{u:AV}{i:AV}{r:AV}:∀{tab:List SF},TabOk R P tab→lkInd t u i tab=some r→(SF.ind t u i r).ok R P
 |[],_,h=>by cases h
 |f::l,ht,h=>by
  unfold lkInd at h
  split at h
  ·cases h
  ·rename_i heq
   cases heq
   split at h
   ·rename_i hc
    cases h
    simp only[Bool.and_eq_true] at hc
    obtain⟨⟨e0,e1⟩,e2⟩:=hc
    have e0:=of_decide_eq_true e0
    have e1:=eqA_eq e1
    have e2:=eqA_eq e2
    subst e0
    subst e1
    subst e2
    exact ht _ (List.mem_cons_self ..)
   ·exact lkInd_ok (fun g hg=>ht g (List.mem_cons_of_mem _ hg)) h
  ·rename_i heq
   cases heq
   exact lkInd_ok (fun g hg=>ht g (List.mem_cons_of_mem _ hg)) h
def lkSlc(t:TypeId)(u:AV)(lo:Option AV)(hi:Option AV):List SF→Option AV
 |[]=>none
 |.slc t' u' lo' hi' r::l=>if decide (t=t')&&eqA u u'&&eqO lo lo'&&eqO hi hi' then some r else lkSlc t u lo hi l
 |_::l=>lkSlc t u lo hi l
theorem lkSlc_ok{R:Nat→PV}{P:Program}{t:TypeId}{u:AV}{lo:Option AV}{hi:Option AV}{r:AV}:∀{tab:List SF},TabOk R P tab→lkSlc t u lo hi tab=some r→(SF.slc t u lo hi r).ok R P
 |[],_,h=>by cases h
 |f::l,ht,h=>by
  unfold lkSlc at h
  split at h
  ·cases h
  ·rename_i heq
   cases heq
   split at h
   ·rename_i hc
    cases h
    simp only[Bool.and_eq_true] at hc
    obtain⟨⟨⟨e0,e1⟩,e2⟩,e3⟩:=hc
    have e0:=of_decide_eq_true e0
    have e1:=eqA_eq e1
    have e2:=eqO_eq e2
    have e3:=eqO_eq e3
    subst e0
    subst e1
    subst e2
    subst e3
    exact ht _ (List.mem_cons_self ..)
   ·exact lkSlc_ok (fun g hg=>ht g (List.mem_cons_of_mem _ hg)) h
  ·rename_i heq
   cases heq
   exact lkSlc_ok (fun g hg=>ht g (List.mem_cons_of_mem _ hg)) h
def lkConv(s:TypeId)(d:TypeId)(u:AV):List SF→Option AV
 |[]=>none
 |.conv s' d' u' r::l=>if decide (s=s')&&decide (d=d')&&eqA u u' then some r else lkConv s d u l
 |_::l=>lkConv s d u l
theorem lkConv_ok{R:Nat→PV}{P:Program}{s:TypeId}{d:TypeId}{u:AV}{r:AV}:∀{tab:List SF},TabOk R P tab→lkConv s d u tab=some r→(SF.conv s d u r).ok R P
 |[],_,h=>by cases h
 |f::l,ht,h=>by
  unfold lkConv at h
  split at h
  ·cases h
  ·rename_i heq
   cases heq
   split at h
   ·rename_i hc
    cases h
    simp only[Bool.and_eq_true] at hc
    obtain⟨⟨e0,e1⟩,e2⟩:=hc
    have e0:=of_decide_eq_true e0
    have e1:=of_decide_eq_true e1
    have e2:=eqA_eq e2
    subst e0
    subst e1
    subst e2
    exact ht _ (List.mem_cons_self ..)
   ·exact lkConv_ok (fun g hg=>ht g (List.mem_cons_of_mem _ hg)) h
  ·rename_i heq
   cases heq
   exact lkConv_ok (fun g hg=>ht g (List.mem_cons_of_mem _ hg)) h
def lkUn(o:UnOp)(u:AV):List SF→Option AV
 |[]=>none
 |.un o' u' r::l=>if decide (o=o')&&eqA u u' then some r else lkUn o u l
 |_::l=>lkUn o u l
theorem lkUn_ok{R:Nat→PV}{P:Program}{o:UnOp}{u:AV}{r:AV}:∀{tab:List SF},TabOk R P tab→lkUn o u tab=some r→(SF.un o u r).ok R P
 |[],_,h=>by cases h
 |f::l,ht,h=>by
  unfold lkUn at h
  split at h
  ·cases h
  ·rename_i heq
   cases heq
   split at h
   ·rename_i hc
    cases h
    simp only[Bool.and_eq_true] at hc
    obtain⟨e0,e1⟩:=hc
    have e0:=of_decide_eq_true e0
    have e1:=eqA_eq e1
    subst e0
    subst e1
    exact ht _ (List.mem_cons_self ..)
   ·exact lkUn_ok (fun g hg=>ht g (List.mem_cons_of_mem _ hg)) h
  ·rename_i heq
   cases heq
   exact lkUn_ok (fun g hg=>ht g (List.mem_cons_of_mem _ hg)) h
def qLen(tab:List SF)(ρ:Operand→Option AV)(args:List Operand)(ts:List TypeId):Option AV:=match args,ts with
 |[x],[t]=>match ρ x with
  |some u=>lkLen t u tab
  |none=>none
 |_,_=>none
def qMx(mn:Bool)(tab:List SF)(ρ:Operand→Option AV)(args:List Operand):Option AV:=match args with
 |[x,y]=>match ρ x,ρ y with
  |some u,some v=>lkMx mn u v tab
  |_,_=>none
 |_=>none
def oneO(ρ:Operand→Option AV):Option Operand→Option (Option AV)
 |none=>some none
 |some x=>(ρ x).map some
def qSlc(tab:List SF)(ρ:Operand→Option AV)(t:TypeId)(x:Operand)(lo hi mx:Option Operand):Option AV:=match mx with
 |none=>match ρ x,oneO ρ lo,oneO ρ hi with
  |some u,some l,some r=>lkSlc t u l r tab
  |_,_,_=>none
 |some _=>none
def two(ρ:Operand→Option AV)(x y:Operand)(f:AV→AV→Option AV):Option AV:=match ρ x,ρ y with
 |some u,some v=>f u v
 |_,_=>none
def qTab(tab:List SF)(op:Op)(ρ:Operand→Option AV):Option AV:=match op with
 |.binOp b t x y _=>two ρ x y fun u v=>lkBin b t u v tab
 |.indexAddr t x i=>two ρ x i fun u v=>lkIdx t u v tab
 |.index t x i=>two ρ x i fun u v=>lkInd t u v tab
 |.unOp u _ x=>match ρ x with
  |some v=>lkUn u v tab
  |none=>none
 |.convert s d x=>match ρ x with
  |some v=>lkConv s d v tab
  |none=>none
 |.slice t x lo hi mx=>qSlc tab ρ t x lo hi mx
 |.call ⟨.builtin .len,args,ts⟩=>qLen tab ρ args.toList ts.toList
 |.call ⟨.builtin .max,args,_⟩=>qMx false tab ρ args.toList
 |.call ⟨.builtin .min,args,_⟩=>qMx true tab ρ args.toList
 |_=>none
theorem two_some{ρ:Operand→Option AV}{x y:Operand}{f:AV→AV→Option AV}{r:AV}(h:two ρ x y f=some r):∃u v,ρ x=some u∧ρ y=some v∧f u v=some r:=by
 unfold two at h
 split at h
 ·rename_i u v hu hv;exact⟨u,v,hu,hv,h⟩
 ·cases h
theorem oneO_match{R:Nat→PV}{ρ:Operand→Option AV}{x:Option Operand}{a:Option AV}(h:oneO ρ x=some a):MatchO (fun x=>(ρ x).map (openAV R)) x (a.map (openAV R)):=by
 cases x with
 |none=>cases h;trivial
 |some x=>
  obtain⟨v,hv,e⟩:=map_some' h
  subst e
  show (ρ x).map (openAV R)=some (openAV R v)
  rw[hv];rfl
theorem qTab_qop{R:Nat→PV}{P:Program}{tab:List SF}(ht:TabOk R P tab){op:Op}{ty:TypeId}{ρ:Operand→Option AV}{h:List AObj}{r:AV}(hq:qTab tab op ρ=some r) :
  qopF P op ty (fun x=>(ρ x).map (openAV R)) h=some (openAV R r,none):=by
 unfold qTab at hq
 split at hq
 ·obtain⟨u,v,hu,hv,hf⟩:=two_some hq
  have:=lkBin_ok ht hf
  simp only[qopF,qBin,hu,hv,Option.map_some,this _ _]
 ·obtain⟨u,v,hu,hv,hf⟩:=two_some hq
  obtain⟨n,hn,hi⟩:=lkIdx_ok ht hf
  simp only[qopF,qIA,hu,hv,Option.map_some,hn,hi]
 ·obtain⟨u,v,hu,hv,hf⟩:=two_some hq
  have:=lkInd_ok ht hf
  simp only[SF.ok] at this
  simp only[qopF,qIndex,hu,hv,Option.map_some,this]
 ·split at hq
  ·rename_i v hv
   obtain⟨a,c,h1,h2,h3⟩:=lkUn_ok ht hq
   simp only[qopF,qUn,hv,Option.map_some,h1,h2,h3]
  ·cases hq
 ·split at hq
  ·rename_i v hv
   have h1:=lkConv_ok ht hq
   simp only[SF.ok] at h1
   simp only[qopF,qConv,hv,Option.map_some,h1]
  ·cases hq
 ·unfold qSlc at hq
  split at hq
  ·split at hq
   ·rename_i u l m hu hl hm
    have:=lkSlc_ok ht hq _ _ _ (oneO_match hl) (oneO_match hm)
    simp only[qopF,qSlice,hu,Option.map_some,this]
   ·cases hq
  ·cases hq
 ·rename_i args ts
  unfold qLen at hq
  split at hq
  ·rename_i x t ha hts
   split at hq
   ·rename_i u hu
    have:=lkLen_ok ht hq ty
    have e:ts = #[t]:=by apply Array.ext';rw[hts]
    subst e
    simp only[qopF,qCall,ha,opsA,hu,Option.map_some,this]
   ·cases hq
  ·cases hq
 ·rename_i args ts
  unfold qMx at hq
  split at hq
  ·rename_i x y ha
   split at hq
   ·rename_i u v hu hv
    have:=lkMx_ok ht hq ts ty
    simp only[Bool.false_eq_true,if_false] at this
    simp only[qopF,qCall,ha,opsA,hu,hv,Option.map_some,this]
   ·cases hq
  ·cases hq
 ·rename_i args ts
  unfold qMx at hq
  split at hq
  ·rename_i x y ha
   split at hq
   ·rename_i u v hu hv
    have:=lkMx_ok ht hq ts ty
    simp only[if_true] at this
    simp only[qopF,qCall,ha,opsA,hu,hv,Option.map_some,this]
   ·cases hq
  ·cases hq
 ·cases hq
def lkApp(t:TypeId)(s x:AV):List SF→Option (Option Nat)
 |[]=>none
 |.app t' s' x' j::l=>if decide (t=t')&&eqA s s'&&eqA x x' then some (some j) else lkApp t s x l
 |.app0 t' s' x'::l=>if decide (t=t')&&eqA s s'&&eqA x x' then some none else lkApp t s x l
 |_::l=>lkApp t s x l
def appOk(R:Nat→PV)(P:Program)(t:TypeId)(s x:AV):Option Nat→Prop
 |some j=>(SF.app t s x j).ok R P
 |none=>(SF.app0 t s x).ok R P
theorem lkApp_ok{R:Nat→PV}{P:Program}{t:TypeId}{s x:AV}{r:Option Nat}:∀{tab:List SF},TabOk R P tab→lkApp t s x tab=some r→appOk R P t s x r
 |[],_,h=>by cases h
 |f::l,ht,h=>by
  unfold lkApp at h
  split at h
  ·cases h
  ·rename_i heq
   cases heq
   split at h
   ·rename_i hc
    cases h
    simp only[Bool.and_eq_true] at hc
    obtain⟨⟨e0,e1⟩,e2⟩:=hc
    have e0:=of_decide_eq_true e0
    have e1:=eqA_eq e1
    have e2:=eqA_eq e2
    subst e0
    subst e1
    subst e2
    exact ht _ (List.mem_cons_self ..)
   ·exact lkApp_ok (fun g hg=>ht g (List.mem_cons_of_mem _ hg)) h
  ·rename_i heq
   cases heq
   split at h
   ·rename_i hc
    cases h
    simp only[Bool.and_eq_true] at hc
    obtain⟨⟨e0,e1⟩,e2⟩:=hc
    have e0:=of_decide_eq_true e0
    have e1:=eqA_eq e1
    have e2:=eqA_eq e2
    subst e0
    subst e1
    subst e2
    exact ht _ (List.mem_cons_self ..)
   ·exact lkApp_ok (fun g hg=>ht g (List.mem_cons_of_mem _ hg)) h
  ·rename_i heq
   cases heq
   exact lkApp_ok (fun g hg=>ht g (List.mem_cons_of_mem _ hg)) h
def tokOf:AV→Option (Nat×Nat)
 |.tsym tk i=>some (tk,symBase+i)
 |.trows tk es=>some (tk,es.length)
 |_=>none
def appS(tab:List SF)(P:Program)(t:TypeId)(s x:AV)(h:List AObj):Option (AV×List AObj×List Nat):=match lkApp t (nrm s) (nrm x) tab with
 |some (some j)=>match P.underlying t with
  |some (.slice e)=>match szA P e with
   |some sz=>match tokOf s with
    |some (tk,lc)=>match h[tk]? with
     |some (.tok e' sz' lc')=>if e'=e∧sz'=sz∧lc'=lc then some (.tsym h.length j,h.set tk .dead++[.tok e sz (symBase+j)],[tk]) else none
     |_=>none
    |none=>if isNilSlice s then some (.tsym h.length j,h++[.tok e sz (symBase+j)],[]) else none
   |none=>none
  |_=>none
 |some none=>some (s,h,[])
 |none=>none
def eTab(tab:List SF)(P:Program)(op:Op)(ρ:Operand→Option AV)(h:List AObj):Option (AV×List AObj×List Nat):=match op with
 |.call ⟨.builtin .append,args,ts⟩=>match opsA ρ args.toList,ts.toList with
  |some [s,x],[t,t']=>if t=t' then appS tab P t s x h else none
  |_,_=>none
 |_=>none
theorem setAt_get{α:Type}{l vs:List α}{off:Nat}(h:off+vs.length≤l.length)(x:Nat):(setAt l off vs)[x]? = if off≤x∧x<off+vs.length then vs[x-off]? else l[x]?:=by
 unfold setAt
 have ht:(l.take off).length=off:=by simp;omega
 by_cases h1:x<off
 ·rw[if_neg (by omega),List.getElem?_append_left (by simp;omega),List.getElem?_append_left (by omega),List.getElem?_take,if_pos h1]
 ·by_cases h2:x<off+vs.length
  ·rw[if_pos ⟨by omega,h2⟩,List.getElem?_append_left (by simp;omega),List.getElem?_append_right (by omega),ht]
  ·rw[if_neg (by omega),List.getElem?_append_right (by simp;omega)]
   simp only[List.length_append,ht]
   rw[List.getElem?_drop]
   congr 1;omega
theorem setAt_len{α:Type}{l vs:List α}{off:Nat}(h:off+vs.length≤l.length):(setAt l off vs).length=l.length:=by simp[setAt];omega
def aRow(h:List AObj)(t:Nat):Option (TypeId×Nat×PV):=match h[t]? with
 |some (.arr ty sz p)=>some (ty,sz,p)
 |_=>none
theorem aRow_some{h:List AObj}{t:Nat}{ty:TypeId}{sz:Nat}{p:PV}(hm:aRow h t=some (ty,sz,p)):h[t]? = some (.arr ty sz p):=by
 unfold aRow at hm
 split at hm
 ·rename_i hq;cases hm;exact hq
 ·cases hm
def lkAt(p i:PV):List SF→Option (List PV)
 |[]=>none
 |.idx _ (.pv q) (.pv j) (.cptr cs)::l=>match eqP p q&&eqP i j with
  |true=>some cs
  |false=>lkAt p i l
 |_::l=>lkAt p i l
theorem lkAt_ok{R:Nat→PV}{P:Program}{p i:PV}{cs:List PV}:∀{tab:List SF},TabOk R P tab→lkAt p i tab=some cs→∃t,(SF.idx t (.pv p) (.pv i) (.cptr cs)).ok R P
 |[],_,h=>by cases h
 |f::l,ht,h=>by
  unfold lkAt at h
  split at h
  ·cases h
  ·rename_i heq
   cases heq
   split at h
   ·rename_i hc
    cases h
    rw[Bool.and_eq_true] at hc
    have e1:=eqP_eq hc.1
    have e2:=eqP_eq hc.2
    subst e1
    subst e2
    exact⟨_,ht _ (List.mem_cons_self ..)⟩
   ·exact lkAt_ok (fun g hg=>ht g (List.mem_cons_of_mem _ hg)) h
  ·rename_i heq
   cases heq
   exact lkAt_ok (fun g hg=>ht g (List.mem_cons_of_mem _ hg)) h
def lkSet(p i:PV)(o:Nat)(c:List PV):List SF→Option Nat
 |[]=>none
 |.set p' i' o' c' j::l=>match Nat.beq o o'&&(eqP p p'&&(eqP i i'&&eqPs c c')) with
  |true=>some j
  |false=>lkSet p i o c l
 |_::l=>lkSet p i o c l
theorem lkSet_ok{R:Nat→PV}{P:Program}{p i:PV}{o:Nat}{c:List PV}{j:Nat}:∀{tab:List SF},TabOk R P tab→lkSet p i o c tab=some j→(SF.set p i o c j).ok R P
 |[],_,h=>by cases h
 |f::l,ht,h=>by
  unfold lkSet at h
  split at h
  ·cases h
  ·rename_i heq
   cases heq
   split at h
   ·rename_i hc
    cases h
    simp only[Bool.and_eq_true] at hc
    obtain⟨e0,e1,e2,e3⟩:=hc
    have e0:=Nat.eq_of_beq_eq_true e0
    have e1:=eqP_eq e1
    have e2:=eqP_eq e2
    have e3:=eqPs_eq e3
    subst e0
    subst e1
    subst e2
    subst e3
    exact ht _ (List.mem_cons_self ..)
   ·exact lkSet_ok (fun g hg=>ht g (List.mem_cons_of_mem _ hg)) h
  ·rename_i heq
   cases heq
   exact lkSet_ok (fun g hg=>ht g (List.mem_cons_of_mem _ hg)) h
def lkMk(t:TypeId)(n:AV):List SF→Option Nat
 |[]=>none
 |.mk t' n' j::l=>match decide (t=t')&&eqA n n' with
  |true=>some j
  |false=>lkMk t n l
 |_::l=>lkMk t n l
theorem lkMk_ok{R:Nat→PV}{P:Program}{t:TypeId}{n:AV}{j:Nat}:∀{tab:List SF},TabOk R P tab→lkMk t n tab=some j→(SF.mk t n j).ok R P
 |[],_,h=>by cases h
 |f::l,ht,h=>by
  unfold lkMk at h
  split at h
  ·cases h
  ·rename_i heq
   cases heq
   split at h
   ·rename_i hc
    cases h
    rw[Bool.and_eq_true,decide_eq_true_eq] at hc
    obtain⟨rfl,e1⟩:=hc
    have e1:=eqA_eq e1
    subst e1
    exact ht _ (List.mem_cons_self ..)
   ·exact lkMk_ok (fun g hg=>ht g (List.mem_cons_of_mem _ hg)) h
  ·rename_i heq
   cases heq
   exact lkMk_ok (fun g hg=>ht g (List.mem_cons_of_mem _ hg)) h
def lkApq(t:TypeId)(s x:AV):List SF→Option Nat
 |[]=>none
 |.apq t' s' x' j::l=>match decide (t=t')&&(eqA s s'&&eqA x x') with
  |true=>some j
  |false=>lkApq t s x l
 |_::l=>lkApq t s x l
theorem lkApq_ok{R:Nat→PV}{P:Program}{t:TypeId}{s x:AV}{j:Nat}:∀{tab:List SF},TabOk R P tab→lkApq t s x tab=some j→(SF.apq t s x j).ok R P
 |[],_,h=>by cases h
 |f::l,ht,h=>by
  unfold lkApq at h
  split at h
  ·cases h
  ·rename_i heq
   cases heq
   split at h
   ·rename_i hc
    cases h
    simp only[Bool.and_eq_true,decide_eq_true_eq] at hc
    obtain⟨rfl,e1,e2⟩:=hc
    have e1:=eqA_eq e1
    have e2:=eqA_eq e2
    subst e1
    subst e2
    exact ht _ (List.mem_cons_self ..)
   ·exact lkApq_ok (fun g hg=>ht g (List.mem_cons_of_mem _ hg)) h
  ·rename_i heq
   cases heq
   exact lkApq_ok (fun g hg=>ht g (List.mem_cons_of_mem _ hg)) h
def qArr(tab:List SF)(P:Program)(ρ:Operand→Option AV)(h:List AObj):Op→Option (AV×Option Nat)
 |.indexAddr t x i=>match ρ x,ρ i,P.underlying t with
  |some (.arr a),some iv,some (.slice e)=>match aRow h a,iv.toPV with
   |some (_,sz,p),some ip=>match lkAt p ip tab,szA P e with
    |some _,some s=>if s=sz then some (.aptr a ip 0,none) else none
    |_,_=>none
   |_,_=>none
  |_,_,_=>none
 |.load t x=>match ρ x with
  |some (.aptr a ip o)=>match aRow h a with
   |some (_,_,p)=>match lkAt p ip tab with
    |some cs=>(loadA P t ((cs.map AV.pv).drop o)).map fun v=>(v,some a)
    |none=>none
   |none=>none
  |_=>none
 |.fieldAddr s x f=>match ρ x,fieldA P s f with
  |some (.aptr a ip o),some fl=>match szA P fl.type with
   |some (_+1)=>some (.aptr a ip (o+fl.offset),none)
   |_=>none
  |_,_=>none
 |.nilCheck x=>match ρ x with
  |some (.aptr a ip o)=>some (.aptr a ip o,none)
  |_=>none
 |.call ⟨.builtin .len,args,ts⟩=>match args.toList,ts.toList with
  |[x],[t]=>match ρ x,P.underlying t with
   |some (.arr a),some (.slice _)=>match aRow h a with
    |some (_,_,p)=>(lkLen t (.pv p) tab).map fun v=>(v,none)
    |none=>none
   |_,_=>none
  |_,_=>none
 |_=>none
def anyApq0:List SF→Bool
 |[]=>false
 |.apq _ (.pv (.rows [])) _ _::_=>true
 |_::l=>anyApq0 l
def eArr(tab:List SF)(P:Program)(ρ:Operand→Option AV)(h:List AObj):Op→Option (AV×List AObj×List Nat)
 |.buildSlice t len parts=>match anyApq0 tab with
  |false=>none
  |true=>match partsA ρ parts.toList with
   |some ps=>match bslA P t len ps with
    |some (e,s,pvs)=>match lkApq t (.pv (.rows [])) (.pv (.rows (chunk s len pvs))) tab with
     |some j=>some (.arr h.length,h++[.arr e s (.sym j)],[])
     |none=>none
    |none=>none
   |none=>none
 |.store t x y=>match ρ x,ρ y with
  |some (.aptr a ip o),some v=>match aRow h a,toPVs v.cells,szA P t with
   |some (ty,sz,p),some c,some s=>match lkSet p ip o c tab with
    |some j=>if s=c.length∧v.cells.all AV.isCell=true then some (.tup [],h.set a (.arr ty sz (.sym j)),[a]) else none
    |none=>none
   |_,_,_=>none
  |_,_=>none
 |.slice t x none (some y) none=>match ρ x,ρ y with
  |some (.arr a),some yv=>match aRow h a,P.underlying t with
   |some (ty,sz,p),some (.slice e)=>match lkSlc t (.pv p) (some (.pv (.lit (.int .i64 0)))) (some (nrm yv)) tab,szA P e with
    |some (.pv q),some s=>if s=sz then some (.arr h.length,h.set a AObj.dead++[AObj.arr ty sz q],[a]) else none
    |_,_=>none
   |_,_=>none
  |_,_=>none
 |.makeSlice t l c=>match ρ l,ρ c with
  |some lv,some cv=>match lkMk t (nrm lv) tab,eqA (nrm lv) (nrm cv),P.underlying t with
   |some j,true,some (.slice e)=>match szA P e with
    |some sz=>some (.arr h.length,h++[.arr e sz (.sym j)],[])
    |none=>none
   |_,_,_=>none
  |_,_=>none
 |.call ⟨.builtin .append,args,ts⟩=>match args.toList,ts.toList with
  |[s,x],[t,t']=>match decide (t=t'),P.underlying t,ρ s,ρ x with
   |true,some (.slice e),some sv,some xv=>match sv,szA P e with
    |.arr a,some sz=>match aRow h a with
     |some (ty,sz',p)=>match lkApq t (.pv p) (nrm xv) tab with
      |some j=>if ty=e∧sz'=sz then some (.arr h.length,h.set a .dead++[.arr e sz (.sym j)],[a]) else none
      |none=>match lkApp t (.pv p) (nrm xv) tab with
       |some none=>some (.arr a,h,[])
       |_=>none
     |none=>none
    |sv,some sz=>match isNilSlice sv,lkApq t (nrm sv) (nrm xv) tab with
     |true,some j=>some (.arr h.length,h++[.arr e sz (.sym j)],[])
     |_,_=>none
    |_,_=>none
   |_,_,_,_=>none
  |_,_=>none
 |_=>none
theorem idx_fact{R:Nat→PV}{P:Program}{t:TypeId}{p i:PV}{cs:List PV}(h:(SF.idx t (.pv p) (.pv i) (.cptr cs)).ok R P):∃kd n es,openPV R i=.lit (.int kd n)∧0≤n∧(∀es',openPV R p=.rows es'→es'=es)∧es[n.toNat]? = some (openPs R cs):=by
 obtain⟨n,hn,hi⟩:=h
 have hi0:∃kd,openPV R i=.lit (.int kd n):=by
  rw[openAV] at hn
  unfold intV at hn
  split at hn
  ·rename_i kd m heq
   cases hn
   injection heq with heq
   exact⟨kd,heq⟩
  ·cases hn
 obtain⟨kd,hkd⟩:=hi0
 rw[openAV,openAV] at hi
 unfold indexAtA at hi
 split at hi
 ·split at hi
  ·rename_i es hes
   split at hi
   ·rename_i h0
    split at hi
    ·rename_i c hc
     split at hi
     ·injection hi with hi
      injection hi with hi
      subst hi
      refine⟨kd,n,es,hkd,h0,fun es' he=>?_,hc⟩
      rw[he] at hes
      simpa[rowsOf] using hes
     ·cases hi
    ·cases hi
   ·cases hi
  ·cases hi
 ·split at hi
  ·split at hi
   ·obtain⟨b,hb,e⟩:=Option.map_eq_some_iff.1 hi
    exfalso
    cases hp:openPV R p<;>rw[hp] at hb<;>simp[addA] at hb
   ·cases hi
  ·cases hi
 ·cases hi
theorem PR.int_eq{R:Nat→PV}{M:Nat→Nat→Option Value}{i:PV}{kd kd':IntKind}{n:Int}{k:Int}(h:PR R M i (.int kd k))(e:openPV R i=.lit (.int kd' n)):n=k:=by
 have:=h.opened
 rw[e] at this
 cases this
 rfl
theorem PR.int_of{R:Nat→PV}{M:Nat→Nat→Option Value}{i:PV}{v:Value}{kd:IntKind}{n:Int}(h:PR R M i v)(e:openPV R i=.lit (.int kd n)):v=.int kd n:=by
 have:=h.opened
 rw[e] at this
 cases this
 rfl
theorem arr_at{R:Nat→PV}{P:Program}{tab:List SF}(ht:TabOk R P tab){K:Kn}{h:List AObj}{w:World}(hR:K.R=R)(H:WR K h w){a:Nat}{ty:TypeId}{sz:Nat}{p:PV}(ha:aRow h a=some (ty,sz,p)){ip:PV}{cs:List PV}(hl:lkAt p ip tab=some cs) :
  ∃g cur es kd n,K.mu a=some g∧w.heap[g]? = some (.cells cur ty (0,0))∧(cur.size=K.Z g*sz∧K.Z g≤maxLen)∧AR K a g sz p cur∧openPV R p=.rows es∧openPV R ip=.lit (.int kd n)∧0≤n∧es[n.toNat]? = some (openPs R cs)∧n.toNat<K.N a:=by
 obtain⟨g,cur,hm,hw,hs,hr⟩:=H.arr a ty sz p (aRow_some ha)
 obtain⟨es,he,hns,hlen,_⟩:=hr.row
 obtain⟨t,hf⟩:=lkAt_ok ht hl
 obtain⟨kd,n,es',h1,h2,h3,h4⟩:=idx_fact hf
 rw[hR] at he
 have:=h3 es he
 subst this
 refine⟨g,cur,es,kd,n,hm,hw,by rw[←hr.el];exact hs,hr,he,h1,h2,h4,?_⟩
 rw[←hlen]
 by_cases hh:n.toNat<es.length
 ·exact hh
 ·rw[List.getElem?_eq_none (by omega)] at h4;cases h4
theorem qArr_sound{R:Nat→PV}{P:Program}{tab:List SF}(ht:TabOk R P tab){o:Oper}{ρ:Operand→Value}{ρA:Operand→Option AV}{K:Kn}{h:List AObj}{w:World}(hR:K.R=R)(H:WR K h w)(hρ:∀x v,ρA x=some v→VR K v (ρ x)){v:AV}{dep:Option Nat}
  (hq:qArr tab P ρA h o.op=some (v,dep)):Yld P o ρ K w v dep:=by
 unfold qArr at hq
 split at hq
 ·rename_i t x i ho
  split at hq
  ·rename_i a iv e hx hi hu
   split at hq
   ·rename_i ty sz p ip hrow hip
    split at hq
    ·rename_i cs s hl hs
     split at hq
     ·rename_i hse
      subst hse
      cases hq
      obtain⟨g,cur,es,kd,n,hm,hw,_,hr,he,hn1,h0,hn3,hlt⟩:=arr_at ht hR H hrow hl
      have hiv:=(hρ i _ hi).toPV hip
      rw[hR] at hiv
      have hie:ρ i=.int kd n:=hiv.int_of hn1
      have hxv:=hρ x _ hx
      generalize hxe:ρ x=xv at hxv
      cases hxv with
      |arr _ g' cap hm' hnc hz=>
       rw[hm] at hm'
       cases hm'
       rw[hie] at hiv
       have hnn:((n.toNat:Nat):Int)=n:=by omega
       have key:=VR.aptr (K:=K) a ip 0 g n.toNat kd hm (by rw[hR,hnn];exact hiv) hlt
       rw[hr.el,Nat.add_zero] at key
       refine .of _ key (fun w'=>?_)
       have hlt':n<(K.N a:Int):=by omega
       simp[execOp,ho,hxe,hie,Instr.indexAt,asIntOf,run_underlying hu,h0,hlt',szA_run hs,Addr.add_lit]
     ·cases hq
    ·cases hq
   ·cases hq
  ·cases hq
 ·rename_i t x ho
  split at hq
  ·rename_i a ip off hx
   split at hq
   ·rename_i ty sz p hrow
    split at hq
    ·rename_i cs hl
     obtain⟨r,hr',e⟩:=map_some' hq
     cases e
     obtain⟨g,cur,es,kd,n,hm,hw,_,hr,he,hn1,h0,hn3,hlt⟩:=arr_at ht hR H hrow hl
     have hxv:=hρ x _ hx
     generalize hxe:ρ x=xv at hxv
     cases hxv with
     |aptr _ _ _ g' k kd' hm' hik hk=>
      rw[hm] at hm'
      cases hm'
      rw[hR] at hik
      have hkn:=hik.int_eq hn1
      have hkn':n.toNat=k:=by omega
      rw[hkn'] at hn3
      obtain⟨es',he',hns,hlen,hZ,hel,hcell⟩:=hr.row
      rw[hR] at he'
      have:=he.symm.trans he'
      injection this with this
      subst this
      have hk':k<es.length:=by omega
      rw[List.getElem?_eq_getElem hk'] at hn3
      have hn3:=Option.some.inj hn3
      have hcl:∀j,j<cs.length→∃v,cur[k*K.E g+j]? = some v∧PR K.R K.M (cs.getD j .any) v:=by
       intro j hj
       have hj':j<es[k].length:=by rw[hn3,openPs_eq];simpa using hj
       obtain⟨v,h1,h2⟩:=hcell k hk' j hj'
       refine⟨v,h1,?_⟩
       have e1:es[k][j]=openPV R cs[j]:=by
        have:es[k][j]? = (openPs R cs)[j]?:=by rw[hn3]
        rw[List.getElem?_eq_getElem hj',openPs_eq,List.getElem?_map,List.getElem?_eq_getElem hj] at this
        simpa using this
       rw[e1,←hR] at h2
       rw[List.getD_eq_getElem?_getD,List.getElem?_eq_getElem hj]
       exact h2.closed
      have hcs:∃us:List Value,us.length=cs.length∧∀j,j<cs.length→∃v,us[j]? = some v∧cur[k*K.E g+j]? = some v∧PR K.R K.M (cs.getD j .any) v:=by
       refine⟨(List.range cs.length).map fun j=>cur.getD (k*K.E g+j) (.bool false),by simp,fun j hj=>?_⟩
       obtain⟨v,h1,h2⟩:=hcl j hj
       refine⟨v,?_,h1,h2⟩
       rw[List.getElem?_map,List.getElem?_range hj]
       simp[Array.getD_eq_getD_getElem?,h1]
      obtain⟨us,hul,hus⟩:=hcs
      have hvl:VL K (cs.map AV.pv) us:=⟨by simp[hul],fun j hj hj'=>by
       obtain⟨v,h1,_,h3⟩:=hus j (by simpa using hj)
       rw[List.getElem?_eq_getElem hj'] at h1
       rw[Option.some.inj h1]
       rw[List.getElem_map]
       rw[List.getD_eq_getElem?_getD,List.getElem?_eq_getElem (by simpa using hj)] at h3
       exact .pv h3⟩
      obtain⟨u,hvu,hrun⟩:=loadA_sound (hvl.drop off) hr' g (k*K.E g+off)
      refine⟨u,hvu,fun w' hM hd=>?_⟩
      have hblk:=hd a rfl g hm
      have hcells:∀j c,(us.drop off)[j]? = some c→w'.cell? ⟨g,k*K.E g+off+j,none⟩=some c:=by
       intro j c hj
       rw[List.getElem?_drop] at hj
       have hjl:off+j<cs.length:=by
        by_cases hh:off+j<us.length
        ·omega
        ·rw[List.getElem?_eq_none (by omega)] at hj;cases hj
       obtain⟨v,h1,h2,_⟩:=hus (off+j) hjl
       rw[hj] at h1
       rw[World.cell?_of_block (w:=w) hblk]
       rw[show k*K.E g+off+j=k*K.E g+(off+j) by omega]
       simp only[World.cell?,hw,h2]
       simp[←Option.some.inj h1]
      have:=hrun w' hcells
      simp[execOp,ho,Instr.loadAt,Instr.sureAddr,hxe,this]
    ·cases hq
   ·cases hq
  ·cases hq
 ·rename_i s x f ho
  split at hq
  ·rename_i a ip off fl hx hf
   split at hq
   ·rename_i n hn
    cases hq
    obtain⟨fs,hu,hfs⟩:=fieldA_run hf
    have hxv:=hρ x _ hx
    generalize hxe:ρ x=xv at hxv
    cases hxv with
    |aptr _ _ _ g k kd hm hik hk=>
     refine .of _ (.aptr a ip (off+fl.offset) g k kd hm hik hk) (fun w'=>?_)
     simp[execOp,ho,Instr.fieldAt,run_underlying hu,hfs,Instr.sureAddr,hxe,fieldPlace,szA_run hn,Addr.add_lit,Nat.add_assoc]
   ·cases hq
  ·cases hq
 ·rename_i x ho
  split at hq
  ·rename_i a ip off hx
   cases hq
   have hxv:=hρ x _ hx
   refine .of (ρ x) hxv (fun w'=>?_)
   generalize hxe:ρ x=xv at hxv
   cases hxv with
   |aptr _ _ _ g k kd hm hik hk=>simp[execOp,ho,hxe]
  ·cases hq
 ·rename_i args ts ho
  split at hq
  ·rename_i x t ha hts
   have e1:args = #[x]:=by rw[←Array.toArray_toList (xs:=args),ha]
   have e2:ts = #[t]:=by rw[←Array.toArray_toList (xs:=ts),hts]
   subst e1
   subst e2
   split at hq
   ·rename_i a e hx hu
    split at hq
    ·rename_i ty sz p hrow
     obtain⟨r,hr',e⟩:=map_some' hq
     cases e
     obtain⟨g,cur,hm,hw,hs,hr⟩:=H.arr a ty sz p (aRow_some hrow)
     obtain⟨es,he,hns,hlen,_⟩:=hr.row
     rw[hR] at he
     have hok:=lkLen_ok ht hr' o.type
     rw[openAV,he] at hok
     have hxv:=hρ x _ hx
     generalize hxe:ρ x=xv at hxv
     cases hxv with
     |arr _ g' cap hm' hnc hz=>
      have hrv:openAV R v=.pv (.lit (.int .i64 es.length)):=by
       simp[builtinA,lenA,hu,rowsOf] at hok
       exact hok.symm
      refine .of (.int .i64 es.length) ?_ (fun w'=>?_)
      ·have:VR K (openAV R v) (.int .i64 es.length):=by rw[hrv];exact .pv (.lit _ rfl)
       exact this.closed hR
      ·rw[hlen]
       simp[execOp,ho,resolve,invoke,builtin,hxe,Builtin.len_,run_underlying hu,goInt]
    ·cases hq
   ·cases hq
  ·cases hq
 ·cases hq
def qopX(tab:List SF)(P:Program)(op:Op)(ty:TypeId)(ρ:Operand→Option AV)(h:List AObj):Option (AV×Option Nat):=match qopF P op ty ρ h with
 |some r=>some r
 |none=>match qopM P op ρ h with
  |some r=>some r
  |none=>match qTab tab op (fun x=>(ρ x).map nrm) with
  |some v=>some (v,none)
  |none=>qArr tab P ρ h op
def isAppend:Op→Bool
 |.call ⟨.builtin .append,_,_⟩=>true
 |_=>false
def namesIn:List SF→Bool
 |[]=>false
 |.names::_=>true
 |_::l=>namesIn l
def eopN(tab:List SF)(P:Program)(op:Op)(ρ:Operand→Option AV)(h:List AObj):Option (AV×List AObj×List Nat):=match isAppend op&&namesIn tab with
 |true=>none
 |false=>eopM P op ρ h
def eopC(tab:List SF)(P:Program)(op:Op)(ρ:Operand→Option AV)(h:List AObj):Option (AV×List AObj×List Nat):=match namesIn tab with
 |true=>none
 |false=>eopB P op ρ h
def eopX(tab:List SF)(P:Program)(op:Op)(ρ:Operand→Option AV)(h:List AObj):Option (AV×List AObj×List Nat):=match eArr tab P ρ h op with
 |some r=>some r
 |none=>match eopN tab P op ρ h with
 |some r=>some r
 |none=>match eopC tab P op ρ h with
  |some r=>some r
  |none=>match eopF P op ρ h with
  |some r=>some r
  |none=>match eopB P op ρ h with
   |some r=>some r
   |none=>eTab tab P op ρ h
theorem qopX_sound{R:Nat→PV}{P:Program}{tab:List SF}(ht:TabOk R P tab){o:Oper}{ρ:Operand→Value}{ρA:Operand→Option AV}{K:Kn}{h:List AObj}{w:World}(hR:K.R=R)(H:WR K h w)(hρ:∀x v,ρA x=some v→VR K v (ρ x)){v:AV}{dep:Option Nat}
  (hq:qopX tab P o.op o.type ρA h=some (v,dep)):Yld P o ρ K w v dep:=by
 unfold qopX at hq
 split at hq
 ·rename_i r hr
  cases hq
  rw[qopF_eq] at hr
  exact qop_sound H hρ hr
 ·split at hq
  ·rename_i r hr
   cases hq
   exact qopM_sound H hρ hr
  split at hq
  ·rename_i v' hv
   cases hq
   have h1:=qTab_qop (ty:=o.type) (h:=h) ht hv
   rw[qopF_eq] at h1
   obtain⟨u,hu,hy⟩:=qop_sound (o:=o) (ρ:=ρ) H (fun x a hx=>by
    obtain⟨b,hb,e⟩:=map_some' hx
    obtain⟨c,hc,e'⟩:=map_some' hb
    subst e
    subst e'
    exact(hρ x c hc).nrm.opened hR) h1
   exact⟨u,hu.closed hR,hy⟩
  ·exact qArr_sound ht hR H hρ hq
theorem rowsN_rows{R:Nat→PV}{K:Kn}(hR:K.R=R){a:AV}{v:Value}(h:VR K a v){es:List (List PV)}(hr:rowsN (openAV R (nrm a))=some es):PR K.R K.M (.rows es) v∨(es=[]∧v=.slice none 0 0):=by
 have h1:=h.nrm.opened hR
 unfold rowsN at hr
 split at hr
 ·rename_i hn
  cases hr
  exact .inr ⟨rfl,isNil_sound h1 hn⟩
 ·exact .inl (rowsOf_sound h1 hr)
theorem rowsOf_rows{R:Nat→PV}{K:Kn}(hR:K.R=R){a:AV}{v:Value}(h:VR K a v){es:List (List PV)}(hr:rowsOf (openAV R (nrm a))=some es):PR K.R K.M (.rows es) v:=rowsOf_sound (h.nrm.opened hR) hr
theorem Eff.closed{R:Nat→PV}{P:Program}{o:Oper}{ρ:Operand→Value}{K:Kn}{h:List AObj}{w:World}{v v':AV}{h':List AObj}{touch:List Nat}(hR:K.R=R)(hv:∀K' u,K'.R=R→VR K' v u→VR K' v' u)(H:Eff P o ρ K h w v h' touch):Eff P o ρ K h w v' h' touch:=by
 obtain⟨n,u,w',K',h1,h2,h3,h4,h5⟩:=H
 exact⟨n,u,w',K',h1,h2,hv K' u (h4.ext.R.trans hR) h3,h4,h5⟩
theorem tokOf_spec{R:Nat→PV}{K:Kn}(hR:K.R=R){s:AV}{v:Value}{tk lc:Nat}(h:VR K s v)(ht:tokOf s=some (tk,lc)){es:List (List PV)}(hr:rowsN (openAV R (nrm s))=some es):VR K (.trows tk es) v∧(lc<symBase∨True)∧(es.length<symBase→dl R lc=es.length):=by
 unfold tokOf at ht
 split at ht
 ·rename_i tk' i
  cases ht
  cases h with
  |tsym _ _ es0 hi h=>
   subst hR
   have e:rowsN (.pv (K.R i))=some es:=by simpa[YtfphhabaeggenaaDoor.nrm,AV.toPV,openAV,openPV] using hr
   rw[hi] at e
   have e2:es0=es:=by simpa[rowsN,isNilSlice,rowsOf] using e
   subst e2
   exact⟨h,.inr trivial,fun _=>dl_sym hi⟩
 ·rename_i tk' es0
  cases ht
  have e:rowsN (.pv (.rows (openPss R es0)))=some es:=by simpa[YtfphhabaeggenaaDoor.nrm,AV.toPV,openAV,openPV] using hr
  have e2:openPss R es0=es:=by simpa[rowsN,isNilSlice,rowsOf] using e
  subst e2
  have ho:=h.opened hR
  rw[openAV] at ho
  have hlen:(openPss R es0).length=es0.length:=by rw[openPss_eq,List.length_map]
  exact⟨ho,.inr trivial,fun hl=>by rw[hlen] at hl ⊢;exact dl_small hl⟩
 ·cases ht
theorem isNil_eq{a:AV}(h:isNilSlice a=true):a=.pv (.lit (.slice none 0 0)):=by
 unfold isNilSlice at h
 split at h
 ·rfl
 ·cases h
theorem tokMove{K:Kn}{h:List AObj}{w:World}(H:WR K h w){tk:Nat}{e:TypeId}{sz lc:Nat}(hh:h[tk]? = some (.tok e sz lc)){es:List (List PV)}{v:Value}(hv:VR K (.trows tk es) v)(hd:dl K.R lc=es.length){n':Nat}(hn':dl K.R n'=es.length) :
  ∃K',Step K h w K' (h.set tk .dead++[.tok e sz n']) w∧VR K' (.trows h.length es) v∧K'.R=K.R:=by
 cases hv with
 |trows _ _ g us hm hn hsz hc hr=>
  obtain⟨g2,cs,hm2,hw,hcs,hE,hZ,hno⟩:=H.tok tk e sz lc hh
  rw[hm] at hm2
  cases hm2
  have hold:∀o v,K.M g o=some v→o<es.length*sz∧cs[o]? = some v:=fun o v hmv=>by
   refine⟨?_,?_⟩
   ·apply Decidable.byContradiction
    intro hn2
    rw[hno o (by rw[hd];omega)] at hmv
    cases hmv
   ·have:=H.agr g o v hmv
    unfold World.cell? at this
    rw[hw] at this
    simpa using this
  have st:=Step.withTok H (h1:=h.set tk .dead) e g es.length sz (K.Z g) cs hw hcs hZ (Frm.refl _ w) hold (by simp) (fun j x hj hl=>by
   have hne:j≠tk:=fun ej=>by
    subst ej
    rw[List.getElem?_set_self (by rw[List.getElem?_eq_some_iff] at hh;exact hh.1)] at hj
    cases hj
    cases hl
   rw[List.getElem?_set_ne (fun ej=>hne ej.symm)] at hj
   exact⟨hj,fun e2=>hne (H.inj j tk x _ g hj hh hl rfl e2 hm)⟩) (fun _ _=>⟨rfl,hE⟩) (.inr ⟨tk,_,hh,rfl,hm⟩) hn'
  refine⟨_,st,?_,rfl⟩
  have eZ:(K.withTok h.length g es.length sz (K.Z g) cs).Z g=K.Z g:=by show (if g=g then K.Z g else K.Z g)=_;rw[if_pos rfl]
  have eE:(K.withTok h.length g es.length sz (K.Z g) cs).E g=K.E g:=by show (if g=g then sz else K.E g)=_;rw[if_pos rfl,hE]
  have key:=VR.trows (K:=K.withTok h.length g es.length sz (K.Z g) cs) h.length es g us (by show (if h.length=h.length then some g else _)=_;rw[if_pos rfl]) (by rw[eZ];exact hn) (fun i hi=>by rw[eE];exact hsz i hi) (fun i hi j hj=>by
   rw[eE] at hj ⊢
   exact st.ext.M g _ _ (hc i hi j hj)) (fun i hi j hj=>(hr i hi j hj).ext st.ext)
  rw[eZ] at key
  exact key
theorem appS_sound{R:Nat→PV}{P:Program}{tab:List SF}(ht:TabOk R P tab){o:Oper}{ρ:Operand→Value}{K:Kn}{h:List AObj}{w:World}(hR:K.R=R)(H:WR K h w)
  {args:Array Operand} {s x:Operand} (ha:args.toList=[s,x]) {t:TypeId} {ts:Array TypeId} (hts:ts.toList=[t,t]) (ho:o.op=.call ⟨.builtin .append,args,ts⟩)
  {sA xA:AV} (hs:VR K sA (ρ s)) (hx:VR K xA (ρ x)) {v:AV} {h':List AObj} {touch:List Nat} (hq:appS tab P t sA xA h=some (v,h',touch)):Eff P o ρ K h w v h' touch:=by
 unfold appS at hq
 split at hq
 ·rename_i j hl
  obtain⟨e,sz,by_,zc,es,es',h1,h2,h3,h4,h5,h6,h7,h8,h9,h10,h11,h12,h13⟩:=lkApp_ok ht hl
  rw[h1] at hq
  simp only[h2] at hq
  have hx':=rowsOf_rows hR hx h8
  cases hes':es' with
  |nil=>
   subst hes'
   split at hq
   ·rename_i tk lc htk
    obtain⟨hv,_,hdl⟩:=tokOf_spec hR hs htk h7
    split at hq
    ·rename_i e' sz' lc' hh
     split at hq
     ·rename_i hc
      obtain⟨rfl,rfl,rfl⟩:=hc
      cases hq
      have hd:dl R lc'=es.length:=hdl (by unfold symBase;omega)
      rw[List.append_nil] at h13
      obtain⟨K',st,hv',hR'⟩:=tokMove H hh hv (by rw[hR];exact hd) (n':=symBase+j) (by rw[hR];exact dl_sym h13)
      obtain⟨i,z,hi,_,_⟩:=zeroA_sound (K:=K) h4
      obtain⟨base,n,cap,hse,hn⟩:∃base n cap,ρ s=.slice base n cap∧n≤cap:=by
       generalize ρ s=sv at hv
       cases hv with
       |trows _ _ g us hm hn hsz hc hr=>exact⟨_,_,_,rfl,hn⟩
      obtain⟨a,c,hxe⟩:∃a c,ρ x=.slice a 0 c:=by
       generalize ρ x=xv at hx'
       cases hx' with
       |rows _ a cap g off sz us ha hn _ _ _=>exact⟨a,cap,rfl⟩
      refine⟨_,ρ s,w,K',exec_append ha hts ho (v:=ρ s) ?_,.inl rfl,.tsym _ j _ (by rw[hR',hR];exact h13) hv',st,Frm.refl _ _⟩
      rw[hse,hxe]
      exact run_append_none t o.type e' i h1 hi base a n cap c hn w
     ·cases hq
    ·cases hq
   ·split at hq
    ·rename_i hn
     cases hq
     have he:=isNil_eq hn
     subst he
     exact absurd rfl (h9 rfl)
    ·cases hq
  |cons c0 cs0=>
  subst hes'
  have hall:(c0::cs0).all (fun c=>c.length==sz)=true:=by rw[List.all_eq_true];intro c hc;simpa using h10 c hc
  split at hq
  ·rename_i tk lc htk
   obtain⟨hv,_,hdl⟩:=tokOf_spec hR hs htk h7
   split at hq
   ·rename_i e' sz' lc' hh
    split at hq
    ·rename_i hc
     obtain⟨rfl,rfl,rfl⟩:=hc
     cases hq
     have hd:dl R lc'=es.length:=hdl (by unfold symBase;omega)
     have hg:appendG (dl R) (fun _=>symBase+j) P t (.trows tk es) (c0::cs0) h=some (.trows h.length (es++c0::cs0),h.set tk .dead++[.tok e' sz' (symBase+j)],[tk]):=by
      unfold appendG
      simp only[h1,h2,h3,h4]
      rw[if_pos ⟨h5,h6,hall⟩]
      simp only[hh]
      rw[if_pos ⟨trivial,trivial,hd.symm,by rw[hd];exact h11,by rw[hd];exact h12⟩]
     refine Eff.closed hR (fun K' u hK hu=>.tsym _ j _ (by rw[hK];exact h13) hu) (appendG_sound H ha hts ho hv (.inl hx') hg (fun n _=>by rw[hR]) (fun es2 h2 _=>?_) (fun hn=>by cases hn))
     cases h2
     rw[hR,dl_sym h13,List.length_append]
    ·cases hq
   ·cases hq
  ·split at hq
   ·rename_i hn
    cases hq
    have he:=isNil_eq hn
    subst he
    have hes:es=[]:=by
     have e:rowsN (.pv (.lit (.slice none 0 0)))=some es:=by simpa[YtfphhabaeggenaaDoor.nrm,AV.toPV,openAV,openPV] using h7
     simpa[rowsN,isNilSlice] using e.symm
    subst hes
    have hg:appendG (dl R) (fun _=>symBase+j) P t (.pv (.lit (.slice none 0 0))) (c0::cs0) h=some (.trows h.length (c0::cs0),h++[.tok e sz (symBase+j)],[]):=by
     unfold appendG
     simp only[h1,h2,h3,h4]
     rw[if_pos ⟨h5,h6,hall⟩]
     rw[if_pos ⟨rfl,by simpa using h11,by simpa using h12⟩]
    refine Eff.closed hR (fun K' u hK hu=>.tsym _ j _ (by rw[hK];exact h13) hu) (appendG_sound H ha hts ho hs (.inl hx') hg (fun n _=>by rw[hR]) (fun es2 h2 _=>?_) (fun _ _=>?_))
    ·cases h2
    ·rw[hR,dl_sym h13];rfl
   ·cases hq
 ·rename_i hl
  cases hq
  obtain⟨e,sz,by_,zc,h1,h2,h3,h4,h5,h6⟩:=lkApp_ok ht hl
  obtain⟨es,hes⟩:=Option.isSome_iff_exists.1 h5
  have hx':=rowsN_rows hR hx h6
  have hs':=rowsN_rows hR hs hes
  obtain⟨i,z,hi,_,_⟩:=zeroA_sound (K:=K) h4
  obtain⟨base,n,cap,hse,hn⟩:∃base n cap,ρ s=.slice base n cap∧n≤cap:=by
   rcases hs' with hs'|⟨_,hs'⟩
   ·generalize ρ s=sv at hs'
    cases hs' with
    |rows _ a cap g off sz us ha hn _ _ _=>exact⟨a,_,cap,rfl,hn⟩
   ·exact⟨none,0,0,hs',Nat.le_refl _⟩
  obtain⟨a,c,hxe⟩:∃a c,ρ x=.slice a 0 c:=by
   rcases hx' with hx'|⟨_,hx'⟩
   ·generalize ρ x=xv at hx'
    cases hx' with
    |rows _ a cap g off sz us ha hn _ _ _=>exact⟨a,cap,rfl⟩
   ·exact⟨none,0,hx'⟩
  refine⟨_,ρ s,w,K,exec_append ha hts ho (v:=ρ s) ?_,.inl rfl,hs,Step.refl H,Frm.refl _ _⟩
  rw[hse,hxe]
  exact run_append_none t o.type e i h1 hi base a n cap c hn w
 ·cases hq
theorem row_same{k k' j sz:Nat}(hj:j<sz)(h1:k*sz≤k'*sz+j)(h2:k'*sz+j<k*sz+sz):k'=k:=by
 rcases Nat.lt_trichotomy k' k with h|h|h
 ·have:=Nat.mul_le_mul_right sz h
  rw[Nat.succ_mul] at this;omega
 ·exact h
 ·have:=Nat.mul_le_mul_right sz h
  rw[Nat.succ_mul] at this;omega
theorem AR.set{K:Kn}{a g sz:Nat}{p q:PV}{cur:Array Value}(hr:AR K a g sz p cur)(hcs:cur.size=K.Z g*sz){es:List (List PV)}(he:openPV K.R p=.rows es){k:Nat}(hk:k<es.length){o:Nat}{c:List PV}{us:List Value}
  (hl:c.length=us.length) (ho:o+c.length≤es[k].length) (hq:openPV K.R q=.rows (es.set k (setAt es[k] o c))) (hns:nsPss (es.set k (setAt es[k] o c))=true)
  (hv:∀i (h:i<c.length) (h':i<us.length),PR K.R K.M c[i] us[i]):AR K a g sz q (setAt cur.toList (k*sz+o) us).toArray∧k*sz+o+us.length≤cur.size:=by
 obtain⟨es',h1,h2,h3,h4,h5,h6⟩:=hr.row
 rw[he] at h1
 injection h1 with h1
 subst h1
 have hE:=hr.el
 have hsz:=h5 k hk
 rw[hE] at hsz h6
 have hfit:k*sz+o+us.length≤cur.size:=by
  have:=Nat.mul_le_mul_right sz (show k+1≤K.Z g by omega)
  rw[Nat.succ_mul] at this
  omega
 have hfit':k*sz+o+us.length≤cur.toList.length:=by simpa using hfit
 have hlen:∀k' (h:k'<(es.set k (setAt es[k] o c)).length),(es.set k (setAt es[k] o c))[k'].length=sz:=by
  intro k' hk'
  rw[List.getElem_set]
  split
  ·rw[setAt_len ho];exact hsz
  ·have:=h5 k' (by simpa using hk');rw[hE] at this;exact this
 refine⟨⟨hE,hr.none,_,hq,hns,by simpa using h3,by simpa using h4,fun k' hk'=>by rw[hE];exact hlen k' hk',fun k' hk' j hj=>?_⟩,hfit⟩
 rw[hE]
 have hjs:j<sz:=by rw[←hlen k' hk'];exact hj
 have hcur:(setAt cur.toList (k*sz+o) us).toArray[k'*sz+j]? = if k*sz+o≤k'*sz+j∧k'*sz+j<k*sz+o+us.length then us[k'*sz+j-(k*sz+o)]? else cur[k'*sz+j]?:=by
  rw[List.getElem?_toArray,setAt_get hfit']
  simp only[Array.getElem?_toList]
 rw[hcur]
 by_cases e:k=k'
 ·subst e
  have hes:(es.set k (setAt es[k] o c))[k]'hk'=setAt es[k] o c:=by rw[List.getElem_set_self]
  have hget:∀(x:PV),(setAt es[k] o c)[j]? = some x→(es.set k (setAt es[k] o c))[k][j]=x:=by
   intro x hx
   have:(es.set k (setAt es[k] o c))[k][j]? = some x:=by rw[hes];exact hx
   rw[List.getElem?_eq_getElem hj] at this
   exact Option.some.inj this
  by_cases hin:o≤j∧j<o+c.length
  ·rw[if_pos (by omega),show k*sz+j-(k*sz+o)=j-o by omega]
   have hu:j-o<us.length:=by omega
   refine⟨_,List.getElem?_eq_getElem hu,?_⟩
   have hc:j-o<c.length:=by omega
   rw[hget c[j-o] (by rw[setAt_get ho,if_pos hin,List.getElem?_eq_getElem hc])]
   exact hv _ hc hu
  ·rw[if_neg (by omega)]
   have hj':j<es[k].length:=by rw[hsz];exact hjs
   obtain⟨v,a1,a2⟩:=h6 k hk j hj'
   refine⟨v,a1,?_⟩
   rw[hget es[k][j] (by rw[setAt_get ho,if_neg hin,List.getElem?_eq_getElem hj'])]
   exact a2
 ·have hk2:k'<es.length:=by simpa using hk'
  have hes:(es.set k (setAt es[k] o c))[k']=es[k']:=by rw[List.getElem_set_ne e]
  rw[if_neg (fun h=>e (row_same (k:=k) (k':=k') hjs (by omega) (by rw[hl.symm] at h;omega)).symm)]
  have hj':j<es[k'].length:=by rw[←hes];exact hj
  obtain⟨v,a1,a2⟩:=h6 k' hk2 j hj'
  refine⟨v,a1,?_⟩
  have:(es.set k (setAt es[k] o c))[k'][j]=es[k'][j]:=by simp only[hes]
  rw[this];exact a2
theorem killed{h:List AObj}{a:Nat}(j:Nat)(x:AObj)(hj:(h.set a .dead)[j]? = some x)(hl:x.live=true):h[j]? = some x∧j≠a:=by
 rw[List.getElem?_set] at hj
 by_cases ej:a=j
 ·rw[if_pos ej] at hj
  split at hj
  ·cases hj;cases hl
  ·cases hj
 ·rw[if_neg ej] at hj;exact⟨hj,fun e=>ej e.symm⟩
theorem arrStore_sound{R:Nat→PV}{P:Program}{tab:List SF}(ht:TabOk R P tab){o:Oper}{ρ:Operand→Value}{ρA:Operand→Option AV}{K:Kn}{h:List AObj}{w:World}(hR:K.R=R)(H:WR K h w)(hρ:∀x v,ρA x=some v→VR K v (ρ x))
  {t:TypeId} {x y:Operand} {a off:Nat} {ip p:PV} {v:AV} {ty:TypeId} {sz s j:Nat} {c:List PV} (ho:o.op=.store t x y) (hx:ρA x=some (.aptr a ip off)) (hy:ρA y=some v) (hrow:aRow h a=some (ty,sz,p)) (hc:toPVs v.cells=some c) (hs:szA P t=some s) (hl:lkSet p ip off c tab=some j) (hsc:s=c.length) (hcell:v.cells.all AV.isCell=true) :
  Eff P o ρ K h w (.tup []) (h.set a (.arr ty sz (.sym j))) [a]:=by
 obtain⟨g,cur,hm,hw,hsz,hr⟩:=H.arr a ty sz p (aRow_some hrow)
 obtain⟨es0,he0,_,hlen0,hZ0,_⟩:=hr.row
 obtain⟨es,n,kd,h1,h2,h3,h4,h5,h6,h7⟩:=lkSet_ok ht hl
 rw[hR] at he0
 rw[he0] at h1
 injection h1 with h1
 subst h1
 have hE:=hr.el
 have hcs:cur.size=K.Z g*sz:=by rw[←hE];exact hsz.1
 have hxv:=hρ x _ hx
 generalize hxe:ρ x=xv at hxv
 cases hxv with
 |aptr _ _ _ g' k kd' hm' hik hk=>
  rw[hm] at hm'
  cases hm'
  rw[hR] at hik
  have hkn:=hik.int_eq h2
  have hkn':n.toNat=k:=by omega
  rw[hkn'] at h4 h5 h6
  have hgd:es0.getD k []=es0[k]:=by rw[List.getD_eq_getElem?_getD,List.getElem?_eq_getElem h4];rfl
  rw[hgd] at h5 h6
  have hyv:=(hρ y v hy).cells
  have hps:=toPVs_sound hyv hc
  have hcl:c.length=(ρ y).cells.toList.length:=hps.1
  have hop:(openPs R c).length=c.length:=by rw[openPs_eq,List.length_map]
  have hset:=AR.set hr hcs (p:=p) (q:=.sym j) (by rw[hR];exact he0) h4 (o:=off) (c:=openPs R c) (us:=(ρ y).cells.toList) (by rw[hop];exact hcl) h5 (by rw[hR,openPV];exact h6)
   (by rw[h6] at h7;rw[nsP] at h7;exact h7) (fun i hi hi'=>by
    have hi2:i<c.length:=by rw[←hop];exact hi
    have:=(hps.2 i hi2 hi').opened
    have e1:(openPs R c)[i]=openPV R c[i]:=by simp only[openPs_eq,List.getElem_map]
    rw[e1,←hR];exact this)
  have hone:=all_cell hyv hcell
  have hst:=run_storeCells_at P g (k*sz+off) ty (ρ y).cells.toList 0 cur w hw (by have:=hset.2;simp at this ⊢;omega) hone
  simp only[Nat.add_zero] at hst
  rw[hE] at hxe
  refine⟨.skip,_,w.setRow g (setAt cur.toList (k*sz+off) (ρ y).cells.toList).toArray,K,?_,.inr ⟨rfl,rfl⟩,VR.undef K,?_,?_⟩
  ·have hlen:(ρ y).cells.size=s:=by rw[hsc,hcl];simp
   simp[execOp,ho,Instr.storeAt,Instr.sureAddr,hxe,storeVar,szA_run hs,hlen]
   simp only[Array.length_toList] at hst
   rw[hlen] at hst
   rw[hst]
   simp[setAt,hlen]
  ·refine Step.store H a (.arr ty sz p) (.arr ty sz (.sym j)) g (aRow_some hrow) rfl rfl hm ⟨_,setRow_heap w g cur _ ty _ hw,⟨?_,hsz.2⟩,hset.1⟩ (fun o=>hr.none o) ⟨rfl,rfl,rfl,by simp[World.setRow],fun k _ hk=>setRow_other w g k _ hk⟩ (by simp[World.setRow]) (fun k hk=>setRow_other w g k _ hk)
   rw[List.size_toArray,setAt_len (by have:=hset.2;simp at this ⊢;omega)]
   simpa using hsz.1
  ·exact⟨rfl,rfl,rfl,by simp[World.setRow],fun k hk hs=>setRow_other w g k _ (fun e=>hs ⟨a,_,by simp,aRow_some hrow,rfl,by rw[e];exact hm⟩)⟩
theorem arrMake_sound{R:Nat→PV}{P:Program}{tab:List SF}(ht:TabOk R P tab){o:Oper}{ρ:Operand→Value}{ρA:Operand→Option AV}{K:Kn}{h:List AObj}{w:World}(hR:K.R=R)(H:WR K h w)(hρ:∀x v,ρA x=some v→VR K v (ρ x))
  {t:TypeId} {l c:Operand} {lv cv:AV} {j sz:Nat} {e:TypeId} (ho:o.op=.makeSlice t l c) (hl:ρA l=some lv) (hc:ρA c=some cv) (hk:lkMk t (nrm lv) tab=some j) (heq:eqA (nrm lv) (nrm cv)=true) (hu:P.underlying t=some (.slice e)) (hs:szA P e=some sz) :
  Eff P o ρ K h w (.arr h.length) (h++[.arr e sz (.sym j)]) []:=by
 obtain⟨e',sz',by_,zc,z0,k,a1,a2,a3,a4,a5,a6,a7,a8,a9,a10,a11,a12⟩:=lkMk_ok ht hk
 rw[hu] at a1
 cases a1
 rw[hs] at a2
 cases a2
 have heq:=eqA_eq heq
 have hlv:=((hρ l _ hl).nrm).opened hR
 have hcv:=((hρ c _ hc).nrm).opened hR
 rw[←heq] at hcv
 obtain⟨k1,hk1⟩:=intV_sound hlv a8
 obtain⟨k2,hk2⟩:=intV_sound hcv a8
 obtain⟨i,z,hi,hiz,hvz⟩:=zeroA_sound (K:=K) a4
 have his:i.size=sz:=by unfold szA at hs;rw[hi] at hs;simpa using hs
 have hib:i.bytes=by_:=by unfold bytesA at a3;rw[hi] at a3;simpa using a3
 have hbytes:(i.bytes:Int)*(k:Int)≤281474976710656:=by
  rw[hib]
  have:((k*by_:Nat):Int)≤140737488355328:=Int.ofNat_le.2 a10
  rw[Int.natCast_mul,Int.mul_comm] at this
  omega
 have hrun:=run_make (P:=P) w t e i z hu hi hiz k1 k2 (k:Int) (k:Int) (by omega) (Int.le_refl _) hbytes (by omega)
 rw[his,Int.toNat_natCast] at hrun
 have hms:(madeCells z.cells (k*sz)).size=k*sz:=size_madeCells _ _
 have hzs:z.cells.size=sz:=by have:=hvz.1;simp at this;omega
 have hpz:=toPVs_sound hvz a5
 have hz0:z0.length=sz:=by rw[hpz.1];simpa using hzs
 rw[a11] at a12
 rw[nsP] at a12
 obtain⟨K',st,m1,m2,m3,m4⟩:=Step.putArr H (h1:=h) (w':=w.alloc (.cells (madeCells z.cells (k*sz)) e)) e sz (.sym j) w.heap.size k _ (List.replicate k z0) (by rw[hR,openPV];exact a11) a12 (heap_alloc_new w _) hms (by unfold maxLen;omega) (by simp)
  (fun i hi=>by simp[hz0]) (fun i hi jj hj=>by
   have hi':i<k:=by simpa using hi
   have hj':jj<sz:=by simpa[hz0] using hj
   have hidx:i*sz+jj<k*sz:=idx_lt hi' hj'
   refine⟨z.cells.toList[jj]'(by simpa[hzs] using hj'),?_,?_⟩
   ·have hmod:(i*sz+jj)%z.cells.size=jj:=by rw[hzs,Nat.mul_comm,Nat.mul_add_mod];exact Nat.mod_eq_of_lt hj'
    simp only[madeCells]
    rw[Array.getElem?_map,Array.getElem?_range,if_pos hidx]
    simp only[Option.map_some,hmod,Array.getElem_toList]
    rw[getElem!_pos z.cells jj (by rw[hzs];exact hj')]
   ·have:=hpz.2 jj (by rw[hz0];exact hj') (by simpa[hzs] using hj')
    simpa using this)
  (by simp) ((Frm.alloc (fun _=>False) w _).mono (fun _ _ h=>h.elim)) (fun o=>H.noM (Nat.le_refl _) o) rfl (fun j x hj _=>⟨hj,fun hm=>by have:=H.lt j _ hm;omega⟩) (fun i hi=>by have:=H.lt i _ hi;omega) (.inl (Nat.le_refl _))
 refine⟨.value (.slice (some ⟨w.heap.size,0,none⟩) k k),_,_,K',?_,.inl rfl,?_,st,Frm.alloc _ _ _⟩
 ·have e1:=(hρ l _ hl).nrm
  simp only[execOp,ho,hk1,hk2,Sem.run_bind,hrun,Result.andThen_ok,Sem.run_pure]
 ·have:=VR.arr (K:=K') h.length w.heap.size k m1 (by rw[m2];simp) (by rw[m3];exact Nat.le_refl _)
  rw[m2,List.length_replicate] at this
  exact this
theorem app_cells{K:Kn}{es es':List (List PV)}{sz:Nat}{old news:List Value}(hold:old.length=es.length*sz)(hel:∀k (h:k<es.length),es[k].length=sz)(hel':∀k (h:k<es'.length),es'[k].length=sz)
  (h1:∀k (h:k<es.length) j (hj:j<es[k].length),∃v,old[k*sz+j]? = some v∧PR K.R K.M es[k][j] v) (h2:∀k (h:k<es'.length) j (hj:j<es'[k].length),∃v,news[k*sz+j]? = some v∧PR K.R K.M es'[k][j] v)
  {cur:Array Value} (hc:∀(x:Nat) (v:Value),(old++news)[x]? = some v→cur[x]? = some v) :
  (∀k (h:k<(es++es').length),(es++es')[k].length=sz)∧∀k (h:k<(es++es').length) j (hj:j<(es++es')[k].length),∃v,cur[k*sz+j]? = some v∧PR K.R K.M (es++es')[k][j] v:=by
 constructor
 ·intro k hk
  rw[List.getElem_append]
  split
  ·exact hel k _
  ·exact hel' _ _
 ·intro k hk j hj
  by_cases hlt:k<es.length
  ·have e:(es++es')[k]=es[k]:=List.getElem_append_left hlt
   have hj':j<es[k].length:=by rw[←e];exact hj
   obtain⟨v,a1,a2⟩:=h1 k hlt j hj'
   refine⟨v,hc _ _ ?_,by simp only[e];exact a2⟩
   rw[List.getElem?_append_left (by rw[hold];exact idx_lt hlt (by rw[←hel k hlt];exact hj'))]
   exact a1
  ·have hk':k-es.length<es'.length:=by simp at hk;omega
   have e:(es++es')[k]=es'[k-es.length]:=List.getElem_append_right (by omega)
   have hj':j<es'[k-es.length].length:=by rw[←e];exact hj
   obtain⟨v,a1,a2⟩:=h2 _ hk' j hj'
   refine⟨v,hc _ _ ?_,by simp only[e];exact a2⟩
   have e2:k*sz+j=old.length+((k-es.length)*sz+j):=by
    rw[hold]
    have:k=es.length+(k-es.length):=by omega
    rw[this,Nat.add_mul,show es.length+(k-es.length)-es.length=k-es.length by omega]
    omega
   rw[e2,List.getElem?_append_right (by omega),Nat.add_sub_cancel_left]
   exact a1
theorem arrApp_sound{R:Nat→PV}{P:Program}{tab:List SF}(ht:TabOk R P tab){o:Oper}{ρ:Operand→Value}{K:Kn}{h:List AObj}{w:World}(hR:K.R=R)(H:WR K h w)
  {args:Array Operand} {s x:Operand} (ha:args.toList=[s,x]) {t:TypeId} {ts:Array TypeId} (hts:ts.toList=[t,t]) (ho:o.op=.call ⟨.builtin .append,args,ts⟩) {e:TypeId} (hu:P.underlying t=some (.slice e)) {a sz:Nat} {xv:AV} {p:PV} {j:Nat}
  (hsv:VR K (.arr a) (ρ s)) (hxv0:VR K xv (ρ x)) (hsz:szA P e=some sz) (hrow:aRow h a=some (e,sz,p)) (hl:lkApq t (.pv p) (nrm xv) tab=some j) :
  Eff P o ρ K h w (.arr h.length) (h.set a .dead++[.arr e sz (.sym j)]) [a]:=by
 obtain⟨⟨e',sz',by_,zc,es,es',a1,a2,a3,a4,a5,a6,a7,a8,a9,a10,a11,a12,a13⟩,hns⟩:=lkApq_ok ht hl
 rw[hu] at a1
 cases a1
 rw[hsz] at a2
 cases a2
 obtain⟨g,cur,hm,hw,⟨hcs,hZ⟩,hr⟩:=H.arr a e sz p (aRow_some hrow)
 obtain⟨es0,he0,hns0,hlen0,hZ0,hel0,hcell0⟩:=hr.row
 have hE:=hr.el
 rw[hE] at hel0 hcell0 hcs
 have hes:es0=es:=by
  rw[hR] at he0
  rw[openAV,he0] at a7
  simpa[rowsN,isNilSlice,rowsOf] using a7
 subst hes
 have hxv:=rowsOf_rows hR hxv0 a8
 have hel':∀k (h:k<es'.length),es'[k].length=sz:=fun k hk=>a10 _ (List.getElem_mem hk)
 obtain⟨gx,ox,capx,news,hxe,hnl,hnM,hnP⟩:=row_news hxv a9 hel' a5
 have hncell:∀j u,news[j]? = some u→w.cell? ((⟨gx,ox,none⟩:Addr).add j)=some u:=fun j u hj=>by rw[add_mid];exact H.agr _ _ _ (hnM j u hj)
 obtain⟨i,z,hi,hiz,hvz⟩:=zeroA_sound (K:=K) a4
 have his:i.size=sz:=by unfold szA at hsz;rw[hi] at hsz;simpa using hsz
 have hib:i.bytes=by_:=by unfold bytesA at a3;rw[hi] at a3;simpa using a3
 have hzs:z.cells.size=sz:=by have:=hvz.1;simp at this;omega
 have h1:∀u∈news,u.oneCell'=true:=fun u hu=>by
  obtain⟨x,hx1,hx2⟩:=List.mem_iff_getElem.1 hu
  have hxl:x<es'.length*sz:=by rw[←hnl];exact hx1
  have hd:x/sz<es'.length:=Nat.div_lt_of_lt_mul (by rw[Nat.mul_comm];exact hxl)
  obtain⟨v,b1,b2⟩:=hnP (x/sz) hd (x%sz) (by rw[hel' _ hd];exact Nat.mod_lt _ a5)
  rw[show x/sz*sz+x%sz=x by rw[Nat.mul_comm];exact Nat.div_add_mod x sz,List.getElem?_eq_getElem hx1] at b1
  rw[←hx2,Option.some.inj b1]
  exact b2.one
 have hlpos:0<es'.length:=List.length_pos_iff.2 a9
 have hmul:(es0.length+es'.length)*sz=es0.length*sz+es'.length*sz:=Nat.add_mul _ _ _
 have hole:es0.length*sz≤cur.size:=by rw[hcs];exact Nat.mul_le_mul_right _ hZ0
 have hold:(cur.toList.take (es0.length*sz)).length=es0.length*sz:=by simp;omega
 have holdc:∀k (h:k<es0.length) j (hj:j<es0[k].length),∃v,(cur.toList.take (es0.length*sz))[k*sz+j]? = some v∧PR K.R K.M es0[k][j] v:=by
  intro k hk j hj
  obtain⟨v,b1,b2⟩:=hcell0 k hk j hj
  refine⟨v,?_,b2⟩
  rw[List.getElem?_take,if_pos (idx_lt hk (by rw[←hel0 k hk];exact hj)),Array.getElem?_toList]
  exact b1
 have hq:openPV K.R (.sym j)=.rows (es0++es'):=by rw[hR,openPV];exact a13
 have hns2:nsPss (es0++es')=true:=by rw[a13,nsP] at hns;exact hns
 generalize hse:ρ s=sv at hsv
 have hsetlen:(h.set a .dead).length=h.length:=by simp
 cases hsv with
 |arr _ g' cap hm' hnc hcap=>
  rw[hm] at hm'
  cases hm'
  rw[←hlen0] at hse hnc
  by_cases hroom:es0.length+es'.length≤cap
  ·have hfit:es0.length*sz+news.length≤cur.size:=by rw[hnl,hcs,←hmul];exact Nat.mul_le_mul_right _ (by omega)
   have hrun:=run_append_room (P:=P) w t o.type e i hu hi g es0.length cap cur hw ⟨gx,ox,none⟩ es'.length capx news (by rw[his];exact hnl) hncell h1 hroom (by rw[his];exact hfit)
   rw[his] at hrun
   rw[←hse,←hxe] at hrun
   generalize hcur:(cur.toList.take (es0.length*sz)++news++cur.toList.drop (es0.length*sz+news.length)).toArray=cur' at hrun
   obtain⟨c1,c2⟩:=app_cells (K:=K) hold hel0 hel' holdc hnP (cur:=cur') (fun x v hx=>by
    rw[←hcur,List.getElem?_toArray]
    have hxl:x<(cur.toList.take (es0.length*sz)++news).length:=by
     by_cases hh:x<(cur.toList.take (es0.length*sz)++news).length
     ·exact hh
     ·rw[List.getElem?_eq_none (by omega)] at hx;cases hx
    rw[List.getElem?_append_left hxl];exact hx)
   obtain⟨K',st,m1,m2,m3,m4⟩:=Step.putArr H (h1:=h.set a .dead) (w':=w.setRow g cur') e sz (.sym j) g (K.Z g) cur' (es0++es') hq hns2 (setRow_heap w g cur cur' e _ hw) (by rw[←hcur,←hcs];simp;omega) hZ (by simp;omega) c1 c2
    (by have:=heap_lt hw;simpa[World.setRow] using this) ⟨rfl,rfl,rfl,by simp[World.setRow],fun k _ hk=>setRow_other w g k _ hk⟩ hr.none hsetlen (fun j x hj hl=>by
     obtain⟨h2,h3⟩:=killed j x hj hl
     exact⟨h2,fun e=>h3 (H.inj j a x _ g h2 (aRow_some hrow) hl rfl e hm)⟩) (fun _ _=>⟨rfl,hE⟩) (.inr ⟨a,_,aRow_some hrow,rfl,hm⟩)
   refine⟨_,_,_,K',exec_append ha hts ho hrun,.inl rfl,?_,st,⟨rfl,rfl,rfl,by simp[World.setRow],fun k _ hk=>setRow_other w g k _ (fun e=>hk ⟨a,_,by simp,aRow_some hrow,rfl,by rw[e];exact hm⟩)⟩⟩
   have:=VR.arr (K:=K') h.length g cap m1 (by rw[m2];simpa using hroom) (by rw[m3];exact hcap)
   rw[m2,List.length_append] at this
   exact this
  ·have holds:∀j v,(cur.toList.take (es0.length*sz))[j]? = some v→w.cell? ((⟨g,0,none⟩:Addr).add j)=some v:=by
    intro j v hj
    have hjl:j<es0.length*sz:=by
     by_cases hh:j<es0.length*sz
     ·exact hh
     ·rw[List.getElem?_eq_none (by omega)] at hj;cases hj
    rw[add_mid,Nat.zero_add]
    rw[List.getElem?_take,if_pos hjl,Array.getElem?_toList] at hj
    simp[World.cell?,hw,hj]
   have hrun:=run_append_grow (P:=P) w t o.type e i z hu hi hiz ⟨g,0,none⟩ es0.length cap (cur.toList.take (es0.length*sz)) (by rw[his];exact hold) holds ⟨gx,ox,none⟩ es'.length capx news (by rw[his];exact hnl) hncell (by omega) (by omega) (growslice_fits (by omega) (by rw[hib];exact a12))
   rw[←hse,←hxe] at hrun
   have hge:=grownCap_ge w (es0.length+es'.length) cap e
   have hcm:=grownCap_le_maxLen w (es0.length+es'.length) cap e (by unfold maxLen;omega)
   generalize grownCap w (es0.length+es'.length) cap e=cap' at *
   generalize hcur:(cur.toList.take (es0.length*sz)).toArray++news.toArray++Builtin.zeroCells z.cells (cap'-(es0.length+es'.length))=cur' at hrun
   have hcurs:cur'.size=cap'*sz:=by
    rw[←hcur]
    simp only[Array.size_append,List.size_toArray,size_zeroCells,hzs,hnl,hold,←Nat.add_mul]
    congr 1
    omega
   obtain⟨c1,c2⟩:=app_cells (K:=K) hold hel0 hel' holdc hnP (cur:=cur') (fun x v hx=>by
    have e5:((cur.toList.take (es0.length*sz)).toArray++news.toArray++Builtin.zeroCells z.cells (cap'-(es0.length+es'.length))).toList=(cur.toList.take (es0.length*sz)++news)++(Builtin.zeroCells z.cells (cap'-(es0.length+es'.length))).toList:=by simp
    rw[←hcur,←Array.getElem?_toList,e5]
    have hxl:x<(cur.toList.take (es0.length*sz)++news).length:=by
     by_cases hh:x<(cur.toList.take (es0.length*sz)++news).length
     ·exact hh
     ·rw[List.getElem?_eq_none (by omega)] at hx;cases hx
    rw[List.getElem?_append_left hxl];exact hx)
   obtain⟨K',st,m1,m2,m3,m4⟩:=Step.putArr H (h1:=h.set a .dead) (w':=w.drew.alloc (.cells cur' e)) e sz (.sym j) w.heap.size cap' cur' (es0++es') hq hns2 (heap_alloc_new w.drew _) hcurs hcm (by simp;omega) c1 c2
    (by simp) (Frm.drewAlloc _ _ _) (fun o=>H.noM (Nat.le_refl _) o) hsetlen (fun j x hj hl=>by
     obtain⟨h2,h3⟩:=killed j x hj hl
     exact⟨h2,fun e=>by have:=H.lt j _ e;omega⟩) (fun i hi=>by have:=H.lt i _ hi;omega) (.inl (Nat.le_refl _))
   refine⟨_,_,_,K',exec_append ha hts ho hrun,.inl rfl,?_,st,Frm.drewAlloc _ _ _⟩
   have:=VR.arr (K:=K') h.length w.heap.size cap' m1 (by rw[m2];simpa using hge) (by rw[m3];exact Nat.le_refl _)
   rw[m2,List.length_append] at this
   exact this
theorem arrApp0_sound{R:Nat→PV}{P:Program}{tab:List SF}(ht:TabOk R P tab){o:Oper}{ρ:Operand→Value}{ρA:Operand→Option AV}{K:Kn}{h:List AObj}{w:World}(hR:K.R=R)(H:WR K h w)(hρ:∀x v,ρA x=some v→VR K v (ρ x))
  {args:Array Operand} {s x:Operand} (ha:args.toList=[s,x]) {t:TypeId} {ts:Array TypeId} (hts:ts.toList=[t,t]) (ho:o.op=.call ⟨.builtin .append,args,ts⟩) {a:Nat} {xv:AV} {p:PV}
  (hs:ρA s=some (.arr a)) (hx:ρA x=some xv) (hl:lkApp t (.pv p) (nrm xv) tab=some none) :
  Eff P o ρ K h w (.arr a) h []:=by
 obtain⟨e,sz,by_,zc,h1,h2,h3,h4,h5,h6⟩:=lkApp_ok ht hl
 have hx':=rowsN_rows hR (hρ x _ hx) h6
 obtain⟨i,z,hi,_,_⟩:=zeroA_sound (K:=K) h4
 have hsv:=hρ s _ hs
 obtain⟨base,n,cap,hse,hn⟩:∃base n cap,ρ s=.slice base n cap∧n≤cap:=by
  generalize ρ s=sv at hsv
  cases hsv with
  |arr _ g cap hm hnc hz=>exact⟨_,_,cap,rfl,hnc⟩
 obtain⟨a',c,hxe⟩:∃a c,ρ x=.slice a 0 c:=by
  rcases hx' with hx'|⟨_,hx'⟩
  ·generalize ρ x=xv at hx'
   cases hx' with
   |rows _ a cap g off sz us ha hn _ _ _=>exact⟨a,cap,rfl⟩
  ·exact⟨none,0,hx'⟩
 refine⟨_,ρ s,w,K,exec_append ha hts ho (v:=ρ s) ?_,.inl rfl,hsv,Step.refl H,Frm.refl _ _⟩
 rw[hse,hxe]
 exact run_append_none t o.type e i h1 hi base a' n cap c hn w
theorem arrNil_sound{R:Nat→PV}{P:Program}{tab:List SF}(ht:TabOk R P tab){o:Oper}{ρ:Operand→Value}{ρA:Operand→Option AV}{K:Kn}{h:List AObj}{w:World}(hR:K.R=R)(H:WR K h w)(hρ:∀x v,ρA x=some v→VR K v (ρ x))
  {args:Array Operand} {s x:Operand} (ha:args.toList=[s,x]) {t:TypeId} {ts:Array TypeId} (hts:ts.toList=[t,t]) (ho:o.op=.call ⟨.builtin .append,args,ts⟩) {e:TypeId} (hu:P.underlying t=some (.slice e)) {sz:Nat} {sv xv:AV} {j:Nat}
  (hs:ρA s=some sv) (hx:ρA x=some xv) (hsz:szA P e=some sz) (hnil:isNilSlice sv=true) (hl:lkApq t (nrm sv) (nrm xv) tab=some j) :
  Eff P o ρ K h w (.arr h.length) (h++[.arr e sz (.sym j)]) []:=by
 obtain⟨⟨e',sz',by_,zc,es,es',a1,a2,a3,a4,a5,a6,a7,a8,a9,a10,a11,a12,a13⟩,hns⟩:=lkApq_ok ht hl
 rw[hu] at a1
 cases a1
 rw[hsz] at a2
 cases a2
 have hes:es=[]:=by
  rcases rowsN_rows hR (hρ s _ hs) a7 with h1|h1
  ·have key:∀v,PR K.R K.M (.rows es) v→v=.slice none 0 0→es=[]:=by
    intro v h e
    cases h with
    |rows _ a cap g off sz us=>injection e with _ e2 _;exact List.length_eq_zero_iff.1 e2
   exact key _ h1 (isNil_sound (hρ s _ hs) hnil)
  ·exact h1.1
 subst hes
 have hxv:=rowsOf_rows hR (hρ x _ hx) a8
 have hel':∀k (h:k<es'.length),es'[k].length=sz:=fun k hk=>a10 _ (List.getElem_mem hk)
 obtain⟨gx,ox,capx,news,hxe,hnl,hnM,hnP⟩:=row_news hxv a9 hel' a5
 have hncell:∀j u,news[j]? = some u→w.cell? ((⟨gx,ox,none⟩:Addr).add j)=some u:=fun j u hj=>by rw[add_mid];exact H.agr _ _ _ (hnM j u hj)
 obtain⟨i,z,hi,hiz,hvz⟩:=zeroA_sound (K:=K) a4
 have his:i.size=sz:=by unfold szA at hsz;rw[hi] at hsz;simpa using hsz
 have hib:i.bytes=by_:=by unfold bytesA at a3;rw[hi] at a3;simpa using a3
 have hzs:z.cells.size=sz:=by have:=hvz.1;simp at this;omega
 have hlpos:0<es'.length:=List.length_pos_iff.2 a9
 have hse:=isNil_sound (hρ s _ hs) hnil
 simp only[List.length_nil,Nat.zero_add] at a11 a12
 have hrun:=run_append_nil (P:=P) w t o.type e i z hu hi hiz ⟨gx,ox,none⟩ es'.length capx news (by rw[his];exact hnl) hncell (by omega) (by omega) (by rw[hib];omega)
 rw[←hse,←hxe] at hrun
 have hge:=grownCap_ge w es'.length 0 e
 have hcm:=grownCap_le_maxLen w es'.length 0 e (by unfold maxLen;omega)
 generalize grownCap w es'.length 0 e=cap at *
 generalize hcur:news.toArray++Builtin.zeroCells z.cells (cap-es'.length)=cur at hrun
 have hcurs:cur.size=cap*sz:=by
  rw[←hcur]
  simp only[Array.size_append,List.size_toArray,size_zeroCells,hzs,hnl,←Nat.add_mul]
  congr 1
  omega
 obtain⟨K',st,m1,m2,m3,m4⟩:=Step.putArr H (h1:=h) (w':=w.drew.alloc (.cells cur e)) e sz (.sym j) w.heap.size cap cur es' (by rw[hR,openPV];exact a13) (by rw[a13,nsP] at hns;exact hns) (heap_alloc_new w.drew _) hcurs hcm hge hel' (fun k hk jj hj=>by
   obtain⟨v,b1,b2⟩:=hnP k hk jj hj
   refine⟨v,?_,b2⟩
   rw[←hcur,←Array.getElem?_toList]
   have e5:(news.toArray++Builtin.zeroCells z.cells (cap-es'.length)).toList=news++(Builtin.zeroCells z.cells (cap-es'.length)).toList:=by simp
   rw[e5,List.getElem?_append_left (by rw[hnl];exact idx_lt hk (by rw[←hel' k hk];exact hj))]
   exact b1)
  (by simp) (Frm.drewAlloc _ _ _) (fun o=>H.noM (Nat.le_refl _) o) rfl (fun j x hj _=>⟨hj,fun hm=>by have:=H.lt j _ hm;omega⟩) (fun i hi=>by have:=H.lt i _ hi;omega) (.inl (Nat.le_refl _))
 refine⟨_,_,_,K',exec_append ha hts ho hrun,.inl rfl,?_,st,Frm.drewAlloc _ _ _⟩
 have:=VR.arr (K:=K') h.length w.heap.size cap m1 (by rw[m2];exact hge) (by rw[m3];exact Nat.le_refl _)
 rw[m2] at this
 exact this
theorem take_ns:∀(l:List (List PV)) (n:Nat),nsPss l=true→nsPss (l.take n)=true
 |[],n,_=>by simp[nsPss]
 |c::l,n,hl=>by
  rw[nsPss,Bool.and_eq_true] at hl
  cases n with
  |zero=>rfl
  |succ n=>rw[List.take_succ_cons,nsPss,hl.1,take_ns l n hl.2];rfl
theorem sliceA_zero{P:Program}{t:TypeId}{ρ:Operand→Option AV}{es:List (List PV)}{l:Operand}{hi mx:Option Operand}(hl:ρ l=some (.pv (.lit (.int .i64 0)))):sliceA P t ρ (.pv (.rows es)) (some l) hi mx=sliceA P t ρ (.pv (.rows es)) none hi mx:=by
 simp only[sliceA,rowsOf]
 have:boundA ρ 0 (some l)=some 0:=by simp[boundA,hl,intV]
 rw[this]
 rfl
theorem arrCut_sound{R:Nat→PV}{P:Program}{tab:List SF}(ht:TabOk R P tab){o:Oper}{ρ:Operand→Value}{ρA:Operand→Option AV}{K:Kn}{h:List AObj}{w:World}(hR:K.R=R)(H:WR K h w)(hρ:∀x v,ρA x=some v→VR K v (ρ x))
  {t:TypeId} {x y:Operand} (ho:o.op=.slice t x none (some y) none) {a:Nat} {q:PV} {yv:AV} {e ty:TypeId} {sz:Nat} {p:PV} (hx:ρA x=some (.arr a)) (hy:ρA y=some yv) (hu:P.underlying t=some (.slice e)) (hrow:aRow h a=some (ty,sz,p))
  (hf:lkSlc t (.pv p) (some (.pv (.lit (.int .i64 0)))) (some (nrm yv)) tab=some (.pv q)) (hs:szA P e=some sz):Eff P o ρ K h w (.arr h.length) (h.set a .dead++[.arr ty sz q]) [a]:=by
 obtain⟨g,cur,hm,hw,⟨hcs,hZ⟩,hr⟩:=H.arr a ty sz p (aRow_some hrow)
 obtain⟨es,he,hns,hlen,hZ0,hel,hcell⟩:=hr.row
 have hE:=hr.el
 rw[hE] at hel hcell hcs
 have k:=lkSlc_ok ht hf (fun w=>match w with | .tmp 0=>some (.pv (.lit (.int .i64 0)))|_=>some (openAV R (nrm yv))) (some (.tmp 0)) (some (.tmp 1)) rfl rfl
 rw[hR] at he
 rw[openAV,he,sliceA_zero rfl] at k
 obtain⟨kd,r,hrl,hyo,hq⟩:∃(kd:IntKind) (r:Nat),r≤es.length∧openAV R (nrm yv)=.pv (.lit (.int kd (r:Int)))∧openPV R q=.rows (es.take r):=by
  simp only[sliceA,rowsOf,hu,boundA,hs] at k
  cases hi:intV (openAV R (nrm yv)) with
  |none=>simp[hi] at k
  |some m=>
   rw[hi] at k
   have hlit:∃kd,openAV R (nrm yv)=.pv (.lit (.int kd m)):=by
    unfold intV at hi
    split at hi
    ·rename_i kd m' heq;cases hi;exact⟨kd,heq⟩
    ·cases hi
   obtain⟨kd,hkd⟩:=hlit
   by_cases h0:0≤m
   ·simp only[h0,if_true,hs] at k
    split at k
    ·rename_i hc
     refine⟨kd,m.toNat,hc.2.1,by rw[hkd,Int.toNat_of_nonneg h0],?_⟩
     rw[openAV] at k
     injection k with k
     injection k with k
     rw[←k];simp
    ·cases k
   ·simp[h0] at k
 have hye:ρ y=.int kd (r:Int):=by
  have hv1:=((hρ y yv hy).nrm).opened hR
  rw[hyo] at hv1
  generalize ρ y=z at hv1
  cases hv1 with|pv hv2=>cases hv2;rfl
 have hlt:(es.take r).length=r:=by simp;omega
 have hxv:=hρ x _ hx
 generalize hxe:ρ x=xv at hxv
 cases hxv with
 |arr _ g' cap hm' hnc hcap=>
  rw[hm] at hm'
  cases hm'
  obtain⟨K',st,m1,m2,m3,m4⟩:=Step.putArr H (h1:=h.set a .dead) (w':=w) ty sz q g (K.Z g) cur (es.take r) (by rw[hR];exact hq) (take_ns es r hns) hw hcs hZ (by omega) (fun k hk=>by
    rw[List.getElem_take];exact hel k (by omega)) (fun k hk jj hj=>by
    rw[List.getElem_take] at hj
    obtain⟨v,b1,b2⟩:=hcell k (by omega) jj hj
    refine⟨v,b1,?_⟩
    simp only[List.getElem_take];exact b2)
   (heap_lt hw) (Frm.refl _ w) hr.none (by simp) (fun j x hj hl=>by
    obtain⟨h2,h3⟩:=killed j x hj hl
    exact⟨h2,fun e=>h3 (H.inj j a x _ g h2 (aRow_some hrow) hl rfl e hm)⟩) (fun _ _=>⟨rfl,hE⟩) (.inr ⟨a,_,aRow_some hrow,rfl,hm⟩)
  rw[hlt] at m2
  have hv:=VR.arr (K:=K') h.length g cap m1 (by rw[m2];omega) (by rw[m3];omega)
  rw[m2] at hv
  refine⟨.value (.slice (some ⟨g,0,none⟩) r cap),_,w,K',?_,.inl rfl,hv,st,Frm.refl _ _⟩
  have hb1:∀(w':World) k c,(Instr.sliceBound (.int k (r:Int)) cap c).run P w'=.ok r w':=fun w' k c=>run_sliceBound w' k r cap c (by omega)
  simp[execOp,ho,hxe,hye,hb1,Instr.sliceAt,Instr.slice,Instr.sliceBounds,run_underlying hu,szA_run hs,Addr.add_lit]
theorem arrBld_sound{R:Nat→PV}{P:Program}{tab:List SF}(ht:TabOk R P tab){o:Oper}{ρ:Operand→Value}{ρA:Operand→Option AV}{K:Kn}{h:List AObj}{w:World}(hR:K.R=R)(H:WR K h w)(hρ:∀x v,ρA x=some v→VR K v (ρ x))
  {t:TypeId} {len:Nat} {parts:Array (Nat×Operand)} {ps:List (Nat×AV)} {e:TypeId} {s:Nat} {pvs:List PV} {j:Nat}
  (ho:o.op=.buildSlice t len parts) (hps:partsA ρA parts.toList=some ps) (hb:bslA P t len ps=some (e,s,pvs)) (hk:lkApq t (.pv (.rows [])) (.pv (.rows (chunk s len pvs))) tab=some j) :
  Eff P o ρ K h w (.arr h.length) (h++[.arr e s (.sym j)]) []:=by
 obtain⟨⟨e',sz',by_,zc',es,es',a1,a2,a3,a4,a5,a6,a7,a8,a9,a10,a11,a12,a13⟩,hns⟩:=lkApq_ok ht hk
 unfold bslA at hb
 split at hb
 ·rename_i e0 hu
  split at hb
  ·rename_i zc s' hz hs
   split at hb
   ·rename_i hc
    split at hb
    ·rename_i out hf
     split at hb
     ·rename_i pvs' hp
      cases hb
      rw[hu] at a1
      cases a1
      rw[hs] at a2
      cases a2
      have hes:es=[]:=by
       rw[openAV,openPV] at a7
       simpa[rowsN,isNilSlice,rowsOf,openPss] using a7.symm
      subst hes
      have hes':es'=openPss R (chunk s len pvs):=by
       rw[openAV,openPV] at a8
       simpa[rowsOf] using a8.symm
      obtain⟨ie,z,hi,hiz,hvz⟩:=zeroA_sound (K:=K) hz
      obtain⟨h1,h2⟩:=partsA_sound hρ _ _ hps
      have hies:ie.size=s:=by unfold szA at hs;rw[hi] at hs;simpa using hs
      obtain⟨us,hfill,hvu⟩:=fillA_sound _ ps (evParts ρ parts.toList) _ ((Array.range (len*s)).map (z.cells[· % z.cells.size]!)) out (zerosA_sound hvz (by omega) _) h1 h2 hf
      obtain⟨hpl,hpr⟩:=toPVs_sound hvu hp
      have hout:∀(ps:List (Nat×AV)) (cells out:List AV),fillA (fun i=>some (i*s,s)) cells ps=some out→out.length=cells.length:=by
       intro ps
       induction ps with
       |nil=>intro cells out hf;cases hf;rfl
       |cons q ps ih=>
        intro cells out hf
        obtain⟨qi,qv⟩:=q
        simp only[fillA] at hf
        split at hf
        ·cases hf
        ·rename_i hcond
         rw[ih _ _ hf]
         simp[setAt]
         omega
      have hol:=hout _ _ _ hf
      have hzl:(zerosA zc (len*s)).length=len*s:=by simp[zerosA]
      have husz:us.size=len*s:=by have:=hvu.1;simp at this;omega
      have hlen:len≤16777216:=Nat.le_trans (Nat.le_mul_of_pos_right len hc.1) hc.2.2
      have hrun:(execOp ρ o).run P w=.ok (.value (.slice (some ⟨w.heap.size,0,none⟩) len len)) (w.alloc (.cells us e)):=by
       have hp':(parts.map fun(i,x)=>(i,ρ x)).toList=evParts ρ parts.toList:=by simp[evParts]
       by_cases h0:len*s=0
       ·have hl0:len=0:=by
         rcases Nat.mul_eq_zero.1 h0 with h0|h0
         ·exact h0
         ·omega
        subst hl0
        have e0:∀f:Nat→Value,(Array.range (0*s)).map f = #[]:=fun f=>by apply Array.ext';simp
        rw[e0] at hfill
        simp only[execOp,ho,Instr.buildSlice,Sem.run_bind,run_underlying hu,Result.andThen_ok,szA_run hs]
        rw[if_neg (by simp),if_pos (by simp)]
        simp only[Sem.run_bind,Sem.run_pure,Result.andThen_ok,e0,hp',hfill]
        simp[newRow]
       ·have:=run_buildSlice (P:=P) w t e len (parts.map fun(i,x)=>(i,ρ x)) us ie z hu hi hiz (by rw[hies];have:=hc.2.2;omega) (by rw[hies];exact h0) (by rw[hies,hp'];exact hfill)
        simp only[execOp,ho,Sem.run_bind,this,Result.andThen_ok,Sem.run_pure]
      have hcl:(chunk s len pvs).length=len:=chunk_len _ _ _
      have hel':es'.length=len:=by rw[hes',openPss_eq,List.length_map];exact hcl
      obtain⟨K',st,m1,m2,m3,m4⟩:=Step.putArr H (h1:=h) (w':=w.alloc (.cells us e)) e s (.sym j) w.heap.size len us es' (by rw[hR,openPV];simpa using a13) (by rw[a13,nsP] at hns;simpa using hns) (heap_alloc_new w _) husz (by unfold maxLen;omega) (by omega)
       (fun k hk=>a10 _ (List.getElem_mem hk)) (fun k hk jj hj=>by
        have hk':k<len:=by omega
        have hjs:jj<s:=by rw[a10 _ (List.getElem_mem hk)] at hj;exact hj
        have hca:=chunk_at s len pvs (by rw[hpl];simpa using husz) k (by rw[hcl];exact hk')
        have hj2:jj<(chunk s len pvs)[k].length:=by rw[hca.1];exact hjs
        have hg:=hca.2 jj hj2
        have hlt:k*s+jj<pvs.length:=by
         by_cases hh:k*s+jj<pvs.length
         ·exact hh
         ·rw[List.getElem?_eq_none (by omega)] at hg;cases hg
        have hlt':k*s+jj<us.toList.length:=by omega
        refine⟨us.toList[k*s+jj],?_,?_⟩
        ·rw[←Array.getElem?_toList,List.getElem?_eq_getElem hlt']
        ·have hpv:=hpr (k*s+jj) hlt hlt'
         rw[List.getElem?_eq_getElem hlt] at hg
         rw[Option.some.inj hg] at hpv
         have hop:=hpv.opened
         rw[hR] at hop
         have he:es'[k][jj]=openPV R (chunk s len pvs)[k][jj]:=by
          have:es'[k]=openPs R (chunk s len pvs)[k]:=by simp only[hes',openPss_eq,List.getElem_map]
          simp only[this,openPs_eq,List.getElem_map]
         rw[he]
         rw[←hR] at hop ⊢
         exact hop)
       (by simp) ((Frm.alloc (fun _=>False) w _).mono (fun _ _ h=>h.elim)) (fun o=>H.noM (Nat.le_refl _) o) rfl (fun j x hj _=>⟨hj,fun hm=>by have:=H.lt j _ hm;omega⟩) (fun i hi=>by have:=H.lt i _ hi;omega) (.inl (Nat.le_refl _))
      refine⟨.value (.slice (some ⟨w.heap.size,0,none⟩) len len),_,_,K',hrun,.inl rfl,?_,st,Frm.alloc _ _ _⟩
      have:=VR.arr (K:=K') h.length w.heap.size len m1 (by rw[m2,hel'];exact Nat.le_refl _) (by rw[m3];exact Nat.le_refl _)
      rw[m2,hel'] at this
      exact this
     ·cases hb
    ·cases hb
   ·cases hb
  ·cases hb
 ·cases hb
theorem eArr_sound{R:Nat→PV}{P:Program}{tab:List SF}(ht:TabOk R P tab){o:Oper}{ρ:Operand→Value}{ρA:Operand→Option AV}{K:Kn}{h:List AObj}{w:World}(hR:K.R=R)(H:WR K h w)(hρ:∀x v,ρA x=some v→VR K v (ρ x)){v:AV}{h':List AObj}{touch:List Nat}
  (hq:eArr tab P ρA h o.op=some (v,h',touch)):Eff P o ρ K h w v h' touch:=by
 unfold eArr at hq
 split at hq
 ·rename_i t len parts ho
  split at hq
  ·cases hq
  ·split at hq
   ·rename_i ps hps
    split at hq
    ·rename_i e s pvs hb
     split at hq
     ·rename_i j hk
      cases hq
      exact arrBld_sound ht hR H hρ ho hps hb hk
     ·cases hq
    ·cases hq
   ·cases hq
 ·rename_i t x y ho
  split at hq
  ·rename_i a ip off va hx hy
   split at hq
   ·rename_i ty sz p c s hrow hc hs
    split at hq
    ·rename_i j hl
     split at hq
     ·rename_i hcond
      cases hq
      exact arrStore_sound ht hR H hρ ho hx hy hrow hc hs hl hcond.1 hcond.2
     ·cases hq
    ·cases hq
   ·cases hq
  ·cases hq
 ·rename_i t x y ho
  split at hq
  ·rename_i a yv hx hy
   split at hq
   ·rename_i ty sz p e hrow hu
    split at hq
    ·rename_i q s hf hs
     split at hq
     ·rename_i hc
      cases hq
      subst hc
      exact arrCut_sound ht hR H hρ ho hx hy hu hrow hf hs
     ·cases hq
    ·cases hq
   ·cases hq
  ·cases hq
 ·rename_i t l c ho
  split at hq
  ·rename_i lv cv hl hc
   split at hq
   ·rename_i j e hk he hu
    split at hq
    ·rename_i sz hs
     cases hq
     exact arrMake_sound ht hR H hρ ho hl hc hk he hu hs
    ·cases hq
   ·cases hq
  ·cases hq
 ·rename_i args ts ho
  split at hq
  ·rename_i s x t t' ha hts
   split at hq
   ·rename_i e sv xv ht' hu hs hx
    have htt:t=t':=by simpa using ht'
    subst htt
    split at hq
    ·rename_i a sz hsz
     split at hq
     ·rename_i ty sz' p hrow
      split at hq
      ·rename_i j hl
       split at hq
       ·rename_i hcond
        cases hq
        obtain⟨rfl,rfl⟩:=hcond
        exact arrApp_sound ht hR H ha hts ho hu (hρ s _ hs) (hρ x _ hx) hsz hrow hl
       ·cases hq
      ·split at hq
       ·rename_i hl
        cases hq
        exact arrApp0_sound ht hR H hρ ha hts ho hs hx hl
       ·cases hq
     ·cases hq
    ·rename_i sz hsz
     split at hq
     ·rename_i j hnil hl
      cases hq
      exact arrNil_sound ht hR H hρ ha hts ho hu hs hx hsz hnil hl
     ·cases hq
    ·cases hq
   ·cases hq
  ·cases hq
 ·cases hq
theorem eopX_sound{R:Nat→PV}{P:Program}{tab:List SF}(ht:TabOk R P tab){o:Oper}{ρ:Operand→Value}{ρA:Operand→Option AV}{K:Kn}{h:List AObj}{w:World}(hR:K.R=R)(H:WR K h w)(hρ:∀x v,ρA x=some v→VR K v (ρ x)){v:AV}{h':List AObj}{touch:List Nat}
  (hq:eopX tab P o.op ρA h=some (v,h',touch)):Eff P o ρ K h w v h' touch:=by
 unfold eopX at hq
 split at hq
 ·rename_i r hr
  cases hq
  exact eArr_sound ht hR H hρ hr
 split at hq
 ·rename_i r hr
  cases hq
  unfold eopN at hr
  split at hr
  ·cases hr
  ·exact eopM_sound H hρ hr
 split at hq
 ·rename_i r hr
  cases hq
  unfold eopC at hr
  split at hr
  ·cases hr
  ·exact eopB_sound H hρ hr
 split at hq
 ·rename_i r hr
  cases hq
  rw[eopF_eq] at hr
  exact eop_sound H hρ hr
 split at hq
 ·rename_i r hr
  cases hq
  exact eopB_sound H hρ hr
 ·unfold eTab at hq
  split at hq
  ·rename_i args ts ho
   split at hq
   ·rename_i s x t t' hop hts
    split at hq
    ·rename_i e
     subst e
     obtain⟨so,xo,hargs⟩:∃so xo,args.toList=[so,xo]:=by
      have:=(opsA_sound hρ _ _ hop).1
      match hargs:args.toList with
      |[]=>rw[hargs] at this;simp at this
      |[_]=>rw[hargs] at this;simp at this
      |[a,b]=>exact⟨a,b,rfl⟩
      |_::_::_::_=>rw[hargs] at this;simp at this
     have hv:=opsA_sound hρ _ _ hop
     rw[hargs] at hv
     exact appS_sound ht hR H hargs hts ho (hv.2 0 (by simp) (by simp)) (hv.2 1 (by simp) (by simp)) hq
    ·cases hq
   ·cases hq
  ·cases hq
def noPan(r:AV×List AObj×List Nat):Option (AV×List AObj×List Nat):=match panOf r.1 with
 |none=>some r
 |some _=>none
theorem noPan_some{r r':AV×List AObj×List Nat}(h:noPan r=some r'):r=r'∧panOf r'.1=none:=by
 unfold noPan at h
 split at h
 ·rename_i hn;cases h;exact⟨rfl,hn⟩
 ·cases h
def panicA(ρ:Operand→Option AV):Op→Option AV
 |.panic x=>match ρ x with
  |some (.ifc t v)=>some (.ifc t v)
  |_=>none
 |_=>none
def actA(P:Program)(call:Nat→List AV→List AObj→Option (AV×List AObj))(okf:Nat→Bool)(tab:List SF)(o:Oper)(sl:Env)(h:List AObj):Option (AV×List AObj×List Nat):=
 match qopX tab P o.op o.type (aev sl) h with
 |some (v,_)=>noPan (v,h,[])
 |none=>match eopX tab P o.op (aev sl) h with
  |some r=>noPan r
  |none=>match callee (aev sl) o.op with
   |some (g,args)=>if okf g then doCall call g args h else none
   |none=>match panicA (aev sl) o.op with
    |some x=>some (.tup [.tup [],x],h,[])
    |none=>none
def putA(n:Nat)(sl:Env)(d:Option Tmp)(v:AV):Env:=match d with
 |some d=>match Nat.blt d n with
  |true=>(d,v)::sl
  |false=>[]
 |none=>sl
theorem putA_sound{K:Kn}{n:Nat}{sl:Env}{a:Act}(h:EnvOk K n sl a.tmps){v:AV}{u:Value}(hv:VR K v u)(d:Option Tmp):EnvOk K n (putA n sl d v) (a.put d u).tmps∧(a.put d u).defers=a.defers:=by
 cases d with
 |none=>exact⟨h,rfl⟩
 |some d=>
  refine⟨?_,rfl⟩
  show EnvOk K n (match Nat.blt d n with|true=>(d,v)::sl|false=>[]) (a.tmps.setIfInBounds d u)
  cases hb:Nat.blt d n with
  |false=>exact⟨by simpa using h.1,fun d v hd=>by cases hd⟩
  |true=>
   have hlt:(d:Nat)<n:=Nat.le_of_ble_eq_true hb
   have hlt':(d:Nat)<a.tmps.size:=Nat.lt_of_lt_of_le hlt h.1
   refine⟨by simpa using h.1,fun k x hk=>?_⟩
   simp only[look] at hk
   cases hq:Nat.beq d k with
   |true=>
    rw[hq] at hk
    cases hk
    have e:(d:Nat)=k:=Nat.eq_of_beq_eq_true hq
    subst e
    have:(a.tmps.setIfInBounds d u).getD d Go.undef=u:=by simp[Array.getD,hlt']
    rw[this];exact hv
   |false=>
    rw[hq] at hk
    have e:(d:Nat)≠k:=Nat.ne_of_beq_eq_false hq
    have:(a.tmps.setIfInBounds d u).getD k Go.undef=a.tmps.getD k Go.undef:=by
     simp only[Array.getD_eq_getD_getElem?]
     rw[Array.getElem?_setIfInBounds_ne e]
    rw[this];exact h.2 k x hk
inductive AExit where
 |normal
 |exit (id:Nat)
 |ret
 |pan
def AExit.out:AExit→Exit
 |.normal=>.normal
 |.exit id=>.exit id
 |.ret=>.ret
 |.pan=>.outgrown
def panT(n:Nat)(tm:Array Value)(u:Value):Array Value:=if n<tm.size then tm.setIfInBounds n u else tm.push u
theorem panT_size{n:Nat}{tm:Array Value}{u:Value}(h:n≤tm.size):n≤(panT n tm u).size:=by
 unfold panT
 split<;>simp<;>omega
theorem panT_at{n:Nat}{tm:Array Value}{u:Value}(h:n≤tm.size):(panT n tm u).getD n Go.undef=u:=by
 unfold panT
 split
 ·rename_i hl;simp[Array.getD,hl]
 ·rename_i hl
  have:tm.size=n:=by omega
  subst this
  simp[Array.getD]
theorem panT_ne{n k:Nat}{tm:Array Value}{u:Value}(h:n≤tm.size)(hk:n≠k):(panT n tm u).getD k Go.undef=tm.getD k Go.undef:=by
 unfold panT
 split
 ·simp only[Array.getD_eq_getD_getElem?]
  rw[Array.getElem?_setIfInBounds_ne hk]
 ·have:tm.size=n:=by omega
  subst this
  simp only[Array.getD_eq_getD_getElem?]
  by_cases hlt:k<tm.size
  ·rw[Array.getElem?_push_lt hlt,Array.getElem?_eq_getElem hlt]
  ·rw[Array.getElem?_eq_none (by simp;omega),Array.getElem?_eq_none (by omega)]
def OutIs(n:Nat)(ex:AExit)(e:Exit)(a':Act)(tm:Array Value):Prop:=match ex with
 |.pan=>n≤a'.tmps.size∧∃u,e=.panic [{v:=u,recovered:=false }]∧tm=panT n a'.tmps u
 |ex=>e=ex.out∧tm=a'.tmps
def keepE:List Nat→Env→Env
 |[],_=>[]
 |d::ks,e=>match look e d with
  |some v=>(d,v)::keepE ks e
  |none=>keepE ks e
theorem keepE_look{e:Env}{d:Nat}{v:AV}:∀{ks:List Nat},look (keepE ks e) d=some v→look e d=some v
 |[],h=>by cases h
 |k::ks,h=>by
  rw[keepE] at h
  split at h
  ·rename_i x hx
   simp only[look] at h
   split at h
   ·rename_i hb
    cases h
    rw[←Nat.eq_of_beq_eq_true hb];exact hx
   ·exact keepE_look h
  ·exact keepE_look h
theorem EnvOk.keep{K:Kn}{n:Nat}{e:Env}{tm:Array Value}(h:EnvOk K n e tm)(ks:List Nat):EnvOk K n (keepE ks e) tm:=⟨h.1,fun d v hd=>h.2 d v (keepE_look hd)⟩
def panE(n:Nat)(rs:List Nat)(sl:Env)(x:AV):Env:=(n,x)::keepE rs sl
theorem panE_sound{K:Kn}{n:Nat}{rs:List Nat}{sl:Env}{tm:Array Value}{x:AV}{u:Value}(h:EnvOk K n sl tm)(hx:VR K x u):EnvOk K n (panE n rs sl x) (panT n tm u):=by
 refine⟨panT_size h.1,fun d v hd=>?_⟩
 simp only[panE,look] at hd
 cases hb:Nat.beq n d with
 |true=>
  rw[hb] at hd
  cases hd
  rw[←Nat.eq_of_beq_eq_true hb,panT_at h.1];exact hx
 |false=>
  rw[hb] at hd
  rw[panT_ne h.1 (Nat.ne_of_beq_eq_false hb)]
  exact h.2 d v (keepE_look hd)
def wantA(ops:Array Oper)(sl:Env)(o:Oper):Option Bool:=match o.guard with
 |none=>some true
 |some (j,b)=>match(ops[j]?).bind (·.dst) with
  |some d=>match look sl d with
   |some (.pv (.lit (.bool c)))=>some (c==b)
   |some (.tup [])=>some false
   |_=>none
  |none=>none
theorem wantA_sound{K:Kn}{n:Nat}{ops:Array Oper}{sl:Env}{a:Act}(h:EnvOk K n sl a.tmps){o:Oper}{b:Bool}(hw:wantA ops sl o=some b):Region.wanted o (yielded ops a.tmps)=b:=by
 unfold wantA at hw
 unfold Region.wanted
 cases hg:o.guard with
 |none=>rw[hg] at hw;cases hw;rfl
 |some p=>
  obtain⟨j,c⟩:=p
  rw[hg] at hw
  simp only at hw ⊢
  cases hd:(ops[j]?).bind (·.dst) with
  |none=>rw[hd] at hw;cases hw
  |some d=>
   rw[hd] at hw
   simp only at hw
   have key:∀x:Value,a.tmps.getD d Go.undef=x→(yielded ops a.tmps j==some c)=(match x with | .bool e=>e==c|_=>false):=by
    intro x hx
    unfold yielded
    rw[hd]
    simp only[Option.bind_some]
    by_cases hlt:d<a.tmps.size
    ·have e1:a.tmps[d]? = some a.tmps[d]:=Array.getElem?_eq_getElem hlt
     have e2:a.tmps[d]=x:=by simpa[Array.getD,hlt] using hx
     rw[e1,e2]
     cases x<;>simp
    ·have e1:a.tmps[d]? = none:=Array.getElem?_eq_none (Nat.le_of_not_lt hlt)
     have e2:x=Go.undef:=by rw[←hx];simp[Array.getD,hlt]
     rw[e1,e2]
     simp[Go.undef]
   split at hw
   ·rename_i e he
    cases hw
    have hs:=h.2 d _ he
    rw[key _ (val_eq hs rfl)]
   ·rename_i he
    cases hw
    have hs:=h.2 d _ he
    generalize hx:a.tmps.getD d Go.undef=x at hs
    cases hs with
    |tup _ cs hl _=>
     rw[key _ hx]
   ·cases hw
section
variable{P:Program}{call:Nat→List AV→List AObj→Option (AV×List AObj)}{okf:Nat→Bool}{tab:List SF}{R:Nat→PV}{ops:Array Oper}{Q:Exit→Act→World→Prop}
theorem actA_sound(hcall:CallsOk R P call)(htab:TabOk R P tab)(hok:∀f,okf f=true→callable P f=true){n:Nat}{o:Oper}{sl:Env}{h:List AObj}{v:AV}{h':List AObj}{touch:List Nat}(ha:actA P call okf tab o sl h=some (v,h',touch))
  {K:Kn} {w:World} {a:Act} (hR:K.R=R) (H:WR K h w) (hs:EnvOk K n sl a.tmps) {next:Act→World→Prop}
  (hn:∀K' w' u,panOf v=none→VR K' v u→Step K h w K' h' w'→Frm (K.at h touch) w w'→next (a.put o.dst u) w')
  (hp:∀x K' w' u,panOf v=some x→VR K' x u→Step K h w K' h' w'→Q (.panic [{v:=u,recovered:=false }]) a w'):o.wp P a w next Q:=by
 have hρ:∀x v,aev sl x=some v→VR K v (a.eval x):=fun x v hx=>aev_sound hs hx
 unfold actA at ha
 split at ha
 ·rename_i v' d hq
  obtain⟨e1,e2⟩:=noPan_some ha
  cases e1
  obtain⟨u,hu,hr⟩:=qopX_sound (o:=o) (ρ:=a.eval) htab hR H hρ hq
  have:=hr w H.agr (fun _ _ _ _=>rfl)
  unfold Oper.wp
  rw[this]
  exact hn K w u e2 hu (Step.refl H) (Frm.refl _ _)
 ·split at ha
  ·rename_i r he
   obtain⟨e1,e2⟩:=noPan_some ha
   subst e1
   obtain⟨n,u,w',K',hrun,hnu,hv,hst,hf⟩:=eopX_sound (o:=o) (ρ:=a.eval) htab hR H hρ he
   unfold Oper.wp
   rw[hrun]
   rcases hnu with rfl|⟨rfl,rfl⟩
   ·exact hn K' w' u e2 hv hst hf
   ·exact hn K' w' _ e2 hv hst hf
  ·split at ha
   ·rename_i g args hc
    split at ha
    ·rename_i hg
     obtain⟨hs0,args',v0,hs',h1,h2,h3,h4,h5,h6⟩:=doCall_spec ha (fun hr=>renL_none _ args hr)
     -- the operation enters the callee
     have hex:∃us:List Value,VL K args us∧(execOp a.eval o).run P w=.ok (.enter g us.toArray) w:=by
      unfold callee at hc
      split at hc
      ·rename_i f asxx ts ho
       split at hc
       ·rename_i g' caps vs hf hvs
        have hfv:=hρ f _ hf
        generalize hfe:a.eval f=fv at hfv
        have hvl:=opsA_sound hρ _ _ hvs
        split at hc
        rotate_left
        ·rename_i hb
         obtain⟨e1,e0⟩:=Prod.mk.inj (Option.some.inj hc)
         generalize hg3:bndF=bd at *
         subst e1
         subst e0
         clear hc
         cases hfv with
         |fn _ _ cs hl hh hlt=>rw[show Nat.blt g' bd=true from Nat.ble_eq_true_of_le (by rw[←hg3];exact hlt)] at hb;cases hb
         |bfn f2 _ _ cs hl hh hg2=>
          have e2:g'-bd=f2:=by omega
          rw[e2] at hg ⊢
          refine⟨cs++asxx.toList.map a.eval,VL.append ⟨hl,hh⟩ hvl,?_⟩
          have hcal:=hok f2 hg
          unfold callable at hcal
          split at hcal
          ·rename_i fn hfn
           rw[Bool.and_eq_true] at hcal
           obtain⟨b1,b2⟩:=hcal
           have b3 : (fn.name == "runtime.NumGoroutine") = false := by simpa using b2
           have b4:fn.body.isNone=false:=by cases hb:fn.body<;>simp_all
           simp only[execOp,ho,resolve,Deferred.ofValue,hfe,invoke,callFunc,Sem.run_bind,Sem.run_pure,Result.andThen_ok,run_program,hfn,b3,b4,Bool.false_eq_true,if_false,arr_map a.eval asxx]
           simp
          ·cases hcal
        rename_i hb
        cases hc
        cases hfv with
        |bfn f2 _ _ cs hl hh hg2=>
         have:=Nat.le_of_ble_eq_true hb
         omega
        |fn _ _ cs hl hh _=>
         refine⟨asxx.toList.map a.eval++cs,hvl.append ⟨hl,hh⟩,?_⟩
         have hcal:=hok g hg
         unfold callable at hcal
         split at hcal
         ·rename_i fn hfn
          rw[Bool.and_eq_true] at hcal
          obtain⟨b1,b2⟩:=hcal
          have b3 : (fn.name == "runtime.NumGoroutine") = false := by simpa using b2
          have b4:fn.body.isNone=false:=by cases hb:fn.body<;>simp_all
          simp only[execOp,ho,resolve,Deferred.ofValue,hfe,invoke,callFunc,Sem.run_bind,Sem.run_pure,Result.andThen_ok,run_program,hfn,b3,b4,Bool.false_eq_true,if_false,arr_map a.eval asxx]
          simp
         ·cases hcal
       ·cases hc
      ·cases hc
     obtain⟨us,hvl,hrun⟩:=hex
     unfold Oper.wp
     rw[hrun]
     have hcs:=hcall g args' hs0 v0 hs' h4 (K.sub touch) w us hR (H.sub h1 h2) (renL_sound (Ren.sub K touch) hvl h3)
     refine hcs.mono ?_
     rintro e w' ⟨K',hv,hst⟩
     obtain⟨m1,m2,m3⟩:=merge_sound H h1 h2 hst h6
     have hv':=hv.ren m2 h5
     cases hpv:panOf v with
     |none=>
      obtain⟨u,rfl,hu⟩:=hv'.ret hpv
      exact hn _ w' u hpv hu m1 m3
     |some x=>
      obtain⟨u,rfl,hu⟩:=hv'.pan hpv
      exact hp x _ w' u hpv hu m1
    ·cases ha
   ·split at ha
    ·rename_i x hx
     cases ha
     unfold panicA at hx
     split at hx
     ·rename_i y ho
      split at hx
      ·rename_i t z hy
       cases hx
       have hyv:=hρ y _ hy
       have hyv':=hyv
       generalize hye:a.eval y=yv at hyv
       cases hyv with
       |ifc _ hz=>
        rename_i uz
        have hrun:(execOp a.eval o).run P w=.halt (.panic (.iface t uz)) w:=by
         simp only[execOp,ho]
         rw[hye]
         rfl
        unfold Oper.wp
        rw[hrun]
        exact hp _ K w _ rfl (by rw[hye] at hyv';exact hyv') (Step.refl H)
      ·cases hx
     ·cases hx
    ·cases ha
def aregT(P:Program)(call:Nat→List AV→List AObj→Option (AV×List AObj))(okf:Nat→Bool)(tab:List SF)(n:Nat)(rs:List Nat)(ops:Array Oper):List Oper→Env→List AObj→Option (AExit×Env×List AObj)
 |[],sl,h=>some (.normal,sl,h)
 |o::rest,sl,h=>match wantA ops sl o with
  |some true=>match actA P call okf tab o sl h with
   |some (v,h',_)=>match panOf v with
    |none=>aregT P call okf tab n rs ops rest (putA n sl o.dst v) h'
    |some x=>some (.pan,panE n rs sl x,h')
   |none=>none
  |some false=>aregT P call okf tab n rs ops rest (putA n sl o.dst (.tup [])) h
  |none=>none
theorem aregT_sound(hcall:CallsOk R P call)(htab:TabOk R P tab)(hok:∀f,okf f=true→callable P f=true){n:Nat}{rs:List Nat}:∀(l:List Oper) (sl:Env) (h:List AObj) (ex:AExit) (sl':Env) (h':List AObj),aregT P call okf tab n rs ops l sl h=some (ex,sl',h')→
  ∀(K:Kn) (w:World) (a:Act),K.R=R→WR K h w→EnvOk K n sl a.tmps→(∀e K' a' w' tm,OutIs n ex e a' tm→EnvOk K' n sl' tm→a'.defers=a.defers→Step K h w K' h' w'→Q e a' w')→wpList P ops Q l a w
 |[],sl,h,ex,sl',h',he,K,w,a,hR,H,hs,hq=>by
  cases he
  exact hq .normal K a w _ ⟨rfl,rfl⟩ hs rfl (Step.refl H)
 |o::rest,sl,h,ex,sl',h',he,K,w,a,hR,H,hs,hq=>by
  rw[aregT] at he
  refine wpList_step fun Kp hK=>?_
  split at he
  ·rename_i hw
   rw[wantA_sound hs hw]
   simp only[if_true]
   split at he
   ·rename_i v h1 t ha
    refine actA_sound hcall htab hok ha hR H hs (fun K' w' u hpn hv hst _=>hK _ _ ?_) (fun x K' w' u hpx hv hst=>?_)
    ·rw[hpn] at he
     obtain⟨p1,p2⟩:=putA_sound (hs.mono hst.ext) hv o.dst
     exact aregT_sound hcall htab hok rest _ h1 ex sl' h' he K' w' _ (hst.ext.R.trans hR) hst.wr p1 (fun e K2 a2 w2 tm q0 q1 q2 q3=>hq e K2 a2 w2 tm q0 q1 (q2.trans p2) (hst.trans q3))
    ·rw[hpx] at he
     cases he
     exact hq _ K' a w' _ ⟨hs.1,u,rfl,rfl⟩ (panE_sound (hs.mono hst.ext) hv) rfl hst
   ·cases he
  ·rename_i hw
   rw[wantA_sound hs hw]
   simp only[Bool.false_eq_true,if_false]
   refine hK _ _ ?_
   obtain⟨p1,p2⟩:=putA_sound hs (VR.undef K) o.dst
   exact aregT_sound hcall htab hok rest _ h ex sl' h' he K w _ hR H p1 (fun e K2 a2 w2 tm q0 q1 q2 q3=>hq e K2 a2 w2 tm q0 q1 (q2.trans p2) q3)
  ·cases he
end
def waitsOn(ops:Array Oper)(md:Region.Mode)(j k:Nat):Bool:=match ops[j]? with
 |some oj=>oj.after.any fun e=>Region.binds md e&&e.on==k
 |none=>false
section
variable{P:Program}{ops:Array Oper}{Q:Exit→Act→World→Prop}{md:Region.Mode}
def wpAnyX(P:Program)(md:Region.Mode)(ops:Array Oper)(Q:Exit→Act→World→Prop):Nat→List (Nat×(World→Prop))→Array Bool→Act→World→Prop
 |0,_,listed,a,w=>Region.ready md ops listed=[]∧Q .normal a w
 |fuel+1,H,listed,a,w=>
  (Region.ready md ops listed=[]→Q .normal a w)∧
  ∀i∈Region.ready md ops listed,wpOp P ops Q i (fun a' w'=>(∀p∈H,waitsOn ops md i p.1=false→p.2 w')∧
   wpAnyX P md ops Q fuel (H.filter fun p=>!waitsOn ops md i p.1) (listed.setIfInBounds i true) a' w') a w
theorem wpAny_of_X:∀(fuel:Nat) (H:List (Nat×(World→Prop))) (listed:Array Bool) (a:Act) (w:World),wpAnyX P md ops Q fuel H listed a w→wpAny P md ops Q fuel listed a w
 |0,_,_,_,_,h=>h
 |fuel+1,_,_,_,_,h=>⟨h.1,fun i hi=>wpOp_mono (fun a' w' h'=>wpAny_of_X fuel _ _ a' w' h'.2) (h.2 i hi)⟩
theorem wpAnyX_sub:∀(fuel:Nat) (H H':List (Nat×(World→Prop))) (listed:Array Bool) (a:Act) (w:World),(∀p∈H',p∈H)→wpAnyX P md ops Q fuel H listed a w→wpAnyX P md ops Q fuel H' listed a w
 |0,_,_,_,_,_,_,h=>h
 |fuel+1,H,H',listed,a,w,hs,h=>by
  refine⟨h.1,fun i hi=>wpOp_mono (fun a' w' h'=>⟨fun p hp hw=>h'.1 p (hs p hp) hw,wpAnyX_sub fuel _ _ _ a' w' (fun p hp=>?_) h'.2⟩) (h.2 i hi)⟩
  rw[List.mem_filter] at hp ⊢
  exact⟨hs p hp.1,hp.2⟩
theorem not_waits{i j:Nat}{oj:Oper}(hoj:ops[j]? = some oj)(hno:∀e∈oj.after,Region.binds md e=true→e.on≠i):waitsOn ops md j i=false:=by
 unfold waitsOn
 rw[hoj]
 simp only
 rw[Array.any_eq_false']
 intro e he hb
 rw[Bool.and_eq_true] at hb
 exact hno e he hb.1 (by simpa using hb.2)
theorem wpAnyX_first{i:Nat}{oi:Oper}{v:Value}{S:World→Prop}(hi:ops[i]? = some oi)(hsel:∀(j:Nat) (o:Oper) cs b,ops[j]? = some o→o.op≠.select cs b)
  (hQ:∀c a w,Q (.panic c) (a.put oi.dst v) w→Q (.panic c) a w) :
  ∀(fuel:Nat) (H:List (Nat×(World→Prop))) (listed:Array Bool) (a:Act) (w:World),
   (∀j oj,ops[j]? = some oj→j≠i→listed.getD j true=false→(∀e∈oj.after,Region.binds md e=true→e.on≠i)→oi.apart ops oj=true)→
   i∈Region.ready md ops listed→YieldsIf P ops S oi v a→S w→(∀p∈H,p.2 w)→
   wpAnyX P md ops Q fuel ((i,S)::H) (listed.setIfInBounds i true) (a.put oi.dst v) w→wpAnyX P md ops Q (fuel+1) H listed a w:=by
 intro fuel
 induction fuel with
 |zero=>
  intro H listed a w _ hr hy hS hH X
  refine⟨fun h=>(by rw[h] at hr;cases hr),fun j hj=>?_⟩
  by_cases hji:j=i
  ·subst hji;exact hy.wpOp hi hS ⟨fun p hp _=>hH p hp,X⟩
  ·have:=ready_mono hj hji
   rw[X.1] at this
   cases this
 |succ fuel ih=>
  intro H listed a w hfree hr hy hS hH X
  refine⟨fun h=>(by rw[h] at hr;cases hr),fun j hj=>?_⟩
  by_cases hji:j=i
  ·subst hji
   refine hy.wpOp hi hS ⟨fun p hp _=>hH p hp,?_⟩
   refine wpAnyX_sub _ _ _ _ _ _ (fun p hp=>?_) X
   rw[List.mem_filter] at hp
   exact List.mem_cons_of_mem _ hp.1
  ·have h1:=X.2 j (ready_mono hj hji)
   obtain⟨hjun,oj,hoj,hall⟩:=mem_ready.1 hj
   have hnot:∀e∈oj.after,Region.binds md e=true→e.on≠i:=fun e he hb heq=>by
    have h1:=hall e he hb
    have h0:=(mem_ready.1 hr).1
    rw[heq] at h1
    rcases Nat.lt_or_ge i listed.size with h'|h'
    ·simp[h'] at h0 h1;rw[h0] at h1;cases h1
    ·simp[Array.getElem?_eq_none h'] at h1
   have hnw:waitsOn ops md j i=false:=not_waits hoj hnot
   have h2:=wpOp_putIf hoj (hfree j oj hoj hji hjun hnot) (fun cs b=>hsel i oi cs b hi) (fun cs b=>hsel j oj cs b hoj) hQ hy h1
   have hfree':∀k ok,ops[k]? = some ok→k≠i→(listed.setIfInBounds j true).getD k true=false→
     (∀e∈ok.after,Region.binds md e=true→e.on≠i)→oi.apart ops ok=true:=fun k ok hk hki hun hno=>by
    refine hfree k ok hk hki ?_ hno
    by_cases hjk:j=k
    ·subst hjk;exact hjun
    ·rw[getD_set_ne true hjk] at hun;exact hun
   refine wpOp_mono (fun a' w' h3=>⟨fun p hp hw=>h3.2.1 p (List.mem_cons_of_mem _ hp) hw,ih _ (listed.setIfInBounds j true) a' w' hfree' (ready_mono hr (Ne.symm hji)) h3.1 (h3.2.1 (i,S) (List.mem_cons_self ..) hnw) (fun p hp=>?_) ?_⟩) h2
   ·rw[List.mem_filter] at hp
    exact h3.2.1 p (List.mem_cons_of_mem _ hp.1) (by simpa using hp.2)
   ·rw[Array.setIfInBounds_comm _ _ hji]
    have:=h3.2.2
    rw[List.filter_cons_of_pos (by simp[hnw])] at this
    exact this
theorem wpAnyX_done{listed:Array Bool}{a:Act}{w:World}(hr:Region.ready md ops listed=[])(h:Q .normal a w):∀fuel H,wpAnyX P md ops Q fuel H listed a w
 |0,_=>⟨hr,h⟩
 |_+1,_=>⟨fun _=>h,by rw[hr];simp⟩
end
def isQuiet:Op→Bool
 |.move _ | .assign _ | .pick _ _ _ | .nilCheck _ | .load _ _ | .fieldAddr _ _ _ | .field _ _ _ | .indexAddr _ _ _ | .index _ _ _ | .extract _ _ | .binOp _ _ _ _ _ | .unOp _ _ _ | .convert _ _ _ | .slice _ _ _ _ _ | .makeFunc _ _ _ | .build _ _ | .lookup _ _ _ _ | .makeInterface _ _ | .typeAssert _ _ _ _=>true
 |.call ⟨.builtin .len,_,_⟩ | .call ⟨.builtin .min,_,_⟩ | .call ⟨.builtin .max,_,_⟩ | .call ⟨.builtin .cap,_,_⟩=>true
 |_=>false
def validS(ops:Array Oper):Array Bool→List (Nat×Bool)→Bool
 |listed,[]=>(Region.ready .any ops listed).isEmpty
 |listed,(i,true)::r=>(Region.ready .any ops listed).contains i&&Region.free .any ops listed i&&validS ops (listed.setIfInBounds i true) r
 |listed,(i,false)::r=>(Region.ready .any ops listed==[i])&&validS ops (listed.setIfInBounds i true) r
def greedy(ops:Array Oper):Nat→Array Bool→List (Nat×Bool)
 |0,_=>[]
 |n+1,listed=>match Region.ready .any ops listed with
  |[]=>[]
  |i::rs=>match(i::rs).find? (fun j=>((ops[j]?).map fun o=>isQuiet o.op).getD false&&Region.free .any ops listed j) with
   |some j=>(j,true)::greedy ops n (listed.setIfInBounds j true)
   |none=>(i,false)::greedy ops n (listed.setIfInBounds i true)
def schedOk(ops:Array Oper)(st:List (Nat×Bool)):Bool:=Region.noSelect ops&&decide (st.length≤ops.size)&&validS ops (Array.replicate ops.size false) st
def liveAt(h:List AObj)(i:Nat):Bool:=match h[i]? with
 |some x=>x.live
 |none=>false
def okHold(o:Oper)(h:List AObj)(touch:List Nat)(p:Nat×Nat):Bool:=(o.after.any fun e=>Region.binds .any e&&e.on==p.1)||(!touch.elem p.2&&liveAt h p.2)
def aregS(P:Program)(call:Nat→List AV→List AObj→Option (AV×List AObj))(okf:Nat→Bool)(tab:List SF)(n:Nat)(rs:List Nat)(ops:Array Oper):List (Nat×Bool)→List (Nat×Nat)→Env→List AObj→Option (AExit×Env×List AObj)
 |[],_,sl,h=>some (.normal,sl,h)
 |(i,q)::r,holds,sl,h=>match ops[i]? with
  |none=>none
  |some o=>match wantA ops sl o with
   |some true=>match q with
    |true=>match qopX tab P o.op o.type (aev sl) h with
     |some (v,d)=>aregS P call okf tab n rs ops r (match d with|some b=>(i,b)::holds|none=>holds) (putA n sl o.dst v) h
     |none=>none
    |false=>match actA P call okf tab o sl h with
     |some (v,h',touch)=>match panOf v with
      |none=>if holds.all (okHold o h touch) then aregS P call okf tab n rs ops r (holds.filter fun p=>!(o.after.any fun e=>Region.binds .any e&&e.on==p.1)) (putA n sl o.dst v) h' else none
      |some x=>some (.pan,panE n rs sl x,h')
     |none=>none
   |some false=>match q with
    |true=>aregS P call okf tab n rs ops r holds (putA n sl o.dst (.tup [])) h
    |false=>aregS P call okf tab n rs ops r (holds.filter fun p=>!(o.after.any fun e=>Region.binds .any e&&e.on==p.1)) (putA n sl o.dst (.tup [])) h
   |none=>none
section
variable{P:Program}{call:Nat→List AV→List AObj→Option (AV×List AObj)}{okf:Nat→Bool}{tab:List SF}{R:Nat→PV}{ops:Array Oper}{Q:Exit→Act→World→Prop}
def Holds(K:Kn)(w:World)(holds:List (Nat×Nat))(H:List (Nat×(World→Prop))):Prop:=
 ∀p∈H,p.2 w∧∃dep:Option Nat,(∀b,dep=some b→(p.1,b)∈holds)∧∀w':World,(∀g o c,K.M g o=some c→w'.cell? ⟨g,o,none⟩=some c)→(∀i,dep=some i→∀g,K.mu i=some g→w'.heap[g]? = w.heap[g]?)→p.2 w'
theorem aregS_sound(hcall:CallsOk R P call)(htab:TabOk R P tab)(hok:∀f,okf f=true→callable P f=true)(hsel:Region.noSelect ops=true)(hQp:∀(i:Nat) (oi:Oper),ops[i]? = some oi→∀c (a:Act) v w,Q (.panic c) (a.put oi.dst v) w→Q (.panic c) a w){n:Nat}{rs:List Nat}{ex:AExit} :
  ∀(st:List (Nat×Bool)) (listed:Array Bool) (holds:List (Nat×Nat)) (sl:Env) (h:List AObj) (sl':Env) (h':List AObj) (fuel:Nat) (H:List (Nat×(World→Prop))) (K:Kn) (w:World) (a:Act),
   validS ops listed st=true→st.length≤fuel→aregS P call okf tab n rs ops st holds sl h=some (ex,sl',h')→K.R=R→WR K h w→EnvOk K n sl a.tmps→Holds K w holds H→
   (∀e K' a' w' tm,OutIs n ex e a' tm→EnvOk K' n sl' tm→a'.defers=a.defers→Step K h w K' h' w'→Q e a' w')→wpAnyX P .any ops Q fuel H listed a w
 |[],listed,holds,sl,h,sl',h',fuel,H,K,w,a,hv,_,he,hR,W,hs,_,hq=>by
  cases he
  refine wpAnyX_done (by simpa[validS] using hv) ?_ fuel H
  exact hq .normal K a w _ ⟨rfl,rfl⟩ hs rfl (Step.refl W)
 |(i,q)::r,listed,holds,sl,h,sl',h',0,H,K,w,a,hv,hf,he,hR,W,hs,hh,hq=>by simp at hf
 |(i,q)::r,listed,holds,sl,h,sl',h',fuel+1,H,K,w,a,hv,hf,he,hR,W,hs,hh,hq=>by
  rw[aregS] at he
  split at he
  ·cases he
  ·rename_i o ho
   have hfl:r.length≤fuel:=by simpa using hf
   cases q with
   |true=>
    rw[validS,Bool.and_eq_true,Bool.and_eq_true] at hv
    obtain⟨⟨hr,hfr⟩,hv⟩:=hv
    have hr':i∈Region.ready .any ops listed:=by simpa using hr
    split at he
    ·rename_i hw
     have hwant:=wantA_sound hs hw
     simp only at he
     split at he
     ·rename_i v d hqo
      obtain⟨u,hvu,hrun⟩:=qopX_sound (o:=o) (ρ:=a.eval) htab hR W (fun x v hx=>aev_sound hs hx) hqo
      obtain⟨p1,p2⟩:=putA_sound hs hvu o.dst
      refine wpAnyX_first (S:=fun w'=>(∀g o c,K.M g o=some c→w'.cell? ⟨g,o,none⟩=some c)∧(∀i,d=some i→∀g,K.mu i=some g→w'.heap[g]? = w.heap[g]?)) (v:=u) ho (Region.noSelect_spec hsel) (fun c a w=>hQp i o ho c a _ w) fuel H listed a w (Region.free_spec ho hfr) hr'
       (.inl ⟨hwant,fun w' hS=>hrun w' hS.1 hS.2⟩) ⟨W.agr,fun _ _ _ _=>rfl⟩ (fun p hp=>(hh p hp).1) ?_
      refine aregS_sound hcall htab hok hsel hQp r _ _ _ _ sl' h' fuel _ K w _ hv hfl he hR W p1 (fun p hp=>?_) (fun e2 K2 a2 w2 tm2 q0 q1 q2 q3=>hq e2 K2 a2 w2 tm2 q0 q1 (q2.trans p2) q3)
      rcases List.mem_cons.1 hp with rfl|hp
      ·refine⟨⟨W.agr,fun _ _ _ _=>rfl⟩,d,fun b hb=>?_,fun w' h1 h2=>⟨h1,h2⟩⟩
       subst hb
       exact List.mem_cons_self ..
      ·obtain⟨h1,dep,h2,h3⟩:=hh p hp
       refine⟨h1,dep,fun b hb=>?_,h3⟩
       cases d with
       |none=>exact h2 b hb
       |some b'=>exact List.mem_cons_of_mem _ (h2 b hb)
     ·cases he
    ·rename_i hw
     have hwant:=wantA_sound hs hw
     simp only at he
     obtain⟨p1,p2⟩:=putA_sound hs (VR.undef K) o.dst
     refine wpAnyX_first (S:=fun _=>True) (v:=Go.undef) ho (Region.noSelect_spec hsel) (fun c a w=>hQp i o ho c a _ w) fuel H listed a w (Region.free_spec ho hfr) hr'
      (.inr ⟨hwant,rfl⟩) trivial (fun p hp=>(hh p hp).1) ?_
     refine aregS_sound hcall htab hok hsel hQp r _ _ _ _ sl' h' fuel _ K w _ hv hfl he hR W p1 (fun p hp=>?_) (fun e2 K2 a2 w2 tm2 q0 q1 q2 q3=>hq e2 K2 a2 w2 tm2 q0 q1 (q2.trans p2) q3)
     rcases List.mem_cons.1 hp with rfl|hp
     ·exact⟨trivial,none,(fun b hb=>by cases hb),fun _ _ _=>trivial⟩
     ·exact hh p hp
    ·cases he
   |false=>
    rw[validS,Bool.and_eq_true] at hv
    obtain⟨hr,hv⟩:=hv
    have hr':Region.ready .any ops listed=[i]:=by simpa using hr
    have hwo:∀k,waitsOn ops .any i k=o.after.any fun e=>Region.binds .any e&&e.on==k:=fun k=>by unfold waitsOn;rw[ho]
    refine⟨(fun h=>by rw[hr'] at h;cases h),fun j hj=>?_⟩
    rw[hr'] at hj
    have hji:j=i:=by simpa using hj
    subst hji
    unfold wpOp
    rw[ho]
    simp only
    split at he
    ·rename_i hw
     rw[wantA_sound hs hw]
     simp only[if_true]
     simp only at he
     split at he
     ·rename_i v h1 touch ha
      split at he
      rotate_left
      ·rename_i x hpx
       cases he
       refine .inl (actA_sound hcall htab hok ha hR W hs (fun K' w' u hpn _ _ _=>(by rw[hpx] at hpn;cases hpn)) (fun y K' w' u hpy hv hst=>?_))
       rw[hpx] at hpy
       cases hpy
       exact hq _ K' a w' _ ⟨hs.1,u,rfl,rfl⟩ (panE_sound (hs.mono hst.ext) hv) rfl hst
      rename_i hpn0
      split at he
      ·rename_i hall
       refine .inl (actA_sound hcall htab hok ha hR W hs (fun K' w' u hpn hvu hst hfrm=>?_) (fun y K' w' u hpy _ _=>(by rw[hpn0] at hpy;cases hpy)))
       obtain⟨p1,p2⟩:=putA_sound (hs.mono hst.ext) hvu o.dst
       have hkeep:∀p∈H,waitsOn ops .any j p.1=false→p.2 w'∧∃dep:Option Nat,(∀b,dep=some b→(p.1,b)∈holds)∧∀w'':World,(∀g o c,K'.M g o=some c→w''.cell? ⟨g,o,none⟩=some c)→(∀i,dep=some i→∀g,K'.mu i=some g→w''.heap[g]? = w'.heap[g]?)→p.2 w'':=by
        intro p hp hnw
        obtain⟨h1',dep,h2,h3⟩:=hh p hp
        have hblk:∀i,dep=some i→∀g,K.mu i=some g→w'.heap[g]? = w.heap[g]?:=by
         intro b hb g hg
         have hm:=h2 b hb
         rw[List.all_eq_true] at hall
         have hoh:=hall _ hm
         unfold okHold at hoh
         rw[Bool.or_eq_true] at hoh
         rcases hoh with hoh|hoh
         ·rw[hwo] at hnw
          simp only at hoh
          rw[hnw] at hoh;cases hoh
         ·rw[Bool.and_eq_true] at hoh
          obtain⟨ho1,ho2⟩:=hoh
          refine hfrm.block g (W.lt b g hg) ?_
          rintro⟨t,x,ht,hx,hlx,hmt⟩
          obtain⟨y,hbx,hly⟩:∃y,h[b]? = some y∧y.live=true:=by
           unfold liveAt at ho2
           split at ho2
           ·rename_i y hc;exact⟨y,hc,ho2⟩
           ·cases ho2
          have:=W.inj t b x y g hx hbx hlx hly hmt hg
          subst this
          simp[ht] at ho1
        refine⟨h3 w' (fun g o c hm=>hst.wr.agr g o c (hst.ext.M g o c hm)) hblk,dep,h2,fun w'' g1 g2=>h3 w'' (fun g o c hm=>g1 g o c (hst.ext.M g o c hm)) (fun i hi g hg=>?_)⟩
        rw[g2 i hi g (hst.ext.mu i g hg)];exact hblk i hi g hg
       refine⟨fun p hp hnw=>(hkeep p hp hnw).1,?_⟩
       refine aregS_sound hcall htab hok hsel hQp r _ _ _ _ sl' h' fuel _ K' w' _ hv hfl he (hst.ext.R.trans hR) hst.wr p1 (fun p hp=>?_) (fun e2 K2 a2 w2 tm2 q0 q1 q2 q3=>hq e2 K2 a2 w2 tm2 q0 q1 (q2.trans p2) (hst.trans q3))
       rw[List.mem_filter] at hp
       have hnw:waitsOn ops .any j p.1=false:=by simpa using hp.2
       obtain⟨k1,dep,k2,k3⟩:=hkeep p hp.1 hnw
       refine⟨k1,dep,fun b hb=>?_,k3⟩
       rw[List.mem_filter]
       exact⟨k2 b hb,by rw[hwo] at hnw;simp only;rw[hnw];rfl⟩
      ·cases he
     ·cases he
    ·rename_i hw
     rw[wantA_sound hs hw]
     simp only[Bool.false_eq_true,if_false]
     simp only at he
     obtain⟨p1,p2⟩:=putA_sound hs (VR.undef K) o.dst
     refine⟨fun p hp _=>(hh p hp).1,?_⟩
     refine aregS_sound hcall htab hok hsel hQp r _ _ _ _ sl' h' fuel _ K w _ hv hfl he hR W p1 (fun p hp=>?_) (fun e2 K2 a2 w2 tm2 q0 q1 q2 q3=>hq e2 K2 a2 w2 tm2 q0 q1 (q2.trans p2) q3)
     rw[List.mem_filter] at hp
     have hnw:waitsOn ops .any j p.1=false:=by simpa using hp.2
     obtain⟨k1,dep,k2,k3⟩:=hh p hp.1
     refine⟨k1,dep,fun b hb=>?_,k3⟩
     rw[List.mem_filter]
     exact⟨k2 b hb,by rw[hwo] at hnw;simp only;rw[hnw];rfl⟩
    ·cases he
theorem areg_draw(hcall:CallsOk R P call)(htab:TabOk R P tab)(hok:∀f,okf f=true→callable P f=true)(hm:P.follows .mixedOrders=true)(hQp:∀(i:Nat) (oi:Oper),ops[i]? = some oi→∀c (a:Act) v w,Q (.panic c) (a.put oi.dst v) w→Q (.panic c) a w){n id:Nat}{rs:List Nat}{st:List (Nat×Bool)}(hst:schedOk ops st=true)
  {sl:Env} {h:List AObj} {ex:AExit} {sl':Env} {h':List AObj} (he:aregS P call okf tab n rs ops st [] sl h=some (ex,sl',h')) {K:Kn} {w:World} {a:Act} (hR:K.R=R) (W:WR K h w) (hs:EnvOk K n sl a.tmps)
  (hq:∀e K' a' w' tm,OutIs n ex e a' tm→EnvOk K' n sl' tm→a'.defers=a.defers→Step K h w K' h' w'→Q e a' w'):(Code.region id ops true).wp P Q a w:=by
 unfold schedOk at hst
 rw[Bool.and_eq_true,Bool.and_eq_true] at hst
 obtain⟨⟨h1,h2⟩,h3⟩:=hst
 refine wp_region_any hm (wpAny_of_X _ [] _ _ _ ?_)
 have hd:Step K h w K h w.drew:=⟨W.same rfl,Ext.refl K,⟨rfl,rfl,rfl,Nat.le_refl _,fun _ _ _=>rfl⟩,fun _ _=>⟨rfl,rfl⟩,fun _ _ _ _=>rfl,fun _ _ h=>.inl h,fun _ h _=>h,Nat.le_refl _⟩
 exact aregS_sound hcall htab hok h1 hQp _ _ [] sl h sl' h' ops.size [] K w.drew a h3 (by simpa using h2) he hR hd.wr hs (fun p hp=>by cases hp) (fun e K' a' w' tm q0 q1 q2 q3=>hq e K' a' w' tm q0 q1 q2 (hd.trans q3))
end
end Go.Proofs.YtfphhabaeggenaaDoor
