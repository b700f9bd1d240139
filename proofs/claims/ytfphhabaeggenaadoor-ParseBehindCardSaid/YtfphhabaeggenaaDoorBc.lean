/- Joined texts. -/
import Derived.Test.YtfphhabaeggenaaDoorBk
import Derived.Laws.StructEq
set_option linter.all false
namespace Go.Proofs.YtfphhabaeggenaaDoor
open Go.RowKit
structure CE where
 f:Nat
 args:List AV
 h:List AObj
 v:AV
 h':List AObj
def callTab:List CE→Nat→List AV→List AObj→Option (AV×List AObj)
 |[],_,_,_=>none
 |e::l,f,args,h=>if Nat.beq f e.f&&eqBs args e.args&&eqHs h e.h then some (e.v,e.h') else callTab l f args h
theorem callTab_ok{R:Nat→PV}{P:Program}:∀{l:List CE},(∀e∈l,CallOk R P e.f e.args e.h e.v e.h')→CallsOk R P (callTab l)
 |[],_,_,_,_,_,_,h=>by cases h
 |e::l,he,f,args,h,v,h',hc=>by
  rw[callTab] at hc
  split at hc
  ·rename_i hb
   rw[Bool.and_eq_true,Bool.and_eq_true] at hb
   cases hc
   have e1:=Nat.eq_of_beq_eq_true hb.1.1
   have e2:=eqBs_eq _ _ hb.1.2
   have e3:=eqHs_eq hb.2
   subst e1
   subst e2
   subst e3
   exact he e (List.mem_cons_self ..)
  ·exact callTab_ok (fun x hx=>he x (List.mem_cons_of_mem _ hx)) f args h v h' hc
structure BE where
 id:Nat
 e:Env
 h:List AObj
 ex:AExit
 e':Env
 h':List AObj
def hasB(sl:Env):Env→Bool
 |[]=>true
 |(d,v)::r=>(match look sl d with|some u=>eqB u v|none=>false)&&hasB sl r
theorem hasB_le{sl:Env}:∀{e:Env},hasB sl e=true→EnvLe e sl
 |[],_,d,v,h=>by cases h
 |(k,u)::r,he,d,v,h=>by
  rw[hasB,Bool.and_eq_true] at he
  simp only[look] at h
  split at h
  ·rename_i hb
   cases h
   have:=he.1
   split at this
   ·rename_i w hw
    rw[←Nat.eq_of_beq_eq_true hb,hw,eqB_eq _ _ this]
   ·cases this
  ·exact hasB_le he.2 d v h
def lpTab:List BE→Nat→Env→List AObj→Option (AExit×Env×List AObj)
 |[],_,_,_=>none
 |b::l,i,sl,h=>if Nat.beq i b.id&&hasB sl b.e&&eqHs h b.h then some (b.ex,b.e',b.h') else lpTab l i sl h
theorem lpTab_ok{R:Nat→PV}{P:Program}{n:Nat}{T:FT}{c:Code}{l:List BE}(hT:T.lp=some (lpTab l))(hc:∀b∈l,∀c'∈subs b.id c,CodeOk R P n (.block b.id c') b.e b.h b.ex b.e' b.h'):LpOk R P n T c:=by
 intro lp hlp i c' hm sl h ex1 sl1 h1 hl
 rw[hT] at hlp
 cases hlp
 clear hT
 induction l with
 |nil=>cases hl
 |cons b l ih=>
  rw[lpTab] at hl
  split at hl
  ·rename_i hb
   rw[Bool.and_eq_true,Bool.and_eq_true] at hb
   cases hl
   have e1:=Nat.eq_of_beq_eq_true hb.1.1
   have e3:=eqHs_eq hb.2
   subst e1
   subst e3
   exact(hc b (List.mem_cons_self ..) c' hm).weak (hasB_le hb.1.2) (fun _ _ h=>h)
  ·exact ih (fun x hx=>hc x (List.mem_cons_of_mem _ hx)) hl
mutual
def namesP:PV→List Nat
 |.sym i=>[i]
 |.rows es=>namesPss es
 |.lit _=>[]
 |.opq _ _ _=>[]
 |.rng _ _=>[]
 |.any=>[]
def namesPs:List PV→List Nat
 |[]=>[]
 |p::l=>namesP p++namesPs l
def namesPss:List (List PV)→List Nat
 |[]=>[]
 |p::l=>namesPs p++namesPss l
end
mutual
def namesA:AV→List Nat
 |.pv p=>namesP p
 |.trows _ es=>namesPss es
 |.tsym _ i=>[i]
 |.ptr _ _=>[]
 |.cptr cs=>namesPs cs
 |.agg l=>namesAs l
 |.tup l=>namesAs l
 |.fn _ l=>namesAs l
 |.sl _ _ _ _=>[]
 |.ifc _ v=>namesA v
 |.arr _=>[]
 |.aptr _ i _=>namesP i
def namesAs:List AV→List Nat
 |[]=>[]
 |p::l=>namesA p++namesAs l
end
section
variable{R R':Nat→PV}
mutual
theorem openPV_congr:∀(p:PV),(∀i∈namesP p,R i=R' i)→openPV R p=openPV R' p
 |.sym i,h=>by rw[openPV,openPV];exact h i (by simp[namesP])
 |.rows es,h=>by rw[openPV,openPV,openPss_congr es (by rw[namesP] at h;exact h)]
 |.lit _,_=>by rw[openPV,openPV]
 |.opq _ _ _,_=>by rw[openPV,openPV]
 |.rng _ _,_=>by rw[openPV,openPV]
 |.any,_=>by rw[openPV,openPV]
theorem openPs_congr:∀(l:List PV),(∀i∈namesPs l,R i=R' i)→openPs R l=openPs R' l
 |[],_=>by rw[openPs,openPs]
 |p::l,h=>by
  rw[namesPs] at h
  rw[openPs,openPs,openPV_congr p (fun i hi=>h i (List.mem_append_left _ hi)),openPs_congr l (fun i hi=>h i (List.mem_append_right _ hi))]
theorem openPss_congr:∀(l:List (List PV)),(∀i∈namesPss l,R i=R' i)→openPss R l=openPss R' l
 |[],_=>by rw[openPss,openPss]
 |p::l,h=>by
  rw[namesPss] at h
  rw[openPss,openPss,openPs_congr p (fun i hi=>h i (List.mem_append_left _ hi)),openPss_congr l (fun i hi=>h i (List.mem_append_right _ hi))]
end
mutual
theorem openAV_congr:∀(a:AV),(∀i∈namesA a,R i=R' i)→openAV R a=openAV R' a
 |.pv p,h=>by rw[openAV,openAV,openPV_congr p (by rw[namesA] at h;exact h)]
 |.trows t es,h=>by rw[openAV,openAV,openPss_congr es (by rw[namesA] at h;exact h)]
 |.tsym t i,h=>by rw[openAV,openAV,h i (by simp[namesA])]
 |.ptr _ _,_=>by rw[openAV,openAV]
 |.cptr cs,h=>by rw[openAV,openAV,openPs_congr cs (by rw[namesA] at h;exact h)]
 |.agg l,h=>by rw[openAV,openAV,openAVs_congr l (by rw[namesA] at h;exact h)]
 |.tup l,h=>by rw[openAV,openAV,openAVs_congr l (by rw[namesA] at h;exact h)]
 |.fn _ l,h=>by rw[openAV,openAV,openAVs_congr l (by rw[namesA] at h;exact h)]
 |.sl _ _ _ _,_=>by rw[openAV,openAV]
 |.ifc _ v,h=>by rw[openAV,openAV,openAV_congr v (by rw[namesA] at h;exact h)]
 |.arr _,_=>by rw[openAV,openAV]
 |.aptr _ i _,h=>by rw[openAV,openAV,openPV_congr i (by rw[namesA] at h;exact h)]
theorem openAVs_congr:∀(l:List AV),(∀i∈namesAs l,R i=R' i)→openAVs R l=openAVs R' l
 |[],_=>by rw[openAVs,openAVs]
 |p::l,h=>by
  rw[namesAs] at h
  rw[openAVs,openAVs,openAV_congr p (fun i hi=>h i (List.mem_append_left _ hi)),openAVs_congr l (fun i hi=>h i (List.mem_append_right _ hi))]
end
end
def namesO:AObj→List Nat
 |.box _ l=>namesAs l
 |.tok _ _ n=>if n<symBase then [] else [n-symBase]
 |.dead=>[]
 |.arr _ _ p=>namesP p
def namesH:List AObj→List Nat
 |[]=>[]
 |x::l=>namesO x++namesH l
def namesE:Env→List Nat
 |[]=>[]
 |(_,a)::l=>namesA a++namesE l
def openH(R:Nat→PV):List AObj→List AObj
 |[]=>[]
 |x::l=>openO R x::openH R l
theorem openH_eq(R:Nat→PV):∀h,openH R h=h.map (openO R)
 |[]=>rfl
 |x::l=>by rw[openH,openH_eq R l];rfl
theorem openO_congr{R R':Nat→PV}(x:AObj)(h:∀i∈namesO x,R i=R' i):openO R x=openO R' x:=by
 cases x with
 |box ty l=>simp only[openO];rw[openAVs_congr l h]
 |arr ty sz p=>simp only[openO];rw[openPV_congr p h]
 |dead=>rfl
 |tok ty sz n=>
  simp only[openO]
  unfold dl
  split
  ·rfl
  ·rename_i hn
   rw[h (n-symBase) (by rw[namesO,if_neg hn];exact List.mem_singleton.2 rfl)]
theorem openH_congr{R R':Nat→PV}:∀(h:List AObj),(∀i∈namesH h,R i=R' i)→openH R h=openH R' h
 |[],_=>rfl
 |x::l,h=>by
  rw[namesH] at h
  rw[openH,openH,openO_congr x (fun i hi=>h i (List.mem_append_left _ hi)),openH_congr l (fun i hi=>h i (List.mem_append_right _ hi))]
theorem openE_congr{R R':Nat→PV}:∀(e:Env),(∀i∈namesE e,R i=R' i)→openE R e=openE R' e
 |[],_=>rfl
 |(d,a)::l,h=>by
  rw[namesE] at h
  rw[openE,openE,openAV_congr a (fun i hi=>h i (List.mem_append_left _ hi)),openE_congr l (fun i hi=>h i (List.mem_append_right _ hi))]
def namesOp:Option AV→List Nat
 |none=>[]
 |some a=>namesA a
def namesF:SF→List Nat
 |.bin _ _ u v r=>namesA u++namesA v++namesA r
 |.len _ u r=>namesA u++namesA r
 |.idx _ u i r=>namesA u++namesA i++namesA r
 |.ind _ u i r=>namesA u++namesA i++namesA r
 |.slc _ u lo hi r=>namesA u++namesOp lo++namesOp hi++namesA r
 |.conv _ _ u r=>namesA u++namesA r
 |.un _ u r=>namesA u++namesA r
 |.app _ s x j=>namesA s++namesA x++[j]
 |.app0 _ s x=>namesA s++namesA x
 |.names=>[]
 |.mx _ u v r=>namesA u++namesA v++namesA r
 |.set p i _ c j=>namesP p++namesP i++namesPs c++[j]
 |.mk _ n j=>namesA n++[j]
 |.apq _ s x j=>namesA s++namesA x++[j]
theorem openOp_congr{R R':Nat→PV}(a:Option AV)(h:∀i∈namesOp a,R i=R' i):a.map (openAV R)=a.map (openAV R'):=by
 cases a with
 |none=>rfl
 |some a=>simp only[Option.map_some];rw[openAV_congr a h]
theorem SF.ok_congr{R R':Nat→PV}{P:Program}(f:SF)(h:∀i∈namesF f,R i=R' i)(hf:f.ok R P):f.ok R' P:=by
 cases f with
 |bin b t u v r=>
  simp only[namesF,List.mem_append] at h
  simp only[SF.ok] at hf ⊢
  rwa [←openAV_congr u (fun i hi=>h i (.inl (.inl hi))),←openAV_congr v (fun i hi=>h i (.inl (.inr hi))),←openAV_congr r (fun i hi=>h i (.inr hi))]
 |mx mn u v r=>
  simp only[namesF,List.mem_append] at h
  simp only[SF.ok] at hf ⊢
  rwa [←openAV_congr u (fun i hi=>h i (.inl (.inl hi))),←openAV_congr v (fun i hi=>h i (.inl (.inr hi))),←openAV_congr r (fun i hi=>h i (.inr hi))]
 |len t u r=>
  simp only[namesF,List.mem_append] at h
  simp only[SF.ok] at hf ⊢
  rwa [←openAV_congr u (fun i hi=>h i (.inl hi)),←openAV_congr r (fun i hi=>h i (.inr hi))]
 |idx t u v r=>
  simp only[namesF,List.mem_append] at h
  simp only[SF.ok] at hf ⊢
  rwa [←openAV_congr u (fun i hi=>h i (.inl (.inl hi))),←openAV_congr v (fun i hi=>h i (.inl (.inr hi))),←openAV_congr r (fun i hi=>h i (.inr hi))]
 |ind t u v r=>
  simp only[namesF,List.mem_append] at h
  simp only[SF.ok] at hf ⊢
  rwa [←openAV_congr u (fun i hi=>h i (.inl (.inl hi))),←openAV_congr v (fun i hi=>h i (.inl (.inr hi))),←openAV_congr r (fun i hi=>h i (.inr hi))]
 |slc t u lo hi r=>
  simp only[namesF,List.mem_append] at h
  simp only[SF.ok] at hf ⊢
  rwa [←openAV_congr u (fun i hi=>h i (.inl (.inl (.inl hi)))),←openOp_congr lo (fun i hi=>h i (.inl (.inl (.inr hi)))),←openOp_congr hi (fun i hi=>h i (.inl (.inr hi))),←openAV_congr r (fun i hi=>h i (.inr hi))]
 |conv s d u r=>
  simp only[namesF,List.mem_append] at h
  simp only[SF.ok] at hf ⊢
  rwa [←openAV_congr u (fun i hi=>h i (.inl hi)),←openAV_congr r (fun i hi=>h i (.inr hi))]
 |un o u r=>
  simp only[namesF,List.mem_append] at h
  simp only[SF.ok] at hf ⊢
  rwa [←openAV_congr u (fun i hi=>h i (.inl hi)),←openAV_congr r (fun i hi=>h i (.inr hi))]
 |app t s x j=>
  simp only[namesF,List.mem_append] at h
  simp only[SF.ok] at hf ⊢
  rwa [←openAV_congr s (fun i hi=>h i (.inl (.inl hi))),←openAV_congr x (fun i hi=>h i (.inl (.inr hi))),←h j (.inr (List.mem_singleton.2 rfl))]
 |app0 t s x=>
  simp only[namesF,List.mem_append] at h
  simp only[SF.ok] at hf ⊢
  rwa [←openAV_congr s (fun i hi=>h i (.inl hi)),←openAV_congr x (fun i hi=>h i (.inr hi))]
 |names=>trivial
 |apq t s x j=>
  simp only[namesF,List.mem_append] at h
  simp only[SF.ok] at hf ⊢
  rwa [←openAV_congr s (fun i hi=>h i (.inl (.inl hi))),←openAV_congr x (fun i hi=>h i (.inl (.inr hi))),←h j (.inr (List.mem_singleton.2 rfl))]
 |mk t m j=>
  simp only[namesF,List.mem_append] at h
  simp only[SF.ok] at hf ⊢
  rwa [←openAV_congr m (fun i hi=>h i (.inl hi)),←h j (.inr (List.mem_singleton.2 rfl))]
 |set p a o c j=>
  simp only[namesF,List.mem_append] at h
  simp only[SF.ok] at hf ⊢
  rwa [←openPV_congr p (fun i hi=>h i (.inl (.inl (.inl hi)))),←openPV_congr a (fun i hi=>h i (.inl (.inl (.inr hi)))),←openPs_congr c (fun i hi=>h i (.inl (.inr hi))),←h j (.inr (List.mem_singleton.2 rfl))]
section
variable{R:Nat→PV}
mutual
theorem openPV_ns(hR:∀i,NS (R i)):∀(p:PV),NS (openPV R p)
 |.sym i=>by rw[openPV];exact hR i
 |.rows es=>by rw[openPV];exact .rows _ (openPss_ns hR es)
 |.lit _=>by rw[openPV];exact .lit _
 |.opq _ _ _=>by rw[openPV];exact .opq ..
 |.rng _ _=>by rw[openPV];exact .rng ..
 |.any=>by rw[openPV];exact .any
theorem openPs_ns(hR:∀i,NS (R i)):∀(l:List PV),∀p∈openPs R l,NS p
 |[],p,hp=>by rw[openPs] at hp;cases hp
 |q::l,p,hp=>by
  have h1:=openPV_ns hR q
  have h2:=openPs_ns hR l
  rw[openPs] at hp
  rcases List.mem_cons.1 hp with rfl|hp
  ·exact h1
  ·exact h2 p hp
theorem openPss_ns(hR:∀i,NS (R i)):∀(es:List (List PV)),∀c∈openPss R es,∀p∈c,NS p
 |[],c,hc,_,_=>by rw[openPss] at hc;cases hc
 |q::l,c,hc,p,hp=>by
  have h1:=openPs_ns hR q
  have h2:=openPss_ns hR l
  rw[openPss] at hc
  rcases List.mem_cons.1 hc with rfl|hc
  ·exact h1 p hp
  ·exact h2 c hc p hp
end
end
def isRow:PV→Prop
 |.rows _=>True
 |_=>False
mutual
def TsA(R:Nat→PV):AV→Prop
 |.tsym _ i=>isRow (R i)
 |.agg l=>TsAs R l
 |.tup l=>TsAs R l
 |.fn _ l=>TsAs R l
 |.pv _=>True
 |.trows _ _=>True
 |.ptr _ _=>True
 |.cptr _=>True
 |.sl _ _ _ _=>True
 |.ifc _ v=>TsA R v
 |.arr _=>True
 |.aptr _ _ _=>True
def TsAs(R:Nat→PV):List AV→Prop
 |[]=>True
 |a::l=>TsA R a∧TsAs R l
end
def TsO(R:Nat→PV):AObj→Prop
 |.box _ l=>TsAs R l
 |.tok _ _ n=>dl R n<symBase
 |.dead=>True
 |.arr _ _ _=>True
def TsH(R:Nat→PV):List AObj→Prop
 |[]=>True
 |x::l=>TsO R x∧TsH R l
def TsE(R:Nat→PV):Env→Prop
 |[]=>True
 |(_,a)::l=>TsA R a∧TsE R l
section
variable{R:Nat→PV}
mutual
theorem openAV_ns(hR:∀i,NS (R i)):∀(a:AV),TsA R a→NSA (openAV R a)
 |.pv p,_=>by rw[openAV];exact .pv _ (openPV_ns hR p)
 |.trows t es,_=>by rw[openAV];exact .trows _ _ (openPss_ns hR es)
 |.tsym t i,h=>by
  rw[openAV]
  rw[TsA] at h
  split
  ·rename_i es he
   have:=hR i
   rw[he] at this
   cases this with|rows _ hn=>exact .trows _ _ hn
  ·rename_i hn
   unfold isRow at h
   split at h
   ·rename_i es he;exact absurd he (hn es)
   ·exact h.elim
 |.ptr _ _,_=>by rw[openAV];exact .ptr ..
 |.cptr cs,_=>by rw[openAV];exact .cptr _ (openPs_ns hR cs)
 |.agg l,h=>by rw[openAV];exact .agg _ (openAVs_ns hR l (by rw[TsA] at h;exact h))
 |.tup l,h=>by rw[openAV];exact .tup _ (openAVs_ns hR l (by rw[TsA] at h;exact h))
 |.fn _ l,h=>by rw[openAV];exact .fn _ _ (openAVs_ns hR l (by rw[TsA] at h;exact h))
 |.sl _ _ _ _,_=>by rw[openAV];exact .sl ..
 |.ifc _ v,h=>by rw[openAV];exact .ifc _ _ (openAV_ns hR v (by rw[TsA] at h;exact h))
 |.arr _,_=>by rw[openAV];exact .arr ..
 |.aptr _ i _,_=>by rw[openAV];exact .aptr _ _ _ (openPV_ns hR i)
theorem openAVs_ns(hR:∀i,NS (R i)):∀(l:List AV),TsAs R l→∀a∈openAVs R l,NSA a
 |[],_,a,ha=>by rw[openAVs] at ha;cases ha
 |b::l,h,a,ha=>by
  rw[TsAs] at h
  have h1:=openAV_ns hR b h.1
  have h2:=openAVs_ns hR l h.2
  rw[openAVs] at ha
  rcases List.mem_cons.1 ha with rfl|ha
  ·exact h1
  ·exact h2 a ha
end
theorem openO_ns(hR:∀i,NS (R i))(x:AObj)(h:TsO R x):NSO (openO R x):=by
 cases x with
 |box ty l=>exact .box _ _ (openAVs_ns hR l h)
 |tok ty sz n=>exact .tok _ _ _ h
 |dead=>exact .dead
 |arr ty sz p=>exact .arr _ _ _ (openPV_ns hR p)
theorem openH_ns(hR:∀i,NS (R i)):∀(l:List AObj),TsH R l→∀x∈openH R l,NSO x
 |[],_,x,hx=>by cases hx
 |y::l,h,x,hx=>by
  rcases List.mem_cons.1 hx with rfl|hx
  ·exact openO_ns hR y h.1
  ·exact openH_ns hR l h.2 x hx
theorem openE_ns(hR:∀i,NS (R i)):∀(e:Env),TsE R e→NSE (openE R e)
 |[],_,x,hx=>by cases hx
 |(d,a)::l,h,x,hx=>by
  rcases List.mem_cons.1 hx with rfl|hx
  ·exact openAV_ns hR a h.1
  ·exact openE_ns hR l h.2 x hx
end
def nm(l:List PV):Nat→PV:=fun i=>l.getD i .any
theorem nm_app{l ws:List PV}{i:Nat}(h:i<l.length):nm (l++ws) i=nm l i:=by
 unfold nm
 rw[List.getD_eq_getElem?_getD,List.getD_eq_getElem?_getD,List.getElem?_append_left h]
def NSL(l:List PV):Prop:=∀p∈l,NS p
theorem NSL.nm{l:List PV}(h:NSL l)(i:Nat):NS (nm l i):=by
 unfold YtfphhabaeggenaaDoor.nm
 rw[List.getD_eq_getElem?_getD]
 cases hi:l[i]? with
 |none=>exact .any
 |some p=>exact h p (List.mem_of_getElem? hi)
inductive Tr where
 |say (f:SF) (m:Nat) (k:Tr)
 |alt (k l:Tr)
 |call (c:CE) (m:Nat) (k:Tr)
 |blk (b:BE) (m:Nat) (k:Tr)
 |code (ex:AExit) (e:Env) (h:List AObj)
 |ret (v:AV) (h:List AObj)
inductive Out where
 |code (ex:AExit) (e:Env) (h:List AObj)
 |ret (v:AV) (h:List AObj)
def exN:Nat→List PV→(List PV→Prop)→Prop
 |0,l,X=>X l
 |m+1,l,X=>∃v,exN m (l++[v]) fun l'=>X l'∧NS v
theorem exN_spec:∀{m:Nat} {l:List PV} {X:List PV→Prop},exN m l X→NSL l→∃vs,vs.length=m∧NSL (l++vs)∧X (l++vs):=by
 have key:∀{m:Nat} {l:List PV} {X:List PV→Prop},exN m l X→∃vs,vs.length=m∧X (l++vs)∧NSL vs:=by
  intro m
  induction m with
  |zero=>intro l X h;exact⟨[],rfl,by simpa[exN] using h,fun p hp=>by cases hp⟩
  |succ m ih=>
   intro l X h
   obtain⟨v,hv⟩:=h
   obtain⟨vs,h1,⟨h2,h3⟩,h4⟩:=ih hv
   refine⟨v::vs,by simp[h1],by simpa using h2,fun p hp=>?_⟩
   rcases List.mem_cons.1 hp with rfl|hp
   ·exact h3
   ·exact h4 p hp
 intro m l X h hn
 obtain⟨vs,h1,h2,h3⟩:=key h
 refine⟨vs,h1,fun p hp=>?_,h2⟩
 rcases List.mem_append.1 hp with hp|hp
 ·exact hn p hp
 ·exact h3 p hp
def bodyOf(fn:Func):Code:=match fn.body with
 |some c=>c
 |none=>.skip
theorem body_eq{fn:Func}(h:fn.body.isSome=true):fn.body=some (bodyOf fn):=by
 unfold bodyOf
 cases hb:fn.body with
 |none=>rw[hb] at h;cases h
 |some c=>rfl
def Sem(P:Program)(f:Nat)(args:List AV)(h:List AObj)(v:AV)(h':List AObj):Prop:=∀R,CallOk R P f args h v h'
def BlkS(P:Program)(fn:Func)(id:Nat)(e:Env)(h:List AObj)(ex:AExit)(e':Env)(h':List AObj):Prop:=∀R,∀c'∈subs id (bodyOf fn),CodeOk R P fn.ntmps (.block id c') e h ex e' h'
def Den(P:Program)(fn:Func):Tr→List PV→Out→Prop
 |.say f m k,l,o=>exN m l fun l'=>f.ok (nm l') P∧Den P fn k l' o
 |.alt a b,l,o=>Den P fn a l o∨Den P fn b l o
 |.call c m k,l,o=>exN m l fun l'=>(Sem P c.f (openAVs (nm l') c.args) (openH (nm l') c.h) (openAV (nm l') c.v) (openH (nm l') c.h')∧TsH (nm l') c.h∧TsH (nm l') c.h')∧Den P fn k l' o
 |.blk b m k,l,o=>exN m l fun l'=>(BlkS P fn b.id (openE (nm l') b.e) (openH (nm l') b.h) b.ex (openE (nm l') b.e') (openH (nm l') b.h')∧TsH (nm l') b.h∧TsH (nm l') b.h')∧Den P fn k l' o
 |.code ex e h,l,o=>o=.code ex (openE (nm l) e) (openH (nm l) h)∧TsE (nm l) e∧TsH (nm l) h
 |.ret v h,l,o=>o=.ret (openAV (nm l) v) (openH (nm l) h)∧TsA (nm l) v∧TsH (nm l) h
def ltAll(n:Nat):List Nat→Bool
 |[]=>true
 |i::l=>Nat.blt i n&&ltAll n l
theorem ltAll_spec{n:Nat}:∀{l:List Nat},ltAll n l=true→∀i∈l,i<n
 |[],_,i,hi=>by cases hi
 |j::l,h,i,hi=>by
  rw[ltAll,Bool.and_eq_true] at h
  rcases List.mem_cons.1 hi with rfl|hi
  ·exact Nat.le_of_ble_eq_true h.1
  ·exact ltAll_spec h.2 i hi
def namesC(c:CE):List Nat:=namesAs c.args++namesH c.h++namesA c.v++namesH c.h'
def namesB(b:BE):List Nat:=namesE b.e++namesH b.h++namesE b.e'++namesH b.h'
def chk(P:Program)(leaf:Out→List SF→List CE→List BE→Bool):Tr→Nat→List SF→List CE→List BE→Bool
 |.say f m k,n,tab,cs,bs=>ltAll (n+m) (namesF f)&&chk P leaf k (n+m) (f::tab) cs bs
 |.alt a b,n,tab,cs,bs=>chk P leaf a n tab cs bs&&chk P leaf b n tab cs bs
 |.call c m k,n,tab,cs,bs=>ltAll (n+m) (namesC c)&&(callable P c.f&&chk P leaf k (n+m) tab (c::cs) bs)
 |.blk b m k,n,tab,cs,bs=>ltAll (n+m) (namesB b)&&chk P leaf k (n+m) tab cs (b::bs)
 |.code ex e h,_,tab,cs,bs=>leaf (.code ex e h) tab cs bs
 |.ret v h,_,tab,cs,bs=>leaf (.ret v h) tab cs bs
def openOut(R:Nat→PV):Out→Out
 |.code ex e h=>.code ex (openE R e) (openH R h)
 |.ret v h=>.ret (openAV R v) (openH R h)
def TsOut(R:Nat→PV):Out→Prop
 |.code _ e h=>TsE R e∧TsH R h
 |.ret v h=>TsA R v∧TsH R h
def CallG(P:Program)(l:List PV)(c:CE):Prop:=Sem P c.f (openAVs (nm l) c.args) (openH (nm l) c.h) (openAV (nm l) c.v) (openH (nm l) c.h')∧TsH (nm l) c.h∧TsH (nm l) c.h'
def BlkG(P:Program)(fn:Func)(l:List PV)(b:BE):Prop:=BlkS P fn b.id (openE (nm l) b.e) (openH (nm l) b.h) b.ex (openE (nm l) b.e') (openH (nm l) b.h')∧TsH (nm l) b.h∧TsH (nm l) b.h'
structure Inv(P:Program)(fn:Func)(l:List PV)(tab:List SF)(cs:List CE)(bs:List BE):Prop where
 ns:NSL l
 tab:∀f∈tab,f.ok (nm l) P∧∀i∈namesF f,i<l.length
 cs:∀c∈cs,CallG P l c∧(∀i∈namesC c,i<l.length)∧callable P c.f=true
 bs:∀b∈bs,BlkG P fn l b∧∀i∈namesB b,i<l.length
section
variable{P:Program}{fn:Func}
mutual
theorem TsA_congr{R R':Nat→PV}:∀(a:AV),(∀i∈namesA a,R i=R' i)→TsA R a→TsA R' a
 |.tsym t i,h,ht=>by rw[TsA] at ht ⊢;rw[←h i (by simp[namesA])];exact ht
 |.agg l,h,ht=>by rw[TsA] at ht ⊢;exact TsAs_congr l (by rw[namesA] at h;exact h) ht
 |.tup l,h,ht=>by rw[TsA] at ht ⊢;exact TsAs_congr l (by rw[namesA] at h;exact h) ht
 |.fn _ l,h,ht=>by rw[TsA] at ht ⊢;exact TsAs_congr l (by rw[namesA] at h;exact h) ht
 |.pv _,_,_=>by rw[TsA];trivial
 |.trows _ _,_,_=>by rw[TsA];trivial
 |.ptr _ _,_,_=>by rw[TsA];trivial
 |.cptr _,_,_=>by rw[TsA];trivial
 |.sl _ _ _ _,_,_=>by rw[TsA];trivial
 |.ifc _ v,h,ht=>by rw[TsA] at ht ⊢;exact TsA_congr v (by rw[namesA] at h;exact h) ht
 |.arr _,_,_=>by rw[TsA];trivial
 |.aptr _ _ _,_,_=>by rw[TsA];trivial
theorem TsAs_congr{R R':Nat→PV}:∀(l:List AV),(∀i∈namesAs l,R i=R' i)→TsAs R l→TsAs R' l
 |[],_,_=>by rw[TsAs];trivial
 |a::l,h,ht=>by
  rw[namesAs] at h
  rw[TsAs] at ht ⊢
  exact⟨TsA_congr a (fun i hi=>h i (List.mem_append_left _ hi)) ht.1,TsAs_congr l (fun i hi=>h i (List.mem_append_right _ hi)) ht.2⟩
end
theorem TsO_congr{R R':Nat→PV}(x:AObj)(h:∀i∈namesO x,R i=R' i)(ht:TsO R x):TsO R' x:=by
 cases x with
 |box ty l=>exact TsAs_congr l h ht
 |arr=>trivial
 |dead=>trivial
 |tok ty sz n=>
  have:=openO_congr (.tok ty sz n) h
  simp only[openO,AObj.tok.injEq] at this
  show dl R' n<symBase
  rw[←this.2.2];exact ht
theorem TsH_lift{R R':Nat→PV}:∀(h:List AObj),(∀i∈namesH h,R i=R' i)→TsH R h→TsH R' h
 |[],_,_=>trivial
 |x::l,h,ht=>by
  rw[namesH] at h
  exact⟨TsO_congr x (fun i hi=>h i (List.mem_append_left _ hi)) ht.1,TsH_lift l (fun i hi=>h i (List.mem_append_right _ hi)) ht.2⟩
theorem CallG.lift{l ws:List PV}{c:CE}(h:CallG P l c)(hn:∀i∈namesC c,i<l.length):CallG P (l++ws) c:=by
 have e:∀i∈namesC c,nm l i=nm (l++ws) i:=fun i hi=>(nm_app (hn i hi)).symm
 simp only[namesC,List.mem_append] at e
 obtain⟨h1,h2,h3⟩:=h
 refine⟨?_,TsH_lift _ (fun i hi=>e i (.inl (.inl (.inr hi)))) h2,TsH_lift _ (fun i hi=>e i (.inr hi)) h3⟩
 rw[←openAVs_congr c.args (fun i hi=>e i (.inl (.inl (.inl hi)))),←openAV_congr c.v (fun i hi=>e i (.inl (.inr hi))),←openH_congr c.h (fun i hi=>e i (.inl (.inl (.inr hi)))),←openH_congr c.h' (fun i hi=>e i (.inr hi))]
 exact h1
theorem BlkG.lift{l ws:List PV}{b:BE}(h:BlkG P fn l b)(hn:∀i∈namesB b,i<l.length):BlkG P fn (l++ws) b:=by
 have e:∀i∈namesB b,nm l i=nm (l++ws) i:=fun i hi=>(nm_app (hn i hi)).symm
 simp only[namesB,List.mem_append] at e
 obtain⟨h1,h2,h3⟩:=h
 refine⟨?_,TsH_lift _ (fun i hi=>e i (.inl (.inl (.inr hi)))) h2,TsH_lift _ (fun i hi=>e i (.inr hi)) h3⟩
 rw[←openE_congr b.e (fun i hi=>e i (.inl (.inl (.inl hi)))),←openE_congr b.e' (fun i hi=>e i (.inl (.inr hi))),←openH_congr b.h (fun i hi=>e i (.inl (.inl (.inr hi)))),←openH_congr b.h' (fun i hi=>e i (.inr hi))]
 exact h1
theorem Inv.lift{l ws:List PV}{tab:List SF}{cs:List CE}{bs:List BE}(h:Inv P fn l tab cs bs)(hw:NSL (l++ws)):Inv P fn (l++ws) tab cs bs:=by
 have hlen:∀i,i<l.length→i<(l++ws).length:=fun i hi=>by simp;omega
 refine⟨hw,fun f hf=>?_,fun c hc=>?_,fun b hb=>?_⟩
 ·obtain⟨h1,h2⟩:=h.tab f hf
  exact⟨f.ok_congr (fun i hi=>(nm_app (h2 i hi)).symm) h1,fun i hi=>hlen i (h2 i hi)⟩
 ·obtain⟨h1,h2,h3⟩:=h.cs c hc
  exact⟨h1.lift h2,fun i hi=>hlen i (h2 i hi),h3⟩
 ·obtain⟨h1,h2⟩:=h.bs b hb
  exact⟨h1.lift h2,fun i hi=>hlen i (h2 i hi)⟩
theorem Inv.nil{l:List PV}(h:NSL l):Inv P fn l [] [] []:=⟨h,fun _ h=>by simp at h,fun _ h=>by simp at h,fun _ h=>by simp at h⟩
theorem den_sound{leaf:Out→List SF→List CE→List BE→Bool}:∀(t:Tr) (l:List PV) (tab:List SF) (cs:List CE) (bs:List BE) (o:Out),
  chk P leaf t l.length tab cs bs=true→Inv P fn l tab cs bs→Den P fn t l o→
  ∃(o':Out) (ws:List PV) (tab':List SF) (cs':List CE) (bs':List BE),o=openOut (nm (l++ws)) o'∧TsOut (nm (l++ws)) o'∧leaf o' tab' cs' bs'=true∧Inv P fn (l++ws) tab' cs' bs'
 |.say f m k,l,tab,cs,bs,o,hc,hi,hd=>by
  rw[chk,Bool.and_eq_true] at hc
  rw[Den] at hd
  obtain⟨vs,h1,h2,h3,h4⟩:=exN_spec hd hi.ns
  have hl:l.length+m=(l++vs).length:=by simp[h1]
  rw[hl] at hc
  have hi':=hi.lift h2
  obtain⟨o',ws,tab',cs',bs',q1,q2,q3,q4⟩:=den_sound k (l++vs) (f::tab) cs bs o hc.2 ⟨hi'.ns,fun g hg=>by
   rcases List.mem_cons.1 hg with rfl|hg
   ·exact⟨h3,ltAll_spec hc.1⟩
   ·exact hi'.tab g hg,hi'.cs,hi'.bs⟩ h4
  exact⟨o',vs++ws,tab',cs',bs',by rw[←List.append_assoc];exact q1,by rw[←List.append_assoc];exact q2,q3,by rw[←List.append_assoc];exact q4⟩
 |.alt a b,l,tab,cs,bs,o,hc,hi,hd=>by
  rw[chk,Bool.and_eq_true] at hc
  rw[Den] at hd
  rcases hd with hd|hd
  ·exact den_sound a l tab cs bs o hc.1 hi hd
  ·exact den_sound b l tab cs bs o hc.2 hi hd
 |.call c m k,l,tab,cs,bs,o,hc,hi,hd=>by
  rw[chk,Bool.and_eq_true,Bool.and_eq_true] at hc
  obtain⟨c1,c2,c4⟩:=hc
  rw[Den] at hd
  obtain⟨vs,h1,h2,h3,h4⟩:=exN_spec hd hi.ns
  have hl:l.length+m=(l++vs).length:=by simp[h1]
  rw[hl] at c1 c4
  have hi':=hi.lift h2
  obtain⟨o',ws,tab',cs',bs',q1,q2,q3,q4⟩:=den_sound k (l++vs) tab (c::cs) bs o c4 ⟨hi'.ns,hi'.tab,fun g hg=>by
   rcases List.mem_cons.1 hg with rfl|hg
   ·exact⟨h3,ltAll_spec c1,c2⟩
   ·exact hi'.cs g hg,hi'.bs⟩ h4
  exact⟨o',vs++ws,tab',cs',bs',by rw[←List.append_assoc];exact q1,by rw[←List.append_assoc];exact q2,q3,by rw[←List.append_assoc];exact q4⟩
 |.blk b m k,l,tab,cs,bs,o,hc,hi,hd=>by
  rw[chk,Bool.and_eq_true] at hc
  rw[Den] at hd
  obtain⟨vs,h1,h2,h3,h4⟩:=exN_spec hd hi.ns
  have hl:l.length+m=(l++vs).length:=by simp[h1]
  rw[hl] at hc
  have hi':=hi.lift h2
  obtain⟨o',ws,tab',cs',bs',q1,q2,q3,q4⟩:=den_sound k (l++vs) tab cs (b::bs) o hc.2 ⟨hi'.ns,hi'.tab,hi'.cs,fun g hg=>by
   rcases List.mem_cons.1 hg with rfl|hg
   ·exact⟨h3,ltAll_spec hc.1⟩
   ·exact hi'.bs g hg⟩ h4
  exact⟨o',vs++ws,tab',cs',bs',by rw[←List.append_assoc];exact q1,by rw[←List.append_assoc];exact q2,q3,by rw[←List.append_assoc];exact q4⟩
 |.code ex e h,l,tab,cs,bs,o,hc,hi,hd=>by
  rw[chk] at hc
  rw[Den] at hd
  exact⟨.code ex e h,[],tab,cs,bs,by simpa[openOut] using hd.1,by simpa[TsOut] using hd.2,hc,by simpa using hi⟩
 |.ret v h,l,tab,cs,bs,o,hc,hi,hd=>by
  rw[chk] at hc
  rw[Den] at hd
  exact⟨.ret v h,[],tab,cs,bs,by simpa[openOut] using hd.1,by simpa[TsOut] using hd.2,hc,by simpa using hi⟩
def okfT(cs:List CE)(f:Nat):Bool:=cs.any fun c=>Nat.beq c.f f
theorem Inv.calls{l:List PV}{tab:List SF}{cs:List CE}{bs:List BE}(h:Inv P fn l tab cs bs):CallsOk (nm l) P (callX (callTab cs)):=by
 refine callX_ok (callTab_ok fun c hc=>?_)
 obtain⟨⟨g1,g2,g3⟩,h2,h3⟩:=h.cs _ hc
 refine CallOk.names (fun R'=>?_) (by rw[←openH_eq];exact openH_ns h.ns.nm _ g2) (by rw[←openH_eq];exact openH_ns h.ns.nm _ g3)
 rw[←openH_eq,←openH_eq]
 exact g1 R'
theorem Inv.okf{l:List PV}{tab:List SF}{cs:List CE}{bs:List BE}(h:Inv P fn l tab cs bs):∀f,okfT cs f=true→callable P f=true:=by
 intro f hf
 unfold okfT at hf
 rw[List.any_eq_true] at hf
 obtain⟨c,hc,he⟩:=hf
 rw[←Nat.eq_of_beq_eq_true he]
 exact(h.cs c hc).2.2
theorem Inv.tabOk{l:List PV}{tab:List SF}{cs:List CE}{bs:List BE}(h:Inv P fn l tab cs bs):TabOk (nm l) P (.names::tab):=by
 intro f hf
 rcases List.mem_cons.1 hf with rfl|hf
 ·trivial
 ·exact(h.tab f hf).1
theorem Inv.blks{l:List PV}{tab:List SF}{cs:List CE}{bs:List BE}(h:Inv P fn l tab cs bs){T:FT}{c:Code}(hs:∀id,subs id c⊆subs id (bodyOf fn))(hT:T.lp=some (lpTab bs)):LpOk (nm l) P fn.ntmps T c:=by
 refine lpTab_ok hT fun b hb c' hc'=>?_
 obtain⟨⟨g1,g2,g3⟩,_⟩:=h.bs b hb
 refine CodeOk.names (fun R'=>?_) (by rw[←openH_eq];exact openH_ns h.ns.nm _ g2) (by rw[←openH_eq];exact openH_ns h.ns.nm _ g3)
 rw[←openH_eq,←openH_eq]
 exact g1 R' c' (hs _ hc')
def leafF(P:Program)(T:FT)(f:Nat)(args:List AV)(h:List AObj):Out→List SF→List CE→List BE→Bool
 |.ret v h',tab,cs,bs=>match runF P (callX (callTab cs)) (okfT cs) (.names::tab) 0 {T with lp:=some (lpTab bs) } f args h with
  |some (v1,h1)=>eqB v1 v&&eqHs h1 h'
  |none=>false
 |_,_,_,_=>false
theorem fun_rule{T:FT}{f:Nat}{args:List AV}{h:List AObj}{t:Tr}{k0:Nat}(hf:P.funcs[f]? = some fn)(hb:fn.body.isSome=true)(hm:P.follows .mixedOrders=true)(ht:tabOk T.sd T.sx (bodyOf fn)=true)
  (hn:ltAll k0 (namesAs args++namesH h)=true) (hc:chk P (leafF P T f args h) t k0 [] [] []=true) {l:List PV} (hl:l.length=k0) (hns:NSL l) (h1:TsAs (nm l) args) (h2:TsH (nm l) h) {v:AV} {h':List AObj} (hd:Den P fn t l (.ret v h')) :
  Sem P f (openAVs (nm l) args) (openH (nm l) h) v h':=by
 subst hl
 obtain⟨o',ws,tab,cs,bs,e,q2,q3,q4⟩:=den_sound t l [] [] [] _ hc (Inv.nil hns) hd
 cases o' with
 |code=>cases e
 |ret v0 h0=>
  cases e
  rw[leafF] at q3
  split at q3
  ·rename_i v1 h1' hr
   rw[Bool.and_eq_true] at q3
   rw[eqB_eq _ _ q3.1,eqHs_eq q3.2] at hr
   have hbe:=body_eq hb
   have hrun:CallOk (nm (l++ws)) P f args h v0 h0:=by
    refine runF_sound q4.calls q4.tabOk q4.okf hm (fun fn' c hf' hc=>?_) (fun fn' c hf' hc=>?_) hr
    ·rw[hf] at hf';cases hf';rw[hbe] at hc;cases hc;exact ht
    ·rw[hf] at hf';cases hf';rw[hbe] at hc;cases hc;exact q4.blks (fun _ _ h=>h) rfl
   have hnn:=ltAll_spec hn
   have e:∀i∈namesAs args++namesH h,nm (l++ws) i=nm l i:=fun i hi=>nm_app (hnn i hi)
   have e1:=openAVs_congr args (fun i hi=>e i (List.mem_append_left _ hi))
   have e2:=openH_congr h (fun i hi=>e i (List.mem_append_right _ hi))
   intro R
   have:=hrun.values (by rw[e1];exact openAVs_ns hns.nm _ h1) (openAV_ns q4.ns.nm _ q2.1) (by rw[←openH_eq,e2];exact openH_ns hns.nm _ h2) (by rw[←openH_eq];exact openH_ns q4.ns.nm _ q2.2) R
   rw[←openH_eq,←openH_eq,e1,e2] at this
   exact this
  ·cases q3
theorem subs_sub:∀(c:Code) (id:Nat) (x:Code),x∈subs id c→∀id' y,y∈subs id' x→y∈subs id' c
 |.seq a b,id,x,hx,id',y,hy=>by
  rw[subs,List.mem_append] at hx ⊢
  rcases hx with hx|hx
  ·exact .inl (subs_sub a id x hx id' y hy)
  ·exact .inr (subs_sub b id x hx id' y hy)
 |.cond _ a b,id,x,hx,id',y,hy=>by
  rw[subs,List.mem_append] at hx ⊢
  rcases hx with hx|hx
  ·exact .inl (subs_sub a id x hx id' y hy)
  ·exact .inr (subs_sub b id x hx id' y hy)
 |.block j c,id,x,hx,id',y,hy=>by
  rw[subs,List.mem_append] at hx ⊢
  rcases hx with hx|hx
  ·split at hx
   ·rw[List.mem_singleton.1 hx] at hy;exact .inr hy
   ·cases hx
  ·exact .inr (subs_sub c id x hx id' y hy)
 |.loop c,id,x,hx,id',y,hy=>by rw[subs] at hx ⊢;exact subs_sub c id x hx id' y hy
 |.scope c,id,x,hx,id',y,hy=>by rw[subs] at hx ⊢;exact subs_sub c id x hx id' y hy
 |.skip,_,_,hx,_,_,_=>by simp[subs] at hx
 |.label _,_,_,hx,_,_,_=>by simp[subs] at hx
 |.region ..,_,_,hx,_,_,_=>by simp[subs] at hx
 |.exit _,_,_,hx,_,_,_=>by simp[subs] at hx
 |.ret,_,_,hx,_,_,_=>by simp[subs] at hx
 |.rangeFunc ..,_,_,hx,_,_,_=>by simp[subs] at hx
 |.goto _,_,_,hx,_,_,_=>by simp[subs] at hx
 |.refuse _,_,_,hx,_,_,_=>by simp[subs] at hx
def lb(fn:Func)(id:Nat):Code:=match subs id (bodyOf fn) with
 |[.loop d]=>d
 |_=>.skip
def isLoop1:List Code→Bool
 |[.loop _]=>true
 |_=>false
theorem subs_loop{id:Nat}(h1:isLoop1 (subs id (bodyOf fn))=true):∀d∈subs id (bodyOf fn),d=.loop (lb fn id):=by
 intro d hd
 unfold lb
 unfold isLoop1 at h1
 split at h1
 ·rename_i e he
  rw[he] at hd
  simpa using hd
 ·cases h1
theorem lb_sub{id:Nat}(h1:isLoop1 (subs id (bodyOf fn))=true):∀id',subs id' (lb fn id)⊆subs id' (bodyOf fn):=by
 intro id' y hy
 unfold isLoop1 at h1
 split at h1
 ·rename_i e he
  have hm:Code.loop e∈subs id (bodyOf fn):=by rw[he];exact List.mem_singleton.2 rfl
  refine subs_sub _ id _ hm id' y ?_
  unfold lb at hy
  rw[he] at hy
  rw[subs];exact hy
 ·cases h1
def cmpI(m0:Nat)(ks:List Nat)(ex:AExit)(sl:Env)(h:List AObj)(ids:List Nat):Option (AExit×Env×List AObj×List Nat):=if nodupB ids&&(ids.take m0==List.range m0) then match subH h ids with
 |some h'=>some (ex,compE (fun i=>posOf i ids) sl ks,h',ids)
 |none=>none
 else none
def cmpR(m0:Nat)(ks:List Nat)(r:Option (AExit×Env×List AObj)):Option (AExit×Env×List AObj×List Nat):=match r with
 |some (ex,sl,h)=>cmpI m0 ks ex sl h (reach h 1000 ((h.take m0).flatMap refsO++(keepE ks sl).flatMap fun p=>refs p.2) (List.range m0))
 |none=>none
def eqX:AExit→AExit→Bool
 |.normal,.normal=>true
 |.ret,.ret=>true
 |.exit i,.exit j=>Nat.beq i j
 |.pan,.pan=>true
 |_,_=>false
theorem eqX_eq{a b:AExit}(h:eqX a b=true):a=b:=by
 unfold eqX at h
 split at h
 ·rfl
 ·rfl
 ·rw[Nat.eq_of_beq_eq_true h]
 ·rfl
 ·cases h
def leafC(P:Program)(fn:Func)(T:FT)(c:Code)(m0:Nat)(e:Env)(h:List AObj):Out→List SF→List CE→List BE→Bool
 |.code ex e' h',tab,cs,bs=>match cmpR m0 (slotsOf e') (acode P (callX (callTab cs)) (okfT cs) (.names::tab) 0 fn.ntmps {T with lp:=some (lpTab bs) } c e h) with
  |some (ex1,e1,h1,_)=>eqX ex1 ex&&eqEs e1 e'&&eqHs h1 h'
  |none=>false
 |_,_,_,_=>false
def LoopS(P:Program)(fn:Func)(id m0:Nat)(e:Env)(h:List AObj)(ex:AExit)(e':Env)(h':List AObj):Prop:=∀R,LoopB R P fn.ntmps (lb fn id) m0 e h ex e' h'
theorem body_rule{T:FT}{id m0:Nat}{e:Env}{h:List AObj}{t:Tr}{k0:Nat}(hlo:isLoop1 (subs id (bodyOf fn))=true)(hm:P.follows .mixedOrders=true)(ht:tabOk T.sd T.sx (lb fn id)=true)
  (hn:ltAll k0 (namesE e++namesH h)=true) (hc:chk P (leafC P fn T (lb fn id) m0 e h) t k0 [] [] []=true) {l:List PV} (hl:l.length=k0) (hns:NSL l) (h1:TsE (nm l) e) (h2:TsH (nm l) h) {ex:AExit} {e':Env} {h':List AObj} (hd:Den P fn t l (.code ex e' h')) (R:Nat→PV) :
  CodeB R P fn.ntmps (lb fn id) m0 (openE (nm l) e) (openH (nm l) h) ex e' h':=by
 subst hl
 obtain⟨o',ws,tab,cs,bs,eo,q2,q3,q4⟩:=den_sound t l [] [] [] _ hc (Inv.nil hns) hd
 cases o' with
 |ret=>cases eo
 |code ex0 e0 h0=>
  cases eo
  rw[leafC] at q3
  split at q3
  ·rename_i ex1 e1 h1' ids hr
   rw[Bool.and_eq_true,Bool.and_eq_true] at q3
   rw[eqX_eq q3.1.1,eqEs_eq q3.1.2,eqHs_eq q3.2] at hr
   have hrun:CodeB (nm (l++ws)) P fn.ntmps (lb fn id) m0 e h ex e0 h0:=by
    unfold cmpR at hr
    split at hr
    ·rename_i ex2 sl2 h2' hac
     unfold cmpI at hr
     split at hr
     ·rename_i hcond
      rw[Bool.and_eq_true] at hcond
      split at hr
      ·rename_i h3 hsub
       simp only[Option.some.injEq,Prod.mk.injEq] at hr
       obtain⟨r1,r2,r3,_⟩:=hr
       subst r1
       rw[←r2,←r3]
       exact CodeOk.toB (acode_sound (T:={T with lp:=some (lpTab bs) }) q4.calls q4.tabOk q4.okf hm _ (q4.blks (lb_sub hlo) rfl) ht _ _ _ _ _ hac) hcond.1 (by simpa using hcond.2) hsub
      ·cases hr
     ·cases hr
    ·cases hr
   have hnn:=ltAll_spec hn
   have en:∀i∈namesE e++namesH h,nm (l++ws) i=nm l i:=fun i hi=>nm_app (hnn i hi)
   have e1':=openE_congr e (fun i hi=>en i (List.mem_append_left _ hi))
   have e2':=openH_congr h (fun i hi=>en i (List.mem_append_right _ hi))
   have:=hrun.values (by rw[e1'];exact openE_ns hns.nm _ h1) (openE_ns q4.ns.nm _ q2.1) (by rw[←openH_eq,e2'];exact openH_ns hns.nm _ h2) (by rw[←openH_eq];exact openH_ns q4.ns.nm _ q2.2) R
   rw[←openH_eq,←openH_eq,e1',e2'] at this
   exact this
  ·cases q3
theorem LoopS.again{id m0:Nat}{e e1 e':Env}{h h1 h':List AObj}{ex:AExit}(hb:∀R,CodeB R P fn.ntmps (lb fn id) m0 e h .normal e1 h1)(hl:LoopS P fn id m0 e1 h1 ex e' h'):LoopS P fn id m0 e h ex e' h':=fun R=>LoopB.again (hb R) (hl R)
theorem LoopS.done{id m0:Nat}{e e':Env}{h h':List AObj}{ex:AExit}(hb:∀R,CodeB R P fn.ntmps (lb fn id) m0 e h ex e' h')(hx:ex≠.normal):LoopS P fn id m0 e h ex e' h':=fun R=>LoopB.done (hb R) hx
theorem LoopS.block{id:Nat}{e e':Env}{h h':List AObj}(hlo:isLoop1 (subs id (bodyOf fn))=true)(hn:∀x∈h,NSO x)(hl:LoopS P fn id h.length e h (.exit id) e' h'):BlkS P fn id e h .normal e' h':=fun R c' hc'=>by
 rw[subs_loop hlo c' hc'];exact(hl R).block hn
theorem LoopS.blockRet{id:Nat}{e e':Env}{h h':List AObj}(hlo:isLoop1 (subs id (bodyOf fn))=true)(hn:∀x∈h,NSO x)(hl:LoopS P fn id h.length e h .ret e' h'):BlkS P fn id e h .ret e' h':=fun R c' hc'=>by
 rw[subs_loop hlo c' hc'];exact(hl R).blockRet hn
theorem LoopS.blockPan{id:Nat}{e e':Env}{h h':List AObj}(hlo:isLoop1 (subs id (bodyOf fn))=true)(hn:∀x∈h,NSO x)(hl:LoopS P fn id h.length e h .pan e' h'):BlkS P fn id e h .pan e' h':=fun R c' hc'=>by
 rw[subs_loop hlo c' hc'];exact(hl R).blockPan hn
theorem LoopS.blockOut{id j:Nat}{e e':Env}{h h':List AObj}(hne:j≠id)(hlo:isLoop1 (subs id (bodyOf fn))=true)(hn:∀x∈h,NSO x)(hl:LoopS P fn id h.length e h (.exit j) e' h'):BlkS P fn id e h (.exit j) e' h':=fun R c' hc'=>by
 rw[subs_loop hlo c' hc'];exact(hl R).blockOut hne hn
end
abbrev iv(n:Int):PV:=.lit (.int .i64 n)
abbrev sv(s:ByteArray):PV:=.lit (.string s)
abbrev bv(b:Bool):PV:=.lit (.bool b)
@[simp] theorem ns_lit(v:Value):NS (.lit v):=.lit v
@[simp] theorem nm_zero(a:PV)(l:List PV):nm (a::l) 0=a:=rfl
@[simp] theorem nm_succ(a:PV)(l:List PV)(n:Nat):nm (a::l) (n+1)=nm l n:=rfl
theorem NSL.cons{a:PV}{l:List PV}(h:NS a)(hl:NSL l):NSL (a::l):=fun p hp=>by
 rcases List.mem_cons.1 hp with rfl|hp
 ·exact h
 ·exact hl p hp
theorem NSL.nil:NSL []:=fun p hp=>by cases hp
theorem NSL_cons{a:PV}{l:List PV}:NSL (a::l)↔NS a∧NSL l:=⟨fun h=>⟨h a (List.mem_cons_self ..),fun p hp=>h p (List.mem_cons_of_mem _ hp)⟩,fun h=>NSL.cons h.1 h.2⟩
theorem NSL_nil:NSL []↔True:=⟨fun _=>trivial,fun _=>NSL.nil⟩
def BinOk(P:Program)(b:BinOp)(t:TypeId)(u v r:AV):Prop:=∀x y,binA P b t x y u v=some r
theorem BinOk.iff{P:Program}{b:BinOp}{t:TypeId}{u v r w:AV}(h:∀x y,binA P b t x y u v=some w):BinOk P b t u v r↔r=w:=by
 constructor
 ·intro hr
  have:=hr (.tmp 0) (.tmp 0)
  rw[h] at this
  exact(Option.some.inj this).symm
 ·intro hr x y;rw[hr,h]
section
variable{P:Program}{t:TypeId}{r:AV}{a b:Int}
theorem bin_lss:BinOk P .lss t (.pv (.lit (.int .i64 a))) (.pv (.lit (.int .i64 b))) r↔r=.pv (.lit (.bool (decide (a<b)))):=BinOk.iff fun _ _=>rfl
theorem bin_gtr:BinOk P .gtr t (.pv (.lit (.int .i64 a))) (.pv (.lit (.int .i64 b))) r↔r=.pv (.lit (.bool (decide (b<a)))):=BinOk.iff fun _ _=>rfl
theorem bin_geq:BinOk P .geq t (.pv (.lit (.int .i64 a))) (.pv (.lit (.int .i64 b))) r↔r=.pv (.lit (.bool (decide (b≤a)))):=BinOk.iff fun _ _=>rfl
theorem bin_eql:BinOk P .eql t (.pv (.lit (.int .i64 a))) (.pv (.lit (.int .i64 b))) r↔r=.pv (.lit (.bool (decide (a=b)))):=BinOk.iff fun _ _=>by
 have e:(a==b)=decide (a=b):=by by_cases h:a=b<;>simp[h]
 rw[←e];rfl
theorem bin_neq:BinOk P .neq t (.pv (.lit (.int .i64 a))) (.pv (.lit (.int .i64 b))) r↔r=.pv (.lit (.bool (decide (a≠b)))):=BinOk.iff fun _ _=>by
 have e:(a != b)=decide (a≠b):=by by_cases h:a=b<;>simp[h]
 rw[←e];rfl
theorem bin_add:BinOk P .add t (.pv (.lit (.int .i64 a))) (.pv (.lit (.int .i64 b))) r↔r=.pv (.lit (.int .i64 (IntKind.i64.wrap (a+b)))):=BinOk.iff fun _ _=>rfl
theorem bin_sub:BinOk P .sub t (.pv (.lit (.int .i64 a))) (.pv (.lit (.int .i64 b))) r↔r=.pv (.lit (.int .i64 (IntKind.i64.wrap (a-b)))):=BinOk.iff fun _ _=>rfl
theorem eqS_dec(x y:ByteArray):eqS x y=decide (x=y):=by
 by_cases h:x=y
 ·rw[decide_eq_true h];subst h
  unfold eqS
  rw[eqL_iff]
 ·rw[decide_eq_false h]
  cases he:eqS x y with
  |false=>rfl
  |true=>exact absurd (eqS_eq' he) h
theorem bin_eqs{x y:ByteArray}:BinOk P .eql t (.pv (.lit (.string x))) (.pv (.lit (.string y))) r↔r=.pv (.lit (.bool (decide (x=y)))):=BinOk.iff fun _ _=>by
 rw[←eqS_dec];rfl
theorem bin_nes{x y:ByteArray}:BinOk P .neq t (.pv (.lit (.string x))) (.pv (.lit (.string y))) r↔r=.pv (.lit (.bool (decide (x≠y)))):=BinOk.iff fun _ _=>by
 have:decide (x≠y) = !(decide (x=y)):=by by_cases h:x=y<;>simp[h]
 rw[this,←eqS_dec];rfl
end
theorem wrap_id{n:Int}(h : -9223372036854775808≤n∧n≤9223372036854775807):IntKind.i64.wrap n=n:=by rw[IntKind.wrap_i64];omega
structure SlT(P:Program)(t:TypeId)(sz by_:Nat):Prop where
 e:∃e zc,P.underlying t=some (.slice e)∧szA P e=some sz∧bytesA P e=some by_∧zeroA P e=some zc∧zc.length=sz
 pos:0<sz
def slTB(P:Program)(t:TypeId)(sz by_:Nat):Bool:=match P.underlying t with
 |some (.slice e)=>match szA P e,bytesA P e,zeroA P e with
  |some s,some b,some zc=>Nat.beq s sz&&Nat.beq b by_&&Nat.beq zc.length sz&&Nat.blt 0 sz
  |_,_,_=>false
 |_=>false
theorem SlT.of{P:Program}{t:TypeId}{sz by_:Nat}(h:slTB P t sz by_=true):SlT P t sz by_:=by
 unfold slTB at h
 split at h
 ·rename_i e he
  split at h
  ·rename_i s b zc h1 h2 h3
   simp only[Bool.and_eq_true] at h
   obtain⟨⟨⟨e1,e2⟩,e3⟩,e4⟩:=h
   rw[Nat.eq_of_beq_eq_true e1] at h1
   rw[Nat.eq_of_beq_eq_true e2] at h2
   exact⟨⟨e,zc,he,h1,h2,h3,Nat.eq_of_beq_eq_true e3⟩,Nat.le_of_ble_eq_true e4⟩
  ·cases h
 ·cases h
def LenOk(P:Program)(t:TypeId)(u r:AV):Prop:=∀ty,builtinA P .len #[t] ty [u]=some r
def MxOk(P:Program)(mn:Bool)(u v r:AV):Prop:=∀ts ty,builtinA P (if mn then .min else .max) ts ty [u,v]=some r
def IdxOk(P:Program)(t:TypeId)(u i r:AV):Prop:=∃n,intV i=some n∧indexAtA P t u n=some r
def SlcOk(P:Program)(t:TypeId)(u:AV)(lo hi:Option AV)(r:AV):Prop:=∀(ρ:Operand→Option AV) (l m:Option Operand),MatchO ρ l lo→MatchO ρ m hi→sliceA P t ρ u l m none=some r
def AppOk(P:Program)(t:TypeId)(s x:AV)(r:PV):Prop:=∃e sz by_ zc es es',P.underlying t=some (.slice e)∧szA P e=some sz∧bytesA P e=some by_∧zeroA P e=some zc∧0<sz∧zc.length=sz∧
   rowsN s=some es∧rowsOf x=some es'∧es'≠[]∧(∀c∈es',c.length=sz)∧es.length+es'.length≤1000000000000∧(es.length+es'.length)*by_≤140737488355328∧r=.rows (es++es')
def App0Ok(P:Program)(t:TypeId)(s x:AV):Prop:=∃e sz by_ zc,P.underlying t=some (.slice e)∧szA P e=some sz∧bytesA P e=some by_∧zeroA P e=some zc∧(rowsN s).isSome=true∧rowsN x=some []
section
variable{P:Program}{t:TypeId}{sz by_:Nat}{r:AV}
theorem app_rel{R:Nat→PV}{P:Program}{t:TypeId}{s x:AV}{j:Nat}(h:AppOk P t (openAV R s) (openAV R x) (R j)):(SF.app t s x j).ok R P:=by
 obtain⟨e,sz,by_,zc,es,es',h1,h2,h3,h4,h5,h6,h7,h8,h9,h10,h11,h12,h13⟩:=h
 exact⟨e,sz,by_,zc,es,es',h1,h2,h3,h4,h5,h6,h7,h8,fun _=>h9,h10,h11,h12,h13⟩
theorem len_ok(ht:SlT P t sz by_)(es:List (List PV)):LenOk P t (.pv (.rows es)) r↔r=.pv (.lit (.int .i64 es.length)):=by
 obtain⟨⟨e,zc,h1,_⟩,_⟩:=ht
 have hl:∀ty,builtinA P .len #[t] ty [.pv (.rows es)]=some (.pv (.lit (.int .i64 es.length))):=by
  intro ty
  have:lenA P #[t] (.pv (.rows es))=some (.pv (.lit (.int .i64 es.length))):=by
   unfold lenA
   simp[rowsOf,h1]
  show (match lenA P #[t] (.pv (.rows es)) with|some r=>some r|none=>_)=_
  rw[this]
 constructor
 ·intro h;have:=h 0;rw[hl] at this;exact(Option.some.inj this).symm
 ·intro h ty;rw[hl,h]
theorem idx_ok(ht:SlT P t sz by_){es:List (List PV)}{k:Nat}{c:List PV}(hc:es[k]? = some c)(hs:c.length=sz):IdxOk P t (.pv (.rows es)) (.pv (.lit (.int .i64 (k:Int)))) r↔r=.cptr c:=by
 obtain⟨⟨e,zc,h1,h2,_⟩,_⟩:=ht
 have hi:indexAtA P t (.pv (.rows es)) (k:Int)=some (.cptr c):=by
  unfold indexAtA
  simp[rowsOf,h1,hc,h2,hs]
 constructor
 ·rintro⟨n,hn,h⟩
  have:n=(k:Int):=(Option.some.inj hn).symm
  subst this
  rw[hi] at h
  exact(Option.some.inj h).symm
 ·rintro rfl;exact⟨k,rfl,hi⟩
theorem slc_from(ht:SlT P t sz by_){es:List (List PV)}{l:Nat}(hl:l≤es.length)(hs:∀c∈es,c.length=sz):SlcOk P t (.pv (.rows es)) (some (.pv (.lit (.int .i64 (l:Int))))) none (.pv (.rows (es.drop l))):=by
 obtain⟨⟨e,zc,h1,h2,_⟩,_⟩:=ht
 intro ρ a b ha hb
 cases a with
 |none=>cases ha
 |some x=>
  cases b with
  |some _=>cases hb
  |none=>
   have hx:ρ x=some (.pv (.lit (.int .i64 (l:Int)))):=ha
   have hc:l=0∨es.head?.map List.length=some sz:=by
    cases es with
    |nil=>left;simpa using hl
    |cons c es=>right;simp[hs c (List.mem_cons_self ..)]
   simp only[sliceA,rowsOf,h1,boundA,hx,intV,AV.val?,h2]
   have hn:(0:Int)≤(l:Int):=by omega
   rw[if_pos hn]
   simp only[Int.toNat_natCast,h2]
   rw[if_pos ⟨hl,Nat.le_refl _,hc⟩]
   rw[List.take_of_length_le (by simp)]
theorem slc_to(ht:SlT P t sz by_){es:List (List PV)}{m:Nat}(hm:m≤es.length):SlcOk P t (.pv (.rows es)) none (some (.pv (.lit (.int .i64 (m:Int))))) (.pv (.rows (es.take m))):=by
 obtain⟨⟨e,zc,h1,h2,_⟩,_⟩:=ht
 intro ρ a b ha hb
 cases b with
 |none=>cases hb
 |some x=>
  cases a with
  |some _=>cases ha
  |none=>
   have hx:ρ x=some (.pv (.lit (.int .i64 (m:Int)))):=hb
   simp only[sliceA,rowsOf,h1,boundA,hx,intV,AV.val?,h2]
   have hn:(0:Int)≤(m:Int):=by omega
   rw[if_pos hn]
   simp only[Int.toNat_natCast,h2]
   rw[if_pos ⟨Nat.zero_le _,hm,.inl trivial⟩]
   simp
theorem app_ok(ht:SlT P t sz by_){s x:AV}{q:PV}{es es':List (List PV)}(h1:rowsN s=some es)(h2:rowsOf x=some es')(hne:es'≠[])(hsz:∀c∈es',c.length=sz)(hb:es.length+es'.length≤1000000000000)(hbb:(es.length+es'.length)*by_≤140737488355328) :
  AppOk P t s x q↔q=.rows (es++es'):=by
 obtain⟨⟨e,zc,g1,g2,g3,g4,g5⟩,g6⟩:=ht
 constructor
 ·rintro⟨e',sz',by',zc',es1,es1',_,_,_,_,_,_,k1,k2,_,_,_,_,k3⟩
  rw[h1] at k1
  rw[h2] at k2
  cases k1
  cases k2
  exact k3
 ·intro h
  exact⟨e,sz,by_,zc,es,es',g1,g2,g3,g4,g6,g5,h1,h2,hne,hsz,hb,hbb,h⟩
end
attribute [simp] Den exN openAV openAVs openPV openPs openPss openE openH openO TsA TsAs TsO TsH TsE isRow bin_lss bin_gtr bin_geq bin_eql bin_neq bin_add bin_sub bin_eqs bin_nes NSL_cons NSL_nil and_assoc
theorem rowsN_rows'(es:List (List PV)):rowsN (.pv (.rows es))=some es:=rfl
theorem rowsN_tok(t:Nat)(es:List (List PV)):rowsN (.trows t es)=some es:=rfl
theorem rowsN_nil:rowsN (.pv (.lit (.slice none 0 0)))=some []:=rfl
end Go.Proofs.YtfphhabaeggenaaDoor
namespace Go.Proofs.YtfphhabaeggenaaDoor
open Go.RowKit
mutual
def wdP:PV→PV
 |.lit v=>if isNilP (.lit v) then .rows [] else .lit v
 |.rows es=>.rows (wdPss es)
 |.sym i=>.sym i
 |.opq ne lo hi=>.opq ne lo hi
 |.rng lo hi=>.rng lo hi
 |.any=>.any
def wdPs:List PV→List PV
 |[]=>[]
 |p::l=>wdP p::wdPs l
def wdPss:List (List PV)→List (List PV)
 |[]=>[]
 |c::l=>wdPs c::wdPss l
end
theorem wdPs_eq:∀l,wdPs l=l.map wdP
 |[]=>by rw[wdPs];rfl
 |p::l=>by rw[wdPs,wdPs_eq l];rfl
theorem wdPss_eq:∀es,wdPss es=es.map wdPs
 |[]=>by rw[wdPss];rfl
 |l::es=>by rw[wdPss,wdPss_eq es];rfl
theorem PR.wd{R:Nat→PV}{M:Nat→Nat→Option Value}{p:PV}{v:Value}(h:PR R M p v):PR R M (wdP p) v:=by
 induction h with
 |sym i v h _=>rw[wdP];exact .sym i v h
 |lit v h=>
  rw[wdP]
  split
  ·rename_i hn
   have:=isNilP_eq hn
   injection this with this
   subst this
   exact PR.nilRow
  ·exact .lit v h
 |rows es a cap g off sz us ha hn hsz hc hr ih=>
  rw[wdP,wdPss_eq]
  have:=PR.rows (R:=R) (M:=M) (es.map wdPs) a cap g off sz us (fun hne=>ha (fun e=>hne (by rw[e];rfl))) (by simpa using hn)
   (fun i hi=>by simp only[List.getElem_map,wdPs_eq,List.length_map];exact hsz i (by simpa using hi)) (fun i hi j hj=>hc i (by simpa using hi) j hj)
   (fun i hi j hj=>by
    simp only[List.getElem_map,wdPs_eq]
    exact ih i (by simpa using hi) j (by simpa[wdPs_eq] using hj))
  rwa [List.length_map] at this
 |opq ne lo hi s hne hlo hhi=>rw[wdP];exact .opq ne lo hi s hne hlo hhi
 |rng lo hi n hlo hhi=>rw[wdP];exact .rng lo hi n hlo hhi
 |any v h=>rw[wdP];exact .any v h
theorem wdP_wkP(p:PV):wdP (wkP p)=wdP p:=by
 unfold wkP
 split
 ·rename_i h
  rw[isNilP_eq h,wdP,wdP,wdPss];rfl
 ·rfl
theorem wdPs_len(l:List PV):(wdPs l).length=l.length:=by rw[wdPs_eq,List.length_map]
theorem nm_wdPs:∀(l:List PV) (i:Nat),nm (wdPs l) i=wdP (nm l i)
 |[],i=>by rw[wdPs];show PV.any=wdP PV.any;rw[wdP]
 |p::l,0=>by rw[wdPs];rfl
 |p::l,i+1=>by rw[wdPs];exact nm_wdPs l i
theorem wdP_ns{p:PV}(h:NS p):NS (wdP p):=by
 induction h with
 |lit v=>
  rw[wdP]
  split
  ·exact .rows _ fun c hc=>by cases hc
  ·exact .lit v
 |rows es h ih=>
  rw[wdP,wdPss_eq]
  refine .rows _ fun c hc p hp=>?_
  obtain⟨c',hc',rfl⟩:=List.mem_map.1 hc
  rw[wdPs_eq] at hp
  obtain⟨p',hp',rfl⟩:=List.mem_map.1 hp
  exact ih c' hc' p' hp'
 |opq ne lo hi=>rw[wdP];exact .opq ne lo hi
 |rng lo hi=>rw[wdP];exact .rng lo hi
 |any=>rw[wdP];exact .any
mutual
/-- Nothing but names and what is put together of them. -/
def psA:AV→Bool
 |.pv (.sym _)=>true
 |.tup l=>psAs l
 |.agg l=>psAs l
 |_=>false
def psAs:List AV→Bool
 |[]=>true
 |a::l=>psA a&&psAs l
end
section
variable{K:Kn}{ys zs:List PV}(hz:∀i v,PR K.R K.M (nm ys i) v→PR K.R K.M (nm zs i) v)
include hz
mutual
theorem psA_go:∀a,psA a=true→∀u,VR K (openAV (nm ys) a) u→VR K (openAV (nm zs) a) u
 |.pv p,h,u,hv=>by
  cases p with
  |sym i=>
   rw[openAV,openPV] at hv ⊢
   cases hv with
   |pv hp=>exact .pv (hz i _ hp)
  |_=>simp[psA] at h
 |.tup l,h,u,hv=>by
  have hm:=psAs_go l (by rw[psA] at h;exact h)
  rw[openAV,openAVs_eq] at hv ⊢
  cases hv with
  |tup _ cs hl hh=>exact .tup _ cs (by simpa using hl) (fun i hi hi'=>by
    have:=hm _ (List.getElem_mem (by simpa using hi)) _ (by have:=hh i (by simpa using hi) hi';rw[List.getElem_map] at this;exact this)
    rw[List.getElem_map];exact this)
 |.agg l,h,u,hv=>by
  have hm:=psAs_go l (by rw[psA] at h;exact h)
  rw[openAV,openAVs_eq] at hv ⊢
  cases hv with
  |agg _ cs hl hh=>exact .agg _ cs (by simpa using hl) (fun i hi hi'=>by
    have:=hm _ (List.getElem_mem (by simpa using hi)) _ (by have:=hh i (by simpa using hi) hi';rw[List.getElem_map] at this;exact this)
    rw[List.getElem_map];exact this)
 |.trows _ _,h,_,_=>by simp[psA] at h
 |.tsym _ _,h,_,_=>by simp[psA] at h
 |.ptr _ _,h,_,_=>by simp[psA] at h
 |.cptr _,h,_,_=>by simp[psA] at h
 |.fn _ _,h,_,_=>by simp[psA] at h
 |.sl _ _ _ _,h,_,_=>by simp[psA] at h
 |.ifc _ _,h,_,_=>by simp[psA] at h
 |.arr _,h,_,_=>by simp[psA] at h
 |.aptr _ _ _,h,_,_=>by simp[psA] at h
theorem psAs_go:∀(l:List AV),psAs l=true→∀a∈l,∀u,VR K (openAV (nm ys) a) u→VR K (openAV (nm zs) a) u
 |[],_,a,ha,_,_=>by cases ha
 |b::l,h,a,ha,u,hv=>by
  rw[psAs,Bool.and_eq_true] at h
  have h1:=psA_go b h.1
  have h2:=psAs_go l h.2
  rcases List.mem_cons.1 ha with rfl|ha
  ·exact h1 u hv
  ·exact h2 a ha u hv
end
theorem psA_end{a:AV}(h:psA a=true){e:Ending}(he:EndR K (openAV (nm ys) a) e):EndR K (openAV (nm zs) a) e:=by
 refine he.map (fun x hx=>?_) (fun hn=>?_)
 ·rw[open_pan] at hx
  obtain⟨y,hy,rfl⟩:=map_some' hx
  refine⟨openAV (nm zs) y,by rw[open_pan,hy];rfl,fun u hu=>?_⟩
  rw[panOf_some hy,psA,psAs,psAs,psAs,Bool.and_eq_true,Bool.and_eq_true] at h
  exact psA_go hz y h.2.1 u hu
 ·rw[open_pan] at hn
  refine⟨?_,fun u hu=>psA_go hz a h u hu⟩
  rw[open_pan]
  cases hp:panOf a with
  |none=>rfl
  |some y=>rw[hp] at hn;cases hn
theorem psAs_vl{l:List AV}(h:psAs l=true){us:List Value}(hv:VL K (openAVs (nm ys) l) us):VL K (openAVs (nm zs) l) us:=by
 rw[openAVs_eq] at hv ⊢
 refine⟨by simpa using hv.1,fun i hi hi'=>?_⟩
 have:=hv.2 i (by simpa using hi) hi'
 rw[List.getElem_map] at this ⊢
 exact psAs_go hz l h _ (List.getElem_mem (by simpa using hi)) _ this
theorem psAs_wr{ty:TypeId}{l:List AV}(h:psAs l=true){w:World}(W:WR K [.box ty (openAVs (nm ys) l)] w):WR K [.box ty (openAVs (nm zs) l)] w:=by
 have hlen:(openAVs (nm zs) l).length=(openAVs (nm ys) l).length:=by rw[openAVs_eq,openAVs_eq,List.length_map,List.length_map]
 have one:∀{x y:AObj} (i:Nat) {z:AObj},[x][i]? = some z→i=0∧z=x:=by
  intro x y i z hz
  cases i with
  |zero=>exact⟨rfl,(Option.some.inj hz).symm⟩
  |succ n=>cases hz
 refine⟨W.fresh,W.has,W.lt,fun i ty' cells hi=>?_,fun t ty' sz len hi=>?_,fun i j x y g hx hy hlx hly=>?_,fun i ty' cells g hi hg=>?_,W.agr,fun i ty' sz p hi=>?_⟩
 ·obtain⟨rfl,e⟩:=one (y:=.dead) i hi
  cases e
  obtain⟨g,cs,m1,m2,m3,m4⟩:=W.box 0 ty _ rfl
  exact⟨g,cs,m1,m2,m3,by rw[hlen];exact psAs_vl hz h m4⟩
 ·obtain⟨rfl,e⟩:=one (y:=.dead) t hi;cases e
 ·intro h1 h2
  obtain⟨rfl,_⟩:=one (y:=.dead) i hx
  obtain⟨rfl,_⟩:=one (y:=.dead) j hy
  rfl
 ·obtain⟨rfl,e⟩:=one (y:=.dead) i hi
  exact W.apart 0 ty _ g rfl hg
 ·obtain⟨rfl,e⟩:=one (y:=.dead) i hi;cases e
end
def symsB:List AV→Bool
 |[]=>true
 |.pv (.sym _)::l=>symsB l
 |_=>false
theorem symsB_ps:∀{l:List AV},symsB l=true→psAs l=true∧∀R,refsL (openAVs R l)=[]
 |[],_=>⟨rfl,fun _=>rfl⟩
 |.pv (.sym i)::l,h=>by
  rw[symsB] at h
  obtain⟨h1,h2⟩:=symsB_ps h
  exact⟨by rw[psAs,psA,h1];rfl,fun R=>by rw[openAVs,refsL,h2 R,openAV,refs];rfl⟩
 |.pv (.lit _)::l,h=>by simp[symsB] at h
 |.pv (.rows _)::l,h=>by simp[symsB] at h
 |.pv (.opq ..)::l,h=>by simp[symsB] at h
 |.pv (.rng ..)::l,h=>by simp[symsB] at h
 |.pv .any::l,h=>by simp[symsB] at h
 |.trows _ _::_,h=>by simp[symsB] at h
 |.tsym _ _::_,h=>by simp[symsB] at h
 |.ptr _ _::_,h=>by simp[symsB] at h
 |.cptr _::_,h=>by simp[symsB] at h
 |.agg _::_,h=>by simp[symsB] at h
 |.tup _::_,h=>by simp[symsB] at h
 |.fn _ _::_,h=>by simp[symsB] at h
 |.sl _ _ _ _::_,h=>by simp[symsB] at h
 |.ifc _ _::_,h=>by simp[symsB] at h
 |.arr _::_,h=>by simp[symsB] at h
 |.aptr _ _ _::_,h=>by simp[symsB] at h
theorem CallOk.box1{P:Program}{R:Nat→PV}{f:Nat}{args:List AV}{o0:AObj}{v:AV}{ty:TypeId}{cs:List AV}{r:List AObj}(hc:CallOk R P f args [o0] v (.box ty cs::r))(hv:refs (YtfphhabaeggenaaDoor.wk v)=[])(hcs:refsL cs=[]) :
  CallOk R P f args [o0] (YtfphhabaeggenaaDoor.wk v) [.box ty cs]:=by
 intro K w us hR W hvl
 refine(hc K w us hR W hvl).mono ?_
 rintro e w' ⟨K',hu,hst⟩
 have hf:finishA (YtfphhabaeggenaaDoor.wk v) (.box ty cs::r) ([o0]:List AObj).length=some (YtfphhabaeggenaaDoor.wk v,[.box ty cs]):=by
  have e1:(List.take 1 (AObj.box ty cs::r)).flatMap refsO++refs (YtfphhabaeggenaaDoor.wk v)=[]:=by
   rw[hv]
   show refsL cs++[]++[]=[]
   rw[hcs];rfl
  show finishAt (YtfphhabaeggenaaDoor.wk v) (.box ty cs::r) 1 (reach (.box ty cs::r) 1000 ((List.take 1 (AObj.box ty cs::r)).flatMap refsO++refs (YtfphhabaeggenaaDoor.wk v)) (List.range 1))=_
  rw[e1]
  have e2:reach (AObj.box ty cs::r) 1000 [] (List.range 1)=[0]:=rfl
  rw[e2]
  unfold finishAt
  have e3:(nodupB [0]&&(List.take 1 [0]==List.range 1))=true:=rfl
  rw[if_pos e3]
  have e4:subH (.box ty cs::r) [0]=some [.box ty cs]:=by
   have e5:pickH (AObj.box ty cs::r) [0]=some [.box ty cs]:=rfl
   unfold subH
   rw[e5]
   simp only[renH,renO,renL_none _ cs hcs,Option.map_some]
  rw[e4,ren_none _ _ hv]
 obtain⟨f,K2,h1,h2,h3⟩:=finish_sound W hst hf
 exact⟨K2,hu.wk.ren h1 h2,h3⟩
theorem CallOk.conv{P:Program}{R:Nat→PV}{f:Nat}{args:List AV}{o0:AObj}{ty:TypeId}{ws ys zs:List PV}{a:AV}{cs:List AV}(ha:psA a=true)(hcs:psAs cs=true)
  (h1:∀{R M} i v,PR R M (nm ws i) v→PR R M (nm zs i) v) (h2:∀{R M} i v,PR R M (nm ys i) v→PR R M (nm zs i) v)
  (hc:CallOk R P f args [o0] (openAV (nm ws) a) [.box ty (openAVs (nm ys) cs)]):CallOk R P f args [o0] (openAV (nm zs) a) [.box ty (openAVs (nm zs) cs)]:=by
 intro K w us hR W hvl
 refine(hc K w us hR W hvl).mono ?_
 rintro e w' ⟨K',hu,hst⟩
 refine⟨K',psA_end (fun i v=>h1 i v) ha hu,psAs_wr (fun i v=>h2 i v) hcs hst.wr,hst.ext,hst.frm,hst.zs,hst.ms,hst.mu,fun b hb hlt=>hst.live b ?_ hlt,hst.len⟩
 obtain⟨i,x,hx,hl,hm⟩:=hb
 cases i with
 |zero=>exact⟨0,_,rfl,rfl,hm⟩
 |succ n=>cases hx
structure Q where
 k:Nat
 xs:List PV
abbrev Rs:=Nat×List PV
inductive Res where
 |bot
 |fail
 |ok (r:Rs)
structure Shape where
 ex:AExit:=.ret
 v:AV:=.tup []
 e:Env:=[]
 h:List AObj:=[]
 m:Nat
 rw:List Nat:=[]
structure Ent where
 lp:Option (Nat×Nat):=none
 f:Nat
 args:List AV:=[]
 e:Env:=[]
 h:List AObj:=[]
 n:Nat
 rin:List Nat:=[]
 fam:Nat
 base:Option Nat:=none
 wm:List Nat:=[]
inductive Et where
 |say (f:SF) (k:Et)
 |alt (a b:Et)
 |call (q:Nat) (ps:List PV) (s:Nat) (pats:List PV) (k:Et)
 |out (s:Nat) (ps:List PV)
 |goto (q:Nat) (ps:List PV)
 |no (t:Tr)
 |ext (g:List PV→Option (Nat×List PV))
def etNo:Et:=.no (.ret (.tup []) [])
def nth{α:Type}(d:α):List α→Nat→α
 |[],_=>d
 |a::_,0=>a
 |_::l,n+1=>nth d l n
def dSh:Shape:={m:=0 }
def dEn:Ent:={f:=0,n:=0,fam:=0 }
section
variable{β:Type}
open Classical in
noncomputable def isK(d:β)(p y:PV)(k:β):β:=if p=y then k else d
def nilK(d:β)(ys:List PV)(k:β):β:=match ys with
 |[]=>k
 |_=>d
def consK(d:β)(ys:List PV)(k:PV→List PV→β):β:=match ys with
 |y::r=>k y r
 |[]=>d
def pvK(d:β)(w:AV)(k:PV→β):β:=match w with
 |.pv y=>k y
 |_=>d
def cptrK(d:β)(w:AV)(k:List PV→β):β:=match w with
 |.cptr ys=>k ys
 |_=>d
def pairK(d:β)(w:AV)(k:PV→PV→β):β:=match w with
 |.tup [.pv y,.pv z]=>k y z
 |_=>d
def allP:List AV→Option (List PV)
 |[]=>some []
 |.pv p::l=>match allP l with
  |some r=>some (p::r)
  |none=>none
 |_::_=>none
theorem allP_some:∀{l:List AV} {ps:List PV},allP l=some ps→l=ps.map .pv
 |[],ps,h=>by cases h;rfl
 |a::l,ps,h=>by
  unfold allP at h
  split at h
  ·rename_i e;cases e
  ·rename_i p l' e
   cases e
   split at h
   ·rename_i r hr
    cases h
    rw[List.map_cons,←allP_some hr]
   ·cases h
  ·cases h
def paggK(d:β)(w:AV)(k:List PV→PV→β):β:=match w with
 |.tup [.agg l,.pv z]=>match allP l with
  |some ys=>k ys z
  |none=>d
 |_=>d
open Classical in
noncomputable def theK{α:Type}(d:β)(p:α→Prop)(k:α→β):β:=if h:∃w,p w then k h.choose else d
noncomputable def mt1(d:β)(p y:PV)(l:List PV)(k:List PV→β):β:=match p with
 |.sym i=>match Nat.blt i l.length with
  |true=>isK d (nm l i) y (k l)
  |false=>match Nat.beq i l.length with
   |true=>k (l++[y])
   |false=>d
 |.lit v=>isK d (.lit v) y (k l)
 |.rows es=>match ltAll l.length (namesPss es) with
  |true=>isK d (openPV (nm l) (.rows es)) y (k l)
  |false=>d
 |_=>d
noncomputable def mtK(d:β):List PV→List PV→List PV→(List PV→β)→β
 |[],ys,l,k=>nilK d ys (k l)
 |p::ps,ys,l,k=>consK d ys fun y r=>mt1 d p y l fun l'=>mtK d ps r l' k
noncomputable def mtA(d:β)(r w:AV)(l:List PV)(k:List PV→β):β:=match r with
 |.pv p=>pvK d w fun y=>mt1 d p y l k
 |.cptr ps=>cptrK d w fun ys=>mtK d ps ys l k
 |.tup [.pv p,.pv q]=>pairK d w fun y z=>mt1 d p y l fun l'=>mt1 d q z l' k
 |.tup [.agg asxx,.pv q]=>match allP asxx with
  |some ps=>paggK d w fun ys z=>mt1 d q z l fun l'=>mtK d ps ys l' k
  |none=>d
 |_=>d
noncomputable def binK(P:Program)(d:β)(b:BinOp)(t:TypeId)(u v:AV)(k:AV→β):β:=theK d (fun w=>BinOk P b t u v w∧NSA w) k
noncomputable def lenK(P:Program)(d:β)(t:TypeId)(u:AV)(k:AV→β):β:=theK d (fun w=>LenOk P t u w∧NSA w) k
noncomputable def idxK(P:Program)(d:β)(t:TypeId)(u i:AV)(k:AV→β):β:=theK d (fun w=>IdxOk P t u i w∧NSA w) k
noncomputable def indK(P:Program)(d:β)(t:TypeId)(u i:AV)(k:AV→β):β:=theK d (fun w=>indexA P t u i=some w∧NSA w) k
noncomputable def slcK(P:Program)(d:β)(t:TypeId)(u:AV)(lo hi:Option AV)(k:AV→β):β:=theK d (fun w=>SlcOk P t u lo hi w∧NSA w) k
def ConvOk(P:Program)(s d:TypeId)(u r:AV):Prop:=convA P s d u=some r
def UnOk(P:Program)(o:UnOp)(u r:AV):Prop:=∃a c,u.val? = some a∧pureRun P (Op.unary o a)=some c∧ofVal c=some r
noncomputable def convK(P:Program)(d:β)(s t:TypeId)(u:AV)(k:AV→β):β:=theK d (fun w=>ConvOk P s t u w∧NSA w) k
noncomputable def unK(P:Program)(d:β)(o:UnOp)(u:AV)(k:AV→β):β:=theK d (fun w=>UnOk P o u w∧NSA w) k
noncomputable def appK(P:Program)(d:β)(t:TypeId)(s x:AV)(k:PV→β):β:=theK d (fun w=>AppOk P t s x w∧NS w) k
open Classical in
noncomputable def app0K(P:Program)(d:β)(t:TypeId)(s x:AV)(k:β):β:=if App0Ok P t s x then k else d
noncomputable def mxK(P:Program)(d:β)(mn:Bool)(u v:AV)(k:AV→β):β:=theK d (fun w=>MxOk P mn u v w∧NSA w) k
noncomputable def setK(d:β)(p i:PV)(o:Nat)(c:List PV)(k:PV→β):β:=theK d (fun w=>SetOk p i o c w∧NS w) k
noncomputable def mkK(P:Program)(d:β)(t:TypeId)(n:AV)(k:PV→β):β:=theK d (fun w=>MkOk P t n w∧NS w) k
noncomputable def sayK(P:Program)(d:β)(f:SF)(l:List PV)(k:List PV→β):β:=match f with
 |.bin b t u v r=>binK P d b t (openAV (nm l) u) (openAV (nm l) v) fun w=>mtA d r w l k
 |.len t u r=>lenK P d t (openAV (nm l) u) fun w=>mtA d r w l k
 |.idx t u i r=>idxK P d t (openAV (nm l) u) (openAV (nm l) i) fun w=>mtA d r w l k
 |.ind t u i r=>indK P d t (openAV (nm l) u) (openAV (nm l) i) fun w=>mtA d r w l k
 |.slc t u lo hi r=>slcK P d t (openAV (nm l) u) (lo.map (openAV (nm l))) (hi.map (openAV (nm l))) fun w=>mtA d r w l k
 |.conv s t u r=>convK P d s t (openAV (nm l) u) fun w=>mtA d r w l k
 |.un o u r=>unK P d o (openAV (nm l) u) fun w=>mtA d r w l k
 |.app t s x j=>appK P d t (openAV (nm l) s) (openAV (nm l) x) fun y=>mt1 d (.sym j) y l k
 |.app0 t s x=>app0K P d t (openAV (nm l) s) (openAV (nm l) x) (k l)
 |.names=>k l
 |.mx mn u v r=>mxK P d mn (openAV (nm l) u) (openAV (nm l) v) fun w=>mtA d r w l k
 |.set p i o c j=>setK d (openPV (nm l) p) (openPV (nm l) i) o (openPs (nm l) c) fun y=>mt1 d (.sym j) y l k
 |.mk t n j=>mkK P d t (openAV (nm l) n) fun y=>mt1 d (.sym j) y l k
 |.apq t s x j=>appK P d t (openAV (nm l) s) (openAV (nm l) x) fun y=>mt1 d (.sym j) y l k
end
def Res.alt(a b:Res):Res:=match a with
 |.bot=>.bot
 |.fail=>b
 |.ok r=>.ok r
def callK(o:Option Rs)(s:Nat)(k:List PV→Res):Res:=match o with
 |none=>.bot
 |some (s',ys)=>match Nat.beq s' s with
  |true=>k ys
  |false=>.fail
def passK(o:Option Rs):Res:=match o with
 |none=>.bot
 |some r=>.ok r
def extK(o:Option Rs):Res:=match o with
 |none=>.fail
 |some r=>.ok r
noncomputable def run(P:Program)(O:Q→Option Rs):Et→List PV→Res
 |.say f k,l=>sayK P .fail f l fun l'=>run P O k l'
 |.alt a b,l=>(run P O a l).alt (run P O b l)
 |.call q ps s pats k,l=>callK (O ⟨q,openPs (nm l) ps⟩) s fun ys=>mtK .fail pats ys l fun l'=>run P O k l'
 |.out s ps,l=>.ok (s,openPs (nm l) ps)
 |.goto q ps,l=>passK (O ⟨q,openPs (nm l) ps⟩)
 |.no _,_=>.fail
 |.ext g,l=>extK (g l)
def wkPs:List PV→List PV
 |[]=>[]
 |p::l=>wkP p::wkPs l
def weakK(o:Option Rs):Res:=match o with
 |none=>.bot
 |some (_,ys)=>.ok (0,wkPs ys)
def weakD(o:Option Rs):Res:=match o with
 |none=>.bot
 |some (_,ys)=>.ok (0,wdPs ys)
def weakM(m:List Nat)(o:Option Rs):Res:=match o with
 |none=>.bot
 |some (s,ys)=>match nth 0 m s with
  |0=>.ok (0,wdPs ys)
  |j+1=>.ok (j+1,ys)
noncomputable def body(P:Program)(E:Nat→Ent)(T:Nat→Et)(O:Q→Option Rs)(q:Q):Res:=match(E q.k).base with
 |some b=>match(E q.k).wm with
  |[]=>match(E q.k).h with
   |[]=>weakK (O ⟨b,q.xs⟩)
   |_::_=>weakD (O ⟨b,q.xs⟩)
  |x::l=>weakM (x::l) (O ⟨b,q.xs⟩)
 |none=>run P O (T q.k) q.xs
section
variable{β:Type}
theorem isK_nat(d:β)(p y:PV)(k:Option (List PV))(g:List PV→β):(match isK none p y k with|none=>d|some l=>g l)=isK d p y (match k with|none=>d|some l=>g l):=by
 unfold isK
 by_cases h:p=y
 ·rw[if_pos h,if_pos h]
 ·rw[if_neg h,if_neg h]
theorem mt1_nat(d:β)(p y:PV)(l:List PV)(k:List PV→Option (List PV))(g:List PV→β):(match mt1 none p y l k with|none=>d|some l=>g l)=mt1 d p y l fun l'=>(match k l' with|none=>d|some l=>g l):=by
 cases p with
 |sym i=>
  simp only[mt1]
  cases Nat.blt i l.length with
  |true=>exact isK_nat ..
  |false=>cases Nat.beq i l.length<;>rfl
 |lit v=>exact isK_nat ..
 |rows es=>
  simp only[mt1]
  cases ltAll l.length (namesPss es) with
  |true=>exact isK_nat ..
  |false=>rfl
 |_=>rfl
theorem mtK_nat(d:β)(g:List PV→β):∀(ps ys:List PV) (l:List PV) (k:List PV→Option (List PV)),(match mtK none ps ys l k with|none=>d|some l=>g l)=mtK d ps ys l fun l'=>(match k l' with|none=>d|some l=>g l)
 |[],ys,l,k=>by
  rw[mtK,mtK];unfold nilK
  cases ys<;>rfl
 |p::ps,ys,l,k=>by
  rw[mtK,mtK];unfold consK
  cases ys with
  |nil=>rfl
  |cons y r=>
   simp only
   rw[mt1_nat]
   congr 1
   funext l'
   exact mtK_nat d g ps r l' k
theorem pvK_nat(d:β)(w:AV)(k:PV→Option (List PV))(g:List PV→β):(match pvK none w k with|none=>d|some l=>g l)=pvK d w fun y=>(match k y with|none=>d|some l=>g l):=by
 cases w<;>rfl
theorem cptrK_nat(d:β)(w:AV)(k:List PV→Option (List PV))(g:List PV→β):(match cptrK none w k with|none=>d|some l=>g l)=cptrK d w fun y=>(match k y with|none=>d|some l=>g l):=by
 cases w<;>rfl
theorem pairK_nat(d:β)(w:AV)(k:PV→PV→Option (List PV))(g:List PV→β):(match pairK none w k with|none=>d|some l=>g l)=pairK d w fun y z=>(match k y z with|none=>d|some l=>g l):=by
 have key:(∃y z,w=.tup [.pv y,.pv z])∨∀y z,w≠.tup [.pv y,.pv z]:=by
  by_cases h:∃y z,w=.tup [.pv y,.pv z]
  ·exact .inl h
  ·exact .inr fun y z e=>h ⟨y,z,e⟩
 rcases key with⟨y,z,rfl⟩|h
 ·rfl
 ·have e:∀{γ:Type} (d:γ) (k:PV→PV→γ),pairK d w k=d:=by
   intro γ d k
   unfold pairK
   split
   ·rename_i y z;exact absurd rfl (h y z)
   ·rfl
  rw[e,e]
theorem paggK_nat(d:β)(w:AV)(k:List PV→PV→Option (List PV))(g:List PV→β):(match paggK none w k with|none=>d|some l=>g l)=paggK d w fun y z=>(match k y z with|none=>d|some l=>g l):=by
 have key:(∃l y z,w=.tup [.agg l,.pv z]∧allP l=some y)∨∀{γ:Type} (d:γ) (k:List PV→PV→γ),paggK d w k=d:=by
  by_cases h:∃l y z,w=.tup [.agg l,.pv z]∧allP l=some y
  ·exact .inl h
  ·refine .inr fun d k=>?_
   unfold paggK
   split
   ·split
    ·rename_i l z _ ys hy;exact absurd ⟨l,ys,z,rfl,hy⟩ h
    ·rfl
   ·rfl
 rcases key with⟨l,y,z,rfl,hy⟩|h
 ·simp only[paggK,hy]
 ·rw[h,h]
theorem mtA_cases(r:AV):(∃p,r=.pv p)∨(∃ps,r=.cptr ps)∨(∃p q,r=.tup [.pv p,.pv q])∨(∃asxx ps q,r=.tup [.agg asxx,.pv q]∧allP asxx=some ps)∨∀{γ:Type} (d:γ) (w:AV) (l:List PV) (k:List PV→γ),mtA d r w l k=d:=by
 by_cases h1:∃p,r=.pv p
 ·exact .inl h1
 by_cases h2:∃ps,r=.cptr ps
 ·exact .inr (.inl h2)
 by_cases h3:∃p q,r=.tup [.pv p,.pv q]
 ·exact .inr (.inr (.inl h3))
 by_cases h4:∃asxx ps q,r=.tup [.agg asxx,.pv q]∧allP asxx=some ps
 ·exact .inr (.inr (.inr (.inl h4)))
 refine .inr (.inr (.inr (.inr fun d w l k=>?_)))
 unfold mtA
 split
 ·exact absurd ⟨_,rfl⟩ h1
 ·exact absurd ⟨_,rfl⟩ h2
 ·exact absurd ⟨_,_,rfl⟩ h3
 ·split
  ·rename_i asxx q _ ps hp;exact absurd ⟨asxx,ps,q,rfl,hp⟩ h4
  ·rfl
 ·rfl
theorem mtA_nat(d:β)(r w:AV)(l:List PV)(k:List PV→Option (List PV))(g:List PV→β):(match mtA none r w l k with|none=>d|some l=>g l)=mtA d r w l fun l'=>(match k l' with|none=>d|some l=>g l):=by
 rcases mtA_cases r with⟨p,rfl⟩|⟨ps,rfl⟩|⟨p,q,rfl⟩|⟨asxx,ps,q,rfl,hp⟩|h
 ·simp only[mtA];rw[pvK_nat];congr 1;funext y;exact mt1_nat ..
 ·simp only[mtA];rw[cptrK_nat];congr 1;funext y;exact mtK_nat ..
 ·simp only[mtA];rw[pairK_nat];congr 1;funext y z;rw[mt1_nat];congr 1;funext l';exact mt1_nat ..
 ·simp only[mtA,hp];rw[paggK_nat];congr 1;funext y z;rw[mt1_nat];congr 1;funext l';exact mtK_nat ..
 ·rw[h,h]
theorem theK_nat{α:Type}(d:β)(p:α→Prop)(k:α→Option (List PV))(g:List PV→β):(match theK none p k with|none=>d|some l=>g l)=theK d p fun w=>(match k w with|none=>d|some l=>g l):=by
 unfold theK
 by_cases h:∃w,p w
 ·rw[dif_pos h,dif_pos h]
 ·rw[dif_neg h,dif_neg h]
theorem app0K_nat(P:Program)(d:β)(t:TypeId)(s x:AV)(k:Option (List PV))(g:List PV→β):(match app0K P none t s x k with|none=>d|some l=>g l)=app0K P d t s x (match k with|none=>d|some l=>g l):=by
 unfold app0K
 by_cases h:App0Ok P t s x
 ·rw[if_pos h,if_pos h]
 ·rw[if_neg h,if_neg h]
theorem sayK_nat(P:Program)(d:β)(f:SF)(l:List PV)(k:List PV→Option (List PV))(g:List PV→β):(match sayK P none f l k with|none=>d|some l=>g l)=sayK P d f l fun l'=>(match k l' with|none=>d|some l=>g l):=by
 cases f with
 |app0 t s x=>exact app0K_nat ..
 |names=>rfl
 |_=>simp only[sayK,binK,lenK,idxK,indK,slcK,convK,unK,appK,mxK,setK,mkK,theK_nat,mtA_nat,mt1_nat]
theorem sayK_get(P:Program)(d:β)(f:SF)(l:List PV)(g:List PV→β):sayK P d f l g=match sayK P none f l some with|none=>d|some l'=>g l':=by rw[sayK_nat]
theorem mtK_get(d:β)(ps ys l:List PV)(g:List PV→β):mtK d ps ys l g=match mtK none ps ys l some with|none=>d|some l'=>g l':=by rw[mtK_nat]
end
def Res.Agree(a b:Res):Prop:=a≠.bot→b≠.bot→a=b
def Compat(O O':Q→Option Rs):Prop:=∀q r r',O q=some r→O' q=some r'→r=r'
theorem run_agree{P:Program}{O O':Q→Option Rs}(h:Compat O O'):∀(t:Et) (l:List PV),(run P O t l).Agree (run P O' t l)
 |.say f k,l=>by
  rw[run,run,sayK_get,sayK_get P _ _ _ (fun l'=>run P O' k l')]
  cases sayK P none f l some with
  |none=>intro _ _;rfl
  |some l'=>exact run_agree h k l'
 |.alt a b,l=>by
  rw[run,run]
  have h1:=run_agree (P:=P) h a l
  have h2:=run_agree (P:=P) h b l
  intro n1 n2
  cases e1:run P O a l with
  |bot=>rw[e1] at n1;exact absurd rfl n1
  |fail=>
   cases e2:run P O' a l with
   |bot=>rw[e2] at n2;exact absurd rfl n2
   |fail=>
    rw[e1] at n1;rw[e2] at n2
    exact h2 n1 n2
   |ok r=>have:=h1 (by rw[e1];simp) (by rw[e2];simp);rw[e1,e2] at this;cases this
  |ok r=>
   cases e2:run P O' a l with
   |bot=>rw[e2] at n2;exact absurd rfl n2
   |fail=>have:=h1 (by rw[e1];simp) (by rw[e2];simp);rw[e1,e2] at this;cases this
   |ok r'=>have:=h1 (by rw[e1];simp) (by rw[e2];simp);rw[e1,e2] at this;exact this
 |.call q ps s pats k,l=>by
  rw[run,run]
  intro n1 n2
  cases e1:O ⟨q,openPs (nm l) ps⟩ with
  |none=>rw[e1] at n1;exact absurd rfl n1
  |some r=>
   cases e2:O' ⟨q,openPs (nm l) ps⟩ with
   |none=>rw[e2] at n2;exact absurd rfl n2
   |some r'=>
    have e:=h _ _ _ e1 e2
    subst e
    rw[e1] at n1
    rw[e2] at n2
    obtain⟨s',ys⟩:=r
    simp only[callK] at n1 n2 ⊢
    cases hb:Nat.beq s' s with
    |false=>rfl
    |true=>
     rw[hb] at n1 n2
     simp only at n1 n2 ⊢
     rw[mtK_get] at n1 n2
     rw[mtK_get,mtK_get _ _ _ _ (fun l'=>run P O' k l')]
     cases hm:mtK none pats ys l some with
     |none=>rfl
     |some l'=>
      rw[hm] at n1 n2
      exact run_agree h k l' n1 n2
 |.out s ps,l=>by rw[run,run];intro _ _;rfl
 |.goto q ps,l=>by
  rw[run,run]
  intro n1 n2
  cases e1:O ⟨q,openPs (nm l) ps⟩ with
  |none=>rw[e1] at n1;exact absurd rfl n1
  |some r=>
   cases e2:O' ⟨q,openPs (nm l) ps⟩ with
   |none=>rw[e2] at n2;exact absurd rfl n2
   |some r'=>rw[h _ _ _ e1 e2]
 |.no _,l=>by rw[run,run];intro _ _;rfl
 |.ext _,l=>by rw[run,run];intro _ _;rfl
theorem body_agree{P:Program}{E:Nat→Ent}{T:Nat→Et}{O O':Q→Option Rs}(h:Compat O O')(q:Q):(body P E T O q).Agree (body P E T O' q):=by
 unfold body
 split
 ·rename_i b _
  have e0:∀o:Option Rs,(match(E q.k).wm with|[]=>(match(E q.k).h with|[]=>weakK o|_::_=>weakD o)|x::l=>weakM (x::l) o)≠.bot→o≠none:=by
   intro o h0 e
   subst e
   split at h0
   ·split at h0<;>exact h0 rfl
   ·exact h0 rfl
  intro n1 n2
  cases e1:O ⟨b,q.xs⟩ with
  |none=>exact absurd e1 (e0 _ n1)
  |some r=>
   cases e2:O' ⟨b,q.xs⟩ with
   |none=>exact absurd e2 (e0 _ n2)
   |some r'=>rw[h _ _ _ e1 e2]
 ·exact run_agree h _ _
inductive EvR(P:Program)(E:Nat→Ent)(T:Nat→Et):Q→Rs→Prop where
 |mk (q:Q) (r:Rs) (O:Q→Option Rs) (hO:∀q r,O q=some r→EvR P E T q r) (h:body P E T O q=.ok r):EvR P E T q r
theorem EvR.one{P:Program}{E:Nat→Ent}{T:Nat→Et}{q:Q}{r:Rs}(h:EvR P E T q r):∀{r'},EvR P E T q r'→r=r':=by
 induction h with
 |mk q r O hO h ih=>
  intro r' h'
  cases h' with
  |mk _ _ O' hO' h'=>
   have hc:Compat O O':=fun q1 r1 r2 e1 e2=>ih q1 r1 e1 (hO' q1 r2 e2)
   have:=body_agree (E:=E) (T:=T) hc q (by rw[h];simp) (by rw[h'];simp)
   rw[h,h'] at this
   exact Res.ok.inj this
open Classical in
noncomputable def Evl(P:Program)(E:Nat→Ent)(T:Nat→Et)(q:Q):Option Rs:=if h:∃r,EvR P E T q r then some h.choose else none
theorem Evl.iff{P:Program}{E:Nat→Ent}{T:Nat→Et}{q:Q}{r:Rs}:Evl P E T q=some r↔EvR P E T q r:=by
 unfold Evl
 split
 ·rename_i h
  constructor
  ·intro e;rw[←Option.some.inj e];exact h.choose_spec
  ·intro h';rw[h.choose_spec.one h']
 ·rename_i h
  constructor
  ·intro e;cases e
  ·intro h';exact absurd ⟨r,h'⟩ h
theorem Evl.of{P:Program}{E:Nat→Ent}{T:Nat→Et}{q:Q}{r:Rs}(h:body P E T (Evl P E T) q=.ok r):Evl P E T q=some r:=
 Evl.iff.2 (.mk q r (Evl P E T) (fun _ _ h=>Evl.iff.1 h) h)
def hasN:List Nat→Nat→Bool
 |[],_=>false
 |j::l,i=>Nat.beq j i||hasN l i
theorem hasN_mem:∀{l:List Nat} {i:Nat},hasN l i=true→i∈l
 |[],_,h=>by cases h
 |j::l,i,h=>by
  rw[hasN,Bool.or_eq_true] at h
  rcases h with h|h
  ·rw[Nat.eq_of_beq_eq_true h];exact List.mem_cons_self ..
  ·exact List.mem_cons_of_mem _ (hasN_mem h)
def short:PV→Prop
 |.rows es=>es.length<symBase
 |_=>False
theorem short_rows{p:PV}(h:short p):∃es,p=.rows es∧es.length<symBase:=by
 cases p with
 |rows es=>exact⟨es,rfl,h⟩
 |_=>exact h.elim
def Good(R:Nat→PV)(l:List Nat):Prop:=∀i∈l,short (R i)
mutual
def subA(ps:List PV):AV→AV
 |.pv p=>.pv (openPV (nm ps) p)
 |.trows t es=>.trows t (openPss (nm ps) es)
 |.tsym t i=>match nm ps i with
  |.rows es=>.trows t es
  |.sym j=>.tsym t j
  |_=>.tsym t i
 |.ptr i o=>.ptr i o
 |.cptr cs=>.cptr (openPs (nm ps) cs)
 |.agg l=>.agg (subAs ps l)
 |.tup l=>.tup (subAs ps l)
 |.fn f l=>.fn f (subAs ps l)
 |.sl t lo len sz=>.sl t lo len sz
 |.ifc t v=>.ifc t (subA ps v)
 |.arr t=>.arr t
 |.aptr t i o=>.aptr t (openPV (nm ps) i) o
def subAs(ps:List PV):List AV→List AV
 |[]=>[]
 |a::l=>subA ps a::subAs ps l
end
def subN(ps:List PV)(n:Nat):Nat:=match Nat.blt n symBase with
 |true=>n
 |false=>match nm ps (n-symBase) with
  |.sym j=>symBase+j
  |.rows es=>es.length
  |_=>n
def subO(ps:List PV):AObj→AObj
 |.box t l=>.box t (subAs ps l)
 |.tok t s n=>.tok t s (subN ps n)
 |.dead=>.dead
 |.arr t s p=>.arr t s (openPV (nm ps) p)
def suH(ps:List PV):List AObj→List AObj
 |[]=>[]
 |x::l=>subO ps x::suH ps l
def subE(ps:List PV):Env→Env
 |[]=>[]
 |(d,a)::l=>(d,subA ps a)::subE ps l
mutual
def covA(rw_:List Nat):AV→Bool
 |.pv _=>true
 |.trows _ _=>true
 |.tsym _ i=>hasN rw_ i
 |.ptr _ _=>true
 |.cptr _=>true
 |.agg l=>covAs rw_ l
 |.tup l=>covAs rw_ l
 |.fn _ l=>covAs rw_ l
 |.sl _ _ _ _=>true
 |.ifc _ v=>covA rw_ v
 |.arr _=>true
 |.aptr _ _ _=>true
def covAs(rw_:List Nat):List AV→Bool
 |[]=>true
 |a::l=>covA rw_ a&&covAs rw_ l
end
def covO(rw_:List Nat):AObj→Bool
 |.box _ l=>covAs rw_ l
 |.tok _ _ n=>match Nat.blt n symBase with
  |true=>true
  |false=>hasN rw_ (n-symBase)
 |.dead=>true
 |.arr _ _ _=>true
def covH(rw_:List Nat):List AObj→Bool
 |[]=>true
 |x::l=>covO rw_ x&&covH rw_ l
def covE(rw_:List Nat):Env→Bool
 |[]=>true
 |(_,a)::l=>covA rw_ a&&covE rw_ l
theorem nm_open(R:Nat→PV)(ps:List PV)(i:Nat):nm (openPs R ps) i=openPV R (nm ps i):=by
 unfold nm
 rw[openPs_eq,List.getD_eq_getElem?_getD,List.getD_eq_getElem?_getD,List.getElem?_map]
 cases ps[i]? with
 |none=>simp[openPV]
 |some p=>simp
section
variable(l ps:List PV)
mutual
theorem openPV_sub:∀p,openPV (nm l) (openPV (nm ps) p)=openPV (nm (openPs (nm l) ps)) p
 |.sym i=>by rw[openPV,openPV,nm_open]
 |.rows es=>by rw[openPV,openPV,openPV,openPss_sub es]
 |.lit _=>by rw[openPV,openPV,openPV]
 |.opq _ _ _=>by rw[openPV,openPV,openPV]
 |.rng _ _=>by rw[openPV,openPV,openPV]
 |.any=>by rw[openPV,openPV,openPV]
theorem openPs_sub:∀p,openPs (nm l) (openPs (nm ps) p)=openPs (nm (openPs (nm l) ps)) p
 |[]=>by rw[openPs,openPs,openPs]
 |p::r=>by rw[openPs,openPs,openPs,openPV_sub p,openPs_sub r]
theorem openPss_sub:∀p,openPss (nm l) (openPss (nm ps) p)=openPss (nm (openPs (nm l) ps)) p
 |[]=>by rw[openPss,openPss,openPss]
 |p::r=>by rw[openPss,openPss,openPss,openPs_sub p,openPss_sub r]
end
theorem nm_row{i:Nat}(h:short (nm (openPs (nm l) ps) i)):(∃es,nm ps i=.rows es∧es.length<symBase)∨(∃j,nm ps i=.sym j∧short (nm l j)):=by
 rw[nm_open] at h
 cases hp:nm ps i with
 |rows es=>
  rw[hp,openPV] at h
  exact .inl ⟨es,rfl,by simpa[short,openPss_eq] using h⟩
 |sym j=>rw[hp,openPV] at h;exact .inr ⟨j,rfl,h⟩
 |lit v=>rw[hp,openPV] at h;exact h.elim
 |opq a b c=>rw[hp,openPV] at h;exact h.elim
 |rng a b=>rw[hp,openPV] at h;exact h.elim
 |any=>rw[hp,openPV] at h;exact h.elim
variable{l ps}{rin:List Nat}(hg:Good (nm (openPs (nm l) ps)) rin)
include hg
mutual
theorem subA_ok:∀a,covA rin a=true→openAV (nm l) (subA ps a)=openAV (nm (openPs (nm l) ps)) a∧TsA (nm l) (subA ps a)
 |.pv p,_=>by rw[subA,openAV,openAV,openPV_sub,TsA];exact⟨rfl,trivial⟩
 |.trows t es,_=>by rw[subA,openAV,openAV,openPss_sub,TsA];exact⟨rfl,trivial⟩
 |.tsym t i,h=>by
  rw[covA] at h
  have hs:=hg i (hasN_mem h)
  rcases nm_row l ps hs with⟨es,he,_⟩|⟨j,he,hj⟩
  ·rw[subA,he,openAV]
   simp only
   rw[openAV,nm_open,he,openPV,TsA];exact⟨rfl,trivial⟩
  ·obtain⟨es,e1,_⟩:=short_rows hj
   rw[subA,he,openAV]
   simp only
   rw[openAV,nm_open,he,openPV,e1,TsA,e1];exact⟨rfl,trivial⟩
 |.ptr _ _,_=>by rw[subA,openAV,openAV,TsA];exact⟨rfl,trivial⟩
 |.cptr cs,_=>by rw[subA,openAV,openAV,openPs_sub,TsA];exact⟨rfl,trivial⟩
 |.agg r,h=>by have:=subAs_ok r (by rw[covA] at h;exact h);rw[subA,openAV,openAV,this.1,TsA];exact⟨rfl,this.2⟩
 |.tup r,h=>by have:=subAs_ok r (by rw[covA] at h;exact h);rw[subA,openAV,openAV,this.1,TsA];exact⟨rfl,this.2⟩
 |.fn _ r,h=>by have:=subAs_ok r (by rw[covA] at h;exact h);rw[subA,openAV,openAV,this.1,TsA];exact⟨rfl,this.2⟩
 |.sl _ _ _ _,_=>by rw[subA,openAV,openAV,TsA];exact⟨rfl,trivial⟩
 |.ifc _ v,h=>by have:=subA_ok v (by rw[covA] at h;exact h);rw[subA,openAV,openAV,this.1,TsA];exact⟨rfl,this.2⟩
 |.arr _,_=>by rw[subA,openAV,openAV,TsA];exact⟨rfl,trivial⟩
 |.aptr _ i _,_=>by rw[subA,openAV,openAV,openPV_sub,TsA];exact⟨rfl,trivial⟩
theorem subAs_ok:∀a,covAs rin a=true→openAVs (nm l) (subAs ps a)=openAVs (nm (openPs (nm l) ps)) a∧TsAs (nm l) (subAs ps a)
 |[],_=>by rw[subAs,openAVs,openAVs,TsAs];exact⟨rfl,trivial⟩
 |a::r,h=>by
  rw[covAs,Bool.and_eq_true] at h
  have h1:=subA_ok a h.1
  have h2:=subAs_ok r h.2
  rw[subAs,openAVs,openAVs,h1.1,h2.1,TsAs];exact⟨rfl,h1.2,h2.2⟩
end
theorem subO_ok(x:AObj)(h:covO rin x=true):openO (nm l) (subO ps x)=openO (nm (openPs (nm l) ps)) x∧TsO (nm l) (subO ps x):=by
 cases x with
 |box t r=>have:=subAs_ok hg r h;simp only[subO,openO,TsO];rw[this.1];exact⟨rfl,this.2⟩
 |arr t s p=>simp only[subO,openO,TsO,openPV_sub];exact⟨trivial,trivial⟩
 |dead=>exact⟨rfl,trivial⟩
 |tok t s n=>
  simp only[subO,openO,TsO]
  rw[covO] at h
  have key:dl (nm l) (subN ps n)=dl (nm (openPs (nm l) ps)) n∧dl (nm l) (subN ps n)<symBase:=by
   unfold subN
   cases hb:Nat.blt n symBase with
   |true=>
    have:n<symBase:=Nat.le_of_ble_eq_true hb
    simp only
    rw[dl_small this,dl_small this];exact⟨rfl,this⟩
   |false=>
    rw[hb] at h
    simp only at h
    have hn:¬n<symBase:=fun hlt=>by rw[Nat.blt,Nat.ble_eq_true_of_le hlt] at hb;cases hb
    have e:dl (nm (openPs (nm l) ps)) n=(nm (openPs (nm l) ps) (n-symBase)).rowLen:=by unfold dl;rw[if_neg hn]
    rcases nm_row l ps (hg _ (hasN_mem h)) with⟨es,he,hl⟩|⟨j,he,hj⟩
    ·rw[he];simp only
     rw[e,nm_open,he,openPV,dl_small hl]
     refine⟨?_,hl⟩
     show es.length=(openPss (nm l) es).length
     rw[openPss_eq,List.length_map]
    ·obtain⟨es,e1,e2⟩:=short_rows hj
     rw[he];simp only
     rw[e,nm_open,he,openPV,dl_sym e1,e1]
     exact⟨rfl,e2⟩
  rw[key.1];rw[key.1] at key;exact⟨rfl,key.2⟩
theorem suH_ok:∀h,covH rin h=true→openH (nm l) (suH ps h)=openH (nm (openPs (nm l) ps)) h∧TsH (nm l) (suH ps h)
 |[],_=>⟨rfl,trivial⟩
 |x::r,h=>by
  rw[covH,Bool.and_eq_true] at h
  have h1:=subO_ok hg x h.1
  have h2:=suH_ok r h.2
  rw[suH,openH,openH,h1.1,h2.1,TsH];exact⟨rfl,h1.2,h2.2⟩
theorem subE_ok:∀e,covE rin e=true→openE (nm l) (subE ps e)=openE (nm (openPs (nm l) ps)) e∧TsE (nm l) (subE ps e)
 |[],_=>⟨rfl,trivial⟩
 |(d,x)::r,h=>by
  rw[covE,Bool.and_eq_true] at h
  have h1:=subA_ok hg x h.1
  have h2:=subE_ok r h.2
  rw[subE,openE,openE,h1.1,h2.1,TsE];exact⟨rfl,h1.2,h2.2⟩
end
def entOk(e:Ent):Bool:=covAs e.rin e.args&&covH e.rin e.h&&covE e.rin e.e
def nxP(n:Nat):PV→Nat
 |.sym i=>bif Nat.blt i n then n else i+1
 |_=>n
def nxL(n:Nat):List PV→Nat
 |[]=>n
 |p::l=>nxL (nxP n p) l
def nxA(n:Nat):AV→Nat
 |.pv p=>nxP n p
 |.cptr ps=>nxL n ps
 |.tup [.pv p,.pv q]=>nxP (nxP n p) q
 |.tup [.agg asxx,.pv q]=>match allP asxx with
  |some ps=>nxL (nxP n q) ps
  |none=>n
 |_=>n
def nxF(n:Nat):SF→Nat
 |.bin _ _ _ _ r=>nxA n r
 |.len _ _ r=>nxA n r
 |.idx _ _ _ r=>nxA n r
 |.ind _ _ _ r=>nxA n r
 |.slc _ _ _ _ r=>nxA n r
 |.conv _ _ _ r=>nxA n r
 |.un _ _ r=>nxA n r
 |.app _ _ _ j=>nxP n (.sym j)
 |.app0 _ _ _=>n
 |.names=>n
 |.mx _ _ _ r=>nxA n r
 |.set _ _ _ _ j=>nxP n (.sym j)
 |.mk _ _ j=>nxP n (.sym j)
 |.apq _ _ _ j=>nxP n (.sym j)
def inF:SF→List Nat
 |.bin _ _ u v _=>namesA u++namesA v
 |.len _ u _=>namesA u
 |.idx _ u i _=>namesA u++namesA i
 |.ind _ u i _=>namesA u++namesA i
 |.slc _ u lo hi _=>namesA u++namesOp lo++namesOp hi
 |.conv _ _ u _=>namesA u
 |.un _ u _=>namesA u
 |.app _ s x _=>namesA s++namesA x
 |.app0 _ s x=>namesA s++namesA x
 |.names=>[]
 |.mx _ u v _=>namesA u++namesA v
 |.set p i _ c _=>namesP p++namesP i++namesPs c
 |.mk _ n _=>namesA n
 |.apq _ s x _=>namesA s++namesA x
def bex(id:Nat):AExit→AExit
 |.exit j=>match Nat.beq j id with
  |true=>.normal
  |false=>.exit j
 |e=>e
section
variable(S:Nat→List Shape)(E:Nat→Ent)(cur:Ent)
def shp(q s:Nat):Shape:=nth dSh (S (E q).fam) s
def erase:Et→Nat→Tr
 |.say f k,n=>.say f (nxF n f-n) (erase k (nxF n f))
 |.alt a b,n=>.alt (erase a n) (erase b n)
 |.call q ps s pats k,n=>match(E q).lp with
  |none=>.call ⟨(E q).f,subAs ps (E q).args,suH ps (E q).h,subA pats (shp S E q s).v,suH pats (shp S E q s).h⟩ (nxL n pats-n) (erase k (nxL n pats))
  |some (id,_)=>.blk ⟨id,subE ps (E q).e,suH ps (E q).h,bex id (shp S E q s).ex,subE pats (shp S E q s).e,suH pats (shp S E q s).h⟩ (nxL n pats-n) (erase k (nxL n pats))
 |.out s ps,_=>match cur.lp with
  |none=>.ret (subA ps (nth dSh (S cur.fam) s).v) (suH ps (nth dSh (S cur.fam) s).h)
  |some _=>.code (nth dSh (S cur.fam) s).ex (subE ps (nth dSh (S cur.fam) s).e) (suH ps (nth dSh (S cur.fam) s).h)
 |.goto q ps,_=>.code .normal (subE ps (E q).e) (suH ps (E q).h)
 |.no t,_=>t
 |.ext _,_=>.ret (.tup []) []
def goodP(ps:List PV)(sh:List Nat)(i:Nat):Bool:=match nm ps i with
 |.sym j=>hasN sh j
 |.rows es=>Nat.blt es.length 1000
 |_=>false
def goodPs(ps:List PV)(sh:List Nat):List Nat→Bool
 |[]=>true
 |i::l=>goodP ps sh i&&goodPs ps sh l
def shL(ps:List PV):List Nat→List Nat
 |[]=>[]
 |i::l=>match nm ps i with
  |.sym j=>j::shL ps l
  |_=>shL ps l
def shF:SF→List Nat→List Nat
 |.app _ _ _ j,sh=>j::sh
 |.apq _ _ _ j,sh=>j::sh
 |.mk _ _ j,sh=>j::sh
 |.set (.sym i) _ _ _ j,sh=>match hasN sh i with
  |true=>j::sh
  |false=>sh
 |_,sh=>sh
def isLp:Option (Nat×Nat)→Option (Nat×Nat)→Bool
 |some (a,b),some (c,d)=>Nat.beq a c&&Nat.beq b d
 |_,_=>false
def badX:AExit→Bool
 |.normal=>true
 |_=>false
def shOk(s:Shape):Bool:=covA s.rw s.v&&covH s.rw s.h&&covE s.rw s.e && !(badX s.ex)
def wfQ(q:Nat)(ps:List PV)(n:Nat)(sh:List Nat):Bool:=Nat.beq ps.length (E q).n&&ltAll n (namesPs ps)&&goodPs ps sh (E q).rin
def wfE:Et→Nat→List Nat→Bool
 |.say f k,n,sh=>ltAll n (inF f)&&wfE k (nxF n f) (shF f sh)
 |.alt a b,n,sh=>wfE a n sh&&wfE b n sh
 |.call q ps s pats k,n,sh=>wfQ E q ps n sh&&Nat.beq pats.length (shp S E q s).m&&(match(E q).lp with
  |none=>true
  |some (_,m0)=>Nat.beq (E q).f cur.f&&Nat.beq (E q).h.length m0)&&wfE k (nxL n pats) (shL pats (shp S E q s).rw++sh)
 |.out s ps,n,sh=>Nat.blt s (S cur.fam).length&&Nat.beq ps.length (nth dSh (S cur.fam) s).m&&ltAll n (namesPs ps)&&goodPs ps sh (nth dSh (S cur.fam) s).rw
 |.goto q ps,n,sh=>wfQ E q ps n sh&&isLp (E q).lp cur.lp&&Nat.beq (E q).f cur.f&&Nat.beq (E q).fam cur.fam
 |.no _,_,_=>true
 |.ext _,_,_=>false
end
theorem exN_intro:∀{m:Nat} {l vs:List PV} {X:List PV→Prop},vs.length=m→NSL vs→X (l++vs)→exN m l X
 |0,l,vs,X,hl,_,hX=>by
  have:vs=[]:=List.length_eq_zero_iff.1 hl
  subst this
  simpa[exN] using hX
 |m+1,l,[],X,hl,_,hX=>by simp at hl
 |m+1,l,v::vs,X,hl,hn,hX=>by
  refine⟨v,exN_intro (vs:=vs) (by simpa using hl) (fun p hp=>hn p (List.mem_cons_of_mem _ hp)) ⟨?_,hn v (List.mem_cons_self ..)⟩⟩
  simpa using hX
theorem NSL.app{l vs:List PV}(h1:NSL l)(h2:NSL vs):NSL (l++vs):=fun p hp=>by
 rcases List.mem_append.1 hp with hp|hp
 ·exact h1 p hp
 ·exact h2 p hp
structure Grw(l l':List PV)(n:Nat):Prop where
 e:∃vs,l'=l++vs
 n:l'.length=n
 ns:NSL l'
theorem Grw.trans{l l' l'':List PV}{n m:Nat}(h1:Grw l l' n)(h2:Grw l' l'' m):Grw l l'' m:=by
 obtain⟨vs,rfl⟩:=h1.e
 obtain⟨ws,rfl⟩:=h2.e
 exact⟨⟨vs++ws,by simp⟩,h2.n,h2.ns⟩
theorem Grw.rest{l l':List PV}{n:Nat}(h:Grw l l' n):∃vs,l'=l++vs∧vs.length=n-l.length∧NSL vs:=by
 obtain⟨vs,rfl⟩:=h.e
 refine⟨vs,rfl,?_,fun p hp=>h.ns p (List.mem_append_right _ hp)⟩
 have:=h.n
 simp at this
 omega
theorem Grw.good{l l':List PV}{n:Nat}{sh:List Nat}(h:Grw l l' n)(hg:Good (nm l) sh):Good (nm l') sh:=by
 obtain⟨vs,rfl⟩:=h.e
 intro i hi
 have:=hg i hi
 by_cases hl:i<l.length
 ·rwa [nm_app hl]
 ·exfalso
  unfold nm at this
  rw[List.getD_eq_getElem?_getD,List.getElem?_eq_none (by omega)] at this
  exact this
theorem isK_some{p y:PV}{k:Option (List PV)}{l':List PV}(h:isK none p y k=some l'):p=y∧k=some l':=by
 unfold isK at h
 split at h
 ·rename_i e;exact⟨e,h⟩
 ·cases h
theorem mt1_spec{p y:PV}{l l':List PV}(h:mt1 none p y l some=some l')(hn:NSL l)(hy:NS y):Grw l l' (nxP l.length p)∧∀ws,openPV (nm (l'++ws)) p=y:=by
 cases p with
 |sym i=>
  simp only[mt1] at h
  cases hb:Nat.blt i l.length with
  |true=>
   have hlt:i<l.length:=Nat.le_of_ble_eq_true hb
   rw[hb] at h
   obtain⟨e1,e2⟩:=isK_some h
   cases e2
   refine⟨⟨⟨[],by simp⟩,by simp[nxP,hb],hn⟩,fun ws=>?_⟩
   rw[openPV,nm_app hlt,e1]
  |false=>
   rw[hb] at h
   simp only at h
   cases hc:Nat.beq i l.length with
   |true=>
    have hi:=Nat.eq_of_beq_eq_true hc
    rw[hc] at h
    cases h
    refine⟨⟨⟨[y],rfl⟩,by rw[nxP,hb];simp[hi],hn.app (NSL.cons hy NSL.nil)⟩,fun ws=>?_⟩
    rw[openPV,nm_app (by simp;omega)]
    unfold nm
    rw[List.getD_eq_getElem?_getD,hi]
    simp
   |false=>rw[hc] at h;cases h
 |lit v=>
  obtain⟨e1,e2⟩:=isK_some h
  cases e2
  exact⟨⟨⟨[],by simp⟩,rfl,hn⟩,fun ws=>by rw[openPV,e1]⟩
 |rows es=>
  simp only[mt1] at h
  cases hb:ltAll l.length (namesPss es) with
  |true=>
   rw[hb] at h
   obtain⟨e1,e2⟩:=isK_some h
   cases e2
   refine⟨⟨⟨[],by simp⟩,rfl,hn⟩,fun ws=>?_⟩
   rw[←e1]
   exact openPV_congr _ fun i hi=>nm_app (ltAll_spec hb i (by rw[namesP] at hi;exact hi))
  |false=>rw[hb] at h;cases h
 |opq _ _ _=>cases h
 |rng _ _=>cases h
 |any=>cases h
theorem mt1_some{β:Type}{p y:PV}{l:List PV}{k:List PV→Option β}{r:β}(h:mt1 none p y l k=some r):∃l',mt1 none p y l some=some l'∧k l'=some r:=by
 rw[←mt1_nat none p y l some k] at h
 split at h
 ·cases h
 ·rename_i l' hl;exact⟨l',hl,h⟩
theorem mtK_spec:∀{ps ys l l':List PV},mtK none ps ys l some=some l'→NSL l→NSL ys→Grw l l' (nxL l.length ps)∧∀ws,openPs (nm (l'++ws)) ps=ys
 |[],ys,l,l',h,hn,_=>by
  rw[mtK] at h
  cases ys with
  |nil=>cases h;exact⟨⟨⟨[],by simp⟩,rfl,hn⟩,fun ws=>by rw[openPs]⟩
  |cons _ _=>cases h
 |p::ps,ys,l,l',h,hn,hy=>by
  rw[mtK] at h
  cases ys with
  |nil=>cases h
  |cons y r=>
   have h:mt1 none p y l (fun l'=>mtK none ps r l' some)=some l':=h
   obtain⟨l1,h1,h2⟩:=mt1_some h
   obtain⟨e1,e2⟩:=mt1_spec h1 hn (hy y (List.mem_cons_self ..))
   obtain⟨e3,e4⟩:=mtK_spec h2 e1.ns (fun p hp=>hy p (List.mem_cons_of_mem _ hp))
   rw[e1.n] at e3
   refine⟨e1.trans e3,fun ws=>?_⟩
   obtain⟨vs,rfl⟩:=e3.e
   rw[openPs,e4,List.append_assoc,e2]
theorem mtA_spec{r w:AV}{l l':List PV}(h:mtA none r w l some=some l')(hn:NSL l)(hw:NSA w):Grw l l' (nxA l.length r)∧∀ws,openAV (nm (l'++ws)) r=w:=by
 rcases mtA_cases r with⟨p,rfl⟩|⟨ps,rfl⟩|⟨p,q,rfl⟩|⟨asxx,ps,q,rfl,hp⟩|hd
 ·simp only[mtA] at h
  cases w with
  |pv y=>
   obtain⟨e1,e2⟩:=mt1_spec h hn (by cases hw;assumption)
   exact⟨e1,fun ws=>by rw[openAV,e2]⟩
  |_=>cases h
 ·simp only[mtA] at h
  cases w with
  |cptr ys=>
   obtain⟨e1,e2⟩:=mtK_spec h hn (by cases hw;assumption)
   exact⟨e1,fun ws=>by rw[openAV,e2]⟩
  |_=>cases h
 ·simp only[mtA] at h
  unfold pairK at h
  split at h
  ·rename_i y z
   have hw:NS y∧NS z:=by
    cases hw with|tup _ hw=>exact⟨by have:=hw (.pv y) (by simp);cases this;assumption,by have:=hw (.pv z) (by simp);cases this;assumption⟩
   obtain⟨l1,h1,h2⟩:=mt1_some h
   obtain⟨e1,e2⟩:=mt1_spec h1 hn hw.1
   obtain⟨e3,e4⟩:=mt1_spec h2 e1.ns hw.2
   rw[e1.n] at e3
   refine⟨e1.trans e3,fun ws=>?_⟩
   obtain⟨vs,rfl⟩:=e3.e
   rw[openAV,openAVs,openAVs,openAVs,openAV,openAV,e4,List.append_assoc,e2]
  ·cases h
 ·simp only[mtA,hp] at h
  unfold paggK at h
  split at h
  ·rename_i lw z
   split at h
   ·rename_i ys hy
    have hwl:=allP_some hy
    have hw:NSL ys∧NS z:=by
     cases hw with|tup _ hw=>
      refine⟨fun y hy2=>?_,by have:=hw (.pv z) (by simp);cases this;assumption⟩
      have h0:=hw (.agg lw) (by simp)
      cases h0 with|agg _ h0=>
       have:=h0 (.pv y) (by rw[hwl];exact List.mem_map.2 ⟨y,hy2,rfl⟩)
       cases this;assumption
    obtain⟨l1,h1,h2⟩:=mt1_some h
    obtain⟨e1,e2⟩:=mt1_spec h1 hn hw.2
    obtain⟨e3,e4⟩:=mtK_spec h2 e1.ns hw.1
    rw[e1.n] at e3
    have has:=allP_some hp
    have hnx:nxA l.length (.tup [.agg asxx,.pv q])=nxL (nxP l.length q) ps:=by simp only[nxA,hp]
    refine⟨by rw[hnx];exact e1.trans e3,fun ws=>?_⟩
    obtain⟨vs,rfl⟩:=e3.e
    have hopen:∀(R:Nat→PV) (l:List PV),openAVs R (l.map .pv)=(openPs R l).map .pv:=by
     intro R l
     induction l with
     |nil=>rw[openPs];rfl
     |cons a l ih=>rw[List.map_cons,openAVs,openPs,List.map_cons,openAV,ih]
    rw[openAV,openAVs,openAVs,openAVs,openAV,openAV,has,hopen,e4,List.append_assoc,e2,←hwl]
   ·cases h
  ·cases h
 ·rw[hd] at h;cases h
theorem theK_some{α:Type}{p:α→Prop}{k:α→Option (List PV)}{l':List PV}(h:theK none p k=some l'):∃w,p w∧k w=some l':=by
 unfold theK at h
 split at h
 ·rename_i hp;exact⟨_,hp.choose_spec,h⟩
 ·cases h
theorem openAV_ext{l vs:List PV}{a:AV}{m:List Nat}(h:ltAll l.length m=true)(hm:∀i∈namesA a,i∈m):openAV (nm l) a=openAV (nm (l++vs)) a:=
 openAV_congr a fun i hi=>(nm_app (ltAll_spec h i (hm i hi))).symm
theorem openPV_ext{l vs:List PV}{a:PV}{m:List Nat}(h:ltAll l.length m=true)(hm:∀i∈namesP a,i∈m):openPV (nm l) a=openPV (nm (l++vs)) a:=
 openPV_congr a fun i hi=>(nm_app (ltAll_spec h i (hm i hi))).symm
theorem openPs_extm{l vs:List PV}{ps:List PV}{m:List Nat}(h:ltAll l.length m=true)(hm:∀i∈namesPs ps,i∈m):openPs (nm l) ps=openPs (nm (l++vs)) ps:=
 openPs_congr ps fun i hi=>(nm_app (ltAll_spec h i (hm i hi))).symm
theorem sayK_spec{P:Program}{f:SF}{l l':List PV}{sh:List Nat}(h:sayK P none f l some=some l')(hn:NSL l)(hi:ltAll l.length (inF f)=true)(hg:Good (nm l) sh):Grw l l' (nxF l.length f)∧f.ok (nm l') P∧Good (nm l') (shF f sh):=by
 cases f with
 |bin b t u v r=>
  simp only[sayK,binK] at h
  obtain⟨w,⟨h1,h2⟩,h3⟩:=theK_some h
  obtain⟨e1,e2⟩:=mtA_spec h3 hn h2
  refine⟨e1,?_,e1.good hg⟩
  obtain⟨vs,rfl⟩:=e1.e
  have e3:=e2 []
  rw[List.append_nil] at e3
  show BinOk P b t _ _ _
  rw[←openAV_ext hi (fun i hi=>by simp[inF,hi]),←openAV_ext hi (fun i hi=>by simp[inF,hi]),e3];exact h1
 |len t u r=>
  simp only[sayK,lenK] at h
  obtain⟨w,⟨h1,h2⟩,h3⟩:=theK_some h
  obtain⟨e1,e2⟩:=mtA_spec h3 hn h2
  refine⟨e1,?_,e1.good hg⟩
  obtain⟨vs,rfl⟩:=e1.e
  have e3:=e2 []
  rw[List.append_nil] at e3
  show LenOk P t _ _
  rw[←openAV_ext hi (fun i hi=>by simp[inF,hi]),e3];exact h1
 |idx t u v r=>
  simp only[sayK,idxK] at h
  obtain⟨w,⟨h1,h2⟩,h3⟩:=theK_some h
  obtain⟨e1,e2⟩:=mtA_spec h3 hn h2
  refine⟨e1,?_,e1.good hg⟩
  obtain⟨vs,rfl⟩:=e1.e
  have e3:=e2 []
  rw[List.append_nil] at e3
  show IdxOk P t _ _ _
  rw[←openAV_ext hi (fun i hi=>by simp[inF,hi]),←openAV_ext hi (fun i hi=>by simp[inF,hi]),e3];exact h1
 |ind t u v r=>
  simp only[sayK,indK] at h
  obtain⟨w,⟨h1,h2⟩,h3⟩:=theK_some h
  obtain⟨e1,e2⟩:=mtA_spec h3 hn h2
  refine⟨e1,?_,e1.good hg⟩
  obtain⟨vs,rfl⟩:=e1.e
  have e3:=e2 []
  rw[List.append_nil] at e3
  show indexA P t _ _=some _
  rw[←openAV_ext hi (fun i hi=>by simp[inF,hi]),←openAV_ext hi (fun i hi=>by simp[inF,hi]),e3];exact h1
 |slc t u lo hi_ r=>
  simp only[sayK,slcK] at h
  obtain⟨w,⟨h1,h2⟩,h3⟩:=theK_some h
  obtain⟨e1,e2⟩:=mtA_spec h3 hn h2
  refine⟨e1,?_,e1.good hg⟩
  obtain⟨vs,rfl⟩:=e1.e
  have e3:=e2 []
  rw[List.append_nil] at e3
  show SlcOk P t _ _ _ _
  have key:∀o:Option AV,(∀i∈namesOp o,i∈inF (.slc t u lo hi_ r))→o.map (openAV (nm (l++vs)))=o.map (openAV (nm l)):=fun o ho=>openOp_congr o fun i h2=>nm_app (ltAll_spec hi i (ho i h2))
  rw[←openAV_ext hi (fun i hi=>by simp[inF,hi]),key lo (fun i hi=>by simp[inF,hi]),key hi_ (fun i hi=>by simp[inF,hi]),e3];exact h1
 |conv s t u r=>
  simp only[sayK,convK] at h
  obtain⟨w,⟨h1,h2⟩,h3⟩:=theK_some h
  obtain⟨e1,e2⟩:=mtA_spec h3 hn h2
  refine⟨e1,?_,e1.good hg⟩
  obtain⟨vs,rfl⟩:=e1.e
  have e3:=e2 []
  rw[List.append_nil] at e3
  show ConvOk P s t _ _
  rw[←openAV_ext hi (fun i hi=>by simp[inF,hi]),e3];exact h1
 |un o u r=>
  simp only[sayK,unK] at h
  obtain⟨w,⟨h1,h2⟩,h3⟩:=theK_some h
  obtain⟨e1,e2⟩:=mtA_spec h3 hn h2
  refine⟨e1,?_,e1.good hg⟩
  obtain⟨vs,rfl⟩:=e1.e
  have e3:=e2 []
  rw[List.append_nil] at e3
  show UnOk P o _ _
  rw[←openAV_ext hi (fun i hi=>by simp[inF,hi]),e3];exact h1
 |app t s x j=>
  simp only[sayK,appK] at h
  obtain⟨w,⟨h1,h2⟩,h3⟩:=theK_some h
  obtain⟨e1,e2⟩:=mt1_spec h3 hn h2
  obtain⟨vs,rfl⟩:=e1.e
  have e3:=e2 []
  rw[List.append_nil,openPV] at e3
  refine⟨e1,?_,?_⟩
  ·refine app_rel ?_
   show AppOk P t _ _ _
   rw[←openAV_ext hi (fun i hi=>by simp[inF,hi]),←openAV_ext hi (fun i hi=>by simp[inF,hi]),e3];exact h1
  ·intro i hi2
   rcases List.mem_cons.1 hi2 with rfl|hi2
   ·rw[e3]
    obtain⟨e,sz,by_,zc,es,es',_,_,_,_,_,_,_,_,_,_,k1,_,k2⟩:=h1
    rw[k2]
    show (es++es').length<symBase
    rw[List.length_append];unfold symBase;omega
   ·exact e1.good hg i hi2
 |app0 t s x=>
  simp only[sayK] at h
  unfold app0K at h
  split at h
  ·rename_i h1;cases h;exact⟨⟨⟨[],by simp⟩,rfl,hn⟩,h1,hg⟩
  ·cases h
 |names=>cases h;exact⟨⟨⟨[],by simp⟩,rfl,hn⟩,trivial,hg⟩
 |mx mn u v r=>
  simp only[sayK,mxK] at h
  obtain⟨w,⟨h1,h2⟩,h3⟩:=theK_some h
  obtain⟨e1,e2⟩:=mtA_spec h3 hn h2
  refine⟨e1,?_,e1.good hg⟩
  obtain⟨vs,rfl⟩:=e1.e
  have e3:=e2 []
  rw[List.append_nil] at e3
  show MxOk P mn _ _ _
  rw[←openAV_ext hi (fun i hi=>by simp[inF,hi]),←openAV_ext hi (fun i hi=>by simp[inF,hi]),e3];exact h1
 |apq t s x j=>
  simp only[sayK,appK] at h
  obtain⟨w,⟨h1,h2⟩,h3⟩:=theK_some h
  obtain⟨e1,e2⟩:=mt1_spec h3 hn h2
  obtain⟨vs,rfl⟩:=e1.e
  have e3:=e2 []
  rw[List.append_nil,openPV] at e3
  refine⟨e1,⟨?_,by rw[e3];exact nsP_of h2⟩,?_⟩
  ·show AppOk P t _ _ _
   rw[←openAV_ext hi (fun i hi=>by simp[inF,hi]),←openAV_ext hi (fun i hi=>by simp[inF,hi]),e3];exact h1
  ·intro i hi2
   rcases List.mem_cons.1 hi2 with rfl|hi2
   ·rw[e3]
    obtain⟨e,sz,by_,zc,es,es',_,_,_,_,_,_,_,_,_,_,k1,_,k2⟩:=h1
    rw[k2]
    show (es++es').length<symBase
    rw[List.length_append];unfold symBase;omega
   ·exact e1.good hg i hi2
 |mk t m j=>
  simp only[sayK,mkK] at h
  obtain⟨w,⟨h1,h2⟩,h3⟩:=theK_some h
  obtain⟨e1,e2⟩:=mt1_spec h3 hn h2
  obtain⟨vs,rfl⟩:=e1.e
  have e3:=e2 []
  rw[List.append_nil,openPV] at e3
  refine⟨e1,?_,?_⟩
  ·show MkOk P t _ _
   rw[←openAV_ext hi (fun i hi=>by simp[inF,hi]),e3];exact h1
  ·intro i hi2
   rcases List.mem_cons.1 hi2 with rfl|hi2
   ·rw[e3]
    obtain⟨e,sz,by_,zc,z,k,_,_,_,_,_,_,_,_,k1,_,k2,_⟩:=h1
    rw[k2]
    show (List.replicate k z).length<symBase
    rw[List.length_replicate];unfold symBase;omega
   ·exact e1.good hg i hi2
 |set p a o c j=>
  simp only[sayK,setK] at h
  obtain⟨w,⟨h1,h2⟩,h3⟩:=theK_some h
  obtain⟨e1,e2⟩:=mt1_spec h3 hn h2
  obtain⟨vs,rfl⟩:=e1.e
  have e3:=e2 []
  rw[List.append_nil,openPV] at e3
  have hp:=openPV_ext (vs:=vs) (a:=p) hi (fun i hi=>by simp[inF,hi])
  have ha:=openPV_ext (vs:=vs) (a:=a) hi (fun i hi=>by simp[inF,hi])
  have hc:=openPs_extm (vs:=vs) (ps:=c) hi (fun i hi=>by simp[inF,hi])
  refine⟨e1,?_,?_⟩
  ·show SetOk _ _ o _ _
   rw[←hp,←ha,←hc,e3];exact h1
  ·have key:∀i,p=.sym i→hasN sh i=true→short (nm (l++vs) j):=by
    intro i hpi hh
    have hs:=e1.good hg i (hasN_mem hh)
    subst hpi
    obtain⟨es,n,kd,k1,_,_,_,_,k2,_⟩:=h1
    rw[hp,openPV] at k1
    rw[e3,k2]
    rw[k1] at hs
    show (es.set _ _).length<symBase
    rw[List.length_set];exact hs
   cases p with
   |sym i=>
    simp only[shF]
    cases hh:hasN sh i with
    |true=>
     intro i2 hi2
     rcases List.mem_cons.1 hi2 with rfl|hi2
     ·exact key i rfl hh
     ·exact e1.good hg i2 hi2
    |false=>exact e1.good hg
   |_=>exact e1.good hg
section
variable(P:Program)(S:Nat→List Shape)(E:Nat→Ent)(T:Nat→Et)
def SemQ(q:Q)(r:Rs):Prop:=match(E q.k).lp with
 |none=>Sem P (E q.k).f (openAVs (nm q.xs) (E q.k).args) (openH (nm q.xs) (E q.k).h) (openAV (nm r.2) (shp S E q.k r.1).v) (openH (nm r.2) (shp S E q.k r.1).h)
 |some (id,m0)=>∀fn,P.funcs[(E q.k).f]? = some fn→LoopS P fn id m0 (openE (nm q.xs) (E q.k).e) (openH (nm q.xs) (E q.k).h) (shp S E q.k r.1).ex (openE (nm r.2) (shp S E q.k r.1).e) (openH (nm r.2) (shp S E q.k r.1).h)
structure Pre(q:Q):Prop where
 n:q.xs.length=(E q.k).n
 ns:NSL q.xs
 g:Good (nm q.xs) (E q.k).rin
structure Pst(fam:Nat)(r:Rs):Prop where
 s:r.1<(S fam).length
 n:r.2.length=(nth dSh (S fam) r.1).m
 ns:NSL r.2
 g:Good (nm r.2) (nth dSh (S fam) r.1).rw
end
theorem goodPs_ok{l ps:List PV}{sh:List Nat}(hg:Good (nm l) sh):∀{rin:List Nat},goodPs ps sh rin=true→Good (nm (openPs (nm l) ps)) rin
 |[],_,i,hi=>by cases hi
 |j::r,h,i,hi=>by
  rw[goodPs,Bool.and_eq_true] at h
  rcases List.mem_cons.1 hi with rfl|hi
  ·rw[nm_open]
   have h1:=h.1
   unfold goodP at h1
   split at h1
   ·rename_i j hj;rw[hj,openPV];exact hg j (hasN_mem h1)
   ·rename_i es hj
    rw[hj,openPV]
    have:es.length<1000:=Nat.le_of_ble_eq_true h1
    show (openPss (nm l) es).length<symBase
    rw[openPss_eq,List.length_map];unfold symBase;omega
   ·cases h1
  ·exact goodPs_ok hg h.2 i hi
theorem shL_ok{l:List PV}{pats:List PV}:∀{rw_:List Nat},Good (nm (openPs (nm l) pats)) rw_→Good (nm l) (shL pats rw_)
 |[],_,i,hi=>by cases hi
 |j::r,h,i,hi=>by
  have h1:Good (nm (openPs (nm l) pats)) r:=fun k hk=>h k (List.mem_cons_of_mem _ hk)
  rw[shL] at hi
  split at hi
  ·rename_i k hk
   rcases List.mem_cons.1 hi with rfl|hi
   ·have:=h j (List.mem_cons_self ..)
    rwa [nm_open,hk,openPV] at this
   ·exact shL_ok h1 i hi
  ·exact shL_ok h1 i hi
theorem openPs_len(R:Nat→PV)(ps:List PV):(openPs R ps).length=ps.length:=by rw[openPs_eq,List.length_map]
theorem openH_len(R:Nat→PV)(h:List AObj):(openH R h).length=h.length:=by rw[openH_eq,List.length_map]
theorem openPs_ext{l vs:List PV}{ps:List PV}(h:ltAll l.length (namesPs ps)=true):openPs (nm (l++vs)) ps=openPs (nm l) ps:=
 openPs_congr ps fun i hi=>nm_app (ltAll_spec h i hi)
section
variable{P:Program}{S:Nat→List Shape}{E:Nat→Ent}{T:Nat→Et}
structure TabsOk(P:Program)(S:Nat→List Shape)(E:Nat→Ent):Prop where
 e:∀k,entOk (E k)=true
 s:∀f s,shOk (nth dSh (S f) s)=true
 lp:∀k id m0 fn,(E k).lp=some (id,m0)→P.funcs[(E k).f]? = some fn→isLoop1 (subs id (bodyOf fn))=true
def outO(S:Nat→List Shape)(cur:Ent)(r:Rs):Out:=match cur.lp with
 |none=>.ret (openAV (nm r.2) (nth dSh (S cur.fam) r.1).v) (openH (nm r.2) (nth dSh (S cur.fam) r.1).h)
 |some _=>.code (nth dSh (S cur.fam) r.1).ex (openE (nm r.2) (nth dSh (S cur.fam) r.1).e) (openH (nm r.2) (nth dSh (S cur.fam) r.1).h)
def Leaf(S:Nat→List Shape)(E:Nat→Ent)(O:Q→Option Rs)(cur:Ent)(o:Out)(r:Rs):Prop:=
 (Pst S cur.fam r∧o=outO S cur r)∨∃q,O q=some r∧Pre E q∧isLp (E q.k).lp cur.lp=true∧(E q.k).f=cur.f∧(E q.k).fam=cur.fam∧o=.code .normal (openE (nm q.xs) (E q.k).e) (openH (nm q.xs) (E q.k).h)
theorem wfQ_ok{l ps:List PV}{sh:List Nat}{q:Nat}(h:wfQ E q ps l.length sh=true)(hn:NSL l)(hg:Good (nm l) sh):Pre E ⟨q,openPs (nm l) ps⟩∧ltAll l.length (namesPs ps)=true:=by
 unfold wfQ at h
 simp only[Bool.and_eq_true] at h
 exact⟨⟨by rw[openPs_len];exact Nat.eq_of_beq_eq_true h.1.1,openPs_ns hn.nm ps,goodPs_ok hg h.2⟩,h.1.2⟩
theorem run_den{O:Q→Option Rs}{cur:Ent}{fn:Func}(ht:TabsOk P S E)(hfn:P.funcs[cur.f]? = some fn)(hO:∀q r,O q=some r→Pre E q→SemQ P S E q r∧Pst S (E q.k).fam r) :
  ∀(t:Et) (l:List PV) (sh:List Nat) (r:Rs),run P O t l=.ok r→wfE S E cur t l.length sh=true→NSL l→Good (nm l) sh→∃o,Den P fn (erase S E cur t l.length) l o∧Leaf S E O cur o r
 |.say f k,l,sh,r,hr,hw,hn,hg=>by
  rw[wfE,Bool.and_eq_true] at hw
  rw[run,sayK_get] at hr
  split at hr
  ·cases hr
  ·rename_i l' hl
   obtain⟨e1,e2,e3⟩:=sayK_spec hl hn hw.1 hg
   rw[←e1.n] at hw
   obtain⟨o,h1,h2⟩:=run_den ht hfn hO k l' _ r hr hw.2 e1.ns e3
   refine⟨o,?_,h2⟩
   rw[erase,Den]
   obtain⟨vs,q1,q2,q3⟩:=e1.rest
   subst q1
   refine exN_intro q2 q3 ⟨e2,?_⟩
   rwa [e1.n] at h1
 |.alt a b,l,sh,r,hr,hw,hn,hg=>by
  rw[wfE,Bool.and_eq_true] at hw
  rw[run] at hr
  rw[erase]
  cases ha:run P O a l with
  |bot=>rw[ha] at hr;cases hr
  |fail=>
   rw[ha] at hr
   obtain⟨o,h1,h2⟩:=run_den ht hfn hO b l sh r hr hw.2 hn hg
   exact⟨o,.inr h1,h2⟩
  |ok r'=>
   rw[ha] at hr
   cases hr
   obtain⟨o,h1,h2⟩:=run_den ht hfn hO a l sh r ha hw.1 hn hg
   exact⟨o,.inl h1,h2⟩
 |.call q ps s pats k,l,sh,r,hr,hw,hn,hg=>by
  rw[wfE,Bool.and_eq_true,Bool.and_eq_true,Bool.and_eq_true] at hw
  obtain⟨⟨⟨w1,w2⟩,w3⟩,w4⟩:=hw
  rw[run] at hr
  obtain⟨p1,p2⟩:=wfQ_ok w1 hn hg
  cases ho:O ⟨q,openPs (nm l) ps⟩ with
  |none=>rw[ho] at hr;cases hr
  |some r1=>
   obtain⟨s1,ys⟩:=r1
   rw[ho] at hr
   simp only[callK] at hr
   cases hb:Nat.beq s1 s with
   |false=>rw[hb] at hr;cases hr
   |true=>
    have hs:=Nat.eq_of_beq_eq_true hb
    subst hs
    rw[hb] at hr
    simp only at hr
    rw[mtK_get] at hr
    split at hr
    ·cases hr
    ·rename_i l' hl
     obtain⟨g1,g2⟩:=hO _ _ ho p1
     have g2':Pst S (E q).fam (s1,ys):=g2
     obtain⟨e1,e2⟩:=mtK_spec hl hn g2'.ns
     have e2:=e2 []
     rw[List.append_nil] at e2
     obtain⟨vs,q1,q2,q3⟩:=e1.rest
     have hgp:Good (nm (openPs (nm l') pats)) (shp S E q s1).rw:=by rw[e2];exact g2'.g
     have hg':Good (nm l') (shL pats (shp S E q s1).rw++sh):=by
      intro i hi
      rcases List.mem_append.1 hi with hi|hi
      ·exact shL_ok hgp i hi
      ·exact e1.good hg i hi
     rw[←e1.n] at w4
     obtain⟨o,h1,h2⟩:=run_den ht hfn hO k l' _ r hr w4 e1.ns hg'
     refine⟨o,?_,h2⟩
     rw[e1.n] at h1
     have hps:openPs (nm l') ps=openPs (nm l) ps:=by rw[q1];exact openPs_ext p2
     have hgi:Good (nm (openPs (nm l') ps)) (E q).rin:=by rw[hps];exact p1.g
     have ce:=ht.e q
     have cs:shOk (shp S E q s1)=true:=ht.s (E q).fam s1
     unfold entOk at ce
     unfold shOk at cs
     simp only[Bool.and_eq_true] at ce cs
     obtain⟨⟨c1,c2⟩,c3⟩:=ce
     obtain⟨⟨⟨d1,d2⟩,d3⟩,d4⟩:=cs
     have a2:=suH_ok hgi _ c2
     have a5:=suH_ok hgp _ d2
     rw[hps] at a2
     rw[e2] at a5
     unfold SemQ at g1
     simp only at g1
     rw[erase]
     cases hlp:(E q).lp with
     |none=>
      rw[hlp] at g1
      simp only at g1 ⊢
      rw[Den]
      subst q1
      refine exN_intro q2 q3 ⟨⟨?_,a2.2,a5.2⟩,h1⟩
      have a1:=(subAs_ok hgi _ c1).1
      have a4:=(subA_ok hgp _ d1).1
      rw[hps] at a1
      rw[e2] at a4
      simp only
      rw[a1,a2.1,a4,a5.1]
      exact g1
     |some idm=>
      obtain⟨id,m0⟩:=idm
      rw[hlp] at g1 w3
      simp only[Bool.and_eq_true] at g1 w3 ⊢
      rw[Den]
      subst q1
      refine exN_intro q2 q3 ⟨⟨?_,a2.2,a5.2⟩,h1⟩
      have hf:=Nat.eq_of_beq_eq_true w3.1
      have hm:=Nat.eq_of_beq_eq_true w3.2
      have hfn':P.funcs[(E q).f]? = some fn:=by rw[hf];exact hfn
      have g3:=g1 fn hfn'
      have hlo:=ht.lp q id m0 fn hlp hfn'
      have a1:=(subE_ok hgi _ c3).1
      have a4:=(subE_ok hgp _ d3).1
      rw[hps] at a1
      rw[e2] at a4
      have hno:∀x∈openH (nm (openPs (nm l) ps)) (E q).h,NSO x:=by
       rw[←a2.1]
       exact openH_ns e1.ns.nm _ a2.2
      simp only
      rw[a1,a2.1,a4,a5.1]
      rw[←hm,←openH_len (nm (openPs (nm l) ps))] at g3
      revert g3 d4
      change (!(badX (shp S E q s1).ex))=true→_
      cases(shp S E q s1).ex with
      |normal=>intro d4;cases d4
      |ret=>intro _ g3;exact LoopS.blockRet hlo hno g3
      |pan=>intro _ g3;exact LoopS.blockPan hlo hno g3
      |exit j=>
       intro _ g3
       unfold bex
       cases hj:Nat.beq j id with
       |true=>
        have:=Nat.eq_of_beq_eq_true hj
        subst this
        simp only[Nat.beq_refl]
        exact LoopS.block hlo hno g3
       |false=>simp only[hj];exact LoopS.blockOut (fun e=>by rw[e,Nat.beq_refl] at hj;cases hj) hlo hno g3
 |.out s ps,l,sh,r,hr,hw,hn,hg=>by
  rw[run] at hr
  cases hr
  rw[wfE,Bool.and_eq_true,Bool.and_eq_true,Bool.and_eq_true] at hw
  obtain⟨⟨⟨w0,w1⟩,w2⟩,w3⟩:=hw
  have hgp:=goodPs_ok hg w3
  refine⟨outO S cur (s,openPs (nm l) ps),?_,.inl ⟨⟨Nat.le_of_ble_eq_true w0,?_,openPs_ns hn.nm ps,hgp⟩,rfl⟩⟩
  ·have cs:=ht.s cur.fam s
   unfold shOk at cs
   simp only[Bool.and_eq_true] at cs
   obtain⟨⟨⟨d1,d2⟩,d3⟩,_⟩:=cs
   have a1:=subA_ok hgp _ d1
   have a2:=suH_ok hgp _ d2
   have a3:=subE_ok hgp _ d3
   rw[erase]
   unfold outO
   cases hlp:cur.lp with
   |none=>simp only;rw[Den];exact⟨by rw[a1.1,a2.1],a1.2,a2.2⟩
   |some _=>simp only;rw[Den];exact⟨by rw[a3.1,a2.1],a3.2,a2.2⟩
  ·rw[openPs_len];exact Nat.eq_of_beq_eq_true w1
 |.goto q ps,l,sh,r,hr,hw,hn,hg=>by
  rw[run] at hr
  rw[wfE,Bool.and_eq_true,Bool.and_eq_true,Bool.and_eq_true] at hw
  obtain⟨⟨⟨w1,w2⟩,w3⟩,w4⟩:=hw
  obtain⟨p1,p2⟩:=wfQ_ok w1 hn hg
  cases ho:O ⟨q,openPs (nm l) ps⟩ with
  |none=>rw[ho] at hr;cases hr
  |some r1=>
   rw[ho] at hr
   cases hr
   refine⟨_,?_,.inr ⟨_,ho,p1,w2,Nat.eq_of_beq_eq_true w3,Nat.eq_of_beq_eq_true w4,rfl⟩⟩
   have ce:=ht.e q
   unfold entOk at ce
   simp only[Bool.and_eq_true] at ce
   obtain⟨⟨c1,c2⟩,c3⟩:=ce
   have a2:=suH_ok p1.g _ c2
   have a3:=subE_ok p1.g _ c3
   rw[erase,Den]
   exact⟨by rw[a3.1,a2.1],a3.2,a2.2⟩
 |.no _,l,sh,r,hr,hw,hn,hg=>by rw[run] at hr;cases hr
 |.ext _,l,sh,r,hr,hw,hn,hg=>by rw[wfE] at hw;cases hw
mutual
def simA:AV→Bool
 |.pv (.sym _)=>true
 |.tsym _ _=>true
 |.tup l=>simAs l
 |.agg l=>simAs l
 |_=>false
def simAs:List AV→Bool
 |[]=>true
 |a::l=>simA a&&simAs l
end
theorem nm_wkPs:∀(l:List PV) (i:Nat),nm (wkPs l) i=wkP (nm l i)
 |[],i=>by rw[wkPs];rfl
 |p::l,0=>by rw[wkPs];rfl
 |p::l,i+1=>by rw[wkPs];exact nm_wkPs l i
theorem wkPs_len:∀(l:List PV),(wkPs l).length=l.length
 |[]=>rfl
 |p::l=>by rw[wkPs,List.length_cons,List.length_cons,wkPs_len l]
theorem wkP_ns{p:PV}(h:NS p):NS (wkP p):=by
 unfold wkP
 split
 ·exact .rows _ fun c hc=>by cases hc
 ·exact h
theorem wdPs_ns{l:List PV}(h:NSL l):NSL (wdPs l):=fun p hp=>by
 rw[wdPs_eq] at hp
 obtain⟨p',hp',rfl⟩:=List.mem_map.1 hp
 exact wdP_ns (h p' hp')
theorem wkPs_ns:∀{l:List PV},NSL l→NSL (wkPs l)
 |[],_=>by rw[wkPs];exact NSL.nil
 |p::l,h=>by
  rw[wkPs]
  exact NSL.cons (wkP_ns (h p (List.mem_cons_self ..))) (wkPs_ns fun q hq=>h q (List.mem_cons_of_mem _ hq))
section
variable{ys:List PV}{rw_:List Nat}(hg:Good (nm ys) rw_)
include hg
mutual
theorem wkSh_ok:∀a,simA a=true→covA rw_ a=true→openAV (nm (wkPs ys)) (wk a)=wk (openAV (nm ys) a)∧refs (wk (openAV (nm ys) a))=[]
 |.pv p,h,_=>by
  cases p with
  |sym i=>rw[wk,show wkP (.sym i)=.sym i from rfl,openAV,openAV,openPV,openPV,wk,nm_wkPs];exact⟨rfl,rfl⟩
  |_=>simp[simA] at h
 |.tsym t i,_,hc=>by
  rw[covA] at hc
  obtain⟨es,e1,_⟩:=short_rows (hg i (hasN_mem hc))
  rw[wk,openAV,openAV,e1,openPV,nm_wkPs,e1]
  simp only
  rw[wk];exact⟨rfl,rfl⟩
 |.tup l,h,hc=>by
  have:=wkShs_ok l (by rw[simA] at h;exact h) (by rw[covA] at hc;exact hc)
  rw[wk,openAV,openAV,wk,this.1];exact⟨rfl,by rw[refs];exact this.2⟩
 |.agg l,h,hc=>by
  have:=wkShs_ok l (by rw[simA] at h;exact h) (by rw[covA] at hc;exact hc)
  rw[wk,openAV,openAV,wk,this.1];exact⟨rfl,by rw[refs];exact this.2⟩
 |.trows _ _,h,_=>by simp[simA] at h
 |.ptr _ _,h,_=>by simp[simA] at h
 |.cptr _,h,_=>by simp[simA] at h
 |.fn _ _,h,_=>by simp[simA] at h
 |.sl _ _ _ _,h,_=>by simp[simA] at h
 |.ifc _ _,h,_=>by simp[simA] at h
 |.arr _,h,_=>by simp[simA] at h
 |.aptr _ _ _,h,_=>by simp[simA] at h
theorem wkShs_ok:∀a,simAs a=true→covAs rw_ a=true→openAVs (nm (wkPs ys)) (wks a)=wks (openAVs (nm ys) a)∧refsL (wks (openAVs (nm ys) a))=[]
 |[],_,_=>by rw[wks,openAVs,openAVs,wks];exact⟨rfl,rfl⟩
 |a::l,h,hc=>by
  rw[simAs,Bool.and_eq_true] at h
  rw[covAs,Bool.and_eq_true] at hc
  have h1:=wkSh_ok a h.1 hc.1
  have h2:=wkShs_ok l h.2 hc.2
  rw[wks,openAVs,openAVs,wks,h1.1,h2.1];exact⟨rfl,by rw[refsL,h1.2,h2.2];rfl⟩
end
end
structure BaseOk(S:Nat→List Shape)(E:Nat→Ent)(k b:Nat):Prop where
 wm:(E k).wm=[]
 lp:(E k).lp=none
 lpb:(E b).lp=none
 f:(E k).f=(E b).f
 a:(E k).args=(E b).args
 h:(E k).h=[]
 hb:(E b).h=[]
 n:(E k).n=(E b).n
 r:(E k).rin=(E b).rin
 len:0<(S (E k).fam).length
 sh:∀s,s<(S (E b).fam).length→simA (nth dSh (S (E b).fam) s).v=true∧wk (nth dSh (S (E b).fam) s).v=(nth dSh (S (E k).fam) 0).v∧(nth dSh (S (E b).fam) s).m=(nth dSh (S (E k).fam) 0).m
 sh0:(nth dSh (S (E k).fam) 0).h=[]∧(nth dSh (S (E k).fam) 0).rw=[]
structure BaseD(S:Nat→List Shape)(E:Nat→Ent)(k b:Nat):Prop where
 wm:(E k).wm=[]
 lp:(E k).lp=none
 lpb:(E b).lp=none
 f:(E k).f=(E b).f
 a:(E k).args=(E b).args
 h:∃x,(E k).h=[x]
 hb:(E b).h=(E k).h
 n:(E k).n=(E b).n
 r:(E k).rin=(E b).rin
 len:0<(S (E k).fam).length
 sh:∃ty cs,(nth dSh (S (E k).fam) 0).h=[.box ty cs]∧symsB cs=true∧∀s,s<(S (E b).fam).length→simA (nth dSh (S (E b).fam) s).v=true∧wk (nth dSh (S (E b).fam) s).v=(nth dSh (S (E k).fam) 0).v∧(nth dSh (S (E b).fam) s).m=(nth dSh (S (E k).fam) 0).m∧∃r,(nth dSh (S (E b).fam) s).h=.box ty cs::r
 ps:psA (nth dSh (S (E k).fam) 0).v=true
 rw0:(nth dSh (S (E k).fam) 0).rw=[]
structure BaseM(S:Nat→List Shape)(E:Nat→Ent)(k b:Nat):Prop where
 wm:∃x l,(E k).wm=x::l
 lp:(E k).lp=none
 lpb:(E b).lp=none
 f:(E k).f=(E b).f
 a:(E k).args=(E b).args
 h:∃x,(E k).h=[x]
 hb:(E b).h=(E k).h
 n:(E k).n=(E b).n
 r:(E k).rin=(E b).rin
 len:0<(S (E k).fam).length
 sh:∃ty cs,(nth dSh (S (E k).fam) 0).h=[.box ty cs]∧symsB cs=true∧∀s,s<(S (E b).fam).length→nth 0 (E k).wm s=0→simA (nth dSh (S (E b).fam) s).v=true∧wk (nth dSh (S (E b).fam) s).v=(nth dSh (S (E k).fam) 0).v∧(nth dSh (S (E b).fam) s).m=(nth dSh (S (E k).fam) 0).m∧∃r,(nth dSh (S (E b).fam) s).h=.box ty cs::r
 ps:psA (nth dSh (S (E k).fam) 0).v=true
 rw0:(nth dSh (S (E k).fam) 0).rw=[]
 sj:∀s,s<(S (E b).fam).length→∀j,nth 0 (E k).wm s=j+1→j+1<(S (E k).fam).length∧nth dSh (S (E b).fam) s=nth dSh (S (E k).fam) (j+1)
def RuleOk(P:Program)(S:Nat→List Shape)(E:Nat→Ent)(T:Nat→Et)(k:Nat):Prop:=match(E k).base with
 |some b=>BaseOk S E k b∨BaseD S E k b∨BaseM S E k b
 |none=>(∃g,T k=.ext g∧∀l r,Pre E ⟨k,l⟩→g l=some r→SemQ P S E ⟨k,l⟩ r∧Pst S (E k).fam r)∨∃fn,P.funcs[(E k).f]? = some fn∧wfE S E (E k) (T k) (E k).n (E k).rin=true∧match(E k).lp with
  |none=>∀l v h',l.length=(E k).n→NSL l→TsAs (nm l) (E k).args→TsH (nm l) (E k).h→Den P fn (erase S E (E k) (T k) (E k).n) l (.ret v h')→Sem P (E k).f (openAVs (nm l) (E k).args) (openH (nm l) (E k).h) v h'
  |some (id,m0)=>∀l ex e' h',l.length=(E k).n→NSL l→TsE (nm l) (E k).e→TsH (nm l) (E k).h→Den P fn (erase S E (E k) (T k) (E k).n) l (.code ex e' h')→∀R,CodeB R P fn.ntmps (lb fn id) m0 (openE (nm l) (E k).e) (openH (nm l) (E k).h) ex e' h'
theorem ts_self{l:List PV}{rin:List Nat}(hg:Good (nm l) rin) :
  (∀a,covA rin a=true→TsA (nm l) a)∧(∀a,covAs rin a=true→TsAs (nm l) a):=by
 constructor
 ·intro a
  exact AV.rec (motive_1:=fun a=>covA rin a=true→TsA (nm l) a) (motive_2:=fun a=>covAs rin a=true→TsAs (nm l) a)
   (fun _ _=>by rw[TsA];trivial) (fun _ _ _=>by rw[TsA];trivial) (fun t i h=>by rw[covA] at h;obtain⟨es,e,_⟩:=short_rows (hg i (hasN_mem h));rw[TsA,e];trivial)
   (fun _ _ _=>by rw[TsA];trivial) (fun _ _=>by rw[TsA];trivial) (fun _ ih h=>by rw[TsA];exact ih (by rw[covA] at h;exact h)) (fun _ ih h=>by rw[TsA];exact ih (by rw[covA] at h;exact h))
   (fun _ _ ih h=>by rw[TsA];exact ih (by rw[covA] at h;exact h)) (fun _ _ _ _ _=>by rw[TsA];trivial) (fun _ _ ih h=>by rw[TsA];exact ih (by rw[covA] at h;exact h)) (fun _ _=>by rw[TsA];trivial) (fun _ _ _ _=>by rw[TsA];trivial)
   (fun _=>by rw[TsAs];trivial) (fun _ _ i1 i2 h=>by rw[covAs,Bool.and_eq_true] at h;rw[TsAs];exact⟨i1 h.1,i2 h.2⟩) a
 ·intro a
  exact AV.rec_1 (motive_1:=fun a=>covA rin a=true→TsA (nm l) a) (motive_2:=fun a=>covAs rin a=true→TsAs (nm l) a)
   (fun _ _=>by rw[TsA];trivial) (fun _ _ _=>by rw[TsA];trivial) (fun t i h=>by rw[covA] at h;obtain⟨es,e,_⟩:=short_rows (hg i (hasN_mem h));rw[TsA,e];trivial)
   (fun _ _ _=>by rw[TsA];trivial) (fun _ _=>by rw[TsA];trivial) (fun _ ih h=>by rw[TsA];exact ih (by rw[covA] at h;exact h)) (fun _ ih h=>by rw[TsA];exact ih (by rw[covA] at h;exact h))
   (fun _ _ ih h=>by rw[TsA];exact ih (by rw[covA] at h;exact h)) (fun _ _ _ _ _=>by rw[TsA];trivial) (fun _ _ ih h=>by rw[TsA];exact ih (by rw[covA] at h;exact h)) (fun _ _=>by rw[TsA];trivial) (fun _ _ _ _=>by rw[TsA];trivial)
   (fun _=>by rw[TsAs];trivial) (fun _ _ i1 i2 h=>by rw[covAs,Bool.and_eq_true] at h;rw[TsAs];exact⟨i1 h.1,i2 h.2⟩) a
theorem tsO_self{l:List PV}{rin:List Nat}(hg:Good (nm l) rin)(x:AObj)(h:covO rin x=true):TsO (nm l) x:=by
 cases x with
 |box t r=>exact(ts_self hg).2 r h
 |arr=>trivial
 |dead=>trivial
 |tok t s n=>
  show dl (nm l) n<symBase
  rw[covO] at h
  cases hb:Nat.blt n symBase with
  |true=>rw[dl_small (Nat.le_of_ble_eq_true hb)];exact Nat.le_of_ble_eq_true hb
  |false=>
   rw[hb] at h
   have hn:¬n<symBase:=fun hlt=>by rw[Nat.blt,Nat.ble_eq_true_of_le hlt] at hb;cases hb
   obtain⟨es,e,h2⟩:=short_rows (hg _ (hasN_mem h))
   unfold dl
   rw[if_neg hn,e];exact h2
theorem tsH_self{l:List PV}{rin:List Nat}(hg:Good (nm l) rin):∀h,covH rin h=true→TsH (nm l) h
 |[],_=>trivial
 |x::r,h=>by
  rw[covH,Bool.and_eq_true] at h
  exact⟨tsO_self hg x h.1,tsH_self hg r h.2⟩
theorem tsE_self{l:List PV}{rin:List Nat}(hg:Good (nm l) rin):∀e,covE rin e=true→TsE (nm l) e
 |[],_=>trivial
 |(d,a)::r,h=>by
  rw[covE,Bool.and_eq_true] at h
  exact⟨(ts_self hg).1 a h.1,tsE_self hg r h.2⟩
theorem isLp_eq{a b:Option (Nat×Nat)}(h:isLp a b=true):a=b:=by
 unfold isLp at h
 split at h
 ·rw[Bool.and_eq_true] at h
  rw[Nat.eq_of_beq_eq_true h.1,Nat.eq_of_beq_eq_true h.2]
 ·cases h
theorem EvR.sound{N:Nat}(ht:TabsOk P S E)(hr:∀k,k<N→RuleOk P S E T k)(hN:∀k,N≤k→(E k).base=none∧T k=etNo){q:Q}{r:Rs}(h:EvR P E T q r):Pre E q→SemQ P S E q r∧Pst S (E q.k).fam r:=by
 induction h with
 |mk q r O hO h ih=>
  intro hp
  unfold body at h
  have hk:q.k<N:=by
   by_cases hk:q.k<N
   ·exact hk
   ·exfalso
    obtain⟨n1,n2⟩:=hN q.k (by omega)
    rw[n1,n2] at h
    simp only[etNo,run] at h
    cases h
  have hrk:=hr q.k hk
  unfold RuleOk at hrk
  cases hb:(E q.k).base with
  |some b=>
   rw[hb] at h hrk
   simp only at h hrk
   cases ho:O ⟨b,q.xs⟩ with
   |none=>
    rw[ho] at h
    split at h
    ·split at h<;>cases h
    ·cases h
   |some r1=>
    obtain⟨s,ys⟩:=r1
    rw[ho] at h
    rcases hrk with hrk|hrk|hrk
    ·rw[hrk.wm,hrk.h] at h
     cases h
     obtain⟨g1,g2⟩:=ih _ _ ho ⟨by rw[hp.n,hrk.n],hp.ns,by show Good _ (E b).rin;rw[←hrk.r];exact hp.g⟩
     unfold SemQ at g1 ⊢
     simp only at g1 g2
     rw[hrk.lpb] at g1
     rw[hrk.lp]
     simp only at g1 ⊢
     obtain⟨c1,c2,c3⟩:=hrk.sh s g2.s
     have cs:=ht.s (E b).fam s
     unfold shOk at cs
     simp only[Bool.and_eq_true] at cs
     have k1:=wkSh_ok g2.g _ c1 cs.1.1.1
     refine⟨?_,hrk.len,?_,wkPs_ns g2.ns,?_⟩
     ·show Sem P (E q.k).f _ _ (openAV _ (nth dSh (S (E q.k).fam) 0).v) (openH _ (nth dSh (S (E q.k).fam) 0).h)
      rw[hrk.sh0.1,←c2,k1.1,hrk.f,hrk.a,hrk.h]
      rw[hrk.hb] at g1
      exact fun R=>(g1 R).forget k1.2
     ·show (wkPs ys).length=_
      rw[wkPs_len,←c3];exact g2.n
     ·show Good _ (nth dSh (S (E q.k).fam) 0).rw
      rw[hrk.sh0.2]
      exact fun i hi=>by cases hi
    ·obtain⟨x,hx⟩:=hrk.h
     rw[hrk.wm,hx] at h
     cases h
     obtain⟨g1,g2⟩:=ih _ _ ho ⟨by rw[hp.n,hrk.n],hp.ns,by show Good _ (E b).rin;rw[←hrk.r];exact hp.g⟩
     unfold SemQ at g1 ⊢
     simp only at g1 g2
     rw[hrk.lpb] at g1
     rw[hrk.lp]
     simp only at g1 ⊢
     obtain⟨ty,cs,d1,d2,d3⟩:=hrk.sh
     obtain⟨c1,c2,c3,r,c4⟩:=d3 s g2.s
     have cs':=ht.s (E b).fam s
     unfold shOk at cs'
     simp only[Bool.and_eq_true] at cs'
     have k1:=wkSh_ok g2.g _ c1 cs'.1.1.1
     refine⟨?_,hrk.len,?_,wdPs_ns g2.ns,?_⟩
     ·show Sem P (E q.k).f _ _ (openAV _ (nth dSh (S (E q.k).fam) 0).v) (openH _ (nth dSh (S (E q.k).fam) 0).h)
      have g1':Sem P (E b).f (openAVs (nm q.xs) (E b).args) (openH (nm q.xs) (E b).h) (openAV (nm ys) (nth dSh (S (E b).fam) s).v) (openH (nm ys) (nth dSh (S (E b).fam) s).h):=g1
      rw[c4,hrk.hb,hx] at g1'
      rw[d1,hrk.f,hrk.a,hx]
      obtain⟨e1,e2⟩:=symsB_ps d2
      intro R
      have g2':=(g1' R).box1 k1.2 (e2 _)
      rw[←k1.1,c2] at g2'
      exact g2'.conv hrk.ps e1 (fun i v hv=>by rw[nm_wkPs] at hv;rw[nm_wdPs,←wdP_wkP];exact hv.wd) (fun i v hv=>by rw[nm_wdPs];exact hv.wd)
     ·show (wdPs ys).length=_
      rw[wdPs_len,←c3];exact g2.n
     ·show Good _ (nth dSh (S (E q.k).fam) 0).rw
      rw[hrk.rw0]
      exact fun i hi=>by cases hi
    ·obtain⟨x,hx⟩:=hrk.h
     obtain⟨y0,y1,hy⟩:=hrk.wm
     rw[hy] at h
     simp only[weakM] at h
     obtain⟨g1,g2⟩:=ih _ _ ho ⟨by rw[hp.n,hrk.n],hp.ns,by show Good _ (E b).rin;rw[←hrk.r];exact hp.g⟩
     rw[←hy] at h
     split at h
     ·rename_i h0
      cases h
      unfold SemQ at g1 ⊢
      simp only at g1 g2
      rw[hrk.lpb] at g1
      rw[hrk.lp]
      simp only at g1 ⊢
      obtain⟨ty,cs,d1,d2,d3⟩:=hrk.sh
      obtain⟨c1,c2,c3,r,c4⟩:=d3 s g2.s h0
      have cs':=ht.s (E b).fam s
      unfold shOk at cs'
      simp only[Bool.and_eq_true] at cs'
      have k1:=wkSh_ok g2.g _ c1 cs'.1.1.1
      refine⟨?_,hrk.len,?_,wdPs_ns g2.ns,?_⟩
      ·show Sem P (E q.k).f _ _ (openAV _ (nth dSh (S (E q.k).fam) 0).v) (openH _ (nth dSh (S (E q.k).fam) 0).h)
       have g1':Sem P (E b).f (openAVs (nm q.xs) (E b).args) (openH (nm q.xs) (E b).h) (openAV (nm ys) (nth dSh (S (E b).fam) s).v) (openH (nm ys) (nth dSh (S (E b).fam) s).h):=g1
       rw[c4,hrk.hb,hx] at g1'
       rw[d1,hrk.f,hrk.a,hx]
       obtain⟨e1,e2⟩:=symsB_ps d2
       intro R
       have g2':=(g1' R).box1 k1.2 (e2 _)
       rw[←k1.1,c2] at g2'
       exact g2'.conv hrk.ps e1 (fun i v hv=>by rw[nm_wkPs] at hv;rw[nm_wdPs,←wdP_wkP];exact hv.wd) (fun i v hv=>by rw[nm_wdPs];exact hv.wd)
      ·show (wdPs ys).length=_
       rw[wdPs_len,←c3];exact g2.n
      ·show Good _ (nth dSh (S (E q.k).fam) 0).rw
       rw[hrk.rw0]
       exact fun i hi=>by cases hi
     ·rename_i j h0
      cases h
      have e0:=hrk.sj s g2.s j h0
      unfold SemQ at g1 ⊢
      simp only at g1 g2
      rw[hrk.lpb] at g1
      rw[hrk.lp]
      simp only at g1 ⊢
      refine⟨?_,e0.1,?_,g2.ns,?_⟩
      ·have g1':Sem P (E b).f (openAVs (nm q.xs) (E b).args) (openH (nm q.xs) (E b).h) (openAV (nm ys) (nth dSh (S (E b).fam) s).v) (openH (nm ys) (nth dSh (S (E b).fam) s).h):=g1
       rw[e0.2,←hrk.f,←hrk.a,hrk.hb] at g1'
       exact g1'
      ·show ys.length=_
       rw[←e0.2];exact g2.n
      ·show Good _ (nth dSh (S (E q.k).fam) (j+1)).rw
       rw[←e0.2];exact g2.g
  |none=>
   rw[hb] at h hrk
   simp only at h hrk
   rcases hrk with⟨g,hT,hx⟩|⟨fn,hfn,hw,hk⟩
   ·rw[hT] at h
    simp only[run,extK] at h
    split at h
    ·cases h
    ·rename_i r' hg
     cases h
     exact hx q.xs _ hp hg
   rw[←hp.n] at hw hk
   obtain⟨o,h1,h2⟩:=run_den ht hfn (fun q r ho hp=>ih q r ho hp) (T q.k) q.xs _ r h hw hp.ns hp.g
   have ce:=ht.e q.k
   unfold entOk at ce
   simp only[Bool.and_eq_true] at ce
   unfold SemQ
   rcases h2 with⟨p1,p2⟩|⟨q',p1,p2,p3,p4,p5,p6⟩
   ·refine⟨?_,p1⟩
    unfold outO at p2
    cases hlp:(E q.k).lp with
    |none=>
     rw[hlp] at hk p2
     simp only at hk p2 ⊢
     rw[p2] at h1
     exact hk _ _ _ rfl hp.ns ((ts_self hp.g).2 _ ce.1.1) (tsH_self hp.g _ ce.1.2) h1
    |some idm=>
     obtain⟨id,m0⟩:=idm
     rw[hlp] at hk p2
     simp only at hk p2 ⊢
     rw[p2] at h1
     intro fn' hfn'
     rw[hfn] at hfn'
     cases hfn'
     have hx:(nth dSh (S (E q.k).fam) r.1).ex≠.normal:=by
      have cs:=ht.s (E q.k).fam r.1
      unfold shOk at cs
      simp only[Bool.and_eq_true] at cs
      intro e
      rw[e] at cs
      exact absurd cs.2 (by decide)
     exact LoopS.done (hk _ _ _ _ rfl hp.ns (tsE_self hp.g _ ce.2) (tsH_self hp.g _ ce.1.2) h1) hx
   ·have hq:=ih q' r p1 p2
    have hlq:=isLp_eq p3
    refine⟨?_,by rw[←p5];exact hq.2⟩
    have g1:=hq.1
    unfold SemQ at g1
    cases hlp:(E q.k).lp with
    |none=>rw[hlp] at p3;rw[hlq,hlp] at p3;cases p3
    |some idm=>
     obtain⟨id,m0⟩:=idm
     rw[hlq,hlp] at g1
     rw[hlp] at hk
     simp only at g1 hk ⊢
     intro fn' hfn'
     rw[hfn] at hfn'
     cases hfn'
     have g2:=g1 fn (by rw[p4];exact hfn)
     rw[p6] at h1
     have g3:=hk _ _ _ _ rfl hp.ns (tsE_self hp.g _ ce.2) (tsH_self hp.g _ ce.1.2) h1
     have e:shp S E q'.k r.1=shp S E q.k r.1:=by unfold shp;rw[p5]
     rw[e] at g2
     exact LoopS.again g3 g2
theorem Evl.sound{N:Nat}(ht:TabsOk P S E)(hr:∀k,k<N→RuleOk P S E T k)(hN:∀k,N≤k→(E k).base=none∧T k=etNo){q:Q}{r:Rs}(h:Evl P E T q=some r)(hp:Pre E q):SemQ P S E q r∧Pst S (E q.k).fam r:=EvR.sound ht hr hN (Evl.iff.1 h) hp
theorem RuleOk.fn{k:Nat}{ent:Ent}{et:Et}{fn:Func}{t:Tr}(he:E k=ent)(hT:T k=et)(hb:ent.base=none)(hl:ent.lp=none)(hf:P.funcs[ent.f]? = some fn)(hw:wfE S E ent et ent.n ent.rin=true)(hr:erase S E ent et ent.n=t)
  (hd:∀l v h',l.length=ent.n→NSL l→TsAs (nm l) ent.args→TsH (nm l) ent.h→Den P fn t l (.ret v h')→Sem P ent.f (openAVs (nm l) ent.args) (openH (nm l) ent.h) v h'):RuleOk P S E T k:=by
 unfold RuleOk
 rw[he,hT,hb,hl]
 subst hr
 exact .inr ⟨fn,hf,hw,hd⟩
theorem RuleOk.ext{k:Nat}{g:List PV→Option Rs}(hb:(E k).base=none)(hT:T k=.ext g)(h:∀l r,Pre E ⟨k,l⟩→g l=some r→SemQ P S E ⟨k,l⟩ r∧Pst S (E k).fam r):RuleOk P S E T k:=by
 unfold RuleOk
 rw[hb]
 exact .inl ⟨g,hT,h⟩
theorem RuleOk.loop{k id m0:Nat}{ent:Ent}{et:Et}{fn:Func}{t:Tr}(he:E k=ent)(hT:T k=et)(hb:ent.base=none)(hl:ent.lp=some (id,m0))(hf:P.funcs[ent.f]? = some fn)(hw:wfE S E ent et ent.n ent.rin=true)(hr:erase S E ent et ent.n=t)
  (hd:∀l ex e' h',l.length=ent.n→NSL l→TsE (nm l) ent.e→TsH (nm l) ent.h→Den P fn t l (.code ex e' h')→∀R,CodeB R P fn.ntmps (lb fn id) m0 (openE (nm l) ent.e) (openH (nm l) ent.h) ex e' h'):RuleOk P S E T k:=by
 unfold RuleOk
 rw[he,hT,hb,hl]
 subst hr
 exact .inr ⟨fn,hf,hw,hd⟩
def chkSh(b w:List Shape):Bool:=match w with
 |[w0]=>w0.h.isEmpty&&w0.rw.isEmpty&&b.all fun s=>simA s.v&&eqB (wk s.v) w0.v&&Nat.beq s.m w0.m
 |_=>false
def chkD(b w:List Shape):Bool:=match w with
 |[w0]=>match w0.h with
  |[.box ty cs]=>w0.rw.isEmpty&&symsB cs&&psA w0.v&&b.all fun s=>simA s.v&&eqB (wk s.v) w0.v&&Nat.beq s.m w0.m&&(match s.h with
   |.box ty' cs'::_=>Nat.beq ty' ty&&eqBs cs' cs
   |_=>false)
  |_=>false
 |_=>false
def eqSh(a b:Shape):Bool:=match a.ex,b.ex,a.e,b.e,a.h,b.h,a.rw,b.rw with
 |.ret,.ret,[],[],[.box t1 c1],[.box t2 c2],[],[]=>eqB a.v b.v&&Nat.beq t1 t2&&eqBs c1 c2&&Nat.beq a.m b.m
 |_,_,_,_,_,_,_,_=>false
theorem eqSh_eq{a b:Shape}(h:eqSh a b=true):a=b:=by
 obtain⟨x1,v1,e1,h1,m1,r1⟩:=a
 obtain⟨x2,v2,e2,h2,m2,r2⟩:=b
 unfold eqSh at h
 split at h
 ·rename_i q1 q2 q3 q4 q5 q6 q7 q8
  simp only at q1 q2 q3 q4 q5 q6 q7 q8
  simp only[Bool.and_eq_true] at h
  obtain⟨⟨⟨g1,g2⟩,g3⟩,g4⟩:=h
  rw[q1,q2,q3,q4,q5,q6,q7,q8,eqB_eq _ _ g1,Nat.eq_of_beq_eq_true g2,eqBs_eq _ _ g3,Nat.eq_of_beq_eq_true g4]
 ·cases h
def chkS(s:Shape)(ws:List Shape)(ty:TypeId)(cs:List AV)(w0:Shape):Nat→Bool
 |0=>simA s.v&&eqB (wk s.v) w0.v&&Nat.beq s.m w0.m&&(match s.h with
   |.box ty' cs'::_=>Nat.beq ty' ty&&eqBs cs' cs
   |_=>false)
 |j+1=>decide (j+1<ws.length)&&eqSh s (nth dSh ws (j+1))
def idxAll(f:Shape→Nat→Bool):List Shape→List Nat→Bool
 |[],_=>true
 |s::l,m=>f s (nth 0 m 0)&&idxAll f l m.tail
theorem idxAll_get(f:Shape→Nat→Bool):∀(l:List Shape) (m:List Nat),idxAll f l m=true→∀s,s<l.length→f (nth dSh l s) (nth 0 m s)=true
 |[],_,_,s,hs=>by simp at hs
 |a::l,m,h,0,_=>by
  rw[idxAll,Bool.and_eq_true] at h
  exact h.1
 |a::l,m,h,s+1,hs=>by
  rw[idxAll,Bool.and_eq_true] at h
  have:=idxAll_get f l m.tail h.2 s (by simpa using hs)
  cases m with
  |nil=>exact this
  |cons x m=>exact this
def chkM(b w:List Shape)(m:List Nat):Bool:=match w with
 |w0::wl=>match w0.h with
  |[.box ty cs]=>w0.rw.isEmpty&&symsB cs&&psA w0.v&&idxAll (fun s j=>chkS s (w0::wl) ty cs w0 j) b m
  |_=>false
 |[]=>false
theorem nth_mem{α:Type}(d:α):∀(l:List α) (i:Nat),i<l.length→nth d l i∈l
 |[],_,h=>by simp at h
 |a::l,0,_=>by simp[nth]
 |a::l,i+1,h=>by rw[nth];exact List.mem_cons_of_mem _ (nth_mem d l i (by simpa using h))
theorem nth_out{α:Type}(d:α):∀(l:List α) (i:Nat),l.length≤i→nth d l i=d
 |[],_,_=>by cases ‹Nat›<;>rfl
 |a::l,0,h=>by simp at h
 |a::l,i+1,h=>by rw[nth];exact nth_out d l i (by simpa using h)
theorem RuleOk.weak{k b:Nat}{ek eb:Ent}(he:E k=ek)(hb:E b=eb)(h0:ek.base=some b)(h1:ek.lp=none)(h2:eb.lp=none)(h3:ek.f=eb.f)(h4:ek.args=eb.args)(h5:ek.h=[])(h6:eb.h=[])(h7:ek.n=eb.n)(h8:ek.rin=eb.rin)
  (hc:chkSh (S eb.fam) (S ek.fam)=true) (hw0:ek.wm=[]:=by rfl):RuleOk P S E T k:=by
 unfold RuleOk
 rw[he,h0]
 simp only
 left
 unfold chkSh at hc
 split at hc
 ·rename_i w0 hw
  simp only[Bool.and_eq_true,List.all_eq_true] at hc
  obtain⟨⟨c1,c2⟩,c3⟩:=hc
  have e0:nth dSh (S (E k).fam) 0=w0:=by rw[he,hw];rfl
  refine⟨by rw[he,hw0],by rw[he,h1],by rw[hb,h2],by rw[he,hb,h3],by rw[he,hb,h4],by rw[he,h5],by rw[hb,h6],by rw[he,hb,h7],by rw[he,hb,h8],by rw[he,hw];simp,fun s hs=>?_,?_⟩
  ·rw[e0]
   rw[hb] at hs ⊢
   obtain⟨⟨d1,d2⟩,d3⟩:=c3 _ (nth_mem dSh _ s hs)
   exact⟨d1,eqB_eq _ _ d2,Nat.eq_of_beq_eq_true d3⟩
  ·rw[e0]
   exact⟨List.isEmpty_iff.1 c1,List.isEmpty_iff.1 c2⟩
 ·cases hc
theorem RuleOk.weakM{k b:Nat}{ek eb:Ent}(he:E k=ek)(hb:E b=eb)(h0:ek.base=some b)(h1:ek.lp=none)(h2:eb.lp=none)(h3:ek.f=eb.f)(h4:ek.args=eb.args)(h5:∃x,ek.h=[x])(h6:eb.h=ek.h)(h7:ek.n=eb.n)(h8:ek.rin=eb.rin)
  (hc:chkM (S eb.fam) (S ek.fam) ek.wm=true) (hw0:∃x l,ek.wm=x::l):RuleOk P S E T k:=by
 unfold RuleOk
 rw[he,h0]
 simp only
 right;right
 unfold chkM at hc
 split at hc
 ·rename_i w0 wl hw
  split at hc
  ·rename_i ty cs hh
   simp only[Bool.and_eq_true,List.all_eq_true] at hc
   obtain⟨⟨⟨c1,c2⟩,c4⟩,c3⟩:=hc
   have e0:nth dSh (S (E k).fam) 0=w0:=by rw[he,hw];rfl
   have g0:∀s,s<(S (E b).fam).length→chkS (nth dSh (S (E b).fam) s) (S (E k).fam) ty cs w0 (nth 0 (E k).wm s)=true:=by
    intro s hs
    rw[he,hw,hb] at *
    exact idxAll_get _ _ _ c3 s hs
   refine⟨by rw[he];exact hw0,by rw[he,h1],by rw[hb,h2],by rw[he,hb,h3],by rw[he,hb,h4],by rw[he];exact h5,by rw[he,hb,h6],by rw[he,hb,h7],by rw[he,hb,h8],by rw[he,hw];simp,⟨ty,cs,by rw[e0];exact hh,c2,fun s hs hz=>?_⟩,by rw[e0];exact c4,by rw[e0];exact List.isEmpty_iff.1 c1,fun s hs j hz=>?_⟩
   ·have c:=g0 s hs
    rw[hz] at c
    unfold chkS at c
    simp only[Bool.and_eq_true] at c
    obtain⟨⟨⟨d1,d2⟩,d3⟩,d4⟩:=c
    rw[e0]
    refine⟨d1,eqB_eq _ _ d2,Nat.eq_of_beq_eq_true d3,?_⟩
    split at d4
    ·rename_i ty' cs' r e
     rw[Bool.and_eq_true] at d4
     rw[e,Nat.eq_of_beq_eq_true d4.1,eqBs_eq _ _ d4.2]
     exact⟨r,rfl⟩
    ·cases d4
   ·have c:=g0 s hs
    rw[hz] at c
    unfold chkS at c
    simp only[Bool.and_eq_true] at c
    exact⟨of_decide_eq_true c.1,eqSh_eq c.2⟩
  ·cases hc
 ·cases hc
def lpB(P:Program)(e:Ent):Bool:=match e.lp with
 |none=>true
 |some (id,_)=>match P.funcs[e.f]? with
  |none=>true
  |some fn=>isLoop1 (subs id (bodyOf fn))
theorem TabsOk.of{es:List Ent}{ss:List (List Shape)}(h1:es.all entOk=true)(h2:ss.all (fun l=>l.all shOk)=true)(h3:es.all (lpB P)=true):TabsOk P (nth [] ss) (nth dEn es):=by
 rw[List.all_eq_true] at h1 h2 h3
 refine⟨fun k=>?_,fun f s=>?_,fun k id m0 fn hl hf=>?_⟩
 ·by_cases hk:k<es.length
  ·exact h1 _ (nth_mem dEn es k hk)
  ·rw[nth_out dEn es k (by omega)];rfl
 ·by_cases hk:f<ss.length
  ·have:=h2 _ (nth_mem [] ss f hk)
   rw[List.all_eq_true] at this
   by_cases hs:s<(nth [] ss f).length
   ·exact this _ (nth_mem dSh _ s hs)
   ·rw[nth_out dSh _ s (by omega)];rfl
  ·rw[nth_out [] ss f (by omega),nth_out dSh [] s (by simp)];rfl
 ·by_cases hk:k<es.length
  ·have:=h3 _ (nth_mem dEn es k hk)
   unfold lpB at this
   rw[hl] at this
   simp only at this
   rw[hf] at this
   exact this
  ·rw[nth_out dEn es k (by omega)] at hl;cases hl
def AllK(p:Nat→Prop):Nat→Prop
 |0=>True
 |n+1=>AllK p n∧p n
theorem AllK.get{p:Nat→Prop}:∀{n:Nat},AllK p n→∀k,k<n→p k
 |0,_,k,hk=>by omega
 |n+1,h,k,hk=>by
  by_cases e:k=n
  ·rw[e];exact h.2
  ·exact h.1.get k (by omega)
end
section
variable{β:Type}
def bK(b:Bool)(x y:β):β:=match b with
 |true=>x
 |false=>y
theorem bK_true(x y:β):bK true x y=x:=rfl
theorem bK_false(x y:β):bK false x y=y:=rfl
theorem bK_same(b:Bool)(x:β):bK b x x=x:=by cases b<;>rfl
theorem bK_not(b:Bool)(x y:β):bK (!b) x y=bK b y x:=by cases b<;>rfl
theorem isK_self(d:β)(p:PV)(k:β):isK d p p k=k:=by unfold isK;rw[if_pos rfl]
theorem isK_t(d:β)(b:Bool)(k:β):isK d (.lit (.bool true)) (.lit (.bool b)) k=bK b k d:=by
 unfold isK;cases b<;>simp[bK]
theorem isK_f(d:β)(b:Bool)(k:β):isK d (.lit (.bool false)) (.lit (.bool b)) k=bK b d k:=by
 unfold isK;cases b<;>simp[bK]
theorem isK_nilr(d:β)(es:List (List PV))(k:β):isK d (.lit (.slice none 0 0)) (.rows es) k=d:=by unfold isK;simp
theorem nilK_nil(d:β)(k:β):nilK d [] k=k:=rfl
theorem nilK_cons(d:β)(y:PV)(r:List PV)(k:β):nilK d (y::r) k=d:=rfl
theorem consK_cons(d:β)(y:PV)(r:List PV)(k:PV→List PV→β):consK d (y::r) k=k y r:=rfl
theorem consK_nil(d:β)(k:PV→List PV→β):consK d [] k=d:=rfl
theorem pvK_pv(d:β)(y:PV)(k:PV→β):pvK d (.pv y) k=k y:=rfl
theorem cptrK_c(d:β)(c:List PV)(k:List PV→β):cptrK d (.cptr c) k=k c:=rfl
theorem pairK_p(d:β)(y z:PV)(k:PV→PV→β):pairK d (.tup [.pv y,.pv z]) k=k y z:=rfl
theorem theK_of{α:Type}{d:β}{p:α→Prop}{k:α→β}{w0:α}(h:∀w,p w↔w=w0):theK d p k=k w0:=by
 unfold theK
 have he:∃w,p w:=⟨w0,(h w0).2 rfl⟩
 rw[dif_pos he,(h _).1 he.choose_spec]
theorem and_iff{α:Type}{p n:α→Prop}{w0:α}(h:∀w,p w↔w=w0)(hn:n w0):∀w,(p w∧n w)↔w=w0:=fun w=>by
 constructor
 ·exact fun h1=>(h w).1 h1.1
 ·intro e;subst e;exact⟨(h w).2 rfl,hn⟩
variable{P:Program}{d:β}{k:AV→β}
theorem binK_of{b:BinOp}{t:TypeId}{u v w0:AV}(h:∀w,BinOk P b t u v w↔w=w0)(hn:NSA w0):binK P d b t u v k=k w0:=theK_of (and_iff h hn)
theorem lenK_of{t:TypeId}{u w0:AV}(h:∀w,LenOk P t u w↔w=w0)(hn:NSA w0):lenK P d t u k=k w0:=theK_of (and_iff h hn)
theorem idxK_of{t:TypeId}{u i w0:AV}(h:∀w,IdxOk P t u i w↔w=w0)(hn:NSA w0):idxK P d t u i k=k w0:=theK_of (and_iff h hn)
theorem slcK_of{t:TypeId}{u:AV}{lo hi:Option AV}{w0:AV}(h:∀w,SlcOk P t u lo hi w↔w=w0)(hn:NSA w0):slcK P d t u lo hi k=k w0:=theK_of (and_iff h hn)
theorem appK_of{t:TypeId}{s x:AV}{w0:PV}{k:PV→β}(h:∀w,AppOk P t s x w↔w=w0)(hn:NS w0):appK P d t s x k=k w0:=theK_of (and_iff h hn)
theorem nsa_lit(v:Value):NSA (.pv (.lit v)):=.pv _ (.lit v)
theorem slc_one{t:TypeId}{u:AV}{lo hi:Option AV}{w0:AV}(h:SlcOk P t u lo hi w0)(w:AV):SlcOk P t u lo hi w↔w=w0:=by
 constructor
 ·intro hw
  -- operands that stand for the bounds
  let ρ:Operand→Option AV:=fun
   |.tmp 0=>lo
   |.tmp 1=>hi
   |_=>none
  have hl:MatchO ρ (lo.map fun _=>Operand.tmp 0) lo:=by cases lo<;>simp[MatchO,ρ]
  have hh:MatchO ρ (hi.map fun _=>Operand.tmp 1) hi:=by cases hi<;>simp[MatchO,ρ]
  have h1:=hw ρ _ _ hl hh
  have h2:=h ρ _ _ hl hh
  rw[h1] at h2
  exact Option.some.inj h2
 ·rintro rfl;exact h
variable{t:TypeId}{a b:Int}
theorem binK_lss:binK P d .lss t (.pv (.lit (.int .i64 a))) (.pv (.lit (.int .i64 b))) k=k (.pv (.lit (.bool (decide (a<b))))):=binK_of (fun _=>bin_lss) (nsa_lit _)
theorem binK_gtr:binK P d .gtr t (.pv (.lit (.int .i64 a))) (.pv (.lit (.int .i64 b))) k=k (.pv (.lit (.bool (decide (b<a))))):=binK_of (fun _=>bin_gtr) (nsa_lit _)
theorem binK_geq:binK P d .geq t (.pv (.lit (.int .i64 a))) (.pv (.lit (.int .i64 b))) k=k (.pv (.lit (.bool (decide (b≤a))))):=binK_of (fun _=>bin_geq) (nsa_lit _)
theorem binK_eql:binK P d .eql t (.pv (.lit (.int .i64 a))) (.pv (.lit (.int .i64 b))) k=k (.pv (.lit (.bool (decide (a=b))))):=binK_of (fun _=>bin_eql) (nsa_lit _)
theorem binK_neq:binK P d .neq t (.pv (.lit (.int .i64 a))) (.pv (.lit (.int .i64 b))) k=k (.pv (.lit (.bool (!decide (a=b))))):=binK_of (fun _=>by rw[bin_neq];simp) (nsa_lit _)
theorem binK_add:binK P d .add t (.pv (.lit (.int .i64 a))) (.pv (.lit (.int .i64 b))) k=k (.pv (.lit (.int .i64 (IntKind.i64.wrap (a+b))))):=binK_of (fun _=>bin_add) (nsa_lit _)
theorem binK_sub:binK P d .sub t (.pv (.lit (.int .i64 a))) (.pv (.lit (.int .i64 b))) k=k (.pv (.lit (.int .i64 (IntKind.i64.wrap (a-b))))):=binK_of (fun _=>bin_sub) (nsa_lit _)
theorem binK_eqs{x y:ByteArray}:binK P d .eql t (.pv (.lit (.string x))) (.pv (.lit (.string y))) k=k (.pv (.lit (.bool (decide (x=y))))):=binK_of (fun _=>bin_eqs) (nsa_lit _)
theorem binK_nes{x y:ByteArray}:binK P d .neq t (.pv (.lit (.string x))) (.pv (.lit (.string y))) k=k (.pv (.lit (.bool (!decide (x=y))))):=binK_of (fun _=>by rw[bin_nes];simp) (nsa_lit _)
end
theorem alt_fail(a:Res):Res.alt .fail a=a:=rfl
theorem alt_fail'(a:Res):Res.alt a .fail=a:=by cases a<;>rfl
theorem alt_ok(r:Rs)(a:Res):Res.alt (.ok r) a=.ok r:=rfl
theorem alt_bK(b:Bool)(x y:Res):Res.alt (bK b x .fail) (bK b .fail y)=bK b x y:=by
 cases b
 ·rfl
 ·exact alt_fail' x
theorem alt_bK'(b:Bool)(x y:Res):Res.alt (bK b .fail x) (bK b y .fail)=bK b y x:=by
 cases b
 ·exact alt_fail' x
 ·rfl
theorem callK_some(s' s:Nat)(ys:List PV)(k:List PV→Res):callK (some (s',ys)) s k=if s'=s then k ys else .fail:=by
 unfold callK
 by_cases h:s'=s
 ·subst h;rw[if_pos rfl];simp
 ·rw[if_neg h]
  simp only
  cases hb:Nat.beq s' s with
  |true=>exact absurd (Nat.eq_of_beq_eq_true hb) h
  |false=>rfl
theorem passK_some(r:Rs):passK (some r)=.ok r:=rfl
theorem alt_passK(o:Option Rs)(x:Res):Res.alt (passK o) x=passK o:=by cases o<;>rfl
theorem weakK_some(s:Nat)(ys:List PV):weakK (some (s,ys))=.ok (0,wkPs ys):=rfl
theorem weakD_some(s:Nat)(ys:List PV):weakD (some (s,ys))=.ok (0,wdPs ys):=rfl
@[simp] theorem weakM_some(m:List Nat)(s:Nat)(ys:List PV):weakM m (some (s,ys))=(match nth 0 m s with|0=>.ok (0,wdPs ys)|j+1=>.ok (j+1,ys)):=rfl
theorem wkPs_nil:wkPs []=[]:=rfl
theorem wkPs_cons(p:PV)(l:List PV):wkPs (p::l)=wkP p::wkPs l:=rfl
theorem wkP_int(i:IntKind)(n:Int):wkP (.lit (.int i n))=.lit (.int i n):=rfl
theorem wkP_bool(b:Bool):wkP (.lit (.bool b))=.lit (.bool b):=rfl
theorem wkP_str(b:ByteArray):wkP (.lit (.string b))=.lit (.string b):=rfl
theorem wkP_rows(es:List (List PV)):wkP (.rows es)=.rows es:=rfl
theorem wkP_nil:wkP (.lit (.slice none 0 0))=.rows []:=rfl
attribute [simp] bK_true bK_false bK_same bK_not isK_self isK_t isK_f isK_nilr nilK_nil nilK_cons consK_cons consK_nil pvK_pv cptrK_c pairK_p binK_lss binK_gtr binK_geq binK_eql binK_neq binK_add binK_sub binK_eqs binK_nes alt_fail alt_fail' alt_ok alt_bK alt_bK' alt_passK callK_some passK_some weakK_some wkPs_nil wkPs_cons wkP_int wkP_bool wkP_str wkP_rows wkP_nil
end Go.Proofs.YtfphhabaeggenaaDoor
namespace Go.Proofs.YtfphhabaeggenaaDoor
open Go.RowKit
theorem pureRun_bind{α β:Type}{P:Program}(x:Go.Sem α)(f:α→Go.Sem β):pureRun P (x >>= f)=(pureRun P x).bind fun a=>pureRun P (f a):=by
 induction x with
 |pure a=>rfl
 |program k ih=>exact ih P
 |mark m k ih=>exact ih
 |_=>rfl
theorem pureRun_und{P:Program}{t:TypeId}{d:TypeDesc}(h:P.underlying t=some d):pureRun P (underlying t)=some d:=by
 have e : pureRun P (underlying t) = pureRun P (match P.underlying t with | some d => pure d | none => stuck "no such type" : Go.Sem TypeDesc) := rfl
 rw[e,h];rfl
section
variable(P:Program)(S:Nat→List Shape)(E:Nat→Ent)(T:Nat→Et)
def fnB(k f:Nat)(t:FT):Bool:=match(E k).base,(E k).lp with
 |none,none=>Nat.beq (E k).f f&&wfE S E (E k) (T k) (E k).n (E k).rin&&ltAll (E k).n (namesAs (E k).args++namesH (E k).h)&&chk P (leafF P t f (E k).args (E k).h) (erase S E (E k) (T k) (E k).n) (E k).n [] [] []
 |_,_=>false
def lpC(k f id:Nat)(fn:Func)(t:FT):Bool:=match(E k).base,(E k).lp with
 |none,some (i,m0)=>Nat.beq i id&&Nat.beq (E k).f f&&wfE S E (E k) (T k) (E k).n (E k).rin&&ltAll (E k).n (namesE (E k).e++namesH (E k).h)&&chk P (leafC P fn t (lb fn id) m0 (E k).e (E k).h) (erase S E (E k) (T k) (E k).n) (E k).n [] [] []
 |_,_=>false
end
section
variable{P:Program}{S:Nat→List Shape}{E:Nat→Ent}{T:Nat→Et}{k f:Nat}{fn:Func}{t:FT}
theorem rF(hm:P.follows .mixedOrders=true)(h1:P.funcs[f]? = some fn)(h2:fn.body.isSome=true)(h3:tabOk t.sd t.sx (bodyOf fn)=true)(h:fnB P S E T k f t=true):RuleOk P S E T k:=by
 unfold fnB at h
 split at h
 ·rename_i hb hl
  simp only[Bool.and_eq_true] at h
  obtain⟨⟨⟨g1,g2⟩,g3⟩,g4⟩:=h
  have g1:=Nat.eq_of_beq_eq_true g1
  subst g1
  exact RuleOk.fn rfl rfl hb hl h1 g2 rfl fun l v h' h0 hn a b hd=>fun_rule h1 h2 hm h3 g3 g4 h0 hn a b hd
 ·cases h
theorem rL{id:Nat}(hm:P.follows .mixedOrders=true)(h1:P.funcs[f]? = some fn)(h2:isLoop1 (subs id (bodyOf fn))=true)(h3:tabOk t.sd t.sx (lb fn id)=true)(h:lpC P S E T k f id fn t=true):RuleOk P S E T k:=by
 unfold lpC at h
 split at h
 ·rename_i i m0 hb hl
  simp only[Bool.and_eq_true] at h
  obtain⟨⟨⟨⟨g0,g1⟩,g2⟩,g3⟩,g4⟩:=h
  have g1:=Nat.eq_of_beq_eq_true g1
  have g0:=Nat.eq_of_beq_eq_true g0
  subst g1
  subst g0
  exact RuleOk.loop rfl rfl hb hl h1 g2 rfl fun l ex e' h' h0 hn a b hd=>body_rule h2 hm h3 g3 g4 h0 hn a b hd
 ·cases h
theorem rF2(hm:P.follows .mixedOrders=true)(h1:P.funcs[f]? = some fn)(h:(fn.body.isSome&&tabOk t.sd t.sx (bodyOf fn)&&fnB P S E T k f t)=true):RuleOk P S E T k:=by
 rw[Bool.and_eq_true,Bool.and_eq_true] at h
 exact rF hm h1 h.1.1 h.1.2 h.2
theorem rL2{id:Nat}(hm:P.follows .mixedOrders=true)(h1:P.funcs[f]? = some fn)(h:(isLoop1 (subs id (bodyOf fn))&&tabOk t.sd t.sx (lb fn id)&&lpC P S E T k f id fn t)=true):RuleOk P S E T k:=by
 rw[Bool.and_eq_true,Bool.and_eq_true] at h
 exact rL hm h1 h.1.1 h.1.2 h.2
end
end Go.Proofs.YtfphhabaeggenaaDoor
namespace Go.Proofs.YtfphhabaeggenaaDoor
open Go.RowKit
theorem pr_pure{α:Type}{P:Program}(a:α):pureRun P (pure a:Go.Sem α)=some a:=rfl
@[simp] theorem wkP_int'(k:IntKind)(n:Int):wkP (.lit (.int k n))=.lit (.int k n):=rfl
section
variable{P:Program}{t:TypeId}{r:AV}{β:Type}{d:β}{k:AV→β}
theorem len_str(ht:P.underlying t=some .string)(s:ByteArray):LenOk P t (.pv (sv s)) r↔r=.pv (iv s.size):=by
 have hl:∀ty,builtinA P .len #[t] ty [.pv (sv s)]=some (.pv (iv s.size)):=by
  intro ty
  have h1:pureRun P (Builtin.len_ #[t] ty #[.string s])=some (.int .i64 s.size):=by
   simp only[Builtin.len_,List.getElem?_toArray,List.getElem?_cons_zero,pureRun_bind,pureRun_und ht,Option.bind_some]
   rfl
  have h2:lenA P #[t] (.pv (sv s))=none:=by
   unfold lenA
   simp[rowsOf,emptyV]
  unfold builtinA
  simp only[h2,AV.val?,h1]
  simp[ofVal,plainV]
 constructor
 ·intro h;have:=h 0;rw[hl] at this;exact(Option.some.inj this).symm
 ·intro h ty;rw[hl,h]
variable{a b:Int}
end
end Go.Proofs.YtfphhabaeggenaaDoor
