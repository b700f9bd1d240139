import Derived.Test.YtijcobeebaceoaaGreatDoorBab
set_option linter.unusedVariables false
set_option linter.unusedSimpArgs false
set_option linter.unusedSectionVars false
namespace Go.Proofs.YtijcobeebaceoaaGreatDoor
open Go.RowKit
def OQ(P:Program)(ρ:Operand→Option AV)(h:List af)(t:TypeId)(l c:Operand):Option (AV×List af×List Nat):=match ρ l,ρ c,P.underlying t with
 |some lv,some cv,some (.slice e)=>match su lv,su cv,j6 P e,mO P e,iT P e with
  |some n,some m,some zc,some sz,some by_=>if n=m∧0≤n∧0<sz∧zc.length=sz∧n≤1000000∧(by_:Int)*n≤281474976710656 then
    some (.sl h.length 0 n.toNat sz,h++[.box e (kQ zc (n.toNat*sz))],[]) else none
  |_,_,_,_,_=>none
 |_,_,_=>none
def agU(h:List af)(sz:Nat):AV→Option (Nat×List AV)
 |.sl o lo len s=>match MH h o with
  |some c=>if s=sz∧(lo+len)*sz≤c.length then some (len,(c.drop (lo*sz)).take (len*sz)) else none
  |none=>none
 |.pv (.lit (.slice none 0 0))=>some (0,[])
 |x=>match rowsOf x with
  |some es=>if es.all (fun c=>c.length==sz) then some (es.length,(List.range (es.length*sz)).map fun k=>.pv ((es.getD (k/sz) []).getD (k%sz) .any)) else none
  |none=>none
def aaS(P:Program)(h:List af)(t:TypeId)(s x:AV):Option (AV×List af×List Nat):=match P.underlying t with
 |some (.slice e)=>match mO P e,iT P e,j6 P e with
  |some sz,some by_,some zc=>if 0<sz∧zc.length=sz then match agU h sz x with
    |some (0,_)=>match s with
     |.sl _ _ _ _=>some (s,h,[])
     |s=>if bU s then some (s,h,[]) else none
    |some (n+1,new)=>if new.all AV.isCell then match s with
      |.sl o 0 len sz'=>match h[o]? with
       |some (.box ty cells)=>if ty=e∧sz'=sz∧len*sz≤cells.length∧len+(n+1)≤1000000000000∧(len+(n+1))*by_≤140737488355328 then
         some (.sl h.length 0 (len+(n+1)) sz,h.set o .dead++[.box e (cells.take (len*sz)++new)],[o]) else none
       |_=>none
      |s=>if bU s∧apY t=true∧n+1≤1000000000000∧(n+1)*by_≤140737488355328 then some (.sl h.length 0 (n+1) sz,h++[.box e new],[]) else none
     else none
    |none=>none
   else none
  |_,_,_=>none
 |_=>none
def amz(P:Program)(t:TypeId)(len:Nat)(ps:List (Nat×AV)):Option (TypeId×Nat×List AV):=match P.underlying t with
 |some (.slice e)=>match j6 P e,mO P e with
  |some zc,some s=>if 0<s∧zc.length=s∧len*s≤16777216 then match qp (fun i=>some (i*s,s)) (kQ zc (len*s)) ps with
    |some out=>some (e,s,out)
    |none=>none
   else none
  |_,_=>none
 |_=>none
def aaR(P:Program)(ρ:Operand→Option AV)(h:List af)(t:TypeId)(len:Nat)(parts:Array (Nat×Operand)):Option (AV×List af×List Nat):=match nU ρ parts.toList with
 |some ps=>match amz P t len ps with
  |some (e,s,out)=>some (.sl h.length 0 len s,h++[.box e out],[])
  |none=>none
 |none=>none
def aiP(P:Program)(op:Op)(ρ:Operand→Option AV)(h:List af):Option (AV×List af×List Nat):=match op with
 |.makeSlice t l c=>OQ P ρ h t l c
 |.call ⟨.builtin .append,args,ts⟩=>match lH ρ args.toList,ts.toList with
  |some [s,x],[t,t']=>if t=t' then aaS P h t s x else none
  |_,_=>none
 |_=>none
def ae5(P:Program)(op:Op)(ρ:Operand→Option AV)(h:List af):Option (AV×List af×List Nat):=match op with
 |.buildSlice t len parts=>aaR P ρ h t len parts
 |_=>none
section
variable{P:Program}{o:Oper}{ρ:Operand→Value}{ρA:Operand→Option AV}{K:Kn}{h:List af}{w:World}
theorem VL.set{l:List AV}{cs:List Value}(hv:VL K l cs){a:AV}{v:Value}(ha:VR K a v)(j:Nat):VL K (l.set j a) (cs.set j v):=by
 refine⟨by simp[hv.1],fun i hi hi'=>?_⟩;rw[List.getElem_set,List.getElem_set];split
 ·exact ha
 ·exact hv.2 i (by simpa using hi) (by simpa using hi')
theorem Jy(H:WR K h w)(hρ:∀x v,ρA x=some v→VR K v (ρ x)){t:TypeId}{l c:Operand}(ho:o.op=.makeSlice t l c){v:AV}{h':List af}{touch:List Nat}(hq:OQ P ρA h t l c=some (v,h',touch)):Eff P o ρ K h w v h' touch:=by
 unfold OQ at hq;split at hq
 ·rename_i lv cv e hl hc hu
  split at hq
  ·rename_i n m zc sz by_ hn hm hz hs hb
   split at hq
   ·rename_i hcond
    cases hq;obtain⟨rfl,h0,hsz,hzc,hle,hby⟩:=hcond;obtain⟨k1,hk1⟩:=ji (hρ l _ hl) hn;obtain⟨k2,hk2⟩:=ji (hρ c _ hc) hm;obtain⟨i,z,hi,hiz,hvz⟩:=dG (K:=K) hz;have his:i.size=sz:=by unfold mO at hs;rw[hi] at hs;simpa using hs
    have hib:i.bytes=by_:=by unfold iT at hb;rw[hi] at hb;simpa using hb
    have hrun:=run_make (P:=P) w t e i z hu hi hiz k1 k2 n n h0 (Int.le_refl _) (by rw[hib];exact hby) (by omega);rw[his] at hrun;have hms:(madeCells z.cells (n.toNat*sz)).size=n.toNat*sz:=size_madeCells _ _;have hvl:=ny hvz (by omega) (n.toNat*sz);refine⟨.value (.slice (some ⟨w.heap.size,0,none⟩) n.toNat n.toNat),_,w.alloc (.cells (madeCells z.cells (n.toNat*sz)) e),K.withBox h.length w.heap.size n.toNat sz,?_,.inl rfl,?_,?_,lF.alloc _ _ _⟩
    ·simp only[execOp,ho,hk1,hk2,Sem.run_bind,hrun,Result.andThen_ok,Sem.run_pure]
    ·exact .sl _ 0 _ sz _ _ 0 (j3 _ _ _ _ _) (dZ _ _ _ _ _) (Nat.le_refl _) (by rw[fw];omega) (fun _=>by omega)
    ·refine Step.fresh H _ n.toNat sz _ rfl ⟨rfl,rfl,rfl,by simp,fun k hk _=>Below.heap_alloc w _ k hk⟩ (fun hx=>⟨_,heap_alloc_new w _,?_,?_⟩)
     ·rw[fw,dZ];exact⟨hms,by unfold maxLen;omega⟩
     ·have hl1:(kQ zc (n.toNat*sz)).length=n.toNat*sz:=by simp[kQ]
      rw[hl1,List.take_of_length_le (by rw[Array.length_toList,hms];exact Nat.le_refl _)];exact hvl.mono hx
   ·cases hq
  ·cases hq
 ·cases hq
theorem O4{i:Nat}{c:List AV}(h1:MH h i=some c):∃ty,h[i]? = some (.box ty c):=by
 unfold MH at h1;split at h1
 ·rename_i ty c' hi;cases h1;exact⟨ty,hi⟩
 ·cases h1
theorem Cj(H:WR K h w){x:AV}{v:Value}(hv:VR K x v){sz n:Nat}{cells:List AV}(hp:0<sz)(hq:agU h sz x=some (n,cells)) :
  ∃a cap,v=.slice a n cap∧(0<n→∃ad news,a=some ad∧VL K cells news∧news.length=n*sz∧∀j u,news[j]? = some u→w.cell? (ad.add j)=some u):=by
 unfold agU at hq;split at hq
 ·rename_i ob lo len s
  split at hq
  ·rename_i c hc
   split at hq
   ·rename_i hcond
    cases hq;obtain⟨rfl,hle⟩:=hcond;obtain⟨ty,hi⟩:=O4 hc;obtain⟨g,cs,hm,hw,hs,hvl⟩:=H.box ob ty c hi;cases hv with
    |sl _ _ _ _ g' cap off hm' he hlc hz hof=>
     rw[hm] at hm';cases hm';refine⟨_,cap,rfl,fun hn=>?_⟩;have hof:=hof (by omega);subst hof;have hcl:c.length≤cs.size:=by have:=hvl.1;simp at this;omega
     have e1:(lo+n)*s=lo*s+n*s:=Nat.add_mul _ _ _;refine⟨_,((cs.toList.take c.length).drop (lo*s)).take (n*s),rfl,(hvl.drop _).take _,?_,fun j u hj=>?_⟩
     ·simp;omega
     ·rw[List.getElem?_take] at hj
      split at hj
      ·rw[List.getElem?_drop,List.getElem?_take] at hj
       split at hj
       ·rw[add_mid]
        rw[Array.getElem?_toList] at hj;simp[World.cell?,hw,hj]
       ·cases hj
      ·cases hj
   ·cases hq
  ·cases hq
 ·cases hq
  exact⟨none,0,eO hv rfl,fun hn=>by omega⟩
 ·split at hq
  ·rename_i es hes
   split at hq
   ·rename_i hall
    cases hq;have hpr:=fM hv hes;by_cases hne:es=[]
    ·subst hne
     cases hpr with
     |rows _ a cap g off sz us ha hn _ _ _=>exact⟨a,cap,rfl,fun hn=>by simp at hn⟩
    ·have hsize:∀i (hi:i<es.length),es[i].length=sz:=fun i hi=>by
      rw[List.all_eq_true] at hall;simpa using hall _ (List.getElem_mem hi)
     obtain⟨g,off,cap,news,he,hnl,hnM,hnP⟩:=xF hpr hne hsize hp;refine⟨_,cap,he,fun _=>⟨_,news,rfl,⟨by simp[hnl],fun k hk hk'=>?_⟩,hnl,fun j u hj=>by rw[add_mid];exact H.agr _ _ _ (hnM j u hj)⟩⟩;simp only[List.getElem_map,List.getElem_range];rw[hnl] at hk';have h1:k/sz<es.length:=Nat.div_lt_of_lt_mul (by rw[Nat.mul_comm];exact hk');have h2:k%sz<es[k/sz].length:=by rw[hsize _ h1];exact Nat.mod_lt _ hp
     obtain⟨u,hu1,hu2⟩:=hnP (k/sz) h1 (k%sz) h2;have e2:k/sz*sz+k%sz=k:=by rw[Nat.mul_comm];exact Nat.div_add_mod k sz
     rw[e2,List.getElem?_eq_getElem (by rw[hnl];exact hk')] at hu1;rw[Option.some.inj hu1];refine .pv ?_;have e3:es.getD (k/sz) []=es[k/sz]:=by simp[List.getD,List.getElem?_eq_getElem h1]
     rw[e3];have e4:es[k/sz].getD (k%sz) .any=es[k/sz][k%sz]:=by simp[List.getD,List.getElem?_eq_getElem h2]
     rw[e4];exact hu2
   ·cases hq
  ·cases hq
theorem Mq(H:WR K h w){args:Array Operand}{s x:Operand}(ha:args.toList=[s,x]){t:TypeId}{ts:Array TypeId}(hts:ts.toList=[t,t])(ho:o.op=.call ⟨.builtin .append,args,ts⟩)
  {sA xA:AV} (hs:VR K sA (ρ s)) (hx:VR K xA (ρ x)) {v:AV} {h':List af} {touch:List Nat} (hq:aaS P h t sA xA=some (v,h',touch)):Eff P o ρ K h w v h' touch:=by
 unfold aaS at hq;split at hq
 ·rename_i e hu
  split at hq
  ·rename_i sz by_ zc hsz hby hz
   obtain⟨i,z,hi,hiz,hvz⟩:=dG (K:=K) hz;have his:i.size=sz:=by unfold mO at hsz;rw[hi] at hsz;simpa using hsz
   have hib:i.bytes=by_:=by unfold iT at hby;rw[hi] at hby;simpa using hby
   split at hq
   ·rename_i hc0
    have hzs:z.cells.size=sz:=by have:=hvz.1;simp at this;omega
    split at hq
    ·rename_i cells hsrc
     obtain⟨a,cap,hxe,_⟩:=Cj H hx hc0.1 hsrc;have hse:∃base n c,ρ s=.slice base n c∧n≤c∧v=sA∧h'=h∧touch=[]:=by
      split at hq
      ·rename_i ob lo len sz'
       cases hq;generalize hsx:ρ s=sv at hs;cases hs with
       |sl _ _ _ _ g cap off hm he hl hz' hof=>exact⟨_,_,_,rfl,hl,rfl,rfl,rfl⟩
      ·split at hq
       ·rename_i hn
        cases hq;exact⟨none,0,0,iG hs hn,Nat.le_refl _,rfl,rfl,rfl⟩
       ·cases hq
     obtain⟨base,n,c,h1,h2,rfl,rfl,rfl⟩:=hse;refine⟨_,ρ s,w,K,dQ ha hts ho (v:=ρ s) ?_,.inl rfl,hs,Step.refl H,lF.refl _ _⟩;rw[h1,hxe];exact jW t o.type e i hu hi base a n c cap h2 w
    ·rename_i n new hsrc
     split at hq
     ·rename_i hcell
      obtain⟨a,capx,hxe,hnews⟩:=Cj H hx hc0.1 hsrc;obtain⟨ad,news,rfl,hvn,hnl,hncell⟩:=hnews (by omega);have h1:∀u∈news,u.oneCell'=true:=EL hvn hcell;have hnn:new.length=(n+1)*sz:=by rw[hvn.1];exact hnl
      split at hq
      ·rename_i ob len sz'
       split at hq
       ·rename_i ty cells hob
        split at hq
        ·rename_i hcond
         obtain⟨rfl,rfl,hlc,hmx,hbt⟩:=hcond;cases hq;obtain⟨g,cs,hm,hwg,⟨hcs,hZ⟩,hvl⟩:=H.box ob ty cells hob;have hcl:cells.length≤cs.size:=by have:=hvl.1;simp at this;omega
         generalize hse:ρ s=sv at hs;cases hs with
         |sl _ _ _ _ g' cap off hm' he hl hzz hof=>
          rw[hm] at hm';cases hm';rw[he] at hcs;have hsetlen:(h.set ob .dead).length=h.length:=by simp
          have hlive:∀(j:Nat) x,(h.set ob .dead)[j]? = some x→x.live=true→h[j]? = some x∧j≠ob:=by
           intro j x hj hl;rw[List.getElem?_set] at hj;by_cases ej:ob=j
           ·rw[if_pos ej] at hj
            split at hj
            ·cases hj;cases hl
            ·cases hj
           ·rw[if_neg ej] at hj;exact⟨hj,fun e=>ej e.symm⟩
          have htake:(cs.toList.take (len*sz')).length=len*sz':=by simp;omega
          have hvo:VL K (cells.take (len*sz')) (cs.toList.take (len*sz')):=by
           have:=hvl.take (len*sz')
           rwa [List.take_take,Nat.min_eq_left hlc] at this
          have hvall:VL K (cells.take (len*sz')++new) (cs.toList.take (len*sz')++news):=hvo.append hvn;have hlall:(cells.take (len*sz')++new).length=(cs.toList.take (len*sz')++news).length:=hvall.1;by_cases hroom:len+(n+1)≤cap
          ·have hof:=hof (by omega)
           rw[Nat.zero_mul] at hof;subst hof;have hfit:len*sz'+news.length≤cs.size:=by rw[hnl,hcs,←Nat.add_mul];exact Nat.mul_le_mul_right _ (by omega)
           have hrun:=run_append_room (P:=P) w t o.type ty i hu hi g len cap cs hwg ad (n+1) capx news (by rw[his];exact hnl) hncell h1 hroom (by rw[his];exact hfit);rw[his] at hrun;rw[←hse,←hxe] at hrun;generalize hcur:(cs.toList.take (len*sz')++news++cs.toList.drop (len*sz'+news.length)).toArray=cur at hrun;have hcurs:cur.size=K.Z g*sz':=by rw[←hcur,←hcs];simp;omega
           have hst:=Step.put H (h1:=h.set ob .dead) (w':=w.setRow g cur) (.box ty (cells.take (len*sz')++new)) g (K.Z g) (K.E g)
            ⟨cur,setRow_heap w g cs cur ty _ hwg,by rw[fw,dZ,he];exact⟨hcurs,hZ⟩,by
             rw[hlall,←hcur];show VL _ _ (List.take _ (cs.toList.take (len*sz')++news++cs.toList.drop (len*sz'+news.length)));rw[List.take_left];exact hvall.mono (Ext.withBox (H.fresh _ (Nat.le_refl _)) (fun _ _=>⟨rfl,rfl⟩))⟩
            (by have:=Br hwg;simpa[World.setRow] using this) ⟨rfl,rfl,rfl,by simp[World.setRow],fun k _ hk=>setRow_other w g k _ hk⟩
            (fun o=>H.apart ob ty cells g hob hm o) hsetlen (fun j x hj hl=>by
             obtain⟨h2,h3⟩:=hlive j x hj hl;exact⟨h2,fun e=>h3 (H.inj j ob x _ g h2 hob hl rfl e hm)⟩)
            (fun i _=>⟨rfl,rfl⟩) (.inr ⟨ob,_,hob,rfl,hm⟩)
           refine⟨_,_,_,_,dQ ha hts ho hrun,.inl rfl,.sl _ 0 _ sz' g cap 0 (j3 _ _ _ _ _) (by rw[dZ];exact he) hroom (by rw[fw];omega) (fun _=>by omega),hst,⟨rfl,rfl,rfl,by simp[World.setRow],fun k _ hk=>setRow_other w g k _ (fun e=>hk ⟨ob,_,by simp,hob,rfl,by rw[e];exact hm⟩)⟩⟩
          ·have holds:∀j v,(cs.toList.take (len*sz'))[j]? = some v→w.cell? ((⟨g,off,none⟩:Addr).add j)=some v:=by
            intro j v hj;have hjl:j<len*sz':=by
             by_cases hh:j<len*sz'
             ·exact hh
             ·rw[List.getElem?_eq_none (by omega)] at hj;cases hj
            have hl0:0<len:=by
             rcases Nat.eq_zero_or_pos len with h0|h0
             ·rw[h0] at hjl;omega
             ·exact h0
            have hof:=hof (by omega);rw[Nat.zero_mul] at hof;subst hof;rw[add_mid,Nat.zero_add];rw[List.getElem?_take,if_pos hjl,Array.getElem?_toList] at hj;simp[World.cell?,hwg,hj]
           have hrun:=run_append_grow (P:=P) w t o.type ty i z hu hi hiz ⟨g,off,none⟩ len cap (cs.toList.take (len*sz')) (by rw[his];exact htake) holds ad (n+1) capx news (by rw[his];exact hnl) hncell (by omega) (by omega) (growslice_fits (by omega) (by rw[hib];exact hbt));rw[←hse,←hxe] at hrun;have hge:=grownCap_ge w (len+(n+1)) cap ty;have hcm:=grownCap_le_maxLen w (len+(n+1)) cap ty (by unfold maxLen;omega);generalize grownCap w (len+(n+1)) cap ty=cap' at *;generalize hcur:(cs.toList.take (len*sz')).toArray++news.toArray++Builtin.zeroCells z.cells (cap'-(len+(n+1)))=cur at hrun;have hcurs:cur.size=cap'*sz':=by
            rw[←hcur];simp only[Array.size_append,List.size_toArray,size_zeroCells,hzs,hnl,htake,←Nat.add_mul];congr 1;omega
           have hst:=Step.put H (h1:=h.set ob .dead) (w':=w.drew.alloc (.cells cur ty)) (.box ty (cells.take (len*sz')++new)) w.heap.size cap' sz'
            ⟨cur,heap_alloc_new w.drew _,by rw[fw,dZ];exact⟨hcurs,hcm⟩,by
             rw[hlall,←hcur];have e5:((cs.toList.take (len*sz')).toArray++news.toArray++Builtin.zeroCells z.cells (cap'-(len+(n+1)))).toList=(cs.toList.take (len*sz')++news)++(Builtin.zeroCells z.cells (cap'-(len+(n+1)))).toList:=by simp
             rw[e5,List.take_left];exact hvall.mono (Ext.withBox (H.fresh _ (Nat.le_refl _)) (fun i hi=>by have:=H.lt i _ hi;omega))⟩
            (by simp) (lF.drewAlloc _ _ _)
            (fun o=>H.noM (Nat.le_refl _) o) hsetlen (fun j x hj hl=>by
             obtain⟨h2,h3⟩:=hlive j x hj hl;exact⟨h2,fun e=>by have:=H.lt j _ e;omega⟩)
            (fun i hi=>by have:=H.lt i _ hi;omega) (.inl (Nat.le_refl _))
           refine⟨_,_,_,_,dQ ha hts ho hrun,.inl rfl,.sl _ 0 _ sz' w.heap.size cap' 0 (j3 _ _ _ _ _) (dZ _ _ _ _ _) hge (by rw[fw];omega) (fun _=>by omega),hst,lF.drewAlloc _ _ _⟩
        ·cases hq
       ·cases hq
      ·split at hq
       ·rename_i hcond
        obtain⟨hnil,_,hmx,hbt⟩:=hcond;cases hq;have hse:=iG hs hnil;have hrun:=run_append_nil (P:=P) w t o.type e i z hu hi hiz ad (n+1) capx news (by rw[his];exact hnl) hncell (by omega) (by omega) (by rw[hib];omega);rw[←hse,←hxe] at hrun;have hge:=grownCap_ge w (n+1) 0 e;have hcm:=grownCap_le_maxLen w (n+1) 0 e (by unfold maxLen;omega);generalize grownCap w (n+1) 0 e=cap at *;generalize hcur:news.toArray++Builtin.zeroCells z.cells (cap-(n+1))=cur at hrun;have hcurs:cur.size=cap*sz:=by
         rw[←hcur];simp only[Array.size_append,List.size_toArray,size_zeroCells,hzs,hnl,←Nat.add_mul];congr 1;omega
        have hst:=Step.fresh H (w':=w.drew.alloc (.cells cur e)) (.box e new) cap sz (.cells cur e) rfl (lF.drewAlloc _ _ _) (fun hx=>⟨cur,heap_alloc_new w.drew _,by
         rw[fw,dZ];exact⟨hcurs,hcm⟩,by
         rw[hvn.1,←hcur];have e5:(news.toArray++Builtin.zeroCells z.cells (cap-(n+1))).toList=news++(Builtin.zeroCells z.cells (cap-(n+1))).toList:=by simp
         rw[e5,List.take_left];exact hvn.mono hx⟩)
        exact⟨_,_,_,_,dQ ha hts ho hrun,.inl rfl,.sl _ 0 _ sz w.heap.size cap 0 (j3 _ _ _ _ _) (dZ _ _ _ _ _) hge (by rw[fw];omega) (fun _=>by omega),hst,lF.drewAlloc _ _ _⟩
       ·cases hq
     ·cases hq
    ·cases hq
   ·cases hq
  ·cases hq
 ·cases hq
theorem Ml(H:WR K h w)(hρ:∀x v,ρA x=some v→VR K v (ρ x)){t:TypeId}{len:Nat}{parts:Array (Nat×Operand)}(ho:o.op=.buildSlice t len parts){v:AV}{h':List af}{touch:List Nat}(hq:aaR P ρA h t len parts=some (v,h',touch)):Eff P o ρ K h w v h' touch:=by
 unfold aaR at hq;split at hq
 ·rename_i ps hps
  split at hq
  ·rename_i e s out hb
   cases hq;unfold amz at hb;split at hb
   ·rename_i e' hu
    split at hb
    ·rename_i zc s' hz hs
     split at hb
     ·rename_i hc
      split at hb
      ·rename_i out' hf
       cases hb;obtain⟨ie,z,hi,hiz,hvz⟩:=dG (K:=K) hz;obtain⟨h1,h2⟩:=kV hρ _ _ hps;have hies:ie.size=s:=by unfold mO at hs;rw[hi] at hs;simpa using hs
       obtain⟨us,hfill,hvu⟩:=kG _ ps (gQ ρ parts.toList) _ ((Array.range (len*s)).map (z.cells[· % z.cells.size]!)) out (ny hvz (by omega) _) h1 h2 hf;have hout:∀(ps:List (Nat×AV)) (cells out:List AV),qp (fun i=>some (i*s,s)) cells ps=some out→out.length=cells.length:=by
        intro ps
        induction ps with
        |nil=>intro cells out hf;cases hf;rfl
        |cons q ps ih=>
         intro cells out hf;obtain⟨qi,qv⟩:=q;simp only[qp] at hf;split at hf
         ·cases hf
         ·rename_i hcond
          rw[ih _ _ hf];simp[setAt];omega
       have hol:=hout _ _ _ hf;have hzl:(kQ zc (len*s)).length=len*s:=by simp[kQ]
       have husz:us.size=len*s:=by have:=hvu.1;simp at this;omega
       have hlen:len≤16777216:=Nat.le_trans (Nat.le_mul_of_pos_right len hc.1) hc.2.2;have hrun:(execOp ρ o).run P w=.ok (.value (.slice (some ⟨w.heap.size,0,none⟩) len len)) (w.alloc (.cells us e)):=by
        have hp':(parts.map fun(i,x)=>(i,ρ x)).toList=gQ ρ parts.toList:=by simp[gQ]
        by_cases h0:len*s=0
        ·have hl0:len=0:=by
          rcases Nat.mul_eq_zero.1 h0 with h0|h0
          ·exact h0
          ·omega
         subst hl0;have e0:∀f:Nat→Value,(Array.range (0*s)).map f = #[]:=fun f=>by apply Array.ext';simp
         rw[e0] at hfill;simp only[execOp,ho,Instr.buildSlice,Sem.run_bind,run_underlying hu,Result.andThen_ok,iq hs];rw[if_neg (by simp),if_pos (by simp)];simp only[Sem.run_bind,Sem.run_pure,Result.andThen_ok,e0,hp',hfill];simp[newRow]
        ·have:=run_buildSlice (P:=P) w t e len (parts.map fun(i,x)=>(i,ρ x)) us ie z hu hi hiz (by rw[hies];have:=hc.2.2;omega) (by rw[hies];exact h0) (by rw[hies,hp'];exact hfill)
         simp only[execOp,ho,Sem.run_bind,this,Result.andThen_ok,Sem.run_pure]
       have hst:=Step.fresh H (w':=w.alloc (.cells us e)) (.box e out) len s (.cells us e) rfl (lF.alloc _ _ _) (fun hx=>⟨us,heap_alloc_new w _,by
        rw[fw,dZ];exact⟨husz,by unfold maxLen;omega⟩,by
        rw[hvu.1,List.take_length];exact hvu.mono hx⟩)
       exact⟨_,_,_,_,hrun,.inl rfl,.sl _ 0 _ s w.heap.size len 0 (j3 _ _ _ _ _) (dZ _ _ _ _ _) (Nat.le_refl _) (by rw[fw];omega) (fun _=>by omega),hst,lF.alloc _ _ _⟩
      ·cases hb
     ·cases hb
    ·cases hb
   ·cases hb
  ·cases hq
 ·cases hq
theorem ald(hρ:∀x v,ρA x=some v→VR K v (ρ x)){args:Array Operand}{a:AV}(hq:lH ρA args.toList=some [a]):∃x,args.toList=[x]∧VR K a (ρ x):=by
 match hl:args.toList,hq with
 |[],hq=>simp[lH] at hq
 |[x],hq=>
  simp only[lH] at hq;split at hq
  ·rename_i v r hv hr
   cases hr;cases hq;exact⟨x,rfl,hρ x _ hv⟩
  ·cases hq
 |x::y::l,hq=>
  simp only[lH] at hq;split at hq
  ·rename_i v r hv hr
   cases hq;split at hr
   ·cases hr
   ·cases hr
  ·cases hq
theorem YI(hρ:∀x v,ρA x=some v→VR K v (ρ x)){args:Array Operand}{a b:AV}(hq:lH ρA args.toList=some [a,b]):∃x y,args.toList=[x,y]∧VR K a (ρ x)∧VR K b (ρ y):=by
 match hl:args.toList,hq with
 |[],hq=>simp[lH] at hq
 |[x],hq=>
  simp only[lH] at hq;split at hq
  ·rename_i v r hv hr
   cases hr;cases hq
  ·cases hq
 |[x,y],hq=>
  simp only[lH] at hq;split at hq
  ·rename_i v r hv hr
   cases hq;split at hr
   ·rename_i v2 r2 hv2 hr2
    cases hr2;cases hr;exact⟨x,y,rfl,hρ x _ hv,hρ y _ hv2⟩
   ·cases hr
  ·cases hq
 |x::y::z::l,hq=>
  simp only[lH] at hq;split at hq
  ·rename_i v r hv hr
   cases hq;split at hr
   ·rename_i v2 r2 hv2 hr2
    cases hr;split at hr2
    ·cases hr2
    ·cases hr2
   ·cases hr
  ·cases hq
theorem OO(H:WR K h w)(hρ:∀x v,ρA x=some v→VR K v (ρ x)){v:AV}{h':List af}{touch:List Nat}(hq:aiP P o.op ρA h=some (v,h',touch)):Eff P o ρ K h w v h' touch:=by
 unfold aiP at hq;split at hq
 ·rename_i ho;exact Jy H hρ ho hq
 ·rename_i args ts ho
  split at hq
  ·rename_i s x t t' hop hts
   split at hq
   ·rename_i e
    subst e;obtain⟨so,xo,ha,hs,hx⟩:=YI hρ hop;exact Mq H ha hts ho hs hx hq
   ·cases hq
  ·cases hq
 ·cases hq
theorem Es(H:WR K h w)(hρ:∀x v,ρA x=some v→VR K v (ρ x)){v:AV}{h':List af}{touch:List Nat}(hq:ae5 P o.op ρA h=some (v,h',touch)):Eff P o ρ K h w v h' touch:=by
 unfold ae5 at hq;split at hq
 ·rename_i ho;exact Ml H hρ ho hq
 ·cases hq
end
end Go.Proofs.YtijcobeebaceoaaGreatDoor
