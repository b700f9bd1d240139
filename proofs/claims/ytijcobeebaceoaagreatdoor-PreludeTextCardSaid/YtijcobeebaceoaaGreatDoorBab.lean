/- Joined texts. -/
import Derived.Test.YtijcobeebaceoaaGreatDoorBaa
import Derived.Laws.BytesString
import Derived.Laws.MakeOwn
import Derived.MapKept
import Derived.Lib.SliceRun
set_option linter.unusedVariables false
set_option linter.unusedSimpArgs false
set_option linter.unusedSectionVars false
namespace Go.Proofs.YtijcobeebaceoaaGreatDoor
open Go.RowKit
section
variable{P:Program}{o:Oper}{ρ:Operand→Value}{ρA:Operand→Option AV}{K:Kn}{h:List af}{w:World}
theorem o8{α β:Type}(f:α→β)(a:Array α):a.map f=(a.toList.map f).toArray:=by
 rw[←Array.toList_map,Array.toArray_toList]
theorem Ar:∀{es:List (List PV)} {ns:List Int},tY es=some ns→es=ns.map fun n=>[.lit (.int .u8 n)]
 |[],ns,h=>by cases h;rfl
 |[]::es,ns,h=>by simp[tY] at h
 |(p::q::r)::es,ns,h=>by
  simp[tY] at h
 |[p]::es,ns,h=>by
  unfold tY at h;split at h
  ·rename_i heq;cases heq
  ·rename_i n l heq
   cases heq;obtain⟨r,hr,e⟩:=aG h;subst e;rw[Ar hr];rfl
  ·cases h
theorem MB{s d:TypeId}{a b:AV}{x:Value}(hv:VR K a x)(h:vF P s d a=some b) :
  ∃u,VR K b u∧∀w':World,(∀g o c,K.M g o=some c→w'.cell? ⟨g,o,none⟩=some c)→(convert s d x).run P w'=.ok u w':=by
 unfold vF at h;split at h
 ·rename_i a' ha
  split at h
  ·rename_i z hz
   have hx:=eO hv ha;exact⟨z,gN h,fun w' _=>by rw[hx];exact iF hz w'⟩
  ·cases h
 ·split at h
  ·rename_i es e he hs hd
   split at h
   ·rename_i ns hb hn
    cases h;have hp:=fM hv he;have hes:=Ar hn;refine⟨.string (Ku ns),.pv (.lit _ rfl),fun w' hM=>?_⟩;cases hp with
    |rows _ a cap g off sz us ha hlen hsz hc hr=>
     rw[run_convert_bytes_string w' s d e a _ _ hs hb hd];have hl:es.length=ns.length:=by rw[hes];simp
     cases hns:ns with
     |nil=>
      rw[hns] at hl;rw[hl];cases a with
      |none=>simp[Conv.bytesToString,Ku,Sem.run_pure]
      |some a=>exact run_bytesToString w' a 0 cap [] (by simp[loadCells,loadCellsFrom,Sem.run_pure])
     |cons n0 nr=>
      have hne:es≠[]:=by rintro rfl;rw[hns] at hl;simp at hl
      rw[ha hne,←hns];have h1:sz=1:=by
       have:=hsz 0 (by rw[hl,hns];simp);rw[←this];simp[hes]
      subst h1;refine run_bytesToString w' _ _ cap ns ?_;have hcells:∀j v,(ns.map (Value.int .u8))[j]? = some v→w'.cell? (Addr.add ⟨g,off,none⟩ j)=some v:=by
       intro j v hj;have hj':j<ns.length:=by
        by_cases hh:j<ns.length
        ·exact hh
        ·rw[List.getElem?_eq_none (by simp;omega)] at hj;cases hj
       have hje:j<es.length:=by omega
       have hjc:0<es[j].length:=by rw[hsz j hje];exact Nat.one_pos
       have h1:=hr j hje 0 hjc;have h2:es[j][0]=.lit (.int .u8 ns[j]):=by simp[hes]
       rw[h2] at h1;have h3:us j 0=.int .u8 ns[j]:=by
        generalize us j 0=z at h1;cases h1;rfl
       rw[List.getElem?_map,List.getElem?_eq_getElem hj'] at hj;cases hj;rw[Addr.add_lit,←h3];exact hM _ _ _ (by have:=hc j hje 0 Nat.one_pos;simpa using this)
      have:=run_loadCells_list (P:=P) w' ⟨g,off,none⟩ (ns.map (Value.int .u8)) hcells;rw[List.length_map,←hl] at this;exact this
   ·cases h
  ·cases h
theorem FP(H:WR K h w)(hρ:∀x v,ρA x=some v→VR K v (ρ x)){v:AV}{dep:Option Nat}(hq:qop P o.op o.type ρA h=some (v,dep)):Ug P o ρ K w v dep:=by
 unfold qop at hq;split at hq
 ·rename_i x ho
  obtain⟨a,ha,e⟩:=aG hq;cases e;exact .of (ρ x) (hρ x _ ha) (fun w'=>by simp[execOp,ho])
 ·rename_i x ho
  obtain⟨a,ha,e⟩:=aG hq;cases e;exact .of (ρ x) (hρ x _ ha) (fun w'=>by simp[execOp,ho])
 ·rename_i c a b ho
  split at hq
  ·rename_i t hc
   obtain⟨r,hr,e⟩:=aG hq;cases e;have hcv:ρ c=.bool t:=eO (hρ c _ hc) rfl;cases t
   ·exact .of (ρ b) (hρ b _ hr) (fun w'=>by simp[execOp,ho,hcv,asBool])
   ·exact .of (ρ a) (hρ a _ hr) (fun w'=>by simp[execOp,ho,hcv,asBool])
  ·cases hq
 ·rename_i x ho
  split at hq
  ·rename_i r hr
   split at hq
   ·rename_i ht
    cases hq;exact .of (ρ x) (hρ x _ hr) (fun w'=>LZ (hρ x _ hr) ht x rfl ho w')
   ·cases hq
  ·cases hq
 ·rename_i t x ho
  split at hq
  ·rename_i a ha
   split at hq
   ·rename_i l d hc
    obtain⟨r,hr,e⟩:=aG hq;cases e;obtain⟨g,off,cs,hx,hvl,hcell⟩:=vG H (hρ x _ ha) hc;obtain⟨u,hvu,hrun⟩:=tq hvl hr g off;refine⟨u,hvu,fun w' hM hd=>?_⟩;have:=hrun w' (hcell w' hM hd);simp[execOp,ho,Instr.loadAt,Instr.sureAddr,hx,this]
   ·cases hq
  ·cases hq
 ·rename_i s x f ho
  split at hq
  ·rename_i a fl ha hf
   split at hq
   ·rename_i n hn
    obtain⟨r,hr,e⟩:=aG hq;cases e;obtain⟨fs,hu,hfs⟩:=wO hf;obtain⟨g,off,hx,hvr⟩:=EM (hρ x _ ha) hr;refine .of _ hvr (fun w'=>?_);simp[execOp,ho,Instr.fieldAt,run_underlying hu,hfs,Instr.sureAddr,hx,fieldPlace,iq hn,Addr.add_lit]
   ·cases hq
  ·cases hq
 ·rename_i s x f ho
  split at hq
  ·rename_i l fl hl hf
   obtain⟨r,hr,e⟩:=aG hq;cases e;obtain⟨fs,hu,hfs⟩:=wO hf;have hx:=hρ x _ hl;generalize hxe:ρ x=xv at hx;cases hx with
   |agg _ cs hlen hh=>
    obtain⟨u,hvu,hrun⟩:=Ag (P:=P) ⟨hlen,hh⟩ hr;refine .of u hvu (fun w'=>?_);simp[execOp,ho,Instr.field,run_underlying hu,hfs,asAgg,hxe,hrun w']
  ·cases hq
 ·rename_i t x i ho
  split at hq
  ·rename_i a b ha hb
   split at hq
   ·rename_i n hn
    obtain⟨r,hr,e⟩:=aG hq;cases e;obtain⟨u,hvu,hrun⟩:=DJ (P:=P) (hρ x _ ha) (ji (hρ i _ hb) hn) hr;exact .of u hvu (fun w'=>by simp[execOp,ho,hrun w'])
   ·cases hq
  ·cases hq
 ·rename_i t x i ho
  split at hq
  ·rename_i a b ha hb
   obtain⟨r,hr,e⟩:=aG hq;cases e;obtain⟨u,hvu,hrun⟩:=IV (P:=P) (hρ x _ ha) (hρ i _ hb) hr;exact .of u hvu (fun w'=>by simp[execOp,ho,hrun w'])
  ·cases hq
 ·rename_i x i ho
  split at hq
  ·rename_i l hl
   obtain⟨r,hr,e⟩:=aG hq;cases e;have hx:=hρ x _ hl;generalize hxe:ρ x=xv at hx;cases hx with
   |tup _ cs hlen hh=>
    obtain⟨c,hc,hvc⟩:=VL.at_ (K:=K) (cs:=cs) ⟨hlen,hh⟩ hr;refine .of c hvc (fun w'=>?_);simp[execOp,ho,Instr.extract,hxe,hc]
  ·cases hq
 ·rename_i b t x y yt ho
  split at hq
  ·rename_i u1 v1 hu hv
   obtain⟨r,hr,e⟩:=aG hq;cases e;obtain⟨z,hvz,hrun⟩:=O6 (P:=P) (hρ x _ hu) (hρ y _ hv) hr;refine .of z hvz (fun w'=>?_);simp only[execOp,ho];rw[Sem.run_bind,hrun w'];rfl
  ·cases hq
 ·rename_i u1 t x ho
  split at hq
  ·rename_i r hr
   split at hq
   ·rename_i a ha
    split at hq
    ·rename_i z hz
     obtain⟨r2,hr2,e⟩:=aG hq;cases e;have hx:=eO (hρ x _ hr) ha;refine .of z (gN hr2) (fun w'=>?_);simp[execOp,ho,hx,iF hz w']
    ·cases hq
   ·cases hq
  ·cases hq
 ·rename_i s d x ho
  split at hq
  ·rename_i r hr
   obtain⟨r2,hr2,e⟩:=aG hq;cases e;obtain⟨u,hu,hrun⟩:=MB (P:=P) (hρ x _ hr) hr2;refine⟨u,hu,fun w' hM _=>?_⟩;simp[execOp,ho,hrun w' hM]
  ·cases hq
 ·rename_i t x lo hi mx ho
  split at hq
  ·rename_i a ha
   obtain⟨r,hr,e⟩:=aG hq;cases e;obtain⟨u,hvu,hrun⟩:=Gw (P:=P) hρ (hρ x _ ha) hr;exact .of u hvu (fun w'=>by simp[execOp,ho,hrun w'])
  ·cases hq
 ·rename_i f first caps ho
  split at hq
  ·rename_i hf
   split at hq
   ·rename_i l hl
    split at hq
    ·rename_i hb
     cases hq;have hv:=iJ hρ _ _ hl;have he:first = #[]:=by simpa using hf
     subst he;refine .of (.func (.func f) #[] (caps.toList.map ρ).toArray) (.fn f l _ hv.1 hv.2 (Nat.le_of_ble_eq_true hb)) (fun w'=>?_);simp[execOp,ho,Instr.makeFunc,o8 ρ caps]
    ·cases hq
   ·cases hq
  ·split at hq
   ·rename_i l hl hc
    cases hq;have hv:=iJ hρ _ _ hl;have hcv:=iJ hρ _ _ hc;have hce:caps.toList.map ρ=[]:=List.eq_nil_of_length_eq_zero hcv.1.symm;refine .of (.func (.func f) (first.toList.map ρ).toArray (caps.toList.map ρ).toArray) (by rw[hce];exact .bfn f _ l _ hv.1 hv.2 rfl) (fun w'=>by simp[execOp,ho,Instr.makeFunc,o8 ρ caps,o8 ρ first])
   ·cases hq
    exact .of (.func (.func f) (first.toList.map ρ).toArray (caps.toList.map ρ).toArray) (.pv (.any _ rfl)) (fun w'=>by simp[execOp,ho,Instr.makeFunc,o8 ρ caps,o8 ρ first])
   ·cases hq
 ·rename_i t parts ho
  split at hq
  ·rename_i ps hps
   obtain⟨r,hr,e⟩:=aG hq;cases e;obtain⟨h1,h2⟩:=kV hρ _ _ hps;obtain⟨us,hb,hv⟩:=JF h1 h2 hr;have he:us=us.toList.toArray:=by simp
   refine .of (.agg us) (by rw[he];exact .agg _ _ hv.1 hv.2) (fun w'=>?_);have hp:(parts.map fun(i,x)=>(i,ρ x)).toList=gQ ρ parts.toList:=by simp[gQ]
   have:=run_build (P:=P) w' t (parts.map fun(i,x)=>(i,ρ x)) us (by rw[hp];exact hb);simp only[execOp,ho,Sem.run_bind,this,Result.andThen_ok,Sem.run_pure]
  ·cases hq
 ·rename_i b args ts ho
  split at hq
  ·rename_i vs hvs
   obtain⟨r,hr,e⟩:=aG hq;cases e;have hv:=iJ hρ _ _ hvs;obtain⟨u,hvu,hrun⟩:=EF (P:=P) hv hr (args.map fun | .const _=>true|_=>false);refine .of u hvu (fun w'=>?_);have hm:args.map ρ=(args.toList.map ρ).toArray:=o8 ρ args;simp only[execOp,ho,resolve,invoke,Sem.run_bind,Sem.run_pure,Result.andThen_ok,hm];exact hrun w'
  ·cases hq
 ·cases hq
end
def zY:List AV→Option (List PV)
 |[]=>some []
 |a::l=>match a.toPV,zY l with
  |some p,some r=>some (p::r)
  |_,_=>none
def chunk(sz:Nat):Nat→List PV→List (List PV)
 |0,_=>[]
 |n+1,l=>l.take sz::chunk sz n (l.drop sz)
def kQ(zc:List AV)(n:Nat):List AV:=(List.range n).map fun i=>zc.getD (i%zc.length) (.tup [])
def O3(P:Program)(t:TypeId)(len:Nat)(ps:List (Nat×AV)):Option (TypeId×Nat×List PV):=match P.underlying t with
 |some (.slice e)=>match j6 P e,mO P e with
  |some zc,some s=>if 0<s∧zc.length=s∧len*s≤16777216 then match qp (fun i=>some (i*s,s)) (kQ zc (len*s)) ps with
    |some out=>match zY out with
     |some pvs=>some (e,s,pvs)
     |none=>none
    |none=>none
   else none
  |_,_=>none
 |_=>none
def bU:AV→Bool
 |.pv (.lit (.slice none 0 0))=>true
 |_=>false
def iT(P:Program)(t:TypeId):Option Nat:=(P.info? t).map (·.bytes)
def rQ(dlf enc:Nat→Nat)(P:Program)(t:TypeId)(s:AV)(es':List (List PV))(h:List af):Option (AV×List af×List Nat):=match P.underlying t with
 |some (.slice e)=>match mO P e,iT P e,j6 P e with
  |some sz,some by_,some zc=>match es' with
   |[]=>if bU s||(rowsOf s).isSome then some (s,h,[]) else none
   |_::_=>if 0<sz∧zc.length=sz∧es'.all (fun c=>c.length==sz) then match s with
     |.trows tk es=>match h[tk]? with
      |some (.tok ty sz' len)=>if ty=e∧sz'=sz∧es.length=dlf len∧dlf len+es'.length≤1000000000000∧(dlf len+es'.length)*by_≤140737488355328 then
        some (.trows h.length (es++es'),h.set tk .dead++[.tok e sz (enc (dlf len+es'.length))],[tk]) else none
      |_=>none
     |s=>if bU s∧es'.length≤1000000000000∧es'.length*by_≤140737488355328 then some (.trows h.length es',h++[.tok e sz (enc es'.length)],[]) else none
    else none
  |_,_,_=>none
 |_=>none
def yG(P:Program)(t:TypeId)(s:AV)(es':List (List PV))(h:List af):Option (AV×List af×List Nat):=rQ id id P t s es' h
def eop(P:Program)(op:Op)(ρ:Operand→Option AV)(h:List af):Option (AV×List af×List Nat):=match op with
 |.alloc t=>match j6 P t with
  |some l=>some (.ptr h.length 0,h++[.box t l],[])
  |none=>none
 |.box t x=>match ρ x with
  |some v=>some (.ptr h.length 0,h++[.box t v.cells],[])
  |none=>none
 |.buildSlice t len parts=>match nU ρ parts.toList with
  |some ps=>match O3 P t len ps with
   |some (e,s,pvs)=>some (.trows h.length (chunk s len pvs),h++[.tok e s len],[])
   |none=>none
  |none=>none
 |.store t x y=>match ρ x,ρ y with
  |some (.ptr i o),some v=>match h[i]? with
   |some (.box bt cells)=>if mO P t=some v.cells.length∧o+v.cells.length≤cells.length∧v.cells.all AV.isCell=true then some (.tup [],h.set i (.box bt (setAt cells o v.cells)),[i]) else none
   |_=>none
  |_,_=>none
 |.call ⟨.builtin .append,args,ts⟩=>match lH ρ args.toList,ts.toList with
  |some [s,x],[t,t']=>if t=t' then match rowsOf x with
    |some es'=>yG P t s es' h
    |none=>if bU x then yG P t s [] h else none
   else none
  |_,_=>none
 |_=>none
def Eff(P:Program)(o:Oper)(ρ:Operand→Value)(K:Kn)(h:List af)(w:World)(v:AV)(h':List af)(touch:List Nat):Prop:=
 ∃n u w' K',(execOp ρ o).run P w=.ok n w'∧(n=.value u∨(n=.skip∧u=Go.undef))∧VR K' v u∧Step K h w K' h' w'∧lF (K.at h touch) w w'
section
variable{P:Program}{o:Oper}{ρ:Operand→Value}{ρA:Operand→Option AV}{K:Kn}{h:List af}{w:World}
theorem lF.alloc(S:Nat→Prop)(w:World)(o:Obj):lF S w (w.alloc o):=⟨rfl,rfl,rfl,by simp,fun k hk _=>Below.heap_alloc w o k hk⟩
theorem lF.drewAlloc(S:Nat→Prop)(w:World)(o:Obj):lF S w (w.drew.alloc o):=⟨rfl,rfl,rfl,by simp,fun k hk _=>Below.heap_alloc w.drew o k hk⟩
theorem j3(K:Kn)(i g z e:Nat):(K.withBox i g z e).mu i=some g:=by show (if i=i then some g else K.mu i)=some g;rw[if_pos rfl]
theorem Nh(K:Kn)(i g n sz cap:Nat)(cur:Array Value):(K.withTok i g n sz cap cur).mu i=some g:=by show (if i=i then some g else K.mu i)=some g;rw[if_pos rfl]
theorem MZ(H:WR K h w){t:TypeId}{l:List AV}(ho:o.op=.alloc t)(hz:j6 P t=some l):Eff P o ρ K h w (.ptr h.length 0) (h++[.box t l]) []:=by
 obtain⟨i,z,hi,hiz,hv⟩:=dG (K:=K) hz;refine⟨.value (.pointer (some ⟨w.heap.size,0,none⟩)),_,w.alloc (.cells z.cells t),_,?_,.inl rfl,.ptr _ _ _ (j3 _ _ _ _ _),Step.allocBox H t l z.cells hv,lF.alloc _ _ _⟩;simp[execOp,ho,Instr.alloc,zeroValue,typeInfo,hi,hiz,newVar,newRow]
theorem Vl(H:WR K h w)(hρ:∀x v,ρA x=some v→VR K v (ρ x)){t:TypeId}{x:Operand}{v:AV}(ho:o.op=.box t x)(hx:ρA x=some v):Eff P o ρ K h w (.ptr h.length 0) (h++[.box t v.cells]) []:=by
 refine⟨.value (.pointer (some ⟨w.heap.size,0,none⟩)),_,w.alloc (.cells (ρ x).cells t),_,?_,.inl rfl,.ptr _ _ _ (j3 _ _ _ _ _),Step.allocBox H t v.cells (ρ x).cells (hρ x v hx).cells,lF.alloc _ _ _⟩;simp[execOp,ho,Instr.box,newVar,newRow]
theorem EL{l:List AV}{cs:List Value}(hv:VL K l cs)(h:l.all AV.isCell=true):∀u∈cs,u.oneCell'=true:=by
 intro u hu;obtain⟨i,hi,rfl⟩:=List.getElem_of_mem hu;rw[List.all_eq_true] at h;have hl:i<l.length:=by rw[hv.1];exact hi
 exact(hv.2 i hl hi).one (h _ (List.getElem_mem hl))
theorem Np{α:Type}(l us:List α)(off n:Nat)(h:off+us.length≤n)(hn:n≤l.length):(setAt l off us).take n=setAt (l.take n) off us:=by
 unfold setAt;have h1:(l.take off++us).length=off+us.length:=by simp;omega
 rw[List.take_append,h1,List.take_of_length_le (by omega),List.take_take,Nat.min_eq_left (by omega),List.drop_take]
theorem Kv(H:WR K h w)(hρ:∀x v,ρA x=some v→VR K v (ρ x)){t bt:TypeId}{x y:Operand}{i off:Nat}{v:AV}{cells:List AV}(ho:o.op=.store t x y)(hx:ρA x=some (.ptr i off))(hy:ρA y=some v)
  (hi:h[i]? = some (.box bt cells)) (hs:mO P t=some v.cells.length) (hle:off+v.cells.length≤cells.length) (hc:v.cells.all AV.isCell=true) :
  Eff P o ρ K h w (.tup []) (h.set i (.box bt (setAt cells off v.cells))) [i]:=by
 obtain⟨g,cs,hm,hw,hsz,hvl⟩:=H.box i bt cells hi;have hxv:=hρ x _ hx;generalize hxe:ρ x=xv at hxv;cases hxv with
 |ptr _ _ g' hm'=>
  rw[hm] at hm';cases hm';have hyv:=(hρ y v hy).cells;have hlen:(ρ y).cells.size=v.cells.length:=by have:=hyv.1;simpa using this.symm
  have hcl:cells.length≤cs.size:=by have:=hvl.1;simp at this;omega
  have hst:=run_storeCells_at P g off bt (ρ y).cells.toList 0 cs w hw (by simp;omega) (EL hyv hc);simp only[Nat.add_zero] at hst;refine⟨.skip,_,w.setRow g (setAt cs.toList off (ρ y).cells.toList).toArray,K,?_,.inr ⟨rfl,rfl⟩,VR.undef K,?_,?_⟩
  ·simp[execOp,ho,Instr.storeAt,Instr.sureAddr,hxe,storeVar,iq hs,hlen]
   simp only[Array.length_toList] at hst;rw[hst];simp[setAt]
  ·refine Step.store H i (.box bt cells) (.box bt (setAt cells off v.cells)) g hi rfl rfl hm ⟨_,setRow_heap w g cs _ bt _ hw,⟨?_,hsz.2⟩,?_⟩ (fun o=>H.apart i bt cells g hi hm o) ⟨rfl,rfl,rfl,by simp[World.setRow],fun k _ hk=>setRow_other w g k _ hk⟩ (by simp[World.setRow]) (fun k hk=>setRow_other w g k _ hk)
   ·rw[←hsz.1];simp[setAt];omega
   ·have h1:=hvl.setAt hyv off
    have h2:(setAt cells off v.cells).length=cells.length:=by simp[setAt];omega
    rw[h2];have h3:(setAt cs.toList off (ρ y).cells.toList).take cells.length=setAt (cs.toList.take cells.length) off (ρ y).cells.toList:=by
     have hz:(ρ y).cells.toList.length=v.cells.length:=by simpa using hlen
     exact Np _ _ _ _ (by rw[hz];exact hle) (by simpa using hcl)
    show VL K _ (List.take cells.length (setAt cs.toList off (ρ y).cells.toList));rw[h3];exact h1
  ·exact⟨rfl,rfl,rfl,by simp[World.setRow],fun k hk hs=>setRow_other w g k _ (fun e=>hs ⟨i,_,by simp,hi,rfl,by rw[e];exact hm⟩)⟩
end
theorem mo{K:Kn}:∀{l:List AV} {cs:List Value} {ps:List PV},VL K l cs→zY l=some ps→ps.length=cs.length∧∀i (h:i<ps.length) (h':i<cs.length),PR K.R K.M ps[i] cs[i]
 |[],cs,ps,hv,h=>by
  cases h;exact⟨hv.1,fun i h=>by simp at h⟩
 |a::l,[],ps,hv,_=>by have:=hv.1;simp at this
 |a::l,c::cs,ps,hv,h=>by
  rw[zY] at h;split at h
  ·rename_i p r hp hr
   cases h;obtain⟨h1,h2⟩:=mo (cs:=cs) ⟨by simpa using hv.1,fun i hi hi'=>hv.2 (i+1) (by simpa using hi) (by simpa using hi')⟩ hr;refine⟨by simpa using h1,fun i hi hi'=>?_⟩;cases i with
   |zero=>exact(hv.2 0 (by simp) (by simp)).toPV hp
   |succ i=>exact h2 i (by simpa using hi) (by simpa using hi')
  ·cases h
theorem zI(sz:Nat):∀(n:Nat) (l:List PV),(chunk sz n l).length=n
 |0,_=>rfl
 |n+1,l=>by simp[chunk,zI sz n]
theorem yA(sz:Nat):∀(n:Nat) (l:List PV),l.length=n*sz→∀i (h:i<(chunk sz n l).length),(chunk sz n l)[i].length=sz∧∀j (hj:j<(chunk sz n l)[i].length),l[i*sz+j]? = some (chunk sz n l)[i][j]
 |0,l,_,i,h=>by simp[chunk] at h
 |n+1,l,hl,i,h=>by
  rw[Nat.succ_mul] at hl;cases i with
  |zero=>
   simp only[chunk,List.getElem_cons_zero];refine⟨by simp;omega,fun j hj=>?_⟩;rw[Nat.zero_mul,Nat.zero_add,List.getElem_take,List.getElem?_eq_getElem]
  |succ i=>
   simp only[chunk,List.getElem_cons_succ];obtain⟨h1,h2⟩:=yA sz n (l.drop sz) (by simp;omega) i (by simpa[chunk] using h);refine⟨h1,fun j hj=>?_⟩;have:=h2 j hj;rw[List.getElem?_drop] at this;rw[←this];congr 1;rw[Nat.succ_mul];omega
theorem ny{K:Kn}{zc:List AV}{z:Array Value}(hv:VL K zc z.toList)(hp:0<zc.length)(n:Nat):VL K (kQ zc n) ((Array.range n).map (z[· % z.size]!)).toList:=by
 have hl:zc.length=z.size:=by have:=hv.1;simpa using this
 refine⟨by simp[kQ],fun i hi hi'=>?_⟩;have hlt:i%zc.length<zc.length:=Nat.mod_lt _ hp;have hlt':i%z.size<z.size:=Nat.mod_lt _ (by omega);have:=hv.2 (i%zc.length) hlt (by simpa[hl] using hlt');simp only[kQ,List.getElem_map,List.getElem_range,Array.toList_map,Array.toList_range];rw[List.getD_eq_getElem?_getD,List.getElem?_eq_getElem hlt,Option.getD_some];rw[getElem!_pos z (i%z.size) hlt'];simpa[hl] using this
theorem FE(K:Kn)(i g n sz cap:Nat)(cur:Array Value):(K.withTok i g n sz cap cur).Z g=cap:=by show (if g=g then cap else K.Z g)=cap;rw[if_pos rfl]
theorem FI(K:Kn)(i g n sz cap:Nat)(cur:Array Value):(K.withTok i g n sz cap cur).E g=sz:=by show (if g=g then sz else K.E g)=sz;rw[if_pos rfl]
theorem FH(K:Kn)(i g n sz cap:Nat)(cur:Array Value)(o:Nat)(h:o<n*sz)(hold:∀o v,K.M g o=some v→o<n*sz∧cur[o]? = some v):(K.withTok i g n sz cap cur).M g o=cur[o]?:=by
 show (if g=g∧o<n*sz then(K.M g o).or cur[o]? else K.M g o)=_;rw[if_pos ⟨rfl,h⟩];cases hk:K.M g o with
 |none=>rfl
 |some u=>exact(hold o u hk).2.symm
theorem pQ{i j n s:Nat}(hi:i<n)(hj:j<s):i*s+j<n*s:=by
 calc i*s+j<i*s+s:=by omega
  _=(i+1)*s:=by rw[Nat.succ_mul]
  _≤n*s:=Nat.mul_le_mul_right _ hi
theorem VR.ofTok{K K0:Kn}{t g n sz cap:Nat}{cur:Array Value}{es:List (List PV)}(hx:Ext K0 (K.withTok t g n sz cap cur))(hold:∀o v,K.M g o=some v→o<n*sz∧cur[o]? = some v)(hn:es.length=n)(hcap:n≤cap)(hsz:∀i (h:i<es.length),es[i].length=sz)
  (hc:∀i (h:i<es.length) j (hj:j<es[i].length),∃u,cur[i*sz+j]? = some u∧PR K0.R K0.M es[i][j] u) :
  VR (K.withTok t g n sz cap cur) (.trows t es) (.slice (some ⟨g,0,none⟩) n cap):=by
 have key:=VR.trows (K:=K.withTok t g n sz cap cur) t es g (fun i j=>(cur[i*sz+j]?).getD Go.undef) (Nh _ _ _ _ _ _ _) (by rw[FE,hn];exact hcap) (by rw[FI];exact hsz)
  (fun i hi j hj=>by
   rw[FI] at hj ⊢;rw[FH _ _ _ _ _ _ _ _ (by rw[←hn];exact pQ hi hj) hold];obtain⟨u,hu,_⟩:=hc i hi j (by rw[hsz i hi];exact hj);rw[hu];rfl)
  (fun i hi j hj=>by
   obtain⟨u,hu,hp⟩:=hc i hi j hj;show PR _ _ _ ((cur[i*sz+j]?).getD Go.undef);rw[hu];exact hp.ext hx)
 rw[FE,hn] at key;exact key
section
variable{P:Program}{o:Oper}{ρ:Operand→Value}{ρA:Operand→Option AV}{K:Kn}{h:List af}{w:World}
theorem Step.newRow(H:WR K h w){w':World}(ty:TypeId)(n sz cap:Nat)(cur:Array Value)(hw':w'.heap=w.heap.push (.cells cur ty))(hfr:lF (fun _=>False) w w')(hcs:cur.size=cap*sz)(hcap:cap≤maxLen){n':Nat}(hn':dl K.R n'=n) :
  Step K h w (K.withTok h.length w.heap.size n sz cap cur) (h++[.tok ty sz n']) w':=by
 refine Step.withTok H ty w.heap.size n sz cap cur (by rw[hw'];simp) hcs hcap (hfr.mono (fun _ _ h=>h.elim)) (fun o v hm=>?_) rfl (fun j x hj _=>⟨hj,fun e=>?_⟩) (fun i hi=>?_) (.inl (Nat.le_refl _)) hn'
 ·rw[H.noM (Nat.le_refl _) o] at hm;cases hm
 ·have:=H.lt j _ e;omega
 ·have:=H.lt i _ hi;omega
theorem zK(H:WR K h w)(hρ:∀x v,ρA x=some v→VR K v (ρ x)){t:TypeId}{len:Nat}{parts:Array (Nat×Operand)}{ps:List (Nat×AV)}{e:TypeId}{s:Nat}{pvs:List PV}
  (ho:o.op=.buildSlice t len parts) (hps:nU ρA parts.toList=some ps) (hb:O3 P t len ps=some (e,s,pvs)) :
  Eff P o ρ K h w (.trows h.length (chunk s len pvs)) (h++[.tok e s len]) []:=by
 unfold O3 at hb;split at hb
 ·rename_i e' hu
  split at hb
  ·rename_i zc s' hz hs
   split at hb
   ·rename_i hc
    split at hb
    ·rename_i out hf
     split at hb
     ·rename_i pvs' hp
      cases hb;obtain⟨ie,z,hi,hiz,hvz⟩:=dG (K:=K) hz;obtain⟨h1,h2⟩:=kV hρ _ _ hps;have hies:ie.size=s:=by unfold mO at hs;rw[hi] at hs;simpa using hs
      obtain⟨us,hfill,hvu⟩:=kG _ ps (gQ ρ parts.toList) _ ((Array.range (len*s)).map (z.cells[· % z.cells.size]!)) out (ny hvz (by omega) _) h1 h2 hf;obtain⟨hpl,hpr⟩:=mo hvu hp;have hout:∀(ps:List (Nat×AV)) (cells out:List AV),qp (fun i=>some (i*s,s)) cells ps=some out→out.length=cells.length:=by
       intro ps
       induction ps with
       |nil=>intro cells out hf;cases hf;rfl
       |cons q ps ih=>
        intro cells out hf;obtain⟨qi,qv⟩:=q;simp only[qp] at hf;split at hf
        ·cases hf
        ·rename_i hcond
         rw[ih _ _ hf];simp[setAt];omega
      have hol:=hout _ _ _ hf;have hzl:(kQ zc (len*s)).length=len*s:=by simp[kQ]
      have husz:us.size=len*s:=by have:=hvu.1;simp at this;omega
      have hlen:len≤16777216:=Nat.le_trans (Nat.le_mul_of_pos_right len hc.1) hc.2.2;have hrun:(execOp ρ o).run P w=.ok (.value (.slice (some ⟨w.heap.size,0,none⟩) len len)) (w.alloc (.cells us e)):=by
       have hp':(parts.map fun(i,x)=>(i,ρ x)).toList=gQ ρ parts.toList:=by simp[gQ]
       by_cases h0:len*s=0
       ·have hl0:len=0:=by
         rcases Nat.mul_eq_zero.1 h0 with h0|h0
         ·exact h0
         ·omega
        subst hl0;have e0:∀f:Nat→Value,(Array.range (0*s)).map f = #[]:=fun f=>by apply Array.ext';simp
        rw[e0] at hfill;simp only[execOp,ho,Instr.buildSlice,Sem.run_bind,run_underlying hu,Result.andThen_ok,iq hs];rw[if_neg (by simp),if_pos (by simp)];simp only[Sem.run_bind,Sem.run_pure,Result.andThen_ok,e0,hp',hfill];simp[newRow]
       ·have:=run_buildSlice (P:=P) w t e len (parts.map fun(i,x)=>(i,ρ x)) us ie z hu hi hiz (by rw[hies];have:=hc.2.2;omega) (by rw[hies];exact h0) (by rw[hies,hp'];exact hfill)
        simp only[execOp,ho,Sem.run_bind,this,Result.andThen_ok,Sem.run_pure]
      have hst:=Step.newRow H (w':=w.alloc (.cells us e)) e len s len us rfl (lF.alloc _ _ _) husz (by unfold maxLen;omega) (gT (by unfold bq;omega));refine⟨_,_,_,_,hrun,.inl rfl,VR.ofTok hst.ext (fun o v hmv=>by rw[H.noM (Nat.le_refl _) o] at hmv;cases hmv) (zI _ _ _) (Nat.le_refl _) (fun i hi=>?_) (fun i hi j hj=>?_),hst,lF.alloc _ _ _⟩
      ·exact(yA s len pvs (by rw[hpl];simpa using husz) i hi).1
      ·have hca:=(yA s len pvs (by rw[hpl];simpa using husz) i hi)
       have hg:=hca.2 j hj;have hlt:i*s+j<pvs.length:=by
        by_cases hh:i*s+j<pvs.length
        ·exact hh
        ·rw[List.getElem?_eq_none (by omega)] at hg;cases hg
       have hlt':i*s+j<us.toList.length:=by omega
       refine⟨us.toList[i*s+j],?_,?_⟩
       ·rw[←Array.getElem?_toList,List.getElem?_eq_getElem hlt']
       ·have:=hpr (i*s+j) hlt hlt'
        rw[List.getElem?_eq_getElem hlt] at hg
        rwa [Option.some.inj hg] at this
     ·cases hb
    ·cases hb
   ·cases hb
  ·cases hb
 ·cases hb
end
section
variable{P:Program}{o:Oper}{ρ:Operand→Value}{ρA:Operand→Option AV}{K:Kn}{h:List af}{w:World}
theorem xF{es:List (List PV)}{v:Value}{sz:Nat}(hv:PR K.R K.M (.rows es) v)(hne:es≠[])(hs:∀i (h:i<es.length),es[i].length=sz)(hp:0<sz) :
  ∃(g off cap:Nat) (news:List Value),v=.slice (some ⟨g,off,none⟩) es.length cap∧news.length=es.length*sz∧(∀j u,news[j]? = some u→K.M g (off+j)=some u)∧
   ∀i (h:i<es.length) j (hj:j<es[i].length),∃u,news[i*sz+j]? = some u∧PR K.R K.M es[i][j] u:=by
 cases hv with
 |rows es a cap g off sz' us ha hn hsz hc hr=>
  have hl0:0<es.length:=List.length_pos_iff.2 hne;have e:sz'=sz:=by rw[←hsz 0 hl0,hs 0 hl0]
  subst e;rw[ha hne];refine⟨g,off,cap,(List.range (es.length*sz')).map fun k=>us (k/sz') (k%sz'),rfl,by simp,fun j u hj=>?_,fun i hi j hj=>?_⟩
  ·have hlt:j<es.length*sz':=by
    by_cases hh:j<es.length*sz'
    ·exact hh
    ·rw[List.getElem?_eq_none (by simp;omega)] at hj;cases hj
   rw[List.getElem?_map,List.getElem?_range hlt] at hj;cases hj;have h1:j/sz'<es.length:=Nat.div_lt_of_lt_mul (by rw[Nat.mul_comm];exact hlt);have:=hc (j/sz') h1 (j%sz') (Nat.mod_lt _ hp);have e2:j/sz'*sz'+j%sz'=j:=by rw[Nat.mul_comm];exact Nat.div_add_mod j sz'
   rwa [Nat.add_assoc,e2] at this
  ·rw[hs i hi] at hj
   refine⟨us i j,?_,hr i hi j (by rw[hs i hi];exact hj)⟩;rw[List.getElem?_map,List.getElem?_range (pQ hi hj)];have e1:(i*sz'+j)/sz'=i:=by
    rw[Nat.add_comm,Nat.add_mul_div_right _ _ hp,Nat.div_eq_of_lt hj,Nat.zero_add]
   have e2:(i*sz'+j)%sz'=j:=by
    rw[Nat.add_comm,Nat.add_mul_mod_self_right,Nat.mod_eq_of_lt hj]
   simp[e1,e2]
theorem add_mid(g off j:Nat):(⟨g,off,none⟩:Addr).add j=⟨g,off+j,none⟩:=Addr.add_lit g off j
theorem jW(t ty e:TypeId)(i:TypeInfo)(hu:P.underlying t=some (.slice e))(hi:P.info? e=some i)(base a:Option Addr)(n cap c:Nat)(hn:n≤cap)(w':World) :
  (Builtin.append_ #[t,t] ty #[.slice base n cap,.slice a 0 c]).run P w'=.ok (.slice base n cap) w':=by
 cases base<;>cases a<;>simp[Builtin.append_,run_underlying hu,sizeOf,typeInfo,hi,Builtin.lenOf,hn,Builtin.firstCells,loadCells,loadCellsFrom,storeCells]
theorem dQ{args:Array Operand}{s x:Operand}(ha:args.toList=[s,x]){t:TypeId}{ts:Array TypeId}(hts:ts.toList=[t,t])(ho:o.op=.call ⟨.builtin .append,args,ts⟩){v:Value}{w':World}
  (hr:(Builtin.append_ #[t,t] o.type #[ρ s,ρ x]).run P w=.ok v w'):(execOp ρ o).run P w=.ok (.value v) w':=by
 have e1:args = #[s,x]:=by rw[←Array.toArray_toList (xs:=args),ha]
 have e2:ts = #[t,t]:=by rw[←Array.toArray_toList (xs:=ts),hts]
 subst e1;subst e2;simp only[execOp,ho,resolve,invoke,builtin,Sem.run_bind,Sem.run_pure,Result.andThen_ok,List.map_toArray,List.map_cons,List.map_nil,hr]
theorem iG{a:AV}{v:Value}(hv:VR K a v)(hn:bU a=true):v=.slice none 0 0:=by
 unfold bU at hn;split at hn
 ·exact eO hv rfl
 ·cases hn
theorem pV{dlf enc:Nat→Nat}(H:WR K h w){args:Array Operand}{s x:Operand}(ha:args.toList=[s,x]){t:TypeId}{ts:Array TypeId}(hts:ts.toList=[t,t])(ho:o.op=.call ⟨.builtin .append,args,ts⟩)
  {sA:AV} (hs:VR K sA (ρ s)) {es':List (List PV)} (hx:PR K.R K.M (.rows es') (ρ x)∨(es'=[]∧ρ x=.slice none 0 0)) {v:AV} {h':List af} {touch:List Nat} (hq:rQ dlf enc P t sA es' h=some (v,h',touch))
  (hdl:∀n,dlf n≤1000000000000→dlf n=dl K.R n)
  (henc:∀es,rowsOf sA=some es→es.length+es'.length≤1000000000000→dl K.R (enc (es.length+es'.length))=es.length+es'.length)
  (henc0:bU sA=true→es'.length≤1000000000000→dl K.R (enc es'.length)=es'.length) :
  Eff P o ρ K h w v h' touch:=by
 unfold rQ at hq;split at hq
 ·rename_i e hu
  split at hq
  ·rename_i sz by_ zc hsz hby hz
   obtain⟨i,z,hi,hiz,hvz⟩:=dG (K:=K) hz;have his:i.size=sz:=by unfold mO at hsz;rw[hi] at hsz;simpa using hsz
   have hib:i.bytes=by_:=by unfold iT at hby;rw[hi] at hby;simpa using hby
   split at hq
   ·split at hq
    ·rename_i hc
     cases hq;obtain⟨base,n,cap,hse,hn⟩:∃base n cap,ρ s=.slice base n cap∧n≤cap:=by
      rw[Bool.or_eq_true] at hc;rcases hc with hc|hc
      ·exact⟨none,0,0,iG hs hc,Nat.le_refl _⟩
      ·cases hr:rowsOf sA with
       |none=>rw[hr] at hc;cases hc
       |some es=>
        have:=fM hs hr;generalize ρ s=sv at this;cases this with
        |rows _ a cap g off sz us ha hn _ _ _=>exact⟨a,_,cap,rfl,hn⟩
     obtain⟨a,c,hxe⟩:∃a c,ρ x=.slice a 0 c:=by
      rcases hx with hx|⟨_,hx⟩
      ·generalize ρ x=xv at hx
       cases hx with
       |rows _ a cap g off sz us ha hn _ _ _=>exact⟨a,cap,rfl⟩
      ·exact⟨none,0,hx⟩
     refine⟨_,ρ s,w,K,dQ ha hts ho (v:=ρ s) ?_,.inl rfl,hs,Step.refl H,lF.refl _ _⟩;rw[hse,hxe];exact jW t o.type e i hu hi base a n cap c hn w
    ·cases hq
   ·rename_i c0 cs0
    split at hq
    ·rename_i hc
     obtain⟨hp,hzl,hall⟩:=hc;have hsize:∀k (hk:k<(c0::cs0).length),(c0::cs0)[k].length=sz:=by
      intro k hk;rw[List.all_eq_true] at hall;simpa using hall _ (List.getElem_mem hk)
     have hx':PR K.R K.M (.rows (c0::cs0)) (ρ x):=by
      rcases hx with hx|⟨hx,_⟩
      ·exact hx
      ·cases hx
     obtain⟨gx,offx,capx,news,hxe,hnl,hnM,hnP⟩:=xF hx' (by simp) hsize hp;have hncell:∀j u,news[j]? = some u→w.cell? ((⟨gx,offx,none⟩:Addr).add j)=some u:=fun j u hj=>by
      rw[add_mid];exact H.agr _ _ _ (hnM j u hj)
     have h1:∀u∈news,u.oneCell'=true:=by
      intro u hu';obtain⟨k,hk,rfl⟩:=List.getElem_of_mem hu';have hk':=hk;rw[hnl] at hk;have h1:k/sz<(c0::cs0).length:=Nat.div_lt_of_lt_mul (by rw[Nat.mul_comm];exact hk);obtain⟨u',hu1,hu2⟩:=hnP (k/sz) h1 (k%sz) (by rw[hsize _ h1];exact Nat.mod_lt _ hp);have e2:k/sz*sz+k%sz=k:=by rw[Nat.mul_comm];exact Nat.div_add_mod k sz
      rw[e2,List.getElem?_eq_getElem hk'] at hu1;rw[Option.some.inj hu1];exact hu2.one
     have hzs:z.cells.size=sz:=by have:=hvz.1;simp at this;omega
     split at hq
     ·rename_i tk es
      split at hq
      ·rename_i ty sz' len htk
       split at hq
       ·rename_i hcond
        obtain⟨rfl,rfl,hlen,hmx,hbt⟩:=hcond;cases hq;obtain⟨g,cs,hm,hwg,hcs,hE,hZ,hMn⟩:=H.tok tk ty sz' len htk;generalize hse:ρ s=sv at hs;cases hs with
        |trows _ _ g' us hm' hn' hsz' hc' hr'=>
         rw[hm] at hm';cases hm';rw[hE] at hsz' hc';have hdl':dl K.R len=es.length:=by rw[←hdl len (by omega),hlen]
         rw[←hlen] at hmx hbt;have henc':=henc es rfl (by omega);rw[hdl'] at hMn;rw[←hlen];have hold:∀o v,K.M g o=some v→o<es.length*sz'∧cs[o]? = some v:=by
          intro o v hmv;refine⟨?_,?_⟩
          ·by_cases hh:o<es.length*sz'
           ·exact hh
           ·rw[hMn o (by omega)] at hmv;cases hmv
          ·have:=H.agr g o v hmv
           simpa[World.cell?,hwg] using this
         have hcell:∀i (hi:i<es.length) j (hj:j<es[i].length),∃u,cs[i*sz'+j]? = some u∧PR K.R K.M es[i][j] u:=by
          intro i hi j hj;have hj':=hj;rw[hsz' i hi] at hj';exact⟨us i j,(hold _ _ (hc' i hi j hj')).2,hr' i hi j hj⟩
         have hmul:es.length*sz'≤cs.size:=by rw[hcs];exact Nat.mul_le_mul_right _ hn'
         have hsetlen:(h.set tk .dead).length=h.length:=by simp
         have htl:tk<h.length:=by
          by_cases hh:tk<h.length
          ·exact hh
          ·rw[List.getElem?_eq_none (by omega)] at htk;cases htk
         have hlive:∀(j:Nat) x,(h.set tk .dead)[j]? = some x→x.live=true→h[j]? = some x∧j≠tk:=by
          intro j x hj hl;rw[List.getElem?_set] at hj;by_cases ej:tk=j
          ·rw[if_pos ej,if_pos (by omega)] at hj;cases hj;cases hl
          ·rw[if_neg ej] at hj;exact⟨hj,fun e=>ej e.symm⟩
         have esz:∀k (hk:k<(es++c0::cs0).length),(es++c0::cs0)[k].length=sz':=by
          intro k hk;by_cases hkl:k<es.length
          ·rw[List.getElem_append_left hkl];exact hsz' k hkl
          ·rw[List.getElem_append_right (by omega)];exact hsize _ _
         have ecell:∀(cur:Array Value),(∀q,q<es.length*sz'→cur[q]? = cs[q]?)→(∀q,q<news.length→cur[es.length*sz'+q]? = news[q]?)→
           ∀i (hi:i<(es++c0::cs0).length) j (hj:j<(es++c0::cs0)[i].length),∃u,cur[i*sz'+j]? = some u∧PR K.R K.M (es++c0::cs0)[i][j] u:=by
          intro cur hq1 hq2 i hi j hj;by_cases hil:i<es.length
          ·have e1:(es++c0::cs0)[i]=es[i]:=List.getElem_append_left hil
           have hj1:j<es[i].length:=by rw[←e1];exact hj
           obtain⟨u,hu1,hu2⟩:=hcell i hil j hj1;refine⟨u,?_,by simpa[e1] using hu2⟩;rw[hq1 _ (pQ hil (by rw[←hsz' i hil];exact hj1))];exact hu1
          ·have e1:(es++c0::cs0)[i]=(c0::cs0)[i-es.length]'(by simp at hi ⊢;omega):=List.getElem_append_right (by omega)
           have hi1:i-es.length<(c0::cs0).length:=by simp at hi ⊢;omega
           have hj1:j<((c0::cs0)[i-es.length]).length:=by rw[←e1];exact hj
           obtain⟨u,hu1,hu2⟩:=hnP (i-es.length) hi1 j hj1;refine⟨u,?_,by simpa[e1] using hu2⟩;have hjs:j<sz':=by rw[←hsize _ hi1];exact hj1
           have e2:i*sz'+j=es.length*sz'+((i-es.length)*sz'+j):=by
            rw[←Nat.add_assoc,←Nat.add_mul];congr 2;omega
           rw[e2,hq2 _ (by rw[hnl];exact pQ hi1 hjs)];exact hu1
         by_cases hroom:es.length+(c0::cs0).length≤K.Z g
         ·have hfit:es.length*sz'+news.length≤cs.size:=by rw[hnl,hcs,←Nat.add_mul];exact Nat.mul_le_mul_right _ hroom
          have hrun:=run_append_room (P:=P) w t o.type ty i hu hi g es.length (K.Z g) cs hwg ⟨gx,offx,none⟩ (c0::cs0).length capx news (by rw[his];exact hnl) hncell h1 hroom (by rw[his];exact hfit);rw[his] at hrun;rw[←hse,←hxe] at hrun;generalize hcur:(cs.toList.take (es.length*sz')++news++cs.toList.drop (es.length*sz'+news.length)).toArray=cur at hrun;have hcurs:cur.size=K.Z g*sz':=by rw[←hcur,←hcs];simp;omega
          have q1:∀q,q<es.length*sz'→cur[q]? = cs[q]?:=by
           intro q hq;rw[←hcur,List.getElem?_toArray,List.append_assoc,List.getElem?_append_left (by simp;omega),List.getElem?_take,if_pos hq,Array.getElem?_toList]
          have q2:∀q,q<news.length→cur[es.length*sz'+q]? = news[q]?:=by
           intro q hq;rw[←hcur,List.getElem?_toArray,List.getElem?_append_left (by simp;omega),List.getElem?_append_right (by simp;omega)];congr 1;simp;omega
          have hst:=Step.withTok H (h1:=h.set tk .dead) (w':=w.setRow g cur) ty g (es.length+(c0::cs0).length) sz' (K.Z g) cur (setRow_heap w g cs cur ty _ hwg) hcurs hZ ⟨rfl,rfl,rfl,by simp[World.setRow],fun k _ hk=>setRow_other w g k _ hk⟩
           (fun o v hmv=>by
            obtain⟨h2,h3⟩:=hold o v hmv;exact⟨Nat.lt_of_lt_of_le h2 (Nat.mul_le_mul_right _ (by omega)),by rw[q1 o h2];exact h3⟩)
           hsetlen (fun j x hj hl=>by
            obtain⟨h2,h3⟩:=hlive j x hj hl;exact⟨h2,fun e=>h3 (H.inj j tk x _ g h2 htk hl rfl e hm)⟩)
           (fun i _=>⟨rfl,hE⟩) (.inr ⟨tk,_,htk,rfl,hm⟩) henc'
          refine⟨_,_,_,_,dQ ha hts ho hrun,.inl rfl,VR.ofTok hst.ext (fun o v hmv=>by
            obtain⟨h2,h3⟩:=hold o v hmv;exact⟨Nat.lt_of_lt_of_le h2 (Nat.mul_le_mul_right _ (by omega)),by rw[q1 o h2];exact h3⟩) (by simp) hroom esz (ecell cur q1 q2),hst,⟨rfl,rfl,rfl,by simp[World.setRow],fun k _ hk=>setRow_other w g k _ (fun e=>hk ⟨tk,_,by simp,htk,rfl,by rw[e];exact hm⟩)⟩⟩
         ·have holds:∀j v,(cs.toList.take (es.length*sz'))[j]? = some v→w.cell? ((⟨g,0,none⟩:Addr).add j)=some v:=by
           intro j v hj;rw[add_mid,Nat.zero_add];rw[List.getElem?_take] at hj;split at hj
           ·rw[Array.getElem?_toList] at hj
            simp[World.cell?,hwg,hj]
           ·cases hj
          have hrun:=run_append_grow (P:=P) w t o.type ty i z hu hi hiz ⟨g,0,none⟩ es.length (K.Z g) (cs.toList.take (es.length*sz')) (by rw[his];simp;omega) holds ⟨gx,offx,none⟩ (c0::cs0).length capx news (by rw[his];exact hnl) hncell (by omega) (by omega) (growslice_fits (by omega) (by rw[hib];exact hbt));rw[←hse,←hxe] at hrun;have hge:=grownCap_ge w (es.length+(c0::cs0).length) (K.Z g) ty;have hcm:=grownCap_le_maxLen w (es.length+(c0::cs0).length) (K.Z g) ty (by unfold maxLen;omega);generalize grownCap w (es.length+(c0::cs0).length) (K.Z g) ty=cap at *;generalize hcur:(cs.toList.take (es.length*sz')).toArray++news.toArray++Builtin.zeroCells z.cells (cap-(es.length+(c0::cs0).length))=cur at hrun;have hcurs:cur.size=cap*sz':=by
           rw[←hcur];simp only[Array.size_append,List.size_toArray,size_zeroCells,hzs,hnl,List.length_take,Array.length_toList,Nat.min_eq_left hmul,←Nat.add_mul];congr 1;omega
          have q1:∀q,q<es.length*sz'→cur[q]? = cs[q]?:=by
           intro q hq;rw[←hcur,Array.getElem?_append_left (by simp;omega),Array.getElem?_append_left (by simp;omega),List.getElem?_toArray,List.getElem?_take,if_pos hq,Array.getElem?_toList]
          have q2:∀q,q<news.length→cur[es.length*sz'+q]? = news[q]?:=by
           intro q hq;rw[←hcur,Array.getElem?_append_left (by simp;omega),Array.getElem?_append_right (by simp;omega),List.getElem?_toArray];congr 1;simp;omega
          have hst:=Step.withTok H (h1:=h.set tk .dead) (w':=w.drew.alloc (.cells cur ty)) ty w.heap.size (es.length+(c0::cs0).length) sz' cap cur (heap_alloc_new w.drew _) hcurs hcm (lF.drewAlloc _ _ _)
           (fun o v hmv=>by rw[H.noM (Nat.le_refl _) o] at hmv;cases hmv)
           hsetlen (fun j x hj hl=>by
            obtain⟨h2,h3⟩:=hlive j x hj hl;exact⟨h2,fun e=>by have:=H.lt j _ e;omega⟩)
           (fun i hi=>by have:=H.lt i _ hi;omega) (.inl (Nat.le_refl _)) henc'
          refine⟨_,_,_,_,dQ ha hts ho hrun,.inl rfl,VR.ofTok hst.ext (fun o v hmv=>by rw[H.noM (Nat.le_refl _) o] at hmv;cases hmv) (by simp) hge esz (ecell cur q1 q2),hst,lF.drewAlloc _ _ _⟩
       ·cases hq
      ·cases hq
     ·split at hq
      ·rename_i hcond
       obtain⟨hnil,hmx,hbt⟩:=hcond;cases hq;have hse:=iG hs hnil;have hrun:=run_append_nil (P:=P) w t o.type e i z hu hi hiz ⟨gx,offx,none⟩ (c0::cs0).length capx news (by rw[his];exact hnl) hncell (by simp) (by omega) (by rw[hib];omega);rw[←hse,←hxe] at hrun;have hge:=grownCap_ge w (c0::cs0).length 0 e;have hcm:=grownCap_le_maxLen w (c0::cs0).length 0 e (by unfold maxLen;omega);generalize grownCap w (c0::cs0).length 0 e=cap at *;generalize hcur:news.toArray++Builtin.zeroCells z.cells (cap-(c0::cs0).length)=cur at hrun;have hcurs:cur.size=cap*sz:=by
        rw[←hcur];simp only[Array.size_append,List.size_toArray,size_zeroCells,hzs,hnl,←Nat.add_mul];congr 1;omega
       have hst:=Step.newRow H (w':=w.drew.alloc (.cells cur e)) e (c0::cs0).length sz cap cur rfl (lF.drewAlloc _ _ _) hcurs hcm (henc0 hnil hmx);refine⟨_,_,_,_,dQ ha hts ho hrun,.inl rfl,VR.ofTok hst.ext (fun o v hmv=>by rw[H.noM (Nat.le_refl _) o] at hmv;cases hmv) rfl hge hsize (fun i hi j hj=>?_),hst,lF.drewAlloc _ _ _⟩;obtain⟨u,hu1,hu2⟩:=hnP i hi j hj;refine⟨u,?_,hu2⟩;have hjs:j<sz:=by rw[←hsize _ hi];exact hj
       rw[←hcur,Array.getElem?_append_left (by rw[List.size_toArray,hnl];exact pQ hi hjs),List.getElem?_toArray];exact hu1
      ·cases hq
    ·cases hq
  ·cases hq
 ·cases hq
theorem yF(H:WR K h w){args:Array Operand}{s x:Operand}(ha:args.toList=[s,x]){t:TypeId}{ts:Array TypeId}(hts:ts.toList=[t,t])(ho:o.op=.call ⟨.builtin .append,args,ts⟩)
  {sA:AV} (hs:VR K sA (ρ s)) {es':List (List PV)} (hx:PR K.R K.M (.rows es') (ρ x)∨(es'=[]∧ρ x=.slice none 0 0)) {v:AV} {h':List af} {touch:List Nat} (hq:yG P t sA es' h=some (v,h',touch)) :
  Eff P o ρ K h w v h' touch:=
 pV H ha hts ho hs hx hq (fun n hn=>(gT (by unfold bq;simp only[id] at hn ⊢;omega)).symm) (fun es _ hn=>gT (by unfold bq;simp only[id];omega)) (fun _ hn=>gT (by unfold bq;simp only[id];omega))
end
end Go.Proofs.YtijcobeebaceoaaGreatDoor
namespace Go.Proofs.YtijcobeebaceoaaGreatDoor
open Go.RowKit
section
variable{P:Program}{o:Oper}{ρ:Operand→Value}{ρA:Operand→Option AV}{K:Kn}{h:List af}{w:World}
theorem Ve(H:WR K h w)(hρ:∀x v,ρA x=some v→VR K v (ρ x)){v:AV}{h':List af}{touch:List Nat}(hq:eop P o.op ρA h=some (v,h',touch)):Eff P o ρ K h w v h' touch:=by
 unfold eop at hq;split at hq
 ·rename_i t ho
  split at hq
  ·rename_i l hz
   cases hq;exact MZ H ho hz
  ·cases hq
 ·rename_i t x ho
  split at hq
  ·rename_i r hr
   cases hq;exact Vl H hρ ho hr
  ·cases hq
 ·rename_i t len parts ho
  split at hq
  ·rename_i ps hps
   split at hq
   ·rename_i e s pvs hb
    cases hq;exact zK H hρ ho hps hb
   ·cases hq
  ·cases hq
 ·rename_i t x y ho
  split at hq
  ·rename_i i off r hx hy
   split at hq
   ·rename_i bt cells hi
    split at hq
    ·rename_i hc
     cases hq;exact Kv H hρ ho hx hy hi hc.1 hc.2.1 hc.2.2
    ·cases hq
   ·cases hq
  ·cases hq
 ·rename_i args ts ho
  split at hq
  ·rename_i s x t t' hops hts
   split at hq
   ·rename_i ht
    subst ht;have hv:=iJ hρ _ _ hops;obtain⟨so,xo,ha⟩:∃so xo,args.toList=[so,xo]:=by
     have:=hv.1
     match hargs:args.toList with
     |[]=>rw[hargs] at this;simp at this
     |[_]=>rw[hargs] at this;simp at this
     |[a,b]=>exact⟨a,b,rfl⟩
     |_::_::_::_=>rw[hargs] at this;simp at this
    rw[ha] at hv;have hs:=hv.2 0 (by simp) (by simp);have hx:=hv.2 1 (by simp) (by simp);simp only[List.getElem_cons_zero,List.getElem_cons_succ,List.map_cons,List.map_nil] at hs hx;split at hq
    ·rename_i es' hes
     exact yF H ha hts ho hs (.inl (fM hx hes)) hq
    ·split at hq
     ·rename_i hn
      exact yF H ha hts ho hs (.inr ⟨rfl,iG hx hn⟩) hq
     ·cases hq
   ·cases hq
  ·cases hq
 ·cases hq
end
mutual
/-- An abstract value under other names of the objects. -/
def ren(f:Nat→Option Nat):AV→Option AV
 |.pv p=>some (.pv p)
 |.trows t es=>(f t).map fun t'=>.trows t' es
 |.tsym t i=>(f t).map fun t'=>.tsym t' i
 |.ptr i o=>(f i).map fun i'=>.ptr i' o
 |.cptr cs=>some (.cptr cs)
 |.agg l=>(nR f l).map .agg
 |.tup l=>(nR f l).map .tup
 |.fn g l=>(nR f l).map (.fn g)
 |.sl t lo len sz=>(f t).map fun t'=>.sl t' lo len sz
 |.ifc t v=>(ren f v).map (.ifc t)
 |.arr t=>(f t).map .arr
 |.aptr t i o=>(f t).map fun t'=>.aptr t' i o
def nR(f:Nat→Option Nat):List AV→Option (List AV)
 |[]=>some []
 |a::l=>match ren f a,nR f l with
  |some b,some r=>some (b::r)
  |_,_=>none
end
theorem jQ{f:Nat→Option Nat}:∀{l l':List AV},nR f l=some l'→l'.length=l.length
 |[],l',h=>by rw[nR] at h;cases h;rfl
 |a::l,l',h=>by
  rw[nR] at h;split at h
  ·rename_i b r _ hr
   cases h;simp[jQ hr]
  ·cases h
theorem qM{f:Nat→Option Nat}:∀{l l':List AV},nR f l=some l'→∀i (h:i<l.length) (h':i<l'.length),ren f l[i]=some l'[i]
 |[],l',h,i,hi,_=>by simp at hi
 |a::l,l',h,i,hi,hi'=>by
  rw[nR] at h;split at h
  ·rename_i b r hb hr
   cases h;cases i with
   |zero=>exact hb
   |succ i=>exact qM hr i (by simpa using hi) (by simpa using hi')
  ·cases h
structure Ren(f:Nat→Option Nat)(K K':Kn):Prop where
 M:K'.M=K.M
 Z:K'.Z=K.Z
 E:K'.E=K.E
 R:K'.R=K.R
 mu:∀i j g,f i=some j→K.mu i=some g→K'.mu j=some g
 N:∀i j g,f i=some j→K.mu i=some g→K'.N j=K.N i
theorem qj{f:Nat→Option Nat}{K K':Kn}(R:Ren f K K'){a:AV}{v:Value}(h:VR K a v):∀{b:AV},ren f a=some b→VR K' b v:=by
 induction h with
 |pv h=>intro b hb;rw[ren] at hb;cases hb;exact .pv (by rw[R.M,R.R];exact h)
 |trows t es g us hm hn hsz hc hr=>
  intro b hb;rw[ren] at hb;obtain⟨t',ht',e⟩:=aG hb;subst e;have key:=VR.trows (K:=K') t' es g us (R.mu t t' g ht' hm) (by rw[R.Z];exact hn) (by rw[R.E];exact hsz) (by rw[R.E,R.M];exact hc) (by rw[R.M,R.R];exact hr);rw[R.Z] at key;exact key
 |tsym t i es hi _ ih=>
  intro b hb;rw[ren] at hb;obtain⟨t',ht',e⟩:=aG hb;subst e;exact .tsym t' i es (by rw[R.R];exact hi) (ih (by rw[ren,ht'];rfl))
 |ptr i o g hm=>
  intro b hb;rw[ren] at hb;obtain⟨t',ht',e⟩:=aG hb;subst e;exact .ptr t' o g (R.mu i t' g ht' hm)
 |cptr cs g o us hc hr=>intro b hb;rw[ren] at hb;cases hb;exact .cptr cs g o us (by rw[R.M];exact hc) (by rw[R.M,R.R];exact hr)
 |agg l cs hl _ ih=>
  intro b hb;rw[ren] at hb;obtain⟨l',hl',e⟩:=aG hb;subst e;have h1:=jQ hl';exact .agg l' cs (by omega) (fun i hi hi'=>ih i (by omega) hi' (qM hl' i (by omega) hi))
 |tup l cs hl _ ih=>
  intro b hb;rw[ren] at hb;obtain⟨l',hl',e⟩:=aG hb;subst e;have h1:=jQ hl';exact .tup l' cs (by omega) (fun i hi hi'=>ih i (by omega) hi' (qM hl' i (by omega) hi))
 |fn g l cs hl _ hg ih=>
  intro b hb;rw[ren] at hb;obtain⟨l',hl',e⟩:=aG hb;subst e;have h1:=jQ hl';exact .fn g l' cs (by omega) (fun i hi hi'=>ih i (by omega) hi' (qM hl' i (by omega) hi)) hg
 |bfn f2 g l cs hl _ hg ih=>
  intro b hb;rw[ren] at hb;obtain⟨l',hl',e⟩:=aG hb;subst e;have h1:=jQ hl';exact .bfn f2 g l' cs (by omega) (fun i hi hi'=>ih i (by omega) hi' (qM hl' i (by omega) hi)) hg
 |sl t lo len sz g cap off hm he hl hz hof=>
  intro b hb;rw[ren] at hb;obtain⟨t',ht',e⟩:=aG hb;subst e;exact .sl t' lo len sz g cap off (R.mu t t' g ht' hm) (by rw[R.E];exact he) hl (by rw[R.Z];exact hz) hof
 |ifc t _ ih=>
  intro b hb;rw[ren] at hb;obtain⟨v',hv',e⟩:=aG hb;subst e;exact .ifc t (ih hv')
 |arr t g cap hm hn hz=>
  intro b hb;rw[ren] at hb;obtain⟨t',ht',e⟩:=aG hb;subst e;have key:=VR.arr (K:=K') t' g cap (R.mu t t' g ht' hm) (by rw[R.N t t' g ht' hm];exact hn) (by rw[R.Z];exact hz);rw[R.N t t' g ht' hm] at key;exact key
 |aptr t i o g k kd hm hi hk=>
  intro b hb;rw[ren] at hb;obtain⟨t',ht',e⟩:=aG hb;subst e;have key:=VR.aptr (K:=K') t' i o g k kd (R.mu t t' g ht' hm) (by rw[R.M,R.R];exact hi) (by rw[R.N t t' g ht' hm];exact hk);rw[R.E] at key;exact key
theorem qL{f:Nat→Option Nat}{K K':Kn}(R:Ren f K K'){l l':List AV}{cs:List Value}(h:VL K l cs)(hl:nR f l=some l'):VL K' l' cs:=by
 have h1:=jQ hl;exact⟨by rw[h1];exact h.1,fun i hi hi'=>qj R (h.2 i (by omega) hi') (qM hl i (by omega) hi)⟩
theorem aoN{f:Nat→Option Nat}{a:AV}{q:PV}(h:ren f a=some (.pv q)):a=.pv q:=by
 cases a with
 |pv p=>rw[ren] at h;cases h;rfl
 |cptr cs=>rw[ren] at h;cases h
 |_=>rw[ren] at h;obtain⟨_,_,e⟩:=aG h;cases e
theorem WY(f:Nat→Option Nat):∀l:List PV,nR f (l.map .pv)=some (l.map .pv)
 |[]=>by rw[List.map_nil,nR]
 |c::l=>by rw[List.map_cons,nR,WY f l,ren]
def iD(f:Nat→Option Nat):af→Option af
 |.box ty cells=>(nR f cells).map (.box ty)
 |.tok ty sz len=>some (.tok ty sz len)
 |.dead=>some .dead
 |.arr ty sz p=>some (.arr ty sz p)
def Fj(f:Nat→Option Nat):List af→Option (List af)
 |[]=>some []
 |a::l=>match iD f a,Fj f l with
  |some b,some r=>some (b::r)
  |_,_=>none
theorem Cu{f:Nat→Option Nat}:∀{l l':List af},Fj f l=some l'→l'.length=l.length
 |[],l',h=>by rw[Fj] at h;cases h;rfl
 |a::l,l',h=>by
  rw[Fj] at h;split at h
  ·rename_i b r _ hr
   cases h;simp[Cu hr]
  ·cases h
theorem A7{f:Nat→Option Nat}:∀{l l':List af},Fj f l=some l'→∀(i:Nat) y,l'[i]? = some y→∃x,l[i]? = some x∧iD f x=some y
 |[],l',h,i,y,hy=>by rw[Fj] at h;cases h;simp at hy
 |a::l,l',h,i,y,hy=>by
  rw[Fj] at h;split at h
  ·rename_i b r hb hr
   cases h;cases i with
   |zero=>simp at hy;subst hy;exact⟨a,rfl,hb⟩
   |succ i=>simpa using A7 hr i y (by simpa using hy)
  ·cases h
theorem ko{f:Nat→Option Nat}{x y:af}(h:iD f x=some y):y.live=x.live:=by
 cases x with
 |box ty c=>rw[iD] at h;obtain⟨l',_,e⟩:=aG h;subst e;rfl
 |tok=>rw[iD] at h;cases h;rfl
 |dead=>rw[iD] at h;cases h;rfl
 |arr=>rw[iD] at h;cases h;rfl
def CP(h:List af):List Nat→Option (List af)
 |[]=>some []
 |i::l=>match h[i]?,CP h l with
  |some x,some r=>some (x::r)
  |_,_=>none
theorem FW{h:List af}:∀{l:List Nat} {r:List af},CP h l=some r→r.length=l.length
 |[],r,hh=>by cases hh;rfl
 |i::l,r,hh=>by
  rw[CP] at hh;split at hh
  ·rename_i x r' _ hr
   cases hh;simp[FW hr]
  ·cases hh
theorem Lc{h:List af}:∀{l:List Nat} {r:List af},CP h l=some r→∀(k:Nat) x,r[k]? = some x→∃i,l[k]? = some i∧h[i]? = some x
 |[],r,hh,k,x,hx=>by cases hh;simp at hx
 |i::l,r,hh,k,x,hx=>by
  rw[CP] at hh;split at hh
  ·rename_i y r' hy hr
   cases hh;cases k with
   |zero=>simp at hx;subst hx;exact⟨i,rfl,hy⟩
   |succ k=>simpa using Lc hr k x (by simpa using hx)
  ·cases hh
def posOf(i:Nat):List Nat→Option Nat
 |[]=>none
 |x::l=>if x=i then some 0 else(posOf i l).map (· + 1)
theorem vY{i:Nat}:∀{l:List Nat} {j:Nat},posOf i l=some j→l[j]? = some i
 |[],j,h=>by cases h
 |x::l,j,h=>by
  rw[posOf] at h;split at h
  ·rename_i e;cases h;subst e;rfl
  ·obtain⟨k,hk,e⟩:=aG h
   subst e;simpa using vY hk
def nodupB:List Nat→Bool
 |[]=>true
 |x::l=>!(l.elem x)&&nodupB l
theorem wB:∀{l:List Nat},nodupB l=true→∀{i j x:Nat},l[i]? = some x→l[j]? = some x→i=j
 |[],_,i,j,x,h,_=>by simp at h
 |y::l,h,i,j,x,hi,hj=>by
  rw[nodupB,Bool.and_eq_true] at h;have hn:∀k:Nat,l[k]? = some y→False:=by
   intro k hk;have:=List.mem_of_getElem? hk;simp[this] at h
  cases i with
  |zero=>
   cases j with
   |zero=>rfl
   |succ j=>simp at hi hj;subst hi;exact(hn j hj).elim
  |succ i=>
   cases j with
   |zero=>simp at hi hj;subst hj;exact(hn i hi).elim
   |succ j=>simp at hi hj;rw[wB h.2 hi hj]
def Kn.sub(K:Kn)(ids:List Nat):Kn:={K with mu:=fun k=>(ids[k]?).bind K.mu,N:=fun k=>match ids[k]? with
 |some i=>K.N i
 |none=>0 }
theorem Uh{K:Kn}{ids:List Nat}{k i:Nat}(h:ids[k]? = some i):(K.sub ids).N k=K.N i:=by
 show (match ids[k]? with|some i=>K.N i|none=>0)=K.N i;rw[h]
theorem Ns{K:Kn}{ids:List Nat}{k g:Nat}(h:(K.sub ids).mu k=some g):∃i,ids[k]? = some i∧K.mu i=some g:=by
 change (ids[k]?).bind K.mu=some g at h;cases hi:ids[k]? with
 |none=>rw[hi] at h;cases h
 |some i=>rw[hi] at h;exact⟨i,rfl,h⟩
theorem mR{K:Kn}{ids:List Nat}{k i:Nat}(h:ids[k]? = some i):(K.sub ids).mu k=K.mu i:=by
 show (ids[k]?).bind K.mu=K.mu i;rw[h];rfl
theorem Ren.sub(K:Kn)(ids:List Nat):Ren (fun i=>posOf i ids) K (K.sub ids):=
 ⟨rfl,rfl,rfl,rfl,fun i j g hf hm=>by rw[mR (vY hf)];exact hm,fun i j g hf _=>Uh (vY hf)⟩
def u7(h:List af)(ids:List Nat):Option (List af):=match CP h ids with
 |some r=>Fj (fun i=>posOf i ids) r
 |none=>none
theorem qb{h:List af}{ids:List Nat}{hs:List af}(hh:u7 h ids=some hs):hs.length=ids.length∧∀(k:Nat) y,hs[k]? = some y→∃i x,ids[k]? = some i∧h[i]? = some x∧iD (fun i=>posOf i ids) x=some y:=by
 unfold u7 at hh;split at hh
 ·rename_i r hr
  refine⟨by rw[Cu hh,FW hr],fun k y hy=>?_⟩;obtain⟨x,hx,hxy⟩:=A7 hh k y hy;obtain⟨i,hi,hix⟩:=Lc hr k x hx;exact⟨i,x,hi,hix,hxy⟩
 ·cases hh
theorem sK{h:List af}{ids:List Nat}{hs:List af}(hh:u7 h ids=some hs){k i:Nat}(hk:ids[k]? = some i):i<h.length:=by
 obtain⟨hl,hs'⟩:=qb hh;have hlt:k<hs.length:=by
  rw[hl];by_cases hlt:k<ids.length
  ·exact hlt
  ·rw[List.getElem?_eq_none (by omega)] at hk;cases hk
 obtain⟨i',x,hi,hx,_⟩:=hs' k hs[k] (List.getElem?_eq_getElem hlt);rw[hk] at hi;cases hi;by_cases hlt:i<h.length
 ·exact hlt
 ·rw[List.getElem?_eq_none (by omega)] at hx;cases hx
theorem WR.sub{K:Kn}{h:List af}{w:World}(H:WR K h w){ids:List Nat}{hs:List af}(hn:nodupB ids=true)(hh:u7 h ids=some hs):WR (K.sub ids) hs w:=by
 obtain⟨hl,hsp⟩:=qb hh;have R:=Ren.sub K ids;refine⟨fun k hk=>?_,fun k hk=>?_,fun k g hk=>?_,fun k ty cells hk=>?_,fun k ty sz len hk=>?_,fun a b x y g ha hb hlx hly hma hmb=>?_,fun k ty cells g hk hm o=>?_,H.agr,fun k ty sz p hk=>?_⟩
 ·show (ids[k]?).bind K.mu=none
  rw[List.getElem?_eq_none (by omega)];rfl
 ·have hk':k<ids.length:=by omega
  have e:=List.getElem?_eq_getElem hk';obtain⟨g,hg⟩:=H.has _ (sK hh e);exact⟨g,by rw[mR e];exact hg⟩
 ·obtain⟨i,_,hm⟩:=Ns hk
  exact H.lt i g hm
 ·obtain⟨i,x,hi,hx,hxy⟩:=hsp k _ hk
  cases x with
  |box ty' c=>
   rw[iD] at hxy;obtain⟨l',hl',e⟩:=aG hxy;cases e;obtain⟨g,cs,hm,hw,hs,hv⟩:=H.box i ty c hx;exact⟨g,cs,by rw[mR hi];exact hm,hw,hs,qL R (by rw[jQ hl'];exact hv) hl'⟩
  |tok=>rw[iD] at hxy;cases hxy
  |dead=>rw[iD] at hxy;cases hxy
  |arr=>rw[iD] at hxy;cases hxy
 ·obtain⟨i,x,hi,hx,hxy⟩:=hsp k _ hk
  cases x with
  |box ty' c=>rw[iD] at hxy;obtain⟨l',hl',e⟩:=aG hxy;cases e
  |tok ty' sz' len'=>
   rw[iD] at hxy;cases hxy;obtain⟨g,cs,hm,rest⟩:=H.tok i ty sz len hx;exact⟨g,cs,by rw[mR hi];exact hm,rest⟩
  |dead=>rw[iD] at hxy;cases hxy
  |arr=>rw[iD] at hxy;cases hxy
 ·obtain⟨i,x',hi,hx,hxy⟩:=hsp a _ ha
  obtain⟨j,y',hj,hy,hyy⟩:=hsp b _ hb;rw[mR hi] at hma;rw[mR hj] at hmb;have:=H.inj i j x' y' g hx hy (by rw[←ko hxy];exact hlx) (by rw[←ko hyy];exact hly) hma hmb;subst this;exact wB hn hi hj
 ·obtain⟨i,x,hi,hx,hxy⟩:=hsp k _ hk
  rw[mR hi] at hm;cases x with
  |box ty' c=>exact H.apart i ty' c g hx hm o
  |tok=>rw[iD] at hxy;cases hxy
  |dead=>rw[iD] at hxy;cases hxy
  |arr=>rw[iD] at hxy;cases hxy
 ·obtain⟨i,x,hi,hx,hxy⟩:=hsp k _ hk
  cases x with
  |box ty' c=>rw[iD] at hxy;obtain⟨l',hl',e⟩:=aG hxy;cases e
  |tok=>rw[iD] at hxy;cases hxy
  |dead=>rw[iD] at hxy;cases hxy
  |arr ty' sz' p'=>
   rw[iD] at hxy;cases hxy;obtain⟨g,cs,hm,hw,hs,ha⟩:=H.arr i ty sz p hx;exact⟨g,cs,by rw[mR hi];exact hm,hw,hs,ha.go ha.none rfl (Uh hi) rfl rfl (fun _ _ _ h=>h)⟩
theorem uP{K:Kn}{h:List af}{ids:List Nat}{hs:List af}(hh:u7 h ids=some hs){b:Nat}(hb:(K.sub ids).liveB hs b):∃(k i:Nat) (x:af),ids[k]? = some i∧h[i]? = some x∧x.live=true∧K.mu i=some b:=by
 obtain⟨k,y,hk,hl,hm⟩:=hb;obtain⟨i,x,hi,hx,hxy⟩:=(qb hh).2 k y hk;exact⟨k,i,x,hi,hx,by rw[←ko hxy];exact hl,by rw[mR hi] at hm;exact hm⟩
theorem Step.sub{K K':Kn}{h h':List af}{w w':World}(H:WR K h w)(S:Step K h w K' h' w'){ids:List Nat}{hs:List af}(hn:nodupB ids=true)(hh:u7 h' ids=some hs)
  (hpre:∀k,k<h.length→ids[k]? = some k):Step K h w (K'.sub ids) hs w':=by
 have hlen:h.length≤ids.length:=by
  cases hl:h.length with
  |zero=>omega
  |succ n=>
   have:=hpre n (by omega);by_cases hlt:n<ids.length
   ·omega
   ·rw[List.getElem?_eq_none (by omega)] at this;cases this
 have hsl:=(qb hh).1;have hdef:∀i g,K.mu i=some g→i<h.length:=by
  intro i g hi;by_cases hlt:i<h.length
  ·exact hlt
  ·rw[H.fresh i (by omega)] at hi;cases hi
 refine⟨S.wr.sub hn hh,⟨S.ext.M,fun i g hi=>?_,S.ext.Z,S.ext.E,S.ext.R,fun i g hi=>by rw[Uh (hpre i (hdef i g hi))];exact S.ext.N i g hi⟩,S.frm,S.zs,S.ms,fun k b hk=>?_,fun b hb hlt=>?_,by omega⟩
 ·rw[mR (hpre i (hdef i g hi))];exact S.ext.mu i g hi
 ·obtain⟨i,hi,hm⟩:=Ns hk
  rcases S.mu i b hm with h1|h1
  ·have:=wB hn hi (hpre i (hdef i b h1))
   subst this;exact .inl h1
  ·exact .inr h1
 ·obtain⟨k,i,x,hi,hx,hl,hm⟩:=uP hh hb
  exact S.live b ⟨i,x,hx,hl,hm⟩ hlt
def overlay(h:List af):List Nat→List af→List af
 |i::ids,x::l=>overlay (h.set i x) ids l
 |_,_=>h
theorem mE:∀(ids:List Nat) (l:List af) (h:List af),(overlay h ids l).length=h.length
 |[],l,h=>by simp[overlay]
 |i::ids,[],h=>by simp[overlay]
 |i::ids,x::l,h=>by rw[overlay,mE ids l];simp
theorem CW:∀(ids:List Nat) (l:List af) (h:List af),nodupB ids=true→ids.length≤l.length→∀(i:Nat) y,(overlay h ids l)[i]? = some y→
  (∃k:Nat,ids[k]? = some i∧l[k]? = some y)∨((∀k:Nat,ids[k]?≠some i)∧h[i]? = some y)
 |[],l,h,_,_,i,y,hy=>by
  have e:overlay h [] l=h:=by simp[overlay]
  rw[e] at hy;exact .inr ⟨fun k=>by simp,hy⟩
 |j::ids,[],h,_,hl,i,y,hy=>by simp at hl
 |j::ids,x::l,h,hn,hl,i,y,hy=>by
  rw[overlay] at hy;have hn2:=hn;rw[nodupB,Bool.and_eq_true] at hn2;rcases CW ids l (h.set j x) hn2.2 (by simpa using hl) i y hy with⟨k,h1,h2⟩|⟨h1,h2⟩
  ·exact .inl ⟨k+1,by simpa using h1,by simpa using h2⟩
  ·rw[List.getElem?_set] at h2
   by_cases e:j=i
   ·subst e
    rw[if_pos rfl] at h2;split at h2
    ·cases h2;exact .inl ⟨0,rfl,rfl⟩
    ·cases h2
   ·rw[if_neg e] at h2
    refine .inr ⟨fun k=>?_,h2⟩;cases k with
    |zero=>simpa using e
    |succ k=>simpa using h1 k
def vH(ids:List Nat)(n:Nat)(k:Nat):Option Nat:=match ids[k]? with
 |some i=>some i
 |none=>some (n+(k-ids.length))
def Kn.merge(K Ks:Kn)(ids:List Nat)(n:Nat):Kn:={Ks with mu:=fun i=>if i<n then K.mu i else Ks.mu (ids.length+(i-n)),N:=fun i=>if i<n then K.N i else Ks.N (ids.length+(i-n)) }
def zu(h:List af)(ids:List Nat)(hs':List af):Option (List af):=match Fj (vH ids h.length) hs' with
 |some hb=>some (overlay h ids hb++hb.drop ids.length)
 |none=>none
theorem sW{K Ks:Kn}{h hs hs' h':List af}{w w':World}{ids:List Nat}(H:WR K h w)(hn:nodupB ids=true)(hh:u7 h ids=some hs)(S:Step (K.sub ids) hs w Ks hs' w')(hm:zu h ids hs'=some h') :
  Step K h w (K.merge Ks ids h.length) h' w'∧Ren (vH ids h.length) Ks (K.merge Ks ids h.length)∧lF (K.at h ids) w w':=by
 unfold zu at hm;split at hm
 ·rename_i hb hrb
  cases hm;have hsl:=(qb hh).1;have hbl:=Cu hrb;have hle:=S.len;have hmu1:∀i,i<h.length→(K.merge Ks ids h.length).mu i=K.mu i:=fun i hi=>by show (if i<h.length then _ else _)=_;rw[if_pos hi]
  have hmu2:∀i,h.length≤i→(K.merge Ks ids h.length).mu i=Ks.mu (ids.length+(i-h.length)):=fun i hi=>by show (if i<h.length then _ else _)=_;rw[if_neg (by omega)]
  have hN1:∀i,i<h.length→(K.merge Ks ids h.length).N i=K.N i:=fun i hi=>by show (if i<h.length then _ else _)=_;rw[if_pos hi]
  have hN2:∀i,h.length≤i→(K.merge Ks ids h.length).N i=Ks.N (ids.length+(i-h.length)):=fun i hi=>by show (if i<h.length then _ else _)=_;rw[if_neg (by omega)]
  have hold:∀k i,ids[k]? = some i→∃g,K.mu i=some g∧Ks.mu k=some g:=by
   intro k i hk;obtain⟨g,hg⟩:=H.has i (sK hh hk);exact⟨g,hg,S.ext.mu k g (by rw[mR hk];exact hg)⟩
  have holdN:∀k i,ids[k]? = some i→Ks.N k=K.N i:=by
   intro k i hk;obtain⟨g,hg⟩:=H.has i (sK hh hk);rw[←Uh hk];exact S.ext.N k g (by rw[mR hk];exact hg)
  have R:Ren (vH ids h.length) Ks (K.merge Ks ids h.length):=by
   refine⟨rfl,rfl,rfl,rfl,fun k j g hf hg=>?_,fun k j g hf hg=>?_⟩
   rotate_left
   ·unfold vH at hf
    split at hf
    ·rename_i i hi
     cases hf;rw[hN1 j (sK hh hi)];exact(holdN k j hi).symm
    ·rename_i hi
     cases hf;have hkl:ids.length≤k:=by
      by_cases hlt:k<ids.length
      ·rw[List.getElem?_eq_getElem hlt] at hi;cases hi
      ·omega
     rw[hN2 _ (by omega),show ids.length+(h.length+(k-ids.length)-h.length)=k by omega]
   unfold vH at hf;split at hf
   ·rename_i i hi
    cases hf;obtain⟨g',h1,h2⟩:=hold k j hi;rw[hg] at h2;cases h2;rw[hmu1 j (sK hh hi)];exact h1
   ·rename_i hi
    cases hf;have hkl:ids.length≤k:=by
     by_cases hlt:k<ids.length
     ·rw[List.getElem?_eq_getElem hlt] at hi;cases hi
     ·omega
    rw[hmu2 _ (by omega),show ids.length+(h.length+(k-ids.length)-h.length)=k by omega];exact hg
  have hX:Ext K (K.merge Ks ids h.length):=by
   refine⟨S.ext.M,fun i g hi=>?_,fun i g hi=>(S.zs g (H.lt i g hi)).1,fun i g hi=>(S.zs g (H.lt i g hi)).2,S.ext.R,fun i g hi=>?_⟩
   rotate_left
   ·have hil:i<h.length:=by
     by_cases hlt:i<h.length
     ·exact hlt
     ·rw[H.fresh i (by omega)] at hi;cases hi
    exact hN1 i hil
   have hil:i<h.length:=by
    by_cases hlt:i<h.length
    ·exact hlt
    ·rw[H.fresh i (by omega)] at hi;cases hi
   rw[hmu1 i hil];exact hi
  have hfar:∀i x g,h[i]? = some x→x.live=true→K.mu i=some g→(∀k:Nat,ids[k]?≠some i)→¬(K.sub ids).liveB hs g:=by
   intro i x g hx hl hg hni hlb;obtain⟨k,j,y,hj,hy,hly,hmj⟩:=uP hh hlb;have:=H.inj i j x y g hx hy hl hly hg hmj;subst this;exact hni k hj
  have hcase:∀(i:Nat) y,(overlay h ids hb++hb.drop ids.length)[i]? = some y→
    (∃k x,hs'[k]? = some x∧iD (vH ids h.length) x=some y∧(K.merge Ks ids h.length).mu i=Ks.mu k∧((i<h.length∧ids[k]? = some i)∨(h.length≤i∧k=ids.length+(i-h.length))))∨
    (i<h.length∧(∀k:Nat,ids[k]?≠some i)∧h[i]? = some y):=by
   intro i y hy;by_cases hil:i<h.length
   ·rw[List.getElem?_append_left (by rw[mE];exact hil)] at hy
    rcases CW ids hb h hn (by omega) i y hy with⟨k,h1,h2⟩|⟨h1,h2⟩
    ·obtain⟨x,hx,hxy⟩:=A7 hrb k y h2
     obtain⟨g,g1,g2⟩:=hold k i h1;exact .inl ⟨k,x,hx,hxy,by rw[hmu1 i hil,g1,g2],.inl ⟨hil,h1⟩⟩
    ·exact .inr ⟨hil,h1,h2⟩
   ·rw[List.getElem?_append_right (by rw[mE];omega),mE,List.getElem?_drop] at hy
    obtain⟨x,hx,hxy⟩:=A7 hrb _ y hy;exact .inl ⟨_,x,hx,hxy,hmu2 i (by omega),.inr ⟨by omega,rfl⟩⟩
  have hlb:∀b,(K.sub ids).liveB hs b→K.liveB h b:=by
   intro b hlb;obtain⟨k,j,y,hj,hy,hly,hmj⟩:=uP hh hlb;exact⟨j,y,hy,hly,hmj⟩
  have hlen':(overlay h ids hb++hb.drop ids.length).length=h.length+(hs'.length-ids.length):=by simp[mE,hbl]
  have hwr:WR (K.merge Ks ids h.length) (overlay h ids hb++hb.drop ids.length) w':=by
   refine⟨fun i hi=>?_,fun i hi=>?_,fun i g hi=>?_,fun i ty cells hi=>?_,fun i ty sz len hi=>?_,fun i j x y g hi hj hlx hly hmi hmj=>?_,fun i ty cells g hi hm o=>?_,S.wr.agr,fun i ty sz p hi=>?_⟩
   ·rw[hmu2 i (by omega)];exact S.wr.fresh _ (by omega)
   ·by_cases hil:i<h.length
    ·rw[hmu1 i hil];exact H.has i hil
    ·rw[hmu2 i (by omega)];exact S.wr.has _ (by omega)
   ·by_cases hil:i<h.length
    ·rw[hmu1 i hil] at hi;have:=H.lt i g hi;have:=S.frm.size;omega
    ·rw[hmu2 i (by omega)] at hi;exact S.wr.lt _ g hi
   ·rcases hcase i _ hi with⟨k,x,hx,hxy,hmk,_⟩|⟨hil,hni,hx⟩
    ·cases x with
     |box ty' c=>
      rw[iD] at hxy;obtain⟨l',hl',e⟩:=aG hxy;cases e;obtain⟨g,cs,hm,hw,hs1,hv⟩:=S.wr.box k ty c hx;exact⟨g,cs,by rw[hmk];exact hm,hw,hs1,qL R (by rw[jQ hl'];exact hv) hl'⟩
     |tok=>rw[iD] at hxy;cases hxy
     |dead=>rw[iD] at hxy;cases hxy
     |arr=>rw[iD] at hxy;cases hxy
    ·obtain⟨g,cs,hm,hw,hs1,hv⟩:=H.box i ty cells hx
     refine⟨g,cs,hX.mu i g hm,?_,?_,hv.mono hX⟩
     ·rw[S.frm.block g (H.lt i g hm) (hfar i _ g hx rfl hm hni)];exact hw
     ·rw[hX.Z i g hm,hX.E i g hm];exact hs1
   ·rcases hcase i _ hi with⟨k,x,hx,hxy,hmk,_⟩|⟨hil,hni,hx⟩
    ·cases x with
     |box ty' c=>rw[iD] at hxy;obtain⟨l',hl',e⟩:=aG hxy;cases e
     |tok ty' sz' len'=>
      rw[iD] at hxy;cases hxy;obtain⟨g,cs,hm,rest⟩:=S.wr.tok k ty sz len hx;exact⟨g,cs,by rw[hmk];exact hm,rest⟩
     |dead=>rw[iD] at hxy;cases hxy
     |arr=>rw[iD] at hxy;cases hxy
    ·obtain⟨g,cs,hm,hw,h3,h4,h5,h6⟩:=H.tok i ty sz len hx
     have hgl:=H.lt i g hm;have hnl:=hfar i _ g hx rfl hm hni;refine⟨g,cs,hX.mu i g hm,?_,?_,?_,?_,fun o ho=>?_⟩
     ·rw[S.frm.block g hgl hnl];exact hw
     ·rw[hX.Z i g hm];exact h3
     ·rw[hX.E i g hm];exact h4
     ·rw[hX.Z i g hm];exact h5
     ·show Ks.M g o=none
      rw[S.ms g o hgl hnl];rw[hX.R] at ho;exact h6 o ho
   ·rcases hcase i _ hi with⟨k,x',hx,hxy,hmk,hk⟩|⟨hil,hni,hx⟩
    ·rcases hcase j _ hj with⟨l,y',hy,hyy,hml,hl⟩|⟨hjl,hnj,hy⟩
     ·rw[hmk] at hmi
      rw[hml] at hmj;have:=S.wr.inj k l x' y' g hx hy (by rw[←ko hxy];exact hlx) (by rw[←ko hyy];exact hly) hmi hmj;subst this;rcases hk with⟨h1,h2⟩|⟨h1,h2⟩
      ·rcases hl with⟨h3,h4⟩|⟨h3,h4⟩
       ·rw[h2] at h4;exact Option.some.inj h4
       ·rw[List.getElem?_eq_none (by omega)] at h2;cases h2
      ·rcases hl with⟨h3,h4⟩|⟨h3,h4⟩
       ·rw[List.getElem?_eq_none (by omega)] at h4;cases h4
       ·omega
     ·exfalso
      rw[hmu1 j hjl] at hmj;rw[hmk] at hmi;exact hfar j y g hy hly hmj hnj (S.live g ⟨k,x',hx,by rw[←ko hxy];exact hlx,hmi⟩ (H.lt j g hmj))
    ·rw[hmu1 i hil] at hmi
     rcases hcase j _ hj with⟨l,y',hy,hyy,hml,hl⟩|⟨hjl,hnj,hy⟩
     ·exfalso
      rw[hml] at hmj;exact hfar i x g hx hlx hmi hni (S.live g ⟨l,y',hy,by rw[←ko hyy];exact hly,hmj⟩ (H.lt i g hmi))
     ·rw[hmu1 j hjl] at hmj
      exact H.inj i j x y g hx hy hlx hly hmi hmj
   ·rcases hcase i _ hi with⟨k,x,hx,hxy,hmk,_⟩|⟨hil,hni,hx⟩
    ·rw[hmk] at hm
     cases x with
     |box ty' c=>exact S.wr.apart k ty' c g hx hm o
     |tok=>rw[iD] at hxy;cases hxy
     |dead=>rw[iD] at hxy;cases hxy
     |arr=>rw[iD] at hxy;cases hxy
    ·rw[hmu1 i hil] at hm
     show Ks.M g o=none;rw[S.ms g o (H.lt i g hm) (hfar i _ g hx rfl hm hni)];exact H.apart i ty cells g hx hm o
   ·rcases hcase i _ hi with⟨k,x,hx,hxy,hmk,hk⟩|⟨hil,hni,hx⟩
    ·cases x with
     |box ty' c=>rw[iD] at hxy;obtain⟨l',hl',e⟩:=aG hxy;cases e
     |tok=>rw[iD] at hxy;cases hxy
     |dead=>rw[iD] at hxy;cases hxy
     |arr ty' sz' p'=>
      rw[iD] at hxy;cases hxy;obtain⟨g,cs,hm,hw,hs1,ha⟩:=S.wr.arr k ty sz p hx;refine⟨g,cs,by rw[hmk];exact hm,hw,hs1,ha.go ha.none rfl ?_ rfl rfl (fun _ _ _ h=>h)⟩;rcases hk with⟨h1,h2⟩|⟨h1,h2⟩
      ·rw[hN1 i h1];exact(holdN k i h2).symm
      ·rw[hN2 i h1,h2]
    ·obtain⟨g,cs,hm,hw,hs1,ha⟩:=H.arr i ty sz p hx
     have hgl:=H.lt i g hm;have hnl:=hfar i _ g hx rfl hm hni;refine⟨g,cs,hX.mu i g hm,?_,?_,ha.go (fun o=>?_) ?_ (hN1 i hil) (hX.Z i g hm) (hX.E i g hm) (fun _ _ _ h=>h.ext hX)⟩
     ·rw[S.frm.block g hgl hnl];exact hw
     ·rw[hX.Z i g hm,hX.E i g hm];exact hs1
     ·show Ks.M g o=none
      rw[S.ms g o hgl hnl];exact ha.none o
     ·rw[hX.R]
  refine⟨⟨hwr,hX,S.frm.mono (fun b _ hb=>hlb b hb),S.zs,fun g o hg hnl=>S.ms g o hg (fun h=>hnl (hlb g h)),fun k b hk=>?_,fun b hb hlt=>?_,by rw[hlen'];omega⟩,R,S.frm.mono (fun b _ hb=>?_)⟩
  ·by_cases hkl:k<h.length
   ·rw[hmu1 k hkl] at hk;exact .inl hk
   ·rw[hmu2 k (by omega)] at hk
    rcases S.mu _ b hk with h1|h1|h1
    ·obtain⟨i,hi,_⟩:=Ns h1
     rw[List.getElem?_eq_none (by omega)] at hi;cases hi
    ·exact .inr (.inl h1)
    ·exact .inr (.inr (hlb b h1))
  ·obtain⟨i,y,hi,hl,hmi⟩:=hb
   rcases hcase i _ hi with⟨k,x,hx,hxy,hmk,_⟩|⟨hil,hni,hx⟩
   ·rw[hmk] at hmi
    exact hlb b (S.live b ⟨k,x,hx,by rw[←ko hxy];exact hl,hmi⟩ hlt)
   ·rw[hmu1 i hil] at hmi
    exact⟨i,y,hx,hl,hmi⟩
  ·obtain⟨k,j,y,hj,hy,hly,hmj⟩:=uP hh hb
   exact⟨j,y,List.mem_of_getElem? hj,hy,hly,hmj⟩
 ·cases hm
def apY:TypeId→Bool:=fun _=>true
def ahr(P:Program)(ρ:Operand→Option AV)(t:TypeId)(x i:Operand):Option (AV×Option Nat):=match ρ x with
 |some (.sl o lo len sz)=>match ρ i,P.underlying t with
  |some v,some (.slice e)=>match su v with
   |some n=>if 0≤n∧n.toNat<len∧mO P e=some sz then some (.ptr o (lo*sz+n.toNat*sz),none) else none
   |none=>none
  |_,_=>none
 |_=>none
def W9(P:Program)(ρ:Operand→Option AV)(args:Array Operand)(ts:Array TypeId):Option (AV×Option Nat):=match args.toList,ts.toList with
 |[x],[t]=>match ρ x,P.underlying t with
  |some (.sl _ _ len _),some (.slice _)=>some (.pv (.lit (.int .i64 len)),none)
  |_,_=>none
 |_,_=>none
def isEq:BinOp→Option Bool
 |.eql=>some false
 |.neq=>some true
 |_=>none
def Xb(P:Program)(ρ:Operand→Option AV)(b:BinOp)(t:TypeId)(x y:Operand):Option (AV×Option Nat):=match ρ x,ρ y with
 |some (.sl _ _ _ _),some (.pv (.lit (.slice none 0 0)))=>match isEq b,P.underlying t with
  |some r,some (.slice _)=>some (.pv (.lit (.bool r)),none)
  |_,_=>none
 |some (.ifc _ _),some (.pv (.lit .nilIface))=>match isEq b,P.underlying t with
  |some r,some (.interface _)=>some (.pv (.lit (.bool r)),none)
  |_,_=>none
 |_,_=>none
def zeroV(P:Program)(t:TypeId):Option AV:=match P.info? t with
 |some i=>match i.zero with
  |some (.agg cs)=>if cs.toList.all pJ then some (.agg (cs.toList.map fun v=>.pv (.lit v))) else none
  |some v=>lK v
  |none=>none
 |none=>none
def Xa(P:Program)(ρ:Operand→Option AV)(t:TypeId)(x:Operand):Option (AV×Option Nat):=match ρ x,P.underlying t with
 |some _,some (.interface _)=>none
 |some v,some _=>some (.ifc t v,none)
 |_,_=>none
def Cx(P:Program)(ρ:Operand→Option AV)(x:Operand)(t:TypeId)(ok:Bool):Option (AV×Option Nat):=match P.underlying t with
 |some (.interface _)=>none
 |some _=>match ρ x with
  |some (.ifc t' v)=>if t'=t then some (if ok then .tup [v,.pv (.lit (.bool true))] else v,none) else if ok then match zeroV P t with
    |some z=>some (.tup [z,.pv (.lit (.bool false))],none)
    |none=>none
   else none
  |_=>none
 |none=>none
def ahq(P:Program)(op:Op)(ρ:Operand→Option AV)(h:List af):Option (AV×Option Nat):=match op with
 |.indexAddr t x i=>ahr P ρ t x i
 |.binOp b t x y _=>Xb P ρ b t x y
 |.makeInterface t x=>Xa P ρ t x
 |.typeAssert x _ t ok=>Cx P ρ x t ok
 |.call ⟨.builtin .len,args,ts⟩=>W9 P ρ args ts
 |_=>none
section
variable{P:Program}{o:Oper}{ρ:Operand→Value}{ρA:Operand→Option AV}{K:Kn}{h:List af}{w:World}
theorem NF(hρ:∀x v,ρA x=some v→VR K v (ρ x)){t:TypeId}{x i:Operand}(ho:o.op=.indexAddr t x i){v:AV}{dep:Option Nat}(hq:ahr P ρA t x i=some (v,dep)):Ug P o ρ K w v dep:=by
 unfold ahr at hq;split at hq
 ·rename_i ob lo len sz hx
  split at hq
  ·rename_i iv e hi hu
   split at hq
   ·rename_i n hn
    split at hq
    ·rename_i hc
     cases hq;obtain⟨k,hk⟩:=ji (hρ i _ hi) hn;have hxv:=hρ x _ hx;generalize hxe:ρ x=xv at hxv;cases hxv with
     |sl _ _ _ _ g cap off hm he hl hz hof=>
      have hof:=hof (by omega);subst hof;have hlt:n<(len:Int):=by omega
      refine .of (.pointer (some ⟨g,lo*sz+n.toNat*sz,none⟩)) (.ptr ob _ g hm) (fun w'=>?_);simp[execOp,ho,hxe,hk,Instr.indexAt,asIntOf,run_underlying hu,hc.1,hlt,iq hc.2.2,Addr.add_lit]
    ·cases hq
   ·cases hq
  ·cases hq
 ·cases hq
theorem KQ(hρ:∀x v,ρA x=some v→VR K v (ρ x)){args:Array Operand}{ts:Array TypeId}(ho:o.op=.call ⟨.builtin .len,args,ts⟩){v:AV}{dep:Option Nat}(hq:W9 P ρA args ts=some (v,dep)):Ug P o ρ K w v dep:=by
 unfold W9 at hq;split at hq
 ·rename_i x t ha hts
  have e1:args = #[x]:=by rw[←Array.toArray_toList (xs:=args),ha]
  have e2:ts = #[t]:=by rw[←Array.toArray_toList (xs:=ts),hts]
  subst e1;subst e2;split at hq
  ·rename_i ob lo len sz e hx hu
   cases hq;have hxv:=hρ x _ hx;generalize hxe:ρ x=xv at hxv;cases hxv with
   |sl _ _ _ _ g cap off hm he hlc hz hof=>
    refine .of (.int .i64 len) (.pv (.lit _ rfl)) (fun w'=>?_);simp[execOp,ho,resolve,invoke,builtin,hxe,Builtin.len_,run_underlying hu,goInt]
  ·cases hq
 ·cases hq
def J4(P:Program)(t:TypeId)(p q:Value):Prop:=(∀w':World,(Op.equal t p q).run P w'=.ok false w')∧(∀b x y (w':World),(eqGuard b t x y p q).run P w'=.ok () w')∧(binOp .eql t p q=do pure (.bool (←Op.equal t p q)))∧(binOp .neq t p q=do pure (.bool (!(←Op.equal t p q))))
theorem Fx{t e:TypeId}(hu:P.underlying t=some (.slice e))(a:Addr)(n c d:Nat)(w':World):(Op.equalIn (d+1) t (.slice (some a) n c) (.slice none 0 0)).run P w'=.ok false w':=by simp[Op.equalIn,run_underlying hu]
theorem Iq{t e:TypeId}(hu:P.underlying t=some (.slice e))(a:Addr)(n c:Nat):J4 P t (.slice (some a) n c) (.slice none 0 0):=
 ⟨fun w'=>Fx hu a n c 9999 w',fun b x y w'=>by cases b<;>simp[eqGuard],rfl,rfl⟩
theorem Fy{t:TypeId}{m:Array (String×TypeId)}(hu:P.underlying t=some (.interface m))(a:TypeId)(u:Value)(d:Nat)(w':World):(Op.equalIn (d+1) t (.iface a u) .nilIface).run P w'=.ok false w':=by simp[Op.equalIn,run_underlying hu]
theorem Ir{t:TypeId}{m:Array (String×TypeId)}(hu:P.underlying t=some (.interface m))(a:TypeId)(u:Value):J4 P t (.iface a u) .nilIface:=
 ⟨fun w'=>Fy hu a u 9999 w',fun b x y w'=>by cases b<;>simp[eqGuard],rfl,rfl⟩
theorem J4.run{t:TypeId}{p q:Value}(hn:J4 P t p q){b:BinOp}{r:Bool}(hb:isEq b=some r)(x y:Operand)(w':World):(do eqGuard b t x y p q;binOp b t p q:Sem Value).run P w'=.ok (.bool r) w':=by
 obtain⟨h1,h2,h3,h4⟩:=hn;unfold isEq at hb;split at hb
 ·cases hb
  rw[h3];simp only[Sem.run_bind,h2,Result.andThen_ok,h1,Sem.run_pure]
 ·cases hb
  rw[h4];simp only[Sem.run_bind,h2,Result.andThen_ok,h1,Sem.run_pure,Bool.not_false]
 ·cases hb
theorem KT(hρ:∀x v,ρA x=some v→VR K v (ρ x)){b:BinOp}{t:TypeId}{x y:Operand}{c:TypeId}(ho:o.op=.binOp b t x y c){v:AV}{dep:Option Nat}(hq:Xb P ρA b t x y=some (v,dep)):Ug P o ρ K w v dep:=by
 unfold Xb at hq;split at hq
 ·rename_i i lo len sz hx hy
  split at hq
  ·rename_i r kt hb hu
   cases hq;have hxv:=hρ x _ hx;have hyv:ρ y=.slice none 0 0:=eO (hρ y _ hy) rfl;generalize hxe:ρ x=xv at hxv;cases hxv with
   |sl _ _ _ _ g cap off hm he hlc hz hof=>
    refine .of (.bool r) (.pv (.lit _ rfl)) (fun w'=>?_);simp only[execOp,ho];rw[Sem.run_bind,hxe,hyv,(Iq hu _ _ _).run hb x y w'];rfl
  ·cases hq
 ·rename_i i v0 hx hy
  split at hq
  ·rename_i r ms hb hu
   cases hq;have hxv:=hρ x _ hx;have hyv:ρ y=.nilIface:=eO (hρ y _ hy) rfl;generalize hxe:ρ x=xv at hxv;cases hxv with
   |ifc _ hz=>
    refine .of (.bool r) (.pv (.lit _ rfl)) (fun w'=>?_);simp only[execOp,ho];rw[Sem.run_bind,hxe,hyv,(Ir hu _ _).run hb x y w'];rfl
  ·cases hq
 ·cases hq
theorem Ke{t:TypeId}{z:AV}(h:zeroV P t=some z):∃u,VR K z u∧∀w':World,(zeroValue t).run P w'=.ok u w':=by
 unfold zeroV at h;split at h
 ·rename_i i hi
  split at h
  ·rename_i cs hz
   split at h
   ·rename_i hp
    cases h;refine⟨.agg cs,?_,fun w'=>by simp[zeroValue,typeInfo,hi,hz]⟩;have:=VR.agg (K:=K) (cs.toList.map fun v=>.pv (.lit v)) cs.toList (by simp) (fun k hk hk'=>by
     simp only[List.getElem_map];rw[List.all_eq_true] at hp;exact .pv (.lit _ (hp _ (List.getElem_mem _))))
    simpa using this
   ·cases h
  ·rename_i v _ hz
   exact⟨v,gN h,fun w'=>by simp[zeroValue,typeInfo,hi,hz]⟩
  ·cases h
 ·cases h
theorem KS(hρ:∀x v,ρA x=some v→VR K v (ρ x)){t:TypeId}{x:Operand}(ho:o.op=.makeInterface t x){v:AV}{dep:Option Nat}(hq:Xa P ρA t x=some (v,dep)):Ug P o ρ K w v dep:=by
 unfold Xa at hq;split at hq
 ·cases hq
 ·rename_i v0 d hni hx hu
  cases hq;refine .of (.iface t (ρ x)) (.ifc t (hρ x _ hx)) (fun w'=>?_);have hr:(Instr.makeInterface t (ρ x)).run P w'=.ok (.iface t (ρ x)) w':=by
   unfold Instr.makeInterface;rw[Sem.run_bind,run_underlying hu];simp only[Result.andThen_ok];rfl
  simp only[execOp,ho,Sem.run_bind,hr,Result.andThen_ok,Sem.run_pure]
 ·cases hq
theorem Cw(hρ:∀x v,ρA x=some v→VR K v (ρ x)){t xt:TypeId}{x:Operand}{ok:Bool}(ho:o.op=.typeAssert x xt t ok){v:AV}{dep:Option Nat}(hq:Cx P ρA x t ok=some (v,dep)):Ug P o ρ K w v dep:=by
 unfold Cx at hq;split at hq
 ·cases hq
 ·rename_i d hni hu
  split at hq
  ·rename_i t' v0 hx
   have hxv:=hρ x _ hx;generalize hxe:ρ x=xv at hxv;cases hxv with
   |ifc _ hz=>
    rename_i uz;have hcase : ∀ w' : World, (Instr.typeAssert (.iface t' uz) xt t ok).run P w' = (if t' = t then (pure (if ok then .tuple #[uz, .bool true] else uz) : Sem Value) else (if ok then (do pure (.tuple #[← zeroValue t, .bool false])) else runtimePanic (.typeAssertion (some xt) (some t') t ""))).run P w' := by
     intro w';unfold Instr.typeAssert;rw[Sem.run_bind,run_underlying hu];simp only[Result.andThen_ok]
    split at hq
    ·rename_i e
     cases hq;refine .of (if ok then .tuple #[uz,.bool true] else uz) ?_ (fun w'=>?_)
     ·cases ok
      ·exact hz
      ·exact .tup [v0,.pv (.lit (.bool true))] [uz,.bool true] rfl (fun n hn hn'=>by
        match n,hn with
        |0,_=>exact hz
        |1,_=>exact .pv (.lit _ rfl))
     ·simp only[execOp,ho,hxe,Sem.run_bind,hcase w',if_pos e,Sem.run_pure,Result.andThen_ok]
    ·rename_i e
     split at hq
     ·rename_i hok
      split at hq
      ·rename_i z hz'
       cases hq;obtain⟨u,hu1,hu2⟩:=Ke (K:=K) hz';refine .of (.tuple #[u,.bool false]) (.tup [z,.pv (.lit (.bool false))] [u,.bool false] rfl (fun n hn hn'=>by
        match n,hn with
        |0,_=>exact hu1
        |1,_=>exact .pv (.lit _ rfl))) (fun w'=>?_)
       rw[hok] at hcase ho;simp only[execOp,ho,hxe,Sem.run_bind,hcase w',if_neg e,if_true,hu2 w',Sem.run_pure,Result.andThen_ok]
      ·cases hq
     ·cases hq
  ·cases hq
 ·cases hq
theorem NE(H:WR K h w)(hρ:∀x v,ρA x=some v→VR K v (ρ x)){v:AV}{dep:Option Nat}(hq:ahq P o.op ρA h=some (v,dep)):Ug P o ρ K w v dep:=by
 unfold ahq at hq;split at hq
 ·rename_i ho;exact NF hρ ho hq
 ·rename_i ho;exact KT hρ ho hq
 ·rename_i ho;exact KS hρ ho hq
 ·rename_i ho;exact Cw hρ ho hq
 ·rename_i ho;exact KQ hρ ho hq
 ·cases hq
end
end Go.Proofs.YtijcobeebaceoaaGreatDoor
