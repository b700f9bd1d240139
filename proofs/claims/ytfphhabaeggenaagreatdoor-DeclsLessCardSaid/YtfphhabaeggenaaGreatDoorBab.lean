/- Joined texts. -/
import Derived.Test.YtfphhabaeggenaaGreatDoorBaa
import Derived.Laws.MakeOwn
import Derived.MapKept
import Derived.Lib.SliceRun
set_option linter.all false
namespace Go.Proofs.YtfphhabaeggenaaGreatDoor
open Go.RowKit
def axU:TypeId→Bool:=fun _=>true
def Rn(ρ:Operand→Option AV)(r len:Nat):Option Operand→Bool
 |none=>true
 |some x=>match ρ x with
  |some v=>match rH v with
   |some n=>decide (0≤n∧r≤n.toNat∧n.toNat≤len)
   |none=>false
  |none=>false
def ajy(P:Program)(ρ:Operand→Option AV)(t:TypeId)(x i:Operand):Option (AV×Option Nat):=match ρ x with
 |some (.sl o lo len sz)=>match ρ i,P.underlying t with
  |some v,some (.slice e)=>match rH v with
   |some n=>if 0≤n∧n.toNat<len∧jS P e=some sz then some (.ptr o (lo*sz+n.toNat*sz),none) else none
   |none=>none
  |_,_=>none
 |_=>none
def JB(P:Program)(ρ:Operand→Option AV)(t:TypeId)(x:Operand)(lo hi mx:Option Operand):Option (AV×Option Nat):=match ρ x with
 |some (.sl o b len sz)=>match P.underlying t,iJ ρ 0 lo,iJ ρ len hi with
  |some (.slice e),some l,some r=>if l≤r∧r≤len∧jS P e=some sz∧Rn ρ r len mx=true∧(mx.isSome=true→hi.isSome=true) then some (.sl o (b+l) (r-l) sz,none) else none
  |_,_,_=>none
 |_=>none
def X6(P:Program)(ρ:Operand→Option AV)(args:Array Operand)(ts:Array TypeId):Option (AV×Option Nat):=match args.toList,ts.toList with
 |[x],[t]=>match ρ x,P.underlying t with
  |some (.sl _ _ len _),some (.slice _)=>some (.pv (.lit (.int .i64 len)),none)
  |_,_=>none
 |_,_=>none
def X8(P:Program)(ρ:Operand→Option AV)(args:Array Operand)(ts:Array TypeId):Option (AV×Option Nat):=match args.toList,ts.toList with
 |[x],[t]=>match ρ x,P.underlying t with
  |some (.pv (.lit (.slice none 0 0))),some (.slice _)=>some (.pv (.lit (.int .i64 0)),none)
  |_,_=>none
 |_,_=>none
def isEq:BinOp→Option Bool
 |.eql=>some false
 |.neq=>some true
 |_=>none
def X9(P:Program)(ρ:Operand→Option AV)(b:BinOp)(t:TypeId)(x y:Operand):Option (AV×Option Nat):=match ρ x,ρ y with
 |some (.mp _),some (.pv (.lit (.map none)))=>match isEq b,P.underlying t with
  |some r,some (.map _ _)=>some (.pv (.lit (.bool r)),none)
  |_,_=>none
 |some (.sl _ _ _ _),some (.pv (.lit (.slice none 0 0)))=>match isEq b,P.underlying t with
  |some r,some (.slice _)=>some (.pv (.lit (.bool r)),none)
  |_,_=>none
 |some (.ifc _ _),some (.pv (.lit .nilIface))=>match isEq b,P.underlying t with
  |some r,some (.interface _)=>some (.pv (.lit (.bool r)),none)
  |_,_=>none
 |_,_=>none
def zC(kind:TypeDesc)(k:Value):List Value→Option (Option Nat)
 |[]=>some none
 |e::es=>match Instr.sameNow kind k e with
  |some true=>some (some 0)
  |some false=>match zC kind k es with
   |some (some j)=>some (some (j+1))
   |some none=>some none
   |none=>none
  |none=>none
def Ut:TypeDesc→Value→Bool
 |.int k,.int k' _=>decide (k'=k)
 |.string,.string _=>true
 |_,_=>false
def qJ(P:Program)(kt:TypeId)(d:TypeDesc)(key:Value):Bool:=match Ut d key with
 |true=>true
 |false=>(aP P (Instr.checkKey true 10000 kt key)).isSome&&(aP P (Instr.checkKey false 10000 kt key)).isSome
def IB(P:Program)(kt:TypeId)(k:Value):List Value→Option (Option Nat)
 |[]=>some none
 |e::es=>match aP P (Op.equal kt k e) with
  |some true=>some (some 0)
  |some false=>match IB P kt k es with
   |some (some j)=>some (some (j+1))
   |some none=>some none
   |none=>none
  |none=>none
def sO(P:Program)(kt:TypeId)(d:TypeDesc)(k:Value)(ks:List Value):Option (Option Nat):=match zC d k ks with
 |some r=>some r
 |none=>IB P kt k ks
def zeroV(P:Program)(t:TypeId):Option AV:=match P.info? t with
 |some i=>match i.zero with
  |some (.agg cs)=>if cs.toList.all sF then some (.agg (cs.toList.map fun v=>.pv (.lit v))) else none
  |some v=>pu v
  |none=>none
 |none=>none
def Ff(P:Program)(kt et:TypeId)(d:TypeDesc)(key:Value)(ks:List Value)(vs:List AV)(ok:Bool):Option AV:=if qJ P kt d key then match sO P kt d key ks with
  |some (some j)=>match vs[j]? with
   |some v=>some (if ok then .tup [v,.pv (.lit (.bool true))] else v)
   |none=>none
  |some none=>match zeroV P et with
   |some z=>some (if ok then .tup [z,.pv (.lit (.bool false))] else z)
   |none=>none
  |none=>none
 else none
def Qk(P:Program)(ρ:Operand→Option AV)(h:List ah)(t:TypeId)(m k:Operand)(ok:Bool):Option (AV×Option Nat):=match ρ m with
 |some (.mp i)=>match h[i]?,(ρ k).bind AV.val?,P.underlying t with
  |some (.mp ks vs),some key,some (.map kt et)=>match P.underlying kt with
   |some d=>match oW ks vs with
    |true=>none
    |false=>match Ff P kt et d key ks vs ok with
     |some v=>some (v,some i)
     |none=>none
   |none=>none
  |_,_,_=>none
 |_=>none
def X7(P:Program)(ρ:Operand→Option AV)(t:TypeId)(x:Operand):Option (AV×Option Nat):=match ρ x,P.underlying t with
 |some _,some (.interface _)=>none
 |some v,some _=>some (.ifc t v,none)
 |_,_=>none
def Eg(P:Program)(ρ:Operand→Option AV)(x:Operand)(t:TypeId)(ok:Bool):Option (AV×Option Nat):=match P.underlying t with
 |some (.interface _)=>none
 |some _=>match ρ x with
  |some (.ifc t' v)=>if t'=t then some (if ok then .tup [v,.pv (.lit (.bool true))] else v,none) else if ok then match zeroV P t with
    |some z=>some (.tup [z,.pv (.lit (.bool false))],none)
    |none=>none
   else none
  |_=>none
 |none=>none
def ajx(P:Program)(op:Op)(ρ:Operand→Option AV)(h:List ah):Option (AV×Option Nat):=match op with
 |.indexAddr t x i=>ajy P ρ t x i
 |.slice t x lo hi mx=>JB P ρ t x lo hi mx
 |.binOp b t x y _=>X9 P ρ b t x y
 |.lookup t m k ok=>Qk P ρ h t m k ok
 |.makeInterface t x=>X7 P ρ t x
 |.typeAssert x _ t ok=>Eg P ρ x t ok
 |.call ⟨.builtin .len,args,ts⟩=>X6 P ρ args ts
 |.call ⟨.builtin .cap,args,ts⟩=>X8 P ρ args ts
 |_=>none
section
variable{P:Program}{o:Oper}{ρ:Operand→Value}{ρA:Operand→Option AV}{K:Kn}{h:List ah}{w:World}
theorem Ql(hρ:∀x v,ρA x=some v→VR K v (ρ x)){t:TypeId}{x i:Operand}(ho:o.op=.indexAddr t x i){v:AV}{dep:Option Nat}(hq:ajy P ρA t x i=some (v,dep)):Dv P o ρ K w v dep:=by
 unfold ajy at hq;split at hq
 ·rename_i ob lo len sz hx
  split at hq
  ·rename_i iv e hi hu
   split at hq
   ·rename_i n hn
    split at hq
    ·rename_i hc
     cases hq;obtain⟨k,hk⟩:=gF (hρ i _ hi) hn;have hxv:=hρ x _ hx;generalize hxe:ρ x=xv at hxv;cases hxv with
     |sl _ _ _ _ g cap off hm he hl hz hof=>
      have hof:=hof (by omega);subst hof;have hlt:n<(len:Int):=by omega
      refine .of (.pointer (some ⟨g,lo*sz+n.toNat*sz,none⟩)) (.ptr ob _ g hm) (fun w'=>?_);simp[execOp,ho,hxe,hk,Instr.indexAt,asIntOf,run_underlying hu,hc.1,hlt,dV hc.2.2,Addr.add_lit]
    ·cases hq
   ·cases hq
  ·cases hq
 ·cases hq
theorem Ld(hρ:∀x v,ρA x=some v→VR K v (ρ x)){r len:Nat}{mx:Option Operand}(h:Rn ρA r len mx=true):mx=none∨∃x k n,mx=some x∧ρ x=.int k ((n:Nat):Int)∧r≤n∧n≤len:=by
 unfold Rn at h;split at h
 ·exact .inl rfl
 ·rename_i x
  split at h
  ·rename_i v hv
   split at h
   ·rename_i n hn
    have hh:=of_decide_eq_true h;obtain⟨k,hk⟩:=gF (hρ x _ hv) hn;refine .inr ⟨x,k,n.toNat,rfl,?_,hh.2.1,hh.2.2⟩;rw[hk];congr 1;omega
   ·cases h
  ·cases h
theorem GQ(hρ:∀x v,ρA x=some v→VR K v (ρ x)){t:TypeId}{x:Operand}{lo hi mx:Option Operand}(ho:o.op=.slice t x lo hi mx){v:AV}{dep:Option Nat}(hq:JB P ρA t x lo hi mx=some (v,dep)):Dv P o ρ K w v dep:=by
 unfold JB at hq;split at hq
 ·rename_i ob b len sz hx
  split at hq
  ·rename_i e l r hu hl hr
   split at hq
   ·rename_i hc
    cases hq;obtain⟨h1,h2,h3,h4,h5⟩:=hc;have hxv:=hρ x _ hx;generalize hxe:ρ x=xv at hxv;cases hxv with
    |sl _ _ _ _ g cap off hm he hlc hz hof=>
     have key:∃m,r≤m∧m≤cap∧∀w':World,(Instr.sliceBounds true len cap (lo.map ρ) (hi.map ρ) (mx.map ρ)).run P w'=.ok (l,r,m) w':=by
      rcases Ld hρ h4 with rfl|⟨y,k,n,rfl,hy,hn1,hn2⟩
      ·refine⟨cap,by omega,Nat.le_refl _,fun w'=>?_⟩
       have h1':∀k c,(Instr.sliceBound (.int k (r:Int)) cap c).run P w'=.ok r w':=fun k c=>run_sliceBound w' k r cap c (by omega)
       have h2':∀k c,(Instr.sliceBound (.int k (l:Int)) r c).run P w'=.ok l w':=fun k c=>run_sliceBound w' k l r c h1
       rcases gu hρ hr with⟨rfl,rfl⟩|⟨y,k,rfl,hy⟩
       ·rcases gu hρ hl with⟨rfl,rfl⟩|⟨z,k',rfl,hz⟩
        ·simp[Instr.sliceBounds]
        ·simp[Instr.sliceBounds,hz,h2']
       ·rcases gu hρ hl with⟨rfl,rfl⟩|⟨z,k',rfl,hz⟩
        ·simp[Instr.sliceBounds,hy,h1']
        ·simp[Instr.sliceBounds,hy,hz,h1',h2']
      ·refine⟨n,hn1,by omega,fun w'=>?_⟩
       have h0':∀k c,(Instr.sliceBound (.int k (n:Int)) cap c).run P w'=.ok n w':=fun k c=>run_sliceBound w' k n cap c (by omega)
       have h1':∀k c,(Instr.sliceBound (.int k (r:Int)) n c).run P w'=.ok r w':=fun k c=>run_sliceBound w' k r n c (by omega)
       have h2':∀k c,(Instr.sliceBound (.int k (l:Int)) r c).run P w'=.ok l w':=fun k c=>run_sliceBound w' k l r c h1
       obtain⟨y2,k2,rfl,hy2⟩:∃y k,hi=some y∧ρ y=.int k (r:Int):=by
        rcases gu hρ hr with⟨e1,_⟩|hh
        ·rw[e1] at h5;exact absurd (h5 rfl) (by simp)
        ·exact hh
       rcases gu hρ hl with⟨rfl,rfl⟩|⟨z,k',rfl,hz⟩
       ·simp[Instr.sliceBounds,hy,hy2,h0',h1']
       ·simp[Instr.sliceBounds,hy,hy2,hz,h0',h1',h2']
     obtain⟨m,hm1,hm2,hB⟩:=key;refine .of (.slice (if m=l then some ⟨g,off,none⟩ else(some ⟨g,off,none⟩:Option Addr).map (·.add (l*sz))) (r-l) (m-l)) ?_ (fun w'=>?_)
     ·by_cases hml:m=l
      ·rw[if_pos hml]
       exact .sl ob (b+l) (r-l) sz g (m-l) off hm he (by omega) (by omega) (fun h=>by omega)
      ·rw[if_neg hml,Option.map_some,Addr.add_lit]
       refine .sl ob (b+l) (r-l) sz g (m-l) (off+l*sz) hm he (by omega) (by omega) (fun h=>?_);rw[hof (by omega),Nat.add_mul]
     ·simp[execOp,ho,hxe,Instr.sliceAt,Instr.slice,run_underlying hu,hB,dV h3]
   ·cases hq
  ·cases hq
 ·cases hq
theorem MB(hρ:∀x v,ρA x=some v→VR K v (ρ x)){args:Array Operand}{ts:Array TypeId}(ho:o.op=.call ⟨.builtin .len,args,ts⟩){v:AV}{dep:Option Nat}(hq:X6 P ρA args ts=some (v,dep)):Dv P o ρ K w v dep:=by
 unfold X6 at hq;split at hq
 ·rename_i x t ha hts
  have e1:args = #[x]:=by rw[←Array.toArray_toList (xs:=args),ha]
  have e2:ts = #[t]:=by rw[←Array.toArray_toList (xs:=ts),hts]
  subst e1;subst e2;split at hq
  ·rename_i ob lo len sz e hx hu
   cases hq;have hxv:=hρ x _ hx;generalize hxe:ρ x=xv at hxv;cases hxv with
   |sl _ _ _ _ g cap off hm he hlc hz hof=>
    refine .of (.int .i64 len) (.pv (.lit _ rfl)) (fun w'=>?_);simp[execOp,ho,resolve,invoke,builtin,hxe,Builtin.len_,run_underlying hu,goInt]
  ·cases hq
 ·cases hq
theorem ME(hρ:∀x v,ρA x=some v→VR K v (ρ x)){args:Array Operand}{ts:Array TypeId}(ho:o.op=.call ⟨.builtin .cap,args,ts⟩){v:AV}{dep:Option Nat}(hq:X8 P ρA args ts=some (v,dep)):Dv P o ρ K w v dep:=by
 unfold X8 at hq;split at hq
 ·rename_i x t ha hts
  have e1:args = #[x]:=by rw[←Array.toArray_toList (xs:=args),ha]
  have e2:ts = #[t]:=by rw[←Array.toArray_toList (xs:=ts),hts]
  subst e1;subst e2;split at hq
  ·rename_i e hx hu
   cases hq;have hxe:ρ x=.slice none 0 0:=bW (hρ x _ hx) rfl;refine .of (.int .i64 0) (.pv (.lit _ rfl)) (fun w'=>?_);simp[execOp,ho,resolve,invoke,builtin,hxe,Builtin.cap_,run_underlying hu,goInt]
  ·cases hq
 ·cases hq
def Gr(P:Program)(t:TypeId)(p q:Value):Prop:=(∀w':World,(Op.equal t p q).run P w'=.ok false w')∧(∀b x y (w':World),(eqGuard b t x y p q).run P w'=.ok () w')∧(binOp .eql t p q=do pure (.bool (←Op.equal t p q)))∧(binOp .neq t p q=do pure (.bool (!(←Op.equal t p q))))
theorem OM{t kt et:TypeId}(hu:P.underlying t=some (.map kt et))(g d:Nat)(w':World):(Op.equalIn (d+1) t (.map (some g)) (.map none)).run P w'=.ok false w':=by simp[Op.equalIn,run_underlying hu]
theorem GZ{t e:TypeId}(hu:P.underlying t=some (.slice e))(a:Addr)(n c d:Nat)(w':World):(Op.equalIn (d+1) t (.slice (some a) n c) (.slice none 0 0)).run P w'=.ok false w':=by simp[Op.equalIn,run_underlying hu]
theorem Qy{t kt et:TypeId}(hu:P.underlying t=some (.map kt et))(g:Nat):Gr P t (.map (some g)) (.map none):=
 ⟨fun w'=>OM hu g 9999 w',fun b x y w'=>by cases b<;>simp[eqGuard],rfl,rfl⟩
theorem JZ{t e:TypeId}(hu:P.underlying t=some (.slice e))(a:Addr)(n c:Nat):Gr P t (.slice (some a) n c) (.slice none 0 0):=
 ⟨fun w'=>GZ hu a n c 9999 w',fun b x y w'=>by cases b<;>simp[eqGuard],rfl,rfl⟩
theorem G5{t:TypeId}{m:Array (String×TypeId)}(hu:P.underlying t=some (.interface m))(a:TypeId)(u:Value)(d:Nat)(w':World):(Op.equalIn (d+1) t (.iface a u) .nilIface).run P w'=.ok false w':=by simp[Op.equalIn,run_underlying hu]
theorem J2{t:TypeId}{m:Array (String×TypeId)}(hu:P.underlying t=some (.interface m))(a:TypeId)(u:Value):Gr P t (.iface a u) .nilIface:=
 ⟨fun w'=>G5 hu a u 9999 w',fun b x y w'=>by cases b<;>simp[eqGuard],rfl,rfl⟩
theorem Gr.run{t:TypeId}{p q:Value}(hn:Gr P t p q){b:BinOp}{r:Bool}(hb:isEq b=some r)(x y:Operand)(w':World):(do eqGuard b t x y p q;binOp b t p q:Sem Value).run P w'=.ok (.bool r) w':=by
 obtain⟨h1,h2,h3,h4⟩:=hn;unfold isEq at hb;split at hb
 ·cases hb
  rw[h3];simp only[Sem.run_bind,h2,Result.andThen_ok,h1,Sem.run_pure]
 ·cases hb
  rw[h4];simp only[Sem.run_bind,h2,Result.andThen_ok,h1,Sem.run_pure,Bool.not_false]
 ·cases hb
theorem MF(hρ:∀x v,ρA x=some v→VR K v (ρ x)){b:BinOp}{t:TypeId}{x y:Operand}{c:TypeId}(ho:o.op=.binOp b t x y c){v:AV}{dep:Option Nat}(hq:X9 P ρA b t x y=some (v,dep)):Dv P o ρ K w v dep:=by
 unfold X9 at hq;split at hq
 ·rename_i i hx hy
  split at hq
  ·rename_i r kt et hb hu
   cases hq;have hxv:=hρ x _ hx;have hyv:ρ y=.map none:=bW (hρ y _ hy) rfl;generalize hxe:ρ x=xv at hxv;cases hxv with
   |mp _ g hm=>
    refine .of (.bool r) (.pv (.lit _ rfl)) (fun w'=>?_);simp only[execOp,ho];rw[Sem.run_bind,hxe,hyv,(Qy hu g).run hb x y w'];rfl
  ·cases hq
 ·rename_i i lo len sz hx hy
  split at hq
  ·rename_i r kt hb hu
   cases hq;have hxv:=hρ x _ hx;have hyv:ρ y=.slice none 0 0:=bW (hρ y _ hy) rfl;generalize hxe:ρ x=xv at hxv;cases hxv with
   |sl _ _ _ _ g cap off hm he hlc hz hof=>
    refine .of (.bool r) (.pv (.lit _ rfl)) (fun w'=>?_);simp only[execOp,ho];rw[Sem.run_bind,hxe,hyv,(JZ hu _ _ _).run hb x y w'];rfl
  ·cases hq
 ·rename_i i v0 hx hy
  split at hq
  ·rename_i r ms hb hu
   cases hq;have hxv:=hρ x _ hx;have hyv:ρ y=.nilIface:=bW (hρ y _ hy) rfl;generalize hxe:ρ x=xv at hxv;cases hxv with
   |ifc _ hz=>
    refine .of (.bool r) (.pv (.lit _ rfl)) (fun w'=>?_);simp only[execOp,ho];rw[Sem.run_bind,hxe,hyv,(J2 hu _ _).run hb x y w'];rfl
  ·cases hq
 ·cases hq
theorem xO{d:TypeDesc}{key:Value}:∀(es:List MapEntry) (i:Nat) (r:Option Nat),zC d key (es.map (·.key))=some r→Instr.findNow d key es i=some (r.bind fun j=>es[j]?.map fun e=>(i+j,e.val))∧(∀j,r=some j→j<es.length)
 |[],i,r,h=>by cases h;exact⟨rfl,fun j h=>by cases h⟩
 |e::es,i,r,h=>by
  simp only[List.map_cons,zC] at h;unfold Instr.findNow;split at h
  ·rename_i hs
   cases h;rw[hs];exact⟨rfl,fun j hj=>by cases hj;simp⟩
  ·rename_i hs
   rw[hs];split at h
   ·rename_i j hj
    cases h;obtain⟨h1,h2⟩:=xO es (i+1) _ hj;refine⟨?_,fun k hk=>by cases hk;have:=h2 j rfl;simpa using this⟩;simp only[h1];simp only[Option.bind_some,List.getElem?_cons_succ];congr 2;funext e';congr 1;omega
   ·rename_i hj
    cases h;obtain⟨h1,h2⟩:=xO es (i+1) _ hj;exact⟨by simp only[h1];rfl,fun k hk=>by cases hk⟩
   ·cases h
  ·cases h
theorem FQ{d:TypeDesc}{key:Value}:∀(es:List MapEntry) (i:Nat),zC d key (es.map (·.key))=none→Instr.findNow d key es i=none
 |[],i,h=>by cases h
 |e::es,i,h=>by
  simp only[List.map_cons,zC] at h;unfold Instr.findNow;split at h
  ·cases h
  ·rename_i hs
   rw[hs];split at h
   ·cases h
   ·cases h
   ·rename_i hn
    exact FQ es (i+1) hn
  ·rename_i hs
   rw[hs]
theorem xN{kt:TypeId}{key:Value}:∀(es:List MapEntry) (i:Nat) (r:Option Nat),IB P kt key (es.map (·.key))=some r→(∀w:World,(Instr.findAsking kt key es i).run P w=.ok (r.bind fun j=>es[j]?.map fun e=>(i+j,e.val)) w)∧(∀j,r=some j→j<es.length)
 |[],i,r,h=>by cases h;exact⟨fun w=>rfl,fun j h=>by cases h⟩
 |e::es,i,r,h=>by
  simp only[List.map_cons,IB] at h;split at h
  ·rename_i hs
   cases h;refine⟨fun w=>?_,fun j hj=>by cases hj;simp⟩;rw[Instr.findAsking,Sem.run_bind,dF hs w];rfl
  ·rename_i hs
   split at h
   ·rename_i j hj
    cases h;obtain⟨h1,h2⟩:=xN es (i+1) _ hj;refine⟨fun w=>?_,fun k hk=>by cases hk;have:=h2 j rfl;simpa using this⟩;rw[Instr.findAsking,Sem.run_bind,dF hs w];simp only[Result.andThen_ok,Bool.false_eq_true,if_false,h1];simp only[Option.bind_some,List.getElem?_cons_succ];congr 2;funext e';congr 1;omega
   ·rename_i hj
    cases h;obtain⟨h1,h2⟩:=xN es (i+1) _ hj;refine⟨fun w=>?_,fun k hk=>by cases hk⟩;rw[Instr.findAsking,Sem.run_bind,dF hs w];simp only[Result.andThen_ok,Bool.false_eq_true,if_false,h1];rfl
   ·cases h
  ·cases h
theorem nD{kt:TypeId}{d:TypeDesc}{key:Value}(hd:P.underlying kt=some d)(es:List MapEntry)(r:Option Nat)(h:sO P kt d key (es.map (·.key))=some r) :
  (∀w:World,(Instr.findKey kt key es).run P w=.ok (r.bind fun j=>es[j]?.map fun e=>(j,e.val)) w)∧(∀j,r=some j→j<es.length):=by
 unfold sO at h;split at h
 ·rename_i r' hr
  cases h;obtain⟨h1,h2⟩:=xO es 0 _ hr;refine⟨fun w=>?_,h2⟩;rw[MapKept.run_findKey hd h1];simp
 ·rename_i hn
  obtain⟨h1,h2⟩:=xN es 0 _ h;refine⟨fun w=>?_,h2⟩;unfold Instr.findKey;rw[Sem.run_bind,run_underlying hd];simp only[Result.andThen_ok,FQ es 0 hn,h1];simp
theorem ZE{d:TypeDesc}{k:Value}(h:Ut d k=true):MapKept.IsKey d k:=by
 unfold Ut at h;split at h
 ·simpa[MapKept.IsKey] using h
 ·simp[MapKept.IsKey]
 ·cases h
theorem xI{kt:TypeId}{d:TypeDesc}{key:Value}(hd:P.underlying kt=some d)(h:qJ P kt d key=true)(e:Bool)(w':World):(Instr.checkKey e 10000 kt key).run P w'=.ok () w':=by
 unfold qJ at h;split at h
 ·rename_i hk
  exact MapKept.run_checkKey hd (ZE hk) e 9999
 ·rw[Bool.and_eq_true] at h
  obtain⟨⟨⟩,h1⟩:=Option.isSome_iff_exists.1 h.1;obtain⟨⟨⟩,h2⟩:=Option.isSome_iff_exists.1 h.2;cases e
  ·exact dF h2 w'
  ·exact dF h1 w'
theorem Bo{t:TypeId}{z:AV}(h:zeroV P t=some z):∃u,VR K z u∧∀w':World,(zeroValue t).run P w'=.ok u w':=by
 unfold zeroV at h;split at h
 ·rename_i i hi
  split at h
  ·rename_i cs hz
   split at h
   ·rename_i hp
    cases h;refine⟨.agg cs,?_,fun w'=>by simp[zeroValue,typeInfo,hi,hz]⟩;have:=VR.agg (K:=K) (cs.toList.map fun v=>.pv (.lit v)) cs.toList (by simp) (fun k hk hk'=>by
     simp only[List.getElem_map];rw[List.all_eq_true] at hp;exact .pv (.lit _ (hp _ (List.getElem_mem _))))
    simpa using this
   ·cases h
  ·rename_i v _ hz
   exact⟨v,fT h,fun w'=>by simp[zeroValue,typeInfo,hi,hz]⟩
  ·cases h
 ·cases h
theorem BO{t kt et:TypeId}{d:TypeDesc}(hu:P.underlying t=some (.map kt et))(hd:P.underlying kt=some d){key:Value}{ks:List Value}{vs:List AV}{ok:Bool}{v:AV}{ents:Array MapEntry}{clock g i:Nat}(hks:ents.toList.map (·.key)=ks)(hvs:VL K vs (ents.toList.map (·.val)))
  (hg:K.mu i=some g) (hw:w.heap[g]? = some (.map ents clock)) {m k:Operand} (ho:o.op=.lookup t m k ok) (hme:ρ m=.map (some g)) (hkey:ρ k=key) (hq:Ff P kt et d key ks vs ok=some v):Dv P o ρ K w v (some i):=by
 unfold Ff at hq;split at hq
 ·rename_i hko
  have hck:∀(e:Bool) (w':World),(Instr.checkKey e 10000 kt key).run P w'=.ok () w':=fun e w'=>xI hd hko e w'
  split at hq
  ·rename_i j hj
   rw[←hks] at hj;obtain⟨h1,h2⟩:=nD hd ents.toList _ hj;split at hq
   ·rename_i x hx
    cases hq;obtain⟨u,hu1,hu2⟩:=hvs.at_ hx;rw[List.getElem?_map] at hu1;obtain⟨e,he,rfl⟩:=au hu1;simp only[Option.bind_some,he] at h1;refine⟨if ok then .tuple #[e.val,.bool true] else e.val,?_,fun w' _ hdep=>?_⟩
    ·cases ok
     ·exact hu2
     ·exact .tup [x,.pv (.lit (.bool true))] [e.val,.bool true] rfl (fun n hn hn'=>by
       match n,hn with
       |0,_=>exact hu2
       |1,_=>exact .pv (.lit _ rfl))
    ·have hb:=(hdep i rfl g hg).trans hw
     have hf:=h1 w';simp only[execOp,ho,hme,hkey,Instr.lookup,Sem.run_bind,run_underlying hu,Result.andThen_ok,MapKept.run_getObj_map hb,Sem.run_pure,hck,hf,Option.map_some]
   ·cases hq
  ·rename_i hj
   rw[←hks] at hj;obtain⟨h1,h2⟩:=nD hd ents.toList _ hj;split at hq
   ·rename_i z hz
    cases hq;obtain⟨u,hu1,hu2⟩:=Bo (K:=K) hz;simp only[Option.bind_none] at h1;refine⟨if ok then .tuple #[u,.bool false] else u,?_,fun w' _ hdep=>?_⟩
    ·cases ok
     ·exact hu1
     ·exact .tup [z,.pv (.lit (.bool false))] [u,.bool false] rfl (fun n hn hn'=>by
       match n,hn with
       |0,_=>exact hu1
       |1,_=>exact .pv (.lit _ rfl))
    ·have hb:=(hdep i rfl g hg).trans hw
     have hf:=h1 w';simp only[execOp,ho,hme,hkey,Instr.lookup,Sem.run_bind,run_underlying hu,Result.andThen_ok,MapKept.run_getObj_map hb,Sem.run_pure,hck,hf,hu2]
   ·cases hq
  ·cases hq
 ·cases hq
theorem JC(H:WR K h w)(hρ:∀x v,ρA x=some v→VR K v (ρ x)){t:TypeId}{m k:Operand}{ok:Bool}(ho:o.op=.lookup t m k ok){v:AV}{dep:Option Nat}(hq:Qk P ρA h t m k ok=some (v,dep)):Dv P o ρ K w v dep:=by
 unfold Qk at hq;split at hq
 ·rename_i i hm
  split at hq
  ·rename_i ks vs key kt et hi hk hu
   split at hq
   ·rename_i d hd
    split at hq
    ·cases hq
    ·rename_i hsp
     split at hq
     ·rename_i v0 hl
      cases hq;obtain⟨ka,hka,hkv⟩:=Option.bind_eq_some_iff.1 hk;have hkey:ρ k=key:=bW (hρ k _ hka) hkv;have hmv:=hρ m _ hm;generalize hme:ρ m=mv at hmv;cases hmv with
      |mp _ g hg=>
       obtain⟨g',ents,clock,hg',hw,hml⟩:=H.map i ks vs hi;rw[hg] at hg';cases hg';obtain⟨hks,hvs⟩:=(ML.plain hsp).1 hml;exact BO hu hd hks hvs hg hw ho hme hkey hl
     ·cases hq
   ·cases hq
  ·cases hq
 ·cases hq
theorem MC(hρ:∀x v,ρA x=some v→VR K v (ρ x)){t:TypeId}{x:Operand}(ho:o.op=.makeInterface t x){v:AV}{dep:Option Nat}(hq:X7 P ρA t x=some (v,dep)):Dv P o ρ K w v dep:=by
 unfold X7 at hq;split at hq
 ·cases hq
 ·rename_i v0 d hni hx hu
  cases hq;refine .of (.iface t (ρ x)) (.ifc t (hρ x _ hx)) (fun w'=>?_);have hr:(Instr.makeInterface t (ρ x)).run P w'=.ok (.iface t (ρ x)) w':=by
   unfold Instr.makeInterface;rw[Sem.run_bind,run_underlying hu];simp only[Result.andThen_ok];rfl
  simp only[execOp,ho,Sem.run_bind,hr,Result.andThen_ok,Sem.run_pure]
 ·cases hq
theorem Ef(hρ:∀x v,ρA x=some v→VR K v (ρ x)){t xt:TypeId}{x:Operand}{ok:Bool}(ho:o.op=.typeAssert x xt t ok){v:AV}{dep:Option Nat}(hq:Eg P ρA x t ok=some (v,dep)):Dv P o ρ K w v dep:=by
 unfold Eg at hq;split at hq
 ·cases hq
 ·rename_i d hni hu
  split at hq
  ·rename_i t' v0 hx
   have hxv:=hρ x _ hx;generalize hxe:ρ x=xv at hxv;cases hxv with
   |ifc _ hz=>
    rename_i uz;have hcase : ∀ w' : World, (Instr.typeAssert (.iface t' uz) xt t ok).run P w' = (if t' = t then (pure (if ok then .tuple #[uz, .bool true] else uz) : Sem Value) else (if ok then (do pure (.tuple #[← zeroValue t, .bool false])) else runtimePanic (.typeAssertion (some xt) (some t') t ""))).run P w' := by
     intro w';unfold Instr.typeAssert;rw[Sem.run_bind,run_underlying hu];simp only[Result.andThen_ok]
    split at hq
    ·rename_i e
     cases hq;refine .of (if ok then .tuple #[uz,.bool true] else uz) ?_ (fun w'=>?_)
     ·cases ok
      ·exact hz
      ·exact .tup [v0,.pv (.lit (.bool true))] [uz,.bool true] rfl (fun n hn hn'=>by
        match n,hn with
        |0,_=>exact hz
        |1,_=>exact .pv (.lit _ rfl))
     ·simp only[execOp,ho,hxe,Sem.run_bind,hcase w',if_pos e,Sem.run_pure,Result.andThen_ok]
    ·rename_i e
     split at hq
     ·rename_i hok
      split at hq
      ·rename_i z hz'
       cases hq;obtain⟨u,hu1,hu2⟩:=Bo (K:=K) hz';refine .of (.tuple #[u,.bool false]) (.tup [z,.pv (.lit (.bool false))] [u,.bool false] rfl (fun n hn hn'=>by
        match n,hn with
        |0,_=>exact hu1
        |1,_=>exact .pv (.lit _ rfl))) (fun w'=>?_)
       rw[hok] at hcase ho;simp only[execOp,ho,hxe,Sem.run_bind,hcase w',if_neg e,if_true,hu2 w',Sem.run_pure,Result.andThen_ok]
      ·cases hq
     ·cases hq
  ·cases hq
 ·cases hq
theorem Qj(H:WR K h w)(hρ:∀x v,ρA x=some v→VR K v (ρ x)){v:AV}{dep:Option Nat}(hq:ajx P o.op ρA h=some (v,dep)):Dv P o ρ K w v dep:=by
 unfold ajx at hq;split at hq
 ·rename_i ho;exact Ql hρ ho hq
 ·rename_i ho;exact GQ hρ ho hq
 ·rename_i ho;exact MF hρ ho hq
 ·rename_i ho;exact JC H hρ ho hq
 ·rename_i ho;exact MC hρ ho hq
 ·rename_i ho;exact Ef hρ ho hq
 ·rename_i ho;exact MB hρ ho hq
 ·rename_i ho;exact ME hρ ho hq
 ·cases hq
end
def GH(P:Program)(kt:TypeId)(d:TypeDesc)(key:Value)(ks:List Value)(vs:List AV)(v:AV):Option (List Value×List AV):=match sO P kt d key ks with
 |some (some j)=>match ks[j]? with
  |some old=>if Instr.sameBits 10000 old key then some (ks.set j key,vs.set j v) else none
  |none=>none
 |some none=>some (ks++[key],vs++[v])
 |none=>none
def U4(P:Program)(ρ:Operand→Option AV)(h:List ah)(t:TypeId)(m k x:Operand):Option (AV×List ah×List Nat):=match ρ m,ρ x with
 |some (.mp i),some v=>match h[i]?,(ρ k).bind AV.val?,P.underlying t with
  |some (.mp ks vs),some key,some (.map kt _)=>match P.underlying kt with
   |some d=>match oW ks vs with
    |true=>none
    |false=>if qJ P kt d key then match GH P kt d key ks vs v with
      |some (ks',vs')=>some (.tup [],h.set i (.mp ks' vs'),[i])
      |none=>none
     else none
   |none=>none
  |_,_,_=>none
 |_,_=>none
def aie(h:List ah):Option Operand→Option (AV×List ah×List Nat)
 |none=>some (.mp h.length,h++[.mp [] []],[])
 |some _=>none
def Q5(P:Program)(ρ:Operand→Option AV)(h:List ah)(t:TypeId)(l c:Operand):Option (AV×List ah×List Nat):=match ρ l,ρ c,P.underlying t with
 |some lv,some cv,some (.slice e)=>match rH lv,rH cv,jw P e,jS P e,gT P e with
  |some n,some m,some zc,some sz,some by_=>if n=m∧0≤n∧0<sz∧zc.length=sz∧n≤1000000∧(by_:Int)*n≤281474976710656 then
    some (.sl h.length 0 n.toNat sz,h++[.box e (fD zc (n.toNat*sz))],[]) else none
  |_,_,_,_,_=>none
 |_,_,_=>none
def aiO(h:List ah)(sz:Nat):AV→Option (Nat×List AV)
 |.sl o lo len s=>match Pb h o with
  |some c=>if s=sz∧(lo+len)*sz≤c.length then some (len,(c.drop (lo*sz)).take (len*sz)) else none
  |none=>none
 |.pv (.lit (.slice none 0 0))=>some (0,[])
 |x=>match rowsOf x with
  |some es=>if es.all (fun c=>c.length==sz) then some (es.length,(List.range (es.length*sz)).map fun k=>.pv ((es.getD (k/sz) []).getD (k%sz) .any)) else none
  |none=>none
def aaU(P:Program)(h:List ah)(t:TypeId)(s x:AV):Option (AV×List ah×List Nat):=match P.underlying t with
 |some (.slice e)=>match jS P e,gT P e,jw P e with
  |some sz,some by_,some zc=>if 0<sz∧zc.length=sz then match aiO h sz x with
    |some (0,_)=>match s with
     |.sl _ _ _ _=>some (s,h,[])
     |s=>if bn s then some (s,h,[]) else none
    |some (n+1,new)=>if new.all AV.isCell then match s with
      |.sl o 0 len sz'=>match h[o]? with
       |some (.box ty cells)=>if ty=e∧sz'=sz∧len*sz≤cells.length∧len+(n+1)≤1000000000000∧(len+(n+1))*by_≤140737488355328 then
         some (.sl h.length 0 (len+(n+1)) sz,h.set o .dead++[.box e (cells.take (len*sz)++new)],[o]) else none
       |_=>none
      |s=>if bn s∧axU t=true∧n+1≤1000000000000∧(n+1)*by_≤140737488355328 then some (.sl h.length 0 (n+1) sz,h++[.box e new],[]) else none
     else none
    |none=>none
   else none
  |_,_,_=>none
 |_=>none
def asX(P:Program)(t:TypeId)(len:Nat)(ps:List (Nat×AV)):Option (TypeId×Nat×List AV):=match P.underlying t with
 |some (.slice e)=>match jw P e,jS P e with
  |some zc,some s=>if 0<s∧zc.length=s∧len*s≤16777216 then match rM (fun i=>some (i*s,s)) (fD zc (len*s)) ps with
    |some out=>some (e,s,out)
    |none=>none
   else none
  |_,_=>none
 |_=>none
def aaT(P:Program)(ρ:Operand→Option AV)(h:List ah)(t:TypeId)(len:Nat)(parts:Array (Nat×Operand)):Option (AV×List ah×List Nat):=match oZ ρ parts.toList with
 |some ps=>match asX P t len ps with
  |some (e,s,out)=>some (.sl h.length 0 len s,h++[.box e out],[])
  |none=>none
 |none=>none
def KX(P:Program)(h:List ah)(t:TypeId)(x:AV):Option (AV×List ah×List Nat):=match P.underlying t with
 |some (.slice e)=>match x with
  |.pv (.lit (.slice none 0 0))=>some (.tup [],h,[])
  |.sl _ _ 0 _=>some (.tup [],h,[])
  |.sl o lo (n+1) sz=>match h[o]?,jw P e with
   |some (.box ty cells),some zc=>if 0<zc.length∧zc.length=sz∧lo*sz+(n+1)*sz≤cells.length∧zc.all AV.isCell=true then
     some (.tup [],h.set o (.box ty (setAt cells (lo*sz) (fD zc ((n+1)*sz)))),[o]) else none
   |_,_=>none
  |_=>none
 |_=>none
def QZ(P:Program)(h:List ah)(t it:TypeId)(s x:AV):Option (AV×List ah×List Nat):=match P.underlying t,P.underlying it,rH x with
 |some (.slice e),some (.int _),some n=>match jS P e,gT P e,jw P e with
  |some sz,some by_,some zc=>if bn s=true∧0<sz∧zc.length=sz∧0<n∧n≤1000000∧n.toNat*by_≤140737488355328 then
    some (.sl h.length 0 n.toNat sz,h++[.box e (fD zc (n.toNat*sz))],[]) else none
  |_,_,_=>none
 |_,_,_=>none
def ala(P:Program)(op:Op)(ρ:Operand→Option AV)(h:List ah):Option (AV×List ah×List Nat):=match op with
 |.makeMap _ r=>aie h r
 |.mapUpdate t m k x=>U4 P ρ h t m k x
 |.insert t m k x=>U4 P ρ h t m k x
 |.makeSlice t l c=>Q5 P ρ h t l c
 |.call ⟨.builtin .append,args,ts⟩=>match lq ρ args.toList,ts.toList with
  |some [s,x],[t,t']=>if t=t' then aaU P h t s x else QZ P h t t' s x
  |_,_=>none
 |.call ⟨.builtin .clear,args,ts⟩=>match lq ρ args.toList,ts.toList with
  |some [x],[t]=>KX P h t x
  |_,_=>none
 |_=>none
def afL(P:Program)(op:Op)(ρ:Operand→Option AV)(h:List ah):Option (AV×List ah×List Nat):=match op with
 |.buildSlice t len parts=>aaT P ρ h t len parts
 |_=>none
section
variable{P:Program}{o:Oper}{ρ:Operand→Value}{ρA:Operand→Option AV}{K:Kn}{h:List ah}{w:World}
theorem VL.set{l:List AV}{cs:List Value}(hv:VL K l cs){a:AV}{v:Value}(ha:VR K a v)(j:Nat):VL K (l.set j a) (cs.set j v):=by
 refine⟨by simp[hv.1],fun i hi hi'=>?_⟩;rw[List.getElem_set,List.getElem_set];split
 ·exact ha
 ·exact hv.2 i (by simpa using hi) (by simpa using hi')
theorem PS{kt:TypeId}{d:TypeDesc}(hd:P.underlying kt=some d){key:Value}{ents:Array MapEntry}{clock:Nat}{ks ks':List Value}{vs vs':List AV}{v:AV}{u:Value}(hm:ents.toList.map (·.key)=ks∧VL K vs (ents.toList.map (·.val)))(hv:VR K v u)(hq:GH P kt d key ks vs v=some (ks',vs')) :
  ∃(r:Option (Nat×Value)) (ents':Array MapEntry) (clock':Nat),(∀w:World,(Instr.findKey kt key ents.toList).run P w=.ok r w)∧(ents'.toList.map (·.key)=ks'∧VL K vs' (ents'.toList.map (·.val)))∧
   ((r=none∧ents'=ents.push {key:=key,val:=u,born:=clock }∧clock'=clock+1)∨
    ∃j e,r=some (j,e.val)∧ents[j]? = some e∧Instr.sameBits 10000 e.key key=true∧ents'=ents.modify j (fun e=>{e with key:=key,val:=u })∧clock'=clock):=by
 unfold GH at hq;split at hq
 ·rename_i j hj
  split at hq
  ·rename_i old ho
   split at hq
   ·rename_i hsb
    cases hq;rw[←hm.1] at hj;obtain⟨h1,h2⟩:=nD hd ents.toList _ hj;rw[←hm.1,List.getElem?_map] at ho;obtain⟨e,he,rfl⟩:=au ho;simp only[Option.bind_some,he] at h1;refine⟨some (j,e.val),_,clock,h1,?_,.inr ⟨j,e,rfl,by simpa using he,hsb,rfl,rfl⟩⟩;have hmod:(ents.modify j (fun e=>{e with key:=key,val:=u })).toList=ents.toList.set j {e with key:=key,val:=u }:=by
     rw[Array.toList_modify];apply List.ext_getElem?;intro i;rw[List.getElem?_modify,List.getElem?_set];by_cases hij:j=i
     ·subst hij
      have hlt:j<ents.toList.length:=h2 j rfl;simp only[if_pos rfl,if_pos hlt,he];rfl
     ·simp[hij]
    refine⟨?_,?_⟩
    ·rw[hmod,List.map_set,hm.1]
    ·rw[hmod,List.map_set];exact hm.2.set hv j
   ·cases hq
  ·cases hq
 ·rename_i hj
  cases hq;rw[←hm.1] at hj;obtain⟨h1,_⟩:=nD hd ents.toList _ hj;refine⟨none,_,clock+1,h1,?_,.inl ⟨rfl,rfl,rfl⟩⟩;refine⟨by simp[hm.1],?_⟩;simpa using hm.2.append (VL.single hv)
 ·cases hq
theorem Vw{kt:TypeId}{d:TypeDesc}{key:Value}{ks ks':List Value}{vs vs':List AV}{v:AV}(hq:GH P kt d key ks vs v=some (ks',vs')):oW ks' vs'=false:=by
 have key2:ks'≠[]→oW ks' vs'=false:=by
  intro h;cases ks' with
  |nil=>exact absurd rfl h
  |cons _ _=>rfl
 unfold GH at hq;split at hq
 ·split at hq
  ·rename_i j _ old ho
   split at hq
   ·cases hq
    refine key2 fun e=>?_
    have:=congrArg List.length e;rw[List.length_set,List.length_nil] at this;rw[List.length_eq_zero_iff.1 this] at ho;cases ho
   ·cases hq
  ·cases hq
 ·cases hq
  exact key2 (by simp)
 ·cases hq
theorem LK(H:WR K h w){t kt et:TypeId}{d:TypeDesc}(hu:P.underlying t=some (.map kt et))(hd:P.underlying kt=some d){key:Value}{ks ks' ks0 ks2:List Value}{vs vs' vs0 vs2:List AV}{i g clock:Nat}{ents:Array MapEntry}{m k x:Operand}{vx:AV}
  (ho:o.op=.mapUpdate t m k x∨o.op=.insert t m k x) (hi:h[i]? = some (.mp ks0 vs0)) (hg:K.mu i=some g) (hw:w.heap[g]? = some (.map ents clock)) (hml:ents.toList.map (·.key)=ks∧VL K vs (ents.toList.map (·.val))) (hko:qJ P kt d key=true)
  (hkey:ρ k=key) (hme:ρ m=.map (some g)) (hvx:VR K vx (ρ x)) (hup:GH P kt d key ks vs vx=some (ks',vs')) (hnew:∀l:List MapEntry,l.map (·.key)=ks'∧VL K vs' (l.map (·.val))→ML K ks2 vs2 l):Eff P o ρ K h w (.tup []) (h.set i (.mp ks2 vs2)) [i]:=by
 obtain⟨r,ents',clock',hf,hml',hcase⟩:=PS hd (clock:=clock) hml hvx hup;have hck:(Instr.checkKey false 10000 kt key).run P w=.ok () w:=xI hd hko false w;have hrun:(Instr.mapUpdate t (.map (some g)) key (ρ x)).run P w=.ok () {w with heap:=w.heap.setIfInBounds g (.map ents' clock') }:=by
  have hfk:=hf w;rcases hcase with⟨rfl,rfl,rfl⟩|⟨j,e,rfl,he,hsb,rfl,rfl⟩
  ·simp only[Instr.mapUpdate,Sem.run_bind,run_underlying hu,Result.andThen_ok,MapKept.run_getObj_map hw,hck,hfk,MapKept.run_setObj_map _ hw]
  ·simp only[Instr.mapUpdate,Sem.run_bind,run_underlying hu,Result.andThen_ok,MapKept.run_getObj_map hw,hck,hfk,he,Option.map_some,Option.getD_some,Instr.keyThatStays,if_pos hsb,Sem.run_pure,MapKept.run_setObj_map _ hw]
 obtain⟨hs1,hs2⟩:=MapKept.heap_set (o':=.map ents' clock') hw;refine⟨.skip,_,{w with heap:=w.heap.setIfInBounds g (.map ents' clock') },K,?_,.inr ⟨rfl,rfl⟩,VR.undef K,?_,?_⟩
 ·rcases ho with ho|ho<;>simp only[execOp,ho,hme,hkey,Sem.run_bind,hrun,Result.andThen_ok,Sem.run_pure]
 ·exact Step.store H i (.mp ks0 vs0) (.mp ks2 vs2) g hi rfl rfl hg ⟨ents',clock',hs1,hnew _ hml'⟩ (fun o=>H.mapM hw o) ⟨rfl,rfl,rfl,by simp,fun k _ hk=>hs2 k hk⟩ (by simp) (fun k hk=>hs2 k hk)
 ·exact⟨rfl,rfl,rfl,by simp,fun k hk hs=>hs2 k (fun e=>hs ⟨i,_,by simp,hi,rfl,by rw[e];exact hg⟩)⟩
theorem BU(H:WR K h w)(hρ:∀x v,ρA x=some v→VR K v (ρ x)){t:TypeId}{m k x:Operand}(ho:o.op=.mapUpdate t m k x∨o.op=.insert t m k x){v:AV}{h':List ah}{touch:List Nat}(hq:U4 P ρA h t m k x=some (v,h',touch)):Eff P o ρ K h w v h' touch:=by
 unfold U4 at hq;split at hq
 ·rename_i i vx hm hx
  split at hq
  ·rename_i ks vs key kt et hi hk hu
   split at hq
   ·rename_i d hd
    split at hq
    ·cases hq
    ·rename_i hsp
     split at hq
     ·rename_i hko
      split at hq
      ·rename_i ks' vs' hup
       cases hq;obtain⟨ka,hka,hkv⟩:=Option.bind_eq_some_iff.1 hk;have hkey:ρ k=key:=bW (hρ k _ hka) hkv;have hmv:=hρ m _ hm;generalize hme:ρ m=mv at hmv;cases hmv with
       |mp _ g hg=>
        obtain⟨g',ents,clock,hg',hw,hml⟩:=H.map i ks vs hi;rw[hg] at hg';cases hg';exact LK H hu hd ho hi hg hw ((ML.plain hsp).1 hml) hko hkey hme (hρ x _ hx) hup (fun l hl=>(ML.plain (Vw hup)).2 hl)
      ·cases hq
     ·cases hq
   ·cases hq
  ·cases hq
 ·cases hq
theorem Wv(H:WR K h w){t:TypeId}(ho:o.op=.makeMap t none):Eff P o ρ K h w (.mp h.length) (h++[.mp [] [.pv (.rows [])]]) []:=by
 refine⟨.value (.map (some w.heap.size)),_,w.alloc (.map #[] 0),_,?_,.inl rfl,.mp _ _ (gB _ _ _ 0 0),Step.fresh H (.mp [] [.pv (.rows [])]) 0 0 (.map #[] 0) rfl ⟨rfl,rfl,rfl,by simp,fun k hk _=>Below.heap_alloc w _ k hk⟩ (fun hx=>⟨#[],0,heap_alloc_new w _,ML.row.2 ⟨[],by rfl,rfl,rfl,fun i hi=>by simp at hi⟩⟩),jv.alloc _ _ _⟩;have hr:(Instr.makeMap t none).run P w=.ok (.map (some w.heap.size)) (w.alloc (.map #[] 0)):=rfl;simp only[execOp,ho,Option.map_none,Sem.run_bind,hr,Result.andThen_ok,Sem.run_pure]
theorem OQ(H:WR K h w){t:TypeId}{r:Option Operand}(ho:o.op=.makeMap t r){v:AV}{h':List ah}{touch:List Nat}(hq:aie h r=some (v,h',touch)):Eff P o ρ K h w v h' touch:=by
 cases r with
 |some _=>cases hq
 |none=>
  cases hq;refine⟨.value (.map (some w.heap.size)),_,w.alloc (.map #[] 0),_,?_,.inl rfl,.mp _ _ (gB _ _ _ 0 0),Step.fresh H (.mp [] []) 0 0 (.map #[] 0) rfl ⟨rfl,rfl,rfl,by simp,fun k hk _=>Below.heap_alloc w _ k hk⟩ (fun hx=>⟨#[],0,heap_alloc_new w _,rfl,rfl,fun i hi=>by simp at hi⟩),jv.alloc _ _ _⟩;have hr:(Instr.makeMap t none).run P w=.ok (.map (some w.heap.size)) (w.alloc (.map #[] 0)):=rfl;simp only[execOp,ho,Option.map_none,Sem.run_bind,hr,Result.andThen_ok,Sem.run_pure]
theorem KW(H:WR K h w)(hρ:∀x v,ρA x=some v→VR K v (ρ x)){t:TypeId}{l c:Operand}(ho:o.op=.makeSlice t l c){v:AV}{h':List ah}{touch:List Nat}(hq:Q5 P ρA h t l c=some (v,h',touch)):Eff P o ρ K h w v h' touch:=by
 unfold Q5 at hq;split at hq
 ·rename_i lv cv e hl hc hu
  split at hq
  ·rename_i n m zc sz by_ hn hm hz hs hb
   split at hq
   ·rename_i hcond
    cases hq;obtain⟨rfl,h0,hsz,hzc,hle,hby⟩:=hcond;obtain⟨k1,hk1⟩:=gF (hρ l _ hl) hn;obtain⟨k2,hk2⟩:=gF (hρ c _ hc) hm;obtain⟨i,z,hi,hiz,hvz⟩:=bL (K:=K) hz;have his:i.size=sz:=by unfold jS at hs;rw[hi] at hs;simpa using hs
    have hib:i.bytes=by_:=by unfold gT at hb;rw[hi] at hb;simpa using hb
    have hrun:=run_make (P:=P) w t e i z hu hi hiz k1 k2 n n h0 (Int.le_refl _) (by rw[hib];exact hby) (by omega);rw[his] at hrun;have hms:(madeCells z.cells (n.toNat*sz)).size=n.toNat*sz:=size_madeCells _ _;have hvl:=ji hvz (by omega) (n.toNat*sz);refine⟨.value (.slice (some ⟨w.heap.size,0,none⟩) n.toNat n.toNat),_,w.alloc (.cells (madeCells z.cells (n.toNat*sz)) e),K.withBox h.length w.heap.size n.toNat sz,?_,.inl rfl,?_,?_,jv.alloc _ _ _⟩
    ·simp only[execOp,ho,hk1,hk2,Sem.run_bind,hrun,Result.andThen_ok,Sem.run_pure]
    ·exact .sl _ 0 _ sz _ _ 0 (gB _ _ _ _ _) (di _ _ _ _ _) (Nat.le_refl _) (by rw[dP];omega) (fun _=>by omega)
    ·refine Step.fresh H _ n.toNat sz _ rfl ⟨rfl,rfl,rfl,by simp,fun k hk _=>Below.heap_alloc w _ k hk⟩ (fun hx=>⟨_,heap_alloc_new w _,?_,?_⟩)
     ·rw[dP,di];exact⟨hms,by unfold maxLen;omega⟩
     ·have hl1:(fD zc (n.toNat*sz)).length=n.toNat*sz:=by simp[fD]
      rw[hl1,List.take_of_length_le (by rw[Array.length_toList,hms];exact Nat.le_refl _)];exact hvl.mono hx
   ·cases hq
  ·cases hq
 ·cases hq
theorem Rm{i:Nat}{c:List AV}(h1:Pb h i=some c):∃ty,h[i]? = some (.box ty c):=by
 unfold Pb at h1;split at h1
 ·rename_i ty c' hi;cases h1;exact⟨ty,hi⟩
 ·cases h1
theorem DW(H:WR K h w){x:AV}{v:Value}(hv:VR K x v){sz n:Nat}{cells:List AV}(hp:0<sz)(hq:aiO h sz x=some (n,cells)) :
  ∃a cap,v=.slice a n cap∧(0<n→∃ad news,a=some ad∧VL K cells news∧news.length=n*sz∧∀j u,news[j]? = some u→w.cell? (ad.add j)=some u):=by
 unfold aiO at hq;split at hq
 ·rename_i ob lo len s
  split at hq
  ·rename_i c hc
   split at hq
   ·rename_i hcond
    cases hq;obtain⟨rfl,hle⟩:=hcond;obtain⟨ty,hi⟩:=Rm hc;obtain⟨g,cs,hm,hw,hs,hvl⟩:=H.box ob ty c hi;cases hv with
    |sl _ _ _ _ g' cap off hm' he hlc hz hof=>
     rw[hm] at hm';cases hm';refine⟨_,cap,rfl,fun hn=>?_⟩;have hof:=hof (by omega);subst hof;have hcl:c.length≤cs.size:=by have:=hvl.1;simp at this;omega
     have e1:(lo+n)*s=lo*s+n*s:=Nat.add_mul _ _ _;refine⟨_,((cs.toList.take c.length).drop (lo*s)).take (n*s),rfl,(hvl.drop _).take _,?_,fun j u hj=>?_⟩
     ·simp;omega
     ·rw[List.getElem?_take] at hj
      split at hj
      ·rw[List.getElem?_drop,List.getElem?_take] at hj
       split at hj
       ·rw[add_mid]
        rw[Array.getElem?_toList] at hj;simp[World.cell?,hw,hj]
       ·cases hj
      ·cases hj
   ·cases hq
  ·cases hq
 ·cases hq
  exact⟨none,0,bW hv rfl,fun hn=>by omega⟩
 ·split at hq
  ·rename_i es hes
   split at hq
   ·rename_i hall
    cases hq;have hpr:=fE hv hes;by_cases hne:es=[]
    ·subst hne
     cases hpr with
     |rows _ a cap g off sz us ha hn _ _ _=>exact⟨a,cap,rfl,fun hn=>by simp at hn⟩
    ·have hsize:∀i (hi:i<es.length),es[i].length=sz:=fun i hi=>by
      rw[List.all_eq_true] at hall;simpa using hall _ (List.getElem_mem hi)
     obtain⟨g,off,cap,news,he,hnl,hnM,hnP⟩:=yI hpr hne hsize hp;refine⟨_,cap,he,fun _=>⟨_,news,rfl,⟨by simp[hnl],fun k hk hk'=>?_⟩,hnl,fun j u hj=>by rw[add_mid];exact H.agr _ _ _ (hnM j u hj)⟩⟩;simp only[List.getElem_map,List.getElem_range];rw[hnl] at hk';have h1:k/sz<es.length:=Nat.div_lt_of_lt_mul (by rw[Nat.mul_comm];exact hk');have h2:k%sz<es[k/sz].length:=by rw[hsize _ h1];exact Nat.mod_lt _ hp
     obtain⟨u,hu1,hu2⟩:=hnP (k/sz) h1 (k%sz) h2;have e2:k/sz*sz+k%sz=k:=by rw[Nat.mul_comm];exact Nat.div_add_mod k sz
     rw[e2,List.getElem?_eq_getElem (by rw[hnl];exact hk')] at hu1;rw[Option.some.inj hu1];refine .pv ?_;have e3:es.getD (k/sz) []=es[k/sz]:=by simp[List.getD,List.getElem?_eq_getElem h1]
     rw[e3];have e4:es[k/sz].getD (k%sz) .any=es[k/sz][k%sz]:=by simp[List.getD,List.getElem?_eq_getElem h2]
     rw[e4];exact hu2
   ·cases hq
  ·cases hq
theorem OU(H:WR K h w){args:Array Operand}{s x:Operand}(ha:args.toList=[s,x]){t:TypeId}{ts:Array TypeId}(hts:ts.toList=[t,t])(ho:o.op=.call ⟨.builtin .append,args,ts⟩)
  {sA xA:AV} (hs:VR K sA (ρ s)) (hx:VR K xA (ρ x)) {v:AV} {h':List ah} {touch:List Nat} (hq:aaU P h t sA xA=some (v,h',touch)):Eff P o ρ K h w v h' touch:=by
 unfold aaU at hq;split at hq
 ·rename_i e hu
  split at hq
  ·rename_i sz by_ zc hsz hby hz
   obtain⟨i,z,hi,hiz,hvz⟩:=bL (K:=K) hz;have his:i.size=sz:=by unfold jS at hsz;rw[hi] at hsz;simpa using hsz
   have hib:i.bytes=by_:=by unfold gT at hby;rw[hi] at hby;simpa using hby
   split at hq
   ·rename_i hc0
    have hzs:z.cells.size=sz:=by have:=hvz.1;simp at this;omega
    split at hq
    ·rename_i cells hsrc
     obtain⟨a,cap,hxe,_⟩:=DW H hx hc0.1 hsrc;have hse:∃base n c,ρ s=.slice base n c∧n≤c∧v=sA∧h'=h∧touch=[]:=by
      split at hq
      ·rename_i ob lo len sz'
       cases hq;generalize hsx:ρ s=sv at hs;cases hs with
       |sl _ _ _ _ g cap off hm he hl hz' hof=>exact⟨_,_,_,rfl,hl,rfl,rfl,rfl⟩
      ·split at hq
       ·rename_i hn
        cases hq;exact⟨none,0,0,fU hs hn,Nat.le_refl _,rfl,rfl,rfl⟩
       ·cases hq
     obtain⟨base,n,c,h1,h2,rfl,rfl,rfl⟩:=hse;refine⟨_,ρ s,w,K,cZ ha hts ho (v:=ρ s) ?_,.inl rfl,hs,Step.refl H,jv.refl _ _⟩;rw[h1,hxe];exact iA t o.type e i hu hi base a n c cap h2 w
    ·rename_i n new hsrc
     split at hq
     ·rename_i hcell
      obtain⟨a,capx,hxe,hnews⟩:=DW H hx hc0.1 hsrc;obtain⟨ad,news,rfl,hvn,hnl,hncell⟩:=hnews (by omega);have h1:∀u∈news,u.oneCell'=true:=zU hvn hcell;have hnn:new.length=(n+1)*sz:=by rw[hvn.1];exact hnl
      split at hq
      ·rename_i ob len sz'
       split at hq
       ·rename_i ty cells hob
        split at hq
        ·rename_i hcond
         obtain⟨rfl,rfl,hlc,hmx,hbt⟩:=hcond;cases hq;obtain⟨g,cs,hm,hwg,⟨hcs,hZ⟩,hvl⟩:=H.box ob ty cells hob;have hcl:cells.length≤cs.size:=by have:=hvl.1;simp at this;omega
         generalize hse:ρ s=sv at hs;cases hs with
         |sl _ _ _ _ g' cap off hm' he hl hzz hof=>
          rw[hm] at hm';cases hm';rw[he] at hcs;have hsetlen:(h.set ob .dead).length=h.length:=by simp
          have hlive:∀(j:Nat) x,(h.set ob .dead)[j]? = some x→x.live=true→h[j]? = some x∧j≠ob:=by
           intro j x hj hl;rw[List.getElem?_set] at hj;by_cases ej:ob=j
           ·rw[if_pos ej] at hj
            split at hj
            ·cases hj;cases hl
            ·cases hj
           ·rw[if_neg ej] at hj;exact⟨hj,fun e=>ej e.symm⟩
          have htake:(cs.toList.take (len*sz')).length=len*sz':=by simp;omega
          have hvo:VL K (cells.take (len*sz')) (cs.toList.take (len*sz')):=by
           have:=hvl.take (len*sz')
           rwa [List.take_take,Nat.min_eq_left hlc] at this
          have hvall:VL K (cells.take (len*sz')++new) (cs.toList.take (len*sz')++news):=hvo.append hvn;have hlall:(cells.take (len*sz')++new).length=(cs.toList.take (len*sz')++news).length:=hvall.1;by_cases hroom:len+(n+1)≤cap
          ·have hof:=hof (by omega)
           rw[Nat.zero_mul] at hof;subst hof;have hfit:len*sz'+news.length≤cs.size:=by rw[hnl,hcs,←Nat.add_mul];exact Nat.mul_le_mul_right _ (by omega)
           have hrun:=run_append_room (P:=P) w t o.type ty i hu hi g len cap cs hwg ad (n+1) capx news (by rw[his];exact hnl) hncell h1 hroom (by rw[his];exact hfit);rw[his] at hrun;rw[←hse,←hxe] at hrun;generalize hcur:(cs.toList.take (len*sz')++news++cs.toList.drop (len*sz'+news.length)).toArray=cur at hrun;have hcurs:cur.size=K.Z g*sz':=by rw[←hcur,←hcs];simp;omega
           have hst:=Step.put H (h1:=h.set ob .dead) (w':=w.setRow g cur) (.box ty (cells.take (len*sz')++new)) g (K.Z g) (K.E g)
            ⟨cur,setRow_heap w g cs cur ty _ hwg,by rw[dP,di,he];exact⟨hcurs,hZ⟩,by
             rw[hlall,←hcur];show VL _ _ (List.take _ (cs.toList.take (len*sz')++news++cs.toList.drop (len*sz'+news.length)));rw[List.take_left];exact hvall.mono (Ext.withBox (H.fresh _ (Nat.le_refl _)) (fun _ _=>⟨rfl,rfl⟩))⟩
            (by have:=Dk hwg;simpa[World.setRow] using this) ⟨rfl,rfl,rfl,by simp[World.setRow],fun k _ hk=>setRow_other w g k _ hk⟩
            (fun o=>H.apart ob ty cells g hob hm o) hsetlen (fun j x hj hl=>by
             obtain⟨h2,h3⟩:=hlive j x hj hl;exact⟨h2,fun e=>h3 (H.inj j ob x _ g h2 hob hl rfl e hm)⟩)
            (fun i _=>⟨rfl,rfl⟩) (.inr ⟨ob,_,hob,rfl,hm⟩)
           refine⟨_,_,_,_,cZ ha hts ho hrun,.inl rfl,.sl _ 0 _ sz' g cap 0 (gB _ _ _ _ _) (by rw[di];exact he) hroom (by rw[dP];omega) (fun _=>by omega),hst,⟨rfl,rfl,rfl,by simp[World.setRow],fun k _ hk=>setRow_other w g k _ (fun e=>hk ⟨ob,_,by simp,hob,rfl,by rw[e];exact hm⟩)⟩⟩
          ·have holds:∀j v,(cs.toList.take (len*sz'))[j]? = some v→w.cell? ((⟨g,off,none⟩:Addr).add j)=some v:=by
            intro j v hj;have hjl:j<len*sz':=by
             by_cases hh:j<len*sz'
             ·exact hh
             ·rw[List.getElem?_eq_none (by omega)] at hj;cases hj
            have hl0:0<len:=by
             rcases Nat.eq_zero_or_pos len with h0|h0
             ·rw[h0] at hjl;omega
             ·exact h0
            have hof:=hof (by omega);rw[Nat.zero_mul] at hof;subst hof;rw[add_mid,Nat.zero_add];rw[List.getElem?_take,if_pos hjl,Array.getElem?_toList] at hj;simp[World.cell?,hwg,hj]
           have hrun:=run_append_grow (P:=P) w t o.type ty i z hu hi hiz ⟨g,off,none⟩ len cap (cs.toList.take (len*sz')) (by rw[his];exact htake) holds ad (n+1) capx news (by rw[his];exact hnl) hncell (by omega) (by omega) (growslice_fits (by omega) (by rw[hib];exact hbt));rw[←hse,←hxe] at hrun;have hge:=grownCap_ge w (len+(n+1)) cap ty;have hcm:=grownCap_le_maxLen w (len+(n+1)) cap ty (by unfold maxLen;omega);generalize grownCap w (len+(n+1)) cap ty=cap' at *;generalize hcur:(cs.toList.take (len*sz')).toArray++news.toArray++Builtin.zeroCells z.cells (cap'-(len+(n+1)))=cur at hrun;have hcurs:cur.size=cap'*sz':=by
            rw[←hcur];simp only[Array.size_append,List.size_toArray,size_zeroCells,hzs,hnl,htake,←Nat.add_mul];congr 1;omega
           have hst:=Step.put H (h1:=h.set ob .dead) (w':=w.drew.alloc (.cells cur ty)) (.box ty (cells.take (len*sz')++new)) w.heap.size cap' sz'
            ⟨cur,heap_alloc_new w.drew _,by rw[dP,di];exact⟨hcurs,hcm⟩,by
             rw[hlall,←hcur];have e5:((cs.toList.take (len*sz')).toArray++news.toArray++Builtin.zeroCells z.cells (cap'-(len+(n+1)))).toList=(cs.toList.take (len*sz')++news)++(Builtin.zeroCells z.cells (cap'-(len+(n+1)))).toList:=by simp
             rw[e5,List.take_left];exact hvall.mono (Ext.withBox (H.fresh _ (Nat.le_refl _)) (fun i hi=>by have:=H.lt i _ hi;omega))⟩
            (by simp) (jv.drewAlloc _ _ _)
            (fun o=>H.noM (Nat.le_refl _) o) hsetlen (fun j x hj hl=>by
             obtain⟨h2,h3⟩:=hlive j x hj hl;exact⟨h2,fun e=>by have:=H.lt j _ e;omega⟩)
            (fun i hi=>by have:=H.lt i _ hi;omega) (.inl (Nat.le_refl _))
           refine⟨_,_,_,_,cZ ha hts ho hrun,.inl rfl,.sl _ 0 _ sz' w.heap.size cap' 0 (gB _ _ _ _ _) (di _ _ _ _ _) hge (by rw[dP];omega) (fun _=>by omega),hst,jv.drewAlloc _ _ _⟩
        ·cases hq
       ·cases hq
      ·split at hq
       ·rename_i hcond
        obtain⟨hnil,_,hmx,hbt⟩:=hcond;cases hq;have hse:=fU hs hnil;have hrun:=run_append_nil (P:=P) w t o.type e i z hu hi hiz ad (n+1) capx news (by rw[his];exact hnl) hncell (by omega) (by omega) (by rw[hib];omega);rw[←hse,←hxe] at hrun;have hge:=grownCap_ge w (n+1) 0 e;have hcm:=grownCap_le_maxLen w (n+1) 0 e (by unfold maxLen;omega);generalize grownCap w (n+1) 0 e=cap at *;generalize hcur:news.toArray++Builtin.zeroCells z.cells (cap-(n+1))=cur at hrun;have hcurs:cur.size=cap*sz:=by
         rw[←hcur];simp only[Array.size_append,List.size_toArray,size_zeroCells,hzs,hnl,←Nat.add_mul];congr 1;omega
        have hst:=Step.fresh H (w':=w.drew.alloc (.cells cur e)) (.box e new) cap sz (.cells cur e) rfl (jv.drewAlloc _ _ _) (fun hx=>⟨cur,heap_alloc_new w.drew _,by
         rw[dP,di];exact⟨hcurs,hcm⟩,by
         rw[hvn.1,←hcur];have e5:(news.toArray++Builtin.zeroCells z.cells (cap-(n+1))).toList=news++(Builtin.zeroCells z.cells (cap-(n+1))).toList:=by simp
         rw[e5,List.take_left];exact hvn.mono hx⟩)
        exact⟨_,_,_,_,cZ ha hts ho hrun,.inl rfl,.sl _ 0 _ sz w.heap.size cap 0 (gB _ _ _ _ _) (di _ _ _ _ _) hge (by rw[dP];omega) (fun _=>by omega),hst,jv.drewAlloc _ _ _⟩
       ·cases hq
     ·cases hq
    ·cases hq
   ·cases hq
  ·cases hq
 ·cases hq
theorem OT(H:WR K h w)(hρ:∀x v,ρA x=some v→VR K v (ρ x)){t:TypeId}{len:Nat}{parts:Array (Nat×Operand)}(ho:o.op=.buildSlice t len parts){v:AV}{h':List ah}{touch:List Nat}(hq:aaT P ρA h t len parts=some (v,h',touch)):Eff P o ρ K h w v h' touch:=by
 unfold aaT at hq;split at hq
 ·rename_i ps hps
  split at hq
  ·rename_i e s out hb
   cases hq;unfold asX at hb;split at hb
   ·rename_i e' hu
    split at hb
    ·rename_i zc s' hz hs
     split at hb
     ·rename_i hc
      split at hb
      ·rename_i out' hf
       cases hb;obtain⟨ie,z,hi,hiz,hvz⟩:=bL (K:=K) hz;obtain⟨h1,h2⟩:=lm hρ _ _ hps;have hies:ie.size=s:=by unfold jS at hs;rw[hi] at hs;simpa using hs
       obtain⟨us,hfill,hvu⟩:=kS _ ps (gm ρ parts.toList) _ ((Array.range (len*s)).map (z.cells[· % z.cells.size]!)) out (ji hvz (by omega) _) h1 h2 hf;have hout:∀(ps:List (Nat×AV)) (cells out:List AV),rM (fun i=>some (i*s,s)) cells ps=some out→out.length=cells.length:=by
        intro ps
        induction ps with
        |nil=>intro cells out hf;cases hf;rfl
        |cons q ps ih=>
         intro cells out hf;obtain⟨qi,qv⟩:=q;simp only[rM] at hf;split at hf
         ·cases hf
         ·rename_i hcond
          rw[ih _ _ hf];simp[setAt];omega
       have hol:=hout _ _ _ hf;have hzl:(fD zc (len*s)).length=len*s:=by simp[fD]
       have husz:us.size=len*s:=by have:=hvu.1;simp at this;omega
       have hlen:len≤16777216:=Nat.le_trans (Nat.le_mul_of_pos_right len hc.1) hc.2.2;have hrun:(execOp ρ o).run P w=.ok (.value (.slice (some ⟨w.heap.size,0,none⟩) len len)) (w.alloc (.cells us e)):=by
        have hp':(parts.map fun(i,x)=>(i,ρ x)).toList=gm ρ parts.toList:=by simp[gm]
        by_cases h0:len*s=0
        ·have hl0:len=0:=by
          rcases Nat.mul_eq_zero.1 h0 with h0|h0
          ·exact h0
          ·omega
         subst hl0;have e0:∀f:Nat→Value,(Array.range (0*s)).map f = #[]:=fun f=>by apply Array.ext';simp
         rw[e0] at hfill;simp only[execOp,ho,Instr.buildSlice,Sem.run_bind,run_underlying hu,Result.andThen_ok,dV hs];rw[if_neg (by simp),if_pos (by simp)];simp only[Sem.run_bind,Sem.run_pure,Result.andThen_ok,e0,hp',hfill];simp[newRow]
        ·have:=run_buildSlice (P:=P) w t e len (parts.map fun(i,x)=>(i,ρ x)) us ie z hu hi hiz (by rw[hies];have:=hc.2.2;omega) (by rw[hies];exact h0) (by rw[hies,hp'];exact hfill)
         simp only[execOp,ho,Sem.run_bind,this,Result.andThen_ok,Sem.run_pure]
       have hst:=Step.fresh H (w':=w.alloc (.cells us e)) (.box e out) len s (.cells us e) rfl (jv.alloc _ _ _) (fun hx=>⟨us,heap_alloc_new w _,by
        rw[dP,di];exact⟨husz,by unfold maxLen;omega⟩,by
        rw[hvu.1,List.take_length];exact hvu.mono hx⟩)
       exact⟨_,_,_,_,hrun,.inl rfl,.sl _ 0 _ s w.heap.size len 0 (gB _ _ _ _ _) (di _ _ _ _ _) (Nat.le_refl _) (by rw[dP];omega) (fun _=>by omega),hst,jv.alloc _ _ _⟩
      ·cases hb
     ·cases hb
    ·cases hb
   ·cases hb
  ·cases hq
 ·cases hq
theorem xU{args:Array Operand}{x:Operand}(ha:args.toList=[x]){t:TypeId}{ts:Array TypeId}(hts:ts.toList=[t])(ho:o.op=.call ⟨.builtin .clear,args,ts⟩){v:Value}{w':World}
  (hr:(Builtin.clear_ #[t] o.type #[ρ x]).run P w=.ok v w'):(execOp ρ o).run P w=.ok (.value v) w':=by
 have e1:args = #[x]:=by rw[←Array.toArray_toList (xs:=args),ha]
 have e2:ts = #[t]:=by rw[←Array.toArray_toList (xs:=ts),hts]
 subst e1;subst e2;simp only[execOp,ho,resolve,invoke,builtin,Sem.run_bind,Sem.run_pure,Result.andThen_ok,List.map_toArray,List.map_cons,List.map_nil,hr]
theorem G6(H:WR K h w){args:Array Operand}{x:Operand}(ha:args.toList=[x]){t:TypeId}{ts:Array TypeId}(hts:ts.toList=[t])(ho:o.op=.call ⟨.builtin .clear,args,ts⟩)
  {xA:AV} (hx:VR K xA (ρ x)) {v:AV} {h':List ah} {touch:List Nat} (hq:KX P h t xA=some (v,h',touch)):Eff P o ρ K h w v h' touch:=by
 unfold KX at hq;split at hq
 ·rename_i e hu
  split at hq
  ·cases hq
   have hxe:ρ x=.slice none 0 0:=bW hx rfl;refine⟨_,.tuple #[],w,K,xU ha hts ho (v:=.tuple #[]) ?_,.inl rfl,VR.undef K,Step.refl H,jv.refl _ _⟩;rw[hxe];simp[Builtin.clear_,run_underlying hu]
  ·cases hq
   generalize hxe:ρ x=xv at hx;cases hx with
   |sl _ _ _ _ g cap off hm he hl hz hof=>
    refine⟨_,.tuple #[],w,K,xU ha hts ho (v:=.tuple #[]) ?_,.inl rfl,VR.undef K,Step.refl H,jv.refl _ _⟩;rw[hxe];simp[Builtin.clear_,run_underlying hu]
  ·rename_i ob lo n sz
   split at hq
   ·rename_i ty cells zc hob hz
    split at hq
    ·rename_i hc
     cases hq;obtain⟨hc1,hc2,hc3,hc4⟩:=hc;obtain⟨i,z,hi,hiz,hvz⟩:=bL (K:=K) hz;have hzs:z.cells.size=sz:=by have:=hvz.1;simp at this;omega
     obtain⟨g,cs,hm,hw,hsz,hvl⟩:=H.box ob ty cells hob;have hcl:cells.length≤cs.size:=by have:=hvl.1;simp at this;omega
     generalize hxe:ρ x=xv at hx;cases hx with
     |sl _ _ _ _ g' cap off hm' he hl hz' hof=>
      rw[hm] at hm';cases hm';have hof:=hof (by omega);subst hof;have hzv:=ji hvz (by omega) ((n+1)*sz);have hze:(Array.range ((n+1)*sz)).map (z.cells[· % z.cells.size]!)=Builtin.zeroCells z.cells (n+1):=by
       unfold Builtin.zeroCells;rw[hzs]
      rw[hze] at hzv;have hzl:(Builtin.zeroCells z.cells (n+1)).toList.length=(n+1)*sz:=by rw[←hzv.1];simp[fD]
      have hcell:(fD zc ((n+1)*sz)).all AV.isCell=true:=by
       rw[List.all_eq_true] at hc4 ⊢;intro y hy;simp only[fD,List.mem_map,List.mem_range] at hy;obtain⟨k,hk,rfl⟩:=hy;have hk2:k%zc.length<zc.length:=Nat.mod_lt _ hc1;have e1:zc.getD (k%zc.length) (.tup [])=zc[k%zc.length]:=by simp[List.getD,List.getElem?_eq_getElem hk2]
       rw[e1];exact hc4 _ (List.getElem_mem hk2)
      have hst:=run_storeCells_at P g (lo*sz) ty (Builtin.zeroCells z.cells (n+1)).toList 0 cs w hw (by rw[hzl];omega) (zU hzv hcell);simp only[Nat.add_zero] at hst;have hzr:(zeroValue e).run P w=.ok z w:=by simp[zeroValue,typeInfo,hi,hiz]
      refine⟨_,.tuple #[],w.setRow g (setAt cs.toList (lo*sz) (Builtin.zeroCells z.cells (n+1)).toList).toArray,K,xU ha hts ho (v:=.tuple #[]) ?_,.inl rfl,VR.undef K,?_,?_⟩
      ·rw[hxe]
       have hst':(storeCells ⟨g,lo*sz,none⟩ (Builtin.zeroCells z.cells (n+1)).toList).run P w=.ok () (w.setRow g (setAt cs.toList (lo*sz) (Builtin.zeroCells z.cells (n+1)).toList).toArray):=by
        rw[hst];simp[setAt]
       simp[Builtin.clear_,run_underlying hu,hzr,hst']
      ·refine Step.store H ob (.box ty cells) (.box ty (setAt cells (lo*sz) (fD zc ((n+1)*sz)))) g hob rfl rfl hm ⟨_,setRow_heap w g cs _ ty _ hw,⟨?_,hsz.2⟩,?_⟩ (fun o=>H.apart ob ty cells g hob hm o) ⟨rfl,rfl,rfl,by simp[World.setRow],fun k _ hk=>setRow_other w g k _ hk⟩ (by simp[World.setRow]) (fun k hk=>setRow_other w g k _ hk)
       ·rw[←hsz.1];simp only[setAt,List.size_toArray,List.length_append,List.length_take,List.length_drop,hzl,Array.length_toList];omega
       ·have h1:=hvl.setAt hzv (lo*sz)
        have hzl2:(fD zc ((n+1)*sz)).length=(n+1)*sz:=by simp[fD]
        have h2:(setAt cells (lo*sz) (fD zc ((n+1)*sz))).length=cells.length:=by simp only[setAt,List.length_append,List.length_take,List.length_drop,hzl2];omega
        rw[h2];show VL K _ (List.take cells.length (setAt cs.toList (lo*sz) (Builtin.zeroCells z.cells (n+1)).toList));rw[DR _ _ _ _ (by rw[hzl];exact hc3) (by simpa using hcl)];exact h1
      ·exact⟨rfl,rfl,rfl,by simp[World.setRow],fun k hk hs=>setRow_other w g k _ (fun e=>hs ⟨ob,_,by simp,hob,rfl,by rw[e];exact hm⟩)⟩
    ·cases hq
   ·cases hq
  ·cases hq
 ·cases hq
theorem Ag(t it ty e:TypeId)(k:IntKind)(i:TypeInfo)(z:Value)(ht:P.underlying t=some (.slice e))(hit:P.underlying it=some (.int k))(hi:P.info? e=some i)(hz:i.zero=some z)(k':IntKind)(n:Nat)(hp:0<n*i.size)
  (h0:0<n) (h63:n≤1000000) (h48:n*i.bytes≤140737488355328) (w:World) :
  (Builtin.append_ #[t,it] ty #[.slice none 0 0,.int k' (n:Int)]).run P w =
   .ok (.slice (some ⟨w.heap.size,0,none⟩) n (grownCap w n 0 e)) (w.drew.alloc (.cells (Builtin.zeroCells z.cells n++Builtin.zeroCells z.cells (grownCap w n 0 e-n)) e)):=by
 have hn:n≠0:=by omega
 have hns:¬(n*i.size=0):=by omega
 have hneg:¬((n:Int)<0):=by omega
 have hw:IntKind.i64.wrap (n:Int)=(n:Int):=by
  unfold IntKind.wrap;simp[IntKind.signed,IntKind.bits];omega
 have h63':¬(9223372036854775807<(n:Int)):=by omega
 have h48':¬(281474976710656<Builtin.nextslicecap n 0*i.bytes):=by rw[nextslicecap_zero h0];omega
 have h48'':¬(281474976710656<(n:Int)*(i.bytes:Int)):=by
  have:((n*i.bytes:Nat):Int)≤140737488355328:=by omega
  rw[Int.natCast_mul] at this;omega
 simp[Builtin.append_,run_underlying ht,run_underlying hit,sizeOf,typeInfo,zeroValue,hi,hz,asInt,asIntOf,hw,hn,hns,hneg,h63',h48',h48'',Question.forced,run_firstCells_none,newRow,grownCap]
theorem KV(H:WR K h w){args:Array Operand}{s x:Operand}(ha:args.toList=[s,x]){t it:TypeId}{ts:Array TypeId}(hts:ts.toList=[t,it])(ho:o.op=.call ⟨.builtin .append,args,ts⟩)
  {sA xA:AV} (hs:VR K sA (ρ s)) (hx:VR K xA (ρ x)) {v:AV} {h':List ah} {touch:List Nat} (hq:QZ P h t it sA xA=some (v,h',touch)):Eff P o ρ K h w v h' touch:=by
 unfold QZ at hq;split at hq
 ·rename_i e k n hu hit hn
  split at hq
  ·rename_i sz by_ zc hsz hby hz
   split at hq
   ·rename_i hc
    cases hq;obtain⟨hnil,hc1,hc2,hc3,hc4,hc5⟩:=hc;obtain⟨i,z,hi,hiz,hvz⟩:=bL (K:=K) hz;have his:i.size=sz:=by unfold jS at hsz;rw[hi] at hsz;simpa using hsz
    have hib:i.bytes=by_:=by unfold gT at hby;rw[hi] at hby;simpa using hby
    have hzs:z.cells.size=sz:=by have:=hvz.1;simp at this;omega
    have hse:=fU hs hnil;obtain⟨k',hxe⟩:=gF hx hn;have hnn:((n.toNat:Nat):Int)=n:=by omega
    have hrun:=Ag (P:=P) t it o.type e k i z hu hit hi hiz k' n.toNat (by rw[his];exact Nat.mul_pos (by omega) hc1) (by omega) (by omega) (by rw[hib];exact hc5) w;rw[hnn] at hrun;have hge:=grownCap_ge w n.toNat 0 e;have hcm:=grownCap_le_maxLen w n.toNat 0 e (by unfold maxLen;omega);generalize grownCap w n.toNat 0 e=cap at *;have hzv:=ji hvz (by omega) (n.toNat*sz);have hze:(Array.range (n.toNat*sz)).map (z.cells[· % z.cells.size]!)=Builtin.zeroCells z.cells n.toNat:=by unfold Builtin.zeroCells;rw[hzs]
    rw[hze] at hzv;generalize hcur:Builtin.zeroCells z.cells n.toNat++Builtin.zeroCells z.cells (cap-n.toNat)=cur at hrun;have hcurs:cur.size=cap*sz:=by
     rw[←hcur];simp only[Array.size_append,size_zeroCells,hzs,←Nat.add_mul];congr 1;omega
    have hst:=Step.fresh H (w':=w.drew.alloc (.cells cur e)) (.box e (fD zc (n.toNat*sz))) cap sz (.cells cur e) rfl (jv.drewAlloc _ _ _) (fun hx=>⟨cur,heap_alloc_new w.drew _,by
     rw[dP,di];exact⟨hcurs,hcm⟩,by
     rw[hzv.1,←hcur];have e5:(Builtin.zeroCells z.cells n.toNat++Builtin.zeroCells z.cells (cap-n.toNat)).toList=(Builtin.zeroCells z.cells n.toNat).toList++(Builtin.zeroCells z.cells (cap-n.toNat)).toList:=by simp
     rw[e5,List.take_left];exact hzv.mono hx⟩)
    have e1:args = #[s,x]:=by rw[←Array.toArray_toList (xs:=args),ha]
    have e2:ts = #[t,it]:=by rw[←Array.toArray_toList (xs:=ts),hts]
    subst e1;subst e2;refine⟨_,_,_,_,?_,.inl rfl,.sl _ 0 _ sz w.heap.size cap 0 (gB _ _ _ _ _) (di _ _ _ _ _) hge (by rw[dP];omega) (fun _=>by omega),hst,jv.drewAlloc _ _ _⟩;simp only[execOp,ho,resolve,invoke,builtin,Sem.run_bind,Sem.run_pure,Result.andThen_ok,List.map_toArray,List.map_cons,List.map_nil,hse,hxe,hrun]
   ·cases hq
  ·cases hq
 ·cases hq
theorem YO(hρ:∀x v,ρA x=some v→VR K v (ρ x)){args:Array Operand}{a:AV}(hq:lq ρA args.toList=some [a]):∃x,args.toList=[x]∧VR K a (ρ x):=by
 match hl:args.toList,hq with
 |[],hq=>simp[lq] at hq
 |[x],hq=>
  simp only[lq] at hq;split at hq
  ·rename_i v r hv hr
   cases hr;cases hq;exact⟨x,rfl,hρ x _ hv⟩
  ·cases hq
 |x::y::l,hq=>
  simp only[lq] at hq;split at hq
  ·rename_i v r hv hr
   cases hq;split at hr
   ·cases hr
   ·cases hr
  ·cases hq
theorem Nq(hρ:∀x v,ρA x=some v→VR K v (ρ x)){args:Array Operand}{a b:AV}(hq:lq ρA args.toList=some [a,b]):∃x y,args.toList=[x,y]∧VR K a (ρ x)∧VR K b (ρ y):=by
 match hl:args.toList,hq with
 |[],hq=>simp[lq] at hq
 |[x],hq=>
  simp only[lq] at hq;split at hq
  ·rename_i v r hv hr
   cases hr;cases hq
  ·cases hq
 |[x,y],hq=>
  simp only[lq] at hq;split at hq
  ·rename_i v r hv hr
   cases hq;split at hr
   ·rename_i v2 r2 hv2 hr2
    cases hr2;cases hr;exact⟨x,y,rfl,hρ x _ hv,hρ y _ hv2⟩
   ·cases hr
  ·cases hq
 |x::y::z::l,hq=>
  simp only[lq] at hq;split at hq
  ·rename_i v r hv hr
   cases hq;split at hr
   ·rename_i v2 r2 hv2 hr2
    cases hr;split at hr2
    ·cases hr2
    ·cases hr2
   ·cases hr
  ·cases hq
theorem QW(H:WR K h w)(hρ:∀x v,ρA x=some v→VR K v (ρ x)){v:AV}{h':List ah}{touch:List Nat}(hq:ala P o.op ρA h=some (v,h',touch)):Eff P o ρ K h w v h' touch:=by
 unfold ala at hq;split at hq
 ·rename_i ho;exact OQ H ho hq
 ·rename_i ho;exact BU H hρ (.inl ho) hq
 ·rename_i ho;exact BU H hρ (.inr ho) hq
 ·rename_i ho;exact KW H hρ ho hq
 ·rename_i args ts ho
  split at hq
  ·rename_i s x t t' hop hts
   split at hq
   ·rename_i e
    subst e;obtain⟨so,xo,ha,hs,hx⟩:=Nq hρ hop;exact OU H ha hts ho hs hx hq
   ·obtain⟨so,xo,ha,hs,hx⟩:=Nq hρ hop
    exact KV H ha hts ho hs hx hq
  ·cases hq
 ·rename_i args ts ho
  split at hq
  ·rename_i x t hop hts
   obtain⟨xo,ha,hx⟩:=YO hρ hop;exact G6 H ha hts ho hx hq
  ·cases hq
 ·cases hq
theorem FY(H:WR K h w)(hρ:∀x v,ρA x=some v→VR K v (ρ x)){v:AV}{h':List ah}{touch:List Nat}(hq:afL P o.op ρA h=some (v,h',touch)):Eff P o ρ K h w v h' touch:=by
 unfold afL at hq;split at hq
 ·rename_i ho;exact OT H hρ ho hq
 ·cases hq
end
end Go.Proofs.YtfphhabaeggenaaGreatDoor
