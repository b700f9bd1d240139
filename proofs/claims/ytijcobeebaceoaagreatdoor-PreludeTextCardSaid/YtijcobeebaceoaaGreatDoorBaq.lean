/- Joined texts. -/
import Derived.Test.YtijcobeebaceoaaGreatDoorBap
set_option linter.unusedVariables false
set_option linter.unusedSimpArgs false
set_option linter.unusedSectionVars false
namespace Go.Proofs.YtijcobeebaceoaaGreatDoor
open Go.RowKit
set_option maxRecDepth 10000
abbrev cz(da:Int):List PV:=[iv da,sv eB,sv eB,nS,nS,nS,iv 0]
def fl(b:Bool)(p:PV):PV:=if b=true then p else nS
@[simp] theorem aiD(p:PV):fl true p=p:=rfl
@[simp] theorem aiE(p:PV):fl false p=nS:=rfl
def okM:Bool→Bool→Nat
 |false,false=>0
 |false,true=>4
 |true,false=>6
 |true,true=>7
def erM:Bool→Bool→Nat
 |false,false=>2
 |false,true=>1
 |true,false=>3
 |true,true=>5
@[simp] theorem apM:okM false false=0:=rfl
@[simp] theorem apL:okM false true=4:=rfl
@[simp] theorem apK:okM true false=6:=rfl
@[simp] theorem apJ:okM true true=7:=rfl
@[simp] theorem arb:erM false false=2:=rfl
@[simp] theorem ara:erM false true=1:=rfl
@[simp] theorem aq9:erM true false=3:=rfl
@[simp] theorem aq8:erM true true=5:=rfl
theorem zX(l:List Md):kP (.rows (l.map Md.cells))=.rows (l.map Md.cells):=by
 have:kP (mP l)=mP l:=by simp
 rw[mP] at this;exact this
theorem iE(l:List Bd):kP (.rows (l.map Bd.cells))=.rows (l.map Bd.cells):=by
 have:kP (aZ l)=aZ l:=by simp
 rw[aZ] at this;exact this
def okI(L:List Tk)(nm vr:ByteArray)(at_:Int)(SC:PV)(a:Nat)(d:Int)(v:List Md×List Bd)(b:Nat)(z:Rs):Prop:=a≤b∧∃bm bd:Bool,(bm=false→v.1=[])∧(bd=false→v.2=[])∧z=(okM bm bd,ps L b d (sv nm::sv vr::SC::fl bm (.rows (v.1.map Md.cells))::fl bd (.rows (v.2.map Bd.cells))::cz at_))
def erI(L:List Tk)(nm vr:ByteArray)(at_:Int)(SC:PV)(e w:Int)(z:Rs):Prop:=∃(b:Nat) (d':Int) (bm bd:Bool) (T U:PV),z=(erM bm bd,ps L b d' (sv nm::sv vr::SC::fl bm T::fl bd U::(cz at_++[iv e,iv w])))
section
variable{L:List Tk}(hW:Gg L)
include hW
omit hW in
def vT(L:List Tk)(a:Nat)(d:Int)(nm vr:ByteArray)(at_:Int):Bool→Bool→List Md→List Bd→Q
 |false,false,_,_=>QB (aU L) (iv a) (iv d) (sv nm) (sv vr) (iv at_)
 |false,true,_,ds=>Qz (aU L) (iv a) (iv d) (sv nm) (sv vr) (ds.map Bd.cells) (iv at_)
 |true,false,ms,_=>Qy (aU L) (iv a) (iv d) (sv nm) (sv vr) (ms.map Md.cells) (iv at_)
 |true,true,ms,ds=>Qv (aU L) (iv a) (iv d) (sv nm) (sv vr) (ms.map Md.cells) (ds.map Bd.cells) (iv at_)
theorem WI(nm vr:ByteArray)(at_:Int):∀(m:Nat) (bm bd:Bool) (ms:List Md) (ds:List Bd) (a:Nat) (d:Int),(bm=false→ms=[])→(bd=false→ds=[])→ms.length+ds.length≤a→0≤d→d≤300→a<L.length→lI L (vT L a d nm vr at_ bm bd ms ds) (bR L m ms ds d a)
  (okI L nm vr at_ nS a d) (erI L nm vr at_ nS):=by
 intro m
 induction m with
 |zero=>intro bm bd ms ds a d h1 h2 hl h0 h3 ha;rw[bR];trivial
 |succ m ih=>
  intro bm bd ms ds a d hm hd0 hl h0 h1 ha;have hLl:=hW.len;cases bm<;>cases bd
  ·obtain rfl:=hm rfl
   obtain rfl:=hd0 rfl;refine .of ?_;unfold vT;rw[bR.eq_2,aeg];simp[-Int.natCast_add,bL hW ha];refine .may (fun he=>?_) (fun he=>?_)
   ·exact .pure (ax hW he) (by simp[-Int.natCast_add,he]) ⟨by omega,false,false,(fun _=>rfl),(fun _=>rfl),rfl⟩
   ·simp[-Int.natCast_add,he]
    simp[-Int.natCast_add,bL hW ha];refine .may (fun hd=>?_) (fun hd=>?_)
    ·have hl1:=ax hW hd
     simp[-Int.natCast_add,hd];refine .callW (yZ hW m (a+1) d h0 h1 hl1) (fun v b hb hab g=>?_) (fun e w b d' g=>?_)
     ·simp[-Int.natCast_add,g]
      refine .take (by decide) (fun hs=>?_) (fun hs=>?_)
      ·have hl2:=ax hW hs
       simp[-Int.natCast_add,aF hW hb,hs,Tk.cells];have hn:=ih false true [] [v] (b+1) d (fun _=>rfl) (fun h=>by cases h) (by simp only[List.length_append,List.length_cons,List.length_nil] at hl ⊢;omega) h0 h1 hl2;simp only[vT,List.map_append,List.map_cons,List.map_nil,Bd.cells_eq] at hn;cases hr:bR L m [] [v] d (b+1) with
       |out=>trivial
       |err e w=>rw[hr] at hn;obtain⟨z,g1,b2,d',bm,bd,T,U,rfl⟩:=hn;exact⟨_,by simp[-Int.natCast_add,-ite_eq_left_iff,g1],b2,d',bm,bd,T,U,rfl⟩
       |ok v2 b2=>rw[hr] at hn;obtain⟨hb2,z,g1,h5,bm,bd,h6,h7,rfl⟩:=hn;exact⟨hb2,_,by simp[-Int.natCast_add,g1],by omega,bm,bd,h6,h7,rfl⟩
      ·exact⟨_,by simp[-Int.natCast_add,aF hW hb,hs],b,d,false,true,nS,.rows [fZ v],rfl⟩
     ·exact⟨_,by simp[-Int.natCast_add,g],b,d',false,false,nS,nS,rfl⟩
    ·simp[-Int.natCast_add,hd]
     refine .bind (qJ hW a d ha) (fun t b z hb g hz=>?_) (fun e w z g hz=>?_)
     ·obtain⟨hab,rfl⟩:=hz
      simp[-Int.natCast_add,g,Tk.cells];refine .take (by decide) (fun hc=>?_) (fun hc=>?_)
      ·have hl3:=ax hW hc
       simp[-Int.natCast_add,aF hW hb,hc,Tk.cells];refine .callW (GK hW m (b+1) d h0 h1 hl3) (fun v b3 hb3 hab3 g3=>?_) (fun e w b3 d' g3=>?_)
       ·simp[-Int.natCast_add,g3]
        refine .take (by decide) (fun hs=>?_) (fun hs=>?_)
        ·have hl2:=ax hW hs
         simp[-Int.natCast_add,aF hW hb3,hs,Tk.cells];have hn:=ih true false [(⟨t.text,v,t.at_⟩:Md)] [] (b3+1) d (fun h=>by cases h) (fun _=>rfl) (by simp only[List.length_append,List.length_cons,List.length_nil] at hl ⊢;omega) h0 h1 hl2;simp only[vT,List.map_append,List.map_cons,List.map_nil] at hn;simp only[Md.cells] at hn;cases hr:bR L m [(⟨t.text,v,t.at_⟩:Md)] [] d (b3+1) with
         |out=>trivial
         |err e w=>rw[hr] at hn;obtain⟨z,g1,b2,d',bm,bd,T,U,rfl⟩:=hn;exact⟨_,by simp[-Int.natCast_add,g1],b2,d',bm,bd,T,U,rfl⟩
         |ok v2 b2=>rw[hr] at hn;obtain⟨hb2,z,g1,h5,bm,bd,h6,h7,rfl⟩:=hn;exact⟨hb2,_,by simp[-Int.natCast_add,g1],by omega,bm,bd,h6,h7,rfl⟩
        ·exact⟨_,by simp[-Int.natCast_add,aF hW hb3,hs],b3,d,true,false,.rows [[sv t.text,iv v.kind,sv v.name,iv v.n,bH v.kids,iv t.at_]],nS,rfl⟩
       ·exact⟨_,by simp[-Int.natCast_add,g3],b3,d',false,false,nS,nS,rfl⟩
      ·exact⟨_,by simp[-Int.natCast_add,aF hW hb,hc],b,d,false,false,nS,nS,rfl⟩
     ·obtain⟨b,rfl⟩:=hz
      exact⟨_,by simp[-Int.natCast_add,g],b,d,false,false,nS,nS,rfl⟩
  ·obtain rfl:=hm rfl
   refine .of ?_;unfold vT;rw[bR.eq_2,aee];simp[-Int.natCast_add,bL hW ha];refine .may (fun he=>?_) (fun he=>?_)
   ·exact .pure (ax hW he) (by simp[-Int.natCast_add,he]) ⟨by omega,false,true,(fun _=>rfl),(fun h=>by cases h),rfl⟩
   ·simp[-Int.natCast_add,he]
    simp[-Int.natCast_add,bL hW ha];refine .may (fun hd=>?_) (fun hd=>?_)
    ·have hl1:=ax hW hd
     simp[-Int.natCast_add,hd];refine .callW (yZ hW m (a+1) d h0 h1 hl1) (fun v b hb hab g=>?_) (fun e w b d' g=>?_)
     ·simp[-Int.natCast_add,g]
      have hap:=fun k'=>aH (P:=PG) (d:=.fail) (k:=k') qf (gL ds) (c:=fZ v) rfl (by simp) (by simp;omega) (by decide)
      simp only[hap];refine .take (by decide) (fun hs=>?_) (fun hs=>?_)
      ·have hl2:=ax hW hs
       simp[-Int.natCast_add,aF hW hb,hs,Tk.cells];have hn:=ih false true [] (ds++[v]) (b+1) d (fun _=>rfl) (fun h=>by cases h) (by simp only[List.length_append,List.length_cons,List.length_nil] at hl ⊢;omega) h0 h1 hl2;simp only[vT,List.map_append,List.map_cons,List.map_nil,Bd.cells_eq] at hn;cases hr:bR L m [] (ds++[v]) d (b+1) with
       |out=>trivial
       |err e w=>rw[hr] at hn;obtain⟨z,g1,b2,d',bm,bd,T,U,rfl⟩:=hn;exact⟨_,by simp[-Int.natCast_add,-ite_eq_left_iff,g1],b2,d',bm,bd,T,U,rfl⟩
       |ok v2 b2=>rw[hr] at hn;obtain⟨hb2,z,g1,h5,bm,bd,h6,h7,rfl⟩:=hn;exact⟨hb2,_,by simp[-Int.natCast_add,g1],by omega,bm,bd,h6,h7,rfl⟩
      ·exact⟨_,by simp[-Int.natCast_add,aF hW hb,hs],b,d,false,true,nS,.rows (ds.map Bd.cells++[fZ v]),rfl⟩
     ·exact⟨_,by simp[-Int.natCast_add,g],b,d',false,true,nS,.rows (ds.map Bd.cells),rfl⟩
    ·simp[-Int.natCast_add,hd]
     refine .bind (qJ hW a d ha) (fun t b z hb g hz=>?_) (fun e w z g hz=>?_)
     ·obtain⟨hab,rfl⟩:=hz
      simp[-Int.natCast_add,g,Tk.cells];refine .take (by decide) (fun hc=>?_) (fun hc=>?_)
      ·have hl3:=ax hW hc
       simp[-Int.natCast_add,aF hW hb,hc,Tk.cells];refine .callW (GK hW m (b+1) d h0 h1 hl3) (fun v b3 hb3 hab3 g3=>?_) (fun e w b3 d' g3=>?_)
       ·simp[-Int.natCast_add,g3]
        refine .take (by decide) (fun hs=>?_) (fun hs=>?_)
        ·have hl2:=ax hW hs
         simp[-Int.natCast_add,aF hW hb3,hs,Tk.cells];have hn:=ih true true [(⟨t.text,v,t.at_⟩:Md)] ds (b3+1) d (fun h=>by cases h) (fun h=>by cases h) (by simp only[List.length_append,List.length_cons,List.length_nil] at hl ⊢;omega) h0 h1 hl2;simp only[vT,List.map_append,List.map_cons,List.map_nil] at hn;simp only[Md.cells] at hn;cases hr:bR L m [(⟨t.text,v,t.at_⟩:Md)] ds d (b3+1) with
         |out=>trivial
         |err e w=>rw[hr] at hn;obtain⟨z,g1,b2,d',bm,bd,T,U,rfl⟩:=hn;exact⟨_,by simp[-Int.natCast_add,g1],b2,d',bm,bd,T,U,rfl⟩
         |ok v2 b2=>rw[hr] at hn;obtain⟨hb2,z,g1,h5,bm,bd,h6,h7,rfl⟩:=hn;exact⟨hb2,_,by simp[-Int.natCast_add,g1],by omega,bm,bd,h6,h7,rfl⟩
        ·exact⟨_,by simp[-Int.natCast_add,aF hW hb3,hs],b3,d,true,true,.rows [[sv t.text,iv v.kind,sv v.name,iv v.n,bH v.kids,iv t.at_]],.rows (ds.map Bd.cells),rfl⟩
       ·exact⟨_,by simp[-Int.natCast_add,g3],b3,d',false,true,nS,.rows (ds.map Bd.cells),rfl⟩
      ·exact⟨_,by simp[-Int.natCast_add,aF hW hb,hc],b,d,false,true,nS,.rows (ds.map Bd.cells),rfl⟩
     ·obtain⟨b,rfl⟩:=hz
      exact⟨_,by simp[-Int.natCast_add,g],b,d,false,true,nS,.rows (ds.map Bd.cells),rfl⟩
  ·obtain rfl:=hd0 rfl
   refine .of ?_;unfold vT;rw[bR.eq_2,aed];simp[-Int.natCast_add,bL hW ha];refine .may (fun he=>?_) (fun he=>?_)
   ·exact .pure (ax hW he) (by simp[-Int.natCast_add,he]) ⟨by omega,true,false,(fun h=>by cases h),(fun _=>rfl),rfl⟩
   ·simp[-Int.natCast_add,he]
    simp[-Int.natCast_add,bL hW ha];refine .may (fun hd=>?_) (fun hd=>?_)
    ·have hl1:=ax hW hd
     simp[-Int.natCast_add,hd];refine .callW (yZ hW m (a+1) d h0 h1 hl1) (fun v b hb hab g=>?_) (fun e w b d' g=>?_)
     ·simp[-Int.natCast_add,g]
      refine .take (by decide) (fun hs=>?_) (fun hs=>?_)
      ·have hl2:=ax hW hs
       simp[-Int.natCast_add,aF hW hb,hs,Tk.cells];have hn:=ih true true ms [v] (b+1) d (fun h=>by cases h) (fun h=>by cases h) (by simp only[List.length_append,List.length_cons,List.length_nil] at hl ⊢;omega) h0 h1 hl2;simp only[vT,List.map_append,List.map_cons,List.map_nil,Bd.cells_eq] at hn;cases hr:bR L m ms [v] d (b+1) with
       |out=>trivial
       |err e w=>rw[hr] at hn;obtain⟨z,g1,b2,d',bm,bd,T,U,rfl⟩:=hn;exact⟨_,by simp[-Int.natCast_add,-ite_eq_left_iff,g1],b2,d',bm,bd,T,U,rfl⟩
       |ok v2 b2=>rw[hr] at hn;obtain⟨hb2,z,g1,h5,bm,bd,h6,h7,rfl⟩:=hn;exact⟨hb2,_,by simp[-Int.natCast_add,g1],by omega,bm,bd,h6,h7,rfl⟩
      ·exact⟨_,by simp[-Int.natCast_add,aF hW hb,hs],b,d,true,true,.rows (ms.map Md.cells),.rows [fZ v],rfl⟩
     ·exact⟨_,by simp[-Int.natCast_add,g],b,d',true,false,.rows (ms.map Md.cells),nS,rfl⟩
    ·simp[-Int.natCast_add,hd]
     refine .bind (qJ hW a d ha) (fun t b z hb g hz=>?_) (fun e w z g hz=>?_)
     ·obtain⟨hab,rfl⟩:=hz
      simp[-Int.natCast_add,g,Tk.cells];refine .take (by decide) (fun hc=>?_) (fun hc=>?_)
      ·have hl3:=ax hW hc
       simp[-Int.natCast_add,aF hW hb,hc,Tk.cells];refine .callW (GK hW m (b+1) d h0 h1 hl3) (fun v b3 hb3 hab3 g3=>?_) (fun e w b3 d' g3=>?_)
       ·simp[-Int.natCast_add,g3]
        have hap:=fun k'=>aH (P:=PG) (d:=.fail) (k:=k') Uw (uq ms) (c:=[sv t.text,iv v.kind,sv v.name,iv v.n,bH v.kids,iv t.at_]) rfl (by simp) (by simp;omega) (by decide)
        simp only[hap];refine .take (by decide) (fun hs=>?_) (fun hs=>?_)
        ·have hl2:=ax hW hs
         simp[-Int.natCast_add,aF hW hb3,hs,Tk.cells];have hn:=ih true false (ms++[(⟨t.text,v,t.at_⟩:Md)]) [] (b3+1) d (fun h=>by cases h) (fun _=>rfl) (by simp only[List.length_append,List.length_cons,List.length_nil] at hl ⊢;omega) h0 h1 hl2;simp only[vT,List.map_append,List.map_cons,List.map_nil] at hn;simp only[Md.cells] at hn;cases hr:bR L m (ms++[(⟨t.text,v,t.at_⟩:Md)]) [] d (b3+1) with
         |out=>trivial
         |err e w=>rw[hr] at hn;obtain⟨z,g1,b2,d',bm,bd,T,U,rfl⟩:=hn;exact⟨_,by simp[-Int.natCast_add,g1],b2,d',bm,bd,T,U,rfl⟩
         |ok v2 b2=>rw[hr] at hn;obtain⟨hb2,z,g1,h5,bm,bd,h6,h7,rfl⟩:=hn;exact⟨hb2,_,by simp[-Int.natCast_add,g1],by omega,bm,bd,h6,h7,rfl⟩
        ·exact⟨_,by simp[-Int.natCast_add,aF hW hb3,hs],b3,d,true,false,.rows (ms.map Md.cells++[[sv t.text,iv v.kind,sv v.name,iv v.n,bH v.kids,iv t.at_]]),nS,rfl⟩
       ·exact⟨_,by simp[-Int.natCast_add,g3],b3,d',true,false,.rows (ms.map Md.cells),nS,rfl⟩
      ·exact⟨_,by simp[-Int.natCast_add,aF hW hb,hc],b,d,true,false,.rows (ms.map Md.cells),nS,rfl⟩
     ·obtain⟨b,rfl⟩:=hz
      exact⟨_,by simp[-Int.natCast_add,g],b,d,true,false,.rows (ms.map Md.cells),nS,rfl⟩
  ·refine .of ?_
   unfold vT;rw[bR.eq_2,aea];simp[-Int.natCast_add,bL hW ha];refine .may (fun he=>?_) (fun he=>?_)
   ·exact .pure (ax hW he) (by simp[-Int.natCast_add,he]) ⟨by omega,true,true,(fun h=>by cases h),(fun h=>by cases h),rfl⟩
   ·simp[-Int.natCast_add,he]
    simp[-Int.natCast_add,bL hW ha];refine .may (fun hd=>?_) (fun hd=>?_)
    ·have hl1:=ax hW hd
     simp[-Int.natCast_add,hd];refine .callW (yZ hW m (a+1) d h0 h1 hl1) (fun v b hb hab g=>?_) (fun e w b d' g=>?_)
     ·simp[-Int.natCast_add,g]
      have hap:=fun k'=>aH (P:=PG) (d:=.fail) (k:=k') qf (gL ds) (c:=fZ v) rfl (by simp) (by simp;omega) (by decide)
      simp only[hap];refine .take (by decide) (fun hs=>?_) (fun hs=>?_)
      ·have hl2:=ax hW hs
       simp[-Int.natCast_add,aF hW hb,hs,Tk.cells];have hn:=ih true true ms (ds++[v]) (b+1) d (fun h=>by cases h) (fun h=>by cases h) (by simp only[List.length_append,List.length_cons,List.length_nil] at hl ⊢;omega) h0 h1 hl2;simp only[vT,List.map_append,List.map_cons,List.map_nil,Bd.cells_eq] at hn;cases hr:bR L m ms (ds++[v]) d (b+1) with
       |out=>trivial
       |err e w=>rw[hr] at hn;obtain⟨z,g1,b2,d',bm,bd,T,U,rfl⟩:=hn;exact⟨_,by simp[-Int.natCast_add,-ite_eq_left_iff,g1],b2,d',bm,bd,T,U,rfl⟩
       |ok v2 b2=>rw[hr] at hn;obtain⟨hb2,z,g1,h5,bm,bd,h6,h7,rfl⟩:=hn;exact⟨hb2,_,by simp[-Int.natCast_add,g1],by omega,bm,bd,h6,h7,rfl⟩
      ·exact⟨_,by simp[-Int.natCast_add,aF hW hb,hs],b,d,true,true,.rows (ms.map Md.cells),.rows (ds.map Bd.cells++[fZ v]),rfl⟩
     ·exact⟨_,by simp[-Int.natCast_add,g],b,d',true,true,.rows (ms.map Md.cells),.rows (ds.map Bd.cells),rfl⟩
    ·simp[-Int.natCast_add,hd]
     refine .bind (qJ hW a d ha) (fun t b z hb g hz=>?_) (fun e w z g hz=>?_)
     ·obtain⟨hab,rfl⟩:=hz
      simp[-Int.natCast_add,g,Tk.cells];refine .take (by decide) (fun hc=>?_) (fun hc=>?_)
      ·have hl3:=ax hW hc
       simp[-Int.natCast_add,aF hW hb,hc,Tk.cells];refine .callW (GK hW m (b+1) d h0 h1 hl3) (fun v b3 hb3 hab3 g3=>?_) (fun e w b3 d' g3=>?_)
       ·simp[-Int.natCast_add,g3]
        have hap:=fun k'=>aH (P:=PG) (d:=.fail) (k:=k') Uw (uq ms) (c:=[sv t.text,iv v.kind,sv v.name,iv v.n,bH v.kids,iv t.at_]) rfl (by simp) (by simp;omega) (by decide)
        simp only[hap];refine .take (by decide) (fun hs=>?_) (fun hs=>?_)
        ·have hl2:=ax hW hs
         simp[-Int.natCast_add,aF hW hb3,hs,Tk.cells];have hn:=ih true true (ms++[(⟨t.text,v,t.at_⟩:Md)]) ds (b3+1) d (fun h=>by cases h) (fun h=>by cases h) (by simp only[List.length_append,List.length_cons,List.length_nil] at hl ⊢;omega) h0 h1 hl2;simp only[vT,List.map_append,List.map_cons,List.map_nil] at hn;simp only[Md.cells] at hn;cases hr:bR L m (ms++[(⟨t.text,v,t.at_⟩:Md)]) ds d (b3+1) with
         |out=>trivial
         |err e w=>rw[hr] at hn;obtain⟨z,g1,b2,d',bm,bd,T,U,rfl⟩:=hn;exact⟨_,by simp[-Int.natCast_add,g1],b2,d',bm,bd,T,U,rfl⟩
         |ok v2 b2=>rw[hr] at hn;obtain⟨hb2,z,g1,h5,bm,bd,h6,h7,rfl⟩:=hn;exact⟨hb2,_,by simp[-Int.natCast_add,g1],by omega,bm,bd,h6,h7,rfl⟩
        ·exact⟨_,by simp[-Int.natCast_add,aF hW hb3,hs],b3,d,true,true,.rows (ms.map Md.cells++[[sv t.text,iv v.kind,sv v.name,iv v.n,bH v.kids,iv t.at_]]),.rows (ds.map Bd.cells),rfl⟩
       ·exact⟨_,by simp[-Int.natCast_add,g3],b3,d',true,true,.rows (ms.map Md.cells),.rows (ds.map Bd.cells),rfl⟩
      ·exact⟨_,by simp[-Int.natCast_add,aF hW hb,hc],b,d,true,true,.rows (ms.map Md.cells),.rows (ds.map Bd.cells),rfl⟩
     ·obtain⟨b,rfl⟩:=hz
      exact⟨_,by simp[-Int.natCast_add,g],b,d,true,true,.rows (ms.map Md.cells),.rows (ds.map Bd.cells),rfl⟩
omit hW in
def vS(L:List Tk)(a:Nat)(d:Int)(nm vr:ByteArray)(at_:Int)(SS:List (List PV)):Bool→Bool→List Md→List Bd→Q
 |false,false,_,_=>QA (aU L) (iv a) (iv d) (sv nm) (sv vr) SS (iv at_)
 |false,true,_,ds=>Qx (aU L) (iv a) (iv d) (sv nm) (sv vr) SS (ds.map Bd.cells) (iv at_)
 |true,false,ms,_=>Qw (aU L) (iv a) (iv d) (sv nm) (sv vr) SS (ms.map Md.cells) (iv at_)
 |true,true,ms,ds=>Qu (aU L) (iv a) (iv d) (sv nm) (sv vr) SS (ms.map Md.cells) (ds.map Bd.cells) (iv at_)
theorem WH(nm vr:ByteArray)(at_:Int)(SS:List (List PV)):∀(m:Nat) (bm bd:Bool) (ms:List Md) (ds:List Bd) (a:Nat) (d:Int),(bm=false→ms=[])→(bd=false→ds=[])→ms.length+ds.length≤a→0≤d→d≤300→a<L.length→lI L (vS L a d nm vr at_ SS bm bd ms ds) (bR L m ms ds d a)
  (okI L nm vr at_ (.rows SS) a d) (erI L nm vr at_ (.rows SS)):=by
 intro m
 induction m with
 |zero=>intro bm bd ms ds a d h1 h2 hl h0 h3 ha;rw[bR];trivial
 |succ m ih=>
  intro bm bd ms ds a d hm hd0 hl h0 h1 ha;have hLl:=hW.len;cases bm<;>cases bd
  ·obtain rfl:=hm rfl
   obtain rfl:=hd0 rfl;refine .of ?_;unfold vS;rw[bR.eq_2,aef];simp[-Int.natCast_add,bL hW ha];refine .may (fun he=>?_) (fun he=>?_)
   ·exact .pure (ax hW he) (by simp[-Int.natCast_add,he]) ⟨by omega,false,false,(fun _=>rfl),(fun _=>rfl),rfl⟩
   ·simp[-Int.natCast_add,he]
    simp[-Int.natCast_add,bL hW ha];refine .may (fun hd=>?_) (fun hd=>?_)
    ·have hl1:=ax hW hd
     simp[-Int.natCast_add,hd];refine .callW (yZ hW m (a+1) d h0 h1 hl1) (fun v b hb hab g=>?_) (fun e w b d' g=>?_)
     ·simp[-Int.natCast_add,g]
      refine .take (by decide) (fun hs=>?_) (fun hs=>?_)
      ·have hl2:=ax hW hs
       simp[-Int.natCast_add,aF hW hb,hs,Tk.cells];have hn:=ih false true [] [v] (b+1) d (fun _=>rfl) (fun h=>by cases h) (by simp only[List.length_append,List.length_cons,List.length_nil] at hl ⊢;omega) h0 h1 hl2;simp only[vS,List.map_append,List.map_cons,List.map_nil,Bd.cells_eq] at hn;cases hr:bR L m [] [v] d (b+1) with
       |out=>trivial
       |err e w=>rw[hr] at hn;obtain⟨z,g1,b2,d',bm,bd,T,U,rfl⟩:=hn;exact⟨_,by simp[-Int.natCast_add,-ite_eq_left_iff,g1],b2,d',bm,bd,T,U,rfl⟩
       |ok v2 b2=>rw[hr] at hn;obtain⟨hb2,z,g1,h5,bm,bd,h6,h7,rfl⟩:=hn;exact⟨hb2,_,by simp[-Int.natCast_add,g1],by omega,bm,bd,h6,h7,rfl⟩
      ·exact⟨_,by simp[-Int.natCast_add,aF hW hb,hs],b,d,false,true,nS,.rows [fZ v],rfl⟩
     ·exact⟨_,by simp[-Int.natCast_add,g],b,d',false,false,nS,nS,rfl⟩
    ·simp[-Int.natCast_add,hd]
     refine .bind (qJ hW a d ha) (fun t b z hb g hz=>?_) (fun e w z g hz=>?_)
     ·obtain⟨hab,rfl⟩:=hz
      simp[-Int.natCast_add,g,Tk.cells];refine .take (by decide) (fun hc=>?_) (fun hc=>?_)
      ·have hl3:=ax hW hc
       simp[-Int.natCast_add,aF hW hb,hc,Tk.cells];refine .callW (GK hW m (b+1) d h0 h1 hl3) (fun v b3 hb3 hab3 g3=>?_) (fun e w b3 d' g3=>?_)
       ·simp[-Int.natCast_add,g3]
        refine .take (by decide) (fun hs=>?_) (fun hs=>?_)
        ·have hl2:=ax hW hs
         simp[-Int.natCast_add,aF hW hb3,hs,Tk.cells];have hn:=ih true false [(⟨t.text,v,t.at_⟩:Md)] [] (b3+1) d (fun h=>by cases h) (fun _=>rfl) (by simp only[List.length_append,List.length_cons,List.length_nil] at hl ⊢;omega) h0 h1 hl2;simp only[vS,List.map_append,List.map_cons,List.map_nil] at hn;simp only[Md.cells] at hn;cases hr:bR L m [(⟨t.text,v,t.at_⟩:Md)] [] d (b3+1) with
         |out=>trivial
         |err e w=>rw[hr] at hn;obtain⟨z,g1,b2,d',bm,bd,T,U,rfl⟩:=hn;exact⟨_,by simp[-Int.natCast_add,g1],b2,d',bm,bd,T,U,rfl⟩
         |ok v2 b2=>rw[hr] at hn;obtain⟨hb2,z,g1,h5,bm,bd,h6,h7,rfl⟩:=hn;exact⟨hb2,_,by simp[-Int.natCast_add,g1],by omega,bm,bd,h6,h7,rfl⟩
        ·exact⟨_,by simp[-Int.natCast_add,aF hW hb3,hs],b3,d,true,false,.rows [[sv t.text,iv v.kind,sv v.name,iv v.n,bH v.kids,iv t.at_]],nS,rfl⟩
       ·exact⟨_,by simp[-Int.natCast_add,g3],b3,d',false,false,nS,nS,rfl⟩
      ·exact⟨_,by simp[-Int.natCast_add,aF hW hb,hc],b,d,false,false,nS,nS,rfl⟩
     ·obtain⟨b,rfl⟩:=hz
      exact⟨_,by simp[-Int.natCast_add,g],b,d,false,false,nS,nS,rfl⟩
  ·obtain rfl:=hm rfl
   refine .of ?_;unfold vS;rw[bR.eq_2,aec];simp[-Int.natCast_add,bL hW ha];refine .may (fun he=>?_) (fun he=>?_)
   ·exact .pure (ax hW he) (by simp[-Int.natCast_add,he]) ⟨by omega,false,true,(fun _=>rfl),(fun h=>by cases h),rfl⟩
   ·simp[-Int.natCast_add,he]
    simp[-Int.natCast_add,bL hW ha];refine .may (fun hd=>?_) (fun hd=>?_)
    ·have hl1:=ax hW hd
     simp[-Int.natCast_add,hd];refine .callW (yZ hW m (a+1) d h0 h1 hl1) (fun v b hb hab g=>?_) (fun e w b d' g=>?_)
     ·simp[-Int.natCast_add,g]
      have hap:=fun k'=>aH (P:=PG) (d:=.fail) (k:=k') qf (gL ds) (c:=fZ v) rfl (by simp) (by simp;omega) (by decide)
      simp only[hap];refine .take (by decide) (fun hs=>?_) (fun hs=>?_)
      ·have hl2:=ax hW hs
       simp[-Int.natCast_add,aF hW hb,hs,Tk.cells];have hn:=ih false true [] (ds++[v]) (b+1) d (fun _=>rfl) (fun h=>by cases h) (by simp only[List.length_append,List.length_cons,List.length_nil] at hl ⊢;omega) h0 h1 hl2;simp only[vS,List.map_append,List.map_cons,List.map_nil,Bd.cells_eq] at hn;cases hr:bR L m [] (ds++[v]) d (b+1) with
       |out=>trivial
       |err e w=>rw[hr] at hn;obtain⟨z,g1,b2,d',bm,bd,T,U,rfl⟩:=hn;exact⟨_,by simp[-Int.natCast_add,-ite_eq_left_iff,g1],b2,d',bm,bd,T,U,rfl⟩
       |ok v2 b2=>rw[hr] at hn;obtain⟨hb2,z,g1,h5,bm,bd,h6,h7,rfl⟩:=hn;exact⟨hb2,_,by simp[-Int.natCast_add,g1],by omega,bm,bd,h6,h7,rfl⟩
      ·exact⟨_,by simp[-Int.natCast_add,aF hW hb,hs],b,d,false,true,nS,.rows (ds.map Bd.cells++[fZ v]),rfl⟩
     ·exact⟨_,by simp[-Int.natCast_add,g],b,d',false,true,nS,.rows (ds.map Bd.cells),rfl⟩
    ·simp[-Int.natCast_add,hd]
     refine .bind (qJ hW a d ha) (fun t b z hb g hz=>?_) (fun e w z g hz=>?_)
     ·obtain⟨hab,rfl⟩:=hz
      simp[-Int.natCast_add,g,Tk.cells];refine .take (by decide) (fun hc=>?_) (fun hc=>?_)
      ·have hl3:=ax hW hc
       simp[-Int.natCast_add,aF hW hb,hc,Tk.cells];refine .callW (GK hW m (b+1) d h0 h1 hl3) (fun v b3 hb3 hab3 g3=>?_) (fun e w b3 d' g3=>?_)
       ·simp[-Int.natCast_add,g3]
        refine .take (by decide) (fun hs=>?_) (fun hs=>?_)
        ·have hl2:=ax hW hs
         simp[-Int.natCast_add,aF hW hb3,hs,Tk.cells];have hn:=ih true true [(⟨t.text,v,t.at_⟩:Md)] ds (b3+1) d (fun h=>by cases h) (fun h=>by cases h) (by simp only[List.length_append,List.length_cons,List.length_nil] at hl ⊢;omega) h0 h1 hl2;simp only[vS,List.map_append,List.map_cons,List.map_nil] at hn;simp only[Md.cells] at hn;cases hr:bR L m [(⟨t.text,v,t.at_⟩:Md)] ds d (b3+1) with
         |out=>trivial
         |err e w=>rw[hr] at hn;obtain⟨z,g1,b2,d',bm,bd,T,U,rfl⟩:=hn;exact⟨_,by simp[-Int.natCast_add,g1],b2,d',bm,bd,T,U,rfl⟩
         |ok v2 b2=>rw[hr] at hn;obtain⟨hb2,z,g1,h5,bm,bd,h6,h7,rfl⟩:=hn;exact⟨hb2,_,by simp[-Int.natCast_add,g1],by omega,bm,bd,h6,h7,rfl⟩
        ·exact⟨_,by simp[-Int.natCast_add,aF hW hb3,hs],b3,d,true,true,.rows [[sv t.text,iv v.kind,sv v.name,iv v.n,bH v.kids,iv t.at_]],.rows (ds.map Bd.cells),rfl⟩
       ·exact⟨_,by simp[-Int.natCast_add,g3],b3,d',false,true,nS,.rows (ds.map Bd.cells),rfl⟩
      ·exact⟨_,by simp[-Int.natCast_add,aF hW hb,hc],b,d,false,true,nS,.rows (ds.map Bd.cells),rfl⟩
     ·obtain⟨b,rfl⟩:=hz
      exact⟨_,by simp[-Int.natCast_add,g],b,d,false,true,nS,.rows (ds.map Bd.cells),rfl⟩
  ·obtain rfl:=hd0 rfl
   refine .of ?_;unfold vS;rw[bR.eq_2,aeb];simp[-Int.natCast_add,bL hW ha];refine .may (fun he=>?_) (fun he=>?_)
   ·exact .pure (ax hW he) (by simp[-Int.natCast_add,he]) ⟨by omega,true,false,(fun h=>by cases h),(fun _=>rfl),rfl⟩
   ·simp[-Int.natCast_add,he]
    simp[-Int.natCast_add,bL hW ha];refine .may (fun hd=>?_) (fun hd=>?_)
    ·have hl1:=ax hW hd
     simp[-Int.natCast_add,hd];refine .callW (yZ hW m (a+1) d h0 h1 hl1) (fun v b hb hab g=>?_) (fun e w b d' g=>?_)
     ·simp[-Int.natCast_add,g]
      refine .take (by decide) (fun hs=>?_) (fun hs=>?_)
      ·have hl2:=ax hW hs
       simp[-Int.natCast_add,aF hW hb,hs,Tk.cells];have hn:=ih true true ms [v] (b+1) d (fun h=>by cases h) (fun h=>by cases h) (by simp only[List.length_append,List.length_cons,List.length_nil] at hl ⊢;omega) h0 h1 hl2;simp only[vS,List.map_append,List.map_cons,List.map_nil,Bd.cells_eq] at hn;cases hr:bR L m ms [v] d (b+1) with
       |out=>trivial
       |err e w=>rw[hr] at hn;obtain⟨z,g1,b2,d',bm,bd,T,U,rfl⟩:=hn;exact⟨_,by simp[-Int.natCast_add,-ite_eq_left_iff,g1],b2,d',bm,bd,T,U,rfl⟩
       |ok v2 b2=>rw[hr] at hn;obtain⟨hb2,z,g1,h5,bm,bd,h6,h7,rfl⟩:=hn;exact⟨hb2,_,by simp[-Int.natCast_add,g1],by omega,bm,bd,h6,h7,rfl⟩
      ·exact⟨_,by simp[-Int.natCast_add,aF hW hb,hs],b,d,true,true,.rows (ms.map Md.cells),.rows [fZ v],rfl⟩
     ·exact⟨_,by simp[-Int.natCast_add,g],b,d',true,false,.rows (ms.map Md.cells),nS,rfl⟩
    ·simp[-Int.natCast_add,hd]
     refine .bind (qJ hW a d ha) (fun t b z hb g hz=>?_) (fun e w z g hz=>?_)
     ·obtain⟨hab,rfl⟩:=hz
      simp[-Int.natCast_add,g,Tk.cells];refine .take (by decide) (fun hc=>?_) (fun hc=>?_)
      ·have hl3:=ax hW hc
       simp[-Int.natCast_add,aF hW hb,hc,Tk.cells];refine .callW (GK hW m (b+1) d h0 h1 hl3) (fun v b3 hb3 hab3 g3=>?_) (fun e w b3 d' g3=>?_)
       ·simp[-Int.natCast_add,g3]
        have hap:=fun k'=>aH (P:=PG) (d:=.fail) (k:=k') Uw (uq ms) (c:=[sv t.text,iv v.kind,sv v.name,iv v.n,bH v.kids,iv t.at_]) rfl (by simp) (by simp;omega) (by decide)
        simp only[hap];refine .take (by decide) (fun hs=>?_) (fun hs=>?_)
        ·have hl2:=ax hW hs
         simp[-Int.natCast_add,aF hW hb3,hs,Tk.cells];have hn:=ih true false (ms++[(⟨t.text,v,t.at_⟩:Md)]) [] (b3+1) d (fun h=>by cases h) (fun _=>rfl) (by simp only[List.length_append,List.length_cons,List.length_nil] at hl ⊢;omega) h0 h1 hl2;simp only[vS,List.map_append,List.map_cons,List.map_nil] at hn;simp only[Md.cells] at hn;cases hr:bR L m (ms++[(⟨t.text,v,t.at_⟩:Md)]) [] d (b3+1) with
         |out=>trivial
         |err e w=>rw[hr] at hn;obtain⟨z,g1,b2,d',bm,bd,T,U,rfl⟩:=hn;exact⟨_,by simp[-Int.natCast_add,g1],b2,d',bm,bd,T,U,rfl⟩
         |ok v2 b2=>rw[hr] at hn;obtain⟨hb2,z,g1,h5,bm,bd,h6,h7,rfl⟩:=hn;exact⟨hb2,_,by simp[-Int.natCast_add,g1],by omega,bm,bd,h6,h7,rfl⟩
        ·exact⟨_,by simp[-Int.natCast_add,aF hW hb3,hs],b3,d,true,false,.rows (ms.map Md.cells++[[sv t.text,iv v.kind,sv v.name,iv v.n,bH v.kids,iv t.at_]]),nS,rfl⟩
       ·exact⟨_,by simp[-Int.natCast_add,g3],b3,d',true,false,.rows (ms.map Md.cells),nS,rfl⟩
      ·exact⟨_,by simp[-Int.natCast_add,aF hW hb,hc],b,d,true,false,.rows (ms.map Md.cells),nS,rfl⟩
     ·obtain⟨b,rfl⟩:=hz
      exact⟨_,by simp[-Int.natCast_add,g],b,d,true,false,.rows (ms.map Md.cells),nS,rfl⟩
  ·refine .of ?_
   unfold vS;rw[bR.eq_2,ad9];simp[-Int.natCast_add,bL hW ha];refine .may (fun he=>?_) (fun he=>?_)
   ·exact .pure (ax hW he) (by simp[-Int.natCast_add,he]) ⟨by omega,true,true,(fun h=>by cases h),(fun h=>by cases h),rfl⟩
   ·simp[-Int.natCast_add,he]
    simp[-Int.natCast_add,bL hW ha];refine .may (fun hd=>?_) (fun hd=>?_)
    ·have hl1:=ax hW hd
     simp[-Int.natCast_add,hd];refine .callW (yZ hW m (a+1) d h0 h1 hl1) (fun v b hb hab g=>?_) (fun e w b d' g=>?_)
     ·simp[-Int.natCast_add,g]
      have hap:=fun k'=>aH (P:=PG) (d:=.fail) (k:=k') qf (gL ds) (c:=fZ v) rfl (by simp) (by simp;omega) (by decide)
      simp only[hap];refine .take (by decide) (fun hs=>?_) (fun hs=>?_)
      ·have hl2:=ax hW hs
       simp[-Int.natCast_add,aF hW hb,hs,Tk.cells];have hn:=ih true true ms (ds++[v]) (b+1) d (fun h=>by cases h) (fun h=>by cases h) (by simp only[List.length_append,List.length_cons,List.length_nil] at hl ⊢;omega) h0 h1 hl2;simp only[vS,List.map_append,List.map_cons,List.map_nil,Bd.cells_eq] at hn;cases hr:bR L m ms (ds++[v]) d (b+1) with
       |out=>trivial
       |err e w=>rw[hr] at hn;obtain⟨z,g1,b2,d',bm,bd,T,U,rfl⟩:=hn;exact⟨_,by simp[-Int.natCast_add,-ite_eq_left_iff,g1],b2,d',bm,bd,T,U,rfl⟩
       |ok v2 b2=>rw[hr] at hn;obtain⟨hb2,z,g1,h5,bm,bd,h6,h7,rfl⟩:=hn;exact⟨hb2,_,by simp[-Int.natCast_add,g1],by omega,bm,bd,h6,h7,rfl⟩
      ·exact⟨_,by simp[-Int.natCast_add,aF hW hb,hs],b,d,true,true,.rows (ms.map Md.cells),.rows (ds.map Bd.cells++[fZ v]),rfl⟩
     ·exact⟨_,by simp[-Int.natCast_add,g],b,d',true,true,.rows (ms.map Md.cells),.rows (ds.map Bd.cells),rfl⟩
    ·simp[-Int.natCast_add,hd]
     refine .bind (qJ hW a d ha) (fun t b z hb g hz=>?_) (fun e w z g hz=>?_)
     ·obtain⟨hab,rfl⟩:=hz
      simp[-Int.natCast_add,g,Tk.cells];refine .take (by decide) (fun hc=>?_) (fun hc=>?_)
      ·have hl3:=ax hW hc
       simp[-Int.natCast_add,aF hW hb,hc,Tk.cells];refine .callW (GK hW m (b+1) d h0 h1 hl3) (fun v b3 hb3 hab3 g3=>?_) (fun e w b3 d' g3=>?_)
       ·simp[-Int.natCast_add,g3]
        have hap:=fun k'=>aH (P:=PG) (d:=.fail) (k:=k') Uw (uq ms) (c:=[sv t.text,iv v.kind,sv v.name,iv v.n,bH v.kids,iv t.at_]) rfl (by simp) (by simp;omega) (by decide)
        simp only[hap];refine .take (by decide) (fun hs=>?_) (fun hs=>?_)
        ·have hl2:=ax hW hs
         simp[-Int.natCast_add,aF hW hb3,hs,Tk.cells];have hn:=ih true true (ms++[(⟨t.text,v,t.at_⟩:Md)]) ds (b3+1) d (fun h=>by cases h) (fun h=>by cases h) (by simp only[List.length_append,List.length_cons,List.length_nil] at hl ⊢;omega) h0 h1 hl2;simp only[vS,List.map_append,List.map_cons,List.map_nil] at hn;simp only[Md.cells] at hn;cases hr:bR L m (ms++[(⟨t.text,v,t.at_⟩:Md)]) ds d (b3+1) with
         |out=>trivial
         |err e w=>rw[hr] at hn;obtain⟨z,g1,b2,d',bm,bd,T,U,rfl⟩:=hn;exact⟨_,by simp[-Int.natCast_add,g1],b2,d',bm,bd,T,U,rfl⟩
         |ok v2 b2=>rw[hr] at hn;obtain⟨hb2,z,g1,h5,bm,bd,h6,h7,rfl⟩:=hn;exact⟨hb2,_,by simp[-Int.natCast_add,g1],by omega,bm,bd,h6,h7,rfl⟩
        ·exact⟨_,by simp[-Int.natCast_add,aF hW hb3,hs],b3,d,true,true,.rows (ms.map Md.cells++[[sv t.text,iv v.kind,sv v.name,iv v.n,bH v.kids,iv t.at_]]),.rows (ds.map Bd.cells),rfl⟩
       ·exact⟨_,by simp[-Int.natCast_add,g3],b3,d',true,true,.rows (ms.map Md.cells),.rows (ds.map Bd.cells),rfl⟩
      ·exact⟨_,by simp[-Int.natCast_add,aF hW hb,hc],b,d,true,true,.rows (ms.map Md.cells),.rows (ds.map Bd.cells),rfl⟩
     ·obtain⟨b,rfl⟩:=hz
      exact⟨_,by simp[-Int.natCast_add,g],b,d,true,true,.rows (ms.map Md.cells),.rows (ds.map Bd.cells),rfl⟩
abbrev pCl(L:List Tk)(a:Nat)(d:Int):Q:=afR (aU L) (iv a) (iv d)
theorem acj(m:Nat):Pa L (pCl L) clC (rE L m):=by
 intro a d h0 h1 ha;refine .weak (alQ ev _ _ _) (.of ?_);unfold rE;rw[aqt];refine .takeK (by decide) (fun k2=>?_) (fun k2=>?_)
 ·have hl1:=hW.fin a (by omega)
  simp[-Int.natCast_add,cu hW ha,k2,Tk.cells];refine .takeK (by decide) (fun k1=>?_) (fun k1=>?_)
  ·have hl2:=hW.fin (a+1) (by omega)
   simp[-Int.natCast_add,cu hW hl1,k1,Tk.cells];simp[-Int.natCast_add,bL hW hl2];unfold Tz;cases hf:lG L xD (a+1+1) with
   |false=>
    simp[-Int.natCast_add,hf];have e0:aA (dV L xD (jV L m) (aX [])) (fun sup=>aA (aY L 6 mQ) fun _=>aA (bR L m [] []) fun r=>aX (⟨(ai L a).text,(ai L (a+1)).text,sup,r.1,r.2,(ai L a).at_⟩:Cl)) d (a+1+1)=aA (aY L 6 mQ) (fun _=>aA (bR L m [] []) fun r=>aX (⟨(ai L a).text,(ai L (a+1)).text,[],r.1,r.2,(ai L a).at_⟩:Cl)) d (a+1+1):=by
     conv=>lhs;unfold aA dV
     rw[hf];rfl
    rw[e0];refine .take (by decide) (fun hw=>?_) (fun hw=>?_)
    ·have hl4:=ax hW hw
     simp[-Int.natCast_add,aF hW hl2,hw,Tk.cells];have hn:=WI hW (ai L a).text (ai L (a+1)).text (ai L a).at_ m false false [] [] ((a+1+1)+1) d (fun _=>rfl) (fun _=>rfl) (by simp) h0 h1 hl4;refine .bind hn (fun r b z hb g hz=>?_) (fun e w z g hz=>?_)
     ·obtain⟨hab,bm,bd,hx,hy,rfl⟩:=hz
      unfold vT at g;cases bm<;>cases bd
      ·exact .pure hb (by simp[-Int.natCast_add,g]) (.of (m:=[0,0,0,0,1,0,0,0,0]) (k:=0) (ys:=[sv (ai L a).text,sv (ai L (a+1)).text,nS,nS,nS,iv (ai L a).at_]) (by omega) rfl (by simp[hx rfl,hy rfl,rU,zX,iE,strs,mP,aZ]))
      ·exact .pure hb (by simp[-Int.natCast_add,g]) (.of (m:=[0,0,0,0,1,0,0,0,0]) (k:=1) (ys:=[sv (ai L a).text,sv (ai L (a+1)).text,nS,nS,.rows (r.2.map Bd.cells),iv (ai L a).at_]) (by omega) rfl (by simp[hx rfl,rU,zX,iE,strs,mP,aZ]))
      ·exact .pure hb (by simp[-Int.natCast_add,g]) (.of (m:=[0,0,0,0,1,0,0,0,0]) (k:=2) (ys:=[sv (ai L a).text,sv (ai L (a+1)).text,nS,.rows (r.1.map Md.cells),nS,iv (ai L a).at_]) (by omega) rfl (by simp[hy rfl,rU,zX,iE,strs,mP,aZ]))
      ·exact .pure hb (by simp[-Int.natCast_add,g]) (.of (m:=[0,0,0,0,1,0,0,0,0]) (k:=3) (ys:=[sv (ai L a).text,sv (ai L (a+1)).text,nS,.rows (r.1.map Md.cells),.rows (r.2.map Bd.cells),iv (ai L a).at_]) (by omega) rfl (by simp[rU,zX,iE,strs,mP,aZ]))
     ·obtain⟨b,d',bm,bd,T,U,rfl⟩:=hz
      unfold vT at g;cases bm<;>cases bd
      all_goals exact⟨_,by simp[-Int.natCast_add,g],.of (m:=[0,0,0,0,1,0,0,0,0]) (b:=b) (d:=d') (k:=4) rfl⟩
    ·exact⟨_,by simp[-Int.natCast_add,aF hW hl2,hw],.of (m:=[0,0,0,0,1,0,0,0,0]) (b:=(a+1+1)) (d:=d) (k:=4) rfl⟩
   |true=>
    have hl3:=ax hW hf;simp[-Int.natCast_add,hf];have e0:aA (dV L xD (jV L m) (aX [])) (fun sup=>aA (aY L 6 mQ) fun _=>aA (bR L m [] []) fun r=>aX (⟨(ai L a).text,(ai L (a+1)).text,sup,r.1,r.2,(ai L a).at_⟩:Cl)) d (a+1+1)=aA (jV L m) (fun sup=>aA (aY L 6 mQ) fun _=>aA (bR L m [] []) fun r=>aX (⟨(ai L a).text,(ai L (a+1)).text,sup,r.1,r.2,(ai L a).at_⟩:Cl)) d (a+1+1+1):=by
     conv=>lhs;unfold aA dV
     rw[hf];rfl
    rw[e0];refine .bind (GJ hW m (a+1+1+1) d hl3) (fun sup b3 z hb3 g3 hz=>?_) (fun e w z g3 hz=>?_)
    ·obtain⟨hab3,hl5,rfl⟩:=hz
     have gw:=Gm g3;simp[-Int.natCast_add,g3,gw];refine .take (by decide) (fun hw=>?_) (fun hw=>?_)
     ·have hl4:=ax hW hw
      simp[-Int.natCast_add,aF hW hb3,hw,Tk.cells];have hn:=WH hW (ai L a).text (ai L (a+1)).text (ai L a).at_ (sup.map fun s=>[sv s]) m false false [] [] (b3+1) d (fun _=>rfl) (fun _=>rfl) (by simp) h0 h1 hl4;refine .bind hn (fun r b z hb g hz=>?_) (fun e w z g hz=>?_)
      ·obtain⟨hab,bm,bd,hx,hy,rfl⟩:=hz
       unfold vS at g;cases bm<;>cases bd
       ·exact .pure hb (by simp[-Int.natCast_add,g]) (.of (m:=[0,0,0,0,1,0,0,0,0]) (k:=5) (ys:=[sv (ai L a).text,sv (ai L (a+1)).text,(.rows (sup.map fun s=>[sv s])),nS,nS,iv (ai L a).at_]) (by omega) rfl (by simp[hx rfl,hy rfl,rU,zX,iE,strs,mP,aZ]))
       ·exact .pure hb (by simp[-Int.natCast_add,g]) (.of (m:=[0,0,0,0,1,0,0,0,0]) (k:=6) (ys:=[sv (ai L a).text,sv (ai L (a+1)).text,(.rows (sup.map fun s=>[sv s])),nS,.rows (r.2.map Bd.cells),iv (ai L a).at_]) (by omega) rfl (by simp[hx rfl,rU,zX,iE,strs,mP,aZ]))
       ·exact .pure hb (by simp[-Int.natCast_add,g]) (.of (m:=[0,0,0,0,1,0,0,0,0]) (k:=7) (ys:=[sv (ai L a).text,sv (ai L (a+1)).text,(.rows (sup.map fun s=>[sv s])),.rows (r.1.map Md.cells),nS,iv (ai L a).at_]) (by omega) rfl (by simp[hy rfl,rU,zX,iE,strs,mP,aZ]))
       ·exact .pure hb (by simp[-Int.natCast_add,g]) (.of (m:=[0,0,0,0,1,0,0,0,0]) (k:=8) (ys:=[sv (ai L a).text,sv (ai L (a+1)).text,(.rows (sup.map fun s=>[sv s])),.rows (r.1.map Md.cells),.rows (r.2.map Bd.cells),iv (ai L a).at_]) (by omega) rfl (by simp[rU,zX,iE,strs,mP,aZ]))
      ·obtain⟨b,d',bm,bd,T,U,rfl⟩:=hz
       unfold vS at g;cases bm<;>cases bd
       all_goals exact⟨_,by simp[-Int.natCast_add,g],.of (m:=[0,0,0,0,1,0,0,0,0]) (b:=b) (d:=d') (k:=4) rfl⟩
     ·exact⟨_,by simp[-Int.natCast_add,aF hW hb3,hw],.of (m:=[0,0,0,0,1,0,0,0,0]) (b:=b3) (d:=d) (k:=4) rfl⟩
    ·obtain⟨b3,rfl⟩:=hz
     have gw:=BZ g3;exact⟨_,by simp[-Int.natCast_add,g3,gw],.of (m:=[0,0,0,0,1,0,0,0,0]) (b:=b3) (d:=d) (k:=4) rfl⟩
  ·exact⟨_,by simp[-Int.natCast_add,cu hW hl1,k1],.of (m:=[0,0,0,0,1,0,0,0,0]) (b:=a+1) (d:=d) (k:=4) rfl⟩
 ·exact⟨_,by simp[cu hW ha,k2],.of (m:=[0,0,0,0,1,0,0,0,0]) (b:=a) (d:=d) (k:=4) rfl⟩
end
set_option maxRecDepth 10000
abbrev iz(da:Int):List PV:=[iv da,sv eB,iv 0,sv eB,iv 0,nS,nS,nS,iv 0]
def Vx(c v:ByteArray):Pd:=⟨c,.mk 1 v 0 []⟩
theorem RZ(c v:ByteArray):dL [sv c,iv 1,sv v,iv 0,nS]=(Vx c v).cells∧kM [sv c,iv 1,sv v,iv 0,nS]:=⟨by simp[Pd.cells,Vx,bH],by simp⟩
abbrev ih5(nm:ByteArray)(h:Ty):List PV:=[sv nm,iv h.kind,sv h.name,iv h.n,bH h.kids]
section
variable{L:List Tk}(hW:Gg L)
include hW
theorem ajQ(nm:ByteArray)(h:Ty)(at_:Int):∀(m:Nat) (l:List Pd) (CC:List (List PV)) (a:Nat) (d:Int),Raw 5 CC (l.map Pd.cells)→l.length≤a→0≤d→d≤300→a<L.length→lI L (Qs (aU L) (iv a) (iv d) (sv nm) (iv h.kind) (sv h.name) (iv h.n) (bH h.kids) CC (iv at_)) (og L m l d a)
  (fun v b z=>a≤b∧∃B',Raw 5 B' (v.map Pd.cells)∧z=(0,ps L b d (ih5 nm h ++ .rows B'::nS::iz at_))) (fun e w z=>∃(b:Nat) (T:PV),z=(2,ps L b d (ih5 nm h++T::nS::(iz at_++[iv e,iv w])))):=by
 intro m
 induction m with
 |zero=>intro l CC a d hr hl h0 h1 ha;rw[og];trivial
 |succ m ih=>
  intro l CC a d hr hl h0 h1 ha;refine .of ?_;rw[og.eq_2,ad7];have hLl:=hW.len;refine .takeK (by decide) (fun k2=>?_) (fun k2=>?_)
  ·have hl1:=hW.fin a (by omega)
   simp[-Int.natCast_add,cu hW ha,k2,Tk.cells];refine .takeK (by decide) (fun k1=>?_) (fun k1=>?_)
   ·have hl2:=hW.fin (a+1) (by omega)
    have hx:=RZ (ai L a).text (ai L (a+1)).text;have hk:Raw 5 (CC++[[sv (ai L a).text,iv 1,sv (ai L (a+1)).text,iv 0,nS]]) ((l++[Vx (ai L a).text (ai L (a+1)).text]).map Pd.cells):=by
     rw[List.map_append,List.map_cons,List.map_nil];exact hr.app hx.1 rfl hx.2
    simp[-Int.natCast_add,cu hW hl1,k1,Tk.cells];have hap:=fun k'=>aH (P:=PG) (d:=.fail) (k:=k') ajF hr (c:=[sv (ai L a).text,iv 1,sv (ai L (a+1)).text,iv 0,nS]) rfl hx.2 (by have:=hr.len;simp at this;omega) (by decide)
    simp only[hap];simp[-Int.natCast_add,bL hW hl2];refine .may (fun hs=>?_) (fun hs=>?_)
    ·have hl3:=ax hW hs
     simp[-Int.natCast_add,hs];have hn:=ih _ _ (a+1+1+1) d hk (by simp;omega) h0 h1 hl3;simp only[List.cons_append,List.nil_append] at hn;cases hr2:og L m (l++[Vx (ai L a).text (ai L (a+1)).text]) d (a+1+1+1) with
     |out=>have hr2:=hr2;unfold Vx at hr2;rw[hr2];trivial
     |err e w=>rw[hr2] at hn;unfold Vx at hr2;rw[hr2];obtain⟨z,g1,b2,T,rfl⟩:=hn;exact⟨_,by simp[-Int.natCast_add,g1],b2,T,rfl⟩
     |ok v2 b2=>rw[hr2] at hn;unfold Vx at hr2;rw[hr2];obtain⟨hb2,z,g1,h6,B',h7,rfl⟩:=hn;exact⟨hb2,_,by simp[-Int.natCast_add,g1],by omega,B',h7,rfl⟩
    ·exact .pure hl2 (by simp[-Int.natCast_add,hs]) ⟨by omega,_,hk,rfl⟩
   ·exact⟨_,by simp[-Int.natCast_add,cu hW hl1,k1],a+1,.rows CC,rfl⟩
  ·exact⟨_,by simp[cu hW ha,k2],a,.rows CC,rfl⟩
theorem ag7(nm:ByteArray)(h:Ty)(at_:Int)(m:Nat)(a:Nat)(d:Int)(h0:0≤d)(h1:d≤300)(ha:a<L.length):lI L (Qt (aU L) (iv a) (iv d) (sv nm) (iv h.kind) (sv h.name) (iv h.n) (bH h.kids) (iv at_)) (og L m [] d a)
  (fun v b z=>a≤b∧∃B',Raw 5 B' (v.map Pd.cells)∧z=(0,ps L b d (ih5 nm h ++ .rows B'::nS::iz at_))) (fun e w z=>∃(b:Nat),z=(1,ps L b d (ih5 nm h++nS::nS::(iz at_++[iv e,iv w])))∨∃(T:PV),z=(2,ps L b d (ih5 nm h++T::nS::(iz at_++[iv e,iv w])))):=by
 cases m with
 |zero=>rw[og];trivial
 |succ m=>
  refine .of ?_;rw[og.eq_2,ad8];have hLl:=hW.len;refine .takeK (by decide) (fun k2=>?_) (fun k2=>?_)
  ·have hl1:=hW.fin a (by omega)
   simp[-Int.natCast_add,cu hW ha,k2,Tk.cells];refine .takeK (by decide) (fun k1=>?_) (fun k1=>?_)
   ·have hl2:=hW.fin (a+1) (by omega)
    have hx:=RZ (ai L a).text (ai L (a+1)).text;have hk:Raw 5 ([]++[[sv (ai L a).text,iv 1,sv (ai L (a+1)).text,iv 0,nS]]) (([]++[Vx (ai L a).text (ai L (a+1)).text]).map Pd.cells):=by
     rw[List.map_append,List.map_cons,List.map_nil];exact(Raw.nil 5).app hx.1 rfl hx.2
    simp[-Int.natCast_add,cu hW hl1,k1,Tk.cells];simp[-Int.natCast_add,bL hW hl2];refine .may (fun hs=>?_) (fun hs=>?_)
    ·have hl3:=ax hW hs
     simp[-Int.natCast_add,hs];have hn:=ajQ hW nm h at_ m _ _ (a+1+1+1) d hk (by simp) h0 h1 hl3;simp only[List.cons_append,List.nil_append] at hn;cases hr2:og L m [Vx (ai L a).text (ai L (a+1)).text] d (a+1+1+1) with
     |out=>have hr2:=hr2;unfold Vx at hr2;rw[hr2];trivial
     |err e w=>rw[hr2] at hn;unfold Vx at hr2;rw[hr2];obtain⟨z,g1,b2,T,rfl⟩:=hn;exact⟨_,by simp[-Int.natCast_add,g1],b2,.inr ⟨T,rfl⟩⟩
     |ok v2 b2=>rw[hr2] at hn;unfold Vx at hr2;rw[hr2];obtain⟨hb2,z,g1,h6,B',h7,rfl⟩:=hn;exact⟨hb2,_,by simp[-Int.natCast_add,g1],by omega,B',h7,rfl⟩
    ·exact .pure hl2 (by simp[-Int.natCast_add,hs]) ⟨by omega,_,hk,rfl⟩
   ·exact⟨_,by simp[-Int.natCast_add,cu hW hl1,k1],a+1,.inl rfl⟩
  ·exact⟨_,by simp[cu hW ha,k2],a,.inl rfl⟩
theorem aci(nm:ByteArray)(h:Ty)(at_:Int):∀(m:Nat) (l:List Bd) (a:Nat) (d:Int),l.length≤a→0≤d→d≤300→a<L.length→lI L (Qp (aU L) (iv a) (iv d) (sv nm) (iv h.kind) (sv h.name) (iv h.n) (bH h.kids) (l.map Bd.cells) (iv at_)) (d9 L m l d a)
  (fun v b z=>a≤b∧z=(3,ps L b d (ih5 nm h++nS :: .rows (v.map Bd.cells)::iz at_))) (fun e w z=>∃(b:Nat) (d':Int) (T:PV),z=(1,ps L b d' (ih5 nm h++nS::T::(iz at_++[iv e,iv w])))):=by
 intro m
 induction m with
 |zero=>intro l a d hl h0 h1 ha;rw[d9];trivial
 |succ m ih=>
  intro l a d hl h0 h1 ha;refine .of ?_;rw[d9.eq_2,ad4];have hLl:=hW.len;simp[-Int.natCast_add,bL hW ha];refine .may (fun he=>?_) (fun he=>?_)
  ·exact .pure (ax hW he) (by simp[-Int.natCast_add,he]) ⟨by omega,rfl⟩
  ·simp[-Int.natCast_add,he]
   refine .take (by decide) (fun hd=>?_) (fun hd=>?_)
   ·have hl1:=ax hW hd
    simp[-Int.natCast_add,aF hW ha,hd,Tk.cells];refine .callW (yZ hW m (a+1) d h0 h1 hl1) (fun v b hb hab g=>?_) (fun e w b d' g=>?_)
    ·simp[-Int.natCast_add,g]
     have hap:=fun k'=>aH (P:=PG) (d:=.fail) (k:=k') qf (gL l) (c:=fZ v) rfl (by simp) (by simp;omega) (by decide)
     simp only[hap];refine .take (by decide) (fun hs=>?_) (fun hs=>?_)
     ·have hl2:=ax hW hs
      simp[-Int.natCast_add,aF hW hb,hs,Tk.cells];have hn:=ih (l++[v]) (b+1) d (by simp;omega) h0 h1 hl2;simp only[List.map_append,List.map_cons,List.map_nil,Bd.cells_eq] at hn;cases hr:d9 L m (l++[v]) d (b+1) with
      |out=>trivial
      |err e w=>rw[hr] at hn;obtain⟨z,g1,b2,d',hz⟩:=hn;obtain⟨T,rfl⟩:=hz;exact⟨_,by simp[-Int.natCast_add,g1],b2,d',T,rfl⟩
      |ok v2 b2=>rw[hr] at hn;obtain⟨hb2,z,g1,h5,rfl⟩:=hn;exact⟨hb2,_,by simp[-Int.natCast_add,g1],by omega,rfl⟩
     ·exact⟨_,by simp[-Int.natCast_add,aF hW hb,hs],b,d,.rows (l.map Bd.cells++[fZ v]),rfl⟩
    ·exact⟨_,by simp[-Int.natCast_add,g],b,d',.rows (l.map Bd.cells),rfl⟩
   ·exact⟨_,by simp[-Int.natCast_add,aF hW ha,hd],a,d,.rows (l.map Bd.cells),rfl⟩
theorem WK(nm:ByteArray)(h:Ty)(at_:Int)(m:Nat)(a:Nat)(d:Int)(h0:0≤d)(h1:d≤300)(ha:a<L.length):lI L (Qr (aU L) (iv a) (iv d) (sv nm) (iv h.kind) (sv h.name) (iv h.n) (bH h.kids) (iv at_)) (d9 L m [] d a)
  (fun v b z=>a≤b∧(v=[]∧z=(0,ps L b d (ih5 nm h++nS::nS::iz at_))∨z=(3,ps L b d (ih5 nm h++nS :: .rows (v.map Bd.cells)::iz at_)))) (fun e w z=>∃(b:Nat) (d':Int),z=(2,ps L b d' (ih5 nm h++nS::nS::(iz at_++[iv e,iv w])))∨∃(T:PV),z=(1,ps L b d' (ih5 nm h++nS::T::(iz at_++[iv e,iv w])))):=by
 cases m with
 |zero=>rw[d9];trivial
 |succ m=>
  refine .of ?_;rw[d9.eq_2,ad6];have hLl:=hW.len;simp[-Int.natCast_add,bL hW ha];refine .may (fun he=>?_) (fun he=>?_)
  ·exact .pure (ax hW he) (by simp[-Int.natCast_add,he]) ⟨by omega,.inl ⟨rfl,rfl⟩⟩
  ·simp[-Int.natCast_add,he]
   refine .take (by decide) (fun hd=>?_) (fun hd=>?_)
   ·have hl1:=ax hW hd
    simp[-Int.natCast_add,aF hW ha,hd,Tk.cells];refine .callW (yZ hW m (a+1) d h0 h1 hl1) (fun v b hb hab g=>?_) (fun e w b d' g=>?_)
    ·simp[-Int.natCast_add,g]
     refine .take (by decide) (fun hs=>?_) (fun hs=>?_)
     ·have hl2:=ax hW hs
      simp[-Int.natCast_add,aF hW hb,hs,Tk.cells];have hn:=aci hW nm h at_ m [v] (b+1) d (by simp) h0 h1 hl2;simp only[List.map_append,List.map_cons,List.map_nil,Bd.cells_eq] at hn;cases hr:d9 L m [v] d (b+1) with
      |out=>trivial
      |err e w=>rw[hr] at hn;obtain⟨z,g1,b2,d',hz⟩:=hn;obtain⟨T,rfl⟩:=hz;exact⟨_,by simp[-Int.natCast_add,g1],b2,d',.inr ⟨T,rfl⟩⟩
      |ok v2 b2=>rw[hr] at hn;obtain⟨hb2,z,g1,h5,rfl⟩:=hn;exact⟨hb2,_,by simp[-Int.natCast_add,g1],by omega,.inr rfl⟩
     ·exact⟨_,by simp[-Int.natCast_add,aF hW hb,hs],b,d,.inr ⟨.rows [fZ v],rfl⟩⟩
    ·exact⟨_,by simp[-Int.natCast_add,g],b,d',.inl rfl⟩
   ·exact⟨_,by simp[-Int.natCast_add,aF hW ha,hd],a,d,.inl rfl⟩
theorem ach(nm:ByteArray)(h:Ty)(at_:Int)(XX:List (List PV)):∀(m:Nat) (l:List Bd) (a:Nat) (d:Int),l.length≤a→0≤d→d≤300→a<L.length→lI L (Qo (aU L) (iv a) (iv d) (sv nm) (iv h.kind) (sv h.name) (iv h.n) (bH h.kids) XX (l.map Bd.cells) (iv at_)) (d9 L m l d a)
  (fun v b z=>a≤b∧z=(3,ps L b d (ih5 nm h ++ .rows XX :: .rows (v.map Bd.cells)::iz at_))) (fun e w z=>∃(b:Nat) (d':Int) (T:PV),z=(1,ps L b d' (ih5 nm h ++ .rows XX::T::(iz at_++[iv e,iv w])))):=by
 intro m
 induction m with
 |zero=>intro l a d hl h0 h1 ha;rw[d9];trivial
 |succ m ih=>
  intro l a d hl h0 h1 ha;refine .of ?_;rw[d9.eq_2,ad3];have hLl:=hW.len;simp[-Int.natCast_add,bL hW ha];refine .may (fun he=>?_) (fun he=>?_)
  ·exact .pure (ax hW he) (by simp[-Int.natCast_add,he]) ⟨by omega,rfl⟩
  ·simp[-Int.natCast_add,he]
   refine .take (by decide) (fun hd=>?_) (fun hd=>?_)
   ·have hl1:=ax hW hd
    simp[-Int.natCast_add,aF hW ha,hd,Tk.cells];refine .callW (yZ hW m (a+1) d h0 h1 hl1) (fun v b hb hab g=>?_) (fun e w b d' g=>?_)
    ·simp[-Int.natCast_add,g]
     have hap:=fun k'=>aH (P:=PG) (d:=.fail) (k:=k') qf (gL l) (c:=fZ v) rfl (by simp) (by simp;omega) (by decide)
     simp only[hap];refine .take (by decide) (fun hs=>?_) (fun hs=>?_)
     ·have hl2:=ax hW hs
      simp[-Int.natCast_add,aF hW hb,hs,Tk.cells];have hn:=ih (l++[v]) (b+1) d (by simp;omega) h0 h1 hl2;simp only[List.map_append,List.map_cons,List.map_nil,Bd.cells_eq] at hn;cases hr:d9 L m (l++[v]) d (b+1) with
      |out=>trivial
      |err e w=>rw[hr] at hn;obtain⟨z,g1,b2,d',hz⟩:=hn;obtain⟨T,rfl⟩:=hz;exact⟨_,by simp[-Int.natCast_add,g1],b2,d',T,rfl⟩
      |ok v2 b2=>rw[hr] at hn;obtain⟨hb2,z,g1,h5,rfl⟩:=hn;exact⟨hb2,_,by simp[-Int.natCast_add,g1],by omega,rfl⟩
     ·exact⟨_,by simp[-Int.natCast_add,aF hW hb,hs],b,d,.rows (l.map Bd.cells++[fZ v]),rfl⟩
    ·exact⟨_,by simp[-Int.natCast_add,g],b,d',.rows (l.map Bd.cells),rfl⟩
   ·exact⟨_,by simp[-Int.natCast_add,aF hW ha,hd],a,d,.rows (l.map Bd.cells),rfl⟩
theorem WJ(nm:ByteArray)(h:Ty)(at_:Int)(XX:List (List PV))(m:Nat)(a:Nat)(d:Int)(h0:0≤d)(h1:d≤300)(ha:a<L.length):lI L (Qq (aU L) (iv a) (iv d) (sv nm) (iv h.kind) (sv h.name) (iv h.n) (bH h.kids) XX (iv at_)) (d9 L m [] d a)
  (fun v b z=>a≤b∧(v=[]∧z=(0,ps L b d (ih5 nm h ++ .rows XX::nS::iz at_))∨z=(3,ps L b d (ih5 nm h ++ .rows XX :: .rows (v.map Bd.cells)::iz at_)))) (fun e w z=>∃(b:Nat) (d':Int),z=(2,ps L b d' (ih5 nm h ++ .rows XX::nS::(iz at_++[iv e,iv w])))∨∃(T:PV),z=(1,ps L b d' (ih5 nm h ++ .rows XX::T::(iz at_++[iv e,iv w])))):=by
 cases m with
 |zero=>rw[d9];trivial
 |succ m=>
  refine .of ?_;rw[d9.eq_2,ad5];have hLl:=hW.len;simp[-Int.natCast_add,bL hW ha];refine .may (fun he=>?_) (fun he=>?_)
  ·exact .pure (ax hW he) (by simp[-Int.natCast_add,he]) ⟨by omega,.inl ⟨rfl,rfl⟩⟩
  ·simp[-Int.natCast_add,he]
   refine .take (by decide) (fun hd=>?_) (fun hd=>?_)
   ·have hl1:=ax hW hd
    simp[-Int.natCast_add,aF hW ha,hd,Tk.cells];refine .callW (yZ hW m (a+1) d h0 h1 hl1) (fun v b hb hab g=>?_) (fun e w b d' g=>?_)
    ·simp[-Int.natCast_add,g]
     refine .take (by decide) (fun hs=>?_) (fun hs=>?_)
     ·have hl2:=ax hW hs
      simp[-Int.natCast_add,aF hW hb,hs,Tk.cells];have hn:=ach hW nm h at_ XX m [v] (b+1) d (by simp) h0 h1 hl2;simp only[List.map_append,List.map_cons,List.map_nil,Bd.cells_eq] at hn;cases hr:d9 L m [v] d (b+1) with
      |out=>trivial
      |err e w=>rw[hr] at hn;obtain⟨z,g1,b2,d',hz⟩:=hn;obtain⟨T,rfl⟩:=hz;exact⟨_,by simp[-Int.natCast_add,g1],b2,d',.inr ⟨T,rfl⟩⟩
      |ok v2 b2=>rw[hr] at hn;obtain⟨hb2,z,g1,h5,rfl⟩:=hn;exact⟨hb2,_,by simp[-Int.natCast_add,g1],by omega,.inr rfl⟩
     ·exact⟨_,by simp[-Int.natCast_add,aF hW hb,hs],b,d,.inr ⟨.rows [fZ v],rfl⟩⟩
    ·exact⟨_,by simp[-Int.natCast_add,g],b,d',.inl rfl⟩
   ·exact⟨_,by simp[-Int.natCast_add,aF hW ha,hd],a,d,.inl rfl⟩
abbrev pIt(L:List Tk)(a:Nat)(d:Int):Q:=afQ (aU L) (iv a) (iv d)
theorem ag5(m:Nat):Pa L (pIt L) Zt (xX L m):=by
 intro a d h0 h1 ha;refine .weak (alO ev _ _ _) (.of ?_);unfold xX;rw[aqs];refine .takeK (by decide) (fun k2=>?_) (fun k2=>?_)
 ·have hl1:=hW.fin a (by omega)
  simp[-Int.natCast_add,cu hW ha,k2,Tk.cells];refine .callW (s_at hW m (a+1) d h0 h1 hl1) (fun h b hb hab g=>?_) (fun e w b d' g=>?_)
  ·simp[-Int.natCast_add,g]
   simp[-Int.natCast_add,bL hW hb];cases hf:lG L xD b with
   |false=>
    simp[-Int.natCast_add,hf];have e0:aA (dV L xD (og L m []) (aX [])) (fun c=>aA (aY L 6 mQ) fun _=>aA (d9 L m []) fun bs=>aX (⟨(ai L a).text,h,c,bs,(ai L a).at_⟩:It)) d b=aA (aY L 6 mQ) (fun _=>aA (d9 L m []) fun bs=>aX (⟨(ai L a).text,h,[],bs,(ai L a).at_⟩:It)) d b:=by
     conv=>lhs;unfold aA dV
     rw[hf];rfl
    rw[e0];refine .take (by decide) (fun hw=>?_) (fun hw=>?_)
    ·have hl4:=ax hW hw
     simp[-Int.natCast_add,aF hW hb,hw,Tk.cells];refine .bind (WK hW (ai L a).text h (ai L a).at_ m (b+1) d h0 h1 hl4) (fun bs b4 z hb4 g4 hz=>?_) (fun e w z g4 hz=>?_)
     ·obtain⟨hab4,⟨rfl,rfl⟩|rfl⟩:=hz
      ·exact .pure hb4 (by simp[-Int.natCast_add,g4]) (.of (m:=[0,0,1,0,0]) (k:=0) (ys:=ih5 (ai L a).text h++[nS,nS,iv (ai L a).at_]) (by omega) rfl (by simp[sD,aZ]))
      ·exact .pure hb4 (by simp[-Int.natCast_add,g4]) (.of (m:=[0,0,1,0,0]) (k:=1) (ys:=ih5 (ai L a).text h++[nS,.rows (bs.map Bd.cells),iv (ai L a).at_]) (by omega) rfl (by simp[sD,aZ,iE,aZ]))
     ·obtain⟨b4,d',rfl|⟨T,rfl⟩⟩:=hz
      ·exact⟨_,by simp[-Int.natCast_add,g4],.of (m:=[0,0,1,0,0]) (b:=b4) (d:=d') (k:=2) rfl⟩
      ·exact⟨_,by simp[-Int.natCast_add,g4],.of (m:=[0,0,1,0,0]) (b:=b4) (d:=d') (k:=2) rfl⟩
    ·exact⟨_,by simp[-Int.natCast_add,aF hW hb,hw],.of (m:=[0,0,1,0,0]) (b:=b) (d:=d) (k:=2) rfl⟩
   |true=>
    have hl3:=ax hW hf;simp[-Int.natCast_add,hf];have e0:aA (dV L xD (og L m []) (aX [])) (fun c=>aA (aY L 6 mQ) fun _=>aA (d9 L m []) fun bs=>aX (⟨(ai L a).text,h,c,bs,(ai L a).at_⟩:It)) d b=aA (og L m []) (fun c=>aA (aY L 6 mQ) fun _=>aA (d9 L m []) fun bs=>aX (⟨(ai L a).text,h,c,bs,(ai L a).at_⟩:It)) d (b+1):=by
     conv=>lhs;unfold aA dV
     rw[hf];rfl
    rw[e0];refine .bind (ag7 hW (ai L a).text h (ai L a).at_ m (b+1) d h0 h1 hl3) (fun c b3 z hb3 g3 hz=>?_) (fun e w z g3 hz=>?_)
    ·obtain⟨hab3,B,hB,rfl⟩:=hz
     simp[-Int.natCast_add,g3];refine .take (by decide) (fun hw=>?_) (fun hw=>?_)
     ·have hl4:=ax hW hw
      simp[-Int.natCast_add,aF hW hb3,hw,Tk.cells];refine .bind (WJ hW (ai L a).text h (ai L a).at_ B m (b3+1) d h0 h1 hl4) (fun bs b4 z hb4 g4 hz=>?_) (fun e w z g4 hz=>?_)
      ·obtain⟨hab4,⟨rfl,rfl⟩|rfl⟩:=hz
       ·exact .pure hb4 (by simp[-Int.natCast_add,g4]) (.of (m:=[0,0,1,0,0]) (k:=3) (ys:=ih5 (ai L a).text h++[.rows B,nS,iv (ai L a).at_]) (by omega) rfl (by simp[hB.wd,sD]))
       ·exact .pure hb4 (by simp[-Int.natCast_add,g4]) (.of (m:=[0,0,1,0,0]) (k:=4) (ys:=ih5 (ai L a).text h++[.rows B,.rows (bs.map Bd.cells),iv (ai L a).at_]) (by omega) rfl (by simp[hB.wd,sD,iE,aZ]))
      ·obtain⟨b4,d',rfl|⟨T,rfl⟩⟩:=hz
       ·exact⟨_,by simp[-Int.natCast_add,g4],.of (m:=[0,0,1,0,0]) (b:=b4) (d:=d') (k:=2) rfl⟩
       ·exact⟨_,by simp[-Int.natCast_add,g4],.of (m:=[0,0,1,0,0]) (b:=b4) (d:=d') (k:=2) rfl⟩
     ·exact⟨_,by simp[-Int.natCast_add,aF hW hb3,hw],.of (m:=[0,0,1,0,0]) (b:=b3) (d:=d) (k:=2) rfl⟩
    ·obtain⟨b3,rfl|⟨T,rfl⟩⟩:=hz
     ·exact⟨_,by simp[-Int.natCast_add,g3],.of (m:=[0,0,1,0,0]) (b:=b3) (d:=d) (k:=2) rfl⟩
     ·exact⟨_,by simp[-Int.natCast_add,g3],.of (m:=[0,0,1,0,0]) (b:=b3) (d:=d) (k:=2) rfl⟩
  ·exact⟨_,by simp[-Int.natCast_add,g],.of (m:=[0,0,1,0,0]) (b:=b) (d:=d') (k:=2) rfl⟩
 ·exact⟨_,by simp[cu hW ha,k2],.of (m:=[0,0,1,0,0]) (b:=a) (d:=d) (k:=2) rfl⟩
end
set_option maxRecDepth 10000
set_option maxHeartbeats 4000000
def J8:Bool→Bool→Bool→Bool→Nat
 |false,false,false,false=>5
 |false,false,false,true=>15
 |false,false,true,false=>14
 |false,false,true,true=>25
 |false,true,false,false=>12
 |false,true,false,true=>24
 |false,true,true,false=>23
 |false,true,true,true=>30
 |true,false,false,false=>9
 |true,false,false,true=>21
 |true,false,true,false=>20
 |true,false,true,true=>29
 |true,true,false,false=>18
 |true,true,false,true=>28
 |true,true,true,false=>27
 |true,true,true,true=>31
@[simp] theorem asN:J8 false false false false=5:=rfl
@[simp] theorem asR:J8 false false false true=15:=rfl
@[simp] theorem asO:J8 false false true false=14:=rfl
@[simp] theorem apD:J8 false false true true=25:=rfl
@[simp] theorem asQ:J8 false true false false=12:=rfl
@[simp] theorem apI:J8 false true false true=24:=rfl
@[simp] theorem apH:J8 false true true false=23:=rfl
@[simp] theorem anw:J8 false true true true=30:=rfl
@[simp] theorem asP:J8 true false false false=9:=rfl
@[simp] theorem apG:J8 true false false true=21:=rfl
@[simp] theorem apE:J8 true false true false=20:=rfl
@[simp] theorem ant:J8 true false true true=29:=rfl
@[simp] theorem apF:J8 true true false false=18:=rfl
@[simp] theorem anv:J8 true true false true=28:=rfl
@[simp] theorem anu:J8 true true true false=27:=rfl
@[simp] theorem ale:J8 true true true true=31:=rfl
def EY:Bool→Bool→Bool→Bool→Nat
 |false,false,false,false=>1
 |false,false,false,true=>4
 |false,false,true,false=>3
 |false,false,true,true=>13
 |false,true,false,false=>2
 |false,true,false,true=>11
 |false,true,true,false=>10
 |false,true,true,true=>22
 |true,false,false,false=>0
 |true,false,false,true=>8
 |true,false,true,false=>7
 |true,false,true,true=>19
 |true,true,false,false=>6
 |true,true,false,true=>17
 |true,true,true,false=>16
 |true,true,true,true=>26
@[simp] theorem as2:EY false false false false=1:=rfl
@[simp] theorem as6:EY false false false true=4:=rfl
@[simp] theorem as3:EY false false true false=3:=rfl
@[simp] theorem aq2:EY false false true true=13:=rfl
@[simp] theorem as5:EY false true false false=2:=rfl
@[simp] theorem aq7:EY false true false true=11:=rfl
@[simp] theorem aq6:EY false true true false=10:=rfl
@[simp] theorem anQ:EY false true true true=22:=rfl
@[simp] theorem as4:EY true false false false=0:=rfl
@[simp] theorem aq5:EY true false false true=8:=rfl
@[simp] theorem aq3:EY true false true false=7:=rfl
@[simp] theorem anN:EY true false true true=19:=rfl
@[simp] theorem aq4:EY true true false false=6:=rfl
@[simp] theorem anP:EY true true false true=17:=rfl
@[simp] theorem anO:EY true true true false=16:=rfl
@[simp] theorem amg:EY true true true true=26:=rfl
def FV(L:List Tk)(a:Nat)(d:Int):Bool→Bool→Bool→Bool→List Dt→List Cl→List It→List Bd→Q
 |false,false,false,false,_,_,_,_=>RF (aU L) (iv a) (iv d)
 |false,false,false,true,_,_,_,B=>Ry (aU L) (iv a) (iv d) (B.map Bd.cells)
 |false,false,true,false,_,_,I,_=>RA (aU L) (iv a) (iv d) (I.map It.cells)
 |false,false,true,true,_,_,I,B=>Ro (aU L) (iv a) (iv d) (I.map It.cells) (B.map Bd.cells)
 |false,true,false,false,_,C,_,_=>RB (aU L) (iv a) (iv d) (C.map Cl.cells)
 |false,true,false,true,_,C,_,B=>Rp (aU L) (iv a) (iv d) (C.map Cl.cells) (B.map Bd.cells)
 |false,true,true,false,_,C,I,_=>Rq (aU L) (iv a) (iv d) (C.map Cl.cells) (I.map It.cells)
 |false,true,true,true,_,C,I,B=>Rj (aU L) (iv a) (iv d) (C.map Cl.cells) (I.map It.cells) (B.map Bd.cells)
 |true,false,false,false,D,_,_,_=>RD (aU L) (iv a) (iv d) (D.map Dt.cells)
 |true,false,false,true,D,_,_,B=>Rv (aU L) (iv a) (iv d) (D.map Dt.cells) (B.map Bd.cells)
 |true,false,true,false,D,_,I,_=>Rw (aU L) (iv a) (iv d) (D.map Dt.cells) (I.map It.cells)
 |true,false,true,true,D,_,I,B=>Rk (aU L) (iv a) (iv d) (D.map Dt.cells) (I.map It.cells) (B.map Bd.cells)
 |true,true,false,false,D,C,_,_=>Rx (aU L) (iv a) (iv d) (D.map Dt.cells) (C.map Cl.cells)
 |true,true,false,true,D,C,_,B=>Rm (aU L) (iv a) (iv d) (D.map Dt.cells) (C.map Cl.cells) (B.map Bd.cells)
 |true,true,true,false,D,C,I,_=>Rn (aU L) (iv a) (iv d) (D.map Dt.cells) (C.map Cl.cells) (I.map It.cells)
 |true,true,true,true,D,C,I,B=>Ri (aU L) (iv a) (iv d) (D.map Dt.cells) (C.map Cl.cells) (I.map It.cells) (B.map Bd.cells)
abbrev Lu(D:List Dt)(C:List Cl)(I:List It)(B:List Bd):Pg:=⟨⟨D,C,I⟩,B⟩
abbrev Yu(b1 b2 b3 b4:Bool)(T U V W:List (List PV)):List PV:=[fl b1 (.rows T),fl b2 (.rows U),fl b3 (.rows V),fl b4 (.rows W),nS,nS,nS,nS]
def okG(L:List Tk)(a:Nat)(d:Int)(v:Pg)(b:Nat)(z:Rs):Prop:=a≤b∧∃b1 b2 b3 b4:Bool,(b1=false→v.datas=[])∧(b2=false→v.classes=[])∧(b3=false→v.insts=[])∧(b4=false→v.binds=[])∧z=(J8 b1 b2 b3 b4,ps L b d (Yu b1 b2 b3 b4 (v.datas.map Dt.cells) (v.classes.map Cl.cells) (v.insts.map It.cells) (v.binds.map Bd.cells)))
def erG(L:List Tk)(e w:Int)(z:Rs):Prop:=∃(b:Nat) (d':Int) (b1 b2 b3 b4:Bool) (T U V W:List (List PV)),z=(EY b1 b2 b3 b4,ps L b d' (Yu b1 b2 b3 b4 T U V W++[iv e,iv w]))
section
variable{L:List Tk}(hW:Gg L)
include hW
theorem ace:∀(m:Nat) (b1 b2 b3 b4:Bool) (D:List Dt) (C:List Cl) (I:List It) (B:List Bd) (a:Nat) (d:Int),(b1=false→D=[])→(b2=false→C=[])→(b3=false→I=[])→(b4=false→B=[])→D.length+C.length+I.length+B.length≤a→0≤d→d≤300→a<L.length→lI L (FV L a d b1 b2 b3 b4 D C I B) (eU L m (Lu D C I B) d a) (okG L a d) (erG L):=by
 intro m
 induction m with
 |zero=>intro b1 b2 b3 b4 D C I B a d _ _ _ _ _ _ _ _;rw[eU];trivial
 |succ m ih=>
  intro b1 b2 b3 b4 D C I B a d i1 i2 i3 i4 hl h0 h1 ha;have hLl:=hW.len;have jD:=fun(v:Dt) (b:Nat) (hab:a<b) (hb:b<L.length)=>ih true b2 b3 b4 (D++[v]) C I B b d (fun h=>by cases h) i2 i3 i4 (by simp only[List.length_append,List.length_cons,List.length_nil];omega) h0 h1 hb
  have jC:=fun(v:Cl) (b:Nat) (hab:a<b) (hb:b<L.length)=>ih b1 true b3 b4 D (C++[v]) I B b d i1 (fun h=>by cases h) i3 i4 (by simp only[List.length_append,List.length_cons,List.length_nil];omega) h0 h1 hb
  have jI:=fun(v:It) (b:Nat) (hab:a<b) (hb:b<L.length)=>ih b1 b2 true b4 D C (I++[v]) B b d i1 i2 (fun h=>by cases h) i4 (by simp only[List.length_append,List.length_cons,List.length_nil];omega) h0 h1 hb
  have jB:=fun(v:Bd) (b:Nat) (hab:a<b) (hb:b<L.length)=>ih b1 b2 b3 true D C I (B++[v]) b d i1 i2 i3 (fun h=>by cases h) (by simp only[List.length_append,List.length_cons,List.length_nil];omega) h0 h1 hb
  have kO:okG L a d (Lu D C I B) a (J8 b1 b2 b3 b4,ps L a d (Yu b1 b2 b3 b4 (D.map Dt.cells) (C.map Cl.cells) (I.map It.cells) (B.map Bd.cells))):=⟨Nat.le_refl _,_,_,_,_,i1,i2,i3,i4,rfl⟩;have kE:=fun(b:Nat) (d' e w:Int)=>(⟨b,d',b1,b2,b3,b4,D.map Dt.cells,C.map Cl.cells,I.map It.cells,B.map Bd.cells,rfl⟩:erG L e w (EY b1 b2 b3 b4,ps L b d' (Yu b1 b2 b3 b4 (D.map Dt.cells) (C.map Cl.cells) (I.map It.cells) (B.map Bd.cells)++[iv e,iv w])))
  have kD:=fun(v:Dt) (b:Nat) (e w:Int)=>(⟨b,d,true,b2,b3,b4,D.map Dt.cells++[dtC v],C.map Cl.cells,I.map It.cells,B.map Bd.cells,rfl⟩:erG L e w (EY true b2 b3 b4,ps L b d (Yu true b2 b3 b4 (D.map Dt.cells++[dtC v]) (C.map Cl.cells) (I.map It.cells) (B.map Bd.cells)++[iv e,iv w])))
  have kC:=fun(v:Cl) (b:Nat) (e w:Int)=>(⟨b,d,b1,true,b3,b4,D.map Dt.cells,C.map Cl.cells++[clC v],I.map It.cells,B.map Bd.cells,rfl⟩:erG L e w (EY b1 true b3 b4,ps L b d (Yu b1 true b3 b4 (D.map Dt.cells) (C.map Cl.cells++[clC v]) (I.map It.cells) (B.map Bd.cells)++[iv e,iv w])))
  have kI:=fun(v:It) (b:Nat) (e w:Int)=>(⟨b,d,b1,b2,true,b4,D.map Dt.cells,C.map Cl.cells,I.map It.cells++[Zt v],B.map Bd.cells,rfl⟩:erG L e w (EY b1 b2 true b4,ps L b d (Yu b1 b2 true b4 (D.map Dt.cells) (C.map Cl.cells) (I.map It.cells++[Zt v]) (B.map Bd.cells)++[iv e,iv w])))
  have kB:=fun(v:Bd) (b:Nat) (e w:Int)=>(⟨b,d,b1,b2,b3,true,D.map Dt.cells,C.map Cl.cells,I.map It.cells,B.map Bd.cells++[fZ v],rfl⟩:erG L e w (EY b1 b2 b3 true,ps L b d (Yu b1 b2 b3 true (D.map Dt.cells) (C.map Cl.cells) (I.map It.cells) (B.map Bd.cells++[fZ v])++[iv e,iv w])))
  have aD:=fun(v:Dt) k'=>aH (P:=PG) (d:=.fail) (k:=k') ajH (PW D) (c:=dtC v) rfl (by simp) (by simp;omega) (by decide)
  have aC:=fun(v:Cl) k'=>aH (P:=PG) (d:=.fail) (k:=k') ajI (PX C) (c:=clC v) rfl (by simp) (by simp;omega) (by decide)
  have aI:=fun(v:It) k'=>aH (P:=PG) (d:=.fail) (k:=k') ajG (PU I) (c:=Zt v) rfl (by simp) (by simp;omega) (by decide)
  have aB:=fun(v:Bd) k'=>aH (P:=PG) (d:=.fail) (k:=k') qf (gL B) (c:=fZ v) rfl (by simp) (by simp;omega) (by decide)
  refine .of ?_;cases b1<;>cases b2<;>cases b3<;>cases b4
  all_goals
   (first|(obtain rfl:=i1 rfl)|skip)
   (first|(obtain rfl:=i2 rfl)|skip)
   (first|(obtain rfl:=i3 rfl)|skip)
   (first|(obtain rfl:=i4 rfl)|skip)
   simp only[FV,List.map_append,List.map_cons,List.map_nil,List.nil_append,Dt.cells,Cl.cells,It.cells,Bd.cells_eq,Yu,aiD,aiE,ps,List.cons_append] at jD jC jI jB kO kE kD kC kI kB aD aC aI aB;rw[eU.eq_2]
   (first
    |rw[FV,aeS]
    |rw[FV,aeO]
    |rw[FV,aeP]
    |rw[FV,aeI]
    |rw[FV,aeQ]
    |rw[FV,aeJ]
    |rw[FV,aeK]
    |rw[FV,aeE]
    |rw[FV,aeR]
    |rw[FV,aeL]
    |rw[FV,aeM]
    |rw[FV,aeF]
    |rw[FV,aeN]
    |rw[FV,aeG]
    |rw[FV,aeH]
    |rw[FV,aeD]
    )
   refine .kind (fun k0=>?_) (fun k0=>?_)
   ·exact .pure ha (by simp[-Int.natCast_add,eP ha,Tk.cells,k0]) kO
   ·simp[-Int.natCast_add,eP ha,Tk.cells,eq_false k0]
    simp[-Int.natCast_add,bL hW ha];refine .may (fun hd=>?_) (fun hd=>?_)
    ·have hl1:=ax hW hd
     simp[-Int.natCast_add,hd];refine .callW (ag6 hW m (a+1) d h0 h1 hl1) (fun v b hb hab g=>?_) (fun e w b d' g=>?_)
     ·simp[-Int.natCast_add,g]
      (first|simp only[aD v]|skip)
      refine .take (by decide) (fun hs=>?_) (fun hs=>?_)
      ·have hl2:=ax hW hs
       simp[-Int.natCast_add,aF hW hb,hs,Tk.cells];have hn:=jD v (b+1) (by omega) hl2;revert hn;generalize eU L m _ d (b+1)=r;intro hn;cases r with
       |out=>trivial
       |err e w=>obtain⟨z,g1,hz⟩:=hn;exact⟨z,by obtain⟨_,_⟩:=z;simp[-Int.natCast_add,g1],hz⟩
       |ok v2 b2=>obtain⟨hb2,z,g1,h5,hz⟩:=hn;exact⟨hb2,z,by obtain⟨_,_⟩:=z;simp[-Int.natCast_add,g1],by omega,hz⟩
      ·exact⟨_,by simp[-Int.natCast_add,aF hW hb,hs],kD v b _ _⟩
     ·exact⟨_,by simp[-Int.natCast_add,g],kE b d' _ _⟩
    ·simp[-Int.natCast_add,hd]
     simp[-Int.natCast_add,bL hW ha];refine .may (fun hd=>?_) (fun hd=>?_)
     ·have hl1:=ax hW hd
      simp[-Int.natCast_add,hd];refine .callW (acj hW m (a+1) d h0 h1 hl1) (fun v b hb hab g=>?_) (fun e w b d' g=>?_)
      ·simp[-Int.natCast_add,g]
       (first|simp only[aC v]|skip)
       refine .take (by decide) (fun hs=>?_) (fun hs=>?_)
       ·have hl2:=ax hW hs
        simp[-Int.natCast_add,aF hW hb,hs,Tk.cells];have hn:=jC v (b+1) (by omega) hl2;revert hn;generalize eU L m _ d (b+1)=r;intro hn;cases r with
        |out=>trivial
        |err e w=>obtain⟨z,g1,hz⟩:=hn;exact⟨z,by obtain⟨_,_⟩:=z;simp[-Int.natCast_add,g1],hz⟩
        |ok v2 b2=>obtain⟨hb2,z,g1,h5,hz⟩:=hn;exact⟨hb2,z,by obtain⟨_,_⟩:=z;simp[-Int.natCast_add,g1],by omega,hz⟩
       ·exact⟨_,by simp[-Int.natCast_add,aF hW hb,hs],kC v b _ _⟩
      ·exact⟨_,by simp[-Int.natCast_add,g],kE b d' _ _⟩
     ·simp[-Int.natCast_add,hd]
      simp[-Int.natCast_add,bL hW ha];refine .may (fun hd=>?_) (fun hd=>?_)
      ·have hl1:=ax hW hd
       simp[-Int.natCast_add,hd];refine .callW (ag5 hW m (a+1) d h0 h1 hl1) (fun v b hb hab g=>?_) (fun e w b d' g=>?_)
       ·simp[-Int.natCast_add,g]
        (first|simp only[aI v]|skip)
        refine .take (by decide) (fun hs=>?_) (fun hs=>?_)
        ·have hl2:=ax hW hs
         simp[-Int.natCast_add,aF hW hb,hs,Tk.cells];have hn:=jI v (b+1) (by omega) hl2;revert hn;generalize eU L m _ d (b+1)=r;intro hn;cases r with
         |out=>trivial
         |err e w=>obtain⟨z,g1,hz⟩:=hn;exact⟨z,by obtain⟨_,_⟩:=z;simp[-Int.natCast_add,g1],hz⟩
         |ok v2 b2=>obtain⟨hb2,z,g1,h5,hz⟩:=hn;exact⟨hb2,z,by obtain⟨_,_⟩:=z;simp[-Int.natCast_add,g1],by omega,hz⟩
        ·exact⟨_,by simp[-Int.natCast_add,aF hW hb,hs],kI v b _ _⟩
       ·exact⟨_,by simp[-Int.natCast_add,g],kE b d' _ _⟩
      ·simp[-Int.natCast_add,hd]
       refine .take (by decide) (fun hd=>?_) (fun hd=>?_)
       ·have hl1:=ax hW hd
        simp[-Int.natCast_add,aF hW ha,hd,Tk.cells];refine .callW (yZ hW m (a+1) d h0 h1 hl1) (fun v b hb hab g=>?_) (fun e w b d' g=>?_)
        ·simp[-Int.natCast_add,g]
         (first|simp only[aB v]|skip)
         refine .take (by decide) (fun hs=>?_) (fun hs=>?_)
         ·have hl2:=ax hW hs
          simp[-Int.natCast_add,aF hW hb,hs,Tk.cells];have hn:=jB v (b+1) (by omega) hl2;revert hn;generalize eU L m _ d (b+1)=r;intro hn;cases r with
          |out=>trivial
          |err e w=>obtain⟨z,g1,hz⟩:=hn;exact⟨z,by obtain⟨_,_⟩:=z;simp[-Int.natCast_add,g1],hz⟩
          |ok v2 b2=>obtain⟨hb2,z,g1,h5,hz⟩:=hn;exact⟨hb2,z,by obtain⟨_,_⟩:=z;simp[-Int.natCast_add,g1],by omega,hz⟩
         ·exact⟨_,by simp[-Int.natCast_add,aF hW hb,hs],kB v b _ _⟩
        ·exact⟨_,by simp[-Int.natCast_add,g],kE b d' _ _⟩
       ·exact⟨_,by simp[-Int.natCast_add,aF hW ha,hd],kE a d _ _⟩
end
set_option maxRecDepth 10000
set_option maxHeartbeats 4000000
theorem ig{L:List Tk}{q qw:Q}{m:List Nat}{k b:Nat}{d:Int}{ys zs:List PV}(hw:body PG EE TT ev qw=weakM m (ev q))(h:ev q=some (k,ps L b d ys))(hk:nth 0 m k=0)(hy:dL ys=zs):ev qw=some (0,ps L b d zs):=ay.of (by
 rw[hw,h,jb,hk];simp[hy])
theorem abU{L:List Tk}{q qw:Q}{m:List Nat}{k b:Nat}{d e w:Int}(hw:body PG EE TT ev qw=weakM m (ev q))(h:ev q=some (k,ps L b d [iv e,iv w]))(hk:nth 0 m k=1):ev qw=some (1,ps L b d [iv e,iv w]):=ay.of (by
 rw[hw,h,jb,hk])
abbrev pgC(v:Pg):List PV:=[.rows (v.datas.map Dt.cells),.rows (v.classes.map Cl.cells),.rows (v.insts.map It.cells),.rows (v.binds.map Bd.cells)]
theorem mX(l:List Dt):kP (.rows (l.map Dt.cells))=.rows (l.map Dt.cells):=by
 have:kP (jq l)=jq l:=by simp
 rw[jq] at this;exact this
theorem mY(l:List Cl):kP (.rows (l.map Cl.cells))=.rows (l.map Cl.cells):=by
 have:kP (cls l)=cls l:=by simp
 rw[cls] at this;exact this
theorem mW(l:List It):kP (.rows (l.map It.cells))=.rows (l.map It.cells):=by
 have:kP (its l)=its l:=by simp
 rw[its] at this;exact this
theorem EI{α β:Type}{p:GM α}{k:α→GM β}{d:Int}{a b:Nat}{v:β}(h:aA p k d a=.ok v b):∃x c,k x d c=.ok v b:=by
 unfold aA at h;cases hp:p d a with
 |out=>rw[hp] at h;cases h
 |err e w=>rw[hp] at h;cases h
 |ok x c=>rw[hp] at h;exact⟨x,c,h⟩
theorem K9(L:List Tk):∀(m:Nat) (p:Pg) (d:Int) (a b:Nat) (v:Pg),eU L m p d a=.ok v b→(ai L b).kind=0
 |0,p,d,a,b,v,h=>by rw[eU] at h;cases h
 |m+1,p,d,a,b,v,h=>by
  rw[eU] at h;unfold kz at h;split at h
  ·cases h;assumption
  ·have key:∀{α:Type} (q:GM α) (x:ByteArray) (f:α→Pg) (c:Nat),aA q (fun x'=>aA (aY L 7 x) fun _=>eU L m (f x')) d c=.ok v b→(ai L b).kind=0:=fun q x f c h=>by
    obtain⟨y,c1,h⟩:=EI h;obtain⟨z,c2,h⟩:=EI h;exact K9 L m _ d c2 b v h
   unfold dV at h;split at h
   ·exact key _ _ _ _ h
   ·split at h
    ·exact key _ _ _ _ h
    ·split at h
     ·exact key _ _ _ _ h
     ·obtain⟨y,c1,h⟩:=EI h
      exact key _ _ _ _ h
section
variable{L:List Tk}(hW:Gg L)
include hW
abbrev pPr(L:List Tk)(a:Nat)(d:Int):Q:=Rh (aU L) (iv a) (iv d)
theorem WE(m a:Nat)(d:Int)(h0:0≤d)(h1:d≤300)(ha:a<L.length):lI L (pPr L a d) (eU L m (Lu [] [] [] []) d a) (fun v b z=>z=(0,ps L b d (pgC v))) (Vz L 1):=by
 have hn:=ace hW m false false false false [] [] [] [] a d (fun _=>rfl) (fun _=>rfl) (fun _=>rfl) (fun _=>rfl) (by simp) h0 h1 ha;have hw:=al0 ev (aU L) (iv a) (iv d);revert hn;generalize eU L m (Lu [] [] [] []) d a=r;intro hn;cases r with
 |out=>trivial
 |err e w=>
  obtain⟨z,g,b,d',b1,b2,b3,b4,T,U,V,W,rfl⟩:=hn;simp only[FV] at g;refine⟨_,abU (k:=16) (b:=b) (d:=d') (e:=e) (w:=w) hw (ay.of ?_) rfl,b,d',rfl⟩;rw[tN];cases b1<;>cases b2<;>cases b3<;>cases b4
  all_goals
   simp only[Yu,aiD,aiE,ps,List.cons_append,List.nil_append] at g;simp[g]
 |ok v b=>
  obtain⟨hb,z,g,hab,b1,b2,b3,b4,i1,i2,i3,i4,rfl⟩:=hn;simp only[FV] at g;refine⟨hb,_,?_,rfl⟩;cases b1<;>cases b2<;>cases b3<;>cases b4
  all_goals
   simp only[Yu,aiD,aiE,ps,List.cons_append,List.nil_append] at g
  ·exact ig (k:=0) (ys:=[nS,nS,nS,nS]) hw (ay.of (by rw[tN];simp[g])) rfl (by simp[mX,mY,mW,iE,i1 rfl,i2 rfl,i3 rfl,i4 rfl])
  ·exact ig (k:=1) (ys:=[nS,nS,nS,.rows (v.binds.map Bd.cells)]) hw (ay.of (by rw[tN];simp[g])) rfl (by simp[mX,mY,mW,iE,i1 rfl,i2 rfl,i3 rfl])
  ·exact ig (k:=2) (ys:=[nS,nS,.rows (v.insts.map It.cells),nS]) hw (ay.of (by rw[tN];simp[g])) rfl (by simp[mX,mY,mW,iE,i1 rfl,i2 rfl,i4 rfl])
  ·exact ig (k:=3) (ys:=[nS,nS,.rows (v.insts.map It.cells),.rows (v.binds.map Bd.cells)]) hw (ay.of (by rw[tN];simp[g])) rfl (by simp[mX,mY,mW,iE,i1 rfl,i2 rfl])
  ·exact ig (k:=4) (ys:=[nS,.rows (v.classes.map Cl.cells),nS,nS]) hw (ay.of (by rw[tN];simp[g])) rfl (by simp[mX,mY,mW,iE,i1 rfl,i3 rfl,i4 rfl])
  ·exact ig (k:=5) (ys:=[nS,.rows (v.classes.map Cl.cells),nS,.rows (v.binds.map Bd.cells)]) hw (ay.of (by rw[tN];simp[g])) rfl (by simp[mX,mY,mW,iE,i1 rfl,i3 rfl])
  ·exact ig (k:=6) (ys:=[nS,.rows (v.classes.map Cl.cells),.rows (v.insts.map It.cells),nS]) hw (ay.of (by rw[tN];simp[g])) rfl (by simp[mX,mY,mW,iE,i1 rfl,i4 rfl])
  ·exact ig (k:=7) (ys:=[nS,.rows (v.classes.map Cl.cells),.rows (v.insts.map It.cells),.rows (v.binds.map Bd.cells)]) hw (ay.of (by rw[tN];simp[g])) rfl (by simp[mX,mY,mW,iE,i1 rfl])
  ·exact ig (k:=8) (ys:=[.rows (v.datas.map Dt.cells),nS,nS,nS]) hw (ay.of (by rw[tN];simp[g])) rfl (by simp[mX,mY,mW,iE,i2 rfl,i3 rfl,i4 rfl])
  ·exact ig (k:=9) (ys:=[.rows (v.datas.map Dt.cells),nS,nS,.rows (v.binds.map Bd.cells)]) hw (ay.of (by rw[tN];simp[g])) rfl (by simp[mX,mY,mW,iE,i2 rfl,i3 rfl])
  ·exact ig (k:=10) (ys:=[.rows (v.datas.map Dt.cells),nS,.rows (v.insts.map It.cells),nS]) hw (ay.of (by rw[tN];simp[g])) rfl (by simp[mX,mY,mW,iE,i2 rfl,i4 rfl])
  ·exact ig (k:=11) (ys:=[.rows (v.datas.map Dt.cells),nS,.rows (v.insts.map It.cells),.rows (v.binds.map Bd.cells)]) hw (ay.of (by rw[tN];simp[g])) rfl (by simp[mX,mY,mW,iE,i2 rfl])
  ·exact ig (k:=12) (ys:=[.rows (v.datas.map Dt.cells),.rows (v.classes.map Cl.cells),nS,nS]) hw (ay.of (by rw[tN];simp[g])) rfl (by simp[mX,mY,mW,iE,i3 rfl,i4 rfl])
  ·exact ig (k:=13) (ys:=[.rows (v.datas.map Dt.cells),.rows (v.classes.map Cl.cells),nS,.rows (v.binds.map Bd.cells)]) hw (ay.of (by rw[tN];simp[g])) rfl (by simp[mX,mY,mW,iE,i3 rfl])
  ·exact ig (k:=14) (ys:=[.rows (v.datas.map Dt.cells),.rows (v.classes.map Cl.cells),.rows (v.insts.map It.cells),nS]) hw (ay.of (by rw[tN];simp[g])) rfl (by simp[mX,mY,mW,iE,i4 rfl])
  ·exact ig (k:=15) (ys:=[.rows (v.datas.map Dt.cells),.rows (v.classes.map Cl.cells),.rows (v.insts.map It.cells),.rows (v.binds.map Bd.cells)]) hw (ay.of (by rw[tN];simp[g])) rfl (by simp[mX,mY,mW,iE])
end
set_option maxRecDepth 10000
theorem WA{b:ByteArray}:Ov (Lx.scanP b)=false:=by
 cases h:Lx.scanP b with
 |error p=>rfl
 |ok ts=>
  cases ts with
  |cons t l=>rfl
  |nil=>
   exfalso;have h2:jP b=.ok []:=by unfold jP;rw[h];rfl
   exact absurd (xB h2).2.2.pos (by simp)
theorem agZ(b:ByteArray)(hb:b.size≤1000000):ev (q42 (sv b))=some (0,match jP b with
  |.ok L=>[aU L,iv 0,iv 0]
  |.error (c,p)=>[nS,iv c,iv (p:Nat)]):=by
 refine ay.of ?_;rw[h42];have e:Wy [sv b]=some (0,[(oG (Lx.scanP b)).1,iv (oG (Lx.scanP b)).2.1,iv (oG (Lx.scanP b)).2.2]):=by
  show (if b.size≤1000000∧Ov (Lx.scanP b)=false then _ else none)=_;rw[if_pos ⟨hb,WA⟩]
 rw[e];unfold jP;cases h:Lx.scanP b with
 |error p=>rfl
 |ok ts=>rfl
def PPr(b:ByteArray)(r:Rz Pg):Prop:=match r with
 |.out=>True
 |.ok v _=>ev (q10 (sv b))=some (0,pgC v++[iv 0,iv 0])
 |.err e w=>ev (q10 (sv b))=some (0,[nS,nS,nS,nS,iv e,iv w])
theorem RY(b:ByteArray)(hb:b.size≤1000000):match jP b with
  |.error (c,p)=>PPr b (.err c p)
  |.ok L=>∀m,PPr b (eU L m ⟨⟨[],[],[]⟩,[]⟩ 0 0):=by
 have hs:=agZ b hb;cases ht:jP b with
 |error p=>
  obtain⟨c,p⟩:=p;rw[ht] at hs;have hc:=yX ht;have hw:ev (acM (sv b))=some (0,[nS,nS,nS,nS,iv c,iv (p:Nat)]):=ay.of (by rw[ais];simp[hs,hc]);exact ay.of (by rw[h10];simp[hw])
 |ok L=>
  rw[ht] at hs;obtain⟨hz,hl,hW⟩:=xB ht;intro m;have hn:=WE hW m 0 0 (by decide) (by decide) hW.pos;have he:∀v b',eU L m (Lu [] [] [] []) 0 0=.ok v b'→_:=fun v b'=>K9 L m _ 0 0 b' v
  revert hn he;show lI L (pPr L 0 0) (eU L m (Lu [] [] [] []) 0 0) _ _→_→PPr b (eU L m (Lu [] [] [] []) 0 0);generalize eU L m (Lu [] [] [] []) 0 0=r;intro hn he;cases r with
  |out=>trivial
  |err e w=>
   obtain⟨z,g,b',d',rfl⟩:=hn;have g:ev (Rh (aU L) (iv 0) (iv 0))=_:=g;have hw:ev (acM (sv b))=some (0,[nS,nS,nS,nS,iv e,iv w]):=ay.of (by rw[ais];simp[hs,g]);exact ay.of (by rw[h10];simp[hw])
  |ok v b'=>
   obtain⟨hb',z,g,rfl⟩:=hn;have g:ev (Rh (aU L) (iv 0) (iv 0))=_:=g;have hk:=cu hW hb' 0 (iv 0);rw[if_pos (he v b' rfl)] at hk;have hw:ev (acM (sv b))=some (0,pgC v++[iv 0,iv 0]):=ay.of (by rw[ais];simp[-Int.natCast_add,hs,g,hk,Tk.cells]);exact ay.of (by rw[h10];simp[hw])
end Go.Proofs.YtijcobeebaceoaaGreatDoor
