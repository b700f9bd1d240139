/- Joined texts. -/
import Derived.Test.YtkamjbmjjhbjcaaGreatDoorBu
import Derived.Test.YtkamjbmjjhbjcaaGreatDoorBv
import Derived.Test.YtkamjbmjjhbjcaaGreatDoorBw
import Derived.Test.YtkamjbmjjhbjcaaGreatDoorBx
import Derived.Test.YtkamjbmjjhbjcaaGreatDoorBz
import Derived.Test.YtkamjbmjjhbjcaaGreatDoorSq1
import Derived.Test.YtkamjbmjjhbjcaaGreatDoorBt
import Derived.Test.YtkamjbmjjhbjcaaGreatDoorBf
set_option linter.unusedVariables false
set_option linter.unusedSimpArgs false
set_option linter.unusedSectionVars false
namespace Go.Proofs.YtkamjbmjjhbjcaaGreatDoor
open Go.RowKit
theorem num_ev{α:Type}(l:List α)(q:Nat→Int→Q)(fin:Int→Rs)(hl:l.length≤2000000)
  (hs:∀(i j:Nat) (x:α) (s:Int),IntKind.i64.wrap ((i:Int)+1)=(j:Int)→l[i]? = some x→x∈l→(i:Int)<(l.length:Int)→(∃s',body PG EE TT ev (q i s)=.ok (fin s'))∨∃s',body PG EE TT ev (q i s)=passK (ev (q j s')))
  (he:∀s,body PG EE TT ev (q l.length s)=.ok (fin s)) (s:Int):∃s',ev (q 0 s)=some (fin s'):=by
 have key:∀(m i:Nat) (s:Int),i+m=l.length→∃s',ev (q i s)=some (fin s'):=by
  intro m
  induction m with
  |zero=>
   intro i s hi
   rw[Nat.add_zero] at hi
   subst hi
   exact⟨s,Evl.of (he s)⟩
  |succ m ih=>
   intro i s hi
   have hlt:i<l.length:=by omega
   obtain⟨j,hj⟩:∃j,j=i+1:=⟨_,rfl⟩
   rcases hs i j l[i] s (wone hj (by omega)) (List.getElem?_eq_getElem hlt) (List.getElem_mem hlt) (by omega) with⟨s',h⟩|⟨s',h⟩
   ·exact⟨s',Evl.of h⟩
   ·obtain⟨r,hr⟩:=ih j s' (by omega)
    refine⟨r,Evl.of ?_⟩
    rw[h,hr]
    rfl
 exact key l.length 0 s (by omega)
def CntE(x:Ex):Prop:=∀most:Int,∃c:Int,ev (q24 (iv x.kind) (sv x.name) (iv x.n) (iv x.t.kind) (sv x.t.name) (iv x.t.n) (tys x.t.kids) (exs x.kids) (als x.alts) (bds x.binds) (iv x.at_) (iv most))=some (0,[iv c])
theorem cnt_x:∀(n:Nat) (x:Ex),x.size≤n→n≤2000000→CntE x:=by
 intro n
 induction n with
 |zero=>intro x h _;have:=x.size_pos;omega
 |succ n ih=>
  intro x h hn most
  obtain⟨hl1,hl2,hl3,hs,hts⟩:=x.len_ok (by omega)
  have c0:∀s,∃s',ev (q24b0a (iv 0) (iv s) (iv most) (iv x.kind) (sv x.name) (iv x.n) (iv x.t.kind) (sv x.t.name) (iv x.t.n) (tys x.t.kids) (exs x.kids) (als x.alts) (bds x.binds) (iv x.at_))=some (0,[iv x.kind,sv x.name,iv x.n,iv x.t.kind,sv x.t.name,iv x.t.n,tys x.t.kids,exs x.kids,als x.alts,bds x.binds,iv x.at_,iv s',iv most]):=fun s=>
   num_ev x.kids (fun i s=>q24b0a (iv (i:Int)) (iv s) (iv most) (iv x.kind) (sv x.name) (iv x.n) (iv x.t.kind) (sv x.t.name) (iv x.t.n) (tys x.t.kids) (exs x.kids) (als x.alts) (bds x.binds) (iv x.at_)) (fun s=>(0,[iv x.kind,sv x.name,iv x.n,iv x.t.kind,sv x.t.name,iv x.t.n,tys x.t.kids,exs x.kids,als x.alts,bds x.binds,iv x.at_,iv s,iv most])) hl1 (fun i j y s e0 hx hm hi=>by
    by_cases c:s<most
    ·obtain⟨r,hr⟩:=ih y (by have:=Ex.kid_size hm;omega) (by omega) (IntKind.i64.wrap (most-s))
     refine .inr ⟨IntKind.i64.wrap (s+r),?_⟩
     rw[h24b0a,g24b0a]
     simp[hi,c,idxK_exs hx,hr,e0]
    ·refine .inl ⟨s,?_⟩
     rw[h24b0a,g24b0a]
     simp[hi,c]) (fun s=>by
    rw[h24b0a,g24b0a]
    simp) s
  have c2:∀s,∃s',ev (q24b2a (iv 0) (iv s) (iv most) (iv x.kind) (sv x.name) (iv x.n) (iv x.t.kind) (sv x.t.name) (iv x.t.n) (tys x.t.kids) (exs x.kids) (als x.alts) (bds x.binds) (iv x.at_))=some (0,[iv x.kind,sv x.name,iv x.n,iv x.t.kind,sv x.t.name,iv x.t.n,tys x.t.kids,exs x.kids,als x.alts,bds x.binds,iv x.at_,iv s',iv most]):=fun s=>
   num_ev x.binds (fun i s=>q24b2a (iv (i:Int)) (iv s) (iv most) (iv x.kind) (sv x.name) (iv x.n) (iv x.t.kind) (sv x.t.name) (iv x.t.n) (tys x.t.kids) (exs x.kids) (als x.alts) (bds x.binds) (iv x.at_)) (fun s=>(0,[iv x.kind,sv x.name,iv x.n,iv x.t.kind,sv x.t.name,iv x.t.n,tys x.t.kids,exs x.kids,als x.alts,bds x.binds,iv x.at_,iv s,iv most])) hl3 (fun i j y s e0 hx hm hi=>by
    by_cases c:s<most
    ·obtain⟨r,hr⟩:=ih y.e (by have:=Ex.bind_size hm;omega) (by omega) (IntKind.i64.wrap (most-s))
     refine .inr ⟨IntKind.i64.wrap (s+IntKind.i64.wrap (1+r)),?_⟩
     rw[h24b2a,g24b2a]
     simp[hi,c,idxK_bds hx,hr,e0]
    ·refine .inl ⟨s,?_⟩
     rw[h24b2a,g24b2a]
     simp[hi,c]) (fun s=>by
    rw[h24b2a,g24b2a]
    simp) s
  have c4:∀s,∃s',ev (q24b4a (iv 0) (iv s) (iv most) (iv x.kind) (sv x.name) (iv x.n) (iv x.t.kind) (sv x.t.name) (iv x.t.n) (tys x.t.kids) (exs x.kids) (als x.alts) (bds x.binds) (iv x.at_))=some (0,[iv x.kind,sv x.name,iv x.n,iv x.t.kind,sv x.t.name,iv x.t.n,tys x.t.kids,exs x.kids,als x.alts,bds x.binds,iv x.at_,iv s']):=fun s=>
   num_ev x.alts (fun i s=>q24b4a (iv (i:Int)) (iv s) (iv most) (iv x.kind) (sv x.name) (iv x.n) (iv x.t.kind) (sv x.t.name) (iv x.t.n) (tys x.t.kids) (exs x.kids) (als x.alts) (bds x.binds) (iv x.at_)) (fun s=>(0,[iv x.kind,sv x.name,iv x.n,iv x.t.kind,sv x.t.name,iv x.t.n,tys x.t.kids,exs x.kids,als x.alts,bds x.binds,iv x.at_,iv s])) hl2 (fun i j y s e0 hx hm hi=>by
    by_cases c:s<most
    ·obtain⟨r,hr⟩:=ih y.e (by have:=Ex.alt_size hm;omega) (by omega) (IntKind.i64.wrap (most-s))
     refine .inr ⟨IntKind.i64.wrap (s+IntKind.i64.wrap (IntKind.i64.wrap (1+r)+(y.p.kids.length:Int))),?_⟩
     rw[h24b4a,g24b4a]
     simp[hi,c,idxK_als hx,hr,e0]
    ·refine .inl ⟨s,?_⟩
     rw[h24b4a,g24b4a]
     simp[hi,c]) (fun s=>by
    rw[h24b4a,g24b4a]
    simp) s
  obtain⟨r0,h0⟩:=c0 (IntKind.i64.wrap (1+(x.t.kids.length:Int)))
  obtain⟨r2,h2⟩:=c2 r0
  obtain⟨r4,h4⟩:=c4 r2
  refine⟨r4,Evl.of ?_⟩
  rw[h24,g24]
  simp[h0,h2,h4]
theorem small_x(x:Ex)(hz:x.size≤2000000)(most:Int):∃b:Bool,ev (q7 (iv x.kind) (sv x.name) (iv x.n) (iv x.t.kind) (sv x.t.name) (iv x.t.n) (tys x.t.kids) (exs x.kids) (als x.alts) (bds x.binds) (iv x.at_) (iv most))=some (0,[bv b]):=by
 obtain⟨c,hc⟩:=cnt_x 2000000 x hz (Nat.le_refl _) (IntKind.i64.wrap (most+1))
 by_cases h:c≤most
 ·exact⟨true,Evl.of (by rw[h7,g7];simp[hc,h])⟩
 ·exact⟨false,Evl.of (by rw[h7,g7];simp[hc,h])⟩
def expT(x:Ex):ByteArray:=if 300<(part (pr false x)).2 then(part (pr true x)).1 else(part (pr false x)).1
theorem pexp_x(x:Ex)(hg:x.good=true)(hz:x.size≤1100000):ev (q37 (iv x.kind) (sv x.name) (iv x.n) (iv x.t.kind) (sv x.t.name) (iv x.t.n) (tys x.t.kids) (exs x.kids) (als x.alts) (bds x.binds) (iv x.at_))=some (0,[sv (expT x)]):=by
 have h1:=(spa 1100000 x hz (Nat.le_refl _) hg).part
 have h2:=(spb 1100000 x hz (Nat.le_refl _) hg).part
 unfold expT
 generalize part (pr false x)=A at *
 generalize part (pr true x)=B at *
 refine Evl.of ?_
 rw[h37,g37]
 by_cases c:300<A.2
 ·have c2:(300:Int)<(A.2:Int):=by omega
  simp[h1,h2,c,c2]
 ·have c2:¬(300:Int)<(A.2:Int):=by omega
  simp[h1,c,c2]
theorem rexp_x(x:Ex)(hg:x.good=true)(hz:x.size≤1100000):ev (q11 (iv x.kind) (sv x.name) (iv x.n) (iv x.t.kind) (sv x.t.name) (iv x.t.n) (tys x.t.kids) (exs x.kids) (als x.alts) (bds x.binds) (iv x.at_))=some (0,[sv (expT x)]):=by
 have hs:okS eB 0 0 x.size:=⟨by have:eB.size=0:=rfl;omega,by omega,Nat.le_refl _,by omega⟩
 have h1:ev (q38a (iv x.kind) (sv x.name) (iv x.n) (iv x.t.kind) (sv x.t.name) (iv x.t.n) (tys x.t.kids) (exs x.kids) (als x.alts) (bds x.binds) (iv x.at_) (sv eB) (iv 0) (iv 0))=_:=(sra 1100000 x hz (Nat.le_refl _) hg).part eB 0 0 hs
 have h2:ev (q38b (iv x.kind) (sv x.name) (iv x.n) (iv x.t.kind) (sv x.t.name) (iv x.t.n) (tys x.t.kids) (exs x.kids) (als x.alts) (bds x.binds) (iv x.at_) (sv eB) (iv 0) (iv 0))=_:=(srb 1100000 x hz (Nat.le_refl _) hg).part eB 0 0 hs
 unfold expT
 generalize part (pr false x)=A at *
 generalize part (pr true x)=B at *
 have e1:rs bf eB 0 0 A=[sv A.1,iv 0,iv (A.2:Int),bf]:=by
  unfold rs pt
  rw[if_pos rfl]
  have:max 0 (0+A.2)=A.2:=by omega
  rw[this];rfl
 have e2:rs bt eB 0 0 B=[sv B.1,iv 0,iv (B.2:Int),bt]:=by
  unfold rs pt
  rw[if_pos rfl]
  have:max 0 (0+B.2)=B.2:=by omega
  rw[this];rfl
 rw[e1] at h1
 rw[e2] at h2
 refine Evl.of ?_
 rw[h11,g11]
 by_cases c:300<A.2
 ·have c2:(300:Int)<(A.2:Int):=by omega
  simp[h1,h2,c,c2]
 ·have c2:¬(300:Int)<(A.2:Int):=by omega
  simp[h1,c,c2]
abbrev sDat:ByteArray:=⟨#[100,97,116,97,32]⟩
abbrev sDt0:ByteArray:=⟨#[100,97,116,97]⟩
abbrev sEqs:ByteArray:=⟨#[32,61,32]⟩
abbrev sBar:ByteArray:=⟨#[32,124,32]⟩
abbrev sDer:ByteArray:=⟨#[32,100,101,114,105,118,105,110,103,32,40,32]⟩
abbrev sCom:ByteArray:=⟨#[32,44,32]⟩
abbrev sSc:ByteArray:=⟨#[32,59]⟩
abbrev sScn:ByteArray:=⟨#[32,59,10]⟩
abbrev sNl:ByteArray:=⟨#[10]⟩
abbrev sCls:ByteArray:=⟨#[99,108,97,115,115,32]⟩
abbrev sFrm:ByteArray:=⟨#[32,102,114,111,109,32]⟩
abbrev sWh:ByteArray:=⟨#[32,119,104,101,114,101]⟩
abbrev sWhr:ByteArray:=⟨#[32,119,104,101,114,101,32]⟩
abbrev sEnd:ByteArray:=⟨#[32,101,110,100,32,59]⟩
abbrev sEndr:ByteArray:=⟨#[101,110,100,32,59,10]⟩
abbrev sCol:ByteArray:=⟨#[32,58,32]⟩
abbrev sScs:ByteArray:=⟨#[32,59,32]⟩
abbrev sIns:ByteArray:=⟨#[105,110,115,116,97,110,99,101,32]⟩
abbrev sDef:ByteArray:=⟨#[100,101,102,32]⟩
theorem z_sDat:sDat.size=5:=rfl
theorem z_sDt0:sDt0.size=4:=rfl
theorem z_sEqs:sEqs.size=3:=rfl
theorem z_sBar:sBar.size=3:=rfl
theorem z_sDer:sDer.size=12:=rfl
theorem z_sCom:sCom.size=3:=rfl
theorem z_sSc:sSc.size=2:=rfl
theorem z_sScn:sScn.size=3:=rfl
theorem z_sNl:sNl.size=1:=rfl
theorem z_sCls:sCls.size=6:=rfl
theorem z_sFrm:sFrm.size=6:=rfl
theorem z_sWh:sWh.size=6:=rfl
theorem z_sWhr:sWhr.size=7:=rfl
theorem z_sEnd:sEnd.size=6:=rfl
theorem z_sEndr:sEndr.size=6:=rfl
theorem z_sCol:sCol.size=3:=rfl
theorem z_sScs:sScs.size=3:=rfl
theorem z_sIns:sIns.size=9:=rfl
theorem z_sDef:sDef.size=4:=rfl
theorem z_sSp:sSp.size=1:=rfl
theorem z_sRb:sRb.size=2:=rfl
theorem z_eB:eB.size=0:=rfl
def Cn.good(x:Cn):Bool:=Lx.isUpB x.name&&x.args.all Ty.good
def Dt.good(x:Dt):Bool:=Lx.isUpB x.name&&(x.params.all Lx.isLowB&&(decide (0<x.cons.length)&&(x.cons.all Cn.good&&x.deriv.all Lx.isUpB)))
def Md.good(x:Md):Bool:=nameB x.name&&x.t.good
def Cl.good(x:Cl):Bool:=Lx.isUpB x.name&&(Lx.isLowB x.var&&(x.supers.all Lx.isUpB&&(x.methods.all Md.good&&x.defaults.all Bd.good)))
def Pd.good(x:Pd):Bool:=Lx.isUpB x.cls&&(decide (x.t.kind=1)&&x.t.good)
def It.good(x:It):Bool:=Lx.isUpB x.cls&&(x.head.good&&(x.ctx.all Pd.good&&x.binds.all Bd.good))
def progGood(a:List Dt)(b:List Cl)(c:List It)(d:List Bd):Bool:=a.all Dt.good&&(b.all Cl.good&&(c.all It.good&&d.all Bd.good))
def lsi(a b:ByteArray):List ByteArray→Nat→ByteArray
 |[],_=>eB
 |x::l,i=>((if i=0 then a else b)++x)++lsi a b l (i+1)
def pre{α:Type}(f:α→ByteArray):List α→ByteArray
 |[]=>eB
 |x::l=>(sSp++f x)++pre f l
def post{α:Type}(f:α→ByteArray):List α→ByteArray
 |[]=>eB
 |x::l=>(f x++sSp)++post f l
def lns{α:Type}(f:α→ByteArray):List α→ByteArray
 |[]=>eB
 |x::l=>(f x++sNl)++lns f l
theorem app_eB(a:ByteArray):a++eB=a:=ByteArray.append_empty
theorem eB_app(a:ByteArray):eB++a=a:=ByteArray.empty_append
theorem lsi_succ(a b:ByteArray):∀(l:List ByteArray) (i j:Nat),lsi a b l (i+1)=lsi sSp b l (j+1)
 |[],i,j=>rfl
 |x::l,i,j=>by rw[lsi,lsi,lsi_succ a b l (i+1) (j+1),if_neg (by omega),if_neg (by omega)]
theorem join_lsi(s:ByteArray):∀(x:ByteArray) (l:List ByteArray),joinB (x::l) s=x++lsi sSp s l 1
 |x,[]=>by rw[joinB,lsi,app_eB]
 |x,y::l=>by rw[joinB,join_lsi s y l,lsi,if_neg (by omega),lsi_succ sSp s l 1 0,ByteArray.append_assoc]
theorem lsi_join(a b x:ByteArray)(l:List ByteArray):lsi a b (x::l) 0=a++joinB (x::l) b:=by
 rw[lsi,join_lsi,if_pos rfl,lsi_succ a b l 0 0,ByteArray.append_assoc]
theorem shift{α:Type}(f:α→ByteArray):∀l:List α,sSp++post f l=pre f l++sSp
 |[]=>by rw[post,pre,app_eB,eB_app]
 |x::l=>by rw[post,pre,ByteArray.append_assoc,shift f l,ByteArray.append_assoc,ByteArray.append_assoc]
def bindT(b:Bd):ByteArray:=(((sDef++nmB b.name)++sEqs)++expT b.e)++sSc
def conT(c:Cn):ByteArray:=c.name++Ty.txts c.args
def mthT(m:Md):ByteArray:=((nmB m.name++sCol)++m.t.txt)++sSc
def ctxT(p:Pd):ByteArray:=(p.cls++sSp)++p.t.name
def derT(l:List ByteArray):ByteArray:=if l.length=0 then eB else lsi sDer sCom l 0++sRb
def dataT(d:Dt):ByteArray:=sDat++(d.name++(lsi sSp sSp d.params 0++(lsi sEqs sBar (d.cons.map conT) 0++(derT d.deriv++sSc))))
def classT(c:Cl):ByteArray:=sCls++(c.name++(sSp++(c.var++(lsi sFrm sCom c.supers 0++(sWh++(pre mthT c.methods++(pre bindT c.defaults++sEnd)))))))
def instT(x:It):ByteArray:=sIns++(x.cls++(sSp++(x.head.atx++(lsi sFrm sCom (x.ctx.map ctxT) 0++(sWh++(pre bindT x.binds++sEnd))))))
def progT(a:List Dt)(b:List Cl)(c:List It)(d:List Bd):ByteArray:=((lns dataT a++lns classT b)++lns instT c)++lns bindT d
theorem lsi_size(a b:ByteArray)(ha:a.size≤12)(hb:b.size≤12):∀(l:List ByteArray) (i:Nat),(lsi a b l i).size≤12*szS l
 |[],i=>by rw[lsi];exact Nat.zero_le _
 |x::l,i=>by
  rw[lsi,szS,ByteArray.size_append,ByteArray.size_append]
  have:=lsi_size a b ha hb l (i+1)
  split<;>omega
theorem szS_map{α:Type}(f:α→ByteArray)(g:α→Nat)(h:∀x,(f x).size+1≤g x):∀l:List α,szS (l.map f)≤(l.map g).sum
 |[]=>Nat.le_refl _
 |x::l=>by rw[List.map_cons,List.map_cons,List.sum_cons,szS];have:=szS_map f g h l;have:=h x;omega
theorem sum_mul{α:Type}(g:α→Nat)(k:Nat):∀l:List α,(l.map fun x=>k*g x).sum=k*(l.map g).sum
 |[]=>by simp
 |x::l=>by rw[List.map_cons,List.map_cons,List.sum_cons,List.sum_cons,sum_mul g k l,Nat.mul_add]
theorem szS_mem:∀{l:List ByteArray} {x:ByteArray},x∈l→x.size+1≤szS l
 |y::l,x,h=>by
  rw[szS]
  rcases List.mem_cons.1 h with h|h
  ·subst h;omega
  ·have:=szS_mem h;omega
theorem pre_size{α:Type}(f:α→ByteArray)(g:α→Nat)(k:Nat):∀l:List α,(∀x∈l,(f x).size+1≤k*g x)→(pre f l).size≤k*(l.map g).sum
 |[],_=>by rw[pre];exact Nat.zero_le _
 |x::l,h=>by
  rw[pre,ByteArray.size_append,ByteArray.size_append,z_sSp,List.map_cons,List.sum_cons,Nat.mul_add]
  have:=pre_size f g k l fun y hy=>h y (List.mem_cons_of_mem _ hy)
  have:=h x List.mem_cons_self
  omega
theorem post_size{α:Type}(f:α→ByteArray)(g:α→Nat)(k:Nat):∀l:List α,(∀x∈l,(f x).size+1≤k*g x)→(post f l).size≤k*(l.map g).sum
 |[],_=>by rw[post];exact Nat.zero_le _
 |x::l,h=>by
  rw[post,ByteArray.size_append,ByteArray.size_append,z_sSp,List.map_cons,List.sum_cons,Nat.mul_add]
  have:=post_size f g k l fun y hy=>h y (List.mem_cons_of_mem _ hy)
  have:=h x List.mem_cons_self
  omega
theorem lns_size{α:Type}(f:α→ByteArray)(g:α→Nat)(k:Nat):∀l:List α,(∀x∈l,(f x).size+1≤k*g x)→(lns f l).size≤k*(l.map g).sum
 |[],_=>by rw[lns];exact Nat.zero_le _
 |x::l,h=>by
  rw[lns,ByteArray.size_append,ByteArray.size_append,z_sNl,List.map_cons,List.sum_cons,Nat.mul_add]
  have:=lns_size f g k l fun y hy=>h y (List.mem_cons_of_mem _ hy)
  have:=h x List.mem_cons_self
  omega
theorem expT_size(x:Ex)(hg:x.good=true):(expT x).size≤64*(8*x.size+1):=by
 have h1:=part_ok false hg
 have h2:=part_ok true hg
 unfold Ok at h1 h2
 unfold expT
 split<;>omega
theorem bindT_size(b:Bd)(hg:b.good=true):(bindT b).size+1≤600*b.size:=by
 rw[b.good_eq,Bool.and_eq_true] at hg
 have h1:=expT_size b.e hg.2
 have h2:=nmB_size b.name
 have h3:=b.size_eq
 unfold bindT
 simp only[ByteArray.size_append,z_sDef,z_sEqs,z_sSc]
 omega
theorem conT_size(c:Cn):(conT c).size+1≤33*c.size:=by
 have h1:=Ty.txts_size c.args
 have h2:=c.size_eq
 unfold conT
 rw[ByteArray.size_append]
 omega
theorem mthT_size(m:Md):(mthT m).size+1≤600*m.size:=by
 have h1:=m.t.txt_size
 have h2:=nmB_size m.name
 have h3:=m.size_eq
 unfold mthT
 simp only[ByteArray.size_append,z_sCol,z_sSc]
 omega
theorem ctxT_size(p:Pd):(ctxT p).size+1≤33*p.size:=by
 have h2:=p.size_eq
 have h3:=p.t.size_eq
 unfold ctxT
 simp only[ByteArray.size_append,z_sSp]
 omega
theorem cons_size(l:List Cn):szS (l.map conT)≤33*Cn.sizes l:=by
 have:=szS_map conT (fun c=>33*c.size) conT_size l
 rw[sum_mul Cn.size 33 l,←Cn.sizes_eq] at this
 exact this
theorem ctxs_size(l:List Pd):szS (l.map ctxT)≤33*Pd.sizes l:=by
 have:=szS_map ctxT (fun c=>33*c.size) ctxT_size l
 rw[sum_mul Pd.size 33 l,←Pd.sizes_eq] at this
 exact this
theorem derT_nil:derT []=eB:=rfl
theorem derT_cons(v:ByteArray)(l:List ByteArray):derT (v::l)=lsi sDer sCom (v::l) 0++sRb:=by unfold derT;rw[if_neg (by simp)]
theorem derT_size(l:List ByteArray):(derT l).size≤12*szS l+2:=by
 unfold derT
 split
 ·exact Nat.zero_le _
 ·have:=lsi_size sDer sCom (by decide) (by decide) l 0
  rw[ByteArray.size_append,z_sRb]
  omega
theorem mths_size(l:List Md):(pre mthT l).size≤600*Md.sizes l:=by rw[Md.sizes_eq];exact pre_size _ _ _ l fun m _=>mthT_size m
theorem rmths_size(l:List Md):(post mthT l).size≤600*Md.sizes l:=by rw[Md.sizes_eq];exact post_size _ _ _ l fun m _=>mthT_size m
theorem binds_size(l:List Bd)(h:∀b∈l,b.good=true):(pre bindT l).size≤600*Bd.sizes l:=by rw[Bd.sizes_eq];exact pre_size _ _ _ l fun m hm=>bindT_size m (h m hm)
theorem rbinds_size(l:List Bd)(h:∀b∈l,b.good=true):(post bindT l).size≤600*Bd.sizes l:=by rw[Bd.sizes_eq];exact post_size _ _ _ l fun m hm=>bindT_size m (h m hm)
theorem dataT_size(d:Dt):(dataT d).size+1≤600*d.size:=by
 have h1:=lsi_size sSp sSp (by decide) (by decide) d.params 0
 have h2:=lsi_size sEqs sBar (by decide) (by decide) (d.cons.map conT) 0
 have h3:=cons_size d.cons
 have h4:=derT_size d.deriv
 have h5:=d.size_eq
 unfold dataT
 simp only[ByteArray.size_append,z_sDat,z_sSc]
 omega
theorem classT_size(c:Cl)(h:∀b∈c.defaults,b.good=true):(classT c).size+1≤600*c.size:=by
 have h1:=lsi_size sFrm sCom (by decide) (by decide) c.supers 0
 have h2:=mths_size c.methods
 have h3:=binds_size c.defaults h
 have h5:=c.size_eq
 unfold classT
 simp only[ByteArray.size_append,z_sCls,z_sSp,z_sWh,z_sEnd]
 omega
theorem atx_size(t:Ty):t.atx.size≤32*t.size:=by
 unfold Ty.atx
 have h1:=t.txt_size
 have h2:=t.size_eq
 split
 ·omega
 ·have h3:sLb.size=2:=rfl
  have h4:sRb.size=2:=rfl
  rw[ByteArray.size_append,ByteArray.size_append]
  omega
theorem instT_size(x:It)(h:∀b∈x.binds,b.good=true):(instT x).size+1≤600*x.size:=by
 have h1:=lsi_size sFrm sCom (by decide) (by decide) (x.ctx.map ctxT) 0
 have h2:=ctxs_size x.ctx
 have h3:=binds_size x.binds h
 have h4:=atx_size x.head
 have h5:=x.size_eq
 unfold instT
 simp only[ByteArray.size_append,z_sIns,z_sSp,z_sWh,z_sEnd]
 omega
theorem cat_evi{α:Type}(l:List α)(E:Nat→α→ByteArray)(T:List α→Nat→ByteArray)(hT0:∀i,T [] i=eB)(hT:∀x l i,T (x::l) i=E i x++T l (i+1))(q:Nat→ByteArray→Q)(fin:ByteArray→Rs)(B:Nat)(hl:l.length≤2000000)
  (hs:∀(i j:Nat) (x:α) (acc:ByteArray),IntKind.i64.wrap ((i:Int)+1)=(j:Int)→l[i]? = some x→x∈l→(i:Int)<(l.length:Int)→acc.size+(E i x).size≤B→body PG EE TT ev (q i acc)=passK (ev (q j (acc++E i x))))
  (he:∀acc,body PG EE TT ev (q l.length acc)=.ok (fin acc)) (s:ByteArray) (hb:s.size+(T l 0).size≤B):ev (q 0 s)=some (fin (s++T l 0)):=by
 have key:∀(m i:Nat) (acc:ByteArray),i+m=l.length→acc.size+(T (l.drop i) i).size≤B→ev (q i acc)=some (fin (acc++T (l.drop i) i)):=by
  intro m
  induction m with
  |zero=>
   intro i acc hi _
   rw[Nat.add_zero] at hi
   rw[hi,List.drop_length,hT0,app_eB]
   exact Evl.of (he acc)
  |succ m ih=>
   intro i acc hi hbd
   have hlt:i<l.length:=by omega
   obtain⟨j,hj⟩:∃j,j=i+1:=⟨_,rfl⟩
   rw[List.drop_eq_getElem_cons hlt,←hj,hT,←hj] at hbd ⊢
   rw[ByteArray.size_append] at hbd
   have h1:=hs i j l[i] acc (wone hj (by omega)) (List.getElem?_eq_getElem hlt) (List.getElem_mem hlt) (by omega) (by omega)
   have h2:=ih j (acc++E i l[i]) (by omega) (by rw[ByteArray.size_append];omega)
   refine Evl.of ?_
   rw[h1,h2,ByteArray.append_assoc]
   rfl
 simpa using key l.length 0 s (by omega) (by simpa using hb)
section
variable{t:TypeId}{s x:AV}
theorem appK_no{k:PV→Res}(h:rowsOf x=some []):appK PG .fail t s x k=.fail:=by
 unfold appK theK
 rw[dif_neg]
 rintro⟨w,⟨e,sz,by_,zc,es,es',_,_,_,_,_,_,_,k2,k3,_⟩,_⟩
 rw[h] at k2
 cases k2
 exact k3 rfl
theorem app0K_no{k:Res}{a:List PV}{l:List (List PV)}(h:rowsN x=some (a::l)):app0K PG .fail t s x k=.fail:=by
 unfold app0K
 rw[if_neg]
 rintro⟨e,sz,by_,zc,_,_,_,_,_,k⟩
 rw[h] at k
 cases k
end
theorem app0K_yes{k:Res}(l:List (List PV)):app0K PG .fail 70 (.pv (.rows l)) (.pv (.rows [])) k=k:=app0K_of (app0_ok sl_strs rfl rfl)
theorem app_strs{k:PV→Res}(l m:List ByteArray)(hm:m≠[])(hl:l.length+m.length≤4000000):appK PG .fail 70 (.pv (.rows (sL l))) (.pv (.rows (sL m))) k=k (.rows (sL (l++m))):=
 appK_of (fun w=>by
  rw[app_ok sl_strs (es:=sL l) (es':=sL m) rfl rfl (by intro h;exact hm (List.map_eq_nil_iff.1 h)) (by simp[sL]) (by simp[sL];omega) (by simp[sL];omega)]
  simp[sL]) (ns_sL _)
theorem join_g(l:List ByteArray)(s:ByteArray)(hl:l.length≤4000000)(hz:(joinB l s).size≤1000000000):ev (q97 (.rows (sL l)) (sv s))=some (0,[sv (joinB l s)]):=Evl.of (by
 rw[h97]
 have e:xJoin (.rows (sL l)) (.lit (.string s))=some (.string (joinB l s)):=by
  unfold xJoin
  simp only
  rw[show textsOf (sL l)=some l from textsOf_map l]
  simp only
  rw[if_pos ⟨by omega,by omega⟩]
 unfold extL2
 simp only
 rw[e]
 rfl)
theorem pe_low(l:List ByteArray)(hl:l.length≤2000000)(h:∀x∈l,ev (q73 (sv x))=some (0,[bv (Lx.isLowB x)])):ev (q91a (strs l))=some (0,[bv (l.all Lx.isLowB)]):=by
 have lp:ev (q91ab0a (iv 0) (iv l.length) (strs l))=some (if l.all Lx.isLowB=true then(1,[]) else(0,[bv false])):=
  all_ev l Lx.isLowB (fun i=>q91ab0a (iv (i:Int)) (iv l.length) (strs l)) _ _ hl (fun i j x e0 hx hm hi=>by
   have g:=h x hm
   show body PG EE TT ev (q91ab0a (iv (i:Int)) (iv l.length) (strs l))=_
   rw[h91ab0a,g91ab0a]
   cases hg:Lx.isLowB x<;>(rw[hg] at g;simp[hi,idxK_strs hx,g,e0])) (by
   show body PG EE TT ev (q91ab0a (iv (l.length:Int)) (iv l.length) (strs l))=_
   rw[h91ab0a,g91ab0a]
   simp)
 refine Evl.of ?_
 rw[h91a,g91a]
 cases hg:l.all Lx.isLowB<;>(rw[hg] at lp;simp[lp])
theorem pe_up(l:List ByteArray)(hl:l.length≤2000000)(h:∀x∈l,ev (q72 (sv x))=some (0,[bv (Lx.isUpB x)])):ev (q91b (strs l))=some (0,[bv (l.all Lx.isUpB)]):=by
 have lp:ev (q91bb0a (iv 0) (iv l.length) (strs l))=some (if l.all Lx.isUpB=true then(1,[]) else(0,[bv false])):=
  all_ev l Lx.isUpB (fun i=>q91bb0a (iv (i:Int)) (iv l.length) (strs l)) _ _ hl (fun i j x e0 hx hm hi=>by
   have g:=h x hm
   show body PG EE TT ev (q91bb0a (iv (i:Int)) (iv l.length) (strs l))=_
   rw[h91bb0a,g91bb0a]
   cases hg:Lx.isUpB x<;>(rw[hg] at g;simp[hi,idxK_strs hx,g,e0])) (by
   show body PG EE TT ev (q91bb0a (iv (l.length:Int)) (iv l.length) (strs l))=_
   rw[h91bb0a,g91bb0a]
   simp)
 refine Evl.of ?_
 rw[h91b,g91b]
 cases hg:l.all Lx.isUpB<;>(rw[hg] at lp;simp[lp])
theorem pe_cn(l:List Cn)(hl:l.length≤2000000)(h:∀x∈l,ev (q90 (sv x.name) (tys x.args) (iv x.at_))=some (0,[bv (Cn.good x)])):ev (q92a (cns l))=some (0,[bv (l.all Cn.good)]):=by
 have lp:ev (q92ab0a (iv 0) (iv l.length) (cns l))=some (if l.all Cn.good=true then(1,[]) else(0,[bv false])):=
  all_ev l Cn.good (fun i=>q92ab0a (iv (i:Int)) (iv l.length) (cns l)) _ _ hl (fun i j x e0 hx hm hi=>by
   have g:=h x hm
   show body PG EE TT ev (q92ab0a (iv (i:Int)) (iv l.length) (cns l))=_
   rw[h92ab0a,g92ab0a]
   cases hg:Cn.good x<;>(rw[hg] at g;simp[hi,idxK_cns hx,g,e0])) (by
   show body PG EE TT ev (q92ab0a (iv (l.length:Int)) (iv l.length) (cns l))=_
   rw[h92ab0a,g92ab0a]
   simp)
 refine Evl.of ?_
 rw[h92a,g92a]
 cases hg:l.all Cn.good<;>(rw[hg] at lp;simp[lp])
theorem pe_dt(l:List Dt)(hl:l.length≤2000000)(h:∀x∈l,ev (q49 (sv x.name) (strs x.params) (cns x.cons) (strs x.deriv) (iv x.at_))=some (0,[bv (Dt.good x)])):ev (q48a (dts l))=some (0,[bv (l.all Dt.good)]):=by
 have lp:ev (q48ab0a (iv 0) (iv l.length) (dts l))=some (if l.all Dt.good=true then(1,[]) else(0,[bv false])):=
  all_ev l Dt.good (fun i=>q48ab0a (iv (i:Int)) (iv l.length) (dts l)) _ _ hl (fun i j x e0 hx hm hi=>by
   have g:=h x hm
   show body PG EE TT ev (q48ab0a (iv (i:Int)) (iv l.length) (dts l))=_
   rw[h48ab0a,g48ab0a]
   cases hg:Dt.good x<;>(rw[hg] at g;simp[hi,idxK_dts hx,g,e0])) (by
   show body PG EE TT ev (q48ab0a (iv (l.length:Int)) (iv l.length) (dts l))=_
   rw[h48ab0a,g48ab0a]
   simp)
 refine Evl.of ?_
 rw[h48a,g48a]
 cases hg:l.all Dt.good<;>(rw[hg] at lp;simp[lp])
theorem pe_md(l:List Md)(hl:l.length≤2000000)(h:∀x∈l,ev (q93 (sv x.name) (iv x.t.kind) (sv x.t.name) (iv x.t.n) (tys x.t.kids) (iv x.at_))=some (0,[bv (Md.good x)])):ev (q94a (mds l))=some (0,[bv (l.all Md.good)]):=by
 have lp:ev (q94ab0a (iv 0) (iv l.length) (mds l))=some (if l.all Md.good=true then(1,[]) else(0,[bv false])):=
  all_ev l Md.good (fun i=>q94ab0a (iv (i:Int)) (iv l.length) (mds l)) _ _ hl (fun i j x e0 hx hm hi=>by
   have g:=h x hm
   show body PG EE TT ev (q94ab0a (iv (i:Int)) (iv l.length) (mds l))=_
   rw[h94ab0a,g94ab0a]
   cases hg:Md.good x<;>(rw[hg] at g;simp[hi,idxK_mds hx,g,e0])) (by
   show body PG EE TT ev (q94ab0a (iv (l.length:Int)) (iv l.length) (mds l))=_
   rw[h94ab0a,g94ab0a]
   simp)
 refine Evl.of ?_
 rw[h94a,g94a]
 cases hg:l.all Md.good<;>(rw[hg] at lp;simp[lp])
theorem pe_cl(l:List Cl)(hl:l.length≤2000000)(h:∀x∈l,ev (q51 (sv x.name) (sv x.var) (strs x.supers) (mds x.methods) (bds x.defaults) (iv x.at_))=some (0,[bv (Cl.good x)])):ev (q50a (cls l))=some (0,[bv (l.all Cl.good)]):=by
 have lp:ev (q50ab0a (iv 0) (iv l.length) (cls l))=some (if l.all Cl.good=true then(1,[]) else(0,[bv false])):=
  all_ev l Cl.good (fun i=>q50ab0a (iv (i:Int)) (iv l.length) (cls l)) _ _ hl (fun i j x e0 hx hm hi=>by
   have g:=h x hm
   show body PG EE TT ev (q50ab0a (iv (i:Int)) (iv l.length) (cls l))=_
   rw[h50ab0a,g50ab0a]
   cases hg:Cl.good x<;>(rw[hg] at g;simp[hi,idxK_cls hx,g,e0])) (by
   show body PG EE TT ev (q50ab0a (iv (l.length:Int)) (iv l.length) (cls l))=_
   rw[h50ab0a,g50ab0a]
   simp)
 refine Evl.of ?_
 rw[h50a,g50a]
 cases hg:l.all Cl.good<;>(rw[hg] at lp;simp[lp])
theorem pe_pd(l:List Pd)(hl:l.length≤2000000)(h:∀x∈l,ev (q95 (sv x.cls) (iv x.t.kind) (sv x.t.name) (iv x.t.n) (tys x.t.kids))=some (0,[bv (Pd.good x)])):ev (q96a (pds l))=some (0,[bv (l.all Pd.good)]):=by
 have lp:ev (q96ab0a (iv 0) (iv l.length) (pds l))=some (if l.all Pd.good=true then(1,[]) else(0,[bv false])):=
  all_ev l Pd.good (fun i=>q96ab0a (iv (i:Int)) (iv l.length) (pds l)) _ _ hl (fun i j x e0 hx hm hi=>by
   have g:=h x hm
   show body PG EE TT ev (q96ab0a (iv (i:Int)) (iv l.length) (pds l))=_
   rw[h96ab0a,g96ab0a]
   cases hg:Pd.good x<;>(rw[hg] at g;simp[hi,idxK_pds hx,g,e0])) (by
   show body PG EE TT ev (q96ab0a (iv (l.length:Int)) (iv l.length) (pds l))=_
   rw[h96ab0a,g96ab0a]
   simp)
 refine Evl.of ?_
 rw[h96a,g96a]
 cases hg:l.all Pd.good<;>(rw[hg] at lp;simp[lp])
theorem pe_it(l:List It)(hl:l.length≤2000000)(h:∀x∈l,ev (q53 (sv x.cls) (iv x.head.kind) (sv x.head.name) (iv x.head.n) (tys x.head.kids) (pds x.ctx) (bds x.binds) (iv x.at_))=some (0,[bv (It.good x)])):ev (q52a (its l))=some (0,[bv (l.all It.good)]):=by
 have lp:ev (q52ab0a (iv 0) (iv l.length) (its l))=some (if l.all It.good=true then(1,[]) else(0,[bv false])):=
  all_ev l It.good (fun i=>q52ab0a (iv (i:Int)) (iv l.length) (its l)) _ _ hl (fun i j x e0 hx hm hi=>by
   have g:=h x hm
   show body PG EE TT ev (q52ab0a (iv (i:Int)) (iv l.length) (its l))=_
   rw[h52ab0a,g52ab0a]
   cases hg:It.good x<;>(rw[hg] at g;simp[hi,idxK_its hx,g,e0])) (by
   show body PG EE TT ev (q52ab0a (iv (l.length:Int)) (iv l.length) (its l))=_
   rw[h52ab0a,g52ab0a]
   simp)
 refine Evl.of ?_
 rw[h52a,g52a]
 cases hg:l.all It.good<;>(rw[hg] at lp;simp[lp])
theorem ps_low(l:List ByteArray)(h:szS l≤1900000):ev (q91a (strs l))=some (0,[bv (l.all Lx.isLowB)]):=pe_low l (by have:=szS_len l;omega) fun x hx=>low_x x (by have:=szS_mem hx;omega)
theorem ps_up(l:List ByteArray)(h:szS l≤1900000):ev (q91b (strs l))=some (0,[bv (l.all Lx.isUpB)]):=pe_up l (by have:=szS_len l;omega) fun x hx=>up_x x (by have:=szS_mem hx;omega)
theorem ps_ty(l:List Ty)(h:Ty.sizes l≤1900000):ev (q74a (tys l))=some (0,[bv (l.all Ty.good)]):=p_every l (by have:=Ty.len_le l;omega) fun x hx=>p_good 2000000 x (by have:=Ty.mem_le hx;omega) (Nat.le_refl _)
theorem ps_bd(l:List Bd)(h:Bd.sizes l≤1900000):ev (q34a (bds l))=some (0,[bv (l.all Bd.good)]):=p_everyB l (by have:=Bd.len_le l;omega) fun x hx=>by
 have h1:=Bd.mem_le hx
 have h2:=x.size_eq
 exact⟨by omega,p_goodE 2000000 x.e (by omega) (Nat.le_refl _)⟩
theorem pg_cn(x:Cn)(hz:x.size≤1900000):ev (q90 (sv x.name) (tys x.args) (iv x.at_))=some (0,[bv x.good]):=Evl.of (by
 have hs:=x.size_eq
 have h1:=up_x x.name (by omega)
 have h2:=ps_ty x.args (by omega)
 rw[h90,g90]
 unfold Cn.good
 generalize Lx.isUpB x.name=b1 at h1 ⊢
 generalize x.args.all Ty.good=b2 at h2 ⊢
 cases b1
 ·simp[h1,h2]
 ·cases b2
  ·simp[h1,h2]
  ·simp[h1,h2]
)
theorem pg_dt(x:Dt)(hz:x.size≤1900000):ev (q49 (sv x.name) (strs x.params) (cns x.cons) (strs x.deriv) (iv x.at_))=some (0,[bv x.good]):=Evl.of (by
 have hs:=x.size_eq
 have h1:=up_x x.name (by omega)
 have h2:=ps_low x.params (by omega)
 have h3:=pe_cn x.cons (by have:=Cn.len_le x.cons;omega) fun y hy=>pg_cn y (by have:=Cn.mem_le hy;omega)
 have h4:=ps_up x.deriv (by omega)
 rw[h49,g49]
 unfold Dt.good
 generalize Lx.isUpB x.name=b1 at h1 ⊢
 generalize x.params.all Lx.isLowB=b2 at h2 ⊢
 generalize x.cons.all Cn.good=b3 at h3 ⊢
 generalize x.deriv.all Lx.isUpB=b4 at h4 ⊢
 cases b1
 ·simp[h1,h2,h3,h4]
 ·cases b2
  ·simp[h1,h2,h3,h4]
  ·by_cases c:0<x.cons.length
   ·cases b3
    ·simp[h1,h2,h3,h4,c]
    ·cases b4
     ·simp[h1,h2,h3,h4,c]
     ·simp[h1,h2,h3,h4,c]
   ·simp[h1,h2,h3,h4,c]
)
theorem pg_md(x:Md)(hz:x.size≤1900000):ev (q93 (sv x.name) (iv x.t.kind) (sv x.t.name) (iv x.t.n) (tys x.t.kids) (iv x.at_))=some (0,[bv x.good]):=Evl.of (by
 have hs:=x.size_eq
 have h1:=rname_x x.name (by omega)
 have h2:ev (q29 (iv x.t.kind) (sv x.t.name) (iv x.t.n) (tys x.t.kids))=_:=p_good 2000000 x.t (by omega) (Nat.le_refl _)
 rw[h93,g93]
 unfold Md.good
 generalize nameB x.name=b1 at h1 ⊢
 generalize x.t.good=b2 at h2 ⊢
 cases b1
 ·simp[h1,h2]
 ·cases b2
  ·simp[h1,h2]
  ·simp[h1,h2]
)
theorem pg_cl(x:Cl)(hz:x.size≤1900000):ev (q51 (sv x.name) (sv x.var) (strs x.supers) (mds x.methods) (bds x.defaults) (iv x.at_))=some (0,[bv x.good]):=Evl.of (by
 have hs:=x.size_eq
 have h1:=up_x x.name (by omega)
 have h2:=low_x x.var (by omega)
 have h3:=ps_up x.supers (by omega)
 have h4:=pe_md x.methods (by have:=Md.len_le x.methods;omega) fun y hy=>pg_md y (by have:=Md.mem_le hy;omega)
 have h5:=ps_bd x.defaults (by omega)
 rw[h51,g51]
 unfold Cl.good
 generalize Lx.isUpB x.name=b1 at h1 ⊢
 generalize Lx.isLowB x.var=b2 at h2 ⊢
 generalize x.supers.all Lx.isUpB=b3 at h3 ⊢
 generalize x.methods.all Md.good=b4 at h4 ⊢
 generalize x.defaults.all Bd.good=b5 at h5 ⊢
 cases b1
 ·simp[h1,h2,h3,h4,h5]
 ·cases b2
  ·simp[h1,h2,h3,h4,h5]
  ·cases b3
   ·simp[h1,h2,h3,h4,h5]
   ·cases b4
    ·simp[h1,h2,h3,h4,h5]
    ·cases b5
     ·simp[h1,h2,h3,h4,h5]
     ·simp[h1,h2,h3,h4,h5]
)
theorem pg_pd(x:Pd)(hz:x.size≤1900000):ev (q95 (sv x.cls) (iv x.t.kind) (sv x.t.name) (iv x.t.n) (tys x.t.kids))=some (0,[bv x.good]):=Evl.of (by
 have hs:=x.size_eq
 have h1:=up_x x.cls (by omega)
 have h2:ev (q29 (iv x.t.kind) (sv x.t.name) (iv x.t.n) (tys x.t.kids))=_:=p_good 2000000 x.t (by omega) (Nat.le_refl _)
 rw[h95,g95]
 unfold Pd.good
 generalize Lx.isUpB x.cls=b1 at h1 ⊢
 generalize x.t.good=b2 at h2 ⊢
 cases b1
 ·simp[h1]
 ·by_cases c:x.t.kind=1
  ·rw[c] at h2
   cases b2<;>simp[h1,h2,c]
  ·simp[h1,c])
theorem pg_it(x:It)(hz:x.size≤1900000):ev (q53 (sv x.cls) (iv x.head.kind) (sv x.head.name) (iv x.head.n) (tys x.head.kids) (pds x.ctx) (bds x.binds) (iv x.at_))=some (0,[bv x.good]):=Evl.of (by
 have hs:=x.size_eq
 have h1:=up_x x.cls (by omega)
 have h2:ev (q29 (iv x.head.kind) (sv x.head.name) (iv x.head.n) (tys x.head.kids))=_:=p_good 2000000 x.head (by omega) (Nat.le_refl _)
 have h3:=pe_pd x.ctx (by have:=Pd.len_le x.ctx;omega) fun y hy=>pg_pd y (by have:=Pd.mem_le hy;omega)
 have h4:=ps_bd x.binds (by omega)
 rw[h53,g53]
 unfold It.good
 generalize Lx.isUpB x.cls=b1 at h1 ⊢
 generalize x.head.good=b2 at h2 ⊢
 generalize x.ctx.all Pd.good=b3 at h3 ⊢
 generalize x.binds.all Bd.good=b4 at h4 ⊢
 cases b1
 ·simp[h1,h2,h3,h4]
 ·cases b2
  ·simp[h1,h2,h3,h4]
  ·cases b3
   ·simp[h1,h2,h3,h4]
   ·cases b4
    ·simp[h1,h2,h3,h4]
    ·simp[h1,h2,h3,h4]
)
theorem pg_prog(a:List Dt)(b:List Cl)(c:List It)(d:List Bd)(hz:Dt.sizes a+Cl.sizes b+It.sizes c+Bd.sizes d≤1900000):ev (q20 (dts a) (cls b) (its c) (bds d))=some (0,[bv (progGood a b c d)]):=Evl.of (by
 have h1:=pe_dt a (by have:=Dt.len_le a;omega) fun y hy=>pg_dt y (by have:=Dt.mem_le hy;omega)
 have h2:=pe_cl b (by have:=Cl.len_le b;omega) fun y hy=>pg_cl y (by have:=Cl.mem_le hy;omega)
 have h3:=pe_it c (by have:=It.len_le c;omega) fun y hy=>pg_it y (by have:=It.mem_le hy;omega)
 have h4:=ps_bd d (by omega)
 rw[h20,g20]
 unfold progGood
 generalize a.all Dt.good=b1 at h1 ⊢
 generalize b.all Cl.good=b2 at h2 ⊢
 generalize c.all It.good=b3 at h3 ⊢
 generalize d.all Bd.good=b4 at h4 ⊢
 cases b1
 ·simp[h1,h2,h3,h4]
 ·cases b2
  ·simp[h1,h2,h3,h4]
  ·cases b3
   ·simp[h1,h2,h3,h4]
   ·cases b4
    ·simp[h1,h2,h3,h4]
    ·simp[h1,h2,h3,h4]
)
theorem rups_x(l:List ByteArray)(hz:szS l≤1900000):ev (q89 (strs l))=some (0,[bv (l.all Lx.isUpB)]):=by
 have hlen:=szS_len l
 have lp:ev (q89b0a (iv 0) (strs l))=some (if l.all Lx.isUpB=true then(1,[]) else(0,[bv false])):=
  all_ev l Lx.isUpB (fun i=>q89b0a (iv (i:Int)) (strs l)) _ _ (by omega) (fun i j x e0 hx hm hi=>by
   have g:=rup_x x (by have:=szS_mem hm;omega)
   show body PG EE TT ev (q89b0a (iv (i:Int)) (strs l))=_
   rw[h89b0a,g89b0a]
   cases hg:Lx.isUpB x<;>(rw[hg] at g;simp[hi,idxK_strs hx,g,e0])) (by
   show body PG EE TT ev (q89b0a (iv (l.length:Int)) (strs l))=_
   rw[h89b0a,g89b0a]
   simp)
 refine Evl.of ?_
 rw[h89,g89]
 cases hg:l.all Lx.isUpB<;>(rw[hg] at lp;simp[lp])
theorem rgt_x(x:Ty)(hz:x.size≤1900000):ev (q14 (iv x.kind) (sv x.name) (iv x.n) (tys x.kids))=some (0,[bv x.good]):=r_good 2000000 x (by omega) (Nat.le_refl _)
theorem rbs_x(l:List Bd)(h:Bd.sizes l≤1900000):ev (q26 (bds l))=some (0,[bv (l.all Bd.good)]):=r_everyB l (by have:=Bd.len_le l;omega) fun x hx=>by
 have h1:=Bd.mem_le hx
 have h2:=x.size_eq
 exact⟨by omega,r_goodE 1900000 x.e (by omega) (by omega)⟩
theorem rd_par(x:Dt)(hz:x.size≤1900000):ev (q45b0a (iv 0) (sv x.name) (strs x.params) (cns x.cons) (strs x.deriv) (iv x.at_))=some (if x.params.all Lx.isLowB=true then(1,[sv x.name,strs x.params,cns x.cons,strs x.deriv,iv x.at_]) else(0,[sv x.name,strs x.params,cns x.cons,strs x.deriv,iv x.at_,bv false])):=
 all_ev x.params Lx.isLowB (fun i=>q45b0a (iv (i:Int)) (sv x.name) (strs x.params) (cns x.cons) (strs x.deriv) (iv x.at_)) _ _ (by have:=szS_len x.params;have:=x.size_eq;omega) (fun i j y e0 hx hm hi=>by
  show body PG EE TT ev (q45b0a (iv (i:Int)) (sv x.name) (strs x.params) (cns x.cons) (strs x.deriv) (iv x.at_))=_
  rw[h45b0a,g45b0a]
  have hs:=x.size_eq
  have g:=rlow_x y (by have:=szS_mem hm;omega)
  cases hg:Lx.isLowB y<;>(rw[hg] at g;simp[hi,idxK_strs hx,g,e0])) (by
  show body PG EE TT ev (q45b0a (iv (x.params.length:Int)) (sv x.name) (strs x.params) (cns x.cons) (strs x.deriv) (iv x.at_))=_
  rw[h45b0a,g45b0a]
  simp)
theorem rd_arg(x:Dt)(hz:x.size≤1900000)(k:Nat)(c:Cn)(hc:x.cons[k]? = some c):ev (q45b4a (iv 0) (iv (k:Int)) (sv x.name) (strs x.params) (cns x.cons) (strs x.deriv) (iv x.at_))=some (if c.args.all Ty.good=true then(1,[sv x.name,strs x.params,cns x.cons,strs x.deriv,iv x.at_,iv (k:Int)]) else(0,[sv x.name,strs x.params,cns x.cons,strs x.deriv,iv x.at_,bv false])):=by
 have hs:=x.size_eq
 have hcm:c∈x.cons:=List.mem_of_getElem? hc
 have hcz:=Cn.mem_le hcm
 have hcs:=c.size_eq
 have hcl:=Ty.len_le c.args
 exact all_ev c.args Ty.good (fun i=>q45b4a (iv (i:Int)) (iv (k:Int)) (sv x.name) (strs x.params) (cns x.cons) (strs x.deriv) (iv x.at_)) _ _ (by omega) (fun i j y e0 hx hm hi=>by
  have g:=rgt_x y (by have:=Ty.mem_le hm;omega)
  show body PG EE TT ev (q45b4a (iv (i:Int)) (iv (k:Int)) (sv x.name) (strs x.params) (cns x.cons) (strs x.deriv) (iv x.at_))=_
  rw[h45b4a,g45b4a]
  cases hg:y.good<;>(rw[hg] at g;simp[hi,idxK_cns hc,idxK_tys hx,g,e0])) (by
  show body PG EE TT ev (q45b4a (iv (c.args.length:Int)) (iv (k:Int)) (sv x.name) (strs x.params) (cns x.cons) (strs x.deriv) (iv x.at_))=_
  rw[h45b4a,g45b4a]
  simp[idxK_cns hc])
theorem rd_con(x:Dt)(hz:x.size≤1900000):ev (q45b2a (iv 0) (sv x.name) (strs x.params) (cns x.cons) (strs x.deriv) (iv x.at_))=some (if x.cons.all Cn.good=true then(1,[sv x.name,strs x.params,cns x.cons,strs x.deriv,iv x.at_]) else(0,[sv x.name,strs x.params,cns x.cons,strs x.deriv,iv x.at_,bv false])):=
 all_ev x.cons Cn.good (fun i=>q45b2a (iv (i:Int)) (sv x.name) (strs x.params) (cns x.cons) (strs x.deriv) (iv x.at_)) _ _ (by have:=Cn.len_le x.cons;have:=x.size_eq;omega) (fun i j y e0 hx hm hi=>by
  show body PG EE TT ev (q45b2a (iv (i:Int)) (sv x.name) (strs x.params) (cns x.cons) (strs x.deriv) (iv x.at_))=_
  rw[h45b2a,g45b2a]
  have hs:=x.size_eq
  have hys:=y.size_eq
  have hyz:=Cn.mem_le hm
  have g:=rup_x y.name (by omega)
  have ga:=rd_arg x hz i y hx
  unfold Cn.good
  generalize Lx.isUpB y.name=b1 at g ⊢
  generalize y.args.all Ty.good=b2 at ga ⊢
  cases b1
  ·simp[hi,idxK_cns hx,g,e0]
  ·cases b2<;>simp[hi,idxK_cns hx,g,ga,e0]) (by
  show body PG EE TT ev (q45b2a (iv (x.cons.length:Int)) (sv x.name) (strs x.params) (cns x.cons) (strs x.deriv) (iv x.at_))=_
  rw[h45b2a,g45b2a]
  simp)
theorem rg_dt(x:Dt)(hz:x.size≤1900000):ev (q45 (sv x.name) (strs x.params) (cns x.cons) (strs x.deriv) (iv x.at_))=some (0,[bv x.good]):=Evl.of (by
 have hs:=x.size_eq
 have h1:=rup_x x.name (by omega)
 have h2:=rd_par x hz
 have h3:=rd_con x hz
 have h4:=rups_x x.deriv (by omega)
 rw[h45,g45]
 unfold Dt.good
 generalize Lx.isUpB x.name=b1 at h1 ⊢
 generalize x.params.all Lx.isLowB=b2 at h2 ⊢
 generalize x.cons.all Cn.good=b3 at h3 ⊢
 generalize x.deriv.all Lx.isUpB=b4 at h4 ⊢
 cases b1
 ·simp[h1]
 ·by_cases c:x.cons.length=0
  ·have c':¬0<x.cons.length:=by omega
   simp[-List.length_eq_zero_iff,h1,c,c']
  ·have c':0<x.cons.length:=by omega
   have c2:¬(x.cons.length:Int)=0:=by omega
   cases b4
   ·simp[-List.length_eq_zero_iff,-Int.natCast_eq_zero,h1,c,c',c2,h4]
   ·cases b2
    ·simp[-List.length_eq_zero_iff,-Int.natCast_eq_zero,h1,c,c',c2,h4,h2]
    ·cases b3<;>simp[-List.length_eq_zero_iff,-Int.natCast_eq_zero,h1,c,c',c2,h4,h2,h3])
theorem rc_met(x:Cl)(hz:x.size≤1900000):ev (q46b0a (iv 0) (sv x.name) (sv x.var) (strs x.supers) (mds x.methods) (bds x.defaults) (iv x.at_))=some (if x.methods.all Md.good=true then(1,[sv x.name,sv x.var,strs x.supers,mds x.methods,bds x.defaults,iv x.at_]) else(0,[sv x.name,sv x.var,strs x.supers,mds x.methods,bds x.defaults,iv x.at_,bv false])):=
 all_ev x.methods Md.good (fun i=>q46b0a (iv (i:Int)) (sv x.name) (sv x.var) (strs x.supers) (mds x.methods) (bds x.defaults) (iv x.at_)) _ _ (by have:=Md.len_le x.methods;have:=x.size_eq;omega) (fun i j y e0 hx hm hi=>by
  show body PG EE TT ev (q46b0a (iv (i:Int)) (sv x.name) (sv x.var) (strs x.supers) (mds x.methods) (bds x.defaults) (iv x.at_))=_
  rw[h46b0a,g46b0a]
  have hs:=x.size_eq
  have hys:=y.size_eq
  have hyz:=Md.mem_le hm
  have g:=gname_x y.name (by omega)
  have ga:=rgt_x y.t (by omega)
  unfold Md.good
  generalize nameB y.name=b1 at g ⊢
  generalize y.t.good=b2 at ga ⊢
  cases b1
  ·simp[hi,idxK_mds hx,g,e0]
  ·cases b2<;>simp[hi,idxK_mds hx,g,ga,e0]) (by
  show body PG EE TT ev (q46b0a (iv (x.methods.length:Int)) (sv x.name) (sv x.var) (strs x.supers) (mds x.methods) (bds x.defaults) (iv x.at_))=_
  rw[h46b0a,g46b0a]
  simp)
theorem rg_cl(x:Cl)(hz:x.size≤1900000):ev (q46 (sv x.name) (sv x.var) (strs x.supers) (mds x.methods) (bds x.defaults) (iv x.at_))=some (0,[bv x.good]):=Evl.of (by
 have hs:=x.size_eq
 have h1:=rup_x x.name (by omega)
 have h2:=rlow_x x.var (by omega)
 have h3:=rups_x x.supers (by omega)
 have h4:=rc_met x hz
 have h5:=rbs_x x.defaults (by omega)
 rw[h46,g46]
 unfold Cl.good
 generalize Lx.isUpB x.name=b1 at h1 ⊢
 generalize Lx.isLowB x.var=b2 at h2 ⊢
 generalize x.supers.all Lx.isUpB=b3 at h3 ⊢
 generalize x.methods.all Md.good=b4 at h4 ⊢
 generalize x.defaults.all Bd.good=b5 at h5 ⊢
 cases b4
 ·simp[h1,h2,h3,h4,h5]
 ·cases b1
  ·simp[h1,h2,h3,h4,h5]
  ·cases b2
   ·simp[h1,h2,h3,h4,h5]
   ·cases b3
    ·simp[h1,h2,h3,h4,h5]
    ·cases b5
     ·simp[h1,h2,h3,h4,h5]
     ·simp[h1,h2,h3,h4,h5]
)
theorem ri_ctx(x:It)(hz:x.size≤1900000):ev (q47b0a (iv 0) (sv x.cls) (iv x.head.kind) (sv x.head.name) (iv x.head.n) (tys x.head.kids) (pds x.ctx) (bds x.binds) (iv x.at_))=some (if x.ctx.all Pd.good=true then(1,[sv x.cls,iv x.head.kind,sv x.head.name,iv x.head.n,tys x.head.kids,pds x.ctx,bds x.binds,iv x.at_]) else(0,[sv x.cls,iv x.head.kind,sv x.head.name,iv x.head.n,tys x.head.kids,pds x.ctx,bds x.binds,iv x.at_,bv false])):=
 all_ev x.ctx Pd.good (fun i=>q47b0a (iv (i:Int)) (sv x.cls) (iv x.head.kind) (sv x.head.name) (iv x.head.n) (tys x.head.kids) (pds x.ctx) (bds x.binds) (iv x.at_)) _ _ (by have:=Pd.len_le x.ctx;have:=x.size_eq;omega) (fun i j y e0 hx hm hi=>by
  show body PG EE TT ev (q47b0a (iv (i:Int)) (sv x.cls) (iv x.head.kind) (sv x.head.name) (iv x.head.n) (tys x.head.kids) (pds x.ctx) (bds x.binds) (iv x.at_))=_
  rw[h47b0a,g47b0a]
  have hs:=x.size_eq
  have hys:=y.size_eq
  have hyz:=Pd.mem_le hm
  have g:=rup_x y.cls (by omega)
  have ga:=rgt_x y.t (by omega)
  unfold Pd.good
  generalize Lx.isUpB y.cls=b1 at g ⊢
  generalize y.t.good=b2 at ga ⊢
  cases b1
  ·simp[hi,idxK_pds hx,g,e0]
  ·by_cases c:y.t.kind=1
   ·rw[c] at ga
    cases b2<;>simp[hi,idxK_pds hx,g,ga,c,e0]
   ·simp[hi,idxK_pds hx,g,c,e0]) (by
  show body PG EE TT ev (q47b0a (iv (x.ctx.length:Int)) (sv x.cls) (iv x.head.kind) (sv x.head.name) (iv x.head.n) (tys x.head.kids) (pds x.ctx) (bds x.binds) (iv x.at_))=_
  rw[h47b0a,g47b0a]
  simp)
theorem rg_it(x:It)(hz:x.size≤1900000):ev (q47 (sv x.cls) (iv x.head.kind) (sv x.head.name) (iv x.head.n) (tys x.head.kids) (pds x.ctx) (bds x.binds) (iv x.at_))=some (0,[bv x.good]):=Evl.of (by
 have hs:=x.size_eq
 have h1:=rup_x x.cls (by omega)
 have h2:=rgt_x x.head (by omega)
 have h3:=ri_ctx x hz
 have h4:=rbs_x x.binds (by omega)
 rw[h47,g47]
 unfold It.good
 generalize Lx.isUpB x.cls=b1 at h1 ⊢
 generalize x.head.good=b2 at h2 ⊢
 generalize x.ctx.all Pd.good=b3 at h3 ⊢
 generalize x.binds.all Bd.good=b4 at h4 ⊢
 cases b3
 ·simp[h1,h2,h3,h4]
 ·cases b1
  ·simp[h1,h2,h3,h4]
  ·cases b2
   ·simp[h1,h2,h3,h4]
   ·cases b4
    ·simp[h1,h2,h3,h4]
    ·simp[h1,h2,h3,h4]
)
theorem rp_dt(a:List Dt)(b:List Cl)(c:List It)(d:List Bd)(hz:Dt.sizes a+Cl.sizes b+It.sizes c+Bd.sizes d≤1900000):ev (q19b0a (iv 0) (dts a) (cls b) (its c) (bds d))=some (if a.all Dt.good=true then(1,[dts a,cls b,its c,bds d]) else(0,[dts a,cls b,its c,bds d,bv false])):=
 all_ev a Dt.good (fun i=>q19b0a (iv (i:Int)) (dts a) (cls b) (its c) (bds d)) _ _ (by have:=Dt.len_le a;omega) (fun i j y e0 hx hm hi=>by
  show body PG EE TT ev (q19b0a (iv (i:Int)) (dts a) (cls b) (its c) (bds d))=_
  rw[h19b0a,g19b0a]
  have g:=rg_dt y (by have:=Dt.mem_le hm;omega)
  cases hg:y.good<;>(rw[hg] at g;simp[hi,idxK_dts hx,g,e0])) (by
  show body PG EE TT ev (q19b0a (iv (a.length:Int)) (dts a) (cls b) (its c) (bds d))=_
  rw[h19b0a,g19b0a]
  simp)
theorem rp_cl(a:List Dt)(b:List Cl)(c:List It)(d:List Bd)(hz:Dt.sizes a+Cl.sizes b+It.sizes c+Bd.sizes d≤1900000):ev (q19b2a (iv 0) (dts a) (cls b) (its c) (bds d))=some (if b.all Cl.good=true then(1,[dts a,cls b,its c,bds d]) else(0,[dts a,cls b,its c,bds d,bv false])):=
 all_ev b Cl.good (fun i=>q19b2a (iv (i:Int)) (dts a) (cls b) (its c) (bds d)) _ _ (by have:=Cl.len_le b;omega) (fun i j y e0 hx hm hi=>by
  show body PG EE TT ev (q19b2a (iv (i:Int)) (dts a) (cls b) (its c) (bds d))=_
  rw[h19b2a,g19b2a]
  have g:=rg_cl y (by have:=Cl.mem_le hm;omega)
  cases hg:y.good<;>(rw[hg] at g;simp[hi,idxK_cls hx,g,e0])) (by
  show body PG EE TT ev (q19b2a (iv (b.length:Int)) (dts a) (cls b) (its c) (bds d))=_
  rw[h19b2a,g19b2a]
  simp)
theorem rp_it(a:List Dt)(b:List Cl)(c:List It)(d:List Bd)(hz:Dt.sizes a+Cl.sizes b+It.sizes c+Bd.sizes d≤1900000):ev (q19b4a (iv 0) (dts a) (cls b) (its c) (bds d))=some (if c.all It.good=true then(1,[dts a,cls b,its c,bds d]) else(0,[dts a,cls b,its c,bds d,bv false])):=
 all_ev c It.good (fun i=>q19b4a (iv (i:Int)) (dts a) (cls b) (its c) (bds d)) _ _ (by have:=It.len_le c;omega) (fun i j y e0 hx hm hi=>by
  show body PG EE TT ev (q19b4a (iv (i:Int)) (dts a) (cls b) (its c) (bds d))=_
  rw[h19b4a,g19b4a]
  have g:=rg_it y (by have:=It.mem_le hm;omega)
  cases hg:y.good<;>(rw[hg] at g;simp[hi,idxK_its hx,g,e0])) (by
  show body PG EE TT ev (q19b4a (iv (c.length:Int)) (dts a) (cls b) (its c) (bds d))=_
  rw[h19b4a,g19b4a]
  simp)
theorem rg_prog(a:List Dt)(b:List Cl)(c:List It)(d:List Bd)(hz:Dt.sizes a+Cl.sizes b+It.sizes c+Bd.sizes d≤1900000):ev (q19 (dts a) (cls b) (its c) (bds d))=some (0,[bv (progGood a b c d)]):=Evl.of (by
 have h1:=rp_dt a b c d hz
 have h2:=rp_cl a b c d hz
 have h3:=rp_it a b c d hz
 have h4:=rbs_x d (by omega)
 rw[h19,g19]
 unfold progGood
 generalize a.all Dt.good=b1 at h1 ⊢
 generalize b.all Cl.good=b2 at h2 ⊢
 generalize c.all It.good=b3 at h3 ⊢
 generalize d.all Bd.good=b4 at h4 ⊢
 cases b1
 ·simp[h1,h2,h3,h4]
 ·cases b2
  ·simp[h1,h2,h3,h4]
  ·cases b3
   ·simp[h1,h2,h3,h4]
   ·cases b4
    ·simp[h1,h2,h3,h4]
    ·simp[h1,h2,h3,h4]
)
theorem pbind_x(b:Bd)(hg:b.good=true)(hz:b.size≤1100000):ev (q61 (sv b.name) (iv b.e.kind) (sv b.e.name) (iv b.e.n) (iv b.e.t.kind) (sv b.e.t.name) (iv b.e.t.n) (tys b.e.t.kids) (exs b.e.kids) (als b.e.alts) (bds b.e.binds) (iv b.e.at_) (iv b.at_))=some (0,[sv (bindT b)]):=Evl.of (by
 have hg2:=hg
 rw[b.good_eq,Bool.and_eq_true] at hg2
 have h3:=b.size_eq
 have h4:=expT_size b.e hg2.2
 have h5:=nmB_size b.name
 have h1:=name_x b.name (by omega)
 have h2:=pexp_x b.e hg2.2 (by omega)
 have c1:=fun k=>cat_k (t:=9) (k:=k) (sDef) (nmB b.name) (by decide) (by omega)
 have c2:=fun k=>cat_k (t:=9) (k:=k) (sDef++nmB b.name) (sEqs) (by simp only[ByteArray.size_append,z_sDef]<;>omega) (by decide)
 have c3:=fun k=>cat_k (t:=9) (k:=k) ((sDef++nmB b.name)++sEqs) (expT b.e) (by simp only[ByteArray.size_append,z_sDef,z_sEqs]<;>omega) (by omega)
 have c4:=fun k=>cat_k (t:=9) (k:=k) (((sDef++nmB b.name)++sEqs)++expT b.e) (sSc) (by simp only[ByteArray.size_append,z_sDef,z_sEqs]<;>omega) (by decide)
 rw[h61,g61]
 unfold bindT
 simp[h1,h2,c1,c2,c3,c4])
theorem rbind2_x(b:Bd)(hg:b.good=true)(hz:b.size≤1100000):ev (q64 (sv b.name) (iv b.e.kind) (sv b.e.name) (iv b.e.n) (iv b.e.t.kind) (sv b.e.t.name) (iv b.e.t.n) (tys b.e.t.kids) (exs b.e.kids) (als b.e.alts) (bds b.e.binds) (iv b.e.at_) (iv b.at_))=some (0,[sv (bindT b)]):=Evl.of (by
 have hg2:=hg
 rw[b.good_eq,Bool.and_eq_true] at hg2
 have h3:=b.size_eq
 have h4:=expT_size b.e hg2.2
 have h5:=nmB_size b.name
 have h1:=rname2_x b.name (by omega)
 have h2:=rexp_x b.e hg2.2 (by omega)
 have c1:=fun k=>cat_k (t:=9) (k:=k) (sDef) (nmB b.name) (by decide) (by omega)
 have c2:=fun k=>cat_k (t:=9) (k:=k) (sDef++nmB b.name) (sEqs) (by simp only[ByteArray.size_append,z_sDef]<;>omega) (by decide)
 have c3:=fun k=>cat_k (t:=9) (k:=k) ((sDef++nmB b.name)++sEqs) (expT b.e) (by simp only[ByteArray.size_append,z_sDef,z_sEqs]<;>omega) (by omega)
 have c4:=fun k=>cat_k (t:=9) (k:=k) (((sDef++nmB b.name)++sEqs)++expT b.e) (sSc) (by simp only[ByteArray.size_append,z_sDef,z_sEqs]<;>omega) (by decide)
 rw[h64,g64]
 unfold bindT
 simp[h1,h2,c1,c2,c3,c4])
theorem patx_x(t:Ty)(hg:t.good=true)(hz:t.size≤1900000):ev (q88 (iv t.kind) (sv t.name) (iv t.n) (tys t.kids))=some (0,[sv t.atx]):=p_atx t (by omega) hg (p_txt 2000000 t (by omega) (Nat.le_refl _) hg)
theorem ratx_x(t:Ty)(hg:t.good=true)(hz:t.size≤1900000):ev (q42 (iv t.kind) (sv t.name) (iv t.n) (tys t.kids))=some (0,[sv t.atx]):=r_atx t (by omega) (r_txt 2000000 t (by omega) (Nat.le_refl _) hg)
theorem all_mem{α:Type}{p:α→Bool}{l:List α}(h:l.all p=true):∀x∈l,p x=true:=List.all_eq_true.1 h
theorem pre_cons{α:Type}(f:α→ByteArray)(x:α)(l:List α):pre f (x::l)=(sSp++f x)++pre f l:=by rw[pre]
theorem post_cons{α:Type}(f:α→ByteArray)(x:α)(l:List α):post f (x::l)=(f x++sSp)++post f l:=by rw[post]
theorem lns_cons{α:Type}(f:α→ByteArray)(x:α)(l:List α):lns f (x::l)=(f x++sNl)++lns f l:=by rw[lns]
theorem lsi_map{α:Type}(f:α→ByteArray)(a b:ByteArray)(x:α)(l:List α)(i:Nat):lsi a b ((x::l).map f) i=((if i=0 then a else b)++f x)++lsi a b (l.map f) (i+1):=by rw[List.map_cons,lsi]
theorem pd_args(x:Dt)(n:Nat)(k m:Nat)(c:Cn)(hz:c.size≤1100000)(hg:c.args.all Ty.good=true)(s:ByteArray)(hs:s.size+32*Ty.sizes c.args≤900000000):ev (q55b2a (iv 0) (iv c.args.length) (tys c.args) (sv s) (iv (k:Int)) (iv (m:Int)) (cns x.cons) (sv x.name) (strs x.params) (cns x.cons) (strs x.deriv) (iv x.at_))=some (0,[sv x.name,strs x.params,cns x.cons,strs x.deriv,iv x.at_,iv (k:Int),iv (m:Int),cns x.cons,sv (s++Ty.txts c.args)]):=by
 have hl:=Ty.len_le c.args
 have hcs:=c.size_eq
 have hb:=Ty.txts_size c.args
 refine cat_ev c.args (fun y=>sSp++y.atx) Ty.txts (by rw[Ty.txts]) Ty.txts_cons (fun i acc=>q55b2a (iv (i:Int)) (iv c.args.length) (tys c.args) (sv acc) (iv (k:Int)) (iv (m:Int)) (cns x.cons) (sv x.name) (strs x.params) (cns x.cons) (strs x.deriv) (iv x.at_)) (fun a=>(0,[sv x.name,strs x.params,cns x.cons,strs x.deriv,iv x.at_,iv (k:Int),iv (m:Int),cns x.cons,sv a])) 900000000 (by omega) (fun i j y acc e0 hx hm hi hacc=>?_) (fun acc=>?_) s (by omega)
 ·have hyz:=Ty.mem_le hm
  have hyb:=atx_size y
  have ha:=patx_x y (all_mem hg y hm) (by omega)
  rw[ByteArray.size_append,z_sSp] at hacc
  have d1:=fun k=>cat_k (t:=9) (k:=k) (sSp) (y.atx) (by decide) (by omega)
  have c1:=fun k=>cat_k (t:=9) (k:=k) (acc) (sSp++y.atx) (by omega) (by simp only[ByteArray.size_append,z_sSp]<;>omega)
  show body PG EE TT ev (q55b2a (iv (i:Int)) (iv c.args.length) (tys c.args) (sv acc) (iv (k:Int)) (iv (m:Int)) (cns x.cons) (sv x.name) (strs x.params) (cns x.cons) (strs x.deriv) (iv x.at_))=_
  rw[h55b2a,g55b2a]
  simp[hi,idxK_tys hx,ha,d1,c1,e0]
 ·show body PG EE TT ev (q55b2a (iv (c.args.length:Int)) (iv c.args.length) (tys c.args) (sv acc) (iv (k:Int)) (iv (m:Int)) (cns x.cons) (sv x.name) (strs x.params) (cns x.cons) (strs x.deriv) (iv x.at_))=_
  rw[h55b2a,g55b2a]
  simp
theorem pd_cons(x:Dt)(hz:x.size≤1100000)(hg:x.cons.all Cn.good=true)(s:ByteArray)(hs:s.size+400*Cn.sizes x.cons≤800000000):ev (q55b0a (iv 0) (iv x.cons.length) (cns x.cons) (sv s) (sv x.name) (strs x.params) (cns x.cons) (strs x.deriv) (iv x.at_))=some (0,[sv x.name,strs x.params,cns x.cons,strs x.deriv,iv x.at_,sv (s++lsi sEqs sBar (x.cons.map conT) 0)]):=by
 have hl:=Cn.len_le x.cons
 have hxs:=x.size_eq
 have h2:=lsi_size sEqs sBar (by decide) (by decide) (x.cons.map conT) 0
 have h3:=cons_size x.cons
 refine cat_evi x.cons (fun i y=>(if i=0 then sEqs else sBar)++conT y) (fun l i=>lsi sEqs sBar (l.map conT) i) (fun i=>by rw[List.map_nil,lsi]) (fun y l i=>lsi_map conT sEqs sBar y l i) (fun i acc=>q55b0a (iv (i:Int)) (iv x.cons.length) (cns x.cons) (sv acc) (sv x.name) (strs x.params) (cns x.cons) (strs x.deriv) (iv x.at_)) (fun a=>(0,[sv x.name,strs x.params,cns x.cons,strs x.deriv,iv x.at_,sv a])) 800000000 (by omega) (fun i j y acc e0 hx hm hi hacc=>?_) (fun acc=>?_) s (by omega)
 ·have hyz:=Cn.mem_le hm
  have hys:=y.size_eq
  have hyg:=all_mem hg y hm
  unfold Cn.good at hyg
  rw[Bool.and_eq_true] at hyg
  have hts:=Ty.txts_size y.args
  rw[ByteArray.size_append] at hacc
  have hct:(conT y).size=y.name.size+(Ty.txts y.args).size:=by unfold conT;rw[ByteArray.size_append]
  show body PG EE TT ev (q55b0a (iv (i:Int)) (iv x.cons.length) (cns x.cons) (sv acc) (sv x.name) (strs x.params) (cns x.cons) (strs x.deriv) (iv x.at_))=_
  have x0:∀k:AV→Res,idxK PG .fail 70 (.pv (.rows [[sv sEqs],[sv sBar]])) (.pv (iv 0)) k=k (.cptr [sv sEqs]):=fun k=>idxK_strs (l:=[sEqs,sBar]) (i:=0) rfl
  have x1:∀k:AV→Res,idxK PG .fail 70 (.pv (.rows [[sv sEqs],[sv sBar]])) (.pv (iv 1)) k=k (.cptr [sv sBar]):=fun k=>idxK_strs (l:=[sEqs,sBar]) (i:=1) rfl
  rw[h55b0a,g55b0a]
  by_cases c:i=0
  ·have hmn:min (i:Int) 1=0:=by omega
   have hmn2:¬(i:Int)+1=0:=by omega
   rw[if_pos c,z_sEqs] at hacc
   have c1:=fun k=>cat_k (t:=9) (k:=k) (sEqs) (y.name) (by decide) (by omega)
   have d1:=fun k=>cat_k (t:=9) (k:=k) (acc) (sEqs++y.name) (by omega) (by simp only[ByteArray.size_append,z_sEqs]<;>omega)
   have ha:=pd_args x 0 i x.cons.length y (by omega) hyg.2 (acc++(sEqs++y.name)) (by simp only[ByteArray.size_append,z_sEqs];omega)
   simp[hi,idxK_cns hx,hmn,x0,c1,d1,ha,e0,if_pos c,conT,ByteArray.append_assoc]
  ·have hmn:min (i:Int) 1=1:=by omega
   rw[if_neg c,z_sBar] at hacc
   have c1:=fun k=>cat_k (t:=9) (k:=k) (sBar) (y.name) (by decide) (by omega)
   have d1:=fun k=>cat_k (t:=9) (k:=k) (acc) (sBar++y.name) (by omega) (by simp only[ByteArray.size_append,z_sBar]<;>omega)
   have ha:=pd_args x 0 i x.cons.length y (by omega) hyg.2 (acc++(sBar++y.name)) (by simp only[ByteArray.size_append,z_sBar];omega)
   simp[hi,idxK_cns hx,hmn,x1,c1,d1,ha,e0,if_neg c,conT,ByteArray.append_assoc]
 ·show body PG EE TT ev (q55b0a (iv (x.cons.length:Int)) (iv x.cons.length) (cns x.cons) (sv acc) (sv x.name) (strs x.params) (cns x.cons) (strs x.deriv) (iv x.at_))=_
  rw[h55b0a,g55b0a]
  simp
theorem pd_head(nm:ByteArray)(ps:List ByteArray)(hn:nm.size≤100000000)(hp:szS ps≤1100000):∃f:List ByteArray,joinB f sSp=(sDt0++(sSp++nm))++lsi sSp sSp ps 0∧f.length≤4000000∧f=sDt0::nm::ps:=by
 refine⟨_,?_,?_,rfl⟩
 ·rw[join_lsi,lsi,if_neg (by decide),lsi_succ sSp sSp ps 1 0]
  cases ps with
  |nil=>rw[lsi,lsi,app_eB];rw[app_eB]
  |cons p l=>rw[lsi,lsi,if_neg (by decide),if_pos rfl,lsi_succ sSp sSp l 1 0];simp only[ByteArray.append_assoc]
 ·have:=szS_len ps
  simp only[List.length_cons]
  omega
theorem szD(d:Dt)(hz:d.size≤1100000):(((sDt0++(sSp++d.name))++lsi sSp sSp d.params 0)++lsi sEqs sBar (d.cons.map conT) 0).size≤600*d.size:=by
 have h1:=lsi_size sSp sSp (by decide) (by decide) d.params 0
 have h2:=lsi_size sEqs sBar (by decide) (by decide) (d.cons.map conT) 0
 have h3:=cons_size d.cons
 have h5:=d.size_eq
 simp only[ByteArray.size_append,z_sDt0,z_sSp]
 omega
theorem pdata_x(d:Dt)(hg:d.good=true)(hz:d.size≤1100000):ev (q55 (sv d.name) (strs d.params) (cns d.cons) (strs d.deriv) (iv d.at_))=some (0,[sv (dataT d)]):=by
 unfold Dt.good at hg
 simp only[Bool.and_eq_true] at hg
 have hds:=d.size_eq
 have hlp:=szS_len d.params
 have hld:=szS_len d.deriv
 have hB:=szD d hz
 have h1:=lsi_size sSp sSp (by decide) (by decide) d.params 0
 have h22:=lsi_size sEqs sBar (by decide) (by decide) (d.cons.map conT) 0
 have h23:=cons_size d.cons
 obtain⟨f,hf,hfl,hfe⟩:=pd_head d.name d.params (by omega) (by omega)
 have hj:=join_g f sSp hfl (by rw[hf];simp only[ByteArray.size_append,z_sDt0,z_sSp];omega)
 rw[hf] at hj
 have hc:=pd_cons d hz hg.2.2.2.1 (((sDt0++(sSp++d.name))++lsi sSp sSp d.params 0)) (by simp only[ByteArray.size_append,z_sDt0,z_sSp];omega)
 refine Evl.of ?_
 have hdat:dataT d=(((sDt0++(sSp++d.name))++lsi sSp sSp d.params 0)++lsi sEqs sBar (d.cons.map conT) 0)++(derT d.deriv++sSc):=by
  unfold dataT
  simp only[←ByteArray.append_assoc]
  rfl
 rw[h55,g55,hdat]
 have hjoin:ev (q97 (.rows (sL (sDt0::d.name::d.params))) (sv sSp))=some (0,[sv ((sDt0++(sSp++d.name))++lsi sSp sSp d.params 0)]):=by rw[←hfe];exact hj
 have hder:∀v l,d.deriv=v::l→ev (q97 (strs (v::l)) (sv sCom))=some (0,[sv (joinB (v::l) sCom)])∧lsi sDer sCom (v::l) 0=sDer++joinB (v::l) sCom∧(joinB (v::l) sCom).size≤20000000:=by
  intro v l hv
  have e:=lsi_join sDer sCom v l
  have e2:=lsi_size sDer sCom (by decide) (by decide) (v::l) 0
  rw[←hv] at e2
  have e3:(joinB (v::l) sCom).size≤20000000:=by
   have e4:(lsi sDer sCom d.deriv 0).size≤20000000:=by omega
   rw[hv,e,ByteArray.size_append] at e4
   omega
  exact⟨join_g (v::l) sCom (by rw[←hv];omega) (by omega),e,e3⟩
 cases hd:d.deriv with
 |nil=>
  have c1:=fun k=>cat_k (t:=9) (k:=k) ((((sDt0++(sSp++d.name))++lsi sSp sSp d.params 0)++lsi sEqs sBar (d.cons.map conT) 0)) (sSc) (by simp only[ByteArray.size_append,z_sBar,z_sDt0,z_sEqs,z_sSp]<;>omega) (by decide)
  rw[hd] at hc
  rw[derT_nil,eB_app]
  cases hp:d.params with
  |nil=>
   have a1:∀k:PV→Res,appK PG .fail 70 (.pv (.rows [[sv sDt0],[sv d.name]])) (.pv (strs [])) k=.fail:=fun k=>appK_no rfl
   have a2:∀k:Res,app0K PG .fail 70 (.pv (.rows [[sv sDt0],[sv d.name]])) (.pv (strs [])) k=k:=fun k=>app0K_yes [[sv sDt0],[sv d.name]]
   rw[hp] at hjoin hc c1
   have hjn:ev (q97 (.rows [[sv sDt0],[sv d.name]]) (sv sSp))=_:=hjoin
   simp[a1,a2,hjn,hc,c1]
  |cons p l=>
   have a1:∀k:PV→Res,appK PG .fail 70 (.pv (.rows [[sv sDt0],[sv d.name]])) (.pv (strs (p::l))) k=k (.rows (sL (sDt0::d.name::p::l))):=fun k=>app_strs [sDt0,d.name] (p::l) (by simp) (by rw[←hp];simp;omega)
   have a2:∀k:Res,app0K PG .fail 70 (.pv (.rows [[sv sDt0],[sv d.name]])) (.pv (strs (p::l))) k=.fail:=fun k=>app0K_no (a:=[sv p]) (l:=sL l) rfl
   rw[hp] at hjoin hc c1
   simp[a1,a2,hjoin,hc,c1]
 |cons v l=>
  obtain⟨hj2,hl2,hz2⟩:=hder v l hd
  rw[derT_cons,hl2]
  have c1:=fun k=>cat_k (t:=9) (k:=k) (sDer) (joinB (v::l) sCom) (by decide) (by omega)
  have c2:=fun k=>cat_k (t:=9) (k:=k) (sDer++joinB (v::l) sCom) (sRb) (by simp only[ByteArray.size_append,z_sCom,z_sDer]<;>omega) (by decide)
  have d1:=fun k=>cat_k (t:=9) (k:=k) ((((sDt0++(sSp++d.name))++lsi sSp sSp d.params 0)++lsi sEqs sBar (d.cons.map conT) 0)) ((sDer++joinB (v::l) sCom)++sRb) (by simp only[ByteArray.size_append,z_sBar,z_sDt0,z_sEqs,z_sSp]<;>omega) (by simp only[ByteArray.size_append,z_sCom,z_sDer,z_sRb]<;>omega)
  have d2:=fun k=>cat_k (t:=9) (k:=k) (((((sDt0++(sSp++d.name))++lsi sSp sSp d.params 0)++lsi sEqs sBar (d.cons.map conT) 0))++((sDer++joinB (v::l) sCom)++sRb)) (sSc) (by simp only[ByteArray.size_append,z_sBar,z_sCom,z_sDer,z_sDt0,z_sEqs,z_sRb,z_sSp]<;>omega) (by decide)
  rw[hd] at hc
  have hlen:0<(v::l).length:=by simp
  cases hp:d.params with
  |nil=>
   have a1:∀k:PV→Res,appK PG .fail 70 (.pv (.rows [[sv sDt0],[sv d.name]])) (.pv (strs [])) k=.fail:=fun k=>appK_no rfl
   have a2:∀k:Res,app0K PG .fail 70 (.pv (.rows [[sv sDt0],[sv d.name]])) (.pv (strs [])) k=k:=fun k=>app0K_yes [[sv sDt0],[sv d.name]]
   rw[hp] at hjoin hc d1 d2
   have hjn:ev (q97 (.rows [[sv sDt0],[sv d.name]]) (sv sSp))=_:=hjoin
   simp[-List.length_cons,a1,a2,hjn,hc,hlen,hj2,c1,c2,d1,d2]
   all_goals (try simp only[ByteArray.append_assoc])
  |cons p m=>
   have a1:∀k:PV→Res,appK PG .fail 70 (.pv (.rows [[sv sDt0],[sv d.name]])) (.pv (strs (p::m))) k=k (.rows (sL (sDt0::d.name::p::m))):=fun k=>app_strs [sDt0,d.name] (p::m) (by simp) (by rw[←hp];simp;omega)
   have a2:∀k:Res,app0K PG .fail 70 (.pv (.rows [[sv sDt0],[sv d.name]])) (.pv (strs (p::m))) k=.fail:=fun k=>app0K_no (a:=[sv p]) (l:=sL m) rfl
   rw[hp] at hjoin hc d1 d2
   simp[-List.length_cons,a1,a2,hjoin,hc,hlen,hj2,c1,c2,d1,d2]
   all_goals (try simp only[ByteArray.append_assoc])
theorem pc_def(l:List Bd)(hz:Bd.sizes l≤1100000)(hg:∀b∈l,b.good=true)(s:ByteArray)(hs:s.size+600*Bd.sizes l≤800000000):ev (q57b2a (iv 0) (iv l.length) (bds l) (sv (s)))=some (0,[sv (s++pre bindT l)]):=by
 have hl:=Bd.len_le l
 have hb:=binds_size l hg
 refine cat_ev l (fun y=>sSp++bindT y) (pre bindT) (by rw[pre]) (pre_cons bindT) (fun i acc=>q57b2a (iv (i:Int)) (iv l.length) (bds l) (sv (acc))) (fun aa=>(0,[sv (aa)])) 800000000 (by omega) (fun i j y acc e0 hx hm hi hacc=>?_) (fun acc=>?_) s (by omega)
 ·rw[ByteArray.size_append,z_sSp] at hacc
  show body PG EE TT ev (q57b2a (iv (i:Int)) (iv l.length) (bds l) (sv (acc)))=_
  rw[h57b2a,g57b2a]
  have hyz:=Bd.mem_le hm
  have hyg:=hg y hm
  have ha:=pbind_x y hyg (by omega)
  have hys:=bindT_size y hyg
  have c1:=fun k=>cat_k (t:=9) (k:=k) (sSp) (bindT y) (by decide) (by omega)
  have d1:=fun k=>cat_k (t:=9) (k:=k) (acc) (sSp++bindT y) (by omega) (by simp only[ByteArray.size_append,z_sSp]<;>omega)
  simp[hi,idxK_bds hx,ha,c1,d1,e0]
 ·show body PG EE TT ev (q57b2a (iv (l.length:Int)) (iv l.length) (bds l) (sv (acc)))=_
  rw[h57b2a,g57b2a]
  simp
theorem pi_def(l:List Bd)(hz:Bd.sizes l≤1100000)(hg:∀b∈l,b.good=true)(s:ByteArray)(hs:s.size+600*Bd.sizes l≤800000000):ev (q59b2a (iv 0) (iv l.length) (bds l) (sv (s)))=some (0,[sv (s++pre bindT l)]):=by
 have hl:=Bd.len_le l
 have hb:=binds_size l hg
 refine cat_ev l (fun y=>sSp++bindT y) (pre bindT) (by rw[pre]) (pre_cons bindT) (fun i acc=>q59b2a (iv (i:Int)) (iv l.length) (bds l) (sv (acc))) (fun aa=>(0,[sv (aa)])) 800000000 (by omega) (fun i j y acc e0 hx hm hi hacc=>?_) (fun acc=>?_) s (by omega)
 ·rw[ByteArray.size_append,z_sSp] at hacc
  show body PG EE TT ev (q59b2a (iv (i:Int)) (iv l.length) (bds l) (sv (acc)))=_
  rw[h59b2a,g59b2a]
  have hyz:=Bd.mem_le hm
  have hyg:=hg y hm
  have ha:=pbind_x y hyg (by omega)
  have hys:=bindT_size y hyg
  have c1:=fun k=>cat_k (t:=9) (k:=k) (sSp) (bindT y) (by decide) (by omega)
  have d1:=fun k=>cat_k (t:=9) (k:=k) (acc) (sSp++bindT y) (by omega) (by simp only[ByteArray.size_append,z_sSp]<;>omega)
  simp[hi,idxK_bds hx,ha,c1,d1,e0]
 ·show body PG EE TT ev (q59b2a (iv (l.length:Int)) (iv l.length) (bds l) (sv (acc)))=_
  rw[h59b2a,g59b2a]
  simp
theorem pc_met(x:Cl)(l:List Md)(hx0:x.methods=l)(hz:Md.sizes l≤1100000)(hg:∀b∈l,b.good=true)(s:ByteArray)(hs:s.size+600*Md.sizes l≤800000000):ev (q57b0a (iv 0) (iv l.length) (mds l) (sv (s)) (sv x.name) (sv x.var) (strs x.supers) (mds x.methods) (bds x.defaults) (iv x.at_))=some (0,[sv x.name,sv x.var,strs x.supers,mds x.methods,bds x.defaults,iv x.at_,sv (s++pre mthT l)]):=by
 have hl:=Md.len_le l
 have hb:=mths_size l
 refine cat_ev l (fun y=>sSp++mthT y) (pre mthT) (by rw[pre]) (pre_cons mthT) (fun i acc=>q57b0a (iv (i:Int)) (iv l.length) (mds l) (sv (acc)) (sv x.name) (sv x.var) (strs x.supers) (mds x.methods) (bds x.defaults) (iv x.at_)) (fun aa=>(0,[sv x.name,sv x.var,strs x.supers,mds x.methods,bds x.defaults,iv x.at_,sv (aa)])) 800000000 (by omega) (fun i j y acc e0 hx hm hi hacc=>?_) (fun acc=>?_) s (by omega)
 ·rw[ByteArray.size_append,z_sSp] at hacc
  show body PG EE TT ev (q57b0a (iv (i:Int)) (iv l.length) (mds l) (sv (acc)) (sv x.name) (sv x.var) (strs x.supers) (mds x.methods) (bds x.defaults) (iv x.at_))=_
  rw[h57b0a,g57b0a]
  have hyz:=Md.mem_le hm
  have hyg:=hg y hm
  unfold Md.good at hyg
  rw[Bool.and_eq_true] at hyg
  have hys:=y.size_eq
  have hms:=mthT_size y
  have hnb:=nmB_size y.name
  have htb:=y.t.txt_size
  have h1:=name_x y.name (by omega)
  have h2:ev (q44 (iv y.t.kind) (sv y.t.name) (iv y.t.n) (tys y.t.kids))=_:=p_txt 2000000 y.t (by omega) (Nat.le_refl _) hyg.2
  have hmt:mthT y=((nmB y.name++sCol)++y.t.txt)++sSc:=rfl
  rw[hmt] at hacc hms
  simp only[ByteArray.size_append,z_sCol,z_sSc] at hacc hms
  have c1:=fun k=>cat_k (t:=9) (k:=k) (sSp) (nmB y.name) (by decide) (by omega)
  have c2:=fun k=>cat_k (t:=9) (k:=k) (sSp++nmB y.name) (sCol) (by simp only[ByteArray.size_append,z_sSp]<;>omega) (by decide)
  have c3:=fun k=>cat_k (t:=9) (k:=k) ((sSp++nmB y.name)++sCol) (y.t.txt) (by simp only[ByteArray.size_append,z_sCol,z_sSp]<;>omega) (by omega)
  have c4:=fun k=>cat_k (t:=9) (k:=k) (((sSp++nmB y.name)++sCol)++y.t.txt) (sSc) (by simp only[ByteArray.size_append,z_sCol,z_sSp]<;>omega) (by decide)
  have d1:=fun k=>cat_k (t:=9) (k:=k) (acc) ((((sSp++nmB y.name)++sCol)++y.t.txt)++sSc) (by omega) (by simp only[ByteArray.size_append,z_sCol,z_sSc,z_sSp]<;>omega)
  simp[hi,idxK_mds hx,h1,h2,c1,c2,c3,c4,d1,e0]
  all_goals (try simp only[hmt,ByteArray.append_assoc])
 ·show body PG EE TT ev (q57b0a (iv (l.length:Int)) (iv l.length) (mds l) (sv (acc)) (sv x.name) (sv x.var) (strs x.supers) (mds x.methods) (bds x.defaults) (iv x.at_))=_
  rw[h57b0a,g57b0a]
  simp
theorem pclass_x(c:Cl)(hg:c.good=true)(hz:c.size≤1100000):ev (q57 (sv c.name) (sv c.var) (strs c.supers) (mds c.methods) (bds c.defaults) (iv c.at_))=some (0,[sv (classT c)]):=by
 have hg0:=hg
 unfold Cl.good at hg
 simp only[Bool.and_eq_true] at hg
 have hcs:=c.size_eq
 have hls:=szS_len c.supers
 have hzm:=mths_size c.methods
 have hzd:=binds_size c.defaults (all_mem hg.2.2.2.2)
 have c1:=fun k=>cat_k (t:=9) (k:=k) (sCls) (c.name) (by decide) (by omega)
 have c2:=fun k=>cat_k (t:=9) (k:=k) (sCls++c.name) (sSp) (by simp only[ByteArray.size_append,z_sCls]<;>omega) (by decide)
 have c3:=fun k=>cat_k (t:=9) (k:=k) ((sCls++c.name)++sSp) (c.var) (by simp only[ByteArray.size_append,z_sCls,z_sSp]<;>omega) (by omega)
 refine Evl.of ?_
 rw[h57,g57]
 cases hsup:c.supers with
 |nil=>
  have e1:=fun k=>cat_k (t:=9) (k:=k) (((sCls++c.name)++sSp)++c.var) (sWh) (by simp only[ByteArray.size_append,z_sCls,z_sSp]<;>omega) (by decide)
  have hm:=pc_met c c.methods rfl (by omega) (all_mem hg.2.2.2.1) ((((sCls++c.name)++sSp)++c.var)++sWh) (by simp only[ByteArray.size_append,z_sCls,z_sSp,z_sWh]<;>omega)
  have hd:=pc_def c.defaults (by omega) (all_mem hg.2.2.2.2) (((((sCls++c.name)++sSp)++c.var)++sWh)++pre mthT c.methods) (by simp only[ByteArray.size_append,z_sCls,z_sSp,z_sWh]<;>omega)
  have f1:=fun k=>cat_k (t:=9) (k:=k) ((((((sCls++c.name)++sSp)++c.var)++sWh)++pre mthT c.methods)++pre bindT c.defaults) (sEnd) (by simp only[ByteArray.size_append,z_sCls,z_sSp,z_sWh]<;>omega) (by decide)
  rw[hsup] at hm
  have hcl:classT c=((((((sCls++c.name)++sSp)++c.var)++sWh)++pre mthT c.methods)++pre bindT c.defaults)++sEnd:=by
   unfold classT
   rw[hsup,lsi,eB_app]
   simp only[ByteArray.append_assoc]
  rw[hcl]
  simp[c1,c2,c3,e1,hm,hd,f1]
 |cons v l=>
  have e:=lsi_join sFrm sCom v l
  have e2:=lsi_size sFrm sCom (by decide) (by decide) (v::l) 0
  rw[←hsup] at e2
  have e3:(joinB (v::l) sCom).size≤20000000:=by
   have e4:(lsi sFrm sCom c.supers 0).size≤20000000:=by omega
   rw[hsup,e,ByteArray.size_append] at e4
   omega
  have hj:ev (q97 (strs (v::l)) (sv sCom))=_:=join_g (v::l) sCom (by rw[←hsup];omega) (by omega)
  have hlen:0<(v::l).length:=by simp
  have d1:=fun k=>cat_k (t:=9) (k:=k) (sFrm) (joinB (v::l) sCom) (by decide) (by omega)
  have e1:=fun k=>cat_k (t:=9) (k:=k) (((sCls++c.name)++sSp)++c.var) (sFrm++joinB (v::l) sCom) (by simp only[ByteArray.size_append,z_sCls,z_sSp]<;>omega) (by simp only[ByteArray.size_append,z_sCom,z_sFrm]<;>omega)
  have e2:=fun k=>cat_k (t:=9) (k:=k) ((((sCls++c.name)++sSp)++c.var)++(sFrm++joinB (v::l) sCom)) (sWh) (by simp only[ByteArray.size_append,z_sCls,z_sCom,z_sFrm,z_sSp]<;>omega) (by decide)
  have hm:=pc_met c c.methods rfl (by omega) (all_mem hg.2.2.2.1) (((((sCls++c.name)++sSp)++c.var)++(sFrm++joinB (v::l) sCom))++sWh) (by simp only[ByteArray.size_append,z_sCls,z_sCom,z_sFrm,z_sSp,z_sWh]<;>omega)
  have hd:=pc_def c.defaults (by omega) (all_mem hg.2.2.2.2) ((((((sCls++c.name)++sSp)++c.var)++(sFrm++joinB (v::l) sCom))++sWh)++pre mthT c.methods) (by simp only[ByteArray.size_append,z_sCls,z_sCom,z_sFrm,z_sSp,z_sWh]<;>omega)
  have f1:=fun k=>cat_k (t:=9) (k:=k) (((((((sCls++c.name)++sSp)++c.var)++(sFrm++joinB (v::l) sCom))++sWh)++pre mthT c.methods)++pre bindT c.defaults) (sEnd) (by simp only[ByteArray.size_append,z_sCls,z_sCom,z_sFrm,z_sSp,z_sWh]<;>omega) (by decide)
  rw[hsup] at hm
  have hcl:classT c=(((((((sCls++c.name)++sSp)++c.var)++(sFrm++joinB (v::l) sCom))++sWh)++pre mthT c.methods)++pre bindT c.defaults)++sEnd:=by
   unfold classT
   rw[hsup,e]
   simp only[ByteArray.append_assoc]
  rw[hcl]
  simp[-List.length_cons,c1,c2,c3,hlen,hj,d1,e1,e2,hm,hd,f1]
theorem pi_ctx(x:It)(l:List Pd)(hx0:x.ctx=l)(hz:Pd.sizes l≤1100000)(s:ByteArray)(hs:s.size+400*Pd.sizes l≤800000000):ev (q59b0a (iv 0) (iv l.length) (pds l) (sv s) (sv x.cls) (iv x.head.kind) (sv x.head.name) (iv x.head.n) (tys x.head.kids) (pds x.ctx) (bds x.binds) (iv x.at_))=some (0,[sv x.cls,iv x.head.kind,sv x.head.name,iv x.head.n,tys x.head.kids,pds x.ctx,bds x.binds,iv x.at_,sv (s++lsi sFrm sCom (l.map ctxT) 0)]):=by
 have hl:=Pd.len_le l
 have h2:=lsi_size sFrm sCom (by decide) (by decide) (l.map ctxT) 0
 have h3:=ctxs_size l
 refine cat_evi l (fun i y=>(if i=0 then sFrm else sCom)++ctxT y) (fun l i=>lsi sFrm sCom (l.map ctxT) i) (fun i=>by rw[List.map_nil,lsi]) (fun y l i=>lsi_map ctxT sFrm sCom y l i) (fun i acc=>q59b0a (iv (i:Int)) (iv l.length) (pds l) (sv acc) (sv x.cls) (iv x.head.kind) (sv x.head.name) (iv x.head.n) (tys x.head.kids) (pds x.ctx) (bds x.binds) (iv x.at_)) (fun a=>(0,[sv x.cls,iv x.head.kind,sv x.head.name,iv x.head.n,tys x.head.kids,pds x.ctx,bds x.binds,iv x.at_,sv a])) 800000000 (by omega) (fun i j y acc e0 hx hm hi hacc=>?_) (fun acc=>?_) s (by omega)
 ·have hyz:=Pd.mem_le hm
  have hys:=y.size_eq
  have hts:=y.t.size_eq
  rw[ByteArray.size_append] at hacc
  have hct:(ctxT y).size=y.cls.size+1+y.t.name.size:=by unfold ctxT;simp only[ByteArray.size_append,z_sSp]
  show body PG EE TT ev (q59b0a (iv (i:Int)) (iv l.length) (pds l) (sv acc) (sv x.cls) (iv x.head.kind) (sv x.head.name) (iv x.head.n) (tys x.head.kids) (pds x.ctx) (bds x.binds) (iv x.at_))=_
  have x0:∀k:AV→Res,idxK PG .fail 70 (.pv (.rows [[sv sFrm],[sv sCom]])) (.pv (iv 0)) k=k (.cptr [sv sFrm]):=fun k=>idxK_strs (l:=[sFrm,sCom]) (i:=0) rfl
  have x1:∀k:AV→Res,idxK PG .fail 70 (.pv (.rows [[sv sFrm],[sv sCom]])) (.pv (iv 1)) k=k (.cptr [sv sCom]):=fun k=>idxK_strs (l:=[sFrm,sCom]) (i:=1) rfl
  rw[h59b0a,g59b0a]
  by_cases c:i=0
  ·have hmn:min (i:Int) 1=0:=by omega
   rw[if_pos c,z_sFrm] at hacc
   have c1:=fun k=>cat_k (t:=9) (k:=k) (sFrm) (y.cls) (by decide) (by omega)
   have c2:=fun k=>cat_k (t:=9) (k:=k) (sFrm++y.cls) (sSp) (by simp only[ByteArray.size_append,z_sFrm]<;>omega) (by decide)
   have c3:=fun k=>cat_k (t:=9) (k:=k) ((sFrm++y.cls)++sSp) (y.t.name) (by simp only[ByteArray.size_append,z_sFrm,z_sSp]<;>omega) (by omega)
   have d1:=fun k=>cat_k (t:=9) (k:=k) (acc) ((((sFrm++y.cls)++sSp)++y.t.name)) (by omega) (by simp only[ByteArray.size_append,z_sFrm,z_sSp]<;>omega)
   simp[hi,idxK_pds hx,hmn,x0,c1,c2,c3,d1,e0,if_pos c,ctxT]
   all_goals (try simp only[ByteArray.append_assoc])
  ·have hmn:min (i:Int) 1=1:=by omega
   rw[if_neg c,z_sCom] at hacc
   have c1:=fun k=>cat_k (t:=9) (k:=k) (sCom) (y.cls) (by decide) (by omega)
   have c2:=fun k=>cat_k (t:=9) (k:=k) (sCom++y.cls) (sSp) (by simp only[ByteArray.size_append,z_sCom]<;>omega) (by decide)
   have c3:=fun k=>cat_k (t:=9) (k:=k) ((sCom++y.cls)++sSp) (y.t.name) (by simp only[ByteArray.size_append,z_sCom,z_sSp]<;>omega) (by omega)
   have d1:=fun k=>cat_k (t:=9) (k:=k) (acc) ((((sCom++y.cls)++sSp)++y.t.name)) (by omega) (by simp only[ByteArray.size_append,z_sCom,z_sSp]<;>omega)
   simp[hi,idxK_pds hx,hmn,x1,c1,c2,c3,d1,e0,if_neg c,ctxT]
   all_goals (try simp only[ByteArray.append_assoc])
 ·show body PG EE TT ev (q59b0a (iv (l.length:Int)) (iv l.length) (pds l) (sv acc) (sv x.cls) (iv x.head.kind) (sv x.head.name) (iv x.head.n) (tys x.head.kids) (pds x.ctx) (bds x.binds) (iv x.at_))=_
  rw[h59b0a,g59b0a]
  simp
theorem pinst_x(x:It)(hg:x.good=true)(hz:x.size≤1100000):ev (q59 (sv x.cls) (iv x.head.kind) (sv x.head.name) (iv x.head.n) (tys x.head.kids) (pds x.ctx) (bds x.binds) (iv x.at_))=some (0,[sv (instT x)]):=by
 unfold It.good at hg
 simp only[Bool.and_eq_true] at hg
 have hxs:=x.size_eq
 have hx1:=lsi_size sFrm sCom (by decide) (by decide) (x.ctx.map ctxT) 0
 have hx2:=ctxs_size x.ctx
 have hzd:=binds_size x.binds (all_mem hg.2.2.2)
 have hx4:=atx_size x.head
 have ha:=patx_x x.head hg.2.1 (by omega)
 have c1:=fun k=>cat_k (t:=9) (k:=k) (sIns) (x.cls) (by decide) (by omega)
 have c2:=fun k=>cat_k (t:=9) (k:=k) (sIns++x.cls) (sSp) (by simp only[ByteArray.size_append,z_sIns]<;>omega) (by decide)
 have c3:=fun k=>cat_k (t:=9) (k:=k) ((sIns++x.cls)++sSp) (x.head.atx) (by simp only[ByteArray.size_append,z_sIns,z_sSp]<;>omega) (by omega)
 have d1:=fun k=>cat_k (t:=9) (k:=k) ((((sIns++x.cls)++sSp)++x.head.atx)++lsi sFrm sCom (x.ctx.map ctxT) 0) (sWh) (by simp only[ByteArray.size_append,z_sCom,z_sFrm,z_sIns,z_sSp]<;>omega) (by decide)
 have e1:=fun k=>cat_k (t:=9) (k:=k) ((((((sIns++x.cls)++sSp)++x.head.atx)++lsi sFrm sCom (x.ctx.map ctxT) 0)++sWh)++pre bindT x.binds) (sEnd) (by simp only[ByteArray.size_append,z_sCom,z_sFrm,z_sIns,z_sSp,z_sWh]<;>omega) (by decide)
 have hc:=pi_ctx x x.ctx rfl (by omega) (((sIns++x.cls)++sSp)++x.head.atx) (by simp only[ByteArray.size_append,z_sIns,z_sSp]<;>omega)
 have hd:=pi_def x.binds (by omega) (all_mem hg.2.2.2) (((((sIns++x.cls)++sSp)++x.head.atx)++lsi sFrm sCom (x.ctx.map ctxT) 0)++sWh) (by simp only[ByteArray.size_append,z_sCom,z_sFrm,z_sIns,z_sSp,z_sWh]<;>omega)
 have hin:instT x=((((((sIns++x.cls)++sSp)++x.head.atx)++lsi sFrm sCom (x.ctx.map ctxT) 0)++sWh)++pre bindT x.binds)++sEnd:=by
  unfold instT
  simp only[ByteArray.append_assoc]
 refine Evl.of ?_
 rw[h59,g59,hin]
 simp[c1,c2,c3,d1,e1,ha,hc,hd]
theorem cl_defs{c:Cl}(h:c.good=true):∀b∈c.defaults,b.good=true:=by
 unfold Cl.good at h
 simp only[Bool.and_eq_true] at h
 exact all_mem h.2.2.2.2
theorem it_defs{c:It}(h:c.good=true):∀b∈c.binds,b.good=true:=by
 unfold It.good at h
 simp only[Bool.and_eq_true] at h
 exact all_mem h.2.2.2
theorem pl_Dt(l:List Dt)(hz:Dt.sizes l≤1100000)(hg:∀b∈l,b.good=true)(s:ByteArray)(hs:s.size+600*Dt.sizes l≤800000000):ev (q54ab0a (iv 0) (iv l.length) (dts l) (sv (s)))=some (0,[sv (s++lns dataT l)]):=by
 have hl:=Dt.len_le l
 have hb:(lns dataT l).size≤600*Dt.sizes l:=by rw[Dt.sizes_eq];exact lns_size _ _ _ l fun y hm=>(fun hyg=>dataT_size y) (hg y hm)
 refine cat_ev l (fun y=>dataT y++sNl) (lns dataT) (by rw[lns]) (lns_cons dataT) (fun i acc=>q54ab0a (iv (i:Int)) (iv l.length) (dts l) (sv (acc))) (fun aa=>(0,[sv (aa)])) 800000000 (by omega) (fun i j y acc e0 hx hm hi hacc=>?_) (fun acc=>?_) s (by omega)
 ·rw[ByteArray.size_append,z_sNl] at hacc
  show body PG EE TT ev (q54ab0a (iv (i:Int)) (iv l.length) (dts l) (sv (acc)))=_
  rw[h54ab0a,g54ab0a]
  have hyz:=Dt.mem_le hm
  have hyg:=hg y hm
  have ha:=pdata_x y hyg (by omega)
  have hys:=dataT_size y
  have c1:=fun k=>cat_k (t:=9) (k:=k) (dataT y) (sNl) (by omega) (by decide)
  have d1:=fun k=>cat_k (t:=9) (k:=k) (acc) (dataT y++sNl) (by omega) (by simp only[ByteArray.size_append,z_sNl]<;>omega)
  simp[hi,idxK_dts hx,ha,c1,d1,e0]
 ·show body PG EE TT ev (q54ab0a (iv (l.length:Int)) (iv l.length) (dts l) (sv (acc)))=_
  rw[h54ab0a,g54ab0a]
  simp
theorem pls_Dt(l:List Dt)(hz:Dt.sizes l≤1100000)(hg:∀b∈l,b.good=true):ev (q54a (dts l))=some (0,[sv (lns dataT l)]):=Evl.of (by
 have h:=pl_Dt l hz hg eB (by rw[z_eB];omega)
 rw[eB_app] at h
 rw[h54a,g54a]
 simp[h])
theorem pl_Cl(l:List Cl)(hz:Cl.sizes l≤1100000)(hg:∀b∈l,b.good=true)(s:ByteArray)(hs:s.size+600*Cl.sizes l≤800000000):ev (q56ab0a (iv 0) (iv l.length) (cls l) (sv (s)))=some (0,[sv (s++lns classT l)]):=by
 have hl:=Cl.len_le l
 have hb:(lns classT l).size≤600*Cl.sizes l:=by rw[Cl.sizes_eq];exact lns_size _ _ _ l fun y hm=>(fun hyg=>classT_size y (cl_defs hyg)) (hg y hm)
 refine cat_ev l (fun y=>classT y++sNl) (lns classT) (by rw[lns]) (lns_cons classT) (fun i acc=>q56ab0a (iv (i:Int)) (iv l.length) (cls l) (sv (acc))) (fun aa=>(0,[sv (aa)])) 800000000 (by omega) (fun i j y acc e0 hx hm hi hacc=>?_) (fun acc=>?_) s (by omega)
 ·rw[ByteArray.size_append,z_sNl] at hacc
  show body PG EE TT ev (q56ab0a (iv (i:Int)) (iv l.length) (cls l) (sv (acc)))=_
  rw[h56ab0a,g56ab0a]
  have hyz:=Cl.mem_le hm
  have hyg:=hg y hm
  have ha:=pclass_x y hyg (by omega)
  have hys:=classT_size y (cl_defs hyg)
  have c1:=fun k=>cat_k (t:=9) (k:=k) (classT y) (sNl) (by omega) (by decide)
  have d1:=fun k=>cat_k (t:=9) (k:=k) (acc) (classT y++sNl) (by omega) (by simp only[ByteArray.size_append,z_sNl]<;>omega)
  simp[hi,idxK_cls hx,ha,c1,d1,e0]
 ·show body PG EE TT ev (q56ab0a (iv (l.length:Int)) (iv l.length) (cls l) (sv (acc)))=_
  rw[h56ab0a,g56ab0a]
  simp
theorem pls_Cl(l:List Cl)(hz:Cl.sizes l≤1100000)(hg:∀b∈l,b.good=true):ev (q56a (cls l))=some (0,[sv (lns classT l)]):=Evl.of (by
 have h:=pl_Cl l hz hg eB (by rw[z_eB];omega)
 rw[eB_app] at h
 rw[h56a,g56a]
 simp[h])
theorem pl_It(l:List It)(hz:It.sizes l≤1100000)(hg:∀b∈l,b.good=true)(s:ByteArray)(hs:s.size+600*It.sizes l≤800000000):ev (q58ab0a (iv 0) (iv l.length) (its l) (sv (s)))=some (0,[sv (s++lns instT l)]):=by
 have hl:=It.len_le l
 have hb:(lns instT l).size≤600*It.sizes l:=by rw[It.sizes_eq];exact lns_size _ _ _ l fun y hm=>(fun hyg=>instT_size y (it_defs hyg)) (hg y hm)
 refine cat_ev l (fun y=>instT y++sNl) (lns instT) (by rw[lns]) (lns_cons instT) (fun i acc=>q58ab0a (iv (i:Int)) (iv l.length) (its l) (sv (acc))) (fun aa=>(0,[sv (aa)])) 800000000 (by omega) (fun i j y acc e0 hx hm hi hacc=>?_) (fun acc=>?_) s (by omega)
 ·rw[ByteArray.size_append,z_sNl] at hacc
  show body PG EE TT ev (q58ab0a (iv (i:Int)) (iv l.length) (its l) (sv (acc)))=_
  rw[h58ab0a,g58ab0a]
  have hyz:=It.mem_le hm
  have hyg:=hg y hm
  have ha:=pinst_x y hyg (by omega)
  have hys:=instT_size y (it_defs hyg)
  have c1:=fun k=>cat_k (t:=9) (k:=k) (instT y) (sNl) (by omega) (by decide)
  have d1:=fun k=>cat_k (t:=9) (k:=k) (acc) (instT y++sNl) (by omega) (by simp only[ByteArray.size_append,z_sNl]<;>omega)
  simp[hi,idxK_its hx,ha,c1,d1,e0]
 ·show body PG EE TT ev (q58ab0a (iv (l.length:Int)) (iv l.length) (its l) (sv (acc)))=_
  rw[h58ab0a,g58ab0a]
  simp
theorem pls_It(l:List It)(hz:It.sizes l≤1100000)(hg:∀b∈l,b.good=true):ev (q58a (its l))=some (0,[sv (lns instT l)]):=Evl.of (by
 have h:=pl_It l hz hg eB (by rw[z_eB];omega)
 rw[eB_app] at h
 rw[h58a,g58a]
 simp[h])
theorem pl_Bd(l:List Bd)(hz:Bd.sizes l≤1100000)(hg:∀b∈l,b.good=true)(s:ByteArray)(hs:s.size+600*Bd.sizes l≤800000000):ev (q60ab0a (iv 0) (iv l.length) (bds l) (sv (s)))=some (0,[sv (s++lns bindT l)]):=by
 have hl:=Bd.len_le l
 have hb:(lns bindT l).size≤600*Bd.sizes l:=by rw[Bd.sizes_eq];exact lns_size _ _ _ l fun y hm=>(fun hyg=>bindT_size y hyg) (hg y hm)
 refine cat_ev l (fun y=>bindT y++sNl) (lns bindT) (by rw[lns]) (lns_cons bindT) (fun i acc=>q60ab0a (iv (i:Int)) (iv l.length) (bds l) (sv (acc))) (fun aa=>(0,[sv (aa)])) 800000000 (by omega) (fun i j y acc e0 hx hm hi hacc=>?_) (fun acc=>?_) s (by omega)
 ·rw[ByteArray.size_append,z_sNl] at hacc
  show body PG EE TT ev (q60ab0a (iv (i:Int)) (iv l.length) (bds l) (sv (acc)))=_
  rw[h60ab0a,g60ab0a]
  have hyz:=Bd.mem_le hm
  have hyg:=hg y hm
  have ha:=pbind_x y hyg (by omega)
  have hys:=bindT_size y hyg
  have c1:=fun k=>cat_k (t:=9) (k:=k) (bindT y) (sNl) (by omega) (by decide)
  have d1:=fun k=>cat_k (t:=9) (k:=k) (acc) (bindT y++sNl) (by omega) (by simp only[ByteArray.size_append,z_sNl]<;>omega)
  simp[hi,idxK_bds hx,ha,c1,d1,e0]
 ·show body PG EE TT ev (q60ab0a (iv (l.length:Int)) (iv l.length) (bds l) (sv (acc)))=_
  rw[h60ab0a,g60ab0a]
  simp
theorem pls_Bd(l:List Bd)(hz:Bd.sizes l≤1100000)(hg:∀b∈l,b.good=true):ev (q60a (bds l))=some (0,[sv (lns bindT l)]):=Evl.of (by
 have h:=pl_Bd l hz hg eB (by rw[z_eB];omega)
 rw[eB_app] at h
 rw[h60a,g60a]
 simp[h])
theorem pprog_x(a:List Dt)(b:List Cl)(c:List It)(d:List Bd)(hz:Dt.sizes a+Cl.sizes b+It.sizes c+Bd.sizes d≤1100000):ev (q21 (dts a) (cls b) (its c) (bds d))=some (0,[sv (if progGood a b c d=true then progT a b c d else eB)]):=by
 have hgd:=pg_prog a b c d (by omega)
 refine Evl.of ?_
 rw[h21,g21]
 cases hG:progGood a b c d
 ·rw[hG] at hgd
  simp[hgd]
 ·rw[hG] at hgd
  unfold progGood at hG
  simp only[Bool.and_eq_true] at hG
  have g1:=all_mem hG.1
  have g2:=all_mem hG.2.1
  have g3:=all_mem hG.2.2.1
  have g4:=all_mem hG.2.2.2
  have l1:=pls_Dt a (by omega) g1
  have l2:=pls_Cl b (by omega) g2
  have l3:=pls_It c (by omega) g3
  have l4:=pls_Bd d (by omega) g4
  have s1:(lns dataT a).size≤600*Dt.sizes a:=by rw[Dt.sizes_eq];exact lns_size _ _ _ a fun y hm=>dataT_size y
  have s2:(lns classT b).size≤600*Cl.sizes b:=by rw[Cl.sizes_eq];exact lns_size _ _ _ b fun y hm=>classT_size y (cl_defs (g2 y hm))
  have s3:(lns instT c).size≤600*It.sizes c:=by rw[It.sizes_eq];exact lns_size _ _ _ c fun y hm=>instT_size y (it_defs (g3 y hm))
  have s4:(lns bindT d).size≤600*Bd.sizes d:=by rw[Bd.sizes_eq];exact lns_size _ _ _ d fun y hm=>bindT_size y (g4 y hm)
  have c1:=fun k=>cat_k (t:=9) (k:=k) (lns dataT a) (lns classT b) (by omega) (by omega)
  have c2:=fun k=>cat_k (t:=9) (k:=k) ((lns dataT a)++lns classT b) (lns instT c) (by simp only[ByteArray.size_append]<;>omega) (by omega)
  have c3:=fun k=>cat_k (t:=9) (k:=k) (((lns dataT a)++lns classT b)++lns instT c) (lns bindT d) (by simp only[ByteArray.size_append]<;>omega) (by omega)
  simp[hgd,l1,l2,l3,l4,c1,c2,c3,progT]
theorem listed_x(sA sB:ByteArray)(l:List ByteArray)(ha:sA.size≤12)(hb:sB.size≤12)(hz:szS l≤50000000)(hl:l.length≤2000000):ev (q62 (.rows (sL l)) (sv sA) (sv sB))=some (0,[sv (lsi sA sB l 0)]):=by
 have h2:=lsi_size sA sB ha hb l 0
 have key:ev (q62b0a (iv 0) (strs l) (sv eB) (sv sA) (sv sB))=some (0,[sv (eB++lsi sA sB l 0)]):=by
  refine cat_evi l (fun i y=>(if i=0 then sA else sB)++y) (lsi sA sB) (fun i=>by rw[lsi]) (fun y l i=>by rw[lsi]) (fun i acc=>q62b0a (iv (i:Int)) (strs l) (sv acc) (sv sA) (sv sB)) (fun a=>(0,[sv a])) 800000000 hl (fun i j y acc e0 hx hm hi hacc=>?_) (fun acc=>?_) eB (by rw[z_eB];omega)
  ·rw[ByteArray.size_append] at hacc
   show body PG EE TT ev (q62b0a (iv (i:Int)) (strs l) (sv acc) (sv sA) (sv sB))=_
   rw[h62b0a,g62b0a]
   by_cases c:i=0
   ·have k2:(i:Int)=0:=by omega
    rw[if_pos c] at hacc
    have c1:=fun k=>cat_k (t:=9) (k:=k) (acc) (sA) (by omega) (by omega)
    have c2:=fun k=>cat_k (t:=9) (k:=k) (acc++sA) (y) (by simp only[ByteArray.size_append]<;>omega) (by omega)
    simp[hi,idxK_strs hx,c1,c2,e0,if_pos c,eq_true c,ByteArray.append_assoc]
   ·have k2:¬(i:Int)=0:=by omega
    rw[if_neg c] at hacc
    have c1:=fun k=>cat_k (t:=9) (k:=k) (acc) (sB) (by omega) (by omega)
    have c2:=fun k=>cat_k (t:=9) (k:=k) (acc++sB) (y) (by simp only[ByteArray.size_append]<;>omega) (by omega)
    simp[hi,idxK_strs hx,c1,c2,e0,if_neg c,c,ByteArray.append_assoc]
  ·show body PG EE TT ev (q62b0a (iv (l.length:Int)) (strs l) (sv acc) (sv sA) (sv sB))=_
   rw[h62b0a,g62b0a]
   simp
 rw[eB_app] at key
 have key2:ev (q62b0a (iv 0) (.rows (sL l)) (sv eB) (sv sA) (sv sB))=_:=key
 refine Evl.of ?_
 rw[h62,g62]
 simp[key2]
theorem acc_from{α:Type}(l:List α)(f:α→ByteArray)(q:Nat→List ByteArray→Q)(fin:List ByteArray→Rs)(hl:l.length≤2000000)
  (hs:∀(i j:Nat) (x:α) (acc:List ByteArray),IntKind.i64.wrap ((i:Int)+1)=(j:Int)→l[i]? = some x→x∈l→(i:Int)<(l.length:Int)→acc.length=i→body PG EE TT ev (q i acc)=passK (ev (q j (acc++[f x]))))
  (he:∀acc,body PG EE TT ev (q l.length acc)=.ok (fin acc)):∀(m i:Nat) (acc:List ByteArray),i+m=l.length→acc.length=i→ev (q i acc)=some (fin (acc++(l.drop i).map f)):=by
 intro m
 induction m with
 |zero=>intro i acc hi _;rw[Nat.add_zero] at hi;rw[hi,List.drop_length,List.map_nil,List.append_nil];exact Evl.of (he acc)
 |succ m ih=>
  intro i acc hi ha
  have hlt:i<l.length:=by omega
  obtain⟨j,hj⟩:∃j,j=i+1:=⟨_,rfl⟩
  have h1:=hs i j l[i] acc (wone hj (by omega)) (List.getElem?_eq_getElem hlt) (List.getElem_mem hlt) (by omega) ha
  have h2:=ih j (acc++[f l[i]]) (by omega) (by rw[List.length_append,ha,hj];rfl)
  rw[List.drop_eq_getElem_cons hlt,←hj,List.map_cons]
  refine Evl.of ?_
  rw[h1,h2,List.append_assoc]
  rfl
theorem app_one{k:PV→Res}(l:List ByteArray)(x:ByteArray)(hl:l.length≤4000000):appK PG .fail 70 (.pv (.rows (sL l))) (.pv (.rows [[sv x]])) k=k (.rows (sL (l++[x]))):=appK_sL l x hl
theorem rd_args_a(d:Dt)(pa pb pc pd:PV)(tk:List (List PV))(S:ByteArray)(m k:Nat)(c:Cn)(hc:d.cons[k]? = some c)(hz:c.size≤1100000)(hg:c.args.all Ty.good=true):ev (q22b4a (iv 0) (iv (k:Int)) (sv (c.name)) (sv S) (iv (m:Int)) (sv d.name) (strs d.params) (cns d.cons) (strs d.deriv) (iv d.at_) pa pb pc pd)=some (0,[sv d.name,strs d.params,cns d.cons,strs d.deriv,iv d.at_,pa,pb,pc,pd,nS,sv (c.name++Ty.txts c.args),iv (k:Int),sv S,iv (m:Int)]):=by
 have hl:=Ty.len_le c.args
 have hcs:=c.size_eq
 have hb:=Ty.txts_size c.args
 refine cat_ev c.args (fun y=>sSp++y.atx) Ty.txts (by rw[Ty.txts]) Ty.txts_cons (fun i acc=>q22b4a (iv (i:Int)) (iv (k:Int)) (sv (acc)) (sv S) (iv (m:Int)) (sv d.name) (strs d.params) (cns d.cons) (strs d.deriv) (iv d.at_) pa pb pc pd) (fun a=>(0,[sv d.name,strs d.params,cns d.cons,strs d.deriv,iv d.at_,pa,pb,pc,pd,nS,sv (a),iv (k:Int),sv S,iv (m:Int)])) 900000000 (by omega) (fun i j y acc e0 hx hm hi hacc=>?_) (fun acc=>?_) c.name (by omega)
 ·have hyz:=Ty.mem_le hm
  have ha:=ratx_x y (all_mem hg y hm) (by omega)
  rw[ByteArray.size_append,z_sSp] at hacc
  have c1:=fun k=>cat_k (t:=9) (k:=k) (acc) (sSp) (by omega) (by decide)
  have c2:=fun k=>cat_k (t:=9) (k:=k) (acc++sSp) (y.atx) (by simp only[ByteArray.size_append,z_sSp]<;>omega) (by omega)
  show body PG EE TT ev (q22b4a (iv (i:Int)) (iv (k:Int)) (sv (acc)) (sv S) (iv (m:Int)) (sv d.name) (strs d.params) (cns d.cons) (strs d.deriv) (iv d.at_) pa pb pc pd)=_
  rw[h22b4a,g22b4a]
  simp[hi,idxK_cns hc,idxK_tys hx,ha,c1,c2,e0,ByteArray.append_assoc]
 ·show body PG EE TT ev (q22b4a (iv (c.args.length:Int)) (iv (k:Int)) (sv (acc)) (sv S) (iv (m:Int)) (sv d.name) (strs d.params) (cns d.cons) (strs d.deriv) (iv d.at_) pa pb pc pd)=_
  rw[h22b4a,g22b4a]
  simp[idxK_cns hc]
theorem rd_args_b(d:Dt)(pa pb pc pd:PV)(tk:List (List PV))(S:ByteArray)(m k:Nat)(c:Cn)(hc:d.cons[k]? = some c)(hz:c.size≤1100000)(hg:c.args.all Ty.good=true):ev (q22b4b (iv 0) (iv (k:Int)) (sv (c.name)) tk (sv S) (iv (m:Int)) (sv d.name) (strs d.params) (cns d.cons) (strs d.deriv) (iv d.at_) pa pb pc pd)=some (0,[sv d.name,strs d.params,cns d.cons,strs d.deriv,iv d.at_,pa,pb,pc,pd,.rows tk,sv (c.name++Ty.txts c.args),iv (k:Int),sv S,iv (m:Int)]):=by
 have hl:=Ty.len_le c.args
 have hcs:=c.size_eq
 have hb:=Ty.txts_size c.args
 refine cat_ev c.args (fun y=>sSp++y.atx) Ty.txts (by rw[Ty.txts]) Ty.txts_cons (fun i acc=>q22b4b (iv (i:Int)) (iv (k:Int)) (sv (acc)) tk (sv S) (iv (m:Int)) (sv d.name) (strs d.params) (cns d.cons) (strs d.deriv) (iv d.at_) pa pb pc pd) (fun a=>(0,[sv d.name,strs d.params,cns d.cons,strs d.deriv,iv d.at_,pa,pb,pc,pd,.rows tk,sv (a),iv (k:Int),sv S,iv (m:Int)])) 900000000 (by omega) (fun i j y acc e0 hx hm hi hacc=>?_) (fun acc=>?_) c.name (by omega)
 ·have hyz:=Ty.mem_le hm
  have ha:=ratx_x y (all_mem hg y hm) (by omega)
  rw[ByteArray.size_append,z_sSp] at hacc
  have c1:=fun k=>cat_k (t:=9) (k:=k) (acc) (sSp) (by omega) (by decide)
  have c2:=fun k=>cat_k (t:=9) (k:=k) (acc++sSp) (y.atx) (by simp only[ByteArray.size_append,z_sSp]<;>omega) (by omega)
  show body PG EE TT ev (q22b4b (iv (i:Int)) (iv (k:Int)) (sv (acc)) tk (sv S) (iv (m:Int)) (sv d.name) (strs d.params) (cns d.cons) (strs d.deriv) (iv d.at_) pa pb pc pd)=_
  rw[h22b4b,g22b4b]
  simp[hi,idxK_cns hc,idxK_tys hx,ha,c1,c2,e0,ByteArray.append_assoc]
 ·show body PG EE TT ev (q22b4b (iv (c.args.length:Int)) (iv (k:Int)) (sv (acc)) tk (sv S) (iv (m:Int)) (sv d.name) (strs d.params) (cns d.cons) (strs d.deriv) (iv d.at_) pa pb pc pd)=_
  rw[h22b4b,g22b4b]
  simp[idxK_cns hc]
theorem rd_cons(d:Dt)(pa pb pc pd:PV)(S:ByteArray)(m:Nat)(hz:d.size≤1100000)(hg:d.cons.all Cn.good=true)(hn:0<d.cons.length):ev (q22b2a (iv 0) (sv S) (iv (m:Int)) (sv d.name) (strs d.params) (cns d.cons) (strs d.deriv) (iv d.at_) pa pb pc pd)=some (1,[sv d.name,strs d.params,cns d.cons,strs d.deriv,iv d.at_,pa,pb,pc,pd,sv S,.rows (sL (d.cons.map conT)),iv (m:Int)]):=by
 have hds:=d.size_eq
 have hl:=Cn.len_le d.cons
 have lp:=acc_from d.cons conT (fun i acc=>q22b2b (iv (i:Int)) (sL acc) (sv S) (iv (m:Int)) (sv d.name) (strs d.params) (cns d.cons) (strs d.deriv) (iv d.at_) pa pb pc pd) (fun acc=>(1,[sv d.name,strs d.params,cns d.cons,strs d.deriv,iv d.at_,pa,pb,pc,pd,sv S,.rows (sL acc),iv (m:Int)])) (by omega) (fun i j y acc e0 hx hm hi hacc=>by
  have hyz:=Cn.mem_le hm
  have hyg:=all_mem hg y hm
  unfold Cn.good at hyg
  rw[Bool.and_eq_true] at hyg
  have ha:=rd_args_b d pa pb pc pd (sL acc) S m i y hx (by omega) hyg.2
  have hap:=fun k=>app_one (k:=k) acc (conT y) (by omega)
  have hct:y.name++Ty.txts y.args=conT y:=rfl
  rw[hct] at ha
  show body PG EE TT ev (q22b2b (iv (i:Int)) (sL acc) (sv S) (iv (m:Int)) (sv d.name) (strs d.params) (cns d.cons) (strs d.deriv) (iv d.at_) pa pb pc pd)=_
  rw[h22b2b,g22b2b]
  simp[hi,idxK_cns hx,ha,hap,e0]) (fun acc=>by
  show body PG EE TT ev (q22b2b (iv (d.cons.length:Int)) (sL acc) (sv S) (iv (m:Int)) (sv d.name) (strs d.params) (cns d.cons) (strs d.deriv) (iv d.at_) pa pb pc pd)=_
  rw[h22b2b,g22b2b]
  simp)
 cases hc:d.cons with
 |nil=>rw[hc] at hn;cases hn
 |cons y r=>
  have hx:d.cons[0]? = some y:=by rw[hc];rfl
  have hm:y∈d.cons:=by rw[hc];exact List.mem_cons_self
  have hyz:=Cn.mem_le hm
  have hyg:=all_mem hg y hm
  unfold Cn.good at hyg
  rw[Bool.and_eq_true] at hyg
  have ha:=rd_args_a d pa pb pc pd [] S m 0 y hx (by omega) hyg.2
  have hct:y.name++Ty.txts y.args=conT y:=rfl
  rw[hct] at ha
  have l1:=lp (d.cons.length-1) 1 [conT y] (by omega) rfl
  have hdr:d.cons.drop 1=r:=by rw[hc];rfl
  rw[hdr] at l1
  have l2:ev (q22b2b (iv 1) [[sv (conT y)]] (sv S) (iv (m:Int)) (sv d.name) (strs d.params) (cns d.cons) (strs d.deriv) (iv d.at_) pa pb pc pd)=some (1,[sv d.name,strs d.params,cns d.cons,strs d.deriv,iv d.at_,pa,pb,pc,pd,sv S,.rows (sL (conT y::r.map conT)),iv (m:Int)]):=l1
  have hmp:conT y::r.map conT=d.cons.map conT:=by rw[hc];rfl
  rw[hmp] at l2
  have hi:(0:Int)<(d.cons.length:Int):=by omega
  have hx0:∀k:AV→Res,idxK PG .fail 77 (.pv (cns d.cons)) (.pv (iv 0)) k=k (.cptr [sv y.name,tys y.args,iv y.at_]):=fun k=>idxK_cns (i:=0) hx
  have ha0:ev (q22b4a (iv 0) (iv 0) (sv y.name) (sv S) (iv (m:Int)) (sv d.name) (strs d.params) (cns d.cons) (strs d.deriv) (iv d.at_) pa pb pc pd)=some (0,[sv d.name,strs d.params,cns d.cons,strs d.deriv,iv d.at_,pa,pb,pc,pd,nS,sv (conT y),iv 0,sv S,iv (m:Int)]):=ha
  have e01:IntKind.i64.wrap ((0:Int)+1)=1:=by decide
  have e02:IntKind.i64.wrap 1=1:=by decide
  rw[←hc]
  refine Evl.of ?_
  rw[h22b2a,g22b2a]
  simp[hi,hn,hx0,ha0,e01,e02,l2]
theorem rdata_x(a:List Dt)(b:List Cl)(c:List It)(e:List Bd)(hz:Dt.sizes a≤1100000)(hg:∀d∈a,d.good=true)(s:ByteArray)(hs:s.size+600*Dt.sizes a≤800000000):ev (q22b0a (iv 0) (sv s) (dts a) (cls b) (its c) (bds e))=some (0,[dts a,cls b,its c,bds e,sv (s++lns dataT a)]):=by
 have hl:=Dt.len_le a
 have hb:(lns dataT a).size≤600*Dt.sizes a:=by rw[Dt.sizes_eq];exact lns_size _ _ _ a fun y _=>dataT_size y
 refine cat_ev a (fun d=>dataT d++sNl) (lns dataT) (by rw[lns]) (lns_cons dataT) (fun i acc=>q22b0a (iv (i:Int)) (sv acc) (dts a) (cls b) (its c) (bds e)) (fun x=>(0,[dts a,cls b,its c,bds e,sv x])) 800000000 (by omega) (fun i j d acc e0 hx hm hi hacc=>?_) (fun acc=>?_) s (by omega)
 ·have hdz:=Dt.mem_le hm
  have hdg:=hg d hm
  unfold Dt.good at hdg
  simp only[Bool.and_eq_true,decide_eq_true_eq] at hdg
  have hds:=d.size_eq
  have hcz:=cons_size d.cons
  have hlp:=szS_len d.params
  have hlc:=Cn.len_le d.cons
  have hld:=szS_len d.deriv
  have z1:=lsi_size sSp sSp (by decide) (by decide) d.params 0
  have z2:=lsi_size sEqs sBar (by decide) (by decide) (d.cons.map conT) 0
  have z3:=lsi_size sDer sCom (by decide) (by decide) d.deriv 0
  have hc:=rd_cons d (dts a) (cls b) (its c) (bds e) acc i (by omega) hdg.2.2.2.1 hdg.2.2.1
  have p1:ev (q62 (strs d.params) (sv sSp) (sv sSp))=_:=listed_x sSp sSp d.params (by decide) (by decide) (by omega) (by omega)
  have p2:=listed_x sEqs sBar (d.cons.map conT) (by decide) (by decide) (by omega) (by rw[List.length_map];omega)
  have p3:ev (q62 (strs d.deriv) (sv sDer) (sv sCom))=_:=listed_x sDer sCom d.deriv (by decide) (by decide) (by omega) (by omega)
  have hscn:sScn=sSc++sNl:=by decide
  have hE:acc.size+(5+(d.name.size+((lsi sSp sSp d.params 0).size+(lsi sEqs sBar (d.cons.map conT) 0).size)))≤800000000:=by
   have h:=hacc
   unfold dataT at h
   simp only[ByteArray.size_append,z_sDat,z_sNl,z_sSc] at h
   omega
  have c1:=fun k=>cat_k (t:=9) (k:=k) (acc) (sDat) (by omega) (by decide)
  have c2:=fun k=>cat_k (t:=9) (k:=k) (acc++sDat) (d.name) (by simp only[ByteArray.size_append,z_sDat]<;>omega) (by omega)
  have c3:=fun k=>cat_k (t:=9) (k:=k) ((acc++sDat)++d.name) (lsi sSp sSp d.params 0) (by simp only[ByteArray.size_append,z_sDat]<;>omega) (by omega)
  have c4:=fun k=>cat_k (t:=9) (k:=k) (((acc++sDat)++d.name)++lsi sSp sSp d.params 0) (lsi sEqs sBar (d.cons.map conT) 0) (by simp only[ByteArray.size_append,z_sDat,z_sSp]<;>omega) (by omega)
  show body PG EE TT ev (q22b0a (iv (i:Int)) (sv acc) (dts a) (cls b) (its c) (bds e))=_
  rw[h22b0a,g22b0a]
  unfold dataT
  cases hd:d.deriv with
  |nil=>
   have d1:=fun k=>cat_k (t:=9) (k:=k) ((((acc++sDat)++d.name)++lsi sSp sSp d.params 0)++lsi sEqs sBar (d.cons.map conT) 0) (sScn) (by simp only[ByteArray.size_append,z_sBar,z_sDat,z_sEqs,z_sSp]<;>omega) (by decide)
   rw[hd] at hc hds z3 p3 hld
   simp[hi,idxK_dts hx,hd,hc,p1,p2,c1,c2,c3,c4,d1,e0,derT_nil]
   all_goals (try rw[hscn])
   all_goals (try simp only[ByteArray.append_assoc,eB_app])
  |cons v l=>
   have hlen:0<(v::l).length:=by simp
   rw[hd] at hc hds z3 p3 hld
   have d1:=fun k=>cat_k (t:=9) (k:=k) ((((acc++sDat)++d.name)++lsi sSp sSp d.params 0)++lsi sEqs sBar (d.cons.map conT) 0) (lsi sDer sCom (v::l) 0) (by simp only[ByteArray.size_append,z_sBar,z_sDat,z_sEqs,z_sSp]<;>omega) (by omega)
   have d2:=fun k=>cat_k (t:=9) (k:=k) (((((acc++sDat)++d.name)++lsi sSp sSp d.params 0)++lsi sEqs sBar (d.cons.map conT) 0)++lsi sDer sCom (v::l) 0) (sRb) (by simp only[ByteArray.size_append,z_sBar,z_sCom,z_sDat,z_sDer,z_sEqs,z_sSp]<;>omega) (by decide)
   have d3:=fun k=>cat_k (t:=9) (k:=k) ((((((acc++sDat)++d.name)++lsi sSp sSp d.params 0)++lsi sEqs sBar (d.cons.map conT) 0)++lsi sDer sCom (v::l) 0)++sRb) (sScn) (by simp only[ByteArray.size_append,z_sBar,z_sCom,z_sDat,z_sDer,z_sEqs,z_sRb,z_sSp]<;>omega) (by decide)
   simp[-List.length_cons,hi,idxK_dts hx,hd,hc,p1,p2,p3,hlen,c1,c2,c3,c4,d1,d2,d3,e0,derT_cons]
   all_goals (try rw[hscn])
   all_goals (try simp only[ByteArray.append_assoc])
   all_goals (try simp)
 ·show body PG EE TT ev (q22b0a (iv (a.length:Int)) (sv acc) (dts a) (cls b) (its c) (bds e))=_
  rw[h22b0a,g22b0a]
  simp
theorem shift2{α:Type}(f:α→ByteArray)(l:List α)(X:ByteArray):sSp++(post f l++X)=pre f l++(sSp++X):=by rw[←ByteArray.append_assoc,shift,ByteArray.append_assoc]
theorem e_whr:sWhr=sWh++sSp:=by decide
theorem e_endr:sEnd++sNl=sSp++sEndr:=by decide
theorem rc_mets(c0:Cl)(pa pb pc pd:PV)(m:Nat)(hz:c0.size≤1100000)(hg:∀y∈c0.methods,y.good=true)(s:ByteArray)(hs:s.size+(post mthT c0.methods).size≤800000000):ev (q22b8a (iv 0) (sv (s)) (iv (m:Int)) (sv c0.name) (sv c0.var) (strs c0.supers) (mds c0.methods) (bds c0.defaults) (iv c0.at_) pa pb pc pd)=some (0,[sv c0.name,sv c0.var,strs c0.supers,mds c0.methods,bds c0.defaults,iv c0.at_,pa,pb,pc,pd,sv (s++post mthT c0.methods),iv (m:Int)]):=by
 have hl:=Md.len_le c0.methods
 have hcs:=c0.size_eq
 have hb:=rmths_size c0.methods
 refine cat_ev c0.methods (fun y=>mthT y++sSp) (post mthT) (by rw[post]) (post_cons mthT) (fun i acc=>q22b8a (iv (i:Int)) (sv (acc)) (iv (m:Int)) (sv c0.name) (sv c0.var) (strs c0.supers) (mds c0.methods) (bds c0.defaults) (iv c0.at_) pa pb pc pd) (fun aa=>(0,[sv c0.name,sv c0.var,strs c0.supers,mds c0.methods,bds c0.defaults,iv c0.at_,pa,pb,pc,pd,sv (aa),iv (m:Int)])) 800000000 (by omega) (fun i j y acc e0 hx hm hi hacc=>?_) (fun acc=>?_) s (by omega)
 ·rw[ByteArray.size_append,z_sSp] at hacc
  show body PG EE TT ev (q22b8a (iv (i:Int)) (sv (acc)) (iv (m:Int)) (sv c0.name) (sv c0.var) (strs c0.supers) (mds c0.methods) (bds c0.defaults) (iv c0.at_) pa pb pc pd)=_
  rw[h22b8a,g22b8a]
  have hyz:=Md.mem_le hm
  have hyg:=hg y hm
  unfold Md.good at hyg
  rw[Bool.and_eq_true] at hyg
  have hys:=y.size_eq
  have hms:=mthT_size y
  have hnb:=nmB_size y.name
  have htb:=y.t.txt_size
  have h1:=rname2_x y.name (by omega)
  have h2:ev (q15 (iv y.t.kind) (sv y.t.name) (iv y.t.n) (tys y.t.kids))=_:=r_txt 2000000 y.t (by omega) (Nat.le_refl _) hyg.2
  have hmt:mthT y=((nmB y.name++sCol)++y.t.txt)++sSc:=rfl
  have hss:sScs=sSc++sSp:=by decide
  rw[hmt] at hacc hms
  simp only[ByteArray.size_append,z_sCol,z_sSc] at hacc hms
  have c1:=fun k=>cat_k (t:=9) (k:=k) (acc) (nmB y.name) (by omega) (by omega)
  have c2:=fun k=>cat_k (t:=9) (k:=k) (acc++nmB y.name) (sCol) (by simp only[ByteArray.size_append]<;>omega) (by decide)
  have c3:=fun k=>cat_k (t:=9) (k:=k) ((acc++nmB y.name)++sCol) (y.t.txt) (by simp only[ByteArray.size_append,z_sCol]<;>omega) (by omega)
  have c4:=fun k=>cat_k (t:=9) (k:=k) (((acc++nmB y.name)++sCol)++y.t.txt) (sScs) (by simp only[ByteArray.size_append,z_sCol]<;>omega) (by decide)
  simp[hi,idxK_mds hx,h1,h2,c1,c2,c3,c4,e0]
  all_goals (try rw[hmt,hss])
  all_goals (try simp only[ByteArray.append_assoc])
 ·show body PG EE TT ev (q22b8a (iv (c0.methods.length:Int)) (sv (acc)) (iv (m:Int)) (sv c0.name) (sv c0.var) (strs c0.supers) (mds c0.methods) (bds c0.defaults) (iv c0.at_) pa pb pc pd)=_
  rw[h22b8a,g22b8a]
  simp
theorem rc_defs(c0:Cl)(pa pb pc pd:PV)(m:Nat)(hz:c0.size≤1100000)(hg:∀y∈c0.defaults,y.good=true)(s:ByteArray)(hs:s.size+(post bindT c0.defaults).size≤800000000):ev (q22b10a (iv 0) (sv (s)) (iv (m:Int)) (sv c0.name) (sv c0.var) (strs c0.supers) (mds c0.methods) (bds c0.defaults) (iv c0.at_) pa pb pc pd)=some (0,[sv c0.name,sv c0.var,strs c0.supers,mds c0.methods,bds c0.defaults,iv c0.at_,pa,pb,pc,pd,sv (s++post bindT c0.defaults),iv (m:Int)]):=by
 have hl:=Bd.len_le c0.defaults
 have hcs:=c0.size_eq
 have hb:=rbinds_size c0.defaults hg
 refine cat_ev c0.defaults (fun y=>bindT y++sSp) (post bindT) (by rw[post]) (post_cons bindT) (fun i acc=>q22b10a (iv (i:Int)) (sv (acc)) (iv (m:Int)) (sv c0.name) (sv c0.var) (strs c0.supers) (mds c0.methods) (bds c0.defaults) (iv c0.at_) pa pb pc pd) (fun aa=>(0,[sv c0.name,sv c0.var,strs c0.supers,mds c0.methods,bds c0.defaults,iv c0.at_,pa,pb,pc,pd,sv (aa),iv (m:Int)])) 800000000 (by omega) (fun i j y acc e0 hx hm hi hacc=>?_) (fun acc=>?_) s (by omega)
 ·rw[ByteArray.size_append,z_sSp] at hacc
  show body PG EE TT ev (q22b10a (iv (i:Int)) (sv (acc)) (iv (m:Int)) (sv c0.name) (sv c0.var) (strs c0.supers) (mds c0.methods) (bds c0.defaults) (iv c0.at_) pa pb pc pd)=_
  rw[h22b10a,g22b10a]
  have hyz:=Bd.mem_le hm
  have hyg:=hg y hm
  have ha:=rbind2_x y hyg (by omega)
  have hys:=bindT_size y hyg
  have c1:=fun k=>cat_k (t:=9) (k:=k) (acc) (bindT y) (by omega) (by omega)
  have c2:=fun k=>cat_k (t:=9) (k:=k) (acc++bindT y) (sSp) (by simp only[ByteArray.size_append]<;>omega) (by decide)
  simp[hi,idxK_bds hx,ha,c1,c2,e0]
  all_goals (try simp only[ByteArray.append_assoc])
 ·show body PG EE TT ev (q22b10a (iv (c0.defaults.length:Int)) (sv (acc)) (iv (m:Int)) (sv c0.name) (sv c0.var) (strs c0.supers) (mds c0.methods) (bds c0.defaults) (iv c0.at_) pa pb pc pd)=_
  rw[h22b10a,g22b10a]
  simp
theorem rclass_x(a:List Dt)(b:List Cl)(c:List It)(e:List Bd)(hz:Cl.sizes b≤1100000)(hg:∀d∈b,d.good=true)(s:ByteArray)(hs:s.size+600*Cl.sizes b≤800000000):ev (q22b6a (iv 0) (sv s) (dts a) (cls b) (its c) (bds e))=some (0,[dts a,cls b,its c,bds e,sv (s++lns classT b)]):=by
 have hl:=Cl.len_le b
 have hb:(lns classT b).size≤600*Cl.sizes b:=by rw[Cl.sizes_eq];exact lns_size _ _ _ b fun y hm=>classT_size y (cl_defs (hg y hm))
 refine cat_ev b (fun d=>classT d++sNl) (lns classT) (by rw[lns]) (lns_cons classT) (fun i acc=>q22b6a (iv (i:Int)) (sv acc) (dts a) (cls b) (its c) (bds e)) (fun x=>(0,[dts a,cls b,its c,bds e,sv x])) 800000000 (by omega) (fun i j x acc e0 hx hm hi hacc=>?_) (fun acc=>?_) s (by omega)
 ·have hdz:=Cl.mem_le hm
  have hdg:=hg x hm
  unfold Cl.good at hdg
  simp only[Bool.and_eq_true] at hdg
  have hds:=x.size_eq
  have hls:=szS_len x.supers
  have z1:=lsi_size sFrm sCom (by decide) (by decide) x.supers 0
  have z2:=rmths_size x.methods
  have z3:=rbinds_size x.defaults (all_mem hdg.2.2.2.2)
  have p1:ev (q62 (strs x.supers) (sv sFrm) (sv sCom))=_:=listed_x sFrm sCom x.supers (by decide) (by decide) (by omega) (by omega)
  have ha:acc.size≤800000000:=by omega
  have hac:acc.size+600*x.size≤1600000000:=by omega
  have hcl:classT x++sNl=sCls++(x.name++(sSp++(x.var++(lsi sFrm sCom x.supers 0++(sWhr++(post mthT x.methods++(post bindT x.defaults++sEndr))))))):=by
   unfold classT
   rw[e_whr]
   simp only[ByteArray.append_assoc,e_endr,shift2]
  rw[hcl] at hacc
  simp only[ByteArray.size_append,z_sCls,z_sSp,z_sWhr,z_sEndr] at hacc
  have q1:=rc_mets x (dts a) (cls b) (its c) (bds e) i (by omega) (all_mem hdg.2.2.2.1) ((((((acc++sCls)++x.name)++sSp)++x.var)++lsi sFrm sCom x.supers 0)++sWhr) (by simp only[ByteArray.size_append,z_sCls,z_sCom,z_sFrm,z_sSp,z_sWhr]<;>omega)
  have q2:=rc_defs x (dts a) (cls b) (its c) (bds e) i (by omega) (all_mem hdg.2.2.2.2) ((((((((acc++sCls)++x.name)++sSp)++x.var)++lsi sFrm sCom x.supers 0)++sWhr)++post mthT x.methods)) (by simp only[ByteArray.size_append,z_sCls,z_sCom,z_sFrm,z_sSp,z_sWhr]<;>omega)
  have c1:=fun k=>cat_k (t:=9) (k:=k) (acc) (sCls) (by omega) (by decide)
  have c2:=fun k=>cat_k (t:=9) (k:=k) (acc++sCls) (x.name) (by simp only[ByteArray.size_append,z_sCls]<;>omega) (by omega)
  have c3:=fun k=>cat_k (t:=9) (k:=k) ((acc++sCls)++x.name) (sSp) (by simp only[ByteArray.size_append,z_sCls]<;>omega) (by decide)
  have c4:=fun k=>cat_k (t:=9) (k:=k) (((acc++sCls)++x.name)++sSp) (x.var) (by simp only[ByteArray.size_append,z_sCls,z_sSp]<;>omega) (by omega)
  have c5:=fun k=>cat_k (t:=9) (k:=k) ((((acc++sCls)++x.name)++sSp)++x.var) (lsi sFrm sCom x.supers 0) (by simp only[ByteArray.size_append,z_sCls,z_sSp]<;>omega) (by omega)
  have c6:=fun k=>cat_k (t:=9) (k:=k) (((((acc++sCls)++x.name)++sSp)++x.var)++lsi sFrm sCom x.supers 0) (sWhr) (by simp only[ByteArray.size_append,z_sCls,z_sCom,z_sFrm,z_sSp]<;>omega) (by decide)
  have d1:=fun k=>cat_k (t:=9) (k:=k) (((((((((acc++sCls)++x.name)++sSp)++x.var)++lsi sFrm sCom x.supers 0)++sWhr)++post mthT x.methods)++post bindT x.defaults)) (sEndr) (by simp only[ByteArray.size_append,z_sCls,z_sCom,z_sFrm,z_sSp,z_sWhr]<;>omega) (by decide)
  show body PG EE TT ev (q22b6a (iv (i:Int)) (sv acc) (dts a) (cls b) (its c) (bds e))=_
  rw[h22b6a,g22b6a,hcl]
  simp[hi,idxK_cls hx,p1,q1,q2,c1,c2,c3,c4,c5,c6,d1,e0]
  all_goals (try simp only[ByteArray.append_assoc])
 ·show body PG EE TT ev (q22b6a (iv (b.length:Int)) (sv acc) (dts a) (cls b) (its c) (bds e))=_
  rw[h22b6a,g22b6a]
  simp
theorem ri_ctx1(x:It)(pa pb pc pd:PV)(S:ByteArray)(m:Nat)(hz:x.size≤1100000):∀(k i:Nat) (acc:List ByteArray),i+k=x.ctx.length→acc.length=i→ev (q22b14b (iv (i:Int)) (sL acc) (sv S) (iv (m:Int)) (sv x.cls) (iv x.head.kind) (sv x.head.name) (iv x.head.n) (tys x.head.kids) (pds x.ctx) (bds x.binds) (iv x.at_) pa pb pc pd)=some (1,[sv x.cls,iv x.head.kind,sv x.head.name,iv x.head.n,tys x.head.kids,pds x.ctx,bds x.binds,iv x.at_,pa,pb,pc,pd,sv S,.rows (sL (acc++(x.ctx.drop i).map ctxT)),iv (m:Int)]):=by
 have hds:=x.size_eq
 have hl:=Pd.len_le x.ctx
 exact acc_from x.ctx ctxT (fun i acc=>q22b14b (iv (i:Int)) (sL acc) (sv S) (iv (m:Int)) (sv x.cls) (iv x.head.kind) (sv x.head.name) (iv x.head.n) (tys x.head.kids) (pds x.ctx) (bds x.binds) (iv x.at_) pa pb pc pd) (fun acc=>(1,[sv x.cls,iv x.head.kind,sv x.head.name,iv x.head.n,tys x.head.kids,pds x.ctx,bds x.binds,iv x.at_,pa,pb,pc,pd,sv S,.rows (sL acc),iv (m:Int)])) (by omega) (fun i j y acc e0 hx hm hi hacc=>by
  have hyz:=Pd.mem_le hm
  have hys:=y.size_eq
  have hts:=y.t.size_eq
  have hap:=fun k=>app_one (k:=k) acc (ctxT y) (by omega)
  have hct:(y.cls++sSp)++y.t.name=ctxT y:=rfl
  have c1:=fun k=>cat_k (t:=9) (k:=k) (y.cls) (sSp) (by omega) (by decide)
  have c2:=fun k=>cat_k (t:=9) (k:=k) (y.cls++sSp) (y.t.name) (by simp only[ByteArray.size_append,z_sSp]<;>omega) (by omega)
  rw[hct] at c2
  show body PG EE TT ev (q22b14b (iv (i:Int)) (sL acc) (sv S) (iv (m:Int)) (sv x.cls) (iv x.head.kind) (sv x.head.name) (iv x.head.n) (tys x.head.kids) (pds x.ctx) (bds x.binds) (iv x.at_) pa pb pc pd)=_
  rw[h22b14b,g22b14b]
  simp[hi,idxK_pds hx,c1,c2,hap,e0]) (fun acc=>by
  show body PG EE TT ev (q22b14b (iv (x.ctx.length:Int)) (sL acc) (sv S) (iv (m:Int)) (sv x.cls) (iv x.head.kind) (sv x.head.name) (iv x.head.n) (tys x.head.kids) (pds x.ctx) (bds x.binds) (iv x.at_) pa pb pc pd)=_
  rw[h22b14b,g22b14b]
  simp)
theorem ri_ctx0(x:It)(pa pb pc pd:PV)(S:ByteArray)(m:Nat)(hz:x.size≤1100000):ev (q22b14a (iv 0) (sv S) (iv (m:Int)) (sv x.cls) (iv x.head.kind) (sv x.head.name) (iv x.head.n) (tys x.head.kids) (pds x.ctx) (bds x.binds) (iv x.at_) pa pb pc pd)=some (if x.ctx.length=0 then(0,[sv x.cls,iv x.head.kind,sv x.head.name,iv x.head.n,tys x.head.kids,pds x.ctx,bds x.binds,iv x.at_,pa,pb,pc,pd,sv S,nS,iv (m:Int)]) else(1,[sv x.cls,iv x.head.kind,sv x.head.name,iv x.head.n,tys x.head.kids,pds x.ctx,bds x.binds,iv x.at_,pa,pb,pc,pd,sv S,.rows (sL (x.ctx.map ctxT)),iv (m:Int)])):=by
 have hds:=x.size_eq
 have lp:=ri_ctx1 x pa pb pc pd S m hz
 cases hc:x.ctx with
 |nil=>
  rw[if_pos (show ([]:List Pd).length=0 from rfl)]
  refine Evl.of ?_
  rw[h22b14a,g22b14a]
  simp[hc]
 |cons y r=>
  have hx:x.ctx[0]? = some y:=by rw[hc];rfl
  have hm:y∈x.ctx:=by rw[hc];exact List.mem_cons_self
  have hyz:=Pd.mem_le hm
  have hys:=y.size_eq
  have hts:=y.t.size_eq
  have hlen:0<x.ctx.length:=by rw[hc];simp
  have hct:(y.cls++sSp)++y.t.name=ctxT y:=rfl
  have c1:=fun k=>cat_k (t:=9) (k:=k) (y.cls) (sSp) (by omega) (by decide)
  have c2:=fun k=>cat_k (t:=9) (k:=k) (y.cls++sSp) (y.t.name) (by simp only[ByteArray.size_append,z_sSp]<;>omega) (by omega)
  rw[hct] at c2
  have l1:=lp (x.ctx.length-1) 1 [ctxT y] (by omega) rfl
  have hdr:x.ctx.drop 1=r:=by rw[hc];rfl
  rw[hdr] at l1
  have l2:ev (q22b14b (iv 1) [[sv (ctxT y)]] (sv S) (iv (m:Int)) (sv x.cls) (iv x.head.kind) (sv x.head.name) (iv x.head.n) (tys x.head.kids) (pds x.ctx) (bds x.binds) (iv x.at_) pa pb pc pd)=some (1,[sv x.cls,iv x.head.kind,sv x.head.name,iv x.head.n,tys x.head.kids,pds x.ctx,bds x.binds,iv x.at_,pa,pb,pc,pd,sv S,.rows (sL (ctxT y::r.map ctxT)),iv (m:Int)]):=l1
  have hmp:ctxT y::r.map ctxT=x.ctx.map ctxT:=by rw[hc];rfl
  rw[hmp] at l2
  have hi:(0:Int)<(x.ctx.length:Int):=by omega
  have hx0:∀k:AV→Res,idxK PG .fail 74 (.pv (pds x.ctx)) (.pv (iv 0)) k=k (.cptr [sv y.cls,iv y.t.kind,sv y.t.name,iv y.t.n,tys y.t.kids]):=fun k=>idxK_pds (i:=0) hx
  have e01:IntKind.i64.wrap ((0:Int)+1)=1:=by decide
  have e02:IntKind.i64.wrap 1=1:=by decide
  rw[if_neg (by simp),←hc]
  refine Evl.of ?_
  rw[h22b14a,g22b14a]
  simp[hi,hlen,hx0,c1,c2,e01,e02,l2]
theorem ri_defs(x:It)(pa pb pc pd:PV)(m:Nat)(hz:x.size≤1100000)(hg:∀y∈x.binds,y.good=true)(s:ByteArray)(hs:s.size+(post bindT x.binds).size≤800000000):ev (q22b16a (iv 0) (sv (s)) (iv (m:Int)) (sv x.cls) (iv x.head.kind) (sv x.head.name) (iv x.head.n) (tys x.head.kids) (pds x.ctx) (bds x.binds) (iv x.at_) pa pb pc pd)=some (0,[sv x.cls,iv x.head.kind,sv x.head.name,iv x.head.n,tys x.head.kids,pds x.ctx,bds x.binds,iv x.at_,pa,pb,pc,pd,sv (s++post bindT x.binds),iv (m:Int)]):=by
 have hl:=Bd.len_le x.binds
 have hcs:=x.size_eq
 have hb:=rbinds_size x.binds hg
 refine cat_ev x.binds (fun y=>bindT y++sSp) (post bindT) (by rw[post]) (post_cons bindT) (fun i acc=>q22b16a (iv (i:Int)) (sv (acc)) (iv (m:Int)) (sv x.cls) (iv x.head.kind) (sv x.head.name) (iv x.head.n) (tys x.head.kids) (pds x.ctx) (bds x.binds) (iv x.at_) pa pb pc pd) (fun aa=>(0,[sv x.cls,iv x.head.kind,sv x.head.name,iv x.head.n,tys x.head.kids,pds x.ctx,bds x.binds,iv x.at_,pa,pb,pc,pd,sv (aa),iv (m:Int)])) 800000000 (by omega) (fun i j y acc e0 hx hm hi hacc=>?_) (fun acc=>?_) s (by omega)
 ·rw[ByteArray.size_append,z_sSp] at hacc
  show body PG EE TT ev (q22b16a (iv (i:Int)) (sv (acc)) (iv (m:Int)) (sv x.cls) (iv x.head.kind) (sv x.head.name) (iv x.head.n) (tys x.head.kids) (pds x.ctx) (bds x.binds) (iv x.at_) pa pb pc pd)=_
  rw[h22b16a,g22b16a]
  have hyz:=Bd.mem_le hm
  have hyg:=hg y hm
  have ha:=rbind2_x y hyg (by omega)
  have hys:=bindT_size y hyg
  have c1:=fun k=>cat_k (t:=9) (k:=k) (acc) (bindT y) (by omega) (by omega)
  have c2:=fun k=>cat_k (t:=9) (k:=k) (acc++bindT y) (sSp) (by simp only[ByteArray.size_append]<;>omega) (by decide)
  simp[hi,idxK_bds hx,ha,c1,c2,e0]
  all_goals (try simp only[ByteArray.append_assoc])
 ·show body PG EE TT ev (q22b16a (iv (x.binds.length:Int)) (sv (acc)) (iv (m:Int)) (sv x.cls) (iv x.head.kind) (sv x.head.name) (iv x.head.n) (tys x.head.kids) (pds x.ctx) (bds x.binds) (iv x.at_) pa pb pc pd)=_
  rw[h22b16a,g22b16a]
  simp
theorem rinst_x(a:List Dt)(b:List Cl)(c:List It)(e:List Bd)(hz:It.sizes c≤1100000)(hg:∀d∈c,d.good=true)(s:ByteArray)(hs:s.size+600*It.sizes c≤800000000):ev (q22b12a (iv 0) (sv s) (dts a) (cls b) (its c) (bds e))=some (0,[dts a,cls b,its c,bds e,sv (s++lns instT c)]):=by
 have hl:=It.len_le c
 have hb:(lns instT c).size≤600*It.sizes c:=by rw[It.sizes_eq];exact lns_size _ _ _ c fun y hm=>instT_size y (it_defs (hg y hm))
 refine cat_ev c (fun d=>instT d++sNl) (lns instT) (by rw[lns]) (lns_cons instT) (fun i acc=>q22b12a (iv (i:Int)) (sv acc) (dts a) (cls b) (its c) (bds e)) (fun x=>(0,[dts a,cls b,its c,bds e,sv x])) 800000000 (by omega) (fun i j x acc e0 hx hm hi hacc=>?_) (fun acc=>?_) s (by omega)
 ·have hdz:=It.mem_le hm
  have hdg:=hg x hm
  unfold It.good at hdg
  simp only[Bool.and_eq_true] at hdg
  have hds:=x.size_eq
  have hlc:=Pd.len_le x.ctx
  have hcz:=ctxs_size x.ctx
  have hat:=atx_size x.head
  have z1:=lsi_size sFrm sCom (by decide) (by decide) (x.ctx.map ctxT) 0
  have z3:=rbinds_size x.binds (all_mem hdg.2.2.2)
  have p1:=listed_x sFrm sCom (x.ctx.map ctxT) (by decide) (by decide) (by omega) (by rw[List.length_map];omega)
  have h0:=ratx_x x.head hdg.2.1 (by omega)
  have hc:=ri_ctx0 x (dts a) (cls b) (its c) (bds e) acc i (by omega)
  have ha:acc.size≤800000000:=by omega
  have hcl:instT x++sNl=sIns++(x.cls++(sSp++(x.head.atx++(lsi sFrm sCom (x.ctx.map ctxT) 0++(sWhr++(post bindT x.binds++sEndr)))))):=by
   unfold instT
   rw[e_whr]
   simp only[ByteArray.append_assoc,e_endr,shift2]
  rw[hcl] at hacc
  simp only[ByteArray.size_append,z_sIns,z_sSp,z_sWhr,z_sEndr] at hacc
  have q2:=ri_defs x (dts a) (cls b) (its c) (bds e) i (by omega) (all_mem hdg.2.2.2) ((((((acc++sIns)++x.cls)++sSp)++x.head.atx)++lsi sFrm sCom (x.ctx.map ctxT) 0)++sWhr) (by simp only[ByteArray.size_append,z_sCom,z_sFrm,z_sIns,z_sSp,z_sWhr]<;>omega)
  have c1:=fun k=>cat_k (t:=9) (k:=k) (acc) (sIns) (by omega) (by decide)
  have c2:=fun k=>cat_k (t:=9) (k:=k) (acc++sIns) (x.cls) (by simp only[ByteArray.size_append,z_sIns]<;>omega) (by omega)
  have c3:=fun k=>cat_k (t:=9) (k:=k) ((acc++sIns)++x.cls) (sSp) (by simp only[ByteArray.size_append,z_sIns]<;>omega) (by decide)
  have c4:=fun k=>cat_k (t:=9) (k:=k) (((acc++sIns)++x.cls)++sSp) (x.head.atx) (by simp only[ByteArray.size_append,z_sIns,z_sSp]<;>omega) (by omega)
  have c5:=fun k=>cat_k (t:=9) (k:=k) ((((acc++sIns)++x.cls)++sSp)++x.head.atx) (lsi sFrm sCom (x.ctx.map ctxT) 0) (by simp only[ByteArray.size_append,z_sIns,z_sSp]<;>omega) (by omega)
  have c6:=fun k=>cat_k (t:=9) (k:=k) (((((acc++sIns)++x.cls)++sSp)++x.head.atx)++lsi sFrm sCom (x.ctx.map ctxT) 0) (sWhr) (by simp only[ByteArray.size_append,z_sCom,z_sFrm,z_sIns,z_sSp]<;>omega) (by decide)
  have d1:=fun k=>cat_k (t:=9) (k:=k) ((((((((acc++sIns)++x.cls)++sSp)++x.head.atx)++lsi sFrm sCom (x.ctx.map ctxT) 0)++sWhr)++post bindT x.binds)) (sEndr) (by simp only[ByteArray.size_append,z_sCom,z_sFrm,z_sIns,z_sSp,z_sWhr]<;>omega) (by decide)
  show body PG EE TT ev (q22b12a (iv (i:Int)) (sv acc) (dts a) (cls b) (its c) (bds e))=_
  rw[h22b12a,g22b12a,hcl]
  by_cases hn:x.ctx.length=0
  ·rw[if_pos hn] at hc
   have hnil:x.ctx.map ctxT=[]:=by rw[List.eq_nil_of_length_eq_zero hn];rfl
   have p0:ev (q62 (.rows []) (sv sFrm) (sv sCom))=some (0,[sv (lsi sFrm sCom (x.ctx.map ctxT) 0)]):=by have h:=p1;rw[hnil] at h ⊢;exact h
   simp[hi,idxK_its hx,hc,h0,p0,q2,c1,c2,c3,c4,c5,c6,d1,e0]
   all_goals (try simp only[ByteArray.append_assoc])
  ·rw[if_neg hn] at hc
   simp[hi,idxK_its hx,hc,h0,p1,q2,c1,c2,c3,c4,c5,c6,d1,e0]
   all_goals (try simp only[ByteArray.append_assoc])
 ·show body PG EE TT ev (q22b12a (iv (c.length:Int)) (sv acc) (dts a) (cls b) (its c) (bds e))=_
  rw[h22b12a,g22b12a]
  simp
theorem rbinds_x(a:List Dt)(b:List Cl)(c:List It)(e:List Bd)(hz:Bd.sizes e≤1100000)(hg:∀d∈e,d.good=true)(s:ByteArray)(hs:s.size+600*Bd.sizes e≤800000000):ev (q22b18a (iv 0) (sv (s)) (dts a) (cls b) (its c) (bds e))=some (0,[dts a,cls b,its c,bds e,sv (s++lns bindT e)]):=by
 have hl:=Bd.len_le e
 have hb:(lns bindT e).size≤600*Bd.sizes e:=by rw[Bd.sizes_eq];exact lns_size _ _ _ e fun y hm=>bindT_size y (hg y hm)
 refine cat_ev e (fun y=>bindT y++sNl) (lns bindT) (by rw[lns]) (lns_cons bindT) (fun i acc=>q22b18a (iv (i:Int)) (sv (acc)) (dts a) (cls b) (its c) (bds e)) (fun aa=>(0,[dts a,cls b,its c,bds e,sv (aa)])) 800000000 (by omega) (fun i j y acc e0 hx hm hi hacc=>?_) (fun acc=>?_) s (by omega)
 ·rw[ByteArray.size_append,z_sNl] at hacc
  show body PG EE TT ev (q22b18a (iv (i:Int)) (sv (acc)) (dts a) (cls b) (its c) (bds e))=_
  rw[h22b18a,g22b18a]
  have hyz:=Bd.mem_le hm
  have hyg:=hg y hm
  have ha:=rbind2_x y hyg (by omega)
  have hys:=bindT_size y hyg
  have c1:=fun k=>cat_k (t:=9) (k:=k) (acc) (bindT y) (by omega) (by omega)
  have c2:=fun k=>cat_k (t:=9) (k:=k) (acc++bindT y) (sNl) (by simp only[ByteArray.size_append]<;>omega) (by decide)
  simp[hi,idxK_bds hx,ha,c1,c2,e0]
  all_goals (try simp only[ByteArray.append_assoc])
 ·show body PG EE TT ev (q22b18a (iv (e.length:Int)) (sv (acc)) (dts a) (cls b) (its c) (bds e))=_
  rw[h22b18a,g22b18a]
  simp
theorem rprog_x(a:List Dt)(b:List Cl)(c:List It)(e:List Bd)(hz:Dt.sizes a+Cl.sizes b+It.sizes c+Bd.sizes e≤1100000)(hG:progGood a b c e=true):ev (q22 (dts a) (cls b) (its c) (bds e))=some (0,[sv (progT a b c e)]):=by
 unfold progGood at hG
 simp only[Bool.and_eq_true] at hG
 have g1:=all_mem hG.1
 have g2:=all_mem hG.2.1
 have g3:=all_mem hG.2.2.1
 have g4:=all_mem hG.2.2.2
 have s1:(lns dataT a).size≤600*Dt.sizes a:=by rw[Dt.sizes_eq];exact lns_size _ _ _ a fun y hm=>dataT_size y
 have s2:(lns classT b).size≤600*Cl.sizes b:=by rw[Cl.sizes_eq];exact lns_size _ _ _ b fun y hm=>classT_size y (cl_defs (g2 y hm))
 have s3:(lns instT c).size≤600*It.sizes c:=by rw[It.sizes_eq];exact lns_size _ _ _ c fun y hm=>instT_size y (it_defs (g3 y hm))
 have l1:=rdata_x a b c e (by omega) g1 eB (by rw[z_eB];omega)
 rw[eB_app] at l1
 have l2:=rclass_x a b c e (by omega) g2 (lns dataT a) (by omega)
 have l3:=rinst_x a b c e (by omega) g3 (lns dataT a++lns classT b) (by rw[ByteArray.size_append];omega)
 have l4:=rbinds_x a b c e (by omega) g4 ((lns dataT a++lns classT b)++lns instT c) (by rw[ByteArray.size_append,ByteArray.size_append];omega)
 refine Evl.of ?_
 rw[h22,g22]
 simp[l1,l2,l3,l4,progT]
theorem may_ev{α:Type}(l:List α)(q:Nat→Q)(rT rF:Rs)(hl:l.length≤2000000)
  (hs:∀(i j:Nat) (x:α),IntKind.i64.wrap ((i:Int)+1)=(j:Int)→l[i]? = some x→x∈l→(i:Int)<(l.length:Int)→body PG EE TT ev (q i)=passK (ev (q j))∨body PG EE TT ev (q i)=.ok rF)
  (he:body PG EE TT ev (q l.length)=.ok rT):ev (q 0)=some rT∨ev (q 0)=some rF:=by
 have key:∀(m i:Nat),i+m=l.length→ev (q i)=some rT∨ev (q i)=some rF:=by
  intro m
  induction m with
  |zero=>intro i hi;rw[Nat.add_zero] at hi;rw[hi];exact .inl (Evl.of he)
  |succ m ih=>
   intro i hi
   have hlt:i<l.length:=by omega
   obtain⟨j,hj⟩:∃j,j=i+1:=⟨_,rfl⟩
   rcases hs i j l[i] (wone hj (by omega)) (List.getElem?_eq_getElem hlt) (List.getElem_mem hlt) (by omega) with h|h
   ·rcases ih j (by omega) with h2|h2
    ·exact .inl (Evl.of (by rw[h,h2];rfl))
    ·exact .inr (Evl.of (by rw[h,h2];rfl))
   ·exact .inr (Evl.of h)
 exact key l.length 0 (by omega)
theorem sm_x(x:Ex)(hz:x.size≤2000000)(most:Int):ev (q7 (iv x.kind) (sv x.name) (iv x.n) (iv x.t.kind) (sv x.t.name) (iv x.t.n) (tys x.t.kids) (exs x.kids) (als x.alts) (bds x.binds) (iv x.at_) (iv most))=some (0,[bv true])∨ev (q7 (iv x.kind) (sv x.name) (iv x.n) (iv x.t.kind) (sv x.t.name) (iv x.t.n) (tys x.t.kids) (exs x.kids) (als x.alts) (bds x.binds) (iv x.at_) (iv most))=some (0,[bv false]):=by
 obtain⟨v,hv⟩:=small_x x hz most
 cases v
 ·exact .inr hv
 ·exact .inl hv
theorem fw_top(d:List Bd)(hz:Bd.sizes d≤1100000):ev (q18b10a (iv 0) (iv d.length) (bds d))=some (1,[])∨ev (q18b10a (iv 0) (iv d.length) (bds d))=some (0,[bv false]):=
 may_ev d (fun i=>q18b10a (iv (i:Int)) (iv d.length) (bds d)) _ _ (by have:=Bd.len_le d;omega) (fun i j y e0 hx hm hi=>by
  show body PG EE TT ev (q18b10a (iv (i:Int)) (iv d.length) (bds d))=_∨body PG EE TT ev (q18b10a (iv (i:Int)) (iv d.length) (bds d))=_
  rw[h18b10a,g18b10a]
  have hyz:=Bd.mem_le hm
  have hys:=y.size_eq
  rcases sm_x y.e (by omega) 1000 with h|h
  ·exact .inl (by simp[hi,idxK_bds hx,h,e0])
  ·exact .inr (by simp[hi,idxK_bds hx,h,e0])) (by
  show body PG EE TT ev (q18b10a (iv (d.length:Int)) (iv d.length) (bds d))=_
  rw[h18b10a,g18b10a]
  simp)
theorem fw_cl(l:List Bd)(m:Nat)(n:Int)(a:List Dt)(b:List Cl)(c:List It)(d:List Bd)(hz:Bd.sizes l≤1100000):ev (q18b2a (iv 0) (iv l.length) (bds l) (iv (m:Int)) (iv n) (cls b) (dts a) (cls b) (its c) (bds d))=some (1,[dts a,cls b,its c,bds d,iv (m:Int),iv n,cls b])∨ev (q18b2a (iv 0) (iv l.length) (bds l) (iv (m:Int)) (iv n) (cls b) (dts a) (cls b) (its c) (bds d))=some (0,[dts a,cls b,its c,bds d,bv false]):=
 may_ev l (fun i=>q18b2a (iv (i:Int)) (iv l.length) (bds l) (iv (m:Int)) (iv n) (cls b) (dts a) (cls b) (its c) (bds d)) _ _ (by have:=Bd.len_le l;omega) (fun i j y e0 hx hm hi=>by
  show body PG EE TT ev (q18b2a (iv (i:Int)) (iv l.length) (bds l) (iv (m:Int)) (iv n) (cls b) (dts a) (cls b) (its c) (bds d))=_∨body PG EE TT ev (q18b2a (iv (i:Int)) (iv l.length) (bds l) (iv (m:Int)) (iv n) (cls b) (dts a) (cls b) (its c) (bds d))=_
  rw[h18b2a,g18b2a]
  have hyz:=Bd.mem_le hm
  have hys:=y.size_eq
  rcases sm_x y.e (by omega) 400 with h|h
  ·exact .inl (by simp[hi,idxK_bds hx,h,e0])
  ·exact .inr (by simp[hi,idxK_bds hx,h,e0])) (by
  show body PG EE TT ev (q18b2a (iv (l.length:Int)) (iv l.length) (bds l) (iv (m:Int)) (iv n) (cls b) (dts a) (cls b) (its c) (bds d))=_
  rw[h18b2a,g18b2a]
  simp)
theorem fw_it(l:List Bd)(m:Nat)(n:Int)(a:List Dt)(b:List Cl)(c:List It)(d:List Bd)(hz:Bd.sizes l≤1100000):ev (q18b6a (iv 0) (iv l.length) (bds l) (iv (m:Int)) (iv n) (its c) (dts a) (cls b) (its c) (bds d))=some (1,[dts a,cls b,its c,bds d,iv (m:Int),iv n,its c])∨ev (q18b6a (iv 0) (iv l.length) (bds l) (iv (m:Int)) (iv n) (its c) (dts a) (cls b) (its c) (bds d))=some (0,[dts a,cls b,its c,bds d,bv false]):=
 may_ev l (fun i=>q18b6a (iv (i:Int)) (iv l.length) (bds l) (iv (m:Int)) (iv n) (its c) (dts a) (cls b) (its c) (bds d)) _ _ (by have:=Bd.len_le l;omega) (fun i j y e0 hx hm hi=>by
  show body PG EE TT ev (q18b6a (iv (i:Int)) (iv l.length) (bds l) (iv (m:Int)) (iv n) (its c) (dts a) (cls b) (its c) (bds d))=_∨body PG EE TT ev (q18b6a (iv (i:Int)) (iv l.length) (bds l) (iv (m:Int)) (iv n) (its c) (dts a) (cls b) (its c) (bds d))=_
  rw[h18b6a,g18b6a]
  have hyz:=Bd.mem_le hm
  have hys:=y.size_eq
  rcases sm_x y.e (by omega) 400 with h|h
  ·exact .inl (by simp[hi,idxK_bds hx,h,e0])
  ·exact .inr (by simp[hi,idxK_bds hx,h,e0])) (by
  show body PG EE TT ev (q18b6a (iv (l.length:Int)) (iv l.length) (bds l) (iv (m:Int)) (iv n) (its c) (dts a) (cls b) (its c) (bds d))=_
  rw[h18b6a,g18b6a]
  simp)
theorem fo_cl(a:List Dt)(b:List Cl)(c:List It)(d:List Bd)(hz:Cl.sizes b≤1100000):ev (q18b0a (iv 0) (iv b.length) (cls b) (dts a) (cls b) (its c) (bds d))=some (1,[dts a,cls b,its c,bds d])∨ev (q18b0a (iv 0) (iv b.length) (cls b) (dts a) (cls b) (its c) (bds d))=some (0,[dts a,cls b,its c,bds d,bv false]):=
 may_ev b (fun i=>q18b0a (iv (i:Int)) (iv b.length) (cls b) (dts a) (cls b) (its c) (bds d)) _ _ (by have:=Cl.len_le b;omega) (fun i j y e0 hx hm hi=>by
  show body PG EE TT ev (q18b0a (iv (i:Int)) (iv b.length) (cls b) (dts a) (cls b) (its c) (bds d))=_∨body PG EE TT ev (q18b0a (iv (i:Int)) (iv b.length) (cls b) (dts a) (cls b) (its c) (bds d))=_
  rw[h18b0a,g18b0a]
  have hyz:=Cl.mem_le hm
  have hys:=y.size_eq
  by_cases g0:(20:Int)<(y.methods.length:Int)
  ·exact .inr (by simp[hi,idxK_cls hx,g0,e0])
  by_cases g1:(20:Int)<(y.defaults.length:Int)
  ·exact .inr (by simp[hi,idxK_cls hx,g0,g1,e0])
  by_cases g2:(20:Int)<(y.supers.length:Int)
  ·exact .inr (by simp[hi,idxK_cls hx,g0,g1,g2,e0])
  rcases fw_cl y.defaults i b.length a b c d (by omega) with h|h
  ·exact .inl (by simp[hi,idxK_cls hx,g0,g1,g2,h,e0])
  ·exact .inr (by simp[hi,idxK_cls hx,g0,g1,g2,h,e0])) (by
  show body PG EE TT ev (q18b0a (iv (b.length:Int)) (iv b.length) (cls b) (dts a) (cls b) (its c) (bds d))=_
  rw[h18b0a,g18b0a]
  simp)
theorem fo_it(a:List Dt)(b:List Cl)(c:List It)(d:List Bd)(hz:It.sizes c≤1100000):ev (q18b4a (iv 0) (iv c.length) (its c) (dts a) (cls b) (its c) (bds d))=some (1,[dts a,cls b,its c,bds d])∨ev (q18b4a (iv 0) (iv c.length) (its c) (dts a) (cls b) (its c) (bds d))=some (0,[dts a,cls b,its c,bds d,bv false]):=
 may_ev c (fun i=>q18b4a (iv (i:Int)) (iv c.length) (its c) (dts a) (cls b) (its c) (bds d)) _ _ (by have:=It.len_le c;omega) (fun i j y e0 hx hm hi=>by
  show body PG EE TT ev (q18b4a (iv (i:Int)) (iv c.length) (its c) (dts a) (cls b) (its c) (bds d))=_∨body PG EE TT ev (q18b4a (iv (i:Int)) (iv c.length) (its c) (dts a) (cls b) (its c) (bds d))=_
  rw[h18b4a,g18b4a]
  have hyz:=It.mem_le hm
  have hys:=y.size_eq
  by_cases g0:(20:Int)<(y.binds.length:Int)
  ·exact .inr (by simp[hi,idxK_its hx,g0,e0])
  by_cases g1:(20:Int)<(y.ctx.length:Int)
  ·exact .inr (by simp[hi,idxK_its hx,g0,g1,e0])
  by_cases g2:(20:Int)<(y.head.kids.length:Int)
  ·exact .inr (by simp[hi,idxK_its hx,g0,g1,g2,e0])
  rcases fw_it y.binds i c.length a b c d (by omega) with h|h
  ·exact .inl (by simp[hi,idxK_its hx,g0,g1,g2,h,e0])
  ·exact .inr (by simp[hi,idxK_its hx,g0,g1,g2,h,e0])) (by
  show body PG EE TT ev (q18b4a (iv (c.length:Int)) (iv c.length) (its c) (dts a) (cls b) (its c) (bds d))=_
  rw[h18b4a,g18b4a]
  simp)
theorem fo_dt(a:List Dt)(b:List Cl)(c:List It)(d:List Bd)(hz:Dt.sizes a≤1100000):ev (q18b8a (iv 0) (iv a.length) (dts a) (dts a) (cls b) (its c) (bds d))=some (1,[dts a,cls b,its c,bds d])∨ev (q18b8a (iv 0) (iv a.length) (dts a) (dts a) (cls b) (its c) (bds d))=some (0,[dts a,cls b,its c,bds d,bv false]):=
 may_ev a (fun i=>q18b8a (iv (i:Int)) (iv a.length) (dts a) (dts a) (cls b) (its c) (bds d)) _ _ (by have:=Dt.len_le a;omega) (fun i j y e0 hx hm hi=>by
  show body PG EE TT ev (q18b8a (iv (i:Int)) (iv a.length) (dts a) (dts a) (cls b) (its c) (bds d))=_∨body PG EE TT ev (q18b8a (iv (i:Int)) (iv a.length) (dts a) (dts a) (cls b) (its c) (bds d))=_
  rw[h18b8a,g18b8a]
  have hyz:=Dt.mem_le hm
  have hys:=y.size_eq
  by_cases g0:(20:Int)<(y.cons.length:Int)
  ·exact .inr (by simp[hi,idxK_dts hx,g0,e0])
  by_cases g1:(20:Int)<(y.params.length:Int)
  ·exact .inr (by simp[hi,idxK_dts hx,g0,g1,e0])
  by_cases g2:(20:Int)<(y.deriv.length:Int)
  ·exact .inr (by simp[hi,idxK_dts hx,g0,g1,g2,e0])
  exact .inl (by simp[hi,idxK_dts hx,g0,g1,g2,e0])) (by
  show body PG EE TT ev (q18b8a (iv (a.length:Int)) (iv a.length) (dts a) (dts a) (cls b) (its c) (bds d))=_
  rw[h18b8a,g18b8a]
  simp)
theorem few_x(a:List Dt)(b:List Cl)(c:List It)(d:List Bd)(hz:Dt.sizes a+Cl.sizes b+It.sizes c+Bd.sizes d≤1100000):∃v:Bool,ev (q18 (dts a) (cls b) (its c) (bds d))=some (0,[bv v]):=by
 by_cases g0:(20:Int)<(a.length:Int)
 ·exact⟨false,Evl.of (by rw[h18,g18];simp[g0])⟩
 by_cases g1:(20:Int)<(b.length:Int)
 ·exact⟨false,Evl.of (by rw[h18,g18];simp[g0,g1])⟩
 by_cases g2:(20:Int)<(c.length:Int)
 ·exact⟨false,Evl.of (by rw[h18,g18];simp[g0,g1,g2])⟩
 by_cases g3:(40:Int)<(d.length:Int)
 ·exact⟨false,Evl.of (by rw[h18,g18];simp[g0,g1,g2,g3])⟩
 rcases fo_cl a b c d (by omega) with h1|h1
 ·rcases fo_it a b c d (by omega) with h2|h2
  ·rcases fo_dt a b c d (by omega) with h3|h3
   ·rcases fw_top d (by omega) with h4|h4
    ·exact⟨true,Evl.of (by rw[h18,g18];simp[g0,g1,g2,g3,h1,h2,h3,h4])⟩
    ·exact⟨false,Evl.of (by rw[h18,g18];simp[g0,g1,g2,g3,h1,h2,h3,h4])⟩
   ·exact⟨false,Evl.of (by rw[h18,g18];simp[g0,g1,g2,g3,h1,h2,h3])⟩
  ·exact⟨false,Evl.of (by rw[h18,g18];simp[g0,g1,g2,g3,h1,h2])⟩
 ·exact⟨false,Evl.of (by rw[h18,g18];simp[g0,g1,g2,g3,h1])⟩
section
variable{H:Type}{enc:TypeId×Value→H}{w:World}{held:Bool}
theorem rd_Pg(n:Nat)(cs:List Value)(d:DataW H)(h:rd enc Tryz.prog w held n 46 cs d):∃(a:List Dt) (b:List Cl) (c:List It) (e:List Bd),AllR w [dts a,cls b,its c,bds e] cs∧Dt.sizes a+Cl.sizes b+It.sizes c+Bd.sizes e≤Rows.uptoBulk d:=by
 obtain⟨ds,m,rfl,rfl,hl,hdl,hf⟩:=rd_struct (l:=[(42,0,1),(43,1,1),(44,2,1),(27,3,1)]) (by kernel_rfl) h
 have hz:Tryz.prog.cellsOf 46=4:=by kernel_rfl
 rw[hz] at hl
 obtain⟨i0,f0⟩:=hf 0 42 0 1 rfl
 obtain⟨v0,r0,s0⟩:=rdl Dt.cells Dt.size u_dts (by kernel_rfl) (by decide) Dt.cells_len (fun m2 cs d hm h=>rd_Dt _ _ _ h) f0
 rw[←Dt.sizes_eq] at s0
 obtain⟨i1,f1⟩:=hf 1 43 1 1 rfl
 obtain⟨v1,r1,s1⟩:=rdl Cl.cells Cl.size u_cls (by kernel_rfl) (by decide) Cl.cells_len (fun m2 cs d hm h=>rd_Cl _ _ _ h) f1
 rw[←Cl.sizes_eq] at s1
 obtain⟨i2,f2⟩:=hf 2 44 2 1 rfl
 obtain⟨v2,r2,s2⟩:=rdl It.cells It.size u_its (by kernel_rfl) (by decide) It.cells_len (fun m2 cs d hm h=>rd_It _ _ _ h) f2
 rw[←It.sizes_eq] at s2
 obtain⟨i3,f3⟩:=hf 3 27 3 1 rfl
 obtain⟨v3,r3,s3⟩:=rdl Bd.cells Bd.size u_bds (by kernel_rfl) (by decide) Bd.cells_len (fun m2 cs d hm h=>rd_Bd _ _ _ h) f3
 rw[←Bd.sizes_eq] at s3
 refine⟨v0,v1,v2,v3,?_,?_⟩
 ·exact AllR.step 0 1 r0 (AllR.step 1 1 r1 (AllR.step 2 1 r2 (AllR.step 3 1 r3 (AllR.fin hl))))
 ·have:=bulk_fields4 (by simpa using hdl) s0 s1 s2 s3
  omega
end
end Go.Proofs.YtkamjbmjjhbjcaaGreatDoor
