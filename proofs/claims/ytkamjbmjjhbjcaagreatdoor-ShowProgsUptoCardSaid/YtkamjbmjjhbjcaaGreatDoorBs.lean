/- Joined texts. -/
import Derived.Test.YtkamjbmjjhbjcaaGreatDoorBf
import Derived.Test.YtkamjbmjjhbjcaaGreatDoorBl
import Derived.Test.YtkamjbmjjhbjcaaGreatDoorSq1
import Derived.Test.YtkamjbmjjhbjcaaGreatDoorBc
set_option linter.unusedVariables false
set_option linter.unusedSimpArgs false
set_option linter.unusedSectionVars false
namespace Go.Proofs.YtkamjbmjjhbjcaaGreatDoor
open Go.RowKit
abbrev eB:ByteArray:=⟨#[]⟩
abbrev sSp:ByteArray:=⟨#[32]⟩
abbrev sLb:ByteArray:=⟨#[40,32]⟩
abbrev sRb:ByteArray:=⟨#[32,41]⟩
abbrev sAr:ByteArray:=⟨#[32,45,62,32]⟩
abbrev sArr:ByteArray:=⟨#[45,62]⟩
abbrev sUs:ByteArray:=⟨#[95]⟩
mutual
def Ty.good:Ty→Bool
 |.mk k s n ks=>Ty.goods ks&&(decide (n=0)&&(if k=1 then Lx.isLowB s&&decide (ks.length=0) else decide (k=3)&&(Lx.isUpB s||decide (s=sArr)&&decide (ks.length=2))))
def Ty.goods:List Ty→Bool
 |[]=>true
 |t::l=>Ty.good t&&Ty.goods l
end
mutual
def Pt.good:Pt→Bool
 |.mk k s n ks _=>Pt.goods ks&&(if k=3 then Lx.isUpB s&&decide (n=0) else decide (ks.length=0)&&(if k=1 then decide (s=eB)&&decide (n=0) else if k=2 then Lx.isLowB s&&decide (n=0) else decide (k=4)&&(decide (s=eB)&&(decide (0≤n)&&decide (n≤4611686018427387903)))))
def Pt.goods:List Pt→Bool
 |[]=>true
 |t::l=>Pt.good t&&Pt.goods l
end
theorem Ty.goods_all:∀l:List Ty,Ty.goods l=l.all Ty.good
 |[]=>by rw[Ty.goods];rfl
 |t::l=>by rw[Ty.goods,Ty.goods_all l];rfl
theorem Pt.goods_all:∀l:List Pt,Pt.goods l=l.all Pt.good
 |[]=>by rw[Pt.goods];rfl
 |t::l=>by rw[Pt.goods,Pt.goods_all l];rfl
mutual
def Ty.txt:Ty→ByteArray
 |.mk _ s _ ks=>if s=sArr then Ty.arr ks else s++Ty.txts ks
def Ty.arr:List Ty→ByteArray
 |[x,y]=>(if x.name=sArr then sLb++Ty.txt x++sRb else Ty.txt x)++sAr++Ty.txt y
 |[]=>eB
 |[_]=>eB
 |_::_::_::_=>eB
def Ty.txts:List Ty→ByteArray
 |[]=>eB
 |x::l=>sSp++(if x.kids.length=0 then x.name else sLb++Ty.txt x++sRb)++Ty.txts l
end
mutual
def Pt.txt:Pt→ByteArray
 |.mk k s n ks _=>if k=1 then sUs else if k=4 then digs n.toNat else s++Pt.txts ks
def Pt.txts:List Pt→ByteArray
 |[]=>eB
 |x::l=>sSp++(if x.kids.length=0 then Pt.txt x else sLb++Pt.txt x++sRb)++Pt.txts l
end
theorem dgL_len:∀f u,(dgL f u).length≤f
 |0,u=>by rw[dgL];simp
 |f+1,u=>by
  rw[dgL,List.length_append]
  have:=dgL_len f (u/10)
  split
  ·simp
  ·simp;omega
theorem digs_size(u:Nat):(digs u).size≤20:=by show (dgL 20 u).toArray.size≤20;rw[List.size_toArray];exact dgL_len 20 u
mutual
theorem Ty.txt_size:∀t:Ty,t.txt.size+8≤32*t.size
 |.mk k s n ks=>by
  rw[Ty.txt,Ty.size]
  split
  ·have:=Ty.arr_size ks;omega
  ·rw[ByteArray.size_append];have:=Ty.txts_size ks;omega
theorem Ty.arr_size:∀l:List Ty,(Ty.arr l).size≤32*Ty.sizes l
 |[x,y]=>by
  rw[Ty.arr,ByteArray.size_append,ByteArray.size_append]
  have h1:=Ty.txt_size x
  have h2:=Ty.txt_size y
  rw[Ty.sizes,Ty.sizes,Ty.sizes]
  have h3:sAr.size=4:=rfl
  have h4:sLb.size=2:=rfl
  have h5:sRb.size=2:=rfl
  split
  ·rw[ByteArray.size_append,ByteArray.size_append];omega
  ·omega
 |[]=>by rw[Ty.arr];exact Nat.zero_le _
 |[_]=>by rw[Ty.arr];exact Nat.zero_le _
 |_::_::_::_=>by rw[Ty.arr];exact Nat.zero_le _
theorem Ty.txts_size:∀l:List Ty,(Ty.txts l).size≤32*Ty.sizes l
 |[]=>by rw[Ty.txts];exact Nat.zero_le _
 |x::l=>by
  rw[Ty.txts,ByteArray.size_append,ByteArray.size_append,Ty.sizes]
  have h1:=Ty.txt_size x
  have h2:=Ty.txts_size l
  have h3:sSp.size=1:=rfl
  have h4:sLb.size=2:=rfl
  have h5:sRb.size=2:=rfl
  split
  ·rw[Ty.size_eq];omega
  ·rw[ByteArray.size_append,ByteArray.size_append];omega
end
mutual
theorem Pt.txt_size:∀t:Pt,t.txt.size+8≤32*t.size
 |.mk k s n ks a=>by
  rw[Pt.txt,Pt.size]
  split
  ·show 1+8≤_;omega
  ·split
   ·have:=digs_size n.toNat;omega
   ·rw[ByteArray.size_append];have:=Pt.txts_size ks;omega
theorem Pt.txts_size:∀l:List Pt,(Pt.txts l).size≤32*Pt.sizes l
 |[]=>by rw[Pt.txts];exact Nat.zero_le _
 |x::l=>by
  rw[Pt.txts,ByteArray.size_append,ByteArray.size_append,Pt.sizes]
  have h1:=Pt.txt_size x
  have h2:=Pt.txts_size l
  have h3:sSp.size=1:=rfl
  have h4:sLb.size=2:=rfl
  have h5:sRb.size=2:=rfl
  split
  ·omega
  ·rw[ByteArray.size_append,ByteArray.size_append];omega
end
theorem wone{i j:Nat}(hj:j=i+1)(h:i≤1000000000):IntKind.i64.wrap ((i:Int)+1)=(j:Int):=by rw[wrap_id (by omega)];omega
theorem all_ev{α:Type}(l:List α)(p:α→Bool)(q:Nat→Q)(rT rF:Rs)(hl:l.length≤2000000)
  (hs:∀(i j:Nat) (x:α),IntKind.i64.wrap ((i:Int)+1)=(j:Int)→l[i]? = some x→x∈l→(i:Int)<(l.length:Int)→body PG EE TT ev (q i)=if p x=true then passK (ev (q j)) else .ok rF)
  (he:body PG EE TT ev (q l.length)=.ok rT):ev (q 0)=some (if l.all p=true then rT else rF):=by
 have key:∀(m i:Nat),i+m=l.length→ev (q i)=some (if(l.drop i).all p=true then rT else rF):=by
  intro m
  induction m with
  |zero=>intro i hi;rw[Nat.add_zero] at hi;rw[hi,List.drop_length];exact Evl.of he
  |succ m ih=>
   intro i hi
   have hlt:i<l.length:=by omega
   obtain⟨j,hj⟩:∃j,j=i+1:=⟨_,rfl⟩
   have h1:=hs i j l[i] (wone hj (by omega)) (List.getElem?_eq_getElem hlt) (List.getElem_mem hlt) (by omega)
   have h2:=ih j (by omega)
   rw[List.drop_eq_getElem_cons hlt,←hj,List.all_cons]
   refine Evl.of ?_
   rw[h1]
   by_cases hp:p l[i]=true
   ·rw[if_pos hp,h2,hp,Bool.true_and];rfl
   ·rw[if_neg hp,Bool.not_eq_true _ |>.mp hp,Bool.false_and];rfl
 simpa using key l.length 0 (by omega)
theorem cat_ev{α:Type}(l:List α)(E:α→ByteArray)(T:List α→ByteArray)(hT0:T []=eB)(hT:∀x l,T (x::l)=E x++T l)(q:Nat→ByteArray→Q)(fin:ByteArray→Rs)(B:Nat)(hl:l.length≤2000000)
  (hs:∀(i j:Nat) (x:α) (acc:ByteArray),IntKind.i64.wrap ((i:Int)+1)=(j:Int)→l[i]? = some x→x∈l→(i:Int)<(l.length:Int)→acc.size+(E x).size≤B→body PG EE TT ev (q i acc)=passK (ev (q j (acc++E x))))
  (he:∀acc,body PG EE TT ev (q l.length acc)=.ok (fin acc)) (s:ByteArray) (hb:s.size+(T l).size≤B):ev (q 0 s)=some (fin (s++T l)):=by
 have key:∀(m i:Nat) (acc:ByteArray),i+m=l.length→acc.size+(T (l.drop i)).size≤B→ev (q i acc)=some (fin (acc++T (l.drop i))):=by
  intro m
  induction m with
  |zero=>
   intro i acc hi _
   rw[Nat.add_zero] at hi
   rw[hi,List.drop_length,hT0,show acc++eB=acc from ByteArray.append_empty]
   exact Evl.of (he acc)
  |succ m ih=>
   intro i acc hi hbd
   have hlt:i<l.length:=by omega
   obtain⟨j,hj⟩:∃j,j=i+1:=⟨_,rfl⟩
   rw[List.drop_eq_getElem_cons hlt,←hj,hT] at hbd ⊢
   rw[ByteArray.size_append] at hbd
   have h1:=hs i j l[i] acc (wone hj (by omega)) (List.getElem?_eq_getElem hlt) (List.getElem_mem hlt) (by omega) (by omega)
   have h2:=ih j (acc++E l[i]) (by omega) (by rw[ByteArray.size_append];omega)
   refine Evl.of ?_
   rw[h1,h2,ByteArray.append_assoc]
   rfl
 simpa using key l.length 0 s (by omega) (by simpa using hb)
theorem up_x(s:ByteArray)(hs:s.size≤1000000000):ev (q72 (sv s))=some (0,[bv (Lx.isUpB s)]):=Evl.of (by
 rw[h72];unfold extL1 xUp;simp only;rw[if_pos (by unfold maxLen;omega)];rfl)
theorem low_x(s:ByteArray)(hs:s.size≤1000000000):ev (q73 (sv s))=some (0,[bv (Lx.isLowB s)]):=Evl.of (by
 rw[h73];unfold extL1 xLow;simp only;rw[if_pos (by unfold maxLen;omega)];rfl)
theorem rup_x(s:ByteArray)(hs:s.size≤1000000000):ev (q39 (sv s))=some (0,[bv (Lx.isUpB s)]):=Evl.of (by
 rw[h39];unfold extL1 xUp;simp only;rw[if_pos (by unfold maxLen;omega)];rfl)
theorem rlow_x(s:ByteArray)(hs:s.size≤1000000000):ev (q40 (sv s))=some (0,[bv (Lx.isLowB s)]):=Evl.of (by
 rw[h40];unfold extL1 xLow;simp only;rw[if_pos (by unfold maxLen;omega)];rfl)
theorem txt_x(n:Int)(h0:0≤n)(h1:n<4611686018427387904):ev (q43 (iv n))=some (0,[sv (digs n.toNat)]):=Evl.of (by
 rw[h43];unfold extL1 xTxt;simp only;rw[if_pos ⟨h0,h1⟩];rfl)
def PGood(x:Ty):Prop:=ev (q29 (iv x.kind) (sv x.name) (iv x.n) (tys x.kids))=some (0,[bv x.good])
def RGood(x:Ty):Prop:=ev (q14 (iv x.kind) (sv x.name) (iv x.n) (tys x.kids))=some (0,[bv x.good])
theorem p_every(l:List Ty)(hl:l.length≤2000000)(h:∀x∈l,PGood x):ev (q74a (tys l))=some (0,[bv (l.all Ty.good)]):=by
 have lp:ev (q74ab0a (iv 0) (iv l.length) (tys l))=some (if l.all Ty.good=true then(1,[]) else(0,[bv false])):=
  all_ev l Ty.good (fun i=>q74ab0a (iv (i:Int)) (iv l.length) (tys l)) _ _ hl (fun i j x e0 hx hm hi=>by
   have g:=h x hm
   unfold PGood at g
   show body PG EE TT ev (q74ab0a (iv (i:Int)) (iv l.length) (tys l))=_
   rw[h74ab0a,g74ab0a]
   cases hg:x.good<;>(rw[hg] at g;simp[hi,idxK_tys hx,g,e0])) (by
   show body PG EE TT ev (q74ab0a (iv (l.length:Int)) (iv l.length) (tys l))=_
   rw[h74ab0a,g74ab0a]
   simp)
 refine Evl.of ?_
 rw[h74a,g74a]
 cases hg:l.all Ty.good<;>(rw[hg] at lp;simp[lp])
theorem r_every(x:Ty)(hl:x.kids.length≤2000000)(h:∀y∈x.kids,RGood y):ev (q14b0a (iv 0) (iv x.kind) (sv x.name) (iv x.n) (tys x.kids))=some (if x.kids.all Ty.good=true then(1,[iv x.kind,sv x.name,iv x.n,tys x.kids]) else(0,[iv x.kind,sv x.name,iv x.n,tys x.kids,bv false])):=
 all_ev x.kids Ty.good (fun i=>q14b0a (iv (i:Int)) (iv x.kind) (sv x.name) (iv x.n) (tys x.kids)) _ _ hl (fun i j y e0 hx hm hi=>by
   have g:=h y hm
   unfold RGood at g
   show body PG EE TT ev (q14b0a (iv (i:Int)) (iv x.kind) (sv x.name) (iv x.n) (tys x.kids))=_
   rw[h14b0a,g14b0a]
   cases hg:y.good<;>(rw[hg] at g;simp[hi,idxK_tys hx,g,e0])) (by
   show body PG EE TT ev (q14b0a (iv (x.kids.length:Int)) (iv x.kind) (sv x.name) (iv x.n) (tys x.kids))=_
   rw[h14b0a,g14b0a]
   simp)
theorem Ty.good_eq(x:Ty):x.good=(x.kids.all Ty.good&&(decide (x.n=0)&&(if x.kind=1 then Lx.isLowB x.name&&decide (x.kids.length=0) else decide (x.kind=3)&&(Lx.isUpB x.name||decide (x.name=sArr)&&decide (x.kids.length=2))))):=by
 cases x with
 |mk k s n ks=>rw[Ty.good,Ty.goods_all];rfl
theorem Ty.len_ok(x:Ty)(h:x.size≤2000000):x.kids.length≤2000000∧x.name.size≤1000000000:=by
 have h1:=Ty.len_le x.kids
 have h2:=x.size_eq
 omega
theorem Ty.kid_size{x y:Ty}(h:y∈x.kids):y.size<x.size:=by
 have h1:=Ty.mem_le h
 have h2:=x.size_eq
 omega
theorem p_good:∀(n:Nat) (x:Ty),x.size≤n→n≤2000000→PGood x:=by
 intro n
 induction n with
 |zero=>intro x h _;have:=x.size_pos;omega
 |succ n ih=>
  intro x h hn
  obtain⟨hl,hs⟩:=x.len_ok (by omega)
  have he:=p_every x.kids hl (fun y hy=>ih y (by have:=Ty.kid_size hy;omega) (by omega))
  have hu:=up_x x.name hs
  have hw:=low_x x.name hs
  refine Evl.of ?_
  rw[x.good_eq,h29,g29]
  generalize x.kids.all Ty.good=ga at he ⊢
  generalize Lx.isUpB x.name=gu at hu ⊢
  generalize Lx.isLowB x.name=gl at hw ⊢
  by_cases c0:x.n=0
  ·cases ga
   ·simp[c0,he]
   ·by_cases c1:x.kind=1
    ·cases gl
     ·simp[c0,he,c1,hw]
     ·by_cases c2:x.kids.length=0
      ·simp[c0,he,c1,hw,c2]
      ·simp[c0,he,c1,hw,c2]
    ·by_cases c3:x.kind=3
     ·cases gu
      ·by_cases c4:x.name=sArr
       ·rw[c4] at hu
        by_cases c5:x.kids.length=2
        ·simp[c0,he,c1,c3,hu,c4,c5]
        ·have c6:¬(x.kids.length:Int)=2:=by omega
         simp[c0,he,c1,c3,hu,c4,c5,c6]
       ·simp[c0,he,c1,c3,hu,c4]
      ·simp[c0,he,c1,c3,hu]
     ·simp[c0,he,c1,c3]
  ·simp[c0]
theorem r_good:∀(n:Nat) (x:Ty),x.size≤n→n≤2000000→RGood x:=by
 intro n
 induction n with
 |zero=>intro x h _;have:=x.size_pos;omega
 |succ n ih=>
  intro x h hn
  obtain⟨hl,hs⟩:=x.len_ok (by omega)
  have he:=r_every x hl (fun y hy=>ih y (by have:=Ty.kid_size hy;omega) (by omega))
  have hu:=rup_x x.name hs
  have hw:=rlow_x x.name hs
  refine Evl.of ?_
  rw[x.good_eq,h14,g14]
  generalize x.kids.all Ty.good=ga at he ⊢
  generalize Lx.isUpB x.name=gu at hu ⊢
  generalize Lx.isLowB x.name=gl at hw ⊢
  cases ga
  ·simp only[Bool.false_eq_true,if_false] at he
   simp[he]
  ·simp only[if_true] at he
   by_cases c0:x.n=0
   ·rw[c0] at he
    by_cases c1:x.kind=1
    ·rw[c1] at he
     cases gl
     ·simp[c0,he,c1,hw]
     ·by_cases c2:x.kids.length=0
      ·simp[c0,he,c1,hw,c2]
      ·simp[c0,he,c1,hw,c2]
    ·by_cases c3:x.kind=3
     ·rw[c3] at he
      cases gu
      ·by_cases c4:x.name=sArr
       ·rw[c4] at hu he
        by_cases c5:x.kids.length=2
        ·simp[c0,he,c1,c3,hu,c4,c5]
        ·have c6:¬(x.kids.length:Int)=2:=by omega
         simp[c0,he,c1,c3,hu,c4,c5,c6]
       ·simp[c0,he,c1,c3,hu,c4]
      ·simp[c0,he,c1,c3,hu]
     ·simp[c0,he,c1,c3]
   ·simp[he,c0]
def PTxt(x:Ty):Prop:=ev (q44 (iv x.kind) (sv x.name) (iv x.n) (tys x.kids))=some (0,[sv x.txt])
def RTxt(x:Ty):Prop:=ev (q15 (iv x.kind) (sv x.name) (iv x.n) (tys x.kids))=some (0,[sv x.txt])
def Ty.atx(x:Ty):ByteArray:=if x.kids.length=0 then x.name else sLb++x.txt++sRb
theorem Ty.txt_eq(x:Ty):x.txt=if x.name=sArr then Ty.arr x.kids else x.name++Ty.txts x.kids:=by
 cases x with
 |mk k s n ks=>rw[Ty.txt];rfl
theorem Ty.txts_cons(x:Ty)(l:List Ty):Ty.txts (x::l)=(sSp++x.atx)++Ty.txts l:=by rw[Ty.txts];rfl
theorem Ty.good_up{x:Ty}(h:x.good=true)(hk:x.kids.length=0):x.txt=x.name:=by
 rw[x.good_eq] at h
 rw[x.txt_eq]
 have h0:x.kids=[]:=List.eq_nil_of_length_eq_zero hk
 by_cases c:x.name=sArr
 ·exfalso
  rw[c,hk] at h
  have e1:Lx.isLowB sArr=false:=by kernel_rfl
  have e2:Lx.isUpB sArr=false:=by kernel_rfl
  rw[e1,e2] at h
  simp at h
 ·rw[if_neg c,h0,Ty.txts];exact ByteArray.append_empty
theorem Ty.good_kid{x y:Ty}(h:x.good=true)(hy:y∈x.kids):y.good=true:=by
 rw[x.good_eq,Bool.and_eq_true,List.all_eq_true] at h
 exact h.1 y hy
theorem Ty.good_two{x:Ty}(h:x.good=true)(hs:x.name=sArr):∃a b,x.kids=[a,b]:=by
 rw[x.good_eq,hs] at h
 have e1:Lx.isLowB sArr=false:=by kernel_rfl
 have e2:Lx.isUpB sArr=false:=by kernel_rfl
 rw[e1,e2] at h
 have h2:x.kids.length=2:=by
  apply Decidable.byContradiction
  intro hn
  simp[hn] at h
 match hk:x.kids,h2 with
 |[a,b],_=>exact⟨a,b,rfl⟩
theorem cat_k{t:TypeId}{k:AV→Res}(x y:ByteArray)(hx:x.size≤1000000000)(hy:y.size≤1000000000):binK PG .fail .add t (.pv (sv x)) (.pv (sv y)) k=k (.pv (sv (x++y))):=binK_cat (by omega)
theorem cat_sz{x y:ByteArray}{a b c:Nat}(hx:x.size≤a)(hy:y.size≤b)(h:a+b≤c):(x++y).size≤c:=by rw[ByteArray.size_append];omega
theorem Ty.txt_bd(x:Ty)(h:x.size≤2000000):x.txt.size≤64000000:=by have:=x.txt_size;omega
theorem sz_lb:sLb.size≤2:=Nat.le_refl _
theorem sz_rb:sRb.size≤2:=Nat.le_refl _
theorem sz_sp:sSp.size≤1:=Nat.le_refl _
theorem sz_ar:sAr.size≤4:=Nat.le_refl _
theorem p_atx(x:Ty)(hz:x.size≤2000000)(hg:x.good=true)(h:PTxt x):ev (q88 (iv x.kind) (sv x.name) (iv x.n) (tys x.kids))=some (0,[sv x.atx]):=Evl.of (by
 unfold PTxt at h
 have hb:=x.txt_bd hz
 have h1:=fun k=>cat_k (t:=9) (k:=k) sLb x.txt (Nat.le_trans sz_lb (by decide)) (by omega)
 have h2:=fun k=>cat_k (t:=9) (k:=k) (sLb++x.txt) sRb (cat_sz sz_lb hb (by decide)) (Nat.le_trans sz_rb (by decide))
 rw[h88,g88]
 unfold Ty.atx
 by_cases hk:x.kids.length=0
 ·have hn:=Ty.good_up hg hk
  rw[hn] at h
  have hk':(x.kids.length:Int)=0:=by omega
  simp[-Int.natCast_eq_zero,hk,hk',h]
 ·have hk':¬(x.kids.length:Int)=0:=by omega
  simp[-Int.natCast_eq_zero,hk,hk',h,h1,h2])
theorem r_atx(x:Ty)(hz:x.size≤2000000)(h:RTxt x):ev (q42 (iv x.kind) (sv x.name) (iv x.n) (tys x.kids))=some (0,[sv x.atx]):=Evl.of (by
 unfold RTxt at h
 have hb:=x.txt_bd hz
 have h1:=fun k=>cat_k (t:=9) (k:=k) sLb x.txt (Nat.le_trans sz_lb (by decide)) (by omega)
 have h2:=fun k=>cat_k (t:=9) (k:=k) (sLb++x.txt) sRb (cat_sz sz_lb hb (by decide)) (Nat.le_trans sz_rb (by decide))
 rw[h42,g42]
 unfold Ty.atx
 by_cases hk:x.kids.length=0
 ·have hk':(x.kids.length:Int)=0:=by omega
  simp[-Int.natCast_eq_zero,hk,hk']
 ·have hk':¬(x.kids.length:Int)=0:=by omega
  simp[-Int.natCast_eq_zero,hk,hk',h,h1,h2])
theorem Ty.atx_bd(x:Ty)(h:x.size≤2000000):x.atx.size≤64000004:=by
 unfold Ty.atx
 have h1:=x.txt_bd h
 have h2:=x.size_eq
 split
 ·omega
 ·exact cat_sz (cat_sz sz_lb h1 (Nat.le_refl _)) sz_rb (by decide)
theorem p_txts(x:Ty)(hz:x.size≤2000000)(h:∀y∈x.kids,y.good=true∧PTxt y):ev (q44b0a (iv 0) (iv x.kids.length) (tys x.kids) (sv x.name))=some (0,[sv (x.name++Ty.txts x.kids)]):=by
 have hl:=x.len_ok hz
 have hb:=Ty.txts_size x.kids
 have hs:=x.size_eq
 refine cat_ev x.kids (fun y=>sSp++y.atx) Ty.txts (by rw[Ty.txts]) Ty.txts_cons (fun i acc=>q44b0a (iv (i:Int)) (iv x.kids.length) (tys x.kids) (sv acc)) (fun a=>(0,[sv a])) 100000000 hl.1 (fun i j y acc e0 hx hm hi hacc=>?_) (fun acc=>?_) x.name (by omega)
 ·have hyz:y.size≤2000000:=by have:=Ty.kid_size hm;omega
  have hyb:=y.atx_bd hyz
  have ha:=p_atx y hyz (h y hm).1 (h y hm).2
  have h1:=fun k=>cat_k (t:=9) (k:=k) sSp y.atx (Nat.le_trans sz_sp (by decide)) (by omega)
  have h2:=fun k=>cat_k (t:=9) (k:=k) acc (sSp++y.atx) (by omega) (cat_sz sz_sp hyb (by decide))
  show body PG EE TT ev (q44b0a (iv (i:Int)) (iv x.kids.length) (tys x.kids) (sv acc))=_
  rw[h44b0a,g44b0a]
  simp[hi,idxK_tys hx,ha,h1,h2,e0]
 ·show body PG EE TT ev (q44b0a (iv (x.kids.length:Int)) (iv x.kids.length) (tys x.kids) (sv acc))=_
  rw[h44b0a,g44b0a]
  simp
theorem r_txts(x:Ty)(hz:x.size≤2000000)(h:∀y∈x.kids,RTxt y):ev (q15b0a (iv 0) (sv x.name) (iv x.kind) (sv x.name) (iv x.n) (tys x.kids))=some (0,[iv x.kind,sv x.name,iv x.n,tys x.kids,sv (x.name++Ty.txts x.kids)]):=by
 have hl:=x.len_ok hz
 have hb:=Ty.txts_size x.kids
 have hs:=x.size_eq
 refine cat_ev x.kids (fun y=>sSp++y.atx) Ty.txts (by rw[Ty.txts]) Ty.txts_cons (fun i acc=>q15b0a (iv (i:Int)) (sv acc) (iv x.kind) (sv x.name) (iv x.n) (tys x.kids)) (fun a=>(0,[iv x.kind,sv x.name,iv x.n,tys x.kids,sv a])) 100000000 hl.1 (fun i j y acc e0 hx hm hi hacc=>?_) (fun acc=>?_) x.name (by omega)
 ·have hyz:y.size≤2000000:=by have:=Ty.kid_size hm;omega
  have hyb:=y.atx_bd hyz
  have ha:=r_atx y hyz (h y hm)
  rw[ByteArray.size_append] at hacc
  have h1:=fun k=>cat_k (t:=9) (k:=k) acc sSp (by omega) (Nat.le_trans sz_sp (by decide))
  have h2:=fun k=>cat_k (t:=9) (k:=k) (acc++sSp) y.atx (by rw[ByteArray.size_append];omega) (by omega)
  show body PG EE TT ev (q15b0a (iv (i:Int)) (sv acc) (iv x.kind) (sv x.name) (iv x.n) (tys x.kids))=_
  rw[h15b0a,g15b0a]
  simp[hi,idxK_tys hx,ha,h1,h2,e0,ByteArray.append_assoc]
 ·show body PG EE TT ev (q15b0a (iv (x.kids.length:Int)) (sv acc) (iv x.kind) (sv x.name) (iv x.n) (tys x.kids))=_
  rw[h15b0a,g15b0a]
  simp
section
variable{a b:Ty}{k:AV→Res}
theorem ix0:idxK PG .fail 22 (.pv (tys [a,b])) (.pv i0) k=k (.cptr [iv a.kind,sv a.name,iv a.n,tys a.kids]):=idxK_tys (l:=[a,b]) (i:=0) rfl
theorem ix1:idxK PG .fail 22 (.pv (tys [a,b])) (.pv (.lit (.int .i64 1))) k=k (.cptr [iv b.kind,sv b.name,iv b.n,tys b.kids]):=idxK_tys (l:=[a,b]) (i:=1) rfl
end
theorem p_txt:∀(n:Nat) (x:Ty),x.size≤n→n≤2000000→x.good=true→PTxt x:=by
 intro n
 induction n with
 |zero=>intro x h _ _;have:=x.size_pos;omega
 |succ n ih=>
  intro x h hn hg
  have hk:∀y∈x.kids,y.good=true∧PTxt y:=fun y hy=>⟨Ty.good_kid hg hy,ih y (by have:=Ty.kid_size hy;omega) (by omega) (Ty.good_kid hg hy)⟩
  refine Evl.of ?_
  rw[x.txt_eq,h44,g44]
  by_cases c:x.name=sArr
  ·obtain⟨a,b,hab⟩:=Ty.good_two hg c
   have ha:=(hk a (by rw[hab];simp)).2
   have hb:=(hk b (by rw[hab];simp)).2
   have za:a.size≤2000000:=by have:=Ty.kid_size (x:=x) (y:=a) (by rw[hab];simp);omega
   have zb:b.size≤2000000:=by have:=Ty.kid_size (x:=x) (y:=b) (by rw[hab];simp);omega
   have ta:=a.txt_bd za
   have tb:=b.txt_bd zb
   unfold PTxt at ha hb
   rw[if_pos c,hab,Ty.arr]
   have h1:=fun k=>cat_k (t:=9) (k:=k) sLb a.txt (Nat.le_trans sz_lb (by decide)) (by omega)
   have h2:=fun k=>cat_k (t:=9) (k:=k) (sLb++a.txt) sRb (cat_sz sz_lb ta (by decide)) (Nat.le_trans sz_rb (by decide))
   have h3:=fun k=>cat_k (t:=9) (k:=k) (sLb++a.txt++sRb) sAr (cat_sz (cat_sz sz_lb ta (Nat.le_refl _)) sz_rb (by decide)) (Nat.le_trans sz_ar (by decide))
   have h4:=fun k=>cat_k (t:=9) (k:=k) (sLb++a.txt++sRb++sAr) b.txt (cat_sz (cat_sz (cat_sz sz_lb ta (Nat.le_refl _)) sz_rb (Nat.le_refl _)) sz_ar (by decide)) (by omega)
   have h5:=fun k=>cat_k (t:=9) (k:=k) a.txt sAr (by omega) (Nat.le_trans sz_ar (by decide))
   have h6:=fun k=>cat_k (t:=9) (k:=k) (a.txt++sAr) b.txt (cat_sz ta sz_ar (by decide)) (by omega)
   by_cases ca:a.name=sArr
   ·rw[ca] at ha
    simp[c,ix0,ix1,ca,ha,hb,h1,h2,h3,h4]
   ·simp[c,ix0,ix1,ca,ha,hb,h5,h6]
  ·rw[if_neg c]
   have hx:=p_txts x (by omega) hk
   simp[c,hx]
theorem r_txt:∀(n:Nat) (x:Ty),x.size≤n→n≤2000000→x.good=true→RTxt x:=by
 intro n
 induction n with
 |zero=>intro x h _ _;have:=x.size_pos;omega
 |succ n ih=>
  intro x h hn hg
  have hk:∀y∈x.kids,y.good=true∧RTxt y:=fun y hy=>⟨Ty.good_kid hg hy,ih y (by have:=Ty.kid_size hy;omega) (by omega) (Ty.good_kid hg hy)⟩
  refine Evl.of ?_
  rw[x.txt_eq,h15,g15]
  by_cases c:x.name=sArr
  ·obtain⟨a,b,hab⟩:=Ty.good_two hg c
   have ha:=(hk a (by rw[hab];simp)).2
   have hb:=(hk b (by rw[hab];simp)).2
   have hga:=(hk a (by rw[hab];simp)).1
   have za:a.size≤2000000:=by have:=Ty.kid_size (x:=x) (y:=a) (by rw[hab];simp);omega
   have zb:b.size≤2000000:=by have:=Ty.kid_size (x:=x) (y:=b) (by rw[hab];simp);omega
   have ta:=a.txt_bd za
   have tb:=b.txt_bd zb
   have haa:=r_atx a za ha
   unfold RTxt at ha hb
   rw[if_pos c,hab,Ty.arr]
   have h3:=fun k=>cat_k (t:=9) (k:=k) (sLb++a.txt++sRb) sAr (cat_sz (cat_sz sz_lb ta (Nat.le_refl _)) sz_rb (by decide)) (Nat.le_trans sz_ar (by decide))
   have h4:=fun k=>cat_k (t:=9) (k:=k) (sLb++a.txt++sRb++sAr) b.txt (cat_sz (cat_sz (cat_sz sz_lb ta (Nat.le_refl _)) sz_rb (Nat.le_refl _)) sz_ar (by decide)) (by omega)
   have h5:=fun k=>cat_k (t:=9) (k:=k) a.txt sAr (by omega) (Nat.le_trans sz_ar (by decide))
   have h6:=fun k=>cat_k (t:=9) (k:=k) (a.txt++sAr) b.txt (cat_sz ta sz_ar (by decide)) (by omega)
   by_cases ca:a.name=sArr
   ·obtain⟨u,v,huv⟩:=Ty.good_two hga ca
    have eq:a.atx=sLb++a.txt++sRb:=by unfold Ty.atx;rw[huv];rfl
    rw[eq,ca] at haa
    simp[c,ix0,ix1,ca,haa,hb,h3,h4]
   ·simp[c,ix0,ix1,ca,ha,hb,h5,h6]
  ·rw[if_neg c]
   have hx:=r_txts x (by omega) (fun y hy=>(hk y hy).2)
   simp[c,hx]
theorem uS:PG.underlying 9=some .string:=by kernel_rfl
theorem u8:PG.underlying 5=some (.int .u8):=by kernel_rfl
theorem uL:PG.underlying 2=some (.int .i64):=by kernel_rfl
theorem uU:PG.underlying 123=some (.int .u64):=by kernel_rfl
theorem uB:PG.underlying 126=some (.slice 5):=by kernel_rfl
section
variable{β:Type}{d:β}{k:AV→β}
@[simp] theorem convUB(n:Int):convK PG d 123 5 (.pv (wv n)) k=k (.pv (cv (IntKind.u8.wrap n))):=convK_int uU u8 n
@[simp] theorem convUL(n:Int):convK PG d 123 2 (.pv (wv n)) k=k (.pv (iv (IntKind.i64.wrap n))):=convK_int uU uL n
@[simp] theorem convLU(n:Int):convK PG d 2 123 (.pv (iv n)) k=k (.pv (wv (IntKind.u64.wrap n))):=convK_int uL uU n
@[simp] theorem conv1(n:Int):convK PG d 126 9 (.pv (.rows [[cv n]])) k=k (.pv (sv ⟨#[UInt8.ofNat n.toNat]⟩)):=convK_bytes (l:=[n]) uB u8 uS
end
theorem rem63(n:Int)(k:AV→Res):binK PG .fail .rem 123 (.pv (wv n)) (.pv (wv 9223372036854775808)) k=k (.pv (wv (n.tmod 9223372036854775808))):=binK_rem_u64 (by decide)
theorem rem10(n:Int)(k:AV→Res):binK PG .fail .rem 123 (.pv (wv n)) (.pv (wv 10)) k=k (.pv (wv (n.tmod 10))):=binK_rem_u64 (by decide)
theorem quo10(n:Int)(k:AV→Res):binK PG .fail .quo 123 (.pv (wv n)) (.pv (wv 10)) k=k (.pv (wv (IntKind.u64.wrap (n.tdiv 10)))):=binK_quo_u64 (by decide)
theorem tmod_lt{n m:Int}(h0:0≤n)(h1:n<m):n.tmod m=n:=by
 rw[Int.tmod_eq_emod_of_nonneg h0];exact Int.emod_eq_of_lt h0 h1
theorem wrapU_id{n:Int}(h0:0≤n)(h1:n<18446744073709551616):IntKind.u64.wrap n=n:=by
 simp[IntKind.wrap,IntKind.signed,IntKind.bits];omega
theorem wrap8_id{n:Int}(h0:0≤n)(h1:n<256):IntKind.u8.wrap n=n:=by
 simp[IntKind.wrap,IntKind.signed,IntKind.bits];omega
theorem mod_x{n:Int}(h0:0≤n)(h1:n<4611686018427387904):ev (q128 (iv n))=some (0,[wv n]):=Evl.of (by
 rw[h128,g128]
 simp[rem63,wrapU_id h0 (by omega),tmod_lt h0 (show n<9223372036854775808 by omega)])
theorem mean_x{n:Int}(h0:0≤n)(h1:n<4611686018427387904):ev (q127 (wv n))=some (0,[iv n]):=Evl.of (by
 rw[h127,g127]
 simp[show ¬4611686018427387904≤n by omega,wrap_id (n:=n) (by omega)])
theorem wrap_x{n:Int}(h0:0≤n)(h1:n<4611686018427387904):ev (q84 (iv n))=some (0,[iv n]):=Evl.of (by rw[h84,g84];simp[mod_x h0 h1,mean_x h0 h1])
theorem size_x{n:Int}(h0:0≤n)(h1:n<4611686018427387904):ev (q86 (iv n))=some (0,[wv n]):=Evl.of (by
 rw[h86,g86]
 simp[show ¬n<0 by omega,wrapU_id h0 (by omega)])
def dg1(u:Nat):ByteArray:=⟨#[UInt8.ofNat (48+u)]⟩
theorem textOf_cat(a b:List UInt8):Lx.textOf (a++b)=Lx.textOf a++Lx.textOf b:=by
 apply ByteArray.ext
 show (a++b).toArray=_
 rw[ByteArray.data_append]
 simp[Lx.textOf]
theorem text_one(u:Nat):Lx.textOf [UInt8.ofNat (48+u)]=dg1 u:=rfl
theorem digs_x:∀(f u:Nat) (s:ByteArray),u<10 ^ (f+1)→u<4611686018427387904→s.size+f≤100→∃(d:Nat) (s':ByteArray),ev (q85b0a (wv (u:Int)) (sv s))=some (0,[wv (d:Int),sv s'])∧d≤9∧s'.size≤100∧dg1 d++s'=Lx.textOf (dgL (f+1) u)++s:=by
 have stop:∀(f u:Nat) (s:ByteArray),u<10→s.size+f≤100→∃(d:Nat) (s':ByteArray),ev (q85b0a (wv (u:Int)) (sv s))=some (0,[wv (d:Int),sv s'])∧d≤9∧s'.size≤100∧dg1 d++s'=Lx.textOf (dgL (f+1) u)++s:=by
  intro f u s hu hs
  refine⟨u,s,Evl.of ?_,by omega,by omega,?_⟩
  ·rw[h85b0a,g85b0a]
   simp[show ¬(9:Int)<(u:Int) by omega]
  ·rw[dgL,if_pos hu,List.nil_append,text_one,Nat.mod_eq_of_lt hu]
 intro f
 induction f with
 |zero=>
  intro u s hu _ hs
  exact stop 0 u s (by simpa using hu) hs
 |succ f ih=>
  intro u s hu hu2 hs
  by_cases h9:u<10
  ·exact stop _ u s h9 hs
  ·have hpow:u/10<10 ^ (f+1):=by
    rw[Nat.pow_succ] at hu
    omega
   have hd1:(dg1 (u%10)).size=1:=rfl
   obtain⟨d,s',e1,e2,e3,e4⟩:=ih (u/10) (dg1 (u%10)++s) hpow (by omega) (by rw[ByteArray.size_append];omega)
   refine⟨d,s',Evl.of ?_,e2,e3,?_⟩
   ·rw[h85b0a,g85b0a]
    have m1:((u:Int)).tmod 10=((u%10:Nat):Int):=by rw[Int.tmod_eq_emod_of_nonneg (by omega)];omega
    have m2:IntKind.u64.wrap (((u:Int)).tdiv 10)=((u/10:Nat):Int):=by rw[Int.tdiv_eq_ediv_of_nonneg (by omega),wrapU_id (by omega) (by omega)];omega
    have m6:IntKind.u64.wrap ((u:Int)/10)=((u/10:Nat):Int):=by rw[wrapU_id (by omega) (by omega)];omega
    have m7:(u:Int)%10=((u%10:Nat):Int):=by omega
    have m3:IntKind.u64.wrap (48+((u%10:Nat):Int))=48+((u%10:Nat):Int):=wrapU_id (by omega) (by omega)
    have m4:IntKind.u8.wrap (48+((u%10:Nat):Int))=48+((u%10:Nat):Int):=wrap8_id (by omega) (by omega)
    have m5:(⟨#[UInt8.ofNat (48+((u%10:Nat):Int)).toNat]⟩:ByteArray)=dg1 (u%10):=by
     have:(48+((u%10:Nat):Int)).toNat=48+u%10:=by omega
     rw[this];rfl
    have h1:=fun k=>cat_k (t:=9) (k:=k) (dg1 (u%10)) s (by omega) (by omega)
    generalize u%10=r at *
    generalize u/10=v at *
    simp[m6,m7,show (9:Int)<(u:Int) by omega,rem10,quo10,m1,m2,m3,m4,m5,h1,e1]
   ·have e5:dgL (f+1+1) u=dgL (f+1) (u/10)++[UInt8.ofNat (48+u%10)]:=by rw[dgL,if_neg h9]
    rw[e4,e5,textOf_cat,text_one,ByteArray.append_assoc]
theorem rdigits_x(u:Nat)(hu:u<4611686018427387904):ev (q85 (wv (u:Int)))=some (0,[sv (digs u)]):=by
 obtain⟨d,s',e1,e2,e3,e4⟩:=digs_x 19 u eB (by omega) hu (by decide)
 refine Evl.of ?_
 have m3:IntKind.u64.wrap (48+(d:Int))=48+(d:Int):=wrapU_id (by omega) (by omega)
 have m4:IntKind.u8.wrap (48+(d:Int))=48+(d:Int):=wrap8_id (by omega) (by omega)
 have m5:(⟨#[UInt8.ofNat (48+(d:Int)).toNat]⟩:ByteArray)=dg1 d:=by
  have:(48+(d:Int)).toNat=48+d:=by omega
  rw[this];rfl
 have hd1:(dg1 d).size=1:=rfl
 have h1:=fun k=>cat_k (t:=9) (k:=k) (dg1 d) s' (by omega) (by omega)
 have e5:dg1 d++s'=digs u:=by rw[e4];exact ByteArray.append_empty
 rw[h85,g85]
 simp[e1,m3,m4,m5,h1,e5]
theorem rtxt_x(n:Int)(h0:0≤n)(h1:n<4611686018427387904):ev (q41 (iv n))=some (0,[sv (digs n.toNat)]):=by
 have hd:=rdigits_x n.toNat (by omega)
 rw[Int.toNat_of_nonneg h0] at hd
 exact Evl.of (by
  rw[h41,g41]
  simp[wrap_x h0 h1,size_x h0 h1,show ¬n<0 by omega,hd])
def PGoodP(x:Pt):Prop:=ev (q32 (iv x.kind) (sv x.name) (iv x.n) (pts x.kids) (iv x.at_))=some (0,[bv x.good])
def RGoodP(x:Pt):Prop:=ev (q12 (iv x.kind) (sv x.name) (iv x.n) (pts x.kids) (iv x.at_))=some (0,[bv x.good])
theorem p_everyP(l:List Pt)(hl:l.length≤2000000)(h:∀x∈l,PGoodP x):ev (q75a (pts l))=some (0,[bv (l.all Pt.good)]):=by
 have lp:ev (q75ab0a (iv 0) (iv l.length) (pts l))=some (if l.all Pt.good=true then(1,[]) else(0,[bv false])):=
  all_ev l Pt.good (fun i=>q75ab0a (iv (i:Int)) (iv l.length) (pts l)) _ _ hl (fun i j x e0 hx hm hi=>by
   have g:=h x hm
   unfold PGoodP at g
   show body PG EE TT ev (q75ab0a (iv (i:Int)) (iv l.length) (pts l))=_
   rw[h75ab0a,g75ab0a]
   cases hg:x.good<;>(rw[hg] at g;simp[hi,idxK_pts hx,g,e0])) (by
   show body PG EE TT ev (q75ab0a (iv (l.length:Int)) (iv l.length) (pts l))=_
   rw[h75ab0a,g75ab0a]
   simp)
 refine Evl.of ?_
 rw[h75a,g75a]
 cases hg:l.all Pt.good<;>(rw[hg] at lp;simp[lp])
theorem r_everyP(x:Pt)(hl:x.kids.length≤2000000)(h:∀y∈x.kids,RGoodP y):ev (q12b0a (iv 0) (iv x.kind) (sv x.name) (iv x.n) (pts x.kids) (iv x.at_))=some (if x.kids.all Pt.good=true then(1,[iv x.kind,sv x.name,iv x.n,pts x.kids,iv x.at_]) else(0,[iv x.kind,sv x.name,iv x.n,pts x.kids,iv x.at_,bv false])):=
 all_ev x.kids Pt.good (fun i=>q12b0a (iv (i:Int)) (iv x.kind) (sv x.name) (iv x.n) (pts x.kids) (iv x.at_)) _ _ hl (fun i j y e0 hx hm hi=>by
   have g:=h y hm
   unfold RGoodP at g
   show body PG EE TT ev (q12b0a (iv (i:Int)) (iv x.kind) (sv x.name) (iv x.n) (pts x.kids) (iv x.at_))=_
   rw[h12b0a,g12b0a]
   cases hg:y.good<;>(rw[hg] at g;simp[hi,idxK_pts hx,g,e0])) (by
   show body PG EE TT ev (q12b0a (iv (x.kids.length:Int)) (iv x.kind) (sv x.name) (iv x.n) (pts x.kids) (iv x.at_))=_
   rw[h12b0a,g12b0a]
   simp)
theorem Pt.good_eq(x:Pt):x.good=(x.kids.all Pt.good&&(if x.kind=3 then Lx.isUpB x.name&&decide (x.n=0) else decide (x.kids.length=0)&&(if x.kind=1 then decide (x.name=eB)&&decide (x.n=0) else if x.kind=2 then Lx.isLowB x.name&&decide (x.n=0) else decide (x.kind=4)&&(decide (x.name=eB)&&(decide (0≤x.n)&&decide (x.n≤4611686018427387903)))))):=by
 cases x with
 |mk k s n ks a=>rw[Pt.good,Pt.goods_all];rfl
theorem Pt.len_ok(x:Pt)(h:x.size≤2000000):x.kids.length≤2000000∧x.name.size≤1000000000:=by
 have h1:=Pt.len_le x.kids
 have h2:=x.size_eq
 omega
theorem Pt.kid_size{x y:Pt}(h:y∈x.kids):y.size<x.size:=by
 have h1:=Pt.mem_le h
 have h2:=x.size_eq
 omega
theorem all_nil{α:Type}{l:List α}(p:α→Bool)(h:l.length=0):l.all p=true:=by
 rw[List.eq_nil_of_length_eq_zero h];rfl
theorem p_goodP:∀(n:Nat) (x:Pt),x.size≤n→n≤2000000→PGoodP x:=by
 intro n
 induction n with
 |zero=>intro x h _;have:=x.size_pos;omega
 |succ n ih=>
  intro x h hn
  obtain⟨hl,hs⟩:=x.len_ok (by omega)
  have he:=p_everyP x.kids hl (fun y hy=>ih y (by have:=Pt.kid_size hy;omega) (by omega))
  have hu:=up_x x.name hs
  have hw:=low_x x.name hs
  have ha:=fun h=>all_nil (l:=x.kids) Pt.good h
  refine Evl.of ?_
  rw[x.good_eq,h32,g32]
  generalize x.kids.all Pt.good=ga at he ha ⊢
  generalize Lx.isUpB x.name=gu at hu ⊢
  generalize Lx.isLowB x.name=gl at hw ⊢
  by_cases c1:x.kind=1
  ·by_cases c2:x.name=eB
   ·by_cases c3:x.n=0
    ·by_cases c4:x.kids.length=0
     ·simp[c1,c2,c3,c4,ha c4]
     ·have c5:¬(x.kids.length:Int)=0:=by omega
      simp[-Int.natCast_eq_zero,c1,c2,c3,c4,c5]
    ·simp[c1,c2,c3]
   ·simp[c1,c2]
  ·by_cases d1:x.kind=2
   ·cases gl
    ·simp[c1,d1,hw]
    ·by_cases c3:x.n=0
     ·by_cases c4:x.kids.length=0
      ·simp[c1,d1,hw,c3,c4,ha c4]
      ·have c5:¬(x.kids.length:Int)=0:=by omega
       simp[-Int.natCast_eq_zero,c1,d1,hw,c3,c4,c5]
     ·simp[c1,d1,hw,c3]
   ·by_cases e1:x.kind=4
    ·by_cases c2:x.name=eB
     ·by_cases c3:0≤x.n
      ·by_cases c6:x.n≤4611686018427387903
       ·by_cases c4:x.kids.length=0
        ·simp[c1,d1,e1,c2,c3,c4,c6,ha c4]
        ·have c5:¬(x.kids.length:Int)=0:=by omega
         simp[-Int.natCast_eq_zero,c1,d1,e1,c2,c3,c4,c5,c6]
       ·simp[c1,d1,e1,c2,c3,c6]
      ·simp[c1,d1,e1,c2,c3]
     ·simp[c1,d1,e1,c2]
    ·by_cases f1:x.kind=3
     ·cases gu
      ·simp[c1,d1,e1,f1,hu]
      ·by_cases c3:x.n=0
       ·cases ga
        ·simp[c1,d1,e1,f1,hu,c3,he]
        ·simp[c1,d1,e1,f1,hu,c3,he]
       ·simp[c1,d1,e1,f1,hu,c3]
     ·simp[c1,d1,e1,f1]
theorem r_goodP:∀(n:Nat) (x:Pt),x.size≤n→n≤2000000→RGoodP x:=by
 intro n
 induction n with
 |zero=>intro x h _;have:=x.size_pos;omega
 |succ n ih=>
  intro x h hn
  obtain⟨hl,hs⟩:=x.len_ok (by omega)
  have he:=r_everyP x hl (fun y hy=>ih y (by have:=Pt.kid_size hy;omega) (by omega))
  have hu:=rup_x x.name hs
  have hw:=rlow_x x.name hs
  refine Evl.of ?_
  rw[x.good_eq,h12,g12]
  generalize x.kids.all Pt.good=ga at he ⊢
  generalize Lx.isUpB x.name=gu at hu ⊢
  generalize Lx.isLowB x.name=gl at hw ⊢
  cases ga
  ·simp only[Bool.false_eq_true,if_false] at he
   simp[he]
  ·simp only[if_true] at he
   by_cases f1:x.kind=3
   ·rw[f1] at he
    cases gu
    ·simp[he,f1,hu]
    ·by_cases c3:x.n=0
     ·rw[c3] at he;simp[he,f1,hu,c3]
     ·simp[he,f1,hu,c3]
   ·by_cases c4:x.kids.length=0
    ·have c5:¬(0:Int)<(x.kids.length:Int):=by omega
     by_cases c1:x.kind=1
     ·rw[c1] at he
      by_cases c2:x.name=eB
      ·rw[c2] at he
       by_cases c3:x.n=0
       ·rw[c3] at he;simp[he,f1,c4,c5,c1,c2,c3]
       ·simp[he,f1,c4,c5,c1,c2,c3]
      ·simp[he,f1,c4,c5,c1,c2]
     ·by_cases d1:x.kind=2
      ·rw[d1] at he
       cases gl
       ·simp[he,f1,c4,c5,c1,d1,hw]
       ·by_cases c3:x.n=0
        ·rw[c3] at he;simp[he,f1,c4,c5,c1,d1,hw,c3]
        ·simp[he,f1,c4,c5,c1,d1,hw,c3]
      ·by_cases e1:x.kind=4
       ·rw[e1] at he
        by_cases c2:x.name=eB
        ·rw[c2] at he
         by_cases c3:0≤x.n
         ·by_cases c6:x.n≤4611686018427387903
          ·simp[he,f1,c4,c5,c1,d1,e1,c2,c3,c6]
          ·simp[he,f1,c4,c5,c1,d1,e1,c2,c3,c6]
         ·simp[he,f1,c4,c5,c1,d1,e1,c2,c3]
        ·simp[he,f1,c4,c5,c1,d1,e1,c2]
       ·simp[he,f1,c4,c5,c1,d1,e1]
    ·have c5:0<x.kids.length:=by omega
     simp[he,f1,c4,c5]
def PTxtP(x:Pt):Prop:=ev (q16 (iv x.kind) (sv x.name) (iv x.n) (pts x.kids) (iv x.at_))=some (0,[sv (if x.good=true then x.txt else eB)])
def RTxtP(x:Pt):Prop:=ev (q13 (iv x.kind) (sv x.name) (iv x.n) (pts x.kids) (iv x.at_))=some (0,[sv x.txt])
def Pt.apx(x:Pt):ByteArray:=if x.kids.length=0 then x.txt else sLb++x.txt++sRb
theorem Pt.txt_eq(x:Pt):x.txt=if x.kind=1 then sUs else if x.kind=4 then digs x.n.toNat else x.name++Pt.txts x.kids:=by
 cases x with
 |mk k s n ks a=>rw[Pt.txt];rfl
theorem Pt.txts_cons(x:Pt)(l:List Pt):Pt.txts (x::l)=(sSp++x.apx)++Pt.txts l:=by rw[Pt.txts];rfl
theorem Pt.good_kid{x y:Pt}(h:x.good=true)(hy:y∈x.kids):y.good=true:=by
 rw[x.good_eq,Bool.and_eq_true,List.all_eq_true] at h
 exact h.1 y hy
theorem Pt.good_four{x:Pt}(h:x.good=true)(hk:x.kind=4):0≤x.n∧x.n<4611686018427387904:=by
 rw[x.good_eq,hk] at h
 simp at h
 omega
theorem Pt.good_var{x:Pt}(h:x.good=true)(hk:x.kind=2):x.kids=[]:=by
 rw[x.good_eq,hk] at h
 simp at h
 exact h.2.1
theorem Pt.txt_bd(x:Pt)(h:x.size≤2000000):x.txt.size≤64000000:=by have:=x.txt_size;omega
theorem p_txtsP(x:Pt)(hz:x.size≤2000000)(h:∀y∈x.kids,y.good=true∧PTxtP y):ev (q16b1a (iv 0) (iv x.kids.length) (pts x.kids) (sv x.name))=some (0,[sv (x.name++Pt.txts x.kids)]):=by
 have hl:=x.len_ok hz
 have hb:=Pt.txts_size x.kids
 have hs:=x.size_eq
 refine cat_ev x.kids (fun y=>sSp++y.apx) Pt.txts (by rw[Pt.txts]) Pt.txts_cons (fun i acc=>q16b1a (iv (i:Int)) (iv x.kids.length) (pts x.kids) (sv acc)) (fun a=>(0,[sv a])) 100000000 hl.1 (fun i j y acc e0 hx hm hi hacc=>?_) (fun acc=>?_) x.name (by omega)
 ·have hyz:y.size≤2000000:=by have:=Pt.kid_size hm;omega
  have hyb:=y.txt_bd hyz
  have ha:=(h y hm).2
  unfold PTxtP at ha
  rw[if_pos (h y hm).1] at ha
  show body PG EE TT ev (q16b1a (iv (i:Int)) (iv x.kids.length) (pts x.kids) (sv acc))=_
  rw[h16b1a,g16b1a]
  unfold Pt.apx at hacc ⊢
  by_cases hk:y.kids.length=0
  ·have hk':¬0<y.kids.length:=by omega
   have h1:=fun k=>cat_k (t:=9) (k:=k) sSp y.txt (Nat.le_trans sz_sp (by decide)) (by omega)
   have h2:=fun k=>cat_k (t:=9) (k:=k) acc (sSp++y.txt) (by omega) (cat_sz sz_sp hyb (by decide))
   simp[hi,idxK_pts hx,ha,hk,hk',h1,h2,e0]
  ·have hk':0<y.kids.length:=by omega
   have h3:=fun k=>cat_k (t:=9) (k:=k) sLb y.txt (Nat.le_trans sz_lb (by decide)) (by omega)
   have h4:=fun k=>cat_k (t:=9) (k:=k) (sLb++y.txt) sRb (cat_sz sz_lb hyb (by decide)) (Nat.le_trans sz_rb (by decide))
   have h1:=fun k=>cat_k (t:=9) (k:=k) sSp (sLb++y.txt++sRb) (Nat.le_trans sz_sp (by decide)) (cat_sz (cat_sz sz_lb hyb (Nat.le_refl _)) sz_rb (by decide))
   have h2:=fun k=>cat_k (t:=9) (k:=k) acc (sSp++(sLb++y.txt++sRb)) (by omega) (cat_sz sz_sp (cat_sz (cat_sz sz_lb hyb (Nat.le_refl _)) sz_rb (Nat.le_refl _)) (by decide))
   simp[hi,idxK_pts hx,ha,hk,hk',h1,h2,h3,h4,e0]
 ·show body PG EE TT ev (q16b1a (iv (x.kids.length:Int)) (iv x.kids.length) (pts x.kids) (sv acc))=_
  rw[h16b1a,g16b1a]
  simp
theorem p_txtP:∀(n:Nat) (x:Pt),x.size≤n→n≤2000000→PTxtP x:=by
 intro n
 induction n with
 |zero=>intro x h _;have:=x.size_pos;omega
 |succ n ih=>
  intro x h hn
  have hgd:=p_goodP 2000000 x (by omega) (Nat.le_refl _)
  unfold PGoodP at hgd
  refine Evl.of ?_
  rw[h16,g16]
  cases hg:x.good
  ·rw[hg] at hgd
   simp[hgd]
  ·rw[hg] at hgd
   rw[if_pos rfl,x.txt_eq]
   have hk:∀y∈x.kids,y.good=true∧PTxtP y:=fun y hy=>⟨Pt.good_kid hg hy,ih y (by have:=Pt.kid_size hy;omega) (by omega)⟩
   have hx:=p_txtsP x (by omega) hk
   by_cases c1:x.kind=1
   ·rw[c1] at hgd
    simp[hgd,c1]
   ·by_cases c2:x.kind=2
    ·rw[c2] at hgd
     have hn0:x.name++Pt.txts x.kids=x.name:=by rw[Pt.good_var hg c2,Pt.txts];exact ByteArray.append_empty
     simp[hgd,c2,hn0]
    ·by_cases c4:x.kind=4
     ·rw[c4] at hgd
      have hq:=Pt.good_four hg c4
      simp[hgd,c4,txt_x x.n hq.1 hq.2]
     ·simp[hgd,c1,c2,c4,hx]
theorem sp_lb:(⟨#[32,40,32]⟩:ByteArray)=sSp++sLb:=by
 apply ByteArray.ext
 rw[ByteArray.data_append]
 rfl
theorem r_txtsP(x:Pt)(hz:x.size≤2000000)(h:∀y∈x.kids,RTxtP y):ev (q13b0a (iv 0) (sv x.name) (iv x.kind) (sv x.name) (iv x.n) (pts x.kids) (iv x.at_))=some (0,[iv x.kind,sv x.name,iv x.n,pts x.kids,iv x.at_,sv (x.name++Pt.txts x.kids)]):=by
 have hl:=x.len_ok hz
 have hb:=Pt.txts_size x.kids
 have hs:=x.size_eq
 refine cat_ev x.kids (fun y=>sSp++y.apx) Pt.txts (by rw[Pt.txts]) Pt.txts_cons (fun i acc=>q13b0a (iv (i:Int)) (sv acc) (iv x.kind) (sv x.name) (iv x.n) (pts x.kids) (iv x.at_)) (fun a=>(0,[iv x.kind,sv x.name,iv x.n,pts x.kids,iv x.at_,sv a])) 100000000 hl.1 (fun i j y acc e0 hx hm hi hacc=>?_) (fun acc=>?_) x.name (by omega)
 ·have hyz:y.size≤2000000:=by have:=Pt.kid_size hm;omega
  have hyb:=y.txt_bd hyz
  have ha:=h y hm
  unfold RTxtP at ha
  show body PG EE TT ev (q13b0a (iv (i:Int)) (sv acc) (iv x.kind) (sv x.name) (iv x.n) (pts x.kids) (iv x.at_))=_
  rw[h13b0a,g13b0a]
  unfold Pt.apx at hacc ⊢
  rw[ByteArray.size_append] at hacc
  by_cases hk:y.kids.length=0
  ·rw[if_pos hk] at hacc ⊢
   have hk':¬0<y.kids.length:=by omega
   have h1:=fun k=>cat_k (t:=9) (k:=k) acc sSp (by omega) (Nat.le_trans sz_sp (by decide))
   have h2:=fun k=>cat_k (t:=9) (k:=k) (acc++sSp) y.txt (by rw[ByteArray.size_append];omega) (by omega)
   simp[hi,idxK_pts hx,ha,hk',h1,h2,e0,ByteArray.append_assoc]
  ·rw[if_neg hk] at hacc ⊢
   have hk':0<y.kids.length:=by omega
   have q1:(sSp++sLb).size=3:=rfl
   have q2:(sLb++y.txt++sRb).size=2+y.txt.size+2:=by rw[ByteArray.size_append,ByteArray.size_append];rfl
   have h1:=fun k=>cat_k (t:=9) (k:=k) acc (sSp++sLb) (by omega) (by omega)
   rw[←sp_lb] at h1
   have h2:=fun k=>cat_k (t:=9) (k:=k) (acc++⟨#[32,40,32]⟩) y.txt (by rw[sp_lb,ByteArray.size_append];omega) (by omega)
   have h3:=fun k=>cat_k (t:=9) (k:=k) (acc++⟨#[32,40,32]⟩++y.txt) sRb (by rw[sp_lb,ByteArray.size_append,ByteArray.size_append];omega) (Nat.le_trans sz_rb (by decide))
   have hf:acc++(⟨#[32,40,32]⟩:ByteArray)++y.txt++sRb=acc++(sSp++(sLb++y.txt++sRb)):=by
    rw[sp_lb];simp only[ByteArray.append_assoc]
   simp only[←hf]
   simp[hi,idxK_pts hx,ha,hk',h1,h2,h3,e0]
 ·show body PG EE TT ev (q13b0a (iv (x.kids.length:Int)) (sv acc) (iv x.kind) (sv x.name) (iv x.n) (pts x.kids) (iv x.at_))=_
  rw[h13b0a,g13b0a]
  simp
theorem r_txtP:∀(n:Nat) (x:Pt),x.size≤n→n≤2000000→x.good=true→RTxtP x:=by
 intro n
 induction n with
 |zero=>intro x h _ _;have:=x.size_pos;omega
 |succ n ih=>
  intro x h hn hg
  have hk:∀y∈x.kids,RTxtP y:=fun y hy=>ih y (by have:=Pt.kid_size hy;omega) (by omega) (Pt.good_kid hg hy)
  have hx:=r_txtsP x (by omega) hk
  refine Evl.of ?_
  rw[x.txt_eq,h13,g13]
  by_cases c1:x.kind=1
  ·simp[c1]
  ·by_cases c4:x.kind=4
   ·have hq:=Pt.good_four hg c4
    simp[c4,rtxt_x x.n hq.1 hq.2]
   ·simp[c1,c4,hx]
def nameB(s:ByteArray):Bool:=Lx.isLowB s||Lx.isOpB s
def kidsN(k:Int):Int:=if k=1 then 0 else if k=2 then 0 else if k=3 then 0 else if k=4 then 0 else if k=6 then 1 else if k=7 then 1 else if k=8 then 1 else if k=12 then 1 else if k=5 then 2 else if k=10 then 2 else if k=11 then 2 else if k=9 then 3 else -1
def namedB(k:Int)(s:ByteArray)(n:Int):Bool:=
 if k=1 then decide (s=eB)&&(decide (0≤n)&&decide (n≤4611686018427387903))
 else if k=7 then decide (s=eB)&&(decide (n=0)||decide (n=1))
 else decide (n=0)&&(if k=2 then utfB s else if k=3 then nameB s else if k=4 then Lx.isUpB s else if k=6 then Lx.isLowB s else decide (s=eB))
def zeroT(t:Ty):Bool:=decide (t.kind=0)&&(decide (t.name=eB)&&(decide (t.n=0)&&decide (t.kids.length=0)))
def headB(k:Int)(s:ByteArray)(n:Int)(t:Ty)(lk la lb:Nat):Bool:=
 decide ((lk:Int)=kidsN k)&&(namedB k s n&&(decide ((0<lb)↔k=7)&&(decide ((0<la)↔k=8)&&(if k=12 then t.good else zeroT t))))
mutual
def Ex.good:Ex→Bool
 |.mk k s n t ks xs bs _=>headB k s n t ks.length xs.length bs.length&&(Ex.goods ks&&(Bd.goods bs&&Al.goods xs))
def Al.good:Al→Bool
 |.mk p e=>p.good&&e.good
def Bd.good:Bd→Bool
 |.mk s e _=>nameB s&&e.good
def Ex.goods:List Ex→Bool
 |[]=>true
 |x::l=>x.good&&Ex.goods l
def Al.goods:List Al→Bool
 |[]=>true
 |x::l=>x.good&&Al.goods l
def Bd.goods:List Bd→Bool
 |[]=>true
 |x::l=>x.good&&Bd.goods l
end
theorem Ex.goods_all:∀l:List Ex,Ex.goods l=l.all Ex.good
 |[]=>by rw[Ex.goods];rfl
 |t::l=>by rw[Ex.goods,Ex.goods_all l];rfl
theorem Al.goods_all:∀l:List Al,Al.goods l=l.all Al.good
 |[]=>by rw[Al.goods];rfl
 |t::l=>by rw[Al.goods,Al.goods_all l];rfl
theorem Bd.goods_all:∀l:List Bd,Bd.goods l=l.all Bd.good
 |[]=>by rw[Bd.goods];rfl
 |t::l=>by rw[Bd.goods,Bd.goods_all l];rfl
theorem Ex.good_eq(x:Ex):x.good=(headB x.kind x.name x.n x.t x.kids.length x.alts.length x.binds.length&&(x.kids.all Ex.good&&(x.binds.all Bd.good&&x.alts.all Al.good))):=by
 cases x with
 |mk k s n t ks xs bs a=>rw[Ex.good,Ex.goods_all,Al.goods_all,Bd.goods_all];rfl
theorem Al.good_eq(x:Al):x.good=(x.p.good&&x.e.good):=by cases x;rw[Al.good];rfl
theorem Bd.good_eq(x:Bd):x.good=(nameB x.name&&x.e.good):=by cases x;rw[Bd.good];rfl
theorem Ex.len_ok(x:Ex)(h:x.size≤2000000):x.kids.length≤2000000∧x.alts.length≤2000000∧x.binds.length≤2000000∧x.name.size≤1000000*2∧x.t.size≤2000000:=by
 have h1:=Ex.len_le x.kids
 have h2:=x.size_eq
 have h3:=Al.len_le x.alts
 have h4:=Bd.len_le x.binds
 omega
theorem Ex.kid_size{x y:Ex}(h:y∈x.kids):y.size<x.size:=by
 have h1:=Ex.mem_le h
 have h2:=x.size_eq
 omega
theorem Ex.alt_size{x:Ex}{y:Al}(h:y∈x.alts):y.e.size<x.size∧y.p.size<x.size:=by
 have h1:=Al.mem_le h
 have h2:=x.size_eq
 have h3:=y.size_eq
 omega
theorem Ex.bind_size{x:Ex}{y:Bd}(h:y∈x.binds):y.e.size<x.size∧y.name.size<x.size:=by
 have h1:=Bd.mem_le h
 have h2:=x.size_eq
 have h3:=y.size_eq
 omega
theorem op_x(s:ByteArray)(hs:s.size≤1000000000):ev (q109 (sv s))=some (0,[bv (Lx.isOpB s)]):=Evl.of (by
 rw[h109];unfold extL1 xOp;simp only;rw[if_pos (by unfold maxLen;omega)];rfl)
theorem rop_x(s:ByteArray)(hs:s.size≤1000000000):ev (q99 (sv s))=some (0,[bv (Lx.isOpB s)]):=Evl.of (by
 rw[h99];unfold extL1 xOp;simp only;rw[if_pos (by unfold maxLen;omega)];rfl)
theorem utf8_x(s:ByteArray)(hs:s.size≤1000000000):ev (q70 (sv s))=some (0,[bv (utfB s)]):=Evl.of (by
 rw[h70];unfold extL1 xUtf;simp only;rw[if_pos (by unfold maxLen;omega)];rfl)
theorem rname_x(s:ByteArray)(hs:s.size≤1000000000):ev (q71 (sv s))=some (0,[bv (nameB s)]):=Evl.of (by
 have h1:=low_x s hs
 have h2:=op_x s hs
 rw[h71,g71]
 unfold nameB
 cases g1:Lx.isLowB s<;>cases g2:Lx.isOpB s<;>(rw[g1] at h1;rw[g2] at h2;simp[h1,h2]))
theorem gname_x(s:ByteArray)(hs:s.size≤1000000000):ev (q69 (sv s))=some (0,[bv (nameB s)]):=Evl.of (by
 have h1:=rlow_x s hs
 have h2:=rop_x s hs
 rw[h69,g69]
 unfold nameB
 cases g1:Lx.isLowB s<;>cases g2:Lx.isOpB s<;>(rw[g1] at h1;rw[g2] at h2;simp[h1,h2]))
theorem shape_x(x:Ex):ev (q27 (iv x.kind) (sv x.name) (iv x.n) (iv x.t.kind) (sv x.t.name) (iv x.t.n) (tys x.t.kids) (exs x.kids) (als x.alts) (bds x.binds) (iv x.at_))=some (0,[iv (kidsN x.kind)]):=Evl.of (by
 rw[h27,g27]
 unfold kidsN
 by_cases c1:x.kind=1
 ·simp[c1]
 by_cases c2:x.kind=2
 ·simp[c1,c2]
 by_cases c3:x.kind=3
 ·simp[c1,c2,c3]
 by_cases c4:x.kind=4
 ·simp[c1,c2,c3,c4]
 by_cases c6:x.kind=6
 ·simp[c1,c2,c3,c4,c6]
 by_cases c7:x.kind=7
 ·simp[c1,c2,c3,c4,c6,c7]
 by_cases c8:x.kind=8
 ·simp[c1,c2,c3,c4,c6,c7,c8]
 by_cases c12:x.kind=12
 ·simp[c1,c2,c3,c4,c6,c7,c8,c12]
 by_cases c5:x.kind=5
 ·simp[c1,c2,c3,c4,c6,c7,c8,c12,c5]
 by_cases c10:x.kind=10
 ·simp[c1,c2,c3,c4,c6,c7,c8,c12,c5,c10]
 by_cases c11:x.kind=11
 ·simp[c1,c2,c3,c4,c6,c7,c8,c12,c5,c10,c11]
 by_cases c9:x.kind=9
 ·simp[c1,c2,c3,c4,c6,c7,c8,c12,c5,c10,c11,c9]
 ·simp[c1,c2,c3,c4,c6,c7,c8,c12,c5,c10,c11,c9])
theorem zero_x(t:Ty):ev (q30 (iv t.kind) (sv t.name) (iv t.n) (tys t.kids))=some (0,[bv (zeroT t)]):=Evl.of (by
 rw[h30,g30]
 unfold zeroT
 by_cases c1:t.kind=0
 ·by_cases c2:t.name=eB
  ·by_cases c3:t.n=0
   ·by_cases c4:t.kids.length=0
    ·simp[c1,c2,c3,c4]
    ·have c5:¬(t.kids.length:Int)=0:=by omega
     simp[-Int.natCast_eq_zero,c1,c2,c3,c4,c5]
   ·simp[c1,c2,c3]
  ·simp[c1,c2]
 ·simp[c1])
theorem named_x(x:Ex)(hs:x.name.size≤1000000000):ev (q28 (iv x.kind) (sv x.name) (iv x.n) (iv x.t.kind) (sv x.t.name) (iv x.t.n) (tys x.t.kids) (exs x.kids) (als x.alts) (bds x.binds) (iv x.at_))=some (0,[bv (namedB x.kind x.name x.n)]):=Evl.of (by
 have h1:=rname_x x.name hs
 have h2:=up_x x.name hs
 have h3:=low_x x.name hs
 have h4:=utf8_x x.name hs
 rw[h28,g28]
 unfold namedB
 generalize nameB x.name=b1 at h1 ⊢
 generalize Lx.isUpB x.name=b2 at h2 ⊢
 generalize Lx.isLowB x.name=b3 at h3 ⊢
 generalize utfB x.name=b4 at h4 ⊢
 by_cases c1:x.kind=1
 ·by_cases d1:x.name=eB
  ·by_cases d2:0≤x.n
   ·by_cases d3:x.n≤4611686018427387903
    ·simp[c1,d1,d2,d3]
    ·simp[c1,d1,d2,d3]
   ·simp[c1,d1,d2]
  ·simp[c1,d1]
 by_cases c7:x.kind=7
 ·by_cases d1:x.n=0
  ·by_cases d2:x.name=eB
   ·simp[c1,c7,d1,d2]
   ·simp[c1,c7,d1,d2]
  ·by_cases d3:x.n=1
   ·by_cases d2:x.name=eB
    ·simp[c1,c7,d1,d2,d3]
    ·simp[c1,c7,d1,d2,d3]
   ·simp[c1,c7,d1,d3]
 by_cases d1:x.n=0
 ·by_cases c2:x.kind=2
  ·cases b4<;>simp[c1,c7,c2,d1,h4]
  by_cases c3:x.kind=3
  ·cases b1<;>simp[c1,c7,c2,c3,d1,h1]
  by_cases c4:x.kind=4
  ·cases b2<;>simp[c1,c7,c2,c3,c4,d1,h2]
  by_cases c6:x.kind=6
  ·cases b3<;>simp[c1,c7,c2,c3,c4,c6,d1,h3]
  by_cases d2:x.name=eB
  ·simp[c1,c7,c2,c3,c4,c6,d1,d2]
  ·simp[c1,c7,c2,c3,c4,c6,d1,d2]
 ·by_cases c2:x.kind=2
  ·simp[c1,c7,c2,d1]
  by_cases c3:x.kind=3
  ·simp[c1,c7,c2,c3,d1]
  by_cases c4:x.kind=4
  ·simp[c1,c7,c2,c3,c4,d1]
  by_cases c6:x.kind=6
  ·simp[c1,c7,c2,c3,c4,c6,d1]
  ·simp[c1,c7,c2,c3,c4,c6,d1])
def PGoodE(x:Ex):Prop:=ev (q9 (iv x.kind) (sv x.name) (iv x.n) (iv x.t.kind) (sv x.t.name) (iv x.t.n) (tys x.t.kids) (exs x.kids) (als x.alts) (bds x.binds) (iv x.at_))=some (0,[bv x.good])
def RGoodE(x:Ex):Prop:=ev (q8 (iv x.kind) (sv x.name) (iv x.n) (iv x.t.kind) (sv x.t.name) (iv x.t.n) (tys x.t.kids) (exs x.kids) (als x.alts) (bds x.binds) (iv x.at_))=some (0,[bv x.good])
theorem p_everyE(l:List Ex)(hl:l.length≤2000000)(h:∀x∈l,PGoodE x):ev (q33a (exs l))=some (0,[bv (l.all Ex.good)]):=by
 have lp:ev (q33ab0a (iv 0) (iv l.length) (exs l))=some (if l.all Ex.good=true then(1,[]) else(0,[bv false])):=
  all_ev l Ex.good (fun i=>q33ab0a (iv (i:Int)) (iv l.length) (exs l)) _ _ hl (fun i j x e0 hx hm hi=>by
   have g:ev (q9 (iv x.kind) (sv x.name) (iv x.n) (iv x.t.kind) (sv x.t.name) (iv x.t.n) (tys x.t.kids) (exs x.kids) (als x.alts) (bds x.binds) (iv x.at_))=some (0,[bv x.good]):=h x hm
   show body PG EE TT ev (q33ab0a (iv (i:Int)) (iv l.length) (exs l))=_
   rw[h33ab0a,g33ab0a]
   cases hg:x.good<;>(rw[hg] at g;simp[hi,idxK_exs hx,g,e0])) (by
   show body PG EE TT ev (q33ab0a (iv (l.length:Int)) (iv l.length) (exs l))=_
   rw[h33ab0a,g33ab0a]
   simp)
 refine Evl.of ?_
 rw[h33a,g33a]
 cases hg:l.all Ex.good<;>(rw[hg] at lp;simp[lp])
theorem rbind_x(x:Bd)(hs:x.name.size≤1000000000)(h:PGoodE x.e):ev (q35 (sv x.name) (iv x.e.kind) (sv x.e.name) (iv x.e.n) (iv x.e.t.kind) (sv x.e.t.name) (iv x.e.t.n) (tys x.e.t.kids) (exs x.e.kids) (als x.e.alts) (bds x.e.binds) (iv x.e.at_) (iv x.at_))=some (0,[bv x.good]):=Evl.of (by
 have h1:=rname_x x.name hs
 unfold PGoodE at h
 rw[h35,g35,x.good_eq]
 cases g1:nameB x.name
 ·rw[g1] at h1;simp[h1]
 ·cases g2:x.e.good<;>(rw[g1] at h1;rw[g2] at h;simp[h1,h]))
theorem ralt_x(x:Al)(hz:x.p.size≤2000000)(h:PGoodE x.e):ev (q31 (iv x.p.kind) (sv x.p.name) (iv x.p.n) (pts x.p.kids) (iv x.p.at_) (iv x.e.kind) (sv x.e.name) (iv x.e.n) (iv x.e.t.kind) (sv x.e.t.name) (iv x.e.t.n) (tys x.e.t.kids) (exs x.e.kids) (als x.e.alts) (bds x.e.binds) (iv x.e.at_))=some (0,[bv x.good]):=Evl.of (by
 have h1:=p_goodP 2000000 x.p hz (Nat.le_refl _)
 unfold PGoodE at h
 unfold PGoodP at h1
 rw[h31,g31,x.good_eq]
 cases g1:x.p.good
 ·rw[g1] at h1;simp[h1]
 ·cases g2:x.e.good<;>(rw[g1] at h1;rw[g2] at h;simp[h1,h]))
theorem p_everyB(l:List Bd)(hl:l.length≤2000000)(h:∀x∈l,x.name.size≤1000000000∧PGoodE x.e):ev (q34a (bds l))=some (0,[bv (l.all Bd.good)]):=by
 have lp:ev (q34ab0a (iv 0) (iv l.length) (bds l))=some (if l.all Bd.good=true then(1,[]) else(0,[bv false])):=
  all_ev l Bd.good (fun i=>q34ab0a (iv (i:Int)) (iv l.length) (bds l)) _ _ hl (fun i j x e0 hx hm hi=>by
   have g:ev (q35 (sv x.name) (iv x.e.kind) (sv x.e.name) (iv x.e.n) (iv x.e.t.kind) (sv x.e.t.name) (iv x.e.t.n) (tys x.e.t.kids) (exs x.e.kids) (als x.e.alts) (bds x.e.binds) (iv x.e.at_) (iv x.at_))=some (0,[bv x.good]):=rbind_x x (h x hm).1 (h x hm).2
   show body PG EE TT ev (q34ab0a (iv (i:Int)) (iv l.length) (bds l))=_
   rw[h34ab0a,g34ab0a]
   cases hg:x.good<;>(rw[hg] at g;simp[hi,idxK_bds hx,g,e0])) (by
   show body PG EE TT ev (q34ab0a (iv (l.length:Int)) (iv l.length) (bds l))=_
   rw[h34ab0a,g34ab0a]
   simp)
 refine Evl.of ?_
 rw[h34a,g34a]
 cases hg:l.all Bd.good<;>(rw[hg] at lp;simp[lp])
theorem p_everyA(l:List Al)(hl:l.length≤2000000)(h:∀x∈l,x.p.size≤2000000∧PGoodE x.e):ev (q36a (als l))=some (0,[bv (l.all Al.good)]):=by
 have lp:ev (q36ab0a (iv 0) (iv l.length) (als l))=some (if l.all Al.good=true then(1,[]) else(0,[bv false])):=
  all_ev l Al.good (fun i=>q36ab0a (iv (i:Int)) (iv l.length) (als l)) _ _ hl (fun i j x e0 hx hm hi=>by
   have g:ev (q31 (iv x.p.kind) (sv x.p.name) (iv x.p.n) (pts x.p.kids) (iv x.p.at_) (iv x.e.kind) (sv x.e.name) (iv x.e.n) (iv x.e.t.kind) (sv x.e.t.name) (iv x.e.t.n) (tys x.e.t.kids) (exs x.e.kids) (als x.e.alts) (bds x.e.binds) (iv x.e.at_))=some (0,[bv x.good]):=ralt_x x (h x hm).1 (h x hm).2
   show body PG EE TT ev (q36ab0a (iv (i:Int)) (iv l.length) (als l))=_
   rw[h36ab0a,g36ab0a]
   cases hg:x.good<;>(rw[hg] at g;simp[hi,idxK_als hx,g,e0])) (by
   show body PG EE TT ev (q36ab0a (iv (l.length:Int)) (iv l.length) (als l))=_
   rw[h36ab0a,g36ab0a]
   simp)
 refine Evl.of ?_
 rw[h36a,g36a]
 cases hg:l.all Al.good<;>(rw[hg] at lp;simp[lp])
theorem p_goodE:∀(n:Nat) (x:Ex),x.size≤n→n≤2000000→PGoodE x:=by
 intro n
 induction n with
 |zero=>intro x h _;have:=x.size_pos;omega
 |succ n ih=>
  intro x h hn
  obtain⟨hl1,hl2,hl3,hs,hts⟩:=x.len_ok (by omega)
  have hk:=p_everyE x.kids hl1 (fun y hy=>ih y (by have:=Ex.kid_size hy;omega) (by omega))
  have hb:=p_everyB x.binds hl3 (fun y hy=>⟨by have:=Ex.bind_size hy;omega,ih y.e (by have:=Ex.bind_size hy;omega) (by omega)⟩)
  have ha:=p_everyA x.alts hl2 (fun y hy=>⟨by have:=Ex.alt_size hy;omega,ih y.e (by have:=Ex.alt_size hy;omega) (by omega)⟩)
  have hsh:=shape_x x
  have hnm:=named_x x (by omega)
  have hz:=zero_x x.t
  have ht:=p_good 2000000 x.t hts (Nat.le_refl _)
  unfold PGood at ht
  refine Evl.of ?_
  rw[x.good_eq,h9,g9]
  unfold headB
  generalize x.kids.all Ex.good=gk at hk ⊢
  generalize x.binds.all Bd.good=gb at hb ⊢
  generalize x.alts.all Al.good=ga at ha ⊢
  generalize namedB x.kind x.name x.n=gn at hnm ⊢
  generalize zeroT x.t=gz at hz ⊢
  generalize x.t.good=gt at ht ⊢
  generalize x.kind=kd at hsh hnm ⊢
  by_cases c1:kidsN kd=(x.kids.length:Int)
  ·have c1':(x.kids.length:Int)=kidsN kd:=c1.symm
   rw[c1] at hsh
   cases gn
   ·simp[hsh,hnm,c1']
   by_cases c7:kd=7
   ·subst c7
    by_cases l7:0<x.binds.length
    ·by_cases l8:0<x.alts.length
     ·simp[hsh,hnm,c1',l7,l8]
     ·cases gz
      ·simp[hsh,hnm,c1',l7,l8,hz]
      ·cases gk
       ·simp[hsh,hnm,c1',l7,l8,hz,hk]
       ·cases gb
        ·simp[hsh,hnm,c1',l7,l8,hz,hk,hb]
        ·cases ga<;>simp[hsh,hnm,c1',l7,l8,hz,hk,hb,ha]
    ·simp[hsh,hnm,c1',l7]
   ·by_cases l7:0<x.binds.length
    ·by_cases l8:0<x.alts.length<;>simp[hsh,hnm,c1',c7,l7,l8]
    ·by_cases c8:kd=8
     ·subst c8
      by_cases l8:0<x.alts.length
      ·cases gz
       ·simp[hsh,hnm,c1',l7,l8,hz]
       ·cases gk
        ·simp[hsh,hnm,c1',l7,l8,hz,hk]
        ·cases gb
         ·simp[hsh,hnm,c1',l7,l8,hz,hk,hb]
         ·cases ga<;>simp[hsh,hnm,c1',l7,l8,hz,hk,hb,ha]
      ·simp[hsh,hnm,c1',l7,l8]
     ·by_cases l8:0<x.alts.length
      ·simp[hsh,hnm,c1',c7,c8,l7,l8]
      ·by_cases c12:kd=12
       ·subst c12
        cases gt
        ·simp[hsh,hnm,c1',l7,l8,ht]
        ·cases gk
         ·simp[hsh,hnm,c1',l7,l8,ht,hk]
         ·cases gb
          ·simp[hsh,hnm,c1',l7,l8,ht,hk,hb]
          ·cases ga<;>simp[hsh,hnm,c1',l7,l8,ht,hk,hb,ha]
       ·cases gz
        ·simp[hsh,hnm,c1',c7,c8,c12,l7,l8,hz]
        ·cases gk
         ·simp[hsh,hnm,c1',c7,c8,c12,l7,l8,hz,hk]
         ·cases gb
          ·simp[hsh,hnm,c1',c7,c8,c12,l7,l8,hz,hk,hb]
          ·cases ga<;>simp[hsh,hnm,c1',c7,c8,c12,l7,l8,hz,hk,hb,ha]
  ·have c1':¬(x.kids.length:Int)=kidsN kd:=fun h=>c1 h.symm
   simp[hsh,c1,c1']
end Go.Proofs.YtkamjbmjjhbjcaaGreatDoor
