/- Joined texts. -/
import Derived.Test.YtkamjbmjjhbjcaaGreatDoorBt
set_option linter.unusedVariables false
set_option linter.unusedSimpArgs false
set_option linter.unusedSectionVars false
namespace Go.Proofs.YtkamjbmjjhbjcaaGreatDoor
open Go.RowKit
theorem loop_from{α σ:Type}(l:List α)(F:Nat→σ→α→σ)(T:List α→Nat→σ→σ)(hT0:∀i s,T [] i s=s)(hT:∀x l i s,T (x::l) i s=T l (i+1) (F i s x))(I:Nat→σ→Prop)(q:Nat→σ→Q)(fin:σ→Rs)(hl:l.length≤2000000)(i0:Nat)
  (hs:∀(i j:Nat) (x:α) (s:σ),i0≤i→IntKind.i64.wrap ((i:Int)+1)=(j:Int)→j=i+1→l[i]? = some x→x∈l→(i:Int)<(l.length:Int)→l.drop i=x::l.drop j→I i s→I j (F i s x)∧body PG EE TT ev (q i s)=passK (ev (q j (F i s x))))
  (he:∀s,I l.length s→body PG EE TT ev (q l.length s)=.ok (fin s)) (s:σ) (h0:I i0 s) (hi0:i0≤l.length):ev (q i0 s)=some (fin (T (l.drop i0) i0 s)):=by
 have key:∀(m i:Nat) (s:σ),i+m=l.length→i0≤i→I i s→ev (q i s)=some (fin (T (l.drop i) i s)):=by
  intro m
  induction m with
  |zero=>
   intro i s hi _ hI
   rw[Nat.add_zero] at hi
   subst hi
   rw[List.drop_length,hT0]
   exact Evl.of (he s hI)
  |succ m ih=>
   intro i s hi hii hI
   have hlt:i<l.length:=by omega
   obtain⟨j,hj⟩:∃j,j=i+1:=⟨_,rfl⟩
   have hd:l.drop i=l[i]::l.drop j:=by rw[List.drop_eq_getElem_cons hlt,hj]
   obtain⟨h1,h2⟩:=hs i j l[i] s hii (wone hj (by omega)) hj (List.getElem?_eq_getElem hlt) (List.getElem_mem hlt) (by omega) hd hI
   have h3:=ih j (F i s l[i]) (by omega) (by omega) h1
   rw[hd,hT,←hj]
   refine Evl.of ?_
   rw[h2,h3]
   rfl
 exact key (l.length-i0) i0 s (by omega) (Nat.le_refl _) h0
abbrev Tx:=ByteArray×Nat
def jn(x y:Tx):Tx:=(x.1++(sSp++y.1),max x.2 y.2)
def tkB(s:ByteArray):Tx:=(s,0)
def lv(x:Tx):Tx:=(x.1,x.2+1)
abbrev sL1:ByteArray:=⟨#[40]⟩
abbrev sR1:ByteArray:=⟨#[41]⟩
def br(x:Tx):Tx:=jn (tkB sL1) (jn (lv x) (tkB sR1))
def Ok(m:Nat)(x:Tx):Prop:=0<x.1.size∧x.1.size≤64*m∧x.2≤m
theorem Ok.mono{m n:Nat}{x:Tx}(h:Ok m x)(hn:m≤n):Ok n x:=by unfold Ok at *;omega
theorem Ok.jn{m n:Nat}{x y:Tx}(h:Ok m x)(h':Ok n y):Ok (m+n+1) (jn x y):=by
 unfold Ok at *
 show 0<(x.1++(sSp++y.1)).size∧(x.1++(sSp++y.1)).size≤64*(m+n+1)∧max x.2 y.2≤m+n+1
 rw[ByteArray.size_append,ByteArray.size_append]
 have:sSp.size=1:=rfl
 omega
theorem Ok.lv{m:Nat}{x:Tx}(h:Ok m x):Ok (m+1) (lv x):=by
 unfold Ok at *
 show 0<x.1.size∧x.1.size≤64*(m+1)∧x.2+1≤m+1
 omega
theorem Ok.tkB{m:Nat}{s:ByteArray}(h0:0<s.size)(h:s.size≤64*m):Ok m (tkB s):=⟨h0,h,Nat.zero_le _⟩
theorem Ok.br{m:Nat}{x:Tx}(h:Ok m x):Ok (m+5) (br x):=
 (Ok.jn (m:=1) (n:=m+3) (Ok.tkB (by decide) (by decide)) ((Ok.jn (m:=m+1) (n:=1) h.lv (Ok.tkB (by decide) (by decide))).mono (by omega))).mono (by omega)
def txs(l:List Tx):List (List PV):=l.map fun x=>[sv x.1,iv (x.2:Int)]
def sL(l:List ByteArray):List (List PV):=l.map fun x=>[sv x]
theorem sl_txs:SlT Tryz.prog 190 2 24:=SlT.of (by kernel_rfl)
theorem ns_sL(l:List ByteArray):NS (.rows (sL l)):=ns_rows fun x _ p hp=>by simp at hp;subst hp;exact .lit _
section
variable{β:Type}{d:β}{k:AV→β}
theorem lenK_txs(l:List Tx):lenK Tryz.prog d 190 (.pv (.rows (txs l))) k=k (.pv (iv l.length)):=lenK_of (fun _=>by rw[len_ok sl_txs,txs,List.length_map]) (nsa_lit _)
theorem idxK_txs{l:List Tx}{i:Nat}{x:Tx}(h:l[i]? = some x):idxK Tryz.prog d 190 (.pv (.rows (txs l))) (.pv (.lit (.int .i64 (i:Int)))) k=k (.cptr [sv x.1,iv (x.2:Int)]):=
 idxK_of (fun _=>idx_ok sl_txs (by rw[txs,List.getElem?_map,h];rfl) rfl) (nsa_c (by simp[NSL_cons,NSL_nil]))
theorem appK_sL{k:PV→β}(l:List ByteArray)(x:ByteArray)(hl:l.length≤4000000):appK Tryz.prog d 70 (.pv (.rows (sL l))) (.pv (.rows [[sv x]])) k=k (.rows (sL (l++[x]))):=
 appK_of (fun w=>by
  rw[app_ok sl_strs (es:=sL l) (es':=[[sv x]]) rfl rfl (by simp) (by simp) (by simp[sL];omega) (by simp[sL];omega)]
  simp[sL]) (ns_sL _)
end
theorem join_ext(l:List ByteArray)(hl:l.length≤100)(hz:(joinB l sSp).size≤1000000000):ev (q97 (.rows (sL l)) (sv sSp))=some (0,[sv (joinB l sSp)]):=Evl.of (by
 rw[h97]
 have e:xJoin (.rows (sL l)) (.lit (.string sSp))=some (.string (joinB l sSp)):=by
  unfold xJoin
  simp only
  rw[show textsOf (sL l)=some l from textsOf_map l]
  simp only
  rw[if_pos ⟨by omega,by omega⟩]
 unfold extL2
 simp only
 rw[e]
 rfl)
theorem tok_x(l:List ByteArray)(hl:l.length≤100)(hz:(joinB l sSp).size≤1000000000):ev (q148 (.rows (sL l)))=some (0,[sv (joinB l sSp),iv 0]):=Evl.of (by
 have h:=join_ext l hl hz
 rw[h148,g148]
 simp[h])
def maxs:List Tx→Nat→Nat→Nat
 |[],_,n=>n
 |x::l,i,n=>maxs l (i+1) (max n x.2)
def firsts:List Tx→Nat→List ByteArray×Nat→List ByteArray×Nat
 |[],_,s=>s
 |x::l,i,s=>firsts l (i+1) (s.1++[x.1],max s.2 x.2)
theorem firsts_eq:∀(l:List Tx) (i:Nat) (s:List ByteArray×Nat),firsts l i s=(s.1++l.map (·.1),maxs l i s.2)
 |[],i,s=>by rw[firsts,maxs];simp
 |x::l,i,s=>by rw[firsts,maxs,firsts_eq l];simp
theorem maxs_ix:∀(l:List Tx) (i j n:Nat),maxs l i n=maxs l j n
 |[],i,j,n=>by rw[maxs,maxs]
 |a::l,i,j,n=>by rw[maxs,maxs];exact maxs_ix l _ _ _
theorem join_L(L:List Tx)(x:Tx)(l:List Tx)(hL:L=x::l)(hl:L.length≤50)(hx:∀y∈L,y.2≤1000000000)(hz:(joinB (L.map (·.1)) sSp).size≤1000000000) :
  ev (q147 (.rows (txs L)))=some (0,[sv (joinB (L.map (·.1)) sSp),iv ((maxs l 0 x.2:Nat):Int)]):=by
 have h00:L[0]? = some x:=by rw[hL];rfl
 have hd1:L.drop 1=l:=by rw[hL];rfl
 have hlen:1≤L.length:=by rw[hL];simp
 have hmem:x∈L:=by rw[hL];exact List.mem_cons_self
 have hmap:x.1::l.map (·.1)=L.map (·.1):=by rw[hL];rfl
 have w1:IntKind.i64.wrap 1=1:=by decide
 have lp:=loop_from L (fun i (s:List ByteArray×Nat) y=>(s.1++[y.1],max s.2 y.2)) firsts (fun i s=>by rw[firsts]) (fun x l i s=>by rw[firsts]) (fun i s=>s.1.length=i∧s.2≤1000000000) (fun i s=>q147b0b (iv (i:Int)) (iv L.length) (.rows (txs L)) (sL s.1) (iv (s.2:Int))) (fun s=>(1,[e0,iv (s.2:Int),e0,i0,.rows (sL s.1)])) (by omega) 1 (fun i j y s h1 e0 hj hxx hm hi hd hI=>by
   refine⟨⟨by simp[hI.1];omega,by have:=hx y hm;show max s.2 y.2≤_;have:=hI.2;omega⟩,?_⟩
   have ha:=fun(k:PV→Res)=>appK_sL (d:=Res.fail) (k:=k) s.1 y.1 (by have:=hI.1;omega)
   rw[h147b0b,g147b0b]
   simp[hi,idxK_txs hxx,ha,e0,max_cast]) (fun s hI=>by
   rw[h147b0b,g147b0b]
   simp) ([x.1],x.2) ⟨rfl,hx x hmem⟩ hlen
 rw[firsts_eq,hd1,maxs_ix l 1 0] at lp
 simp only[List.cons_append,List.nil_append] at lp
 rw[hmap] at lp
 have lp1:ev (q147b0b (iv 1) (iv L.length) (.rows (txs L)) (sL [x.1]) (iv (x.2:Int)))=some (1,[e0,iv ((maxs l 0 x.2:Nat):Int),e0,i0,.rows (sL (L.map (·.1)))]):=lp
 have lp0:ev (q147b0a (iv 0) (iv L.length) (.rows (txs L)) (iv 0))=some (1,[e0,iv ((maxs l 0 x.2:Nat):Int),e0,i0,.rows (sL (L.map (·.1)))]):=Evl.of (by
  rw[h147b0a,g147b0a]
  have hi:(0:Int)<(L.length:Int):=by omega
  have hi2:0<L.length:=by omega
  have hix0:∀(k:AV→Res),idxK PG .fail 190 (.pv (.rows (txs L))) (.pv i0) k=k (.cptr [sv x.1,iv (x.2:Int)]):=fun k=>idxK_txs (d:=Res.fail) (k:=k) (l:=L) (i:=0) h00
  have hm:max (0:Int) (x.2:Int)=(x.2:Int):=by omega
  have hm2:max (x.2:Int) (0:Int)=(x.2:Int):=by omega
  simp only[sL,List.map_cons,List.map_nil] at lp1
  simp[hi,hi2,hix0,hm,hm2,w1,lp1,sL])
 have hj:=join_ext (L.map (·.1)) (by simpa using(by omega:L.length≤100)) hz
 have hln:=fun(k:AV→Res)=>lenK_txs (d:=Res.fail) (k:=k) L
 refine Evl.of ?_
 rw[h147,g147]
 simp[hln,lp0,hj]
theorem join_x(x:Tx)(l:List Tx)(hl:(x::l).length≤50)(hx:∀y∈x::l,y.2≤1000000000)(hz:(joinB ((x::l).map (·.1)) sSp).size≤1000000000) :
  ev (q147 (.rows (txs (x::l))))=some (0,[sv (joinB ((x::l).map (·.1)) sSp),iv ((maxs l 0 x.2:Nat):Int)]):=join_L (x::l) x l rfl hl hx hz
theorem join2(x0 x1:Tx)(h:x0.2≤1000000000∧x1.2≤1000000000)(hz:(jn x0 x1).1.size≤1000000000):ev (q147 (.rows [[sv x0.1,iv (x0.2:Int)],[sv x1.1,iv (x1.2:Int)]]))=some (0,[sv (jn x0 x1).1,iv (((jn x0 x1).2:Nat):Int)]):=by
 have h1:=join_x x0 [x1] (by simp) (by simp only[List.mem_cons,List.not_mem_nil,or_false];rintro y (rfl|rfl)<;>omega) hz
 have e:maxs [x1] 0 x0.2=(jn x0 x1).2:=by
  simp only[maxs,jn]
  try omega
 rw[e] at h1
 exact h1
theorem join3(x0 x1 x2:Tx)(h:x0.2≤1000000000∧x1.2≤1000000000∧x2.2≤1000000000)(hz:(jn x0 (jn x1 x2)).1.size≤1000000000):ev (q147 (.rows [[sv x0.1,iv (x0.2:Int)],[sv x1.1,iv (x1.2:Int)],[sv x2.1,iv (x2.2:Int)]]))=some (0,[sv (jn x0 (jn x1 x2)).1,iv (((jn x0 (jn x1 x2)).2:Nat):Int)]):=by
 have h1:=join_x x0 [x1,x2] (by simp) (by simp only[List.mem_cons,List.not_mem_nil,or_false];rintro y (rfl|rfl|rfl)<;>omega) hz
 have e:maxs [x1,x2] 0 x0.2=(jn x0 (jn x1 x2)).2:=by
  simp only[maxs,jn]
  try omega
 rw[e] at h1
 exact h1
theorem join4(x0 x1 x2 x3:Tx)(h:x0.2≤1000000000∧x1.2≤1000000000∧x2.2≤1000000000∧x3.2≤1000000000)(hz:(jn x0 (jn x1 (jn x2 x3))).1.size≤1000000000):ev (q147 (.rows [[sv x0.1,iv (x0.2:Int)],[sv x1.1,iv (x1.2:Int)],[sv x2.1,iv (x2.2:Int)],[sv x3.1,iv (x3.2:Int)]]))=some (0,[sv (jn x0 (jn x1 (jn x2 x3))).1,iv (((jn x0 (jn x1 (jn x2 x3))).2:Nat):Int)]):=by
 have h1:=join_x x0 [x1,x2,x3] (by simp) (by simp only[List.mem_cons,List.not_mem_nil,or_false];rintro y (rfl|rfl|rfl|rfl)<;>omega) hz
 have e:maxs [x1,x2,x3] 0 x0.2=(jn x0 (jn x1 (jn x2 x3))).2:=by
  simp only[maxs,jn]
  try omega
 rw[e] at h1
 exact h1
theorem join5(x0 x1 x2 x3 x4:Tx)(h:x0.2≤1000000000∧x1.2≤1000000000∧x2.2≤1000000000∧x3.2≤1000000000∧x4.2≤1000000000)(hz:(jn x0 (jn x1 (jn x2 (jn x3 x4)))).1.size≤1000000000):ev (q147 (.rows [[sv x0.1,iv (x0.2:Int)],[sv x1.1,iv (x1.2:Int)],[sv x2.1,iv (x2.2:Int)],[sv x3.1,iv (x3.2:Int)],[sv x4.1,iv (x4.2:Int)]]))=some (0,[sv (jn x0 (jn x1 (jn x2 (jn x3 x4)))).1,iv (((jn x0 (jn x1 (jn x2 (jn x3 x4)))).2:Nat):Int)]):=by
 have h1:=join_x x0 [x1,x2,x3,x4] (by simp) (by simp only[List.mem_cons,List.not_mem_nil,or_false];rintro y (rfl|rfl|rfl|rfl|rfl)<;>omega) hz
 have e:maxs [x1,x2,x3,x4] 0 x0.2=(jn x0 (jn x1 (jn x2 (jn x3 x4)))).2:=by
  simp only[maxs,jn]
  try omega
 rw[e] at h1
 exact h1
theorem join6(x0 x1 x2 x3 x4 x5:Tx)(h:x0.2≤1000000000∧x1.2≤1000000000∧x2.2≤1000000000∧x3.2≤1000000000∧x4.2≤1000000000∧x5.2≤1000000000)(hz:(jn x0 (jn x1 (jn x2 (jn x3 (jn x4 x5))))).1.size≤1000000000):ev (q147 (.rows [[sv x0.1,iv (x0.2:Int)],[sv x1.1,iv (x1.2:Int)],[sv x2.1,iv (x2.2:Int)],[sv x3.1,iv (x3.2:Int)],[sv x4.1,iv (x4.2:Int)],[sv x5.1,iv (x5.2:Int)]]))=some (0,[sv (jn x0 (jn x1 (jn x2 (jn x3 (jn x4 x5))))).1,iv (((jn x0 (jn x1 (jn x2 (jn x3 (jn x4 x5))))).2:Nat):Int)]):=by
 have h1:=join_x x0 [x1,x2,x3,x4,x5] (by simp) (by simp only[List.mem_cons,List.not_mem_nil,or_false];rintro y (rfl|rfl|rfl|rfl|rfl|rfl)<;>omega) hz
 have e:maxs [x1,x2,x3,x4,x5] 0 x0.2=(jn x0 (jn x1 (jn x2 (jn x3 (jn x4 x5))))).2:=by
  simp only[maxs,jn]
  try omega
 rw[e] at h1
 exact h1
theorem tok1(a:ByteArray)(ha:a.size≤1000000000):ev (q148 (.rows [[sv a]]))=some (0,[sv a,iv 0]):=tok_x [a] (by simp) ha
theorem tok0:ev (q148 (.rows []))=some (0,[sv eB,iv 0]):=tok_x [] (by simp) (by decide)
theorem tok3(a b c:ByteArray)(ha:(a++(sSp++(b++(sSp++c)))).size≤1000000000):ev (q148 (.rows [[sv a],[sv b],[sv c]]))=some (0,[sv (a++(sSp++(b++(sSp++c)))),iv 0]):=tok_x [a,b,c] (by simp) ha
theorem level_x(x:Tx)(h:x.2≤1000000000):ev (q117 (sv x.1) (iv (x.2:Int)))=some (0,[sv (lv x).1,iv (((lv x).2:Nat):Int)]):=Evl.of (by
 have e:IntKind.i64.wrap ((x.2:Int)+1)=((x.2+1:Nat):Int):=by rw[wrap_id (by omega)];omega
 rw[h117,g117]
 simp only[m_A3,bV,binK_add,e]
 rfl)
theorem bracket_x(x:Tx)(h:x.2≤900000000)(hz:(br x).1.size≤1000000000):ev (q115 (sv x.1) (iv (x.2:Int)))=some (0,[sv (br x).1,iv (((br x).2:Nat):Int)]):=Evl.of (by
 have h1:=level_x x (by omega)
 have h2:=tok1 sL1 (by decide)
 have h3:=tok1 sR1 (by decide)
 have h4:ev (q147 (.rows [[sv sL1,iv 0],[sv (lv x).1,iv ((lv x).2:Int)],[sv sR1,iv 0]]))=some (0,[sv (br x).1,iv (((br x).2:Nat):Int)]):=join3 (tkB sL1) (lv x) (tkB sR1) ⟨Nat.zero_le _,by show x.2+1≤_;omega,Nat.zero_le _⟩ hz
 generalize lv x=y at *
 generalize br x=z at *
 rw[h115,g115]
 simp[h1,h2,h3,h4])
def nmB(s:ByteArray):ByteArray:=if Lx.isOpB s=true then sLb++s++sRb else s
theorem nmB_size(s:ByteArray):(nmB s).size≤s.size+4:=by
 unfold nmB
 split
 ·rw[ByteArray.size_append,ByteArray.size_append]
  have h1:sLb.size=2:=rfl
  have h2:sRb.size=2:=rfl
  omega
 ·omega
theorem nmB_pos{s:ByteArray}(h:0<s.size):0<(nmB s).size:=by
 unfold nmB
 split
 ·rw[ByteArray.size_append,ByteArray.size_append]
  have h1:sLb.size=2:=rfl
  omega
 ·exact h
theorem name_x(s:ByteArray)(hs:s.size≤100000000):ev (q98 (sv s))=some (0,[sv (nmB s)]):=Evl.of (by
 have h1:=op_x s (by omega)
 have c1:=fun(k:AV→Res)=>cat_k (t:=9) (k:=k) sLb s (by decide) (by omega)
 have c2:=fun(k:AV→Res)=>cat_k (t:=9) (k:=k) (sLb++s) sRb (by rw[ByteArray.size_append];have h1:sLb.size=2:=rfl;omega) (by decide)
 rw[h98,g98]
 unfold nmB
 cases hg:Lx.isOpB s<;>(rw[hg] at h1;simp[h1,c1,c2]))
theorem rname2_x(s:ByteArray)(hs:s.size≤100000000):ev (q63 (sv s))=some (0,[sv (nmB s)]):=Evl.of (by
 have h1:=rop_x s (by omega)
 have c1:=fun(k:AV→Res)=>cat_k (t:=9) (k:=k) sLb s (by decide) (by omega)
 have c2:=fun(k:AV→Res)=>cat_k (t:=9) (k:=k) (sLb++s) sRb (by rw[ByteArray.size_append];have h1:sLb.size=2:=rfl;omega) (by decide)
 rw[h63,g63]
 unfold nmB
 cases hg:Lx.isOpB s<;>(rw[hg] at h1;simp[h1,c1,c2]))
def pt(S x:ByteArray):ByteArray:=if S=eB then x else S++(sSp++x)
theorem pt_pt{S x y:ByteArray}(hx:0<x.size):pt (pt S x) y=pt S (x++(sSp++y)):=by
 have ne:x≠eB:=by intro h;rw[h] at hx;exact absurd hx (by decide)
 unfold pt
 by_cases h:S=eB
 ·rw[if_pos h,if_pos h,if_neg ne]
 ·rw[if_neg h,if_neg h,if_neg,ByteArray.append_assoc,ByteArray.append_assoc]
  intro h2
  have:(S++(sSp++x)).size=0:=by rw[h2];rfl
  rw[ByteArray.size_append,ByteArray.size_append] at this
  omega
theorem pt_size(S x:ByteArray):(pt S x).size≤S.size+1+x.size:=by
 unfold pt
 split
 ·omega
 ·rw[ByteArray.size_append,ByteArray.size_append]
  have:sSp.size=1:=rfl
  omega
theorem put_a(x S:ByteArray)(L M:Int)(h:S.size≤1000000000)(hx:x.size≤900000000):ev (q121a (sv x) (sv S) (iv L) (iv M))=some (0,[sv (pt S x),iv L,iv M,bf]):=Evl.of (by
 have c0:=fun(k:AV→Res)=>cat_k (t:=9) (k:=k) S x h (by omega)
 have c1:=fun(k:AV→Res)=>cat_k (t:=9) (k:=k) S sSp h (by decide)
 have c2:=fun(k:AV→Res)=>binK_cat (P:=PG) (d:=Res.fail) (t:=9) (k:=k) (x:=S++sSp) (y:=x) (by rw[ByteArray.size_append];have h1:sSp.size=1:=rfl;omega)
 rw[h121a,g121a]
 unfold pt
 by_cases hS:S=eB
 ·subst hS
  have c3:eB++x=x:=ByteArray.empty_append
  simp[c0,c3]
 ·simp[hS,c1,c2,ByteArray.append_assoc])
theorem deep_a(n:Nat)(S:ByteArray)(L M:Nat)(h:L+n≤1000000000):ev (q160a (iv n) (sv S) (iv L) (iv M))=some (0,[sv S,iv L,iv ((max M (L+n):Nat):Int),bf]):=Evl.of (by
 have e:IntKind.i64.wrap ((L:Int)+(n:Int))=((L+n:Nat):Int):=by rw[wrap_id (by omega)];omega
 rw[h160a,g160a]
 by_cases c:M<L+n
 ·have c2:(M:Int)<((L+n:Nat):Int):=by omega
  have c3:max M (L+n)=L+n:=by omega
  generalize L+n=y at *
  simp[e,c2,c3]
 ·have c2:¬(M:Int)<((L+n:Nat):Int):=by omega
  have c3:max M (L+n)=M:=by omega
  generalize L+n=y at *
  simp[e,c2,c3])
theorem put_b(x S:ByteArray)(L M:Int)(h:S.size≤1000000000)(hx:x.size≤900000000):ev (q121b (sv x) (sv S) (iv L) (iv M))=some (0,[sv (pt S x),iv L,iv M,bt]):=Evl.of (by
 have c0:=fun(k:AV→Res)=>cat_k (t:=9) (k:=k) S x h (by omega)
 have c1:=fun(k:AV→Res)=>cat_k (t:=9) (k:=k) S sSp h (by decide)
 have c2:=fun(k:AV→Res)=>binK_cat (P:=PG) (d:=Res.fail) (t:=9) (k:=k) (x:=S++sSp) (y:=x) (by rw[ByteArray.size_append];have h1:sSp.size=1:=rfl;omega)
 rw[h121b,g121b]
 unfold pt
 by_cases hS:S=eB
 ·subst hS
  have c3:eB++x=x:=ByteArray.empty_append
  simp[c0,c3]
 ·simp[hS,c1,c2,ByteArray.append_assoc])
theorem deep_b(n:Nat)(S:ByteArray)(L M:Nat)(h:L+n≤1000000000):ev (q160b (iv n) (sv S) (iv L) (iv M))=some (0,[sv S,iv L,iv ((max M (L+n):Nat):Int),bt]):=Evl.of (by
 have e:IntKind.i64.wrap ((L:Int)+(n:Int))=((L+n:Nat):Int):=by rw[wrap_id (by omega)];omega
 rw[h160b,g160b]
 by_cases c:M<L+n
 ·have c2:(M:Int)<((L+n:Nat):Int):=by omega
  have c3:max M (L+n)=L+n:=by omega
  generalize L+n=y at *
  simp[e,c2,c3]
 ·have c2:¬(M:Int)<((L+n:Nat):Int):=by omega
  have c3:max M (L+n)=M:=by omega
  generalize L+n=y at *
  simp[e,c2,c3])
def quoC(c:UInt8):List UInt8:=if c=10 then [92,110] else if c=9 then [92,116] else if c=34 then [92,34] else if c=92 then [92,92] else [c]
def quoF:List UInt8→Nat→List UInt8→List UInt8
 |[],_,acc=>acc
 |c::l,i,acc=>quoF l (i+1) (acc++quoC c)
def bL(l:List UInt8):ByteArray:=⟨l.toArray⟩
def quoB(s:ByteArray):ByteArray:=bL (quoF s.data.toList 0 [34]++[34])
theorem bL_app(a b:List UInt8):bL (a++b)=bL a++bL b:=by
 unfold bL
 apply ByteArray.ext
 simp
theorem bL_size(l:List UInt8):(bL l).size=l.length:=by show l.toArray.size=_;simp
def quoG:List UInt8→Nat→ByteArray→ByteArray
 |[],_,acc=>acc
 |c::l,i,acc=>quoG l (i+1) (acc++bL (quoC c))
theorem quoG_eq:∀(l:List UInt8) (i:Nat) (acc:List UInt8),quoG l i (bL acc)=bL (quoF l i acc)
 |[],i,acc=>by rw[quoG,quoF]
 |c::l,i,acc=>by rw[quoG,quoF,←bL_app,quoG_eq l]
theorem quoC_len(c:UInt8):(quoC c).length≤2∧1≤(quoC c).length:=by
 unfold quoC
 repeat' split
 all_goals simp
theorem quoF_len:∀(l:List UInt8) (i:Nat) (acc:List UInt8),(quoF l i acc).length≤acc.length+2*l.length∧acc.length≤(quoF l i acc).length
 |[],i,acc=>by rw[quoF];simp
 |c::l,i,acc=>by
  rw[quoF]
  have h1:=quoF_len l (i+1) (acc++quoC c)
  have h2:=quoC_len c
  rw[List.length_append] at h1
  rw[List.length_cons]
  omega
theorem quoB_size(s:ByteArray):(quoB s).size≤2*s.size+2∧0<(quoB s).size:=by
 unfold quoB
 rw[bL_size,List.length_append]
 have h:=quoF_len s.data.toList 0 [34]
 have e:s.data.toList.length=s.size:=rfl
 simp only[List.length_cons,List.length_nil] at h ⊢
 omega
theorem byt_cons{s:ByteArray}{i:Nat}{c:UInt8}(h:s.data.toList[i]? = some c):byt s i=(c.toNat:Int):=by
 unfold byt
 rw[List.getD_eq_getElem?_getD,h]
 rfl
theorem ext_one{s:ByteArray}{i j:Nat}{c:UInt8}(h:s.data.toList[i]? = some c)(hj:j=i+1):s.extract i j=bL [c]:=by
 have e:(s.extract i j).data.toList=[c]:=by
  rw[Lib.extract_data,hj,show i+1-i=1 by omega]
  obtain⟨h1,h2⟩:=List.getElem?_eq_some_iff.1 h
  rw[List.drop_eq_getElem_cons h1,h2]
  rfl
 apply ByteArray.ext
 apply Array.ext'
 rw[e]
 rfl
theorem rquo_x(s:ByteArray)(hs:s.size≤1900000):ev (q159 (sv s))=some (0,[sv (quoB s)]):=by
 have hlen:s.data.toList.length=s.size:=rfl
 have lp:ev (q159b0a (iv 0) (sv s) (sv ⟨#[34]⟩))=some (0,[sv (quoG s.data.toList 0 ⟨#[34]⟩)]):=
  loop_ev s.data.toList (fun i acc c=>acc++bL (quoC c)) quoG (fun i s=>by rw[quoG]) (fun x l i s=>by rw[quoG]) (fun i acc=>acc.size≤1+2*i∧i≤s.size) (fun i acc=>q159b0a (iv (i:Int)) (sv s) (sv acc)) (fun acc=>(0,[sv acc])) (by omega) (fun i j c acc e0 hj hx hm hi hd hI=>by
   have hc2:=quoC_len c
   have hb:=byt_cons hx
   have hlt:i<s.size:=by omega
   refine⟨⟨by show (acc++bL (quoC c)).size≤_;rw[ByteArray.size_append,bL_size];omega,by omega⟩,?_⟩
   have hx1:=fun(k:AV→Res)=>indS (d:=Res.fail) (k:=k) hlt
   rw[hb] at hx1
   have hx2:=fun(k:AV→Res)=>slcS (d:=Res.fail) (k:=k) (s:=s) (l:=i) (m:=j) (by omega) (by omega)
   rw[ext_one hx hj] at hx2
   have c1:=fun(t:ByteArray) (ht:t.size≤10) (k:AV→Res)=>cat_k (t:=9) (k:=k) acc t (by omega) (by omega)
   have c2:=fun(t u:ByteArray) (ht:t.size≤10) (hu:u.size≤10) (k:AV→Res)=>cat_k (t:=9) (k:=k) (acc++t) u (by rw[ByteArray.size_append];omega) (by omega)
   have hi':(i:Int)<(s.size:Int):=by omega
   have hcn:∀n:Nat,n<256→((c.toNat:Int)=(n:Int)↔c=UInt8.ofNat n):=by
    intro n hn
    rw[←UInt8.toNat_inj,UInt8.toNat_ofNat_of_lt' (by simpa using hn)]
    omega
   have n10:(c.toNat:Int)=10↔c=10:=hcn 10 (by decide)
   have n9:(c.toNat:Int)=9↔c=9:=hcn 9 (by decide)
   have n34:(c.toNat:Int)=34↔c=34:=hcn 34 (by decide)
   have n92:(c.toNat:Int)=92↔c=92:=hcn 92 (by decide)
   rw[h159b0a,g159b0a]
   unfold quoC
   by_cases d1:c=10
   ·have f1:=c1 ⟨#[92,110]⟩ (by decide)
    have g1:=eq_true (n10.2 d1)
    subst d1
    simp[hi',hx1,f1,e0,g1]
    rfl
   have g1:=eq_false (fun h=>d1 (n10.1 h))
   by_cases d2:c=9
   ·have f1:=c1 ⟨#[92,116]⟩ (by decide)
    have g2:=eq_true (n9.2 d2)
    subst d2
    simp[hi',hx1,f1,e0]
    rfl
   have g2:=eq_false (fun h=>d2 (n9.1 h))
   have f1:=c1 ⟨#[92]⟩ (by decide)
   have f2:=c2 ⟨#[92]⟩ (bL [c]) (by decide) (by rw[bL_size];simp)
   by_cases d3:c=34
   ·have g3:=n34.2 d3
    subst d3
    simp[hi',hx1,hx2,f1,f2,e0]
    rw[ByteArray.append_assoc]
    rfl
   have g3:=eq_false (fun h=>d3 (n34.1 h))
   by_cases d4:c=92
   ·subst d4
    simp[hi',hx1,hx2,f1,f2,e0]
    rw[ByteArray.append_assoc]
    rfl
   have g4:=eq_false (fun h=>d4 (n92.1 h))
   have f3:=c1 (bL [c]) (by rw[bL_size];simp)
   simp[hi',hx1,hx2,f3,e0,d1,d2,d3,d4,g1,g2,g3,g4]) (fun acc hI=>by
   rw[h159b0a,g159b0a]
   simp) ⟨#[34]⟩ ⟨by show (1:Nat)≤1+2*0;omega,Nat.zero_le _⟩
 have e2:quoG s.data.toList 0 ⟨#[34]⟩=bL (quoF s.data.toList 0 [34]):=quoG_eq s.data.toList 0 [34]
 rw[e2] at lp
 have hz:=quoF_len s.data.toList 0 [34]
 have c1:=fun(k:AV→Res)=>cat_k (t:=9) (k:=k) (bL (quoF s.data.toList 0 [34])) ⟨#[34]⟩ (by rw[bL_size];simp only[List.length_cons,List.length_nil] at hz;omega) (by decide)
 have e3:quoB s=bL (quoF s.data.toList 0 [34])++⟨#[34]⟩:=by unfold quoB;rw[bL_app];rfl
 refine Evl.of ?_
 rw[h159,g159,e3]
 simp[lp,c1]
def byL(l:List UInt8):List (List PV):=l.map fun c=>[cv (c.toNat:Int)]
theorem byL_app(a b:List UInt8):byL (a++b)=byL a++byL b:=by unfold byL;rw[List.map_append]
theorem ns_byL(l:List UInt8):NS (.rows (byL l)):=ns_rows fun x _ p hp=>by simp at hp;subst hp;exact .lit _
theorem sl_u8:SlT Tryz.prog 126 1 1:=SlT.of (by kernel_rfl)
theorem appK_byL{k:PV→Res}(l m:List UInt8)(hm:m≠[])(hl:l.length+m.length≤10000000):appK PG .fail 126 (.pv (.rows (byL l))) (.pv (.rows (byL m))) k=k (.rows (byL (l++m))):=
 appK_of (fun w=>by
  rw[app_ok sl_u8 (es:=byL l) (es':=byL m) rfl rfl (by simpa[byL] using hm) (by simp[byL]) (by simp[byL];omega) (by simp[byL];omega),byL_app]) (ns_byL _)
theorem strB_bL:∀(l:List UInt8) (b:ByteArray),(l.map fun c=>(c.toNat:Int)).foldl (fun r n=>r.push (UInt8.ofNat n.toNat)) b=b++bL l
 |[],b=>by show b=b++bL [];exact(ByteArray.append_empty).symm
 |c::l,b=>by
  rw[List.map_cons,List.foldl_cons,strB_bL l]
  have:bL (c::l)=bL [c]++bL l:=bL_app [c] l
  rw[this,←ByteArray.append_assoc]
  congr 1
  apply ByteArray.ext
  rw[ByteArray.data_push,ByteArray.data_append]
  show b.data.push (UInt8.ofNat ((c.toNat:Int)).toNat)=b.data ++ #[c]
  rw[Int.toNat_natCast]
  simp
theorem conv_byL{k:AV→Res}(l:List UInt8):convK PG .fail 126 9 (.pv (.rows (byL l))) k=k (.pv (sv (bL l))):=by
 have h:=convK_bytes (P:=PG) (d:=Res.fail) (k:=k) uB u8 uS (l.map fun c=>(c.toNat:Int))
 rw[List.map_map] at h
 have e:strB (l.map fun c=>(c.toNat:Int))=bL l:=by
  unfold strB
  rw[strB_bL]
  exact ByteArray.empty_append
 rw[e] at h
 exact h
theorem ibyte_x(c:UInt8):ev (q175 (sv ⟨#[10,9,34,92]⟩) (cv (c.toNat:Int)))=some (0,[iv (if c=10 then 0 else if c=9 then 1 else if c=34 then 2 else if c=92 then 3 else -1)]):=Evl.of (by
 have e:xByte (sv ⟨#[10,9,34,92]⟩) (cv (c.toNat:Int))=some (.int .i64 (if c=10 then 0 else if c=9 then 1 else if c=34 then 2 else if c=92 then 3 else -1)):=by
  unfold xByte
  simp only[Int.toNat_natCast]
  have hc:c.toNat.toUInt8=c:=by apply UInt8.toNat_inj.1;simp
  rw[hc]
  by_cases d1:c=10
  ·subst d1;rfl
  by_cases d2:c=9
  ·subst d2;rfl
  by_cases d3:c=34
  ·subst d3;rfl
  by_cases d4:c=92
  ·subst d4;rfl
  have b1:((10:UInt8)==c)=false:=beq_false_of_ne (fun h=>d1 h.symm)
  have b2:((9:UInt8)==c)=false:=beq_false_of_ne (fun h=>d2 h.symm)
  have b3:((34:UInt8)==c)=false:=beq_false_of_ne (fun h=>d3 h.symm)
  have b4:((92:UInt8)==c)=false:=beq_false_of_ne (fun h=>d4 h.symm)
  simp[Lib.indexByte,b1,b2,b3,b4,d1,d2,d3,d4]
 rw[h175]
 unfold extL2
 simp only
 rw[e]
 rfl)
theorem pquo_step(v:Bool)(s:ByteArray)(hs:s.size≤1900000)(i j:Nat)(c:UInt8)(acc:List UInt8)(e0:IntKind.i64.wrap ((i:Int)+1)=(j:Int))(hx:s.data.toList[i]? = some c)(hi:(i:Int)<(s.size:Int))(ha:acc.length≤5000000) :
  body PG EE TT ev (if v=true then q177b0b (iv i) (iv s.size) (sv s) (byL acc) else q177b0a (iv i) (iv s.size) (sv s) (byL acc))=passK (ev (q177b0b (iv j) (iv s.size) (sv s) (byL (acc++quoC c)))):=by
 have hb:=byt_cons hx
 have hlt:i<s.size:=by omega
 have hx1:=fun(k:AV→Res)=>indS (d:=Res.fail) (k:=k) hlt
 rw[hb] at hx1
 have hib:=ibyte_x c
 have w:∀t:List UInt8,t≠[]→t.length≤2→∀k:PV→Res,appK PG .fail 126 (.pv (.rows (byL acc))) (.pv (.rows (byL t))) k=k (.rows (byL (acc++t))):=fun t h1 h2 k=>appK_byL acc t h1 (by omega)
 have n0:=fun(k:AV→Res)=>indS (d:=Res.fail) (k:=k) (s:=⟨#[110,116,34,92]⟩) (i:=0) (by decide)
 have n1:=fun(k:AV→Res)=>indS (d:=Res.fail) (k:=k) (s:=⟨#[110,116,34,92]⟩) (i:=1) (by decide)
 have n2:=fun(k:AV→Res)=>indS (d:=Res.fail) (k:=k) (s:=⟨#[110,116,34,92]⟩) (i:=2) (by decide)
 have n3:=fun(k:AV→Res)=>indS (d:=Res.fail) (k:=k) (s:=⟨#[110,116,34,92]⟩) (i:=3) (by decide)
 rw[show byt ⟨#[110,116,34,92]⟩ 0=110 by decide] at n0
 rw[show byt ⟨#[110,116,34,92]⟩ 1=116 by decide] at n1
 rw[show byt ⟨#[110,116,34,92]⟩ 2=34 by decide] at n2
 rw[show byt ⟨#[110,116,34,92]⟩ 3=92 by decide] at n3
 unfold quoC
 have go:∀(r:Int) (t:List UInt8),t≠[]→t.length≤2→ev (q175 (sv ⟨#[10,9,34,92]⟩) (cv (c.toNat:Int)))=some (0,[iv r])→
   ((r<0∧byL t=[[cv (c.toNat:Int)]])∨(¬r<0∧∃b:Int,(∀k:AV→Res,indK PG .fail 9 (.pv (sv ⟨#[110,116,34,92]⟩)) (.pv (iv r)) k=k (.pv (cv b)))∧byL t=[[cv 92],[cv b]]))→
   body PG EE TT ev (if v=true then q177b0b (iv i) (iv s.size) (sv s) (byL acc) else q177b0a (iv i) (iv s.size) (sv s) (byL acc))=passK (ev (q177b0b (iv j) (iv s.size) (sv s) (byL (acc++t)))):=by
  intro r t h1 h2 h3 h4
  have h5:=w t h1 h2
  rcases h4 with⟨h6,h7⟩|⟨h6,b,h7,h8⟩
  ·rw[h7] at h5
   cases v
   ·show body PG EE TT ev (q177b0a (iv i) (iv s.size) (sv s) (byL acc))=_
    rw[h177b0a,g177b0a]
    simp[hi,hx1,h3,h6,h5,e0]
   ·show body PG EE TT ev (q177b0b (iv i) (iv s.size) (sv s) (byL acc))=_
    rw[h177b0b,g177b0b]
    simp[hi,hx1,h3,h6,h5,e0]
  ·rw[h8] at h5
   cases v
   ·show body PG EE TT ev (q177b0a (iv i) (iv s.size) (sv s) (byL acc))=_
    rw[h177b0a,g177b0a]
    simp[hi,hx1,h3,h6,h7,h5,e0]
   ·show body PG EE TT ev (q177b0b (iv i) (iv s.size) (sv s) (byL acc))=_
    rw[h177b0b,g177b0b]
    simp[hi,hx1,h3,h6,h7,h5,e0]
 by_cases d1:c=10
 ·subst d1
  exact go 0 [92,110] (by simp) (by simp) hib (.inr ⟨by decide,110,n0,rfl⟩)
 by_cases d2:c=9
 ·subst d2
  exact go 1 [92,116] (by simp) (by simp) hib (.inr ⟨by decide,116,n1,rfl⟩)
 by_cases d3:c=34
 ·subst d3
  exact go 2 [92,34] (by simp) (by simp) hib (.inr ⟨by decide,34,n2,rfl⟩)
 by_cases d4:c=92
 ·subst d4
  exact go 3 [92,92] (by simp) (by simp) hib (.inr ⟨by decide,92,n3,rfl⟩)
 rw[if_neg d1,if_neg d2,if_neg d3,if_neg d4] at hib ⊢
 exact go (-1) [c] (by simp) (by simp) hib (.inl ⟨by decide,rfl⟩)
theorem quo_x(s:ByteArray)(hs:s.size≤1900000):ev (q177 (sv s))=some (0,[sv (quoB s)]):=by
 have hlen:s.data.toList.length=s.size:=rfl
 by_cases h0:s.size=0
 ·have hn:s.data.toList=[]:=List.eq_nil_of_length_eq_zero (by omega)
  have lp:ev (q177b0a (iv 0) (iv s.size) (sv s) [[cv 34]])=some (0,[.rows [[cv 34]]]):=Evl.of (by
   rw[h177b0a,g177b0a]
   simp[h0])
  have e:quoB s=⟨#[34,34]⟩:=by unfold quoB;rw[hn];rfl
  refine Evl.of ?_
  rw[h177,g177,e]
  simp[lp]
 ·have key:∀i,1≤i→i≤s.size→∀acc:List UInt8,acc.length≤1+2*i→ev (q177b0b (iv i) (iv s.size) (sv s) (byL acc))=some (1,[.rows (byL (quoF (s.data.toList.drop i) i acc))]):=fun i hi1 hi2 acc hacc=>
   loop_from s.data.toList (fun i acc c=>acc++quoC c) quoF (fun i s=>by rw[quoF]) (fun x l i s=>by rw[quoF]) (fun i acc=>acc.length≤1+2*i) (fun i acc=>q177b0b (iv (i:Int)) (iv s.size) (sv s) (byL acc)) (fun acc=>(1,[.rows (byL acc)])) (by omega) i (fun i j c acc h1 e0 hj hx hm hi hd hI=>by
    have hc2:=quoC_len c
    have hst:=pquo_step true s hs i j c acc e0 hx (by omega) (by omega)
    exact⟨by show (acc++quoC c).length≤_;rw[List.length_append];omega,hst⟩) (fun acc hI=>by
    show body PG EE TT ev (q177b0b (iv (s.size:Int)) (iv s.size) (sv s) (byL acc))=_
    rw[h177b0b,g177b0b]
    simp) acc hacc (by omega)
  obtain⟨c,hc⟩:∃c,s.data.toList[0]? = some c:=⟨_,List.getElem?_eq_getElem (by omega)⟩
  have hst:=pquo_step false s hs 0 1 c [34] (by decide) hc (by omega) (by simp)
  have hk:=key 1 (by omega) (by omega) ([34]++quoC c) (by have:=quoC_len c;simp;omega)
  have hq:quoF (s.data.toList.drop 1) 1 ([34]++quoC c)=quoF s.data.toList 0 [34]:=by
   have:s.data.toList=c::s.data.toList.drop 1:=by
    have h1:0<s.data.toList.length:=by omega
    have h2:=List.drop_eq_getElem_cons h1
    rw[List.drop_zero] at h2
    rw[List.getElem?_eq_getElem h1] at hc
    rw[Option.some.inj hc] at h2
    exact h2
   conv=>rhs;rw[this,quoF]
  rw[hq] at hk
  have lp:ev (q177b0a (iv 0) (iv s.size) (sv s) [[cv 34]])=some (1,[.rows (byL (quoF s.data.toList 0 [34]))]):=by
   refine Evl.of ?_
   have h2:body PG EE TT ev (q177b0a (iv 0) (iv s.size) (sv s) [[cv 34]])=passK (ev (q177b0b (iv 1) (iv s.size) (sv s) (byL ([34]++quoC c)))):=hst
   have h3:ev (q177b0b (iv 1) (iv s.size) (sv s) (byL ([34]++quoC c)))=_:=hk
   rw[h2,h3]
   rfl
  have hz:=quoF_len s.data.toList 0 [34]
  simp only[List.length_cons,List.length_nil] at hz
  have ha:∀k:PV→Res,appK PG .fail 126 (.pv (.rows (byL (quoF s.data.toList 0 [34])))) (.pv (.rows [[cv 34]])) k=k (.rows (byL (quoF s.data.toList 0 [34]++[34]))):=fun k=>appK_byL _ [34] (by simp) (by simp;omega)
  have hcv:=fun(k:AV→Res)=>conv_byL (k:=k) (quoF s.data.toList 0 [34]++[34])
  have e:quoB s=bL (quoF s.data.toList 0 [34]++[34]):=rfl
  refine Evl.of ?_
  rw[h177,g177,e]
  generalize quoF s.data.toList 0 [34]++[34]=y at *
  simp[lp,ha,hcv]
inductive Rc where
 |mk (op bt bf ap at_:Tx) (kids:List (Ex×Rc))
def Rc.op:Rc→Tx | .mk a _ _ _ _ _=>a
def Rc.bt:Rc→Tx | .mk _ a _ _ _ _=>a
def Rc.bf:Rc→Tx | .mk _ _ a _ _ _=>a
def Rc.ap:Rc→Tx | .mk _ _ _ a _ _=>a
def Rc.at_:Rc→Tx | .mk _ _ _ _ a _=>a
def Rc.kids:Rc→List (Ex×Rc) | .mk _ _ _ _ _ a=>a
def dE:Ex:=.mk 0 eB 0 (.mk 0 eB 0 []) [] [] [] 0
def dR:Rc:=.mk (tkB sUs) (tkB sUs) (tkB sUs) (tkB sUs) (tkB sUs) []
def kd(ks:List (Ex×Rc))(i:Nat):Ex×Rc:=ks.getD i (dE,dR)
abbrev oAnd:ByteArray:=⟨#[38,38]⟩
abbrev oOr:ByteArray:=⟨#[124,124]⟩
def Ex.k0(x:Ex):Ex:=x.kids.getD 0 dE
def opOf(v:Ex):ByteArray:=if v.kind=3∧Lx.isOpB v.name=true∧¬v.name=oAnd∧¬v.name=oOr then v.name else eB
def opE(x:Ex):ByteArray:=if x.kind=10 then oAnd else if x.kind=11 then oOr else if x.kind=5∧x.k0.kind=5 then opOf x.k0.k0 else eB
def isOpen(x:Ex):Bool:=if x.kind=6 then true else if x.kind=7 then true else decide (x.kind=9)
def whole(p:Ex×Rc)(last:Bool):Tx:=if isOpen p.1=true then p.2.op else if last=true then p.2.bt else p.2.bf
def part(p:Ex×Rc):Tx:=lv (whole p true)
def isAtom(x:Ex):Bool:=if isOpen x=true then false else if x.kind=5 then false else if x.kind=10 then false else !decide (x.kind=11)
def arg(p:Ex×Rc):Tx:=if isAtom p.1=true then p.2.at_ else br (whole p true)
def grp(fl:Bool)(p:Ex×Rc):Tx:=if fl=true∧p.1.kind=5 then p.2.ap else br p.2.bt
def opd(fl:Bool)(p:Ex×Rc)(o:ByteArray)(right last:Bool):Tx:=
 if isOpen p.1=true then(if right=true∧last=true then p.2.op else br p.2.op)
 else if ¬opE p.1=eB∧needs o (opE p.1) right=true then grp fl p else if last=true then p.2.bt else p.2.bf
abbrev wIf:ByteArray:=⟨#[105,102]⟩
abbrev wThen:ByteArray:=⟨#[116,104,101,110]⟩
abbrev wElse:ByteArray:=⟨#[101,108,115,101]⟩
abbrev wRec:ByteArray:=⟨#[108,101,116,32,114,101,99]⟩
abbrev wLet:ByteArray:=⟨#[108,101,116]⟩
abbrev wAnd:ByteArray:=⟨#[97,110,100]⟩
abbrev wIn:ByteArray:=⟨#[105,110]⟩
abbrev wEq:ByteArray:=⟨#[61]⟩
abbrev wCase:ByteArray:=⟨#[99,97,115,101]⟩
abbrev wOf:ByteArray:=⟨#[111,102]⟩
abbrev wEnd:ByteArray:=⟨#[101,110,100]⟩
abbrev wCol:ByteArray:=⟨#[58]⟩
abbrev wBar:ByteArray:=⟨#[124]⟩
abbrev wLam:ByteArray:=⟨#[92]⟩
def lamT(s:ByteArray):ByteArray:=wLam++(sSp++(s++(sSp++sArr)))
def defT(w n:ByteArray):ByteArray:=w++(sSp++(n++(sSp++wEq)))
def letT:List (ByteArray×Tx)→Nat→ByteArray×Tx→ByteArray×Tx
 |[],_,s=>s
 |b::l,i,s=>letT l (i+1) (if i=0 then(s.1,jn (tkB (defT s.1 b.1)) b.2) else(wAnd,jn s.2 (jn (tkB (defT wAnd b.1)) b.2)))
def casT:List Tx→Nat→Tx→Tx
 |[],_,s=>s
 |a::l,i,s=>casT l (i+1) (if i=0 then jn s a else jn (jn s (tkB wBar)) a)
def opT(x:Ex)(ks:List (Ex×Rc))(bs:List (ByteArray×Tx)):Tx:=
 if x.kind=6 then jn (tkB (lamT x.name)) (part (kd ks 0))
 else if x.kind=9 then jn (tkB wIf) (jn (part (kd ks 0)) (jn (tkB wThen) (jn (part (kd ks 1)) (jn (tkB wElse) (part (kd ks 2))))))
 else if x.kind=7 then jn (letT bs 0 (if x.n=1 then wRec else wLet,tkB eB)).2 (jn (tkB wIn) (part (kd ks 0)))
 else tkB sUs
def apT(ks:List (Ex×Rc)):Tx:=if(kd ks 0).1.kind=5 then jn (kd ks 0).2.ap (arg (kd ks 1)) else jn (arg (kd ks 0)) (arg (kd ks 1))
def atT(x:Ex)(ks:List (Ex×Rc))(xs:List Tx):Tx:=
 if x.kind=1 then tkB (digs x.n.toNat)
 else if x.kind=2 then tkB (quoB x.name)
 else if x.kind=8 then jn (casT xs 0 (jn (tkB wCase) (jn (part (kd ks 0)) (tkB wOf)))) (tkB wEnd)
 else if x.kind=12 then jn (tkB sL1) (jn (part (kd ks 0)) (jn (tkB wCol) (jn (x.t.txt,x.t.lev) (tkB sR1))))
 else if x.kind=3∨x.kind=4 then tkB (nmB x.name) else tkB sUs
def bT(fl:Bool)(x:Ex)(ks:List (Ex×Rc))(xs:List Tx)(last:Bool):Tx:=
 if opE x=eB then(if x.kind=5 then apT ks else atT x ks xs)
 else jn (opd fl (if x.kind=5 then kd (kd ks 0).2.kids 1 else kd ks 0) (opE x) false false) (jn (tkB (opE x)) (opd fl (kd ks 1) (opE x) true last))
def rcF(fl:Bool)(x:Ex)(ks:List (Ex×Rc))(xs:List Tx)(bs:List (ByteArray×Tx)):Rc:=
 .mk (opT x ks bs) (bT fl x ks xs true) (bT fl x ks xs false) (if x.kind=5 then apT ks else tkB sUs) (atT x ks xs) ks
mutual
def Ex.rc(fl:Bool):Ex→Rc
 |.mk k s n t ks xs bs a=>rcF fl (.mk k s n t ks xs bs a) (Ex.rcs fl ks) (Al.rcs fl xs) (Bd.rcs fl bs)
def Al.rc(fl:Bool):Al→Tx
 |.mk p e=>jn (p.txt,p.lev) (jn (tkB sArr) (part (e,Ex.rc fl e)))
def Bd.rc(fl:Bool):Bd→ByteArray×Tx
 |.mk s e _=>(nmB s,part (e,Ex.rc fl e))
def Ex.rcs(fl:Bool):List Ex→List (Ex×Rc)
 |[]=>[]
 |x::l=>(x,Ex.rc fl x)::Ex.rcs fl l
def Al.rcs(fl:Bool):List Al→List Tx
 |[]=>[]
 |x::l=>Al.rc fl x::Al.rcs fl l
def Bd.rcs(fl:Bool):List Bd→List (ByteArray×Tx)
 |[]=>[]
 |x::l=>Bd.rc fl x::Bd.rcs fl l
end
def pr(fl:Bool)(x:Ex):Ex×Rc:=(x,x.rc fl)
theorem Ex.rcs_map(fl:Bool):∀l,Ex.rcs fl l=l.map (pr fl)
 |[]=>by rw[Ex.rcs];rfl
 |x::l=>by rw[Ex.rcs,Ex.rcs_map fl l];rfl
theorem Al.rcs_map(fl:Bool):∀l,Al.rcs fl l=l.map (Al.rc fl)
 |[]=>by rw[Al.rcs];rfl
 |x::l=>by rw[Al.rcs,Al.rcs_map fl l];rfl
theorem Bd.rcs_map(fl:Bool):∀l,Bd.rcs fl l=l.map (Bd.rc fl)
 |[]=>by rw[Bd.rcs];rfl
 |x::l=>by rw[Bd.rcs,Bd.rcs_map fl l];rfl
theorem Ex.rc_eq(fl:Bool)(x:Ex):x.rc fl=rcF fl x (x.kids.map (pr fl)) (x.alts.map (Al.rc fl)) (x.binds.map (Bd.rc fl)):=by
 cases x with
 |mk k s n t ks xs bs a=>rw[Ex.rc,Ex.rcs_map,Al.rcs_map,Bd.rcs_map];rfl
theorem Al.rc_eq(fl:Bool)(x:Al):x.rc fl=jn (x.p.txt,x.p.lev) (jn (tkB sArr) (part (pr fl x.e))):=by cases x;rw[Al.rc];rfl
theorem Bd.rc_eq(fl:Bool)(x:Bd):x.rc fl=(nmB x.name,part (pr fl x.e)):=by cases x;rw[Bd.rc];rfl
theorem pr_op(fl:Bool)(x:Ex):(pr fl x).2.op=opT x (x.kids.map (pr fl)) (x.binds.map (Bd.rc fl)):=by show (x.rc fl).op=_;rw[x.rc_eq];rfl
theorem pr_bt(fl:Bool)(x:Ex):(pr fl x).2.bt=bT fl x (x.kids.map (pr fl)) (x.alts.map (Al.rc fl)) true:=by show (x.rc fl).bt=_;rw[x.rc_eq];rfl
theorem pr_bf(fl:Bool)(x:Ex):(pr fl x).2.bf=bT fl x (x.kids.map (pr fl)) (x.alts.map (Al.rc fl)) false:=by show (x.rc fl).bf=_;rw[x.rc_eq];rfl
theorem pr_ap(fl:Bool)(x:Ex):(pr fl x).2.ap=if x.kind=5 then apT (x.kids.map (pr fl)) else tkB sUs:=by show (x.rc fl).ap=_;rw[x.rc_eq];rfl
theorem pr_at(fl:Bool)(x:Ex):(pr fl x).2.at_=atT x (x.kids.map (pr fl)) (x.alts.map (Al.rc fl)):=by show (x.rc fl).at_=_;rw[x.rc_eq];rfl
theorem pr_kids(fl:Bool)(x:Ex):(pr fl x).2.kids=x.kids.map (pr fl):=by show (x.rc fl).kids=_;rw[x.rc_eq];rfl
theorem Ex.good_len{x:Ex}(h:x.good=true):(x.kids.length:Int)=kidsN x.kind:=by
 rw[x.good_eq,Bool.and_eq_true,headB,Bool.and_eq_true,decide_eq_true_eq] at h
 exact h.1.1
theorem Ex.good_named{x:Ex}(h:x.good=true):namedB x.kind x.name x.n=true:=by
 rw[x.good_eq,Bool.and_eq_true,headB,Bool.and_eq_true,Bool.and_eq_true] at h
 exact h.1.2.1
theorem Ex.good_bl{x:Ex}(h:x.good=true):0<x.binds.length↔x.kind=7:=by
 rw[x.good_eq,Bool.and_eq_true,headB,Bool.and_eq_true,Bool.and_eq_true,Bool.and_eq_true,decide_eq_true_eq,decide_eq_true_eq] at h
 exact h.1.2.2.1
theorem Ex.good_t{x:Ex}(h:x.good=true)(hk:x.kind=12):x.t.good=true:=by
 rw[x.good_eq,Bool.and_eq_true,headB,Bool.and_eq_true,Bool.and_eq_true,Bool.and_eq_true,Bool.and_eq_true,if_pos hk] at h
 exact h.1.2.2.2.2
theorem Ex.good_kid{x y:Ex}(h:x.good=true)(hy:y∈x.kids):y.good=true:=by
 rw[x.good_eq,Bool.and_eq_true,Bool.and_eq_true] at h
 exact List.all_eq_true.1 h.2.1 y hy
theorem Ex.good_bind{x:Ex}{y:Bd}(h:x.good=true)(hy:y∈x.binds):nameB y.name=true∧y.e.good=true:=by
 rw[x.good_eq,Bool.and_eq_true,Bool.and_eq_true,Bool.and_eq_true] at h
 have:=List.all_eq_true.1 h.2.2.1 y hy
 rw[y.good_eq,Bool.and_eq_true] at this
 exact this
theorem Ex.good_alt{x:Ex}{y:Al}(h:x.good=true)(hy:y∈x.alts):y.p.good=true∧y.e.good=true:=by
 rw[x.good_eq,Bool.and_eq_true,Bool.and_eq_true,Bool.and_eq_true] at h
 have:=List.all_eq_true.1 h.2.2.2 y hy
 rw[y.good_eq,Bool.and_eq_true] at this
 exact this
theorem Ex.good_kind{x:Ex}(h:x.good=true):x.kind=1∨x.kind=2∨x.kind=3∨x.kind=4∨x.kind=5∨x.kind=6∨x.kind=7∨x.kind=8∨x.kind=9∨x.kind=10∨x.kind=11∨x.kind=12:=by
 have h1:=Ex.good_len h
 apply Decidable.byContradiction
 intro hn
 have e:kidsN x.kind = -1:=by unfold kidsN;repeat rw[if_neg (by omega)]
 omega
theorem Ex.good_one{x:Ex}(h:x.good=true)(hk:x.kind=6∨x.kind=7∨x.kind=8∨x.kind=12):∃a,x.kids=[a]:=by
 have h1:=Ex.good_len h
 have:kidsN x.kind=1:=by rcases hk with h|h|h|h<;>rw[h]<;>rfl
 rw[this] at h1
 match x.kids,h1 with
 |[a],_=>exact⟨a,rfl⟩
 |[],h1=>simp at h1
 |_::_::_,h1=>simp at h1;omega
theorem Ex.good_two{x:Ex}(h:x.good=true)(hk:x.kind=5∨x.kind=10∨x.kind=11):∃a b,x.kids=[a,b]:=by
 have h1:=Ex.good_len h
 have:kidsN x.kind=2:=by rcases hk with h|h|h<;>rw[h]<;>rfl
 rw[this] at h1
 match x.kids,h1 with
 |[a,b],_=>exact⟨a,b,rfl⟩
 |[],h1=>simp at h1
 |[_],h1=>simp at h1
 |_::_::_::_,h1=>simp at h1;omega
theorem Ex.good_three{x:Ex}(h:x.good=true)(hk:x.kind=9):∃a b c,x.kids=[a,b,c]:=by
 have h1:=Ex.good_len h
 have:kidsN x.kind=3:=by rw[hk];rfl
 rw[this] at h1
 match x.kids,h1 with
 |[a,b,c],_=>exact⟨a,b,c,rfl⟩
 |[],h1=>simp at h1
 |[_],h1=>simp at h1
 |[_,_],h1=>simp at h1
 |_::_::_::_::_,h1=>simp at h1;omega
theorem pos_of_ne{s:ByteArray}(h:s≠eB):0<s.size:=by
 apply Nat.pos_of_ne_zero
 intro h0
 apply h
 apply ByteArray.ext
 exact Array.eq_empty_of_size_eq_zero h0
theorem nameB_pos{s:ByteArray}(h:nameB s=true):0<s.size:=pos_of_ne (by rintro rfl;rw[show nameB eB=false by kernel_rfl] at h;cases h)
theorem lowB_pos{s:ByteArray}(h:Lx.isLowB s=true):0<s.size:=pos_of_ne (by rintro rfl;rw[show Lx.isLowB eB=false by kernel_rfl] at h;cases h)
theorem upB_pos{s:ByteArray}(h:Lx.isUpB s=true):0<s.size:=pos_of_ne (by rintro rfl;rw[show Lx.isUpB eB=false by kernel_rfl] at h;cases h)
theorem Ex.name_pos{x:Ex}(h:x.good=true)(hk:x.kind=3∨x.kind=4∨x.kind=6):0<x.name.size:=by
 have h1:=Ex.good_named h
 unfold namedB at h1
 rcases hk with h|h|h<;>rw[h] at h1<;>simp at h1
 ·exact nameB_pos h1.2
 ·exact upB_pos h1.2
 ·exact lowB_pos h1.2
theorem Ex.num_ok{x:Ex}(h:x.good=true)(hk:x.kind=1):0≤x.n∧x.n<4611686018427387904:=by
 have h1:=Ex.good_named h
 unfold namedB at h1
 rw[hk] at h1
 simp at h1
 omega
theorem digs_pos(u:Nat):0<(digs u).size:=by
 show 0<(dgL 20 u).toArray.size
 rw[List.size_toArray,dgL,List.length_append]
 simp
def okR(m:Nat)(r:Rc):Prop:=Ok m r.op∧Ok m r.bt∧Ok m r.bf∧Ok m r.ap∧Ok m r.at_
def okP(p:Ex×Rc):Prop:=okR (8*p.1.size) p.2
theorem ok_us{m:Nat}(h:1≤m):Ok m (tkB sUs):=Ok.tkB (by decide) (by have:sUs.size=1:=rfl;omega)
theorem ok_whole{p:Ex×Rc}(h:okP p)(last:Bool):Ok (8*p.1.size) (whole p last):=by
 obtain⟨h1,h2,h3,h4,h5⟩:=h
 unfold whole
 repeat' split
 all_goals assumption
theorem ok_part{p:Ex×Rc}(h:okP p):Ok (8*p.1.size+1) (part p):=(ok_whole h true).lv
theorem ok_arg{p:Ex×Rc}(h:okP p):Ok (8*p.1.size+5) (arg p):=by
 unfold arg
 split
 ·exact h.2.2.2.2.mono (by omega)
 ·exact(ok_whole h true).br
theorem ok_grp{p:Ex×Rc}(h:okP p)(fl:Bool):Ok (8*p.1.size+5) (grp fl p):=by
 unfold grp
 split
 ·exact h.2.2.2.1.mono (by omega)
 ·exact h.2.1.br
theorem ok_opd{p:Ex×Rc}(h:okP p)(fl:Bool)(o:ByteArray)(r l:Bool):Ok (8*p.1.size+5) (opd fl p o r l):=by
 unfold opd
 split
 ·split
  ·exact h.1.mono (by omega)
  ·exact h.1.br
 ·split
  ·exact ok_grp h fl
  ·split
   ·exact h.2.1.mono (by omega)
   ·exact h.2.2.1.mono (by omega)
theorem casT_ok(fl:Bool):∀(l:List Al) (i m:Nat) (s:Tx),Ok m s→(∀a∈l,Ok (8*a.size-4) (a.rc fl))→Ok (m+8*Al.sizes l) (casT (l.map (Al.rc fl)) i s)
 |[],i,m,s,h,_=>by rw[List.map_nil,casT];exact h.mono (by omega)
 |a::l,i,m,s,h,hl=>by
  have ha:=hl a List.mem_cons_self
  have hb:=a.size_pos
  rw[List.map_cons,casT,Al.sizes]
  have h1:Ok (m+8*a.size) (if i=0 then jn s (a.rc fl) else jn (jn s (tkB wBar)) (a.rc fl)):=by
   split
   ·exact(h.jn ha).mono (by omega)
   ·exact((h.jn (Ok.tkB (m:=1) (s:=wBar) (by decide) (by decide))).jn ha).mono (by omega)
  exact(casT_ok fl l (i+1) (m+8*a.size) _ h1 (fun b hb=>hl b (List.mem_cons_of_mem _ hb))).mono (by omega)
theorem defT_size(w n:ByteArray):(defT w n).size=w.size+n.size+3:=by
 unfold defT
 simp only[ByteArray.size_append]
 have h1:sSp.size=1:=rfl
 have h2:wEq.size=1:=rfl
 omega
theorem bd_ok(fl:Bool){b:Bd}{w:ByteArray}(hw:w.size≤7)(h:Ok (8*b.e.size+1) (part (pr fl b.e))):Ok (8*b.size-2) (jn (tkB (defT w (b.rc fl).1)) (b.rc fl).2):=by
 rw[b.rc_eq]
 show Ok (8*b.size-2) (jn (tkB (defT w (nmB b.name))) (part (pr fl b.e)))
 have h1:=b.size_eq
 have h2:=nmB_size b.name
 have h3:=defT_size w (nmB b.name)
 exact(Ok.jn (Ok.tkB (m:=b.name.size+1) (by omega) (by omega)) h).mono (by omega)
theorem letT_ok(fl:Bool):∀(l:List Bd) (i m:Nat) (s:ByteArray×Tx),0<i→Ok m s.2→(∀b∈l,Ok (8*b.e.size+1) (part (pr fl b.e)))→Ok (m+8*Bd.sizes l) (letT (l.map (Bd.rc fl)) i s).2
 |[],i,m,s,_,h,_=>by rw[List.map_nil,letT];exact h.mono (by omega)
 |b::l,i,m,s,hi,h,hl=>by
  have ha:=bd_ok fl (w:=wAnd) (by decide) (hl b List.mem_cons_self)
  have hb:=b.size_pos
  rw[List.map_cons,letT,Bd.sizes,if_neg (by omega)]
  exact(letT_ok fl l (i+1) (m+8*b.size) (wAnd,_) (by omega) ((h.jn ha).mono (by omega)) (fun c hc=>hl c (List.mem_cons_of_mem _ hc))).mono (by omega)
theorem letT_ok0(fl:Bool)(l:List Bd)(w:ByteArray)(s:Tx)(hw:w.size≤7)(hl:0<l.length)(h:∀b∈l,Ok (8*b.e.size+1) (part (pr fl b.e))):Ok (8*Bd.sizes l) (letT (l.map (Bd.rc fl)) 0 (w,s)).2:=by
 match l,hl,h with
 |b::l,_,h=>
  have ha:=bd_ok fl hw (h b List.mem_cons_self)
  have hb:=b.size_pos
  rw[List.map_cons,letT,Bd.sizes,if_pos rfl]
  exact(letT_ok fl l 1 (8*b.size) _ (by omega) (ha.mono (by omega)) (fun c hc=>h c (List.mem_cons_of_mem _ hc))).mono (by omega)
theorem opE_open{x:Ex}(h:x.kind≠5∧x.kind≠10∧x.kind≠11):opE x=eB:=by
 unfold opE
 rw[if_neg h.2.1,if_neg h.2.2,if_neg (fun hh=>h.1 hh.1)]
theorem opOf_size(v:Ex):(opOf v).size≤v.name.size:=by
 unfold opOf
 split
 ·exact Nat.le_refl _
 ·exact Nat.zero_le _
theorem kd0(fl:Bool)(a:Ex)(l:List Ex):kd ((a::l).map (pr fl)) 0=pr fl a:=rfl
theorem kd1(fl:Bool)(a b:Ex)(l:List Ex):kd ((a::b::l).map (pr fl)) 1=pr fl b:=rfl
theorem kd2(fl:Bool)(a b c:Ex)(l:List Ex):kd ((a::b::c::l).map (pr fl)) 2=pr fl c:=rfl
theorem sizes1(a:Ex):Ex.sizes [a]=a.size:=by rw[Ex.sizes,Ex.sizes];omega
theorem sizes2(a b:Ex):Ex.sizes [a,b]=a.size+b.size:=by rw[Ex.sizes,Ex.sizes,Ex.sizes];omega
theorem sizes3(a b c:Ex):Ex.sizes [a,b,c]=a.size+b.size+c.size:=by rw[Ex.sizes,Ex.sizes,Ex.sizes,Ex.sizes];omega
theorem ok_pr(fl:Bool):∀(n:Nat) (x:Ex),x.size≤n→x.good=true→okP (pr fl x):=by
 intro n
 induction n with
 |zero=>intro x h _;have:=x.size_pos;omega
 |succ n ih=>
  intro x h hg
  have hsz:=x.size_eq
  have hnm:=x.name_pos hg
  have ht1:=x.t.size_pos
  have ik:∀y∈x.kids,okP (pr fl y):=fun y hy=>ih y (by have:=Ex.kid_size hy;omega) (Ex.good_kid hg hy)
  have ia:∀y∈x.alts,Ok (8*y.size-4) (y.rc fl):=fun y hy=>by
   have h1:=Ex.alt_size hy
   have h2:=Ex.good_alt hg hy
   have h3:=ok_part (ih y.e (by omega) h2.2)
   have h4:8*(pr fl y.e).1.size+1=8*y.e.size+1:=rfl
   rw[h4] at h3
   have h5:=y.size_eq
   have h6:=y.p.txt_size
   have h7:=y.p.lev_le
   have h8:=y.p.size_eq
   rw[y.rc_eq]
   have hp:0<y.p.txt.size:=by
    rw[Pt.txt_eq]
    split
    ·decide
    ·split
     ·exact digs_pos _
     ·rename_i k1 k4
      have hgp:=h2.1
      rw[Pt.good_eq] at hgp
      have:0<y.p.name.size:=by
       by_cases k3:y.p.kind=3
       ·rw[if_pos k3] at hgp
        simp only[Bool.and_eq_true] at hgp
        exact upB_pos hgp.2.1
       ·by_cases k2:y.p.kind=2
        ·rw[if_neg k3,if_neg k1,if_pos k2] at hgp
         simp only[Bool.and_eq_true] at hgp
         exact lowB_pos hgp.2.2.1
        ·rw[if_neg k3,if_neg k1,if_neg k2] at hgp
         simp only[Bool.and_eq_true,decide_eq_true_eq] at hgp
         exact absurd hgp.2.2.1 k4
      rw[ByteArray.size_append]
      omega
   have hpt:Ok y.p.size (y.p.txt,y.p.lev):=⟨hp,by show y.p.txt.size≤_;omega,by show y.p.lev≤_;omega⟩
   exact(hpt.jn ((Ok.tkB (m:=1) (s:=sArr) (by decide) (by decide)).jn h3)).mono (by omega)
  have ib:∀y∈x.binds,Ok (8*y.e.size+1) (part (pr fl y.e)):=fun y hy=>ok_part (ih y.e (by have:=Ex.bind_size hy;omega) (Ex.good_bind hg hy).2)
  have h64:1≤8*x.size:=by omega
  have hop:Ok (8*x.size) (opT x (x.kids.map (pr fl)) (x.binds.map (Bd.rc fl))):=by
   unfold opT
   by_cases k6:x.kind=6
   ·obtain⟨a,hk⟩:=Ex.good_one hg (.inl k6)
    rw[if_pos k6,hk,kd0]
    rw[hk,sizes1] at hsz
    have h1:=ok_part (ik a (by rw[hk];simp))
    have e1:(pr fl a).1.size=a.size:=rfl
    rw[e1] at h1
    refine(Ok.jn (Ok.tkB (m:=x.name.size+1) ?_ ?_) h1).mono (by omega)
    ·unfold lamT;rw[ByteArray.size_append];have:wLam.size=1:=rfl;omega
    ·unfold lamT;simp only[ByteArray.size_append];have e1:wLam.size=1:=rfl;have e2:sSp.size=1:=rfl;have e3:sArr.size=2:=rfl;omega
   rw[if_neg k6]
   by_cases k9:x.kind=9
   ·obtain⟨a,b,c,hk⟩:=Ex.good_three hg k9
    rw[if_pos k9,hk,kd0,kd1,kd2]
    rw[hk,sizes3] at hsz
    have h1:=ok_part (ik a (by rw[hk];simp))
    have h2:=ok_part (ik b (by rw[hk];simp))
    have h3:=ok_part (ik c (by rw[hk];simp))
    have e1:(pr fl a).1.size=a.size:=rfl
    have e2:(pr fl b).1.size=b.size:=rfl
    have e3:(pr fl c).1.size=c.size:=rfl
    rw[e1] at h1
    rw[e2] at h2
    rw[e3] at h3
    have o1:Ok 1 (tkB wIf):=Ok.tkB (by decide) (by decide)
    have o2:Ok 1 (tkB wThen):=Ok.tkB (by decide) (by decide)
    have o3:Ok 1 (tkB wElse):=Ok.tkB (by decide) (by decide)
    exact(o1.jn (h1.jn (o2.jn (h2.jn (o3.jn h3))))).mono (by omega)
   rw[if_neg k9]
   by_cases k7:x.kind=7
   ·obtain⟨a,hk⟩:=Ex.good_one hg (.inr (.inl k7))
    rw[if_pos k7,hk,kd0]
    rw[hk,sizes1] at hsz
    have h1:=ok_part (ik a (by rw[hk];simp))
    have e1:(pr fl a).1.size=a.size:=rfl
    rw[e1] at h1
    have o1:Ok 1 (tkB wIn):=Ok.tkB (by decide) (by decide)
    have o2:=letT_ok0 fl x.binds (if x.n=1 then wRec else wLet) (tkB eB) (by split<;>decide) ((Ex.good_bl hg).2 k7) ib
    exact(o2.jn (o1.jn h1)).mono (by omega)
   rw[if_neg k7]
   exact ok_us h64
  have hap:Ok (8*x.size) (if x.kind=5 then apT (x.kids.map (pr fl)) else tkB sUs):=by
   by_cases k5:x.kind=5
   ·obtain⟨a,b,hk⟩:=Ex.good_two hg (.inl k5)
    rw[if_pos k5]
    unfold apT
    rw[hk,kd0,kd1]
    rw[hk,sizes2] at hsz
    have p1:=ik a (by rw[hk];simp)
    have h2:=ok_arg (ik b (by rw[hk];simp))
    have h1:=ok_arg p1
    have e1:(pr fl a).1.size=a.size:=rfl
    have e2:(pr fl b).1.size=b.size:=rfl
    rw[e1] at h1
    rw[e2] at h2
    have h3:Ok (8*a.size) (pr fl a).2.ap:=p1.2.2.2.1
    split
    ·exact(h3.jn h2).mono (by omega)
    ·exact(h1.jn h2).mono (by omega)
   ·rw[if_neg k5]
    exact ok_us h64
  have hat:Ok (8*x.size) (atT x (x.kids.map (pr fl)) (x.alts.map (Al.rc fl))):=by
   unfold atT
   by_cases k1:x.kind=1
   ·rw[if_pos k1]
    exact Ok.tkB (digs_pos _) (by have:=digs_size x.n.toNat;omega)
   rw[if_neg k1]
   by_cases k2:x.kind=2
   ·rw[if_pos k2]
    have:=quoB_size x.name
    exact Ok.tkB this.2 (by omega)
   rw[if_neg k2]
   by_cases k8:x.kind=8
   ·obtain⟨a,hk⟩:=Ex.good_one hg (.inr (.inr (.inl k8)))
    rw[if_pos k8,hk,kd0]
    rw[hk,sizes1] at hsz
    have h1:=ok_part (ik a (by rw[hk];simp))
    have e1:(pr fl a).1.size=a.size:=rfl
    rw[e1] at h1
    have o1:Ok 1 (tkB wCase):=Ok.tkB (by decide) (by decide)
    have o2:Ok 1 (tkB wOf):=Ok.tkB (by decide) (by decide)
    have o3:Ok 1 (tkB wEnd):=Ok.tkB (by decide) (by decide)
    exact((casT_ok fl x.alts 0 _ _ (o1.jn (h1.jn o2)) ia).jn o3).mono (by omega)
   rw[if_neg k8]
   by_cases k12:x.kind=12
   ·obtain⟨a,hk⟩:=Ex.good_one hg (.inr (.inr (.inr k12)))
    rw[if_pos k12,hk,kd0]
    rw[hk,sizes1] at hsz
    have h1:=ok_part (ik a (by rw[hk];simp))
    have e1:(pr fl a).1.size=a.size:=rfl
    rw[e1] at h1
    have o1:Ok 1 (tkB sL1):=Ok.tkB (by decide) (by decide)
    have o2:Ok 1 (tkB wCol):=Ok.tkB (by decide) (by decide)
    have o3:Ok 1 (tkB sR1):=Ok.tkB (by decide) (by decide)
    have hgt:=Ex.good_t hg k12
    have hts:=x.t.txt_size
    have htl:=x.t.lev_le
    have htp:0<x.t.txt.size:=by
     rw[Ty.txt_eq]
     have hgt':=hgt
     rw[Ty.good_eq] at hgt'
     simp only[Bool.and_eq_true,decide_eq_true_eq] at hgt'
     by_cases ka:x.t.name=sArr
     ·rw[if_pos ka]
      have hl:x.t.kids.length=2:=by
       have h2:=hgt'.2.2
       split at h2
       ·simp only[Bool.and_eq_true] at h2
        rw[ka] at h2
        exact absurd h2.1 (by rw[show Lx.isLowB sArr=false by kernel_rfl];decide)
       ·simp only[Bool.and_eq_true,Bool.or_eq_true,decide_eq_true_eq] at h2
        rcases h2.2 with h3|h3
        ·rw[ka] at h3
         exact absurd h3 (by rw[show Lx.isUpB sArr=false by kernel_rfl];decide)
        ·exact h3.2
      match x.t.kids,hl with
      |[u,v],_=>
       rw[Ty.arr,ByteArray.size_append,ByteArray.size_append]
       have:sAr.size=4:=rfl
       omega
     ·rw[if_neg ka]
      have:0<x.t.name.size:=by
       have h2:=hgt'.2.2
       split at h2
       ·simp only[Bool.and_eq_true] at h2
        exact lowB_pos h2.1
       ·simp only[Bool.and_eq_true,Bool.or_eq_true,decide_eq_true_eq] at h2
        rcases h2.2 with h3|h3
        ·exact upB_pos h3
        ·exact absurd h3.1 ka
      rw[ByteArray.size_append]
      omega
    have o4:Ok x.t.size (x.t.txt,x.t.lev):=⟨htp,by show x.t.txt.size≤_;omega,by show x.t.lev≤_;omega⟩
    exact(o1.jn (h1.jn (o2.jn (o4.jn o3)))).mono (by omega)
   rw[if_neg k12]
   by_cases k34:x.kind=3∨x.kind=4
   ·rw[if_pos k34]
    have:=nmB_size x.name
    exact Ok.tkB (nmB_pos (hnm (by omega))) (by omega)
   ·rw[if_neg k34]
    exact ok_us h64
  have hb:∀last,Ok (8*x.size) (bT fl x (x.kids.map (pr fl)) (x.alts.map (Al.rc fl)) last):=by
   intro last
   unfold bT
   by_cases ho:opE x=eB
   ·rw[if_pos ho]
    by_cases k5:x.kind=5
    ·rw[if_pos k5] at hap ⊢
     exact hap
    ·rw[if_neg k5]
     exact hat
   ·rw[if_neg ho]
    have hko:x.kind=5∨x.kind=10∨x.kind=11:=by
     apply Decidable.byContradiction
     intro hn
     exact ho (opE_open (by omega))
    obtain⟨a,b,hk⟩:=Ex.good_two hg hko
    have p1:=ik a (by rw[hk];simp)
    have p2:=ok_opd (ik b (by rw[hk];simp)) fl (opE x) true last
    have e2:(pr fl b).1.size=b.size:=rfl
    rw[e2] at p2
    rw[hk,sizes2] at hsz
    have hp0:=pos_of_ne ho
    by_cases k5:x.kind=5
    ·have h5:x.k0=a:=by unfold Ex.k0;rw[hk];rfl
     have ha5:a.kind=5∧opE x=opOf a.k0:=by
      unfold opE at ho ⊢
      rw[if_neg (by omega),if_neg (by omega),h5] at ho ⊢
      by_cases h6:a.kind=5
      ·exact⟨h6,by rw[if_pos ⟨k5,h6⟩]⟩
      ·rw[if_neg (fun hh=>h6 hh.2)] at ho
       exact absurd rfl ho
     have hga:=Ex.good_kid hg (y:=a) (by rw[hk];simp)
     obtain⟨v,u,hk2⟩:=Ex.good_two hga (.inl ha5.1)
     have hsa:=a.size_eq
     rw[hk2,sizes2] at hsa
     have hgu:=Ex.good_kid hga (y:=u) (by rw[hk2];simp)
     have pu:=ok_opd (ih u (by have:=Ex.kid_size (x:=x) (y:=a) (by rw[hk];simp);omega) hgu) fl (opE x) false false
     have e3:(pr fl u).1.size=u.size:=rfl
     rw[e3] at pu
     have hv0:a.k0=v:=by unfold Ex.k0;rw[hk2];rfl
     have hos:=opOf_size a.k0
     rw[←ha5.2,hv0] at hos
     have hvs:=v.size_eq
     rw[if_pos k5,hk,kd0,kd1,pr_kids,hk2,kd1]
     exact(pu.jn ((Ok.tkB (m:=v.name.size) hp0 (by omega)).jn p2)).mono (by omega)
    ·rw[if_neg k5,hk,kd0,kd1]
     have h1:=ok_opd p1 fl (opE x) false false
     have e1:(pr fl a).1.size=a.size:=rfl
     rw[e1] at h1
     have hos:(opE x).size≤2:=by
      unfold opE
      by_cases c1:x.kind=10
      ·rw[if_pos c1];decide
      ·rw[if_neg c1]
       by_cases c2:x.kind=11
       ·rw[if_pos c2];decide
       ·omega
     exact(h1.jn ((Ok.tkB (m:=1) hp0 (by omega)).jn p2)).mono (by omega)
  refine⟨?_,?_,?_,?_,?_⟩
  ·rw[pr_op];exact hop
  ·rw[pr_bt];exact hb true
  ·rw[pr_bf];exact hb false
  ·rw[pr_ap];exact hap
  ·rw[pr_at];exact hat
theorem ixE0{k:AV→Res}(a:Ex)(l:List Ex):idxK PG .fail 25 (.pv (exs (a::l))) (.pv i0) k=k (.cptr [iv a.kind,sv a.name,iv a.n,iv a.t.kind,sv a.t.name,iv a.t.n,tys a.t.kids,exs a.kids,als a.alts,bds a.binds,iv a.at_]):=idxK_exs (l:=a::l) (i:=0) rfl
theorem ixE1{k:AV→Res}(a b:Ex)(l:List Ex):idxK PG .fail 25 (.pv (exs (a::b::l))) (.pv i1) k=k (.cptr [iv b.kind,sv b.name,iv b.n,iv b.t.kind,sv b.t.name,iv b.t.n,tys b.t.kids,exs b.kids,als b.alts,bds b.binds,iv b.at_]):=idxK_exs (l:=a::b::l) (i:=1) rfl
theorem ixE2{k:AV→Res}(a b c:Ex)(l:List Ex):idxK PG .fail 25 (.pv (exs (a::b::c::l))) (.pv i2) k=k (.cptr [iv c.kind,sv c.name,iv c.n,iv c.t.kind,sv c.t.name,iv c.t.n,tys c.t.kids,exs c.kids,als c.alts,bds c.binds,iv c.at_]):=idxK_exs (l:=a::b::c::l) (i:=2) rfl
theorem open_x(x:Ex):ev (q152 (iv x.kind) (sv x.name) (iv x.n) (iv x.t.kind) (sv x.t.name) (iv x.t.n) (tys x.t.kids) (exs x.kids) (als x.alts) (bds x.binds) (iv x.at_))=some (0,[bv (isOpen x)]):=Evl.of (by
 rw[h152,g152]
 unfold isOpen
 by_cases c6:x.kind=6
 ·simp[c6]
 by_cases c7:x.kind=7
 ·simp[c6,c7]
 by_cases c9:x.kind=9
 ·simp[c6,c7,c9]
 ·simp[c6,c7,c9])
theorem ropen_x(x:Ex):ev (q155 (iv x.kind) (sv x.name) (iv x.n) (iv x.t.kind) (sv x.t.name) (iv x.t.n) (tys x.t.kids) (exs x.kids) (als x.alts) (bds x.binds) (iv x.at_))=some (0,[bv (isOpen x)]):=Evl.of (by
 rw[h155,g155]
 unfold isOpen
 by_cases c6:x.kind=6
 ·simp[c6]
 by_cases c7:x.kind=7
 ·simp[c6,c7]
 by_cases c9:x.kind=9
 ·simp[c6,c7,c9]
 ·simp[c6,c7,c9])
inductive Inf(x a b:Ex):Prop where
 |two (hk:x.kind=10∨x.kind=11) (h:x.kids=[a,b]):Inf x a b
 |app (fn v:Ex) (hk:x.kind=5) (h:x.kids=[fn,b]) (hf:fn.kind=5) (h2:fn.kids=[v,a]) (ho:¬opE x=eB):Inf x a b
theorem inf_of{x:Ex}(hg:x.good=true)(ho:¬opE x=eB):∃a b,Inf x a b:=by
 have hko:x.kind=5∨x.kind=10∨x.kind=11:=by
  apply Decidable.byContradiction
  intro hn
  exact ho (opE_open (by omega))
 obtain⟨a,b,hk⟩:=Ex.good_two hg hko
 by_cases k5:x.kind=5
 ·have h5:x.k0=a:=by unfold Ex.k0;rw[hk];rfl
  have ha5:a.kind=5:=by
   have ho':=ho
   unfold opE at ho'
   rw[if_neg (by omega),if_neg (by omega),h5] at ho'
   by_cases h6:a.kind=5
   ·exact h6
   ·rw[if_neg (fun hh=>h6 hh.2)] at ho'
    exact absurd rfl ho'
  obtain⟨v,u,hk2⟩:=Ex.good_two (Ex.good_kid hg (y:=a) (by rw[hk];simp)) (.inl ha5)
  exact⟨u,b,.app a v k5 hk ha5 hk2 ho⟩
 ·exact⟨a,b,.two (by omega) hk⟩
theorem Inf.mem{x a b:Ex}(h:Inf x a b):(a.size<x.size∧b.size<x.size∧a.size+b.size+9≤x.size)∧(x.good=true→a.good=true∧b.good=true):=by
 have hs:=x.size_eq
 have ht:=x.t.size_pos
 cases h with
 |two hk h=>
  rw[h,sizes2] at hs
  exact⟨by omega,fun hg=>⟨Ex.good_kid hg (by rw[h];simp),Ex.good_kid hg (by rw[h];simp)⟩⟩
 |app fn v hk h hf h2 ho=>
  rw[h,sizes2] at hs
  have hs2:=fn.size_eq
  rw[h2,sizes2] at hs2
  exact⟨by omega,fun hg=>⟨Ex.good_kid (Ex.good_kid hg (y:=fn) (by rw[h];simp)) (by rw[h2];simp),Ex.good_kid hg (by rw[h];simp)⟩⟩
theorem Inf.bT{x a b:Ex}(h:Inf x a b)(fl:Bool)(xs:List Tx)(last:Bool):Go.Proofs.YtkamjbmjjhbjcaaGreatDoor.bT fl x (x.kids.map (pr fl)) xs last=jn (opd fl (pr fl a) (opE x) false false) (jn (tkB (opE x)) (opd fl (pr fl b) (opE x) true last)):=by
 unfold Go.Proofs.YtkamjbmjjhbjcaaGreatDoor.bT
 cases h with
 |two hk h=>
  rw[if_neg,if_neg (by omega),h,kd0,kd1]
  unfold opE
  rcases hk with hk|hk
  ·rw[if_pos hk];decide
  ·rw[if_neg (by omega),if_pos hk];decide
 |app fn v hk h hf h2 ho=>rw[if_neg ho,if_pos hk,h,kd0,kd1,pr_kids,h2,kd1]
theorem opE_nodes{x:Ex}(hz:x.size≤1500000):x.k0.k0.name.size≤1000000000:=by
 have key:∀y:Ex,y.size≤1500000→y.k0.size≤1500000:=by
  intro y hy
  unfold Ex.k0
  cases hk:y.kids with
  |nil=>
   have:dE.size≤1500000:=by decide
   exact this
  |cons a l=>have:=Ex.kid_size (x:=y) (y:=a) (by rw[hk];simp);show a.size≤_;omega
 have h1:=key x.k0 (key x hz)
 have:=x.k0.k0.size_eq
 omega
theorem rinf_x(x:Ex)(hg:x.good=true)(hz:x.size≤1500000):ev (q120 (iv x.kind) (sv x.name) (iv x.n) (iv x.t.kind) (sv x.t.name) (iv x.t.n) (tys x.t.kids) (exs x.kids) (als x.alts) (bds x.binds) (iv x.at_))=some (0,[sv (opE x)]):=Evl.of (by
 have hs:=opE_nodes hz
 rw[h120,g120]
 unfold opE
 by_cases c10:x.kind=10
 ·simp[c10]
 by_cases c11:x.kind=11
 ·simp[c10,c11]
 by_cases c5:x.kind=5
 ·obtain⟨a,b,hk⟩:=Ex.good_two hg (.inl c5)
  have h5:x.k0=a:=by unfold Ex.k0;rw[hk];rfl
  rw[h5] at hs ⊢
  by_cases d5:a.kind=5
  ·obtain⟨v,u,hk2⟩:=Ex.good_two (Ex.good_kid hg (y:=a) (by rw[hk];simp)) (.inl d5)
   have h6:a.k0=v:=by unfold Ex.k0;rw[hk2];rfl
   rw[h6] at hs ⊢
   have hop:=rop_x v.name hs
   unfold opOf
   by_cases v3:v.kind=3
   ·cases ho:Lx.isOpB v.name
    ·rw[ho] at hop
     simp[c10,c11,c5,hk,ixE0,d5,hk2,v3,hop]
    ·rw[ho] at hop
     by_cases n1:v.name=oAnd
     ·simp[c10,c11,c5,hk,ixE0,d5,hk2,v3,hop,eq_true n1]
     ·by_cases n2:v.name=oOr
      ·simp[c10,c11,c5,hk,ixE0,d5,hk2,v3,hop,eq_false n1,eq_true n2]
      ·simp[c10,c11,c5,hk,ixE0,d5,hk2,v3,hop,eq_false n1,eq_false n2]
   ·simp[c10,c11,c5,hk,ixE0,d5,hk2,v3]
  ·simp[c10,c11,c5,hk,ixE0,d5]
 ·simp[c10,c11,c5])
theorem inf_none(x:Ex)(hg:x.good=true)(hz:x.size≤1500000)(hn:opE x=eB):ev (q149 (iv x.kind) (sv x.name) (iv x.n) (iv x.t.kind) (sv x.t.name) (iv x.t.n) (tys x.t.kids) (exs x.kids) (als x.alts) (bds x.binds) (iv x.at_))=some (0,[e0,i0,e0,i0,i0,e0,i0,nS,nS,nS,nS,i0,i0,e0,i0,i0,e0,i0,nS,nS,nS,nS,i0,bf]):=Evl.of (by
 have hs:=opE_nodes hz
 rw[h149,g149]
 unfold opE at hn
 by_cases c10:x.kind=10
 ·rw[if_pos c10] at hn;exact absurd hn (by decide)
 by_cases c11:x.kind=11
 ·rw[if_neg c10,if_pos c11] at hn;exact absurd hn (by decide)
 rw[if_neg c10,if_neg c11] at hn
 by_cases c5:x.kind=5
 ·obtain⟨a,b,hk⟩:=Ex.good_two hg (.inl c5)
  have h5:x.k0=a:=by unfold Ex.k0;rw[hk];rfl
  rw[h5] at hs hn
  by_cases d5:a.kind=5
  ·obtain⟨v,u,hk2⟩:=Ex.good_two (Ex.good_kid hg (y:=a) (by rw[hk];simp)) (.inl d5)
   have h6:a.k0=v:=by unfold Ex.k0;rw[hk2];rfl
   rw[h6] at hs hn
   rw[if_pos ⟨c5,d5⟩] at hn
   have hop:=op_x v.name hs
   unfold opOf at hn
   by_cases v3:v.kind=3
   ·cases ho:Lx.isOpB v.name
    ·rw[ho] at hop
     simp[c10,c11,c5,hk,ixE0,d5,hk2,v3,hop]
    ·rw[ho] at hop hn
     by_cases n1:v.name=oAnd
     ·simp[c10,c11,c5,hk,ixE0,d5,hk2,v3,hop,eq_true n1]
     ·by_cases n2:v.name=oOr
      ·simp[c10,c11,c5,hk,ixE0,d5,hk2,v3,hop,eq_false n1,eq_true n2]
      ·rw[if_pos ⟨v3,rfl,n1,n2⟩] at hn
       rw[hn] at ho
       rw[show Lx.isOpB eB=false by kernel_rfl] at ho
       cases ho
   ·simp[c10,c11,c5,hk,ixE0,d5,hk2,v3]
  ·simp[c10,c11,c5,hk,ixE0,d5]
 ·simp[c10,c11,c5])
theorem inf_some(x a b:Ex)(hg:x.good=true)(hz:x.size≤1500000)(hi:Inf x a b):ev (q149 (iv x.kind) (sv x.name) (iv x.n) (iv x.t.kind) (sv x.t.name) (iv x.t.n) (tys x.t.kids) (exs x.kids) (als x.alts) (bds x.binds) (iv x.at_))=some (0,[sv (opE x),iv a.kind,sv a.name,iv a.n,iv a.t.kind,sv a.t.name,iv a.t.n,tys a.t.kids,exs a.kids,als a.alts,bds a.binds,iv a.at_,iv b.kind,sv b.name,iv b.n,iv b.t.kind,sv b.t.name,iv b.t.n,tys b.t.kids,exs b.kids,als b.alts,bds b.binds,iv b.at_,bt]):=Evl.of (by
 have hs:=opE_nodes hz
 rw[h149,g149]
 cases hi with
 |two hk h=>
  unfold opE
  rcases hk with hk|hk
  ·simp[hk,h,ixE0,ixE1]
  ·simp[hk,h,ixE0,ixE1]
 |app fn v hk h hf h2 ho=>
  have h5:x.k0=fn:=by unfold Ex.k0;rw[h];rfl
  have h6:fn.k0=v:=by unfold Ex.k0;rw[h2];rfl
  rw[h5,h6] at hs
  have hop:=op_x v.name hs
  have e:opE x=opOf v:=by unfold opE;rw[if_neg (by omega),if_neg (by omega),h5,h6,if_pos ⟨hk,hf⟩]
  rw[e] at ho ⊢
  have hv:v.kind=3∧Lx.isOpB v.name=true∧¬v.name=oAnd∧¬v.name=oOr:=by
   apply Decidable.byContradiction
   intro hn
   unfold opOf at ho
   rw[if_neg hn] at ho
   exact ho rfl
  have e2:opOf v=v.name:=by unfold opOf;rw[if_pos hv]
  rw[e2]
  rw[hv.2.1] at hop
  simp[hk,h,ixE0,ixE1,hf,h2,hv.1,hop,eq_false hv.2.2.1,eq_false hv.2.2.2])
theorem pt_pos{p:Pt}(h:p.good=true):0<p.txt.size:=by
 rw[Pt.txt_eq]
 split
 ·decide
 ·split
  ·exact digs_pos _
  ·rename_i k1 k4
   rw[Pt.good_eq] at h
   have:0<p.name.size:=by
    by_cases k3:p.kind=3
    ·rw[if_pos k3] at h
     simp only[Bool.and_eq_true] at h
     exact upB_pos h.2.1
    ·by_cases k2:p.kind=2
     ·rw[if_neg k3,if_neg k1,if_pos k2] at h
      simp only[Bool.and_eq_true] at h
      exact lowB_pos h.2.2.1
     ·rw[if_neg k3,if_neg k1,if_neg k2] at h
      simp only[Bool.and_eq_true,decide_eq_true_eq] at h
      exact absurd h.2.2.1 k4
   rw[ByteArray.size_append]
   omega
theorem pat_ok{p:Pt}(h:p.good=true):Ok p.size (p.txt,p.lev):=by
 have h6:=p.txt_size
 have h7:=p.lev_le
 exact⟨pt_pos h,by show p.txt.size≤_;omega,by show p.lev≤_;omega⟩
theorem al_ok(fl:Bool){a:Al}(hp:a.p.good=true)(he:a.e.good=true):Ok (8*a.size-4) (a.rc fl):=by
 have h3:=ok_part (ok_pr fl a.e.size a.e (Nat.le_refl _) he)
 have h4:8*(pr fl a.e).1.size+1=8*a.e.size+1:=rfl
 rw[h4] at h3
 have h5:=a.size_eq
 have h8:=a.p.size_eq
 rw[a.rc_eq]
 exact((pat_ok hp).jn ((Ok.tkB (m:=1) (s:=sArr) (by decide) (by decide)).jn h3)).mono (by omega)
theorem part_ok(fl:Bool){a:Ex}(h:a.good=true):Ok (8*a.size+1) (part (pr fl a)):=ok_part (ok_pr fl a.size a (Nat.le_refl _) h)
theorem Ok.lt{n:Nat}{x:Tx}(h:Ok n x)(hn:n≤10000000):x.1.size≤640000000∧x.2≤10000000:=by unfold Ok at h;omega
theorem typ_ok{t:Ty}(h:t.good=true):Ok t.size (t.txt,t.lev):=by
 have hts:=t.txt_size
 have htl:=t.lev_le
 have htp:0<t.txt.size:=by
  rw[Ty.txt_eq]
  have hgt':=h
  rw[Ty.good_eq] at hgt'
  simp only[Bool.and_eq_true,decide_eq_true_eq] at hgt'
  by_cases ka:t.name=sArr
  ·rw[if_pos ka]
   have hl:t.kids.length=2:=by
    have h2:=hgt'.2.2
    split at h2
    ·simp only[Bool.and_eq_true] at h2
     rw[ka] at h2
     exact absurd h2.1 (by rw[show Lx.isLowB sArr=false by kernel_rfl];decide)
    ·simp only[Bool.and_eq_true,Bool.or_eq_true,decide_eq_true_eq] at h2
     rcases h2.2 with h3|h3
     ·rw[ka] at h3
      exact absurd h3 (by rw[show Lx.isUpB sArr=false by kernel_rfl];decide)
     ·exact h3.2
   match t.kids,hl with
   |[u,v],_=>
    rw[Ty.arr,ByteArray.size_append,ByteArray.size_append]
    have:sAr.size=4:=rfl
    omega
  ·rw[if_neg ka]
   have:0<t.name.size:=by
    have h2:=hgt'.2.2
    split at h2
    ·simp only[Bool.and_eq_true] at h2
     exact lowB_pos h2.1
    ·simp only[Bool.and_eq_true,Bool.or_eq_true,decide_eq_true_eq] at h2
     rcases h2.2 with h3|h3
     ·exact upB_pos h3
     ·exact absurd h3.1 ka
   rw[ByteArray.size_append]
   omega
 exact⟨htp,by show t.txt.size≤_;omega,by show t.lev≤_;omega⟩
theorem showtype_x(x:Ty)(hz:x.size≤2000000)(hg0:x.good=true):ev (q17 (iv x.kind) (sv x.name) (iv x.n) (tys x.kids))=some (0,[sv x.txt]):=by
 have hg:=p_good 2000000 x hz (Nat.le_refl _)
 have ht:=p_txt 2000000 x hz (Nat.le_refl _)
 unfold PGood at hg
 unfold PTxt at ht
 rw[hg0] at hg
 refine Evl.of ?_
 rw[h17,g17]
 simp[hg,ht hg0]
theorem showpat_x(x:Pt)(hz:x.size≤2000000)(hg0:x.good=true):ev (q16 (iv x.kind) (sv x.name) (iv x.n) (pts x.kids) (iv x.at_))=some (0,[sv x.txt]):=by
 have ht:=p_txtP 2000000 x hz (Nat.le_refl _)
 unfold PTxtP at ht
 rw[if_pos hg0] at ht
 exact ht
theorem D23_t{q:Nat}{args:List PV}{v0 v1 v2 v3 v4 v5 v6 v7 v8 v9 v10 v11 v12 v13 v14 v15 v16 v17 v18 v19 v20 v21 v22:PV}(h:ev ⟨q,args⟩=some (0,[v0,v1,v2,v3,v4,v5,v6,v7,v8,v9,v10,v11,v12,v13,v14,v15,v16,v17,v18,v19,v20,v21,v22,bt]))(X Y:PV→PV→PV→PV→PV→PV→PV→PV→PV→PV→PV→PV→PV→PV→PV→PV→PV→PV→PV→PV→PV→PV→PV→Sm) :
  R.D (T:=Sm) q args 0 0 (R.v23 fun a0 a1 a2 a3 a4 a5 a6 a7 a8 a9 a10 a11 a12 a13 a14 a15 a16 a17 a18 a19 a20 a21 a22=>R.mz [bt] (X a0 a1 a2 a3 a4 a5 a6 a7 a8 a9 a10 a11 a12 a13 a14 a15 a16 a17 a18 a19 a20 a21 a22)) (R.v23 fun a0 a1 a2 a3 a4 a5 a6 a7 a8 a9 a10 a11 a12 a13 a14 a15 a16 a17 a18 a19 a20 a21 a22=>R.mz [bf] (Y a0 a1 a2 a3 a4 a5 a6 a7 a8 a9 a10 a11 a12 a13 a14 a15 a16 a17 a18 a19 a20 a21 a22)) ev=X v0 v1 v2 v3 v4 v5 v6 v7 v8 v9 v10 v11 v12 v13 v14 v15 v16 v17 v18 v19 v20 v21 v22 ev:=by
 have e:R.D (T:=Sm) q args 0 0 (R.v23 fun a0 a1 a2 a3 a4 a5 a6 a7 a8 a9 a10 a11 a12 a13 a14 a15 a16 a17 a18 a19 a20 a21 a22=>R.mz [bt] (X a0 a1 a2 a3 a4 a5 a6 a7 a8 a9 a10 a11 a12 a13 a14 a15 a16 a17 a18 a19 a20 a21 a22)) (R.v23 fun a0 a1 a2 a3 a4 a5 a6 a7 a8 a9 a10 a11 a12 a13 a14 a15 a16 a17 a18 a19 a20 a21 a22=>R.mz [bf] (Y a0 a1 a2 a3 a4 a5 a6 a7 a8 a9 a10 a11 a12 a13 a14 a15 a16 a17 a18 a19 a20 a21 a22)) ev=cA (ev ⟨q,args⟩) 0 0 (fun s=>R.v23 (T:=Sm) (fun a0 a1 a2 a3 a4 a5 a6 a7 a8 a9 a10 a11 a12 a13 a14 a15 a16 a17 a18 a19 a20 a21 a22=>R.mz [bt] (X a0 a1 a2 a3 a4 a5 a6 a7 a8 a9 a10 a11 a12 a13 a14 a15 a16 a17 a18 a19 a20 a21 a22)) ev s) (fun s=>R.v23 (T:=Sm) (fun a0 a1 a2 a3 a4 a5 a6 a7 a8 a9 a10 a11 a12 a13 a14 a15 a16 a17 a18 a19 a20 a21 a22=>R.mz [bf] (Y a0 a1 a2 a3 a4 a5 a6 a7 a8 a9 a10 a11 a12 a13 a14 a15 a16 a17 a18 a19 a20 a21 a22)) ev s):=rfl
 rw[e,h]
 show Res.alt (isK .fail bt bt (cN [] (X v0 v1 v2 v3 v4 v5 v6 v7 v8 v9 v10 v11 v12 v13 v14 v15 v16 v17 v18 v19 v20 v21 v22 ev))) (isK .fail bf bt (cN [] (Y v0 v1 v2 v3 v4 v5 v6 v7 v8 v9 v10 v11 v12 v13 v14 v15 v16 v17 v18 v19 v20 v21 v22 ev)))=_
 simp
theorem D23_f{q:Nat}{args:List PV}{v0 v1 v2 v3 v4 v5 v6 v7 v8 v9 v10 v11 v12 v13 v14 v15 v16 v17 v18 v19 v20 v21 v22:PV}(h:ev ⟨q,args⟩=some (0,[v0,v1,v2,v3,v4,v5,v6,v7,v8,v9,v10,v11,v12,v13,v14,v15,v16,v17,v18,v19,v20,v21,v22,bf]))(X Y:PV→PV→PV→PV→PV→PV→PV→PV→PV→PV→PV→PV→PV→PV→PV→PV→PV→PV→PV→PV→PV→PV→PV→Sm) :
  R.D (T:=Sm) q args 0 0 (R.v23 fun a0 a1 a2 a3 a4 a5 a6 a7 a8 a9 a10 a11 a12 a13 a14 a15 a16 a17 a18 a19 a20 a21 a22=>R.mz [bt] (X a0 a1 a2 a3 a4 a5 a6 a7 a8 a9 a10 a11 a12 a13 a14 a15 a16 a17 a18 a19 a20 a21 a22)) (R.v23 fun a0 a1 a2 a3 a4 a5 a6 a7 a8 a9 a10 a11 a12 a13 a14 a15 a16 a17 a18 a19 a20 a21 a22=>R.mz [bf] (Y a0 a1 a2 a3 a4 a5 a6 a7 a8 a9 a10 a11 a12 a13 a14 a15 a16 a17 a18 a19 a20 a21 a22)) ev=Y v0 v1 v2 v3 v4 v5 v6 v7 v8 v9 v10 v11 v12 v13 v14 v15 v16 v17 v18 v19 v20 v21 v22 ev:=by
 have e:R.D (T:=Sm) q args 0 0 (R.v23 fun a0 a1 a2 a3 a4 a5 a6 a7 a8 a9 a10 a11 a12 a13 a14 a15 a16 a17 a18 a19 a20 a21 a22=>R.mz [bt] (X a0 a1 a2 a3 a4 a5 a6 a7 a8 a9 a10 a11 a12 a13 a14 a15 a16 a17 a18 a19 a20 a21 a22)) (R.v23 fun a0 a1 a2 a3 a4 a5 a6 a7 a8 a9 a10 a11 a12 a13 a14 a15 a16 a17 a18 a19 a20 a21 a22=>R.mz [bf] (Y a0 a1 a2 a3 a4 a5 a6 a7 a8 a9 a10 a11 a12 a13 a14 a15 a16 a17 a18 a19 a20 a21 a22)) ev=cA (ev ⟨q,args⟩) 0 0 (fun s=>R.v23 (T:=Sm) (fun a0 a1 a2 a3 a4 a5 a6 a7 a8 a9 a10 a11 a12 a13 a14 a15 a16 a17 a18 a19 a20 a21 a22=>R.mz [bt] (X a0 a1 a2 a3 a4 a5 a6 a7 a8 a9 a10 a11 a12 a13 a14 a15 a16 a17 a18 a19 a20 a21 a22)) ev s) (fun s=>R.v23 (T:=Sm) (fun a0 a1 a2 a3 a4 a5 a6 a7 a8 a9 a10 a11 a12 a13 a14 a15 a16 a17 a18 a19 a20 a21 a22=>R.mz [bf] (Y a0 a1 a2 a3 a4 a5 a6 a7 a8 a9 a10 a11 a12 a13 a14 a15 a16 a17 a18 a19 a20 a21 a22)) ev s):=rfl
 rw[e,h]
 show Res.alt (isK .fail bt bf (cN [] (X v0 v1 v2 v3 v4 v5 v6 v7 v8 v9 v10 v11 v12 v13 v14 v15 v16 v17 v18 v19 v20 v21 v22 ev))) (isK .fail bf bf (cN [] (Y v0 v1 v2 v3 v4 v5 v6 v7 v8 v9 v10 v11 v12 v13 v14 v15 v16 v17 v18 v19 v20 v21 v22 ev)))=_
 simp
end Go.Proofs.YtkamjbmjjhbjcaaGreatDoor
