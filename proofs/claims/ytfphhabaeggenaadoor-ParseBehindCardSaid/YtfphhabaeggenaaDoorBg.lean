/- Joined texts. -/
import Derived.Test.YtfphhabaeggenaaDoorBf
import Derived.Test.YtfphhabaeggenaaDoorBe
set_option linter.all false
namespace Go.Proofs.YtfphhabaeggenaaDoor
open Go.RowKit
def r1{α:Type}(e:α→PV)(l:List α):PV:=.rows (l.map fun x=>[e x])
theorem r1_ns{α:Type}{e:α→PV}(he:∀x,NS (e x))(l:List α):NS (r1 e l):=.rows _ fun c hc p hp=>by
 obtain⟨x,hx,rfl⟩:=List.mem_map.1 hc
 rw[List.mem_singleton.1 hp];exact he x
section
variable{β:Type}{d:β}{α:Type}{e:α→PV}{t:TypeId}{b:Nat}
theorem lenK_r1{k:AV→β}(ht:SlT PG t 1 b)(l:List α):lenK PG d t (.pv (r1 e l)) k=k (.pv (iv l.length)):=by
 rw[r1,lenK_of (fun _=>len_ok ht _) (nsa_lit _),List.length_map]
theorem idxK_r1{k:AV→β}(ht:SlT PG t 1 b)(he:∀x,NS (e x)){l:List α}{i:Nat}{x:α}(h:l[i]? = some x):idxK PG d t (.pv (r1 e l)) (.pv (.lit (.int .i64 (i:Int)))) k=k (.cptr [e x]):=
 idxK_of (fun _=>idx_ok ht (by rw[List.getElem?_map,h];rfl) rfl) (.cptr _ fun p hp=>by rw[List.mem_singleton.1 hp];exact he x)
theorem appK_r1{k:PV→β}(ht:SlT PG t 1 b)(he:∀x,NS (e x))(hb:b≤100){l:List α}{x:α}(h:l.length≤1000000000):appK PG d t (.pv (r1 e l)) (.pv (.rows [[e x]])) k=k (r1 e (l++[x])):=by
 refine appK_of (fun w=>?_) (r1_ns he _)
 have hbb:(l.length+1)*b≤140737488355328:=Nat.le_trans (Nat.mul_le_mul (show l.length+1≤1000000001 by omega) hb) (by decide)
 rw[r1,app_ok ht (es:=l.map fun x=>[e x]) (es':=[[e x]]) rfl rfl (by simp) (by simp) (by simp;omega) (by simpa using hbb)]
 rw[r1,List.map_append];exact Iff.rfl
theorem appN_r1{k:PV→β}(ht:SlT PG t 1 b)(he:∀x,NS (e x))(hb:b≤100){x:α}:appK PG d t (.pv (.lit (.slice none 0 0))) (.pv (.rows [[e x]])) k=k (r1 e [x]):=by
 refine appK_of (fun w=>?_) (r1_ns he _)
 rw[app_ok ht (es:=[]) (es':=[[e x]]) rfl rfl (by simp) (by simp) (by simp) (by simp;omega)]
 exact Iff.rfl
theorem setK_r1{k:PV→β}(he:∀x,NS (e x)){l:List α}{i:Nat}{x:α}(h:i<l.length):setK d (r1 e l) (.lit (.int .i64 (i:Int))) 0 [e x] k=k (r1 e (l.set i x)):=by
 have hg:(l.map fun x=>[e x]).getD i []=[e l[i]]:=by
  rw[List.getD_eq_getElem?_getD,List.getElem?_map,List.getElem?_eq_getElem h];rfl
 have hs:setAt [e l[i]] 0 [e x]=[e x]:=rfl
 have hset:(l.map fun x=>[e x]).set i [e x]=(l.set i x).map fun x=>[e x]:=by rw[List.map_set]
 refine theK_of (and_iff (fun w=>?_) (r1_ns he _))
 constructor
 ·rintro⟨es,n,kd,g1,g2,g3,g4,g5,rfl,_⟩
  cases g1
  cases g2
  rw[Int.toNat_natCast,hg,hs,hset];rfl
 ·rintro rfl
  refine⟨_,_,_,rfl,rfl,by omega,by rw[Int.toNat_natCast,List.length_map];exact h,?_,?_,nsP_of (r1_ns he _)⟩
  ·rw[Int.toNat_natCast,hg];exact Nat.le_refl 1
  ·rw[Int.toNat_natCast,hg,hs,hset];rfl
theorem mkK_r1{k:PV→β}(ht:SlT PG t 1 b)(he:∀x,NS (e x))(hb:b≤100){z:α}{el:TypeId}(h1:PG.underlying t=some (.slice el))(h2:szA PG el=some 1)(hby:bytesA PG el=some b)(h3:zeroA PG el=some [.pv (e z)]){n:Nat}(h:n≤1000000):mkK PG d t (.pv (iv n)) k=k (r1 e (List.replicate n z)):=by
 have hr:(List.replicate n z).map (fun x=>[e x])=List.replicate n [e z]:=List.map_replicate
 refine theK_of (and_iff (fun w=>?_) (r1_ns he _))
 constructor
 ·rintro⟨e',sz,by_,zc,z',m,g1,g2,g3,g4,g5,g6,g7,g8,g9,g10,rfl,_⟩
  rw[h1] at g1
  cases g1
  rw[h3] at g4
  cases g4
  have hz:z'=[e z]:=by
   have:toPVs [AV.pv (e z)]=some [e z]:=rfl
   rw[this] at g5;exact(Option.some.inj g5).symm
  have hm:m=n:=by
   have:intV (.pv (iv n))=some (n:Int):=rfl
   rw[this] at g8
   have:=Option.some.inj g8
   omega
  rw[hz,hm,r1,hr]
 ·rintro rfl
  refine⟨el,1,b,[.pv (e z)],[e z],n,h1,h2,hby,h3,rfl,Nat.one_pos,rfl,rfl,?_,?_,by rw[r1,hr],nsP_of (r1_ns he _)⟩
  ·exact Nat.le_trans h (by decide)
  ·exact Nat.le_trans (Nat.mul_le_mul h hb) (by decide)
end
theorem slcZ_r1{β:Type}{d:β}{α:Type}{e:α→PV}{t:TypeId}{b:Nat}{k:AV→β}(ht:SlT PG t 1 b)(he:∀x,NS (e x)){l:List α}{i:Nat}(h:i≤l.length):slcK PG d t (.pv (r1 e l)) (some (.pv (.lit (.int .i64 0)))) (some (.pv (.lit (.int .i64 (i:Int))))) k=k (.pv (r1 e (l.take i))):=
 slcK_of (slc_one (by
  have:=slc_to ht (es:=l.map fun x=>[e x]) (m:=i) (by simpa using h)
  rw[←List.map_take] at this
  intro ρ lo m h1 h2
  cases lo with
  |none=>exact h1.elim
  |some z=>exact(sliceA_zero h1).trans (this ρ none m trivial h2))) (.pv _ (r1_ns he _))
def eN(n:Nat):PV:=iv n
theorem eN_ns(x:Nat):NS (eN x):=.lit _
def nvs(l:List Nat):PV:=r1 eN l
theorem sl_i:SlT PG 89 1 8:=SlT.of (by kernel_rfl)
section
variable{β:Type}{d:β}{k:AV→β}{kp:PV→β}
@[simp] theorem len_nvs(l:List Nat):lenK PG d 89 (.pv (nvs l)) k=k (.pv (iv l.length)):=lenK_r1 sl_i l
theorem idx_nvs{l:List Nat}{i x:Nat}(h:l[i]? = some x):idxK PG d 89 (.pv (nvs l)) (.pv (.lit (.int .i64 (i:Int)))) k=k (.cptr [iv x]):=idxK_r1 sl_i eN_ns h
theorem set_nvs{l:List Nat}{i x:Nat}(h:i<l.length):setK d (nvs l) (.lit (.int .i64 (i:Int))) 0 [.lit (.int .i64 (x:Int))] kp=kp (nvs (l.set i x)):=setK_r1 eN_ns h
theorem app_nvs{l:List Nat}{x:Nat}(h:l.length≤1000000000):appK PG d 89 (.pv (nvs l)) (.pv (.rows [[.lit (.int .i64 (x:Int))]])) kp=kp (nvs (l++[x])):=appK_r1 sl_i eN_ns (by decide) h
theorem apn_nvs{x:Nat}:appK PG d 89 (.pv (.lit (.slice none 0 0))) (.pv (.rows [[.lit (.int .i64 (x:Int))]])) kp=kp (nvs [x]):=appN_r1 sl_i eN_ns (by decide)
theorem take_nvs{l:List Nat}{i:Nat}(h:i≤l.length):slcK PG d 89 (.pv (nvs l)) (some (.pv (.lit (.int .i64 0)))) (some (.pv (.lit (.int .i64 (i:Int))))) k=k (.pv (nvs (l.take i))):=slcZ_r1 sl_i eN_ns h
theorem mk_nvs{n:Nat}(h:n≤1000000):mkK PG d 89 (.pv (iv n)) kp=kp (nvs (List.replicate n 0)):=mkK_r1 (z:=0) sl_i eN_ns (by decide) (el:=3) (by kernel_rfl) (by kernel_rfl) (by kernel_rfl) (by kernel_rfl) h
end
section
variable(V:Nat→Nat)
def lst(f:Nat):Nat→Nat
 |0=>f
 |k+1=>if V (f+1+k)<V (lst f k)∨V (f+1+k)=V (lst f k)∧sidF (V (lst f k))=1 then f+1+k else lst f k
theorem lastF_lst(f to:Nat):∀(n k:Nat),to-(f+1+k)≤n→f+1+k≤to→lastF V to n (f+1+k) (lst V f k)=lst V f (to-f-1)
 |0,k,h1,h2=>by
  have:to-f-1=k:=by omega
  rw[lastF,this]
 |n+1,k,h1,h2=>by
  rw[lastF]
  by_cases h:f+1+k<to
  ·rw[if_pos h]
   have:=lastF_lst f to n (k+1) (by omega) (by omega)
   rw[lst] at this
   exact this
  ·rw[if_neg h]
   have:to-f-1=k:=by omega
   rw[this]
theorem lst_in(f:Nat):∀k,f≤lst V f k∧lst V f k≤f+k
 |0=>by simp[lst]
 |k+1=>by
  have:=lst_in f k
  rw[lst]
  split<;>omega
theorem last_in{f to:Nat}(h:f<to):f≤lst V f (to-f-1)∧lst V f (to-f-1)<to:=by
 have:=lst_in V f (to-f-1);omega
theorem last_eq{f to:Nat}(h:f<to):lastF V to to (f+1) f=lst V f (to-f-1):=lastF_lst V f to to 0 (by omega) (by omega)
theorem lst_hi(f:Nat):∀k j,lst V f k<j→j≤f+k→V (lst V f k)<V j∨V (lst V f k)=V j∧sidF (V j)≠1
 |0,j,h1,h2=>by simp[lst] at h1;omega
 |k+1,j,h1,h2=>by
  rw[lst] at h1 ⊢
  split at h1
  ·omega
  ·rename_i hc
   rw[if_neg hc]
   by_cases hj:j=f+1+k
   ·subst hj
    rcases Nat.lt_trichotomy (V (lst V f k)) (V (f+1+k)) with h|h|h
    ·exact .inl h
    ·refine .inr ⟨h,fun h3=>hc (.inr ⟨h.symm,by rw[h];exact h3⟩)⟩
    ·exact absurd (.inl h) hc
   ·exact lst_hi f k j h1 (by omega)
def postF:Nat→Nat→Nat→List Nat
 |0,_,_=>[]
 |n+1,f,to=>if f=to then [] else postF n f (lst V f (to-f-1))++postF n (lst V f (to-f-1)+1) to++[lst V f (to-f-1)]
theorem postF_n:∀(n m f to:Nat),f≤to→to-f≤n→to-f≤m→postF V n f to=postF V m f to
 |0,0,f,to,h,h1,h2=>rfl
 |0,m+1,f,to,h,h1,h2=>by
  obtain rfl:f=to:=by omega
  simp[postF]
 |n+1,0,f,to,h,h1,h2=>by
  obtain rfl:f=to:=by omega
  simp[postF]
 |n+1,m+1,f,to,h,h1,h2=>by
  rw[postF,postF]
  by_cases hf:f=to
  ·simp[hf]
  ·have:=last_in V (f:=f) (to:=to) (by omega)
   rw[if_neg hf,if_neg hf,postF_n n m f _ (by omega) (by omega) (by omega),postF_n n m _ to (by omega) (by omega) (by omega)]
def pst(f to:Nat):List Nat:=postF V (to-f) f to
theorem pst_nil(f:Nat):pst V f f=[]:=by unfold pst;simp[postF]
theorem pst_eq{f to:Nat}(h:f<to):pst V f to=pst V f (lst V f (to-f-1))++pst V (lst V f (to-f-1)+1) to++[lst V f (to-f-1)]:=by
 have hl:=last_in V h
 unfold pst
 obtain⟨n,hn⟩:∃n,to-f=n+1:=⟨to-f-1,by omega⟩
 rw[hn,postF,if_neg (by omega)]
 rw[hn] at hl
 rw[hn,postF_n V n _ f _ (by omega) (by omega) (Nat.le_refl _),postF_n V n _ _ to (by omega) (by omega) (Nat.le_refl _)]
def spn:Nat→Nat→Nat→List Nat
 |0,_,_=>[]
 |n+1,f,to=>if f=to then [] else spn n (lst V f (to-f-1)+1) to++[lst V f (to-f-1)]
def ous:Nat→Nat→Nat→List Nat
 |0,_,_=>[]
 |n+1,f,to=>if f=to then [] else pst V f (lst V f (to-f-1))++ous n (lst V f (to-f-1)+1) to
theorem ous_spn:∀(n f to:Nat),f≤to→to-f≤n→ous V n f to++spn V n f to=pst V f to
 |0,f,to,h,h1=>by
  obtain rfl:f=to:=by omega
  simp[ous,spn,pst_nil]
 |n+1,f,to,h,h1=>by
  rw[ous,spn]
  by_cases hf:f=to
  ·subst hf;simp[pst_nil]
  ·have hl:=last_in V (f:=f) (to:=to) (by omega)
   have ih:=ous_spn n (lst V f (to-f-1)+1) to (by omega) (by omega)
   rw[if_neg hf,if_neg hf,pst_eq V (f:=f) (to:=to) (by omega),←ih]
   simp
def popF(i:Nat):List Nat→List Nat→Option (List Nat×List Nat)
 |[],out=>some ([],out)
 |t::st,out=>if V t<V i∨V t=V i∧sidF (V i)=2 then some (t::st,out) else if V t=V i∧sidF (V i)=0 then none else popF i st (out++[t])
def orderF(len:Nat):Nat→Nat→List Nat→List Nat→Except Nat (List Nat)
 |0,i,st,out=>.ok (out++st)
 |n+1,i,st,out=>if i<len then(match popF V i st out with
  |none=>.error i
  |some (st',out')=>orderF len n (i+1) (i::st') out') else .ok (out++st)
theorem popF_app(i:Nat):∀(a b out:List Nat),(∀t∈a,V i<V t∨V t=V i∧sidF (V i)=1)→popF V i (a++b) out=popF V i b (out++a)
 |[],b,out,h=>by simp
 |t::a,b,out,h=>by
  have ht:=h t (by simp)
  have h1:¬(V t<V i∨V t=V i∧sidF (V i)=2):=by rcases ht with ht|⟨h1,h2⟩<;>rintro (h3|⟨h3,h4⟩)<;>omega
  have h2:¬(V t=V i∧sidF (V i)=0):=by rcases ht with ht|⟨h1,h2⟩<;>rintro⟨h3,h4⟩<;>omega
  rw[List.cons_append,popF,if_neg h1,if_neg h2,popF_app i a b _ (fun t' h'=>h t' (by simp[h']))]
  simp
theorem spn_in:∀(n f to:Nat),f≤to→to-f≤n→∀t∈spn V n f to,f≤t∧t<to
 |0,f,to,h,h1,t,ht=>by simp[spn] at ht
 |n+1,f,to,h,h1,t,ht=>by
  rw[spn] at ht
  by_cases hf:f=to
  ·simp[hf] at ht
  ·have hl:=last_in V (f:=f) (to:=to) (by omega)
   rw[if_neg hf] at ht
   rcases List.mem_append.1 ht with ht|ht
   ·have:=spn_in n _ to (by omega) (by omega) t ht;omega
   ·rw[List.mem_singleton.1 ht];omega
theorem sid4{k:Nat}(h:sidF k=0):k=4:=by
 unfold sidF at h
 split at h
 ·assumption
 ·split at h<;>omega
theorem sid_cases(k:Nat):sidF k=0∨sidF k=1∨sidF k=2:=by
 unfold sidF
 split
 ·simp
 ·split<;>simp
theorem spn_hi(i:Nat):∀(n f:Nat),f<i→i-f≤n→(V i<V (lst V f (i-f-1))∨V i=V (lst V f (i-f-1))∧sidF (V i)=1)→∀t∈spn V n f i,V i<V t∨V t=V i∧sidF (V i)=1:=by
 intro n f hf hn hb t ht
 have hin:=spn_in V n f i (by omega) hn t ht
 by_cases h:t=lst V f (i-f-1)
 ·subst h;rcases hb with hb|⟨h1,h2⟩
  ·exact .inl hb
  ·exact .inr ⟨h1.symm,h2⟩
 ·by_cases h2:lst V f (i-f-1)<t
  ·have:=lst_hi V f (i-f-1) t h2 (by omega)
   rcases hb with hb|⟨h1,h3⟩
   ·rcases this with h4|⟨h4,_⟩<;>exact .inl (by omega)
   ·rcases this with h4|⟨h4,h5⟩
    ·exact .inl (by omega)
    ·rw[←h4,←h1] at h5;exact absurd h3 h5
  ·exfalso
   obtain⟨n,rfl⟩:∃k,n=k+1:=⟨n-1,by omega⟩
   rw[spn,if_neg (by omega)] at ht
   have hl:=last_in V hf
   rcases List.mem_append.1 ht with ht|ht
   ·have:=spn_in V n _ i (by omega) (by omega) t ht;omega
   ·exact h (List.mem_singleton.1 ht)
theorem spn_z(n f:Nat):spn V n f f=[]:=by cases n<;>simp[spn]
theorem ous_z(n f:Nat):ous V n f f=[]:=by cases n<;>simp[ous]
theorem spn_s(n:Nat){f to s:Nat}(h:f<to)(hs:lst V f (to-f-1)=s):spn V (n+1) f to=spn V n (s+1) to++[s]:=by rw[spn,if_neg (by omega),hs]
theorem ous_s(n:Nat){f to s:Nat}(h:f<to)(hs:lst V f (to-f-1)=s):ous V (n+1) f to=pst V f s++ous V n (s+1) to:=by rw[ous,if_neg (by omega),hs]
theorem lst_one(f:Nat):lst V f (f+1-f-1)=f:=by rw[show f+1-f-1=0 by omega];rfl
theorem lst_step{f i:Nat}(h:f<i):lst V f (i+1-f-1)=if V i<V (lst V f (i-f-1))∨V i=V (lst V f (i-f-1))∧sidF (V (lst V f (i-f-1)))=1 then i else lst V f (i-f-1):=by
 obtain⟨k,hk⟩:∃k,i-f-1=k:=⟨_,rfl⟩
 have e1:i+1-f-1=k+1:=by omega
 have e2:f+1+k=i:=by omega
 rw[hk,e1,lst,e2]
theorem pop_step(i:Nat):∀(n f:Nat) (rest out:List Nat),f≤i→i-f≤n→∃st' P,spn V (n+1) f (i+1)=i::st'∧ous V n f i++P=ous V (n+1) f (i+1)∧
  popF V i (spn V n f i++rest) out=(match st' with
   |[]=>popF V i rest (out++P)
   |t::_=>if V t=V i∧sidF (V i)=0 then none else some (st'++rest,out++P)):=by
 intro n
 induction n with
 |zero=>
  intro f rest out hf hn
  have:f=i:=by omega
  subst this
  exact⟨[],[],by rw[spn_s V 0 (Nat.lt_succ_self f) (lst_one V f),spn_z];rfl,by rw[ous_s V 0 (Nat.lt_succ_self f) (lst_one V f),ous_z,ous_z,pst_nil],by simp[spn]⟩
 |succ n ih=>
  intro f rest out hf hn
  by_cases hfi:f=i
  ·subst hfi
   exact⟨[],[],by rw[spn_s V (n+1) (Nat.lt_succ_self f) (lst_one V f),spn_z];rfl,by rw[ous_s V (n+1) (Nat.lt_succ_self f) (lst_one V f),ous_z,ous_z,pst_nil],by simp[spn]⟩
  ·have hl:=last_in V (f:=f) (to:=i) (by omega)
   have hs:=lst_step V (f:=f) (i:=i) (by omega)
   by_cases hb:V i<V (lst V f (i-f-1))∨V i=V (lst V f (i-f-1))∧sidF (V (lst V f (i-f-1)))=1
   ·rw[if_pos hb] at hs
    have hb':V i<V (lst V f (i-f-1))∨V i=V (lst V f (i-f-1))∧sidF (V i)=1:=by
     rcases hb with hb|⟨h1,h2⟩
     ·exact .inl hb
     ·exact .inr ⟨h1,by rw[h1];exact h2⟩
    refine⟨[],spn V (n+1) f i,?_,?_,?_⟩
    ·rw[spn_s V (n+1) (by omega) hs,spn_z];rfl
    ·rw[ous_spn V (n+1) f i hf hn,ous_s V (n+1) (by omega) hs,ous_z];simp
    ·exact popF_app V i _ _ _ (spn_hi V i (n+1) f (by omega) hn hb')
   ·rw[if_neg hb] at hs
    obtain⟨st',P,c1,c2,c3⟩:=ih (lst V f (i-f-1)+1) (lst V f (i-f-1)::rest) out (by omega) (by omega)
    refine⟨st'++[lst V f (i-f-1)],P,?_,?_,?_⟩
    ·rw[spn_s V (n+1) (by omega) hs,c1];rfl
    ·rw[ous_s V n (by omega) rfl,ous_s V (n+1) (by omega) hs,←c2];simp
    ·have e1:spn V (n+1) f i++rest=spn V n (lst V f (i-f-1)+1) i++(lst V f (i-f-1)::rest):=by rw[spn_s V n (by omega) rfl];simp
     rw[e1,c3]
     cases st' with
     |cons t st'=>simp
     |nil=>
      simp only[List.nil_append]
      rw[popF]
      by_cases h1:V (lst V f (i-f-1))<V i∨V (lst V f (i-f-1))=V i∧sidF (V i)=2
      ·rw[if_pos h1,if_neg (by rintro⟨h3,h4⟩;rcases h1 with h1|⟨_,h1⟩<;>omega)];rfl
      ·rw[if_neg h1]
       by_cases h2:V (lst V f (i-f-1))=V i∧sidF (V i)=0
       ·rw[if_pos h2,if_pos h2]
       ·exfalso
        rcases Nat.lt_trichotomy (V i) (V (lst V f (i-f-1))) with h|h|h
        ·exact hb (.inl h)
        ·rcases sid_cases (V i) with h5|h5|h5
         ·exact h2 ⟨h.symm,h5⟩
         ·exact hb (.inr ⟨h,by rw[←h];exact h5⟩)
         ·exact h1 (.inr ⟨h.symm,h5⟩)
        ·exact h1 (.inl h)
theorem lst_lo(f:Nat):∀k j,f≤j→j<lst V f k→V (lst V f k)<V j∨V (lst V f k)=V j∧sidF (V (lst V f k))=1
 |0,j,h1,h2=>by simp[lst] at h2;omega
 |k+1,j,h1,h2=>by
  have hin:=lst_in V f k
  rw[lst] at h2 ⊢
  split at h2
  ·rename_i hc
   rw[if_pos hc]
   have key:∀j,f≤j→j≤f+k→V (lst V f k)<V j∨V (lst V f k)=V j:=fun j h1 h2=>by
    rcases Nat.lt_trichotomy j (lst V f k) with h|h|h
    ·rcases lst_lo f k j h1 h with h|⟨h,_⟩
     ·exact .inl h
     ·exact .inr h
    ·exact .inr (by rw[h])
    ·rcases lst_hi V f k j h h2 with h|⟨h,_⟩
     ·exact .inl h
     ·exact .inr h
   rcases hc with hc|⟨hc,hs⟩
   ·rcases key j h1 (by omega) with h|h<;>exact .inl (by omega)
   ·rcases key j h1 (by omega) with h|h
    ·exact .inl (by omega)
    ·exact .inr ⟨by omega,by rw[hc];exact hs⟩
  ·rename_i hc
   rw[if_neg hc]
   exact lst_lo f k j h1 h2
def BackOk(f i:Nat):List Nat→Prop
 |[]=>∀j,f≤j→j<i→V i<V j∨V i=V j∧sidF (V i)=1
 |t::_=>f≤t∧t<i∧(V t<V i∨V t=V i∧sidF (V i)≠1)∧∀j,t<j→j<i→V i<V j∨V i=V j∧sidF (V i)=1
theorem st_back(i:Nat):∀(n f:Nat) (st':List Nat),f≤i→i-f≤n→spn V (n+1) f (i+1)=i::st'→BackOk V f i st':=by
 intro n
 induction n with
 |zero=>
  intro f st' hf hn h
  obtain rfl:f=i:=by omega
  rw[spn_s V 0 (Nat.lt_succ_self f) (lst_one V f),spn_z] at h
  cases h
  exact fun j h1 h2=>by omega
 |succ n ih=>
  intro f st' hf hn h
  by_cases hfi:f=i
  ·subst hfi
   rw[spn_s V (n+1) (Nat.lt_succ_self f) (lst_one V f),spn_z] at h
   cases h
   exact fun j h1 h2=>by omega
  ·have hl:=last_in V (f:=f) (to:=i) (by omega)
   have hs:=lst_step V (f:=f) (i:=i) (by omega)
   by_cases hb:V i<V (lst V f (i-f-1))∨V i=V (lst V f (i-f-1))∧sidF (V (lst V f (i-f-1)))=1
   ·rw[if_pos hb] at hs
    rw[spn_s V (n+1) (by omega) hs,spn_z] at h
    cases h
    intro j h1 h2
    have key:V (lst V f (i-f-1))<V j∨V (lst V f (i-f-1))=V j:=by
     rcases Nat.lt_trichotomy j (lst V f (i-f-1)) with h|h|h
     ·rcases lst_lo V f _ j h1 h with h|⟨h,_⟩
      ·exact .inl h
      ·exact .inr h
     ·exact .inr (by rw[h])
     ·rcases lst_hi V f _ j h (by omega) with h|⟨h,_⟩
      ·exact .inl h
      ·exact .inr h
    rcases hb with hb|⟨hb,hc⟩
    ·rcases key with h|h<;>exact .inl (by omega)
    ·rcases key with h|h
     ·exact .inl (by omega)
     ·exact .inr ⟨by omega,by rw[hb];exact hc⟩
   ·rw[if_neg hb] at hs
    obtain⟨st2,P,c1,_,_⟩:=pop_step V i n (lst V f (i-f-1)+1) [] [] (by omega) (by omega)
    have h5:=ih _ st2 (by omega) (by omega) c1
    rw[spn_s V (n+1) (by omega) hs,c1] at h
    have h6:st'=st2++[lst V f (i-f-1)]:=by simpa using h.symm
    subst h6
    cases st2 with
    |cons t r=>exact⟨by have:=h5.1;omega,h5.2.1,h5.2.2.1,h5.2.2.2⟩
    |nil=>
     refine⟨by omega,by omega,?_,fun j h1 h2=>h5 j (by omega) h2⟩
     rcases Nat.lt_trichotomy (V i) (V (lst V f (i-f-1))) with h|h|h
     ·exact absurd (.inl h) hb
     ·exact .inr ⟨h.symm,fun h7=>hb (.inr ⟨h,by rw[←h];exact h7⟩)⟩
     ·exact .inl h
theorem bck_dn(V:Nat→Nat):∀(i t:Nat),t≤i→(∀j,t≤j→j<i→4<V j)→bckF V i=bckF V t
 |0,t,h,_=>by
  obtain rfl:t=0:=by omega
  rfl
 |i+1,t,h,hj=>by
  by_cases ht:t=i+1
  ·rw[ht]
  ·rw[bckF,if_pos (hj i (by omega) (by omega))]
   exact bck_dn V i t (by omega) fun j h1 h2=>hj j h1 (by omega)
theorem clash_nil(i:Nat)(h:spn V (i+1) 0 (i+1)=[i]):¬(V i=4∧bckF V i=true):=by
 rintro⟨h4,hb⟩
 have hk:=st_back V i i 0 [] (Nat.zero_le _) (by omega) h
 have hs:sidF (V i)=0:=by rw[h4];rfl
 rw[bck_dn V i 0 (Nat.zero_le _) fun j h1 h2=>by rcases hk j h1 h2 with h|⟨h,h5⟩<;>omega] at hb
 cases hb
theorem clash_cons(i t:Nat)(r:List Nat)(h:spn V (i+1) 0 (i+1)=i::t::r):(V t=V i∧sidF (V i)=0)↔(V i=4∧bckF V i=true):=by
 obtain⟨h0,h1,h2,h3⟩:=st_back V i i 0 (t::r) (Nat.zero_le _) (by omega) h
 by_cases h4:V i=4
 ·have hs:sidF (V i)=0:=by rw[h4];rfl
  have hb:bckF V i=decide (V t=4):=by
   rw[bck_dn V i (t+1) (by omega) fun j h5 h6=>by rcases h3 j (by omega) h6 with h|⟨h,h7⟩<;>omega]
   rw[bckF,if_neg (by rcases h2 with h|⟨h,_⟩<;>omega)]
  rw[hb,decide_eq_true_eq]
  constructor
  ·rintro⟨h5,_⟩;exact⟨h4,by omega⟩
  ·rintro⟨_,h5⟩;exact⟨by omega,hs⟩
 ·constructor
  ·rintro⟨_,h5⟩;exact absurd (sid4 h5) h4
  ·rintro⟨h5,_⟩;exact absurd h5 h4
theorem order_eq(len:Nat):∀(n i:Nat),i≤len→len-i≤n→orderF V len n i (spn V i 0 i) (ous V i 0 i)=match clashF V len n i with
  |some k=>.error k
  |none=>.ok (pst V 0 len)
 |0,i,h,h1=>by
  obtain rfl:i=len:=by omega
  rw[orderF,clashF]
  simp only
  rw[ous_spn V i 0 i (Nat.zero_le _) (by omega)]
 |n+1,i,h,h1=>by
  rw[orderF,clashF]
  by_cases hi:i<len
  ·rw[if_pos hi,if_pos hi]
   obtain⟨st',P,c1,c2,c3⟩:=pop_step V i i 0 [] (ous V i 0 i) (Nat.zero_le _) (by omega)
   rw[List.append_nil] at c3
   rw[c3]
   have ih:=order_eq len n (i+1) (by omega) (by omega)
   cases st' with
   |nil=>
    rw[if_neg (clash_nil V i c1)]
    simp only[popF]
    rw[←ih,c1,c2]
   |cons t r=>
    simp only
    by_cases hc:V t=V i∧sidF (V i)=0
    ·rw[if_pos hc,if_pos ((clash_cons V i t r c1).1 hc)]
    ·rw[if_neg hc,if_neg (fun h=>hc ((clash_cons V i t r c1).2 h))]
     simp only[List.append_nil]
     rw[←ih,c1,c2]
  ·obtain rfl:i=len:=by omega
   rw[if_neg hi,if_neg hi]
   simp only
   rw[ous_spn V i 0 i (Nat.zero_le _) (by omega)]
end
end Go.Proofs.YtfphhabaeggenaaDoor
namespace Go.Proofs.YtfphhabaeggenaaDoor
open Go.RowKit
inductive Rt(F:Nat→Nat):Nat→Nat→Prop where
 |here (a:Nat) (h:F a=a):Rt F a a
 |go (j a:Nat) (h:F j≠j) (r:Rt F (F j) a):Rt F j a
def upd{α:Type}(F:Nat→α)(x:Nat)(v:α):Nat→α:=fun j=>if j=x then v else F j
theorem upd_eq{α:Type}(F:Nat→α)(x:Nat)(v:α):upd F x v x=v:=if_pos rfl
theorem upd_ne{α:Type}(F:Nat→α){x j:Nat}(v:α)(h:j≠x):upd F x v j=F j:=if_neg h
inductive Run(ops:List Tk):List Nat→(Nat→Nat)→(Nat→Ex)→(Nat→Nat)→(Nat→Ex)→Prop where
 |nil (F:Nat→Nat) (A:Nat→Ex):Run ops [] F A F A
 |cons (i a:Nat) (r:List Nat) (F F':Nat→Nat) (A A':Nat→Ex) (h:Rt F i a) (hr:Run ops r (upd F (i+1) a) (upd A a (opE (opAt ops i) (A a) (A (i+1)))) F' A'):Run ops (i::r) F A F' A'
theorem Run.app{ops:List Tk}{r r2:List Nat}{F F1 F2:Nat→Nat}{A A1 A2:Nat→Ex}(h1:Run ops r F A F1 A1)(h2:Run ops r2 F1 A1 F2 A2):Run ops (r++r2) F A F2 A2:=by
 induction h1 with
 |nil=>exact h2
 |cons i a r F F' A A' h hr ih=>exact .cons i a _ _ _ _ _ h (ih h2)
def Seg(F:Nat→Nat)(f to:Nat):Prop:=∀j,f≤j→j≤to→f≤F j∧F j≤to∧Rt F j f
theorem Rt.keep{F F':Nat→Nat}{f to:Nat}(hs:∀j,f≤j→j≤to→f≤F j∧F j≤to)(he:∀j,f≤j→j≤to→F' j=F j){j a:Nat}(h:Rt F j a):f≤j→j≤to→Rt F' j a:=by
 induction h with
 |here a h=>intro h1 h2;exact .here a (by rw[he a h1 h2];exact h)
 |go j a h r ih=>
  intro h1 h2
  have:=hs j h1 h2
  exact .go j a (by rw[he j h1 h2];exact h) (by rw[he j h1 h2];exact ih this.1 this.2)
theorem Rt.root{F:Nat→Nat}{j a:Nat}(h:Rt F j a):F a=a:=by
 induction h with
 |here a h=>exact h
 |go j a h r ih=>exact ih
theorem Rt.tie{F F':Nat→Nat}{f s to:Nat}(hs:∀j,s≤j→j≤to→s≤F j∧F j≤to)(he:∀j,s<j→j≤to→F' j=F j)(hx:F' s=f)(hne:f≠s)(hf:F' f=f){j a:Nat}(h:Rt F j a):a=s→s≤j→j≤to→Rt F' j f:=by
 induction h with
 |here a h=>
  intro h0 h1 h2
  subst h0
  exact .go a f (by rw[hx];exact hne) (by rw[hx];exact .here f hf)
 |go j a h r ih=>
  intro h0 h1 h2
  have h3:=hs j h1 h2
  by_cases hj:j=s
  ·subst hj
   exact .go j f (by rw[hx];exact hne) (by rw[hx];exact .here f hf)
  ·exact .go j f (by rw[he j (by omega) h2];exact h) (by rw[he j (by omega) h2];exact ih h0 h3.1 h3.2)
theorem run_pst(l:List Ex)(ops:List Tk):∀(m f to:Nat) (F:Nat→Nat) (A:Nat→Ex),f≤to→to-f≤m→(∀j,f≤j→j≤to→F j=j∧A j=exAt l j)→∃F' A',Run ops (pst (vlv ops) f to) F A F' A'∧Seg F' f to∧A' f=buildF l ops m f to∧∀j,(j<f∨to<j)→F' j=F j∧A' j=A j:=by
 intro m
 induction m with
 |zero=>
  intro f to F A hf hm h
  obtain rfl:f=to:=by omega
  rw[pst_nil]
  refine⟨F,A,.nil _ _,fun j h1 h2=>?_,?_,fun j _=>⟨rfl,rfl⟩⟩
  ·obtain rfl:j=f:=by omega
   have:=(h j h1 h2).1
   exact⟨by omega,by omega,.here j this⟩
  ·rw[buildF];exact(h f (by omega) (by omega)).2
 |succ m ih=>
  intro f to F A hf hm h
  by_cases hft:f=to
  ·subst hft
   rw[pst_nil]
   refine⟨F,A,.nil _ _,fun j h1 h2=>?_,?_,fun j _=>⟨rfl,rfl⟩⟩
   ·obtain rfl:j=f:=by omega
    have:=(h j h1 h2).1
    exact⟨by omega,by omega,.here j this⟩
   ·rw[buildF,if_pos rfl];exact(h f (by omega) (by omega)).2
  ·have hlt:f<to:=by omega
   have hl:=last_in (vlv ops) hlt
   have he:=last_eq (vlv ops) hlt
   rw[pst_eq (vlv ops) hlt]
   generalize lst (vlv ops) f (to-f-1)=s at *
   obtain⟨F1,A1,r1,s1,b1,o1⟩:=ih f s F A hl.1 (by omega) (fun j h1 h2=>h j h1 (by omega))
   obtain⟨F2,A2,r2,s2,b2,o2⟩:=ih (s+1) to F1 A1 (by omega) (by omega) (fun j h1 h2=>by
    obtain⟨z1,z2⟩:=o1 j (.inr (by omega))
    rw[z1,z2];exact h j (by omega) h2)
   have e1:∀j,f≤j→j≤s→F2 j=F1 j∧A2 j=A1 j:=fun j h1 h2=>o2 j (.inl (by omega))
   have k1:Rt F2 s f:=(s1 s hl.1 (Nat.le_refl _)).2.2.keep (fun j h1 h2=>⟨(s1 j h1 h2).1,(s1 j h1 h2).2.1⟩) (fun j h1 h2=>(e1 j h1 h2).1) hl.1 (Nat.le_refl _)
   have hroot:=k1.root
   refine⟨upd F2 (s+1) f,upd A2 f (opE (opAt ops s) (A2 f) (A2 (s+1))),(r1.app r2).app (.cons s f [] _ _ _ _ k1 (.nil _ _)),?_,?_,?_⟩
   ·intro j h1 h2
    by_cases hj:j≤s
    ·have z:=s1 j h1 hj
     have zz:upd F2 (s+1) f j=F1 j:=by rw[upd_ne _ _ (by omega)];exact(e1 j h1 hj).1
     rw[zz]
     refine⟨z.1,by omega,z.2.2.keep (fun j h1 h2=>⟨(s1 j h1 h2).1,(s1 j h1 h2).2.1⟩) (fun j h1 h2=>?_) h1 hj⟩
     rw[upd_ne _ _ (by omega)];exact(e1 j h1 h2).1
    ·have z:=s2 j (by omega) h2
     have hff:upd F2 (s+1) f f=f:=by rw[upd_ne _ _ (by omega)];exact hroot
     have ht:=z.2.2.tie (F':=upd F2 (s+1) f) (f:=f) (fun j h1 h2=>⟨(s2 j h1 h2).1,(s2 j h1 h2).2.1⟩) (fun j h1 h2=>upd_ne _ _ (by omega)) (upd_eq _ _ _) (by omega) hff rfl (by omega) h2
     by_cases hjs:j=s+1
     ·subst hjs;rw[upd_eq];exact⟨Nat.le_refl _,by omega,ht⟩
     ·rw[upd_ne _ _ hjs];exact⟨by omega,z.2.1,ht⟩
   ·rw[upd_eq,buildF,if_neg hft]
    simp only
    rw[he,(e1 f (Nat.le_refl _) hl.1).2,b1,b2]
   ·intro j hj
    rw[upd_ne _ _ (by omega),upd_ne _ _ (by omega)]
    have z1:=o1 j (by omega)
    have z2:=o2 j (by omega)
    exact⟨z2.1.trans z1.1,z2.2.trans z1.2⟩
set_option maxRecDepth 10000
section
variable{l:List ByteArray}(hl:l.length≤1000000){i:Nat}
theorem p_lv{t:Nat}(h:t<l.length):ev (q49 (sv l[t]))=some (0,[iv (txV l t:Nat),iv (sidF (txV l t):Nat)]):=by
 have:txV l t=lvlF l[t]:=by unfold txV;rw[List.getElem?_eq_getElem h];rfl
 rw[this];exact p_level _
theorem rev_get(t:Nat)(st:List Nat):(st.reverse++[t])[st.length]? = some t:=by rw[List.getElem?_append_right (by simp)];simp
theorem popF_cons(V:Nat→Nat)(i t:Nat)(st out:List Nat):popF V i (t::st) out=if V t<V i∨V t=V i∧sidF (V i)=2 then some (t::st,out) else if V t=V i∧sidF (V i)=0 then none else popF V i st (out++[t]):=by rw[popF]
include hl
theorem down_d:∀(st out:List Nat),(∀t∈st,t<l.length)→st.length+out.length≤l.length→
  ev (q27b2d (strs l) (iv (txV l i:Nat)) (iv (sidF (txV l i):Nat)) (iv i) (iv i) (iv l.length) (strs l) (nvs st.reverse) (nvs out))=some (match popF (txV l) i st out with
   |some r=>(2,[nvs r.1.reverse,nvs r.2,iv i,iv i,iv l.length,strs l,strs l])
   |none=>(3,[nS,iv i,iv 112]))
 |[],out,h,hb=>Evl.of (by rw[h27b2d,g27b2d];simp[popF])
 |t::st,out,h,hb=>by
  have ht:=h t (by simp)
  have ih:=down_d st (out++[t]) (fun x hx=>h x (by simp[hx])) (by simp at hb ⊢;omega)
  refine Evl.of ?_
  rw[h27b2d,g27b2d]
  have e0:IntKind.i64.wrap (st.length:Int)=(st.length:Int):=wrap_id (by simp at hb;omega)
  have hx:=fun k'=>idxK_strs (d:=Res.fail) (k:=k') (List.getElem?_eq_getElem ht)
  have hk:=fun k'=>idx_nvs (d:=Res.fail) (k:=k') (rev_get t st)
  have hap:=fun k'=>app_nvs (d:=Res.fail) (kp:=k') (l:=out) (x:=t) (by simp at hb;omega)
  have htk:=fun k'=>take_nvs (d:=Res.fail) (k:=k') (l:=st.reverse++[t]) (i:=st.length) (by simp)
  have htt:(st.reverse++[t]).take st.length=st.reverse:=by rw[List.take_append_of_le_length (by simp)];exact List.take_of_length_le (by simp)
  rw[htt] at htk
  have hp:=p_lv (l:=l) ht
  rw[popF_cons]
  by_cases h1:txV l t<txV l i
  ·rw[if_pos (.inl h1),List.reverse_cons]
   simp[e0,hk,hx,hp,h1]
  ·by_cases h2:txV l t=txV l i
   ·rcases sid_cases (txV l i) with h3|h3|h3
    ·rw[if_neg (by rintro (h|⟨_,h⟩)<;>omega),if_pos ⟨h2,h3⟩,List.reverse_cons]
     simp[e0,hk,hx,hp,eq_false h1,eq_true (show ((txV l t:Nat):Int)=((txV l i:Nat):Int) by rw[h2]),eq_false (show ¬((sidF (txV l i):Nat):Int)=2 by omega),eq_true h3]
    ·rw[if_neg (by rintro (h|⟨_,h⟩)<;>omega),if_neg (by rintro⟨_,h⟩;omega),List.reverse_cons]
     simp[e0,hk,hx,hp,eq_false h1,eq_true (show ((txV l t:Nat):Int)=((txV l i:Nat):Int) by rw[h2]),eq_false (show ¬((sidF (txV l i):Nat):Int)=2 by omega),eq_false (show ¬sidF (txV l i)=0 by omega),hap,htk,ih]
    ·rw[if_pos (.inr ⟨h2,h3⟩),List.reverse_cons]
     simp[e0,hk,hx,hp,eq_false h1,eq_true (show ((txV l t:Nat):Int)=((txV l i:Nat):Int) by rw[h2]),eq_true (show ((sidF (txV l i):Nat):Int)=2 by omega)]
   ·rw[if_neg (by rintro (h|⟨h,_⟩)<;>omega),if_neg (by rintro⟨h,_⟩;omega),List.reverse_cons]
    simp[e0,hk,hx,hp,eq_false h1,eq_false (show ¬((txV l t:Nat):Int)=((txV l i:Nat):Int) by omega),hap,htk,ih]
theorem down_e:∀(st out:List Nat),(∀t∈st,t<l.length)→st.length+out.length≤l.length→
  ev (q27b2e (strs l) (iv (txV l i:Nat)) (iv (sidF (txV l i):Nat)) (iv i) (iv i) (iv l.length) (strs l) (nvs st.reverse) (nvs out))=some (match popF (txV l) i st out with
   |some r=>(2,[nvs r.1.reverse,nvs r.2,iv i,iv i,iv l.length,strs l,strs l])
   |none=>(3,[nS,iv i,iv 112]))
 |[],out,h,hb=>Evl.of (by rw[h27b2e,g27b2e];simp[popF])
 |t::st,out,h,hb=>by
  have ht:=h t (by simp)
  have ih:=down_e st (out++[t]) (fun x hx=>h x (by simp[hx])) (by simp at hb ⊢;omega)
  refine Evl.of ?_
  rw[h27b2e,g27b2e]
  have e0:IntKind.i64.wrap (st.length:Int)=(st.length:Int):=wrap_id (by simp at hb;omega)
  have hx:=fun k'=>idxK_strs (d:=Res.fail) (k:=k') (List.getElem?_eq_getElem ht)
  have hk:=fun k'=>idx_nvs (d:=Res.fail) (k:=k') (rev_get t st)
  have hap:=fun k'=>app_nvs (d:=Res.fail) (kp:=k') (l:=out) (x:=t) (by simp at hb;omega)
  have htk:=fun k'=>take_nvs (d:=Res.fail) (k:=k') (l:=st.reverse++[t]) (i:=st.length) (by simp)
  have htt:(st.reverse++[t]).take st.length=st.reverse:=by rw[List.take_append_of_le_length (by simp)];exact List.take_of_length_le (by simp)
  rw[htt] at htk
  have hp:=p_lv (l:=l) ht
  rw[popF_cons]
  by_cases h1:txV l t<txV l i
  ·rw[if_pos (.inl h1),List.reverse_cons]
   simp[e0,hk,hx,hp,h1]
  ·by_cases h2:txV l t=txV l i
   ·rcases sid_cases (txV l i) with h3|h3|h3
    ·rw[if_neg (by rintro (h|⟨_,h⟩)<;>omega),if_pos ⟨h2,h3⟩,List.reverse_cons]
     simp[e0,hk,hx,hp,eq_false h1,eq_true (show ((txV l t:Nat):Int)=((txV l i:Nat):Int) by rw[h2]),eq_false (show ¬((sidF (txV l i):Nat):Int)=2 by omega),eq_true h3]
    ·rw[if_neg (by rintro (h|⟨_,h⟩)<;>omega),if_neg (by rintro⟨_,h⟩;omega),List.reverse_cons]
     simp[e0,hk,hx,hp,eq_false h1,eq_true (show ((txV l t:Nat):Int)=((txV l i:Nat):Int) by rw[h2]),eq_false (show ¬((sidF (txV l i):Nat):Int)=2 by omega),eq_false (show ¬sidF (txV l i)=0 by omega),hap,htk,ih]
    ·rw[if_pos (.inr ⟨h2,h3⟩),List.reverse_cons]
     simp[e0,hk,hx,hp,eq_false h1,eq_true (show ((txV l t:Nat):Int)=((txV l i:Nat):Int) by rw[h2]),eq_true (show ((sidF (txV l i):Nat):Int)=2 by omega)]
   ·rw[if_neg (by rintro (h|⟨h,_⟩)<;>omega),if_neg (by rintro⟨h,_⟩;omega),List.reverse_cons]
    simp[e0,hk,hx,hp,eq_false h1,eq_false (show ¬((txV l t:Nat):Int)=((txV l i:Nat):Int) by omega),hap,htk,ih]
omit hl in
theorem popF_in(V:Nat→Nat)(i:Nat):∀(st out:List Nat) {r:List Nat×List Nat},popF V i st out=some r→(∀t∈r.1,t∈st)∧r.1.length+r.2.length=st.length+out.length
 |[],out,r,h=>by rw[popF] at h;cases h;simp
 |t::st,out,r,h=>by
  rw[popF] at h
  split at h
  ·cases h;simp
  ·split at h
   ·cases h
   ·have:=popF_in V i st _ h
    exact⟨fun x hx=>List.mem_cons_of_mem _ (this.1 x hx),by simp at this ⊢;omega⟩
def okDb(l:List ByteArray)(i:Nat)(st:List Nat)(z:Rs):Option (List Nat×List Nat)→Prop
 |none=>z=(1,[nvs st.reverse,nS,iv i,iv 112])∨z=(3,[nS,iv i,iv 112])
 |some r=>r=(st,[])∧z=(0,[nvs st.reverse,iv i,iv i,iv l.length,strs l,strs l,nS])∨z=(2,[nvs r.1.reverse,nvs r.2,iv i,iv i,iv l.length,strs l,strs l])
def okDc(l:List ByteArray)(i:Nat)(st out:List Nat)(z:Rs):Option (List Nat×List Nat)→Prop
 |none=>z=(1,[nvs st.reverse,nvs out,nS,iv i,iv 112])∨z=(3,[nS,iv i,iv 112])
 |some r=>r=(st,out)∧z=(0,[nvs st.reverse,nvs out,iv i,iv i,iv l.length,strs l,strs l])∨z=(2,[nvs r.1.reverse,nvs r.2,iv i,iv i,iv l.length,strs l,strs l])
theorem down_b:∀(st out:List Nat),(∀t∈st,t<l.length)→st.length+out.length≤l.length→∃z,ev (q27b2b (strs l) (iv (txV l i:Nat)) (iv (sidF (txV l i):Nat)) (iv i) (iv i) (iv l.length) (strs l) (nvs st.reverse))=some z∧okDb l i st z (popF (txV l) i st [])
 |[],out,h,hb=>⟨_,Evl.of (by rw[h27b2b,g27b2b];simp),.inl ⟨rfl,rfl⟩⟩
 |t::st,out,h,hb=>by
  have ht:=h t (by simp)
  have e0:IntKind.i64.wrap (st.length:Int)=(st.length:Int):=wrap_id (by simp at hb;omega)
  have hx:=fun k'=>idxK_strs (d:=Res.fail) (k:=k') (List.getElem?_eq_getElem ht)
  have hk:=fun k'=>idx_nvs (d:=Res.fail) (k:=k') (rev_get t st)
  have htk:=fun k'=>take_nvs (d:=Res.fail) (k:=k') (l:=st.reverse++[t]) (i:=st.length) (by simp)
  have htt:(st.reverse++[t]).take st.length=st.reverse:=by rw[List.take_append_of_le_length (by simp)];exact List.take_of_length_le (by simp)
  rw[htt] at htk
  have hp:=p_lv (l:=l) ht
  have hap:=fun k'=>apn_nvs (d:=Res.fail) (kp:=k') (x:=t)
  have hn:=down_d (i:=i) hl st ([t]) (fun x hx=>h x (by simp[hx])) (by simp at hb ⊢;omega)
  rw[popF_cons]
  try rw[List.nil_append]
  by_cases h1:txV l t<txV l i
  ·rw[if_pos (.inl h1)]
   exact⟨_,Evl.of (by rw[h27b2b,g27b2b];rw[List.reverse_cons];simp[e0,hk,hx,hp,h1];rfl),.inl ⟨rfl,by rw[List.reverse_cons]⟩⟩
  ·by_cases h2:txV l t=txV l i
   ·rcases sid_cases (txV l i) with h3|h3|h3
    ·rw[if_neg (by rintro (h|⟨_,h⟩)<;>omega),if_pos ⟨h2,h3⟩]
     exact⟨_,Evl.of (by rw[h27b2b,g27b2b];rw[List.reverse_cons];simp[e0,hk,hx,hp,eq_false h1,eq_true (show ((txV l t:Nat):Int)=((txV l i:Nat):Int) by rw[h2]),eq_false (show ¬((sidF (txV l i):Nat):Int)=2 by omega),eq_true h3];rfl),.inl (by rw[List.reverse_cons])⟩
    ·rw[if_neg (by rintro (h|⟨_,h⟩)<;>omega),if_neg (by rintro⟨_,h⟩;omega)]
     cases hr:popF (txV l) i st ([t]) with
     |none=>rw[hr] at hn;exact⟨_,Evl.of (by rw[h27b2b,g27b2b];rw[List.reverse_cons];simp[e0,hk,hx,hp,eq_false h1,eq_true (show ((txV l t:Nat):Int)=((txV l i:Nat):Int) by rw[h2]),eq_false (show ¬((sidF (txV l i):Nat):Int)=2 by omega),eq_false (show ¬sidF (txV l i)=0 by omega),hap,htk,hn]),.inr rfl⟩
     |some r=>rw[hr] at hn;exact⟨_,Evl.of (by rw[h27b2b,g27b2b];rw[List.reverse_cons];simp[e0,hk,hx,hp,eq_false h1,eq_true (show ((txV l t:Nat):Int)=((txV l i:Nat):Int) by rw[h2]),eq_false (show ¬((sidF (txV l i):Nat):Int)=2 by omega),eq_false (show ¬sidF (txV l i)=0 by omega),hap,htk,hn]),.inr rfl⟩
    ·rw[if_pos (.inr ⟨h2,h3⟩)]
     exact⟨_,Evl.of (by rw[h27b2b,g27b2b];rw[List.reverse_cons];simp[e0,hk,hx,hp,eq_false h1,eq_true (show ((txV l t:Nat):Int)=((txV l i:Nat):Int) by rw[h2]),eq_true (show ((sidF (txV l i):Nat):Int)=2 by omega)];rfl),.inl ⟨rfl,by rw[List.reverse_cons]⟩⟩
   ·rw[if_neg (by rintro (h|⟨h,_⟩)<;>omega),if_neg (by rintro⟨h,_⟩;omega)]
    cases hr:popF (txV l) i st ([t]) with
    |none=>rw[hr] at hn;exact⟨_,Evl.of (by rw[h27b2b,g27b2b];rw[List.reverse_cons];simp[e0,hk,hx,hp,eq_false h1,eq_false (show ¬((txV l t:Nat):Int)=((txV l i:Nat):Int) by omega),hap,htk,hn]),.inr rfl⟩
    |some r=>rw[hr] at hn;exact⟨_,Evl.of (by rw[h27b2b,g27b2b];rw[List.reverse_cons];simp[e0,hk,hx,hp,eq_false h1,eq_false (show ¬((txV l t:Nat):Int)=((txV l i:Nat):Int) by omega),hap,htk,hn]),.inr rfl⟩
theorem down_c:∀(st out:List Nat),(∀t∈st,t<l.length)→st.length+out.length≤l.length→∃z,ev (q27b2c (strs l) (iv (txV l i:Nat)) (iv (sidF (txV l i):Nat)) (iv i) (iv i) (iv l.length) (strs l) (nvs st.reverse) (nvs out))=some z∧okDc l i st out z (popF (txV l) i st out)
 |[],out,h,hb=>⟨_,Evl.of (by rw[h27b2c,g27b2c];simp),.inl ⟨rfl,rfl⟩⟩
 |t::st,out,h,hb=>by
  have ht:=h t (by simp)
  have e0:IntKind.i64.wrap (st.length:Int)=(st.length:Int):=wrap_id (by simp at hb;omega)
  have hx:=fun k'=>idxK_strs (d:=Res.fail) (k:=k') (List.getElem?_eq_getElem ht)
  have hk:=fun k'=>idx_nvs (d:=Res.fail) (k:=k') (rev_get t st)
  have htk:=fun k'=>take_nvs (d:=Res.fail) (k:=k') (l:=st.reverse++[t]) (i:=st.length) (by simp)
  have htt:(st.reverse++[t]).take st.length=st.reverse:=by rw[List.take_append_of_le_length (by simp)];exact List.take_of_length_le (by simp)
  rw[htt] at htk
  have hp:=p_lv (l:=l) ht
  have hap:=fun k'=>app_nvs (d:=Res.fail) (kp:=k') (l:=out) (x:=t) (by simp at hb;omega)
  have hn:=down_e (i:=i) hl st (out++[t]) (fun x hx=>h x (by simp[hx])) (by simp at hb ⊢;omega)
  rw[popF_cons]
  try rw[List.nil_append]
  by_cases h1:txV l t<txV l i
  ·rw[if_pos (.inl h1)]
   exact⟨_,Evl.of (by rw[h27b2c,g27b2c];rw[List.reverse_cons];simp[e0,hk,hx,hp,h1];rfl),.inl ⟨rfl,by rw[List.reverse_cons]⟩⟩
  ·by_cases h2:txV l t=txV l i
   ·rcases sid_cases (txV l i) with h3|h3|h3
    ·rw[if_neg (by rintro (h|⟨_,h⟩)<;>omega),if_pos ⟨h2,h3⟩]
     exact⟨_,Evl.of (by rw[h27b2c,g27b2c];rw[List.reverse_cons];simp[e0,hk,hx,hp,eq_false h1,eq_true (show ((txV l t:Nat):Int)=((txV l i:Nat):Int) by rw[h2]),eq_false (show ¬((sidF (txV l i):Nat):Int)=2 by omega),eq_true h3];rfl),.inl (by rw[List.reverse_cons])⟩
    ·rw[if_neg (by rintro (h|⟨_,h⟩)<;>omega),if_neg (by rintro⟨_,h⟩;omega)]
     cases hr:popF (txV l) i st (out++[t]) with
     |none=>rw[hr] at hn;exact⟨_,Evl.of (by rw[h27b2c,g27b2c];rw[List.reverse_cons];simp[e0,hk,hx,hp,eq_false h1,eq_true (show ((txV l t:Nat):Int)=((txV l i:Nat):Int) by rw[h2]),eq_false (show ¬((sidF (txV l i):Nat):Int)=2 by omega),eq_false (show ¬sidF (txV l i)=0 by omega),hap,htk,hn]),.inr rfl⟩
     |some r=>rw[hr] at hn;exact⟨_,Evl.of (by rw[h27b2c,g27b2c];rw[List.reverse_cons];simp[e0,hk,hx,hp,eq_false h1,eq_true (show ((txV l t:Nat):Int)=((txV l i:Nat):Int) by rw[h2]),eq_false (show ¬((sidF (txV l i):Nat):Int)=2 by omega),eq_false (show ¬sidF (txV l i)=0 by omega),hap,htk,hn]),.inr rfl⟩
    ·rw[if_pos (.inr ⟨h2,h3⟩)]
     exact⟨_,Evl.of (by rw[h27b2c,g27b2c];rw[List.reverse_cons];simp[e0,hk,hx,hp,eq_false h1,eq_true (show ((txV l t:Nat):Int)=((txV l i:Nat):Int) by rw[h2]),eq_true (show ((sidF (txV l i):Nat):Int)=2 by omega)];rfl),.inl ⟨rfl,by rw[List.reverse_cons]⟩⟩
   ·rw[if_neg (by rintro (h|⟨h,_⟩)<;>omega),if_neg (by rintro⟨h,_⟩;omega)]
    cases hr:popF (txV l) i st (out++[t]) with
    |none=>rw[hr] at hn;exact⟨_,Evl.of (by rw[h27b2c,g27b2c];rw[List.reverse_cons];simp[e0,hk,hx,hp,eq_false h1,eq_false (show ¬((txV l t:Nat):Int)=((txV l i:Nat):Int) by omega),hap,htk,hn]),.inr rfl⟩
    |some r=>rw[hr] at hn;exact⟨_,Evl.of (by rw[h27b2c,g27b2c];rw[List.reverse_cons];simp[e0,hk,hx,hp,eq_false h1,eq_false (show ¬((txV l t:Nat):Int)=((txV l i:Nat):Int) by omega),hap,htk,hn]),.inr rfl⟩
theorem ord_c:∀(n i:Nat) (st out:List Nat),i≤l.length→l.length-i≤n→(∀t∈st,t<i)→st.length+out.length≤i→
  match orderF (txV l) l.length n i st out with
  |.error k=>ev (q27b0c (iv i) (iv l.length) (strs l) (strs l) (nvs st.reverse) (nvs out))=some (0,[nS,iv k,iv 112])
  |.ok r=>∃st' out',r=out'++st'∧st'.length+out'.length≤l.length∧ev (q27b0c (iv i) (iv l.length) (strs l) (strs l) (nvs st.reverse) (nvs out))=some (3,[nvs st'.reverse,nvs out']):=by
 intro n
 induction n with
 |zero=>
  intro i st out hi hn hs hb
  rw[orderF]
  exact⟨st,out,rfl,by omega,Evl.of (by rw[h27b0c,g27b0c];simp[show ¬i<l.length by omega])⟩
 |succ n ih=>
  intro i st out hi hn hs hb
  rw[orderF]
  by_cases h:i<l.length
  ·rw[if_pos h]
   have e1:IntKind.i64.wrap ((i:Int)+1)=((i+1:Nat):Int):=by rw[wrap_id (by omega)];omega
   have hx:=fun k'=>idxK_strs (d:=Res.fail) (k:=k') (List.getElem?_eq_getElem h)
   have hp:=p_lv (l:=l) h
   obtain⟨z,g1,g2⟩:=down_c (i:=i) hl st out (fun t ht=>by have:=hs t ht;omega) (by omega)
   cases hr:popF (txV l) i st out with
   |none=>
    rw[hr] at g2
    rcases g2 with rfl|rfl
    ·exact Evl.of (by rw[h27b0c,g27b0c];simp[-Int.natCast_add,h,hx,hp,g1])
    ·exact Evl.of (by rw[h27b0c,g27b0c];simp[-Int.natCast_add,h,hx,hp,g1])
   |some r=>
    have hin:=popF_in _ _ _ _ hr
    obtain⟨st1,out1⟩:=r
    have hn:=ih (i+1) (i::st1) out1 (by omega) (by omega) (fun t ht=>by
     rcases List.mem_cons.1 ht with rfl|ht
     ·omega
     ·have:=hs t (hin.1 t ht);omega) (by have:=hin.2;simp at this ⊢;omega)
    rw[List.reverse_cons] at hn
    have hap:=fun k'=>app_nvs (d:=Res.fail) (kp:=k') (l:=st1.reverse) (x:=i) (by have:=hin.2;simp at this ⊢;omega)
    have key:∀z,ev (q27b0c (iv (i+1:Nat)) (iv l.length) (strs l) (strs l) (nvs (st1.reverse++[i])) (nvs out1))=some z→(z.1=0∨z.1=3)→ev (q27b0c (iv i) (iv l.length) (strs l) (strs l) (nvs st.reverse) (nvs out))=some z:=by
     rintro⟨k,ys⟩ hz hk
     rw[hr] at g2
     refine Evl.of ?_
     rcases g2 with⟨g3,rfl⟩|rfl
     ·cases g3
      rcases hk with rfl|rfl
      ·rw[h27b0c,g27b0c];simp[-Int.natCast_add,h,hx,hp,g1,hap,e1,hz]
      ·rw[h27b0c,g27b0c];simp[-Int.natCast_add,h,hx,hp,g1,hap,e1,hz]
     ·rcases hk with rfl|rfl
      ·rw[h27b0c,g27b0c];simp[-Int.natCast_add,h,hx,hp,g1,hap,e1,hz]
      ·rw[h27b0c,g27b0c];simp[-Int.natCast_add,h,hx,hp,g1,hap,e1,hz]
    simp only
    cases ho:orderF (txV l) l.length n (i+1) (i::st1) out1 with
    |error k=>rw[ho] at hn;exact key _ hn (.inl rfl)
    |ok r=>
     rw[ho] at hn
     obtain⟨st',out',c1,c2,c3⟩:=hn
     exact⟨st',out',c1,c2,key _ c3 (.inr rfl)⟩
  ·rw[if_neg h]
   exact⟨st,out,rfl,by omega,Evl.of (by rw[h27b0c,g27b0c];simp[h])⟩
theorem ord_b:∀(n i:Nat) (st:List Nat),i≤l.length→l.length-i≤n→(∀t∈st,t<i)→st.length≤i→
  match orderF (txV l) l.length n i st [] with
  |.error k=>ev (q27b0b (iv i) (iv l.length) (strs l) (strs l) (nvs st.reverse))=some (0,[nS,iv k,iv 112])
  |.ok r=>∃st' out',r=out'++st'∧st'.length+out'.length≤l.length∧(out'=[]∧ev (q27b0b (iv i) (iv l.length) (strs l) (strs l) (nvs st.reverse))=some (2,[nvs st'.reverse,nS])∨ev (q27b0b (iv i) (iv l.length) (strs l) (strs l) (nvs st.reverse))=some (3,[nvs st'.reverse,nvs out'])):=by
 intro n
 induction n with
 |zero=>
  intro i st hi hn hs hb
  rw[orderF]
  exact⟨st,[],rfl,by simp;omega,.inl ⟨rfl,Evl.of (by rw[h27b0b,g27b0b];simp[show ¬i<l.length by omega])⟩⟩
 |succ n ih=>
  intro i st hi hn hs hb
  rw[orderF]
  by_cases h:i<l.length
  ·rw[if_pos h]
   have e1:IntKind.i64.wrap ((i:Int)+1)=((i+1:Nat):Int):=by rw[wrap_id (by omega)];omega
   have hx:=fun k'=>idxK_strs (d:=Res.fail) (k:=k') (List.getElem?_eq_getElem h)
   have hp:=p_lv (l:=l) h
   obtain⟨z,g1,g2⟩:=down_b (i:=i) hl st [] (fun t ht=>by have:=hs t ht;omega) (by simp;omega)
   cases hr:popF (txV l) i st [] with
   |none=>
    rw[hr] at g2
    rcases g2 with rfl|rfl
    ·exact Evl.of (by rw[h27b0b,g27b0b];simp[-Int.natCast_add,h,hx,hp,g1])
    ·exact Evl.of (by rw[h27b0b,g27b0b];simp[-Int.natCast_add,h,hx,hp,g1])
   |some r=>
    have hin:=popF_in _ _ _ _ hr
    obtain⟨st1,out1⟩:=r
    have hs2:∀t∈i::st1,t<i+1:=fun t ht=>by
     rcases List.mem_cons.1 ht with rfl|ht
     ·omega
     ·have:=hs t (hin.1 t ht);omega
    have hap:=fun k'=>app_nvs (d:=Res.fail) (kp:=k') (l:=st1.reverse) (x:=i) (by have:=hin.2;simp at this ⊢;omega)
    rw[hr] at g2
    simp only
    rcases g2 with⟨g3,rfl⟩|rfl
    ·cases g3
     have hn:=ih (i+1) (i::st) (by omega) (by omega) hs2 (by simp;omega)
     rw[List.reverse_cons] at hn
     cases ho:orderF (txV l) l.length n (i+1) (i::st) [] with
     |error k=>rw[ho] at hn;exact Evl.of (by rw[h27b0b,g27b0b];simp[-Int.natCast_add,h,hx,hp,g1,hap,e1,hn])
     |ok r=>
      rw[ho] at hn
      obtain⟨st',out',c1,c2,⟨c3,c4⟩|c4⟩:=hn
      ·exact⟨st',out',c1,c2,.inl ⟨c3,Evl.of (by rw[h27b0b,g27b0b];simp[-Int.natCast_add,h,hx,hp,g1,hap,e1,c4])⟩⟩
      ·exact⟨st',out',c1,c2,.inr (Evl.of (by rw[h27b0b,g27b0b];simp[-Int.natCast_add,h,hx,hp,g1,hap,e1,c4]))⟩
    ·have hn:=ord_c hl n (i+1) (i::st1) out1 (by omega) (by omega) hs2 (by have:=hin.2;simp at this ⊢;omega)
     rw[List.reverse_cons] at hn
     cases ho:orderF (txV l) l.length n (i+1) (i::st1) out1 with
     |error k=>rw[ho] at hn;exact Evl.of (by rw[h27b0b,g27b0b];simp[-Int.natCast_add,h,hx,hp,g1,hap,e1,hn])
     |ok r=>
      rw[ho] at hn
      obtain⟨st',out',c1,c2,c4⟩:=hn
      exact⟨st',out',c1,c2,.inr (Evl.of (by rw[h27b0b,g27b0b];simp[-Int.natCast_add,h,hx,hp,g1,hap,e1,c4]))⟩
  ·rw[if_neg h]
   exact⟨st,[],rfl,by simp;omega,.inl ⟨rfl,Evl.of (by rw[h27b0b,g27b0b];simp[h])⟩⟩
theorem ord_a:match orderF (txV l) l.length l.length 0 [] [] with
  |.error k=>ev (q27b0a (iv 0) (iv l.length) (strs l) (strs l))=some (0,[nS,iv k,iv 112])
  |.ok r=>∃st' out',r=out'++st'∧st'.length+out'.length≤l.length∧(r=[]∧ev (q27b0a (iv 0) (iv l.length) (strs l) (strs l))=some (1,[nS,nS])∨out'=[]∧ev (q27b0a (iv 0) (iv l.length) (strs l) (strs l))=some (2,[nvs st'.reverse,nS])∨ev (q27b0a (iv 0) (iv l.length) (strs l) (strs l))=some (3,[nvs st'.reverse,nvs out'])):=by
 by_cases h:0<l.length
 ·obtain⟨n,hn⟩:∃n,l.length=n+1:=⟨l.length-1,by omega⟩
  have hx:∀k',idxK PG Res.fail 23 (.pv (strs l)) (.pv (iv 0)) k'=k' (.cptr [sv l[0]]):=fun k'=>idxK_strs (d:=Res.fail) (k:=k') (List.getElem?_eq_getElem h)
  have hp:=p_lv (l:=l) h
  have hz:ev (q27b2a (strs l) (iv (txV l 0:Nat)) (iv (sidF (txV l 0):Nat)) (iv 0) (iv 0) (iv l.length) (strs l))=some (0,[nS,iv 0,iv 0,iv l.length,strs l,strs l,nS]):=Evl.of (by rw[h27b2a,g27b2a];simp)
  have hap:=fun k'=>apn_nvs (d:=Res.fail) (kp:=k') (x:=0)
  have hn2:=ord_b hl n 1 [0] (by omega) (by omega) (by simp) (by simp)
  have e:orderF (txV l) l.length l.length 0 [] []=orderF (txV l) l.length n 1 [0] []:=by
   conv=>lhs;arg 3;rw[hn]
   rw[orderF,if_pos h];rfl
  rw[e]
  have w1:IntKind.i64.wrap 1=1:=wrap_id (by decide)
  have hap:∀k',appK PG Res.fail 89 (.pv (.lit (.slice none 0 0))) (.pv (.rows [[iv 0]])) k'=k' (nvs [0]):=hap
  simp only[List.reverse_cons,List.reverse_nil,List.nil_append,Int.natCast_one] at hn2
  cases ho:orderF (txV l) l.length n 1 [0] [] with
  |error k=>rw[ho] at hn2;exact Evl.of (by rw[h27b0a,g27b0a];simp[h,hx,hp,hz,hap,w1,hn2])
  |ok r=>
   rw[ho] at hn2
   obtain⟨st',out',c1,c2,⟨c3,c4⟩|c4⟩:=hn2
   ·exact⟨st',out',c1,c2,.inr (.inl ⟨c3,Evl.of (by rw[h27b0a,g27b0a];simp[h,hx,hp,hz,hap,w1,c4])⟩)⟩
   ·exact⟨st',out',c1,c2,.inr (.inr (Evl.of (by rw[h27b0a,g27b0a];simp[h,hx,hp,hz,hap,w1,c4])))⟩
 ·have hz:l.length=0:=by omega
  have e:orderF (txV l) l.length l.length 0 [] []=.ok []:=by rw[hz];rfl
  rw[e]
  exact⟨[],[],rfl,by simp,.inl ⟨rfl,Evl.of (by rw[h27b0a,g27b0a];simp[hz])⟩⟩
theorem tail_h:∀(rest done out:List Nat),rest.length+out.length≤l.length→ev (q27b5h (iv ((rest.length:Int)-1)) (nvs (rest.reverse++done)) (nvs out))=some (1,[nvs (rest.reverse++done),nvs (out++rest)])
 |[],done,out,h=>Evl.of (by rw[h27b5h,g27b5h];simp)
 |t::rest,done,out,h=>by
  have ih:=tail_h rest (t::done) (out++[t]) (by simp at h ⊢;omega)
  have e0:IntKind.i64.wrap ((rest.length:Int)-1)=(rest.length:Int)-1:=wrap_id (by simp at h;omega)
  have hk:=fun k'=>idx_nvs (d:=Res.fail) (k:=k') (l:=rest.reverse++t::done) (i:=rest.length) (x:=t) (by rw[List.getElem?_append_right (by simp)];simp)
  have hap:=fun k'=>app_nvs (d:=Res.fail) (kp:=k') (l:=out) (x:=t) (by simp at h;omega)
  have e2:((t::rest).length:Int)-1=(rest.length:Int):=by simp
  refine Evl.of ?_
  rw[e2,List.reverse_cons,List.append_assoc,List.singleton_append]
  rw[List.append_assoc,List.singleton_append] at ih
  rw[h27b5h,g27b5h]
  simp[e0,hk,hap,ih]
theorem tail_g:∀(rest done out:List Nat),rest.length+out.length≤l.length→ev (q27b5g (iv ((rest.length:Int)-1)) (nvs (rest.reverse++done)) (nvs out))=some (3,[nvs (rest.reverse++done),nvs (out++rest)])
 |[],done,out,h=>Evl.of (by rw[h27b5g,g27b5g];simp)
 |t::rest,done,out,h=>by
  have ih:=tail_g rest (t::done) (out++[t]) (by simp at h ⊢;omega)
  have e0:IntKind.i64.wrap ((rest.length:Int)-1)=(rest.length:Int)-1:=wrap_id (by simp at h;omega)
  have hk:=fun k'=>idx_nvs (d:=Res.fail) (k:=k') (l:=rest.reverse++t::done) (i:=rest.length) (x:=t) (by rw[List.getElem?_append_right (by simp)];simp)
  have hap:=fun k'=>app_nvs (d:=Res.fail) (kp:=k') (l:=out) (x:=t) (by simp at h;omega)
  have e2:((t::rest).length:Int)-1=(rest.length:Int):=by simp
  refine Evl.of ?_
  rw[e2,List.reverse_cons,List.append_assoc,List.singleton_append]
  rw[List.append_assoc,List.singleton_append] at ih
  rw[h27b5g,g27b5g]
  simp[e0,hk,hap,ih]
theorem tail_d(st out:List Nat)(h:st.length+out.length≤l.length):ev (q27b5d (iv ((st.length:Int)-1)) (nvs out) (nvs st.reverse))=some (if st=[] then(0,[nvs out,nvs st.reverse]) else(1,[nvs st.reverse,nvs (out++st)])):=by
 cases st with
 |nil=>exact Evl.of (by rw[h27b5d,g27b5d];simp)
 |cons t rest=>
  have ih:=tail_h hl rest [t] (out++[t]) (by simp at h ⊢;omega)
  have e0:IntKind.i64.wrap ((rest.length:Int)-1)=(rest.length:Int)-1:=wrap_id (by simp at h;omega)
  have hk:=fun k'=>idx_nvs (d:=Res.fail) (k:=k') (l:=rest.reverse++[t]) (i:=rest.length) (x:=t) (rev_get t rest)
  have hap:=fun k'=>app_nvs (d:=Res.fail) (kp:=k') (l:=out) (x:=t) (by simp at h;omega)
  have e2:((t::rest).length:Int)-1=(rest.length:Int):=by simp
  refine Evl.of ?_
  rw[e2,List.reverse_cons]
  rw[List.append_assoc,List.singleton_append] at ih
  rw[h27b5d,g27b5d]
  simp[e0,hk,hap,ih]
theorem tail_c(st:List Nat)(h:st.length≤l.length):ev (q27b5c (iv ((st.length:Int)-1)) (nvs st.reverse))=some (if st=[] then(1,[nvs st.reverse,nS]) else(3,[nvs st.reverse,nvs st])):=by
 cases st with
 |nil=>exact Evl.of (by rw[h27b5c,g27b5c];simp)
 |cons t rest=>
  have ih:=tail_g hl rest [t] [t] (by simp at h ⊢;omega)
  have e0:IntKind.i64.wrap ((rest.length:Int)-1)=(rest.length:Int)-1:=wrap_id (by simp at h;omega)
  have hk:=fun k'=>idx_nvs (d:=Res.fail) (k:=k') (l:=rest.reverse++[t]) (i:=rest.length) (x:=t) (rev_get t rest)
  have hap:=fun k'=>apn_nvs (d:=Res.fail) (kp:=k') (x:=t)
  have e2:((t::rest).length:Int)-1=(rest.length:Int):=by simp
  refine Evl.of ?_
  rw[e2,List.reverse_cons]
  rw[h27b5c,g27b5c]
  simp[e0,hk,hap,ih]
def RowN(p:PV)(r:List Nat):Prop:=p=nvs r∨r=[]∧p=nS
theorem p_order:match orderF (txV l) l.length l.length 0 [] [] with
  |.error k=>ev (q27 (strs l))=some (0,[nS,iv k,iv 112])
  |.ok r=>r.length≤l.length∧∃p,RowN p r∧ev (q27 (strs l))=some (0,[p,iv 0,iv 0]):=by
 have h:=ord_a hl
 cases ho:orderF (txV l) l.length l.length 0 [] [] with
 |error k=>rw[ho] at h;exact Evl.of (by rw[h27,g27];simp[h])
 |ok r=>
  rw[ho] at h
  obtain⟨st,out,rfl,c2,c⟩:=h
  refine⟨by simp;omega,?_⟩
  have e0:IntKind.i64.wrap ((st.length:Int)-1)=(st.length:Int)-1:=wrap_id (by omega)
  rcases c with⟨c3,c4⟩|⟨c3,c4⟩|c4
  ·have t0:ev (q27b5a (iv (-1)))=some (0,[nS]):=Evl.of (by rw[h27b5a,g27b5a];simp)
   exact⟨nS,.inr ⟨c3,rfl⟩,Evl.of (by rw[h27,g27];simp[c4,t0])⟩
  ·subst c3
   have ht:=tail_c hl st (by omega)
   by_cases hs:st=[]
   ·subst hs;exact⟨nS,.inr ⟨rfl,rfl⟩,Evl.of (by rw[h27,g27];simp at ht;simp[c4,ht,wrap_id])⟩
   ·rw[if_neg hs] at ht
    exact⟨nvs st,.inl rfl,Evl.of (by rw[h27,g27];simp[c4,ht,e0])⟩
  ·have ht:=tail_d hl st out (by omega)
   by_cases hs:st=[]
   ·subst hs;exact⟨nvs out,.inl (by simp),Evl.of (by rw[h27,g27];simp at ht;simp[c4,ht,wrap_id])⟩
   ·rw[if_neg hs] at ht
    exact⟨nvs (out++st),.inl rfl,Evl.of (by rw[h27,g27];simp[c4,ht,e0])⟩
end
set_option maxRecDepth 10000
def FnR{α:Type}(F:Nat→α)(fl:List α):Prop:=∀j,j<fl.length→fl[j]? = some (F j)
theorem FnR.set{α:Type}{F:Nat→α}{fl:List α}(h:FnR F fl)(x:Nat)(v:α):FnR (upd F x v) (fl.set x v):=by
 intro j hj
 rw[List.length_set] at hj
 rw[List.getElem?_set]
 by_cases hx:x=j
 ·subst hx;rw[if_pos rfl,if_pos hj,upd_eq]
 ·rw[if_neg hx,upd_ne _ _ (fun h=>hx h.symm)];exact h j hj
theorem Rt.lt{F:Nat→Nat}{j a m:Nat}(h:Rt F j a)(hF:∀j,j<m→F j<m):j<m→a<m:=by
 induction h with
 |here a h=>exact id
 |go j a h r ih=>exact fun hj=>ih (hF j hj)
theorem len11{c:List PV}(h:c.length=11):∃x0 x1 x2 x3 x4 x5 x6 x7 x8 x9 x10,c=[x0,x1,x2,x3,x4,x5,x6,x7,x8,x9,x10]:=by
 match c,h with
 |[x0,x1,x2,x3,x4,x5,x6,x7,x8,x9,x10],_=>exact⟨x0,x1,x2,x3,x4,x5,x6,x7,x8,x9,x10,rfl⟩
def AllR(A:Nat→Ex)(B:List (List PV)):Prop:=∀j,j<B.length→∃c,B[j]? = some c∧ExR (A j) c
theorem AllR.exs(l:List Ex):AllR (exAt l) (l.map Ex.cells):=by
 intro j hj
 rw[List.length_map] at hj
 refine⟨exC (exAt l j),?_,.plain _⟩
 rw[List.getElem?_map,List.getElem?_eq_getElem hj]
 unfold exAt
 rw[List.getElem?_eq_getElem hj]
 simp[Ex.cells_eq]
theorem AllR.set{A:Nat→Ex}{B:List (List PV)}(h:AllR A B)(x:Nat){v:Ex}{c:List PV}(hc:ExR v c):AllR (upd A x v) (B.set x c):=by
 intro j hj
 rw[List.length_set] at hj
 rw[List.getElem?_set]
 by_cases hx:x=j
 ·subst hx;rw[if_pos rfl,if_pos hj,upd_eq];exact⟨c,rfl,hc⟩
 ·rw[if_neg hx,upd_ne _ _ (fun h=>hx h.symm)];exact h j hj
theorem AllR.ns{A:Nat→Ex}{B:List (List PV)}(h:AllR A B):NS (.rows B):=.rows _ fun c hc=>by
 obtain⟨j,hj,rfl⟩:=List.getElem_of_mem hc
 obtain⟨c,h1,h2⟩:=h j hj
 rw[List.getElem?_eq_getElem hj] at h1
 cases h1
 exact h2.n
theorem ExR.wk{e:Ex}{c:List PV}(h:ExR e c):ExR e (wkPs c):=by
 refine⟨?_,by rw[wkPs_len];exact h.l,wkPs_ns h.n⟩
 have:∀l,wdPs (wkPs l)=wdPs l:=by
  intro l
  induction l with
  |nil=>rfl
  |cons p l ih=>rw[wkPs,wdPs_cons,wdPs_cons,ih,wdP_wkP]
 rw[this];exact h.w
section
variable{β:Type}{d:β}{kp:PV→β}{A:Nat→Ex}{B:List (List PV)}
theorem set_all{i:Nat}{v:Ex}{c:List PV}(hB:AllR A B)(hc:ExR v c)(h:i<B.length):setK d (.rows B) (.lit (.int .i64 (i:Int))) 0 c kp=kp (.rows (B.set i c)):=by
 obtain⟨c0,h1,h2⟩:=hB i h
 have hg:B.getD i []=c0:=by rw[List.getD_eq_getElem?_getD,h1];rfl
 have hs:setAt c0 0 c=c:=by
  unfold setAt
  rw[List.take_zero,List.nil_append,List.drop_of_length_le (by rw[h2.l,hc.l];exact Nat.le_refl _),List.append_nil]
 refine theK_of (and_iff (fun w=>?_) (hB.set i hc).ns)
 constructor
 ·rintro⟨es,n,kd,g1,g2,g3,g4,g5,rfl,_⟩
  cases g1
  cases g2
  rw[Int.toNat_natCast,hg,hs]
 ·rintro rfl
  refine⟨_,_,_,rfl,rfl,by omega,by rw[Int.toNat_natCast];exact h,?_,?_,nsP_of (hB.set i hc).ns⟩
  ·rw[Int.toNat_natCast,hg,h2.l,hc.l];exact Nat.le_refl 11
  ·rw[Int.toNat_natCast,hg,hs]
theorem idx_all{k:AV→β}{i:Nat}{v:Ex}{c:List PV}(h1:B[i]? = some c)(h2:ExR v c):idxK PG d 28 (.pv (.rows B)) (.pv (.lit (.int .i64 (i:Int)))) k=k (.cptr c):=
 idxK_of (fun _=>idx_ok slEx h1 h2.l) (nsa_c h2.n)
end
theorem p_applyw(t:Tk){x y:Ex}{x0 x1 x2 x3 x4 x5 x6 x7 x8 x9 x10 y0 y1 y2 y3 y4 y5 y6 y7 y8 y9 y10:PV}(hx:ExR x [x0,x1,x2,x3,x4,x5,x6,x7,x8,x9,x10])(hy:ExR y [y0,y1,y2,y3,y4,y5,y6,y7,y8,y9,y10]):∃zs,ev (q29w (iv t.kind) (sv t.text) (iv t.n) (iv t.at_) x0 x1 x2 x3 x4 x5 x6 x7 x8 x9 x10 y0 y1 y2 y3 y4 y5 y6 y7 y8 y9 y10)=some (0,zs)∧ExR (opE t x y) zs:=by
 obtain⟨zs,h1,h2⟩:=p_apply t hx hy
 exact⟨wkPs zs,Evl.of (by rw[h29w];simp[h1]),h2.wk⟩
section
variable{ops:List Tk}{F:Nat→Nat}{fl:List Nat}
theorem rt_b(hF:FnR F fl)(hin:∀j,j<fl.length→F j<fl.length){j a:Nat}(h:Rt F j a)(c e f g i all:PV):j<fl.length→
  ev (q11ab6b (iv j) (ops.map Tk.cells) c e f g i (nvs fl) all)=some (0,nvs fl::all::(zE++[iv a,.rows (ops.map Tk.cells),c,e,f,g,i])):=by
 induction h with
 |here a h=>
  intro hj
  have hx:=fun k'=>idx_nvs (d:=Res.fail) (k:=k') (hF a hj)
  refine Evl.of ?_
  rw[h11ab6b,g11ab6b]
  simp[hx,eq_true (show ((F a:Nat):Int)=(a:Int) by rw[h])]
 |go j a h r ih=>
  intro hj
  have hx:=fun k'=>idx_nvs (d:=Res.fail) (k:=k') (hF j hj)
  have ih:=ih (hin j hj)
  refine Evl.of ?_
  rw[h11ab6b,g11ab6b]
  simp[hx,eq_false (show ¬((F j:Nat):Int)=(j:Int) by omega),ih]
theorem run_b{r:List Nat}{F F':Nat→Nat}{A A':Nat→Ex}(h:Run ops r F A F' A'):∀(pre fl:List Nat) (B:List (List PV)),FnR F fl→AllR A B→fl.length=B.length→fl.length=ops.length+1→(∀j,j<fl.length→F j<fl.length)→(∀x∈r,x<ops.length)→ops.length≤1000000→pre.length+r.length≤1000000→
  ∃fl' B',AllR A' B'∧B'.length=B.length∧ev (q11ab4b (iv pre.length) (iv (pre++r).length) (nvs (pre++r)) (ops.map Tk.cells) (nvs fl) (.rows B))=some (0,nvs fl' :: .rows B'::(zE++[.rows (ops.map Tk.cells)])):=by
 induction h with
 |nil F A=>
  intro pre fl B hF hA hl hn hin hr ho hp
  refine⟨fl,B,hA,rfl,Evl.of ?_⟩
  rw[h11ab4b,g11ab4b]
  simp
 |cons i a r F F' A A' h hr2 ih=>
  intro pre fl B hF hA hl hn hin hr ho hp
  have hi:=hr i (by simp)
  have ha:a<fl.length:=h.lt hin (by omega)
  have hin2:∀j,j<fl.length→upd F (i+1) a j<fl.length:=fun j hj=>by
   unfold upd
   split
   ·exact ha
   ·exact hin j hj
  obtain⟨ca,a1,a2⟩:=hA a (by omega)
  obtain⟨ci,b1,b2⟩:=hA (i+1) (by omega)
  obtain⟨x0,x1,x2,x3,x4,x5,x6,x7,x8,x9,x10,rfl⟩:=len11 a2.l
  obtain⟨y0,y1,y2,y3,y4,y5,y6,y7,y8,y9,y10,rfl⟩:=len11 b2.l
  obtain⟨zs,hz1,hz2⟩:=p_applyw (opAt ops i) a2 b2
  obtain⟨z0,z1,z2,z3,z4,z5,z6,z7,z8,z9,z10,rfl⟩:=len11 hz2.l
  obtain⟨fl',B',c1,c2,c3⟩:=ih (pre++[i]) (fl.set (i+1) a) (B.set a [z0,z1,z2,z3,z4,z5,z6,z7,z8,z9,z10]) (hF.set _ _) (hA.set _ hz2) (by simp[hl]) (by simpa using hn) (by simpa using hin2) (fun x hx=>hr x (by simp[hx])) ho (by simp at hp ⊢;omega)
  refine⟨fl',B',c1,by simpa using c2,Evl.of ?_⟩
  have e1:IntKind.i64.wrap ((pre.length:Int)+1)=((pre.length+1:Nat):Int):=by rw[wrap_id (by omega)];omega
  have e2:IntKind.i64.wrap ((i:Int)+1)=((i+1:Nat):Int):=by rw[wrap_id (by omega)];omega
  have hk:=fun k'=>idx_nvs (d:=Res.fail) (k:=k') (l:=pre++i::r) (i:=pre.length) (x:=i) (by rw[List.getElem?_append_right (by simp)];simp)
  have hrt:=rt_b (ops:=ops) hF hin h (iv i) (iv (i+1:Nat)) (iv pre.length) (iv (pre++i::r).length) (nvs (pre++i::r)) (.rows B) (by omega)
  have hop:∀k',idxK PG Res.fail 76 (.pv (.rows (ops.map Tk.cells))) (.pv (.lit (.int .i64 (i:Int)))) k'=k' (.cptr [iv (opAt ops i).kind,sv (opAt ops i).text,iv (opAt ops i).n,iv (opAt ops i).at_]):=fun k'=>idxK_tks (d:=Res.fail) (k:=k') (opAt_get2 hi)
  have hxa:=fun k'=>idx_all (d:=Res.fail) (k:=k') a1 a2
  have hxi:=fun k'=>idx_all (d:=Res.fail) (k:=k') b1 b2
  have hse:=fun k'=>set_all (d:=Res.fail) (kp:=k') (i:=a) hA hz2 (by omega)
  have hfi:=fun k'=>idx_nvs (d:=Res.fail) (k:=k') (hF (i+1) (by omega))
  have hsf:=fun k'=>set_nvs (d:=Res.fail) (kp:=k') (l:=fl) (i:=i+1) (x:=a) (by omega)
  have e3:(pre++[i]).length=pre.length+1:=by simp
  rw[e3,List.append_assoc,List.singleton_append] at c3
  rw[h11ab4b,g11ab4b]
  have hlt:(pre.length:Int)<((pre++i::r).length:Int):=by simp;omega
  generalize (pre++i::r).length=len at *
  generalize pre++i::r=ord at *
  simp[-Int.natCast_add,hlt,hk,e2,hrt]
  simp[-Int.natCast_add,hop,hxa,hxi,hz1,hse,hfi,hsf,e1,c3]
theorem first_b(ops:List Tk)(p all:PV)(len:Nat)(hlen:len≤1000001):∀(n i:Nat) (fl:List Nat),len-i≤n→i≤len→fl.length=len→(∀j,j<i→fl[j]? = some j)→
  ∃fl',fl'.length=len∧FnR (fun j=>j) fl'∧ev (q11ab2b (iv i) (iv len) p (ops.map Tk.cells) (nvs fl) all)=some (0,nvs fl'::all::(zE++[p,.rows (ops.map Tk.cells)])):=by
 intro n
 induction n with
 |zero=>
  intro i fl hn hi hl hf
  refine⟨fl,hl,fun j hj=>hf j (by omega),Evl.of ?_⟩
  rw[h11ab2b,g11ab2b]
  simp[show ¬i<len by omega]
 |succ n ih=>
  intro i fl hn hi hl hf
  by_cases h:i<len
  ·obtain⟨fl',c1,c2,c3⟩:=ih (i+1) (fl.set i i) (by omega) (by omega) (by simpa using hl) (fun j hj=>by
    rw[List.getElem?_set]
    by_cases hx:i=j
    ·subst hx;rw[if_pos rfl,if_pos (by omega)]
    ·rw[if_neg hx];exact hf j (by omega))
   have e1:IntKind.i64.wrap ((i:Int)+1)=((i+1:Nat):Int):=by rw[wrap_id (by omega)];omega
   have hx:=fun k'=>idx_nvs (d:=Res.fail) (k:=k') (List.getElem?_eq_getElem (show i<fl.length by omega))
   have hsf:=fun k'=>set_nvs (d:=Res.fail) (kp:=k') (l:=fl) (i:=i) (x:=i) (by omega)
   refine⟨fl',c1,c2,Evl.of ?_⟩
   rw[h11ab2b,g11ab2b]
   simp[-Int.natCast_add,h,hx,hsf,e1,c3]
  ·refine⟨fl,hl,fun j hj=>hf j (by omega),Evl.of ?_⟩
   rw[h11ab2b,g11ab2b]
   simp[h]
end
set_option maxRecDepth 10000
def okOps(L:List Tk)(a:Nat)(d:Int)(v:List Ex×List Tk)(b:Nat)(z:Rs):Prop:=a≤b∧v.1.length=v.2.length+1∧(v.2≠[]∧v.2.length≤b)∧z=(3,ps L b d (zE++[exs v.1,.rows ((v.2.map Tk.text).map fun s=>[sv s]),.rows (v.2.map Tk.cells)]))
def okOpA(L:List Tk)(x:Ex)(a:Nat)(d:Int)(v:List Ex×List Tk)(b:Nat)(z:Rs):Prop:=v=([x],[])∧a≤b∧z=(1,ps L b d (exs [x]::(zE++[nS,nS])))∨okOps L a d v b z
section
variable{L:List Tk}(hW:WfL L)
include hW
theorem s_ops{n:Nat}(ihO:∀m,m≤n→Pa L (pOp L) exC (operandG L m)):∀(m:Nat),m≤n→∀(l:List Ex) (o:List Tk) (a:Nat) (d:Int),l.length=o.length+1→o≠[]∧o.length≤a→0≤d→d≤300→a<L.length→
  PE_ L (q11ab0b (o.map Tk.cells) ((o.map Tk.text).map fun s=>[sv s]) (tks L) (iv a) (iv d) (exs l)) (opsG L m l o d a) (okOps L a d)
  (fun e x z=>∃(b:Nat) (d':Int),z=(2,ps L b d' (zE++[iv e,iv x]))):=by
 intro m hm
 induction m with
 |zero=>intro l o a d hl hb h0 h1 ha;rw[opsG];trivial
 |succ m ih=>
  intro l o a d hl ⟨hne,hb⟩ h0 h1 ha
  refine .of ?_
  rw[opsG.eq_2,h11ab0b,g11ab0b]
  have hLl:=hW.len
  refine .kind (fun k5=>?_) (fun k5=>?_)
  ·refine .takeK (by decide) (fun _=>?_) (fun h=>absurd k5 h)
   have hl1:=hW.fin a (by omega)
   have m2:(o++[tkAt L a]).map Tk.cells=o.map Tk.cells++[[iv (tkAt L a).kind,sv (tkAt L a).text,iv (tkAt L a).n,iv (tkAt L a).at_]]:=by rw[List.map_append,List.map_cons,List.map_nil,Tk.cells]
   have m3:((o++[tkAt L a]).map Tk.text).map (fun x=>[sv x])=(o.map Tk.text).map (fun x=>[sv x])++[[sv (tkAt L a).text]]:=by rw[List.map_append,List.map_append,List.map_cons,List.map_nil,List.map_cons,List.map_nil]
   have a1:=fun k'=>appK_raw (P:=PG) (d:=.fail) (k:=k') sl_tks (raw_tks o) (c:=[iv (tkAt L a).kind,sv (tkAt L a).text,iv (tkAt L a).n,iv (tkAt L a).at_]) rfl (by simp) (by simp;omega) (by decide)
   have a2:=fun k'=>appK_raw (P:=PG) (d:=.fail) (k:=k') slSt (raw_strs (o.map Tk.text)) (c:=[sv (tkAt L a).text]) rfl (by simp) (by simp;omega) (by decide)
   have hln:∀(k:AV→Res),lenK PG .fail 76 (.pv (.rows (o.map Tk.cells++[[iv (tkAt L a).kind,sv (tkAt L a).text,iv (tkAt L a).n,iv (tkAt L a).at_]]))) k=k (.pv (iv (o.length+1:Nat))):=fun k=>by
    rw[lenK_of (fun _=>len_ok sl_tks _) (nsa_lit _)];simp
   have hix:∀(k:AV→Res),idxK PG .fail 76 (.pv (.rows (o.map Tk.cells++[[iv (tkAt L a).kind,sv (tkAt L a).text,iv (tkAt L a).n,iv (tkAt L a).at_]]))) (.pv (.lit (.int .i64 (o.length:Int)))) k=k (.cptr [iv (tkAt L a).kind,sv (tkAt L a).text,iv (tkAt L a).n,iv (tkAt L a).at_]):=fun k=>by
    have:=idxK_tks (d:=Res.fail) (k:=k) (l:=o++[tkAt L a]) (i:=o.length) (x:=tkAt L a) (by rw[List.getElem?_append_right (Nat.le_refl _)];simp)
    rw[tks,m2] at this
    exact this
   have e0:IntKind.i64.wrap (((o.length+1:Nat):Int)-1)=(o.length:Int):=by rw[wrap_id (by omega)];omega
   simp[-Int.natCast_add,-List.map_map,p_next ha,Tk.cells,eq_true k5,p_any hW ha]
   simp only[a1,a2,hln,hix]
   simp[-Int.natCast_add,-List.map_map,a1,a2,hln,hix,e0]
   refine .callW (ihO m (by omega) (a+1) d h0 h1 hl1) (fun v b hb2 hab g=>?_) (fun e x b d' g=>?_)
   ·have a3:=fun k'=>appK_raw (P:=PG) (d:=.fail) (k:=k') slEx (raw_exs l) (c:=exC v) rfl (by simp) (by simp;omega) (by decide)
    have m1:(l++[v]).map Ex.cells=l.map Ex.cells++[exC v]:=by rw[List.map_append,List.map_cons,List.map_nil,Ex.cells_eq]
    have hn:=ih (by omega) (l++[v]) (o++[tkAt L a]) b d (by simp[hl]) ⟨by simp,by simp;omega⟩ h0 h1 hb2
    rw[m2,m3,exs,m1] at hn
    simp[-Int.natCast_add,-List.map_map,g]
    rw[exs]
    simp only[a3]
    cases hr:opsG L m (l++[v]) (o++[tkAt L a]) d b with
    |out=>trivial
    |err e x=>rw[hr] at hn;obtain⟨z,g1,b3,d',rfl⟩:=hn;exact⟨_,by simp[-List.map_map,g1],b3,d',rfl⟩
    |ok v2 b3=>rw[hr] at hn;obtain⟨hb3,z,g1,h5,h6,h7,rfl⟩:=hn;exact⟨hb3,_,by simp[-List.map_map,g1],by omega,h6,h7,rfl⟩
   ·exact⟨_,by simp[-Int.natCast_add,-List.map_map,g],b,d',rfl⟩
  ·exact .pure ha (by simp[-List.map_map,p_next ha,Tk.cells,k5]) ⟨Nat.le_refl _,hl,⟨hne,hb⟩,rfl⟩
theorem s_opsA{n:Nat}(ihO:∀m,m≤n→Pa L (pOp L) exC (operandG L m))(m:Nat)(hm:m≤n)(x:Ex)(a:Nat)(d:Int)(h0:0≤d)(h1:d≤300)(ha:a<L.length) :
  PE_ L (q11ab0a (tks L) (iv a) (iv d) (exs [x])) (opsG L m [x] [] d a) (okOpA L x a d)
  (fun e y z=>∃(b:Nat) (d':Int),z=(0,ps L b d' (exs [x]::(zE++[iv e,iv y])))∨z=(2,ps L b d' (zE++[iv e,iv y]))):=by
 cases m with
 |zero=>rw[opsG];trivial
 |succ m=>
  refine .of ?_
  rw[opsG.eq_2,h11ab0a,g11ab0a]
  have hLl:=hW.len
  refine .kind (fun k5=>?_) (fun k5=>?_)
  ·refine .takeK (by decide) (fun _=>?_) (fun h=>absurd k5 h)
   have hl1:=hW.fin a (by omega)
   simp[-Int.natCast_add,-List.map_map,p_next ha,Tk.cells,eq_true k5,p_any hW ha]
   refine .callW (ihO m (by omega) (a+1) d h0 h1 hl1) (fun v b hb2 hab g=>?_) (fun e y b d' g=>?_)
   ·have a3:=fun k'=>appK_raw (P:=PG) (d:=.fail) (k:=k') slEx (raw_exs [x]) (c:=exC v) rfl (by simp) (by simp) (by decide)
    have m1:([x]++[v]).map Ex.cells=[x].map Ex.cells++[exC v]:=by rw[List.map_append,List.map_cons,List.map_nil,List.map_cons,List.map_nil,Ex.cells_eq v]
    have hn:=s_ops hW ihO m (by omega) ([x]++[v]) [tkAt L a] b d (by simp) ⟨by simp,by simp;omega⟩ h0 h1 hb2
    rw[exs,m1] at hn
    simp only[List.map_cons,List.map_nil,Tk.cells] at hn
    simp[-Int.natCast_add,-List.map_map,g]
    rw[exs]
    simp only[List.map_cons,List.map_nil] at a3 hn ⊢
    simp only[a3]
    cases hr:opsG L m ([x]++[v]) [tkAt L a] d b with
    |out=>simp only[List.cons_append,List.nil_append] at hr;rw[hr];trivial
    |err e y=>rw[hr] at hn;simp only[List.cons_append,List.nil_append] at hr;rw[hr];obtain⟨z,g1,b3,d',rfl⟩:=hn;simp only[List.cons_append,List.nil_append] at g1;exact⟨_,by simp[-List.map_map,g1],b3,d',.inr rfl⟩
    |ok v2 b3=>rw[hr] at hn;simp only[List.cons_append,List.nil_append] at hr;rw[hr];obtain⟨hb3,z,g1,h5,h6,h7,rfl⟩:=hn;simp only[List.cons_append,List.nil_append] at g1;exact⟨hb3,_,by simp[-List.map_map,g1],.inr ⟨by omega,h6,h7,rfl⟩⟩
   ·exact⟨_,by simp[-Int.natCast_add,-List.map_map,g],b,d',.inl rfl⟩
  ·exact .pure ha (by simp[-List.map_map,p_next ha,Tk.cells,k5]) (.inl ⟨rfl,Nat.le_refl _,rfl⟩)
omit hW in
theorem postF_in(V:Nat→Nat):∀(n f to:Nat),f≤to→∀t∈postF V n f to,f≤t∧t<to
 |0,f,to,h,t,ht=>by simp[postF] at ht
 |n+1,f,to,h,t,ht=>by
  rw[postF] at ht
  split at ht
  ·simp at ht
  ·rename_i hf
   have hl:=last_in V (f:=f) (to:=to) (by omega)
   rcases List.mem_append.1 ht with ht|ht
   ·rcases List.mem_append.1 ht with ht|ht
    ·have:=postF_in V n f _ hl.1 t ht;omega
    ·have:=postF_in V n _ to (by omega) t ht;omega
   ·rw[List.mem_singleton.1 ht];exact hl
omit hW in
theorem fin_b{l:List Ex}{o:List Tk}(hl:l.length=o.length+1)(ho:o.length≤1000000)(hc:clashF (vlv o) o.length o.length 0=none) :
  ∃(p:PV) (r:List Nat) (fl fl':List Nat) (B:List (List PV)) (c:List PV),RowN p r∧r.length≤o.length∧
   ev (q27 (.rows ((o.map Tk.text).map fun s=>[sv s])))=some (0,[p,iv 0,iv 0])∧
   ev (q11ab2b (iv 0) (iv (o.length+1:Nat)) p (o.map Tk.cells) (nvs (List.replicate (o.length+1) 0)) (exs l))=some (0,nvs fl::exs l::(zE++[p,.rows (o.map Tk.cells)]))∧
   (o≠[]→p=nvs r∧ev (q11ab4b (iv 0) (iv r.length) (nvs r) (o.map Tk.cells) (nvs fl) (exs l))=some (0,nvs fl' :: .rows B::(zE++[.rows (o.map Tk.cells)])))∧
   (o≠[]→B[0]? = some c∧ExR (buildF l o o.length 0 o.length) c):=by
 have ht:=p_order (l:=o.map Tk.text) (by simpa using ho)
 have hor:=order_eq (txV (o.map Tk.text)) o.length o.length 0 (Nat.zero_le _) (by omega)
 have e1:spn (txV (o.map Tk.text)) 0 0 0=[]:=rfl
 have e2:ous (txV (o.map Tk.text)) 0 0 0=[]:=rfl
 rw[e1,e2,txV_ops,hc] at hor
 rw[txV_ops,List.length_map,hor] at ht
 obtain⟨h1,p,h2,h3⟩:=ht
 obtain⟨fl,f1,f2,f3⟩:=first_b o p (exs l) (o.length+1) (by omega) (o.length+1) 0 (List.replicate (o.length+1) 0) (by omega) (Nat.zero_le _) (by simp) (fun j hj=>by omega)
 obtain⟨F',A',r1,r2,r3,r4⟩:=run_pst l o o.length 0 o.length (fun j=>j) (exAt l) (Nat.zero_le _) (by omega) (fun j _ _=>⟨rfl,rfl⟩)
 obtain⟨fl',B,b1,b2,b3⟩:=run_b r1 [] fl (l.map Ex.cells) f2 (AllR.exs l) (by rw[f1,List.length_map,hl]) f1 (fun j hj=>hj) (fun x hx=>(postF_in _ _ _ _ (Nat.zero_le _) x hx).2) ho (by simp;omega)
 obtain⟨c,c1,c2⟩:=b1 0 (by rw[b2,List.length_map];omega)
 rw[r3] at c2
 refine⟨p,_,fl,fl',B,c,h2,h1,h3,f3,fun ho=>?_,fun _=>⟨c1,c2⟩⟩
 rcases h2 with rfl|⟨h4,rfl⟩
 ·exact⟨rfl,b3⟩
 ·exfalso
  have:0<o.length:=List.length_pos_iff.2 ho
  rw[pst_eq (vlv o) this] at h4
  simp at h4
omit hW in
theorem len_rowN{β:Type}{d:β}{k:AV→β}{p:PV}{r:List Nat}(h:RowN p r):lenK PG d 89 (.pv p) k=k (.pv (iv r.length)):=by
 rcases h with rfl|⟨rfl,rfl⟩
 ·simp
 ·exact lenK_of (fun r=>by
   have h:∀ty,builtinA PG .len #[89] ty [.pv nS]=some (.pv (.lit (.int .i64 0))):=fun ty=>by kernel_rfl
   constructor
   ·intro hr
    have h1:=hr 0
    rw[h 0] at h1
    exact(Option.some.inj h1).symm
   ·rintro rfl;exact h) (nsa_lit _)
omit hW in
theorem len_exs1{β:Type}{d:β}{k:AV→β}(x:Ex):lenK PG d 28 (.pv (exs [x])) k=k (.pv (iv 1)):=by
 rw[exs,lenK_of (fun _=>len_ok slEx _) (nsa_lit _)];simp
omit hW in
theorem fin_n:∃p,RowN p []∧ev (q27 (.rows []))=some (0,[p,iv 0,iv 0]):=by
 have h:=p_order (l:=[]) (by simp)
 have e:orderF (txV []) ([]:List ByteArray).length ([]:List ByteArray).length 0 [] []=.ok []:=rfl
 rw[e] at h
 exact h.2
omit hW in
theorem fin_a(p:PV)(x:Ex):ev (q11ab2a (iv 0) (iv 1) p (nvs [0]) (exs [x]))=some (0,nvs [0]::exs [x]::(zE++[p,nS]))∧ev (q11ab4a (iv 0) (iv 0) p (nvs [0]) (exs [x]))=some (0,nvs [0]::exs [x]::zE):=by
 constructor
 ·have h1:ev (q11ab2a (iv 1) (iv 1) p (nvs [0]) (exs [x]))=some (0,nvs [0]::exs [x]::(zE++[p,nS])):=Evl.of (by rw[h11ab2a,g11ab2a];simp)
  have hx:∀(k':AV→Res),idxK PG Res.fail 89 (.pv (nvs [0])) (.pv (iv 0)) k'=k' (.cptr [iv 0]):=fun k'=>idx_nvs (d:=Res.fail) (k:=k') (l:=[0]) (i:=0) (x:=0) rfl
  have hs:∀(k':PV→Res),setK Res.fail (nvs [0]) (iv 0) 0 [iv 0] k'=k' (nvs [0]):=fun k'=>set_nvs (d:=Res.fail) (kp:=k') (l:=[0]) (i:=0) (x:=0) (by simp)
  have w1:IntKind.i64.wrap 1=1:=wrap_id (by decide)
  exact Evl.of (by rw[h11ab2a,g11ab2a];simp[hx,hs,w1,h1])
 ·exact Evl.of (by rw[h11ab4a,g11ab4a];simp)
theorem s_exp{n:Nat}(ihO:∀m,m≤n→Pa L (pOp L) exC (operandG L m)):Pa L (pEx L) exC (expG L (n+1)):=by
 intro a d h0 h1 ha
 refine .weak (h11aw ev _ _ _) (.of ?_)
 rw[expG.eq_2,h11a,g11a]
 have hLl:=hW.len
 simp[p_down hW ha h0 h1]
 refine .deep (fun hd=>?_) (fun hd=>?_)
 ·exact⟨_,by simp[hd],.of (m:=[1,0]) (b:=a) (d:=d+1) (k:=0) rfl⟩
 ·simp[hd]
  have hw:IntKind.i64.wrap d=d:=wrap_id (by omega)
  refine .callW (ihO n (Nat.le_refl _) a (d+1) (by omega) (by omega) ha) (fun x b hb hab g=>?_) (fun e y b d' g=>?_)
  ·simp[g]
   have hapx:=fun k'=>appK_raw (P:=PG) (d:=.fail) (k:=k') slEx (Raw.nil 11) (c:=exC x) rfl (by simp) (by simp) (by decide)
   simp only[hapx,List.nil_append]
   refine .bind (s_opsA hW ihO n (Nat.le_refl _) x b (d+1) (by omega) (by omega) hb) (fun v b2 z hb2 g2 hz=>?_) (fun e y z g2 hz=>?_)
   ·rcases hz with⟨rfl,h5,rfl⟩|⟨h5,h6,h7,rfl⟩
    ·obtain⟨p,p1,p2⟩:=fin_n
     obtain⟨q1,q2⟩:=fin_a p x
     have hlp:∀(k':AV→Res),lenK PG Res.fail 89 (.pv p) k'=k' (.pv (iv 0)):=fun k'=>by simpa using len_rowN (d:=Res.fail) (k:=k') p1
     have hm:∀(k':PV→Res),mkK PG Res.fail 89 (.pv (iv 1)) k'=k' (nvs [0]):=fun k'=>mk_nvs (d:=Res.fail) (kp:=k') (n:=1) (by decide)
     have hx:∀(k':AV→Res),idxK PG Res.fail 28 (.pv (exs [x])) (.pv (iv 0)) k'=k' (.cptr (exC x)):=fun k'=>idxK_exs (d:=Res.fail) (k:=k') (l:=[x]) (i:=0) (x:=x) rfl
     have hL1:∀(k':AV→Res),lenK PG Res.fail 28 (.pv (exs [x])) k'=k' (.pv (iv 1)):=fun k'=>len_exs1 x
     have he1:exs [x]=.rows [exC x]:=exs_one x
     rw[he1] at q1 q2 hx hL1 g2
     simp only[zE,ps,List.cons_append,List.nil_append] at q1 q2 g2
     show PG_ L (pureG x (d+1) b2) (okW L a d [1,0] exC) (erW L [1,0]) _
     exact .pure hb2 (by simp[g2,p2,hL1,hm,q1,hlp,q2,hx,hw]) (.of (m:=[1,0]) (k:=1) (ys:=exC x) (by omega) rfl (by simp))
    ·obtain⟨l,o⟩:=v
     obtain⟨hne,h7⟩:=h7
     simp only at h6 hne h7 g2 ⊢
     have hlo:∀(k':AV→Res),lenK PG Res.fail 28 (.pv (exs l)) k'=k' (.pv (iv (o.length+1:Nat))):=fun k'=>by rw[exs,lenK_of (fun _=>len_ok slEx _) (nsa_lit _),List.length_map,h6]
     simp only[ps,List.cons_append,List.nil_append] at g2
     rw[exs_one] at g2
     unfold clashG
     cases hcl:clashF (vlv o) o.length o.length 0 with
     |some k=>
      have ht:=p_order (l:=o.map Tk.text) (by simp;omega)
      have hor:=order_eq (txV (o.map Tk.text)) o.length o.length 0 (Nat.zero_le _) (by omega)
      have e1:spn (txV (o.map Tk.text)) 0 0 0=[]:=rfl
      have e2:ous (txV (o.map Tk.text)) 0 0 0=[]:=rfl
      rw[e1,e2,txV_ops,hcl] at hor
      rw[txV_ops,List.length_map,hor] at ht
      have hk:k<o.length:=clashF_lt _ _ _ _ _ hcl
      have hop:∀k',idxK PG Res.fail 76 (.pv (.rows (o.map Tk.cells))) (.pv (.lit (.int .i64 (k:Int)))) k'=k' (.cptr [iv (opAt o k).kind,sv (opAt o k).text,iv (opAt o k).n,iv (opAt o k).at_]):=fun k'=>idxK_tks (d:=Res.fail) (k:=k') (opAt_get2 hk)
      have ht:ev (q27 (.rows ((o.map Tk.text).map fun s=>[sv s])))=some (0,[nS,iv k,iv 112]):=ht
      generalize hG:o.map Tk.cells=G at *
      generalize hT:(o.map Tk.text).map (fun s=>[sv s])=T at *
      exact⟨_,by simp[-Int.natCast_add,g2,ht,hop,p_fail hW,hw],.of (m:=[1,0]) (b:=b2) (d:=d) (k:=0) rfl⟩
     |none=>
      obtain⟨p,r,fl,fl',B,c,p1,p2,p3,p4,p5,p6⟩:=fin_b h6 (by omega) hcl
      obtain⟨rfl,p8⟩:=p5 hne
      obtain⟨p9,p7⟩:=p6 hne
      obtain⟨x0,x1,x2,x3,x4,x5,x6,x7,x8,x9,x10,rfl⟩:=len11 p7.l
      have hm:=fun k'=>mk_nvs (d:=Res.fail) (kp:=k') (n:=o.length+1) (by omega)
      have hx:∀(k':AV→Res),idxK PG Res.fail 28 (.pv (.rows B)) (.pv (iv 0)) k'=k' (.cptr [x0,x1,x2,x3,x4,x5,x6,x7,x8,x9,x10]):=fun k'=>idx_all (d:=Res.fail) (k:=k') (i:=0) p9 p7
      have hlr:=fun k'=>len_nvs (d:=Res.fail) (k:=k') r
      generalize hG:o.map Tk.cells=G at *
      generalize hT:(o.map Tk.text).map (fun s=>[sv s])=T at *
      simp only[zE,List.cons_append,List.nil_append] at p4 p8
      exact .pure hb2 (by simp[-Int.natCast_add,g2,p3,hlo,hm,p4,p8,hx,hw]) (.of (m:=[1,0]) (k:=1) (ys:=[x0,x1,x2,x3,x4,x5,x6,x7,x8,x9,x10]) (by omega) rfl (by rw[p7.w,Ex.cells_eq]))
   ·obtain⟨b2,d',rfl|rfl⟩:=hz
    ·rw[exs_one] at g2
     exact⟨_,by simp[g2];rfl,.of (m:=[1,0]) (b:=b2) (k:=0) rfl⟩
    ·rw[exs_one] at g2
     exact⟨_,by simp[g2];rfl,.of (m:=[1,0]) (b:=b2) (k:=0) rfl⟩
  ·exact⟨_,by simp[g],.of (m:=[1,0]) (b:=b) (d:=IntKind.i64.wrap (d'-1)) (k:=0) rfl⟩
end
set_option maxRecDepth 10000
section
variable{L:List Tk}(hW:WfL L)
include hW
theorem s_am{n:Nat}(ihE:∀m,m≤n→Pa L (pEx L) exC (expG L m)):∀m,m≤n→Pa L (pAm L) exC (atomG L m)
 |0,_=>fun a d _ _ _=>by rw[atomG];trivial
 |m+1,h=>s_atom hW fun k hk=>ihE k (by omega)
theorem s_eo:∀n,(∀m,m≤n→Pa L (pEx L) exC (expG L m))∧(∀m,m≤n→Pa L (pOp L) exC (operandG L m)):=by
 intro n
 induction n with
 |zero=>exact⟨fun m hm=>by rw[show m=0 by omega];exact fun a d _ _ _=>by rw[expG];trivial,fun m hm=>by rw[show m=0 by omega];exact fun a d _ _ _=>by rw[operandG];trivial⟩
 |succ n ih=>
  obtain⟨ihE,ihO⟩:=ih
  refine⟨fun m hm=>?_,fun m hm=>?_⟩
  ·by_cases h:m=n+1
   ·subst h;exact s_exp hW ihO
   ·exact ihE m (by omega)
  ·by_cases h:m=n+1
   ·subst h
    refine s_operand hW ihE (s_am hW ihE) (fun m hm w a d h0 h1 ha=>?_) (fun m hm a d h0 h1 ha hl=>?_)
    ·cases m with
     |zero=>rw[lambdaG];trivial
     |succ m=>exact s_lambda hW (fun k hk=>ihE k (by omega)) w a d h0 h1 ha
    ·cases m with
     |zero=>
      refine .may (fun h=>?_) (fun h=>?_)
      ·rw[letG];trivial
      ·rw[letG];trivial
     |succ m=>exact s_let hW (fun k hk=>ihE k (by omega)) a d h0 h1 ha hl
   ·exact ihO m (by omega)
theorem s_ex(n:Nat):Pa L (pEx L) exC (expG L n):=(s_eo hW n).1 n (Nat.le_refl _)
theorem s_bd:∀n:Nat,Pa L (pBd L) bdC (bdG L n)
 |0=>fun a d _ _ _=>by rw[bdG];trivial
 |n+1=>s_bind hW (s_ex hW n)
end
end Go.Proofs.YtfphhabaeggenaaDoor
