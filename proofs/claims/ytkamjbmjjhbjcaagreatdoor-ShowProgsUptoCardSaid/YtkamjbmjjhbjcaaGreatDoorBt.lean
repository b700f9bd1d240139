/- Joined texts. -/
import Derived.Test.YtkamjbmjjhbjcaaGreatDoorBs
import Derived.Lib.ValidLaws
set_option linter.unusedVariables false
set_option linter.unusedSimpArgs false
set_option linter.unusedSectionVars false
namespace Go.Proofs.YtkamjbmjjhbjcaaGreatDoor.Lx
def byteN(l:List UInt8)(k:Nat):Nat:=(l.getD k 0).toNat
def decL(l:List UInt8):Nat×Nat:=Lib.decodeN l.length (byteN l 0) (byteN l 1) (byteN l 2) (byteN l 3)
def badL(l:List UInt8):Bool:=((decL l).1:Int)==65533 && !Lib.hasPrefix l [239,191,189]
end Go.Proofs.YtkamjbmjjhbjcaaGreatDoor.Lx
namespace Go.Proofs.YtkamjbmjjhbjcaaGreatDoor
open Go.RowKit
theorem uI:PG.underlying 3=some (.int .i64):=by kernel_rfl
section
variable{β:Type}{d:β}{k:AV→β}
@[simp] theorem lenS(s:ByteArray):lenK PG d 9 (.pv (sv s)) k=k (.pv (iv s.size)):=lenK_str uS s
theorem indS{s:ByteArray}{i:Nat}(hi:i<s.size):indK PG d 9 (.pv (sv s)) (.pv (iv i)) k=k (.pv (cv (byt s i))):=indK_str uS hi
theorem slcS{s:ByteArray}{l m:Nat}(hl:l≤m)(hm:m≤s.size):slcK PG d 9 (.pv (sv s)) (some (.pv (iv l))) (some (.pv (iv m))) k=k (.pv (sv (s.extract l m))):=slcK_str uS hl hm
@[simp] theorem convBI(n:Int):convK PG d 5 3 (.pv (cv n)) k=k (.pv (iv (IntKind.i64.wrap n))):=convK_int u8 uI n
end
theorem wtwo{i j k:Nat}(hj:j=i+k)(h:i+k≤1000000000):IntKind.i64.wrap ((i:Int)+(k:Int))=(j:Int):=by rw[wrap_id (by omega)];omega
abbrev D(b:ByteArray)(i:Nat):List UInt8:=b.data.toList.drop i
theorem D_nil{b:ByteArray}{i:Nat}(h:b.size≤i):D b i=[]:=List.drop_eq_nil_of_le (by simpa using h)
theorem D_len(b:ByteArray)(i:Nat):(D b i).length=b.size-i:=by rw[List.length_drop];rfl
theorem byteN_byt(b:ByteArray)(i k:Nat):(Lx.byteN (D b i) k:Int)=byt b (i+k):=by
 unfold Lx.byteN byt
 rw[List.getD_eq_getElem?_getD,List.getD_eq_getElem?_getD,List.getElem?_drop]
theorem byteN_lt(l:List UInt8)(k:Nat):Lx.byteN l k<256:=UInt8.toNat_lt _
theorem prefix_iff:∀(l:List UInt8),Lib.hasPrefix l [239,191,189]=true↔(2<l.length∧Lx.byteN l 0=239∧Lx.byteN l 1=191∧Lx.byteN l 2=189)
 |[]=>by simp[Lib.hasPrefix,List.isPrefixOf]
 |[a]=>by simp[Lib.hasPrefix,List.isPrefixOf]
 |[a,c]=>by simp[Lib.hasPrefix,List.isPrefixOf]
 |a::c::d::r=>by
  have h:∀(x y:UInt8),(x==y)=decide (y.toNat=x.toNat):=by
   intro x y
   rw[Bool.eq_iff_iff,beq_iff_eq,decide_eq_true_eq]
   exact⟨fun e=>by rw[e],fun e=>UInt8.toNat_inj.1 e.symm⟩
  simp[Lib.hasPrefix,List.isPrefixOf,Lx.byteN,h]
def utfN(l:List UInt8):Nat:=if Lx.badL l=true then 0 else(Lx.decL l).2
theorem utf_ae(b:ByteArray)(i:Nat)(z:Int):ev (q107b0a (iv 4) (sv b) (iv i) (iv z))=some (1,[iv z,iv 65536,iv 4]):=Evl.of (by rw[h107b0a,g107b0a];simp)
theorem utf_as(b:ByteArray)(i:Nat)(hb:b.size≤1900000)(k:Nat)(hk:k<4)(hi:i+k<b.size)(z:Int)(h0:0≤z)(h1:z≤10000000)(k':Int)(hk':k'=(k:Int)+1)(x:Int)(hx':x=byt b (i+k))
  {r:Rs} (hbad:x<128∨191<x→r=(0,[iv 0])) (hgo:¬(x<128∨191<x)→ev (q107b0a (iv k') (sv b) (iv i) (iv (64*z+x-128)))=some r):ev (q107b0a (iv k) (sv b) (iv i) (iv z))=some r:=by
 obtain⟨j,hj⟩:∃j,j=i+k:=⟨_,rfl⟩
 have h1':(k:Int)<4:=by omega
 have e1:=wtwo hj (by omega)
 have e2:IntKind.i64.wrap ((k:Int)+1)=k':=by rw[wrap_id (by omega),hk']
 have hr:=byt_range b (i+k)
 rw[←hj] at hx' hr
 have hx:=fun(k:AV→Res)=>indS (d:=Res.fail) (k:=k) (s:=b) (i:=j) (by omega)
 rw[←hx'] at hx hr
 have w0:IntKind.i64.wrap x=x:=wrap_id (by omega)
 have w1:IntKind.i64.wrap (64*z)=64*z:=wrap_id (by omega)
 have w2:IntKind.i64.wrap (64*z+x)=64*z+x:=wrap_id (by omega)
 have w3:IntKind.i64.wrap (64*z+x-128)=64*z+x-128:=wrap_id (by omega)
 by_cases h2:x<128
 ·rw[hbad (.inl h2)]
  exact Evl.of (by rw[h107b0a,g107b0a];simp[h1',e1,hx,w0,h2])
 ·by_cases h3:191<x
  ·rw[hbad (.inr h3)]
   exact Evl.of (by rw[h107b0a,g107b0a];simp[h1',e1,hx,w0,h2,h3])
  ·have hg:=hgo (by omega)
   exact Evl.of (by rw[h107b0a,g107b0a];simp[h1',e1,e2,hx,w0,w1,w2,w3,h2,h3,hg])
theorem utf_be(b:ByteArray)(i:Nat)(z:Int):ev (q107b0b (iv 3) (sv b) (iv i) (iv z))=some (1,[iv z,iv 2048,iv 3]):=Evl.of (by rw[h107b0b,g107b0b];simp)
theorem utf_bs(b:ByteArray)(i:Nat)(hb:b.size≤1900000)(k:Nat)(hk:k<3)(hi:i+k<b.size)(z:Int)(h0:0≤z)(h1:z≤10000000)(k':Int)(hk':k'=(k:Int)+1)(x:Int)(hx':x=byt b (i+k))
  {r:Rs} (hbad:x<128∨191<x→r=(0,[iv 0])) (hgo:¬(x<128∨191<x)→ev (q107b0b (iv k') (sv b) (iv i) (iv (64*z+x-128)))=some r):ev (q107b0b (iv k) (sv b) (iv i) (iv z))=some r:=by
 obtain⟨j,hj⟩:∃j,j=i+k:=⟨_,rfl⟩
 have h1':(k:Int)<3:=by omega
 have e1:=wtwo hj (by omega)
 have e2:IntKind.i64.wrap ((k:Int)+1)=k':=by rw[wrap_id (by omega),hk']
 have hr:=byt_range b (i+k)
 rw[←hj] at hx' hr
 have hx:=fun(k:AV→Res)=>indS (d:=Res.fail) (k:=k) (s:=b) (i:=j) (by omega)
 rw[←hx'] at hx hr
 have w0:IntKind.i64.wrap x=x:=wrap_id (by omega)
 have w1:IntKind.i64.wrap (64*z)=64*z:=wrap_id (by omega)
 have w2:IntKind.i64.wrap (64*z+x)=64*z+x:=wrap_id (by omega)
 have w3:IntKind.i64.wrap (64*z+x-128)=64*z+x-128:=wrap_id (by omega)
 by_cases h2:x<128
 ·rw[hbad (.inl h2)]
  exact Evl.of (by rw[h107b0b,g107b0b];simp[h1',e1,hx,w0,h2])
 ·by_cases h3:191<x
  ·rw[hbad (.inr h3)]
   exact Evl.of (by rw[h107b0b,g107b0b];simp[h1',e1,hx,w0,h2,h3])
  ·have hg:=hgo (by omega)
   exact Evl.of (by rw[h107b0b,g107b0b];simp[h1',e1,e2,hx,w0,w1,w2,w3,h2,h3,hg])
theorem utf_ce(b:ByteArray)(i:Nat)(z:Int):ev (q107b0c (iv 2) (sv b) (iv i) (iv z))=some (1,[iv z,iv 128,iv 2]):=Evl.of (by rw[h107b0c,g107b0c];simp)
theorem utf_cs(b:ByteArray)(i:Nat)(hb:b.size≤1900000)(k:Nat)(hk:k<2)(hi:i+k<b.size)(z:Int)(h0:0≤z)(h1:z≤10000000)(k':Int)(hk':k'=(k:Int)+1)(x:Int)(hx':x=byt b (i+k))
  {r:Rs} (hbad:x<128∨191<x→r=(0,[iv 0])) (hgo:¬(x<128∨191<x)→ev (q107b0c (iv k') (sv b) (iv i) (iv (64*z+x-128)))=some r):ev (q107b0c (iv k) (sv b) (iv i) (iv z))=some r:=by
 obtain⟨j,hj⟩:∃j,j=i+k:=⟨_,rfl⟩
 have h1':(k:Int)<2:=by omega
 have e1:=wtwo hj (by omega)
 have e2:IntKind.i64.wrap ((k:Int)+1)=k':=by rw[wrap_id (by omega),hk']
 have hr:=byt_range b (i+k)
 rw[←hj] at hx' hr
 have hx:=fun(k:AV→Res)=>indS (d:=Res.fail) (k:=k) (s:=b) (i:=j) (by omega)
 rw[←hx'] at hx hr
 have w0:IntKind.i64.wrap x=x:=wrap_id (by omega)
 have w1:IntKind.i64.wrap (64*z)=64*z:=wrap_id (by omega)
 have w2:IntKind.i64.wrap (64*z+x)=64*z+x:=wrap_id (by omega)
 have w3:IntKind.i64.wrap (64*z+x-128)=64*z+x-128:=wrap_id (by omega)
 by_cases h2:x<128
 ·rw[hbad (.inl h2)]
  exact Evl.of (by rw[h107b0c,g107b0c];simp[h1',e1,hx,w0,h2])
 ·by_cases h3:191<x
  ·rw[hbad (.inr h3)]
   exact Evl.of (by rw[h107b0c,g107b0c];simp[h1',e1,hx,w0,h2,h3])
  ·have hg:=hgo (by omega)
   exact Evl.of (by rw[h107b0c,g107b0c];simp[h1',e1,e2,hx,w0,w1,w2,w3,h2,h3,hg])
theorem utfc_x(b:ByteArray)(i:Nat)(hb:b.size≤1900000)(hi:i+1<b.size)(z:Int)(h0:0≤z)(h1:z≤1000)(x1:Int)(e1:x1=byt b (i+1)) :
  ev (q107b0c (iv 1) (sv b) (iv i) (iv z))=some (if x1<128∨191<x1 then(0,[iv 0]) else(1,[iv (64*z+x1-128),iv 128,iv 2])):=
 utf_cs b i hb 1 (by omega) hi z h0 (by omega) 2 rfl x1 e1 (fun h=>by rw[if_pos h]) (fun h=>by rw[if_neg h];exact utf_ce b i _)
theorem utfb_x(b:ByteArray)(i:Nat)(hb:b.size≤1900000)(hi:i+2<b.size)(z:Int)(h0:0≤z)(h1:z≤1000)(x1 x2:Int)(e1:x1=byt b (i+1))(e2:x2=byt b (i+2)) :
  ev (q107b0b (iv 1) (sv b) (iv i) (iv z))=some (if(x1<128∨191<x1)∨(x2<128∨191<x2) then(0,[iv 0]) else(1,[iv (64*(64*z+x1-128)+x2-128),iv 2048,iv 3])):=
 utf_bs b i hb 1 (by omega) (by omega) z h0 (by omega) 2 rfl x1 e1 (fun h=>by rw[if_pos (.inl h)]) (fun h=>utf_bs b i hb 2 (by omega) hi _ (by omega) (by omega) 3 rfl x2 e2 (fun h'=>by rw[if_pos (.inr h')]) (fun h'=>by rw[if_neg (fun hh=>hh.elim h h')];exact utf_be b i _))
theorem utfa_x(b:ByteArray)(i:Nat)(hb:b.size≤1900000)(hi:i+3<b.size)(z:Int)(h0:0≤z)(h1:z≤1000)(x1 x2 x3:Int)(e1:x1=byt b (i+1))(e2:x2=byt b (i+2))(e3:x3=byt b (i+3)) :
  ev (q107b0a (iv 1) (sv b) (iv i) (iv z))=some (if(x1<128∨191<x1)∨(x2<128∨191<x2)∨(x3<128∨191<x3) then(0,[iv 0]) else(1,[iv (64*(64*(64*z+x1-128)+x2-128)+x3-128),iv 65536,iv 4])):=
 utf_as b i hb 1 (by omega) (by omega) z h0 (by omega) 2 rfl x1 e1 (fun h=>by rw[if_pos (.inl h)]) (fun h=>utf_as b i hb 2 (by omega) (by omega) _ (by omega) (by omega) 3 rfl x2 e2 (fun h'=>by rw[if_pos (.inr (.inl h'))]) (fun h'=>utf_as b i hb 3 (by omega) hi _ (by omega) (by omega) 4 rfl x3 e3 (fun h''=>by rw[if_pos (.inr (.inr h''))]) (fun h''=>by rw[if_neg (fun hh=>hh.elim h (fun hh=>hh.elim h' h''))];exact utf_ae b i _)))
set_option maxHeartbeats 2000000 in
theorem utf_x(b:ByteArray)(hb:b.size≤1900000)(i:Nat)(hi:i<b.size):ev (q107 (sv b) (iv i))=some (0,[iv (utfN (D b i):Nat)]):=by
 have hx:=fun(k:AV→Res)=>indS (d:=Res.fail) (k:=k) hi
 have b0:=byteN_byt b i 0
 have b1:=byteN_byt b i 1
 have b2:=byteN_byt b i 2
 have b3:=byteN_byt b i 3
 rw[Nat.add_zero] at b0
 have l0:=byteN_lt (D b i) 0
 have l1:=byteN_lt (D b i) 1
 have l2:=byteN_lt (D b i) 2
 have l3:=byteN_lt (D b i) 3
 have hl:=D_len b i
 have hp:=prefix_iff (D b i)
 rw[←b0] at hx
 have ww:∀z:Int,0≤z→z≤2000000→IntKind.i64.wrap z=z:=fun z h1 h2=>wrap_id (by omega)
 obtain⟨c0,hc0⟩:∃c,c=Lx.byteN (D b i) 0:=⟨_,rfl⟩
 obtain⟨c1,hc1⟩:∃c,c=Lx.byteN (D b i) 1:=⟨_,rfl⟩
 obtain⟨c2,hc2⟩:∃c,c=Lx.byteN (D b i) 2:=⟨_,rfl⟩
 obtain⟨c3,hc3⟩:∃c,c=Lx.byteN (D b i) 3:=⟨_,rfl⟩
 have hdec:Lx.decL (D b i)=Lib.decodeN (D b i).length c0 c1 c2 c3:=by unfold Lx.decL;rw[hc0,hc1,hc2,hc3]
 rw[←hc0] at hx b0 l0 hp
 rw[←hc1] at b1 l1 hp
 rw[←hc2] at b2 l2 hp
 rw[←hc3] at b3 l3
 have hbad:∀(v w:Nat),Lx.decL (D b i)=(v,w)→utfN (D b i)=if v=65533∧¬(2<b.size-i∧c0=239∧c1=191∧c2=189) then 0 else w:=by
  intro v w h
  unfold utfN Lx.badL
  rw[h]
  simp only
  rw[←hl]
  cases hq:Lib.hasPrefix (D b i) [239,191,189] with
  |true=>
   have:=hp.1 hq
   rw[if_neg (by simp),if_neg (fun hh=>hh.2 this)]
  |false=>
   have hn:¬(2<(D b i).length∧c0=239∧c1=191∧c2=189):=fun h=>by rw[hp.2 h] at hq;cases hq
   by_cases hv:v=65533
   ·rw[if_pos (by simp[hv]),if_pos ⟨hv,hn⟩]
   ·have hv':¬(v:Int)=65533:=by omega
    rw[if_neg (by simp[hv']),if_neg (fun hh=>hv hh.1)]
 have fin:∀(r:Nat),(∀v w,Lx.decL (D b i)=(v,w)→(if v=65533∧¬(2<b.size-i∧c0=239∧c1=191∧c2=189) then 0 else w)=r)→utfN (D b i)=r:=by
  intro r h
  rw[hbad _ _ rfl]
  exact h _ _ rfl
 have ji1:IntKind.i64.wrap ((i:Int)+2)=(i:Int)+2:=ww _ (by omega) (by omega)
 have ji2:IntKind.i64.wrap ((i:Int)+3)=(i:Int)+3:=ww _ (by omega) (by omega)
 have ji3:IntKind.i64.wrap ((i:Int)+4)=(i:Int)+4:=ww _ (by omega) (by omega)
 have w0:=ww (c0:Int) (by omega) (by omega)
 rw[hdec,hl] at fin
 unfold Lib.decodeN at fin
 by_cases k1:c0<128
 ·rw[fin 1 (fun v w h=>by rw[if_pos k1] at h;cases h;rw[if_neg (by omega)])]
  exact Evl.of (by rw[h107,g107];simp[hx,w0,show (c0:Int)<128 by omega])
 rw[if_neg k1] at fin
 by_cases k2:c0<192
 ·rw[fin 0 (fun v w h=>by rw[if_neg (by omega),if_neg (by omega),if_neg (by omega)] at h;cases h;rw[if_pos (by omega)])]
  exact Evl.of (by rw[h107,g107];simp[hx,w0,show ¬(c0:Int)<128 by omega,show ¬(192:Int)≤c0 by omega,show ¬(224:Int)≤c0 by omega,show ¬(240:Int)≤c0 by omega])
 by_cases k3:c0<224
 ·have wz:IntKind.i64.wrap ((c0:Int)-192)=(c0:Int)-192:=ww _ (by omega) (by omega)
  by_cases s2:b.size<i+2
  ·rw[fin 0 (fun v w h=>by rw[if_neg (by omega),if_neg (by omega),if_neg (by omega)] at h;cases h;rw[if_pos (by omega)])]
   exact Evl.of (by rw[h107,g107];simp[hx,w0,wz,show ¬(c0:Int)<128 by omega,show (c0:Int)<224 by omega,ji1,show (192:Int)≤c0 by omega,show ¬(224:Int)≤c0 by omega,show ¬(240:Int)≤c0 by omega,show (b.size:Int)<(i:Int)+2 by omega])
  ·have hu:=utfc_x b i hb (by omega) ((c0:Int)-192) (by omega) (by omega) _ b1
   have hs:¬(b.size:Int)<(i:Int)+2:=by omega
   by_cases r1:(c1:Int)<128∨191<(c1:Int)
   ·rw[if_pos r1] at hu
    rw[fin 0 (fun v w h=>by rw[if_neg (by omega),if_neg (by omega),if_neg (by omega)] at h;cases h;rw[if_pos (by omega)])]
    exact Evl.of (by rw[h107,g107];simp[hx,w0,wz,show ¬(c0:Int)<128 by omega,show (c0:Int)<224 by omega,ji1,show (192:Int)≤c0 by omega,show ¬(224:Int)≤c0 by omega,show ¬(240:Int)≤c0 by omega,hs,hu])
   ·rw[if_neg r1] at hu
    obtain⟨y,hy⟩:∃y:Int,y=64*((c0:Int)-192)+(c1:Int)-128:=⟨_,rfl⟩
    rw[←hy] at hu
    by_cases v1:y<128
    ·rw[fin 0 (fun v w h=>by rw[if_pos (by omega),if_neg (by omega)] at h;cases h;rw[if_pos (by omega)])]
     exact Evl.of (by rw[h107,g107];simp[hx,w0,wz,show ¬(c0:Int)<128 by omega,show (c0:Int)<224 by omega,ji1,show (192:Int)≤c0 by omega,show ¬(224:Int)≤c0 by omega,show ¬(240:Int)≤c0 by omega,hs,hu,v1])
    ·rw[fin 2 (fun v w h=>by rw[if_pos (by omega),if_pos (by omega)] at h;cases h;rw[if_neg (by omega)])]
     exact Evl.of (by rw[h107,g107];simp[hx,w0,wz,show ¬(c0:Int)<128 by omega,show (c0:Int)<224 by omega,ji1,show (192:Int)≤c0 by omega,show ¬(224:Int)≤c0 by omega,show ¬(240:Int)≤c0 by omega,hs,hu,v1,show ¬1114111<y by omega,show ¬55296≤y by omega])
 by_cases k4:c0<240
 ·have wz:IntKind.i64.wrap ((c0:Int)-224)=(c0:Int)-224:=ww _ (by omega) (by omega)
  have wq:IntKind.i64.wrap ((c0:Int)-192)=(c0:Int)-192:=ww _ (by omega) (by omega)
  by_cases s2:b.size<i+3
  ·rw[fin 0 (fun v w h=>by rw[if_neg (by omega),if_neg (by omega),if_neg (by omega)] at h;cases h;rw[if_pos (by omega)])]
   exact Evl.of (by rw[h107,g107];simp[hx,w0,wz,wq,show ¬(c0:Int)<128 by omega,show ¬(c0:Int)<224 by omega,show (c0:Int)<240 by omega,ji2,show (192:Int)≤c0 by omega,show (224:Int)≤c0 by omega,show ¬(240:Int)≤c0 by omega,show (b.size:Int)<(i:Int)+3 by omega])
  ·have hu:=utfb_x b i hb (by omega) ((c0:Int)-224) (by omega) (by omega) _ _ b1 b2
   have hs:¬(b.size:Int)<(i:Int)+3:=by omega
   by_cases r1:((c1:Int)<128∨191<(c1:Int))∨((c2:Int)<128∨191<(c2:Int))
   ·rw[if_pos r1] at hu
    rw[fin 0 (fun v w h=>by rw[if_neg (by omega),if_neg (by omega),if_neg (by omega)] at h;cases h;rw[if_pos (by omega)])]
    exact Evl.of (by rw[h107,g107];simp[hx,w0,wz,wq,show ¬(c0:Int)<128 by omega,show ¬(c0:Int)<224 by omega,show (c0:Int)<240 by omega,ji2,show (192:Int)≤c0 by omega,show (224:Int)≤c0 by omega,show ¬(240:Int)≤c0 by omega,hs,hu])
   ·rw[if_neg r1] at hu
    obtain⟨y,hy⟩:∃y:Int,y=64*(64*((c0:Int)-224)+(c1:Int)-128)+(c2:Int)-128:=⟨_,rfl⟩
    rw[←hy] at hu
    by_cases v1:y<2048
    ·rw[fin 0 (fun v w h=>by rw[if_neg (by omega),if_pos (by omega),if_neg (by omega)] at h;cases h;rw[if_pos (by omega)])]
     exact Evl.of (by rw[h107,g107];simp[hx,w0,wz,wq,show ¬(c0:Int)<128 by omega,show ¬(c0:Int)<224 by omega,show (c0:Int)<240 by omega,ji2,show (192:Int)≤c0 by omega,show (224:Int)≤c0 by omega,show ¬(240:Int)≤c0 by omega,hs,hu,v1])
    ·by_cases v2:55296≤y∧y≤57343
     ·rw[fin 0 (fun v w h=>by rw[if_neg (by omega),if_pos (by omega),if_neg (by omega)] at h;cases h;rw[if_pos (by omega)])]
      exact Evl.of (by rw[h107,g107];simp[hx,w0,wz,wq,show ¬(c0:Int)<128 by omega,show ¬(c0:Int)<224 by omega,show (c0:Int)<240 by omega,ji2,show (192:Int)≤c0 by omega,show (224:Int)≤c0 by omega,show ¬(240:Int)≤c0 by omega,hs,hu,v1,show ¬1114111<y by omega,v2.1,v2.2])
     ·rw[fin 3 (fun v w h=>by rw[if_neg (by omega),if_pos (by omega),if_pos (by omega)] at h;cases h;rw[if_neg (by omega)])]
      by_cases v3:55296≤y
      ·exact Evl.of (by rw[h107,g107];simp[hx,w0,wz,wq,show ¬(c0:Int)<128 by omega,show ¬(c0:Int)<224 by omega,show (c0:Int)<240 by omega,ji2,show (192:Int)≤c0 by omega,show (224:Int)≤c0 by omega,show ¬(240:Int)≤c0 by omega,hs,hu,v1,show ¬1114111<y by omega,v3,show ¬y≤57343 by omega])
      ·exact Evl.of (by rw[h107,g107];simp[hx,w0,wz,wq,show ¬(c0:Int)<128 by omega,show ¬(c0:Int)<224 by omega,show (c0:Int)<240 by omega,ji2,show (192:Int)≤c0 by omega,show (224:Int)≤c0 by omega,show ¬(240:Int)≤c0 by omega,hs,hu,v1,show ¬1114111<y by omega,v3])
 by_cases k5:c0<248
 ·have wz:IntKind.i64.wrap ((c0:Int)-240)=(c0:Int)-240:=ww _ (by omega) (by omega)
  have wq:IntKind.i64.wrap ((c0:Int)-192)=(c0:Int)-192:=ww _ (by omega) (by omega)
  have wr:IntKind.i64.wrap ((c0:Int)-224)=(c0:Int)-224:=ww _ (by omega) (by omega)
  by_cases s2:b.size<i+4
  ·rw[fin 0 (fun v w h=>by rw[if_neg (by omega),if_neg (by omega),if_neg (by omega)] at h;cases h;rw[if_pos (by omega)])]
   exact Evl.of (by rw[h107,g107];simp[hx,w0,wz,wq,wr,show ¬(c0:Int)<128 by omega,show ¬(c0:Int)<224 by omega,show ¬(c0:Int)<240 by omega,show (c0:Int)<248 by omega,ji3,show (192:Int)≤c0 by omega,show (224:Int)≤c0 by omega,show (240:Int)≤c0 by omega,show (b.size:Int)<(i:Int)+4 by omega])
  ·have hu:=utfa_x b i hb (by omega) ((c0:Int)-240) (by omega) (by omega) _ _ _ b1 b2 b3
   have hs:¬(b.size:Int)<(i:Int)+4:=by omega
   by_cases r1:((c1:Int)<128∨191<(c1:Int))∨((c2:Int)<128∨191<(c2:Int))∨((c3:Int)<128∨191<(c3:Int))
   ·rw[if_pos r1] at hu
    rw[fin 0 (fun v w h=>by rw[if_neg (by omega),if_neg (by omega),if_neg (by omega)] at h;cases h;rw[if_pos (by omega)])]
    exact Evl.of (by rw[h107,g107];simp[hx,w0,wz,wq,wr,show ¬(c0:Int)<128 by omega,show ¬(c0:Int)<224 by omega,show ¬(c0:Int)<240 by omega,show (c0:Int)<248 by omega,ji3,show (192:Int)≤c0 by omega,show (224:Int)≤c0 by omega,show (240:Int)≤c0 by omega,hs,hu])
   ·rw[if_neg r1] at hu
    obtain⟨y,hy⟩:∃y:Int,y=64*(64*(64*((c0:Int)-240)+(c1:Int)-128)+(c2:Int)-128)+(c3:Int)-128:=⟨_,rfl⟩
    rw[←hy] at hu
    by_cases v1:y<65536
    ·rw[fin 0 (fun v w h=>by rw[if_neg (by omega),if_neg (by omega),if_pos (by omega),if_neg (by omega)] at h;cases h;rw[if_pos (by omega)])]
     exact Evl.of (by rw[h107,g107];simp[hx,w0,wz,wq,wr,show ¬(c0:Int)<128 by omega,show ¬(c0:Int)<224 by omega,show ¬(c0:Int)<240 by omega,show (c0:Int)<248 by omega,ji3,show (192:Int)≤c0 by omega,show (224:Int)≤c0 by omega,show (240:Int)≤c0 by omega,hs,hu,v1])
    ·by_cases v2:1114111<y
     ·rw[fin 0 (fun v w h=>by rw[if_neg (by omega),if_neg (by omega),if_pos (by omega),if_neg (by omega)] at h;cases h;rw[if_pos (by omega)])]
      exact Evl.of (by rw[h107,g107];simp[hx,w0,wz,wq,wr,show ¬(c0:Int)<128 by omega,show ¬(c0:Int)<224 by omega,show ¬(c0:Int)<240 by omega,show (c0:Int)<248 by omega,ji3,show (192:Int)≤c0 by omega,show (224:Int)≤c0 by omega,show (240:Int)≤c0 by omega,hs,hu,v1,v2])
     ·rw[fin 4 (fun v w h=>by rw[if_neg (by omega),if_neg (by omega),if_pos (by omega),if_pos (by omega)] at h;cases h;rw[if_neg (by omega)])]
      exact Evl.of (by rw[h107,g107];simp[hx,w0,wz,wq,wr,show ¬(c0:Int)<128 by omega,show ¬(c0:Int)<224 by omega,show ¬(c0:Int)<240 by omega,show (c0:Int)<248 by omega,ji3,show (192:Int)≤c0 by omega,show (224:Int)≤c0 by omega,show (240:Int)≤c0 by omega,hs,hu,v1,v2,show 55296≤y by omega,show ¬y≤57343 by omega])
 ·rw[fin 0 (fun v w h=>by rw[if_neg (by omega),if_neg (by omega),if_neg (by omega)] at h;cases h;rw[if_pos (by omega)])]
  exact Evl.of (by rw[h107,g107];simp[hx,w0,ww ((c0:Int)-192) (by omega) (by omega),ww ((c0:Int)-224) (by omega) (by omega),ww ((c0:Int)-240) (by omega) (by omega),show ¬(c0:Int)<128 by omega,show ¬(c0:Int)<224 by omega,show ¬(c0:Int)<240 by omega,show ¬(c0:Int)<248 by omega,show (192:Int)≤c0 by omega,show (224:Int)≤c0 by omega,show (240:Int)≤c0 by omega])
end Go.Proofs.YtkamjbmjjhbjcaaGreatDoor
namespace Go.Proofs.YtkamjbmjjhbjcaaGreatDoor
open Go.RowKit
theorem decL_eq(l:List UInt8):Lib.decodeL l=Lx.decL l:=Lib.decodeL_N l
theorem bad_iff(l:List UInt8):Lx.badL l=true↔(Lx.decL l).1=65533∧(Lx.decL l).2=1:=by
 have hp:=prefix_iff l
 unfold Lx.badL
 rw[Bool.and_eq_true,beq_iff_eq,Bool.not_eq_true']
 have l0:=byteN_lt l 0
 have l1:=byteN_lt l 1
 have l2:=byteN_lt l 2
 have l3:=byteN_lt l 3
 unfold Lx.decL
 generalize Lx.byteN l 0=c0 at *
 generalize Lx.byteN l 1=c1 at *
 generalize Lx.byteN l 2=c2 at *
 generalize Lx.byteN l 3=c3 at *
 generalize l.length=n at *
 have hq:(Lib.hasPrefix l [239,191,189]=false)↔¬(2<n∧c0=239∧c1=191∧c2=189):=by
  rw[←hp];simp
 rw[hq]
 by_cases hP:2<n∧c0=239∧c1=191∧c2=189
 ·obtain⟨h1,rfl,rfl,rfl⟩:=hP
  have h3:1<n:=by omega
  have e:Lib.decodeN n 239 191 189 c3=(65533,3):=by
   unfold Lib.decodeN
   rw[if_neg (by omega),if_neg (by omega),if_pos (by omega),if_pos (by omega)]
  rw[e]
  exact⟨fun h=>absurd ⟨h1,rfl,rfl,rfl⟩ h.2,fun h=>absurd h.2 (by decide)⟩
 ·have key:(Lib.decodeN n c0 c1 c2 c3).1=65533→(Lib.decodeN n c0 c1 c2 c3).2=1:=by
   unfold Lib.decodeN
   repeat' split
   all_goals (intro h;simp only at h ⊢;try omega)
  exact⟨fun h=>⟨by omega,key (by omega)⟩,fun h=>⟨by omega,hP⟩⟩
theorem utf_go(s:ByteArray)(hs:s.size≤1900000):∀(m i:Nat),s.size-i≤m→i≤s.size→ev (q68b0a (iv i) (sv s))=some (if Lib.validGoD m (D s i)=true then(1,[]) else(0,[bv false])):=by
 intro m
 induction m with
 |zero=>
  intro i h1 h2
  have e:i=s.size:=by omega
  subst e
  rw[D_nil (Nat.le_refl _)]
  refine Evl.of ?_
  rw[h68b0a,g68b0a]
  simp[Lib.validGoD]
 |succ m ih=>
  intro i h1 h2
  by_cases hi:i<s.size
  ·have hu:=utf_x s hs i hi
   have hl:=D_len s i
   have hne:D s i≠[]:=by intro h;rw[h] at hl;simp at hl;omega
   have hw:=Lib.decodeL_width (D s i)
   have hle:=Lib.decodeL_le (D s i) hne
   rw[decL_eq] at hw hle
   rw[Lib.validGoD,if_neg hne,decL_eq]
   by_cases hb:Lx.badL (D s i)=true
   ·have hb2:=(bad_iff _).1 hb
    unfold utfN at hu
    rw[if_pos hb] at hu
    rw[if_pos hb2]
    refine Evl.of ?_
    rw[h68b0a,g68b0a]
    simp[hi,hu]
   ·have hb2:¬((Lx.decL (D s i)).1=65533∧(Lx.decL (D s i)).2=1):=fun h=>hb ((bad_iff _).2 h)
    unfold utfN at hu
    rw[if_neg hb] at hu
    rw[if_neg hb2]
    generalize (Lx.decL (D s i)).2=w at *
    obtain⟨j,hj⟩:∃j,j=i+w:=⟨_,rfl⟩
    have e1:=wtwo hj (by omega)
    have hd:List.drop w (D s i)=D s j:=by rw[List.drop_drop,hj]
    have h3:=ih j (by omega) (by omega)
    rw[hd]
    refine Evl.of ?_
    rw[h68b0a,g68b0a]
    have hw0:¬(w:Int)=0:=by omega
    simp[-Int.natCast_eq_zero,hi,hu,hw0,e1,h3]
  ·have e:i=s.size:=by omega
   subst e
   rw[D_nil (Nat.le_refl _)]
   refine Evl.of ?_
   rw[h68b0a,g68b0a]
   simp[Lib.validGoD]
theorem rutf_x(s:ByteArray)(hs:s.size≤1900000):ev (q68 (sv s))=some (0,[bv (utfB s)]):=by
 have h:ev (q68b0a (iv 0) (sv s))=_:=utf_go s hs s.size 0 (by omega) (by omega)
 have e:Lib.validGoD s.size (D s 0)=utfB s:=rfl
 rw[e] at h
 refine Evl.of ?_
 rw[h68,g68]
 cases hb:utfB s<;>(rw[hb] at h;simp[h])
theorem own_x(x:Ex)(hs:x.name.size≤1900000):ev (q25 (iv x.kind) (sv x.name) (iv x.n) (iv x.t.kind) (sv x.t.name) (iv x.t.n) (tys x.t.kids) (exs x.kids) (als x.alts) (bds x.binds) (iv x.at_))=some (0,[bv (namedB x.kind x.name x.n)]):=Evl.of (by
 have h1:=gname_x x.name (by omega)
 have h2:=rup_x x.name (by omega)
 have h3:=rlow_x x.name (by omega)
 have h4:=rutf_x x.name hs
 rw[h25,g25]
 unfold namedB
 generalize nameB x.name=b1 at h1 ⊢
 generalize Lx.isUpB x.name=b2 at h2 ⊢
 generalize Lx.isLowB x.name=b3 at h3 ⊢
 generalize utfB x.name=b4 at h4 ⊢
 by_cases c1:x.kind=1
 ·by_cases d1:x.name=eB
  ·by_cases d2:0≤x.n
   ·by_cases d3:x.n≤4611686018427387903
    ·simp[c1,d1,d2,d3]
    ·simp[c1,d1,d2,d3]
   ·simp[c1,d1,d2]
  ·simp[c1,d1]
 by_cases c7:x.kind=7
 ·by_cases d2:x.name=eB
  ·by_cases d1:x.n=0
   ·simp[c1,c7,d1,d2]
   ·by_cases d3:x.n=1
    ·simp[c1,c7,d1,d2,d3]
    ·simp[c1,c7,d1,d2,d3]
  ·simp[c1,c7,d2]
 by_cases d1:x.n=0
 ·by_cases c2:x.kind=2
  ·cases b4<;>simp[c1,c7,c2,d1,h4]
  by_cases c3:x.kind=3
  ·cases b1<;>simp[c1,c7,c2,c3,d1,h1]
  by_cases c4:x.kind=4
  ·cases b2<;>simp[c1,c7,c2,c3,c4,d1,h2]
  by_cases c6:x.kind=6
  ·cases b3<;>simp[c1,c7,c2,c3,c4,c6,d1,h3]
  by_cases d2:x.name=eB
  ·simp[c1,c7,c2,c3,c4,c6,d1,d2]
  ·simp[c1,c7,c2,c3,c4,c6,d1,d2]
 ·simp[c1,c7,d1])
theorem r_everyB(l:List Bd)(hl:l.length≤2000000)(h:∀x∈l,x.name.size≤1000000000∧RGoodE x.e):ev (q26 (bds l))=some (0,[bv (l.all Bd.good)]):=by
 have lp:ev (q26b0a (iv 0) (bds l))=some (if l.all Bd.good=true then(1,[]) else(0,[bv false])):=
  all_ev l Bd.good (fun i=>q26b0a (iv (i:Int)) (bds l)) _ _ hl (fun i j x e0 hx hm hi=>by
   have h1:=gname_x x.name (h x hm).1
   have g:=(h x hm).2
   unfold RGoodE at g
   show body PG EE TT ev (q26b0a (iv (i:Int)) (bds l))=_
   rw[h26b0a,g26b0a,x.good_eq]
   cases hn:nameB x.name
   ·rw[hn] at h1;simp[hi,idxK_bds hx,h1]
   ·cases hg:x.e.good<;>(rw[hn] at h1;rw[hg] at g;simp[hi,idxK_bds hx,h1,g,e0])) (by
   show body PG EE TT ev (q26b0a (iv (l.length:Int)) (bds l))=_
   rw[h26b0a,g26b0a]
   simp)
 refine Evl.of ?_
 rw[h26,g26]
 cases hg:l.all Bd.good<;>(rw[hg] at lp;simp[lp])
theorem r_everyE(x:Ex)(hl:x.kids.length≤2000000)(h:∀y∈x.kids,RGoodE y):ev (q8b0a (iv 0) (iv x.kind) (sv x.name) (iv x.n) (iv x.t.kind) (sv x.t.name) (iv x.t.n) (tys x.t.kids) (exs x.kids) (als x.alts) (bds x.binds) (iv x.at_))=some (if x.kids.all Ex.good=true then(1,[iv x.kind,sv x.name,iv x.n,iv x.t.kind,sv x.t.name,iv x.t.n,tys x.t.kids,exs x.kids,als x.alts,bds x.binds,iv x.at_]) else(0,[iv x.kind,sv x.name,iv x.n,iv x.t.kind,sv x.t.name,iv x.t.n,tys x.t.kids,exs x.kids,als x.alts,bds x.binds,iv x.at_,bv false])):=
 all_ev x.kids Ex.good (fun i=>q8b0a (iv (i:Int)) (iv x.kind) (sv x.name) (iv x.n) (iv x.t.kind) (sv x.t.name) (iv x.t.n) (tys x.t.kids) (exs x.kids) (als x.alts) (bds x.binds) (iv x.at_)) _ _ hl (fun i j y e0 hx hm hi=>by
   have g:=h y hm
   unfold RGoodE at g
   show body PG EE TT ev (q8b0a (iv (i:Int)) (iv x.kind) (sv x.name) (iv x.n) (iv x.t.kind) (sv x.t.name) (iv x.t.n) (tys x.t.kids) (exs x.kids) (als x.alts) (bds x.binds) (iv x.at_))=_
   rw[h8b0a,g8b0a]
   cases hg:y.good<;>(rw[hg] at g;simp[hi,idxK_exs hx,g,e0])) (by
   show body PG EE TT ev (q8b0a (iv (x.kids.length:Int)) (iv x.kind) (sv x.name) (iv x.n) (iv x.t.kind) (sv x.t.name) (iv x.t.n) (tys x.t.kids) (exs x.kids) (als x.alts) (bds x.binds) (iv x.at_))=_
   rw[h8b0a,g8b0a]
   simp)
theorem r_everyA(x:Ex)(hl:x.alts.length≤2000000)(h:∀y∈x.alts,y.p.size≤2000000∧RGoodE y.e):ev (q8b2a (iv 0) (iv x.kind) (sv x.name) (iv x.n) (iv x.t.kind) (sv x.t.name) (iv x.t.n) (tys x.t.kids) (exs x.kids) (als x.alts) (bds x.binds) (iv x.at_))=some (if x.alts.all Al.good=true then(1,[iv x.kind,sv x.name,iv x.n,iv x.t.kind,sv x.t.name,iv x.t.n,tys x.t.kids,exs x.kids,als x.alts,bds x.binds,iv x.at_]) else(0,[iv x.kind,sv x.name,iv x.n,iv x.t.kind,sv x.t.name,iv x.t.n,tys x.t.kids,exs x.kids,als x.alts,bds x.binds,iv x.at_,bv false])):=
 all_ev x.alts Al.good (fun i=>q8b2a (iv (i:Int)) (iv x.kind) (sv x.name) (iv x.n) (iv x.t.kind) (sv x.t.name) (iv x.t.n) (tys x.t.kids) (exs x.kids) (als x.alts) (bds x.binds) (iv x.at_)) _ _ hl (fun i j y e0 hx hm hi=>by
   have h1:=r_goodP 2000000 y.p (h y hm).1 (Nat.le_refl _)
   have g:=(h y hm).2
   unfold RGoodE at g
   unfold RGoodP at h1
   show body PG EE TT ev (q8b2a (iv (i:Int)) (iv x.kind) (sv x.name) (iv x.n) (iv x.t.kind) (sv x.t.name) (iv x.t.n) (tys x.t.kids) (exs x.kids) (als x.alts) (bds x.binds) (iv x.at_))=_
   rw[h8b2a,g8b2a,y.good_eq]
   cases hn:y.p.good
   ·rw[hn] at h1;simp[hi,idxK_als hx,h1]
   ·cases hg:y.e.good<;>(rw[hn] at h1;rw[hg] at g;simp[hi,idxK_als hx,h1,g,e0])) (by
   show body PG EE TT ev (q8b2a (iv (x.alts.length:Int)) (iv x.kind) (sv x.name) (iv x.n) (iv x.t.kind) (sv x.t.name) (iv x.t.n) (tys x.t.kids) (exs x.kids) (als x.alts) (bds x.binds) (iv x.at_))=_
   rw[h8b2a,g8b2a]
   simp)
abbrev tabA:AV:=.cptr [(iv (-1)),i0,i0,i0,i0,i2,i1,i1,i1,i3,i2,i2,i1]
theorem tab_of{k:AV→Res}{m c:Int}(h:indexAtA PG 52 tabA m=some (.cptr [iv c]))(hc:kidsN m=c):idxK PG .fail 52 tabA (.pv (iv m)) k=k (.cptr [iv (kidsN m)]):=by
 subst hc
 exact idxK_of (fun w=>⟨fun⟨n,h1,h2⟩=>by cases h1;rw[h] at h2;cases h2;rfl,fun hw=>⟨_,rfl,by rw[hw];exact h⟩⟩) (nsa_c (by simp[NSL_cons,NSL_nil]))
theorem kids_tab{k:AV→Res}(n:Int)(h1:¬n<1)(h2:¬12<n):idxK PG .fail 52 tabA (.pv (iv n)) k=k (.cptr [iv (kidsN n)]):=by
 obtain⟨m,rfl⟩:∃m:Nat,n=(m:Int):=⟨n.toNat,by omega⟩
 match m,h1,h2 with
 |0,h1,_=>omega
 |1,_,_=>exact tab_of (m:=1) (c:=0) (by kernel_rfl) (by decide)
 |2,_,_=>exact tab_of (m:=2) (c:=0) (by kernel_rfl) (by decide)
 |3,_,_=>exact tab_of (m:=3) (c:=0) (by kernel_rfl) (by decide)
 |4,_,_=>exact tab_of (m:=4) (c:=0) (by kernel_rfl) (by decide)
 |5,_,_=>exact tab_of (m:=5) (c:=2) (by kernel_rfl) (by decide)
 |6,_,_=>exact tab_of (m:=6) (c:=1) (by kernel_rfl) (by decide)
 |7,_,_=>exact tab_of (m:=7) (c:=1) (by kernel_rfl) (by decide)
 |8,_,_=>exact tab_of (m:=8) (c:=1) (by kernel_rfl) (by decide)
 |9,_,_=>exact tab_of (m:=9) (c:=3) (by kernel_rfl) (by decide)
 |10,_,_=>exact tab_of (m:=10) (c:=2) (by kernel_rfl) (by decide)
 |11,_,_=>exact tab_of (m:=11) (c:=2) (by kernel_rfl) (by decide)
 |12,_,_=>exact tab_of (m:=12) (c:=1) (by kernel_rfl) (by decide)
 |m+13,_,h2=>omega
theorem r_goodE:∀(n:Nat) (x:Ex),x.size≤n→n≤1900000→RGoodE x:=by
 intro n
 induction n with
 |zero=>intro x h _;have:=x.size_pos;omega
 |succ n ih=>
  intro x h hn
  obtain⟨hl1,hl2,hl3,hs,hts⟩:=x.len_ok (by omega)
  have hsz:=x.size_eq
  have hk:=r_everyE x hl1 (fun y hy=>ih y (by have:=Ex.kid_size hy;omega) (by omega))
  have hb:=r_everyB x.binds hl3 (fun y hy=>⟨by have:=Ex.bind_size hy;omega,ih y.e (by have:=Ex.bind_size hy;omega) (by omega)⟩)
  have ha:=r_everyA x hl2 (fun y hy=>⟨by have:=Ex.alt_size hy;omega,ih y.e (by have:=Ex.alt_size hy;omega) (by omega)⟩)
  have hnm:=own_x x (by omega)
  have ht:=r_good 2000000 x.t hts (Nat.le_refl _)
  unfold RGood at ht
  refine Evl.of ?_
  rw[x.good_eq,h8,g8]
  unfold headB
  generalize x.kids.all Ex.good=gk at hk ⊢
  generalize x.binds.all Bd.good=gb at hb ⊢
  generalize x.alts.all Al.good=ga at ha ⊢
  generalize namedB x.kind x.name x.n=gn at hnm ⊢
  generalize x.kind=kd at hk ha hnm ⊢
  by_cases k1:kd<1
  ·have e:kidsN kd = -1:=by unfold kidsN;repeat rw[if_neg (by omega)]
   have:¬(x.kids.length:Int)=kidsN kd:=by rw[e];omega
   simp[k1,this]
  by_cases k2:12<kd
  ·have e:kidsN kd = -1:=by unfold kidsN;repeat rw[if_neg (by omega)]
   have:¬(x.kids.length:Int)=kidsN kd:=by rw[e];omega
   simp[k1,k2,this]
  have hx:=fun(k:AV→Res)=>kids_tab (k:=k) kd k1 k2
  by_cases c1:(x.kids.length:Int)=kidsN kd
  ·cases gn
   ·simp[k1,k2,hx,hnm,c1]
   by_cases c7:kd=7
   ·subst c7
    by_cases l7:0<x.binds.length
    ·by_cases l8:0<x.alts.length
     ·simp[hx,hnm,c1,l7,l8]
     ·cases gb
      ·simp[hx,hnm,c1,l7,l8,hb]
      ·unfold zeroT
       by_cases z1:x.t.kind=0
       ·rw[z1] at hk ha hnm
        by_cases z2:x.t.name=eB
        ·rw[z2] at hk ha hnm
         by_cases z3:x.t.n=0
         ·rw[z3] at hk ha hnm
          by_cases z4:0<x.t.kids.length
          ·have z5:¬x.t.kids.length=0:=by omega
           simp[hx,hnm,c1,l7,l8,hb,z1,z2,z3,z4,z5]
          ·have z5:x.t.kids.length=0:=by omega
           cases gk
           ·simp only[Bool.false_eq_true,if_false] at hk
            simp[hx,hnm,c1,l7,l8,hb,z1,z2,z3,z4,z5,hk]
           ·simp only[if_true] at hk
            cases ga
            ·simp only[Bool.false_eq_true,if_false] at ha
             simp[hx,hnm,c1,l7,l8,hb,z1,z2,z3,z4,z5,hk,ha]
            ·simp only[if_true] at ha
             simp[hx,hnm,c1,l7,l8,hb,z1,z2,z3,z4,z5,hk,ha]
         ·simp[hx,hnm,c1,l7,l8,hb,z1,z2,z3]
        ·simp[hx,hnm,c1,l7,l8,hb,z1,z2]
       ·simp[hx,hnm,c1,l7,l8,hb,z1]
    ·simp[hx,hnm,c1,l7]
   ·by_cases l7:0<x.binds.length
    ·by_cases l8:0<x.alts.length<;>simp[k1,k2,hx,hnm,c1,c7,l7,l8]
    ·by_cases c8:kd=8
     ·subst c8
      by_cases l8:0<x.alts.length
      ·cases gb
       ·simp[hx,hnm,c1,l7,l8,hb]
       ·unfold zeroT
        by_cases z1:x.t.kind=0
        ·rw[z1] at hk ha hnm
         by_cases z2:x.t.name=eB
         ·rw[z2] at hk ha hnm
          by_cases z3:x.t.n=0
          ·rw[z3] at hk ha hnm
           by_cases z4:0<x.t.kids.length
           ·have z5:¬x.t.kids.length=0:=by omega
            simp[hx,hnm,c1,l7,l8,hb,z1,z2,z3,z4,z5]
           ·have z5:x.t.kids.length=0:=by omega
            cases gk
            ·simp only[Bool.false_eq_true,if_false] at hk
             simp[hx,hnm,c1,l7,l8,hb,z1,z2,z3,z4,z5,hk]
            ·simp only[if_true] at hk
             cases ga
             ·simp only[Bool.false_eq_true,if_false] at ha
              simp[hx,hnm,c1,l7,l8,hb,z1,z2,z3,z4,z5,hk,ha]
             ·simp only[if_true] at ha
              simp[hx,hnm,c1,l7,l8,hb,z1,z2,z3,z4,z5,hk,ha]
          ·simp[hx,hnm,c1,l7,l8,hb,z1,z2,z3]
         ·simp[hx,hnm,c1,l7,l8,hb,z1,z2]
        ·simp[hx,hnm,c1,l7,l8,hb,z1]
      ·simp[hx,hnm,c1,l7,l8]
     ·by_cases l8:0<x.alts.length
      ·simp[k1,k2,hx,hnm,c1,c7,c8,l7,l8]
      ·by_cases c12:kd=12
       ·subst c12
        generalize x.t.good=gt at ht ⊢
        cases gt
        ·cases gb<;>simp[hx,hnm,c1,l7,l8,hb,ht]
        ·cases gb
         ·simp[hx,hnm,c1,l7,l8,ht,hb]
         ·cases gk
          ·simp only[Bool.false_eq_true,if_false] at hk
           simp[hx,hnm,c1,l7,l8,ht,hb,hk]
          ·simp only[if_true] at hk
           cases ga
           ·simp only[Bool.false_eq_true,if_false] at ha
            simp[hx,hnm,c1,l7,l8,ht,hb,hk,ha]
           ·simp only[if_true] at ha
            simp[hx,hnm,c1,l7,l8,ht,hb,hk,ha]
       ·cases gb
        ·simp[k1,k2,hx,hnm,c1,c7,c8,c12,l7,l8,hb]
        ·unfold zeroT
         by_cases z1:x.t.kind=0
         ·rw[z1] at hk ha hnm
          by_cases z2:x.t.name=eB
          ·rw[z2] at hk ha hnm
           by_cases z3:x.t.n=0
           ·rw[z3] at hk ha hnm
            by_cases z4:0<x.t.kids.length
            ·have z5:¬x.t.kids.length=0:=by omega
             simp[k1,k2,hx,hnm,c1,c7,c8,c12,l7,l8,hb,z1,z2,z3,z4,z5]
            ·have z5:x.t.kids.length=0:=by omega
             cases gk
             ·simp only[Bool.false_eq_true,if_false] at hk
              simp[k1,k2,hx,hnm,c1,c7,c8,c12,l7,l8,hb,z1,z2,z3,z4,z5,hk]
             ·simp only[if_true] at hk
              cases ga
              ·simp only[Bool.false_eq_true,if_false] at ha
               simp[k1,k2,hx,hnm,c1,c7,c8,c12,l7,l8,hb,z1,z2,z3,z4,z5,hk,ha]
              ·simp only[if_true] at ha
               simp[k1,k2,hx,hnm,c1,c7,c8,c12,l7,l8,hb,z1,z2,z3,z4,z5,hk,ha]
           ·simp[k1,k2,hx,hnm,c1,c7,c8,c12,l7,l8,hb,z1,z2,z3]
          ·simp[k1,k2,hx,hnm,c1,c7,c8,c12,l7,l8,hb,z1,z2]
         ·simp[k1,k2,hx,hnm,c1,c7,c8,c12,l7,l8,hb,z1]
  ·simp[k1,k2,hx,c1]
def LV:List (List ByteArray):=[[⟨#[58,61]⟩],[⟨#[124,124]⟩],[⟨#[38,38]⟩],[⟨#[61,61]⟩,⟨#[47,61]⟩,⟨#[60]⟩,⟨#[60,61]⟩,⟨#[62]⟩,⟨#[62,61]⟩],[⟨#[58,58]⟩,⟨#[94]⟩],[⟨#[43]⟩,⟨#[45]⟩],[⟨#[42]⟩,⟨#[47]⟩,⟨#[37]⟩]]
def sd(a:Nat):Nat:=if a=4 then 0 else if a<6 then 2 else 1
def lvl(s:ByteArray):Nat:=
 if s=⟨#[58,61]⟩ then 1 else
 if s=⟨#[124,124]⟩ then 2 else
 if s=⟨#[38,38]⟩ then 3 else
 if s=⟨#[61,61]⟩ then 4 else
 if s=⟨#[47,61]⟩ then 4 else
 if s=⟨#[60]⟩ then 4 else
 if s=⟨#[60,61]⟩ then 4 else
 if s=⟨#[62]⟩ then 4 else
 if s=⟨#[62,61]⟩ then 4 else
 if s=⟨#[58,58]⟩ then 5 else
 if s=⟨#[94]⟩ then 5 else
 if s=⟨#[43]⟩ then 6 else
 if s=⟨#[45]⟩ then 6 else
 if s=⟨#[42]⟩ then 7 else
 if s=⟨#[47]⟩ then 7 else
 if s=⟨#[37]⟩ then 7 else
 8
theorem lvl_x(s:ByteArray):ev (q187 (sv s))=some (0,[iv (lvl s),iv (sd (lvl s))]):=Evl.of (by
 rw[h187,g187]
 unfold lvl
 by_cases c0:s=⟨#[58,61]⟩
 ·have d0:=eq_true c0
  simp[d0]
  decide
 have d0:=eq_false c0
 by_cases c1:s=⟨#[124,124]⟩
 ·have d1:=eq_true c1
  simp[d0,d1]
  decide
 have d1:=eq_false c1
 by_cases c2:s=⟨#[38,38]⟩
 ·have d2:=eq_true c2
  simp[d0,d1,d2]
  decide
 have d2:=eq_false c2
 by_cases c3:s=⟨#[61,61]⟩
 ·have d3:=eq_true c3
  simp[d0,d1,d2,d3]
  decide
 have d3:=eq_false c3
 by_cases c4:s=⟨#[47,61]⟩
 ·have d4:=eq_true c4
  simp[d0,d1,d2,d3,d4]
  decide
 have d4:=eq_false c4
 by_cases c5:s=⟨#[60]⟩
 ·have d5:=eq_true c5
  simp[d0,d1,d2,d3,d4,d5]
  decide
 have d5:=eq_false c5
 by_cases c6:s=⟨#[60,61]⟩
 ·have d6:=eq_true c6
  simp[d0,d1,d2,d3,d4,d5,d6]
  decide
 have d6:=eq_false c6
 by_cases c7:s=⟨#[62]⟩
 ·have d7:=eq_true c7
  simp[d0,d1,d2,d3,d4,d5,d6,d7]
  decide
 have d7:=eq_false c7
 by_cases c8:s=⟨#[62,61]⟩
 ·have d8:=eq_true c8
  simp[d0,d1,d2,d3,d4,d5,d6,d7,d8]
  decide
 have d8:=eq_false c8
 by_cases c9:s=⟨#[58,58]⟩
 ·have d9:=eq_true c9
  simp[d0,d1,d2,d3,d4,d5,d6,d7,d8,d9]
  decide
 have d9:=eq_false c9
 by_cases c10:s=⟨#[94]⟩
 ·have d10:=eq_true c10
  simp[d0,d1,d2,d3,d4,d5,d6,d7,d8,d9,d10]
  decide
 have d10:=eq_false c10
 by_cases c11:s=⟨#[43]⟩
 ·have d11:=eq_true c11
  simp[d0,d1,d2,d3,d4,d5,d6,d7,d8,d9,d10,d11]
  decide
 have d11:=eq_false c11
 by_cases c12:s=⟨#[45]⟩
 ·have d12:=eq_true c12
  simp[d0,d1,d2,d3,d4,d5,d6,d7,d8,d9,d10,d11,d12]
  decide
 have d12:=eq_false c12
 by_cases c13:s=⟨#[42]⟩
 ·have d13:=eq_true c13
  simp[d0,d1,d2,d3,d4,d5,d6,d7,d8,d9,d10,d11,d12,d13]
  decide
 have d13:=eq_false c13
 by_cases c14:s=⟨#[47]⟩
 ·have d14:=eq_true c14
  simp[d0,d1,d2,d3,d4,d5,d6,d7,d8,d9,d10,d11,d12,d13,d14]
  decide
 have d14:=eq_false c14
 by_cases c15:s=⟨#[37]⟩
 ·have d15:=eq_true c15
  simp[d0,d1,d2,d3,d4,d5,d6,d7,d8,d9,d10,d11,d12,d13,d14,d15]
  decide
 have d15:=eq_false c15
 simp[d0,d1,d2,d3,d4,d5,d6,d7,d8,d9,d10,d11,d12,d13,d14,d15]
 decide)
def levelOf(s:ByteArray):List (List ByteArray)→Nat→Option Nat
 |[],_=>none
 |r::l,c=>if r.all (fun x=>!decide (x=s))=true then levelOf s l (c+1) else some (c+1)
def strsL(rs:List (List ByteArray)):List (List PV):=rs.map fun r=>[strs r]
abbrev strsR(rs:List (List ByteArray)):PV:=.rows (strsL rs)
theorem sl_strsR:SlT Tryz.prog 188 1 24:=SlT.of (by kernel_rfl)
section
variable{β:Type}{d:β}{k:AV→β}
theorem lenK_strsR(l:List (List ByteArray)):lenK Tryz.prog d 188 (.pv (strsR l)) k=k (.pv (iv l.length)):=lenK_of (fun _=>by rw[strsR,len_ok sl_strsR,strsL,List.length_map]) (nsa_lit _)
theorem idxK_strsR{l:List (List ByteArray)}{i:Nat}{x:List ByteArray}(h:l[i]? = some x):idxK Tryz.prog d 188 (.pv (strsR l)) (.pv (.lit (.int .i64 (i:Int)))) k=k (.cptr [strs x]):=
 idxK_of (fun _=>by rw[strsR];exact idx_ok sl_strsR (by rw[strsL,List.getElem?_map,h];rfl) rfl) (nsa_c (by simp[NSL_cons,NSL_nil]))
end
theorem row_x(rs:List (List ByteArray))(c:Nat)(r:List ByteArray)(s:ByteArray)(hr:rs[c]? = some r)(hl:r.length≤100)(hc:c≤100) :
  ev (q142b2a (iv 0) (strsL rs) (iv c) (sv s))=some (if r.all (fun x=>!decide (x=s))=true then(1,[iv c,strsR rs,sv s]) else(0,[iv ((c+1:Nat):Int),strsR rs])):=by
 have e1:IntKind.i64.wrap ((c:Int)+1)=((c+1:Nat):Int):=wone rfl (by omega)
 refine all_ev r (fun x=>!decide (x=s)) (fun i=>q142b2a (iv (i:Int)) (strsL rs) (iv c) (sv s)) _ _ (by omega) (fun i j x e0 hx hm hi=>?_) ?_
 ·show body PG EE TT ev (q142b2a (iv (i:Int)) (strsL rs) (iv c) (sv s))=_
  rw[h142b2a,g142b2a]
  by_cases hs:x=s
  ·simp[idxK_strsR hr,hi,idxK_strs hx,hs,e1]
  ·simp[idxK_strsR hr,hi,idxK_strs hx,hs,e0]
 ·show body PG EE TT ev (q142b2a (iv (r.length:Int)) (strsL rs) (iv c) (sv s))=_
  rw[h142b2a,g142b2a]
  simp[idxK_strsR hr]
theorem rows_x(rs:List (List ByteArray))(s:ByteArray)(hl:rs.length≤100)(hr:∀r∈rs,r.length≤100):∀(m c:Nat),c+m=rs.length→
  ev (q142b0a (iv c) (strsL rs) (sv s))=some (match levelOf s (rs.drop c) c with|some n=>(0,[iv n,strsR rs])|none=>(1,[strsR rs])):=by
 intro m
 induction m with
 |zero=>
  intro c hc
  rw[Nat.add_zero] at hc
  rw[hc,List.drop_length,levelOf]
  refine Evl.of ?_
  rw[h142b0a,g142b0a]
  simp[lenK_strsR]
 |succ m ih=>
  intro c hc
  have hlt:c<rs.length:=by omega
  have hg:=List.getElem?_eq_getElem hlt
  have h1:=row_x rs c rs[c] s hg (hr _ (List.getElem_mem hlt)) (by omega)
  obtain⟨j,hj⟩:∃j,j=c+1:=⟨_,rfl⟩
  have h2:=ih j (by omega)
  have e1:IntKind.i64.wrap ((c:Int)+1)=(j:Int):=wone hj (by omega)
  rw[List.drop_eq_getElem_cons hlt,levelOf]
  rw[←hj] at h1 ⊢
  have hci:(c:Int)<(rs.length:Int):=by omega
  refine Evl.of ?_
  rw[h142b0a,g142b0a]
  by_cases hq:rs[c].all (fun x=>!decide (x=s))=true
  ·rw[if_pos hq] at h1 ⊢
   simp only[m_L,m_L3,lV,bA,bI,lenK_strsR,pvK_pv,binK_lss,hci,decide_true]
   simp[h1,e1,h2]
  ·rw[if_neg hq] at h1 ⊢
   simp only[m_L,m_L3,lV,bA,bI,lenK_strsR,pvK_pv,binK_lss,hci,decide_true]
   simp[h1]
theorem levelOf_LV(s:ByteArray):lvl s=(levelOf s LV 0).getD 8:=by
 unfold lvl LV
 simp only[levelOf,List.all_cons,List.all_nil]
 by_cases c0:s=⟨#[58,61]⟩
 ·subst c0;decide
 have d0:=eq_false c0
 have e0:decide ((⟨#[58,61]⟩:ByteArray)=s)=false:=decide_eq_false (fun h=>c0 h.symm)
 by_cases c1:s=⟨#[124,124]⟩
 ·subst c1;decide
 have d1:=eq_false c1
 have e1:decide ((⟨#[124,124]⟩:ByteArray)=s)=false:=decide_eq_false (fun h=>c1 h.symm)
 by_cases c2:s=⟨#[38,38]⟩
 ·subst c2;decide
 have d2:=eq_false c2
 have e2:decide ((⟨#[38,38]⟩:ByteArray)=s)=false:=decide_eq_false (fun h=>c2 h.symm)
 by_cases c3:s=⟨#[61,61]⟩
 ·subst c3;decide
 have d3:=eq_false c3
 have e3:decide ((⟨#[61,61]⟩:ByteArray)=s)=false:=decide_eq_false (fun h=>c3 h.symm)
 by_cases c4:s=⟨#[47,61]⟩
 ·subst c4;decide
 have d4:=eq_false c4
 have e4:decide ((⟨#[47,61]⟩:ByteArray)=s)=false:=decide_eq_false (fun h=>c4 h.symm)
 by_cases c5:s=⟨#[60]⟩
 ·subst c5;decide
 have d5:=eq_false c5
 have e5:decide ((⟨#[60]⟩:ByteArray)=s)=false:=decide_eq_false (fun h=>c5 h.symm)
 by_cases c6:s=⟨#[60,61]⟩
 ·subst c6;decide
 have d6:=eq_false c6
 have e6:decide ((⟨#[60,61]⟩:ByteArray)=s)=false:=decide_eq_false (fun h=>c6 h.symm)
 by_cases c7:s=⟨#[62]⟩
 ·subst c7;decide
 have d7:=eq_false c7
 have e7:decide ((⟨#[62]⟩:ByteArray)=s)=false:=decide_eq_false (fun h=>c7 h.symm)
 by_cases c8:s=⟨#[62,61]⟩
 ·subst c8;decide
 have d8:=eq_false c8
 have e8:decide ((⟨#[62,61]⟩:ByteArray)=s)=false:=decide_eq_false (fun h=>c8 h.symm)
 by_cases c9:s=⟨#[58,58]⟩
 ·subst c9;decide
 have d9:=eq_false c9
 have e9:decide ((⟨#[58,58]⟩:ByteArray)=s)=false:=decide_eq_false (fun h=>c9 h.symm)
 by_cases c10:s=⟨#[94]⟩
 ·subst c10;decide
 have d10:=eq_false c10
 have e10:decide ((⟨#[94]⟩:ByteArray)=s)=false:=decide_eq_false (fun h=>c10 h.symm)
 by_cases c11:s=⟨#[43]⟩
 ·subst c11;decide
 have d11:=eq_false c11
 have e11:decide ((⟨#[43]⟩:ByteArray)=s)=false:=decide_eq_false (fun h=>c11 h.symm)
 by_cases c12:s=⟨#[45]⟩
 ·subst c12;decide
 have d12:=eq_false c12
 have e12:decide ((⟨#[45]⟩:ByteArray)=s)=false:=decide_eq_false (fun h=>c12 h.symm)
 by_cases c13:s=⟨#[42]⟩
 ·subst c13;decide
 have d13:=eq_false c13
 have e13:decide ((⟨#[42]⟩:ByteArray)=s)=false:=decide_eq_false (fun h=>c13 h.symm)
 by_cases c14:s=⟨#[47]⟩
 ·subst c14;decide
 have d14:=eq_false c14
 have e14:decide ((⟨#[47]⟩:ByteArray)=s)=false:=decide_eq_false (fun h=>c14 h.symm)
 by_cases c15:s=⟨#[37]⟩
 ·subst c15;decide
 have d15:=eq_false c15
 have e15:decide ((⟨#[37]⟩:ByteArray)=s)=false:=decide_eq_false (fun h=>c15 h.symm)
 simp[d0,e0,d1,e1,d2,e2,d3,e3,d4,e4,d5,e5,d6,e6,d7,e7,d8,e8,d9,e9,d10,e10,d11,e11,d12,e12,d13,e13,d14,e14,d15,e15]
theorem rlvl_x(s:ByteArray):ev (q142 (sv s))=some (0,[iv (lvl s)]):=by
 have h:=rows_x LV s (by decide) (by decide) LV.length 0 (by decide)
 have h0:ev (q142b0a (iv 0) (strsL LV) (sv s))=_:=h
 rw[levelOf_LV s]
 rw[List.drop_zero] at h0
 refine Evl.of ?_
 have hb:body PG EE TT ev (q142 (sv s))=cA (ev (q142b0a (iv 0) (strsL LV) (sv s))) 1 0 (fun s=>cL [strsR LV] s fun s=>cN s (.ok (0,[i8]))) (fun s=>cC s fun av s=>cL [strsR LV] s fun s=>cN s (.ok (0,[av]))):=by
  rw[h142];rfl
 rw[hb,h0]
 generalize strsR LV=q
 cases hq:levelOf s LV 0 with
 |none=>simp
 |some n=>simp
theorem side_x(n:Nat):ev (q143 (iv n))=some (0,[iv (sd n)]):=Evl.of (by
 rw[h143,g143]
 unfold sd
 by_cases c1:n=4
 ·simp[c1]
 ·have c2:¬(n:Int)=4:=by omega
  by_cases c3:n<6
  ·have c4:(n:Int)<6:=by omega
   simp[c1,c2,c3,c4]
  ·have c4:¬(n:Int)<6:=by omega
   simp[c1,c2,c3,c4])
def needs(a b:ByteArray)(right:Bool):Bool:=if lvl a=lvl b then(if right then !decide (sd (lvl a)=2) else !decide (sd (lvl a)=1)) else decide (lvl b<lvl a)
theorem needs_g0(a b:ByteArray):ev (q176g0 (sv a) (sv b))=some (0,[bv (needs a b true)]):=Evl.of (by
 have h1:=lvl_x a
 have h2:=lvl_x b
 rw[h176g0,g176g0]
 unfold needs
 generalize lvl a=x at h1 ⊢
 generalize lvl b=y at h2 ⊢
 generalize sd x=z at h1 ⊢
 by_cases c1:x=y
 ·have c2:(x:Int)=(y:Int):=by omega
  by_cases c3:z=2
  ·have c4:(z:Int)=2:=by omega
   simp[h1,h2,c1,c2,c3,c4]
  ·have c4:¬(z:Int)=2:=by omega
   simp[h1,h2,c1,c2,c3,c4]
 ·have c2:¬(x:Int)=(y:Int):=by omega
  by_cases c3:y<x
  ·have c4:(y:Int)<(x:Int):=by omega
   simp[h1,h2,c1,c2,c3,c4]
  ·have c4:¬(y:Int)<(x:Int):=by omega
   simp[h1,h2,c1,c2,c3,c4])
theorem rneeds_g0(a b:ByteArray):ev (q157g0 (sv a) (sv b))=some (0,[bv (needs a b true)]):=Evl.of (by
 have h1:=rlvl_x a
 have h2:=rlvl_x b
 have h3:=side_x (lvl a)
 rw[h157g0,g157g0]
 unfold needs
 generalize lvl a=x at h1 h3 ⊢
 generalize lvl b=y at h2 ⊢
 generalize sd x=z at h3 ⊢
 by_cases c0:y<x
 ·have c4:(y:Int)<(x:Int):=by omega
  have c1:¬x=y:=by omega
  simp[h1,h2,c0,c1,c4]
 ·have c4:¬(y:Int)<(x:Int):=by omega
  by_cases c1:x=y
  ·subst c1
   by_cases c3:z=2
   ·have c5:(z:Int)=2:=by omega
    simp[h1,h2,h3,c3,c5]
   ·have c5:¬(z:Int)=2:=by omega
    simp[h1,h2,h3,c3,c5]
  ·have c2:¬(y:Int)=(x:Int):=by omega
   simp[h1,h2,c0,c1,c2,c4])
theorem needs_g1(a b:ByteArray):ev (q176g1 (sv a) (sv b))=some (0,[bv (needs a b false)]):=Evl.of (by
 have h1:=lvl_x a
 have h2:=lvl_x b
 rw[h176g1,g176g1]
 unfold needs
 generalize lvl a=x at h1 ⊢
 generalize lvl b=y at h2 ⊢
 generalize sd x=z at h1 ⊢
 by_cases c1:x=y
 ·have c2:(x:Int)=(y:Int):=by omega
  by_cases c3:z=1
  ·have c4:(z:Int)=1:=by omega
   simp[h1,h2,c1,c2,c3,c4]
  ·have c4:¬(z:Int)=1:=by omega
   simp[h1,h2,c1,c2,c3,c4]
 ·have c2:¬(x:Int)=(y:Int):=by omega
  by_cases c3:y<x
  ·have c4:(y:Int)<(x:Int):=by omega
   simp[h1,h2,c1,c2,c3,c4]
  ·have c4:¬(y:Int)<(x:Int):=by omega
   simp[h1,h2,c1,c2,c3,c4])
theorem rneeds_g1(a b:ByteArray):ev (q157g1 (sv a) (sv b))=some (0,[bv (needs a b false)]):=Evl.of (by
 have h1:=rlvl_x a
 have h2:=rlvl_x b
 have h3:=side_x (lvl a)
 rw[h157g1,g157g1]
 unfold needs
 generalize lvl a=x at h1 h3 ⊢
 generalize lvl b=y at h2 ⊢
 generalize sd x=z at h3 ⊢
 by_cases c0:y<x
 ·have c4:(y:Int)<(x:Int):=by omega
  have c1:¬x=y:=by omega
  simp[h1,h2,c0,c1,c4]
 ·have c4:¬(y:Int)<(x:Int):=by omega
  by_cases c1:x=y
  ·subst c1
   by_cases c3:z=1
   ·have c5:(z:Int)=1:=by omega
    simp[h1,h2,h3,c3,c5]
   ·have c5:¬(z:Int)=1:=by omega
    simp[h1,h2,h3,c3,c5]
  ·have c2:¬(y:Int)=(x:Int):=by omega
   simp[h1,h2,c0,c1,c2,c4])
theorem loop_ev{α σ:Type}(l:List α)(F:Nat→σ→α→σ)(T:List α→Nat→σ→σ)(hT0:∀i s,T [] i s=s)(hT:∀x l i s,T (x::l) i s=T l (i+1) (F i s x))(I:Nat→σ→Prop)(q:Nat→σ→Q)(fin:σ→Rs)(hl:l.length≤2000000)
  (hs:∀(i j:Nat) (x:α) (s:σ),IntKind.i64.wrap ((i:Int)+1)=(j:Int)→j=i+1→l[i]? = some x→x∈l→(i:Int)<(l.length:Int)→l.drop i=x::l.drop j→I i s→I j (F i s x)∧body PG EE TT ev (q i s)=passK (ev (q j (F i s x))))
  (he:∀s,I l.length s→body PG EE TT ev (q l.length s)=.ok (fin s)) (s:σ) (h0:I 0 s):ev (q 0 s)=some (fin (T l 0 s)):=by
 have key:∀(m i:Nat) (s:σ),i+m=l.length→I i s→ev (q i s)=some (fin (T (l.drop i) i s)):=by
  intro m
  induction m with
  |zero=>
   intro i s hi hI
   rw[Nat.add_zero] at hi
   subst hi
   rw[List.drop_length,hT0]
   exact Evl.of (he s hI)
  |succ m ih=>
   intro i s hi hI
   have hlt:i<l.length:=by omega
   obtain⟨j,hj⟩:∃j,j=i+1:=⟨_,rfl⟩
   have hd:l.drop i=l[i]::l.drop j:=by rw[List.drop_eq_getElem_cons hlt,hj]
   obtain⟨h1,h2⟩:=hs i j l[i] s (wone hj (by omega)) hj (List.getElem?_eq_getElem hlt) (List.getElem_mem hlt) (by omega) hd hI
   have h3:=ih j (F i s l[i]) (by omega) h1
   rw[hd,hT,←hj]
   refine Evl.of ?_
   rw[h2,h3]
   rfl
 simpa using key l.length 0 s (by omega) h0
mutual
def Pt.lev:Pt→Nat
 |.mk _ _ _ ks _=>Pt.levs ks 0 1
def Pt.levs:List Pt→Nat→Nat→Nat
 |[],_,n=>n
 |k::l,i,n=>Pt.levs l (i+1) (max n (k.lev+if k.kids.length=0 then 0 else 1))
end
def tyIn(ar:Bool)(i:Nat)(k:Ty):Bool:=if ar then decide (i=1)||decide (k.name=sArr) else !decide (k.kids.length=0)
mutual
def Ty.lev:Ty→Nat
 |.mk _ s _ ks=>Ty.levs (decide (s=sArr)) ks 0 1
def Ty.levs(ar:Bool):List Ty→Nat→Nat→Nat
 |[],_,n=>n
 |k::l,i,n=>Ty.levs ar l (i+1) (max n (k.lev+if tyIn ar i k then 1 else 0))
end
mutual
theorem Pt.lev_le:∀x:Pt,x.lev+1≤x.size
 |.mk k s n ks a=>by
  rw[Pt.lev,Pt.size]
  have:=Pt.levs_le ks 0 1
  omega
theorem Pt.levs_le:∀(l:List Pt) (i n:Nat),Pt.levs l i n≤n+Pt.sizes l
 |[],i,n=>by rw[Pt.levs];omega
 |k::l,i,n=>by
  rw[Pt.levs,Pt.sizes]
  have h1:=Pt.lev_le k
  have h2:=Pt.levs_le l (i+1) (max n (k.lev+if k.kids.length=0 then 0 else 1))
  have h3:(if k.kids.length=0 then 0 else 1)≤1:=by split<;>omega
  omega
end
mutual
theorem Ty.lev_le:∀x:Ty,x.lev+1≤x.size
 |.mk k s n ks=>by
  rw[Ty.lev,Ty.size]
  have:=Ty.levs_le (decide (s=sArr)) ks 0 1
  omega
theorem Ty.levs_le(ar:Bool):∀(l:List Ty) (i n:Nat),Ty.levs ar l i n≤n+Ty.sizes l
 |[],i,n=>by rw[Ty.levs];omega
 |k::l,i,n=>by
  rw[Ty.levs,Ty.sizes]
  have h1:=Ty.lev_le k
  have h2:=Ty.levs_le ar l (i+1) (max n (k.lev+if tyIn ar i k then 1 else 0))
  have h3:(if tyIn ar i k=true then 1 else 0)≤1:=by split<;>omega
  omega
end
theorem Pt.lev_eq(x:Pt):x.lev=Pt.levs x.kids 0 1:=by cases x;rw[Pt.lev];rfl
theorem Ty.lev_eq(x:Ty):x.lev=Ty.levs (decide (x.name=sArr)) x.kids 0 1:=by cases x;rw[Ty.lev];rfl
theorem wsu(n:Nat)(h:n≤4000000):IntKind.i64.wrap ((n:Int)+1)=((n+1:Nat):Int):=wone rfl (by omega)
theorem inner_t(n:Nat)(h:n≤4000000):ev (q188g0 (iv n))=some (0,[iv ((n+1:Nat):Int)]):=Evl.of (by
 rw[h188g0,g188g0]
 have:=wsu n h
 simp[this])
theorem inner_f(n:Nat):ev (q188g1 (iv n))=some (0,[iv n]):=Evl.of (by
 rw[h188g1,g188g1]
 simp)
theorem max_cast(a b:Nat):max (a:Int) (b:Int)=((max a b:Nat):Int):=by omega
def PLevP(x:Pt):Prop:=ev (q178 (iv x.kind) (sv x.name) (iv x.n) (pts x.kids) (iv x.at_))=some (0,[iv (x.lev:Nat)])
def RLevP(x:Pt):Prop:=ev (q161 (iv x.kind) (sv x.name) (iv x.n) (pts x.kids) (iv x.at_))=some (0,[iv (x.lev:Nat)])
def PLevT(x:Ty):Prop:=ev (q179 (iv x.kind) (sv x.name) (iv x.n) (tys x.kids))=some (0,[iv (x.lev:Nat)])
def RLevT(x:Ty):Prop:=ev (q162 (iv x.kind) (sv x.name) (iv x.n) (tys x.kids))=some (0,[iv (x.lev:Nat)])
theorem p_levP:∀(n:Nat) (x:Pt),x.size≤n→n≤2000000→PLevP x:=by
 intro n
 induction n with
 |zero=>intro x h _;have:=x.size_pos;omega
 |succ n ih=>
  intro x h hn
  obtain⟨hl,hs⟩:=x.len_ok (by omega)
  have lp:ev (q178b0a (iv 0) (iv x.kids.length) (pts x.kids) (iv 1))=some (0,[iv ((Pt.levs x.kids 0 1:Nat):Int)]):=
   loop_ev x.kids (fun i n k=>max n (k.lev+if k.kids.length=0 then 0 else 1)) Pt.levs (fun i s=>by rw[Pt.levs]) (fun x l i s=>by rw[Pt.levs]) (fun _ s=>s≤3000000) (fun i s=>q178b0a (iv (i:Int)) (iv x.kids.length) (pts x.kids) (iv (s:Int))) (fun s=>(0,[iv (s:Int)])) hl (fun i j y s e0 hj hx hm hi hd hI=>by
    have g:=ih y (by have:=Pt.kid_size hm;omega) (by omega)
    have hy:=y.lev_le
    have hz:=Pt.kid_size hm
    unfold PLevP at g
    have g1:=inner_t y.lev (by omega)
    have g2:=inner_f y.lev
    have w1:=wsu y.lev (by omega)
    have e5:max (s:Int) ((y.lev:Int)+1)=((max s (y.lev+1):Nat):Int):=by omega
    have e6:max (s:Int) (y.lev:Int)=((max s y.lev:Nat):Int):=by omega
    refine⟨by show max s _≤_;split<;>omega,?_⟩
    rw[h178b0a,g178b0a]
    by_cases c:0<y.kids.length
    ·have c2:¬y.kids.length=0:=by omega
     simp[hi,idxK_pts hx,c,c2,g,g1,e0]
     rw[e5]
    ·have c2:y.kids.length=0:=by omega
     simp[hi,idxK_pts hx,c,c2,g,g2,e0]
     rw[e6]) (fun s hI=>by
    rw[h178b0a,g178b0a]
    simp) 1 (by omega)
  refine Evl.of ?_
  rw[h178,g178,x.lev_eq]
  simp[lp]
theorem r_levP:∀(n:Nat) (x:Pt),x.size≤n→n≤2000000→RLevP x:=by
 intro n
 induction n with
 |zero=>intro x h _;have:=x.size_pos;omega
 |succ n ih=>
  intro x h hn
  obtain⟨hl,hs⟩:=x.len_ok (by omega)
  have lp:ev (q161b0a (iv 0) (iv 1) (iv x.kind) (sv x.name) (iv x.n) (pts x.kids) (iv x.at_))=some (0,[iv x.kind,sv x.name,iv x.n,pts x.kids,iv x.at_,iv ((Pt.levs x.kids 0 1:Nat):Int)]):=
   loop_ev x.kids (fun i n k=>max n (k.lev+if k.kids.length=0 then 0 else 1)) Pt.levs (fun i s=>by rw[Pt.levs]) (fun x l i s=>by rw[Pt.levs]) (fun _ s=>s≤3000000) (fun i s=>q161b0a (iv (i:Int)) (iv (s:Int)) (iv x.kind) (sv x.name) (iv x.n) (pts x.kids) (iv x.at_)) (fun s=>(0,[iv x.kind,sv x.name,iv x.n,pts x.kids,iv x.at_,iv (s:Int)])) hl (fun i j y s e0 hj hx hm hi hd hI=>by
    have g:=ih y (by have:=Pt.kid_size hm;omega) (by omega)
    have hy:=y.lev_le
    have hz:=Pt.kid_size hm
    unfold RLevP at g
    have g1:=inner_t y.lev (by omega)
    have g2:=inner_f y.lev
    have w1:=wsu y.lev (by omega)
    have e5:max (s:Int) ((y.lev:Int)+1)=((max s (y.lev+1):Nat):Int):=by omega
    have e6:max (s:Int) (y.lev:Int)=((max s y.lev:Nat):Int):=by omega
    refine⟨by show max s _≤_;split<;>omega,?_⟩
    rw[h161b0a,g161b0a]
    by_cases c:0<y.kids.length
    ·have c2:¬y.kids.length=0:=by omega
     by_cases c3:s<y.lev+1
     ·have c4:(s:Int)<(y.lev:Int)+1:=by omega
      have c5:max s (y.lev+1)=y.lev+1:=by omega
      simp[hi,idxK_pts hx,c,c2,g,w1,e0,c4,c5]
     ·have c4:¬(s:Int)<(y.lev:Int)+1:=by omega
      have c5:max s (y.lev+1)=s:=by omega
      simp[hi,idxK_pts hx,c,c2,g,w1,e0,c4,c5]
    ·have c2:y.kids.length=0:=by omega
     by_cases c3:s<y.lev
     ·have c4:(s:Int)<(y.lev:Int):=by omega
      have c5:max s y.lev=y.lev:=by omega
      simp[hi,idxK_pts hx,c,c2,g,e0,c4,c5]
     ·have c4:¬(s:Int)<(y.lev:Int):=by omega
      have c5:max s y.lev=s:=by omega
      simp[hi,idxK_pts hx,c,c2,g,e0,c4,c5]) (fun s hI=>by
    rw[h161b0a,g161b0a]
    simp) 1 (by omega)
  refine Evl.of ?_
  rw[h161,g161,x.lev_eq]
  simp[lp]
theorem p_levT:∀(n:Nat) (x:Ty),x.size≤n→n≤2000000→PLevT x:=by
 intro n
 induction n with
 |zero=>intro x h _;have:=x.size_pos;omega
 |succ n ih=>
  intro x h hn
  obtain⟨hl,hs⟩:=x.len_ok (by omega)
  have lp:ev (q179b0a (iv 0) (iv x.kids.length) (tys x.kids) (iv 1) (iv x.kind) (sv x.name) (iv x.n) (tys x.kids))=some (0,[iv x.kind,sv x.name,iv x.n,tys x.kids,iv ((Ty.levs (decide (x.name=sArr)) x.kids 0 1:Nat):Int)]):=
   loop_ev x.kids (fun i n k=>max n (k.lev+if tyIn (decide (x.name=sArr)) i k then 1 else 0)) (Ty.levs (decide (x.name=sArr))) (fun i s=>by rw[Ty.levs]) (fun x l i s=>by rw[Ty.levs]) (fun _ s=>s≤3000000) (fun i s=>q179b0a (iv (i:Int)) (iv x.kids.length) (tys x.kids) (iv (s:Int)) (iv x.kind) (sv x.name) (iv x.n) (tys x.kids)) (fun s=>(0,[iv x.kind,sv x.name,iv x.n,tys x.kids,iv (s:Int)])) hl (fun i j y s e0 hj hx hm hi hd hI=>by
    have g:=ih y (by have:=Ty.kid_size hm;omega) (by omega)
    have hy:=y.lev_le
    have hz:=Ty.kid_size hm
    unfold PLevT at g
    have g1:=inner_t y.lev (by omega)
    have g2:=inner_f y.lev
    have w1:=wsu y.lev (by omega)
    have e5:max (s:Int) ((y.lev:Int)+1)=((max s (y.lev+1):Nat):Int):=by omega
    have e6:max (s:Int) (y.lev:Int)=((max s y.lev:Nat):Int):=by omega
    refine⟨by show max s _≤_;split<;>omega,?_⟩
    rw[h179b0a,g179b0a]
    by_cases a1:x.name=sArr
    ·by_cases a2:i=1
     ·have t:tyIn true i y=true:=by unfold tyIn;simp[a2]
      have a3:(i:Int)=1:=by omega
      rw[show decide (x.name=sArr)=true from decide_eq_true a1,t]
      simp[hi,idxK_tys hx,a1,eq_true a3,g,g1,e0]
      rw[e5]
     ·have a3:¬(i:Int)=1:=by omega
      by_cases a4:y.name=sArr
      ·have t:tyIn true i y=true:=by unfold tyIn;simp[a4]
       rw[a4] at g
       rw[show decide (x.name=sArr)=true from decide_eq_true a1,t]
       simp[hi,idxK_tys hx,a1,a3,a4,g,g1,e0]
       rw[e5]
      ·have t:tyIn true i y=false:=by unfold tyIn;simp[a2,a4]
       rw[show decide (x.name=sArr)=true from decide_eq_true a1,t]
       simp[hi,idxK_tys hx,a1,a3,a4,g,g2,e0]
       rw[e6]
    ·by_cases c:0<y.kids.length
     ·have c2:¬y.kids.length=0:=by omega
      have t:tyIn false i y=true:=by unfold tyIn;simp[c2]
      rw[show decide (x.name=sArr)=false from decide_eq_false a1,t]
      simp[hi,idxK_tys hx,a1,c,c2,g,g1,e0]
      rw[e5]
     ·have c2:y.kids.length=0:=by omega
      have t:tyIn false i y=false:=by unfold tyIn;simp[c2]
      rw[show decide (x.name=sArr)=false from decide_eq_false a1,t]
      simp[hi,idxK_tys hx,a1,c,c2,g,g2,e0]
      rw[e6]) (fun s hI=>by
    rw[h179b0a,g179b0a]
    simp) 1 (by omega)
  refine Evl.of ?_
  rw[h179,g179,x.lev_eq]
  simp[lp]
theorem r_levT:∀(n:Nat) (x:Ty),x.size≤n→n≤2000000→RLevT x:=by
 intro n
 induction n with
 |zero=>intro x h _;have:=x.size_pos;omega
 |succ n ih=>
  intro x h hn
  obtain⟨hl,hs⟩:=x.len_ok (by omega)
  have lp:ev (q162b0a (iv 0) (iv 1) (iv x.kind) (sv x.name) (iv x.n) (tys x.kids))=some (0,[iv x.kind,sv x.name,iv x.n,tys x.kids,iv ((Ty.levs (decide (x.name=sArr)) x.kids 0 1:Nat):Int)]):=
   loop_ev x.kids (fun i n k=>max n (k.lev+if tyIn (decide (x.name=sArr)) i k then 1 else 0)) (Ty.levs (decide (x.name=sArr))) (fun i s=>by rw[Ty.levs]) (fun x l i s=>by rw[Ty.levs]) (fun _ s=>s≤3000000) (fun i s=>q162b0a (iv (i:Int)) (iv (s:Int)) (iv x.kind) (sv x.name) (iv x.n) (tys x.kids)) (fun s=>(0,[iv x.kind,sv x.name,iv x.n,tys x.kids,iv (s:Int)])) hl (fun i j y s e0 hj hx hm hi hd hI=>by
    have g:=ih y (by have:=Ty.kid_size hm;omega) (by omega)
    have hy:=y.lev_le
    have hz:=Ty.kid_size hm
    unfold RLevT at g
    have g1:=inner_t y.lev (by omega)
    have g2:=inner_f y.lev
    have w1:=wsu y.lev (by omega)
    have e5:max (s:Int) ((y.lev:Int)+1)=((max s (y.lev+1):Nat):Int):=by omega
    have e6:max (s:Int) (y.lev:Int)=((max s y.lev:Nat):Int):=by omega
    refine⟨by show max s _≤_;split<;>omega,?_⟩
    rw[h162b0a,g162b0a]
    by_cases a1:x.name=sArr
    ·by_cases a2:i=1
     ·have t:tyIn true i y=true:=by unfold tyIn;simp[a2]
      have a3:(i:Int)=1:=by omega
      rw[show decide (x.name=sArr)=true from decide_eq_true a1,t]
      by_cases c3:s<y.lev+1
      ·have c4:(s:Int)<(y.lev:Int)+1:=by omega
       have c5:max s (y.lev+1)=y.lev+1:=by omega
       simp[hi,idxK_tys hx,a1,eq_true a3,g,w1,e0,c4,c5]
      ·have c4:¬(s:Int)<(y.lev:Int)+1:=by omega
       have c5:max s (y.lev+1)=s:=by omega
       simp[hi,idxK_tys hx,a1,eq_true a3,g,w1,e0,c4,c5]
     ·have a3:¬(i:Int)=1:=by omega
      by_cases a4:y.name=sArr
      ·have t:tyIn true i y=true:=by unfold tyIn;simp[a4]
       rw[a4] at g
       rw[show decide (x.name=sArr)=true from decide_eq_true a1,t]
       by_cases c3:s<y.lev+1
       ·have c4:(s:Int)<(y.lev:Int)+1:=by omega
        have c5:max s (y.lev+1)=y.lev+1:=by omega
        simp[hi,idxK_tys hx,a1,a3,a4,g,w1,e0,c4,c5]
       ·have c4:¬(s:Int)<(y.lev:Int)+1:=by omega
        have c5:max s (y.lev+1)=s:=by omega
        simp[hi,idxK_tys hx,a1,a3,a4,g,w1,e0,c4,c5]
      ·have t:tyIn true i y=false:=by unfold tyIn;simp[a2,a4]
       rw[show decide (x.name=sArr)=true from decide_eq_true a1,t]
       by_cases c3:s<y.lev
       ·have c4:(s:Int)<(y.lev:Int):=by omega
        have c5:max s (y.lev)=y.lev:=by omega
        simp[hi,idxK_tys hx,a1,a3,a4,g,w1,e0,c4,c5]
       ·have c4:¬(s:Int)<(y.lev:Int):=by omega
        have c5:max s (y.lev)=s:=by omega
        simp[hi,idxK_tys hx,a1,a3,a4,g,w1,e0,c4,c5]
    ·by_cases c:0<y.kids.length
     ·have c2:¬y.kids.length=0:=by omega
      have t:tyIn false i y=true:=by unfold tyIn;simp[c2]
      rw[show decide (x.name=sArr)=false from decide_eq_false a1,t]
      by_cases c3:s<y.lev+1
      ·have c4:(s:Int)<(y.lev:Int)+1:=by omega
       have c5:max s (y.lev+1)=y.lev+1:=by omega
       simp[hi,idxK_tys hx,a1,c,c2,g,w1,e0,c4,c5]
      ·have c4:¬(s:Int)<(y.lev:Int)+1:=by omega
       have c5:max s (y.lev+1)=s:=by omega
       simp[hi,idxK_tys hx,a1,c,c2,g,w1,e0,c4,c5]
     ·have c2:y.kids.length=0:=by omega
      have t:tyIn false i y=false:=by unfold tyIn;simp[c2]
      rw[show decide (x.name=sArr)=false from decide_eq_false a1,t]
      by_cases c3:s<y.lev
      ·have c4:(s:Int)<(y.lev:Int):=by omega
       have c5:max s (y.lev)=y.lev:=by omega
       simp[hi,idxK_tys hx,a1,c,c2,g,w1,e0,c4,c5]
      ·have c4:¬(s:Int)<(y.lev:Int):=by omega
       have c5:max s (y.lev)=s:=by omega
       simp[hi,idxK_tys hx,a1,c,c2,g,w1,e0,c4,c5]) (fun s hI=>by
    rw[h162b0a,g162b0a]
    simp) 1 (by omega)
  refine Evl.of ?_
  rw[h162,g162,x.lev_eq]
  simp[lp]
end Go.Proofs.YtkamjbmjjhbjcaaGreatDoor
