/- Joined texts. -/
import Derived.Test.YtijcobeebaceoaaGreatDoorBam
import Derived.Test.YtijcobeebaceoaaGreatDoorBai
set_option linter.unusedVariables false
set_option linter.unusedSimpArgs false
set_option linter.unusedSectionVars false
namespace Go.Proofs.YtijcobeebaceoaaGreatDoor
open Go.RowKit
theorem uY(b:ByteArray)(i k:Nat):(Lx.byteN (D b i) k:Int)=byt b (i+k):=by
 unfold Lx.byteN byt;rw[List.getD_eq_getElem?_getD,List.getD_eq_getElem?_getD,List.getElem?_drop]
theorem yD(l:List UInt8)(k:Nat):Lx.byteN l k<256:=UInt8.toNat_lt _
theorem NP:∀(l:List UInt8),Lib.hasPrefix l [239,191,189]=true↔(2<l.length∧Lx.byteN l 0=239∧Lx.byteN l 1=191∧Lx.byteN l 2=189)
 |[]=>by simp[Lib.hasPrefix,List.isPrefixOf]
 |[a]=>by simp[Lib.hasPrefix,List.isPrefixOf]
 |[a,c]=>by simp[Lib.hasPrefix,List.isPrefixOf]
 |a::c::d::r=>by
  have h:∀(x y:UInt8),(x==y)=decide (y.toNat=x.toNat):=by
   intro x y;rw[Bool.eq_iff_iff,beq_iff_eq,decide_eq_true_eq];exact⟨fun e=>by rw[e],fun e=>UInt8.toNat_inj.1 e.symm⟩
  simp[Lib.hasPrefix,List.isPrefixOf,Lx.byteN,h]
def VO(l:List UInt8):Nat:=if Lx.badL l=true then 0 else(Lx.decL l).2
theorem agI(b:ByteArray)(i:Nat)(z:Int):ev (xJ (iv 4) (sv b) (iv i) (iv z))=some (1,[iv z,iv 65536,iv 4]):=ay.of (by rw[BO];simp)
theorem Ni(b:ByteArray)(i:Nat)(hb:b.size≤1000000)(k:Nat)(hk:k<4)(hi:i+k<b.size)(z:Int)(h0:0≤z)(h1:z≤10000000)(k':Int)(hk':k'=(k:Int)+1)(x:Int)(hx':x=byt b (i+k))
  {r:Rs} (hbad:x<128∨191<x→r=(0,[iv 0])) (hgo:¬(x<128∨191<x)→ev (xJ (iv k') (sv b) (iv i) (iv (64*z+x-128)))=some r):ev (xJ (iv k) (sv b) (iv i) (iv z))=some r:=by
 obtain⟨j,hj⟩:∃j,j=i+k:=⟨_,rfl⟩;have h1':(k:Int)<4:=by omega
 have e1:=abQ hj (by omega);have e2:IntKind.i64.wrap ((k:Int)+1)=k':=by rw[aP (by omega),hk']
 have hr:=zJ b (i+k);rw[←hj] at hx' hr;have hx:=fun(k:AV→aM)=>nX (d:=aM.fail) (k:=k) (s:=b) (i:=j) (by omega)
 rw[←hx'] at hx hr;have w0:IntKind.i64.wrap x=x:=aP (by omega);have w1:IntKind.i64.wrap (64*z)=64*z:=aP (by omega);have w2:IntKind.i64.wrap (64*z+x)=64*z+x:=aP (by omega);have w3:IntKind.i64.wrap (64*z+x-128)=64*z+x-128:=aP (by omega);by_cases h2:x<128
 ·rw[hbad (.inl h2)]
  exact ay.of (by rw[BO];simp[h1',e1,hx,w0,h2])
 ·by_cases h3:191<x
  ·rw[hbad (.inr h3)]
   exact ay.of (by rw[BO];simp[h1',e1,hx,w0,h2,h3])
  ·have hg:=hgo (by omega)
   exact ay.of (by rw[BO];simp[h1',e1,e2,hx,w0,w1,w2,w3,h2,h3,hg])
theorem agH(b:ByteArray)(i:Nat)(z:Int):ev (xI (iv 3) (sv b) (iv i) (iv z))=some (1,[iv z,iv 2048,iv 3]):=ay.of (by rw[BN];simp)
theorem VN(b:ByteArray)(i:Nat)(hb:b.size≤1000000)(k:Nat)(hk:k<3)(hi:i+k<b.size)(z:Int)(h0:0≤z)(h1:z≤10000000)(k':Int)(hk':k'=(k:Int)+1)(x:Int)(hx':x=byt b (i+k))
  {r:Rs} (hbad:x<128∨191<x→r=(0,[iv 0])) (hgo:¬(x<128∨191<x)→ev (xI (iv k') (sv b) (iv i) (iv (64*z+x-128)))=some r):ev (xI (iv k) (sv b) (iv i) (iv z))=some r:=by
 obtain⟨j,hj⟩:∃j,j=i+k:=⟨_,rfl⟩;have h1':(k:Int)<3:=by omega
 have e1:=abQ hj (by omega);have e2:IntKind.i64.wrap ((k:Int)+1)=k':=by rw[aP (by omega),hk']
 have hr:=zJ b (i+k);rw[←hj] at hx' hr;have hx:=fun(k:AV→aM)=>nX (d:=aM.fail) (k:=k) (s:=b) (i:=j) (by omega)
 rw[←hx'] at hx hr;have w0:IntKind.i64.wrap x=x:=aP (by omega);have w1:IntKind.i64.wrap (64*z)=64*z:=aP (by omega);have w2:IntKind.i64.wrap (64*z+x)=64*z+x:=aP (by omega);have w3:IntKind.i64.wrap (64*z+x-128)=64*z+x-128:=aP (by omega);by_cases h2:x<128
 ·rw[hbad (.inl h2)]
  exact ay.of (by rw[BN];simp[h1',e1,hx,w0,h2])
 ·by_cases h3:191<x
  ·rw[hbad (.inr h3)]
   exact ay.of (by rw[BN];simp[h1',e1,hx,w0,h2,h3])
  ·have hg:=hgo (by omega)
   exact ay.of (by rw[BN];simp[h1',e1,e2,hx,w0,w1,w2,w3,h2,h3,hg])
theorem agG(b:ByteArray)(i:Nat)(z:Int):ev (xH (iv 2) (sv b) (iv i) (iv z))=some (1,[iv z,iv 128,iv 2]):=ay.of (by rw[BM];simp)
theorem agF(b:ByteArray)(i:Nat)(hb:b.size≤1000000)(k:Nat)(hk:k<2)(hi:i+k<b.size)(z:Int)(h0:0≤z)(h1:z≤10000000)(k':Int)(hk':k'=(k:Int)+1)(x:Int)(hx':x=byt b (i+k))
  {r:Rs} (hbad:x<128∨191<x→r=(0,[iv 0])) (hgo:¬(x<128∨191<x)→ev (xH (iv k') (sv b) (iv i) (iv (64*z+x-128)))=some r):ev (xH (iv k) (sv b) (iv i) (iv z))=some r:=by
 obtain⟨j,hj⟩:∃j,j=i+k:=⟨_,rfl⟩;have h1':(k:Int)<2:=by omega
 have e1:=abQ hj (by omega);have e2:IntKind.i64.wrap ((k:Int)+1)=k':=by rw[aP (by omega),hk']
 have hr:=zJ b (i+k);rw[←hj] at hx' hr;have hx:=fun(k:AV→aM)=>nX (d:=aM.fail) (k:=k) (s:=b) (i:=j) (by omega)
 rw[←hx'] at hx hr;have w0:IntKind.i64.wrap x=x:=aP (by omega);have w1:IntKind.i64.wrap (64*z)=64*z:=aP (by omega);have w2:IntKind.i64.wrap (64*z+x)=64*z+x:=aP (by omega);have w3:IntKind.i64.wrap (64*z+x-128)=64*z+x-128:=aP (by omega);by_cases h2:x<128
 ·rw[hbad (.inl h2)]
  exact ay.of (by rw[BM];simp[h1',e1,hx,w0,h2])
 ·by_cases h3:191<x
  ·rw[hbad (.inr h3)]
   exact ay.of (by rw[BM];simp[h1',e1,hx,w0,h2,h3])
  ·have hg:=hgo (by omega)
   exact ay.of (by rw[BM];simp[h1',e1,e2,hx,w0,w1,w2,w3,h2,h3,hg])
theorem agC(b:ByteArray)(i:Nat)(hb:b.size≤1000000)(hi:i+1<b.size)(z:Int)(h0:0≤z)(h1:z≤1000)(x1:Int)(e1:x1=byt b (i+1)) :
  ev (xH (iv 1) (sv b) (iv i) (iv z))=some (if x1<128∨191<x1 then(0,[iv 0]) else(1,[iv (64*z+x1-128),iv 128,iv 2])):=
 agF b i hb 1 (by omega) hi z h0 (by omega) 2 rfl x1 e1 (fun h=>by rw[if_pos h]) (fun h=>by rw[if_neg h];exact agG b i _)
theorem agD(b:ByteArray)(i:Nat)(hb:b.size≤1000000)(hi:i+2<b.size)(z:Int)(h0:0≤z)(h1:z≤1000)(x1 x2:Int)(e1:x1=byt b (i+1))(e2:x2=byt b (i+2)) :
  ev (xI (iv 1) (sv b) (iv i) (iv z))=some (if(x1<128∨191<x1)∨(x2<128∨191<x2) then(0,[iv 0]) else(1,[iv (64*(64*z+x1-128)+x2-128),iv 2048,iv 3])):=
 VN b i hb 1 (by omega) (by omega) z h0 (by omega) 2 rfl x1 e1 (fun h=>by rw[if_pos (.inl h)]) (fun h=>VN b i hb 2 (by omega) hi _ (by omega) (by omega) 3 rfl x2 e2 (fun h'=>by rw[if_pos (.inr h')]) (fun h'=>by rw[if_neg (fun hh=>hh.elim h h')];exact agH b i _))
theorem agE(b:ByteArray)(i:Nat)(hb:b.size≤1000000)(hi:i+3<b.size)(z:Int)(h0:0≤z)(h1:z≤1000)(x1 x2 x3:Int)(e1:x1=byt b (i+1))(e2:x2=byt b (i+2))(e3:x3=byt b (i+3)) :
  ev (xJ (iv 1) (sv b) (iv i) (iv z))=some (if(x1<128∨191<x1)∨(x2<128∨191<x2)∨(x3<128∨191<x3) then(0,[iv 0]) else(1,[iv (64*(64*(64*z+x1-128)+x2-128)+x3-128),iv 65536,iv 4])):=
 Ni b i hb 1 (by omega) (by omega) z h0 (by omega) 2 rfl x1 e1 (fun h=>by rw[if_pos (.inl h)]) (fun h=>Ni b i hb 2 (by omega) (by omega) _ (by omega) (by omega) 3 rfl x2 e2 (fun h'=>by rw[if_pos (.inr (.inl h'))]) (fun h'=>Ni b i hb 3 (by omega) hi _ (by omega) (by omega) 4 rfl x3 e3 (fun h''=>by rw[if_pos (.inr (.inr h''))]) (fun h''=>by rw[if_neg (fun hh=>hh.elim h (fun hh=>hh.elim h' h''))];exact agI b i _)))
set_option maxHeartbeats 2000000 in
theorem ajw(b:ByteArray)(hb:b.size≤1000000)(i:Nat)(hi:i<b.size):ev (ak0 (sv b) (iv i))=some (0,[iv (VO (D b i):Nat)]):=by
 have hx:=fun(k:AV→aM)=>nX (d:=aM.fail) (k:=k) hi
 have b0:=uY b i 0;have b1:=uY b i 1;have b2:=uY b i 2;have b3:=uY b i 3;rw[Nat.add_zero] at b0;have l0:=yD (D b i) 0;have l1:=yD (D b i) 1;have l2:=yD (D b i) 2;have l3:=yD (D b i) 3;have hl:=nu b i;have hp:=NP (D b i);rw[←b0] at hx;have ww:∀z:Int,0≤z→z≤2000000→IntKind.i64.wrap z=z:=fun z h1 h2=>aP (by omega)
 obtain⟨c0,hc0⟩:∃c,c=Lx.byteN (D b i) 0:=⟨_,rfl⟩;obtain⟨c1,hc1⟩:∃c,c=Lx.byteN (D b i) 1:=⟨_,rfl⟩;obtain⟨c2,hc2⟩:∃c,c=Lx.byteN (D b i) 2:=⟨_,rfl⟩;obtain⟨c3,hc3⟩:∃c,c=Lx.byteN (D b i) 3:=⟨_,rfl⟩;have hdec:Lx.decL (D b i)=Lib.decodeN (D b i).length c0 c1 c2 c3:=by unfold Lx.decL;rw[hc0,hc1,hc2,hc3]
 rw[←hc0] at hx b0 l0 hp;rw[←hc1] at b1 l1 hp;rw[←hc2] at b2 l2 hp;rw[←hc3] at b3 l3;have hbad:∀(v w:Nat),Lx.decL (D b i)=(v,w)→VO (D b i)=if v=65533∧¬(2<b.size-i∧c0=239∧c1=191∧c2=189) then 0 else w:=by
  intro v w h;unfold VO Lx.badL;rw[h];simp only;rw[←hl];cases hq:Lib.hasPrefix (D b i) [239,191,189] with
  |true=>
   have:=hp.1 hq;rw[if_neg (by simp),if_neg (fun hh=>hh.2 this)]
  |false=>
   have hn:¬(2<(D b i).length∧c0=239∧c1=191∧c2=189):=fun h=>by rw[hp.2 h] at hq;cases hq
   by_cases hv:v=65533
   ·rw[if_pos (by simp[hv]),if_pos ⟨hv,hn⟩]
   ·have hv':¬(v:Int)=65533:=by omega
    rw[if_neg (by simp[hv']),if_neg (fun hh=>hv hh.1)]
 have fin:∀(r:Nat),(∀v w,Lx.decL (D b i)=(v,w)→(if v=65533∧¬(2<b.size-i∧c0=239∧c1=191∧c2=189) then 0 else w)=r)→VO (D b i)=r:=by
  intro r h;rw[hbad _ _ rfl];exact h _ _ rfl
 have ji1:IntKind.i64.wrap ((i:Int)+2)=(i:Int)+2:=ww _ (by omega) (by omega);have ji2:IntKind.i64.wrap ((i:Int)+3)=(i:Int)+3:=ww _ (by omega) (by omega);have ji3:IntKind.i64.wrap ((i:Int)+4)=(i:Int)+4:=ww _ (by omega) (by omega);have w0:=ww (c0:Int) (by omega) (by omega);rw[hdec,hl] at fin;unfold Lib.decodeN at fin;by_cases k1:c0<128
 ·rw[fin 1 (fun v w h=>by rw[if_pos k1] at h;cases h;rw[if_neg (by omega)])]
  exact ay.of (by rw[h112];simp[hx,w0,show (c0:Int)<128 by omega])
 rw[if_neg k1] at fin;by_cases k2:c0<192
 ·rw[fin 0 (fun v w h=>by rw[if_neg (by omega),if_neg (by omega),if_neg (by omega)] at h;cases h;rw[if_pos (by omega)])]
  exact ay.of (by rw[h112];simp[hx,w0,show ¬(c0:Int)<128 by omega,show ¬(192:Int)≤c0 by omega,show ¬(224:Int)≤c0 by omega,show ¬(240:Int)≤c0 by omega])
 by_cases k3:c0<224
 ·have wz:IntKind.i64.wrap ((c0:Int)-192)=(c0:Int)-192:=ww _ (by omega) (by omega)
  by_cases s2:b.size<i+2
  ·rw[fin 0 (fun v w h=>by rw[if_neg (by omega),if_neg (by omega),if_neg (by omega)] at h;cases h;rw[if_pos (by omega)])]
   exact ay.of (by rw[h112];simp[hx,w0,wz,show ¬(c0:Int)<128 by omega,show (c0:Int)<224 by omega,ji1,show (192:Int)≤c0 by omega,show ¬(224:Int)≤c0 by omega,show ¬(240:Int)≤c0 by omega,show (b.size:Int)<(i:Int)+2 by omega])
  ·have hu:=agC b i hb (by omega) ((c0:Int)-192) (by omega) (by omega) _ b1
   have hs:¬(b.size:Int)<(i:Int)+2:=by omega
   by_cases r1:(c1:Int)<128∨191<(c1:Int)
   ·rw[if_pos r1] at hu
    rw[fin 0 (fun v w h=>by rw[if_neg (by omega),if_neg (by omega),if_neg (by omega)] at h;cases h;rw[if_pos (by omega)])];exact ay.of (by rw[h112];simp[hx,w0,wz,show ¬(c0:Int)<128 by omega,show (c0:Int)<224 by omega,ji1,show (192:Int)≤c0 by omega,show ¬(224:Int)≤c0 by omega,show ¬(240:Int)≤c0 by omega,hs,hu])
   ·rw[if_neg r1] at hu
    obtain⟨y,hy⟩:∃y:Int,y=64*((c0:Int)-192)+(c1:Int)-128:=⟨_,rfl⟩;rw[←hy] at hu;by_cases v1:y<128
    ·rw[fin 0 (fun v w h=>by rw[if_pos (by omega),if_neg (by omega)] at h;cases h;rw[if_pos (by omega)])]
     exact ay.of (by rw[h112];simp[hx,w0,wz,show ¬(c0:Int)<128 by omega,show (c0:Int)<224 by omega,ji1,show (192:Int)≤c0 by omega,show ¬(224:Int)≤c0 by omega,show ¬(240:Int)≤c0 by omega,hs,hu,v1])
    ·rw[fin 2 (fun v w h=>by rw[if_pos (by omega),if_pos (by omega)] at h;cases h;rw[if_neg (by omega)])]
     exact ay.of (by rw[h112];simp[hx,w0,wz,show ¬(c0:Int)<128 by omega,show (c0:Int)<224 by omega,ji1,show (192:Int)≤c0 by omega,show ¬(224:Int)≤c0 by omega,show ¬(240:Int)≤c0 by omega,hs,hu,v1,show ¬1114111<y by omega,show ¬55296≤y by omega])
 by_cases k4:c0<240
 ·have wz:IntKind.i64.wrap ((c0:Int)-224)=(c0:Int)-224:=ww _ (by omega) (by omega)
  have wq:IntKind.i64.wrap ((c0:Int)-192)=(c0:Int)-192:=ww _ (by omega) (by omega);by_cases s2:b.size<i+3
  ·rw[fin 0 (fun v w h=>by rw[if_neg (by omega),if_neg (by omega),if_neg (by omega)] at h;cases h;rw[if_pos (by omega)])]
   exact ay.of (by rw[h112];simp[hx,w0,wz,wq,show ¬(c0:Int)<128 by omega,show ¬(c0:Int)<224 by omega,show (c0:Int)<240 by omega,ji2,show (192:Int)≤c0 by omega,show (224:Int)≤c0 by omega,show ¬(240:Int)≤c0 by omega,show (b.size:Int)<(i:Int)+3 by omega])
  ·have hu:=agD b i hb (by omega) ((c0:Int)-224) (by omega) (by omega) _ _ b1 b2
   have hs:¬(b.size:Int)<(i:Int)+3:=by omega
   by_cases r1:((c1:Int)<128∨191<(c1:Int))∨((c2:Int)<128∨191<(c2:Int))
   ·rw[if_pos r1] at hu
    rw[fin 0 (fun v w h=>by rw[if_neg (by omega),if_neg (by omega),if_neg (by omega)] at h;cases h;rw[if_pos (by omega)])];exact ay.of (by rw[h112];simp[hx,w0,wz,wq,show ¬(c0:Int)<128 by omega,show ¬(c0:Int)<224 by omega,show (c0:Int)<240 by omega,ji2,show (192:Int)≤c0 by omega,show (224:Int)≤c0 by omega,show ¬(240:Int)≤c0 by omega,hs,hu])
   ·rw[if_neg r1] at hu
    obtain⟨y,hy⟩:∃y:Int,y=64*(64*((c0:Int)-224)+(c1:Int)-128)+(c2:Int)-128:=⟨_,rfl⟩;rw[←hy] at hu;by_cases v1:y<2048
    ·rw[fin 0 (fun v w h=>by rw[if_neg (by omega),if_pos (by omega),if_neg (by omega)] at h;cases h;rw[if_pos (by omega)])]
     exact ay.of (by rw[h112];simp[hx,w0,wz,wq,show ¬(c0:Int)<128 by omega,show ¬(c0:Int)<224 by omega,show (c0:Int)<240 by omega,ji2,show (192:Int)≤c0 by omega,show (224:Int)≤c0 by omega,show ¬(240:Int)≤c0 by omega,hs,hu,v1])
    ·by_cases v2:55296≤y∧y≤57343
     ·rw[fin 0 (fun v w h=>by rw[if_neg (by omega),if_pos (by omega),if_neg (by omega)] at h;cases h;rw[if_pos (by omega)])]
      exact ay.of (by rw[h112];simp[hx,w0,wz,wq,show ¬(c0:Int)<128 by omega,show ¬(c0:Int)<224 by omega,show (c0:Int)<240 by omega,ji2,show (192:Int)≤c0 by omega,show (224:Int)≤c0 by omega,show ¬(240:Int)≤c0 by omega,hs,hu,v1,show ¬1114111<y by omega,v2.1,v2.2])
     ·rw[fin 3 (fun v w h=>by rw[if_neg (by omega),if_pos (by omega),if_pos (by omega)] at h;cases h;rw[if_neg (by omega)])]
      by_cases v3:55296≤y
      ·exact ay.of (by rw[h112];simp[hx,w0,wz,wq,show ¬(c0:Int)<128 by omega,show ¬(c0:Int)<224 by omega,show (c0:Int)<240 by omega,ji2,show (192:Int)≤c0 by omega,show (224:Int)≤c0 by omega,show ¬(240:Int)≤c0 by omega,hs,hu,v1,show ¬1114111<y by omega,v3,show ¬y≤57343 by omega])
      ·exact ay.of (by rw[h112];simp[hx,w0,wz,wq,show ¬(c0:Int)<128 by omega,show ¬(c0:Int)<224 by omega,show (c0:Int)<240 by omega,ji2,show (192:Int)≤c0 by omega,show (224:Int)≤c0 by omega,show ¬(240:Int)≤c0 by omega,hs,hu,v1,show ¬1114111<y by omega,v3])
 by_cases k5:c0<248
 ·have wz:IntKind.i64.wrap ((c0:Int)-240)=(c0:Int)-240:=ww _ (by omega) (by omega)
  have wq:IntKind.i64.wrap ((c0:Int)-192)=(c0:Int)-192:=ww _ (by omega) (by omega);have wr:IntKind.i64.wrap ((c0:Int)-224)=(c0:Int)-224:=ww _ (by omega) (by omega);by_cases s2:b.size<i+4
  ·rw[fin 0 (fun v w h=>by rw[if_neg (by omega),if_neg (by omega),if_neg (by omega)] at h;cases h;rw[if_pos (by omega)])]
   exact ay.of (by rw[h112];simp[hx,w0,wz,wq,wr,show ¬(c0:Int)<128 by omega,show ¬(c0:Int)<224 by omega,show ¬(c0:Int)<240 by omega,show (c0:Int)<248 by omega,ji3,show (192:Int)≤c0 by omega,show (224:Int)≤c0 by omega,show (240:Int)≤c0 by omega,show (b.size:Int)<(i:Int)+4 by omega])
  ·have hu:=agE b i hb (by omega) ((c0:Int)-240) (by omega) (by omega) _ _ _ b1 b2 b3
   have hs:¬(b.size:Int)<(i:Int)+4:=by omega
   by_cases r1:((c1:Int)<128∨191<(c1:Int))∨((c2:Int)<128∨191<(c2:Int))∨((c3:Int)<128∨191<(c3:Int))
   ·rw[if_pos r1] at hu
    rw[fin 0 (fun v w h=>by rw[if_neg (by omega),if_neg (by omega),if_neg (by omega)] at h;cases h;rw[if_pos (by omega)])];exact ay.of (by rw[h112];simp[hx,w0,wz,wq,wr,show ¬(c0:Int)<128 by omega,show ¬(c0:Int)<224 by omega,show ¬(c0:Int)<240 by omega,show (c0:Int)<248 by omega,ji3,show (192:Int)≤c0 by omega,show (224:Int)≤c0 by omega,show (240:Int)≤c0 by omega,hs,hu])
   ·rw[if_neg r1] at hu
    obtain⟨y,hy⟩:∃y:Int,y=64*(64*(64*((c0:Int)-240)+(c1:Int)-128)+(c2:Int)-128)+(c3:Int)-128:=⟨_,rfl⟩;rw[←hy] at hu;by_cases v1:y<65536
    ·rw[fin 0 (fun v w h=>by rw[if_neg (by omega),if_neg (by omega),if_pos (by omega),if_neg (by omega)] at h;cases h;rw[if_pos (by omega)])]
     exact ay.of (by rw[h112];simp[hx,w0,wz,wq,wr,show ¬(c0:Int)<128 by omega,show ¬(c0:Int)<224 by omega,show ¬(c0:Int)<240 by omega,show (c0:Int)<248 by omega,ji3,show (192:Int)≤c0 by omega,show (224:Int)≤c0 by omega,show (240:Int)≤c0 by omega,hs,hu,v1])
    ·by_cases v2:1114111<y
     ·rw[fin 0 (fun v w h=>by rw[if_neg (by omega),if_neg (by omega),if_pos (by omega),if_neg (by omega)] at h;cases h;rw[if_pos (by omega)])]
      exact ay.of (by rw[h112];simp[hx,w0,wz,wq,wr,show ¬(c0:Int)<128 by omega,show ¬(c0:Int)<224 by omega,show ¬(c0:Int)<240 by omega,show (c0:Int)<248 by omega,ji3,show (192:Int)≤c0 by omega,show (224:Int)≤c0 by omega,show (240:Int)≤c0 by omega,hs,hu,v1,v2])
     ·rw[fin 4 (fun v w h=>by rw[if_neg (by omega),if_neg (by omega),if_pos (by omega),if_pos (by omega)] at h;cases h;rw[if_neg (by omega)])]
      exact ay.of (by rw[h112];simp[hx,w0,wz,wq,wr,show ¬(c0:Int)<128 by omega,show ¬(c0:Int)<224 by omega,show ¬(c0:Int)<240 by omega,show (c0:Int)<248 by omega,ji3,show (192:Int)≤c0 by omega,show (224:Int)≤c0 by omega,show (240:Int)≤c0 by omega,hs,hu,v1,v2,show 55296≤y by omega,show ¬y≤57343 by omega])
 ·rw[fin 0 (fun v w h=>by rw[if_neg (by omega),if_neg (by omega),if_neg (by omega)] at h;cases h;rw[if_pos (by omega)])]
  exact ay.of (by rw[h112];simp[hx,w0,ww ((c0:Int)-192) (by omega) (by omega),ww ((c0:Int)-224) (by omega) (by omega),ww ((c0:Int)-240) (by omega) (by omega),show ¬(c0:Int)<128 by omega,show ¬(c0:Int)<224 by omega,show ¬(c0:Int)<240 by omega,show ¬(c0:Int)<248 by omega,show (192:Int)≤c0 by omega,show (224:Int)≤c0 by omega,show (240:Int)≤c0 by omega])
theorem ai8(b:ByteArray)(hb:b.size≤1000000):∀(m i:Nat),b.size-i<m→ev (NJ (iv i) (sv b))=some (match Lx.spoilL m (D b i) with|none=>(1,[])|some k=>(0,[iv (b.size-k:Nat)])):=by
 intro m
 induction m with
 |zero=>intro i hi;omega
 |succ m ih=>
  intro i hi;by_cases h1:i<b.size
  ·have h1':(i:Int)<(b.size:Int):=by omega
   have hu:=ajw b hb i h1;unfold VO at hu;have hne:D b i≠[]:=by rw[dz h1];simp
   have hw:=Lx.decL_width b[i] (D b (i+1));rw[←dz h1,nu] at hw;rw[Lx.spoilL,if_neg hne];by_cases h2:Lx.badL (D b i)=true
   ·rw[if_pos h2] at hu
    rw[if_pos h2,nu];simp only;rw[show b.size-(b.size-i)=i by omega];exact ay.of (by rw[I6];simp[h1',hu])
   ·rw[if_neg h2] at hu
    rw[if_neg h2];obtain⟨n,hn⟩:∃n,n=(Lx.decL (D b i)).2:=⟨_,rfl⟩;rw[←hn] at hu hw ⊢;obtain⟨j,hj⟩:∃j,j=i+n:=⟨_,rfl⟩;have e1:=abQ hj (by omega);have hn0:¬(n:Int)=0:=by omega
    have hg:=ih j (by omega);rw[show (D b i).drop n=D b j by rw[List.drop_drop,hj]];cases hs:Lx.spoilL m (D b j) with
    |none=>rw[hs] at hg;exact ay.of (by rw[I6];simp[-Int.natCast_eq_zero,h1',hu,hn0,e1,hg])
    |some k=>rw[hs] at hg;exact ay.of (by rw[I6];simp[-Int.natCast_eq_zero,h1',hu,hn0,e1,hg])
  ·rw[Lx.spoilL,if_pos (pF (by omega))]
   exact ay.of (by rw[I6];simp[show ¬(i:Int)<(b.size:Int) by omega])
theorem amB(b:ByteArray)(hb:b.size≤1000000):ev (q83 (sv b))=some (0,[iv (match Lx.spoilAll b.data.toList with|none=>-1|some k=>((b.size-k:Nat):Int))]):=by
 have h0:ev (NJ (iv 0) (sv b))=_:=ai8 b hb (b.size+1) 0 (by omega);rw[show Lx.spoilL (b.size+1) (D b 0)=Lx.spoilAll b.data.toList from rfl] at h0;cases hs:Lx.spoilAll b.data.toList with
 |none=>rw[hs] at h0;exact ay.of (by rw[h83];simp[h0])
 |some k=>rw[hs] at h0;exact ay.of (by rw[h83];simp[h0])
end Go.Proofs.YtijcobeebaceoaaGreatDoor
namespace Go.Proofs.YtijcobeebaceoaaGreatDoor
open Go.RowKit Go.Maps
set_option maxRecDepth 20000
theorem WR.grow{K:Kn}{h:List af}{w w':World}(H:WR K h w)(hf:lF (fun _=>False) w w'):WR K h w' where
 fresh:=H.fresh
 has:=H.has
 lt:=fun i g hi=>Nat.lt_of_lt_of_le (H.lt i g hi) hf.size
 box:=fun i ty cells hi=>let ⟨g,cs,a,b,c,d⟩:=H.box i ty cells hi;⟨g,cs,a,by rw[hf.block g (H.lt i g a) id];exact b,c,d⟩
 tok:=fun t ty sz len hi=>let ⟨g,cs,a,b,c⟩:=H.tok t ty sz len hi;⟨g,cs,a,by rw[hf.block g (H.lt t g a) id];exact b,c⟩
 inj:=H.inj
 apart:=H.apart
 agr:=fun g o v hm=>by
  have h1:=H.agr g o v hm;have hg:g<w.heap.size:=by
   apply Decidable.byContradiction;intro hn;have:w.heap[g]? = Option.none:=Array.getElem?_eq_none (by omega);unfold World.cell? at h1;rw[this] at h1;cases h1
  rw[←h1];exact World.cell?_of_block (hf.block g hg id)
 arr:=fun i ty sz p hi=>let ⟨g,cs,a,b,c⟩:=H.arr i ty sz p hi;⟨g,cs,a,by rw[hf.block g (H.lt i g a) id];exact b,c⟩
theorem Step.known{K:Kn}{h:List af}{w w':World}(H:WR K h w)(hf:lF (fun _=>False) w w')(M2:Nat→Nat→Option Value)(h2:∀g o v,M2 g o=some v→w.heap.size≤g∧w'.cell? ⟨g,o,none⟩=some v) :
  ∃K',Step K h w K' h w'∧K'.R=K.R∧(∀g o v,M2 g o=some v→K'.M g o=some v)∧∀g o v,K.M g o=some v→K'.M g o=some v:=by
 have hG:=H.grow hf;have hlow:∀g o,g<w.heap.size→M2 g o=none:=fun g o hg=>by
  cases hm:M2 g o with
  |none=>rfl
  |some v=>have:=(h2 g o v hm).1;omega
 have hno:∀g o v,K.M g o=some v→g<w.heap.size:=fun g o v hm=>by
  apply Decidable.byContradiction;intro hn;have h1:=H.agr g o v hm;have:w.heap[g]? = none:=Array.getElem?_eq_none (by omega);unfold World.cell? at h1;rw[this] at h1;cases h1
 obtain⟨K',hK'⟩:∃K':Kn,K' = {M:=fun g o=>match K.M g o with|some v=>some v|none=>M2 g o,Z:=K.Z,E:=K.E,mu:=K.mu,R:=K.R,N:=K.N,gl:=fun b cs hb i v hv=>by show (match K.M b i with|some v=>some v|none=>M2 b i)=some v;rw[K.gl b cs hb i v hv] }:=⟨_,rfl⟩;have hmu:K'.mu=K.mu:=by rw[hK']
 have hZ:K'.Z=K.Z:=by rw[hK']
 have hE:K'.E=K.E:=by rw[hK']
 have hR:K'.R=K.R:=by rw[hK']
 have hN:K'.N=K.N:=by rw[hK']
 have hM:∀g o,K'.M g o=match K.M g o with|some v=>some v|none=>M2 g o:=fun g o=>by rw[hK']
 have hold:∀g o v,K.M g o=some v→K'.M g o=some v:=fun g o v hm=>by rw[hM,hm]
 have hlt:∀g o,g<w.heap.size→K'.M g o=K.M g o:=fun g o hg=>by
  rw[hM];cases hm:K.M g o with
  |some v=>rfl
  |none=>exact hlow g o hg
 have hnew:∀g o v,M2 g o=some v→K'.M g o=some v:=fun g o v hm=>by
  rw[hM];cases hk:K.M g o with
  |none=>exact hm
  |some u=>have:=hno g o u hk;have:=(h2 g o v hm).1;omega
 have hext:Ext K K':=⟨hold,fun i g h=>by rw[hmu];exact h,fun i g _=>by rw[hZ],fun i g _=>by rw[hE],hR,fun i g _=>by rw[hN]⟩;have hlv:∀b,K'.liveB h b→K.liveB h b:=fun b ⟨i,x,h1,h3,h4⟩=>⟨i,x,h1,h3,by rw[←hmu];exact h4⟩
 refine⟨K',⟨⟨fun i hi=>by rw[hmu];exact H.fresh i hi,fun i hi=>by rw[hmu];exact H.has i hi,fun i g hi=>by rw[hmu] at hi;exact hG.lt i g hi,fun i ty cells hi=>?_,fun t ty sz len hi=>?_,fun i j x y g hi hj hx hy hm1 hm2=>?_,fun i ty cells g hi hm o=>?_,fun g o v hm=>?_,fun i ty sz p hi=>?_⟩,hext,hf.mono (fun _ _ e=>e.elim),fun g _=>⟨by rw[hZ],by rw[hE]⟩,fun g o hg _=>hlt g o hg,fun k b hb=>.inl (by rw[hmu] at hb;exact hb),fun b hb _=>hlv b hb,Nat.le_refl _⟩,hR,hnew,hold⟩
 ·obtain⟨g,cs,a,b,c,d⟩:=hG.box i ty cells hi
  exact⟨g,cs,by rw[hmu];exact a,b,by rw[hZ,hE];exact c,d.mono hext⟩
 ·obtain⟨g,cs,a,b,c,d,e,f⟩:=hG.tok t ty sz len hi
  refine⟨g,cs,by rw[hmu];exact a,b,by rw[hZ];exact c,by rw[hE];exact d,by rw[hZ];exact e,fun o ho=>?_⟩;rw[hR] at ho;rw[hlt g o (H.lt t g a)];exact f o ho
 ·rw[hmu] at hm1 hm2
  exact H.inj i j x y g hi hj hx hy hm1 hm2
 ·rw[hmu] at hm
  rw[hlt g o (H.lt i g hm)];exact H.apart i ty cells g hi hm o
 ·rw[hM] at hm
  cases hk:K.M g o with
  |some u=>rw[hk] at hm;cases hm;exact hG.agr g o _ hk
  |none=>rw[hk] at hm;exact(h2 g o v hm).2
 ·obtain⟨g,cs,a,b,c,d⟩:=hG.arr i ty sz p hi
  refine⟨g,cs,by rw[hmu];exact a,b,by rw[hZ,hE];exact c,d.go (fun o=>?_) (by rw[hR]) (by rw[hN]) (by rw[hZ]) (by rw[hE]) (fun q v _ h=>h.ext hext)⟩;rw[hlt g o (H.lt i g a)];exact d.none o
theorem F9{w w':World}(h:Below w.heap.size w w'):lF (fun _=>False) w w':=⟨h.os,h.tape,h.output,h.size,fun k hk _=>h.block k hk⟩
theorem Gq(ts:List Lx.Tok):∀(i j:Nat) (h:i<ts.length),j<4→(Lx.tokCells ts)[i*4+j]? = (ts[i].cells)[j]?:=by
 induction ts with
 |nil=>intro i j h;simp at h
 |cons t l ih=>
  intro i j h hj;have hc:t.cells.length=4:=rfl;rw[show Lx.tokCells (t::l)=t.cells++Lx.tokCells l by simp[Lx.tokCells]];cases i with
  |zero=>rw[List.getElem?_append_left (by omega)];simp
  |succ i=>
   rw[List.getElem?_append_right (by omega),show (i+1)*4+j-t.cells.length=i*4+j by omega,ih i j (by simpa using h) hj];simp
theorem KH(b:ByteArray)(hb:b.size≤maxLen)(hn:∀ts,Lx.scanP b=.ok ts→ts≠[]):Sem Tryz.prog 42 [.pv (sv b)] [] (.tup [.pv (oG (Lx.scanP b)).1,.agg [.pv (iv (oG (Lx.scanP b)).2.1),.pv (iv (oG (Lx.scanP b)).2.2)]]) []:=by
 intro R K w us hR W hv;have hus:us=[.string b]:=by
  obtain⟨hl,hh⟩:=hv
  match us,hl with
  |[u],_=>
   have h0:=hh 0 (by simp) (by simp);simp only[List.getElem_cons_zero] at h0;cases h0 with
   |pv h1=>cases h1;rfl
 subst hus;refine(Lx.scan_any b w hb).mono fun e w' hs=>?_
 unfold Lx.Scanned at hs;have hnone:∀p x,dW (.tup [.pv p,.agg x])=none:=fun p x=>rfl
 cases hr:Lx.scanP b with
 |ok ts=>
  rw[hr] at hs;obtain⟨v,rfl,ho,hbl⟩:=hs;have hne:=hn ts hr;obtain⟨hlen,ho|ho⟩:=ho
  ·exact absurd (List.length_eq_zero_iff.1 ho.2) hne
  ·obtain⟨g,cap,cur,rfl,hg,hc,hcap,hcm,hsz,htk⟩:=ho
   obtain⟨K',hst,hKR,hnew,_⟩:=Step.known W (F9 hbl) (fun gg o=>if gg=g then cur[o]? else none) (fun gg o v hm=>by
    split at hm
    ·rename_i e;subst e;exact⟨hg,by simp[World.cell?,hc,hm]⟩
    ·cases hm)
   refine⟨K',?_,hst⟩;unfold iC;rw[hnone];refine⟨_,rfl,.tup _ _ rfl fun i h h'=>?_⟩;have hi:i=0∨i=1:=by simp at h;omega
   rcases hi with rfl|rfl
   ·show VR _ (.pv (oG (.ok ts)).1) _
    refine .pv ?_;unfold oG aU;simp only;have hl:(ts.map ofTok |>.map Tk.cells).length=ts.length:=by simp
    have key:∀i (h:i<ts.length) j,j<4→cur[i*4+j]? = (ts[i].cells)[j]?:=by
     intro i h j hj;rw[←Gq ts i j h hj,←htk,List.getElem?_take_of_lt (by omega)];simp
    have hpr:=PR.rows (R:=K'.R) (M:=K'.M) (ts.map ofTok |>.map Tk.cells) (some ⟨g,0,none⟩) cap g 0 4 (fun i j=>(cur[i*4+j]?).getD .nilFunc) (fun _=>rfl) (by simpa using hcap)
     (fun i h=>by simp[Tk.cells]) (fun i h j hj=>by
      have hi:i<ts.length:=by simpa using h
      have k1:=key i hi j hj;have k2:j<(ts[i].cells).length:=hj;rw[List.getElem?_eq_getElem k2] at k1;refine hnew g _ _ ?_;rw[if_pos rfl,Nat.zero_add,k1];rfl)
     (fun i h j hj=>by
      have hi:i<ts.length:=by simpa using h
      have hj':j<4:=by simpa[Tk.cells] using hj
      have k1:=key i hi j hj';rw[k1];have e:(List.map Tk.cells (List.map ofTok ts))[i]=(ofTok ts[i]).cells:=by simp
      have hcase:j=0∨j=1∨j=2∨j=3:=by omega
      rcases hcase with rfl|rfl|rfl|rfl
      all_goals
       simp only[e,Tk.cells,ofTok,Lx.Tok.cells];exact .lit _ rfl)
    rw[hl] at hpr;exact hpr
   ·show VR _ (.agg [.pv (iv 0),.pv (iv 0)]) _
    exact .agg _ [_,_] rfl fun i h h'=>by
     have hi:i=0∨i=1:=by simp at h;omega
     rcases hi with rfl|rfl<;>exact .pv (.lit _ rfl)
 |error p=>
  obtain⟨c,at_⟩:=p;rw[hr] at hs;obtain⟨rfl,hbl⟩:=hs;have hag:∀g o v,K.M g o=some v→g<w.heap.size:=by
   intro g o v h;apply Decidable.byContradiction;intro hn;rw[W.noM (by omega)] at h;cases h
  refine⟨K,?_,?_⟩
  ·unfold iC
   rw[hnone];refine⟨_,rfl,.tup _ [_,_] rfl fun i h h'=>?_⟩;have hi:i=0∨i=1:=by simp at h;omega
   rcases hi with rfl|rfl
   ·exact .pv (.lit _ rfl)
   ·exact .agg _ [_,_] rfl fun i h h'=>by
     have hi:i=0∨i=1:=by simp at h;omega
     rcases hi with rfl|rfl<;>exact .pv (.lit _ rfl)
  ·exact⟨W.grow (F9 hbl),Ext.refl K,⟨hbl.os,hbl.tape,hbl.output,hbl.size,fun k hk _=>hbl.block k hk⟩,fun b _=>⟨rfl,rfl⟩,fun b o _ _=>rfl,fun k b h=>.inl h,fun b h _=>h,Nat.le_refl _⟩
end Go.Proofs.YtijcobeebaceoaaGreatDoor
namespace Go.Proofs.YtijcobeebaceoaaGreatDoor
open Go.RowKit
theorem Df{l:List UInt8}{e:Int}(h:Lx.oneL l=.error e):e≠0:=by
 have hp:∀{k:Int} {x:List UInt8} {n:Int} {r:List UInt8},Lx.putL k x n r=.error e→e≠0:=by
  intro k x n r h;unfold Lx.putL at h;split at h
  ·cases h;decide
  ·cases h
 unfold Lx.oneL at h;split at h
 ·cases h;decide
 ·split at h
  ·exact hp h
  ·split at h
   ·split at h
    ·cases h;decide
    ·exact hp h
   ·split at h
    ·split at h
     ·cases h;decide
     ·exact hp h
    ·split at h
     ·exact hp h
     ·split at h
      ·exact hp h
      ·cases h;decide
theorem ahn(l:List Tk):Raw 4 (l.map Tk.cells) (l.map Tk.cells):=.of l (fun x=>by simp[Tk.cells]) (fun x=>rfl) (fun x=>by simp[Tk.cells])
theorem yH(l:List Tk)(x:Tk)(k:PV→aM)(hl:l.length≤3000000):iO PG .fail 66 (.pv (.rows (l.map Tk.cells))) (.pv (.rows [[iv x.kind,sv x.text,iv x.n,iv x.at_]])) k=k (.rows ((l++[x]).map Tk.cells)):=by
 rw[aH (P:=PG) (d:=.fail) yT (ahn l) (c:=[iv x.kind,sv x.text,iv x.n,iv x.at_]) rfl (by simp) (by simp;omega) (by decide)];simp[Tk.cells]
def Vf(b:ByteArray):Tk:=⟨0,eB,0,(b.size:Int)⟩
def Na(b:ByteArray)(t:Lx.LTok):Tk:=ofTok (Lx.toTok b.size t)
theorem Y0(b:ByteArray)(k:Int)(x:List UInt8)(n:Int)(i:Nat)(hi:i≤b.size):Na b (k,x,n,(D b i).length)=⟨k,Lx.textOf x,n,(i:Int)⟩:=by
 unfold Na ofTok Lx.toTok;simp only;rw[nu,show b.size-(b.size-i)=i by omega]
theorem yY:∀(f:Nat) (l:List UInt8) (ts:List Lx.LTok),Lx.scanL f l=.ok ts→ts.length≤l.length+1
 |0,l,ts,h=>by cases h;simp
 |f+1,[],ts,h=>by cases h;simp
 |f+1,c::l,ts,h=>by
  simp only[Lx.scanL] at h;cases h1:Lx.oneL (c::l) with
  |error e=>rw[h1] at h;cases h
  |ok p=>
   obtain⟨k,x,n,r⟩:=p;rw[h1] at h;simp only at h;cases h2:Lx.scanL f (Lx.skipC false r) with
   |error e=>rw[h2] at h;cases h
   |ok ts'=>
    rw[h2] at h;cases h;have:=yY f _ _ h2;have:=Lx.oneL_shorter h1;simp;omega
theorem Sk(b:ByteArray):Na b (0,[],0,0)=Vf b:=rfl
def amU(b:ByteArray)(acc:List Tk)(o:Except (Int×Nat) (List Lx.LTok))(r:Option Rs):Prop:=match o with
 |.error (e,k)=>e≠0∧r=some (0,[nS,iv e,iv (b.size-k:Nat)])
 |.ok ts=>∃L',r=some (2,[.rows ((acc++L').map Tk.cells),sv b])∧ts.map (Na b)=L'++[Vf b]
def amV(b:ByteArray)(o:Except (Int×Nat) (List Lx.LTok))(r:Option Rs):Prop:=match o with
 |.error (e,k)=>e≠0∧r=some (0,[nS,iv e,iv (b.size-k:Nat)])
 |.ok ts=>∃L',ts.map (Na b)=L'++[Vf b]∧r=some (match L' with|[]=>(1,[nS,sv b])|x::l=>(2,[.rows ((x::l).map Tk.cells),sv b]))
theorem Li(b:ByteArray)(hb:b.size≤60000)(i:Nat)(h1:i<b.size)(k:Int)(x:List UInt8)(n:Int)(r:List UInt8)(hone:Lx.oneL (b[i]::D b (i+1))=.ok (k,x,n,r)) :
  ∃j i':Nat,ev (q85 (sv b) (iv i))=some (0,[iv k,sv (Lx.textOf x),iv n,iv i,iv j,iv 0])∧ev (q84 (sv b) (iv j))=some (0,[iv i'])∧i<i'∧i'≤b.size∧D b i'=Lx.skipC false r:=by
 have ho:=YK b (by omega) i h1;rw[dz h1,hone] at ho;have hev:ev (q85 (sv b) (iv i))=_:=ho;obtain⟨q,hq⟩:=Lx.oneL_suffix hone;have hq':r=D b (i+1+q):=by rw[hq,List.drop_drop]
 have hdp:=Lx.drop_pos b r (i+1+q) hq';have hrl:r.length≤b.size:=by rw[hq',nu];omega
 have hov:=YH b (by omega) (b.size-r.length) (by omega);have hds:=Lx.drop_skipPos b (b.size-r.length);rw[hdp] at hds;have hge:=Lx.skipPos_ge b (b.size-r.length) (by omega);have hsh:=Lx.oneL_shorter hone;rw[←hds,nu,nu] at hsh;exact⟨b.size-r.length,Lx.skipPos b (b.size-r.length),hev,hov,by omega,hge.2,hds⟩
theorem ab9(b:ByteArray)(hb:b.size≤60000):∀(m i:Nat) (acc:List Tk),b.size-i<m→i≤b.size→acc.length≤i→amU b acc (Lx.scanL m (D b i)) (ev (CB (iv i) (sv b) (acc.map Tk.cells))):=by
 intro m
 induction m with
 |zero=>intro i acc hi;omega
 |succ m ih=>
  intro i acc hi hi2 ha;by_cases h1:i<b.size
  ·have h1':(i:Int)<(b.size:Int):=by omega
   rw[dz h1];simp only[Lx.scanL];cases hone:Lx.oneL (b[i]::D b (i+1)) with
   |error e=>
    have ho:=YK b (by omega) i h1;rw[dz h1,hone] at ho;obtain⟨k,t,n,hev⟩:=ho;have he:=Df hone;refine⟨he,?_⟩;rw[←dz h1,nu,show b.size-(b.size-i)=i by omega];exact ay.of (by rw[OA];simp[h1',hev,he])
   |ok p=>
    obtain⟨k,x,n,r⟩:=p;dsimp only;obtain⟨j,i',hev,hov,hlt,hle,hds⟩:=Li b hb i h1 k x n r hone;obtain⟨rr,hrr⟩:∃rr,rr=(acc++[(⟨k,Lx.textOf x,n,(i:Int)⟩:Tk)]).map Tk.cells:=⟨_,rfl⟩;have ap:∀kk:PV→aM,iO PG .fail 66 (.pv (.rows (acc.map Tk.cells))) (.pv (.rows [[iv k,sv (Lx.textOf x),iv n,iv i]])) kk=kk (.rows rr):=fun kk=>by
     rw[hrr];exact yH acc ⟨k,Lx.textOf x,n,(i:Int)⟩ kk (by omega)
    have hih:=ih i' (acc++[(⟨k,Lx.textOf x,n,(i:Int)⟩:Tk)]) (by omega) hle (by simp;omega);rw[←hrr] at hih;have hst:∀R,ev (CB (iv i') (sv b) rr)=some R→ev (CB (iv i) (sv b) (acc.map Tk.cells))=some R:=fun R hR=>ay.of (by
     rw[OA];simp[h1',hev,ap,hov,hR])
    rw[hds] at hih;cases hs:Lx.scanL m (Lx.skipC false r) with
    |error p=>obtain⟨e,kk⟩:=p;rw[hs] at hih;exact⟨hih.1,hst _ hih.2⟩
    |ok ts=>
     rw[hs] at hih;obtain⟨L',h2,h3⟩:=hih;refine⟨⟨k,Lx.textOf x,n,(i:Int)⟩::L',?_,?_⟩
     ·rw[hst _ h2];simp
     ·rw[List.map_cons,←dz h1,Y0 b k x n i hi2,h3];rfl
  ·rw[pF (by omega)]
   refine⟨[],?_,by simp[Sk]⟩;exact ay.of (by rw[OA];simp[show ¬(i:Int)<(b.size:Int) by omega])
theorem acd(b:ByteArray)(hb:b.size≤60000)(m i:Nat)(hi:b.size-i<m)(hi2:i≤b.size):amV b (Lx.scanL m (D b i)) (ev (NK (iv i) (sv b))):=by
 obtain⟨m,rfl⟩:∃k,m=k+1:=⟨m-1,by omega⟩;by_cases h1:i<b.size
 ·have h1':(i:Int)<(b.size:Int):=by omega
  rw[dz h1];simp only[Lx.scanL];cases hone:Lx.oneL (b[i]::D b (i+1)) with
  |error e=>
   have ho:=YK b (by omega) i h1;rw[dz h1,hone] at ho;obtain⟨k,t,n,hev⟩:=ho;have he:=Df hone;refine⟨he,?_⟩;rw[←dz h1,nu,show b.size-(b.size-i)=i by omega];exact ay.of (by rw[OB];simp[h1',hev,he])
  |ok p=>
   obtain⟨k,x,n,r⟩:=p;dsimp only;obtain⟨j,i',hev,hov,hlt,hle,hds⟩:=Li b hb i h1 k x n r hone;have hih:=ab9 b hb m i' [(⟨k,Lx.textOf x,n,(i:Int)⟩:Tk)] (by omega) hle (by simp;omega);have hst:∀R,ev (CB (iv i') (sv b) [[iv k,sv (Lx.textOf x),iv n,iv i]])=some R→ev (NK (iv i) (sv b))=some R:=fun R hR=>ay.of (by
    rw[OB];simp[h1',hev,hov,hR])
   rw[hds] at hih;cases hs:Lx.scanL m (Lx.skipC false r) with
   |error p=>obtain⟨e,kk⟩:=p;rw[hs] at hih;exact⟨hih.1,hst _ hih.2⟩
   |ok ts=>
    rw[hs] at hih;obtain⟨L',h2,h3⟩:=hih;refine⟨⟨k,Lx.textOf x,n,(i:Int)⟩::L',?_,?_⟩
    ·rw[List.map_cons,←dz h1,Y0 b k x n i hi2,h3];rfl
    ·rw[hst _ h2];rfl
 ·rw[pF (by omega)]
  refine⟨[],by simp[Sk],?_⟩;exact ay.of (by rw[OB];simp[show ¬(i:Int)<(b.size:Int) by omega])
def jP(b:ByteArray):Except (Int×Nat) (List Tk):=match Lx.scanP b with
 |.ok ts=>.ok (ts.map ofTok)
 |.error p=>.error p
theorem vP(b:ByteArray)(hb:b.size≤60000):jP b=match Lx.spoilAll b.data.toList with
  |some m=>.error (100,b.size-m)
  |none=>match Lx.scanL (b.size+1) (D b (Lx.skipPos b 0)) with | .error (e,k)=>.error (e,b.size-k) | .ok ts=>.ok (ts.map (Na b)):=by
 unfold jP;rw[Lx.scanP_form b hb];cases Lx.spoilAll b.data.toList with
 |some m=>rfl
 |none=>
  simp only;have hd:D b (Lx.skipPos b 0)=Lx.skipC false b.data.toList:=Lx.drop_skipPos b 0;have e:Lx.scanAll b.data.toList=Lx.scanL (b.size+1) (D b (Lx.skipPos b 0)):=by
   rw[hd];unfold Lx.scanAll;have h1:=Lx.skipC_length false b.data.toList;have hl:b.data.toList.length=b.size:=rfl;exact Lx.scanL_two _ _ _ (by omega) (by omega)
  rw[e];cases Lx.scanL (b.size+1) (D b (Lx.skipPos b 0)) with
  |error p=>rfl
  |ok ts=>simp[Lx.liftScan,Na]
theorem agY(b:ByteArray):ev (ahJ (sv b))=some (0,match jP b with
  |.ok L=>[aU L,iv 0,iv 0]
  |.error (c,p)=>[aU [],iv c,iv p]):=by
 have key:∀(s:Nat) (ys:List PV),ev (q48 (sv b))=some (s,ys)→ev (ahJ (sv b))=some (0,nN ys):=fun s ys h=>ay.of (by
  rw[aqz];show mV (ev (q48 (sv b)))=_;rw[h,BX])
 by_cases h0:60000<b.size
 ·have h0':(60000:Int)<(b.size:Int):=by omega
  have e:jP b=.error (3,0):=by unfold jP Lx.scanP;rw[if_pos h0]
  rw[e,key 0 [nS,iv 3,iv 0] (ay.of (by rw[h48];simp[h0']))];rfl
 have hb:b.size≤60000:=by omega
 have h0':¬(60000:Int)<(b.size:Int):=by omega
 have hbad:=amB b (by omega);rw[vP b hb];cases hsp:Lx.spoilAll b.data.toList with
 |some m=>
  rw[hsp] at hbad;rw[key 0 [nS,iv 100,iv (b.size-m:Nat)] (ay.of (by rw[h48];simp[h0',hbad]))];rfl
 |none=>
  rw[hsp] at hbad;simp only at hbad ⊢;have hov:=YH b (by omega) 0 (by omega);have hov':ev (q84 (sv b) (iv 0))=some (0,[iv (Lx.skipPos b 0:Nat)]):=hov;have hge:=Lx.skipPos_ge b 0 (by omega);obtain⟨i,hi⟩:∃i,i=Lx.skipPos b 0:=⟨_,rfl⟩;rw[←hi] at hov' hge ⊢;have hl:=acd b hb (b.size+1) i (by omega) hge.2;cases hs:Lx.scanL (b.size+1) (D b i) with
  |error p=>
   obtain⟨e,k⟩:=p;rw[hs] at hl;have hl2:=hl.2;rw[key 0 [nS,iv e,iv (b.size-k:Nat)] (ay.of (by rw[h48];simp[h0',hbad,hov',hl2]))];rfl
  |ok ts=>
   rw[hs] at hl;obtain⟨L',h3,h4⟩:=hl;simp only;rw[h3];have hlen:L'.length≤b.size:=by
    have:=yY _ _ _ hs;have e:=congrArg List.length h3;simp at e;rw[nu] at this;omega
   cases L' with
   |nil=>
    simp only at h4;rw[key 1 [.rows [[iv 0,sv eB,iv 0,iv b.size]],iv 0,iv 0] (ay.of (by rw[h48];simp[h0',hbad,hov',h4]))];rfl
   |cons x l=>
    simp only at h4;have ap:∀kk:PV→aM,iO PG .fail 66 (.pv (.rows ((x::l).map Tk.cells))) (.pv (.rows [[iv 0,sv eB,iv 0,iv b.size]])) kk=kk (.rows ((x::l++[Vf b]).map Tk.cells)):=fun kk=>yH (x::l) (Vf b) kk (by omega)
    obtain⟨ra,hra⟩:∃ra,ra=(x::l).map Tk.cells:=⟨_,rfl⟩;obtain⟨rr,hrr⟩:∃rr,rr=(x::l++[Vf b]).map Tk.cells:=⟨_,rfl⟩;rw[←hra] at h4;simp only[←hra,←hrr] at ap;rw[key 1 [.rows rr,iv 0,iv 0] (ay.of (by rw[h48];simp[h0',hbad,hov',h4,ap]))];rw[hrr];rfl
def TOk(k:Int)(x:List UInt8):Prop:=1≤k∧k≤7∧(k=6→Lx.keyList.contains x=true)∧(k=7→Lx.markList.contains x=true)
theorem ac7:Lx.markList.contains [95]=true:=by kernel_rfl
theorem Zq(x:List UInt8):TOk (Lx.kindL x) x:=by
 unfold Lx.kindL;split
 ·rename_i h;exact⟨by decide,by decide,fun _=>h,fun h=>absurd h (by decide)⟩
 ·split
  ·rename_i h
   refine⟨by decide,by decide,fun h=>absurd h (by decide),fun _=>?_⟩;rw[eq_of_beq h];exact ac7
  ·have key:∀q:Bool,TOk (if q=true then 2 else 1) x:=fun q=>by
    cases q
    ·exact⟨by decide,by decide,fun h=>absurd h (by decide),fun h=>absurd h (by decide)⟩
    ·exact⟨by decide,by decide,fun h=>absurd h (by decide),fun h=>absurd h (by decide)⟩
   exact key _
theorem UW{l:List UInt8}{k n:Int}{x r:List UInt8}(h:Lx.oneL l=.ok (k,x,n,r)):TOk k x:=by
 have hp:∀{k':Int} {x':List UInt8} {n':Int} {r':List UInt8},TOk k' x'→Lx.putL k' x' n' r'=.ok (k,x,n,r)→TOk k x:=by
  intro k' x' n' r' ht h;obtain⟨_,rfl,rfl,_⟩:=Lx.putL_rest h;exact ht
 unfold Lx.oneL at h;split at h
 ·cases h
 ·split at h
  ·exact hp (Zq _) h
  ·split at h
   ·split at h
    ·cases h
    ·exact hp ⟨by decide,by decide,fun h=>absurd h (by decide),fun h=>absurd h (by decide)⟩ h
   ·split at h
    ·split at h
     ·cases h
     ·exact hp ⟨by decide,by decide,fun h=>absurd h (by decide),fun h=>absurd h (by decide)⟩ h
    ·split at h
     ·refine hp ?_ h
      split
      ·rename_i hm;exact⟨by decide,by decide,fun h=>absurd h (by decide),fun _=>hm⟩
      ·exact⟨by decide,by decide,fun h=>absurd h (by decide),fun h=>absurd h (by decide)⟩
     ·split at h
      ·rename_i hm
       exact hp ⟨by decide,by decide,fun h=>absurd h (by decide),fun _=>hm⟩ h
      ·cases h
theorem KI:∀(f:Nat) (l:List UInt8) (ts:List Lx.LTok),Lx.scanL f l=.ok ts→∃ts',ts=ts'++[(0,[],0,0)]∧∀t∈ts',TOk t.1 t.2.1
 |0,l,ts,h=>by cases h;exact⟨[],rfl,fun t ht=>by cases ht⟩
 |f+1,[],ts,h=>by cases h;exact⟨[],rfl,fun t ht=>by cases ht⟩
 |f+1,c::l,ts,h=>by
  simp only[Lx.scanL] at h;cases h1:Lx.oneL (c::l) with
  |error e=>rw[h1] at h;cases h
  |ok p=>
   obtain⟨k,x,n,r⟩:=p;rw[h1] at h;simp only at h;cases h2:Lx.scanL f (Lx.skipC false r) with
   |error e=>rw[h2] at h;cases h
   |ok ts'=>
    rw[h2] at h;cases h;obtain⟨t2,e1,e2⟩:=KI f _ _ h2;refine⟨(k,x,n,(c::l).length)::t2,by rw[e1];rfl,fun t ht=>?_⟩;rcases List.mem_cons.1 ht with rfl|ht
    ·exact UW h1
    ·exact e2 t ht
theorem FO:∀(f:Nat) (l:List UInt8) (e:Int) (k:Nat),Lx.scanL f l=.error (e,k)→e≠0
 |0,l,e,k,h=>by cases h
 |f+1,[],e,k,h=>by cases h
 |f+1,c::l,e,k,h=>by
  simp only[Lx.scanL] at h;cases h1:Lx.oneL (c::l) with
  |error e=>rw[h1] at h;cases h;exact Df h1
  |ok p=>
   obtain⟨k,x,n,r⟩:=p;rw[h1] at h;simp only at h;cases h2:Lx.scanL f (Lx.skipC false r) with
   |error e=>rw[h2] at h;cases h;exact FO f _ _ _ h2
   |ok ts'=>rw[h2] at h;cases h
theorem Ot:Lx.keyList.contains [40]=false∧Lx.keyList.contains [95]=false∧Lx.markList.contains [99,97,115,101]=false:=⟨by kernel_rfl,by kernel_rfl,by kernel_rfl⟩
theorem vN{x:List UInt8}{a:Array UInt8}(h:Lx.textOf x=⟨a⟩):x=a.toList:=by
 have:=congrArg (fun b:ByteArray=>b.data.toList) h;exact this
theorem agA(b:ByteArray)(ts:List Lx.LTok)(hk:∀t∈ts,TOk t.1 t.2.1)(hl:ts.length≤60000):Gg ((ts++[(0,[],0,0)]).map (Na b)):=by
 have hin:∀a (h:a<ts.length),ai ((ts++[(0,[],0,0)]).map (Na b)) a=Na b ts[a]:=fun a h=>by
  unfold ai;rw[List.getElem?_map,List.getElem?_append_left h,List.getElem?_eq_getElem h];rfl
 have hout:∀a,ts.length≤a→(ai ((ts++[(0,[],0,0)]).map (Na b)) a).kind=0:=fun a h=>by
  unfold ai;rw[List.getElem?_map,List.getElem?_append_right h];cases hd:a-ts.length with
  |zero=>rfl
  |succ n=>rfl
 have hc:∀a,(∃t,TOk t.1 t.2.1∧ai ((ts++[(0,[],0,0)]).map (Na b)) a=Na b t)∨(ai ((ts++[(0,[],0,0)]).map (Na b)) a).kind=0:=fun a=>by
  by_cases h:a<ts.length
  ·exact .inl ⟨ts[a],hk _ (List.getElem_mem h),hin a h⟩
  ·exact .inr (hout a (by omega))
 have hkd:∀t:Lx.LTok,(Na b t).kind=t.1:=fun t=>rfl
 have htx:∀t:Lx.LTok,(Na b t).text=Lx.textOf t.2.1:=fun t=>rfl
 refine⟨by simp;omega,by simp,fun a h=>?_,fun a=>?_,fun a h=>?_,fun a h=>?_⟩
 ·have:a<ts.length:=by
   apply Decidable.byContradiction;intro hn;exact h (hout a (by omega))
  simp;omega
 ·rcases hc a with⟨t,ht,e⟩|e
  ·rw[e,hkd];exact ht.2.1
  ·rw[e];decide
 ·rcases hc a with⟨t,ht,e⟩|e
  ·rw[e,hkd] at h
   have hx:=ht.2.2.1 h;rw[e,htx];refine⟨fun he=>?_,fun he=>?_⟩
   ·rw[vN he] at hx
    exact absurd (hx.symm.trans Ot.1) (by decide)
   ·rw[vN he] at hx
    exact absurd (hx.symm.trans Ot.2.1) (by decide)
  ·rw[e] at h;exact absurd h (by decide)
 ·rcases hc a with⟨t,ht,e⟩|e
  ·rw[e,hkd] at h
   have hx:=ht.2.2.2 h;rw[e,htx];intro he;rw[vN he] at hx;exact absurd (hx.symm.trans Ot.2.2) (by decide)
  ·rw[e] at h;exact absurd h (by decide)
theorem xB{b:ByteArray}{L:List Tk}(h:jP b=.ok L):b.size≤60000∧L.length≤60001∧Gg L:=by
 have hb:b.size≤60000:=by
  apply Decidable.byContradiction;intro hn;unfold jP Lx.scanP at h;rw[if_pos (by omega)] at h;cases h
 rw[vP b hb] at h;split at h
 ·cases h
 ·split at h
  ·cases h
  ·rename_i ts hs
   cases h;have hl:=yY _ _ _ hs;rw[nu] at hl;obtain⟨t2,rfl,hk⟩:=KI _ _ _ hs;simp at hl;exact⟨hb,by simp;omega,agA b t2 hk (by omega)⟩
theorem yX{b:ByteArray}{e:Int}{w:Nat}(h:jP b=.error (e,w)):e≠0:=by
 by_cases hb:b.size≤60000
 ·rw[vP b hb] at h
  split at h
  ·cases h;decide
  ·split at h
   ·rename_i hs;cases h;exact FO _ _ _ _ hs
   ·cases h
 ·unfold jP Lx.scanP at h
  rw[if_pos (by omega)] at h;cases h;decide
theorem afj(b:ByteArray):ev (q22 (sv b))=some (0,match jP b with
  |.ok L=>dh L ⟨0,0,0,0⟩ []
  |.error (c,p)=>dh [] ⟨0,0,c,p⟩ []):=ay.of (by
 have hs:=agY b;rw[h22];cases ht:jP b with
 |ok L=>rw[ht] at hs;simp[hs]
 |error p=>
  obtain⟨c,p⟩:=p;rw[ht] at hs;have hc:=yX ht;have hf:=aaF (L:=[]) c p 0 0 0 0;simp only[Int.natCast_zero] at hf;simp[hs,hc,hf,iB])
theorem Yq(b:ByteArray):match jP b with
  |.error (c,p)=>c≠0∧RPr b (.err c p)
  |.ok L=>∃m0,∀m,m0≤m→RPr b (eU L m ⟨⟨[],[],[]⟩,[]⟩ 0 0):=by
 have hs:=afj b;cases ht:jP b with
 |error p=>
  obtain⟨c,p⟩:=p;rw[ht] at hs;have hc:=yX ht;exact⟨hc,(Yr (L:=[]) (by simp) b ⟨0,0,c,p⟩ (by simp) (fun _=>⟨rfl,rfl⟩) hs).2 hc⟩
 |ok L=>
  rw[ht] at hs;obtain⟨hb,hl,hW⟩:=xB ht;exact(Yr (L:=L) (by omega) b ⟨0,0,0,0⟩ (by simp) (fun _=>⟨rfl,rfl⟩) hs).1 rfl
abbrev ps(L:List Tk)(a:Nat)(d:Int)(l:List PV):List PV:=aU L::iv a::iv d::l
section
variable{L:List Tk}(hW:Gg L)
theorem VU{a:Nat}(h:a<L.length):L[a]? = some (ai L a):=by
 unfold ai;rw[List.getElem?_eq_getElem h];rfl
theorem eP{a:Nat}(h:a<L.length)(d:PV):ev (akB (aU L) (iv a) d)=some (0,aU L::iv a::d::(ai L a).cells):=ay.of (by
 rw[aqv];have h2:¬L.length≤a:=by omega
 simp[dY (VU h),Tk.cells])
include hW
theorem Gg.w1{a:Nat}(h:a<L.length):IntKind.i64.wrap ((a:Int)+1)=((a+1:Nat):Int):=by
 have:=hW.len;rw[aP (by omega)];omega
theorem oN{a:Nat}(h:a<L.length)(d:PV):ev (akx (aU L) (iv a) d)=some (0,aU L::iv (a+1:Nat)::d::(ai L a).cells):=ay.of (by
 rw[aqk];have hw:=hW.w1 h;simp[eP h,Tk.cells,hw])
theorem NT{a:Nat}(h:a<L.length)(x:ByteArray)(d:PV):ev (akt (sv x) (aU L) (iv a) d)=some (0,[aU L,iv a,d,bv (lG L x a)]):=ay.of (by
 rw[aqe];have ht:=hW.top a;unfold lG;simp[eP h,Tk.cells];by_cases h7:(ai L a).kind=7
 ·by_cases hx:(ai L a).text=x<;>simp[h7,hx]
 ·by_cases h6:(ai L a).kind=6
  ·by_cases hx:(ai L a).text=x<;>simp[h6,hx]
  ·have:¬6≤(ai L a).kind:=by omega
   simp[h7,h6,this])
theorem bL{a:Nat}(h:a<L.length)(x:ByteArray)(d:PV):ev (akD (sv x) (aU L) (iv a) d)=some (0,[aU L,iv (if lG L x a then a+1 else a:Nat),d,bv (lG L x a)]):=ay.of (by
 rw[aqA];have hw:=hW.w1 h;cases hi:lG L x a<;>simp[NT hW h,hi,hw])
theorem nV(e w:Int)(a d:PV):ev (akw (iv e) (iv w) (aU L) a d)=some (0,[aU L,a,d,iv e,iv w]):=ay.of (by
 rw[aqj];simp)
theorem aF{a:Nat}(h:a<L.length)(x:ByteArray)(d:PV):ev (akA (sv x) (aU L) (iv a) d)=some (if lG L x a then(0,aU L::iv (a+1:Nat)::d::(ai L a).cells) else(1,[aU L,iv a,d,iv 110,iv (ai L a).at_])):=ay.of (by
 rw[aqr];cases hi:lG L x a<;>simp[NT hW h,hi,oN hW h,eP h,Tk.cells,nV hW])
theorem cu{a:Nat}(h:a<L.length)(k:Int)(d:PV):ev (ahK (iv k) (aU L) (iv a) d)=some (if(ai L a).kind=k then(1,aU L::iv (a+1:Nat)::d::(ai L a).cells) else(0,[aU L,iv a,d,iv 110,iv (ai L a).at_])):=ay.of (by
 rw[aqD];by_cases hi:(ai L a).kind=k
 ·simp[eP h,Tk.cells,hi,oN hW h]
 ·simp[eP h,Tk.cells,hi,nV hW])
theorem NU{a:Nat}(h:a<L.length){d:Int}(h0:0≤d)(h1:d≤300):ev (akE (aU L) (iv a) (iv d))=some (if 300<d+1 then(0,[aU L,iv a,iv (d+1),iv 111,iv (ai L a).at_]) else(1,[aU L,iv a,iv (d+1)])):=ay.of (by
 rw[aqC];have hw:IntKind.i64.wrap (d+1)=d+1:=aP (by omega);by_cases hi:300<d+1
 ·simp[hw,hi,eP h,Tk.cells,nV hW]
 ·simp[hw,hi])
theorem jR{a:Nat}(h:a<L.length)(d:PV):ev (aku (aU L) (iv a) d)=some (0,[aU L,iv a,d,bv (Gv L 0 a)]):=ay.of (by
 rw[aqf];unfold Gv;simp[eP h,Tk.cells,NT hW h];by_cases h2:(ai L a).kind=2
 ·simp[h2]
 ·by_cases h1:(ai L a).kind=1
  ·simp[h1,h2]
  ·cases h3:lG L ⟨#[40]⟩ a<;>simp[h1,h2,h3])
theorem R5{a:Nat}(h:a<L.length)(d:PV):ev (af3 (aU L) (iv a) d)=some (0,[aU L,iv a,d,bv (Gv L 1 a)]):=ay.of (by
 rw[al3];unfold Gv;simp[eP h,Tk.cells,NT hW h];by_cases h2:(ai L a).kind=2
 ·simp[h2]
 ·by_cases h1:(ai L a).kind=1
  ·simp[h1,h2]
  ·by_cases h4:(ai L a).kind=3
   ·simp[h4]
   ·cases h3:lG L ⟨#[40]⟩ a<;>cases h5:lG L ⟨#[95]⟩ a<;>simp[h1,h2,h3,h4,h5])
theorem R4{a:Nat}(h:a<L.length)(d:PV):ev (akr (aU L) (iv a) d)=some (0,[aU L,iv a,d,bv (Gv L 2 a)]):=ay.of (by
 rw[ap8];unfold Gv;simp[eP h,Tk.cells,NT hW h];by_cases h2:(ai L a).kind=2
 ·simp[h2]
 ·by_cases h1:(ai L a).kind=1
  ·simp[h1,h2]
  ·by_cases h4:(ai L a).kind=3
   ·simp[h4]
   ·by_cases h6:(ai L a).kind=4
    ·simp[h6]
    ·cases h3:lG L ⟨#[40]⟩ a<;>cases h5:lG L ⟨#[99,97,115,101]⟩ a<;>simp[h1,h2,h3,h4,h5,h6])
end
def oo{α:Type}(L:List Tk)(r:Rz α)(F:α→Nat→Rs→Prop)(E:Int→Int→Rs→Prop)(S:Rs→Prop):Prop:=match r with
 |.out=>True
 |.ok v b=>b<L.length∧∃z,S z∧F v b z
 |.err e w=>∃z,S z∧E e w z
def YR{α:Type}(L:List Tk)(a:Nat)(d:Int)(so:Nat)(enc:α→List PV)(v:α)(b:Nat)(z:Rs):Prop:=a<b∧z=(so,ps L b d (enc v))
def Vz(L:List Tk)(se:Nat)(e w:Int)(z:Rs):Prop:=∃(b:Nat) (d:Int),z=(se,ps L b d [iv e,iv w])
def okW{α:Type}(L:List Tk)(a:Nat)(d:Int)(m:List Nat)(enc:α→List PV)(v:α)(b:Nat)(z:Rs):Prop:=a<b∧∃k ys,z=(k,ps L b d ys)∧nth 0 m k=0∧dL ys=enc v
def erW(L:List Tk)(m:List Nat)(e w:Int)(z:Rs):Prop:=∃(k b:Nat) (d:Int),z=(k,ps L b d [iv e,iv w])∧nth 0 m k=1
section
variable{α β:Type}{L:List Tk}{F:α→Nat→Rs→Prop}{E E':Int→Int→Rs→Prop}{S:Rs→Prop}{R:aM}{d dd:Int}{a:Nat}
abbrev lI(L:List Tk)(q:Q)(r:Rz α)(F:α→Nat→Rs→Prop)(E:Int→Int→Rs→Prop):Prop:=oo L r F E fun z=>ev q=some z
abbrev PB_(L:List Tk)(R:aM)(r:Rz α)(F:α→Nat→Rs→Prop)(E:Int→Int→Rs→Prop):Prop:=oo L r F E fun z=>R=.ok z
theorem oo.of{q:Q}{r:Rz α}(h:PB_ L (body PG EE TT ev q) r F E):lI L q r F E:=by
 cases r with
 |out=>trivial
 |ok v b=>obtain⟨h0,z,h1,h2⟩:=h;exact⟨h0,z,ay.of h1,h2⟩
 |err e w=>obtain⟨z,h1,h2⟩:=h;exact⟨z,ay.of h1,h2⟩
theorem oo.bind{G:β→Nat→Rs→Prop}{q:Q}{p:GM β}{k:β→GM α}(h:lI L q (p dd a) G E')
  (hok:∀v b z,b<L.length→ev q=some z→G v b z→oo L (k v dd b) F E S) (herr:∀e w z,ev q=some z→E' e w z→∃z',S z'∧E e w z'):oo L (aA p k dd a) F E S:=by
 unfold aA;cases hr:p dd a with
 |out=>trivial
 |err e w=>
  rw[hr] at h;obtain⟨z,h1,h2⟩:=h;exact herr e w z h1 h2
 |ok v b=>
  rw[hr] at h;obtain⟨h0,z,h1,h2⟩:=h;exact hok v b z h0 h1 h2
theorem oo.may{x:ByteArray}{A B:GM α}(ht:lG L x a=true→oo L (A dd (a+1)) F E S)(hf:lG L x a=false→oo L (B dd a) F E S):oo L (dV L x A B dd a) F E S:=by
 unfold dV;cases h:lG L x a with
 |true=>simpa using ht h
 |false=>simpa using hf h
theorem oo.kind{k:Int}{A B:GM α}(ht:(ai L a).kind=k→oo L (A dd a) F E S)(hf:(ai L a).kind≠k→oo L (B dd a) F E S):oo L (kz L k A B dd a) F E S:=by
 unfold kz;by_cases h:(ai L a).kind=k
 ·rw[if_pos h];exact ht h
 ·rw[if_neg h];exact hf h
theorem oo.st{w:Int}{A B:GM α}(ht:Gv L w a=true→oo L (A dd a) F E S)(hf:Gv L w a=false→oo L (B dd a) F E S):oo L (Vw L w A B dd a) F E S:=by
 unfold Vw;cases h:Gv L w a with
 |true=>simpa using ht h
 |false=>simpa using hf h
theorem oo.next{k:Tk→GM α}(h:oo L (k (ai L a) dd a) F E S):oo L (mZ L k dd a) F E S:=h
theorem oo.up{p:GM α}(h:oo L (p dd (a+1)) F E S):oo L (AY p dd a) F E S:=h
theorem oo.if'{c:Prop}[Decidable c]{A B:GM α}(ht:c→oo L (A dd a) F E S)(hf:¬c→oo L (B dd a) F E S):oo L ((if c then A else B) dd a) F E S:=by
 by_cases h:c
 ·rw[if_pos h];exact ht h
 ·rw[if_neg h];exact hf h
theorem oo.deep{A:GM α}(he:300<dd+1→∃z,S z∧E 111 (ai L a).at_ z)(hok:¬300<dd+1→oo L (A (dd+1) a) F E S):oo L (rY L A dd a) F E S:=by
 unfold rY;by_cases h:300<dd+1
 ·rw[if_pos h];exact he h
 ·rw[if_neg h];exact hok h
theorem oo.pure{v:α}{z:Rs}(ha:a<L.length)(hR:S z)(hF:F v a z):oo L (aX v dd a) F E S:=⟨ha,z,hR,hF⟩
theorem oo.callW{q:Q}{p:GM β}{k:β→GM α}{so se:Nat}{enc:β→List PV}(h:lI L q (p dd a) (YR L a dd so enc) (Vz L se))
  (hok:∀v b,b<L.length→a<b→ev q=some (so,ps L b dd (enc v))→oo L (k v dd b) F E S) (herr:∀e w b d',ev q=some (se,ps L b d' [iv e,iv w])→∃z',S z'∧E e w z'):oo L (aA p k dd a) F E S:=
 .bind h (fun v b z hb hz hF=>by obtain⟨h1,rfl⟩:=hF;exact hok v b hb h1 hz) (fun e w z hz hE=>by obtain⟨b,d',rfl⟩:=hE;exact herr e w b d' hz)
theorem oo.take{k:Int}{x:ByteArray}{f:Tk→GM α}(hk:¬k<6)(hok:lG L x a=true→oo L (f (ai L a) dd (a+1)) F E S)(herr:lG L x a=false→∃z,S z∧E 110 (ai L a).at_ z):oo L (aA (aY L k x) f dd a) F E S:=by
 unfold aA aY UX;simp only[if_neg hk];cases h:lG L x a with
 |true=>simp only[if_true];exact hok h
 |false=>simp only[Bool.false_eq_true,if_false];exact herr h
theorem oo.takeK{k:Int}{x:ByteArray}{f:Tk→GM α}(hk:k<6)(hok:(ai L a).kind=k→oo L (f (ai L a) dd (a+1)) F E S)(herr:(ai L a).kind≠k→∃z,S z∧E 110 (ai L a).at_ z):oo L (aA (aY L k x) f dd a) F E S:=by
 unfold aA aY UX;simp only[if_pos hk];by_cases h:(ai L a).kind=k
 ·rw[decide_eq_true h];simp only[if_true];exact hok h
 ·rw[decide_eq_false h];simp only[Bool.false_eq_true,if_false];exact herr h
theorem oo.weak{q qw:Q}{r:Rz α}{enc:α→List PV}{m:List Nat}(hw:body PG EE TT ev qw=weakM m (ev q))(h:lI L q r (okW L a d m enc) (erW L m)):lI L qw r (YR L a d 0 enc) (Vz L 1):=by
 cases r with
 |out=>trivial
 |ok v b=>
  obtain⟨h0,z,h1,h2,k,ys,rfl,hk,hy⟩:=h;refine⟨h0,_,ay.of ?_,h2,rfl⟩;rw[hw,h1,jb,hk];simp[hy]
 |err e w=>
  obtain⟨z,h1,k,b,d',rfl,hk⟩:=h;refine⟨_,ay.of ?_,b,d',rfl⟩;rw[hw,h1,jb,hk]
theorem okW.of{m:List Nat}{enc:α→List PV}{v:α}{b k:Nat}{ys:List PV}(ha:a<b)(hk:nth 0 m k=0)(hy:dL ys=enc v):okW L a d m enc v b (k,ps L b d ys):=⟨ha,k,ys,rfl,hk,hy⟩
theorem erW.of{m:List Nat}{b k:Nat}{e w:Int}(hk:nth 0 m k=1):erW L m e w (k,ps L b d [iv e,iv w]):=⟨k,b,d,rfl,hk⟩
variable(hW:Gg L)
include hW
theorem acZ(h:a<L.length){k:Int}(h1:1≤k)(h6:k<6)(x:ByteArray):lI L (ahK (iv k) (aU L) (iv a) (iv d)) (aY L k x d a) (YR L a d 1 Tk.cells) (Vz L 0):=by
 have hq:=cu hW h k (iv d);unfold aY UX;simp only[if_pos h6];by_cases hi:(ai L a).kind=k
 ·simp only[hi,decide_true,if_true] at hq ⊢
  exact⟨hW.fin a (by omega),_,hq,Nat.lt_succ_self _,rfl⟩
 ·simp only[hi,decide_false,Bool.false_eq_true,if_false] at hq ⊢
  exact⟨_,hq,a,d,rfl⟩
end
abbrev pTy(L:List Tk)(a:Nat)(d:Int):Q:=af2 (aU L) (iv a) (iv d)
abbrev pAt(L:List Tk)(a:Nat)(d:Int):Q:=afL (aU L) (iv a) (iv d)
abbrev pBt(L:List Tk)(a:Nat)(d:Int):Q:=afU (aU L) (iv a) (iv d)
abbrev zz:List PV:=[iv 0,sv eB,iv 0,.lit (.slice none 0 0)]
abbrev Pa{α:Type}(L:List Tk)(q:Nat→Int→Q)(enc:α→List PV)(g:GM α):Prop:=∀(a:Nat) (d:Int),0≤d→d≤300→a<L.length→lI L (q a d) (g d a) (YR L a d 0 enc) (Vz L 1)
def btG(L:List Tk)(n:Nat):GM Ty:=mZ L fun t=>if t.kind=2 then AY (aA (bC L n []) fun l=>aX (.mk 3 t.text 0 l)) else fU L n
section
variable{L:List Tk}(hW:Gg L)
include hW
theorem ag9{n:Nat}(nm:ByteArray):∀(m:Nat),m≤n→(∀m,m≤n→Pa L (pAt L) oq (fU L m))→∀(l:List Ty) (a:Nat) (d:Int),0≤d→d≤300→a<L.length→l.length≤a→lI L (QS (aU L) (iv a) (iv d) (sv nm) (l.map Ty.cells)) (bC L m l d a)
  (fun v b z=>a≤b∧(l≠[]→v≠[])∧z=(3,ps L b d (iv 3::sv nm::iv 0::bH v::zz))) (fun e w z=>∃(b:Nat) (d':Int) (T:PV),z=(2,ps L b d' (iv 3::sv nm::iv 0::T::(zz++[iv e,iv w])))):=by
 intro m hm hat
 induction m with
 |zero=>intro l a d h0 h1 ha hl;unfold bC;rw[ol];trivial
 |succ m ih=>
  intro l a d h0 h1 ha hl;refine .of ?_;rw[bQ,aey];simp[jR hW ha];refine .st (fun hs=>?_) (fun hs=>?_)
  ·simp[hs]
   refine .callW (hat m (by omega) a d h0 h1 ha) (fun v b hb hab g=>?_) (fun e w b d' g=>?_)
   ·simp[g]
    have hap:=fun k'=>aH (P:=PG) (d:=.fail) (k:=k') Fg (kU l) (c:=oq v) rfl (by simp) (by have:=hW.len;simp;omega) (by decide)
    simp[hap];have hn:=ih (by omega) (l++[v]) b d h0 h1 hb (by simp;omega);rw[List.map_append,List.map_cons,List.map_nil,Ty.cells_eq v] at hn;cases hr:bC L m (l++[v]) d b with
    |out=>trivial
    |err e w=>rw[hr] at hn;obtain⟨z,g1,b2,d',T,rfl⟩:=hn;exact⟨_,by simp[g1],b2,d',T,rfl⟩
    |ok v2 b2=>rw[hr] at hn;obtain⟨hb2,z,g1,h5,h6,rfl⟩:=hn;exact⟨hb2,_,by simp[g1],by omega,fun _=>h6 (by simp),rfl⟩
   ·exact⟨_,by simp[g,bH],b,d',bH l,rfl⟩
  ·exact .pure ha (by simp[hs,bH]) ⟨Nat.le_refl _,fun h=>h,rfl⟩
theorem aco{n:Nat}(nm:ByteArray)(m:Nat)(hm:m≤n+1)(hat:∀m,m≤n→Pa L (pAt L) oq (fU L m))(a:Nat)(d:Int)(h0:0≤d)(h1:d≤300)(ha:a<L.length)(hpos:0<a):lI L (QT (aU L) (iv a) (iv d) (sv nm)) (bC L m [] d a)
  (fun v b z=>a≤b∧z=(match v with|[]=>(1,ps L b d (iv 3::sv nm::iv 0::nS::zz))|_::_=>(3,ps L b d (iv 3::sv nm::iv 0::bH v::zz))))
  (fun e w z=>∃(b:Nat) (d':Int),z=(0,ps L b d' (iv 3::sv nm::iv 0::nS::(zz++[iv e,iv w])))∨∃T,z=(2,ps L b d' (iv 3::sv nm::iv 0::T::(zz++[iv e,iv w])))):=by
 cases m with
 |zero=>unfold bC;rw[ol];trivial
 |succ m=>
  refine .of ?_;rw[bQ,aez];simp[jR hW ha];refine .st (fun hs=>?_) (fun hs=>?_)
  ·simp[hs]
   refine .callW (hat m (by omega) a d h0 h1 ha) (fun v b hb hab g=>?_) (fun e w b d' g=>?_)
   ·simp[g]
    have hn:=ag9 hW nm m (by omega) hat [v] b d h0 h1 hb (by simp;omega);rw[List.map_cons,List.map_nil,Ty.cells_eq v] at hn;cases hr:bC L m [v] d b with
    |out=>trivial
    |err e w=>rw[hr] at hn;obtain⟨z,g1,b2,d',T,rfl⟩:=hn;exact⟨_,by simp[g1],b2,d',.inr ⟨T,rfl⟩⟩
    |ok v2 b2=>
     rw[hr] at hn;obtain⟨hb2,z,g1,h5,h6,rfl⟩:=hn;cases v2 with
     |nil=>exact absurd rfl (h6 (by simp))
     |cons x l=>exact⟨hb2,_,by simp[g1],by omega,rfl⟩
   ·exact⟨_,by simp[g],b,d',.inl rfl⟩
  ·exact .pure ha (by simp[hs]) ⟨Nat.le_refl _,rfl⟩
theorem acm{n:Nat}(hat:∀m,m≤n→Pa L (pAt L) oq (fU L m)):Pa L (pBt L) oq (btG L n):=by
 intro a d h0 h1 ha;refine .weak (alU ev _ _ _) (.of ?_);rw[aqB];simp[eP ha,Tk.cells];refine .next (.if' (fun k2=>?_) (fun k2=>?_))
 ·simp[k2]
  have hl:=hW.fin a (by omega);simp[-Int.natCast_add,oN hW ha,Tk.cells];have hn:=aco hW (ai L a).text n (by omega) hat (a+1) d h0 h1 hl (by omega);refine .up (.bind hn (fun v b z hb g hz=>?_) (fun e w z g hz=>?_))
  ·obtain⟨hab,hz⟩:=hz
   cases v with
   |nil=>
    subst hz;exact .pure hb (by simp[-Int.natCast_add,g]) (.of (m:=[0,1,0]) (k:=0) (ys:=[iv 3,sv (ai L a).text,iv 0,nS]) (by omega) rfl (by simp[bH]))
   |cons x l=>
    subst hz;exact .pure hb (by simp[-Int.natCast_add,g]) (.of (m:=[0,1,0]) (k:=2) (ys:=[iv 3,sv (ai L a).text,iv 0,bH (x::l)]) (by omega) rfl (by simp))
  ·obtain⟨b,d',rfl|⟨T,rfl⟩⟩:=hz
   ·exact⟨_,by simp[-Int.natCast_add,g],.of (m:=[0,1,0]) (b:=b) (d:=d') (k:=1) rfl⟩
   ·exact⟨_,by simp[-Int.natCast_add,g],.of (m:=[0,1,0]) (b:=b) (d:=d') (k:=1) rfl⟩
 ·simp[k2]
  have ht:=hat n (Nat.le_refl _) a d h0 h1 ha;cases hr:fU L n d a with
  |out=>trivial
  |err e w=>rw[hr] at ht;obtain⟨z,g,b,d',rfl⟩:=ht;exact⟨_,by simp[g],.of (m:=[0,1,0]) (b:=b) (d:=d') (k:=1) rfl⟩
  |ok v b=>rw[hr] at ht;obtain⟨hb,z,g,hab,rfl⟩:=ht;exact⟨hb,_,by simp[g],.of (m:=[0,1,0]) (k:=0) (ys:=oq v) hab rfl (by simp)⟩
theorem acn{n:Nat}(ih:Pa L (pTy L) oq (iU L n)):Pa L (pAt L) oq (fU L (n+1)):=by
 intro a d h0 h1 ha;refine .weak (alI ev _ _ _) (.of ?_);rw[qA,aqg];simp[-Int.natCast_add,oN hW ha,Tk.cells];refine .next (.if' (fun k2=>?_) (fun k2=>.if' (fun k1=>?_) (fun k1=>?_)))
 ·exact .up (.pure (hW.fin a (by omega)) (by simp[-Int.natCast_add,k2]) (.of (m:=[0,1]) (k:=0) (ys:=[iv 3,sv (ai L a).text,iv 0,nS]) (by omega) rfl (by simp[bH])))
 ·exact .up (.pure (hW.fin a (by omega)) (by simp[-Int.natCast_add,k1]) (.of (m:=[0,1]) (k:=0) (ys:=[iv 1,sv (ai L a).text,iv 0,nS]) (by omega) rfl (by simp[bH])))
 ·have ka:(ai L a).kind=7→(ai L a).text=KM→lG L KM a=true:=fun h1 h2=>by unfold lG;simp[h1,h2]
  refine .take (by decide) (fun ho=>?_) (fun ho=>?_)
  ·have hk:(ai L a).kind=7∧(ai L a).text=KM:=by
    unfold lG at ho;rw[Bool.and_eq_true,decide_eq_true_eq,decide_eq_true_eq] at ho;have ht:=hW.top a;have h6:(ai L a).kind≠6:=fun h6=>(hW.k6 a h6).1 ho.2
    exact⟨by omega,ho.2⟩
   have hl:=hW.fin a (by omega);simp[-Int.natCast_add,hk.1,hk.2];simp[-Int.natCast_add,bL hW hl];refine .may (fun hc=>?_) (fun hc=>?_)
   ·have hl2:=hW.fin (a+1) (by intro h0;unfold lG at hc;simp[h0] at hc)
    exact .pure hl2 (by simp[-Int.natCast_add,hc]) (.of (m:=[0,1]) (k:=0) (ys:=[iv 3,sv sUn,iv 0,nS]) (by omega) rfl (by simp[bH]))
   ·simp[-Int.natCast_add,hc]
    refine .callW (ih (a+1) d h0 h1 hl) (fun v b hb hab g=>?_) (fun e w b d' g=>?_)
    ·simp[-Int.natCast_add,g]
     refine .take (by decide) (fun hc=>?_) (fun hc=>?_)
     ·have hb2:=hW.fin b (by intro h0;unfold lG at hc;simp[h0] at hc)
      exact .pure hb2 (by simp[-Int.natCast_add,aF hW hb,hc,Tk.cells]) (.of (m:=[0,1]) (k:=0) (ys:=oq v) (by omega) rfl (by simp))
     ·exact⟨_,by simp[-Int.natCast_add,aF hW hb,hc],.of (m:=[0,1]) (b:=b) (d:=d) (k:=1) rfl⟩
    ·exact⟨_,by simp[-Int.natCast_add,g],.of (m:=[0,1]) (b:=b) (d:=d') (k:=1) rfl⟩
  ·refine⟨_,?_,.of (m:=[0,1]) (b:=a+1) (d:=d) (k:=1) rfl⟩
   by_cases k7:(ai L a).kind=7
   ·have kx:¬(ai L a).text=KM:=fun h=>by rw[ka k7 h] at ho;cases ho
    simp[-Int.natCast_add,k7,kx,nV hW]
   ·simp[-Int.natCast_add,k2,k1,k7,nV hW]
theorem ag1{n:Nat}(ih:Pa L (pTy L) oq (iU L n))(hbt:Pa L (pBt L) oq (btG L n)):Pa L (pTy L) oq (iU L (n+1)):=by
 intro a d h0 h1 ha;refine .weak (al2 ev _ _ _) (.of ?_);rw[oz,aqN];simp[NU hW ha h0 h1];refine .deep (fun hd=>?_) (fun hd=>?_)
 ·exact⟨_,by simp[hd],.of (m:=[0,1,0]) (b:=a) (d:=d+1) (k:=1) rfl⟩
 ·simp[hd]
  have hw:IntKind.i64.wrap d=d:=aP (by omega);have hq:=hbt a (d+1) (by omega) (by omega) ha;show oo L (aA (btG L n) (fun x=>dV L Cr (aA (iU L n) fun y=>aX (.mk 3 Cr 0 [x,y])) (aX x)) (d+1) a) _ _ _;refine .callW hq (fun v b hb hab g=>?_) (fun e w b d' g=>?_)
  ·simp[g,bL hW hb]
   refine .may (fun hc=>?_) (fun hc=>?_)
   ·have hl2:=hW.fin b (by intro h0;unfold lG at hc;simp[h0] at hc)
    simp[-Int.natCast_add,hc];refine .callW (ih (b+1) (d+1) (by omega) (by omega) hl2) (fun v2 b2 hb2 hab2 g2=>?_) (fun e w b2 d' g2=>?_)
    ·exact .pure hb2 (by simp[-Int.natCast_add,g2,hw]) (.of (m:=[0,1,0]) (k:=0) (ys:=[iv 3,sv Cr,iv 0,.rows [oq v,oq v2]]) (by omega) rfl (by simp[bJ,iH,kg,AZ]))
    ·exact⟨_,by simp[-Int.natCast_add,g2];rfl,.of (m:=[0,1,0]) (b:=b2) (k:=1) rfl⟩
   ·exact .pure hb (by simp[hc,hw]) (.of (m:=[0,1,0]) (k:=2) (ys:=oq v) (by omega) rfl (by simp))
  ·exact⟨_,by simp[g];rfl,.of (m:=[0,1,0]) (b:=b) (k:=1) rfl⟩
theorem xC:∀n m,m≤n→Pa L (pTy L) oq (iU L m)∧Pa L (pAt L) oq (fU L m)
 |_,0,_=>⟨fun a d _ _ _=>by rw[iU];trivial,fun a d _ _ _=>by rw[fU];trivial⟩
 |n+1,m+1,hm=>⟨ag1 hW (xC n m (by omega)).1 (acm hW fun k hk=>(xC n k (by omega)).2),acn hW (xC n m (by omega)).1⟩
theorem GK(n:Nat):Pa L (pTy L) oq (iU L n):=(xC hW n n (Nat.le_refl _)).1
theorem s_at(n:Nat):Pa L (pAt L) oq (fU L n):=(xC hW n n (Nat.le_refl _)).2
end
abbrev pPt(L:List Tk)(a:Nat)(d:Int):Q:=XW (aU L) (iv a) (iv d)
abbrev ak7(L:List Tk)(a:Nat)(d:Int):Q:=af4 (aU L) (iv a) (iv d)
abbrev YG(L:List Tk)(a:Nat)(d:Int):Q:=XM (aU L) (iv a) (iv d)
def apP(L:List Tk)(a:Nat)(d:Int)(v:Pt)(b:Nat)(z:Rs):Prop:=a<b∧∃K,z=(0,ps L b d [iv v.kind,sv v.name,iv v.n,K,iv v.at_])∧(K=nS∧v.kids=[]∨K=pts v.kids∧(ai L a).kind≠2)
abbrev PaA(L:List Tk)(g:GM Pt):Prop:=∀(a:Nat) (d:Int),0≤d→d≤300→a<L.length→lI L (ak7 L a d) (g d a) (apP L a d) (Vz L 1)
theorem zQ{L:List Tk}{a:Nat}{d:Int}{z:Rs}(h:ev (ak7 L a d)=some z):ev (YG L a d)=some (match z.1 with|0=>(0,dL z.2)|k=>(1,z.2))∨z.1≠0∧z.1≠1:=by
 obtain⟨k,ys⟩:=z
 match k with
 |0=>exact .inl (ay.of (by rw[aah ev,h,jb];rfl))
 |1=>exact .inl (ay.of (by rw[aah ev,h,jb];rfl))
 |k+2=>exact .inr ⟨by simp,by simp⟩
section
variable{L:List Tk}(hW:Gg L)
include hW
theorem ax{a:Nat}{x:ByteArray}(h:lG L x a=true):a+1<L.length:=hW.fin a (by intro h0;unfold lG at h;simp[h0] at h)
theorem Zu{a:Nat}{x:ByteArray}(hx:x=KM∨x=sUs)(h:lG L x a=true):(ai L a).kind=7∧(ai L a).text=x:=by
 unfold lG at h;rw[Bool.and_eq_true,decide_eq_true_eq,decide_eq_true_eq] at h;have ht:=hW.top a;have h6:(ai L a).kind≠6:=fun h6=>by rcases hx with rfl|rfl;exact(hW.k6 a h6).1 h.2;exact(hW.k6 a h6).2 h.2
 exact⟨by omega,h.2⟩
omit hW in
theorem Ou{a:Nat}{x:ByteArray}(h:lG L x a=false)(k7:(ai L a).kind=7):¬(ai L a).text=x:=fun h2=>by unfold lG at h;simp[k7,h2] at h
theorem ahb{n:Nat}(ih:Pa L (pPt L) Fp (ou L n)):PaA L (jU L (n+1)):=by
 intro a d h0 h1 ha;refine .of ?_;rw[jU,al4];simp[-Int.natCast_add,oN hW ha,Tk.cells];refine .next (.if' (fun k2=>?_) (fun k2=>.if' (fun k1=>?_) (fun k1=>.if' (fun k3=>?_) (fun k3=>?_))))
 ·exact .up (.pure (hW.fin a (by omega)) (by simp[-Int.natCast_add,k2]) ⟨by omega,nS,rfl,.inl ⟨rfl,rfl⟩⟩)
 ·exact .up (.pure (hW.fin a (by omega)) (by simp[-Int.natCast_add,k1]) ⟨by omega,nS,rfl,.inl ⟨rfl,rfl⟩⟩)
 ·exact .up (.pure (hW.fin a (by omega)) (by simp[-Int.natCast_add,k3]) ⟨by omega,nS,rfl,.inl ⟨rfl,rfl⟩⟩)
 ·refine .may (fun hu=>?_) (fun hu=>?_)
  ·obtain⟨k7,hx⟩:=Zu hW (.inr rfl) hu
   exact .pure (ax hW hu) (by simp[-Int.natCast_add,k7,hx]) ⟨by omega,nS,rfl,.inl ⟨rfl,rfl⟩⟩
  ·refine .take (by decide) (fun ho=>?_) (fun ho=>?_)
   ·obtain⟨k7,hx⟩:=Zu hW (.inl rfl) ho
    have hl:=ax hW ho;simp[-Int.natCast_add,k7,hx];simp[-Int.natCast_add,bL hW hl];refine .may (fun hc=>?_) (fun hc=>?_)
    ·exact .pure (ax hW hc) (by simp[-Int.natCast_add,hc]) ⟨by omega,nS,rfl,.inl ⟨rfl,rfl⟩⟩
    ·simp[-Int.natCast_add,hc]
     refine .callW (ih (a+1) d h0 h1 hl) (fun v b hb hab g=>?_) (fun e w b d' g=>?_)
     ·simp[-Int.natCast_add,g]
      refine .take (by decide) (fun hc=>?_) (fun hc=>?_)
      ·exact .pure (ax hW hc) (by simp[-Int.natCast_add,aF hW hb,hc,Tk.cells]) ⟨by omega,pts v.kids,rfl,.inr ⟨rfl,k2⟩⟩
      ·exact⟨_,by simp[-Int.natCast_add,aF hW hb,hc],b,d,rfl⟩
     ·exact⟨_,by simp[-Int.natCast_add,g],b,d',rfl⟩
   ·refine⟨_,?_,a+1,d,rfl⟩
    by_cases k7:(ai L a).kind=7
    ·simp[-Int.natCast_add,k7,Ou ho k7,Ou hu k7,nV hW]
    ·simp[-Int.natCast_add,k2,k1,k3,k7,nV hW]
omit hW in
theorem Yo{K:PV}{v:Pt}(hK:K=nS∧v.kids=[]∨K=pts v.kids):dL [iv v.kind,sv v.name,iv v.n,K,iv v.at_]=v.cells∧kM [iv v.kind,sv v.name,iv v.n,K,iv v.at_]:=by
 rcases hK with⟨rfl,h⟩|rfl
 ·exact⟨by rw[Pt.cells_eq];simp[h],by simp⟩
 ·exact⟨by rw[Pt.cells_eq];simp,by simp⟩
theorem ag2{n:Nat}(k:Int)(nm:ByteArray)(z0:Int)(at0:Int):∀(m:Nat),m≤n→(∀m,m≤n→PaA L (jU L m))→∀(l:List Pt) (es:List (List PV)) (a:Nat) (d:Int),0≤d→d≤300→a<L.length→l.length≤a→Raw 5 es (l.map Pt.cells)→lI L (KU (aU L) (iv a) (iv d) (iv k) (sv nm) (iv z0) es (iv at0)) (jy L m l d a)
  (fun v b z=>a≤b∧∃es',Raw 5 es' (v.map Pt.cells)∧z=(3,ps L b d [iv k,sv nm,iv z0,.rows es',iv at0,iv 0,sv eB,iv 0,nS,iv 0])) (fun e w z=>∃(b:Nat) (d':Int) (T:PV),z=(2,ps L b d' [iv k,sv nm,iv z0,T,iv at0,iv 0,sv eB,iv 0,nS,iv 0,iv e,iv w])):=by
 intro m hm hat
 induction m with
 |zero=>intro l es a d h0 h1 ha hl hr;rw[jy];trivial
 |succ m ih=>
  intro l es a d h0 h1 ha hl hr;refine .of ?_;rw[jy,aas];simp[R5 hW ha];refine .st (fun hs=>?_) (fun hs=>?_)
  ·simp[hs]
   refine .bind (hat m (by omega) a d h0 h1 ha) (fun v b z hb g hz=>?_) (fun e w z g hz=>?_)
   ·obtain⟨hab,K,rfl,hK⟩:=hz
    have gw:=(zQ g).resolve_right (fun h=>h.1 rfl);obtain⟨hc,hns⟩:=Yo (v:=v) (hK.imp id And.left);have hln:=hr.len;rw[List.length_map] at hln;have hap:=fun k'=>aH (P:=PG) (d:=.fail) (k:=k') agX hr (c:=[iv v.kind,sv v.name,iv v.n,K,iv v.at_]) rfl hns (by have:=hW.len;omega) (by decide)
    have hapw:=fun k'=>aH (P:=PG) (d:=.fail) (k:=k') agX hr (c:=Fp v) rfl (by simp) (by have:=hW.len;omega) (by decide)
    have hr2:Raw 5 (es++[[iv v.kind,sv v.name,iv v.n,K,iv v.at_]]) ((l++[v]).map Pt.cells):=by
     have:=hr.app (c:=[iv v.kind,sv v.name,iv v.n,K,iv v.at_]) hc rfl hns;simpa using this
    have hr3:Raw 5 (es++[Fp v]) ((l++[v]).map Pt.cells):=by
     have:=hr.app (c:=Fp v) (c':=v.cells) (by rw[Pt.cells_eq];simp) rfl (by simp);simpa using this
    have key:∀es',Raw 5 es' ((l++[v]).map Pt.cells)→_:=fun es' he=>ih (by omega) (l++[v]) es' b d h0 h1 hb (by simp;omega) he
    rcases hK with⟨rfl,hk⟩|⟨rfl,hk⟩
    ·simp[g,gw,hap]
     have hn:=key _ hr2;cases hr:jy L m (l++[v]) d b with
     |out=>trivial
     |err e w=>rw[hr] at hn;obtain⟨z,g1,b2,d',T,rfl⟩:=hn;exact⟨_,by simp[g1],b2,d',T,rfl⟩
     |ok v2 b2=>rw[hr] at hn;obtain⟨hb2,z,g1,h5,es',h6,rfl⟩:=hn;exact⟨hb2,_,by simp[g1],by omega,es',h6,rfl⟩
    ·have gw:ev (YG L a d)=some (0,ps L b d (Fp v)):=by simpa using gw
     have hx:∀k:aM,isK .fail nS (pts v.kids) k=.fail:=fun k=>qo _ _ _
     simp[g,gw,hx,hapw];have hn:=key _ hr3;cases hr:jy L m (l++[v]) d b with
     |out=>trivial
     |err e w=>rw[hr] at hn;obtain⟨z,g1,b2,d',T,rfl⟩:=hn;exact⟨_,by simp[g1],b2,d',T,rfl⟩
     |ok v2 b2=>rw[hr] at hn;obtain⟨hb2,z,g1,h5,es',h6,rfl⟩:=hn;exact⟨hb2,_,by simp[g1],by omega,es',h6,rfl⟩
   ·obtain⟨b,d',rfl⟩:=hz
    have gw:=(zQ g).resolve_right (fun h=>h.2 rfl);exact⟨_,by simp[g,gw],b,d',.rows es,rfl⟩
  ·exact .pure ha (by simp[hs]) ⟨Nat.le_refl _,es,hr,rfl⟩
theorem acf{n:Nat}(k:Int)(nm:ByteArray)(z0:Int)(at0:Int)(m:Nat)(hm:m≤n)(hat:∀m,m≤n→PaA L (jU L m))(a:Nat)(d:Int)(h0:0≤d)(h1:d≤300)(ha:a<L.length):lI L (KX (aU L) (iv a) (iv d) (iv k) (sv nm) (iv z0) (iv at0)) (jy L m [] d a)
  (fun v b z=>a≤b∧(v=[]∧z=(1,ps L b d [iv k,sv nm,iv z0,nS,iv at0,iv 0,sv eB,iv 0,nS,iv 0])∨∃es',Raw 5 es' (v.map Pt.cells)∧z=(3,ps L b d [iv k,sv nm,iv z0,.rows es',iv at0,iv 0,sv eB,iv 0,nS,iv 0])))
  (fun e w z=>∃(b:Nat) (d':Int),z=(0,ps L b d' [iv k,sv nm,iv z0,nS,iv at0,iv 0,sv eB,iv 0,nS,iv 0,iv e,iv w])∨∃(T:PV),z=(2,ps L b d' [iv k,sv nm,iv z0,T,iv at0,iv 0,sv eB,iv 0,nS,iv 0,iv e,iv w])):=by
 cases m with
 |zero=>rw[jy];trivial
 |succ m=>
  refine .of ?_;rw[jy,aav];simp[R5 hW ha];refine .st (fun hs=>?_) (fun hs=>?_)
  ·simp[hs]
   refine .bind (hat m (by omega) a d h0 h1 ha) (fun v b z hb g hz=>?_) (fun e w z g hz=>?_)
   ·obtain⟨hab,K,rfl,hK⟩:=hz
    have gw:=(zQ g).resolve_right (fun h=>h.1 rfl);obtain⟨hc,hns⟩:=Yo (v:=v) (hK.imp id And.left);have hr2:Raw 5 [[iv v.kind,sv v.name,iv v.n,K,iv v.at_]] ([v].map Pt.cells):=.one hc rfl hns;have hr3:Raw 5 [Fp v] ([v].map Pt.cells):=.one (by rw[Pt.cells_eq];simp) rfl (by simp);have key:∀es',Raw 5 es' ([v].map Pt.cells)→_:=fun es' he=>ag2 hW k nm z0 at0 m (by omega) hat [v] es' b d h0 h1 hb (by simp;omega) he
    rcases hK with⟨rfl,hk⟩|⟨rfl,hk⟩
    ·simp[g,gw]
     have hn:=key _ hr2;cases hr:jy L m [v] d b with
     |out=>trivial
     |err e w=>rw[hr] at hn;obtain⟨z,g1,b2,d',T,rfl⟩:=hn;exact⟨_,by simp[g1],b2,d',.inr ⟨T,rfl⟩⟩
     |ok v2 b2=>rw[hr] at hn;obtain⟨hb2,z,g1,h5,es',h6,rfl⟩:=hn;exact⟨hb2,_,by simp[g1],by omega,.inr ⟨es',h6,rfl⟩⟩
    ·have gw:ev (YG L a d)=some (0,ps L b d (Fp v)):=by simpa using gw
     have hx:∀k:aM,isK .fail nS (pts v.kids) k=.fail:=fun k=>qo _ _ _
     simp[g,gw,hx];have hn:=key _ hr3;cases hr:jy L m [v] d b with
     |out=>trivial
     |err e w=>rw[hr] at hn;obtain⟨z,g1,b2,d',T,rfl⟩:=hn;exact⟨_,by simp[g1],b2,d',.inr ⟨T,rfl⟩⟩
     |ok v2 b2=>rw[hr] at hn;obtain⟨hb2,z,g1,h5,es',h6,rfl⟩:=hn;exact⟨hb2,_,by simp[g1],by omega,.inr ⟨es',h6,rfl⟩⟩
   ·obtain⟨b,d',rfl⟩:=hz
    have gw:=(zQ g).resolve_right (fun h=>h.2 rfl);exact⟨_,by simp[g,gw],b,d',.inl rfl⟩
  ·exact .pure ha (by simp[hs]) ⟨Nat.le_refl _,.inl ⟨rfl,rfl⟩⟩
theorem ajM{n:Nat}(hat:∀m,m≤n→PaA L (jU L m)):Pa L (pPt L) Fp (ou L (n+1)):=by
 intro a d h0 h1 ha;refine .weak (aiv ev _ _ _) (.of ?_);rw[ou,al6];simp[NU hW ha h0 h1];refine .deep (fun hd=>?_) (fun hd=>?_)
 ·exact⟨_,by simp[hd],.of (m:=[0,0,1]) (b:=a) (d:=d+1) (k:=2) rfl⟩
 ·simp[hd,eP ha,Tk.cells]
  have hw:IntKind.i64.wrap d=d:=aP (by omega);refine .next (.bind (hat n (Nat.le_refl _) a (d+1) (by omega) (by omega) ha) (fun v b z hb g hz=>?_) (fun e w z g hz=>?_))
  ·obtain⟨hab,K,rfl,hK⟩:=hz
   have gw:=(zQ g).resolve_right (fun h=>h.1 rfl);refine .if' (fun k2=>?_) (fun k2=>?_)
   ·rcases hK with⟨rfl,hk⟩|⟨_,hk⟩
    ·simp[k2,g,gw]
     refine .bind (acf hW v.kind v.name v.n v.at_ n (Nat.le_refl _) hat b (d+1) (by omega) (by omega) hb) (fun l b2 z hb2 g2 hz=>?_) (fun e w z g2 hz=>?_)
     ·obtain⟨h5,hz⟩:=hz
      rcases hz with⟨rfl,rfl⟩|⟨es',h6,rfl⟩
      ·exact .pure hb2 (by simp[g2,hw]) (.of (m:=[0,0,1]) (k:=0) (ys:=[iv v.kind,sv v.name,iv v.n,nS,iv v.at_]) (by omega) rfl (by simp))
      ·exact .pure hb2 (by simp[g2,hw]) (.of (m:=[0,0,1]) (k:=1) (ys:=[iv v.kind,sv v.name,iv v.n,.rows es',iv v.at_]) (by omega) rfl (by simp[h6.wd,pts]))
     ·obtain⟨b2,d',rfl|⟨T,rfl⟩⟩:=hz
      ·exact⟨_,by simp[g2];rfl,.of (m:=[0,0,1]) (b:=b2) (k:=2) rfl⟩
      ·exact⟨_,by simp[g2];rfl,.of (m:=[0,0,1]) (b:=b2) (k:=2) rfl⟩
    ·exact absurd k2 hk
   ·rcases hK with⟨rfl,hk⟩|⟨rfl,hk⟩
    ·have hc:ev (KW (aU L) (iv b) (iv (d+1)) (iv v.kind) (sv v.name) (iv v.n) (iv v.at_))=some (1,ps L b (d+1) [iv v.kind,sv v.name,iv v.n,nS,iv v.at_,iv 0,sv eB,iv 0,nS,iv 0]):=ay.of (by rw[aau];simp)
     exact .pure hb (by simp[k2,g,gw,hc,hw]) (.of (m:=[0,0,1]) (k:=0) (ys:=[iv v.kind,sv v.name,iv v.n,nS,iv v.at_]) (by omega) rfl (by simp[hk]))
    ·have gw:ev (YG L a (d+1))=some (0,ps L b (d+1) (Fp v)):=by simpa using gw
     have hx:∀k:aM,isK .fail nS (pts v.kids) k=.fail:=fun k=>qo _ _ _
     have hc:ev (KV (aU L) (iv b) (iv (d+1)) (iv v.kind) (sv v.name) (iv v.n) (pts v.kids) (iv v.at_))=some (1,ps L b (d+1) [iv v.kind,sv v.name,iv v.n,pts v.kids,iv v.at_,iv 0,sv eB,iv 0,nS,iv 0]):=ay.of (by rw[aat];simp);exact .pure hb (by simp[k2,g,gw,hx,hc,hw]) (.of (m:=[0,0,1]) (k:=0) (ys:=Fp v) (by omega) rfl (by simp))
  ·obtain⟨b,d',rfl⟩:=hz
   have gw:=(zQ g).resolve_right (fun h=>h.2 rfl);have gw:ev (YG L a (d+1))=some (1,ps L b d' [iv e,iv w]):=gw;refine⟨_,?_,.of (m:=[0,0,1]) (b:=b) (d:=IntKind.i64.wrap (d'-1)) (k:=2) rfl⟩;by_cases k2:(ai L a).kind=2
   ·simp[k2,g,gw]
   ·simp[k2,g,gw]
theorem GL:∀n m,m≤n→Pa L (pPt L) Fp (ou L m)∧PaA L (jU L m)
 |_,0,_=>⟨fun a d _ _ _=>by rw[ou];trivial,fun a d _ _ _=>by rw[jU];trivial⟩
 |n+1,m+1,hm=>⟨ajM hW fun k hk=>(GL n k (by omega)).2,ahb hW (GL n m (by omega)).1⟩
theorem ajL(n:Nat):Pa L (pPt L) Fp (ou L n):=(GL hW n n (Nat.le_refl _)).1
end
set_option maxRecDepth 10000
abbrev R6(L:List Tk)(a:Nat)(d:Int):Q:=afV (aU L) (iv a) (iv d)
abbrev pBd(L:List Tk)(a:Nat)(d:Int):Q:=afP (aU L) (iv a) (iv d)
abbrev pAm(L:List Tk)(a:Nat)(d:Int):Q:=afH (aU L) (iv a) (iv d)
abbrev pBr(L:List Tk)(w:Int)(a:Nat)(d:Int):Q:=X0 (iv w) (aU L) (iv a) (iv d)
abbrev pCs(L:List Tk)(w:Int)(a:Nat)(d:Int):Q:=X3 (iv w) (aU L) (iv a) (iv d)
def erD(L:List Tk)(d:Int)(se:Nat)(e w:Int)(z:Rs):Prop:=∃(b:Nat),z=(se,ps L b d [iv e,iv w])
section
variable{L:List Tk}(hW:Gg L)
include hW
theorem qJ(a:Nat)(d:Int)(ha:a<L.length):lI L (aks (aU L) (iv a) (iv d)) (Am L d a) (YR L a d 0 Tk.cells) (erD L d 1):=by
 refine .of ?_;unfold Am;rw[h87a];simp[NT hW ha];refine .may (fun ho=>?_) (fun ho=>?_)
 ·have hl:=ax hW ho
  have hw:=hW.w1 ha;simp[-Int.natCast_add,ho,hw];refine .takeK (by decide) (fun k5=>?_) (fun k5=>?_)
  ·have hl2:=hW.fin (a+1) (by omega)
   simp[-Int.natCast_add,cu hW hl,k5,Tk.cells];refine .take (by decide) (fun hc=>?_) (fun hc=>?_)
   ·exact .pure (ax hW hc) (by simp[-Int.natCast_add,aF hW hl2,hc,Tk.cells,k5]) ⟨by omega,rfl⟩
   ·exact⟨_,by simp[-Int.natCast_add,aF hW hl2,hc],a+1+1,rfl⟩
  ·exact⟨_,by simp[-Int.natCast_add,cu hW hl,k5],a+1,rfl⟩
 ·have hq:=acZ (d:=d) hW ha (k:=1) (by decide) (by decide) eB
  simp[ho];cases hr:aY L 1 eB d a with
  |out=>trivial
  |err e w=>
   unfold aY at hr;by_cases k1:UX L 1 eB a=true
   ·rw[if_pos k1] at hr;cases hr
   ·rw[if_neg k1] at hr
    cases hr;have k1:(ai L a).kind≠1:=by unfold UX at k1;simpa using k1
    exact⟨_,by simp[cu hW ha,k1],a,rfl⟩
  |ok v b=>
   unfold aY at hr;by_cases k1:UX L 1 eB a=true
   ·rw[if_pos k1] at hr
    cases hr;have k1:(ai L a).kind=1:=by unfold UX at k1;simpa using k1
    exact⟨hW.fin a (by omega),_,by simp[-Int.natCast_add,cu hW ha,k1,Tk.cells],by omega,rfl⟩
   ·rw[if_neg k1] at hr;cases hr
theorem WL{n:Nat}(ih:Pa L (R6 L) eH (fK L n)):Pa L (pBd L) fZ (AO L (n+1)):=by
 intro a d h0 h1 ha;refine .weak (alN ev _ _ _) (.of ?_);rw[AO,aqp];refine .bind (qJ hW a d ha) (fun t b z hb g hz=>?_) (fun e w z g hz=>?_)
 ·obtain⟨hab,rfl⟩:=hz
  simp[g,Tk.cells];refine .take (by decide) (fun hc=>?_) (fun hc=>?_)
  ·have hl:=ax hW hc
   simp[-Int.natCast_add,aF hW hb,hc,Tk.cells];refine .callW (ih (b+1) d h0 h1 hl) (fun v b2 hb2 hab2 g2=>?_) (fun e w b2 d' g2=>?_)
   ·exact .pure hb2 (by simp[-Int.natCast_add,g2]) (.of (m:=[0,1]) (k:=0) (ys:=fZ (.mk t.text v t.at_)) (by omega) rfl (by simp))
   ·exact⟨_,by simp[-Int.natCast_add,g2],.of (m:=[0,1]) (b:=b2) (d:=d') (k:=1) rfl⟩
  ·exact⟨_,by simp[aF hW hb,hc],.of (m:=[0,1]) (b:=b) (d:=d) (k:=1) rfl⟩
 ·obtain⟨b,rfl⟩:=hz
  exact⟨_,by simp[g],.of (m:=[0,1]) (b:=b) (d:=d) (k:=1) rfl⟩
def brG(L:List Tk)(n:Nat)(w:Int):GM Ex:=dV L Cq (aX (iP 4 sUn 0 [] w)) (kz L 5 (aA (aY L 5 eB) fun o=>aA (aY L 7 Cq) fun _=>aX (iP 3 o.text 0 [] w))
 (aA (fK L n) fun y=>dV L acy (aA (iU L n) fun ty=>aA (aY L 7 Cq) fun _=>aX (.mk 12 eB 0 ty [y] [] [] w)) (aA (aY L 7 Cq) fun _=>aX y)))
theorem UF{n:Nat}(ih:Pa L (R6 L) eH (fK L n))(w:Int)(a:Nat)(d:Int)(h0:0≤d)(h1:d≤300)(ha:a<L.length)(hpos:0<a):lI L (pBr L w a d) (brG L n w d a) (YR L (a-1) d 0 eH) (Vz L 1):=by
 refine .weak (aix ev _ _ _ _) (.of ?_);unfold brG;rw[al7];simp[bL hW ha];refine .may (fun hc=>?_) (fun hc=>?_)
 ·exact .pure (ax hW hc) (by simp[-Int.natCast_add,hc]) (.of (m:=[0,1,0]) (k:=0) (ys:=[iv 4,sv sUn,iv 0,iv 0,sv eB,iv 0,nS,nS,nS,nS,iv w]) (by omega) rfl (by simp))
 ·simp[hc,eP ha,Tk.cells]
  refine .kind (fun k5=>?_) (fun k5=>?_)
  ·have hl:=hW.fin a (by omega)
   simp[-Int.natCast_add,k5,oN hW ha,Tk.cells];refine .takeK (by decide) (fun _=>?_) (fun h=>absurd k5 h);refine .take (by decide) (fun hc=>?_) (fun hc=>?_)
   ·exact .pure (ax hW hc) (by simp[-Int.natCast_add,aF hW hl,hc,Tk.cells]) (.of (m:=[0,1,0]) (k:=0) (ys:=[iv 3,sv (ai L a).text,iv 0,iv 0,sv eB,iv 0,nS,nS,nS,nS,iv w]) (by omega) rfl (by simp))
   ·exact⟨_,by simp[-Int.natCast_add,aF hW hl,hc],.of (m:=[0,1,0]) (b:=a+1) (d:=d) (k:=1) rfl⟩
  ·simp[k5]
   refine .callW (ih a d h0 h1 ha) (fun v b hb hab g=>?_) (fun e w b d' g=>?_)
   ·simp[g]
    simp[bL hW hb];refine .may (fun hc=>?_) (fun hc=>?_)
    ·have hl:=ax hW hc
     simp[-Int.natCast_add,hc];refine .callW (GK hW n (b+1) d h0 h1 hl) (fun ty b2 hb2 hab2 g2=>?_) (fun e w b2 d' g2=>?_)
     ·simp[-Int.natCast_add,g2]
      refine .take (by decide) (fun hc=>?_) (fun hc=>?_)
      ·exact .pure (ax hW hc) (by simp[-Int.natCast_add,aF hW hb2,hc,Tk.cells]) (.of (m:=[0,1,0]) (k:=2) (ys:=[iv 12,sv eB,iv 0,iv ty.kind,sv ty.name,iv ty.n,bH ty.kids,.rows [eH v],nS,nS,iv w]) (by omega) rfl (by simp[bJ,lJ,fe]))
      ·exact⟨_,by simp[-Int.natCast_add,aF hW hb2,hc],.of (m:=[0,1,0]) (b:=b2) (d:=d) (k:=1) rfl⟩
     ·exact⟨_,by simp[-Int.natCast_add,g2],.of (m:=[0,1,0]) (b:=b2) (d:=d') (k:=1) rfl⟩
    ·simp[hc]
     refine .take (by decide) (fun hc=>?_) (fun hc=>?_)
     ·exact .pure (ax hW hc) (by simp[-Int.natCast_add,aF hW hb,hc,Tk.cells]) (.of (m:=[0,1,0]) (k:=0) (ys:=eH v) (by omega) rfl (by simp))
     ·exact⟨_,by simp[-Int.natCast_add,aF hW hb,hc],.of (m:=[0,1,0]) (b:=b) (d:=d) (k:=1) rfl⟩
   ·exact⟨_,by simp[g],.of (m:=[0,1,0]) (b:=b) (d:=d') (k:=1) rfl⟩
end
end Go.Proofs.YtijcobeebaceoaaGreatDoor
