/- Joined texts. -/
import Derived.Test.YtfphhabaeggenaaGreatDoorBag
set_option linter.all false
namespace Go.Proofs.YtfphhabaeggenaaGreatDoor
open Go.RowKit
set_option maxRecDepth 10000
section
variable{l:List ByteArray}(hl:l.length≤1000000){i:Nat}
theorem Qr{t:Nat}(h:t<l.length):ev (ajK (sv l[t]))=some (0,[iv (dD l t:Nat),iv (bO (dD l t):Nat)]):=by
 have:dD l t=Wd l[t]:=by unfold dD;rw[List.getElem?_eq_getElem h];rfl
 rw[this];exact ac1 _
theorem vK(t:Nat)(st:List Nat):(st.reverse++[t])[st.length]? = some t:=by rw[List.getElem?_append_right (by simp)];simp
theorem vN(V:Nat→Nat)(i t:Nat)(st out:List Nat):mr V i (t::st) out=if V t<V i∨V t=V i∧bO (V i)=2 then some (t::st,out) else if V t=V i∧bO (V i)=0 then none else mr V i st (out++[t]):=by rw[mr]
include hl
theorem aaY:∀(st out:List Nat),(∀t∈st,t<l.length)→st.length+out.length≤l.length→
  ev (Yo (strs l) (iv (dD l i:Nat)) (iv (bO (dD l i):Nat)) (iv i) (iv i) (iv l.length) (strs l) (fJ st.reverse) (fJ out))=some (match mr (dD l) i st out with
   |some r=>(2,[fJ r.1.reverse,fJ r.2,iv i,iv i,iv l.length,strs l,strs l])
   |none=>(3,[nS,iv i,iv 112]))
 |[],out,h,hb=>aS.of (by rw[ZX];simp[mr])
 |t::st,out,h,hb=>by
  have ht:=h t (by simp);have ih:=aaY st (out++[t]) (fun x hx=>h x (by simp[hx])) (by simp at hb ⊢;omega);refine aS.of ?_;rw[ZX];have e0:IntKind.i64.wrap (st.length:Int)=(st.length:Int):=bR (by simp at hb;omega);have hx:=fun k'=>bq (d:=bG.fail) (k:=k') (List.getElem?_eq_getElem ht)
  have hk:=fun k'=>iM (d:=bG.fail) (k:=k') (vK t st)
  have hap:=fun k'=>qC (d:=bG.fail) (kp:=k') (l:=out) (x:=t) (by simp at hb;omega)
  have htk:=fun k'=>yA (d:=bG.fail) (k:=k') (l:=st.reverse++[t]) (i:=st.length) (by simp)
  have htt:(st.reverse++[t]).take st.length=st.reverse:=by rw[List.take_append_of_le_length (by simp)];exact List.take_of_length_le (by simp)
  rw[htt] at htk;have hp:=Qr (l:=l) ht;rw[vN];by_cases h1:dD l t<dD l i
  ·rw[if_pos (.inl h1),List.reverse_cons]
   simp[e0,hk,hx,hp,h1]
  ·by_cases h2:dD l t=dD l i
   ·rcases qZ (dD l i) with h3|h3|h3
    ·rw[if_neg (by rintro (h|⟨_,h⟩)<;>omega),if_pos ⟨h2,h3⟩,List.reverse_cons]
     simp[e0,hk,hx,hp,eq_false h1,eq_true (show ((dD l t:Nat):Int)=((dD l i:Nat):Int) by rw[h2]),eq_false (show ¬((bO (dD l i):Nat):Int)=2 by omega),eq_true h3]
    ·rw[if_neg (by rintro (h|⟨_,h⟩)<;>omega),if_neg (by rintro⟨_,h⟩;omega),List.reverse_cons]
     simp[e0,hk,hx,hp,eq_false h1,eq_true (show ((dD l t:Nat):Int)=((dD l i:Nat):Int) by rw[h2]),eq_false (show ¬((bO (dD l i):Nat):Int)=2 by omega),eq_false (show ¬bO (dD l i)=0 by omega),hap,htk,ih]
    ·rw[if_pos (.inr ⟨h2,h3⟩),List.reverse_cons]
     simp[e0,hk,hx,hp,eq_false h1,eq_true (show ((dD l t:Nat):Int)=((dD l i:Nat):Int) by rw[h2]),eq_true (show ((bO (dD l i):Nat):Int)=2 by omega)]
   ·rw[if_neg (by rintro (h|⟨h,_⟩)<;>omega),if_neg (by rintro⟨h,_⟩;omega),List.reverse_cons]
    simp[e0,hk,hx,hp,eq_false h1,eq_false (show ¬((dD l t:Nat):Int)=((dD l i:Nat):Int) by omega),hap,htk,ih]
theorem aaX:∀(st out:List Nat),(∀t∈st,t<l.length)→st.length+out.length≤l.length→
  ev (Yn (strs l) (iv (dD l i:Nat)) (iv (bO (dD l i):Nat)) (iv i) (iv i) (iv l.length) (strs l) (fJ st.reverse) (fJ out))=some (match mr (dD l) i st out with
   |some r=>(2,[fJ r.1.reverse,fJ r.2,iv i,iv i,iv l.length,strs l,strs l])
   |none=>(3,[nS,iv i,iv 112]))
 |[],out,h,hb=>aS.of (by rw[ZW];simp[mr])
 |t::st,out,h,hb=>by
  have ht:=h t (by simp);have ih:=aaX st (out++[t]) (fun x hx=>h x (by simp[hx])) (by simp at hb ⊢;omega);refine aS.of ?_;rw[ZW];have e0:IntKind.i64.wrap (st.length:Int)=(st.length:Int):=bR (by simp at hb;omega);have hx:=fun k'=>bq (d:=bG.fail) (k:=k') (List.getElem?_eq_getElem ht)
  have hk:=fun k'=>iM (d:=bG.fail) (k:=k') (vK t st)
  have hap:=fun k'=>qC (d:=bG.fail) (kp:=k') (l:=out) (x:=t) (by simp at hb;omega)
  have htk:=fun k'=>yA (d:=bG.fail) (k:=k') (l:=st.reverse++[t]) (i:=st.length) (by simp)
  have htt:(st.reverse++[t]).take st.length=st.reverse:=by rw[List.take_append_of_le_length (by simp)];exact List.take_of_length_le (by simp)
  rw[htt] at htk;have hp:=Qr (l:=l) ht;rw[vN];by_cases h1:dD l t<dD l i
  ·rw[if_pos (.inl h1),List.reverse_cons]
   simp[e0,hk,hx,hp,h1]
  ·by_cases h2:dD l t=dD l i
   ·rcases qZ (dD l i) with h3|h3|h3
    ·rw[if_neg (by rintro (h|⟨_,h⟩)<;>omega),if_pos ⟨h2,h3⟩,List.reverse_cons]
     simp[e0,hk,hx,hp,eq_false h1,eq_true (show ((dD l t:Nat):Int)=((dD l i:Nat):Int) by rw[h2]),eq_false (show ¬((bO (dD l i):Nat):Int)=2 by omega),eq_true h3]
    ·rw[if_neg (by rintro (h|⟨_,h⟩)<;>omega),if_neg (by rintro⟨_,h⟩;omega),List.reverse_cons]
     simp[e0,hk,hx,hp,eq_false h1,eq_true (show ((dD l t:Nat):Int)=((dD l i:Nat):Int) by rw[h2]),eq_false (show ¬((bO (dD l i):Nat):Int)=2 by omega),eq_false (show ¬bO (dD l i)=0 by omega),hap,htk,ih]
    ·rw[if_pos (.inr ⟨h2,h3⟩),List.reverse_cons]
     simp[e0,hk,hx,hp,eq_false h1,eq_true (show ((dD l t:Nat):Int)=((dD l i:Nat):Int) by rw[h2]),eq_true (show ((bO (dD l i):Nat):Int)=2 by omega)]
   ·rw[if_neg (by rintro (h|⟨h,_⟩)<;>omega),if_neg (by rintro⟨h,_⟩;omega),List.reverse_cons]
    simp[e0,hk,hx,hp,eq_false h1,eq_false (show ¬((dD l t:Nat):Int)=((dD l i:Nat):Int) by omega),hap,htk,ih]
omit hl in
theorem JP(V:Nat→Nat)(i:Nat):∀(st out:List Nat) {r:List Nat×List Nat},mr V i st out=some r→(∀t∈r.1,t∈st)∧r.1.length+r.2.length=st.length+out.length
 |[],out,r,h=>by rw[mr] at h;cases h;simp
 |t::st,out,r,h=>by
  rw[mr] at h;split at h
  ·cases h;simp
  ·split at h
   ·cases h
   ·have:=JP V i st _ h
    exact⟨fun x hx=>List.mem_cons_of_mem _ (this.1 x hx),by simp at this ⊢;omega⟩
def axL(l:List ByteArray)(i:Nat)(st:List Nat)(z:Rs):Option (List Nat×List Nat)→Prop
 |none=>z=(1,[fJ st.reverse,nS,iv i,iv 112])∨z=(3,[nS,iv i,iv 112])
 |some r=>r=(st,[])∧z=(0,[fJ st.reverse,iv i,iv i,iv l.length,strs l,strs l,nS])∨z=(2,[fJ r.1.reverse,fJ r.2,iv i,iv i,iv l.length,strs l,strs l])
def axK(l:List ByteArray)(i:Nat)(st out:List Nat)(z:Rs):Option (List Nat×List Nat)→Prop
 |none=>z=(1,[fJ st.reverse,fJ out,nS,iv i,iv 112])∨z=(3,[nS,iv i,iv 112])
 |some r=>r=(st,out)∧z=(0,[fJ st.reverse,fJ out,iv i,iv i,iv l.length,strs l,strs l])∨z=(2,[fJ r.1.reverse,fJ r.2,iv i,iv i,iv l.length,strs l,strs l])
theorem alv:∀(st out:List Nat),(∀t∈st,t<l.length)→st.length+out.length≤l.length→∃z,ev (Yq (strs l) (iv (dD l i:Nat)) (iv (bO (dD l i):Nat)) (iv i) (iv i) (iv l.length) (strs l) (fJ st.reverse))=some z∧axL l i st z (mr (dD l) i st [])
 |[],out,h,hb=>⟨_,aS.of (by rw[uV];simp),.inl ⟨rfl,rfl⟩⟩
 |t::st,out,h,hb=>by
  have ht:=h t (by simp);have e0:IntKind.i64.wrap (st.length:Int)=(st.length:Int):=bR (by simp at hb;omega);have hx:=fun k'=>bq (d:=bG.fail) (k:=k') (List.getElem?_eq_getElem ht)
  have hk:=fun k'=>iM (d:=bG.fail) (k:=k') (vK t st)
  have htk:=fun k'=>yA (d:=bG.fail) (k:=k') (l:=st.reverse++[t]) (i:=st.length) (by simp)
  have htt:(st.reverse++[t]).take st.length=st.reverse:=by rw[List.take_append_of_le_length (by simp)];exact List.take_of_length_le (by simp)
  rw[htt] at htk;have hp:=Qr (l:=l) ht;have hap:=fun k'=>Lr (d:=bG.fail) (kp:=k') (x:=t)
  have hn:=aaY (i:=i) hl st ([t]) (fun x hx=>h x (by simp[hx])) (by simp at hb ⊢;omega);rw[vN]
  try rw[List.nil_append]
  by_cases h1:dD l t<dD l i
  ·rw[if_pos (.inl h1)]
   exact⟨_,aS.of (by rw[uV];rw[List.reverse_cons];simp[e0,hk,hx,hp,h1];rfl),.inl ⟨rfl,by rw[List.reverse_cons]⟩⟩
  ·by_cases h2:dD l t=dD l i
   ·rcases qZ (dD l i) with h3|h3|h3
    ·rw[if_neg (by rintro (h|⟨_,h⟩)<;>omega),if_pos ⟨h2,h3⟩]
     exact⟨_,aS.of (by rw[uV];rw[List.reverse_cons];simp[e0,hk,hx,hp,eq_false h1,eq_true (show ((dD l t:Nat):Int)=((dD l i:Nat):Int) by rw[h2]),eq_false (show ¬((bO (dD l i):Nat):Int)=2 by omega),eq_true h3];rfl),.inl (by rw[List.reverse_cons])⟩
    ·rw[if_neg (by rintro (h|⟨_,h⟩)<;>omega),if_neg (by rintro⟨_,h⟩;omega)]
     cases hr:mr (dD l) i st ([t]) with
     |none=>rw[hr] at hn;exact⟨_,aS.of (by rw[uV];rw[List.reverse_cons];simp[e0,hk,hx,hp,eq_false h1,eq_true (show ((dD l t:Nat):Int)=((dD l i:Nat):Int) by rw[h2]),eq_false (show ¬((bO (dD l i):Nat):Int)=2 by omega),eq_false (show ¬bO (dD l i)=0 by omega),hap,htk,hn]),.inr rfl⟩
     |some r=>rw[hr] at hn;exact⟨_,aS.of (by rw[uV];rw[List.reverse_cons];simp[e0,hk,hx,hp,eq_false h1,eq_true (show ((dD l t:Nat):Int)=((dD l i:Nat):Int) by rw[h2]),eq_false (show ¬((bO (dD l i):Nat):Int)=2 by omega),eq_false (show ¬bO (dD l i)=0 by omega),hap,htk,hn]),.inr rfl⟩
    ·rw[if_pos (.inr ⟨h2,h3⟩)]
     exact⟨_,aS.of (by rw[uV];rw[List.reverse_cons];simp[e0,hk,hx,hp,eq_false h1,eq_true (show ((dD l t:Nat):Int)=((dD l i:Nat):Int) by rw[h2]),eq_true (show ((bO (dD l i):Nat):Int)=2 by omega)];rfl),.inl ⟨rfl,by rw[List.reverse_cons]⟩⟩
   ·rw[if_neg (by rintro (h|⟨h,_⟩)<;>omega),if_neg (by rintro⟨h,_⟩;omega)]
    cases hr:mr (dD l) i st ([t]) with
    |none=>rw[hr] at hn;exact⟨_,aS.of (by rw[uV];rw[List.reverse_cons];simp[e0,hk,hx,hp,eq_false h1,eq_false (show ¬((dD l t:Nat):Int)=((dD l i:Nat):Int) by omega),hap,htk,hn]),.inr rfl⟩
    |some r=>rw[hr] at hn;exact⟨_,aS.of (by rw[uV];rw[List.reverse_cons];simp[e0,hk,hx,hp,eq_false h1,eq_false (show ¬((dD l t:Nat):Int)=((dD l i:Nat):Int) by omega),hap,htk,hn]),.inr rfl⟩
theorem alu:∀(st out:List Nat),(∀t∈st,t<l.length)→st.length+out.length≤l.length→∃z,ev (Yp (strs l) (iv (dD l i:Nat)) (iv (bO (dD l i):Nat)) (iv i) (iv i) (iv l.length) (strs l) (fJ st.reverse) (fJ out))=some z∧axK l i st out z (mr (dD l) i st out)
 |[],out,h,hb=>⟨_,aS.of (by rw[uU];simp),.inl ⟨rfl,rfl⟩⟩
 |t::st,out,h,hb=>by
  have ht:=h t (by simp);have e0:IntKind.i64.wrap (st.length:Int)=(st.length:Int):=bR (by simp at hb;omega);have hx:=fun k'=>bq (d:=bG.fail) (k:=k') (List.getElem?_eq_getElem ht)
  have hk:=fun k'=>iM (d:=bG.fail) (k:=k') (vK t st)
  have htk:=fun k'=>yA (d:=bG.fail) (k:=k') (l:=st.reverse++[t]) (i:=st.length) (by simp)
  have htt:(st.reverse++[t]).take st.length=st.reverse:=by rw[List.take_append_of_le_length (by simp)];exact List.take_of_length_le (by simp)
  rw[htt] at htk;have hp:=Qr (l:=l) ht;have hap:=fun k'=>qC (d:=bG.fail) (kp:=k') (l:=out) (x:=t) (by simp at hb;omega)
  have hn:=aaX (i:=i) hl st (out++[t]) (fun x hx=>h x (by simp[hx])) (by simp at hb ⊢;omega);rw[vN]
  try rw[List.nil_append]
  by_cases h1:dD l t<dD l i
  ·rw[if_pos (.inl h1)]
   exact⟨_,aS.of (by rw[uU];rw[List.reverse_cons];simp[e0,hk,hx,hp,h1];rfl),.inl ⟨rfl,by rw[List.reverse_cons]⟩⟩
  ·by_cases h2:dD l t=dD l i
   ·rcases qZ (dD l i) with h3|h3|h3
    ·rw[if_neg (by rintro (h|⟨_,h⟩)<;>omega),if_pos ⟨h2,h3⟩]
     exact⟨_,aS.of (by rw[uU];rw[List.reverse_cons];simp[e0,hk,hx,hp,eq_false h1,eq_true (show ((dD l t:Nat):Int)=((dD l i:Nat):Int) by rw[h2]),eq_false (show ¬((bO (dD l i):Nat):Int)=2 by omega),eq_true h3];rfl),.inl (by rw[List.reverse_cons])⟩
    ·rw[if_neg (by rintro (h|⟨_,h⟩)<;>omega),if_neg (by rintro⟨_,h⟩;omega)]
     cases hr:mr (dD l) i st (out++[t]) with
     |none=>rw[hr] at hn;exact⟨_,aS.of (by rw[uU];rw[List.reverse_cons];simp[e0,hk,hx,hp,eq_false h1,eq_true (show ((dD l t:Nat):Int)=((dD l i:Nat):Int) by rw[h2]),eq_false (show ¬((bO (dD l i):Nat):Int)=2 by omega),eq_false (show ¬bO (dD l i)=0 by omega),hap,htk,hn]),.inr rfl⟩
     |some r=>rw[hr] at hn;exact⟨_,aS.of (by rw[uU];rw[List.reverse_cons];simp[e0,hk,hx,hp,eq_false h1,eq_true (show ((dD l t:Nat):Int)=((dD l i:Nat):Int) by rw[h2]),eq_false (show ¬((bO (dD l i):Nat):Int)=2 by omega),eq_false (show ¬bO (dD l i)=0 by omega),hap,htk,hn]),.inr rfl⟩
    ·rw[if_pos (.inr ⟨h2,h3⟩)]
     exact⟨_,aS.of (by rw[uU];rw[List.reverse_cons];simp[e0,hk,hx,hp,eq_false h1,eq_true (show ((dD l t:Nat):Int)=((dD l i:Nat):Int) by rw[h2]),eq_true (show ((bO (dD l i):Nat):Int)=2 by omega)];rfl),.inl ⟨rfl,by rw[List.reverse_cons]⟩⟩
   ·rw[if_neg (by rintro (h|⟨h,_⟩)<;>omega),if_neg (by rintro⟨h,_⟩;omega)]
    cases hr:mr (dD l) i st (out++[t]) with
    |none=>rw[hr] at hn;exact⟨_,aS.of (by rw[uU];rw[List.reverse_cons];simp[e0,hk,hx,hp,eq_false h1,eq_false (show ¬((dD l t:Nat):Int)=((dD l i:Nat):Int) by omega),hap,htk,hn]),.inr rfl⟩
    |some r=>rw[hr] at hn;exact⟨_,aS.of (by rw[uU];rw[List.reverse_cons];simp[e0,hk,hx,hp,eq_false h1,eq_false (show ¬((dD l t:Nat):Int)=((dD l i:Nat):Int) by omega),hap,htk,hn]),.inr rfl⟩
theorem aqv:∀(n i:Nat) (st out:List Nat),i≤l.length→l.length-i≤n→(∀t∈st,t<i)→st.length+out.length≤i→
  match fP (dD l) l.length n i st out with
  |.error k=>ev (Eh (iv i) (iv l.length) (strs l) (strs l) (fJ st.reverse) (fJ out))=some (0,[nS,iv k,iv 112])
  |.ok r=>∃st' out',r=out'++st'∧st'.length+out'.length≤l.length∧ev (Eh (iv i) (iv l.length) (strs l) (strs l) (fJ st.reverse) (fJ out))=some (3,[fJ st'.reverse,fJ out']):=by
 intro n
 induction n with
 |zero=>
  intro i st out hi hn hs hb;rw[fP];exact⟨st,out,rfl,by omega,aS.of (by rw[uW];simp[show ¬i<l.length by omega])⟩
 |succ n ih=>
  intro i st out hi hn hs hb;rw[fP];by_cases h:i<l.length
  ·rw[if_pos h]
   have e1:IntKind.i64.wrap ((i:Int)+1)=((i+1:Nat):Int):=by rw[bR (by omega)];omega
   have hx:=fun k'=>bq (d:=bG.fail) (k:=k') (List.getElem?_eq_getElem h)
   have hp:=Qr (l:=l) h;obtain⟨z,g1,g2⟩:=alu (i:=i) hl st out (fun t ht=>by have:=hs t ht;omega) (by omega);cases hr:mr (dD l) i st out with
   |none=>
    rw[hr] at g2;rcases g2 with rfl|rfl
    ·exact aS.of (by rw[uW];simp[-Int.natCast_add,h,hx,hp,g1])
    ·exact aS.of (by rw[uW];simp[-Int.natCast_add,h,hx,hp,g1])
   |some r=>
    have hin:=JP _ _ _ _ hr;obtain⟨st1,out1⟩:=r;have hn:=ih (i+1) (i::st1) out1 (by omega) (by omega) (fun t ht=>by
     rcases List.mem_cons.1 ht with rfl|ht
     ·omega
     ·have:=hs t (hin.1 t ht);omega) (by have:=hin.2;simp at this ⊢;omega)
    rw[List.reverse_cons] at hn;have hap:=fun k'=>qC (d:=bG.fail) (kp:=k') (l:=st1.reverse) (x:=i) (by have:=hin.2;simp at this ⊢;omega)
    have key:∀z,ev (Eh (iv (i+1:Nat)) (iv l.length) (strs l) (strs l) (fJ (st1.reverse++[i])) (fJ out1))=some z→(z.1=0∨z.1=3)→ev (Eh (iv i) (iv l.length) (strs l) (strs l) (fJ st.reverse) (fJ out))=some z:=by
     rintro⟨k,ys⟩ hz hk;rw[hr] at g2;refine aS.of ?_;rcases g2 with⟨g3,rfl⟩|rfl
     ·cases g3
      rcases hk with rfl|rfl
      ·rw[uW];simp[-Int.natCast_add,h,hx,hp,g1,hap,e1,hz]
      ·rw[uW];simp[-Int.natCast_add,h,hx,hp,g1,hap,e1,hz]
     ·rcases hk with rfl|rfl
      ·rw[uW];simp[-Int.natCast_add,h,hx,hp,g1,hap,e1,hz]
      ·rw[uW];simp[-Int.natCast_add,h,hx,hp,g1,hap,e1,hz]
    simp only;cases ho:fP (dD l) l.length n (i+1) (i::st1) out1 with
    |error k=>rw[ho] at hn;exact key _ hn (.inl rfl)
    |ok r=>
     rw[ho] at hn;obtain⟨st',out',c1,c2,c3⟩:=hn;exact⟨st',out',c1,c2,key _ c3 (.inr rfl)⟩
  ·rw[if_neg h]
   exact⟨st,out,rfl,by omega,aS.of (by rw[uW];simp[h])⟩
theorem aqw:∀(n i:Nat) (st:List Nat),i≤l.length→l.length-i≤n→(∀t∈st,t<i)→st.length≤i→
  match fP (dD l) l.length n i st [] with
  |.error k=>ev (JD (iv i) (iv l.length) (strs l) (strs l) (fJ st.reverse))=some (0,[nS,iv k,iv 112])
  |.ok r=>∃st' out',r=out'++st'∧st'.length+out'.length≤l.length∧(out'=[]∧ev (JD (iv i) (iv l.length) (strs l) (strs l) (fJ st.reverse))=some (2,[fJ st'.reverse,nS])∨ev (JD (iv i) (iv l.length) (strs l) (strs l) (fJ st.reverse))=some (3,[fJ st'.reverse,fJ out'])):=by
 intro n
 induction n with
 |zero=>
  intro i st hi hn hs hb;rw[fP];exact⟨st,[],rfl,by simp;omega,.inl ⟨rfl,aS.of (by rw[sM];simp[show ¬i<l.length by omega])⟩⟩
 |succ n ih=>
  intro i st hi hn hs hb;rw[fP];by_cases h:i<l.length
  ·rw[if_pos h]
   have e1:IntKind.i64.wrap ((i:Int)+1)=((i+1:Nat):Int):=by rw[bR (by omega)];omega
   have hx:=fun k'=>bq (d:=bG.fail) (k:=k') (List.getElem?_eq_getElem h)
   have hp:=Qr (l:=l) h;obtain⟨z,g1,g2⟩:=alv (i:=i) hl st [] (fun t ht=>by have:=hs t ht;omega) (by simp;omega);cases hr:mr (dD l) i st [] with
   |none=>
    rw[hr] at g2;rcases g2 with rfl|rfl
    ·exact aS.of (by rw[sM];simp[-Int.natCast_add,h,hx,hp,g1])
    ·exact aS.of (by rw[sM];simp[-Int.natCast_add,h,hx,hp,g1])
   |some r=>
    have hin:=JP _ _ _ _ hr;obtain⟨st1,out1⟩:=r;have hs2:∀t∈i::st1,t<i+1:=fun t ht=>by
     rcases List.mem_cons.1 ht with rfl|ht
     ·omega
     ·have:=hs t (hin.1 t ht);omega
    have hap:=fun k'=>qC (d:=bG.fail) (kp:=k') (l:=st1.reverse) (x:=i) (by have:=hin.2;simp at this ⊢;omega)
    rw[hr] at g2;simp only;rcases g2 with⟨g3,rfl⟩|rfl
    ·cases g3
     have hn:=ih (i+1) (i::st) (by omega) (by omega) hs2 (by simp;omega);rw[List.reverse_cons] at hn;cases ho:fP (dD l) l.length n (i+1) (i::st) [] with
     |error k=>rw[ho] at hn;exact aS.of (by rw[sM];simp[-Int.natCast_add,h,hx,hp,g1,hap,e1,hn])
     |ok r=>
      rw[ho] at hn;obtain⟨st',out',c1,c2,⟨c3,c4⟩|c4⟩:=hn
      ·exact⟨st',out',c1,c2,.inl ⟨c3,aS.of (by rw[sM];simp[-Int.natCast_add,h,hx,hp,g1,hap,e1,c4])⟩⟩
      ·exact⟨st',out',c1,c2,.inr (aS.of (by rw[sM];simp[-Int.natCast_add,h,hx,hp,g1,hap,e1,c4]))⟩
    ·have hn:=aqv hl n (i+1) (i::st1) out1 (by omega) (by omega) hs2 (by have:=hin.2;simp at this ⊢;omega)
     rw[List.reverse_cons] at hn;cases ho:fP (dD l) l.length n (i+1) (i::st1) out1 with
     |error k=>rw[ho] at hn;exact aS.of (by rw[sM];simp[-Int.natCast_add,h,hx,hp,g1,hap,e1,hn])
     |ok r=>
      rw[ho] at hn;obtain⟨st',out',c1,c2,c4⟩:=hn;exact⟨st',out',c1,c2,.inr (aS.of (by rw[sM];simp[-Int.natCast_add,h,hx,hp,g1,hap,e1,c4]))⟩
  ·rw[if_neg h]
   exact⟨st,[],rfl,by simp;omega,.inl ⟨rfl,aS.of (by rw[sM];simp[h])⟩⟩
theorem aqx:match fP (dD l) l.length l.length 0 [] [] with
  |.error k=>ev (Ei (iv 0) (iv l.length) (strs l) (strs l))=some (0,[nS,iv k,iv 112])
  |.ok r=>∃st' out',r=out'++st'∧st'.length+out'.length≤l.length∧(r=[]∧ev (Ei (iv 0) (iv l.length) (strs l) (strs l))=some (1,[nS,nS])∨out'=[]∧ev (Ei (iv 0) (iv l.length) (strs l) (strs l))=some (2,[fJ st'.reverse,nS])∨ev (Ei (iv 0) (iv l.length) (strs l) (strs l))=some (3,[fJ st'.reverse,fJ out'])):=by
 by_cases h:0<l.length
 ·obtain⟨n,hn⟩:∃n,l.length=n+1:=⟨l.length-1,by omega⟩
  have hx:∀k',lX PG bG.fail 38 (.pv (strs l)) (.pv (iv 0)) k'=k' (.cptr [sv l[0]]):=fun k'=>bq (d:=bG.fail) (k:=k') (List.getElem?_eq_getElem h)
  have hp:=Qr (l:=l) h;have hz:ev (Yr (strs l) (iv (dD l 0:Nat)) (iv (bO (dD l 0):Nat)) (iv 0) (iv 0) (iv l.length) (strs l))=some (0,[nS,iv 0,iv 0,iv l.length,strs l,strs l,nS]):=aS.of (by rw[akz];simp);have hap:=fun k'=>Lr (d:=bG.fail) (kp:=k') (x:=0)
  have hn2:=aqw hl n 1 [0] (by omega) (by omega) (by simp) (by simp);have e:fP (dD l) l.length l.length 0 [] []=fP (dD l) l.length n 1 [0] []:=by
   conv=>lhs;arg 3;rw[hn]
   rw[fP,if_pos h];rfl
  rw[e];have w1:IntKind.i64.wrap 1=1:=bR (by decide);have hap:∀k',pO PG bG.fail 132 (.pv (.lit (.slice none 0 0))) (.pv (.rows [[iv 0]])) k'=k' (fJ [0]):=hap;simp only[List.reverse_cons,List.reverse_nil,List.nil_append,Int.natCast_one] at hn2;cases ho:fP (dD l) l.length n 1 [0] [] with
  |error k=>rw[ho] at hn2;exact aS.of (by rw[Km];simp[h,hx,hp,hz,hap,w1,hn2])
  |ok r=>
   rw[ho] at hn2;obtain⟨st',out',c1,c2,⟨c3,c4⟩|c4⟩:=hn2
   ·exact⟨st',out',c1,c2,.inr (.inl ⟨c3,aS.of (by rw[Km];simp[h,hx,hp,hz,hap,w1,c4])⟩)⟩
   ·exact⟨st',out',c1,c2,.inr (.inr (aS.of (by rw[Km];simp[h,hx,hp,hz,hap,w1,c4])))⟩
 ·have hz:l.length=0:=by omega
  have e:fP (dD l) l.length l.length 0 [] []=.ok []:=by rw[hz];rfl
  rw[e];exact⟨[],[],rfl,by simp,.inl ⟨rfl,aS.of (by rw[Km];simp[hz])⟩⟩
theorem XB:∀(rest done out:List Nat),rest.length+out.length≤l.length→ev (Yi (iv ((rest.length:Int)-1)) (fJ (rest.reverse++done)) (fJ out))=some (1,[fJ (rest.reverse++done),fJ (out++rest)])
 |[],done,out,h=>aS.of (by rw[ZR];simp)
 |t::rest,done,out,h=>by
  have ih:=XB rest (t::done) (out++[t]) (by simp at h ⊢;omega);have e0:IntKind.i64.wrap ((rest.length:Int)-1)=(rest.length:Int)-1:=bR (by simp at h;omega);have hk:=fun k'=>iM (d:=bG.fail) (k:=k') (l:=rest.reverse++t::done) (i:=rest.length) (x:=t) (by rw[List.getElem?_append_right (by simp)];simp)
  have hap:=fun k'=>qC (d:=bG.fail) (kp:=k') (l:=out) (x:=t) (by simp at h;omega)
  have e2:((t::rest).length:Int)-1=(rest.length:Int):=by simp
  refine aS.of ?_;rw[e2,List.reverse_cons,List.append_assoc,List.singleton_append];rw[List.append_assoc,List.singleton_append] at ih;rw[ZR];simp[e0,hk,hap,ih]
theorem XC:∀(rest done out:List Nat),rest.length+out.length≤l.length→ev (Yj (iv ((rest.length:Int)-1)) (fJ (rest.reverse++done)) (fJ out))=some (3,[fJ (rest.reverse++done),fJ (out++rest)])
 |[],done,out,h=>aS.of (by rw[ZT];simp)
 |t::rest,done,out,h=>by
  have ih:=XC rest (t::done) (out++[t]) (by simp at h ⊢;omega);have e0:IntKind.i64.wrap ((rest.length:Int)-1)=(rest.length:Int)-1:=bR (by simp at h;omega);have hk:=fun k'=>iM (d:=bG.fail) (k:=k') (l:=rest.reverse++t::done) (i:=rest.length) (x:=t) (by rw[List.getElem?_append_right (by simp)];simp)
  have hap:=fun k'=>qC (d:=bG.fail) (kp:=k') (l:=out) (x:=t) (by simp at h;omega)
  have e2:((t::rest).length:Int)-1=(rest.length:Int):=by simp
  refine aS.of ?_;rw[e2,List.reverse_cons,List.append_assoc,List.singleton_append];rw[List.append_assoc,List.singleton_append] at ih;rw[ZT];simp[e0,hk,hap,ih]
theorem aiA(st out:List Nat)(h:st.length+out.length≤l.length):ev (Yk (iv ((st.length:Int)-1)) (fJ out) (fJ st.reverse))=some (if st=[] then(0,[fJ out,fJ st.reverse]) else(1,[fJ st.reverse,fJ (out++st)])):=by
 cases st with
 |nil=>exact aS.of (by rw[ZU];simp)
 |cons t rest=>
  have ih:=XB hl rest [t] (out++[t]) (by simp at h ⊢;omega);have e0:IntKind.i64.wrap ((rest.length:Int)-1)=(rest.length:Int)-1:=bR (by simp at h;omega);have hk:=fun k'=>iM (d:=bG.fail) (k:=k') (l:=rest.reverse++[t]) (i:=rest.length) (x:=t) (vK t rest)
  have hap:=fun k'=>qC (d:=bG.fail) (kp:=k') (l:=out) (x:=t) (by simp at h;omega)
  have e2:((t::rest).length:Int)-1=(rest.length:Int):=by simp
  refine aS.of ?_;rw[e2,List.reverse_cons];rw[List.append_assoc,List.singleton_append] at ih;rw[ZU];simp[e0,hk,hap,ih]
theorem aiB(st:List Nat)(h:st.length≤l.length):ev (Yl (iv ((st.length:Int)-1)) (fJ st.reverse))=some (if st=[] then(1,[fJ st.reverse,nS]) else(3,[fJ st.reverse,fJ st])):=by
 cases st with
 |nil=>exact aS.of (by rw[ZV];simp)
 |cons t rest=>
  have ih:=XC hl rest [t] [t] (by simp at h ⊢;omega);have e0:IntKind.i64.wrap ((rest.length:Int)-1)=(rest.length:Int)-1:=bR (by simp at h;omega);have hk:=fun k'=>iM (d:=bG.fail) (k:=k') (l:=rest.reverse++[t]) (i:=rest.length) (x:=t) (vK t rest)
  have hap:=fun k'=>Lr (d:=bG.fail) (kp:=k') (x:=t)
  have e2:((t::rest).length:Int)-1=(rest.length:Int):=by simp
  refine aS.of ?_;rw[e2,List.reverse_cons];rw[ZV];simp[e0,hk,hap,ih]
def agq(p:PV)(r:List Nat):Prop:=p=fJ r∨r=[]∧p=nS
theorem JQ:match fP (dD l) l.length l.length 0 [] [] with
  |.error k=>ev (q77 (strs l))=some (0,[nS,iv k,iv 112])
  |.ok r=>r.length≤l.length∧∃p,agq p r∧ev (q77 (strs l))=some (0,[p,iv 0,iv 0]):=by
 have h:=aqx hl;cases ho:fP (dD l) l.length l.length 0 [] [] with
 |error k=>rw[ho] at h;exact aS.of (by rw[h77];simp[h])
 |ok r=>
  rw[ho] at h;obtain⟨st,out,rfl,c2,c⟩:=h;refine⟨by simp;omega,?_⟩;have e0:IntKind.i64.wrap ((st.length:Int)-1)=(st.length:Int)-1:=bR (by omega);rcases c with⟨c3,c4⟩|⟨c3,c4⟩|c4
  ·have t0:ev (Ym (iv (-1)))=some (0,[nS]):=aS.of (by rw[aky];simp)
   exact⟨nS,.inr ⟨c3,rfl⟩,aS.of (by rw[h77];simp[c4,t0])⟩
  ·subst c3
   have ht:=aiB hl st (by omega);by_cases hs:st=[]
   ·subst hs;exact⟨nS,.inr ⟨rfl,rfl⟩,aS.of (by rw[h77];simp at ht;simp[c4,ht,bR])⟩
   ·rw[if_neg hs] at ht
    exact⟨fJ st,.inl rfl,aS.of (by rw[h77];simp[c4,ht,e0])⟩
  ·have ht:=aiA hl st out (by omega)
   by_cases hs:st=[]
   ·subst hs;exact⟨fJ out,.inl (by simp),aS.of (by rw[h77];simp at ht;simp[c4,ht,bR])⟩
   ·rw[if_neg hs] at ht
    exact⟨fJ (out++st),.inl rfl,aS.of (by rw[h77];simp[c4,ht,e0])⟩
end
set_option maxRecDepth 10000
def FnR{α:Type}(F:Nat→α)(fl:List α):Prop:=∀j,j<fl.length→fl[j]? = some (F j)
theorem FnR.set{α:Type}{F:Nat→α}{fl:List α}(h:FnR F fl)(x:Nat)(v:α):FnR (upd F x v) (fl.set x v):=by
 intro j hj;rw[List.length_set] at hj;rw[List.getElem?_set];by_cases hx:x=j
 ·subst hx;rw[if_pos rfl,if_pos hj,DC]
 ·rw[if_neg hx,upd_ne _ _ (fun h=>hx h.symm)];exact h j hj
theorem Rt.lt{F:Nat→Nat}{j a m:Nat}(h:Rt F j a)(hF:∀j,j<m→F j<m):j<m→a<m:=by
 induction h with
 |here a h=>exact id
 |go j a h r ih=>exact fun hj=>ih (hF j hj)
theorem Uq{c:List PV}(h:c.length=11):∃x0 x1 x2 x3 x4 x5 x6 x7 x8 x9 x10,c=[x0,x1,x2,x3,x4,x5,x6,x7,x8,x9,x10]:=by
 match c,h with
 |[x0,x1,x2,x3,x4,x5,x6,x7,x8,x9,x10],_=>exact⟨x0,x1,x2,x3,x4,x5,x6,x7,x8,x9,x10,rfl⟩
def Gx(A:Nat→Ex)(B:List (List PV)):Prop:=∀j,j<B.length→∃c,B[j]? = some c∧Cx (A j) c
theorem Gx.exs(l:List Ex):Gx (KO l) (l.map Ex.cells):=by
 intro j hj;rw[List.length_map] at hj;refine⟨jP (KO l j),?_,.plain _⟩;rw[List.getElem?_map,List.getElem?_eq_getElem hj];unfold KO;rw[List.getElem?_eq_getElem hj];simp[Ex.cells_eq]
theorem Gx.set{A:Nat→Ex}{B:List (List PV)}(h:Gx A B)(x:Nat){v:Ex}{c:List PV}(hc:Cx v c):Gx (upd A x v) (B.set x c):=by
 intro j hj;rw[List.length_set] at hj;rw[List.getElem?_set];by_cases hx:x=j
 ·subst hx;rw[if_pos rfl,if_pos hj,DC];exact⟨c,rfl,hc⟩
 ·rw[if_neg hx,upd_ne _ _ (fun h=>hx h.symm)];exact h j hj
theorem Gx.ns{A:Nat→Ex}{B:List (List PV)}(h:Gx A B):NS (.rows B):=.rows _ fun c hc=>by
 obtain⟨j,hj,rfl⟩:=List.getElem_of_mem hc;obtain⟨c,h1,h2⟩:=h j hj;rw[List.getElem?_eq_getElem hj] at h1;cases h1;exact h2.n
theorem Cx.wk{e:Ex}{c:List PV}(h:Cx e c):Cx e (pX c):=by
 refine⟨?_,by rw[Dy];exact h.l,Ja h.n⟩;have:∀l,fC (pX l)=fC l:=by
  intro l
  induction l with
  |nil=>rfl
  |cons p l ih=>rw[pX,vF,vF,ih,Jb]
 rw[this];exact h.w
section
variable{β:Type}{d:β}{kp:PV→β}{A:Nat→Ex}{B:List (List PV)}
theorem aci{i:Nat}{v:Ex}{c:List PV}(hB:Gx A B)(hc:Cx v c)(h:i<B.length):D6 d (.rows B) (.lit (.int .i64 (i:Int))) 0 c kp=kp (.rows (B.set i c)):=by
 obtain⟨c0,h1,h2⟩:=hB i h;have hg:B.getD i []=c0:=by rw[List.getD_eq_getElem?_getD,h1];rfl
 have hs:setAt c0 0 c=c:=by
  unfold setAt;rw[List.take_zero,List.nil_append,List.drop_of_length_le (by rw[h2.l,hc.l];exact Nat.le_refl _),List.append_nil]
 refine jY (mV (fun w=>?_) (hB.set i hc).ns);constructor
 ·rintro⟨es,n,kd,g1,g2,g3,g4,g5,rfl,_⟩
  cases g1;cases g2;rw[Int.toNat_natCast,hg,hs]
 ·rintro rfl
  refine⟨_,_,_,rfl,rfl,by omega,by rw[Int.toNat_natCast];exact h,?_,?_,mE (hB.set i hc).ns⟩
  ·rw[Int.toNat_natCast,hg,h2.l,hc.l];exact Nat.le_refl 11
  ·rw[Int.toNat_natCast,hg,hs]
theorem Kk{k:AV→β}{i:Nat}{v:Ex}{c:List PV}(h1:B[i]? = some c)(h2:Cx v c):lX PG d 49 (.pv (.rows B)) (.pv (.lit (.int .i64 (i:Int)))) k=k (.cptr c):=
 jm (fun _=>mH VH h1 h2.l) (tN h2.n)
end
theorem YM(t:Tk){x y:Ex}{x0 x1 x2 x3 x4 x5 x6 x7 x8 x9 x10 y0 y1 y2 y3 y4 y5 y6 y7 y8 y9 Cg:PV}(hx:Cx x [x0,x1,x2,x3,x4,x5,x6,x7,x8,x9,x10])(hy:Cx y [y0,y1,y2,y3,y4,y5,y6,y7,y8,y9,Cg]):∃zs,ev (apW (iv t.kind) (sv t.text) (iv t.n) (iv t.at_) x0 x1 x2 x3 x4 x5 x6 x7 x8 x9 x10 y0 y1 y2 y3 y4 y5 y6 y7 y8 y9 Cg)=some (0,zs)∧Cx (opE t x y) zs:=by
 obtain⟨zs,h1,h2⟩:=ac3 t hx hy;exact⟨pX zs,aS.of (by rw[ax1];simp[h1]),h2.wk⟩
section
variable{ops:List Tk}{F:Nat→Nat}{fl:List Nat}
theorem axl(hF:FnR F fl)(hin:∀j,j<fl.length→F j<fl.length){j a:Nat}(h:Rt F j a)(c e f g i all:PV):j<fl.length→
  ev (Ti (iv j) (ops.map Tk.cells) c e f g i (fJ fl) all)=some (0,fJ fl::all::(zE++[iv a,.rows (ops.map Tk.cells),c,e,f,g,i])):=by
 induction h with
 |here a h=>
  intro hj;have hx:=fun k'=>iM (d:=bG.fail) (k:=k') (hF a hj)
  refine aS.of ?_;rw[UD];simp[hx,eq_true (show ((F a:Nat):Int)=(a:Int) by rw[h])]
 |go j a h r ih=>
  intro hj;have hx:=fun k'=>iM (d:=bG.fail) (k:=k') (hF j hj)
  have ih:=ih (hin j hj);refine aS.of ?_;rw[UD];simp[hx,eq_false (show ¬((F j:Nat):Int)=(j:Int) by omega),ih]
theorem am0{r:List Nat}{F F':Nat→Nat}{A A':Nat→Ex}(h:Run ops r F A F' A'):∀(pre fl:List Nat) (B:List (List PV)),FnR F fl→Gx A B→fl.length=B.length→fl.length=ops.length+1→(∀j,j<fl.length→F j<fl.length)→(∀x∈r,x<ops.length)→ops.length≤1000000→pre.length+r.length≤1000000→
  ∃fl' B',Gx A' B'∧B'.length=B.length∧ev (JL (iv pre.length) (iv (pre++r).length) (fJ (pre++r)) (ops.map Tk.cells) (fJ fl) (.rows B))=some (0,fJ fl' :: .rows B'::(zE++[.rows (ops.map Tk.cells)])):=by
 induction h with
 |nil F A=>
  intro pre fl B hF hA hl hn hin hr ho hp;refine⟨fl,B,hA,rfl,aS.of ?_⟩;rw[UE];simp
 |cons i a r F F' A A' h hr2 ih=>
  intro pre fl B hF hA hl hn hin hr ho hp;have hi:=hr i (by simp);have ha:a<fl.length:=h.lt hin (by omega);have hin2:∀j,j<fl.length→upd F (i+1) a j<fl.length:=fun j hj=>by
   unfold upd;split
   ·exact ha
   ·exact hin j hj
  obtain⟨ca,a1,a2⟩:=hA a (by omega);obtain⟨ci,b1,b2⟩:=hA (i+1) (by omega);obtain⟨x0,x1,x2,x3,x4,x5,x6,x7,x8,x9,x10,rfl⟩:=Uq a2.l;obtain⟨y0,y1,y2,y3,y4,y5,y6,y7,y8,y9,Cg,rfl⟩:=Uq b2.l;obtain⟨zs,hz1,hz2⟩:=YM (opAt ops i) a2 b2;obtain⟨z0,z1,z2,z3,z4,z5,z6,z7,z8,z9,z10,rfl⟩:=Uq hz2.l;obtain⟨fl',B',c1,c2,c3⟩:=ih (pre++[i]) (fl.set (i+1) a) (B.set a [z0,z1,z2,z3,z4,z5,z6,z7,z8,z9,z10]) (hF.set _ _) (hA.set _ hz2) (by simp[hl]) (by simpa using hn) (by simpa using hin2) (fun x hx=>hr x (by simp[hx])) ho (by simp at hp ⊢;omega);refine⟨fl',B',c1,by simpa using c2,aS.of ?_⟩;have e1:IntKind.i64.wrap ((pre.length:Int)+1)=((pre.length+1:Nat):Int):=by rw[bR (by omega)];omega
  have e2:IntKind.i64.wrap ((i:Int)+1)=((i+1:Nat):Int):=by rw[bR (by omega)];omega
  have hk:=fun k'=>iM (d:=bG.fail) (k:=k') (l:=pre++i::r) (i:=pre.length) (x:=i) (by rw[List.getElem?_append_right (by simp)];simp)
  have hrt:=axl (ops:=ops) hF hin h (iv i) (iv (i+1:Nat)) (iv pre.length) (iv (pre++i::r).length) (fJ (pre++i::r)) (.rows B) (by omega);have hop:∀k',lX PG bG.fail 102 (.pv (.rows (ops.map Tk.cells))) (.pv (.lit (.int .i64 (i:Int)))) k'=k' (.cptr [iv (opAt ops i).kind,sv (opAt ops i).text,iv (opAt ops i).n,iv (opAt ops i).at_]):=fun k'=>rJ (d:=bG.fail) (k:=k') (vQ hi)
  have hxa:=fun k'=>Kk (d:=bG.fail) (k:=k') a1 a2
  have hxi:=fun k'=>Kk (d:=bG.fail) (k:=k') b1 b2
  have hse:=fun k'=>aci (d:=bG.fail) (kp:=k') (i:=a) hA hz2 (by omega)
  have hfi:=fun k'=>iM (d:=bG.fail) (k:=k') (hF (i+1) (by omega))
  have hsf:=fun k'=>Jq (d:=bG.fail) (kp:=k') (l:=fl) (i:=i+1) (x:=a) (by omega)
  have e3:(pre++[i]).length=pre.length+1:=by simp
  rw[e3,List.append_assoc,List.singleton_append] at c3;rw[UE];have hlt:(pre.length:Int)<((pre++i::r).length:Int):=by simp;omega
  generalize (pre++i::r).length=len at *;generalize pre++i::r=ord at *;simp[-Int.natCast_add,hlt,hk,e2,hrt];simp[-Int.natCast_add,hop,hxa,hxi,hz1,hse,hfi,hsf,e1,c3]
theorem aeU(ops:List Tk)(p all:PV)(len:Nat)(hlen:len≤1000001):∀(n i:Nat) (fl:List Nat),len-i≤n→i≤len→fl.length=len→(∀j,j<i→fl[j]? = some j)→
  ∃fl',fl'.length=len∧FnR (fun j=>j) fl'∧ev (JM (iv i) (iv len) p (ops.map Tk.cells) (fJ fl) all)=some (0,fJ fl'::all::(zE++[p,.rows (ops.map Tk.cells)])):=by
 intro n
 induction n with
 |zero=>
  intro i fl hn hi hl hf;refine⟨fl,hl,fun j hj=>hf j (by omega),aS.of ?_⟩;rw[Ku];simp[show ¬i<len by omega]
 |succ n ih=>
  intro i fl hn hi hl hf;by_cases h:i<len
  ·obtain⟨fl',c1,c2,c3⟩:=ih (i+1) (fl.set i i) (by omega) (by omega) (by simpa using hl) (fun j hj=>by
    rw[List.getElem?_set];by_cases hx:i=j
    ·subst hx;rw[if_pos rfl,if_pos (by omega)]
    ·rw[if_neg hx];exact hf j (by omega))
   have e1:IntKind.i64.wrap ((i:Int)+1)=((i+1:Nat):Int):=by rw[bR (by omega)];omega
   have hx:=fun k'=>iM (d:=bG.fail) (k:=k') (List.getElem?_eq_getElem (show i<fl.length by omega))
   have hsf:=fun k'=>Jq (d:=bG.fail) (kp:=k') (l:=fl) (i:=i) (x:=i) (by omega)
   refine⟨fl',c1,c2,aS.of ?_⟩;rw[Ku];simp[-Int.natCast_add,h,hx,hsf,e1,c3]
  ·refine⟨fl,hl,fun j hj=>hf j (by omega),aS.of ?_⟩
   rw[Ku];simp[h]
end
set_option maxRecDepth 10000
def ahJ(L:List Tk)(a:Nat)(d:Int)(v:List Ex×List Tk)(b:Nat)(z:Rs):Prop:=a≤b∧v.1.length=v.2.length+1∧(v.2≠[]∧v.2.length≤b)∧z=(3,ps L b d (zE++[exs v.1,.rows ((v.2.map Tk.text).map fun s=>[sv s]),.rows (v.2.map Tk.cells)]))
def aqz(L:List Tk)(x:Ex)(a:Nat)(d:Int)(v:List Ex×List Tk)(b:Nat)(z:Rs):Prop:=v=([x],[])∧a≤b∧z=(1,ps L b d (exs [x]::(zE++[nS,nS])))∨ahJ L a d v b z
section
variable{L:List Tk}(hW:I6 L)
include hW
theorem amN{n:Nat}(ihO:∀m,m≤n→Pa L (pOp L) jP (eT L m)):∀(m:Nat),m≤n→∀(l:List Ex) (o:List Tk) (a:Nat) (d:Int),l.length=o.length+1→o≠[]∧o.length≤a→0≤d→d≤300→a<L.length→
  pW L (Tm (o.map Tk.cells) ((o.map Tk.text).map fun s=>[sv s]) (dA L) (iv a) (iv d) (exs l)) (uf L m l o d a) (ahJ L a d)
  (fun e x z=>∃(b:Nat) (d':Int),z=(2,ps L b d' (zE++[iv e,iv x]))):=by
 intro m hm
 induction m with
 |zero=>intro l o a d hl hb h0 h1 ha;rw[uf];trivial
 |succ m ih=>
  intro l o a d hl ⟨hne,hb⟩ h0 h1 ha;refine .of ?_;rw[uf.eq_2,aeA];have hLl:=hW.len;refine .kind (fun k5=>?_) (fun k5=>?_)
  ·refine .takeK (by decide) (fun _=>?_) (fun h=>absurd k5 h)
   have hl1:=hW.fin a (by omega);have m2:(o++[ak L a]).map Tk.cells=o.map Tk.cells++[[iv (ak L a).kind,sv (ak L a).text,iv (ak L a).n,iv (ak L a).at_]]:=by rw[List.map_append,List.map_cons,List.map_nil,Tk.cells]
   have m3:((o++[ak L a]).map Tk.text).map (fun x=>[sv x])=(o.map Tk.text).map (fun x=>[sv x])++[[sv (ak L a).text]]:=by rw[List.map_append,List.map_append,List.map_cons,List.map_nil,List.map_cons,List.map_nil]
   have a1:=fun k'=>bD (P:=PG) (d:=.fail) (k:=k') DZ (acK o) (c:=[iv (ak L a).kind,sv (ak L a).text,iv (ak L a).n,iv (ak L a).at_]) rfl (by simp) (by simp;omega) (by decide)
   have a2:=fun k'=>bD (P:=PG) (d:=.fail) (k:=k') ach (yK (o.map Tk.text)) (c:=[sv (ak L a).text]) rfl (by simp) (by simp;omega) (by decide)
   have hln:∀(k:AV→bG),mG PG .fail 102 (.pv (.rows (o.map Tk.cells++[[iv (ak L a).kind,sv (ak L a).text,iv (ak L a).n,iv (ak L a).at_]]))) k=k (.pv (iv (o.length+1:Nat))):=fun k=>by
    rw[fM (fun _=>kJ DZ _) (bH _)];simp
   have hix:∀(k:AV→bG),lX PG .fail 102 (.pv (.rows (o.map Tk.cells++[[iv (ak L a).kind,sv (ak L a).text,iv (ak L a).n,iv (ak L a).at_]]))) (.pv (.lit (.int .i64 (o.length:Int)))) k=k (.cptr [iv (ak L a).kind,sv (ak L a).text,iv (ak L a).n,iv (ak L a).at_]):=fun k=>by
    have:=rJ (d:=bG.fail) (k:=k) (l:=o++[ak L a]) (i:=o.length) (x:=ak L a) (by rw[List.getElem?_append_right (Nat.le_refl _)];simp);rw[dA,m2] at this;exact this
   have e0:IntKind.i64.wrap (((o.length+1:Nat):Int)-1)=(o.length:Int):=by rw[bR (by omega)];omega
   simp[-Int.natCast_add,-List.map_map,eH ha,Tk.cells,eq_true k5,qd hW ha];simp only[a1,a2,hln,hix];simp[-Int.natCast_add,-List.map_map,a1,a2,hln,hix,e0];refine .callW (ihO m (by omega) (a+1) d h0 h1 hl1) (fun v b hb2 hab g=>?_) (fun e x b d' g=>?_)
   ·have a3:=fun k'=>bD (P:=PG) (d:=.fail) (k:=k') VH (JA l) (c:=jP v) rfl (by simp) (by simp;omega) (by decide)
    have m1:(l++[v]).map Ex.cells=l.map Ex.cells++[jP v]:=by rw[List.map_append,List.map_cons,List.map_nil,Ex.cells_eq]
    have hn:=ih (by omega) (l++[v]) (o++[ak L a]) b d (by simp[hl]) ⟨by simp,by simp;omega⟩ h0 h1 hb2;rw[m2,m3,exs,m1] at hn;simp[-Int.natCast_add,-List.map_map,g];rw[exs];simp only[a3];cases hr:uf L m (l++[v]) (o++[ak L a]) d b with
    |out=>trivial
    |err e x=>rw[hr] at hn;obtain⟨z,g1,b3,d',rfl⟩:=hn;exact⟨_,by simp[-List.map_map,g1],b3,d',rfl⟩
    |ok v2 b3=>rw[hr] at hn;obtain⟨hb3,z,g1,h5,h6,h7,rfl⟩:=hn;exact⟨hb3,_,by simp[-List.map_map,g1],by omega,h6,h7,rfl⟩
   ·exact⟨_,by simp[-Int.natCast_add,-List.map_map,g],b,d',rfl⟩
  ·exact .pure ha (by simp[-List.map_map,eH ha,Tk.cells,k5]) ⟨Nat.le_refl _,hl,⟨hne,hb⟩,rfl⟩
theorem aiZ{n:Nat}(ihO:∀m,m≤n→Pa L (pOp L) jP (eT L m))(m:Nat)(hm:m≤n)(x:Ex)(a:Nat)(d:Int)(h0:0≤d)(h1:d≤300)(ha:a<L.length) :
  pW L (Tn (dA L) (iv a) (iv d) (exs [x])) (uf L m [x] [] d a) (aqz L x a d)
  (fun e y z=>∃(b:Nat) (d':Int),z=(0,ps L b d' (exs [x]::(zE++[iv e,iv y])))∨z=(2,ps L b d' (zE++[iv e,iv y]))):=by
 cases m with
 |zero=>rw[uf];trivial
 |succ m=>
  refine .of ?_;rw[uf.eq_2,aeB];have hLl:=hW.len;refine .kind (fun k5=>?_) (fun k5=>?_)
  ·refine .takeK (by decide) (fun _=>?_) (fun h=>absurd k5 h)
   have hl1:=hW.fin a (by omega);simp[-Int.natCast_add,-List.map_map,eH ha,Tk.cells,eq_true k5,qd hW ha];refine .callW (ihO m (by omega) (a+1) d h0 h1 hl1) (fun v b hb2 hab g=>?_) (fun e y b d' g=>?_)
   ·have a3:=fun k'=>bD (P:=PG) (d:=.fail) (k:=k') VH (JA [x]) (c:=jP v) rfl (by simp) (by simp) (by decide)
    have m1:([x]++[v]).map Ex.cells=[x].map Ex.cells++[jP v]:=by rw[List.map_append,List.map_cons,List.map_nil,List.map_cons,List.map_nil,Ex.cells_eq v]
    have hn:=amN hW ihO m (by omega) ([x]++[v]) [ak L a] b d (by simp) ⟨by simp,by simp;omega⟩ h0 h1 hb2;rw[exs,m1] at hn;simp only[List.map_cons,List.map_nil,Tk.cells] at hn;simp[-Int.natCast_add,-List.map_map,g];rw[exs];simp only[List.map_cons,List.map_nil] at a3 hn ⊢;simp only[a3];cases hr:uf L m ([x]++[v]) [ak L a] d b with
    |out=>simp only[List.cons_append,List.nil_append] at hr;rw[hr];trivial
    |err e y=>rw[hr] at hn;simp only[List.cons_append,List.nil_append] at hr;rw[hr];obtain⟨z,g1,b3,d',rfl⟩:=hn;simp only[List.cons_append,List.nil_append] at g1;exact⟨_,by simp[-List.map_map,g1],b3,d',.inr rfl⟩
    |ok v2 b3=>rw[hr] at hn;simp only[List.cons_append,List.nil_append] at hr;rw[hr];obtain⟨hb3,z,g1,h5,h6,h7,rfl⟩:=hn;simp only[List.cons_append,List.nil_append] at g1;exact⟨hb3,_,by simp[-List.map_map,g1],.inr ⟨by omega,h6,h7,rfl⟩⟩
   ·exact⟨_,by simp[-Int.natCast_add,-List.map_map,g],b,d',.inl rfl⟩
  ·exact .pure ha (by simp[-List.map_map,eH ha,Tk.cells,k5]) (.inl ⟨rfl,Nat.le_refl _,rfl⟩)
omit hW in
theorem EC(V:Nat→Nat):∀(n f to:Nat),f≤to→∀t∈qc V n f to,f≤t∧t<to
 |0,f,to,h,t,ht=>by simp[qc] at ht
 |n+1,f,to,h,t,ht=>by
  rw[qc] at ht;split at ht
  ·simp at ht
  ·rename_i hf
   have hl:=om V (f:=f) (to:=to) (by omega);rcases List.mem_append.1 ht with ht|ht
   ·rcases List.mem_append.1 ht with ht|ht
    ·have:=EC V n f _ hl.1 t ht;omega
    ·have:=EC V n _ to (by omega) t ht;omega
   ·rw[List.mem_singleton.1 ht];exact hl
omit hW in
theorem asg{l:List Ex}{o:List Tk}(hl:l.length=o.length+1)(ho:o.length≤1000000)(hc:nN (PD o) o.length o.length 0=none) :
  ∃(p:PV) (r:List Nat) (fl fl':List Nat) (B:List (List PV)) (c:List PV),agq p r∧r.length≤o.length∧
   ev (q77 (.rows ((o.map Tk.text).map fun s=>[sv s])))=some (0,[p,iv 0,iv 0])∧
   ev (JM (iv 0) (iv (o.length+1:Nat)) p (o.map Tk.cells) (fJ (List.replicate (o.length+1) 0)) (exs l))=some (0,fJ fl::exs l::(zE++[p,.rows (o.map Tk.cells)]))∧
   (o≠[]→p=fJ r∧ev (JL (iv 0) (iv r.length) (fJ r) (o.map Tk.cells) (fJ fl) (exs l))=some (0,fJ fl' :: .rows B::(zE++[.rows (o.map Tk.cells)])))∧
   (o≠[]→B[0]? = some c∧Cx (mK l o o.length 0 o.length) c):=by
 have ht:=JQ (l:=o.map Tk.text) (by simpa using ho);have hor:=EK (dD (o.map Tk.text)) o.length o.length 0 (Nat.zero_le _) (by omega);have e1:Ad (dD (o.map Tk.text)) 0 0 0=[]:=rfl;have e2:Qu (dD (o.map Tk.text)) 0 0 0=[]:=rfl;rw[e1,e2,CF,hc] at hor;rw[CF,List.length_map,hor] at ht;obtain⟨h1,p,h2,h3⟩:=ht;obtain⟨fl,f1,f2,f3⟩:=aeU o p (exs l) (o.length+1) (by omega) (o.length+1) 0 (List.replicate (o.length+1) 0) (by omega) (Nat.zero_le _) (by simp) (fun j hj=>by omega);obtain⟨F',A',r1,r2,r3,r4⟩:=acF l o o.length 0 o.length (fun j=>j) (KO l) (Nat.zero_le _) (by omega) (fun j _ _=>⟨rfl,rfl⟩);obtain⟨fl',B,b1,b2,b3⟩:=am0 r1 [] fl (l.map Ex.cells) f2 (Gx.exs l) (by rw[f1,List.length_map,hl]) f1 (fun j hj=>hj) (fun x hx=>(EC _ _ _ _ (Nat.zero_le _) x hx).2) ho (by simp;omega);obtain⟨c,c1,c2⟩:=b1 0 (by rw[b2,List.length_map];omega);rw[r3] at c2;refine⟨p,_,fl,fl',B,c,h2,h1,h3,f3,fun ho=>?_,fun _=>⟨c1,c2⟩⟩;rcases h2 with rfl|⟨h4,rfl⟩
 ·exact⟨rfl,b3⟩
 ·exfalso
  have:0<o.length:=List.length_pos_iff.2 ho;rw[Qo (PD o) this] at h4;simp at h4
omit hW in
theorem Zk{β:Type}{d:β}{k:AV→β}{p:PV}{r:List Nat}(h:agq p r):mG PG d 132 (.pv p) k=k (.pv (iv r.length)):=by
 rcases h with rfl|⟨rfl,rfl⟩
 ·simp
 ·exact fM (fun r=>by
   have h:∀ty,dO PG .len #[132] ty [.pv nS]=some (.pv (.lit (.int .i64 0))):=fun ty=>by kernel_rfl
   constructor
   ·intro hr
    have h1:=hr 0;rw[h 0] at h1;exact(Option.some.inj h1).symm
   ·rintro rfl;exact h) (bH _)
omit hW in
theorem Zl{β:Type}{d:β}{k:AV→β}(x:Ex):mG PG d 49 (.pv (exs [x])) k=k (.pv (iv 1)):=by
 rw[exs,fM (fun _=>kJ VH _) (bH _)];simp
omit hW in
theorem asf:∃p,agq p []∧ev (q77 (.rows []))=some (0,[p,iv 0,iv 0]):=by
 have h:=JQ (l:=[]) (by simp);have e:fP (dD []) ([]:List ByteArray).length ([]:List ByteArray).length 0 [] []=.ok []:=rfl;rw[e] at h;exact h.2
omit hW in
theorem ash(p:PV)(x:Ex):ev (JN (iv 0) (iv 1) p (fJ [0]) (exs [x]))=some (0,fJ [0]::exs [x]::(zE++[p,nS]))∧ev (Tj (iv 0) (iv 0) p (fJ [0]) (exs [x]))=some (0,fJ [0]::exs [x]::zE):=by
 constructor
 ·have h1:ev (JN (iv 1) (iv 1) p (fJ [0]) (exs [x]))=some (0,fJ [0]::exs [x]::(zE++[p,nS])):=aS.of (by rw[UF];simp)
  have hx:∀(k':AV→bG),lX PG bG.fail 132 (.pv (fJ [0])) (.pv (iv 0)) k'=k' (.cptr [iv 0]):=fun k'=>iM (d:=bG.fail) (k:=k') (l:=[0]) (i:=0) (x:=0) rfl
  have hs:∀(k':PV→bG),D6 bG.fail (fJ [0]) (iv 0) 0 [iv 0] k'=k' (fJ [0]):=fun k'=>Jq (d:=bG.fail) (kp:=k') (l:=[0]) (i:=0) (x:=0) (by simp)
  have w1:IntKind.i64.wrap 1=1:=bR (by decide);exact aS.of (by rw[UF];simp[hx,hs,w1,h1])
 ·exact aS.of (by rw[aez];simp)
theorem amP{n:Nat}(ihO:∀m,m≤n→Pa L (pOp L) jP (eT L m)):Pa L (Ua L) jP (iI L (n+1)):=by
 intro a d h0 h1 ha;refine .weak (aq5 ev _ _ _) (.of ?_);rw[iI.eq_2,ayj];have hLl:=hW.len;simp[Qt hW ha h0 h1];refine .deep (fun hd=>?_) (fun hd=>?_)
 ·exact⟨_,by simp[hd],.of (m:=[1,0]) (b:=a) (d:=d+1) (k:=0) rfl⟩
 ·simp[hd]
  have hw:IntKind.i64.wrap d=d:=bR (by omega);refine .callW (ihO n (Nat.le_refl _) a (d+1) (by omega) (by omega) ha) (fun x b hb hab g=>?_) (fun e y b d' g=>?_)
  ·simp[g]
   have hapx:=fun k'=>bD (P:=PG) (d:=.fail) (k:=k') VH (Raw.nil 11) (c:=jP x) rfl (by simp) (by simp) (by decide)
   simp only[hapx,List.nil_append];refine .bind (aiZ hW ihO n (Nat.le_refl _) x b (d+1) (by omega) (by omega) hb) (fun v b2 z hb2 g2 hz=>?_) (fun e y z g2 hz=>?_)
   ·rcases hz with⟨rfl,h5,rfl⟩|⟨h5,h6,h7,rfl⟩
    ·obtain⟨p,p1,p2⟩:=asf
     obtain⟨q1,q2⟩:=ash p x;have hlp:∀(k':AV→bG),mG PG bG.fail 132 (.pv p) k'=k' (.pv (iv 0)):=fun k'=>by simpa using Zk (d:=bG.fail) (k:=k') p1
     have hm:∀(k':PV→bG),mkK PG bG.fail 132 (.pv (iv 1)) k'=k' (fJ [0]):=fun k'=>Zb (d:=bG.fail) (kp:=k') (n:=1) (by decide)
     have hx:∀(k':AV→bG),lX PG bG.fail 49 (.pv (exs [x])) (.pv (iv 0)) k'=k' (.cptr (jP x)):=fun k'=>ZM (d:=bG.fail) (k:=k') (l:=[x]) (i:=0) (x:=x) rfl
     have hL1:∀(k':AV→bG),mG PG bG.fail 49 (.pv (exs [x])) k'=k' (.pv (iv 1)):=fun k'=>Zl x
     have he1:exs [x]=.rows [jP x]:=mU x;rw[he1] at q1 q2 hx hL1 g2;simp only[zE,ps,List.cons_append,List.nil_append] at q1 q2 g2;show pQ L (aT x (d+1) b2) (okW L a d [1,0] jP) (erW L [1,0]) _;exact .pure hb2 (by simp[g2,p2,hL1,hm,q1,hlp,q2,hx,hw]) (.of (m:=[1,0]) (k:=1) (ys:=jP x) (by omega) rfl (by simp))
    ·obtain⟨l,o⟩:=v
     obtain⟨hne,h7⟩:=h7;simp only at h6 hne h7 g2 ⊢;have hlo:∀(k':AV→bG),mG PG bG.fail 49 (.pv (exs l)) k'=k' (.pv (iv (o.length+1:Nat))):=fun k'=>by rw[exs,fM (fun _=>kJ VH _) (bH _),List.length_map,h6]
     simp only[ps,List.cons_append,List.nil_append] at g2;rw[mU] at g2;unfold vz;cases hcl:nN (PD o) o.length o.length 0 with
     |some k=>
      have ht:=JQ (l:=o.map Tk.text) (by simp;omega);have hor:=EK (dD (o.map Tk.text)) o.length o.length 0 (Nat.zero_le _) (by omega);have e1:Ad (dD (o.map Tk.text)) 0 0 0=[]:=rfl;have e2:Qu (dD (o.map Tk.text)) 0 0 0=[]:=rfl;rw[e1,e2,CF,hcl] at hor;rw[CF,List.length_map,hor] at ht;have hk:k<o.length:=IX _ _ _ _ _ hcl;have hop:∀k',lX PG bG.fail 102 (.pv (.rows (o.map Tk.cells))) (.pv (.lit (.int .i64 (k:Int)))) k'=k' (.cptr [iv (opAt o k).kind,sv (opAt o k).text,iv (opAt o k).n,iv (opAt o k).at_]):=fun k'=>rJ (d:=bG.fail) (k:=k') (vQ hk)
      have ht:ev (q77 (.rows ((o.map Tk.text).map fun s=>[sv s])))=some (0,[nS,iv k,iv 112]):=ht;generalize hG:o.map Tk.cells=G at *;generalize hT:(o.map Tk.text).map (fun s=>[sv s])=T at *;exact⟨_,by simp[-Int.natCast_add,g2,ht,hop,pq hW,hw],.of (m:=[1,0]) (b:=b2) (d:=d) (k:=0) rfl⟩
     |none=>
      obtain⟨p,r,fl,fl',B,c,p1,p2,p3,p4,p5,p6⟩:=asg h6 (by omega) hcl;obtain⟨rfl,p8⟩:=p5 hne;obtain⟨p9,p7⟩:=p6 hne;obtain⟨x0,x1,x2,x3,x4,x5,x6,x7,x8,x9,x10,rfl⟩:=Uq p7.l;have hm:=fun k'=>Zb (d:=bG.fail) (kp:=k') (n:=o.length+1) (by omega)
      have hx:∀(k':AV→bG),lX PG bG.fail 49 (.pv (.rows B)) (.pv (iv 0)) k'=k' (.cptr [x0,x1,x2,x3,x4,x5,x6,x7,x8,x9,x10]):=fun k'=>Kk (d:=bG.fail) (k:=k') (i:=0) p9 p7
      have hlr:=fun k'=>adm (d:=bG.fail) (k:=k') r
      generalize hG:o.map Tk.cells=G at *;generalize hT:(o.map Tk.text).map (fun s=>[sv s])=T at *;simp only[zE,List.cons_append,List.nil_append] at p4 p8;exact .pure hb2 (by simp[-Int.natCast_add,g2,p3,hlo,hm,p4,p8,hx,hw]) (.of (m:=[1,0]) (k:=1) (ys:=[x0,x1,x2,x3,x4,x5,x6,x7,x8,x9,x10]) (by omega) rfl (by rw[p7.w,Ex.cells_eq]))
   ·obtain⟨b2,d',rfl|rfl⟩:=hz
    ·rw[mU] at g2
     exact⟨_,by simp[g2];rfl,.of (m:=[1,0]) (b:=b2) (k:=0) rfl⟩
    ·rw[mU] at g2
     exact⟨_,by simp[g2];rfl,.of (m:=[1,0]) (b:=b2) (k:=0) rfl⟩
  ·exact⟨_,by simp[g],.of (m:=[1,0]) (b:=b) (d:=IntKind.i64.wrap (d'-1)) (k:=0) rfl⟩
end
set_option maxRecDepth 10000
section
variable{L:List Tk}(hW:I6 L)
include hW
theorem avK{n:Nat}(ihE:∀m,m≤n→Pa L (Ua L) jP (iI L m)):∀m,m≤n→Pa L (pAm L) jP (nG L m)
 |0,_=>fun a d _ _ _=>by rw[nG];trivial
 |m+1,h=>ai5 hW fun k hk=>ihE k (by omega)
theorem avJ:∀n,(∀m,m≤n→Pa L (Ua L) jP (iI L m))∧(∀m,m≤n→Pa L (pOp L) jP (eT L m)):=by
 intro n
 induction n with
 |zero=>exact⟨fun m hm=>by rw[show m=0 by omega];exact fun a d _ _ _=>by rw[iI];trivial,fun m hm=>by rw[show m=0 by omega];exact fun a d _ _ _=>by rw[eT];trivial⟩
 |succ n ih=>
  obtain⟨ihE,ihO⟩:=ih;refine⟨fun m hm=>?_,fun m hm=>?_⟩
  ·by_cases h:m=n+1
   ·subst h;exact amP hW ihO
   ·exact ihE m (by omega)
  ·by_cases h:m=n+1
   ·subst h
    refine VO hW ihE (avK hW ihE) (fun m hm w a d h0 h1 ha=>?_) (fun m hm a d h0 h1 ha hl=>?_)
    ·cases m with
     |zero=>rw[iL];trivial
     |succ m=>exact XW hW (fun k hk=>ihE k (by omega)) w a d h0 h1 ha
    ·cases m with
     |zero=>
      refine .may (fun h=>?_) (fun h=>?_)
      ·rw[rG];trivial
      ·rw[rG];trivial
     |succ m=>exact amO hW (fun k hk=>ihE k (by omega)) a d h0 h1 ha hl
   ·exact ihO m (by omega)
theorem avI(n:Nat):Pa L (Ua L) jP (iI L n):=(avJ hW n).1 n (Nat.le_refl _)
theorem acv:∀n:Nat,Pa L (pBd L) tX (Gi L n)
 |0=>fun a d _ _ _=>by rw[Gi];trivial
 |n+1=>XY hW (avI hW n)
end
mutual
def Ty.w:Ty→Nat
 |.mk _ _ _ ks=>Ty.wL ks
def Ty.wL:List Ty→Nat
 |[]=>0
 |t::l=>1+t.w+Ty.wL l
end
theorem Ty.wL_app:∀(a b:List Ty),Ty.wL (a++b)=Ty.wL a+Ty.wL b
 |[],b=>by rw[List.nil_append,Ty.wL];omega
 |x::a,b=>by rw[List.cons_append,Ty.wL,Ty.wL,Ty.wL_app a b];omega
@[simp] theorem Ty.wL_one(x:Ty):Ty.wL [x]=1+x.w:=by rw[Ty.wL,Ty.wL];omega
@[simp] theorem Ty.wL_two(x y:Ty):Ty.wL [x,y]=2+x.w+y.w:=by rw[Ty.wL,Ty.wL,Ty.wL];omega
@[simp] theorem Ty.wL_nil:Ty.wL []=0:=by rw[Ty.wL]
@[simp] theorem Ty.w_mk(k:Int)(s:ByteArray)(n:Int)(l:List Ty):(Ty.mk k s n l).w=Ty.wL l:=by rw[Ty.w]
@[simp] theorem az5:T00.w=0:=by rw[T00,Ty.w,Ty.wL]
mutual
def Pt.aw:Pt→Nat
 |.mk _ _ _ ks _=>1+Pt.awL ks
def Pt.awL:List Pt→Nat
 |[]=>0
 |p::l=>p.aw+Pt.awL l
end
mutual
def Ex.aw:Ex→Nat
 |.mk _ _ _ t ks xs bs _=>1+t.w+Ex.awL ks+Al.awL xs+Bd.awL bs
def Al.aw:Al→Nat
 |.mk p e=>p.aw+e.aw
def Bd.aw:Bd→Nat
 |.mk _ e _=>1+e.aw
def Ex.awL:List Ex→Nat
 |[]=>0
 |x::l=>x.aw+Ex.awL l
def Al.awL:List Al→Nat
 |[]=>0
 |x::l=>x.aw+Al.awL l
def Bd.awL:List Bd→Nat
 |[]=>0
 |x::l=>x.aw+Bd.awL l
end
theorem Pt.awL_app:∀(a b:List Pt),Pt.awL (a++b)=Pt.awL a+Pt.awL b
 |[],b=>by rw[List.nil_append,Pt.awL];omega
 |x::a,b=>by rw[List.cons_append,Pt.awL,Pt.awL,Pt.awL_app a b];omega
theorem Ex.awL_app:∀(a b:List Ex),Ex.awL (a++b)=Ex.awL a+Ex.awL b
 |[],b=>by rw[List.nil_append,Ex.awL];omega
 |x::a,b=>by rw[List.cons_append,Ex.awL,Ex.awL,Ex.awL_app a b];omega
theorem Al.awL_app:∀(a b:List Al),Al.awL (a++b)=Al.awL a+Al.awL b
 |[],b=>by rw[List.nil_append,Al.awL];omega
 |x::a,b=>by rw[List.cons_append,Al.awL,Al.awL,Al.awL_app a b];omega
theorem Bd.awL_app:∀(a b:List Bd),Bd.awL (a++b)=Bd.awL a+Bd.awL b
 |[],b=>by rw[List.nil_append,Bd.awL];omega
 |x::a,b=>by rw[List.cons_append,Bd.awL,Bd.awL,Bd.awL_app a b];omega
@[simp] theorem Pt.awL_one(x:Pt):Pt.awL [x]=x.aw:=by rw[Pt.awL,Pt.awL];rfl
@[simp] theorem Ex.awL_one(x:Ex):Ex.awL [x]=x.aw:=by rw[Ex.awL,Ex.awL];rfl
@[simp] theorem Al.awL_one(x:Al):Al.awL [x]=x.aw:=by rw[Al.awL,Al.awL];rfl
@[simp] theorem Bd.awL_one(x:Bd):Bd.awL [x]=x.aw:=by rw[Bd.awL,Bd.awL];rfl
@[simp] theorem Pt.awL_nil:Pt.awL []=0:=by rw[Pt.awL]
@[simp] theorem Ex.awL_nil:Ex.awL []=0:=by rw[Ex.awL]
@[simp] theorem Al.awL_nil:Al.awL []=0:=by rw[Al.awL]
@[simp] theorem Bd.awL_nil:Bd.awL []=0:=by rw[Bd.awL]
@[simp] theorem Ex.awL_cons(x:Ex)(l:List Ex):Ex.awL (x::l)=x.aw+Ex.awL l:=by rw[Ex.awL]
@[simp] theorem Bd.awL_cons(x:Bd)(l:List Bd):Bd.awL (x::l)=x.aw+Bd.awL l:=by rw[Bd.awL]
@[simp] theorem ak2(k:Int)(s:ByteArray)(n:Int)(ks:List Ex)(a:Int):(nW k s n ks a).aw=1+Ex.awL ks:=by rw[nW,Ex.aw];simp
theorem ajP(t:Tk)(x y:Ex):(opE t x y).aw≤3+x.aw+y.aw:=by
 unfold opE;split
 ·simp;omega
 ·split
  ·simp;omega
  ·simp;omega
theorem LC(e:Ex):∀(l:List (ByteArray×Int)),(wH l e).aw=l.length+e.aw
 |[]=>by simp[wH]
 |p::l=>by
  have:=LC e l;unfold wH at this ⊢;rw[List.foldr_cons,ak2,Ex.awL_one,this,List.length_cons];omega
def JO(l:List Ex)(i:Nat):Nat:=Ex.awL (l.take i)
theorem YH{l:List Ex}{i:Nat}(h:i<l.length):JO l (i+1)=JO l i+(KO l i).aw:=by
 unfold JO KO;rw[List.take_add_one,Ex.awL_app,List.getElem?_eq_getElem h];simp
theorem FC(V:Nat→Nat)(to:Nat):∀(n i a:Nat),a<to→a≤i→a≤uT V to n i a∧uT V to n i a<to
 |0,i,a,h,h2=>by rw[uT];omega
 |n+1,i,a,h,h2=>by
  rw[uT];split
  ·rename_i hi
   split
   ·have:=FC V to n (i+1) i hi (by omega);omega
   ·exact FC V to n (i+1) a h (by omega)
  ·omega
theorem A9(l:List Ex)(ops:List Tk):∀(m f to:Nat),f≤to→to<l.length→to-f≤m→(mK l ops m f to).aw+JO l f≤JO l (to+1)+3*(to-f)
 |0,f,to,h,h1,h2=>by
  obtain rfl:f=to:=by omega
  rw[mK,YH h1];omega
 |m+1,f,to,h,h1,h2=>by
  rw[mK];split
  ·rename_i hf
   subst hf;rw[YH h1];omega
  ·rename_i hf
   have hl:=FC (PD ops) to to (f+1) f (by omega) (by omega);simp only;generalize uT (PD ops) to to (f+1) f=s at *;have h3:=A9 l ops m f s (by omega) (by omega) (by omega);have h4:=A9 l ops m (s+1) to (by omega) (by omega) (by omega);have h5:=ajP (opAt ops s) (mK l ops m f s) (mK l ops m (s+1) to);omega
structure iQ{α:Type}(g:GM α)(Q:α→Nat→Prop):Prop where
 ok:∀(d:Int) (a:Nat) (v:α) (b:Nat),g d a=.ok v b→a≤b∧Q v (b-a)
 er:∀(d:Int) (a:Nat) (e w:Int),g d a=.err e w→e≠0
section
variable{α β:Type}{L:List Tk}{g A B:GM α}{Q:α→Nat→Prop}
theorem iQ.no(h:∀d a,g d a=.out):iQ g Q:=⟨fun d a v b e=>(by rw[h] at e;cases e),fun d a e w k=>(by rw[h] at k;cases k)⟩
theorem iQ.pure{v:α}(h:Q v 0):iQ (aT v) Q:=⟨fun d a w b hw=>by cases hw;exact⟨Nat.le_refl _,by rw[Nat.sub_self];exact h⟩,fun d a e w k=>by cases k⟩
theorem iQ.bind{p:GM β}{k:β→GM α}{P:β→Nat→Prop}(hp:iQ p P)(hk:∀x n,P x n→iQ (k x) (fun v n'=>Q v (n+n'))):iQ (ax p k) Q:=by
 constructor
 ·intro d a v b h
  unfold ax at h;cases hr:p d a with
  |out=>rw[hr] at h;cases h
  |err e w=>rw[hr] at h;cases h
  |ok x c=>
   rw[hr] at h;obtain⟨h1,h2⟩:=hp.ok d a x c hr;obtain⟨h3,h4⟩:=(hk x _ h2).ok d c v b h;exact⟨by omega,by rw[show b-a=c-a+(b-c) by omega];exact h4⟩
 ·intro d a e w h
  unfold ax at h;cases hr:p d a with
  |out=>rw[hr] at h;cases h
  |err e' w'=>rw[hr] at h;cases h;exact hp.er d a _ _ hr
  |ok x c=>
   rw[hr] at h;exact(hk x _ (hp.ok d a x c hr).2).er d c e w h
theorem iQ.up(h:iQ g fun v n=>Q v (1+n)):iQ (Cz g) Q:=by
 refine⟨fun d a v b hr=>?_,fun d a e w hr=>h.er d (a+1) e w hr⟩;obtain⟨h1,h2⟩:=h.ok d (a+1) v b hr;exact⟨by omega,by rw[show b-a=1+(b-(a+1)) by omega];exact h2⟩
theorem iQ.may{x:ByteArray}(hA:iQ A fun v n=>Q v (1+n))(hB:iQ B Q):iQ (dZ L x A B) Q:=by
 constructor
 ·intro d a v b hr
  unfold dZ at hr;split at hr
  ·exact(iQ.up hA).ok d a v b hr
  ·exact hB.ok d a v b hr
 ·intro d a v b hr
  unfold dZ at hr;split at hr
  ·exact(iQ.up hA).er d a v b hr
  ·exact hB.er d a v b hr
theorem iQ.if'{c:Prop}[Decidable c](hA:iQ A Q)(hB:iQ B Q):iQ (if c then A else B) Q:=by
 split
 ·exact hA
 ·exact hB
theorem iQ.kind{k:Int}(hA:iQ A Q)(hB:iQ B Q):iQ (jH L k A B) Q:=by
 constructor
 ·intro d a v b hr
  unfold jH at hr;split at hr
  ·exact hA.ok d a v b hr
  ·exact hB.ok d a v b hr
 ·intro d a v b hr
  unfold jH at hr;split at hr
  ·exact hA.er d a v b hr
  ·exact hB.er d a v b hr
theorem iQ.st{w:Int}(hA:iQ A Q)(hB:iQ B Q):iQ (VE L w A B) Q:=by
 constructor
 ·intro d a v b hr
  unfold VE at hr;split at hr
  ·exact hA.ok d a v b hr
  ·exact hB.ok d a v b hr
 ·intro d a v b hr
  unfold VE at hr;split at hr
  ·exact hA.er d a v b hr
  ·exact hB.er d a v b hr
theorem iQ.next{k:Tk→GM α}(h:∀t,iQ (k t) Q):iQ (kR L k) Q:=⟨fun d a v b hr=>(h _).ok d a v b hr,fun d a v b hr=>(h _).er d a v b hr⟩
theorem iQ.deep(h:iQ g Q):iQ (rP L g) Q:=by
 constructor
 ·intro d a v b hr
  unfold rP at hr;split at hr
  ·cases hr
  ·exact h.ok _ a v b hr
 ·intro d a v b hr
  unfold rP at hr;split at hr
  ·cases hr;decide
  ·exact h.er _ a v b hr
theorem iQ.tk(k:Int)(x:ByteArray):iQ (aR L k x) (fun _ n=>n=1):=by
 constructor
 ·intro d a v b hr
  unfold aR at hr;split at hr
  ·cases hr;exact⟨by omega,by omega⟩
  ·cases hr
 ·intro d a v b hr
  unfold aR at hr;split at hr
  ·cases hr
  ·cases hr;decide
theorem iQ.take(k:Int)(x:ByteArray){f:Tk→GM α}(h:∀t,iQ (f t) fun v n=>Q v (1+n)):iQ (ax (aR L k x) f) Q:=by
 refine .bind (.tk k x) fun t n hn=>?_
 subst hn;exact h t
theorem iQ.mono{P:α→Nat→Prop}(h:iQ g P)(hq:∀v n,P v n→Q v n):iQ g Q:=⟨fun d a v b hr=>⟨(h.ok d a v b hr).1,hq _ _ (h.ok d a v b hr).2⟩,h.er⟩
end
section
variable(L:List Tk)
def Tt{α:Type}(_:α)(_:Nat):Prop:=True
theorem zM:∀m,iQ (jy L m) (fun t n=>t.w+1≤n)∧iQ (gG L m) (fun t n=>t.w+1≤n)∧∀l,iQ (dI L m l) (fun v n=>Ty.wL v≤Ty.wL l+n)
 |0=>⟨.no fun d a=>(by rw[jy]<;>rfl),.no fun d a=>(by rw[gG]<;>rfl),fun l=>.no fun d a=>(by unfold dI;rw[wU]<;>rfl)⟩
 |m+1=>by
  obtain⟨i1,i2,i3⟩:=zM m;refine⟨?_,?_,fun l=>?_⟩
  ·rw[CB]
   refine .deep (.next fun t=>.bind (P:=fun t n=>t.w+1≤n) (.if' (.up (.bind (i3 []) fun l n h=>.pure ?_)) i2) fun x n hx=>.may (.bind i1 fun y n2 hy=>.pure ?_) (.pure ?_))
   ·simp at h ⊢;omega
   ·simp;omega
   ·omega
  ·rw[zP]
   refine .next fun t=>.if' (.up (.pure ?_)) (.if' (.up (.pure ?_)) (.take _ _ fun _=>.may (.pure ?_) (.bind i1 fun x n hx=>.take _ _ fun _=>.pure ?_)))
   ·simp
   ·simp
   ·simp
   ·omega
  ·rw[tu]
   refine .st (.bind i2 fun x n hx=>(i3 _).mono fun v n2 h=>?_) (.pure (by omega));rw[Ty.wL_app,Ty.wL_one] at h;omega
theorem aa7:∀m,iQ (nI L m) (fun p n=>p.aw≤n∧1≤n)∧iQ (uL L m) (fun p n=>p.aw≤n∧1≤n)∧∀l,iQ (kQ L m l) (fun v n=>Pt.awL v≤Pt.awL l+n)
 |0=>⟨.no fun d a=>(by rw[nI]<;>rfl),.no fun d a=>(by rw[uL]<;>rfl),fun l=>.no fun d a=>(by rw[kQ]<;>rfl)⟩
 |m+1=>by
  obtain⟨i1,i2,i3⟩:=aa7 m;have hp:∀(k:Int) (s:ByteArray) (n a:Int),(Pt.mk k s n [] a).aw=1:=fun k s n a=>by rw[Pt.aw];simp
  refine⟨?_,?_,fun l=>?_⟩
  ·rw[nI]
   refine .next fun t=>.if' (.up (.pure (by simp[hp]))) (.if' (.up (.pure (by simp[hp]))) (.if' (.up (.pure (by simp[hp]))) (.may (.pure (by simp[hp])) (.take _ _ fun _=>.may (.pure (by simp[hp])) (.bind i2 fun x n hx=>.take _ _ fun _=>.pure ?_)))))
   omega
  ·rw[uL]
   refine .deep (.next fun t=>.bind i1 fun x n hx=>.if' (.bind (i3 []) fun l n' hl=>.pure ?_) (.pure ?_))
   ·rw[Pt.aw];simp at hl;omega
   ·simpa using hx
  ·rw[kQ]
   refine .st (.bind i1 fun x n hx=>(i3 _).mono fun v n' h=>?_) (.pure (by omega));rw[Pt.awL_app,Pt.awL_one] at h;omega
structure CEx(m:Nat):Prop where
 exp:iQ (iI L m) fun e n=>e.aw+2≤3*n
 ops:∀l o,l.length=o.length+1→iQ (uf L m l o) fun r n=>Ex.awL r.1+3*r.2.length≤Ex.awL l+3*o.length+3*n∧r.1.length=r.2.length+1
 opr:iQ (eT L m) fun e n=>e.aw+2≤3*n
 apps:∀w x,iQ (lQ L m w x) fun e n=>e.aw≤x.aw+3*n
 lam:∀w,iQ (iL L m w) fun e n=>e.aw+2≤3*n
 lams:∀l,iQ (jG L m l) fun e n=>e.aw+2≤l.length+3*n
 let_:∀k w,iQ (rG L m k w) fun e n=>e.aw≤3*n
 bd:iQ (Gi L m) fun x n=>x.aw≤3*n
 ands:∀l,iQ (gY L m l) fun v n=>Bd.awL v≤Bd.awL l+3*n
 atom:iQ (nG L m) fun e n=>e.aw+2≤3*n
 alts:∀l,iQ (lS L m l) fun v n=>Al.awL v≤Al.awL l+3*n
theorem aa9:iQ (yX L) Tt:=by
 unfold yX;exact .may (.take _ _ fun t=>.take _ _ fun _=>.pure trivial) ((iQ.tk _ _).mono fun _ _ _=>trivial)
theorem af9{l:List Ex}{o:List Tk}(h:l.length=o.length+1):iQ (vz l o) fun e n=>e.aw≤Ex.awL l+3*o.length:=by
 unfold vz;split
 ·exact⟨fun d a v b h=>(by cases h),fun d a e w h=>(by cases h;decide)⟩
 ·refine .pure ?_
  have:=A9 l o o.length 0 o.length (Nat.zero_le _) (by omega) (by omega);have e1:JO l 0=0:=by simp[JO]
  have e2:JO l (o.length+1)=Ex.awL l:=by unfold JO;rw[List.take_of_length_le (by omega)]
  rw[e1,e2] at this;omega
theorem La:∀m,CEx L m
 |0=>⟨.no fun d a=>(by rw[iI]<;>rfl),fun l o _=>.no fun d a=>(by rw[uf]<;>rfl),.no fun d a=>(by rw[eT]<;>rfl),fun w x=>.no fun d a=>(by rw[lQ]<;>rfl),fun w=>.no fun d a=>(by rw[iL]<;>rfl),fun l=>.no fun d a=>(by rw[jG]<;>rfl),fun k w=>.no fun d a=>(by rw[rG]<;>rfl),.no fun d a=>(by rw[Gi]<;>rfl),fun l=>.no fun d a=>(by rw[gY]<;>rfl),.no fun d a=>(by rw[nG]<;>rfl),fun l=>.no fun d a=>(by rw[lS]<;>rfl)⟩
 |m+1=>by
  have ih:=La m;constructor
  ·rw[iI]
   refine .deep (.bind ih.opr fun x n hx=>.bind (ih.ops [x] [] rfl) fun r n2 hr=>(af9 hr.2).mono fun v n3 hv=>?_);have:=hr.1;simp at this;omega
  ·intro l o hl
   rw[uf];refine .kind (.take _ _ fun t=>.bind ih.opr fun x n hx=>(ih.ops _ _ (by simp[hl])).mono fun v n2 hv=>?_) (.pure ⟨by simp only;omega,hl⟩);rw[Ex.awL_app,Ex.awL_one,List.length_append,List.length_singleton] at hv;omega
  ·rw[eT]
   refine .next fun t=>.may ((ih.lam _).mono fun v n h=>by omega) (.may (.may ((ih.let_ _ _).mono fun v n h=>by omega) ((ih.let_ _ _).mono fun v n h=>by omega)) (.may ?_ ?_))
   ·refine .bind ih.exp fun a n1 h1=>.take _ _ fun _=>.bind ih.exp fun b n2 h2=>.take _ _ fun _=>.bind ih.exp fun c n3 h3=>.pure ?_
    simp;omega
   ·refine .bind ih.atom fun x n hx=>(ih.apps _ _).mono fun v n2 h=>by omega
  ·intro w x
   rw[lQ];refine .st (.bind ih.atom fun y n hy=>(ih.apps _ _).mono fun v n2 h=>?_) (.pure (by omega));simp at h;omega
  ·intro w
   rw[iL];refine .take _ _ fun t=>(ih.lams _).mono fun v n h=>?_
   simp at h;omega
  ·intro l
   rw[jG];refine .kind (.next fun t=>.up ((ih.lams _).mono fun v n h=>?_)) (.take _ _ fun _=>.bind ih.exp fun e n he=>.pure ?_)
   ·simp at h;omega
   ·rw[LC];omega
  ·intro k w
   rw[rG];refine .bind ih.bd fun b n hb=>.bind (ih.ands [b]) fun l n2 hl=>.take _ _ fun _=>.bind ih.exp fun e n3 he=>.pure ?_
   rw[Ex.aw];simp at hl ⊢;omega
  ·rw[Gi]
   refine .bind (aa9 L) fun t n _=>.take _ _ fun _=>.bind ih.exp fun e n3 he=>.pure ?_
   rw[Bd.aw];omega
  ·intro l
   rw[gY];refine .may (.bind ih.bd fun b n hb=>(ih.ands _).mono fun v n2 h=>?_) (.pure (by omega));rw[Bd.awL_app,Bd.awL_one] at h;omega
  ·rw[nG]
   refine .next fun t=>.if' (.up (.pure (by simp))) (.if' (.up (.pure (by simp))) (.if' (.up (.pure (by simp))) (.if' (.up (.pure (by simp))) (.may ?_ (.take _ _ fun _=>.may (.pure (by simp)) (.kind (.take _ _ fun o=>.take _ _ fun _=>.pure (by simp)) (.bind ih.exp fun y n hy=>.may (.bind (zM L m).1 fun ty n2 hty=>.take _ _ fun _=>.pure ?_) (.take _ _ fun _=>.pure ?_))))))))
   ·refine .bind ih.exp fun x n hx=>.take _ _ fun _=>.bind (ih.alts []) fun l n2 hl=>.take _ _ fun _=>.pure ?_
    rw[Ex.aw];simp at hl ⊢;omega
   ·rw[Ex.aw];simp;omega
   ·omega
  ·intro l
   rw[lS];have key:∀(p:Pt) (e:Ex),Al.awL (l++[.mk p e])=Al.awL l+(p.aw+e.aw):=fun p e=>by rw[Al.awL_app,Al.awL_one,Al.aw]
   refine .bind (aa7 L m).2.1 fun p n hp=>.take _ _ fun _=>.bind ih.exp fun e n2 he=>.may ((ih.alts _).mono fun v n3 h=>?_) (.pure ?_)
   ·rw[key] at h;omega
   ·rw[key];omega
def bX{α:Type}(f:α→Nat):List α→Nat
 |[]=>0
 |x::l=>f x+bX f l
theorem gM{α:Type}(f:α→Nat):∀(a b:List α),bX f (a++b)=bX f a+bX f b
 |[],b=>by rw[List.nil_append,bX];omega
 |x::a,b=>by rw[List.cons_append,bX,bX,gM f a b];omega
abbrev cnW(c:Cn):Nat:=1+Ty.wL c.args
abbrev mdW(m:Md):Nat:=1+m.t.w
abbrev pdW(p:Pd):Nat:=1+p.t.w
def Dt.aw(x:Dt):Nat:=1+x.params.length+bX cnW x.cons+x.deriv.length
def Cl.aw(x:Cl):Nat:=1+x.supers.length+bX mdW x.methods+Bd.awL x.defaults
def It.aw(x:It):Nat:=1+x.head.w+bX pdW x.ctx+Bd.awL x.binds
def Pg.aw(p:Pg):Nat:=bX Dt.aw p.datas+bX Cl.aw p.classes+bX It.aw p.insts+Bd.awL p.binds
theorem aa8:∀m l,iQ (lY L m l) (fun v n=>v.length≤l.length+n)
 |0,l=>.no fun d a=>(by rw[lY]<;>rfl)
 |m+1,l=>by rw[lY];exact .kind (.take _ _ fun t=>(aa8 m _).mono fun v n h=>by simp at h;omega) (.pure (by omega))
theorem aik:∀m l,iQ (rT L m l) (fun v n=>v.length≤l.length+n)
 |0,l=>.no fun d a=>(by rw[rT]<;>rfl)
 |m+1,l=>by rw[rT];exact .may (.take _ _ fun t=>(aik m _).mono fun v n h=>by simp at h;omega) (.pure (by omega))
theorem O9(m:Nat):iQ (kZ L m) (fun v n=>v.length≤n):=by unfold kZ;exact .take _ _ fun t=>(aik L m _).mono fun v n h=>by simp at h;omega
theorem abd:∀m l,iQ (kU L m l) (fun v n=>bX cnW v≤bX cnW l+n)
 |0,l=>.no fun d a=>(by rw[kU]<;>rfl)
 |m+1,l=>by
  rw[kU];refine .take _ _ fun c=>.bind ((zM L m).2.2 []) fun tl n hl=>.may ((abd m _).mono fun v n2 h=>?_) (.pure ?_)
  ·simp[gM,bX,cnW] at h hl;omega
  ·simp[gM,bX,cnW] at hl ⊢;omega
theorem alI(m:Nat):iQ (F7 L m) (fun x n=>x.aw≤3*n):=by
 unfold F7;refine .take _ _ fun t=>.bind (aa8 L m []) fun ps n1 hp=>.take _ _ fun _=>.bind (abd L m []) fun cs n2 h=>.may (.take _ _ fun _=>.bind (O9 L m) fun ds n3 hd=>.take _ _ fun _=>.pure ?_) (.pure ?_)
 ·simp[bX] at h hp;simp[Dt.aw];omega
 ·simp[bX] at h hp;simp[Dt.aw];omega
theorem K9:∀m ms ds,iQ (gQ L m ms ds) (fun v n=>bX mdW v.1+Bd.awL v.2≤bX mdW ms+Bd.awL ds+3*n)
 |0,ms,ds=>.no fun d a=>(by rw[gQ]<;>rfl)
 |m+1,ms,ds=>by
  rw[gQ];refine .may (.pure (by simp only;omega)) (.may (.bind (La L m).bd fun x n hx=>.take _ _ fun _=>(K9 m _ _).mono fun v n2 h=>?_) (.bind (aa9 L) fun t n1 _=>.take _ _ fun _=>.bind (zM L m).1 fun ty n2 hty=>.take _ _ fun _=>(K9 m _ _).mono fun v n3 h=>?_))
  ·rw[Bd.awL_app,Bd.awL_one] at h;omega
  ·simp[gM,bX,mdW] at h;omega
theorem af8(m:Nat):iQ (xX L m) (fun x n=>x.aw≤3*n):=by
 unfold xX OA;refine .take _ _ fun t=>.take _ _ fun v=>.bind (P:=fun v n=>v.length≤n) (.may ((O9 L m).mono fun v n h=>by omega) (.pure (by simp))) fun sup n1 hsup=>.take _ _ fun _=>.bind (K9 L m [] []) fun r n2 h=>.pure ?_
 simp[bX] at h;simp[Cl.aw];omega
theorem ail:∀m l,iQ (qN L m l) (fun v n=>bX pdW v≤bX pdW l+n)
 |0,l=>.no fun d a=>(by rw[qN]<;>rfl)
 |m+1,l=>by
  rw[qN];refine .take _ _ fun c=>.take _ _ fun v=>.may ((ail m _).mono fun v n2 h=>?_) (.pure ?_)
  ·simp[gM,bX,pdW] at h;omega
  ·simp[gM,bX,pdW]
theorem abb:∀m l,iQ (jJ L m l) (fun v n=>Bd.awL v≤Bd.awL l+3*n)
 |0,l=>.no fun d a=>(by rw[jJ]<;>rfl)
 |m+1,l=>by
  rw[jJ];refine .may (.pure (by omega)) (.take _ _ fun _=>.bind (La L m).bd fun x n hx=>.take _ _ fun _=>(abb m _).mono fun v n2 h=>?_);rw[Bd.awL_app,Bd.awL_one] at h;omega
theorem alH(m:Nat):iQ (nV L m) (fun x n=>x.aw≤3*n):=by
 unfold nV;refine .take _ _ fun t=>.bind (zM L m).2.1 fun h n1 hh=>.bind (P:=fun v n=>bX pdW v≤n) (.may ((ail L m []).mono fun v n h=>by simp[bX] at h;omega) (.pure (by simp[bX]))) fun c n2 hc=>.take _ _ fun _=>.bind (abb L m []) fun bs n3 h=>.pure ?_
 simp at h;simp[It.aw];omega
theorem AZ:∀m p,iQ (dX L m p) (fun v n=>v.aw≤p.aw+3*n)
 |0,p=>.no fun d a=>(by rw[dX]<;>rfl)
 |m+1,p=>by
  rw[dX];refine .kind (.pure (by omega)) (.may (.bind (alI L m) fun x n hx=>.take _ _ fun _=>(AZ m _).mono fun v n2 h=>?_) (.may (.bind (af8 L m) fun x n hx=>.take _ _ fun _=>(AZ m _).mono fun v n2 h=>?_) (.may (.bind (alH L m) fun x n hx=>.take _ _ fun _=>(AZ m _).mono fun v n2 h=>?_) (.take _ _ fun _=>.bind (La L m).bd fun x n hx=>.take _ _ fun _=>(AZ m _).mono fun v n2 h=>?_))))
  ·simp only[Pg.aw,gM,bX] at h ⊢;omega
  ·simp only[Pg.aw,gM,bX] at h ⊢;omega
  ·simp only[Pg.aw,gM,bX] at h ⊢;omega
  ·simp only[Pg.aw,Bd.awL_app,Bd.awL_one] at h ⊢;omega
end
inductive Ty.Ok:Ty→Prop where
 |mk (k:Int) (s:ByteArray) (n:Int) (ks:List Ty) (h:ks.length≤aW) (hk:∀t∈ks,Ty.Ok t):Ty.Ok (.mk k s n ks)
theorem Ty.wL_len:∀l:List Ty,l.length≤Ty.wL l
 |[]=>by simp
 |t::l=>by have:=Ty.wL_len l;rw[Ty.wL,List.length_cons];omega
mutual
theorem Ty.ok_of:∀t:Ty,t.w≤aW→t.Ok
 |.mk k s n ks,h=>by
  rw[Ty.w] at h;exact .mk k s n ks (Nat.le_trans (Ty.wL_len ks) h) (Ty.ok_ofL ks h)
theorem Ty.ok_ofL:∀l:List Ty,Ty.wL l≤aW→∀t∈l,t.Ok
 |[],_,t,ht=>by cases ht
 |x::l,h,t,ht=>by
  rw[Ty.wL] at h;rcases List.mem_cons.1 ht with e|ht
  ·rw[e];exact Ty.ok_of x (by omega)
  ·exact Ty.ok_ofL l (by omega) t ht
end
theorem Bd.aw_pos(p:Bd):1≤p.aw:=by cases p;rw[Bd.aw];omega
theorem Bd.awL_len:∀l:List Bd,l.length≤Bd.awL l
 |[]=>by simp
 |t::l=>by have:=Bd.awL_len l;have:=Bd.aw_pos t;rw[Bd.awL,List.length_cons];omega
theorem oU{α:Type}{f:α→Nat}(hf:∀x,1≤f x):∀l:List α,l.length≤bX f l∧∀x∈l,f x≤bX f l
 |[]=>⟨by simp[bX],fun x hx=>by cases hx⟩
 |y::l=>by
  obtain⟨h1,h2⟩:=oU hf l;have:=hf y;rw[bX];refine⟨by rw[List.length_cons];omega,fun x hx=>?_⟩;rcases List.mem_cons.1 hx with e|hx
  ·rw[e];omega
  ·have:=h2 x hx;omega
theorem ajN{L:List Tk}{m a:Nat}{d e w:Int}{p:Pg}(h:dX L m p d a=.err e w):e≠0:=(AZ L m p).er d a e w h
end Go.Proofs.YtfphhabaeggenaaGreatDoor
namespace Go.Proofs.YtfphhabaeggenaaGreatDoor.C
open Go.RowKit
def fe{α ε:Type}(e:Nat→α→Option ε):List α→Nat→Option ε
 |[],_=>none
 |a::l,i=>match e i a with
  |some x=>some x
  |none=>fe e l (i+1)
theorem eX{α ε:Type}(l:List α)(e:Nat→α→Option ε)(q:Nat→Q)(r0:Rs)(rf:ε→Rs)
  (step:∀i a,l[i]? = some a→i<l.length→fe e (l.take i) 0=none→body PG EE TT ev (q i)=match e i a with|some x=>.ok (rf x)|none=>tL (ev (q (i+1))))
  (done:fe e l 0=none→body PG EE TT ev (q l.length)=.ok r0):ev (q 0)=some (match fe e l 0 with|some x=>rf x|none=>r0):=by
 have split:∀(l1 l2:List α) (i:Nat),fe e (l1++l2) i=match fe e l1 i with|some x=>some x|none=>fe e l2 (i+l1.length):=by
  intro l1
  induction l1 with
  |nil=>intro l2 i;simp[fe]
  |cons a l1 ih=>
   intro l2 i;rw[List.cons_append,fe,fe];cases e i a with
   |some x=>rfl
   |none=>simp only;rw[ih,List.length_cons,show i+1+l1.length=i+(l1.length+1) by omega]
 have key:∀(m i:Nat),l.length-i=m→i≤l.length→fe e (l.take i) 0=none→ev (q i)=some (match fe e (l.drop i) i with|some x=>rf x|none=>r0):=by
  intro m
  induction m with
  |zero=>
   intro i hm hi hf;have:i=l.length:=by omega
   subst this;rw[List.drop_length];exact aS.of (done (by rwa [List.take_length] at hf))
  |succ m ih=>
   intro i hm hi hf;have hlt:i<l.length:=by omega
   have h1:=step i _ (List.getElem?_eq_getElem hlt) hlt hf;rw[List.drop_eq_getElem_cons hlt,fe];refine aS.of ?_;rw[h1];cases he:e i l[i] with
   |some x=>rfl
   |none=>
    simp only;rw[ih (i+1) (by omega) (by omega) ?_]
    ·rfl
    ·have hq:=List.take_append_getElem hlt
     have hi2:(l.take i).length=i:=by rw[List.length_take];omega
     rw[←hq,split,hf];simp only[Nat.zero_add,hi2,fe];rw[he]
 simpa using key l.length 0 rfl (Nat.zero_le _) rfl
theorem aax{α ε:Type}(e:Nat→α→Option ε):∀(l1 l2:List α) (i:Nat),fe e (l1++l2) i=match fe e l1 i with|some x=>some x|none=>fe e l2 (i+l1.length)
 |[],l2,i=>by simp[fe]
 |a::l1,l2,i=>by
  rw[List.cons_append,fe,fe];cases e i a with
  |some x=>rfl
  |none=>simp only;rw[aax,List.length_cons,show i+1+l1.length=i+(l1.length+1) by omega]
theorem aaw{α ε:Type}{e e':Nat→α→Option ε}:∀{l:List α} {i:Nat},(∀j a,l[j]? = some a→fe e (l.take j) i=none→e (i+j) a=e' (i+j) a)→fe e l i=fe e' l i
 |[],_,_=>rfl
 |a::l,i,h=>by
  rw[fe,fe];have h0:=h 0 a rfl rfl;simp only[Nat.add_zero] at h0;rw[←h0];cases he:e i a with
  |some x=>rfl
  |none=>
   simp only;refine aaw fun j b hb hf=>?_
   have:=h (j+1) b hb (by rw[List.take_succ_cons,fe,he];exact hf)
   rwa [show i+(j+1)=i+1+j by omega] at this
theorem sP{α ε:Type}{e:Nat→α→Option ε}:∀{l:List α} {i:Nat},fe e l i=none→∀j a,l[j]? = some a→e (i+j) a=none
 |a::l,i,h,0,b,hb=>by
  rw[fe] at h;simp at hb;subst hb;cases he:e i a with
  |some x=>rw[he] at h;cases h
  |none=>simp[he]
 |a::l,i,h,j+1,b,hb=>by
  rw[fe] at h;cases he:e i a with
  |some x=>rw[he] at h;cases h
  |none=>
   rw[he] at h;have:=sP (l:=l) (i:=i+1) h j b (by simpa using hb)
   rwa [show i+(j+1)=i+1+j by omega]
 |[],_,_,_,_,hb=>by simp at hb
def mth(v:Ev)(s:ByteArray):Option (Nat×Nat):=fe (fun i (c:Cl)=>(fO (oo s) c.methods 0).map fun k=>(i,k)) v.classes 0
def aiq(l:List Cl):Prop:=l.length≤aW∧∀c∈l,c.methods.length≤aW
theorem Zc(v:Ev)(hd:aiq v.classes)(s:ByteArray):ev (q62 (aZ v.datas) (cls v.classes) (its v.insts) (sv s))=some (0,match mth v s with|some (i,k)=>[iv i,iv k,bv true]|none=>[iv 0,iv 0,bv false]):=
 aS.of (by
  rw[h62];have hl:=eX v.classes (fun i (c:Cl)=>(fO (oo s) c.methods 0).map fun k=>(i,k)) (fun i=>Yt (iv i) (iv v.classes.length) (cls v.classes) (sv s)) (1,[sv s]) (fun x=>(0,[sv s,iv x.1,iv x.2,bv true]))
   (fun i a ha hi _=>by
    rw[ZY];simp[eu ha,hi,aO hi hd.1,aeV _ (hd.2 a (List.mem_of_getElem? ha)) s];cases h:fO (oo s) a.methods 0 with
    |none=>simp[fi,h]
    |some k=>simp[fi,h])
   (fun _=>by rw[ZY];simp)
  simp at hl;simp[hl];unfold mth;cases h:fe (fun i (c:Cl)=>(fO (oo s) c.methods 0).map fun k=>(i,k)) v.classes 0<;>simp)
mutual
def jL(v:Ev)(vars:List ByteArray):Ty→Int
 |.mk k s n ks=>if k=1 then(if mem vars s=true then nM v vars ks else 123) else if k=3 then(if arity v s<0 then 121 else if arity v s=(ks.length:Int) then nM v vars ks else 122) else 123
def nM(v:Ev)(vars:List ByteArray):List Ty→Int
 |[]=>0
 |t::l=>if jL v vars t=0 then nM v vars l else jL v vars t
end
def kr(v:Ev)(vars:List ByteArray)(t:Ty):Option Int:=if jL v vars t=0 then none else some (jL v vars t)
theorem H8(v:Ev)(vars:List ByteArray):∀(l:List Ty) (i:Nat),nM v vars l=match fe (fun _ t=>kr v vars t) l i with|some e=>e|none=>0
 |[],i=>by rw[nM];rfl
 |t::l,i=>by
  rw[nM,fe,H8 v vars l (i+1)];unfold kr;by_cases h:jL v vars t=0<;>simp[h]
theorem R6(v:Ev)(hd:v.datas.length≤aW)(vars:List ByteArray)(hv:vars.length≤aW):∀t:Ty,t.Ok→ev (aqm (aZ v.datas) (cls v.classes) (its v.insts) (strs vars) (iv t.kind) (sv t.name) (iv t.n) (aV t.kids))=some (0,[iv (jL v vars t)]):=by
 intro t ht
 induction ht with
 |mk k s n ks hl hk ih=>
  refine aS.of ?_;rw[ays];have hkids:=eX ks (fun _ t=>kr v vars t) (fun i=>TS (iv i) (iv ks.length) (aV ks) (strs vars) (aZ v.datas) (cls v.classes) (its v.insts)) (1,[aZ v.datas,cls v.classes,its v.insts]) (fun e=>(0,[aZ v.datas,cls v.classes,its v.insts,iv e]))
   (fun i a ha hi _=>by
    rw[UH];have h1:=ih a (List.mem_of_getElem? ha);simp[lG ha,hi,aO hi hl,h1];unfold kr;by_cases h:jL v vars a=0<;>simp[h])
   (fun _=>by rw[UH];simp)
  simp at hkids;have e:=H8 v vars ks 0;rw[jL];simp only[Ty.kind,Ty.name,Ty.n,Ty.kids];by_cases h1:k=1
  ·simp[h1,iG _ hv]
   cases hm:mem vars s with
   |false=>simp
   |true=>simp[hkids,e];cases fe (fun _ t=>kr v vars t) ks 0<;>simp
  ·by_cases h3:k=3
   ·simp[h1,h3,wz v hd]
    by_cases h4:arity v s<0
    ·have:¬0≤arity v s:=by omega
     simp[h4,this]
    ·have h4':0≤arity v s:=by omega
     have hm:max (arity v s) 0=arity v s:=by omega
     by_cases h5:arity v s=(ks.length:Int)
     ·have h6:¬((ks.length:Int)<0):=by omega
      simp[h4,h4',hm,h5,h6,hkids,e];cases fe (fun _ t=>kr v vars t) ks 0<;>simp
     ·simp[h4,h4',hm,h5]
   ·simp[h1,h3]
end Go.Proofs.YtfphhabaeggenaaGreatDoor.C
namespace Go.Proofs.YtfphhabaeggenaaGreatDoor.C
open Go.RowKit
def mZ(l:List ByteArray):List (List PV):=l.map fun s=>[sv s]
theorem DV(s:ByteArray):mZ [s]=[[sv s]]:=rfl
theorem L9:mZ []=[]:=rfl
theorem Ma(l:List ByteArray):(mZ l).length=l.length:=by simp[mZ]
@[simp] theorem ada(l:List ByteArray):NS (.rows (mZ l)):=sI l
theorem VD(l:List ByteArray):strs l=.rows (mZ l):=rfl
theorem XG(a b:List ByteArray):mZ (a++b)=mZ a++mZ b:=by simp[mZ]
theorem as2(a:List ByteArray)(s:ByteArray)(hb:a.length≤1000000000000-1){q:PV}:Gw Tryz.prog 38 (.pv (.rows (mZ a))) (.pv (.rows [[sv s]])) q↔q=.rows (mZ (a++[s])):=by
 rw[XG];exact Bf CK (s:=.pv (.rows (mZ a))) (x:=.pv (.rows [[sv s]])) (es:=mZ a) (es':=[[sv s]]) rfl rfl (by simp) (by simp) (by rw[Ma];simp;omega) (by rw[Ma];simp;omega)
def cnt(U met:List ByteArray):Nat:=(U.filter fun s=>!mem met s).length
theorem Dh(a b:List ByteArray)(s:ByteArray):mem (a++b) s=(mem a s||mem b s):=by simp[mem,PK]
theorem Rb{U met met':List ByteArray}(h:∀s,mem met s=true→mem met' s=true):cnt U met'≤cnt U met:=by
 unfold cnt
 induction U with
 |nil=>simp
 |cons s U ih=>
  rw[List.filter_cons,List.filter_cons];cases h1:mem met s with
  |true=>simp[h s h1];exact ih
  |false=>
   cases h2:mem met' s with
   |true=>simp;omega
   |false=>simp;exact ih
theorem cnt_lt{U met:List ByteArray}{s:ByteArray}(hs:s∈U)(h:mem met s=false):cnt U (met++[s])+1≤cnt U met:=by
 unfold cnt
 induction U with
 |nil=>cases hs
 |cons t U ih=>
  have hle:cnt U (met++[s])≤cnt U met:=Rb fun x hx=>by rw[Dh,hx];rfl
  unfold cnt at hle;rw[List.filter_cons,List.filter_cons];by_cases ht:t=s
  ·subst ht
   have:mem (met++[t]) t=true:=by rw[Dh];simp[mem,PK]
   simp[this,h];omega
  ·have hs':s∈U:=by
    rcases List.mem_cons.1 hs with e|hs'
    ·exact absurd e.symm ht
    ·exact hs'
   have:=ih hs';have e1:mem [s] t=false:=by simp[mem,PK];exact fun h=>ht h.symm
   have e:mem (met++[s]) t=mem met t:=by rw[Dh,e1,Bool.or_false]
   rw[e];cases mem met t<;>simp<;>omega
def xg(v:Ev)(i:Nat):List ByteArray:=match v.classes[i]? with
 |some x=>x.supers
 |none=>[]
def dJ(rec_:List ByteArray→ByteArray→List ByteArray)(met:List ByteArray)(s:ByteArray):List ByteArray:=if mem met s=true then met else rec_ (met++[s]) s
def jR(v:Ev):Nat→List ByteArray→ByteArray→List ByteArray
 |0,met,_=>met
 |n+1,met,c=>match fO (gI c) v.classes 0 with
  |none=>met
  |some i=>(xg v i).foldl (dJ (jR v n)) met
theorem IA{r:List ByteArray→ByteArray→List ByteArray}(hr:∀met c s,mem met s=true→mem (r met c) s=true):∀(l:List ByteArray) (met:List ByteArray) (s:ByteArray),mem met s=true→mem (l.foldl (dJ r) met) s=true
 |[],met,s,h=>h
 |c::l,met,s,h=>by
  rw[List.foldl_cons];refine IA hr l _ s ?_;unfold dJ;split
  ·exact h
  ·exact hr _ _ _ (by rw[Dh,h];rfl)
theorem Je(v:Ev):∀(n:Nat) (met:List ByteArray) (c s:ByteArray),mem met s=true→mem (jR v n met c) s=true
 |0,met,c,s,h=>h
 |n+1,met,c,s,h=>by
  rw[jR];split
  ·exact h
  ·exact IA (Je v n) _ _ _ h
structure Vo(v:Ev)(U:List ByteArray):Prop where
 cl:v.classes.length≤aW
 su:∀x∈v.classes,x.supers.length≤aW
 all:∀x∈v.classes,∀s∈x.supers,s∈U
theorem Jf{v:Ev}{U:List ByteArray}(h:Vo v U):∀(n:Nat) (met:List ByteArray) (c:ByteArray),(jR v n met c).length+cnt U (jR v n met c)≤met.length+cnt U met:=by
 intro n
 induction n with
 |zero=>intro met c;exact Nat.le_refl _
 |succ n ih=>
  intro met c;rw[jR];split
  ·exact Nat.le_refl _
  ·rename_i i hi
   have key:∀(l:List ByteArray),(∀s∈l,s∈U)→∀met:List ByteArray,(l.foldl (dJ (jR v n)) met).length+cnt U (l.foldl (dJ (jR v n)) met)≤met.length+cnt U met:=by
    intro l
    induction l with
    |nil=>intro _ met;exact Nat.le_refl _
    |cons s l ih2=>
     intro hl met;rw[List.foldl_cons];refine Nat.le_trans (ih2 (fun x hx=>hl x (List.mem_cons_of_mem _ hx)) _) ?_;unfold dJ;split
     ·exact Nat.le_refl _
     ·rename_i hm
      refine Nat.le_trans (ih _ _) ?_;have:=cnt_lt (hl s (List.mem_cons_self ..)) (by simpa using hm:mem met s=false);rw[List.length_append];simp;omega
   refine key _ (fun s hs=>?_) met;unfold xg at hs;split at hs
   ·rename_i x hx;exact h.all x (List.mem_of_getElem? hx) s hs
   ·cases hs
theorem Jg(v:Ev):∀(n:Nat) (met:List ByteArray) (c:ByteArray),met.length≤(jR v n met c).length:=by
 intro n
 induction n with
 |zero=>intro met c;exact Nat.le_refl _
 |succ n ih=>
  intro met c;rw[jR];split
  ·exact Nat.le_refl _
  ·rename_i i _
   have key:∀(l:List ByteArray) (m:List ByteArray),m.length≤(l.foldl (dJ (jR v n)) m).length:=by
    intro l
    induction l with
    |nil=>intro m;exact Nat.le_refl _
    |cons s l ih2=>
     intro m;rw[List.foldl_cons];refine Nat.le_trans ?_ (ih2 _);unfold dJ;split
     ·exact Nat.le_refl _
     ·refine Nat.le_trans ?_ (ih _ _)
      simp
   exact key _ _
theorem Ht(v:Ev)(n:Nat)(m:List ByteArray)(s:ByteArray):m.length≤(dJ (jR v n) m s).length:=by
 unfold dJ;split
 ·exact Nat.le_refl _
 ·refine Nat.le_trans ?_ (Jg v n _ _)
  simp
theorem OC(v:Ev)(n:Nat):∀(l:List ByteArray) (m:List ByteArray),m.length≤(l.foldl (dJ (jR v n)) m).length
 |[],m=>Nat.le_refl _
 |s::l,m=>by
  rw[List.foldl_cons];exact Nat.le_trans (Ht v n m s) (OC v n l _)
theorem xM(v:Ev)(n:Nat):∀(l:List ByteArray) (m:List ByteArray),(l.foldl (dJ (jR v n)) m).length=m.length→l.foldl (dJ (jR v n)) m=m
 |[],m,_=>rfl
 |s::l,m,h=>by
  rw[List.foldl_cons] at h ⊢;have h1:=OC v n l (dJ (jR v n) m s);have e:dJ (jR v n) m s=m:=by
   unfold dJ at h1 h ⊢;split
   ·rfl
   ·rename_i hm
    rw[if_neg hm] at h1 h;have h2:=Jg v n (m++[s]) s;rw[List.length_append] at h2;simp at h2;omega
  rw[e] at h ⊢;exact xM v n l m h
theorem LM(v:Ev):∀(n:Nat) (met:List ByteArray) (c:ByteArray),(jR v n met c).length=met.length→jR v n met c=met
 |0,met,c,_=>rfl
 |n+1,met,c,h=>by
  rw[jR] at h ⊢;split
  ·rfl
  ·rename_i i hi
   rw[hi] at h;exact xM v n _ _ h
theorem Jw{α σ ε:Type}(g:σ→α→σ):∀(l:List α) (i:Nat) (s:σ),lW (ε:=ε) (fun _ s a=>.ok (g s a)) l i s=.ok (l.foldl g s)
 |[],_,_=>rfl
 |a::l,i,s=>by rw[lW];simp only;rw[Jw g l,List.foldl_cons]
section
variable{β:Type}{d:β}{k:PV→β}
theorem Bg(a:List ByteArray)(s:ByteArray)(hb:a.length≤1000000000000-1):pO Tryz.prog d 38 (.pv (.rows (mZ a))) (.pv (.rows [[sv s]])) k=k (.rows (mZ (a++[s]))):=
 wB (fun w=>as2 a s hb) (ada _)
end
abbrev aj1:PV:=.lit (.slice none 0 0)
theorem dw(l:List ByteArray)(hl:l.length≤aW)(s:ByteArray):ev (ajL (.rows (mZ l)) (sv s))=some (0,[bv (mem l s)]):=iG l hl s
section
variable{v:Ev}{U:List ByteArray}(h:Vo v U)
include h
theorem aiy:∀(n:Nat) (met:List ByteArray) (c:ByteArray),cnt U met<n→met.length+cnt U met≤100000000000→
  ev (ag8 (sv c) (aZ v.datas) (cls v.classes) (its v.insts) (mZ met))=some (if(jR v n met c).length=met.length then 0 else 1,[aZ v.datas,cls v.classes,its v.insts,.rows (mZ (jR v n met c))]):=by
 intro n
 induction n with
 |zero=>intro met c hc;omega
 |succ n ih=>
  intro met c hc hM;refine aS.of ?_;rw[arz];have hcl:=wu v h.cl c;by_cases h0:0≤fi (gI c) v.classes
  ·obtain⟨k,x,e1,e2,e3,_⟩:=rO h0
   rw[e1] at hcl;have hx:=List.mem_of_getElem? e3;have hsl:=h.su x hx;have hm:max (k:Int) 0=k:=by omega
   have hk0:(0:Int)≤(k:Int):=by omega
   have hk1:¬(k:Int)<0:=by omega
   have eU:jR v (n+1) met c=x.supers.foldl (dJ (jR v n)) met:=by rw[jR,e2];simp only[xg,e3]
   have hl:=UZ (P:=PG) (E:=EE) (T:=TT) x.supers (fun _ m s=>.ok (dJ (jR v n) m s)) (fun i m=>if m.length=met.length then MS (iv i) (iv x.supers.length) (strs x.supers) (mZ m) (aZ v.datas) (cls v.classes) (its v.insts) else MR (iv i) (iv x.supers.length) (strs x.supers) (mZ m) (aZ v.datas) (cls v.classes) (its v.insts))
    (fun m=>(if m.length=met.length then 0 else 1,[.rows (mZ m),aZ v.datas,cls v.classes,its v.insts])) (fun _ m=>(m.length=met.length→m=met)∧cnt U m≤cnt U met∧m.length+cnt U m≤met.length+cnt U met∧met.length≤m.length)
    (fun i m s hs hI=>by
     obtain⟨i0,i1,i2,i3⟩:=hI;have hi:=oK hs;have hU:=h.all x hx s (List.mem_of_getElem? hs);have hml:m.length≤aW:=by unfold aW;omega
     have hge:=Ht v n m s;simp only;cases hmm:mem m s with
     |true=>
      have e:dJ (jR v n) m s=m:=by unfold dJ;rw[if_pos hmm]
      rw[e];refine⟨⟨i0,i1,i2,i3⟩,?_⟩;by_cases hq:m.length=met.length
      ·rw[if_pos hq,if_pos hq,zq];simp[bq hs,hi,dw _ hml,hmm,aO hi hsl]
      ·rw[if_neg hq,if_neg hq,zo];simp[bq hs,hi,dw _ hml,hmm,aO hi hsl]
     |false=>
      have e:dJ (jR v n) m s=jR v n (m++[s]) s:=by unfold dJ;rw[if_neg (by rw[hmm];simp)]
      have hcl:=cnt_lt hU hmm;have hr:=ih (m++[s]) s (by omega) (by rw[List.length_append];simp;omega);have hge2:=Jg v n (m++[s]) s;have hlen:=Jf h n (m++[s]) s;rw[List.length_append] at hge2 hlen;simp at hge2 hlen;have hne:¬(jR v n (m++[s]) s).length=met.length:=by omega
      rw[e];refine⟨⟨fun hh=>absurd hh hne,?_,by omega,by omega⟩,?_⟩
      ·have:cnt U (jR v n (m++[s]) s)≤cnt U (m++[s]):=Rb fun t ht=>Je v n _ _ _ ht
       omega
      rw[if_neg hne];by_cases hs2:(jR v n (m++[s]) s).length=(m++[s]).length
      ·have e5:=LM v n (m++[s]) s hs2
       rw[if_pos hs2,e5] at hr;rw[e5];by_cases hq:m.length=met.length
       ·rw[if_pos hq,zq];simp[bq hs,hi,dw _ hml,hmm,aO hi hsl,Bg m s (by omega),hr]
       ·rw[if_neg hq,zo];simp[bq hs,hi,dw _ hml,hmm,aO hi hsl,Bg m s (by omega),hr]
      ·rw[if_neg hs2] at hr
       by_cases hq:m.length=met.length
       ·rw[if_pos hq,zq];simp[bq hs,hi,dw _ hml,hmm,aO hi hsl,Bg m s (by omega),hr]
       ·rw[if_neg hq,zo];simp[bq hs,hi,dw _ hml,hmm,aO hi hsl,Bg m s (by omega),hr])
    (fun m hI=>by
     by_cases hq:m.length=met.length
     ·rw[if_pos hq,if_pos hq,zq];simp
     ·rw[if_neg hq,if_neg hq,zo];simp)
    met ⟨fun _=>rfl,Nat.le_refl _,Nat.le_refl _,Nat.le_refl _⟩
   rw[Jw] at hl;simp only[if_true] at hl;rw[eU];have hsame:=xM v n x.supers met;generalize x.supers.foldl (dJ (jR v n)) met=r at hl hsame ⊢;by_cases hq:r.length=met.length
   ·have:=hsame hq
    subst this;simp at hl;simp[hcl,hm,hk0,hk1,eu e3,hl]
   ·simp[hq] at hl
    simp[hcl,hm,hk0,hk1,eu e3,hl,hq]
  ·have:=FR h0
   rw[this.1] at hcl;have eU:jR v (n+1) met c=met:=by rw[jR,this.2]
   simp[hcl,eU]
end
end Go.Proofs.YtfphhabaeggenaaGreatDoor.C
namespace Go.Proofs.YtfphhabaeggenaaGreatDoor.C
open Go.RowKit
section
variable{v:Ev}{U:List ByteArray}(h:Vo v U)
include h
theorem aiz(n:Nat)(c:ByteArray)(hc:cnt U []<n+1)(hM:cnt U []≤100000000000) :
  ev (ag9 (sv c) (aZ v.datas) (cls v.classes) (its v.insts))=some (if(jR v (n+1) [] c).length=0 then(0,[aZ v.datas,cls v.classes,its v.insts,aj1]) else(1,[aZ v.datas,cls v.classes,its v.insts,.rows (mZ (jR v (n+1) [] c))])):=by
 refine aS.of ?_;rw[arA];have hcl:=wu v h.cl c;by_cases h0:0≤fi (gI c) v.classes
 ·obtain⟨k,x,e1,e2,e3,_⟩:=rO h0
  rw[e1] at hcl;have hx:=List.mem_of_getElem? e3;have hsl:=h.su x hx;have hm:max (k:Int) 0=k:=by omega
  have hk0:(0:Int)≤(k:Int):=by omega
  have hk1:¬(k:Int)<0:=by omega
  have eU:jR v (n+1) [] c=x.supers.foldl (dJ (jR v n)) []:=by rw[jR,e2];simp only[xg,e3]
  have hl:=UZ (P:=PG) (E:=EE) (T:=TT) x.supers (fun _ m s=>.ok (dJ (jR v n) m s)) (fun i m=>if m.length=0 then MV (iv i) (iv x.supers.length) (strs x.supers) (aZ v.datas) (cls v.classes) (its v.insts) else MU (iv i) (iv x.supers.length) (strs x.supers) (mZ m) (aZ v.datas) (cls v.classes) (its v.insts))
   (fun m=>if m.length=0 then(0,[aj1,aZ v.datas,cls v.classes,its v.insts]) else(1,[.rows (mZ m),aZ v.datas,cls v.classes,its v.insts])) (fun _ m=>cnt U m≤cnt U []∧m.length+cnt U m≤cnt U [])
   (fun i m s hs hI=>by
    obtain⟨i1,i2⟩:=hI;have hi:=oK hs;have hU:=h.all x hx s (List.mem_of_getElem? hs);have hml:m.length≤aW:=by unfold aW;omega
    simp only;cases hmm:mem m s with
    |true=>
     have e:dJ (jR v n) m s=m:=by unfold dJ;rw[if_pos hmm]
     rw[e];refine⟨⟨i1,i2⟩,?_⟩;by_cases hq:m.length=0
     ·have:m=[]:=List.length_eq_zero_iff.1 hq
      rw[this] at hmm;simp[mem] at hmm
     ·rw[if_neg hq,if_neg hq,zu];simp[bq hs,hi,dw _ hml,hmm,aO hi hsl]
    |false=>
     have e:dJ (jR v n) m s=jR v n (m++[s]) s:=by unfold dJ;rw[if_neg (by rw[hmm];simp)]
     have hcl:=cnt_lt hU hmm;have hr:=aiy h n (m++[s]) s (by omega) (by rw[List.length_append];simp;omega);have hge2:=Jg v n (m++[s]) s;have hlen:=Jf h n (m++[s]) s;rw[List.length_append] at hge2 hlen;simp at hge2 hlen;have hne:¬(jR v n (m++[s]) s).length=0:=by omega
     rw[e];refine⟨⟨?_,by omega⟩,?_⟩
     ·have:cnt U (jR v n (m++[s]) s)≤cnt U (m++[s]):=Rb fun t ht=>Je v n _ _ _ ht
      omega
     rw[if_neg hne];by_cases hs2:(jR v n (m++[s]) s).length=(m++[s]).length
     ·have e5:=LM v n (m++[s]) s hs2
      rw[if_pos hs2,e5] at hr;rw[e5];by_cases hq:m.length=0
      ·have:m=[]:=List.length_eq_zero_iff.1 hq
       subst this;have hc0:=dw [] (by unfold aW;simp) s;simp only[List.nil_append,DV,L9,hmm] at hr hc0;rw[if_pos hq,FM];simp[bq hs,hi,hc0,aO hi hsl,hr,DV]
      ·rw[if_neg hq,zu];simp[bq hs,hi,dw _ hml,hmm,aO hi hsl,Bg m s (by omega),hr]
     ·rw[if_neg hs2] at hr
      by_cases hq:m.length=0
      ·have:m=[]:=List.length_eq_zero_iff.1 hq
       subst this;have hc0:=dw [] (by unfold aW;simp) s;simp only[List.nil_append,DV,L9,hmm] at hr hc0;rw[if_pos hq,FM];simp[bq hs,hi,hc0,aO hi hsl,hr]
      ·rw[if_neg hq,zu];simp[bq hs,hi,dw _ hml,hmm,aO hi hsl,Bg m s (by omega),hr])
   (fun m hI=>by
    by_cases hq:m.length=0
    ·rw[if_pos hq,if_pos hq,FM];simp
    ·rw[if_neg hq,if_neg hq,zu];simp)
   [] ⟨Nat.le_refl _,by simp⟩
  rw[Jw] at hl;simp only[List.length_nil,if_true] at hl;rw[eU];generalize x.supers.foldl (dJ (jR v n)) []=r at hl ⊢;by_cases hq:r.length=0
  ·rw[if_pos hq] at hl
   simp at hl;simp[hcl,hm,hk0,hk1,eu e3,hl,List.length_eq_zero_iff.1 hq]
  ·rw[if_neg hq] at hl
   simp at hl;simp[hcl,hm,hk0,hk1,eu e3,hl,hq,fun e=>hq (List.length_eq_zero_iff.2 e)]
 ·have:=FR h0
  rw[this.1] at hcl;have eU:jR v (n+1) [] c=[]:=by rw[jR,this.2]
  simp[hcl,eU]
theorem Vn(n:Nat)(c:ByteArray)(hc:cnt U []<n+1)(hM:cnt U []≤100000000000) :
  ev (ahy (aZ v.datas) (cls v.classes) (its v.insts) (sv c))=some (0,[strs (jR v (n+1) [] c)]):=by
 have h1:=aiz h n c hc hM;have h2:ev (aqk (aZ v.datas) (cls v.classes) (its v.insts) (sv c))=some (if(jR v (n+1) [] c).length=0 then(0,[aj1]) else(1,[.rows (mZ (jR v (n+1) [] c))])):=by
  refine aS.of ?_;rw[ayq];generalize jR v (n+1) [] c=r at h1 ⊢;by_cases hq:r.length=0
  ·rw[if_pos hq] at h1 ⊢;simp[h1]
  ·rw[if_neg hq] at h1 ⊢;simp[h1]
 refine aS.of ?_;rw[ar3];generalize jR v (n+1) [] c=r at h2 ⊢;by_cases hq:r.length=0
 ·rw[if_pos hq] at h2
  have:r=[]:=List.length_eq_zero_iff.1 hq;subst this;simp[h2,strs]
 ·rw[if_neg hq] at h2;simp[h2,VD]
end
end Go.Proofs.YtfphhabaeggenaaGreatDoor.C
namespace Go.Proofs.YtfphhabaeggenaaGreatDoor.C
open Go.RowKit
mutual
def allT:Ty→List Ty
 |.mk k s n ks=>.mk k s n ks::abB ks
def abB:List Ty→List Ty
 |[]=>[]
 |t::l=>allT t++abB l
end
def auV(l:List Ty):List (List PV):=l.map Ty.cells
theorem amj(l:List Ty):aV l=.rows (auV l):=rfl
end Go.Proofs.YtfphhabaeggenaaGreatDoor.C
namespace Go.Proofs.YtfphhabaeggenaaGreatDoor.C
open Go.RowKit
mutual
def Cs:Ty→Bool
 |.mk k _ _ ks=>if k=1 then true else adY ks
def adY:List Ty→Bool
 |[]=>false
 |t::l=>Cs t||adY l
end
theorem NZ:∀l,adY l=l.any Cs
 |[]=>rfl
 |t::l=>by rw[adY,List.any_cons,NZ l]
theorem aqU:∀t:Ty,t.Ok→ev (aqj (iv t.kind) (sv t.name) (iv t.n) (aV t.kids))=some (0,[bv (Cs t)]):=by
 intro t ht
 induction ht with
 |mk k s n ks hl hk ih=>
  simp only[Ty.kind,Ty.name,Ty.n,Ty.kids];have h1:=gL ks Cs (fun i=>MQ (iv i) (iv ks.length) (aV ks)) (1,[]) (fun i=>(0,[iv i]))
   (fun i a ha hi=>by
    rw[Og];simp[lG ha,hi,aO hi hl,ih a (List.mem_of_getElem? ha)])
   (by rw[Og];simp)
  simp at h1;have h2:ev (ag3 (aV ks))=some (0,[iv (fi Cs ks)]):=
   aS.of (by rw[arp];simp[h1];cases h:fO Cs ks 0<;>simp[fi,h])
  have h3:ev (ag7 (aV ks))=some (0,[bv (ks.any Cs)]):=
   aS.of (by rw[arx];simp[h2];rw[←pI];cases decide (0≤fi Cs ks)<;>rfl)
  refine aS.of ?_;rw[ayp,Cs,NZ];by_cases h0:k=1
  ·simp[h0]
  ·simp[h0,h3];cases ks.any Cs<;>simp
theorem Xg(a b:PV):ev (aqi a b)=some (0,[a,b]):=aS.of (by rw[ayo];rfl)
theorem cK(a b:PV):ev (agL a b)=some (0,[]):=aS.of (by rw[aqY];rfl)
theorem bQ(a b:PV):ev (agK a b)=some (0,[a,b]):=aS.of (by rw[aqX];simp[Xg])
abbrev wD:=Int×Int
theorem mem_map{α:Type}(f:α→ByteArray)(l:List α)(s:ByteArray):mem (l.map f) s=l.any (fun x=>decide (f x=s)):=by
 unfold mem PK;rw[List.any_map];rfl
def Pe(c:Cl)(l:List Bd)(i:Nat)(b:Bd):Option wD:=
 if mem (c.methods.map Md.name) b.name=true then(if mem ((l.take i).map Bd.name) b.name=true then some (120,b.at_) else if b.e.kind=6 then none else some (130,b.at_)) else some (121,b.at_)
def xY(c:Cl)(l:List Bd):Option wD:=fe (Pe c l) l 0
theorem U7(c:Cl)(l:List Bd)(hc:c.methods.length≤aW)(hl:l.length≤aW)(x7 x8 x9 x10:PV) :
  ev (ahx (bg l) (sv c.name) (sv c.var) (strs c.supers) (jb c.methods) (bg c.defaults) (iv c.at_) x7 x8 x9 x10)=some (match xY c l with|some (e,a)=>(1,[x7,x8,x9,x10,iv e,iv a])|none=>(0,[x7,x8,x9,x10])):=by
 have h:=eX l (Pe c l) (fun i=>Nb (iv i) (iv l.length) (bg l) (bg l) (sv c.name) (sv c.var) (strs c.supers) (jb c.methods) (bg c.defaults) (iv c.at_))
  (1,[sv c.name,sv c.var,strs c.supers,jb c.methods,bg c.defaults,iv c.at_]) (fun x=>(0,[sv c.name,sv c.var,strs c.supers,jb c.methods,bg c.defaults,iv c.at_,iv x.1,iv x.2]))
  (fun i b hb hi _=>by
   rw[Ox];have h1:=aao c.methods hc b;have h2:=aar (l.take i) (by rw[List.length_take];omega) b;rw[pI] at h1 h2;have e1':=mem_map Md.name c.methods b.name;have e2':=mem_map Bd.name (l.take i) b.name;unfold Pe;cases e1:mem (c.methods.map Md.name) b.name with
   |false=>
    rw[show c.methods.any (oo b.name)=false by rw[←e1,e1'];rfl] at h1;simp[-List.map_take,nC hb,hi,aO hi hl,h1,bQ]
   |true=>
    rw[show c.methods.any (oo b.name)=true by rw[←e1,e1'];rfl] at h1;cases e2:mem ((l.take i).map Bd.name) b.name with
    |true=>
     rw[show (l.take i).any (jO b.name)=true by rw[←e2,e2'];rfl] at h2;simp[-List.map_take,nC hb,hi,aO hi hl,h1,uy (Nat.le_of_lt hi),h2,cK,bQ]
    |false=>
     rw[show (l.take i).any (jO b.name)=false by rw[←e2,e2'];rfl] at h2;simp[-List.map_take,nC hb,hi,aO hi hl,h1,uy (Nat.le_of_lt hi),h2,cK,bQ];by_cases h6:b.e.kind=6<;>simp[h6])
  (fun _=>by rw[Ox];simp)
 simp at h;refine aS.of ?_;rw[ar2];unfold xY;simp[h];cases fe (Pe c l) l 0<;>simp
def FL(ks:List Ty)(i:Nat)(k:Ty):Option Int:=if k.kind=1 then(if k.kids.length=0 then(if mem ((ks.take i).map Ty.name) k.name=true then some 127 else none) else some 127) else some 127
def tT(v:Ev)(x:It):Option Int:=if x.head.kind=3 then(if x.head.name=Af then some 127 else if arity v x.head.name<0 then some 127 else if arity v x.head.name=(x.head.kids.length:Int) then fe (FL x.head.kids) x.head.kids 0 else some 122) else some 127
theorem akx(v:Ev)(hd:v.datas.length≤aW)(x:It)(hx:x.head.kids.length≤aW)(m:PV) :
  ev (ahw (sv x.cls) (iv x.head.kind) (sv x.head.name) (iv x.head.n) (aV x.head.kids) (jT x.ctx) (bg x.binds) (iv x.at_) (aZ v.datas) (cls v.classes) (its v.insts) m)=some (match tT v x with|some e=>(1,[aZ v.datas,cls v.classes,its v.insts,m,iv e,iv x.at_])|none=>(0,[aZ v.datas,cls v.classes,its v.insts,m])):=by
 have h:=eX x.head.kids (FL x.head.kids) (fun i=>Na (iv i) (iv x.head.kids.length) (aV x.head.kids) (sv x.cls) (iv x.head.kind) (sv x.head.name) (iv x.head.n) (aV x.head.kids) (jT x.ctx) (bg x.binds) (iv x.at_))
  (1,[sv x.cls,iv x.head.kind,sv x.head.name,iv x.head.n,aV x.head.kids,jT x.ctx,bg x.binds,iv x.at_]) (fun e=>(0,[sv x.cls,iv x.head.kind,sv x.head.name,iv x.head.n,aV x.head.kids,jT x.ctx,bg x.binds,iv x.at_,iv e,iv x.at_]))
  (fun i k hk hi _=>by
   rw[Ow];have h2:=aak (x.head.kids.take i) (by rw[List.length_take];omega) k;rw[pI] at h2;have e2':=mem_map Ty.name (x.head.kids.take i) k.name;unfold FL;cases e2:mem ((x.head.kids.take i).map Ty.name) k.name with
   |true=>
    rw[show (x.head.kids.take i).any (pF k.name)=true by rw[←e2,e2'];rfl] at h2;simp[lG hk,hi,aO hi hx,Mg (Nat.le_of_lt hi),h2,cK,bQ]
   |false=>
    rw[show (x.head.kids.take i).any (pF k.name)=false by rw[←e2,e2'];rfl] at h2;simp[lG hk,hi,aO hi hx,Mg (Nat.le_of_lt hi),h2,cK,bQ];by_cases k1:k.kind=1
    ·by_cases k2:k.kids=[]<;>simp[k1,k2]
    ·simp[k1])
  (fun _=>by rw[Ow];simp)
 simp at h;refine aS.of ?_;rw[ar1];unfold tT;by_cases k4:arity v x.head.name<0
 ·have k4':¬0≤arity v x.head.name:=by omega
  by_cases k3:x.head.kind=3<;>by_cases ka:x.head.name=Af<;>simp[k3,ka,wz v hd,k4,k4',bQ]
 ·have k4':0≤arity v x.head.name:=by omega
  have hmx:max (arity v x.head.name) 0=arity v x.head.name:=by omega
  by_cases k3:x.head.kind=3
  ·rw[k3] at h
   by_cases ka:x.head.name=Af
   ·have ka1:arity v Af=2:=by unfold arity wS;simp
    simp[k3,ka,wz v hd,ka1,cK,bQ]
   ·by_cases k5:arity v x.head.name=(x.head.kids.length:Int)
    ·have k6:¬((x.head.kids.length:Int)<0):=by omega
     simp[k3,ka,wz v hd,k4,k4',hmx,k5,k6,cK,bQ,h];cases fe (FL x.head.kids) x.head.kids 0<;>simp
    ·simp[k3,ka,wz v hd,k4,k4',hmx,k5,cK,bQ]
  ·simp[k3,wz v hd,k4,k4',bQ]
end Go.Proofs.YtfphhabaeggenaaGreatDoor.C
namespace Go.Proofs.YtfphhabaeggenaaGreatDoor.C
open Go.RowKit
def K6(v:Ev)(x:It)(i:Nat)(p:Pd):Option Int:=
 if fi (gI p.cls) v.classes<0 then some 121 else if p.t.kind=1 then(if mem (x.head.kids.map Ty.name) p.t.name=true then(if(x.ctx.take i).any (Co p.cls p.t.name)=true then some 120 else none) else some 123) else some 123
def K5(v:Ev)(x:It):Option Int:=fe (K6 v x) x.ctx 0
structure Big(v:Ev)(U:List ByteArray)(n:Nat):Prop where
 s:Vo v U
 c:cnt U []<n+1
 m:cnt U []≤100000000000
def WU(v:Ev)(n:Nat)(c:ByteArray):List ByteArray:=jR v (n+1) [] c
theorem Big.len{v:Ev}{U:List ByteArray}{n:Nat}(h:Big v U n)(c:ByteArray):(WU v n c).length≤aW:=by
 have:=Jf h.s (n+1) [] c;have:=h.m;unfold WU aW;simp at *;omega
def qL(v:Ev)(n:Nat)(c s:ByteArray)(p:Pd):Bool:=decide (p.t.name=s)&&(decide (p.cls=c)||mem (WU v n p.cls) c)
def qM(v:Ev)(n:Nat)(x:It)(c s:ByteArray):Bool:=x.ctx.any (qL v n c s)
section
variable{v:Ev}{U:List ByteArray}{n:Nat}(h:Big v U n)
include h
theorem Wn(p:Pd)(c s:ByteArray)(m:PV) :
  ev (agW (sv p.cls) (iv p.t.kind) (sv p.t.name) (iv p.t.n) (aV p.t.kids) (sv s) (sv c) (aZ v.datas) (cls v.classes) (its v.insts) m)=some (0,[sv s,sv c,aZ v.datas,cls v.classes,its v.insts,m,bv (qL v n c s p)]):=by
 refine aS.of ?_;rw[arh];have ha:=Vn h.s n p.cls h.c h.m;have hb:=iG (WU v n p.cls) (h.len _) c;unfold qL;by_cases h1:p.t.name=s
 ·by_cases h2:p.cls=c
  ·simp[h1,h2]
  ·unfold WU at hb ⊢
   cases hm:mem (jR v (n+1) [] p.cls) c<;>rw[hm] at hb<;>simp[h1,h2,ha,hb]
 ·simp[h1]
theorem aeT(x:It)(hx:x.ctx.length≤aW)(c s:ByteArray)(m:PV) :
  ev (ahm (sv x.cls) (iv x.head.kind) (sv x.head.name) (iv x.head.n) (aV x.head.kids) (jT x.ctx) (bg x.binds) (iv x.at_) (sv c) (sv s) (aZ v.datas) (cls v.classes) (its v.insts) m)=some (0,[aZ v.datas,cls v.classes,its v.insts,m,bv (qM v n x c s)]):=by
 have hl:=gL x.ctx (qL v n c s) (fun i=>MP (iv i) (iv x.ctx.length) (jT x.ctx) (sv s) (sv c) (aZ v.datas) (cls v.classes) (its v.insts) m)
  (1,[sv s,sv c,aZ v.datas,cls v.classes,its v.insts,m]) (fun i=>(0,[sv s,sv c,aZ v.datas,cls v.classes,its v.insts,m,iv i]))
  (fun i p hp hi=>by
   rw[Oa];simp[pG hp,hi,Wn h p c s m,aO hi hx])
  (by rw[Oa];simp)
 simp at hl;have h2:ev (agY (jT x.ctx) (sv s) (sv c) (aZ v.datas) (cls v.classes) (its v.insts) m)=some (0,[sv s,sv c,aZ v.datas,cls v.classes,its v.insts,m,iv (fi (qL v n c s) x.ctx)]):=
  aS.of (by rw[arj];simp[hl];cases hh:fO (qL v n c s) x.ctx 0<;>simp[fi,hh])
 have h3:ev (agX (jT x.ctx) (sv s) (sv c) (aZ v.datas) (cls v.classes) (its v.insts) m)=some (0,[sv s,sv c,aZ v.datas,cls v.classes,its v.insts,m,bv (qM v n x c s)]):=
  aS.of (by rw[ari];simp[h2];unfold qM;rw[←pI];cases decide (0≤fi (qL v n c s) x.ctx)<;>rfl)
 refine aS.of ?_;rw[arR];simp[h3];cases qM v n x c s<;>simp
end
end Go.Proofs.YtfphhabaeggenaaGreatDoor.C
namespace Go.Proofs.YtfphhabaeggenaaGreatDoor.C
open Go.RowKit
theorem AF{α:Type}(f:α→Bool):∀(l:List α) (i:Nat),fO f l (i+1)=(fO f l i).map (· + 1)
 |[],i=>rfl
 |a::l,i=>by
  rw[fO,fO];cases f a with
  |true=>simp
  |false=>simp;exact AF f l (i+1)
theorem NF{P:Program}{t kt et:TypeId}{d:TypeDesc}{es:List (List PV)}{k w0:AV}{key:Value}{ok:Bool}(h1:P.underlying t=some (.map kt et))(h2:P.underlying kt=some d)(hn:dQ es=true)(hk:k.val? = some key)
  (hl:Ff P kt et d key (es.map Cm) (es.map qW) ok=some w0) (w:AV):Gt P t (.rows es) k w ok↔w=w0:=by
 constructor
 ·rintro⟨kt',et',d',es',key',g1,g2,g3,_,g5,g6⟩
  rw[h1] at g1;cases g1;rw[h2] at g2;cases g2;cases g3;rw[hk] at g5;cases g5;rw[hl] at g6;exact(Option.some.inj g6).symm
 ·rintro rfl
  exact⟨kt,et,d,es,key,h1,h2,rfl,hn,hk,hl⟩
theorem Am:∀{es:List (List PV)},dQ es=true↔∀c∈es,Ao c=true
 |[]=>by simp[dQ]
 |c::es=>by rw[dQ,Bool.and_eq_true,Am];simp
theorem RI{P:Program}{t kt et:TypeId}{d:TypeDesc}{es es':List (List PV)}{k v:AV}{key:Value}(h1:P.underlying t=some (.map kt et))(h2:P.underlying kt=some d)(hn:dQ es=true)(hk:k.val? = some key)(hf:qJ P kt d key=true)
  (hu:GH P kt d key (es.map Cm) (es.map qW) v=some (es'.map Cm,es'.map qW)) (hn':dQ es'=true):I7 P t (.rows es) k v (.rows es'):=
 ⟨kt,et,d,es,key,es',h1,h2,rfl,hn,hk,hf,hu,rfl,hn'⟩
def wF(l:List ByteArray):PV:=.rows (l.map fun s=>[sv s,bv true])
theorem agA:Tryz.prog.underlying 166=some (.map 9 4):=by kernel_rfl
theorem agz:Tryz.prog.underlying 9=some .string:=by kernel_rfl
theorem Vs:zeroV Tryz.prog 4=some (.pv (bv false)):=by kernel_rfl
theorem Lg(a b:ByteArray):(a==b)=decide (a=b):=by
 obtain⟨x⟩:=a;obtain⟨y⟩:=b;show (x==y)=_;by_cases h:x=y<;>simp[h]
theorem KH(s:ByteArray):∀l:List ByteArray,zC .string (.string s) (l.map fun x=>.string x)=some (fO (PK s) l 0)
 |[]=>rfl
 |a::l=>by
  rw[List.map_cons,zC];have e:Instr.sameNow .string (.string s) (.string a)=some (decide (a=s)):=by
   show some (s==a)=_;rw[Lg];by_cases h:a=s
   ·simp[h]
   ·have:¬s=a:=fun e=>h e.symm
    simp[h,this]
  rw[e,KH s l,fO];unfold PK;cases decide (a=s) with
  |true=>rfl
  |false=>
   simp only[Bool.false_eq_true,if_false,Nat.zero_add];rw[AF (fun x=>decide (x=s)) l 0];cases fO (fun x=>decide (x=s)) l 0<;>rfl
theorem EZ(l:List ByteArray):(l.map fun s=>[sv s,bv true]).map Cm=l.map fun s=>.string s:=by rw[List.map_map];rfl
theorem EY(l:List ByteArray):(l.map fun s=>[sv s,bv true]).map qW=l.map fun _=>.pv (bv true):=by rw[List.map_map];rfl
theorem Qz(l:List ByteArray):dQ (l.map fun s=>[sv s,bv true])=true:=by
 rw[Am];intro c hc;obtain⟨s,_,rfl⟩:=List.mem_map.1 hc;rfl
@[simp] theorem ajW(l:List ByteArray):NS (wF l):=oh fun x _ p hp=>by
 simp only[List.mem_cons,List.not_mem_nil,or_false] at hp;rcases hp with rfl|rfl<;>exact .lit _
section
variable{β:Type}{d:β}
theorem ql{k:AV→β}(l:List ByteArray)(s:ByteArray):wM Tryz.prog d 166 (wF l) (.pv (.lit (.string s))) false k=k (.pv (bv (mem l s))):=by
 refine NG (fun w=>NF agA agz (Qz l) (key:=.string s) rfl ?_ w) (bH _);rw[EZ,EY];unfold Ff qJ sO;simp only[Ut,KH,if_true];unfold mem;rw[←sN _ _ 0];cases hf:fO (PK s) l 0 with
 |none=>simp[Vs]
 |some j=>
  obtain⟨_,a,h1,_⟩:=lJ hf;simp at h1;have hj:=oK h1;simp[hj]
theorem Xq{k:PV→β}(l:List ByteArray)(s:ByteArray)(hm:mem l s=false):DF Tryz.prog d 166 (wF l) (.pv (.lit (.string s))) (.pv (bv true)) k=k (wF (l++[s])):=by
 refine RJ (w0:=wF (l++[s])) (by simp[wF,apd,ake,acR];exact⟨_,rfl,rfl⟩) (RI agA agz (Qz l) (key:=.string s) rfl rfl ?_ (Qz _)) (ajW _);rw[EZ,EY,EZ,EY];unfold GH sO;simp only[KH];have:fO (PK s) l 0=none:=by
  unfold mem at hm;rw[←sN _ _ 0] at hm;cases hf:fO (PK s) l 0 with
  |none=>rfl
  |some _=>rw[hf] at hm;simp at hm
 rw[this];simp
end
abbrev Ke:=ByteArray×ByteArray×Int
def zi(c s:ByteArray):Ke→Bool:=fun e=>decide (e.1=c∧e.2.1=s)
def xG(l:List Ke):PV:=.rows (l.map fun e=>[.rows [[sv e.1,sv e.2.1]],iv e.2.2])
noncomputable def kf:Array Field:=Tryz.prog.fieldsOf 175
noncomputable def kf1:Field:=kf.getD 0 default
noncomputable def kf2:Field:=kf.getD 1 default
theorem agB:Tryz.prog.underlying 72=some (.map 175 3):=by kernel_rfl
theorem Xu:Tryz.prog.underlying 175=some (.struct #[kf1,kf2]):=by kernel_rfl
theorem Xf:zeroV Tryz.prog 3=some (.pv (iv 0)):=by kernel_rfl
theorem Us(d:TypeDesc)(c s:ByteArray):qJ Tryz.prog 175 (.struct #[kf1,kf2]) (.agg #[.string c,.string s])=true:=by kernel_rfl
theorem kn1 : kf1.name ≠ "_" := of_decide_eq_false (by kernel_rfl)
theorem kn2 : kf2.name ≠ "_" := of_decide_eq_false (by kernel_rfl)
theorem key_eq(a b a' b':ByteArray):aP Tryz.prog (Op.equal 175 (.agg #[.string a,.string b]) (.agg #[.string a',.string b']))=some ((a==a')&&(b==b')):=
 uK (P:=Tryz.prog) (t:=175) (t1:=0) (t2:=0) (f1:=kf1) (f2:=kf2) 9998 Xu (by kernel_rfl) kn1 kn2 (by kernel_rfl) (by kernel_rfl) (fun _ _=>by kernel_rfl) (fun _ _=>by kernel_rfl) a b a' b'
theorem UM(c s:ByteArray):∀l:List Ke,IB Tryz.prog 175 (.agg #[.string c,.string s]) (l.map fun e=>.agg #[.string e.1,.string e.2.1])=some (fO (zi c s) l 0)
 |[]=>rfl
 |e::l=>by
  rw[List.map_cons,IB,key_eq,UM c s l,fO];have he:((c==e.1)&&(s==e.2.1))=zi c s e:=by
   unfold zi;rw[Lg,Lg];by_cases h1:e.1=c<;>by_cases h2:e.2.1=s<;>simp[h1,h2]
   ·intro h;exact absurd h.symm h2
   ·intro h;exact absurd h.symm h1
   ·intro h;exact absurd h.symm h1
  rw[he];cases zi c s e with
  |true=>rfl
  |false=>
   simp only[Bool.false_eq_true,if_false,Nat.zero_add];rw[AF (zi c s) l 0];cases fO (zi c s) l 0<;>rfl
theorem OG(c s:ByteArray)(l:List Ke):sO Tryz.prog 175 (.struct #[kf1,kf2]) (.agg #[.string c,.string s]) (l.map fun e=>.agg #[.string e.1,.string e.2.1])=some (fO (zi c s) l 0):=by
 unfold sO;cases l with
 |nil=>rfl
 |cons e l=>
  have:zC (.struct #[kf1,kf2]) (.agg #[.string c,.string s]) ((e::l).map fun e=>.agg #[.string e.1,.string e.2.1])=none:=rfl;rw[this,UM]
theorem E8(l:List Ke):(l.map fun e=>[.rows [[sv e.1,sv e.2.1]],iv e.2.2]).map Cm=l.map fun e=>.agg #[.string e.1,.string e.2.1]:=by rw[List.map_map];rfl
theorem E5(l:List Ke):(l.map fun e=>[.rows [[sv e.1,sv e.2.1]],iv e.2.2]).map qW=l.map fun e=>.pv (iv e.2.2):=by rw[List.map_map];rfl
theorem QA(l:List Ke):dQ (l.map fun e=>[.rows [[sv e.1,sv e.2.1]],iv e.2.2])=true:=by
 rw[Am];intro c hc;obtain⟨s,_,rfl⟩:=List.mem_map.1 hc;rfl
@[simp] theorem ajX(l:List Ke):NS (xG l):=oh fun x _ p hp=>by
 simp only[List.mem_cons,List.not_mem_nil,or_false] at hp;rcases hp with rfl|rfl
 ·exact .rows _ fun c hc p hp=>by
   simp at hc;subst hc;simp at hp;rcases hp with rfl|rfl<;>exact .lit _
 ·exact .lit _
section
variable{β:Type}{d:β}
theorem sJ{k:AV→β}(l:List Ke)(c s:ByteArray):wM Tryz.prog d 72 (xG l) (.agg [.pv (.lit (.string c)),.pv (.lit (.string s))]) true k=k (match fO (zi c s) l 0 with|some j=>.tup [.pv (iv (match l[j]? with|some e=>e.2.2|none=>0)),.pv (bv true)]|none=>.tup [.pv (iv 0),.pv (bv false)]):=by
 refine NG (fun w=>NF agB Xu (QA l) (key:=.agg #[.string c,.string s]) rfl ?_ w) ?_
 ·rw[E8,E5]
  unfold Ff;rw[Us (.bool),OG];simp only[if_true];cases hf:fO (zi c s) l 0 with
  |none=>simp[Xf]
  |some j=>
   obtain⟨_,a,h1,_⟩:=lJ hf;simp at h1;simp[h1]
 ·cases fO (zi c s) l 0 with
  |none=>exact .tup _ (by intro a ha;simp at ha;rcases ha with rfl|rfl<;>exact bH _)
  |some j=>exact .tup _ (by intro a ha;simp at ha;rcases ha with rfl|rfl<;>exact bH _)
theorem aix{k:PV→β}(l:List Ke)(c s:ByteArray)(i:Int)(hm:fO (zi c s) l 0=none):DF Tryz.prog d 72 (xG l) (.agg [.pv (.lit (.string c)),.pv (.lit (.string s))]) (.pv (.lit (.int .i64 i))) k=k (xG (l++[(c,s,i)])):=by
 refine RJ (w0:=xG (l++[(c,s,i)])) (by simp[xG,apd,ake,acR];exact⟨_,rfl,rfl⟩) (RI agB Xu (QA l) (key:=.agg #[.string c,.string s]) rfl (Us .bool c s) ?_ (QA _)) (ajX _);rw[E8,E5,E8,E5];unfold GH;rw[OG,hm];simp
end
end Go.Proofs.YtfphhabaeggenaaGreatDoor.C
namespace Go.Proofs.YtfphhabaeggenaaGreatDoor.C
open Go.RowKit
theorem iO{α ε:Type}{e:Nat→α→Option ε}:∀{l:List α} {i:Nat} {x:ε},fe e l i=some x→∃j a,a∈l∧e j a=some x
 |[],_,_,h=>by cases h
 |a::l,i,x,h=>by
  rw[fe] at h;cases he:e i a with
  |some y=>rw[he] at h;cases h;exact⟨i,a,List.mem_cons_self ..,he⟩
  |none=>
   rw[he] at h;obtain⟨j,b,h1,h2⟩:=iO h;exact⟨j,b,List.mem_cons_of_mem _ h1,h2⟩
theorem ZO{v:Ev}{x:It}{e:Int}(h:tT v x=some e):e≠0:=by
 unfold tT at h;have key:∀e,fe (FL x.head.kids) x.head.kids 0=some e→e≠0:=by
  intro e h;obtain⟨j,a,_,h2⟩:=iO h;unfold FL at h2;split at h2
  ·split at h2
   ·split at h2<;>cases h2
    omega
   ·cases h2;omega
  ·cases h2;omega
 split at h
 ·split at h
  ·cases h;omega
  ·split at h
   ·cases h;omega
   ·split at h
    ·exact key e h
    ·cases h;omega
 ·cases h;omega
theorem afT{v:Ev}{x:It}{e:Int}(h:K5 v x=some e):e≠0:=by
 obtain⟨j,a,_,h2⟩:=iO h;unfold K6 at h2;split at h2
 ·cases h2;omega
 ·split at h2
  ·split at h2
   ·split at h2<;>cases h2
    omega
   ·cases h2;omega
  ·cases h2;omega
theorem I4{c:Cl}{l:List Bd}{f:wD}(h:xY c l=some f):f.1≠0:=by
 obtain⟨j,a,_,h2⟩:=iO h;unfold Pe at h2;split at h2
 ·split at h2
  ·cases h2;simp
  ·split at h2<;>cases h2
   simp
 ·cases h2;simp
def Um(c:Cl)(x:It)(m:Md):Bool:=mem (x.binds.map Bd.name) m.name||mem (c.defaults.map Bd.name) m.name
def Un(c:Cl)(x:It):Bool:=c.methods.all (Um c x)
theorem aay{α:Type}(p:α→Bool):∀(l:List α) (i:Nat),fe (fun _ a=>if p a=true then none else some ()) l i=if l.all p=true then none else some ()
 |[],i=>by simp[fe]
 |a::l,i=>by
  rw[fe,List.all_cons];cases h:p a with
  |true=>simp;rw[aay p l (i+1)];simp
  |false=>simp
def nV(v:Ev)(i:Nat)(x:It)(c:Cl):Option wD:=match tT v x with
 |some e=>some (e,x.at_)
 |none=>if(v.insts.take i).any (isIt x.cls x.head.name)=true then some (125,x.at_) else match K5 v x with
  |some e=>some (e,x.at_)
  |none=>match xY c x.binds with
   |some f=>some f
   |none=>if Un c x=true then none else some (128,x.at_)
def jc(v:Ev)(i:Nat)(x:It):Option wD:=match fO (gI x.cls) v.classes 0 with
 |none=>some (121,x.at_)
 |some k=>match v.classes[k]? with
  |none=>none
  |some c=>nV v i x c
structure alS(v:Ev):Prop where
 d:v.datas.length≤aW
 c:v.classes.length≤aW
 i:v.insts.length≤aW
 m:∀c∈v.classes,c.methods.length≤1000000000∧c.defaults.length≤1000000000
 x:∀x∈v.insts,x.ctx.length≤aW∧x.head.kids.length≤1000000000∧x.binds.length≤1000000000
end Go.Proofs.YtfphhabaeggenaaGreatDoor.C
namespace Go.Proofs.YtfphhabaeggenaaGreatDoor.C
open Go.RowKit
def iH:List It→Nat→List Ke
 |[],_=>[]
 |x::l,i=>(x.cls,x.head.name,(i:Int))::iH l (i+1)
theorem FD(c s:ByteArray):∀(l:List It) (j i:Nat),fO (zi c s) (iH l j) i=fO (isIt c s) l i
 |[],_,_=>rfl
 |x::l,j,i=>by
  rw[iH,fO,fO,FD c s l (j+1) (i+1)];have:zi c s (x.cls,x.head.name,(j:Int))=isIt c s x:=by simp[zi,isIt]
  rw[this]
theorem Iz:∀(l:List It) (x:It) (j:Nat),iH (l++[x]) j=iH l j++[(x.cls,x.head.name,((j+l.length:Nat):Int))]
 |[],x,j=>by simp[iH]
 |y::l,x,j=>by rw[List.cons_append,iH,Iz l x (j+1),iH,List.length_cons,List.cons_append,show j+1+l.length=j+(l.length+1) by omega]
theorem NQ:∀(l:List It) (j k:Nat) (x:It),l[k]? = some x→(iH l j)[k]? = some (x.cls,x.head.name,((j+k:Nat):Int))
 |y::l,j,0,x,h=>by simp at h;subst h;simp[iH]
 |y::l,j,k+1,x,h=>by
  rw[iH,List.getElem?_cons_succ,NQ l (j+1) k x (by simpa using h),show j+1+k=j+(k+1) by omega]
 |[],_,_,_,h=>by simp at h
theorem any_map{α:Type}(f:α→ByteArray)(l:List α)(s:ByteArray)(g:α→Bool)(hg:∀x,g x=decide (f x=s)):l.any g=mem (l.map f) s:=by
 rw[mem_map];congr 1;funext x;exact hg x
theorem asH(v:Ev)(hd:v.classes.length≤aW)(x:It)(hx:x.ctx.length≤aW)(hk:x.head.kids.length≤aW)(y m:PV) :
  ev (JG (iv 0) (iv x.ctx.length) (jT x.ctx) y (aZ v.datas) (cls v.classes) (its v.insts) m (sv x.cls) (iv x.head.kind) (sv x.head.name) (iv x.head.n) (aV x.head.kids) (jT x.ctx) (bg x.binds) (iv x.at_))=some (match K5 v x with|some e=>(0,[aZ v.datas,cls v.classes,its v.insts,m,sv x.cls,iv x.head.kind,sv x.head.name,iv x.head.n,aV x.head.kids,jT x.ctx,bg x.binds,iv x.at_,iv e,iv x.at_])|none=>(1,[aZ v.datas,cls v.classes,its v.insts,m,sv x.cls,iv x.head.kind,sv x.head.name,iv x.head.n,aV x.head.kids,jT x.ctx,bg x.binds,iv x.at_,y])):=by
 have h:=eX x.ctx (K6 v x) (fun i=>JG (iv i) (iv x.ctx.length) (jT x.ctx) y (aZ v.datas) (cls v.classes) (its v.insts) m (sv x.cls) (iv x.head.kind) (sv x.head.name) (iv x.head.n) (aV x.head.kids) (jT x.ctx) (bg x.binds) (iv x.at_))
  (1,[aZ v.datas,cls v.classes,its v.insts,m,sv x.cls,iv x.head.kind,sv x.head.name,iv x.head.n,aV x.head.kids,jT x.ctx,bg x.binds,iv x.at_,y]) (fun e=>(0,[aZ v.datas,cls v.classes,its v.insts,m,sv x.cls,iv x.head.kind,sv x.head.name,iv x.head.n,aV x.head.kids,jT x.ctx,bg x.binds,iv x.at_,iv e,iv x.at_]))
  (fun i p hp hi _=>by
   rw[Uz];have hcl:=wu v hd p.cls;have h1:=aam x.head.kids hk p;have h2:=aan (x.ctx.take i) (by rw[List.length_take];omega) p;rw[pI] at h1 h2;unfold K6;by_cases k0:fi (gI p.cls) v.classes<0
   ·have k0':¬0≤fi (gI p.cls) v.classes:=by omega
    rw[decide_eq_false k0'] at hcl;simp[pG hp,hi,hcl,k0,bQ]
   ·have k0':0≤fi (gI p.cls) v.classes:=by omega
    rw[decide_eq_true k0'] at hcl;have e3:x.head.kids.any (Aw p.t)=(decide (p.t.kind=1)&&mem (x.head.kids.map Ty.name) p.t.name):=by
     rw[mem_map];by_cases k1:p.t.kind=1
     ·simp[k1];congr 1;funext a;simp[Aw,k1]
     ·simp[k1];intro a _;simp[Aw,k1]
    cases e4:x.head.kids.any (Aw p.t) with
    |false=>
     rw[e4] at h1;have:(if p.t.kind=1 then(if mem (x.head.kids.map Ty.name) p.t.name=true then(if(x.ctx.take i).any (Co p.cls p.t.name)=true then some 120 else none) else some 123) else some 123:Option Int)=some 123:=by
      rw[e4] at e3;by_cases k1:p.t.kind=1
      ·simp[k1] at e3;simp[k1,←e3]
      ·simp[k1]
     rw[if_neg k0,this];simp[pG hp,hi,hcl,h1,cK,bQ]
    |true=>
     rw[e4] at h1 e3;have e5:=e3.symm;rw[Bool.and_eq_true] at e5;have k1:p.t.kind=1:=of_decide_eq_true e5.1;rw[if_neg k0,if_pos k1,if_pos e5.2];cases e6:(x.ctx.take i).any (Co p.cls p.t.name) with
     |true=>rw[e6] at h2;simp[pG hp,hi,hcl,h1,Mh (Nat.le_of_lt hi),h2,cK,bQ]
     |false=>rw[e6] at h2;simp[pG hp,hi,hcl,h1,Mh (Nat.le_of_lt hi),h2,cK,bQ,aO hi hx])
  (fun _=>by rw[Uz];simp)
 unfold K5;simp at h;rw[h];cases fe (K6 v x) x.ctx 0<;>rfl
theorem aj9(c:Cl)(x:It)(hc:c.methods.length≤aW)(hd:c.defaults.length≤aW)(hb:x.binds.length≤aW) :
  ev (JF (iv 0) (iv c.methods.length) (jb c.methods) (sv x.cls) (iv x.head.kind) (sv x.head.name) (iv x.head.n) (aV x.head.kids) (jT x.ctx) (bg x.binds) (iv x.at_) (sv c.name) (sv c.var) (strs c.supers) (jb c.methods) (bg c.defaults) (iv c.at_))=some (if Un c x=true then(1,[sv x.cls,iv x.head.kind,sv x.head.name,iv x.head.n,aV x.head.kids,jT x.ctx,bg x.binds,iv x.at_,sv c.name,sv c.var,strs c.supers,jb c.methods,bg c.defaults,iv c.at_]) else(0,[sv x.cls,iv x.head.kind,sv x.head.name,iv x.head.n,aV x.head.kids,jT x.ctx,bg x.binds,iv x.at_,sv c.name,sv c.var,strs c.supers,jb c.methods,bg c.defaults,iv c.at_,iv 128,iv x.at_])):=by
 have h:=eX c.methods (fun _ m=>if Um c x m=true then none else some ()) (fun i=>JF (iv i) (iv c.methods.length) (jb c.methods) (sv x.cls) (iv x.head.kind) (sv x.head.name) (iv x.head.n) (aV x.head.kids) (jT x.ctx) (bg x.binds) (iv x.at_) (sv c.name) (sv c.var) (strs c.supers) (jb c.methods) (bg c.defaults) (iv c.at_))
  (1,[sv x.cls,iv x.head.kind,sv x.head.name,iv x.head.n,aV x.head.kids,jT x.ctx,bg x.binds,iv x.at_,sv c.name,sv c.var,strs c.supers,jb c.methods,bg c.defaults,iv c.at_]) (fun _=>(0,[sv x.cls,iv x.head.kind,sv x.head.name,iv x.head.n,aV x.head.kids,jT x.ctx,bg x.binds,iv x.at_,sv c.name,sv c.var,strs c.supers,jb c.methods,bg c.defaults,iv c.at_,iv 128,iv x.at_]))
  (fun i m hm hi _=>by
   rw[Uy];have h1:=Uu x.binds hb m;have h2:=Uu c.defaults hd m;rw[any_map Bd.name x.binds m.name (jO m.name) (fun _=>rfl)] at h1;rw[any_map Bd.name c.defaults m.name (jO m.name) (fun _=>rfl)] at h2;unfold Um;cases e1:mem (x.binds.map Bd.name) m.name with
   |true=>rw[e1] at h1;simp[ny hm,hi,h1,cK,aO hi hc]
   |false=>
    rw[e1] at h1;cases e2:mem (c.defaults.map Bd.name) m.name<;>rw[e2] at h2<;>simp[ny hm,hi,h1,h2,cK,bQ,aO hi hc])
  (fun _=>by rw[Uy];simp)
 rw[aay] at h;unfold Un;generalize c.methods.all (Um c x)=b at h ⊢;simp at h;rw[h];cases b<;>rfl
theorem ZJ(v:Ev)(hv:alS v)(i:Nat)(x:It)(hx:v.insts[i]? = some x):match jc v i x with
  |none=>ev (ajF (iv i) (aZ v.datas) (cls v.classes) (its v.insts) (xG (iH (v.insts.take i) 0)))=some (1,[aZ v.datas,cls v.classes,its v.insts,xG (iH (v.insts.take (i+1)) 0)])
  |some (e,a)=>∃m,ev (ajF (iv i) (aZ v.datas) (cls v.classes) (its v.insts) (xG (iH (v.insts.take i) 0)))=some (0,[aZ v.datas,cls v.classes,its v.insts,m,iv e,iv a]):=by
 obtain⟨x1,x2,x3⟩:=hv.x x (List.mem_of_getElem? hx);have hxN:x.head.kids.length≤aW:=by unfold aW;omega
 have hbN:x.binds.length≤aW:=by unfold aW;omega
 have hi:=oK hx;have hcl:=wu v hv.c x.cls;unfold jc;by_cases h0:0≤fi (gI x.cls) v.classes
 ·obtain⟨k,c,e1,e2,e3,_⟩:=rO h0
  obtain⟨c1,c2⟩:=hv.m c (List.mem_of_getElem? e3);have hcN:c.methods.length≤aW:=by unfold aW;omega
  have hdN:c.defaults.length≤aW:=by unfold aW;omega
  rw[decide_eq_true h0,e1] at hcl;have hm0:max (k:Int) 0=k:=by omega
  rw[hm0] at hcl;rw[e2];simp only[e3];have hh:=akx v hv.d x hxN (xG (iH (v.insts.take i) 0));have hf:=FD x.cls x.head.name (v.insts.take i) 0 0;have hany:=sN (isIt x.cls x.head.name) (v.insts.take i) 0;have hti:v.insts.take (i+1)=v.insts.take i++[x]:=by rw[List.take_add_one,hx];rfl
  have hlen:(v.insts.take i).length=i:=by rw[List.length_take];omega
  unfold nV;cases hH:tT v x with
  |some e=>
   rw[hH] at hh;exact⟨_,aS.of (by rw[QI];simp[fZ hx,hcl,cK,hh];rfl)⟩
  |none=>
   rw[hH] at hh;cases hO:(v.insts.take i).any (isIt x.cls x.head.name) with
   |true=>
    rw[hO] at hany;obtain⟨j,hj⟩:=Option.isSome_iff_exists.1 hany;rw[hj] at hf;exact⟨_,aS.of (by rw[QI];simp[fZ hx,hcl,cK,hh,sJ,hf,bQ];rfl)⟩
   |false=>
    rw[hO] at hany;have hj:fO (isIt x.cls x.head.name) (v.insts.take i) 0=none:=by
     cases hq:fO (isIt x.cls x.head.name) (v.insts.take i) 0 with
     |none=>rfl
     |some _=>rw[hq] at hany;cases hany
    rw[hj] at hf;have hup:xG (iH (v.insts.take (i+1)) 0)=xG (iH (v.insts.take i) 0++[(x.cls,x.head.name,(i:Int))]):=by
     rw[hti,Iz,hlen,Nat.zero_add]
    rw[hup];have hc:=asH v hv.c x x1 hxN (iv k) (xG (iH (v.insts.take i) 0++[(x.cls,x.head.name,(i:Int))]));have hup2:=fun kk=>aix (β:=bG) (d:=.fail) (k:=kk) (iH (v.insts.take i) 0) x.cls x.head.name (i:Int) hf
    cases hC:K5 v x with
    |some e=>
     rw[hC] at hc;exact⟨_,aS.of (by rw[QI];simp[fZ hx,hcl,cK,hh,sJ,hf,hup2,hc];rfl)⟩
    |none=>
     rw[hC] at hc;have hb:=U7 c x.binds hcN hbN (aZ v.datas) (cls v.classes) (its v.insts) (xG (iH (v.insts.take i) 0++[(x.cls,x.head.name,(i:Int))]));cases hB:xY c x.binds with
     |some f=>
      obtain⟨fe,fa⟩:=f;rw[hB] at hb;exact⟨_,aS.of (by rw[QI];simp[fZ hx,hcl,cK,hh,sJ,hf,hup2,hc,eu e3,hb];rfl)⟩
     |none=>
      rw[hB] at hb;have hm:=aj9 c x hcN hdN hbN;cases hq:Un c x with
      |true=>
       rw[hq] at hm;simp only[if_true] at hm ⊢;exact aS.of (by rw[QI];simp[fZ hx,hcl,cK,hh,sJ,hf,hup2,hc,eu e3,hb,hm])
      |false=>
       rw[hq] at hm;simp only[Bool.false_eq_true,if_false] at hm ⊢;exact⟨_,aS.of (by rw[QI];simp[fZ hx,hcl,cK,hh,sJ,hf,hup2,hc,eu e3,hb,hm];rfl)⟩
 ·have:=FR h0
  rw[decide_eq_false h0] at hcl;rw[this.2];exact⟨_,aS.of (by rw[QI];simp[fZ hx,hcl,bQ];rfl)⟩
end Go.Proofs.YtfphhabaeggenaaGreatDoor.C
namespace Go.Proofs.YtfphhabaeggenaaGreatDoor.C
open Go.RowKit
theorem aat{α ε:Type}{e:Nat→α→Option ε}:∀{l:List α} {i j0:Nat} {a0:α},l[j0]? = some a0→(∀j a,l[j]? = some a→j≠j0→e (i+j) a=none)→fe e l i=e (i+j0) a0
 |[],_,_,_,h,_=>by simp at h
 |a::l,i,0,a0,h,hn=>by
  simp at h;subst h;rw[fe,Nat.add_zero];cases he:e i a with
  |some x=>rfl
  |none=>
   simp only;have:∀(l:List α) (i:Nat),(∀j a,l[j]? = some a→e (i+j) a=none)→fe e l i=none:=by
    intro l
    induction l with
    |nil=>intro i _;rfl
    |cons b l ih=>
     intro i h;rw[fe];have:=h 0 b rfl;rw[Nat.add_zero] at this;rw[this];exact ih (i+1) fun j a ha=>by have:=h (j+1) a (by simpa using ha);rwa [show i+(j+1)=i+1+j by omega] at this
   exact this l (i+1) fun j b hb=>by
    have:=hn (j+1) b (by simpa using hb) (by omega)
    rwa [show i+(j+1)=i+1+j by omega] at this
 |a::l,i,j0+1,a0,h,hn=>by
  rw[fe];have h0:=hn 0 a rfl (by omega);rw[Nat.add_zero] at h0;rw[h0];simp only;rw[aat (l:=l) (i:=i+1) (j0:=j0) (a0:=a0) (by simpa using h) (fun j b hb hj=>by
   have:=hn (j+1) b (by simpa using hb) (by omega)
   rwa [show i+(j+1)=i+1+j by omega] at this),show i+1+j0=i+(j0+1) by omega]
structure Bn(v:Ev)(x:It):Prop where
 k:(x.head.kids.length:Int)=arity v x.head.name
 d:∀j t,x.head.kids[j]? = some t→mem ((x.head.kids.take j).map Ty.name) t.name=false
 c:∀p∈x.ctx,mem (x.head.kids.map Ty.name) p.t.name=true
theorem Bn.of{v:Ev}{i:Nat}{x:It}(h:jc v i x=none)(hc:∃k c,fO (gI x.cls) v.classes 0=some k∧v.classes[k]? = some c):Bn v x:=by
 obtain⟨k,c,h1,h2⟩:=hc;unfold jc at h;rw[h1] at h;simp only[h2] at h;unfold nV at h;cases hH:tT v x with
 |some e=>rw[hH] at h;cases h
 |none=>
  rw[hH] at h;simp only at h;split at h
  ·cases h
  ·cases hC:K5 v x with
   |some e=>rw[hC] at h;cases h
   |none=>
    unfold tT at hH;split at hH
    ·split at hH
     ·cases hH
     ·split at hH
      ·cases hH
      ·split at hH
       ·rename_i hk
        refine⟨hk.symm,fun j t ht=>?_,fun p hp=>?_⟩
        ·have:=sP hH j t ht
         rw[Nat.zero_add] at this;unfold FL at this;split at this
         ·split at this
          ·split at this
           ·cases this
           ·rename_i hq;simpa using hq
          ·cases this
         ·cases this
        ·obtain⟨j,hj⟩:=List.getElem?_of_mem hp
         have:=sP hC j p hj;unfold K6 at this;split at this
         ·cases this
         ·split at this
          ·split at this
           ·assumption
           ·cases this
          ·cases this
       ·cases hH
    ·cases hH
theorem O7{v:Ev}{i:Nat}{x:It}(h:jc v i x=none):∃k c,fO (gI x.cls) v.classes 0=some k∧v.classes[k]? = some c:=by
 unfold jc at h;cases hf:fO (gI x.cls) v.classes 0 with
 |none=>rw[hf] at h;cases h
 |some k=>
  obtain⟨_,c,h1,_⟩:=lJ hf;exact⟨k,c,rfl,by simpa using h1⟩
def nameAt(x:It)(j:Nat):ByteArray:=match x.head.kids[j]? with
 |some t=>t.name
 |none=>⟨#[]⟩
def VB(v:Ev)(n:Nat)(x y:It)(p:Pd)(j:Nat)(t:Ty):Option Unit:=if t.name=p.t.name then(if qM v n x p.cls (nameAt x j)=true then none else some ()) else none
def GJ(v:Ev)(n:Nat)(x y:It)(_:Nat)(p:Pd):Option Unit:=fe (VB v n x y p) y.head.kids 0
def Jl(v:Ev)(n:Nat)(x:It)(_:Nat)(s:ByteArray):Option Unit:=match fO (isIt s x.head.name) v.insts 0 with
 |none=>some ()
 |some k=>match v.insts[k]? with
  |none=>none
  |some y=>fe (GJ v n x y) y.ctx 0
theorem XE{v:Ev}{n:Nat}{x y:It}(hy:Bn v y)(hx:Bn v x)(hn:y.head.name=x.head.name){p:Pd}(hp:p∈y.ctx) :
  ∃(j:Nat) (t:Ty),fi (pF p.t.name) y.head.kids=(j:Int)∧x.head.kids[j]? = some t∧∀i,GJ v n x y i p=if qM v n x p.cls t.name=true then none else some ():=by
 have hm:=hy.c p hp;rw[←any_map Ty.name y.head.kids p.t.name (pF p.t.name) (fun _=>rfl),←sN _ _ 0] at hm;obtain⟨j,hj⟩:=Option.isSome_iff_exists.1 hm;obtain⟨_,t,ht,htn⟩:=lJ hj;simp at ht;have hjl:=oK ht;have hlen:x.head.kids.length=y.head.kids.length:=by
  have h1:=hx.k;have h2:=hy.k;rw[hn] at h2;omega
 have hxj:x.head.kids[j]? = some (x.head.kids[j]'(by omega)):=List.getElem?_eq_getElem (by omega);refine⟨j,_,UN hj,hxj,fun i=>?_⟩;have htn':t.name=p.t.name:=by simpa[pF] using htn
 unfold GJ;rw[aat (j0:=j) (a0:=t) ht ?_]
 ·unfold VB
  rw[if_pos htn',Nat.zero_add];unfold nameAt;rw[hxj]
 ·intro j' a ha hne
  unfold VB;by_cases hq:a.name=p.t.name
  ·exfalso
   rcases Nat.lt_or_gt_of_ne hne with hlt|hlt
   ·have:=hy.d j t ht
    rw[mem_map,List.any_eq_false] at this;refine this a ?_ (by simp[hq,htn']);exact List.mem_of_getElem? (i:=j') (by rw[List.getElem?_take,if_pos hlt];exact ha)
   ·have:=hy.d j' a ha
    rw[mem_map,List.any_eq_false] at this;refine this t ?_ (by simp[hq,htn']);exact List.mem_of_getElem? (i:=j) (by rw[List.getElem?_take,if_pos hlt];exact ht)
  ·rw[if_neg hq]
section
variable{v:Ev}{U:List ByteArray}{n:Nat}(h:Big v U n)(hv:alS v)(hok:∀i x,v.insts[i]? = some x→jc v i x=none)
include h hv hok
theorem ZN{i:Nat}{x:It}(hx:v.insts[i]? = some x):Bn v x:=Bn.of (hok i x hx) (O7 (hok i x hx))
theorem aiK(x y:It){ix iy:Nat}(hx:v.insts[ix]? = some x)(hy:v.insts[iy]? = some y)(hn:y.head.name=x.head.name)(i:Nat)(a b m:PV) :
  ev (JE (iv 0) (iv y.ctx.length) (jT y.ctx) (iv i) a b (sv y.cls) (iv y.head.kind) (sv y.head.name) (iv y.head.n) (aV y.head.kids) (jT y.ctx) (bg y.binds) (iv y.at_) (aZ v.datas) (cls v.classes) (its v.insts) m (sv x.cls) (iv x.head.kind) (sv x.head.name) (iv x.head.n) (aV x.head.kids) (jT x.ctx) (bg x.binds) (iv x.at_))=some (match fe (GJ v n x y) y.ctx 0 with|some _=>(0,[sv y.cls,iv y.head.kind,sv y.head.name,iv y.head.n,aV y.head.kids,jT y.ctx,bg y.binds,iv y.at_,aZ v.datas,cls v.classes,its v.insts,m,sv x.cls,iv x.head.kind,sv x.head.name,iv x.head.n,aV x.head.kids,jT x.ctx,bg x.binds,iv x.at_,iv 126,iv x.at_])|none=>(1,[sv y.cls,iv y.head.kind,sv y.head.name,iv y.head.n,aV y.head.kids,jT y.ctx,bg y.binds,iv y.at_,aZ v.datas,cls v.classes,its v.insts,m,sv x.cls,iv x.head.kind,sv x.head.name,iv x.head.n,aV x.head.kids,jT x.ctx,bg x.binds,iv x.at_,iv i,a,b])):=by
 have hxo:=ZN h hv hok hx;have hyo:=ZN h hv hok hy;obtain⟨x1,x2,x3⟩:=hv.x x (List.mem_of_getElem? hx);obtain⟨y1,y2,y3⟩:=hv.x y (List.mem_of_getElem? hy);have hyN:y.head.kids.length≤aW:=by unfold aW;omega
 have hl:=eX y.ctx (GJ v n x y) (fun k=>JE (iv k) (iv y.ctx.length) (jT y.ctx) (iv i) a b (sv y.cls) (iv y.head.kind) (sv y.head.name) (iv y.head.n) (aV y.head.kids) (jT y.ctx) (bg y.binds) (iv y.at_) (aZ v.datas) (cls v.classes) (its v.insts) m (sv x.cls) (iv x.head.kind) (sv x.head.name) (iv x.head.n) (aV x.head.kids) (jT x.ctx) (bg x.binds) (iv x.at_))
  (1,[sv y.cls,iv y.head.kind,sv y.head.name,iv y.head.n,aV y.head.kids,jT y.ctx,bg y.binds,iv y.at_,aZ v.datas,cls v.classes,its v.insts,m,sv x.cls,iv x.head.kind,sv x.head.name,iv x.head.n,aV x.head.kids,jT x.ctx,bg x.binds,iv x.at_,iv i,a,b]) (fun _=>(0,[sv y.cls,iv y.head.kind,sv y.head.name,iv y.head.n,aV y.head.kids,jT y.ctx,bg y.binds,iv y.at_,aZ v.datas,cls v.classes,its v.insts,m,sv x.cls,iv x.head.kind,sv x.head.name,iv x.head.n,aV x.head.kids,jT x.ctx,bg x.binds,iv x.at_,iv 126,iv x.at_]))
  (fun k p hp hk _=>by
   rw[Uw];obtain⟨j,t,e1,e2,e3⟩:=XE (n:=n) hyo hxo hn (List.mem_of_getElem? hp);have hf:=aal y.head.kids hyN p;rw[e1] at hf;have hm0:max (j:Int) 0=j:=by omega
   have hj0:(0:Int)≤(j:Int):=by omega
   rw[hm0,decide_eq_true hj0] at hf;have hg:=aeT h x x1 p.cls t.name m;rw[e3];cases hb:qM v n x p.cls t.name<;>rw[hb] at hg<;>simp[pG hp,hk,hf,lG e2,hg,cK,bQ,aO hk y1])
  (fun _=>by rw[Uw];simp)
 simp at hl;rw[hl];cases fe (GJ v n x y) y.ctx 0<;>rfl
theorem amt(x:It){ix:Nat}(hx:v.insts[ix]? = some x){k:Nat}{c:Cl}(h1:fO (gI x.cls) v.classes 0=some k)(h2:v.classes[k]? = some c)(hs:c.supers.length≤aW) :
  ev (ap4 (sv x.cls) (iv x.head.kind) (sv x.head.name) (iv x.head.n) (aV x.head.kids) (jT x.ctx) (bg x.binds) (iv x.at_) (aZ v.datas) (cls v.classes) (its v.insts) (xG (iH v.insts 0)))=some (match fe (Jl v n x) c.supers 0 with|some _=>(1,[aZ v.datas,cls v.classes,its v.insts,xG (iH v.insts 0),iv 126,iv x.at_])|none=>(0,[aZ v.datas,cls v.classes,its v.insts,xG (iH v.insts 0)])):=by
 have hl:=eX c.supers (Jl v n x) (fun i=>Sj (iv i) (iv c.supers.length) (strs c.supers) (aZ v.datas) (cls v.classes) (its v.insts) (xG (iH v.insts 0)) (sv x.cls) (iv x.head.kind) (sv x.head.name) (iv x.head.n) (aV x.head.kids) (jT x.ctx) (bg x.binds) (iv x.at_))
  (1,[aZ v.datas,cls v.classes,its v.insts,xG (iH v.insts 0),sv x.cls,iv x.head.kind,sv x.head.name,iv x.head.n,aV x.head.kids,jT x.ctx,bg x.binds,iv x.at_]) (fun _=>(0,[aZ v.datas,cls v.classes,its v.insts,xG (iH v.insts 0),sv x.cls,iv x.head.kind,sv x.head.name,iv x.head.n,aV x.head.kids,jT x.ctx,bg x.binds,iv x.at_,iv 126,iv x.at_]))
  (fun i s hs2 hi _=>by
   rw[Ux];have hkey:=FD s x.head.name v.insts 0 0;unfold Jl;cases hf:fO (isIt s x.head.name) v.insts 0 with
   |none=>
    rw[hf] at hkey;simp[bq hs2,hi,sJ,hkey,bQ]
   |some k=>
    rw[hf] at hkey;obtain⟨_,y,e3,e4⟩:=lJ hf;simp at e3;have hn:y.head.name=x.head.name:=by
     have:y.cls=s∧y.head.name=x.head.name:=by simpa[isIt] using e4
     exact this.2
    have hget:=NQ v.insts 0 k y e3;rw[Nat.zero_add] at hget;have hm:=aiK h hv hok x y hx e3 hn i (iv c.supers.length) (strs c.supers) (xG (iH v.insts 0));simp only[e3];cases hq:fe (GJ v n x y) y.ctx 0<;>rw[hq] at hm<;>simp at hm<;>simp[bq hs2,hi,sJ,hkey,hget,cK,fZ e3,hm,aO hi hs])
  (fun _=>by rw[Ux];simp)
 simp at hl;refine aS.of ?_;rw[aya];have hcl:=wu v hv.c x.cls;rw[UN h1] at hcl;have hm0:max (k:Int) 0=k:=by omega
 have hj0:(0:Int)≤(k:Int):=by omega
 rw[hm0,decide_eq_true hj0] at hcl;simp[hcl,eu h2,hl];cases fe (Jl v n x) c.supers 0<;>simp
end
end Go.Proofs.YtfphhabaeggenaaGreatDoor.C
namespace Go.Proofs.YtfphhabaeggenaaGreatDoor.C
open Go.RowKit
theorem KP{α σ ε:Type}(l:List α)(g:Nat→σ→α→Except ε σ)(q:Nat→σ→Q)(fin:σ→Rs)(rf:ε→Rs)(I:Nat→σ→Prop)
  (step:∀i s a,l[i]? = some a→i<l.length→I i s→match g i s a with
   |.ok s'=>I (i+1) s'∧body PG EE TT ev (q i s)=tL (ev (q (i+1) s'))
   |.error r=>body PG EE TT ev (q i s)=.ok (rf r))
  (done:∀s,I l.length s→body PG EE TT ev (q l.length s)=.ok (fin s)) (s:σ) (h0:I 0 s) :
  ev (q 0 s)=some (match lW g l 0 s with | .ok s'=>fin s' | .error r=>rf r):=by
 have key:∀(m i:Nat) (s:σ),l.length-i=m→i≤l.length→I i s→ev (q i s)=some (match lW g (l.drop i) i s with | .ok s'=>fin s' | .error r=>rf r):=by
  intro m
  induction m with
  |zero=>
   intro i s hm hi hs;have:i=l.length:=by omega
   subst this;rw[List.drop_length];exact aS.of (done s hs)
  |succ m ih=>
   intro i s hm hi hs;have hlt:i<l.length:=by omega
   have h1:=step i s _ (List.getElem?_eq_getElem hlt) hlt hs;rw[List.drop_eq_getElem_cons hlt,lW];cases hg:g i s l[i] with
   |ok s'=>
    rw[hg] at h1;refine aS.of ?_;rw[h1.2,ih (i+1) s' (by omega) (by omega) h1.1];rfl
   |error r=>
    rw[hg] at h1;exact aS.of h1
 simpa using key l.length 0 s rfl (Nat.zero_le _) h0
structure Fit(v:Ev):Prop extends alS v where
 dl:v.datas.length≤1000000
 dc:∀d∈v.datas,d.cons.length≤1000000∧d.params.length≤aW∧∀c∈d.cons,c.args.length≤aW∧∀t∈c.args,t.Ok
 cl:v.classes.length≤1000000
 cm:∀c∈v.classes,c.methods.length≤1000000∧c.supers.length≤aW∧∀m∈c.methods,m.t.Ok∧(allT m.t).length≤1000000000
def Wx(v:Ev)(i:Nat)(d:Dt):Option wD:=if 0≤wS d.name then some (120,d.at_) else if(v.datas.take i).any (lF d.name)=true then some (120,d.at_) else none
def AU(v:Ev):Option wD:=fe (Wx v) v.datas 0
def YK(d:Dt)(k:Nat)(p:ByteArray):Option wD:=if mem (d.params.take k) p=true then some (120,d.at_) else none
def acY(d:Dt):Option wD:=fe (YK d) d.params 0
def abx(v:Ev)(d:Dt)(c:Cn):Option Int:=fe (fun _ t=>kr v d.params t) c.args 0
def G7(v:Ev)(d:Dt)(_:Nat)(met:List ByteArray)(c:Cn):Except (wD×List ByteArray) (List ByteArray):=
 if mem met c.name=true then .error ((120,c.at_),met) else if 60<(c.args.length:Int) then .error ((3,c.at_),met++[c.name]) else match abx v d c with
  |some e=>.error ((e,c.at_),met++[c.name])
  |none=>.ok (met++[c.name])
def K4(v:Ev)(_:Nat)(met:List ByteArray)(d:Dt):Except (wD×List ByteArray) (List ByteArray):=match acY d with
 |some f=>.error (f,met)
 |none=>lW (G7 v d) d.cons 0 met
def F5(v:Ev):Except (wD×List ByteArray) (List ByteArray):=lW (K4 v) v.datas 0 []
def pK(v:Ev):Option wD:=match AU v with
 |some f=>some f
 |none=>match F5 v with
  |.error (f,_)=>some f
  |.ok _=>none
end Go.Proofs.YtfphhabaeggenaaGreatDoor.C
namespace Go.Proofs.YtfphhabaeggenaaGreatDoor.C
open Go.RowKit
theorem Uk:wF []=.rows []:=rfl
section
variable{v:Ev}(hv:Fit v)
include hv
theorem alz(m:PV):ev (CV (iv 0) (iv v.datas.length) (aZ v.datas) (aZ v.datas) (cls v.classes) (its v.insts) m)=some (match AU v with|some (e,a)=>(0,[aZ v.datas,cls v.classes,its v.insts,m,iv e,iv a])|none=>(1,[aZ v.datas,cls v.classes,its v.insts,m])):=by
 have h:=eX v.datas (Wx v) (fun i=>CV (iv i) (iv v.datas.length) (aZ v.datas) (aZ v.datas) (cls v.classes) (its v.insts) m) (1,[aZ v.datas,cls v.classes,its v.insts,m]) (fun f=>(0,[aZ v.datas,cls v.classes,its v.insts,m,iv f.1,iv f.2]))
  (fun i d hd hi _=>by
   rw[Kt];have hf:=aap (v.datas.take i) (by rw[List.length_take];exact Nat.le_trans (Nat.min_le_right ..) hv.d) d;rw[pI] at hf;unfold Wx;by_cases h0:0≤wS d.name
   ·cases hm:(v.datas.take i).any (lF d.name)<;>rw[hm] at hf<;>simp[iD hd,hi,Du,h0,Mi (Nat.le_of_lt hi),hf,bQ]
   ·cases hm:(v.datas.take i).any (lF d.name)<;>rw[hm] at hf<;>simp[iD hd,hi,Du,h0,Mi (Nat.le_of_lt hi),hf,bQ,cK,aO hi hv.d])
  (fun _=>by rw[Kt];simp)
 simp at h;rw[h];unfold AU;cases fe (Wx v) v.datas 0<;>rfl
theorem aqp(d:Dt)(hd:d∈v.datas)(a b c met m:PV):ev (JK (iv 0) (iv d.params.length) (strs d.params) a b c (sv d.name) (strs d.params) (nK d.cons) (strs d.deriv) (iv d.at_) met (aZ v.datas) (cls v.classes) (its v.insts) m)=some (match acY d with|some f=>(0,[sv d.name,strs d.params,nK d.cons,strs d.deriv,iv d.at_,met,aZ v.datas,cls v.classes,its v.insts,m,iv f.1,iv f.2])|none=>(1,[sv d.name,strs d.params,nK d.cons,strs d.deriv,iv d.at_,met,aZ v.datas,cls v.classes,its v.insts,m,a,b,c])):=by
 obtain⟨d1,d2,d3⟩:=hv.dc d hd;have h:=eX d.params (YK d) (fun k=>JK (iv k) (iv d.params.length) (strs d.params) a b c (sv d.name) (strs d.params) (nK d.cons) (strs d.deriv) (iv d.at_) met (aZ v.datas) (cls v.classes) (its v.insts) m) (1,[sv d.name,strs d.params,nK d.cons,strs d.deriv,iv d.at_,met,aZ v.datas,cls v.classes,its v.insts,m,a,b,c]) (fun f=>(0,[sv d.name,strs d.params,nK d.cons,strs d.deriv,iv d.at_,met,aZ v.datas,cls v.classes,its v.insts,m,iv f.1,iv f.2]))
  (fun k p hp hk _=>by
   rw[UC];have hh:=iG (d.params.take k) (by rw[List.length_take];omega) p;unfold YK;cases hm:mem (d.params.take k) p<;>rw[hm] at hh<;>simp[bq hp,hk,Hy (Nat.le_of_lt hk),hh,cK,bQ,aO hk d2])
  (fun _=>by rw[UC];simp)
 simp at h;rw[h];unfold acY;cases fe (YK d) d.params 0<;>rfl
theorem as1(d:Dt)(hd:d∈v.datas)(c:Cn)(hc:c∈d.cons)(a1 a2 a3 a4 a5 a6 m met:PV) :
  ev (JI (iv 0) (iv c.args.length) (aV c.args) a1 a2 a3 a4 a5 a6 (aZ v.datas) (cls v.classes) (its v.insts) m (sv d.name) (strs d.params) (nK d.cons) (strs d.deriv) (iv d.at_) (sv c.name) (aV c.args) (iv c.at_) met)=some (match abx v d c with|some e=>(0,[aZ v.datas,cls v.classes,its v.insts,m,sv d.name,strs d.params,nK d.cons,strs d.deriv,iv d.at_,sv c.name,aV c.args,iv c.at_,met,iv e,iv c.at_])|none=>(1,[aZ v.datas,cls v.classes,its v.insts,m,sv d.name,strs d.params,nK d.cons,strs d.deriv,iv d.at_,sv c.name,aV c.args,iv c.at_,met,a1,a2,a3,a4,a5,a6])):=by
 obtain⟨d1,d2,d3⟩:=hv.dc d hd;obtain⟨c1,c2⟩:=d3 c hc;have h:=eX c.args (fun _ t=>kr v d.params t) (fun k=>JI (iv k) (iv c.args.length) (aV c.args) a1 a2 a3 a4 a5 a6 (aZ v.datas) (cls v.classes) (its v.insts) m (sv d.name) (strs d.params) (nK d.cons) (strs d.deriv) (iv d.at_) (sv c.name) (aV c.args) (iv c.at_) met) (1,[aZ v.datas,cls v.classes,its v.insts,m,sv d.name,strs d.params,nK d.cons,strs d.deriv,iv d.at_,sv c.name,aV c.args,iv c.at_,met,a1,a2,a3,a4,a5,a6]) (fun e=>(0,[aZ v.datas,cls v.classes,its v.insts,m,sv d.name,strs d.params,nK d.cons,strs d.deriv,iv d.at_,sv c.name,aV c.args,iv c.at_,met,iv e,iv c.at_]))
  (fun k t ht hk _=>by
   rw[UB];have hr:=R6 v hv.d d.params d2 t (c2 t (List.mem_of_getElem? ht));simp[lG ht,hk,hr,aO hk c1,cK,bQ];unfold kr;by_cases hq:jL v d.params t=0<;>simp[hq])
  (fun _=>by rw[UB];simp)
 simp at h;rw[h];unfold abx;cases fe (fun _ t=>kr v d.params t) c.args 0<;>rfl
theorem asI(d:Dt)(hd:d∈v.datas)(met:List ByteArray)(a b c0 m:PV) :
  ev (JJ (iv 0) (iv d.cons.length) (nK d.cons) a b c0 (wF met) (aZ v.datas) (cls v.classes) (its v.insts) m (sv d.name) (strs d.params) (nK d.cons) (strs d.deriv) (iv d.at_))=some (match lW (G7 v d) d.cons 0 met with | .ok met'=>(1,[wF met',aZ v.datas,cls v.classes,its v.insts,m,sv d.name,strs d.params,nK d.cons,strs d.deriv,iv d.at_,a,b,c0]) | .error (f,met')=>(0,[wF met',aZ v.datas,cls v.classes,its v.insts,m,sv d.name,strs d.params,nK d.cons,strs d.deriv,iv d.at_,iv f.1,iv f.2])):=by
 obtain⟨d1,d2,d3⟩:=hv.dc d hd;have hN:d.cons.length≤aW:=by unfold aW;omega
 have h:=KP d.cons (G7 v d) (fun j met=>JJ (iv j) (iv d.cons.length) (nK d.cons) a b c0 (wF met) (aZ v.datas) (cls v.classes) (its v.insts) m (sv d.name) (strs d.params) (nK d.cons) (strs d.deriv) (iv d.at_))
  (fun met'=>(1,[wF met',aZ v.datas,cls v.classes,its v.insts,m,sv d.name,strs d.params,nK d.cons,strs d.deriv,iv d.at_,a,b,c0])) (fun e=>(0,[wF e.2,aZ v.datas,cls v.classes,its v.insts,m,sv d.name,strs d.params,nK d.cons,strs d.deriv,iv d.at_,iv e.1.1,iv e.1.2])) (fun _ _=>True)
  (fun j met c hc hj _=>by
   have hmem:=List.mem_of_getElem? hc;have ha:=as1 hv d hd c hmem (iv j) (iv d.cons.length) (nK d.cons) a b c0 m (wF (met++[c.name]));unfold G7;cases hm:mem met c.name with
   |true=>rw[if_pos rfl,zm];simp[zk hc,hj,ql,hm,bQ]
   |false=>
    rw[if_neg (by simp)];have hu:=fun kk=>Xq (β:=bG) (d:=.fail) (k:=kk) met c.name hm
    by_cases h60:60<(c.args.length:Int)
    ·have h60':¬(c.args.length:Int)≤60:=by omega
     rw[if_pos h60,zm];simp[zk hc,hj,ql,hm,cK,bQ,hu,h60']
    ·have h60':(c.args.length:Int)≤60:=by omega
     rw[if_neg h60];cases hA:abx v d c with
     |some e=>rw[hA] at ha;simp only;rw[zm];simp[zk hc,hj,ql,hm,cK,bQ,hu,h60',ha]
     |none=>rw[hA] at ha;simp only;refine⟨trivial,?_⟩;rw[zm];simp[zk hc,hj,ql,hm,cK,bQ,hu,h60',ha,aO hj hN])
  (fun met _=>by rw[zm];simp)
  met trivial
 simp at h;rw[h];cases lW (G7 v d) d.cons 0 met with
 |ok m=>rfl
 |error e=>obtain⟨f,m⟩:=e;rfl
theorem aly(m:PV):ev (CU (iv 0) (iv v.datas.length) (aZ v.datas) (wF []) (aZ v.datas) (cls v.classes) (its v.insts) m)=some (match F5 v with | .ok met=>(1,[wF met,aZ v.datas,cls v.classes,its v.insts,m]) | .error (f,met)=>(0,[wF met,aZ v.datas,cls v.classes,its v.insts,m,iv f.1,iv f.2])):=by
 have h:=KP v.datas (K4 v) (fun i met=>CU (iv i) (iv v.datas.length) (aZ v.datas) (wF met) (aZ v.datas) (cls v.classes) (its v.insts) m)
  (fun met=>(1,[wF met,aZ v.datas,cls v.classes,its v.insts,m])) (fun e=>(0,[wF e.2,aZ v.datas,cls v.classes,its v.insts,m,iv e.1.1,iv e.1.2])) (fun _ _=>True)
  (fun i met d hd hi _=>by
   have hmem:=List.mem_of_getElem? hd;have hp:=aqp hv d hmem (iv i) (iv v.datas.length) (aZ v.datas) (wF met) m;have hc:=asI hv d hmem met (iv i) (iv v.datas.length) (aZ v.datas) m;unfold K4;cases hP:acY d with
   |some f=>rw[hP] at hp;simp only;rw[zn];simp[iD hd,hi,hp]
   |none=>
    rw[hP] at hp;simp only;cases hr:lW (G7 v d) d.cons 0 met with
    |error e=>obtain⟨f,m'⟩:=e;rw[hr] at hc;simp only;rw[zn];simp[iD hd,hi,hp,hc]
    |ok m'=>rw[hr] at hc;simp only;refine⟨trivial,?_⟩;rw[zn];simp[iD hd,hi,hp,hc,aO hi hv.d])
  (fun met _=>by rw[zn];simp)
  [] trivial
 simp at h;rw[h];unfold F5;cases lW (K4 v) v.datas 0 [] with
 |ok m=>rfl
 |error e=>obtain⟨f,m⟩:=e;rfl
theorem afP(m:PV):ev (ajH (aZ v.datas) (cls v.classes) (its v.insts) m)=some (match pK v with|some (e,a)=>(1,[aZ v.datas,cls v.classes,its v.insts,m,iv e,iv a])|none=>(0,[aZ v.datas,cls v.classes,its v.insts,m])):=by
 refine aS.of ?_;rw[aq0];have ha:=alz hv m;have hb:=aly hv m;rw[Uk] at hb;unfold pK;cases hA:AU v with
 |some f=>obtain⟨e,x⟩:=f;rw[hA] at ha;simp[ha]
 |none=>
  rw[hA] at ha;cases hB:F5 v with
  |ok m=>rw[hB] at hb;simp[ha,hb]
  |error e=>obtain⟨⟨e,x⟩,m⟩:=e;rw[hB] at hb;simp[ha,hb]
end
end Go.Proofs.YtfphhabaeggenaaGreatDoor.C
namespace Go.Proofs.YtfphhabaeggenaaGreatDoor.C
open Go.RowKit
def O5(v:Ev)(i:Nat)(c:Cl):Option wD:=if(v.classes.take i).any (gI c.name)=true then some (120,c.at_) else none
def Rj(v:Ev):Option wD:=fe (O5 v) v.classes 0
def LZ(v:Ev)(c:Cl)(k:Nat)(s:ByteArray):Option wD:=if v.classes.any (gI s)=true then(if mem (c.supers.take k) s=true then some (120,c.at_) else none) else some (121,c.at_)
def Jm(v:Ev)(c:Cl):Option wD:=fe (LZ v c) c.supers 0
def Ri(v:Ev):Option wD:=fe (fun _ c=>Jm v c) v.classes 0
def Rh(v:Ev)(n:Nat):Option wD:=fe (fun _ c=>if mem (WU v n c.name) c.name=true then some ((124:Int),c.at_) else none) v.classes 0
def adf(v:Ev)(c:Cl)(m:Md):Option Int:=if jL v [c.var] m.t=0 then(if Cs m.t=true then none else some 123) else some (jL v [c.var] m.t)
def GY(v:Ev)(c:Cl)(_:Nat)(known:List ByteArray)(m:Md):Except (wD×List ByteArray) (List ByteArray):=
 if mem known m.name=true then .error ((120,m.at_),known) else match adf v c m with
  |some e=>.error ((e,m.at_),known++[m.name])
  |none=>.ok (known++[m.name])
def O4(v:Ev)(_:Nat)(known:List ByteArray)(c:Cl):Except (wD×List ByteArray) (List ByteArray):=match lW (GY v c) c.methods 0 known with
 |.error e=>.error e
 |.ok k=>match xY c c.defaults with
  |some f=>.error (f,k)
  |none=>.ok k
def Rc(v:Ev):Except (wD×List ByteArray) (List ByteArray):=lW (O4 v) v.classes 0 []
def jg(v:Ev)(n:Nat):Option wD:=match Rj v with
 |some f=>some f
 |none=>match Ri v with
  |some f=>some f
  |none=>match Rh v n with
   |some f=>some f
   |none=>match Rc v with
    |.error (f,_)=>some f
    |.ok _=>none
end Go.Proofs.YtfphhabaeggenaaGreatDoor.C
namespace Go.Proofs.YtfphhabaeggenaaGreatDoor.C
open Go.RowKit
section
variable{v:Ev}{U:List ByteArray}{n:Nat}(hB:Big v U n)(hv:Fit v)
include hB hv
theorem asU(m:PV):ev (CS (iv 0) (iv v.classes.length) (cls v.classes) (cls v.classes) (aZ v.datas) (cls v.classes) (its v.insts) m)=some (match Rj v with|some (e,a)=>(0,[aZ v.datas,cls v.classes,its v.insts,m,iv e,iv a])|none=>(1,[aZ v.datas,cls v.classes,its v.insts,m,cls v.classes])):=by
 have h:=eX v.classes (O5 v) (fun i=>CS (iv i) (iv v.classes.length) (cls v.classes) (cls v.classes) (aZ v.datas) (cls v.classes) (its v.insts) m) (1,[aZ v.datas,cls v.classes,its v.insts,m,cls v.classes]) (fun f=>(0,[aZ v.datas,cls v.classes,its v.insts,m,iv f.1,iv f.2]))
  (fun i c hc hi _=>by
   rw[Kr];have hf:=aaq (v.classes.take i) (by rw[List.length_take];exact Nat.le_trans (Nat.min_le_right ..) hv.c) c;rw[pI] at hf;unfold O5;cases hm:(v.classes.take i).any (gI c.name)<;>rw[hm] at hf<;>simp[eu hc,hi,XH (Nat.le_of_lt hi),hf,bQ,cK,aO hi hv.c])
  (fun _=>by rw[Kr];simp)
 simp at h;rw[h];unfold Rj;cases fe (O5 v) v.classes 0<;>rfl
theorem aiL(c:Cl)(hc:c∈v.classes)(o1 o2 o3 o4 m:PV):ev (JH (iv 0) (iv c.supers.length) (strs c.supers) o1 o2 o3 o4 (aZ v.datas) (cls v.classes) (its v.insts) m (sv c.name) (sv c.var) (strs c.supers) (jb c.methods) (bg c.defaults) (iv c.at_))=some (match Jm v c with|some f=>(0,[aZ v.datas,cls v.classes,its v.insts,m,sv c.name,sv c.var,strs c.supers,jb c.methods,bg c.defaults,iv c.at_,iv f.1,iv f.2])|none=>(1,[aZ v.datas,cls v.classes,its v.insts,m,sv c.name,sv c.var,strs c.supers,jb c.methods,bg c.defaults,iv c.at_,o1,o2,o3,o4])):=by
 obtain⟨c1,c2,c3⟩:=hv.cm c hc;have h:=eX c.supers (LZ v c) (fun k=>JH (iv k) (iv c.supers.length) (strs c.supers) o1 o2 o3 o4 (aZ v.datas) (cls v.classes) (its v.insts) m (sv c.name) (sv c.var) (strs c.supers) (jb c.methods) (bg c.defaults) (iv c.at_)) (1,[aZ v.datas,cls v.classes,its v.insts,m,sv c.name,sv c.var,strs c.supers,jb c.methods,bg c.defaults,iv c.at_,o1,o2,o3,o4]) (fun f=>(0,[aZ v.datas,cls v.classes,its v.insts,m,sv c.name,sv c.var,strs c.supers,jb c.methods,bg c.defaults,iv c.at_,iv f.1,iv f.2]))
  (fun k s hs hk _=>by
   rw[UA];have h1:=wu v hv.c s;rw[pI] at h1;have h2:=iG (c.supers.take k) (by rw[List.length_take];omega) s;unfold LZ;cases hA:v.classes.any (gI s) with
   |false=>rw[hA] at h1;simp[bq hs,hk,h1,bQ]
   |true=>
    rw[hA] at h1;cases hm:mem (c.supers.take k) s<;>rw[hm] at h2<;>simp[bq hs,hk,h1,Hy (Nat.le_of_lt hk),h2,cK,bQ,aO hk c2])
  (fun _=>by rw[UA];simp)
 simp at h;rw[h];unfold Jm;cases fe (LZ v c) c.supers 0<;>rfl
theorem asT(m:PV):ev (CR (iv 0) (iv v.classes.length) (cls v.classes) (cls v.classes) (aZ v.datas) (cls v.classes) (its v.insts) m)=some (match Ri v with|some (e,a)=>(0,[aZ v.datas,cls v.classes,its v.insts,m,iv e,iv a])|none=>(1,[aZ v.datas,cls v.classes,its v.insts,m,cls v.classes])):=by
 have h:=eX v.classes (fun _ c=>Jm v c) (fun i=>CR (iv i) (iv v.classes.length) (cls v.classes) (cls v.classes) (aZ v.datas) (cls v.classes) (its v.insts) m) (1,[aZ v.datas,cls v.classes,its v.insts,m,cls v.classes]) (fun f=>(0,[aZ v.datas,cls v.classes,its v.insts,m,iv f.1,iv f.2]))
  (fun i c hc hi _=>by
   rw[Kq];have hs:=aiL hB hv c (List.mem_of_getElem? hc) (iv i) (iv v.classes.length) (cls v.classes) (cls v.classes) m;cases hF:Jm v c with
   |none=>rw[hF] at hs;simp only at hs;simp[eu hc,hi,hs,aO hi hv.c]
   |some f=>rw[hF] at hs;simp only at hs;simp[eu hc,hi,hs])
  (fun _=>by rw[Kq];simp)
 simp at h;rw[h];unfold Ri;cases fe (fun _ c=>Jm v c) v.classes 0<;>rfl
theorem asS(m:PV):ev (CQ (iv 0) (iv v.classes.length) (cls v.classes) (cls v.classes) (aZ v.datas) (cls v.classes) (its v.insts) m)=some (match Rh v n with|some (e,a)=>(0,[aZ v.datas,cls v.classes,its v.insts,m,iv e,iv a])|none=>(1,[aZ v.datas,cls v.classes,its v.insts,m,cls v.classes])):=by
 have h:=eX v.classes (fun _ c=>if mem (WU v n c.name) c.name=true then some ((124:Int),c.at_) else none) (fun i=>CQ (iv i) (iv v.classes.length) (cls v.classes) (cls v.classes) (aZ v.datas) (cls v.classes) (its v.insts) m) (1,[aZ v.datas,cls v.classes,its v.insts,m,cls v.classes]) (fun f=>(0,[aZ v.datas,cls v.classes,its v.insts,m,iv f.1,iv f.2]))
  (fun i c hc hi _=>by
   rw[Ko];have ha:=Vn hB.s n c.name hB.c hB.m;have hm:=iG (WU v n c.name) (hB.len c.name) c.name;unfold WU at hm ⊢;cases hq:mem (jR v (n+1) [] c.name) c.name<;>rw[hq] at hm<;>simp[eu hc,hi,ha,hm,cK,bQ,aO hi hv.c])
  (fun _=>by rw[Ko];simp)
 simp at h;rw[h];unfold Rh;cases fe (fun _ c=>if mem (WU v n c.name) c.name=true then some ((124:Int),c.at_) else none) v.classes 0<;>rfl
theorem aqI(c:Cl)(hc:c∈v.classes)(met:List ByteArray)(a b o3 m:PV) :
  ev (Ej (iv 0) (iv c.methods.length) (jb c.methods) a b o3 (wF met) (aZ v.datas) (cls v.classes) (its v.insts) m (sv c.name) (sv c.var) (strs c.supers) (jb c.methods) (bg c.defaults) (iv c.at_))=some (match lW (GY v c) c.methods 0 met with | .ok met'=>(1,[wF met',aZ v.datas,cls v.classes,its v.insts,m,sv c.name,sv c.var,strs c.supers,jb c.methods,bg c.defaults,iv c.at_,a,b,o3]) | .error (f,met')=>(0,[wF met',aZ v.datas,cls v.classes,its v.insts,m,sv c.name,sv c.var,strs c.supers,jb c.methods,bg c.defaults,iv c.at_,iv f.1,iv f.2])):=by
 obtain⟨c1,c2,c3⟩:=hv.cm c hc;have hN:c.methods.length≤aW:=by unfold aW;omega
 have h:=KP c.methods (GY v c) (fun j met=>Ej (iv j) (iv c.methods.length) (jb c.methods) a b o3 (wF met) (aZ v.datas) (cls v.classes) (its v.insts) m (sv c.name) (sv c.var) (strs c.supers) (jb c.methods) (bg c.defaults) (iv c.at_))
  (fun met'=>(1,[wF met',aZ v.datas,cls v.classes,its v.insts,m,sv c.name,sv c.var,strs c.supers,jb c.methods,bg c.defaults,iv c.at_,a,b,o3])) (fun e=>(0,[wF e.2,aZ v.datas,cls v.classes,its v.insts,m,sv c.name,sv c.var,strs c.supers,jb c.methods,bg c.defaults,iv c.at_,iv e.1.1,iv e.1.2])) (fun _ _=>True)
  (fun j met x hx hj _=>by
   obtain⟨c4,c5⟩:=c3 x (List.mem_of_getElem? hx);have hr:=R6 v hv.d [c.var] (by simp[aW]) x.t c4;rw[show strs [c.var]=.rows [[sv c.var]] from rfl] at hr;have hvr:=aqU x.t c4;unfold GY;cases hm:mem met x.name with
   |true=>rw[if_pos rfl,uX];simp[ny hx,hj,ql,hm,bQ]
   |false=>
    rw[if_neg (by simp)];have hu:=fun kk=>Xq (β:=bG) (d:=.fail) (k:=kk) met x.name hm
    unfold adf;by_cases hR:jL v [c.var] x.t=0
    ·rw[hR] at hr
     cases hV:Cs x.t with
     |false=>rw[hV] at hvr;simp only[hR,hV,if_true,if_false,Bool.false_eq_true];rw[uX];simp[ny hx,hj,ql,hm,cK,bQ,hu,hr,hR,hvr]
     |true=>rw[hV] at hvr;simp only[hR,hV,if_true];refine⟨trivial,?_⟩;rw[uX];simp[ny hx,hj,ql,hm,cK,bQ,hu,hr,hR,hvr,aO hj hN]
    ·simp only[hR,if_false];rw[uX];simp[ny hx,hj,ql,hm,cK,bQ,hu,hr,hR])
  (fun met _=>by rw[uX];simp)
  met trivial
 simp at h;rw[h];cases lW (GY v c) c.methods 0 met with
 |ok m=>rfl
 |error e=>obtain⟨f,m⟩:=e;rfl
theorem asR(m:PV):ev (CP (iv 0) (iv v.classes.length) (cls v.classes) (wF []) (aZ v.datas) (cls v.classes) (its v.insts) m)=some (match Rc v with | .ok met=>(1,[wF met,aZ v.datas,cls v.classes,its v.insts,m]) | .error (f,met)=>(0,[wF met,aZ v.datas,cls v.classes,its v.insts,m,iv f.1,iv f.2])):=by
 have h:=KP v.classes (O4 v) (fun i met=>CP (iv i) (iv v.classes.length) (cls v.classes) (wF met) (aZ v.datas) (cls v.classes) (its v.insts) m)
  (fun met=>(1,[wF met,aZ v.datas,cls v.classes,its v.insts,m])) (fun e=>(0,[wF e.2,aZ v.datas,cls v.classes,its v.insts,m,iv e.1.1,iv e.1.2])) (fun _ _=>True)
  (fun i met c hc hi _=>by
   have hmem:=List.mem_of_getElem? hc;obtain⟨m1,m2⟩:=hv.m c hmem;have hp:=aqI hB hv c hmem met (iv i) (iv v.classes.length) (cls v.classes) m;have hbd:=U7 c c.defaults (by unfold aW;omega) (by unfold aW;omega) (aZ v.datas) (cls v.classes) (its v.insts) m;unfold O4;cases hr:lW (GY v c) c.methods 0 met with
   |error e=>obtain⟨f,m'⟩:=e;rw[hr] at hp;simp only at hp ⊢;rw[zl];simp[eu hc,hi,hp]
   |ok m'=>
    rw[hr] at hp;simp only at hp ⊢;cases hF:xY c c.defaults with
    |some f=>obtain⟨e,a⟩:=f;rw[hF] at hbd;simp only at hbd ⊢;rw[zl];simp[eu hc,hi,hp,hbd]
    |none=>rw[hF] at hbd;simp only at hbd ⊢;refine⟨trivial,?_⟩;rw[zl];simp[eu hc,hi,hp,hbd,aO hi hv.c])
  (fun met _=>by rw[zl];simp)
  [] trivial
 simp at h;rw[h];unfold Rc;cases lW (O4 v) v.classes 0 [] with
 |ok m=>rfl
 |error e=>obtain⟨f,m⟩:=e;rfl
theorem WG(m:PV):ev (ajG (aZ v.datas) (cls v.classes) (its v.insts) m)=some (match jg v n with|some (e,a)=>(1,[aZ v.datas,cls v.classes,its v.insts,m,iv e,iv a])|none=>(0,[aZ v.datas,cls v.classes,its v.insts,m])):=by
 refine aS.of ?_;rw[aqZ];have ha:=asU hB hv m;have hb:=asT hB hv m;have hc:=asS hB hv m;have hd:=asR hB hv m;rw[Uk] at hd;unfold jg;cases hA:Rj v with
 |some f=>obtain⟨e,x⟩:=f;rw[hA] at ha;simp only at ha;simp[ha]
 |none=>
  rw[hA] at ha;simp only at ha;cases hBB:Ri v with
  |some f=>obtain⟨e,x⟩:=f;rw[hBB] at hb;simp only at hb;simp[ha,hb]
  |none=>
   rw[hBB] at hb;simp only at hb;cases hC:Rh v n with
   |some f=>obtain⟨e,x⟩:=f;rw[hC] at hc;simp only at hc;simp[ha,hb,hc]
   |none=>
    rw[hC] at hc;simp only at hc;cases hD:Rc v with
    |ok m=>rw[hD] at hd;simp only at hd;simp[ha,hb,hc,hd]
    |error e=>obtain⟨⟨e,x⟩,m⟩:=e;rw[hD] at hd;simp only at hd;simp[ha,hb,hc,hd]
end
end Go.Proofs.YtfphhabaeggenaaGreatDoor.C
namespace Go.Proofs.YtfphhabaeggenaaGreatDoor.C
open Go.RowKit
theorem Wq{α ε:Type}(l:List α)(e:Nat→α→Option ε)(q:Nat→Q)(r0:Rs)(rf:PV→ε→Rs)
  (step:∀i a,l[i]? = some a→i<l.length→match e i a with|some x=>∃m,body PG EE TT ev (q i)=.ok (rf m x)|none=>body PG EE TT ev (q i)=tL (ev (q (i+1))))
  (done:body PG EE TT ev (q l.length)=.ok r0):match fe e l 0 with|some x=>∃m,ev (q 0)=some (rf m x)|none=>ev (q 0)=some r0:=by
 have key:∀(m i:Nat),l.length-i=m→i≤l.length→match fe e (l.drop i) i with|some x=>∃m,ev (q i)=some (rf m x)|none=>ev (q i)=some r0:=by
  intro m
  induction m with
  |zero=>
   intro i hm hi;have:i=l.length:=by omega
   subst this;rw[List.drop_length,fe];exact aS.of done
  |succ m ih=>
   intro i hm hi;have hlt:i<l.length:=by omega
   have h1:=step i _ (List.getElem?_eq_getElem hlt) hlt;have h2:=ih (i+1) (by omega) (by omega);rw[List.drop_eq_getElem_cons hlt,fe];cases hg:e i l[i] with
   |some x=>
    rw[hg] at h1;obtain⟨m,hm⟩:=h1;exact⟨m,aS.of hm⟩
   |none=>
    rw[hg] at h1;simp only at h1 ⊢;cases hf:fe e (l.drop (i+1)) (i+1) with
    |some x=>
     rw[hf] at h2;obtain⟨m,hm⟩:=h2;exact⟨m,aS.of (by rw[h1,hm];rfl)⟩
    |none=>
     rw[hf] at h2;exact aS.of (by rw[h1,h2];rfl)
 simpa using key l.length 0 rfl (Nat.zero_le _)
theorem uD{α σ ε:Type}{g:Nat→σ→α→Except ε σ}:∀{l:List α} {i:Nat} {s:σ} {e:ε},lW g l i s=.error e→∃j s a,a∈l∧g j s a=.error e
 |[],_,_,_,h=>by cases h
 |a::l,i,s,e,h=>by
  rw[lW] at h;cases hg:g i s a with
  |ok s'=>
   rw[hg] at h;obtain⟨j,s1,b,h1,h2⟩:=uD h;exact⟨j,s1,b,List.mem_cons_of_mem _ h1,h2⟩
  |error e'=>rw[hg] at h;cases h;exact⟨i,s,a,List.mem_cons_self ..,hg⟩
theorem VQ{v:Ev}{l:List ByteArray}{t:Ty}{e:Int}(h:kr v l t=some e):e≠0:=by
 unfold kr at h;split at h
 ·cases h
 ·rename_i h0;cases h;exact h0
theorem Ww{v:Ev}{f:wD}(h:pK v=some f):f.1≠0:=by
 unfold pK at h;split at h
 ·rename_i f' hA
  cases h;obtain⟨j,d,_,h2⟩:=iO hA;unfold Wx at h2;split at h2
  ·cases h2;simp
  ·split at h2<;>cases h2
   simp
 ·split at h
  ·rename_i f' m hB
   cases h;obtain⟨j,s,d,_,h2⟩:=uD hB;unfold K4 at h2;split at h2
   ·rename_i f2 hP
    cases h2;obtain⟨j,p,_,h3⟩:=iO hP;unfold YK at h3;split at h3<;>cases h3;simp
   ·obtain⟨j,s,c,_,h3⟩:=uD h2
    unfold G7 at h3;split at h3
    ·cases h3;simp
    ·split at h3
     ·cases h3;simp
     ·split at h3
      ·rename_i e hA
       cases h3;obtain⟨j,t,_,h4⟩:=iO hA;exact VQ h4
      ·cases h3
  ·cases h
theorem O6{v:Ev}{n:Nat}{f:wD}(h:jg v n=some f):f.1≠0:=by
 unfold jg at h;split at h
 ·rename_i f' hA
  cases h;obtain⟨j,d,_,h2⟩:=iO hA;unfold O5 at h2;split at h2<;>cases h2;simp
 ·split at h
  ·rename_i f' hA
   cases h;obtain⟨j,c,_,h2⟩:=iO hA;obtain⟨j,s,_,h3⟩:=iO h2;unfold LZ at h3;split at h3
   ·split at h3<;>cases h3
    simp
   ·cases h3;simp
  ·split at h
   ·rename_i f' hA
    cases h;obtain⟨j,c,_,h2⟩:=iO hA;split at h2<;>cases h2;simp
   ·split at h
    ·rename_i f' m hB
     cases h;obtain⟨j,s,c,_,h2⟩:=uD hB;unfold O4 at h2;split at h2
     ·rename_i e hE
      cases h2;obtain⟨j,s,m,_,h3⟩:=uD hE;unfold GY at h3;split at h3
      ·cases h3;simp
      ·split at h3
       ·rename_i e hM
        cases h3;unfold adf at hM;split at hM
        ·split at hM<;>cases hM
         simp
        ·rename_i h0;cases hM;exact h0
       ·cases h3
     ·split at h2
      ·rename_i f2 hF
       cases h2;exact I4 hF
      ·cases h2
    ·cases h
theorem ZK{v:Ev}{i:Nat}{x:It}{f:wD}(h:jc v i x=some f):f.1≠0:=by
 unfold jc at h;split at h
 ·cases h;simp
 ·split at h
  ·cases h
  ·unfold nV at h
   split at h
   ·rename_i e hE;cases h;exact ZO hE
   ·split at h
    ·cases h;simp
    ·split at h
     ·rename_i e hE;cases h;exact afT hE
     ·split at h
      ·rename_i f' hF;cases h;exact I4 hF
      ·split at h<;>cases h
       simp
def Cq(v:Ev):Option wD:=fe (jc v) v.insts 0
def LY(v:Ev)(n:Nat)(x:It):Option wD:=match fO (gI x.cls) v.classes 0 with
 |none=>none
 |some k=>match v.classes[k]? with
  |none=>none
  |some c=>if(fe (Jl v n x) c.supers 0).isSome=true then some (126,x.at_) else none
def L6(v:Ev)(n:Nat):Option wD:=fe (fun _ x=>LY v n x) v.insts 0
def Le(v:Ev)(l:List Bd)(i:Nat)(b:Bd):Option wD:=if(mth v b.name).isSome=true then some (120,b.at_) else if(l.take i).any (jO b.name)=true then some (120,b.at_) else none
def qO(v:Ev)(l:List Bd):Option wD:=fe (Le v l) l 0
def bF(v:Ev)(n:Nat)(l:List Bd):Option wD:=match pK v with
 |some f=>some f
 |none=>match jg v n with
  |some f=>some f
  |none=>match Cq v with
   |some f=>some f
   |none=>match L6 v n with
    |some f=>some f
    |none=>qO v l
theorem AY{v:Ev}{n:Nat}{l:List Bd}{f:wD}(h:bF v n l=some f):f.1≠0:=by
 unfold bF at h;split at h
 ·rename_i f' hA;cases h;exact Ww hA
 ·split at h
  ·rename_i f' hA;cases h;exact O6 hA
  ·split at h
   ·rename_i f' hA
    cases h;obtain⟨j,x,_,h2⟩:=iO hA;exact ZK h2
   ·split at h
    ·rename_i f' hA
     cases h;obtain⟨j,x,_,h2⟩:=iO hA;unfold LY at h2;split at h2
     ·cases h2
     ·split at h2
      ·cases h2
      ·split at h2<;>cases h2
       simp
    ·obtain⟨j,b,_,h2⟩:=iO h
     unfold Le at h2;split at h2
     ·cases h2;simp
     ·split at h2<;>cases h2
      simp
theorem akv{v:Ev}(h:Cq v=none):∀i x,v.insts[i]? = some x→jc v i x=none:=fun i x hx=>by
 have:=sP h i x hx;simpa using this
section
variable{v:Ev}{U:List ByteArray}{n:Nat}(hB:Big v U n)(hv:Fit v)(l:List Bd)(hl:l.length≤1000000000)
include hB hv hl
omit hB hl in
theorem asL:aiq v.classes:=⟨hv.c,fun c hc=>by have:=(hv.m c hc).1;unfold aW;omega⟩
omit hB in
theorem aqT:match Cq v with
  |some (e,a)=>∃m,ev (yM (iv 0) (iv v.insts.length) (bg l) (aZ v.datas) (cls v.classes) (its v.insts) (.rows []))=some (0,[aZ v.datas,cls v.classes,its v.insts,m,iv 0,iv 0,iv e,iv a])
  |none=>ev (yM (iv 0) (iv v.insts.length) (bg l) (aZ v.datas) (cls v.classes) (its v.insts) (.rows []))=some (1,[aZ v.datas,cls v.classes,its v.insts,xG (iH v.insts 0),iv 0,iv 0,bg l]):=by
 have h:=Wq v.insts (jc v) (fun i=>yM (iv i) (iv v.insts.length) (bg l) (aZ v.datas) (cls v.classes) (its v.insts) (xG (iH (v.insts.take i) 0))) (1,[aZ v.datas,cls v.classes,its v.insts,xG (iH v.insts 0),iv 0,iv 0,bg l]) (fun m f=>(0,[aZ v.datas,cls v.classes,its v.insts,m,iv 0,iv 0,iv f.1,iv f.2]))
  (fun i x hx hi=>by
   have hin:=ZJ v hv.toalS i x hx;cases hF:jc v i x with
   |none=>rw[hF] at hin;simp only at hin ⊢;rw[Dl];simp[hi,hin,aO hi hv.i]
   |some f=>
    obtain⟨e,a⟩:=f;rw[hF] at hin;simp only at hin ⊢;obtain⟨m,hm⟩:=hin;refine⟨m,?_⟩;rw[Dl];simp[hi,hm])
  (by rw[Dl];simp)
 unfold Cq;cases hF:fe (jc v) v.insts 0 with
 |none=>rw[hF] at h;exact h
 |some f=>rw[hF] at h;exact h
omit hl in
theorem aiJ(hok:∀i x,v.insts[i]? = some x→jc v i x=none):ev (CX (iv 0) (iv v.insts.length) (its v.insts) (bg l) (aZ v.datas) (cls v.classes) (its v.insts) (xG (iH v.insts 0)))=some (match L6 v n with|some (e,at_)=>(0,[aZ v.datas,cls v.classes,its v.insts,xG (iH v.insts 0),iv 0,iv 0,iv e,iv at_])|none=>(1,[aZ v.datas,cls v.classes,its v.insts,xG (iH v.insts 0),iv 0,iv 0,bg l])):=by
 have h:=eX v.insts (fun _ x=>LY v n x) (fun i=>CX (iv i) (iv v.insts.length) (its v.insts) (bg l) (aZ v.datas) (cls v.classes) (its v.insts) (xG (iH v.insts 0))) (1,[aZ v.datas,cls v.classes,its v.insts,xG (iH v.insts 0),iv 0,iv 0,bg l]) (fun f=>(0,[aZ v.datas,cls v.classes,its v.insts,xG (iH v.insts 0),iv 0,iv 0,iv f.1,iv f.2]))
  (fun i x hx hi _=>by
   rw[Ky];obtain⟨k,c,h1,h2⟩:=O7 (hok i x hx);have hs:=amt hB hv.toalS hok x hx h1 h2 (hv.cm c (List.mem_of_getElem? h2)).2.1;unfold LY;rw[h1];simp only[h2];cases hq:fe (Jl v n x) c.supers 0 with
   |none=>rw[hq] at hs;simp at hs;simp[fZ hx,hi,hs,aO hi hv.i]
   |some u=>rw[hq] at hs;simp at hs;simp[fZ hx,hi,hs])
  (fun _=>by rw[Ky];simp)
 simp at h;rw[h];unfold L6;cases fe (fun _ x=>LY v n x) v.insts 0<;>rfl
omit hB in
theorem alJ(m:PV):ev (CW (iv 0) (iv l.length) (bg l) (bg l) (aZ v.datas) (cls v.classes) (its v.insts) m)=some (match qO v l with|some (e,at_)=>(0,[aZ v.datas,cls v.classes,its v.insts,m,iv 0,iv 0,iv e,iv at_])|none=>(1,[aZ v.datas,cls v.classes,its v.insts,m,iv 0,iv 0])):=by
 have hlN:l.length≤aW:=by unfold aW;omega
 have h:=eX l (Le v l) (fun i=>CW (iv i) (iv l.length) (bg l) (bg l) (aZ v.datas) (cls v.classes) (its v.insts) m) (1,[aZ v.datas,cls v.classes,its v.insts,m,iv 0,iv 0]) (fun f=>(0,[aZ v.datas,cls v.classes,its v.insts,m,iv 0,iv 0,iv f.1,iv f.2]))
  (fun i y hy hi _=>by
   rw[Kv];have hm:=Zc v (asL hv) y.name;have hf:=aas (l.take i) (by rw[List.length_take];omega) y;rw[pI] at hf;unfold Le;cases hM:mth v y.name with
   |some p=>
    obtain⟨j,k⟩:=p;rw[hM] at hm;simp only at hm;cases hA:(l.take i).any (jO y.name)<;>rw[hA] at hf<;>simp[nC hy,hi,hm,uy (Nat.le_of_lt hi),hf,bQ]
   |none=>
    rw[hM] at hm;simp only at hm;cases hA:(l.take i).any (jO y.name)<;>rw[hA] at hf<;>simp[nC hy,hi,hm,uy (Nat.le_of_lt hi),hf,bQ,cK,aO hi hlN])
  (fun _=>by rw[Kv];simp)
 simp at h;rw[h];unfold qO;cases fe (Le v l) l 0<;>rfl
theorem agE:∃m,ev (ajJ (bg l) (aZ v.datas) (cls v.classes) (its v.insts) (.rows []))=some (0,[aZ v.datas,cls v.classes,its v.insts,m]++match bF v n l with|some (e,a)=>[iv e,iv a]|none=>[iv 0,iv 0]):=by
 have h1:=afP hv (.rows []);have h2:=WG hB hv (.rows []);have h3:=aqT hv l hl;unfold bF;cases hA:pK v with
 |some f=>obtain⟨e,a⟩:=f;rw[hA] at h1;simp only at h1 ⊢;exact⟨_,aS.of (by rw[QJ];simp[h1];rfl)⟩
 |none=>
  rw[hA] at h1;simp only at h1 ⊢;cases hC:jg v n with
  |some f=>obtain⟨e,a⟩:=f;rw[hC] at h2;simp only at h2 ⊢;exact⟨_,aS.of (by rw[QJ];simp[h1,h2];rfl)⟩
  |none=>
   rw[hC] at h2;simp only at h2 ⊢;cases hI:Cq v with
   |some f=>obtain⟨e,a⟩:=f;rw[hI] at h3;simp only at h3 ⊢;obtain⟨m,h3⟩:=h3;exact⟨m,aS.of (by rw[QJ];simp[h1,h2,h3])⟩
   |none=>
    rw[hI] at h3;simp only at h3 ⊢;have h4:=aiJ hB hv l (akv hI);have h5:=alJ hv l hl (xG (iH v.insts 0));cases hS:L6 v n with
    |some f=>obtain⟨e,a⟩:=f;rw[hS] at h4;simp only at h4 ⊢;exact⟨_,aS.of (by rw[QJ];simp[h1,h2,h3,h4];rfl)⟩
    |none=>
     rw[hS] at h4;simp only at h4 ⊢;cases hD:qO v l with
     |some f=>obtain⟨e,a⟩:=f;rw[hD] at h5;simp only at h5 ⊢;exact⟨_,aS.of (by rw[QJ];simp[h1,h2,h3,h4,h5];rfl)⟩
     |none=>rw[hD] at h5;simp only at h5 ⊢;exact⟨_,aS.of (by rw[QJ];simp[h1,h2,h3,h4,h5];rfl)⟩
end
end Go.Proofs.YtfphhabaeggenaaGreatDoor.C
namespace Go.Proofs.YtfphhabaeggenaaGreatDoor.C
open Go.RowKit
set_option linter.all false
def dst(d:Dt):Dt:=⟨d.name,d.params,d.cons,[],d.at_⟩
theorem aau{α ε:Type}{e:Nat→α→Option ε}:∀{l:List α} {i:Nat},(∀j a,l[j]? = some a→e (i+j) a=none)→fe e l i=none
 |[],_,_=>rfl
 |a::l,i,h=>by
  rw[fe];have h0:=h 0 a rfl;rw[Nat.add_zero] at h0;rw[h0];exact aau fun j b hb=>by
   have:=h (j+1) b (by simpa using hb)
   rwa [show i+(j+1)=i+1+j by omega] at this
theorem aav{α β ε:Type}(f:α→β)(e:Nat→β→Option ε):∀(l:List α) (i:Nat),fe e (l.map f) i=fe (fun i a=>e i (f a)) l i
 |[],_=>rfl
 |a::l,i=>by rw[List.map_cons,fe,fe,aav f e l (i+1)]
theorem Mt{α β σ ε:Type}(f:α→β)(g:Nat→σ→β→Except ε σ):∀(l:List α) (i:Nat) (s:σ),lW g (l.map f) i s=lW (fun i s a=>g i s (f a)) l i s
 |[],_,_=>rfl
 |a::l,i,s=>by
  rw[List.map_cons,lW,lW];cases g i s (f a) with
  |ok s'=>exact Mt f g l (i+1) s'
  |error e=>rfl
theorem KG(s:ByteArray):∀(l:List Dt) (i:Nat),fO (lF s) (l.map dst) i=fO (lF s) l i
 |[],_=>rfl
 |a::l,i=>by rw[List.map_cons,fO,fO,KG s l (i+1)];rfl
section
variable{v w:Ev}(hd:w.datas.map dst=v.datas.map dst)
include hd
theorem Gm(s:ByteArray):arity w s=arity v s:=by
 have hf:fO (lF s) w.datas 0=fO (lF s) v.datas 0:=by rw[←KG s w.datas,hd,KG]
 unfold arity;rw[hf];cases fO (lF s) v.datas 0 with
 |none=>rfl
 |some i=>
  have h:(w.datas[i]?).map dst=(v.datas[i]?).map dst:=by rw[←List.getElem?_map,hd,List.getElem?_map]
  have hn:Y8 w i=Y8 v i:=by
   unfold Y8;cases hw:w.datas[i]? with
   |none=>
    cases hv:v.datas[i]? with
    |none=>rfl
    |some b=>rw[hw,hv] at h;cases h
   |some a=>
    cases hv:v.datas[i]? with
    |none=>rw[hw,hv] at h;cases h
    |some b=>
     rw[hw,hv] at h;have h:=Option.some.inj h;have:(dst a).params=(dst b).params:=congrArg Dt.params h;have:a.params=b.params:=this;simp only[this]
  simp only[hn]
omit hd in
mutual
theorem Ah(h:∀s,arity w s=arity v s)(vars:List ByteArray):∀t,jL w vars t=jL v vars t
 |.mk k s n ks=>by rw[jL,jL,h s,H9 h vars ks]
theorem H9(h:∀s,arity w s=arity v s)(vars:List ByteArray):∀l,nM w vars l=nM v vars l
 |[]=>by rw[nM,nM]
 |t::l=>by rw[nM,nM,Ah h vars t,H9 h vars l]
end
theorem VS:kr w=kr v:=by
 funext vars t;unfold kr;rw[Ah (Gm hd)]
omit hd in
theorem F6(v:Ev):AU v=fe (fun i d=>if 0≤wS d.name then some ((120:Int),d.at_) else if((v.datas.map dst).take i).any (lF d.name)=true then some (120,d.at_) else none) (v.datas.map dst) 0:=by
 rw[aav];unfold AU;congr 1;funext i d;unfold Wx;rw[←List.map_take,List.any_map];rfl
omit hd in
theorem F4(v:Ev):F5 v=lW (K4 v) (v.datas.map dst) 0 []:=by rw[Mt];rfl
theorem afQ:K4 w=K4 v:=by
 funext i met d;have h:=VS hd;unfold K4;have hc:G7 w d=G7 v d:=by
  funext j m c;unfold G7 abx;rw[h]
 rw[hc]
theorem IG:pK w=pK v:=by
 unfold pK;rw[F6 w,F6 v,F4 w,F4 v,afQ hd,hd]
variable(hc:w.classes=v.classes)
include hc
omit hd in
theorem Xr:∀(n:Nat) (met:List ByteArray) (c:ByteArray),jR w n met c=jR v n met c
 |0,_,_=>by rw[jR,jR]
 |n+1,met,c=>by
  rw[jR,jR,hc];cases fO (gI c) v.classes 0 with
  |none=>rfl
  |some i=>
   have h1:xg w i=xg v i:=by unfold xg;rw[hc]
   have h2:jR w n=jR v n:=by funext a b;exact Xr n a b
   simp only[h1,h2]
omit hd in
theorem abD(n:Nat)(c:ByteArray):WU w n c=WU v n c:=by unfold WU;exact Xr hc _ _ _
theorem BX(n:Nat):jg w n=jg v n:=by
 have h:=Ah (Gm hd);have h1:Rj w=Rj v:=by
  unfold Rj;have:O5 w=O5 v:=by funext i c;unfold O5;rw[hc]
  rw[this,hc]
 have h2:Ri w=Ri v:=by
  unfold Ri;have:Jm w=Jm v:=by
   funext c;unfold Jm;have:LZ w c=LZ v c:=by funext i s;unfold LZ;rw[hc]
   rw[this]
  rw[this,hc]
 have h3:Rh w n=Rh v n:=by
  unfold Rh;simp only[abD hc,hc]
 have h4:Rc w=Rc v:=by
  unfold Rc;have:O4 w=O4 v:=by
   funext i k c;unfold O4;have:GY w c=GY v c:=by
    funext j k m;unfold GY adf;rw[h]
   rw[this]
  rw[this,hc]
 unfold jg;rw[h1,h2,h3,h4]
theorem NY(x:It):tT w x=tT v x:=by unfold tT;rw[Gm hd]
theorem NV(i:Nat)(x:It)(ht:w.insts.take i=v.insts.take i):jc w i x=jc v i x:=by
 have h1:=NY hd hc x;have h2:K5 w x=K5 v x:=by
  unfold K5;have:K6 w x=K6 v x:=by funext i p;unfold K6;rw[hc]
  rw[this]
 have h3:∀c,nV w i x c=nV v i x c:=fun c=>by unfold nV;rw[h1,h2,ht]
 unfold jc;rw[hc];cases fO (gI x.cls) v.classes 0 with
 |none=>rfl
 |some k=>simp only[h3]
omit hd in
theorem agb(l:List Bd):qO w l=qO v l:=by
 unfold qO;have:Le w l=Le v l:=by funext i b;unfold Le mth;rw[hc]
 rw[this]
theorem zK(hi:w.insts=v.insts)(n:Nat)(l:List Bd):bF w n l=bF v n l:=by
 have h1:=IG hd;have h2:=BX hd hc n;have h3:Cq w=Cq v:=by
  unfold Cq;have:jc w=jc v:=by funext i x;exact NV hd hc i x (by rw[hi])
  rw[this,hi]
 have h4:L6 w n=L6 v n:=by
  have hg:∀x c s,qM w n x c s=qM v n x c s:=fun x c s=>by
   unfold qM;have:qL w n c s=qL v n c s:=by funext p;unfold qL;rw[abD hc]
   rw[this]
  have hs:Jl w n=Jl v n:=by
   funext x i s;unfold Jl;have:GJ w n=GJ v n:=by
    funext x y i p;unfold GJ;have:VB w n x y p=VB v n x y p:=by funext j t;unfold VB;simp only[hg]
    rw[this]
   rw[this,hi]
  unfold L6;have:LY w n=LY v n:=by funext x;unfold LY;rw[hs,hc]
  rw[this,hi]
 unfold bF;rw[h1,h2,h3,h4,agb hc]
end
theorem abe{v:Ev}{l:List Bd}(k:Nat)(h:qO v l=none):qO v (l.take k)=none:=by
 refine aau fun j a ha=>?_
 rw[List.getElem?_take] at ha;split at ha
 ·rename_i hj
  have h1:=sP h j a ha;rw[Nat.zero_add] at h1 ⊢;unfold Le at h1 ⊢;rw[List.take_take,Nat.min_eq_left (by omega)];exact h1
 ·cases ha
theorem sW{v:Ev}{n:Nat}{l:List Bd}(k:Nat)(h:bF v n l=none):bF v n (l.take k)=none:=by
 unfold bF at h ⊢;cases h1:pK v with
 |some f=>rw[h1] at h;cases h
 |none=>
  rw[h1] at h;simp only at h ⊢;cases h2:jg v n with
  |some f=>rw[h2] at h;cases h
  |none=>
   rw[h2] at h;simp only at h ⊢;cases h3:Cq v with
   |some f=>rw[h3] at h;cases h
   |none=>
    rw[h3] at h;simp only at h ⊢;cases h4:L6 v n with
    |some f=>rw[h4] at h;cases h
    |none=>rw[h4] at h;exact abe k h
theorem qy{v w:Ev}{n:Nat}{l l':List Bd}{x:It}(hd:w.datas.map dst=v.datas.map dst)(hc:w.classes=v.classes)(hx:x∈v.insts)(hi:w.insts=v.insts++[x])(h:bF v n l=none):bF w n l'=some (125,x.at_):=by
 unfold bF at h ⊢;rw[IG hd,BX hd hc];cases h1:pK v with
 |some f=>rw[h1] at h;cases h
 |none=>
  rw[h1] at h;simp only at h ⊢;cases h2:jg v n with
  |some f=>rw[h2] at h;cases h
  |none=>
   rw[h2] at h;simp only at h ⊢;cases h3:Cq v with
   |some f=>rw[h3] at h;cases h
   |none=>
    have hins:Cq w=some (125,x.at_):=by
     unfold Cq;rw[hi,aax];have e1:fe (jc w) v.insts 0=none:=aau fun j a ha=>by
      have hj:=oK ha;have:=sP h3 j a ha;rw[NV hd hc (0+j) a (by rw[hi,List.take_append_of_le_length (by omega)])];exact this
     rw[e1];simp only;rw[fe];obtain⟨j,hj⟩:=List.getElem?_of_mem hx;have h5:=sP h3 j x hj;have e2:jc w (0+v.insts.length) x=some (125,x.at_):=by
      unfold jc at h5 ⊢;rw[hc];cases hf:fO (gI x.cls) v.classes 0 with
      |none=>rw[hf] at h5;cases h5
      |some k=>
       rw[hf] at h5;simp only at h5 ⊢;obtain⟨_,c,hk,_⟩:=lJ hf;rw[Nat.sub_zero] at hk;rw[hk] at h5 ⊢;simp only at h5 ⊢;unfold nV at h5 ⊢;rw[NY hd hc];cases hh:tT v x with
       |some e=>rw[hh] at h5;cases h5
       |none=>
        simp only;have ht:w.insts.take (0+v.insts.length)=v.insts:=by rw[hi,Nat.zero_add,List.take_left]
        rw[ht,if_pos];rw[List.any_eq_true];exact⟨x,hx,by simp[isIt]⟩
     rw[e2]
    rw[hins]
end Go.Proofs.YtfphhabaeggenaaGreatDoor.C
namespace Go.Proofs.YtfphhabaeggenaaGreatDoor
open Go.RowKit
variable{L:List Tk}
abbrev dtC(x:Dt):List PV:=[sv x.name,strs x.params,nK x.cons,strs x.deriv,iv x.at_]
theorem amC:jQ PG 39 3 48:=jQ.of (by kernel_rfl)
abbrev clC(x:Cl):List PV:=[sv x.name,sv x.var,strs x.supers,jb x.methods,bg x.defaults,iv x.at_]
abbrev itC(x:It):List PV:=[sv x.cls,iv x.head.kind,sv x.head.name,iv x.head.n,aV x.head.kids,jT x.ctx,bg x.binds,iv x.at_]
theorem avp:jQ PG 68 6 80:=jQ.of (by kernel_rfl)
theorem avo:jQ PG 45 5 72:=jQ.of (by kernel_rfl)
theorem acL(l:List Md):Raw 6 (l.map Md.cells) (l.map Md.cells):=.of l (fun x=>by simp[Md.cells]) (fun x=>rfl) (fun x=>by simp[Md.cells])
theorem avr:jQ PG 23 5 96:=jQ.of (by kernel_rfl)
theorem avs:jQ PG 24 6 112:=jQ.of (by kernel_rfl)
theorem avq:jQ PG 25 8 128:=jQ.of (by kernel_rfl)
theorem acN(l:List Dt):Raw 5 (l.map Dt.cells) (l.map Dt.cells):=.of l (fun x=>by simp[Dt.cells]) (fun x=>rfl) (fun x=>by simp[Dt.cells])
theorem acO(l:List Cl):Raw 6 (l.map Cl.cells) (l.map Cl.cells):=.of l (fun x=>by simp[Cl.cells]) (fun x=>rfl) (fun x=>by simp[Cl.cells])
theorem acM(l:List It):Raw 8 (l.map It.cells) (l.map It.cells):=.of l (fun x=>by simp[It.cells]) (fun x=>rfl) (fun x=>by simp[It.cells])
section
theorem XR{b:ByteArray}:QG (Lx.scanP b)=false:=by
 cases h:Lx.scanP b with
 |error p=>rfl
 |ok ts=>
  cases ts with
  |cons t l=>rfl
  |nil=>
   exfalso;have h2:rq b=.ok []:=by unfold rq;rw[h];rfl
   exact absurd (D7 h2).2.2.pos (by simp)
theorem aiT(b:ByteArray)(hb:b.size≤1000000):ev (q47 (sv b))=some (0,match rq b with
  |.ok L=>[dA L,iv 0,iv 0]
  |.error (c,p)=>[nS,iv c,iv (p:Nat)]):=by
 refine aS.of ?_;rw[h47];have e:XO [sv b]=some (0,[(qb (Lx.scanP b)).1,iv (qb (Lx.scanP b)).2.1,iv (qb (Lx.scanP b)).2.2]):=by
  show (if b.size≤1000000∧QG (Lx.scanP b)=false then _ else none)=_;rw[if_pos ⟨hb,XR⟩]
 rw[e];unfold rq;cases h:Lx.scanP b with
 |error p=>rfl
 |ok ts=>rfl
end
end Go.Proofs.YtfphhabaeggenaaGreatDoor
