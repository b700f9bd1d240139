/- Joined texts. -/
import Derived.Test.YtijcobeebaceoaaGreatDoorBao
set_option linter.unusedVariables false
set_option linter.unusedSimpArgs false
set_option linter.unusedSectionVars false
namespace Go.Proofs.YtijcobeebaceoaaGreatDoor
open Go.RowKit
set_option maxRecDepth 10000
section
variable{l:List ByteArray}(hl:l.length≤1000000){i:Nat}
theorem NR{t:Nat}(h:t<l.length):ev (q99 (sv l[t]))=some (0,[iv (dw l t:Nat),iv (bW (dw l t):Nat)]):=by
 have:dw l t=jo l[t]:=by unfold dw;rw[List.getElem?_eq_getElem h];rfl
 rw[this];exact acY _
theorem uo(t:Nat)(st:List Nat):(st.reverse++[t])[st.length]? = some t:=by rw[List.getElem?_append_right (by simp)];simp
theorem uG(V:Nat→Nat)(i t:Nat)(st out:List Nat):lU V i (t::st) out=if V t<V i∨V t=V i∧bW (V i)=2 then some (t::st,out) else if V t=V i∧bW (V i)=0 then none else lU V i st (out++[t]):=by rw[lU]
include hl
theorem aaV:∀(st out:List Nat),(∀t∈st,t<l.length)→st.length+out.length≤l.length→
  ev (Xv (strs l) (iv (dw l i:Nat)) (iv (bW (dw l i):Nat)) (iv i) (iv i) (iv l.length) (strs l) (gq st.reverse) (gq out))=some (match lU (dw l) i st out with
   |some r=>(2,[gq r.1.reverse,gq r.2,iv i,iv i,iv l.length,strs l,strs l])
   |none=>(3,[nS,iv i,iv 112]))
 |[],out,h,hb=>ay.of (by rw[ZM];simp[lU])
 |t::st,out,h,hb=>by
  have ht:=h t (by simp);have ih:=aaV st (out++[t]) (fun x hx=>h x (by simp[hx])) (by simp at hb ⊢;omega);refine ay.of ?_;rw[ZM];have e0:IntKind.i64.wrap (st.length:Int)=(st.length:Int):=aP (by simp at hb;omega);have hx:=fun k'=>dx (d:=aM.fail) (k:=k') (List.getElem?_eq_getElem ht)
  have hk:=fun k'=>iX (d:=aM.fail) (k:=k') (uo t st)
  have hap:=fun k'=>pq (d:=aM.fail) (kp:=k') (l:=out) (x:=t) (by simp at hb;omega)
  have htk:=fun k'=>xg (d:=aM.fail) (k:=k') (l:=st.reverse++[t]) (i:=st.length) (by simp)
  have htt:(st.reverse++[t]).take st.length=st.reverse:=by rw[List.take_append_of_le_length (by simp)];exact List.take_of_length_le (by simp)
  rw[htt] at htk;have hp:=NR (l:=l) ht;rw[uG];by_cases h1:dw l t<dw l i
  ·rw[if_pos (.inl h1),List.reverse_cons]
   simp[e0,hk,hx,hp,h1]
  ·by_cases h2:dw l t=dw l i
   ·rcases qg (dw l i) with h3|h3|h3
    ·rw[if_neg (by rintro (h|⟨_,h⟩)<;>omega),if_pos ⟨h2,h3⟩,List.reverse_cons]
     simp[e0,hk,hx,hp,eq_false h1,eq_true (show ((dw l t:Nat):Int)=((dw l i:Nat):Int) by rw[h2]),eq_false (show ¬((bW (dw l i):Nat):Int)=2 by omega),eq_true h3]
    ·rw[if_neg (by rintro (h|⟨_,h⟩)<;>omega),if_neg (by rintro⟨_,h⟩;omega),List.reverse_cons]
     simp[e0,hk,hx,hp,eq_false h1,eq_true (show ((dw l t:Nat):Int)=((dw l i:Nat):Int) by rw[h2]),eq_false (show ¬((bW (dw l i):Nat):Int)=2 by omega),eq_false (show ¬bW (dw l i)=0 by omega),hap,htk,ih]
    ·rw[if_pos (.inr ⟨h2,h3⟩),List.reverse_cons]
     simp[e0,hk,hx,hp,eq_false h1,eq_true (show ((dw l t:Nat):Int)=((dw l i:Nat):Int) by rw[h2]),eq_true (show ((bW (dw l i):Nat):Int)=2 by omega)]
   ·rw[if_neg (by rintro (h|⟨h,_⟩)<;>omega),if_neg (by rintro⟨h,_⟩;omega),List.reverse_cons]
    simp[e0,hk,hx,hp,eq_false h1,eq_false (show ¬((dw l t:Nat):Int)=((dw l i:Nat):Int) by omega),hap,htk,ih]
theorem aaU:∀(st out:List Nat),(∀t∈st,t<l.length)→st.length+out.length≤l.length→
  ev (Xu (strs l) (iv (dw l i:Nat)) (iv (bW (dw l i):Nat)) (iv i) (iv i) (iv l.length) (strs l) (gq st.reverse) (gq out))=some (match lU (dw l) i st out with
   |some r=>(2,[gq r.1.reverse,gq r.2,iv i,iv i,iv l.length,strs l,strs l])
   |none=>(3,[nS,iv i,iv 112]))
 |[],out,h,hb=>ay.of (by rw[ZL];simp[lU])
 |t::st,out,h,hb=>by
  have ht:=h t (by simp);have ih:=aaU st (out++[t]) (fun x hx=>h x (by simp[hx])) (by simp at hb ⊢;omega);refine ay.of ?_;rw[ZL];have e0:IntKind.i64.wrap (st.length:Int)=(st.length:Int):=aP (by simp at hb;omega);have hx:=fun k'=>dx (d:=aM.fail) (k:=k') (List.getElem?_eq_getElem ht)
  have hk:=fun k'=>iX (d:=aM.fail) (k:=k') (uo t st)
  have hap:=fun k'=>pq (d:=aM.fail) (kp:=k') (l:=out) (x:=t) (by simp at hb;omega)
  have htk:=fun k'=>xg (d:=aM.fail) (k:=k') (l:=st.reverse++[t]) (i:=st.length) (by simp)
  have htt:(st.reverse++[t]).take st.length=st.reverse:=by rw[List.take_append_of_le_length (by simp)];exact List.take_of_length_le (by simp)
  rw[htt] at htk;have hp:=NR (l:=l) ht;rw[uG];by_cases h1:dw l t<dw l i
  ·rw[if_pos (.inl h1),List.reverse_cons]
   simp[e0,hk,hx,hp,h1]
  ·by_cases h2:dw l t=dw l i
   ·rcases qg (dw l i) with h3|h3|h3
    ·rw[if_neg (by rintro (h|⟨_,h⟩)<;>omega),if_pos ⟨h2,h3⟩,List.reverse_cons]
     simp[e0,hk,hx,hp,eq_false h1,eq_true (show ((dw l t:Nat):Int)=((dw l i:Nat):Int) by rw[h2]),eq_false (show ¬((bW (dw l i):Nat):Int)=2 by omega),eq_true h3]
    ·rw[if_neg (by rintro (h|⟨_,h⟩)<;>omega),if_neg (by rintro⟨_,h⟩;omega),List.reverse_cons]
     simp[e0,hk,hx,hp,eq_false h1,eq_true (show ((dw l t:Nat):Int)=((dw l i:Nat):Int) by rw[h2]),eq_false (show ¬((bW (dw l i):Nat):Int)=2 by omega),eq_false (show ¬bW (dw l i)=0 by omega),hap,htk,ih]
    ·rw[if_pos (.inr ⟨h2,h3⟩),List.reverse_cons]
     simp[e0,hk,hx,hp,eq_false h1,eq_true (show ((dw l t:Nat):Int)=((dw l i:Nat):Int) by rw[h2]),eq_true (show ((bW (dw l i):Nat):Int)=2 by omega)]
   ·rw[if_neg (by rintro (h|⟨h,_⟩)<;>omega),if_neg (by rintro⟨h,_⟩;omega),List.reverse_cons]
    simp[e0,hk,hx,hp,eq_false h1,eq_false (show ¬((dw l t:Nat):Int)=((dw l i:Nat):Int) by omega),hap,htk,ih]
omit hl in
theorem Ic(V:Nat→Nat)(i:Nat):∀(st out:List Nat) {r:List Nat×List Nat},lU V i st out=some r→(∀t∈r.1,t∈st)∧r.1.length+r.2.length=st.length+out.length
 |[],out,r,h=>by rw[lU] at h;cases h;simp
 |t::st,out,r,h=>by
  rw[lU] at h;split at h
  ·cases h;simp
  ·split at h
   ·cases h
   ·have:=Ic V i st _ h
    exact⟨fun x hx=>List.mem_cons_of_mem _ (this.1 x hx),by simp at this ⊢;omega⟩
def apO(l:List ByteArray)(i:Nat)(st:List Nat)(z:Rs):Option (List Nat×List Nat)→Prop
 |none=>z=(1,[gq st.reverse,nS,iv i,iv 112])∨z=(3,[nS,iv i,iv 112])
 |some r=>r=(st,[])∧z=(0,[gq st.reverse,iv i,iv i,iv l.length,strs l,strs l,nS])∨z=(2,[gq r.1.reverse,gq r.2,iv i,iv i,iv l.length,strs l,strs l])
def apN(l:List ByteArray)(i:Nat)(st out:List Nat)(z:Rs):Option (List Nat×List Nat)→Prop
 |none=>z=(1,[gq st.reverse,gq out,nS,iv i,iv 112])∨z=(3,[nS,iv i,iv 112])
 |some r=>r=(st,out)∧z=(0,[gq st.reverse,gq out,iv i,iv i,iv l.length,strs l,strs l])∨z=(2,[gq r.1.reverse,gq r.2,iv i,iv i,iv l.length,strs l,strs l])
theorem aiX:∀(st out:List Nat),(∀t∈st,t<l.length)→st.length+out.length≤l.length→∃z,ev (Xx (strs l) (iv (dw l i:Nat)) (iv (bW (dw l i):Nat)) (iv i) (iv i) (iv l.length) (strs l) (gq st.reverse))=some z∧apO l i st z (lU (dw l) i st [])
 |[],out,h,hb=>⟨_,ay.of (by rw[tK];simp),.inl ⟨rfl,rfl⟩⟩
 |t::st,out,h,hb=>by
  have ht:=h t (by simp);have e0:IntKind.i64.wrap (st.length:Int)=(st.length:Int):=aP (by simp at hb;omega);have hx:=fun k'=>dx (d:=aM.fail) (k:=k') (List.getElem?_eq_getElem ht)
  have hk:=fun k'=>iX (d:=aM.fail) (k:=k') (uo t st)
  have htk:=fun k'=>xg (d:=aM.fail) (k:=k') (l:=st.reverse++[t]) (i:=st.length) (by simp)
  have htt:(st.reverse++[t]).take st.length=st.reverse:=by rw[List.take_append_of_le_length (by simp)];exact List.take_of_length_le (by simp)
  rw[htt] at htk;have hp:=NR (l:=l) ht;have hap:=fun k'=>JW (d:=aM.fail) (kp:=k') (x:=t)
  have hn:=aaV (i:=i) hl st ([t]) (fun x hx=>h x (by simp[hx])) (by simp at hb ⊢;omega);rw[uG]
  try rw[List.nil_append]
  by_cases h1:dw l t<dw l i
  ·rw[if_pos (.inl h1)]
   exact⟨_,ay.of (by rw[tK];rw[List.reverse_cons];simp[e0,hk,hx,hp,h1];rfl),.inl ⟨rfl,by rw[List.reverse_cons]⟩⟩
  ·by_cases h2:dw l t=dw l i
   ·rcases qg (dw l i) with h3|h3|h3
    ·rw[if_neg (by rintro (h|⟨_,h⟩)<;>omega),if_pos ⟨h2,h3⟩]
     exact⟨_,ay.of (by rw[tK];rw[List.reverse_cons];simp[e0,hk,hx,hp,eq_false h1,eq_true (show ((dw l t:Nat):Int)=((dw l i:Nat):Int) by rw[h2]),eq_false (show ¬((bW (dw l i):Nat):Int)=2 by omega),eq_true h3];rfl),.inl (by rw[List.reverse_cons])⟩
    ·rw[if_neg (by rintro (h|⟨_,h⟩)<;>omega),if_neg (by rintro⟨_,h⟩;omega)]
     cases hr:lU (dw l) i st ([t]) with
     |none=>rw[hr] at hn;exact⟨_,ay.of (by rw[tK];rw[List.reverse_cons];simp[e0,hk,hx,hp,eq_false h1,eq_true (show ((dw l t:Nat):Int)=((dw l i:Nat):Int) by rw[h2]),eq_false (show ¬((bW (dw l i):Nat):Int)=2 by omega),eq_false (show ¬bW (dw l i)=0 by omega),hap,htk,hn]),.inr rfl⟩
     |some r=>rw[hr] at hn;exact⟨_,ay.of (by rw[tK];rw[List.reverse_cons];simp[e0,hk,hx,hp,eq_false h1,eq_true (show ((dw l t:Nat):Int)=((dw l i:Nat):Int) by rw[h2]),eq_false (show ¬((bW (dw l i):Nat):Int)=2 by omega),eq_false (show ¬bW (dw l i)=0 by omega),hap,htk,hn]),.inr rfl⟩
    ·rw[if_pos (.inr ⟨h2,h3⟩)]
     exact⟨_,ay.of (by rw[tK];rw[List.reverse_cons];simp[e0,hk,hx,hp,eq_false h1,eq_true (show ((dw l t:Nat):Int)=((dw l i:Nat):Int) by rw[h2]),eq_true (show ((bW (dw l i):Nat):Int)=2 by omega)];rfl),.inl ⟨rfl,by rw[List.reverse_cons]⟩⟩
   ·rw[if_neg (by rintro (h|⟨h,_⟩)<;>omega),if_neg (by rintro⟨h,_⟩;omega)]
    cases hr:lU (dw l) i st ([t]) with
    |none=>rw[hr] at hn;exact⟨_,ay.of (by rw[tK];rw[List.reverse_cons];simp[e0,hk,hx,hp,eq_false h1,eq_false (show ¬((dw l t:Nat):Int)=((dw l i:Nat):Int) by omega),hap,htk,hn]),.inr rfl⟩
    |some r=>rw[hr] at hn;exact⟨_,ay.of (by rw[tK];rw[List.reverse_cons];simp[e0,hk,hx,hp,eq_false h1,eq_false (show ¬((dw l t:Nat):Int)=((dw l i:Nat):Int) by omega),hap,htk,hn]),.inr rfl⟩
theorem aiW:∀(st out:List Nat),(∀t∈st,t<l.length)→st.length+out.length≤l.length→∃z,ev (Xw (strs l) (iv (dw l i:Nat)) (iv (bW (dw l i):Nat)) (iv i) (iv i) (iv l.length) (strs l) (gq st.reverse) (gq out))=some z∧apN l i st out z (lU (dw l) i st out)
 |[],out,h,hb=>⟨_,ay.of (by rw[tJ];simp),.inl ⟨rfl,rfl⟩⟩
 |t::st,out,h,hb=>by
  have ht:=h t (by simp);have e0:IntKind.i64.wrap (st.length:Int)=(st.length:Int):=aP (by simp at hb;omega);have hx:=fun k'=>dx (d:=aM.fail) (k:=k') (List.getElem?_eq_getElem ht)
  have hk:=fun k'=>iX (d:=aM.fail) (k:=k') (uo t st)
  have htk:=fun k'=>xg (d:=aM.fail) (k:=k') (l:=st.reverse++[t]) (i:=st.length) (by simp)
  have htt:(st.reverse++[t]).take st.length=st.reverse:=by rw[List.take_append_of_le_length (by simp)];exact List.take_of_length_le (by simp)
  rw[htt] at htk;have hp:=NR (l:=l) ht;have hap:=fun k'=>pq (d:=aM.fail) (kp:=k') (l:=out) (x:=t) (by simp at hb;omega)
  have hn:=aaU (i:=i) hl st (out++[t]) (fun x hx=>h x (by simp[hx])) (by simp at hb ⊢;omega);rw[uG]
  try rw[List.nil_append]
  by_cases h1:dw l t<dw l i
  ·rw[if_pos (.inl h1)]
   exact⟨_,ay.of (by rw[tJ];rw[List.reverse_cons];simp[e0,hk,hx,hp,h1];rfl),.inl ⟨rfl,by rw[List.reverse_cons]⟩⟩
  ·by_cases h2:dw l t=dw l i
   ·rcases qg (dw l i) with h3|h3|h3
    ·rw[if_neg (by rintro (h|⟨_,h⟩)<;>omega),if_pos ⟨h2,h3⟩]
     exact⟨_,ay.of (by rw[tJ];rw[List.reverse_cons];simp[e0,hk,hx,hp,eq_false h1,eq_true (show ((dw l t:Nat):Int)=((dw l i:Nat):Int) by rw[h2]),eq_false (show ¬((bW (dw l i):Nat):Int)=2 by omega),eq_true h3];rfl),.inl (by rw[List.reverse_cons])⟩
    ·rw[if_neg (by rintro (h|⟨_,h⟩)<;>omega),if_neg (by rintro⟨_,h⟩;omega)]
     cases hr:lU (dw l) i st (out++[t]) with
     |none=>rw[hr] at hn;exact⟨_,ay.of (by rw[tJ];rw[List.reverse_cons];simp[e0,hk,hx,hp,eq_false h1,eq_true (show ((dw l t:Nat):Int)=((dw l i:Nat):Int) by rw[h2]),eq_false (show ¬((bW (dw l i):Nat):Int)=2 by omega),eq_false (show ¬bW (dw l i)=0 by omega),hap,htk,hn]),.inr rfl⟩
     |some r=>rw[hr] at hn;exact⟨_,ay.of (by rw[tJ];rw[List.reverse_cons];simp[e0,hk,hx,hp,eq_false h1,eq_true (show ((dw l t:Nat):Int)=((dw l i:Nat):Int) by rw[h2]),eq_false (show ¬((bW (dw l i):Nat):Int)=2 by omega),eq_false (show ¬bW (dw l i)=0 by omega),hap,htk,hn]),.inr rfl⟩
    ·rw[if_pos (.inr ⟨h2,h3⟩)]
     exact⟨_,ay.of (by rw[tJ];rw[List.reverse_cons];simp[e0,hk,hx,hp,eq_false h1,eq_true (show ((dw l t:Nat):Int)=((dw l i:Nat):Int) by rw[h2]),eq_true (show ((bW (dw l i):Nat):Int)=2 by omega)];rfl),.inl ⟨rfl,by rw[List.reverse_cons]⟩⟩
   ·rw[if_neg (by rintro (h|⟨h,_⟩)<;>omega),if_neg (by rintro⟨h,_⟩;omega)]
    cases hr:lU (dw l) i st (out++[t]) with
    |none=>rw[hr] at hn;exact⟨_,ay.of (by rw[tJ];rw[List.reverse_cons];simp[e0,hk,hx,hp,eq_false h1,eq_false (show ¬((dw l t:Nat):Int)=((dw l i:Nat):Int) by omega),hap,htk,hn]),.inr rfl⟩
    |some r=>rw[hr] at hn;exact⟨_,ay.of (by rw[tJ];rw[List.reverse_cons];simp[e0,hk,hx,hp,eq_false h1,eq_false (show ¬((dw l t:Nat):Int)=((dw l i:Nat):Int) by omega),hap,htk,hn]),.inr rfl⟩
theorem ak9:∀(n i:Nat) (st out:List Nat),i≤l.length→l.length-i≤n→(∀t∈st,t<i)→st.length+out.length≤i→
  match gF (dw l) l.length n i st out with
  |.error k=>ev (Cy (iv i) (iv l.length) (strs l) (strs l) (gq st.reverse) (gq out))=some (0,[nS,iv k,iv 112])
  |.ok r=>∃st' out',r=out'++st'∧st'.length+out'.length≤l.length∧ev (Cy (iv i) (iv l.length) (strs l) (strs l) (gq st.reverse) (gq out))=some (3,[gq st'.reverse,gq out']):=by
 intro n
 induction n with
 |zero=>
  intro i st out hi hn hs hb;rw[gF];exact⟨st,out,rfl,by omega,ay.of (by rw[tL];simp[show ¬i<l.length by omega])⟩
 |succ n ih=>
  intro i st out hi hn hs hb;rw[gF];by_cases h:i<l.length
  ·rw[if_pos h]
   have e1:IntKind.i64.wrap ((i:Int)+1)=((i+1:Nat):Int):=by rw[aP (by omega)];omega
   have hx:=fun k'=>dx (d:=aM.fail) (k:=k') (List.getElem?_eq_getElem h)
   have hp:=NR (l:=l) h;obtain⟨z,g1,g2⟩:=aiW (i:=i) hl st out (fun t ht=>by have:=hs t ht;omega) (by omega);cases hr:lU (dw l) i st out with
   |none=>
    rw[hr] at g2;rcases g2 with rfl|rfl
    ·exact ay.of (by rw[tL];simp[-Int.natCast_add,h,hx,hp,g1])
    ·exact ay.of (by rw[tL];simp[-Int.natCast_add,h,hx,hp,g1])
   |some r=>
    have hin:=Ic _ _ _ _ hr;obtain⟨st1,out1⟩:=r;have hn:=ih (i+1) (i::st1) out1 (by omega) (by omega) (fun t ht=>by
     rcases List.mem_cons.1 ht with rfl|ht
     ·omega
     ·have:=hs t (hin.1 t ht);omega) (by have:=hin.2;simp at this ⊢;omega)
    rw[List.reverse_cons] at hn;have hap:=fun k'=>pq (d:=aM.fail) (kp:=k') (l:=st1.reverse) (x:=i) (by have:=hin.2;simp at this ⊢;omega)
    have key:∀z,ev (Cy (iv (i+1:Nat)) (iv l.length) (strs l) (strs l) (gq (st1.reverse++[i])) (gq out1))=some z→(z.1=0∨z.1=3)→ev (Cy (iv i) (iv l.length) (strs l) (strs l) (gq st.reverse) (gq out))=some z:=by
     rintro⟨k,ys⟩ hz hk;rw[hr] at g2;refine ay.of ?_;rcases g2 with⟨g3,rfl⟩|rfl
     ·cases g3
      rcases hk with rfl|rfl
      ·rw[tL];simp[-Int.natCast_add,h,hx,hp,g1,hap,e1,hz]
      ·rw[tL];simp[-Int.natCast_add,h,hx,hp,g1,hap,e1,hz]
     ·rcases hk with rfl|rfl
      ·rw[tL];simp[-Int.natCast_add,h,hx,hp,g1,hap,e1,hz]
      ·rw[tL];simp[-Int.natCast_add,h,hx,hp,g1,hap,e1,hz]
    simp only;cases ho:gF (dw l) l.length n (i+1) (i::st1) out1 with
    |error k=>rw[ho] at hn;exact key _ hn (.inl rfl)
    |ok r=>
     rw[ho] at hn;obtain⟨st',out',c1,c2,c3⟩:=hn;exact⟨st',out',c1,c2,key _ c3 (.inr rfl)⟩
  ·rw[if_neg h]
   exact⟨st,out,rfl,by omega,ay.of (by rw[tL];simp[h])⟩
theorem ala:∀(n i:Nat) (st:List Nat),i≤l.length→l.length-i≤n→(∀t∈st,t<i)→st.length≤i→
  match gF (dw l) l.length n i st [] with
  |.error k=>ev (GV (iv i) (iv l.length) (strs l) (strs l) (gq st.reverse))=some (0,[nS,iv k,iv 112])
  |.ok r=>∃st' out',r=out'++st'∧st'.length+out'.length≤l.length∧(out'=[]∧ev (GV (iv i) (iv l.length) (strs l) (strs l) (gq st.reverse))=some (2,[gq st'.reverse,nS])∨ev (GV (iv i) (iv l.length) (strs l) (strs l) (gq st.reverse))=some (3,[gq st'.reverse,gq out'])):=by
 intro n
 induction n with
 |zero=>
  intro i st hi hn hs hb;rw[gF];exact⟨st,[],rfl,by simp;omega,.inl ⟨rfl,ay.of (by rw[rq];simp[show ¬i<l.length by omega])⟩⟩
 |succ n ih=>
  intro i st hi hn hs hb;rw[gF];by_cases h:i<l.length
  ·rw[if_pos h]
   have e1:IntKind.i64.wrap ((i:Int)+1)=((i+1:Nat):Int):=by rw[aP (by omega)];omega
   have hx:=fun k'=>dx (d:=aM.fail) (k:=k') (List.getElem?_eq_getElem h)
   have hp:=NR (l:=l) h;obtain⟨z,g1,g2⟩:=aiX (i:=i) hl st [] (fun t ht=>by have:=hs t ht;omega) (by simp;omega);cases hr:lU (dw l) i st [] with
   |none=>
    rw[hr] at g2;rcases g2 with rfl|rfl
    ·exact ay.of (by rw[rq];simp[-Int.natCast_add,h,hx,hp,g1])
    ·exact ay.of (by rw[rq];simp[-Int.natCast_add,h,hx,hp,g1])
   |some r=>
    have hin:=Ic _ _ _ _ hr;obtain⟨st1,out1⟩:=r;have hs2:∀t∈i::st1,t<i+1:=fun t ht=>by
     rcases List.mem_cons.1 ht with rfl|ht
     ·omega
     ·have:=hs t (hin.1 t ht);omega
    have hap:=fun k'=>pq (d:=aM.fail) (kp:=k') (l:=st1.reverse) (x:=i) (by have:=hin.2;simp at this ⊢;omega)
    rw[hr] at g2;simp only;rcases g2 with⟨g3,rfl⟩|rfl
    ·cases g3
     have hn:=ih (i+1) (i::st) (by omega) (by omega) hs2 (by simp;omega);rw[List.reverse_cons] at hn;cases ho:gF (dw l) l.length n (i+1) (i::st) [] with
     |error k=>rw[ho] at hn;exact ay.of (by rw[rq];simp[-Int.natCast_add,h,hx,hp,g1,hap,e1,hn])
     |ok r=>
      rw[ho] at hn;obtain⟨st',out',c1,c2,⟨c3,c4⟩|c4⟩:=hn
      ·exact⟨st',out',c1,c2,.inl ⟨c3,ay.of (by rw[rq];simp[-Int.natCast_add,h,hx,hp,g1,hap,e1,c4])⟩⟩
      ·exact⟨st',out',c1,c2,.inr (ay.of (by rw[rq];simp[-Int.natCast_add,h,hx,hp,g1,hap,e1,c4]))⟩
    ·have hn:=ak9 hl n (i+1) (i::st1) out1 (by omega) (by omega) hs2 (by have:=hin.2;simp at this ⊢;omega)
     rw[List.reverse_cons] at hn;cases ho:gF (dw l) l.length n (i+1) (i::st1) out1 with
     |error k=>rw[ho] at hn;exact ay.of (by rw[rq];simp[-Int.natCast_add,h,hx,hp,g1,hap,e1,hn])
     |ok r=>
      rw[ho] at hn;obtain⟨st',out',c1,c2,c4⟩:=hn;exact⟨st',out',c1,c2,.inr (ay.of (by rw[rq];simp[-Int.natCast_add,h,hx,hp,g1,hap,e1,c4]))⟩
  ·rw[if_neg h]
   exact⟨st,[],rfl,by simp;omega,.inl ⟨rfl,ay.of (by rw[rq];simp[h])⟩⟩
theorem alb:match gF (dw l) l.length l.length 0 [] [] with
  |.error k=>ev (Cz (iv 0) (iv l.length) (strs l) (strs l))=some (0,[nS,iv k,iv 112])
  |.ok r=>∃st' out',r=out'++st'∧st'.length+out'.length≤l.length∧(r=[]∧ev (Cz (iv 0) (iv l.length) (strs l) (strs l))=some (1,[nS,nS])∨out'=[]∧ev (Cz (iv 0) (iv l.length) (strs l) (strs l))=some (2,[gq st'.reverse,nS])∨ev (Cz (iv 0) (iv l.length) (strs l) (strs l))=some (3,[gq st'.reverse,gq out'])):=by
 by_cases h:0<l.length
 ·obtain⟨n,hn⟩:∃n,l.length=n+1:=⟨l.length-1,by omega⟩
  have hx:∀k',fG PG aM.fail 73 (.pv (strs l)) (.pv (iv 0)) k'=k' (.cptr [sv l[0]]):=fun k'=>dx (d:=aM.fail) (k:=k') (List.getElem?_eq_getElem h)
  have hp:=NR (l:=l) h;have hz:ev (Xy (strs l) (iv (dw l 0:Nat)) (iv (bW (dw l 0):Nat)) (iv 0) (iv 0) (iv l.length) (strs l))=some (0,[nS,iv 0,iv 0,iv l.length,strs l,strs l,nS]):=ay.of (by rw[aiq];simp);have hap:=fun k'=>JW (d:=aM.fail) (kp:=k') (x:=0)
  have hn2:=ala hl n 1 [0] (by omega) (by omega) (by simp) (by simp);have e:gF (dw l) l.length l.length 0 [] []=gF (dw l) l.length n 1 [0] []:=by
   conv=>lhs;arg 3;rw[hn]
   rw[gF,if_pos h];rfl
  rw[e];have w1:IntKind.i64.wrap 1=1:=aP (by decide);have hap:∀k',iO PG aM.fail 47 (.pv (.lit (.slice none 0 0))) (.pv (.rows [[iv 0]])) k'=k' (gq [0]):=hap;simp only[List.reverse_cons,List.reverse_nil,List.nil_append,Int.natCast_one] at hn2;cases ho:gF (dw l) l.length n 1 [0] [] with
  |error k=>rw[ho] at hn2;exact ay.of (by rw[I7];simp[h,hx,hp,hz,hap,w1,hn2])
  |ok r=>
   rw[ho] at hn2;obtain⟨st',out',c1,c2,⟨c3,c4⟩|c4⟩:=hn2
   ·exact⟨st',out',c1,c2,.inr (.inl ⟨c3,ay.of (by rw[I7];simp[h,hx,hp,hz,hap,w1,c4])⟩)⟩
   ·exact⟨st',out',c1,c2,.inr (.inr (ay.of (by rw[I7];simp[h,hx,hp,hz,hap,w1,c4])))⟩
 ·have hz:l.length=0:=by omega
  have e:gF (dw l) l.length l.length 0 [] []=.ok []:=by rw[hz];rfl
  rw[e];exact⟨[],[],rfl,by simp,.inl ⟨rfl,ay.of (by rw[I7];simp[hz])⟩⟩
theorem VZ:∀(rest done out:List Nat),rest.length+out.length≤l.length→ev (Xo (iv ((rest.length:Int)-1)) (gq (rest.reverse++done)) (gq out))=some (1,[gq (rest.reverse++done),gq (out++rest)])
 |[],done,out,h=>ay.of (by rw[ZH];simp)
 |t::rest,done,out,h=>by
  have ih:=VZ rest (t::done) (out++[t]) (by simp at h ⊢;omega);have e0:IntKind.i64.wrap ((rest.length:Int)-1)=(rest.length:Int)-1:=aP (by simp at h;omega);have hk:=fun k'=>iX (d:=aM.fail) (k:=k') (l:=rest.reverse++t::done) (i:=rest.length) (x:=t) (by rw[List.getElem?_append_right (by simp)];simp)
  have hap:=fun k'=>pq (d:=aM.fail) (kp:=k') (l:=out) (x:=t) (by simp at h;omega)
  have e2:((t::rest).length:Int)-1=(rest.length:Int):=by simp
  refine ay.of ?_;rw[e2,List.reverse_cons,List.append_assoc,List.singleton_append];rw[List.append_assoc,List.singleton_append] at ih;rw[ZH];simp[e0,hk,hap,ih]
theorem V3:∀(rest done out:List Nat),rest.length+out.length≤l.length→ev (Xp (iv ((rest.length:Int)-1)) (gq (rest.reverse++done)) (gq out))=some (3,[gq (rest.reverse++done),gq (out++rest)])
 |[],done,out,h=>ay.of (by rw[ZI];simp)
 |t::rest,done,out,h=>by
  have ih:=V3 rest (t::done) (out++[t]) (by simp at h ⊢;omega);have e0:IntKind.i64.wrap ((rest.length:Int)-1)=(rest.length:Int)-1:=aP (by simp at h;omega);have hk:=fun k'=>iX (d:=aM.fail) (k:=k') (l:=rest.reverse++t::done) (i:=rest.length) (x:=t) (by rw[List.getElem?_append_right (by simp)];simp)
  have hap:=fun k'=>pq (d:=aM.fail) (kp:=k') (l:=out) (x:=t) (by simp at h;omega)
  have e2:((t::rest).length:Int)-1=(rest.length:Int):=by simp
  refine ay.of ?_;rw[e2,List.reverse_cons,List.append_assoc,List.singleton_append];rw[List.append_assoc,List.singleton_append] at ih;rw[ZI];simp[e0,hk,hap,ih]
theorem agO(st out:List Nat)(h:st.length+out.length≤l.length):ev (Xq (iv ((st.length:Int)-1)) (gq out) (gq st.reverse))=some (if st=[] then(0,[gq out,gq st.reverse]) else(1,[gq st.reverse,gq (out++st)])):=by
 cases st with
 |nil=>exact ay.of (by rw[ZJ];simp)
 |cons t rest=>
  have ih:=VZ hl rest [t] (out++[t]) (by simp at h ⊢;omega);have e0:IntKind.i64.wrap ((rest.length:Int)-1)=(rest.length:Int)-1:=aP (by simp at h;omega);have hk:=fun k'=>iX (d:=aM.fail) (k:=k') (l:=rest.reverse++[t]) (i:=rest.length) (x:=t) (uo t rest)
  have hap:=fun k'=>pq (d:=aM.fail) (kp:=k') (l:=out) (x:=t) (by simp at h;omega)
  have e2:((t::rest).length:Int)-1=(rest.length:Int):=by simp
  refine ay.of ?_;rw[e2,List.reverse_cons];rw[List.append_assoc,List.singleton_append] at ih;rw[ZJ];simp[e0,hk,hap,ih]
theorem agP(st:List Nat)(h:st.length≤l.length):ev (Xr (iv ((st.length:Int)-1)) (gq st.reverse))=some (if st=[] then(1,[gq st.reverse,nS]) else(3,[gq st.reverse,gq st])):=by
 cases st with
 |nil=>exact ay.of (by rw[ZK];simp)
 |cons t rest=>
  have ih:=V3 hl rest [t] [t] (by simp at h ⊢;omega);have e0:IntKind.i64.wrap ((rest.length:Int)-1)=(rest.length:Int)-1:=aP (by simp at h;omega);have hk:=fun k'=>iX (d:=aM.fail) (k:=k') (l:=rest.reverse++[t]) (i:=rest.length) (x:=t) (uo t rest)
  have hap:=fun k'=>JW (d:=aM.fail) (kp:=k') (x:=t)
  have e2:((t::rest).length:Int)-1=(rest.length:Int):=by simp
  refine ay.of ?_;rw[e2,List.reverse_cons];rw[ZK];simp[e0,hk,hap,ih]
def afw(p:PV)(r:List Nat):Prop:=p=gq r∨r=[]∧p=nS
theorem Ih:match gF (dw l) l.length l.length 0 [] [] with
  |.error k=>ev (q72 (strs l))=some (0,[nS,iv k,iv 112])
  |.ok r=>r.length≤l.length∧∃p,afw p r∧ev (q72 (strs l))=some (0,[p,iv 0,iv 0]):=by
 have h:=alb hl;cases ho:gF (dw l) l.length l.length 0 [] [] with
 |error k=>rw[ho] at h;exact ay.of (by rw[h72];simp[h])
 |ok r=>
  rw[ho] at h;obtain⟨st,out,rfl,c2,c⟩:=h;refine⟨by simp;omega,?_⟩;have e0:IntKind.i64.wrap ((st.length:Int)-1)=(st.length:Int)-1:=aP (by omega);rcases c with⟨c3,c4⟩|⟨c3,c4⟩|c4
  ·have t0:ev (Xt (iv (-1)))=some (0,[nS]):=ay.of (by rw[aip];simp)
   exact⟨nS,.inr ⟨c3,rfl⟩,ay.of (by rw[h72];simp[c4,t0])⟩
  ·subst c3
   have ht:=agP hl st (by omega);by_cases hs:st=[]
   ·subst hs;exact⟨nS,.inr ⟨rfl,rfl⟩,ay.of (by rw[h72];simp at ht;simp[c4,ht,aP])⟩
   ·rw[if_neg hs] at ht
    exact⟨gq st,.inl rfl,ay.of (by rw[h72];simp[c4,ht,e0])⟩
  ·have ht:=agO hl st out (by omega)
   by_cases hs:st=[]
   ·subst hs;exact⟨gq out,.inl (by simp),ay.of (by rw[h72];simp at ht;simp[c4,ht,aP])⟩
   ·rw[if_neg hs] at ht
    exact⟨gq (out++st),.inl rfl,ay.of (by rw[h72];simp[c4,ht,e0])⟩
end
set_option maxRecDepth 10000
def FnR{α:Type}(F:Nat→α)(fl:List α):Prop:=∀j,j<fl.length→fl[j]? = some (F j)
theorem FnR.set{α:Type}{F:Nat→α}{fl:List α}(h:FnR F fl)(x:Nat)(v:α):FnR (upd F x v) (fl.set x v):=by
 intro j hj;rw[List.length_set] at hj;rw[List.getElem?_set];by_cases hx:x=j
 ·subst hx;rw[if_pos rfl,if_pos hj,Ca]
 ·rw[if_neg hx,upd_ne _ _ (fun h=>hx h.symm)];exact h j hj
theorem Rt.lt{F:Nat→Nat}{j a m:Nat}(h:Rt F j a)(hF:∀j,j<m→F j<m):j<m→a<m:=by
 induction h with
 |here a h=>exact id
 |go j a h r ih=>exact fun hj=>ih (hF j hj)
theorem Sq{c:List PV}(h:c.length=11):∃x0 x1 x2 x3 x4 x5 x6 x7 x8 x9 x10,c=[x0,x1,x2,x3,x4,x5,x6,x7,x8,x9,x10]:=by
 match c,h with
 |[x0,x1,x2,x3,x4,x5,x6,x7,x8,x9,x10],_=>exact⟨x0,x1,x2,x3,x4,x5,x6,x7,x8,x9,x10,rfl⟩
def ER(A:Nat→Ex)(B:List (List PV)):Prop:=∀j,j<B.length→∃c,B[j]? = some c∧AP (A j) c
theorem ER.exs(l:List Ex):ER (ve l) (l.map Ex.cells):=by
 intro j hj;rw[List.length_map] at hj;refine⟨eH (ve l j),?_,.plain _⟩;rw[List.getElem?_map,List.getElem?_eq_getElem hj];unfold ve;rw[List.getElem?_eq_getElem hj];simp[Ex.cells_eq]
theorem ER.set{A:Nat→Ex}{B:List (List PV)}(h:ER A B)(x:Nat){v:Ex}{c:List PV}(hc:AP v c):ER (upd A x v) (B.set x c):=by
 intro j hj;rw[List.length_set] at hj;rw[List.getElem?_set];by_cases hx:x=j
 ·subst hx;rw[if_pos rfl,if_pos hj,Ca];exact⟨c,rfl,hc⟩
 ·rw[if_neg hx,upd_ne _ _ (fun h=>hx h.symm)];exact h j hj
theorem ER.ns{A:Nat→Ex}{B:List (List PV)}(h:ER A B):NS (.rows B):=.rows _ fun c hc=>by
 obtain⟨j,hj,rfl⟩:=List.getElem_of_mem hc;obtain⟨c,h1,h2⟩:=h j hj;rw[List.getElem?_eq_getElem hj] at h1;cases h1;exact h2.n
theorem AP.wk{e:Ex}{c:List PV}(h:AP e c):AP e (nN c):=by
 refine⟨?_,by rw[BV];exact h.l,Gj h.n⟩;have:∀l,dL (nN l)=dL l:=by
  intro l
  induction l with
  |nil=>rfl
  |cons p l ih=>rw[nN,uj,uj,ih,Gl]
 rw[this];exact h.w
section
variable{β:Type}{d:β}{kp:PV→β}{A:Nat→Ex}{B:List (List PV)}
theorem ab7{i:Nat}{v:Ex}{c:List PV}(hB:ER A B)(hc:AP v c)(h:i<B.length):GA d (.rows B) (.lit (.int .i64 (i:Int))) 0 c kp=kp (.rows (B.set i c)):=by
 obtain⟨c0,h1,h2⟩:=hB i h;have hg:B.getD i []=c0:=by rw[List.getD_eq_getElem?_getD,h1];rfl
 have hs:setAt c0 0 c=c:=by
  unfold setAt;rw[List.take_zero,List.nil_append,List.drop_of_length_le (by rw[h2.l,hc.l];exact Nat.le_refl _),List.append_nil]
 refine kS (lD (fun w=>?_) (hB.set i hc).ns);constructor
 ·rintro⟨es,n,kd,g1,g2,g3,g4,g5,rfl,_⟩
  cases g1;cases g2;rw[Int.toNat_natCast,hg,hs]
 ·rintro rfl
  refine⟨_,_,_,rfl,rfl,by omega,by rw[Int.toNat_natCast];exact h,?_,?_,Dg (hB.set i hc).ns⟩
  ·rw[Int.toNat_natCast,hg,h2.l,hc.l];exact Nat.le_refl 11
  ·rw[Int.toNat_natCast,hg,hs]
theorem IW{k:AV→β}{i:Nat}{v:Ex}{c:List PV}(h1:B[i]? = some c)(h2:AP v c):fG PG d 51 (.pv (.rows B)) (.pv (.lit (.int .i64 (i:Int)))) k=k (.cptr c):=
 iy (fun _=>jL nQ h1 h2.l) (nW h2.n)
end
theorem YF(t:Tk){x y:Ex}{x0 x1 x2 x3 x4 x5 x6 x7 x8 x9 x10 y0 y1 y2 y3 y4 y5 y6 y7 y8 y9 y10:PV}(hx:AP x [x0,x1,x2,x3,x4,x5,x6,x7,x8,x9,x10])(hy:AP y [y0,y1,y2,y3,y4,y5,y6,y7,y8,y9,y10]):∃zs,ev (akv (iv t.kind) (sv t.text) (iv t.n) (iv t.at_) x0 x1 x2 x3 x4 x5 x6 x7 x8 x9 x10 y0 y1 y2 y3 y4 y5 y6 y7 y8 y9 y10)=some (0,zs)∧AP (opE t x y) zs:=by
 obtain⟨zs,h1,h2⟩:=ac0 t hx hy;exact⟨nN zs,ay.of (by rw[aqh];simp[h1]),h2.wk⟩
section
variable{ops:List Tk}{F:Nat→Nat}{fl:List Nat}
theorem aoM(hF:FnR F fl)(hin:∀j,j<fl.length→F j<fl.length){j a:Nat}(h:Rt F j a)(c e f g i all:PV):j<fl.length→
  ev (QU (iv j) (ops.map Tk.cells) c e f g i (gq fl) all)=some (0,gq fl::all::(zE++[iv a,.rows (ops.map Tk.cells),c,e,f,g,i])):=by
 induction h with
 |here a h=>
  intro hj;have hx:=fun k'=>iX (d:=aM.fail) (k:=k') (hF a hj)
  refine ay.of ?_;rw[SQ];simp[hx,eq_true (show ((F a:Nat):Int)=(a:Int) by rw[h])]
 |go j a h r ih=>
  intro hj;have hx:=fun k'=>iX (d:=aM.fail) (k:=k') (hF j hj)
  have ih:=ih (hin j hj);refine ay.of ?_;rw[SQ];simp[hx,eq_false (show ¬((F j:Nat):Int)=(j:Int) by omega),ih]
theorem ajW{r:List Nat}{F F':Nat→Nat}{A A':Nat→Ex}(h:Run ops r F A F' A'):∀(pre fl:List Nat) (B:List (List PV)),FnR F fl→ER A B→fl.length=B.length→fl.length=ops.length+1→(∀j,j<fl.length→F j<fl.length)→(∀x∈r,x<ops.length)→ops.length≤1000000→pre.length+r.length≤1000000→
  ∃fl' B',ER A' B'∧B'.length=B.length∧ev (GZ (iv pre.length) (iv (pre++r).length) (gq (pre++r)) (ops.map Tk.cells) (gq fl) (.rows B))=some (0,gq fl' :: .rows B'::(zE++[.rows (ops.map Tk.cells)])):=by
 induction h with
 |nil F A=>
  intro pre fl B hF hA hl hn hin hr ho hp;refine⟨fl,B,hA,rfl,ay.of ?_⟩;rw[SV];simp
 |cons i a r F F' A A' h hr2 ih=>
  intro pre fl B hF hA hl hn hin hr ho hp;have hi:=hr i (by simp);have ha:a<fl.length:=h.lt hin (by omega);have hin2:∀j,j<fl.length→upd F (i+1) a j<fl.length:=fun j hj=>by
   unfold upd;split
   ·exact ha
   ·exact hin j hj
  obtain⟨ca,a1,a2⟩:=hA a (by omega);obtain⟨ci,b1,b2⟩:=hA (i+1) (by omega);obtain⟨x0,x1,x2,x3,x4,x5,x6,x7,x8,x9,x10,rfl⟩:=Sq a2.l;obtain⟨y0,y1,y2,y3,y4,y5,y6,y7,y8,y9,y10,rfl⟩:=Sq b2.l;obtain⟨zs,hz1,hz2⟩:=YF (opAt ops i) a2 b2;obtain⟨z0,z1,z2,z3,z4,z5,z6,z7,z8,z9,z10,rfl⟩:=Sq hz2.l;obtain⟨fl',B',c1,c2,c3⟩:=ih (pre++[i]) (fl.set (i+1) a) (B.set a [z0,z1,z2,z3,z4,z5,z6,z7,z8,z9,z10]) (hF.set _ _) (hA.set _ hz2) (by simp[hl]) (by simpa using hn) (by simpa using hin2) (fun x hx=>hr x (by simp[hx])) ho (by simp at hp ⊢;omega);refine⟨fl',B',c1,by simpa using c2,ay.of ?_⟩;have e1:IntKind.i64.wrap ((pre.length:Int)+1)=((pre.length+1:Nat):Int):=by rw[aP (by omega)];omega
  have e2:IntKind.i64.wrap ((i:Int)+1)=((i+1:Nat):Int):=by rw[aP (by omega)];omega
  have hk:=fun k'=>iX (d:=aM.fail) (k:=k') (l:=pre++i::r) (i:=pre.length) (x:=i) (by rw[List.getElem?_append_right (by simp)];simp)
  have hrt:=aoM (ops:=ops) hF hin h (iv i) (iv (i+1:Nat)) (iv pre.length) (iv (pre++i::r).length) (gq (pre++i::r)) (.rows B) (by omega);have hop:∀k',fG PG aM.fail 66 (.pv (.rows (ops.map Tk.cells))) (.pv (.lit (.int .i64 (i:Int)))) k'=k' (.cptr [iv (opAt ops i).kind,sv (opAt ops i).text,iv (opAt ops i).n,iv (opAt ops i).at_]):=fun k'=>dY (d:=aM.fail) (k:=k') (uM hi)
  have hxa:=fun k'=>IW (d:=aM.fail) (k:=k') a1 a2
  have hxi:=fun k'=>IW (d:=aM.fail) (k:=k') b1 b2
  have hse:=fun k'=>ab7 (d:=aM.fail) (kp:=k') (i:=a) hA hz2 (by omega)
  have hfi:=fun k'=>iX (d:=aM.fail) (k:=k') (hF (i+1) (by omega))
  have hsf:=fun k'=>Gz (d:=aM.fail) (kp:=k') (l:=fl) (i:=i+1) (x:=a) (by omega)
  have e3:(pre++[i]).length=pre.length+1:=by simp
  rw[e3,List.append_assoc,List.singleton_append] at c3;rw[SV];have hlt:(pre.length:Int)<((pre++i::r).length:Int):=by simp;omega
  generalize (pre++i::r).length=len at *;generalize pre++i::r=ord at *;simp[-Int.natCast_add,hlt,hk,e2,hrt];simp[-Int.natCast_add,hop,hxa,hxi,hz1,hse,hfi,hsf,e1,c3]
theorem aeU(ops:List Tk)(p all:PV)(len:Nat)(hlen:len≤1000001):∀(n i:Nat) (fl:List Nat),len-i≤n→i≤len→fl.length=len→(∀j,j<i→fl[j]? = some j)→
  ∃fl',fl'.length=len∧FnR (fun j=>j) fl'∧ev (G5 (iv i) (iv len) p (ops.map Tk.cells) (gq fl) all)=some (0,gq fl'::all::(zE++[p,.rows (ops.map Tk.cells)])):=by
 intro n
 induction n with
 |zero=>
  intro i fl hn hi hl hf;refine⟨fl,hl,fun j hj=>hf j (by omega),ay.of ?_⟩;rw[Ja];simp[show ¬i<len by omega]
 |succ n ih=>
  intro i fl hn hi hl hf;by_cases h:i<len
  ·obtain⟨fl',c1,c2,c3⟩:=ih (i+1) (fl.set i i) (by omega) (by omega) (by simpa using hl) (fun j hj=>by
    rw[List.getElem?_set];by_cases hx:i=j
    ·subst hx;rw[if_pos rfl,if_pos (by omega)]
    ·rw[if_neg hx];exact hf j (by omega))
   have e1:IntKind.i64.wrap ((i:Int)+1)=((i+1:Nat):Int):=by rw[aP (by omega)];omega
   have hx:=fun k'=>iX (d:=aM.fail) (k:=k') (List.getElem?_eq_getElem (show i<fl.length by omega))
   have hsf:=fun k'=>Gz (d:=aM.fail) (kp:=k') (l:=fl) (i:=i) (x:=i) (by omega)
   refine⟨fl',c1,c2,ay.of ?_⟩;rw[Ja];simp[-Int.natCast_add,h,hx,hsf,e1,c3]
  ·refine⟨fl,hl,fun j hj=>hf j (by omega),ay.of ?_⟩
   rw[Ja];simp[h]
end
set_option maxRecDepth 10000
def af7(L:List Tk)(a:Nat)(d:Int)(v:List Ex×List Tk)(b:Nat)(z:Rs):Prop:=a≤b∧v.1.length=v.2.length+1∧(v.2≠[]∧v.2.length≤b)∧z=(3,ps L b d (zE++[exs v.1,.rows ((v.2.map Tk.text).map fun s=>[sv s]),.rows (v.2.map Tk.cells)]))
def alf(L:List Tk)(x:Ex)(a:Nat)(d:Int)(v:List Ex×List Tk)(b:Nat)(z:Rs):Prop:=v=([x],[])∧a≤b∧z=(1,ps L b d (exs [x]::(zE++[nS,nS])))∨af7 L a d v b z
section
variable{L:List Tk}(hW:Gg L)
include hW
theorem ajN{n:Nat}(ihO:∀m,m≤n→Pa L (pOp L) eH (fI L m)):∀(m:Nat),m≤n→∀(l:List Ex) (o:List Tk) (a:Nat) (d:Int),l.length=o.length+1→o≠[]∧o.length≤a→0≤d→d≤300→a<L.length→
  lI L (QW (o.map Tk.cells) ((o.map Tk.text).map fun s=>[sv s]) (aU L) (iv a) (iv d) (exs l)) (pM L m l o d a) (af7 L a d)
  (fun e x z=>∃(b:Nat) (d':Int),z=(2,ps L b d' (zE++[iv e,iv x]))):=by
 intro m hm
 induction m with
 |zero=>intro l o a d hl hb h0 h1 ha;rw[pM];trivial
 |succ m ih=>
  intro l o a d hl ⟨hne,hb⟩ h0 h1 ha;refine .of ?_;rw[pM.eq_2,aeB];have hLl:=hW.len;refine .kind (fun k5=>?_) (fun k5=>?_)
  ·refine .takeK (by decide) (fun _=>?_) (fun h=>absurd k5 h)
   have hl1:=hW.fin a (by omega);have m2:(o++[ai L a]).map Tk.cells=o.map Tk.cells++[[iv (ai L a).kind,sv (ai L a).text,iv (ai L a).n,iv (ai L a).at_]]:=by rw[List.map_append,List.map_cons,List.map_nil,Tk.cells]
   have m3:((o++[ai L a]).map Tk.text).map (fun x=>[sv x])=(o.map Tk.text).map (fun x=>[sv x])++[[sv (ai L a).text]]:=by rw[List.map_append,List.map_append,List.map_cons,List.map_nil,List.map_cons,List.map_nil]
   have a1:=fun k'=>aH (P:=PG) (d:=.fail) (k:=k') yT (PS o) (c:=[iv (ai L a).kind,sv (ai L a).text,iv (ai L a).n,iv (ai L a).at_]) rfl (by simp) (by simp;omega) (by decide)
   have a2:=fun k'=>aH (P:=PG) (d:=.fail) (k:=k') KC (mr (o.map Tk.text)) (c:=[sv (ai L a).text]) rfl (by simp) (by simp;omega) (by decide)
   have hln:∀(k:AV→aM),gG PG .fail 66 (.pv (.rows (o.map Tk.cells++[[iv (ai L a).kind,sv (ai L a).text,iv (ai L a).n,iv (ai L a).at_]]))) k=k (.pv (iv (o.length+1:Nat))):=fun k=>by
    rw[eY (fun _=>iQ yT _) (bD _)];simp
   have hix:∀(k:AV→aM),fG PG .fail 66 (.pv (.rows (o.map Tk.cells++[[iv (ai L a).kind,sv (ai L a).text,iv (ai L a).n,iv (ai L a).at_]]))) (.pv (.lit (.int .i64 (o.length:Int)))) k=k (.cptr [iv (ai L a).kind,sv (ai L a).text,iv (ai L a).n,iv (ai L a).at_]):=fun k=>by
    have:=dY (d:=aM.fail) (k:=k) (l:=o++[ai L a]) (i:=o.length) (x:=ai L a) (by rw[List.getElem?_append_right (Nat.le_refl _)];simp);rw[aU,m2] at this;exact this
   have e0:IntKind.i64.wrap (((o.length+1:Nat):Int)-1)=(o.length:Int):=by rw[aP (by omega)];omega
   simp[-Int.natCast_add,-List.map_map,eP ha,Tk.cells,eq_true k5,oN hW ha];simp only[a1,a2,hln,hix];simp[-Int.natCast_add,-List.map_map,a1,a2,hln,hix,e0];refine .callW (ihO m (by omega) (a+1) d h0 h1 hl1) (fun v b hb2 hab g=>?_) (fun e x b d' g=>?_)
   ·have a3:=fun k'=>aH (P:=PG) (d:=.fail) (k:=k') nQ (l7 l) (c:=eH v) rfl (by simp) (by simp;omega) (by decide)
    have m1:(l++[v]).map Ex.cells=l.map Ex.cells++[eH v]:=by rw[List.map_append,List.map_cons,List.map_nil,Ex.cells_eq]
    have hn:=ih (by omega) (l++[v]) (o++[ai L a]) b d (by simp[hl]) ⟨by simp,by simp;omega⟩ h0 h1 hb2;rw[m2,m3,exs,m1] at hn;simp[-Int.natCast_add,-List.map_map,g];rw[exs];simp only[a3];cases hr:pM L m (l++[v]) (o++[ai L a]) d b with
    |out=>trivial
    |err e x=>rw[hr] at hn;obtain⟨z,g1,b3,d',rfl⟩:=hn;exact⟨_,by simp[-List.map_map,g1],b3,d',rfl⟩
    |ok v2 b3=>rw[hr] at hn;obtain⟨hb3,z,g1,h5,h6,h7,rfl⟩:=hn;exact⟨hb3,_,by simp[-List.map_map,g1],by omega,h6,h7,rfl⟩
   ·exact⟨_,by simp[-Int.natCast_add,-List.map_map,g],b,d',rfl⟩
  ·exact .pure ha (by simp[-List.map_map,eP ha,Tk.cells,k5]) ⟨Nat.le_refl _,hl,⟨hne,hb⟩,rfl⟩
theorem ag4{n:Nat}(ihO:∀m,m≤n→Pa L (pOp L) eH (fI L m))(m:Nat)(hm:m≤n)(x:Ex)(a:Nat)(d:Int)(h0:0≤d)(h1:d≤300)(ha:a<L.length) :
  lI L (QX (aU L) (iv a) (iv d) (exs [x])) (pM L m [x] [] d a) (alf L x a d)
  (fun e y z=>∃(b:Nat) (d':Int),z=(0,ps L b d' (exs [x]::(zE++[iv e,iv y])))∨z=(2,ps L b d' (zE++[iv e,iv y]))):=by
 cases m with
 |zero=>rw[pM];trivial
 |succ m=>
  refine .of ?_;rw[pM.eq_2,aeC];have hLl:=hW.len;refine .kind (fun k5=>?_) (fun k5=>?_)
  ·refine .takeK (by decide) (fun _=>?_) (fun h=>absurd k5 h)
   have hl1:=hW.fin a (by omega);simp[-Int.natCast_add,-List.map_map,eP ha,Tk.cells,eq_true k5,oN hW ha];refine .callW (ihO m (by omega) (a+1) d h0 h1 hl1) (fun v b hb2 hab g=>?_) (fun e y b d' g=>?_)
   ·have a3:=fun k'=>aH (P:=PG) (d:=.fail) (k:=k') nQ (l7 [x]) (c:=eH v) rfl (by simp) (by simp) (by decide)
    have m1:([x]++[v]).map Ex.cells=[x].map Ex.cells++[eH v]:=by rw[List.map_append,List.map_cons,List.map_nil,List.map_cons,List.map_nil,Ex.cells_eq v]
    have hn:=ajN hW ihO m (by omega) ([x]++[v]) [ai L a] b d (by simp) ⟨by simp,by simp;omega⟩ h0 h1 hb2;rw[exs,m1] at hn;simp only[List.map_cons,List.map_nil,Tk.cells] at hn;simp[-Int.natCast_add,-List.map_map,g];rw[exs];simp only[List.map_cons,List.map_nil] at a3 hn ⊢;simp only[a3];cases hr:pM L m ([x]++[v]) [ai L a] d b with
    |out=>simp only[List.cons_append,List.nil_append] at hr;rw[hr];trivial
    |err e y=>rw[hr] at hn;simp only[List.cons_append,List.nil_append] at hr;rw[hr];obtain⟨z,g1,b3,d',rfl⟩:=hn;simp only[List.cons_append,List.nil_append] at g1;exact⟨_,by simp[-List.map_map,g1],b3,d',.inr rfl⟩
    |ok v2 b3=>rw[hr] at hn;simp only[List.cons_append,List.nil_append] at hr;rw[hr];obtain⟨hb3,z,g1,h5,h6,h7,rfl⟩:=hn;simp only[List.cons_append,List.nil_append] at g1;exact⟨hb3,_,by simp[-List.map_map,g1],.inr ⟨by omega,h6,h7,rfl⟩⟩
   ·exact⟨_,by simp[-Int.natCast_add,-List.map_map,g],b,d',.inl rfl⟩
  ·exact .pure ha (by simp[-List.map_map,eP ha,Tk.cells,k5]) (.inl ⟨rfl,Nat.le_refl _,rfl⟩)
omit hW in
theorem CK(V:Nat→Nat):∀(n f to:Nat),f≤to→∀t∈oM V n f to,f≤t∧t<to
 |0,f,to,h,t,ht=>by simp[oM] at ht
 |n+1,f,to,h,t,ht=>by
  rw[oM] at ht;split at ht
  ·simp at ht
  ·rename_i hf
   have hl:=nH V (f:=f) (to:=to) (by omega);rcases List.mem_append.1 ht with ht|ht
   ·rcases List.mem_append.1 ht with ht|ht
    ·have:=CK V n f _ hl.1 t ht;omega
    ·have:=CK V n _ to (by omega) t ht;omega
   ·rw[List.mem_singleton.1 ht];exact hl
omit hW in
theorem amd{l:List Ex}{o:List Tk}(hl:l.length=o.length+1)(ho:o.length≤1000000)(hc:iK (AX o) o.length o.length 0=none) :
  ∃(p:PV) (r:List Nat) (fl fl':List Nat) (B:List (List PV)) (c:List PV),afw p r∧r.length≤o.length∧
   ev (q72 (.rows ((o.map Tk.text).map fun s=>[sv s])))=some (0,[p,iv 0,iv 0])∧
   ev (G5 (iv 0) (iv (o.length+1:Nat)) p (o.map Tk.cells) (gq (List.replicate (o.length+1) 0)) (exs l))=some (0,gq fl::exs l::(zE++[p,.rows (o.map Tk.cells)]))∧
   (o≠[]→p=gq r∧ev (GZ (iv 0) (iv r.length) (gq r) (o.map Tk.cells) (gq fl) (exs l))=some (0,gq fl' :: .rows B::(zE++[.rows (o.map Tk.cells)])))∧
   (o≠[]→B[0]? = some c∧AP (fQ l o o.length 0 o.length) c):=by
 have ht:=Ih (l:=o.map Tk.text) (by simpa using ho);have hor:=CX (dw (o.map Tk.text)) o.length o.length 0 (Nat.zero_le _) (by omega);have e1:yS (dw (o.map Tk.text)) 0 0 0=[]:=rfl;have e2:NV (dw (o.map Tk.text)) 0 0 0=[]:=rfl;rw[e1,e2,xe ho,hc] at hor;rw[xe ho,List.length_map,hor] at ht;obtain⟨h1,p,h2,h3⟩:=ht;obtain⟨fl,f1,f2,f3⟩:=aeU o p (exs l) (o.length+1) (by omega) (o.length+1) 0 (List.replicate (o.length+1) 0) (by omega) (Nat.zero_le _) (by simp) (fun j hj=>by omega);obtain⟨F',A',r1,r2,r3,r4⟩:=acz l o o.length 0 o.length (fun j=>j) (ve l) (Nat.zero_le _) (by omega) (fun j _ _=>⟨rfl,rfl⟩);obtain⟨fl',B,b1,b2,b3⟩:=ajW r1 [] fl (l.map Ex.cells) f2 (ER.exs l) (by rw[f1,List.length_map,hl]) f1 (fun j hj=>hj) (fun x hx=>(CK _ _ _ _ (Nat.zero_le _) x hx).2) ho (by simp;omega);obtain⟨c,c1,c2⟩:=b1 0 (by rw[b2,List.length_map];omega);rw[r3] at c2;refine⟨p,_,fl,fl',B,c,h2,h1,h3,f3,fun ho=>?_,fun _=>⟨c1,c2⟩⟩;rcases h2 with rfl|⟨h4,rfl⟩
 ·exact⟨rfl,b3⟩
 ·exfalso
  have:0<o.length:=List.length_pos_iff.2 ho;rw[NM (AX o) this] at h4;simp at h4
omit hW in
theorem Y8{β:Type}{d:β}{k:AV→β}{p:PV}{r:List Nat}(h:afw p r):gG PG d 47 (.pv p) k=k (.pv (iv r.length)):=by
 rcases h with rfl|⟨rfl,rfl⟩
 ·simp
 ·exact eY (fun r=>by
   have h:∀ty,gU PG .len #[47] ty [.pv nS]=some (.pv (.lit (.int .i64 0))):=fun ty=>by kernel_rfl
   constructor
   ·intro hr
    have h1:=hr 0;rw[h 0] at h1;exact(Option.some.inj h1).symm
   ·rintro rfl;exact h) (bD _)
omit hW in
theorem Y9{β:Type}{d:β}{k:AV→β}(x:Ex):gG PG d 51 (.pv (exs [x])) k=k (.pv (iv 1)):=by
 rw[exs,eY (fun _=>iQ nQ _) (bD _)];simp
omit hW in
theorem amc:∃p,afw p []∧ev (q72 (.rows []))=some (0,[p,iv 0,iv 0]):=by
 have h:=Ih (l:=[]) (by simp);have e:gF (dw []) ([]:List ByteArray).length ([]:List ByteArray).length 0 [] []=.ok []:=rfl;rw[e] at h;exact h.2
omit hW in
theorem ame(p:PV)(x:Ex):ev (G6 (iv 0) (iv 1) p (gq [0]) (exs [x]))=some (0,gq [0]::exs [x]::(zE++[p,nS]))∧ev (QV (iv 0) (iv 0) p (gq [0]) (exs [x]))=some (0,gq [0]::exs [x]::zE):=by
 constructor
 ·have h1:ev (G6 (iv 1) (iv 1) p (gq [0]) (exs [x]))=some (0,gq [0]::exs [x]::(zE++[p,nS])):=ay.of (by rw[SX];simp)
  have hx:∀(k':AV→aM),fG PG aM.fail 47 (.pv (gq [0])) (.pv (iv 0)) k'=k' (.cptr [iv 0]):=fun k'=>iX (d:=aM.fail) (k:=k') (l:=[0]) (i:=0) (x:=0) rfl
  have hs:∀(k':PV→aM),GA aM.fail (gq [0]) (iv 0) 0 [iv 0] k'=k' (gq [0]):=fun k'=>Gz (d:=aM.fail) (kp:=k') (l:=[0]) (i:=0) (x:=0) (by simp)
  have w1:IntKind.i64.wrap 1=1:=aP (by decide);exact ay.of (by rw[SX];simp[hx,hs,w1,h1])
 ·exact ay.of (by rw[aeA];simp)
theorem ajP{n:Nat}(ihO:∀m,m≤n→Pa L (pOp L) eH (fI L m)):Pa L (R6 L) eH (fK L (n+1)):=by
 intro a d h0 h1 ha;refine .weak (alV ev _ _ _) (.of ?_);rw[fK.eq_2,aqE];have hLl:=hW.len;simp[NU hW ha h0 h1];refine .deep (fun hd=>?_) (fun hd=>?_)
 ·exact⟨_,by simp[hd],.of (m:=[1,0]) (b:=a) (d:=d+1) (k:=0) rfl⟩
 ·simp[hd]
  have hw:IntKind.i64.wrap d=d:=aP (by omega);refine .callW (ihO n (Nat.le_refl _) a (d+1) (by omega) (by omega) ha) (fun x b hb hab g=>?_) (fun e y b d' g=>?_)
  ·simp[g]
   have hapx:=fun k'=>aH (P:=PG) (d:=.fail) (k:=k') nQ (Raw.nil 11) (c:=eH x) rfl (by simp) (by simp) (by decide)
   simp only[hapx,List.nil_append];refine .bind (ag4 hW ihO n (Nat.le_refl _) x b (d+1) (by omega) (by omega) hb) (fun v b2 z hb2 g2 hz=>?_) (fun e y z g2 hz=>?_)
   ·rcases hz with⟨rfl,h5,rfl⟩|⟨h5,h6,h7,rfl⟩
    ·obtain⟨p,p1,p2⟩:=amc
     obtain⟨q1,q2⟩:=ame p x;have hlp:∀(k':AV→aM),gG PG aM.fail 47 (.pv p) k'=k' (.pv (iv 0)):=fun k'=>by simpa using Y8 (d:=aM.fail) (k:=k') p1
     have hm:∀(k':PV→aM),mkK PG aM.fail 47 (.pv (iv 1)) k'=k' (gq [0]):=fun k'=>YZ (d:=aM.fail) (kp:=k') (n:=1) (by decide)
     have hx:∀(k':AV→aM),fG PG aM.fail 51 (.pv (exs [x])) (.pv (iv 0)) k'=k' (.cptr (eH x)):=fun k'=>tF (d:=aM.fail) (k:=k') (l:=[x]) (i:=0) (x:=x) rfl
     have hL1:∀(k':AV→aM),gG PG aM.fail 51 (.pv (exs [x])) k'=k' (.pv (iv 1)):=fun k'=>Y9 x
     have he1:exs [x]=.rows [eH x]:=fe x;rw[he1] at q1 q2 hx hL1 g2;simp only[zE,ps,List.cons_append,List.nil_append] at q1 q2 g2;show oo L (aX x (d+1) b2) (okW L a d [1,0] eH) (erW L [1,0]) _;exact .pure hb2 (by simp[g2,p2,hL1,hm,q1,hlp,q2,hx,hw]) (.of (m:=[1,0]) (k:=1) (ys:=eH x) (by omega) rfl (by simp))
    ·obtain⟨l,o⟩:=v
     obtain⟨hne,h7⟩:=h7;simp only at h6 hne h7 g2 ⊢;have hlo:∀(k':AV→aM),gG PG aM.fail 51 (.pv (exs l)) k'=k' (.pv (iv (o.length+1:Nat))):=fun k'=>by rw[exs,eY (fun _=>iQ nQ _) (bD _),List.length_map,h6]
     simp only[ps,List.cons_append,List.nil_append] at g2;rw[fe] at g2;unfold rG;cases hcl:iK (AX o) o.length o.length 0 with
     |some k=>
      have ht:=Ih (l:=o.map Tk.text) (by simp;omega);have hor:=CX (dw (o.map Tk.text)) o.length o.length 0 (Nat.zero_le _) (by omega);have e1:yS (dw (o.map Tk.text)) 0 0 0=[]:=rfl;have e2:NV (dw (o.map Tk.text)) 0 0 0=[]:=rfl;rw[e1,e2,xe hLl,hcl] at hor;rw[xe hLl,List.length_map,hor] at ht;have hk:k<o.length:=zH hLl _ _ _ _ _ hcl;have hop:∀k',fG PG aM.fail 66 (.pv (.rows (o.map Tk.cells))) (.pv (.lit (.int .i64 (k:Int)))) k'=k' (.cptr [iv (opAt o k).kind,sv (opAt o k).text,iv (opAt o k).n,iv (opAt o k).at_]):=fun k'=>dY (d:=aM.fail) (k:=k') (uM hk)
      have ht:ev (q72 (.rows ((o.map Tk.text).map fun s=>[sv s])))=some (0,[nS,iv k,iv 112]):=ht;generalize hG:o.map Tk.cells=G at *;generalize hT:(o.map Tk.text).map (fun s=>[sv s])=T at *;exact⟨_,by simp[-Int.natCast_add,g2,ht,hop,nV hW,hw],.of (m:=[1,0]) (b:=b2) (d:=d) (k:=0) rfl⟩
     |none=>
      obtain⟨p,r,fl,fl',B,c,p1,p2,p3,p4,p5,p6⟩:=amd h6 (by omega) hcl;obtain⟨rfl,p8⟩:=p5 hne;obtain⟨p9,p7⟩:=p6 hne;obtain⟨x0,x1,x2,x3,x4,x5,x6,x7,x8,x9,x10,rfl⟩:=Sq p7.l;have hm:=fun k'=>YZ (d:=aM.fail) (kp:=k') (n:=o.length+1) (by omega)
      have hx:∀(k':AV→aM),fG PG aM.fail 51 (.pv (.rows B)) (.pv (iv 0)) k'=k' (.cptr [x0,x1,x2,x3,x4,x5,x6,x7,x8,x9,x10]):=fun k'=>IW (d:=aM.fail) (k:=k') (i:=0) p9 p7
      have hlr:=fun k'=>adh (d:=aM.fail) (k:=k') r
      generalize hG:o.map Tk.cells=G at *;generalize hT:(o.map Tk.text).map (fun s=>[sv s])=T at *;simp only[zE,List.cons_append,List.nil_append] at p4 p8;exact .pure hb2 (by simp[-Int.natCast_add,g2,p3,hlo,hm,p4,p8,hx,hw]) (.of (m:=[1,0]) (k:=1) (ys:=[x0,x1,x2,x3,x4,x5,x6,x7,x8,x9,x10]) (by omega) rfl (by rw[p7.w,Ex.cells_eq]))
   ·obtain⟨b2,d',rfl|rfl⟩:=hz
    ·rw[fe] at g2
     exact⟨_,by simp[g2];rfl,.of (m:=[1,0]) (b:=b2) (k:=0) rfl⟩
    ·rw[fe] at g2
     exact⟨_,by simp[g2];rfl,.of (m:=[1,0]) (b:=b2) (k:=0) rfl⟩
  ·exact⟨_,by simp[g],.of (m:=[1,0]) (b:=b) (d:=IntKind.i64.wrap (d'-1)) (k:=0) rfl⟩
end
set_option maxRecDepth 10000
section
variable{L:List Tk}(hW:Gg L)
include hW
theorem aoK{n:Nat}(ihE:∀m,m≤n→Pa L (R6 L) eH (fK L m)):∀m,m≤n→Pa L (pAm L) eH (iY L m)
 |0,_=>fun a d _ _ _=>by rw[iY];trivial
 |m+1,h=>ag8 hW fun k hk=>ihE k (by omega)
theorem aoJ:∀n,(∀m,m≤n→Pa L (R6 L) eH (fK L m))∧(∀m,m≤n→Pa L (pOp L) eH (fI L m)):=by
 intro n
 induction n with
 |zero=>exact⟨fun m hm=>by rw[show m=0 by omega];exact fun a d _ _ _=>by rw[fK];trivial,fun m hm=>by rw[show m=0 by omega];exact fun a d _ _ _=>by rw[fI];trivial⟩
 |succ n ih=>
  obtain⟨ihE,ihO⟩:=ih;refine⟨fun m hm=>?_,fun m hm=>?_⟩
  ·by_cases h:m=n+1
   ·subst h;exact ajP hW ihO
   ·exact ihE m (by omega)
  ·by_cases h:m=n+1
   ·subst h
    refine UC hW ihE (aoK hW ihE) (fun m hm w a d h0 h1 ha=>?_) (fun m hm a d h0 h1 ha hl=>?_)
    ·cases m with
     |zero=>rw[iw];trivial
     |succ m=>exact WG hW (fun k hk=>ihE k (by omega)) w a d h0 h1 ha
    ·cases m with
     |zero=>
      refine .may (fun h=>?_) (fun h=>?_)
      ·rw[qY];trivial
      ·rw[qY];trivial
     |succ m=>exact ajO hW (fun k hk=>ihE k (by omega)) a d h0 h1 ha hl
   ·exact ihO m (by omega)
theorem aoI(n:Nat):Pa L (R6 L) eH (fK L n):=(aoJ hW n).1 n (Nat.le_refl _)
theorem yZ:∀n:Nat,Pa L (pBd L) fZ (AO L n)
 |0=>fun a d _ _ _=>by rw[AO];trivial
 |n+1=>WL hW (aoI hW n)
end
set_option maxRecDepth 10000
def okU(L:List Tk)(a:Nat)(d:Int)(k:Nat)(v:List ByteArray)(b:Nat)(z:Rs):Prop:=a≤b∧v.length≤b∧z=(k,ps L b d [.rows (v.map fun s=>[sv s])])
section
variable{L:List Tk}(hW:Gg L)
include hW
theorem ajK:∀(m:Nat) (l:List ByteArray) (a:Nat) (d:Int),a<L.length→l.length≤a→lI L (Qi (l.map fun s=>[sv s]) (aU L) (iv a) (iv d)) (pG L m l d a) (okU L a d 3) (fun e w z=>∃b:Nat,z=(2,ps L b d [iv e,iv w])):=by
 intro m
 induction m with
 |zero=>intro l a d ha hl;rw[pG];trivial
 |succ m ih=>
  intro l a d ha hl;refine .of ?_;rw[pG.eq_2,adY];simp[bL hW ha];refine .may (fun hs=>?_) (fun hs=>?_)
  ·have h1:=ax hW hs
   simp[-Int.natCast_add,hs];refine .takeK (by decide) (fun k2=>?_) (fun k2=>?_)
   ·have h2:=hW.fin (a+1) (by omega)
    have hap:=fun k'=>aH (P:=PG) (d:=.fail) (k:=k') KC (mr l) (c:=[sv (ai L (a+1)).text]) rfl (by simp) (by have:=hW.len;simp;omega) (by decide)
    have hn:=ih (l++[(ai L (a+1)).text]) (a+1+1) d h2 (by simp;omega);rw[List.map_append,List.map_cons,List.map_nil] at hn;simp[-Int.natCast_add,cu hW h1,k2,Tk.cells];simp only[hap];cases hr:pG L m (l++[(ai L (a+1)).text]) d (a+1+1) with
    |out=>trivial
    |err e x=>rw[hr] at hn;obtain⟨z,g1,b,rfl⟩:=hn;exact⟨_,by simp[-Int.natCast_add,g1],b,rfl⟩
    |ok v b=>rw[hr] at hn;obtain⟨hb,z,g1,h5,h6,rfl⟩:=hn;exact⟨hb,_,by simp[-Int.natCast_add,g1],by omega,h6,rfl⟩
   ·exact⟨_,by simp[-Int.natCast_add,cu hW h1,k2],a+1,rfl⟩
  ·exact .pure ha (by simp[hs]) ⟨Nat.le_refl _,hl,rfl⟩
theorem ag0(m:Nat)(x:ByteArray)(a:Nat)(d:Int)(ha:a<L.length)(hl:1≤a):lI L (Qj [[sv x]] (aU L) (iv a) (iv d)) (pG L m [x] d a)
  (fun v b z=>v=[x]∧okU L a d 1 v b z∨okU L a d 3 v b z) (fun e w z=>∃b:Nat,z=(0,ps L b d [iv e,iv w,.rows [[sv x]]])∨z=(2,ps L b d [iv e,iv w])):=by
 cases m with
 |zero=>rw[pG];trivial
 |succ m=>
  refine .of ?_;rw[pG.eq_2,adZ];simp[bL hW ha];refine .may (fun hs=>?_) (fun hs=>?_)
  ·have h1:=ax hW hs
   simp[-Int.natCast_add,hs];refine .takeK (by decide) (fun k2=>?_) (fun k2=>?_)
   ·have h2:=hW.fin (a+1) (by omega)
    have hap:=fun k'=>aH (P:=PG) (d:=.fail) (k:=k') KC (mr [x]) (c:=[sv (ai L (a+1)).text]) rfl (by simp) (by simp) (by decide)
    have hn:=ajK hW m ([x]++[(ai L (a+1)).text]) (a+1+1) d h2 (by simp);rw[List.map_append,List.map_cons,List.map_nil,List.map_cons,List.map_nil] at hn;simp only[List.map_cons,List.map_nil] at hap;simp[-Int.natCast_add,cu hW h1,k2,Tk.cells];simp only[hap];simp only[List.cons_append,List.nil_append] at hn ⊢;cases hr:pG L m [x,(ai L (a+1)).text] d (a+1+1) with
    |out=>trivial
    |err e x=>rw[hr] at hn;obtain⟨z,g1,b,rfl⟩:=hn;exact⟨_,by simp[-Int.natCast_add,g1],b,.inr rfl⟩
    |ok v b=>rw[hr] at hn;obtain⟨hb,z,g1,h5,h6,rfl⟩:=hn;exact⟨hb,_,by simp[-Int.natCast_add,g1],.inr ⟨by omega,h6,rfl⟩⟩
   ·exact⟨_,by simp[-Int.natCast_add,cu hW h1,k2],a+1,.inl rfl⟩
  ·exact .pure ha (by simp[hs]) (.inl ⟨rfl,Nat.le_refl _,by simpa using hl,rfl⟩)
theorem GJ(m:Nat)(a:Nat)(d:Int)(ha:a<L.length):lI L (acG (aU L) (iv a) (iv d)) (jV L m d a)
  (fun v b z=>a<b∧v.length≤b∧z=(0,ps L b d [.rows (v.map fun s=>[sv s])])) (fun e w z=>∃b:Nat,z=(1,ps L b d [iv e,iv w])):=by
 refine .of ?_;unfold jV;rw[aqd];refine .takeK (by decide) (fun k2=>?_) (fun k2=>?_)
 ·have h1:=hW.fin a (by omega)
  simp[-Int.natCast_add,cu hW ha,k2,Tk.cells];have hn:=ag0 hW m (ai L a).text (a+1) d h1 (by omega);cases hr:pG L m [(ai L a).text] d (a+1) with
  |out=>trivial
  |err e x=>
   rw[hr] at hn;obtain⟨z,g1,b,rfl|rfl⟩:=hn
   ·exact⟨_,by simp[-Int.natCast_add,g1],b,rfl⟩
   ·exact⟨_,by simp[-Int.natCast_add,g1],b,rfl⟩
  |ok v b=>
   rw[hr] at hn;obtain⟨hb,z,g1,⟨rfl,h5,h6,rfl⟩|⟨h5,h6,rfl⟩⟩:=hn
   ·simp only[List.map_cons,List.map_nil] at g1
    exact⟨hb,_,by simp[-Int.natCast_add,g1],by omega,h6,rfl⟩
   ·exact⟨hb,_,by simp[-Int.natCast_add,g1],by omega,h6,rfl⟩
 ·exact⟨_,by simp[cu hW ha,k2],a,rfl⟩
omit hW in
theorem Gm{a b:Nat}{d:Int}{v:List ByteArray}(h:ev (acG (aU L) (iv a) (iv d))=some (0,ps L b d [.rows (v.map fun s=>[sv s])])):ev (Xl (aU L) (iv a) (iv d))=some (0,ps L b d [.rows (v.map fun s=>[sv s])]):=ay.of (by
 have:kP (strs v)=strs v:=by simp
 rw[strs] at this;have hk:nth 0 [0,1] 0=0:=rfl;rw[agb ev,h,jb,hk];simp[this])
omit hW in
theorem BZ{a b:Nat}{d e w:Int}(h:ev (acG (aU L) (iv a) (iv d))=some (1,ps L b d [iv e,iv w])):ev (Xl (aU L) (iv a) (iv d))=some (1,ps L b d [iv e,iv w]):=ay.of (by
 have hk:nth 0 [0,1] 1=1:=rfl;rw[agb ev,h,jb,hk])
theorem ag3(nm:ByteArray)(at_:Int):∀(m:Nat) (l:List ByteArray) (a:Nat) (d:Int),a<L.length→l.length≤a→lI L (QO (aU L) (iv a) (iv d) (sv nm) (l.map fun s=>[sv s]) (iv at_)) (kr L m l d a)
  (fun v b z=>a≤b∧v.length≤b∧z=(1,ps L b d [sv nm,.rows (v.map fun s=>[sv s]),nS,nS,iv at_,sv eB,nS,nS,nS,iv 0])) (fun e w z=>False):=by
 intro m
 induction m with
 |zero=>intro l a d ha hl;rw[kr];trivial
 |succ m ih=>
  intro l a d ha hl;refine .of ?_;rw[kr.eq_2,aew];refine .kind (fun k1=>?_) (fun k1=>?_)
  ·refine .takeK (by decide) (fun _=>?_) (fun h=>absurd k1 h)
   have h2:=hW.fin a (by omega);have hap:=fun k'=>aH (P:=PG) (d:=.fail) (k:=k') KC (mr l) (c:=[sv (ai L a).text]) rfl (by simp) (by have:=hW.len;simp;omega) (by decide)
   have hn:=ih (l++[(ai L a).text]) (a+1) d h2 (by simp;omega);rw[List.map_append,List.map_cons,List.map_nil] at hn;simp[-Int.natCast_add,eP ha,Tk.cells,eq_true k1,oN hW ha];simp only[hap];cases hr:kr L m (l++[(ai L a).text]) d (a+1) with
   |out=>trivial
   |err e x=>rw[hr] at hn;obtain⟨z,g1,hf⟩:=hn;exact hf.elim
   |ok v b=>rw[hr] at hn;obtain⟨hb,z,g1,h5,h6,rfl⟩:=hn;exact⟨hb,_,by simp[-Int.natCast_add,g1],by omega,h6,rfl⟩
  ·exact .pure ha (by simp[eP ha,Tk.cells,k1]) ⟨Nat.le_refl _,hl,rfl⟩
theorem acg(nm:ByteArray)(at_:Int)(m:Nat)(a:Nat)(d:Int)(ha:a<L.length):lI L (QR (aU L) (iv a) (iv d) (sv nm) (iv at_)) (kr L m [] d a)
  (fun v b z=>a≤b∧v.length≤b∧(v=[]∧z=(0,ps L b d [sv nm,nS,nS,nS,iv at_,sv eB,nS,nS,nS,iv 0])∨z=(1,ps L b d [sv nm,.rows (v.map fun s=>[sv s]),nS,nS,iv at_,sv eB,nS,nS,nS,iv 0]))) (fun e w z=>False):=by
 cases m with
 |zero=>rw[kr];trivial
 |succ m=>
  refine .of ?_;rw[kr.eq_2,aex];refine .kind (fun k1=>?_) (fun k1=>?_)
  ·refine .takeK (by decide) (fun _=>?_) (fun h=>absurd k1 h)
   have h2:=hW.fin a (by omega);have hn:=ag3 hW nm at_ m [(ai L a).text] (a+1) d h2 (by simp);rw[List.map_cons,List.map_nil] at hn;simp[-Int.natCast_add,eP ha,Tk.cells,eq_true k1,oN hW ha];cases hr:kr L m [(ai L a).text] d (a+1) with
   |out=>trivial
   |err e x=>rw[hr] at hn;obtain⟨z,g1,hf⟩:=hn;exact hf.elim
   |ok v b=>rw[hr] at hn;obtain⟨hb,z,g1,h5,h6,rfl⟩:=hn;exact⟨hb,_,by simp[-Int.natCast_add,g1],by omega,h6,.inr rfl⟩
  ·exact .pure ha (by simp[eP ha,Tk.cells,k1]) ⟨Nat.le_refl _,by simp,.inl ⟨rfl,rfl⟩⟩
end
set_option maxRecDepth 10000
abbrev tz(da:Int):List PV:=[nS,iv da,sv eB,nS,nS,nS,iv 0]
theorem Cn.raw{x:Cn}{X:PV}(h:X=nS∧x.args=[]∨X=.rows (x.args.map Ty.cells)):dL [sv x.name,X,iv x.at_]=x.cells∧kM [sv x.name,X,iv x.at_]:=by
 rcases h with⟨rfl,h⟩|rfl
 ·exact⟨by simp[Cn.cells,h],by simp⟩
 ·have hw:kP (bH x.args)=bH x.args:=by simp
  have hn:NS (bH x.args):=by simp
  rw[bH] at hw hn;exact⟨by simp[Cn.cells,hw,bH],by simp[hn]⟩
theorem rU(l:List ByteArray):kP (.rows (l.map fun s=>[sv s]))=.rows (l.map fun s=>[sv s]):=by
 have:kP (strs l)=strs l:=by simp
 rw[strs] at this;exact this
section
variable{L:List Tk}(hW:Gg L)
include hW
theorem WQ(cn:ByteArray)(ca:Int)(dn:ByteArray)(da:Int):∀(m:Nat) (l:List Ty) (a:Nat) (d:Int),0≤d→d≤300→a<L.length→l.length≤a→lI L (QF (aU L) (iv a) (iv d) (sv cn) (l.map Ty.cells) (iv ca) (sv dn) (iv da)) (bC L m l d a)
  (fun v b z=>a≤b∧v.length≤b∧z=(3,ps L b d (sv cn :: .rows (v.map Ty.cells)::iv ca::sv dn::nS::nS::tz da))) (fun e w z=>∃(b:Nat) (d':Int) (T:PV),z=(2,ps L b d' (sv cn::T::iv ca::sv dn::nS::nS::(tz da++[iv e,iv w])))):=by
 intro m
 induction m with
 |zero=>intro l a d h0 h1 ha hl;unfold bC;rw[ol];trivial
 |succ m ih=>
  intro l a d h0 h1 ha hl;refine .of ?_;rw[bQ,aek];simp[jR hW ha];refine .st (fun hs=>?_) (fun hs=>?_)
  ·simp[hs]
   refine .callW (s_at hW m a d h0 h1 ha) (fun v b hb hab g=>?_) (fun e w b d' g=>?_)
   ·simp[g]
    have hap:=fun k'=>aH (P:=PG) (d:=.fail) (k:=k') Fg (kU l) (c:=oq v) rfl (by simp) (by have:=hW.len;simp;omega) (by decide)
    simp[hap];have hn:=ih (l++[v]) b d h0 h1 hb (by simp;omega);rw[List.map_append,List.map_cons,List.map_nil,Ty.cells_eq v] at hn;cases hr:bC L m (l++[v]) d b with
    |out=>trivial
    |err e w=>rw[hr] at hn;obtain⟨z,g1,b2,d',T,rfl⟩:=hn;exact⟨_,by simp[g1],b2,d',T,rfl⟩
    |ok v2 b2=>rw[hr] at hn;obtain⟨hb2,z,g1,h5,h6,rfl⟩:=hn;exact⟨hb2,_,by simp[g1],by omega,h6,rfl⟩
   ·exact⟨_,by simp[g],b,d',.rows (l.map Ty.cells),rfl⟩
  ·exact .pure ha (by simp[hs]) ⟨Nat.le_refl _,hl,rfl⟩
theorem UJ(cn:ByteArray)(ca:Int)(dn:ByteArray)(da:Int)(m:Nat)(a:Nat)(d:Int)(h0:0≤d)(h1:d≤300)(ha:a<L.length):lI L (QJ (aU L) (iv a) (iv d) (sv cn) (iv ca) (sv dn) (iv da)) (bC L m [] d a)
  (fun v b z=>a≤b∧(v=[]∧z=(1,ps L b d (sv cn::nS::iv ca::sv dn::nS::nS::tz da))∨v.length≤b∧z=(3,ps L b d (sv cn :: .rows (v.map Ty.cells)::iv ca::sv dn::nS::nS::tz da))))
  (fun e w z=>∃(b:Nat) (d':Int),z=(0,ps L b d' (sv cn::nS::iv ca::sv dn::nS::nS::(tz da++[iv e,iv w])))∨∃T,z=(2,ps L b d' (sv cn::T::iv ca::sv dn::nS::nS::(tz da++[iv e,iv w])))):=by
 cases m with
 |zero=>unfold bC;rw[ol];trivial
 |succ m=>
  refine .of ?_;rw[bQ,aeo];simp[jR hW ha];refine .st (fun hs=>?_) (fun hs=>?_)
  ·simp[hs]
   refine .callW (s_at hW m a d h0 h1 ha) (fun v b hb hab g=>?_) (fun e w b d' g=>?_)
   ·simp[g]
    have hn:=WQ hW cn ca dn da m [v] b d h0 h1 hb (by simp;omega);rw[List.map_cons,List.map_nil,Ty.cells_eq v] at hn;cases hr:bC L m [v] d b with
    |out=>trivial
    |err e w=>rw[hr] at hn;obtain⟨z,g1,b2,d',T,rfl⟩:=hn;exact⟨_,by simp[g1],b2,d',.inr ⟨T,rfl⟩⟩
    |ok v2 b2=>rw[hr] at hn;obtain⟨hb2,z,g1,h5,h6,rfl⟩:=hn;exact⟨hb2,_,by simp[g1],by omega,.inr ⟨h6,rfl⟩⟩
   ·exact⟨_,by simp[g],b,d',.inl rfl⟩
  ·exact .pure ha (by simp[hs]) ⟨Nat.le_refl _,.inl ⟨rfl,rfl⟩⟩
theorem WO(CC:List (List PV))(cn:ByteArray)(ca:Int)(dn:ByteArray)(da:Int):∀(m:Nat) (l:List Ty) (a:Nat) (d:Int),0≤d→d≤300→a<L.length→l.length≤a→lI L (QD (aU L) (iv a) (iv d) (sv cn) (l.map Ty.cells) (iv ca) (sv dn) CC (iv da)) (bC L m l d a)
  (fun v b z=>a≤b∧v.length≤b∧z=(7,ps L b d (sv cn :: .rows (v.map Ty.cells)::iv ca::sv dn::nS :: .rows CC::tz da))) (fun e w z=>∃(b:Nat) (d':Int) (T:PV),z=(6,ps L b d' (sv cn::T::iv ca::sv dn::nS :: .rows CC::(tz da++[iv e,iv w])))):=by
 intro m
 induction m with
 |zero=>intro l a d h0 h1 ha hl;unfold bC;rw[ol];trivial
 |succ m ih=>
  intro l a d h0 h1 ha hl;refine .of ?_;rw[bQ,aei];simp[jR hW ha];refine .st (fun hs=>?_) (fun hs=>?_)
  ·simp[hs]
   refine .callW (s_at hW m a d h0 h1 ha) (fun v b hb hab g=>?_) (fun e w b d' g=>?_)
   ·simp[g]
    have hap:=fun k'=>aH (P:=PG) (d:=.fail) (k:=k') Fg (kU l) (c:=oq v) rfl (by simp) (by have:=hW.len;simp;omega) (by decide)
    simp[hap];have hn:=ih (l++[v]) b d h0 h1 hb (by simp;omega);rw[List.map_append,List.map_cons,List.map_nil,Ty.cells_eq v] at hn;cases hr:bC L m (l++[v]) d b with
    |out=>trivial
    |err e w=>rw[hr] at hn;obtain⟨z,g1,b2,d',T,rfl⟩:=hn;exact⟨_,by simp[g1],b2,d',T,rfl⟩
    |ok v2 b2=>rw[hr] at hn;obtain⟨hb2,z,g1,h5,h6,rfl⟩:=hn;exact⟨hb2,_,by simp[g1],by omega,h6,rfl⟩
   ·exact⟨_,by simp[g],b,d',.rows (l.map Ty.cells),rfl⟩
  ·exact .pure ha (by simp[hs]) ⟨Nat.le_refl _,hl,rfl⟩
theorem UI(CC:List (List PV))(cn:ByteArray)(ca:Int)(dn:ByteArray)(da:Int)(m:Nat)(a:Nat)(d:Int)(h0:0≤d)(h1:d≤300)(ha:a<L.length):lI L (QH (aU L) (iv a) (iv d) (sv cn) (iv ca) (sv dn) CC (iv da)) (bC L m [] d a)
  (fun v b z=>a≤b∧(v=[]∧z=(3,ps L b d (sv cn::nS::iv ca::sv dn::nS :: .rows CC::tz da))∨v.length≤b∧z=(7,ps L b d (sv cn :: .rows (v.map Ty.cells)::iv ca::sv dn::nS :: .rows CC::tz da))))
  (fun e w z=>∃(b:Nat) (d':Int),z=(2,ps L b d' (sv cn::nS::iv ca::sv dn::nS :: .rows CC::(tz da++[iv e,iv w])))∨∃T,z=(6,ps L b d' (sv cn::T::iv ca::sv dn::nS :: .rows CC::(tz da++[iv e,iv w])))):=by
 cases m with
 |zero=>unfold bC;rw[ol];trivial
 |succ m=>
  refine .of ?_;rw[bQ,aem];simp[jR hW ha];refine .st (fun hs=>?_) (fun hs=>?_)
  ·simp[hs]
   refine .callW (s_at hW m a d h0 h1 ha) (fun v b hb hab g=>?_) (fun e w b d' g=>?_)
   ·simp[g]
    have hn:=WO hW CC cn ca dn da m [v] b d h0 h1 hb (by simp;omega);rw[List.map_cons,List.map_nil,Ty.cells_eq v] at hn;cases hr:bC L m [v] d b with
    |out=>trivial
    |err e w=>rw[hr] at hn;obtain⟨z,g1,b2,d',T,rfl⟩:=hn;exact⟨_,by simp[g1],b2,d',.inr ⟨T,rfl⟩⟩
    |ok v2 b2=>rw[hr] at hn;obtain⟨hb2,z,g1,h5,h6,rfl⟩:=hn;exact⟨hb2,_,by simp[g1],by omega,.inr ⟨h6,rfl⟩⟩
   ·exact⟨_,by simp[g],b,d',.inl rfl⟩
  ·exact .pure ha (by simp[hs]) ⟨Nat.le_refl _,.inl ⟨rfl,rfl⟩⟩
theorem WN(PP:List (List PV))(cn:ByteArray)(ca:Int)(dn:ByteArray)(da:Int):∀(m:Nat) (l:List Ty) (a:Nat) (d:Int),0≤d→d≤300→a<L.length→l.length≤a→lI L (QE (aU L) (iv a) (iv d) (sv cn) (l.map Ty.cells) (iv ca) (sv dn) PP (iv da)) (bC L m l d a)
  (fun v b z=>a≤b∧v.length≤b∧z=(5,ps L b d (sv cn :: .rows (v.map Ty.cells)::iv ca::sv dn :: .rows PP::nS::tz da))) (fun e w z=>∃(b:Nat) (d':Int) (T:PV),z=(4,ps L b d' (sv cn::T::iv ca::sv dn :: .rows PP::nS::(tz da++[iv e,iv w])))):=by
 intro m
 induction m with
 |zero=>intro l a d h0 h1 ha hl;unfold bC;rw[ol];trivial
 |succ m ih=>
  intro l a d h0 h1 ha hl;refine .of ?_;rw[bQ,aej];simp[jR hW ha];refine .st (fun hs=>?_) (fun hs=>?_)
  ·simp[hs]
   refine .callW (s_at hW m a d h0 h1 ha) (fun v b hb hab g=>?_) (fun e w b d' g=>?_)
   ·simp[g]
    have hap:=fun k'=>aH (P:=PG) (d:=.fail) (k:=k') Fg (kU l) (c:=oq v) rfl (by simp) (by have:=hW.len;simp;omega) (by decide)
    simp[hap];have hn:=ih (l++[v]) b d h0 h1 hb (by simp;omega);rw[List.map_append,List.map_cons,List.map_nil,Ty.cells_eq v] at hn;cases hr:bC L m (l++[v]) d b with
    |out=>trivial
    |err e w=>rw[hr] at hn;obtain⟨z,g1,b2,d',T,rfl⟩:=hn;exact⟨_,by simp[g1],b2,d',T,rfl⟩
    |ok v2 b2=>rw[hr] at hn;obtain⟨hb2,z,g1,h5,h6,rfl⟩:=hn;exact⟨hb2,_,by simp[g1],by omega,h6,rfl⟩
   ·exact⟨_,by simp[g],b,d',.rows (l.map Ty.cells),rfl⟩
  ·exact .pure ha (by simp[hs]) ⟨Nat.le_refl _,hl,rfl⟩
theorem UH(PP:List (List PV))(cn:ByteArray)(ca:Int)(dn:ByteArray)(da:Int)(m:Nat)(a:Nat)(d:Int)(h0:0≤d)(h1:d≤300)(ha:a<L.length):lI L (QI (aU L) (iv a) (iv d) (sv cn) (iv ca) (sv dn) PP (iv da)) (bC L m [] d a)
  (fun v b z=>a≤b∧(v=[]∧z=(1,ps L b d (sv cn::nS::iv ca::sv dn :: .rows PP::nS::tz da))∨v.length≤b∧z=(5,ps L b d (sv cn :: .rows (v.map Ty.cells)::iv ca::sv dn :: .rows PP::nS::tz da))))
  (fun e w z=>∃(b:Nat) (d':Int),z=(0,ps L b d' (sv cn::nS::iv ca::sv dn :: .rows PP::nS::(tz da++[iv e,iv w])))∨∃T,z=(4,ps L b d' (sv cn::T::iv ca::sv dn :: .rows PP::nS::(tz da++[iv e,iv w])))):=by
 cases m with
 |zero=>unfold bC;rw[ol];trivial
 |succ m=>
  refine .of ?_;rw[bQ,aen];simp[jR hW ha];refine .st (fun hs=>?_) (fun hs=>?_)
  ·simp[hs]
   refine .callW (s_at hW m a d h0 h1 ha) (fun v b hb hab g=>?_) (fun e w b d' g=>?_)
   ·simp[g]
    have hn:=WN hW PP cn ca dn da m [v] b d h0 h1 hb (by simp;omega);rw[List.map_cons,List.map_nil,Ty.cells_eq v] at hn;cases hr:bC L m [v] d b with
    |out=>trivial
    |err e w=>rw[hr] at hn;obtain⟨z,g1,b2,d',T,rfl⟩:=hn;exact⟨_,by simp[g1],b2,d',.inr ⟨T,rfl⟩⟩
    |ok v2 b2=>rw[hr] at hn;obtain⟨hb2,z,g1,h5,h6,rfl⟩:=hn;exact⟨hb2,_,by simp[g1],by omega,.inr ⟨h6,rfl⟩⟩
   ·exact⟨_,by simp[g],b,d',.inl rfl⟩
  ·exact .pure ha (by simp[hs]) ⟨Nat.le_refl _,.inl ⟨rfl,rfl⟩⟩
theorem WM(PP:List (List PV))(CC:List (List PV))(cn:ByteArray)(ca:Int)(dn:ByteArray)(da:Int):∀(m:Nat) (l:List Ty) (a:Nat) (d:Int),0≤d→d≤300→a<L.length→l.length≤a→lI L (QC (aU L) (iv a) (iv d) (sv cn) (l.map Ty.cells) (iv ca) (sv dn) PP CC (iv da)) (bC L m l d a)
  (fun v b z=>a≤b∧v.length≤b∧z=(3,ps L b d (sv cn :: .rows (v.map Ty.cells)::iv ca::sv dn :: .rows PP :: .rows CC::tz da))) (fun e w z=>∃(b:Nat) (d':Int) (T:PV),z=(2,ps L b d' (sv cn::T::iv ca::sv dn :: .rows PP :: .rows CC::(tz da++[iv e,iv w])))):=by
 intro m
 induction m with
 |zero=>intro l a d h0 h1 ha hl;unfold bC;rw[ol];trivial
 |succ m ih=>
  intro l a d h0 h1 ha hl;refine .of ?_;rw[bQ,aeh];simp[jR hW ha];refine .st (fun hs=>?_) (fun hs=>?_)
  ·simp[hs]
   refine .callW (s_at hW m a d h0 h1 ha) (fun v b hb hab g=>?_) (fun e w b d' g=>?_)
   ·simp[g]
    have hap:=fun k'=>aH (P:=PG) (d:=.fail) (k:=k') Fg (kU l) (c:=oq v) rfl (by simp) (by have:=hW.len;simp;omega) (by decide)
    simp[hap];have hn:=ih (l++[v]) b d h0 h1 hb (by simp;omega);rw[List.map_append,List.map_cons,List.map_nil,Ty.cells_eq v] at hn;cases hr:bC L m (l++[v]) d b with
    |out=>trivial
    |err e w=>rw[hr] at hn;obtain⟨z,g1,b2,d',T,rfl⟩:=hn;exact⟨_,by simp[g1],b2,d',T,rfl⟩
    |ok v2 b2=>rw[hr] at hn;obtain⟨hb2,z,g1,h5,h6,rfl⟩:=hn;exact⟨hb2,_,by simp[g1],by omega,h6,rfl⟩
   ·exact⟨_,by simp[g],b,d',.rows (l.map Ty.cells),rfl⟩
  ·exact .pure ha (by simp[hs]) ⟨Nat.le_refl _,hl,rfl⟩
theorem UG(PP:List (List PV))(CC:List (List PV))(cn:ByteArray)(ca:Int)(dn:ByteArray)(da:Int)(m:Nat)(a:Nat)(d:Int)(h0:0≤d)(h1:d≤300)(ha:a<L.length):lI L (QG (aU L) (iv a) (iv d) (sv cn) (iv ca) (sv dn) PP CC (iv da)) (bC L m [] d a)
  (fun v b z=>a≤b∧(v=[]∧z=(1,ps L b d (sv cn::nS::iv ca::sv dn :: .rows PP :: .rows CC::tz da))∨v.length≤b∧z=(3,ps L b d (sv cn :: .rows (v.map Ty.cells)::iv ca::sv dn :: .rows PP :: .rows CC::tz da))))
  (fun e w z=>∃(b:Nat) (d':Int),z=(0,ps L b d' (sv cn::nS::iv ca::sv dn :: .rows PP :: .rows CC::(tz da++[iv e,iv w])))∨∃T,z=(2,ps L b d' (sv cn::T::iv ca::sv dn :: .rows PP :: .rows CC::(tz da++[iv e,iv w])))):=by
 cases m with
 |zero=>unfold bC;rw[ol];trivial
 |succ m=>
  refine .of ?_;rw[bQ,ael];simp[jR hW ha];refine .st (fun hs=>?_) (fun hs=>?_)
  ·simp[hs]
   refine .callW (s_at hW m a d h0 h1 ha) (fun v b hb hab g=>?_) (fun e w b d' g=>?_)
   ·simp[g]
    have hn:=WM hW PP CC cn ca dn da m [v] b d h0 h1 hb (by simp;omega);rw[List.map_cons,List.map_nil,Ty.cells_eq v] at hn;cases hr:bC L m [v] d b with
    |out=>trivial
    |err e w=>rw[hr] at hn;obtain⟨z,g1,b2,d',T,rfl⟩:=hn;exact⟨_,by simp[g1],b2,d',.inr ⟨T,rfl⟩⟩
    |ok v2 b2=>rw[hr] at hn;obtain⟨hb2,z,g1,h5,h6,rfl⟩:=hn;exact⟨hb2,_,by simp[g1],by omega,.inr ⟨h6,rfl⟩⟩
   ·exact⟨_,by simp[g],b,d',.inl rfl⟩
  ·exact .pure ha (by simp[hs]) ⟨Nat.le_refl _,.inl ⟨rfl,rfl⟩⟩
theorem KL(dn:ByteArray)(da:Int):∀(m:Nat) (l:List Cn) (CC:List (List PV)) (a:Nat) (d:Int),Raw 3 CC (l.map Cn.cells)→l.length≤a→0≤d→d≤300→a<L.length→lI L (QL (aU L) (iv a) (iv d) (sv dn) CC (iv da)) (cZ L m l d a)
  (fun v b z=>a≤b∧∃B',Raw 3 B' (v.map Cn.cells)∧z=(0,ps L b d (sv dn::nS :: .rows B'::tz da))) (fun e w z=>∃(b:Nat) (d':Int) (T:PV),z=(2,ps L b d' (sv dn::nS::T::(tz da++[iv e,iv w])))):=by
 intro m
 induction m with
 |zero=>intro l CC a d hr hl h0 h1 ha;rw[cZ];trivial
 |succ m ih=>
  intro l CC a d hr hl h0 h1 ha;refine .of ?_;rw[cZ.eq_2,aer];have hLl:=hW.len;refine .takeK (by decide) (fun k2=>?_) (fun k2=>?_)
  ·have hl1:=hW.fin a (by omega)
   simp[-Int.natCast_add,cu hW ha,k2,Tk.cells];refine .bind (UI hW CC (ai L a).text (ai L a).at_ dn da m (a+1) d h0 h1 hl1) (fun tl b z hb g hz=>?_) (fun e w z g hz=>?_)
   ·obtain⟨hab,hz⟩:=hz
    have key:∀(X:PV),(X=nS∧tl=[]∨X=.rows (tl.map Ty.cells))→Raw 3 (CC++[[sv (ai L a).text,X,iv (ai L a).at_]]) ((l++[(⟨(ai L a).text,tl,(ai L a).at_⟩:Cn)]).map Cn.cells):=fun X hX=>by
     have hx:=Cn.raw (x:=⟨(ai L a).text,tl,(ai L a).at_⟩) hX;rw[List.map_append,List.map_cons,List.map_nil];exact hr.app hx.1 rfl hx.2
    rcases hz with⟨rfl,rfl⟩|⟨h5,rfl⟩
    ·have hk:=key nS (.inl ⟨rfl,rfl⟩)
     simp[-Int.natCast_add,g];have hap:=fun k'=>aH (P:=PG) (d:=.fail) (k:=k') Ux hr (c:=[sv (ai L a).text,nS,iv (ai L a).at_]) rfl (Cn.raw (x:=⟨(ai L a).text,[],(ai L a).at_⟩) (.inl ⟨rfl,rfl⟩)).2 (by have:=hr.len;simp at this;omega) (by decide)
     simp only[hap];simp[-Int.natCast_add,bL hW hb];refine .may (fun hs=>?_) (fun hs=>?_)
     ·have hl2:=ax hW hs
      simp[-Int.natCast_add,hs];have hn:=ih _ _ (b+1) d hk (by simp;omega) h0 h1 hl2;simp only[List.cons_append,List.nil_append] at hn;have hn:=hn;cases hr2:cZ L m (l++[(⟨(ai L a).text,[],(ai L a).at_⟩:Cn)]) d (b+1) with
      |out=>trivial
      |err e w=>rw[hr2] at hn;obtain⟨z,g1,b2,d',T,rfl⟩:=hn;exact⟨_,by simp[-Int.natCast_add,g1],b2,d',T,rfl⟩
      |ok v2 b2=>rw[hr2] at hn;obtain⟨hb2,z,g1,h6,B',h7,rfl⟩:=hn;exact⟨hb2,_,by simp[-Int.natCast_add,g1],by omega,B',h7,rfl⟩
     ·exact .pure hb (by simp[hs]) ⟨by omega,_,hk,rfl⟩
    ·have hk:=key (.rows (tl.map Ty.cells)) (.inr rfl)
     simp[-Int.natCast_add,g];have hap:=fun k'=>aH (P:=PG) (d:=.fail) (k:=k') Ux hr (c:=[sv (ai L a).text,(.rows (tl.map Ty.cells)),iv (ai L a).at_]) rfl (Cn.raw (x:=⟨(ai L a).text,tl,(ai L a).at_⟩) (.inr rfl)).2 (by have:=hr.len;simp at this;omega) (by decide)
     simp only[hap];simp[-Int.natCast_add,bL hW hb];refine .may (fun hs=>?_) (fun hs=>?_)
     ·have hl2:=ax hW hs
      simp[-Int.natCast_add,hs];have hn:=ih _ _ (b+1) d hk (by simp;omega) h0 h1 hl2;simp only[List.cons_append,List.nil_append] at hn;have hn:=hn;cases hr2:cZ L m (l++[(⟨(ai L a).text,tl,(ai L a).at_⟩:Cn)]) d (b+1) with
      |out=>trivial
      |err e w=>rw[hr2] at hn;obtain⟨z,g1,b2,d',T,rfl⟩:=hn;exact⟨_,by simp[-Int.natCast_add,g1],b2,d',T,rfl⟩
      |ok v2 b2=>rw[hr2] at hn;obtain⟨hb2,z,g1,h6,B',h7,rfl⟩:=hn;exact⟨hb2,_,by simp[-Int.natCast_add,g1],by omega,B',h7,rfl⟩
     ·exact .pure hb (by simp[hs]) ⟨by omega,_,hk,rfl⟩
   ·obtain⟨b,d',rfl|⟨T,rfl⟩⟩:=hz
    ·exact⟨_,by simp[-Int.natCast_add,g],b,d',.rows CC,rfl⟩
    ·exact⟨_,by simp[-Int.natCast_add,g],b,d',.rows CC,rfl⟩
  ·exact⟨_,by simp[cu hW ha,k2],a,d,.rows CC,rfl⟩
theorem UE(dn:ByteArray)(da:Int)(m:Nat)(a:Nat)(d:Int)(h0:0≤d)(h1:d≤300)(ha:a<L.length):lI L (QN (aU L) (iv a) (iv d) (sv dn) (iv da)) (cZ L m [] d a)
  (fun v b z=>a≤b∧∃B',Raw 3 B' (v.map Cn.cells)∧z=(0,ps L b d (sv dn::nS :: .rows B'::tz da))) (fun e w z=>∃(b:Nat) (d':Int),z=(1,ps L b d' (sv dn::nS::nS::(tz da++[iv e,iv w])))∨∃(T:PV),z=(2,ps L b d' (sv dn::nS::T::(tz da++[iv e,iv w])))):=by
 cases m with
 |zero=>rw[cZ];trivial
 |succ m=>
  refine .of ?_;rw[cZ.eq_2,aeu];have hLl:=hW.len;refine .takeK (by decide) (fun k2=>?_) (fun k2=>?_)
  ·have hl1:=hW.fin a (by omega)
   simp[-Int.natCast_add,cu hW ha,k2,Tk.cells];refine .bind (UJ hW (ai L a).text (ai L a).at_ dn da m (a+1) d h0 h1 hl1) (fun tl b z hb g hz=>?_) (fun e w z g hz=>?_)
   ·obtain⟨hab,hz⟩:=hz
    have key:∀(X:PV),(X=nS∧tl=[]∨X=.rows (tl.map Ty.cells))→Raw 3 ([]++[[sv (ai L a).text,X,iv (ai L a).at_]]) (([]++[(⟨(ai L a).text,tl,(ai L a).at_⟩:Cn)]).map Cn.cells):=fun X hX=>by
     have hx:=Cn.raw (x:=⟨(ai L a).text,tl,(ai L a).at_⟩) hX;rw[List.map_append,List.map_cons,List.map_nil];exact(Raw.nil 3).app hx.1 rfl hx.2
    rcases hz with⟨rfl,rfl⟩|⟨h5,rfl⟩
    ·have hk:=key nS (.inl ⟨rfl,rfl⟩)
     simp[-Int.natCast_add,g];simp[-Int.natCast_add,bL hW hb];refine .may (fun hs=>?_) (fun hs=>?_)
     ·have hl2:=ax hW hs
      simp[-Int.natCast_add,hs];have hn:=KL hW dn da m _ _ (b+1) d hk (by simp) h0 h1 hl2;simp only[List.cons_append,List.nil_append] at hn;cases hr2:cZ L m ([(⟨(ai L a).text,[],(ai L a).at_⟩:Cn)]) d (b+1) with
      |out=>trivial
      |err e w=>rw[hr2] at hn;obtain⟨z,g1,b2,d',T,rfl⟩:=hn;exact⟨_,by simp[-Int.natCast_add,g1],b2,d',.inr ⟨T,rfl⟩⟩
      |ok v2 b2=>rw[hr2] at hn;obtain⟨hb2,z,g1,h6,B',h7,rfl⟩:=hn;exact⟨hb2,_,by simp[-Int.natCast_add,g1],by omega,B',h7,rfl⟩
     ·exact .pure hb (by simp[hs]) ⟨by omega,_,hk,rfl⟩
    ·have hk:=key (.rows (tl.map Ty.cells)) (.inr rfl)
     simp[-Int.natCast_add,g];simp[-Int.natCast_add,bL hW hb];refine .may (fun hs=>?_) (fun hs=>?_)
     ·have hl2:=ax hW hs
      simp[-Int.natCast_add,hs];have hn:=KL hW dn da m _ _ (b+1) d hk (by simp) h0 h1 hl2;simp only[List.cons_append,List.nil_append] at hn;cases hr2:cZ L m ([(⟨(ai L a).text,tl,(ai L a).at_⟩:Cn)]) d (b+1) with
      |out=>trivial
      |err e w=>rw[hr2] at hn;obtain⟨z,g1,b2,d',T,rfl⟩:=hn;exact⟨_,by simp[-Int.natCast_add,g1],b2,d',.inr ⟨T,rfl⟩⟩
      |ok v2 b2=>rw[hr2] at hn;obtain⟨hb2,z,g1,h6,B',h7,rfl⟩:=hn;exact⟨hb2,_,by simp[-Int.natCast_add,g1],by omega,B',h7,rfl⟩
     ·exact .pure hb (by simp[hs]) ⟨by omega,_,hk,rfl⟩
   ·obtain⟨b,d',rfl|⟨T,rfl⟩⟩:=hz
    ·exact⟨_,by simp[-Int.natCast_add,g],b,d',.inl rfl⟩
    ·exact⟨_,by simp[-Int.natCast_add,g],b,d',.inl rfl⟩
  ·exact⟨_,by simp[cu hW ha,k2],a,d,.inl rfl⟩
theorem KJ(PP:List (List PV))(dn:ByteArray)(da:Int):∀(m:Nat) (l:List Cn) (CC:List (List PV)) (a:Nat) (d:Int),Raw 3 CC (l.map Cn.cells)→l.length≤a→0≤d→d≤300→a<L.length→lI L (QK (aU L) (iv a) (iv d) (sv dn) PP CC (iv da)) (cZ L m l d a)
  (fun v b z=>a≤b∧∃B',Raw 3 B' (v.map Cn.cells)∧z=(0,ps L b d (sv dn :: .rows PP :: .rows B'::tz da))) (fun e w z=>∃(b:Nat) (d':Int) (T:PV),z=(2,ps L b d' (sv dn :: .rows PP::T::(tz da++[iv e,iv w])))):=by
 intro m
 induction m with
 |zero=>intro l CC a d hr hl h0 h1 ha;rw[cZ];trivial
 |succ m ih=>
  intro l CC a d hr hl h0 h1 ha;refine .of ?_;rw[cZ.eq_2,aep];have hLl:=hW.len;refine .takeK (by decide) (fun k2=>?_) (fun k2=>?_)
  ·have hl1:=hW.fin a (by omega)
   simp[-Int.natCast_add,cu hW ha,k2,Tk.cells];refine .bind (UG hW PP CC (ai L a).text (ai L a).at_ dn da m (a+1) d h0 h1 hl1) (fun tl b z hb g hz=>?_) (fun e w z g hz=>?_)
   ·obtain⟨hab,hz⟩:=hz
    have key:∀(X:PV),(X=nS∧tl=[]∨X=.rows (tl.map Ty.cells))→Raw 3 (CC++[[sv (ai L a).text,X,iv (ai L a).at_]]) ((l++[(⟨(ai L a).text,tl,(ai L a).at_⟩:Cn)]).map Cn.cells):=fun X hX=>by
     have hx:=Cn.raw (x:=⟨(ai L a).text,tl,(ai L a).at_⟩) hX;rw[List.map_append,List.map_cons,List.map_nil];exact hr.app hx.1 rfl hx.2
    rcases hz with⟨rfl,rfl⟩|⟨h5,rfl⟩
    ·have hk:=key nS (.inl ⟨rfl,rfl⟩)
     simp[-Int.natCast_add,g];have hap:=fun k'=>aH (P:=PG) (d:=.fail) (k:=k') Ux hr (c:=[sv (ai L a).text,nS,iv (ai L a).at_]) rfl (Cn.raw (x:=⟨(ai L a).text,[],(ai L a).at_⟩) (.inl ⟨rfl,rfl⟩)).2 (by have:=hr.len;simp at this;omega) (by decide)
     simp only[hap];simp[-Int.natCast_add,bL hW hb];refine .may (fun hs=>?_) (fun hs=>?_)
     ·have hl2:=ax hW hs
      simp[-Int.natCast_add,hs];have hn:=ih _ _ (b+1) d hk (by simp;omega) h0 h1 hl2;simp only[List.cons_append,List.nil_append] at hn;have hn:=hn;cases hr2:cZ L m (l++[(⟨(ai L a).text,[],(ai L a).at_⟩:Cn)]) d (b+1) with
      |out=>trivial
      |err e w=>rw[hr2] at hn;obtain⟨z,g1,b2,d',T,rfl⟩:=hn;exact⟨_,by simp[-Int.natCast_add,g1],b2,d',T,rfl⟩
      |ok v2 b2=>rw[hr2] at hn;obtain⟨hb2,z,g1,h6,B',h7,rfl⟩:=hn;exact⟨hb2,_,by simp[-Int.natCast_add,g1],by omega,B',h7,rfl⟩
     ·exact .pure hb (by simp[hs]) ⟨by omega,_,hk,rfl⟩
    ·have hk:=key (.rows (tl.map Ty.cells)) (.inr rfl)
     simp[-Int.natCast_add,g];have hap:=fun k'=>aH (P:=PG) (d:=.fail) (k:=k') Ux hr (c:=[sv (ai L a).text,(.rows (tl.map Ty.cells)),iv (ai L a).at_]) rfl (Cn.raw (x:=⟨(ai L a).text,tl,(ai L a).at_⟩) (.inr rfl)).2 (by have:=hr.len;simp at this;omega) (by decide)
     simp only[hap];simp[-Int.natCast_add,bL hW hb];refine .may (fun hs=>?_) (fun hs=>?_)
     ·have hl2:=ax hW hs
      simp[-Int.natCast_add,hs];have hn:=ih _ _ (b+1) d hk (by simp;omega) h0 h1 hl2;simp only[List.cons_append,List.nil_append] at hn;have hn:=hn;cases hr2:cZ L m (l++[(⟨(ai L a).text,tl,(ai L a).at_⟩:Cn)]) d (b+1) with
      |out=>trivial
      |err e w=>rw[hr2] at hn;obtain⟨z,g1,b2,d',T,rfl⟩:=hn;exact⟨_,by simp[-Int.natCast_add,g1],b2,d',T,rfl⟩
      |ok v2 b2=>rw[hr2] at hn;obtain⟨hb2,z,g1,h6,B',h7,rfl⟩:=hn;exact⟨hb2,_,by simp[-Int.natCast_add,g1],by omega,B',h7,rfl⟩
     ·exact .pure hb (by simp[hs]) ⟨by omega,_,hk,rfl⟩
   ·obtain⟨b,d',rfl|⟨T,rfl⟩⟩:=hz
    ·exact⟨_,by simp[-Int.natCast_add,g],b,d',.rows CC,rfl⟩
    ·exact⟨_,by simp[-Int.natCast_add,g],b,d',.rows CC,rfl⟩
  ·exact⟨_,by simp[cu hW ha,k2],a,d,.rows CC,rfl⟩
theorem UD(PP:List (List PV))(dn:ByteArray)(da:Int)(m:Nat)(a:Nat)(d:Int)(h0:0≤d)(h1:d≤300)(ha:a<L.length):lI L (QM (aU L) (iv a) (iv d) (sv dn) PP (iv da)) (cZ L m [] d a)
  (fun v b z=>a≤b∧∃B',Raw 3 B' (v.map Cn.cells)∧z=(0,ps L b d (sv dn :: .rows PP :: .rows B'::tz da))) (fun e w z=>∃(b:Nat) (d':Int),z=(1,ps L b d' (sv dn :: .rows PP::nS::(tz da++[iv e,iv w])))∨∃(T:PV),z=(2,ps L b d' (sv dn :: .rows PP::T::(tz da++[iv e,iv w])))):=by
 cases m with
 |zero=>rw[cZ];trivial
 |succ m=>
  refine .of ?_;rw[cZ.eq_2,aes];have hLl:=hW.len;refine .takeK (by decide) (fun k2=>?_) (fun k2=>?_)
  ·have hl1:=hW.fin a (by omega)
   simp[-Int.natCast_add,cu hW ha,k2,Tk.cells];refine .bind (UH hW PP (ai L a).text (ai L a).at_ dn da m (a+1) d h0 h1 hl1) (fun tl b z hb g hz=>?_) (fun e w z g hz=>?_)
   ·obtain⟨hab,hz⟩:=hz
    have key:∀(X:PV),(X=nS∧tl=[]∨X=.rows (tl.map Ty.cells))→Raw 3 ([]++[[sv (ai L a).text,X,iv (ai L a).at_]]) (([]++[(⟨(ai L a).text,tl,(ai L a).at_⟩:Cn)]).map Cn.cells):=fun X hX=>by
     have hx:=Cn.raw (x:=⟨(ai L a).text,tl,(ai L a).at_⟩) hX;rw[List.map_append,List.map_cons,List.map_nil];exact(Raw.nil 3).app hx.1 rfl hx.2
    rcases hz with⟨rfl,rfl⟩|⟨h5,rfl⟩
    ·have hk:=key nS (.inl ⟨rfl,rfl⟩)
     simp[-Int.natCast_add,g];simp[-Int.natCast_add,bL hW hb];refine .may (fun hs=>?_) (fun hs=>?_)
     ·have hl2:=ax hW hs
      simp[-Int.natCast_add,hs];have hn:=KJ hW PP dn da m _ _ (b+1) d hk (by simp) h0 h1 hl2;simp only[List.cons_append,List.nil_append] at hn;cases hr2:cZ L m ([(⟨(ai L a).text,[],(ai L a).at_⟩:Cn)]) d (b+1) with
      |out=>trivial
      |err e w=>rw[hr2] at hn;obtain⟨z,g1,b2,d',T,rfl⟩:=hn;exact⟨_,by simp[-Int.natCast_add,g1],b2,d',.inr ⟨T,rfl⟩⟩
      |ok v2 b2=>rw[hr2] at hn;obtain⟨hb2,z,g1,h6,B',h7,rfl⟩:=hn;exact⟨hb2,_,by simp[-Int.natCast_add,g1],by omega,B',h7,rfl⟩
     ·exact .pure hb (by simp[hs]) ⟨by omega,_,hk,rfl⟩
    ·have hk:=key (.rows (tl.map Ty.cells)) (.inr rfl)
     simp[-Int.natCast_add,g];simp[-Int.natCast_add,bL hW hb];refine .may (fun hs=>?_) (fun hs=>?_)
     ·have hl2:=ax hW hs
      simp[-Int.natCast_add,hs];have hn:=KJ hW PP dn da m _ _ (b+1) d hk (by simp) h0 h1 hl2;simp only[List.cons_append,List.nil_append] at hn;cases hr2:cZ L m ([(⟨(ai L a).text,tl,(ai L a).at_⟩:Cn)]) d (b+1) with
      |out=>trivial
      |err e w=>rw[hr2] at hn;obtain⟨z,g1,b2,d',T,rfl⟩:=hn;exact⟨_,by simp[-Int.natCast_add,g1],b2,d',.inr ⟨T,rfl⟩⟩
      |ok v2 b2=>rw[hr2] at hn;obtain⟨hb2,z,g1,h6,B',h7,rfl⟩:=hn;exact⟨hb2,_,by simp[-Int.natCast_add,g1],by omega,B',h7,rfl⟩
     ·exact .pure hb (by simp[hs]) ⟨by omega,_,hk,rfl⟩
   ·obtain⟨b,d',rfl|⟨T,rfl⟩⟩:=hz
    ·exact⟨_,by simp[-Int.natCast_add,g],b,d',.inl rfl⟩
    ·exact⟨_,by simp[-Int.natCast_add,g],b,d',.inl rfl⟩
  ·exact⟨_,by simp[cu hW ha,k2],a,d,.inl rfl⟩
abbrev pDt(L:List Tk)(a:Nat)(d:Int):Q:=afS (aU L) (iv a) (iv d)
theorem ag6(m:Nat):Pa L (pDt L) dtC (yx L m):=by
 intro a d h0 h1 ha;refine .weak (alR ev _ _ _) (.of ?_);unfold yx;rw[aqu];refine .takeK (by decide) (fun k2=>?_) (fun k2=>?_)
 ·have hl1:=hW.fin a (by omega)
  simp[-Int.natCast_add,cu hW ha,k2,Tk.cells];refine .bind (acg hW (ai L a).text (ai L a).at_ m (a+1) d hl1) (fun ps b z hb g hz=>?_) (fun e w z g hz=>hz.elim);obtain⟨hab,hlp,hz⟩:=hz;rcases hz with⟨rfl,rfl⟩|rfl
  ·simp[-Int.natCast_add,g]
   refine .take (by decide) (fun he=>?_) (fun he=>?_)
   ·have hl2:=ax hW he
    simp[-Int.natCast_add,aF hW hb,he,Tk.cells];refine .bind (UE hW (ai L a).text (ai L a).at_ m (b+1) d h0 h1 hl2) (fun cs b2 z hb2 g2 hz=>?_) (fun e w z g2 hz=>?_)
    ·obtain⟨hab2,B,hB,rfl⟩:=hz
     simp[-Int.natCast_add,g2];simp[-Int.natCast_add,bL hW hb2];refine .may (fun hv=>?_) (fun hv=>?_)
     ·have hl3:=ax hW hv
      simp[-Int.natCast_add,hv];refine .take (by decide) (fun ho=>?_) (fun ho=>?_)
      ·have hl4:=ax hW ho
       simp[-Int.natCast_add,aF hW hl3,ho,Tk.cells];refine .bind (GJ hW m (b2+1+1) d hl4) (fun ds b3 z hb3 g3 hz=>?_) (fun e w z g3 hz=>?_)
       ·obtain⟨hab3,hl5,rfl⟩:=hz
        have gw:=Gm g3;simp[-Int.natCast_add,g3,gw];refine .take (by decide) (fun hc=>?_) (fun hc=>?_)
        ·exact .pure (ax hW hc) (by simp[-Int.natCast_add,aF hW hb3,hc,Tk.cells]) (.of (m:=[0,1,0,0,0,0,0,0,0]) (k:=4) (ys:=[sv (ai L a).text,nS,.rows B,.rows (ds.map fun s=>[sv s]),iv (ai L a).at_]) (by omega) rfl (by simp[hB.wd,rU,strs,pU]))
        ·exact⟨_,by simp[-Int.natCast_add,aF hW hb3,hc],.of (m:=[0,1,0,0,0,0,0,0,0]) (b:=b3) (d:=d) (k:=1) rfl⟩
       ·obtain⟨b3,rfl⟩:=hz
        have gw:=BZ g3;exact⟨_,by simp[-Int.natCast_add,g3,gw],.of (m:=[0,1,0,0,0,0,0,0,0]) (b:=b3) (d:=d) (k:=1) rfl⟩
      ·exact⟨_,by simp[-Int.natCast_add,aF hW hl3,ho],.of (m:=[0,1,0,0,0,0,0,0,0]) (b:=b2+1) (d:=d) (k:=1) rfl⟩
     ·exact .pure hb2 (by simp[-Int.natCast_add,hv]) (.of (m:=[0,1,0,0,0,0,0,0,0]) (k:=3) (ys:=[sv (ai L a).text,nS,.rows B,nS,iv (ai L a).at_]) (by omega) rfl (by simp[hB.wd,rU,strs,pU]))
    ·obtain⟨b2,d',rfl|⟨T,rfl⟩⟩:=hz
     ·exact⟨_,by simp[-Int.natCast_add,g2],.of (m:=[0,1,0,0,0,0,0,0,0]) (b:=b2) (d:=d') (k:=1) rfl⟩
     ·exact⟨_,by simp[-Int.natCast_add,g2],.of (m:=[0,1,0,0,0,0,0,0,0]) (b:=b2) (d:=d') (k:=1) rfl⟩
   ·exact⟨_,by simp[-Int.natCast_add,aF hW hb,he],.of (m:=[0,1,0,0,0,0,0,0,0]) (b:=b) (d:=d) (k:=1) rfl⟩
  ·simp[-Int.natCast_add,g]
   refine .take (by decide) (fun he=>?_) (fun he=>?_)
   ·have hl2:=ax hW he
    simp[-Int.natCast_add,aF hW hb,he,Tk.cells];refine .bind (UD hW (ps.map fun s=>[sv s]) (ai L a).text (ai L a).at_ m (b+1) d h0 h1 hl2) (fun cs b2 z hb2 g2 hz=>?_) (fun e w z g2 hz=>?_)
    ·obtain⟨hab2,B,hB,rfl⟩:=hz
     simp[-Int.natCast_add,g2];simp[-Int.natCast_add,bL hW hb2];refine .may (fun hv=>?_) (fun hv=>?_)
     ·have hl3:=ax hW hv
      simp[-Int.natCast_add,hv];refine .take (by decide) (fun ho=>?_) (fun ho=>?_)
      ·have hl4:=ax hW ho
       simp[-Int.natCast_add,aF hW hl3,ho,Tk.cells];refine .bind (GJ hW m (b2+1+1) d hl4) (fun ds b3 z hb3 g3 hz=>?_) (fun e w z g3 hz=>?_)
       ·obtain⟨hab3,hl5,rfl⟩:=hz
        have gw:=Gm g3;simp[-Int.natCast_add,g3,gw];refine .take (by decide) (fun hc=>?_) (fun hc=>?_)
        ·exact .pure (ax hW hc) (by simp[-Int.natCast_add,aF hW hb3,hc,Tk.cells]) (.of (m:=[0,1,0,0,0,0,0,0,0]) (k:=8) (ys:=[sv (ai L a).text,(.rows (ps.map fun s=>[sv s])),.rows B,.rows (ds.map fun s=>[sv s]),iv (ai L a).at_]) (by omega) rfl (by simp[hB.wd,rU,strs,pU]))
        ·exact⟨_,by simp[-Int.natCast_add,aF hW hb3,hc],.of (m:=[0,1,0,0,0,0,0,0,0]) (b:=b3) (d:=d) (k:=1) rfl⟩
       ·obtain⟨b3,rfl⟩:=hz
        have gw:=BZ g3;exact⟨_,by simp[-Int.natCast_add,g3,gw],.of (m:=[0,1,0,0,0,0,0,0,0]) (b:=b3) (d:=d) (k:=1) rfl⟩
      ·exact⟨_,by simp[-Int.natCast_add,aF hW hl3,ho],.of (m:=[0,1,0,0,0,0,0,0,0]) (b:=b2+1) (d:=d) (k:=1) rfl⟩
     ·exact .pure hb2 (by simp[-Int.natCast_add,hv]) (.of (m:=[0,1,0,0,0,0,0,0,0]) (k:=7) (ys:=[sv (ai L a).text,(.rows (ps.map fun s=>[sv s])),.rows B,nS,iv (ai L a).at_]) (by omega) rfl (by simp[hB.wd,rU,strs,pU]))
    ·obtain⟨b2,d',rfl|⟨T,rfl⟩⟩:=hz
     ·exact⟨_,by simp[-Int.natCast_add,g2],.of (m:=[0,1,0,0,0,0,0,0,0]) (b:=b2) (d:=d') (k:=1) rfl⟩
     ·exact⟨_,by simp[-Int.natCast_add,g2],.of (m:=[0,1,0,0,0,0,0,0,0]) (b:=b2) (d:=d') (k:=1) rfl⟩
   ·exact⟨_,by simp[-Int.natCast_add,aF hW hb,he],.of (m:=[0,1,0,0,0,0,0,0,0]) (b:=b) (d:=d) (k:=1) rfl⟩
 ·exact⟨_,by simp[cu hW ha,k2],.of (m:=[0,1,0,0,0,0,0,0,0]) (b:=a) (d:=d) (k:=1) rfl⟩
end
end Go.Proofs.YtijcobeebaceoaaGreatDoor
