/- Joined texts. -/
import Derived.Test.YtijcobeebaceoaaGreatDoorBad
set_option linter.all false
namespace Go.Proofs.YtijcobeebaceoaaGreatDoor.Lx
set_option maxRecDepth 20000
open Go.RowKit
abbrev LTok:=Int×List UInt8×Int×Nat
def putL(kind:Int)(x:List UInt8)(n:Int)(r:List UInt8):Except Int (Int×List UInt8×Int×List UInt8):=
 if kind≠3∧kind≠4∧40<x.length then .error 104 else .ok (kind,x,n,r)
def kindL(x:List UInt8):Int:=if keyList.contains x=true then 6 else if(x==[95])=true then 7 else if(match x with|[]=>false|c::_=>upB c)=true then 2 else 1
def oneL(l:List UInt8):Except Int (Int×List UInt8×Int×List UInt8):=
 match l with
 |[]=>.error 101
 |c::r=>
  if lowB c=true∨upB c=true then putL (kindL (l.takeWhile insideB)) (l.takeWhile insideB) 0 (l.dropWhile insideB)
  else if digitB c=true then
   (match parseD (numText (l.takeWhile digitB)) with
    |none=>.error 102
    |some n=>putL 3 (numText (l.takeWhile digitB)) n (l.dropWhile digitB))
  else if c.toNat=34 then
   (match textL r with
    |none=>.error 103
    |some (x,r')=>putL 4 x 0 r')
  else if symB c=true then putL (if markList.contains (l.takeWhile symB)=true then 7 else 5) (l.takeWhile symB) 0 (l.dropWhile symB)
  else if markList.contains [c]=true then putL 7 [c] 0 r
  else .error 101
def scanL:Nat→List UInt8→Except (Int×Nat) (List LTok)
 |0,_=>.ok [(0,[],0,0)]
 |f+1,l=>
  match l with
  |[]=>.ok [(0,[],0,0)]
  |c::r=>
   match oneL (c::r) with
   |.error e=>.error (e,(c::r).length)
   |.ok (k,x,n,r')=>
    match scanL f (skipC false r') with
    |.error e=>.error e
    |.ok ts=>.ok ((k,x,n,(c::r).length)::ts)
def toTok(size:Nat)(t:LTok):Tok:=⟨t.1,textOf t.2.1,t.2.2.1,size-t.2.2.2⟩
def xG(s:ByteArray)(k:Nat)(o:Except Int (Int×List UInt8×Int×List UInt8)):Except Int (Tok×Nat):=
 match o with
 |.error e=>.error e
 |.ok (kind,x,n,r)=>.ok (⟨kind,textOf x,n,k⟩,s.size-r.length)
theorem text_eq{s:ByteArray}{x:List UInt8}(h:s.data.toList=x):s=textOf x:=by
 subst h;rfl
theorem adv_pos(p:UInt8→Bool)(s:ByteArray)(k:Nat)(h:k≤s.size):s.size-((s.data.toList.drop k).dropWhile p).length=adv p s k:=by
 have h1:=adv_drop p s k;have h2:=adv_le p s k h;have hl:s.data.toList.length=s.size:=rfl;rw[←h1,List.length_drop];omega
theorem r9(s:ByteArray)(k j:Nat)(kind n:Int)(x r:List UInt8)(hj:s.size-r.length=j):xG s k (putL kind x n r)=qz kind (textOf x) n k j:=by
 unfold putL qz xG;have hsz:((textOf x).size:Int)=(x.length:Int):=by rw[textOf_size]
 by_cases h:kind≠3∧kind≠4∧40<x.length
 ·rw[if_pos h,if_pos (by omega)]
 ·rw[if_neg h,if_neg (by omega)]
  simp only[hj]
theorem U4(x:List UInt8):xH (textOf x)=kindL x:=by
 unfold xH kindL keyB Zp;rw[textOf_toList,textOf_data];rfl
theorem YB(s:ByteArray)(k:Nat)(h:k<s.size):jE s k s[k]=xG s k (oneL (s.data.toList.drop k)):=by
 have hl:s.data.toList.length=s.size:=rfl;have hin:∀p,s.extract k (adv p s k)=textOf ((s.data.toList.drop k).takeWhile p):=fun p=>text_eq (adv_text p s k)
 have hone:s.extract k (k+1)=textOf [s[k]]:=text_eq (by rw[Lib.extract_data,Nat.add_sub_cancel_left,drop_at s k h];rfl);have hmark:∀x,markB (textOf x)=markList.contains x:=fun x=>by unfold markB;rw[textOf_toList]
 have hd:=drop_at s k h;have key:oneL (s.data.toList.drop k)=oneL (s[k]::s.data.toList.drop (k+1)):=by rw[hd]
 rw[key];unfold jE oneL;simp only;by_cases h1:lowB s[k]=true∨upB s[k]=true
 ·rw[if_pos h1,if_pos h1]
  unfold zI;rw[hin,U4,←hd];exact(r9 s k _ _ _ _ _ (adv_pos insideB s k (by omega))).symm
 ·rw[if_neg h1,if_neg h1]
  by_cases h2:digitB s[k]=true
  ·rw[if_pos h2,if_pos h2]
   unfold KV numOf;rw[←hd];cases parseD (numText ((s.data.toList.drop k).takeWhile digitB)) with
   |none=>rfl
   |some n=>exact(r9 s k _ _ _ _ _ (adv_pos digitB s k (by omega))).symm
  ·rw[if_neg h2,if_neg h2]
   by_cases h3:s[k].toNat=34
   ·rw[if_pos h3,if_pos h3]
    unfold uP tN;cases textL (s.data.toList.drop (k+1)) with
    |none=>rfl
    |some p=>exact(r9 s k _ _ _ _ _ rfl).symm
   ·rw[if_neg h3,if_neg h3]
    by_cases h4:symB s[k]=true
    ·rw[if_pos h4,if_pos h4]
     unfold V3;rw[hin,hmark,←hd];exact(r9 s k _ _ _ _ _ (adv_pos symB s k (by omega))).symm
    ·rw[if_neg h4,if_neg h4,hone,hmark]
     by_cases h5:markList.contains [s[k]]=true
     ·rw[if_pos h5,if_pos h5]
      exact(r9 s k _ _ _ _ _ (by rw[List.length_drop];omega)).symm
     ·rw[if_neg h5,if_neg h5]
      rfl
def liftScan(size:Nat)(ts:List Tok)(o:Except (Int×Nat) (List LTok)):Except (Int×Nat) (List Tok):=
 match o with
 |.error (c,m)=>.error (c,size-m)
 |.ok l=>.ok (ts++l.map (toTok size))
theorem kQ:∀(b:Bool) (l:List UInt8),∃n,skipC b l=l.drop n
 |_,[]=>⟨0,by simp[skipC]⟩
 |true,c::r=>by
  simp only[skipC];split
  ·obtain⟨n,h⟩:=kQ false r;exact⟨n+1,by simpa using h⟩
  ·obtain⟨n,h⟩:=kQ true r;exact⟨n+1,by simpa using h⟩
 |false,c::r=>by
  simp only[skipC];split
  ·obtain⟨n,h⟩:=kQ false r;exact⟨n+1,by simpa using h⟩
  ·split
   ·obtain⟨n,h⟩:=kQ true r;exact⟨n+1,by simpa using h⟩
   ·exact⟨0,rfl⟩
theorem drop_skipPos(s:ByteArray)(j:Nat):s.data.toList.drop (skipPos s j)=skipC false (s.data.toList.drop j):=by
 obtain⟨n,h⟩:=kQ false (s.data.toList.drop j);have hl:s.data.toList.length=s.size:=rfl;unfold skipPos;rw[h,List.drop_drop,List.length_drop];by_cases hn:j+n≤s.size
 ·congr 1;omega
 ·rw[List.drop_eq_nil_of_le (by omega),List.drop_eq_nil_of_le (by omega)]
theorem drop_pos(s:ByteArray)(r:List UInt8)(n:Nat)(h:r=s.data.toList.drop n):s.data.toList.drop (s.size-r.length)=r:=by
 have hl:s.data.toList.length=s.size:=rfl;subst h;rw[List.length_drop];by_cases hn:n≤s.size
 ·congr 1;omega
 ·rw[List.drop_eq_nil_of_le (by omega),List.drop_eq_nil_of_le (by omega)]
theorem qh:∀(n:Nat) (l x r:List UInt8),l.length≤n→textL l=some (x,r)→∃m,r=l.drop m
 |0,l,x,r,hn,h=>by
  have:l=[]:=List.eq_nil_of_length_eq_zero (by omega);subst this;cases h
 |n+1,[],x,r,hn,h=>by cases h
 |n+1,c::l,x,r,hn,h=>by
  rw[textL_cons] at h;simp only[List.length_cons] at hn;split at h
  ·cases h;exact⟨1,rfl⟩
  ·split at h
   ·cases h
   ·split at h
    ·cases l with
     |nil=>cases h
     |cons d l'=>
      simp only at h;split at h
      ·cases h
      ·cases h2:textL l' with
       |none=>rw[h2] at h;cases h
       |some p=>
        rw[h2] at h;obtain⟨m,hm⟩:=qh n l' p.1 p.2 (by simp only[List.length_cons] at hn;omega) h2;cases h;exact⟨m+2,by simpa using hm⟩
    ·cases h2:textL l with
     |none=>rw[h2] at h;cases h
     |some p=>
      rw[h2] at h;obtain⟨m,hm⟩:=qh n l p.1 p.2 (by omega) h2;cases h;exact⟨m+1,by simpa using hm⟩
theorem putL_rest{kind kind' n n':Int}{x x' r r':List UInt8}(h:putL kind x n r=.ok (kind',x',n',r')):r=r'∧kind=kind'∧x=x'∧n=n':=by
 unfold putL at h;split at h
 ·cases h
 ·cases h;exact⟨rfl,rfl,rfl,rfl⟩
theorem dropWhile_suffix(p:UInt8→Bool)(c:UInt8)(r:List UInt8)(h:p c=true):∃m,(c::r).dropWhile p=r.drop m:=by
 rw[List.dropWhile_cons_of_pos h,←nR];exact⟨_,rfl⟩
theorem oneL_suffix{c:UInt8}{l:List UInt8}{k n:Int}{x r:List UInt8}(h:oneL (c::l)=.ok (k,x,n,r)):∃m,r=l.drop m:=by
 unfold oneL at h;simp only at h;split at h
 ·rename_i hc
  rw[←(putL_rest h).1];exact dropWhile_suffix insideB c l (by rcases hc with hc|hc<;>simp[insideB,hc])
 ·split at h
  ·rename_i hd
   split at h
   ·cases h
   ·rw[←(putL_rest h).1]
    exact dropWhile_suffix digitB c l hd
  ·split at h
   ·split at h
    ·cases h
    ·rename_i hx
     rw[←(putL_rest h).1];exact qh _ _ _ _ (Nat.le_refl _) hx
   ·split at h
    ·rename_i hs
     rw[←(putL_rest h).1];exact dropWhile_suffix symB c l hs
    ·split at h
     ·rw[←(putL_rest h).1]
      exact⟨0,rfl⟩
     ·cases h
theorem oneL_shorter{c:UInt8}{l:List UInt8}{k n:Int}{x r:List UInt8}(h:oneL (c::l)=.ok (k,x,n,r)):(skipC false r).length≤l.length:=by
 obtain⟨m,rfl⟩:=oneL_suffix h;have:=skipC_length false (l.drop m);rw[List.length_drop] at this;omega
theorem scanL_two:∀(f g:Nat) (l:List UInt8),l.length<f→l.length<g→scanL f l=scanL g l
 |0,_,l,h,_=>by omega
 |_+1,0,l,_,h=>by omega
 |f+1,g+1,[],_,_=>rfl
 |f+1,g+1,c::l,h,h'=>by
  simp only[scanL];cases h1:oneL (c::l) with
  |error e=>rfl
  |ok q=>
   obtain⟨k,x,n,r⟩:=q;have hs:=oneL_shorter h1;simp only[List.length_cons] at h h';simp only;rw[scanL_two f g _ (by omega) (by omega)]
theorem Fw(s:ByteArray):∀(f pos:Nat) (ts:List Tok),pos≤s.size→s.size-pos<f→jq s f pos ts=liftScan s.size ts (scanL f (s.data.toList.drop pos))
 |0,pos,ts,_,h=>by omega
 |f+1,pos,ts,hp,h=>by
  have hl:s.data.toList.length=s.size:=rfl;by_cases hlt:pos<s.size
  ·simp only[jq,hlt,dif_pos]
   rw[YB s pos hlt,drop_at s pos hlt];simp only[scanL];cases h1:oneL (s[pos]::s.data.toList.drop (pos+1)) with
   |error e=>
    simp only[xG,liftScan,List.length_cons,List.length_drop,hl];have:s.size-(s.size-(pos+1)+1)=pos:=by omega
    rw[this]
   |ok q=>
    obtain⟨k,x,n,r⟩:=q;obtain⟨m,hm⟩:=oneL_suffix h1;rw[List.drop_drop] at hm;have hr:=drop_pos s r _ hm;simp only[xG];have hrl:r.length≤s.size-(pos+1):=by
     rw[hm,List.length_drop];omega
    have hj:pos<s.size-r.length:=by omega
    have hk:=skipPos_ge s (s.size-r.length) (by omega);rw[Fw s f _ _ hk.2 (by omega),drop_skipPos,hr];cases scanL f (skipC false r) with
    |error e=>rfl
    |ok l=>
     simp only[liftScan,List.map_cons,List.append_assoc,List.singleton_append,toTok,List.length_cons,List.length_drop,hl];have:s.size-(s.size-(pos+1)+1)=pos:=by omega
     rw[this]
  ·have e:s.data.toList.drop pos=[]:=List.drop_eq_nil_of_le (by omega)
   simp only[jq,hlt,dif_neg,not_false_eq_true,e,scanL,liftScan,List.map_cons,List.map_nil,toTok,Ja];rfl
def scanAll(l:List UInt8):Except (Int×Nat) (List LTok):=scanL (l.length+1) (skipC false l)
theorem Gp(s:ByteArray):jq s (s.size+1) (skipPos s 0) []=liftScan s.size [] (scanAll s.data.toList):=by
 have hk:=skipPos_ge s 0 (Nat.zero_le _);rw[Fw s _ _ _ hk.2 (by omega),drop_skipPos];rfl
end Go.Proofs.YtijcobeebaceoaaGreatDoor.Lx
namespace Go.Proofs.YtijcobeebaceoaaGreatDoor.Lx
set_option maxRecDepth 20000
open Go.RowKit
def byteN(l:List UInt8)(k:Nat):Nat:=(l.getD k 0).toNat
def decL(l:List UInt8):Nat×Nat:=Lib.decodeN l.length (byteN l 0) (byteN l 1) (byteN l 2) (byteN l 3)
def badL(l:List UInt8):Bool:=((decL l).1:Int)==65533 && !Lib.hasPrefix l [239,191,189]
def spoilL:Nat→List UInt8→Option Nat
 |0,_=>none
 |f+1,l=>if l=[] then none else if badL l=true then some l.length else spoilL f (l.drop (decL l).2)
theorem xL(s:ByteArray)(i k:Nat):(s.get! (i+k)).toNat=byteN (s.data.toList.drop i) k:=by
 unfold byteN;have:s.get! (i+k)=(s.data.toList.drop i).getD k 0:=by
  rw[List.getD_eq_getElem?_getD,List.getElem?_drop,Array.getElem?_toList];by_cases h:i+k<s.data.size
  ·rw[show s.get! (i+k)=s.data[i+k]! from rfl,getElem!_pos s.data (i+k) h,Array.getElem?_eq_getElem h]
   rfl
  ·rw[show s.get! (i+k)=s.data[i+k]! from rfl,getElem!_neg s.data (i+k) h,Array.getElem?_eq_none (by omega)]
   rfl
 rw[this]
theorem LV(s:ByteArray)(i:Nat):Utf8.decode s i=decL (s.data.toList.drop i):=by
 rw[Lib.decode_at];unfold decL;have h0:=xL s i 0;rw[Nat.add_zero] at h0;rw[h0,xL s i 1,xL s i 2,xL s i 3,List.length_drop];rfl
theorem aa5(s:ByteArray)(i:Nat):xY s i=badL (s.data.toList.drop i):=by
 unfold xY badL;have hl:s.data.toList.length=s.size:=rfl;rw[LV,Lib.extract_data,List.take_of_length_le (by rw[List.length_drop];omega)]
theorem BQ(s:ByteArray):∀(f pos:Nat),jc s f pos=match spoilL f (s.data.toList.drop pos) with|none=>-1|some m=>((s.size-m:Nat):Int)
 |0,pos=>rfl
 |f+1,pos=>by
  have hl:s.data.toList.length=s.size:=rfl;by_cases h:pos<s.size
  ·have hne:s.data.toList.drop pos≠[]:=by rw[drop_at s pos h];simp
   simp only[jc,spoilL,h,if_true,hne,if_false,aa5];by_cases hb:badL (s.data.toList.drop pos)=true
   ·simp only[hb,if_true,List.length_drop,hl]
    have:s.size-(s.size-pos)=pos:=by omega
    rw[this]
   ·simp only[hb,if_false,List.drop_drop,LV,Bool.false_eq_true]
    exact BQ s f _
  ·have he:s.data.toList.drop pos=[]:=List.drop_eq_nil_of_le (by omega)
   simp[jc,spoilL,h,he]
theorem decL_width(c:UInt8)(r:List UInt8):1≤(decL (c::r)).2∧(decL (c::r)).2≤(c::r).length:=by
 unfold decL Lib.decodeN;simp only[List.length_cons]
 repeat' split
 all_goals simp only
 all_goals omega
def spoilAll(l:List UInt8):Option Nat:=spoilL (l.length+1) l
theorem J6(s:ByteArray):jb s=match spoilAll s.data.toList with|none=>-1|some m=>((s.size-m:Nat):Int):=BQ s (s.size+1) 0
end Go.Proofs.YtijcobeebaceoaaGreatDoor.Lx
namespace Go.Proofs.YtijcobeebaceoaaGreatDoor.Lx
set_option maxRecDepth 20000
theorem scanP_form(s:ByteArray)(h:s.size≤60000):scanP s=match spoilAll s.data.toList with|some m=>.error (100,s.size-m)|none=>liftScan s.size [] (scanAll s.data.toList):=by
 unfold scanP;rw[if_neg (by omega),J6];cases spoilAll s.data.toList with
 |none=>simp only;rw[if_neg (by omega)];exact Gp s
 |some m=>simp only;rw[if_pos (by omega)];rfl
end Go.Proofs.YtijcobeebaceoaaGreatDoor.Lx
namespace Go.Proofs.YtijcobeebaceoaaGreatDoor
open Go.RowKit
section
variable(P:Program)(S:Nat→List Shape)(E:Nat→og)(T:Nat→Et)
def fnB(k f:Nat)(t:FT):Bool:=match(E k).base,(E k).lp with
 |none,none=>Nat.beq (E k).f f&&MH S E (E k) (T k) (E k).n (E k).rin&&jv (E k).n (jk (E k).args++jX (E k).h)&&MJ P (Y6 P t f (E k).args (E k).h) (erase S E (E k) (T k) (E k).n) (E k).n [] [] []
 |_,_=>false
def lpC(k f id:Nat)(fn:Func)(t:FT):Bool:=match(E k).base,(E k).lp with
 |none,some (i,m0)=>Nat.beq i id&&Nat.beq (E k).f f&&MH S E (E k) (T k) (E k).n (E k).rin&&jv (E k).n (sF (E k).e++jX (E k).h)&&MJ P (Y7 P fn t (lb fn id) m0 (E k).e (E k).h) (erase S E (E k) (T k) (E k).n) (E k).n [] [] []
 |_,_=>false
def ahk(ft:Nat→FT)(k:Nat):Bool:=match P.funcs[(E k).f]? with
 |some fn=>match(E k).lp with
  |none=>fn.body.isSome&&tabOk (ft (E k).f).sd (ft (E k).f).sx (fK fn)&&fnB P S E T k (E k).f (ft (E k).f)
  |some (i,_)=>iR (subs i (fK fn))&&tabOk (ft (E k).f).sd (ft (E k).f).sx (lb fn i)&&lpC P S E T k (E k).f i fn (ft (E k).f)
 |none=>false
end
section
variable{P:Program}{S:Nat→List Shape}{E:Nat→og}{T:Nat→Et}{k f:Nat}{fn:Func}{t:FT}
theorem rF(hm:P.follows .mixedOrders=true)(h1:P.funcs[f]? = some fn)(h2:fn.body.isSome=true)(h3:tabOk t.sd t.sx (fK fn)=true)(h:fnB P S E T k f t=true):aA P S E T k:=by
 unfold fnB at h;split at h
 ·rename_i hb hl
  simp only[Bool.and_eq_true] at h;obtain⟨⟨⟨g1,g2⟩,g3⟩,g4⟩:=h;have g1:=Nat.eq_of_beq_eq_true g1;subst g1;exact aA.fn rfl rfl hb hl h1 g2 rfl fun l v h' h0 hn a b hd=>aaq h1 h2 hm h3 g3 g4 h0 hn a b hd
 ·cases h
theorem rL{id:Nat}(hm:P.follows .mixedOrders=true)(h1:P.funcs[f]? = some fn)(h2:iR (subs id (fK fn))=true)(h3:tabOk t.sd t.sx (lb fn id)=true)(h:lpC P S E T k f id fn t=true):aA P S E T k:=by
 unfold lpC at h;split at h
 ·rename_i i m0 hb hl
  simp only[Bool.and_eq_true] at h;obtain⟨⟨⟨⟨g0,g1⟩,g2⟩,g3⟩,g4⟩:=h;have g1:=Nat.eq_of_beq_eq_true g1;have g0:=Nat.eq_of_beq_eq_true g0;subst g1;subst g0;exact aA.loop rfl rfl hb hl h1 g2 rfl fun l ex e' h' h0 hn a b hd=>Vj h2 hm h3 g3 g4 h0 hn a b hd
 ·cases h
theorem rF2(hm:P.follows .mixedOrders=true)(h1:P.funcs[f]? = some fn)(h:(fn.body.isSome&&tabOk t.sd t.sx (fK fn)&&fnB P S E T k f t)=true):aA P S E T k:=by
 rw[Bool.and_eq_true,Bool.and_eq_true] at h;exact rF hm h1 h.1.1 h.1.2 h.2
theorem rL2{id:Nat}(hm:P.follows .mixedOrders=true)(h1:P.funcs[f]? = some fn)(h:(iR (subs id (fK fn))&&tabOk t.sd t.sx (lb fn id)&&lpC P S E T k f id fn t)=true):aA P S E T k:=by
 rw[Bool.and_eq_true,Bool.and_eq_true] at h;exact rL hm h1 h.1.1 h.1.2 h.2
theorem rows_ok(hm:P.follows .mixedOrders=true){ft:Nat→FT}(a:Nat)(h0:bR (aA P S E T) a):∀n,(List.range n).all (fun i=>ahk P S E T ft (a+i))=true→bR (aA P S E T) (a+n)
 |0,_=>h0
 |n+1,h=>by
  rw[List.range_succ,List.all_append,Bool.and_eq_true] at h;refine⟨rows_ok hm a h0 n h.1,?_⟩;have h2:ahk P S E T ft (a+n)=true:=by simpa using h.2
  unfold ahk at h2;split at h2
  ·rename_i fn hf
   split at h2
   ·exact rF2 hm hf h2
   ·exact rL2 hm hf h2
  ·cases h2
end
end Go.Proofs.YtijcobeebaceoaaGreatDoor
namespace Go.Proofs.YtijcobeebaceoaaGreatDoor
open Go.RowKit
structure Tk where
 kind:Int
 text:ByteArray
 n:Int
 at_:Int
def Tk.cells(t:Tk):List PV:=[iv t.kind,sv t.text,iv t.n,iv t.at_]
def aW(l:List Tk):PV:=.rows (l.map Tk.cells)
def ofTok(t:Lx.Tok):Tk:=⟨t.kind,t.text,t.n,(t.at_:Int)⟩
def om(r:Except (Int×Nat) (List Lx.Tok)):PV×Int×Int:=match r with
 |.ok ts=>(aW (ts.map ofTok),0,0)
 |.error (c,p)=>(.lit (.slice none 0 0),c,(p:Int))
def Vl:List PV→Option Rs
 |[]=>some (0,[.lit (.bool true)])
 |_=>none
def NZ(r:Except (Int×Nat) (List Lx.Tok)):Bool:=match r with
 |.ok []=>true
 |_=>false
def Ww:List PV→Option Rs
 |[.lit (.string b)]=>if b.size≤1000000∧NZ (Lx.scanP b)=false then some (0,[(om (Lx.scanP b)).1,iv (om (Lx.scanP b)).2.1,iv (om (Lx.scanP b)).2.2]) else none
 |_=>none
end Go.Proofs.YtijcobeebaceoaaGreatDoor
