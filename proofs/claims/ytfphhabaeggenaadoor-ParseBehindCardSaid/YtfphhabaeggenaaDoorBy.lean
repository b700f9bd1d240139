/- Joined texts. -/
import Derived.Test.YtfphhabaeggenaaDoorBx
import Derived.StillTailTactics
import Derived.IntWalk
import Derived.Lib.DecodeN
import Derived.Lib.RuneCount
set_option linter.all false
namespace Go.Proofs.YtfphhabaeggenaaDoor.Lx
set_option maxRecDepth 20000
open Go.RowKit
def stepD(a:Int×Bool)(c:UInt8):Int×Bool:=if a.2=true then a else(IntKind.u64.wrap (IntKind.u64.wrap (10*a.1)+((c.toNat:Int)-48)),decide (4611686018427387904<IntKind.u64.wrap (IntKind.u64.wrap (10*a.1)+((c.toNat:Int)-48))))
theorem wrapU_bd(n:Int):0≤IntKind.u64.wrap n∧IntKind.u64.wrap n<18446744073709551616:=by
 simp[IntKind.wrap,IntKind.signed,IntKind.bits]
 omega
def foldD(l:List UInt8):Int×Bool:=l.foldl stepD (0,false)
theorem foldD_bd(l:List UInt8):0≤(foldD l).1∧(foldD l).1<18446744073709551616:=by
 unfold foldD
 have:∀(l:List UInt8) (a:Int×Bool),0≤a.1∧a.1<18446744073709551616→0≤(l.foldl stepD a).1∧(l.foldl stepD a).1<18446744073709551616:=by
  intro l
  induction l with
  |nil=>intro a h;exact h
  |cons c r ih=>
   intro a h
   apply ih
   unfold stepD
   split
   ·exact h
   ·exact wrapU_bd _
 exact this l (0,false) (by simp)
theorem foldD_snoc(s:ByteArray)(k:Nat)(h:k<s.size):foldD (s.data.toList.take (k+1))=stepD (foldD (s.data.toList.take k)) s[k]:=by
 unfold foldD
 rw[take_snoc s k h,List.foldl_append]
 rfl
theorem all_at{p:UInt8→Bool}{s:ByteArray}(h:allB p s=true)(k:Nat)(hk:k<s.size):p s[k]=true:=by
 unfold allB at h
 rw[List.all_eq_true] at h
 exact h _ (mem_at s k hk)
set_option maxHeartbeats 1000000 in
theorem digits_any(s:ByteArray)(w:World)(h0:0<s.size)(hs:s.size≤1000000)(hz:s.size=1∨((s[0].toNat:Int)==48)=false)(hd:allB digitB s=true) :
  Calls Tryd.prog 81 #[.string s] w fun e w'=>e=.returned (.tuple #[.int .u64 (foldD s.data.toList).1,.bool (foldD s.data.toList).2,.bool true])∧w=w':=by
 have he:s.toList.isEmpty=false:=by
  rw[ByteArray.toList_eq]
  obtain⟨⟨l⟩⟩:=s
  cases l with
  |nil=>exact absurd h0 (by decide)
  |cons _ _=>rfl
 have hone:decide ((1:Int)<(s.size:Int))=false∨(decide ((1:Int)<(s.size:Int))=true∧((s[0].toNat:Int)==48)=false):=by
  rcases hz with h|h
  ·left;simp;omega
  ·by_cases h1:s.size=1
   ·left;simp;omega
   ·right;exact⟨by simp;omega,h⟩
 clear hz
 rcases hone with h1|⟨h1,h2⟩
 all_goals
  go_enter Tryd.func81,Tryd.ntmps81
  go_wp2_with fail
  go_loop [2,3,4,5,20] (fun n g o _ i=>∃k:Nat,k≤s.size∧i=.int .i64 k∧o=.bool false∧n=.int .u64 (foldD (s.data.toList.take k)).1∧g=.bool (foldD (s.data.toList.take k)).2) (fun _ _ _ _ i=>s.size-(intOf i).toNat)
  case atStart=>exact⟨0,Nat.zero_le _,rfl,rfl,rfl,rfl⟩
  case round=>
   obtain⟨k,hk,rfl,rfl,rfl,rfl⟩:=hrel
   by_cases hlt:k<s.size
   ·have hdk:=all_at hd k hlt
    have hd1:48≤(s[k].toNat:Int)∧(s[k].toNat:Int)≤57:=by
     simp[digitB] at hdk
     omega
    have HS:=Lib.hid (foldD_snoc s k hlt)
    have hbd:=foldD_bd (s.data.toList.take k)
    generalize foldD (s.data.toList.take k)=a at *
    obtain⟨n,g⟩:=a
    obtain⟨hlo,hhi⟩:=hd1
    obtain⟨hb0,hb1⟩:=hbd
    simp only at hb0 hb1
    clear hdk hd
    cases g
    all_goals go_wp2_with fail
    all_goals
     go_round
     case rel=>exact⟨k+1,by omega,by go_num,rfl,by rw[HS.out];rfl,by rw[HS.out];rfl⟩
     case measure=>simp[intOf];omega
   ·go_wp2_with fail
    go_ret3
    rw[take_all s k hlt]
    exact⟨rfl,rfl⟩
end Go.Proofs.YtfphhabaeggenaaDoor.Lx
namespace Go.Proofs.YtfphhabaeggenaaDoor.Lx
set_option maxRecDepth 20000
open Go.RowKit
def parseD(l:List UInt8):Option Int:=if(foldD l).2=true∨(foldD l).1=4611686018427387904 then none else some (foldD l).1
theorem foldD_small(l:List UInt8)(h:(foldD l).2=false):(foldD l).1≤4611686018427387904:=by
 unfold foldD at *
 have:∀(l:List UInt8) (a:Int×Bool),(a.2=false→a.1≤4611686018427387904)→(l.foldl stepD a).2=false→(l.foldl stepD a).1≤4611686018427387904:=by
  intro l
  induction l with
  |nil=>intro a h;exact h
  |cons c r ih=>
   intro a h
   apply ih
   unfold stepD
   split
   ·exact h
   ·intro h1
    simpa using h1
 exact this l (0,false) (by simp) h
set_option maxHeartbeats 1000000 in
theorem parse_yes(s:ByteArray)(w:World)(n:Int)(h0:0<s.size)(hs:s.size≤1000000)(hz:s.size=1∨((s[0].toNat:Int)==48)=false)(hd:allB digitB s=true)(hp:parseD s.data.toList=some n) :
  Calls Tryd.prog 74 #[.string s] w fun e w'=>e=.returned (.tuple #[.int .i64 n,.int .i64 0])∧w=w':=by
 have hd0:=all_at hd 0 h0
 have hneg:((s[0].toNat:Int)==45)=false:=by
  simp[digitB] at hd0
  simp;omega
 have hlen:decide ((0:Int)<(s.size:Int))=true:=by simp;omega
 have hbd:=foldD_bd s.data.toList
 have hsm:=foldD_small s.data.toList
 have HD:=Lib.hid (digits_any s w h0 hs hz hd)
 clear hd0 hz hd
 unfold parseD at hp
 generalize foldD s.data.toList=a at *
 obtain⟨m,g⟩:=a
 cases g with
 |true=>simp at hp
 |false=>
  by_cases hm:m=4611686018427387904
  ·simp[hm] at hp
  ·obtain rfl:m=n:=by simpa[hm] using hp
   have hm':(m==4611686018427387904)=false:=by simp[hm]
   have hlt:m<4611686018427387904:=by have:=hsm rfl;simp only at this;omega
   obtain⟨hb0,hb1⟩:=hbd
   simp only at hb0 hb1
   clear hp hm hsm hb1
   go_enter Tryd.func74,Tryd.ntmps74
   go_wp2_with (go_at_call 81;refine HD.out.mono ?_;rintro e w' ⟨rfl,rfl⟩)
   go_ret2
   exact⟨rfl,rfl⟩
set_option maxHeartbeats 1000000 in
theorem parse_no(s:ByteArray)(w:World)(h0:0<s.size)(hs:s.size≤1000000)(hz:s.size=1∨((s[0].toNat:Int)==48)=false)(hd:allB digitB s=true)(hp:parseD s.data.toList=none) :
  Calls Tryd.prog 74 #[.string s] w fun e w'=>e=.returned (.tuple #[.int .i64 0,.int .i64 3])∧w=w':=by
 have hd0:=all_at hd 0 h0
 have hneg:((s[0].toNat:Int)==45)=false:=by
  simp[digitB] at hd0
  simp;omega
 have hlen:decide ((0:Int)<(s.size:Int))=true:=by simp;omega
 have HD:=Lib.hid (digits_any s w h0 hs hz hd)
 clear hd0 hz hd
 unfold parseD at hp
 generalize foldD s.data.toList=a at *
 obtain⟨m,g⟩:=a
 have hcase:g=true∨(g=false∧(m==4611686018427387904)=true):=by
  cases g
  ·right;simpa using hp
  ·left;rfl
 clear hp
 rcases hcase with rfl|⟨rfl,hm⟩
 all_goals
  go_enter Tryd.func74,Tryd.ntmps74
  go_wp2_with (go_at_call 81;refine HD.out.mono ?_;rintro e w' ⟨rfl,rfl⟩)
  go_ret2
  exact⟨rfl,rfl⟩
def numText(l:List UInt8):List UInt8:=if Lib.trimLeftB l 48=[] then [48] else Lib.trimLeftB l 48
def numOf(l:List UInt8)(k j:Nat):Except Int (Tok×Nat):=
 match parseD l with
 |none=>.error 102
 |some n=>putR 3 (textOf l) n k j
def numR(s:ByteArray)(k:Nat):Except Int (Tok×Nat):=numOf (numText ((s.data.toList.drop k).takeWhile digitB)) k (adv digitB s k)
theorem numText_all(l:List UInt8)(h:l.all digitB=true):(numText l).all digitB=true:=by
 unfold numText
 split
 ·decide
 ·rw[List.all_eq_true] at *
  intro x hx
  exact h x ((List.dropWhile_sublist _).mem hx)
theorem numText_ne(l:List UInt8):numText l≠[]:=by
 unfold numText
 split
 ·simp
 ·assumption
theorem numText_head(l:List UInt8)(c:UInt8)(r:List UInt8)(h:numText l=c::r):r=[]∨c≠48:=by
 unfold numText at h
 split at h
 ·simp at h;exact .inl h.2
 ·right
  unfold Lib.trimLeftB at h
  intro e
  subst e
  have:∀l:List UInt8,∀r,l.dropWhile (· == 48)=48::r→False:=by
   intro l
   induction l with
   |nil=>intro r h;simp at h
   |cons x y ih=>
    intro r h
    by_cases hx:x=48
    ·rw[List.dropWhile_cons_of_pos (by simp[hx])] at h;exact ih r h
    ·rw[List.dropWhile_cons_of_neg (by simp[hx])] at h
     cases h;exact hx rfl
  exact this _ _ h
theorem numText_len(l:List UInt8):(numText l).length≤l.length+1:=by
 unfold numText
 split
 ·simp
 ·have:=(List.dropWhile_sublist (· == (48:UInt8)) (l:=l)).length_le
  unfold Lib.trimLeftB
  omega
theorem textOf_size(l:List UInt8):(textOf l).size=l.length:=by simp[textOf,ByteArray.size]
theorem textOf_all(p:UInt8→Bool)(l:List UInt8):allB p (textOf l)=l.all p:=by simp[textOf,allB]
theorem textOf_data(l:List UInt8):(textOf l).data.toList=l:=rfl
theorem textOf_toList(l:List UInt8):(textOf l).toList=l:=by rw[ByteArray.toList_eq];rfl
theorem mem_tw(p:UInt8→Bool):∀(l:List UInt8) (x:UInt8),x∈l.takeWhile p→p x=true
 |[],x,h=>by simp at h
 |c::r,x,h=>by
  by_cases hc:p c=true
  ·rw[List.takeWhile_cons_of_pos hc] at h
   rcases List.mem_cons.1 h with rfl|h
   ·exact hc
   ·exact mem_tw p r x h
  ·rw[List.takeWhile_cons_of_neg hc] at h
   cases h
theorem numText_empty{l:List UInt8}(h:(Lib.trimLeftB l 48).isEmpty=true):(ByteArray.mk #[48])=textOf (numText l):=by
 have:Lib.trimLeftB l 48=[]:=by simpa using h
 unfold numText
 rw[if_pos this]
 rfl
theorem numText_full{l:List UInt8}(h:(Lib.trimLeftB l 48).isEmpty=false):(ByteArray.mk (Lib.trimLeftB l 48).toArray)=textOf (numText l):=by
 have:¬Lib.trimLeftB l 48=[]:=by simpa using h
 unfold numText
 rw[if_neg this]
 rfl
set_option maxHeartbeats 1000000 in
theorem number_any(b k:Nat)(s:ByteArray)(ts:List Tok)(w:World)(hsc:Sc w b s k ts)(hk:k<s.size)(hs:s.size≤100000)(hts:ts.length≤1000000) :
  Calls Tryd.prog 63 #[.pointer (some ⟨b,0,none⟩)] w (Got w b s ts (numR s k)):=by
 obtain⟨v,hb,ho⟩:=hsc
 have c1:=hb.c1
 go_enter Tryd.func63,Tryd.ntmps63
 go_wp2_with fail
 refine(more_any 62 digitB digit_fn b k s v _ hb (by omega) (by omega)).mono ?_
 rintro e w1 ⟨rfl,hb1,hg1⟩
 have hsc1:=Sc.moved ho hb1 hg1
 have hbl:=below_of_grown hg1 (Nat.le_of_lt hb.lt)
 have hle:=adv_le digitB s k (by omega)
 have hsz:=size_extract s k (adv digitB s k) hle
 have htx:=adv_text digitB s k
 have hall:((s.data.toList.drop k).takeWhile digitB).all digitB=true:=by
  rw[List.all_eq_true]
  intro x hx
  exact mem_tw _ _ _ hx
 have hlen:(numText ((s.data.toList.drop k).takeWhile digitB)).length≤1000000:=by
  have h1:=numText_len ((s.data.toList.drop k).takeWhile digitB)
  have h2:((s.data.toList.drop k).takeWhile digitB).length≤s.size:=by
   have:=(List.takeWhile_sublist digitB (l:=s.data.toList.drop k)).length_le
   have hl:s.data.toList.length=s.size:=rfl
   rw[List.length_drop] at this
   omega
  omega
 have HR:Hid (numR s k=numOf (numText ((s.data.toList.drop k).takeWhile digitB)) k (adv digitB s k)):=rfl
 rw[←htx] at hall hlen HR
 clear hsz hb1 hg1 ho hb c1 htx
 generalize s.extract k (adv digitB s k)=x at *
 generalize adv digitB s k=j at *
 go_wp2_with fail
 refine(Tryd.strings_TrimLeft_one _ 48 (by decide) _).mono ?_
 rintro e w' ⟨rfl,rfl⟩
 go_wp2_with fail
 all_goals
  first|rw[numText_empty (by assumption)]|rw[numText_full (by assumption)]
  have hA:=numText_all _ hall
  have hN:=numText_ne x.data.toList
  have hH:=numText_head x.data.toList
  generalize numText x.data.toList=y at *
  have h0:0<(textOf y).size:=by rw[textOf_size];cases y with|nil=>exact absurd rfl hN|cons _ _=>simp
  have hz:(textOf y).size=1∨(((textOf y)[0].toNat:Int)==48)=false:=by
   cases y with
   |nil=>exact absurd rfl hN
   |cons c r=>
    rcases hH c r rfl with rfl|h
    ·left;rfl
    ·right
     show ((c.toNat:Int)==48)=false
     simp
     intro e
     exact h (UInt8.toNat_inj.1 (by have h48:(48:UInt8).toNat=48:=rfl;omega))
  have hd:allB digitB (textOf y)=true:=by rw[textOf_all];exact hA
  have hsz:(textOf y).size≤1000000:=by rw[textOf_size];exact hlen
  clear hall hA hN hH hlen
  cases hp:parseD y with
  |none=>
   refine(parse_no (textOf y) _ h0 hsz hz hd hp).mono ?_
   rintro e w2 ⟨rfl,rfl⟩
   have HP:=Lib.hid hp
   clear hp hz hd
   go_wp2_with fail
   go_ret
   rw[HR.out]
   unfold numOf
   rw[HP.out]
   exact⟨rfl,hbl⟩
  |some n=>
   refine(parse_yes (textOf y) _ n h0 hsz hz hd hp).mono ?_
   rintro e w2 ⟨rfl,rfl⟩
   have HP:=Lib.hid hp
   clear hp hz hd
   go_wp2_with fail
   refine(put_got b s j ts _ _ _ k _ hsc1 hts).mono ?_
   rintro e w3 hgot
   obtain⟨c,rfl⟩:=hgot.is
   have HGOT:=Lib.hid hgot
   clear hgot
   go_wp2_with fail
   go_ret
   rw[HR.out]
   unfold numOf
   rw[HP.out]
   exact Got.after hbl HGOT.out
end Go.Proofs.YtfphhabaeggenaaDoor.Lx
namespace Go.Proofs.YtfphhabaeggenaaDoor.Lx
set_option maxRecDepth 20000
open Go.RowKit
def escC(d:UInt8):Option UInt8:=if d.toNat=110 then some 10 else if d.toNat=116 then some 9 else if d.toNat=34 then some 34 else if d.toNat=92 then some 92 else none
def textL:List UInt8→Option (List UInt8×List UInt8)
 |[]=>none
 |c::r=>
  if c.toNat=34 then some ([],r)
  else if c.toNat=10 then none
  else if c.toNat=92 then
   match r with
   |[]=>none
   |d::r'=>
    match escC d with
    |none=>none
    |some x=>(textL r').map fun p=>(x::p.1,p.2)
  else(textL r).map fun p=>(c::p.1,p.2)
theorem textL_cons(c:UInt8)(r:List UInt8):textL (c::r) =
  if c.toNat=34 then some ([],r)
  else if c.toNat=10 then none
  else if c.toNat=92 then
   match r with
   |[]=>none
   |d::r'=>
    match escC d with
    |none=>none
    |some x=>(textL r').map fun p=>(x::p.1,p.2)
  else(textL r).map fun p=>(c::p.1,p.2):=by
 cases r<;>rfl
def textOfR(o:Option (List UInt8×List UInt8))(s:ByteArray)(k:Nat):Except Int (Tok×Nat):=
 match o with
 |none=>.error 103
 |some (x,r)=>putR 4 (textOf x) 0 k (s.size-r.length)
def textR(s:ByteArray)(k:Nat):Except Int (Tok×Nat):=textOfR (textL (s.data.toList.drop (k+1))) s k
def more'(acc:List UInt8)(o:Option (List UInt8×List UInt8)):Option (List UInt8×List UInt8):=o.map fun p=>(acc++p.1,p.2)
theorem more'_nil(o:Option (List UInt8×List UInt8)):more' [] o=o:=by cases o<;>rfl
theorem textL_plain{s:ByteArray}{j:Nat}(h:j<s.size)(acc:List UInt8)(h1:s[j].toNat≠34)(h2:s[j].toNat≠10)(h3:s[j].toNat≠92) :
  more' acc (textL (s.data.toList.drop j))=more' (acc++[s[j]]) (textL (s.data.toList.drop (j+1))):=by
 rw[drop_at s j h,textL_cons]
 simp only[h1,h2,h3,if_false]
 cases textL (s.data.toList.drop (j+1))<;>simp[more']
theorem textL_quote{s:ByteArray}{j:Nat}(h:j<s.size)(acc:List UInt8)(h1:s[j].toNat=34) :
  more' acc (textL (s.data.toList.drop j))=some (acc,s.data.toList.drop (j+1)):=by
 rw[drop_at s j h,textL_cons]
 simp[h1,more']
theorem textL_line{s:ByteArray}{j:Nat}(h:j<s.size)(acc:List UInt8)(h1:s[j].toNat=10):more' acc (textL (s.data.toList.drop j))=none:=by
 rw[drop_at s j h,textL_cons]
 simp[h1,more']
theorem textL_end{s:ByteArray}{j:Nat}(h:¬j<s.size)(acc:List UInt8):more' acc (textL (s.data.toList.drop j))=none:=by
 have hl:s.data.toList.length=s.size:=rfl
 rw[List.drop_eq_nil_of_le (by omega)]
 rfl
theorem textL_back_end{s:ByteArray}{j:Nat}(h:j<s.size)(acc:List UInt8)(h1:s[j].toNat=92)(h2:¬j+1<s.size):more' acc (textL (s.data.toList.drop j))=none:=by
 have hl:s.data.toList.length=s.size:=rfl
 rw[drop_at s j h,List.drop_eq_nil_of_le (by omega),textL_cons]
 simp[h1,more']
theorem textL_back{s:ByteArray}{j:Nat}(h:j<s.size)(acc:List UInt8)(h1:s[j].toNat=92)(h2:j+1<s.size) :
  more' acc (textL (s.data.toList.drop j))=match escC s[j+1] with|none=>none|some x=>more' (acc++[x]) (textL (s.data.toList.drop (j+2))):=by
 rw[drop_at s j h,drop_at s (j+1) h2,textL_cons]
 simp only[h1]
 cases escC s[j+1] with
 |none=>simp[more']
 |some x=>cases textL (s.data.toList.drop (j+2))<;>simp[more']
theorem esc_index(d:UInt8):(Lib.indexByte [110,116,34,92] d = -1∧escC d=none)∨(Lib.indexByte [110,116,34,92] d=0∧escC d=some 10)∨(Lib.indexByte [110,116,34,92] d=1∧escC d=some 9)∨(Lib.indexByte [110,116,34,92] d=2∧escC d=some 34)∨(Lib.indexByte [110,116,34,92] d=3∧escC d=some 92):=by
 revert d
 have:∀n:Fin 256,(Lib.indexByte [110,116,34,92] (UInt8.ofNat n) = -1∧escC (UInt8.ofNat n)=none)∨(Lib.indexByte [110,116,34,92] (UInt8.ofNat n)=0∧escC (UInt8.ofNat n)=some 10)∨(Lib.indexByte [110,116,34,92] (UInt8.ofNat n)=1∧escC (UInt8.ofNat n)=some 9)∨(Lib.indexByte [110,116,34,92] (UInt8.ofNat n)=2∧escC (UInt8.ofNat n)=some 34)∨(Lib.indexByte [110,116,34,92] (UInt8.ofNat n)=3∧escC (UInt8.ofNat n)=some 92):=by decide +kernel
 intro d
 have:=this ⟨d.toNat,d.toNat_lt⟩
 simpa using this
def byteCells(l:List UInt8):List Value:=l.map fun c=>Value.int .u8 (c.toNat:Int)
theorem byteCells_snoc(l:List UInt8)(c:UInt8):byteCells (l++[c])=byteCells l++[Value.int .u8 (c.toNat:Int)]:=by simp[byteCells]
theorem own_string{w:World}{base:Nat}{v:Value}{l:List UInt8}(h:w.ownsRow base 5 1 v l.length (byteCells l)):(convert 127 9 v).run Tryd.prog w=.ok (.string (textOf l)) w:=by
 rcases h.2 with⟨rfl,h0⟩|⟨g,cap,cur,rfl,_,hg,_⟩
 ·rw[run_convert_bytes_nil w 127 5 Tryd.underlying127 Tryd.underlying5 0 0 9 Tryd.underlying9]
  have:l=[]:=List.eq_nil_of_length_eq_zero h0
  subst this
  rfl
 ·refine run_convert_bytes_back w 127 9 5 ⟨g,0,none⟩ cap l Tryd.underlying127 Tryd.underlying5 Tryd.underlying9 ?_
  intro j hj
  exact h.cells (g:=g) rfl j _ (by simp[byteCells,hj])
structure Tx(w0:World)(b B2:Nat)(s:ByteArray)(ts:List Tok)(v:Value)(j:Nat)(acc:List UInt8)(bv:Value)(w:World):Prop where
 blk:Blk w b s j v
 own:w.ownsRow (b+1) 85 4 v ts.length (tokCells ts)
 byt:w.ownsRow B2 5 1 bv acc.length (byteCells acc)
 bel:Below b w0 w
 hB:B2≤w.heap.size
 hb:b<B2
 hv:∀g,v.ownBlock=some g→g<B2
section
variable{w0 w:World}{b B2:Nat}{s:ByteArray}{ts:List Tok}{v:Value}{j:Nat}{acc:List UInt8}{bv:Value}
theorem Tx.drewN(h:Tx w0 b B2 s ts v j acc bv w)(n:Nat):Tx w0 b B2 s ts v j acc bv (w.drewN n):=
 ⟨h.blk,h.own,h.byt,⟨h.bel.os,h.bel.tape,h.bel.output,h.bel.size,h.bel.block⟩,h.hB,h.hb,h.hv⟩
theorem Tx.move(h:Tx w0 b B2 s ts v j acc bv w)(j':Nat):Tx w0 b B2 s ts v j' acc bv (w.setCell ⟨b,1,none⟩ (.int .i64 (j':Int))):=
 ⟨h.blk.set1 j',ownsRow_setCell_below h.own (by simp) _,ownsRow_setCell_below h.byt (by simpa using h.hb) _,h.bel.setCell (Nat.le_refl _) _,by simpa[World.setCell] using h.hB,h.hb,h.hv⟩
theorem Tx.appended(h:Tx w0 b B2 s ts v j acc bv w)(o:Obj)(c:UInt8){bv':Value}{w':World}(hown:w'.ownsRow B2 5 1 bv' (acc.length+1) (byteCells acc++[Value.int .u8 (c.toNat:Int)]))
  (hgr:(w.alloc o).grownBy w' bv.ownBlock):Tx w0 b B2 s ts v j (acc++[c]) bv' w':=by
 have hne:∀g,bv.ownBlock=some g→B2≤g:=fun g hg=>(h.byt.lt g hg).1
 refine⟨h.blk.later o hgr (fun e=>by have:=hne b e;have:=h.hb;omega),?_,?_,?_,?_,h.hb,h.hv⟩
 ·refine(h.own.alloc o).kept hgr ?_
  cases hv:v.ownBlock with
  |none=>exact .inl rfl
  |some g=>exact .inr (fun e=>by have:=h.hv g hv;have:=hne g e.symm;omega)
 ·rw[byteCells_snoc,List.length_append];exact hown
 ·refine(h.bel.alloc ?_ o).grown hgr ?_ (fun g hg=>?_)
  ·have:=h.hB;have:=h.hb;omega
  ·have:=h.hB;have:=h.hb;simp;omega
  ·have:=hne g hg;have:=h.hb;omega
 ·have:=hgr.size;have:=h.hB;simp at *;omega
end
end Go.Proofs.YtfphhabaeggenaaDoor.Lx
namespace Go.Proofs.YtfphhabaeggenaaDoor.Lx
set_option maxRecDepth 20000
open Go.RowKit
theorem info5:(Tryd.prog.info? 5).map (fun i=>(i.zero,i.size,i.bytes))=some (some (.int .u8 0),1,1):=by kernel_rfl
theorem one_cell(c:UInt8):∀u,u∈[Value.int .u8 (c.toNat:Int)]→u.oneCell'=true:=by
 intro u h
 simp at h
 subst h
 rfl
theorem own_sliceForm{w:World}{base:Nat}{e:TypeId}{size:Nat}{v:Value}{n:Nat}{xs:List Value}(h:w.ownsRow base e size v n xs):∃a c,v=.slice a n c:=by
 rcases h.2 with⟨rfl,rfl⟩|⟨g,cap,_,rfl,_⟩
 ·exact⟨_,_,rfl⟩
 ·exact⟨_,_,rfl⟩
theorem textOfR_some(s:ByteArray)(k j:Nat)(acc:List UInt8)(h:j≤s.size):textOfR (some (acc,s.data.toList.drop j)) s k=putR 4 (textOf acc) 0 k j:=by
 have hl:s.data.toList.length=s.size:=rfl
 have e1:s.size-(s.data.toList.drop j).length=j:=by rw[List.length_drop];omega
 show putR 4 (textOf acc) 0 k (s.size-(s.data.toList.drop j).length)=_
 rw[e1]
theorem Tx.move1{w0 w:World}{b B2:Nat}{s:ByteArray}{ts:List Tok}{v:Value}{j:Nat}{acc:List UInt8}{bv:Value}(h:Tx w0 b B2 s ts v j acc bv w):Tx w0 b B2 s ts v (j+1) acc bv (w.setCell ⟨b,1,none⟩ (.int .i64 ((j:Int)+1))):=by
 have:=h.move (j+1)
 rwa [Int.natCast_add] at this
set_option maxHeartbeats 2000000 in
set_option maxRecDepth 100000 in
theorem text_any(b k:Nat)(s:ByteArray)(ts:List Tok)(w:World)(hsc:Sc w b s k ts)(hk:k<s.size)(hs:s.size≤100000)(hts:ts.length≤1000000) :
  Calls Tryd.prog 64 #[.pointer (some ⟨b,0,none⟩)] w (Got w b s ts (textR s k)):=by
 obtain⟨v,hb,ho⟩:=hsc
 obtain⟨i0,hi,hz0,hz1,hz2⟩:=info_parts info5
 have htx0:Tx w b w.heap.size s ts v k [] (.slice none 0 0) w:=⟨hb,ho,World.ownsRow_nil _ _ _ _,Below.refl _ _,Nat.le_refl _,hb.lt,fun g hg=>(ho.lt g hg).2⟩
 generalize w.heap.size=B2 at htx0
 have c1:=hb.c1
 have f1:=hb.f 1
 clear hb ho
 go_enter Tryd.func64,Tryd.ntmps64
 go_wp2_with fail
 go_loopg [4] (s.size-(k+1)) (fun g bv wr=>∃(j:Nat) (acc:List UInt8),k+1≤j∧j≤s.size∧s.size-j=g∧acc.length≤j∧Tx w b B2 s ts v j acc bv wr∧textL (s.data.toList.drop (k+1))=more' acc (textL (s.data.toList.drop j)))
 case atStart=>exact⟨k+1,[],Nat.le_refl _,by omega,rfl,by simp,htx0.move (k+1),(more'_nil _).symm⟩
 case round=>
  obtain⟨j,acc,hkj,hj,hg,hacc,htx,htl⟩:=hrel
  have HR:Hid (textR s k=textOfR (more' acc (textL (s.data.toList.drop j))) s k):=by
   show textR s k=_
   unfold textR
   rw[htl]
  have HG:=Lib.hid hg
  have HT:=Lib.hid htl
  clear hg htl c1 f1 htx0
  have c0:=htx.blk.c0
  have c1:=htx.blk.c1
  by_cases hlt:j<s.size
  ·have hd:decide ((j:Int)<(s.size:Int))=true:=by simp;omega
   go_wp2_with fail
   go_quiet (fail)
   have htx2:=htx.drewN nq
   clear c0 c1 htx
   generalize wr.drewN nq=w2 at *
   have c0:=htx2.blk.c0
   have c1:=htx2.blk.c1
   go_wp2_with fail
   go_quiet (fail)
   have htx:=htx2.drewN nq
   clear c0 c1 htx2
   generalize w2.drewN nq=wr at *
   have c0:=htx.blk.c0
   have c1:=htx.blk.c1
   have f1:=htx.blk.f 1
   have hcv:=own_string htx.byt
   obtain⟨ba,bc,hbv⟩:=own_sliceForm htx.byt
   rw[hbv] at htx hcv ⊢
   clear hbv
   by_cases h34:s[j].toNat=34
   ·have t34:((s[j].toNat:Int)==34)=true:=by simp[h34]
    have HE:=Lib.hid (textL_quote hlt acc h34)
    clear h34
    have htm:=htx.move1
    have hcv2:=own_string htm.byt
    go_wp2_with fail
    refine(put_got b s (j+1) ts _ _ _ k _ ⟨v,htm.blk,htm.own⟩ hts).mono ?_
    rintro e w3 hgot
    obtain⟨c,rfl⟩:=hgot.is
    have HGOT:=Lib.hid hgot
    have hbel:=htm.bel
    clear hgot hcv hcv2 htm htx c0 c1 f1
    go_wp2_with fail
    go_ret
    rw[HR.out,HE.out,textOfR_some s k (j+1) acc (by omega)]
    exact Got.after hbel HGOT.out
   ·have t34:((s[j].toNat:Int)==34)=false:=by simp;omega
    by_cases h10:s[j].toNat=10
    ·have t10:((s[j].toNat:Int)==10)=true:=by simp[h10]
     have HE:=Lib.hid (textL_line hlt acc h10)
     have hbel:=htx.bel
     clear h10 h34 hcv htx c0 c1 f1
     go_wp2_with fail
     go_ret
     rw[HR.out,HE.out]
     exact⟨rfl,hbel⟩
    ·have t10:((s[j].toNat:Int)==10)=false:=by simp;omega
     by_cases h92:s[j].toNat=92
     ·have t92:((s[j].toNat:Int)==92)=true:=by simp[h92]
      clear h10 h34 hcv
      have htm:=htx.move1
      go_wp2_with fail
      generalize (wr.setCell ⟨b,1,none⟩ (.int .i64 ((j:Int)+1)))=w4 at *
      clear c0 c1 f1 htx
      obtain⟨m,hm⟩:∃m:Nat,m=j+1:=⟨_,rfl⟩
      have em:((j:Int)+1)=(m:Int):=by omega
      rw[em]
      rw[←hm] at htm
      have hjm:j<m:=by omega
      have hmj:m≤j+1:=by omega
      have HM:=Lib.hid hm
      clear hm em
      have c0:=htm.blk.c0
      have c1:=htm.blk.c1
      by_cases h2:m<s.size
      ·have tl:((m:Int)==(s.size:Int))=false:=by simp;omega
       have HE0:=Lib.hid (textL_back hlt acc h92 (by omega))
       clear h92
       go_quiet (fail)
       have htx:=htm.drewN nq
       clear c0 c1 htm
       generalize w4.drewN nq=w5 at *
       have c0:=htx.blk.c0
       have c1:=htx.blk.c1
       go_wp2_with fail
       go_quiet (exact Calls.quiet_of_same (Tryd.strings_IndexByte _ _ _))
       have htm:=htx.drewN nq
       clear c0 c1 htx
       generalize w5.drewN nq=w6 at *
       have HE1:Hid (more' acc (textL (s.data.toList.drop j))=match escC s[m] with|none=>none|some x=>more' (acc++[x]) (textL (s.data.toList.drop (m+1)))):=by
        have hm:=HM.out
        subst hm
        exact HE0.out
       clear HE0
       have HD:=Lib.hid (esc_index s[m])
       generalize s[m]=d at *
       rcases HD.out with⟨hix,hes⟩|⟨hix,hes⟩|⟨hix,hes⟩|⟨hix,hes⟩|⟨hix,hes⟩
       ·have HS:=Lib.hid hes
        have hbel:=htm.bel
        clear hes htm HD
        go_wp2_with fail
        go_ret
        rw[HR.out,HE1.out,HS.out]
        exact⟨rfl,hbel⟩
       ·have HE2:Hid (more' acc (textL (s.data.toList.drop j))=more' (acc++[10]) (textL (s.data.toList.drop (m+1)))):=by
         have:=HE1.out
         rwa [hes] at this
        clear hes HD HE1
        go_wp2_with (at_builtin;refine wpList_append_own _ rfl _ _ 127 rfl B2 5 i0 (.int .u8 0) 1 1 Tryd.underlying127 hi hz0 hz1 hz2 rfl (by decide) _ acc.length (byteCells acc) rfl (htm.byt.alloc _) ⟨w6.heap.size,0,none⟩ 1 1 [.int .u8 10] rfl rfl ?_ ?_ ?_ ?_ ?_ ?_)
        ·exact cells_new w6 [.int .u8 10] 5
        ·exact one_cell 10
        ·unfold maxLen;omega
        ·omega
        ·have:=htm.hB;simp;omega
        ·intro v' w7 hown hgr _
         have hta:=htm.appended _ 10 hown hgr
         clear htm hown hgr
         have c1':=hta.blk.c1
         have f1':=hta.blk.f 1
         go_wp2_with fail
         go_roundg (s.size-(m+1))
         case measure=>have:=HG.out;omega
         case rel=>exact⟨m+1,acc++[10],by omega,by omega,rfl,by simp;omega,hta.move1,HT.out.trans HE2.out⟩
       ·have HE2:Hid (more' acc (textL (s.data.toList.drop j))=more' (acc++[9]) (textL (s.data.toList.drop (m+1)))):=by
         have:=HE1.out
         rwa [hes] at this
        clear hes HD HE1
        go_wp2_with (at_builtin;refine wpList_append_own _ rfl _ _ 127 rfl B2 5 i0 (.int .u8 0) 1 1 Tryd.underlying127 hi hz0 hz1 hz2 rfl (by decide) _ acc.length (byteCells acc) rfl (htm.byt.alloc _) ⟨w6.heap.size,0,none⟩ 1 1 [.int .u8 9] rfl rfl ?_ ?_ ?_ ?_ ?_ ?_)
        ·exact cells_new w6 [.int .u8 9] 5
        ·exact one_cell 9
        ·unfold maxLen;omega
        ·omega
        ·have:=htm.hB;simp;omega
        ·intro v' w7 hown hgr _
         have hta:=htm.appended _ 9 hown hgr
         clear htm hown hgr
         have c1':=hta.blk.c1
         have f1':=hta.blk.f 1
         go_wp2_with fail
         go_roundg (s.size-(m+1))
         case measure=>have:=HG.out;omega
         case rel=>exact⟨m+1,acc++[9],by omega,by omega,rfl,by simp;omega,hta.move1,HT.out.trans HE2.out⟩
       ·have HE2:Hid (more' acc (textL (s.data.toList.drop j))=more' (acc++[34]) (textL (s.data.toList.drop (m+1)))):=by
         have:=HE1.out
         rwa [hes] at this
        clear hes HD HE1
        go_wp2_with (at_builtin;refine wpList_append_own _ rfl _ _ 127 rfl B2 5 i0 (.int .u8 0) 1 1 Tryd.underlying127 hi hz0 hz1 hz2 rfl (by decide) _ acc.length (byteCells acc) rfl (htm.byt.alloc _) ⟨w6.heap.size,0,none⟩ 1 1 [.int .u8 34] rfl rfl ?_ ?_ ?_ ?_ ?_ ?_)
        ·exact cells_new w6 [.int .u8 34] 5
        ·exact one_cell 34
        ·unfold maxLen;omega
        ·omega
        ·have:=htm.hB;simp;omega
        ·intro v' w7 hown hgr _
         have hta:=htm.appended _ 34 hown hgr
         clear htm hown hgr
         have c1':=hta.blk.c1
         have f1':=hta.blk.f 1
         go_wp2_with fail
         go_roundg (s.size-(m+1))
         case measure=>have:=HG.out;omega
         case rel=>exact⟨m+1,acc++[34],by omega,by omega,rfl,by simp;omega,hta.move1,HT.out.trans HE2.out⟩
       ·have HE2:Hid (more' acc (textL (s.data.toList.drop j))=more' (acc++[92]) (textL (s.data.toList.drop (m+1)))):=by
         have:=HE1.out
         rwa [hes] at this
        clear hes HD HE1
        go_wp2_with (at_builtin;refine wpList_append_own _ rfl _ _ 127 rfl B2 5 i0 (.int .u8 0) 1 1 Tryd.underlying127 hi hz0 hz1 hz2 rfl (by decide) _ acc.length (byteCells acc) rfl (htm.byt.alloc _) ⟨w6.heap.size,0,none⟩ 1 1 [.int .u8 92] rfl rfl ?_ ?_ ?_ ?_ ?_ ?_)
        ·exact cells_new w6 [.int .u8 92] 5
        ·exact one_cell 92
        ·unfold maxLen;omega
        ·omega
        ·have:=htm.hB;simp;omega
        ·intro v' w7 hown hgr _
         have hta:=htm.appended _ 92 hown hgr
         clear htm hown hgr
         have c1':=hta.blk.c1
         have f1':=hta.blk.f 1
         go_wp2_with fail
         go_roundg (s.size-(m+1))
         case measure=>have:=HG.out;omega
         case rel=>exact⟨m+1,acc++[92],by omega,by omega,rfl,by simp;omega,hta.move1,HT.out.trans HE2.out⟩
      ·have tl:((m:Int)==(s.size:Int))=true:=by simp;omega
       have HE:=Lib.hid (textL_back_end hlt acc h92 (by omega))
       have hbel:=htm.bel
       clear h92
       go_quiet (fail)
       clear htm c0 c1
       go_wp2_with fail
       go_ret
       rw[HR.out,HE.out]
       exact⟨rfl,⟨hbel.os,hbel.tape,hbel.output,hbel.size,hbel.block⟩⟩
     ·have t92:((s[j].toNat:Int)==92)=false:=by simp;omega
      have HE:=Lib.hid (textL_plain hlt acc h34 h10 h92)
      clear h34 h10 h92 hcv
      go_wp2_with (at_builtin;refine wpList_append_own _ rfl _ _ 127 rfl B2 5 i0 (.int .u8 0) 1 1 Tryd.underlying127 hi hz0 hz1 hz2 rfl (by decide) _ acc.length (byteCells acc) rfl (htx.byt.alloc _) ⟨wr.heap.size,0,none⟩ 1 1 [.int .u8 (s[j].toNat:Int)] rfl rfl ?_ ?_ ?_ ?_ ?_ ?_)
      ·exact cells_new wr [.int .u8 (s[j].toNat:Int)] 5
      ·exact one_cell s[j]
      ·unfold maxLen;omega
      ·omega
      ·have:=htx.hB;simp;omega
      ·intro v' w7 hown hgr _
       have hta:=htx.appended _ s[j] hown hgr
       clear htx hown hgr
       have c1':=hta.blk.c1
       have f1':=hta.blk.f 1
       go_wp2_with fail
       go_roundg (s.size-(j+1))
       case measure=>have:=HG.out;omega
       case rel=>exact⟨j+1,acc++[s[j]],by omega,by omega,rfl,by simp;omega,hta.move1,HT.out.trans HE.out⟩
  ·have hd:decide ((j:Int)<(s.size:Int))=false:=by simp;omega
   have HE:=Lib.hid (textL_end hlt acc)
   have hbel:=htx.bel
   go_wp2_with fail
   go_quiet (fail)
   clear htx c0 c1
   go_wp2_with fail
   go_ret
   rw[HR.out,HE.out]
   exact⟨rfl,⟨hbel.os,hbel.tape,hbel.output,hbel.size,hbel.block⟩⟩
end Go.Proofs.YtfphhabaeggenaaDoor.Lx
namespace Go.Proofs.YtfphhabaeggenaaDoor.Lx
set_option maxRecDepth 20000
open Go.RowKit
def symR(s:ByteArray)(k:Nat):Except Int (Tok×Nat):=putR (if markB (s.extract k (adv symB s k))=true then 7 else 5) (s.extract k (adv symB s k)) 0 k (adv symB s k)
def oneR(s:ByteArray)(k:Nat)(c:UInt8):Except Int (Tok×Nat):=
 if lowB c=true∨upB c=true then wordR s k
 else if digitB c=true then numR s k
 else if c.toNat=34 then textR s k
 else if symB c=true then symR s k
 else if markB (s.extract k (k+1))=true then putR 7 (s.extract k (k+1)) 0 k (k+1)
 else .error 101
theorem Sc.drewN{w:World}{b k:Nat}{s:ByteArray}{ts:List Tok}(h:Sc w b s k ts)(n:Nat):Sc (w.drewN n) b s k ts:=h
theorem below_drewN'{B:Nat}{a w:World}(h:Below B a w)(n:Nat):Below B a (w.drewN n):=⟨h.os,h.tape,h.output,h.size,h.block⟩
set_option maxHeartbeats 1000000 in
set_option maxRecDepth 100000 in
theorem one_any(b k:Nat)(s:ByteArray)(ts:List Tok)(w:World)(hsc:Sc w b s k ts)(hk:k<s.size)(hs:s.size≤100000)(hts:ts.length≤1000000) :
  Calls Tryd.prog 41 #[.pointer (some ⟨b,0,none⟩)] w (Got w b s ts (oneR s k s[k])):=by
 have hsc0:=hsc
 obtain⟨v,hb,ho⟩:=hsc
 have c0:=hb.c0
 have c1:=hb.c1
 have hbw:b<w.heap.size:=hb.lt
 go_enter Tryd.func41,Tryd.ntmps41
 go_wp2_with fail
 go_quiet (fail)
 have hsc1:=hsc0.drewN nq
 have hbl:=below_drewN' (Below.refl b w) nq
 clear c0 c1 hb ho hsc0
 generalize w.drewN nq=w1 at *
 cases h1:lowB s[k]
 ·cases h2:upB s[k]
  ·cases h3:digitB s[k]
   ·by_cases h34:s[k].toNat=34
    ·have t34:((s[k].toNat:Int)==34)=true:=by simp[h34]
     have HR:Hid (oneR s k s[k]=textR s k):=by
      show oneR s k s[k]=textR s k
      unfold oneR;simp[h1,h2,h3,h34]
     clear h34
     go_wp2_with (first|(go_at_call 59;refine(low_any _ _).mono ?_;rintro e w' ⟨rfl,rfl⟩)|(go_at_call 60;refine(up_any _ _).mono ?_;rintro e w' ⟨rfl,rfl⟩)|(go_at_call 62;refine(digit_any _ _).mono ?_;rintro e w' ⟨rfl,rfl⟩))
     refine(text_any b k s ts _ hsc1 hk hs hts).mono ?_
     rintro e w2 hgot
     obtain⟨c,rfl⟩:=hgot.is
     have HGOT:=Lib.hid hgot
     clear hgot
     go_wp2_with fail
     go_ret
     rw[HR.out]
     exact Got.after hbl HGOT.out
    ·have t34:((s[k].toNat:Int)==34)=false:=by simp;omega
     cases h4:symB s[k]
     ·go_wp2_with (first|(go_at_call 59;refine(low_any _ _).mono ?_;rintro e w' ⟨rfl,rfl⟩)|(go_at_call 60;refine(up_any _ _).mono ?_;rintro e w' ⟨rfl,rfl⟩)|(go_at_call 62;refine(digit_any _ _).mono ?_;rintro e w' ⟨rfl,rfl⟩)|(go_at_call 65;refine(symbol_any _ _).mono ?_;rintro e w' ⟨rfl,rfl⟩))
      obtain⟨v,hb,ho⟩:=hsc1
      have c0:=hb.c0
      have c1:=hb.c1
      cases h5:markB (s.extract k (k+1))
      ·have HR:Hid (oneR s k s[k]=.error 101):=by
        show oneR s k s[k]=.error 101
        unfold oneR;simp[h1,h2,h3,h34,h4,h5]
       have hw1:IntKind.i64.wrap ((k:Int)+1)=(k:Int)+1:=IntWalk.i64_in _ (by omega)
       have hw2:0≤(k:Int)+1:=by omega
       have hw3:((k:Int)+1).toNat=k+1:=by omega
       go_quiet (exact quiet_same (mark_any _ _))
       rw[h5]
       clear c0 c1 hw1 hw2 hw3
       go_wp2_with fail
       go_ret
       rw[HR.out]
       exact⟨rfl,below_drewN' hbl _⟩
      ·have HR:Hid (oneR s k s[k]=putR 7 (s.extract k (k+1)) 0 k (k+1)):=by
        show oneR s k s[k]=_
        unfold oneR;simp[h1,h2,h3,h34,h4,h5]
       have hw1:IntKind.i64.wrap ((k:Int)+1)=(k:Int)+1:=IntWalk.i64_in _ (by omega)
       have hw2:0≤(k:Int)+1:=by omega
       have hw3:((k:Int)+1).toNat=k+1:=by omega
       go_quiet (exact quiet_same (mark_any _ _))
       rw[h5]
       have hb2:=hb.drewN nq
       have ho2:(w1.drewN nq).ownsRow (b+1) 85 4 v ts.length (tokCells ts):=ho
       have hbl2:=below_drewN' hbl nq
       clear c0 c1 hw1 hw2 hw3 hb ho hbl
       generalize w1.drewN nq=w2 at *
       have c1:=hb2.c1
       have f1:=hb2.f 1
       go_wp2_with fail
       have hb3:=hb2.set1 (k+1)
       rw[Int.natCast_add] at hb3
       have ho3:=ownsRow_setCell_below ho2 (a:=⟨b,1,none⟩) (by simp) (.int .i64 ((k:Int)+1))
       have hbl3:=hbl2.setCell (p:=⟨b,1,none⟩) (Nat.le_refl _) (.int .i64 ((k:Int)+1))
       have em:((k:Int)+1)=((k+1:Nat):Int):=by omega
       rw[show ((1:Nat):Int)=1 from rfl] at hb3
       clear c1 f1 hb2 ho2 hbl2
       generalize (w2.setCell ⟨b,1,none⟩ (.int .i64 ((k:Int)+1)))=w3 at *
       have c0:=hb3.c0
       have c1:=hb3.c1
       rw[←em] at c1
       clear em
       have hw1:IntKind.i64.wrap (k:Int)=(k:Int):=IntWalk.i64_in _ (by omega)
       have hw2:0≤(k:Int)+1:=by omega
       have hw3:((k:Int)+1).toNat=k+1:=by omega
       have hsl:∀wx:World,(Instr.slice 9 (.string s) (some (.int .i64 (k:Int))) (some (.int .i64 ((k:Int)+1))) none).run Tryd.prog wx=.ok (.string (s.extract k (k+1))) wx:=by
        intro wx
        have:=run_slice_string (P:=Tryd.prog) wx 9 s .i64 .i64 (k:Int) ((k:Int)+1) Tryd.underlying9 (by omega) (by omega) (by omega)
        rwa [hw3] at this
       go_still_tail 20,(by kernel_rfl)
       change wpList _ _ _ _ _ w3.drew
       have hsc4:Sc w3.drew b s (k+1) ts:=⟨v,hb3,ho3⟩
       have hbl4:Below b w w3.drew:=hbl3.drew
       clear c0 c1 hw1 hw2 hw3 hb3 ho3 hbl3 hsl
       generalize w3.drew=w4 at *
       go_wp2_with fail
       refine(put_got b s (k+1) ts _ _ _ k _ hsc4 hts).mono ?_
       rintro e w5 hgot
       obtain⟨c,rfl⟩:=hgot.is
       have HGOT:=Lib.hid hgot
       clear hgot
       go_wp2_with fail
       go_ret
       rw[HR.out]
       exact Got.after hbl4 HGOT.out
     ·have HR:Hid (oneR s k s[k]=symR s k):=by
       show oneR s k s[k]=symR s k
       unfold oneR;simp[h1,h2,h3,h34,h4]
      obtain⟨v,hb,ho⟩:=hsc1
      have c1:=hb.c1
      go_wp2_with (first|(go_at_call 59;refine(low_any _ _).mono ?_;rintro e w' ⟨rfl,rfl⟩)|(go_at_call 60;refine(up_any _ _).mono ?_;rintro e w' ⟨rfl,rfl⟩)|(go_at_call 62;refine(digit_any _ _).mono ?_;rintro e w' ⟨rfl,rfl⟩)|(go_at_call 65;refine(symbol_any _ _).mono ?_;rintro e w' ⟨rfl,rfl⟩))
      refine(more_any 65 symB symbol_fn b k s v _ hb (by omega) (by omega)).mono ?_
      rintro e w2 ⟨rfl,hb1,hg1⟩
      have hsc2:=Sc.moved ho hb1 hg1
      have hbl2:=hbl.trans (below_of_grown hg1 (Nat.le_of_lt hb.lt))
      have HS:Hid (symR s k=putR (if markB (s.extract k (adv symB s k))=true then 7 else 5) (s.extract k (adv symB s k)) 0 k (adv symB s k)):=rfl
      clear hb1 hg1 ho hb c1 hbl
      generalize s.extract k (adv symB s k)=x at *
      generalize adv symB s k=j at *
      cases h5:markB x
      all_goals
       go_wp2_with (go_at_call 66;refine(mark_any _ _).mono ?_;rintro e w' ⟨rfl,rfl⟩)
       refine(put_got b s j ts _ _ x k _ hsc2 hts).mono ?_
       rintro e w3 hgot
       obtain⟨c,rfl⟩:=hgot.is
       have HGOT:=Lib.hid hgot
       clear hgot
       go_wp2_with fail
       go_ret
       rw[HR.out,HS.out,h5]
       exact Got.after hbl2 HGOT.out
   ·have HR:Hid (oneR s k s[k]=numR s k):=by
     show oneR s k s[k]=numR s k
     unfold oneR;simp[h1,h2,h3]
    go_wp2_with (first|(go_at_call 59;refine(low_any _ _).mono ?_;rintro e w' ⟨rfl,rfl⟩)|(go_at_call 60;refine(up_any _ _).mono ?_;rintro e w' ⟨rfl,rfl⟩)|(go_at_call 62;refine(digit_any _ _).mono ?_;rintro e w' ⟨rfl,rfl⟩))
    refine(number_any b k s ts _ hsc1 hk hs hts).mono ?_
    rintro e w2 hgot
    obtain⟨c,rfl⟩:=hgot.is
    have HGOT:=Lib.hid hgot
    clear hgot
    go_wp2_with fail
    go_ret
    rw[HR.out]
    exact Got.after hbl HGOT.out
  ·have HR:Hid (oneR s k s[k]=wordR s k):=by
    show oneR s k s[k]=wordR s k
    unfold oneR;simp[h2]
   go_wp2_with (first|(go_at_call 59;refine(low_any _ _).mono ?_;rintro e w' ⟨rfl,rfl⟩)|(go_at_call 60;refine(up_any _ _).mono ?_;rintro e w' ⟨rfl,rfl⟩))
   refine(word_any b k s ts _ hsc1 hk (by omega) hts (by simp[insideB,h2])).mono ?_
   rintro e w2 hgot
   obtain⟨c,rfl⟩:=hgot.is
   have HGOT:=Lib.hid hgot
   clear hgot
   go_wp2_with fail
   go_ret
   rw[HR.out]
   exact Got.after hbl HGOT.out
 ·have HR:Hid (oneR s k s[k]=wordR s k):=by
   show oneR s k s[k]=wordR s k
   unfold oneR;simp[h1]
  go_wp2_with (first|(go_at_call 59;refine(low_any _ _).mono ?_;rintro e w' ⟨rfl,rfl⟩))
  refine(word_any b k s ts _ hsc1 hk (by omega) hts (by simp[insideB,h1])).mono ?_
  rintro e w2 hgot
  obtain⟨c,rfl⟩:=hgot.is
  have HGOT:=Lib.hid hgot
  clear hgot
  go_wp2_with fail
  go_ret
  rw[HR.out]
  exact Got.after hbl HGOT.out
end Go.Proofs.YtfphhabaeggenaaDoor.Lx
namespace Go.Proofs.YtfphhabaeggenaaDoor.Lx
set_option maxRecDepth 20000
open Go.RowKit
def badAt(s:ByteArray)(pos:Nat):Bool:=((Utf8.decode s pos).1:Int)==65533 && !Lib.hasPrefix (s.extract pos s.size).data.toList [239,191,189]
def spoilF(s:ByteArray):Nat→Nat→Int
 |0,_=>-1
 |f+1,pos=>if pos<s.size then(if badAt s pos=true then(pos:Int) else spoilF s f (pos+(Utf8.decode s pos).2)) else -1
def spoilP(s:ByteArray):Int:=spoilF s (s.size+1) 0
theorem spoilF_more(s:ByteArray):∀(f pos:Nat),s.size-pos<f→spoilF s f pos=spoilF s (s.size-pos+1) pos
 |0,pos,h=>by omega
 |f+1,pos,h=>by
  by_cases hp:pos<s.size
  ·simp only[spoilF,hp,if_true]
   cases hb:badAt s pos
   ·simp only[Bool.false_eq_true,if_false]
    have hw:=Lib.decode_width_pos s pos hp
    rw[spoilF_more s f _ (by omega),spoilF_more s (s.size-pos) (pos+(Utf8.decode s pos).2) (by omega)]
   ·simp
  ·simp[spoilF,hp]
theorem spoil_go{s:ByteArray}{pos:Nat}(hp:pos<s.size)(hb:badAt s pos=false)(h:spoilP s=spoilF s (s.size-pos+1) pos) :
  spoilP s=spoilF s (s.size-(pos+(Utf8.decode s pos).2)+1) (pos+(Utf8.decode s pos).2):=by
 rw[h]
 have hw:=Lib.decode_width_pos s pos hp
 conv=>lhs;unfold spoilF
 simp only[hp,if_true,hb,Bool.false_eq_true,if_false]
 exact spoilF_more s _ _ (by omega)
theorem spoil_here{s:ByteArray}{pos:Nat}(hp:pos<s.size)(hb:badAt s pos=true)(h:spoilP s=spoilF s (s.size-pos+1) pos):spoilP s=pos:=by
 rw[h]
 simp[spoilF,hp,hb]
theorem spoil_end{s:ByteArray}{pos:Nat}(hp:¬pos<s.size)(h:spoilP s=spoilF s (s.size-pos+1) pos):spoilP s = -1:=by
 rw[h]
 simp[spoilF,hp]
set_option maxHeartbeats 1000000 in
theorem spoiled_any(s:ByteArray)(w:World)(hs:s.size≤1000000) :
  Calls Tryd.prog 39 #[.string s] w fun e w'=>e=.returned (.int .i64 (spoilP s))∧Below w.heap.size w w':=by
 go_enter Tryd.func39,Tryd.ntmps39
 go_wp2_with fail
 go_loopg [2] (s.size) (fun g o wr=>∃pos:Nat,o=.int .i64 0∧wr=w.iter s pos∧s.size-pos≤g∧spoilP s=spoilF s (s.size-pos+1) pos)
 case atStart=>exact⟨0,rfl,rfl,by omega,rfl⟩
 case round=>
  obtain⟨pos,rfl,hwr,hg,hsp⟩:=hrel
  have HW:=Lib.hid hwr
  have HS:=Lib.hid hsp
  clear hwr hsp
  have hbl:Below w.heap.size w (w.iter s pos):=(Below.refl _ _).alloc (Nat.le_refl _) _
  by_cases hp:pos<s.size
  ·have hnx:=run_next_any (P:=Tryd.prog) w s pos 0 hp
   have hw1:=Lib.decode_width_pos s pos hp
   have hrw:=HW.out
   rw[hrw]
   clear hrw
   have hlt:pos<pos+(Utf8.decode s pos).2:=by omega
   cases hd:(((Utf8.decode s pos).1:Int)==65533)
   ·have HB:=Lib.hid (spoil_go hp (by simp[badAt,hd]) HS.out)
    go_wp2_with fail
    go_roundg (s.size-(pos+(Utf8.decode s pos).2))
    case measure=>omega
    case rel=>exact⟨pos+(Utf8.decode s pos).2,rfl,rfl,Nat.le_refl _,HB.out⟩
   ·cases hh:Lib.hasPrefix (s.extract pos s.size).data.toList [239,191,189]
    ·have HB:=Lib.hid (spoil_here hp (by unfold badAt;rw[hd,hh];rfl) HS.out)
     have HH:=Lib.hid hh
     clear hh
     go_wp2_with fail
     refine(Tryd.strings_HasPrefix _ _ _).mono ?_
     rintro e w' ⟨rfl,rfl⟩
     rw[HH.out]
     go_wp2_with fail
     go_ret
     rw[HB.out]
     exact⟨rfl,(Below.refl _ _).alloc (Nat.le_refl _) _⟩
    ·have HB:=Lib.hid (spoil_go hp (by unfold badAt;rw[hd,hh];rfl) HS.out)
     have HH:=Lib.hid hh
     clear hh
     go_wp2_with fail
     refine(Tryd.strings_HasPrefix _ _ _).mono ?_
     rintro e w' ⟨rfl,rfl⟩
     rw[HH.out]
     go_wp2_with fail
     go_roundg (s.size-(pos+(Utf8.decode s pos).2))
     case measure=>omega
     case rel=>exact⟨pos+(Utf8.decode s pos).2,rfl,rfl,Nat.le_refl _,HB.out⟩
  ·have hnx:=run_next_end (P:=Tryd.prog) w s pos 0 hp
   have HB:=Lib.hid (spoil_end hp HS.out)
   have hrw:=HW.out
   rw[hrw]
   clear hrw
   go_wp2_with fail
   go_ret
   rw[HB.out]
   exact⟨rfl,(Below.refl _ _).alloc (Nat.le_refl _) _⟩
end Go.Proofs.YtfphhabaeggenaaDoor.Lx
namespace Go.Proofs.YtfphhabaeggenaaDoor.Lx
set_option maxRecDepth 20000
open Go.RowKit
theorem putR_pos{kind n:Int}{x:ByteArray}{at_ k:Nat}{t:Tok}{j:Nat}(h:putR kind x n at_ k=.ok (t,j)):j=k:=by
 unfold putR at h
 split at h
 ·cases h
 ·cases h;rfl
theorem textL_len:∀(n:Nat) (l x r:List UInt8),l.length≤n→textL l=some (x,r)→r.length<l.length
 |0,l,x,r,hn,h=>by
  have:l=[]:=List.eq_nil_of_length_eq_zero (by omega)
  subst this
  cases h
 |n+1,[],x,r,hn,h=>by cases h
 |n+1,c::l,x,r,hn,h=>by
  rw[textL_cons] at h
  simp only[List.length_cons] at hn ⊢
  split at h
  ·cases h;omega
  ·split at h
   ·cases h
   ·split at h
    ·cases l with
     |nil=>cases h
     |cons d l'=>
      simp only at h
      split at h
      ·cases h
      ·cases h2:textL l' with
       |none=>rw[h2] at h;cases h
       |some p=>
        rw[h2] at h
        have:=textL_len n l' p.1 p.2 (by simp only[List.length_cons] at hn;omega) h2
        cases h
        simp only[List.length_cons]
        omega
    ·cases h2:textL l with
     |none=>rw[h2] at h;cases h
     |some p=>
      rw[h2] at h
      have:=textL_len n l p.1 p.2 (by omega) h2
      cases h
      omega
theorem adv_gt{p:UInt8→Bool}{s:ByteArray}{k:Nat}(h:k<s.size)(hp:p s[k]=true):k<adv p s k:=by
 unfold adv
 rw[drop_at s k h]
 simp[hp]
theorem oneR_bd{s:ByteArray}{k:Nat}(h:k<s.size){t:Tok}{j:Nat}(h1:oneR s k s[k]=.ok (t,j)):k<j∧j≤s.size:=by
 unfold oneR at h1
 split at h1
 ·rename_i hc
  have:=putR_pos h1
  subst this
  refine⟨adv_gt h ?_,adv_le _ s k (by omega)⟩
  rcases hc with hc|hc<;>simp[insideB,hc]
 ·split at h1
  ·rename_i hd
   unfold numR numOf at h1
   split at h1
   ·cases h1
   ·have:=putR_pos h1
    subst this
    exact⟨adv_gt h hd,adv_le _ s k (by omega)⟩
  ·split at h1
   ·unfold textR textOfR at h1
    split at h1
    ·cases h1
    ·rename_i x r hx
     have:=putR_pos h1
     subst this
     have h2:=textL_len _ _ _ _ (Nat.le_refl _) hx
     have hl:s.data.toList.length=s.size:=rfl
     rw[List.length_drop] at h2
     omega
   ·split at h1
    ·rename_i hs
     have:=putR_pos h1
     subst this
     exact⟨adv_gt h hs,adv_le _ s k (by omega)⟩
    ·split at h1
     ·have:=putR_pos h1
      subst this
      omega
     ·cases h1
theorem skipPos_ge(s:ByteArray)(k:Nat)(h:k≤s.size):k≤skipPos s k∧skipPos s k≤s.size:=by
 unfold skipPos
 have h1:=skipC_length false (s.data.toList.drop k)
 have hl:s.data.toList.length=s.size:=rfl
 rw[List.length_drop] at h1
 omega
def endTok(s:ByteArray):Tok:=⟨0,⟨#[]⟩,0,s.size⟩
def scanF(s:ByteArray):Nat→Nat→List Tok→Except (Int×Nat) (List Tok)
 |0,_,ts=>.ok (ts++[endTok s])
 |f+1,pos,ts=>
  if h:pos<s.size then
   match oneR s pos s[pos] with
   |.error c=>.error (c,pos)
   |.ok (t,j)=>scanF s f (skipPos s j) (ts++[t])
  else .ok (ts++[endTok s])
def scanP(s:ByteArray):Except (Int×Nat) (List Tok):=
 if 60000<s.size then .error (3,0)
 else if 0≤spoilP s then .error (100,(spoilP s).toNat)
 else scanF s (s.size+1) (skipPos s 0) []
theorem scanF_more(s:ByteArray):∀(f pos:Nat) (ts:List Tok),s.size-pos<f→scanF s f pos ts=scanF s (s.size-pos+1) pos ts
 |0,pos,ts,h=>by omega
 |f+1,pos,ts,h=>by
  by_cases hp:pos<s.size
  ·simp only[scanF,hp,dif_pos]
   cases h1:oneR s pos s[pos] with
   |error c=>rfl
   |ok p=>
    obtain⟨t,j⟩:=p
    have hb:=oneR_bd hp h1
    have hk:=skipPos_ge s j hb.2
    simp only
    rw[scanF_more s f _ _ (by omega),scanF_more s (s.size-pos) (skipPos s j) _ (by omega)]
  ·simp[scanF,hp]
def Scanned(w:World)(r:Except (Int×Nat) (List Tok))(e:Ending)(w':World):Prop:=
 match r with
 |.ok ts=>∃v,e=.returned (.tuple #[v,.agg #[.int .i64 0,.int .i64 0]])∧w'.ownsRow w.heap.size 85 4 v ts.length (tokCells ts)∧Below w.heap.size w w'
 |.error (c,at_)=>e=.returned (.tuple #[.slice none 0 0,.agg #[.int .i64 c,.int .i64 (at_:Int)]])∧Below w.heap.size w w'
set_option maxHeartbeats 1000000 in
theorem scan_limit(s:ByteArray)(w:World)(h:60000<s.size)(hs:s.size≤maxLen):Calls Tryd.prog 20 #[.string s] w (Scanned w (scanP s)):=by
 have HR:Hid (scanP s=.error (3,0)):=by
  show scanP s=_
  unfold scanP;rw[if_pos h]
 unfold maxLen at hs
 go_enter Tryd.func20,Tryd.ntmps20
 go_wp2_with fail
 refine bodyPost_ret (v:=.tuple #[.slice none 0 0,.agg #[.int .i64 3,.int .i64 0]]) (by simp[results,Tryd.results20,go_sem]) rfl ?_
 rw[HR.out]
 exact⟨rfl,((Below.refl _ _).alloc (Nat.le_refl _) _)⟩
end Go.Proofs.YtfphhabaeggenaaDoor.Lx
namespace Go.Proofs.YtfphhabaeggenaaDoor.Lx
set_option maxRecDepth 20000
open Go.RowKit
set_option maxHeartbeats 1000000 in
theorem scan_spoiled(s:ByteArray)(w:World)(h:¬60000<s.size)(hsp:0≤spoilP s):Calls Tryd.prog 20 #[.string s] w (Scanned w (scanP s)):=by
 have HR:Hid (scanP s=.error (100,(spoilP s).toNat)):=by
  show scanP s=_
  unfold scanP;rw[if_neg h,if_pos hsp]
 have hs:(s.size:Int)≤60000:=by omega
 go_enter Tryd.func20,Tryd.ntmps20
 go_wp2_with fail
 refine(spoiled_any s _ (by omega)).mono ?_
 rintro e w1 ⟨rfl,hb⟩
 obtain⟨n,hn⟩:=Int.eq_ofNat_of_zero_le hsp
 rw[hn] at HR hsp ⊢
 clear hn
 have hc0:w1.heap[w.heap.size]? = some (.cells #[.int .i64 0,.int .i64 0] 35 (0,0)):=by
  rw[hb.block w.heap.size (by simp)]
  exact heap_alloc_new w _
 have hf:w1.frozen? ⟨w.heap.size,0,none⟩=false:=by simp[World.frozen?,hc0]
 have hf1:w1.frozen? ⟨w.heap.size,1,none⟩=false:=by simp[World.frozen?,hc0]
 have hl0:w1.cell? ⟨w.heap.size,0,none⟩=some (.int .i64 0):=by simp[World.cell?,hc0]
 have hl1:w1.cell? ⟨w.heap.size,1,none⟩=some (.int .i64 0):=by simp[World.cell?,hc0]
 have hbl:Below w.heap.size w w1:=((Below.refl _ _).alloc (Nat.le_refl _) _).trans (hb.mono (by simp))
 have hsz:w.heap.size<w1.heap.size:=by have:=hb.size;simp at this;omega
 clear hc0 hb
 go_wp2_with fail
 refine bodyPost_ret (v:=.tuple #[.slice none 0 0,.agg #[.int .i64 100,.int .i64 (n:Int)]]) (by simp[results,Tryd.results20,go_sem,hl0,hl1]) rfl ?_
 rw[HR.out]
 exact⟨rfl,(hbl.setCell (by simp) _).setCell (by simp) _⟩
theorem skip_sc(b k:Nat)(s:ByteArray)(ts:List Tok)(w:World)(hsc:Sc w b s k ts)(hk:k≤s.size)(hs:s.size≤1000000) :
  Calls Tryd.prog 40 #[.pointer (some ⟨b,0,none⟩)] w fun e w'=>e=.returned (.tuple #[])∧Sc w' b s (skipPos s k) ts∧Below b w w':=by
 obtain⟨v,hb,ho⟩:=hsc
 refine(skip_any b k s v w hb hk hs).mono ?_
 rintro e w' ⟨rfl,h1,h2⟩
 exact⟨rfl,Sc.moved ho h1 h2,below_of_grown h2 (Nat.le_of_lt hb.lt)⟩
theorem ownsRow_base{w:World}{base base':Nat}{e:TypeId}{size:Nat}{v:Value}{n:Nat}{xs:List Value}(h:w.ownsRow base e size v n xs)(hb:base'≤base):w.ownsRow base' e size v n xs:=by
 refine⟨h.1,?_⟩
 rcases h.2 with h2|⟨g,cap,cur,hv,hg,r⟩
 ·exact .inl h2
 ·exact .inr ⟨g,cap,cur,hv,by omega,r⟩
def Res(w:World)(r:Nat):Prop:=w.heap[r]? = some (.cells #[.int .i64 0,.int .i64 0] 35 (0,0))
theorem Res.f{w:World}{r:Nat}(h:Res w r)(o:Nat):w.frozen? ⟨r,o,none⟩=false:=by simp[World.frozen?,show w.heap[r]? = _ from h]
theorem Res.c0{w:World}{r:Nat}(h:Res w r):w.cell? ⟨r,0,none⟩=some (.int .i64 0):=by simp[World.cell?,show w.heap[r]? = _ from h]
theorem Res.c1{w:World}{r:Nat}(h:Res w r):w.cell? ⟨r,1,none⟩=some (.int .i64 0):=by simp[World.cell?,show w.heap[r]? = _ from h]
theorem putR_err{kind n:Int}{x:ByteArray}{at_ k:Nat}{c:Int}(h:putR kind x n at_ k=.error c):c=104:=by
 unfold putR at h
 split at h
 ·cases h;rfl
 ·cases h
theorem oneR_err{s:ByteArray}{k:Nat}{d:UInt8}{c:Int}(h1:oneR s k d=.error c):(c != 0)=true:=by
 unfold oneR at h1
 split at h1
 ·have:=putR_err h1;subst this;rfl
 ·split at h1
  ·unfold numR numOf at h1
   split at h1
   ·cases h1;rfl
   ·have:=putR_err h1;subst this;rfl
  ·split at h1
   ·unfold textR textOfR at h1
    split at h1
    ·cases h1;rfl
    ·have:=putR_err h1;subst this;rfl
   ·split at h1
    ·have:=putR_err h1;subst this;rfl
    ·split at h1
     ·have:=putR_err h1;subst this;rfl
     ·cases h1;rfl
theorem scanF_err{s:ByteArray}{pos:Nat}{ts:List Tok}(hp:pos<s.size){c:Int}(h:oneR s pos s[pos]=.error c):scanF s (s.size-pos+1) pos ts=.error (c,pos):=by
 simp[scanF,hp,h]
theorem scanF_ok{s:ByteArray}{pos:Nat}{ts:List Tok}(hp:pos<s.size){t:Tok}{j:Nat}(h:oneR s pos s[pos]=.ok (t,j)) :
  scanF s (s.size-pos+1) pos ts=scanF s (s.size-skipPos s j+1) (skipPos s j) (ts++[t]):=by
 have hb:=oneR_bd hp h
 have hk:=skipPos_ge s j hb.2
 have:scanF s (s.size-pos+1) pos ts=scanF s (s.size-pos) (skipPos s j) (ts++[t]):=by simp[scanF,hp,h]
 rw[this]
 exact scanF_more s _ _ _ (by omega)
theorem scanF_end{s:ByteArray}{pos:Nat}{ts:List Tok}(hp:¬pos<s.size):scanF s (s.size-pos+1) pos ts=.ok (ts++[endTok s]):=by
 simp[scanF,hp]
set_option maxHeartbeats 2000000 in
theorem scan_main(s:ByteArray)(w:World)(h:¬60000<s.size)(hsp:¬0≤spoilP s):Calls Tryd.prog 20 #[.string s] w (Scanned w (scanP s)):=by
 have HR:Hid (scanP s=scanF s (s.size+1) (skipPos s 0) []):=by
  show scanP s=_
  unfold scanP;rw[if_neg h,if_neg hsp]
 have hs:(s.size:Int)≤60000:=by omega
 have hdl:decide ((60000:Int)<(s.size:Int))=false:=by simp;omega
 go_enter Tryd.func20,Tryd.ntmps20
 go_wp2_with fail
 refine(spoiled_any s _ (by omega)).mono ?_
 rintro e w1 ⟨rfl,hb⟩
 have hres:Res w1 w.heap.size:=by
  unfold Res
  rw[hb.block w.heap.size (by simp)]
  exact heap_alloc_new w _
 have hbl:Below w.heap.size w w1:=((Below.refl _ _).alloc (Nat.le_refl _) _).trans (hb.mono (by simp))
 have hsz:w.heap.size<w1.heap.size:=by have:=hb.size;simp at this;omega
 have hspn:spoilP s<0:=by omega
 generalize spoilP s=sp at *
 have hds:decide (0≤sp)=false:=by simp;omega
 generalize hr:w.heap.size=r at *
 clear hb
 go_wp2_with fail
 have hsc:Sc (w1.alloc (.cells #[.string s,.int .i64 0,.slice none 0 0] 113)) w1.heap.size s 0 []:=⟨.slice none 0 0,heap_alloc_new w1 _,World.ownsRow_nil _ _ _ _⟩
 have hb2:Below w1.heap.size w1 (w1.alloc (.cells #[.string s,.int .i64 0,.slice none 0 0] 113)):=(Below.refl _ _).alloc (Nat.le_refl _) _
 generalize w1.alloc (.cells #[.string s,.int .i64 0,.slice none 0 0] 113)=w2 at *
 generalize w1.heap.size=b at *
 refine(skip_sc b 0 s [] _ hsc (Nat.zero_le _) (by omega)).mono ?_
 rintro e w3 ⟨rfl,hsc3,hb3⟩
 have hb4:=hb2.trans hb3
 have hpos:=skipPos_ge s 0 (Nat.zero_le _)
 have HS:Hid (scanP s=scanF s (s.size-skipPos s 0+1) (skipPos s 0) []):=HR.out.trans (scanF_more s _ _ _ (by omega))
 clear hsc hb2 hb3 HR
 generalize skipPos s 0=p0 at *
 go_wp2_with fail
 go_loopg [] (s.size-p0) (fun g wr=>∃(pos:Nat) (ts:List Tok),pos≤s.size∧s.size-pos=g∧ts.length≤pos∧Sc wr b s pos ts∧Below b w1 wr∧scanP s=scanF s (s.size-pos+1) pos ts)
 case atStart=>exact⟨p0,[],hpos.2,rfl,by simp,hsc3,hb4,HS.out⟩
 case round=>
  obtain⟨pos,ts,hp,hg,hts,hsc,hbw,hscan⟩:=hrel
  have HG:=Lib.hid hg
  have HN:=Lib.hid hscan
  clear hg hscan hsc3 hb4 HS
  have hsc0:=hsc
  obtain⟨v,hb,ho⟩:=hsc
  have c1:=hb.c1
  have c2:=hb.c2
  have hresr:Res wr r:=by unfold Res;rw[hbw.block r hsz];exact hres
  by_cases hlt:pos<s.size
  ·have hd:decide ((pos:Int)<(s.size:Int))=true:=by simp;omega
   go_wp2_with fail
   refine(one_any b pos s ts _ hsc0 hlt (by omega) (by omega)).mono ?_
   rintro e w4 hgot
   cases hone:oneR s pos s[pos] with
   |error c=>
    rw[hone] at hgot
    obtain⟨rfl,hb5⟩:=hgot
    have HO:=Lib.hid hone
    have hbb:=hbw.trans hb5
    have hres4:Res w4 r:=by unfold Res;rw[hbb.block r hsz];exact hres
    clear hone hb5 c1 c2 hb ho hsc0 hresr
    have f0:=hres4.f 0
    have f1:=hres4.f 1
    have d0:=hres4.c0
    have d1:=hres4.c1
    have hc0:=oneR_err HO.out
    have HF:=Lib.hid (scanF_err (ts:=ts) hlt HO.out)
    go_wp2_with fail
    refine bodyPost_ret (v:=.tuple #[.slice none 0 0,.agg #[.int .i64 c,.int .i64 (pos:Int)]]) (by simp[results,Tryd.results20,go_sem,d0,d1]) rfl ?_
    rw[HN.out,HF.out]
    exact⟨rfl,hr ▸ (((hbl.trans (hbb.mono (by omega))).setCell (by simp;omega) _).setCell (by simp;omega) _)⟩
   |ok q=>
    obtain⟨t,j⟩:=q
    rw[hone] at hgot
    obtain⟨rfl,hsc5,hb5⟩:=hgot
    have hbd:=oneR_bd hlt hone
    have hk:=skipPos_ge s j hbd.2
    have HF:=Lib.hid (scanF_ok (ts:=ts) hlt hone)
    clear hone c1 c2 hb ho hsc0 hresr
    go_wp2_with fail
    refine(skip_sc b j s _ _ hsc5 hbd.2 (by omega)).mono ?_
    rintro e w5 ⟨rfl,hsc6,hb6⟩
    generalize skipPos s j=q at *
    go_wp2_with fail
    go_roundg (s.size-q)
    case measure=>have:=HG.out;omega
    case rel=>exact⟨q,ts++[t],hk.2,rfl,by simp;omega,hsc6,(hbw.trans hb5).trans hb6,HN.out.trans HF.out⟩
  ·have hd:decide ((pos:Int)<(s.size:Int))=false:=by simp;omega
   have HF:=Lib.hid (scanF_end (ts:=ts) hlt)
   go_wp2_with fail
   refine(put_any b s pos ts 0 0 ⟨#[]⟩ s.size _ hsc0 (by omega) (.inr (.inr (by decide)))).mono ?_
   rintro e w4 ⟨rfl,hsc5,hb5⟩
   obtain⟨v4,hb6,ho6⟩:=hsc5
   have hbb:=hbw.trans hb5
   have hres4:Res w4 r:=by unfold Res;rw[hbb.block r hsz];exact hres
   rw[List.length_append] at ho6
   obtain⟨g,cap,hv⟩:=owned_some ho6
   rw[hv] at ho6 hb6
   clear hv c1 c2 hb ho hsc0 hresr hb5
   have f0:=hres4.f 0
   have f1:=hres4.f 1
   have d0:=hres4.c0
   have d1:=hres4.c1
   have c2:=hb6.c2
   have hsz4:r<w4.heap.size:=by have:=hb6.lt;omega
   have hbl4:=hbl.trans (hbb.mono (by omega))
   have HO6:=Lib.hid ho6
   clear ho6 hbb hbw
   go_wp2_with fail
   refine bodyPost_ret (v:=.tuple #[.slice (some ⟨g,0,none⟩) (ts.length+1) cap,.agg #[.int .i64 0,.int .i64 0]]) (by simp[results,Tryd.results20,go_sem,d0,d1]) rfl ?_
   rw[HN.out,HF.out]
   refine⟨_,rfl,?_,hr ▸ ((hbl4.setCell (by simp;omega) _).setCell (by simp;omega) _)⟩
   have ho7:=ownsRow_setCell_below (ownsRow_setCell_below HO6.out (a:=⟨r,0,none⟩) (by simp;omega) (.int .i64 0)) (a:=⟨r,1,none⟩) (by simp;omega) (.int .i64 0)
   rw[List.length_append,hr]
   exact ownsRow_base ho7 (by omega)
theorem scan_any(s:ByteArray)(w:World)(hs:s.size≤maxLen):Calls Tryd.prog 20 #[.string s] w (Scanned w (scanP s)):=by
 by_cases h:60000<s.size
 ·exact scan_limit s w h hs
 ·by_cases hsp:0≤spoilP s
  ·exact scan_spoiled s w h hsp
  ·exact scan_main s w h hsp
end Go.Proofs.YtfphhabaeggenaaDoor.Lx
namespace Go.Proofs.YtfphhabaeggenaaDoor.Lx
set_option maxRecDepth 20000
open Go.RowKit
abbrev LTok:=Int×List UInt8×Int×Nat
def putL(kind:Int)(x:List UInt8)(n:Int)(r:List UInt8):Except Int (Int×List UInt8×Int×List UInt8):=
 if kind≠3∧kind≠4∧40<x.length then .error 104 else .ok (kind,x,n,r)
def kindL(x:List UInt8):Int:=if keyList.contains x=true then 6 else if(x==[95])=true then 7 else if(match x with|[]=>false|c::_=>upB c)=true then 2 else 1
def oneL(l:List UInt8):Except Int (Int×List UInt8×Int×List UInt8):=
 match l with
 |[]=>.error 101
 |c::r=>
  if lowB c=true∨upB c=true then putL (kindL (l.takeWhile insideB)) (l.takeWhile insideB) 0 (l.dropWhile insideB)
  else if digitB c=true then
   (match parseD (numText (l.takeWhile digitB)) with
    |none=>.error 102
    |some n=>putL 3 (numText (l.takeWhile digitB)) n (l.dropWhile digitB))
  else if c.toNat=34 then
   (match textL r with
    |none=>.error 103
    |some (x,r')=>putL 4 x 0 r')
  else if symB c=true then putL (if markList.contains (l.takeWhile symB)=true then 7 else 5) (l.takeWhile symB) 0 (l.dropWhile symB)
  else if markList.contains [c]=true then putL 7 [c] 0 r
  else .error 101
def scanL:Nat→List UInt8→Except (Int×Nat) (List LTok)
 |0,_=>.ok [(0,[],0,0)]
 |f+1,l=>
  match l with
  |[]=>.ok [(0,[],0,0)]
  |c::r=>
   match oneL (c::r) with
   |.error e=>.error (e,(c::r).length)
   |.ok (k,x,n,r')=>
    match scanL f (skipC false r') with
    |.error e=>.error e
    |.ok ts=>.ok ((k,x,n,(c::r).length)::ts)
def toTok(size:Nat)(t:LTok):Tok:=⟨t.1,textOf t.2.1,t.2.2.1,size-t.2.2.2⟩
def liftOne(s:ByteArray)(k:Nat)(o:Except Int (Int×List UInt8×Int×List UInt8)):Except Int (Tok×Nat):=
 match o with
 |.error e=>.error e
 |.ok (kind,x,n,r)=>.ok (⟨kind,textOf x,n,k⟩,s.size-r.length)
theorem text_eq{s:ByteArray}{x:List UInt8}(h:s.data.toList=x):s=textOf x:=by
 subst h
 rfl
theorem adv_pos(p:UInt8→Bool)(s:ByteArray)(k:Nat)(h:k≤s.size):s.size-((s.data.toList.drop k).dropWhile p).length=adv p s k:=by
 have h1:=adv_drop p s k
 have h2:=adv_le p s k h
 have hl:s.data.toList.length=s.size:=rfl
 rw[←h1,List.length_drop]
 omega
theorem put_lift(s:ByteArray)(k j:Nat)(kind n:Int)(x r:List UInt8)(hj:s.size-r.length=j):liftOne s k (putL kind x n r)=putR kind (textOf x) n k j:=by
 unfold putL putR liftOne
 have hsz:((textOf x).size:Int)=(x.length:Int):=by rw[textOf_size]
 by_cases h:kind≠3∧kind≠4∧40<x.length
 ·rw[if_pos h,if_pos (by omega)]
 ·rw[if_neg h,if_neg (by omega)]
  simp only[hj]
theorem kind_lift(x:List UInt8):kindW (textOf x)=kindL x:=by
 unfold kindW kindL keyB headB
 rw[textOf_toList,textOf_data]
 rfl
theorem one_lift(s:ByteArray)(k:Nat)(h:k<s.size):oneR s k s[k]=liftOne s k (oneL (s.data.toList.drop k)):=by
 have hl:s.data.toList.length=s.size:=rfl
 have hin:∀p,s.extract k (adv p s k)=textOf ((s.data.toList.drop k).takeWhile p):=fun p=>text_eq (adv_text p s k)
 have hone:s.extract k (k+1)=textOf [s[k]]:=text_eq (by rw[Lib.extract_data,Nat.add_sub_cancel_left,drop_at s k h];rfl)
 have hmark:∀x,markB (textOf x)=markList.contains x:=fun x=>by unfold markB;rw[textOf_toList]
 have hd:=drop_at s k h
 have key:oneL (s.data.toList.drop k)=oneL (s[k]::s.data.toList.drop (k+1)):=by rw[hd]
 rw[key]
 unfold oneR oneL
 simp only
 by_cases h1:lowB s[k]=true∨upB s[k]=true
 ·rw[if_pos h1,if_pos h1]
  unfold wordR
  rw[hin,kind_lift,←hd]
  exact(put_lift s k _ _ _ _ _ (adv_pos insideB s k (by omega))).symm
 ·rw[if_neg h1,if_neg h1]
  by_cases h2:digitB s[k]=true
  ·rw[if_pos h2,if_pos h2]
   unfold numR numOf
   rw[←hd]
   cases parseD (numText ((s.data.toList.drop k).takeWhile digitB)) with
   |none=>rfl
   |some n=>exact(put_lift s k _ _ _ _ _ (adv_pos digitB s k (by omega))).symm
  ·rw[if_neg h2,if_neg h2]
   by_cases h3:s[k].toNat=34
   ·rw[if_pos h3,if_pos h3]
    unfold textR textOfR
    cases textL (s.data.toList.drop (k+1)) with
    |none=>rfl
    |some p=>exact(put_lift s k _ _ _ _ _ rfl).symm
   ·rw[if_neg h3,if_neg h3]
    by_cases h4:symB s[k]=true
    ·rw[if_pos h4,if_pos h4]
     unfold symR
     rw[hin,hmark,←hd]
     exact(put_lift s k _ _ _ _ _ (adv_pos symB s k (by omega))).symm
    ·rw[if_neg h4,if_neg h4,hone,hmark]
     by_cases h5:markList.contains [s[k]]=true
     ·rw[if_pos h5,if_pos h5]
      exact(put_lift s k _ _ _ _ _ (by rw[List.length_drop];omega)).symm
     ·rw[if_neg h5,if_neg h5]
      rfl
def liftScan(size:Nat)(ts:List Tok)(o:Except (Int×Nat) (List LTok)):Except (Int×Nat) (List Tok):=
 match o with
 |.error (c,m)=>.error (c,size-m)
 |.ok l=>.ok (ts++l.map (toTok size))
theorem skipC_suffix:∀(b:Bool) (l:List UInt8),∃n,skipC b l=l.drop n
 |_,[]=>⟨0,by simp[skipC]⟩
 |true,c::r=>by
  simp only[skipC]
  split
  ·obtain⟨n,h⟩:=skipC_suffix false r;exact⟨n+1,by simpa using h⟩
  ·obtain⟨n,h⟩:=skipC_suffix true r;exact⟨n+1,by simpa using h⟩
 |false,c::r=>by
  simp only[skipC]
  split
  ·obtain⟨n,h⟩:=skipC_suffix false r;exact⟨n+1,by simpa using h⟩
  ·split
   ·obtain⟨n,h⟩:=skipC_suffix true r;exact⟨n+1,by simpa using h⟩
   ·exact⟨0,rfl⟩
theorem drop_skipPos(s:ByteArray)(j:Nat):s.data.toList.drop (skipPos s j)=skipC false (s.data.toList.drop j):=by
 obtain⟨n,h⟩:=skipC_suffix false (s.data.toList.drop j)
 have hl:s.data.toList.length=s.size:=rfl
 unfold skipPos
 rw[h,List.drop_drop,List.length_drop]
 by_cases hn:j+n≤s.size
 ·congr 1;omega
 ·rw[List.drop_eq_nil_of_le (by omega),List.drop_eq_nil_of_le (by omega)]
theorem drop_pos(s:ByteArray)(r:List UInt8)(n:Nat)(h:r=s.data.toList.drop n):s.data.toList.drop (s.size-r.length)=r:=by
 have hl:s.data.toList.length=s.size:=rfl
 subst h
 rw[List.length_drop]
 by_cases hn:n≤s.size
 ·congr 1;omega
 ·rw[List.drop_eq_nil_of_le (by omega),List.drop_eq_nil_of_le (by omega)]
theorem textL_suffix:∀(n:Nat) (l x r:List UInt8),l.length≤n→textL l=some (x,r)→∃m,r=l.drop m
 |0,l,x,r,hn,h=>by
  have:l=[]:=List.eq_nil_of_length_eq_zero (by omega)
  subst this
  cases h
 |n+1,[],x,r,hn,h=>by cases h
 |n+1,c::l,x,r,hn,h=>by
  rw[textL_cons] at h
  simp only[List.length_cons] at hn
  split at h
  ·cases h;exact⟨1,rfl⟩
  ·split at h
   ·cases h
   ·split at h
    ·cases l with
     |nil=>cases h
     |cons d l'=>
      simp only at h
      split at h
      ·cases h
      ·cases h2:textL l' with
       |none=>rw[h2] at h;cases h
       |some p=>
        rw[h2] at h
        obtain⟨m,hm⟩:=textL_suffix n l' p.1 p.2 (by simp only[List.length_cons] at hn;omega) h2
        cases h
        exact⟨m+2,by simpa using hm⟩
    ·cases h2:textL l with
     |none=>rw[h2] at h;cases h
     |some p=>
      rw[h2] at h
      obtain⟨m,hm⟩:=textL_suffix n l p.1 p.2 (by omega) h2
      cases h
      exact⟨m+1,by simpa using hm⟩
theorem putL_rest{kind kind' n n':Int}{x x' r r':List UInt8}(h:putL kind x n r=.ok (kind',x',n',r')):r=r'∧kind=kind'∧x=x'∧n=n':=by
 unfold putL at h
 split at h
 ·cases h
 ·cases h;exact⟨rfl,rfl,rfl,rfl⟩
theorem dropWhile_suffix(p:UInt8→Bool)(c:UInt8)(r:List UInt8)(h:p c=true):∃m,(c::r).dropWhile p=r.drop m:=by
 rw[List.dropWhile_cons_of_pos h,←drop_takeWhile]
 exact⟨_,rfl⟩
theorem oneL_suffix{c:UInt8}{l:List UInt8}{k n:Int}{x r:List UInt8}(h:oneL (c::l)=.ok (k,x,n,r)):∃m,r=l.drop m:=by
 unfold oneL at h
 simp only at h
 split at h
 ·rename_i hc
  rw[←(putL_rest h).1]
  exact dropWhile_suffix insideB c l (by rcases hc with hc|hc<;>simp[insideB,hc])
 ·split at h
  ·rename_i hd
   split at h
   ·cases h
   ·rw[←(putL_rest h).1]
    exact dropWhile_suffix digitB c l hd
  ·split at h
   ·split at h
    ·cases h
    ·rename_i hx
     rw[←(putL_rest h).1]
     exact textL_suffix _ _ _ _ (Nat.le_refl _) hx
   ·split at h
    ·rename_i hs
     rw[←(putL_rest h).1]
     exact dropWhile_suffix symB c l hs
    ·split at h
     ·rw[←(putL_rest h).1]
      exact⟨0,rfl⟩
     ·cases h
theorem oneL_shorter{c:UInt8}{l:List UInt8}{k n:Int}{x r:List UInt8}(h:oneL (c::l)=.ok (k,x,n,r)):(skipC false r).length≤l.length:=by
 obtain⟨m,rfl⟩:=oneL_suffix h
 have:=skipC_length false (l.drop m)
 rw[List.length_drop] at this
 omega
theorem scanL_two:∀(f g:Nat) (l:List UInt8),l.length<f→l.length<g→scanL f l=scanL g l
 |0,_,l,h,_=>by omega
 |_+1,0,l,_,h=>by omega
 |f+1,g+1,[],_,_=>rfl
 |f+1,g+1,c::l,h,h'=>by
  simp only[scanL]
  cases h1:oneL (c::l) with
  |error e=>rfl
  |ok q=>
   obtain⟨k,x,n,r⟩:=q
   have hs:=oneL_shorter h1
   simp only[List.length_cons] at h h'
   simp only
   rw[scanL_two f g _ (by omega) (by omega)]
theorem scanL_more(f:Nat)(l:List UInt8)(h:l.length<f):scanL f l=scanL (l.length+1) l:=scanL_two _ _ _ h (by omega)
theorem scan_lift(s:ByteArray):∀(f pos:Nat) (ts:List Tok),pos≤s.size→s.size-pos<f→scanF s f pos ts=liftScan s.size ts (scanL f (s.data.toList.drop pos))
 |0,pos,ts,_,h=>by omega
 |f+1,pos,ts,hp,h=>by
  have hl:s.data.toList.length=s.size:=rfl
  by_cases hlt:pos<s.size
  ·simp only[scanF,hlt,dif_pos]
   rw[one_lift s pos hlt,drop_at s pos hlt]
   simp only[scanL]
   cases h1:oneL (s[pos]::s.data.toList.drop (pos+1)) with
   |error e=>
    simp only[liftOne,liftScan,List.length_cons,List.length_drop,hl]
    have:s.size-(s.size-(pos+1)+1)=pos:=by omega
    rw[this]
   |ok q=>
    obtain⟨k,x,n,r⟩:=q
    obtain⟨m,hm⟩:=oneL_suffix h1
    rw[List.drop_drop] at hm
    have hr:=drop_pos s r _ hm
    simp only[liftOne]
    have hrl:r.length≤s.size-(pos+1):=by
     rw[hm,List.length_drop];omega
    have hj:pos<s.size-r.length:=by omega
    have hk:=skipPos_ge s (s.size-r.length) (by omega)
    rw[scan_lift s f _ _ hk.2 (by omega),drop_skipPos,hr]
    cases scanL f (skipC false r) with
    |error e=>rfl
    |ok l=>
     simp only[liftScan,List.map_cons,List.append_assoc,List.singleton_append,toTok,List.length_cons,List.length_drop,hl]
     have:s.size-(s.size-(pos+1)+1)=pos:=by omega
     rw[this]
  ·have e:s.data.toList.drop pos=[]:=List.drop_eq_nil_of_le (by omega)
   simp only[scanF,hlt,dif_neg,not_false_eq_true,e,scanL,liftScan,List.map_cons,List.map_nil,toTok,endTok]
   rfl
def scanAll(l:List UInt8):Except (Int×Nat) (List LTok):=scanL (l.length+1) (skipC false l)
theorem scanAll_lift(s:ByteArray):scanF s (s.size+1) (skipPos s 0) []=liftScan s.size [] (scanAll s.data.toList):=by
 have hk:=skipPos_ge s 0 (Nat.zero_le _)
 rw[scan_lift s _ _ _ hk.2 (by omega),drop_skipPos]
 rfl
theorem scanAll_eq(l:List UInt8)(f:Nat)(h:(skipC false l).length<f):scanL f (skipC false l)=scanAll l:=by
 unfold scanAll
 rw[scanL_more f _ h,scanL_more (l.length+1) _ (by have:=skipC_length false l;omega)]
end Go.Proofs.YtfphhabaeggenaaDoor.Lx
namespace Go.Proofs.YtfphhabaeggenaaDoor.Lx
set_option maxRecDepth 20000
open Go.RowKit
def byteN(l:List UInt8)(k:Nat):Nat:=(l.getD k 0).toNat
def decL(l:List UInt8):Nat×Nat:=Lib.decodeN l.length (byteN l 0) (byteN l 1) (byteN l 2) (byteN l 3)
def badL(l:List UInt8):Bool:=((decL l).1:Int)==65533 && !Lib.hasPrefix l [239,191,189]
def spoilL:Nat→List UInt8→Option Nat
 |0,_=>none
 |f+1,l=>if l=[] then none else if badL l=true then some l.length else spoilL f (l.drop (decL l).2)
theorem get_byte(s:ByteArray)(i k:Nat):(s.get! (i+k)).toNat=byteN (s.data.toList.drop i) k:=by
 unfold byteN
 have:s.get! (i+k)=(s.data.toList.drop i).getD k 0:=by
  rw[List.getD_eq_getElem?_getD,List.getElem?_drop,Array.getElem?_toList]
  by_cases h:i+k<s.data.size
  ·rw[show s.get! (i+k)=s.data[i+k]! from rfl,getElem!_pos s.data (i+k) h,Array.getElem?_eq_getElem h]
   rfl
  ·rw[show s.get! (i+k)=s.data[i+k]! from rfl,getElem!_neg s.data (i+k) h,Array.getElem?_eq_none (by omega)]
   rfl
 rw[this]
theorem dec_lift(s:ByteArray)(i:Nat):Utf8.decode s i=decL (s.data.toList.drop i):=by
 rw[Lib.decode_at]
 unfold decL
 have h0:=get_byte s i 0
 rw[Nat.add_zero] at h0
 rw[h0,get_byte s i 1,get_byte s i 2,get_byte s i 3,List.length_drop]
 rfl
theorem bad_lift(s:ByteArray)(i:Nat):badAt s i=badL (s.data.toList.drop i):=by
 unfold badAt badL
 have hl:s.data.toList.length=s.size:=rfl
 rw[dec_lift,Lib.extract_data,List.take_of_length_le (by rw[List.length_drop];omega)]
theorem spoil_lift(s:ByteArray):∀(f pos:Nat),spoilF s f pos=match spoilL f (s.data.toList.drop pos) with|none=>-1|some m=>((s.size-m:Nat):Int)
 |0,pos=>rfl
 |f+1,pos=>by
  have hl:s.data.toList.length=s.size:=rfl
  by_cases h:pos<s.size
  ·have hne:s.data.toList.drop pos≠[]:=by rw[drop_at s pos h];simp
   simp only[spoilF,spoilL,h,if_true,hne,if_false,bad_lift]
   by_cases hb:badL (s.data.toList.drop pos)=true
   ·simp only[hb,if_true,List.length_drop,hl]
    have:s.size-(s.size-pos)=pos:=by omega
    rw[this]
   ·simp only[hb,if_false,List.drop_drop,dec_lift,Bool.false_eq_true]
    exact spoil_lift s f _
  ·have he:s.data.toList.drop pos=[]:=List.drop_eq_nil_of_le (by omega)
   simp[spoilF,spoilL,h,he]
theorem decL_width(c:UInt8)(r:List UInt8):1≤(decL (c::r)).2∧(decL (c::r)).2≤(c::r).length:=by
 unfold decL Lib.decodeN
 simp only[List.length_cons]
 repeat' split
 all_goals simp only
 all_goals omega
theorem decL_sep(b:List UInt8)(c:UInt8)(r:List UInt8):decL (c::r++10::b)=decL (c::r):=by
 match r with
 |[]=>simp[decL,byteN,Lib.decodeN]
 |[c1]=>simp[decL,byteN,Lib.decodeN]
 |[c1,c2]=>simp[decL,byteN,Lib.decodeN]
 |c1::c2::c3::r=>simp[decL,byteN,Lib.decodeN]
theorem badL_sep(b:List UInt8)(c:UInt8)(r:List UInt8):badL (c::r++10::b)=badL (c::r):=by
 unfold badL
 rw[decL_sep]
 congr 2
 match r with
 |[]=>simp[Lib.hasPrefix,List.isPrefixOf]
 |[c1]=>simp[Lib.hasPrefix,List.isPrefixOf]
 |c1::c2::r=>simp[Lib.hasPrefix,List.isPrefixOf]
theorem spoilL_two:∀(f g:Nat) (l:List UInt8),l.length<f→l.length<g→spoilL f l=spoilL g l
 |0,_,l,h,_=>by omega
 |_+1,0,l,_,h=>by omega
 |f+1,g+1,[],_,_=>rfl
 |f+1,g+1,c::l,h,h'=>by
  have hw:=decL_width c l
  simp only[List.length_cons] at h h' hw
  simp only[spoilL]
  rw[spoilL_two f g _ (by rw[List.length_drop,List.length_cons];omega) (by rw[List.length_drop,List.length_cons];omega)]
def spoilAll(l:List UInt8):Option Nat:=spoilL (l.length+1) l
theorem spoilP_lift(s:ByteArray):spoilP s=match spoilAll s.data.toList with|none=>-1|some m=>((s.size-m:Nat):Int):=spoil_lift s (s.size+1) 0
theorem spoilAll_cons(c:UInt8)(r:List UInt8):spoilAll (c::r)=if badL (c::r)=true then some (c::r).length else spoilAll ((c::r).drop (decL (c::r)).2):=by
 have hw:=decL_width c r
 have:spoilAll (c::r)=if badL (c::r)=true then some (c::r).length else spoilL (c::r).length ((c::r).drop (decL (c::r)).2):=by
  unfold spoilAll
  simp[spoilL]
 rw[this]
 unfold spoilAll
 rw[spoilL_two _ (((c::r).drop (decL (c::r)).2).length+1) _ (by rw[List.length_drop];simp only[List.length_cons] at *;omega) (by omega)]
theorem spoil_sep(b:List UInt8):∀(n:Nat) (u:List UInt8),u.length≤n→spoilAll (u++10::b)=match spoilAll u with|some m=>some (m+(b.length+1))|none=>spoilAll b
 |n,[],hn=>by
  have h1:badL (10::b)=false:=by simp[badL,decL,Lib.decodeN,byteN]
  have h2:(decL (10::b)).2=1:=by simp[decL,Lib.decodeN,byteN]
  have h3:spoilAll []=none:=rfl
  rw[List.nil_append,spoilAll_cons,h1,h2,h3]
  rfl
 |0,c::r,hn=>by simp at hn
 |n+1,c::r,hn=>by
  have hw:=decL_width c r
  rw[List.cons_append,spoilAll_cons,spoilAll_cons,←List.cons_append,badL_sep,decL_sep]
  by_cases hb:badL (c::r)=true
  ·simp only[hb,if_true,List.length_append,List.length_cons]
  ·simp only[hb,if_false,Bool.false_eq_true]
   rw[List.drop_append_of_le_length hw.2]
   exact spoil_sep b n _ (by rw[List.length_drop];simp only[List.length_cons] at *;omega)
end Go.Proofs.YtfphhabaeggenaaDoor.Lx
namespace Go.Proofs.YtfphhabaeggenaaDoor.Lx
set_option maxRecDepth 20000
theorem scanP_form(s:ByteArray)(h:s.size≤60000):scanP s=match spoilAll s.data.toList with|some m=>.error (100,s.size-m)|none=>liftScan s.size [] (scanAll s.data.toList):=by
 unfold scanP
 rw[if_neg (by omega),spoilP_lift]
 cases spoilAll s.data.toList with
 |none=>simp only;rw[if_neg (by omega)];exact scanAll_lift s
 |some m=>simp only;rw[if_pos (by omega)];rfl
end Go.Proofs.YtfphhabaeggenaaDoor.Lx
namespace Go.Proofs.YtfphhabaeggenaaDoor.Lx
set_option maxRecDepth 20000
set_option linter.all false
open Go.RowKit
theorem takeWhile_sep(p:UInt8→Bool)(hp:p 10=false)(b:List UInt8):∀u:List UInt8,(u++10::b).takeWhile p=u.takeWhile p
 |[]=>by simp[hp]
 |c::r=>by
  by_cases h:p c=true
  ·rw[List.cons_append,List.takeWhile_cons_of_pos h,List.takeWhile_cons_of_pos h,takeWhile_sep p hp b r]
  ·rw[List.cons_append,List.takeWhile_cons_of_neg h,List.takeWhile_cons_of_neg h]
theorem dropWhile_sep(p:UInt8→Bool)(hp:p 10=false)(b:List UInt8):∀u:List UInt8,(u++10::b).dropWhile p=u.dropWhile p++10::b
 |[]=>by simp[hp]
 |c::r=>by
  by_cases h:p c=true
  ·rw[List.cons_append,List.dropWhile_cons_of_pos h,List.dropWhile_cons_of_pos h,dropWhile_sep p hp b r]
  ·rw[List.cons_append,List.dropWhile_cons_of_neg h,List.dropWhile_cons_of_neg h];rfl
theorem textL_sep(b:List UInt8):∀(n:Nat) (u:List UInt8),u.length≤n→textL (u++10::b)=(textL u).map fun p=>(p.1,p.2++10::b)
 |0,u,hn=>by
  have:u=[]:=List.eq_nil_of_length_eq_zero (by omega)
  subst this
  rw[List.nil_append,textL_cons]
  rfl
 |n+1,[],hn=>by
  rw[List.nil_append,textL_cons]
  rfl
 |n+1,c::l,hn=>by
  rw[List.cons_append,textL_cons,textL_cons]
  simp only[List.length_cons] at hn
  split
  ·rfl
  ·split
   ·rfl
   ·split
    ·cases l with
     |nil=>rfl
     |cons d l'=>
      simp only[List.cons_append]
      simp only[List.length_cons] at hn
      cases escC d with
      |none=>rfl
      |some x=>
       simp only
       rw[textL_sep b n l' (by omega)]
       cases textL l'<;>rfl
    ·rw[textL_sep b n l (by omega)]
     cases textL l<;>rfl
def restTo(b:List UInt8)(o:Except Int (Int×List UInt8×Int×List UInt8)):Except Int (Int×List UInt8×Int×List UInt8):=
 match o with
 |.error e=>.error e
 |.ok (k,x,n,r)=>.ok (k,x,n,r++10::b)
theorem putL_sep(kind n:Int)(x r b:List UInt8):putL kind x n (r++10::b)=restTo b (putL kind x n r):=by
 unfold putL
 split<;>rfl
theorem oneL_sep(b:List UInt8)(c:UInt8)(r:List UInt8):oneL ((c::r)++10::b)=restTo b (oneL (c::r)):=by
 have h1:insideB 10=false:=by decide
 have h2:digitB 10=false:=by decide
 have h3:symB 10=false:=by decide
 have t1:(c::(r++10::b)).takeWhile insideB=(c::r).takeWhile insideB:=takeWhile_sep _ h1 b (c::r)
 have t2:(c::(r++10::b)).takeWhile digitB=(c::r).takeWhile digitB:=takeWhile_sep _ h2 b (c::r)
 have t3:(c::(r++10::b)).takeWhile symB=(c::r).takeWhile symB:=takeWhile_sep _ h3 b (c::r)
 have d1:(c::(r++10::b)).dropWhile insideB=(c::r).dropWhile insideB++10::b:=dropWhile_sep _ h1 b (c::r)
 have d2:(c::(r++10::b)).dropWhile digitB=(c::r).dropWhile digitB++10::b:=dropWhile_sep _ h2 b (c::r)
 have d3:(c::(r++10::b)).dropWhile symB=(c::r).dropWhile symB++10::b:=dropWhile_sep _ h3 b (c::r)
 unfold oneL
 simp only[List.cons_append,t1,t2,t3,d1,d2,d3]
 split
 ·exact putL_sep _ _ _ _ _
 ·split
  ·cases parseD (numText ((c::r).takeWhile digitB)) with
   |none=>rfl
   |some n=>exact putL_sep _ _ _ _ _
  ·split
   ·rw[textL_sep b _ r (Nat.le_refl _)]
    cases textL r with
    |none=>rfl
    |some p=>exact putL_sep _ _ _ _ _
   ·split
    ·exact putL_sep _ _ _ _ _
    ·split
     ·exact putL_sep _ _ _ _ _
     ·rfl
theorem skipC_sep(b:List UInt8):∀(t:Bool) (u:List UInt8),skipC t (u++10::b)=if skipC t u=[] then skipC false b else skipC t u++10::b
 |true,[]=>by simp[skipC]
 |false,[]=>by
  have:blankB 10=true:=by decide
  simp[skipC,this]
 |true,c::r=>by
  simp only[List.cons_append,skipC]
  split
  ·exact skipC_sep b false r
  ·exact skipC_sep b true r
 |false,c::r=>by
  simp only[List.cons_append,skipC]
  split
  ·exact skipC_sep b false r
  ·split
   ·exact skipC_sep b true r
   ·simp
def addRem(m:Nat)(t:LTok):LTok:=(t.1,t.2.1,t.2.2.1,t.2.2.2+m)
def behind(m:Nat)(x y:Except (Int×Nat) (List LTok)):Except (Int×Nat) (List LTok):=
 match x with
 |.error (c,k)=>.error (c,k+m)
 |.ok ta=>
  match y with
  |.error e=>.error e
  |.ok tb=>.ok (ta.dropLast.map (addRem m)++tb)
theorem scanL_ne:∀(f:Nat) (l:List UInt8) (ts:List LTok),scanL f l=.ok ts→ts≠[]
 |0,l,ts,h=>by cases h;simp
 |f+1,[],ts,h=>by cases h;simp
 |f+1,c::r,ts,h=>by
  simp only[scanL] at h
  split at h
  ·cases h
  ·split at h
   ·cases h
   ·cases h;simp
theorem scan_sep(b:List UInt8):∀(n:Nat) (u:List UInt8),u.length≤n→scanAll (u++10::b)=behind (b.length+1) (scanAll u) (scanAll b)
 |n,u,hn=>by
  have hsk:=skipC_sep b false u
  by_cases he:skipC false u=[]
  ·rw[if_pos he] at hsk
   have e1:scanAll u=.ok [(0,[],0,0)]:=by unfold scanAll;rw[he];rfl
   have e2:scanAll (u++10::b)=scanAll b:=by
    rw[←scanAll_eq b ((u++10::b).length+1) (by have:=skipC_length false b;simp;omega)]
    unfold scanAll
    rw[hsk]
   rw[e1,e2]
   unfold behind
   cases scanAll b<;>rfl
  ·rw[if_neg he] at hsk
   cases hu:skipC false u with
   |nil=>exact absurd hu he
   |cons c r=>
    have hlen:r.length<u.length:=by
     have:=skipC_length false u
     rw[hu] at this
     simp only[List.length_cons] at this
     omega
    rw[hu] at hsk
    have e2:scanAll (u++10::b)=scanL ((c::r++10::b).length+1) (c::r++10::b):=by
     unfold scanAll
     rw[hsk]
     exact scanL_two _ _ _ (by simp;omega) (by omega)
    have e1:scanAll u=scanL ((c::r).length+1) (c::r):=by
     unfold scanAll
     rw[hu]
     exact scanL_two _ _ _ (by simp;omega) (by omega)
    rw[e1,e2]
    simp only[List.cons_append,scanL]
    rw[←List.cons_append,oneL_sep]
    cases h1:oneL (c::r) with
    |error e=>simp[restTo,behind];omega
    |ok q=>
     obtain⟨k,x,m,r'⟩:=q
     have hs:=oneL_shorter h1
     obtain⟨d,hd⟩:=oneL_suffix h1
     have hr':r'.length≤r.length:=by rw[hd,List.length_drop];omega
     cases n with
     |zero=>omega
     |succ n=>
      have ih:=scan_sep b n r' (by omega)
      have e3:scanL (c::r++10::b).length (skipC false (r'++10::b))=scanAll (r'++10::b):=by
       apply scanAll_eq
       have:=skipC_length false (r'++10::b)
       simp at *
       omega
      have e4:scanL (c::r).length (skipC false r')=scanAll r':=scanAll_eq _ _ (by simp only[List.length_cons];omega)
      simp only[restTo]
      rw[e3,e4,ih]
      cases h2:scanAll r' with
      |error e=>obtain⟨e,m⟩:=e;rfl
      |ok ta=>
       have hne:=scanL_ne _ _ _ h2
       cases scanAll b with
       |error e=>rfl
       |ok tb=>
        simp only[behind]
        cases ta with
        |nil=>exact absurd rfl hne
        |cons t0 ta'=>
         simp[List.dropLast,addRem]
         omega
end Go.Proofs.YtfphhabaeggenaaDoor.Lx
