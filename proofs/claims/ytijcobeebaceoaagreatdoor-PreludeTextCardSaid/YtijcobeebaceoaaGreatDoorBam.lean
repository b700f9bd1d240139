/- Joined texts. -/
import Derived.Test.YtijcobeebaceoaaGreatDoorBal
import Derived.Test.YtijcobeebaceoaaGreatDoorBaj
import Derived.Test.YtijcobeebaceoaaGreatDoorBai
set_option linter.unusedVariables false
set_option linter.unusedSimpArgs false
set_option linter.unusedSectionVars false
namespace Go.Proofs.YtijcobeebaceoaaGreatDoor
open Go.RowKit
set_option maxRecDepth 10000
theorem ajH:ja PG 35 5 96:=ja.of (by kernel_rfl)
theorem ajI:ja PG 36 6 112:=ja.of (by kernel_rfl)
theorem ajG:ja PG 37 8 128:=ja.of (by kernel_rfl)
theorem PW(l:List Dt):Raw 5 (l.map Dt.cells) (l.map Dt.cells):=.of l (fun x=>by simp[Dt.cells]) (fun x=>rfl) (fun x=>by simp[Dt.cells])
theorem PX(l:List Cl):Raw 6 (l.map Cl.cells) (l.map Cl.cells):=.of l (fun x=>by simp[Cl.cells]) (fun x=>rfl) (fun x=>by simp[Cl.cells])
theorem PU(l:List It):Raw 8 (l.map It.cells) (l.map It.cells):=.of l (fun x=>by simp[It.cells]) (fun x=>rfl) (fun x=>by simp[It.cells])
theorem alm(l:List Dt)(v:Dt):(l++[v]).map Dt.cells=l.map Dt.cells++[dtC v]:=by rw[List.map_append,List.map_cons,List.map_nil];rfl
theorem aln(l:List Cl)(v:Cl):(l++[v]).map Cl.cells=l.map Cl.cells++[clC v]:=by rw[List.map_append,List.map_cons,List.map_nil];rfl
theorem alk(l:List It)(v:It):(l++[v]).map It.cells=l.map It.cells++[Zt v]:=by rw[List.map_append,List.map_cons,List.map_nil];rfl
theorem alo(l:List Bd)(v:Bd):(l++[v]).map Bd.cells=l.map Bd.cells++[fZ v]:=IB l v
def qF(L:List Tk)(s:St)(R0 R1 R2 R3:List (List PV)):Bool→Bool→Bool→Bool→Q
 |false,false,false,false=>Ym (aU L) (iv s.a) (iv s.lv) (iv s.e) (iv s.w)
 |true,false,false,false=>Yl (aU L) (iv s.a) (iv s.lv) (iv s.e) (iv s.w) R0
 |false,true,false,false=>Yk (aU L) (iv s.a) (iv s.lv) (iv s.e) (iv s.w) R1
 |false,false,true,false=>Yj (aU L) (iv s.a) (iv s.lv) (iv s.e) (iv s.w) R2
 |false,false,false,true=>Yi (aU L) (iv s.a) (iv s.lv) (iv s.e) (iv s.w) R3
 |true,true,false,false=>Yh (aU L) (iv s.a) (iv s.lv) (iv s.e) (iv s.w) R0 R1
 |true,false,true,false=>Yg (aU L) (iv s.a) (iv s.lv) (iv s.e) (iv s.w) R0 R2
 |true,false,false,true=>Yf (aU L) (iv s.a) (iv s.lv) (iv s.e) (iv s.w) R0 R3
 |false,true,true,false=>Ye (aU L) (iv s.a) (iv s.lv) (iv s.e) (iv s.w) R1 R2
 |false,true,false,true=>Yd (aU L) (iv s.a) (iv s.lv) (iv s.e) (iv s.w) R1 R3
 |false,false,true,true=>Yc (aU L) (iv s.a) (iv s.lv) (iv s.e) (iv s.w) R2 R3
 |true,true,true,false=>Yb (aU L) (iv s.a) (iv s.lv) (iv s.e) (iv s.w) R0 R1 R2
 |true,true,false,true=>Ya (aU L) (iv s.a) (iv s.lv) (iv s.e) (iv s.w) R0 R1 R3
 |true,false,true,true=>X9 (aU L) (iv s.a) (iv s.lv) (iv s.e) (iv s.w) R0 R2 R3
 |false,true,true,true=>X8 (aU L) (iv s.a) (iv s.lv) (iv s.e) (iv s.w) R1 R2 R3
 |true,true,true,true=>X7 (aU L) (iv s.a) (iv s.lv) (iv s.e) (iv s.w) R0 R1 R2 R3
def kF:Bool→Bool→Bool→Bool→Nat
 |false,false,false,false=>0
 |true,false,false,false=>1
 |false,true,false,false=>2
 |false,false,true,false=>3
 |false,false,false,true=>4
 |true,true,false,false=>5
 |true,false,true,false=>6
 |true,false,false,true=>7
 |false,true,true,false=>8
 |false,true,false,true=>9
 |false,false,true,true=>10
 |true,true,true,false=>11
 |true,true,false,true=>12
 |true,false,true,true=>13
 |false,true,true,true=>14
 |true,true,true,true=>15
def wC(b:Bool)(p:PV):PV:=if b=true then p else nS
def qP(L:List Tk)(s:St)(d:List Dt)(c:List Cl)(i:List It)(b:List Bd):Q:=qF L s (d.map Dt.cells) (c.map Cl.cells) (i.map It.cells) (b.map Bd.cells) (!d.isEmpty) (!c.isEmpty) (!i.isEmpty) (!b.isEmpty)
def fP(L:List Tk)(s:St)(d:List Dt)(c:List Cl)(i:List It)(b:List Bd):Rs:=(kF (!d.isEmpty) (!c.isEmpty) (!i.isEmpty) (!b.isEmpty),dh L s [wC (!d.isEmpty) (jq d),wC (!c.isEmpty) (cls c),wC (!i.isEmpty) (its i),wC (!b.isEmpty) (aZ b),nS,nS,nS,nS])
section
variable{L:List Tk}(hL:L.length≤1000000)
include hL
theorem ahw(s:St)(R0 R1 R2 R3:List (List PV))(c0 c1 c2 c3:Bool)(h:s.e≠0∨(bg L s).kind=0):ev (qF L s R0 R1 R2 R3 c0 c1 c2 c3)=some (kF c0 c1 c2 c3,dh L s [wC c0 (.rows R0),wC c1 (.rows R1),wC c2 (.rows R2),wC c3 (.rows R3),nS,nS,nS,nS]):=by
 refine ay.of ?_;have hk:=fun(he:s.e=0)=>h.resolve_left (fun h=>h he)
 clear h;cases c0<;>cases c1<;>cases c2<;>cases c3
 all_goals
  (first
   |rw[qF,El]
   |rw[qF,Ej]
   |rw[qF,Ei]
   |rw[qF,Eh]
   |rw[qF,Eg]
   |rw[qF,Ef]
   |rw[qF,Ee]
   |rw[qF,Ed]
   |rw[qF,Ec]
   |rw[qF,Eb]
   |rw[qF,Ea]
   |rw[qF,D9]
   |rw[qF,D8]
   |rw[qF,D7]
   |rw[qF,D6]
   |rw[qF,D5]
   )
  by_cases he:s.e=0
  ·simp[eq_true he]
   simp[fE,Tk.cells,hk he,kF,wC]
  ·simp[he,kF,wC]
theorem apa(R0 R1 R2 R3:List (List PV))(c0 c1 c2 c3:Bool)(hz:c0=false→R0=[]){cs:List (List PV)}(hr:Raw 5 R0 cs)(hl:R0.length≤3000000)(s s1:St)(v:Dt)(r:Rs)(he:s.e=0)(hk:(bg L s).kind≠0)(b0:gD L ⟨#[100,97,116,97]⟩ s=true)(f1:ev (qDt L s.up)=some (0,dh L s1 (dtC v)))
  (hn:ev (qF L (au L 7 ⟨#[59]⟩ s1) (R0++[dtC v]) R1 R2 R3 true c1 c2 c3)=some r):ev (qF L s R0 R1 R2 R3 c0 c1 c2 c3)=some r:=by
 have aD:=fun k'=>aH (P:=PG) (d:=.fail) (k:=k') ajH hr (c:=dtC v) rfl (by simp) (by omega) (by decide)
 refine ay.of ?_;simp only[qDt,aR,bN,bP,aO] at f1;cases c0<;>cases c1<;>cases c2<;>cases c3
 all_goals
  (first|(obtain rfl:=hz rfl)|skip)
  simp only[qF,aO,List.nil_append] at hn
  (first
   |rw[qF,El]
   |rw[qF,Ej]
   |rw[qF,Ei]
   |rw[qF,Eh]
   |rw[qF,Eg]
   |rw[qF,Ef]
   |rw[qF,Ee]
   |rw[qF,Ed]
   |rw[qF,Ec]
   |rw[qF,Eb]
   |rw[qF,Ea]
   |rw[qF,D9]
   |rw[qF,D8]
   |rw[qF,D7]
   |rw[qF,D6]
   |rw[qF,D5]
   )
  simp[eq_true he];simp[fE,Tk.cells,hk];simp[bG hL,b0,may_t b0,aR,bN,bP];simp[f1]
  (first|simp[aD]|skip)
  simp[aK hL (k:=7) (by decide),Tk.cells];simp[hn]
theorem ao9(R0 R1 R2 R3:List (List PV))(c0 c1 c2 c3:Bool)(hz:c1=false→R1=[]){cs:List (List PV)}(hr:Raw 6 R1 cs)(hl:R1.length≤3000000)(s s1:St)(v:Cl)(r:Rs)(he:s.e=0)(hk:(bg L s).kind≠0)(b0:gD L ⟨#[100,97,116,97]⟩ s=false)(b1:gD L ⟨#[99,108,97,115,115]⟩ s=true)(f1:ev (qCl L s.up)=some (0,dh L s1 (clC v)))
  (hn:ev (qF L (au L 7 ⟨#[59]⟩ s1) R0 (R1++[clC v]) R2 R3 c0 true c2 c3)=some r):ev (qF L s R0 R1 R2 R3 c0 c1 c2 c3)=some r:=by
 have aD:=fun k'=>aH (P:=PG) (d:=.fail) (k:=k') ajI hr (c:=clC v) rfl (by simp) (by omega) (by decide)
 refine ay.of ?_;simp only[qCl,aR,bN,bP,aO] at f1;cases c0<;>cases c1<;>cases c2<;>cases c3
 all_goals
  (first|(obtain rfl:=hz rfl)|skip)
  simp only[qF,aO,List.nil_append] at hn
  (first
   |rw[qF,El]
   |rw[qF,Ej]
   |rw[qF,Ei]
   |rw[qF,Eh]
   |rw[qF,Eg]
   |rw[qF,Ef]
   |rw[qF,Ee]
   |rw[qF,Ed]
   |rw[qF,Ec]
   |rw[qF,Eb]
   |rw[qF,Ea]
   |rw[qF,D9]
   |rw[qF,D8]
   |rw[qF,D7]
   |rw[qF,D6]
   |rw[qF,D5]
   )
  simp[eq_true he];simp[fE,Tk.cells,hk];simp[bG hL,b0,may_f b0,b1,may_t b1,aR,bN,bP];simp[f1]
  (first|simp[aD]|skip)
  simp[aK hL (k:=7) (by decide),Tk.cells];simp[hn]
theorem ao8(R0 R1 R2 R3:List (List PV))(c0 c1 c2 c3:Bool)(hz:c2=false→R2=[]){cs:List (List PV)}(hr:Raw 8 R2 cs)(hl:R2.length≤3000000)(s s1:St)(v:It)(r:Rs)(he:s.e=0)(hk:(bg L s).kind≠0)(b0:gD L ⟨#[100,97,116,97]⟩ s=false)(b1:gD L ⟨#[99,108,97,115,115]⟩ s=false)(b2:gD L ⟨#[105,110,115,116,97,110,99,101]⟩ s=true)(f1:ev (qIt L s.up)=some (0,dh L s1 (Zt v)))
  (hn:ev (qF L (au L 7 ⟨#[59]⟩ s1) R0 R1 (R2++[Zt v]) R3 c0 c1 true c3)=some r):ev (qF L s R0 R1 R2 R3 c0 c1 c2 c3)=some r:=by
 have aD:=fun k'=>aH (P:=PG) (d:=.fail) (k:=k') ajG hr (c:=Zt v) rfl (by simp) (by omega) (by decide)
 refine ay.of ?_;simp only[qIt,aR,bN,bP,aO] at f1;cases c0<;>cases c1<;>cases c2<;>cases c3
 all_goals
  (first|(obtain rfl:=hz rfl)|skip)
  simp only[qF,aO,List.nil_append] at hn
  (first
   |rw[qF,El]
   |rw[qF,Ej]
   |rw[qF,Ei]
   |rw[qF,Eh]
   |rw[qF,Eg]
   |rw[qF,Ef]
   |rw[qF,Ee]
   |rw[qF,Ed]
   |rw[qF,Ec]
   |rw[qF,Eb]
   |rw[qF,Ea]
   |rw[qF,D9]
   |rw[qF,D8]
   |rw[qF,D7]
   |rw[qF,D6]
   |rw[qF,D5]
   )
  simp[eq_true he];simp[fE,Tk.cells,hk];simp[bG hL,b0,may_f b0,b1,may_f b1,b2,may_t b2,aR,bN,bP];simp[f1]
  (first|simp[aD]|skip)
  simp[aK hL (k:=7) (by decide),Tk.cells];simp[hn]
theorem ao7(R0 R1 R2 R3:List (List PV))(c0 c1 c2 c3:Bool)(hz:c3=false→R3=[]){cs:List (List PV)}(hr:Raw 13 R3 cs)(hl:R3.length≤3000000)(s s1:St)(v:Bd)(r:Rs)(he:s.e=0)(hk:(bg L s).kind≠0)(b0:gD L ⟨#[100,97,116,97]⟩ s=false)(b1:gD L ⟨#[99,108,97,115,115]⟩ s=false)(b2:gD L ⟨#[105,110,115,116,97,110,99,101]⟩ s=false)(f1:ev (yL L (au L 6 ⟨#[100,101,102]⟩ s))=some (0,dh L s1 (fZ v)))
  (hn:ev (qF L (au L 7 ⟨#[59]⟩ s1) R0 R1 R2 (R3++[fZ v]) c0 c1 c2 true)=some r):ev (qF L s R0 R1 R2 R3 c0 c1 c2 c3)=some r:=by
 have aD:=fun k'=>aH (P:=PG) (d:=.fail) (k:=k') qf hr (c:=fZ v) rfl (by simp) (by omega) (by decide)
 refine ay.of ?_;simp only[yL,aR,bN,bP,aO] at f1;cases c0<;>cases c1<;>cases c2<;>cases c3
 all_goals
  (first|(obtain rfl:=hz rfl)|skip)
  simp only[qF,aO,List.nil_append] at hn
  (first
   |rw[qF,El]
   |rw[qF,Ej]
   |rw[qF,Ei]
   |rw[qF,Eh]
   |rw[qF,Eg]
   |rw[qF,Ef]
   |rw[qF,Ee]
   |rw[qF,Ed]
   |rw[qF,Ec]
   |rw[qF,Eb]
   |rw[qF,Ea]
   |rw[qF,D9]
   |rw[qF,D8]
   |rw[qF,D7]
   |rw[qF,D6]
   |rw[qF,D5]
   )
  simp[eq_true he];simp[fE,Tk.cells,hk];simp[bG hL,b0,may_f b0,b1,may_f b1,b2,may_f b2,aR,bN,bP];simp[aK hL (k:=6) (by decide),Tk.cells];simp[f1]
  (first|simp[aD]|skip)
  simp[aK hL (k:=7) (by decide),Tk.cells];simp[hn]
theorem NG(s:St)(d:List Dt)(c:List Cl)(i:List It)(b:List Bd)(h:s.e≠0∨(bg L s).kind=0):ev (qP L s d c i b)=some (fP L s d c i b):=ahw hL s _ _ _ _ _ _ _ _ h
theorem ao4(s:St)(d:List Dt)(c:List Cl)(i:List It)(b:List Bd)(hl:d.length≤3000000)(s1:St)(v:Dt)(r:Rs)(he:s.e=0)(hk:(bg L s).kind≠0)(b0:gD L ⟨#[100,97,116,97]⟩ s=true)(f1:ev (qDt L s.up)=some (0,dh L s1 (dtC v)))(hn:ev (qP L (au L 7 ⟨#[59]⟩ s1) (d++[v]) c i b)=some r):ev (qP L s d c i b)=some r:=by
 refine apa hL _ _ _ _ _ _ _ _ ?_ (PW d) (by simpa using hl) s s1 v r he hk b0 f1 ?_
 ·cases d<;>simp
 ·have e:(d++[v]).isEmpty=false:=by cases d<;>rfl
  rw[←alm];simpa[qP,e] using hn
theorem ao3(s:St)(d:List Dt)(c:List Cl)(i:List It)(b:List Bd)(hl:c.length≤3000000)(s1:St)(v:Cl)(r:Rs)(he:s.e=0)(hk:(bg L s).kind≠0)(b0:gD L ⟨#[100,97,116,97]⟩ s=false)(b1:gD L ⟨#[99,108,97,115,115]⟩ s=true)(f1:ev (qCl L s.up)=some (0,dh L s1 (clC v)))(hn:ev (qP L (au L 7 ⟨#[59]⟩ s1) d (c++[v]) i b)=some r):ev (qP L s d c i b)=some r:=by
 refine ao9 hL _ _ _ _ _ _ _ _ ?_ (PX c) (by simpa using hl) s s1 v r he hk b0 b1 f1 ?_
 ·cases c<;>simp
 ·have e:(c++[v]).isEmpty=false:=by cases c<;>rfl
  rw[←aln];simpa[qP,e] using hn
theorem ao2(s:St)(d:List Dt)(c:List Cl)(i:List It)(b:List Bd)(hl:i.length≤3000000)(s1:St)(v:It)(r:Rs)(he:s.e=0)(hk:(bg L s).kind≠0)(b0:gD L ⟨#[100,97,116,97]⟩ s=false)(b1:gD L ⟨#[99,108,97,115,115]⟩ s=false)(b2:gD L ⟨#[105,110,115,116,97,110,99,101]⟩ s=true)(f1:ev (qIt L s.up)=some (0,dh L s1 (Zt v)))(hn:ev (qP L (au L 7 ⟨#[59]⟩ s1) d c (i++[v]) b)=some r):ev (qP L s d c i b)=some r:=by
 refine ao8 hL _ _ _ _ _ _ _ _ ?_ (PU i) (by simpa using hl) s s1 v r he hk b0 b1 b2 f1 ?_
 ·cases i<;>simp
 ·have e:(i++[v]).isEmpty=false:=by cases i<;>rfl
  rw[←alk];simpa[qP,e] using hn
theorem ao1(s:St)(d:List Dt)(c:List Cl)(i:List It)(b:List Bd)(hl:b.length≤3000000)(s1:St)(v:Bd)(r:Rs)(he:s.e=0)(hk:(bg L s).kind≠0)(b0:gD L ⟨#[100,97,116,97]⟩ s=false)(b1:gD L ⟨#[99,108,97,115,115]⟩ s=false)(b2:gD L ⟨#[105,110,115,116,97,110,99,101]⟩ s=false)(f1:ev (yL L (au L 6 ⟨#[100,101,102]⟩ s))=some (0,dh L s1 (fZ v)))(hn:ev (qP L (au L 7 ⟨#[59]⟩ s1) d c i (b++[v]))=some r):ev (qP L s d c i b)=some r:=by
 refine ao7 hL _ _ _ _ _ _ _ _ ?_ (gL b) (by simpa using hl) s s1 v r he hk b0 b1 b2 f1 ?_
 ·cases b<;>simp
 ·have e:(b++[v]).isEmpty=false:=by cases b<;>rfl
  rw[←alo];simpa[qP,e] using hn
end
set_option maxRecDepth 10000
def Pg.Ok(p:Pg):Prop:=(p.datas.length≤bM∧∀x∈p.datas,x.Ok)∧(p.classes.length≤bM∧∀x∈p.classes,x.Ok)∧(p.insts.length≤bM∧∀x∈p.insts,x.Ok)∧(p.binds.length≤bM∧∀x∈p.binds,x.Ok)
structure PgP(n:Nat)(d:List Dt)(c:List Cl)(i:List It)(b:List Bd):Prop where
 od:∀x∈d,x.Ok
 oc:∀x∈c,x.Ok
 oi:∀x∈i,x.Ok
 ob:∀x∈b,x.Ok
 nd:d.length≤n
 nc:c.length≤n
 ni:i.length≤n
 nb:b.length≤n
def kB:Bool→Bool→Bool→Bool→Nat
 |false,false,false,false=>0
 |true,false,false,false=>8
 |false,true,false,false=>4
 |false,false,true,false=>2
 |false,false,false,true=>1
 |true,true,false,false=>12
 |true,false,true,false=>10
 |true,false,false,true=>9
 |false,true,true,false=>6
 |false,true,false,true=>5
 |false,false,true,true=>3
 |true,true,true,false=>14
 |true,true,false,true=>13
 |true,false,true,true=>11
 |false,true,true,true=>7
 |true,true,true,true=>15
section
variable{L:List Tk}(hL:L.length≤1000000)
include hL
theorem acD:∀(m:Nat) (s:St) (d:List Dt) (c:List Cl) (i:List It) (b:List Bd),mu L s≤m→s.a≤L.length→d.length+m≤2000000→c.length+m≤2000000→i.length+m≤2000000→b.length+m≤2000000→
  ∃(s':St) (d':List Dt) (c':List Cl) (i':List It) (b':List Bd),ev (qP L s d c i b)=some (fP L s' (d++d') (c++c') (i++i') (b++b'))∧PgP (mu L s) d' c' i' b'∧Gr (fun m=>eU L m ⟨⟨d,c,i⟩,b⟩) s s' ⟨⟨d++d',c++c',i++i'⟩,b++b'⟩:=by
 intro m
 induction m with
 |zero=>
  intro s d c i b hm hs _ _ _ _;have he:s.e≠0:=fun he=>by have:=aW (L:=L) he;omega
  exact⟨s,[],[],[],[],by simpa using NG hL s d c i b (.inl he),⟨by simp,by simp,by simp,by simp,by simp,by simp,by simp,by simp⟩,.fault he rfl rfl⟩
 |succ m ih=>
  intro s d c i b hm hs h1 h2 h3 h4;by_cases he:s.e=0
  ·by_cases hk:(bg L s).kind=0
   ·exact⟨s,[],[],[],[],by simpa using NG hL s d c i b (.inr hk),⟨by simp,by simp,by simp,by simp,by simp,by simp,by simp,by simp⟩,(Gr.fx (eU.eq_2 L _) (.kind_t hk .pure)).eq (by simp)⟩
   ·have hp:=aW (L:=L) he
    cases hb0:gD L ⟨#[100,97,116,97]⟩ s with
    |true=>
     obtain⟨b1,b2⟩:=bS hb0;obtain⟨v,s1,f1,f2,f3,f4,q1⟩:=afa hL (mu L s) s.up b2 (by omega);have t1:=aQ (L:=L) (k:=7) (x:=⟨#[59]⟩) (by decide) s1;have t2:=aV (L:=L) (k:=7) (x:=⟨#[59]⟩) (by decide) f2;obtain⟨s',d',c',i',b',g1,g,q2⟩:=ih (au L 7 ⟨#[59]⟩ s1) (d++[v]) c i b (by omega) t2 (by simp;omega) (by omega) (by omega) (by omega);have g0:=ao4 hL s d c i b (by omega) s1 v _ he hk hb0 f1 g1;rw[List.append_assoc] at g0;rw[List.append_assoc] at q2;exact⟨s',v::d',c',i',b',g0,⟨Vy f4 g.od,g.oc,g.oi,g.ob,by have:=g.nd;simp;omega,by have:=g.nc;omega,by have:=g.ni;omega,by have:=g.nb;omega⟩,.fx (eU.eq_2 L _) (.kind_f hk (.may_t hb0 (.bind q1 (.bind (.take _ _ _) q2))))⟩
    |false=>
     cases hb1:gD L ⟨#[99,108,97,115,115]⟩ s with
     |true=>
      obtain⟨b1,b2⟩:=bS hb1;obtain⟨v,s1,f1,f2,f3,f4,q1⟩:=aaZ hL (mu L s) s.up b2 (by omega);have t1:=aQ (L:=L) (k:=7) (x:=⟨#[59]⟩) (by decide) s1;have t2:=aV (L:=L) (k:=7) (x:=⟨#[59]⟩) (by decide) f2;obtain⟨s',d',c',i',b',g1,g,q2⟩:=ih (au L 7 ⟨#[59]⟩ s1) d (c++[v]) i b (by omega) t2 (by omega) (by simp;omega) (by omega) (by omega);have g0:=ao3 hL s d c i b (by omega) s1 v _ he hk hb0 hb1 f1 g1;rw[List.append_assoc] at g0;rw[List.append_assoc] at q2;exact⟨s',d',v::c',i',b',g0,⟨g.od,Vy f4 g.oc,g.oi,g.ob,by have:=g.nd;omega,by have:=g.nc;simp;omega,by have:=g.ni;omega,by have:=g.nb;omega⟩,.fx (eU.eq_2 L _) (.kind_f hk (.may_f hb0 (.may_t hb1 (.bind q1 (.bind (.take _ _ _) q2)))))⟩
     |false=>
      cases hb2:gD L ⟨#[105,110,115,116,97,110,99,101]⟩ s with
      |true=>
       obtain⟨b1,b2⟩:=bS hb2;obtain⟨v,s1,f1,f2,f3,f4,q1⟩:=adC hL (mu L s) s.up b2 (by omega);have t1:=aQ (L:=L) (k:=7) (x:=⟨#[59]⟩) (by decide) s1;have t2:=aV (L:=L) (k:=7) (x:=⟨#[59]⟩) (by decide) f2;obtain⟨s',d',c',i',b',g1,g,q2⟩:=ih (au L 7 ⟨#[59]⟩ s1) d c (i++[v]) b (by omega) t2 (by omega) (by omega) (by simp;omega) (by omega);have g0:=ao2 hL s d c i b (by omega) s1 v _ he hk hb0 hb1 hb2 f1 g1;rw[List.append_assoc] at g0;rw[List.append_assoc] at q2;exact⟨s',d',c',v::i',b',g0,⟨g.od,g.oc,Vy f4 g.oi,g.ob,by have:=g.nd;omega,by have:=g.nc;omega,by have:=g.ni;simp;omega,by have:=g.nb;omega⟩,.fx (eU.eq_2 L _) (.kind_f hk (.may_f hb0 (.may_f hb1 (.may_t hb2 (.bind q1 (.bind (.take _ _ _) q2))))))⟩
      |false=>
       have q1':=aQ (L:=L) (k:=6) (x:=⟨#[100,101,102]⟩) (by decide) s;have q2':=aV (L:=L) (k:=6) (x:=⟨#[100,101,102]⟩) (by decide) hs;obtain⟨v,s1,f1,f2,f3,f4,q1⟩:=qz hL (mu L s) (au L 6 ⟨#[100,101,102]⟩ s) q2' (by omega);have t1:=aQ (L:=L) (k:=7) (x:=⟨#[59]⟩) (by decide) s1;have t2:=aV (L:=L) (k:=7) (x:=⟨#[59]⟩) (by decide) f2;obtain⟨s',d',c',i',b',g1,g,q2⟩:=ih (au L 7 ⟨#[59]⟩ s1) d c i (b++[v]) (by omega) t2 (by omega) (by omega) (by omega) (by simp;omega);have g0:=ao1 hL s d c i b (by omega) s1 v _ he hk hb0 hb1 hb2 f1 g1;rw[List.append_assoc] at g0;rw[List.append_assoc] at q2;exact⟨s',d',c',i',v::b',g0,⟨g.od,g.oc,g.oi,Vy f4 g.ob,by have:=g.nd;omega,by have:=g.nc;omega,by have:=g.ni;omega,by have:=g.nb;simp;omega⟩,.fx (eU.eq_2 L _) (.kind_f hk (.may_f hb0 (.may_f hb1 (.may_f hb2 (.bind (.take _ _ _) (.bind q1 (.bind (.take _ _ _) q2)))))))⟩
  ·exact⟨s,[],[],[],[],by simpa using NG hL s d c i b (.inl he),⟨by simp,by simp,by simp,by simp,by simp,by simp,by simp,by simp⟩,.fault he rfl rfl⟩
def RPr(b:ByteArray)(r:Rz Pg):Prop:=match r with
 |.out=>False
 |.ok v _=>ev (UL (sv b))=some (0,[jq v.datas,cls v.classes,its v.insts,aZ v.binds,iv 0,iv 0])∧v.Ok
 |.err e w=>e≠0∧ev (UL (sv b))=some (0,[.rows [],.rows [],.rows [],.rows [],iv e,iv w])
theorem Yr(b:ByteArray)(s:St)(hs:s.a≤L.length)(hz:s.e=0→s.lv=0∧s.a=0)(hb:ev (q22 (sv b))=some (0,dh L s [])):(s.e=0→∃m0,∀m,m0≤m→RPr b (eU L m ⟨⟨[],[],[]⟩,[]⟩ 0 0))∧(s.e≠0→RPr b (.err s.e s.w)):=by
 have hml:=iV L s;obtain⟨s',d,c,i,bs,g1,g,q1⟩:=acD hL (mu L s) s [] [] [] [] (Nat.le_refl _) hs (by simp;omega) (by simp;omega) (by simp;omega) (by simp;omega);simp only[List.nil_append] at g1 q1;have hq:∃(k:Nat) (x0 x1 x2 x3:PV),ev (q11 (sv b))=some (if s'.e=0 then(k,[x0,x1,x2,x3,iv 0,iv 0]) else(0,[aj,aj,aj,aj,iv s'.e,iv s'.w]))∧ES x0=jq d∧ES x1=cls c∧ES x2=its i∧ES x3=aZ bs:=by
  refine⟨kB (!d.isEmpty) (!c.isEmpty) (!i.isEmpty) (!bs.isEmpty),wC (!d.isEmpty) (jq d),wC (!c.isEmpty) (cls c),wC (!i.isEmpty) (its i),wC (!bs.isEmpty) (aZ bs),ay.of ?_,?_,?_,?_,?_⟩
  ·rw[h11]
   simp[hb];simp only[qP,fP,List.map_nil,List.isEmpty_nil,Bool.not_true] at g1;generalize (!d.isEmpty)=c0 at *;generalize (!c.isEmpty)=c1 at *;generalize (!i.isEmpty)=c2 at *;generalize (!bs.isEmpty)=c3 at *;cases c0<;>cases c1<;>cases c2<;>cases c3
   all_goals
    simp only[kF,kB,wC] at g1 ⊢;simp only[qF] at g1;simp[g1];by_cases he:s'.e=0
    ·simp[he]
    ·simp[he]
  ·cases d<;>rfl
  ·cases c<;>rfl
  ·cases i<;>rfl
  ·cases bs<;>rfl
 obtain⟨k,x0,x1,x2,x3,hq,e0,e1,e2,e3⟩:=hq;have hw:ev (UL (sv b))=some (0,if s'.e=0 then [jq d,cls c,its i,aZ bs,iv 0,iv 0] else [.rows [],.rows [],.rows [],.rows [],iv s'.e,iv s'.w]):=ay.of (by
  rw[aqY ev,hq];by_cases he:s'.e=0
  ·simp[he,gX,e0,e1,e2,e3]
  ·simp[he,gX])
 obtain⟨m0,hm0⟩:=q1;refine⟨fun he=>⟨m0,fun m hm=>?_⟩,fun he=>?_⟩
 ·obtain⟨z1,z2⟩:=hz he
  have h:=(hm0 m hm).2 he (by omega) (by omega);rw[z1,z2] at h;dsimp only at h;cases hr:eU L m ⟨⟨[],[],[]⟩,[]⟩ 0 0 with
  |out=>rw[hr] at h;exact h
  |err e w=>
   rw[hr] at h;obtain⟨h1,rfl,rfl⟩:=h;exact⟨h1,by rw[hw,if_neg h1]⟩
  |ok v a=>
   rw[hr] at h;obtain⟨rfl,hf⟩:=h;refine⟨by rw[hw,if_pos hf.e],?_⟩;have:=g.nd;have:=g.nc;have:=g.ni;have:=g.nb;exact⟨⟨by unfold bM;simp only;omega,g.od⟩,⟨by unfold bM;simp only;omega,g.oc⟩,⟨by unfold bM;simp only;omega,g.oi⟩,by unfold bM;simp only;omega,g.ob⟩
 ·obtain⟨h1,h2⟩:=(hm0 m0 (Nat.le_refl _)).1 he
  exact⟨he,by rw[hw,if_neg (by rw[h1];exact he),h1,h2]⟩
end
theorem uS:PG.underlying 9=some .string:=by kernel_rfl
theorem u8:PG.underlying 5=some (.int .u8):=by kernel_rfl
theorem uI:PG.underlying 3=some (.int .i64):=by kernel_rfl
theorem uL:PG.underlying 2=some (.int .i64):=by kernel_rfl
theorem uU:PG.underlying 183=some (.int .u64):=by kernel_rfl
theorem uB:PG.underlying 180=some (.slice 5):=by kernel_rfl
section
variable{β:Type}{d:β}{k:AV→β}
@[simp] theorem auC(s:ByteArray):gG PG d 9 (.pv (sv s)) k=k (.pv (iv s.size)):=Zc uS s
theorem nX{s:ByteArray}{i:Nat}(hi:i<s.size):L6 PG d 9 (.pv (sv s)) (.pv (iv i)) k=k (.pv (cv (byt s i))):=Zx uS hi
theorem ab6{s:ByteArray}{l m:Nat}(hl:l≤m)(hm:m≤s.size):Fe PG d 9 (.pv (sv s)) (some (.pv (iv l))) (some (.pv (iv m))) k=k (.pv (sv (s.extract l m))):=V8 uS hl hm
@[simp] theorem arp(n:Int):rZ PG d 5 3 (.pv (cv n)) k=k (.pv (iv (IntKind.i64.wrap n))):=uW u8 uI n
@[simp] theorem aro(n:Int):rZ PG d 5 183 (.pv (cv n)) k=k (.pv (wv (IntKind.u64.wrap n))):=uW u8 uU n
@[simp] theorem arl(n:Int):rZ PG d 183 2 (.pv (wv n)) k=k (.pv (iv (IntKind.i64.wrap n))):=uW uU uL n
@[simp] theorem arn(n:Int):rZ PG d 2 183 (.pv (iv n)) k=k (.pv (wv (IntKind.u64.wrap n))):=uW uL uU n
end
theorem u6{i j:Nat}(hj:j=i+1)(h:i≤1000000000):IntKind.i64.wrap ((i:Int)+1)=(j:Int):=by rw[aP (by omega)];omega
theorem abQ{i j k:Nat}(hj:j=i+k)(h:i+k≤1000000000):IntKind.i64.wrap ((i:Int)+(k:Int))=(j:Int):=by rw[aP (by omega)];omega
end Go.Proofs.YtijcobeebaceoaaGreatDoor
namespace Go.Proofs.YtijcobeebaceoaaGreatDoor
open Go.RowKit
def vg(l:List Int):List (List PV):=l.map fun n=>[cv n]
theorem aoF:ja PG 180 1 1:=ja.of (by kernel_rfl)
theorem aho(l:List Int):Raw 1 (vg l) (vg l):=.of l (fun x=>by simp) (fun x=>rfl) (fun x=>by simp)
theorem afq(l:List Int)(n:Int)(k:PV→aM)(hl:l.length≤3000000):iO PG .fail 180 (.pv (.rows (vg l))) (.pv (.rows [[cv n]])) k=k (.rows (vg (l++[n]))):=by
 rw[aH (P:=PG) (d:=.fail) aoF (aho l) (c:=[cv n]) rfl (by simp) (by simp[vg];omega) (by decide)];simp[vg]
theorem aiY(l:List Int)(k:AV→aM):rZ PG .fail 180 9 (.pv (.rows (vg l))) k=k (.pv (sv (Ku l))):=Mx uB u8 uS l
theorem Ig{q q':Q}(h:body PG EE TT ev q=iA (ev q')){r:Rs}(hr:ev q'=some r):ev q=some r:=ay.of (by rw[h,hr];rfl)
theorem afF(n:Int)(k:AV→aM):jM PG .fail .rem 183 (.pv (wv n)) (.pv (wv 9223372036854775808)) k=k (.pv (wv (n.tmod 9223372036854775808))):=JI (by decide)
abbrev D(b:ByteArray)(i:Nat):List UInt8:=b.data.toList.drop i
theorem dz{b:ByteArray}{i:Nat}(h:i<b.size):D b i=b[i]::D b (i+1):=Lx.drop_at b i h
theorem pF{b:ByteArray}{i:Nat}(h:b.size≤i):D b i=[]:=List.drop_eq_nil_of_le (by simpa using h)
theorem nu(b:ByteArray)(i:Nat):(D b i).length=b.size-i:=by rw[List.length_drop];rfl
theorem iL{b:ByteArray}{i:Nat}(h:i<b.size):byt b i=(b[i].toNat:Int):=by
 unfold byt;rw[List.getD_eq_getElem?_getD,Array.getElem?_toList,Array.getElem?_eq_getElem (by simpa using h)];rfl
theorem afi(c:UInt8):ev (akZ (cv (c.toNat:Int)))=some (0,[bv (Lx.blankB c)]):=ay.of (by
 rw[aq1];by_cases h0:(c.toNat:Int)=32
 ·by_cases h1:(c.toNat:Int)=9
  ·by_cases h2:(c.toNat:Int)=10
   ·by_cases h3:(c.toNat:Int)=13
    ·cases hb:Lx.blankB c<;>(unfold Lx.blankB at hb;simp at hb;first|(exfalso;omega)|(simp[h0,h1,h2,h3]))
    ·cases hb:Lx.blankB c<;>(unfold Lx.blankB at hb;simp at hb;first|(exfalso;omega)|(simp[h0,h1,h2,h3]))
   ·by_cases h3:(c.toNat:Int)=13
    ·cases hb:Lx.blankB c<;>(unfold Lx.blankB at hb;simp at hb;first|(exfalso;omega)|(simp[h0,h1,h2,h3]))
    ·cases hb:Lx.blankB c<;>(unfold Lx.blankB at hb;simp at hb;first|(exfalso;omega)|(simp[h0,h1,h2,h3]))
  ·by_cases h2:(c.toNat:Int)=10
   ·by_cases h3:(c.toNat:Int)=13
    ·cases hb:Lx.blankB c<;>(unfold Lx.blankB at hb;simp at hb;first|(exfalso;omega)|(simp[h0,h1,h2,h3]))
    ·cases hb:Lx.blankB c<;>(unfold Lx.blankB at hb;simp at hb;first|(exfalso;omega)|(simp[h0,h1,h2,h3]))
   ·by_cases h3:(c.toNat:Int)=13
    ·cases hb:Lx.blankB c<;>(unfold Lx.blankB at hb;simp at hb;first|(exfalso;omega)|(simp[h0,h1,h2,h3]))
    ·cases hb:Lx.blankB c<;>(unfold Lx.blankB at hb;simp at hb;first|(exfalso;omega)|(simp[h0,h1,h2,h3]))
 ·by_cases h1:(c.toNat:Int)=9
  ·by_cases h2:(c.toNat:Int)=10
   ·by_cases h3:(c.toNat:Int)=13
    ·cases hb:Lx.blankB c<;>(unfold Lx.blankB at hb;simp at hb;first|(exfalso;omega)|(simp[h0,h1,h2,h3]))
    ·cases hb:Lx.blankB c<;>(unfold Lx.blankB at hb;simp at hb;first|(exfalso;omega)|(simp[h0,h1,h2,h3]))
   ·by_cases h3:(c.toNat:Int)=13
    ·cases hb:Lx.blankB c<;>(unfold Lx.blankB at hb;simp at hb;first|(exfalso;omega)|(simp[h0,h1,h2,h3]))
    ·cases hb:Lx.blankB c<;>(unfold Lx.blankB at hb;simp at hb;first|(exfalso;omega)|(simp[h0,h1,h2,h3]))
  ·by_cases h2:(c.toNat:Int)=10
   ·by_cases h3:(c.toNat:Int)=13
    ·cases hb:Lx.blankB c<;>(unfold Lx.blankB at hb;simp at hb;first|(exfalso;omega)|(simp[h0,h1,h2,h3]))
    ·cases hb:Lx.blankB c<;>(unfold Lx.blankB at hb;simp at hb;first|(exfalso;omega)|(simp[h0,h1,h2,h3]))
   ·by_cases h3:(c.toNat:Int)=13
    ·cases hb:Lx.blankB c<;>(unfold Lx.blankB at hb;simp at hb;first|(exfalso;omega)|(simp[h0,h1,h2,h3]))
    ·cases hb:Lx.blankB c<;>(unfold Lx.blankB at hb;simp at hb;first|(exfalso;omega)|(simp[h0,h1,h2,h3])))
theorem mh(c:UInt8):ev (akX (cv (c.toNat:Int)))=some (0,[bv (Lx.digitB c)]):=ay.of (by
 rw[aq0];by_cases h0:(48:Int)≤c.toNat
 ·by_cases h1:(c.toNat:Int)≤57
  ·cases hb:Lx.digitB c<;>(unfold Lx.digitB at hb;simp at hb;first|(exfalso;omega)|(simp[h0,h1]))
  ·cases hb:Lx.digitB c<;>(unfold Lx.digitB at hb;simp at hb;first|(exfalso;omega)|(simp[h0,h1]))
 ·by_cases h1:(c.toNat:Int)≤57
  ·cases hb:Lx.digitB c<;>(unfold Lx.digitB at hb;simp at hb;first|(exfalso;omega)|(simp[h0,h1]))
  ·cases hb:Lx.digitB c<;>(unfold Lx.digitB at hb;simp at hb;first|(exfalso;omega)|(simp[h0,h1])))
theorem oF(c:UInt8):ev (akW (cv (c.toNat:Int)))=some (0,[bv (Lx.lowB c)]):=ay.of (by
 rw[aqZ];by_cases h0:(97:Int)≤c.toNat
 ·by_cases h1:(c.toNat:Int)≤122
  ·by_cases h2:(c.toNat:Int)=95
   ·cases hb:Lx.lowB c<;>(unfold Lx.lowB at hb;simp at hb;first|(exfalso;omega)|(simp[h0,h1,h2]))
   ·cases hb:Lx.lowB c<;>(unfold Lx.lowB at hb;simp at hb;first|(exfalso;omega)|(simp[h0,h1,h2]))
  ·by_cases h2:(c.toNat:Int)=95
   ·cases hb:Lx.lowB c<;>(unfold Lx.lowB at hb;simp at hb;first|(exfalso;omega)|(simp[h0,h1,h2]))
   ·cases hb:Lx.lowB c<;>(unfold Lx.lowB at hb;simp at hb;first|(exfalso;omega)|(simp[h0,h1,h2]))
 ·by_cases h1:(c.toNat:Int)≤122
  ·by_cases h2:(c.toNat:Int)=95
   ·cases hb:Lx.lowB c<;>(unfold Lx.lowB at hb;simp at hb;first|(exfalso;omega)|(simp[h0,h1,h2]))
   ·cases hb:Lx.lowB c<;>(unfold Lx.lowB at hb;simp at hb;first|(exfalso;omega)|(simp[h0,h1,h2]))
  ·by_cases h2:(c.toNat:Int)=95
   ·cases hb:Lx.lowB c<;>(unfold Lx.lowB at hb;simp at hb;first|(exfalso;omega)|(simp[h0,h1,h2]))
   ·cases hb:Lx.lowB c<;>(unfold Lx.lowB at hb;simp at hb;first|(exfalso;omega)|(simp[h0,h1,h2])))
theorem o5(c:UInt8):ev (akV (cv (c.toNat:Int)))=some (0,[bv (Lx.upB c)]):=ay.of (by
 rw[h119];by_cases h0:(65:Int)≤c.toNat
 ·by_cases h1:(c.toNat:Int)≤90
  ·cases hb:Lx.upB c<;>(unfold Lx.upB at hb;simp at hb;first|(exfalso;omega)|(simp[h0,h1]))
  ·cases hb:Lx.upB c<;>(unfold Lx.upB at hb;simp at hb;first|(exfalso;omega)|(simp[h0,h1]))
 ·by_cases h1:(c.toNat:Int)≤90
  ·cases hb:Lx.upB c<;>(unfold Lx.upB at hb;simp at hb;first|(exfalso;omega)|(simp[h0,h1]))
  ·cases hb:Lx.upB c<;>(unfold Lx.upB at hb;simp at hb;first|(exfalso;omega)|(simp[h0,h1])))
theorem aid(c:UInt8):ev (akK (cv (c.toNat:Int)))=some (0,[bv (Lx.insideB c)]):=ay.of (by
 rw[aqS];unfold Lx.insideB;cases h1:Lx.lowB c
 ·cases h2:Lx.upB c
  ·cases h3:Lx.digitB c
   ·by_cases h4:(c.toNat:Int)=39
    ·have h5:c.toNat=39:=by omega
     simp[oF,o5,mh,h1,h2,h3,show decide ((c.toNat:Int)=39)=true from decide_eq_true h4,show decide (c.toNat=39)=true from decide_eq_true h5,-decide_eq_true_eq]
    ·have h5:¬c.toNat=39:=by omega
     simp[oF,o5,mh,h1,h2,h3,h4,h5]
   ·simp[oF,o5,mh,h1,h2,h3]
  ·simp[oF,o5,mh,h1,h2]
 ·simp[oF,o5,mh,h1])
theorem alA(t:ByteArray)(c:UInt8)(ht:t.size≤1000000):∀(m i:Nat),t.size-i≤m→ev (H7 (iv i) (sv t) (cv (c.toNat:Int)))=some (if(D t i).contains c then(0,[bv true]) else(1,[])):=by
 intro m
 induction m with
 |zero=>
  intro i hi;rw[pF (by omega)];exact ay.of (by rw[BK];simp[show ¬(i:Int)<(t.size:Int) by omega])
 |succ m ih=>
  intro i hi;by_cases h1:i<t.size
  ·have h1':(i:Int)<(t.size:Int):=by omega
   have hx:=fun(k:AV→aM)=>nX (d:=aM.fail) (k:=k) h1
   obtain⟨j,hj⟩:∃j,j=i+1:=⟨_,rfl⟩;have e1:=u6 hj (by omega);have hc:=ih j (by omega);rw[dz h1,←hj,List.contains_cons];rw[iL h1] at hx;by_cases h2:t[i]=c
   ·have h3:(c==t[i])=true:=by rw[h2];exact beq_self_eq_true c
    rw[h3,Bool.true_or];exact ay.of (by rw[BK];simp[h1',hx,h2])
   ·have h3:(c==t[i])=false:=by rw[beq_eq_false_iff_ne];exact fun e=>h2 e.symm
    have h4:¬(t[i].toNat:Int)=(c.toNat:Int):=by
     intro e;apply h2;apply UInt8.toNat_inj.1;omega
    rw[h3,Bool.false_or];exact ay.of (by rw[BK];simp[h1',hx,h4,e1,hc])
  ·rw[pF (by omega)]
   exact ay.of (by rw[BK];simp[show ¬(i:Int)<(t.size:Int) by omega])
theorem aio(t:ByteArray)(c:UInt8)(ht:t.size≤1000000):ev (akL (sv t) (cv (c.toNat:Int)))=some (0,[bv (t.data.toList.contains c)]):=ay.of (by
 have hc:ev (H7 (iv 0) (sv t) (cv (c.toNat:Int)))=_:=alA t c ht t.size 0 (by omega);rw[show D t 0=t.data.toList from rfl] at hc;rw[aqT];cases hb:t.data.toList.contains c<;>(rw[hb] at hc;simp[hc]))
theorem Gx(c:UInt8):ev (akT (cv (c.toNat:Int)))=some (0,[bv (Lx.symB c)]):=ay.of (by
 have f:=aio ⟨#[33,36,37,38,42,43,46,47,60,61,62,63,64,94,124,126,58,45]⟩ c (by decide);have e:(⟨#[33,36,37,38,42,43,46,47,60,61,62,63,64,94,124,126,58,45]⟩:ByteArray).data.toList.contains c=Lx.symB c:=rfl;rw[e] at f;rw[aqX];cases hb:Lx.symB c<;>(rw[hb] at f;simp[f]))
theorem abx(x:ByteArray)(l:List ByteArray)(hl:l.length≤1000000):∀(m i:Nat),l.length-i≤m→ev (H6 (iv i) (strs l) (sv x))=some (if(l.drop i).any (fun y=>decide (y=x)) then(0,[bv true]) else(1,[])):=by
 intro m
 induction m with
 |zero=>
  intro i hi;rw[List.drop_eq_nil_of_le (by omega)];exact ay.of (by rw[BJ];simp[show ¬(i:Int)<(l.length:Int) by omega])
 |succ m ih=>
  intro i hi;by_cases h1:i<l.length
  ·have h1':(i:Int)<(l.length:Int):=by omega
   have hx:=fun(k:AV→aM)=>dx (d:=aM.fail) (k:=k) (List.getElem?_eq_getElem h1)
   obtain⟨j,hj⟩:∃j,j=i+1:=⟨_,rfl⟩;have e1:=u6 hj (by omega);have hc:=ih j (by omega);rw[List.drop_eq_getElem_cons h1,←hj,List.any_cons];by_cases h2:l[i]=x
   ·simp only[h2,decide_true,Bool.true_or]
    exact ay.of (by rw[BJ];simp[h1',hx,h2])
   ·simp only[h2,decide_false,Bool.false_or]
    exact ay.of (by rw[BJ];simp[h1',hx,h2,e1,hc])
  ·rw[List.drop_eq_nil_of_le (by omega)]
   exact ay.of (by rw[BJ];simp[show ¬(i:Int)<(l.length:Int) by omega])
theorem Ud(x:ByteArray)(l:List ByteArray)(hl:l.length≤1000000):ev (akJ (sv x) (strs l))=some (0,[bv (l.any (fun y=>decide (y=x)))]):=ay.of (by
 have hc:ev (H6 (iv 0) (strs l) (sv x))=_:=abx x l hl l.length 0 (by omega);rw[List.drop_zero] at hc;rw[aqR];cases hb:l.any (fun y=>decide (y=x))<;>(rw[hb] at hc;simp[hc]))
theorem abH(x:ByteArray):([⟨#[40]⟩,⟨#[41]⟩,⟨#[44]⟩,⟨#[59]⟩,⟨#[92]⟩,⟨#[95]⟩,⟨#[61]⟩,⟨#[45,62]⟩,⟨#[124]⟩,⟨#[58]⟩]:List ByteArray).any (fun y=>decide (y=x))=Lx.markB x:=by
 unfold Lx.markB Lx.markList;rw[List.contains_eq_any_beq];simp only[List.any_cons,List.any_nil];have e:∀(l:List UInt8),decide ((⟨l.toArray⟩:ByteArray)=x)=(x.toList==l):=by
  intro l;rw[Bool.eq_iff_iff,decide_eq_true_eq,beq_iff_eq];constructor
  ·rintro rfl;exact Lx.textOf_toList l
  ·intro h
   have:=Lx.text_eq (s:=x) (x:=l) (by rw[←h];exact(ByteArray.toList_eq x).symm);exact this.symm
 simp only[←e]
theorem Pm(x:ByteArray):ev (akS (sv x))=some (0,[bv (Lx.markB x)]):=ay.of (by
 have f:=Ud x [⟨#[40]⟩,⟨#[41]⟩,⟨#[44]⟩,⟨#[59]⟩,⟨#[92]⟩,⟨#[95]⟩,⟨#[61]⟩,⟨#[45,62]⟩,⟨#[124]⟩,⟨#[58]⟩] (by decide);rw[abH] at f;simp only[strs,List.map_cons,List.map_nil] at f;rw[aqW];cases hb:Lx.markB x<;>(rw[hb] at f;simp[f]))
theorem afx(x:ByteArray):([⟨#[100,97,116,97]⟩,⟨#[99,108,97,115,115]⟩,⟨#[105,110,115,116,97,110,99,101]⟩,⟨#[102,114,111,109]⟩,⟨#[119,104,101,114,101]⟩,⟨#[101,110,100]⟩,⟨#[100,101,114,105,118,105,110,103]⟩,⟨#[100,101,102]⟩,⟨#[108,101,116]⟩,⟨#[114,101,99]⟩,⟨#[97,110,100]⟩,⟨#[105,110]⟩,⟨#[99,97,115,101]⟩,⟨#[111,102]⟩,⟨#[105,102]⟩,⟨#[116,104,101,110]⟩,⟨#[101,108,115,101]⟩]:List ByteArray).any (fun y=>decide (y=x))=Lx.keyB x:=by
 unfold Lx.keyB Lx.keyList;rw[List.contains_eq_any_beq];simp only[List.any_cons,List.any_nil];have e:∀(l:List UInt8),decide ((⟨l.toArray⟩:ByteArray)=x)=(x.toList==l):=by
  intro l;rw[Bool.eq_iff_iff,decide_eq_true_eq,beq_iff_eq];constructor
  ·rintro rfl;exact Lx.textOf_toList l
  ·intro h
   have:=Lx.text_eq (s:=x) (x:=l) (by rw[←h];exact(ByteArray.toList_eq x).symm);exact this.symm
 simp only[←e]
theorem abI(x:ByteArray):ev (akR (sv x))=some (0,[bv (Lx.keyB x)]):=ay.of (by
 have f:=Ud x [⟨#[100,97,116,97]⟩,⟨#[99,108,97,115,115]⟩,⟨#[105,110,115,116,97,110,99,101]⟩,⟨#[102,114,111,109]⟩,⟨#[119,104,101,114,101]⟩,⟨#[101,110,100]⟩,⟨#[100,101,114,105,118,105,110,103]⟩,⟨#[100,101,102]⟩,⟨#[108,101,116]⟩,⟨#[114,101,99]⟩,⟨#[97,110,100]⟩,⟨#[105,110]⟩,⟨#[99,97,115,101]⟩,⟨#[111,102]⟩,⟨#[105,102]⟩,⟨#[116,104,101,110]⟩,⟨#[101,108,115,101]⟩] (by decide);rw[afx] at f;simp only[strs,List.map_cons,List.map_nil] at f;rw[h122];cases hb:Lx.keyB x<;>(rw[hb] at f;simp[f]))
theorem uZ{p:UInt8→Bool}{b:ByteArray}{i:Nat}(h:i<b.size)(hp:p b[i]=true):Lx.adv p b i=Lx.adv p b (i+1):=by
 unfold Lx.adv;rw[show b.data.toList.drop i=b[i]::b.data.toList.drop (i+1) from dz h,List.takeWhile_cons_of_pos hp,List.length_cons];omega
theorem JZ{p:UInt8→Bool}{b:ByteArray}{i:Nat}(h:i<b.size)(hp:p b[i]=false):Lx.adv p b i=i:=by
 unfold Lx.adv;rw[show b.data.toList.drop i=b[i]::b.data.toList.drop (i+1) from dz h,List.takeWhile_cons_of_neg (by simp[hp])];rfl
theorem pE{p:UInt8→Bool}{b:ByteArray}{i:Nat}(h:b.size≤i):Lx.adv p b i=i:=by
 unfold Lx.adv;rw[show b.data.toList.drop i=[] from pF h];rfl
theorem R7(b:ByteArray)(hb:b.size≤1000000):∀(m i:Nat),b.size-i≤m→ev (NI (iv i) (sv b))=some (0,[iv (Lx.adv Lx.lineB b i:Nat),sv b]):=by
 intro m
 induction m with
 |zero=>exact fun i hi=>by rw[pE (by omega)];exact ay.of (by rw[I5];simp[show ¬(i:Int)<(b.size:Int) by omega])
 |succ m ih=>
  intro i hi;by_cases h1:i<b.size
  ·have h1':(i:Int)<(b.size:Int):=by omega
   have hx:=fun(k:AV→aM)=>nX (d:=aM.fail) (k:=k) h1
   rw[iL h1] at hx;obtain⟨j,hj⟩:∃j,j=i+1:=⟨_,rfl⟩;have e1:=u6 hj (by omega);by_cases h2:b[i].toNat=10
   ·rw[JZ h1 (by simp[Lx.lineB,h2])]
    have h3:(b[i].toNat:Int)=10:=by omega
    rw[h3] at hx;exact ay.of (by rw[I5];simp[h1',hx])
   ·rw[uZ h1 (by simp[Lx.lineB,h2]),←hj]
    have h3:¬(b[i].toNat:Int)=10:=by omega
    have g:=ih j (by omega);exact ay.of (by rw[I5];simp[h1',hx,h3,e1,g])
  ·rw[pE (by omega)]
   exact ay.of (by rw[I5];simp[show ¬(i:Int)<(b.size:Int) by omega])
theorem Nv{b:ByteArray}{i:Nat}(h:i<b.size)(hc:Lx.blankB b[i]=true):Lx.skipPos b i=Lx.skipPos b (i+1):=by
 unfold Lx.skipPos;rw[show b.data.toList.drop i=b[i]::b.data.toList.drop (i+1) from dz h];simp[Lx.skipC,hc]
theorem Ws{b:ByteArray}{i:Nat}(h:i<b.size)(hc:Lx.blankB b[i]=false)(h2:b[i].toNat=35):Lx.skipPos b i=Lx.skipPos b (Lx.adv Lx.lineB b (i+1)):=by
 unfold Lx.skipPos;rw[Lx.adv_drop,←Lx.skipC_line,show b.data.toList.drop i=b[i]::b.data.toList.drop (i+1) from dz h];simp[Lx.skipC,hc,h2]
theorem Wt{b:ByteArray}{i:Nat}(h:i<b.size)(hc:Lx.blankB b[i]=false)(h2:¬b[i].toNat=35):Lx.skipPos b i=i:=by
 unfold Lx.skipPos;rw[show b.data.toList.drop i=b[i]::b.data.toList.drop (i+1) from dz h];have hl:=nu b (i+1);simp[Lx.skipC,hc,h2];omega
theorem KD{b:ByteArray}{i:Nat}(h:b.size≤i):Lx.skipPos b i=b.size:=by
 unfold Lx.skipPos;rw[show b.data.toList.drop i=[] from pF h];simp[Lx.skipC]
theorem ac1(b:ByteArray)(hb:b.size≤1000000):∀(m i:Nat),b.size-i≤m→i≤b.size→ev (Xn (iv i) (sv b))=some (0,[iv (Lx.skipPos b i:Nat)]):=by
 intro m
 induction m with
 |zero=>exact fun i hi hl=>by rw[KD (by omega),show b.size=i by omega];exact ay.of (by rw[DX];simp[show ¬(i:Int)<(b.size:Int) by omega])
 |succ m ih=>
  intro i hi hl;by_cases h1:i<b.size
  ·have h1':(i:Int)<(b.size:Int):=by omega
   have hx:=fun(k:AV→aM)=>nX (d:=aM.fail) (k:=k) h1
   rw[iL h1] at hx;have hb0:=afi b[i];obtain⟨j,hj⟩:∃j,j=i+1:=⟨_,rfl⟩;have e1:=u6 hj (by omega);cases hc:Lx.blankB b[i] with
   |true=>
    rw[hc] at hb0;have h2:¬(b[i].toNat:Int)=35:=by
     intro e;unfold Lx.blankB at hc;rw[decide_eq_true_eq] at hc;omega
    rw[Nv h1 hc,←hj];have f:=ih j (by omega) (by omega);exact ay.of (by rw[DX];simp[h1',hx,h2,hb0,e1,f])
   |false=>
    rw[hc] at hb0;by_cases h2:b[i].toNat=35
    ·have h2':(b[i].toNat:Int)=35:=by omega
     rw[Ws h1 hc h2,←hj];have g:=R7 b hb m i;have gi:ev (NI (iv i) (sv b))=some (0,[iv (Lx.adv Lx.lineB b j:Nat),sv b]):=by
      rw[R7 b hb _ i (Nat.le_refl _),uZ h1 (by simp[Lx.lineB,h2]),←hj]
     have hle:=Lx.adv_le Lx.lineB b j (by omega);have hge:=Lx.adv_ge Lx.lineB b j;have f:=ih (Lx.adv Lx.lineB b j) (by omega) hle;rw[h2'] at hx hb0;exact ay.of (by rw[DX];simp[h1',hx,hb0,gi,f])
    ·have h2':¬(b[i].toNat:Int)=35:=by omega
     rw[Wt h1 hc h2];exact ay.of (by rw[DX];simp[h1',hx,h2',hb0])
  ·rw[KD (by omega),show b.size=i by omega]
   exact ay.of (by rw[DX];simp[show ¬(i:Int)<(b.size:Int) by omega])
theorem YH(b:ByteArray)(hb:b.size≤1000000)(i:Nat)(hi:i≤b.size):ev (q84 (sv b) (iv i))=some (0,[iv (Lx.skipPos b i:Nat)]):=
 ay.of (by rw[h84];simp[ac1 b hb _ i (Nat.le_refl _) hi])
theorem ae8(b:ByteArray)(hb:b.size≤1000000):∀(m i:Nat),b.size-i≤m→ev (Bb (iv i) (sv b) (iv 1))=some (0,[iv (Lx.adv Lx.insideB b i:Nat)]):=by
 intro m
 induction m with
 |zero=>exact fun i hi=>by rw[pE (by omega)];exact ay.of (by rw[jY];simp[show ¬(i:Int)<(b.size:Int) by omega])
 |succ m ih=>
  intro i hi;by_cases h1:i<b.size
  ·have h1':(i:Int)<(b.size:Int):=by omega
   have hx:=fun(k:AV→aM)=>nX (d:=aM.fail) (k:=k) h1
   rw[iL h1] at hx;have hb0:=aid b[i];cases hc:Lx.insideB b[i] with
   |true=>
    obtain⟨j,hj⟩:∃j,j=i+1:=⟨_,rfl⟩;have e1:=u6 hj (by omega);have f:=ih j (by omega);rw[uZ h1 hc,←hj];exact ay.of (by rw[jY];rw[hc] at hb0;simp[h1',hx];simp[hb0];simp[e1,f])
   |false=>
    rw[JZ h1 hc];exact ay.of (by rw[jY];rw[hc] at hb0;simp[h1',hx];simp[hb0])
  ·rw[pE (by omega)]
   exact ay.of (by rw[jY];simp[show ¬(i:Int)<(b.size:Int) by omega])
theorem aiS(b:ByteArray)(hb:b.size≤1000000)(i:Nat):ev (acO (sv b) (iv i) (iv 1))=some (0,[iv (Lx.adv Lx.insideB b i:Nat)]):=
 ay.of (by rw[h116];simp[ae8 b hb _ i (Nat.le_refl _)])
theorem ae7(b:ByteArray)(hb:b.size≤1000000):∀(m i:Nat),b.size-i≤m→ev (Bb (iv i) (sv b) (iv 2))=some (0,[iv (Lx.adv Lx.digitB b i:Nat)]):=by
 intro m
 induction m with
 |zero=>exact fun i hi=>by rw[pE (by omega)];exact ay.of (by rw[jY];simp[show ¬(i:Int)<(b.size:Int) by omega])
 |succ m ih=>
  intro i hi;by_cases h1:i<b.size
  ·have h1':(i:Int)<(b.size:Int):=by omega
   have hx:=fun(k:AV→aM)=>nX (d:=aM.fail) (k:=k) h1
   rw[iL h1] at hx;have hb0:=mh b[i];cases hc:Lx.digitB b[i] with
   |true=>
    obtain⟨j,hj⟩:∃j,j=i+1:=⟨_,rfl⟩;have e1:=u6 hj (by omega);have f:=ih j (by omega);rw[uZ h1 hc,←hj];exact ay.of (by rw[jY];rw[hc] at hb0;simp[h1',hx];simp[hb0];simp[e1,f])
   |false=>
    rw[JZ h1 hc];exact ay.of (by rw[jY];rw[hc] at hb0;simp[h1',hx];simp[hb0])
  ·rw[pE (by omega)]
   exact ay.of (by rw[jY];simp[show ¬(i:Int)<(b.size:Int) by omega])
theorem aiR(b:ByteArray)(hb:b.size≤1000000)(i:Nat):ev (acO (sv b) (iv i) (iv 2))=some (0,[iv (Lx.adv Lx.digitB b i:Nat)]):=
 ay.of (by rw[h116];simp[ae7 b hb _ i (Nat.le_refl _)])
theorem ae6(b:ByteArray)(hb:b.size≤1000000):∀(m i:Nat),b.size-i≤m→ev (Bb (iv i) (sv b) (iv 3))=some (0,[iv (Lx.adv Lx.symB b i:Nat)]):=by
 intro m
 induction m with
 |zero=>exact fun i hi=>by rw[pE (by omega)];exact ay.of (by rw[jY];simp[show ¬(i:Int)<(b.size:Int) by omega])
 |succ m ih=>
  intro i hi;by_cases h1:i<b.size
  ·have h1':(i:Int)<(b.size:Int):=by omega
   have hx:=fun(k:AV→aM)=>nX (d:=aM.fail) (k:=k) h1
   rw[iL h1] at hx;have hb0:=Gx b[i];cases hc:Lx.symB b[i] with
   |true=>
    obtain⟨j,hj⟩:∃j,j=i+1:=⟨_,rfl⟩;have e1:=u6 hj (by omega);have f:=ih j (by omega);rw[uZ h1 hc,←hj];exact ay.of (by rw[jY];rw[hc] at hb0;simp[h1',hx];simp[hb0];simp[e1,f])
   |false=>
    rw[JZ h1 hc];exact ay.of (by rw[jY];rw[hc] at hb0;simp[h1',hx];simp[hb0])
  ·rw[pE (by omega)]
   exact ay.of (by rw[jY];simp[show ¬(i:Int)<(b.size:Int) by omega])
theorem aiQ(b:ByteArray)(hb:b.size≤1000000)(i:Nat):ev (acO (sv b) (iv i) (iv 3))=some (0,[iv (Lx.adv Lx.symB b i:Nat)]):=
 ay.of (by rw[h116];simp[ae6 b hb _ i (Nat.le_refl _)])
abbrev qW(l:List UInt8):List Int:=l.map fun c=>(c.toNat:Int)
theorem Pz:∀(l:List UInt8) (r:ByteArray),(qW l).foldl (fun r n=>r.push (UInt8.ofNat n.toNat)) r=⟨(r.data.toList++l).toArray⟩
 |[],r=>by simp[qW]
 |c::l,r=>by
  have h:=Pz l (r.push c);have e:UInt8.ofNat ((c.toNat:Int)).toNat=c:=by simp
  simp only[qW,List.map_cons,List.foldl_cons,e];rw[show (List.map (fun c=>(c.toNat:Int)) l)=qW l from rfl,h];congr 2;rw[show (r.push c).data=r.data.push c from rfl,Array.toList_push,List.append_assoc];rfl
theorem Ut(l:List UInt8):Ku (qW l)=Lx.textOf l:=by
 unfold Ku;rw[Pz l ByteArray.empty];rfl
def EZ(b:ByteArray)(i:Nat)(acc:List UInt8)(r:Option Rs):Prop:=match Lx.textL (D b i) with
 |none=>r=some (1,[])∨r=some (0,[sv eB,iv 0,bv false])
 |some (x,rest)=>r=some (0,[sv (Lx.textOf (acc++x)),iv (b.size-rest.length:Nat),bv true])
theorem EZ.pass{b:ByteArray}{i j:Nat}{acc:List UInt8}{q q':Q}{x:UInt8}(h:body PG EE TT ev q=iA (ev q'))(ht:Lx.textL (D b i)=(Lx.textL (D b j)).map fun p=>(x::p.1,p.2))(hg:EZ b j (acc++[x]) (ev q')):EZ b i acc (ev q):=by
 unfold EZ at *;rw[ht];cases he:Lx.textL (D b j) with
 |none=>
  rw[he] at hg;rcases hg with hg|hg
  ·exact .inl (Ig h hg)
  ·exact .inr (Ig h hg)
 |some p=>
  rw[he] at hg;simp only[List.append_assoc,List.singleton_append] at hg;exact Ig h hg
theorem aeY:(List.range 256).all (fun n=>([110,116,34,92]:List UInt8).contains (UInt8.ofNat n)==(Lx.escC (UInt8.ofNat n)).isSome)=true:=by kernel_rfl
theorem aaM(d:UInt8):(⟨#[110,116,34,92]⟩:ByteArray).data.toList.contains d=(Lx.escC d).isSome:=by
 have h:=List.all_eq_true.1 aeY d.toNat (List.mem_range.2 d.toNat_lt);rw[beq_iff_eq] at h;have e:UInt8.ofNat d.toNat=d:=by simp
 rw[e] at h;exact h
theorem aaL{d x:UInt8}(h:Lx.escC d=some x):((d.toNat:Int)=110∧x=10)∨((d.toNat:Int)=116∧x=9)∨(¬(d.toNat:Int)=110∧¬(d.toNat:Int)=116∧x=d):=by
 unfold Lx.escC at h;split at h
 ·cases h;exact .inl ⟨by omega,rfl⟩
 ·split at h
  ·cases h;exact .inr (.inl ⟨by omega,rfl⟩)
  ·split at h
   ·rename_i h1
    cases h;exact .inr (.inr ⟨by omega,by omega,UInt8.toNat_inj.1 (by rw[h1];rfl)⟩)
   ·split at h
    ·rename_i h1
     cases h;exact .inr (.inr ⟨by omega,by omega,UInt8.toNat_inj.1 (by rw[h1];rfl)⟩)
    ·cases h
theorem Pv(b:ByteArray)(hb:b.size≤1000000):∀(m i:Nat) (acc:List UInt8),b.size-i≤m→acc.length+m≤2000000→EZ b i acc (ev (uE (iv i) (sv b) (vg (qW acc)))):=by
 intro m
 induction m with
 |zero=>
  intro i acc hi hl;unfold EZ;rw[pF (by omega)];exact .inl (ay.of (by rw[oZ];simp[show ¬(i:Int)<(b.size:Int) by omega]))
 |succ m ih=>
  intro i acc hi hl;have hap:=fun(n:Int) (k:PV→aM)=>afq (qW acc) n k (by simp;omega)
  by_cases h1:i<b.size
  ·have h1':(i:Int)<(b.size:Int):=by omega
   have hx:=fun(k:AV→aM)=>nX (d:=aM.fail) (k:=k) h1
   rw[iL h1] at hx;obtain⟨j,hj⟩:∃j,j=i+1:=⟨_,rfl⟩;have e1:=u6 hj (by omega);have hT:=Lx.textL_cons b[i] (D b (i+1));rw[←dz h1,←hj] at hT;by_cases h2:b[i].toNat=34
   ·have h2':(b[i].toNat:Int)=34:=by omega
    rw[h2'] at hx;unfold EZ;rw[hT,if_pos h2];have hl:=nu b j;simp only[List.append_nil];rw[hl,show b.size-(b.size-j)=j by omega];exact ay.of (by rw[oZ];simp[h1',hx,aiY,Ut,e1])
   ·have h2':¬(b[i].toNat:Int)=34:=by omega
    rw[if_neg h2] at hT;by_cases h3:b[i].toNat=10
    ·have h3':(b[i].toNat:Int)=10:=by omega
     rw[h3'] at hx;unfold EZ;rw[hT,if_pos h3];exact .inr (ay.of (by rw[oZ];simp[h1',hx]))
    ·have h3':¬(b[i].toNat:Int)=10:=by omega
     rw[if_neg h3] at hT;by_cases h4:b[i].toNat=92
     ·have h4':(b[i].toNat:Int)=92:=by omega
      rw[if_pos h4] at hT;rw[h4'] at hx;by_cases h5:j<b.size
      ·have h5':¬(j:Int)=(b.size:Int):=by omega
       have hy:=fun(k:AV→aM)=>nX (d:=aM.fail) (k:=k) (s:=b) (i:=j) h5
       rw[iL h5] at hy;obtain⟨z,hz⟩:∃z,z=j+1:=⟨_,rfl⟩;have e2:=u6 hz (by omega);rw[dz h5,←hz] at hT;simp only at hT;have hi:=aio ⟨#[110,116,34,92]⟩ b[j] (by decide);have hin:(⟨#[110,116,34,92]⟩:ByteArray).data.toList.contains b[j]=(Lx.escC b[j]).isSome:=aaM b[j];rw[hin] at hi;cases hc:Lx.escC b[j] with
       |none=>
        rw[hc] at hi hT;unfold EZ;rw[hT];exact .inr (ay.of (by rw[oZ];simp[h1',hx,e1,h5'];simp[hy,hi]))
       |some x=>
        rw[hc] at hi hT;simp only at hT;refine EZ.pass (q':=uE (iv z) (sv b) (vg (qW (acc++[x])))) ?_ hT (ih z (acc++[x]) (by omega) (by simp;omega));rw[oZ];simp[h1',hx,e1,h5'];rcases aaL hc with⟨h6,rfl⟩|⟨h6,rfl⟩|⟨h6,h7,rfl⟩
        ·rw[h6] at hi hy
         simp[hy,hi,e2,hap,qW]
        ·rw[h6] at hi hy
         simp[hy,hi,e2,hap,qW]
        ·simp[hy,hi,h6,h7,e2,hap,qW]
      ·have h5':(j:Int)=(b.size:Int):=by omega
       rw[pF (b:=b) (i:=j) (by omega)] at hT;simp only at hT;unfold EZ;rw[hT];exact .inr (ay.of (by rw[oZ];simp[h1',hx,e1,h5']))
     ·have h4':¬(b[i].toNat:Int)=92:=by omega
      rw[if_neg h4] at hT;refine EZ.pass (q':=uE (iv j) (sv b) (vg (qW (acc++[b[i]])))) ?_ hT (ih j (acc++[b[i]]) (by omega) (by simp;omega));rw[oZ];simp[h1',hx,h2',h3',h4',e1,hap,qW]
  ·unfold EZ
   rw[pF (by omega)];exact .inl (ay.of (by rw[oZ];simp[show ¬(i:Int)<(b.size:Int) by omega]))
theorem abX(b:ByteArray)(hb:b.size≤1000000)(i:Nat):EZ b i [] (ev (RU (iv i) (sv b))):=by
 by_cases h1:i<b.size
 ·have h1':(i:Int)<(b.size:Int):=by omega
  have hx:=fun(k:AV→aM)=>nX (d:=aM.fail) (k:=k) h1
  rw[iL h1] at hx;obtain⟨j,hj⟩:∃j,j=i+1:=⟨_,rfl⟩;have e1:=u6 hj (by omega);have hT:=Lx.textL_cons b[i] (D b (i+1));rw[←dz h1,←hj] at hT;by_cases h2:b[i].toNat=34
  ·have h2':(b[i].toNat:Int)=34:=by omega
   rw[h2'] at hx;unfold EZ;rw[hT,if_pos h2];have hl:=nu b j;simp only[List.append_nil];rw[hl,show b.size-(b.size-j)=j by omega];exact ay.of (by rw[rz];simp[h1',hx,Lx.textOf,e1])
  ·have h2':¬(b[i].toNat:Int)=34:=by omega
   rw[if_neg h2] at hT;by_cases h3:b[i].toNat=10
   ·have h3':(b[i].toNat:Int)=10:=by omega
    rw[h3'] at hx;unfold EZ;rw[hT,if_pos h3];exact .inr (ay.of (by rw[rz];simp[h1',hx]))
   ·have h3':¬(b[i].toNat:Int)=10:=by omega
    rw[if_neg h3] at hT;by_cases h4:b[i].toNat=92
    ·have h4':(b[i].toNat:Int)=92:=by omega
     rw[if_pos h4] at hT;rw[h4'] at hx;by_cases h5:j<b.size
     ·have h5':¬(j:Int)=(b.size:Int):=by omega
      have hy:=fun(k:AV→aM)=>nX (d:=aM.fail) (k:=k) (s:=b) (i:=j) h5
      rw[iL h5] at hy;obtain⟨z,hz⟩:∃z,z=j+1:=⟨_,rfl⟩;have e2:=u6 hz (by omega);rw[dz h5,←hz] at hT;simp only at hT;have hi:=aio ⟨#[110,116,34,92]⟩ b[j] (by decide);have hin:(⟨#[110,116,34,92]⟩:ByteArray).data.toList.contains b[j]=(Lx.escC b[j]).isSome:=aaM b[j];rw[hin] at hi;cases hc:Lx.escC b[j] with
      |none=>
       rw[hc] at hi hT;unfold EZ;rw[hT];exact .inr (ay.of (by rw[rz];simp[h1',hx,e1,h5'];simp[hy,hi]))
      |some x=>
       rw[hc] at hi hT;simp only at hT;refine EZ.pass (q':=uE (iv z) (sv b) (vg (qW ([]++[x])))) ?_ hT (Pv b hb _ z ([]++[x]) (Nat.le_refl _) (by simp;omega));rw[rz];simp[h1',hx,e1,h5'];rcases aaL hc with⟨h6,rfl⟩|⟨h6,rfl⟩|⟨h6,h7,rfl⟩
       ·rw[h6] at hi hy
        simp[hy,hi,e2,vg,qW]
       ·rw[h6] at hi hy
        simp[hy,hi,e2,vg,qW]
       ·simp[hy,hi,h6,h7,e2,vg,qW]
     ·have h5':(j:Int)=(b.size:Int):=by omega
      rw[pF (b:=b) (i:=j) (by omega)] at hT;simp only at hT;unfold EZ;rw[hT];exact .inr (ay.of (by rw[rz];simp[h1',hx,e1,h5']))
    ·have h4':¬(b[i].toNat:Int)=92:=by omega
     rw[if_neg h4] at hT;refine EZ.pass (q':=uE (iv j) (sv b) (vg (qW ([]++[b[i]])))) ?_ hT (Pv b hb _ j ([]++[b[i]]) (Nat.le_refl _) (by simp;omega));rw[rz];simp[h1',hx,h2',h3',h4',e1,vg,qW]
 ·unfold EZ
  rw[pF (by omega)];exact .inl (ay.of (by rw[rz];simp[show ¬(i:Int)<(b.size:Int) by omega]))
theorem agN(b:ByteArray)(hb:b.size≤1000000)(i:Nat)(hi:i<b.size):ev (akY (sv b) (iv i))=some (0,match Lx.textL (D b (i+1)) with
  |none=>[sv eB,iv 0,bv false]
  |some (x,rest)=>[sv (Lx.textOf x),iv (b.size-rest.length:Nat),bv true]):=by
 obtain⟨k,hk⟩:∃k,k=i+1:=⟨_,rfl⟩;have e1:=u6 hk (by omega);have h0:=abX b hb k;unfold EZ at h0;rw[←hk];cases hT:Lx.textL (D b k) with
 |none=>
  rw[hT] at h0;rcases h0 with h0|h0
  ·exact ay.of (by rw[aiB];simp[e1,h0])
  ·exact ay.of (by rw[aiB];simp[e1,h0])
 |some p=>
  rw[hT] at h0;simp only[List.nil_append] at h0;exact ay.of (by rw[aiB];simp[e1,h0])
theorem Ps{n m:Int}(h0:0≤n)(h1:n<m):n.tmod m=n:=by
 rw[Int.tmod_eq_emod_of_nonneg h0];exact Int.emod_eq_of_lt h0 h1
theorem Kg{n:Int}(h0:0≤n)(h1:n<18446744073709551616):IntKind.u64.wrap n=n:=by
 simp[IntKind.wrap,IntKind.signed,IntKind.bits];omega
theorem VE{n:Int}(h0:0≤n)(h1:n<256):IntKind.u8.wrap n=n:=by
 simp[IntKind.wrap,IntKind.signed,IntKind.bits];omega
theorem alj{n:Int}(h0:0≤n)(h1:n<4611686018427387904):ev (akF (iv n))=some (0,[wv n]):=ay.of (by
 rw[aqO];simp[afF,Kg h0 (by omega),Ps h0 (show n<9223372036854775808 by omega)])
theorem aii{n:Int}(h0:0≤n)(h1:n<4611686018427387904):ev (akG (wv n))=some (0,[iv n]):=ay.of (by
 rw[aqP];simp[show ¬4611686018427387904≤n by omega,aP (n:=n) (by omega)])
theorem Wv{n:Int}(h0:0≤n)(h1:n<4611686018427387904):ev (XZ (wv n))=some (0,[iv n]):=ay.of (by
 have hw:ev (akH (iv n))=some (0,[iv n]):=ay.of (by rw[aqQ];simp[alj h0 h1,aii h0 h1]);rw[aiw];simp[afF,Ps h0 (show n<9223372036854775808 by omega),aP (n:=n) (by omega),hw])
theorem Ey{c:UInt8}(h:Lx.digitB c=true):48≤(c.toNat:Int)∧(c.toNat:Int)≤57:=by
 unfold Lx.digitB at h;rw[decide_eq_true_eq] at h;omega
theorem YD(s:ByteArray)(hs:s.size≤1000000):∀(m i:Nat),s.size-i≤m→(D s i).all Lx.digitB=true→ev (H9 (iv i) (sv s))=some (1,[iv 0,sv s,bv false]):=by
 intro m
 induction m with
 |zero=>exact fun i hi _=>ay.of (by rw[Jp];simp[show ¬(i:Int)<(s.size:Int) by omega])
 |succ m ih=>
  intro i hi hd;by_cases h1:i<s.size
  ·have h1':(i:Int)<(s.size:Int):=by omega
   have hx:=fun(k:AV→aM)=>nX (d:=aM.fail) (k:=k) h1
   rw[iL h1] at hx;obtain⟨j,hj⟩:∃j,j=i+1:=⟨_,rfl⟩;have e1:=u6 hj (by omega);rw[dz h1,←hj,List.all_cons,Bool.and_eq_true] at hd;obtain⟨d1,d2⟩:=Ey hd.1;have g:=ih j (by omega) hd.2;exact ay.of (by rw[Jp];simp[h1',hx,show ¬(s[i].toNat:Int)<48 by omega,show ¬57<(s[i].toNat:Int) by omega,e1,g])
  ·exact ay.of (by rw[Jp];simp[show ¬(i:Int)<(s.size:Int) by omega])
theorem Uu(l:List UInt8):∀a:Int×Bool,a.2=true→(l.foldl Lx.stepD a).2=true:=by
 induction l with
 |nil=>intro a h;exact h
 |cons c r ih=>
  intro a h;rw[List.foldl_cons];apply ih;unfold Lx.stepD;rw[if_pos h];exact h
theorem YC(s:ByteArray)(hs:s.size≤1000000):∀(m i:Nat) (z:Int),s.size-i≤m→(D s i).all Lx.digitB=true→
  ev (H8 (iv i) (sv s) (wv z))=some (if((D s i).foldl Lx.stepD (z,false)).2 then(0,[iv 0,iv 3]) else(1,[wv ((D s i).foldl Lx.stepD (z,false)).1,bv false])):=by
 intro m
 induction m with
 |zero=>
  intro i z hi _;rw[pF (by omega)];exact ay.of (by rw[BL];simp[show ¬(i:Int)<(s.size:Int) by omega])
 |succ m ih=>
  intro i z hi hd;by_cases h1:i<s.size
  ·have h1':(i:Int)<(s.size:Int):=by omega
   have hx:=fun(k:AV→aM)=>nX (d:=aM.fail) (k:=k) h1
   rw[iL h1] at hx;obtain⟨j,hj⟩:∃j,j=i+1:=⟨_,rfl⟩;have e1:=u6 hj (by omega);rw[dz h1,←hj,List.all_cons,Bool.and_eq_true] at hd;obtain⟨d1,d2⟩:=Ey hd.1;have hw8:IntKind.u8.wrap ((s[i].toNat:Int)-48)=(s[i].toNat:Int)-48:=VE (by omega) (by omega);have hw64:IntKind.u64.wrap ((s[i].toNat:Int)-48)=(s[i].toNat:Int)-48:=Kg (by omega) (by omega);obtain⟨w,hw⟩:∃w:Int,w=IntKind.u64.wrap (IntKind.u64.wrap (10*z)+((s[i].toNat:Int)-48)):=⟨_,rfl⟩;have hst:Lx.stepD (z,false) s[i]=(w,decide (4611686018427387904<w)):=by
    unfold Lx.stepD;simp only[Bool.false_eq_true,if_false,←hw]
   rw[dz h1,←hj,List.foldl_cons,hst];by_cases h2:4611686018427387904<w
   ·rw[Uu _ _ (by simp[h2])]
    exact ay.of (by rw[BL];simp[h1',hx,hw8,hw64,←hw,h2])
   ·have g:=ih j w (by omega) hd.2
    rw[show decide (4611686018427387904<w)=false from decide_eq_false h2];exact ay.of (by rw[BL];simp[h1',hx,hw8,hw64,←hw,h2,e1,g])
  ·rw[pF (by omega)]
   exact ay.of (by rw[BL];simp[show ¬(i:Int)<(s.size:Int) by omega])
theorem acV(s:ByteArray)(hs:s.size≤1000000)(h0:0<s.size)(hz:s.size=1∨¬s[0].toNat=48)(hd:s.data.toList.all Lx.digitB=true) :
  ev (ahT (sv s))=some (0,match Lx.parseD s.data.toList with|none=>[iv 0,iv 3]|some n=>[iv n,iv 0]):=by
 have h1:0<(s.size:Int):=by omega
 have h1a:¬(0:Int)=(s.size:Int):=by omega
 have hx:∀(k:AV→aM),L6 PG .fail 9 (.pv (sv s)) (.pv (iv 0)) k=k (.pv (cv (byt s 0))):=fun k=>nX (d:=aM.fail) (k:=k) (s:=s) (i:=0) h0
 rw[iL h0] at hx;have hd0:(D s 0).all Lx.digitB=true:=hd;have hd1:=hd0;rw[dz h0,List.all_cons,Bool.and_eq_true] at hd1;obtain⟨d1,d2⟩:=Ey hd1.1;have g1:ev (H9 (iv 0) (sv s))=_:=YD s hs _ 0 (Nat.le_refl _) hd0;have g2:ev (H8 (iv 0) (sv s) (wv 0))=_:=YC s hs _ 0 0 (Nat.le_refl _) hd0;rw[show (D s 0).foldl Lx.stepD (0,false)=Lx.foldD s.data.toList from rfl] at g2;have hn45:¬(s[0].toNat:Int)=45:=by omega
 have hzz:(s[0].toNat:Int)=48→¬1<(s.size:Int):=by
  intro e;rcases hz with hz|hz
  ·omega
  ·omega
 have key:body PG EE TT ev (ahT (sv s))=.ok (0,match Lx.parseD s.data.toList with|none=>[iv 0,iv 3]|some n=>[iv n,iv 0]):=by
  unfold Lx.parseD;cases hb:(Lx.foldD s.data.toList).2 with
  |true=>
   rw[hb] at g2;simp only[if_true] at g2;simp only[true_or,if_true];rw[aiA];by_cases h48:(s[0].toNat:Int)=48
   ·rw[h48] at hx
    have h12:¬1<s.size:=by have:=hzz h48;omega
    simp[h1,h0,h1a,hx,hzz h48,h12,g1,g2]
   ·simp[h1,h0,h1a,hx,hn45,h48,g1,g2]
  |false=>
   rw[hb] at g2;simp only[Bool.false_eq_true,if_false] at g2;have hbd:=Lx.foldD_bd s.data.toList;have hsm:=Lx.foldD_small s.data.toList hb;generalize (Lx.foldD s.data.toList).1=n at *;by_cases hh:n=4611686018427387904
   ·simp only[Bool.false_eq_true,false_or,hh,if_true]
    rw[hh] at g2;rw[aiA];by_cases h48:(s[0].toNat:Int)=48
    ·rw[h48] at hx
     have h12:¬1<s.size:=by have:=hzz h48;omega
     simp[h1,h0,h1a,hx,hzz h48,h12,g1,g2]
    ·simp[h1,h0,h1a,hx,hn45,h48,g1,g2]
   ·simp only[Bool.false_eq_true,false_or,hh,if_false]
    have hsg:=Wv (n:=n) hbd.1 (by omega);rw[aiA];by_cases h48:(s[0].toNat:Int)=48
    ·rw[h48] at hx
     have h12:¬1<s.size:=by have:=hzz h48;omega
     simp[h1,h0,h1a,hx,hzz h48,h12,g1,g2,hh,hsg]
    ·simp[h1,h0,h1a,hx,hn45,h48,g1,g2,hh,hsg]
 exact ay.of key
def nt:List UInt8→List UInt8
 |[]=>[]
 |[c]=>[c]
 |c::d::r=>if c.toNat=48 then nt (d::r) else c::d::r
theorem N8:∀(l:List UInt8),l≠[]→Lx.numText l=nt l
 |[],h=>absurd rfl h
 |[c],_=>by
  unfold Lx.numText nt Lib.trimLeftB;by_cases h:c=48
  ·subst h;rfl
  ·have h2:(c==(48:UInt8))=false:=by simpa using h
   simp[h2]
 |c::d::r,_=>by
  have ih:=N8 (d::r) (by simp);rw[nt];by_cases h:c.toNat=48
  ·have hc:c=48:=UInt8.toNat_inj.1 (by rw[h];rfl)
   rw[if_pos h,←ih,hc];unfold Lx.numText;rfl
  ·have hc:¬c=48:=fun e=>h (by rw[e];rfl)
   rw[if_neg h];unfold Lx.numText Lib.trimLeftB;have h2:(c==(48:UInt8))=false:=by simpa using hc
   simp[h2]
theorem agy(b:ByteArray)(hb:b.size≤1000000)(y:Nat)(hy:y≤b.size)(a:Int):∀(m i:Nat),y-i≤m→i<y→
  ∃z:Nat,ev (Xm (iv i) (iv y) (sv b) (iv a))=some (0,[iv 0,sv eB,iv 0,iv a,iv 0,sv eB,iv 0,iv 0,sv b,iv z,iv y])∧i≤z∧z<y∧(D b z).take (y-z)=nt ((D b i).take (y-i)):=by
 intro m
 induction m with
 |zero=>intro i hi h;omega
 |succ m ih=>
  intro i hi h;have h1:i<b.size:=by omega
  have hx:=fun(k:AV→aM)=>nX (d:=aM.fail) (k:=k) h1
  rw[iL h1] at hx;obtain⟨j,hj⟩:∃j,j=i+1:=⟨_,rfl⟩;have e1:=u6 hj (by omega);have ey:IntKind.i64.wrap ((y:Int)-1)=(y:Int)-1:=aP (by omega);by_cases hl:j<y
  ·have hl':(i:Int)<(y:Int)-1:=by omega
   have h2:j<b.size:=by omega
   have hc:(D b i).take (y-i)=b[i]::b[j]::(D b (j+1)).take (y-i-2):=by
    rw[dz h1,←hj,dz h2,show y-i=(y-i-2)+1+1 by omega];rw[List.take_succ_cons,List.take_succ_cons];simp
   have hc2:(D b j).take (y-j)=b[j]::(D b (j+1)).take (y-i-2):=by
    rw[dz h2,show y-j=(y-i-2)+1 by omega,List.take_succ_cons]
   by_cases h48:b[i].toNat=48
   ·have h48':(b[i].toNat:Int)=48:=by omega
    rw[h48'] at hx;obtain⟨z,g,g1,g2,g3⟩:=ih j (by omega) hl;refine⟨z,ay.of ?_,by omega,g2,?_⟩
    ·rw[Oz]
     simp[ey,hl',hx,e1,g]
    ·rw[g3,hc,nt,if_pos h48,hc2]
   ·have h48':¬(b[i].toNat:Int)=48:=by omega
    refine⟨i,ay.of ?_,Nat.le_refl _,h,?_⟩
    ·rw[Oz]
     simp[ey,hl',hx,h48']
    ·rw[hc,nt,if_neg h48]
  ·have hl':¬(i:Int)<(y:Int)-1:=by omega
   refine⟨i,ay.of ?_,Nat.le_refl _,h,?_⟩
   ·rw[Oz]
    simp[ey,hl']
   ·rw[show y-i=0+1 by omega,dz h1,List.take_succ_cons]
    rfl
theorem VQ:(List.range 256).all (fun n=>!(Lx.lowB (UInt8.ofNat n)&&Lx.upB (UInt8.ofNat n)) && !(Lx.lowB (UInt8.ofNat n)&&Lx.digitB (UInt8.ofNat n)) && !(Lx.lowB (UInt8.ofNat n)&&Lx.symB (UInt8.ofNat n)) && !(Lx.upB (UInt8.ofNat n)&&Lx.digitB (UInt8.ofNat n)) && !(Lx.upB (UInt8.ofNat n)&&Lx.symB (UInt8.ofNat n)) && !(Lx.digitB (UInt8.ofNat n)&&Lx.symB (UInt8.ofNat n))&&((UInt8.ofNat n).toNat != 34 || !(Lx.lowB (UInt8.ofNat n)||Lx.upB (UInt8.ofNat n)||Lx.digitB (UInt8.ofNat n)||Lx.symB (UInt8.ofNat n))))=true:=by kernel_rfl
theorem agJ(c:UInt8):(!(Lx.lowB c&&Lx.upB c) && !(Lx.lowB c&&Lx.digitB c) && !(Lx.lowB c&&Lx.symB c) && !(Lx.upB c&&Lx.digitB c) && !(Lx.upB c&&Lx.symB c) && !(Lx.digitB c&&Lx.symB c)&&(c.toNat != 34 || !(Lx.lowB c||Lx.upB c||Lx.digitB c||Lx.symB c)))=true:=by
 have h:=List.all_eq_true.1 VQ c.toNat (List.mem_range.2 c.toNat_lt);have e:UInt8.ofNat c.toNat=c:=by simp
 rw[e] at h;exact h
theorem IL(x:List UInt8):Lx.keyB (Lx.textOf x)=Lx.keyList.contains x:=by unfold Lx.keyB;rw[Lx.textOf_toList]
theorem Dm(x:List UInt8):Lx.markB (Lx.textOf x)=Lx.markList.contains x:=by unfold Lx.markB;rw[Lx.textOf_toList]
theorem Zr:Lx.keyList.all (fun k=>match k with|c::d::_=>Lx.lowB c && !(Lx.markList.contains k)|_=>false)=true:=by kernel_rfl
theorem DF{x:List UInt8}(h:Lx.keyList.contains x=true):∃c d r,x=c::d::r∧Lx.lowB c=true∧Lx.markList.contains x=false:=by
 have hm:x∈Lx.keyList:=by simpa using h
 have:=List.all_eq_true.1 Zr x hm
 match x,this with
 |c::d::r,h2=>
  simp only[Bool.and_eq_true,Bool.not_eq_true'] at h2;exact⟨c,d,r,rfl,h2.1,h2.2⟩
theorem U2:Lx.markList.all (fun k=>match k with|c::_=>!(Lx.lowB c||Lx.upB c)||k==[95]|_=>false)=true:=by kernel_rfl
theorem U3{c:UInt8}{r:List UInt8}(hc:Lx.lowB c=true∨Lx.upB c=true):Lx.markList.contains (c::r)=(c::r==[95]):=by
 cases hb:Lx.markList.contains (c::r) with
 |true=>
  have hm:(c::r)∈Lx.markList:=by simpa using hb
  have:=List.all_eq_true.1 U2 _ hm;simp only[Bool.or_eq_true,Bool.not_eq_true',Bool.or_eq_false_iff] at this;rcases this with h|h
  ·rcases hc with hc|hc
   ·rw[hc] at h;exact absurd h.1 (by simp)
   ·rw[hc] at h;exact absurd h.2 (by simp)
  ·exact h.symm
 |false=>
  cases he:(c::r==[95]) with
  |false=>rfl
  |true=>
   have:c::r=[95]:=by simpa using he
   rw[this] at hb;exact absurd hb (by decide)
theorem Me(p:UInt8→Bool)(b:ByteArray)(i:Nat):b.extract i (Lx.adv p b i)=Lx.textOf ((D b i).takeWhile p):=Lx.text_eq (Lx.adv_text p b i)
theorem yQ(x:List UInt8):((Lx.textOf x).size:Int)=(x.length:Int):=by rw[Lx.textOf_size]
def EN(b:ByteArray)(i:Nat)(o:Except Int (Int×List UInt8×Int×List UInt8))(r:Option Rs):Prop:=match o with
 |.error e=>∃(k:Int) (t:ByteArray) (n:Int),r=some (0,[iv k,sv t,iv n,iv i,iv 0,iv e])
 |.ok (kind,x,n,l)=>r=some (0,[iv kind,sv (Lx.textOf x),iv n,iv i,iv (b.size-l.length:Nat),iv 0])
theorem YL(b:ByteArray)(hb:b.size≤1000000)(i:Nat)(hi:i<b.size)(hw:Lx.lowB b[i]=true∨Lx.upB b[i]=true) :
  EN b i (Lx.putL (Lx.kindL ((D b i).takeWhile Lx.insideB)) ((D b i).takeWhile Lx.insideB) 0 ((D b i).dropWhile Lx.insideB)) (ev (q85 (sv b) (iv i))):=by
 have hx:=fun(k:AV→aM)=>nX (d:=aM.fail) (k:=k) hi
 rw[iL hi] at hx;have hcls:=agJ b[i];have hin:Lx.insideB b[i]=true:=by
  unfold Lx.insideB;rcases hw with h|h<;>simp[h]
 have hdg:Lx.digitB b[i]=false:=by
  cases h:Lx.digitB b[i] with
  |false=>rfl
  |true=>rcases hw with h2|h2<;>simp[h,h2] at hcls
 have hsy:Lx.symB b[i]=false:=by
  cases h:Lx.symB b[i] with
  |false=>rfl
  |true=>rcases hw with h2|h2<;>simp[h,h2] at hcls
 have yM:¬(b[i].toNat:Int)=34:=by
  intro h;have h':b[i].toNat=34:=by omega
  rcases hw with h2|h2<;>simp[h',h2] at hcls
 obtain⟨r,hr⟩:∃r,(D b i).takeWhile Lx.insideB=b[i]::r:=⟨_,by rw[dz hi,List.takeWhile_cons_of_pos hin]⟩;have hle:=Lx.adv_le Lx.insideB b i (by omega);have hge:=Lx.adv_ge Lx.insideB b i;have hsl:=fun(k:AV→aM)=>ab6 (d:=aM.fail) (k:=k) (s:=b) hge hle
 rw[Me,hr] at hsl;have hnx:b.size-((D b i).dropWhile Lx.insideB).length=Lx.adv Lx.insideB b i:=Lx.adv_pos Lx.insideB b i (by omega);have he:=aiS b hb i;obtain⟨y,hy⟩:∃y,y=Lx.adv Lx.insideB b i:=⟨_,rfl⟩;rw[←hy] at he hsl hnx;have hsz:=yQ (b[i]::r);have hK:=abI (Lx.textOf (b[i]::r));have hM:=Pm (Lx.textOf (b[i]::r));rw[IL] at hK;rw[Dm,U3 hw] at hM;have hS:=oF b[i];have hG:=o5 b[i];have hD:=mh b[i];have hY:=Gx b[i];rw[hdg] at hD;rw[hsy] at hY;rw[hr];unfold Lx.putL EN;have hkm:Lx.keyList.contains (b[i]::r)=true→(b[i]::r==[95])=false:=by
  intro h;obtain⟨_,_,_,h1,_,_⟩:=DF h;rw[h1];simp
 have hkind:Lx.kindL (b[i]::r)=if Lx.keyList.contains (b[i]::r)=true then 6 else if(b[i]::r==[95])=true then 7 else if Lx.upB b[i]=true then 2 else 1:=rfl
 have hkk:Lx.kindL (b[i]::r)≠3∧Lx.kindL (b[i]::r)≠4:=by
  rw[hkind];cases Lx.keyList.contains (b[i]::r)<;>cases(b[i]::r==[95])<;>cases Lx.upB b[i]<;>simp
 by_cases hlen:40<(b[i]::r).length
 ·rw[if_pos ⟨hkk.1,hkk.2,hlen⟩]
  simp only;refine⟨0,Lx.textOf (b[i]::r),0,ay.of ?_⟩;have hl2:40<((b[i]::r).length:Int):=by omega
  rw[h85];cases hs:Lx.lowB b[i]<;>cases hg:Lx.upB b[i]<;>(rw[hs] at hS;rw[hg] at hG;first|(rw[hs,hg] at hw;simp at hw;done)|simp[-Int.natCast_add,-List.length_cons,hx,yM,hD,hS,hG,hY,he,hsl,hsz,hl2])
 ·have hl2:¬40<((b[i]::r).length:Int):=by omega
  rw[if_neg (fun h=>hlen h.2.2)];simp only;rw[hnx];refine ay.of ?_;rw[h85];rw[hkind];generalize b[i]::r=X at *;cases hs:Lx.lowB b[i]<;>cases hg:Lx.upB b[i]<;>(rw[hs] at hS;rw[hg] at hG;first|(rw[hs,hg] at hw;simp at hw;done)|(rw[hs,hg] at hcls;simp at hcls;done)|(cases hk:Lx.keyList.contains X<;>cases hm:(X==[95])<;>(rw[hk] at hK;rw[hm] at hM;first|exact absurd (hkm hk) (by rw[hm];decide)|simp[-Int.natCast_add,-List.length_cons,-List.contains_eq_mem,-beq_iff_eq,hx,yM,hD,hS,hG,hY,he,hsl,hsz,hl2,hK,hM,hg])))
theorem YM(b:ByteArray)(hb:b.size≤1000000)(i:Nat)(hi:i<b.size)(hc:b[i].toNat=34) :
  EN b i (match Lx.textL (D b (i+1)) with|none=>.error 103|some (x,r')=>Lx.putL 4 x 0 r') (ev (q85 (sv b) (iv i))):=by
 have hx:=fun(k:AV→aM)=>nX (d:=aM.fail) (k:=k) hi
 rw[iL hi,show ((b[i].toNat:Nat):Int)=34 by omega] at hx;have ht:=agN b hb i hi;cases hT:Lx.textL (D b (i+1)) with
 |none=>
  rw[hT] at ht;exact⟨0,eB,0,ay.of (by rw[h85];simp[hx,ht])⟩
 |some p=>
  obtain⟨x,r⟩:=p;rw[hT] at ht;unfold EN Lx.putL;simp only[ne_eq,not_true_eq_false,false_and,and_false,if_false];exact ay.of (by rw[h85];simp[-Int.natCast_add,hx,ht])
theorem ac3(b:ByteArray)(hb:b.size≤1000000)(i:Nat)(hi:i<b.size)(hc:Lx.symB b[i]=true) :
  EN b i (Lx.putL (if Lx.markList.contains ((D b i).takeWhile Lx.symB)=true then 7 else 5) ((D b i).takeWhile Lx.symB) 0 ((D b i).dropWhile Lx.symB)) (ev (q85 (sv b) (iv i))):=by
 have hx:=fun(k:AV→aM)=>nX (d:=aM.fail) (k:=k) hi
 rw[iL hi] at hx;have hcls:=agJ b[i];rw[hc] at hcls;have hdg:Lx.digitB b[i]=false:=by cases h:Lx.digitB b[i] with|false=>rfl|true=>simp[h] at hcls
 have hlo:Lx.lowB b[i]=false:=by cases h:Lx.lowB b[i] with|false=>rfl|true=>simp[h] at hcls
 have hup:Lx.upB b[i]=false:=by cases h:Lx.upB b[i] with|false=>rfl|true=>simp[h] at hcls
 have yM:¬(b[i].toNat:Int)=34:=by
  intro h;have h':b[i].toNat=34:=by omega
  simp[h'] at hcls
 obtain⟨r,hr⟩:∃r,(D b i).takeWhile Lx.symB=b[i]::r:=⟨_,by rw[dz hi,List.takeWhile_cons_of_pos hc]⟩;have hle:=Lx.adv_le Lx.symB b i (by omega);have hge:=Lx.adv_ge Lx.symB b i;have hsl:=fun(k:AV→aM)=>ab6 (d:=aM.fail) (k:=k) (s:=b) hge hle
 rw[Me,hr] at hsl;have hnx:b.size-((D b i).dropWhile Lx.symB).length=Lx.adv Lx.symB b i:=Lx.adv_pos Lx.symB b i (by omega);have he:=aiQ b hb i;obtain⟨y,hy⟩:∃y,y=Lx.adv Lx.symB b i:=⟨_,rfl⟩;rw[←hy] at he hsl hnx;have hsz:=yQ (b[i]::r);have hK:=abI (Lx.textOf (b[i]::r));have hM:=Pm (Lx.textOf (b[i]::r));rw[IL] at hK;rw[Dm] at hM;have hkey:Lx.keyList.contains (b[i]::r)=false:=by
  cases h:Lx.keyList.contains (b[i]::r) with
  |false=>rfl
  |true=>
   obtain⟨c,d,r2,h1,h2,_⟩:=DF h;rw[List.cons.injEq] at h1;rw[←h1.1,hlo] at h2;cases h2
 rw[hkey] at hK;have hS:=oF b[i];have hG:=o5 b[i];have hD:=mh b[i];have hY:=Gx b[i];rw[hlo] at hS;rw[hup] at hG;rw[hdg] at hD;rw[hc] at hY;rw[hr];unfold Lx.putL EN;generalize b[i]::r=X at *;by_cases hlen:40<X.length
 ·rw[if_pos ⟨by split<;>decide,by split<;>decide,hlen⟩]
  simp only;refine⟨0,Lx.textOf X,0,ay.of ?_⟩;have hl2:40<(X.length:Int):=by omega
  rw[h85];simp[-Int.natCast_add,hx,yM,hD,hS,hG,hY,he,hsl,hsz,hl2]
 ·have hl2:¬40<(X.length:Int):=by omega
  rw[if_neg (fun h=>hlen h.2.2)];simp only;rw[hnx];refine ay.of ?_;rw[h85];cases hm:Lx.markList.contains X<;>(rw[hm] at hM;simp[-Int.natCast_add,-List.contains_eq_mem,hx,yM,hD,hS,hG,hY,he,hsl,hsz,hl2,hK,hM])
theorem YN(b:ByteArray)(hb:b.size≤1000000)(i:Nat)(hi:i<b.size)(h1:Lx.lowB b[i]=false)(h2:Lx.upB b[i]=false)(h3:Lx.digitB b[i]=false)(h4:¬b[i].toNat=34)(h5:Lx.symB b[i]=false) :
  EN b i (if Lx.markList.contains [b[i]]=true then Lx.putL 7 [b[i]] 0 (D b (i+1)) else .error 101) (ev (q85 (sv b) (iv i))):=by
 have hx:=fun(k:AV→aM)=>nX (d:=aM.fail) (k:=k) hi
 rw[iL hi] at hx;have yM:¬(b[i].toNat:Int)=34:=by omega
 obtain⟨j,hj⟩:∃j,j=i+1:=⟨_,rfl⟩;have e1:=u6 hj (by omega);have hsl:=fun(k:AV→aM)=>ab6 (d:=aM.fail) (k:=k) (s:=b) (l:=i) (m:=j) (by omega) (by omega)
 have hone:b.extract i j=Lx.textOf [b[i]]:=Lx.text_eq (by rw[hj,Lib.extract_data,Nat.add_sub_cancel_left,show b.data.toList.drop i=b[i]::b.data.toList.drop (i+1) from dz hi];rfl);rw[hone] at hsl;have hnx:b.size-(D b (i+1)).length=j:=by rw[nu];omega
 have hsz:((Lx.textOf [b[i]]).size:Int)=1:=yQ [b[i]];have hK:=abI (Lx.textOf [b[i]]);have hM:=Pm (Lx.textOf [b[i]]);rw[IL] at hK;rw[Dm] at hM;have hkey:Lx.keyList.contains [b[i]]=false:=by
  cases h:Lx.keyList.contains [b[i]] with
  |false=>rfl
  |true=>
   obtain⟨c,d,r2,h1,h2,_⟩:=DF h;simp at h1
 rw[hkey] at hK;have hS:=oF b[i];have hG:=o5 b[i];have hD:=mh b[i];have hY:=Gx b[i];rw[h1] at hS;rw[h2] at hG;rw[h3] at hD;rw[h5] at hY;cases hm:Lx.markList.contains [b[i]] with
 |true=>
  rw[hm] at hM;simp only[if_true];unfold Lx.putL EN;rw[if_neg (by simp)];simp only;rw[hnx];exact ay.of (by rw[h85];simp[-Int.natCast_add,hx,yM,hD,hS,hG,hY,e1,hsl,hsz,hK,hM])
 |false=>
  rw[hm] at hM;simp only[Bool.false_eq_true,if_false];exact⟨0,eB,0,ay.of (by rw[h85];simp[-Int.natCast_add,hx,yM,hD,hS,hG,hY,e1,hsl,hsz,hK,hM])⟩
theorem abZ(b:ByteArray)(p:UInt8→Bool)(i:Nat):(D b i).take (Lx.adv p b i-i)=(D b i).takeWhile p:=by
 have h:=Lx.adv_text p b i;rw[Lib.extract_data] at h;exact h
theorem af9:∀(l:List UInt8),l.all Lx.digitB=true→(nt l).all Lx.digitB=true∧(l≠[]→nt l≠[])∧((nt l).length=1∨∀c r,nt l=c::r→¬c.toNat=48)
 |[],_=>⟨rfl,fun h=>absurd rfl h,.inr fun c r h=>by simp[nt] at h⟩
 |[c],h=>⟨h,fun _=>by simp[nt],.inl rfl⟩
 |c::d::r,h=>by
  rw[nt];by_cases h48:c.toNat=48
  ·rw[if_pos h48]
   rw[List.all_cons,Bool.and_eq_true] at h;obtain⟨i1,i2,i3⟩:=af9 (d::r) h.2;exact⟨i1,fun _=>i2 (by simp),i3⟩
  ·rw[if_neg h48]
   exact⟨h,fun _=>by simp,.inr fun c' r' e=>by cases e;exact h48⟩
theorem one_num(b:ByteArray)(hb:b.size≤1000000)(i:Nat)(hi:i<b.size)(hc:Lx.digitB b[i]=true) :
  EN b i (match Lx.parseD (Lx.numText ((D b i).takeWhile Lx.digitB)) with|none=>.error 102|some n=>Lx.putL 3 (Lx.numText ((D b i).takeWhile Lx.digitB)) n ((D b i).dropWhile Lx.digitB)) (ev (q85 (sv b) (iv i))):=by
 have hx:=fun(k:AV→aM)=>nX (d:=aM.fail) (k:=k) hi
 rw[iL hi] at hx;have hcls:=agJ b[i];rw[hc] at hcls;have yM:¬(b[i].toNat:Int)=34:=by
  intro h;have h':b[i].toNat=34:=by omega
  simp[h'] at hcls
 have hD:=mh b[i];rw[hc] at hD;obtain⟨r,hr⟩:∃r,(D b i).takeWhile Lx.digitB=b[i]::r:=⟨_,by rw[dz hi,List.takeWhile_cons_of_pos hc]⟩;have hle:=Lx.adv_le Lx.digitB b i (by omega);have hlt:i<Lx.adv Lx.digitB b i:=by
  have:=uZ (p:=Lx.digitB) hi hc;have:=Lx.adv_ge Lx.digitB b (i+1);omega
 have hnx:b.size-((D b i).dropWhile Lx.digitB).length=Lx.adv Lx.digitB b i:=Lx.adv_pos Lx.digitB b i (by omega);have he:=aiR b hb i;have htk:=abZ b Lx.digitB i;obtain⟨y,hy⟩:∃y,y=Lx.adv Lx.digitB b i:=⟨_,rfl⟩;rw[←hy] at he hle hlt hnx htk;obtain⟨z,g,g1,g2,g3⟩:=agy b hb y hle (i:Int) _ i (Nat.le_refl _) hlt;have hne:(D b i).takeWhile Lx.digitB≠[]:=by rw[hr];simp
 rw[htk,←N8 _ hne] at g3;have hall:((D b i).takeWhile Lx.digitB).all Lx.digitB=true:=List.all_takeWhile;obtain⟨n1,n2,n3⟩:=af9 _ hall;rw[←N8 _ hne] at n1 n2 n3;have hsl:=fun(k:AV→aM)=>ab6 (d:=aM.fail) (k:=k) (s:=b) (l:=z) (m:=y) (by omega) hle
 have htx:b.extract z y=Lx.textOf (Lx.numText ((D b i).takeWhile Lx.digitB)):=Lx.text_eq (by rw[Lib.extract_data];exact g3);rw[htx] at hsl;have hn2:=n2 hne;have hlen:(Lx.numText ((D b i).takeWhile Lx.digitB)).length≤b.size:=by
  rw[←g3,List.length_take];have:=nu b z;omega
 generalize Lx.numText ((D b i).takeWhile Lx.digitB)=X at *;have hXs:(Lx.textOf X).size=X.length:=Lx.textOf_size X;have hXd:(Lx.textOf X).data.toList=X:=Lx.textOf_data X;have hp:=acV (Lx.textOf X) (by omega) (by rw[hXs];exact List.length_pos_iff.2 hn2) (by
  rcases n3 with n3|n3
  ·exact .inl (by omega)
  ·right
   match X,n3 with
   |c::r,n3=>exact n3 c r rfl
   |[],_=>exact absurd rfl hn2) (by rw[hXd];exact n1)
 rw[hXd] at hp;cases hq:Lx.parseD X with
 |none=>
  rw[hq] at hp;exact⟨0,eB,0,ay.of (by rw[h85];simp[-Int.natCast_add,hx,yM,hD,he,g,hsl,hp])⟩
 |some n=>
  rw[hq] at hp;unfold EN Lx.putL;simp only[ne_eq,not_true_eq_false,false_and,and_false,if_false];rw[hnx];exact ay.of (by rw[h85];simp[-Int.natCast_add,hx,yM,hD,he,g,hsl,hp])
theorem YK(b:ByteArray)(hb:b.size≤1000000)(i:Nat)(hi:i<b.size):EN b i (Lx.oneL (D b i)) (ev (q85 (sv b) (iv i))):=by
 have hd:=dz hi;rw[hd];unfold Lx.oneL;simp only;rw[←hd];by_cases h1:Lx.lowB b[i]=true∨Lx.upB b[i]=true
 ·rw[if_pos h1];exact YL b hb i hi h1
 ·rw[if_neg h1]
  by_cases h2:Lx.digitB b[i]=true
  ·rw[if_pos h2];exact one_num b hb i hi h2
  ·rw[if_neg h2]
   by_cases h3:b[i].toNat=34
   ·rw[if_pos h3];exact YM b hb i hi h3
   ·rw[if_neg h3]
    by_cases h4:Lx.symB b[i]=true
    ·rw[if_pos h4];exact ac3 b hb i hi h4
    ·rw[if_neg h4]
     exact YN b hb i hi (by cases h:Lx.lowB b[i] with|false=>rfl|true=>exact absurd (.inl h) h1) (by cases h:Lx.upB b[i] with|false=>rfl|true=>exact absurd (.inr h) h1) (by simpa using h2) h3 (by simpa using h4)
end Go.Proofs.YtijcobeebaceoaaGreatDoor
