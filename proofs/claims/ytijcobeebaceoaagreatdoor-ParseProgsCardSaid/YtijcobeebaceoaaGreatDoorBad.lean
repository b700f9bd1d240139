/- Joined texts. -/
import Derived.Test.YtijcobeebaceoaaGreatDoorBac
import Derived.Shelf.Strings.Trim
import Derived.Shelf.Small.Utf8
import Derived.Shelf.Small.Strs
import Derived.Shelf.Strings.Search1
import Derived.Shelf.Strings.Prefix
import Derived.Shelf.Unicode.DecodeSlow
import Derived.Test.YtijcobeebaceoaaGreatDoorProg
import Derived.Lib.IndexAny
import Derived.Lib.Hide
import Derived.WalkKit
import Derived.WalkSpells
import Derived.WalkLawsBesides
import Derived.Deep.LoopGhost
import Derived.Deep.QuietTactic
import Derived.BigQuiet
import Derived.StillTailTactics
import Derived.IntWalk
import Derived.Lib.DecodeN
import Derived.Lib.RuneCount
set_option linter.all false
namespace Go.Proofs.YtijcobeebaceoaaGreatDoor
open Go.RowKit
structure Q where
 k:Nat
 xs:List PV
abbrev Rs:=Nat×List PV
inductive aK where
 |bot
 |fail
 |ok (r:Rs)
structure Shape where
 ex:bg:=.ret
 v:AV:=.tup []
 e:Env:=[]
 h:List af:=[]
 m:Nat
 rw:List Nat:=[]
structure og where
 lp:Option (Nat×Nat):=none
 f:Nat
 args:List AV:=[]
 e:Env:=[]
 h:List af:=[]
 n:Nat
 rin:List Nat:=[]
 fam:Nat
 base:Option Nat:=none
 wm:List Nat:=[]
inductive Et where
 |say (f:SF) (k:Et)
 |alt (a b:Et)
 |call (q:Nat) (ps:List PV) (s:Nat) (pats:List PV) (k:Et)
 |out (s:Nat) (ps:List PV)
 |goto (q:Nat) (ps:List PV)
 |no (t:Tr)
 |ext (g:List PV→Option (Nat×List PV))
def U8:Et:=.no (.ret (.tup []) [])
def nth{α:Type}(d:α):List α→Nat→α
 |[],_=>d
 |a::_,0=>a
 |_::l,n+1=>nth d l n
def jh:Shape:={m:=0 }
def dEn:og:={f:=0,n:=0,fam:=0 }
section
variable{β:Type}
open Classical in
noncomputable def isK(d:β)(p y:PV)(k:β):β:=if p=y then k else d
def YJ(d:β)(ys:List PV)(k:β):β:=match ys with
 |[]=>k
 |_=>d
def FW(d:β)(ys:List PV)(k:PV→List PV→β):β:=match ys with
 |y::r=>k y r
 |[]=>d
def UJ(d:β)(w:AV)(k:PV→β):β:=match w with
 |.pv y=>k y
 |_=>d
def LW(d:β)(w:AV)(k:List PV→β):β:=match w with
 |.cptr ys=>k ys
 |_=>d
def Ct(d:β)(w:AV)(k:PV→PV→β):β:=match w with
 |.tup [.pv y,.pv z]=>k y z
 |_=>d
def Fe:List AV→Option (List PV)
 |[]=>some []
 |.pv p::l=>match Fe l with
  |some r=>some (p::r)
  |none=>none
 |_::_=>none
theorem zF:∀{l:List AV} {ps:List PV},Fe l=some ps→l=ps.map .pv
 |[],ps,h=>by cases h;rfl
 |a::l,ps,h=>by
  unfold Fe at h;split at h
  ·rename_i e;cases e
  ·rename_i p l' e
   cases e;split at h
   ·rename_i r hr
    cases h;rw[List.map_cons,←zF hr]
   ·cases h
  ·cases h
def Cu(d:β)(w:AV)(k:List PV→PV→β):β:=match w with
 |.tup [.agg l,.pv z]=>match Fe l with
  |some ys=>k ys z
  |none=>d
 |_=>d
open Classical in
noncomputable def qg{α:Type}(d:β)(p:α→Prop)(k:α→β):β:=if h:∃w,p w then k h.choose else d
noncomputable def H6(d:β)(p y:PV)(l:List PV)(k:List PV→β):β:=match p with
 |.sym i=>match Nat.blt i l.length with
  |true=>isK d (nm l i) y (k l)
  |false=>match Nat.beq i l.length with
   |true=>k (l++[y])
   |false=>d
 |.lit v=>isK d (.lit v) y (k l)
 |.rows es=>match jv l.length (mq es) with
  |true=>isK d (aj (nm l) (.rows es)) y (k l)
  |false=>d
 |_=>d
noncomputable def KY(d:β):List PV→List PV→List PV→(List PV→β)→β
 |[],ys,l,k=>YJ d ys (k l)
 |p::ps,ys,l,k=>FW d ys fun y r=>H6 d p y l fun l'=>KY d ps r l' k
noncomputable def EX(d:β)(r w:AV)(l:List PV)(k:List PV→β):β:=match r with
 |.pv p=>UJ d w fun y=>H6 d p y l k
 |.cptr ps=>LW d w fun ys=>KY d ps ys l k
 |.tup [.pv p,.pv q]=>Ct d w fun y z=>H6 d p y l fun l'=>H6 d q z l' k
 |.tup [.agg asxx,.pv q]=>match Fe asxx with
  |some ps=>Cu d w fun ys z=>H6 d q z l fun l'=>KY d ps ys l' k
  |none=>d
 |_=>d
noncomputable def jH(P:Program)(d:β)(b:BinOp)(t:TypeId)(u v:AV)(k:AV→β):β:=qg d (fun w=>dL P b t u v w∧qZ w) k
noncomputable def gm(P:Program)(d:β)(t:TypeId)(u:AV)(k:AV→β):β:=qg d (fun w=>mF P t u w∧qZ w) k
noncomputable def fB(P:Program)(d:β)(t:TypeId)(u i:AV)(k:AV→β):β:=qg d (fun w=>mW P t u i w∧qZ w) k
noncomputable def Lr(P:Program)(d:β)(t:TypeId)(u i:AV)(k:AV→β):β:=qg d (fun w=>qK P t u i=some w∧qZ w) k
noncomputable def EO(P:Program)(d:β)(t:TypeId)(u:AV)(lo hi:Option AV)(k:AV→β):β:=qg d (fun w=>Ai P t u lo hi w∧qZ w) k
def JH(P:Program)(s d:TypeId)(u r:AV):Prop:=uY P s d u=some r
def amN(P:Program)(o:UnOp)(u r:AV):Prop:=∃a c,u.val? = some a∧bL P (Op.unary o a)=some c∧lI c=some r
noncomputable def rG(P:Program)(d:β)(s t:TypeId)(u:AV)(k:AV→β):β:=qg d (fun w=>JH P s t u w∧qZ w) k
noncomputable def unK(P:Program)(d:β)(o:UnOp)(u:AV)(k:AV→β):β:=qg d (fun w=>amN P o u w∧qZ w) k
noncomputable def lu(P:Program)(d:β)(t:TypeId)(s x:AV)(k:PV→β):β:=qg d (fun w=>MG P t s x w∧NS w) k
open Classical in
noncomputable def mU(P:Program)(d:β)(t:TypeId)(s x:AV)(k:β):β:=if JI P t s x then k else d
noncomputable def mxK(P:Program)(d:β)(mn:Bool)(u v:AV)(k:AV→β):β:=qg d (fun w=>amQ P mn u v w∧qZ w) k
noncomputable def Gl(d:β)(p i:PV)(o:Nat)(c:List PV)(k:PV→β):β:=qg d (fun w=>abp p i o c w∧NS w) k
noncomputable def mkK(P:Program)(d:β)(t:TypeId)(n:AV)(k:PV→β):β:=qg d (fun w=>ajg P t n w∧NS w) k
def apx:AV→PV
 |.pv p=>p
 |_=>.any
def auk:AV→PV
 |.pv p=>p
 |.agg l=>.rows [l.map apx]
 |_=>.any
noncomputable def o6(P:Program)(d:β)(f:SF)(l:List PV)(k:List PV→β):β:=match f with
 |.bin b t u v r=>jH P d b t (ah (nm l) u) (ah (nm l) v) fun w=>EX d r w l k
 |.len t u r=>gm P d t (ah (nm l) u) fun w=>EX d r w l k
 |.idx t u i r=>fB P d t (ah (nm l) u) (ah (nm l) i) fun w=>EX d r w l k
 |.ind t u i r=>Lr P d t (ah (nm l) u) (ah (nm l) i) fun w=>EX d r w l k
 |.slc t u lo hi r=>EO P d t (ah (nm l) u) (lo.map (ah (nm l))) (hi.map (ah (nm l))) fun w=>EX d r w l k
 |.conv s t u r=>rG P d s t (ah (nm l) u) fun w=>EX d r w l k
 |.un o u r=>unK P d o (ah (nm l) u) fun w=>EX d r w l k
 |.app t s x j=>lu P d t (ah (nm l) s) (ah (nm l) x) fun y=>H6 d (.sym j) y l k
 |.app0 t s x=>mU P d t (ah (nm l) s) (ah (nm l) x) (k l)
 |.names=>k l
 |.mx mn u v r=>mxK P d mn (ah (nm l) u) (ah (nm l) v) fun w=>EX d r w l k
 |.set p i o c j=>Gl d (aj (nm l) p) (aj (nm l) i) o (aL (nm l) c) fun y=>H6 d (.sym j) y l k
 |.mk t n j=>mkK P d t (ah (nm l) n) fun y=>H6 d (.sym j) y l k
 |.apq t s x j=>lu P d t (ah (nm l) s) (ah (nm l) x) fun y=>H6 d (.sym j) y l k
end
def aK.alt(a b:aK):aK:=match a with
 |.bot=>.bot
 |.fail=>b
 |.ok r=>.ok r
def tC(o:Option Rs)(s:Nat)(k:List PV→aK):aK:=match o with
 |none=>.bot
 |some (s',ys)=>match Nat.beq s' s with
  |true=>k ys
  |false=>.fail
def gX(o:Option Rs):aK:=match o with
 |none=>.bot
 |some r=>.ok r
def aat(o:Option Rs):aK:=match o with
 |none=>.fail
 |some r=>.ok r
noncomputable def run(P:Program)(O:Q→Option Rs):Et→List PV→aK
 |.say f k,l=>o6 P .fail f l fun l'=>run P O k l'
 |.alt a b,l=>(run P O a l).alt (run P O b l)
 |.call q ps s pats k,l=>tC (O ⟨q,aL (nm l) ps⟩) s fun ys=>KY .fail pats ys l fun l'=>run P O k l'
 |.out s ps,l=>.ok (s,aL (nm l) ps)
 |.goto q ps,l=>gX (O ⟨q,aL (nm l) ps⟩)
 |.no _,_=>.fail
 |.ext g,l=>aat (g l)
def nI:List PV→List PV
 |[]=>[]
 |p::l=>ED p::nI l
def mM(o:Option Rs):aK:=match o with
 |none=>.bot
 |some (_,ys)=>.ok (0,nI ys)
def weakD(o:Option Rs):aK:=match o with
 |none=>.bot
 |some (_,ys)=>.ok (0,dD ys)
def weakM(m:List Nat)(o:Option Rs):aK:=match o with
 |none=>.bot
 |some (s,ys)=>match nth 0 m s with
  |0=>.ok (0,dD ys)
  |j+1=>.ok (j+1,ys)
noncomputable def body(P:Program)(E:Nat→og)(T:Nat→Et)(O:Q→Option Rs)(q:Q):aK:=match(E q.k).base with
 |some b=>match(E q.k).wm with
  |[]=>match(E q.k).h with
   |[]=>mM (O ⟨b,q.xs⟩)
   |_::_=>weakD (O ⟨b,q.xs⟩)
  |x::l=>weakM (x::l) (O ⟨b,q.xs⟩)
 |none=>run P O (T q.k) q.xs
section
variable{β:Type}
theorem Ii(d:β)(p y:PV)(k:Option (List PV))(g:List PV→β):(match isK none p y k with|none=>d|some l=>g l)=isK d p y (match k with|none=>d|some l=>g l):=by
 unfold isK;by_cases h:p=y
 ·rw[if_pos h,if_pos h]
 ·rw[if_neg h,if_neg h]
theorem qH(d:β)(p y:PV)(l:List PV)(k:List PV→Option (List PV))(g:List PV→β):(match H6 none p y l k with|none=>d|some l=>g l)=H6 d p y l fun l'=>(match k l' with|none=>d|some l=>g l):=by
 cases p with
 |sym i=>
  simp only[H6];cases Nat.blt i l.length with
  |true=>exact Ii ..
  |false=>cases Nat.beq i l.length<;>rfl
 |lit v=>exact Ii ..
 |rows es=>
  simp only[H6];cases jv l.length (mq es) with
  |true=>exact Ii ..
  |false=>rfl
 |_=>rfl
theorem AY(d:β)(g:List PV→β):∀(ps ys:List PV) (l:List PV) (k:List PV→Option (List PV)),(match KY none ps ys l k with|none=>d|some l=>g l)=KY d ps ys l fun l'=>(match k l' with|none=>d|some l=>g l)
 |[],ys,l,k=>by
  rw[KY,KY];unfold YJ;cases ys<;>rfl
 |p::ps,ys,l,k=>by
  rw[KY,KY];unfold FW;cases ys with
  |nil=>rfl
  |cons y r=>
   simp only;rw[qH];congr 1;funext l';exact AY d g ps r l' k
theorem acD(d:β)(w:AV)(k:PV→Option (List PV))(g:List PV→β):(match UJ none w k with|none=>d|some l=>g l)=UJ d w fun y=>(match k y with|none=>d|some l=>g l):=by
 cases w<;>rfl
theorem Ve(d:β)(w:AV)(k:List PV→Option (List PV))(g:List PV→β):(match LW none w k with|none=>d|some l=>g l)=LW d w fun y=>(match k y with|none=>d|some l=>g l):=by
 cases w<;>rfl
theorem UM(d:β)(w:AV)(k:PV→PV→Option (List PV))(g:List PV→β):(match Ct none w k with|none=>d|some l=>g l)=Ct d w fun y z=>(match k y z with|none=>d|some l=>g l):=by
 have key:(∃y z,w=.tup [.pv y,.pv z])∨∀y z,w≠.tup [.pv y,.pv z]:=by
  by_cases h:∃y z,w=.tup [.pv y,.pv z]
  ·exact .inl h
  ·exact .inr fun y z e=>h ⟨y,z,e⟩
 rcases key with⟨y,z,rfl⟩|h
 ·rfl
 ·have e:∀{γ:Type} (d:γ) (k:PV→PV→γ),Ct d w k=d:=by
   intro γ d k;unfold Ct;split
   ·rename_i y z;exact absurd rfl (h y z)
   ·rfl
  rw[e,e]
theorem UN(d:β)(w:AV)(k:List PV→PV→Option (List PV))(g:List PV→β):(match Cu none w k with|none=>d|some l=>g l)=Cu d w fun y z=>(match k y z with|none=>d|some l=>g l):=by
 have key:(∃l y z,w=.tup [.agg l,.pv z]∧Fe l=some y)∨∀{γ:Type} (d:γ) (k:List PV→PV→γ),Cu d w k=d:=by
  by_cases h:∃l y z,w=.tup [.agg l,.pv z]∧Fe l=some y
  ·exact .inl h
  ·refine .inr fun d k=>?_
   unfold Cu;split
   ·split
    ·rename_i l z _ ys hy;exact absurd ⟨l,ys,z,rfl,hy⟩ h
    ·rfl
   ·rfl
 rcases key with⟨l,y,z,rfl,hy⟩|h
 ·simp only[Cu,hy]
 ·rw[h,h]
theorem FM(r:AV):(∃p,r=.pv p)∨(∃ps,r=.cptr ps)∨(∃p q,r=.tup [.pv p,.pv q])∨(∃asxx ps q,r=.tup [.agg asxx,.pv q]∧Fe asxx=some ps)∨∀{γ:Type} (d:γ) (w:AV) (l:List PV) (k:List PV→γ),EX d r w l k=d:=by
 by_cases h1:∃p,r=.pv p
 ·exact .inl h1
 by_cases h2:∃ps,r=.cptr ps
 ·exact .inr (.inl h2)
 by_cases h3:∃p q,r=.tup [.pv p,.pv q]
 ·exact .inr (.inr (.inl h3))
 by_cases h4:∃asxx ps q,r=.tup [.agg asxx,.pv q]∧Fe asxx=some ps
 ·exact .inr (.inr (.inr (.inl h4)))
 refine .inr (.inr (.inr (.inr fun d w l k=>?_)));unfold EX;split
 ·exact absurd ⟨_,rfl⟩ h1
 ·exact absurd ⟨_,rfl⟩ h2
 ·exact absurd ⟨_,_,rfl⟩ h3
 ·split
  ·rename_i asxx q _ ps hp;exact absurd ⟨asxx,ps,q,rfl,hp⟩ h4
  ·rfl
 ·rfl
theorem acU(d:β)(r w:AV)(l:List PV)(k:List PV→Option (List PV))(g:List PV→β):(match EX none r w l k with|none=>d|some l=>g l)=EX d r w l fun l'=>(match k l' with|none=>d|some l=>g l):=by
 rcases FM r with⟨p,rfl⟩|⟨ps,rfl⟩|⟨p,q,rfl⟩|⟨asxx,ps,q,rfl,hp⟩|h
 ·simp only[EX];rw[acD];congr 1;funext y;exact qH ..
 ·simp only[EX];rw[Ve];congr 1;funext y;exact AY ..
 ·simp only[EX];rw[UM];congr 1;funext y z;rw[qH];congr 1;funext l';exact qH ..
 ·simp only[EX,hp];rw[UN];congr 1;funext y z;rw[qH];congr 1;funext l';exact AY ..
 ·rw[h,h]
theorem VT{α:Type}(d:β)(p:α→Prop)(k:α→Option (List PV))(g:List PV→β):(match qg none p k with|none=>d|some l=>g l)=qg d p fun w=>(match k w with|none=>d|some l=>g l):=by
 unfold qg;by_cases h:∃w,p w
 ·rw[dif_pos h,dif_pos h]
 ·rw[dif_neg h,dif_neg h]
theorem Vp(P:Program)(d:β)(t:TypeId)(s x:AV)(k:Option (List PV))(g:List PV→β):(match mU P none t s x k with|none=>d|some l=>g l)=mU P d t s x (match k with|none=>d|some l=>g l):=by
 unfold mU;by_cases h:JI P t s x
 ·rw[if_pos h,if_pos h]
 ·rw[if_neg h,if_neg h]
theorem WA(P:Program)(d:β)(f:SF)(l:List PV)(k:List PV→Option (List PV))(g:List PV→β):(match o6 P none f l k with|none=>d|some l=>g l)=o6 P d f l fun l'=>(match k l' with|none=>d|some l=>g l):=by
 cases f with
 |app0 t s x=>exact Vp ..
 |names=>rfl
 |_=>simp only[o6,jH,gm,fB,Lr,EO,rG,unK,lu,mxK,Gl,mkK,VT,acU,qH]
theorem BS(P:Program)(d:β)(f:SF)(l:List PV)(g:List PV→β):o6 P d f l g=match o6 P none f l some with|none=>d|some l'=>g l':=by rw[WA]
theorem AZ(d:β)(ps ys l:List PV)(g:List PV→β):KY d ps ys l g=match KY none ps ys l some with|none=>d|some l'=>g l':=by rw[AY]
end
def aK.Agree(a b:aK):Prop:=a≠.bot→b≠.bot→a=b
def Compat(O O':Q→Option Rs):Prop:=∀q r r',O q=some r→O' q=some r'→r=r'
theorem pM{P:Program}{O O':Q→Option Rs}(h:Compat O O'):∀(t:Et) (l:List PV),(run P O t l).Agree (run P O' t l)
 |.say f k,l=>by
  rw[run,run,BS,BS P _ _ _ (fun l'=>run P O' k l')];cases o6 P none f l some with
  |none=>intro _ _;rfl
  |some l'=>exact pM h k l'
 |.alt a b,l=>by
  rw[run,run];have h1:=pM (P:=P) h a l;have h2:=pM (P:=P) h b l;intro n1 n2;cases e1:run P O a l with
  |bot=>rw[e1] at n1;exact absurd rfl n1
  |fail=>
   cases e2:run P O' a l with
   |bot=>rw[e2] at n2;exact absurd rfl n2
   |fail=>
    rw[e1] at n1;rw[e2] at n2;exact h2 n1 n2
   |ok r=>have:=h1 (by rw[e1];simp) (by rw[e2];simp);rw[e1,e2] at this;cases this
  |ok r=>
   cases e2:run P O' a l with
   |bot=>rw[e2] at n2;exact absurd rfl n2
   |fail=>have:=h1 (by rw[e1];simp) (by rw[e2];simp);rw[e1,e2] at this;cases this
   |ok r'=>have:=h1 (by rw[e1];simp) (by rw[e2];simp);rw[e1,e2] at this;exact this
 |.call q ps s pats k,l=>by
  rw[run,run];intro n1 n2;cases e1:O ⟨q,aL (nm l) ps⟩ with
  |none=>rw[e1] at n1;exact absurd rfl n1
  |some r=>
   cases e2:O' ⟨q,aL (nm l) ps⟩ with
   |none=>rw[e2] at n2;exact absurd rfl n2
   |some r'=>
    have e:=h _ _ _ e1 e2;subst e;rw[e1] at n1;rw[e2] at n2;obtain⟨s',ys⟩:=r;simp only[tC] at n1 n2 ⊢;cases hb:Nat.beq s' s with
    |false=>rfl
    |true=>
     rw[hb] at n1 n2;simp only at n1 n2 ⊢;rw[AZ] at n1 n2;rw[AZ,AZ _ _ _ _ (fun l'=>run P O' k l')];cases hm:KY none pats ys l some with
     |none=>rfl
     |some l'=>
      rw[hm] at n1 n2;exact pM h k l' n1 n2
 |.out s ps,l=>by rw[run,run];intro _ _;rfl
 |.goto q ps,l=>by
  rw[run,run];intro n1 n2;cases e1:O ⟨q,aL (nm l) ps⟩ with
  |none=>rw[e1] at n1;exact absurd rfl n1
  |some r=>
   cases e2:O' ⟨q,aL (nm l) ps⟩ with
   |none=>rw[e2] at n2;exact absurd rfl n2
   |some r'=>rw[h _ _ _ e1 e2]
 |.no _,l=>by rw[run,run];intro _ _;rfl
 |.ext _,l=>by rw[run,run];intro _ _;rfl
theorem OI{P:Program}{E:Nat→og}{T:Nat→Et}{O O':Q→Option Rs}(h:Compat O O')(q:Q):(body P E T O q).Agree (body P E T O' q):=by
 unfold body;split
 ·rename_i b _
  have e0:∀o:Option Rs,(match(E q.k).wm with|[]=>(match(E q.k).h with|[]=>mM o|_::_=>weakD o)|x::l=>weakM (x::l) o)≠.bot→o≠none:=by
   intro o h0 e;subst e;split at h0
   ·split at h0<;>exact h0 rfl
   ·exact h0 rfl
  intro n1 n2;cases e1:O ⟨b,q.xs⟩ with
  |none=>exact absurd e1 (e0 _ n1)
  |some r=>
   cases e2:O' ⟨b,q.xs⟩ with
   |none=>exact absurd e2 (e0 _ n2)
   |some r'=>rw[h _ _ _ e1 e2]
 ·exact pM h _ _
inductive EvR(P:Program)(E:Nat→og)(T:Nat→Et):Q→Rs→Prop where
 |mk (q:Q) (r:Rs) (O:Q→Option Rs) (hO:∀q r,O q=some r→EvR P E T q r) (h:body P E T O q=.ok r):EvR P E T q r
theorem EvR.one{P:Program}{E:Nat→og}{T:Nat→Et}{q:Q}{r:Rs}(h:EvR P E T q r):∀{r'},EvR P E T q r'→r=r':=by
 induction h with
 |mk q r O hO h ih=>
  intro r' h';cases h' with
  |mk _ _ O' hO' h'=>
   have hc:Compat O O':=fun q1 r1 r2 e1 e2=>ih q1 r1 e1 (hO' q1 r2 e2)
   have:=OI (E:=E) (T:=T) hc q (by rw[h];simp) (by rw[h'];simp);rw[h,h'] at this;exact aK.ok.inj this
open Classical in
noncomputable def ax(P:Program)(E:Nat→og)(T:Nat→Et)(q:Q):Option Rs:=if h:∃r,EvR P E T q r then some h.choose else none
theorem ax.iff{P:Program}{E:Nat→og}{T:Nat→Et}{q:Q}{r:Rs}:ax P E T q=some r↔EvR P E T q r:=by
 unfold ax;split
 ·rename_i h
  constructor
  ·intro e;rw[←Option.some.inj e];exact h.choose_spec
  ·intro h';rw[h.choose_spec.one h']
 ·rename_i h
  constructor
  ·intro e;cases e
  ·intro h';exact absurd ⟨r,h'⟩ h
theorem ax.of{P:Program}{E:Nat→og}{T:Nat→Et}{q:Q}{r:Rs}(h:body P E T (ax P E T) q=.ok r):ax P E T q=some r:=
 ax.iff.2 (.mk q r (ax P E T) (fun _ _ h=>ax.iff.1 h) h)
def Il:List Nat→Nat→Bool
 |[],_=>false
 |j::l,i=>Nat.beq j i||Il l i
theorem lg:∀{l:List Nat} {i:Nat},Il l i=true→i∈l
 |[],_,h=>by cases h
 |j::l,i,h=>by
  rw[Il,Bool.or_eq_true] at h;rcases h with h|h
  ·rw[Nat.eq_of_beq_eq_true h];exact List.mem_cons_self ..
  ·exact List.mem_cons_of_mem _ (lg h)
def short:PV→Prop
 |.rows es=>es.length<aZ
 |_=>False
theorem lN{p:PV}(h:short p):∃es,p=.rows es∧es.length<aZ:=by
 cases p with
 |rows es=>exact⟨es,rfl,h⟩
 |_=>exact h.elim
def Good(R:Nat→PV)(l:List Nat):Prop:=∀i∈l,short (R i)
mutual
def pJ(ps:List PV):AV→AV
 |.pv p=>.pv (aj (nm ps) p)
 |.trows t es=>.trows t (bJ (nm ps) es)
 |.tsym t i=>match nm ps i with
  |.rows es=>.trows t es
  |.sym j=>.tsym t j
  |_=>.tsym t i
 |.ptr i o=>.ptr i o
 |.cptr cs=>.cptr (aL (nm ps) cs)
 |.agg l=>.agg (uQ ps l)
 |.tup l=>.tup (uQ ps l)
 |.fn f l=>.fn f (uQ ps l)
 |.sl t lo len sz=>.sl t lo len sz
 |.ifc t v=>.ifc t (pJ ps v)
 |.arr t=>.arr t
 |.aptr t i o=>.aptr t (aj (nm ps) i) o
def uQ(ps:List PV):List AV→List AV
 |[]=>[]
 |a::l=>pJ ps a::uQ ps l
end
def abQ(ps:List PV)(n:Nat):Nat:=match Nat.blt n aZ with
 |true=>n
 |false=>match nm ps (n-aZ) with
  |.sym j=>aZ+j
  |.rows es=>es.length
  |_=>n
def Uw(ps:List PV):af→af
 |.box t l=>.box t (uQ ps l)
 |.tok t s n=>.tok t s (abQ ps n)
 |.dead=>.dead
 |.arr t s p=>.arr t s (aj (nm ps) p)
def V4(ps:List PV):List af→List af
 |[]=>[]
 |x::l=>Uw ps x::V4 ps l
def J2(ps:List PV):Env→Env
 |[]=>[]
 |(d,a)::l=>(d,pJ ps a)::J2 ps l
mutual
def lX(rw_:List Nat):AV→Bool
 |.pv _=>true
 |.trows _ _=>true
 |.tsym _ i=>Il rw_ i
 |.ptr _ _=>true
 |.cptr _=>true
 |.agg l=>nU rw_ l
 |.tup l=>nU rw_ l
 |.fn _ l=>nU rw_ l
 |.sl _ _ _ _=>true
 |.ifc _ v=>lX rw_ v
 |.arr _=>true
 |.aptr _ _ _=>true
def nU(rw_:List Nat):List AV→Bool
 |[]=>true
 |a::l=>lX rw_ a&&nU rw_ l
end
def aaL(rw_:List Nat):af→Bool
 |.box _ l=>nU rw_ l
 |.tok _ _ n=>match Nat.blt n aZ with
  |true=>true
  |false=>Il rw_ (n-aZ)
 |.dead=>true
 |.arr _ _ _=>true
def Oy(rw_:List Nat):List af→Bool
 |[]=>true
 |x::l=>aaL rw_ x&&Oy rw_ l
def Oz(rw_:List Nat):Env→Bool
 |[]=>true
 |(_,a)::l=>lX rw_ a&&Oz rw_ l
theorem oF(R:Nat→PV)(ps:List PV)(i:Nat):nm (aL R ps) i=aj R (nm ps i):=by
 unfold nm;rw[bQ,List.getD_eq_getElem?_getD,List.getD_eq_getElem?_getD,List.getElem?_map];cases ps[i]? with
 |none=>simp[aj]
 |some p=>simp
section
variable(l ps:List PV)
mutual
theorem qB:∀p,aj (nm l) (aj (nm ps) p)=aj (nm (aL (nm l) ps)) p
 |.sym i=>by rw[aj,aj,oF]
 |.rows es=>by rw[aj,aj,aj,sD es]
 |.lit _=>by rw[aj,aj,aj]
 |.opq _ _ _=>by rw[aj,aj,aj]
 |.rng _ _=>by rw[aj,aj,aj]
 |.any=>by rw[aj,aj,aj]
theorem vL:∀p,aL (nm l) (aL (nm ps) p)=aL (nm (aL (nm l) ps)) p
 |[]=>by rw[aL,aL,aL]
 |p::r=>by rw[aL,aL,aL,qB p,vL r]
theorem sD:∀p,bJ (nm l) (bJ (nm ps) p)=bJ (nm (aL (nm l) ps)) p
 |[]=>by rw[bJ,bJ,bJ]
 |p::r=>by rw[bJ,bJ,bJ,vL p,sD r]
end
theorem YH{i:Nat}(h:short (nm (aL (nm l) ps) i)):(∃es,nm ps i=.rows es∧es.length<aZ)∨(∃j,nm ps i=.sym j∧short (nm l j)):=by
 rw[oF] at h;cases hp:nm ps i with
 |rows es=>
  rw[hp,aj] at h;exact .inl ⟨es,rfl,by simpa[short,eu] using h⟩
 |sym j=>rw[hp,aj] at h;exact .inr ⟨j,rfl,h⟩
 |lit v=>rw[hp,aj] at h;exact h.elim
 |opq a b c=>rw[hp,aj] at h;exact h.elim
 |rng a b=>rw[hp,aj] at h;exact h.elim
 |any=>rw[hp,aj] at h;exact h.elim
variable{l ps}{rin:List Nat}(hg:Good (nm (aL (nm l) ps)) rin)
include hg
mutual
theorem wO:∀a,lX rin a=true→ah (nm l) (pJ ps a)=ah (nm (aL (nm l) ps)) a∧jJ (nm l) (pJ ps a)
 |.pv p,_=>by rw[pJ,ah,ah,qB,jJ];exact⟨rfl,trivial⟩
 |.trows t es,_=>by rw[pJ,ah,ah,sD,jJ];exact⟨rfl,trivial⟩
 |.tsym t i,h=>by
  rw[lX] at h;have hs:=hg i (lg h);rcases YH l ps hs with⟨es,he,_⟩|⟨j,he,hj⟩
  ·rw[pJ,he,ah]
   simp only;rw[ah,oF,he,aj,jJ];exact⟨rfl,trivial⟩
  ·obtain⟨es,e1,_⟩:=lN hj
   rw[pJ,he,ah];simp only;rw[ah,oF,he,aj,e1,jJ,e1];exact⟨rfl,trivial⟩
 |.ptr _ _,_=>by rw[pJ,ah,ah,jJ];exact⟨rfl,trivial⟩
 |.cptr cs,_=>by rw[pJ,ah,ah,vL,jJ];exact⟨rfl,trivial⟩
 |.agg r,h=>by have:=pI r (by rw[lX] at h;exact h);rw[pJ,ah,ah,this.1,jJ];exact⟨rfl,this.2⟩
 |.tup r,h=>by have:=pI r (by rw[lX] at h;exact h);rw[pJ,ah,ah,this.1,jJ];exact⟨rfl,this.2⟩
 |.fn _ r,h=>by have:=pI r (by rw[lX] at h;exact h);rw[pJ,ah,ah,this.1,jJ];exact⟨rfl,this.2⟩
 |.sl _ _ _ _,_=>by rw[pJ,ah,ah,jJ];exact⟨rfl,trivial⟩
 |.ifc _ v,h=>by have:=wO v (by rw[lX] at h;exact h);rw[pJ,ah,ah,this.1,jJ];exact⟨rfl,this.2⟩
 |.arr _,_=>by rw[pJ,ah,ah,jJ];exact⟨rfl,trivial⟩
 |.aptr _ i _,_=>by rw[pJ,ah,ah,qB,jJ];exact⟨rfl,trivial⟩
theorem pI:∀a,nU rin a=true→aG (nm l) (uQ ps a)=aG (nm (aL (nm l) ps)) a∧mK (nm l) (uQ ps a)
 |[],_=>by rw[uQ,aG,aG,mK];exact⟨rfl,trivial⟩
 |a::r,h=>by
  rw[nU,Bool.and_eq_true] at h;have h1:=wO a h.1;have h2:=pI r h.2;rw[uQ,aG,aG,h1.1,h2.1,mK];exact⟨rfl,h1.2,h2.2⟩
end
theorem abP(x:af)(h:aaL rin x=true):dR (nm l) (Uw ps x)=dR (nm (aL (nm l) ps)) x∧TsO (nm l) (Uw ps x):=by
 cases x with
 |box t r=>have:=pI hg r h;simp only[Uw,dR,TsO];rw[this.1];exact⟨rfl,this.2⟩
 |arr t s p=>simp only[Uw,dR,TsO,qB];exact⟨trivial,trivial⟩
 |dead=>exact⟨rfl,trivial⟩
 |tok t s n=>
  simp only[Uw,dR,TsO];rw[aaL] at h;have key:dl (nm l) (abQ ps n)=dl (nm (aL (nm l) ps)) n∧dl (nm l) (abQ ps n)<aZ:=by
   unfold abQ;cases hb:Nat.blt n aZ with
   |true=>
    have:n<aZ:=Nat.le_of_ble_eq_true hb;simp only;rw[gJ this,gJ this];exact⟨rfl,this⟩
   |false=>
    rw[hb] at h;simp only at h;have hn:¬n<aZ:=fun hlt=>by rw[Nat.blt,Nat.ble_eq_true_of_le hlt] at hb;cases hb
    have e:dl (nm (aL (nm l) ps)) n=(nm (aL (nm l) ps) (n-aZ)).rowLen:=by unfold dl;rw[if_neg hn]
    rcases YH l ps (hg _ (lg h)) with⟨es,he,hl⟩|⟨j,he,hj⟩
    ·rw[he];simp only
     rw[e,oF,he,aj,gJ hl];refine⟨?_,hl⟩;show es.length=(bJ (nm l) es).length;rw[eu,List.length_map]
    ·obtain⟨es,e1,e2⟩:=lN hj
     rw[he];simp only;rw[e,oF,he,aj,Ed e1,e1];exact⟨rfl,e2⟩
  rw[key.1];rw[key.1] at key;exact⟨rfl,key.2⟩
theorem BO:∀h,Oy rin h=true→bS (nm l) (V4 ps h)=bS (nm (aL (nm l) ps)) h∧Ah (nm l) (V4 ps h)
 |[],_=>⟨rfl,trivial⟩
 |x::r,h=>by
  rw[Oy,Bool.and_eq_true] at h;have h1:=abP hg x h.1;have h2:=BO r h.2;rw[V4,bS,bS,h1.1,h2.1,Ah];exact⟨rfl,h1.2,h2.2⟩
theorem wL:∀e,Oz rin e=true→openE (nm l) (J2 ps e)=openE (nm (aL (nm l) ps)) e∧TsE (nm l) (J2 ps e)
 |[],_=>⟨rfl,trivial⟩
 |(d,x)::r,h=>by
  rw[Oz,Bool.and_eq_true] at h;have h1:=wO hg x h.1;have h2:=wL r h.2;rw[J2,openE,openE,h1.1,h2.1,TsE];exact⟨rfl,h1.2,h2.2⟩
end
def LJ(e:og):Bool:=nU e.rin e.args&&Oy e.rin e.h&&Oz e.rin e.e
def UU(n:Nat):PV→Nat
 |.sym i=>bif Nat.blt i n then n else i+1
 |_=>n
def nxL(n:Nat):List PV→Nat
 |[]=>n
 |p::l=>nxL (UU n p) l
def YF(n:Nat):AV→Nat
 |.pv p=>UU n p
 |.cptr ps=>nxL n ps
 |.tup [.pv p,.pv q]=>UU (UU n p) q
 |.tup [.agg asxx,.pv q]=>match Fe asxx with
  |some ps=>nxL (UU n q) ps
  |none=>n
 |_=>n
def nxF(n:Nat):SF→Nat
 |.bin _ _ _ _ r=>YF n r
 |.len _ _ r=>YF n r
 |.idx _ _ _ r=>YF n r
 |.ind _ _ _ r=>YF n r
 |.slc _ _ _ _ r=>YF n r
 |.conv _ _ _ r=>YF n r
 |.un _ _ r=>YF n r
 |.app _ _ _ j=>UU n (.sym j)
 |.app0 _ _ _=>n
 |.names=>n
 |.mx _ _ _ r=>YF n r
 |.set _ _ _ _ j=>UU n (.sym j)
 |.mk _ _ j=>UU n (.sym j)
 |.apq _ _ _ j=>UU n (.sym j)
def Ao:SF→List Nat
 |.bin _ _ u v _=>aY u++aY v
 |.len _ u _=>aY u
 |.idx _ u i _=>aY u++aY i
 |.ind _ u i _=>aY u++aY i
 |.slc _ u lo hi _=>aY u++ul lo++ul hi
 |.conv _ _ u _=>aY u
 |.un _ u _=>aY u
 |.app _ s x _=>aY s++aY x
 |.app0 _ s x=>aY s++aY x
 |.names=>[]
 |.mx _ u v _=>aY u++aY v
 |.set p i _ c _=>lU p++lU i++jT c
 |.mk _ n _=>aY n
 |.apq _ s x _=>aY s++aY x
def bex(id:Nat):bg→bg
 |.exit j=>match Nat.beq j id with
  |true=>.normal
  |false=>.exit j
 |e=>e
section
variable(S:Nat→List Shape)(E:Nat→og)(cur:og)
def BR(q s:Nat):Shape:=nth jh (S (E q).fam) s
def erase:Et→Nat→Tr
 |.say f k,n=>.say f (nxF n f-n) (erase k (nxF n f))
 |.alt a b,n=>.alt (erase a n) (erase b n)
 |.call q ps s pats k,n=>match(E q).lp with
  |none=>.call ⟨(E q).f,uQ ps (E q).args,V4 ps (E q).h,pJ pats (BR S E q s).v,V4 pats (BR S E q s).h⟩ (nxL n pats-n) (erase k (nxL n pats))
  |some (id,_)=>.blk ⟨id,J2 ps (E q).e,V4 ps (E q).h,bex id (BR S E q s).ex,J2 pats (BR S E q s).e,V4 pats (BR S E q s).h⟩ (nxL n pats-n) (erase k (nxL n pats))
 |.out s ps,_=>match cur.lp with
  |none=>.ret (pJ ps (nth jh (S cur.fam) s).v) (V4 ps (nth jh (S cur.fam) s).h)
  |some _=>.code (nth jh (S cur.fam) s).ex (J2 ps (nth jh (S cur.fam) s).e) (V4 ps (nth jh (S cur.fam) s).h)
 |.goto q ps,_=>.code .normal (J2 ps (E q).e) (V4 ps (E q).h)
 |.no t,_=>t
 |.ext _,_=>.ret (.tup []) []
def agb(ps:List PV)(sh:List Nat)(i:Nat):Bool:=match nm ps i with
 |.sym j=>Il sh j
 |.rows es=>Nat.blt es.length 1000
 |_=>false
def D7(ps:List PV)(sh:List Nat):List Nat→Bool
 |[]=>true
 |i::l=>agb ps sh i&&D7 ps sh l
def shL(ps:List PV):List Nat→List Nat
 |[]=>[]
 |i::l=>match nm ps i with
  |.sym j=>j::shL ps l
  |_=>shL ps l
def shF:SF→List Nat→List Nat
 |.app _ _ _ j,sh=>j::sh
 |.apq _ _ _ j,sh=>j::sh
 |.mk _ _ j,sh=>j::sh
 |.set (.sym i) _ _ _ j,sh=>match Il sh i with
  |true=>j::sh
  |false=>sh
 |_,sh=>sh
def adn:Option (Nat×Nat)→Option (Nat×Nat)→Bool
 |some (a,b),some (c,d)=>Nat.beq a c&&Nat.beq b d
 |_,_=>false
def amG:bg→Bool
 |.normal=>true
 |_=>false
def Gi(s:Shape):Bool:=lX s.rw s.v&&Oy s.rw s.h&&Oz s.rw s.e && !(amG s.ex)
def wfQ(q:Nat)(ps:List PV)(n:Nat)(sh:List Nat):Bool:=Nat.beq ps.length (E q).n&&jv n (jT ps)&&D7 ps sh (E q).rin
def MH:Et→Nat→List Nat→Bool
 |.say f k,n,sh=>jv n (Ao f)&&MH k (nxF n f) (shF f sh)
 |.alt a b,n,sh=>MH a n sh&&MH b n sh
 |.call q ps s pats k,n,sh=>wfQ E q ps n sh&&Nat.beq pats.length (BR S E q s).m&&(match(E q).lp with
  |none=>true
  |some (_,m0)=>Nat.beq (E q).f cur.f&&Nat.beq (E q).h.length m0)&&MH k (nxL n pats) (shL pats (BR S E q s).rw++sh)
 |.out s ps,n,sh=>Nat.blt s (S cur.fam).length&&Nat.beq ps.length (nth jh (S cur.fam) s).m&&jv n (jT ps)&&D7 ps sh (nth jh (S cur.fam) s).rw
 |.goto q ps,n,sh=>wfQ E q ps n sh&&adn (E q).lp cur.lp&&Nat.beq (E q).f cur.f&&Nat.beq (E q).fam cur.fam
 |.no _,_,_=>true
 |.ext _,_,_=>false
end
theorem uq:∀{m:Nat} {l vs:List PV} {X:List PV→Prop},vs.length=m→kH vs→X (l++vs)→exN m l X
 |0,l,vs,X,hl,_,hX=>by
  have:vs=[]:=List.length_eq_zero_iff.1 hl;subst this;simpa[exN] using hX
 |m+1,l,[],X,hl,_,hX=>by simp at hl
 |m+1,l,v::vs,X,hl,hn,hX=>by
  refine⟨v,uq (vs:=vs) (by simpa using hl) (fun p hp=>hn p (List.mem_cons_of_mem _ hp)) ⟨?_,hn v (List.mem_cons_self ..)⟩⟩;simpa using hX
theorem kH.app{l vs:List PV}(h1:kH l)(h2:kH vs):kH (l++vs):=fun p hp=>by
 rcases List.mem_append.1 hp with hp|hp
 ·exact h1 p hp
 ·exact h2 p hp
structure Vy(l l':List PV)(n:Nat):Prop where
 e:∃vs,l'=l++vs
 n:l'.length=n
 ns:kH l'
theorem Vy.trans{l l' l'':List PV}{n m:Nat}(h1:Vy l l' n)(h2:Vy l' l'' m):Vy l l'' m:=by
 obtain⟨vs,rfl⟩:=h1.e;obtain⟨ws,rfl⟩:=h2.e;exact⟨⟨vs++ws,by simp⟩,h2.n,h2.ns⟩
theorem Vy.rest{l l':List PV}{n:Nat}(h:Vy l l' n):∃vs,l'=l++vs∧vs.length=n-l.length∧kH vs:=by
 obtain⟨vs,rfl⟩:=h.e;refine⟨vs,rfl,?_,fun p hp=>h.ns p (List.mem_append_right _ hp)⟩;have:=h.n;simp at this;omega
theorem Vy.good{l l':List PV}{n:Nat}{sh:List Nat}(h:Vy l l' n)(hg:Good (nm l) sh):Good (nm l') sh:=by
 obtain⟨vs,rfl⟩:=h.e;intro i hi;have:=hg i hi;by_cases hl:i<l.length
 ·rwa [kT hl]
 ·exfalso
  unfold nm at this;rw[List.getD_eq_getElem?_getD,List.getElem?_eq_none (by omega)] at this;exact this
theorem Dk{p y:PV}{k:Option (List PV)}{l':List PV}(h:isK none p y k=some l'):p=y∧k=some l':=by
 unfold isK at h;split at h
 ·rename_i e;exact⟨e,h⟩
 ·cases h
theorem kW{p y:PV}{l l':List PV}(h:H6 none p y l some=some l')(hn:kH l)(hy:NS y):Vy l l' (UU l.length p)∧∀ws,aj (nm (l'++ws)) p=y:=by
 cases p with
 |sym i=>
  simp only[H6] at h;cases hb:Nat.blt i l.length with
  |true=>
   have hlt:i<l.length:=Nat.le_of_ble_eq_true hb;rw[hb] at h;obtain⟨e1,e2⟩:=Dk h;cases e2;refine⟨⟨⟨[],by simp⟩,by simp[UU,hb],hn⟩,fun ws=>?_⟩;rw[aj,kT hlt,e1]
  |false=>
   rw[hb] at h;simp only at h;cases hc:Nat.beq i l.length with
   |true=>
    have hi:=Nat.eq_of_beq_eq_true hc;rw[hc] at h;cases h;refine⟨⟨⟨[y],rfl⟩,by rw[UU,hb];simp[hi],hn.app (kH.cons hy kH.nil)⟩,fun ws=>?_⟩;rw[aj,kT (by simp;omega)];unfold nm;rw[List.getD_eq_getElem?_getD,hi];simp
   |false=>rw[hc] at h;cases h
 |lit v=>
  obtain⟨e1,e2⟩:=Dk h;cases e2;exact⟨⟨⟨[],by simp⟩,rfl,hn⟩,fun ws=>by rw[aj,e1]⟩
 |rows es=>
  simp only[H6] at h;cases hb:jv l.length (mq es) with
  |true=>
   rw[hb] at h;obtain⟨e1,e2⟩:=Dk h;cases e2;refine⟨⟨⟨[],by simp⟩,rfl,hn⟩,fun ws=>?_⟩;rw[←e1];exact gD _ fun i hi=>kT (fw hb i (by rw[lU] at hi;exact hi))
  |false=>rw[hb] at h;cases h
 |opq _ _ _=>cases h
 |rng _ _=>cases h
 |any=>cases h
theorem CV{β:Type}{p y:PV}{l:List PV}{k:List PV→Option β}{r:β}(h:H6 none p y l k=some r):∃l',H6 none p y l some=some l'∧k l'=some r:=by
 rw[←qH none p y l some k] at h;split at h
 ·cases h
 ·rename_i l' hl;exact⟨l',hl,h⟩
theorem xB:∀{ps ys l l':List PV},KY none ps ys l some=some l'→kH l→kH ys→Vy l l' (nxL l.length ps)∧∀ws,aL (nm (l'++ws)) ps=ys
 |[],ys,l,l',h,hn,_=>by
  rw[KY] at h;cases ys with
  |nil=>cases h;exact⟨⟨⟨[],by simp⟩,rfl,hn⟩,fun ws=>by rw[aL]⟩
  |cons _ _=>cases h
 |p::ps,ys,l,l',h,hn,hy=>by
  rw[KY] at h;cases ys with
  |nil=>cases h
  |cons y r=>
   have h:H6 none p y l (fun l'=>KY none ps r l' some)=some l':=h;obtain⟨l1,h1,h2⟩:=CV h;obtain⟨e1,e2⟩:=kW h1 hn (hy y (List.mem_cons_self ..));obtain⟨e3,e4⟩:=xB h2 e1.ns (fun p hp=>hy p (List.mem_cons_of_mem _ hp));rw[e1.n] at e3;refine⟨e1.trans e3,fun ws=>?_⟩;obtain⟨vs,rfl⟩:=e3.e;rw[aL,e4,List.append_assoc,e2]
theorem mr{r w:AV}{l l':List PV}(h:EX none r w l some=some l')(hn:kH l)(hw:qZ w):Vy l l' (YF l.length r)∧∀ws,ah (nm (l'++ws)) r=w:=by
 rcases FM r with⟨p,rfl⟩|⟨ps,rfl⟩|⟨p,q,rfl⟩|⟨asxx,ps,q,rfl,hp⟩|hd
 ·simp only[EX] at h
  cases w with
  |pv y=>
   obtain⟨e1,e2⟩:=kW h hn (by cases hw;assumption);exact⟨e1,fun ws=>by rw[ah,e2]⟩
  |_=>cases h
 ·simp only[EX] at h
  cases w with
  |cptr ys=>
   obtain⟨e1,e2⟩:=xB h hn (by cases hw;assumption);exact⟨e1,fun ws=>by rw[ah,e2]⟩
  |_=>cases h
 ·simp only[EX] at h
  unfold Ct at h;split at h
  ·rename_i y z
   have hw:NS y∧NS z:=by
    cases hw with|tup _ hw=>exact⟨by have:=hw (.pv y) (by simp);cases this;assumption,by have:=hw (.pv z) (by simp);cases this;assumption⟩
   obtain⟨l1,h1,h2⟩:=CV h;obtain⟨e1,e2⟩:=kW h1 hn hw.1;obtain⟨e3,e4⟩:=kW h2 e1.ns hw.2;rw[e1.n] at e3;refine⟨e1.trans e3,fun ws=>?_⟩;obtain⟨vs,rfl⟩:=e3.e;rw[ah,aG,aG,aG,ah,ah,e4,List.append_assoc,e2]
  ·cases h
 ·simp only[EX,hp] at h
  unfold Cu at h;split at h
  ·rename_i lw z
   split at h
   ·rename_i ys hy
    have hwl:=zF hy;have hw:kH ys∧NS z:=by
     cases hw with|tup _ hw=>
      refine⟨fun y hy2=>?_,by have:=hw (.pv z) (by simp);cases this;assumption⟩;have h0:=hw (.agg lw) (by simp);cases h0 with|agg _ h0=>
       have:=h0 (.pv y) (by rw[hwl];exact List.mem_map.2 ⟨y,hy2,rfl⟩);cases this;assumption
    obtain⟨l1,h1,h2⟩:=CV h;obtain⟨e1,e2⟩:=kW h1 hn hw.2;obtain⟨e3,e4⟩:=xB h2 e1.ns hw.1;rw[e1.n] at e3;have has:=zF hp;have hnx:YF l.length (.tup [.agg asxx,.pv q])=nxL (UU l.length q) ps:=by simp only[YF,hp]
    refine⟨by rw[hnx];exact e1.trans e3,fun ws=>?_⟩;obtain⟨vs,rfl⟩:=e3.e;have hopen:∀(R:Nat→PV) (l:List PV),aG R (l.map .pv)=(aL R l).map .pv:=by
     intro R l
     induction l with
     |nil=>rw[aL];rfl
     |cons a l ih=>rw[List.map_cons,aG,aL,List.map_cons,ah,ih]
    rw[ah,aG,aG,aG,ah,ah,has,hopen,e4,List.append_assoc,e2,←hwl]
   ·cases h
  ·cases h
 ·rw[hd] at h;cases h
theorem gu{α:Type}{p:α→Prop}{k:α→Option (List PV)}{l':List PV}(h:qg none p k=some l'):∃w,p w∧k w=some l':=by
 unfold qg at h;split at h
 ·rename_i hp;exact⟨_,hp.choose_spec,h⟩
 ·cases h
theorem bX{l vs:List PV}{a:AV}{m:List Nat}(h:jv l.length m=true)(hm:∀i∈aY a,i∈m):ah (nm l) a=ah (nm (l++vs)) a:=
 aP a fun i hi=>(kT (fw h i (hm i hi))).symm
theorem CF{l vs:List PV}{a:PV}{m:List Nat}(h:jv l.length m=true)(hm:∀i∈lU a,i∈m):aj (nm l) a=aj (nm (l++vs)) a:=
 gD a fun i hi=>(kT (fw h i (hm i hi))).symm
theorem KQ{l vs:List PV}{ps:List PV}{m:List Nat}(h:jv l.length m=true)(hm:∀i∈jT ps,i∈m):aL (nm l) ps=aL (nm (l++vs)) ps:=
 ji ps fun i hi=>(kT (fw h i (hm i hi))).symm
theorem UD{P:Program}{f:SF}{l l':List PV}{sh:List Nat}(h:o6 P none f l some=some l')(hn:kH l)(hi:jv l.length (Ao f)=true)(hg:Good (nm l) sh):Vy l l' (nxF l.length f)∧f.ok (nm l') P∧Good (nm l') (shF f sh):=by
 cases f with
 |bin b t u v r=>
  simp only[o6,jH] at h;obtain⟨w,⟨h1,h2⟩,h3⟩:=gu h;obtain⟨e1,e2⟩:=mr h3 hn h2;refine⟨e1,?_,e1.good hg⟩;obtain⟨vs,rfl⟩:=e1.e;have e3:=e2 [];rw[List.append_nil] at e3;show dL P b t _ _ _;rw[←bX hi (fun i hi=>by simp[Ao,hi]),←bX hi (fun i hi=>by simp[Ao,hi]),e3];exact h1
 |len t u r=>
  simp only[o6,gm] at h;obtain⟨w,⟨h1,h2⟩,h3⟩:=gu h;obtain⟨e1,e2⟩:=mr h3 hn h2;refine⟨e1,?_,e1.good hg⟩;obtain⟨vs,rfl⟩:=e1.e;have e3:=e2 [];rw[List.append_nil] at e3;show mF P t _ _;rw[←bX hi (fun i hi=>by simp[Ao,hi]),e3];exact h1
 |idx t u v r=>
  simp only[o6,fB] at h;obtain⟨w,⟨h1,h2⟩,h3⟩:=gu h;obtain⟨e1,e2⟩:=mr h3 hn h2;refine⟨e1,?_,e1.good hg⟩;obtain⟨vs,rfl⟩:=e1.e;have e3:=e2 [];rw[List.append_nil] at e3;show mW P t _ _ _;rw[←bX hi (fun i hi=>by simp[Ao,hi]),←bX hi (fun i hi=>by simp[Ao,hi]),e3];exact h1
 |ind t u v r=>
  simp only[o6,Lr] at h;obtain⟨w,⟨h1,h2⟩,h3⟩:=gu h;obtain⟨e1,e2⟩:=mr h3 hn h2;refine⟨e1,?_,e1.good hg⟩;obtain⟨vs,rfl⟩:=e1.e;have e3:=e2 [];rw[List.append_nil] at e3;show qK P t _ _=some _;rw[←bX hi (fun i hi=>by simp[Ao,hi]),←bX hi (fun i hi=>by simp[Ao,hi]),e3];exact h1
 |slc t u lo hi_ r=>
  simp only[o6,EO] at h;obtain⟨w,⟨h1,h2⟩,h3⟩:=gu h;obtain⟨e1,e2⟩:=mr h3 hn h2;refine⟨e1,?_,e1.good hg⟩;obtain⟨vs,rfl⟩:=e1.e;have e3:=e2 [];rw[List.append_nil] at e3;show Ai P t _ _ _ _;have key:∀o:Option AV,(∀i∈ul o,i∈Ao (.slc t u lo hi_ r))→o.map (ah (nm (l++vs)))=o.map (ah (nm l)):=fun o ho=>qD o fun i h2=>kT (fw hi i (ho i h2))
  rw[←bX hi (fun i hi=>by simp[Ao,hi]),key lo (fun i hi=>by simp[Ao,hi]),key hi_ (fun i hi=>by simp[Ao,hi]),e3];exact h1
 |conv s t u r=>
  simp only[o6,rG] at h;obtain⟨w,⟨h1,h2⟩,h3⟩:=gu h;obtain⟨e1,e2⟩:=mr h3 hn h2;refine⟨e1,?_,e1.good hg⟩;obtain⟨vs,rfl⟩:=e1.e;have e3:=e2 [];rw[List.append_nil] at e3;show JH P s t _ _;rw[←bX hi (fun i hi=>by simp[Ao,hi]),e3];exact h1
 |un o u r=>
  simp only[o6,unK] at h;obtain⟨w,⟨h1,h2⟩,h3⟩:=gu h;obtain⟨e1,e2⟩:=mr h3 hn h2;refine⟨e1,?_,e1.good hg⟩;obtain⟨vs,rfl⟩:=e1.e;have e3:=e2 [];rw[List.append_nil] at e3;show amN P o _ _;rw[←bX hi (fun i hi=>by simp[Ao,hi]),e3];exact h1
 |app t s x j=>
  simp only[o6,lu] at h;obtain⟨w,⟨h1,h2⟩,h3⟩:=gu h;obtain⟨e1,e2⟩:=kW h3 hn h2;obtain⟨vs,rfl⟩:=e1.e;have e3:=e2 [];rw[List.append_nil,aj] at e3;refine⟨e1,?_,?_⟩
  ·show MG P t _ _ _
   rw[←bX hi (fun i hi=>by simp[Ao,hi]),←bX hi (fun i hi=>by simp[Ao,hi]),e3];exact h1
  ·intro i hi2
   rcases List.mem_cons.1 hi2 with rfl|hi2
   ·rw[e3]
    obtain⟨e,sz,by_,zc,es,es',_,_,_,_,_,_,_,_,_,_,k1,_,k2⟩:=h1;rw[k2];show (es++es').length<aZ;rw[List.length_append];unfold aZ;omega
   ·exact e1.good hg i hi2
 |app0 t s x=>
  simp only[o6] at h;unfold mU at h;split at h
  ·rename_i h1;cases h;exact⟨⟨⟨[],by simp⟩,rfl,hn⟩,h1,hg⟩
  ·cases h
 |names=>cases h;exact⟨⟨⟨[],by simp⟩,rfl,hn⟩,trivial,hg⟩
 |mx mn u v r=>
  simp only[o6,mxK] at h;obtain⟨w,⟨h1,h2⟩,h3⟩:=gu h;obtain⟨e1,e2⟩:=mr h3 hn h2;refine⟨e1,?_,e1.good hg⟩;obtain⟨vs,rfl⟩:=e1.e;have e3:=e2 [];rw[List.append_nil] at e3;show amQ P mn _ _ _;rw[←bX hi (fun i hi=>by simp[Ao,hi]),←bX hi (fun i hi=>by simp[Ao,hi]),e3];exact h1
 |apq t s x j=>
  simp only[o6,lu] at h;obtain⟨w,⟨h1,h2⟩,h3⟩:=gu h;obtain⟨e1,e2⟩:=kW h3 hn h2;obtain⟨vs,rfl⟩:=e1.e;have e3:=e2 [];rw[List.append_nil,aj] at e3;refine⟨e1,⟨?_,by rw[e3];exact CP h2⟩,?_⟩
  ·show MG P t _ _ _
   rw[←bX hi (fun i hi=>by simp[Ao,hi]),←bX hi (fun i hi=>by simp[Ao,hi]),e3];exact h1
  ·intro i hi2
   rcases List.mem_cons.1 hi2 with rfl|hi2
   ·rw[e3]
    obtain⟨e,sz,by_,zc,es,es',_,_,_,_,_,_,_,_,_,_,k1,_,k2⟩:=h1;rw[k2];show (es++es').length<aZ;rw[List.length_append];unfold aZ;omega
   ·exact e1.good hg i hi2
 |mk t m j=>
  simp only[o6,mkK] at h;obtain⟨w,⟨h1,h2⟩,h3⟩:=gu h;obtain⟨e1,e2⟩:=kW h3 hn h2;obtain⟨vs,rfl⟩:=e1.e;have e3:=e2 [];rw[List.append_nil,aj] at e3;refine⟨e1,?_,?_⟩
  ·show ajg P t _ _
   rw[←bX hi (fun i hi=>by simp[Ao,hi]),e3];exact h1
  ·intro i hi2
   rcases List.mem_cons.1 hi2 with rfl|hi2
   ·rw[e3]
    obtain⟨e,sz,by_,zc,z,k,_,_,_,_,_,_,_,_,k1,_,k2,_⟩:=h1;rw[k2];show (List.replicate k z).length<aZ;rw[List.length_replicate];unfold aZ;omega
   ·exact e1.good hg i hi2
 |set p a o c j=>
  simp only[o6,Gl] at h;obtain⟨w,⟨h1,h2⟩,h3⟩:=gu h;obtain⟨e1,e2⟩:=kW h3 hn h2;obtain⟨vs,rfl⟩:=e1.e;have e3:=e2 [];rw[List.append_nil,aj] at e3;have hp:=CF (vs:=vs) (a:=p) hi (fun i hi=>by simp[Ao,hi]);have ha:=CF (vs:=vs) (a:=a) hi (fun i hi=>by simp[Ao,hi]);have hc:=KQ (vs:=vs) (ps:=c) hi (fun i hi=>by simp[Ao,hi]);refine⟨e1,?_,?_⟩
  ·show abp _ _ o _ _
   rw[←hp,←ha,←hc,e3];exact h1
  ·have key:∀i,p=.sym i→Il sh i=true→short (nm (l++vs) j):=by
    intro i hpi hh;have hs:=e1.good hg i (lg hh);subst hpi;obtain⟨es,n,kd,k1,_,_,_,_,k2,_⟩:=h1;rw[hp,aj] at k1;rw[e3,k2];rw[k1] at hs;show (es.set _ _).length<aZ;rw[List.length_set];exact hs
   cases p with
   |sym i=>
    simp only[shF];cases hh:Il sh i with
    |true=>
     intro i2 hi2;rcases List.mem_cons.1 hi2 with rfl|hi2
     ·exact key i rfl hh
     ·exact e1.good hg i2 hi2
    |false=>exact e1.good hg
   |_=>exact e1.good hg
section
variable(P:Program)(S:Nat→List Shape)(E:Nat→og)(T:Nat→Et)
def uN(q:Q)(r:Rs):Prop:=match(E q.k).lp with
 |none=>Sem P (E q.k).f (aG (nm q.xs) (E q.k).args) (bS (nm q.xs) (E q.k).h) (ah (nm r.2) (BR S E q.k r.1).v) (bS (nm r.2) (BR S E q.k r.1).h)
 |some (id,m0)=>∀fn,P.funcs[(E q.k).f]? = some fn→kJ P fn id m0 (openE (nm q.xs) (E q.k).e) (bS (nm q.xs) (E q.k).h) (BR S E q.k r.1).ex (openE (nm r.2) (BR S E q.k r.1).e) (bS (nm r.2) (BR S E q.k r.1).h)
structure Pre(q:Q):Prop where
 n:q.xs.length=(E q.k).n
 ns:kH q.xs
 g:Good (nm q.xs) (E q.k).rin
structure Pst(fam:Nat)(r:Rs):Prop where
 s:r.1<(S fam).length
 n:r.2.length=(nth jh (S fam) r.1).m
 ns:kH r.2
 g:Good (nm r.2) (nth jh (S fam) r.1).rw
end
theorem zf{l ps:List PV}{sh:List Nat}(hg:Good (nm l) sh):∀{rin:List Nat},D7 ps sh rin=true→Good (nm (aL (nm l) ps)) rin
 |[],_,i,hi=>by cases hi
 |j::r,h,i,hi=>by
  rw[D7,Bool.and_eq_true] at h;rcases List.mem_cons.1 hi with rfl|hi
  ·rw[oF]
   have h1:=h.1;unfold agb at h1;split at h1
   ·rename_i j hj;rw[hj,aj];exact hg j (lg h1)
   ·rename_i es hj
    rw[hj,aj];have:es.length<1000:=Nat.le_of_ble_eq_true h1;show (bJ (nm l) es).length<aZ;rw[eu,List.length_map];unfold aZ;omega
   ·cases h1
  ·exact zf hg h.2 i hi
theorem M7{l:List PV}{pats:List PV}:∀{rw_:List Nat},Good (nm (aL (nm l) pats)) rw_→Good (nm l) (shL pats rw_)
 |[],_,i,hi=>by cases hi
 |j::r,h,i,hi=>by
  have h1:Good (nm (aL (nm l) pats)) r:=fun k hk=>h k (List.mem_cons_of_mem _ hk)
  rw[shL] at hi;split at hi
  ·rename_i k hk
   rcases List.mem_cons.1 hi with rfl|hi
   ·have:=h j (List.mem_cons_self ..)
    rwa [oF,hk,aj] at this
   ·exact M7 h1 i hi
  ·exact M7 h1 i hi
theorem CB(R:Nat→PV)(ps:List PV):(aL R ps).length=ps.length:=by rw[bQ,List.length_map]
theorem UO(R:Nat→PV)(h:List af):(bS R h).length=h.length:=by rw[dZ,List.length_map]
theorem NA{l vs:List PV}{ps:List PV}(h:jv l.length (jT ps)=true):aL (nm (l++vs)) ps=aL (nm l) ps:=
 ji ps fun i hi=>kT (fw h i hi)
section
variable{P:Program}{S:Nat→List Shape}{E:Nat→og}{T:Nat→Et}
structure vY(P:Program)(S:Nat→List Shape)(E:Nat→og):Prop where
 e:∀k,LJ (E k)=true
 s:∀f s,Gi (nth jh (S f) s)=true
 lp:∀k id m0 fn,(E k).lp=some (id,m0)→P.funcs[(E k).f]? = some fn→iR (subs id (fK fn))=true
def acQ(S:Nat→List Shape)(cur:og)(r:Rs):Out:=match cur.lp with
 |none=>.ret (ah (nm r.2) (nth jh (S cur.fam) r.1).v) (bS (nm r.2) (nth jh (S cur.fam) r.1).h)
 |some _=>.code (nth jh (S cur.fam) r.1).ex (openE (nm r.2) (nth jh (S cur.fam) r.1).e) (bS (nm r.2) (nth jh (S cur.fam) r.1).h)
def Leaf(S:Nat→List Shape)(E:Nat→og)(O:Q→Option Rs)(cur:og)(o:Out)(r:Rs):Prop:=
 (Pst S cur.fam r∧o=acQ S cur r)∨∃q,O q=some r∧Pre E q∧adn (E q.k).lp cur.lp=true∧(E q.k).f=cur.f∧(E q.k).fam=cur.fam∧o=.code .normal (openE (nm q.xs) (E q.k).e) (bS (nm q.xs) (E q.k).h)
theorem VH{l ps:List PV}{sh:List Nat}{q:Nat}(h:wfQ E q ps l.length sh=true)(hn:kH l)(hg:Good (nm l) sh):Pre E ⟨q,aL (nm l) ps⟩∧jv l.length (jT ps)=true:=by
 unfold wfQ at h;simp only[Bool.and_eq_true] at h;exact⟨⟨by rw[CB];exact Nat.eq_of_beq_eq_true h.1.1,pQ hn.nm ps,zf hg h.2⟩,h.1.2⟩
theorem wW{O:Q→Option Rs}{cur:og}{fn:Func}(ht:vY P S E)(hfn:P.funcs[cur.f]? = some fn)(hO:∀q r,O q=some r→Pre E q→uN P S E q r∧Pst S (E q.k).fam r) :
  ∀(t:Et) (l:List PV) (sh:List Nat) (r:Rs),run P O t l=.ok r→MH S E cur t l.length sh=true→kH l→Good (nm l) sh→∃o,Aj P fn (erase S E cur t l.length) l o∧Leaf S E O cur o r
 |.say f k,l,sh,r,hr,hw,hn,hg=>by
  rw[MH,Bool.and_eq_true] at hw;rw[run,BS] at hr;split at hr
  ·cases hr
  ·rename_i l' hl
   obtain⟨e1,e2,e3⟩:=UD hl hn hw.1 hg;rw[←e1.n] at hw;obtain⟨o,h1,h2⟩:=wW ht hfn hO k l' _ r hr hw.2 e1.ns e3;refine⟨o,?_,h2⟩;rw[erase,Aj];obtain⟨vs,q1,q2,q3⟩:=e1.rest;subst q1;refine uq q2 q3 ⟨e2,?_⟩
   rwa [e1.n] at h1
 |.alt a b,l,sh,r,hr,hw,hn,hg=>by
  rw[MH,Bool.and_eq_true] at hw;rw[run] at hr;rw[erase];cases ha:run P O a l with
  |bot=>rw[ha] at hr;cases hr
  |fail=>
   rw[ha] at hr;obtain⟨o,h1,h2⟩:=wW ht hfn hO b l sh r hr hw.2 hn hg;exact⟨o,.inr h1,h2⟩
  |ok r'=>
   rw[ha] at hr;cases hr;obtain⟨o,h1,h2⟩:=wW ht hfn hO a l sh r ha hw.1 hn hg;exact⟨o,.inl h1,h2⟩
 |.call q ps s pats k,l,sh,r,hr,hw,hn,hg=>by
  rw[MH,Bool.and_eq_true,Bool.and_eq_true,Bool.and_eq_true] at hw;obtain⟨⟨⟨w1,w2⟩,w3⟩,w4⟩:=hw;rw[run] at hr;obtain⟨p1,p2⟩:=VH w1 hn hg;cases ho:O ⟨q,aL (nm l) ps⟩ with
  |none=>rw[ho] at hr;cases hr
  |some r1=>
   obtain⟨s1,ys⟩:=r1;rw[ho] at hr;simp only[tC] at hr;cases hb:Nat.beq s1 s with
   |false=>rw[hb] at hr;cases hr
   |true=>
    have hs:=Nat.eq_of_beq_eq_true hb;subst hs;rw[hb] at hr;simp only at hr;rw[AZ] at hr;split at hr
    ·cases hr
    ·rename_i l' hl
     obtain⟨g1,g2⟩:=hO _ _ ho p1;have g2':Pst S (E q).fam (s1,ys):=g2;obtain⟨e1,e2⟩:=xB hl hn g2'.ns;have e2:=e2 [];rw[List.append_nil] at e2;obtain⟨vs,q1,q2,q3⟩:=e1.rest;have hgp:Good (nm (aL (nm l') pats)) (BR S E q s1).rw:=by rw[e2];exact g2'.g
     have hg':Good (nm l') (shL pats (BR S E q s1).rw++sh):=by
      intro i hi;rcases List.mem_append.1 hi with hi|hi
      ·exact M7 hgp i hi
      ·exact e1.good hg i hi
     rw[←e1.n] at w4;obtain⟨o,h1,h2⟩:=wW ht hfn hO k l' _ r hr w4 e1.ns hg';refine⟨o,?_,h2⟩;rw[e1.n] at h1;have hps:aL (nm l') ps=aL (nm l) ps:=by rw[q1];exact NA p2
     have hgi:Good (nm (aL (nm l') ps)) (E q).rin:=by rw[hps];exact p1.g
     have ce:=ht.e q;have cs:Gi (BR S E q s1)=true:=ht.s (E q).fam s1;unfold LJ at ce;unfold Gi at cs;simp only[Bool.and_eq_true] at ce cs;obtain⟨⟨c1,c2⟩,c3⟩:=ce;obtain⟨⟨⟨d1,d2⟩,d3⟩,d4⟩:=cs;have a2:=BO hgi _ c2;have a5:=BO hgp _ d2;rw[hps] at a2;rw[e2] at a5;unfold uN at g1;simp only at g1;rw[erase];cases hlp:(E q).lp with
     |none=>
      rw[hlp] at g1;simp only at g1 ⊢;rw[Aj];subst q1;refine uq q2 q3 ⟨⟨?_,a2.2,a5.2⟩,h1⟩;have a1:=(pI hgi _ c1).1;have a4:=(wO hgp _ d1).1;rw[hps] at a1;rw[e2] at a4;simp only;rw[a1,a2.1,a4,a5.1];exact g1
     |some idm=>
      obtain⟨id,m0⟩:=idm;rw[hlp] at g1 w3;simp only[Bool.and_eq_true] at g1 w3 ⊢;rw[Aj];subst q1;refine uq q2 q3 ⟨⟨?_,a2.2,a5.2⟩,h1⟩;have hf:=Nat.eq_of_beq_eq_true w3.1;have hm:=Nat.eq_of_beq_eq_true w3.2;have hfn':P.funcs[(E q).f]? = some fn:=by rw[hf];exact hfn
      have g3:=g1 fn hfn';have hlo:=ht.lp q id m0 fn hlp hfn';have a1:=(wL hgi _ c3).1;have a4:=(wL hgp _ d3).1;rw[hps] at a1;rw[e2] at a4;have hno:∀x∈bS (nm (aL (nm l) ps)) (E q).h,yx x:=by
       rw[←a2.1];exact jO e1.ns.nm _ a2.2
      simp only;rw[a1,a2.1,a4,a5.1];rw[←hm,←UO (nm (aL (nm l) ps))] at g3;revert g3 d4;change (!(amG (BR S E q s1).ex))=true→_;cases(BR S E q s1).ex with
      |normal=>intro d4;cases d4
      |ret=>intro _ g3;exact kJ.blockRet hlo hno g3
      |pan=>intro _ g3;exact kJ.blockPan hlo hno g3
      |exit j=>
       intro _ g3;unfold bex;cases hj:Nat.beq j id with
       |true=>
        have:=Nat.eq_of_beq_eq_true hj;subst this;simp only[Nat.beq_refl];exact kJ.block hlo hno g3
       |false=>simp only[hj];exact kJ.blockOut (fun e=>by rw[e,Nat.beq_refl] at hj;cases hj) hlo hno g3
 |.out s ps,l,sh,r,hr,hw,hn,hg=>by
  rw[run] at hr;cases hr;rw[MH,Bool.and_eq_true,Bool.and_eq_true,Bool.and_eq_true] at hw;obtain⟨⟨⟨w0,w1⟩,w2⟩,w3⟩:=hw;have hgp:=zf hg w3;refine⟨acQ S cur (s,aL (nm l) ps),?_,.inl ⟨⟨Nat.le_of_ble_eq_true w0,?_,pQ hn.nm ps,hgp⟩,rfl⟩⟩
  ·have cs:=ht.s cur.fam s
   unfold Gi at cs;simp only[Bool.and_eq_true] at cs;obtain⟨⟨⟨d1,d2⟩,d3⟩,_⟩:=cs;have a1:=wO hgp _ d1;have a2:=BO hgp _ d2;have a3:=wL hgp _ d3;rw[erase];unfold acQ;cases hlp:cur.lp with
   |none=>simp only;rw[Aj];exact⟨by rw[a1.1,a2.1],a1.2,a2.2⟩
   |some _=>simp only;rw[Aj];exact⟨by rw[a3.1,a2.1],a3.2,a2.2⟩
  ·rw[CB];exact Nat.eq_of_beq_eq_true w1
 |.goto q ps,l,sh,r,hr,hw,hn,hg=>by
  rw[run] at hr;rw[MH,Bool.and_eq_true,Bool.and_eq_true,Bool.and_eq_true] at hw;obtain⟨⟨⟨w1,w2⟩,w3⟩,w4⟩:=hw;obtain⟨p1,p2⟩:=VH w1 hn hg;cases ho:O ⟨q,aL (nm l) ps⟩ with
  |none=>rw[ho] at hr;cases hr
  |some r1=>
   rw[ho] at hr;cases hr;refine⟨_,?_,.inr ⟨_,ho,p1,w2,Nat.eq_of_beq_eq_true w3,Nat.eq_of_beq_eq_true w4,rfl⟩⟩;have ce:=ht.e q;unfold LJ at ce;simp only[Bool.and_eq_true] at ce;obtain⟨⟨c1,c2⟩,c3⟩:=ce;have a2:=BO p1.g _ c2;have a3:=wL p1.g _ c3;rw[erase,Aj];exact⟨by rw[a3.1,a2.1],a3.2,a2.2⟩
 |.no _,l,sh,r,hr,hw,hn,hg=>by rw[run] at hr;cases hr
 |.ext _,l,sh,r,hr,hw,hn,hg=>by rw[MH] at hw;cases hw
mutual
def qj:AV→Bool
 |.pv (.sym _)=>true
 |.tsym _ _=>true
 |.tup l=>Kb l
 |.agg l=>Kb l
 |_=>false
def Kb:List AV→Bool
 |[]=>true
 |a::l=>qj a&&Kb l
end
theorem xu:∀(l:List PV) (i:Nat),nm (nI l) i=ED (nm l i)
 |[],i=>by rw[nI];rfl
 |p::l,0=>by rw[nI];rfl
 |p::l,i+1=>by rw[nI];exact xu l i
theorem BD:∀(l:List PV),(nI l).length=l.length
 |[]=>rfl
 |p::l=>by rw[nI,List.length_cons,List.length_cons,BD l]
theorem agu{p:PV}(h:NS p):NS (ED p):=by
 unfold ED;split
 ·exact .rows _ fun c hc=>by cases hc
 ·exact h
theorem OY{l:List PV}(h:kH l):kH (dD l):=fun p hp=>by
 rw[lY] at hp;obtain⟨p',hp',rfl⟩:=List.mem_map.1 hp;exact agw (h p' hp')
theorem F6:∀{l:List PV},kH l→kH (nI l)
 |[],_=>by rw[nI];exact kH.nil
 |p::l,h=>by
  rw[nI];exact kH.cons (agu (h p (List.mem_cons_self ..))) (F6 fun q hq=>h q (List.mem_cons_of_mem _ hq))
section
variable{ys:List PV}{rw_:List Nat}(hg:Good (nm ys) rw_)
include hg
mutual
theorem Ar:∀a,qj a=true→lX rw_ a=true→ah (nm (nI ys)) (wk a)=wk (ah (nm ys) a)∧refs (wk (ah (nm ys) a))=[]
 |.pv p,h,_=>by
  cases p with
  |sym i=>rw[wk,show ED (.sym i)=.sym i from rfl,ah,ah,aj,aj,wk,xu];exact⟨rfl,rfl⟩
  |_=>simp[qj] at h
 |.tsym t i,_,hc=>by
  rw[lX] at hc;obtain⟨es,e1,_⟩:=lN (hg i (lg hc));rw[wk,ah,ah,e1,aj,xu,e1];simp only;rw[wk];exact⟨rfl,rfl⟩
 |.tup l,h,hc=>by
  have:=BB l (by rw[qj] at h;exact h) (by rw[lX] at hc;exact hc);rw[wk,ah,ah,wk,this.1];exact⟨rfl,by rw[refs];exact this.2⟩
 |.agg l,h,hc=>by
  have:=BB l (by rw[qj] at h;exact h) (by rw[lX] at hc;exact hc);rw[wk,ah,ah,wk,this.1];exact⟨rfl,by rw[refs];exact this.2⟩
 |.trows _ _,h,_=>by simp[qj] at h
 |.ptr _ _,h,_=>by simp[qj] at h
 |.cptr _,h,_=>by simp[qj] at h
 |.fn _ _,h,_=>by simp[qj] at h
 |.sl _ _ _ _,h,_=>by simp[qj] at h
 |.ifc _ _,h,_=>by simp[qj] at h
 |.arr _,h,_=>by simp[qj] at h
 |.aptr _ _ _,h,_=>by simp[qj] at h
theorem BB:∀a,Kb a=true→nU rw_ a=true→aG (nm (nI ys)) (wh a)=wh (aG (nm ys) a)∧nM (wh (aG (nm ys) a))=[]
 |[],_,_=>by rw[wh,aG,aG,wh];exact⟨rfl,rfl⟩
 |a::l,h,hc=>by
  rw[Kb,Bool.and_eq_true] at h;rw[nU,Bool.and_eq_true] at hc;have h1:=Ar a h.1 hc.1;have h2:=BB l h.2 hc.2;rw[wh,aG,aG,wh,h1.1,h2.1];exact⟨rfl,by rw[nM,h1.2,h2.2];rfl⟩
end
end
structure ajh(S:Nat→List Shape)(E:Nat→og)(k b:Nat):Prop where
 wm:(E k).wm=[]
 lp:(E k).lp=none
 lpb:(E b).lp=none
 f:(E k).f=(E b).f
 a:(E k).args=(E b).args
 h:(E k).h=[]
 hb:(E b).h=[]
 n:(E k).n=(E b).n
 r:(E k).rin=(E b).rin
 len:0<(S (E k).fam).length
 sh:∀s,s<(S (E b).fam).length→qj (nth jh (S (E b).fam) s).v=true∧wk (nth jh (S (E b).fam) s).v=(nth jh (S (E k).fam) 0).v∧(nth jh (S (E b).fam) s).m=(nth jh (S (E k).fam) 0).m
 sh0:(nth jh (S (E k).fam) 0).h=[]∧(nth jh (S (E k).fam) 0).rw=[]
structure amU(S:Nat→List Shape)(E:Nat→og)(k b:Nat):Prop where
 wm:(E k).wm=[]
 lp:(E k).lp=none
 lpb:(E b).lp=none
 f:(E k).f=(E b).f
 a:(E k).args=(E b).args
 h:∃x,(E k).h=[x]
 hb:(E b).h=(E k).h
 n:(E k).n=(E b).n
 r:(E k).rin=(E b).rin
 len:0<(S (E k).fam).length
 sh:∃ty cs,(nth jh (S (E k).fam) 0).h=[.box ty cs]∧ja cs=true∧∀s,s<(S (E b).fam).length→qj (nth jh (S (E b).fam) s).v=true∧wk (nth jh (S (E b).fam) s).v=(nth jh (S (E k).fam) 0).v∧(nth jh (S (E b).fam) s).m=(nth jh (S (E k).fam) 0).m∧∃r,(nth jh (S (E b).fam) s).h=.box ty cs::r
 ps:EG (nth jh (S (E k).fam) 0).v=true
 rw0:(nth jh (S (E k).fam) 0).rw=[]
structure amT(S:Nat→List Shape)(E:Nat→og)(k b:Nat):Prop where
 wm:∃x l,(E k).wm=x::l
 lp:(E k).lp=none
 lpb:(E b).lp=none
 f:(E k).f=(E b).f
 a:(E k).args=(E b).args
 h:∃x,(E k).h=[x]
 hb:(E b).h=(E k).h
 n:(E k).n=(E b).n
 r:(E k).rin=(E b).rin
 len:0<(S (E k).fam).length
 sh:∃ty cs,(nth jh (S (E k).fam) 0).h=[.box ty cs]∧ja cs=true∧∀s,s<(S (E b).fam).length→nth 0 (E k).wm s=0→qj (nth jh (S (E b).fam) s).v=true∧wk (nth jh (S (E b).fam) s).v=(nth jh (S (E k).fam) 0).v∧(nth jh (S (E b).fam) s).m=(nth jh (S (E k).fam) 0).m∧∃r,(nth jh (S (E b).fam) s).h=.box ty cs::r
 ps:EG (nth jh (S (E k).fam) 0).v=true
 rw0:(nth jh (S (E k).fam) 0).rw=[]
 sj:∀s,s<(S (E b).fam).length→∀j,nth 0 (E k).wm s=j+1→j+1<(S (E k).fam).length∧nth jh (S (E b).fam) s=nth jh (S (E k).fam) (j+1)
def aA(P:Program)(S:Nat→List Shape)(E:Nat→og)(T:Nat→Et)(k:Nat):Prop:=match(E k).base with
 |some b=>ajh S E k b∨amU S E k b∨amT S E k b
 |none=>(∃g,T k=.ext g∧∀l r,Pre E ⟨k,l⟩→g l=some r→uN P S E ⟨k,l⟩ r∧Pst S (E k).fam r)∨∃fn,P.funcs[(E k).f]? = some fn∧MH S E (E k) (T k) (E k).n (E k).rin=true∧match(E k).lp with
  |none=>∀l v h',l.length=(E k).n→kH l→mK (nm l) (E k).args→Ah (nm l) (E k).h→Aj P fn (erase S E (E k) (T k) (E k).n) l (.ret v h')→Sem P (E k).f (aG (nm l) (E k).args) (bS (nm l) (E k).h) v h'
  |some (id,m0)=>∀l ex e' h',l.length=(E k).n→kH l→TsE (nm l) (E k).e→Ah (nm l) (E k).h→Aj P fn (erase S E (E k) (T k) (E k).n) l (.code ex e' h')→∀R,rJ R P fn.ntmps (lb fn id) m0 (openE (nm l) (E k).e) (bS (nm l) (E k).h) ex e' h'
theorem F9{l:List PV}{rin:List Nat}(hg:Good (nm l) rin) :
  (∀a,lX rin a=true→jJ (nm l) a)∧(∀a,nU rin a=true→mK (nm l) a):=by
 constructor
 ·intro a
  exact AV.rec (motive_1:=fun a=>lX rin a=true→jJ (nm l) a) (motive_2:=fun a=>nU rin a=true→mK (nm l) a)
   (fun _ _=>by rw[jJ];trivial) (fun _ _ _=>by rw[jJ];trivial) (fun t i h=>by rw[lX] at h;obtain⟨es,e,_⟩:=lN (hg i (lg h));rw[jJ,e];trivial)
   (fun _ _ _=>by rw[jJ];trivial) (fun _ _=>by rw[jJ];trivial) (fun _ ih h=>by rw[jJ];exact ih (by rw[lX] at h;exact h)) (fun _ ih h=>by rw[jJ];exact ih (by rw[lX] at h;exact h))
   (fun _ _ ih h=>by rw[jJ];exact ih (by rw[lX] at h;exact h)) (fun _ _ _ _ _=>by rw[jJ];trivial) (fun _ _ ih h=>by rw[jJ];exact ih (by rw[lX] at h;exact h)) (fun _ _=>by rw[jJ];trivial) (fun _ _ _ _=>by rw[jJ];trivial)
   (fun _=>by rw[mK];trivial) (fun _ _ i1 i2 h=>by rw[nU,Bool.and_eq_true] at h;rw[mK];exact⟨i1 h.1,i2 h.2⟩) a
 ·intro a
  exact AV.rec_1 (motive_1:=fun a=>lX rin a=true→jJ (nm l) a) (motive_2:=fun a=>nU rin a=true→mK (nm l) a)
   (fun _ _=>by rw[jJ];trivial) (fun _ _ _=>by rw[jJ];trivial) (fun t i h=>by rw[lX] at h;obtain⟨es,e,_⟩:=lN (hg i (lg h));rw[jJ,e];trivial)
   (fun _ _ _=>by rw[jJ];trivial) (fun _ _=>by rw[jJ];trivial) (fun _ ih h=>by rw[jJ];exact ih (by rw[lX] at h;exact h)) (fun _ ih h=>by rw[jJ];exact ih (by rw[lX] at h;exact h))
   (fun _ _ ih h=>by rw[jJ];exact ih (by rw[lX] at h;exact h)) (fun _ _ _ _ _=>by rw[jJ];trivial) (fun _ _ ih h=>by rw[jJ];exact ih (by rw[lX] at h;exact h)) (fun _ _=>by rw[jJ];trivial) (fun _ _ _ _=>by rw[jJ];trivial)
   (fun _=>by rw[mK];trivial) (fun _ _ i1 i2 h=>by rw[nU,Bool.and_eq_true] at h;rw[mK];exact⟨i1 h.1,i2 h.2⟩) a
theorem VP{l:List PV}{rin:List Nat}(hg:Good (nm l) rin)(x:af)(h:aaL rin x=true):TsO (nm l) x:=by
 cases x with
 |box t r=>exact(F9 hg).2 r h
 |arr=>trivial
 |dead=>trivial
 |tok t s n=>
  show dl (nm l) n<aZ;rw[aaL] at h;cases hb:Nat.blt n aZ with
  |true=>rw[gJ (Nat.le_of_ble_eq_true hb)];exact Nat.le_of_ble_eq_true hb
  |false=>
   rw[hb] at h;have hn:¬n<aZ:=fun hlt=>by rw[Nat.blt,Nat.ble_eq_true_of_le hlt] at hb;cases hb
   obtain⟨es,e,h2⟩:=lN (hg _ (lg h));unfold dl;rw[if_neg hn,e];exact h2
theorem wI{l:List PV}{rin:List Nat}(hg:Good (nm l) rin):∀h,Oy rin h=true→Ah (nm l) h
 |[],_=>trivial
 |x::r,h=>by
  rw[Oy,Bool.and_eq_true] at h;exact⟨VP hg x h.1,wI hg r h.2⟩
theorem BK{l:List PV}{rin:List Nat}(hg:Good (nm l) rin):∀e,Oz rin e=true→TsE (nm l) e
 |[],_=>trivial
 |(d,a)::r,h=>by
  rw[Oz,Bool.and_eq_true] at h;exact⟨(F9 hg).1 a h.1,BK hg r h.2⟩
theorem adm{a b:Option (Nat×Nat)}(h:adn a b=true):a=b:=by
 unfold adn at h;split at h
 ·rw[Bool.and_eq_true] at h
  rw[Nat.eq_of_beq_eq_true h.1,Nat.eq_of_beq_eq_true h.2]
 ·cases h
theorem EvR.sound{N:Nat}(ht:vY P S E)(hr:∀k,k<N→aA P S E T k)(hN:∀k,N≤k→(E k).base=none∧T k=U8){q:Q}{r:Rs}(h:EvR P E T q r):Pre E q→uN P S E q r∧Pst S (E q.k).fam r:=by
 induction h with
 |mk q r O hO h ih=>
  intro hp;unfold body at h;have hk:q.k<N:=by
   by_cases hk:q.k<N
   ·exact hk
   ·exfalso
    obtain⟨n1,n2⟩:=hN q.k (by omega);rw[n1,n2] at h;simp only[U8,run] at h;cases h
  have hrk:=hr q.k hk;unfold aA at hrk;cases hb:(E q.k).base with
  |some b=>
   rw[hb] at h hrk;simp only at h hrk;cases ho:O ⟨b,q.xs⟩ with
   |none=>
    rw[ho] at h;split at h
    ·split at h<;>cases h
    ·cases h
   |some r1=>
    obtain⟨s,ys⟩:=r1;rw[ho] at h;rcases hrk with hrk|hrk|hrk
    ·rw[hrk.wm,hrk.h] at h
     cases h;obtain⟨g1,g2⟩:=ih _ _ ho ⟨by rw[hp.n,hrk.n],hp.ns,by show Good _ (E b).rin;rw[←hrk.r];exact hp.g⟩;unfold uN at g1 ⊢;simp only at g1 g2;rw[hrk.lpb] at g1;rw[hrk.lp];simp only at g1 ⊢;obtain⟨c1,c2,c3⟩:=hrk.sh s g2.s;have cs:=ht.s (E b).fam s;unfold Gi at cs;simp only[Bool.and_eq_true] at cs;have k1:=Ar g2.g _ c1 cs.1.1.1;refine⟨?_,hrk.len,?_,F6 g2.ns,?_⟩
     ·show Sem P (E q.k).f _ _ (ah _ (nth jh (S (E q.k).fam) 0).v) (bS _ (nth jh (S (E q.k).fam) 0).h)
      rw[hrk.sh0.1,←c2,k1.1,hrk.f,hrk.a,hrk.h];rw[hrk.hb] at g1;exact fun R=>(g1 R).forget k1.2
     ·show (nI ys).length=_
      rw[BD,←c3];exact g2.n
     ·show Good _ (nth jh (S (E q.k).fam) 0).rw
      rw[hrk.sh0.2];exact fun i hi=>by cases hi
    ·obtain⟨x,hx⟩:=hrk.h
     rw[hrk.wm,hx] at h;cases h;obtain⟨g1,g2⟩:=ih _ _ ho ⟨by rw[hp.n,hrk.n],hp.ns,by show Good _ (E b).rin;rw[←hrk.r];exact hp.g⟩;unfold uN at g1 ⊢;simp only at g1 g2;rw[hrk.lpb] at g1;rw[hrk.lp];simp only at g1 ⊢;obtain⟨ty,cs,d1,d2,d3⟩:=hrk.sh;obtain⟨c1,c2,c3,r,c4⟩:=d3 s g2.s;have cs':=ht.s (E b).fam s;unfold Gi at cs';simp only[Bool.and_eq_true] at cs';have k1:=Ar g2.g _ c1 cs'.1.1.1;refine⟨?_,hrk.len,?_,OY g2.ns,?_⟩
     ·show Sem P (E q.k).f _ _ (ah _ (nth jh (S (E q.k).fam) 0).v) (bS _ (nth jh (S (E q.k).fam) 0).h)
      have g1':Sem P (E b).f (aG (nm q.xs) (E b).args) (bS (nm q.xs) (E b).h) (ah (nm ys) (nth jh (S (E b).fam) s).v) (bS (nm ys) (nth jh (S (E b).fam) s).h):=g1;rw[c4,hrk.hb,hx] at g1';rw[d1,hrk.f,hrk.a,hx];obtain⟨e1,e2⟩:=BM d2;intro R;have g2':=(g1' R).box1 k1.2 (e2 _);rw[←k1.1,c2] at g2';exact g2'.conv hrk.ps e1 (fun i v hv=>by rw[xu] at hv;rw[xw,←F7];exact hv.wd) (fun i v hv=>by rw[xw];exact hv.wd)
     ·show (dD ys).length=_
      rw[JS,←c3];exact g2.n
     ·show Good _ (nth jh (S (E q.k).fam) 0).rw
      rw[hrk.rw0];exact fun i hi=>by cases hi
    ·obtain⟨x,hx⟩:=hrk.h
     obtain⟨y0,y1,hy⟩:=hrk.wm;rw[hy] at h;simp only[weakM] at h;obtain⟨g1,g2⟩:=ih _ _ ho ⟨by rw[hp.n,hrk.n],hp.ns,by show Good _ (E b).rin;rw[←hrk.r];exact hp.g⟩;rw[←hy] at h;split at h
     ·rename_i h0
      cases h;unfold uN at g1 ⊢;simp only at g1 g2;rw[hrk.lpb] at g1;rw[hrk.lp];simp only at g1 ⊢;obtain⟨ty,cs,d1,d2,d3⟩:=hrk.sh;obtain⟨c1,c2,c3,r,c4⟩:=d3 s g2.s h0;have cs':=ht.s (E b).fam s;unfold Gi at cs';simp only[Bool.and_eq_true] at cs';have k1:=Ar g2.g _ c1 cs'.1.1.1;refine⟨?_,hrk.len,?_,OY g2.ns,?_⟩
      ·show Sem P (E q.k).f _ _ (ah _ (nth jh (S (E q.k).fam) 0).v) (bS _ (nth jh (S (E q.k).fam) 0).h)
       have g1':Sem P (E b).f (aG (nm q.xs) (E b).args) (bS (nm q.xs) (E b).h) (ah (nm ys) (nth jh (S (E b).fam) s).v) (bS (nm ys) (nth jh (S (E b).fam) s).h):=g1;rw[c4,hrk.hb,hx] at g1';rw[d1,hrk.f,hrk.a,hx];obtain⟨e1,e2⟩:=BM d2;intro R;have g2':=(g1' R).box1 k1.2 (e2 _);rw[←k1.1,c2] at g2';exact g2'.conv hrk.ps e1 (fun i v hv=>by rw[xu] at hv;rw[xw,←F7];exact hv.wd) (fun i v hv=>by rw[xw];exact hv.wd)
      ·show (dD ys).length=_
       rw[JS,←c3];exact g2.n
      ·show Good _ (nth jh (S (E q.k).fam) 0).rw
       rw[hrk.rw0];exact fun i hi=>by cases hi
     ·rename_i j h0
      cases h;have e0:=hrk.sj s g2.s j h0;unfold uN at g1 ⊢;simp only at g1 g2;rw[hrk.lpb] at g1;rw[hrk.lp];simp only at g1 ⊢;refine⟨?_,e0.1,?_,g2.ns,?_⟩
      ·have g1':Sem P (E b).f (aG (nm q.xs) (E b).args) (bS (nm q.xs) (E b).h) (ah (nm ys) (nth jh (S (E b).fam) s).v) (bS (nm ys) (nth jh (S (E b).fam) s).h):=g1
       rw[e0.2,←hrk.f,←hrk.a,hrk.hb] at g1';exact g1'
      ·show ys.length=_
       rw[←e0.2];exact g2.n
      ·show Good _ (nth jh (S (E q.k).fam) (j+1)).rw
       rw[←e0.2];exact g2.g
  |none=>
   rw[hb] at h hrk;simp only at h hrk;rcases hrk with⟨g,hT,hx⟩|⟨fn,hfn,hw,hk⟩
   ·rw[hT] at h
    simp only[run,aat] at h;split at h
    ·cases h
    ·rename_i r' hg
     cases h;exact hx q.xs _ hp hg
   rw[←hp.n] at hw hk;obtain⟨o,h1,h2⟩:=wW ht hfn (fun q r ho hp=>ih q r ho hp) (T q.k) q.xs _ r h hw hp.ns hp.g;have ce:=ht.e q.k;unfold LJ at ce;simp only[Bool.and_eq_true] at ce;unfold uN;rcases h2 with⟨p1,p2⟩|⟨q',p1,p2,p3,p4,p5,p6⟩
   ·refine⟨?_,p1⟩
    unfold acQ at p2;cases hlp:(E q.k).lp with
    |none=>
     rw[hlp] at hk p2;simp only at hk p2 ⊢;rw[p2] at h1;exact hk _ _ _ rfl hp.ns ((F9 hp.g).2 _ ce.1.1) (wI hp.g _ ce.1.2) h1
    |some idm=>
     obtain⟨id,m0⟩:=idm;rw[hlp] at hk p2;simp only at hk p2 ⊢;rw[p2] at h1;intro fn' hfn';rw[hfn] at hfn';cases hfn';have hx:(nth jh (S (E q.k).fam) r.1).ex≠.normal:=by
      have cs:=ht.s (E q.k).fam r.1;unfold Gi at cs;simp only[Bool.and_eq_true] at cs;intro e;rw[e] at cs;exact absurd cs.2 (by decide)
     exact kJ.done (hk _ _ _ _ rfl hp.ns (BK hp.g _ ce.2) (wI hp.g _ ce.1.2) h1) hx
   ·have hq:=ih q' r p1 p2
    have hlq:=adm p3;refine⟨?_,by rw[←p5];exact hq.2⟩;have g1:=hq.1;unfold uN at g1;cases hlp:(E q.k).lp with
    |none=>rw[hlp] at p3;rw[hlq,hlp] at p3;cases p3
    |some idm=>
     obtain⟨id,m0⟩:=idm;rw[hlq,hlp] at g1;rw[hlp] at hk;simp only at g1 hk ⊢;intro fn' hfn';rw[hfn] at hfn';cases hfn';have g2:=g1 fn (by rw[p4];exact hfn);rw[p6] at h1;have g3:=hk _ _ _ _ rfl hp.ns (BK hp.g _ ce.2) (wI hp.g _ ce.1.2) h1;have e:BR S E q'.k r.1=BR S E q.k r.1:=by unfold BR;rw[p5]
     rw[e] at g2;exact kJ.again g3 g2
theorem ax.sound{N:Nat}(ht:vY P S E)(hr:∀k,k<N→aA P S E T k)(hN:∀k,N≤k→(E k).base=none∧T k=U8){q:Q}{r:Rs}(h:ax P E T q=some r)(hp:Pre E q):uN P S E q r∧Pst S (E q.k).fam r:=EvR.sound ht hr hN (ax.iff.1 h) hp
theorem aA.fn{k:Nat}{ent:og}{et:Et}{fn:Func}{t:Tr}(he:E k=ent)(hT:T k=et)(hb:ent.base=none)(hl:ent.lp=none)(hf:P.funcs[ent.f]? = some fn)(hw:MH S E ent et ent.n ent.rin=true)(hr:erase S E ent et ent.n=t)
  (hd:∀l v h',l.length=ent.n→kH l→mK (nm l) ent.args→Ah (nm l) ent.h→Aj P fn t l (.ret v h')→Sem P ent.f (aG (nm l) ent.args) (bS (nm l) ent.h) v h'):aA P S E T k:=by
 unfold aA;rw[he,hT,hb,hl];subst hr;exact .inr ⟨fn,hf,hw,hd⟩
theorem aA.ext{k:Nat}{g:List PV→Option Rs}(hb:(E k).base=none)(hT:T k=.ext g)(h:∀l r,Pre E ⟨k,l⟩→g l=some r→uN P S E ⟨k,l⟩ r∧Pst S (E k).fam r):aA P S E T k:=by
 unfold aA;rw[hb];exact .inl ⟨g,hT,h⟩
theorem aA.loop{k id m0:Nat}{ent:og}{et:Et}{fn:Func}{t:Tr}(he:E k=ent)(hT:T k=et)(hb:ent.base=none)(hl:ent.lp=some (id,m0))(hf:P.funcs[ent.f]? = some fn)(hw:MH S E ent et ent.n ent.rin=true)(hr:erase S E ent et ent.n=t)
  (hd:∀l ex e' h',l.length=ent.n→kH l→TsE (nm l) ent.e→Ah (nm l) ent.h→Aj P fn t l (.code ex e' h')→∀R,rJ R P fn.ntmps (lb fn id) m0 (openE (nm l) ent.e) (bS (nm l) ent.h) ex e' h'):aA P S E T k:=by
 unfold aA;rw[he,hT,hb,hl];subst hr;exact .inr ⟨fn,hf,hw,hd⟩
def aaN(b w:List Shape):Bool:=match w with
 |[w0]=>w0.h.isEmpty&&w0.rw.isEmpty&&b.all fun s=>qj s.v&&uy (wk s.v) w0.v&&Nat.beq s.m w0.m
 |_=>false
def aiY(b w:List Shape):Bool:=match w with
 |[w0]=>match w0.h with
  |[.box ty cs]=>w0.rw.isEmpty&&ja cs&&EG w0.v&&b.all fun s=>qj s.v&&uy (wk s.v) w0.v&&Nat.beq s.m w0.m&&(match s.h with
   |.box ty' cs'::_=>Nat.beq ty' ty&&zi cs' cs
   |_=>false)
  |_=>false
 |_=>false
def aiI(a b:Shape):Bool:=match a.ex,b.ex,a.e,b.e,a.h,b.h,a.rw,b.rw with
 |.ret,.ret,[],[],[.box t1 c1],[.box t2 c2],[],[]=>uy a.v b.v&&Nat.beq t1 t2&&zi c1 c2&&Nat.beq a.m b.m
 |_,_,_,_,_,_,_,_=>false
theorem aeP{a b:Shape}(h:aiI a b=true):a=b:=by
 obtain⟨x1,v1,e1,h1,m1,r1⟩:=a;obtain⟨x2,v2,e2,h2,m2,r2⟩:=b;unfold aiI at h;split at h
 ·rename_i q1 q2 q3 q4 q5 q6 q7 q8
  simp only at q1 q2 q3 q4 q5 q6 q7 q8;simp only[Bool.and_eq_true] at h;obtain⟨⟨⟨g1,g2⟩,g3⟩,g4⟩:=h;rw[q1,q2,q3,q4,q5,q6,q7,q8,qN _ _ g1,Nat.eq_of_beq_eq_true g2,nC _ _ g3,Nat.eq_of_beq_eq_true g4]
 ·cases h
def ae2(s:Shape)(ws:List Shape)(ty:TypeId)(cs:List AV)(w0:Shape):Nat→Bool
 |0=>qj s.v&&uy (wk s.v) w0.v&&Nat.beq s.m w0.m&&(match s.h with
   |.box ty' cs'::_=>Nat.beq ty' ty&&zi cs' cs
   |_=>false)
 |j+1=>decide (j+1<ws.length)&&aiI s (nth jh ws (j+1))
def Dv(f:Shape→Nat→Bool):List Shape→List Nat→Bool
 |[],_=>true
 |s::l,m=>f s (nth 0 m 0)&&Dv f l m.tail
theorem Du(f:Shape→Nat→Bool):∀(l:List Shape) (m:List Nat),Dv f l m=true→∀s,s<l.length→f (nth jh l s) (nth 0 m s)=true
 |[],_,_,s,hs=>by simp at hs
 |a::l,m,h,0,_=>by
  rw[Dv,Bool.and_eq_true] at h;exact h.1
 |a::l,m,h,s+1,hs=>by
  rw[Dv,Bool.and_eq_true] at h;have:=Du f l m.tail h.2 s (by simpa using hs);cases m with
  |nil=>exact this
  |cons x m=>exact this
def aiX(b w:List Shape)(m:List Nat):Bool:=match w with
 |w0::wl=>match w0.h with
  |[.box ty cs]=>w0.rw.isEmpty&&ja cs&&EG w0.v&&Dv (fun s j=>ae2 s (w0::wl) ty cs w0 j) b m
  |_=>false
 |[]=>false
theorem qE{α:Type}(d:α):∀(l:List α) (i:Nat),i<l.length→nth d l i∈l
 |[],_,h=>by simp at h
 |a::l,0,_=>by simp[nth]
 |a::l,i+1,h=>by rw[nth];exact List.mem_cons_of_mem _ (qE d l i (by simpa using h))
theorem oz{α:Type}(d:α):∀(l:List α) (i:Nat),l.length≤i→nth d l i=d
 |[],_,_=>by cases ‹Nat›<;>rfl
 |a::l,0,h=>by simp at h
 |a::l,i+1,h=>by rw[nth];exact oz d l i (by simpa using h)
theorem aA.weak{k b:Nat}{ek eb:og}(he:E k=ek)(hb:E b=eb)(h0:ek.base=some b)(h1:ek.lp=none)(h2:eb.lp=none)(h3:ek.f=eb.f)(h4:ek.args=eb.args)(h5:ek.h=[])(h6:eb.h=[])(h7:ek.n=eb.n)(h8:ek.rin=eb.rin)
  (hc:aaN (S eb.fam) (S ek.fam)=true) (hw0:ek.wm=[]:=by rfl):aA P S E T k:=by
 unfold aA;rw[he,h0];simp only;left;unfold aaN at hc;split at hc
 ·rename_i w0 hw
  simp only[Bool.and_eq_true,List.all_eq_true] at hc;obtain⟨⟨c1,c2⟩,c3⟩:=hc;have e0:nth jh (S (E k).fam) 0=w0:=by rw[he,hw];rfl
  refine⟨by rw[he,hw0],by rw[he,h1],by rw[hb,h2],by rw[he,hb,h3],by rw[he,hb,h4],by rw[he,h5],by rw[hb,h6],by rw[he,hb,h7],by rw[he,hb,h8],by rw[he,hw];simp,fun s hs=>?_,?_⟩
  ·rw[e0]
   rw[hb] at hs ⊢;obtain⟨⟨d1,d2⟩,d3⟩:=c3 _ (qE jh _ s hs);exact⟨d1,qN _ _ d2,Nat.eq_of_beq_eq_true d3⟩
  ·rw[e0]
   exact⟨List.isEmpty_iff.1 c1,List.isEmpty_iff.1 c2⟩
 ·cases hc
theorem aA.weakD{k b:Nat}{ek eb:og}(he:E k=ek)(hb:E b=eb)(h0:ek.base=some b)(h1:ek.lp=none)(h2:eb.lp=none)(h3:ek.f=eb.f)(h4:ek.args=eb.args)(h5:∃x,ek.h=[x])(h6:eb.h=ek.h)(h7:ek.n=eb.n)(h8:ek.rin=eb.rin)
  (hc:aiY (S eb.fam) (S ek.fam)=true) (hw0:ek.wm=[]:=by rfl):aA P S E T k:=by
 unfold aA;rw[he,h0];simp only;right;left;unfold aiY at hc;split at hc
 ·rename_i w0 hw
  split at hc
  ·rename_i ty cs hh
   simp only[Bool.and_eq_true,List.all_eq_true] at hc;obtain⟨⟨⟨c1,c2⟩,c4⟩,c3⟩:=hc;have e0:nth jh (S (E k).fam) 0=w0:=by rw[he,hw];rfl
   refine⟨by rw[he,hw0],by rw[he,h1],by rw[hb,h2],by rw[he,hb,h3],by rw[he,hb,h4],by rw[he];exact h5,by rw[he,hb,h6],by rw[he,hb,h7],by rw[he,hb,h8],by rw[he,hw];simp,⟨ty,cs,by rw[e0];exact hh,c2,fun s hs=>?_⟩,by rw[e0];exact c4,by rw[e0];exact List.isEmpty_iff.1 c1⟩;rw[e0];rw[hb] at hs ⊢;obtain⟨⟨⟨d1,d2⟩,d3⟩,d4⟩:=c3 _ (qE jh _ s hs);refine⟨d1,qN _ _ d2,Nat.eq_of_beq_eq_true d3,?_⟩;split at d4
   ·rename_i ty' cs' r e
    rw[Bool.and_eq_true] at d4;rw[e,Nat.eq_of_beq_eq_true d4.1,nC _ _ d4.2];exact⟨r,rfl⟩
   ·cases d4
  ·cases hc
 ·cases hc
theorem aA.weakM{k b:Nat}{ek eb:og}(he:E k=ek)(hb:E b=eb)(h0:ek.base=some b)(h1:ek.lp=none)(h2:eb.lp=none)(h3:ek.f=eb.f)(h4:ek.args=eb.args)(h5:∃x,ek.h=[x])(h6:eb.h=ek.h)(h7:ek.n=eb.n)(h8:ek.rin=eb.rin)
  (hc:aiX (S eb.fam) (S ek.fam) ek.wm=true) (hw0:∃x l,ek.wm=x::l):aA P S E T k:=by
 unfold aA;rw[he,h0];simp only;right;right;unfold aiX at hc;split at hc
 ·rename_i w0 wl hw
  split at hc
  ·rename_i ty cs hh
   simp only[Bool.and_eq_true,List.all_eq_true] at hc;obtain⟨⟨⟨c1,c2⟩,c4⟩,c3⟩:=hc;have e0:nth jh (S (E k).fam) 0=w0:=by rw[he,hw];rfl
   have g0:∀s,s<(S (E b).fam).length→ae2 (nth jh (S (E b).fam) s) (S (E k).fam) ty cs w0 (nth 0 (E k).wm s)=true:=by
    intro s hs;rw[he,hw,hb] at *;exact Du _ _ _ c3 s hs
   refine⟨by rw[he];exact hw0,by rw[he,h1],by rw[hb,h2],by rw[he,hb,h3],by rw[he,hb,h4],by rw[he];exact h5,by rw[he,hb,h6],by rw[he,hb,h7],by rw[he,hb,h8],by rw[he,hw];simp,⟨ty,cs,by rw[e0];exact hh,c2,fun s hs hz=>?_⟩,by rw[e0];exact c4,by rw[e0];exact List.isEmpty_iff.1 c1,fun s hs j hz=>?_⟩
   ·have c:=g0 s hs
    rw[hz] at c;unfold ae2 at c;simp only[Bool.and_eq_true] at c;obtain⟨⟨⟨d1,d2⟩,d3⟩,d4⟩:=c;rw[e0];refine⟨d1,qN _ _ d2,Nat.eq_of_beq_eq_true d3,?_⟩;split at d4
    ·rename_i ty' cs' r e
     rw[Bool.and_eq_true] at d4;rw[e,Nat.eq_of_beq_eq_true d4.1,nC _ _ d4.2];exact⟨r,rfl⟩
    ·cases d4
   ·have c:=g0 s hs
    rw[hz] at c;unfold ae2 at c;simp only[Bool.and_eq_true] at c;exact⟨of_decide_eq_true c.1,aeP c.2⟩
  ·cases hc
 ·cases hc
def lpB(P:Program)(e:og):Bool:=match e.lp with
 |none=>true
 |some (id,_)=>match P.funcs[e.f]? with
  |none=>true
  |some fn=>iR (subs id (fK fn))
theorem vY.of{es:List og}{ss:List (List Shape)}(h1:es.all LJ=true)(h2:ss.all (fun l=>l.all Gi)=true)(h3:es.all (lpB P)=true):vY P (nth [] ss) (nth dEn es):=by
 rw[List.all_eq_true] at h1 h2 h3;refine⟨fun k=>?_,fun f s=>?_,fun k id m0 fn hl hf=>?_⟩
 ·by_cases hk:k<es.length
  ·exact h1 _ (qE dEn es k hk)
  ·rw[oz dEn es k (by omega)];rfl
 ·by_cases hk:f<ss.length
  ·have:=h2 _ (qE [] ss f hk)
   rw[List.all_eq_true] at this;by_cases hs:s<(nth [] ss f).length
   ·exact this _ (qE jh _ s hs)
   ·rw[oz jh _ s (by omega)];rfl
  ·rw[oz [] ss f (by omega),oz jh [] s (by simp)];rfl
 ·by_cases hk:k<es.length
  ·have:=h3 _ (qE dEn es k hk)
   unfold lpB at this;rw[hl] at this;simp only at this;rw[hf] at this;exact this
  ·rw[oz dEn es k (by omega)] at hl;cases hl
def bR(p:Nat→Prop):Nat→Prop
 |0=>True
 |n+1=>bR p n∧p n
theorem bR.get{p:Nat→Prop}:∀{n:Nat},bR p n→∀k,k<n→p k
 |0,_,k,hk=>by omega
 |n+1,h,k,hk=>by
  by_cases e:k=n
  ·rw[e];exact h.2
  ·exact h.1.get k (by omega)
end
section
variable{β:Type}
def bK(b:Bool)(x y:β):β:=match b with
 |true=>x
 |false=>y
theorem ae9(x y:β):bK true x y=x:=rfl
theorem aa6(x y:β):bK false x y=y:=rfl
theorem afa(b:Bool)(x:β):bK b x x=x:=by cases b<;>rfl
theorem ajb(b:Bool)(x y:β):bK (!b) x y=bK b y x:=by cases b<;>rfl
theorem Dl(d:β)(p:PV)(k:β):isK d p p k=k:=by unfold isK;rw[if_pos rfl]
theorem alF(d:β)(b:Bool)(k:β):isK d (.lit (.bool true)) (.lit (.bool b)) k=bK b k d:=by
 unfold isK;cases b<;>simp[bK]
theorem alG(d:β)(b:Bool)(k:β):isK d (.lit (.bool false)) (.lit (.bool b)) k=bK b d k:=by
 unfold isK;cases b<;>simp[bK]
theorem ado(d:β)(a b:Int)(k:β):isK d (.lit (.int .i64 a)) (.lit (.int .i64 b)) k=if a=b then k else d:=by
 unfold isK;by_cases h:a=b<;>simp[h]
theorem pV(d:β)(es:List (List PV))(k:β):isK d (.lit (.slice none 0 0)) (.rows es) k=d:=by unfold isK;simp
theorem YI(d:β)(k:β):YJ d [] k=k:=rfl
theorem UX(d:β)(y:PV)(r:List PV)(k:β):YJ d (y::r) k=d:=rfl
theorem OA(d:β)(y:PV)(r:List PV)(k:PV→List PV→β):FW d (y::r) k=k y r:=rfl
theorem Vg(d:β)(k:PV→List PV→β):FW d [] k=d:=rfl
theorem ahT(d:β)(y:PV)(k:PV→β):UJ d (.pv y) k=k y:=rfl
theorem ae1(d:β)(c:List PV)(k:List PV→β):LW d (.cptr c) k=k c:=rfl
theorem acL(d:β)(y z:PV)(k:PV→PV→β):Ct d (.tup [.pv y,.pv z]) k=k y z:=rfl
theorem kP{α:Type}{d:β}{p:α→Prop}{k:α→β}{w0:α}(h:∀w,p w↔w=w0):qg d p k=k w0:=by
 unfold qg;have he:∃w,p w:=⟨w0,(h w0).2 rfl⟩;rw[dif_pos he,(h _).1 he.choose_spec]
theorem lC{α:Type}{p n:α→Prop}{w0:α}(h:∀w,p w↔w=w0)(hn:n w0):∀w,(p w∧n w)↔w=w0:=fun w=>by
 constructor
 ·exact fun h1=>(h w).1 h1.1
 ·intro e;subst e;exact⟨(h w).2 rfl,hn⟩
variable{P:Program}{d:β}{k:AV→β}
theorem dw{b:BinOp}{t:TypeId}{u v w0:AV}(h:∀w,dL P b t u v w↔w=w0)(hn:qZ w0):jH P d b t u v k=k w0:=kP (lC h hn)
theorem eO{t:TypeId}{u w0:AV}(h:∀w,mF P t u w↔w=w0)(hn:qZ w0):gm P d t u k=k w0:=kP (lC h hn)
theorem gW{t:TypeId}{u i w0:AV}(h:∀w,mW P t u i w↔w=w0)(hn:qZ w0):fB P d t u i k=k w0:=kP (lC h hn)
theorem Pf{t:TypeId}{u:AV}{lo hi:Option AV}{w0:AV}(h:∀w,Ai P t u lo hi w↔w=w0)(hn:qZ w0):EO P d t u lo hi k=k w0:=kP (lC h hn)
theorem Bz{t:TypeId}{s x:AV}{w0:PV}{k:PV→β}(h:∀w,MG P t s x w↔w=w0)(hn:NS w0):lu P d t s x k=k w0:=kP (lC h hn)
theorem abf{t:TypeId}{s x:AV}{k:β}(h:JI P t s x):mU P d t s x k=k:=by unfold mU;rw[if_pos h]
theorem bq(v:Value):qZ (.pv (.lit v)):=.pv _ (.lit v)
theorem Pe{t:TypeId}{u:AV}{lo hi:Option AV}{w0:AV}(h:Ai P t u lo hi w0)(w:AV):Ai P t u lo hi w↔w=w0:=by
 constructor
 ·intro hw
  -- operands that stand for the bounds
  let ρ:Operand→Option AV:=fun
   |.tmp 0=>lo
   |.tmp 1=>hi
   |_=>none
  have hl:rf ρ (lo.map fun _=>Operand.tmp 0) lo:=by cases lo<;>simp[rf,ρ]
  have hh:rf ρ (hi.map fun _=>Operand.tmp 1) hi:=by cases hi<;>simp[rf,ρ]
  have h1:=hw ρ _ _ hl hh;have h2:=h ρ _ _ hl hh;rw[h1] at h2;exact Option.some.inj h2
 ·rintro rfl;exact h
variable{t:TypeId}{a b:Int}
theorem aaY:jH P d .lss t (.pv (.lit (.int .i64 a))) (.pv (.lit (.int .i64 b))) k=k (.pv (.lit (.bool (decide (a<b))))):=dw (fun _=>TU) (bq _)
theorem aaZ:jH P d .leq t (.pv (.lit (.int .i64 a))) (.pv (.lit (.int .i64 b))) k=k (.pv (.lit (.bool (decide (a≤b))))):=dw (fun _=>TV) (bq _)
theorem aa0:jH P d .gtr t (.pv (.lit (.int .i64 a))) (.pv (.lit (.int .i64 b))) k=k (.pv (.lit (.bool (decide (b<a))))):=dw (fun _=>TY) (bq _)
theorem aa1:jH P d .geq t (.pv (.lit (.int .i64 a))) (.pv (.lit (.int .i64 b))) k=k (.pv (.lit (.bool (decide (b≤a))))):=dw (fun _=>T9) (bq _)
theorem aa3:jH P d .eql t (.pv (.lit (.int .i64 a))) (.pv (.lit (.int .i64 b))) k=k (.pv (.lit (.bool (decide (a=b))))):=dw (fun _=>Ub) (bq _)
theorem aaX:jH P d .neq t (.pv (.lit (.int .i64 a))) (.pv (.lit (.int .i64 b))) k=k (.pv (.lit (.bool (!decide (a=b))))):=dw (fun _=>by rw[TS];simp) (bq _)
theorem aa4:jH P d .add t (.pv (.lit (.int .i64 a))) (.pv (.lit (.int .i64 b))) k=k (.pv (.lit (.int .i64 (IntKind.i64.wrap (a+b))))):=dw (fun _=>Uc) (bq _)
theorem aaV:jH P d .sub t (.pv (.lit (.int .i64 a))) (.pv (.lit (.int .i64 b))) k=k (.pv (.lit (.int .i64 (IntKind.i64.wrap (a-b))))):=dw (fun _=>TP) (bq _)
theorem aa2{x y:ByteArray}:jH P d .eql t (.pv (.lit (.string x))) (.pv (.lit (.string y))) k=k (.pv (.lit (.bool (decide (x=y))))):=dw (fun _=>Ua) (bq _)
theorem aaW{x y:ByteArray}:jH P d .neq t (.pv (.lit (.string x))) (.pv (.lit (.string y))) k=k (.pv (.lit (.bool (!decide (x=y))))):=dw (fun _=>by rw[TQ];simp) (bq _)
end
theorem abj(a:aK):aK.alt .fail a=a:=rfl
theorem zD(a:aK):aK.alt a .fail=a:=by cases a<;>rfl
theorem aje(r:Rs)(a:aK):aK.alt (.ok r) a=.ok r:=rfl
theorem ajf(b:Bool)(x y:aK):aK.alt (bK b x .fail) (bK b .fail y)=bK b x y:=by
 cases b
 ·rfl
 ·exact zD x
theorem afi(b:Bool)(x y:aK):aK.alt (bK b .fail x) (bK b y .fail)=bK b y x:=by
 cases b
 ·exact zD x
 ·rfl
theorem OD(s' s:Nat)(ys:List PV)(k:List PV→aK):tC (some (s',ys)) s k=if s'=s then k ys else .fail:=by
 unfold tC;by_cases h:s'=s
 ·subst h;rw[if_pos rfl];simp
 ·rw[if_neg h]
  simp only;cases hb:Nat.beq s' s with
  |true=>exact absurd (Nat.eq_of_beq_eq_true hb) h
  |false=>rfl
theorem Ns(r:Rs):gX (some r)=.ok r:=rfl
theorem Vq(o:Option Rs)(x:aK):aK.alt (gX o) x=gX o:=by cases o<;>rfl
theorem BF(s:Nat)(ys:List PV):mM (some (s,ys))=.ok (0,nI ys):=rfl
theorem gN(s:Nat)(ys:List PV):weakD (some (s,ys))=.ok (0,dD ys):=rfl
@[simp] theorem iZ(m:List Nat)(s:Nat)(ys:List PV):weakM m (some (s,ys))=(match nth 0 m s with|0=>.ok (0,dD ys)|j+1=>.ok (j+1,ys)):=rfl
theorem VE:nI []=[]:=rfl
theorem Uq(p:PV)(l:List PV):nI (p::l)=ED p::nI l:=rfl
theorem abG(i:IntKind)(n:Int):ED (.lit (.int i n))=.lit (.int i n):=rfl
theorem VG(b:Bool):ED (.lit (.bool b))=.lit (.bool b):=rfl
theorem abE(b:ByteArray):ED (.lit (.string b))=.lit (.string b):=rfl
theorem VF(es:List (List PV)):ED (.rows es)=.rows es:=rfl
theorem abF:ED (.lit (.slice none 0 0))=.rows []:=rfl
attribute [simp] ae9 aa6 afa ajb Dl alF alG ado pV YI UX OA Vg ahT ae1 acL aaY aaZ aa0 aa1 aa3 aaX aa4 aaV aa2 aaW abj zD aje ajf afi Vq OD Ns BF VE Uq abG VG abE VF abF
end Go.Proofs.YtijcobeebaceoaaGreatDoor
namespace Go.Proofs
open Go.Shelf
def Tryz.lays161_ren:Go.Shelf.Ren:=⟨fun|161=>139|231=>150|227=>151|233=>152|235=>153|228=>161|197=>162|151=>163|260=>167|152=>168|137=>141|119=>169|224=>170|225=>171|217=>155|266=>164|n=>n,fun|9=>9|4=>4|3=>3|5=>5|117=>193|116=>192|0=>0|124=>196|105=>201|21=>21|119=>207|46=>208|139=>211|138=>210|n=>n,fun|3=>1|4=>2|n=>n⟩
theorem Tryz.lays161:Go.Proofs.Lays.n161 Tryz.prog Tryz.lays161_ren:={
 mixed:=by kernel_rfl
 f119:=Tryz.func169.trans (congrArg some (by kernel_rfl))
 f137:=Tryz.func141.trans (congrArg some (by kernel_rfl))
 f151:=Tryz.func163.trans (congrArg some (by kernel_rfl))
 f152:=Tryz.func168.trans (congrArg some (by kernel_rfl))
 f161:=Tryz.func139.trans (congrArg some (by kernel_rfl))
 f197:=Tryz.func162.trans (congrArg some (by kernel_rfl))
 f217:=Tryz.func155.trans (congrArg some (by kernel_rfl))
 f224:=Tryz.func170.trans (congrArg some (by kernel_rfl))
 f225:=Tryz.func171.trans (congrArg some (by kernel_rfl))
 f227:=Tryz.func151.trans (congrArg some (by kernel_rfl))
 f228:=Tryz.func161.trans (congrArg some (by kernel_rfl))
 f231:=Tryz.func150.trans (congrArg some (by kernel_rfl))
 f233:=Tryz.func152.trans (congrArg some (by kernel_rfl))
 f235:=Tryz.func153.trans (congrArg some (by kernel_rfl))
 f260:=Tryz.func167.trans (congrArg some (by kernel_rfl))
 f266:=Tryz.func164.trans (congrArg some (by kernel_rfl))
 t0:=Tryz.underlying0
 a0:=Tryz.isAgg0
 z0:=Tryz.sizeOf0
 v0:=Tryz.zeroValue0
 t3:=Tryz.underlying3
 a3:=Tryz.isAgg3
 z3:=Tryz.sizeOf3
 v3:=Tryz.zeroValue3
 t4:=Tryz.underlying4
 a4:=Tryz.isAgg4
 z4:=Tryz.sizeOf4
 v4:=Tryz.zeroValue4
 t5:=Tryz.underlying5
 a5:=Tryz.isAgg5
 z5:=Tryz.sizeOf5
 v5:=Tryz.zeroValue5
 t9:=Tryz.underlying9
 a9:=Tryz.isAgg9
 z9:=Tryz.sizeOf9
 v9:=Tryz.zeroValue9
 t21:=Tryz.underlying21
 a21:=Tryz.isAgg21
 z21:=Tryz.sizeOf21
 v21:=Tryz.zeroValue21
 t46:=Tryz.underlying208
 a46:=Tryz.isAgg208
 z46:=Tryz.sizeOf208
 v46:=Tryz.zeroValue208
 t105:=Tryz.underlying201
 a105:=Tryz.isAgg201
 z105:=Tryz.sizeOf201
 v105:=Tryz.zeroValue201
 t116:=Tryz.underlying192
 a116:=Tryz.isAgg192
 z116:=Tryz.sizeOf192
 t117:=Tryz.underlying193
 a117:=Tryz.isAgg193
 z117:=Tryz.sizeOf193
 v117:=Tryz.zeroValue193
 t119:=Tryz.underlying207
 a119:=Tryz.isAgg207
 z119:=Tryz.sizeOf207
 t124:=Tryz.underlying196
 a124:=Tryz.isAgg196
 z124:=Tryz.sizeOf196
 v124:=Tryz.zeroValue196
 t138:=Tryz.underlying210
 a138:=Tryz.isAgg210
 z138:=Tryz.sizeOf210
 v138:=Tryz.zeroValue210
 t139:=Tryz.underlying211
 a139:=Tryz.isAgg211
 z139:=Tryz.sizeOf211
 v139:=Tryz.zeroValue211
 g3:=by kernel_rfl
 g4:=by kernel_rfl }
open Go.RowKit in
theorem Tryz.strings_TrimLeft_one(s:ByteArray)(c:UInt8)(hc:c.toNat<128)(w:World) :
  Calls Tryz.prog 139 #[.string s,.string ⟨#[c]⟩] w fun e w'=>e=.returned (.string ⟨(Lib.trimLeftB s.data.toList c).toArray⟩)∧w'=w:=Any.strings_TrimLeft_one Tryz.lays161 s c hc w
def Tryz.lays137_ren:Go.Shelf.Ren:=⟨fun|137=>141|217=>155|266=>164|n=>n,fun|9=>9|5=>5|3=>3|n=>n,fun|n=>n⟩
theorem Tryz.lays137:Go.Proofs.Lays.n137 Tryz.prog Tryz.lays137_ren:={
 mixed:=by kernel_rfl
 f137:=Tryz.func141.trans (congrArg some (by kernel_rfl))
 f217:=Tryz.func155.trans (congrArg some (by kernel_rfl))
 f266:=Tryz.func164.trans (congrArg some (by kernel_rfl))
 t3:=Tryz.underlying3
 a3:=Tryz.isAgg3
 z3:=Tryz.sizeOf3
 v3:=Tryz.zeroValue3
 t5:=Tryz.underlying5
 a5:=Tryz.isAgg5
 z5:=Tryz.sizeOf5
 v5:=Tryz.zeroValue5
 t9:=Tryz.underlying9
 a9:=Tryz.isAgg9
 z9:=Tryz.sizeOf9
 v9:=Tryz.zeroValue9 }
open Go.RowKit in
theorem Tryz.strings_IndexByte(s:ByteArray)(c:Int)(w:World) :
  Calls Tryz.prog 141 #[.string s,.int .u8 c] w fun e w'=>e=.returned (.int .i64 (Lib.indexByte s.data.toList c.toNat.toUInt8))∧w'=w:=Any.strings_IndexByte Tryz.lays137 s c w
def Tryz.lays206_ren:Go.Shelf.Ren:=⟨fun|206=>136|n=>n,fun|9=>9|4=>4|3=>3|n=>n,fun|n=>n⟩
def Tryz.lays99_ren:Go.Shelf.Ren:=⟨fun|99=>100|206=>136|n=>n,fun|9=>9|4=>4|3=>3|n=>n,fun|n=>n⟩
theorem Tryz.lays99:Go.Proofs.Lays.n99 Tryz.prog Tryz.lays99_ren:={
 mixed:=by kernel_rfl
 f99:=Tryz.func100.trans (congrArg some (by kernel_rfl))
 f206:=Tryz.func136.trans (congrArg some (by kernel_rfl))
 t3:=Tryz.underlying3
 a3:=Tryz.isAgg3
 z3:=Tryz.sizeOf3
 v3:=Tryz.zeroValue3
 t4:=Tryz.underlying4
 a4:=Tryz.isAgg4
 z4:=Tryz.sizeOf4
 v4:=Tryz.zeroValue4
 t9:=Tryz.underlying9
 a9:=Tryz.isAgg9
 z9:=Tryz.sizeOf9
 v9:=Tryz.zeroValue9 }
open Go.RowKit Go.Lib in
theorem Tryz.strings_HasPrefix(s p:ByteArray)(w:World) :
  Calls Tryz.prog 100 #[.string s,.string p] w fun e w'=>e=.returned (.bool (Lib.hasPrefix s.data.toList p.data.toList))∧w'=w:=Any.strings_HasPrefix Tryz.lays99 s p w
end Go.Proofs
namespace Go.Proofs.YtijcobeebaceoaaGreatDoor.Lx
set_option maxRecDepth 20000
open Go.RowKit
def lowB(c:UInt8):Bool:=decide (97≤c.toNat∧c.toNat≤122∨c.toNat=95)
def upB(c:UInt8):Bool:=decide (65≤c.toNat∧c.toNat≤90)
def digitB(c:UInt8):Bool:=decide (48≤c.toNat∧c.toNat≤57)
def blankB(c:UInt8):Bool:=decide (c.toNat=32∨c.toNat=9∨c.toNat=10∨c.toNat=13)
def insideB(c:UInt8):Bool:=lowB c||upB c||digitB c||decide (c.toNat=39)
def lineB(c:UInt8):Bool:=decide (c.toNat≠10)
def O8:List UInt8:=[33,36,37,38,42,43,46,47,60,61,62,63,64,94,124,126,58,45]
def symB(c:UInt8):Bool:=O8.contains c
theorem jd{a b:Bool}(h:a=b):Ending.returned (.bool a)=.returned (.bool b):=by rw[h]
set_option maxHeartbeats 400000 in
theorem qf(c:UInt8)(w:World) :
  Calls Tryz.prog 105 #[.int .u8 (c.toNat:Int)] w fun e w'=>e=.returned (.bool (upB c))∧w=w':=by
 go_enter Tryz.func105,Tryz.ntmps105
 go_wp2
 all_goals go_ret
 all_goals exact⟨jd (by rw[Bool.eq_iff_iff];simp[upB];try omega),rfl⟩
set_option maxHeartbeats 400000 in
theorem nu(c:UInt8)(w:World) :
  Calls Tryz.prog 104 #[.int .u8 (c.toNat:Int)] w fun e w'=>e=.returned (.bool (lowB c))∧w=w':=by
 go_enter Tryz.func104,Tryz.ntmps104
 go_wp2
 all_goals go_ret
 all_goals exact⟨jd (by rw[Bool.eq_iff_iff];simp[lowB];try omega),rfl⟩
set_option maxHeartbeats 400000 in
theorem kr(c:UInt8)(w:World) :
  Calls Tryz.prog 107 #[.int .u8 (c.toNat:Int)] w fun e w'=>e=.returned (.bool (digitB c))∧w=w':=by
 go_enter Tryz.func107,Tryz.ntmps107
 go_wp2
 all_goals go_ret
 all_goals exact⟨jd (by rw[Bool.eq_iff_iff];simp[digitB];try omega),rfl⟩
set_option maxHeartbeats 400000 in
theorem Vk(c:UInt8)(w:World) :
  Calls Tryz.prog 102 #[.int .u8 (c.toNat:Int)] w fun e w'=>e=.returned (.bool (blankB c))∧w=w':=by
 go_enter Tryz.func102,Tryz.ntmps102
 go_wp2
 all_goals go_ret
 all_goals exact⟨jd (by rw[Bool.eq_iff_iff];simp[blankB];try omega),rfl⟩
set_option maxHeartbeats 400000 in
theorem YS(v:Value)(c:UInt8)(w:World) :
  Calls Tryz.prog 103 #[v,.int .u8 (c.toNat:Int)] w fun e w'=>e=.returned (.bool (lineB c))∧w=w':=by
 go_enter Tryz.func103,Tryz.ntmps103
 go_wp2
 all_goals go_ret
 all_goals exact⟨jd (by rw[Bool.eq_iff_iff];simp[lineB];try omega),rfl⟩
set_option maxHeartbeats 400000 in
theorem N7(c:UInt8)(w:World) :
  Calls Tryz.prog 137 #[.int .u8 (c.toNat:Int)] w fun e w'=>e=.returned (.bool (insideB c))∧w=w':=by
 cases hl:lowB c
 ·cases hu:upB c
  ·cases hd:digitB c
   all_goals
    go_enter Tryz.func137,Tryz.ntmps137
    go_wp2_with (first|(go_at_call 104;refine(nu _ _).mono ?_;rintro e w' ⟨rfl,rfl⟩)|(go_at_call 105;refine(qf _ _).mono ?_;rintro e w' ⟨rfl,rfl⟩)|(go_at_call 107;refine(kr _ _).mono ?_;rintro e w' ⟨rfl,rfl⟩))
    all_goals go_ret
    all_goals exact⟨jd (by rw[Bool.eq_iff_iff];simp[insideB,hl,hu,hd];try omega),rfl⟩
  ·go_enter Tryz.func137,Tryz.ntmps137
   go_wp2_with (first|(go_at_call 104;refine(nu _ _).mono ?_;rintro e w' ⟨rfl,rfl⟩)|(go_at_call 105;refine(qf _ _).mono ?_;rintro e w' ⟨rfl,rfl⟩)|(go_at_call 107;refine(kr _ _).mono ?_;rintro e w' ⟨rfl,rfl⟩))
   all_goals go_ret
   all_goals exact⟨jd (by simp[insideB,hl,hu]),rfl⟩
 ·go_enter Tryz.func137,Tryz.ntmps137
  go_wp2_with (first|(go_at_call 104;refine(nu _ _).mono ?_;rintro e w' ⟨rfl,rfl⟩)|(go_at_call 105;refine(qf _ _).mono ?_;rintro e w' ⟨rfl,rfl⟩)|(go_at_call 107;refine(kr _ _).mono ?_;rintro e w' ⟨rfl,rfl⟩))
  all_goals go_ret
  all_goals exact⟨jd (by simp[insideB,hl]),rfl⟩
set_option maxHeartbeats 400000 in
theorem vw(c:UInt8)(w:World) :
  Calls Tryz.prog 110 #[.int .u8 (c.toNat:Int)] w fun e w'=>e=.returned (.bool (symB c))∧w=w':=by
 go_enter Tryz.func110,Tryz.ntmps110
 go_wp2_with (go_at_call 141;refine(Tryz.strings_IndexByte _ _ _).mono ?_;rintro e w' ⟨rfl,rfl⟩)
 go_ret
 exact⟨jd (Lib.contains_iff_indexByte O8 c).symm,rfl⟩
def Mw(p:UInt8→Bool)(s:ByteArray):Bool:=s.data.toList.all p
theorem Ut(s:ByteArray)(k:Nat)(h:k<s.size):s.data.toList.take (k+1)=s.data.toList.take k++[s[k]]:=by
 rw[List.take_succ_eq_append_getElem (by simpa using h)];rfl
theorem VW(s:ByteArray)(k:Nat)(h:¬k<s.size):s.data.toList.take k=s.data.toList:=
 List.take_of_length_le (by have:s.data.toList.length=s.size:=rfl;omega)
theorem aie(s:ByteArray)(k:Nat)(h:k<s.size):s[k]∈s.data.toList:=by
 have:s[k]=s.data.toList[k]'(by simpa using h):=rfl;rw[this];exact List.getElem_mem _
end Go.Proofs.YtijcobeebaceoaaGreatDoor.Lx
namespace Go.Proofs.YtijcobeebaceoaaGreatDoor.Lx
set_option maxRecDepth 20000
open Go.RowKit
def keyList:List (List UInt8):=[[100,97,116,97],[99,108,97,115,115],[105,110,115,116,97,110,99,101],[102,114,111,109],[119,104,101,114,101],[101,110,100],[100,101,114,105,118,105,110,103],[100,101,102],[108,101,116],[114,101,99],[97,110,100],[105,110],[99,97,115,101],[111,102],[105,102],[116,104,101,110],[101,108,115,101]]
def markList:List (List UInt8):=[[40],[41],[44],[59],[92],[95],[61],[45,62],[124],[58]]
def keyB(s:ByteArray):Bool:=keyList.contains s.toList
def markB(s:ByteArray):Bool:=markList.contains s.toList
set_option maxHeartbeats 1000000 in
theorem CW(s:ByteArray)(w:World) :
  Calls Tryz.prog 111 #[.string s] w fun e w'=>e=.returned (.bool (markB s))∧w=w':=by
 go_enter Tryz.func111,Tryz.ntmps111
 go_wp2
 all_goals go_ret
 all_goals exact⟨jd (by simp_all[markB,markList]),rfl⟩
set_option maxHeartbeats 1000000 in
theorem adj(s:ByteArray)(w:World) :
  Calls Tryz.prog 138 #[.string s] w fun e w'=>e=.returned (.bool (keyB s))∧w=w':=by
 go_enter Tryz.func138,Tryz.ntmps138
 go_wp2
 all_goals go_ret
 all_goals exact⟨jd (by simp_all[keyB,keyList]),rfl⟩
def EB(f:Nat)(p:UInt8→Bool):Prop:=
 (∀(args:Array Value) (w:World),Sem.run Tryz.prog (callFunc f args) w=.ok (.enter f args) w)∧
 ∀(c:UInt8) (w:World),Calls Tryz.prog f #[.int .u8 (c.toNat:Int)] w fun e w'=>e=.returned (.bool (p c))∧w=w'
theorem U6:EB 137 insideB:=⟨fun _ _=>by kernel_rfl,N7⟩
theorem Uv:EB 110 symB:=⟨fun _ _=>by kernel_rfl,vw⟩
theorem aaJ:EB 107 digitB:=⟨fun _ _=>by kernel_rfl,kr⟩
theorem aaU:EB 102 blankB:=⟨fun _ _=>by kernel_rfl,Vk⟩
def Zp(p:UInt8→Bool)(s:ByteArray):Bool:=match s.data.toList with|[]=>false|c::_=>p c
theorem Zo(p:UInt8→Bool)(s:ByteArray)(h:0<s.size):Zp p s=p s[0]:=by
 obtain⟨⟨l⟩⟩:=s;cases l with
 |nil=>exact absurd h (by decide)
 |cons c r=>rfl
def textOf(l:List UInt8):ByteArray:=⟨l.toArray⟩
end Go.Proofs.YtijcobeebaceoaaGreatDoor.Lx
namespace Go.Proofs.YtijcobeebaceoaaGreatDoor.Lx
set_option maxRecDepth 20000
open Go.RowKit
end Go.Proofs.YtijcobeebaceoaaGreatDoor.Lx
namespace Go.Proofs.YtijcobeebaceoaaGreatDoor.Lx
set_option maxRecDepth 20000
open Go.RowKit
theorem vQ(w:World)(r:Option Nat):w.grownBy w r:=⟨rfl,rfl,rfl,Nat.le_refl _,fun _ _ _=>rfl⟩
theorem sU{a b c:World}{r:Option Nat}(h:a.grownBy b r)(k:b.grownBy c r):a.grownBy c r:=
 ⟨k.os.trans h.os,k.tape.trans h.tape,k.output.trans h.output,Nat.le_trans h.size k.size,fun i hi hr=>(k.block i (Nat.lt_of_lt_of_le hi h.size) hr).trans (h.block i hi hr)⟩
theorem dJ{a b:World}{r:Option Nat}(h:a.grownBy b r)(n:Nat):a.grownBy (b.drewN n) r:=⟨h.os,h.tape,h.output,h.size,h.block⟩
theorem uX{a b:World}{k:Nat}(h:a.grownBy b (some k))(o:Nat)(u:Value):a.grownBy (b.setCell ⟨k,o,none⟩ u) (some k):=
 sU h ⟨rfl,rfl,rfl,by simp[World.setCell],fun i _ hr=>Below.heap_setCell _ _ _ _ (fun e=>hr (by rw[e]))⟩
def rO(w:World)(b:Nat)(s:ByteArray)(k:Nat)(v:Value):Prop:=w.heap[b]? = some (.cells #[.string s,.int .i64 (k:Int),v] 142 (0,0))
theorem rO.c0{w:World}{b k:Nat}{s:ByteArray}{v:Value}(h:rO w b s k v):w.cell? ⟨b,0,none⟩=some (.string s):=by simp[World.cell?,show w.heap[b]? = _ from h]
theorem rO.c1{w:World}{b k:Nat}{s:ByteArray}{v:Value}(h:rO w b s k v):w.cell? ⟨b,1,none⟩=some (.int .i64 (k:Int)):=by simp[World.cell?,show w.heap[b]? = _ from h]
theorem rO.c2{w:World}{b k:Nat}{s:ByteArray}{v:Value}(h:rO w b s k v):w.cell? ⟨b,2,none⟩=some v:=by simp[World.cell?,show w.heap[b]? = _ from h]
theorem rO.f{w:World}{b k:Nat}{s:ByteArray}{v:Value}(h:rO w b s k v)(o:Nat):w.frozen? ⟨b,o,none⟩=false:=by simp[World.frozen?,show w.heap[b]? = _ from h]
theorem rO.drewN{w:World}{b k:Nat}{s:ByteArray}{v:Value}(h:rO w b s k v)(n:Nat):rO (w.drewN n) b s k v:=h
theorem rO.lt{w:World}{b k:Nat}{s:ByteArray}{v:Value}(h:rO w b s k v):b<w.heap.size:=lt_of_block h
theorem rO.set1{w:World}{b k:Nat}{s:ByteArray}{v:Value}(h:rO w b s k v)(j:Nat):rO (w.setCell ⟨b,1,none⟩ (.int .i64 (j:Int))) b s j v:=by
 have hlt:=lt_of_block h;have h':w.heap[b]=.cells #[.string s,.int .i64 (k:Int),v] 142 (0,0):=by have:=h;unfold rO at this;simpa[Array.getElem?_eq_getElem hlt] using this
 show (w.heap.modify b _)[b]? = _;rw[Array.getElem?_eq_getElem (by simpa using hlt),Array.getElem_modify_self,h'];rfl
theorem rO.set2{w:World}{b k:Nat}{s:ByteArray}{v:Value}(h:rO w b s k v)(u:Value):rO (w.setCell ⟨b,2,none⟩ u) b s k u:=by
 have hlt:=lt_of_block h;have h':w.heap[b]=.cells #[.string s,.int .i64 (k:Int),v] 142 (0,0):=by have:=h;unfold rO at this;simpa[Array.getElem?_eq_getElem hlt] using this
 show (w.heap.modify b _)[b]? = _;rw[Array.getElem?_eq_getElem (by simpa using hlt),Array.getElem_modify_self,h'];rfl
theorem qy{P:Program}{f:FuncId}{args:Array Value}{w:World}{n:Nat}{v:Value}
  (h:Calls P f args (w.drewN n) fun e w'=>e=.returned v∧w.drewN n=w'):Calls P f args (w.drewN n) fun e w''=>e=.returned v∧∃m,w''=w.drewN m:=
 h.mono fun _ _ ⟨he,hm⟩=>⟨he,n,hm.symm⟩
def adv(p:UInt8→Bool)(s:ByteArray)(k:Nat):Nat:=k+((s.data.toList.drop k).takeWhile p).length
theorem rz(p:UInt8→Bool):∀(l:List UInt8) (n:Nat),n≤l.length→(∀i (h:i<l.length),i<n→p l[i]=true)→(∀h:n<l.length,p l[n]=false)→(l.takeWhile p).length=n
 |[],n,hn,_,_=>by simp at hn;simp[hn]
 |c::r,0,_,_,h=>by
  have:=h (by simp);simp at this;simp[this]
 |c::r,n+1,hn,ha,h=>by
  have h0:p c=true:=ha 0 (by simp) (by omega);have ih:=rz p r n (by simpa using hn) (fun i hi hin=>by have:=ha (i+1) (by simpa using hi) (by omega);simpa using this) (fun hlt=>by have:=h (by simpa using hlt);simpa using this);simp[h0,ih]
theorem JE{p:UInt8→Bool}{s:ByteArray}{k j:Nat}(hkj:k≤j)(hj:j≤s.size)(ha:∀i (h:i<s.size),k≤i→i<j→p s[i]=true)(he:∀h:j<s.size,p s[j]=false):adv p s k=j:=by
 have hl:s.data.toList.length=s.size:=rfl;have:=rz p (s.data.toList.drop k) (j-k) (by simp only[List.length_drop];omega)
  (fun i hi hin=>by
   have hi':k+i<s.size:=by simp only[List.length_drop] at hi;omega
   have:=ha (k+i) hi' (by omega) (by omega);simp only[List.getElem_drop];exact this)
  (fun hlt=>by
   have hlt':j<s.size:=by simp only[List.length_drop] at hlt;omega
   have:=he hlt';have e:k+(j-k)=j:=by omega
   simp only[List.getElem_drop,e];exact this)
 unfold adv;omega
set_option maxHeartbeats 1000000 in
theorem xC(f:Nat)(p:UInt8→Bool)(hf:EB f p)(b k:Nat)(s:ByteArray)(v:Value)(w:World)(hb:rO w b s k v)(hk:k≤s.size)(hs:s.size≤1000000) :
  Calls Tryz.prog 101 #[.pointer (some ⟨b,0,none⟩),.func (.func f) #[] #[]] w fun e w'=>e=.returned (.string (s.extract k (adv p s k)))∧rO w' b s (adv p s k) v∧w.grownBy w' (some b):=by
 obtain⟨hcf,hf⟩:=hf;have HF:=Lib.hid hf;clear hf;have hc1:=hb.c1
 go_enter Tryz.func101,Tryz.ntmps101
 go_wp2_with fail
 go_loopg [] (s.size-k) (fun g wr=>∃j:Nat,k≤j∧j≤s.size∧s.size-j=g∧rO wr b s j v∧w.grownBy wr (some b)∧∀i (h:i<s.size),k≤i→i<j→p s[i]=true)
 case atStart=>exact⟨k,Nat.le_refl _,hk,rfl,hb,vQ _ _,fun i _ h1 h2=>by omega⟩
 case round=>
  obtain⟨j,hkj,hj,hg,hbj,hgr,hall⟩:=hrel;have HG:=Lib.hid hg;have HA:=Lib.hid hall;clear hg hall hc1;have c0:=hbj.c0;have c1:=hbj.c1;by_cases hlt:j<s.size
  ·have hd:decide ((j:Int)<(s.size:Int))=true:=by simp;omega
   cases hi:p s[j]
   all_goals go_wp2_with fail
   all_goals go_quiet (exact qy (HF.out _ _))
   ·have HE:=Lib.hid (JE hkj hj HA.out (fun _=>hi))
    have hb2:=hbj.drewN nq;have hg2:=dJ hgr nq;clear c0 c1 hbj hgr;generalize wr.drewN nq=w2 at *;have c0:=hb2.c0;have c1:=hb2.c1
    go_wp2_with fail
    go_quiet (fail)
    go_wp2_with fail
    go_ret
    rw[HE.out];exact⟨rfl,hb2.drewN _,dJ hg2 _⟩
   ·have hb2:=hbj.drewN nq
    have hg2:=dJ hgr nq;clear c0 c1 hbj hgr;generalize wr.drewN nq=w2 at *;have c0:=hb2.c0;have c1:=hb2.c1;have f1:=hb2.f 1
    go_wp2_with fail
    go_roundg (s.size-(j+1))
    case measure=>have:=HG.out;omega
    case rel=>
     refine⟨j+1,by omega,by omega,rfl,hb2.set1 (j+1),uX hg2 _ _,?_⟩;intro i h1 h2 h3;by_cases e:i=j
     ·subst e;exact hi
     ·exact HA.out i h1 h2 (by omega)
  ·have hd:decide ((j:Int)<(s.size:Int))=false:=by simp;omega
   have HE:=Lib.hid (JE (p:=p) hkj hj HA.out (fun h=>absurd h hlt))
   go_wp2_with fail
   go_quiet (fail)
   have hb2:=hbj.drewN nq;have hg2:=dJ hgr nq;clear c0 c1 hbj hgr;generalize wr.drewN nq=w2 at *;have c0:=hb2.c0;have c1:=hb2.c1
   go_wp2_with fail
   go_quiet (fail)
   go_wp2_with fail
   go_ret
   rw[HE.out];exact⟨rfl,hb2.drewN _,dJ hg2 _⟩
end Go.Proofs.YtijcobeebaceoaaGreatDoor.Lx
namespace Go.Proofs.YtijcobeebaceoaaGreatDoor.Lx
set_option maxRecDepth 20000
open Go.RowKit
set_option maxHeartbeats 1000000 in
theorem H7(b k:Nat)(s:ByteArray)(v:Value)(w:World)(hb:rO w b s k v)(hk:k≤s.size)(hs:s.size≤1000000) :
  Calls Tryz.prog 101 #[.pointer (some ⟨b,0,none⟩),.func (.func 103) #[.pointer (some ⟨b,0,none⟩)] #[]] w fun e w'=>e=.returned (.string (s.extract k (adv lineB s k)))∧rO w' b s (adv lineB s k) v∧w.grownBy w' (some b):=by
 have hcf:∀(args:Array Value) (w:World),Sem.run Tryz.prog (callFunc 41 args) w=.ok (.enter 41 args) w:=fun _ _=>by kernel_rfl
 have HF:=Lib.hid (YS (.pointer (some ⟨b,0,none⟩)));have hc1:=hb.c1
 go_enter Tryz.func101,Tryz.ntmps101
 go_wp2_with fail
 go_loopg [] (s.size-k) (fun g wr=>∃j:Nat,k≤j∧j≤s.size∧s.size-j=g∧rO wr b s j v∧w.grownBy wr (some b)∧∀i (h:i<s.size),k≤i→i<j→lineB s[i]=true)
 case atStart=>exact⟨k,Nat.le_refl _,hk,rfl,hb,vQ _ _,fun i _ h1 h2=>by omega⟩
 case round=>
  obtain⟨j,hkj,hj,hg,hbj,hgr,hall⟩:=hrel;have HG:=Lib.hid hg;have HA:=Lib.hid hall;clear hg hall hc1;have c0:=hbj.c0;have c1:=hbj.c1;by_cases hlt:j<s.size
  ·have hd:decide ((j:Int)<(s.size:Int))=true:=by simp;omega
   cases hi:lineB s[j]
   all_goals go_wp2_with fail
   all_goals go_quiet (exact qy (HF.out _ _))
   ·have HE:=Lib.hid (JE hkj hj HA.out (fun _=>hi))
    have hb2:=hbj.drewN nq;have hg2:=dJ hgr nq;clear c0 c1 hbj hgr;generalize wr.drewN nq=w2 at *;have c0:=hb2.c0;have c1:=hb2.c1
    go_wp2_with fail
    go_quiet (fail)
    go_wp2_with fail
    go_ret
    rw[HE.out];exact⟨rfl,hb2.drewN _,dJ hg2 _⟩
   ·have hb2:=hbj.drewN nq
    have hg2:=dJ hgr nq;clear c0 c1 hbj hgr;generalize wr.drewN nq=w2 at *;have c0:=hb2.c0;have c1:=hb2.c1;have f1:=hb2.f 1
    go_wp2_with fail
    go_roundg (s.size-(j+1))
    case measure=>have:=HG.out;omega
    case rel=>
     refine⟨j+1,by omega,by omega,rfl,hb2.set1 (j+1),uX hg2 _ _,?_⟩;intro i h1 h2 h3;by_cases e:i=j
     ·subst e;exact hi
     ·exact HA.out i h1 h2 (by omega)
  ·have hd:decide ((j:Int)<(s.size:Int))=false:=by simp;omega
   have HE:=Lib.hid (JE (p:=lineB) hkj hj HA.out (fun h=>absurd h hlt))
   go_wp2_with fail
   go_quiet (fail)
   have hb2:=hbj.drewN nq;have hg2:=dJ hgr nq;clear c0 c1 hbj hgr;generalize wr.drewN nq=w2 at *;have c0:=hb2.c0;have c1:=hb2.c1
   go_wp2_with fail
   go_quiet (fail)
   go_wp2_with fail
   go_ret
   rw[HE.out];exact⟨rfl,hb2.drewN _,dJ hg2 _⟩
theorem adv_ge(p:UInt8→Bool)(s:ByteArray)(k:Nat):k≤adv p s k:=Nat.le_add_right _ _
theorem adv_le(p:UInt8→Bool)(s:ByteArray)(k:Nat)(hk:k≤s.size):adv p s k≤s.size:=by
 have h1:=(List.takeWhile_sublist p (l:=s.data.toList.drop k)).length_le;have hl:s.data.toList.length=s.size:=rfl;rw[List.length_drop] at h1;unfold adv;omega
theorem nR(p:UInt8→Bool):∀l:List UInt8,l.drop (l.takeWhile p).length=l.dropWhile p
 |[]=>rfl
 |c::r=>by
  cases h:p c
  ·simp[h]
  ·simp[h,nR p r]
theorem adv_drop(p:UInt8→Bool)(s:ByteArray)(k:Nat):s.data.toList.drop (adv p s k)=(s.data.toList.drop k).dropWhile p:=by
 unfold adv;rw[←List.drop_drop,nR]
theorem take_takeWhile(p:UInt8→Bool):∀l:List UInt8,l.take (l.takeWhile p).length=l.takeWhile p
 |[]=>rfl
 |c::r=>by
  cases h:p c
  ·simp[h]
  ·simp[h,take_takeWhile p r]
theorem adv_text(p:UInt8→Bool)(s:ByteArray)(k:Nat):(s.extract k (adv p s k)).data.toList=(s.data.toList.drop k).takeWhile p:=by
 rw[Lib.extract_data];unfold adv;rw[Nat.add_sub_cancel_left,take_takeWhile]
def skipC:Bool→List UInt8→List UInt8
 |_,[]=>[]
 |true,c::r=>if c.toNat=10 then skipC false r else skipC true r
 |false,c::r=>if blankB c=true then skipC false r else if c.toNat=35 then skipC true r else c::r
theorem zN:∀l:List UInt8,skipC false l=skipC false (l.dropWhile blankB)
 |[]=>rfl
 |c::r=>by
  by_cases h:blankB c=true
  ·rw[List.dropWhile_cons_of_pos h,←zN r];simp[skipC,h]
  ·rw[List.dropWhile_cons_of_neg h]
theorem skipC_line:∀l:List UInt8,skipC true l=skipC false (l.dropWhile lineB)
 |[]=>rfl
 |c::r=>by
  by_cases h:c.toNat=10
  ·have hl:¬lineB c=true:=by simp[lineB,h]
   have hb:blankB c=true:=by simp[blankB,h]
   rw[List.dropWhile_cons_of_neg hl];simp[skipC,h,hb]
  ·have hl:lineB c=true:=by simp[lineB,h]
   rw[List.dropWhile_cons_of_pos hl,←skipC_line r];simp[skipC,h]
theorem skipC_length:∀(b:Bool) (l:List UInt8),(skipC b l).length≤l.length
 |_,[]=>by simp[skipC]
 |true,c::r=>by
  have h1:=skipC_length false r;have h2:=skipC_length true r;simp only[skipC,List.length_cons];split<;>omega
 |false,c::r=>by
  have h1:=skipC_length false r;have h2:=skipC_length true r;simp only[skipC,List.length_cons];split
  ·omega
  ·split
   ·omega
   ·simp
def skipPos(s:ByteArray)(k:Nat):Nat:=s.size-(skipC false (s.data.toList.drop k)).length
theorem drop_at(s:ByteArray)(k:Nat)(h:k<s.size):s.data.toList.drop k=s[k]::s.data.toList.drop (k+1):=by
 rw[List.drop_eq_getElem_cons (by simpa using h)];rfl
theorem J9{s:ByteArray}{k j:Nat}(hj:j≤s.size)(he:skipC false (s.data.toList.drop k)=skipC false (s.data.toList.drop j))(hnb:∀h:j<s.size,blankB s[j]=false)(hh:∀h:j<s.size,s[j].toNat≠35):skipPos s k=j:=by
 unfold skipPos;rw[he];have hl:s.data.toList.length=s.size:=rfl;by_cases h:j<s.size
 ·rw[drop_at s j h]
  have h1:=hnb h;have h2:=hh h;simp only[skipC,h1,h2,if_false,Bool.false_eq_true,List.length_cons,List.length_drop];omega
 ·rw[List.drop_eq_nil_of_le (by omega)]
  simp only[skipC,List.length_nil];omega
theorem abk{p:UInt8→Bool}{s:ByteArray}{k:Nat}(h:adv p s k<s.size):p s[adv p s k]=false:=by
 have e:=adv_drop p s k;rw[drop_at s _ h] at e;cases hp:p s[adv p s k]
 ·rfl
 ·exfalso
  have:∀l:List UInt8,∀c r,c::r=l.dropWhile p→p c=true→False:=by
   intro l
   induction l with
   |nil=>intro c r h;simp at h
   |cons x y ih=>
    intro c r h hc;by_cases hx:p x=true
    ·rw[List.dropWhile_cons_of_pos hx] at h;exact ih c r h hc
    ·rw[List.dropWhile_cons_of_neg hx] at h
     cases h;exact hx hc
  exact this _ _ _ e hp
set_option maxHeartbeats 1000000 in
theorem Ws(b k:Nat)(s:ByteArray)(v:Value)(w:World)(hb:rO w b s k v)(hk:k≤s.size)(hs:s.size≤1000000) :
  Calls Tryz.prog 76 #[.pointer (some ⟨b,0,none⟩)] w fun e w'=>e=.returned (.tuple #[])∧rO w' b s (skipPos s k) v∧w.grownBy w' (some b):=by
 go_enter Tryz.func76,Tryz.ntmps76
 go_wp2_with fail
 go_loopg [] (s.size-k) (fun g wr=>∃j:Nat,j≤s.size∧s.size-j=g∧rO wr b s j v∧w.grownBy wr (some b)∧skipC false (s.data.toList.drop k)=skipC false (s.data.toList.drop j))
 case atStart=>exact⟨k,hk,rfl,hb,vQ _ _,rfl⟩
 case round=>
  obtain⟨j,hj,hg,hbj,hgr,hsk⟩:=hrel;have HG:=Lib.hid hg;have HS:=Lib.hid hsk;clear hg hsk
  go_wp2_with fail
  refine(xC 102 blankB aaU b j s v _ hbj hj hs).mono ?_;rintro e w1 ⟨rfl,hb1,hg1⟩;have hge:=adv_ge blankB s j;have hle:=adv_le blankB s j hj;have hst:=abk (p:=blankB) (s:=s) (k:=j);have hdr:=adv_drop blankB s j;generalize adv blankB s j=j1 at *;have HST:=Lib.hid hst;have HS1:Hid (skipC false (s.data.toList.drop k)=skipC false (s.data.toList.drop j1)):=by
   rw[hdr];exact HS.out.trans (zN _)
  clear hst hdr HS;have hg2:=sU hgr hg1;clear hgr hg1 hbj hb;have c0:=hb1.c0;have c1:=hb1.c1;by_cases hlt:j1<s.size
  ·have hd:((j1:Int)==(s.size:Int))=false:=by simp;omega
   by_cases h35:s[j1].toNat=35
   ·have hd2:((s[j1].toNat:Int) != 35)=false:=by simp[h35]
    have H35:=Lib.hid h35;clear h35
    go_wp2_with fail
    go_quiet (fail)
    have hb2:=hb1.drewN nq;have hg3:=dJ hg2 nq;clear c0 c1 hb1 hg2;generalize w1.drewN nq=w2 at *
    go_wp2_with fail
    refine(H7 b j1 s v _ hb2 hle hs).mono ?_;rintro e w3 ⟨rfl,hb3,hg4⟩;have hge2:j1<adv lineB s j1:=by
     unfold adv;rw[drop_at s j1 hlt];have:lineB s[j1]=true:=by simp[lineB,H35.out]
     simp[this]
    have hle2:=adv_le lineB s j1 hle;have HS2:Hid (skipC false (s.data.toList.drop k)=skipC false (s.data.toList.drop (adv lineB s j1))):=by
     show skipC false (s.data.toList.drop k)=skipC false (s.data.toList.drop (adv lineB s j1));rw[HS1.out,adv_drop,drop_at s j1 hlt];have h1:=HST.out hlt;have h2:=H35.out;have h3:lineB s[j1]=true:=by simp[lineB,h2]
     rw[List.dropWhile_cons_of_pos h3,←skipC_line];simp[skipC,h1,h2]
    generalize adv lineB s j1=j2 at *
    go_wp2_with fail
    go_roundg (s.size-j2)
    case measure=>have:=HG.out;omega
    case rel=>exact⟨j2,hle2,rfl,hb3,sU hg3 hg4,HS2.out⟩
   ·have hd2:((s[j1].toNat:Int) != 35)=true:=by simp;omega
    have HE:=Lib.hid (J9 hle HS1.out HST.out (fun _=>h35));clear h35
    go_wp2_with fail
    go_quiet (fail)
    go_wp2_with fail
    refine bodyPost_ret (results_none rfl _ _ _) rfl ?_;rw[HE.out];exact⟨rfl,hb1.drewN _,dJ hg2 _⟩
  ·have hd:((j1:Int)==(s.size:Int))=true:=by simp;omega
   have HE:=Lib.hid (J9 hle HS1.out HST.out (fun h=>absurd h hlt))
   go_wp2_with fail
   go_quiet (fail)
   go_wp2_with fail
   refine bodyPost_ret (results_none rfl _ _ _) rfl ?_;rw[HE.out];exact⟨rfl,hb1.drewN _,dJ hg2 _⟩
end Go.Proofs.YtijcobeebaceoaaGreatDoor.Lx
namespace Go.Proofs.YtijcobeebaceoaaGreatDoor.Lx
set_option maxRecDepth 20000
open Go.RowKit
structure Tok where
 kind:Int
 text:ByteArray
 n:Int
 at_:Nat
def Tok.cells(t:Tok):List Value:=[.int .i64 t.kind,.string t.text,.int .i64 t.n,.int .i64 (t.at_:Int)]
def tokCells(ts:List Tok):List Value:=ts.flatMap Tok.cells
theorem EN(ts:List Tok)(t:Tok):tokCells (ts++[t])=tokCells ts++t.cells:=by simp[tokCells]
def Sc(w:World)(b:Nat)(s:ByteArray)(k:Nat)(ts:List Tok):Prop:=∃v,rO w b s k v∧w.ownsRow (b+1) 64 4 v ts.length (tokCells ts)
theorem Sc.moved{w w':World}{b k':Nat}{s:ByteArray}{ts:List Tok}{v:Value}(ho:w.ownsRow (b+1) 64 4 v ts.length (tokCells ts))(hb':rO w' b s k' v)(hg:w.grownBy w' (some b)):Sc w' b s k' ts:=by
 refine⟨v,hb',ho.kept hg ?_⟩;cases hv:v.ownBlock with
 |none=>exact .inl rfl
 |some g=>exact .inr (fun e=>by have:=(ho.lt g hv).1;cases e;omega)
theorem lq{w w':World}{b:Nat}(hg:w.grownBy w' (some b))(hb:b≤w.heap.size):Below b w w':=
 (Below.refl b w).grown hg hb (fun k hk=>by cases hk;exact Nat.le_refl _)
theorem aim:(Tryz.prog.info? 64).map (fun i=>(i.zero,i.size,i.bytes))=some (some (.agg #[.int .i64 0,.string ⟨#[]⟩,.int .i64 0,.int .i64 0]),4,40):=by kernel_rfl
theorem nH(w:World)(xs:List Value)(t:TypeId):∀(j:Nat) (u:Value),xs[j]? = some u→(w.alloc (.cells xs.toArray t)).cell? ((⟨w.heap.size,0,none⟩:Addr).add j)=some u:=by
 intro j u h;have hadd:(⟨w.heap.size,0,none⟩:Addr).add j=⟨w.heap.size,j,none⟩:=by unfold Addr.add;split<;>simp_all
 rw[hadd,cell_of_row _ w.heap.size j xs.toArray t (0,0) (heap_alloc_new w _)];simpa using h
theorem abJ(t:Tok):∀u,u∈t.cells→u.oneCell'=true:=by
 intro u h;simp[Tok.cells] at h;rcases h with rfl|rfl|rfl|rfl<;>rfl
theorem Cv{w:World}{base:Nat}{e:TypeId}{size:Nat}{v:Value}{n:Nat}{xs:List Value}(h:w.ownsRow base e size v (n+1) xs):∃g cap,v=.slice (some ⟨g,0,none⟩) (n+1) cap:=by
 rcases h.2 with⟨_,h0⟩|⟨g,cap,_,hv,_⟩
 ·omega
 ·exact⟨g,cap,hv⟩
theorem rO.later{w w1:World}{b k:Nat}{s:ByteArray}{v:Value}(h:rO w b s k v)(o:Obj){r:Option Nat}(hg:(w.alloc o).grownBy w1 r)(hr:r≠some b):rO w1 b s k v:=by
 unfold rO at *;rw[hg.block b (by have:=lt_of_block h;simp;omega) (fun e=>hr e.symm),Below.heap_alloc w o b (lt_of_block h)];exact h
theorem own_ne{w:World}{b:Nat}{v:Value}{n:Nat}{xs:List Value}(ho:w.ownsRow (b+1) 64 4 v n xs):v.ownBlock≠some b:=by
 intro e;have:=(ho.lt b e).1;omega
set_option maxHeartbeats 400000 in
theorem Ye(b:Nat)(kind n:Int)(text:ByteArray)(at_:Int)(w:World)(h3:kind≠3)(h4:kind≠4)(hl:40<(text.size:Int)) :
  Calls Tryz.prog 78 #[.pointer (some ⟨b,0,none⟩),.int .i64 kind,.string text,.int .i64 n,.int .i64 at_] w fun e w'=>e=.returned (.int .i64 104)∧w=w':=by
 have h3':(kind != 3)=true:=by simp[h3]
 have h4':(kind != 4)=true:=by simp[h4]
 go_enter Tryz.func78,Tryz.ntmps78
 go_wp2
 go_ret
 exact⟨rfl,rfl⟩
set_option maxHeartbeats 1000000 in
theorem RU(b:Nat)(s:ByteArray)(k:Nat)(ts:List Tok)(kind n:Int)(text:ByteArray)(at_:Nat)(w:World)(hsc:Sc w b s k ts)(hts:ts.length≤1000000)
  (h:kind=3∨kind=4∨(text.size:Int)≤40) :
  Calls Tryz.prog 78 #[.pointer (some ⟨b,0,none⟩),.int .i64 kind,.string text,.int .i64 n,.int .i64 (at_:Int)] w fun e w'=>e=.returned (.int .i64 0)∧Sc w' b s k (ts++[⟨kind,text,n,at_⟩])∧Below b w w':=by
 obtain⟨v,hb,ho⟩:=hsc;obtain⟨i0,hi,hz0,hz1,hz2⟩:=info_parts aim;have c2:=hb.c2;have hlt:=hb.lt;have hcase:(kind != 3)=false∨((kind != 3)=true∧(kind != 4)=false)∨((kind != 3)=true∧(kind != 4)=true∧(text.size:Int)≤40):=by
  simp only[bne_iff_ne,bne_eq_false_iff_eq];omega
 clear h;rcases hcase with h3|⟨h3,h4⟩|⟨h3,h4,h40⟩
 all_goals
  go_enter Tryz.func78,Tryz.ntmps78
  go_wp2_with (at_builtin;refine wpList_append_own _ rfl _ _ 66 rfl (b+1) 64 i0 (.agg #[.int .i64 0,.string ⟨#[]⟩,.int .i64 0,.int .i64 0]) 4 40 Tryz.underlying66 hi hz0 hz1 hz2 rfl (by decide) v ts.length (tokCells ts) rfl (ho.alloc _) ⟨w.heap.size,0,none⟩ 1 1 (Tok.cells ⟨kind,text,n,at_⟩) rfl rfl ?_ ?_ ?_ ?_ ?_ ?_)
  ·exact nH w (Tok.cells ⟨kind,text,n,at_⟩) 64
  ·exact abJ _
  ·unfold maxLen;omega
  ·omega
  ·simp;omega
  ·intro v' w1 ho' hgr _
   have hne:=own_ne ho;have hb1:=hb.later _ hgr hne;have hbl:Below b w w1:=((Below.refl b w).alloc (by omega) _).grown hgr (by simp;omega) (fun g hg=>by have:=(ho.lt g hg).1;omega);obtain⟨g,cap,hv⟩:=Cv ho';rw[hv] at ho' ⊢;have f2:=hb1.f 2;have c2':=hb1.c2;have HO:=Lib.hid ho';have HG:=Lib.hid hgr;clear c2 ho hb ho' hgr hv
   go_wp2
   go_ret
   refine⟨rfl,⟨_,hb1.set2 _,?_⟩,hbl.setCell (Nat.le_refl _) _⟩;rw[EN,List.length_append];exact ownsRow_setCell_below HO.out (by simp) _
end Go.Proofs.YtijcobeebaceoaaGreatDoor.Lx
namespace Go.Proofs.YtijcobeebaceoaaGreatDoor.Lx
set_option maxRecDepth 20000
open Go.RowKit
def EA(w:World)(b:Nat)(s:ByteArray)(ts:List Tok)(r:Except Int (Tok×Nat))(e:Ending)(w':World):Prop:=
 match r with
 |.ok (t,j)=>e=.returned (.int .i64 0)∧Sc w' b s j (ts++[t])∧Below b w w'
 |.error c=>e=.returned (.int .i64 c)∧Below b w w'
theorem EA.after{w w1:World}{b:Nat}{s:ByteArray}{ts:List Tok}{r:Except Int (Tok×Nat)}{e:Ending}{w':World}(hb:Below b w w1)(h:EA w1 b s ts r e w'):EA w b s ts r e w':=by
 unfold EA at *;split at h
 ·exact⟨h.1,h.2.1,hb.trans h.2.2⟩
 ·exact⟨h.1,hb.trans h.2⟩
theorem EA.is{w:World}{b:Nat}{s:ByteArray}{ts:List Tok}{r:Except Int (Tok×Nat)}{e:Ending}{w':World}(h:EA w b s ts r e w'):∃c,e=.returned (.int .i64 c):=by
 unfold EA at h;split at h
 ·exact⟨_,h.1⟩
 ·exact⟨_,h.1⟩
def qz(kind:Int)(x:ByteArray)(n:Int)(at_:Nat)(k:Nat):Except Int (Tok×Nat):=
 if kind≠3∧kind≠4∧40<(x.size:Int) then .error 104 else .ok (⟨kind,x,n,at_⟩,k)
theorem xh(b:Nat)(s:ByteArray)(k:Nat)(ts:List Tok)(kind n:Int)(x:ByteArray)(at_:Nat)(w:World)(hsc:Sc w b s k ts)(hts:ts.length≤1000000) :
  Calls Tryz.prog 78 #[.pointer (some ⟨b,0,none⟩),.int .i64 kind,.string x,.int .i64 n,.int .i64 (at_:Int)] w (EA w b s ts (qz kind x n at_ k)):=by
 by_cases h:kind≠3∧kind≠4∧40<(x.size:Int)
 ·refine(Ye b kind n x at_ w h.1 h.2.1 h.2.2).mono ?_
  rintro e w' ⟨rfl,rfl⟩;unfold EA qz;rw[if_pos h];exact⟨rfl,Below.refl _ _⟩
 ·refine(RU b s k ts kind n x at_ w hsc hts (by omega)).mono ?_
  rintro e w' ⟨rfl,h1,h2⟩;unfold EA qz;rw[if_neg h];exact⟨rfl,h1,h2⟩
def xH(x:ByteArray):Int:=if keyB x=true then 6 else if(x.toList==[95])=true then 7 else if Zp upB x=true then 2 else 1
def zI(s:ByteArray)(k:Nat):Except Int (Tok×Nat):=qz (xH (s.extract k (adv insideB s k))) (s.extract k (adv insideB s k)) 0 k (adv insideB s k)
theorem size_extract(s:ByteArray)(k j:Nat)(hj:j≤s.size):(s.extract k j).size=j-k:=by
 simp[ByteArray.size_extract];omega
set_option maxHeartbeats 1000000 in
theorem JQ(b k:Nat)(s:ByteArray)(ts:List Tok)(w:World)(hsc:Sc w b s k ts)(hk:k<s.size)(hs:s.size≤1000000)(hts:ts.length≤1000000)(hin:insideB s[k]=true) :
  Calls Tryz.prog 106 #[.pointer (some ⟨b,0,none⟩)] w (EA w b s ts (zI s k)):=by
 obtain⟨v,hb,ho⟩:=hsc;have c1:=hb.c1
 go_enter Tryz.func106,Tryz.ntmps106
 go_wp2_with fail
 refine(xC 137 insideB U6 b k s v _ hb (by omega) hs).mono ?_;rintro e w1 ⟨rfl,hb1,hg1⟩;have hsc1:=Sc.moved ho hb1 hg1;have hbl:=lq hg1 (Nat.le_of_lt hb.lt);have hlt:k<adv insideB s k:=by
  unfold adv;rw[drop_at s k hk];simp[hin]
 have hle:=adv_le insideB s k (by omega);have HR:Hid (zI s k=qz (xH (s.extract k (adv insideB s k))) (s.extract k (adv insideB s k)) 0 k (adv insideB s k)):=rfl;have hsz:=size_extract s k (adv insideB s k) hle;have hx0:0<(s.extract k (adv insideB s k)).size:=by omega
 clear hsz hb1 hg1 ho hb c1;generalize s.extract k (adv insideB s k)=x at *;generalize adv insideB s k=j at *;have HH:=Lib.hid (Zo upB x hx0);have hkind:(keyB x=true∧xH x=6)∨(keyB x=false∧(x.toList==[95])=true∧xH x=7)∨(keyB x=false∧(x.toList==[95])=false∧upB x[0]=true∧xH x=2)∨(keyB x=false∧(x.toList==[95])=false∧upB x[0]=false∧xH x=1):=by
  unfold xH;rw[HH.out];cases keyB x<;>cases(x.toList==[95])<;>cases upB x[0]<;>simp
 clear HH;rcases hkind with⟨h1,h4⟩|⟨h1,h2,h4⟩|⟨h1,h2,h3,h4⟩|⟨h1,h2,h3,h4⟩
 all_goals
  have HK:=Lib.hid h4;clear h4
  go_wp2_with (first|(go_at_call 138;refine(adj _ _).mono ?_;rintro e w' ⟨rfl,rfl⟩)|(go_at_call 105;refine(qf _ _).mono ?_;rintro e w' ⟨rfl,rfl⟩))
  refine(xh b s j ts _ _ x k _ hsc1 hts).mono ?_;rintro e w2 hgot;obtain⟨c,rfl⟩:=hgot.is;have HGOT:=Lib.hid hgot;clear hgot
  go_wp2_with fail
  go_ret
  rw[HR.out,HK.out];exact EA.after hbl HGOT.out
end Go.Proofs.YtijcobeebaceoaaGreatDoor.Lx
namespace Go.Proofs.YtijcobeebaceoaaGreatDoor.Lx
set_option maxRecDepth 20000
open Go.RowKit
def stepD(a:Int×Bool)(c:UInt8):Int×Bool:=if a.2=true then a else(IntKind.u64.wrap (IntKind.u64.wrap (10*a.1)+((c.toNat:Int)-48)),decide (4611686018427387904<IntKind.u64.wrap (IntKind.u64.wrap (10*a.1)+((c.toNat:Int)-48))))
theorem VA(n:Int):0≤IntKind.u64.wrap n∧IntKind.u64.wrap n<18446744073709551616:=by
 simp[IntKind.wrap,IntKind.signed,IntKind.bits];omega
def foldD(l:List UInt8):Int×Bool:=l.foldl stepD (0,false)
theorem foldD_bd(l:List UInt8):0≤(foldD l).1∧(foldD l).1<18446744073709551616:=by
 unfold foldD;have:∀(l:List UInt8) (a:Int×Bool),0≤a.1∧a.1<18446744073709551616→0≤(l.foldl stepD a).1∧(l.foldl stepD a).1<18446744073709551616:=by
  intro l
  induction l with
  |nil=>intro a h;exact h
  |cons c r ih=>
   intro a h;apply ih;unfold stepD;split
   ·exact h
   ·exact VA _
 exact this l (0,false) (by simp)
theorem Oo(s:ByteArray)(k:Nat)(h:k<s.size):foldD (s.data.toList.take (k+1))=stepD (foldD (s.data.toList.take k)) s[k]:=by
 unfold foldD;rw[Ut s k h,List.foldl_append];rfl
theorem OU{p:UInt8→Bool}{s:ByteArray}(h:Mw p s=true)(k:Nat)(hk:k<s.size):p s[k]=true:=by
 unfold Mw at h;rw[List.all_eq_true] at h;exact h _ (aie s k hk)
set_option maxHeartbeats 1000000 in
theorem Ee(s:ByteArray)(w:World)(h0:0<s.size)(hs:s.size≤1000000)(hz:s.size=1∨((s[0].toNat:Int)==48)=false)(hd:Mw digitB s=true) :
  Calls Tryz.prog 154 #[.string s] w fun e w'=>e=.returned (.tuple #[.int .u64 (foldD s.data.toList).1,.bool (foldD s.data.toList).2,.bool true])∧w=w':=by
 have he:s.toList.isEmpty=false:=by
  rw[ByteArray.toList_eq];obtain⟨⟨l⟩⟩:=s;cases l with
  |nil=>exact absurd h0 (by decide)
  |cons _ _=>rfl
 have hone:decide ((1:Int)<(s.size:Int))=false∨(decide ((1:Int)<(s.size:Int))=true∧((s[0].toNat:Int)==48)=false):=by
  rcases hz with h|h
  ·left;simp;omega
  ·by_cases h1:s.size=1
   ·left;simp;omega
   ·right;exact⟨by simp;omega,h⟩
 clear hz;rcases hone with h1|⟨h1,h2⟩
 all_goals
  go_enter Tryz.func154,Tryz.ntmps154
  go_wp2_with fail
  go_loop [2,3,4,5,20] (fun n g o _ i=>∃k:Nat,k≤s.size∧i=.int .i64 k∧o=.bool false∧n=.int .u64 (foldD (s.data.toList.take k)).1∧g=.bool (foldD (s.data.toList.take k)).2) (fun _ _ _ _ i=>s.size-(intOf i).toNat)
  case atStart=>exact⟨0,Nat.zero_le _,rfl,rfl,rfl,rfl⟩
  case round=>
   obtain⟨k,hk,rfl,rfl,rfl,rfl⟩:=hrel;by_cases hlt:k<s.size
   ·have hdk:=OU hd k hlt
    have hd1:48≤(s[k].toNat:Int)∧(s[k].toNat:Int)≤57:=by
     simp[digitB] at hdk;omega
    have HS:=Lib.hid (Oo s k hlt);have hbd:=foldD_bd (s.data.toList.take k);generalize foldD (s.data.toList.take k)=a at *;obtain⟨n,g⟩:=a;obtain⟨hlo,hhi⟩:=hd1;obtain⟨hb0,hb1⟩:=hbd;simp only at hb0 hb1;clear hdk hd;cases g
    all_goals go_wp2_with fail
    all_goals
     go_round
     case rel=>exact⟨k+1,by omega,by go_num,rfl,by rw[HS.out];rfl,by rw[HS.out];rfl⟩
     case measure=>simp[intOf];omega
   ·go_wp2_with fail
    go_ret3
    rw[VW s k hlt];exact⟨rfl,rfl⟩
end Go.Proofs.YtijcobeebaceoaaGreatDoor.Lx
namespace Go.Proofs.YtijcobeebaceoaaGreatDoor.Lx
set_option maxRecDepth 20000
open Go.RowKit
def parseD(l:List UInt8):Option Int:=if(foldD l).2=true∨(foldD l).1=4611686018427387904 then none else some (foldD l).1
theorem foldD_small(l:List UInt8)(h:(foldD l).2=false):(foldD l).1≤4611686018427387904:=by
 unfold foldD at *;have:∀(l:List UInt8) (a:Int×Bool),(a.2=false→a.1≤4611686018427387904)→(l.foldl stepD a).2=false→(l.foldl stepD a).1≤4611686018427387904:=by
  intro l
  induction l with
  |nil=>intro a h;exact h
  |cons c r ih=>
   intro a h;apply ih;unfold stepD;split
   ·exact h
   ·intro h1
    simpa using h1
 exact this l (0,false) (by simp) h
set_option maxHeartbeats 1000000 in
theorem UK(s:ByteArray)(w:World)(n:Int)(h0:0<s.size)(hs:s.size≤1000000)(hz:s.size=1∨((s[0].toNat:Int)==48)=false)(hd:Mw digitB s=true)(hp:parseD s.data.toList=some n) :
  Calls Tryz.prog 140 #[.string s] w fun e w'=>e=.returned (.tuple #[.int .i64 n,.int .i64 0])∧w=w':=by
 have hd0:=OU hd 0 h0;have hneg:((s[0].toNat:Int)==45)=false:=by
  simp[digitB] at hd0;simp;omega
 have hlen:decide ((0:Int)<(s.size:Int))=true:=by simp;omega
 have hbd:=foldD_bd s.data.toList;have hsm:=foldD_small s.data.toList;have HD:=Lib.hid (Ee s w h0 hs hz hd);clear hd0 hz hd;unfold parseD at hp;generalize foldD s.data.toList=a at *;obtain⟨m,g⟩:=a;cases g with
 |true=>simp at hp
 |false=>
  by_cases hm:m=4611686018427387904
  ·simp[hm] at hp
  ·obtain rfl:m=n:=by simpa[hm] using hp
   have hm':(m==4611686018427387904)=false:=by simp[hm]
   have hlt:m<4611686018427387904:=by have:=hsm rfl;simp only at this;omega
   obtain⟨hb0,hb1⟩:=hbd;simp only at hb0 hb1;clear hp hm hsm hb1
   go_enter Tryz.func140,Tryz.ntmps140
   go_wp2_with (go_at_call 154;refine HD.out.mono ?_;rintro e w' ⟨rfl,rfl⟩)
   go_ret2
   exact⟨rfl,rfl⟩
set_option maxHeartbeats 1000000 in
theorem Yn(s:ByteArray)(w:World)(h0:0<s.size)(hs:s.size≤1000000)(hz:s.size=1∨((s[0].toNat:Int)==48)=false)(hd:Mw digitB s=true)(hp:parseD s.data.toList=none) :
  Calls Tryz.prog 140 #[.string s] w fun e w'=>e=.returned (.tuple #[.int .i64 0,.int .i64 3])∧w=w':=by
 have hd0:=OU hd 0 h0;have hneg:((s[0].toNat:Int)==45)=false:=by
  simp[digitB] at hd0;simp;omega
 have hlen:decide ((0:Int)<(s.size:Int))=true:=by simp;omega
 have HD:=Lib.hid (Ee s w h0 hs hz hd);clear hd0 hz hd;unfold parseD at hp;generalize foldD s.data.toList=a at *;obtain⟨m,g⟩:=a;have hcase:g=true∨(g=false∧(m==4611686018427387904)=true):=by
  cases g
  ·right;simpa using hp
  ·left;rfl
 clear hp;rcases hcase with rfl|⟨rfl,hm⟩
 all_goals
  go_enter Tryz.func140,Tryz.ntmps140
  go_wp2_with (go_at_call 154;refine HD.out.mono ?_;rintro e w' ⟨rfl,rfl⟩)
  go_ret2
  exact⟨rfl,rfl⟩
def numText(l:List UInt8):List UInt8:=if Lib.trimLeftB l 48=[] then [48] else Lib.trimLeftB l 48
def numOf(l:List UInt8)(k j:Nat):Except Int (Tok×Nat):=
 match parseD l with
 |none=>.error 102
 |some n=>qz 3 (textOf l) n k j
def KV(s:ByteArray)(k:Nat):Except Int (Tok×Nat):=numOf (numText ((s.data.toList.drop k).takeWhile digitB)) k (adv digitB s k)
theorem KU(l:List UInt8)(h:l.all digitB=true):(numText l).all digitB=true:=by
 unfold numText;split
 ·decide
 ·rw[List.all_eq_true] at *
  intro x hx;exact h x ((List.dropWhile_sublist _).mem hx)
theorem NE(l:List UInt8):numText l≠[]:=by
 unfold numText;split
 ·simp
 ·assumption
theorem Hu(l:List UInt8)(c:UInt8)(r:List UInt8)(h:numText l=c::r):r=[]∨c≠48:=by
 unfold numText at h;split at h
 ·simp at h;exact .inl h.2
 ·right
  unfold Lib.trimLeftB at h;intro e;subst e;have:∀l:List UInt8,∀r,l.dropWhile (· == 48)=48::r→False:=by
   intro l
   induction l with
   |nil=>intro r h;simp at h
   |cons x y ih=>
    intro r h;by_cases hx:x=48
    ·rw[List.dropWhile_cons_of_pos (by simp[hx])] at h;exact ih r h
    ·rw[List.dropWhile_cons_of_neg (by simp[hx])] at h
     cases h;exact hx rfl
  exact this _ _ h
theorem KT(l:List UInt8):(numText l).length≤l.length+1:=by
 unfold numText;split
 ·simp
 ·have:=(List.dropWhile_sublist (· == (48:UInt8)) (l:=l)).length_le
  unfold Lib.trimLeftB;omega
theorem textOf_size(l:List UInt8):(textOf l).size=l.length:=by simp[textOf,ByteArray.size]
theorem MS(p:UInt8→Bool)(l:List UInt8):Mw p (textOf l)=l.all p:=by simp[textOf,Mw]
theorem textOf_data(l:List UInt8):(textOf l).data.toList=l:=rfl
theorem textOf_toList(l:List UInt8):(textOf l).toList=l:=by rw[ByteArray.toList_eq];rfl
theorem YN(p:UInt8→Bool):∀(l:List UInt8) (x:UInt8),x∈l.takeWhile p→p x=true
 |[],x,h=>by simp at h
 |c::r,x,h=>by
  by_cases hc:p c=true
  ·rw[List.takeWhile_cons_of_pos hc] at h
   rcases List.mem_cons.1 h with rfl|h
   ·exact hc
   ·exact YN p r x h
  ·rw[List.takeWhile_cons_of_neg hc] at h
   cases h
theorem EW{l:List UInt8}(h:(Lib.trimLeftB l 48).isEmpty=true):(ByteArray.mk #[48])=textOf (numText l):=by
 have:Lib.trimLeftB l 48=[]:=by simpa using h
 unfold numText;rw[if_pos this];rfl
theorem Hw{l:List UInt8}(h:(Lib.trimLeftB l 48).isEmpty=false):(ByteArray.mk (Lib.trimLeftB l 48).toArray)=textOf (numText l):=by
 have:¬Lib.trimLeftB l 48=[]:=by simpa using h
 unfold numText;rw[if_neg this];rfl
set_option maxHeartbeats 1000000 in
theorem ND(b k:Nat)(s:ByteArray)(ts:List Tok)(w:World)(hsc:Sc w b s k ts)(hk:k<s.size)(hs:s.size≤100000)(hts:ts.length≤1000000) :
  Calls Tryz.prog 108 #[.pointer (some ⟨b,0,none⟩)] w (EA w b s ts (KV s k)):=by
 obtain⟨v,hb,ho⟩:=hsc;have c1:=hb.c1
 go_enter Tryz.func108,Tryz.ntmps108
 go_wp2_with fail
 refine(xC 107 digitB aaJ b k s v _ hb (by omega) (by omega)).mono ?_;rintro e w1 ⟨rfl,hb1,hg1⟩;have hsc1:=Sc.moved ho hb1 hg1;have hbl:=lq hg1 (Nat.le_of_lt hb.lt);have hle:=adv_le digitB s k (by omega);have hsz:=size_extract s k (adv digitB s k) hle;have htx:=adv_text digitB s k;have hall:((s.data.toList.drop k).takeWhile digitB).all digitB=true:=by
  rw[List.all_eq_true];intro x hx;exact YN _ _ _ hx
 have hlen:(numText ((s.data.toList.drop k).takeWhile digitB)).length≤1000000:=by
  have h1:=KT ((s.data.toList.drop k).takeWhile digitB);have h2:((s.data.toList.drop k).takeWhile digitB).length≤s.size:=by
   have:=(List.takeWhile_sublist digitB (l:=s.data.toList.drop k)).length_le;have hl:s.data.toList.length=s.size:=rfl;rw[List.length_drop] at this;omega
  omega
 have HR:Hid (KV s k=numOf (numText ((s.data.toList.drop k).takeWhile digitB)) k (adv digitB s k)):=rfl;rw[←htx] at hall hlen HR;clear hsz hb1 hg1 ho hb c1 htx;generalize s.extract k (adv digitB s k)=x at *;generalize adv digitB s k=j at *
 go_wp2_with fail
 refine(Tryz.strings_TrimLeft_one _ 48 (by decide) _).mono ?_;rintro e w' ⟨rfl,rfl⟩
 go_wp2_with fail
 all_goals
  first|rw[EW (by assumption)]|rw[Hw (by assumption)]
  have hA:=KU _ hall;have hN:=NE x.data.toList;have hH:=Hu x.data.toList;generalize numText x.data.toList=y at *;have h0:0<(textOf y).size:=by rw[textOf_size];cases y with|nil=>exact absurd rfl hN|cons _ _=>simp
  have hz:(textOf y).size=1∨(((textOf y)[0].toNat:Int)==48)=false:=by
   cases y with
   |nil=>exact absurd rfl hN
   |cons c r=>
    rcases hH c r rfl with rfl|h
    ·left;rfl
    ·right
     show ((c.toNat:Int)==48)=false;simp;intro e;exact h (UInt8.toNat_inj.1 (by have h48:(48:UInt8).toNat=48:=rfl;omega))
  have hd:Mw digitB (textOf y)=true:=by rw[MS];exact hA
  have hsz:(textOf y).size≤1000000:=by rw[textOf_size];exact hlen
  clear hall hA hN hH hlen;cases hp:parseD y with
  |none=>
   refine(Yn (textOf y) _ h0 hsz hz hd hp).mono ?_;rintro e w2 ⟨rfl,rfl⟩;have HP:=Lib.hid hp;clear hp hz hd
   go_wp2_with fail
   go_ret
   rw[HR.out];unfold numOf;rw[HP.out];exact⟨rfl,hbl⟩
  |some n=>
   refine(UK (textOf y) _ n h0 hsz hz hd hp).mono ?_;rintro e w2 ⟨rfl,rfl⟩;have HP:=Lib.hid hp;clear hp hz hd
   go_wp2_with fail
   refine(xh b s j ts _ _ _ k _ hsc1 hts).mono ?_;rintro e w3 hgot;obtain⟨c,rfl⟩:=hgot.is;have HGOT:=Lib.hid hgot;clear hgot
   go_wp2_with fail
   go_ret
   rw[HR.out];unfold numOf;rw[HP.out];exact EA.after hbl HGOT.out
end Go.Proofs.YtijcobeebaceoaaGreatDoor.Lx
namespace Go.Proofs.YtijcobeebaceoaaGreatDoor.Lx
set_option maxRecDepth 20000
open Go.RowKit
def escC(d:UInt8):Option UInt8:=if d.toNat=110 then some 10 else if d.toNat=116 then some 9 else if d.toNat=34 then some 34 else if d.toNat=92 then some 92 else none
def textL:List UInt8→Option (List UInt8×List UInt8)
 |[]=>none
 |c::r=>
  if c.toNat=34 then some ([],r)
  else if c.toNat=10 then none
  else if c.toNat=92 then
   match r with
   |[]=>none
   |d::r'=>
    match escC d with
    |none=>none
    |some x=>(textL r').map fun p=>(x::p.1,p.2)
  else(textL r).map fun p=>(c::p.1,p.2)
theorem textL_cons(c:UInt8)(r:List UInt8):textL (c::r) =
  if c.toNat=34 then some ([],r)
  else if c.toNat=10 then none
  else if c.toNat=92 then
   match r with
   |[]=>none
   |d::r'=>
    match escC d with
    |none=>none
    |some x=>(textL r').map fun p=>(x::p.1,p.2)
  else(textL r).map fun p=>(c::p.1,p.2):=by
 cases r<;>rfl
def tN(o:Option (List UInt8×List UInt8))(s:ByteArray)(k:Nat):Except Int (Tok×Nat):=
 match o with
 |none=>.error 103
 |some (x,r)=>qz 4 (textOf x) 0 k (s.size-r.length)
def uP(s:ByteArray)(k:Nat):Except Int (Tok×Nat):=tN (textL (s.data.toList.drop (k+1))) s k
def more'(acc:List UInt8)(o:Option (List UInt8×List UInt8)):Option (List UInt8×List UInt8):=o.map fun p=>(acc++p.1,p.2)
theorem UY(o:Option (List UInt8×List UInt8)):more' [] o=o:=by cases o<;>rfl
theorem JX{s:ByteArray}{j:Nat}(h:j<s.size)(acc:List UInt8)(h1:s[j].toNat≠34)(h2:s[j].toNat≠10)(h3:s[j].toNat≠92) :
  more' acc (textL (s.data.toList.drop j))=more' (acc++[s[j]]) (textL (s.data.toList.drop (j+1))):=by
 rw[drop_at s j h,textL_cons];simp only[h1,h2,h3,if_false];cases textL (s.data.toList.drop (j+1))<;>simp[more']
theorem JW{s:ByteArray}{j:Nat}(h:j<s.size)(acc:List UInt8)(h1:s[j].toNat=34) :
  more' acc (textL (s.data.toList.drop j))=some (acc,s.data.toList.drop (j+1)):=by
 rw[drop_at s j h,textL_cons];simp[h1,more']
theorem MU{s:ByteArray}{j:Nat}(h:j<s.size)(acc:List UInt8)(h1:s[j].toNat=10):more' acc (textL (s.data.toList.drop j))=none:=by
 rw[drop_at s j h,textL_cons];simp[h1,more']
theorem Us{s:ByteArray}{j:Nat}(h:¬j<s.size)(acc:List UInt8):more' acc (textL (s.data.toList.drop j))=none:=by
 have hl:s.data.toList.length=s.size:=rfl;rw[List.drop_eq_nil_of_le (by omega)];rfl
theorem BL{s:ByteArray}{j:Nat}(h:j<s.size)(acc:List UInt8)(h1:s[j].toNat=92)(h2:¬j+1<s.size):more' acc (textL (s.data.toList.drop j))=none:=by
 have hl:s.data.toList.length=s.size:=rfl;rw[drop_at s j h,List.drop_eq_nil_of_le (by omega),textL_cons];simp[h1,more']
theorem MV{s:ByteArray}{j:Nat}(h:j<s.size)(acc:List UInt8)(h1:s[j].toNat=92)(h2:j+1<s.size) :
  more' acc (textL (s.data.toList.drop j))=match escC s[j+1] with|none=>none|some x=>more' (acc++[x]) (textL (s.data.toList.drop (j+2))):=by
 rw[drop_at s j h,drop_at s (j+1) h2,textL_cons];simp only[h1];cases escC s[j+1] with
 |none=>simp[more']
 |some x=>cases textL (s.data.toList.drop (j+2))<;>simp[more']
theorem U9(d:UInt8):(Lib.indexByte [110,116,34,92] d = -1∧escC d=none)∨(Lib.indexByte [110,116,34,92] d=0∧escC d=some 10)∨(Lib.indexByte [110,116,34,92] d=1∧escC d=some 9)∨(Lib.indexByte [110,116,34,92] d=2∧escC d=some 34)∨(Lib.indexByte [110,116,34,92] d=3∧escC d=some 92):=by
 revert d;have:∀n:Fin 256,(Lib.indexByte [110,116,34,92] (UInt8.ofNat n) = -1∧escC (UInt8.ofNat n)=none)∨(Lib.indexByte [110,116,34,92] (UInt8.ofNat n)=0∧escC (UInt8.ofNat n)=some 10)∨(Lib.indexByte [110,116,34,92] (UInt8.ofNat n)=1∧escC (UInt8.ofNat n)=some 9)∨(Lib.indexByte [110,116,34,92] (UInt8.ofNat n)=2∧escC (UInt8.ofNat n)=some 34)∨(Lib.indexByte [110,116,34,92] (UInt8.ofNat n)=3∧escC (UInt8.ofNat n)=some 92):=by decide +kernel
 intro d;have:=this ⟨d.toNat,d.toNat_lt⟩;simpa using this
def byteCells(l:List UInt8):List Value:=l.map fun c=>Value.int .u8 (c.toNat:Int)
theorem byteCells_snoc(l:List UInt8)(c:UInt8):byteCells (l++[c])=byteCells l++[Value.int .u8 (c.toNat:Int)]:=by simp[byteCells]
theorem Cw{w:World}{base:Nat}{v:Value}{l:List UInt8}(h:w.ownsRow base 5 1 v l.length (byteCells l)):(convert 180 9 v).run Tryz.prog w=.ok (.string (textOf l)) w:=by
 rcases h.2 with⟨rfl,h0⟩|⟨g,cap,cur,rfl,_,hg,_⟩
 ·rw[run_convert_bytes_nil w 180 5 Tryz.underlying180 Tryz.underlying5 0 0 9 Tryz.underlying9]
  have:l=[]:=List.eq_nil_of_length_eq_zero h0;subst this;rfl
 ·refine run_convert_bytes_back w 180 9 5 ⟨g,0,none⟩ cap l Tryz.underlying180 Tryz.underlying5 Tryz.underlying9 ?_
  intro j hj;exact h.cells (g:=g) rfl j _ (by simp[byteCells,hj])
structure Tx(w0:World)(b B2:Nat)(s:ByteArray)(ts:List Tok)(v:Value)(j:Nat)(acc:List UInt8)(bv:Value)(w:World):Prop where
 blk:rO w b s j v
 own:w.ownsRow (b+1) 64 4 v ts.length (tokCells ts)
 byt:w.ownsRow B2 5 1 bv acc.length (byteCells acc)
 bel:Below b w0 w
 hB:B2≤w.heap.size
 hb:b<B2
 hv:∀g,v.ownBlock=some g→g<B2
section
variable{w0 w:World}{b B2:Nat}{s:ByteArray}{ts:List Tok}{v:Value}{j:Nat}{acc:List UInt8}{bv:Value}
theorem Tx.drewN(h:Tx w0 b B2 s ts v j acc bv w)(n:Nat):Tx w0 b B2 s ts v j acc bv (w.drewN n):=
 ⟨h.blk,h.own,h.byt,⟨h.bel.os,h.bel.tape,h.bel.output,h.bel.size,h.bel.block⟩,h.hB,h.hb,h.hv⟩
theorem Tx.move(h:Tx w0 b B2 s ts v j acc bv w)(j':Nat):Tx w0 b B2 s ts v j' acc bv (w.setCell ⟨b,1,none⟩ (.int .i64 (j':Int))):=
 ⟨h.blk.set1 j',ownsRow_setCell_below h.own (by simp) _,ownsRow_setCell_below h.byt (by simpa using h.hb) _,h.bel.setCell (Nat.le_refl _) _,by simpa[World.setCell] using h.hB,h.hb,h.hv⟩
theorem Tx.appended(h:Tx w0 b B2 s ts v j acc bv w)(o:Obj)(c:UInt8){bv':Value}{w':World}(hown:w'.ownsRow B2 5 1 bv' (acc.length+1) (byteCells acc++[Value.int .u8 (c.toNat:Int)]))
  (hgr:(w.alloc o).grownBy w' bv.ownBlock):Tx w0 b B2 s ts v j (acc++[c]) bv' w':=by
 have hne:∀g,bv.ownBlock=some g→B2≤g:=fun g hg=>(h.byt.lt g hg).1
 refine⟨h.blk.later o hgr (fun e=>by have:=hne b e;have:=h.hb;omega),?_,?_,?_,?_,h.hb,h.hv⟩
 ·refine(h.own.alloc o).kept hgr ?_
  cases hv:v.ownBlock with
  |none=>exact .inl rfl
  |some g=>exact .inr (fun e=>by have:=h.hv g hv;have:=hne g e.symm;omega)
 ·rw[byteCells_snoc,List.length_append];exact hown
 ·refine(h.bel.alloc ?_ o).grown hgr ?_ (fun g hg=>?_)
  ·have:=h.hB;have:=h.hb;omega
  ·have:=h.hB;have:=h.hb;simp;omega
  ·have:=hne g hg;have:=h.hb;omega
 ·have:=hgr.size;have:=h.hB;simp at *;omega
end
end Go.Proofs.YtijcobeebaceoaaGreatDoor.Lx
namespace Go.Proofs.YtijcobeebaceoaaGreatDoor.Lx
set_option maxRecDepth 20000
open Go.RowKit
theorem info5:(Tryz.prog.info? 5).map (fun i=>(i.zero,i.size,i.bytes))=some (some (.int .u8 0),1,1):=by kernel_rfl
theorem one_cell(c:UInt8):∀u,u∈[Value.int .u8 (c.toNat:Int)]→u.oneCell'=true:=by
 intro u h;simp at h;subst h;rfl
theorem EU{w:World}{base:Nat}{e:TypeId}{size:Nat}{v:Value}{n:Nat}{xs:List Value}(h:w.ownsRow base e size v n xs):∃a c,v=.slice a n c:=by
 rcases h.2 with⟨rfl,rfl⟩|⟨g,cap,_,rfl,_⟩
 ·exact⟨_,_,rfl⟩
 ·exact⟨_,_,rfl⟩
theorem Gb(s:ByteArray)(k j:Nat)(acc:List UInt8)(h:j≤s.size):tN (some (acc,s.data.toList.drop j)) s k=qz 4 (textOf acc) 0 k j:=by
 have hl:s.data.toList.length=s.size:=rfl;have e1:s.size-(s.data.toList.drop j).length=j:=by rw[List.length_drop];omega
 show qz 4 (textOf acc) 0 k (s.size-(s.data.toList.drop j).length)=_;rw[e1]
theorem Tx.move1{w0 w:World}{b B2:Nat}{s:ByteArray}{ts:List Tok}{v:Value}{j:Nat}{acc:List UInt8}{bv:Value}(h:Tx w0 b B2 s ts v j acc bv w):Tx w0 b B2 s ts v (j+1) acc bv (w.setCell ⟨b,1,none⟩ (.int .i64 ((j:Int)+1))):=by
 have:=h.move (j+1)
 rwa [Int.natCast_add] at this
set_option maxHeartbeats 2000000 in
set_option maxRecDepth 100000 in
theorem VU(b k:Nat)(s:ByteArray)(ts:List Tok)(w:World)(hsc:Sc w b s k ts)(hk:k<s.size)(hs:s.size≤100000)(hts:ts.length≤1000000) :
  Calls Tryz.prog 109 #[.pointer (some ⟨b,0,none⟩)] w (EA w b s ts (uP s k)):=by
 obtain⟨v,hb,ho⟩:=hsc;obtain⟨i0,hi,hz0,hz1,hz2⟩:=info_parts info5;have htx0:Tx w b w.heap.size s ts v k [] (.slice none 0 0) w:=⟨hb,ho,World.ownsRow_nil _ _ _ _,Below.refl _ _,Nat.le_refl _,hb.lt,fun g hg=>(ho.lt g hg).2⟩;generalize w.heap.size=B2 at htx0;have c1:=hb.c1;have f1:=hb.f 1;clear hb ho
 go_enter Tryz.func109,Tryz.ntmps109
 go_wp2_with fail
 go_loopg [4] (s.size-(k+1)) (fun g bv wr=>∃(j:Nat) (acc:List UInt8),k+1≤j∧j≤s.size∧s.size-j=g∧acc.length≤j∧Tx w b B2 s ts v j acc bv wr∧textL (s.data.toList.drop (k+1))=more' acc (textL (s.data.toList.drop j)))
 case atStart=>exact⟨k+1,[],Nat.le_refl _,by omega,rfl,by simp,htx0.move (k+1),(UY _).symm⟩
 case round=>
  obtain⟨j,acc,hkj,hj,hg,hacc,htx,htl⟩:=hrel;have HR:Hid (uP s k=tN (more' acc (textL (s.data.toList.drop j))) s k):=by
   show uP s k=_;unfold uP;rw[htl]
  have HG:=Lib.hid hg;have HT:=Lib.hid htl;clear hg htl c1 f1 htx0;have c0:=htx.blk.c0;have c1:=htx.blk.c1;by_cases hlt:j<s.size
  ·have hd:decide ((j:Int)<(s.size:Int))=true:=by simp;omega
   go_wp2_with fail
   go_quiet (fail)
   have htx2:=htx.drewN nq;clear c0 c1 htx;generalize wr.drewN nq=w2 at *;have c0:=htx2.blk.c0;have c1:=htx2.blk.c1
   go_wp2_with fail
   go_quiet (fail)
   have htx:=htx2.drewN nq;clear c0 c1 htx2;generalize w2.drewN nq=wr at *;have c0:=htx.blk.c0;have c1:=htx.blk.c1;have f1:=htx.blk.f 1;have hcv:=Cw htx.byt;obtain⟨ba,bc,hbv⟩:=EU htx.byt;rw[hbv] at htx hcv ⊢;clear hbv;by_cases yw:s[j].toNat=34
   ·have t34:((s[j].toNat:Int)==34)=true:=by simp[yw]
    have HE:=Lib.hid (JW hlt acc yw);clear yw;have htm:=htx.move1;have hcv2:=Cw htm.byt
    go_wp2_with fail
    refine(xh b s (j+1) ts _ _ _ k _ ⟨v,htm.blk,htm.own⟩ hts).mono ?_;rintro e w3 hgot;obtain⟨c,rfl⟩:=hgot.is;have HGOT:=Lib.hid hgot;have hbel:=htm.bel;clear hgot hcv hcv2 htm htx c0 c1 f1
    go_wp2_with fail
    go_ret
    rw[HR.out,HE.out,Gb s k (j+1) acc (by omega)];exact EA.after hbel HGOT.out
   ·have t34:((s[j].toNat:Int)==34)=false:=by simp;omega
    by_cases h10:s[j].toNat=10
    ·have t10:((s[j].toNat:Int)==10)=true:=by simp[h10]
     have HE:=Lib.hid (MU hlt acc h10);have hbel:=htx.bel;clear h10 yw hcv htx c0 c1 f1
     go_wp2_with fail
     go_ret
     rw[HR.out,HE.out];exact⟨rfl,hbel⟩
    ·have t10:((s[j].toNat:Int)==10)=false:=by simp;omega
     by_cases h92:s[j].toNat=92
     ·have t92:((s[j].toNat:Int)==92)=true:=by simp[h92]
      clear h10 yw hcv;have htm:=htx.move1
      go_wp2_with fail
      generalize (wr.setCell ⟨b,1,none⟩ (.int .i64 ((j:Int)+1)))=w4 at *;clear c0 c1 f1 htx;obtain⟨m,hm⟩:∃m:Nat,m=j+1:=⟨_,rfl⟩;have em:((j:Int)+1)=(m:Int):=by omega
      rw[em];rw[←hm] at htm;have hjm:j<m:=by omega
      have hmj:m≤j+1:=by omega
      have HM:=Lib.hid hm;clear hm em;have c0:=htm.blk.c0;have c1:=htm.blk.c1;by_cases h2:m<s.size
      ·have tl:((m:Int)==(s.size:Int))=false:=by simp;omega
       have HE0:=Lib.hid (MV hlt acc h92 (by omega));clear h92
       go_quiet (fail)
       have htx:=htm.drewN nq;clear c0 c1 htm;generalize w4.drewN nq=w5 at *;have c0:=htx.blk.c0;have c1:=htx.blk.c1
       go_wp2_with fail
       go_quiet (exact Calls.quiet_of_same (Tryz.strings_IndexByte _ _ _))
       have htm:=htx.drewN nq;clear c0 c1 htx;generalize w5.drewN nq=w6 at *;have HE1:Hid (more' acc (textL (s.data.toList.drop j))=match escC s[m] with|none=>none|some x=>more' (acc++[x]) (textL (s.data.toList.drop (m+1)))):=by
        have hm:=HM.out;subst hm;exact HE0.out
       clear HE0;have HD:=Lib.hid (U9 s[m]);generalize s[m]=d at *;rcases HD.out with⟨hix,hes⟩|⟨hix,hes⟩|⟨hix,hes⟩|⟨hix,hes⟩|⟨hix,hes⟩
       ·have HS:=Lib.hid hes
        have hbel:=htm.bel;clear hes htm HD
        go_wp2_with fail
        go_ret
        rw[HR.out,HE1.out,HS.out];exact⟨rfl,hbel⟩
       ·have HE2:Hid (more' acc (textL (s.data.toList.drop j))=more' (acc++[10]) (textL (s.data.toList.drop (m+1)))):=by
         have:=HE1.out
         rwa [hes] at this
        clear hes HD HE1
        go_wp2_with (at_builtin;refine wpList_append_own _ rfl _ _ 180 rfl B2 5 i0 (.int .u8 0) 1 1 Tryz.underlying180 hi hz0 hz1 hz2 rfl (by decide) _ acc.length (byteCells acc) rfl (htm.byt.alloc _) ⟨w6.heap.size,0,none⟩ 1 1 [.int .u8 10] rfl rfl ?_ ?_ ?_ ?_ ?_ ?_)
        ·exact nH w6 [.int .u8 10] 5
        ·exact one_cell 10
        ·unfold maxLen;omega
        ·omega
        ·have:=htm.hB;simp;omega
        ·intro v' w7 hown hgr _
         have hta:=htm.appended _ 10 hown hgr;clear htm hown hgr;have c1':=hta.blk.c1;have f1':=hta.blk.f 1
         go_wp2_with fail
         go_roundg (s.size-(m+1))
         case measure=>have:=HG.out;omega
         case rel=>exact⟨m+1,acc++[10],by omega,by omega,rfl,by simp;omega,hta.move1,HT.out.trans HE2.out⟩
       ·have HE2:Hid (more' acc (textL (s.data.toList.drop j))=more' (acc++[9]) (textL (s.data.toList.drop (m+1)))):=by
         have:=HE1.out
         rwa [hes] at this
        clear hes HD HE1
        go_wp2_with (at_builtin;refine wpList_append_own _ rfl _ _ 180 rfl B2 5 i0 (.int .u8 0) 1 1 Tryz.underlying180 hi hz0 hz1 hz2 rfl (by decide) _ acc.length (byteCells acc) rfl (htm.byt.alloc _) ⟨w6.heap.size,0,none⟩ 1 1 [.int .u8 9] rfl rfl ?_ ?_ ?_ ?_ ?_ ?_)
        ·exact nH w6 [.int .u8 9] 5
        ·exact one_cell 9
        ·unfold maxLen;omega
        ·omega
        ·have:=htm.hB;simp;omega
        ·intro v' w7 hown hgr _
         have hta:=htm.appended _ 9 hown hgr;clear htm hown hgr;have c1':=hta.blk.c1;have f1':=hta.blk.f 1
         go_wp2_with fail
         go_roundg (s.size-(m+1))
         case measure=>have:=HG.out;omega
         case rel=>exact⟨m+1,acc++[9],by omega,by omega,rfl,by simp;omega,hta.move1,HT.out.trans HE2.out⟩
       ·have HE2:Hid (more' acc (textL (s.data.toList.drop j))=more' (acc++[34]) (textL (s.data.toList.drop (m+1)))):=by
         have:=HE1.out
         rwa [hes] at this
        clear hes HD HE1
        go_wp2_with (at_builtin;refine wpList_append_own _ rfl _ _ 180 rfl B2 5 i0 (.int .u8 0) 1 1 Tryz.underlying180 hi hz0 hz1 hz2 rfl (by decide) _ acc.length (byteCells acc) rfl (htm.byt.alloc _) ⟨w6.heap.size,0,none⟩ 1 1 [.int .u8 34] rfl rfl ?_ ?_ ?_ ?_ ?_ ?_)
        ·exact nH w6 [.int .u8 34] 5
        ·exact one_cell 34
        ·unfold maxLen;omega
        ·omega
        ·have:=htm.hB;simp;omega
        ·intro v' w7 hown hgr _
         have hta:=htm.appended _ 34 hown hgr;clear htm hown hgr;have c1':=hta.blk.c1;have f1':=hta.blk.f 1
         go_wp2_with fail
         go_roundg (s.size-(m+1))
         case measure=>have:=HG.out;omega
         case rel=>exact⟨m+1,acc++[34],by omega,by omega,rfl,by simp;omega,hta.move1,HT.out.trans HE2.out⟩
       ·have HE2:Hid (more' acc (textL (s.data.toList.drop j))=more' (acc++[92]) (textL (s.data.toList.drop (m+1)))):=by
         have:=HE1.out
         rwa [hes] at this
        clear hes HD HE1
        go_wp2_with (at_builtin;refine wpList_append_own _ rfl _ _ 180 rfl B2 5 i0 (.int .u8 0) 1 1 Tryz.underlying180 hi hz0 hz1 hz2 rfl (by decide) _ acc.length (byteCells acc) rfl (htm.byt.alloc _) ⟨w6.heap.size,0,none⟩ 1 1 [.int .u8 92] rfl rfl ?_ ?_ ?_ ?_ ?_ ?_)
        ·exact nH w6 [.int .u8 92] 5
        ·exact one_cell 92
        ·unfold maxLen;omega
        ·omega
        ·have:=htm.hB;simp;omega
        ·intro v' w7 hown hgr _
         have hta:=htm.appended _ 92 hown hgr;clear htm hown hgr;have c1':=hta.blk.c1;have f1':=hta.blk.f 1
         go_wp2_with fail
         go_roundg (s.size-(m+1))
         case measure=>have:=HG.out;omega
         case rel=>exact⟨m+1,acc++[92],by omega,by omega,rfl,by simp;omega,hta.move1,HT.out.trans HE2.out⟩
      ·have tl:((m:Int)==(s.size:Int))=true:=by simp;omega
       have HE:=Lib.hid (BL hlt acc h92 (by omega));have hbel:=htm.bel;clear h92
       go_quiet (fail)
       clear htm c0 c1
       go_wp2_with fail
       go_ret
       rw[HR.out,HE.out];exact⟨rfl,⟨hbel.os,hbel.tape,hbel.output,hbel.size,hbel.block⟩⟩
     ·have t92:((s[j].toNat:Int)==92)=false:=by simp;omega
      have HE:=Lib.hid (JX hlt acc yw h10 h92);clear yw h10 h92 hcv
      go_wp2_with (at_builtin;refine wpList_append_own _ rfl _ _ 180 rfl B2 5 i0 (.int .u8 0) 1 1 Tryz.underlying180 hi hz0 hz1 hz2 rfl (by decide) _ acc.length (byteCells acc) rfl (htx.byt.alloc _) ⟨wr.heap.size,0,none⟩ 1 1 [.int .u8 (s[j].toNat:Int)] rfl rfl ?_ ?_ ?_ ?_ ?_ ?_)
      ·exact nH wr [.int .u8 (s[j].toNat:Int)] 5
      ·exact one_cell s[j]
      ·unfold maxLen;omega
      ·omega
      ·have:=htx.hB;simp;omega
      ·intro v' w7 hown hgr _
       have hta:=htx.appended _ s[j] hown hgr;clear htx hown hgr;have c1':=hta.blk.c1;have f1':=hta.blk.f 1
       go_wp2_with fail
       go_roundg (s.size-(j+1))
       case measure=>have:=HG.out;omega
       case rel=>exact⟨j+1,acc++[s[j]],by omega,by omega,rfl,by simp;omega,hta.move1,HT.out.trans HE.out⟩
  ·have hd:decide ((j:Int)<(s.size:Int))=false:=by simp;omega
   have HE:=Lib.hid (Us hlt acc);have hbel:=htx.bel
   go_wp2_with fail
   go_quiet (fail)
   clear htx c0 c1
   go_wp2_with fail
   go_ret
   rw[HR.out,HE.out];exact⟨rfl,⟨hbel.os,hbel.tape,hbel.output,hbel.size,hbel.block⟩⟩
end Go.Proofs.YtijcobeebaceoaaGreatDoor.Lx
namespace Go.Proofs.YtijcobeebaceoaaGreatDoor.Lx
set_option maxRecDepth 20000
open Go.RowKit
def V3(s:ByteArray)(k:Nat):Except Int (Tok×Nat):=qz (if markB (s.extract k (adv symB s k))=true then 7 else 5) (s.extract k (adv symB s k)) 0 k (adv symB s k)
def jE(s:ByteArray)(k:Nat)(c:UInt8):Except Int (Tok×Nat):=
 if lowB c=true∨upB c=true then zI s k
 else if digitB c=true then KV s k
 else if c.toNat=34 then uP s k
 else if symB c=true then V3 s k
 else if markB (s.extract k (k+1))=true then qz 7 (s.extract k (k+1)) 0 k (k+1)
 else .error 101
theorem Sc.drewN{w:World}{b k:Nat}{s:ByteArray}{ts:List Tok}(h:Sc w b s k ts)(n:Nat):Sc (w.drewN n) b s k ts:=h
theorem below_drewN'{B:Nat}{a w:World}(h:Below B a w)(n:Nat):Below B a (w.drewN n):=⟨h.os,h.tape,h.output,h.size,h.block⟩
set_option maxHeartbeats 1000000 in
set_option maxRecDepth 100000 in
theorem acS(b k:Nat)(s:ByteArray)(ts:List Tok)(w:World)(hsc:Sc w b s k ts)(hk:k<s.size)(hs:s.size≤100000)(hts:ts.length≤1000000) :
  Calls Tryz.prog 77 #[.pointer (some ⟨b,0,none⟩)] w (EA w b s ts (jE s k s[k])):=by
 have hsc0:=hsc;obtain⟨v,hb,ho⟩:=hsc;have c0:=hb.c0;have c1:=hb.c1;have hbw:b<w.heap.size:=hb.lt
 go_enter Tryz.func77,Tryz.ntmps77
 go_wp2_with fail
 go_quiet (fail)
 have hsc1:=hsc0.drewN nq;have hbl:=below_drewN' (Below.refl b w) nq;clear c0 c1 hb ho hsc0;generalize w.drewN nq=w1 at *;cases h1:lowB s[k]
 ·cases h2:upB s[k]
  ·cases h3:digitB s[k]
   ·by_cases yw:s[k].toNat=34
    ·have t34:((s[k].toNat:Int)==34)=true:=by simp[yw]
     have HR:Hid (jE s k s[k]=uP s k):=by
      show jE s k s[k]=uP s k;unfold jE;simp[h1,h2,h3,yw]
     clear yw
     go_wp2_with (first|(go_at_call 104;refine(nu _ _).mono ?_;rintro e w' ⟨rfl,rfl⟩)|(go_at_call 105;refine(qf _ _).mono ?_;rintro e w' ⟨rfl,rfl⟩)|(go_at_call 107;refine(kr _ _).mono ?_;rintro e w' ⟨rfl,rfl⟩))
     refine(VU b k s ts _ hsc1 hk hs hts).mono ?_;rintro e w2 hgot;obtain⟨c,rfl⟩:=hgot.is;have HGOT:=Lib.hid hgot;clear hgot
     go_wp2_with fail
     go_ret
     rw[HR.out];exact EA.after hbl HGOT.out
    ·have t34:((s[k].toNat:Int)==34)=false:=by simp;omega
     cases h4:symB s[k]
     ·go_wp2_with (first|(go_at_call 104;refine(nu _ _).mono ?_;rintro e w' ⟨rfl,rfl⟩)|(go_at_call 105;refine(qf _ _).mono ?_;rintro e w' ⟨rfl,rfl⟩)|(go_at_call 107;refine(kr _ _).mono ?_;rintro e w' ⟨rfl,rfl⟩)|(go_at_call 110;refine(vw _ _).mono ?_;rintro e w' ⟨rfl,rfl⟩))
      obtain⟨v,hb,ho⟩:=hsc1;have c0:=hb.c0;have c1:=hb.c1;cases h5:markB (s.extract k (k+1))
      ·have HR:Hid (jE s k s[k]=.error 101):=by
        show jE s k s[k]=.error 101;unfold jE;simp[h1,h2,h3,yw,h4,h5]
       have hw1:IntKind.i64.wrap ((k:Int)+1)=(k:Int)+1:=IntWalk.i64_in _ (by omega);have hw2:0≤(k:Int)+1:=by omega
       have hw3:((k:Int)+1).toNat=k+1:=by omega
       go_quiet (exact qy (CW _ _))
       rw[h5];clear c0 c1 hw1 hw2 hw3
       go_wp2_with fail
       go_ret
       rw[HR.out];exact⟨rfl,below_drewN' hbl _⟩
      ·have HR:Hid (jE s k s[k]=qz 7 (s.extract k (k+1)) 0 k (k+1)):=by
        show jE s k s[k]=_;unfold jE;simp[h1,h2,h3,yw,h4,h5]
       have hw1:IntKind.i64.wrap ((k:Int)+1)=(k:Int)+1:=IntWalk.i64_in _ (by omega);have hw2:0≤(k:Int)+1:=by omega
       have hw3:((k:Int)+1).toNat=k+1:=by omega
       go_quiet (exact qy (CW _ _))
       rw[h5];have hb2:=hb.drewN nq;have ho2:(w1.drewN nq).ownsRow (b+1) 64 4 v ts.length (tokCells ts):=ho;have hbl2:=below_drewN' hbl nq;clear c0 c1 hw1 hw2 hw3 hb ho hbl;generalize w1.drewN nq=w2 at *;have c1:=hb2.c1;have f1:=hb2.f 1
       go_wp2_with fail
       have hb3:=hb2.set1 (k+1);rw[Int.natCast_add] at hb3;have ho3:=ownsRow_setCell_below ho2 (a:=⟨b,1,none⟩) (by simp) (.int .i64 ((k:Int)+1));have hbl3:=hbl2.setCell (p:=⟨b,1,none⟩) (Nat.le_refl _) (.int .i64 ((k:Int)+1));have em:((k:Int)+1)=((k+1:Nat):Int):=by omega
       rw[show ((1:Nat):Int)=1 from rfl] at hb3;clear c1 f1 hb2 ho2 hbl2;generalize (w2.setCell ⟨b,1,none⟩ (.int .i64 ((k:Int)+1)))=w3 at *;have c0:=hb3.c0;have c1:=hb3.c1;rw[←em] at c1;clear em;have hw1:IntKind.i64.wrap (k:Int)=(k:Int):=IntWalk.i64_in _ (by omega);have hw2:0≤(k:Int)+1:=by omega
       have hw3:((k:Int)+1).toNat=k+1:=by omega
       have hsl:∀wx:World,(Instr.slice 9 (.string s) (some (.int .i64 (k:Int))) (some (.int .i64 ((k:Int)+1))) none).run Tryz.prog wx=.ok (.string (s.extract k (k+1))) wx:=by
        intro wx;have:=run_slice_string (P:=Tryz.prog) wx 9 s .i64 .i64 (k:Int) ((k:Int)+1) Tryz.underlying9 (by omega) (by omega) (by omega)
        rwa [hw3] at this
       go_still_tail 20,(by kernel_rfl)
       change wpList _ _ _ _ _ w3.drew;have hsc4:Sc w3.drew b s (k+1) ts:=⟨v,hb3,ho3⟩;have hbl4:Below b w w3.drew:=hbl3.drew;clear c0 c1 hw1 hw2 hw3 hb3 ho3 hbl3 hsl;generalize w3.drew=w4 at *
       go_wp2_with fail
       refine(xh b s (k+1) ts _ _ _ k _ hsc4 hts).mono ?_;rintro e w5 hgot;obtain⟨c,rfl⟩:=hgot.is;have HGOT:=Lib.hid hgot;clear hgot
       go_wp2_with fail
       go_ret
       rw[HR.out];exact EA.after hbl4 HGOT.out
     ·have HR:Hid (jE s k s[k]=V3 s k):=by
       show jE s k s[k]=V3 s k;unfold jE;simp[h1,h2,h3,yw,h4]
      obtain⟨v,hb,ho⟩:=hsc1;have c1:=hb.c1
      go_wp2_with (first|(go_at_call 104;refine(nu _ _).mono ?_;rintro e w' ⟨rfl,rfl⟩)|(go_at_call 105;refine(qf _ _).mono ?_;rintro e w' ⟨rfl,rfl⟩)|(go_at_call 107;refine(kr _ _).mono ?_;rintro e w' ⟨rfl,rfl⟩)|(go_at_call 110;refine(vw _ _).mono ?_;rintro e w' ⟨rfl,rfl⟩))
      refine(xC 110 symB Uv b k s v _ hb (by omega) (by omega)).mono ?_;rintro e w2 ⟨rfl,hb1,hg1⟩;have hsc2:=Sc.moved ho hb1 hg1;have hbl2:=hbl.trans (lq hg1 (Nat.le_of_lt hb.lt));have HS:Hid (V3 s k=qz (if markB (s.extract k (adv symB s k))=true then 7 else 5) (s.extract k (adv symB s k)) 0 k (adv symB s k)):=rfl;clear hb1 hg1 ho hb c1 hbl;generalize s.extract k (adv symB s k)=x at *;generalize adv symB s k=j at *;cases h5:markB x
      all_goals
       go_wp2_with (go_at_call 111;refine(CW _ _).mono ?_;rintro e w' ⟨rfl,rfl⟩)
       refine(xh b s j ts _ _ x k _ hsc2 hts).mono ?_;rintro e w3 hgot;obtain⟨c,rfl⟩:=hgot.is;have HGOT:=Lib.hid hgot;clear hgot
       go_wp2_with fail
       go_ret
       rw[HR.out,HS.out,h5];exact EA.after hbl2 HGOT.out
   ·have HR:Hid (jE s k s[k]=KV s k):=by
     show jE s k s[k]=KV s k;unfold jE;simp[h1,h2,h3]
    go_wp2_with (first|(go_at_call 104;refine(nu _ _).mono ?_;rintro e w' ⟨rfl,rfl⟩)|(go_at_call 105;refine(qf _ _).mono ?_;rintro e w' ⟨rfl,rfl⟩)|(go_at_call 107;refine(kr _ _).mono ?_;rintro e w' ⟨rfl,rfl⟩))
    refine(ND b k s ts _ hsc1 hk hs hts).mono ?_;rintro e w2 hgot;obtain⟨c,rfl⟩:=hgot.is;have HGOT:=Lib.hid hgot;clear hgot
    go_wp2_with fail
    go_ret
    rw[HR.out];exact EA.after hbl HGOT.out
  ·have HR:Hid (jE s k s[k]=zI s k):=by
    show jE s k s[k]=zI s k;unfold jE;simp[h2]
   go_wp2_with (first|(go_at_call 104;refine(nu _ _).mono ?_;rintro e w' ⟨rfl,rfl⟩)|(go_at_call 105;refine(qf _ _).mono ?_;rintro e w' ⟨rfl,rfl⟩))
   refine(JQ b k s ts _ hsc1 hk (by omega) hts (by simp[insideB,h2])).mono ?_;rintro e w2 hgot;obtain⟨c,rfl⟩:=hgot.is;have HGOT:=Lib.hid hgot;clear hgot
   go_wp2_with fail
   go_ret
   rw[HR.out];exact EA.after hbl HGOT.out
 ·have HR:Hid (jE s k s[k]=zI s k):=by
   show jE s k s[k]=zI s k;unfold jE;simp[h1]
  go_wp2_with (first|(go_at_call 104;refine(nu _ _).mono ?_;rintro e w' ⟨rfl,rfl⟩))
  refine(JQ b k s ts _ hsc1 hk (by omega) hts (by simp[insideB,h1])).mono ?_;rintro e w2 hgot;obtain⟨c,rfl⟩:=hgot.is;have HGOT:=Lib.hid hgot;clear hgot
  go_wp2_with fail
  go_ret
  rw[HR.out];exact EA.after hbl HGOT.out
end Go.Proofs.YtijcobeebaceoaaGreatDoor.Lx
namespace Go.Proofs.YtijcobeebaceoaaGreatDoor.Lx
set_option maxRecDepth 20000
open Go.RowKit
def xY(s:ByteArray)(pos:Nat):Bool:=((Utf8.decode s pos).1:Int)==65533 && !Lib.hasPrefix (s.extract pos s.size).data.toList [239,191,189]
def jc(s:ByteArray):Nat→Nat→Int
 |0,_=>-1
 |f+1,pos=>if pos<s.size then(if xY s pos=true then(pos:Int) else jc s f (pos+(Utf8.decode s pos).2)) else -1
def jb(s:ByteArray):Int:=jc s (s.size+1) 0
theorem rY(s:ByteArray):∀(f pos:Nat),s.size-pos<f→jc s f pos=jc s (s.size-pos+1) pos
 |0,pos,h=>by omega
 |f+1,pos,h=>by
  by_cases hp:pos<s.size
  ·simp only[jc,hp,if_true]
   cases hb:xY s pos
   ·simp only[Bool.false_eq_true,if_false]
    have hw:=Lib.decode_width_pos s pos hp;rw[rY s f _ (by omega),rY s (s.size-pos) (pos+(Utf8.decode s pos).2) (by omega)]
   ·simp
  ·simp[jc,hp]
theorem J5{s:ByteArray}{pos:Nat}(hp:pos<s.size)(hb:xY s pos=false)(h:jb s=jc s (s.size-pos+1) pos) :
  jb s=jc s (s.size-(pos+(Utf8.decode s pos).2)+1) (pos+(Utf8.decode s pos).2):=by
 rw[h];have hw:=Lib.decode_width_pos s pos hp
 conv=>lhs;unfold jc
 simp only[hp,if_true,hb,Bool.false_eq_true,if_false];exact rY s _ _ (by omega)
theorem M4{s:ByteArray}{pos:Nat}(hp:pos<s.size)(hb:xY s pos=true)(h:jb s=jc s (s.size-pos+1) pos):jb s=pos:=by
 rw[h];simp[jc,hp,hb]
theorem Uz{s:ByteArray}{pos:Nat}(hp:¬pos<s.size)(h:jb s=jc s (s.size-pos+1) pos):jb s = -1:=by
 rw[h];simp[jc,hp]
set_option maxHeartbeats 1000000 in
theorem zL(s:ByteArray)(w:World)(hs:s.size≤1000000) :
  Calls Tryz.prog 75 #[.string s] w fun e w'=>e=.returned (.int .i64 (jb s))∧Below w.heap.size w w':=by
 go_enter Tryz.func75,Tryz.ntmps75
 go_wp2_with fail
 go_loopg [2] (s.size) (fun g o wr=>∃pos:Nat,o=.int .i64 0∧wr=w.iter s pos∧s.size-pos≤g∧jb s=jc s (s.size-pos+1) pos)
 case atStart=>exact⟨0,rfl,rfl,by omega,rfl⟩
 case round=>
  obtain⟨pos,rfl,hwr,hg,hsp⟩:=hrel;have HW:=Lib.hid hwr;have HS:=Lib.hid hsp;clear hwr hsp;have hbl:Below w.heap.size w (w.iter s pos):=(Below.refl _ _).alloc (Nat.le_refl _) _;by_cases hp:pos<s.size
  ·have hnx:=run_next_any (P:=Tryz.prog) w s pos 0 hp
   have hw1:=Lib.decode_width_pos s pos hp;have hrw:=HW.out;rw[hrw];clear hrw;have hlt:pos<pos+(Utf8.decode s pos).2:=by omega
   cases hd:(((Utf8.decode s pos).1:Int)==65533)
   ·have HB:=Lib.hid (J5 hp (by simp[xY,hd]) HS.out)
    go_wp2_with fail
    go_roundg (s.size-(pos+(Utf8.decode s pos).2))
    case measure=>omega
    case rel=>exact⟨pos+(Utf8.decode s pos).2,rfl,rfl,Nat.le_refl _,HB.out⟩
   ·cases hh:Lib.hasPrefix (s.extract pos s.size).data.toList [239,191,189]
    ·have HB:=Lib.hid (M4 hp (by unfold xY;rw[hd,hh];rfl) HS.out)
     have HH:=Lib.hid hh;clear hh
     go_wp2_with fail
     refine(Tryz.strings_HasPrefix _ _ _).mono ?_;rintro e w' ⟨rfl,rfl⟩;rw[HH.out]
     go_wp2_with fail
     go_ret
     rw[HB.out];exact⟨rfl,(Below.refl _ _).alloc (Nat.le_refl _) _⟩
    ·have HB:=Lib.hid (J5 hp (by unfold xY;rw[hd,hh];rfl) HS.out)
     have HH:=Lib.hid hh;clear hh
     go_wp2_with fail
     refine(Tryz.strings_HasPrefix _ _ _).mono ?_;rintro e w' ⟨rfl,rfl⟩;rw[HH.out]
     go_wp2_with fail
     go_roundg (s.size-(pos+(Utf8.decode s pos).2))
     case measure=>omega
     case rel=>exact⟨pos+(Utf8.decode s pos).2,rfl,rfl,Nat.le_refl _,HB.out⟩
  ·have hnx:=run_next_end (P:=Tryz.prog) w s pos 0 hp
   have HB:=Lib.hid (Uz hp HS.out);have hrw:=HW.out;rw[hrw];clear hrw
   go_wp2_with fail
   go_ret
   rw[HB.out];exact⟨rfl,(Below.refl _ _).alloc (Nat.le_refl _) _⟩
end Go.Proofs.YtijcobeebaceoaaGreatDoor.Lx
namespace Go.Proofs.YtijcobeebaceoaaGreatDoor.Lx
set_option maxRecDepth 20000
open Go.RowKit
theorem si{kind n:Int}{x:ByteArray}{at_ k:Nat}{t:Tok}{j:Nat}(h:qz kind x n at_ k=.ok (t,j)):j=k:=by
 unfold qz at h;split at h
 ·cases h
 ·cases h;rfl
theorem yD:∀(n:Nat) (l x r:List UInt8),l.length≤n→textL l=some (x,r)→r.length<l.length
 |0,l,x,r,hn,h=>by
  have:l=[]:=List.eq_nil_of_length_eq_zero (by omega);subst this;cases h
 |n+1,[],x,r,hn,h=>by cases h
 |n+1,c::l,x,r,hn,h=>by
  rw[textL_cons] at h;simp only[List.length_cons] at hn ⊢;split at h
  ·cases h;omega
  ·split at h
   ·cases h
   ·split at h
    ·cases l with
     |nil=>cases h
     |cons d l'=>
      simp only at h;split at h
      ·cases h
      ·cases h2:textL l' with
       |none=>rw[h2] at h;cases h
       |some p=>
        rw[h2] at h;have:=yD n l' p.1 p.2 (by simp only[List.length_cons] at hn;omega) h2;cases h;simp only[List.length_cons];omega
    ·cases h2:textL l with
     |none=>rw[h2] at h;cases h
     |some p=>
      rw[h2] at h;have:=yD n l p.1 p.2 (by omega) h2;cases h;omega
theorem OV{p:UInt8→Bool}{s:ByteArray}{k:Nat}(h:k<s.size)(hp:p s[k]=true):k<adv p s k:=by
 unfold adv;rw[drop_at s k h];simp[hp]
theorem Hr{s:ByteArray}{k:Nat}(h:k<s.size){t:Tok}{j:Nat}(h1:jE s k s[k]=.ok (t,j)):k<j∧j≤s.size:=by
 unfold jE at h1;split at h1
 ·rename_i hc
  have:=si h1;subst this;refine⟨OV h ?_,adv_le _ s k (by omega)⟩;rcases hc with hc|hc<;>simp[insideB,hc]
 ·split at h1
  ·rename_i hd
   unfold KV numOf at h1;split at h1
   ·cases h1
   ·have:=si h1
    subst this;exact⟨OV h hd,adv_le _ s k (by omega)⟩
  ·split at h1
   ·unfold uP tN at h1
    split at h1
    ·cases h1
    ·rename_i x r hx
     have:=si h1;subst this;have h2:=yD _ _ _ _ (Nat.le_refl _) hx;have hl:s.data.toList.length=s.size:=rfl;rw[List.length_drop] at h2;omega
   ·split at h1
    ·rename_i hs
     have:=si h1;subst this;exact⟨OV h hs,adv_le _ s k (by omega)⟩
    ·split at h1
     ·have:=si h1
      subst this;omega
     ·cases h1
theorem skipPos_ge(s:ByteArray)(k:Nat)(h:k≤s.size):k≤skipPos s k∧skipPos s k≤s.size:=by
 unfold skipPos;have h1:=skipC_length false (s.data.toList.drop k);have hl:s.data.toList.length=s.size:=rfl;rw[List.length_drop] at h1;omega
def Ja(s:ByteArray):Tok:=⟨0,⟨#[]⟩,0,s.size⟩
def jq(s:ByteArray):Nat→Nat→List Tok→Except (Int×Nat) (List Tok)
 |0,_,ts=>.ok (ts++[Ja s])
 |f+1,pos,ts=>
  if h:pos<s.size then
   match jE s pos s[pos] with
   |.error c=>.error (c,pos)
   |.ok (t,j)=>jq s f (skipPos s j) (ts++[t])
  else .ok (ts++[Ja s])
def scanP(s:ByteArray):Except (Int×Nat) (List Tok):=
 if 60000<s.size then .error (3,0)
 else if 0≤jb s then .error (100,(jb s).toNat)
 else jq s (s.size+1) (skipPos s 0) []
theorem ql(s:ByteArray):∀(f pos:Nat) (ts:List Tok),s.size-pos<f→jq s f pos ts=jq s (s.size-pos+1) pos ts
 |0,pos,ts,h=>by omega
 |f+1,pos,ts,h=>by
  by_cases hp:pos<s.size
  ·simp only[jq,hp,dif_pos]
   cases h1:jE s pos s[pos] with
   |error c=>rfl
   |ok p=>
    obtain⟨t,j⟩:=p;have hb:=Hr hp h1;have hk:=skipPos_ge s j hb.2;simp only;rw[ql s f _ _ (by omega),ql s (s.size-pos) (skipPos s j) _ (by omega)]
  ·simp[jq,hp]
def Scanned(w:World)(r:Except (Int×Nat) (List Tok))(e:Ending)(w':World):Prop:=
 match r with
 |.ok ts=>∃v,e=.returned (.tuple #[v,.agg #[.int .i64 0,.int .i64 0]])∧w'.ownsRow w.heap.size 64 4 v ts.length (tokCells ts)∧Below w.heap.size w w'
 |.error (c,at_)=>e=.returned (.tuple #[.slice none 0 0,.agg #[.int .i64 c,.int .i64 (at_:Int)]])∧Below w.heap.size w w'
set_option maxHeartbeats 1000000 in
theorem M9(s:ByteArray)(w:World)(h:60000<s.size)(hs:s.size≤maxLen):Calls Tryz.prog 42 #[.string s] w (Scanned w (scanP s)):=by
 have HR:Hid (scanP s=.error (3,0)):=by
  show scanP s=_;unfold scanP;rw[if_pos h]
 unfold maxLen at hs
 go_enter Tryz.func42,Tryz.ntmps42
 go_wp2_with fail
 refine bodyPost_ret (v:=.tuple #[.slice none 0 0,.agg #[.int .i64 3,.int .i64 0]]) (by simp[results,Tryz.results42,go_sem]) rfl ?_;rw[HR.out];exact⟨rfl,((Below.refl _ _).alloc (Nat.le_refl _) _)⟩
end Go.Proofs.YtijcobeebaceoaaGreatDoor.Lx
namespace Go.Proofs.YtijcobeebaceoaaGreatDoor.Lx
set_option maxRecDepth 20000
open Go.RowKit
set_option maxHeartbeats 1000000 in
theorem Gn(s:ByteArray)(w:World)(h:¬60000<s.size)(hsp:0≤jb s):Calls Tryz.prog 42 #[.string s] w (Scanned w (scanP s)):=by
 have HR:Hid (scanP s=.error (100,(jb s).toNat)):=by
  show scanP s=_;unfold scanP;rw[if_neg h,if_pos hsp]
 have hs:(s.size:Int)≤60000:=by omega
 go_enter Tryz.func42,Tryz.ntmps42
 go_wp2_with fail
 refine(zL s _ (by omega)).mono ?_;rintro e w1 ⟨rfl,hb⟩;obtain⟨n,hn⟩:=Int.eq_ofNat_of_zero_le hsp;rw[hn] at HR hsp ⊢;clear hn;have hc0:w1.heap[w.heap.size]? = some (.cells #[.int .i64 0,.int .i64 0] 28 (0,0)):=by
  rw[hb.block w.heap.size (by simp)];exact heap_alloc_new w _
 have hf:w1.frozen? ⟨w.heap.size,0,none⟩=false:=by simp[World.frozen?,hc0]
 have hf1:w1.frozen? ⟨w.heap.size,1,none⟩=false:=by simp[World.frozen?,hc0]
 have hl0:w1.cell? ⟨w.heap.size,0,none⟩=some (.int .i64 0):=by simp[World.cell?,hc0]
 have hl1:w1.cell? ⟨w.heap.size,1,none⟩=some (.int .i64 0):=by simp[World.cell?,hc0]
 have hbl:Below w.heap.size w w1:=((Below.refl _ _).alloc (Nat.le_refl _) _).trans (hb.mono (by simp));have hsz:w.heap.size<w1.heap.size:=by have:=hb.size;simp at this;omega
 clear hc0 hb
 go_wp2_with fail
 refine bodyPost_ret (v:=.tuple #[.slice none 0 0,.agg #[.int .i64 100,.int .i64 (n:Int)]]) (by simp[results,Tryz.results42,go_sem,hl0,hl1]) rfl ?_;rw[HR.out];exact⟨rfl,(hbl.setCell (by simp) _).setCell (by simp) _⟩
theorem Pj(b k:Nat)(s:ByteArray)(ts:List Tok)(w:World)(hsc:Sc w b s k ts)(hk:k≤s.size)(hs:s.size≤1000000) :
  Calls Tryz.prog 76 #[.pointer (some ⟨b,0,none⟩)] w fun e w'=>e=.returned (.tuple #[])∧Sc w' b s (skipPos s k) ts∧Below b w w':=by
 obtain⟨v,hb,ho⟩:=hsc;refine(Ws b k s v w hb hk hs).mono ?_;rintro e w' ⟨rfl,h1,h2⟩;exact⟨rfl,Sc.moved ho h1 h2,lq h2 (Nat.le_of_lt hb.lt)⟩
theorem Hl{w:World}{base base':Nat}{e:TypeId}{size:Nat}{v:Value}{n:Nat}{xs:List Value}(h:w.ownsRow base e size v n xs)(hb:base'≤base):w.ownsRow base' e size v n xs:=by
 refine⟨h.1,?_⟩;rcases h.2 with h2|⟨g,cap,cur,hv,hg,r⟩
 ·exact .inl h2
 ·exact .inr ⟨g,cap,cur,hv,by omega,r⟩
def aK(w:World)(r:Nat):Prop:=w.heap[r]? = some (.cells #[.int .i64 0,.int .i64 0] 28 (0,0))
theorem aK.f{w:World}{r:Nat}(h:aK w r)(o:Nat):w.frozen? ⟨r,o,none⟩=false:=by simp[World.frozen?,show w.heap[r]? = _ from h]
theorem aK.c0{w:World}{r:Nat}(h:aK w r):w.cell? ⟨r,0,none⟩=some (.int .i64 0):=by simp[World.cell?,show w.heap[r]? = _ from h]
theorem aK.c1{w:World}{r:Nat}(h:aK w r):w.cell? ⟨r,1,none⟩=some (.int .i64 0):=by simp[World.cell?,show w.heap[r]? = _ from h]
theorem su{kind n:Int}{x:ByteArray}{at_ k:Nat}{c:Int}(h:qz kind x n at_ k=.error c):c=104:=by
 unfold qz at h;split at h
 ·cases h;rfl
 ·cases h
theorem YC{s:ByteArray}{k:Nat}{d:UInt8}{c:Int}(h1:jE s k d=.error c):(c != 0)=true:=by
 unfold jE at h1;split at h1
 ·have:=su h1;subst this;rfl
 ·split at h1
  ·unfold KV numOf at h1
   split at h1
   ·cases h1;rfl
   ·have:=su h1;subst this;rfl
  ·split at h1
   ·unfold uP tN at h1
    split at h1
    ·cases h1;rfl
    ·have:=su h1;subst this;rfl
   ·split at h1
    ·have:=su h1;subst this;rfl
    ·split at h1
     ·have:=su h1;subst this;rfl
     ·cases h1;rfl
theorem UB{s:ByteArray}{pos:Nat}{ts:List Tok}(hp:pos<s.size){c:Int}(h:jE s pos s[pos]=.error c):jq s (s.size-pos+1) pos ts=.error (c,pos):=by
 simp[jq,hp,h]
theorem Wz{s:ByteArray}{pos:Nat}{ts:List Tok}(hp:pos<s.size){t:Tok}{j:Nat}(h:jE s pos s[pos]=.ok (t,j)) :
  jq s (s.size-pos+1) pos ts=jq s (s.size-skipPos s j+1) (skipPos s j) (ts++[t]):=by
 have hb:=Hr hp h;have hk:=skipPos_ge s j hb.2;have:jq s (s.size-pos+1) pos ts=jq s (s.size-pos) (skipPos s j) (ts++[t]):=by simp[jq,hp,h]
 rw[this];exact ql s _ _ _ (by omega)
theorem UC{s:ByteArray}{pos:Nat}{ts:List Tok}(hp:¬pos<s.size):jq s (s.size-pos+1) pos ts=.ok (ts++[Ja s]):=by
 simp[jq,hp]
set_option maxHeartbeats 2000000 in
theorem UA(s:ByteArray)(w:World)(h:¬60000<s.size)(hsp:¬0≤jb s):Calls Tryz.prog 42 #[.string s] w (Scanned w (scanP s)):=by
 have HR:Hid (scanP s=jq s (s.size+1) (skipPos s 0) []):=by
  show scanP s=_;unfold scanP;rw[if_neg h,if_neg hsp]
 have hs:(s.size:Int)≤60000:=by omega
 have hdl:decide ((60000:Int)<(s.size:Int))=false:=by simp;omega
 go_enter Tryz.func42,Tryz.ntmps42
 go_wp2_with fail
 refine(zL s _ (by omega)).mono ?_;rintro e w1 ⟨rfl,hb⟩;have hres:aK w1 w.heap.size:=by
  unfold aK;rw[hb.block w.heap.size (by simp)];exact heap_alloc_new w _
 have hbl:Below w.heap.size w w1:=((Below.refl _ _).alloc (Nat.le_refl _) _).trans (hb.mono (by simp));have hsz:w.heap.size<w1.heap.size:=by have:=hb.size;simp at this;omega
 have hspn:jb s<0:=by omega
 generalize jb s=sp at *;have hds:decide (0≤sp)=false:=by simp;omega
 generalize hr:w.heap.size=r at *;clear hb
 go_wp2_with fail
 have hsc:Sc (w1.alloc (.cells #[.string s,.int .i64 0,.slice none 0 0] 142)) w1.heap.size s 0 []:=⟨.slice none 0 0,heap_alloc_new w1 _,World.ownsRow_nil _ _ _ _⟩;have hb2:Below w1.heap.size w1 (w1.alloc (.cells #[.string s,.int .i64 0,.slice none 0 0] 142)):=(Below.refl _ _).alloc (Nat.le_refl _) _;generalize w1.alloc (.cells #[.string s,.int .i64 0,.slice none 0 0] 142)=w2 at *;generalize w1.heap.size=b at *;refine(Pj b 0 s [] _ hsc (Nat.zero_le _) (by omega)).mono ?_;rintro e w3 ⟨rfl,hsc3,hb3⟩;have hb4:=hb2.trans hb3;have hpos:=skipPos_ge s 0 (Nat.zero_le _);have HS:Hid (scanP s=jq s (s.size-skipPos s 0+1) (skipPos s 0) []):=HR.out.trans (ql s _ _ _ (by omega));clear hsc hb2 hb3 HR;generalize skipPos s 0=p0 at *
 go_wp2_with fail
 go_loopg [] (s.size-p0) (fun g wr=>∃(pos:Nat) (ts:List Tok),pos≤s.size∧s.size-pos=g∧ts.length≤pos∧Sc wr b s pos ts∧Below b w1 wr∧scanP s=jq s (s.size-pos+1) pos ts)
 case atStart=>exact⟨p0,[],hpos.2,rfl,by simp,hsc3,hb4,HS.out⟩
 case round=>
  obtain⟨pos,ts,hp,hg,hts,hsc,hbw,hscan⟩:=hrel;have HG:=Lib.hid hg;have HN:=Lib.hid hscan;clear hg hscan hsc3 hb4 HS;have hsc0:=hsc;obtain⟨v,hb,ho⟩:=hsc;have c1:=hb.c1;have c2:=hb.c2;have hresr:aK wr r:=by unfold aK;rw[hbw.block r hsz];exact hres
  by_cases hlt:pos<s.size
  ·have hd:decide ((pos:Int)<(s.size:Int))=true:=by simp;omega
   go_wp2_with fail
   refine(acS b pos s ts _ hsc0 hlt (by omega) (by omega)).mono ?_;rintro e w4 hgot;cases hone:jE s pos s[pos] with
   |error c=>
    rw[hone] at hgot;obtain⟨rfl,hb5⟩:=hgot;have HO:=Lib.hid hone;have hbb:=hbw.trans hb5;have hres4:aK w4 r:=by unfold aK;rw[hbb.block r hsz];exact hres
    clear hone hb5 c1 c2 hb ho hsc0 hresr;have f0:=hres4.f 0;have f1:=hres4.f 1;have d0:=hres4.c0;have d1:=hres4.c1;have hc0:=YC HO.out;have HF:=Lib.hid (UB (ts:=ts) hlt HO.out)
    go_wp2_with fail
    refine bodyPost_ret (v:=.tuple #[.slice none 0 0,.agg #[.int .i64 c,.int .i64 (pos:Int)]]) (by simp[results,Tryz.results42,go_sem,d0,d1]) rfl ?_;rw[HN.out,HF.out];exact⟨rfl,hr ▸ (((hbl.trans (hbb.mono (by omega))).setCell (by simp;omega) _).setCell (by simp;omega) _)⟩
   |ok q=>
    obtain⟨t,j⟩:=q;rw[hone] at hgot;obtain⟨rfl,hsc5,hb5⟩:=hgot;have hbd:=Hr hlt hone;have hk:=skipPos_ge s j hbd.2;have HF:=Lib.hid (Wz (ts:=ts) hlt hone);clear hone c1 c2 hb ho hsc0 hresr
    go_wp2_with fail
    refine(Pj b j s _ _ hsc5 hbd.2 (by omega)).mono ?_;rintro e w5 ⟨rfl,hsc6,hb6⟩;generalize skipPos s j=q at *
    go_wp2_with fail
    go_roundg (s.size-q)
    case measure=>have:=HG.out;omega
    case rel=>exact⟨q,ts++[t],hk.2,rfl,by simp;omega,hsc6,(hbw.trans hb5).trans hb6,HN.out.trans HF.out⟩
  ·have hd:decide ((pos:Int)<(s.size:Int))=false:=by simp;omega
   have HF:=Lib.hid (UC (ts:=ts) hlt)
   go_wp2_with fail
   refine(RU b s pos ts 0 0 ⟨#[]⟩ s.size _ hsc0 (by omega) (.inr (.inr (by decide)))).mono ?_;rintro e w4 ⟨rfl,hsc5,hb5⟩;obtain⟨v4,hb6,ho6⟩:=hsc5;have hbb:=hbw.trans hb5;have hres4:aK w4 r:=by unfold aK;rw[hbb.block r hsz];exact hres
   rw[List.length_append] at ho6;obtain⟨g,cap,hv⟩:=Cv ho6;rw[hv] at ho6 hb6;clear hv c1 c2 hb ho hsc0 hresr hb5;have f0:=hres4.f 0;have f1:=hres4.f 1;have d0:=hres4.c0;have d1:=hres4.c1;have c2:=hb6.c2;have hsz4:r<w4.heap.size:=by have:=hb6.lt;omega
   have hbl4:=hbl.trans (hbb.mono (by omega));have HO6:=Lib.hid ho6;clear ho6 hbb hbw
   go_wp2_with fail
   refine bodyPost_ret (v:=.tuple #[.slice (some ⟨g,0,none⟩) (ts.length+1) cap,.agg #[.int .i64 0,.int .i64 0]]) (by simp[results,Tryz.results42,go_sem,d0,d1]) rfl ?_;rw[HN.out,HF.out];refine⟨_,rfl,?_,hr ▸ ((hbl4.setCell (by simp;omega) _).setCell (by simp;omega) _)⟩;have ho7:=ownsRow_setCell_below (ownsRow_setCell_below HO6.out (a:=⟨r,0,none⟩) (by simp;omega) (.int .i64 0)) (a:=⟨r,1,none⟩) (by simp;omega) (.int .i64 0);rw[List.length_append,hr];exact Hl ho7 (by omega)
theorem scan_any(s:ByteArray)(w:World)(hs:s.size≤maxLen):Calls Tryz.prog 42 #[.string s] w (Scanned w (scanP s)):=by
 by_cases h:60000<s.size
 ·exact M9 s w h hs
 ·by_cases hsp:0≤jb s
  ·exact Gn s w h hsp
  ·exact UA s w h hsp
end Go.Proofs.YtijcobeebaceoaaGreatDoor.Lx
